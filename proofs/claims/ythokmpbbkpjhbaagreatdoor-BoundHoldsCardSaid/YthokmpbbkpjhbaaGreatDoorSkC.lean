/- Parts of the proofs of ScreenSound, BoundHolds: the walk through the code, and plain Lean. No condition. -/
import Derived.Test.YthokmpbbkpjhbaaGreatDoorSkA
import Derived.Test.YthokmpbbkpjhbaaGreatDoorProg
import Derived.Test.YthokmpbbkpjhbaaGreatDoorSkB
import Derived.WalkKit
import Derived.LaidEql
import Derived.Stop.Asserts
import Derived.RowKitTokens
import Derived.Elder7
set_option linter.unusedVariables false
set_option linter.unusedSimpArgs false
namespace Go.Proofs.YthokmpbbkpjhbaaGreatDoor
open Go Go.Lt
set_option maxRecDepth 10000
set_option linter.unusedVariables false
attribute [local irreducible] W WL AC
open Tryz
variable {c0 : Cx} {G : Gm} {F : List En} {sg : Sto} {v1 v2 v3 v4 v5 v6 v7 v8 v9 v10 v11 v12 v13 v14 v15 v16 v17 v18 v19 v20 v21 v22 v23 v24 v25 v26 v27 v28 v29 v30 v31 v32 v33 v34 v35 v36 v37 v38 v39 v40 v41 v42 v43 v44 v45 v46 v47 v48 v49 v50 v51 v52 v53 v54 v55 v56 v57 v58 v59 v60 : Value}
def f_basew_Silent (p0 : Int) : Option (Bool) :=
 (andE (decide (p0 ≥ 0)) (some (decide (p0 < 32)))).bind fun b =>
 (orE b ((andE (decide (p0 ≥ 127)) (some (decide (p0 ≤ 159)))).bind fun a =>
 some a)).bind fun c =>
 some c
theorem c_basew_Silent (e : Own c0 G F) (a : Int) {r : Bool} (H : f_basew_Silent a = some r) :
    Calls prog 180 #[J a] c0.w (Post c0 fun c v => Own c G (F) ∧ v = B r) := by
 unfold f_basew_Silent at H
 refine en func180 rfl rfl (sr (va (B false) (wln (W.seq (bn H fun z t H => bn H fun s n H => W.join (Jn c0 fun c l => Own c G (F) ∧ l = [(2, B s)]) ?_ ?_)))))
 ·clear H
  refine W.region (va (J a) (va (B (decide (a ≥ 0))) ?_))
  rcases bo (decide (a ≥ 0)) with f | f
  ·have x := anT f t
   refine vb f (wn (va (J a) (wn (va (B (decide (a < 32))) ?_))))
   obtain rfl := si x
   refine va (B (decide (a < 32))) ?_
   rcases bo (decide (a < 32)) with g | g
   ·obtain rfl := orT g n
    exact vb g (ps (ps (ps (ps (ps (ps (va (B true) (va (B true) (wln ⟨c0, _, _, rfl, pt, us, e, rfl⟩)))))))))
   have i := orF g n
   refine vb g (wn (va (J a) (wn (va (B (decide (a ≥ 127))) (wn (bn i fun m u i => ?_))))))
   rcases bo (decide (a ≥ 127)) with h | h
   ·have y := anT h u
    refine vb h (wn (va (J a) (wn (va (B (decide (a ≤ 159))) (wn ?_)))))
    obtain rfl := si y
    refine va (B (decide (a ≤ 159))) ?_
    obtain rfl := si i
    exact va (B (decide (a ≤ 159))) (va (B (decide (a ≤ 159))) (wln ⟨c0, _, _, rfl, pt, us, e, rfl⟩))
   obtain rfl := anF h u
   refine vb h (ps (ps (wn (va (B false) ?_))))
   obtain rfl := si i
   exact va (B false) (va (B false) (wln ⟨c0, _, _, rfl, pt, us, e, rfl⟩))
  obtain rfl := anF f t
  refine vb f (ps (ps (va (B false) ?_)))
  have j : false = false := rfl
  have d := orF j n
  refine vb j (wn (va (J a) (wn (va (B (decide (a ≥ 127))) (wn (bn d fun m k d => ?_))))))
  rcases bo (decide (a ≥ 127)) with b | b
  ·have o := anT b k
   refine vb b (wn (va (J a) (wn (va (B (decide (a ≤ 159))) (wn ?_)))))
   obtain rfl := si o
   refine va (B (decide (a ≤ 159))) ?_
   obtain rfl := si d
   exact va (B (decide (a ≤ 159))) (va (B (decide (a ≤ 159))) (wln ⟨c0, _, _, rfl, pt, us, e, rfl⟩))
  obtain rfl := anF b k
  refine vb b (ps (ps (wn (va (B false) ?_))))
  obtain rfl := si d
  exact va (B false) (va (B false) (wln ⟨c0, _, _, rfl, pt, us, e, rfl⟩))
 rintro E M ⟨q, A, _, rfl, D, rfl, p, rfl⟩
 refine nrm (W.ret ?_)
 obtain rfl := si H
 exact r1 ⟨_, q, rfl, rfl, pt, p, rfl⟩
def f_cursor_Back (p0 : G_api_Cursor) : Option (G_api_Cursor) :=
 (if (decide (p0.Col > 0)) = true then
 some ((w64 (p0.Col - 1)))
 else
 some (p0.Col)).bind fun a =>
 some (⟨p0.Row, a, false⟩ : G_api_Cursor)
theorem c_cursor_Back (s : Own c0 G F) (a : G_api_Cursor) {r : G_api_Cursor} (H : f_cursor_Back a = some r) :
    Calls prog 226 #[.agg #[I a.Row, I a.Col, B a.Pending]] c0.w (Post c0 fun c v => Own c G (F) ∧ v = .agg #[I r.Row, I r.Col, B r.Pending]) := by
 unfold f_cursor_Back at H
 refine en func226 rfl rfl (sr (me (al 24 [I a.Row, I a.Col, B a.Pending] s) ?_))
 rintro v4 E P ⟨e, rfl, t⟩
 refine me (al 24 [I 0, I 0, B false] t) ?_
 rintro v8 M R ⟨o, rfl, u⟩
 refine wln (sr (va (.pointer (some ⟨e, 2, none⟩)) (md (sC 4 2 (B false) [I a.Row, I a.Col, B false] 1 u ⟨rfl, trivial⟩) ?_)))
 rintro i z f
 refine wln (bn H fun d b k => W.seqJ (Jn i fun c l => Own c G ((Eb o 24 [I 0, I 0, B false]) :: (Eb e 24 [I a.Row, I d, B false]) :: F) ∧ l = [(1, Q e), (2, Q o)]) ?_ ?_)
 ·refine sr (va (.pointer (some ⟨e, 1, none⟩)) (vx (le1 1 underlying3 (f.on 1 rfl)) (va (B (decide (a.Col > 0))) (wln (cn b (fun q b => ?_) (fun q b => ?_))))))
  ·refine W.region (va (.pointer (some ⟨e, 1, none⟩)) (vx (le1 1 underlying3 (f.on 1 rfl)) (va (I (w64 (a.Col - 1))) (va (.pointer (some ⟨e, 1, none⟩)) (md (sC 3 1 (I (w64 (a.Col - 1))) [I a.Row, I (w64 (a.Col - 1)), B false] 1 f ⟨rfl, trivial⟩) ?_)))))
   rintro p A m
   refine wln ?_
   obtain rfl := si b
   exact ⟨p, _, _, rfl, pt, us, m, rfl⟩
  refine W.skip (nrm ?_)
  obtain rfl := si b
  exact ⟨i, _, _, rfl, pt, us, f, rfl⟩
 rintro N S ⟨x, y, _, rfl, l16, rfl, g, rfl⟩
 refine sr (vx (leN 24 0 [I a.Row, I d, B false] (g.on 1 rfl)) (md (sA 24 [I a.Row, I d, B false] 0 g ⟨rfl, rfl, rfl, trivial⟩) ?_))
 rintro j D h
 refine wln (W.ret ?_)
 obtain rfl := si k
 have n := h.sD 2 []
 exact retC (c := j) (vs := [I a.Row, I d, B false]) rfl (by kernel_rfl) (by kernel_rfl) (by kernel_rfl) (h.on 0 rfl _ rfl).1 ⟨_, j, rfl, rfl, pt, n, rfl⟩
def f_ctrl_Do (sg : Sto) (p0 : Option Nat) (p1 : Int) : Option (Sto × Bool) :=
 (f_basew_Silent p1).bind fun s =>
 if (!s) = true then
 some (sg, false)
 else
 (orE p0.isNone ((p0).bind fun j =>
 (sg.place_Pen[j]?).bind fun l =>
 some l.G.isNone)).bind fun i =>
 if i = true then
 some (sg, true)
 else
 (p0).bind fun k =>
 (sg.place_Pen[k]?).bind fun a =>
 (f_grid_Grid_Wide sg a.G).bind fun m =>
 (f_grid_Grid_High sg a.G).bind fun n =>
 (f_cursor_Hold a.At m n).bind fun h =>
 (if (p1 == 13) = true then
 (f_cursor_Return h).bind fun o =>
 (p0).bind fun d =>
 (sg.place_Pen[d]?).bind fun f =>
 (sg.set_place_Pen d (⟨f.G, o, f.Auto⟩ : G_place_Pen)).bind fun b =>
 some (b)
 else
 if (p1 == 10) = true then
 (f_place_Pen_NewLine sg p0).bind fun p =>
 some (p)
 else
 if (p1 == 8) = true then
 (f_cursor_Back h).bind fun q =>
 (p0).bind fun e =>
 (sg.place_Pen[e]?).bind fun g =>
 (sg.set_place_Pen e (⟨g.G, q, g.Auto⟩ : G_place_Pen)).bind fun c =>
 some (c)
 else
 some (sg)).bind fun r =>
 some (r, true)
theorem c_ctrl_Do (O0 : Own c0 G F) (g : Rel c0 sg G) (p0 : Option Nat) (j : Int) {r : Sto × Bool} (S : Pt 2 c0 v1 p0) (H : f_ctrl_Do sg p0 j = some r) :
    Calls prog 181 #[v1, J j] c0.w (Post c0 fun c v => ∃ G_ : Gm, Own c G_ (F) ∧ Rel c r.1 G_ ∧ v = B r.2) := by
 unfold f_ctrl_Do at H
 refine en func181 rfl rfl (sr (va (B false) (wln (W.seq (sr (va (J j) (bn H fun n5 h3 H => cl (c_basew_Silent O0 j h3) ?_)))))))
 rintro v9 c8 o ⟨O5, rfl⟩
 refine va (B (!n5)) (wln (cn H (fun s4 H => ?_) (fun s4 H => ?_)))
 ·refine sr (va (B false) (wln (W.ret (thr ?_))))
  obtain rfl := si H
  exact r1 ⟨_, c8, rfl, rfl, pt, G, O5, g.m, rfl⟩
 refine W.skip (nrm (W.seq (W.seq (bn H fun b3 s1 H => W.join (Jn c8 fun c l => Own c G (F) ∧ l = [(0, v1), (1, J j), (17, B b3)]) ?_ ?_))))
 ·clear H
  refine W.region (va (v1) (vr (B p0.isNone) (by rcases S.m.cs with ⟨y, z⟩ | ⟨b_, y, z⟩ <;> (subst y; rw [z]; kernel_rfl)) ?_))
  rcases bo (p0.isNone) with x | x
  ·obtain rfl := orT x s1
   exact vb x (ps (ps (ps (ps (ps (va (B true) (wln ⟨c8, _, _, rfl, pt, us, O5, rfl⟩)))))))
  have u := orF x s1
  refine vb x (wn (va (v1) (wn (bn u fun z5 u4 u => ?_))))
  obtain ⟨k1, rfl, t4⟩ := ((S.mono o)).get u4
  refine va (Q k1) (wn (va (Q k1) (wn (bn u fun t0 v4 u => ?_))))
  obtain ⟨v18, x4, w4⟩ := Rel.open_place_Pen (g.mono o) v4 t4
  refine vx (le1 0 underlying35 (O5.gon x4 0 rfl)) (wn (vr (B t0.G.isNone) (by rcases (w4).cs with ⟨y, z⟩ | ⟨b_, y, z⟩ <;> (subst y; rw [z]; kernel_rfl)) ?_))
  obtain rfl := si u
  exact va (B t0.G.isNone) (wln ⟨c8, _, _, rfl, pt, us, O5, rfl⟩)
 rintro e_ w_ ⟨m1, v6, _, rfl, n, rfl, a1, rfl⟩
 refine nrm (cn H (fun y4 H => ?_) (fun y4 H => ?_))
 ·refine sr (va (B true) (wln (W.ret (thr ?_))))
  obtain rfl := si H
  exact r1 ⟨_, m1, rfl, rfl, pt, G, a1, g.m, rfl⟩
 refine W.skip (nrm (W.seq (bn H fun a6 z4 H => bn H fun d a5 H => bn H fun s t1 H => bn H fun t l0 H => bn H fun b R H => W.join (Jn m1 fun c l => ∃ P, Own c G ((Eb P 24 [I b.Row, I b.Col, B b.Pending]) :: F) ∧ l = [(0, v1), (1, J j), (5, Q P)]) ?_ ?_)))
 ·clear H
  refine rD [] (Kp G []) a1 ?_
  intro i4 w1 d0
  have x0 : Kp G [] i4 := (Kp.nil d0)
  refine ta 0 (v1) ?_
  obtain ⟨k, rfl, b5⟩ := ((S.mono (o.trans (n.trans w1)))).get z4
  refine ta 1 (Q k) (ta 2 (.pointer (some ⟨k, 1, none⟩)) ?_)
  obtain ⟨v39, m0, A⟩ := Rel.open_place_Pen (g.mono (o.trans (n.trans w1))) a5 b5
  refine tkx 3 x0 (fun c' u1 hk => leN 24 1 [I d.At.Row, I d.At.Col, B d.At.Pending] (hk.gon m0 0 rfl)) (ta 4 (Q k) (ta 5 (Q k) (ta 6 (Q k) (tkx 7 x0 (fun c' u1 hk => le1 0 underlying35 (hk.gon m0 0 rfl)) (ta 9 (Q k) (ta 10 (Q k) (ta 11 (Q k) (tkx 12 x0 (fun c' u1 hk => le1 0 underlying35 (hk.gon m0 0 rfl)) (mn2 8 15 ?_ ?_)))))))))
  ·refine gc 8 (c_grid_Grid_Wide d0 g.m d.G A t1) ?_
   rintro v47 j4 w6 ⟨e0, rfl⟩
   have c5 : Kp G [] j4 := (Kp.nil e0)
   refine ⟨.inr c5, mn2 13 15 ?_ ?_⟩
   ·refine gc 13 (c_grid_Grid_High e0 g.m d.G A.m l0) ?_
    rintro v54 k4 x6 ⟨f0, rfl⟩
    have d5 : Kp G [] k4 := (Kp.nil f0)
    refine ⟨.inr d5, mn2 14 15 ?_ ?_⟩
    ·refine gc 14 (c_cursor_Hold f0 d.At s t R) ?_
     rintro g7 l4 y6 ⟨b1, rfl⟩
     have e5 : Kp G [] l4 := (Kp.nil b1)
     refine ⟨.inr e5, o1 15 (gm 15 (al 24 [I 0, I 0, B false] b1) ?_)⟩
     rintro h7 m4 z6 ⟨e4, rfl, c1⟩
     have f5 : Kp G [] m4 := (Kp.nil c1)
     refine ⟨.inr f5, o1 16 (gD 16 (sA 24 [I b.Row, I b.Col, B b.Pending] 0 c1 ⟨rfl, rfl, rfl, trivial⟩) ?_)⟩
     rintro n1 a7 d1
     have g5 : Kp G [] n1 := (Kp.nil d1)
     exact ⟨.inr g5, dn (nrm ⟨n1, _, _, rfl, pt, us, e4, d1, rfl⟩)⟩
    refine gm 15 (al 24 [I 0, I 0, B false] f0) ?_
    rintro i7 n4 b7 ⟨f4, rfl, e1⟩
    have h5 : Kp G [] n4 := (Kp.nil e1)
    refine ⟨.inr h5, o1 14 (gc 14 (c_cursor_Hold e1 d.At s t R) ?_)⟩
    rintro j7 o4 c7 ⟨f1, rfl⟩
    have i5 : Kp G [] o4 := (Kp.nil f1)
    refine ⟨.inr i5, o1 16 (gD 16 (sA 24 [I b.Row, I b.Col, B b.Pending] 0 f1 ⟨rfl, rfl, rfl, trivial⟩) ?_)⟩
    rintro q1 d7 g1
    have j5 : Kp G [] q1 := (Kp.nil g1)
    exact ⟨.inr j5, dn (nrm ⟨q1, _, _, rfl, pt, us, f4, g1, rfl⟩)⟩
   refine gm 15 (al 24 [I 0, I 0, B false] e0) ?_
   rintro k7 p4 e7 ⟨g4, rfl, h1⟩
   have k5 : Kp G [] p4 := (Kp.nil h1)
   refine ⟨.inr k5, o1 13 (gc 13 (c_grid_Grid_High h1 g.m d.G A.m l0) ?_)⟩
   rintro l7 q4 f7 ⟨i1, rfl⟩
   have l5 : Kp G [] q4 := (Kp.nil i1)
   refine ⟨.inr l5, o1 14 (gc 14 (c_cursor_Hold i1 d.At s t R) ?_)⟩
   rintro m6 s2 d6 ⟨j1, rfl⟩
   have u3 : Kp G [] s2 := (Kp.nil j1)
   refine ⟨.inr u3, o1 16 (gD 16 (sA 24 [I b.Row, I b.Col, B b.Pending] 0 j1 ⟨rfl, rfl, rfl, trivial⟩) ?_)⟩
   rintro g0 e6 T
   have v3 : Kp G [] g0 := (Kp.nil T)
   exact ⟨.inr v3, dn (nrm ⟨g0, _, _, rfl, pt, us, g4, T, rfl⟩)⟩
  refine gm 15 (al 24 [I 0, I 0, B false] d0) ?_
  rintro n6 t2 f6 ⟨q2, rfl, U⟩
  have w3 : Kp G [] t2 := (Kp.nil U)
  refine ⟨.inr w3, o1 8 (gc 8 (c_grid_Grid_Wide U g.m d.G A.m t1) ?_)⟩
  rintro o6 u2 g6 ⟨X, rfl⟩
  have x3 : Kp G [] u2 := (Kp.nil X)
  refine ⟨.inr x3, o1 13 (gc 13 (c_grid_Grid_High X g.m d.G A.m l0) ?_)⟩
  rintro p6 v2 h6 ⟨Z, rfl⟩
  have y3 : Kp G [] v2 := (Kp.nil Z)
  refine ⟨.inr y3, o1 14 (gc 14 (c_cursor_Hold Z d.At s t R) ?_)⟩
  rintro q6 w2 i6 ⟨a0, rfl⟩
  have z3 : Kp G [] w2 := (Kp.nil a0)
  refine ⟨.inr z3, o1 16 (gD 16 (sA 24 [I b.Row, I b.Col, B b.Pending] 0 a0 ⟨rfl, rfl, rfl, trivial⟩) ?_)⟩
  rintro h0 j6 b0
  have a4 : Kp G [] h0 := (Kp.nil b0)
  exact ⟨.inr a4, dn (nrm ⟨h0, _, _, rfl, pt, us, q2, b0, rfl⟩)⟩
 rintro e_ w_ ⟨i0, u5, _, rfl, i, rfl, P, h, rfl⟩
 refine nrm (bn H fun b4 a b2 => W.seqJ (Jn i0 fun c l => ∃ G_, Own c G_ ((Eb P 24 [I b.Row, I b.Col, B b.Pending]) :: F) ∧ l = [] ∧ Rel c b4 G_) ?_ ?_)
 ·refine sr (va (J j) (wln (W.block (sr (va (B (j == 13)) (va (B (j == 13)) (wln (cn a (fun c3 a => ?_) (fun c3 a => ?_)))))))))
  ·refine W.region (va (v1) (vx (leN 24 0 [I b.Row, I b.Col, B b.Pending] (h.on 0 rfl)) (bn a fun e d3 a => cl (c_cursor_Return h b d3) ?_)))
   rintro r6 s5 D ⟨c2, rfl⟩
   refine bn a fun b6 e3 a => ?_
   obtain ⟨p, rfl, j0⟩ := ((S.mono (o.trans (n.trans (i.trans D))))).get e3
   refine va (Q p) (va (.pointer (some ⟨p, 1, none⟩)) (bn a fun u0 f3 a => ?_))
   obtain ⟨M, i3, g3⟩ := Rel.open_place_Pen (g.mono (o.trans (n.trans (i.trans D)))) f3 j0
   refine md (gB 24 1 [I e.Row, I e.Col, B e.Pending] [M, I e.Row, I e.Col, B e.Pending, B u0.Auto] 0 c2 i3 ⟨rfl, rfl, rfl, trivial⟩) ?_
   rintro x2 q0 d2
   refine bn a fun c4 j3 a => ?_
   obtain ⟨x1, e2, m2, w5, p5⟩ := Rel.put_place_Pen d2 (g.mono (o.trans (n.trans (i.trans (D.trans q0))))) (E' := [(Eb p 42 [M, I e.Row, I e.Col, B e.Pending, B u0.Auto])]) j3 ⟨p, M, (tm j0), rfl, (g3.mono q0)⟩
   refine WL.nil (bkn (nrm ?_))
   obtain rfl := si a
   exact ⟨x2, _, _, rfl, pt, us, x1, e2, rfl, m2⟩
  refine sr (va (B (j == 10)) (va (B (j == 10)) (wln (cn a (fun k3 a => ?_) (fun k3 a => ?_)))))
  ·refine W.region (va (v1) (bn a fun u6 l3 a => cl (c_place_Pen_NewLine h g.m p0 S.m l3) ?_))
   rintro s6 y2 k6 ⟨y1, f2, n2, rfl⟩
   refine WL.nil (bkn (nrm ?_))
   obtain rfl := si a
   exact ⟨y2, _, _, rfl, pt, us, y1, f2, rfl, n2⟩
  refine sr (va (B (j == 8)) (va (B (j == 8)) (wln (cn a (fun m3 a => ?_) (fun m3 a => ?_)))))
  ·refine W.region (va (v1) (vx (leN 24 0 [I b.Row, I b.Col, B b.Pending] (h.on 0 rfl)) (bn a fun f n3 a => cl (c_cursor_Back h b n3) ?_)))
   rintro t6 t5 E ⟨g2, rfl⟩
   refine bn a fun c6 o3 a => ?_
   obtain ⟨q, rfl, k0⟩ := ((S.mono (o.trans (n.trans (i.trans E))))).get o3
   refine va (Q q) (va (.pointer (some ⟨q, 1, none⟩)) (bn a fun v0 p3 a => ?_))
   obtain ⟨N, s3, q3⟩ := Rel.open_place_Pen (g.mono (o.trans (n.trans (i.trans E)))) p3 k0
   refine md (gB 24 1 [I f.Row, I f.Col, B f.Pending] [N, I f.Row, I f.Col, B f.Pending, B v0.Auto] 0 g2 s3 ⟨rfl, rfl, rfl, trivial⟩) ?_
   rintro z2 s0 i2
   refine bn a fun d4 t3 a => ?_
   obtain ⟨z1, j2, o2, x5, q5⟩ := Rel.put_place_Pen i2 (g.mono (o.trans (n.trans (i.trans (E.trans s0))))) (E' := [(Eb q 42 [N, I f.Row, I f.Col, B f.Pending, B v0.Auto])]) t3 ⟨q, N, (tm k0), rfl, (q3.mono s0)⟩
   refine WL.nil (bkn (nrm ?_))
   obtain rfl := si a
   exact ⟨z2, _, _, rfl, pt, us, z1, j2, rfl, o2⟩
  refine W.skip (bkn (nrm ?_))
  obtain rfl := si a
  exact ⟨i0, _, _, rfl, pt, us, G, h, rfl, g.m⟩
 rintro e_ w_ ⟨a3, v5, _, rfl, l6, rfl, a2, k2, rfl, p2⟩
 refine sr (va (B true) (wln (W.ret ?_)))
 obtain rfl := si b2
 have l2 := k2.sD 1 []
 exact r1 ⟨_, a3, rfl, rfl, pt, a2, l2, p2, rfl⟩
def f_linotyperef18_Silent (p0 : Int) : Option (Bool) :=
 (andE (decide (p0 ≥ 0)) (some (decide (p0 ≤ 31)))).bind fun b =>
 (orE b ((andE (decide (p0 ≥ 127)) (some (decide (p0 ≤ 159)))).bind fun a =>
 some a)).bind fun c =>
 some c
def f_linotyperef36_Do (p0 : G_linotyperef34_Pen) (p1 : Int) : Option (G_linotyperef34_Pen × Bool) :=
 (if (p1 == 13) = true then
 (f_linotyperef34_Pen_Hold p0).bind fun f =>
 some (f.L, f.At.Row, 0, false, f.Auto)
 else
 some (p0.L, p0.At.Row, p0.At.Col, p0.At.Pending, p0.Auto)).bind fun b =>
 (if (p1 == 10) = true then
 (f_linotyperef34_Pen_NewLine (⟨b.1, (⟨b.2.1, b.2.2.1, b.2.2.2.1⟩ : G_api_Cursor), b.2.2.2.2⟩ : G_linotyperef34_Pen)).bind fun c =>
 some (c.L, c.At.Row, c.At.Col, c.At.Pending, c.Auto)
 else
 some (b.1, b.2.1, b.2.2.1, b.2.2.2.1, b.2.2.2.2)).bind fun a =>
 (if (p1 == 8) = true then
 (f_linotyperef34_Pen_Hold (⟨a.1, (⟨a.2.1, a.2.2.1, a.2.2.2.1⟩ : G_api_Cursor), a.2.2.2.2⟩ : G_linotyperef34_Pen)).bind fun e =>
 some (e.L, e.At.Row, (imax 0 (w64 (e.At.Col - 1))), false, e.Auto)
 else
 some (a.1, a.2.1, a.2.2.1, a.2.2.2.1, a.2.2.2.2)).bind fun d =>
 (f_linotyperef18_Silent p1).bind fun g =>
 some ((⟨d.1, (⟨d.2.1, d.2.2.1, d.2.2.2.1⟩ : G_api_Cursor), d.2.2.2.2⟩ : G_linotyperef34_Pen), g)
def f_cluster_Cluster_Len__widen_Cluster_4 (p0 : G_cluster_Cluster) : Option (Int) :=
 if false = true then
 some 0
 else
 some p0.n
theorem c_cluster_Cluster_Len__widen_Cluster_4 {b : Nat} {r0_0 : Value} {r0_1 : Value} {r0_2 : Value} {r0_3 : Value} {r0_21 : Value} {r0_22 : Value} {r0_23 : Value} (a : G_cluster_Cluster) (e : Own c0 G ((Eb b 133 [r0_0, r0_1, r0_2, r0_3, J a.text.1, J a.text.2.1, J a.text.2.2.1, J a.text.2.2.2.1, J a.text.2.2.2.2.1, J a.text.2.2.2.2.2.1, J a.text.2.2.2.2.2.2.1, J a.text.2.2.2.2.2.2.2.1, J a.text.2.2.2.2.2.2.2.2.1, J a.text.2.2.2.2.2.2.2.2.2.1, J a.text.2.2.2.2.2.2.2.2.2.2.1, J a.text.2.2.2.2.2.2.2.2.2.2.2.1, J a.text.2.2.2.2.2.2.2.2.2.2.2.2.1, J a.text.2.2.2.2.2.2.2.2.2.2.2.2.2.1, J a.text.2.2.2.2.2.2.2.2.2.2.2.2.2.2.1, J a.text.2.2.2.2.2.2.2.2.2.2.2.2.2.2.2, I a.n, r0_21, r0_22, r0_23]) :: F)) {r : Int} (H : f_cluster_Cluster_Len__widen_Cluster_4 a = some r) :
    Calls prog 154 #[.pointer (some ⟨b, 4, none⟩)] c0.w (Post c0 fun c v => Own c G ((Eb b 133 [r0_0, r0_1, r0_2, r0_3, J a.text.1, J a.text.2.1, J a.text.2.2.1, J a.text.2.2.2.1, J a.text.2.2.2.2.1, J a.text.2.2.2.2.2.1, J a.text.2.2.2.2.2.2.1, J a.text.2.2.2.2.2.2.2.1, J a.text.2.2.2.2.2.2.2.2.1, J a.text.2.2.2.2.2.2.2.2.2.1, J a.text.2.2.2.2.2.2.2.2.2.2.1, J a.text.2.2.2.2.2.2.2.2.2.2.2.1, J a.text.2.2.2.2.2.2.2.2.2.2.2.2.1, J a.text.2.2.2.2.2.2.2.2.2.2.2.2.2.1, J a.text.2.2.2.2.2.2.2.2.2.2.2.2.2.2.1, J a.text.2.2.2.2.2.2.2.2.2.2.2.2.2.2.2, I a.n, r0_21, r0_22, r0_23]) :: F) ∧ v = I r) := by
 unfold f_cluster_Cluster_Len__widen_Cluster_4 at H
 refine en func154 rfl rfl (sr (va (I 0) (wln (W.seq (sr (va (.pointer (some ⟨b, 4, none⟩)) (va (B false) (wln (W.cond (t := false) (by kernel_rfl) (fun d => ?_) (fun d => ?_))))))))))
 ·cases d
 have H := ie d H
 refine W.skip (nrm (sr (va (.pointer (some ⟨b, 4, none⟩)) (va (.pointer (some ⟨b, 4, none⟩)) (va (.pointer (some ⟨b, 20, none⟩)) (vx (le1 20 underlying3 (e.on 0 rfl)) (va (I a.n) (wln (W.ret ?_)))))))))
 obtain rfl := si H
 exact r1 ⟨_, c0, rfl, rfl, pt, e, rfl⟩
def f_cluster_Cluster_Full__widen_Cluster_4 (p0 : G_cluster_Cluster) : Option (Bool) :=
 (f_cluster_Cluster_Len__widen_Cluster_4 p0).bind fun a =>
 some (a == 16)
theorem c_cluster_Cluster_Full__widen_Cluster_4 {b : Nat} {r0_0 : Value} {r0_1 : Value} {r0_2 : Value} {r0_3 : Value} {r0_21 : Value} {r0_22 : Value} {r0_23 : Value} (a : G_cluster_Cluster) (e : Own c0 G ((Eb b 133 [r0_0, r0_1, r0_2, r0_3, J a.text.1, J a.text.2.1, J a.text.2.2.1, J a.text.2.2.2.1, J a.text.2.2.2.2.1, J a.text.2.2.2.2.2.1, J a.text.2.2.2.2.2.2.1, J a.text.2.2.2.2.2.2.2.1, J a.text.2.2.2.2.2.2.2.2.1, J a.text.2.2.2.2.2.2.2.2.2.1, J a.text.2.2.2.2.2.2.2.2.2.2.1, J a.text.2.2.2.2.2.2.2.2.2.2.2.1, J a.text.2.2.2.2.2.2.2.2.2.2.2.2.1, J a.text.2.2.2.2.2.2.2.2.2.2.2.2.2.1, J a.text.2.2.2.2.2.2.2.2.2.2.2.2.2.2.1, J a.text.2.2.2.2.2.2.2.2.2.2.2.2.2.2.2, I a.n, r0_21, r0_22, r0_23]) :: F)) {r : Bool} (H : f_cluster_Cluster_Full__widen_Cluster_4 a = some r) :
    Calls prog 84 #[.pointer (some ⟨b, 4, none⟩)] c0.w (Post c0 fun c v => Own c G ((Eb b 133 [r0_0, r0_1, r0_2, r0_3, J a.text.1, J a.text.2.1, J a.text.2.2.1, J a.text.2.2.2.1, J a.text.2.2.2.2.1, J a.text.2.2.2.2.2.1, J a.text.2.2.2.2.2.2.1, J a.text.2.2.2.2.2.2.2.1, J a.text.2.2.2.2.2.2.2.2.1, J a.text.2.2.2.2.2.2.2.2.2.1, J a.text.2.2.2.2.2.2.2.2.2.2.1, J a.text.2.2.2.2.2.2.2.2.2.2.2.1, J a.text.2.2.2.2.2.2.2.2.2.2.2.2.1, J a.text.2.2.2.2.2.2.2.2.2.2.2.2.2.1, J a.text.2.2.2.2.2.2.2.2.2.2.2.2.2.2.1, J a.text.2.2.2.2.2.2.2.2.2.2.2.2.2.2.2, I a.n, r0_21, r0_22, r0_23]) :: F) ∧ v = B r) := by
 unfold f_cluster_Cluster_Full__widen_Cluster_4 at H
 refine en func84 rfl rfl (sr (va (B false) (wln (sr (va (.pointer (some ⟨b, 4, none⟩)) (bn H fun d h H => cl (c_cluster_Cluster_Len__widen_Cluster_4 a e h) ?_))))))
 rintro v8 g i ⟨f, rfl⟩
 refine va (B (d == 16)) (va (B (d == 16)) (wln (W.ret ?_)))
 obtain rfl := si H
 exact r1 ⟨_, g, rfl, rfl, pt, f, rfl⟩
def f_cluster_Cluster_Add__widen_Cluster_4 (p0 : G_cluster_Cluster) (p1 : Int) : Option (G_cluster_Cluster × Bool) :=
 (orE false ((f_cluster_Cluster_Full__widen_Cluster_4 p0).bind fun c =>
 some c)).bind fun b =>
 if b = true then
 some (p0, false)
 else
 (idx (a16 p0.text) p0.n).bind fun d =>
 (some (aset16 p0.text p0.n p1)).bind fun a =>
 some ((⟨a, (w64 (p0.n + 1))⟩ : G_cluster_Cluster), true)
theorem c_cluster_Cluster_Add__widen_Cluster_4 {d : Nat} {r0_0 : Value} {r0_1 : Value} {r0_2 : Value} {r0_3 : Value} {r0_21 : Value} {r0_22 : Value} {r0_23 : Value} (a : G_cluster_Cluster) (f : Int) (M : Own c0 G ((Eb d 133 [r0_0, r0_1, r0_2, r0_3, J a.text.1, J a.text.2.1, J a.text.2.2.1, J a.text.2.2.2.1, J a.text.2.2.2.2.1, J a.text.2.2.2.2.2.1, J a.text.2.2.2.2.2.2.1, J a.text.2.2.2.2.2.2.2.1, J a.text.2.2.2.2.2.2.2.2.1, J a.text.2.2.2.2.2.2.2.2.2.1, J a.text.2.2.2.2.2.2.2.2.2.2.1, J a.text.2.2.2.2.2.2.2.2.2.2.2.1, J a.text.2.2.2.2.2.2.2.2.2.2.2.2.1, J a.text.2.2.2.2.2.2.2.2.2.2.2.2.2.1, J a.text.2.2.2.2.2.2.2.2.2.2.2.2.2.2.1, J a.text.2.2.2.2.2.2.2.2.2.2.2.2.2.2.2, I a.n, r0_21, r0_22, r0_23]) :: F)) {r : G_cluster_Cluster × Bool} (H : f_cluster_Cluster_Add__widen_Cluster_4 a f = some r) :
    Calls prog 151 #[.pointer (some ⟨d, 4, none⟩), J f] c0.w (Post c0 fun c v => Own c G ((Eb d 133 [r0_0, r0_1, r0_2, r0_3, J r.1.text.1, J r.1.text.2.1, J r.1.text.2.2.1, J r.1.text.2.2.2.1, J r.1.text.2.2.2.2.1, J r.1.text.2.2.2.2.2.1, J r.1.text.2.2.2.2.2.2.1, J r.1.text.2.2.2.2.2.2.2.1, J r.1.text.2.2.2.2.2.2.2.2.1, J r.1.text.2.2.2.2.2.2.2.2.2.1, J r.1.text.2.2.2.2.2.2.2.2.2.2.1, J r.1.text.2.2.2.2.2.2.2.2.2.2.2.1, J r.1.text.2.2.2.2.2.2.2.2.2.2.2.2.1, J r.1.text.2.2.2.2.2.2.2.2.2.2.2.2.2.1, J r.1.text.2.2.2.2.2.2.2.2.2.2.2.2.2.2.1, J r.1.text.2.2.2.2.2.2.2.2.2.2.2.2.2.2.2, I r.1.n, r0_21, r0_22, r0_23]) :: F) ∧ v = B r.2) := by
 unfold f_cluster_Cluster_Add__widen_Cluster_4 at H
 refine en func151 rfl rfl (sr (va (B false) (wln (W.seq (W.seq (bn H fun u R H => W.join (Jn c0 fun c l => Own c G ((Eb d 133 [r0_0, r0_1, r0_2, r0_3, J a.text.1, J a.text.2.1, J a.text.2.2.1, J a.text.2.2.2.1, J a.text.2.2.2.2.1, J a.text.2.2.2.2.2.1, J a.text.2.2.2.2.2.2.1, J a.text.2.2.2.2.2.2.2.1, J a.text.2.2.2.2.2.2.2.2.1, J a.text.2.2.2.2.2.2.2.2.2.1, J a.text.2.2.2.2.2.2.2.2.2.2.1, J a.text.2.2.2.2.2.2.2.2.2.2.2.1, J a.text.2.2.2.2.2.2.2.2.2.2.2.2.1, J a.text.2.2.2.2.2.2.2.2.2.2.2.2.2.1, J a.text.2.2.2.2.2.2.2.2.2.2.2.2.2.2.1, J a.text.2.2.2.2.2.2.2.2.2.2.2.2.2.2.2, I a.n, r0_21, r0_22, r0_23]) :: F) ∧ l = [(0, .pointer (some ⟨d, 4, none⟩)), (1, J f), (10, B u)]) ?_ ?_))))))
 ·clear H
  refine W.region (va (.pointer (some ⟨d, 4, none⟩)) (va (B false) ?_))
  have y : false = false := rfl
  have m := orF y R
  refine vb y (wn (va (.pointer (some ⟨d, 4, none⟩)) (wn (bn m fun E S m => cl (c_cluster_Cluster_Full__widen_Cluster_4 a M S) ?_))))
  rintro v11 p b0 ⟨N, rfl⟩
  obtain rfl := si m
  exact va (B E) (wln ⟨p, _, _, rfl, pt, us, N, rfl⟩)
 rintro e_ w_ ⟨q, a0, _, rfl, d0, rfl, g, rfl⟩
 refine nrm (cn H (fun x H => ?_) (fun x H => ?_))
 ·refine sr (va (B false) (wln (W.ret (thr ?_))))
  obtain rfl := si H
  exact r1 ⟨_, q, rfl, rfl, pt, g, rfl⟩
 refine W.skip (nrm (W.seq (rD [9] (Kp G0 [(Eb d 133 [r0_0, r0_1, r0_2, r0_3, J a.text.1, J a.text.2.1, J a.text.2.2.1, J a.text.2.2.2.1, J a.text.2.2.2.2.1, J a.text.2.2.2.2.2.1, J a.text.2.2.2.2.2.2.1, J a.text.2.2.2.2.2.2.2.1, J a.text.2.2.2.2.2.2.2.2.1, J a.text.2.2.2.2.2.2.2.2.2.1, J a.text.2.2.2.2.2.2.2.2.2.2.1, J a.text.2.2.2.2.2.2.2.2.2.2.2.1, J a.text.2.2.2.2.2.2.2.2.2.2.2.2.1, J a.text.2.2.2.2.2.2.2.2.2.2.2.2.2.1, J a.text.2.2.2.2.2.2.2.2.2.2.2.2.2.2.1, J a.text.2.2.2.2.2.2.2.2.2.2.2.2.2.2.2, I a.n, r0_21, r0_22, r0_23])]) g ?_)))
 intro s e0 h
 have D : Kp G0 [(Eb d 133 [r0_0, r0_1, r0_2, r0_3, J a.text.1, J a.text.2.1, J a.text.2.2.1, J a.text.2.2.2.1, J a.text.2.2.2.2.1, J a.text.2.2.2.2.2.1, J a.text.2.2.2.2.2.2.1, J a.text.2.2.2.2.2.2.2.1, J a.text.2.2.2.2.2.2.2.2.1, J a.text.2.2.2.2.2.2.2.2.2.1, J a.text.2.2.2.2.2.2.2.2.2.2.1, J a.text.2.2.2.2.2.2.2.2.2.2.2.1, J a.text.2.2.2.2.2.2.2.2.2.2.2.2.1, J a.text.2.2.2.2.2.2.2.2.2.2.2.2.2.1, J a.text.2.2.2.2.2.2.2.2.2.2.2.2.2.2.1, J a.text.2.2.2.2.2.2.2.2.2.2.2.2.2.2.2, I a.n, r0_21, r0_22, r0_23])] s := (Kp.cons (h.on 0 rfl) Kp.nil0)
 refine ta 0 (.pointer (some ⟨d, 4, none⟩)) (ta 1 (.pointer (some ⟨d, 4, none⟩)) (ta 2 (.pointer (some ⟨d, 4, none⟩)) (ta 3 (.pointer (some ⟨d, 20, none⟩)) (tkx 4 D (fun P A U => le1 20 underlying3 (U.on 0 rfl)) (ta 5 (J f) (ta 6 (.pointer (some ⟨d, 4, none⟩)) (ta 7 (.pointer (some ⟨d, 4, none⟩)) (bn H fun X e H => AC.take 8 (.pointer (some ⟨d, 4 + a.n.toNat * 1, none⟩)) rfl (by kernel_rfl) (by kernel_rfl) (fun P A => (rx (by kernel_rfl) (run_indexA (k := .i64) underlying127 (by kernel_rfl) (idx_lt e).1 (idx_lt e).2 _))) (bn H fun b z H => o1 9 (gD 9 (Own.st (T := 21) (j := 4 + a.n.toNat * 1) (us := [J f]) (nw := [r0_0, r0_1, r0_2, r0_3, J b.1, J b.2.1, J b.2.2.1, J b.2.2.2.1, J b.2.2.2.2.1, J b.2.2.2.2.2.1, J b.2.2.2.2.2.2.1, J b.2.2.2.2.2.2.2.1, J b.2.2.2.2.2.2.2.2.1, J b.2.2.2.2.2.2.2.2.2.1, J b.2.2.2.2.2.2.2.2.2.2.1, J b.2.2.2.2.2.2.2.2.2.2.2.1, J b.2.2.2.2.2.2.2.2.2.2.2.2.1, J b.2.2.2.2.2.2.2.2.2.2.2.2.2.1, J b.2.2.2.2.2.2.2.2.2.2.2.2.2.2.1, J b.2.2.2.2.2.2.2.2.2.2.2.2.2.2.2, I a.n, r0_21, r0_22, r0_23]) (v := J f) 0 h (by kernel_rfl) rfl rfl rfl rfl (by kernel_rfl) ⟨rfl, trivial⟩ (ble16 e (Nat.le_of_ble_eq_true rfl)) (set16 (k := .i32) e z [r0_0, r0_1, r0_2, r0_3] [I a.n, r0_21, r0_22, r0_23])) ?_))))))))))
 rintro Z f0 i
 refine ⟨.inl rfl, dn (nrm (sr (va (.pointer (some ⟨d, 4, none⟩)) (va (.pointer (some ⟨d, 4, none⟩)) (va (.pointer (some ⟨d, 20, none⟩)) (vx (le1 20 underlying3 (i.on 0 rfl)) (va (I (w64 (a.n + 1))) (va (.pointer (some ⟨d, 4, none⟩)) (va (.pointer (some ⟨d, 20, none⟩)) (md (sC 3 20 (I (w64 (a.n + 1))) [r0_0, r0_1, r0_2, r0_3, J b.1, J b.2.1, J b.2.2.1, J b.2.2.2.1, J b.2.2.2.2.1, J b.2.2.2.2.2.1, J b.2.2.2.2.2.2.1, J b.2.2.2.2.2.2.2.1, J b.2.2.2.2.2.2.2.2.1, J b.2.2.2.2.2.2.2.2.2.1, J b.2.2.2.2.2.2.2.2.2.2.1, J b.2.2.2.2.2.2.2.2.2.2.2.1, J b.2.2.2.2.2.2.2.2.2.2.2.2.1, J b.2.2.2.2.2.2.2.2.2.2.2.2.2.1, J b.2.2.2.2.2.2.2.2.2.2.2.2.2.2.1, J b.2.2.2.2.2.2.2.2.2.2.2.2.2.2.2, I (w64 (a.n + 1)), r0_21, r0_22, r0_23] 0 i ⟨rfl, trivial⟩) ?_))))))))))⟩
 rintro t g0 o
 refine wln (sr (va (B true) (wln (W.ret ?_))))
 obtain rfl := si H
 exact r1 ⟨_, t, rfl, rfl, pt, o, rfl⟩
def f_basew_none (p0 : Int) : Option (Bool) :=
 (if (p0 == 1) = true then
 some (p0 == 1)
 else
 if (p0 == 2) = true then
 some (p0 == 2)
 else
 some (p0 == 3)).bind fun c =>
 if c = true then
 some true
 else
 (if (p0 == 4) = true then
 some (p0 == 4)
 else
 some (p0 == 5)).bind fun a =>
 if a = true then
 some true
 else
 (if (p0 == 10) = true then
 some (p0 == 10)
 else
 some (p0 == 11)).bind fun b =>
 if b = true then
 some true
 else
 some false
theorem c_basew_none (o : Own c0 G F) (a : Int) {r : Bool} (H : f_basew_none a = some r) :
    Calls prog 267 #[I a] c0.w (Post c0 fun c v => Own c G (F) ∧ v = B r) := by
 unfold f_basew_none at H
 refine en func267 rfl rfl (sr (va (B false) (wln (W.seq (sr (va (I a) (wln (W.block (W.seq (W.block (W.block (W.block (W.seq (W.seq (bn H fun E b i => W.seqJ (Jn c0 fun c l => Own c G (F) ∧ l = [(3, I a), (4, B E)]) ?_ ?_)))))))))))))))
 ·refine sr (va (B (a == 1)) (va (B (a == 1)) (wln (cn b (fun M b => ?_) (fun M b => ?_)))))
  ·refine W.skip (nrm ?_)
   obtain rfl := si b
   exact ⟨c0, _, _, rfl, pt, us, o, rfl⟩
  refine sr (va (B (a == 2)) (va (B (a == 2)) (wln (cn b (fun N b => ?_) (fun N b => ?_)))))
  ·refine W.skip (nrm ?_)
   obtain rfl := si b
   exact ⟨c0, _, _, rfl, pt, us, o, rfl⟩
  refine W.region (va (B (a == 3)) (va (B (a == 3)) (wln ?_)))
  obtain rfl := si b
  exact ⟨c0, _, _, rfl, pt, us, o, rfl⟩
 rintro t D ⟨k, U, _, rfl, X, rfl, p, rfl⟩
 refine cn i (fun u i => ?_) (fun u i => ?_)
 ·refine W.exit (thx (thx (bke (bkn (bkn (nrm (W.seq (sr (va (B true) (wln (W.ret (thr (bkr (thr ?_))))))))))))))
  obtain rfl := si i
  exact r1 ⟨_, k, rfl, rfl, pt, p, rfl⟩
 refine W.skip (nrm (W.seq (bn i fun q d e => W.seqJ (Jn k fun c l => Own c G (F) ∧ l = [(3, I a), (8, B q)]) ?_ ?_)))
 ·refine sr (va (B (a == 4)) (va (B (a == 4)) (wln (cn d (fun x d => ?_) (fun x d => ?_)))))
  ·refine W.skip (nrm ?_)
   obtain rfl := si d
   exact ⟨k, _, _, rfl, pt, us, p, rfl⟩
  refine W.region (va (B (a == 5)) (va (B (a == 5)) (wln ?_)))
  obtain rfl := si d
  exact ⟨k, _, _, rfl, pt, us, p, rfl⟩
 rintro t D ⟨h, P, _, rfl, S, rfl, j, rfl⟩
 refine cn e (fun y e => ?_) (fun y e => ?_)
 ·refine W.exit (thx (thx (bko rfl (bke (bkn (nrm (W.seq (sr (va (B true) (wln (W.ret (thr (bkr (thr ?_))))))))))))))
  obtain rfl := si e
  exact r1 ⟨_, h, rfl, rfl, pt, j, rfl⟩
 refine W.skip (nrm (bn e fun s f g => W.seqJ (Jn h fun c l => Own c G (F) ∧ l = [(11, B s)]) ?_ ?_))
 ·refine sr (va (B (a == 10)) (va (B (a == 10)) (wln (cn f (fun z f => ?_) (fun z f => ?_)))))
  ·refine W.skip (nrm ?_)
   obtain rfl := si f
   exact ⟨h, _, _, rfl, pt, us, j, rfl⟩
  refine W.region (va (B (a == 11)) (va (B (a == 11)) (wln ?_)))
  obtain rfl := si f
  exact ⟨h, _, _, rfl, pt, us, j, rfl⟩
 rintro t D ⟨n, R, _, rfl, T, rfl, m, rfl⟩
 refine cn g (fun A g => ?_) (fun A g => ?_)
 ·refine W.exit (thx (bko rfl (bko rfl (bke (nrm (W.seq (sr (va (B true) (wln (W.ret (thr (bkr (thr ?_)))))))))))))
  obtain rfl := si g
  exact r1 ⟨_, n, rfl, rfl, pt, m, rfl⟩
 refine W.skip (nrm (W.exit (bko rfl (bko rfl (bko rfl (thx (bke (nrm (sr (va (B false) (wln (W.ret ?_))))))))))))
 obtain rfl := si g
 exact r1 ⟨_, n, rfl, rfl, pt, m, rfl⟩
def f_basew_Of (p0 : G_api_Prop) : Option (Int) :=
 (f_basew_none p0.Break).bind fun b =>
 if b = true then
 some 0
 else
 (orE (p0.East == 1) (some (p0.East == 2))).bind fun a =>
 if a = true then
 some 2
 else
 some 1
theorem c_basew_Of (q : Own c0 G F) (a : G_api_Prop) {r : Int} (H : f_basew_Of a = some r) :
    Calls prog 248 #[.agg #[I a.Break, B a.Pict, I a.Conj, I a.East]] c0.w (Post c0 fun c v => Own c G (F) ∧ v = I r) := by
 unfold f_basew_Of at H
 refine en func248 rfl rfl (sr (me (bx 33 [I a.Break, B a.Pict, I a.Conj, I a.East] q) ?_))
 rintro v5 z D ⟨i, rfl, s, k⟩
 refine va (I 0) (wln (W.seq (W.block (sr (va (Q i) (vx (l1 underlying3 (k 0 _ rfl)) (bn H fun p t H => cl (c_basew_none s a.Break t) ?_)))))))
 rintro v12 d x ⟨h, rfl⟩
 refine va (B p) (wln (cn H (fun n H => ?_) (fun n H => ?_)))
 ·refine sr (va (I 0) (wln (W.ret (bkr (thr ?_)))))
  obtain rfl := si H
  exact r1 ⟨_, d, rfl, rfl, pt, h, rfl⟩
 refine W.seq (bn H fun j g H => W.join (Jn d fun c l => Own c G (F) ∧ l = [(7, B j)]) ?_ ?_)
 ·clear H
  refine W.region (va (.pointer (some ⟨i, 0 + 3, none⟩)) (vx (l1 underlying3 ((mm k) 3 _ rfl)) (va (B (a.East == 1)) ?_)))
  rcases bo (a.East == 1) with b | b
  ·obtain rfl := orT b g
   exact vb b (ps (ps (ps (va (B true) (va (B true) (wln ⟨d, _, _, rfl, pt, us, h, rfl⟩))))))
  have m := orF b g
  refine vb b (wn (va (.pointer (some ⟨i, 0 + 3, none⟩)) (wn (vx (l1 underlying3 ((mm k) 3 _ rfl)) (wn (va (B (a.East == 2)) ?_))))))
  obtain rfl := si m
  exact va (B (a.East == 2)) (va (B (a.East == 2)) (wln ⟨d, _, _, rfl, pt, us, h, rfl⟩))
 rintro A E ⟨f, u, _, rfl, y, rfl, e, rfl⟩
 refine nrm (cn H (fun o H => ?_) (fun o H => ?_))
 ·refine sr (va (I 2) (wln (W.ret (bkr (thr ?_)))))
  obtain rfl := si H
  exact r1 ⟨_, f, rfl, rfl, pt, e, rfl⟩
 refine W.skip (bkn (nrm (sr (va (I 1) (wln (W.ret ?_))))))
 obtain rfl := si H
 exact r1 ⟨_, f, rfl, rfl, pt, e, rfl⟩
def f_cwidth_Gauge_widens__widen_Cluster_21 (p0 : G_cwidth_Gauge) (p1 : Int) (p2 : G_api_Prop) : Option (Bool) :=
 (f_basew_Of p2).bind fun d =>
 if (d == 2) = true then
 some true
 else
 if (!p0.some) = true then
 some false
 else
 (andE (p1 == 65039) (some p0.pict)).bind fun a =>
 (orE a (some p2.Pict)).bind fun b =>
 (orE b (some (p2.Break == 6))).bind fun c =>
 some c
theorem c_cwidth_Gauge_widens__widen_Cluster_21 {b : Nat} {r0_0 : Value} {r0_1 : Value} {r0_2 : Value} {r0_3 : Value} {r0_4 : Value} {r0_5 : Value} {r0_6 : Value} {r0_7 : Value} {r0_8 : Value} {r0_9 : Value} {r0_10 : Value} {r0_11 : Value} {r0_12 : Value} {r0_13 : Value} {r0_14 : Value} {r0_15 : Value} {r0_16 : Value} {r0_17 : Value} {r0_18 : Value} {r0_19 : Value} {r0_20 : Value} (d : G_cwidth_Gauge) (o : Int) (a : G_api_Prop) (S : Own c0 G ((Eb b 133 [r0_0, r0_1, r0_2, r0_3, r0_4, r0_5, r0_6, r0_7, r0_8, r0_9, r0_10, r0_11, r0_12, r0_13, r0_14, r0_15, r0_16, r0_17, r0_18, r0_19, r0_20, B d.some, B d.pict, B d.wide]) :: F)) {r : Bool} (H : f_cwidth_Gauge_widens__widen_Cluster_21 d o a = some r) :
    Calls prog 203 #[.pointer (some ⟨b, 21, none⟩), J o, .agg #[I a.Break, B a.Pict, I a.Conj, I a.East]] c0.w (Post c0 fun c v => Own c G ((Eb b 133 [r0_0, r0_1, r0_2, r0_3, r0_4, r0_5, r0_6, r0_7, r0_8, r0_9, r0_10, r0_11, r0_12, r0_13, r0_14, r0_15, r0_16, r0_17, r0_18, r0_19, r0_20, B d.some, B d.pict, B d.wide]) :: F) ∧ v = B r) := by
 unfold f_cwidth_Gauge_widens__widen_Cluster_21 at H
 refine en func203 rfl rfl (sr (me (bx 33 [I a.Break, B a.Pict, I a.Conj, I a.East] S) ?_))
 rintro v5 c4 l4 ⟨p, rfl, T, n⟩
 refine va (B false) (wln (W.seq (W.block (sr (vx (lN 33 n) (bn H fun u Z H => cl (c_basew_Of T a Z) ?_))))))
 rintro v12 e b0 ⟨f, rfl⟩
 refine va (B (u == 2)) (va (B (u == 2)) (wln (cn H (fun P H => ?_) (fun P H => ?_))))
 ·refine sr (va (B true) (wln (W.ret (bkr (thr ?_)))))
  obtain rfl := si H
  exact r1 ⟨_, e, rfl, rfl, pt, f, rfl⟩
 refine sr (va (.pointer (some ⟨b, 21, none⟩)) (va (.pointer (some ⟨b, 21, none⟩)) (va (.pointer (some ⟨b, 21, none⟩)) (vx (le1 21 underlying4 (f.on 0 rfl)) (va (B (!d.some)) (va (B (!d.some)) (wln (cn H (fun R H => ?_) (fun R H => ?_)))))))))
 ·refine sr (va (B false) (wln (W.ret (bkr (thr ?_)))))
  obtain rfl := si H
  exact r1 ⟨_, e, rfl, rfl, pt, f, rfl⟩
 refine W.skip (bkn (nrm (W.seq (bn H fun U q H => bn H fun X m H => bn H fun x g H => W.join (Jn e fun c l => Own c G ((Eb b 133 [r0_0, r0_1, r0_2, r0_3, r0_4, r0_5, r0_6, r0_7, r0_8, r0_9, r0_10, r0_11, r0_12, r0_13, r0_14, r0_15, r0_16, r0_17, r0_18, r0_19, r0_20, B d.some, B d.pict, B d.wide]) :: F) ∧ l = [(6, B x)]) ?_ ?_))))
 ·clear H
  refine W.region (va (J o) (va (B (o == 65039)) ?_))
  rcases bo (o == 65039) with h | h
  ·have y := anT h q
   refine vb h (wn (va (.pointer (some ⟨b, 21, none⟩)) (wn (va (.pointer (some ⟨b, 21, none⟩)) (wn (va (.pointer (some ⟨b, 22, none⟩)) (wn (vx (le1 22 underlying4 (f.on 0 rfl)) ?_))))))))
   obtain rfl := si y
   refine va (B d.pict) ?_
   rcases bo (d.pict) with i | i
   ·obtain rfl := orT i m
    refine vb i (ps (ps (va (B true) ?_)))
    have s : true = true := rfl
    obtain rfl := orT s g
    exact vb s (ps (ps (ps (va (B true) (va (B true) (wln ⟨e, _, _, rfl, pt, us, f, rfl⟩))))))
   have z := orF i m
   refine vb i (wn (va (.pointer (some ⟨p, 0 + 1, none⟩)) (wn (vx (l1 underlying4 ((mm n) 1 _ rfl)) ?_))))
   obtain rfl := si z
   refine va (B a.Pict) ?_
   rcases bo (a.Pict) with j | j
   ·obtain rfl := orT j g
    exact vb j (ps (ps (ps (va (B true) (va (B true) (wln ⟨e, _, _, rfl, pt, us, f, rfl⟩))))))
   have A := orF j g
   refine vb j (wn (va (Q p) (wn (vx (l1 underlying3 ((mm n) 0 _ rfl)) (wn (va (B (a.Break == 6)) ?_))))))
   obtain rfl := si A
   exact va (B (a.Break == 6)) (va (B (a.Break == 6)) (wln ⟨e, _, _, rfl, pt, us, f, rfl⟩))
  obtain rfl := anF h q
  refine vb h (ps (ps (ps (ps (va (B false) ?_)))))
  have t : false = false := rfl
  have D := orF t m
  refine vb t (wn (va (.pointer (some ⟨p, 0 + 1, none⟩)) (wn (vx (l1 underlying4 ((mm n) 1 _ rfl)) ?_))))
  obtain rfl := si D
  refine va (B a.Pict) ?_
  rcases bo (a.Pict) with k | k
  ·obtain rfl := orT k g
   exact vb k (ps (ps (ps (va (B true) (va (B true) (wln ⟨e, _, _, rfl, pt, us, f, rfl⟩))))))
  have E := orF k g
  refine vb k (wn (va (Q p) (wn (vx (l1 underlying3 ((mm n) 0 _ rfl)) (wn (va (B (a.Break == 6)) ?_))))))
  obtain rfl := si E
  exact va (B (a.Break == 6)) (va (B (a.Break == 6)) (wln ⟨e, _, _, rfl, pt, us, f, rfl⟩))
 rintro e_ w_ ⟨N, a0, _, rfl, d0, rfl, M, rfl⟩
 refine nrm (W.ret ?_)
 obtain rfl := si H
 exact r1 ⟨_, N, rfl, rfl, pt, M, rfl⟩
def f_cwidth_Gauge_Step__widen_Cluster_21 (p0 : G_cwidth_Gauge) (p1 : Int) (p2 : G_api_Prop) : Option (G_cwidth_Gauge × Int) :=
 if false = true then
 some (p0, 1)
 else
 (orE p0.wide ((f_cwidth_Gauge_widens__widen_Cluster_21 p0 p1 p2).bind fun b =>
 some b)).bind fun a =>
 if a = true then
 some ((⟨true, p2.Pict, a⟩ : G_cwidth_Gauge), 2)
 else
 some ((⟨true, p2.Pict, a⟩ : G_cwidth_Gauge), 1)
theorem c_cwidth_Gauge_Step__widen_Cluster_21 {a : Nat} {r0_0 : Value} {r0_1 : Value} {r0_2 : Value} {r0_3 : Value} {r0_4 : Value} {r0_5 : Value} {r0_6 : Value} {r0_7 : Value} {r0_8 : Value} {r0_9 : Value} {r0_10 : Value} {r0_11 : Value} {r0_12 : Value} {r0_13 : Value} {r0_14 : Value} {r0_15 : Value} {r0_16 : Value} {r0_17 : Value} {r0_18 : Value} {r0_19 : Value} {r0_20 : Value} (b : G_cwidth_Gauge) (k : Int) (d : G_api_Prop) (T : Own c0 G ((Eb a 133 [r0_0, r0_1, r0_2, r0_3, r0_4, r0_5, r0_6, r0_7, r0_8, r0_9, r0_10, r0_11, r0_12, r0_13, r0_14, r0_15, r0_16, r0_17, r0_18, r0_19, r0_20, B b.some, B b.pict, B b.wide]) :: F)) {r : G_cwidth_Gauge × Int} (H : f_cwidth_Gauge_Step__widen_Cluster_21 b k d = some r) :
    Calls prog 152 #[.pointer (some ⟨a, 21, none⟩), J k, .agg #[I d.Break, B d.Pict, I d.Conj, I d.East]] c0.w (Post c0 fun c v => Own c G ((Eb a 133 [r0_0, r0_1, r0_2, r0_3, r0_4, r0_5, r0_6, r0_7, r0_8, r0_9, r0_10, r0_11, r0_12, r0_13, r0_14, r0_15, r0_16, r0_17, r0_18, r0_19, r0_20, B r.1.some, B r.1.pict, B r.1.wide]) :: F) ∧ v = I r.2) := by
 unfold f_cwidth_Gauge_Step__widen_Cluster_21 at H
 refine en func152 rfl rfl (sr (me (bx 33 [I d.Break, B d.Pict, I d.Conj, I d.East] T) ?_))
 rintro v5 X l4 ⟨x, rfl, m, P⟩
 refine va (I 0) (wln (W.seq (sr (va (.pointer (some ⟨a, 21, none⟩)) (va (B false) (wln (W.cond (t := false) (by kernel_rfl) (fun n => ?_) (fun n => ?_))))))))
 ·cases n
 have H := ie n H
 refine W.skip (nrm (W.seq (bn H fun e N H => W.join (Jn X fun c l => Own c G ((Eb a 133 [r0_0, r0_1, r0_2, r0_3, r0_4, r0_5, r0_6, r0_7, r0_8, r0_9, r0_10, r0_11, r0_12, r0_13, r0_14, r0_15, r0_16, r0_17, r0_18, r0_19, r0_20, B b.some, B b.pict, B e]) :: F) ∧ l = [(0, .pointer (some ⟨a, 21, none⟩)), (5, Q x)]) ?_ ?_)))
 ·clear H
  refine W.region (va (.pointer (some ⟨a, 21, none⟩)) (va (.pointer (some ⟨a, 21, none⟩)) (va (.pointer (some ⟨a, 21, none⟩)) (va (.pointer (some ⟨a, 23, none⟩)) (vx (le1 23 underlying4 (m.on 0 rfl)) ?_)))))
  rcases bo (b.wide) with j | j
  ·obtain rfl := orT j N
   refine vb j (ps (ps (ps (ps (va (B true) (va (.pointer (some ⟨a, 21, none⟩)) (va (.pointer (some ⟨a, 23, none⟩)) (md (sC 4 23 (B true) [r0_0, r0_1, r0_2, r0_3, r0_4, r0_5, r0_6, r0_7, r0_8, r0_9, r0_10, r0_11, r0_12, r0_13, r0_14, r0_15, r0_16, r0_17, r0_18, r0_19, r0_20, B b.some, B b.pict, B true] 0 m ⟨rfl, trivial⟩) ?_))))))))
   rintro y e0 U
   exact wln ⟨y, _, _, rfl, pt, us, U, rfl⟩
  have g := orF j N
  refine vb j (wn (va (.pointer (some ⟨a, 21, none⟩)) (wn (va (J k) (wn (vx (lN 33 P) (wn (bn g fun f E g => cl (c_cwidth_Gauge_widens__widen_Cluster_21 b k d m E) ?_))))))))
  rintro v19 Z f0 ⟨o, rfl⟩
  obtain rfl := si g
  refine va (B f) (va (.pointer (some ⟨a, 21, none⟩)) (va (.pointer (some ⟨a, 23, none⟩)) (md (sC 4 23 (B f) [r0_0, r0_1, r0_2, r0_3, r0_4, r0_5, r0_6, r0_7, r0_8, r0_9, r0_10, r0_11, r0_12, r0_13, r0_14, r0_15, r0_16, r0_17, r0_18, r0_19, r0_20, B b.some, B b.pict, B f] 0 o ⟨rfl, trivial⟩) ?_)))
  rintro z g0 p
  exact wln ⟨z, _, _, rfl, pt, us, p, rfl⟩
 rintro e_ w_ ⟨a0, b0, _, rfl, h0, rfl, q, rfl⟩
 refine nrm (W.seq (rD [] (Kp G0 []) q ?_))
 intro A i0 s
 have l0 : Kp G0 [] A := Kp.nil0
 refine ta 0 (.pointer (some ⟨a, 21, none⟩)) (ta 1 (.pointer (some ⟨a, 21, none⟩)) (ta 2 (.pointer (some ⟨x, 0 + 1, none⟩)) (tx 3 (fun c' d0 => l1 underlying4 ((mm P) 1 _ rfl)) (ta 4 (.pointer (some ⟨a, 21, none⟩)) (ta 5 (.pointer (some ⟨a, 21, none⟩)) (o1 6 (gD 6 (sC 4 21 (B true) [r0_0, r0_1, r0_2, r0_3, r0_4, r0_5, r0_6, r0_7, r0_8, r0_9, r0_10, r0_11, r0_12, r0_13, r0_14, r0_15, r0_16, r0_17, r0_18, r0_19, r0_20, B true, B b.pict, B e] 0 s ⟨rfl, trivial⟩) ?_)))))))
 rintro D j0 u
 have R : Kp G0 [] D := Kp.nil0
 refine ⟨.inr R, ta 7 (.pointer (some ⟨a, 21, none⟩)) (ta 8 (.pointer (some ⟨a, 22, none⟩)) (o1 9 (gD 9 (sC 4 22 (B d.Pict) [r0_0, r0_1, r0_2, r0_3, r0_4, r0_5, r0_6, r0_7, r0_8, r0_9, r0_10, r0_11, r0_12, r0_13, r0_14, r0_15, r0_16, r0_17, r0_18, r0_19, r0_20, B true, B d.Pict, B e] 0 u ⟨rfl, trivial⟩) ?_)))⟩
 rintro i k0 h
 have S : Kp G0 [] i := Kp.nil0
 refine ⟨.inr S, dn (nrm (W.seq (sr (va (.pointer (some ⟨a, 21, none⟩)) (va (.pointer (some ⟨a, 21, none⟩)) (va (.pointer (some ⟨a, 23, none⟩)) (vx (le1 23 underlying4 (h.on 0 rfl)) (wln (cn H (fun M H => ?_) (fun M H => ?_))))))))))⟩
 ·refine sr (va (I 2) (wln (W.ret (thr ?_))))
  obtain rfl := si H
  exact r1 ⟨_, i, rfl, rfl, pt, h, rfl⟩
 refine W.skip (nrm (sr (va (I 1) (wln (W.ret ?_)))))
 obtain rfl := si H
 exact r1 ⟨_, i, rfl, rfl, pt, h, rfl⟩
def f_widen_Cluster_add (sg : Sto) (p0 : Option Nat) (p1 : Int) (p2 : G_api_Prop) : Option (Sto × Int) :=
 ((f_scalar_Valid p1).bind fun h =>
 if (!h) = true then
 some (65533)
 else
 some (p1)).bind fun g =>
 (p0).bind fun b =>
 (sg.widen_Cluster[b]?).bind fun a =>
 (f_cluster_Cluster_Add__widen_Cluster_4 a.text g).bind fun e =>
 (sg.set_widen_Cluster b (⟨a.at_, a.wide, e.1, a.gauge⟩ : G_widen_Cluster)).bind fun c =>
 (f_cwidth_Gauge_Step__widen_Cluster_21 a.gauge g p2).bind fun f =>
 (c.set_widen_Cluster b (⟨a.at_, a.wide, e.1, f.1⟩ : G_widen_Cluster)).bind fun d =>
 some (d, f.2)
theorem c_widen_Cluster_add (O0 : Own c0 G F) (T : Rel c0 sg G) (p0 : Option Nat) (m : Int) (f : G_api_Prop) {r : Sto × Int} (h2 : Pt 3 c0 v1 p0) (H : f_widen_Cluster_add sg p0 m f = some r) :
    Calls prog 82 #[v1, J m, .agg #[I f.Break, B f.Pict, I f.Conj, I f.East]] c0.w (Post c0 fun c v => ∃ G_ : Gm, Own c G_ (F) ∧ Rel c r.1 G_ ∧ v = I r.2) := by
 unfold f_widen_Cluster_add at H
 refine en func82 rfl rfl (sr (me (bx 33 [I f.Break, B f.Pict, I f.Conj, I f.East] O0) ?_))
 rintro v7 c6 s ⟨b3, rfl, O4, m5⟩
 refine va (I 0) (wln (bn H fun h i e => W.seqJ (Jn c6 fun c l => Own c G (F) ∧ l = [(0, v1), (1, J h), (5, Q b3)]) ?_ ?_))
 ·refine sr (va (J m) (bn i fun t0 a0 i => cl (c_scalar_Valid O4 m a0) ?_))
  rintro v16 p j1 ⟨o, rfl⟩
  refine va (B (!t0)) (wln (cn i (fun b0 i => ?_) (fun b0 i => ?_)))
  ·refine W.region (va (J 65533) (wln ?_))
   obtain rfl := si i
   exact ⟨p, _, _, rfl, pt, us, o, rfl⟩
  refine W.skip (nrm ?_)
  obtain rfl := si i
  exact ⟨p, _, _, rfl, pt, us, o, rfl⟩
 rintro e_ w_ ⟨e1, g1, _, rfl, k, rfl, y, rfl⟩
 refine sr (va (v1) (bn e fun z0 d0 e => ?_))
 obtain ⟨d, rfl, j⟩ := ((h2.mono (s.trans k))).get d0
 refine va (Q d) (va (.pointer (some ⟨d, 4, none⟩)) (va (J h) (bn e fun b e0 e => ?_)))
 have f0 := Rel.open_widen_Cluster (T.mono (s.trans k)) e0 j
 have z := y.borrow 0 f0 rfl
 refine bn e fun a g0 e => cl (c_cluster_Cluster_Add__widen_Cluster_4 b.text h z g0) ?_
 rintro v37 f1 l0 ⟨A, rfl⟩
 have D := A.giveB 0 rfl
 refine bn e fun t i0 e => ?_
 obtain ⟨b1, E, U, h0, c1⟩ := Rel.put_widen_Cluster D (T.mono (s.trans (k.trans l0))) (E' := [(Eb d 133 [I b.at_.Row, I b.at_.Col, B b.at_.Pending, I b.wide, J a.1.text.1, J a.1.text.2.1, J a.1.text.2.2.1, J a.1.text.2.2.2.1, J a.1.text.2.2.2.2.1, J a.1.text.2.2.2.2.2.1, J a.1.text.2.2.2.2.2.2.1, J a.1.text.2.2.2.2.2.2.2.1, J a.1.text.2.2.2.2.2.2.2.2.1, J a.1.text.2.2.2.2.2.2.2.2.2.1, J a.1.text.2.2.2.2.2.2.2.2.2.2.1, J a.1.text.2.2.2.2.2.2.2.2.2.2.2.1, J a.1.text.2.2.2.2.2.2.2.2.2.2.2.2.1, J a.1.text.2.2.2.2.2.2.2.2.2.2.2.2.2.1, J a.1.text.2.2.2.2.2.2.2.2.2.2.2.2.2.2.1, J a.1.text.2.2.2.2.2.2.2.2.2.2.2.2.2.2.2, I a.1.n, B b.gauge.some, B b.gauge.pict, B b.gauge.wide])]) i0 ⟨d, (tm j), rfl⟩
 refine wln (W.seq (rD [] (Kp G0 []) E ?_))
 intro Z m0 M
 have k1 : Kp G0 [] Z := Kp.nil0
 refine ta 0 (Q d) (ta 1 (Q d) (ta 2 (.pointer (some ⟨d, 21, none⟩)) (ta 3 (J h) (tx 4 (fun c' i1 => lN 33 (mm m5)) ?_))))
 have N := M.borrow 0 h0 rfl
 refine bn e fun g j0 e => o1 5 (gc 5 (c_cwidth_Gauge_Step__widen_Cluster_21 b.gauge h f N j0) ?_)
 rintro v56 q o0 ⟨P, rfl⟩
 have R := P.giveB 0 rfl
 refine bn e fun u k0 e => ?_
 obtain ⟨x, S, X, h1, d1⟩ := Rel.put_widen_Cluster R (U.mono (m0.trans o0)) (E' := [(Eb d 133 [I b.at_.Row, I b.at_.Col, B b.at_.Pending, I b.wide, J a.1.text.1, J a.1.text.2.1, J a.1.text.2.2.1, J a.1.text.2.2.2.1, J a.1.text.2.2.2.2.1, J a.1.text.2.2.2.2.2.1, J a.1.text.2.2.2.2.2.2.1, J a.1.text.2.2.2.2.2.2.2.1, J a.1.text.2.2.2.2.2.2.2.2.1, J a.1.text.2.2.2.2.2.2.2.2.2.1, J a.1.text.2.2.2.2.2.2.2.2.2.2.1, J a.1.text.2.2.2.2.2.2.2.2.2.2.2.1, J a.1.text.2.2.2.2.2.2.2.2.2.2.2.2.1, J a.1.text.2.2.2.2.2.2.2.2.2.2.2.2.2.1, J a.1.text.2.2.2.2.2.2.2.2.2.2.2.2.2.2.1, J a.1.text.2.2.2.2.2.2.2.2.2.2.2.2.2.2.2, I a.1.n, B g.1.some, B g.1.pict, B g.1.wide])]) k0 ⟨d, (tm j), rfl⟩
 have s0 : Kp G0 [] q := Kp.nil0
 refine ⟨.inr s0, ta 6 (I g.2) (dn (nrm (W.ret ?_)))⟩
 obtain rfl := si e
 exact r1 ⟨_, q, rfl, rfl, pt, x, S, X, rfl⟩
def f_cluster_Cluster_Text__widen_Cluster_4 (p0 : G_cluster_Cluster) : Option (List Int) :=
 if false = true then
 some ([] : List Int)
 else
 (slc (a16 p0.text) 0 p0.n).bind fun a =>
 (f_slices_Clone a).bind fun b =>
 some b
theorem c_cluster_Cluster_Text__widen_Cluster_4 {b : Nat} {r0_0 : Value} {r0_1 : Value} {r0_2 : Value} {r0_3 : Value} {r0_21 : Value} {r0_22 : Value} {r0_23 : Value} (a : G_cluster_Cluster) (p : Own c0 G ((Eb b 133 [r0_0, r0_1, r0_2, r0_3, J a.text.1, J a.text.2.1, J a.text.2.2.1, J a.text.2.2.2.1, J a.text.2.2.2.2.1, J a.text.2.2.2.2.2.1, J a.text.2.2.2.2.2.2.1, J a.text.2.2.2.2.2.2.2.1, J a.text.2.2.2.2.2.2.2.2.1, J a.text.2.2.2.2.2.2.2.2.2.1, J a.text.2.2.2.2.2.2.2.2.2.2.1, J a.text.2.2.2.2.2.2.2.2.2.2.2.1, J a.text.2.2.2.2.2.2.2.2.2.2.2.2.1, J a.text.2.2.2.2.2.2.2.2.2.2.2.2.2.1, J a.text.2.2.2.2.2.2.2.2.2.2.2.2.2.2.1, J a.text.2.2.2.2.2.2.2.2.2.2.2.2.2.2.2, I a.n, r0_21, r0_22, r0_23]) :: F)) {r : List Int} (H : f_cluster_Cluster_Text__widen_Cluster_4 a = some r) :
    Calls prog 83 #[.pointer (some ⟨b, 4, none⟩)] c0.w (Post c0 fun c v => ∃ h o, Own c G (es true (RI .i32) h 21 o r :: (Eb b 133 [r0_0, r0_1, r0_2, r0_3, J a.text.1, J a.text.2.1, J a.text.2.2.1, J a.text.2.2.2.1, J a.text.2.2.2.2.1, J a.text.2.2.2.2.2.1, J a.text.2.2.2.2.2.2.1, J a.text.2.2.2.2.2.2.2.1, J a.text.2.2.2.2.2.2.2.2.1, J a.text.2.2.2.2.2.2.2.2.2.1, J a.text.2.2.2.2.2.2.2.2.2.2.1, J a.text.2.2.2.2.2.2.2.2.2.2.2.1, J a.text.2.2.2.2.2.2.2.2.2.2.2.2.1, J a.text.2.2.2.2.2.2.2.2.2.2.2.2.2.1, J a.text.2.2.2.2.2.2.2.2.2.2.2.2.2.2.1, J a.text.2.2.2.2.2.2.2.2.2.2.2.2.2.2.2, I a.n, r0_21, r0_22, r0_23]) :: F) ∧ v = h ∧ OA (RI .i32) c h o r) := by
 unfold f_cluster_Cluster_Text__widen_Cluster_4 at H
 refine en func83 rfl rfl (sr (va (Y) (wln (W.seq (sr (va (.pointer (some ⟨b, 4, none⟩)) (va (B false) (wln (W.cond (t := false) (by kernel_rfl) (fun g => ?_) (fun g => ?_))))))))))
 ·cases g
 have H := ie g H
 refine W.skip (nrm (W.seq (rD [] (Kp G0 [(Eb b 133 [r0_0, r0_1, r0_2, r0_3, J a.text.1, J a.text.2.1, J a.text.2.2.1, J a.text.2.2.2.1, J a.text.2.2.2.2.1, J a.text.2.2.2.2.2.1, J a.text.2.2.2.2.2.2.1, J a.text.2.2.2.2.2.2.2.1, J a.text.2.2.2.2.2.2.2.2.1, J a.text.2.2.2.2.2.2.2.2.2.1, J a.text.2.2.2.2.2.2.2.2.2.2.1, J a.text.2.2.2.2.2.2.2.2.2.2.2.1, J a.text.2.2.2.2.2.2.2.2.2.2.2.2.1, J a.text.2.2.2.2.2.2.2.2.2.2.2.2.2.1, J a.text.2.2.2.2.2.2.2.2.2.2.2.2.2.2.1, J a.text.2.2.2.2.2.2.2.2.2.2.2.2.2.2.2, I a.n, r0_21, r0_22, r0_23])]) p ?_)))
 intro s M i
 have y : Kp G0 [(Eb b 133 [r0_0, r0_1, r0_2, r0_3, J a.text.1, J a.text.2.1, J a.text.2.2.1, J a.text.2.2.2.1, J a.text.2.2.2.2.1, J a.text.2.2.2.2.2.1, J a.text.2.2.2.2.2.2.1, J a.text.2.2.2.2.2.2.2.1, J a.text.2.2.2.2.2.2.2.2.1, J a.text.2.2.2.2.2.2.2.2.2.1, J a.text.2.2.2.2.2.2.2.2.2.2.1, J a.text.2.2.2.2.2.2.2.2.2.2.2.1, J a.text.2.2.2.2.2.2.2.2.2.2.2.2.1, J a.text.2.2.2.2.2.2.2.2.2.2.2.2.2.1, J a.text.2.2.2.2.2.2.2.2.2.2.2.2.2.2.1, J a.text.2.2.2.2.2.2.2.2.2.2.2.2.2.2.2, I a.n, r0_21, r0_22, r0_23])] s := (Kp.cons (i.on 0 rfl) Kp.nil0)
 refine ta 0 (.pointer (some ⟨b, 4, none⟩)) (ta 1 (.pointer (some ⟨b, 4, none⟩)) (ta 2 (.pointer (some ⟨b, 4, none⟩)) (ta 3 (.pointer (some ⟨b, 4, none⟩)) (ta 4 (.pointer (some ⟨b, 4, none⟩)) (ta 5 (.pointer (some ⟨b, 20, none⟩)) (tkx 6 y (fun q l x => le1 20 underlying3 (x.on 0 rfl)) (bn H fun A d H => AC.take 7 (.slice (some ⟨b, 4, none⟩) a.n.toNat 16) rfl (by kernel_rfl) (by kernel_rfl) (fun q l => (rx (by kernel_rfl) (run_cutA (k := .i64) underlying127 (by kernel_rfl) (slc_ok d).2.1 (slc_ok d).2.2.1 _))) (bn H fun D u H => o1 8 (gc 8 (c_slices_CloneV i rfl (slc_len0 d) (view16 (k := .i32) d [r0_0, r0_1, r0_2, r0_3] [I a.n, r0_21, r0_22, r0_23]) u) ?_)))))))))
 rintro v8 f E ⟨_, z, e, rfl, j⟩
 have m : Kp G0 [(Eb b 133 [r0_0, r0_1, r0_2, r0_3, J a.text.1, J a.text.2.1, J a.text.2.2.1, J a.text.2.2.2.1, J a.text.2.2.2.2.1, J a.text.2.2.2.2.2.1, J a.text.2.2.2.2.2.2.1, J a.text.2.2.2.2.2.2.2.1, J a.text.2.2.2.2.2.2.2.2.1, J a.text.2.2.2.2.2.2.2.2.2.1, J a.text.2.2.2.2.2.2.2.2.2.2.1, J a.text.2.2.2.2.2.2.2.2.2.2.2.1, J a.text.2.2.2.2.2.2.2.2.2.2.2.2.1, J a.text.2.2.2.2.2.2.2.2.2.2.2.2.2.1, J a.text.2.2.2.2.2.2.2.2.2.2.2.2.2.2.1, J a.text.2.2.2.2.2.2.2.2.2.2.2.2.2.2.2, I a.n, r0_21, r0_22, r0_23])] f := (Kp.cons (e.on 1 rfl) Kp.nil0)
 refine ⟨.inr m, ta 9 (v8) (dn (nrm (W.ret ?_)))⟩
 obtain rfl := si H
 exact r1 ⟨_, f, rfl, rfl, pt, v8, z, e, rfl, j⟩
def f_widen_Begin (sg : Sto) (p0 : Option Nat) (p1 : Int) (p2 : G_api_Prop) : Option (Sto × (Option Nat)) :=
 (orE p0.isNone ((p0).bind fun k =>
 (sg.place_Pen[k]?).bind fun h =>
 some h.G.isNone)).bind fun j =>
 if j = true then
 some (sg, (none : Option Nat))
 else
 (some (sg.add_widen_Cluster (⟨(⟨0, 0, false⟩ : G_api_Cursor), 0, (⟨(0, 0, 0, 0, 0, 0, 0, 0, 0, 0, 0, 0, 0, 0, 0, 0), 0⟩ : G_cluster_Cluster), (⟨false, false, false⟩ : G_cwidth_Gauge)⟩ : G_widen_Cluster))).bind fun e =>
 (f_widen_Cluster_add e (some sg.widen_Cluster.length) p1 p2).bind fun b =>
 (b.1.widen_Cluster[sg.widen_Cluster.length]?).bind fun a =>
 (b.1.set_widen_Cluster sg.widen_Cluster.length (⟨a.at_, b.2, a.text, a.gauge⟩ : G_widen_Cluster)).bind fun f =>
 (f_cluster_Cluster_Text__widen_Cluster_4 a.text).bind fun i =>
 (f_place_Pen_Put f p0 b.2 i).bind fun d =>
 (d.1.widen_Cluster[sg.widen_Cluster.length]?).bind fun c =>
 (d.1.set_widen_Cluster sg.widen_Cluster.length (⟨d.2, c.wide, c.text, c.gauge⟩ : G_widen_Cluster)).bind fun g =>
 some (g, (some sg.widen_Cluster.length))
theorem c_widen_Begin (O0 : Own c0 G F) (R0 : Rel c0 sg G) (hG : Gl [0, 4] c0) (y : Option Nat) (z : Int) (g : G_api_Prop) {r : Sto × (Option Nat)} (h2 : Pt 2 c0 v1 y) (H : f_widen_Begin sg y z g = some r) :
    Calls prog 17 #[v1, J z, .agg #[I g.Break, B g.Pict, I g.Conj, I g.East]] c0.w (Post c0 fun c v => ∃ y1, ∃ G_ : Gm, Own c G_ (F) ∧ Rel c r.1 G_ ∧ v = y1 ∧ Pt 3 c y1 r.2) := by
 unfold f_widen_Begin at H
 refine en func17 rfl rfl (sr (me (bx 33 [I g.Break, B g.Pict, I g.Conj, I g.East] O0) ?_))
 rintro v7 c6 l6 ⟨b3, rfl, O4, m5⟩
 refine va (.pointer none) (wln (W.seq (W.seq (bn H fun m1 h8 H => W.join (Jn c6 fun c l => Own c G (F) ∧ l = [(0, v1), (1, J z), (5, Q b3), (16, B m1)]) ?_ ?_))))
 ·clear H
  refine W.region (va (v1) (vr (B y.isNone) (by rcases h2.m.cs with ⟨j, k⟩ | ⟨b_, j, k⟩ <;> (subst j; rw [k]; kernel_rfl)) ?_))
  rcases bo (y.isNone) with s | s
  ·obtain rfl := orT s h8
   exact vb s (ps (ps (ps (ps (ps (va (B true) (wln ⟨c6, _, _, rfl, pt, us, O4, rfl⟩)))))))
  have i := orF s h8
  refine vb s (wn (va (v1) (wn (bn i fun w3 q1 i => ?_))))
  obtain ⟨T, rfl, n1⟩ := ((h2.mono l6)).get q1
  refine va (Q T) (wn (va (Q T) (wn (bn i fun u s1 i => ?_))))
  obtain ⟨v15, u1, t1⟩ := Rel.open_place_Pen (R0.mono l6) s1 n1
  refine vx (le1 0 underlying35 (O4.gon u1 0 rfl)) (wn (vr (B u.G.isNone) (by rcases (t1).cs with ⟨j, k⟩ | ⟨b_, j, k⟩ <;> (subst j; rw [k]; kernel_rfl)) ?_))
  obtain rfl := si i
  exact va (B u.G.isNone) (wln ⟨c6, _, _, rfl, pt, us, O4, rfl⟩)
 rintro e_ w_ ⟨f1, q3, _, rfl, o2, rfl, A, rfl⟩
 refine nrm (cn H (fun w1 H => ?_) (fun w1 H => ?_))
 ·refine sr (va (.pointer none) (wln (W.ret (thr ?_))))
  obtain rfl := si H
  exact r1 ⟨_, f1, rfl, rfl, pt, (.pointer none), G, A, R0.m, rfl, rfl⟩
 refine W.skip (nrm (sr (va (.agg #[I 0, I 0, B false, I 0, J 0, J 0, J 0, J 0, J 0, J 0, J 0, J 0, J 0, J 0, J 0, J 0, J 0, J 0, J 0, J 0, I 0, B false, B false, B false]) (me (al 133 [I 0, I 0, B false, I 0, J 0, J 0, J 0, J 0, J 0, J 0, J 0, J 0, J 0, J 0, J 0, J 0, J 0, J 0, J 0, J 0, I 0, B false, B false, B false] A) ?_))))
 rintro v28 m3 q2 ⟨e, rfl, o0⟩
 have q0 := o0.sD 1 [0]
 refine bn H fun j0 x1 H => ?_
 obtain ⟨g1, g3, z1, x3, o, s0, P, s3, t3, j3⟩ := Rel.new_widen_Cluster (E := [(Eb e 133 [I 0, I 0, B false, I 0, J 0, J 0, J 0, J 0, J 0, J 0, J 0, J 0, J 0, J 0, J 0, J 0, J 0, J 0, J 0, J 0, I 0, B false, B false, B false])]) (F := F) (x := (⟨(⟨0, 0, false⟩ : G_api_Cursor), 0, (⟨(0, 0, 0, 0, 0, 0, 0, 0, 0, 0, 0, 0, 0, 0, 0, 0), 0⟩ : G_cluster_Cluster), (⟨false, false, false⟩ : G_cwidth_Gauge)⟩ : G_widen_Cluster)) (b := e) q0 (R0.mono (l6.trans (o2.trans q2))) (fun c_ hle_ => ⟨e, rfl, rfl⟩)
 rw [Option.some.inj x1] at P
 refine WL.gh z1.1 ?_
 have U : Pt 3 g1 (Q e) (some sg.widen_Cluster.length) := ⟨e, rfl, o⟩
 refine va (Q e) (wln (sr (va (Q e) (va (Q e) (va (J z) (vx (lN 33 (mm m5)) (bn H fun h a2 H => cl (c_widen_Cluster_add s0 P (some sg.widen_Cluster.length) z g U a2) ?_)))))))
 rintro v48 n3 s2 ⟨h3, t0, R, rfl⟩
 refine va (Q e) (va (.pointer (some ⟨e, 3, none⟩)) (bn H fun a b2 H => ?_))
 have c2 := Rel.open_widen_Cluster R b2 (tm o)
 refine md (gC 3 3 (I h.2) [I a.at_.Row, I a.at_.Col, B a.at_.Pending, I h.2, J a.text.text.1, J a.text.text.2.1, J a.text.text.2.2.1, J a.text.text.2.2.2.1, J a.text.text.2.2.2.2.1, J a.text.text.2.2.2.2.2.1, J a.text.text.2.2.2.2.2.2.1, J a.text.text.2.2.2.2.2.2.2.1, J a.text.text.2.2.2.2.2.2.2.2.1, J a.text.text.2.2.2.2.2.2.2.2.2.1, J a.text.text.2.2.2.2.2.2.2.2.2.2.1, J a.text.text.2.2.2.2.2.2.2.2.2.2.2.1, J a.text.text.2.2.2.2.2.2.2.2.2.2.2.2.1, J a.text.text.2.2.2.2.2.2.2.2.2.2.2.2.2.1, J a.text.text.2.2.2.2.2.2.2.2.2.2.2.2.2.2.1, J a.text.text.2.2.2.2.2.2.2.2.2.2.2.2.2.2.2, I a.text.n, B a.gauge.some, B a.gauge.pict, B a.gauge.wide] 0 t0 c2 ⟨rfl, trivial⟩) ?_
 rintro o3 X u0
 refine bn H fun k0 d2 H => ?_
 obtain ⟨p, v0, d1, q, k3⟩ := Rel.put_widen_Cluster u0 (R.mono X) (E' := [(Eb e 133 [I a.at_.Row, I a.at_.Col, B a.at_.Pending, I h.2, J a.text.text.1, J a.text.text.2.1, J a.text.text.2.2.1, J a.text.text.2.2.2.1, J a.text.text.2.2.2.2.1, J a.text.text.2.2.2.2.2.1, J a.text.text.2.2.2.2.2.2.1, J a.text.text.2.2.2.2.2.2.2.1, J a.text.text.2.2.2.2.2.2.2.2.1, J a.text.text.2.2.2.2.2.2.2.2.2.1, J a.text.text.2.2.2.2.2.2.2.2.2.2.1, J a.text.text.2.2.2.2.2.2.2.2.2.2.2.1, J a.text.text.2.2.2.2.2.2.2.2.2.2.2.2.1, J a.text.text.2.2.2.2.2.2.2.2.2.2.2.2.2.1, J a.text.text.2.2.2.2.2.2.2.2.2.2.2.2.2.2.1, J a.text.text.2.2.2.2.2.2.2.2.2.2.2.2.2.2.2, I a.text.n, B a.gauge.some, B a.gauge.pict, B a.gauge.wide])]) d2 ⟨e, (tm o), rfl⟩
 refine wln (W.seq (rD [10, 13] (Kp p []) v0 ?_))
 intro h1 t2 D
 have w2 : Kp p [] h1 := (Kp.nil D)
 refine ta 0 (Q e) (ta 1 (v1) (ta 2 (Q e) (ta 3 (Q e) (ta 4 (.pointer (some ⟨e, 3, none⟩)) (tkx 5 w2 (fun c' v3 hk => le1 3 underlying3 (hk.gon q 0 rfl)) (ta 6 (Q e) (ta 7 (Q e) (ta 8 (.pointer (some ⟨e, 4, none⟩)) ?_))))))))
 have w0 := D.borrow 0 q rfl
 refine bn H fun i0 e2 H => o1 9 (gc 9 (c_cluster_Cluster_Text__widen_Cluster_4 a.text w0 e2) ?_)
 rintro z3 i1 u2 ⟨_, y3, x0, rfl, f2⟩
 have z0 := x0.sD 2 [1, 0]
 have y0 := z0.giveB 0 rfl
 have M := Own.back y0 q rfl
 have x2 : Kp p [] i1 := (Kp.nil M)
 refine ⟨.inr x2, ?_⟩
 obtain ⟨j1, j2, Z, N, g2⟩ := M.frz 0 rfl f2
 have y2 : Kp p [] j1 := (Kp.nil N)
 refine AC.gh j2 Z (fun _ => y2) (bn H fun f k2 H => o1 10 (gc 10 (c_place_Pen_Put N d1.m (hG.m.le (by decide)) y h.2 i0 h2.m g2 k2) ?_))
 rintro a4 p3 v2 ⟨i3, a1, S, rfl⟩
 refine ⟨.inl rfl, ta 11 (Q e) (ta 12 (Q e) (bn H fun d l2 H => ?_))⟩
 have m2 := Rel.open_widen_Cluster S l2 (tm o)
 refine o1 13 (gD 13 (gB 24 0 [I f.2.Row, I f.2.Col, B f.2.Pending] [I f.2.Row, I f.2.Col, B f.2.Pending, I d.wide, J d.text.text.1, J d.text.text.2.1, J d.text.text.2.2.1, J d.text.text.2.2.2.1, J d.text.text.2.2.2.2.1, J d.text.text.2.2.2.2.2.1, J d.text.text.2.2.2.2.2.2.1, J d.text.text.2.2.2.2.2.2.2.1, J d.text.text.2.2.2.2.2.2.2.2.1, J d.text.text.2.2.2.2.2.2.2.2.2.1, J d.text.text.2.2.2.2.2.2.2.2.2.2.1, J d.text.text.2.2.2.2.2.2.2.2.2.2.2.1, J d.text.text.2.2.2.2.2.2.2.2.2.2.2.2.1, J d.text.text.2.2.2.2.2.2.2.2.2.2.2.2.2.1, J d.text.text.2.2.2.2.2.2.2.2.2.2.2.2.2.2.1, J d.text.text.2.2.2.2.2.2.2.2.2.2.2.2.2.2.2, I d.text.n, B d.gauge.some, B d.gauge.pict, B d.gauge.wide] 0 a1 m2 ⟨rfl, rfl, rfl, trivial⟩) ?_)
 rintro k1 a0 b1
 refine bn H fun l0 n2 H => ?_
 obtain ⟨m0, c1, e1, u3, l3⟩ := Rel.put_widen_Cluster b1 (S.mono a0) (E' := [(Eb e 133 [I f.2.Row, I f.2.Col, B f.2.Pending, I d.wide, J d.text.text.1, J d.text.text.2.1, J d.text.text.2.2.1, J d.text.text.2.2.2.1, J d.text.text.2.2.2.2.1, J d.text.text.2.2.2.2.2.1, J d.text.text.2.2.2.2.2.2.1, J d.text.text.2.2.2.2.2.2.2.1, J d.text.text.2.2.2.2.2.2.2.2.1, J d.text.text.2.2.2.2.2.2.2.2.2.1, J d.text.text.2.2.2.2.2.2.2.2.2.2.1, J d.text.text.2.2.2.2.2.2.2.2.2.2.2.1, J d.text.text.2.2.2.2.2.2.2.2.2.2.2.2.1, J d.text.text.2.2.2.2.2.2.2.2.2.2.2.2.2.1, J d.text.text.2.2.2.2.2.2.2.2.2.2.2.2.2.2.1, J d.text.text.2.2.2.2.2.2.2.2.2.2.2.2.2.2.2, I d.text.n, B d.gauge.some, B d.gauge.pict, B d.gauge.wide])]) n2 ⟨e, ((s2.trans (X.trans (t2.trans (u2.trans (Z.trans (v2.trans a0)))))).t _ _ _ o), rfl⟩
 refine ⟨.inl rfl, dn (nrm (sr (va (Q e) (va (Q e) (wln (W.ret ?_))))))⟩
 obtain rfl := si H
 have b0 := c1.sD 1 []
 exact r1 ⟨_, k1, rfl, rfl, pt, (Q e), m0, b0, e1, rfl, U.m⟩
def f_widen_Cluster_Join (sg : Sto) (p0 : Option Nat) (p1 : Option Nat) (p2 : Int) (p3 : G_api_Prop) : Option (Sto × Bool) :=
 (orE p0.isNone (some p1.isNone)).bind fun A =>
 (orE A ((p1).bind fun r =>
 (sg.place_Pen[r]?).bind fun u =>
 some u.G.isNone)).bind fun p =>
 (orE p ((p0).bind fun s =>
 (sg.widen_Cluster[s]?).bind fun h =>
 (f_cluster_Cluster_Full__widen_Cluster_4 h.text).bind fun w =>
 some w)).bind fun q =>
 if q = true then
 some (sg, false)
 else
 (p0).bind fun b =>
 (sg.widen_Cluster[b]?).bind fun v =>
 (f_widen_Cluster_add sg p0 p2 p3).bind fun d =>
 (d.1.widen_Cluster[b]?).bind fun c =>
 (d.1.set_widen_Cluster b (⟨c.at_, d.2, c.text, c.gauge⟩ : G_widen_Cluster)).bind fun a =>
 (if (d.2 != v.wide) = true then
 (p1).bind fun j =>
 (a.place_Pen[j]?).bind fun k =>
 (a.set_place_Pen j (⟨k.G, c.at_, k.Auto⟩ : G_place_Pen)).bind fun e =>
 (e.widen_Cluster[b]?).bind fun l =>
 (f_cluster_Cluster_Text__widen_Cluster_4 l.text).bind fun x =>
 (f_place_Pen_Put e p1 l.wide x).bind fun g =>
 (g.1.widen_Cluster[b]?).bind fun f =>
 (g.1.set_widen_Cluster b (⟨g.2, f.wide, f.text, f.gauge⟩ : G_widen_Cluster)).bind fun i =>
 some (i)
 else
 (p1).bind fun t =>
 (a.place_Pen[t]?).bind fun m =>
 (f_grid_Grid_Wide a m.G).bind fun y =>
 if (decide (d.2 ≤ y)) = true then
 (f_grid_Grid_Row a m.G c.at_.Row).bind fun n =>
 (f_mark_Add a n c.at_.Col p2).bind fun o =>
 some (o.1)
 else
 some (a)).bind fun z =>
 some (z, true)
theorem c_widen_Cluster_Join (O0 : Own c0 G F) (R0 : Rel c0 sg G) (hG : Gl [0, 4] c0) (p0 : Option Nat) (p1 : Option Nat) (Z : Int) (s : G_api_Prop) {r : Sto × Bool} (h2 : Pt 3 c0 v1 p0) (h4 : Pt 2 c0 v3 p1) (H : f_widen_Cluster_Join sg p0 p1 Z s = some r) :
    Calls prog 18 #[v1, v3, J Z, .agg #[I s.Break, B s.Pict, I s.Conj, I s.East]] c0.w (Post c0 fun c v => ∃ G_ : Gm, Own c G_ (F) ∧ Rel c r.1 G_ ∧ v = B r.2) := by
 unfold f_widen_Cluster_Join at H
 refine en func18 rfl rfl (sr (me (bx 33 [I s.Break, B s.Pict, I s.Conj, I s.East] O0) ?_))
 rintro v9 c8 R ⟨b5, rfl, O6, m7⟩
 refine va (B false) (wln (W.seq (W.seq (bn H fun k7 b2 H => bn H fun i6 x0 H => bn H fun h3 d0 H => W.join (Jn c8 fun c l => Own c G (F) ∧ l = [(0, v1), (1, v3), (2, J Z), (7, Q b5), (28, B h3)]) ?_ ?_))))
 ·clear H
  refine W.region (va (v1) (vr (B p0.isNone) (by rcases h2.m.cs with ⟨h, i⟩ | ⟨b_, h, i⟩ <;> (subst h; rw [i]; kernel_rfl)) ?_))
  rcases bo (p0.isNone) with A | A
  ·obtain rfl := orT A b2
   refine vb A (ps (ps (va (B true) ?_)))
   have c2 : true = true := rfl
   obtain rfl := orT c2 x0
   refine vb c2 (ps (ps (ps (ps (ps (va (B true) ?_))))))
   have d2 : true = true := rfl
   obtain rfl := orT d2 d0
   exact vb d2 (ps (ps (ps (ps (va (B true) (wln ⟨c8, _, _, rfl, pt, us, O6, rfl⟩))))))
  have l4 := orF A b2
  refine vb A (wn (va (v3) (wn (vr (B p1.isNone) (by rcases h4.m.cs with ⟨h, i⟩ | ⟨b_, h, i⟩ <;> (subst h; rw [i]; kernel_rfl)) ?_))))
  obtain rfl := si l4
  refine va (B p1.isNone) ?_
  rcases bo (p1.isNone) with D | D
  ·obtain rfl := orT D x0
   refine vb D (ps (ps (ps (ps (ps (va (B true) ?_))))))
   have e2 : true = true := rfl
   obtain rfl := orT e2 d0
   exact vb e2 (ps (ps (ps (ps (va (B true) (wln ⟨c8, _, _, rfl, pt, us, O6, rfl⟩))))))
  have y := orF D x0
  refine vb D (wn (va (v3) (wn (bn y fun m6 d5 y => ?_))))
  obtain ⟨z1, rfl, c5⟩ := ((h4.mono R)).get d5
  refine va (Q z1) (wn (va (Q z1) (wn (bn y fun U e5 y => ?_))))
  obtain ⟨v24, g5, f5⟩ := Rel.open_place_Pen (R0.mono R) e5 c5
  refine vx (le1 0 underlying35 (O6.gon g5 0 rfl)) (wn (vr (B U.G.isNone) (by rcases (f5).cs with ⟨h, i⟩ | ⟨b_, h, i⟩ <;> (subst h; rw [i]; kernel_rfl)) ?_))
  obtain rfl := si y
  refine va (B U.G.isNone) ?_
  rcases bo (U.G.isNone) with E | E
  ·obtain rfl := orT E d0
   exact vb E (ps (ps (ps (ps (va (B true) (wln ⟨c8, _, _, rfl, pt, us, O6, rfl⟩))))))
  have k := orF E d0
  refine vb E (wn (va (v1) (wn (bn k fun n6 i5 k => ?_))))
  obtain ⟨a2, rfl, h5⟩ := ((h2.mono R)).get i5
  refine va (Q a2) (wn (va (.pointer (some ⟨a2, 4, none⟩)) (wn (bn k fun h0 j5 k => ?_))))
  have f2 := Rel.open_widen_Cluster (R0.mono R) j5 h5
  have n4 := O6.borrow 0 f2 rfl
  refine bn k fun e4 k5 k => cl (c_cluster_Cluster_Full__widen_Cluster_4 h0.text n4 k5) ?_
  rintro v42 x4 o7 ⟨o4, rfl⟩
  have p4 := o4.giveB 0 rfl
  have q4 := Own.back p4 f2 rfl
  obtain rfl := si k
  exact va (B e4) (wln ⟨x4, _, _, rfl, pt, us, q4, rfl⟩)
 rintro e_ w_ ⟨y4, l7, _, rfl, e0, rfl, q0, rfl⟩
 refine nrm (cn H (fun l5 H => ?_) (fun l5 H => ?_))
 ·refine sr (va (B false) (wln (W.ret (thr ?_))))
  obtain rfl := si H
  exact r1 ⟨_, y4, rfl, rfl, pt, G, q0, R0.m, rfl⟩
 refine W.skip (nrm (sr (va (v1) (bn H fun o6 m5 H => ?_))))
 obtain ⟨d, rfl, u⟩ := ((h2.mono (R.trans e0))).get m5
 refine va (Q d) (va (.pointer (some ⟨d, 3, none⟩)) (bn H fun x n5 H => ?_))
 have o5 := Rel.open_widen_Cluster (R0.mono (R.trans e0)) n5 u
 refine vx (le1 3 underlying3 (q0.gon o5 0 rfl)) (va (I x.wide) (wln (sr (va (Q d) (va (Q d) (va (J Z) (vx (lN 33 (mm m7)) (bn H fun g p5 H => cl (c_widen_Cluster_add q0 R0.m p0 Z s h2.m p5) ?_))))))))
 rintro p7 i7 f0 ⟨f7, r4, x1, rfl⟩
 refine va (Q d) (va (.pointer (some ⟨d, 3, none⟩)) (bn H fun a q5 H => ?_))
 have r5 := Rel.open_widen_Cluster x1 q5 (tm u)
 refine md (gC 3 3 (I g.2) [I a.at_.Row, I a.at_.Col, B a.at_.Pending, I g.2, J a.text.text.1, J a.text.text.2.1, J a.text.text.2.2.1, J a.text.text.2.2.2.1, J a.text.text.2.2.2.2.1, J a.text.text.2.2.2.2.2.1, J a.text.text.2.2.2.2.2.2.1, J a.text.text.2.2.2.2.2.2.2.1, J a.text.text.2.2.2.2.2.2.2.2.1, J a.text.text.2.2.2.2.2.2.2.2.2.1, J a.text.text.2.2.2.2.2.2.2.2.2.2.1, J a.text.text.2.2.2.2.2.2.2.2.2.2.2.1, J a.text.text.2.2.2.2.2.2.2.2.2.2.2.2.1, J a.text.text.2.2.2.2.2.2.2.2.2.2.2.2.2.1, J a.text.text.2.2.2.2.2.2.2.2.2.2.2.2.2.2.1, J a.text.text.2.2.2.2.2.2.2.2.2.2.2.2.2.2.2, I a.text.n, B a.gauge.some, B a.gauge.pict, B a.gauge.wide] 0 r4 r5 ⟨rfl, trivial⟩) ?_
 rintro z4 P s4
 refine bn H fun i4 s5 H => ?_
 obtain ⟨j, b0, o, M, g7⟩ := Rel.put_widen_Cluster s4 (x1.mono P) (E' := [(Eb d 133 [I a.at_.Row, I a.at_.Col, B a.at_.Pending, I g.2, J a.text.text.1, J a.text.text.2.1, J a.text.text.2.2.1, J a.text.text.2.2.2.1, J a.text.text.2.2.2.2.1, J a.text.text.2.2.2.2.2.1, J a.text.text.2.2.2.2.2.2.1, J a.text.text.2.2.2.2.2.2.2.1, J a.text.text.2.2.2.2.2.2.2.2.1, J a.text.text.2.2.2.2.2.2.2.2.2.1, J a.text.text.2.2.2.2.2.2.2.2.2.2.1, J a.text.text.2.2.2.2.2.2.2.2.2.2.2.1, J a.text.text.2.2.2.2.2.2.2.2.2.2.2.2.1, J a.text.text.2.2.2.2.2.2.2.2.2.2.2.2.2.1, J a.text.text.2.2.2.2.2.2.2.2.2.2.2.2.2.2.1, J a.text.text.2.2.2.2.2.2.2.2.2.2.2.2.2.2.2, I a.text.n, B a.gauge.some, B a.gauge.pict, B a.gauge.wide])]) s5 ⟨d, (tm u), rfl⟩
 refine wln (bn H fun g4 e m4 => W.seqJ (Jn z4 fun c l => ∃ G_, Own c G_ (F) ∧ l = [] ∧ Rel c g4 G_) ?_ ?_)
 ·refine W.block (sr (va (Q d) (va (Q d) (va (.pointer (some ⟨d, 3, none⟩)) (vx (le1 3 underlying3 (b0.gon M 0 rfl)) (va (I x.wide) (va (B (g.2 != x.wide)) (va (B (g.2 != x.wide)) (wln (cn e (fun t5 e => ?_) (fun t5 e => ?_)))))))))))
  ·refine sr (va (v3) (va (Q d) (va (Q d) (va (Q d) (vx (leN 24 0 [I a.at_.Row, I a.at_.Col, B a.at_.Pending] (b0.gon M 0 rfl)) (bn e fun p6 u5 e => ?_))))))
   obtain ⟨z, rfl, g2⟩ := ((h4.mono (R.trans (e0.trans (f0.trans P))))).get u5
   refine va (Q z) (va (.pointer (some ⟨z, 1, none⟩)) (bn e fun h1 v5 e => ?_))
   obtain ⟨n1, x5, w5⟩ := Rel.open_place_Pen o v5 g2
   refine md (gB 24 1 [I a.at_.Row, I a.at_.Col, B a.at_.Pending] [n1, I a.at_.Row, I a.at_.Col, B a.at_.Pending, B h1.Auto] 0 b0 x5 ⟨rfl, rfl, rfl, trivial⟩) ?_
   rintro j7 g0 t4
   refine bn e fun j4 y5 e => ?_
   obtain ⟨a0, u4, y1, n7, h7⟩ := Rel.put_place_Pen t4 (o.mono g0) (E' := [(Eb z 42 [n1, I a.at_.Row, I a.at_.Col, B a.at_.Pending, B h1.Auto])]) y5 ⟨z, n1, (tm g2), rfl, (w5.mono g0)⟩
   refine wln (rD [10, 13] (Kp a0 []) u4 ?_)
   intro a5 g1 w1
   have b6 : Kp a0 [] a5 := (Kp.nil w1)
   refine ta 0 (Q d) (ta 1 (Q z) (ta 2 (Q d) (ta 3 (Q d) (ta 4 (.pointer (some ⟨d, 3, none⟩)) (bn e fun i1 z5 e => ?_)))))
   have b1 := Rel.open_widen_Cluster (y1.mono g1) z5 (tm u)
   refine tkx 5 b6 (fun c' N q => le1 3 underlying3 (q.gon b1 0 rfl)) (ta 6 (Q d) (ta 7 (Q d) (ta 8 (.pointer (some ⟨d, 4, none⟩)) ?_)))
   have v4 := w1.borrow 0 b1 rfl
   refine bn e fun f4 a6 e => o1 9 (gc 9 (c_cluster_Cluster_Text__widen_Cluster_4 i1.text v4 a6) ?_)
   rintro y6 z2 c1 ⟨_, x6, l2, rfl, i3⟩
   have n2 := l2.sD 2 [1, 0]
   have m2 := n2.giveB 0 rfl
   have j0 := Own.back m2 b1 rfl
   have a4 : Kp a0 [] z2 := (Kp.nil j0)
   refine ⟨.inr a4, ?_⟩
   obtain ⟨a3, k3, T, k0, j3⟩ := j0.frz 0 rfl i3
   have b4 : Kp a0 [] a3 := (Kp.nil k0)
   refine AC.gh k3 T (fun _ => b4) (bn e fun f l3 e => o1 10 (gc 10 (c_place_Pen_Put k0 y1.m (hG.m.le (by decide)) p1 i1.wide f4 h4.m j3 l3) ?_))
   rintro z6 h6 d1 ⟨d6, o2, u0, rfl⟩
   refine ⟨.inl rfl, ta 11 (Q d) (ta 12 (Q d) (bn e fun b m3 e => ?_))⟩
   have n3 := Rel.open_widen_Cluster u0 m3 ((f0.trans (P.trans (g0.trans (g1.trans (c1.trans (T.trans d1)))))).t _ _ _ u)
   refine o1 13 (gD 13 (gB 24 0 [I f.2.Row, I f.2.Col, B f.2.Pending] [I f.2.Row, I f.2.Col, B f.2.Pending, I b.wide, J b.text.text.1, J b.text.text.2.1, J b.text.text.2.2.1, J b.text.text.2.2.2.1, J b.text.text.2.2.2.2.1, J b.text.text.2.2.2.2.2.1, J b.text.text.2.2.2.2.2.2.1, J b.text.text.2.2.2.2.2.2.2.1, J b.text.text.2.2.2.2.2.2.2.2.1, J b.text.text.2.2.2.2.2.2.2.2.2.1, J b.text.text.2.2.2.2.2.2.2.2.2.2.1, J b.text.text.2.2.2.2.2.2.2.2.2.2.2.1, J b.text.text.2.2.2.2.2.2.2.2.2.2.2.2.1, J b.text.text.2.2.2.2.2.2.2.2.2.2.2.2.2.1, J b.text.text.2.2.2.2.2.2.2.2.2.2.2.2.2.2.1, J b.text.text.2.2.2.2.2.2.2.2.2.2.2.2.2.2.2, I b.text.n, B b.gauge.some, B b.gauge.pict, B b.gauge.wide] 0 o2 n3 ⟨rfl, rfl, rfl, trivial⟩) ?_)
   rintro b3 e1 q2
   refine bn e fun k4 o3 e => ?_
   obtain ⟨i2, s2, w2, l6, f6⟩ := Rel.put_widen_Cluster q2 (u0.mono e1) (E' := [(Eb d 133 [I f.2.Row, I f.2.Col, B f.2.Pending, I b.wide, J b.text.text.1, J b.text.text.2.1, J b.text.text.2.2.1, J b.text.text.2.2.2.1, J b.text.text.2.2.2.2.1, J b.text.text.2.2.2.2.2.1, J b.text.text.2.2.2.2.2.2.1, J b.text.text.2.2.2.2.2.2.2.1, J b.text.text.2.2.2.2.2.2.2.2.1, J b.text.text.2.2.2.2.2.2.2.2.2.1, J b.text.text.2.2.2.2.2.2.2.2.2.2.1, J b.text.text.2.2.2.2.2.2.2.2.2.2.2.1, J b.text.text.2.2.2.2.2.2.2.2.2.2.2.2.1, J b.text.text.2.2.2.2.2.2.2.2.2.2.2.2.2.1, J b.text.text.2.2.2.2.2.2.2.2.2.2.2.2.2.2.1, J b.text.text.2.2.2.2.2.2.2.2.2.2.2.2.2.2.2, I b.text.n, B b.gauge.some, B b.gauge.pict, B b.gauge.wide])]) o3 ⟨d, ((f0.trans (P.trans (g0.trans (g1.trans (c1.trans (T.trans (d1.trans e1))))))).t _ _ _ u), rfl⟩
   refine ⟨.inl rfl, dn (bkn (nrm ?_))⟩
   obtain rfl := si e
   have t2 := s2.sD 1 []
   exact ⟨b3, _, _, rfl, pt, us, i2, t2, rfl, w2⟩
  refine W.seq (rD [] (Kp j []) b0 ?_)
  intro c3 f1 l0
  have m1 : Kp j [] c3 := (Kp.nil l0)
  refine ta 0 (Q d) (ta 1 (Q d) (ta 2 (.pointer (some ⟨d, 3, none⟩)) (tkx 3 m1 (fun c' N q => le1 3 underlying3 (q.gon M 0 rfl)) (ta 4 (v3) (bn e fun q6 s3 e => ?_)))))
  obtain ⟨p, rfl, q3⟩ := ((h4.mono (R.trans (e0.trans (f0.trans (P.trans f1)))))).get s3
  refine ta 5 (Q p) (ta 6 (Q p) (bn e fun j1 t3 e => ?_))
  obtain ⟨a7, z0, y0⟩ := Rel.open_place_Pen (o.mono f1) t3 q3
  refine tkx 7 m1 (fun c' N q => le1 0 underlying35 (q.gon z0 0 rfl)) (bn e fun q1 u3 e => o1 8 (gc 8 (c_grid_Grid_Wide l0 o.m j1.G y0 u3) ?_))
  rintro b7 w0 r6 ⟨S, rfl⟩
  have c4 : Kp j [] w0 := (Kp.nil S)
  refine ⟨.inr c4, ta 9 (B (decide (g.2 ≤ q1))) (ta 10 (B (decide (g.2 ≤ q1))) (dn (nrm (cn e (fun w3 e => ?_) (fun w3 e => ?_)))))⟩
  ·refine rD [16] (Kp j []) S ?_
   intro d3 s6 m0
   have X : Kp j [] d3 := (Kp.nil m0)
   refine ta 0 (Q p) (ta 1 (Q p) (ta 2 (Q p) (tkx 3 X (fun c' N q => le1 0 underlying35 (q.gon z0 0 rfl)) (ta 4 (Q d) (ta 5 (Q d) (ta 6 (Q d) (ta 7 (Q d) (tkx 8 X (fun c' N q => le1 0 underlying3 (q.gon M 0 rfl)) (ta 10 (Q d) (ta 11 (Q d) (ta 12 (Q d) (ta 13 (.pointer (some ⟨d, 1, none⟩)) (tkx 14 X (fun c' N q => le1 1 underlying3 (q.gon M 0 rfl)) (ta 15 (J Z) (bn e fun u1 x3 e => o1 9 (gc 9 (c_grid_Grid_Row m0 o.m j1.G a.at_.Row y0.m x3) ?_))))))))))))))))
   rintro c7 e3 t6 ⟨_, o0, rfl, y3⟩
   have d4 : Kp j [] e3 := (Kp.nil o0)
   refine ⟨.inr d4, bn e fun c6 z3 e => o1 16 (gc 16 (c_mark_Add o0 o.m (hG.m.le (by decide)) u1 a.at_.Col Z y3 z3) ?_)⟩
   rintro d7 f3 u6 ⟨j2, u2, x2, rfl⟩
   refine ⟨.inl rfl, dn (bkn (nrm ?_))⟩
   obtain rfl := si e
   exact ⟨f3, _, _, rfl, pt, us, j2, u2, rfl, x2⟩
  refine W.skip (bkn (nrm ?_))
  obtain rfl := si e
  exact ⟨w0, _, _, rfl, pt, us, j, S, rfl, o.m⟩
 rintro e_ w_ ⟨g3, k6, _, rfl, v6, rfl, k2, v2, rfl, y2⟩
 refine sr (va (B true) (wln (W.ret ?_)))
 obtain rfl := si m4
 exact r1 ⟨_, g3, rfl, rfl, pt, k2, v2, y2, rfl⟩
def t_gcb_table_134 : List (Int × Int × Int) := [(0, 9, 3), (10, 10, 2), (11, 12, 3), (13, 13, 1), (14, 31, 3), (127, 159, 3), (173, 173, 3), (768, 879, 4), (1155, 1161, 4), (1425, 1469, 4), (1471, 1471, 4), (1473, 1474, 4), (1476, 1477, 4), (1479, 1479, 4), (1536, 1541, 7), (1552, 1562, 4), (1564, 1564, 3), (1611, 1631, 4), (1648, 1648, 4), (1750, 1756, 4), (1757, 1757, 7), (1759, 1764, 4), (1767, 1768, 4), (1770, 1773, 4), (1807, 1807, 7), (1809, 1809, 4), (1840, 1866, 4), (1958, 1968, 4), (2027, 2035, 4), (2070, 2073, 4), (2075, 2083, 4), (2192, 2193, 7), (2259, 2273, 4), (2274, 2274, 7), (2275, 2306, 4), (2307, 2307, 8), (2362, 2362, 4), (2363, 2363, 8), (2364, 2364, 4), (2366, 2368, 8), (2369, 2376, 4), (2377, 2380, 8), (2381, 2381, 4), (2382, 2383, 8), (2385, 2391, 4), (2402, 2403, 4), (2433, 2433, 4), (2434, 2435, 8), (2492, 2492, 4), (2494, 2494, 4), (2495, 2496, 8), (2497, 2500, 4), (2503, 2504, 8), (2507, 2508, 8), (2509, 2509, 4), (2519, 2519, 4), (2530, 2531, 4), (2561, 2562, 4), (2563, 2563, 8), (2620, 2620, 4), (2622, 2624, 8), (2625, 2626, 4), (2631, 2632, 4), (2635, 2637, 4), (2691, 2691, 8), (2748, 2748, 4), (2750, 2752, 8), (2753, 2757, 4), (2761, 2761, 8), (2765, 2765, 4), (2818, 2819, 8), (2876, 2876, 4), (2878, 2879, 4), (2880, 2880, 8), (2881, 2884, 4), (2887, 2888, 8), (2893, 2893, 4), (2902, 2903, 4), (3073, 3075, 8), (3132, 3132, 4), (3134, 3136, 4), (3137, 3140, 8), (3142, 3144, 4), (3146, 3149, 4), (3276, 3277, 4), (3330, 3331, 8), (3390, 3390, 4), (3391, 3392, 8), (3393, 3396, 4), (3398, 3400, 8), (3405, 3405, 4), (3406, 3406, 7), (3633, 3633, 4), (3635, 3635, 8), (3636, 3642, 4), (3655, 3662, 4), (3761, 3761, 4), (3763, 3763, 8), (3764, 3772, 4), (3864, 3865, 4), (3902, 3903, 8), (3953, 3966, 4), (4155, 4156, 8), (4957, 4959, 4), (6158, 6158, 3), (6832, 6862, 4), (7616, 7679, 4), (8203, 8203, 3), (8204, 8204, 4), (8205, 8205, 5), (8206, 8207, 3), (8232, 8238, 3), (8288, 8303, 3), (8400, 8432, 4), (12330, 12335, 4), (12441, 12442, 4), (42607, 42610, 4), (64286, 64286, 4), (65024, 65039, 4), (65056, 65071, 4), (65279, 65279, 3), (65520, 65531, 3), (69821, 69821, 7), (69837, 69837, 7), (127462, 127487, 6), (127995, 127999, 4), (917504, 917535, 3), (917536, 917631, 4), (917632, 917759, 3), (917760, 917999, 4), (918000, 921599, 3)]
def f_gcb_table  : Option (List (Int × Int × Int)) :=
 some t_gcb_table_134
theorem c_gcb_table (d : Own c0 G F) {r : List (Int × Int × Int)} (H : f_gcb_table  = some r) :
    Calls prog 252 #[] c0.w (Post c0 fun c v => ∃ a b, Own c G (es true RA3_i64 a 295 b r :: F) ∧ v = a ∧ OA RA3_i64 c a b r) := by
 unfold f_gcb_table at H
 refine en func252 rfl rfl (sr (va (Y) (wln (sr (va (.agg #[I 0, I 9, I 3]) (va (.agg #[I 10, I 10, I 2]) (va (.agg #[I 11, I 12, I 3]) (va (.agg #[I 13, I 13, I 1]) (va (.agg #[I 14, I 31, I 3]) (va (.agg #[I 127, I 159, I 3]) (va (.agg #[I 173, I 173, I 3]) (va (.agg #[I 768, I 879, I 4]) (va (.agg #[I 1155, I 1161, I 4]) (va (.agg #[I 1425, I 1469, I 4]) (va (.agg #[I 1471, I 1471, I 4]) (va (.agg #[I 1473, I 1474, I 4]) (va (.agg #[I 1476, I 1477, I 4]) (va (.agg #[I 1479, I 1479, I 4]) (va (.agg #[I 1536, I 1541, I 7]) (va (.agg #[I 1552, I 1562, I 4]) (va (.agg #[I 1564, I 1564, I 3]) (va (.agg #[I 1611, I 1631, I 4]) (va (.agg #[I 1648, I 1648, I 4]) (va (.agg #[I 1750, I 1756, I 4]) (va (.agg #[I 1757, I 1757, I 7]) (va (.agg #[I 1759, I 1764, I 4]) (va (.agg #[I 1767, I 1768, I 4]) (va (.agg #[I 1770, I 1773, I 4]) (va (.agg #[I 1807, I 1807, I 7]) (va (.agg #[I 1809, I 1809, I 4]) (va (.agg #[I 1840, I 1866, I 4]) (va (.agg #[I 1958, I 1968, I 4]) (va (.agg #[I 2027, I 2035, I 4]) (va (.agg #[I 2070, I 2073, I 4]) (va (.agg #[I 2075, I 2083, I 4]) (va (.agg #[I 2192, I 2193, I 7]) (va (.agg #[I 2259, I 2273, I 4]) (va (.agg #[I 2274, I 2274, I 7]) (va (.agg #[I 2275, I 2306, I 4]) (va (.agg #[I 2307, I 2307, I 8]) (va (.agg #[I 2362, I 2362, I 4]) (va (.agg #[I 2363, I 2363, I 8]) (va (.agg #[I 2364, I 2364, I 4]) (va (.agg #[I 2366, I 2368, I 8]) (va (.agg #[I 2369, I 2376, I 4]) (va (.agg #[I 2377, I 2380, I 8]) (va (.agg #[I 2381, I 2381, I 4]) (va (.agg #[I 2382, I 2383, I 8]) (va (.agg #[I 2385, I 2391, I 4]) (va (.agg #[I 2402, I 2403, I 4]) (va (.agg #[I 2433, I 2433, I 4]) (va (.agg #[I 2434, I 2435, I 8]) (va (.agg #[I 2492, I 2492, I 4]) (va (.agg #[I 2494, I 2494, I 4]) (va (.agg #[I 2495, I 2496, I 8]) (va (.agg #[I 2497, I 2500, I 4]) (va (.agg #[I 2503, I 2504, I 8]) (va (.agg #[I 2507, I 2508, I 8]) (va (.agg #[I 2509, I 2509, I 4]) (va (.agg #[I 2519, I 2519, I 4]) (va (.agg #[I 2530, I 2531, I 4]) (va (.agg #[I 2561, I 2562, I 4]) (va (.agg #[I 2563, I 2563, I 8]) (va (.agg #[I 2620, I 2620, I 4]) (va (.agg #[I 2622, I 2624, I 8]) (va (.agg #[I 2625, I 2626, I 4]) (va (.agg #[I 2631, I 2632, I 4]) (va (.agg #[I 2635, I 2637, I 4]) (va (.agg #[I 2691, I 2691, I 8]) (va (.agg #[I 2748, I 2748, I 4]) (va (.agg #[I 2750, I 2752, I 8]) (va (.agg #[I 2753, I 2757, I 4]) (va (.agg #[I 2761, I 2761, I 8]) (va (.agg #[I 2765, I 2765, I 4]) (va (.agg #[I 2818, I 2819, I 8]) (va (.agg #[I 2876, I 2876, I 4]) (va (.agg #[I 2878, I 2879, I 4]) (va (.agg #[I 2880, I 2880, I 8]) (va (.agg #[I 2881, I 2884, I 4]) (va (.agg #[I 2887, I 2888, I 8]) (va (.agg #[I 2893, I 2893, I 4]) (va (.agg #[I 2902, I 2903, I 4]) (va (.agg #[I 3073, I 3075, I 8]) (va (.agg #[I 3132, I 3132, I 4]) (va (.agg #[I 3134, I 3136, I 4]) (va (.agg #[I 3137, I 3140, I 8]) (va (.agg #[I 3142, I 3144, I 4]) (va (.agg #[I 3146, I 3149, I 4]) (va (.agg #[I 3276, I 3277, I 4]) (va (.agg #[I 3330, I 3331, I 8]) (va (.agg #[I 3390, I 3390, I 4]) (va (.agg #[I 3391, I 3392, I 8]) (va (.agg #[I 3393, I 3396, I 4]) (va (.agg #[I 3398, I 3400, I 8]) (va (.agg #[I 3405, I 3405, I 4]) (va (.agg #[I 3406, I 3406, I 7]) (va (.agg #[I 3633, I 3633, I 4]) (va (.agg #[I 3635, I 3635, I 8]) (va (.agg #[I 3636, I 3642, I 4]) (va (.agg #[I 3655, I 3662, I 4]) (va (.agg #[I 3761, I 3761, I 4]) (va (.agg #[I 3763, I 3763, I 8]) (va (.agg #[I 3764, I 3772, I 4]) (va (.agg #[I 3864, I 3865, I 4]) (va (.agg #[I 3902, I 3903, I 8]) (va (.agg #[I 3953, I 3966, I 4]) (va (.agg #[I 4155, I 4156, I 8]) (va (.agg #[I 4957, I 4959, I 4]) (va (.agg #[I 6158, I 6158, I 3]) (va (.agg #[I 6832, I 6862, I 4]) (va (.agg #[I 7616, I 7679, I 4]) (va (.agg #[I 8203, I 8203, I 3]) (va (.agg #[I 8204, I 8204, I 4]) (va (.agg #[I 8205, I 8205, I 5]) (va (.agg #[I 8206, I 8207, I 3]) (va (.agg #[I 8232, I 8238, I 3]) (va (.agg #[I 8288, I 8303, I 3]) (va (.agg #[I 8400, I 8432, I 4]) (va (.agg #[I 12330, I 12335, I 4]) (va (.agg #[I 12441, I 12442, I 4]) (va (.agg #[I 42607, I 42610, I 4]) (va (.agg #[I 64286, I 64286, I 4]) (va (.agg #[I 65024, I 65039, I 4]) (va (.agg #[I 65056, I 65071, I 4]) (va (.agg #[I 65279, I 65279, I 3]) (va (.agg #[I 65520, I 65531, I 3]) (va (.agg #[I 69821, I 69821, I 7]) (va (.agg #[I 69837, I 69837, I 7]) (va (.agg #[I 127462, I 127487, I 6]) (va (.agg #[I 127995, I 127999, I 4]) (va (.agg #[I 917504, I 917535, I 3]) (va (.agg #[I 917536, I 917631, I 4]) (va (.agg #[I 917632, I 917759, I 3]) (va (.agg #[I 917760, I 917999, I 4]) (va (.agg #[I 918000, I 921599, I 3]) (me (Own.sl (R := RA3_i64) (E := 295) (ls := t_gcb_table_134.map (fun x => [I x.1, I x.2.1, I x.2.2])) (vs := (t_gcb_table_134.map (fun x => [I x.1, I x.2.1, I x.2.2])).flatten) (xs := t_gcb_table_134) true d (Nat.succ_pos _) rfl (AllR.map _ (fun _ => rfl) _) (by kernel_rfl) (by kernel_rfl)) ?_))))))))))))))))))))))))))))))))))))))))))))))))))))))))))))))))))))))))))))))))))))))))))))))))))))))))))))))))))))))))))))))))))))))))
 rintro v5 f i ⟨h, e, g⟩
 refine va (v5) (wln (W.ret ?_))
 obtain rfl := si H
 exact r1 ⟨_, f, rfl, rfl, pt, v5, h, e, rfl, g⟩
def f_gcb_Of_1 (p0 : Int) (q0_0 : List (Int × Int × Int)) (q1_0 : Int) : Option (Bool) :=
 (idx q0_0 p0).bind fun a =>
 some (decide (a.2.1 ≥ (w64 q1_0)))
theorem c_gcb_Of_1 {d : Nat} {e : Nat} (o : Own c0 G F) (b : Int) (q0_0 : List (Int × Int × Int)) (q1_0 : Int) {r : Bool} (s : ∀ j u, ([v2] : List Value)[j]? = some u → Im c0 d (0 + j) u) (k : Sl RA3_i64 c0 v2 q0_0) (t : ∀ j u, ([J q1_0] : List Value)[j]? = some u → Im c0 e (0 + j) u) (H : f_gcb_Of_1 b q0_0 q1_0 = some r) :
    Calls prog 254 #[I b, Q d, Q e] c0.w (Post c0 fun c v => Own c G (F) ∧ v = B r) := by
 unfold f_gcb_Of_1 at H
 refine en func254 rfl rfl (sr (va (B false) (wln (W.seq (rD [] (Kp G0 []) o ?_)))))
 intro h q p
 have y : Kp G0 [] h := Kp.nil0
 refine tx 0 (fun g a => l1 underlying292 ((mm s) 0 _ rfl)) (ta 1 (I b) (bn H fun f l H => ?_))
 obtain ⟨x, i, n⟩ := Sl.at (k.mono q) (idx_get l)
 obtain rfl := i
 refine tx 2 (fun g a => ix underlying292 k.m l) (ta 3 (.pointer (some ⟨sb v2, so v2 + b.toNat * 3 + 1, none⟩)) (tx 4 (fun g a => l1 underlying3 ((mm n) 1 _ rfl)) (tx 5 (fun g a => l1 underlying21 ((mm t) 0 _ rfl)) (ta 6 (I (w64 q1_0)) (ta 7 (B (decide (f.2.1 ≥ (w64 q1_0)))) (ta 8 (B (decide (f.2.1 ≥ (w64 q1_0)))) (dn (nrm (W.ret ?_)))))))))
 obtain rfl := si H
 exact r1 ⟨_, h, rfl, rfl, pt, p, rfl⟩
def f_sort_Search__gcb_Of_1 (p0 : Int) (p1_0_0 : List (Int × Int × Int)) (p1_1_0 : Int) : Option (Int) :=
 (iter (σ := Int × Int) (τ := Int) ((p0 - 0).toNat + 1) (fun a =>
 if (decide (a.1 < a.2)) = true then
 (f_gcb_Of_1 (w64 ((IntKind.u64.wrap (w64 (a.1 + a.2))).fdiv (2 ^ 1))) p1_0_0 p1_1_0).bind fun b =>
 if (!b) = true then
 some (.inl ((w64 ((w64 ((IntKind.u64.wrap (w64 (a.1 + a.2))).fdiv (2 ^ 1))) + 1)), a.2))
 else
 some (.inl (a.1, (w64 ((IntKind.u64.wrap (w64 (a.1 + a.2))).fdiv (2 ^ 1)))))
 else
 some (.inr (a.1))) (0, p0)).bind fun c =>
 some c
theorem c_sort_Search__gcb_Of_1 {b1_0 : Nat} {b1_1 : Nat} (A : Own c0 G F) (b : Int) (p1_0_0 : List (Int × Int × Int)) (p1_1_0 : Int) {r : Int} (N : ∀ j u, ([v2] : List Value)[j]? = some u → Im c0 b1_0 (0 + j) u) (M : Sl RA3_i64 c0 v2 p1_0_0) (P : ∀ j u, ([J p1_1_0] : List Value)[j]? = some u → Im c0 b1_1 (0 + j) u) (H : f_sort_Search__gcb_Of_1 b p1_0_0 p1_1_0 = some r) :
    Calls prog 253 #[I b, .func (.func 254) #[] #[Q b1_0, Q b1_1]] c0.w (Post c0 fun c v => Own c G (F) ∧ v = I r) := by
 unfold f_sort_Search__gcb_Of_1 at H
 refine en func253 rfl rfl (sr (va (I 0) (wln (sr (va (I b) (va (I 0) (va (I b) (wln (W.seq (W.block (bn H fun g y k => lp y (fun a => Jn c0 fun c l => Own c G (F) ∧ l = [(1, .func (.func 254) #[] #[Q b1_0, Q b1_1]), (5, I a.1), (6, I a.2)]) (fun h ex e w => ex = .exit 0 ∧ (Jn c0 fun c l => Own c G (F) ∧ l = [(5, I h)]) e w) ?_ ?_ ?_)))))))))))
 ·clear k y
  intro a X q z H
  revert q z
  rintro E R ⟨D, Z, _, rfl, l7, rfl, o, rfl⟩
  refine W.seq (sr (va (I a.1) (va (I a.2) (va (B (decide (a.1 < a.2))) (wln (cn H (fun s H => ?_) (fun s H => ?_)))))))
  ·refine W.skip (nrm (W.block (sr (va (I a.1) (va (I a.2) (va (I (w64 (a.1 + a.2))) (va (.int .u64 (IntKind.u64.wrap (w64 (a.1 + a.2)))) (va (.int .u64 ((IntKind.u64.wrap (w64 (a.1 + a.2))).fdiv (2 ^ 1))) (va (I (w64 ((IntKind.u64.wrap (w64 (a.1 + a.2))).fdiv (2 ^ 1)))) (va (I (w64 ((IntKind.u64.wrap (w64 (a.1 + a.2))).fdiv (2 ^ 1)))) (wln (sr (va (.func (.func 254) #[] #[Q b1_0, Q b1_1]) (va (I (w64 ((IntKind.u64.wrap (w64 (a.1 + a.2))).fdiv (2 ^ 1)))) (bn H fun i t H => cl (c_gcb_Of_1 o (w64 ((IntKind.u64.wrap (w64 (a.1 + a.2))).fdiv (2 ^ 1))) p1_0_0 p1_1_0 (mm N) M.m (mm P) t) ?_)))))))))))))))
   rintro v20 f T ⟨d, rfl⟩
   refine va (B (!i)) (wln (cn H (fun x H => ?_) (fun x H => ?_)))
   ·refine W.region (va (I (w64 ((IntKind.u64.wrap (w64 (a.1 + a.2))).fdiv (2 ^ 1)))) (va (I (w64 ((w64 ((IntKind.u64.wrap (w64 (a.1 + a.2))).fdiv (2 ^ 1))) + 1))) (va (I (w64 ((w64 ((IntKind.u64.wrap (w64 (a.1 + a.2))).fdiv (2 ^ 1))) + 1))) (WL.nil (bkn ?_)))))
    obtain rfl := si H
    exact ⟨_, rfl, ⟨f, _, _, rfl, pt, us, d, rfl⟩⟩
   refine W.region (va (I (w64 ((IntKind.u64.wrap (w64 (a.1 + a.2))).fdiv (2 ^ 1)))) (va (I (w64 ((IntKind.u64.wrap (w64 (a.1 + a.2))).fdiv (2 ^ 1)))) (WL.nil (bkn ?_))))
   obtain rfl := si H
   exact ⟨_, rfl, ⟨f, _, _, rfl, pt, us, d, rfl⟩⟩
  refine W.exit (thx ?_)
  obtain rfl := si H
  exact ⟨_, rfl, rfl, ⟨D, _, _, rfl, pt, us, o, rfl⟩⟩
 ·exact ⟨c0, _, _, rfl, pt, us, A, rfl⟩
 rintro _ E R ⟨rfl, p, S, _, rfl, U, rfl, n, rfl⟩
 refine bke (nrm (sr (va (I g) (va (I g) (wln (W.ret ?_))))))
 obtain rfl := si k
 exact r1 ⟨_, p, rfl, rfl, pt, n, rfl⟩
def f_hangul_in (p0 : Int) (p1 : Int) (p2 : Int) : Option (Bool) :=
 (andE (decide (p0 ≥ p1)) (some (decide (p0 ≤ p2)))).bind fun a =>
 some a
theorem c_hangul_in (f : Own c0 G F) (a : Int) (e : Int) (b : Int) {r : Bool} (H : f_hangul_in a e b = some r) :
    Calls prog 269 #[J a, J e, J b] c0.w (Post c0 fun c v => Own c G (F) ∧ v = B r) := by
 unfold f_hangul_in at H
 refine en func269 rfl rfl (sr (va (B false) (wln (W.seq (bn H fun g h H => W.join (Jn c0 fun c l => Own c G (F) ∧ l = [(6, B g)]) ?_ ?_)))))
 ·clear H
  refine W.region (va (J a) (va (J e) (va (B (decide (a ≥ e))) ?_)))
  rcases bo (decide (a ≥ e)) with d | d
  ·have i := anT d h
   refine vb d (wn (va (J a) (wn (va (J b) (wn (va (B (decide (a ≤ b))) ?_))))))
   obtain rfl := si i
   exact va (B (decide (a ≤ b))) (va (B (decide (a ≤ b))) (wln ⟨c0, _, _, rfl, pt, us, f, rfl⟩))
  obtain rfl := anF d h
  exact vb d (ps (ps (ps (va (B false) (va (B false) (wln ⟨c0, _, _, rfl, pt, us, f, rfl⟩))))))
 rintro m p ⟨k, n, _, rfl, o, rfl, j, rfl⟩
 refine nrm (W.ret ?_)
 obtain rfl := si H
 exact r1 ⟨_, k, rfl, rfl, pt, j, rfl⟩
def f_hangul_Syllable (p0 : Int) : Option (Bool) :=
 (f_hangul_in p0 44032 55203).bind fun a =>
 some a
theorem c_hangul_Syllable (d : Own c0 G F) (a : Int) {r : Bool} (H : f_hangul_Syllable a = some r) :
    Calls prog 270 #[J a] c0.w (Post c0 fun c v => Own c G (F) ∧ v = B r) := by
 unfold f_hangul_Syllable at H
 refine en func270 rfl rfl (sr (va (B false) (wln (sr (va (J a) (bn H fun b g H => cl (c_hangul_in d a 44032 55203 g) ?_))))))
 rintro v7 f h ⟨e, rfl⟩
 refine va (B b) (wln (W.ret ?_))
 obtain rfl := si H
 exact r1 ⟨_, f, rfl, rfl, pt, e, rfl⟩
def f_hangul_Class (p0 : Int) : Option (Int) :=
 (f_hangul_in p0 4352 4447).bind fun i =>
 (orE i ((f_hangul_in p0 43360 43388).bind fun j =>
 some j)).bind fun h =>
 if h = true then
 some 9
 else
 (f_hangul_in p0 4448 4519).bind fun c =>
 (orE c ((f_hangul_in p0 55216 55238).bind fun d =>
 some d)).bind fun a =>
 if a = true then
 some 10
 else
 (f_hangul_in p0 4520 4607).bind fun e =>
 (orE e ((f_hangul_in p0 55243 55291).bind fun f =>
 some f)).bind fun b =>
 if b = true then
 some 11
 else
 (f_hangul_Syllable p0).bind fun g =>
 if (!g) = true then
 some 0
 else
 if (((w32 (p0 - 44032)).tmod 28) == 0) = true then
 some 12
 else
 some 13
theorem c_hangul_Class (O0 : Own c0 G F) (a : Int) {r : Int} (H : f_hangul_Class a = some r) :
    Calls prog 255 #[J a] c0.w (Post c0 fun c v => Own c G (F) ∧ v = I r) := by
 unfold f_hangul_Class at H
 refine en func255 rfl rfl (sr (va (I 0) (wln (W.seq (W.block (W.seq (bn H fun w0 h1 H => bn H fun e0 h2 H => W.join (Jn c0 fun c l => Own c G (F) ∧ l = [(0, J a), (3, B e0)]) ?_ ?_)))))))
 ·clear H
  refine W.region (va (J a) (cl (c_hangul_in O0 a 4352 4447 h1) ?_))
  rintro v8 c7 l7 ⟨S, rfl⟩
  rcases bo (w0) with j | j
  ·obtain rfl := orT j h2
   exact vb j (ps (ps (va (B true) (va (B true) (wln ⟨c7, _, _, rfl, pt, us, S, rfl⟩)))))
  have e := orF j h2
  refine vb j (wn (va (J a) (wn (bn e fun A g0 e => cl (c_hangul_in S a 43360 43388 g0) ?_))))
  rintro v17 U l16 ⟨P, rfl⟩
  obtain rfl := si e
  exact va (B A) (va (B A) (wln ⟨U, _, _, rfl, pt, us, P, rfl⟩))
 rintro e_ w_ ⟨u, a1, _, rfl, d1, rfl, o, rfl⟩
 refine nrm (cn H (fun i0 H => ?_) (fun i0 H => ?_))
 ·refine sr (va (I 9) (wln (W.ret (bkr (thr ?_)))))
  obtain rfl := si H
  exact r1 ⟨_, u, rfl, rfl, pt, o, rfl⟩
 refine W.seq (bn H fun M j0 H => bn H fun D y H => W.join (Jn u fun c l => Own c G (F) ∧ l = [(0, J a), (10, B D)]) ?_ ?_)
 ·clear H
  refine W.region (va (J a) (cl (c_hangul_in o a 4448 4519 j0) ?_))
  rintro v32 X e1 ⟨p, rfl⟩
  rcases bo (M) with b | b
  ·obtain rfl := orT b y
   exact vb b (ps (ps (va (B true) (va (B true) (wln ⟨X, _, _, rfl, pt, us, p, rfl⟩)))))
  have f := orF b y
  refine vb b (wn (va (J a) (wn (bn f fun k k0 f => cl (c_hangul_in p a 55216 55238 k0) ?_))))
  rintro v41 Z f1 ⟨R, rfl⟩
  obtain rfl := si f
  exact va (B k) (va (B k) (wln ⟨Z, _, _, rfl, pt, us, R, rfl⟩))
 rintro e_ w_ ⟨x, b1, _, rfl, g1, rfl, q, rfl⟩
 refine nrm (cn H (fun l0 H => ?_) (fun l0 H => ?_))
 ·refine sr (va (I 10) (wln (W.ret (bkr (thr ?_)))))
  obtain rfl := si H
  exact r1 ⟨_, x, rfl, rfl, pt, q, rfl⟩
 refine W.seq (bn H fun N m0 H => bn H fun E z H => W.join (Jn x fun c l => Own c G (F) ∧ l = [(0, J a), (17, B E)]) ?_ ?_)
 ·clear H
  refine W.region (va (J a) (cl (c_hangul_in q a 4520 4607 m0) ?_))
  rintro v56 a0 i1 ⟨s, rfl⟩
  rcases bo (N) with d | d
  ·obtain rfl := orT d z
   exact vb d (ps (ps (va (B true) (va (B true) (wln ⟨a0, _, _, rfl, pt, us, s, rfl⟩)))))
  have g := orF d z
  refine vb d (wn (va (J a) (wn (bn g fun m o0 g => cl (c_hangul_in s a 55243 55291 o0) ?_))))
  rintro n1 b0 j1 ⟨T, rfl⟩
  obtain rfl := si g
  exact va (B m) (va (B m) (wln ⟨b0, _, _, rfl, pt, us, T, rfl⟩))
 rintro e_ w_ ⟨d0, c1, _, rfl, k1, rfl, t, rfl⟩
 refine nrm (cn H (fun q0 H => ?_) (fun q0 H => ?_))
 ·refine sr (va (I 11) (wln (W.ret (bkr (thr ?_)))))
  obtain rfl := si H
  exact r1 ⟨_, d0, rfl, rfl, pt, t, rfl⟩
 refine sr (va (J a) (bn H fun n s0 H => cl (c_hangul_Syllable t a s0) ?_))
 rintro p1 i m1 ⟨h, rfl⟩
 refine va (B (!n)) (va (B (!n)) (wln (cn H (fun t0 H => ?_) (fun t0 H => ?_))))
 ·refine sr (va (I 0) (wln (W.ret (bkr (thr ?_)))))
  obtain rfl := si H
  exact r1 ⟨_, i, rfl, rfl, pt, h, rfl⟩
 refine sr (va (J a) (va (J (w32 (a - 44032))) (va (J ((w32 (a - 44032)).tmod 28)) (va (B (((w32 (a - 44032)).tmod 28) == 0)) (va (B (((w32 (a - 44032)).tmod 28) == 0)) (wln (cn H (fun u0 H => ?_) (fun u0 H => ?_))))))))
 ·refine sr (va (I 12) (wln (W.ret (bkr (thr ?_)))))
  obtain rfl := si H
  exact r1 ⟨_, i, rfl, rfl, pt, h, rfl⟩
 refine W.skip (bkn (nrm (sr (va (I 13) (wln (W.ret ?_))))))
 obtain rfl := si H
 exact r1 ⟨_, i, rfl, rfl, pt, h, rfl⟩
def f_gcb_Of (p0 : Int) : Option (Int) :=
 (f_gcb_table).bind fun a =>
 (f_sort_Search__gcb_Of_1 (a.length : Int) a p0).bind fun b =>
 (andE (decide (b < (a.length : Int))) ((idx a b).bind fun d =>
 some (decide (d.1 ≤ (w64 p0))))).bind fun c =>
 if c = true then
 (idx a b).bind fun e =>
 some e.2.2
 else
 (f_hangul_Class p0).bind fun f =>
 some f
theorem c_gcb_Of (O0 : Own c0 G F) (i : Int) {r : Int} (H : f_gcb_Of i = some r) :
    Calls prog 227 #[J i] c0.w (Post c0 fun c v => Own c G (F) ∧ v = I r) := by
 unfold f_gcb_Of at H
 refine en func227 rfl rfl (sr (me (bx 21 [J i] O0) ?_))
 rintro v5 c4 l4 ⟨b1, rfl, O2, R⟩
 refine va (I 0) (wln (sr (bn H fun j h6 H => cl (c_gcb_table O2 h6) ?_)))
 rintro v7 h1 p1 ⟨_, u8, U, rfl, s⟩
 refine me (al 292 [Y] U) ?_
 rintro v19 i1 E ⟨y, rfl, X⟩
 obtain ⟨b, d, e, rfl⟩ := ((s.mono E)).form
 refine md (sC 292 0 (.slice b d e) [.slice b d e] 0 X ⟨s.m.one, trivial⟩) ?_
 rintro j1 v0 t
 refine wln (sr (vx (le1 0 underlying292 (t.on 0 rfl)) (vx (lnO 3 underlying292 s.m) ?_)))
 obtain ⟨k1, l0, q1, Z, g⟩ := t.frz 1 rfl (s.mono (E.trans v0))
 refine WL.gh l0 ?_
 obtain ⟨m1, m0, M, a0, n⟩ := Own.frzB 0 Z rfl
 refine WL.gh m0 ?_
 have b0 := a0.sD 2 [1]
 refine va (.func (.func 254) #[] #[Q y, Q b1]) (bn H fun a o0 H => cl (c_sort_Search__gcb_Of_1 b0 (j.length : Int) j i n g.m (mm R) o0) ?_)
 rintro v40 i0 N ⟨d0, rfl⟩
 refine va (I a) (wln (W.seq (W.seq (bn H fun P z H => W.join (Jn i0 fun c l => Own c G (es false RA3_i64 (.slice b d e) 295 u8 j :: F) ∧ l = [(1, Q b1), (3, Q y), (4, I a), (23, B P)]) ?_ ?_))))
 ·clear H
  refine rD [] (Kp G0 []) d0 ?_
  intro p w0 u
  have t1 : Kp G0 [] p := Kp.nil0
  refine ta 0 (I a) (tx 1 (fun k f => l1 underlying292 ((mm n) 0 _ rfl)) (tx 2 (fun k f => ln 3 underlying292 g.m) (ta 3 (B (decide (a < (j.length : Int)))) ?_)))
  rcases bo (decide (a < (j.length : Int))) with h | h
  ·have o := anT h z
   refine bn o fun q A o => AC.takeb 4 h rfl (by kernel_rfl) (by kernel_rfl) (fun k f => (by kernel_rfl)) (tx 5 (fun k f => l1 underlying292 ((mm n) 0 _ rfl)) (ta 6 (I a) ?_))
   obtain ⟨e1, q0, y0⟩ := Sl.at (g.mono (M.trans (N.trans w0))) (idx_get A)
   obtain rfl := q0
   refine tx 7 (fun k f => ix underlying292 g.m A) (ta 8 (.pointer (some ⟨sb (.slice b d e), so (.slice b d e) + a.toNat * 3, none⟩)) (tx 9 (fun k f => l1 underlying3 ((mm y0) 0 _ rfl)) (tx 10 (fun k f => l1 underlying21 ((mm R) 0 _ rfl)) (ta 11 (I (w64 i)) (ta 12 (B (decide (q.1 ≤ (w64 i)))) ?_)))))
   obtain rfl := si o
   exact ta 13 (B (decide (q.1 ≤ (w64 i)))) (dn (nrm ⟨p, _, _, rfl, pt, us, u, rfl⟩))
  obtain rfl := anF h z
  exact AC.takeb 4 h rfl (by kernel_rfl) (by kernel_rfl) (fun k f => (by kernel_rfl)) (tp 5 (tp 6 (tp 7 (tp 8 (tp 9 (tp 10 (tp 11 (tp 12 (ta 13 (B false) (dn (nrm ⟨p, _, _, rfl, pt, us, u, rfl⟩)))))))))))
 rintro e_ w_ ⟨j0, n1, _, rfl, x0, rfl, x, rfl⟩
 refine nrm (cn H (fun s0 H => ?_) (fun s0 H => ?_))
 ·refine sr (vx (l1 underlying292 ((mm n) 0 _ rfl)) (va (I a) (bn H fun S D H => ?_)))
  obtain ⟨f1, t0, z0⟩ := Sl.at (g.mono (M.trans (N.trans x0))) (idx_get D)
  obtain rfl := t0
  refine vx (ix underlying292 g.m D) (va (.pointer (some ⟨sb (.slice b d e), so (.slice b d e) + a.toNat * 3 + 2, none⟩)) (vx (l1 underlying3 (z0 2 _ rfl)) (va (I S.2.2) (wln (W.ret (thr ?_))))))
  obtain rfl := si H
  have e0 := x.sD 1 []
  exact r1 ⟨_, j0, rfl, rfl, pt, e0, rfl⟩
 refine W.skip (nrm (sr (vx (l1 underlying21 ((mm R) 0 _ rfl)) (bn H fun T u0 H => cl (c_hangul_Class x i u0) ?_))))
 rintro u1 k0 s1 ⟨f0, rfl⟩
 refine va (I T) (wln (W.ret ?_))
 obtain rfl := si H
 have g0 := f0.sD 1 []
 exact r1 ⟨_, k0, rfl, rfl, pt, g0, rfl⟩
def f_pict_Is_1 (p0 : Int) (q0_0 : List (Int × Int)) (q1_0 : Int) : Option (Bool) :=
 (idx q0_0 p0).bind fun a =>
 some (decide (a.2 ≥ q1_0))
theorem c_pict_Is_1 {d : Nat} {e : Nat} (o : Own c0 G F) (b : Int) (q0_0 : List (Int × Int)) (q1_0 : Int) {r : Bool} (s : ∀ j u, ([v2] : List Value)[j]? = some u → Im c0 d (0 + j) u) (k : Sl RA2_i32 c0 v2 q0_0) (t : ∀ j u, ([J q1_0] : List Value)[j]? = some u → Im c0 e (0 + j) u) (H : f_pict_Is_1 b q0_0 q1_0 = some r) :
    Calls prog 257 #[I b, Q d, Q e] c0.w (Post c0 fun c v => Own c G (F) ∧ v = B r) := by
 unfold f_pict_Is_1 at H
 refine en func257 rfl rfl (sr (va (B false) (wln (W.seq (rD [] (Kp G0 []) o ?_)))))
 intro h q p
 have y : Kp G0 [] h := Kp.nil0
 refine tx 0 (fun g a => l1 underlying296 ((mm s) 0 _ rfl)) (ta 1 (I b) (bn H fun f l H => ?_))
 obtain ⟨x, i, n⟩ := Sl.at (k.mono q) (idx_get l)
 obtain rfl := i
 refine tx 2 (fun g a => ix underlying296 k.m l) (ta 3 (.pointer (some ⟨sb v2, so v2 + b.toNat * 2 + 1, none⟩)) (tx 4 (fun g a => l1 underlying21 ((mm n) 1 _ rfl)) (tx 5 (fun g a => l1 underlying21 ((mm t) 0 _ rfl)) (ta 6 (B (decide (f.2 ≥ q1_0))) (ta 7 (B (decide (f.2 ≥ q1_0))) (dn (nrm (W.ret ?_))))))))
 obtain rfl := si H
 exact r1 ⟨_, h, rfl, rfl, pt, p, rfl⟩
def f_sort_Search__pict_Is_1 (p0 : Int) (p1_0_0 : List (Int × Int)) (p1_1_0 : Int) : Option (Int) :=
 (iter (σ := Int × Int) (τ := Int) ((p0 - 0).toNat + 1) (fun a =>
 if (decide (a.1 < a.2)) = true then
 (f_pict_Is_1 (w64 ((IntKind.u64.wrap (w64 (a.1 + a.2))).fdiv (2 ^ 1))) p1_0_0 p1_1_0).bind fun b =>
 if (!b) = true then
 some (.inl ((w64 ((w64 ((IntKind.u64.wrap (w64 (a.1 + a.2))).fdiv (2 ^ 1))) + 1)), a.2))
 else
 some (.inl (a.1, (w64 ((IntKind.u64.wrap (w64 (a.1 + a.2))).fdiv (2 ^ 1)))))
 else
 some (.inr (a.1))) (0, p0)).bind fun c =>
 some c
theorem c_sort_Search__pict_Is_1 {b1_0 : Nat} {b1_1 : Nat} (A : Own c0 G F) (b : Int) (p1_0_0 : List (Int × Int)) (p1_1_0 : Int) {r : Int} (N : ∀ j u, ([v2] : List Value)[j]? = some u → Im c0 b1_0 (0 + j) u) (M : Sl RA2_i32 c0 v2 p1_0_0) (P : ∀ j u, ([J p1_1_0] : List Value)[j]? = some u → Im c0 b1_1 (0 + j) u) (H : f_sort_Search__pict_Is_1 b p1_0_0 p1_1_0 = some r) :
    Calls prog 253 #[I b, .func (.func 257) #[] #[Q b1_0, Q b1_1]] c0.w (Post c0 fun c v => Own c G (F) ∧ v = I r) := by
 unfold f_sort_Search__pict_Is_1 at H
 refine en func253 rfl rfl (sr (va (I 0) (wln (sr (va (I b) (va (I 0) (va (I b) (wln (W.seq (W.block (bn H fun g y k => lp y (fun a => Jn c0 fun c l => Own c G (F) ∧ l = [(1, .func (.func 257) #[] #[Q b1_0, Q b1_1]), (5, I a.1), (6, I a.2)]) (fun h ex e w => ex = .exit 0 ∧ (Jn c0 fun c l => Own c G (F) ∧ l = [(5, I h)]) e w) ?_ ?_ ?_)))))))))))
 ·clear k y
  intro a X q z H
  revert q z
  rintro E R ⟨D, Z, _, rfl, l7, rfl, o, rfl⟩
  refine W.seq (sr (va (I a.1) (va (I a.2) (va (B (decide (a.1 < a.2))) (wln (cn H (fun s H => ?_) (fun s H => ?_)))))))
  ·refine W.skip (nrm (W.block (sr (va (I a.1) (va (I a.2) (va (I (w64 (a.1 + a.2))) (va (.int .u64 (IntKind.u64.wrap (w64 (a.1 + a.2)))) (va (.int .u64 ((IntKind.u64.wrap (w64 (a.1 + a.2))).fdiv (2 ^ 1))) (va (I (w64 ((IntKind.u64.wrap (w64 (a.1 + a.2))).fdiv (2 ^ 1)))) (va (I (w64 ((IntKind.u64.wrap (w64 (a.1 + a.2))).fdiv (2 ^ 1)))) (wln (sr (va (.func (.func 257) #[] #[Q b1_0, Q b1_1]) (va (I (w64 ((IntKind.u64.wrap (w64 (a.1 + a.2))).fdiv (2 ^ 1)))) (bn H fun i t H => cl (c_pict_Is_1 o (w64 ((IntKind.u64.wrap (w64 (a.1 + a.2))).fdiv (2 ^ 1))) p1_0_0 p1_1_0 (mm N) M.m (mm P) t) ?_)))))))))))))))
   rintro v20 f T ⟨d, rfl⟩
   refine va (B (!i)) (wln (cn H (fun x H => ?_) (fun x H => ?_)))
   ·refine W.region (va (I (w64 ((IntKind.u64.wrap (w64 (a.1 + a.2))).fdiv (2 ^ 1)))) (va (I (w64 ((w64 ((IntKind.u64.wrap (w64 (a.1 + a.2))).fdiv (2 ^ 1))) + 1))) (va (I (w64 ((w64 ((IntKind.u64.wrap (w64 (a.1 + a.2))).fdiv (2 ^ 1))) + 1))) (WL.nil (bkn ?_)))))
    obtain rfl := si H
    exact ⟨_, rfl, ⟨f, _, _, rfl, pt, us, d, rfl⟩⟩
   refine W.region (va (I (w64 ((IntKind.u64.wrap (w64 (a.1 + a.2))).fdiv (2 ^ 1)))) (va (I (w64 ((IntKind.u64.wrap (w64 (a.1 + a.2))).fdiv (2 ^ 1)))) (WL.nil (bkn ?_))))
   obtain rfl := si H
   exact ⟨_, rfl, ⟨f, _, _, rfl, pt, us, d, rfl⟩⟩
  refine W.exit (thx ?_)
  obtain rfl := si H
  exact ⟨_, rfl, rfl, ⟨D, _, _, rfl, pt, us, o, rfl⟩⟩
 ·exact ⟨c0, _, _, rfl, pt, us, A, rfl⟩
 rintro _ E R ⟨rfl, p, S, _, rfl, U, rfl, n, rfl⟩
 refine bke (nrm (sr (va (I g) (va (I g) (wln (W.ret ?_))))))
 obtain rfl := si k
 exact r1 ⟨_, p, rfl, rfl, pt, n, rfl⟩
def t_pict_table_81 : List (Int × Int) := [(169, 169), (174, 174), (8252, 8252), (8265, 8265), (8482, 8482), (8505, 8505), (8596, 8601), (8617, 8618), (8986, 8987), (9000, 9000), (9096, 9096), (9167, 9167), (9193, 9203), (9208, 9210), (9410, 9410), (9642, 9643), (9654, 9654), (9664, 9664), (9723, 9726), (9728, 9733), (9735, 9746), (9748, 9861), (9872, 9989), (9992, 10002), (10004, 10004), (10006, 10006), (10013, 10013), (10017, 10017), (10024, 10024), (10035, 10036), (10052, 10052), (10055, 10055), (10060, 10060), (10062, 10062), (10067, 10069), (10071, 10071), (10083, 10087), (10133, 10135), (10145, 10145), (10160, 10160), (10175, 10175), (10548, 10549), (11013, 11015), (11035, 11036), (11088, 11088), (11093, 11093), (12336, 12336), (12349, 12349), (12951, 12951), (12953, 12953), (126976, 127231), (127245, 127247), (127279, 127279), (127340, 127345), (127358, 127359), (127374, 127374), (127377, 127386), (127405, 127461), (127489, 127503), (127514, 127514), (127535, 127535), (127538, 127546), (127548, 127551), (127561, 127994), (128000, 128317), (128326, 128591), (128640, 128767), (128884, 128895), (128981, 129023), (129036, 129039), (129096, 129103), (129114, 129119), (129160, 129167), (129198, 129279), (129292, 129338), (129340, 129349), (129351, 129791), (130048, 131069)]
def f_pict_table  : Option (List (Int × Int)) :=
 some t_pict_table_81
theorem c_pict_table (d : Own c0 G F) {r : List (Int × Int)} (H : f_pict_table  = some r) :
    Calls prog 256 #[] c0.w (Post c0 fun c v => ∃ a b, Own c G (es true RA2_i32 a 298 b r :: F) ∧ v = a ∧ OA RA2_i32 c a b r) := by
 unfold f_pict_table at H
 refine en func256 rfl rfl (sr (va (Y) (wln (sr (va (.agg #[J 169, J 169]) (va (.agg #[J 174, J 174]) (va (.agg #[J 8252, J 8252]) (va (.agg #[J 8265, J 8265]) (va (.agg #[J 8482, J 8482]) (va (.agg #[J 8505, J 8505]) (va (.agg #[J 8596, J 8601]) (va (.agg #[J 8617, J 8618]) (va (.agg #[J 8986, J 8987]) (va (.agg #[J 9000, J 9000]) (va (.agg #[J 9096, J 9096]) (va (.agg #[J 9167, J 9167]) (va (.agg #[J 9193, J 9203]) (va (.agg #[J 9208, J 9210]) (va (.agg #[J 9410, J 9410]) (va (.agg #[J 9642, J 9643]) (va (.agg #[J 9654, J 9654]) (va (.agg #[J 9664, J 9664]) (va (.agg #[J 9723, J 9726]) (va (.agg #[J 9728, J 9733]) (va (.agg #[J 9735, J 9746]) (va (.agg #[J 9748, J 9861]) (va (.agg #[J 9872, J 9989]) (va (.agg #[J 9992, J 10002]) (va (.agg #[J 10004, J 10004]) (va (.agg #[J 10006, J 10006]) (va (.agg #[J 10013, J 10013]) (va (.agg #[J 10017, J 10017]) (va (.agg #[J 10024, J 10024]) (va (.agg #[J 10035, J 10036]) (va (.agg #[J 10052, J 10052]) (va (.agg #[J 10055, J 10055]) (va (.agg #[J 10060, J 10060]) (va (.agg #[J 10062, J 10062]) (va (.agg #[J 10067, J 10069]) (va (.agg #[J 10071, J 10071]) (va (.agg #[J 10083, J 10087]) (va (.agg #[J 10133, J 10135]) (va (.agg #[J 10145, J 10145]) (va (.agg #[J 10160, J 10160]) (va (.agg #[J 10175, J 10175]) (va (.agg #[J 10548, J 10549]) (va (.agg #[J 11013, J 11015]) (va (.agg #[J 11035, J 11036]) (va (.agg #[J 11088, J 11088]) (va (.agg #[J 11093, J 11093]) (va (.agg #[J 12336, J 12336]) (va (.agg #[J 12349, J 12349]) (va (.agg #[J 12951, J 12951]) (va (.agg #[J 12953, J 12953]) (va (.agg #[J 126976, J 127231]) (va (.agg #[J 127245, J 127247]) (va (.agg #[J 127279, J 127279]) (va (.agg #[J 127340, J 127345]) (va (.agg #[J 127358, J 127359]) (va (.agg #[J 127374, J 127374]) (va (.agg #[J 127377, J 127386]) (va (.agg #[J 127405, J 127461]) (va (.agg #[J 127489, J 127503]) (va (.agg #[J 127514, J 127514]) (va (.agg #[J 127535, J 127535]) (va (.agg #[J 127538, J 127546]) (va (.agg #[J 127548, J 127551]) (va (.agg #[J 127561, J 127994]) (va (.agg #[J 128000, J 128317]) (va (.agg #[J 128326, J 128591]) (va (.agg #[J 128640, J 128767]) (va (.agg #[J 128884, J 128895]) (va (.agg #[J 128981, J 129023]) (va (.agg #[J 129036, J 129039]) (va (.agg #[J 129096, J 129103]) (va (.agg #[J 129114, J 129119]) (va (.agg #[J 129160, J 129167]) (va (.agg #[J 129198, J 129279]) (va (.agg #[J 129292, J 129338]) (va (.agg #[J 129340, J 129349]) (va (.agg #[J 129351, J 129791]) (va (.agg #[J 130048, J 131069]) (me (Own.sl (R := RA2_i32) (E := 298) (ls := t_pict_table_81.map (fun x => [J x.1, J x.2])) (vs := (t_pict_table_81.map (fun x => [J x.1, J x.2])).flatten) (xs := t_pict_table_81) true d (Nat.succ_pos _) rfl (AllR.map _ (fun _ => rfl) _) (by kernel_rfl) (by kernel_rfl)) ?_)))))))))))))))))))))))))))))))))))))))))))))))))))))))))))))))))))))))))))))))))))
 rintro v5 f i ⟨h, e, g⟩
 refine va (v5) (wln (W.ret ?_))
 obtain rfl := si H
 exact r1 ⟨_, f, rfl, rfl, pt, v5, h, e, rfl, g⟩
def f_pict_Is (p0 : Int) : Option (Bool) :=
 (f_pict_table).bind fun a =>
 (f_sort_Search__pict_Is_1 (a.length : Int) a p0).bind fun b =>
 (andE (decide (b < (a.length : Int))) ((idx a b).bind fun d =>
 some (decide (d.1 ≤ p0)))).bind fun c =>
 some c
theorem c_pict_Is (O0 : Own c0 G F) (j : Int) {r : Bool} (H : f_pict_Is j = some r) :
    Calls prog 228 #[J j] c0.w (Post c0 fun c v => Own c G (F) ∧ v = B r) := by
 unfold f_pict_Is at H
 refine en func228 rfl rfl (sr (me (bx 21 [J j] O0) ?_))
 rintro v5 c4 l4 ⟨b1, rfl, O2, m3⟩
 refine va (B false) (wln (sr (bn H fun h h6 H => cl (c_pict_table O2 h6) ?_)))
 rintro v7 u0 a1 ⟨_, u8, D, rfl, s⟩
 refine me (al 296 [Y] D) ?_
 rintro v19 v0 z ⟨U, rfl, E⟩
 obtain ⟨d, e, f, rfl⟩ := ((s.mono z)).form
 refine md (sC 296 0 (.slice d e f) [.slice d e f] 0 E ⟨s.m.one, trivial⟩) ?_
 rintro w0 f0 t
 refine wln (sr (vx (le1 0 underlying296 (t.on 0 rfl)) (vx (lnO 3 underlying296 s.m) ?_)))
 obtain ⟨x0, a0, c1, M, n⟩ := t.frz 1 rfl (s.mono (z.trans f0))
 refine WL.gh a0 ?_
 obtain ⟨y0, b0, g0, N, q⟩ := Own.frzB 0 M rfl
 refine WL.gh b0 ?_
 have P := N.sD 2 [1]
 refine va (.func (.func 257) #[] #[Q U, Q b1]) (bn H fun a d0 H => cl (c_sort_Search__pict_Is_1 P (h.length : Int) h j q n.m (mm m3) d0) ?_)
 rintro v40 X h0 ⟨R, rfl⟩
 refine va (I a) (wln (W.seq (bn H fun A x H => W.join (Jn X fun c l => Own c G (es false RA2_i32 (.slice d e f) 298 u8 h :: F) ∧ l = [(2, B A)]) ?_ ?_)))
 ·clear H
  refine rD [] (Kp G0 []) R ?_
  intro p i0 u
  have e1 : Kp G0 [] p := Kp.nil0
  refine ta 0 (I a) (tx 1 (fun i b => l1 underlying296 ((mm q) 0 _ rfl)) (tx 2 (fun i b => ln 3 underlying296 n.m) (ta 3 (B (decide (a < (h.length : Int)))) ?_)))
  rcases bo (decide (a < (h.length : Int))) with g | g
  ·have o := anT g x
   refine bn o fun k y o => AC.takeb 4 g rfl (by kernel_rfl) (by kernel_rfl) (fun i b => (by kernel_rfl)) (tx 5 (fun i b => l1 underlying296 ((mm q) 0 _ rfl)) (ta 6 (I a) ?_))
   obtain ⟨s0, e0, k0⟩ := Sl.at (n.mono (g0.trans (h0.trans i0))) (idx_get y)
   obtain rfl := e0
   refine tx 7 (fun i b => ix underlying296 n.m y) (ta 8 (.pointer (some ⟨sb (.slice d e f), so (.slice d e f) + a.toNat * 2, none⟩)) (tx 9 (fun i b => l1 underlying21 ((mm k0) 0 _ rfl)) (tx 10 (fun i b => l1 underlying21 ((mm m3) 0 _ rfl)) (ta 11 (B (decide (k.1 ≤ j))) ?_))))
   obtain rfl := si o
   exact ta 12 (B (decide (k.1 ≤ j))) (ta 13 (B (decide (k.1 ≤ j))) (dn (nrm ⟨p, _, _, rfl, pt, us, u, rfl⟩)))
  obtain rfl := anF g x
  exact AC.takeb 4 g rfl (by kernel_rfl) (by kernel_rfl) (fun i b => (by kernel_rfl)) (tp 5 (tp 6 (tp 7 (tp 8 (tp 9 (tp 10 (tp 11 (ta 12 (B false) (ta 13 (B false) (dn (nrm ⟨p, _, _, rfl, pt, us, u, rfl⟩)))))))))))
 rintro e_ w_ ⟨Z, z0, _, rfl, d1, rfl, S, rfl⟩
 refine nrm (W.ret ?_)
 obtain rfl := si H
 have T := S.sD 1 []
 exact r1 ⟨_, Z, rfl, rfl, pt, T, rfl⟩
def f_conj_Of_1 (p0 : Int) (q0_0 : List (Int × Int × Int)) (q1_0 : Int) : Option (Bool) :=
 (idx q0_0 p0).bind fun a =>
 some (decide (a.2.1 ≥ (w64 q1_0)))
theorem c_conj_Of_1 {d : Nat} {e : Nat} (o : Own c0 G F) (b : Int) (q0_0 : List (Int × Int × Int)) (q1_0 : Int) {r : Bool} (s : ∀ j u, ([v2] : List Value)[j]? = some u → Im c0 d (0 + j) u) (k : Sl RA3_i64 c0 v2 q0_0) (t : ∀ j u, ([J q1_0] : List Value)[j]? = some u → Im c0 e (0 + j) u) (H : f_conj_Of_1 b q0_0 q1_0 = some r) :
    Calls prog 259 #[I b, Q d, Q e] c0.w (Post c0 fun c v => Own c G (F) ∧ v = B r) := by
 unfold f_conj_Of_1 at H
 refine en func259 rfl rfl (sr (va (B false) (wln (W.seq (rD [] (Kp G0 []) o ?_)))))
 intro h q p
 have y : Kp G0 [] h := Kp.nil0
 refine tx 0 (fun g a => l1 underlying292 ((mm s) 0 _ rfl)) (ta 1 (I b) (bn H fun f l H => ?_))
 obtain ⟨x, i, n⟩ := Sl.at (k.mono q) (idx_get l)
 obtain rfl := i
 refine tx 2 (fun g a => ix underlying292 k.m l) (ta 3 (.pointer (some ⟨sb v2, so v2 + b.toNat * 3 + 1, none⟩)) (tx 4 (fun g a => l1 underlying3 ((mm n) 1 _ rfl)) (tx 5 (fun g a => l1 underlying21 ((mm t) 0 _ rfl)) (ta 6 (I (w64 q1_0)) (ta 7 (B (decide (f.2.1 ≥ (w64 q1_0)))) (ta 8 (B (decide (f.2.1 ≥ (w64 q1_0)))) (dn (nrm (W.ret ?_)))))))))
 obtain rfl := si H
 exact r1 ⟨_, h, rfl, rfl, pt, p, rfl⟩
def f_sort_Search__conj_Of_1 (p0 : Int) (p1_0_0 : List (Int × Int × Int)) (p1_1_0 : Int) : Option (Int) :=
 (iter (σ := Int × Int) (τ := Int) ((p0 - 0).toNat + 1) (fun a =>
 if (decide (a.1 < a.2)) = true then
 (f_conj_Of_1 (w64 ((IntKind.u64.wrap (w64 (a.1 + a.2))).fdiv (2 ^ 1))) p1_0_0 p1_1_0).bind fun b =>
 if (!b) = true then
 some (.inl ((w64 ((w64 ((IntKind.u64.wrap (w64 (a.1 + a.2))).fdiv (2 ^ 1))) + 1)), a.2))
 else
 some (.inl (a.1, (w64 ((IntKind.u64.wrap (w64 (a.1 + a.2))).fdiv (2 ^ 1)))))
 else
 some (.inr (a.1))) (0, p0)).bind fun c =>
 some c
theorem c_sort_Search__conj_Of_1 {b1_0 : Nat} {b1_1 : Nat} (A : Own c0 G F) (b : Int) (p1_0_0 : List (Int × Int × Int)) (p1_1_0 : Int) {r : Int} (N : ∀ j u, ([v2] : List Value)[j]? = some u → Im c0 b1_0 (0 + j) u) (M : Sl RA3_i64 c0 v2 p1_0_0) (P : ∀ j u, ([J p1_1_0] : List Value)[j]? = some u → Im c0 b1_1 (0 + j) u) (H : f_sort_Search__conj_Of_1 b p1_0_0 p1_1_0 = some r) :
    Calls prog 253 #[I b, .func (.func 259) #[] #[Q b1_0, Q b1_1]] c0.w (Post c0 fun c v => Own c G (F) ∧ v = I r) := by
 unfold f_sort_Search__conj_Of_1 at H
 refine en func253 rfl rfl (sr (va (I 0) (wln (sr (va (I b) (va (I 0) (va (I b) (wln (W.seq (W.block (bn H fun g y k => lp y (fun a => Jn c0 fun c l => Own c G (F) ∧ l = [(1, .func (.func 259) #[] #[Q b1_0, Q b1_1]), (5, I a.1), (6, I a.2)]) (fun h ex e w => ex = .exit 0 ∧ (Jn c0 fun c l => Own c G (F) ∧ l = [(5, I h)]) e w) ?_ ?_ ?_)))))))))))
 ·clear k y
  intro a X q z H
  revert q z
  rintro E R ⟨D, Z, _, rfl, l7, rfl, o, rfl⟩
  refine W.seq (sr (va (I a.1) (va (I a.2) (va (B (decide (a.1 < a.2))) (wln (cn H (fun s H => ?_) (fun s H => ?_)))))))
  ·refine W.skip (nrm (W.block (sr (va (I a.1) (va (I a.2) (va (I (w64 (a.1 + a.2))) (va (.int .u64 (IntKind.u64.wrap (w64 (a.1 + a.2)))) (va (.int .u64 ((IntKind.u64.wrap (w64 (a.1 + a.2))).fdiv (2 ^ 1))) (va (I (w64 ((IntKind.u64.wrap (w64 (a.1 + a.2))).fdiv (2 ^ 1)))) (va (I (w64 ((IntKind.u64.wrap (w64 (a.1 + a.2))).fdiv (2 ^ 1)))) (wln (sr (va (.func (.func 259) #[] #[Q b1_0, Q b1_1]) (va (I (w64 ((IntKind.u64.wrap (w64 (a.1 + a.2))).fdiv (2 ^ 1)))) (bn H fun i t H => cl (c_conj_Of_1 o (w64 ((IntKind.u64.wrap (w64 (a.1 + a.2))).fdiv (2 ^ 1))) p1_0_0 p1_1_0 (mm N) M.m (mm P) t) ?_)))))))))))))))
   rintro v20 f T ⟨d, rfl⟩
   refine va (B (!i)) (wln (cn H (fun x H => ?_) (fun x H => ?_)))
   ·refine W.region (va (I (w64 ((IntKind.u64.wrap (w64 (a.1 + a.2))).fdiv (2 ^ 1)))) (va (I (w64 ((w64 ((IntKind.u64.wrap (w64 (a.1 + a.2))).fdiv (2 ^ 1))) + 1))) (va (I (w64 ((w64 ((IntKind.u64.wrap (w64 (a.1 + a.2))).fdiv (2 ^ 1))) + 1))) (WL.nil (bkn ?_)))))
    obtain rfl := si H
    exact ⟨_, rfl, ⟨f, _, _, rfl, pt, us, d, rfl⟩⟩
   refine W.region (va (I (w64 ((IntKind.u64.wrap (w64 (a.1 + a.2))).fdiv (2 ^ 1)))) (va (I (w64 ((IntKind.u64.wrap (w64 (a.1 + a.2))).fdiv (2 ^ 1)))) (WL.nil (bkn ?_))))
   obtain rfl := si H
   exact ⟨_, rfl, ⟨f, _, _, rfl, pt, us, d, rfl⟩⟩
  refine W.exit (thx ?_)
  obtain rfl := si H
  exact ⟨_, rfl, rfl, ⟨D, _, _, rfl, pt, us, o, rfl⟩⟩
 ·exact ⟨c0, _, _, rfl, pt, us, A, rfl⟩
 rintro _ E R ⟨rfl, p, S, _, rfl, U, rfl, n, rfl⟩
 refine bke (nrm (sr (va (I g) (va (I g) (wln (W.ret ?_))))))
 obtain rfl := si k
 exact r1 ⟨_, p, rfl, rfl, pt, n, rfl⟩
def t_conj_table_53 : List (Int × Int × Int) := [(768, 879, 3), (1155, 1159, 3), (1425, 1469, 3), (1552, 1562, 3), (1611, 1631, 3), (2325, 2361, 1), (2364, 2364, 3), (2381, 2381, 2), (2385, 2388, 3), (2392, 2399, 1), (2424, 2431, 1), (2453, 2472, 1), (2474, 2480, 1), (2482, 2482, 1), (2486, 2489, 1), (2492, 2492, 3), (2509, 2509, 2), (2524, 2525, 1), (2527, 2527, 1), (2544, 2545, 1), (2709, 2728, 1), (2730, 2736, 1), (2738, 2739, 1), (2741, 2745, 1), (2748, 2748, 3), (2765, 2765, 2), (2809, 2809, 1), (2837, 2856, 1), (2858, 2864, 1), (2866, 2867, 1), (2869, 2873, 1), (2876, 2876, 3), (2893, 2893, 2), (2908, 2909, 1), (2911, 2911, 1), (2929, 2929, 1), (3093, 3112, 1), (3114, 3129, 1), (3132, 3132, 3), (3149, 3149, 2), (3160, 3162, 1), (3349, 3386, 1), (3405, 3405, 2), (6832, 6845, 3), (7616, 7679, 3), (8205, 8205, 3), (8400, 8412, 3), (12330, 12335, 3), (12441, 12442, 3), (65056, 65071, 3)]
def f_conj_table  : Option (List (Int × Int × Int)) :=
 some t_conj_table_53
theorem c_conj_table (d : Own c0 G F) {r : List (Int × Int × Int)} (H : f_conj_table  = some r) :
    Calls prog 258 #[] c0.w (Post c0 fun c v => ∃ a b, Own c G (es true RA3_i64 a 295 b r :: F) ∧ v = a ∧ OA RA3_i64 c a b r) := by
 unfold f_conj_table at H
 refine en func258 rfl rfl (sr (va (Y) (wln (sr (va (.agg #[I 768, I 879, I 3]) (va (.agg #[I 1155, I 1159, I 3]) (va (.agg #[I 1425, I 1469, I 3]) (va (.agg #[I 1552, I 1562, I 3]) (va (.agg #[I 1611, I 1631, I 3]) (va (.agg #[I 2325, I 2361, I 1]) (va (.agg #[I 2364, I 2364, I 3]) (va (.agg #[I 2381, I 2381, I 2]) (va (.agg #[I 2385, I 2388, I 3]) (va (.agg #[I 2392, I 2399, I 1]) (va (.agg #[I 2424, I 2431, I 1]) (va (.agg #[I 2453, I 2472, I 1]) (va (.agg #[I 2474, I 2480, I 1]) (va (.agg #[I 2482, I 2482, I 1]) (va (.agg #[I 2486, I 2489, I 1]) (va (.agg #[I 2492, I 2492, I 3]) (va (.agg #[I 2509, I 2509, I 2]) (va (.agg #[I 2524, I 2525, I 1]) (va (.agg #[I 2527, I 2527, I 1]) (va (.agg #[I 2544, I 2545, I 1]) (va (.agg #[I 2709, I 2728, I 1]) (va (.agg #[I 2730, I 2736, I 1]) (va (.agg #[I 2738, I 2739, I 1]) (va (.agg #[I 2741, I 2745, I 1]) (va (.agg #[I 2748, I 2748, I 3]) (va (.agg #[I 2765, I 2765, I 2]) (va (.agg #[I 2809, I 2809, I 1]) (va (.agg #[I 2837, I 2856, I 1]) (va (.agg #[I 2858, I 2864, I 1]) (va (.agg #[I 2866, I 2867, I 1]) (va (.agg #[I 2869, I 2873, I 1]) (va (.agg #[I 2876, I 2876, I 3]) (va (.agg #[I 2893, I 2893, I 2]) (va (.agg #[I 2908, I 2909, I 1]) (va (.agg #[I 2911, I 2911, I 1]) (va (.agg #[I 2929, I 2929, I 1]) (va (.agg #[I 3093, I 3112, I 1]) (va (.agg #[I 3114, I 3129, I 1]) (va (.agg #[I 3132, I 3132, I 3]) (va (.agg #[I 3149, I 3149, I 2]) (va (.agg #[I 3160, I 3162, I 1]) (va (.agg #[I 3349, I 3386, I 1]) (va (.agg #[I 3405, I 3405, I 2]) (va (.agg #[I 6832, I 6845, I 3]) (va (.agg #[I 7616, I 7679, I 3]) (va (.agg #[I 8205, I 8205, I 3]) (va (.agg #[I 8400, I 8412, I 3]) (va (.agg #[I 12330, I 12335, I 3]) (va (.agg #[I 12441, I 12442, I 3]) (va (.agg #[I 65056, I 65071, I 3]) (me (Own.sl (R := RA3_i64) (E := 295) (ls := t_conj_table_53.map (fun x => [I x.1, I x.2.1, I x.2.2])) (vs := (t_conj_table_53.map (fun x => [I x.1, I x.2.1, I x.2.2])).flatten) (xs := t_conj_table_53) true d (Nat.succ_pos _) rfl (AllR.map _ (fun _ => rfl) _) (by kernel_rfl) (by kernel_rfl)) ?_)))))))))))))))))))))))))))))))))))))))))))))))))))))))
 rintro v5 f i ⟨h, e, g⟩
 refine va (v5) (wln (W.ret ?_))
 obtain rfl := si H
 exact r1 ⟨_, f, rfl, rfl, pt, v5, h, e, rfl, g⟩
def f_conj_Of (p0 : Int) : Option (Int) :=
 (f_conj_table).bind fun a =>
 (f_sort_Search__conj_Of_1 (a.length : Int) a p0).bind fun b =>
 (orE (b == (a.length : Int)) ((idx a b).bind fun d =>
 some (decide (d.1 > (w64 p0))))).bind fun c =>
 if c = true then
 some 0
 else
 (idx a b).bind fun e =>
 some e.2.2
theorem c_conj_Of (O0 : Own c0 G F) (k : Int) {r : Int} (H : f_conj_Of k = some r) :
    Calls prog 229 #[J k] c0.w (Post c0 fun c v => Own c G (F) ∧ v = I r) := by
 unfold f_conj_Of at H
 refine en func229 rfl rfl (sr (me (bx 21 [J k] O0) ?_))
 rintro v5 c4 l4 ⟨b1, rfl, O2, m3⟩
 refine va (I 0) (wln (sr (bn H fun i h6 H => cl (c_conj_table O2 h6) ?_)))
 rintro v7 d1 j1 ⟨_, u8, T, rfl, s⟩
 refine me (al 292 [Y] T) ?_
 rintro v19 e1 M ⟨y, rfl, U⟩
 obtain ⟨b, d, e, rfl⟩ := ((s.mono M)).form
 refine md (sC 292 0 (.slice b d e) [.slice b d e] 0 U ⟨s.m.one, trivial⟩) ?_
 rintro f1 m0 t
 refine wln (sr (vx (le1 0 underlying292 (t.on 0 rfl)) (vx (lnO 3 underlying292 s.m) ?_)))
 obtain ⟨g1, g0, k1, X, g⟩ := t.frz 1 rfl (s.mono (M.trans m0))
 refine WL.gh g0 ?_
 obtain ⟨h1, h0, N, Z, n⟩ := Own.frzB 0 X rfl
 refine WL.gh h0 ?_
 have a0 := Z.sD 2 [1]
 refine va (.func (.func 259) #[] #[Q y, Q b1]) (bn H fun a i0 H => cl (c_sort_Search__conj_Of_1 a0 (i.length : Int) i k n g.m (mm m3) i0) ?_)
 rintro v40 f0 P ⟨b0, rfl⟩
 refine va (I a) (wln (W.seq (W.seq (bn H fun R A H => W.join (Jn f0 fun c l => Own c G (es false RA3_i64 (.slice b d e) 295 u8 i :: F) ∧ l = [(3, Q y), (4, I a), (23, B R)]) ?_ ?_))))
 ·clear H
  refine rD [] (Kp G0 []) b0 ?_
  intro p o0 u
  have m1 : Kp G0 [] p := Kp.nil0
  refine ta 0 (I a) (tx 1 (fun j f => l1 underlying292 ((mm n) 0 _ rfl)) (tx 2 (fun j f => ln 3 underlying292 g.m) (ta 3 (B (a == (i.length : Int))) ?_)))
  rcases bo (a == (i.length : Int)) with h | h
  ·obtain rfl := orT h A
   exact AC.takeb 4 h rfl (by kernel_rfl) (by kernel_rfl) (fun j f => (by kernel_rfl)) (tp 5 (tp 6 (tp 7 (tp 8 (tp 9 (tp 10 (tp 11 (tp 12 (ta 13 (B true) (dn (nrm ⟨p, _, _, rfl, pt, us, u, rfl⟩)))))))))))
  have o := orF h A
  refine bn o fun q D o => AC.takeb 4 h rfl (by kernel_rfl) (by kernel_rfl) (fun j f => (by kernel_rfl)) (tx 5 (fun j f => l1 underlying292 ((mm n) 0 _ rfl)) (ta 6 (I a) ?_))
  obtain ⟨z0, j0, t0⟩ := Sl.at (g.mono (N.trans (P.trans o0))) (idx_get D)
  obtain rfl := j0
  refine tx 7 (fun j f => ix underlying292 g.m D) (ta 8 (.pointer (some ⟨sb (.slice b d e), so (.slice b d e) + a.toNat * 3, none⟩)) (tx 9 (fun j f => l1 underlying3 ((mm t0) 0 _ rfl)) (tx 10 (fun j f => l1 underlying21 ((mm m3) 0 _ rfl)) (ta 11 (I (w64 k)) (ta 12 (B (decide (q.1 > (w64 k)))) ?_)))))
  obtain rfl := si o
  exact ta 13 (B (decide (q.1 > (w64 k)))) (dn (nrm ⟨p, _, _, rfl, pt, us, u, rfl⟩))
 rintro e_ w_ ⟨z, i1, _, rfl, q0, rfl, x, rfl⟩
 refine nrm (cn H (fun k0 H => ?_) (fun k0 H => ?_))
 ·refine sr (va (I 0) (wln (W.ret (thr ?_))))
  obtain rfl := si H
  have d0 := x.sD 1 []
  exact r1 ⟨_, z, rfl, rfl, pt, d0, rfl⟩
 refine W.skip (nrm (sr (vx (l1 underlying292 ((mm n) 0 _ rfl)) (va (I a) (bn H fun S E H => ?_)))))
 obtain ⟨a1, l0, u0⟩ := Sl.at (g.mono (N.trans (P.trans q0))) (idx_get E)
 obtain rfl := l0
 refine vx (ix underlying292 g.m E) (va (.pointer (some ⟨sb (.slice b d e), so (.slice b d e) + a.toNat * 3 + 2, none⟩)) (vx (l1 underlying3 (u0 2 _ rfl)) (va (I S.2.2) (wln (W.ret ?_)))))
 obtain rfl := si H
 have e0 := x.sD 1 []
 exact r1 ⟨_, z, rfl, rfl, pt, e0, rfl⟩
def f_east_Of_1 (p0 : Int) (q0_0 : List (Int × Int × Int)) (q1_0 : Int) : Option (Bool) :=
 (idx q0_0 p0).bind fun a =>
 some (decide (a.2.1 ≥ (w64 q1_0)))
theorem c_east_Of_1 {d : Nat} {e : Nat} (o : Own c0 G F) (b : Int) (q0_0 : List (Int × Int × Int)) (q1_0 : Int) {r : Bool} (s : ∀ j u, ([v2] : List Value)[j]? = some u → Im c0 d (0 + j) u) (k : Sl RA3_i64 c0 v2 q0_0) (t : ∀ j u, ([J q1_0] : List Value)[j]? = some u → Im c0 e (0 + j) u) (H : f_east_Of_1 b q0_0 q1_0 = some r) :
    Calls prog 261 #[I b, Q d, Q e] c0.w (Post c0 fun c v => Own c G (F) ∧ v = B r) := by
 unfold f_east_Of_1 at H
 refine en func261 rfl rfl (sr (va (B false) (wln (W.seq (rD [] (Kp G0 []) o ?_)))))
 intro h q p
 have y : Kp G0 [] h := Kp.nil0
 refine tx 0 (fun g a => l1 underlying292 ((mm s) 0 _ rfl)) (ta 1 (I b) (bn H fun f l H => ?_))
 obtain ⟨x, i, n⟩ := Sl.at (k.mono q) (idx_get l)
 obtain rfl := i
 refine tx 2 (fun g a => ix underlying292 k.m l) (ta 3 (.pointer (some ⟨sb v2, so v2 + b.toNat * 3 + 1, none⟩)) (tx 4 (fun g a => l1 underlying3 ((mm n) 1 _ rfl)) (tx 5 (fun g a => l1 underlying21 ((mm t) 0 _ rfl)) (ta 6 (I (w64 q1_0)) (ta 7 (B (decide (f.2.1 ≥ (w64 q1_0)))) (ta 8 (B (decide (f.2.1 ≥ (w64 q1_0)))) (dn (nrm (W.ret ?_)))))))))
 obtain rfl := si H
 exact r1 ⟨_, h, rfl, rfl, pt, p, rfl⟩
def f_sort_Search__east_Of_1 (p0 : Int) (p1_0_0 : List (Int × Int × Int)) (p1_1_0 : Int) : Option (Int) :=
 (iter (σ := Int × Int) (τ := Int) ((p0 - 0).toNat + 1) (fun a =>
 if (decide (a.1 < a.2)) = true then
 (f_east_Of_1 (w64 ((IntKind.u64.wrap (w64 (a.1 + a.2))).fdiv (2 ^ 1))) p1_0_0 p1_1_0).bind fun b =>
 if (!b) = true then
 some (.inl ((w64 ((w64 ((IntKind.u64.wrap (w64 (a.1 + a.2))).fdiv (2 ^ 1))) + 1)), a.2))
 else
 some (.inl (a.1, (w64 ((IntKind.u64.wrap (w64 (a.1 + a.2))).fdiv (2 ^ 1)))))
 else
 some (.inr (a.1))) (0, p0)).bind fun c =>
 some c
theorem c_sort_Search__east_Of_1 {b1_0 : Nat} {b1_1 : Nat} (A : Own c0 G F) (b : Int) (p1_0_0 : List (Int × Int × Int)) (p1_1_0 : Int) {r : Int} (N : ∀ j u, ([v2] : List Value)[j]? = some u → Im c0 b1_0 (0 + j) u) (M : Sl RA3_i64 c0 v2 p1_0_0) (P : ∀ j u, ([J p1_1_0] : List Value)[j]? = some u → Im c0 b1_1 (0 + j) u) (H : f_sort_Search__east_Of_1 b p1_0_0 p1_1_0 = some r) :
    Calls prog 253 #[I b, .func (.func 261) #[] #[Q b1_0, Q b1_1]] c0.w (Post c0 fun c v => Own c G (F) ∧ v = I r) := by
 unfold f_sort_Search__east_Of_1 at H
 refine en func253 rfl rfl (sr (va (I 0) (wln (sr (va (I b) (va (I 0) (va (I b) (wln (W.seq (W.block (bn H fun g y k => lp y (fun a => Jn c0 fun c l => Own c G (F) ∧ l = [(1, .func (.func 261) #[] #[Q b1_0, Q b1_1]), (5, I a.1), (6, I a.2)]) (fun h ex e w => ex = .exit 0 ∧ (Jn c0 fun c l => Own c G (F) ∧ l = [(5, I h)]) e w) ?_ ?_ ?_)))))))))))
 ·clear k y
  intro a X q z H
  revert q z
  rintro E R ⟨D, Z, _, rfl, l7, rfl, o, rfl⟩
  refine W.seq (sr (va (I a.1) (va (I a.2) (va (B (decide (a.1 < a.2))) (wln (cn H (fun s H => ?_) (fun s H => ?_)))))))
  ·refine W.skip (nrm (W.block (sr (va (I a.1) (va (I a.2) (va (I (w64 (a.1 + a.2))) (va (.int .u64 (IntKind.u64.wrap (w64 (a.1 + a.2)))) (va (.int .u64 ((IntKind.u64.wrap (w64 (a.1 + a.2))).fdiv (2 ^ 1))) (va (I (w64 ((IntKind.u64.wrap (w64 (a.1 + a.2))).fdiv (2 ^ 1)))) (va (I (w64 ((IntKind.u64.wrap (w64 (a.1 + a.2))).fdiv (2 ^ 1)))) (wln (sr (va (.func (.func 261) #[] #[Q b1_0, Q b1_1]) (va (I (w64 ((IntKind.u64.wrap (w64 (a.1 + a.2))).fdiv (2 ^ 1)))) (bn H fun i t H => cl (c_east_Of_1 o (w64 ((IntKind.u64.wrap (w64 (a.1 + a.2))).fdiv (2 ^ 1))) p1_0_0 p1_1_0 (mm N) M.m (mm P) t) ?_)))))))))))))))
   rintro v20 f T ⟨d, rfl⟩
   refine va (B (!i)) (wln (cn H (fun x H => ?_) (fun x H => ?_)))
   ·refine W.region (va (I (w64 ((IntKind.u64.wrap (w64 (a.1 + a.2))).fdiv (2 ^ 1)))) (va (I (w64 ((w64 ((IntKind.u64.wrap (w64 (a.1 + a.2))).fdiv (2 ^ 1))) + 1))) (va (I (w64 ((w64 ((IntKind.u64.wrap (w64 (a.1 + a.2))).fdiv (2 ^ 1))) + 1))) (WL.nil (bkn ?_)))))
    obtain rfl := si H
    exact ⟨_, rfl, ⟨f, _, _, rfl, pt, us, d, rfl⟩⟩
   refine W.region (va (I (w64 ((IntKind.u64.wrap (w64 (a.1 + a.2))).fdiv (2 ^ 1)))) (va (I (w64 ((IntKind.u64.wrap (w64 (a.1 + a.2))).fdiv (2 ^ 1)))) (WL.nil (bkn ?_))))
   obtain rfl := si H
   exact ⟨_, rfl, ⟨f, _, _, rfl, pt, us, d, rfl⟩⟩
  refine W.exit (thx ?_)
  obtain rfl := si H
  exact ⟨_, rfl, rfl, ⟨D, _, _, rfl, pt, us, o, rfl⟩⟩
 ·exact ⟨c0, _, _, rfl, pt, us, A, rfl⟩
 rintro _ E R ⟨rfl, p, S, _, rfl, U, rfl, n, rfl⟩
 refine bke (nrm (sr (va (I g) (va (I g) (wln (W.ret ?_))))))
 obtain rfl := si k
 exact r1 ⟨_, p, rfl, rfl, pt, n, rfl⟩
def t_east_table_122 : List (Int × Int × Int) := [(4352, 4447, 1), (8361, 8361, 3), (8986, 8987, 1), (9001, 9002, 1), (9193, 9196, 1), (9200, 9200, 1), (9203, 9203, 1), (9725, 9726, 1), (9748, 9749, 1), (9800, 9811, 1), (9855, 9855, 1), (9875, 9875, 1), (9889, 9889, 1), (9898, 9899, 1), (9917, 9918, 1), (9924, 9925, 1), (9934, 9934, 1), (9940, 9940, 1), (9962, 9962, 1), (9970, 9971, 1), (9973, 9973, 1), (9978, 9978, 1), (9981, 9981, 1), (9989, 9989, 1), (9994, 9995, 1), (10024, 10024, 1), (10060, 10060, 1), (10062, 10062, 1), (10067, 10069, 1), (10071, 10071, 1), (10133, 10135, 1), (10160, 10160, 1), (10175, 10175, 1), (11035, 11036, 1), (11088, 11088, 1), (11093, 11093, 1), (11904, 11929, 1), (11931, 12019, 1), (12032, 12245, 1), (12272, 12287, 1), (12288, 12288, 2), (12289, 12350, 1), (12353, 12438, 1), (12441, 12543, 1), (12549, 12591, 1), (12593, 12686, 1), (12688, 12771, 1), (12784, 12830, 1), (12832, 12871, 1), (12880, 19903, 1), (19968, 42124, 1), (42128, 42182, 1), (43360, 43388, 1), (44032, 55203, 1), (63744, 64255, 1), (65040, 65049, 1), (65072, 65106, 1), (65108, 65126, 1), (65128, 65131, 1), (65281, 65376, 2), (65377, 65470, 3), (65474, 65479, 3), (65482, 65487, 3), (65490, 65495, 3), (65498, 65500, 3), (65504, 65510, 2), (65512, 65518, 3), (94176, 94180, 1), (94208, 100343, 1), (100352, 101589, 1), (110592, 110882, 1), (126980, 126980, 1), (127183, 127183, 1), (127374, 127374, 1), (127377, 127386, 1), (127488, 127490, 1), (127504, 127547, 1), (127552, 127560, 1), (127568, 127569, 1), (127584, 127589, 1), (127744, 127776, 1), (127789, 127797, 1), (127799, 127868, 1), (127870, 127891, 1), (127904, 127946, 1), (127951, 127955, 1), (127968, 127984, 1), (127988, 127988, 1), (127992, 128062, 1), (128064, 128064, 1), (128066, 128252, 1), (128255, 128317, 1), (128331, 128334, 1), (128336, 128359, 1), (128378, 128378, 1), (128405, 128406, 1), (128420, 128420, 1), (128507, 128591, 1), (128640, 128709, 1), (128716, 128716, 1), (128720, 128722, 1), (128725, 128727, 1), (128732, 128735, 1), (128747, 128748, 1), (128756, 128764, 1), (128992, 129003, 1), (129008, 129008, 1), (129292, 129338, 1), (129340, 129349, 1), (129351, 129535, 1), (129648, 129660, 1), (129664, 129672, 1), (129680, 129725, 1), (129727, 129733, 1), (129742, 129755, 1), (129760, 129768, 1), (129776, 129784, 1), (131072, 196605, 1), (196608, 262141, 1)]
def f_east_table  : Option (List (Int × Int × Int)) :=
 some t_east_table_122
theorem c_east_table (d : Own c0 G F) {r : List (Int × Int × Int)} (H : f_east_table  = some r) :
    Calls prog 260 #[] c0.w (Post c0 fun c v => ∃ a b, Own c G (es true RA3_i64 a 295 b r :: F) ∧ v = a ∧ OA RA3_i64 c a b r) := by
 unfold f_east_table at H
 refine en func260 rfl rfl (sr (va (Y) (wln (sr (va (.agg #[I 4352, I 4447, I 1]) (va (.agg #[I 8361, I 8361, I 3]) (va (.agg #[I 8986, I 8987, I 1]) (va (.agg #[I 9001, I 9002, I 1]) (va (.agg #[I 9193, I 9196, I 1]) (va (.agg #[I 9200, I 9200, I 1]) (va (.agg #[I 9203, I 9203, I 1]) (va (.agg #[I 9725, I 9726, I 1]) (va (.agg #[I 9748, I 9749, I 1]) (va (.agg #[I 9800, I 9811, I 1]) (va (.agg #[I 9855, I 9855, I 1]) (va (.agg #[I 9875, I 9875, I 1]) (va (.agg #[I 9889, I 9889, I 1]) (va (.agg #[I 9898, I 9899, I 1]) (va (.agg #[I 9917, I 9918, I 1]) (va (.agg #[I 9924, I 9925, I 1]) (va (.agg #[I 9934, I 9934, I 1]) (va (.agg #[I 9940, I 9940, I 1]) (va (.agg #[I 9962, I 9962, I 1]) (va (.agg #[I 9970, I 9971, I 1]) (va (.agg #[I 9973, I 9973, I 1]) (va (.agg #[I 9978, I 9978, I 1]) (va (.agg #[I 9981, I 9981, I 1]) (va (.agg #[I 9989, I 9989, I 1]) (va (.agg #[I 9994, I 9995, I 1]) (va (.agg #[I 10024, I 10024, I 1]) (va (.agg #[I 10060, I 10060, I 1]) (va (.agg #[I 10062, I 10062, I 1]) (va (.agg #[I 10067, I 10069, I 1]) (va (.agg #[I 10071, I 10071, I 1]) (va (.agg #[I 10133, I 10135, I 1]) (va (.agg #[I 10160, I 10160, I 1]) (va (.agg #[I 10175, I 10175, I 1]) (va (.agg #[I 11035, I 11036, I 1]) (va (.agg #[I 11088, I 11088, I 1]) (va (.agg #[I 11093, I 11093, I 1]) (va (.agg #[I 11904, I 11929, I 1]) (va (.agg #[I 11931, I 12019, I 1]) (va (.agg #[I 12032, I 12245, I 1]) (va (.agg #[I 12272, I 12287, I 1]) (va (.agg #[I 12288, I 12288, I 2]) (va (.agg #[I 12289, I 12350, I 1]) (va (.agg #[I 12353, I 12438, I 1]) (va (.agg #[I 12441, I 12543, I 1]) (va (.agg #[I 12549, I 12591, I 1]) (va (.agg #[I 12593, I 12686, I 1]) (va (.agg #[I 12688, I 12771, I 1]) (va (.agg #[I 12784, I 12830, I 1]) (va (.agg #[I 12832, I 12871, I 1]) (va (.agg #[I 12880, I 19903, I 1]) (va (.agg #[I 19968, I 42124, I 1]) (va (.agg #[I 42128, I 42182, I 1]) (va (.agg #[I 43360, I 43388, I 1]) (va (.agg #[I 44032, I 55203, I 1]) (va (.agg #[I 63744, I 64255, I 1]) (va (.agg #[I 65040, I 65049, I 1]) (va (.agg #[I 65072, I 65106, I 1]) (va (.agg #[I 65108, I 65126, I 1]) (va (.agg #[I 65128, I 65131, I 1]) (va (.agg #[I 65281, I 65376, I 2]) (va (.agg #[I 65377, I 65470, I 3]) (va (.agg #[I 65474, I 65479, I 3]) (va (.agg #[I 65482, I 65487, I 3]) (va (.agg #[I 65490, I 65495, I 3]) (va (.agg #[I 65498, I 65500, I 3]) (va (.agg #[I 65504, I 65510, I 2]) (va (.agg #[I 65512, I 65518, I 3]) (va (.agg #[I 94176, I 94180, I 1]) (va (.agg #[I 94208, I 100343, I 1]) (va (.agg #[I 100352, I 101589, I 1]) (va (.agg #[I 110592, I 110882, I 1]) (va (.agg #[I 126980, I 126980, I 1]) (va (.agg #[I 127183, I 127183, I 1]) (va (.agg #[I 127374, I 127374, I 1]) (va (.agg #[I 127377, I 127386, I 1]) (va (.agg #[I 127488, I 127490, I 1]) (va (.agg #[I 127504, I 127547, I 1]) (va (.agg #[I 127552, I 127560, I 1]) (va (.agg #[I 127568, I 127569, I 1]) (va (.agg #[I 127584, I 127589, I 1]) (va (.agg #[I 127744, I 127776, I 1]) (va (.agg #[I 127789, I 127797, I 1]) (va (.agg #[I 127799, I 127868, I 1]) (va (.agg #[I 127870, I 127891, I 1]) (va (.agg #[I 127904, I 127946, I 1]) (va (.agg #[I 127951, I 127955, I 1]) (va (.agg #[I 127968, I 127984, I 1]) (va (.agg #[I 127988, I 127988, I 1]) (va (.agg #[I 127992, I 128062, I 1]) (va (.agg #[I 128064, I 128064, I 1]) (va (.agg #[I 128066, I 128252, I 1]) (va (.agg #[I 128255, I 128317, I 1]) (va (.agg #[I 128331, I 128334, I 1]) (va (.agg #[I 128336, I 128359, I 1]) (va (.agg #[I 128378, I 128378, I 1]) (va (.agg #[I 128405, I 128406, I 1]) (va (.agg #[I 128420, I 128420, I 1]) (va (.agg #[I 128507, I 128591, I 1]) (va (.agg #[I 128640, I 128709, I 1]) (va (.agg #[I 128716, I 128716, I 1]) (va (.agg #[I 128720, I 128722, I 1]) (va (.agg #[I 128725, I 128727, I 1]) (va (.agg #[I 128732, I 128735, I 1]) (va (.agg #[I 128747, I 128748, I 1]) (va (.agg #[I 128756, I 128764, I 1]) (va (.agg #[I 128992, I 129003, I 1]) (va (.agg #[I 129008, I 129008, I 1]) (va (.agg #[I 129292, I 129338, I 1]) (va (.agg #[I 129340, I 129349, I 1]) (va (.agg #[I 129351, I 129535, I 1]) (va (.agg #[I 129648, I 129660, I 1]) (va (.agg #[I 129664, I 129672, I 1]) (va (.agg #[I 129680, I 129725, I 1]) (va (.agg #[I 129727, I 129733, I 1]) (va (.agg #[I 129742, I 129755, I 1]) (va (.agg #[I 129760, I 129768, I 1]) (va (.agg #[I 129776, I 129784, I 1]) (va (.agg #[I 131072, I 196605, I 1]) (va (.agg #[I 196608, I 262141, I 1]) (me (Own.sl (R := RA3_i64) (E := 295) (ls := t_east_table_122.map (fun x => [I x.1, I x.2.1, I x.2.2])) (vs := (t_east_table_122.map (fun x => [I x.1, I x.2.1, I x.2.2])).flatten) (xs := t_east_table_122) true d (Nat.succ_pos _) rfl (AllR.map _ (fun _ => rfl) _) (by kernel_rfl) (by kernel_rfl)) ?_))))))))))))))))))))))))))))))))))))))))))))))))))))))))))))))))))))))))))))))))))))))))))))))))))))))))))))))))))))))))))))
 rintro v5 f i ⟨h, e, g⟩
 refine va (v5) (wln (W.ret ?_))
 obtain rfl := si H
 exact r1 ⟨_, f, rfl, rfl, pt, v5, h, e, rfl, g⟩
def f_east_Of (p0 : Int) : Option (Int) :=
 (f_east_table).bind fun a =>
 (f_sort_Search__east_Of_1 (a.length : Int) a p0).bind fun b =>
 (orE (b == (a.length : Int)) ((idx a b).bind fun d =>
 some (decide (d.1 > (w64 p0))))).bind fun c =>
 if c = true then
 some 0
 else
 (idx a b).bind fun e =>
 some e.2.2
theorem c_east_Of (O0 : Own c0 G F) (k : Int) {r : Int} (H : f_east_Of k = some r) :
    Calls prog 230 #[J k] c0.w (Post c0 fun c v => Own c G (F) ∧ v = I r) := by
 unfold f_east_Of at H
 refine en func230 rfl rfl (sr (me (bx 21 [J k] O0) ?_))
 rintro v5 c4 l4 ⟨b1, rfl, O2, m3⟩
 refine va (I 0) (wln (sr (bn H fun i h6 H => cl (c_east_table O2 h6) ?_)))
 rintro v7 d1 j1 ⟨_, u8, T, rfl, s⟩
 refine me (al 292 [Y] T) ?_
 rintro v19 e1 M ⟨y, rfl, U⟩
 obtain ⟨b, d, e, rfl⟩ := ((s.mono M)).form
 refine md (sC 292 0 (.slice b d e) [.slice b d e] 0 U ⟨s.m.one, trivial⟩) ?_
 rintro f1 m0 t
 refine wln (sr (vx (le1 0 underlying292 (t.on 0 rfl)) (vx (lnO 3 underlying292 s.m) ?_)))
 obtain ⟨g1, g0, k1, X, g⟩ := t.frz 1 rfl (s.mono (M.trans m0))
 refine WL.gh g0 ?_
 obtain ⟨h1, h0, N, Z, n⟩ := Own.frzB 0 X rfl
 refine WL.gh h0 ?_
 have a0 := Z.sD 2 [1]
 refine va (.func (.func 261) #[] #[Q y, Q b1]) (bn H fun a i0 H => cl (c_sort_Search__east_Of_1 a0 (i.length : Int) i k n g.m (mm m3) i0) ?_)
 rintro v40 f0 P ⟨b0, rfl⟩
 refine va (I a) (wln (W.seq (W.seq (bn H fun R A H => W.join (Jn f0 fun c l => Own c G (es false RA3_i64 (.slice b d e) 295 u8 i :: F) ∧ l = [(3, Q y), (4, I a), (23, B R)]) ?_ ?_))))
 ·clear H
  refine rD [] (Kp G0 []) b0 ?_
  intro p o0 u
  have m1 : Kp G0 [] p := Kp.nil0
  refine ta 0 (I a) (tx 1 (fun j f => l1 underlying292 ((mm n) 0 _ rfl)) (tx 2 (fun j f => ln 3 underlying292 g.m) (ta 3 (B (a == (i.length : Int))) ?_)))
  rcases bo (a == (i.length : Int)) with h | h
  ·obtain rfl := orT h A
   exact AC.takeb 4 h rfl (by kernel_rfl) (by kernel_rfl) (fun j f => (by kernel_rfl)) (tp 5 (tp 6 (tp 7 (tp 8 (tp 9 (tp 10 (tp 11 (tp 12 (ta 13 (B true) (dn (nrm ⟨p, _, _, rfl, pt, us, u, rfl⟩)))))))))))
  have o := orF h A
  refine bn o fun q D o => AC.takeb 4 h rfl (by kernel_rfl) (by kernel_rfl) (fun j f => (by kernel_rfl)) (tx 5 (fun j f => l1 underlying292 ((mm n) 0 _ rfl)) (ta 6 (I a) ?_))
  obtain ⟨z0, j0, t0⟩ := Sl.at (g.mono (N.trans (P.trans o0))) (idx_get D)
  obtain rfl := j0
  refine tx 7 (fun j f => ix underlying292 g.m D) (ta 8 (.pointer (some ⟨sb (.slice b d e), so (.slice b d e) + a.toNat * 3, none⟩)) (tx 9 (fun j f => l1 underlying3 ((mm t0) 0 _ rfl)) (tx 10 (fun j f => l1 underlying21 ((mm m3) 0 _ rfl)) (ta 11 (I (w64 k)) (ta 12 (B (decide (q.1 > (w64 k)))) ?_)))))
  obtain rfl := si o
  exact ta 13 (B (decide (q.1 > (w64 k)))) (dn (nrm ⟨p, _, _, rfl, pt, us, u, rfl⟩))
 rintro e_ w_ ⟨z, i1, _, rfl, q0, rfl, x, rfl⟩
 refine nrm (cn H (fun k0 H => ?_) (fun k0 H => ?_))
 ·refine sr (va (I 0) (wln (W.ret (thr ?_))))
  obtain rfl := si H
  have d0 := x.sD 1 []
  exact r1 ⟨_, z, rfl, rfl, pt, d0, rfl⟩
 refine W.skip (nrm (sr (vx (l1 underlying292 ((mm n) 0 _ rfl)) (va (I a) (bn H fun S E H => ?_)))))
 obtain ⟨a1, l0, u0⟩ := Sl.at (g.mono (N.trans (P.trans q0))) (idx_get E)
 obtain rfl := l0
 refine vx (ix underlying292 g.m E) (va (.pointer (some ⟨sb (.slice b d e), so (.slice b d e) + a.toNat * 3 + 2, none⟩)) (vx (l1 underlying3 (u0 2 _ rfl)) (va (I S.2.2) (wln (W.ret ?_)))))
 obtain rfl := si H
 have e0 := x.sD 1 []
 exact r1 ⟨_, z, rfl, rfl, pt, e0, rfl⟩
def f_ucd_Of (p0 : Int) : Option (G_api_Prop) :=
 (f_gcb_Of p0).bind fun b =>
 (f_pict_Is p0).bind fun c =>
 (f_conj_Of p0).bind fun d =>
 (f_east_Of p0).bind fun a =>
 some (⟨b, c, d, a⟩ : G_api_Prop)
theorem c_ucd_Of (p : Own c0 G F) (a : Int) {r : G_api_Prop} (H : f_ucd_Of a = some r) :
    Calls prog 182 #[J a] c0.w (Post c0 fun c v => Own c G (F) ∧ v = .agg #[I r.Break, B r.Pict, I r.Conj, I r.East]) := by
 unfold f_ucd_Of at H
 refine en func182 rfl rfl (sr (me (al 33 [I 0, B false, I 0, I 0] p) ?_))
 rintro v4 R S ⟨P, rfl, q⟩
 refine wln (sr (va (J a) (bn H fun d t H => cl (c_gcb_Of q a t) ?_)))
 rintro v11 u A ⟨s, rfl⟩
 refine va (J a) (bn H fun e m H => cl (c_pict_Is s a m) ?_)
 rintro v18 x D ⟨i, rfl⟩
 refine va (J a) (bn H fun f n H => cl (c_conj_Of i a n) ?_)
 rintro v25 y E ⟨j, rfl⟩
 refine va (J a) (bn H fun b o H => cl (c_east_Of j a o) ?_)
 rintro v32 z M ⟨k, rfl⟩
 refine va (.agg #[I d, B e, I f, I b]) (md (sA 33 [I d, B e, I f, I b] 0 k ⟨rfl, rfl, rfl, rfl, trivial⟩) ?_)
 rintro h N g
 refine wln (W.ret ?_)
 obtain rfl := si H
 have l := g.sD 1 []
 exact retC (c := h) (vs := [I d, B e, I f, I b]) rfl (by kernel_rfl) (by kernel_rfl) (by kernel_rfl) (g.on 0 rfl _ rfl).1 ⟨_, h, rfl, rfl, pt, l, rfl⟩
def f_linotyperef14_rows  : Option (List ByteArray) :=
 some ([(⟨#[48, 48, 48, 48, 49, 49, 48, 48, 49, 48, 48, 48, 48, 48]⟩ : ByteArray), (⟨#[48, 48, 49, 48, 48, 48, 48, 48, 48, 48, 48, 48, 48, 48]⟩ : ByteArray), (⟨#[48, 48, 48, 48, 48, 48, 48, 48, 48, 48, 48, 48, 48, 48]⟩ : ByteArray), (⟨#[48, 48, 48, 48, 48, 48, 48, 48, 48, 48, 48, 48, 48, 48]⟩ : ByteArray), (⟨#[50, 48, 48, 48, 49, 49, 48, 48, 49, 48, 48, 48, 48, 48]⟩ : ByteArray), (⟨#[50, 48, 48, 48, 49, 49, 48, 48, 49, 48, 48, 48, 48, 48]⟩ : ByteArray), (⟨#[48, 48, 48, 48, 49, 49, 50, 48, 49, 48, 48, 48, 48, 48]⟩ : ByteArray), (⟨#[49, 48, 48, 48, 49, 49, 49, 49, 49, 49, 49, 49, 49, 49]⟩ : ByteArray), (⟨#[48, 48, 48, 48, 49, 49, 48, 48, 49, 48, 48, 48, 48, 48]⟩ : ByteArray), (⟨#[48, 48, 48, 48, 49, 49, 48, 48, 49, 49, 49, 48, 49, 49]⟩ : ByteArray), (⟨#[48, 48, 48, 48, 49, 49, 48, 48, 49, 48, 49, 49, 48, 48]⟩ : ByteArray), (⟨#[48, 48, 48, 48, 49, 49, 48, 48, 49, 48, 48, 49, 48, 48]⟩ : ByteArray), (⟨#[48, 48, 48, 48, 49, 49, 48, 48, 49, 48, 49, 49, 48, 48]⟩ : ByteArray), (⟨#[48, 48, 48, 48, 49, 49, 48, 48, 49, 48, 48, 49, 48, 48]⟩ : ByteArray)] : List ByteArray)
def f_linotyperef14_Join (p0 : Int) (p1 : Int) : Option (Int) :=
 ((orE (decide (p0 < 0)) (some (decide (p0 > 13)))).bind fun f =>
 if f = true then
 some (0)
 else
 some (p0)).bind fun g =>
 ((orE (decide (p1 < 0)) (some (decide (p1 > 13)))).bind fun a =>
 if a = true then
 some (0)
 else
 some (p1)).bind fun e =>
 (f_linotyperef14_rows).bind fun b =>
 (idx b g).bind fun c =>
 (sidx c e).bind fun d =>
 some (w64 ((w64 d) - 48))
def f_feed_New (sg : Sto) (p0 : Option Nat) : Option (Sto × (Option Nat)) :=
 (orE p0.isNone ((p0).bind fun d =>
 (sg.place_Pen[d]?).bind fun b =>
 some b.G.isNone)).bind fun c =>
 if c = true then
 some (sg, (none : Option Nat))
 else
 (some (sg.add_feed_Feeder (⟨p0, (⟨0, 0, 0, 0, 0⟩ : G_utfdec_Dec), (⟨false, 0, 0, 0, false⟩ : G_seg_State), (none : Option Nat)⟩ : G_feed_Feeder))).bind fun a =>
 some (a, (some sg.feed_Feeder.length))
theorem c_feed_New (t : Own c0 G F) (u : Rel c0 sg G) (k : Option Nat) {r : Sto × (Option Nat)} (n : Pt 2 c0 v1 k) (H : f_feed_New sg k = some r) :
    Calls prog 43 #[v1] c0.w (Post c0 fun c v => ∃ y1, ∃ G_ : Gm, Own c G_ (F) ∧ Rel c r.1 G_ ∧ Adds G G_ ∧ v = y1 ∧ Pt 4 c y1 r.2) := by
 unfold f_feed_New at H
 refine en func43 rfl rfl (sr (va (.pointer none) (wln (W.seq (W.seq (bn H fun T h3 H => W.join (Jn c0 fun c l => Own c G (F) ∧ l = [(0, v1), (11, B T)]) ?_ ?_))))))
 ·clear H
  refine W.region (va (v1) (vr (B k.isNone) (by rcases (n).cs with ⟨d, e⟩ | ⟨b_, d, e⟩ <;> (subst d; rw [e]; kernel_rfl)) ?_))
  rcases bo (k.isNone) with h | h
  ·obtain rfl := orT h h3
   exact vb h (ps (ps (ps (ps (ps (va (B true) (wln ⟨c0, _, _, rfl, pt, us, t, rfl⟩)))))))
  have g := orF h h3
  refine vb h (wn (va (v1) (wn (bn g fun t0 h8 g => ?_))))
  obtain ⟨R, rfl, h7⟩ := (n).get h8
  refine va (Q R) (wn (va (Q R) (wn (bn g fun j h9 g => ?_))))
  obtain ⟨v10, X, U⟩ := Rel.open_place_Pen u h9 h7
  refine vx (le1 0 underlying35 (t.gon X 0 rfl)) (wn (vr (B j.G.isNone) (by rcases (U).cs with ⟨d, e⟩ | ⟨b_, d, e⟩ <;> (subst d; rw [e]; kernel_rfl)) ?_))
  obtain rfl := si g
  exact va (B j.G.isNone) (wln ⟨c0, _, _, rfl, pt, us, t, rfl⟩)
 rintro e_ w_ ⟨S, o0, _, rfl, i, rfl, o, rfl⟩
 refine nrm (cn H (fun Z H => ?_) (fun Z H => ?_))
 ·refine sr (va (.pointer none) (wln (W.ret (thr ?_))))
  obtain rfl := si H
  exact r1 ⟨_, S, rfl, rfl, pt, (.pointer none), G, o, u.m, (Adds.refl _), rfl, rfl⟩
 refine W.skip (nrm (sr (va (v1) ?_)))
 obtain ⟨f, rfl⟩ := ((n.mono i)).form
 refine va (.agg #[.pointer f, I 0, I 0, .int .u8 0, .int .u8 0, I 0, B false, I 0, I 0, I 0, B false, .pointer none]) (me (al 158 [.pointer f, I 0, I 0, .int .u8 0, .int .u8 0, I 0, B false, I 0, I 0, I 0, B false, .pointer none] o) ?_)
 rintro v24 m0 s ⟨a, rfl, A⟩
 have D := A.sD 1 [0]
 refine bn H fun y a0 H => ?_
 obtain ⟨q, z, b0, u0, d0, M, p, q0, f0, N⟩ := Rel.new_feed_Feeder (E := [(Eb a 158 [.pointer f, I 0, I 0, .int .u8 0, .int .u8 0, I 0, B false, I 0, I 0, I 0, B false, .pointer none])]) (F := F) (x := (⟨k, (⟨0, 0, 0, 0, 0⟩ : G_utfdec_Dec), (⟨false, 0, 0, 0, false⟩ : G_seg_State), (none : Option Nat)⟩ : G_feed_Feeder)) (b := a) D (u.mono (i.trans s)) (fun c_ hle_ => ⟨a, (.pointer f), (.pointer none), rfl, rfl, (n.mono ((i.trans s).trans hle_)), rfl⟩)
 rw [Option.some.inj a0] at p
 refine WL.gh b0.1 ?_
 have s0 := Adds.nil (Adds.refl _) f0
 have P := (Adds.refl _).trans N
 have g0 : Pt 4 q (Q a) (some sg.feed_Feeder.length) := ⟨a, rfl, d0⟩
 refine va (Q a) (wln (W.ret ?_))
 obtain rfl := si H
 exact r1 ⟨_, q, rfl, rfl, pt, (Q a), z, M, p, P, rfl, g0⟩
def f_pairs_class (p0 : Int) : Option (Int) :=
 (orE (decide (p0 < 0)) (some (decide (p0 > 13)))).bind fun a =>
 if a = true then
 some 0
 else
 some p0
theorem c_pairs_class (d : Own c0 G F) (a : Int) {r : Int} (H : f_pairs_class a = some r) :
    Calls prog 271 #[I a] c0.w (Post c0 fun c v => Own c G (F) ∧ v = I r) := by
 unfold f_pairs_class at H
 refine en func271 rfl rfl (sr (va (I 0) (wln (W.seq (W.seq (bn H fun g h H => W.join (Jn c0 fun c l => Own c G (F) ∧ l = [(0, I a), (8, B g)]) ?_ ?_))))))
 ·clear H
  refine W.region (va (I a) (va (B (decide (a < 0))) ?_))
  rcases bo (decide (a < 0)) with b | b
  ·obtain rfl := orT b h
   exact vb b (ps (ps (va (B true) (wln ⟨c0, _, _, rfl, pt, us, d, rfl⟩))))
  have j := orF b h
  refine vb b (wn (va (I a) (wn (va (B (decide (a > 13))) ?_))))
  obtain rfl := si j
  exact va (B (decide (a > 13))) (wln ⟨c0, _, _, rfl, pt, us, d, rfl⟩)
 rintro k o ⟨f, m, _, rfl, n, rfl, e, rfl⟩
 refine nrm (cn H (fun i H => ?_) (fun i H => ?_))
 ·refine sr (va (I 0) (wln (W.ret (thr ?_))))
  obtain rfl := si H
  exact r1 ⟨_, f, rfl, rfl, pt, e, rfl⟩
 refine W.skip (nrm (sr (va (I a) (va (I a) (wln (W.ret ?_))))))
 obtain rfl := si H
 exact r1 ⟨_, f, rfl, rfl, pt, e, rfl⟩
def f_pairs_breaks (p0 : Int) : Option (Bool) :=
 if (p0 == 1) = true then
 some true
 else
 if (p0 == 2) = true then
 some true
 else
 if (p0 == 3) = true then
 some true
 else
 some false
theorem c_pairs_breaks (b : Own c0 G F) (a : Int) {r : Bool} (H : f_pairs_breaks a = some r) :
    Calls prog 272 #[I a] c0.w (Post c0 fun c v => Own c G (F) ∧ v = B r) := by
 unfold f_pairs_breaks at H
 refine en func272 rfl rfl (sr (va (B false) (wln (W.seq (sr (va (I a) (wln (W.block (W.seq (W.block (W.block (W.block (W.seq (W.seq (sr (va (B (a == 1)) (va (B (a == 1)) (wln (cn H (fun d H => ?_) (fun d H => ?_))))))))))))))))))))
 ·refine W.exit (thx (thx (bke (bkn (bkn (nrm (W.seq (sr (va (B true) (wln (W.ret (thr (bkr (thr ?_))))))))))))))
  obtain rfl := si H
  exact r1 ⟨_, c0, rfl, rfl, pt, b, rfl⟩
 refine W.skip (nrm (W.seq (sr (va (B (a == 2)) (va (B (a == 2)) (wln (cn H (fun e H => ?_) (fun e H => ?_))))))))
 ·refine W.exit (thx (thx (bko rfl (bke (bkn (nrm (W.seq (sr (va (B true) (wln (W.ret (thr (bkr (thr ?_))))))))))))))
  obtain rfl := si H
  exact r1 ⟨_, c0, rfl, rfl, pt, b, rfl⟩
 refine W.skip (nrm (sr (va (B (a == 3)) (va (B (a == 3)) (wln (cn H (fun f H => ?_) (fun f H => ?_)))))))
 ·refine W.exit (thx (bko rfl (bko rfl (bke (nrm (W.seq (sr (va (B true) (wln (W.ret (thr (bkr (thr ?_)))))))))))))
  obtain rfl := si H
  exact r1 ⟨_, c0, rfl, rfl, pt, b, rfl⟩
 refine W.skip (nrm (W.exit (bko rfl (bko rfl (bko rfl (thx (bke (nrm (sr (va (B false) (wln (W.ret ?_))))))))))))
 obtain rfl := si H
 exact r1 ⟨_, c0, rfl, rfl, pt, b, rfl⟩
def f_pairs_syllable (p0 : Int) (p1 : Int) : Option (Bool) :=
 if (p0 == 9) = true then
 (orE (p1 == 9) (some (p1 == 10))).bind fun a =>
 (orE a (some (p1 == 12))).bind fun b =>
 (orE b (some (p1 == 13))).bind fun c =>
 some c
 else
 (if (p0 == 12) = true then
 some (p0 == 12)
 else
 some (p0 == 10)).bind fun e =>
 if e = true then
 (orE (p1 == 10) (some (p1 == 11))).bind fun d =>
 some d
 else
 (if (p0 == 13) = true then
 some (p0 == 13)
 else
 some (p0 == 11)).bind fun f =>
 if f = true then
 some (p1 == 11)
 else
 some false
theorem c_pairs_syllable (m : Own c0 G F) (b : Int) (a : Int) {r : Bool} (H : f_pairs_syllable b a = some r) :
    Calls prog 273 #[I b, I a] c0.w (Post c0 fun c v => Own c G (F) ∧ v = B r) := by
 unfold f_pairs_syllable at H
 refine en func273 rfl rfl (sr (va (B false) (wln (W.seq (sr (va (I b) (wln (W.block (sr (va (B (b == 9)) (va (B (b == 9)) (wln (cn H (fun h1 H => ?_) (fun h1 H => ?_))))))))))))))
 ·refine W.seq (bn H fun i0 Z H => bn H fun j0 A H => bn H fun x p H => W.join (Jn c0 fun c l => Own c G (F) ∧ l = [(4, B x)]) ?_ ?_)
  ·clear H
   refine W.region (va (I a) (va (B (a == 9)) ?_))
   rcases bo (a == 9) with n | n
   ·obtain rfl := orT n Z
    refine vb n (ps (ps (va (B true) ?_)))
    have h6 : true = true := rfl
    obtain rfl := orT h6 A
    refine vb h6 (ps (ps (va (B true) ?_)))
    have h7 : true = true := rfl
    obtain rfl := orT h7 p
    exact vb h7 (ps (ps (va (B true) (va (B true) (wln ⟨c0, _, _, rfl, pt, us, m, rfl⟩)))))
   have H8 := orF n Z
   refine vb n (wn (va (I a) (wn (va (B (a == 10)) ?_))))
   obtain rfl := si H8
   refine va (B (a == 10)) ?_
   rcases bo (a == 10) with o | o
   ·obtain rfl := orT o A
    refine vb o (ps (ps (va (B true) ?_)))
    have t : true = true := rfl
    obtain rfl := orT t p
    exact vb t (ps (ps (va (B true) (va (B true) (wln ⟨c0, _, _, rfl, pt, us, m, rfl⟩)))))
   have N := orF o A
   refine vb o (wn (va (I a) (wn (va (B (a == 12)) ?_))))
   obtain rfl := si N
   refine va (B (a == 12)) ?_
   rcases bo (a == 12) with i | i
   ·obtain rfl := orT i p
    exact vb i (ps (ps (va (B true) (va (B true) (wln ⟨c0, _, _, rfl, pt, us, m, rfl⟩)))))
   have P := orF i p
   refine vb i (wn (va (I a) (wn (va (B (a == 13)) ?_))))
   obtain rfl := si P
   exact va (B (a == 13)) (va (B (a == 13)) (wln ⟨c0, _, _, rfl, pt, us, m, rfl⟩))
  rintro z D ⟨U, l0, _, rfl, s0, rfl, S, rfl⟩
  refine nrm (W.ret (bkr (thr ?_)))
  obtain rfl := si H
  exact r1 ⟨_, U, rfl, rfl, pt, S, rfl⟩
 refine bn H fun E f d => W.seqJ (Jn c0 fun c l => Own c G (F) ∧ l = [(1, I a), (5, I b), (22, B E)]) ?_ ?_
 ·refine sr (va (B (b == 12)) (va (B (b == 12)) (wln (cn f (fun a0 f => ?_) (fun a0 f => ?_)))))
  ·refine W.skip (nrm ?_)
   obtain rfl := si f
   exact ⟨c0, _, _, rfl, pt, us, m, rfl⟩
  refine W.region (va (B (b == 10)) (va (B (b == 10)) (wln ?_)))
  obtain rfl := si f
  exact ⟨c0, _, _, rfl, pt, us, m, rfl⟩
 rintro z D ⟨e, m0, _, rfl, t0, rfl, k, rfl⟩
 refine cn d (fun b0 d => ?_) (fun b0 d => ?_)
 ·refine W.seq (bn d fun y u d => W.join (Jn e fun c l => Own c G (F) ∧ l = [(4, B y)]) ?_ ?_)
  ·clear d
   refine W.region (va (I a) (va (B (a == 10)) ?_))
   rcases bo (a == 10) with j | j
   ·obtain rfl := orT j u
    exact vb j (ps (ps (va (B true) (va (B true) (wln ⟨e, _, _, rfl, pt, us, k, rfl⟩)))))
   have R := orF j u
   refine vb j (wn (va (I a) (wn (va (B (a == 11)) ?_))))
   obtain rfl := si R
   exact va (B (a == 11)) (va (B (a == 11)) (wln ⟨e, _, _, rfl, pt, us, k, rfl⟩))
  rintro z D ⟨X, o0, _, rfl, u0, rfl, T, rfl⟩
  refine nrm (W.ret (bkr (thr ?_)))
  obtain rfl := si d
  exact r1 ⟨_, X, rfl, rfl, pt, T, rfl⟩
 refine bn d fun M g h => W.seqJ (Jn e fun c l => Own c G (F) ∧ l = [(1, I a), (31, B M)]) ?_ ?_
 ·refine sr (va (B (b == 13)) (va (B (b == 13)) (wln (cn g (fun d0 g => ?_) (fun d0 g => ?_)))))
  ·refine W.skip (nrm ?_)
   obtain rfl := si g
   exact ⟨e, _, _, rfl, pt, us, k, rfl⟩
  refine W.region (va (B (b == 11)) (va (B (b == 11)) (wln ?_)))
  obtain rfl := si g
  exact ⟨e, _, _, rfl, pt, us, k, rfl⟩
 rintro z D ⟨s, q0, _, rfl, v0, rfl, q, rfl⟩
 refine cn h (fun e0 h => ?_) (fun e0 h => ?_)
 ·refine sr (va (I a) (va (B (a == 11)) (va (B (a == 11)) (wln (W.ret (bkr (thr ?_)))))))
  obtain rfl := si h
  exact r1 ⟨_, s, rfl, rfl, pt, q, rfl⟩
 refine W.skip (bkn (nrm (sr (va (B false) (wln (W.ret ?_))))))
 obtain rfl := si h
 exact r1 ⟨_, s, rfl, rfl, pt, q, rfl⟩
def f_pairs_Join (p0 : Int) (p1 : Int) : Option (Int) :=
 (f_pairs_class p0).bind fun b =>
 (f_pairs_class p1).bind fun a =>
 (andE (b == 1) (some (a == 2))).bind fun e =>
 if e = true then
 some 1
 else
 (f_pairs_breaks b).bind fun i =>
 (orE i ((f_pairs_breaks a).bind fun j =>
 some j)).bind fun f =>
 if f = true then
 some 0
 else
 ((f_pairs_syllable b a).bind fun d =>
 if d = true then
 some (d)
 else
 if (a == 4) = true then
 some (a == 4)
 else
 if (a == 5) = true then
 some (a == 5)
 else
 if (a == 8) = true then
 some (a == 8)
 else
 some (b == 7)).bind fun k =>
 if k = true then
 some 1
 else
 ((andE (a == 0) ((orE (b == 5) (some (b == 4))).bind fun g =>
 some g)).bind fun c =>
 if c = true then
 some (c)
 else
 (andE (b == 6) (some (a == 6))).bind fun h =>
 some (h)).bind fun l =>
 if l = true then
 some 2
 else
 some 0
theorem c_pairs_Join (O0 : Own c0 G F) (E : Int) (M : Int) {r : Int} (H : f_pairs_Join E M = some r) :
    Calls prog 262 #[I E, I M] c0.w (Post c0 fun c v => Own c G (F) ∧ v = I r) := by
 unfold f_pairs_Join at H
 refine en func262 rfl rfl (sr (va (I 0) (wln (sr (va (I E) (bn H fun b h1 H => cl (c_pairs_class O0 E h1) ?_))))))
 rintro v7 c6 l6 ⟨O3, rfl⟩
 refine va (I M) (bn H fun a h8 H => cl (c_pairs_class O3 M h8) ?_)
 rintro v14 y b2 ⟨N, rfl⟩
 refine va (I b) (va (I a) (wln (W.seq (W.block (W.seq (bn H fun g0 a0 H => W.join (Jn y fun c l => Own c G (F) ∧ l = [(0, I b), (1, I a), (9, B g0)]) ?_ ?_))))))
 ·clear H
  refine W.region (va (I b) (va (B (b == 1)) ?_))
  rcases bo (b == 1) with k | k
  ·have q0 := anT k a0
   refine vb k (wn (va (I a) (wn (va (B (a == 2)) ?_))))
   obtain rfl := si q0
   exact va (B (a == 2)) (va (B (a == 2)) (wln ⟨y, _, _, rfl, pt, us, N, rfl⟩))
  obtain rfl := anF k a0
  exact vb k (ps (ps (va (B false) (va (B false) (wln ⟨y, _, _, rfl, pt, us, N, rfl⟩)))))
 rintro z A ⟨U, v1, _, rfl, c2, rfl, P, rfl⟩
 refine nrm (cn H (fun z0 H => ?_) (fun z0 H => ?_))
 ·refine sr (va (I 1) (wln (W.ret (bkr (thr ?_)))))
  obtain rfl := si H
  exact r1 ⟨_, U, rfl, rfl, pt, P, rfl⟩
 refine W.seq (bn H fun k0 a1 H => bn H fun h0 b0 H => W.join (Jn U fun c l => Own c G (F) ∧ l = [(0, I b), (1, I a), (16, B h0)]) ?_ ?_)
 ·clear H
  refine W.region (va (I b) (cl (c_pairs_breaks P b a1) ?_))
  rintro v32 w0 d2 ⟨R, rfl⟩
  rcases bo (k0) with m | m
  ·obtain rfl := orT m b0
   exact vb m (ps (ps (va (B true) (va (B true) (wln ⟨w0, _, _, rfl, pt, us, R, rfl⟩)))))
  have u := orF m b0
  refine vb m (wn (va (I a) (wn (bn u fun D b1 u => cl (c_pairs_breaks R a b1) ?_))))
  rintro v41 x0 e2 ⟨u0, rfl⟩
  obtain rfl := si u
  exact va (B D) (va (B D) (wln ⟨x0, _, _, rfl, pt, us, u0, rfl⟩))
 rintro z A ⟨X, w1, _, rfl, f2, rfl, S, rfl⟩
 refine nrm (cn H (fun c1 H => ?_) (fun c1 H => ?_))
 ·refine sr (va (I 0) (wln (W.ret (bkr (thr ?_)))))
  obtain rfl := si H
  exact r1 ⟨_, X, rfl, rfl, pt, S, rfl⟩
 refine bn H fun m0 d g => W.seqJ (Jn X fun c l => Own c G (F) ∧ l = [(0, I b), (1, I a), (23, B m0)]) ?_ ?_
 ·refine sr (va (I b) (va (I a) (bn d fun l0 d1 d => cl (c_pairs_syllable S b a d1) ?_)))
  rintro v57 j g2 ⟨i, rfl⟩
  refine va (B l0) (wln (cn d (fun e1 d => ?_) (fun e1 d => ?_)))
  ·refine W.skip (nrm ?_)
   obtain rfl := si d
   exact ⟨j, _, _, rfl, pt, us, i, rfl⟩
  refine sr (va (I a) (va (B (a == 4)) (va (B (a == 4)) (wln (cn d (fun f1 d => ?_) (fun f1 d => ?_))))))
  ·refine W.skip (nrm ?_)
   obtain rfl := si d
   exact ⟨j, _, _, rfl, pt, us, i, rfl⟩
  refine sr (va (I a) (va (B (a == 5)) (va (B (a == 5)) (wln (cn d (fun g1 d => ?_) (fun g1 d => ?_))))))
  ·refine W.skip (nrm ?_)
   obtain rfl := si d
   exact ⟨j, _, _, rfl, pt, us, i, rfl⟩
  refine sr (va (I a) (va (B (a == 8)) (va (B (a == 8)) (wln (cn d (fun i1 d => ?_) (fun i1 d => ?_))))))
  ·refine W.skip (nrm ?_)
   obtain rfl := si d
   exact ⟨j, _, _, rfl, pt, us, i, rfl⟩
  refine W.region (va (I b) (va (B (b == 7)) (va (B (b == 7)) (wln ?_))))
  obtain rfl := si d
  exact ⟨j, _, _, rfl, pt, us, i, rfl⟩
 rintro z A ⟨f, x1, _, rfl, h2, rfl, s, rfl⟩
 refine cn g (fun j1 g => ?_) (fun j1 g => ?_)
 ·refine sr (va (I 1) (wln (W.ret (bkr (thr ?_)))))
  obtain rfl := si g
  exact r1 ⟨_, f, rfl, rfl, pt, s, rfl⟩
 refine bn g fun o0 e h => W.seqJ (Jn f fun c l => Own c G (F) ∧ l = [(35, B o0)]) ?_ ?_
 ·refine W.seq (bn e fun i0 d0 e => W.join (Jn f fun c l => Own c G (F) ∧ l = [(0, I b), (1, I a), (35, B i0)]) ?_ ?_)
  ·clear e
   refine W.region (va (I a) (va (B (a == 0)) ?_))
   rcases bo (a == 0) with n | n
   ·have q := anT n d0
    refine vb n (wn (va (I b) (wn (va (B (b == 5)) (wn (bn q fun s1 e0 q => ?_))))))
    rcases bo (b == 5) with o | o
    ·obtain rfl := orT o e0
     refine vb o (ps (ps (wn (va (B true) ?_))))
     obtain rfl := si q
     exact va (B true) (va (B true) (wln ⟨f, _, _, rfl, pt, us, s, rfl⟩))
    have s0 := orF o e0
    refine vb o (wn (va (I b) (wn (va (B (b == 4)) (wn ?_)))))
    obtain rfl := si s0
    refine va (B (b == 4)) ?_
    obtain rfl := si q
    exact va (B (b == 4)) (va (B (b == 4)) (wln ⟨f, _, _, rfl, pt, us, s, rfl⟩))
   obtain rfl := anF n d0
   exact vb n (ps (ps (ps (ps (ps (ps (va (B false) (va (B false) (wln ⟨f, _, _, rfl, pt, us, s, rfl⟩)))))))))
  rintro z A ⟨t, y1, _, rfl, i2, rfl, x, rfl⟩
  refine nrm (cn e (fun k1 e => ?_) (fun k1 e => ?_))
  ·refine W.skip (nrm ?_)
   obtain rfl := si e
   exact ⟨t, _, _, rfl, pt, us, x, rfl⟩
  refine bn e fun j0 f0 e => W.join (Jn t fun c l => Own c G (F) ∧ l = [(35, B j0)]) ?_ ?_
  ·clear e
   refine W.region (va (I b) (va (B (b == 6)) ?_))
   rcases bo (b == 6) with p | p
   ·have t0 := anT p f0
    refine vb p (wn (va (I a) (wn (va (B (a == 6)) ?_))))
    obtain rfl := si t0
    exact va (B (a == 6)) (va (B (a == 6)) (wln ⟨t, _, _, rfl, pt, us, x, rfl⟩))
   obtain rfl := anF p f0
   exact vb p (ps (ps (va (B false) (va (B false) (wln ⟨t, _, _, rfl, pt, us, x, rfl⟩)))))
  rintro z A ⟨y0, z1, _, rfl, j2, rfl, v0, rfl⟩
  refine nrm ?_
  obtain rfl := si e
  exact ⟨y0, _, _, rfl, pt, us, v0, rfl⟩
 rintro z A ⟨Z, a2, _, rfl, k2, rfl, T, rfl⟩
 refine cn h (fun m1 h => ?_) (fun m1 h => ?_)
 ·refine sr (va (I 2) (wln (W.ret (bkr (thr ?_)))))
  obtain rfl := si h
  exact r1 ⟨_, Z, rfl, rfl, pt, T, rfl⟩
 refine W.skip (bkn (nrm (sr (va (I 0) (wln (W.ret ?_))))))
 obtain rfl := si h
 exact r1 ⟨_, Z, rfl, rfl, pt, T, rfl⟩
def f_seg_State_joins__feed_Feeder_6 (p0 : G_seg_State) (p1 : G_api_Prop) : Option (Bool) :=
 if (!p0.some) = true then
 some false
 else
 ((andE (p1.Conj == 1) (some (p0.conj == 2))).bind fun a =>
 if a = true then
 some (a)
 else
 (andE p1.Pict (some (p0.pict == 2))).bind fun c =>
 some (c)).bind fun e =>
 if e = true then
 some true
 else
 (f_pairs_Join p0.last p1.Break).bind fun b =>
 if (b == 1) = true then
 some true
 else
 if (b == 2) = true then
 (andE (p0.last == 6) (some p0.odd)).bind fun d =>
 some d
 else
 some false
theorem c_seg_State_joins__feed_Feeder_6 {b : Nat} {r0_0 : Value} {r0_1 : Value} {r0_2 : Value} {r0_3 : Value} {r0_4 : Value} {r0_5 : Value} {r0_11 : Value} (a : G_seg_State) (e : G_api_Prop) (O0 : Own c0 G ((Eb b 158 [r0_0, r0_1, r0_2, r0_3, r0_4, r0_5, B a.some, I a.last, I a.pict, I a.conj, B a.odd, r0_11]) :: F)) {r : Bool} (H : f_seg_State_joins__feed_Feeder_6 a e = some r) :
    Calls prog 231 #[.pointer (some ⟨b, 6, none⟩), .agg #[I e.Break, B e.Pict, I e.Conj, I e.East]] c0.w (Post c0 fun c v => Own c G ((Eb b 158 [r0_0, r0_1, r0_2, r0_3, r0_4, r0_5, B a.some, I a.last, I a.pict, I a.conj, B a.odd, r0_11]) :: F) ∧ v = B r) := by
 unfold f_seg_State_joins__feed_Feeder_6 at H
 refine en func231 rfl rfl (sr (me (bx 33 [I e.Break, B e.Pict, I e.Conj, I e.East] O0) ?_))
 rintro v5 s l4 ⟨p, rfl, q, M⟩
 refine va (B false) (wln (W.seq (sr (va (.pointer (some ⟨b, 6, none⟩)) (va (.pointer (some ⟨b, 6, none⟩)) (va (.pointer (some ⟨b, 6, none⟩)) (vx (le1 6 underlying4 (q.on 0 rfl)) (va (B (!a.some)) (wln (cn H (fun h6 H => ?_) (fun h6 H => ?_)))))))))))
 ·refine sr (va (B false) (wln (W.ret (thr ?_))))
  obtain rfl := si H
  exact r1 ⟨_, s, rfl, rfl, pt, q, rfl⟩
 refine W.skip (nrm (W.seq (W.block (bn H fun P f d => W.seqJ (Jn s fun c l => Own c G ((Eb b 158 [r0_0, r0_1, r0_2, r0_3, r0_4, r0_5, B a.some, I a.last, I a.pict, I a.conj, B a.odd, r0_11]) :: F) ∧ l = [(0, .pointer (some ⟨b, 6, none⟩)), (3, Q p), (10, B P)]) ?_ ?_))))
 ·refine W.seq (bn f fun z h9 f => W.join (Jn s fun c l => Own c G ((Eb b 158 [r0_0, r0_1, r0_2, r0_3, r0_4, r0_5, B a.some, I a.last, I a.pict, I a.conj, B a.odd, r0_11]) :: F) ∧ l = [(0, .pointer (some ⟨b, 6, none⟩)), (3, Q p), (10, B z)]) ?_ ?_)
  ·clear f
   refine W.region (va (.pointer (some ⟨p, 0 + 2, none⟩)) (vx (l1 underlying3 (M 2 _ rfl)) (va (B (e.Conj == 1)) ?_)))
   rcases bo (e.Conj == 1) with j | j
   ·have R := anT j h9
    refine vb j (wn (va (.pointer (some ⟨b, 6, none⟩)) (wn (va (.pointer (some ⟨b, 6, none⟩)) (wn (va (.pointer (some ⟨b, 9, none⟩)) (wn (vx (le1 9 underlying3 (q.on 0 rfl)) (wn (va (B (a.conj == 2)) ?_))))))))))
    obtain rfl := si R
    exact va (B (a.conj == 2)) (va (B (a.conj == 2)) (wln ⟨s, _, _, rfl, pt, us, q, rfl⟩))
   obtain rfl := anF j h9
   exact vb j (ps (ps (ps (ps (ps (va (B false) (va (B false) (wln ⟨s, _, _, rfl, pt, us, q, rfl⟩))))))))
  rintro E N ⟨o, u0, _, rfl, y0, rfl, n, rfl⟩
  refine nrm (cn f (fun e0 f => ?_) (fun e0 f => ?_))
  ·refine W.skip (nrm ?_)
   obtain rfl := si f
   exact ⟨o, _, _, rfl, pt, us, n, rfl⟩
  refine bn f fun A x f => W.join (Jn o fun c l => Own c G ((Eb b 158 [r0_0, r0_1, r0_2, r0_3, r0_4, r0_5, B a.some, I a.last, I a.pict, I a.conj, B a.odd, r0_11]) :: F) ∧ l = [(0, .pointer (some ⟨b, 6, none⟩)), (3, Q p), (10, B A)]) ?_ ?_
  ·clear f
   refine W.region (va (.pointer (some ⟨p, 0 + 1, none⟩)) (vx (l1 underlying4 ((mm M) 1 _ rfl)) ?_))
   rcases bo (e.Pict) with k | k
   ·have S := anT k x
    refine vb k (wn (va (.pointer (some ⟨b, 6, none⟩)) (wn (va (.pointer (some ⟨b, 6, none⟩)) (wn (va (.pointer (some ⟨b, 8, none⟩)) (wn (vx (le1 8 underlying3 (n.on 0 rfl)) (wn (va (B (a.pict == 2)) ?_))))))))))
    obtain rfl := si S
    exact va (B (a.pict == 2)) (va (B (a.pict == 2)) (wln ⟨o, _, _, rfl, pt, us, n, rfl⟩))
   obtain rfl := anF k x
   exact vb k (ps (ps (ps (ps (ps (va (B false) (va (B false) (wln ⟨o, _, _, rfl, pt, us, n, rfl⟩))))))))
  rintro E N ⟨Z, v0, _, rfl, z0, rfl, U, rfl⟩
  refine nrm ?_
  obtain rfl := si f
  exact ⟨Z, _, _, rfl, pt, us, U, rfl⟩
 rintro E N ⟨a0, w0, _, rfl, a1, rfl, t, rfl⟩
 refine cn d (fun f0 d => ?_) (fun f0 d => ?_)
 ·refine sr (va (B true) (wln (W.ret (bkr (thr ?_)))))
  obtain rfl := si d
  exact r1 ⟨_, a0, rfl, rfl, pt, t, rfl⟩
 refine W.skip (bkn (nrm (W.seq (W.seq (rD [] (Kp G0 [(Eb b 158 [r0_0, r0_1, r0_2, r0_3, r0_4, r0_5, B a.some, I a.last, I a.pict, I a.conj, B a.odd, r0_11])]) t ?_)))))
 intro b0 c1 u
 have l0 : Kp G0 [(Eb b 158 [r0_0, r0_1, r0_2, r0_3, r0_4, r0_5, B a.some, I a.last, I a.pict, I a.conj, B a.odd, r0_11])] b0 := (Kp.cons (u.on 0 rfl) Kp.nil0)
 refine ta 0 (.pointer (some ⟨b, 6, none⟩)) (ta 1 (.pointer (some ⟨b, 6, none⟩)) (ta 2 (.pointer (some ⟨b, 7, none⟩)) (tkx 3 l0 (fun c' k0 hk => le1 7 underlying3 (hk.on 0 rfl)) (ta 4 (Q p) (tx 5 (fun c' k0 => l1 underlying3 ((mm M) 0 _ rfl)) (bn d fun i g0 d => o1 6 (gc 6 (c_pairs_Join u a.last e.Break g0) ?_)))))))
 rintro v44 h d1 ⟨g, rfl⟩
 have m0 : Kp G0 [(Eb b 158 [r0_0, r0_1, r0_2, r0_3, r0_4, r0_5, B a.some, I a.last, I a.pict, I a.conj, B a.odd, r0_11])] h := (Kp.cons (g.on 0 rfl) Kp.nil0)
 refine ⟨.inr m0, dn (nrm (W.block (sr (va (B (i == 1)) (va (B (i == 1)) (wln (cn d (fun h0 d => ?_) (fun h0 d => ?_))))))))⟩
 ·refine sr (va (B true) (wln (W.ret (bkr (thr ?_)))))
  obtain rfl := si d
  exact r1 ⟨_, h, rfl, rfl, pt, g, rfl⟩
 refine sr (va (B (i == 2)) (va (B (i == 2)) (wln (cn d (fun i0 d => ?_) (fun i0 d => ?_)))))
 ·refine W.seq (bn d fun D y d => W.join (Jn h fun c l => Own c G ((Eb b 158 [r0_0, r0_1, r0_2, r0_3, r0_4, r0_5, B a.some, I a.last, I a.pict, I a.conj, B a.odd, r0_11]) :: F) ∧ l = [(4, B D)]) ?_ ?_)
  ·clear d
   refine W.region (va (.pointer (some ⟨b, 6, none⟩)) (va (.pointer (some ⟨b, 6, none⟩)) (va (.pointer (some ⟨b, 7, none⟩)) (vx (le1 7 underlying3 (g.on 0 rfl)) (va (B (a.last == 6)) ?_)))))
   rcases bo (a.last == 6) with m | m
   ·have T := anT m y
    refine vb m (wn (va (.pointer (some ⟨b, 6, none⟩)) (wn (va (.pointer (some ⟨b, 6, none⟩)) (wn (va (.pointer (some ⟨b, 10, none⟩)) (wn (vx (le1 10 underlying4 (g.on 0 rfl)) ?_))))))))
    obtain rfl := si T
    exact va (B a.odd) (va (B a.odd) (wln ⟨h, _, _, rfl, pt, us, g, rfl⟩))
   obtain rfl := anF m y
   exact vb m (ps (ps (ps (ps (va (B false) (va (B false) (wln ⟨h, _, _, rfl, pt, us, g, rfl⟩)))))))
  rintro E N ⟨d0, x0, _, rfl, e1, rfl, X, rfl⟩
  refine nrm (W.ret (bkr (thr ?_)))
  obtain rfl := si d
  exact r1 ⟨_, d0, rfl, rfl, pt, X, rfl⟩
 refine W.skip (bkn (nrm (sr (va (B false) (wln (W.ret ?_))))))
 obtain rfl := si d
 exact r1 ⟨_, h, rfl, rfl, pt, g, rfl⟩
def f_seg_State_picture__feed_Feeder_6 (p0 : G_seg_State) (p1 : G_api_Prop) : Option (Int) :=
 if p1.Pict = true then
 some 1
 else
 (andE (p0.pict == 1) (some (p1.Break == 4))).bind fun a =>
 if a = true then
 some 1
 else
 (andE (p0.pict == 1) (some (p1.Break == 5))).bind fun b =>
 if b = true then
 some 2
 else
 some 0
theorem c_seg_State_picture__feed_Feeder_6 {b : Nat} {r0_0 : Value} {r0_1 : Value} {r0_2 : Value} {r0_3 : Value} {r0_4 : Value} {r0_5 : Value} {r0_11 : Value} (a : G_seg_State) (d : G_api_Prop) (A : Own c0 G ((Eb b 158 [r0_0, r0_1, r0_2, r0_3, r0_4, r0_5, B a.some, I a.last, I a.pict, I a.conj, B a.odd, r0_11]) :: F)) {r : Int} (H : f_seg_State_picture__feed_Feeder_6 a d = some r) :
    Calls prog 232 #[.pointer (some ⟨b, 6, none⟩), .agg #[I d.Break, B d.Pict, I d.Conj, I d.East]] c0.w (Post c0 fun c v => Own c G ((Eb b 158 [r0_0, r0_1, r0_2, r0_3, r0_4, r0_5, B a.some, I a.last, I a.pict, I a.conj, B a.odd, r0_11]) :: F) ∧ v = I r) := by
 unfold f_seg_State_picture__feed_Feeder_6 at H
 refine en func232 rfl rfl (sr (me (bx 33 [I d.Break, B d.Pict, I d.Conj, I d.East] A) ?_))
 rintro v5 k T ⟨j, rfl, i, s⟩
 refine va (I 0) (wln (W.seq (W.block (sr (va (.pointer (some ⟨j, 0 + 1, none⟩)) (vx (l1 underlying4 (s 1 _ rfl)) (va (B d.Pict) (wln (cn H (fun E H => ?_) (fun E H => ?_))))))))))
 ·refine sr (va (I 1) (wln (W.ret (bkr (thr ?_)))))
  obtain rfl := si H
  exact r1 ⟨_, k, rfl, rfl, pt, i, rfl⟩
 refine W.seq (bn H fun p y H => W.join (Jn k fun c l => Own c G ((Eb b 158 [r0_0, r0_1, r0_2, r0_3, r0_4, r0_5, B a.some, I a.last, I a.pict, I a.conj, B a.odd, r0_11]) :: F) ∧ l = [(0, .pointer (some ⟨b, 6, none⟩)), (3, Q j), (8, B p)]) ?_ ?_)
 ·clear H
  refine W.region (va (.pointer (some ⟨b, 6, none⟩)) (va (.pointer (some ⟨b, 6, none⟩)) (va (.pointer (some ⟨b, 8, none⟩)) (vx (le1 8 underlying3 (i.on 0 rfl)) (va (B (a.pict == 1)) ?_)))))
  rcases bo (a.pict == 1) with h | h
  ·have z := anT h y
   refine vb h (wn (va (Q j) (wn (vx (l1 underlying3 (s 0 _ rfl)) (wn (va (B (d.Break == 4)) ?_))))))
   obtain rfl := si z
   exact va (B (d.Break == 4)) (va (B (d.Break == 4)) (wln ⟨k, _, _, rfl, pt, us, i, rfl⟩))
  obtain rfl := anF h y
  exact vb h (ps (ps (ps (va (B false) (va (B false) (wln ⟨k, _, _, rfl, pt, us, i, rfl⟩))))))
 rintro D M ⟨g, N, _, rfl, R, rfl, f, rfl⟩
 refine nrm (cn H (fun u H => ?_) (fun u H => ?_))
 ·refine sr (va (I 1) (wln (W.ret (bkr (thr ?_)))))
  obtain rfl := si H
  exact r1 ⟨_, g, rfl, rfl, pt, f, rfl⟩
 refine W.seq (bn H fun q o H => W.join (Jn g fun c l => Own c G ((Eb b 158 [r0_0, r0_1, r0_2, r0_3, r0_4, r0_5, B a.some, I a.last, I a.pict, I a.conj, B a.odd, r0_11]) :: F) ∧ l = [(19, B q)]) ?_ ?_)
 ·clear H
  refine W.region (va (.pointer (some ⟨b, 6, none⟩)) (va (.pointer (some ⟨b, 6, none⟩)) (va (.pointer (some ⟨b, 8, none⟩)) (vx (le1 8 underlying3 (f.on 0 rfl)) (va (B (a.pict == 1)) ?_)))))
  rcases bo (a.pict == 1) with e | e
  ·have t := anT e o
   refine vb e (wn (va (Q j) (wn (vx (l1 underlying3 ((mm s) 0 _ rfl)) (wn (va (B (d.Break == 5)) ?_))))))
   obtain rfl := si t
   exact va (B (d.Break == 5)) (va (B (d.Break == 5)) (wln ⟨g, _, _, rfl, pt, us, f, rfl⟩))
  obtain rfl := anF e o
  exact vb e (ps (ps (ps (va (B false) (va (B false) (wln ⟨g, _, _, rfl, pt, us, f, rfl⟩))))))
 rintro D M ⟨n, P, _, rfl, S, rfl, m, rfl⟩
 refine nrm (cn H (fun x H => ?_) (fun x H => ?_))
 ·refine sr (va (I 2) (wln (W.ret (bkr (thr ?_)))))
  obtain rfl := si H
  exact r1 ⟨_, n, rfl, rfl, pt, m, rfl⟩
 refine W.skip (bkn (nrm (sr (va (I 0) (wln (W.ret ?_))))))
 obtain rfl := si H
 exact r1 ⟨_, n, rfl, rfl, pt, m, rfl⟩
def f_seg_State_conjunct__feed_Feeder_6 (p0 : G_seg_State) (p1 : G_api_Prop) : Option (Int) :=
 if (p1.Conj == 1) = true then
 some 1
 else
 if (p0.conj == 0) = true then
 some 0
 else
 if (p1.Conj == 2) = true then
 some 2
 else
 if (p1.Conj == 3) = true then
 some p0.conj
 else
 some 0
theorem c_seg_State_conjunct__feed_Feeder_6 {b : Nat} {r0_0 : Value} {r0_1 : Value} {r0_2 : Value} {r0_3 : Value} {r0_4 : Value} {r0_5 : Value} {r0_11 : Value} (d : G_seg_State) (a : G_api_Prop) (i : Own c0 G ((Eb b 158 [r0_0, r0_1, r0_2, r0_3, r0_4, r0_5, B d.some, I d.last, I d.pict, I d.conj, B d.odd, r0_11]) :: F)) {r : Int} (H : f_seg_State_conjunct__feed_Feeder_6 d a = some r) :
    Calls prog 233 #[.pointer (some ⟨b, 6, none⟩), .agg #[I a.Break, B a.Pict, I a.Conj, I a.East]] c0.w (Post c0 fun c v => Own c G ((Eb b 158 [r0_0, r0_1, r0_2, r0_3, r0_4, r0_5, B d.some, I d.last, I d.pict, I d.conj, B d.odd, r0_11]) :: F) ∧ v = I r) := by
 unfold f_seg_State_conjunct__feed_Feeder_6 at H
 refine en func233 rfl rfl (sr (me (bx 33 [I a.Break, B a.Pict, I a.Conj, I a.East] i) ?_))
 rintro v5 f n ⟨g, rfl, e, h⟩
 refine va (I 0) (wln (W.seq (W.block (sr (va (.pointer (some ⟨g, 0 + 2, none⟩)) (vx (l1 underlying3 (h 2 _ rfl)) (va (B (a.Conj == 1)) (va (B (a.Conj == 1)) (wln (cn H (fun j H => ?_) (fun j H => ?_)))))))))))
 ·refine sr (va (I 1) (wln (W.ret (bkr (thr ?_)))))
  obtain rfl := si H
  exact r1 ⟨_, f, rfl, rfl, pt, e, rfl⟩
 refine sr (va (.pointer (some ⟨b, 6, none⟩)) (va (.pointer (some ⟨b, 6, none⟩)) (va (.pointer (some ⟨b, 9, none⟩)) (vx (le1 9 underlying3 (e.on 0 rfl)) (va (B (d.conj == 0)) (va (B (d.conj == 0)) (wln (cn H (fun k H => ?_) (fun k H => ?_)))))))))
 ·refine sr (va (I 0) (wln (W.ret (bkr (thr ?_)))))
  obtain rfl := si H
  exact r1 ⟨_, f, rfl, rfl, pt, e, rfl⟩
 refine sr (va (.pointer (some ⟨g, 0 + 2, none⟩)) (vx (l1 underlying3 (h 2 _ rfl)) (va (B (a.Conj == 2)) (va (B (a.Conj == 2)) (wln (cn H (fun l H => ?_) (fun l H => ?_)))))))
 ·refine sr (va (I 2) (wln (W.ret (bkr (thr ?_)))))
  obtain rfl := si H
  exact r1 ⟨_, f, rfl, rfl, pt, e, rfl⟩
 refine sr (va (.pointer (some ⟨g, 0 + 2, none⟩)) (vx (l1 underlying3 (h 2 _ rfl)) (va (B (a.Conj == 3)) (va (B (a.Conj == 3)) (wln (cn H (fun m H => ?_) (fun m H => ?_)))))))
 ·refine sr (va (.pointer (some ⟨b, 6, none⟩)) (va (.pointer (some ⟨b, 6, none⟩)) (va (.pointer (some ⟨b, 9, none⟩)) (vx (le1 9 underlying3 (e.on 0 rfl)) (va (I d.conj) (wln (W.ret (bkr (thr ?_)))))))))
  obtain rfl := si H
  exact r1 ⟨_, f, rfl, rfl, pt, e, rfl⟩
 refine W.skip (bkn (nrm (sr (va (I 0) (wln (W.ret ?_))))))
 obtain rfl := si H
 exact r1 ⟨_, f, rfl, rfl, pt, e, rfl⟩
def f_seg_State_Step__feed_Feeder_6 (p0 : G_seg_State) (p1 : G_api_Prop) : Option (G_seg_State × Bool) :=
 if false = true then
 some (p0, false)
 else
 (f_seg_State_joins__feed_Feeder_6 p0 p1).bind fun d =>
 (f_seg_State_picture__feed_Feeder_6 p0 p1).bind fun e =>
 (f_seg_State_conjunct__feed_Feeder_6 p0 p1).bind fun f =>
 (andE (p1.Break == 6) ((andE p0.some (some (p0.last == 6))).bind fun b =>
 (andE b (some p0.odd)).bind fun c =>
 some (!c))).bind fun a =>
 some ((⟨true, p1.Break, e, f, a⟩ : G_seg_State), d)
theorem c_seg_State_Step__feed_Feeder_6 {a : Nat} {r0_0 : Value} {r0_1 : Value} {r0_2 : Value} {r0_3 : Value} {r0_4 : Value} {r0_5 : Value} {r0_11 : Value} (b : G_seg_State) (f : G_api_Prop) (O0 : Own c0 G ((Eb a 158 [r0_0, r0_1, r0_2, r0_3, r0_4, r0_5, B b.some, I b.last, I b.pict, I b.conj, B b.odd, r0_11]) :: F)) {r : G_seg_State × Bool} (H : f_seg_State_Step__feed_Feeder_6 b f = some r) :
    Calls prog 183 #[.pointer (some ⟨a, 6, none⟩), .agg #[I f.Break, B f.Pict, I f.Conj, I f.East]] c0.w (Post c0 fun c v => Own c G ((Eb a 158 [r0_0, r0_1, r0_2, r0_3, r0_4, r0_5, B r.1.some, I r.1.last, I r.1.pict, I r.1.conj, B r.1.odd, r0_11]) :: F) ∧ v = B r.2) := by
 unfold f_seg_State_Step__feed_Feeder_6 at H
 refine en func183 rfl rfl (sr (me (bx 33 [I f.Break, B f.Pict, I f.Conj, I f.East] O0) ?_))
 rintro v5 c4 l4 ⟨A, rfl, O2, o⟩
 refine va (B false) (wln (W.seq (sr (va (.pointer (some ⟨a, 6, none⟩)) (va (B false) (wln (W.cond (t := false) (by kernel_rfl) (fun E => ?_) (fun E => ?_))))))))
 ·cases E
 have H := ie E H
 refine W.skip (nrm (sr (va (.pointer (some ⟨a, 6, none⟩)) (vx (lN 33 o) (bn H fun i h8 H => cl (c_seg_State_joins__feed_Feeder_6 b f O2 h8) ?_)))))
 rintro v14 j1 n1 ⟨P, rfl⟩
 refine va (B i) (wln (W.seq (rD [] (Kp G0 []) P ?_)))
 intro i0 q1 R
 have e2 : Kp G0 [] i0 := Kp.nil0
 refine ta 0 (.pointer (some ⟨a, 6, none⟩)) (ta 1 (.pointer (some ⟨a, 6, none⟩)) (ta 2 (.pointer (some ⟨a, 6, none⟩)) (tx 3 (fun c' z => lN 33 (mm o)) (ta 5 (.pointer (some ⟨a, 6, none⟩)) (tx 6 (fun c' z => lN 33 (mm o)) (bn H fun d v0 H => o1 4 (gc 4 (c_seg_State_picture__feed_Feeder_6 b f R v0) ?_)))))))
 rintro v25 j0 s1 ⟨S, rfl⟩
 have y0 : Kp G0 [] j0 := Kp.nil0
 refine ⟨.inr y0, bn H fun e w0 H => o1 7 (gc 7 (c_seg_State_conjunct__feed_Feeder_6 b f S w0) ?_)⟩
 rintro v34 k0 t1 ⟨T, rfl⟩
 have z0 : Kp G0 [] k0 := Kp.nil0
 refine ⟨.inr z0, ta 8 (.pointer (some ⟨a, 6, none⟩)) (ta 9 (.pointer (some ⟨a, 8, none⟩)) (o1 10 (gD 10 (sC 3 8 (I d) [r0_0, r0_1, r0_2, r0_3, r0_4, r0_5, B b.some, I b.last, I d, I b.conj, B b.odd, r0_11] 0 T ⟨rfl, trivial⟩) ?_)))⟩
 rintro l0 u1 U
 have a1 : Kp G0 [] l0 := Kp.nil0
 refine ⟨.inr a1, ta 11 (.pointer (some ⟨a, 6, none⟩)) (ta 12 (.pointer (some ⟨a, 9, none⟩)) (o1 13 (gD 13 (sC 3 9 (I e) [r0_0, r0_1, r0_2, r0_3, r0_4, r0_5, B b.some, I b.last, I d, I e, B b.odd, r0_11] 0 U ⟨rfl, trivial⟩) ?_)))⟩
 rintro p v1 h
 have c1 : Kp G0 [] p := Kp.nil0
 refine ⟨.inr c1, dn (nrm (W.seq (bn H fun n s H => W.join (Jn p fun c l => Own c G ((Eb a 158 [r0_0, r0_1, r0_2, r0_3, r0_4, r0_5, B b.some, I b.last, I d, I e, B n, r0_11]) :: F) ∧ l = [(0, .pointer (some ⟨a, 6, none⟩)), (3, Q A), (5, B i)]) ?_ ?_)))⟩
 ·clear H
  refine W.region (va (.pointer (some ⟨a, 6, none⟩)) (va (Q A) (vx (l1 underlying3 ((mm o) 0 _ rfl)) (va (B (f.Break == 6)) ?_))))
  rcases bo (f.Break == 6) with j | j
  ·have g := anT j s
   refine vb j (wn (va (.pointer (some ⟨a, 6, none⟩)) (wn (va (.pointer (some ⟨a, 6, none⟩)) (wn (va (.pointer (some ⟨a, 6, none⟩)) (wn (vx (le1 6 underlying4 (h.on 0 rfl)) (wn (bn g fun h1 u g => ?_))))))))))
   rcases bo (b.some) with k | k
   ·have M := anT k u
    refine vb k (wn (va (.pointer (some ⟨a, 6, none⟩)) (wn (va (.pointer (some ⟨a, 6, none⟩)) (wn (va (.pointer (some ⟨a, 7, none⟩)) (wn (vx (le1 7 underlying3 (h.on 0 rfl)) (wn (va (B (b.last == 6)) (wn ?_)))))))))))
    obtain rfl := si M
    refine va (B (b.last == 6)) (wn (bn g fun D x g => ?_))
    rcases bo (b.last == 6) with m | m
    ·have N := anT m x
     refine vb m (wn (va (.pointer (some ⟨a, 6, none⟩)) (wn (va (.pointer (some ⟨a, 6, none⟩)) (wn (va (.pointer (some ⟨a, 10, none⟩)) (wn (vx (le1 10 underlying4 (h.on 0 rfl)) (wn ?_)))))))))
     obtain rfl := si N
     refine va (B b.odd) (wn (va (B (!b.odd)) ?_))
     obtain rfl := si g
     refine va (B (!b.odd)) (va (.pointer (some ⟨a, 6, none⟩)) (va (.pointer (some ⟨a, 10, none⟩)) (md (sC 4 10 (B (!b.odd)) [r0_0, r0_1, r0_2, r0_3, r0_4, r0_5, B b.some, I b.last, I d, I e, B (!b.odd), r0_11] 0 h ⟨rfl, trivial⟩) ?_)))
     rintro m0 w1 X
     exact wln ⟨m0, _, _, rfl, pt, us, X, rfl⟩
    obtain rfl := anF m x
    refine vb m (ps (ps (ps (ps (wn (va (B false) (wn (va (B (!false)) ?_))))))))
    obtain rfl := si g
    refine va (B (!false)) (va (.pointer (some ⟨a, 6, none⟩)) (va (.pointer (some ⟨a, 10, none⟩)) (md (sC 4 10 (B (!false)) [r0_0, r0_1, r0_2, r0_3, r0_4, r0_5, B b.some, I b.last, I d, I e, B (!false), r0_11] 0 h ⟨rfl, trivial⟩) ?_)))
    rintro o0 x1 Z
    exact wln ⟨o0, _, _, rfl, pt, us, Z, rfl⟩
   obtain rfl := anF k u
   refine vb k (ps (ps (ps (ps (ps (wn (va (B false) (wn (bn g fun D x0 g => ?_)))))))))
   have y : false = false := rfl
   obtain rfl := anF y x0
   refine vb y (ps (ps (ps (ps (wn (va (B false) (wn (va (B (!false)) ?_))))))))
   obtain rfl := si g
   refine va (B (!false)) (va (.pointer (some ⟨a, 6, none⟩)) (va (.pointer (some ⟨a, 10, none⟩)) (md (sC 4 10 (B (!false)) [r0_0, r0_1, r0_2, r0_3, r0_4, r0_5, B b.some, I b.last, I d, I e, B (!false), r0_11] 0 h ⟨rfl, trivial⟩) ?_)))
   rintro q0 y1 a0
   exact wln ⟨q0, _, _, rfl, pt, us, a0, rfl⟩
  obtain rfl := anF j s
  refine vb j (ps (ps (ps (ps (ps (ps (ps (ps (ps (ps (ps (ps (ps (ps (ps (ps (ps (ps (va (B false) (va (.pointer (some ⟨a, 6, none⟩)) (va (.pointer (some ⟨a, 10, none⟩)) (md (sC 4 10 (B false) [r0_0, r0_1, r0_2, r0_3, r0_4, r0_5, B b.some, I b.last, I d, I e, B false, r0_11] 0 h ⟨rfl, trivial⟩) ?_))))))))))))))))))))))
  rintro s0 z1 b0
  exact wln ⟨s0, _, _, rfl, pt, us, b0, rfl⟩
 rintro e_ w_ ⟨k1, m1, _, rfl, a2, rfl, d0, rfl⟩
 refine nrm (W.seq (rD [] (Kp G0 []) d0 ?_))
 intro t0 b2 e0
 have f2 : Kp G0 [] t0 := Kp.nil0
 refine ta 0 (.pointer (some ⟨a, 6, none⟩)) (ta 1 (.pointer (some ⟨a, 6, none⟩)) (ta 2 (Q A) (tx 3 (fun c' z => l1 underlying3 ((mm o) 0 _ rfl)) (ta 4 (.pointer (some ⟨a, 6, none⟩)) (ta 5 (.pointer (some ⟨a, 6, none⟩)) (o1 6 (gD 6 (sC 4 6 (B true) [r0_0, r0_1, r0_2, r0_3, r0_4, r0_5, B true, I b.last, I d, I e, B n, r0_11] 0 e0 ⟨rfl, trivial⟩) ?_)))))))
 rintro u0 c2 f0
 have d1 : Kp G0 [] u0 := Kp.nil0
 refine ⟨.inr d1, ta 7 (.pointer (some ⟨a, 6, none⟩)) (ta 8 (.pointer (some ⟨a, 7, none⟩)) (o1 9 (gD 9 (sC 3 7 (I f.Break) [r0_0, r0_1, r0_2, r0_3, r0_4, r0_5, B true, I f.Break, I d, I e, B n, r0_11] 0 f0 ⟨rfl, trivial⟩) ?_)))⟩
 rintro q d2 g0
 have e1 : Kp G0 [] q := Kp.nil0
 refine ⟨.inr e1, dn (nrm (sr (va (B i) (va (B i) (wln (W.ret ?_))))))⟩
 obtain rfl := si H
 exact r1 ⟨_, q, rfl, rfl, pt, g0, rfl⟩
def f_seg_State_Reset__feed_Feeder_6 (p0 : G_seg_State) : Option (G_seg_State) :=
 if true = true then
 some (⟨false, 0, 0, 0, false⟩ : G_seg_State)
 else
 some p0
theorem c_seg_State_Reset__feed_Feeder_6 {a : Nat} {r0_0 : Value} {r0_1 : Value} {r0_2 : Value} {r0_3 : Value} {r0_4 : Value} {r0_5 : Value} {r0_11 : Value} (b : G_seg_State) (e : Own c0 G ((Eb a 158 [r0_0, r0_1, r0_2, r0_3, r0_4, r0_5, B b.some, I b.last, I b.pict, I b.conj, B b.odd, r0_11]) :: F)) {r : G_seg_State} (H : f_seg_State_Reset__feed_Feeder_6 b = some r) :
    Calls prog 111 #[.pointer (some ⟨a, 6, none⟩)] c0.w (Post c0 fun c v => Own c G ((Eb a 158 [r0_0, r0_1, r0_2, r0_3, r0_4, r0_5, B r.some, I r.last, I r.pict, I r.conj, B r.odd, r0_11]) :: F) ∧ v = .tuple #[]) := by
 unfold f_seg_State_Reset__feed_Feeder_6 at H
 refine en func111 rfl rfl (sr (va (.pointer (some ⟨a, 6, none⟩)) (va (B true) (wln (W.cond (t := true) (by kernel_rfl) (fun d => ?_) (fun d => ?_))))))
 ·have H := it d H
  refine W.region (va (.pointer (some ⟨a, 6, none⟩)) (va (.agg #[B false, I 0, I 0, I 0, B false]) (va (.pointer (some ⟨a, 6, none⟩)) (md (sB 156 6 [B false, I 0, I 0, I 0, B false] [r0_0, r0_1, r0_2, r0_3, r0_4, r0_5, B false, I 0, I 0, I 0, B false, r0_11] 0 e ⟨rfl, rfl, rfl, rfl, rfl, trivial⟩) ?_))))
  rintro g h f
  refine WL.nil ?_
  obtain rfl := si H
  exact n0 ⟨_, g, rfl, rfl, pt, f, rfl⟩
 cases d
def f_feed_Feeder_Close (sg : Sto) (p0 : Option Nat) : Option (Sto) :=
 if (!p0.isNone) = true then
 (p0).bind fun c =>
 (sg.feed_Feeder[c]?).bind fun a =>
 (sg.set_feed_Feeder c (⟨a.pen, a.dec, a.seg, (none : Option Nat)⟩ : G_feed_Feeder)).bind fun d =>
 (f_seg_State_Reset__feed_Feeder_6 a.seg).bind fun e =>
 (d.set_feed_Feeder c (⟨a.pen, a.dec, e, (none : Option Nat)⟩ : G_feed_Feeder)).bind fun b =>
 some b
 else
 some sg
theorem c_feed_Feeder_Close (n : Own c0 G F) (i : Rel c0 sg G) (k : Option Nat) {r : Sto} (M : Pt 4 c0 v1 k) (H : f_feed_Feeder_Close sg k = some r) :
    Calls prog 40 #[v1] c0.w (Post c0 fun c v => ∃ G_ : Gm, Own c G_ (F) ∧ Rel c r G_ ∧ v = .tuple #[]) := by
 unfold f_feed_Feeder_Close at H
 refine en func40 rfl rfl (sr (va (v1) (vr (B (!k.isNone)) (by rcases (M).cs with ⟨f, g⟩ | ⟨b_, f, g⟩ <;> (subst f; rw [g]; kernel_rfl)) (wln (cn H (fun T H => ?_) (fun T H => ?_))))))
 ·refine sr (va (v1) (bn H fun g0 U H => ?_))
  obtain ⟨d, rfl, j⟩ := (M).get U
  refine va (Q d) (va (.pointer (some ⟨d, 11, none⟩)) (bn H fun a X H => ?_))
  obtain ⟨v8, v10, A, R, e0⟩ := Rel.open_feed_Feeder i X j
  refine md (gC 44 11 (.pointer none) [v8, I a.dec.held, I a.dec.needs, .int .u8 a.dec.lo, .int .u8 a.dec.hi, I a.dec.bits, B a.seg.some, I a.seg.last, I a.seg.pict, I a.seg.conj, B a.seg.odd, .pointer none] 0 n A ⟨rfl, trivial⟩) ?_
  rintro d0 e o
  refine bn H fun S E H => ?_
  obtain ⟨Z, p, x, D, a0⟩ := Rel.put_feed_Feeder o (i.mono e) (E' := [(Eb d 158 [v8, I a.dec.held, I a.dec.needs, .int .u8 a.dec.lo, .int .u8 a.dec.hi, I a.dec.bits, B a.seg.some, I a.seg.last, I a.seg.pict, I a.seg.conj, B a.seg.odd, .pointer none])]) E ⟨d, v8, (.pointer none), (tm j), rfl, (R.mono e), rfl⟩
  refine wln (W.region (va (Q d) (va (Q d) (va (.pointer (some ⟨d, 6, none⟩)) ?_))))
  have q := p.borrow 0 D rfl
  refine bn H fun b N H => cl (c_seg_State_Reset__feed_Feeder_6 a.seg q N) ?_
  rintro v29 z h ⟨s, rfl⟩
  have t := s.giveB 0 rfl
  refine bn H fun l P H => ?_
  obtain ⟨m, u, y, f0, b0⟩ := Rel.put_feed_Feeder t (x.mono h) (E' := [(Eb d 158 [v8, I a.dec.held, I a.dec.needs, .int .u8 a.dec.lo, .int .u8 a.dec.hi, I a.dec.bits, B b.some, I b.last, I b.pict, I b.conj, B b.odd, .pointer none])]) P ⟨d, v8, (.pointer none), (tm j), rfl, (R.mono (e.trans h)), rfl⟩
  refine WL.nil ?_
  obtain rfl := si H
  exact n0 ⟨_, z, rfl, rfl, pt, m, u, y, rfl⟩
 refine W.skip ?_
 obtain rfl := si H
 exact n0 ⟨_, c0, rfl, rfl, pt, G, n, i, rfl⟩
def f_feed_Feeder_comes (sg : Sto) (p0 : Option Nat) (p1 : Int) : Option (Sto) :=
 (f_basew_Silent p1).bind fun s =>
 if s = true then
 (f_feed_Feeder_Close sg p0).bind fun k =>
 (p0).bind fun r =>
 (k.feed_Feeder[r]?).bind fun n =>
 (f_ctrl_Do k n.pen p1).bind fun p =>
 some p.1
 else
 (f_ucd_Of p1).bind fun e =>
 (p0).bind fun h =>
 (sg.feed_Feeder[h]?).bind fun a =>
 (f_seg_State_Step__feed_Feeder_6 a.seg e).bind fun j =>
 (sg.set_feed_Feeder h (⟨a.pen, a.dec, j.1, a.open_⟩ : G_feed_Feeder)).bind fun b =>
 (andE j.2 (some (!a.open_.isNone))).bind fun l =>
 if l = true then
 (p0).bind fun m =>
 (b.feed_Feeder[m]?).bind fun i =>
 (f_widen_Cluster_Join b i.open_ i.pen p1 e).bind fun q =>
 some q.1
 else
 (p0).bind fun c =>
 (b.feed_Feeder[c]?).bind fun o =>
 (f_widen_Begin b o.pen p1 e).bind fun f =>
 (f.1.feed_Feeder[c]?).bind fun d =>
 (f.1.set_feed_Feeder c (⟨d.pen, d.dec, d.seg, f.2⟩ : G_feed_Feeder)).bind fun g =>
 some g
theorem c_feed_Feeder_comes (O0 : Own c0 G F) (R0 : Rel c0 sg G) (hG : Gl [0, 4] c0) (p0 : Option Nat) (f : Int) {r : Sto} (U : Pt 4 c0 v1 p0) (H : f_feed_Feeder_comes sg p0 f = some r) :
    Calls prog 109 #[v1, J f] c0.w (Post c0 fun c v => ∃ G_ : Gm, Own c G_ (F) ∧ Rel c r G_ ∧ v = .tuple #[]) := by
 unfold f_feed_Feeder_comes at H
 refine en func109 rfl rfl (W.seq (sr (va (J f) (bn H fun e5 h3 H => cl (c_basew_Silent O0 f h3) ?_))))
 rintro v9 c8 N ⟨O5, rfl⟩
 refine wln (cn H (fun w2 H => ?_) (fun w2 H => ?_))
 ·refine sr (va (v1) (bn H fun f5 x2 H => cl (c_feed_Feeder_Close O5 R0.m p0 U.m x2) ?_))
  rintro v17 t4 l16 ⟨r4, g0, j0, rfl⟩
  refine wln (sr (va (v1) (bn H fun z4 z2 H => ?_)))
  obtain ⟨l0, rfl, y2⟩ := ((U.mono (N.trans l16))).get z2
  refine va (Q l0) (va (Q l0) (bn H fun z1 a3 H => ?_))
  obtain ⟨v22, v24, c3, b3, y4⟩ := Rel.open_feed_Feeder j0 a3 y2
  refine vx (le1 0 underlying40 (g0.gon c3 0 rfl)) (va (J f) (bn H fun o4 d3 H => cl (c_ctrl_Do g0 j0 z1.pen f b3 d3) ?_))
  rintro v33 s2 a5 ⟨d2, g2, q2, rfl⟩
  refine wln (W.ret (thr ?_))
  obtain rfl := si H
  exact r0 ⟨_, s2, rfl, rfl, pt, d2, g2, q2, rfl⟩
 refine W.skip (nrm (sr (va (J f) (bn H fun a e3 H => cl (c_ucd_Of O5 f e3) ?_))))
 rintro v40 u4 s ⟨i2, rfl⟩
 refine me (al 33 [I 0, B false, I 0, I 0] i2) ?_
 rintro v44 v4 t ⟨h, rfl, j2⟩
 refine md (sA 33 [I a.Break, B a.Pict, I a.Conj, I a.East] 0 j2 ⟨rfl, rfl, rfl, rfl, trivial⟩) ?_
 rintro t2 u k2
 refine wln (W.seq (W.seq (bn H fun e4 f3 H => bn H fun d g3 H => bn H fun g i3 H => bn H fun P j3 H => bn H fun k1 s0 H => W.join (Jn t2 fun c l => ∃ G_, Own c G_ ((Eb h 33 [I a.Break, B a.Pict, I a.Conj, I a.East]) :: F) ∧ l = [(0, v1), (1, J f), (4, Q h), (28, B k1)] ∧ Rel c P G_) ?_ ?_)))
 ·clear H
  refine rD [4, 9] (Kp G0 [(Eb h 33 [I a.Break, B a.Pict, I a.Conj, I a.East])]) k2 ?_
  intro u2 Z h0
  have v3 : Kp G0 [(Eb h 33 [I a.Break, B a.Pict, I a.Conj, I a.East])] u2 := (Kp.cons (h0.on 0 rfl) Kp.nil0)
  refine ta 0 (v1) ?_
  obtain ⟨j, rfl, t0⟩ := ((U.mono (N.trans (s.trans (t.trans (u.trans Z)))))).get f3
  refine ta 1 (Q j) (ta 2 (.pointer (some ⟨j, 6, none⟩)) (tkx 3 v3 (fun p i k => leN 33 0 [I a.Break, B a.Pict, I a.Conj, I a.East] (k.on 0 rfl)) ?_))
  obtain ⟨v57, v59, l3, k3, u0⟩ := Rel.open_feed_Feeder (R0.mono (N.trans (s.trans (t.trans (u.trans Z))))) g3 t0
  have m2 := h0.borrow 0 l3 rfl
  refine o1 4 (gc 4 (c_seg_State_Step__feed_Feeder_6 d.seg a m2 i3) ?_)
  rintro b5 m0 a0 ⟨n2, rfl⟩
  have o2 := n2.giveB 0 rfl
  obtain ⟨f0, R, k0, m3, s4⟩ := Rel.put_feed_Feeder o2 (R0.mono (N.trans (s.trans (t.trans (u.trans (Z.trans a0)))))) (E' := [(Eb j 158 [v57, I d.dec.held, I d.dec.needs, .int .u8 d.dec.lo, .int .u8 d.dec.hi, I d.dec.bits, B g.1.some, I g.1.last, I g.1.pict, I g.1.conj, B g.1.odd, v59])]) j3 ⟨j, v57, v59, (tm t0), rfl, (k3.mono a0), (u0.mono a0)⟩
  refine ⟨.inl rfl, ?_⟩
  rcases bo (g.2) with q | q
  ·have f2 := anT q s0
   refine AC.takeb 5 q rfl (by kernel_rfl) (by kernel_rfl) (fun p i => (by kernel_rfl)) (ta 6 (Q j) (ta 7 (Q j) (ta 8 (.pointer (some ⟨j, 11, none⟩)) (o1 9 (gl 9 (le1 11 underlying44 (R.gon m3 0 rfl)) (AC.take 10 (B (!d.open_.isNone)) rfl (by kernel_rfl) (by kernel_rfl) (fun p i => (by rcases u0.m.cs with ⟨o0, q0⟩ | ⟨b_, o0, q0⟩ <;> (subst o0; rw [q0]; kernel_rfl))) ?_))))))
   obtain rfl := si f2
   exact ta 11 (B (!d.open_.isNone)) (dn (nrm ⟨m0, _, _, rfl, pt, us, f0, R, rfl, k0⟩))
  obtain rfl := anF q s0
  exact AC.takeb 5 q rfl (by kernel_rfl) (by kernel_rfl) (fun p i => (by kernel_rfl)) (tp 6 (tp 7 (tp 8 (tp 9 (tp 10 (ta 11 (B false) (dn (nrm ⟨m0, _, _, rfl, pt, us, f0, R, rfl, k0⟩))))))))
 rintro e_ w_ ⟨w4, x4, _, rfl, w0, rfl, E, i0, rfl, M⟩
 refine nrm (cn H (fun n3 H => ?_) (fun n3 H => ?_))
 ·refine W.seq (rD [10] (Kp E [(Eb h 33 [I a.Break, B a.Pict, I a.Conj, I a.East])]) i0 ?_)
  intro v2 x0 S
  have e0 : Kp E [(Eb h 33 [I a.Break, B a.Pict, I a.Conj, I a.East])] v2 := (Kp.cons (S.on 0 rfl) (Kp.nil S))
  refine ta 0 (v1) (bn H fun f4 p3 H => ?_)
  obtain ⟨o, rfl, o3⟩ := ((U.mono (N.trans (s.trans (t.trans (u.trans (w0.trans x0))))))).get p3
  refine ta 1 (Q o) (ta 2 (.pointer (some ⟨o, 11, none⟩)) (bn H fun b0 q3 H => ?_))
  obtain ⟨c5, d5, v0, s3, t3⟩ := Rel.open_feed_Feeder (M.mono x0) q3 o3
  refine tkx 3 e0 (fun p i k => le1 11 underlying44 (k.gon v0 0 rfl)) (ta 4 (Q o) (ta 5 (Q o) (ta 6 (Q o) (tkx 7 e0 (fun p i k => le1 0 underlying40 (k.gon v0 0 rfl)) (ta 8 (J f) (tkx 9 e0 (fun p i k => leN 33 0 [I a.Break, B a.Pict, I a.Conj, I a.East] (k.on 0 rfl)) (bn H fun p4 u3 H => o1 10 (gc 10 (c_widen_Cluster_Join S M.m (hG.m.le (by decide)) b0.open_ b0.pen f a t3 s3 u3) ?_))))))))
  rintro j4 h1 h4 ⟨e2, p2, f1, rfl⟩
  refine ⟨.inl rfl, dn (nrm (W.ret (thr ?_)))⟩
  obtain rfl := si H
  have z0 := p2.sD 1 []
  exact r0 ⟨_, h1, rfl, rfl, pt, e2, z0, f1, rfl⟩
 refine W.skip (nrm (rD [7, 10] (Kp E [(Eb h 33 [I a.Break, B a.Pict, I a.Conj, I a.East])]) i0 ?_))
 intro i1 X x
 have d0 : Kp E [(Eb h 33 [I a.Break, B a.Pict, I a.Conj, I a.East])] i1 := (Kp.cons (x.on 0 rfl) (Kp.nil x))
 refine ta 0 (v1) (ta 1 (v1) (bn H fun g4 m1 H => ?_))
 obtain ⟨e, rfl, y⟩ := ((U.mono (N.trans (s.trans (t.trans (u.trans (w0.trans X))))))).get m1
 refine ta 2 (Q e) (ta 3 (Q e) (bn H fun a2 n1 H => ?_))
 obtain ⟨k4, l4, s1, q1, a4⟩ := Rel.open_feed_Feeder (M.mono X) n1 y
 refine tkx 4 d0 (fun p i k => le1 0 underlying40 (k.gon s1 0 rfl)) (ta 5 (J f) (tkx 6 d0 (fun p i k => leN 33 0 [I a.Break, B a.Pict, I a.Conj, I a.East] (k.on 0 rfl)) (bn H fun q4 t1 H => o1 7 (gc 7 (c_widen_Begin x M.m (hG.m.le (by decide)) a2.pen f a q1 t1) ?_))))
 rintro m4 z3 i4 ⟨_, w3, a1, T, rfl, z⟩
 refine ⟨.inl rfl, ta 8 (Q e) (ta 9 (.pointer (some ⟨e, 11, none⟩)) ?_)⟩
 obtain ⟨n, rfl⟩ := (z).form
 refine bn H fun b u1 H => ?_
 obtain ⟨D, n4, x1, w1, b4⟩ := Rel.open_feed_Feeder T u1 (tm y)
 refine o1 10 (gD 10 (gC 44 11 (.pointer n) [D, I b.dec.held, I b.dec.needs, .int .u8 b.dec.lo, .int .u8 b.dec.hi, I b.dec.bits, B b.seg.some, I b.seg.last, I b.seg.pict, I b.seg.conj, B b.seg.odd, .pointer n] 0 a1 x1 ⟨z.one, trivial⟩) ?_)
 rintro j1 A b1
 refine bn H fun c2 y1 H => ?_
 obtain ⟨y0, c1, g1, c4, y3⟩ := Rel.put_feed_Feeder b1 (T.mono A) (E' := [(Eb e 158 [D, I b.dec.held, I b.dec.needs, .int .u8 b.dec.lo, .int .u8 b.dec.hi, I b.dec.bits, B b.seg.some, I b.seg.last, I b.seg.pict, I b.seg.conj, B b.seg.odd, .pointer n])]) y1 ⟨e, D, (.pointer n), (tm y), rfl, (w1.mono A), (z.mono A)⟩
 refine ⟨.inl rfl, dn ?_⟩
 obtain rfl := si H
 have d1 := c1.sD 1 []
 exact n0 ⟨_, j1, rfl, rfl, pt, y0, d1, g1, rfl⟩
def f_feed_Feeder_all (sg : Sto) (p0 : Option Nat) (p1 : List Int) : Option (Sto) :=
 (iter (σ := Int × Sto) (τ := Sto) (((p1.length : Int) - 0).toNat + 1) (fun a =>
 if (decide (a.1 < (p1.length : Int))) = true then
 (idx p1 a.1).bind fun d =>
 (f_feed_Feeder_comes a.2 p0 d).bind fun b =>
 some (.inl ((w64 (a.1 + 1)), b))
 else
 some (.inr (a.2))) (0, sg)).bind fun c =>
 some c
theorem c_feed_Feeder_all (S : Own c0 G F) (T : Rel c0 sg G) (hG : Gl [0, 4] c0) (j : Option Nat) (d : List Int) {r : Sto} (Z : Pt 4 c0 v1 j) (h : Sl (RI .i32) c0 v3 d) (H : f_feed_Feeder_all sg j d = some r) :
    Calls prog 106 #[v1, v3] c0.w (Post c0 fun c v => ∃ G_ : Gm, Own c G_ (F) ∧ Rel c r G_ ∧ v = .tuple #[]) := by
 unfold f_feed_Feeder_all at H
 refine en func106 rfl rfl (sr (va (v3) (vx (ln 3 underlying27 h) (va (I 0) (wln (W.block (bn H fun i0 N p => lp N (fun a => Jn c0 fun c l => ∃ G_, Own c G_ (F) ∧ l = [(0, v1), (6, v3), (7, I (d.length : Int)), (8, I a.1)] ∧ Rel c a.2 G_) (fun i ex e w => ex = .exit 0 ∧ (Jn c0 fun c l => ∃ G_, Own c G_ (F) ∧ l = [] ∧ Rel c i G_) e w) ?_ ?_ ?_)))))))
 ·clear p N
  intro a j0 A R H
  revert A R
  rintro X w_ ⟨U, g8, _, rfl, l7, rfl, k, t, rfl, f⟩
  refine sr (va (B (decide (a.1 < (d.length : Int)))) (wln (W.seq (cn H (fun D H => ?_) (fun D H => ?_)))))
  ·refine W.skip (nrm (W.seq (W.block (sr (bn H fun b g H => ?_)))))
   obtain ⟨b0, E, P⟩ := Sl.at (h.mono l7) (idx_get g)
   obtain rfl := E
   refine vx (ix underlying27 h.m g) (vx (l1 underlying21 (P 0 _ rfl)) (va (J b) (wln (W.region (va (v1) (va (J b) (bn H fun e0 M H => cl (c_feed_Feeder_comes t f (hG.m.le (by decide)) j b Z.m M) ?_)))))))
   rintro v24 y g0 ⟨n, q, u, rfl⟩
   refine WL.nil (bkn (nrm (W.region (va (I (w64 (a.1 + 1))) (va (I (w64 (a.1 + 1))) (WL.nil ?_))))))
   obtain rfl := si H
   exact ⟨_, rfl, ⟨y, _, _, rfl, pt, us, n, q, rfl, u⟩⟩
  refine W.exit (thx ?_)
  obtain rfl := si H
  exact ⟨_, rfl, rfl, ⟨U, _, _, rfl, pt, us, k, t, rfl, f⟩⟩
 ·exact ⟨c0, _, _, rfl, pt, us, G, S, rfl, T⟩
 rintro _ X w_ ⟨rfl, z, f0, _, rfl, h0, rfl, o, s, rfl, x⟩
 refine bke ?_
 obtain rfl := si p
 exact n0 ⟨_, z, rfl, rfl, pt, o, s, x, rfl⟩
def f_utfdec_Dec_Held__feed_Feeder_1 (p0 : G_utfdec_Dec) : Option (Int) :=
 if false = true then
 some 0
 else
 some p0.held
theorem c_utfdec_Dec_Held__feed_Feeder_1 {b : Nat} {r0_0 : Value} {r0_6 : Value} {r0_7 : Value} {r0_8 : Value} {r0_9 : Value} {r0_10 : Value} {r0_11 : Value} (a : G_utfdec_Dec) (e : Own c0 G ((Eb b 158 [r0_0, I a.held, I a.needs, .int .u8 a.lo, .int .u8 a.hi, I a.bits, r0_6, r0_7, r0_8, r0_9, r0_10, r0_11]) :: F)) {r : Int} (H : f_utfdec_Dec_Held__feed_Feeder_1 a = some r) :
    Calls prog 112 #[.pointer (some ⟨b, 1, none⟩)] c0.w (Post c0 fun c v => Own c G ((Eb b 158 [r0_0, I a.held, I a.needs, .int .u8 a.lo, .int .u8 a.hi, I a.bits, r0_6, r0_7, r0_8, r0_9, r0_10, r0_11]) :: F) ∧ v = I r) := by
 unfold f_utfdec_Dec_Held__feed_Feeder_1 at H
 refine en func112 rfl rfl (sr (va (I 0) (wln (W.seq (sr (va (.pointer (some ⟨b, 1, none⟩)) (va (B false) (wln (W.cond (t := false) (by kernel_rfl) (fun d => ?_) (fun d => ?_))))))))))
 ·cases d
 have H := ie d H
 refine W.skip (nrm (sr (va (.pointer (some ⟨b, 1, none⟩)) (va (.pointer (some ⟨b, 1, none⟩)) (va (.pointer (some ⟨b, 1, none⟩)) (vx (le1 1 underlying3 (e.on 0 rfl)) (va (I a.held) (wln (W.ret ?_)))))))))
 obtain rfl := si H
 exact r1 ⟨_, c0, rfl, rfl, pt, e, rfl⟩
def f_utfdec_Dec_Flush__feed_Feeder_1 (p0 : G_utfdec_Dec) : Option (G_utfdec_Dec × (List Int)) :=
 (f_utfdec_Dec_Held__feed_Feeder_1 p0).bind fun a =>
 if (a == 0) = true then
 some (p0, ([] : List Int))
 else
 some ((⟨0, 0, 0, 0, 0⟩ : G_utfdec_Dec), ([65533] : List Int))
theorem c_utfdec_Dec_Flush__feed_Feeder_1 {a : Nat} {r0_0 : Value} {r0_6 : Value} {r0_7 : Value} {r0_8 : Value} {r0_9 : Value} {r0_10 : Value} {r0_11 : Value} (b : G_utfdec_Dec) (q : Own c0 G ((Eb a 158 [r0_0, I b.held, I b.needs, .int .u8 b.lo, .int .u8 b.hi, I b.bits, r0_6, r0_7, r0_8, r0_9, r0_10, r0_11]) :: F)) {r : G_utfdec_Dec × (List Int)} (H : f_utfdec_Dec_Flush__feed_Feeder_1 b = some r) :
    Calls prog 110 #[.pointer (some ⟨a, 1, none⟩)] c0.w (Post c0 fun c v => ∃ d p, Own c G (es true (RI .i32) d 21 p r.2 :: (Eb a 158 [r0_0, I r.1.held, I r.1.needs, .int .u8 r.1.lo, .int .u8 r.1.hi, I r.1.bits, r0_6, r0_7, r0_8, r0_9, r0_10, r0_11]) :: F) ∧ v = d ∧ OA (RI .i32) c d p r.2) := by
 unfold f_utfdec_Dec_Flush__feed_Feeder_1 at H
 refine en func110 rfl rfl (sr (va (Y) (wln (W.seq (sr (va (.pointer (some ⟨a, 1, none⟩)) (bn H fun o s H => cl (c_utfdec_Dec_Held__feed_Feeder_1 b q s) ?_)))))))
 rintro v8 k z ⟨i, rfl⟩
 refine va (B (o == 0)) (wln (cn H (fun t H => ?_) (fun t H => ?_)))
 ·refine sr (va (Y) (wln (W.ret (thr ?_))))
  obtain rfl := si H
  have l : OA (RI .i32) k (Y) [] [] := OA.nil (Nat.succ_pos _)
  have f := i.addHole (e := es true (RI .i32) (Y) 21 [] ([] : List Int)) rfl
  exact r1 ⟨_, k, rfl, rfl, pt, (Y), [], f, rfl, l⟩
 refine W.skip (nrm (sr (va (.pointer (some ⟨a, 1, none⟩)) (va (.agg #[I 0, I 0, .int .u8 0, .int .u8 0, I 0]) (va (.pointer (some ⟨a, 1, none⟩)) (md (sB 154 1 [I 0, I 0, .int .u8 0, .int .u8 0, I 0] [r0_0, I 0, I 0, .int .u8 0, .int .u8 0, I 0, r0_6, r0_7, r0_8, r0_9, r0_10, r0_11] 0 i ⟨rfl, rfl, rfl, rfl, rfl, trivial⟩) ?_))))))
 rintro u x g
 refine wln (sr (me (sl (RI .i32) 21 [[J 65533]] ([65533] : List Int) g ⟨rfl, trivial⟩) ?_))
 rintro v18 j y ⟨n, h, m⟩
 refine va (v18) (wln (W.ret ?_))
 obtain rfl := si H
 exact r1 ⟨_, j, rfl, rfl, pt, v18, n, h, rfl, m⟩
def f_octet_Lead (p0 : Int) : Option (Int) :=
 ((andE (decide (p0 ≥ 240)) (some (decide (p0 ≤ 244)))).bind fun a =>
 if a = true then
 some ((w64 ((w64 ((w64 ((w64 (0 + 1)) + 1)) + 1)) + 1)))
 else
 (andE (decide (p0 ≥ 224)) (some (decide (p0 < 240)))).bind fun b =>
 if b = true then
 some ((w64 ((w64 ((w64 (0 + 1)) + 1)) + 1)))
 else
 (andE (decide (p0 ≥ 194)) (some (decide (p0 < 224)))).bind fun c =>
 if c = true then
 some ((w64 ((w64 (0 + 1)) + 1)))
 else
 if (decide (p0 < 128)) = true then
 some ((w64 (0 + 1)))
 else
 some (0)).bind fun d =>
 some d
theorem c_octet_Lead (A : Own c0 G F) (a : Int) {r : Int} (H : f_octet_Lead a = some r) :
    Calls prog 222 #[.int .u8 a] c0.w (Post c0 fun c v => Own c G (F) ∧ v = I r) := by
 unfold f_octet_Lead at H
 refine en func222 rfl rfl (sr (va (I 0) (wln (sr (va (I 0) (wln (bn H fun k b T => W.seqJ (Jn c0 fun c l => Own c G (F) ∧ l = [(3, I k)]) ?_ ?_)))))))
 ·refine W.block (W.seq (W.block (W.seq (W.block (W.seq (W.block (W.seq (W.block (W.seq (W.seq (W.seq (bn b fun q P b => W.join (Jn c0 fun c l => Own c G (F) ∧ l = [(0, .int .u8 a), (3, I 0), (4, B q)]) ?_ ?_))))))))))))
  ·clear b
   refine W.region (va (.int .u8 a) (va (B (decide (a ≥ 240))) ?_))
   rcases bo (decide (a ≥ 240)) with j | j
   ·have U := anT j P
    refine vb j (wn (va (.int .u8 a) (wn (va (B (decide (a ≤ 244))) ?_))))
    obtain rfl := si U
    exact va (B (decide (a ≤ 244))) (va (B (decide (a ≤ 244))) (wln ⟨c0, _, _, rfl, pt, us, A, rfl⟩))
   obtain rfl := anF j P
   exact vb j (ps (ps (va (B false) (va (B false) (wln ⟨c0, _, _, rfl, pt, us, A, rfl⟩)))))
  rintro u x ⟨m, g7, _, rfl, l6, rfl, p, rfl⟩
  refine nrm (cn b (fun M b => ?_) (fun M b => ?_))
  ·refine W.exit (thx (thx (bke (nrm (W.region (va (I 0) (va (I (w64 (0 + 1))) (va (I (w64 (0 + 1))) (WL.nil (bkn (nrm (W.region (va (I (w64 (0 + 1))) (va (I (w64 ((w64 (0 + 1)) + 1))) (va (I (w64 ((w64 (0 + 1)) + 1))) (WL.nil (bkn (nrm (W.region (va (I (w64 ((w64 (0 + 1)) + 1))) (va (I (w64 ((w64 ((w64 (0 + 1)) + 1)) + 1))) (va (I (w64 ((w64 ((w64 (0 + 1)) + 1)) + 1))) (WL.nil (bkn (nrm (sr (va (I (w64 ((w64 ((w64 (0 + 1)) + 1)) + 1))) (va (I (w64 ((w64 ((w64 ((w64 (0 + 1)) + 1)) + 1)) + 1))) (va (I (w64 ((w64 ((w64 ((w64 (0 + 1)) + 1)) + 1)) + 1))) (wln (W.exit (bke (nrm ?_)))))))))))))))))))))))))))))))))
   obtain rfl := si b
   exact ⟨m, _, _, rfl, pt, us, p, rfl⟩
  refine W.skip (nrm (W.seq (W.seq (bn b fun s n b => W.join (Jn m fun c l => Own c G (F) ∧ l = [(0, .int .u8 a), (3, I 0), (11, B s)]) ?_ ?_))))
  ·clear b
   refine W.region (va (.int .u8 a) (va (B (decide (a ≥ 224))) ?_))
   rcases bo (decide (a ≥ 224)) with d | d
   ·have y := anT d n
    refine vb d (wn (va (.int .u8 a) (wn (va (B (decide (a < 240))) ?_))))
    obtain rfl := si y
    exact va (B (decide (a < 240))) (va (B (decide (a < 240))) (wln ⟨m, _, _, rfl, pt, us, p, rfl⟩))
   obtain rfl := anF d n
   exact vb d (ps (ps (va (B false) (va (B false) (wln ⟨m, _, _, rfl, pt, us, p, rfl⟩)))))
  rintro u x ⟨f, X, _, rfl, l16, rfl, g, rfl⟩
  refine nrm (cn b (fun N b => ?_) (fun N b => ?_))
  ·refine W.exit (thx (thx (bko rfl (thx (bke (nrm (W.region (va (I 0) (va (I (w64 (0 + 1))) (va (I (w64 (0 + 1))) (WL.nil (bkn (nrm (W.region (va (I (w64 (0 + 1))) (va (I (w64 ((w64 (0 + 1)) + 1))) (va (I (w64 ((w64 (0 + 1)) + 1))) (WL.nil (bkn (nrm (sr (va (I (w64 ((w64 (0 + 1)) + 1))) (va (I (w64 ((w64 ((w64 (0 + 1)) + 1)) + 1))) (va (I (w64 ((w64 ((w64 (0 + 1)) + 1)) + 1))) (wln (W.exit (bke (nrm ?_))))))))))))))))))))))))))))
   obtain rfl := si b
   exact ⟨f, _, _, rfl, pt, us, g, rfl⟩
  refine W.skip (nrm (W.seq (W.seq (bn b fun t o b => W.join (Jn f fun c l => Own c G (F) ∧ l = [(0, .int .u8 a), (3, I 0), (18, B t)]) ?_ ?_))))
  ·clear b
   refine W.region (va (.int .u8 a) (va (B (decide (a ≥ 194))) ?_))
   rcases bo (decide (a ≥ 194)) with e | e
   ·have z := anT e o
    refine vb e (wn (va (.int .u8 a) (wn (va (B (decide (a < 224))) ?_))))
    obtain rfl := si z
    exact va (B (decide (a < 224))) (va (B (decide (a < 224))) (wln ⟨f, _, _, rfl, pt, us, g, rfl⟩))
   obtain rfl := anF e o
   exact vb e (ps (ps (va (B false) (va (B false) (wln ⟨f, _, _, rfl, pt, us, g, rfl⟩)))))
  rintro u x ⟨i, Z, _, rfl, b0, rfl, h, rfl⟩
  refine nrm (cn b (fun R b => ?_) (fun R b => ?_))
  ·refine W.exit (thx (thx (bko rfl (thx (bko rfl (thx (bke (nrm (W.region (va (I 0) (va (I (w64 (0 + 1))) (va (I (w64 (0 + 1))) (WL.nil (bkn (nrm (sr (va (I (w64 (0 + 1))) (va (I (w64 ((w64 (0 + 1)) + 1))) (va (I (w64 ((w64 (0 + 1)) + 1))) (wln (W.exit (bke (nrm ?_)))))))))))))))))))))))
   obtain rfl := si b
   exact ⟨i, _, _, rfl, pt, us, h, rfl⟩
  refine W.skip (nrm (sr (va (.int .u8 a) (va (B (decide (a < 128))) (va (B (decide (a < 128))) (wln (cn b (fun S b => ?_) (fun S b => ?_))))))))
  ·refine W.exit (thx (bko rfl (thx (bko rfl (thx (bko rfl (thx (bke (nrm (sr (va (I 0) (va (I (w64 (0 + 1))) (va (I (w64 (0 + 1))) (wln (W.exit (bke (nrm ?_)))))))))))))))))
   obtain rfl := si b
   exact ⟨i, _, _, rfl, pt, us, h, rfl⟩
  refine W.skip (nrm (W.exit (bko rfl (thx (bko rfl (thx (bko rfl (thx (bko rfl (thx (bke (nrm ?_))))))))))))
  obtain rfl := si b
  exact ⟨i, _, _, rfl, pt, us, h, rfl⟩
 rintro u x ⟨E, a0, _, rfl, d0, rfl, D, rfl⟩
 refine sr (va (I k) (va (I k) (wln (W.ret ?_))))
 obtain rfl := si T
 exact r1 ⟨_, E, rfl, rfl, pt, D, rfl⟩
def f_octet_Bits (p0 : Int) : Option (Int) :=
 (f_octet_Lead p0).bind fun a =>
 if (a == 0) = true then
 some 0
 else
 if (a == 1) = true then
 some (w64 p0)
 else
 (shn (w64 (7 - a))).bind fun b =>
 some (ibAnd .i64 (w64 p0) (w64 ((w64 (1 * 2 ^ (min b 64))) - 1)))
theorem c_octet_Bits (j : Own c0 G F) (e : Int) {r : Int} (H : f_octet_Bits e = some r) :
    Calls prog 223 #[.int .u8 e] c0.w (Post c0 fun c v => Own c G (F) ∧ v = I r) := by
 unfold f_octet_Bits at H
 refine en func223 rfl rfl (sr (va (I 0) (wln (sr (va (.int .u8 e) (bn H fun d k H => cl (c_octet_Lead j e k) ?_))))))
 rintro v7 h n ⟨g, rfl⟩
 refine va (I d) (wln (sr (va (I d) (wln (W.block (sr (va (B (d == 0)) (va (B (d == 0)) (wln (cn H (fun l H => ?_) (fun l H => ?_)))))))))))
 ·refine sr (va (I 0) (wln (W.ret (bkr ?_))))
  obtain rfl := si H
  exact r1 ⟨_, h, rfl, rfl, pt, g, rfl⟩
 refine sr (va (B (d == 1)) (va (B (d == 1)) (wln (cn H (fun m H => ?_) (fun m H => ?_)))))
 ·refine sr (va (.int .u8 e) (va (I (w64 e)) (va (I (w64 e)) (wln (W.ret (bkr ?_))))))
  obtain rfl := si H
  exact r1 ⟨_, h, rfl, rfl, pt, g, rfl⟩
 refine sr (va (.int .u8 e) (va (I (w64 e)) (va (I d) (va (I (w64 (7 - d))) (bn H fun f i H => vr (I (w64 (1 * 2 ^ (min f 64)))) (run_shl (k' := .i64) (a := 1) (b := (w64 (7 - d))) i (by kernel_rfl) _) (va (I (w64 ((w64 (1 * 2 ^ (min f 64))) - 1))) (va (I (ibAnd .i64 (w64 e) (w64 ((w64 (1 * 2 ^ (min f 64))) - 1)))) (va (I (ibAnd .i64 (w64 e) (w64 ((w64 (1 * 2 ^ (min f 64))) - 1)))) (wln (W.ret (bkr ?_)))))))))))
 obtain rfl := si H
 exact r1 ⟨_, h, rfl, rfl, pt, g, rfl⟩
def f_octet_Second (p0 : Int) : Option (Int × Int) :=
 (f_octet_Lead p0).bind fun b =>
 if (decide (b < 2)) = true then
 some (0, 0)
 else
 (if (p0 == 224) = true then
 some (160, 191)
 else
 if (p0 == 240) = true then
 some (144, 191)
 else
 if (p0 == 244) = true then
 some (128, (IntKind.u8.wrap ((IntKind.u8.wrap (191 - 16)) - 32)))
 else
 if (p0 == 237) = true then
 some (128, (IntKind.u8.wrap (191 - 32)))
 else
 some (128, 191)).bind fun a =>
 some (a.1, a.2)
theorem c_octet_Second (p : Own c0 G F) (b : Int) {r : Int × Int} (H : f_octet_Second b = some r) :
    Calls prog 224 #[.int .u8 b] c0.w (Post c0 fun c v => Own c G (F) ∧ v = .tuple #[.int .u8 r.1, .int .u8 r.2]) := by
 unfold f_octet_Second at H
 refine en func224 rfl rfl (sr (va (.int .u8 0) (va (.int .u8 0) (wln (W.seq (sr (va (.int .u8 b) (bn H fun o q H => cl (c_octet_Lead p b q) ?_))))))))
 rintro v7 e y ⟨f, rfl⟩
 refine va (B (decide (o < 2))) (wln (cn H (fun s H => ?_) (fun s H => ?_)))
 ·refine sr (va (.int .u8 0) (va (.int .u8 0) (wln (W.ret (thr ?_)))))
  obtain rfl := si H
  exact r2 ⟨_, e, rfl, rfl, pt, f, rfl⟩
 refine W.skip (nrm (sr (va (.int .u8 128) (va (.int .u8 191) (wln (bn H fun d a g => W.seqJ (Jn e fun c l => Own c G (F) ∧ l = [(2, .int .u8 d.1), (3, .int .u8 d.2)]) ?_ ?_))))))
 ·refine sr (va (.int .u8 b) (wln (W.block (W.seq (W.block (W.seq (W.block (W.seq (W.block (W.seq (W.block (W.seq (W.seq (sr (va (B (b == 224)) (va (B (b == 224)) (wln (cn a (fun j a => ?_) (fun j a => ?_)))))))))))))))))))
  ·refine W.exit (thx (thx (bke (nrm (sr (va (.int .u8 160) (wln (W.exit (bko rfl (thx (bko rfl (thx (bko rfl (thx (bke (nrm ?_))))))))))))))))
   obtain rfl := si a
   exact ⟨e, _, _, rfl, pt, us, f, rfl⟩
  refine W.skip (nrm (W.seq (sr (va (B (b == 240)) (va (B (b == 240)) (wln (cn a (fun k a => ?_) (fun k a => ?_))))))))
  ·refine W.exit (thx (thx (bko rfl (thx (bke (nrm (sr (va (.int .u8 144) (wln (W.exit (bko rfl (thx (bko rfl (thx (bke (nrm ?_))))))))))))))))
   obtain rfl := si a
   exact ⟨e, _, _, rfl, pt, us, f, rfl⟩
  refine W.skip (nrm (W.seq (sr (va (B (b == 244)) (va (B (b == 244)) (wln (cn a (fun m a => ?_) (fun m a => ?_))))))))
  ·refine W.exit (thx (thx (bko rfl (thx (bko rfl (thx (bke (nrm (W.region (va (.int .u8 191) (va (.int .u8 (IntKind.u8.wrap (191 - 16))) (va (.int .u8 (IntKind.u8.wrap (191 - 16))) (WL.nil (bkn (nrm (sr (va (.int .u8 (IntKind.u8.wrap (191 - 16))) (va (.int .u8 (IntKind.u8.wrap ((IntKind.u8.wrap (191 - 16)) - 32))) (va (.int .u8 (IntKind.u8.wrap ((IntKind.u8.wrap (191 - 16)) - 32))) (wln (W.exit (bke (nrm ?_)))))))))))))))))))))))
   obtain rfl := si a
   exact ⟨e, _, _, rfl, pt, us, f, rfl⟩
  refine W.skip (nrm (sr (va (B (b == 237)) (va (B (b == 237)) (wln (cn a (fun n a => ?_) (fun n a => ?_)))))))
  ·refine W.exit (thx (bko rfl (thx (bko rfl (thx (bko rfl (thx (bke (nrm (sr (va (.int .u8 191) (va (.int .u8 (IntKind.u8.wrap (191 - 32))) (va (.int .u8 (IntKind.u8.wrap (191 - 32))) (wln (W.exit (bke (nrm ?_)))))))))))))))))
   obtain rfl := si a
   exact ⟨e, _, _, rfl, pt, us, f, rfl⟩
  refine W.skip (nrm (W.exit (bko rfl (thx (bko rfl (thx (bko rfl (thx (bko rfl (thx (bke (nrm ?_))))))))))))
  obtain rfl := si a
  exact ⟨e, _, _, rfl, pt, us, f, rfl⟩
 rintro x z ⟨i, t, _, rfl, u, rfl, h, rfl⟩
 refine sr (va (.int .u8 d.1) (va (.int .u8 d.2) (va (.int .u8 d.1) (va (.int .u8 d.2) (wln (W.ret ?_))))))
 obtain rfl := si g
 exact r2 ⟨_, i, rfl, rfl, pt, h, rfl⟩
def f_utfdec_Dec_begin__feed_Feeder_1 (p0 : G_utfdec_Dec) (p1 : Int) : Option (G_utfdec_Dec × (List Int)) :=
 (f_octet_Lead p1).bind fun a =>
 if (a == 0) = true then
 some (p0, ([65533] : List Int))
 else
 if (a == 1) = true then
 some (p0, ([(w32 p1)] : List Int))
 else
 (f_octet_Bits p1).bind fun c =>
 (f_octet_Second p1).bind fun b =>
 some ((⟨1, (w64 (a - 1)), b.1, b.2, c⟩ : G_utfdec_Dec), ([] : List Int))
theorem c_utfdec_Dec_begin__feed_Feeder_1 {a : Nat} {r0_0 : Value} {r0_6 : Value} {r0_7 : Value} {r0_8 : Value} {r0_9 : Value} {r0_10 : Value} {r0_11 : Value} (f : G_utfdec_Dec) (g : Int) (T : Own c0 G ((Eb a 158 [r0_0, I f.held, I f.needs, .int .u8 f.lo, .int .u8 f.hi, I f.bits, r0_6, r0_7, r0_8, r0_9, r0_10, r0_11]) :: F)) {r : G_utfdec_Dec × (List Int)} (H : f_utfdec_Dec_begin__feed_Feeder_1 f g = some r) :
    Calls prog 179 #[.pointer (some ⟨a, 1, none⟩), .int .u8 g] c0.w (Post c0 fun c v => ∃ k S, Own c G (es true (RI .i32) k 21 S r.2 :: (Eb a 158 [r0_0, I r.1.held, I r.1.needs, .int .u8 r.1.lo, .int .u8 r.1.hi, I r.1.bits, r0_6, r0_7, r0_8, r0_9, r0_10, r0_11]) :: F) ∧ v = k ∧ OA (RI .i32) c k S r.2) := by
 unfold f_utfdec_Dec_begin__feed_Feeder_1 at H
 refine en func179 rfl rfl (sr (va (Y) (wln (W.seq (sr (va (.int .u8 g) (bn H fun b X H => cl (c_octet_Lead T g X) ?_)))))))
 rintro v7 c6 l6 ⟨j, rfl⟩
 refine va (I b) (wln (sr (va (I b) (wln (W.block (sr (va (B (b == 0)) (va (B (b == 0)) (wln (cn H (fun Z H => ?_) (fun Z H => ?_)))))))))))
 ·refine sr (me (sl (RI .i32) 21 [[J 65533]] ([65533] : List Int) j ⟨rfl, trivial⟩) ?_)
  rintro v13 x h0 ⟨P, U, z⟩
  refine va (v13) (wln (W.ret (bkr (thr ?_))))
  obtain rfl := si H
  exact r1 ⟨_, x, rfl, rfl, pt, v13, P, U, rfl, z⟩
 refine sr (va (B (b == 1)) (va (B (b == 1)) (wln (cn H (fun A H => ?_) (fun A H => ?_)))))
 ·refine sr (va (.int .u8 g) (va (J (w32 g)) (me (sl (RI .i32) 21 [[J (w32 g)]] ([(w32 g)] : List Int) j ⟨rfl, trivial⟩) ?_)))
  rintro v19 y i0 ⟨R, l, D⟩
  refine va (v19) (wln (W.ret (bkr (thr ?_))))
  obtain rfl := si H
  exact r1 ⟨_, y, rfl, rfl, pt, v19, R, l, rfl, D⟩
 refine sr (va (.pointer (some ⟨a, 1, none⟩)) (va (.pointer (some ⟨a, 1, none⟩)) (va (.pointer (some ⟨a, 1, none⟩)) (va (I b) (va (I (w64 (b - 1))) (va (.int .u8 g) (bn H fun h E H => cl (c_octet_Bits j g E) ?_)))))))
 rintro v26 a0 j0 ⟨m, rfl⟩
 refine va (.pointer (some ⟨a, 1, none⟩)) (va (.pointer (some ⟨a, 1, none⟩)) (md (sC 3 1 (I 1) [r0_0, I 1, I f.needs, .int .u8 f.lo, .int .u8 f.hi, I f.bits, r0_6, r0_7, r0_8, r0_9, r0_10, r0_11] 0 m ⟨rfl, trivial⟩) ?_))
 rintro b0 k0 n
 refine va (.pointer (some ⟨a, 1, none⟩)) (va (.pointer (some ⟨a, 2, none⟩)) (md (sC 3 2 (I (w64 (b - 1))) [r0_0, I 1, I (w64 (b - 1)), .int .u8 f.lo, .int .u8 f.hi, I f.bits, r0_6, r0_7, r0_8, r0_9, r0_10, r0_11] 0 n ⟨rfl, trivial⟩) ?_))
 rintro d0 l0 o
 refine va (.pointer (some ⟨a, 1, none⟩)) (va (.pointer (some ⟨a, 5, none⟩)) (md (sC 3 5 (I h) [r0_0, I 1, I (w64 (b - 1)), .int .u8 f.lo, .int .u8 f.hi, I h, r0_6, r0_7, r0_8, r0_9, r0_10, r0_11] 0 o ⟨rfl, trivial⟩) ?_))
 rintro e0 m0 p
 refine wln (W.region (va (.pointer (some ⟨a, 1, none⟩)) (va (.pointer (some ⟨a, 1, none⟩)) (va (.int .u8 g) (bn H fun d M H => cl (c_octet_Second p g M) ?_)))))
 rintro v39 f0 o0 ⟨q, rfl⟩
 refine va (.tuple #[.int .u8 d.1, .int .u8 d.2]) (va (.int .u8 d.1) (va (.int .u8 d.2) (va (.pointer (some ⟨a, 1, none⟩)) (va (.pointer (some ⟨a, 3, none⟩)) (md (sC 5 3 (.int .u8 d.1) [r0_0, I 1, I (w64 (b - 1)), .int .u8 d.1, .int .u8 f.hi, I h, r0_6, r0_7, r0_8, r0_9, r0_10, r0_11] 0 q ⟨rfl, trivial⟩) ?_)))))
 rintro g0 q0 s
 refine va (.pointer (some ⟨a, 1, none⟩)) (va (.pointer (some ⟨a, 4, none⟩)) (md (sC 5 4 (.int .u8 d.2) [r0_0, I 1, I (w64 (b - 1)), .int .u8 d.1, .int .u8 d.2, I h, r0_6, r0_7, r0_8, r0_9, r0_10, r0_11] 0 s ⟨rfl, trivial⟩) ?_))
 rintro i s0 t
 refine WL.nil (bkn (nrm (sr (va (Y) (wln (W.ret ?_))))))
 obtain rfl := si H
 have N : OA (RI .i32) i (Y) [] [] := OA.nil (Nat.succ_pos _)
 have u := t.addHole (e := es true (RI .i32) (Y) 21 [] ([] : List Int)) rfl
 exact r1 ⟨_, i, rfl, rfl, pt, (Y), [], u, rfl, N⟩
def f_utfdec_Dec_Step__feed_Feeder_1 (p0 : G_utfdec_Dec) (p1 : Int) : Option (G_utfdec_Dec × (List Int)) :=
 if false = true then
 some (p0, ([] : List Int))
 else
 if (p0.held == 0) = true then
 (f_utfdec_Dec_begin__feed_Feeder_1 p0 p1).bind fun a =>
 some (a.1, a.2)
 else
 (orE (decide (p1 < p0.lo)) (some (decide (p1 > p0.hi)))).bind fun d =>
 if d = true then
 (f_utfdec_Dec_Flush__feed_Feeder_1 p0).bind fun b =>
 (f_utfdec_Dec_begin__feed_Feeder_1 b.1 p1).bind fun c =>
 (app b.2 c.2).bind fun e =>
 some (c.1, e)
 else
 if (decide ((w64 (p0.needs - 1)) > 0)) = true then
 some ((⟨(w64 (p0.held + 1)), (w64 (p0.needs - 1)), 128, 191, (ibOr .i64 (w64 (p0.bits * 2 ^ 6)) (w64 (ibAnd .u8 p1 63)))⟩ : G_utfdec_Dec), ([] : List Int))
 else
 some ((⟨0, 0, 0, 0, 0⟩ : G_utfdec_Dec), ([(w32 (ibOr .i64 (w64 (p0.bits * 2 ^ 6)) (w64 (ibAnd .u8 p1 63))))] : List Int))
theorem c_utfdec_Dec_Step__feed_Feeder_1 {a : Nat} {r0_0 : Value} {r0_6 : Value} {r0_7 : Value} {r0_8 : Value} {r0_9 : Value} {r0_10 : Value} {r0_11 : Value} (b : G_utfdec_Dec) (d : Int) (h : Own c0 G ((Eb a 158 [r0_0, I b.held, I b.needs, .int .u8 b.lo, .int .u8 b.hi, I b.bits, r0_6, r0_7, r0_8, r0_9, r0_10, r0_11]) :: F)) {r : G_utfdec_Dec × (List Int)} (H : f_utfdec_Dec_Step__feed_Feeder_1 b d = some r) :
    Calls prog 107 #[.pointer (some ⟨a, 1, none⟩), .int .u8 d] c0.w (Post c0 fun c v => ∃ x y2, Own c G (es true (RI .i32) x 21 y2 r.2 :: (Eb a 158 [r0_0, I r.1.held, I r.1.needs, .int .u8 r.1.lo, .int .u8 r.1.hi, I r.1.bits, r0_6, r0_7, r0_8, r0_9, r0_10, r0_11]) :: F) ∧ v = x ∧ OA (RI .i32) c x y2 r.2) := by
 unfold f_utfdec_Dec_Step__feed_Feeder_1 at H
 refine en func107 rfl rfl (sr (va (Y) (wln (W.seq (W.block (sr (va (.pointer (some ⟨a, 1, none⟩)) (va (B false) (va (B false) (wln (W.cond (t := false) (by kernel_rfl) (fun s => ?_) (fun s => ?_))))))))))))
 ·cases s
 have H := ie s H
 refine sr (va (.pointer (some ⟨a, 1, none⟩)) (va (.pointer (some ⟨a, 1, none⟩)) (va (.pointer (some ⟨a, 1, none⟩)) (vx (le1 1 underlying3 (h.on 0 rfl)) (va (B (b.held == 0)) (va (B (b.held == 0)) (wln (cn H (fun h2 H => ?_) (fun h2 H => ?_)))))))))
 ·refine sr (va (.pointer (some ⟨a, 1, none⟩)) (va (.int .u8 d) (bn H fun z0 h4 H => cl (c_utfdec_Dec_begin__feed_Feeder_1 b d h h4) ?_)))
  rintro v5 X q1 ⟨_, u6, O9, rfl, h7⟩
  refine va (v5) (wln (W.ret (bkr (thr ?_))))
  obtain rfl := si H
  exact r1 ⟨_, X, rfl, rfl, pt, v5, u6, O9, rfl, h7⟩
 refine W.seq (bn H fun q o H => W.join (Jn c0 fun c l => Own c G ((Eb a 158 [r0_0, I b.held, I b.needs, .int .u8 b.lo, .int .u8 b.hi, I b.bits, r0_6, r0_7, r0_8, r0_9, r0_10, r0_11]) :: F) ∧ l = [(0, .pointer (some ⟨a, 1, none⟩)), (1, .int .u8 d), (18, B q)]) ?_ ?_)
 ·clear H
  refine W.region (va (.int .u8 d) (va (.pointer (some ⟨a, 1, none⟩)) (va (.pointer (some ⟨a, 1, none⟩)) (va (.pointer (some ⟨a, 3, none⟩)) (vx (le1 3 underlying5 (h.on 0 rfl)) (va (B (decide (d < b.lo))) ?_))))))
  rcases bo (decide (d < b.lo)) with f | f
  ·obtain rfl := orT f o
   exact vb f (ps (ps (ps (ps (ps (ps (va (B true) (va (B true) (wln ⟨c0, _, _, rfl, pt, us, h, rfl⟩)))))))))
  have y := orF f o
  refine vb f (wn (va (.int .u8 d) (wn (va (.pointer (some ⟨a, 1, none⟩)) (wn (va (.pointer (some ⟨a, 1, none⟩)) (wn (va (.pointer (some ⟨a, 4, none⟩)) (wn (vx (le1 4 underlying5 (h.on 0 rfl)) (wn (va (B (decide (d > b.hi))) ?_))))))))))))
  obtain rfl := si y
  exact va (B (decide (d > b.hi))) (va (B (decide (d > b.hi))) (wln ⟨c0, _, _, rfl, pt, us, h, rfl⟩))
 rintro e_ w_ ⟨c1, n1, _, rfl, s1, rfl, i, rfl⟩
 refine nrm (cn H (fun b0 H => ?_) (fun b0 H => ?_))
 ·refine sr (va (.pointer (some ⟨a, 1, none⟩)) (bn H fun u d0 H => cl (c_utfdec_Dec_Flush__feed_Feeder_1 b i d0) ?_))
  rintro v26 d1 t1 ⟨_, f2, z, rfl, e0⟩
  refine va (.pointer (some ⟨a, 1, none⟩)) (va (.int .u8 d) ?_)
  have A := z.sD 2 [1, 0]
  refine bn H fun a1 f0 H => cl (c_utfdec_Dec_begin__feed_Feeder_1 u.1 d A f0) ?_
  rintro v37 e1 u1 ⟨_, g2, D, rfl, g0⟩
  obtain ⟨f1, i0, v1, E, h0⟩ := D.frz 0 rfl g0
  refine WL.gh i0 (bn H fun b1 j0 H => me (ap (RI .i32) (J 0) 4 27 2 E e0.m h0 j0 underlying27) ?_)
  rintro v55 Z w1 ⟨q0, M, k0⟩
  refine va (v55) (wln (W.ret (bkr (thr ?_))))
  obtain rfl := si H
  have N := M.sD 3 [2, 1]
  exact r1 ⟨_, Z, rfl, rfl, pt, v55, q0, N, rfl, k0⟩
 refine W.skip (bkn (nrm (sr (va (.pointer (some ⟨a, 1, none⟩)) (va (.pointer (some ⟨a, 1, none⟩)) (va (.pointer (some ⟨a, 1, none⟩)) (va (.pointer (some ⟨a, 5, none⟩)) (vx (le1 5 underlying3 (i.on 0 rfl)) (va (I (w64 (b.bits * 2 ^ 6))) (va (.int .u8 d) (va (.int .u8 (ibAnd .u8 d 63)) (va (I (w64 (ibAnd .u8 d 63))) (va (I (ibOr .i64 (w64 (b.bits * 2 ^ 6)) (w64 (ibAnd .u8 d 63)))) (va (.pointer (some ⟨a, 1, none⟩)) (va (.pointer (some ⟨a, 5, none⟩)) (md (sC 3 5 (I (ibOr .i64 (w64 (b.bits * 2 ^ 6)) (w64 (ibAnd .u8 d 63)))) [r0_0, I b.held, I b.needs, .int .u8 b.lo, .int .u8 b.hi, I (ibOr .i64 (w64 (b.bits * 2 ^ 6)) (w64 (ibAnd .u8 d 63))), r0_6, r0_7, r0_8, r0_9, r0_10, r0_11] 0 i ⟨rfl, trivial⟩) ?_))))))))))))))))
 rintro g1 x1 P
 refine wln (sr (va (.pointer (some ⟨a, 1, none⟩)) (va (.pointer (some ⟨a, 1, none⟩)) (va (.pointer (some ⟨a, 1, none⟩)) (va (.pointer (some ⟨a, 3, none⟩)) (md (sC 5 3 (.int .u8 128) [r0_0, I b.held, I b.needs, .int .u8 128, .int .u8 b.hi, I (ibOr .i64 (w64 (b.bits * 2 ^ 6)) (w64 (ibAnd .u8 d 63))), r0_6, r0_7, r0_8, r0_9, r0_10, r0_11] 0 P ⟨rfl, trivial⟩) ?_))))))
 rintro i1 z1 R
 refine va (.pointer (some ⟨a, 1, none⟩)) (va (.pointer (some ⟨a, 4, none⟩)) (md (sC 5 4 (.int .u8 191) [r0_0, I b.held, I b.needs, .int .u8 128, .int .u8 191, I (ibOr .i64 (w64 (b.bits * 2 ^ 6)) (w64 (ibAnd .u8 d 63))), r0_6, r0_7, r0_8, r0_9, r0_10, r0_11] 0 R ⟨rfl, trivial⟩) ?_))
 rintro j1 a2 j
 refine wln (sr (va (.pointer (some ⟨a, 1, none⟩)) (va (.pointer (some ⟨a, 1, none⟩)) (va (.pointer (some ⟨a, 1, none⟩)) (vx (le1 1 underlying3 (j.on 0 rfl)) (va (I (w64 (b.held + 1))) (va (.pointer (some ⟨a, 1, none⟩)) (va (.pointer (some ⟨a, 1, none⟩)) (md (sC 3 1 (I (w64 (b.held + 1))) [r0_0, I (w64 (b.held + 1)), I b.needs, .int .u8 128, .int .u8 191, I (ibOr .i64 (w64 (b.bits * 2 ^ 6)) (w64 (ibAnd .u8 d 63))), r0_6, r0_7, r0_8, r0_9, r0_10, r0_11] 0 j ⟨rfl, trivial⟩) ?_)))))))))
 rintro k1 b2 k
 refine wln (sr (va (.pointer (some ⟨a, 1, none⟩)) (va (.pointer (some ⟨a, 1, none⟩)) (va (.pointer (some ⟨a, 2, none⟩)) (vx (le1 2 underlying3 (k.on 0 rfl)) (va (I (w64 (b.needs - 1))) (va (.pointer (some ⟨a, 1, none⟩)) (va (.pointer (some ⟨a, 2, none⟩)) (md (sC 3 2 (I (w64 (b.needs - 1))) [r0_0, I (w64 (b.held + 1)), I (w64 (b.needs - 1)), .int .u8 128, .int .u8 191, I (ibOr .i64 (w64 (b.bits * 2 ^ 6)) (w64 (ibAnd .u8 d 63))), r0_6, r0_7, r0_8, r0_9, r0_10, r0_11] 0 k ⟨rfl, trivial⟩) ?_)))))))))
 rintro n c2 g
 refine wln (W.seq (sr (va (.pointer (some ⟨a, 1, none⟩)) (va (.pointer (some ⟨a, 1, none⟩)) (va (.pointer (some ⟨a, 2, none⟩)) (vx (le1 2 underlying3 (g.on 0 rfl)) (va (B (decide ((w64 (b.needs - 1)) > 0))) (wln (cn H (fun l0 H => ?_) (fun l0 H => ?_))))))))))
 ·refine sr (va (Y) (wln (W.ret (thr ?_))))
  obtain rfl := si H
  have m0 : OA (RI .i32) n (Y) [] [] := OA.nil (Nat.succ_pos _)
  have S := g.addHole (e := es true (RI .i32) (Y) 21 [] ([] : List Int)) rfl
  exact r1 ⟨_, n, rfl, rfl, pt, (Y), [], S, rfl, m0⟩
 refine W.skip (nrm (sr (va (.pointer (some ⟨a, 1, none⟩)) (va (.pointer (some ⟨a, 1, none⟩)) (va (.pointer (some ⟨a, 5, none⟩)) (vx (le1 5 underlying3 (g.on 0 rfl)) (va (J (w32 (ibOr .i64 (w64 (b.bits * 2 ^ 6)) (w64 (ibAnd .u8 d 63))))) (va (J (w32 (ibOr .i64 (w64 (b.bits * 2 ^ 6)) (w64 (ibAnd .u8 d 63))))) (wln (sr (va (.pointer (some ⟨a, 1, none⟩)) (va (.agg #[I 0, I 0, .int .u8 0, .int .u8 0, I 0]) (va (.pointer (some ⟨a, 1, none⟩)) (md (sB 154 1 [I 0, I 0, .int .u8 0, .int .u8 0, I 0] [r0_0, I 0, I 0, .int .u8 0, .int .u8 0, I 0, r0_6, r0_7, r0_8, r0_9, r0_10, r0_11] 0 g ⟨rfl, rfl, rfl, rfl, rfl, trivial⟩) ?_))))))))))))))
 rintro m1 d2 T
 refine wln (sr (va (J (w32 (ibOr .i64 (w64 (b.bits * 2 ^ 6)) (w64 (ibAnd .u8 d 63))))) (me (sl (RI .i32) 21 [[J (w32 (ibOr .i64 (w64 (b.bits * 2 ^ 6)) (w64 (ibAnd .u8 d 63))))]] ([(w32 (ibOr .i64 (w64 (b.bits * 2 ^ 6)) (w64 (ibAnd .u8 d 63))))] : List Int) T ⟨rfl, trivial⟩) ?_)))
 rintro p a0 e2 ⟨s0, U, o0⟩
 refine va (p) (wln (W.ret ?_))
 obtain rfl := si H
 exact r1 ⟨_, a0, rfl, rfl, pt, p, s0, U, rfl, o0⟩
def f_feed_Feeder_Bytes (sg : Sto) (p0 : Option Nat) (p1 : List Int) : Option (Sto) :=
 if p0.isNone = true then
 some sg
 else
 (iter (σ := Int × Sto) (τ := Sto) (((p1.length : Int) - 0).toNat + 1) (fun b =>
 if (decide (b.1 < (p1.length : Int))) = true then
 (idx p1 b.1).bind fun f =>
 (p0).bind fun d =>
 (b.2.feed_Feeder[d]?).bind fun a =>
 (f_utfdec_Dec_Step__feed_Feeder_1 a.dec f).bind fun e =>
 (b.2.set_feed_Feeder d (⟨a.pen, e.1, a.seg, a.open_⟩ : G_feed_Feeder)).bind fun c =>
 (f_feed_Feeder_all c p0 e.2).bind fun g =>
 some (.inl ((w64 (b.1 + 1)), g))
 else
 some (.inr (b.2))) (0, sg)).bind fun h =>
 some h
theorem c_feed_Feeder_Bytes (M : Own c0 G F) (R0 : Rel c0 sg G) (hG : Gl [0, 4] c0) (j : Option Nat) (k : List Int) {r : Sto} (t : Pt 4 c0 v1 j) (u : Sl (RI .u8) c0 v3 k) (H : f_feed_Feeder_Bytes sg j k = some r) :
    Calls prog 37 #[v1, v3] c0.w (Post c0 fun c v => ∃ G_ : Gm, Own c G_ (F) ∧ Rel c r G_ ∧ v = .tuple #[]) := by
 unfold f_feed_Feeder_Bytes at H
 refine en func37 rfl rfl (W.seq (sr (va (v1) (vr (B j.isNone) (by rcases (t).cs with ⟨p, s⟩ | ⟨b_, p, s⟩ <;> (subst p; rw [s]; kernel_rfl)) (wln (cn H (fun h5 H => ?_) (fun h5 H => ?_)))))))
 ·refine W.ret (thr ?_)
  obtain rfl := si H
  exact r0 ⟨_, c0, rfl, rfl, pt, G, M, R0, rfl⟩
 refine W.skip (nrm (sr (va (v3) (vx (ln 3 underlying57 u) (va (I 0) (wln (W.block (bn H fun y1 h6 E => lp h6 (fun d => Jn c0 fun c l => ∃ G_, Own c G_ (F) ∧ l = [(0, v1), (8, v3), (9, I (k.length : Int)), (10, I d.1)] ∧ Rel c d.2 G_) (fun x ex e w => ex = .exit 0 ∧ (Jn c0 fun c l => ∃ G_, Own c G_ (F) ∧ l = [] ∧ Rel c x G_) e w) ?_ ?_ ?_))))))))
 ·clear E h6
  intro d a2 i0 c1 H
  revert i0 c1
  rintro e_ w_ ⟨c8, g9, _, rfl, l8, rfl, z, n, rfl, h⟩
  refine sr (va (B (decide (d.1 < (k.length : Int)))) (wln (W.seq (cn H (fun j0 H => ?_) (fun j0 H => ?_)))))
  ·refine W.skip (nrm (W.seq (W.block (sr (bn H fun f o H => ?_)))))
   obtain ⟨h1, k0, b1⟩ := Sl.at (u.mono l8) (idx_get o)
   obtain rfl := k0
   refine vx (ix underlying57 u.m o) (vx (l1 underlying5 (b1 0 _ rfl)) (va (.int .u8 f) (wln (W.region (va (v1) (va (v1) (bn H fun g1 l0 H => ?_)))))))
   obtain ⟨g, rfl, q⟩ := ((t.mono l8)).get l0
   refine va (Q g) (va (.pointer (some ⟨g, 1, none⟩)) (va (.int .u8 f) (bn H fun a m0 H => ?_)))
   obtain ⟨v23, v25, s0, o0, q0⟩ := Rel.open_feed_Feeder h m0 q
   have N := n.borrow 0 s0 rfl
   refine bn H fun b t0 H => cl (c_utfdec_Dec_Step__feed_Feeder_1 a.dec f N t0) ?_
   rintro v31 n1 i ⟨_, z1, P, rfl, u0⟩
   have S := P.sD 2 [1, 0]
   have R := S.giveB 0 rfl
   refine bn H fun y v0 H => ?_
   obtain ⟨k1, T, d0, t1, m1⟩ := Rel.put_feed_Feeder R (h.mono i) (E' := [(Eb g 158 [v23, I b.1.held, I b.1.needs, .int .u8 b.1.lo, .int .u8 b.1.hi, I b.1.bits, B a.seg.some, I a.seg.last, I a.seg.pict, I a.seg.conj, B a.seg.odd, v25])]) v0 ⟨g, v23, v25, (tm q), rfl, (o0.mono i), (q0.mono i)⟩
   obtain ⟨q1, x0, u1, U, w0⟩ := T.frz 0 rfl u0
   refine WL.gh x0 (bn H fun j1 y0 H => cl (c_feed_Feeder_all U d0.m (hG.m.le (by decide)) j b.2 t.m w0 y0) ?_)
   rintro v58 g0 w1 ⟨A, X, e0, rfl⟩
   refine WL.nil (bkn (nrm (W.region (va (I (w64 (d.1 + 1))) (va (I (w64 (d.1 + 1))) (WL.nil ?_))))))
   obtain rfl := si H
   refine ⟨_, rfl, ?_⟩
   have Z := X.sD 1 []
   exact ⟨g0, _, _, rfl, pt, us, A, Z, rfl, e0⟩
  refine W.exit (thx ?_)
  obtain rfl := si H
  exact ⟨_, rfl, rfl, ⟨c8, _, _, rfl, pt, us, z, n, rfl, h⟩⟩
 ·exact ⟨c0, _, _, rfl, pt, us, G, M, rfl, R0⟩
 rintro _ e_ w_ ⟨rfl, h0, s1, _, rfl, x1, rfl, D, a0, rfl, f0⟩
 refine bke ?_
 obtain rfl := si E
 exact n0 ⟨_, h0, rfl, rfl, pt, D, a0, f0, rfl⟩
def f_feed_Feeder_Flush (sg : Sto) (p0 : Option Nat) : Option (Sto) :=
 if p0.isNone = true then
 some sg
 else
 (p0).bind fun c =>
 (sg.feed_Feeder[c]?).bind fun a =>
 (f_utfdec_Dec_Flush__feed_Feeder_1 a.dec).bind fun d =>
 (sg.set_feed_Feeder c (⟨a.pen, d.1, a.seg, a.open_⟩ : G_feed_Feeder)).bind fun b =>
 (f_feed_Feeder_all b p0 d.2).bind fun f =>
 (f_feed_Feeder_Close f p0).bind fun e =>
 some e
theorem c_feed_Feeder_Flush (l : Own c0 G F) (j : Rel c0 sg G) (hG : Gl [0, 4] c0) (f : Option Nat) {r : Sto} (g : Pt 4 c0 v1 f) (H : f_feed_Feeder_Flush sg f = some r) :
    Calls prog 39 #[v1] c0.w (Post c0 fun c v => ∃ G_ : Gm, Own c G_ (F) ∧ Rel c r G_ ∧ v = .tuple #[]) := by
 unfold f_feed_Feeder_Flush at H
 refine en func39 rfl rfl (W.seq (sr (va (v1) (vr (B f.isNone) (by rcases (g).cs with ⟨h, i⟩ | ⟨b_, h, i⟩ <;> (subst h; rw [i]; kernel_rfl)) (wln (cn H (fun h3 H => ?_) (fun h3 H => ?_)))))))
 ·refine W.ret (thr ?_)
  obtain rfl := si H
  exact r0 ⟨_, c0, rfl, rfl, pt, G, l, j, rfl⟩
 refine W.skip (nrm (sr (va (v1) (va (v1) (bn H fun s0 h6 H => ?_)))))
 obtain ⟨d, rfl, h5⟩ := (g).get h6
 refine va (Q d) (va (.pointer (some ⟨d, 1, none⟩)) (bn H fun a h7 H => ?_))
 obtain ⟨v8, v10, N, h9, M⟩ := Rel.open_feed_Feeder j h7 h5
 have n := l.borrow 0 N rfl
 refine bn H fun b P H => cl (c_utfdec_Dec_Flush__feed_Feeder_1 a.dec n P) ?_
 rintro v16 l0 e ⟨_, w0, o, rfl, R⟩
 have q := o.sD 2 [1, 0]
 have p := q.giveB 0 rfl
 refine bn H fun b0 S H => ?_
 obtain ⟨i0, s, z, q0, k0⟩ := Rel.put_feed_Feeder p (j.mono e) (E' := [(Eb d 158 [v8, I b.1.held, I b.1.needs, .int .u8 b.1.lo, .int .u8 b.1.hi, I b.1.bits, B a.seg.some, I a.seg.last, I a.seg.pict, I a.seg.conj, B a.seg.odd, v10])]) S ⟨d, v8, v10, (tm h5), rfl, (h9.mono e), (M.mono e)⟩
 obtain ⟨m0, U, t0, t, T⟩ := s.frz 0 rfl R
 refine WL.gh U (bn H fun x0 X H => cl (c_feed_Feeder_all t z.m (hG.m.le (by decide)) f b.2 g.m T X) ?_)
 rintro v43 o0 u0 ⟨j0, u, A, rfl⟩
 refine wln (W.region (va (Q d) (bn H fun h0 Z H => cl (c_feed_Feeder_Close u A f g.m Z) ?_)))
 rintro v50 E v0 ⟨k, x, D, rfl⟩
 refine WL.nil ?_
 obtain rfl := si H
 have y := x.sD 1 []
 exact n0 ⟨_, E, rfl, rfl, pt, k, y, D, rfl⟩
def f_edit_Does (p0 : Int) : Option (Bool) :=
 (andE (decide (p0 ≥ 2)) (some (decide (p0 ≤ 12)))).bind fun a =>
 some a
theorem c_edit_Does (d : Own c0 G F) (a : Int) {r : Bool} (H : f_edit_Does a = some r) :
    Calls prog 31 #[I a] c0.w (Post c0 fun c v => Own c G (F) ∧ v = B r) := by
 unfold f_edit_Does at H
 refine en func31 rfl rfl (sr (va (B false) (wln (W.seq (bn H fun e f H => W.join (Jn c0 fun c l => Own c G (F) ∧ l = [(2, B e)]) ?_ ?_)))))
 ·clear H
  refine W.region (va (I a) (va (B (decide (a ≥ 2))) ?_))
  rcases bo (decide (a ≥ 2)) with b | b
  ·have g := anT b f
   refine vb b (wn (va (I a) (wn (va (B (decide (a ≤ 12))) ?_))))
   obtain rfl := si g
   exact va (B (decide (a ≤ 12))) (va (B (decide (a ≤ 12))) (wln ⟨c0, _, _, rfl, pt, us, d, rfl⟩))
  obtain rfl := anF b f
  exact vb b (ps (ps (va (B false) (va (B false) (wln ⟨c0, _, _, rfl, pt, us, d, rfl⟩)))))
 rintro j n ⟨i, k, _, rfl, m, rfl, h, rfl⟩
 refine nrm (W.ret ?_)
 obtain rfl := si H
 exact r1 ⟨_, i, rfl, rfl, pt, h, rfl⟩
def f_edit_Wrong (p0 : G_api_Op) : Option (Er) :=
 (f_edit_Does p0.Kind).bind fun d =>
 if (!d) = true then
 some (Er.sent 4)
 else
 (andE (decide (p0.Kind ≤ 4)) (some (p0.Kind != 2))).bind fun a =>
 (andE a ((orE (decide (p0.A < 0)) (some (decide (p0.A > 2)))).bind fun c =>
 some c)).bind fun b =>
 if b = true then
 some (Er.sent 0)
 else
 some Er.nil
theorem c_edit_Wrong (S : Own c0 G F) (hG : Gl [0, 4] c0) (a : G_api_Op) {r : Er} (h2 : Sl (RI .u8) c0 v1 a.Bytes) (H : f_edit_Wrong a = some r) :
    Calls prog 29 #[.agg #[I a.Kind, I a.A, I a.B, v1]] c0.w (Post c0 fun c v => ∃ R, Own c G (F) ∧ v = R ∧ RE 305 179 c R r) := by
 unfold f_edit_Wrong at H
 refine en func29 rfl rfl (sr ?_)
 obtain ⟨U, X, Z, rfl⟩ := (h2).form
 refine me (bx 59 [I a.Kind, I a.A, I a.B, .slice U X Z] S) ?_
 rintro v10 c9 P ⟨i, rfl, T, k⟩
 refine va (.nilIface) (wln (W.seq (W.block (sr (va (Q i) (vx (l1 underlying3 (k 0 _ rfl)) (bn H fun u D H => cl (c_edit_Does T a.Kind D) ?_)))))))
 rintro v17 b l16 ⟨d, rfl⟩
 refine va (B (!u)) (va (B (!u)) (wln (cn H (fun E H => ?_) (fun E H => ?_))))
 ·refine sr ?_
  obtain ⟨v19, o⟩ := (hG.mono (P.trans l16)).get 4 (by decide)
  refine vx (l1 underlying37 o.im) (va (v19) (wln (W.ret (bkr (thr ?_)))))
  obtain rfl := si H
  exact r1 ⟨_, b, rfl, rfl, pt, v19, d, rfl, o⟩
 refine W.seq (bn H fun a0 p H => bn H fun x j H => W.join (Jn b fun c l => Own c G (F) ∧ l = [(9, B x)]) ?_ ?_)
 ·clear H
  refine W.region (va (Q i) (vx (l1 underlying3 ((mm k) 0 _ rfl)) (va (B (decide (a.Kind ≤ 4))) ?_)))
  rcases bo (decide (a.Kind ≤ 4)) with e | e
  ·have y := anT e p
   refine vb e (wn (va (Q i) (wn (vx (l1 underlying3 ((mm k) 0 _ rfl)) (wn (va (B (a.Kind != 2)) ?_))))))
   obtain rfl := si y
   refine va (B (a.Kind != 2)) ?_
   rcases bo (a.Kind != 2) with f | f
   ·have h := anT f j
    refine vb f (wn (va (.pointer (some ⟨i, 0 + 1, none⟩)) (wn (vx (l1 underlying3 ((mm k) 1 _ rfl)) (wn (va (B (decide (a.A < 0))) (wn (bn h fun b0 q h => ?_))))))))
    rcases bo (decide (a.A < 0)) with g | g
    ·obtain rfl := orT g q
     refine vb g (ps (ps (ps (wn (va (B true) ?_)))))
     obtain rfl := si h
     exact va (B true) (va (B true) (wln ⟨b, _, _, rfl, pt, us, d, rfl⟩))
    have z := orF g q
    refine vb g (wn (va (.pointer (some ⟨i, 0 + 1, none⟩)) (wn (vx (l1 underlying3 ((mm k) 1 _ rfl)) (wn (va (B (decide (a.A > 2))) (wn ?_)))))))
    obtain rfl := si z
    refine va (B (decide (a.A > 2))) ?_
    obtain rfl := si h
    exact va (B (decide (a.A > 2))) (va (B (decide (a.A > 2))) (wln ⟨b, _, _, rfl, pt, us, d, rfl⟩))
   obtain rfl := anF f j
   exact vb f (ps (ps (ps (ps (ps (ps (ps (ps (va (B false) (va (B false) (wln ⟨b, _, _, rfl, pt, us, d, rfl⟩)))))))))))
  obtain rfl := anF e p
  refine vb e (ps (ps (ps (va (B false) ?_))))
  have s : false = false := rfl
  obtain rfl := anF s j
  exact vb s (ps (ps (ps (ps (ps (ps (ps (ps (va (B false) (va (B false) (wln ⟨b, _, _, rfl, pt, us, d, rfl⟩)))))))))))
 rintro e_ w_ ⟨n, e0, _, rfl, N, rfl, m, rfl⟩
 refine nrm (cn H (fun M H => ?_) (fun M H => ?_))
 ·refine sr ?_
  obtain ⟨v38, t⟩ := (hG.mono (P.trans (l16.trans N))).get 0 (by decide)
  refine vx (l1 underlying37 t.im) (va (v38) (wln (W.ret (bkr (thr ?_)))))
  obtain rfl := si H
  exact r1 ⟨_, n, rfl, rfl, pt, v38, m, rfl, t⟩
 refine W.skip (bkn (nrm (sr (va (.nilIface) (wln (W.ret ?_))))))
 obtain rfl := si H
 exact r1 ⟨_, n, rfl, rfl, pt, .nilIface, m, rfl, rfl⟩
def f_edit_rows (sg : Sto) (p0 : Option Nat) (p1 : G_api_Op) : Option (Sto) :=
 (p0).bind fun e =>
 (sg.place_Pen[e]?).bind fun b =>
 (f_grid_Grid_High sg b.G).bind fun f =>
 if (p1.Kind == 10) = true then
 (f_scroll_Up sg b.G 0 f p1.A).bind fun i =>
 some i
 else
 if (p1.Kind == 11) = true then
 (f_scroll_Down sg b.G 0 f p1.A).bind fun j =>
 some j
 else
 if (p1.Kind == 8) = true then
 (f_scroll_Down sg b.G b.At.Row f p1.A).bind fun g =>
 (g.place_Pen[e]?).bind fun c =>
 (f_cursor_Return c.At).bind fun d =>
 (g.set_place_Pen e (⟨c.G, d, c.Auto⟩ : G_place_Pen)).bind fun a =>
 some a
 else
 if (p1.Kind == 9) = true then
 (f_scroll_Up sg b.G b.At.Row f p1.A).bind fun h =>
 (h.place_Pen[e]?).bind fun c =>
 (f_cursor_Return c.At).bind fun d =>
 (h.set_place_Pen e (⟨c.G, d, c.Auto⟩ : G_place_Pen)).bind fun a =>
 some a
 else
 (f_cursor_Return b.At).bind fun d =>
 (sg.set_place_Pen e (⟨b.G, d, b.Auto⟩ : G_place_Pen)).bind fun a =>
 some a
theorem c_edit_rows (O0 : Own c0 G F) (s : Rel c0 sg G) (p0 : Option Nat) (f : G_api_Op) {r : Sto} (h2 : Pt 2 c0 v1 p0) (h4 : Sl (RI .u8) c0 v3 f.Bytes) (H : f_edit_rows sg p0 f = some r) :
    Calls prog 101 #[v1, .agg #[I f.Kind, I f.A, I f.B, v3]] c0.w (Post c0 fun c v => ∃ G_ : Gm, Own c G_ (F) ∧ Rel c r G_ ∧ v = .tuple #[]) := by
 unfold f_edit_rows at H
 refine en func101 rfl rfl (sr ?_)
 obtain ⟨a5, a6, a7, rfl⟩ := (h4).form
 refine me (bx 59 [I f.Kind, I f.A, I f.B, .slice a5 a6 a7] O0) ?_
 rintro v12 p3 x ⟨t, rfl, O9, q⟩
 refine wln (sr (va (v1) (bn H fun y3 y1 H => ?_)))
 obtain ⟨a, rfl, l⟩ := ((h2.mono x)).get y1
 refine va (Q a) (va (Q a) (bn H fun e z1 H => ?_))
 obtain ⟨v17, g, n⟩ := Rel.open_place_Pen (s.mono x) z1 l
 refine vx (le1 0 underlying35 (O9.gon g 0 rfl)) (bn H fun i a2 H => cl (c_grid_Grid_High O9 s.m e.G n a2) ?_)
 rintro v26 q3 b0 ⟨k, rfl⟩
 refine va (I i) (wln (W.seq (sr (va (Q t) (vx (l1 underlying3 ((mm q) 0 _ rfl)) (wln (W.block (sr (va (B (f.Kind == 10)) (va (B (f.Kind == 10)) (wln (cn H (fun b2 H => ?_) (fun b2 H => ?_)))))))))))))
 ·refine W.seq (rD [7] (Kp G []) k ?_)
  intro n1 z3 M
  have t2 : Kp G [] n1 := (Kp.nil M)
  refine ta 0 (Q a) (ta 1 (Q a) (ta 2 (Q a) (tkx 3 t2 (fun p h j => le1 0 underlying35 (j.gon g 0 rfl)) (ta 4 (I i) (ta 5 (.pointer (some ⟨t, 0 + 1, none⟩)) (tx 6 (fun p h => l1 underlying3 ((mm q) 1 _ rfl)) (bn H fun i3 c2 H => o1 7 (gc 7 (c_scroll_Up M s.m e.G 0 i f.A n.m c2) ?_))))))))
  rintro v37 q1 a4 ⟨z0, c1, j1, rfl⟩
  refine ⟨.inl rfl, dn (nrm (W.ret (bkr (thr ?_))))⟩
  obtain rfl := si H
  exact r0 ⟨_, q1, rfl, rfl, pt, z0, c1, j1, rfl⟩
 refine sr (va (B (f.Kind == 11)) (va (B (f.Kind == 11)) (wln (cn H (fun d2 H => ?_) (fun d2 H => ?_)))))
 ·refine W.seq (rD [7] (Kp G []) k ?_)
  intro s1 b4 N
  have u2 : Kp G [] s1 := (Kp.nil N)
  refine ta 0 (Q a) (ta 1 (Q a) (ta 2 (Q a) (tkx 3 u2 (fun p h j => le1 0 underlying35 (j.gon g 0 rfl)) (ta 4 (I i) (ta 5 (.pointer (some ⟨t, 0 + 1, none⟩)) (tx 6 (fun p h => l1 underlying3 ((mm q) 1 _ rfl)) (bn H fun j3 e2 H => o1 7 (gc 7 (c_scroll_Down N s.m e.G 0 i f.A n.m e2) ?_))))))))
  rintro v48 t1 c4 ⟨a1, d1, k1, rfl⟩
  refine ⟨.inl rfl, dn (nrm (W.ret (bkr (thr ?_))))⟩
  obtain rfl := si H
  exact r0 ⟨_, t1, rfl, rfl, pt, a1, d1, k1, rfl⟩
 refine sr (va (B (f.Kind == 8)) (va (B (f.Kind == 8)) (wln (cn H (fun f2 H => ?_) (fun f2 H => ?_)))))
 ·refine rD [12] (Kp G []) k ?_
  intro u1 d4 P
  have g0 : Kp G [] u1 := (Kp.nil P)
  refine ta 0 (Q a) (ta 1 (Q a) (ta 2 (Q a) (tkx 3 g0 (fun p h j => le1 0 underlying35 (j.gon g 0 rfl)) (ta 4 (Q a) (ta 5 (Q a) (ta 6 (.pointer (some ⟨a, 1, none⟩)) (ta 7 (.pointer (some ⟨a, 1, none⟩)) (tkx 8 g0 (fun p h j => le1 1 underlying3 (j.gon g 0 rfl)) (ta 9 (I i) (ta 10 (.pointer (some ⟨t, 0 + 1, none⟩)) (tx 11 (fun p h => l1 underlying3 ((mm q) 1 _ rfl)) (bn H fun k3 g2 H => o1 12 (gc 12 (c_scroll_Down P s.m e.G e.At.Row i f.A n.m g2) ?_)))))))))))))
  rintro v59 s3 e4 ⟨m3, R, U, rfl⟩
  refine ⟨.inl rfl, dn (bkn (nrm (W.region (va (Q a) (va (Q a) (va (Q a) (va (.pointer (some ⟨a, 1, none⟩)) (bn H fun d i2 H => ?_))))))))⟩
  obtain ⟨D, Z, j2⟩ := Rel.open_place_Pen U i2 (tm l)
  refine vx (leN 24 1 [I d.At.Row, I d.At.Col, B d.At.Pending] (R.gon Z 0 rfl)) (bn H fun b k2 H => cl (c_cursor_Return R d.At k2) ?_)
  rintro i4 t3 d0 ⟨e1, rfl⟩
  refine va (Q a) (va (.pointer (some ⟨a, 1, none⟩)) (md (gB 24 1 [I b.Row, I b.Col, B b.Pending] [D, I b.Row, I b.Col, B b.Pending, B d.Auto] 0 e1 Z ⟨rfl, rfl, rfl, trivial⟩) ?_))
  rintro w1 e0 f1
  refine bn H fun o l2 H => ?_
  obtain ⟨b1, g1, m1, x3, o3⟩ := Rel.put_place_Pen f1 (U.mono (d0.trans e0)) (E' := [(Eb a 42 [D, I b.Row, I b.Col, B b.Pending, B d.Auto])]) l2 ⟨a, D, (tm l), rfl, (j2.mono (d0.trans e0))⟩
  refine WL.nil ?_
  obtain rfl := si H
  exact n0 ⟨_, w1, rfl, rfl, pt, b1, g1, m1, rfl⟩
 refine sr (va (B (f.Kind == 9)) (va (B (f.Kind == 9)) (wln (cn H (fun m2 H => ?_) (fun m2 H => ?_)))))
 ·refine rD [12] (Kp G []) k ?_
  intro x1 f4 S
  have h0 : Kp G [] x1 := (Kp.nil S)
  refine ta 0 (Q a) (ta 1 (Q a) (ta 2 (Q a) (tkx 3 h0 (fun p h j => le1 0 underlying35 (j.gon g 0 rfl)) (ta 4 (Q a) (ta 5 (Q a) (ta 6 (.pointer (some ⟨a, 1, none⟩)) (ta 7 (.pointer (some ⟨a, 1, none⟩)) (tkx 8 h0 (fun p h j => le1 1 underlying3 (j.gon g 0 rfl)) (ta 9 (I i) (ta 10 (.pointer (some ⟨t, 0 + 1, none⟩)) (tx 11 (fun p h => l1 underlying3 ((mm q) 1 _ rfl)) (bn H fun l3 n2 H => o1 12 (gc 12 (c_scroll_Up S s.m e.G e.At.Row i f.A n.m n2) ?_)))))))))))))
  rintro j4 u3 g4 ⟨n3, T, X, rfl⟩
  refine ⟨.inl rfl, dn (bkn (nrm (W.region (va (Q a) (va (Q a) (va (Q a) (va (.pointer (some ⟨a, 1, none⟩)) (bn H fun d o2 H => ?_))))))))⟩
  obtain ⟨E, a0, p2⟩ := Rel.open_place_Pen X o2 (tm l)
  refine vx (leN 24 1 [I d.At.Row, I d.At.Col, B d.At.Pending] (T.gon a0 0 rfl)) (bn H fun b q2 H => cl (c_cursor_Return T d.At q2) ?_)
  rintro g3 w3 f0 ⟨i1, rfl⟩
  refine va (Q a) (va (.pointer (some ⟨a, 1, none⟩)) (md (gB 24 1 [I b.Row, I b.Col, B b.Pending] [E, I b.Row, I b.Col, B b.Pending, B d.Auto] 0 i1 a0 ⟨rfl, rfl, rfl, trivial⟩) ?_))
  rintro u0 u k0
  refine bn H fun o w0 H => ?_
  obtain ⟨i0, l0, s0, c3, w2⟩ := Rel.put_place_Pen k0 (X.mono (f0.trans u)) (E' := [(Eb a 42 [E, I b.Row, I b.Col, B b.Pending, B d.Auto])]) w0 ⟨a, E, (tm l), rfl, (p2.mono (f0.trans u))⟩
  refine WL.nil ?_
  obtain rfl := si H
  exact n0 ⟨_, u0, rfl, rfl, pt, i0, l0, s0, rfl⟩
 refine W.skip (bkn (nrm (W.region (va (Q a) (va (Q a) (va (Q a) (va (.pointer (some ⟨a, 1, none⟩)) (vx (leN 24 1 [I e.At.Row, I e.At.Col, B e.At.Pending] (k.gon g 0 rfl)) (bn H fun b x0 H => cl (c_cursor_Return k e.At x0) ?_)))))))))
 rintro h3 b3 y ⟨m0, rfl⟩
 refine va (Q a) (va (.pointer (some ⟨a, 1, none⟩)) (md (gB 24 1 [I b.Row, I b.Col, B b.Pending] [v17, I b.Row, I b.Col, B b.Pending, B e.Auto] 0 m0 g ⟨rfl, rfl, rfl, trivial⟩) ?_))
 rintro v0 z o0
 refine bn H fun o y0 H => ?_
 obtain ⟨j0, q0, t0, d3, x2⟩ := Rel.put_place_Pen o0 (s.mono (x.trans (b0.trans (y.trans z)))) (E' := [(Eb a 42 [v17, I b.Row, I b.Col, B b.Pending, B e.Auto])]) y0 ⟨a, v17, (tm l), rfl, (n.mono (b0.trans (y.trans z)))⟩
 refine WL.nil ?_
 obtain rfl := si H
 exact n0 ⟨_, v0, rfl, rfl, pt, j0, q0, t0, rfl⟩
def f_edit_line (sg : Sto) (p0 : Option Nat) (p1 : Int) : Option (Sto) :=
 (p0).bind fun f =>
 (sg.place_Pen[f]?).bind fun b =>
 (f_grid_Grid_Row sg b.G b.At.Row).bind fun a =>
 if (p1 == 0) = true then
 (f_erase_Right sg a b.At.Col).bind fun c =>
 some c
 else
 if (p1 == 1) = true then
 (f_erase_Left sg a b.At.Col).bind fun d =>
 some d
 else
 (f_erase_All sg a).bind fun e =>
 some e
theorem c_edit_line (O0 : Own c0 G F) (h : Rel c0 sg G) (hG : Gl [0, 4] c0) (Z : Option Nat) (d : Int) {r : Sto} (h2 : Pt 2 c0 v1 Z) (H : f_edit_line sg Z d = some r) :
    Calls prog 174 #[v1, I d] c0.w (Post c0 fun c v => ∃ G_ : Gm, Own c G_ (F) ∧ Rel c r G_ ∧ v = .tuple #[]) := by
 unfold f_edit_line at H
 refine en func174 rfl rfl (W.seq (rD [] (Kp G []) O0 ?_))
 intro c3 X q
 have p5 : Kp G [] c3 := (Kp.nil q)
 refine ta 0 (v1) (bn H fun o0 h8 H => ?_)
 obtain ⟨a, rfl, h7⟩ := ((h2.mono X)).get h8
 refine ta 1 (Q a) (ta 2 (Q a) (bn H fun g h9 H => ?_))
 obtain ⟨v10, f, E⟩ := Rel.open_place_Pen (h.mono X) h9 h7
 refine tkx 3 p5 (fun c' U j => le1 0 underlying35 (j.gon f 0 rfl)) (ta 4 (Q a) (ta 5 (Q a) (ta 6 (.pointer (some ⟨a, 1, none⟩)) (ta 7 (.pointer (some ⟨a, 1, none⟩)) (tkx 8 p5 (fun c' U j => le1 1 underlying3 (j.gon f 0 rfl)) (bn H fun e M H => o1 9 (gc 9 (c_grid_Grid_Row q h.m g.G g.At.Row E M) ?_)))))))
 rintro v14 y q0 ⟨_, b, rfl, i⟩
 have a0 : Kp G [] y := (Kp.nil b)
 refine ⟨.inr a0, ta 10 (v14) (dn (nrm (sr (va (I d) (wln (W.block (sr (va (B (d == 0)) (va (B (d == 0)) (wln (cn H (fun N H => ?_) (fun N H => ?_))))))))))))⟩
 ·refine W.region (va (v14) (va (Q a) (va (Q a) (va (.pointer (some ⟨a, 1, none⟩)) (va (.pointer (some ⟨a, 2, none⟩)) (vx (le1 2 underlying3 (b.gon f 0 rfl)) (bn H fun k0 P H => cl (c_erase_Right b h.m (hG.m.le (by decide)) e g.At.Col i P) ?_)))))))
  rintro v30 z s0 ⟨k, o, t, rfl⟩
  refine WL.nil (bkn ?_)
  obtain rfl := si H
  exact n0 ⟨_, z, rfl, rfl, pt, k, o, t, rfl⟩
 refine sr (va (B (d == 1)) (va (B (d == 1)) (wln (cn H (fun R H => ?_) (fun R H => ?_)))))
 ·refine W.region (va (v14) (va (Q a) (va (Q a) (va (.pointer (some ⟨a, 1, none⟩)) (va (.pointer (some ⟨a, 2, none⟩)) (vx (le1 2 underlying3 (b.gon f 0 rfl)) (bn H fun l0 S H => cl (c_erase_Left b h.m (hG.m.le (by decide)) e g.At.Col i S) ?_)))))))
  rintro v38 A t0 ⟨l, p, u, rfl⟩
  refine WL.nil (bkn ?_)
  obtain rfl := si H
  exact n0 ⟨_, A, rfl, rfl, pt, l, p, u, rfl⟩
 refine W.region (va (v14) (bn H fun m0 T H => cl (c_erase_All b h.m (hG.m.le (by decide)) e i T) ?_))
 rintro v45 D u0 ⟨n, s, x, rfl⟩
 refine WL.nil (bkn ?_)
 obtain rfl := si H
 exact n0 ⟨_, D, rfl, rfl, pt, n, s, x, rfl⟩
def f_edit_screen (sg : Sto) (p0 : Option Nat) (p1 : Int) : Option (Sto) :=
 (f_edit_line sg p0 p1).bind fun c =>
 (p0).bind fun b =>
 (c.place_Pen[b]?).bind fun p =>
 (f_grid_Grid_High c p.G).bind fun d =>
 (iter (σ := Int × Sto) (τ := Sto) ((d - 0).toNat + 1) (fun a =>
 if (decide (a.1 < d)) = true then
 ((orE (p1 == 2) ((andE (p1 == 0) ((a.2.place_Pen[b]?).bind fun j =>
 some (decide (a.1 > j.At.Row)))).bind fun f =>
 some f)).bind fun e =>
 (orE e ((andE (p1 == 1) ((a.2.place_Pen[b]?).bind fun k =>
 some (decide (a.1 < k.At.Row)))).bind fun h =>
 some h)).bind fun g =>
 if g = true then
 (a.2.place_Pen[b]?).bind fun l =>
 (f_grid_Grid_Row a.2 l.G a.1).bind fun m =>
 (f_erase_All a.2 m).bind fun n =>
 some (n)
 else
 some (a.2)).bind fun o =>
 some (.inl ((w64 (a.1 + 1)), o))
 else
 some (.inr (a.2))) (0, c)).bind fun i =>
 some i
theorem c_edit_screen (O0 : Own c0 G F) (R0 : Rel c0 sg G) (hG : Gl [0, 4] c0) (p0 : Option Nat) (f : Int) {r : Sto} (h2 : Pt 2 c0 v1 p0) (H : f_edit_screen sg p0 f = some r) :
    Calls prog 175 #[v1, I f] c0.w (Post c0 fun c v => ∃ G_ : Gm, Own c G_ (F) ∧ Rel c r G_ ∧ v = .tuple #[]) := by
 unfold f_edit_screen at H
 refine en func175 rfl rfl (sr (va (v1) (va (I f) (bn H fun q3 h3 H => cl (c_edit_line O0 R0 (hG.le (by decide)) p0 f h2 h3) ?_))))
 rintro v9 c8 l8 ⟨G4, O5, R6, rfl⟩
 refine wln (sr (va (v1) (bn H fun e3 j1 H => ?_)))
 obtain ⟨b, rfl, n⟩ := ((h2.mono l8)).get j1
 refine va (Q b) (va (Q b) (bn H fun k2 k1 H => ?_))
 obtain ⟨v14, n1, m1⟩ := Rel.open_place_Pen R6 k1 n
 refine vx (le1 0 underlying35 (O5.gon n1 0 rfl)) (bn H fun A q1 H => cl (c_grid_Grid_High O5 R6 k2.G m1 q1) ?_)
 rintro v23 R f3 ⟨x0, rfl⟩
 refine va (I 0) (wln (W.block (bn H fun u2 U T => lp U (fun a => Jn R fun c l => ∃ G_, Own c G_ (F) ∧ l = [(0, Q b), (1, I f), (12, I A), (13, I a.1)] ∧ Rel c a.2 G_) (fun S ex e w => ex = .exit 0 ∧ (Jn R fun c l => ∃ G_, Own c G_ (F) ∧ l = [] ∧ Rel c S G_) e w) ?_ ?_ ?_)))
 ·clear T U
  intro a s3 i1 l2 H
  revert i1 l2
  rintro e_ w_ ⟨i, x2, _, rfl, g3, rfl, D, g, rfl, j⟩
  refine sr (va (B (decide (a.1 < A))) (wln (W.seq (cn H (fun t1 H => ?_) (fun t1 H => ?_)))))
  ·refine W.skip (nrm (bn H fun t0 d w0 => W.seqJ (Jn i fun c l => ∃ G_, Own c G_ (F) ∧ l = [(0, Q b), (1, I f), (12, I A), (13, I a.1)] ∧ Rel c t0 G_) ?_ ?_))
   ·refine W.block (sr (va (I a.1) (va (I a.1) (wln (W.seq (bn d fun p2 X d => bn d fun j0 z d => W.join (Jn i fun c l => Own c D (F) ∧ l = [(0, Q b), (1, I f), (4, I a.1), (12, I A), (13, I a.1), (43, B j0)]) ?_ ?_))))))
    ·clear d
     refine W.region (va (I f) (va (B (f == 2)) ?_))
     rcases bo (f == 2) with o | o
     ·obtain rfl := orT o X
      refine vb o (ps (ps (ps (ps (ps (ps (ps (ps (ps (ps (ps (va (B true) ?_))))))))))))
      have Z : true = true := rfl
      obtain rfl := orT Z z
      exact vb Z (ps (ps (ps (ps (ps (ps (ps (ps (ps (ps (ps (va (B true) (wln ⟨i, _, _, rfl, pt, us, g, rfl⟩)))))))))))))
     have u := orF o X
     refine vb o (wn (va (I f) (wn (va (B (f == 0)) (wn (bn u fun q2 a0 u => ?_))))))
     rcases bo (f == 0) with p | p
     ·have E := anT p a0
      refine vb p (wn (va (I a.1) (wn (va (Q b) (wn (va (Q b) (wn (va (.pointer (some ⟨b, 1, none⟩)) (wn (va (.pointer (some ⟨b, 1, none⟩)) (wn (bn E fun k u1 E => ?_))))))))))))
      obtain ⟨v44, w1, b3⟩ := Rel.open_place_Pen j u1 (tm n)
      refine vx (le1 1 underlying3 (g.gon w1 0 rfl)) (wn (va (B (decide (a.1 > k.At.Row))) (wn ?_)))
      obtain rfl := si E
      refine va (B (decide (a.1 > k.At.Row))) ?_
      obtain rfl := si u
      refine va (B (decide (a.1 > k.At.Row))) ?_
      rcases bo (decide (a.1 > k.At.Row)) with q | q
      ·obtain rfl := orT q z
       exact vb q (ps (ps (ps (ps (ps (ps (ps (ps (ps (ps (ps (va (B true) (wln ⟨i, _, _, rfl, pt, us, g, rfl⟩)))))))))))))
      have x := orF q z
      refine vb q (wn (va (I f) (wn (va (B (f == 1)) (wn (bn x fun k0 b0 x => ?_))))))
      rcases bo (f == 1) with s | s
      ·have M := anT s b0
       refine vb s (wn (va (I a.1) (wn (va (Q b) (wn (va (Q b) (wn (va (.pointer (some ⟨b, 1, none⟩)) (wn (va (.pointer (some ⟨b, 1, none⟩)) (wn (bn M fun h x1 M => ?_))))))))))))
       obtain ⟨v53, y1, c3⟩ := Rel.open_place_Pen j x1 (tm n)
       refine vx (le1 1 underlying3 (g.gon y1 0 rfl)) (wn (va (B (decide (a.1 < h.At.Row))) (wn ?_)))
       obtain rfl := si M
       refine va (B (decide (a.1 < h.At.Row))) ?_
       obtain rfl := si x
       exact va (B (decide (a.1 < h.At.Row))) (wln ⟨i, _, _, rfl, pt, us, g, rfl⟩)
      obtain rfl := anF s b0
      refine vb s (ps (ps (ps (ps (ps (ps (ps (wn (va (B false) ?_)))))))))
      obtain rfl := si x
      exact va (B false) (wln ⟨i, _, _, rfl, pt, us, g, rfl⟩)
     obtain rfl := anF p a0
     refine vb p (ps (ps (ps (ps (ps (ps (ps (wn (va (B false) ?_)))))))))
     obtain rfl := si u
     refine va (B false) ?_
     have d0 : false = false := rfl
     have y := orF d0 z
     refine vb d0 (wn (va (I f) (wn (va (B (f == 1)) (wn (bn y fun k0 e0 y => ?_))))))
     rcases bo (f == 1) with t | t
     ·have N := anT t e0
      refine vb t (wn (va (I a.1) (wn (va (Q b) (wn (va (Q b) (wn (va (.pointer (some ⟨b, 1, none⟩)) (wn (va (.pointer (some ⟨b, 1, none⟩)) (wn (bn N fun h z1 N => ?_))))))))))))
      obtain ⟨m3, a2, d3⟩ := Rel.open_place_Pen j z1 (tm n)
      refine vx (le1 1 underlying3 (g.gon a2 0 rfl)) (wn (va (B (decide (a.1 < h.At.Row))) (wn ?_)))
      obtain rfl := si N
      refine va (B (decide (a.1 < h.At.Row))) ?_
      obtain rfl := si y
      exact va (B (decide (a.1 < h.At.Row))) (wln ⟨i, _, _, rfl, pt, us, g, rfl⟩)
     obtain rfl := anF t e0
     refine vb t (ps (ps (ps (ps (ps (ps (ps (wn (va (B false) ?_)))))))))
     obtain rfl := si y
     exact va (B false) (wln ⟨i, _, _, rfl, pt, us, g, rfl⟩)
    rintro e_ w_ ⟨e1, y2, _, rfl, j2, rfl, P, rfl⟩
    refine nrm (cn d (fun b2 d => ?_) (fun b2 d => ?_))
    ·refine W.region (va (Q b) (va (Q b) (va (Q b) (bn d fun m0 c2 d => ?_))))
     obtain ⟨n3, e2, d2⟩ := Rel.open_place_Pen (j.mono j2) c2 (tm n)
     refine vx (le1 0 underlying35 (P.gon e2 0 rfl)) (va (I a.1) (bn d fun s0 f2 d => cl (c_grid_Grid_Row P j.m m0.G a.1 d2 f2) ?_))
     rintro o3 w2 i3 ⟨_, z0, rfl, g2⟩
     refine bn d fun v2 i2 d => cl (c_erase_All z0 j.m (hG.m.le (by decide)) s0 g2 i2) ?_
     rintro p3 f1 j3 ⟨u0, a1, c1, rfl⟩
     refine WL.nil (bkn (nrm ?_))
     obtain rfl := si d
     exact ⟨f1, _, _, rfl, pt, us, u0, a1, rfl, c1⟩
    refine W.skip (bkn (nrm ?_))
    obtain rfl := si d
    exact ⟨e1, _, _, rfl, pt, us, D, P, rfl, j.m⟩
   rintro e_ w_ ⟨g1, z2, _, rfl, k3, rfl, v0, b1, rfl, d1⟩
   refine W.region (va (I (w64 (a.1 + 1))) (va (I (w64 (a.1 + 1))) (WL.nil ?_)))
   obtain rfl := si w0
   exact ⟨_, rfl, ⟨g1, _, _, rfl, pt, us, v0, b1, rfl, d1⟩⟩
  refine W.exit (thx ?_)
  obtain rfl := si H
  exact ⟨_, rfl, rfl, ⟨i, _, _, rfl, pt, us, D, g, rfl, j⟩⟩
 ·exact ⟨R, _, _, rfl, pt, us, G4, x0, rfl, R6.m⟩
 rintro _ e_ w_ ⟨rfl, h1, a3, _, rfl, l3, rfl, f0, g0, rfl, h0⟩
 refine bke ?_
 obtain rfl := si T
 exact n0 ⟨_, h1, rfl, rfl, pt, f0, g0, h0, rfl⟩
def f_edit_cells (sg : Sto) (p0 : Option Nat) (p1 : G_api_Op) : Option (Sto) :=
 (p0).bind fun e =>
 (sg.place_Pen[e]?).bind fun a =>
 (f_grid_Grid_Row sg a.G a.At.Row).bind fun c =>
 if (p1.Kind == 2) = true then
 (f_grid_Grid_Wide sg a.G).bind fun f =>
 (f_grid_Grid_High sg a.G).bind fun g =>
 (f_cursor_Move p1.A p1.B f g).bind fun h =>
 (sg.set_place_Pen e (⟨a.G, h, a.Auto⟩ : G_place_Pen)).bind fun d =>
 some d
 else
 if (p1.Kind == 3) = true then
 (f_edit_line sg p0 p1.A).bind fun i =>
 some i
 else
 if (p1.Kind == 4) = true then
 (f_edit_screen sg p0 p1.A).bind fun j =>
 some j
 else
 if (p1.Kind == 5) = true then
 (f_erase_Cells sg c a.At.Col p1.A).bind fun k =>
 some k
 else
 if (p1.Kind == 6) = true then
 (f_shift_Insert sg c a.At.Col p1.A).bind fun l =>
 some l
 else
 if (p1.Kind == 7) = true then
 (f_shift_Delete sg c a.At.Col p1.A).bind fun m =>
 some m
 else
 if (p1.Kind == 12) = true then
 (sg.set_place_Pen e (⟨a.G, a.At, p1.A != 0⟩ : G_place_Pen)).bind fun b =>
 some b
 else
 some sg
theorem c_edit_cells (O0 : Own c0 G F) (k : Rel c0 sg G) (hG : Gl [0, 4] c0) (D : Option Nat) (b : G_api_Op) {r : Sto} (h2 : Pt 2 c0 v1 D) (h4 : Sl (RI .u8) c0 v3 b.Bytes) (H : f_edit_cells sg D b = some r) :
    Calls prog 102 #[v1, .agg #[I b.Kind, I b.A, I b.B, v3]] c0.w (Post c0 fun c v => ∃ G_ : Gm, Own c G_ (F) ∧ Rel c r G_ ∧ v = .tuple #[]) := by
 unfold f_edit_cells at H
 refine en func102 rfl rfl (sr ?_)
 obtain ⟨a5, a6, a7, rfl⟩ := (h4).form
 refine me (bx 59 [I b.Kind, I b.A, I b.B, .slice a5 a6 a7] O0) ?_
 rintro v12 d4 q ⟨n, rfl, O9, i⟩
 refine wln (W.seq (rD [] (Kp G []) O9 ?_))
 intro a2 s E
 have e0 : Kp G [] a2 := (Kp.nil E)
 refine ta 0 (v1) (bn H fun f4 m2 H => ?_)
 obtain ⟨a, rfl, x⟩ := ((h2.mono (q.trans s))).get m2
 refine ta 1 (Q a) (ta 2 (Q a) (bn H fun d n2 H => ?_))
 obtain ⟨v20, h, o⟩ := Rel.open_place_Pen (k.mono (q.trans s)) n2 x
 refine tkx 3 e0 (fun l f j => le1 0 underlying35 (j.gon h 0 rfl)) (ta 4 (Q a) (ta 5 (Q a) (ta 6 (.pointer (some ⟨a, 1, none⟩)) (ta 7 (.pointer (some ⟨a, 1, none⟩)) (tkx 8 e0 (fun l f j => le1 1 underlying3 (j.gon h 0 rfl)) (bn H fun p o2 H => o1 9 (gc 9 (c_grid_Grid_Row E k.m d.G d.At.Row o o2) ?_)))))))
 rintro v24 U t ⟨_, g, rfl, y⟩
 have c3 : Kp G [] U := (Kp.nil g)
 refine ⟨.inr c3, ta 10 (v24) (dn (nrm (sr (va (Q n) (vx (l1 underlying3 ((mm i) 0 _ rfl)) (wln (W.block (sr (va (B (b.Kind == 2)) (va (B (b.Kind == 2)) (wln (cn H (fun p2 H => ?_) (fun p2 H => ?_)))))))))))))⟩
 ·refine rD [18] (Kp G []) g ?_
  intro b2 X M
  have f0 : Kp G [] b2 := (Kp.nil M)
  refine ta 0 (Q a) (ta 1 (.pointer (some ⟨n, 0 + 1, none⟩)) (tx 2 (fun l f => l1 underlying3 ((mm i) 1 _ rfl)) (ta 3 (.pointer (some ⟨n, 0 + 2, none⟩)) (tx 4 (fun l f => l1 underlying3 ((mm i) 2 _ rfl)) (ta 5 (Q a) (ta 6 (Q a) (ta 7 (Q a) (tkx 8 f0 (fun l f j => le1 0 underlying35 (j.gon h 0 rfl)) (ta 10 (Q a) (ta 11 (Q a) (ta 12 (Q a) (tkx 13 f0 (fun l f j => le1 0 underlying35 (j.gon h 0 rfl)) (bn H fun f1 q2 H => o1 9 (gc 9 (c_grid_Grid_Wide M k.m d.G o.m q2) ?_))))))))))))))
  rintro v43 c2 Z ⟨N, rfl⟩
  have d3 : Kp G [] c2 := (Kp.nil N)
  refine ⟨.inr d3, bn H fun g1 s2 H => o1 14 (gc 14 (c_grid_Grid_High N k.m d.G o.m s2) ?_)⟩
  rintro v51 d2 a0 ⟨P, rfl⟩
  have e3 : Kp G [] d2 := (Kp.nil P)
  refine ⟨.inr e3, bn H fun e t2 H => o1 15 (gc 15 (c_cursor_Move P b.A b.B f1 g1 t2) ?_)⟩
  rintro v59 e2 b0 ⟨R, rfl⟩
  have f3 : Kp G [] e2 := (Kp.nil R)
  refine ⟨.inr f3, ta 16 (Q a) (ta 17 (.pointer (some ⟨a, 1, none⟩)) (o1 18 (gD 18 (gB 24 1 [I e.Row, I e.Col, B e.Pending] [v20, I e.Row, I e.Col, B e.Pending, B d.Auto] 0 R h ⟨rfl, rfl, rfl, trivial⟩) ?_)))⟩
  rintro f2 d0 n1
  refine bn H fun h1 u2 H => ?_
  obtain ⟨i1, q1, w1, e4, c4⟩ := Rel.put_place_Pen n1 (k.mono (q.trans (s.trans (t.trans (X.trans (Z.trans (a0.trans (b0.trans d0)))))))) (E' := [(Eb a 42 [v20, I e.Row, I e.Col, B e.Pending, B d.Auto])]) u2 ⟨a, v20, (tm x), rfl, (o.mono (t.trans (X.trans (Z.trans (a0.trans (b0.trans d0))))))⟩
  refine ⟨.inl rfl, dn (bkn ?_)⟩
  obtain rfl := si H
  exact n0 ⟨_, f2, rfl, rfl, pt, i1, q1, w1, rfl⟩
 refine sr (va (B (b.Kind == 3)) (va (B (b.Kind == 3)) (wln (cn H (fun v2 H => ?_) (fun v2 H => ?_)))))
 ·refine W.region (va (Q a) (va (.pointer (some ⟨n, 0 + 1, none⟩)) (vx (l1 underlying3 ((mm i) 1 _ rfl)) (bn H fun x3 w2 H => cl (c_edit_line g k.m (hG.m.le (by decide)) D b.A h2.m w2) ?_))))
  rintro m4 g2 g4 ⟨j1, s1, x1, rfl⟩
  refine WL.nil (bkn ?_)
  obtain rfl := si H
  exact n0 ⟨_, g2, rfl, rfl, pt, j1, s1, x1, rfl⟩
 refine sr (va (B (b.Kind == 4)) (va (B (b.Kind == 4)) (wln (cn H (fun x2 H => ?_) (fun x2 H => ?_)))))
 ·refine W.region (va (Q a) (va (.pointer (some ⟨n, 0 + 1, none⟩)) (vx (l1 underlying3 ((mm i) 1 _ rfl)) (bn H fun y3 y2 H => cl (c_edit_screen g k.m (hG.m.le (by decide)) D b.A h2.m y2) ?_))))
  rintro n4 i2 i4 ⟨k1, t1, y1, rfl⟩
  refine WL.nil (bkn ?_)
  obtain rfl := si H
  exact n0 ⟨_, i2, rfl, rfl, pt, k1, t1, y1, rfl⟩
 refine sr (va (B (b.Kind == 5)) (va (B (b.Kind == 5)) (wln (cn H (fun z2 H => ?_) (fun z2 H => ?_)))))
 ·refine rD [8] (Kp G []) g ?_
  intro j2 j4 S
  have g3 : Kp G [] j2 := (Kp.nil S)
  refine ta 0 (v24) (ta 1 (Q a) (ta 2 (Q a) (ta 3 (.pointer (some ⟨a, 1, none⟩)) (ta 4 (.pointer (some ⟨a, 2, none⟩)) (tkx 5 g3 (fun l f j => le1 2 underlying3 (j.gon h 0 rfl)) (ta 6 (.pointer (some ⟨n, 0 + 1, none⟩)) (tx 7 (fun l f => l1 underlying3 ((mm i) 1 _ rfl)) (bn H fun z3 a3 H => o1 8 (gc 8 (c_erase_Cells S k.m (hG.m.le (by decide)) p d.At.Col b.A y.m a3) ?_)))))))))
  rintro o4 k2 k4 ⟨m1, u1, z1, rfl⟩
  refine ⟨.inl rfl, dn (bkn ?_)⟩
  obtain rfl := si H
  exact n0 ⟨_, k2, rfl, rfl, pt, m1, u1, z1, rfl⟩
 refine sr (va (B (b.Kind == 6)) (va (B (b.Kind == 6)) (wln (cn H (fun b3 H => ?_) (fun b3 H => ?_)))))
 ·refine rD [8] (Kp G []) g ?_
  intro l2 l4 T
  have h3 : Kp G [] l2 := (Kp.nil T)
  refine ta 0 (v24) (ta 1 (Q a) (ta 2 (Q a) (ta 3 (.pointer (some ⟨a, 1, none⟩)) (ta 4 (.pointer (some ⟨a, 2, none⟩)) (tkx 5 h3 (fun l f j => le1 2 underlying3 (j.gon h 0 rfl)) (ta 6 (.pointer (some ⟨n, 0 + 1, none⟩)) (tx 7 (fun l f => l1 underlying3 ((mm i) 1 _ rfl)) (bn H fun a4 x0 H => o1 8 (gc 8 (c_shift_Insert T k.m (hG.m.le (by decide)) p d.At.Col b.A y.m x0) ?_)))))))))
  rintro u3 t0 q3 ⟨g0, j0, o0, rfl⟩
  refine ⟨.inl rfl, dn (bkn ?_)⟩
  obtain rfl := si H
  exact n0 ⟨_, t0, rfl, rfl, pt, g0, j0, o0, rfl⟩
 refine sr (va (B (b.Kind == 7)) (va (B (b.Kind == 7)) (wln (cn H (fun y0 H => ?_) (fun y0 H => ?_)))))
 ·refine rD [8] (Kp G []) g ?_
  intro u0 s3 u
  have d1 : Kp G [] u0 := (Kp.nil u)
  refine ta 0 (v24) (ta 1 (Q a) (ta 2 (Q a) (ta 3 (.pointer (some ⟨a, 1, none⟩)) (ta 4 (.pointer (some ⟨a, 2, none⟩)) (tkx 5 d1 (fun l f j => le1 2 underlying3 (j.gon h 0 rfl)) (ta 6 (.pointer (some ⟨n, 0 + 1, none⟩)) (tx 7 (fun l f => l1 underlying3 ((mm i) 1 _ rfl)) (bn H fun b4 z0 H => o1 8 (gc 8 (c_shift_Delete u k.m (hG.m.le (by decide)) p d.At.Col b.A y.m z0) ?_)))))))))
  rintro w3 v0 t3 ⟨h0, k0, q0, rfl⟩
  refine ⟨.inl rfl, dn (bkn ?_)⟩
  obtain rfl := si H
  exact n0 ⟨_, v0, rfl, rfl, pt, h0, k0, q0, rfl⟩
 refine sr (va (B (b.Kind == 12)) (va (B (b.Kind == 12)) (wln (cn H (fun a1 H => ?_) (fun a1 H => ?_)))))
 ·refine W.region (va (Q a) (va (.pointer (some ⟨n, 0 + 1, none⟩)) (vx (l1 underlying3 ((mm i) 1 _ rfl)) (va (B (b.A != 0)) (va (Q a) (va (.pointer (some ⟨a, 4, none⟩)) (md (gC 4 4 (B (b.A != 0)) [v20, I d.At.Row, I d.At.Col, B d.At.Pending, B (b.A != 0)] 0 g h ⟨rfl, trivial⟩) ?_)))))))
  rintro w0 z l0
  refine bn H fun e1 b1 H => ?_
  obtain ⟨i0, m0, s0, o3, k3⟩ := Rel.put_place_Pen l0 (k.mono (q.trans (s.trans (t.trans z)))) (E' := [(Eb a 42 [v20, I d.At.Row, I d.At.Col, B d.At.Pending, B (b.A != 0)])]) b1 ⟨a, v20, (tm x), rfl, (o.mono (t.trans z))⟩
  refine WL.nil (bkn ?_)
  obtain rfl := si H
  exact n0 ⟨_, w0, rfl, rfl, pt, i0, m0, s0, rfl⟩
 refine W.skip (bkn ?_)
 obtain rfl := si H
 exact n0 ⟨_, U, rfl, rfl, pt, G, g, k.m, rfl⟩
def f_edit_Do (sg : Sto) (p0 : Option Nat) (p1 : G_api_Op) : Option (Sto × Er) :=
 (f_edit_Wrong p1).bind fun g =>
 if (!g.isNil) = true then
 some (sg, g)
 else
 (orE p0.isNone ((p0).bind fun i =>
 (sg.place_Pen[i]?).bind fun j =>
 some j.G.isNone)).bind fun h =>
 if h = true then
 some (sg, Er.nil)
 else
 (p0).bind fun d =>
 (sg.place_Pen[d]?).bind fun b =>
 (f_grid_Grid_Wide sg b.G).bind fun k =>
 (f_grid_Grid_High sg b.G).bind fun l =>
 (f_cursor_Hold b.At k l).bind fun e =>
 (sg.set_place_Pen d (⟨b.G, e, b.Auto⟩ : G_place_Pen)).bind fun f =>
 (f.set_place_Pen d (⟨b.G, (⟨e.Row, e.Col, false⟩ : G_api_Cursor), b.Auto⟩ : G_place_Pen)).bind fun a =>
 (if (p1.Kind == 8) = true then
 (f_edit_rows a p0 p1).bind fun c =>
 some (c)
 else
 if (p1.Kind == 9) = true then
 (f_edit_rows a p0 p1).bind fun c =>
 some (c)
 else
 (if (p1.Kind == 10) = true then
 some (p1.Kind == 10)
 else
 some (p1.Kind == 11)).bind fun o =>
 if o = true then
 (f_edit_rows a p0 p1).bind fun c =>
 some (c)
 else
 (f_edit_cells a p0 p1).bind fun m =>
 some (m)).bind fun n =>
 some (n, Er.nil)
theorem c_edit_Do (O0 : Own c0 G F) (t : Rel c0 sg G) (hG : Gl [0, 4] c0) (s : Option Nat) (e : G_api_Op) {r : Sto × Er} (u : Pt 2 c0 v1 s) (P : Sl (RI .u8) c0 v3 e.Bytes) (H : f_edit_Do sg s e = some r) :
    Calls prog 30 #[v1, .agg #[I e.Kind, I e.A, I e.B, v3]] c0.w (Post c0 fun c v => ∃ y1, ∃ G_ : Gm, Own c G_ (F) ∧ Rel c r.1 G_ ∧ v = y1 ∧ RE 305 179 c y1 r.2) := by
 unfold f_edit_Do at H
 refine en func30 rfl rfl (sr ?_)
 obtain ⟨a5, a6, a7, rfl⟩ := (P).form
 refine me (bx 59 [I e.Kind, I e.A, I e.B, .slice a5 a6 a7] O0) ?_
 rintro v12 v4 p ⟨b8, rfl, O9, k⟩
 refine va (.nilIface) (wln (W.seq (sr (vx (lN 59 k) (bn H fun w3 y2 H => cl (c_edit_Wrong O9 (hG.m.le (by decide)) e P.m y2) ?_)))))
 rintro v14 D q ⟨_, x, rfl, o0⟩
 refine va (v14) (wln (sr (va (v14) (vr (B (!w3.isNil)) (by rcases (o0).cs with ⟨h, i⟩ | ⟨b_, h, i⟩ | ⟨b_, h, i⟩ <;> (subst h; rw [i]; kernel_rfl)) (wln (cn H (fun z2 H => ?_) (fun z2 H => ?_)))))))
 ·refine sr (va (v14) (va (v14) (wln (W.ret (thr ?_)))))
  obtain rfl := si H
  exact r1 ⟨_, D, rfl, rfl, pt, v14, G, x, t.m, rfl, o0⟩
 refine W.skip (nrm (W.seq (W.seq (bn H fun n1 q0 H => W.join (Jn D fun c l => Own c G (F) ∧ l = [(0, v1), (3, Q b8), (19, B n1)]) ?_ ?_))))
 ·clear H
  refine W.region (va (v1) (vr (B s.isNone) (by rcases u.m.cs with ⟨h, i⟩ | ⟨b_, h, i⟩ <;> (subst h; rw [i]; kernel_rfl)) ?_))
  rcases bo (s.isNone) with o | o
  ·obtain rfl := orT o q0
   exact vb o (ps (ps (ps (ps (ps (va (B true) (wln ⟨D, _, _, rfl, pt, us, x, rfl⟩)))))))
  have n := orF o q0
  refine vb o (wn (va (v1) (wn (bn n fun g4 b3 n => ?_))))
  obtain ⟨m0, rfl, a3⟩ := ((u.mono (p.trans q))).get b3
  refine va (Q m0) (wn (va (Q m0) (wn (bn n fun e0 c3 n => ?_))))
  obtain ⟨v30, e3, d3⟩ := Rel.open_place_Pen (t.mono (p.trans q)) c3 a3
  refine vx (le1 0 underlying35 (x.gon e3 0 rfl)) (wn (vr (B e0.G.isNone) (by rcases (d3).cs with ⟨h, i⟩ | ⟨b_, h, i⟩ <;> (subst h; rw [i]; kernel_rfl)) ?_))
  obtain rfl := si n
  exact va (B e0.G.isNone) (wln ⟨D, _, _, rfl, pt, us, x, rfl⟩)
 rintro e_ w_ ⟨q2, x4, _, rfl, U, rfl, h0, rfl⟩
 refine nrm (cn H (fun f3 H => ?_) (fun f3 H => ?_))
 ·refine sr (va (.nilIface) (wln (W.ret (thr ?_))))
  obtain rfl := si H
  exact r1 ⟨_, q2, rfl, rfl, pt, .nilIface, G, h0, t.m, rfl, rfl⟩
 refine W.skip (nrm (W.seq (rD [18] (Kp G []) h0 ?_)))
 intro s2 X i0
 have f0 : Kp G [] s2 := (Kp.nil i0)
 refine ta 0 (v1) (ta 1 (v1) (bn H fun i4 g3 H => ?_))
 obtain ⟨a, rfl, S⟩ := ((u.mono (p.trans (q.trans (U.trans X))))).get g3
 refine ta 2 (Q a) (ta 3 (.pointer (some ⟨a, 1, none⟩)) (bn H fun d h3 H => ?_))
 obtain ⟨v47, N, M⟩ := Rel.open_place_Pen (t.mono (p.trans (q.trans (U.trans X)))) h3 S
 refine tkx 4 f0 (fun c' s0 T => leN 24 1 [I d.At.Row, I d.At.Col, B d.At.Pending] (T.gon N 0 rfl)) (ta 5 (Q a) (ta 6 (Q a) (ta 7 (Q a) (tkx 8 f0 (fun c' s0 T => le1 0 underlying35 (T.gon N 0 rfl)) (ta 10 (Q a) (ta 11 (Q a) (ta 12 (Q a) (tkx 13 f0 (fun c' s0 T => le1 0 underlying35 (T.gon N 0 rfl)) (bn H fun z1 i3 H => o1 9 (gc 9 (c_grid_Grid_Wide i0 t.m d.G M i3) ?_))))))))))
 rintro v56 t2 Z ⟨j0, rfl⟩
 have q3 : Kp G [] t2 := (Kp.nil j0)
 refine ⟨.inr q3, bn H fun a2 j3 H => o1 14 (gc 14 (c_grid_Grid_High j0 t.m d.G M.m j3) ?_)⟩
 rintro b5 u2 a0 ⟨k0, rfl⟩
 have s3 : Kp G [] u2 := (Kp.nil k0)
 refine ⟨.inr s3, bn H fun b k3 H => o1 15 (gc 15 (c_cursor_Hold k0 d.At z1 a2 k3) ?_)⟩
 rintro c5 v2 b0 ⟨l0, rfl⟩
 have t3 : Kp G [] v2 := (Kp.nil l0)
 refine ⟨.inr t3, ta 16 (Q a) (ta 17 (.pointer (some ⟨a, 1, none⟩)) (o1 18 (gD 18 (gB 24 1 [I b.Row, I b.Col, B b.Pending] [v47, I b.Row, I b.Col, B b.Pending, B d.Auto] 0 l0 N ⟨rfl, rfl, rfl, trivial⟩) ?_)))⟩
 rintro w4 d0 j2
 refine bn H fun d2 m3 H => ?_
 obtain ⟨s4, k2, n2, l3, t4⟩ := Rel.put_place_Pen j2 (t.mono (p.trans (q.trans (U.trans (X.trans (Z.trans (a0.trans (b0.trans d0)))))))) (E' := [(Eb a 42 [v47, I b.Row, I b.Col, B b.Pending, B d.Auto])]) m3 ⟨a, v47, (tm S), rfl, (M.mono (Z.trans (a0.trans (b0.trans d0))))⟩
 refine ⟨.inl rfl, dn (nrm (sr (va (Q a) (va (Q a) (va (.pointer (some ⟨a, 1, none⟩)) (va (.pointer (some ⟨a, 3, none⟩)) (md (gC 4 3 (B false) [v47, I b.Row, I b.Col, B false, B d.Auto] 0 k2 l3 ⟨rfl, trivial⟩) ?_)))))))⟩
 rintro E t0 l2
 refine bn H fun e2 n3 H => ?_
 obtain ⟨f2, y, z, y4, u4⟩ := Rel.put_place_Pen l2 (n2.mono t0) (E' := [(Eb a 42 [v47, I b.Row, I b.Col, B false, B d.Auto])]) n3 ⟨a, v47, (tm S), rfl, (M.mono (Z.trans (a0.trans (b0.trans (d0.trans t0)))))⟩
 refine wln (bn H fun b2 f i2 => W.seqJ (Jn E fun c l => ∃ G_, Own c G_ (F) ∧ l = [] ∧ Rel c b2 G_) ?_ ?_)
 ·refine sr (va (Q b8) (vx (l1 underlying3 ((mm k) 0 _ rfl)) (wln (W.block (W.seq (W.block (W.seq (W.block (W.block (W.block (W.seq (W.seq (sr (va (B (e.Kind == 8)) (va (B (e.Kind == 8)) (wln (cn f (fun o3 f => ?_) (fun o3 f => ?_))))))))))))))))))
  ·refine W.exit (thx (thx (bke (bkn (bkn (nrm (sr (va (Q a) (vx (lN 59 (mm k)) (bn f fun g0 p3 f => cl (c_edit_rows y z s e u.m P.m p3) ?_))))))))))
   rintro d5 w2 z4 ⟨g2, m2, o2, rfl⟩
   refine wln (W.exit (bko rfl (thx (bke (nrm ?_)))))
   obtain rfl := si f
   exact ⟨w2, _, _, rfl, pt, us, g2, m2, rfl, o2⟩
  refine W.skip (nrm (W.seq (sr (va (B (e.Kind == 9)) (va (B (e.Kind == 9)) (wln (cn f (fun q1 f => ?_) (fun q1 f => ?_))))))))
  ·refine W.exit (thx (thx (bko rfl (bke (bkn (nrm (sr (va (Q a) (vx (lN 59 (mm k)) (bn f fun g0 s1 f => cl (c_edit_rows y z s e u.m P.m s1) ?_))))))))))
   rintro o4 i1 j4 ⟨u0, y0, c1, rfl⟩
   refine wln (W.exit (bko rfl (thx (bke (nrm ?_)))))
   obtain rfl := si f
   exact ⟨i1, _, _, rfl, pt, us, u0, y0, rfl, c1⟩
  refine W.skip (nrm (bn f fun c2 j g => W.seqJ (Jn E fun c l => Own c f2 (F) ∧ l = [(0, Q a), (3, Q b8), (48, B c2)]) ?_ ?_))
  ·refine sr (va (B (e.Kind == 10)) (va (B (e.Kind == 10)) (wln (cn j (fun t1 j => ?_) (fun t1 j => ?_)))))
   ·refine W.skip (nrm ?_)
    obtain rfl := si j
    exact ⟨E, _, _, rfl, pt, us, y, rfl⟩
   refine W.region (va (B (e.Kind == 11)) (va (B (e.Kind == 11)) (wln ?_)))
   obtain rfl := si j
   exact ⟨E, _, _, rfl, pt, us, y, rfl⟩
  rintro e_ w_ ⟨d4, e4, _, rfl, k4, rfl, R, rfl⟩
  refine cn g (fun u1 g => ?_) (fun u1 g => ?_)
  ·refine W.exit (thx (bko rfl (bko rfl (bke (nrm (sr (va (Q a) (vx (lN 59 (mm k)) (bn g fun g0 w1 g => cl (c_edit_rows R z.m s e u.m P.m w1) ?_)))))))))
   rintro p4 j1 l4 ⟨v0, z0, d1, rfl⟩
   refine wln (W.exit (bko rfl (thx (bke (nrm ?_)))))
   obtain rfl := si g
   exact ⟨j1, _, _, rfl, pt, us, v0, z0, rfl, d1⟩
  refine W.skip (nrm (W.exit (bko rfl (bko rfl (bko rfl (thx (bke (nrm (sr (va (Q a) (vx (lN 59 (mm k)) (bn g fun r4 x1 g => cl (c_edit_cells R z.m (hG.m.le (by decide)) s e u.m P.m x1) ?_))))))))))))
  rintro q4 k1 m4 ⟨w0, a1, e1, rfl⟩
  refine wln (W.exit (bke (nrm ?_)))
  obtain rfl := si g
  exact ⟨k1, _, _, rfl, pt, us, w0, a1, rfl, e1⟩
 rintro e_ w_ ⟨m1, f4, _, rfl, n4, rfl, x0, b1, rfl, f1⟩
 refine sr (va (.nilIface) (wln (W.ret ?_)))
 obtain rfl := si i2
 exact r1 ⟨_, m1, rfl, rfl, pt, .nilIface, x0, b1, f1, rfl, rfl⟩
def f_linotyperef38_act (p0 : G_linotyperef34_Pen) (p1 : Int) (p2 : Int) (p3 : Int) (p4 : Int) : Option (G_linotyperef34_Pen) :=
 (idx p0.L p1).bind fun d =>
 (idx p0.L p1).bind fun b =>
 (f_linotyperef26_Act d.Cells b.Wrap p2 p3 p4).bind fun a =>
 (f_linotyperef34_Pen_With p0 p1 (⟨a.1, a.2⟩ : G_api_Line)).bind fun c =>
 some c
def f_linotyperef38_lines (p0 : G_linotyperef34_Pen) (p1 : Int) (p2 : Int) : Option (G_linotyperef34_Pen) :=
 (idx ([2, 1, 3] : List Int) p2).bind fun k =>
 (f_linotyperef38_act p0 p0.At.Row k p0.At.Col 0).bind fun b =>
 (iter (σ := Int × (List G_api_Line) × Int × Int × Bool × Bool) (τ := ((List G_api_Line) × Int × Int × Bool × Bool)) (((b.L.length : Int) - 0).toNat + 1) (fun a =>
 (andE (decide (a.1 < (a.2.1.length : Int))) (some (p1 == 4))).bind fun f =>
 if f = true then
 ((orE (p2 == 2) ((andE (p2 == 0) (some (decide (a.1 > a.2.2.1)))).bind fun h =>
 some h)).bind fun g =>
 (orE g ((andE (p2 == 1) (some (decide (a.1 < a.2.2.1)))).bind fun j =>
 some j)).bind fun i =>
 if i = true then
 (f_linotyperef38_act (⟨a.2.1, (⟨a.2.2.1, a.2.2.2.1, a.2.2.2.2.1⟩ : G_api_Cursor), a.2.2.2.2.2⟩ : G_linotyperef34_Pen) a.1 3 0 0).bind fun d =>
 some (d.L, d.At.Row, d.At.Col, d.At.Pending, d.Auto)
 else
 some (a.2.1, a.2.2.1, a.2.2.2.1, a.2.2.2.2.1, a.2.2.2.2.2)).bind fun e =>
 some (.inl ((w64 (a.1 + 1)), e.1, e.2.1, e.2.2.1, e.2.2.2.1, e.2.2.2.2))
 else
 some (.inr (a.2.1, a.2.2.1, a.2.2.2.1, a.2.2.2.2.1, a.2.2.2.2.2))) (0, b.L, b.At.Row, b.At.Col, b.At.Pending, b.Auto)).bind fun c =>
 some (⟨c.1, (⟨c.2.1, c.2.2.1, c.2.2.2.1⟩ : G_api_Cursor), c.2.2.2.2⟩ : G_linotyperef34_Pen)
def f_linotyperef38_Do (p0 : G_linotyperef34_Pen) (p1 : G_api_Op) : Option (G_linotyperef34_Pen) :=
 (f_linotyperef34_Pen_Hold p0).bind fun a =>
 (idx a.L a.At.Row).bind fun c =>
 (if (p1.Kind == 2) = true then
 (f_linotyperef34_Pen_Wide (⟨a.L, (⟨a.At.Row, a.At.Col, false⟩ : G_api_Cursor), a.Auto⟩ : G_linotyperef34_Pen)).bind fun o =>
 (f_linotyperef31_Hold (⟨p1.A, p1.B, false⟩ : G_api_Cursor) o (a.L.length : Int)).bind fun h =>
 some (c.Cells, false, a.L, h.Row, h.Col, h.Pending, a.Auto)
 else
 (if (p1.Kind == 3) = true then
 some (p1.Kind == 3)
 else
 some (p1.Kind == 4)).bind fun p =>
 if p = true then
 (f_linotyperef38_lines (⟨a.L, (⟨a.At.Row, a.At.Col, false⟩ : G_api_Cursor), a.Auto⟩ : G_linotyperef34_Pen) p1.Kind p1.A).bind fun f =>
 some (c.Cells, false, f.L, f.At.Row, f.At.Col, f.At.Pending, f.Auto)
 else
 if (p1.Kind == 5) = true then
 (f_linotyperef38_act (⟨a.L, (⟨a.At.Row, a.At.Col, false⟩ : G_api_Cursor), a.Auto⟩ : G_linotyperef34_Pen) a.At.Row 4 a.At.Col p1.A).bind fun g =>
 some (c.Cells, false, g.L, g.At.Row, g.At.Col, g.At.Pending, g.Auto)
 else
 if (p1.Kind == 6) = true then
 (f_linotyperef27_Insert c.Cells a.At.Col p1.A).bind fun j =>
 some (j.1, j.2, a.L, a.At.Row, a.At.Col, false, a.Auto)
 else
 if (p1.Kind == 7) = true then
 (f_linotyperef27_Delete c.Cells a.At.Col p1.A).bind fun i =>
 some (i.1, i.2, a.L, a.At.Row, a.At.Col, false, a.Auto)
 else
 (if (p1.Kind == 8) = true then
 some (p1.Kind == 8)
 else
 some (p1.Kind == 9)).bind fun m =>
 if m = true then
 (f_linotyperef33_Move a.L a.At.Row (a.L.length : Int) p1.A (p1.Kind == 9)).bind fun k =>
 some (c.Cells, false, k, a.At.Row, 0, false, a.Auto)
 else
 (if (p1.Kind == 10) = true then
 some (p1.Kind == 10)
 else
 some (p1.Kind == 11)).bind fun n =>
 if n = true then
 (f_linotyperef33_Move a.L 0 (a.L.length : Int) p1.A (p1.Kind == 10)).bind fun l =>
 some (c.Cells, false, l, a.At.Row, a.At.Col, false, a.Auto)
 else
 if (p1.Kind == 12) = true then
 some (c.Cells, false, a.L, a.At.Row, a.At.Col, false, p1.A != 0)
 else
 some (c.Cells, false, a.L, a.At.Row, a.At.Col, false, a.Auto)).bind fun b =>
 (if b.2.1 = true then
 (f_linotyperef34_Pen_With (⟨b.2.2.1, (⟨b.2.2.2.1, b.2.2.2.2.1, b.2.2.2.2.2.1⟩ : G_api_Cursor), b.2.2.2.2.2.2⟩ : G_linotyperef34_Pen) a.At.Row (⟨b.1, false⟩ : G_api_Line)).bind fun d =>
 some (d.L, d.At.Row, d.At.Col, d.At.Pending, d.Auto)
 else
 some (b.2.2.1, b.2.2.2.1, b.2.2.2.2.1, b.2.2.2.2.2.1, b.2.2.2.2.2.2)).bind fun e =>
 some (⟨e.1, (⟨e.2.1, e.2.2.1, e.2.2.2.1⟩ : G_api_Cursor), e.2.2.2.2⟩ : G_linotyperef34_Pen)
def f_cursor_Right (p0 : G_api_Cursor) (p1 : Int) (p2 : Int) : Option (Bool) :=
 (f_cursor_Hold p0 p1 p2).bind fun a =>
 some (p0.Row == a.Row && (p0.Col == a.Col && (p0.Pending == a.Pending && true)))
theorem c_cursor_Right (l : Own c0 G F) (a : G_api_Cursor) (d : Int) (e : Int) {r : Bool} (H : f_cursor_Right a d e = some r) :
    Calls prog 32 #[.agg #[I a.Row, I a.Col, B a.Pending], I d, I e] c0.w (Post c0 fun c v => Own c G (F) ∧ v = B r) := by
 unfold f_cursor_Right at H
 refine en func32 rfl rfl (sr (me (bx 24 [I a.Row, I a.Col, B a.Pending] l) ?_))
 rintro v5 t u ⟨s, rfl, m, j⟩
 refine va (B false) (wln (W.seq (rD [] (Kp G0 []) m ?_)))
 intro o x n
 have y : Kp G0 [] o := Kp.nil0
 refine tx 0 (fun i g => lN 24 (mm j)) (tx 1 (fun i g => lN 24 (mm j)) (ta 2 (I d) (ta 3 (I e) (bn H fun b p H => o1 4 (gc 4 (c_cursor_Hold n a d e p) ?_)))))
 rintro v15 f q ⟨h, rfl⟩
 have k : Kp G0 [] f := Kp.nil0
 refine ⟨.inr k, AC.take 5 (B (a.Row == b.Row && (a.Col == b.Col && (a.Pending == b.Pending && true)))) rfl (by kernel_rfl) (by kernel_rfl) (fun i g => (run_eqlA (T := 24) (xs := #[I a.Row, I a.Col, B a.Pending]) (ys := #[I b.Row, I b.Col, B b.Pending]) (r := (a.Row == b.Row && (a.Col == b.Col && (a.Pending == b.Pending && true)))) underlying24 (by kernel_rfl) (by kernel_rfl) (EqP.int (by kernel_rfl) underlying3 rfl rfl (EqP.int (by kernel_rfl) underlying3 rfl rfl (EqP.bool (by kernel_rfl) underlying4 rfl rfl EqP.nil))) (by kernel_rfl) _)) (ta 6 (B (a.Row == b.Row && (a.Col == b.Col && (a.Pending == b.Pending && true)))) (dn (nrm (W.ret ?_))))⟩
 obtain rfl := si H
 exact r1 ⟨_, f, rfl, rfl, pt, h, rfl⟩
end Go.Proofs.YthokmpbbkpjhbaaGreatDoor
