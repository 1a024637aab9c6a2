import Derived.Test.YtfhhpdggmefcoaaMr
import Derived.Test.YtfhhpdggmefcoaaProg
import Derived.Test.YtfhhpdggmefcoaaMy
import Derived.Test.YtfhhpdggmefcoaaMz
import Derived.Test.YtfhhpdggmefcoaaP3
namespace Go.Proofs.Ytfhhpdggmefcoaa
open Go Go.Lt
set_option maxRecDepth 10000
set_option linter.unusedVariables false
attribute [local irreducible] W WL AC
open Try
variable {c0 : Cx} {G : Gm} {F : List En} {sg : Sto} {v1 v2 v3 v4 v5 v6 v7 v8 v9 v10 v11 v12 v13 v14 v15 v16 v17 v18 v19 v20 v21 v22 v23 v24 v25 v26 v27 v28 v29 v30 v31 v32 v33 v34 v35 v36 v37 v38 v39 v40 v41 v42 v43 v44 v45 v46 v47 v48 v49 v50 v51 v52 v53 v54 v55 v56 v57 v58 v59 v60 : Value}
def f_linotypelaw06_works  : Option (Bool) :=
 (f_spans_Sum ([([(⟨1, 5, 1⟩ : G_api_Span)] : List G_api_Span), ([(⟨4, 8, 2⟩ : G_api_Span)] : List G_api_Span)] : List (List G_api_Span))).bind fun a =>
 (f_linotyperef06_Same a ([(⟨1, 3, 1⟩ : G_api_Span), (⟨4, 5, 3⟩ : G_api_Span), (⟨6, 8, 2⟩ : G_api_Span)] : List G_api_Span)).bind fun d =>
 (andE d ((f_spans_Count a).bind fun e =>
 some (e == 8))).bind fun b =>
 (andE b ((f_spans_Find a 5).bind fun f =>
 some (f == 3))).bind fun c =>
 some c
theorem c_linotypelaw06_works (O0 : Own c0 G F) {r : Bool} (H : f_linotypelaw06_works  = some r) :
    Calls prog 16 #[] c0.w (Post c0 fun c v => Own c G (F) ∧ v = B r) := by
 unfold f_linotypelaw06_works at H
 refine en func16 rfl rfl (sr (va (B false) (wln (sr (va (.agg #[I 1, I 5, I 1]) (me (sl R_api_Span 41 [[I 1, I 5, I 1]] ([(⟨1, 5, 1⟩ : G_api_Span)] : List G_api_Span) O0 ⟨rfl, trivial⟩) ?_))))))
 rintro v5 c4 l4 ⟨u2, O1, h3⟩
 refine va (.agg #[I 4, I 8, I 2]) (me (sl R_api_Span 41 [[I 4, I 8, I 2]] ([(⟨4, 8, 2⟩ : G_api_Span)] : List G_api_Span) O1 ⟨rfl, trivial⟩) ?_)
 rintro v10 c9 l9 ⟨u7, O6, h8⟩
 obtain ⟨x1, q0, g1, X, E⟩ := O6.frz 1 rfl (h3.mono l9)
 refine WL.gh q0 ?_
 obtain ⟨y1, s0, h1, Z, M⟩ := X.frz 0 rfl (h8.mono g1)
 refine WL.gh s0 ?_
 obtain ⟨n, o, p, rfl⟩ := ((E.mono h1)).form
 obtain ⟨q, s, t, rfl⟩ := (M).form
 refine me (sl (RL R_api_Span) 35 [[.slice n o p], [.slice q s t]] ([([(⟨1, 5, 1⟩ : G_api_Span)] : List G_api_Span), ([(⟨4, 8, 2⟩ : G_api_Span)] : List G_api_Span)] : List (List G_api_Span)) Z ⟨⟨(.slice n o p), rfl, E.m⟩, ⟨(.slice q s t), rfl, M⟩, trivial⟩) ?_
 rintro v29 z1 g2 ⟨j1, a0, t0⟩
 obtain ⟨a2, v0, h2, b0, u0⟩ := a0.frz 0 rfl t0
 refine WL.gh v0 (bn H fun g w0 H => cl (c_spans_Sum b0 ([([(⟨1, 5, 1⟩ : G_api_Span)] : List G_api_Span), ([(⟨4, 8, 2⟩ : G_api_Span)] : List G_api_Span)] : List (List G_api_Span)) u0 w0) ?_)
 rintro v35 k0 i2 ⟨_, k1, d0, rfl, u⟩
 refine va (v35) (wln (W.seq (bn H fun U x0 H => bn H fun q1 N H => bn H fun T x H => W.join (Jn k0 fun c l => ∃ v47 A, Own c G (es false R_api_Span v47 41 A ([(⟨1, 3, 1⟩ : G_api_Span), (⟨4, 5, 3⟩ : G_api_Span), (⟨6, 8, 2⟩ : G_api_Span)] : List G_api_Span) :: es false R_api_Span v35 41 k1 g :: es false (RL R_api_Span) v29 35 j1 ([([(⟨1, 5, 1⟩ : G_api_Span)] : List G_api_Span), ([(⟨4, 8, 2⟩ : G_api_Span)] : List G_api_Span)] : List (List G_api_Span)) :: es false R_api_Span (.slice q s t) 41 u7 ([(⟨4, 8, 2⟩ : G_api_Span)] : List G_api_Span) :: es false R_api_Span (.slice n o p) 41 u2 ([(⟨1, 5, 1⟩ : G_api_Span)] : List G_api_Span) :: F) ∧ l = [(0, B T)] ∧ OA R_api_Span c v47 A ([(⟨1, 3, 1⟩ : G_api_Span), (⟨4, 5, 3⟩ : G_api_Span), (⟨6, 8, 2⟩ : G_api_Span)] : List G_api_Span)) ?_ ?_)))
 ·clear H
  refine W.region (va (v35) (va (.agg #[I 1, I 3, I 1]) (va (.agg #[I 4, I 5, I 3]) (va (.agg #[I 6, I 8, I 2]) (me (sl R_api_Span 41 [[I 1, I 3, I 1], [I 4, I 5, I 3], [I 6, I 8, I 2]] ([(⟨1, 3, 1⟩ : G_api_Span), (⟨4, 5, 3⟩ : G_api_Span), (⟨6, 8, 2⟩ : G_api_Span)] : List G_api_Span) d0 ⟨rfl, rfl, rfl, trivial⟩) ?_)))))
  rintro v53 b2 y ⟨D, e0, f⟩
  obtain ⟨c2, z0, z, f0, y0⟩ := e0.frz 1 rfl (u.mono y)
  refine WL.gh z0 ?_
  obtain ⟨d2, b1, R, g0, a1⟩ := f0.frz 0 rfl (f.mono z)
  refine WL.gh b1 (cl (c_linotyperef06_Same g0 g ([(⟨1, 3, 1⟩ : G_api_Span), (⟨4, 5, 3⟩ : G_api_Span), (⟨6, 8, 2⟩ : G_api_Span)] : List G_api_Span) y0.m a1 x0) ?_)
  rintro l2 l0 S ⟨j, rfl⟩
  rcases bo (U) with a | a
  ·have h := anT a N
   refine vb a (wn (va (v35) (wn ?_)))
   have c1 := j.slf 1 rfl (u.mono (y.trans (z.trans (R.trans S))))
   refine bn h fun d d1 h => cl (c_spans_Count j g c1 d1) ?_
   rintro m2 m0 i1 ⟨k, rfl⟩
   refine wn (va (B (d == 8)) ?_)
   obtain rfl := si h
   refine va (B (d == 8)) ?_
   rcases bo (d == 8) with b | b
   ·have i := anT b x
    refine vb b (wn (va (v35) (wn ?_)))
    have e1 := k.slf 1 rfl (u.mono (y.trans (z.trans (R.trans (S.trans i1)))))
    refine bn i fun e f1 i => cl (c_spans_Find k g 5 e1 f1) ?_
    rintro n2 o0 j2 ⟨h0, rfl⟩
    refine wn (va (B (e == 3)) ?_)
    obtain rfl := si i
    exact va (B (e == 3)) (va (B (e == 3)) (wln ⟨o0, _, _, rfl, pt, us, v53, D, h0, rfl, f.m⟩))
   obtain rfl := anF b x
   exact vb b (ps (ps (ps (va (B false) (va (B false) (wln ⟨m0, _, _, rfl, pt, us, v53, D, k, rfl, f.m⟩))))))
  obtain rfl := anF a N
  refine vb a (ps (ps (ps (va (B false) ?_))))
  have P : false = false := rfl
  obtain rfl := anF P x
  exact vb P (ps (ps (ps (va (B false) (va (B false) (wln ⟨l0, _, _, rfl, pt, us, v53, D, j, rfl, f.m⟩))))))
 rintro e_ w_ ⟨p0, e2, _, rfl, k2, rfl, v47, A, i0, rfl, f2⟩
 refine nrm (W.ret ?_)
 obtain rfl := si H
 have j0 := i0.sD 5 []
 exact r1 ⟨_, p0, rfl, rfl, pt, j0, rfl⟩
def f_linotypelaw06_SpansTell (p0 : List G_api_Span) (p1 : Int) : Option (Bool) :=
 (f_linotypelaw06_works).bind fun u =>
 (orE (!u) (some (decide ((p0.length : Int) > 300)))).bind fun t =>
 if t = true then
 (f_linotypelaw06_works).bind fun h =>
 some h
 else
 (f_linotyperef06_Right p0).bind fun i =>
 if (!i) = true then
 (f_spans_Right p0).bind fun j =>
 (andE (!j) ((f_spans_Find p0 p1).bind fun k =>
 some (k == 0))).bind fun b =>
 (andE b ((f_spans_Count p0).bind fun l =>
 some (l == 0))).bind fun c =>
 (andE c ((f_spans_Fewest p0).bind fun m =>
 some ((m.length : Int) == 0))).bind fun d =>
 some d
 else
 (iter (σ := Int × Int) (τ := Int) (((p0.length : Int) - 0).toNat + 1) (fun a =>
 if (decide (a.2 < (p0.length : Int))) = true then
 (idx p0 a.2).bind fun n =>
 (idx p0 a.2).bind fun o =>
 some (.inl ((w64 ((w64 ((w64 (a.1 + n.Hi)) - o.Lo)) + 1)), (w64 (a.2 + 1))))
 else
 some (.inr (a.1))) (0, 0)).bind fun g =>
 (f_spans_Right p0).bind fun p =>
 (andE p ((f_spans_Find p0 p1).bind fun q =>
 (f_linotyperef06_Find p0 p1).bind fun r =>
 some (q == r))).bind fun e =>
 (andE e ((f_spans_Count p0).bind fun s =>
 some (s == g))).bind fun f =>
 some f
theorem c_linotypelaw06_SpansTell (O0 : Own c0 G F) (f : List G_api_Span) (j : Int) {r : Bool} (b : Sl R_api_Span c0 v1 f) (H : f_linotypelaw06_SpansTell f j = some r) :
    Calls prog 5 #[v1, I j] c0.w (Post c0 fun c v => Own c G (F) ∧ v = B r) := by
 unfold f_linotypelaw06_SpansTell at H
 refine en func5 rfl rfl (sr (va (B false) (wln (W.seq (W.seq (bn H fun d1 h3 H => bn H fun w2 h4 H => W.join (Jn c0 fun c l => Own c G (F) ∧ l = [(0, v1), (1, I j), (13, B w2)]) ?_ ?_))))))
 ·clear H
  refine W.region (cl (c_linotypelaw06_works O0 h3) ?_)
  rintro v10 c9 l9 ⟨O6, rfl⟩
  refine va (B (!d1)) ?_
  rcases bo (!d1) with o | o
  ·obtain rfl := orT o h4
   exact vb o (ps (ps (ps (va (B true) (wln ⟨c9, _, _, rfl, pt, us, O6, rfl⟩)))))
  have f2 := orF o h4
  refine vb o (wn (va (v1) (wn (vx (ln 3 underlying35 b.m) (wn (va (B (decide ((f.length : Int) > 300))) ?_))))))
  obtain rfl := si f2
  exact va (B (decide ((f.length : Int) > 300))) (wln ⟨c9, _, _, rfl, pt, us, O6, rfl⟩)
 rintro e_ w_ ⟨i4, j4, _, rfl, z0, rfl, j0, rfl⟩
 refine nrm (cn H (fun y2 H => ?_) (fun y2 H => ?_))
 ·refine sr (bn H fun c2 z2 H => cl (c_linotypelaw06_works j0 z2) ?_)
  rintro v26 n2 m4 ⟨g2, rfl⟩
  refine va (B c2) (wln (W.ret (thr ?_)))
  obtain rfl := si H
  exact r1 ⟨_, n2, rfl, rfl, pt, g2, rfl⟩
 refine W.skip (nrm (W.seq (sr (va (v1) (bn H fun d2 a3 H => cl (c_linotyperef06_Right j0 f b.m a3) ?_)))))
 rintro v33 N a1 ⟨k0, rfl⟩
 refine va (B (!d2)) (wln (cn H (fun b3 H => ?_) (fun b3 H => ?_)))
 ·refine W.seq (bn H fun f0 c3 H => bn H fun p3 t0 H => bn H fun q3 d0 H => bn H fun s1 P H => W.join (Jn N fun c l => Own c G (F) ∧ l = [(4, B s1)]) ?_ ?_)
  ·clear H
   refine W.region (va (v1) (cl (c_spans_Right k0 f b.m c3) ?_))
   rintro v44 o2 n4 ⟨l0, rfl⟩
   refine va (B (!f0)) ?_
   rcases bo (!f0) with p | p
   ·have R := anT p t0
    refine vb p (wn (va (v1) (wn (va (I j) (wn (bn R fun x e3 R => cl (c_spans_Find l0 f j b.m e3) ?_))))))
    rintro v53 p2 o4 ⟨m0, rfl⟩
    refine wn (va (B (x == 0)) ?_)
    obtain rfl := si R
    refine va (B (x == 0)) ?_
    rcases bo (x == 0) with q | q
    ·have S := anT q d0
     refine vb q (wn (va (v1) (wn (bn S fun y f3 S => cl (c_spans_Count m0 f b.m f3) ?_))))
     rintro u4 q2 p4 ⟨o0, rfl⟩
     refine wn (va (B (y == 0)) ?_)
     obtain rfl := si S
     refine va (B (y == 0)) ?_
     rcases bo (y == 0) with s | s
     ·have T := anT s P
      refine vb s (wn (va (v1) (wn (bn T fun z g3 T => cl (c_spans_Fewest o0 f b.m g3) ?_))))
      rintro v4 s2 q4 ⟨_, t4, j2, rfl, i3⟩
      refine wn (vx (lnO 3 underlying35 i3) (wn (va (B ((z.length : Int) == 0)) ?_)))
      obtain rfl := si T
      refine va (B ((z.length : Int) == 0)) (va (B ((z.length : Int) == 0)) (wln ?_))
      have k2 := j2.sD 1 []
      exact ⟨s2, _, _, rfl, pt, us, k2, rfl⟩
     obtain rfl := anF s P
     exact vb s (ps (ps (ps (ps (va (B false) (va (B false) (wln ⟨q2, _, _, rfl, pt, us, o0, rfl⟩)))))))
    obtain rfl := anF q d0
    refine vb q (ps (ps (ps (va (B false) ?_))))
    have u0 : false = false := rfl
    obtain rfl := anF u0 P
    exact vb u0 (ps (ps (ps (ps (va (B false) (va (B false) (wln ⟨p2, _, _, rfl, pt, us, m0, rfl⟩)))))))
   obtain rfl := anF p t0
   refine vb p (ps (ps (ps (ps (va (B false) ?_)))))
   have v0 : false = false := rfl
   obtain rfl := anF v0 d0
   refine vb v0 (ps (ps (ps (va (B false) ?_))))
   have w0 : false = false := rfl
   obtain rfl := anF w0 P
   exact vb w0 (ps (ps (ps (ps (va (B false) (va (B false) (wln ⟨o2, _, _, rfl, pt, us, l0, rfl⟩)))))))
  rintro e_ w_ ⟨t2, k4, _, rfl, r4, rfl, l2, rfl⟩
  refine nrm (W.ret (thr ?_))
  obtain rfl := si H
  exact r1 ⟨_, t2, rfl, rfl, pt, l2, rfl⟩
 refine W.skip (nrm (sr (va (I 0) (wln (W.seq (sr (va (I 0) (wln (W.block (bn H fun k x0 d => lp x0 (fun a => Jn N fun c l => Own c G (F) ∧ l = [(0, v1), (1, I j), (5, I a.1), (6, I a.2)]) (fun h0 ex e w => ex = .exit 0 ∧ (Jn N fun c l => Own c G (F) ∧ l = [(0, v1), (1, I j), (5, I h0)]) e w) ?_ ?_ ?_))))))))))
 ·clear d x0
  intro a w4 x2 l3 H
  revert x2 l3
  rintro e_ w_ ⟨u2, l4, _, rfl, b1, rfl, q0, rfl⟩
  refine W.seq (sr (va (I a.2) (va (v1) (vx (ln 3 underlying35 b.m) (va (B (decide (a.2 < (f.length : Int)))) (wln (cn H (fun j3 H => ?_) (fun j3 H => ?_))))))))
  ·refine W.skip (nrm (W.seq (W.block (rD [] (Kp G0 []) q0 ?_))))
   intro s0 c1 m2
   have s4 : Kp G0 [] s0 := Kp.nil0
   refine ta 0 (I a.1) (ta 1 (v1) (ta 2 (I a.2) (bn H fun n y0 H => ?_)))
   obtain ⟨c4, k3, a2⟩ := Sl.at (b.mono (z0.trans (a1.trans (b1.trans c1)))) (idx_get y0)
   obtain rfl := k3
   refine tx 3 (fun c' e0 => ix underlying35 b.m y0) (ta 4 (.pointer (some ⟨sb v1, so v1 + a.2.toNat * 3 + 1, none⟩)) (tx 5 (fun c' e0 => l1 underlying3 ((mm a2) 1 _ rfl)) (ta 6 (I (w64 (a.1 + n.Hi))) (ta 7 (v1) (ta 8 (I a.2) (bn H fun A Z H => ?_))))))
   obtain ⟨m3, u1, b2⟩ := Sl.at (b.mono (z0.trans (a1.trans (b1.trans c1)))) (idx_get Z)
   obtain rfl := u1
   refine tx 9 (fun c' e0 => ix underlying35 b.m Z) (ta 10 (.pointer (some ⟨sb v1, so v1 + a.2.toNat * 3, none⟩)) (tx 11 (fun c' e0 => l1 underlying3 ((mm b2) 0 _ rfl)) (ta 12 (I (w64 ((w64 (a.1 + n.Hi)) - A.Lo))) (ta 13 (I (w64 ((w64 ((w64 (a.1 + n.Hi)) - A.Lo)) + 1))) (ta 14 (I (w64 ((w64 ((w64 (a.1 + n.Hi)) - A.Lo)) + 1))) (dn (bkn (nrm (W.region (va (I a.2) (va (I (w64 (a.2 + 1))) (va (I (w64 (a.2 + 1))) (WL.nil ?_)))))))))))))
   obtain rfl := si H
   exact ⟨_, rfl, ⟨s0, _, _, rfl, pt, us, m2, rfl⟩⟩
  refine W.exit (thx ?_)
  obtain rfl := si H
  exact ⟨_, rfl, rfl, ⟨u2, _, _, rfl, pt, us, q0, rfl⟩⟩
 ·exact ⟨N, _, _, rfl, pt, us, k0, rfl⟩
 rintro _ e_ w_ ⟨rfl, j1, t3, _, rfl, w3, rfl, e1, rfl⟩
 refine bke (nrm (W.seq (bn d fun e2 w1 d => bn d fun s3 a0 d => bn d fun t1 u d => W.join (Jn j1 fun c l => Own c G (F) ∧ l = [(4, B t1)]) ?_ ?_)))
 ·clear d
  refine W.region (va (v1) (cl (c_spans_Right e1 f b.m w1) ?_))
  rintro d4 k1 x3 ⟨U, rfl⟩
  rcases bo (e2) with h | h
  ·have g := anT h a0
   refine vb h (wn (va (v1) (wn (va (I j) (wn (bn g fun D x1 g => cl (c_spans_Find U f j b.m x1) ?_))))))
   rintro e4 o3 y3 ⟨f1, rfl⟩
   refine wn (va (v1) (wn (va (I j) (wn (bn g fun E y1 g => cl (c_linotyperef06_Find f1 f j b.m y1) ?_)))))
   rintro f4 m1 z3 ⟨X, rfl⟩
   refine wn (va (B (D == E)) ?_)
   obtain rfl := si g
   refine va (B (D == E)) ?_
   rcases bo (D == E) with i | i
   ·have t := anT i u
    refine vb i (wn (va (v1) (wn (bn t fun M z1 t => cl (c_spans_Count X f b.m z1) ?_))))
    rintro g4 n1 a4 ⟨g1, rfl⟩
    refine wn (va (I k) (wn (va (B (M == k)) ?_)))
    obtain rfl := si t
    exact va (B (M == k)) (va (B (M == k)) (wln ⟨n1, _, _, rfl, pt, us, g1, rfl⟩))
   obtain rfl := anF i u
   exact vb i (ps (ps (ps (ps (va (B false) (va (B false) (wln ⟨m1, _, _, rfl, pt, us, X, rfl⟩)))))))
  obtain rfl := anF h a0
  refine vb h (ps (ps (ps (ps (ps (ps (ps (va (B false) ?_))))))))
  have b0 : false = false := rfl
  obtain rfl := anF b0 u
  exact vb b0 (ps (ps (ps (ps (va (B false) (va (B false) (wln ⟨k1, _, _, rfl, pt, us, U, rfl⟩)))))))
 rintro e_ w_ ⟨q1, u3, _, rfl, b4, rfl, h1, rfl⟩
 refine nrm (W.ret ?_)
 obtain rfl := si d
 exact r1 ⟨_, q1, rfl, rfl, pt, h1, rfl⟩
def f_linotypelaw06_SpansFewest (p0 : List G_api_Span) (p1 : Int) : Option (Bool) :=
 (f_linotypelaw06_works).bind fun N =>
 (orE (!N) (some (decide ((p0.length : Int) > 300)))).bind fun M =>
 (orE M ((f_linotyperef06_Right p0).bind fun n =>
 some (!n))).bind fun g =>
 if g = true then
 (f_linotypelaw06_works).bind fun o =>
 some o
 else
 (f_spans_Fewest p0).bind fun a =>
 (f_linotyperef06_Right a).bind fun p =>
 (orE (!p) ((f_linotyperef06_Few a).bind fun q =>
 some (!q))).bind fun h =>
 (orE h ((f_spans_Fewest a).bind fun r =>
 (f_linotyperef06_Same r a).bind fun s =>
 some (!s))).bind fun i =>
 (orE i ((f_spans_Count a).bind fun t =>
 (f_spans_Count p0).bind fun u =>
 some (t != u))).bind fun j =>
 (orE j ((f_linotyperef06_Find a p1).bind fun v =>
 (f_linotyperef06_Find p0 p1).bind fun w =>
 some (v != w))).bind fun k =>
 if k = true then
 some false
 else
 (iter (σ := Int) (τ := Bool ⊕ Unit) (((p0.length : Int) - 0).toNat + 1) (fun b =>
 if (decide (b < (p0.length : Int))) = true then
 (idx p0 b).bind fun x =>
 (idx p0 b).bind fun y =>
 (f_linotyperef06_Find a x.Lo).bind fun z =>
 (orE (z != y.Val) ((idx p0 b).bind fun A =>
 (idx p0 b).bind fun D =>
 (f_linotyperef06_Find a A.Hi).bind fun E =>
 some (E != D.Val))).bind fun l =>
 (orE l ((idx p0 b).bind fun H =>
 (idx p0 b).bind fun d =>
 (f_linotyperef06_Find a (w64 (H.Hi + 1))).bind fun e =>
 (f_linotyperef06_Find p0 (w64 (d.Hi + 1))).bind fun f =>
 some (e != f))).bind fun m =>
 if m = true then
 some (.inr (.inl false))
 else
 some (.inl ((w64 (b + 1))))
 else
 some (.inr (.inr ()))) (0)).bind fun c =>
 match c with
 | .inl c =>
 some c
 | .inr c =>
 some true
theorem c_linotypelaw06_SpansFewest (O0 : Own c0 G F) (D : List G_api_Span) (p1 : Int) {r : Bool} (g : Sl R_api_Span c0 v1 D) (H : f_linotypelaw06_SpansFewest D p1 = some r) :
    Calls prog 6 #[v1, I p1] c0.w (Post c0 fun c v => Own c G (F) ∧ v = B r) := by
 unfold f_linotypelaw06_SpansFewest at H
 refine en func6 rfl rfl (sr (va (B false) (wln (W.seq (W.seq (bn H fun a3 h3 H => bn H fun m8 h4 H => bn H fun y3 h5 H => W.join (Jn c0 fun c l => Own c G (F) ∧ l = [(0, v1), (1, I p1), (18, B y3)]) ?_ ?_))))))
 ·clear H
  refine W.region (cl (c_linotypelaw06_works O0 h3) ?_)
  rintro v11 s2 o8 ⟨O7, rfl⟩
  refine va (B (!a3)) ?_
  rcases bo (!a3) with P | P
  ·obtain rfl := orT P h4
   refine vb P (ps (ps (ps (va (B true) ?_))))
   have t2 : true = true := rfl
   obtain rfl := orT t2 h5
   exact vb t2 (ps (ps (ps (va (B true) (wln ⟨s2, _, _, rfl, pt, us, O7, rfl⟩)))))
  have r5 := orF P h4
  refine vb P (wn (va (v1) (wn (vx (ln 3 underlying35 g.m) (wn (va (B (decide ((D.length : Int) > 300))) ?_))))))
  obtain rfl := si r5
  refine va (B (decide ((D.length : Int) > 300))) ?_
  rcases bo (decide ((D.length : Int) > 300)) with R | R
  ·obtain rfl := orT R h5
   exact vb R (ps (ps (ps (va (B true) (wln ⟨s2, _, _, rfl, pt, us, O7, rfl⟩)))))
  have y0 := orF R h5
  refine vb R (wn (va (v1) (wn (bn y0 fun i2 e6 y0 => cl (c_linotyperef06_Right O7 D g.m e6) ?_))))
  rintro v23 x5 p8 ⟨s5, rfl⟩
  refine wn (va (B (!i2)) ?_)
  obtain rfl := si y0
  exact va (B (!i2)) (wln ⟨x5, _, _, rfl, pt, us, s5, rfl⟩)
 rintro e_ w_ ⟨i8, n8, _, rfl, E, rfl, p2, rfl⟩
 refine nrm (cn H (fun f6 H => ?_) (fun f6 H => ?_))
 ·refine sr (bn H fun n5 g6 H => cl (c_linotypelaw06_works p2 g6) ?_)
  rintro v37 y5 q8 ⟨t5, rfl⟩
  refine va (B n5) (wln (W.ret (thr ?_)))
  obtain rfl := si H
  exact r1 ⟨_, y5, rfl, rfl, pt, t5, rfl⟩
 refine W.skip (nrm (sr (va (v1) (bn H fun b h6 H => cl (c_spans_Fewest p2 D g.m h6) ?_))))
 rintro v39 z5 M ⟨_, u0, u5, rfl, o⟩
 refine va (v39) (wln (W.seq (W.seq (bn H fun j2 j6 H => bn H fun h7 u2 H => bn H fun i7 c2 H => bn H fun j7 s0 H => bn H fun z3 S H => W.join (Jn z5 fun c l => Own c G (es false R_api_Span v39 41 u0 b :: F) ∧ l = [(0, v1), (5, v39), (52, B z3)]) ?_ ?_))))
 ·clear H
  refine W.region (va (v39) ?_)
  obtain ⟨j8, l6, X, v5, k6⟩ := u5.frz 0 rfl o
  refine WL.gh l6 (cl (c_linotyperef06_Right v5 b k6 j6) ?_)
  rintro s8 a6 Z ⟨e1, rfl⟩
  refine va (B (!j2)) ?_
  rcases bo (!j2) with T | T
  ·obtain rfl := orT T u2
   refine vb T (ps (ps (ps (va (B true) ?_))))
   have v2 : true = true := rfl
   obtain rfl := orT v2 c2
   refine vb v2 (ps (ps (ps (ps (ps (va (B true) ?_))))))
   have w2 : true = true := rfl
   obtain rfl := orT w2 s0
   refine vb w2 (ps (ps (ps (ps (ps (va (B true) ?_))))))
   have x2 : true = true := rfl
   obtain rfl := orT x2 S
   exact vb x2 (ps (ps (ps (ps (ps (ps (ps (va (B true) (wln ⟨a6, _, _, rfl, pt, us, e1, rfl⟩)))))))))
  have z0 := orF T u2
  refine vb T (wn (va (v39) (wn ?_)))
  have m6 := e1.slf 0 rfl (o.mono (X.trans Z))
  refine bn z0 fun j0 n6 z0 => cl (c_linotyperef06_Few e1 b m6 n6) ?_
  rintro t8 b6 t0 ⟨f1, rfl⟩
  refine wn (va (B (!j0)) ?_)
  obtain rfl := si z0
  refine va (B (!j0)) ?_
  rcases bo (!j0) with U | U
  ·obtain rfl := orT U c2
   refine vb U (ps (ps (ps (ps (ps (va (B true) ?_))))))
   have y2 : true = true := rfl
   obtain rfl := orT y2 s0
   refine vb y2 (ps (ps (ps (ps (ps (va (B true) ?_))))))
   have z2 : true = true := rfl
   obtain rfl := orT z2 S
   exact vb z2 (ps (ps (ps (ps (ps (ps (ps (va (B true) (wln ⟨b6, _, _, rfl, pt, us, f1, rfl⟩)))))))))
  have N := orF U c2
  refine vb U (wn (va (v39) (wn ?_)))
  have o6 := f1.slf 0 rfl (o.mono (X.trans (Z.trans t0)))
  refine bn N fun o5 p6 N => cl (c_spans_Fewest f1 b o6 p6) ?_
  rintro u8 k8 e2 ⟨_, r8, w5, rfl, q6⟩
  refine wn (va (v39) (wn ?_))
  obtain ⟨l8, s6, f2, q2, r6⟩ := w5.frz 0 rfl q6
  refine WL.gh s6 ?_
  have t6 := q2.slf 1 rfl (o.mono (X.trans (Z.trans (t0.trans (e2.trans f2)))))
  refine bn N fun k0 u6 N => cl (c_linotyperef06_Same q2 o5 b r6 t6 u6) ?_
  rintro z7 q3 d2 ⟨g1, rfl⟩
  refine wn (va (B (!k0)) ?_)
  obtain rfl := si N
  refine va (B (!k0)) ?_
  rcases bo (!k0) with x | x
  ·obtain rfl := orT x s0
   refine vb x (ps (ps (ps (ps (ps (va (B true) ?_))))))
   have q1 : true = true := rfl
   obtain rfl := orT q1 S
   refine vb q1 (ps (ps (ps (ps (ps (ps (ps (va (B true) (wln ?_)))))))))
   have b3 := g1.sD 2 [1]
   exact ⟨q3, _, _, rfl, pt, us, b3, rfl⟩
  have q := orF x s0
  refine vb x (wn (va (v39) (wn ?_)))
  have b4 := g1.slf 1 rfl (o.mono (X.trans (Z.trans (t0.trans (e2.trans (f2.trans d2))))))
  refine bn q fun l0 c4 q => cl (c_spans_Count g1 b b4 c4) ?_
  rintro a8 f7 z4 ⟨c3, rfl⟩
  refine wn (va (v1) (wn (bn q fun m0 d4 q => cl (c_spans_Count c3 D g.m d4) ?_)))
  rintro b8 s3 a5 ⟨b0, rfl⟩
  refine wn (va (B (l0 != m0)) ?_)
  obtain rfl := si q
  refine va (B (l0 != m0)) ?_
  rcases bo (l0 != m0) with y | y
  ·obtain rfl := orT y S
   refine vb y (ps (ps (ps (ps (ps (ps (ps (va (B true) (wln ?_)))))))))
   have d3 := b0.sD 2 [1]
   exact ⟨s3, _, _, rfl, pt, us, d3, rfl⟩
  have s := orF y S
  refine vb y (wn (va (v39) (wn (va (I p1) (wn ?_)))))
  have e4 := b0.slf 1 rfl (o.mono (X.trans (Z.trans (t0.trans (e2.trans (f2.trans (d2.trans (z4.trans a5))))))))
  refine bn s fun k2 f4 s => cl (c_linotyperef06_Find b0 b p1 e4 f4) ?_
  rintro c8 g7 r7 ⟨e3, rfl⟩
  refine wn (va (v1) (wn (va (I p1) (wn (bn s fun l2 g4 s => cl (c_linotyperef06_Find e3 D p1 g.m g4) ?_)))))
  rintro d8 t3 s7 ⟨f3, rfl⟩
  refine wn (va (B (k2 != l2)) ?_)
  obtain rfl := si s
  refine va (B (k2 != l2)) (wln ?_)
  have g3 := f3.sD 2 [1]
  exact ⟨t3, _, _, rfl, pt, us, g3, rfl⟩
 rintro e_ w_ ⟨u, l7, _, rfl, h, rfl, a1, rfl⟩
 refine nrm (cn H (fun i4 H => ?_) (fun i4 H => ?_))
 ·refine sr (va (B false) (wln (W.ret (thr ?_))))
  obtain rfl := si H
  have i3 := a1.sD 1 []
  exact r1 ⟨_, u, rfl, rfl, pt, i3, rfl⟩
 refine W.skip (nrm (W.seq (sr (va (I 0) (wln (W.block (bn H fun h0 s1 a0 => lp s1 (fun a => Jn u fun c l => Own c G (es false R_api_Span v39 41 u0 b :: F) ∧ l = [(0, v1), (5, v39), (6, I a)]) (fun t => match t with | .inl x_ => (fun v6 ex e w => ex = .ret ∧ (Jn u fun c l => Own c G (F) ∧ l = [(4, B v6)]) e w) x_ | .inr x_ => (fun d7 ex e w => ex = .exit 0 ∧ (Jn u fun c l => Own c G (es false R_api_Span v39 41 u0 b :: F) ∧ l = []) e w) x_) ?_ ?_ ?_)))))))
 ·clear a0 s1
  intro a v8 c6 w6 H
  revert c6 w6
  rintro e_ w_ ⟨h1, m7, _, rfl, i, rfl, b1, rfl⟩
  refine W.seq (sr (va (I a) (va (v1) (vx (ln 3 underlying35 g.m) (va (B (decide (a < (D.length : Int)))) (wln (cn H (fun j4 H => ?_) (fun j4 H => ?_))))))))
  ·refine W.skip (nrm (W.seq (W.block (W.seq (bn H fun p5 t1 H => bn H fun m2 u1 H => bn H fun n2 k4 H => bn H fun k7 w1 H => bn H fun a4 f0 H => W.join (Jn h1 fun c l => Own c G (es false R_api_Span v39 41 u0 b :: F) ∧ l = [(0, v1), (5, v39), (6, I a), (105, B a4)]) ?_ ?_)))))
   ·clear H
    refine rD [] (Kp G0 []) b1 ?_
    intro u3 j c1
    have y7 : Kp G0 [] u3 := Kp.nil0
    refine ta 0 (v39) (ta 1 (v1) (ta 2 (I a) ?_))
    obtain ⟨x6, l4, b5⟩ := Sl.at (g.mono (E.trans (M.trans (h.trans (i.trans j))))) (idx_get t1)
    obtain rfl := l4
    refine tx 3 (fun k d => ix underlying35 g.m t1) (ta 4 (.pointer (some ⟨sb v1, so v1 + a.toNat * 3, none⟩)) (tx 5 (fun k d => l1 underlying3 ((mm b5) 0 _ rfl)) (ta 7 (v1) (ta 8 (I a) ?_))))
    obtain ⟨y6, m4, c5⟩ := Sl.at (g.mono (E.trans (M.trans (h.trans (i.trans j))))) (idx_get u1)
    obtain rfl := m4
    refine tx 9 (fun k d => ix underlying35 g.m u1) (ta 10 (.pointer (some ⟨sb v1, so v1 + a.toNat * 3 + 2, none⟩)) (tx 11 (fun k d => l1 underlying3 ((mm c5) 2 _ rfl)) ?_))
    have n4 := c1.slf 0 rfl (o.mono (h.trans (i.trans j)))
    refine o1 6 (gc 6 (c_linotyperef06_Find c1 b p5.Lo n4 k4) ?_)
    rintro e8 i1 p ⟨d0, rfl⟩
    have i5 : Kp G0 [] i1 := Kp.nil0
    refine ⟨.inr i5, ta 12 (B (n2 != m2.Val)) ?_⟩
    rcases bo (n2 != m2.Val) with z | z
    ·obtain rfl := orT z w1
     refine AC.takeb 13 z rfl (by kernel_rfl) (by kernel_rfl) (fun k d => (by kernel_rfl)) (tp 14 (tp 15 (tp 16 (tp 17 (tp 18 (tp 19 (tp 21 (tp 22 (tp 23 (tp 24 (tp 25 (tp 20 (tp 26 (ta 27 (B true) ?_))))))))))))))
     have x1 : true = true := rfl
     obtain rfl := orT x1 f0
     exact AC.takeb 28 x1 rfl (by kernel_rfl) (by kernel_rfl) (fun k d => (by kernel_rfl)) (tp 29 (tp 30 (tp 31 (tp 32 (tp 33 (tp 34 (tp 35 (tp 37 (tp 38 (tp 39 (tp 40 (tp 41 (tp 42 (tp 43 (tp 36 (tp 44 (tp 45 (ta 46 (B true) (dn (nrm ⟨i1, _, _, rfl, pt, us, d0, rfl⟩))))))))))))))))))))
    have n := orF z w1
    refine bn n fun q5 y1 n => bn n fun o0 z1 n => bn n fun q0 o4 n => AC.takeb 13 z rfl (by kernel_rfl) (by kernel_rfl) (fun k d => (by kernel_rfl)) (ta 14 (v39) (ta 15 (v1) (ta 16 (I a) ?_)))
    obtain ⟨z6, p4, d5⟩ := Sl.at (g.mono (E.trans (M.trans (h.trans (i.trans (j.trans p)))))) (idx_get y1)
    obtain rfl := p4
    refine tx 17 (fun k d => ix underlying35 g.m y1) (ta 18 (.pointer (some ⟨sb v1, so v1 + a.toNat * 3 + 1, none⟩)) (tx 19 (fun k d => l1 underlying3 ((mm d5) 1 _ rfl)) (ta 21 (v1) (ta 22 (I a) ?_))))
    obtain ⟨a7, q4, e5⟩ := Sl.at (g.mono (E.trans (M.trans (h.trans (i.trans (j.trans p)))))) (idx_get z1)
    obtain rfl := q4
    refine tx 23 (fun k d => ix underlying35 g.m z1) (ta 24 (.pointer (some ⟨sb v1, so v1 + a.toNat * 3 + 2, none⟩)) (tx 25 (fun k d => l1 underlying3 ((mm e5) 2 _ rfl)) ?_))
    have r4 := d0.slf 0 rfl (o.mono (h.trans (i.trans (j.trans p))))
    refine o1 20 (gc 20 (c_linotyperef06_Find d0 b q5.Hi r4 o4) ?_)
    rintro f8 j1 g0 ⟨e0, rfl⟩
    have j5 : Kp G0 [] j1 := Kp.nil0
    refine ⟨.inr j5, ta 26 (B (q0 != o0.Val)) ?_⟩
    obtain rfl := si n
    refine ta 27 (B (q0 != o0.Val)) ?_
    rcases bo (q0 != o0.Val) with A | A
    ·obtain rfl := orT A f0
     exact AC.takeb 28 A rfl (by kernel_rfl) (by kernel_rfl) (fun k d => (by kernel_rfl)) (tp 29 (tp 30 (tp 31 (tp 32 (tp 33 (tp 34 (tp 35 (tp 37 (tp 38 (tp 39 (tp 40 (tp 41 (tp 42 (tp 43 (tp 36 (tp 44 (tp 45 (ta 46 (B true) (dn (nrm ⟨j1, _, _, rfl, pt, us, e0, rfl⟩))))))))))))))))))))
    have f := orF A f0
    refine bn f fun o2 a2 f => bn f fun v0 b2 f => bn f fun w0 s4 f => bn f fun x0 t4 f => AC.takeb 28 A rfl (by kernel_rfl) (by kernel_rfl) (fun k d => (by kernel_rfl)) (ta 29 (v39) (ta 30 (v1) (ta 31 (I a) ?_)))
    obtain ⟨b7, u4, f5⟩ := Sl.at (g.mono (E.trans (M.trans (h.trans (i.trans (j.trans (p.trans g0))))))) (idx_get a2)
    obtain rfl := u4
    refine tx 32 (fun k d => ix underlying35 g.m a2) (ta 33 (.pointer (some ⟨sb v1, so v1 + a.toNat * 3 + 1, none⟩)) (tx 34 (fun k d => l1 underlying3 ((mm f5) 1 _ rfl)) (ta 35 (I (w64 (o2.Hi + 1))) (ta 37 (v1) (ta 38 (v1) (ta 39 (I a) ?_))))))
    obtain ⟨c7, v4, g5⟩ := Sl.at (g.mono (E.trans (M.trans (h.trans (i.trans (j.trans (p.trans g0))))))) (idx_get b2)
    obtain rfl := v4
    refine tx 40 (fun k d => ix underlying35 g.m b2) (ta 41 (.pointer (some ⟨sb v1, so v1 + a.toNat * 3 + 1, none⟩)) (tx 42 (fun k d => l1 underlying3 ((mm g5) 1 _ rfl)) (ta 43 (I (w64 (v0.Hi + 1))) ?_)))
    have w4 := e0.slf 0 rfl (o.mono (h.trans (i.trans (j.trans (p.trans g0)))))
    refine o1 36 (gc 36 (c_linotyperef06_Find e0 b (w64 (o2.Hi + 1)) w4 s4) ?_)
    rintro g8 v3 t7 ⟨j3, rfl⟩
    have k5 : Kp G0 [] v3 := Kp.nil0
    refine ⟨.inr k5, o1 44 (gc 44 (c_linotyperef06_Find j3 D (w64 (v0.Hi + 1)) g.m t4) ?_)⟩
    rintro h8 k1 u7 ⟨k3, rfl⟩
    have l5 : Kp G0 [] k1 := Kp.nil0
    refine ⟨.inr l5, ta 45 (B (w0 != x0)) ?_⟩
    obtain rfl := si f
    exact ta 46 (B (w0 != x0)) (dn (nrm ⟨k1, _, _, rfl, pt, us, k3, rfl⟩))
   rintro e_ w_ ⟨m1, n7, _, rfl, v7, rfl, d1, rfl⟩
   refine nrm (cn H (fun x4 H => ?_) (fun x4 H => ?_))
   ·refine sr (va (B false) (wln (W.ret (bkr (thr ?_)))))
    obtain rfl := si H
    refine ⟨_, rfl, ⟨rfl, ?_⟩⟩
    have l3 := d1.sD 1 []
    exact ⟨m1, _, _, rfl, pt, us, l3, rfl⟩
   refine W.skip (bkn (nrm (W.region (va (I a) (va (I (w64 (a + 1))) (va (I (w64 (a + 1))) (WL.nil ?_)))))))
   obtain rfl := si H
   exact ⟨_, rfl, ⟨m1, _, _, rfl, pt, us, d1, rfl⟩⟩
  refine W.exit (thx ?_)
  obtain rfl := si H
  exact ⟨_, rfl, rfl, ⟨h1, _, _, rfl, pt, us, b1, rfl⟩⟩
 ·exact ⟨u, _, _, rfl, pt, us, a1, rfl⟩
 rcases h0 with h0 | h0
 ·intro d6; revert d6
  rintro _ e_ w_ ⟨rfl, w3, o7, _, rfl, w7, rfl, m3, rfl⟩
  refine bkr (thr ?_)
  obtain rfl := si a0
  exact r1 ⟨_, w3, rfl, rfl, pt, m3, rfl⟩
 rintro _ e_ w_ ⟨rfl, x3, p7, _, rfl, x7, rfl, n3, rfl⟩
 refine bke (nrm (sr (va (B true) (wln (W.ret ?_)))))
 obtain rfl := si a0
 have o3 := n3.sD 1 []
 exact r1 ⟨_, x3, rfl, rfl, pt, o3, rfl⟩
def f_linotypelaw06_SpansSum (p0 : List (List G_api_Span)) (p1 : Int) : Option (Bool) :=
 (f_linotypelaw06_works).bind fun M =>
 (orE (!M) (some (decide ((p0.length : Int) > 6)))).bind fun H =>
 if H = true then
 (f_linotypelaw06_works).bind fun s =>
 some s
 else
 (iter (σ := Bool × (List Int) × Int) (τ := Bool ⊕ (Bool × (List Int))) (((p0.length : Int) - 0).toNat + 1) (fun a =>
 if (decide (a.2.2 < (p0.length : Int))) = true then
 (idx p0 a.2.2).bind fun t =>
 if (decide ((t.length : Int) > 60)) = true then
 some (.inr (.inl true))
 else
 (andE a.1 ((idx p0 a.2.2).bind fun u =>
 (f_linotyperef06_Right u).bind fun v =>
 some v)).bind fun p =>
 (idx p0 a.2.2).bind fun k =>
 (iter (σ := (List Int) × Int) (τ := (List Int)) (((k.length : Int) - 0).toNat + 1) (fun e =>
 (idx p0 a.2.2).bind fun w =>
 if (decide (e.2 < (w.length : Int))) = true then
 (idx p0 a.2.2).bind fun x =>
 (idx x e.2).bind fun y =>
 (app e.1 ([y.Lo] : List Int)).bind fun z =>
 some (.inl (z, (w64 (e.2 + 1))))
 else
 some (.inr (e.1))) (a.2.1, 0)).bind fun r =>
 some (.inl (p, r, (w64 (a.2.2 + 1))))
 else
 some (.inr (.inr (a.1, a.2.1)))) (true, ([] : List Int), 0)).bind fun d =>
 match d with
 | .inl d =>
 some d
 | .inr d =>
 if (!d.1) = true then
 (f_spans_Sum p0).bind fun A =>
 some ((A.length : Int) == 0)
 else
 (f_spans_Sum p0).bind fun g =>
 (f_linotyperef06_Right g).bind fun D =>
 (orE (!D) ((f_linotyperef06_Few g).bind fun E =>
 some (!E))).bind fun q =>
 if q = true then
 some false
 else
 (app d.2 ([p1] : List Int)).bind fun f =>
 (iter (σ := Bool × Int × Int) (τ := (Bool × Int)) (((f.length : Int) - 0).toNat + 1) (fun b =>
 if (decide (b.2.2 < (f.length : Int))) = true then
 (iter (σ := Int × Int) (τ := Int) (((p0.length : Int) - 0).toNat + 1) (fun c =>
 if (decide (c.2 < (p0.length : Int))) = true then
 (idx p0 c.2).bind fun l =>
 (idx f b.2.2).bind fun m =>
 (f_linotyperef06_Find l m).bind fun n =>
 some (.inl ((w64 (c.1 + n)), (w64 (c.2 + 1))))
 else
 some (.inr (c.1))) (0, 0)).bind fun i =>
 (andE b.1 (some (decide (i ≤ 65535)))).bind fun j =>
 some (.inl (j, i, (w64 (b.2.2 + 1))))
 else
 some (.inr (b.1, b.2.1))) (true, 0, 0)).bind fun h =>
 if (!h.1) = true then
 some ((g.length : Int) == 0)
 else
 (f_linotyperef06_Find g p1).bind fun o =>
 some (o == h.2)
theorem c_linotypelaw06_SpansSum (O0 : Own c0 G F) (p0 : List (List G_api_Span)) (i : Int) {r : Bool} (s : Sl (RL R_api_Span) c0 v1 p0) (H : f_linotypelaw06_SpansSum p0 i = some r) :
    Calls prog 7 #[v1, I i] c0.w (Post c0 fun c v => Own c G (F) ∧ v = B r) := by
 unfold f_linotypelaw06_SpansSum at H
 refine en func7 rfl rfl (sr (va (B false) (wln (W.seq (W.seq (bn H fun l3 h3 H => bn H fun d7 h4 H => W.join (Jn c0 fun c l => Own c G (F) ∧ l = [(0, v1), (1, I i), (20, B d7)]) ?_ ?_))))))
 ·clear H
  refine W.region (cl (c_linotypelaw06_works O0 h3) ?_)
  rintro v10 c9 l9 ⟨O6, rfl⟩
  refine va (B (!l3)) ?_
  rcases bo (!l3) with g0 | g0
  ·obtain rfl := orT g0 h4
   exact vb g0 (ps (ps (ps (va (B true) (wln ⟨c9, _, _, rfl, pt, us, O6, rfl⟩)))))
  have t6 := orF g0 h4
  refine vb g0 (wn (va (v1) (wn (vx (ln 3 underlying44 s.m) (wn (va (B (decide ((p0.length : Int) > 6))) ?_))))))
  obtain rfl := si t6
  exact va (B (decide ((p0.length : Int) > 6))) (wln ⟨c9, _, _, rfl, pt, us, O6, rfl⟩)
 rintro A D ⟨f0, y9, _, rfl, i0, rfl, u2, rfl⟩
 refine nrm (cn H (fun f7 H => ?_) (fun f7 H => ?_))
 ·refine sr (bn H fun p6 g7 H => cl (c_linotypelaw06_works u2 g7) ?_)
  rintro v26 z6 l25 ⟨u6, rfl⟩
  refine va (B p6) (wln (W.ret (thr ?_)))
  obtain rfl := si H
  exact r1 ⟨_, z6, rfl, rfl, pt, u6, rfl⟩
 refine W.skip (nrm (sr (va (B true) (va (B true) (wln (sr (va (I 0) (wln (sr (va (Y) (wln (W.seq (sr (va (I 0) (wln (W.block (bn H fun y w2 a => lp w2 (fun d => Jn f0 fun c l => ∃ v29 U, Own c G (es true (RI .i64) v29 3 U d.2.1 :: F) ∧ l = [(0, v1), (1, I i), (5, B d.1), (6, B true), (7, I 0), (8, v29), (9, I d.2.2)] ∧ OA (RI .i64) c v29 U d.2.1) (fun t => match t with | .inl x_ => (fun y7 ex e w => ex = .ret ∧ (Jn f0 fun c l => Own c G (F) ∧ l = [(4, B y7)]) e w) x_ | .inr x_ => (fun d0 ex e w => ex = .exit 0 ∧ (Jn f0 fun c l => ∃ v31 a1, Own c G (es true (RI .i64) v31 3 a1 d0.2 :: F) ∧ l = [(0, v1), (1, I i), (5, B d0.1), (6, B true), (7, I 0), (8, v31)] ∧ OA (RI .i64) c v31 a1 d0.2) e w) x_) ?_ ?_ ?_)))))))))))))))))
 ·clear a w2
  intro d p2 M T H
  revert M T
  rintro A D ⟨x0, z9, _, rfl, y0, rfl, v29, U, w0, rfl, x2⟩
  refine W.seq (sr (va (I d.2.2) (va (v1) (vx (ln 3 underlying44 s.m) (va (B (decide (d.2.2 < (p0.length : Int)))) (wln (cn H (fun i7 H => ?_) (fun i7 H => ?_))))))))
  ·refine W.skip (nrm (W.seq (W.block (W.seq (sr (va (v1) (va (I d.2.2) (bn H fun q6 y2 H => ?_))))))))
   obtain ⟨g9, j7, u7⟩ := Sl.at (s.mono (i0.trans y0)) (idx_get y2)
   obtain ⟨v45, rfl, k7⟩ := j7
   refine vx (ix underlying44 s.m y2) (vx (l1 underlying35 (u7 0 _ rfl)) (vx (ln 3 underlying35 k7) (va (B (decide ((q6.length : Int) > 60))) (wln (cn H (fun l7 H => ?_) (fun l7 H => ?_))))))
   ·refine sr (va (B true) (wln (W.ret (thr (bkr (thr ?_))))))
    obtain rfl := si H
    refine ⟨_, rfl, ⟨rfl, ?_⟩⟩
    have v6 := w0.sD 1 []
    exact ⟨x0, _, _, rfl, pt, us, v6, rfl⟩
   refine W.skip (nrm (W.seq (bn H fun u0 z2 H => W.join (Jn x0 fun c l => Own c G (es true (RI .i64) v29 3 U d.2.1 :: F) ∧ l = [(0, v1), (1, I i), (5, B u0), (6, B true), (7, I 0), (8, v29), (9, I d.2.2)]) ?_ ?_)))
   ·clear H
    refine W.region (va (B d.1) ?_)
    rcases bo (d.1) with h0 | h0
    ·have e0 := anT h0 z2
     refine vb h0 (wn (va (v1) (wn (va (I d.2.2) (wn (bn e0 fun r6 a3 e0 => ?_))))))
     obtain ⟨h9, m7, v7⟩ := Sl.at (s.mono (i0.trans y0)) (idx_get a3)
     obtain ⟨v56, rfl, n7⟩ := m7
     refine vx (ix underlying44 s.m a3) (wn (vx (l1 underlying35 (v7 0 _ rfl)) (wn (bn e0 fun k2 o7 e0 => cl (c_linotyperef06_Right w0 r6 n7 o7) ?_))))
     rintro v64 a7 l63 ⟨x6, rfl⟩
     obtain rfl := si e0
     exact va (B k2) (va (B k2) (wln ⟨a7, _, _, rfl, pt, us, x6, rfl⟩))
    obtain rfl := anF h0 z2
    exact vb h0 (ps (ps (ps (ps (ps (va (B false) (va (B false) (wln ⟨x0, _, _, rfl, pt, us, w0, rfl⟩))))))))
   rintro A D ⟨s1, g66, _, rfl, i3, rfl, y6, rfl⟩
   refine nrm (sr (va (I 0) (wln (W.block (bn H fun z7 _ H => bn H fun m9 b3 t2 => lp b3 (fun n => Jn s1 fun c l => ∃ X b1, Own c G (es true (RI .i64) X 3 b1 n.1 :: F) ∧ l = [(0, v1), (1, I i), (5, B u0), (6, B true), (7, I 0), (8, X), (9, I d.2.2), (10, I n.2)] ∧ OA (RI .i64) c X b1 n.1) (fun z0 ex e w => ex = .exit 2 ∧ (Jn s1 fun c l => ∃ l0 c1, Own c G (es true (RI .i64) l0 3 c1 z0 :: F) ∧ l = [(0, v1), (1, I i), (5, B u0), (6, B true), (7, I 0), (8, l0), (9, I d.2.2)] ∧ OA (RI .i64) c l0 c1 z0) e w) ?_ ?_ ?_)))))
   ·clear t2 b3
    intro n p2 M T H
    revert M T
    rintro A D ⟨b7, g78, _, rfl, j3, rfl, X, b1, v2, rfl, c3⟩
    refine W.seq (sr (va (I n.2) (va (v1) (va (I d.2.2) (bn H fun s6 d3 H => ?_)))))
    obtain ⟨i9, p7, w7⟩ := Sl.at (s.mono (i0.trans (y0.trans (i3.trans j3)))) (idx_get d3)
    obtain ⟨v88, rfl, q7⟩ := p7
    refine vx (ix underlying44 s.m d3) (vx (l1 underlying35 (w7 0 _ rfl)) (vx (ln 3 underlying35 q7) (va (B (decide (n.2 < (s6.length : Int)))) (wln (cn H (fun r7 H => ?_) (fun r7 H => ?_))))))
    ·refine W.skip (nrm (W.seq (W.block (W.region (va (X) (va (v1) (va (I d.2.2) (bn H fun w9 e3 H => ?_))))))))
     obtain ⟨j9, s7, x7⟩ := Sl.at (s.mono (i0.trans (y0.trans (i3.trans j3)))) (idx_get e3)
     obtain ⟨k3, rfl, f3⟩ := s7
     refine vx (ix underlying44 s.m e3) (vx (l1 underlying35 (x7 0 _ rfl)) (va (I n.2) (bn H fun l2 g3 H => ?_)))
     obtain ⟨k9, t7, i6⟩ := Sl.at f3 (idx_get g3)
     obtain rfl := t7
     refine vx (ix underlying35 f3 g3) (va (.pointer (some ⟨sb k3, so k3 + n.2.toNat * 3, none⟩)) (vx (l1 underlying3 (i6 0 _ rfl)) (me (sl (RI .i64) 3 [[I l2.Lo]] ([l2.Lo] : List Int) v2 ⟨rfl, trivial⟩) ?_)))
     rintro p9 d8 u8 ⟨n9, n3, y4⟩
     obtain ⟨e8, a5, v8, o3, z4⟩ := n3.frz 0 rfl y4
     refine WL.gh a5 (bn H fun x9 b5 H => me (ap (RI .i64) (I 0) 8 23 1 o3 c3.m z4 b5 underlying23) ?_)
     rintro j2 k4 w8 ⟨n6, p3, c5⟩
     refine va (j2) (WL.nil (bkn (nrm (W.region (va (I n.2) (va (I (w64 (n.2 + 1))) (va (I (w64 (n.2 + 1))) (WL.nil ?_))))))))
     obtain rfl := si H
     refine ⟨_, rfl, ?_⟩
     have q3 := p3.sD 2 [1]
     exact ⟨k4, _, _, rfl, pt, us, j2, n6, q3, rfl, c5⟩
    refine W.exit (thx ?_)
    obtain rfl := si H
    exact ⟨_, rfl, rfl, ⟨b7, _, _, rfl, pt, us, X, b1, v2, rfl, c3⟩⟩
   ·exact ⟨s1, _, _, rfl, pt, us, v29, U, y6, rfl, x2.m⟩
   rintro _ A D ⟨rfl, l4, j8, _, rfl, x8, rfl, l0, c1, s3, rfl, d5⟩
   refine bke (bkn (nrm (W.region (va (I d.2.2) (va (I (w64 (d.2.2 + 1))) (va (I (w64 (d.2.2 + 1))) (WL.nil ?_)))))))
   obtain rfl := si t2
   exact ⟨_, rfl, ⟨l4, _, _, rfl, pt, us, l0, c1, s3, rfl, d5⟩⟩
  refine W.exit (thx ?_)
  obtain rfl := si H
  exact ⟨_, rfl, rfl, ⟨x0, _, _, rfl, pt, us, v29, U, w0, rfl, x2⟩⟩
 ·have e5 : OA (RI .i64) f0 (Y) [] [] := OA.nil (Nat.succ_pos _)
  have t3 := u2.addHole (e := es true (RI .i64) (Y) 3 [] ([] : List Int)) rfl
  exact ⟨f0, _, _, rfl, pt, us, (Y), [], t3, rfl, e5⟩
 rcases y with y | y
 ·intro e7; revert e7
  rintro _ A D ⟨rfl, m4, k8, _, rfl, y8, rfl, u3, rfl⟩
  refine bkr (thr ?_)
  obtain rfl := si a
  exact r1 ⟨_, m4, rfl, rfl, pt, u3, rfl⟩
 rintro _ A D ⟨rfl, f8, l8, _, rfl, d6, rfl, v31, a1, g1, rfl, f5⟩
 refine bke (nrm (W.seq (sr (va (B y.1) (va (B (!y.1)) (wln (cn a (fun g5 a => ?_) (fun g5 a => ?_))))))))
 ·refine sr (va (v1) (bn a fun m2 h5 a => cl (c_spans_Sum g1 p0 s.m h5) ?_))
  rintro q9 n4 z8 ⟨_, o9, v3, rfl, i5⟩
  refine vx (lnO 3 underlying35 i5) (va (B ((m2.length : Int) == 0)) (va (B ((m2.length : Int) == 0)) (wln (W.ret (thr ?_)))))
  obtain rfl := si a
  have w3 := v3.sD 2 []
  exact r1 ⟨_, n4, rfl, rfl, pt, w3, rfl⟩
 refine W.skip (nrm (sr (va (v1) (bn a fun o j5 a => cl (c_spans_Sum g1 p0 s.m j5) ?_))))
 rintro f o4 e6 ⟨_, z, x3, rfl, a0⟩
 refine va (f) (wln (W.seq (W.seq (bn a fun n2 k5 a => bn a fun x4 t1 a => W.join (Jn o4 fun c l => Own c G (es false R_api_Span f 41 z o :: es true (RI .i64) v31 3 a1 y.2 :: F) ∧ l = [(0, v1), (1, I i), (6, B true), (7, I 0), (8, v31), (11, f), (77, B x4)]) ?_ ?_))))
 ·clear a
  refine W.region (va (f) ?_)
  obtain ⟨g8, m5, f6, y3, l5⟩ := x3.frz 0 rfl a0
  refine WL.gh m5 (cl (c_linotyperef06_Right y3 o l5 k5) ?_)
  rintro r9 p4 g6 ⟨o0, rfl⟩
  refine va (B (!n2)) ?_
  rcases bo (!n2) with N | N
  ·obtain rfl := orT N t1
   exact vb N (ps (ps (ps (va (B true) (wln ⟨p4, _, _, rfl, pt, us, o0, rfl⟩)))))
  have m0 := orF N t1
  refine vb N (wn (va (f) (wn ?_)))
  have n5 := o0.slf 0 rfl (a0.mono (f6.trans g6))
  refine bn m0 fun o2 o5 m0 => cl (c_linotyperef06_Few o0 o n5 o5) ?_
  rintro s9 q4 a9 ⟨z3, rfl⟩
  refine wn (va (B (!o2)) ?_)
  obtain rfl := si m0
  exact va (B (!o2)) (wln ⟨q4, _, _, rfl, pt, us, z3, rfl⟩)
 rintro A D ⟨r4, m8, _, rfl, a2, rfl, h1, rfl⟩
 refine nrm (cn a (fun p5 a => ?_) (fun p5 a => ?_))
 ·refine sr (va (B false) (wln (W.ret (thr ?_))))
  obtain rfl := si a
  have a4 := h1.sD 2 []
  exact r1 ⟨_, r4, rfl, rfl, pt, a4, rfl⟩
 refine W.skip (nrm (sr (va (v31) (va (I i) (me (sl (RI .i64) 3 [[I i]] ([i] : List Int) h1 ⟨rfl, trivial⟩) ?_)))))
 rintro S h8 b2 ⟨R, b4, q5⟩
 obtain ⟨i8, s5, c2, c4, r5⟩ := b4.frz 0 rfl q5
 refine WL.gh s5 (bn a fun k t5 a => me (ap (RI .i64) (I 0) 8 23 2 c4 f5.m r5 t5 underlying23) ?_)
 rintro h s0 d2 ⟨q, d4, b0⟩
 refine va (h) (wln (W.seq (sr (va (I 0) (wln (W.block (bn a fun u u1 p => lp u1 (fun b => Jn s0 fun c l => Own c G (es false (RI .i64) S 3 R ([i] : List Int) :: es false R_api_Span f 41 z o :: es true (RI .i64) h 3 q k :: F) ∧ l = [(0, v1), (1, I i), (6, B b.1), (7, I b.2.1), (8, h), (11, f), (12, I b.2.2)]) (fun j0 ex e w => ex = .exit 4 ∧ (Jn s0 fun c l => Own c G (es false (RI .i64) S 3 R ([i] : List Int) :: es false R_api_Span f 41 z o :: es true (RI .i64) h 3 q k :: F) ∧ l = [(1, I i), (6, B j0.1), (7, I j0.2), (11, f)]) e w) ?_ ?_ ?_)))))))
 ·clear p u1
  intro b p2 M T a
  revert M T
  rintro A D ⟨Z, n8, _, rfl, e2, rfl, i1, rfl⟩
  refine W.seq (sr (va (I b.2.2) (va (h) (vx (lnO 3 underlying23 b0.m) (va (B (decide (b.2.2 < (k.length : Int)))) (wln (cn a (fun u5 a => ?_) (fun u5 a => ?_))))))))
  ·refine W.skip (nrm (W.seq (W.block (sr (va (I 0) (wln (W.seq (sr (va (I 0) (wln (W.block (bn a fun x w1 E => lp w1 (fun g => Jn Z fun c l => Own c G (es false (RI .i64) S 3 R ([i] : List Int) :: es false R_api_Span f 41 z o :: es true (RI .i64) h 3 q k :: F) ∧ l = [(0, v1), (1, I i), (6, B b.1), (7, I g.1), (8, h), (11, f), (12, I b.2.2), (13, I g.2)]) (fun i2 ex e w => ex = .exit 6 ∧ (Jn Z fun c l => Own c G (es false (RI .i64) S 3 R ([i] : List Int) :: es false R_api_Span f 41 z o :: es true (RI .i64) h 3 q k :: F) ∧ l = [(0, v1), (1, I i), (6, B b.1), (7, I i2), (8, h), (11, f), (12, I b.2.2)]) e w) ?_ ?_ ?_))))))))))))
   ·clear E w1
    intro g p2 M T a
    revert M T
    rintro A D ⟨s4, o8, _, rfl, f2, rfl, j1, rfl⟩
    refine W.seq (sr (va (I g.2) (va (v1) (vx (ln 3 underlying44 s.m) (va (B (decide (g.2 < (p0.length : Int)))) (wln (cn a (fun v5 a => ?_) (fun v5 a => ?_))))))))
    ·refine W.skip (nrm (W.seq (W.block (rD [] (Kp G0 [es true (RI .i64) h 3 q k]) j1 ?_))))
     intro t4 g2 k1
     have l6 : Kp G0 [es true (RI .i64) h 3 q k] t4 := (Kp.cons (k1.on 2 rfl) Kp.nil0)
     refine ta 0 (I g.1) (ta 1 (v1) (ta 2 (I g.2) (bn a fun s2 x1 a => ?_)))
     obtain ⟨a8, w5, j6⟩ := Sl.at (s.mono (i0.trans (d6.trans (e6.trans (a2.trans (b2.trans (c2.trans (d2.trans (e2.trans (f2.trans g2)))))))))) (idx_get x1)
     obtain ⟨t9, rfl, x5⟩ := w5
     refine tx 3 (fun c' z1 => ix underlying44 s.m x1) (tx 4 (fun c' z1 => l1 underlying35 ((mm j6) 0 _ rfl)) (ta 5 (h) (ta 6 (I b.2.2) (bn a fun d1 v0 a => tx 7 (fun c' z1 => ixO underlying23 b0.m v0) ?_))))
     obtain ⟨b8, y5, k6⟩ := OA.at (b0.mono (e2.trans (f2.trans g2))) v0
     obtain rfl := y5
     refine AC.takeK 8 (I d1) l6 rfl (by kernel_rfl) (by kernel_rfl) (by kernel_rfl) (fun c' z1 hk => (rx (by kernel_rfl) (ldE1 underlying3 rfl (hk.on 0 rfl) (b0.m.blk v0) (at1 (j := 0) k6 rfl)))) (bn a fun e1 z5 a => o1 9 (gc 9 (c_linotyperef06_Find k1 s2 d1 x5 z5) ?_))
     rintro u9 q1 b9 ⟨m1, rfl⟩
     have m6 : Kp G0 [es true (RI .i64) h 3 q k] q1 := (Kp.cons (m1.on 2 rfl) Kp.nil0)
     refine ⟨.inr m6, ta 10 (I (w64 (g.1 + e1))) (ta 11 (I (w64 (g.1 + e1))) (dn (bkn (nrm (W.region (va (I g.2) (va (I (w64 (g.2 + 1))) (va (I (w64 (g.2 + 1))) (WL.nil ?_)))))))))⟩
     obtain rfl := si a
     exact ⟨_, rfl, ⟨q1, _, _, rfl, pt, us, m1, rfl⟩⟩
    refine W.exit (thx ?_)
    obtain rfl := si a
    exact ⟨_, rfl, rfl, ⟨s4, _, _, rfl, pt, us, j1, rfl⟩⟩
   ·exact ⟨Z, _, _, rfl, pt, us, i1, rfl⟩
   rintro _ A D ⟨rfl, t0, p8, _, rfl, d9, rfl, n1, rfl⟩
   refine bke (nrm (bn E fun q2 y1 E => W.join (Jn t0 fun c l => Own c G (es false (RI .i64) S 3 R ([i] : List Int) :: es false R_api_Span f 41 z o :: es true (RI .i64) h 3 q k :: F) ∧ l = [(0, v1), (1, I i), (6, B q2), (7, I x), (8, h), (11, f), (12, I b.2.2)]) ?_ ?_))
   ·clear E
    refine W.region (va (B b.1) ?_)
    rcases bo (b.1) with P | P
    ·have m3 := anT P y1
     refine vb P (wn (va (I x) (wn (va (B (decide (x ≤ 65535))) ?_))))
     obtain rfl := si m3
     exact va (B (decide (x ≤ 65535))) (va (B (decide (x ≤ 65535))) (wln ⟨t0, _, _, rfl, pt, us, n1, rfl⟩))
    obtain rfl := anF P y1
    exact vb P (ps (ps (va (B false) (va (B false) (wln ⟨t0, _, _, rfl, pt, us, n1, rfl⟩)))))
   rintro A D ⟨u4, q8, _, rfl, e9, rfl, e4, rfl⟩
   refine bkn (nrm (W.region (va (I b.2.2) (va (I (w64 (b.2.2 + 1))) (va (I (w64 (b.2.2 + 1))) (WL.nil ?_))))))
   obtain rfl := si E
   exact ⟨_, rfl, ⟨u4, _, _, rfl, pt, us, e4, rfl⟩⟩
  refine W.exit (thx ?_)
  obtain rfl := si a
  exact ⟨_, rfl, rfl, ⟨Z, _, _, rfl, pt, us, i1, rfl⟩⟩
 ·exact ⟨s0, _, _, rfl, pt, us, d4, rfl⟩
 rintro _ A D ⟨rfl, v4, r8, _, rfl, h6, rfl, q0, rfl⟩
 refine bke (nrm (W.seq (sr (va (B u.1) (va (B (!u.1)) (wln (cn p (fun a6 p => ?_) (fun a6 p => ?_))))))))
 ·refine sr (va (f) (vx (lnO 3 underlying35 a0.m) (va (B ((o.length : Int) == 0)) (va (B ((o.length : Int) == 0)) (wln (W.ret (thr ?_)))))))
  obtain rfl := si p
  have f4 := q0.sD 3 []
  exact r1 ⟨_, v4, rfl, rfl, pt, f4, rfl⟩
 refine W.skip (nrm (sr (va (f) (va (I i) ?_))))
 have b6 := q0.slf 1 rfl (a0.mono (a2.trans (b2.trans (c2.trans (d2.trans h6)))))
 refine bn p fun f1 c6 p => cl (c_linotyperef06_Find q0 o i b6 c6) ?_
 rintro v9 w4 f9 ⟨g4, rfl⟩
 refine va (I u.2) (va (B (f1 == u.2)) (va (B (f1 == u.2)) (wln (W.ret ?_))))
 obtain rfl := si p
 have i4 := g4.sD 3 []
 exact r1 ⟨_, w4, rfl, rfl, pt, i4, rfl⟩

end Go.Proofs.Ytfhhpdggmefcoaa
