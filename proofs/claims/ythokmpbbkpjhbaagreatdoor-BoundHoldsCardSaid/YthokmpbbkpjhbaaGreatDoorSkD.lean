/- Parts of the proofs of ScreenSound, BoundHolds: the walk through the code, and plain Lean. No condition. -/
import Derived.Test.YthokmpbbkpjhbaaGreatDoorSkA
import Derived.Test.YthokmpbbkpjhbaaGreatDoorProg
import Derived.Test.YthokmpbbkpjhbaaGreatDoorSkB
import Derived.Test.YthokmpbbkpjhbaaGreatDoorSkC
import Derived.KernelRfl
set_option linter.unusedVariables false
set_option linter.unusedSimpArgs false
namespace Go.Proofs.YthokmpbbkpjhbaaGreatDoor
open Go Go.Lt
set_option maxRecDepth 10000
set_option linter.unusedVariables false
attribute [local irreducible] W WL AC
open Tryz
variable {c0 : Cx} {G : Gm} {F : List En} {sg : Sto} {v1 v2 v3 v4 v5 v6 v7 v8 v9 v10 v11 v12 v13 v14 v15 v16 v17 v18 v19 v20 v21 v22 v23 v24 v25 v26 v27 v28 v29 v30 v31 v32 v33 v34 v35 v36 v37 v38 v39 v40 v41 v42 v43 v44 v45 v46 v47 v48 v49 v50 v51 v52 v53 v54 v55 v56 v57 v58 v59 v60 : Value}
def f_screen_New (sg : Sto) (p0 : Int) (p1 : Int) : Option (Sto × (Option Nat)) :=
 (f_place_New sg p0 p1).bind fun b =>
 (f_feed_New b.1 b.2).bind fun c =>
 (some (c.1.add_screen_Screen (⟨c.2, b.2⟩ : G_screen_Screen))).bind fun a =>
 some (a, (some c.1.screen_Screen.length))
theorem c_screen_New (O0 : Own c0 G F) (R0 : Rel c0 sg G) (g : Int) (h : Int) {r : Sto × (Option Nat)} (H : f_screen_New sg g h = some r) :
    Calls prog 55 #[I g, I h] c0.w (Post c0 fun c v => ∃ y1, ∃ G_ : Gm, Own c G_ (F) ∧ Rel c r.1 G_ ∧ Adds G G_ ∧ v = y1 ∧ Pt 5 c y1 r.2) := by
 unfold f_screen_New at H
 refine en func55 rfl rfl (sr (va (.pointer none) (wln (sr (va (I g) (va (I h) (bn H fun n h1 H => cl (c_place_New O0 R0 g h h1) ?_)))))))
 rintro v2 c8 l8 ⟨_, G4, O5, R6, a7, rfl, p⟩
 have D := (Adds.refl _).trans a7
 refine va (v2) (wln (sr (va (v2) (bn H fun o R H => cl (c_feed_New O5 R6 n.2 p R) ?_))))
 rintro v12 j0 m ⟨_, i0, t, A, M, rfl, l⟩
 have j := D.trans M
 refine va (v2) ?_
 obtain ⟨d, rfl⟩ := (l).form
 obtain ⟨e, rfl⟩ := ((p.mono m)).form
 refine va (.agg #[.pointer d, .pointer e]) (me (al 176 [.pointer d, .pointer e] t) ?_)
 rintro v26 k0 f ⟨a, rfl, u⟩
 have y := u.sD 1 [0]
 refine bn H fun q S H => ?_
 obtain ⟨k, s, T, o0, U, z, i, l0, X, N⟩ := Rel.new_screen_Screen (E := [(Eb a 176 [.pointer d, .pointer e])]) (F := F) (x := (⟨o.2, n.2⟩ : G_screen_Screen)) (b := a) y (A.mono f) (fun c_ hle_ => ⟨a, (.pointer d), (.pointer e), rfl, rfl, (l.mono (f.trans hle_)), (p.mono ((m.trans f).trans hle_))⟩)
 rw [Option.some.inj S] at i
 refine WL.gh T.1 ?_
 have m0 := Adds.nil j X
 have P := j.trans N
 have Z : Pt 5 k (Q a) (some o.1.screen_Screen.length) := ⟨a, rfl, U⟩
 refine va (Q a) (wln (W.ret ?_))
 obtain rfl := si H
 exact r1 ⟨_, k, rfl, rfl, pt, (Q a), s, z, i, P, rfl, Z⟩
def f_screen_Screen_Do (sg : Sto) (p0 : Option Nat) (p1 : G_api_Op) : Option (Sto × Er) :=
 if p0.isNone = true then
 some (sg, (Er.sent 7))
 else
 if (p1.Kind == 0) = true then
 (p0).bind fun g =>
 (sg.screen_Screen[g]?).bind fun i =>
 (f_feed_Feeder_Bytes sg i.Feeder p1.Bytes).bind fun o =>
 some (o, Er.nil)
 else
 if (p1.Kind == 1) = true then
 (p0).bind fun h =>
 (sg.screen_Screen[h]?).bind fun j =>
 (f_feed_Feeder_Flush sg j.Feeder).bind fun p =>
 some (p, Er.nil)
 else
 if (p1.Kind == 13) = true then
 (p0).bind fun a =>
 (sg.screen_Screen[a]?).bind fun k =>
 (f_feed_Feeder_Close sg k.Feeder).bind fun c =>
 (c.screen_Screen[a]?).bind fun l =>
 (f_size_Resize c l.pen p1.A p1.B).bind fun q =>
 some (q, Er.nil)
 else
 (f_edit_Wrong p1).bind fun d =>
 if (!d.isNil) = true then
 some (sg, d)
 else
 (p0).bind fun b =>
 (sg.screen_Screen[b]?).bind fun m =>
 (f_feed_Feeder_Close sg m.Feeder).bind fun e =>
 (e.screen_Screen[b]?).bind fun n =>
 (f_edit_Do e n.pen p1).bind fun f =>
 some (f.1, f.2)
theorem c_screen_Screen_Do (O0 : Own c0 G F) (d : Rel c0 sg G) (hG : Gl [0, 4, 7] c0) (p0 : Option Nat) (a : G_api_Op) {r : Sto × Er} (t : Pt 5 c0 v1 p0) (z : Sl (RI .u8) c0 v3 a.Bytes) (H : f_screen_Screen_Do sg p0 a = some r) :
    Calls prog 56 #[v1, .agg #[I a.Kind, I a.A, I a.B, v3]] c0.w (Post c0 fun c v => ∃ y1, ∃ G_ : Gm, Own c G_ (F) ∧ Rel c r.1 G_ ∧ v = y1 ∧ RE 305 179 c y1 r.2) := by
 unfold f_screen_Screen_Do at H
 refine en func56 rfl rfl (sr ?_)
 obtain ⟨a5, a6, a7, rfl⟩ := (z).form
 refine me (bx 59 [I a.Kind, I a.A, I a.B, .slice a5 a6 a7] O0) ?_
 rintro v12 s1 b ⟨y, rfl, l, h⟩
 refine va (.nilIface) (wln (W.seq (sr (va (v1) (vr (B p0.isNone) (by rcases t.m.cs with ⟨e, f⟩ | ⟨b_, e, f⟩ <;> (subst e; rw [f]; kernel_rfl)) (wln (cn H (fun b2 H => ?_) (fun b2 H => ?_))))))))
 ·refine sr ?_
  obtain ⟨v14, S⟩ := (hG.mono b).get 7 (by decide)
  refine vx (l1 underlying37 S.im) (va (v14) (wln (W.ret (thr ?_))))
  obtain rfl := si H
  exact r1 ⟨_, s1, rfl, rfl, pt, v14, G, l, d.m, rfl, S⟩
 refine W.skip (nrm (W.seq (sr (va (Q y) (vx (l1 underlying3 (h 0 _ rfl)) (wln (W.block (sr (va (B (a.Kind == 0)) (va (B (a.Kind == 0)) (wln (cn H (fun c2 H => ?_) (fun c2 H => ?_)))))))))))))
 ·refine rD [6] (Kp G []) l ?_
  intro t1 Z E
  have h3 : Kp G [] t1 := (Kp.nil E)
  refine ta 0 (v1) (bn H fun s3 e2 H => ?_)
  obtain ⟨P, rfl, d2⟩ := ((t.mono (b.trans Z))).get e2
  refine ta 1 (Q P) (ta 2 (Q P) (bn H fun u0 f2 H => ?_))
  obtain ⟨v24, v26, i2, g2, m4⟩ := Rel.open_screen_Screen (d.mono (b.trans Z)) f2 d2
  refine tkx 3 h3 (fun n g u => le1 0 underlying73 (u.gon i2 0 rfl)) (ta 4 (.pointer (some ⟨y, 0 + 3, none⟩)) (tx 5 (fun n g => l1 underlying57 ((mm h) 3 _ rfl)) (bn H fun e4 j2 H => o1 6 (gc 6 (c_feed_Feeder_Bytes E d.m (hG.m.le (by decide)) u0.Feeder a.Bytes g2 z.m j2) ?_))))
  rintro v35 u1 q4 ⟨d1, g1, k1, rfl⟩
  refine ⟨.inl rfl, dn (bkn (nrm (sr (va (.nilIface) (wln (W.ret ?_))))))⟩
  obtain rfl := si H
  exact r1 ⟨_, u1, rfl, rfl, pt, .nilIface, d1, g1, k1, rfl, rfl⟩
 refine sr (va (B (a.Kind == 1)) (va (B (a.Kind == 1)) (wln (cn H (fun k2 H => ?_) (fun k2 H => ?_)))))
 ·refine W.region (va (v1) (bn H fun t3 m2 H => ?_))
  obtain ⟨R, rfl, l2⟩ := ((t.mono b)).get m2
  refine va (Q R) (va (Q R) (bn H fun v0 n2 H => ?_))
  obtain ⟨v41, v43, p2, o2, n4⟩ := Rel.open_screen_Screen (d.mono b) n2 l2
  refine vx (le1 0 underlying73 (l.gon p2 0 rfl)) (bn H fun f4 q2 H => cl (c_feed_Feeder_Flush l d.m (hG.m.le (by decide)) v0.Feeder o2 q2) ?_)
  rintro v52 w1 r4 ⟨e1, h1, m1, rfl⟩
  refine WL.nil (bkn (nrm (sr (va (.nilIface) (wln (W.ret ?_))))))
  obtain rfl := si H
  exact r1 ⟨_, w1, rfl, rfl, pt, .nilIface, e1, h1, m1, rfl, rfl⟩
 refine sr (va (B (a.Kind == 13)) (va (B (a.Kind == 13)) (wln (cn H (fun s2 H => ?_) (fun s2 H => ?_)))))
 ·refine sr (va (v1) (bn H fun u3 t2 H => ?_))
  obtain ⟨i, rfl, T⟩ := ((t.mono b)).get t2
  refine va (Q i) (va (Q i) (bn H fun w0 u2 H => ?_))
  obtain ⟨v58, v60, w2, v2, o4⟩ := Rel.open_screen_Screen (d.mono b) u2 T
  refine vx (le1 0 underlying73 (l.gon w2 0 rfl)) (bn H fun g4 x2 H => cl (c_feed_Feeder_Close l d.m w0.Feeder v2 x2) ?_)
  rintro u4 l4 s4 ⟨D, i1, N, rfl⟩
  refine wln (rD [8] (Kp D []) i1 ?_)
  intro x1 g3 M
  have i3 : Kp D [] x1 := (Kp.nil M)
  refine ta 0 (Q i) (ta 1 (Q i) (ta 2 (.pointer (some ⟨i, 1, none⟩)) (bn H fun x0 y2 H => ?_)))
  obtain ⟨v4, w4, a3, p4, z2⟩ := Rel.open_screen_Screen (N.mono g3) y2 (tm T)
  refine tkx 3 i3 (fun n g u => le1 1 underlying40 (u.gon a3 0 rfl)) (ta 4 (.pointer (some ⟨y, 0 + 1, none⟩)) (tx 5 (fun n g => l1 underlying3 ((mm h) 1 _ rfl)) (ta 6 (.pointer (some ⟨y, 0 + 2, none⟩)) (tx 7 (fun n g => l1 underlying3 ((mm h) 2 _ rfl)) (bn H fun i4 b3 H => o1 8 (gc 8 (c_size_Resize M N.m (hG.m.le (by decide)) x0.pen a.A a.B z2 b3) ?_))))))
  rintro x4 z1 t4 ⟨f1, j1, n1, rfl⟩
  refine ⟨.inl rfl, dn (bkn (nrm (sr (va (.nilIface) (wln (W.ret ?_))))))⟩
  obtain rfl := si H
  exact r1 ⟨_, z1, rfl, rfl, pt, .nilIface, f1, j1, n1, rfl, rfl⟩
 refine W.seq (sr (vx (lN 59 h) (bn H fun c1 c3 H => cl (c_edit_Wrong l (hG.m.le (by decide)) a z.m c3) ?_)))
 rintro k a2 a0 ⟨_, q, rfl, U⟩
 refine va (k) (wln (sr (va (k) (vr (B (!c1.isNil)) (by rcases (U).cs with ⟨e, f⟩ | ⟨b_, e, f⟩ | ⟨b_, e, f⟩ <;> (subst e; rw [f]; kernel_rfl)) (wln (cn H (fun d3 H => ?_) (fun d3 H => ?_)))))))
 ·refine sr (va (k) (va (k) (wln (W.ret (thr (bkr (thr ?_)))))))
  obtain rfl := si H
  exact r1 ⟨_, a2, rfl, rfl, pt, k, G, q, d.m, rfl, U⟩
 refine W.skip (nrm (sr (va (v1) (bn H fun w3 e3 H => ?_))))
 obtain ⟨j, rfl, X⟩ := ((t.mono (b.trans a0))).get e3
 refine va (Q j) (va (Q j) (bn H fun y0 f3 H => ?_))
 obtain ⟨z3, a4, j0, i0, p3⟩ := Rel.open_screen_Screen (d.mono (b.trans a0)) f3 X
 refine vx (le1 0 underlying73 (q.gon j0 0 rfl)) (bn H fun j4 k0 H => cl (c_feed_Feeder_Close q d.m y0.Feeder i0 k0) ?_)
 rintro b4 o3 x3 ⟨o, d0, s, rfl⟩
 refine wln (W.seq (rD [5] (Kp o []) d0 ?_))
 intro g0 t0 p
 have b1 : Kp o [] g0 := (Kp.nil p)
 refine ta 0 (Q j) (ta 1 (Q j) (ta 2 (.pointer (some ⟨j, 1, none⟩)) (bn H fun z0 l0 H => ?_)))
 obtain ⟨c4, d4, o0, q3, m0⟩ := Rel.open_screen_Screen (s.mono t0) l0 (tm X)
 refine tkx 3 b1 (fun n g u => le1 1 underlying40 (u.gon o0 0 rfl)) (tx 4 (fun n g => lN 59 (mm h)) (bn H fun k4 q0 H => o1 5 (gc 5 (c_edit_Do p s.m (hG.m.le (by decide)) z0.pen a m0 z.m q0) ?_)))
 rintro x h0 y3 ⟨_, b0, e0, f0, rfl, s0⟩
 refine ⟨.inl rfl, ta 6 (x) (dn (nrm (W.ret (bkr (thr ?_)))))⟩
 obtain rfl := si H
 exact r1 ⟨_, h0, rfl, rfl, pt, x, b0, e0, f0, rfl, s0⟩
def f_screen_Screen_Run (sg : Sto) (p0 : Option Nat) (p1 : List G_api_Op) : Option (Sto × Er) :=
 (iter (σ := Er × Int × Sto) (τ := (Er × Sto)) (((p1.length : Int) - 0).toNat + 1) (fun a =>
 if (decide (a.2.1 < (p1.length : Int))) = true then
 ((idx p1 a.2.1).bind fun f =>
 (f_screen_Screen_Do a.2.2 p0 f).bind fun b =>
 (andE (!b.2.isNil) (some a.1.isNil)).bind fun e =>
 if e = true then
 (f_api_Wrong a.2.1 b.2).bind fun g =>
 some (g, b.1)
 else
 some (a.1, b.1)).bind fun c =>
 some (.inl (c.1, (w64 (a.2.1 + 1)), c.2))
 else
 some (.inr (a.1, a.2.2))) (Er.nil, 0, sg)).bind fun d =>
 some (d.2, d.1)
theorem c_screen_Screen_Run (O0 : Own c0 G F) (R0 : Rel c0 sg G) (hG : Gl [0, 4, 7] c0) (p0 : Option Nat) (j : List G_api_Op) {r : Sto × Er} (h2 : Pt 5 c0 v1 p0) (Z : Sl R_api_Op c0 v3 j) (H : f_screen_Screen_Run sg p0 j = some r) :
    Calls prog 62 #[v1, v3] c0.w (Post c0 fun c v => ∃ y1, ∃ G_ : Gm, Own c G_ (F) ∧ Rel c r.1 G_ ∧ v = y1 ∧ RE 305 179 c y1 r.2) := by
 unfold f_screen_Screen_Run at H
 refine en func62 rfl rfl (sr (va (.nilIface) (wln (sr (va (.nilIface) (wln (W.seq (sr (va (v3) (vx (ln 3 underlying55 Z) (va (I 0) (wln (W.block (bn H fun n2 h5 H6 => lp h5 (fun a => Jn c0 fun c l => ∃ v7 G_, Own c G_ (F) ∧ l = [(0, v1), (5, v7), (9, v3), (10, I (j.length : Int)), (11, I a.2.1)] ∧ Rel c a.2.2 G_ ∧ RE 305 179 c v7 a.1) (fun u ex e w => ex = .exit 0 ∧ (Jn c0 fun c l => ∃ v8 G_, Own c G_ (F) ∧ l = [(5, v8)] ∧ Rel c u.2 G_ ∧ RE 305 179 c v8 u.1) e w) ?_ ?_ ?_))))))))))))))
 ·clear H6 h5
  intro a o2 a1 n1 H
  revert a1 n1
  rintro X w_ ⟨c9, c2, _, rfl, l9, rfl, v7, d0, y, rfl, M, s⟩
  refine sr (va (B (decide (a.2.1 < (j.length : Int)))) (wln (W.seq (cn H (fun b1 H => ?_) (fun b1 H => ?_)))))
  ·refine W.skip (nrm (bn H fun x b g0 => W.seqJ (Jn c9 fun c l => ∃ v19 G_, Own c G_ (F) ∧ l = [(0, v1), (5, v19), (9, v3), (10, I (j.length : Int)), (11, I a.2.1)] ∧ Rel c x.2 G_ ∧ RE 305 179 c v19 x.1) ?_ ?_))
   ·refine W.block (sr (va (I a.2.1) (bn b fun d P b => ?_)))
    obtain ⟨x1, c1, m1⟩ := Sl.at (Z.mono l9) (idx_get P)
    obtain ⟨v24, rfl, t⟩ := c1
    refine vx (ix underlying55 Z.m P) (vx (lN 59 m1) (me (al 59 [I 0, I 0, I 0, Y] y) ?_))
    rintro v29 a2 k1 ⟨u0, rfl, j0⟩
    refine va (I a.2.1) ?_
    obtain ⟨n, o, p, rfl⟩ := ((t.mono k1)).form
    refine md (sA 59 [I d.Kind, I d.A, I d.B, .slice n o p] 0 j0 ⟨rfl, rfl, rfl, t.m.one, trivial⟩) ?_
    rintro b2 g2 z
    refine wln (sr (va (v1) (vx (leN 59 0 [I d.Kind, I d.A, I d.B, .slice n o p] (z.on 0 rfl)) (bn b fun i d1 b => cl (c_screen_Screen_Do z M.m (hG.m.le (by decide)) p0 d h2.m t.m d1) ?_))))
    rintro v36 q i2 ⟨_, k, D, N, rfl, R⟩
    refine va (v36) (wln (W.seq (bn b fun U S b => W.join (Jn q fun c l => Own c k ((Eb u0 59 [I d.Kind, I d.A, I d.B, .slice n o p]) :: F) ∧ l = [(0, v1), (5, v7), (6, I a.2.1), (8, v36), (9, v3), (10, I (j.length : Int)), (11, I a.2.1), (24, B U)]) ?_ ?_)))
    ·clear b
     refine W.region (va (v36) (vr (B (!i.2.isNil)) (by rcases (R).cs with ⟨f, g⟩ | ⟨T, f, g⟩ | ⟨T, f, g⟩ <;> (subst f; rw [g]; kernel_rfl)) ?_))
     rcases bo (!i.2.isNil) with h | h
     ·have h0 := anT h S
      refine vb h (wn (va (v7) (wn (vr (B a.1.isNil) (by rcases s.m.cs with ⟨f, g⟩ | ⟨T, f, g⟩ | ⟨T, f, g⟩ <;> (subst f; rw [g]; kernel_rfl)) ?_))))
      obtain rfl := si h0
      exact va (B a.1.isNil) (wln ⟨q, _, _, rfl, pt, us, D, rfl⟩)
     obtain rfl := anF h S
     exact vb h (ps (ps (va (B false) (wln ⟨q, _, _, rfl, pt, us, D, rfl⟩))))
    rintro X w_ ⟨v0, d2, _, rfl, j2, rfl, E, rfl⟩
    refine nrm (cn b (fun f1 b => ?_) (fun f1 b => ?_))
    ·refine W.region (va (I a.2.1) (va (v36) (bn b fun z1 g1 b => cl (c_api_Wrong E a.2.1 i.2 R.m g1) ?_)))
     rintro v55 w0 k2 ⟨_, k0, rfl, h1⟩
     refine va (v55) (WL.nil (bkn (nrm ?_)))
     obtain rfl := si b
     have l0 := k0.sD 1 []
     exact ⟨w0, _, _, rfl, pt, us, v55, k, l0, rfl, N.m, h1⟩
    refine W.skip (bkn (nrm ?_))
    obtain rfl := si b
    have m0 := E.sD 1 []
    exact ⟨v0, _, _, rfl, pt, us, v7, k, m0, rfl, N.m, s.m⟩
   rintro X w_ ⟨x0, e2, _, rfl, l2, rfl, v19, e0, o0, rfl, s0, i1⟩
   refine W.region (va (I (w64 (a.2.1 + 1))) (va (I (w64 (a.2.1 + 1))) (WL.nil ?_)))
   obtain rfl := si g0
   exact ⟨_, rfl, ⟨x0, _, _, rfl, pt, us, v19, e0, o0, rfl, s0, i1⟩⟩
  refine W.exit (thx ?_)
  obtain rfl := si H
  exact ⟨_, rfl, rfl, ⟨c9, _, _, rfl, pt, us, v7, d0, y, rfl, M, s⟩⟩
 ·exact ⟨c0, _, _, rfl, pt, us, .nilIface, G, O0, rfl, R0, rfl⟩
 rintro _ X w_ ⟨rfl, y0, f2, _, rfl, m2, rfl, v8, f0, q0, rfl, t0, j1⟩
 refine bke (nrm (sr (va (v8) (va (v8) (wln (W.ret ?_))))))
 obtain rfl := si H6
 exact r1 ⟨_, y0, rfl, rfl, pt, v8, f0, q0, t0, rfl, j1⟩
def f_screen_Screen_View (sg : Sto) (p0 : Option Nat) : Option (G_api_View) :=
 if p0.isNone = true then
 some (⟨0, 0, ([] : List G_api_Line), (⟨0, 0, false⟩ : G_api_Cursor), false⟩ : G_api_View)
 else
 (p0).bind fun b =>
 (sg.screen_Screen[b]?).bind fun d =>
 (d.pen).bind fun c =>
 (sg.place_Pen[c]?).bind fun a =>
 (f_grid_Grid_Wide sg a.G).bind fun e =>
 (f_grid_Grid_High sg a.G).bind fun f =>
 (f_grid_Grid_Lines sg a.G).bind fun g =>
 some (⟨e, f, g, a.At, a.Auto⟩ : G_api_View)
theorem c_screen_Screen_View (O0 : Own c0 G F) (o : Rel c0 sg G) (U : Option Nat) {r : G_api_View} (h2 : Pt 5 c0 v1 U) (H : f_screen_Screen_View sg U = some r) :
    Calls prog 57 #[v1] c0.w (Post c0 fun c v => ∃ X y2, Own c G (es true R_api_Line X 71 y2 r.Lines :: F) ∧ v = .agg #[I r.Wide, I r.High, X, I r.At.Row, I r.At.Col, B r.At.Pending, B r.Auto] ∧ OA R_api_Line c X y2 r.Lines) := by
 unfold f_screen_Screen_View at H
 refine en func57 rfl rfl (sr (me (al 96 [I 0, I 0, Y, I 0, I 0, B false, B false] O0) ?_))
 rintro v6 c5 T ⟨b3, rfl, y⟩
 refine wln (W.seq (sr (va (v1) (vr (B U.isNone) (by rcases h2.m.cs with ⟨N, P⟩ | ⟨b_, N, P⟩ <;> (subst N; rw [P]; kernel_rfl)) (wln (cn H (fun h7 H => ?_) (fun h7 H => ?_)))))))
 ·refine sr (va (.agg #[I 0, I 0, Y, I 0, I 0, B false, B false]) (md (sA 96 [I 0, I 0, Y, I 0, I 0, B false, B false] 0 y ⟨rfl, rfl, rfl, rfl, rfl, rfl, rfl, trivial⟩) ?_))
  rintro S l9 O8
  refine wln (W.ret (thr ?_))
  obtain rfl := si H
  have g0 : OA R_api_Line S (Y) [] [] := OA.nil (Nat.succ_pos _)
  have z := O8.addHole (e := es true R_api_Line (Y) 71 [] ([] : List G_api_Line)) rfl
  have Z := z.sD 2 [0]
  exact retC (c := S) (vs := [I 0, I 0, Y, I 0, I 0, B false, B false]) rfl (by kernel_rfl) (by kernel_rfl) (by kernel_rfl) (z.on 1 rfl _ rfl).1 ⟨_, S, rfl, rfl, pt, (Y), [], Z, rfl, g0⟩
 refine W.skip (nrm (sr (va (v1) (bn H fun e1 i0 H => ?_))))
 obtain ⟨b, rfl, h0⟩ := ((h2.mono T)).get i0
 refine va (Q b) (va (.pointer (some ⟨b, 1, none⟩)) (bn H fun g1 j0 H => ?_))
 obtain ⟨v17, v19, q, i1, l0⟩ := Rel.open_screen_Screen (o.mono T) j0 h0
 refine vx (le1 1 underlying40 (y.gon q 0 rfl)) (bn H fun f1 o0 H => ?_)
 obtain ⟨d, rfl, m0⟩ := (l0).get o0
 refine va (Q d) (va (Q d) (bn H fun a q0 H => ?_))
 obtain ⟨v26, t, s⟩ := Rel.open_place_Pen (o.mono T) q0 m0
 refine vx (le1 0 underlying35 (y.gon t 0 rfl)) (va (v26) (wln (W.seq (rD [] (Kp G []) y ?_))))
 intro b0 j1 A
 have l : Kp G [] b0 := (Kp.nil A)
 refine ta 0 (v26) (ta 2 (v26) (ta 4 (v26) (ta 6 (Q b) (ta 7 (Q b) (ta 8 (.pointer (some ⟨b, 1, none⟩)) (tkx 9 l (fun R x f => le1 1 underlying40 (f.gon q 0 rfl)) (ta 10 (Q d) (ta 11 (.pointer (some ⟨d, 1, none⟩)) (tkx 12 l (fun R x f => leN 24 1 [I a.At.Row, I a.At.Col, B a.At.Pending] (f.gon t 0 rfl)) (ta 13 (Q b) (ta 14 (Q b) (ta 15 (.pointer (some ⟨b, 1, none⟩)) (tkx 16 l (fun R x f => le1 1 underlying40 (f.gon q 0 rfl)) (ta 17 (Q d) (ta 18 (.pointer (some ⟨d, 4, none⟩)) (tkx 19 l (fun R x f => le1 4 underlying4 (f.gon t 0 rfl)) (bn H fun g s0 H => o1 1 (gc 1 (c_grid_Grid_Wide A o.m a.G s.m s0) ?_))))))))))))))))))
 rintro v38 d0 k1 ⟨D, rfl⟩
 have v0 : Kp G [] d0 := (Kp.nil D)
 refine ⟨.inr v0, bn H fun h t0 H => o1 3 (gc 3 (c_grid_Grid_High D o.m a.G s.m t0) ?_)⟩
 rintro v46 e0 m1 ⟨E, rfl⟩
 have w0 : Kp G [] e0 := (Kp.nil E)
 refine ⟨.inr w0, bn H fun h1 u0 H => o1 5 (gc 5 (c_grid_Grid_Lines E o.m a.G s.m u0) ?_)⟩
 rintro v49 f0 n1 ⟨_, z0, M, rfl, u⟩
 have x0 : Kp G [] f0 := (Kp.nil M)
 refine ⟨.inr x0, ?_⟩
 obtain ⟨i, j, k, rfl⟩ := (u).form
 refine ta 20 (.agg #[I g, I h, .slice i j k, I a.At.Row, I a.At.Col, B a.At.Pending, B a.Auto]) (o1 21 (gD 21 (sA 96 [I g, I h, .slice i j k, I a.At.Row, I a.At.Col, B a.At.Pending, B a.Auto] 1 M ⟨rfl, rfl, (u).one, rfl, rfl, rfl, rfl, trivial⟩) ?_))
 rintro p p1 n
 have y0 : Kp G [] p := (Kp.nil n)
 refine ⟨.inr y0, dn (nrm (W.ret ?_))⟩
 obtain rfl := si H
 have a0 := n.sD 2 [0]
 exact retC (c := p) (vs := [I g, I h, .slice i j k, I a.At.Row, I a.At.Col, B a.At.Pending, B a.Auto]) rfl (by kernel_rfl) (by kernel_rfl) (by kernel_rfl) (n.on 1 rfl _ rfl).1 ⟨_, p, rfl, rfl, pt, (.slice i j k), z0, a0, rfl, u.m⟩
def f_linotypelaw40_works (sg : Sto) : Option (Sto × Bool) :=
 (f_screen_New sg 3 1).bind fun b =>
 (if b.2.isNone = true then some (true, b.1) else (f_screen_Screen_Run b.1 b.2 ([(⟨0, 0, 0, ([97] : List Int)⟩ : G_api_Op), (⟨2, 0, 0, ([] : List Int)⟩ : G_api_Op), (⟨0, 0, 0, ([204, 129] : List Int)⟩ : G_api_Op)] : List G_api_Op)).bind fun d =>
 some (!d.2.isNil, d.1)).bind fun c =>
 if c.1 = true then
 some (c.2, false)
 else
 (f_screen_Screen_View c.2 b.2).bind fun a =>
 (andE ((a.Lines.length : Int) == 1) ((idx a.Lines 0).bind fun i =>
 some ((i.Cells.length : Int) == 3))).bind fun e =>
 (andE e ((idx a.Lines 0).bind fun j =>
 (idx j.Cells 0).bind fun k =>
 (f_linotyperef01_Same k.Text ([769] : List Int)).bind fun l =>
 some l)).bind fun f =>
 (andE f (some (a.At.Row == 0 && (a.At.Col == 1 && (a.At.Pending == false && true))))).bind fun g =>
 (andE g (some a.Auto)).bind fun h =>
 some (c.2, h)
theorem c_linotypelaw40_works (O0 : Own c0 G F) (R0 : Rel c0 sg G) (hG : Gl [0, 4, 7] c0) {r : Sto × Bool} (H : f_linotypelaw40_works sg = some r) :
    Calls prog 54 #[] c0.w (Post c0 fun c v => ∃ G_ : Gm, Own c G_ (F) ∧ Rel c r.1 G_ ∧ v = B r.2) := by
 unfold f_linotypelaw40_works at H
 refine en func54 rfl rfl (sr (va (B false) (wln (sr (bn H fun E h1 H => cl (c_screen_New O0 R0 3 1 h1) ?_)))))
 rintro v2 c8 l8 ⟨_, G4, O5, R6, a7, rfl, h3⟩
 refine va (v2) (wln (W.seq (W.seq (bn H fun v0 w0 H => W.join (Jn c8 fun c l => ∃ G_, Own c G_ (F) ∧ l = [(1, v2), (17, B v0.1)] ∧ Rel c v0.2 G_) ?_ ?_))))
 ·clear H
  refine W.region (va (v2) (vr (B E.2.isNone) (by rcases (h3).cs with ⟨k, n⟩ | ⟨b_, k, n⟩ <;> (subst k; rw [n]; kernel_rfl)) ?_))
  rcases bo (E.2.isNone) with s | s
  ·obtain rfl := Option.some.inj (it s w0)
   exact vb s (ps (ps (ps (ps (ps (ps (ps (ps (ps (ps (va (B true) (wln ⟨c8, _, _, rfl, pt, us, G4, O5, rfl, R6⟩))))))))))))
  have N := ie s w0
  refine vb s (wn (va (v2) (wn (me (sl (RI .u8) 5 [[.int .u8 97]] ([97] : List Int) O5 ⟨rfl, trivial⟩) ?_))))
  rintro v17 l4 l16 ⟨c5, b2, u2⟩
  refine wn (me (Own.mark (T := 57) 0 b2 rfl u2 (by kernel_rfl) underlying57 underlying5 (by kernel_rfl)) ?_)
  rintro v21 m4 u4 ⟨c2, x0⟩
  have d2 := c2.sD 1 []
  refine wn ?_
  obtain ⟨S, U, X, rfl⟩ := (x0).form
  refine va (.agg #[I 0, I 0, I 0, .slice S U X]) (wn (va (.agg #[I 2, I 0, I 0, Y]) (wn (me (sl (RI .u8) 5 [[.int .u8 204], [.int .u8 129]] ([204, 129] : List Int) d2 ⟨rfl, rfl, trivial⟩) ?_))))
  rintro v30 n4 v4 ⟨d5, e2, y0⟩
  refine wn ?_
  obtain ⟨Z, a0, b0, rfl⟩ := (y0).form
  refine va (.agg #[I 0, I 0, I 0, .slice Z a0 b0]) (wn ?_)
  obtain ⟨o4, x2, w4, f2, w2⟩ := e2.frz 0 rfl y0
  refine WL.gh x2 (me (sl R_api_Op 59 [[I 0, I 0, I 0, .slice S U X], [I 2, I 0, I 0, Y], [I 0, I 0, I 0, .slice Z a0 b0]] ([(⟨0, 0, 0, ([97] : List Int)⟩ : G_api_Op), (⟨2, 0, 0, ([] : List Int)⟩ : G_api_Op), (⟨0, 0, 0, ([204, 129] : List Int)⟩ : G_api_Op)] : List G_api_Op) f2 ⟨⟨(.slice S U X), rfl, x0.m⟩, ⟨(Y), rfl, (Sl.nl _ _)⟩, ⟨(.slice Z a0 b0), rfl, w2⟩, trivial⟩) ?_)
  rintro v42 p4 x4 ⟨e5, g2, y2⟩
  refine wn ?_
  obtain ⟨q4, a3, y4, h2, z2⟩ := g2.frz 0 rfl y2
  refine WL.gh a3 (bn N fun s0 b3 N => cl (c_screen_Screen_Run h2 R6.m (hG.m.le (by decide)) E.2 ([(⟨0, 0, 0, ([97] : List Int)⟩ : G_api_Op), (⟨2, 0, 0, ([] : List Int)⟩ : G_api_Op), (⟨0, 0, 0, ([204, 129] : List Int)⟩ : G_api_Op)] : List G_api_Op) h3.m z2 b3) ?_)
  rintro v48 q2 z4 ⟨_, a2, j2, n2, rfl, c3⟩
  refine wn (vr (B (!s0.2.isNil)) (by rcases (c3).cs with ⟨k, n⟩ | ⟨b_, k, n⟩ | ⟨b_, k, n⟩ <;> (subst k; rw [n]; kernel_rfl)) ?_)
  obtain rfl := si N
  refine va (B (!s0.2.isNil)) (wln ?_)
  have k2 := j2.sD 2 []
  exact ⟨q2, _, _, rfl, pt, us, a2, k2, rfl, n2⟩
 rintro e_ w_ ⟨s2, t4, _, rfl, a5, rfl, M, u0, rfl, R⟩
 refine nrm (cn H (fun d3 H => ?_) (fun d3 H => ?_))
 ·refine sr (va (B false) (wln (W.ret (thr ?_))))
  obtain rfl := si H
  exact r1 ⟨_, s2, rfl, rfl, pt, M, u0, R, rfl⟩
 refine W.skip (nrm (sr (va (v2) (bn H fun a e3 H => cl (c_screen_Screen_View u0 R E.2 h3.m e3) ?_))))
 rintro g5 r4 b5 ⟨f5, k3, l2, rfl, b⟩
 refine me (al 96 [I 0, I 0, Y, I 0, I 0, B false, B false] l2) ?_
 rintro h5 s4 q0 ⟨i, rfl, m2⟩
 obtain ⟨o, p, q, rfl⟩ := ((b.mono q0)).form
 refine md (sA 96 [I a.Wide, I a.High, .slice o p q, I a.At.Row, I a.At.Col, B a.At.Pending, B a.Auto] 0 m2 ⟨rfl, rfl, b.m.one, rfl, rfl, rfl, rfl, trivial⟩) ?_
 rintro d0 a1 d
 refine wln (W.seq (bn H fun t3 z0 H => bn H fun u3 m0 H => bn H fun v3 D H => bn H fun n1 t H => W.join (Jn d0 fun c l => Own c M ((Eb i 96 [I a.Wide, I a.High, .slice o p q, I a.At.Row, I a.At.Col, B a.At.Pending, B a.Auto]) :: es true R_api_Line (.slice o p q) 71 k3 a.Lines :: F) ∧ l = [(0, B n1)]) ?_ ?_))
 ·clear H
  refine W.region (va (.pointer (some ⟨i, 2, none⟩)) (vx (le1 2 underlying22 (d.on 0 rfl)) (vx (lnO 3 underlying22 b.m) (va (B ((a.Lines.length : Int) == 1)) ?_))))
  rcases bo ((a.Lines.length : Int) == 1) with u | u
  ·have P := anT u z0
   refine vb u (wn (va (.pointer (some ⟨i, 2, none⟩)) (wn (vx (le1 2 underlying22 (d.on 0 rfl)) (wn (bn P fun A o0 P => vx (ixO underlying22 b.m o0) (wn (va (.pointer (some ⟨sb (.slice o p q), (0 : Int).toNat * 2, none⟩)) (wn ?_)))))))))
   obtain ⟨d4, f3, j3⟩ := OA.at (b.mono (q0.trans a1)) o0
   obtain ⟨l3, rfl, g3⟩ := f3
   refine vr l3 (rx (by kernel_rfl) (ldE1 underlying69 rfl (d.on 1 rfl) (b.m.blk o0) (at1 (j := 0) j3 rfl))) (wn (vx (ln 3 underlying69 g3) (wn (va (B ((A.Cells.length : Int) == 3)) ?_))))
   obtain rfl := si P
   refine va (B ((A.Cells.length : Int) == 3)) ?_
   rcases bo ((A.Cells.length : Int) == 3) with x | x
   ·have e := anT x m0
    refine vb x (wn (va (.pointer (some ⟨i, 2, none⟩)) (wn (vx (le1 2 underlying22 (d.on 0 rfl)) (wn (bn e fun k4 p0 e => vx (ixO underlying22 b.m p0) (wn (va (.pointer (some ⟨sb (.slice o p q), (0 : Int).toNat * 2, none⟩)) (wn ?_)))))))))
    obtain ⟨e4, i3, x1⟩ := OA.at (b.mono (q0.trans a1)) p0
    obtain ⟨z, rfl, e0⟩ := i3
    refine vr z (rx (by kernel_rfl) (ldE1 underlying69 rfl (d.on 1 rfl) (b.m.blk p0) (at1 (j := 0) x1 rfl))) (wn (bn e fun z1 f0 e => ?_))
    obtain ⟨m3, p1, y1⟩ := Sl.at e0 (idx_get f0)
    obtain ⟨g4, rfl, q1⟩ := p1
    refine vx (ix underlying69 e0 f0) (wn (va (.pointer (some ⟨sb z, so z + (0 : Int).toNat * 2 + 1, none⟩)) (wn (vx (l1 underlying27 (y1 1 _ rfl)) (wn (me (sl (RI .i32) 21 [[J 769]] ([769] : List Int) d ⟨rfl, trivial⟩) ?_))))))
    rintro h4 q3 z3 ⟨f4, d1, s1⟩
    refine wn ?_
    obtain ⟨s3, u1, a4, e1, t1⟩ := d1.frz 0 rfl s1
    refine WL.gh u1 (bn e fun t0 v1 e => cl (c_linotyperef01_Same e1 z1.Text ([769] : List Int) q1.m t1 v1) ?_)
    rintro i4 y b4 ⟨f, rfl⟩
    obtain rfl := si e
    refine va (B t0) ?_
    rcases bo (t0) with g | g
    ·have b1 := anT g D
     refine vb g (wn (va (.pointer (some ⟨i, 3, none⟩)) (wn (vx (leN 24 3 [I a.At.Row, I a.At.Col, B a.At.Pending] (f.on 1 rfl)) (wn (va (.agg #[I 0, I 1, B false]) (wn (vr (B (a.At.Row == 0 && (a.At.Col == 1 && (a.At.Pending == false && true)))) (run_eqlA (T := 24) (xs := #[I a.At.Row, I a.At.Col, B a.At.Pending]) (ys := #[I 0, I 1, B false]) (r := (a.At.Row == 0 && (a.At.Col == 1 && (a.At.Pending == false && true)))) underlying24 (by kernel_rfl) (by kernel_rfl) (EqP.int (by kernel_rfl) underlying3 rfl rfl (EqP.int (by kernel_rfl) underlying3 rfl rfl (EqP.bool (by kernel_rfl) underlying4 rfl rfl EqP.nil))) (by kernel_rfl) _) ?_))))))))
     obtain rfl := si b1
     refine va (B (a.At.Row == 0 && (a.At.Col == 1 && (a.At.Pending == false && true)))) ?_
     rcases bo ((a.At.Row == 0 && (a.At.Col == 1 && (a.At.Pending == false && true)))) with h | h
     ·have c1 := anT h t
      refine vb h (wn (va (.pointer (some ⟨i, 6, none⟩)) (wn (vx (le1 6 underlying4 (f.on 1 rfl)) ?_))))
      obtain rfl := si c1
      refine va (B a.Auto) (va (B a.Auto) (wln ?_))
      have f1 := f.sD 3 [1, 2]
      exact ⟨y, _, _, rfl, pt, us, f1, rfl⟩
     obtain rfl := anF h t
     refine vb h (ps (ps (va (B false) (va (B false) (wln ?_)))))
     have g1 := f.sD 3 [1, 2]
     exact ⟨y, _, _, rfl, pt, us, g1, rfl⟩
    obtain rfl := anF g D
    refine vb g (ps (ps (ps (ps (va (B false) ?_)))))
    have g0 : false = false := rfl
    obtain rfl := anF g0 t
    refine vb g0 (ps (ps (va (B false) (va (B false) (wln ?_)))))
    have i1 := f.sD 3 [1, 2]
    exact ⟨y, _, _, rfl, pt, us, i1, rfl⟩
   obtain rfl := anF x m0
   refine vb x (ps (ps (ps (ps (ps (ps (ps (ps (ps (ps (va (B false) ?_)))))))))))
   have h0 : false = false := rfl
   obtain rfl := anF h0 D
   refine vb h0 (ps (ps (ps (ps (va (B false) ?_)))))
   have i0 : false = false := rfl
   obtain rfl := anF i0 t
   exact vb i0 (ps (ps (va (B false) (va (B false) (wln ⟨d0, _, _, rfl, pt, us, d, rfl⟩)))))
  obtain rfl := anF u z0
  refine vb u (ps (ps (ps (ps (ps (ps (ps (va (B false) ?_))))))))
  have j0 : false = false := rfl
  obtain rfl := anF j0 m0
  refine vb j0 (ps (ps (ps (ps (ps (ps (ps (ps (ps (ps (va (B false) ?_)))))))))))
  have k0 : false = false := rfl
  obtain rfl := anF k0 D
  refine vb k0 (ps (ps (ps (ps (va (B false) ?_)))))
  have l0 : false = false := rfl
  obtain rfl := anF l0 t
  exact vb l0 (ps (ps (va (B false) (va (B false) (wln ⟨d0, _, _, rfl, pt, us, d, rfl⟩)))))
 rintro e_ w_ ⟨m1, x3, _, rfl, c4, rfl, j1, rfl⟩
 refine nrm (W.ret ?_)
 obtain rfl := si H
 have k1 := j1.sD 2 []
 exact r1 ⟨_, m1, rfl, rfl, pt, M, k1, R.m, rfl⟩
def f_linotypelaw40_Great (p0 : List G_api_Op) : Option (Bool) :=
 (iter (σ := Int × Int) (τ := Bool ⊕ Unit) (((p0.length : Int) - 0).toNat + 1) (fun a =>
 (andE (decide (a.2 < (p0.length : Int))) (some (decide (a.2 < 60)))).bind fun d =>
 if d = true then
 (idx p0 a.2).bind fun c =>
 (orE (decide ((w64 (a.1 + (c.Bytes.length : Int))) > 600)) ((idx p0 a.2).bind fun h =>
 (andE (h.Kind == 13) ((idx p0 a.2).bind fun i =>
 some (decide (i.A > 60)))).bind fun f =>
 (andE f ((idx p0 a.2).bind fun j =>
 some (decide (j.B > 60)))).bind fun g =>
 some g)).bind fun e =>
 if e = true then
 some (.inr (.inl true))
 else
 some (.inl ((w64 (a.1 + (c.Bytes.length : Int))), (w64 (a.2 + 1))))
 else
 some (.inr (.inr ()))) (0, 0)).bind fun b =>
 match b with
 | .inl b =>
 some b
 | .inr b =>
 some (decide ((p0.length : Int) > 50))
theorem c_linotypelaw40_Great (O0 : Own c0 G F) (s : List G_api_Op) {r : Bool} (f : Sl R_api_Op c0 v1 s) (H : f_linotypelaw40_Great s = some r) :
    Calls prog 59 #[v1] c0.w (Post c0 fun c v => Own c G (F) ∧ v = B r) := by
 unfold f_linotypelaw40_Great at H
 refine en func59 rfl rfl (sr (va (B false) (wln (sr (va (I 0) (wln (W.seq (sr (va (I 0) (wln (W.block (bn H fun y h3 H4 => lp h3 (fun a => Jn c0 fun c l => Own c G (F) ∧ l = [(0, v1), (3, I a.1), (4, I a.2)]) (fun t => match t with | .inl x_ => (fun i1 ex e w => ex = .ret ∧ (Jn c0 fun c l => Own c G (F) ∧ l = [(2, B i1)]) e w) x_ | .inr x_ => (fun t1 ex e w => ex = .exit 0 ∧ (Jn c0 fun c l => Own c G (F) ∧ l = [(0, v1)]) e w) x_) ?_ ?_ ?_))))))))))))
 ·clear H4 h3
  intro a f2 t0 j1 H
  revert t0 j1
  rintro D M ⟨c5, g6, _, rfl, E, rfl, O7, rfl⟩
  refine W.seq (W.seq (bn H fun g0 R H => W.join (Jn c5 fun c l => Own c G (F) ∧ l = [(0, v1), (3, I a.1), (4, I a.2), (12, B g0)]) ?_ ?_))
  ·clear H
   refine W.region (va (I a.2) (va (v1) (vx (ln 3 underlying55 f.m) (va (B (decide (a.2 < (s.length : Int)))) ?_))))
   rcases bo (decide (a.2 < (s.length : Int))) with i | i
   ·have k0 := anT i R
    refine vb i (wn (va (I a.2) (wn (va (B (decide (a.2 < 60))) ?_))))
    obtain rfl := si k0
    exact va (B (decide (a.2 < 60))) (wln ⟨c5, _, _, rfl, pt, us, O7, rfl⟩)
   obtain rfl := anF i R
   exact vb i (ps (ps (va (B false) (wln ⟨c5, _, _, rfl, pt, us, O7, rfl⟩))))
  rintro D M ⟨g, u1, _, rfl, q, rfl, h, rfl⟩
  refine nrm (cn H (fun v0 H => ?_) (fun v0 H => ?_))
  ·refine W.skip (nrm (W.seq (W.block (sr (va (I a.1) (va (v1) (va (I a.2) (bn H fun d S H => ?_))))))))
   obtain ⟨n1, w0, e1⟩ := Sl.at (f.mono (E.trans q)) (idx_get S)
   obtain ⟨v25, rfl, x0⟩ := w0
   refine vx (ix underlying55 f.m S) (va (.pointer (some ⟨sb v1, so v1 + a.2.toNat * 4 + 3, none⟩)) (vx (l1 underlying57 (e1 3 _ rfl)) (vx (ln 3 underlying57 x0) (va (I (w64 (a.1 + (d.Bytes.length : Int)))) (va (I (w64 (a.1 + (d.Bytes.length : Int)))) (wln (W.seq (bn H fun h0 T H => W.join (Jn g fun c l => Own c G (F) ∧ l = [(0, v1), (3, I (w64 (a.1 + (d.Bytes.length : Int)))), (4, I a.2), (48, B h0)]) ?_ ?_))))))))
   ·clear H
    refine W.region (va (I (w64 (a.1 + (d.Bytes.length : Int)))) (va (B (decide ((w64 (a.1 + (d.Bytes.length : Int))) > 600))) ?_))
    rcases bo (decide ((w64 (a.1 + (d.Bytes.length : Int))) > 600)) with j | j
    ·obtain rfl := orT j T
     exact vb j (ps (ps (ps (ps (ps (ps (ps (ps (ps (ps (ps (ps (ps (ps (ps (ps (ps (ps (ps (ps (ps (ps (va (B true) (wln ⟨g, _, _, rfl, pt, us, h, rfl⟩))))))))))))))))))))))))
    have b := orF j T
    refine vb j (wn (va (v1) (wn (va (I a.2) (wn (bn b fun z U b => ?_))))))
    obtain ⟨p1, z0, f1⟩ := Sl.at (f.mono (E.trans q)) (idx_get U)
    obtain ⟨v34, rfl, z1⟩ := z0
    refine vx (ix underlying55 f.m U) (wn (va (.pointer (some ⟨sb v1, so v1 + a.2.toNat * 4, none⟩)) (wn (vx (l1 underlying3 (f1 0 _ rfl)) (wn (va (B (z.Kind == 13)) (wn (bn b fun m1 X b => ?_))))))))
    rcases bo (z.Kind == 13) with k | k
    ·have u := anT k X
     refine vb k (wn (va (v1) (wn (va (I a.2) (wn (bn u fun o Z u => ?_))))))
     obtain ⟨q1, a1, g1⟩ := Sl.at (f.mono (E.trans q)) (idx_get Z)
     obtain ⟨v43, rfl, a2⟩ := a1
     refine vx (ix underlying55 f.m Z) (wn (va (.pointer (some ⟨sb v1, so v1 + a.2.toNat * 4 + 1, none⟩)) (wn (vx (l1 underlying3 (g1 1 _ rfl)) (wn (va (B (decide (o.A > 60))) (wn ?_)))))))
     obtain rfl := si u
     refine va (B (decide (o.A > 60))) (wn (bn b fun i0 a0 b => ?_))
     rcases bo (decide (o.A > 60)) with n | n
     ·have x := anT n a0
      refine vb n (wn (va (v1) (wn (va (I a.2) (wn (bn x fun p b0 x => ?_))))))
      obtain ⟨s1, b1, h1⟩ := Sl.at (f.mono (E.trans q)) (idx_get b0)
      obtain ⟨v52, rfl, b2⟩ := b1
      refine vx (ix underlying55 f.m b0) (wn (va (.pointer (some ⟨sb v1, so v1 + a.2.toNat * 4 + 2, none⟩)) (wn (vx (l1 underlying3 (h1 2 _ rfl)) (wn (va (B (decide (p.B > 60))) (wn ?_)))))))
      obtain rfl := si x
      refine va (B (decide (p.B > 60))) ?_
      obtain rfl := si b
      exact va (B (decide (p.B > 60))) (wln ⟨g, _, _, rfl, pt, us, h, rfl⟩)
     obtain rfl := anF n a0
     refine vb n (ps (ps (ps (ps (ps (ps (wn (va (B false) ?_))))))))
     obtain rfl := si b
     exact va (B false) (wln ⟨g, _, _, rfl, pt, us, h, rfl⟩)
    obtain rfl := anF k X
    refine vb k (ps (ps (ps (ps (ps (ps (wn (va (B false) (wn (bn b fun i0 c1 b => ?_))))))))))
    have d0 : false = false := rfl
    obtain rfl := anF d0 c1
    refine vb d0 (ps (ps (ps (ps (ps (ps (wn (va (B false) ?_))))))))
    obtain rfl := si b
    exact va (B false) (wln ⟨g, _, _, rfl, pt, us, h, rfl⟩)
   rintro D M ⟨P, w1, _, rfl, c2, rfl, N, rfl⟩
   refine nrm (cn H (fun d1 H => ?_) (fun d1 H => ?_))
   ·refine sr (va (B true) (wln (W.ret (bkr (thr ?_)))))
    obtain rfl := si H
    exact ⟨_, rfl, ⟨rfl, ⟨P, _, _, rfl, pt, us, N, rfl⟩⟩⟩
   refine W.skip (bkn (nrm (W.region (va (I a.2) (va (I (w64 (a.2 + 1))) (va (I (w64 (a.2 + 1))) (WL.nil ?_)))))))
   obtain rfl := si H
   exact ⟨_, rfl, ⟨P, _, _, rfl, pt, us, N, rfl⟩⟩
  refine W.exit (thx ?_)
  obtain rfl := si H
  exact ⟨_, rfl, rfl, ⟨g, _, _, rfl, pt, us, h, rfl⟩⟩
 ·exact ⟨c0, _, _, rfl, pt, us, O0, rfl⟩
 rcases y with y | y
 ·intro u0; revert u0
  rintro _ D M ⟨rfl, q0, x1, _, rfl, d2, rfl, l0, rfl⟩
  refine bkr (thr ?_)
  obtain rfl := si H4
  exact r1 ⟨_, q0, rfl, rfl, pt, l0, rfl⟩
 rintro _ D M ⟨rfl, s0, y1, _, rfl, e2, rfl, o0, rfl⟩
 refine bke (nrm (sr (va (v1) (vx (ln 3 underlying55 f.m) (va (B (decide ((s.length : Int) > 50))) (va (B (decide ((s.length : Int) > 50))) (wln (W.ret ?_))))))))
 obtain rfl := si H4
 exact r1 ⟨_, s0, rfl, rfl, pt, o0, rfl⟩
def f_bound_Used (p0 : G_api_View) : Option (Int) :=
 (iter (σ := Int × Int) (τ := Int) (((p0.Lines.length : Int) - 0).toNat + 1) (fun a =>
 if (decide (a.2 < (p0.Lines.length : Int))) = true then
 (idx p0.Lines a.2).bind fun c =>
 (iter (σ := Int × Int) (τ := Int) (((c.Cells.length : Int) - 0).toNat + 1) (fun b =>
 if (decide (b.2 < (c.Cells.length : Int))) = true then
 (idx c.Cells b.2).bind fun f =>
 some (.inl ((w64 (b.1 + (f.Text.length : Int))), (w64 (b.2 + 1))))
 else
 some (.inr (b.1))) (a.1, 0)).bind fun e =>
 some (.inl (e, (w64 (a.2 + 1))))
 else
 some (.inr (a.1))) (0, 0)).bind fun d =>
 some d
theorem c_bound_Used (O0 : Own c0 G F) (b : G_api_View) {r : Int} (z : Sl R_api_Line c0 v1 b.Lines) (H : f_bound_Used b = some r) :
    Calls prog 60 #[.agg #[I b.Wide, I b.High, v1, I b.At.Row, I b.At.Col, B b.At.Pending, B b.Auto]] c0.w (Post c0 fun c v => Own c G (F) ∧ v = I r) := by
 unfold f_bound_Used at H
 refine en func60 rfl rfl (sr ?_)
 obtain ⟨u, x, y, rfl⟩ := (z).form
 refine me (bx 96 [I b.Wide, I b.High, .slice u x y, I b.At.Row, I b.At.Col, B b.At.Pending, B b.Auto] O0) ?_
 rintro v10 c9 l9 ⟨b6, rfl, O7, m8⟩
 refine va (I 0) (wln (sr (va (I 0) (wln (W.seq (sr (va (.pointer (some ⟨b6, 0 + 2, none⟩)) (vx (l1 underlying22 (m8 2 _ rfl)) (vx (ln 3 underlying22 z.m) (va (I 0) (wln (W.block (bn H fun s T E => lp T (fun d => Jn c9 fun c l => Own c G (F) ∧ l = [(3, I d.1), (9, .slice u x y), (10, I (b.Lines.length : Int)), (11, I d.2)]) (fun A ex e w => ex = .exit 0 ∧ (Jn c9 fun c l => Own c G (F) ∧ l = [(3, I A)]) e w) ?_ ?_ ?_)))))))))))))
 ·clear E T
  intro d h1 p t H
  revert p t
  rintro e_ w_ ⟨s0, w1, _, rfl, b1, rfl, N, rfl⟩
  refine sr (va (B (decide (d.2 < (b.Lines.length : Int)))) (wln (W.seq (cn H (fun x0 H => ?_) (fun x0 H => ?_)))))
  ·refine W.skip (nrm (W.seq (W.block (sr (bn H fun f U H => ?_)))))
   obtain ⟨n1, y0, f1⟩ := Sl.at (z.mono (l9.trans b1)) (idx_get U)
   obtain ⟨v24, rfl, g⟩ := y0
   refine vx (ix underlying22 z.m U) (vx (lN 71 f1) (me (al 71 [Y, B false] N) ?_))
   rintro v29 t1 a0 ⟨n, rfl, f0⟩
   obtain ⟨i, j, k, rfl⟩ := ((g.mono a0)).form
   refine md (sA 71 [.slice i j k, B f.Wrap] 0 f0 ⟨g.m.one, rfl, trivial⟩) ?_
   rintro o c1 P
   refine wln (sr (va (Q n) (vx (le1 0 underlying69 (P.on 0 rfl)) (vx (ln 3 underlying69 g.m) (va (I 0) (wln (W.block (bn H fun s1 X M => lp X (fun a => Jn o fun c l => Own c G ((Eb n 71 [.slice i j k, B f.Wrap]) :: F) ∧ l = [(3, I a.1), (9, .slice u x y), (10, I (b.Lines.length : Int)), (11, I d.2), (16, .slice i j k), (17, I (f.Cells.length : Int)), (18, I a.2)]) (fun D ex e w => ex = .exit 2 ∧ (Jn o fun c l => Own c G ((Eb n 71 [.slice i j k, B f.Wrap]) :: F) ∧ l = [(3, I D), (9, .slice u x y), (10, I (b.Lines.length : Int)), (11, I d.2)]) e w) ?_ ?_ ?_))))))))
   ·clear M X
    intro a h1 p t H
    revert p t
    rintro e_ w_ ⟨t0, x1, _, rfl, d1, rfl, R, rfl⟩
    refine sr (va (B (decide (a.2 < (f.Cells.length : Int)))) (wln (W.seq (cn H (fun z0 H => ?_) (fun z0 H => ?_)))))
    ·refine W.skip (nrm (W.seq (W.block (sr (bn H fun h Z H => ?_)))))
     obtain ⟨p1, a1, g1⟩ := Sl.at (g.mono (a0.trans (c1.trans d1))) (idx_get Z)
     obtain ⟨v48, rfl, q⟩ := a1
     refine vx (ix underlying69 g.m Z) (vx (lN 101 g1) (me (al 101 [I 0, Y] R) ?_))
     rintro v53 u1 e1 ⟨q0, rfl, g0⟩
     obtain ⟨l0, m0, o0, rfl⟩ := ((q.mono e1)).form
     refine md (sA 101 [I h.Kind, .slice l0 m0 o0] 0 g0 ⟨rfl, q.m.one, trivial⟩) ?_
     rintro u0 a2 S
     refine wln (W.region (va (I a.1) (va (.pointer (some ⟨q0, 1, none⟩)) (vx (le1 1 underlying27 (S.on 0 rfl)) (vx (ln 3 underlying27 q.m) (va (I (w64 (a.1 + (h.Text.length : Int)))) (va (I (w64 (a.1 + (h.Text.length : Int)))) (WL.nil (bkn (nrm (W.region (va (I (w64 (a.2 + 1))) (va (I (w64 (a.2 + 1))) (WL.nil ?_))))))))))))))
     obtain rfl := si H
     refine ⟨_, rfl, ?_⟩
     have h0 := S.sD 2 [1]
     exact ⟨u0, _, _, rfl, pt, us, h0, rfl⟩
    refine W.exit (thx ?_)
    obtain rfl := si H
    exact ⟨_, rfl, rfl, ⟨t0, _, _, rfl, pt, us, R, rfl⟩⟩
   ·exact ⟨o, _, _, rfl, pt, us, P, rfl⟩
   rintro _ e_ w_ ⟨rfl, v0, y1, _, rfl, b2, rfl, i0, rfl⟩
   refine bke (bkn (nrm (W.region (va (I (w64 (d.2 + 1))) (va (I (w64 (d.2 + 1))) (WL.nil ?_))))))
   obtain rfl := si M
   refine ⟨_, rfl, ?_⟩
   have j0 := i0.sD 1 []
   exact ⟨v0, _, _, rfl, pt, us, j0, rfl⟩
  refine W.exit (thx ?_)
  obtain rfl := si H
  exact ⟨_, rfl, rfl, ⟨s0, _, _, rfl, pt, us, N, rfl⟩⟩
 ·exact ⟨c9, _, _, rfl, pt, us, O7, rfl⟩
 rintro _ e_ w_ ⟨rfl, w0, z1, _, rfl, c2, rfl, k0, rfl⟩
 refine bke (nrm (sr (va (I s) (va (I s) (wln (W.ret ?_))))))
 obtain rfl := si E
 exact r1 ⟨_, w0, rfl, rfl, pt, k0, rfl⟩
def f_bound_side (p0 : Int) : Option (Int) :=
 some (imax 1 (imin p0 1024))
theorem c_bound_side (b : Own c0 G F) (a : Int) {r : Int} (H : f_bound_side a = some r) :
    Calls prog 124 #[I a] c0.w (Post c0 fun c v => Own c G (F) ∧ v = I r) := by
 unfold f_bound_side at H
 refine en func124 rfl rfl (sr (va (I 0) (wln (sr (va (I a) (va (I (imin a 1024)) (va (I (imax 1 (imin a 1024))) (va (I (imax 1 (imin a 1024))) (wln (W.ret ?_))))))))))
 obtain rfl := si H
 exact r1 ⟨_, c0, rfl, rfl, pt, b, rfl⟩
def f_bound_Most (p0 : Int) (p1 : Int) : Option (Int) :=
 (f_bound_side p0).bind fun a =>
 (f_bound_side p1).bind fun b =>
 some (w64 ((w64 (a * b)) * 16))
theorem c_bound_Most (h : Own c0 G F) (d : Int) (e : Int) {r : Int} (H : f_bound_Most d e = some r) :
    Calls prog 61 #[I d, I e] c0.w (Post c0 fun c v => Own c G (F) ∧ v = I r) := by
 unfold f_bound_Most at H
 refine en func61 rfl rfl (sr (va (I 0) (wln (sr (va (I d) (bn H fun a j H => cl (c_bound_side h d j) ?_))))))
 rintro v7 m n ⟨i, rfl⟩
 refine va (I e) (bn H fun b k H => cl (c_bound_side i e k) ?_)
 rintro v14 g l ⟨f, rfl⟩
 refine va (I (w64 (a * b))) (va (I (w64 ((w64 (a * b)) * 16))) (va (I (w64 ((w64 (a * b)) * 16))) (wln (W.ret ?_))))
 obtain rfl := si H
 exact r1 ⟨_, g, rfl, rfl, pt, f, rfl⟩
def f_bound_count (p0 : Int) : Option (Int) :=
 some (imax 0 (imin p0 1073741824))
theorem c_bound_count (b : Own c0 G F) (a : Int) {r : Int} (H : f_bound_count a = some r) :
    Calls prog 191 #[I a] c0.w (Post c0 fun c v => Own c G (F) ∧ v = I r) := by
 unfold f_bound_count at H
 refine en func191 rfl rfl (sr (va (I 0) (wln (sr (va (I a) (va (I (imin a 1073741824)) (va (I (imax 0 (imin a 1073741824))) (va (I (imax 0 (imin a 1073741824))) (wln (W.ret ?_))))))))))
 obtain rfl := si H
 exact r1 ⟨_, c0, rfl, rfl, pt, b, rfl⟩
def f_bound_Rows (p0 : Int) (p1 : Int) : Option (Int) :=
 (f_bound_count p0).bind fun b =>
 (f_bound_side p1).bind fun a =>
 if (b == 0) = true then
 some 1
 else
 if (a == 1) = true then
 some b
 else
 (dvg (w64 (a - 1))).bind fun c =>
 some (w64 ((w64 ((w64 ((w64 (2 * b)) + a)) - 2)).tdiv (w64 (a - 1))))
theorem c_bound_Rows (m : Own c0 G F) (h : Int) (i : Int) {r : Int} (H : f_bound_Rows h i = some r) :
    Calls prog 123 #[I h, I i] c0.w (Post c0 fun c v => Own c G (F) ∧ v = I r) := by
 unfold f_bound_Rows at H
 refine en func123 rfl rfl (sr (va (I 0) (wln (sr (va (I h) (bn H fun e o H => cl (c_bound_count m h o) ?_))))))
 rintro v7 t u ⟨n, rfl⟩
 refine va (I i) (bn H fun d p H => cl (c_bound_side n i p) ?_)
 rintro v14 g s ⟨f, rfl⟩
 refine va (I e) (va (I d) (wln (W.seq (W.block (sr (va (I e) (va (B (e == 0)) (va (B (e == 0)) (wln (cn H (fun j H => ?_) (fun j H => ?_)))))))))))
 ·refine sr (va (I 1) (wln (W.ret (bkr (thr ?_)))))
  obtain rfl := si H
  exact r1 ⟨_, g, rfl, rfl, pt, f, rfl⟩
 refine sr (va (I d) (va (B (d == 1)) (va (B (d == 1)) (wln (cn H (fun k H => ?_) (fun k H => ?_))))))
 ·refine sr (va (I e) (va (I e) (wln (W.ret (bkr (thr ?_))))))
  obtain rfl := si H
  exact r1 ⟨_, g, rfl, rfl, pt, f, rfl⟩
 refine W.skip (bkn (nrm (sr (va (I e) (va (I (w64 (2 * e))) (va (I d) (va (I (w64 ((w64 (2 * e)) + d))) (va (I (w64 ((w64 ((w64 (2 * e)) + d)) - 2))) (va (I d) (va (I (w64 (d - 1))) (bn H fun q l H => vr (I (w64 ((w64 ((w64 ((w64 (2 * e)) + d)) - 2)).tdiv (w64 (d - 1))))) (run_quo (a := (w64 ((w64 ((w64 (2 * e)) + d)) - 2))) (b := (w64 (d - 1))) l (by kernel_rfl) _) (va (I (w64 ((w64 ((w64 ((w64 (2 * e)) + d)) - 2)).tdiv (w64 (d - 1))))) (wln (W.ret ?_))))))))))))))
 obtain rfl := si H
 exact r1 ⟨_, g, rfl, rfl, pt, f, rfl⟩
def f_linotypelaw48_works  : Option (Bool) :=
 (f_bound_Most 80 24).bind fun d =>
 (andE (d == 30720) ((f_bound_Rows 3 3).bind fun e =>
 some (e == 3))).bind fun b =>
 (andE b ((f_bound_Rows 0 9).bind fun a =>
 some (a == 1))).bind fun c =>
 some c
theorem c_linotypelaw48_works (z : Own c0 G F) {r : Bool} (H : f_linotypelaw48_works  = some r) :
    Calls prog 58 #[] c0.w (Post c0 fun c v => Own c G (F) ∧ v = B r) := by
 unfold f_linotypelaw48_works at H
 refine en func58 rfl rfl (sr (va (B false) (wln (W.seq (bn H fun j D H => bn H fun E x H => bn H fun t k H => W.join (Jn c0 fun c l => Own c G (F) ∧ l = [(0, B t)]) ?_ ?_)))))
 ·clear H
  refine W.region (cl (c_bound_Most z 80 24 D) ?_)
  rintro v9 A T ⟨o, rfl⟩
  refine va (B (j == 30720)) ?_
  rcases bo (j == 30720) with a | a
  ·have e := anT a x
   refine vb a (wn (bn e fun g u e => cl (c_bound_Rows o 3 3 u) ?_))
   rintro v18 p N ⟨h, rfl⟩
   refine wn (va (B (g == 3)) ?_)
   obtain rfl := si e
   refine va (B (g == 3)) ?_
   rcases bo (g == 3) with b | b
   ·have f := anT b k
    refine vb b (wn (bn f fun d y f => cl (c_bound_Rows h 0 9 y) ?_))
    rintro v27 q P ⟨m, rfl⟩
    refine wn (va (B (d == 1)) ?_)
    obtain rfl := si f
    exact va (B (d == 1)) (va (B (d == 1)) (wln ⟨q, _, _, rfl, pt, us, m, rfl⟩))
   obtain rfl := anF b k
   exact vb b (ps (ps (va (B false) (va (B false) (wln ⟨p, _, _, rfl, pt, us, h, rfl⟩)))))
  obtain rfl := anF a x
  refine vb a (ps (ps (va (B false) ?_)))
  have i : false = false := rfl
  obtain rfl := anF i k
  exact vb i (ps (ps (va (B false) (va (B false) (wln ⟨A, _, _, rfl, pt, us, o, rfl⟩)))))
 rintro S U ⟨s, M, _, rfl, R, rfl, n, rfl⟩
 refine nrm (W.ret ?_)
 obtain rfl := si H
 exact r1 ⟨_, s, rfl, rfl, pt, n, rfl⟩
def f_linotypelaw40_ScreenSound (sg : Sto) (p0 : G_linotypelaw40_Side) (p1 : List G_api_Op) : Option (Sto × Bool) :=
 (f_linotypelaw40_works sg).bind fun i =>
 (orE (!i.2) (some (decide ((p1.length : Int) > 60)))).bind fun z =>
 if z = true then
 (f_linotypelaw40_works i.1).bind fun h =>
 some (h.1, h.2)
 else
 (f_screen_New i.1 (w64 (1 + (w64 ((IntKind.u64.wrap p0.W).tmod 12)))) (w64 (1 + (w64 ((IntKind.u64.wrap p0.H).tmod 8))))).bind fun g =>
 (iter (σ := Int × Sto) (τ := (Sto × Bool) ⊕ Sto) (((p1.length : Int) - 0).toNat + 1) (fun b =>
 if (decide (b.1 < (p1.length : Int))) = true then
 (idx p1 b.1).bind fun t =>
 (orE (decide ((t.Bytes.length : Int) > 2000)) ((idx p1 b.1).bind fun u =>
 (andE (u.Kind == 13) ((idx p1 b.1).bind fun v =>
 some (decide (v.A > 60)))).bind fun q =>
 (andE q ((idx p1 b.1).bind fun w =>
 some (decide (w.B > 60)))).bind fun r =>
 some r)).bind fun p =>
 if p = true then
 some (.inr (.inl (b.2, true)))
 else
 (idx p1 b.1).bind fun x =>
 (f_screen_Screen_Do b.2 g.2 x).bind fun f =>
 (f_screen_Screen_View f.1 g.2).bind fun a =>
 (orE ((a.Lines.length : Int) != a.High) ((f_cursor_Right a.At a.Wide a.High).bind fun y =>
 some (!y))).bind fun s =>
 (orE s (some (decide (a.Wide < 1)))).bind fun j =>
 (orE j (some (decide (a.High < 1)))).bind fun k =>
 if k = true then
 some (.inr (.inl (f.1, false)))
 else
 (iter (σ := Int) (τ := (Sto × Bool) ⊕ Unit) (((a.Lines.length : Int) - 0).toNat + 1) (fun d =>
 if (decide (d < (a.Lines.length : Int))) = true then
 (idx a.Lines d).bind fun m =>
 (orE ((m.Cells.length : Int) != a.Wide) ((idx a.Lines d).bind fun n =>
 (f_linotyperef23_Sound n.Cells).bind fun o =>
 some (!o))).bind fun l =>
 if l = true then
 some (.inr (.inl (f.1, false)))
 else
 some (.inl ((w64 (d + 1))))
 else
 some (.inr (.inr ()))) (0)).bind fun c =>
 match c with
 | .inl c =>
 some (.inr (.inl c))
 | .inr c =>
 some (.inl ((w64 (b.1 + 1)), f.1))
 else
 some (.inr (.inr (b.2)))) (0, g.1)).bind fun e =>
 match e with
 | .inl e =>
 some e
 | .inr e =>
 some (e, true)
theorem c_linotypelaw40_ScreenSound (O0 : Own c0 G F) (R0 : Rel c0 sg G) (hG : Gl [0, 4, 7] c0) (q : G_linotypelaw40_Side) (p1 : List G_api_Op) {r : Sto × Bool} (x : Sl R_api_Op c0 v1 p1) (H : f_linotypelaw40_ScreenSound sg q p1 = some r) :
    Calls prog 8 #[.agg #[I q.W, I q.H], v1] c0.w (Post c0 fun c v => ∃ G_ : Gm, Own c G_ (F) ∧ Rel c r.1 G_ ∧ v = B r.2) := by
 unfold f_linotypelaw40_ScreenSound at H
 refine en func8 rfl rfl (sr (me (bx 92 [I q.W, I q.H] O0) ?_))
 rintro v7 c6 l6 ⟨b3, rfl, O4, m5⟩
 refine va (B false) (wln (W.seq (W.seq (bn H fun q2 h8 H => bn H fun s5 h9 H => W.join (Jn c6 fun c l => ∃ G_, Own c G_ (F) ∧ l = [(1, v1), (2, Q b3), (15, B s5)] ∧ Rel c q2.1 G_) ?_ ?_))))
 ·clear H
  refine W.region (cl (c_linotypelaw40_works O4 R0.m (hG.m.le (by decide)) h8) ?_)
  rintro v15 f3 t8 ⟨y2, z2, d3, rfl⟩
  refine va (B (!q2.2)) ?_
  rcases bo (!q2.2) with g0 | g0
  ·obtain rfl := orT g0 h9
   exact vb g0 (ps (ps (ps (va (B true) (wln ⟨f3, _, _, rfl, pt, us, y2, z2, rfl, d3⟩)))))
  have k5 := orF g0 h9
  refine vb g0 (wn (va (v1) (wn (vx (ln 3 underlying55 x.m) (wn (va (B (decide ((p1.length : Int) > 60))) ?_))))))
  obtain rfl := si k5
  exact va (B (decide ((p1.length : Int) > 60))) (wln ⟨f3, _, _, rfl, pt, us, y2, z2, rfl, d3⟩)
 rintro Z w_ ⟨m8, n8, _, rfl, k0, rfl, k8, a3, rfl, e3⟩
 refine nrm (cn H (fun t5 H => ?_) (fun t5 H => ?_))
 ·refine sr (bn H fun g5 u5 H => cl (c_linotypelaw40_works a3 e3 (hG.m.le (by decide)) u5) ?_)
  rintro v31 q5 u8 ⟨i5, l5, o5, rfl⟩
  refine va (B g5.2) (wln (W.ret (thr ?_)))
  obtain rfl := si H
  exact r1 ⟨_, q5, rfl, rfl, pt, i5, l5, o5, rfl⟩
 refine W.skip (nrm (sr (va (Q b3) (vx (l1 underlying3 ((mm m5) 0 _ rfl)) (va (.int .u64 (IntKind.u64.wrap q.W)) (va (.int .u64 ((IntKind.u64.wrap q.W).tmod 12)) (va (I (w64 ((IntKind.u64.wrap q.W).tmod 12))) (va (I (w64 (1 + (w64 ((IntKind.u64.wrap q.W).tmod 12))))) (va (.pointer (some ⟨b3, 0 + 1, none⟩)) (vx (l1 underlying3 ((mm m5) 1 _ rfl)) (va (.int .u64 (IntKind.u64.wrap q.H)) (va (.int .u64 ((IntKind.u64.wrap q.H).tmod 8)) (va (I (w64 ((IntKind.u64.wrap q.H).tmod 8))) (va (I (w64 (1 + (w64 ((IntKind.u64.wrap q.H).tmod 8))))) (bn H fun p2 v5 H => cl (c_screen_New a3 e3 (w64 (1 + (w64 ((IntKind.u64.wrap q.W).tmod 12)))) (w64 (1 + (w64 ((IntKind.u64.wrap q.H).tmod 8)))) v5) ?_)))))))))))))))
 rintro v33 f1 l0 ⟨_, j5, n5, p5, l8, rfl, g3⟩
 refine va (v33) (wln (W.seq (sr (va (I 0) (wln (W.block (bn H fun a1 h3 j1 => lp h3 (fun b => Jn f1 fun c l => ∃ G_, Own c G_ (F) ∧ l = [(1, v1), (5, v33), (6, I b.1)] ∧ Rel c b.2 G_) (fun t => match t with | .inl x_ => (fun o0 ex e w => ex = .ret ∧ (Jn f1 fun c l => ∃ G_, Own c G_ (F) ∧ l = [(4, B o0.2)] ∧ Rel c o0.1 G_) e w) x_ | .inr x_ => (fun w2 ex e w => ex = .exit 0 ∧ (Jn f1 fun c l => ∃ G_, Own c G_ (F) ∧ l = [] ∧ Rel c w2 G_) e w) x_) ?_ ?_ ?_)))))))
 ·clear j1 h3
  intro b s6 z1 o2 H
  revert z1 o2
  rintro Z w_ ⟨S, o8, _, rfl, m0, rfl, i1, f0, rfl, s1⟩
  refine W.seq (sr (va (I b.1) (va (v1) (vx (ln 3 underlying55 x.m) (va (B (decide (b.1 < (p1.length : Int)))) (wln (cn H (fun w5 H => ?_) (fun w5 H => ?_))))))))
  ·refine W.skip (nrm (W.seq (W.block (W.seq (W.seq (bn H fun s2 i3 H => bn H fun p4 j3 H => W.join (Jn S fun c l => Own c i1 (F) ∧ l = [(1, v1), (5, v33), (6, I b.1), (66, B p4)]) ?_ ?_))))))
   ·clear H
    refine W.region (va (v1) (va (I b.1) ?_))
    obtain ⟨y7, x5, m6⟩ := Sl.at (x.mono (l6.trans (k0.trans (l0.trans m0)))) (idx_get i3)
    obtain ⟨v55, rfl, y5⟩ := x5
    refine vx (ix underlying55 x.m i3) (va (.pointer (some ⟨sb v1, so v1 + b.1.toNat * 4 + 3, none⟩)) (vx (l1 underlying57 (m6 3 _ rfl)) (vx (ln 3 underlying57 y5) (va (B (decide ((s2.Bytes.length : Int) > 2000))) ?_))))
    rcases bo (decide ((s2.Bytes.length : Int) > 2000)) with h0 | h0
    ·obtain rfl := orT h0 j3
     exact vb h0 (ps (ps (ps (ps (ps (ps (ps (ps (ps (ps (ps (ps (ps (ps (ps (ps (ps (ps (ps (ps (ps (ps (va (B true) (wln ⟨S, _, _, rfl, pt, us, f0, rfl⟩))))))))))))))))))))))))
    have n := orF h0 j3
    refine vb h0 (wn (va (v1) (wn (va (I b.1) (wn (bn n fun t2 k3 n => ?_))))))
    obtain ⟨z7, z5, n6⟩ := Sl.at (x.mono (l6.trans (k0.trans (l0.trans m0)))) (idx_get k3)
    obtain ⟨v8, rfl, q8⟩ := z5
    refine vx (ix underlying55 x.m k3) (wn (va (.pointer (some ⟨sb v1, so v1 + b.1.toNat * 4, none⟩)) (wn (vx (l1 underlying3 (n6 0 _ rfl)) (wn (va (B (t2.Kind == 13)) (wn (bn n fun d7 l3 n => ?_))))))))
    rcases bo (t2.Kind == 13) with i0 | i0
    ·have k1 := anT i0 l3
     refine vb i0 (wn (va (v1) (wn (va (I b.1) (wn (bn k1 fun c1 m3 k1 => ?_))))))
     obtain ⟨a8, a6, o6⟩ := Sl.at (x.mono (l6.trans (k0.trans (l0.trans m0)))) (idx_get m3)
     obtain ⟨w8, rfl, r8⟩ := a6
     refine vx (ix underlying55 x.m m3) (wn (va (.pointer (some ⟨sb v1, so v1 + b.1.toNat * 4 + 1, none⟩)) (wn (vx (l1 underlying3 (o6 1 _ rfl)) (wn (va (B (decide (c1.A > 60))) (wn ?_)))))))
     obtain rfl := si k1
     refine va (B (decide (c1.A > 60))) (wn (bn n fun q4 n3 n => ?_))
     rcases bo (decide (c1.A > 60)) with j0 | j0
     ·have m1 := anT j0 n3
      refine vb j0 (wn (va (v1) (wn (va (I b.1) (wn (bn m1 fun d1 o3 m1 => ?_))))))
      obtain ⟨b8, b6, p6⟩ := Sl.at (x.mono (l6.trans (k0.trans (l0.trans m0)))) (idx_get o3)
      obtain ⟨x8, rfl, s8⟩ := b6
      refine vx (ix underlying55 x.m o3) (wn (va (.pointer (some ⟨sb v1, so v1 + b.1.toNat * 4 + 2, none⟩)) (wn (vx (l1 underlying3 (p6 2 _ rfl)) (wn (va (B (decide (d1.B > 60))) (wn ?_)))))))
      obtain rfl := si m1
      refine va (B (decide (d1.B > 60))) ?_
      obtain rfl := si n
      exact va (B (decide (d1.B > 60))) (wln ⟨S, _, _, rfl, pt, us, f0, rfl⟩)
     obtain rfl := anF j0 n3
     refine vb j0 (ps (ps (ps (ps (ps (ps (wn (va (B false) ?_))))))))
     obtain rfl := si n
     exact va (B false) (wln ⟨S, _, _, rfl, pt, us, f0, rfl⟩)
    obtain rfl := anF i0 l3
    refine vb i0 (ps (ps (ps (ps (ps (ps (wn (va (B false) (wn (bn n fun q4 d6 n => ?_))))))))))
    have p3 : false = false := rfl
    obtain rfl := anF p3 d6
    refine vb p3 (ps (ps (ps (ps (ps (ps (wn (va (B false) ?_))))))))
    obtain rfl := si n
    exact va (B false) (wln ⟨S, _, _, rfl, pt, us, f0, rfl⟩)
   rintro Z w_ ⟨r5, p8, _, rfl, j6, rfl, c3, rfl⟩
   refine nrm (cn H (fun f6 H => ?_) (fun f6 H => ?_))
   ·refine sr (va (B true) (wln (W.ret (thr (bkr (thr ?_))))))
    obtain rfl := si H
    exact ⟨_, rfl, ⟨rfl, ⟨r5, _, _, rfl, pt, us, i1, c3, rfl, s1.m⟩⟩⟩
   refine W.skip (nrm (sr (va (v33) (va (v1) (va (I b.1) (bn H fun h5 q3 H => ?_))))))
   obtain ⟨c8, g6, q6⟩ := Sl.at (x.mono (l6.trans (k0.trans (l0.trans (m0.trans j6))))) (idx_get q3)
   obtain ⟨y8, rfl, h6⟩ := g6
   refine vx (ix underlying55 x.m q3) (vx (lN 59 q6) (bn H fun j8 i6 H => cl (c_screen_Screen_Do c3 s1.m (hG.m.le (by decide)) p2.2 h5 g3.m h6 i6) ?_))
   rintro z8 z6 o7 ⟨_, o, x3, U, rfl, m7⟩
   refine wln (sr (va (v33) (bn H fun a r4 H => cl (c_screen_Screen_View x3 U p2.2 g3.m r4) ?_)))
   rintro e8 a7 p7 ⟨d8, s, y3, rfl, k⟩
   refine me (al 96 [I 0, I 0, Y, I 0, I 0, B false, B false] y3) ?_
   rintro f8 b7 z0 ⟨d, rfl, z3⟩
   obtain ⟨f, g, h, rfl⟩ := ((k.mono z0)).form
   refine md (sA 96 [I a.Wide, I a.High, .slice f g h, I a.At.Row, I a.At.Col, B a.At.Pending, B a.Auto] 0 z3 ⟨rfl, rfl, k.m.one, rfl, rfl, rfl, rfl, trivial⟩) ?_
   rintro t1 i2 p
   refine wln (W.seq (W.seq (bn H fun e7 b2 H => bn H fun t6 w0 H => bn H fun u2 a0 H => W.join (Jn t1 fun c l => Own c o ((Eb d 96 [I a.Wide, I a.High, .slice f g h, I a.At.Row, I a.At.Col, B a.At.Pending, B a.Auto]) :: es true R_api_Line (.slice f g h) 71 s a.Lines :: F) ∧ l = [(1, v1), (5, v33), (6, I b.1), (7, Q d), (100, B u2)]) ?_ ?_)))
   ·clear H
    refine W.region (va (.pointer (some ⟨d, 2, none⟩)) (vx (le1 2 underlying22 (p.on 0 rfl)) (vx (lnO 3 underlying22 k.m) (va (.pointer (some ⟨d, 1, none⟩)) (vx (le1 1 underlying3 (p.on 0 rfl)) (va (B ((a.Lines.length : Int) != a.High)) ?_))))))
    rcases bo ((a.Lines.length : Int) != a.High) with E | E
    ·obtain rfl := orT E b2
     refine vb E (ps (ps (ps (ps (ps (ps (ps (ps (va (B true) ?_)))))))))
     have c2 : true = true := rfl
     obtain rfl := orT c2 w0
     refine vb c2 (ps (ps (ps (va (B true) ?_))))
     have d2 : true = true := rfl
     obtain rfl := orT d2 a0
     exact vb d2 (ps (ps (ps (va (B true) (wln ⟨t1, _, _, rfl, pt, us, p, rfl⟩)))))
    have q0 := orF E b2
    refine vb E (wn (va (.pointer (some ⟨d, 3, none⟩)) (wn (vx (leN 24 3 [I a.At.Row, I a.At.Col, B a.At.Pending] (p.on 0 rfl)) (wn (va (Q d) (wn (vx (le1 0 underlying3 (p.on 0 rfl)) (wn (va (.pointer (some ⟨d, 1, none⟩)) (wn (vx (le1 1 underlying3 (p.on 0 rfl)) (wn (bn q0 fun e1 s4 q0 => cl (c_cursor_Right p a.At a.Wide a.High s4) ?_))))))))))))))
    rintro g8 v0 q7 ⟨z, rfl⟩
    refine wn (va (B (!e1)) ?_)
    obtain rfl := si q0
    refine va (B (!e1)) ?_
    rcases bo (!e1) with M | M
    ·obtain rfl := orT M w0
     refine vb M (ps (ps (ps (va (B true) ?_))))
     have e2 : true = true := rfl
     obtain rfl := orT e2 a0
     exact vb e2 (ps (ps (ps (va (B true) (wln ⟨v0, _, _, rfl, pt, us, z, rfl⟩)))))
    have v3 := orF M w0
    refine vb M (wn (va (Q d) (wn (vx (le1 0 underlying3 (z.on 0 rfl)) (wn (va (B (decide (a.Wide < 1))) ?_))))))
    obtain rfl := si v3
    refine va (B (decide (a.Wide < 1))) ?_
    rcases bo (decide (a.Wide < 1)) with N | N
    ·obtain rfl := orT N a0
     exact vb N (ps (ps (ps (va (B true) (wln ⟨v0, _, _, rfl, pt, us, z, rfl⟩)))))
    have w3 := orF N a0
    refine vb N (wn (va (.pointer (some ⟨d, 1, none⟩)) (wn (vx (le1 1 underlying3 (z.on 0 rfl)) (wn (va (B (decide (a.High < 1))) ?_))))))
    obtain rfl := si w3
    exact va (B (decide (a.High < 1))) (wln ⟨v0, _, _, rfl, pt, us, z, rfl⟩)
   rintro Z w_ ⟨D, f7, _, rfl, j2, rfl, n1, rfl⟩
   refine nrm (cn H (fun t4 H => ?_) (fun t4 H => ?_))
   ·refine sr (va (B false) (wln (W.ret (thr (bkr (thr ?_))))))
    obtain rfl := si H
    refine ⟨_, rfl, ⟨rfl, ?_⟩⟩
    have a4 := n1.sD 2 []
    exact ⟨D, _, _, rfl, pt, us, o, a4, rfl, U.m⟩
   refine W.skip (nrm (sr (va (I 0) (wln (W.block (bn H fun d0 f2 s0 => lp f2 (fun i => Jn D fun c l => Own c o ((Eb d 96 [I a.Wide, I a.High, .slice f g h, I a.At.Row, I a.At.Col, B a.At.Pending, B a.Auto]) :: es true R_api_Line (.slice f g h) 71 s a.Lines :: F) ∧ l = [(1, v1), (5, v33), (6, I b.1), (7, Q d), (8, I i)]) (fun t => match t with | .inl x_ => (fun o0 ex e w => ex = .ret ∧ (Jn D fun c l => ∃ G_, Own c G_ (F) ∧ l = [(4, B o0.2)] ∧ Rel c o0.1 G_) e w) x_ | .inr x_ => (fun r6 ex e w => ex = .exit 2 ∧ (Jn D fun c l => Own c o ((Eb d 96 [I a.Wide, I a.High, .slice f g h, I a.At.Row, I a.At.Col, B a.At.Pending, B a.Auto]) :: es true R_api_Line (.slice f g h) 71 s a.Lines :: F) ∧ l = [(1, v1), (5, v33), (6, I b.1)]) e w) x_) ?_ ?_ ?_))))))
   ·clear s0 f2
    intro i s6 z1 o2 H
    revert z1 o2
    rintro Z w_ ⟨u1, g7, _, rfl, k2, rfl, t0, rfl⟩
    refine W.seq (sr (va (I i) (va (.pointer (some ⟨d, 2, none⟩)) (vx (le1 2 underlying22 (t0.on 0 rfl)) (vx (lnO 3 underlying22 k.m) (va (B (decide (i < (a.Lines.length : Int)))) (wln (cn H (fun u4 H => ?_) (fun u4 H => ?_)))))))))
    ·refine W.skip (nrm (W.seq (W.block (W.seq (bn H fun g1 x0 H => bn H fun v2 g2 H => W.join (Jn u1 fun c l => Own c o ((Eb d 96 [I a.Wide, I a.High, .slice f g h, I a.At.Row, I a.At.Col, B a.At.Pending, B a.Auto]) :: es true R_api_Line (.slice f g h) 71 s a.Lines :: F) ∧ l = [(1, v1), (5, v33), (6, I b.1), (7, Q d), (8, I i), (127, B v2)]) ?_ ?_)))))
     ·clear H
      refine rD [] (Kp G0 [(Eb d 96 [I a.Wide, I a.High, .slice f g h, I a.At.Row, I a.At.Col, B a.At.Pending, B a.Auto]), es true R_api_Line (.slice f g h) 71 s a.Lines]) t0 ?_
      intro w1 l2 T
      have R : Kp G0 [(Eb d 96 [I a.Wide, I a.High, .slice f g h, I a.At.Row, I a.At.Col, B a.At.Pending, B a.Auto]), es true R_api_Line (.slice f g h) 71 s a.Lines] w1 := (Kp.cons (T.on 0 rfl) (Kp.cons (T.on 1 rfl) Kp.nil0))
      refine ta 0 (.pointer (some ⟨d, 2, none⟩)) (tkx 1 R (fun X u hk => le1 2 underlying22 (hk.on 0 rfl)) (ta 2 (I i) (tx 3 (fun X u => ixO underlying22 k.m x0) (ta 4 (.pointer (some ⟨sb (.slice f g h), i.toNat * 2, none⟩)) ?_))))
      obtain ⟨u6, v4, b5⟩ := OA.at (k.mono (z0.trans (i2.trans (j2.trans (k2.trans l2))))) x0
      obtain ⟨e5, rfl, w4⟩ := v4
      refine AC.takeK 5 (e5) R rfl (by kernel_rfl) (by kernel_rfl) (by kernel_rfl) (fun X u hk => (rx (by kernel_rfl) (ldE1 underlying69 rfl (hk.on 1 rfl) (k.m.blk x0) (at1 (j := 0) b5 rfl)))) (tx 6 (fun X u => ln 3 underlying69 w4) (ta 7 (Q d) (tkx 8 R (fun X u hk => le1 0 underlying3 (hk.on 0 rfl)) (ta 9 (B ((g1.Cells.length : Int) != a.Wide)) ?_))))
      rcases bo ((g1.Cells.length : Int) != a.Wide) with P | P
      ·obtain rfl := orT P g2
       exact AC.takeb 10 P rfl (by kernel_rfl) (by kernel_rfl) (fun X u => (by kernel_rfl)) (tp 11 (tp 12 (tp 13 (tp 14 (tp 15 (tp 16 (tp 17 (tp 18 (ta 19 (B true) (dn (nrm ⟨w1, _, _, rfl, pt, us, T, rfl⟩)))))))))))
      have y := orF P g2
      refine bn y fun x2 y0 y => bn y fun h1 x4 y => AC.takeb 10 P rfl (by kernel_rfl) (by kernel_rfl) (fun X u => (by kernel_rfl)) (ta 11 (.pointer (some ⟨d, 2, none⟩)) (tkx 12 R (fun X u hk => le1 2 underlying22 (hk.on 0 rfl)) (ta 13 (I i) (tx 14 (fun X u => ixO underlying22 k.m y0) (ta 15 (.pointer (some ⟨sb (.slice f g h), i.toNat * 2, none⟩)) ?_)))))
      obtain ⟨v6, y4, c5⟩ := OA.at (k.mono (z0.trans (i2.trans (j2.trans (k2.trans l2))))) y0
      obtain ⟨f5, rfl, z4⟩ := y4
      refine AC.takeK 16 (f5) R rfl (by kernel_rfl) (by kernel_rfl) (by kernel_rfl) (fun X u hk => (rx (by kernel_rfl) (ldE1 underlying69 rfl (hk.on 1 rfl) (k.m.blk y0) (at1 (j := 0) c5 rfl)))) (o1 17 (gc 17 (c_linotyperef23_Sound T x2.Cells z4 x4) ?_))
      rintro i8 x1 r7 ⟨u0, rfl⟩
      have d5 : Kp G0 [(Eb d 96 [I a.Wide, I a.High, .slice f g h, I a.At.Row, I a.At.Col, B a.At.Pending, B a.Auto]), es true R_api_Line (.slice f g h) 71 s a.Lines] x1 := (Kp.cons (u0.on 0 rfl) (Kp.cons (u0.on 1 rfl) Kp.nil0))
      refine ⟨.inr d5, ta 18 (B (!h1)) ?_⟩
      obtain rfl := si y
      exact ta 19 (B (!h1)) (dn (nrm ⟨x1, _, _, rfl, pt, us, u0, rfl⟩))
     rintro Z w_ ⟨y1, h7, _, rfl, s7, rfl, q1, rfl⟩
     refine nrm (cn H (fun a5 H => ?_) (fun a5 H => ?_))
     ·refine sr (va (B false) (wln (W.ret (bkr (thr ?_)))))
      obtain rfl := si H
      refine ⟨_, rfl, ⟨rfl, ?_⟩⟩
      have b4 := q1.sD 2 []
      exact ⟨y1, _, _, rfl, pt, us, o, b4, rfl, U.m⟩
     refine W.skip (bkn (nrm (W.region (va (I i) (va (I (w64 (i + 1))) (va (I (w64 (i + 1))) (WL.nil ?_)))))))
     obtain rfl := si H
     exact ⟨_, rfl, ⟨y1, _, _, rfl, pt, us, q1, rfl⟩⟩
    refine W.exit (thx ?_)
    obtain rfl := si H
    exact ⟨_, rfl, rfl, ⟨u1, _, _, rfl, pt, us, t0, rfl⟩⟩
   ·exact ⟨D, _, _, rfl, pt, us, n1, rfl⟩
   rcases d0 with d0 | d0
   ·intro a2; revert a2
    rintro _ Z w_ ⟨rfl, l4, i7, _, rfl, t7, rfl, s3, c4, rfl, h4⟩
    refine bkr (bkr (thr ?_))
    obtain rfl := si s0
    exact ⟨_, rfl, ⟨rfl, ⟨l4, _, _, rfl, pt, us, s3, c4, rfl, h4⟩⟩⟩
   rintro _ Z w_ ⟨rfl, m4, j7, _, rfl, u7, rfl, d4, rfl⟩
   refine bke (bkn (nrm (W.region (va (I b.1) (va (I (w64 (b.1 + 1))) (va (I (w64 (b.1 + 1))) (WL.nil ?_)))))))
   obtain rfl := si s0
   refine ⟨_, rfl, ?_⟩
   have e4 := d4.sD 2 []
   exact ⟨m4, _, _, rfl, pt, us, o, e4, rfl, U.m⟩
  refine W.exit (thx ?_)
  obtain rfl := si H
  exact ⟨_, rfl, rfl, ⟨S, _, _, rfl, pt, us, i1, f0, rfl, s1⟩⟩
 ·exact ⟨f1, _, _, rfl, pt, us, j5, n5, rfl, p5⟩
 rcases a1 with a1 | a1
 ·intro a2; revert a2
  rintro _ Z w_ ⟨rfl, n4, k7, _, rfl, w7, rfl, t3, f4, rfl, i4⟩
  refine bkr (thr ?_)
  obtain rfl := si j1
  exact r1 ⟨_, n4, rfl, rfl, pt, t3, f4, i4, rfl⟩
 rintro _ Z w_ ⟨rfl, o4, l7, _, rfl, x7, rfl, u3, g4, rfl, j4⟩
 refine bke (nrm (sr (va (B true) (wln (W.ret ?_)))))
 obtain rfl := si j1
 exact r1 ⟨_, o4, rfl, rfl, pt, u3, g4, j4, rfl⟩
def f_linotypelaw48_BoundHolds (sg : Sto) (p0 : G_linotypelaw40_Side) (p1 : List G_api_Op) : Option (Sto × Bool) :=
 (f_linotypelaw48_works).bind fun t =>
 (orE (!t) ((f_linotypelaw40_Great p1).bind fun u =>
 some u)).bind fun s =>
 if s = true then
 (f_linotypelaw48_works).bind fun m =>
 some (sg, m)
 else
 (f_screen_New sg (w64 (1 + (w64 ((IntKind.u64.wrap p0.W).tmod 9)))) (w64 (1 + (w64 ((IntKind.u64.wrap p0.H).tmod 6))))).bind fun f =>
 (iter (σ := Int × Sto) (τ := (Sto × Bool) ⊕ Sto) (((p1.length : Int) - 0).toNat + 1) (fun d =>
 if (decide (d.1 < (p1.length : Int))) = true then
 (idx p1 d.1).bind fun n =>
 (f_screen_Screen_Do d.2 f.2 n).bind fun g =>
 (f_screen_Screen_View g.1 f.2).bind fun a =>
 (iter (σ := Int × Int) (τ := Int) (((a.Lines.length : Int) - 0).toNat + 1) (fun b =>
 if (decide (b.2 < (a.Lines.length : Int))) = true then
 (idx a.Lines b.2).bind fun j =>
 (iter (σ := Int × Int) (τ := Int) (((j.Cells.length : Int) - 0).toNat + 1) (fun e =>
 (idx a.Lines b.2).bind fun o =>
 if (decide (e.2 < (o.Cells.length : Int))) = true then
 (idx a.Lines b.2).bind fun p =>
 (idx p.Cells e.2).bind fun q =>
 some (.inl ((w64 (e.1 + (q.Text.length : Int))), (w64 (e.2 + 1))))
 else
 some (.inr (e.1))) (b.1, 0)).bind fun l =>
 some (.inl (l, (w64 (b.2 + 1))))
 else
 some (.inr (b.1))) (0, 0)).bind fun h =>
 (f_bound_Used a).bind fun r =>
 (orE (r != h) ((f_bound_Most a.Wide a.High).bind fun k =>
 some (decide (h > k)))).bind fun i =>
 if i = true then
 some (.inr (.inl (g.1, false)))
 else
 some (.inl ((w64 (d.1 + 1)), g.1))
 else
 some (.inr (.inr (d.2)))) (0, f.1)).bind fun c =>
 match c with
 | .inl c =>
 some c
 | .inr c =>
 some (c, true)
theorem c_linotypelaw48_BoundHolds (O0 : Own c0 G F) (R0 : Rel c0 sg G) (hG : Gl [0, 4, 7] c0) (p : G_linotypelaw40_Side) (p1 : List G_api_Op) {r : Sto × Bool} (h2 : Sl R_api_Op c0 v1 p1) (H : f_linotypelaw48_BoundHolds sg p p1 = some r) :
    Calls prog 9 #[.agg #[I p.W, I p.H], v1] c0.w (Post c0 fun c v => ∃ G_ : Gm, Own c G_ (F) ∧ Rel c r.1 G_ ∧ v = B r.2) := by
 unfold f_linotypelaw48_BoundHolds at H
 refine en func9 rfl rfl (sr (me (bx 92 [I p.W, I p.H] O0) ?_))
 rintro v7 c6 l6 ⟨b3, rfl, O4, m5⟩
 refine va (B false) (wln (W.seq (W.seq (bn H fun t1 h8 H => bn H fun b4 h9 H => W.join (Jn c6 fun c l => Own c G (F) ∧ l = [(1, v1), (2, Q b3), (16, B b4)]) ?_ ?_))))
 ·clear H
  refine W.region (cl (c_linotypelaw48_works O4 h8) ?_)
  rintro v15 x3 j6 ⟨f1, rfl⟩
  refine va (B (!t1)) ?_
  rcases bo (!t1) with D | D
  ·obtain rfl := orT D h9
   exact vb D (ps (ps (va (B true) (wln ⟨x3, _, _, rfl, pt, us, f1, rfl⟩))))
  have e0 := orF D h9
  refine vb D (wn (va (v1) (wn (bn e0 fun t4 d4 e0 => cl (c_linotypelaw40_Great f1 p1 h2.m d4) ?_))))
  rintro v24 y3 k6 ⟨n3, rfl⟩
  obtain rfl := si e0
  exact va (B t4) (wln ⟨y3, _, _, rfl, pt, us, n3, rfl⟩)
 rintro z M ⟨a6, f6, _, rfl, o4, rfl, g1, rfl⟩
 refine nrm (cn H (fun e4 H => ?_) (fun e4 H => ?_))
 ·refine sr (bn H fun i3 f4 H => cl (c_linotypelaw48_works g1 f4) ?_)
  rintro v38 z3 m6 ⟨o3, rfl⟩
  refine va (B i3) (wln (W.ret (thr ?_)))
  obtain rfl := si H
  exact r1 ⟨_, z3, rfl, rfl, pt, G, o3, R0.m, rfl⟩
 refine W.skip (nrm (sr (va (Q b3) (vx (l1 underlying3 ((mm m5) 0 _ rfl)) (va (.int .u64 (IntKind.u64.wrap p.W)) (va (.int .u64 ((IntKind.u64.wrap p.W).tmod 9)) (va (I (w64 ((IntKind.u64.wrap p.W).tmod 9))) (va (I (w64 (1 + (w64 ((IntKind.u64.wrap p.W).tmod 9))))) (va (.pointer (some ⟨b3, 0 + 1, none⟩)) (vx (l1 underlying3 ((mm m5) 1 _ rfl)) (va (.int .u64 (IntKind.u64.wrap p.H)) (va (.int .u64 ((IntKind.u64.wrap p.H).tmod 6)) (va (I (w64 ((IntKind.u64.wrap p.H).tmod 6))) (va (I (w64 (1 + (w64 ((IntKind.u64.wrap p.H).tmod 6))))) (bn H fun w0 g4 H => cl (c_screen_New g1 R0.m (w64 (1 + (w64 ((IntKind.u64.wrap p.W).tmod 9)))) (w64 (1 + (w64 ((IntKind.u64.wrap p.H).tmod 6)))) g4) ?_)))))))))))))))
 rintro v40 X p4 ⟨_, l3, p3, w3, z5, rfl, j1⟩
 refine va (v40) (wln (W.seq (sr (va (I 0) (wln (W.block (bn H fun T k1 f0 => lp k1 (fun b => Jn X fun c l => ∃ G_, Own c G_ (F) ∧ l = [(1, v1), (5, v40), (6, I b.1)] ∧ Rel c b.2 G_) (fun t => match t with | .inl x_ => (fun s1 ex e w => ex = .ret ∧ (Jn X fun c l => ∃ G_, Own c G_ (F) ∧ l = [(4, B s1.2)] ∧ Rel c s1.1 G_) e w) x_ | .inr x_ => (fun b1 ex e w => ex = .exit 0 ∧ (Jn X fun c l => ∃ G_, Own c G_ (F) ∧ l = [] ∧ Rel c b1 G_) e w) x_) ?_ ?_ ?_)))))))
 ·clear f0 k1
  intro b u1 A N H
  revert A N
  rintro z M ⟨a4, g6, _, rfl, q4, rfl, m3, h1, rfl, i1⟩
  refine W.seq (sr (va (I b.1) (va (v1) (vx (ln 3 underlying55 h2.m) (va (B (decide (b.1 < (p1.length : Int)))) (wln (cn H (fun h4 H => ?_) (fun h4 H => ?_))))))))
  ·refine W.skip (nrm (W.seq (W.block (sr (va (v40) (va (v1) (va (I b.1) (bn H fun j3 m1 H => ?_))))))))
   obtain ⟨s5, i4, s4⟩ := Sl.at (h2.mono (l6.trans (o4.trans (p4.trans q4)))) (idx_get m1)
   obtain ⟨p6, rfl, j4⟩ := i4
   refine vx (ix underlying55 h2.m m1) (vx (lN 59 s4) (bn H fun x5 k4 H => cl (c_screen_Screen_Do h1 i1 (hG.m.le (by decide)) w0.2 j3 j1.m j4 k4) ?_))
   rintro q6 b6 n6 ⟨_, u, q3, j0, rfl, i6⟩
   refine wln (sr (va (v40) (bn H fun a l4 H => cl (c_screen_Screen_View q3 j0 w0.2 j1.m l4) ?_)))
   rintro s6 d6 o6 ⟨r6, E, s3, rfl, o⟩
   refine me (al 96 [I 0, I 0, Y, I 0, I 0, B false, B false] s3) ?_
   rintro t6 e6 a0 ⟨k, rfl, t3⟩
   obtain ⟨g, h, i, rfl⟩ := ((o.mono a0)).form
   refine md (sA 96 [I a.Wide, I a.High, .slice g h i, I a.At.Row, I a.At.Col, B a.At.Pending, B a.Auto] 0 t3 ⟨rfl, rfl, o.m.one, rfl, rfl, rfl, rfl, trivial⟩) ?_
   rintro m0 v0 u3
   refine wln (sr (va (I 0) (wln (W.seq (sr (va (I 0) (wln (W.block (bn H fun s n1 n => lp n1 (fun d => Jn m0 fun c l => Own c u ((Eb k 96 [I a.Wide, I a.High, .slice g h i, I a.At.Row, I a.At.Col, B a.At.Pending, B a.Auto]) :: es true R_api_Line (.slice g h i) 71 E a.Lines :: F) ∧ l = [(1, v1), (5, v40), (6, I b.1), (7, Q k), (8, I d.1), (9, I d.2)]) (fun c1 ex e w => ex = .exit 2 ∧ (Jn m0 fun c l => Own c u ((Eb k 96 [I a.Wide, I a.High, .slice g h i, I a.At.Row, I a.At.Col, B a.At.Pending, B a.Auto]) :: es true R_api_Line (.slice g h i) 71 E a.Lines :: F) ∧ l = [(1, v1), (5, v40), (6, I b.1), (7, Q k), (8, I c1)]) e w) ?_ ?_ ?_)))))))))
   ·clear n n1
    intro d u1 A N H
    revert A N
    rintro z M ⟨Z, h6, _, rfl, q1, rfl, i0, rfl⟩
    refine W.seq (sr (va (I d.2) (va (.pointer (some ⟨k, 2, none⟩)) (vx (le1 2 underlying22 (i0.on 0 rfl)) (vx (lnO 3 underlying22 o.m) (va (B (decide (d.2 < (a.Lines.length : Int)))) (wln (cn H (fun n4 H => ?_) (fun n4 H => ?_)))))))))
    ·refine W.skip (nrm (W.seq (W.block (sr (va (I 0) (wln (W.block (bn H fun u4 _ H => bn H fun t5 o0 d0 => lp o0 (fun f => Jn Z fun c l => Own c u ((Eb k 96 [I a.Wide, I a.High, .slice g h i, I a.At.Row, I a.At.Col, B a.At.Pending, B a.Auto]) :: es true R_api_Line (.slice g h i) 71 E a.Lines :: F) ∧ l = [(1, v1), (5, v40), (6, I b.1), (7, Q k), (8, I f.1), (9, I d.2), (10, I f.2)]) (fun d1 ex e w => ex = .exit 4 ∧ (Jn Z fun c l => Own c u ((Eb k 96 [I a.Wide, I a.High, .slice g h i, I a.At.Row, I a.At.Col, B a.At.Pending, B a.Auto]) :: es true R_api_Line (.slice g h i) 71 E a.Lines :: F) ∧ l = [(1, v1), (5, v40), (6, I b.1), (7, Q k), (8, I d1), (9, I d.2)]) e w) ?_ ?_ ?_))))))))
     ·clear d0 o0
      intro f u1 A N H
      revert A N
      rintro z M ⟨k0, c5, _, rfl, u0, rfl, q, rfl⟩
      refine W.seq (sr (va (I f.2) (va (.pointer (some ⟨k, 2, none⟩)) (vx (le1 2 underlying22 (q.on 0 rfl)) (va (I d.2) (bn H fun k3 R H => vx (ixO underlying22 o.m R) (va (.pointer (some ⟨sb (.slice g h i), d.2.toNat * 2, none⟩)) ?_)))))))
      obtain ⟨v4, p2, d3⟩ := OA.at (o.mono (a0.trans (v0.trans (q1.trans u0)))) R
      obtain ⟨g3, rfl, q2⟩ := p2
      refine vr g3 (rx (by kernel_rfl) (ldE1 underlying69 rfl (q.on 1 rfl) (o.m.blk R) (at1 (j := 0) d3 rfl))) (vx (ln 3 underlying69 q2) (va (B (decide (f.2 < (k3.Cells.length : Int)))) (wln (cn H (fun s2 H => ?_) (fun s2 H => ?_)))))
      ·refine W.skip (nrm (W.seq (W.block (W.region (va (I f.1) (va (.pointer (some ⟨k, 2, none⟩)) (vx (le1 2 underlying22 (q.on 0 rfl)) (va (I d.2) (bn H fun y5 S H => vx (ixO underlying22 o.m S) (va (.pointer (some ⟨sb (.slice g h i), d.2.toNat * 2, none⟩)) ?_))))))))))
       obtain ⟨w4, t2, e3⟩ := OA.at (o.mono (a0.trans (v0.trans (q1.trans u0)))) S
       obtain ⟨U, rfl, q0⟩ := t2
       refine vr U (rx (by kernel_rfl) (ldE1 underlying69 rfl (q.on 1 rfl) (o.m.blk S) (at1 (j := 0) e3 rfl))) (va (I f.2) (bn H fun x0 s0 H => ?_))
       obtain ⟨x4, u2, f3⟩ := Sl.at q0 (idx_get s0)
       obtain ⟨u5, rfl, v2⟩ := u2
       refine vx (ix underlying69 q0 s0) (va (.pointer (some ⟨sb U, so U + f.2.toNat * 2 + 1, none⟩)) (vx (l1 underlying27 (f3 1 _ rfl)) (vx (ln 3 underlying27 v2) (va (I (w64 (f.1 + (x0.Text.length : Int)))) (va (I (w64 (f.1 + (x0.Text.length : Int)))) (WL.nil (bkn (nrm (W.region (va (I f.2) (va (I (w64 (f.2 + 1))) (va (I (w64 (f.2 + 1))) (WL.nil ?_)))))))))))))
       obtain rfl := si H
       exact ⟨_, rfl, ⟨k0, _, _, rfl, pt, us, q, rfl⟩⟩
      refine W.exit (thx ?_)
      obtain rfl := si H
      exact ⟨_, rfl, rfl, ⟨k0, _, _, rfl, pt, us, q, rfl⟩⟩
     ·exact ⟨Z, _, _, rfl, pt, us, i0, rfl⟩
     rintro _ z M ⟨rfl, j2, d5, _, rfl, j5, rfl, y1, rfl⟩
     refine bke (bkn (nrm (W.region (va (I d.2) (va (I (w64 (d.2 + 1))) (va (I (w64 (d.2 + 1))) (WL.nil ?_)))))))
     obtain rfl := si d0
     exact ⟨_, rfl, ⟨j2, _, _, rfl, pt, us, y1, rfl⟩⟩
    refine W.exit (thx ?_)
    obtain rfl := si H
    exact ⟨_, rfl, rfl, ⟨Z, _, _, rfl, pt, us, i0, rfl⟩⟩
   ·exact ⟨m0, _, _, rfl, pt, us, u3, rfl⟩
   rintro _ z M ⟨rfl, k2, e5, _, rfl, c3, rfl, g0, rfl⟩
   refine bke (nrm (W.seq (bn n fun y0 w2 n => bn n fun z0 t0 n => W.join (Jn k2 fun c l => Own c u ((Eb k 96 [I a.Wide, I a.High, .slice g h i, I a.At.Row, I a.At.Col, B a.At.Pending, B a.Auto]) :: es false R_api_Line (.slice g h i) 71 E a.Lines :: F) ∧ l = [(1, v1), (5, v40), (6, I b.1), (88, B z0)]) ?_ ?_)))
   ·clear n
    refine W.region (vx (leN 96 0 [I a.Wide, I a.High, .slice g h i, I a.At.Row, I a.At.Col, B a.At.Pending, B a.Auto] (g0.on 0 rfl)) ?_)
    obtain ⟨a5, y2, k5, z1, x2⟩ := g0.frz 1 rfl (o.mono (a0.trans (v0.trans c3)))
    refine WL.gh y2 (cl (c_bound_Used z1 a x2 w2) ?_)
    rintro v5 l2 l5 ⟨y, rfl⟩
    refine va (I s) (va (B (y0 != s)) ?_)
    rcases bo (y0 != s) with x | x
    ·obtain rfl := orT x t0
     exact vb x (ps (ps (ps (ps (ps (ps (ps (va (B true) (wln ⟨l2, _, _, rfl, pt, us, y, rfl⟩)))))))))
    have P := orF x t0
    refine vb x (wn (va (I s) (wn (va (Q k) (wn (vx (le1 0 underlying3 (y.on 0 rfl)) (wn (va (.pointer (some ⟨k, 1, none⟩)) (wn (vx (le1 1 underlying3 (y.on 0 rfl)) (wn (bn P fun b0 z2 P => cl (c_bound_Most y a.Wide a.High z2) ?_))))))))))))
    rintro w5 m2 n5 ⟨a2, rfl⟩
    refine wn (va (B (decide (s > b0))) ?_)
    obtain rfl := si P
    exact va (B (decide (s > b0))) (wln ⟨m2, _, _, rfl, pt, us, a2, rfl⟩)
   rintro z M ⟨l0, f5, _, rfl, o5, rfl, h0, rfl⟩
   refine nrm (cn n (fun a3 n => ?_) (fun a3 n => ?_))
   ·refine sr (va (B false) (wln (W.ret (bkr (thr ?_)))))
    obtain rfl := si n
    refine ⟨_, rfl, ⟨rfl, ?_⟩⟩
    have b2 := h0.sD 2 []
    exact ⟨l0, _, _, rfl, pt, us, u, b2, rfl, j0.m⟩
   refine W.skip (bkn (nrm (W.region (va (I b.1) (va (I (w64 (b.1 + 1))) (va (I (w64 (b.1 + 1))) (WL.nil ?_)))))))
   obtain rfl := si n
   refine ⟨_, rfl, ?_⟩
   have c2 := h0.sD 2 []
   exact ⟨l0, _, _, rfl, pt, us, u, c2, rfl, j0.m⟩
  refine W.exit (thx ?_)
  obtain rfl := si H
  exact ⟨_, rfl, rfl, ⟨a4, _, _, rfl, pt, us, m3, h1, rfl, i1⟩⟩
 ·exact ⟨X, _, _, rfl, pt, us, l3, p3, rfl, w3⟩
 rcases T with T | T
 ·intro c4; revert c4
  rintro _ z M ⟨rfl, n2, g5, _, rfl, p5, rfl, w1, d2, rfl, f2⟩
  refine bkr (thr ?_)
  obtain rfl := si f0
  exact r1 ⟨_, n2, rfl, rfl, pt, w1, d2, f2, rfl⟩
 rintro _ z M ⟨rfl, o2, h5, _, rfl, q5, rfl, x1, e2, rfl, g2⟩
 refine bke (nrm (sr (va (B true) (wln (W.ret ?_)))))
 obtain rfl := si f0
 exact r1 ⟨_, o2, rfl, rfl, pt, x1, e2, g2, rfl⟩
end Go.Proofs.YthokmpbbkpjhbaaGreatDoor
namespace Go.Proofs.YthokmpbbkpjhbaaGreatDoor
structure Sg where
 some : Bool
 last : Int
 pict : Int
 conj : Int
 odd : Bool
def sg0 : Sg := ⟨false, 0, 0, 0, false⟩
def nxP (s : Int) (p : G_api_Prop) : Int := if p.Pict = true then 1 else if s = 1 ∧ p.Break = 4 then 1 else if s = 1 ∧ p.Break = 5 then 2 else 0
def nxC (s : Int) (p : G_api_Prop) : Int := if p.Conj = 1 then 1 else if s = 0 then 0 else if p.Conj = 2 then 2 else if p.Conj = 3 then s else 0
def sgN (s : Sg) (p : G_api_Prop) : Sg := ⟨true, p.Break, nxP s.pict p, nxC s.conj p, p.Break == 6 && !(s.some && s.last == 6 && s.odd)⟩
def sgF (l : List G_api_Prop) : Sg := l.foldl sgN sg0
def sgJ (pj : Int → Int → Int) (s : Sg) (p : G_api_Prop) : Bool :=
 s.some && ((p.Conj == 1 && s.conj == 2) || (p.Pict && s.pict == 2) || pj s.last p.Break == 1 || (pj s.last p.Break == 2 && s.last == 6 && s.odd))
def ri : List G_api_Prop → Nat
 | [] => 0
 | x :: l => if x.Break = 6 then ri l + 1 else 0
def hb : List G_api_Prop → Int
 | [] => 0
 | x :: _ => x.Break
def od : List G_api_Prop → Bool
 | [] => false
 | x :: l => x.Break == 6 && !(!l.isEmpty && hb l == 6 && od l)
theorem ri_od (l : List G_api_Prop) : od l = (ri l % 2 == 1) := by
 induction l with
 | nil => rfl
 | cons x l ih =>
  unfold od ri
  by_cases h : x.Break = 6
  ·rw [if_pos h, ih]
   have hb' : (x.Break == 6) = true := by simp [h]
   rw [hb', Bool.true_and]
   cases l with
   | nil => rfl
   | cons y l =>
    by_cases h2 : y.Break = 6
    ·have e : (hb (y :: l) == 6) = true := by simp [hb, h2]
     rw [e]
     simp only [List.isEmpty_cons, Bool.not_false, Bool.true_and]
     rw [Bool.eq_iff_iff]
     simp only [Bool.not_eq_true', beq_eq_false_iff_ne, beq_iff_eq]
     omega
    ·have e : (hb (y :: l) == 6) = false := by simp [hb, h2]
     rw [e]
     simp only [Bool.and_false, Bool.false_and, Bool.not_false]
     have : ri (y :: l) = 0 := by unfold ri; rw [if_neg h2]
     rw [this]
     rfl
  ·rw [if_neg h]
   simp [h]
structure Sq (s t : Sg) : Prop where
 pict : s.pict = t.pict
 conj : s.conj = t.conj
 odd : s.odd = t.odd
theorem sgN_sq {s t : Sg} (h : Sq s t) (h1 : s.odd = true → s.some = true ∧ s.last = 6) (h2 : t.odd = true → t.some = true ∧ t.last = 6) (p : G_api_Prop) : sgN s p = sgN t p := by
 unfold sgN
 rw [h.pict, h.conj]
 congr 2
 have : (s.some && s.last == 6 && s.odd) = (t.some && t.last == 6 && t.odd) := by
  have ho := h.odd
  rw [Bool.eq_iff_iff]
  simp only [Bool.and_eq_true, beq_iff_eq]
  constructor
  ·rintro ⟨_, q⟩
   have := h2 (ho ▸ q)
   exact ⟨this, ho ▸ q⟩
  ·rintro ⟨_, q⟩
   have := h1 (ho ▸ q)
   exact ⟨this, ho ▸ q⟩
 rw [this]
end Go.Proofs.YthokmpbbkpjhbaaGreatDoor
namespace Go.Proofs.YthokmpbbkpjhbaaGreatDoor
def addL (c : List (List Int)) (r : Int) : List (List Int) := c.dropLast ++ [c.getLast?.getD [] ++ [r]]
theorem addL_snoc (c : List (List Int)) (x : List Int) (r : Int) : addL (c ++ [x]) r = c ++ [x ++ [r]] := by
 unfold addL
 simp
section
variable (pj : Int → Int → Int) (pr : Int → G_api_Prop)
def clS (l : List Int) : List (List Int) × Sg := l.foldl (fun a r => (if sgJ pj a.2 (pr r) = true then addL a.1 r else a.1 ++ [[r]], sgN a.2 (pr r))) ([], sg0)
def cls (l : List Int) : List (List Int) := (clS pj pr l).1
def jn (l : List Int) (r : Int) : Bool := sgJ pj (sgF (l.map pr)) (pr r)
theorem sgF_snoc (l : List G_api_Prop) (x : G_api_Prop) : sgF (l ++ [x]) = sgN (sgF l) x := by
 unfold sgF
 rw [List.foldl_append]
 rfl
theorem clS_2 (l : List Int) : (clS pj pr l).2 = sgF (l.map pr) := by
 have key : ∀ (l : List Int) (a : List (List Int) × Sg), (l.foldl (fun a r => (if sgJ pj a.2 (pr r) = true then addL a.1 r else a.1 ++ [[r]], sgN a.2 (pr r))) a).2 = (l.map pr).foldl sgN a.2 := by
  intro l
  induction l with
  | nil => intro a; rfl
  | cons r l ih => intro a; rw [List.foldl_cons, ih, List.map_cons, List.foldl_cons]
 exact key l _
theorem cls_nil : cls pj pr [] = [] := rfl
theorem cls_snoc (l : List Int) (r : Int) : cls pj pr (l ++ [r]) = if jn pj pr l r = true then addL (cls pj pr l) r else cls pj pr l ++ [[r]] := by
 unfold cls jn
 rw [← clS_2 pj]
 unfold clS
 rw [List.foldl_append]
 rfl
theorem jn_ne {l : List Int} {r : Int} (h : jn pj pr l r = true) : l ≠ [] := by
 rintro rfl
 simp [jn, sgJ, sgF, sg0] at h
end
theorem snoc_ind {P : List Int → Prop} (h0 : P []) (h1 : ∀ l r, P l → P (l ++ [r])) (l : List Int) : P l := by
 have key : ∀ l : List Int, P l.reverse := by
  intro l
  induction l with
  | nil => exact h0
  | cons r l ih => rw [List.reverse_cons]; exact h1 _ _ ih
 have := key l.reverse
 rwa [List.reverse_reverse] at this
theorem snoc_cases {α : Type} {l : List α} (h : l ≠ []) : ∃ l0 x, l = l0 ++ [x] := ⟨l.dropLast, l.getLast h, (List.dropLast_concat_getLast h).symm⟩
variable {pj : Int → Int → Int} {pr : Int → G_api_Prop}
theorem cls_flat (l : List Int) : (cls pj pr l).flatten = l ∧ (∀ c ∈ cls pj pr l, c ≠ []) ∧ (l ≠ [] → cls pj pr l ≠ []) := by
 refine snoc_ind (P := fun l => (cls pj pr l).flatten = l ∧ (∀ c ∈ cls pj pr l, c ≠ []) ∧ (l ≠ [] → cls pj pr l ≠ [])) ⟨rfl, fun c hc => by simp [cls_nil] at hc, fun h => absurd rfl h⟩ (fun l r ih => ?_) l
 obtain ⟨h1, h2, h3⟩ := ih
 rw [cls_snoc]
 split
 ·rename_i hj
  obtain ⟨c0, x, e⟩ := snoc_cases (h3 (jn_ne pj pr hj))
  rw [e] at h1 h2 ⊢
  rw [addL_snoc]
  refine ⟨?_, fun c hc => ?_, fun _ => by simp⟩
  ·rw [← h1]; simp
  ·rcases List.mem_append.1 hc with hc | hc
   ·exact h2 c (List.mem_append_left _ hc)
   ·rw [List.mem_singleton.1 hc]; simp
 ·refine ⟨by rw [List.flatten_append, h1]; simp, fun c hc => ?_, fun _ => by simp⟩
  rcases List.mem_append.1 hc with hc | hc
  ·exact h2 c hc
  ·rw [List.mem_singleton.1 hc]; simp
theorem cls_last {l : List Int} {x : Int} {c0 : List (List Int)} {c : List Int} (h : cls pj pr (l ++ [x]) = c0 ++ [c]) : ∃ c', c = c' ++ [x] := by
 obtain ⟨h1, h2, _⟩ := cls_flat (pj := pj) (pr := pr) (l ++ [x])
 rw [h] at h1 h2
 obtain ⟨c', y, rfl⟩ := snoc_cases (h2 c (by simp))
 refine ⟨c', ?_⟩
 rw [List.flatten_append] at h1
 simp only [List.flatten_cons, List.flatten_nil, List.append_nil] at h1
 rw [← List.append_assoc] at h1
 have := List.append_inj_right' h1 rfl
 rw [List.singleton_inj.1 this]
section
variable (pj : Int → Int → Int) (pr : Int → G_api_Prop)
end
structure Sil (pj : Int → Int → Int) (pr : Int → G_api_Prop) (sil : Int → Bool) : Prop where
 s : ∀ r, sil r = true → ((pr r).Break = 1 ∨ (pr r).Break = 2 ∨ (pr r).Break = 3) ∧ (pr r).Pict = false ∧ (pr r).Conj = 0
 ja : ∀ a b, (a = 1 ∨ a = 2 ∨ a = 3) → pj a b ≠ 0 → a = 1 ∧ b = 2
 jb : ∀ a b, (b = 1 ∨ b = 2 ∨ b = 3) → pj a b ≠ 0 → a = 1 ∧ b = 2
 b : ∀ r, (pr r).Break = 1 ∨ (pr r).Break = 2 → sil r = true
variable {sil : Int → Bool}
theorem Sil.state (h : Sil pj pr sil) (l : List Int) {x : Int} (hx : sil x = true) : sgF ((l ++ [x]).map pr) = ⟨true, (pr x).Break, 0, 0, false⟩ := by
 obtain ⟨h1, h2, h3⟩ := h.s x hx
 rw [List.map_append, List.map_singleton, sgF_snoc]
 unfold sgN nxP nxC
 rw [h2, h3, if_neg (by simp), if_neg (by omega), if_neg (by omega), if_neg (by omega)]
 congr 1
 ·split <;> rfl
 ·have e : ((pr x).Break == 6) = false := by rw [beq_eq_false_iff_ne]; omega
  rw [e, Bool.false_and]
theorem Sil.no (h : Sil pj pr sil) (l : List Int) {x r : Int} (hx : sil x = true) (hr : sil r = false) : jn pj pr (l ++ [x]) r = false := by
 obtain ⟨h1, _, _⟩ := h.s x hx
 unfold jn
 rw [h.state l hx]
 have hz : pj (pr x).Break (pr r).Break = 0 := Classical.byContradiction fun hne => by
  have := h.b r (.inr (h.ja _ _ h1 hne).2)
  rw [hr] at this
  cases this
 simp [sgJ, hz]
theorem Sil.new (h : Sil pj pr sil) (l : List Int) {x : Int} (hx : sil x = true) (p : G_api_Prop) : sgN (sgF ((l ++ [x]).map pr)) p = sgN sg0 p := by
 rw [h.state l hx]
 exact sgN_sq (s := ⟨true, (pr x).Break, 0, 0, false⟩) (t := sg0) ⟨rfl, rfl, rfl⟩ (fun e => by simp at e) (fun e => by simp [sg0] at e) p
theorem Sil.yes (h : Sil pj pr sil) {l : List Int} {r : Int} (hr : sil r = true) (hj : jn pj pr l r = true) : ∃ l0 x, l = l0 ++ [x] ∧ sil x = true := by
 obtain ⟨l0, x, rfl⟩ := snoc_cases (jn_ne pj pr hj)
 refine ⟨l0, x, rfl, ?_⟩
 obtain ⟨h1, h2, h3⟩ := h.s r hr
 unfold jn at hj
 rw [List.map_append, List.map_singleton, sgF_snoc] at hj
 have hl : (sgN (sgF (l0.map pr)) (pr x)).last = (pr x).Break := rfl
 unfold sgJ at hj
 rw [h2, h3, hl] at hj
 have hz : pj (pr x).Break (pr r).Break ≠ 0 := fun e => by
  rw [e] at hj
  simp at hj
 exact h.b x (.inl (h.jb _ _ h1 hz).1)
theorem Sil.all (h : Sil pj pr sil) (l : List Int) : ∀ c ∈ cls pj pr l, (∀ x ∈ c, sil x = true) ∨ ∀ x ∈ c, sil x = false := by
 refine snoc_ind (P := fun l => ∀ c ∈ cls pj pr l, (∀ x ∈ c, sil x = true) ∨ ∀ x ∈ c, sil x = false) (fun c hc => by simp [cls_nil] at hc) (fun l r ih => ?_) l
 rw [cls_snoc]
 split
 ·rename_i hj
  obtain ⟨l0, x, rfl⟩ := snoc_cases (jn_ne pj pr hj)
  obtain ⟨c0, c, e⟩ := snoc_cases ((cls_flat (pj := pj) (pr := pr) (l0 ++ [x])).2.2 (by simp))
  obtain ⟨c', rfl⟩ := cls_last e
  rw [e] at ih ⊢
  rw [addL_snoc]
  intro d hd
  rcases List.mem_append.1 hd with hd | hd
  ·exact ih d (List.mem_append_left _ hd)
  ·rw [List.mem_singleton.1 hd]
   have hc := ih (c' ++ [x]) (by simp)
   cases hr : sil r with
   | true =>
    obtain ⟨l1, y, e1, hy⟩ := h.yes hr hj
    have : x = y := List.singleton_inj.1 (List.append_inj_right' e1 rfl)
    subst this
    left
    rcases hc with hc | hc
    ·intro z hz
     rcases List.mem_append.1 hz with hz | hz
     ·exact hc z hz
     ·rw [List.mem_singleton.1 hz]; exact hr
    ·have := hc x (by simp)
     rw [hy] at this
     cases this
   | false =>
    right
    rcases hc with hc | hc
    ·have := h.no l0 (hc x (by simp)) hr
     rw [this] at hj
     cases hj
    ·intro z hz
     rcases List.mem_append.1 hz with hz | hz
     ·exact hc z hz
     ·rw [List.mem_singleton.1 hz]; exact hr
 ·intro d hd
  rcases List.mem_append.1 hd with hd | hd
  ·exact ih d hd
  ·rw [List.mem_singleton.1 hd]
   cases hr : sil r with
   | true => left; intro z hz; rw [List.mem_singleton.1 hz]; exact hr
   | false => right; intro z hz; rw [List.mem_singleton.1 hz]; exact hr
end Go.Proofs.YthokmpbbkpjhbaaGreatDoor
namespace Go.Lt
theorem w64_in {n : Int} (h : -9223372036854775808 ≤ n ∧ n ≤ 9223372036854775807) : w64 n = n := by
 unfold w64
 rw [IntKind.wrap_i64]
 omega
theorem w32_in {n : Int} (h : -2147483648 ≤ n ∧ n ≤ 2147483647) : w32 n = n := by
 unfold w32
 rw [IntKind.wrap_i32]
 omega
theorem bsm {α β : Type} (a : α) (f : α → Option β) : (some a).bind f = f a := by simp
theorem iter_inv {σ τ : Type} {step : σ → Option (σ ⊕ τ)} (Inv : σ → Prop) (μ : σ → Nat) (post : τ → Prop)
  (h : ∀ s, Inv s → (∃ s', step s = some (.inl s') ∧ Inv s' ∧ μ s' < μ s) ∨ ∃ t, step s = some (.inr t) ∧ post t) :
  ∀ (fuel : Nat) (s : σ), Inv s → μ s < fuel → ∃ t, iter fuel step s = some t ∧ post t := by
 intro fuel
 induction fuel with
 | zero => intro s _ hm; omega
 | succ k ih =>
  intro s hs hm
  rcases h s hs with ⟨s', h1, h2, h3⟩ | ⟨t, h1, h2⟩
  ·obtain ⟨t, h4, h5⟩ := ih s' h2 (by omega)
   exact ⟨t, by simp [iter, h1, h4], h5⟩
  ·exact ⟨t, by simp [iter, h1], h2⟩
theorem iter_eq {σ τ : Type} {step : σ → Option (σ ⊕ τ)} (Inv : σ → Prop) (μ : σ → Nat) {t : τ}
  (h : ∀ s, Inv s → (∃ s', step s = some (.inl s') ∧ Inv s' ∧ μ s' < μ s) ∨ step s = some (.inr t)) {fuel : Nat} {s : σ} (h0 : Inv s) (hm : μ s < fuel) : iter fuel step s = some t := by
 obtain ⟨t', h1, h2⟩ := iter_inv Inv μ (fun x => x = t) (fun s hs => (h s hs).imp id fun h => ⟨t, h, rfl⟩) fuel s h0 hm
 rw [h1, h2]
theorem orE_some (a b : Bool) : orE a (some b) = some (a || b) := by cases a <;> rfl
theorem andE_some (a b : Bool) : andE a (some b) = some (a && b) := by cases a <;> rfl
theorem orE_true (x : Option Bool) : orE true x = some true := rfl
theorem orE_false (x : Option Bool) : orE false x = x := rfl
theorem andE_true (x : Option Bool) : andE true x = x := rfl
theorem andE_false (x : Option Bool) : andE false x = some false := rfl
theorem idx_nat {α : Type} (xs : List α) (i : Nat) : idx xs (i : Int) = xs[i]? := by
 unfold idx
 rw [if_pos (Int.natCast_nonneg i)]
 rfl
theorem idx_at {α : Type} {xs : List α} {i : Nat} (h : i < xs.length) : idx xs (i : Int) = some xs[i] := by
 rw [idx_nat, List.getElem?_eq_getElem h]
theorem sets_nat {α : Type} {xs : List α} {i : Nat} (h : i < xs.length) (x : α) : sets xs (i : Int) x = some (xs.set i x) := by
 unfold sets
 rw [if_pos ⟨Int.natCast_nonneg i, by omega⟩]
 rfl
theorem app_eq {α : Type} {xs ys : List α} (h : xs.length + ys.length ≤ 1099511627776) : app xs ys = some (xs ++ ys) := by
 unfold app far
 rw [if_pos h]
theorem rep_eq {α : Type} {n : Int} (x : α) (h : 0 ≤ n ∧ n ≤ 1099511627776) : rep n x = some (List.replicate n.toNat x) := by
 unfold rep far
 rw [if_pos (by omega)]
theorem slc_eq {α : Type} {xs : List α} {i j : Nat} (h : i ≤ j) (h2 : j ≤ xs.length) : slc xs i j = some ((xs.drop i).take (j - i)) := by
 unfold slc
 rw [if_pos (by omega)]
 congr 2
 omega
theorem imax_eq (x y : Int) : imax x y = max x y := by unfold imax; split <;> omega
theorem imin_eq (x y : Int) : imin x y = min x y := by unfold imin; split <;> omega
theorem iter_count {τ : Type} {step : Int → Option (Int ⊕ τ)} {n : Nat} (hn : n ≤ 9223372036854775807) (post : τ → Prop) (Inv : Nat → Prop) (h0 : Inv 0)
  (h : ∀ i : Nat, i < n → Inv i → (step i = some (.inl ((i + 1 : Nat) : Int)) ∧ Inv (i + 1)) ∨ ∃ t, step i = some (.inr t) ∧ post t)
  (hend : Inv n → ∃ t, step n = some (.inr t) ∧ post t) : ∃ t, iter (((n : Int) - 0).toNat + 1) step 0 = some t ∧ post t := by
 refine iter_inv (fun s : Int => ∃ i : Nat, s = (i : Int) ∧ i ≤ n ∧ Inv i) (fun s : Int => n - s.toNat) post (fun s ⟨i, hs, hi, hI⟩ => ?_) _ _ ⟨0, rfl, Nat.zero_le _, h0⟩ (by simp)
 subst hs
 rcases Nat.lt_or_ge i n with hlt | hge
 ·rcases h i hlt hI with ⟨h1, h2⟩ | h1
  ·exact .inl ⟨_, h1, ⟨i + 1, rfl, hlt, h2⟩, by simp; omega⟩
  ·exact .inr h1
 ·obtain rfl : i = n := by omega
  exact .inr (hend hI)
theorem iter_for {σ τ : Type} {step : σ → Option (σ ⊕ τ)} {n : Nat} (Inv : Nat → σ → Prop) (post : τ → Prop)
  (h : ∀ i s, i < n → Inv i s → (∃ s', step s = some (.inl s') ∧ Inv (i + 1) s') ∨ ∃ t, step s = some (.inr t) ∧ post t)
  (hend : ∀ s, Inv n s → ∃ t, step s = some (.inr t) ∧ post t) {fuel : Nat} {s : σ} (h0 : Inv 0 s) (hf : n < fuel) : ∃ t, iter fuel step s = some t ∧ post t := by
 have key : ∀ fuel i s, i ≤ n → n - i < fuel → Inv i s → ∃ t, iter fuel step s = some t ∧ post t := by
  intro fuel
  induction fuel with
  | zero => intro i s _ hm; omega
  | succ k ih =>
   intro i s hi hm hs
   rcases Nat.lt_or_ge i n with hlt | hge
   ·rcases h i s hlt hs with ⟨s', h1, h2⟩ | ⟨t, h1, h2⟩
    ·obtain ⟨t, h4, h5⟩ := ih (i + 1) s' hlt (by omega) h2
     exact ⟨t, by simp [iter, h1, h4], h5⟩
    ·exact ⟨t, by simp [iter, h1], h2⟩
   ·obtain rfl : i = n := by omega
    obtain ⟨t, h1, h2⟩ := hend s hs
    exact ⟨t, by simp [iter, h1], h2⟩
 exact key fuel 0 s (Nat.zero_le _) (by omega) h0
theorem bind_of {α β : Type} {x : Option α} {k : α → Option β} {a : α} {r : Option β} (h : x = some a) (h2 : k a = r) : x.bind k = r := by rw [h]; exact h2
theorem iter_forB {σ τ β : Type} {step : σ → Option (σ ⊕ τ)} {n : Nat} (Inv : Nat → σ → Prop) (post : τ → Prop) {fuel : Nat} {s : σ} {k : τ → Option β} {r : Option β}
  (h : ∀ i s, i < n → Inv i s → (∃ s', step s = some (.inl s') ∧ Inv (i + 1) s') ∨ ∃ t, step s = some (.inr t) ∧ post t)
  (hend : ∀ s, Inv n s → ∃ t, step s = some (.inr t) ∧ post t) (h0 : Inv 0 s) (hf : n < fuel) (hk : ∀ t, post t → k t = r) : (iter fuel step s).bind k = r := by
 obtain ⟨t, h1, h2⟩ := iter_for Inv post h hend h0 hf
 rw [h1]
 exact hk t h2
theorem iter_forE {σ τ β : Type} {step : σ → Option (σ ⊕ τ)} {n : Nat} (Inv : Nat → σ → Prop) (post : τ → Prop) {fuel : Nat} {s : σ} {k : τ → Option β} {p : β → Prop}
  (h : ∀ i s, i < n → Inv i s → (∃ s', step s = some (.inl s') ∧ Inv (i + 1) s') ∨ ∃ t, step s = some (.inr t) ∧ post t)
  (hend : ∀ s, Inv n s → ∃ t, step s = some (.inr t) ∧ post t) (h0 : Inv 0 s) (hf : n < fuel) (hk : ∀ t, post t → ∃ r, k t = some r ∧ p r) : ∃ r, (iter fuel step s).bind k = some r ∧ p r := by
 obtain ⟨t, h1, h2⟩ := iter_for Inv post h hend h0 hf
 rw [h1]
 exact hk t h2
theorem iter_forL {σ τ γ : Type} {step : σ → Option (σ ⊕ τ)} {n : Nat} (Inv : Nat → σ → Prop) (post : τ → Prop) {fuel : Nat} {s : σ} {k : τ → Option (γ × Bool)}
  (h : ∀ i s, i < n → Inv i s → (∃ s', step s = some (.inl s') ∧ Inv (i + 1) s') ∨ ∃ t, step s = some (.inr t) ∧ post t)
  (hend : ∀ s, Inv n s → ∃ t, step s = some (.inr t) ∧ post t) (h0 : Inv 0 s) (hf : n < fuel) (hk : ∀ t, post t → ∃ r, k t = some (r, true)) : ∃ r, (iter fuel step s).bind k = some (r, true) := by
 obtain ⟨t, h1, h2⟩ := iter_for Inv post h hend h0 hf
 rw [h1]
 exact hk t h2
theorem iter_map {α τ : Type} {step : List α × Int → Option (List α × Int ⊕ τ)} {n fuel : Nat} (f : Nat → α) {t : τ}
  (h : ∀ i, i < n → step ((List.range i).map f, (i : Int)) = some (.inl ((List.range i).map f ++ [f i], ((i + 1 : Nat) : Int))))
  (hend : step ((List.range n).map f, (n : Int)) = some (.inr t)) (hf : n < fuel) : iter fuel step ([], 0) = some t := by
 obtain ⟨t', h1, h2⟩ := iter_for (step := step) (n := n) (fuel := fuel) (s := ([], 0)) (fun i s => s = ((List.range i).map f, (i : Int))) (fun t' => t' = t)
  (fun i s hi e => by subst e; exact .inl ⟨_, h i hi, by rw [List.range_succ, List.map_append]; rfl⟩) (fun s e => by subst e; exact ⟨t, hend, rfl⟩) rfl hf
 rw [h1, h2]
theorem w64_succ {i n : Nat} (h : i < n) (hn : n ≤ 9223372036854775807) : w64 ((i : Int) + 1) = ((i + 1 : Nat) : Int) := by
 rw [w64_in (by omega)]
 simp
theorem dlt {i n : Nat} (h : i < n) : decide ((i : Int) < (n : Int)) = true := by simp; exact h
theorem dnl (n : Nat) : decide ((n : Int) < (n : Int)) = false := by simp
end Go.Lt
namespace Go.Lt
variable {α : Type} {lo hi : α → Int}
def srtd (lo hi : α → Int) : List α → Bool
 | [] => true
 | x :: l => decide (lo x ≤ hi x) && (match l with | [] => true | y :: _ => decide (hi x < lo y)) && srtd lo hi l
theorem srtd_lo : ∀ {T : List α}, srtd lo hi T = true → ∀ i (h : i < T.length), lo T[i] ≤ hi T[i]
 | [], _, i, h => by simp at h
 | x :: l, hs, i, h => by
  simp only [srtd, Bool.and_eq_true, decide_eq_true_eq] at hs
  cases i with
  | zero => exact hs.1.1
  | succ i => exact srtd_lo hs.2 i (by simpa using h)
theorem srtd_lt : ∀ {T : List α}, srtd lo hi T = true → ∀ i j (h : j < T.length), (hij : i < j) → hi (T[i]'(by omega)) < lo T[j]
 | [], _, i, j, h, _ => by simp at h
 | x :: l, hs, i, j, h, hij => by
  have hs0 := hs
  simp only [srtd, Bool.and_eq_true, decide_eq_true_eq] at hs
  cases j with
  | zero => omega
  | succ j =>
   have hj : j < l.length := by simpa using h
   cases i with
   | succ i => exact srtd_lt hs.2 i j hj (by omega)
   | zero =>
    cases l with
    | nil => simp at hj
    | cons y l' =>
     have h1 : hi x < lo y := by simpa using hs.1.2
     cases j with
     | zero => exact h1
     | succ j =>
      have h2 := srtd_lt hs.2 0 (j + 1) hj (by omega)
      have h3 := srtd_lo hs.2 0 (by simp)
      simp only [List.getElem_cons_zero] at h2 h3
      simp only [List.getElem_cons_zero, List.getElem_cons_succ] at h2 ⊢
      omega
def onn (lo hi : α → Int) (r : Int) (x : α) : Bool := decide (lo x ≤ r) && decide (r ≤ hi x)
theorem onn_iff {r : Int} {x : α} : onn lo hi r x = true ↔ lo x ≤ r ∧ r ≤ hi x := by simp [onn]
theorem onn_uniq {T : List α} (hs : srtd lo hi T = true) {r : Int} {i j : Nat} (hi' : i < T.length) (hj : j < T.length) (h1 : onn lo hi r T[i] = true) (h2 : onn lo hi r T[j] = true) : i = j := by
 rw [onn_iff] at h1 h2
 rcases Nat.lt_trichotomy i j with h | h | h
 ·have := srtd_lt hs i j hj h
  omega
 ·exact h
 ·have := srtd_lt hs j i hi' h
  omega
def fnd (lo hi : α → Int) (T : List α) (r : Int) : Option α := T.find? (onn lo hi r)
theorem fnd_of {T : List α} (hs : srtd lo hi T = true) {r : Int} {x : α} (hx : x ∈ T) (h : onn lo hi r x = true) : fnd lo hi T r = some x := by
 unfold fnd
 obtain ⟨i, hi', rfl⟩ := List.mem_iff_getElem.1 hx
 rw [List.find?_eq_some_iff_getElem]
 refine ⟨h, i, hi', rfl, fun j hj => ?_⟩
 cases hb : onn lo hi r (T[j]'(by omega)) with
 | false => rfl
 | true => exact absurd (onn_uniq hs (by omega) hi' hb h) (by omega)
theorem fnd_none {T : List α} {r : Int} (h : ∀ i (h : i < T.length), onn lo hi r T[i] = false) : fnd lo hi T r = none := by
 unfold fnd
 rw [List.find?_eq_none]
 intro x hx
 obtain ⟨i, hi', rfl⟩ := List.mem_iff_getElem.1 hx
 simp [h i hi']
theorem fnd_mem {T : List α} {r : Int} {x : α} (h : fnd lo hi T r = some x) : x ∈ T ∧ onn lo hi r x = true := ⟨List.mem_of_find?_eq_some h, List.find?_some h⟩
theorem fnd_at {T : List α} (hs : srtd lo hi T = true) {r : Int} {i : Nat} (h1 : ∀ j (h : j < T.length), j < i → hi T[j] < r) (h2 : ∀ j (h : j < T.length), i ≤ j → r ≤ hi T[j]) :
  fnd lo hi T r = if h : i < T.length then (if lo T[i] ≤ r then some T[i] else none) else none := by
 have hno : ∀ j (h : j < T.length), j ≠ i → onn lo hi r T[j] = false := fun j h hne => by
  cases hb : onn lo hi r T[j] with
  | false => rfl
  | true =>
   rw [onn_iff] at hb
   rcases Nat.lt_or_ge j i with hj | hj
   ·have := h1 j h hj
    omega
   ·have h3 := srtd_lt hs i j h (by omega)
    have h4 := h2 i (by omega) (Nat.le_refl _)
    omega
 split
 ·rename_i hi'
  split
  ·rename_i hl
   exact fnd_of hs (List.getElem_mem hi') (onn_iff.2 ⟨hl, h2 i hi' (Nat.le_refl _)⟩)
  ·rename_i hl
   refine fnd_none fun j h => ?_
   by_cases hj : j = i
   ·subst hj
    cases hb : onn lo hi r T[j] with
    | false => rfl
    | true => exact absurd (onn_iff.1 hb).1 hl
   ·exact hno j h hj
 ·rename_i hi'
  exact fnd_none fun j h => hno j h (by omega)
theorem half {a b : Nat} (h : a + b ≤ 4611686018427387904) : w64 ((IntKind.u64.wrap (w64 ((a : Int) + (b : Int)))).fdiv (2 ^ 1)) = (((a + b) / 2 : Nat) : Int) := by
 have e0 : w64 ((a : Int) + (b : Int)) = ((a + b : Nat) : Int) := by rw [w64_in (by omega)]; simp
 have h1 : IntKind.u64.wrap ((a + b : Nat) : Int) = ((a + b : Nat) : Int) := by
  have : ((a + b : Nat) : Int) % 18446744073709551616 = ((a + b : Nat) : Int) := Int.emod_eq_of_lt (by omega) (by omega)
  simpa [IntKind.wrap, IntKind.bits, IntKind.signed] using this
 have e2 : (((a + b : Nat) : Int)).fdiv (2 ^ 1) = (((a + b) / 2 : Nat) : Int) := by
  rw [Int.fdiv_eq_ediv_of_nonneg _ (by decide)]
  omega
 rw [e0, h1, e2, w64_in (by omega)]
theorem search_eq {T : List α} (hs : srtd lo hi T = true) (hl : T.length ≤ 1000000) (r : Int) {step : Int × Int → Option (Int × Int ⊕ Int)}
  (h1 : ∀ a b : Nat, (hab : a < b) → (hb : b ≤ T.length) → step ((a : Int), (b : Int)) = some (.inl (if r ≤ hi (T[(a + b) / 2]'(by omega)) then ((a : Int), (((a + b) / 2 : Nat) : Int)) else (((((a + b) / 2 + 1 : Nat) : Int)), (b : Int)))))
  (h2 : ∀ a : Nat, step ((a : Int), (a : Int)) = some (.inr (a : Int))) :
  ∃ i : Nat, iter (((T.length : Int) - 0).toNat + 1) step (0, (T.length : Int)) = some (i : Int) ∧ i ≤ T.length ∧ (∀ j (h : j < T.length), j < i → hi T[j] < r) ∧ (∀ j (h : j < T.length), i ≤ j → r ≤ hi T[j]) := by
 have hmono : ∀ j k (h : k < T.length), (hjk : j ≤ k) → hi (T[j]'(by omega)) ≤ hi T[k] := fun j k h hjk => by
  rcases Nat.lt_or_ge j k with hlt | hge
  ·have e1 := srtd_lt hs j k h hlt
   have e2 := srtd_lo hs k h
   omega
  ·obtain rfl : j = k := by omega
   exact Int.le_refl _
 obtain ⟨t, e1, i, e2, e3, e4, e5⟩ := iter_inv (step := step) (fun q => ∃ a b : Nat, q = ((a : Int), (b : Int)) ∧ a ≤ b ∧ b ≤ T.length ∧ (∀ j (h : j < T.length), j < a → hi T[j] < r) ∧ (∀ j (h : j < T.length), b ≤ j → r ≤ hi T[j]))
  (fun q => (q.2 - q.1).toNat) (fun t => ∃ i : Nat, t = (i : Int) ∧ i ≤ T.length ∧ (∀ j (h : j < T.length), j < i → hi T[j] < r) ∧ (∀ j (h : j < T.length), i ≤ j → r ≤ hi T[j]))
  (by
   rintro q ⟨a, b, rfl, hab, hb, c1, c2⟩
   rcases Nat.lt_or_ge a b with hlt | hge
   ·left
    rw [h1 a b hlt hb]
    refine ⟨_, rfl, ?_⟩
    by_cases hr : r ≤ hi (T[(a + b) / 2]'(by omega))
    ·rw [if_pos hr]
     exact ⟨⟨a, (a + b) / 2, rfl, by omega, by omega, c1, fun j h hj => Int.le_trans hr (hmono _ _ h hj)⟩, by simp only; omega⟩
    ·rw [if_neg hr]
     refine ⟨⟨(a + b) / 2 + 1, b, rfl, by omega, hb, fun j h hj => ?_, c2⟩, by simp only; omega⟩
     have := hmono j ((a + b) / 2) (by omega) (by omega)
     omega
   ·right
    obtain rfl : a = b := by omega
    exact ⟨_, h2 a, a, rfl, hb, c1, c2⟩)
  (((T.length : Int) - 0).toNat + 1) (0, (T.length : Int)) ⟨0, T.length, rfl, Nat.zero_le _, Nat.le_refl _, fun j h hj => by omega, fun j h hj => by omega⟩ (by simp only; omega)
 subst e2
 exact ⟨i, e1, e3, e4, e5⟩
def lk (T : List (Int × Int × Int)) (r : Int) : Option Int := (fnd (fun x => x.1) (fun x => x.2.1) T r).map (fun x => x.2.2)
end Go.Lt
namespace Go.Proofs.YthokmpbbkpjhbaaGreatDoor
open Go Go.Lt
set_option maxRecDepth 100000
def gT : List (Int × Int × Int) := match f_gcb_table with | some t => t | none => []
def pT : List (Int × Int) := match f_pict_table with | some t => t | none => []
def cT : List (Int × Int × Int) := match f_conj_table with | some t => t | none => []
def eT : List (Int × Int × Int) := match f_east_table with | some t => t | none => []
theorem gT_eq : f_gcb_table = some gT := rfl
theorem pT_eq : f_pict_table = some pT := rfl
theorem cT_eq : f_conj_table = some cT := rfl
theorem eT_eq : f_east_table = some eT := rfl
theorem gT_s : srtd (fun x => x.1) (fun x => x.2.1) gT = true := by kernel_rfl
theorem pT_s : srtd (fun x => x.1) (fun x => x.2) pT = true := by kernel_rfl
theorem cT_s : srtd (fun x => x.1) (fun x => x.2.1) cT = true := by kernel_rfl
theorem eT_s : srtd (fun x => x.1) (fun x => x.2.1) eT = true := by kernel_rfl
theorem gT_l : gT.length ≤ 1000000 := by
 have : Nat.ble gT.length 1000000 = true := by kernel_rfl
 exact Nat.le_of_ble_eq_true this
theorem pT_l : pT.length ≤ 1000000 := by
 have : Nat.ble pT.length 1000000 = true := by kernel_rfl
 exact Nat.le_of_ble_eq_true this
theorem cT_l : cT.length ≤ 1000000 := by
 have : Nat.ble cT.length 1000000 = true := by kernel_rfl
 exact Nat.le_of_ble_eq_true this
theorem eT_l : eT.length ≤ 1000000 := by
 have : Nat.ble eT.length 1000000 = true := by kernel_rfl
 exact Nat.le_of_ble_eq_true this
def hcl (r : Int) : Int :=
 if (4352 ≤ r ∧ r ≤ 4447) ∨ (43360 ≤ r ∧ r ≤ 43388) then 9
 else if (4448 ≤ r ∧ r ≤ 4519) ∨ (55216 ≤ r ∧ r ≤ 55238) then 10
 else if (4520 ≤ r ∧ r ≤ 4607) ∨ (55243 ≤ r ∧ r ≤ 55291) then 11
 else if r < 44032 ∨ 55203 < r then 0
 else if (r - 44032) % 28 = 0 then 12 else 13
def r32 (r : Int) : Prop := -2147483648 ≤ r ∧ r ≤ 2147483647
theorem r32.w {r : Int} (h : r32 r) : w64 r = r := by unfold r32 at h; exact w64_in (by omega)
theorem ite_b {α : Type} {b : Bool} {p : Prop} [Decidable p] (h : b = true ↔ p) (x y : α) : (if b = true then x else y) = if p then x else y := by
 by_cases hp : p
 ·rw [if_pos hp, if_pos (h.2 hp)]
 ·rw [if_neg hp, if_neg (fun e => hp (h.1 e))]
theorem some_ite {α : Type} {p : Prop} [Decidable p] (x y : α) : (if p then some x else some y) = some (if p then x else y) := by split <;> rfl
theorem hangul_class (r : Int) (h : r32 r) : f_hangul_Class r = some (hcl r) := by
 unfold r32 at h
 unfold f_hangul_Class f_hangul_Syllable f_hangul_in hcl
 simp only [andE_some, bsm, orE_some]
 have hw : 44032 ≤ r → r ≤ 55203 → (w32 (r - 44032)).tmod 28 = (r - 44032) % 28 := fun h1 h2 => by
  rw [w32_in (by omega), Int.tmod_eq_emod_of_nonneg (by omega)]
 rw [ite_b (p := (4352 ≤ r ∧ r ≤ 4447) ∨ (43360 ≤ r ∧ r ≤ 43388)) (by simp), ite_b (p := (4448 ≤ r ∧ r ≤ 4519) ∨ (55216 ≤ r ∧ r ≤ 55238)) (by simp), ite_b (p := (4520 ≤ r ∧ r ≤ 4607) ∨ (55243 ≤ r ∧ r ≤ 55291)) (by simp)]
 rw [ite_b (p := r < 44032 ∨ 55203 < r) (by simp)]
 by_cases hs : r < 44032 ∨ 55203 < r
 ·simp only [if_pos hs, some_ite]
 ·simp only [if_neg hs]
  rw [hw (by omega) (by omega)]
  rw [ite_b (p := (r - 44032) % 28 = 0) (by simp)]
  simp only [some_ite]
def pic (r : Int) : Bool := (fnd (fun x : Int × Int => x.1) (fun x => x.2) pT r).isSome
def pr (r : Int) : G_api_Prop := ⟨(lk gT r).getD (hcl r), pic r, (lk cT r).getD 0, (lk eT r).getD 0⟩
theorem mid_lt {a b n : Nat} (h : a < b) (hb : b ≤ n) : (a + b) / 2 < n := by omega
theorem gcb_of (r : Int) (h : r32 r) : f_gcb_Of r = some ((lk gT r).getD (hcl r)) := by
 have hw := h.w
 have hlen := gT_l
 unfold f_gcb_Of
 rw [gT_eq]
 simp only [bsm]
 obtain ⟨i, e1, e2, e3, e4⟩ := search_eq gT_s gT_l r (step := fun s_7 =>
  if (decide (s_7.1 < s_7.2)) = true then
  (f_gcb_Of_1 (w64 ((IntKind.u64.wrap (w64 (s_7.1 + s_7.2))).fdiv (2 ^ 1))) gT r).bind fun x_22 =>
  if (!x_22) = true then
  some (.inl ((w64 ((w64 ((IntKind.u64.wrap (w64 (s_7.1 + s_7.2))).fdiv (2 ^ 1))) + 1)), s_7.2))
  else
  some (.inl (s_7.1, (w64 ((IntKind.u64.wrap (w64 (s_7.1 + s_7.2))).fdiv (2 ^ 1)))))
  else
  some (.inr (s_7.1))) (fun a b hab hb => by
   simp only
   rw [if_pos (by simp; omega), half (by omega)]
   unfold f_gcb_Of_1
   rw [idx_at (mid_lt hab hb), hw]
   simp only [bsm]
   by_cases hr : r ≤ (gT[(a + b) / 2]'(mid_lt hab hb)).2.1
   ·rw [if_neg (by simpa using hr), if_pos hr]
   ·rw [if_pos (by simpa using hr), if_neg hr, w64_in (by omega)]
    rfl) (fun a => by simp only; rw [if_neg (by simp)])
 unfold f_sort_Search__gcb_Of_1
 rw [e1]
 simp only [bsm, hw]
 have hf := fnd_at gT_s e3 e4
 unfold lk
 rw [hf]
 by_cases hi : i < gT.length
 ·rw [dif_pos hi, idx_at hi]
  simp only [bsm, andE_some]
  by_cases hlo : gT[i].1 ≤ r
  ·rw [if_pos (by simp; exact ⟨hi, hlo⟩), if_pos hlo]
   rfl
  ·rw [if_neg (by simp; omega), if_neg hlo, hangul_class r h]
   rfl
 ·rw [dif_neg hi, show decide ((i : Int) < (gT.length : Int)) = false by simp; omega, andE_false]
  simp only [bsm]
  rw [if_neg (by decide), hangul_class r h]
  rfl
theorem conj_of (r : Int) (h : r32 r) : f_conj_Of r = some ((lk cT r).getD 0) := by
 have hw := h.w
 have hlen := cT_l
 unfold f_conj_Of
 rw [cT_eq]
 simp only [bsm]
 obtain ⟨i, e1, e2, e3, e4⟩ := search_eq cT_s cT_l r (step := fun s_7 =>
  if (decide (s_7.1 < s_7.2)) = true then
  (f_conj_Of_1 (w64 ((IntKind.u64.wrap (w64 (s_7.1 + s_7.2))).fdiv (2 ^ 1))) cT r).bind fun x_22 =>
  if (!x_22) = true then
  some (.inl ((w64 ((w64 ((IntKind.u64.wrap (w64 (s_7.1 + s_7.2))).fdiv (2 ^ 1))) + 1)), s_7.2))
  else
  some (.inl (s_7.1, (w64 ((IntKind.u64.wrap (w64 (s_7.1 + s_7.2))).fdiv (2 ^ 1)))))
  else
  some (.inr (s_7.1))) (fun a b hab hb => by
   simp only
   rw [if_pos (by simp; omega), half (by omega)]
   unfold f_conj_Of_1
   rw [idx_at (mid_lt hab hb), hw]
   simp only [bsm]
   by_cases hr : r ≤ (cT[(a + b) / 2]'(mid_lt hab hb)).2.1
   ·rw [if_neg (by simpa using hr), if_pos hr]
   ·rw [if_pos (by simpa using hr), if_neg hr, w64_in (by omega)]
    rfl) (fun a => by simp only; rw [if_neg (by simp)])
 unfold f_sort_Search__conj_Of_1
 rw [e1]
 simp only [bsm, hw]
 have hf := fnd_at cT_s e3 e4
 unfold lk
 rw [hf]
 by_cases hi : i < cT.length
 ·rw [dif_pos hi, idx_at hi]
  simp only [bsm, orE_some]
  by_cases hlo : cT[i].1 ≤ r
  ·rw [if_neg (by simp; omega), if_pos hlo]
   rfl
  ·rw [if_pos (by simp; omega), if_neg hlo]
   rfl
 ·rw [dif_neg hi, show ((i : Int) == (cT.length : Int)) = true by simp; omega, orE_true]
  simp only [bsm]
  rw [if_pos trivial]
  rfl
theorem east_of (r : Int) (h : r32 r) : f_east_Of r = some ((lk eT r).getD 0) := by
 have hw := h.w
 have hlen := eT_l
 unfold f_east_Of
 rw [eT_eq]
 simp only [bsm]
 obtain ⟨i, e1, e2, e3, e4⟩ := search_eq eT_s eT_l r (step := fun s_7 =>
  if (decide (s_7.1 < s_7.2)) = true then
  (f_east_Of_1 (w64 ((IntKind.u64.wrap (w64 (s_7.1 + s_7.2))).fdiv (2 ^ 1))) eT r).bind fun x_22 =>
  if (!x_22) = true then
  some (.inl ((w64 ((w64 ((IntKind.u64.wrap (w64 (s_7.1 + s_7.2))).fdiv (2 ^ 1))) + 1)), s_7.2))
  else
  some (.inl (s_7.1, (w64 ((IntKind.u64.wrap (w64 (s_7.1 + s_7.2))).fdiv (2 ^ 1)))))
  else
  some (.inr (s_7.1))) (fun a b hab hb => by
   simp only
   rw [if_pos (by simp; omega), half (by omega)]
   unfold f_east_Of_1
   rw [idx_at (mid_lt hab hb), hw]
   simp only [bsm]
   by_cases hr : r ≤ (eT[(a + b) / 2]'(mid_lt hab hb)).2.1
   ·rw [if_neg (by simpa using hr), if_pos hr]
   ·rw [if_pos (by simpa using hr), if_neg hr, w64_in (by omega)]
    rfl) (fun a => by simp only; rw [if_neg (by simp)])
 unfold f_sort_Search__east_Of_1
 rw [e1]
 simp only [bsm, hw]
 have hf := fnd_at eT_s e3 e4
 unfold lk
 rw [hf]
 by_cases hi : i < eT.length
 ·rw [dif_pos hi, idx_at hi]
  simp only [bsm, orE_some]
  by_cases hlo : eT[i].1 ≤ r
  ·rw [if_neg (by simp; omega), if_pos hlo]
   rfl
  ·rw [if_pos (by simp; omega), if_neg hlo]
   rfl
 ·rw [dif_neg hi, show ((i : Int) == (eT.length : Int)) = true by simp; omega, orE_true]
  simp only [bsm]
  rw [if_pos trivial]
  rfl
theorem pict_is (r : Int) (h : r32 r) : f_pict_Is r = some (pic r) := by
 have hlen := pT_l
 unfold f_pict_Is
 rw [pT_eq]
 simp only [bsm]
 obtain ⟨i, e1, e2, e3, e4⟩ := search_eq pT_s pT_l r (step := fun s_7 =>
  if (decide (s_7.1 < s_7.2)) = true then
  (f_pict_Is_1 (w64 ((IntKind.u64.wrap (w64 (s_7.1 + s_7.2))).fdiv (2 ^ 1))) pT r).bind fun x_22 =>
  if (!x_22) = true then
  some (.inl ((w64 ((w64 ((IntKind.u64.wrap (w64 (s_7.1 + s_7.2))).fdiv (2 ^ 1))) + 1)), s_7.2))
  else
  some (.inl (s_7.1, (w64 ((IntKind.u64.wrap (w64 (s_7.1 + s_7.2))).fdiv (2 ^ 1)))))
  else
  some (.inr (s_7.1))) (fun a b hab hb => by
   simp only
   rw [if_pos (by simp; omega), half (by omega)]
   unfold f_pict_Is_1
   rw [idx_at (mid_lt hab hb)]
   simp only [bsm]
   by_cases hr : r ≤ (pT[(a + b) / 2]'(mid_lt hab hb)).2
   ·rw [if_neg (by simpa using hr), if_pos hr]
   ·rw [if_pos (by simpa using hr), if_neg hr, w64_in (by omega)]
    rfl) (fun a => by simp only; rw [if_neg (by simp)])
 unfold f_sort_Search__pict_Is_1
 rw [e1]
 simp only [bsm]
 have hf := fnd_at pT_s e3 e4
 unfold pic
 rw [hf]
 by_cases hi : i < pT.length
 ·rw [dif_pos hi, idx_at hi]
  simp only [bsm, andE_some]
  by_cases hlo : pT[i].1 ≤ r
  ·rw [if_pos hlo]
   simp [hi, hlo]
  ·rw [if_neg hlo]
   simp [hlo]
 ·rw [dif_neg hi, show decide ((i : Int) < (pT.length : Int)) = false by simp; omega, andE_false]
  rfl
theorem ucd_of (r : Int) (h : r32 r) : f_ucd_Of r = some (pr r) := by
 unfold f_ucd_Of
 rw [gcb_of r h, pict_is r h, conj_of r h, east_of r h]
 rfl
end Go.Proofs.YthokmpbbkpjhbaaGreatDoor
namespace Go.Proofs.YthokmpbbkpjhbaaGreatDoor
open Go Go.Lt
def bl : G_api_Cell := ⟨0, []⟩
def vld (r : Int) : Bool := decide (0 ≤ r) && decide (r ≤ 1114111) && (decide (r < 55296) || decide (r > 57343))
theorem ref_valid (r : Int) : f_linotyperef01_Valid r = some (vld r) := by
 simp only [f_linotyperef01_Valid, andE_some, orE_some, bsm, vld, ge_iff_le]
theorem sca_valid (r : Int) : f_scalar_Valid r = some (vld r) := by
 simp only [f_scalar_Valid, andE_some, orE_some, bsm, vld, Option.some.injEq]
 rw [Bool.eq_iff_iff]
 simp
 omega
def rgt (c : G_api_Cell) : Bool :=
 if c.Kind = 0 ∨ c.Kind = 3 then c.Text.isEmpty else (decide (c.Kind = 1) || decide (c.Kind = 2)) && decide (1 ≤ c.Text.length) && decide (c.Text.length ≤ 16) && c.Text.all vld
theorem all_take_succ {α : Type} (p : α → Bool) (l : List α) (i : Nat) (h : i < l.length) : (l.take (i + 1)).all p = ((l.take i).all p && p l[i]) := by
 rw [List.take_succ_eq_append_getElem h, List.all_append]
 simp
theorem all_false_of {α : Type} {p : α → Bool} {l : List α} {i : Nat} (h : i < l.length) (hp : p l[i] = false) : l.all p = false := by
 rw [List.all_eq_false]
 exact ⟨_, List.getElem_mem h, by simp [hp]⟩
theorem isEmpty_len {α : Type} (l : List α) : ((l.length : Int) == 0) = l.isEmpty := by
 cases l <;> simp <;> omega
theorem ref_right (c : G_api_Cell) : f_linotyperef23_Right c = some (rgt c) := by
 unfold f_linotyperef23_Right rgt
 simp only [orE_some, andE_some, bsm]
 by_cases h1 : c.Kind = 0 ∨ c.Kind = 3
 ·have e : (c.Kind == 0 || c.Kind == 3) = true := by rcases h1 with h | h <;> simp [h]
  rw [if_pos e, if_pos h1, isEmpty_len]
 ·have e : (c.Kind == 0 || c.Kind == 3) = false := by simp; omega
  rw [if_neg (by rw [e]; simp), if_neg h1]
  by_cases h2 : ((c.Kind = 1 ∨ c.Kind = 2) ∧ 1 ≤ c.Text.length ∧ c.Text.length ≤ 16)
  ·have e2 : (((c.Kind != 1 && c.Kind != 2) || decide ((c.Text.length : Int) < 1)) || decide ((c.Text.length : Int) > 16)) = false := by
    simp; omega
   rw [if_neg (by rw [e2]; simp)]
   obtain ⟨t, h3, h4⟩ := iter_count (τ := Bool ⊕ Unit) (n := c.Text.length) (by omega) (fun t => match t with | .inl b => b = c.Text.all vld | .inr _ => c.Text.all vld = true) (fun i => (c.Text.take i).all vld = true) (by simp)
    (step := fun s_44 =>
     if (decide (s_44 < (c.Text.length : Int))) = true then
     (idx c.Text s_44).bind fun x_54 =>
     (f_linotyperef01_Valid x_54).bind fun x_56 =>
     if (!x_56) = true then
     some (.inr (.inl false))
     else
     some (.inl ((w64 (s_44 + 1))))
     else
     some (.inr (.inr ())))
    (fun i hi hI => by
     have e3 : w64 ((i : Int) + 1) = ((i + 1 : Nat) : Int) := by rw [w64_in (by omega)]; simp
     simp only [Int.ofNat_lt, hi, decide_true, if_true, idx_at hi, bsm, ref_valid, e3]
     cases hv : vld c.Text[i] with
     | true => exact .inl ⟨by simp, by rw [all_take_succ _ _ _ hi, hI, hv]; rfl⟩
     | false => exact .inr ⟨.inl false, by simp, (all_false_of hi hv).symm⟩)
    (fun hI => ⟨.inr (), by simp, by simpa using hI⟩)
   rw [h3]
   simp only [bsm]
   have e4 : (decide (c.Kind = 1) || decide (c.Kind = 2)) = true := by simp; exact h2.1
   rw [e4, decide_eq_true h2.2.1, decide_eq_true h2.2.2]
   cases t with
   | inl b => simp only at h4; simp [h4]
   | inr u => simp only at h4; simp [h4]
  ·have e2 : (((c.Kind != 1 && c.Kind != 2) || decide ((c.Text.length : Int) < 1)) || decide ((c.Text.length : Int) > 16)) = true := by
    simp; omega
   rw [if_pos e2]
   congr 1
   symm
   simp only [Bool.and_eq_false_iff, Bool.or_eq_false_iff, decide_eq_false_iff_not]
   omega
theorem cell_right1 (r : Int) : f_cell_Right_1 r = some (!vld r) := by simp [f_cell_Right_1, sca_valid]
theorem cell_contains (l : List Int) (hl : l.length ≤ 9223372036854775807) : f_slices_ContainsFunc_rune_rune__cell_Right_1 l = some (!l.all vld) := by
 unfold f_slices_ContainsFunc_rune_rune__cell_Right_1 f_slices_IndexFunc_rune_rune__cell_Right_1
 obtain ⟨t, h3, h4⟩ := iter_count (τ := Int ⊕ Unit) (n := l.length) (by omega) (fun t => match t with | .inl i => 0 ≤ i ∧ l.all vld = false | .inr _ => l.all vld = true) (fun i => (l.take i).all vld = true) (by simp)
  (step := fun s_7 =>
   if (decide (s_7 < (l.length : Int))) = true then
   (idx l s_7).bind fun x_16 =>
   (f_cell_Right_1 x_16).bind fun x_18 =>
   if x_18 = true then
   some (.inr (.inl s_7))
   else
   some (.inl ((w64 (s_7 + 1))))
   else
   some (.inr (.inr ())))
  (fun i hi hI => by
   have e3 : w64 ((i : Int) + 1) = ((i + 1 : Nat) : Int) := by rw [w64_in (by omega)]; simp
   simp only [Int.ofNat_lt, hi, decide_true, if_true, idx_at hi, bsm, cell_right1, e3]
   cases hv : vld l[i] with
   | true => exact .inl ⟨by simp, by rw [all_take_succ _ _ _ hi, hI, hv]; rfl⟩
   | false => exact .inr ⟨.inl i, by simp, by omega, all_false_of hi hv⟩)
  (fun hI => ⟨.inr (), by simp, by simpa using hI⟩)
 rw [h3]
 simp only [bsm]
 cases t with
 | inl b => simp only at h4; simp [h4.1, h4.2]
 | inr u => simp only at h4; simp [h4]
theorem cell_right (c : G_api_Cell) : f_cell_Right c = some (rgt c) := by
 unfold f_cell_Right rgt
 by_cases h1 : c.Kind = 0 ∨ c.Kind = 3
 ·rw [if_pos h1]
  rcases h1 with h | h <;> simp [h, isEmpty_len]
 ·have n0 : (c.Kind == 0) = false := by simp; omega
  have n3 : (c.Kind == 3) = false := by simp; omega
  rw [if_neg h1]
  simp only [n0, n3, Bool.false_eq_true, if_false, bsm]
  by_cases h2 : c.Kind = 1 ∨ c.Kind = 2
  ·have e : (if (c.Kind == 1) = true then some (c.Kind == 1) else some (c.Kind == 2) : Option Bool) = some true := by rcases h2 with h | h <;> simp [h]
   have e2 : (decide (c.Kind = 1) || decide (c.Kind = 2)) = true := by simp; exact h2
   rw [e, e2]
   simp only [bsm, if_true, andE_some, Bool.true_and]
   by_cases h3 : 1 ≤ c.Text.length ∧ c.Text.length ≤ 16
   ·rw [cell_contains _ (by omega)]
    have e4 : (decide ((c.Text.length : Int) > 0) && decide ((c.Text.length : Int) ≤ 16)) = true := by simp; omega
    have e5 : (decide (1 ≤ c.Text.length) && decide (c.Text.length ≤ 16)) = true := by simp; exact h3
    rw [e4, e5]
    simp [andE_true]
   ·have e4 : (decide ((c.Text.length : Int) > 0) && decide ((c.Text.length : Int) ≤ 16)) = false := by simp; omega
    have e5 : (decide (1 ≤ c.Text.length) && decide (c.Text.length ≤ 16)) = false := by simp; omega
    rw [e4, e5]
    simp [andE_false]
  ·have n1 : (c.Kind == 1) = false := by simp; omega
   have n2 : (c.Kind == 2) = false := by simp; omega
   have e2 : (decide (c.Kind = 1) || decide (c.Kind = 2)) = false := by simp; omega
   rw [e2]
   simp [n1, n2]
def kd (l : List G_api_Cell) (i : Nat) : Int := match l[i]? with | some c => c.Kind | none => 0
theorem kd_at {l : List G_api_Cell} {i : Nat} (h : i < l.length) : kd l i = l[i].Kind := by simp [kd, List.getElem?_eq_getElem h]
theorem kd_out {l : List G_api_Cell} {i : Nat} (h : l.length ≤ i) : kd l i = 0 := by simp [kd, List.getElem?_eq_none h]
def Snd (l : List G_api_Cell) : Prop := ∀ i (h : i < l.length), rgt l[i] = true ∧ (l[i].Kind = 2 → kd l (i + 1) = 3) ∧ (l[i].Kind = 3 → 0 < i ∧ kd l (i - 1) = 2)
theorem ref_kind (l : List G_api_Cell) (i : Int) : f_linotyperef23_Kind l i = some (if 0 ≤ i then kd l i.toNat else 0) := by
 unfold f_linotyperef23_Kind
 simp only [orE_some, bsm]
 by_cases h0 : i < 0
 ·rw [if_pos (by simp [h0]), if_neg (by omega)]
 ·by_cases h1 : i < l.length
  ·obtain ⟨k, rfl⟩ := Int.eq_ofNat_of_zero_le (show 0 ≤ i by omega)
   have hk : k < l.length := by omega
   rw [if_neg (by simp; omega), if_pos (by omega), idx_at hk]
   simp [kd_at hk]
  ·rw [if_pos (by simp; omega), if_pos (by omega), kd_out (by omega)]
theorem ref_sound (l : List G_api_Cell) (hl : l.length ≤ 9223372036854775807) : ∃ b, f_linotyperef23_Sound l = some b ∧ (b = true ↔ Snd l) := by
 unfold f_linotyperef23_Sound
 obtain ⟨t, h3, h4⟩ := iter_count (τ := Bool ⊕ Unit) (n := l.length) (by omega) (fun t => match t with | .inl b => b = false ∧ ¬ Snd l | .inr _ => Snd l)
  (fun i => ∀ j (h : j < l.length), j < i → rgt l[j] = true ∧ (l[j].Kind = 2 → kd l (j + 1) = 3) ∧ (l[j].Kind = 3 → 0 < j ∧ kd l (j - 1) = 2)) (fun j _ h => by omega)
  (step := fun s_5 =>
   if (decide (s_5 < (l.length : Int))) = true then
   (idx l s_5).bind fun x_13 =>
   (f_linotyperef23_Right x_13).bind fun x_15 =>
   (orE (!x_15) ((idx l s_5).bind fun x_21 =>
   (andE (x_21.Kind == 2) ((f_linotyperef23_Kind l (w64 (s_5 + 1))).bind fun x_30 =>
   some (x_30 != 3))).bind fun d_25 =>
   some d_25)).bind fun d_17 =>
   (orE d_17 ((idx l s_5).bind fun x_36 =>
   (andE (x_36.Kind == 3) ((f_linotyperef23_Kind l (w64 (s_5 - 1))).bind fun x_45 =>
   some (x_45 != 2))).bind fun d_40 =>
   some d_40)).bind fun d_32 =>
   if d_32 = true then
   some (.inr (.inl false))
   else
   some (.inl ((w64 (s_5 + 1))))
   else
   some (.inr (.inr ())))
  (fun i hi hI => by
   have e3 : w64 ((i : Int) + 1) = ((i + 1 : Nat) : Int) := by rw [w64_in (by omega)]; simp
   have e4 : w64 ((i : Int) - 1) = (i : Int) - 1 := w64_in (by omega)
   simp only [Int.ofNat_lt, hi, decide_true, if_true, idx_at hi, bsm, ref_right, ref_kind, e3, e4, andE_some, orE_some]
   by_cases hk : rgt l[i] = true ∧ (l[i].Kind = 2 → kd l (i + 1) = 3) ∧ (l[i].Kind = 3 → 0 < i ∧ kd l (i - 1) = 2)
   ·refine .inl ⟨?_, fun j h hj => ?_⟩
    ·rw [if_neg]
     obtain ⟨h1, h2, h5⟩ := hk
     simp only [h1, Bool.not_true, Bool.false_or, Bool.or_eq_true, Bool.and_eq_true, beq_iff_eq, bne_iff_ne, ne_eq, not_or, not_and, Decidable.not_not]
     refine ⟨fun h => ?_, fun h => ?_⟩
     ·rw [if_pos (by omega)]; simpa using h2 h
     ·obtain ⟨h6, h7⟩ := h5 h
      rw [if_pos (by omega), show ((i : Int) - 1).toNat = i - 1 by omega]; exact h7
    ·by_cases hji : j = i
     ·subst hji; exact hk
     ·exact hI j h (by omega)
   ·refine .inr ⟨.inl false, ?_, rfl, fun hs => hk (hs i hi)⟩
    rw [if_pos]
    cases h1 : rgt l[i] with
    | false => simp
    | true =>
     simp only [h1, true_and] at hk
     have hk : (l[i].Kind = 2 ∧ ¬ kd l (i + 1) = 3) ∨ (l[i].Kind = 3 ∧ ¬ (0 < i ∧ kd l (i - 1) = 2)) := by
      by_cases hA : l[i].Kind = 2 → kd l (i + 1) = 3
      ·exact .inr (Classical.not_imp.1 fun hB => hk ⟨hA, hB⟩)
      ·exact .inl (Classical.not_imp.1 hA)
     simp only [Bool.not_true, Bool.false_or, Bool.or_eq_true, Bool.and_eq_true, beq_iff_eq, bne_iff_ne, ne_eq]
     rcases hk with ⟨h, h2⟩ | ⟨h, h2⟩
     ·refine .inl ⟨h, ?_⟩
      rw [if_pos (by omega)]; simpa using h2
     ·refine .inr ⟨h, ?_⟩
      by_cases h0 : i = 0
      ·subst h0; simp
      ·rw [if_pos (by omega), show ((i : Int) - 1).toNat = i - 1 by omega]
       exact fun h3 => h2 ⟨by omega, h3⟩)
  (fun hI => ⟨.inr (), by simp, fun j h => hI j h h⟩)
 rw [h3]
 simp only [bsm]
 cases t with
 | inl b => exact ⟨b, rfl, by simp only at h4; rw [h4.1]; simp [h4.2]⟩
 | inr u => exact ⟨true, rfl, by simpa using h4⟩
theorem cell_sound (l : List G_api_Cell) (hl : l.length ≤ 9223372036854775807) : ∃ b, f_cell_Sound l = some b ∧ (b = true ↔ Snd l) := by
 unfold f_cell_Sound
 let ld : Nat → Bool := fun i => match i with | 0 => false | k + 1 => decide (kd l k = 2)
 have key : ∀ i (h : i < l.length), ((rgt l[i] = true ∧ (ld i = decide (l[i].Kind = 3))) ↔ rgt l[i] = true ∧ (l[i].Kind = 3 → 0 < i ∧ kd l (i - 1) = 2) ∧ (0 < i → kd l (i - 1) = 2 → l[i].Kind = 3)) := fun i h => by
  cases i with
  | zero => simp [ld]
  | succ k => simp only [ld, Nat.add_sub_cancel, decide_eq_decide]; constructor <;> (rintro ⟨a, b⟩; exact ⟨a, by omega⟩)
 have snd : Snd l ↔ (∀ i (h : i < l.length), rgt l[i] = true ∧ ld i = decide (l[i].Kind = 3)) ∧ ld l.length = false := by
  constructor
  ·intro hs
   refine ⟨fun i h => (key i h).2 ⟨(hs i h).1, (hs i h).2.2, fun h0 h2 => ?_⟩, ?_⟩
   ·have := (hs (i - 1) (by omega)).2.1 (by rw [← kd_at]; exact h2)
    rw [show i - 1 + 1 = i by omega, kd_at h] at this
    exact this
   ·cases hn : l.length with
    | zero => rfl
    | succ k =>
     simp only [ld, decide_eq_false_iff_not]
     intro h2
     have := (hs k (by omega)).2.1 (by rw [← kd_at]; exact h2)
     rw [kd_out (by omega)] at this
     cases this
  ·rintro ⟨h1, h2⟩ i h
   have hk := (key i h).1 (h1 i h)
   refine ⟨hk.1, fun h3 => ?_, hk.2.1⟩
   by_cases hn : i + 1 < l.length
   ·have := ((key (i + 1) hn).1 (h1 (i + 1) hn)).2.2 (by omega) (by rw [Nat.add_sub_cancel, kd_at h]; exact h3)
    rw [kd_at hn]; exact this
   ·exfalso
    have e : l.length = i + 1 := by omega
    rw [e] at h2
    simp only [ld, decide_eq_false_iff_not] at h2
    rw [kd_at h] at h2
    exact h2 h3
 obtain ⟨t, h3, h4⟩ := iter_inv (τ := Bool ⊕ Bool) (fun s : Bool × Int => ∃ i : Nat, s = (ld i, (i : Int)) ∧ i ≤ l.length ∧ ∀ j (h : j < l.length), j < i → rgt l[j] = true ∧ ld j = decide (l[j].Kind = 3)) (fun s => l.length - s.2.toNat)
  (fun t => match t with | .inl b => b = false ∧ ¬ Snd l | .inr b => (b = false ↔ Snd l))
  (step := fun s_9 =>
   if (decide (s_9.2 < (l.length : Int))) = true then
   (idx l s_9.2).bind fun x_12 =>
   (f_cell_Right x_12).bind fun x_18 =>
   (orE (!x_18) (some (!(s_9.1 == (x_12.Kind == 3))))).bind fun d_20 =>
   if d_20 = true then
   some (.inr (.inl false))
   else
   some (.inl (x_12.Kind == 2, (w64 (s_9.2 + 1))))
   else
   some (.inr (.inr (s_9.1))))
  (by
   rintro s ⟨i, rfl, hi, hI⟩
   rcases Nat.lt_or_ge i l.length with hlt | hge
   ·have e3 : w64 ((i : Int) + 1) = ((i + 1 : Nat) : Int) := by rw [w64_in (by omega)]; simp
    simp only [Int.ofNat_lt, hlt, decide_true, if_true, idx_at hlt, bsm, cell_right, orE_some, e3]
    by_cases hk : rgt l[i] = true ∧ ld i = decide (l[i].Kind = 3)
    ·refine .inl ⟨_, ?_, ⟨i + 1, rfl, hlt, fun j h hj => ?_⟩, ?_⟩
     ·rw [if_neg]
      ·simp only [ld, kd_at hlt]; rfl
      ·rw [hk.1, hk.2]; simp; rfl
     ·by_cases hji : j = i
      ·subst hji; exact hk
      ·exact hI j h (by omega)
     ·simp; omega
    ·refine .inr ⟨.inl false, ?_, rfl, fun hs => hk ((snd.1 hs).1 i hlt)⟩
     rw [if_pos]
     cases h1 : rgt l[i] with
     | false => simp
     | true =>
      simp only [h1, true_and] at hk
      simp only [Bool.not_true, Bool.false_or, Bool.not_eq_true', beq_eq_false_iff_ne, ne_eq]
      exact hk
   ·obtain rfl : i = l.length := by omega
    refine .inr ⟨.inr (ld l.length), by simp, ?_⟩
    simp only
    rw [snd]
    exact ⟨fun h => ⟨fun j hj => hI j hj hj, h⟩, fun h => h.2⟩) (((l.length : Int) - 0).toNat + 1) (false, 0) ⟨0, rfl, Nat.zero_le _, fun j _ h => by omega⟩ (by simp)
 rw [h3]
 simp only [bsm]
 cases t with
 | inl b => exact ⟨b, rfl, by simp only at h4; rw [h4.1]; simp [h4.2]⟩
 | inr b => exact ⟨!b, rfl, by simp only at h4; rw [← h4]; cases b <;> simp⟩
def Sht (l : List G_api_Cell) : Prop := ∀ i (h : i < l.length), l[i].Text.length ≤ 1000000
theorem Snd.sht {l : List G_api_Cell} (h : Snd l) : Sht l := fun i hi => by
 have := (h i hi).1
 unfold rgt at this
 split at this
 ·have e : l[i].Text = [] := by simpa using this
  rw [e]; simp
 ·simp at this; omega
def fixv (r : Int) : Int := if vld r = true then r else 65533
def fx (t : List Int) : List Int := (t.take 16).map fixv
def strip (wide : Int) (t : List Int) : List G_api_Cell :=
 if t = [] then (if wide > 1 then [bl, bl] else [bl]) else if wide > 1 then [⟨2, t⟩, ⟨3, []⟩] else [⟨1, t⟩]
theorem vld_fixv (r : Int) : vld (fixv r) = true := by
 unfold fixv
 split
 ·assumption
 ·rfl
theorem fx_vld (t : List Int) : ∀ x ∈ fx t, vld x = true := fun x hx => by
 obtain ⟨y, _, rfl⟩ := List.mem_map.1 hx
 exact vld_fixv y
theorem fx_len (t : List Int) : (fx t).length ≤ 16 := by simp [fx]; omega
theorem fx_len' (t : List Int) : (fx t).length = min 16 t.length := by simp [fx]
theorem rgt_of {k : Int} (hk : k = 1 ∨ k = 2) {t : List Int} (h1 : 1 ≤ t.length) (h2 : t.length ≤ 16) (hv : ∀ x ∈ t, vld x = true) : rgt ⟨k, t⟩ = true := by
 unfold rgt
 rw [if_neg (by simp; omega)]
 simp only [Bool.and_eq_true, Bool.or_eq_true, decide_eq_true_eq, List.all_eq_true]
 exact ⟨⟨⟨hk, h1⟩, h2⟩, hv⟩
theorem snd_strip (wide : Int) {t : List Int} (hv : ∀ x ∈ t, vld x = true) (h2 : t.length ≤ 16) : Snd (strip wide t) := by
 unfold strip
 have hb : rgt bl = true := rfl
 have h3 : rgt ⟨3, []⟩ = true := rfl
 by_cases ht : t = []
 ·rw [if_pos ht]
  split
  ·intro i hi
   match i, hi with
   | 0, _ => exact ⟨hb, fun h => by simp [bl] at h, fun h => by simp [bl] at h⟩
   | 1, _ => exact ⟨hb, fun h => by simp [bl] at h, fun h => by simp [bl] at h⟩
  ·intro i hi
   match i, hi with
   | 0, _ => exact ⟨hb, fun h => by simp [bl] at h, fun h => by simp [bl] at h⟩
 ·rw [if_neg ht]
  have h1 : 1 ≤ t.length := by
   rcases Nat.eq_zero_or_pos t.length with h | h
   ·exact absurd (List.eq_nil_of_length_eq_zero h) ht
   ·exact h
  split
  ·intro i hi
   match i, hi with
   | 0, _ => exact ⟨rgt_of (.inr rfl) h1 h2 hv, fun _ => rfl, fun h => by simp at h⟩
   | 1, _ => exact ⟨h3, fun h => by simp at h, fun _ => ⟨by omega, rfl⟩⟩
  ·intro i hi
   match i, hi with
   | 0, _ => exact ⟨rgt_of (.inl rfl) h1 h2 hv, fun h => by simp at h, fun h => by simp at h⟩
theorem ref_of (wide : Int) (t : List Int) (ht : t.length ≤ 9223372036854775807) : f_linotyperef23_Of wide t = some (strip wide (fx t)) := by
 unfold f_linotyperef23_Of
 rw [iter_eq (s := (([] : List Int), (0 : Int))) (t := fx t) (fun st : List Int × Int => ∃ i : Nat, st = ((fx t).take i, (i : Int)) ∧ i ≤ (fx t).length) (fun st => (fx t).length - st.2.toNat) ?_ ⟨0, rfl, Nat.zero_le _⟩ (by simp [fx]; omega)]
 ·simp only [bsm, andE_some]
  unfold strip
  by_cases h0 : fx t = []
  ·rw [if_pos h0, h0]
   by_cases hw : wide > 1
   ·simp [hw, bl]
   ·simp [hw, bl]
  ·have h1 : (((fx t).length : Int) == 0) = false := by
    rw [beq_eq_false_iff_ne]
    intro e
    exact h0 (List.eq_nil_of_length_eq_zero (by omega))
   rw [if_neg h0]
   simp only [h1, Bool.false_and, Bool.false_eq_true, if_false]
   by_cases hw : wide > 1
   ·simp [hw]
   ·simp [hw]
 ·rintro st ⟨i, rfl, hi⟩
  have hl := fx_len' t
  rcases Nat.lt_or_ge i (fx t).length with hlt | hge
  ·refine .inl ⟨_, ?_, ⟨i + 1, rfl, hlt⟩, by simp; omega⟩
   have e3 : w64 ((i : Int) + 1) = ((i + 1 : Nat) : Int) := by rw [w64_in (by omega)]; simp
   have hit : i < t.length := by omega
   have d1 : (decide ((i : Int) < (t.length : Int)) && decide ((i : Int) < 16)) = true := by simp; omega
   have hx : (fx t)[i] = fixv t[i] := by simp [fx]
   simp only [andE_some, bsm, d1, if_true, idx_at hit, ref_valid, e3]
   have happ : ∀ x, x = fixv t[i] → app ((fx t).take i) [x] = some ((fx t).take (i + 1)) := fun x hxx => by
    rw [app_eq (by rw [List.length_take]; simp; omega), List.take_succ_eq_append_getElem hlt, hx, hxx]
   cases hv : vld t[i] with
   | true =>
    simp only [if_true]
    rw [happ _ (by simp [fixv, hv])]
    rfl
   | false =>
    simp only [Bool.false_eq_true, if_false]
    rw [happ _ (by simp [fixv, hv])]
    rfl
  ·obtain rfl : i = (fx t).length := by omega
   have d1 : (decide (((fx t).length : Int) < (t.length : Int)) && decide (((fx t).length : Int) < 16)) = false := by simp; omega
   exact .inr (by simp only [andE_some, bsm, d1, Bool.false_eq_true, if_false]; simp)
end Go.Proofs.YthokmpbbkpjhbaaGreatDoor
namespace Go.Proofs.YthokmpbbkpjhbaaGreatDoor
open Go Go.Lt
def Sto.sr (s : Sto) (k : Nat) (x : G_row_Row) : Sto := { s with row_Row := s.row_Row.set k x }
theorem get_lt {α : Type} {l : List α} {k : Nat} {x : α} (h : l[k]? = some x) : k < l.length := (List.getElem?_eq_some_iff.1 h).1
theorem set_row {s : Sto} {k : Nat} {x : G_row_Row} (h : k < s.row_Row.length) : s.set_row_Row k x = some (s.sr k x) := by
 unfold Sto.set_row_Row
 rw [if_pos h]
 rfl
theorem sr_len (s : Sto) (k : Nat) (x : G_row_Row) : (s.sr k x).row_Row.length = s.row_Row.length := by simp [Sto.sr]
theorem sr_get {s : Sto} {k : Nat} {x : G_row_Row} (h : k < s.row_Row.length) : (s.sr k x).row_Row[k]? = some x := by simp [Sto.sr, h]
theorem sr_ne {s : Sto} {k j : Nat} {x : G_row_Row} (h : k ≠ j) : (s.sr k x).row_Row[j]? = s.row_Row[j]? := by simp [Sto.sr, h]
theorem sr_sr (s : Sto) (k : Nat) (x y : G_row_Row) : (s.sr k x).sr k y = s.sr k y := by simp [Sto.sr]
theorem sr_id {s : Sto} {k : Nat} {x : G_row_Row} (h : s.row_Row[k]? = some x) : s.sr k x = s := by
 have : s.row_Row.set k x = s.row_Row := by
  apply List.ext_getElem?
  intro j
  by_cases hj : k = j
  ·subst hj; rw [List.getElem?_set_self (get_lt h), h]
  ·rw [List.getElem?_set_ne hj]
 simp [Sto.sr, this]
theorem add_get (s : Sto) (x : G_row_Row) : (s.add_row_Row x).row_Row[s.row_Row.length]? = some x := by simp [Sto.add_row_Row]
theorem add_sr (s : Sto) (x y : G_row_Row) : (s.add_row_Row x).sr s.row_Row.length y = s.add_row_Row y := by simp [Sto.sr, Sto.add_row_Row]
variable {s : Sto} {k : Nat} {l : List G_api_Cell} {w : Bool}
theorem row_wide (h : s.row_Row[k]? = some ⟨l, w⟩) : f_row_Row_Wide s (some k) = some (l.length : Int) := by simp [f_row_Row_Wide, h]
theorem row_own {c : G_api_Cell} (h : c.Text.length ≤ 1000000) : f_row_own c = some c := by
 simp only [f_row_own, f_slices_Clone, app_eq (show ([] : List Int).length + c.Text.length ≤ 1099511627776 by simp; omega), bsm, List.nil_append]
theorem row_wrap (h : s.row_Row[k]? = some ⟨l, w⟩) : f_row_Row_Wrap s (some k) = some w := by simp [f_row_Row_Wrap, h, andE]
theorem row_goon (h : s.row_Row[k]? = some ⟨l, w⟩) (on : Bool) : f_row_Row_GoOn s (some k) on = some (s.sr k ⟨l, on⟩) := by
 simp [f_row_Row_GoOn, h, set_row (get_lt h)]
theorem row_cells (h : s.row_Row[k]? = some ⟨l, w⟩) (hl : l.length ≤ 1000000) (hs : Sht l) : f_row_Row_Cells s (some k) = some l := by
 unfold f_row_Row_Cells
 rw [row_wide h]
 simp only [bsm]
 rw [iter_eq (s := (([] : List G_api_Cell), (0 : Int))) (t := l) (fun st : List G_api_Cell × Int => ∃ i : Nat, st = (l.take i, (i : Int)) ∧ i ≤ l.length) (fun st => l.length - st.2.toNat) ?_ ⟨0, rfl, Nat.zero_le _⟩ (by simp)]
 ·rfl
 ·rintro st ⟨i, rfl, hi⟩
  rcases Nat.lt_or_ge i l.length with hlt | hge
  ·refine .inl ⟨(l.take (i + 1), ((i + 1 : Nat) : Int)), ?_, ⟨i + 1, rfl, hlt⟩, by simp; omega⟩
   have e3 : w64 ((i : Int) + 1) = ((i + 1 : Nat) : Int) := by rw [w64_in (by omega)]; simp
   simp only [Int.ofNat_lt, hlt, decide_true, if_true, bsm, h, idx_at hlt, row_own (hs i hlt), e3]
   rw [app_eq (by rw [List.length_take]; simp; omega), List.take_succ_eq_append_getElem hlt]
   rfl
  ·obtain rfl : i = l.length := by omega
   exact .inr (by simp)
theorem row_cell (h : s.row_Row[k]? = some ⟨l, w⟩) {i : Nat} (hi : i < l.length) (hs : Sht l) : f_row_Row_Cell s (some k) i = some (l[i], true) := by
 unfold f_row_Row_Cell
 rw [row_wide h]
 simp only [bsm, orE_some]
 rw [if_neg (by simp; omega)]
 simp only [h, bsm, idx_at hi, row_own (hs i hi)]
theorem row_kind (h : s.row_Row[k]? = some ⟨l, w⟩) (i : Nat) : f_row_Row_kind s (some k) i = some (kd l i) := by
 unfold f_row_Row_kind
 rw [row_wide h]
 simp only [bsm, orE_some]
 by_cases hi : i < l.length
 ·rw [if_neg (by simp; omega)]
  simp only [h, bsm, idx_at hi, kd_at hi]
 ·rw [if_pos (by simp; omega), kd_out (by omega)]
theorem row_put (h : s.row_Row[k]? = some ⟨l, w⟩) {i : Nat} (hi : i < l.length) (hl : l.length ≤ 1000000) {c : G_api_Cell} (hc : c.Text.length ≤ 1000000) :
  f_row_Row_put s (some k) i c = some (s.sr k ⟨l.set i c, w && !decide (i + 1 = l.length)⟩) := by
 unfold f_row_Row_put
 have e : w64 (((l.set i c).length : Int) - 1) = (l.length : Int) - 1 := by rw [List.length_set, w64_in (by omega)]
 simp only [h, bsm, row_own hc, idx_at hi, sets_nat hi, set_row (get_lt h), e]
 by_cases hn : i + 1 = l.length
 ·rw [if_pos (by simp; omega), set_row (by rw [sr_len]; exact get_lt h), sr_sr]
  simp [hn]
 ·rw [if_neg (by simp; omega)]
  simp [hn]
def sd (n : Int) : Nat := (max 1 (min n 1024)).toNat
theorem sd_in (n : Int) : 1 ≤ sd n ∧ sd n ≤ 1024 := by unfold sd; omega
theorem sd_id {n : Nat} (h : 1 ≤ n) (h2 : n ≤ 1024) : sd n = n := by unfold sd; omega
theorem blanks (n : Int) : f_cell_Blanks n = some (List.replicate (max 0 (min n 1024)).toNat bl) := by
 unfold f_cell_Blanks
 simp only [imax_eq, imin_eq]
 rw [rep_eq _ (by omega)]
 rfl
theorem row_new (n : Int) : f_row_New s n = some (s.add_row_Row ⟨List.replicate (sd n) bl, false⟩, some s.row_Row.length) := by
 unfold f_row_New
 rw [blanks]
 simp only [bsm, imax_eq]
 rw [show (max 0 (min (max 1 n) 1024)).toNat = sd n by unfold sd; omega]
theorem snd_bl (n : Nat) : Snd (List.replicate n bl) := fun i h => by
 rw [List.getElem_replicate]
 exact ⟨rfl, fun h => by simp [bl] at h, fun h => by simp [bl] at h⟩
theorem row_of (hl : 1 ≤ l.length) (hl2 : l.length ≤ 1024) (hs : Snd l) : f_row_Of s l = some (s.add_row_Row ⟨l, false⟩, some s.row_Row.length, Er.nil) := by
 unfold f_row_Of
 obtain ⟨b, h1, h2⟩ := cell_sound l (by omega)
 have hb : b = true := h2.2 hs
 subst hb
 simp only [orE_some, bsm, h1]
 rw [if_neg (by rw [Bool.or_eq_true, beq_iff_eq, decide_eq_true_eq]; omega), if_neg (by simp), row_new, sd_id hl hl2]
 simp only [bsm]
 rw [iter_eq (s := ((0 : Int), s.add_row_Row ⟨List.replicate l.length bl, false⟩)) (t := s.add_row_Row ⟨l, false⟩) (fun st : Int × Sto => ∃ i : Nat, st = ((i : Int), s.add_row_Row ⟨l.take i ++ List.replicate (l.length - i) bl, false⟩) ∧ i ≤ l.length) (fun st => l.length - st.1.toNat) ?_ ⟨0, by simp, Nat.zero_le _⟩ (by simp)]
 ·rfl
 ·rintro st ⟨i, rfl, hi⟩
  rcases Nat.lt_or_ge i l.length with hlt | hge
  ·refine .inl ⟨_, ?_, ⟨i + 1, rfl, hlt⟩, by simp; omega⟩
   have e3 : w64 ((i : Int) + 1) = ((i + 1 : Nat) : Int) := by rw [w64_in (by omega)]; simp
   have hlen : (l.take i ++ List.replicate (l.length - i) bl).length = l.length := by simp; omega
   simp only [Int.ofNat_lt, hlt, decide_true, if_true, idx_at hlt, bsm, add_get, row_own (hs.sht i hlt), e3]
   rw [idx_at (show i < (l.take i ++ List.replicate (l.length - i) bl).length by omega)]
   simp only [bsm]
   rw [sets_nat (show i < (l.take i ++ List.replicate (l.length - i) bl).length by omega)]
   simp only [bsm]
   rw [set_row (get_lt (add_get _ _)), add_sr]
   simp only [bsm]
   have : (l.take i ++ List.replicate (l.length - i) bl).set i l[i] = l.take (i + 1) ++ List.replicate (l.length - (i + 1)) bl := by
    rw [List.set_append_right _ _ (by rw [List.length_take]; omega), List.length_take, Nat.min_eq_left hi, Nat.sub_self, show l.length - i = (l.length - (i + 1)) + 1 by omega, List.replicate_succ, List.set_cons_zero, List.take_succ_eq_append_getElem hlt, List.append_assoc]
    rfl
   rw [this]
  ·obtain rfl : i = l.length := by omega
   exact .inr (by simp)
def tch (l : List G_api_Cell) (a n j : Nat) : Bool := (decide (a ≤ j) && decide (j < a + n)) || (decide (kd l j = 2) && decide (a ≤ j + 1) && decide (j + 1 < a + n)) || (decide (kd l j = 3) && decide (a + 1 ≤ j) && decide (j < a + n + 1))
def pc (l : List G_api_Cell) (a : Nat) (p : List G_api_Cell) (j : Nat) : G_api_Cell :=
 if a ≤ j ∧ j < a + p.length then p.getD (j - a) bl else if tch l a p.length j = true then bl else l.getD j bl
def pl (l : List G_api_Cell) (a : Nat) (p : List G_api_Cell) : List G_api_Cell := (List.range l.length).map (pc l a p)
def pw (l : List G_api_Cell) (w : Bool) (a n : Nat) : Bool := w && !(decide (0 < l.length) && tch l a n (l.length - 1))
theorem pl_len (l : List G_api_Cell) (a : Nat) (p : List G_api_Cell) : (pl l a p).length = l.length := by simp [pl]
theorem pl_get {a : Nat} {p : List G_api_Cell} {j : Nat} (h : j < l.length) : (pl l a p)[j]? = some (pc l a p j) := by simp [pl, h]
theorem pl_at {a : Nat} {p : List G_api_Cell} {j : Nat} (h : j < (pl l a p).length) : (pl l a p)[j] = pc l a p j := by simp [pl]
theorem kd_pl {a : Nat} {p : List G_api_Cell} {j : Nat} (h : j < l.length) : kd (pl l a p) j = (pc l a p j).Kind := by simp [kd, pl_get h]
theorem Snd.two (h : Snd l) {j : Nat} (hj : kd l j = 2) : kd l (j + 1) = 3 := by
 have hlt : j < l.length := by
  rcases Nat.lt_or_ge j l.length with h | h
  ·exact h
  ·rw [kd_out h] at hj; cases hj
 exact (h j hlt).2.1 (by rw [← kd_at hlt]; exact hj)
theorem Snd.three (h : Snd l) {j : Nat} (hj : kd l j = 3) : 0 < j ∧ kd l (j - 1) = 2 := by
 have hlt : j < l.length := by
  rcases Nat.lt_or_ge j l.length with h | h
  ·exact h
  ·rw [kd_out h] at hj; cases hj
 exact (h j hlt).2.2 (by rw [← kd_at hlt]; exact hj)
theorem kd_lt {j : Nat} (h : kd l j ≠ 0) : j < l.length := by
 rcases Nat.lt_or_ge j l.length with h' | h'
 ·exact h'
 ·exact absurd (kd_out h') h
theorem Snd.rg (h : Snd l) {j : Nat} (hj : j < l.length) : rgt (l.getD j bl) = true := by
 rw [List.getD_eq_getElem?_getD, List.getElem?_eq_getElem hj]
 exact (h j hj).1
theorem kd_getD (l : List G_api_Cell) (j : Nat) : (l.getD j bl).Kind = kd l j := by
 rw [List.getD_eq_getElem?_getD, kd]
 cases l[j]? <;> rfl
theorem Snd.paint {a : Nat} {p : List G_api_Cell} (h : Snd l) (hp : Snd p) (ha : a + p.length ≤ l.length) : Snd (pl l a p) := fun j hj => by
 rw [pl_len] at hj
 rw [pl_at]
 have kpc : ∀ i, i < l.length → (pc l a p i).Kind = if a ≤ i ∧ i < a + p.length then kd p (i - a) else if tch l a p.length i = true then 0 else kd l i := fun i hi => by
  unfold pc
  split
  ·exact kd_getD _ _
  ·split
   ·rfl
   ·exact kd_getD _ _
 have kall : ∀ i, kd (pl l a p) i = if i < l.length then (if a ≤ i ∧ i < a + p.length then kd p (i - a) else if tch l a p.length i = true then 0 else kd l i) else 0 := fun i => by
  by_cases hi : i < l.length
  ·rw [if_pos hi, kd_pl hi, kpc i hi]
  ·rw [if_neg hi, kd_out (by rw [pl_len]; omega)]
 refine ⟨?_, fun h2 => ?_, fun h3 => ?_⟩
 ·unfold pc
  split
  ·exact hp.rg (by omega)
  ·split
   ·rfl
   ·exact h.rg hj
 ·rw [kpc j hj] at h2
  rw [kall]
  by_cases hin : a ≤ j ∧ j < a + p.length
  ·rw [if_pos hin] at h2
   have h4 := hp.two h2
   have h5 : j - a + 1 < p.length := kd_lt (by rw [h4]; decide)
   rw [if_pos (by omega), if_pos (by omega), show j + 1 - a = j - a + 1 by omega]; exact h4
  ·rw [if_neg hin] at h2
   split at h2
   ·cases h2
   ·rename_i ht
    have h4 := h.two h2
    have h5 : j + 1 < l.length := kd_lt (by rw [h4]; decide)
    simp only [tch, h2, decide_true, Bool.true_and, Bool.or_eq_true, Bool.and_eq_true, decide_eq_true_eq, not_or, not_and] at ht
    have h6 : ¬ (a ≤ j + 1 ∧ j + 1 < a + p.length) := by omega
    have h7 : ¬ tch l a p.length (j + 1) = true := by
     simp only [tch, h4, Bool.or_eq_true, Bool.and_eq_true, decide_eq_true_eq]
     omega
    rw [if_pos h5, if_neg h6, if_neg h7]; exact h4
 ·rw [kpc j hj] at h3
  by_cases hin : a ≤ j ∧ j < a + p.length
  ·rw [if_pos hin] at h3
   have h4 := hp.three h3
   refine ⟨by omega, ?_⟩
   rw [kall, if_pos (by omega), if_pos (by omega), show j - 1 - a = j - a - 1 by omega]; exact h4.2
  ·rw [if_neg hin] at h3
   split at h3
   ·cases h3
   ·rename_i ht
    have h4 := h.three h3
    refine ⟨h4.1, ?_⟩
    simp only [tch, h3, decide_true, Bool.true_and, Bool.or_eq_true, Bool.and_eq_true, decide_eq_true_eq, not_or, not_and] at ht
    have h6 : ¬ (a ≤ j - 1 ∧ j - 1 < a + p.length) := by omega
    have h7 : ¬ tch l a p.length (j - 1) = true := by
     simp only [tch, h4.2, Bool.or_eq_true, Bool.and_eq_true, decide_eq_true_eq]
     omega
    rw [kall, if_pos (by omega), if_neg h6, if_neg h7]; exact h4.2
theorem ref_paint (l : List G_api_Cell) (w : Bool) (a : Nat) (p : List G_api_Cell) (hl : l.length ≤ 1000000) (ha : a ≤ 1000000) (hp : p.length ≤ 1000000) : f_linotyperef24_Paint l w a p = some (pl l a p, pw l w a p.length) := by
 unfold f_linotyperef24_Paint
 rw [iter_eq (s := (w, ([] : List G_api_Cell), (0 : Int))) (t := (pw l w a p.length, pl l a p)) (fun st : Bool × List G_api_Cell × Int => ∃ i : Nat, st = (if i < l.length then w else pw l w a p.length, (pl l a p).take i, (i : Int)) ∧ i ≤ l.length) (fun st => l.length - st.2.2.toNat) ?_ ⟨0, ?_, Nat.zero_le _⟩ (by simp)]
 ·rfl
 ·rintro st ⟨i, rfl, hi⟩
  rcases Nat.lt_or_ge i l.length with hlt | hge
  ·refine .inl ⟨_, ?_, ⟨i + 1, rfl, hlt⟩, by simp; omega⟩
   have e3 : w64 ((i : Int) + 1) = ((i + 1 : Nat) : Int) := by rw [w64_in (by omega)]; simp
   have e4 : w64 ((a : Int) + (p.length : Int)) = ((a + p.length : Nat) : Int) := by rw [w64_in (by omega)]; simp
   have e5 : w64 ((i : Int) - (a : Int)) = (i : Int) - a := w64_in (by omega)
   have e6 : w64 ((i : Int) - 1) = (i : Int) - 1 := w64_in (by omega)
   have hd : decide ((i : Int) < (l.length : Int)) = true := by simp; exact hlt
   simp only [hd, if_true, if_pos hlt, idx_at hlt, bsm, andE_some, orE_some, e3, e4, e5, e6]
   have happ : ∀ x : G_api_Cell, x = pc l a p i → app ((pl l a p).take i) [x] = some ((pl l a p).take (i + 1)) := fun x hx => by
    subst hx
    rw [app_eq (by rw [List.length_take, pl_len]; simp; omega), List.take_succ_eq_append_getElem (show i < (pl l a p).length by rw [pl_len]; exact hlt), pl_at]
   by_cases hin : a ≤ i ∧ i < a + p.length
   ·have c1 : (decide ((i : Int) ≥ a) && decide ((i : Int) < ((a + p.length : Nat) : Int))) = true := by simp; omega
    obtain ⟨q, hq⟩ : ∃ q : Nat, q = i - a := ⟨_, rfl⟩
    have c2 : (i : Int) - a = (q : Int) := by omega
    have hqp : q < p.length := by omega
    simp only [c1, if_true, c2, idx_at hqp, bsm, Bool.not_true, andE_false, Bool.false_and, Bool.false_eq_true, if_false, Bool.true_or, Bool.and_true]
    rw [happ ⟨p[q].Kind, p[q].Text⟩ (by rw [pc, if_pos hin, ← hq, List.getD_eq_getElem?_getD, List.getElem?_eq_getElem hqp]; rfl)]
    by_cases hn : i + 1 = l.length
    ·have c3 : (((i + 1 : Nat) : Int) == (l.length : Int)) = true := by simp; omega
     have c4 : pw l w a p.length = false := by
      have : tch l a p.length (l.length - 1) = true := by simp [tch]; omega
      simp [pw, this]; omega
     simp only [c3, if_true, bsm, c4]
     rw [if_neg (by omega)]
    ·have c3 : (((i + 1 : Nat) : Int) == (l.length : Int)) = false := by simp; omega
     simp only [c3, Bool.false_eq_true, if_false, bsm]
     rw [if_pos (show i + 1 < l.length by omega)]
   ·have c1 : (decide ((i : Int) ≥ a) && decide ((i : Int) < ((a + p.length : Nat) : Int))) = false := by simp; omega
    have c5 : ((l[i].Kind == 2 && decide (((i + 1 : Nat) : Int) ≥ a) && decide (((i + 1 : Nat) : Int) < ((a + p.length : Nat) : Int))) || (l[i].Kind == 3 && decide ((i : Int) - 1 ≥ a) && decide ((i : Int) - 1 < ((a + p.length : Nat) : Int)))) = tch l a p.length i := by
     rw [Bool.eq_iff_iff]
     simp only [tch, kd_at hlt, Bool.or_eq_true, Bool.and_eq_true, beq_iff_eq, decide_eq_true_eq]
     omega
    simp only [c1, Bool.false_eq_true, if_false, bsm, Bool.not_false, andE_true, Bool.false_or, Bool.true_and]
    simp only [c5]
    cases ht : tch l a p.length i with
    | true =>
     simp only [if_true, bsm, Bool.and_true]
     rw [happ ⟨0, []⟩ (by rw [pc, if_neg hin, if_pos ht]; rfl)]
     by_cases hn : i + 1 = l.length
     ·have c3 : (((i + 1 : Nat) : Int) == (l.length : Int)) = true := by simp; omega
      have c4 : pw l w a p.length = false := by
       have e : l.length - 1 = i := by omega
       simp [pw, e, ht]; omega
      simp only [c3, if_true, bsm, c4]
      rw [if_neg (by omega)]
     ·have c3 : (((i + 1 : Nat) : Int) == (l.length : Int)) = false := by simp; omega
      simp only [c3, Bool.false_eq_true, if_false, bsm]
      rw [if_pos (show i + 1 < l.length by omega)]
    | false =>
     simp only [Bool.false_eq_true, if_false, bsm, Bool.and_false]
     rw [happ ⟨l[i].Kind, l[i].Text⟩ (by rw [pc, if_neg hin, if_neg (by simp [ht]), List.getD_eq_getElem?_getD, List.getElem?_eq_getElem hlt]; rfl)]
     by_cases hn : i + 1 = l.length
     ·have c4 : pw l w a p.length = w := by
       have e : l.length - 1 = i := by omega
       simp [pw, e, ht]
      simp only [bsm, c4, ite_self]
     ·simp only [bsm]
      rw [if_pos (show i + 1 < l.length by omega)]
  ·obtain rfl : i = l.length := by omega
   refine .inr ?_
   have e : (pl l a p).take l.length = pl l a p := List.take_of_length_le (by rw [pl_len]; exact Nat.le_refl _)
   simp [e]
 ·by_cases h0 : 0 < l.length
  ·simp [h0]
  ·simp [h0, pw]
end Go.Proofs.YthokmpbbkpjhbaaGreatDoor
namespace Go.Proofs.YthokmpbbkpjhbaaGreatDoor
open Go Go.Lt
variable {s : Sto} {k : Nat} {l p : List G_api_Cell} {w : Bool}
theorem kd_set_ne {i j : Nat} (h : i ≠ j) (c : G_api_Cell) : kd (l.set i c) j = kd l j := by simp [kd, List.getElem?_set_ne h]
theorem row_paint (h : s.row_Row[k]? = some ⟨l, w⟩) (hs : Snd l) (hl : l.length ≤ 1024) (hp : Snd p) {a : Nat} (hn : 1 ≤ p.length) (ha : a + p.length ≤ l.length) :
  f_row_Row_Paint s (some k) a p = some (s.sr k ⟨pl l a p, pw l w a p.length⟩, Er.nil) := by
 unfold f_row_Row_Paint
 have hk := get_lt h
 obtain ⟨b, hb1, hb2⟩ := cell_sound p (by omega)
 have hb : b = true := hb2.2 hp
 subst hb
 have e1 : w64 ((l.length : Int) - (a : Int)) = (l.length : Int) - a := w64_in (by omega)
 have e2 : w64 ((a : Int) + (p.length : Int)) = ((a + p.length : Nat) : Int) := by rw [w64_in (by omega)]; simp
 have o1 : decide ((a : Int) < 0) = false := by simp
 have o2 : decide ((a : Int) > (l.length : Int)) = false := by simp; omega
 have o3 : decide ((p.length : Int) > (l.length : Int) - (a : Int)) = false := by simp; omega
 have o4 : ((p.length : Int) == 0) = false := by rw [beq_eq_false_iff_ne]; omega
 simp only [Option.isNone_some, orE_false, o1, o2, o3, o4, h, e1, e2, hb1, bsm, Bool.false_eq_true, if_false, Bool.not_true, row_kind h a]
 obtain ⟨l1, hl1⟩ : ∃ l1, l1 = if kd l a = 3 then l.set (a - 1) bl else l := ⟨_, rfl⟩
 have hlen1 : l1.length = l.length := by rw [hl1]; split <;> simp
 have left : (if (kd l a == 3) = true then (f_row_Row_put s (some k) (w64 ((a : Int) - 1)) (⟨0, ([] : List Int)⟩ : G_api_Cell)).bind fun x_60 => (some (x_60) : Option (Sto)) else (some (s) : Option (Sto))) = some (s.sr k ⟨l1, w⟩) := by
  by_cases h3 : kd l a = 3
  ·have h4 := hs.three h3
   have h5 : a < l.length := kd_lt (by rw [h3]; decide)
   rw [if_pos (by simpa using h3), show w64 ((a : Int) - 1) = ((a - 1 : Nat) : Int) by rw [w64_in (by omega)]; omega, row_put h (by omega) (by omega) (by simp)]
   rw [hl1, if_pos h3]
   have : decide (a - 1 + 1 = l.length) = false := by simp; omega
   simp only [bsm, this, Bool.not_false, Bool.and_true]
   rfl
  ·rw [if_neg (by simpa using h3), hl1, if_neg h3, sr_id h]
 rw [left]
 simp only [bsm]
 obtain ⟨l2, hl2⟩ : ∃ l2, l2 = if kd l (a + p.length) = 3 then l1.set (a + p.length) bl else l1 := ⟨_, rfl⟩
 obtain ⟨w2, hw2⟩ : ∃ w2, w2 = (w && !(decide (kd l (a + p.length) = 3) && decide (a + p.length + 1 = l.length))) := ⟨_, rfl⟩
 have hlen2 : l2.length = l.length := by rw [hl2]; split <;> simp [hlen1]
 have hget1 : (s.sr k ⟨l1, w⟩).row_Row[k]? = some ⟨l1, w⟩ := sr_get hk
 have hkd1 : kd l1 (a + p.length) = kd l (a + p.length) := by
  rw [hl1]; split
  ·exact kd_set_ne (by omega) _
  ·rfl
 have right : ((f_row_Row_kind (s.sr k ⟨l1, w⟩) (some k) ((a + p.length : Nat) : Int)).bind fun x_71 =>
   if (x_71 == 3) = true then
   (f_row_Row_put (s.sr k ⟨l1, w⟩) (some k) ((a + p.length : Nat) : Int) (⟨0, ([] : List Int)⟩ : G_api_Cell)).bind fun x_77 =>
   (some (x_77) : Option (Sto))
   else
   (some (s.sr k ⟨l1, w⟩) : Option (Sto))) = some (s.sr k ⟨l2, w2⟩) := by
  rw [row_kind hget1, hkd1]
  simp only [bsm]
  by_cases h3 : kd l (a + p.length) = 3
  ·have h5 : a + p.length < l.length := kd_lt (by rw [h3]; decide)
   rw [if_pos (by simpa using h3), row_put hget1 (by omega) (by omega) (by simp)]
   simp only [bsm, sr_sr]
   rw [hl2, if_pos h3, hw2, hlen1]
   simp only [h3, decide_true, Bool.true_and]
   rfl
  ·rw [if_neg (by simpa using h3), hl2, if_neg h3, hw2]
   simp [h3]
 rw [right]
 simp only [bsm]
 rw [iter_eq (s := ((0 : Int), s.sr k ⟨l2, w2⟩)) (t := s.sr k ⟨l2.take a ++ p ++ l2.drop (a + p.length), w2 && !decide (a + p.length = l.length)⟩)
  (fun st : Int × Sto => ∃ i : Nat, st = ((i : Int), s.sr k ⟨l2.take a ++ p.take i ++ l2.drop (a + i), w2 && !(decide (0 < i) && decide (a + i = l.length))⟩) ∧ i ≤ p.length) (fun st => p.length - st.1.toNat) ?_ ⟨0, ?_, Nat.zero_le _⟩ (by simp)]
 ·simp only [bsm, Option.some.injEq, Prod.mk.injEq, and_true]
  congr 1
  congr 1
  ·
   apply List.ext_getElem?
   intro j
   rcases Nat.lt_or_ge j l.length with hj | hj
   ·rw [pl_get hj]
    have g1 : ∀ j, j < l.length → j ≠ a + p.length → l1[j]? = some (if kd l a = 3 ∧ j = a - 1 then bl else l.getD j bl) := fun j hj _ => by
     rw [hl1]
     split
     ·rename_i h3
      by_cases hja : j = a - 1
      ·subst hja
       rw [List.getElem?_set_self (by omega), if_pos ⟨h3, rfl⟩]
      ·rw [List.getElem?_set_ne (Ne.symm hja), if_neg (fun e => hja e.2), List.getElem?_eq_getElem hj, List.getD_eq_getElem?_getD, List.getElem?_eq_getElem hj]; rfl
     ·rename_i h3
      rw [if_neg (fun e => h3 e.1), List.getElem?_eq_getElem hj, List.getD_eq_getElem?_getD, List.getElem?_eq_getElem hj]; rfl
    have lw : (l2.take a).length = a := by rw [List.length_take]; omega
    rcases Nat.lt_or_ge j a with hja | hja
    ·rw [List.append_assoc, List.getElem?_append_left (by omega), List.getElem?_take, if_pos hja]
     have e : l2[j]? = l1[j]? := by
      rw [hl2]; split
      ·exact List.getElem?_set_ne (by omega)
      ·rfl
     have hp0 : ¬ (a ≤ j ∧ j < a + p.length) := by omega
     rw [e, g1 j hj (by omega), pc, if_neg hp0]
     congr 1
     by_cases hc : kd l a = 3 ∧ j = a - 1
     ·rw [if_pos hc, if_pos]
      have h4 := hs.three hc.1
      simp only [tch, Bool.or_eq_true, Bool.and_eq_true, decide_eq_true_eq]
      refine .inl (.inr ⟨⟨?_, ?_⟩, ?_⟩)
      ·rw [hc.2]; exact h4.2
      ·omega
      ·omega
     ·rw [if_neg hc, if_neg]
      simp only [tch, Bool.or_eq_true, Bool.and_eq_true, decide_eq_true_eq, not_or, not_and]
      refine ⟨⟨fun h => by omega, fun h2 => ?_⟩, fun h => by omega⟩
      have h3 := hs.two h2.1
      have : j + 1 = a := by omega
      rw [this] at h3
      exact absurd ⟨h3, by omega⟩ hc
    ·rcases Nat.lt_or_ge j (a + p.length) with hjn | hjn
     ·rw [List.append_assoc, List.getElem?_append_right (by omega), List.getElem?_append_left (by omega), lw, pc, if_pos ⟨hja, hjn⟩, List.getD_eq_getElem?_getD, List.getElem?_eq_getElem (by omega)]
      rfl
     ·rw [List.getElem?_append_right (by rw [List.length_append]; omega), List.getElem?_drop, List.length_append, lw, show a + p.length + (j - (a + p.length)) = j by omega]
      rw [pc, if_neg (by omega)]
      by_cases hc : kd l (a + p.length) = 3 ∧ j = a + p.length
      ·rw [hl2, if_pos hc.1, hc.2, List.getElem?_set_self (by omega), if_pos]
       simp only [tch, Bool.or_eq_true, Bool.and_eq_true, decide_eq_true_eq]
       exact .inr ⟨⟨hc.1, by omega⟩, by omega⟩
      ·have e : l2[j]? = some (l.getD j bl) := by
        have e2 : l1[j]? = some (l.getD j bl) := by
         rw [hl1]; split
         ·rw [List.getElem?_set_ne (by omega), List.getD_eq_getElem?_getD, List.getElem?_eq_getElem hj]; rfl
         ·rw [List.getD_eq_getElem?_getD, List.getElem?_eq_getElem hj]; rfl
        rw [hl2]; split
        ·rename_i h3
         rw [List.getElem?_set_ne (fun e => hc ⟨h3, e.symm⟩), e2]
        ·exact e2
       rw [e, if_neg]
       simp only [tch, Bool.or_eq_true, Bool.and_eq_true, decide_eq_true_eq, not_or, not_and]
       refine ⟨⟨fun h => by omega, fun h => by omega⟩, fun h2 => ?_⟩
       intro h4
       have : j = a + p.length := by omega
       exact hc ⟨by rw [← this]; exact h2.1, this⟩
   ·rw [List.getElem?_eq_none (l := pl l a p) (by rw [pl_len]; exact hj), List.getElem?_eq_none (by simp only [List.length_append, List.length_take, List.length_drop]; omega)]
  ·
   rw [hw2, pw, Bool.and_assoc]
   congr 1
   rw [← Bool.not_or]
   congr 1
   have h2 : kd l (l.length - 1) ≠ 2 := fun h2 => by
    have := hs.two h2
    rw [show l.length - 1 + 1 = l.length by omega, kd_out (Nat.le_refl _)] at this
    cases this
   rw [Bool.eq_iff_iff]
   simp only [tch, Bool.or_eq_true, Bool.and_eq_true, decide_eq_true_eq]
   constructor
   ·rintro (⟨h3, h4⟩ | h4)
    ·refine ⟨by omega, .inr ⟨⟨?_, by omega⟩, by omega⟩⟩
     rw [show l.length - 1 = a + p.length by omega]; exact h3
    ·exact ⟨by omega, .inl (.inl ⟨by omega, by omega⟩)⟩
   ·rintro ⟨h0, (⟨h3, h4⟩ | ⟨⟨h3, _⟩, _⟩) | ⟨⟨h3, h4⟩, h5⟩⟩
    ·exact .inr (by omega)
    ·exact absurd h3 h2
    ·by_cases hx : a + p.length = l.length
     ·exact .inr hx
     ·have : l.length - 1 = a + p.length := by omega
      exact .inl ⟨by rw [← this]; exact h3, by omega⟩
 ·rintro st ⟨i, rfl, hi⟩
  rcases Nat.lt_or_ge i p.length with hlt | hge
  ·refine .inl ⟨_, ?_, ⟨i + 1, rfl, hlt⟩, by simp; omega⟩
   have e3 : w64 ((i : Int) + 1) = ((i + 1 : Nat) : Int) := by rw [w64_in (by omega)]; simp
   have e4 : w64 ((a : Int) + (i : Int)) = ((a + i : Nat) : Int) := by rw [w64_in (by omega)]; simp
   have hd : decide ((i : Int) < (p.length : Int)) = true := by simp; exact hlt
   have hli : (l2.take a ++ p.take i ++ l2.drop (a + i)).length = l.length := by
    simp only [List.length_append, List.length_take, List.length_drop]; omega
   simp only [hd, if_true, idx_at hlt, bsm, e3, e4]
   rw [row_put (sr_get hk) (by rw [hli]; omega) (by rw [hli]; omega) (hp.sht i hlt)]
   simp only [bsm, sr_sr, hli]
   have hset : (l2.take a ++ p.take i ++ l2.drop (a + i)).set (a + i) p[i] = l2.take a ++ p.take (i + 1) ++ l2.drop (a + (i + 1)) := by
    have hx : (l2.take a ++ p.take i).length = a + i := by simp only [List.length_append, List.length_take]; omega
    rw [List.set_append_right _ _ (by omega), hx, Nat.sub_self, List.drop_eq_getElem_cons (show a + i < l2.length by omega), List.set_cons_zero, List.take_succ_eq_append_getElem hlt]
    simp only [List.append_assoc, List.cons_append, List.nil_append, Nat.add_assoc]
   rw [hset]
   have hwe : ((w2 && !(decide (0 < i) && decide (a + i = l.length))) && !decide (a + i + 1 = l.length)) = (w2 && !(decide (0 < i + 1) && decide (a + (i + 1) = l.length))) := by
    have : decide (a + i = l.length) = false := by simp; omega
    rw [this]
    simp [Nat.add_assoc]
   rw [hwe]
  ·obtain rfl : i = p.length := by omega
   refine .inr ?_
   have : decide (0 < p.length) = true := by simp; omega
   simp [this]
 ·simp
def cl (n : Int) (m : Nat) : Nat := (max 0 (min n m)).toNat
theorem cl_le (n : Int) (m : Nat) : cl n m ≤ m := by unfold cl; omega
end Go.Proofs.YthokmpbbkpjhbaaGreatDoor
namespace Go.Proofs.YthokmpbbkpjhbaaGreatDoor
open Go Go.Lt
variable {s : Sto} {g k W : Nat} {ks : List Nat} {l p : List G_api_Cell} {w : Bool}
def Sto.sg (s : Sto) (g : Nat) (x : G_grid_Grid) : Sto := { s with grid_Grid := s.grid_Grid.set g x }
theorem set_grid {x : G_grid_Grid} (h : g < s.grid_Grid.length) : s.set_grid_Grid g x = some (s.sg g x) := by
 simp only [Sto.set_grid_Grid, h, if_true]
 rfl
theorem sg_get {x : G_grid_Grid} (h : g < s.grid_Grid.length) : (s.sg g x).grid_Grid[g]? = some x := by simp [Sto.sg, h]
theorem sg_sg (s : Sto) (g : Nat) (x y : G_grid_Grid) : (s.sg g x).sg g y = s.sg g y := by simp [Sto.sg]
theorem sg_id {x : G_grid_Grid} (h : s.grid_Grid[g]? = some x) : s.sg g x = s := by
 obtain ⟨h1, h2⟩ := List.getElem?_eq_some_iff.1 h
 unfold Sto.sg
 rw [← h2, List.set_getElem_self]
def ln (s : Sto) (k : Nat) : G_api_Line := match s.row_Row[k]? with | some r => ⟨r.cells, r.wrap⟩ | none => ⟨[], false⟩
theorem ln_eq {r : G_row_Row} (h : s.row_Row[k]? = some r) : ln s k = ⟨r.cells, r.wrap⟩ := by simp [ln, h]
def Rw (s : Sto) (W k : Nat) : Prop := ∃ r, s.row_Row[k]? = some r ∧ Snd r.cells ∧ r.cells.length = W
structure Gw (s : Sto) (g : Nat) (ks : List Nat) (W : Nat) : Prop where
 g : s.grid_Grid[g]? = some ⟨ks.map some⟩
 r : ∀ k ∈ ks, Rw s W k
 h1 : 1 ≤ ks.length
 h2 : ks.length ≤ 1024
 w1 : 1 ≤ W
 w2 : W ≤ 1024
theorem Gw.at (h : Gw s g ks W) {i : Nat} (hi : i < ks.length) : Rw s W ks[i] := h.r _ (List.getElem_mem hi)
theorem grid_high (h : Gw s g ks W) : f_grid_Grid_High s (some g) = some (ks.length : Int) := by simp [f_grid_Grid_High, h.g]
theorem grid_row (h : Gw s g ks W) {i : Nat} (hi : i < ks.length) : f_grid_Grid_Row s (some g) i = some (some ks[i]) := by
 unfold f_grid_Grid_Row
 rw [grid_high h]
 simp only [bsm, orE_some]
 rw [if_neg (by simp; omega)]
 simp only [bsm, h.g]
 rw [idx_at (by simpa using hi)]
 simp
theorem grid_row_out (h : Gw s g ks W) {i : Int} (hi : i < 0 ∨ (ks.length : Int) ≤ i) : f_grid_Grid_Row s (some g) i = some none := by
 unfold f_grid_Grid_Row
 rw [grid_high h]
 simp only [bsm, orE_some]
 rw [if_pos (by simp; omega)]
theorem wide_of (h : Rw s W k) : f_row_Row_Wide s (some k) = some (W : Int) := by
 obtain ⟨r, h1, _, h3⟩ := h
 rw [row_wide (l := r.cells) (w := r.wrap) h1, h3]
theorem grid_wide (h : Gw s g ks W) : f_grid_Grid_Wide s (some g) = some (W : Int) := by
 unfold f_grid_Grid_Wide
 rw [show (0 : Int) = ((0 : Nat) : Int) from rfl, grid_row h (show 0 < ks.length from h.h1)]
 simp only [bsm]
 rw [wide_of (h.at h.h1)]
 rfl
theorem grid_set (h : Gw s g ks W) {i : Nat} (hi : i < ks.length) (hk : Rw s W k) : f_grid_Grid_Set s (some g) i (some k) = some (s.sg g ⟨(ks.set i k).map some⟩, true) := by
 unfold f_grid_Grid_Set
 rw [grid_row h hi]
 simp only [bsm, wide_of (h.at hi), wide_of hk, Option.isNone_some, orE_false]
 rw [if_neg (by simp)]
 simp only [h.g, bsm]
 rw [idx_at (by simpa using hi), sets_nat (by simpa using hi)]
 simp only [bsm]
 rw [set_grid (get_lt h.g)]
 simp
theorem Gw.set (h : Gw s g ks W) {i : Nat} (hk : Rw s W k) : Gw (s.sg g ⟨(ks.set i k).map some⟩) g (ks.set i k) W :=
 ⟨sg_get (get_lt h.g), fun j hj => by
  rcases List.mem_or_eq_of_mem_set hj with hj | rfl
  ·exact h.r j hj
  ·exact hk, by simpa using h.h1, by simpa using h.h2, h.w1, h.w2⟩
theorem grid_lines (h : Gw s g ks W) : f_grid_Grid_Lines s (some g) = some (ks.map (ln s)) := by
 have hh := h.h2
 have hw := h.w2
 unfold f_grid_Grid_Lines
 rw [grid_high h]
 simp only [bsm]
 obtain ⟨t, h1, h2⟩ := iter_for (σ := (List G_api_Line) × Int) (τ := List G_api_Line) (n := ks.length) (fuel := ((ks.length : Int) - 0).toNat + 1) (s := (([] : List G_api_Line), 0))
  (fun i q => q = ((ks.take i).map (ln s), (i : Int))) (fun t => t = ks.map (ln s))
  (step := fun s_9 =>
 if (decide (s_9.2 < (ks.length : Int))) = true then
 (s.grid_Grid[g]?).bind fun o_19 =>
 (idx o_19.rows s_9.2).bind fun x_21 =>
 (idx o_19.rows s_9.2).bind fun x_28 =>
 (f_row_Row_Cells s x_21).bind fun x_30 =>
 (f_row_Row_Wrap s x_28).bind fun x_31 =>
 (app s_9.1 ([(⟨x_30, x_31⟩ : G_api_Line)] : List G_api_Line)).bind fun x_34 =>
 some (.inl (x_34, (w64 (s_9.2 + 1))))
 else
 some (.inr (s_9.1)))
  (fun i q hi e => by
   subst e
   refine .inl ⟨_, ?_, rfl⟩
   obtain ⟨r, r1, r2, r3⟩ := h.at hi
   have e5 : w64 ((i : Int) + 1) = ((i + 1 : Nat) : Int) := by rw [w64_in (by omega)]; simp
   have hd : decide ((i : Int) < (ks.length : Int)) = true := by simp; exact hi
   have hi2 : i < (ks.map some).length := by simpa using hi
   simp only [hd, if_true, bsm, h.g, idx_at hi2, List.getElem_map, e5]
   rw [row_cells (l := r.cells) (w := r.wrap) r1 (by omega) r2.sht, row_wrap (l := r.cells) (w := r.wrap) r1]
   simp only [bsm]
   rw [app_eq (by simp; omega)]
   simp only [bsm]
   rw [List.take_succ_eq_append_getElem hi, List.map_append]
   simp [ln_eq r1])
  (fun q e => ⟨_, by subst e; simp, rfl⟩)
  (by simp) (by omega)
 subst h2
 rw [h1]
 rfl
def Okl (W : Nat) (x : G_api_Line) : Prop := Snd x.Cells ∧ x.Cells.length = W
theorem grid_lines_ok (h : Gw s g ks W) : ∀ x ∈ ks.map (ln s), Okl W x := fun x hx => by
 obtain ⟨k, hk, rfl⟩ := List.mem_map.1 hx
 obtain ⟨r, r1, r2, r3⟩ := h.r k hk
 rw [ln_eq r1]
 exact ⟨r2, r3⟩
theorem sto_eq {a b : Sto} (h1 : a.row_Row = b.row_Row) (h2 : a.grid_Grid = b.grid_Grid) (h3 : { a with row_Row := b.row_Row, grid_Grid := b.grid_Grid } = b) : a = b :=
 Eq.trans (show a = { a with row_Row := b.row_Row, grid_Grid := b.grid_Grid } by rw [← h1, ← h2]) h3
def Sto.rst (s : Sto) : Sto := { s with row_Row := [], grid_Grid := [] }
def Sto.oth (s : Sto) : Sto := { s with row_Row := [], grid_Grid := [], place_Pen := [] }
theorem rst_pen {a b : Sto} (h : a.rst = b.rst) : a.place_Pen = b.place_Pen := by
 have := congrArg Sto.place_Pen h
 exact this
theorem rst_oth {a b : Sto} (h : a.rst = b.rst) : a.oth = b.oth := by
 have := congrArg (fun x : Sto => ({ x with place_Pen := [] } : Sto)) h
 exact this
def Sto.addr (s : Sto) (xs : List G_row_Row) : Sto := { s with row_Row := s.row_Row ++ xs }
theorem addr_len (s : Sto) (xs : List G_row_Row) : (s.addr xs).row_Row.length = s.row_Row.length + xs.length := by simp [Sto.addr]
theorem addr_old {xs : List G_row_Row} (h : k < s.row_Row.length) : (s.addr xs).row_Row[k]? = s.row_Row[k]? := List.getElem?_append_left h
theorem addr_new {xs : List G_row_Row} {i : Nat} (h : i < xs.length) : (s.addr xs).row_Row[s.row_Row.length + i]? = some xs[i] := by
 simp [Sto.addr, List.getElem?_append_right, h]
theorem addr_add (s : Sto) (xs : List G_row_Row) (x : G_row_Row) : (s.addr xs).add_row_Row x = s.addr (xs ++ [x]) := by simp [Sto.addr, Sto.add_row_Row]
theorem addr_nil (s : Sto) : s.addr [] = s := by simp [Sto.addr]
theorem Rw.lt (h : Rw s W k) : k < s.row_Row.length := by obtain ⟨r, h, _⟩ := h; exact get_lt h
theorem Rw.addr {xs : List G_row_Row} (h : Rw s W k) : Rw (s.addr xs) W k := by
 obtain ⟨r, h1, h2⟩ := h
 exact ⟨r, by rw [addr_old (get_lt h1)]; exact h1, h2⟩
theorem Gw.addr {xs : List G_row_Row} (h : Gw s g ks W) : Gw (s.addr xs) g ks W := ⟨h.g, fun k hk => (h.r k hk).addr, h.h1, h.h2, h.w1, h.w2⟩
theorem ln_old {xs : List G_row_Row} (h : k < s.row_Row.length) : ln (s.addr xs) k = ln s k := by unfold ln; rw [addr_old h]
theorem ln_new {xs : List G_row_Row} {i : Nat} (h : i < xs.length) : ln (s.addr xs) (s.row_Row.length + i) = ⟨xs[i].cells, xs[i].wrap⟩ := ln_eq (addr_new h)
def lr (x : G_api_Line) : G_row_Row := ⟨x.Cells, x.Wrap⟩
theorem grid_of {L : List G_api_Line} (h1 : 1 ≤ L.length) (h2 : L.length ≤ 1024)
  (hok : ∀ i (h : i < L.length), 1 ≤ L[i].Cells.length ∧ L[i].Cells.length ≤ 1024 ∧ Snd L[i].Cells ∧ L[i].Cells.length = (L[0]'(by omega)).Cells.length) :
  f_grid_Of s L = some ((s.addr (L.map lr)).add_grid_Grid ⟨(List.range' s.row_Row.length L.length).map some⟩, some s.grid_Grid.length, Er.nil) := by
 unfold f_grid_Of
 simp only [orE_some, bsm]
 rw [if_neg (by rw [Bool.or_eq_true, beq_iff_eq, decide_eq_true_eq]; omega)]
 obtain ⟨t, h3, h4⟩ := iter_for (σ := Int × Sto) (τ := (Sto × (Option Nat) × Er) ⊕ Sto) (n := L.length) (fuel := ((L.length : Int) - 0).toNat + 1) (s := (0, s.add_grid_Grid (⟨([] : List (Option Nat))⟩ : G_grid_Grid)))
  (fun i q => q = ((i : Int), (s.addr ((L.take i).map lr)).add_grid_Grid ⟨(List.range' s.row_Row.length i).map some⟩))
  (fun t => t = .inr ((s.addr (L.map lr)).add_grid_Grid ⟨(List.range' s.row_Row.length L.length).map some⟩))
  (step := fun s_25 =>
 if (decide (s_25.1 < (L.length : Int))) = true then
 (idx L s_25.1).bind fun x_29 =>
 (f_row_Of s_25.2 x_29.Cells).bind fun x_37 =>
 ((andE x_37.2.2.isNil ((idx L 0).bind fun x_51 =>
 (f_row_Row_Wide x_37.1 x_37.2.1).bind fun x_55 =>
 some (x_55 != (x_51.Cells.length : Int)))).bind fun d_47 =>
 if d_47 = true then
 (some ((Er.sent 0)) : Option (Er))
 else
 (some (x_37.2.2) : Option (Er))).bind fun z_44 =>
 if (!z_44.isNil) = true then
 (f_api_Wrong s_25.1 z_44).bind fun x_66 =>
 some (.inr (.inl (x_37.1, (none : Option Nat), x_66)))
 else
 (f_row_Row_GoOn x_37.1 x_37.2.1 x_29.Wrap).bind fun x_73 =>
 (x_73.grid_Grid[s.grid_Grid.length]?).bind fun o_79 =>
 (app o_79.rows ([x_37.2.1] : List (Option Nat))).bind fun x_82 =>
 (x_73.set_grid_Grid s.grid_Grid.length (⟨x_82⟩ : G_grid_Grid)).bind fun s_85001 =>
 some (.inl ((w64 (s_25.1 + 1)), s_85001))
 else
 some (.inr (.inr (s_25.2))))
  (fun i q hi e => by
   subst e
   refine .inl ⟨_, ?_, rfl⟩
   obtain ⟨k1, k2, k3, k4⟩ := hok i hi
   have e5 : w64 ((i : Int) + 1) = ((i + 1 : Nat) : Int) := by rw [w64_in (by omega)]; simp
   have hd : decide ((i : Int) < (L.length : Int)) = true := by simp; exact hi
   have h0 : idx L (0 : Int) = some (L[0]'(by omega)) := idx_at (i := 0) (by omega)
   simp only [hd, if_true, idx_at hi, bsm]
   rw [row_of k1 k2 k3]
   simp only [bsm, Er.isNil, andE_true, h0]
   rw [row_wide (add_get _ _)]
   simp only [bsm, k4, bne_self_eq_false, Bool.false_eq_true, if_false, Bool.not_true]
   rw [row_goon (add_get _ _), add_sr]
   simp only [bsm]
   have hg : (((s.addr ((L.take i).map lr)).add_grid_Grid ⟨(List.range' s.row_Row.length i).map some⟩).add_row_Row ⟨L[i].Cells, L[i].Wrap⟩).grid_Grid[s.grid_Grid.length]? = some ⟨(List.range' s.row_Row.length i).map some⟩ := by
    simp [Sto.add_grid_Grid, Sto.add_row_Row, Sto.addr]
   rw [hg]
   simp only [bsm]
   rw [app_eq (by simp; omega)]
   simp only [bsm]
   rw [set_grid (get_lt hg), e5]
   simp only [bsm]
   congr 4
   refine sto_eq ?_ ?_ rfl
   ·simp only [Sto.sg, Sto.add_grid_Grid, Sto.add_row_Row, Sto.addr]
    rw [List.take_succ_eq_append_getElem hi, List.map_append, List.append_assoc]
    rfl
   ·simp only [Sto.sg, Sto.add_grid_Grid, Sto.add_row_Row, Sto.addr]
    rw [List.set_append_right _ _ (Nat.le_refl _), Nat.sub_self, List.set_cons_zero, List.range'_concat, List.map_append]
    simp [Sto.add_grid_Grid, Sto.add_row_Row, Sto.addr]
    exact Nat.min_eq_left (Nat.le_of_lt hi))
  (fun q e => ⟨_, by subst e; simp, rfl⟩)
  (by simp [addr_nil]) (by omega)
 subst h4
 rw [h3]
 rfl
theorem gw_of {L : List G_api_Line} (h1 : 1 ≤ L.length) (h2 : L.length ≤ 1024)
  (hok : ∀ i (h : i < L.length), 1 ≤ L[i].Cells.length ∧ L[i].Cells.length ≤ 1024 ∧ Snd L[i].Cells ∧ L[i].Cells.length = (L[0]'(by omega)).Cells.length) :
  Gw ((s.addr (L.map lr)).add_grid_Grid ⟨(List.range' s.row_Row.length L.length).map some⟩) s.grid_Grid.length (List.range' s.row_Row.length L.length) (L[0]'(by omega)).Cells.length ∧
   (List.range' s.row_Row.length L.length).map (ln ((s.addr (L.map lr)).add_grid_Grid ⟨(List.range' s.row_Row.length L.length).map some⟩)) = L := by
 have hr : ∀ i (h : i < L.length), ((s.addr (L.map lr)).add_grid_Grid ⟨(List.range' s.row_Row.length L.length).map some⟩).row_Row[s.row_Row.length + i]? = some (lr L[i]) := fun i h => by
  have := addr_new (s := s) (xs := L.map lr) (i := i) (by simpa using h)
  rw [List.getElem_map] at this
  exact this
 refine ⟨⟨by simp [Sto.add_grid_Grid, Sto.addr], fun k hk => ?_, by simpa using h1, by simpa using h2, (hok 0 (by omega)).1, (hok 0 (by omega)).2.1⟩, ?_⟩
 ·rw [List.mem_range'_1] at hk
  have hi : k - s.row_Row.length < L.length := by omega
  have := hr _ hi
  rw [show s.row_Row.length + (k - s.row_Row.length) = k by omega] at this
  exact ⟨_, this, (hok _ hi).2.2.1, (hok _ hi).2.2.2⟩
 ·refine List.ext_getElem (by simp) fun i h1 h2 => ?_
  rw [List.getElem_map, List.getElem_range', Nat.one_mul, ln_eq (hr i h2)]
  rfl
theorem icl (a : Int) (m : Nat) : imax 0 (imin a (m : Int)) = ((cl a m : Nat) : Int) := by simp only [imax_eq, imin_eq, cl]; omega
theorem scroll_of (h : Gw s g ks W) (a b n : Int) : f_scroll_of s (some g) a b n = some (⟨(cl a ks.length : Nat), (cl b ks.length : Nat), min n ((cl b ks.length : Int) - (cl a ks.length : Int))⟩, decide (cl a ks.length < cl b ks.length) && decide (0 < n)) := by
 have h1 := cl_le a ks.length
 have h2 := cl_le b ks.length
 have hh := h.h2
 unfold f_scroll_of
 rw [grid_high h]
 simp only [bsm, icl, andE_some]
 rw [imin_eq, w64_in (by omega)]
 simp
theorem scroll_rows (h : Gw s g ks W) {a b : Nat} (hab : a ≤ b) (hb : b ≤ ks.length) : f_scroll_rows s (some g) a b = some (((ks.drop a).take (b - a)).map some) := by
 have hh := h.h2
 unfold f_scroll_rows
 obtain ⟨t, h1, h2⟩ := iter_for (σ := (List (Option Nat)) × Int) (τ := List (Option Nat)) (n := b - a) (fuel := ((b : Int) - (a : Int)).toNat + 1) (s := (([] : List (Option Nat)), (a : Int)))
  (fun i q => q = (((ks.drop a).take i).map some, ((a + i : Nat) : Int))) (fun t => t = ((ks.drop a).take (b - a)).map some)
  (step := fun s_8 =>
 if (decide (s_8.2 < (b : Int))) = true then
 (f_grid_Grid_Row s (some g) s_8.2).bind fun x_16 =>
 (app s_8.1 ([x_16] : List (Option Nat))).bind fun x_18 =>
 some (.inl (x_18, (w64 (s_8.2 + 1))))
 else
 some (.inr (s_8.1)))
  (fun i q hi e => by
   subst e
   refine .inl ⟨_, ?_, rfl⟩
   have e5 : w64 (((a + i : Nat) : Int) + 1) = ((a + (i + 1) : Nat) : Int) := by rw [w64_in (by omega)]; simp; omega
   have hd : decide (((a + i : Nat) : Int) < (b : Int)) = true := by simp; omega
   simp only [hd, if_true]
   rw [grid_row h (show a + i < ks.length by omega)]
   simp only [bsm, e5]
   rw [app_eq (by simp; omega)]
   simp only [bsm]
   rw [List.take_succ_eq_append_getElem (by simp; omega), List.map_append]
   simp)
  (fun q e => by
   subst e
   have hd : decide (((a + (b - a) : Nat) : Int) < (b : Int)) = false := by simp; omega
   exact ⟨_, by simp only [hd]; rfl, rfl⟩)
  (by simp) (by omega)
 subst h2
 rw [h1]
 rfl
def bk (W : Nat) : G_row_Row := ⟨List.replicate W bl, false⟩
theorem scroll_blanks (h : Gw s g ks W) {n : Nat} (hn : n ≤ 1024) : f_scroll_blanks s (some g) n = some (s.addr (List.replicate n (bk W)), (List.range' s.row_Row.length n).map some) := by
 unfold f_scroll_blanks
 obtain ⟨t, h1, h2⟩ := iter_for (σ := (List (Option Nat)) × Int × Sto) (τ := (List (Option Nat)) × Sto) (n := n) (fuel := ((n : Int) - 0).toNat + 1) (s := (([] : List (Option Nat)), 0, s))
  (fun i q => q = ((List.range' s.row_Row.length i).map some, (i : Int), s.addr (List.replicate i (bk W)))) (fun t => t = ((List.range' s.row_Row.length n).map some, s.addr (List.replicate n (bk W))))
  (step := fun s_8 =>
 if (decide (s_8.2.1 < (n : Int))) = true then
 (f_grid_Grid_Wide s_8.2.2 (some g)).bind fun x_13 =>
 (f_row_New s_8.2.2 x_13).bind fun x_14 =>
 (app s_8.1 ([x_14.2] : List (Option Nat))).bind fun x_16 =>
 some (.inl (x_16, (w64 (s_8.2.1 + 1)), x_14.1))
 else
 some (.inr (s_8.1, s_8.2.2)))
  (fun i q hi e => by
   subst e
   refine .inl ⟨_, ?_, rfl⟩
   have e5 : w64 ((i : Int) + 1) = ((i + 1 : Nat) : Int) := by rw [w64_in (by omega)]; simp
   have hd : decide ((i : Int) < (n : Int)) = true := by simp; exact hi
   simp only [hd, if_true]
   rw [grid_wide (h.addr (xs := List.replicate i (bk W)))]
   simp only [bsm, row_new, sd_id h.w1 h.w2, e5]
   rw [app_eq (by simp; omega)]
   simp only [bsm]
   rw [addr_add, addr_len, List.range'_concat, List.map_append, List.replicate_succ']
   simp [bk])
  (fun q e => ⟨_, by subst e; simp, rfl⟩)
  (by simp [addr_nil]) (by omega)
 subst h2
 rw [h1]
 rfl
def ov (ks : List Nat) (F : Nat) (p : List Nat) : List Nat := ks.take F ++ p ++ ks.drop (F + p.length)
theorem ov_len {F : Nat} {p : List Nat} (h : F + p.length ≤ ks.length) : (ov ks F p).length = ks.length := by simp [ov]; omega
theorem ov_set {F i : Nat} {p : List Nat} (h : F + p.length ≤ ks.length) (hi : i < p.length) : (ov ks F (p.take i)).set (F + i) p[i] = ov ks F (p.take (i + 1)) := by
 unfold ov
 have h1 : (ks.take F ++ p.take i).length = F + i := by simp; omega
 rw [List.set_append_right _ _ (by omega), h1, Nat.sub_self, List.length_take, List.length_take, Nat.min_eq_left (Nat.le_of_lt hi), Nat.min_eq_left (show i + 1 ≤ p.length by omega), List.drop_eq_getElem_cons (show F + i < ks.length by omega), List.set_cons_zero, List.take_succ_eq_append_getElem hi]
 simp only [List.append_assoc, List.cons_append, List.nil_append, Nat.add_assoc]
def off (s : Sto) (k : Nat) : Sto := s.sr k ⟨(ln s k).Cells, false⟩
theorem goon_off (h : Rw s W k) : f_row_Row_GoOn s (some k) false = some (off s k) := by
 obtain ⟨r, h1, _⟩ := h
 rw [row_goon (l := r.cells) (w := r.wrap) h1]
 unfold off
 rw [ln_eq h1]
theorem Rw.off {j : Nat} (h : Rw s W j) (hk : Rw s W k) : Rw (off s k) W j := by
 obtain ⟨r, h1, h2, h3⟩ := h
 obtain ⟨q, k1, k2, k3⟩ := hk
 by_cases e : k = j
 ·subst e
  exact ⟨_, sr_get (get_lt k1), by rw [ln_eq k1]; exact ⟨k2, k3⟩⟩
 ·exact ⟨r, (sr_ne e).trans h1, h2, h3⟩
theorem Gw.off (h : Gw s g ks W) (hk : Rw s W k) : Gw (off s k) g ks W := ⟨h.g, fun j hj => (h.r j hj).off hk, h.h1, h.h2, h.w1, h.w2⟩
theorem ln_off {j : Nat} (hk : Rw s W k) : ln (off s k) j = if j = k then ⟨(ln s k).Cells, false⟩ else ln s j := by
 by_cases e : k = j
 ·subst e
  rw [if_pos rfl]
  exact ln_eq (sr_get hk.lt)
 ·rw [if_neg (Ne.symm e)]
  unfold ln
  rw [show (Go.Proofs.YthokmpbbkpjhbaaGreatDoor.off s k).row_Row[j]? = s.row_Row[j]? from sr_ne e]
theorem ln_sg (x : G_grid_Grid) (j : Nat) : ln (s.sg g x) j = ln s j := rfl
def offa (s : Sto) (ks : List Nat) (F : Nat) : Sto := if F = 0 then s else off s (ks.getD (F - 1) 0)
theorem scroll_lay (h : Gw s g ks W) {F : Nat} {p : List Nat} (hp : F + p.length ≤ ks.length) (hr : ∀ k ∈ p, Rw s W k) (st : G_scroll_stretch) (hF : st.from_ = (F : Int)) :
  f_scroll_stretch_lay s st (some g) (p.map some) = some (offa (s.sg g ⟨(ov ks F p).map some⟩) (ov ks F p) F) ∧ Gw (s.sg g ⟨(ov ks F p).map some⟩) g (ov ks F p) W := by
 have hh := h.h2
 have key : ∀ i, i ≤ p.length → Gw (s.sg g ⟨(ov ks F (p.take i)).map some⟩) g (ov ks F (p.take i)) W := fun i hi =>
  ⟨sg_get (get_lt h.g), fun k hk => by
   unfold ov at hk
   rw [List.mem_append, List.mem_append] at hk
   rcases hk with (hk | hk) | hk
   ·exact h.r k (List.mem_of_mem_take hk)
   ·exact hr k (List.mem_of_mem_take hk)
   ·exact h.r k (List.mem_of_mem_drop hk), by rw [ov_len (by simp; omega)]; exact h.h1, by rw [ov_len (by simp; omega)]; exact h.h2, h.w1, h.w2⟩
 have kend := key p.length (Nat.le_refl _)
 rw [List.take_length] at kend
 refine ⟨?_, kend⟩
 unfold f_scroll_stretch_lay
 rw [hF]
 obtain ⟨t, h1, h2⟩ := iter_for (σ := Int × Sto) (τ := Sto) (n := p.length) (fuel := (((p.map some).length : Int) - 0).toNat + 1) (s := ((0 : Int), s))
  (fun i q => q = ((i : Int), s.sg g ⟨(ov ks F (p.take i)).map some⟩)) (fun t => t = s.sg g ⟨(ov ks F p).map some⟩)
  (step := fun s_7 =>
 if (decide (s_7.1 < ((p.map some).length : Int))) = true then
 (idx (p.map some) s_7.1).bind fun x_11 =>
 (f_grid_Grid_Set s_7.2 (some g) (w64 ((F : Int) + s_7.1)) x_11).bind fun x_22 =>
 some (.inl ((w64 (s_7.1 + 1)), x_22.1))
 else
 some (.inr (s_7.2)))
  (fun i q hi e => by
   subst e
   refine .inl ⟨_, ?_, rfl⟩
   have e5 : w64 ((i : Int) + 1) = ((i + 1 : Nat) : Int) := by rw [w64_in (by omega)]; simp
   have e6 : w64 ((F : Int) + (i : Int)) = ((F + i : Nat) : Int) := by rw [w64_in (by omega)]; simp
   have hd : decide ((i : Int) < ((p.map some).length : Int)) = true := by simp; exact hi
   have hi2 : i < (p.map some).length := by simpa using hi
   have hk := key i (Nat.le_of_lt hi)
   simp only [hd, if_true, idx_at hi2, bsm, List.getElem_map, e5, e6]
   have hl : (ov ks F (p.take i)).length = ks.length := ov_len (by simp; omega)
   rw [grid_set hk (show F + i < (ov ks F (p.take i)).length by omega) (hr _ (List.getElem_mem hi))]
   simp only [bsm]
   rw [ov_set hp hi, sg_sg])
  (fun q e => by
   subst e
   rw [List.take_length]
   exact ⟨_, by simp, rfl⟩)
  (by
   simp only [List.take_zero, Prod.mk.injEq]
   refine ⟨rfl, (sg_id ?_).symm⟩
   rw [h.g]
   simp [ov]) (by simp)
 subst h2
 rw [h1]
 simp only [bsm]
 unfold offa
 by_cases h0 : F = 0
 ·subst h0
  rw [if_pos rfl, grid_row_out kend (by left; rw [w64_in (by omega)]; omega)]
  rfl
 ·have e7 : w64 ((F : Int) - 1) = ((F - 1 : Nat) : Int) := by rw [w64_in (by omega)]; omega
  have hl : (ov ks F p).length = ks.length := ov_len hp
  have hlt : F - 1 < (ov ks F p).length := by omega
  rw [if_neg h0, e7, grid_row kend hlt]
  simp only [bsm]
  rw [goon_off (kend.at hlt), List.getD_eq_getElem?_getD, List.getElem?_eq_getElem hlt]
  rfl
def dl : G_api_Line := ⟨[], false⟩
def mvb (W : Nat) (L : List G_api_Line) (F T m : Nat) (up : Bool) (i : Nat) : G_api_Line :=
 if F ≤ i ∧ i < T then (if up = true then (if i + m < T then L.getD (i + m) dl else ⟨List.replicate W bl, false⟩) else (if F + m ≤ i then L.getD (i - m) dl else ⟨List.replicate W bl, false⟩)) else L.getD i dl
def mvl (W : Nat) (L : List G_api_Line) (F T m : Nat) (up : Bool) (i : Nat) : G_api_Line :=
 if i + 1 = F ∨ (up = false ∧ i + 1 = T) then ⟨(mvb W L F T m up i).Cells, false⟩ else mvb W L F T m up i
def mv (W : Nat) (L : List G_api_Line) (F T : Nat) (n : Int) (up : Bool) : List G_api_Line :=
 if F < T ∧ 0 < n then (List.range L.length).map (mvl W L F T (min n ((T : Int) - (F : Int))).toNat up) else L
theorem gd {i : Nat} (h : i < ks.length) : ks.getD i 0 = ks[i] := by rw [List.getD_eq_getElem?_getD, List.getElem?_eq_getElem h]; rfl
theorem gdl {L : List G_api_Line} {i : Nat} (h : i < L.length) : L.getD i dl = L[i] := by rw [List.getD_eq_getElem?_getD, List.getElem?_eq_getElem h]; rfl
theorem nd_ne (nd : ks.Nodup) {i j : Nat} (hj : j < ks.length) (hij : i < j) : ks.getD i 0 ≠ ks.getD j 0 := by
 rw [gd hj, gd (Nat.lt_trans hij hj)]
 exact List.pairwise_iff_getElem.1 nd i j _ _ hij
theorem nd_map {h : Nat} {f : Nat → Nat} (hf : ∀ i j, i < j → j < h → f i ≠ f j) : ((List.range h).map f).Nodup := by
 rw [List.Nodup, List.pairwise_map]
 exact List.pairwise_lt_range.imp_of_mem fun _ hb hlt => hf _ _ hlt (List.mem_range.1 hb)
def kfu (ks : List Nat) (N F T m i : Nat) : Nat := if i < F ∨ T ≤ i then ks.getD i 0 else if i + m < T then ks.getD (i + m) 0 else N + (i + m - T)
def kfd (ks : List Nat) (N F T m i : Nat) : Nat := if i < F ∨ T ≤ i then ks.getD i 0 else if i < F + m then N + (i - F) else ks.getD (i - m) 0
theorem ov_up {F T m : Nat} (N : Nat) (h1 : F + m ≤ T) (h2 : T ≤ ks.length) : ov ks F ((ks.drop (F + m)).take (T - (F + m)) ++ List.range' N m) = (List.range ks.length).map (kfu ks N F T m) := by
 refine List.ext_getElem? fun i => ?_
 rcases Nat.lt_or_ge i ks.length with hi | hi
 ·rw [List.getElem?_map, List.getElem?_range hi, Option.map_some]
  have e : ((ks.drop (F + m)).take (T - (F + m)) ++ List.range' N m).length = T - F := by simp; omega
  have et : (ks.take F).length = F := by simp; omega
  have ex : ((ks.drop (F + m)).take (T - (F + m))).length = T - (F + m) := by simp; omega
  unfold ov
  rw [e, List.append_assoc, List.getElem?_append, et]
  unfold kfu
  by_cases c1 : i < F
  ·rw [if_pos c1, if_pos (Or.inl c1), List.getElem?_take, if_pos c1, gd hi, List.getElem?_eq_getElem hi]
  ·rw [if_neg c1, List.getElem?_append, e]
   by_cases c2 : T ≤ i
   ·rw [if_neg (by omega), if_pos (Or.inr c2), List.getElem?_drop, show F + (T - F) + (i - F - (T - F)) = i by omega, gd hi, List.getElem?_eq_getElem hi]
   ·rw [if_pos (by omega), if_neg (by omega), List.getElem?_append, ex]
    by_cases c3 : i + m < T
    ·rw [if_pos (by omega), if_pos c3, List.getElem?_take, if_pos (by omega), List.getElem?_drop, show F + m + (i - F) = i + m by omega, gd (by omega), List.getElem?_eq_getElem (by omega)]
    ·rw [if_neg (by omega), if_neg c3, List.getElem?_range' (by omega), Nat.one_mul]
     congr 1
     omega
 ·rw [List.getElem?_eq_none (by rw [ov_len (by simp; omega)]; exact hi), List.getElem?_eq_none (by simpa using hi)]
theorem ov_down {F T m : Nat} (N : Nat) (h1 : F + m ≤ T) (h2 : T ≤ ks.length) : ov ks F (List.range' N m ++ (ks.drop F).take (T - m - F)) = (List.range ks.length).map (kfd ks N F T m) := by
 refine List.ext_getElem? fun i => ?_
 rcases Nat.lt_or_ge i ks.length with hi | hi
 ·rw [List.getElem?_map, List.getElem?_range hi, Option.map_some]
  have e : (List.range' N m ++ (ks.drop F).take (T - m - F)).length = T - F := by simp; omega
  have et : (ks.take F).length = F := by simp; omega
  have ex : (List.range' N m).length = m := by simp
  unfold ov
  rw [e, List.append_assoc, List.getElem?_append, et]
  unfold kfd
  by_cases c1 : i < F
  ·rw [if_pos c1, if_pos (Or.inl c1), List.getElem?_take, if_pos c1, gd hi, List.getElem?_eq_getElem hi]
  ·rw [if_neg c1, List.getElem?_append, e]
   by_cases c2 : T ≤ i
   ·rw [if_neg (by omega), if_pos (Or.inr c2), List.getElem?_drop, show F + (T - F) + (i - F - (T - F)) = i by omega, gd hi, List.getElem?_eq_getElem hi]
   ·rw [if_pos (by omega), if_neg (by omega), List.getElem?_append, ex]
    by_cases c3 : i < F + m
    ·rw [if_pos (by omega), if_pos c3, List.getElem?_range' (by omega), Nat.one_mul]
    ·rw [if_neg (by omega), if_neg c3, List.getElem?_take, if_pos (by omega), List.getElem?_drop, show F + (i - F - m) = i - m by omega, gd (by omega), List.getElem?_eq_getElem (by omega)]
 ·rw [List.getElem?_eq_none (by rw [ov_len (by simp; omega)]; exact hi), List.getElem?_eq_none (by simpa using hi)]
theorem kfu_ne (nd : ks.Nodup) {N F T m : Nat} (hN : ∀ k ∈ ks, k < N) (h1 : F + m ≤ T) (h2 : T ≤ ks.length) (i j : Nat) (hij : i < j) (hj : j < ks.length) : kfu ks N F T m i ≠ kfu ks N F T m j := by
 have lt : ∀ i, i < ks.length → ks.getD i 0 < N := fun i hi => by rw [gd hi]; exact hN _ (List.getElem_mem hi)
 have ne : ∀ a b, a < b → b < ks.length → ks.getD a 0 ≠ ks.getD b 0 := fun a b hab hb => nd_ne nd hb hab
 have ne2 : ∀ a b, b < a → a < ks.length → ks.getD a 0 ≠ ks.getD b 0 := fun a b hab ha => (nd_ne nd ha hab).symm
 unfold kfu
 repeat' split
 all_goals first
  | exact ne _ _ (by omega) (by omega)
  | exact ne2 _ _ (by omega) (by omega)
  | (have := lt i (by omega); omega)
  | (have := lt j (by omega); omega)
  | (have := lt (i + m) (by omega); omega)
  | (have := lt (j + m) (by omega); omega)
  | omega
theorem kfd_ne (nd : ks.Nodup) {N F T m : Nat} (hN : ∀ k ∈ ks, k < N) (h1 : F + m ≤ T) (h2 : T ≤ ks.length) (i j : Nat) (hij : i < j) (hj : j < ks.length) : kfd ks N F T m i ≠ kfd ks N F T m j := by
 have lt : ∀ i, i < ks.length → ks.getD i 0 < N := fun i hi => by rw [gd hi]; exact hN _ (List.getElem_mem hi)
 have ne : ∀ a b, a < b → b < ks.length → ks.getD a 0 ≠ ks.getD b 0 := fun a b hab hb => nd_ne nd hb hab
 have ne2 : ∀ a b, b < a → a < ks.length → ks.getD a 0 ≠ ks.getD b 0 := fun a b hab ha => (nd_ne nd ha hab).symm
 unfold kfd
 repeat' split
 all_goals first
  | exact ne _ _ (by omega) (by omega)
  | exact ne2 _ _ (by omega) (by omega)
  | (have := lt i (by omega); omega)
  | (have := lt j (by omega); omega)
  | (have := lt (i - m) (by omega); omega)
  | (have := lt (j - m) (by omega); omega)
  | omega
theorem ln_offs {h : Nat} {f : Nat → Nat} {B : Nat → G_api_Line} (hf : ∀ i j, i < j → j < h → f i ≠ f j) (hB : ∀ i, i < h → ln s (f i) = B i) {j : Nat} (hj : j < h) (hk : Rw s W (f j)) (i : Nat) (hi : i < h) :
  ln (off s (f j)) (f i) = if i = j then ⟨(B j).Cells, false⟩ else B i := by
 rw [ln_off hk, hB j hj]
 by_cases e : i = j
 ·subst e; rw [if_pos rfl, if_pos rfl]
 ·rw [if_neg, if_neg e, hB i hi]
  rcases Nat.lt_or_gt_of_ne e with h | h
  ·exact hf i j h hj
  ·exact (hf j i h hi).symm
theorem offa_pen (s : Sto) (ks : List Nat) (F : Nat) : (offa s ks F).rst = s.rst := by
 unfold offa
 split <;> rfl
theorem getD_map_range {h i : Nat} {f : Nat → Nat} (hi : i < h) : ((List.range h).map f).getD i 0 = f i := by
 rw [gd (by simpa using hi)]
 simp
structure Rf (s s' : Sto) (g : Nat) (ks : List Nat) (g' : Nat) (ks' : List Nat) : Prop where
 gl : s.grid_Grid.length ≤ s'.grid_Grid.length
 rl : s.row_Row.length ≤ s'.row_Row.length
 gr : ∀ j, j < s.grid_Grid.length → j ≠ g → s'.grid_Grid[j]? = s.grid_Grid[j]?
 rw : ∀ j, j < s.row_Row.length → j ∉ ks → s'.row_Row[j]? = s.row_Row[j]?
 ng : g' = g ∨ s.grid_Grid.length ≤ g'
 nr : ∀ r ∈ ks', r ∈ ks ∨ s.row_Row.length ≤ r
theorem Rf.self (s : Sto) (g : Nat) (ks : List Nat) : Rf s s g ks g ks := ⟨Nat.le_refl _, Nat.le_refl _, fun _ _ _ => rfl, fun _ _ _ => rfl, .inl rfl, fun _ h => .inl h⟩
theorem Rf.rowoff {s' : Sto} {ks' : List Nat} (h : Rf s s' g ks g ks') {i : Nat} (hi : i ∈ ks') : Rf s (off s' i) g ks g ks' := by
 have e : (off s' i).row_Row = s'.row_Row.set i ⟨(ln s' i).Cells, false⟩ := rfl
 refine ⟨h.gl, by rw [e, List.length_set]; exact h.rl, h.gr, fun j h1 h2 => ?_, h.ng, h.nr⟩
 rw [e, List.getElem?_set_ne ?_]
 ·exact h.rw j h1 h2
 ·rintro rfl
  rcases h.nr _ hi with q | q
  ·exact h2 q
  ·omega
theorem Rf.aboff {s' : Sto} {ks' : List Nat} (h : Rf s s' g ks g ks') (F : Nat) (hF : F ≤ ks'.length) : Rf s (offa s' ks' F) g ks g ks' := by
 unfold Go.Proofs.YthokmpbbkpjhbaaGreatDoor.offa
 split
 ·exact h
 ·refine h.rowoff ?_
  rw [gd (by omega)]
  exact List.getElem_mem _
theorem Rf.lay (xs : List G_row_Row) (x : G_grid_Grid) {ks' : List Nat} (h : ∀ r ∈ ks', r ∈ ks ∨ s.row_Row.length ≤ r) : Rf s ((s.addr xs).sg g x) g ks g ks' := by
 have e : ((s.addr xs).sg g x).row_Row = s.row_Row ++ xs := rfl
 have e2 : ((s.addr xs).sg g x).grid_Grid = s.grid_Grid.set g x := rfl
 exact ⟨by rw [e2, List.length_set]; exact Nat.le_refl _, by rw [e, List.length_append]; omega, fun j _ hj => by rw [e2, List.getElem?_set_ne (Ne.symm hj)], fun j hj _ => by rw [e, List.getElem?_append_left hj], .inl rfl, h⟩
theorem kfu_mem {N F T m : Nat} (hm : T ≤ ks.length) {r : Nat} (hr : r ∈ (List.range ks.length).map (kfu ks N F T m)) : r ∈ ks ∨ N ≤ r := by
 obtain ⟨i, hi, rfl⟩ := List.mem_map.1 hr
 have hi := List.mem_range.1 hi
 unfold kfu
 split
 ·rw [gd hi]; exact .inl (List.getElem_mem _)
 ·split
  ·rw [gd (by omega)]; exact .inl (List.getElem_mem _)
  ·exact .inr (by omega)
theorem kfd_mem {N F T m : Nat} (hm : T ≤ ks.length) {r : Nat} (hr : r ∈ (List.range ks.length).map (kfd ks N F T m)) : r ∈ ks ∨ N ≤ r := by
 obtain ⟨i, hi, rfl⟩ := List.mem_map.1 hr
 have hi := List.mem_range.1 hi
 unfold kfd
 split
 ·rw [gd hi]; exact .inl (List.getElem_mem _)
 ·split
  ·exact .inr (by omega)
  ·rw [gd (by omega)]; exact .inl (List.getElem_mem _)
theorem up_eq2 (h : Gw s g ks W) (nd : ks.Nodup) (a b n : Int) : ∃ s' ks', f_scroll_Up s (some g) a b n = some s' ∧ (Gw s' g ks' W ∧ ks'.Nodup ∧ ks'.length = ks.length ∧
  ks'.map (ln s') = mv W (ks.map (ln s)) (cl a ks.length) (cl b ks.length) n true) ∧ s'.rst = s.rst ∧ Rf s s' g ks g ks' := by
 have hF := cl_le a ks.length
 have hT := cl_le b ks.length
 have hh := h.h2
 have hN : ∀ k ∈ ks, k < s.row_Row.length := fun k hk => (h.r k hk).lt
 unfold f_scroll_Up
 rw [scroll_of h]
 simp only [bsm]
 generalize cl a ks.length = F at *
 generalize cl b ks.length = T at *
 unfold mv
 by_cases hc : F < T ∧ 0 < n
 ·obtain ⟨m, hm⟩ : ∃ m : Nat, min n ((T : Int) - (F : Int)) = (m : Int) := ⟨(min n ((T : Int) - (F : Int))).toNat, by omega⟩
  have hm2 : F + m ≤ T ∧ 1 ≤ m := by omega
  rw [if_pos (by simp; omega), if_pos hc, hm, w64_in (by omega), show ((F : Int) + (m : Int)) = ((F + m : Nat) : Int) by simp, scroll_rows h hm2.1 hT]
  simp only [bsm]
  rw [scroll_blanks h (by omega)]
  simp only [bsm]
  rw [app_eq (by simp; omega), ← List.map_append]
  simp only [bsm]
  have h1 := h.addr (xs := List.replicate m (bk W))
  have hlen : ((ks.drop (F + m)).take (T - (F + m)) ++ List.range' s.row_Row.length m).length = T - F := by simp; omega
  obtain ⟨h3, h4⟩ := scroll_lay h1 (F := F) (p := (ks.drop (F + m)).take (T - (F + m)) ++ List.range' s.row_Row.length m) (by rw [hlen]; omega) (fun k hk => by
   rcases List.mem_append.1 hk with hk | hk
   ·exact h1.r k (List.mem_of_mem_drop (List.mem_of_mem_take hk))
   ·rw [List.mem_range'_1] at hk
    have := addr_new (s := s) (xs := List.replicate m (bk W)) (i := k - s.row_Row.length) (by simp; omega)
    rw [show s.row_Row.length + (k - s.row_Row.length) = k by omega, List.getElem_replicate] at this
    exact ⟨_, this, snd_bl W, by simp [bk]⟩) ⟨(F : Int), (T : Int), (m : Int)⟩ rfl
  rw [h3]
  rw [ov_up s.row_Row.length hm2.1 hT] at h4 ⊢
  have ne := kfu_ne nd (N := s.row_Row.length) (F := F) (T := T) (m := m) hN hm2.1 hT
  have hB : ∀ i, i < ks.length → ln ((s.addr (List.replicate m (bk W))).sg g ⟨((List.range ks.length).map (kfu ks s.row_Row.length F T m)).map some⟩) (kfu ks s.row_Row.length F T m i) = mvb W (ks.map (ln s)) F T m true i := by
   intro i hi
   rw [ln_sg]
   have old : ∀ j, j < ks.length → ln (s.addr (List.replicate m (bk W))) (ks.getD j 0) = (ks.map (ln s)).getD j dl := fun j hj => by
    rw [gdl (by simpa using hj), gd hj, ln_old (hN _ (List.getElem_mem hj)), List.getElem_map]
   unfold kfu mvb
   by_cases c1 : i < F ∨ T ≤ i
   ·rw [if_pos c1, if_neg (show ¬(F ≤ i ∧ i < T) by omega), old i hi]
   ·rw [if_neg c1, if_pos (show F ≤ i ∧ i < T by omega), if_pos rfl]
    by_cases c2 : i + m < T
    ·rw [if_pos c2, if_pos c2, old _ (by omega)]
    ·rw [if_neg c2, if_neg c2, ln_new (by simp; omega), List.getElem_replicate]
     rfl
  refine ⟨_, (List.range ks.length).map (kfu ks s.row_Row.length F T m), rfl, ⟨?_, nd_map ne, by simp, ?_⟩, offa_pen _ _ _, (Rf.lay _ _ fun r hr => kfu_mem hT hr).aboff F (by simp; omega)⟩
  ·unfold offa
   split
   ·exact h4
   ·refine h4.off ?_
    rw [getD_map_range (by omega)]
    exact h4.r _ (List.mem_map.2 ⟨F - 1, List.mem_range.2 (by omega), rfl⟩)
  ·rw [List.length_map, List.map_map]
   refine List.map_congr_left fun i hi => ?_
   have hi := List.mem_range.1 hi
   simp only [Function.comp, Int.toNat_natCast]
   unfold offa mvl
   by_cases h0 : F = 0
   ·rw [if_pos h0, if_neg (by simp; omega), hB i hi]
   ·rw [if_neg h0, getD_map_range (by omega), ln_offs ne hB (by omega) (h4.r _ (List.mem_map.2 ⟨F - 1, List.mem_range.2 (by omega), rfl⟩)) i hi]
    by_cases e : i = F - 1
    ·rw [if_pos e, if_pos (by omega), e]
    ·rw [if_neg e, if_neg (by simp; omega)]
 ·rw [if_neg (by simp; omega), if_neg hc]
  exact ⟨s, ks, rfl, ⟨h, nd, rfl, rfl⟩, rfl, Rf.self _ _ _⟩
theorem down_eq2 (h : Gw s g ks W) (nd : ks.Nodup) (a b n : Int) : ∃ s' ks', f_scroll_Down s (some g) a b n = some s' ∧ (Gw s' g ks' W ∧ ks'.Nodup ∧ ks'.length = ks.length ∧
  ks'.map (ln s') = mv W (ks.map (ln s)) (cl a ks.length) (cl b ks.length) n false) ∧ s'.rst = s.rst ∧ Rf s s' g ks g ks' := by
 have hF := cl_le a ks.length
 have hT := cl_le b ks.length
 have hh := h.h2
 have hN : ∀ k ∈ ks, k < s.row_Row.length := fun k hk => (h.r k hk).lt
 unfold f_scroll_Down
 rw [scroll_of h]
 simp only [bsm]
 generalize cl a ks.length = F at *
 generalize cl b ks.length = T at *
 unfold mv
 by_cases hc : F < T ∧ 0 < n
 ·obtain ⟨m, hm⟩ : ∃ m : Nat, min n ((T : Int) - (F : Int)) = (m : Int) := ⟨(min n ((T : Int) - (F : Int))).toNat, by omega⟩
  have hm2 : F + m ≤ T ∧ 1 ≤ m := by omega
  have h1 := h.addr (xs := List.replicate m (bk W))
  rw [if_pos (by simp; omega), if_pos hc, hm, scroll_blanks h (by omega)]
  simp only [bsm]
  rw [w64_in (by omega), show ((T : Int) - (m : Int)) = ((T - m : Nat) : Int) by omega, scroll_rows h1 (by omega) (by omega)]
  simp only [bsm]
  rw [app_eq (by simp; omega), ← List.map_append]
  simp only [bsm]
  have hlen : (List.range' s.row_Row.length m ++ (ks.drop F).take (T - m - F)).length = T - F := by simp; omega
  obtain ⟨h3, h4⟩ := scroll_lay h1 (F := F) (p := List.range' s.row_Row.length m ++ (ks.drop F).take (T - m - F)) (by rw [hlen]; omega) (fun k hk => by
   rcases List.mem_append.1 hk with hk | hk
   ·rw [List.mem_range'_1] at hk
    have := addr_new (s := s) (xs := List.replicate m (bk W)) (i := k - s.row_Row.length) (by simp; omega)
    rw [show s.row_Row.length + (k - s.row_Row.length) = k by omega, List.getElem_replicate] at this
    exact ⟨_, this, snd_bl W, by simp [bk]⟩
   ·exact h1.r k (List.mem_of_mem_drop (List.mem_of_mem_take hk))) ⟨(F : Int), (T : Int), (m : Int)⟩ rfl
  rw [h3]
  rw [ov_down s.row_Row.length hm2.1 hT] at h4 ⊢
  have ne := kfd_ne nd (N := s.row_Row.length) (F := F) (T := T) (m := m) hN hm2.1 hT
  have hB : ∀ i, i < ks.length → ln ((s.addr (List.replicate m (bk W))).sg g ⟨((List.range ks.length).map (kfd ks s.row_Row.length F T m)).map some⟩) (kfd ks s.row_Row.length F T m i) = mvb W (ks.map (ln s)) F T m false i := by
   intro i hi
   rw [ln_sg]
   have old : ∀ j, j < ks.length → ln (s.addr (List.replicate m (bk W))) (ks.getD j 0) = (ks.map (ln s)).getD j dl := fun j hj => by
    rw [gdl (by simpa using hj), gd hj, ln_old (hN _ (List.getElem_mem hj)), List.getElem_map]
   unfold kfd mvb
   by_cases c1 : i < F ∨ T ≤ i
   ·rw [if_pos c1, if_neg (show ¬(F ≤ i ∧ i < T) by omega), old i hi]
   ·rw [if_neg c1, if_pos (show F ≤ i ∧ i < T by omega), if_neg (show ¬(false = true) by simp)]
    by_cases c2 : i < F + m
    ·rw [if_pos c2, if_neg (show ¬(F + m ≤ i) by omega), ln_new (by simp; omega), List.getElem_replicate]
     rfl
    ·rw [if_neg c2, if_pos (show F + m ≤ i by omega), old _ (by omega)]
  have hmem : ∀ j, j < ks.length → kfd ks s.row_Row.length F T m j ∈ (List.range ks.length).map (kfd ks s.row_Row.length F T m) := fun j hj => List.mem_map.2 ⟨j, List.mem_range.2 hj, rfl⟩
  have h5 : Gw (offa ((s.addr (List.replicate m (bk W))).sg g ⟨((List.range ks.length).map (kfd ks s.row_Row.length F T m)).map some⟩) ((List.range ks.length).map (kfd ks s.row_Row.length F T m)) F) g ((List.range ks.length).map (kfd ks s.row_Row.length F T m)) W := by
   unfold offa
   split
   ·exact h4
   ·refine h4.off ?_
    rw [getD_map_range (by omega)]
    exact h4.r _ (hmem _ (by omega))
  have hC : ∀ i, i < ks.length → ln (offa ((s.addr (List.replicate m (bk W))).sg g ⟨((List.range ks.length).map (kfd ks s.row_Row.length F T m)).map some⟩) ((List.range ks.length).map (kfd ks s.row_Row.length F T m)) F) (kfd ks s.row_Row.length F T m i) =
    if i + 1 = F then ⟨(mvb W (ks.map (ln s)) F T m false i).Cells, false⟩ else mvb W (ks.map (ln s)) F T m false i := by
   intro i hi
   unfold offa
   by_cases h0 : F = 0
   ·rw [if_pos h0, if_neg (by omega), hB i hi]
   ·rw [if_neg h0, getD_map_range (by omega), ln_offs ne hB (by omega) (h4.r _ (hmem _ (by omega))) i hi]
    by_cases e : i = F - 1
    ·rw [if_pos e, if_pos (by omega), e]
    ·rw [if_neg e, if_neg (by omega)]
  have hlt : T - 1 < ((List.range ks.length).map (kfd ks s.row_Row.length F T m)).length := by simp; omega
  simp only [bsm]
  rw [w64_in (by omega), show ((T : Int) - 1) = ((T - 1 : Nat) : Int) by omega, grid_row h5 hlt]
  simp only [bsm]
  rw [goon_off (h5.at hlt)]
  simp only [bsm, List.getElem_map, List.getElem_range]
  refine ⟨_, (List.range ks.length).map (kfd ks s.row_Row.length F T m), rfl, ⟨h5.off (h5.r _ (hmem _ (by omega))), nd_map ne, by simp, ?_⟩, offa_pen _ _ _, ((Rf.lay _ _ fun r hr => kfd_mem hT hr).aboff F (by simp; omega)).rowoff (hmem _ (by omega))⟩
  rw [List.length_map, List.map_map]
  refine List.map_congr_left fun i hi => ?_
  have hi := List.mem_range.1 hi
  simp only [Function.comp, Int.toNat_natCast]
  rw [ln_offs ne hC (by omega) (h5.r _ (hmem _ (by omega))) i hi]
  unfold mvl
  by_cases e : i = T - 1
  ·rw [if_pos e, if_neg (show ¬(T - 1 + 1 = F) by omega), if_pos (show i + 1 = F ∨ (false = false ∧ i + 1 = T) from Or.inr ⟨rfl, by omega⟩), e]
  ·rw [if_neg e]
   by_cases e2 : i + 1 = F
   ·rw [if_pos e2, if_pos (Or.inl e2)]
   ·rw [if_neg e2, if_neg (show ¬(i + 1 = F ∨ (false = false ∧ i + 1 = T)) by simp; omega)]
 ·rw [if_neg (by simp; omega), if_neg hc]
  exact ⟨s, ks, rfl, ⟨h, nd, rfl, rfl⟩, rfl, Rf.self _ _ _⟩
theorem ref_move {L : List G_api_Line} (hl : L.length ≤ 1024) (hW : W ≤ 1024) (hL : ∀ x ∈ L, x.Cells.length = W) (a b n : Int) (up : Bool) :
  f_linotyperef33_Move L a b n up = some (mv W L (cl a L.length) (cl b L.length) n up) := by
 have hF := cl_le a L.length
 have hT := cl_le b L.length
 unfold f_linotyperef33_Move
 simp only [icl, orE_some, bsm]
 generalize cl a L.length = F at *
 generalize cl b L.length = T at *
 unfold mv
 by_cases hc : F < T ∧ 0 < n
 ·obtain ⟨m, hm⟩ : ∃ m : Nat, min n ((T : Int) - (F : Int)) = (m : Int) := ⟨(min n ((T : Int) - (F : Int))).toNat, by omega⟩
  have hm2 : F + m ≤ T ∧ 1 ≤ m := by omega
  rw [if_neg (by rw [Bool.or_eq_true, decide_eq_true_eq, decide_eq_true_eq]; omega), if_pos hc, w64_in (by omega), imin_eq, hm, Int.toNat_natCast]
  obtain ⟨t, h1, h2⟩ := iter_for (σ := (List G_api_Line) × Int) (τ := List G_api_Line) (n := L.length) (fuel := ((L.length : Int) - 0).toNat + 1) (s := (([] : List G_api_Line), 0))
   (fun i q => q = ((List.range i).map (mvl W L F T m up), (i : Int))) (fun t => t = (List.range L.length).map (mvl W L F T m up))
   (step := fun s_41 =>
 if (decide (s_41.2 < (L.length : Int))) = true then
 (idx L s_41.2).bind fun x_48 =>
 ((andE (decide (s_41.2 ≥ (F : Int))) (some (decide (s_41.2 < (T : Int))))).bind fun d_57 =>
 if d_57 = true then
 (if (!up) = true then
 (some ((w64 (s_41.2 - (m : Int)))) : Option (Int))
 else
 (some ((w64 (s_41.2 + (m : Int)))) : Option (Int))).bind fun z_68 =>
 (idx L s_41.2).bind fun x_79 =>
 (rep (x_79.Cells.length : Int) (⟨0, ([] : List Int)⟩ : G_api_Cell)).bind fun x_83 =>
 (andE (decide (z_68 ≥ (F : Int))) (some (decide (z_68 < (T : Int))))).bind fun d_90 =>
 if d_90 = true then
 (idx L z_68).bind fun x_98 =>
 (some (x_98.Cells, x_98.Wrap) : Option ((List G_api_Cell) × Bool))
 else
 (some (x_83, false) : Option ((List G_api_Cell) × Bool))
 else
 (some (x_48.Cells, x_48.Wrap) : Option ((List G_api_Cell) × Bool))).bind fun z_53 =>
 ((orE ((w64 (s_41.2 + 1)) == (F : Int)) ((andE (!up) (some ((w64 (s_41.2 + 1)) == (T : Int)))).bind fun d_111 =>
 some d_111)).bind fun d_107 =>
 if d_107 = true then
 (some (false) : Option (Bool))
 else
 (some (z_53.2) : Option (Bool))).bind fun z_102 =>
 (app s_41.1 ([(⟨z_53.1, z_102⟩ : G_api_Line)] : List G_api_Line)).bind fun x_124 =>
 some (.inl (x_124, (w64 (s_41.2 + 1))))
 else
 some (.inr (s_41.1)))
   (fun i q hi e => by
    subst e
    refine .inl ⟨_, ?_, rfl⟩
    have e5 : w64 ((i : Int) + 1) = ((i + 1 : Nat) : Int) := by rw [w64_in (by omega)]; simp
    have hd : decide ((i : Int) < (L.length : Int)) = true := by simp; exact hi
    have hlw := hL _ (List.getElem_mem hi)
    simp only [hd, if_true, idx_at hi, bsm, e5, andE_some]
    have hz : (if (decide ((i : Int) ≥ (F : Int)) && decide ((i : Int) < (T : Int))) = true then
      (if (!up) = true then (some ((w64 ((i : Int) - (m : Int)))) : Option (Int)) else (some ((w64 ((i : Int) + (m : Int)))) : Option (Int))).bind fun z_68 =>
      (rep (L[i].Cells.length : Int) (⟨0, ([] : List Int)⟩ : G_api_Cell)).bind fun x_83 =>
      if (decide (z_68 ≥ (F : Int)) && decide (z_68 < (T : Int))) = true then
      (idx L z_68).bind fun x_98 => (some (x_98.Cells, x_98.Wrap) : Option ((List G_api_Cell) × Bool))
      else (some (x_83, false) : Option ((List G_api_Cell) × Bool))
      else (some (L[i].Cells, L[i].Wrap) : Option ((List G_api_Cell) × Bool))) = some ((mvb W L F T m up i).Cells, (mvb W L F T m up i).Wrap) := by
     unfold mvb
     by_cases c1 : F ≤ i ∧ i < T
     ·rw [if_pos (by simp; omega), if_pos c1]
      cases up with
      | true =>
       rw [if_neg (by simp), if_pos rfl]
       simp only [bsm]
       rw [rep_eq _ (by omega), w64_in (by omega), show ((i : Int) + (m : Int)) = ((i + m : Nat) : Int) by simp]
       simp only [bsm]
       by_cases c2 : i + m < T
       ·rw [if_pos (by simp; omega), if_pos c2, idx_at (show i + m < L.length by omega), gdl (by omega)]
        rfl
       ·rw [if_neg (by simp; omega), if_neg c2, Int.toNat_natCast, hlw]
        rfl
      | false =>
       rw [if_pos (by simp), if_neg (by simp)]
       simp only [bsm]
       rw [rep_eq _ (by omega), w64_in (by omega)]
       simp only [bsm]
       by_cases c2 : F + m ≤ i
       ·rw [show ((i : Int) - (m : Int)) = ((i - m : Nat) : Int) by omega, if_pos (by simp; omega), if_pos c2, idx_at (show i - m < L.length by omega), gdl (by omega)]
        rfl
       ·rw [if_neg (by simp; omega), if_neg c2, Int.toNat_natCast, hlw]
        rfl
     ·rw [if_neg (by simp; omega), if_neg c1, gdl hi]
    rw [hz]
    simp only [bsm]
    have hy : (orE (((i + 1 : Nat) : Int) == (F : Int)) (some (!up && (((i + 1 : Nat) : Int) == (T : Int))))) = some (decide (i + 1 = F ∨ (up = false ∧ i + 1 = T))) := by
     rw [orE_some]
     congr 1
     rw [Bool.eq_iff_iff]
     simp only [Bool.or_eq_true, beq_iff_eq, Bool.and_eq_true, Bool.not_eq_true', decide_eq_true_eq, Int.ofNat_inj]
    rw [hy]
    simp only [bsm]
    have hx : ∀ y : Bool, (if decide (i + 1 = F ∨ (up = false ∧ i + 1 = T)) = true then (some false : Option Bool) else some y) = some (if i + 1 = F ∨ (up = false ∧ i + 1 = T) then false else y) := fun y => by
     by_cases c : i + 1 = F ∨ (up = false ∧ i + 1 = T)
     ·rw [if_pos (by simpa using c), if_pos c]
     ·rw [if_neg (by simpa using c), if_neg c]
    rw [hx]
    simp only [bsm]
    rw [app_eq (by simp; omega)]
    simp only [bsm]
    have hz3 : (⟨(mvb W L F T m up i).Cells, if i + 1 = F ∨ (up = false ∧ i + 1 = T) then false else (mvb W L F T m up i).Wrap⟩ : G_api_Line) = mvl W L F T m up i := by
     unfold mvl
     split <;> rfl
    rw [hz3, List.range_succ, List.map_append]
    rfl)
   (fun q e => ⟨_, by subst e; simp, rfl⟩)
   (by simp) (by omega)
  subst h2
  rw [h1]
  rfl
 ·rw [if_pos (by rw [Bool.or_eq_true, decide_eq_true_eq, decide_eq_true_eq]; omega), if_neg hc]
end Go.Proofs.YthokmpbbkpjhbaaGreatDoor
namespace Go.Proofs.YthokmpbbkpjhbaaGreatDoor
open Go Go.Lt
variable {s : Sto} {k : Nat} {l p : List G_api_Cell} {w : Bool}
theorem sca_replace (p : List Int) (hp : p.length ≤ 1000000) : f_scalar_Replace p = some (p.map fixv) := by
 unfold f_scalar_Replace
 rw [rep_eq _ (by omega), rep_eq _ (by omega)]
 simp only [bsm]
 obtain ⟨t, h1, h2⟩ := iter_for (σ := (List Int) × Int) (τ := List Int) (n := p.length) (fuel := ((p.length : Int) - 0).toNat + 1) (s := (List.replicate (0 : Int).toNat 0, 0))
  (fun i q => q = ((p.take i).map fixv, (i : Int))) (fun t => t = p.map fixv)
  (step := fun s_12 =>
 if (decide (s_12.2 < (p.length : Int))) = true then
 (idx p s_12.2).bind fun x_15 =>
 ((f_scalar_Valid x_15).bind fun x_21 =>
 if (!x_21) = true then
 (some (65533) : Option (Int))
 else
 (some (x_15) : Option (Int))).bind fun z_19 =>
 (app s_12.1 ([z_19] : List Int)).bind fun x_29 =>
 some (.inl (x_29, (w64 (s_12.2 + 1))))
 else
 some (.inr (s_12.1)))
  (fun i q hi e => by
   subst e
   refine .inl ⟨_, ?_, rfl⟩
   have e5 : w64 ((i : Int) + 1) = ((i + 1 : Nat) : Int) := by rw [w64_in (by omega)]; simp
   have hd : decide ((i : Int) < (p.length : Int)) = true := by simp; exact hi
   simp only [hd, if_true, idx_at hi, bsm, sca_valid, e5]
   have hz : (if (!vld p[i]) = true then (some (65533) : Option Int) else some p[i]) = some (fixv p[i]) := by
    unfold fixv
    cases vld p[i] <;> rfl
   rw [hz]
   simp only [bsm]
   rw [app_eq (by simp; omega)]
   simp only [bsm]
   rw [List.take_succ_eq_append_getElem hi, List.map_append]
   rfl)
  (fun q e => ⟨_, by subst e; simp, rfl⟩)
  rfl (by omega)
 subst h2
 rw [h1]
 rfl
theorem cell_of (wide : Int) (t : List Int) (ht : t.length ≤ 9223372036854775807) : f_cell_Of wide t = some (strip wide (fx t)) := by
 unfold f_cell_Of
 have hz : (if (decide (wide ≥ 2)) = true then (app ([(⟨0, ([] : List Int)⟩ : G_api_Cell)] : List G_api_Cell) ([(⟨0, ([] : List Int)⟩ : G_api_Cell)] : List G_api_Cell)).bind fun x_14 => (some (x_14) : Option ((List G_api_Cell))) else
   (some (([(⟨0, ([] : List Int)⟩ : G_api_Cell)] : List G_api_Cell)) : Option ((List G_api_Cell)))) = some (if 2 ≤ wide then [bl, bl] else [bl]) := by
  by_cases h : 2 ≤ wide
  ·rw [if_pos (by simpa using h), if_pos h, app_eq (by simp)]
   rfl
  ·rw [if_neg (by simpa using h), if_neg h]
   rfl
 rw [hz]
 simp only [bsm]
 unfold strip
 by_cases h0 : t = []
 ·subst h0
  rw [if_pos (show ((([] : List Int).length : Int) == 0) = true from rfl), if_pos (show fx [] = [] from rfl)]
  by_cases h : 2 ≤ wide
  ·rw [if_pos h, if_pos (show wide > 1 by omega)]
  ·rw [if_neg h, if_neg (show ¬ (wide > 1) by omega)]
 ·have hl : 0 < t.length := List.length_pos_iff.2 h0
  have hf : fx t ≠ [] := by
   have := fx_len' t
   intro h
   rw [h, List.length_nil] at this
   omega
  rw [if_neg (by rw [beq_iff_eq]; omega), if_neg hf, imin_eq, show (min (t.length : Int) 16) = ((min t.length 16 : Nat) : Int) by omega, show (0 : Int) = ((0 : Nat) : Int) from rfl, slc_eq (Nat.zero_le _) (Nat.min_le_left _ _)]
  simp only [bsm]
  rw [sca_replace _ (by simp; omega)]
  have ef : ((t.drop 0).take (min t.length 16 - 0)).map fixv = fx t := by
   unfold fx
   rw [List.drop_zero, Nat.sub_zero]
   congr 1
   rcases Nat.le_total t.length 16 with h | h
   ·rw [Nat.min_eq_left h, List.take_of_length_le (Nat.le_refl _), List.take_of_length_le h]
   ·rw [Nat.min_eq_right h]
  rw [ef]
  by_cases h : 2 ≤ wide
  ·rw [if_pos h, if_pos (show wide > 1 by omega), show decide (wide ≥ 2) = true by simpa using h]
   rfl
  ·rw [if_neg h, if_neg (show ¬ (wide > 1) by omega), show decide (wide ≥ 2) = false by simpa using h]
   rfl
theorem strip_len (wide : Int) (t : List Int) : 1 ≤ (strip wide t).length ∧ (strip wide t).length ≤ 2 := by
 unfold strip
 repeat' split
 all_goals simp
theorem snd_fx (wide : Int) (t : List Int) : Snd (strip wide (fx t)) := snd_strip wide (fx_vld t) (fx_len t)
theorem fx_id {t : List Int} (h : ∀ x ∈ t, vld x = true) (hl : t.length ≤ 16) : fx t = t := by
 unfold fx
 rw [List.take_of_length_le hl]
 conv => rhs; rw [← List.map_id t]
 refine List.map_congr_left fun x hx => ?_
 unfold fixv
 rw [if_pos (h x hx)]
 rfl
theorem mark_put (h : s.row_Row[k]? = some ⟨l, w⟩) (hs : Snd l) (hl : l.length ≤ 1024) {a : Nat} (wide : Int) {t : List Int} (ht : t.length ≤ 9223372036854775807) (ha : a + (strip wide (fx t)).length ≤ l.length) :
  f_mark_Put s (some k) a wide t = some (s.sr k ⟨pl l a (strip wide (fx t)), pw l w a (strip wide (fx t)).length⟩, Er.nil) := by
 unfold f_mark_Put
 rw [cell_of wide t ht]
 simp only [bsm]
 rw [row_paint h hs hl (snd_fx wide t) (strip_len wide _).1 ha]
 rfl
def mat (l : List G_api_Cell) (i : Int) : Option Nat := if 0 ≤ i ∧ i < l.length then (if kd l i.toNat = 0 then none else if kd l i.toNat = 3 then some (i.toNat - 1) else some i.toNat) else none
theorem row_cell_out (h : s.row_Row[k]? = some ⟨l, w⟩) {i : Int} (hi : ¬ (0 ≤ i ∧ i < l.length)) : f_row_Row_Cell s (some k) i = some (bl, false) := by
 unfold f_row_Row_Cell
 rw [row_wide h]
 simp only [bsm, orE_some]
 rw [if_pos (by simp; omega)]
 rfl
theorem kd_rgt (hs : Snd l) (j : Nat) : kd l j = 0 ∨ kd l j = 1 ∨ kd l j = 2 ∨ kd l j = 3 := by
 rcases Nat.lt_or_ge j l.length with h | h
 ·have := (hs j h).1
  unfold rgt at this
  rw [kd_at h]
  split at this
  ·omega
  ·simp only [Bool.and_eq_true, Bool.or_eq_true, decide_eq_true_eq] at this
   omega
 ·exact .inl (kd_out h)
theorem mark_at (h : s.row_Row[k]? = some ⟨l, w⟩) (hs : Snd l) (i : Int) (hi : -9223372036854775808 ≤ i ∧ i ≤ 9223372036854775807) :
  f_mark_At s (some k) i = some (match mat l i with | some j => ((j : Int), ⟨kd l j, (l.getD j bl).Text⟩, true) | none => (0, ⟨0, []⟩, false)) := by
 unfold f_mark_At mat
 by_cases hin : 0 ≤ i ∧ i < l.length
 ·obtain ⟨j, rfl⟩ : ∃ j : Nat, i = (j : Int) := ⟨i.toNat, by omega⟩
  have hj : j < l.length := by omega
  rw [if_pos hin, row_cell h hj hs.sht, Int.toNat_natCast]
  have hkd := kd_at hj
  have hgd : l.getD j bl = l[j] := by rw [List.getD_eq_getElem?_getD, List.getElem?_eq_getElem hj]; rfl
  simp only [bsm, andE_true]
  by_cases h3 : kd l j = 3
  ·obtain ⟨p1, p2⟩ := hs.three h3
   have hj2 : j - 1 < l.length := by omega
   have hkd2 := kd_at hj2
   rw [if_pos (by rw [beq_iff_eq, ← hkd]; exact h3), w64_in (by omega), show ((j : Int) - 1) = ((j - 1 : Nat) : Int) by omega, row_cell h hj2 hs.sht]
   simp only [bsm, andE_true]
   rw [if_neg (show ¬ kd l j = 0 by omega), if_pos h3, if_neg (by rw [beq_iff_eq, ← hkd2]; omega), if_pos (by rw [beq_iff_eq, ← hkd2]; exact p2)]
   simp only
   rw [p2, List.getD_eq_getElem?_getD, List.getElem?_eq_getElem hj2]
   rfl
  ·rw [if_neg (by rw [beq_iff_eq, ← hkd]; exact h3)]
   simp only [bsm, andE_true]
   rcases kd_rgt hs j with h0 | h1 | h2 | h4
   ·rw [if_neg (by rw [beq_iff_eq, ← hkd]; omega), if_neg (by rw [beq_iff_eq, ← hkd]; omega), if_pos h0]
   ·rw [if_pos (by rw [beq_iff_eq, ← hkd]; exact h1), if_neg (by omega), if_neg h3]
    simp only
    rw [h1, hgd]
   ·rw [if_neg (by rw [beq_iff_eq, ← hkd]; omega), if_pos (by rw [beq_iff_eq, ← hkd]; exact h2), if_neg (by omega), if_neg h3]
    simp only
    rw [h2, hgd]
   ·exact absurd h4 h3
 ·rw [if_neg hin, row_cell_out h hin]
  rfl
theorem wr_u64 (n : Int) : 0 ≤ IntKind.u64.wrap n ∧ IntKind.u64.wrap n < 18446744073709551616 := by
 simp only [IntKind.wrap, IntKind.signed, IntKind.bits, Bool.false_and, Bool.false_eq_true, if_false]
 omega
theorem pc_in {a j : Nat} (h : a ≤ j ∧ j < a + p.length) : pc l a p j = p.getD (j - a) bl := by unfold pc; rw [if_pos h]
theorem pc_out {a j : Nat} (h : ¬(a ≤ j ∧ j < a + p.length)) : pc l a p j = if tch l a p.length j = true then bl else l.getD j bl := by unfold pc; rw [if_neg h]
theorem w_mod (n : Int) (m : Nat) (hm : 1 ≤ m) (hm2 : m ≤ 1000) : ∃ W : Nat, w64 (1 + w64 ((IntKind.u64.wrap n).tmod m)) = (W : Int) ∧ 1 ≤ W ∧ W ≤ m := by
 have h := wr_u64 n
 obtain ⟨u, hu⟩ : ∃ u : Nat, IntKind.u64.wrap n = (u : Int) := ⟨(IntKind.u64.wrap n).toNat, by omega⟩
 rw [hu]
 have e : (u : Int).tmod (m : Int) = ((u % m : Nat) : Int) := by rw [Int.tmod_eq_emod_of_nonneg (by omega)]; rfl
 have hlt : u % m < m := Nat.mod_lt _ (by omega)
 refine ⟨1 + u % m, ?_, by omega, by omega⟩
 rw [e, w64_in (n := ((u % m : Nat) : Int)) (by omega), w64_in (by omega)]
 omega
end Go.Proofs.YthokmpbbkpjhbaaGreatDoor
namespace Go.Proofs.YthokmpbbkpjhbaaGreatDoor
open Go Go.Lt
variable {s C : Sto} {g k W : Nat} {ks : List Nat} {l p : List G_api_Cell} {w : Bool} {q : G_linotyperef34_Pen}
def Sto.sp (s : Sto) (k : Nat) (x : G_place_Pen) : Sto := { s with place_Pen := s.place_Pen.set k x }
theorem set_pen {x : G_place_Pen} (h : k < s.place_Pen.length) : s.set_place_Pen k x = some (s.sp k x) := by
 simp only [Sto.set_place_Pen, h, if_true]
 rfl
theorem sp_get {x : G_place_Pen} (h : k < s.place_Pen.length) : (s.sp k x).place_Pen[k]? = some x := by simp [Sto.sp, h]
theorem sp_sp (s : Sto) (k : Nat) (x y : G_place_Pen) : (s.sp k x).sp k y = s.sp k y := by simp [Sto.sp]
theorem Gw.sp (h : Gw s g ks W) (k : Nat) (x : G_place_Pen) : Gw (s.sp k x) g ks W := ⟨h.g, h.r, h.h1, h.h2, h.w1, h.w2⟩
def ownG (C : Sto) (k g : Nat) : Prop := ∃ x, C.place_Pen[k]? = some x ∧ x.G = some g
def ownR (C : Sto) (k r : Nat) : Prop := ∃ g y, ownG C k g ∧ C.grid_Grid[g]? = some y ∧ some r ∈ y.rows
structure Fr (C s : Sto) (k g : Nat) (ks : List Nat) : Prop where
 pl : C.place_Pen.length ≤ s.place_Pen.length
 gl : C.grid_Grid.length ≤ s.grid_Grid.length
 rl : C.row_Row.length ≤ s.row_Row.length
 pn : ∀ j, j < C.place_Pen.length → j ≠ k → s.place_Pen[j]? = C.place_Pen[j]?
 gr : ∀ j, j < C.grid_Grid.length → ¬ ownG C k j → s.grid_Grid[j]? = C.grid_Grid[j]?
 rw : ∀ j, j < C.row_Row.length → ¬ ownR C k j → s.row_Row[j]? = C.row_Row[j]?
 ng : ownG C k g ∨ C.grid_Grid.length ≤ g
 nr : ∀ r ∈ ks, ownR C k r ∨ C.row_Row.length ≤ r
theorem Fr.self {p : G_place_Pen} (h : s.place_Pen[k]? = some p) (hg : p.G = some g) (hk : s.grid_Grid[g]? = some ⟨ks.map some⟩) : Fr s s k g ks :=
 ⟨Nat.le_refl _, Nat.le_refl _, Nat.le_refl _, fun _ _ _ => rfl, fun _ _ _ => rfl, fun _ _ _ => rfl, .inl ⟨p, h, hg⟩, fun r hr => .inl ⟨g, _, ⟨p, h, hg⟩, hk, List.mem_map.2 ⟨r, hr, rfl⟩⟩⟩
theorem Fr.new (h1 : C.place_Pen.length ≤ s.place_Pen.length) (h2 : C.grid_Grid.length ≤ s.grid_Grid.length) (h3 : C.row_Row.length ≤ s.row_Row.length) (h4 : ∀ j, j < C.place_Pen.length → s.place_Pen[j]? = C.place_Pen[j]?)
  (h5 : ∀ j, j < C.grid_Grid.length → s.grid_Grid[j]? = C.grid_Grid[j]?) (h6 : ∀ j, j < C.row_Row.length → s.row_Row[j]? = C.row_Row[j]?) (h7 : C.grid_Grid.length ≤ g) (h8 : ∀ r ∈ ks, C.row_Row.length ≤ r) : Fr C s k g ks :=
 ⟨h1, h2, h3, fun j a _ => h4 j a, fun j a _ => h5 j a, fun j a _ => h6 j a, .inr h7, fun r hr => .inr (h8 r hr)⟩
theorem Fr.step {s' : Sto} {g' : Nat} {ks' : List Nat} (h : Fr C s k g ks) (f : Rf s s' g ks g' ks') (hp : s'.place_Pen = s.place_Pen) : Fr C s' k g' ks' := by
 refine ⟨by rw [hp]; exact h.pl, Nat.le_trans h.gl f.gl, Nat.le_trans h.rl f.rl, fun j a b => by rw [hp]; exact h.pn j a b, fun j a b => ?_, fun j a b => ?_, ?_, fun r hr => ?_⟩
 ·have := h.gl
  rw [f.gr j (by omega) ?_, h.gr j a b]
  rintro rfl
  rcases h.ng with q | q
  ·exact b q
  ·omega
 ·have := h.rl
  rw [f.rw j (by omega) ?_, h.rw j a b]
  intro hj
  rcases h.nr j hj with q | q
  ·exact b q
  ·omega
 ·rcases f.ng with rfl | q
  ·exact h.ng
  ·exact .inr (Nat.le_trans h.gl q)
 ·rcases f.nr r hr with q | q
  ·exact h.nr r q
  ·exact .inr (Nat.le_trans h.rl q)
theorem Fr.sp (h : Fr C s k g ks) (x : G_place_Pen) : Fr C (s.sp k x) k g ks :=
 ⟨by simp only [Sto.sp, List.length_set]; exact h.pl, h.gl, h.rl, fun j a b => by simp only [Sto.sp]; rw [List.getElem?_set_ne (Ne.symm b)]; exact h.pn j a b, h.gr, h.rw, h.ng, h.nr⟩
theorem Fr.sr (h : Fr C s k g ks) {i : Nat} (hi : i ∈ ks) (r : G_row_Row) : Fr C (s.sr i r) k g ks := by
 refine h.step (s' := s.sr i r) ⟨Nat.le_refl _, by simp [Sto.sr], fun _ _ _ => rfl, fun j _ b => ?_, .inl rfl, fun r hr => .inl hr⟩ rfl
 exact sr_ne (fun e => b (e ▸ hi))
theorem Fr.addp (h : Fr C s k g ks) (x : G_place_Pen) : Fr C (s.add_place_Pen x) k g ks :=
 ⟨by have := h.pl; simp only [Sto.add_place_Pen, List.length_append]; omega, h.gl, h.rl, fun j a b => by have := h.pl; simp only [Sto.add_place_Pen]; rw [List.getElem?_append_left (by omega)]; exact h.pn j a b, h.gr, h.rw, h.ng, h.nr⟩
structure Rgp (s s' : Sto) : Prop where
 r : s'.row_Row = s.row_Row
 g : s'.grid_Grid = s.grid_Grid
 p : s'.place_Pen = s.place_Pen
theorem Rgp.self (s : Sto) : Rgp s s := ⟨rfl, rfl, rfl⟩
theorem Rgp.symm {s s' : Sto} (h : Rgp s s') : Rgp s' s := ⟨h.r.symm, h.g.symm, h.p.symm⟩
theorem Rgp.ownG {s s' : Sto} (h : Rgp s s') (k g : Nat) : ownG s' k g ↔ ownG s k g := by unfold Go.Proofs.YthokmpbbkpjhbaaGreatDoor.ownG; rw [h.p]
theorem Rgp.ownR {s s' : Sto} (h : Rgp s s') (k r : Nat) : ownR s' k r ↔ ownR s k r := by unfold Go.Proofs.YthokmpbbkpjhbaaGreatDoor.ownR; rw [h.g]; simp only [h.ownG]
theorem Fr.rgp {C' s' : Sto} (h : Fr C s k g ks) (hC : Rgp C C') (hs : Rgp s s') : Fr C' s' k g ks := by
 refine ⟨by rw [hC.p, hs.p]; exact h.pl, by rw [hC.g, hs.g]; exact h.gl, by rw [hC.r, hs.r]; exact h.rl, ?_, ?_, ?_, ?_, ?_⟩
 ·rw [hC.p, hs.p]; exact h.pn
 ·rw [hC.g, hs.g]; simp only [hC.ownG]; exact h.gr
 ·rw [hC.r, hs.r]; simp only [hC.ownR]; exact h.rw
 ·rw [hC.g, hC.ownG]; exact h.ng
 ·rw [hC.r]; simp only [hC.ownR]; exact h.nr
theorem Fr.trans {B : Sto} {g0 : Nat} {ks0 : List Nat} (h : Fr B C k g0 ks0) (hg : ∀ j, ownG C k j → j = g0) (hr : ∀ j, ownR C k j → j ∈ ks0) (h' : Fr C s k g ks) : Fr B s k g ks := by
 have hl := h.gl
 have hl2 := h.rl
 have hl3 := h.pl
 refine ⟨Nat.le_trans h.pl h'.pl, Nat.le_trans h.gl h'.gl, Nat.le_trans h.rl h'.rl, fun j a b => ?_, fun j a b => ?_, fun j a b => ?_, ?_, fun r hr' => ?_⟩
 ·rw [h'.pn j (by omega) b, h.pn j a b]
 ·rw [h'.gr j (by omega) ?_, h.gr j a b]
  intro q
  obtain rfl := hg j q
  rcases h.ng with q | q
  ·exact b q
  ·omega
 ·rw [h'.rw j (by omega) ?_, h.rw j a b]
  intro q
  rcases h.nr j (hr j q) with q | q
  ·exact b q
  ·omega
 ·rcases h'.ng with q | q
  ·obtain rfl := hg g q; exact h.ng
  ·exact .inr (by omega)
 ·rcases h'.nr r hr' with q | q
  ·exact h.nr r (hr r q)
  ·exact .inr (by omega)
structure Pv (C s : Sto) (k g_ W : Nat) (q : G_linotyperef34_Pen) (ks : List Nat) : Prop where
 p : s.place_Pen[k]? = some ⟨some g_, q.At, q.Auto⟩
 g : Gw s g_ ks W
 nd : ks.Nodup
 l : ks.map (ln s) = q.L
 o : s.oth = C.oth
 f : Fr C s k g_ ks
theorem Pv.self (h : Pv C s k g W q ks) : Pv s s k g W q ks := ⟨h.p, h.g, h.nd, h.l, rfl, Fr.self h.p rfl h.g.g⟩
theorem Pv.oG (h : Pv C s k g W q ks) (j : Nat) (hj : ownG s k j) : j = g := by
 obtain ⟨x, h1, h2⟩ := hj
 rw [h.p] at h1
 cases h1
 exact (Option.some.inj h2).symm
theorem Pv.oR (h : Pv C s k g W q ks) (j : Nat) (hj : ownR s k j) : j ∈ ks := by
 obtain ⟨g', y, h1, h2, h3⟩ := hj
 obtain rfl := h.oG g' h1
 rw [h.g.g] at h2
 cases h2
 obtain ⟨r, h4, h5⟩ := List.mem_map.1 h3
 cases h5
 exact h4
theorem Pv.len (h : Pv C s k g W q ks) : q.L.length = ks.length := by rw [← h.l, List.length_map]
theorem Pv.ok (h : Pv C s k g W q ks) : ∀ x ∈ q.L, Okl W x := by rw [← h.l]; exact grid_lines_ok h.g
theorem Pv.at (h : Pv C s k g W q ks) {i : Nat} (hi : i < ks.length) : q.L[i]'(by rw [h.len]; exact hi) = ln s ks[i] := by
 have := h.l
 have e : q.L[i]? = (ks.map (ln s))[i]? := by rw [this]
 rw [List.getElem?_eq_getElem (by rw [h.len]; exact hi), List.getElem?_map, List.getElem?_eq_getElem hi] at e
 exact Option.some.inj e
theorem Pv.set (h : Pv C s k g W q ks) (c : G_api_Cursor) (a : Bool) : Pv C (s.sp k ⟨some g, c, a⟩) k g W ⟨q.L, c, a⟩ ks :=
 ⟨sp_get (get_lt h.p), h.g.sp _ _, h.nd, h.l, h.o, h.f.sp _⟩
theorem Pv.row (h : Pv C s k g W q ks) {i : Nat} (hi : i < ks.length) {r : G_row_Row} (hr : Snd r.cells) (hl : r.cells.length = W) : Pv C (s.sr ks[i] r) k g W ⟨q.L.set i ⟨r.cells, r.wrap⟩, q.At, q.Auto⟩ ks := by
 have hlt := (h.g.at hi).lt
 refine ⟨h.p, ⟨h.g.g, fun j hj => ?_, h.g.h1, h.g.h2, h.g.w1, h.g.w2⟩, h.nd, ?_, h.o, h.f.sr (List.getElem_mem hi) _⟩
 ·by_cases e : ks[i] = j
  ·subst e; exact ⟨r, sr_get hlt, hr, hl⟩
  ·obtain ⟨r0, h1, h2⟩ := h.g.r j hj
   exact ⟨r0, (sr_ne e).trans h1, h2⟩
 ·refine List.ext_getElem? fun j => ?_
  rw [List.getElem?_map, List.getElem?_set]
  rcases Nat.lt_or_ge j ks.length with hj | hj
  ·rw [List.getElem?_eq_getElem hj, Option.map_some]
   by_cases e : i = j
   ·subst e
    rw [if_pos rfl, if_pos (by rw [h.len]; exact hi), ln_eq (sr_get hlt)]
   ·have hne : ks[i] ≠ ks[j] := by
     rcases Nat.lt_or_gt_of_ne e with h1 | h1
     ·exact List.pairwise_iff_getElem.1 h.nd i j _ _ h1
     ·exact (List.pairwise_iff_getElem.1 h.nd j i _ _ h1).symm
    rw [if_neg e, List.getElem?_eq_getElem (by rw [h.len]; exact hj), h.at hj]
    unfold ln
    rw [sr_ne hne]
  ·rw [List.getElem?_eq_none hj, if_neg (by omega), List.getElem?_eq_none (by rw [h.len]; exact hj)]
   rfl
def hc (c : G_api_Cursor) (W h : Nat) : G_api_Cursor := ⟨max 0 (min c.Row ((h : Int) - 1)), max 0 (min c.Col ((W : Int) - 1)), c.Pending && (c.Col == (W : Int) - 1)⟩
theorem cur_side {n : Nat} (h1 : 1 ≤ n) (h2 : n ≤ 1024) : f_cursor_side n = some (n : Int) := by
 unfold f_cursor_side
 rw [imax_eq, imin_eq]
 congr 1
 omega
theorem ref_side {n : Nat} (h1 : 1 ≤ n) (h2 : n ≤ 1024) : f_linotyperef31_Side n = some (n : Int) := by
 unfold f_linotyperef31_Side
 rw [if_neg (by simp; omega), if_neg (by simp; omega)]
theorem cur_hold (c : G_api_Cursor) {W h : Nat} (w1 : 1 ≤ W) (w2 : W ≤ 1024) (h1 : 1 ≤ h) (h2 : h ≤ 1024) : f_cursor_Hold c W h = some (hc c W h) := by
 unfold f_cursor_Hold f_cursor_held
 rw [cur_side w1 w2, cur_side h1 h2]
 simp only [bsm, andE_some]
 rw [w64_in (by omega), w64_in (by omega), imax_eq, imin_eq, imax_eq, imin_eq]
 rfl
theorem ref_within (n : Int) {m : Nat} (h1 : 1 ≤ m) (h2 : m ≤ 1024) : f_linotyperef31_within n m = some (max 0 (min n ((m : Int) - 1))) := by
 unfold f_linotyperef31_within
 rw [w64_in (by omega)]
 by_cases a : n < 0
 ·rw [if_pos (by simpa using a)]
  congr 1
  omega
 ·rw [if_neg (by simpa using a)]
  by_cases b : (m : Int) ≤ n
  ·rw [if_pos (by simpa using b)]
   congr 1
   omega
  ·rw [if_neg (by simpa using b)]
   congr 1
   omega
theorem ref_hold (c : G_api_Cursor) {W h : Nat} (w1 : 1 ≤ W) (w2 : W ≤ 1024) (h1 : 1 ≤ h) (h2 : h ≤ 1024) : f_linotyperef31_Hold c W h = some (hc c W h) := by
 unfold f_linotyperef31_Hold
 rw [ref_side h1 h2, ref_side w1 w2]
 simp only [bsm, andE_some]
 rw [ref_within _ h1 h2, ref_within _ w1 w2, w64_in (by omega)]
 rfl
structure Hd (c : G_api_Cursor) (W h : Nat) : Prop where
 rr : 0 ≤ c.Row ∧ c.Row < (h : Int)
 cc : 0 ≤ c.Col ∧ c.Col < (W : Int)
 pp : c.Pending = true → c.Col = (W : Int) - 1
theorem hc_hd (c : G_api_Cursor) {W h : Nat} (w1 : 1 ≤ W) (h1 : 1 ≤ h) : Hd (hc c W h) W h := by
 refine ⟨by simp only [hc]; omega, by simp only [hc]; omega, fun hp => ?_⟩
 simp only [hc, Bool.and_eq_true, beq_iff_eq] at hp ⊢
 omega
theorem hc_id {c : G_api_Cursor} {W h : Nat} (hd : Hd c W h) : hc c W h = c := by
 obtain ⟨h1, h2, h3⟩ := hd
 obtain ⟨a, b, d⟩ := c
 simp only at h1 h2 h3
 unfold hc
 simp only [G_api_Cursor.mk.injEq]
 refine ⟨by omega, by omega, ?_⟩
 cases d with
 | false => rfl
 | true => rw [h3 rfl]; simp
theorem pen_ready (h : Pv C s k g W q ks) : f_place_Pen_ready s (some k) = some (s.sp k ⟨some g, hc q.At W ks.length, q.Auto⟩, true) := by
 unfold f_place_Pen_ready
 simp only [Option.isNone_some, orE_false, bsm, h.p, Bool.false_eq_true, if_false]
 rw [grid_wide h.g, grid_high h.g]
 simp only [bsm]
 rw [cur_hold _ h.g.w1 h.g.w2 h.g.h1 h.g.h2]
 simp only [bsm]
 rw [set_pen (get_lt h.p)]
 rfl
theorem ref_wide (h : Pv C s k g W q ks) : f_linotyperef34_Pen_Wide q = some (W : Int) := by
 have hl := h.len
 have h1 := h.g.h1
 have h0 : idx q.L (0 : Int) = some (q.L[0]'(by omega)) := idx_at (i := 0) (by omega)
 unfold f_linotyperef34_Pen_Wide
 rw [h0]
 simp only [bsm]
 rw [(h.ok _ (List.getElem_mem _)).2]
theorem ref_Hold (h : Pv C s k g W q ks) : f_linotyperef34_Pen_Hold q = some ⟨q.L, hc q.At W ks.length, q.Auto⟩ := by
 unfold f_linotyperef34_Pen_Hold
 rw [ref_wide h]
 simp only [bsm]
 rw [h.len, ref_hold _ h.g.w1 h.g.w2 h.g.h1 h.g.h2]
 rfl
theorem newline_eq (h : Pv C s k g W q ks) : ∃ s' q' ks', f_place_Pen_NewLine s (some k) = some s' ∧ f_linotyperef34_Pen_NewLine q = some q' ∧ Pv C s' k g W q' ks' ∧ ks'.length = ks.length ∧
  Hd q'.At W ks.length ∧ q'.At.Pending = false ∧ q'.At.Col = (hc q.At W ks.length).Col ∧ q'.Auto = q.Auto := by
 have h1 := h.set (hc q.At W ks.length) q.Auto
 have hd := hc_hd q.At h.g.w1 h.g.h1
 have hh := h.g.h2
 unfold f_place_Pen_NewLine f_linotyperef34_Pen_NewLine
 rw [pen_ready h, ref_Hold h]
 generalize hc q.At W ks.length = c at *
 simp only [bsm, Bool.not_true, Bool.false_eq_true, if_false]
 rw [h1.p]
 simp only [bsm]
 rw [grid_high h1.g]
 simp only [bsm]
 unfold f_cursor_Down
 rw [cur_side h.g.h1 h.g.h2]
 simp only [bsm]
 rw [w64_in (by omega), w64_in (by have := hd.rr; omega), h.len]
 have hr := hd.rr
 by_cases he : (ks.length : Int) - 1 ≤ c.Row
 ·rw [if_pos (by simpa using he), if_neg (by simp; omega)]
  have h2 := h1.set ⟨c.Row, c.Col, false⟩ q.Auto
  rw [sp_sp] at h2
  simp only [bsm]
  rw [set_pen (by rw [show (s.sp k ⟨some g, c, q.Auto⟩).place_Pen.length = s.place_Pen.length by simp [Sto.sp]]; exact get_lt h.p), sp_sp]
  simp only [bsm, if_true]
  rw [grid_high h2.g]
  simp only [bsm]
  obtain ⟨s', ks', u1, ⟨u2, u3, u4, u5⟩, u6, u7⟩ := up_eq2 h2.g h2.nd 0 (ks.length : Int) 1
  have hm := ref_move (W := W) (L := q.L) (by rw [h.len]; exact hh) h.g.w2 (fun x hx => (h.ok x hx).2) 0 (ks.length : Int) 1 true
  rw [h.len] at hm
  rw [u1, hm]
  refine ⟨s', _, ks', rfl, rfl, ⟨?_, u2, u3, ?_, (rst_oth u6).trans h2.o, h2.f.step u7 (rst_pen u6)⟩, u4, ⟨hr, hd.cc, fun e => by cases e⟩, rfl, rfl, rfl⟩
  ·rw [rst_pen u6]; exact h2.p
  ·rw [u5, h2.l]
 ·rw [if_neg (by simpa using he), if_pos (by simp; omega)]
  have h2 := h1.set ⟨c.Row + 1, c.Col, false⟩ q.Auto
  rw [sp_sp] at h2
  simp only [bsm]
  rw [set_pen (by rw [show (s.sp k ⟨some g, c, q.Auto⟩).place_Pen.length = s.place_Pen.length by simp [Sto.sp]]; exact get_lt h.p), sp_sp]
  simp only [bsm, Bool.false_eq_true, if_false]
  exact ⟨_, _, ks, rfl, rfl, h2, rfl, ⟨by simp only; omega, hd.cc, fun e => by cases e⟩, rfl, rfl, rfl⟩
theorem ref_with (h : Pv C s k g W q ks) {i : Nat} (hi : i < ks.length) (x : G_api_Line) : f_linotyperef34_Pen_With q i x = some ⟨q.L.set i x, q.At, q.Auto⟩ := by
 have hl := h.len
 have hh := h.g.h2
 unfold f_linotyperef34_Pen_With
 rw [app_eq (by simp; omega), List.nil_append]
 simp only [bsm]
 rw [idx_at (show i < q.L.length by omega), sets_nat (show i < q.L.length by omega)]
 rfl
theorem goon_eq (h : Pv C s k g W q ks) (hd : 0 ≤ q.At.Row ∧ q.At.Row < (ks.length : Int)) : ∃ s' q' ks', f_place_Pen_goOn s (some k) = some s' ∧ f_linotyperef34_Pen_GoOn q = some q' ∧ Pv C s' k g W q' ks' ∧ ks'.length = ks.length ∧
  Hd q'.At W ks.length ∧ q'.At.Pending = false ∧ q'.At.Col = 0 ∧ q'.Auto = q.Auto := by
 obtain ⟨i, hi⟩ : ∃ i : Nat, q.At.Row = (i : Int) := ⟨q.At.Row.toNat, by omega⟩
 have hik : i < ks.length := by omega
 have hl := h.len
 obtain ⟨r, r1, r2, r3⟩ := h.g.at hik
 have hrow := h.row hik (r := ⟨r.cells, true⟩) r2 r3
 have h2 := hrow.set ⟨q.At.Row, 0, false⟩ q.Auto
 have w1 := h.g.w1
 unfold f_place_Pen_goOn f_linotyperef34_Pen_GoOn
 simp only [bsm, h.p, hi]
 rw [grid_row h.g hik]
 simp only [bsm]
 rw [row_goon (l := r.cells) (w := r.wrap) r1]
 simp only [bsm]
 rw [hrow.p]
 simp only [bsm, f_cursor_Return]
 rw [set_pen (get_lt hrow.p)]
 simp only [bsm]
 rw [idx_at (show i < q.L.length by omega), h.at hik, ln_eq r1]
 simp only [bsm]
 rw [ref_with h hik]
 simp only [bsm, hi]
 obtain ⟨s', q', ks', n1, n2, n3, n4, n5, n6, n7, n8⟩ := newline_eq h2
 rw [hi] at n1 n2
 rw [n1, n2]
 refine ⟨s', q', ks', rfl, rfl, n3, n4, n5, n6, ?_, n8⟩
 rw [n7]
 simp only [hc]
 omega
theorem paint_eq (h : Pv C s k g W q ks) {i a : Nat} (hi : i < ks.length) (hp : Snd p) (hn : 1 ≤ p.length) (ha : a + p.length ≤ W) : ∃ s' q', f_row_Row_Paint s (some ks[i]) a p = some (s', Er.nil) ∧ f_linotyperef34_Pen_Paint q i a p = some q' ∧
  Pv C s' k g W q' ks ∧ q'.At = q.At ∧ q'.Auto = q.Auto ∧ q'.L = q.L.set i ⟨pl (ln s ks[i]).Cells a p, pw (ln s ks[i]).Cells (ln s ks[i]).Wrap a p.length⟩ := by
 obtain ⟨r, r1, r2, r3⟩ := h.g.at hi
 have w2 := h.g.w2
 have hl := h.len
 have hrow := h.row hi (r := ⟨pl r.cells a p, pw r.cells r.wrap a p.length⟩) (r2.paint hp (by rw [r3]; exact ha)) (by rw [pl_len]; exact r3)
 refine ⟨_, _, row_paint (l := r.cells) (w := r.wrap) r1 r2 (by omega) hp hn (by omega), ?_, hrow, rfl, rfl, by rw [ln_eq r1]⟩
 unfold f_linotyperef34_Pen_Paint
 rw [idx_at (show i < q.L.length by omega), h.at hi, ln_eq r1]
 simp only [bsm]
 rw [ref_paint _ _ _ _ (by omega) (by omega) (by omega)]
 simp only [bsm]
 rw [ref_with h hi]
 rfl
end Go.Proofs.YthokmpbbkpjhbaaGreatDoor
namespace Go.Proofs.YthokmpbbkpjhbaaGreatDoor
open Go Go.Lt
def ca (c : G_api_Cursor) (d W : Nat) (au : Bool) : G_api_Cursor := if c.Col < (W : Int) - d then ⟨c.Row, c.Col + d, false⟩ else ⟨c.Row, (W : Int) - 1, au⟩
theorem cur_after (c : G_api_Cursor) {d W : Nat} (hd : d = 1 ∨ d = 2) (w1 : 1 ≤ W) (w2 : W ≤ 1024) (hc : 0 ≤ c.Col ∧ c.Col < (W : Int)) (au : Bool) : f_cursor_After c d W au = some (ca c d W au) := by
 unfold f_cursor_After ca
 rw [cur_side w1 w2]
 simp only [bsm, imax_eq, imin_eq]
 rw [show max (1 : Int) (min (d : Int) 2) = (d : Int) by omega, w64_in (by omega), w64_in (by omega), w64_in (by omega)]
 by_cases h : c.Col < (W : Int) - d
 ·rw [if_pos (by simpa using h), if_pos h]
 ·rw [if_neg (by simpa using h), if_neg h]
theorem ref_after (c : G_api_Cursor) {d W : Nat} (hd : d = 1 ∨ d = 2) (w1 : 1 ≤ W) (w2 : W ≤ 1024) (hc : 0 ≤ c.Col ∧ c.Col < (W : Int)) (au : Bool) : f_linotyperef31_After c d W au = some (ca c d W au) := by
 unfold f_linotyperef31_After ca
 have hz : (if decide ((d : Int) > 1) = true then (some 2 : Option Int) else some 1) = some (d : Int) := by
  rcases hd with rfl | rfl <;> rfl
 rw [hz]
 simp only [bsm]
 rw [ref_side w1 w2]
 simp only [bsm]
 rw [w64_in (by omega), w64_in (by omega), w64_in (by omega)]
 by_cases h : c.Col < (W : Int) - d
 ·rw [if_neg (by simp; omega), if_pos h]
 ·rw [if_pos (by simp; omega), if_neg h]
variable {s C : Sto} {g k W : Nat} {ks : List Nat} {q : G_linotyperef34_Pen}
theorem ca_hd {c : G_api_Cursor} {d h : Nat} (hd : d = 1 ∨ d = 2) (w1 : 1 ≤ W) (hc : 0 ≤ c.Col ∧ c.Col < (W : Int)) (hr : 0 ≤ c.Row ∧ c.Row < (h : Int)) (au : Bool) : Hd (ca c d W au) W h := by
 unfold ca
 by_cases h : c.Col < (W : Int) - d
 ·rw [if_pos h]
  exact ⟨hr, by simp only; omega, fun e => by cases e⟩
 ·rw [if_neg h]
  exact ⟨hr, by simp only; omega, fun _ => rfl⟩
theorem strip_d (d : Nat) (hd : d = 1 ∨ d = 2) (t : List Int) : (strip (d : Int) t).length = d := by
 unfold strip
 rcases hd with rfl | rfl <;> (repeat' split) <;> first | rfl | (exfalso; omega)
def fld (q : G_linotyperef34_Pen) : (List G_api_Line) × Int × Int × Bool × Bool := (q.L, q.At.Row, q.At.Col, q.At.Pending, q.Auto)
def rp1 (q : G_linotyperef34_Pen) : Option ((List G_api_Line) × Int × Int × Bool × Bool) :=
 if q.At.Pending = true then
 (f_linotyperef34_Pen_GoOn q).bind fun x_34 =>
 (some (x_34.L, x_34.At.Row, x_34.At.Col, x_34.At.Pending, x_34.Auto) : Option ((List G_api_Line) × Int × Int × Bool × Bool))
 else
 (some (q.L, q.At.Row, q.At.Col, q.At.Pending, q.Auto) : Option ((List G_api_Line) × Int × Int × Bool × Bool))
def rp2 (d W : Int) (z_28 : (List G_api_Line) × Int × Int × Bool × Bool) : Option ((List G_api_Line) × Int × Int × Bool × Bool) :=
 (andE (d == 2) (some (z_28.2.2.1 == (w64 (W - 1))))).bind fun d_40 =>
 if d_40 = true then
 if z_28.2.2.2.2 = true then
 (rep 1 (⟨0, ([] : List Int)⟩ : G_api_Cell)).bind fun x_58 =>
 (f_linotyperef34_Pen_Paint (⟨z_28.1, (⟨z_28.2.1, z_28.2.2.1, z_28.2.2.2.1⟩ : G_api_Cursor), z_28.2.2.2.2⟩ : G_linotyperef34_Pen) z_28.2.1 (w64 (W - 1)) x_58).bind fun x_59 =>
 (f_linotyperef34_Pen_GoOn x_59).bind fun x_60 =>
 (some (x_60.L, x_60.At.Row, x_60.At.Col, x_60.At.Pending, x_60.Auto) : Option ((List G_api_Line) × Int × Int × Bool × Bool))
 else
 (some (z_28.1, z_28.2.1, (w64 (W - 2)), z_28.2.2.2.1, z_28.2.2.2.2) : Option ((List G_api_Line) × Int × Int × Bool × Bool))
 else
 (some (z_28.1, z_28.2.1, z_28.2.2.1, z_28.2.2.2.1, z_28.2.2.2.2) : Option ((List G_api_Line) × Int × Int × Bool × Bool))
def cp1 (s : Sto) (p0 : Option Nat) : Option Sto :=
 (p0).bind fun k_3 =>
 (s.place_Pen[k_3]?).bind fun o_6 =>
 if o_6.At.Pending = true then
 (f_place_Pen_goOn s p0).bind fun x_9 =>
 (some (x_9) : Option (Sto))
 else
 (some (s) : Option (Sto))
theorem room1 (h : Pv C s k g W q ks) (hd : Hd q.At W ks.length) : ∃ s' q' ks', cp1 s (some k) = some s' ∧ rp1 q = some (fld q') ∧ Pv C s' k g W q' ks' ∧ ks'.length = ks.length ∧ Hd q'.At W ks.length ∧ q'.Auto = q.Auto ∧ q'.At.Pending = false := by
 unfold cp1 rp1
 simp only [bsm, h.p]
 cases hp : q.At.Pending with
 | false =>
  simp only [Bool.false_eq_true, if_false]
  exact ⟨s, q, ks, rfl, by unfold fld; rw [hp], h, rfl, hd, rfl, hp⟩
 | true =>
  simp only [if_true]
  obtain ⟨s', q', ks', a1, a2, a3, a4, a5, a6, a7, a8⟩ := goon_eq h hd.rr
  rw [a1, a2]
  exact ⟨s', q', ks', rfl, rfl, a3, a4, a5, a8, a6⟩
theorem room_eq (h : Pv C s k g W q ks) (hd : Hd q.At W ks.length) {d : Nat} (hdd : d = 1 ∨ d = 2) (hdw : d ≤ W) :
  ∃ s' q' ks' z, f_place_Pen_room s (some k) d = some s' ∧ rp1 q = some z ∧ rp2 d W z = some (fld q') ∧ Pv C s' k g W q' ks' ∧ ks'.length = ks.length ∧ (0 ≤ q'.At.Row ∧ q'.At.Row < (ks.length : Int)) ∧ (0 ≤ q'.At.Col ∧ q'.At.Col + d ≤ (W : Int)) ∧ q'.Auto = q.Auto := by
 obtain ⟨s1, q1, ks1, a1, a2, v1, n1, hd1, au1, pe1⟩ := room1 h hd
 have w1 := h.g.w1
 have w2 := h.g.w2
 have hcc := hd1.cc
 unfold f_place_Pen_room
 change ∃ s' q' ks' z, ((cp1 s (some k)).bind _) = some s' ∧ _
 rw [a1]
 simp only [bsm, v1.p]
 rw [grid_wide v1.g]
 simp only [bsm, orE_some]
 have e1 : w64 ((W : Int) - 1) = ((W - 1 : Nat) : Int) := by rw [w64_in (by omega)]; omega
 have e2 : w64 ((W : Int) - 2) = (W : Int) - 2 := w64_in (by omega)
 rw [e1]
 unfold rp2
 by_cases hA : d = 1 ∨ q1.At.Col < (W : Int) - 1
 ·rw [if_pos (by simp only [Bool.or_eq_true, beq_iff_eq, decide_eq_true_eq]; omega)]
  refine ⟨s1, q1, ks1, _, rfl, a2, ?_, v1, n1, hd1.rr, by omega, au1⟩
  simp only [fld, andE_some, bsm, e1]
  rw [if_neg (by simp only [Bool.and_eq_true, beq_iff_eq]; omega)]
 ·rw [if_neg (by simp only [Bool.or_eq_true, beq_iff_eq, decide_eq_true_eq]; omega)]
  have hd2 : d = 2 := by omega
  have hcol : q1.At.Col = (W : Int) - 1 := by omega
  obtain ⟨i, hi⟩ : ∃ i : Nat, q1.At.Row = (i : Int) := ⟨q1.At.Row.toNat, by have := hd1.rr; omega⟩
  have hik : i < ks1.length := by have := hd1.rr; omega
  cases hau : q1.Auto with
  | true =>
   simp only [if_true]
   rw [hi, grid_row v1.g hik]
   simp only [bsm]
   rw [show f_cell_Blanks 1 = some [bl] from blanks 1]
   simp only [bsm]
   obtain ⟨s2, q2, b1, b2, v2, at2, au2, _⟩ := paint_eq (p := [bl]) (a := W - 1) v1 hik (snd_bl 1) (by decide) (by simp; omega)
   rw [b1]
   simp only [bsm]
   obtain ⟨s3, q3, ks3, c1, c2, v3, n3, hd3, pe3, co3, au3⟩ := goon_eq v2 (by rw [at2, n1]; exact hd1.rr)
   rw [c1]
   refine ⟨s3, q3, ks3, _, rfl, a2, ?_, v3, n3.trans n1, by rw [← n1]; exact hd3.rr, by rw [co3]; omega, by rw [au3, au2, au1]⟩
   simp only [fld, andE_some, bsm, e1]
   rw [if_pos (by simp only [Bool.and_eq_true, beq_iff_eq]; omega)]
   simp only [hau, if_true]
   rw [rep_eq _ (by decide), hi]
   simp only [bsm]
   rw [show (List.replicate (1 : Int).toNat (⟨0, []⟩ : G_api_Cell)) = [bl] from rfl]
   have b2' : f_linotyperef34_Pen_Paint ⟨q1.L, ⟨(i : Int), q1.At.Col, q1.At.Pending⟩, true⟩ i ((W - 1 : Nat) : Int) [bl] = some q2 := by rw [← hi, ← hau]; rw [← hi] at b2; exact b2
   rw [b2']
   simp only [bsm]
   rw [c2]
   rfl
  | false =>
   simp only [Bool.false_eq_true, if_false]
   rw [set_pen (get_lt v1.p)]
   simp only [bsm]
   have e3 : w64 (q1.At.Col - 1) = (W : Int) - 2 := by rw [w64_in (by omega)]; omega
   have v2 := v1.set ⟨q1.At.Row, (W : Int) - 2, q1.At.Pending⟩ q1.Auto
   rw [hau] at v2
   rw [e3]
   refine ⟨_, _, ks1, _, rfl, a2, ?_, v2, n1, hd1.rr, by simp only; omega, by simp only; rw [← hau]; exact au1⟩
   simp only [fld, andE_some, bsm, e1, e2]
   rw [if_pos (by simp only [Bool.and_eq_true, beq_iff_eq]; omega)]
   simp only [hau, Bool.false_eq_true, if_false]
def cl2 (p1 : Int) (t : List Int) (W : Nat) : Nat × List Int := if max 1 (min p1 2) > (W : Int) then (1, [65533]) else ((max 1 (min p1 2)).toNat, t)
theorem cl2_d (p1 : Int) (t : List Int) (w1 : 1 ≤ W) : ((cl2 p1 t W).1 = 1 ∨ (cl2 p1 t W).1 = 2) ∧ (cl2 p1 t W).1 ≤ W := by
 unfold cl2
 split
 ·exact ⟨.inl rfl, w1⟩
 ·simp only
  omega
theorem cl2_eq (p1 : Int) (t : List Int) : (if (decide ((imax 1 (imin p1 2)) > (W : Int))) = true then (some (1, ([65533] : List Int)) : Option (Int × (List Int))) else (some ((imax 1 (imin p1 2)), t) : Option (Int × (List Int)))) = some (((cl2 p1 t W).1 : Int), (cl2 p1 t W).2) := by
 rw [imin_eq, imax_eq]
 unfold cl2
 by_cases h : max 1 (min p1 2) > (W : Int)
 ·rw [if_pos (by simpa using h), if_pos h]
  rfl
 ·rw [if_neg (by simpa using h), if_neg h]
  simp only
  rw [Int.toNat_of_nonneg (by omega)]
theorem put_eq (h : Pv C s k g W q ks) (p1 : Int) (t : List Int) (ht : t.length ≤ 1000000) : ∃ (s' : Sto) (q' : G_linotyperef34_Pen) (ks' : List Nat) (i a : Nat), i < ks.length ∧ f_place_Pen_Put s (some k) p1 t = some (s', ⟨(i : Int), (a : Int), false⟩) ∧ f_linotyperef34_Pen_Put q p1 t = some (q', ⟨(i : Int), (a : Int), false⟩) ∧
  Pv C s' k g W q' ks' ∧ ks'.length = ks.length ∧ Hd q'.At W ks.length ∧ q'.Auto = q.Auto ∧ a + (cl2 p1 t W).1 ≤ W ∧
  ∃ l0 w0, l0.length = W ∧ q'.L[i]? = some ⟨pl l0 a (strip (cl2 p1 t W).1 (fx (cl2 p1 t W).2)), w0⟩ := by
 have hl : (cl2 p1 t W).2.length ≤ 1000000 := by unfold cl2; split <;> simp; exact ht
 obtain ⟨hdd, hdw⟩ := cl2_d p1 t h.g.w1
 have hce := cl2_eq (W := W) p1 t
 have w1 := h.g.w1
 have w2 := h.g.w2
 have h1 := h.set (hc q.At W ks.length) q.Auto
 have hd := hc_hd q.At h.g.w1 h.g.h1
 unfold f_place_Pen_Put f_linotyperef34_Pen_Put
 rw [pen_ready h, ref_Hold h]
 generalize hc q.At W ks.length = c at *
 simp only [bsm, Bool.not_true, Bool.false_eq_true, if_false, h1.p]
 rw [grid_wide h1.g, ref_wide h1]
 simp only [bsm]
 rw [hce]
 generalize (cl2 p1 t W).2 = t2 at *
 generalize (cl2 p1 t W).1 = d at *
 simp only [bsm]
 obtain ⟨s2, q2, ks2, z, a1, a2, a3, v2, n2, hr, hcl, au⟩ := room_eq h1 hd hdd hdw
 rw [a1]
 obtain ⟨i, hi⟩ : ∃ i : Nat, q2.At.Row = (i : Int) := ⟨q2.At.Row.toNat, by omega⟩
 obtain ⟨a, ha⟩ : ∃ a : Nat, q2.At.Col = (a : Int) := ⟨q2.At.Col.toNat, by omega⟩
 have hik : i < ks2.length := by omega
 obtain ⟨L2, ⟨row2, col2, pd2⟩, ua2⟩ := q2
 simp only at hi ha hr hcl au
 subst hi ha
 simp only [bsm, v2.p]
 rw [grid_row v2.g hik]
 simp only [bsm]
 unfold f_mark_Put
 rw [cell_of _ _ (by omega)]
 simp only [bsm]
 have hsl := strip_d d hdd (fx t2)
 obtain ⟨s3, q3, b1, b2, v3, at3, au3, l3⟩ := paint_eq (p := strip d (fx t2)) (a := a) v2 hik (snd_fx _ _) (by rw [hsl]; omega) (by rw [hsl]; omega)
 rw [b1]
 simp only [bsm, v3.p]
 rw [grid_wide v3.g]
 simp only [bsm]
 have hc2 : 0 ≤ (⟨(i : Int), (a : Int), false⟩ : G_api_Cursor).Col ∧ (⟨(i : Int), (a : Int), false⟩ : G_api_Cursor).Col < (W : Int) := by simp only; omega
 rw [cur_after _ hdd w1 w2 hc2]
 simp only [bsm]
 rw [set_pen (get_lt v3.p)]
 simp only [bsm]
 have v4 := v3.set (ca ⟨(i : Int), (a : Int), false⟩ d W q3.Auto) q3.Auto
 change ∃ s' q' ks' i_1 a_1, _ ∧ _ ∧ ((rp1 ⟨q.L, c, q.Auto⟩).bind fun z_28 => (rp2 d W z_28).bind _) = _ ∧ _
 rw [a2]
 simp only [bsm]
 rw [a3]
 simp only [fld, bsm]
 rw [ref_of _ _ (by omega)]
 simp only [bsm]
 rw [b2]
 simp only [bsm]
 rw [ref_after _ hdd w1 w2 hc2]
 simp only [bsm]
 refine ⟨_, _, ks2, i, a, by omega, rfl, rfl, v4, n2, ca_hd hdd w1 hc2 (by simp only; omega) _, by simp only; rw [au3, au], by omega, (ln s2 ks2[i]).Cells, pw (ln s2 ks2[i]).Cells (ln s2 ks2[i]).Wrap a (strip d (fx t2)).length, ?_, ?_⟩
 ·have := v2.ok _ (List.getElem_mem (show i < L2.length by have := v2.len; simp only at this; omega))
  rw [v2.at hik] at this
  exact this.2
 ·simp only
  rw [l3, List.getElem?_set_self (by have := v2.len; simp only at this ⊢; omega)]
end Go.Proofs.YthokmpbbkpjhbaaGreatDoor
namespace Go.Proofs.YthokmpbbkpjhbaaGreatDoor
open Go Go.Lt
variable {s : Sto} {k g W : Nat} {l p p' : List G_api_Cell} {w : Bool} {q : G_linotyperef34_Pen} {ks : List Nat}
theorem tch_iff (l : List G_api_Cell) (a n j : Nat) : tch l a n j = true ↔ (a ≤ j ∧ j < a + n) ∨ (kd l j = 2 ∧ a ≤ j + 1 ∧ j + 1 < a + n) ∨ (kd l j = 3 ∧ a + 1 ≤ j ∧ j < a + n + 1) := by
 simp only [tch, Bool.or_eq_true, Bool.and_eq_true, decide_eq_true_eq]
 omega
theorem pc_off {c j : Nat} (h : ¬ (c ≤ j ∧ j < c + p.length)) : pc l c p j = if (kd l j = 2 ∧ j + 1 = c ∧ 0 < p.length) ∨ (kd l j = 3 ∧ j = c + p.length ∧ 0 < p.length) then bl else l.getD j bl := by
 rw [pc_out h]
 by_cases ht : tch l c p.length j = true
 ·rw [if_pos ht, if_pos]
  rw [tch_iff] at ht
  omega
 ·rw [if_neg ht, if_neg]
  rw [tch_iff] at ht
  omega
theorem kd_off {c j : Nat} (hj : j < l.length) (h : ¬ (c ≤ j ∧ j < c + p.length)) : kd (pl l c p) j = if (kd l j = 2 ∧ j + 1 = c ∧ 0 < p.length) ∨ (kd l j = 3 ∧ j = c + p.length ∧ 0 < p.length) then 0 else kd l j := by
 rw [kd_pl hj, pc_off h]
 split
 ·rfl
 ·exact kd_getD l j
theorem pl_over {a c : Nat} (h1 : a ≤ c) (h2 : c + p.length ≤ a + p'.length) (h3 : a + p'.length ≤ l.length) : pl (pl l c p) a p' = pl l a p' := by
 apply List.ext_getElem?
 intro j
 rcases Nat.lt_or_ge j l.length with hj | hj
 ·rw [pl_get (by rw [pl_len]; exact hj), pl_get hj]
  congr 1
  by_cases hi : a ≤ j ∧ j < a + p'.length
  ·rw [pc_in hi, pc_in hi]
  ·have hc : ¬ (c ≤ j ∧ j < c + p.length) := by omega
   have hg : (pl l c p).getD j bl = pc l c p j := by rw [List.getD_eq_getElem?_getD, pl_get hj]; rfl
   rw [pc_off hi, pc_off hi, kd_off hj hc, hg, pc_off hc]
   by_cases hA : (kd l j = 2 ∧ j + 1 = c ∧ 0 < p.length) ∨ (kd l j = 3 ∧ j = c + p.length ∧ 0 < p.length)
   ·rw [if_pos hA, if_pos hA, if_neg (by omega), if_pos (by omega)]
   ·rw [if_neg hA, if_neg hA]
 ·rw [List.getElem?_eq_none (by rw [pl_len, pl_len]; exact hj), List.getElem?_eq_none (by rw [pl_len]; exact hj)]
theorem pw_over {a c : Nat} (h1 : a ≤ c) (h2 : c + p.length ≤ a + p'.length) (h3 : a + p'.length ≤ l.length) : pw (pl l c p) (pw l w c p.length) a p'.length = pw l w a p'.length := by
 unfold pw
 rw [pl_len]
 by_cases hl : 0 < l.length
 ·have e : (tch l c p.length (l.length - 1) || tch (pl l c p) a p'.length (l.length - 1)) = tch l a p'.length (l.length - 1) := by
   rw [Bool.eq_iff_iff, Bool.or_eq_true, tch_iff, tch_iff, tch_iff]
   by_cases hc : c ≤ l.length - 1 ∧ l.length - 1 < c + p.length
   ·omega
   ·rw [kd_off (by omega) hc]
    split <;> omega
  rw [show decide (0 < l.length) = true by simpa using hl, Bool.true_and, Bool.true_and, Bool.and_assoc, ← Bool.not_or, e, Bool.true_and]
 ·rw [show decide (0 < l.length) = false by simpa using hl]
  simp
end Go.Proofs.YthokmpbbkpjhbaaGreatDoor
namespace Go.Proofs.YthokmpbbkpjhbaaGreatDoor
open Go Go.Lt
variable {s C : Sto} {k g W : Nat} {l p p' : List G_api_Cell} {w : Bool} {q : G_linotyperef34_Pen} {ks : List Nat}
def rdy (q : G_linotyperef34_Pen) (W H d : Nat) : Option ((List G_api_Line) × Int × Int × Bool × Bool) := (rp1 ⟨q.L, hc q.At W H, q.Auto⟩).bind (rp2 d W)
def putq (L : List G_api_Line) (i a d W : Nat) (au : Bool) (t : List Int) : G_linotyperef34_Pen :=
 ⟨L.set i ⟨pl (L.getD i dl).Cells a (strip d (fx t)), pw (L.getD i dl).Cells (L.getD i dl).Wrap a d⟩, ca ⟨(i : Int), (a : Int), false⟩ d W au, au⟩
theorem ref_paint_at {L : List G_api_Line} {c : G_api_Cursor} {au : Bool} {i a : Nat} (hi : i < L.length) (hL : L.length ≤ 1024) (hw : (L.getD i dl).Cells.length ≤ 1024) (hp : p.length ≤ 1000000) (ha : a ≤ 1000000) :
  f_linotyperef34_Pen_Paint ⟨L, c, au⟩ i a p = some ⟨L.set i ⟨pl (L.getD i dl).Cells a p, pw (L.getD i dl).Cells (L.getD i dl).Wrap a p.length⟩, c, au⟩ := by
 unfold f_linotyperef34_Pen_Paint f_linotyperef34_Pen_With
 simp only [gdl hi] at hw ⊢
 simp only [idx_at hi, bsm]
 rw [ref_paint _ _ _ _ (by omega) ha hp]
 simp only [bsm]
 rw [app_eq (by simp; omega), List.nil_append]
 simp only [bsm]
 rw [idx_at hi, sets_nat hi]
 rfl
theorem put_of_room {L2 : List G_api_Line} {i a d : Nat} {pd au : Bool} (hdd : d = 1 ∨ d = 2) (h : Pv C s k g W q ks) (hr : rdy q W ks.length d = some (L2, (i : Int), (a : Int), pd, au)) (hi : i < ks.length) (ha : a + d ≤ W) (hL : L2.length = ks.length) (hok : ∀ x ∈ L2, Okl W x) (p1 : Int) (t : List Int) (ht : t.length ≤ 1000000)
  (hcl : (cl2 p1 t W).1 = d) : f_linotyperef34_Pen_Put q p1 t = some (putq L2 i a d W au (cl2 p1 t W).2, ⟨(i : Int), (a : Int), false⟩) := by
 have hl : (cl2 p1 t W).2.length ≤ 1000000 := by unfold cl2; split <;> simp; exact ht
 have hce := cl2_eq (W := W) p1 t
 have w1 := h.g.w1
 have w2 := h.g.w2
 have h1 := h.set (hc q.At W ks.length) q.Auto
 have h2 := h.g.h2
 unfold f_linotyperef34_Pen_Put
 rw [ref_Hold h]
 unfold rdy at hr
 generalize hc q.At W ks.length = c at *
 simp only [bsm]
 rw [ref_wide h1]
 simp only [bsm]
 rw [hce, hcl]
 generalize (cl2 p1 t W).2 = t2 at *
 simp only [bsm]
 have hsl := strip_d d hdd (fx t2)
 have hc2 : 0 ≤ (⟨(i : Int), (a : Int), false⟩ : G_api_Cursor).Col ∧ (⟨(i : Int), (a : Int), false⟩ : G_api_Cursor).Col < (W : Int) := by simp only; omega
 obtain ⟨z, hz1, hz2⟩ := bs hr
 change ((rp1 ⟨q.L, c, q.Auto⟩).bind fun z_28 => (rp2 d W z_28).bind _) = _
 rw [hz1]
 simp only [bsm]
 rw [hz2]
 simp only [bsm]
 rw [ref_of _ _ (by omega)]
 simp only [bsm]
 have hlt : i < L2.length := by omega
 have hcells : (L2.getD i dl).Cells.length = W := by
  rw [gdl hlt]
  exact (hok _ (List.getElem_mem hlt)).2
 rw [ref_paint_at hlt (by omega) (by omega) (by omega) (by omega)]
 simp only [bsm]
 rw [ref_after _ hdd w1 w2 hc2]
 simp only [bsm, putq, hsl]
theorem rdy_ok (h : Pv C s k g W q ks) {d : Nat} (hdd : d = 1 ∨ d = 2) (hdw : d ≤ W) : ∃ L2 i a pd, rdy q W ks.length d = some (L2, ((i : Nat) : Int), ((a : Nat) : Int), pd, q.Auto) ∧ i < ks.length ∧ a + d ≤ W ∧ L2.length = ks.length ∧ (∀ x ∈ L2, Okl W x) := by
 have h1 := h.set (hc q.At W ks.length) q.Auto
 have hd := hc_hd q.At h.g.w1 h.g.h1
 obtain ⟨s2, q2, ks2, z, _, a2, a3, v2, n2, hr, hcl, au⟩ := room_eq h1 hd hdd hdw
 obtain ⟨i, hi⟩ : ∃ i : Nat, q2.At.Row = (i : Int) := ⟨q2.At.Row.toNat, by omega⟩
 obtain ⟨a, ha⟩ : ∃ a : Nat, q2.At.Col = (a : Int) := ⟨q2.At.Col.toNat, by omega⟩
 refine ⟨q2.L, i, a, q2.At.Pending, ?_, by omega, by omega, by rw [v2.len, n2], v2.ok⟩
 unfold rdy
 rw [a2]
 simp only [bsm]
 rw [a3]
 simp only [fld, hi, ha, au]
theorem rdy_one (h : Pv C s k g W q ks) : ∃ L1 i c, rp1 ⟨q.L, hc q.At W ks.length, q.Auto⟩ = some (L1, ((i : Nat) : Int), ((c : Nat) : Int), false, q.Auto) ∧ i < ks.length ∧ c + 1 ≤ W ∧ L1.length = ks.length ∧ (∀ x ∈ L1, Okl W x) := by
 have h1 := h.set (hc q.At W ks.length) q.Auto
 have hd := hc_hd q.At h.g.w1 h.g.h1
 obtain ⟨s2, q2, ks2, a1, a2, v2, n2, hd2, au, pe⟩ := room1 h1 hd
 have hr := hd2.rr
 have hcc := hd2.cc
 obtain ⟨i, hi⟩ : ∃ i : Nat, q2.At.Row = (i : Int) := ⟨q2.At.Row.toNat, by omega⟩
 obtain ⟨a, ha⟩ : ∃ a : Nat, q2.At.Col = (a : Int) := ⟨q2.At.Col.toNat, by omega⟩
 refine ⟨q2.L, i, a, ?_, by omega, by omega, by rw [v2.len, n2], v2.ok⟩
 rw [a2]
 simp only [fld, hi, ha, au, pe]
theorem rp2_one (W : Int) (z : (List G_api_Line) × Int × Int × Bool × Bool) : rp2 1 W z = some z := by
 unfold rp2
 simp only [andE_some, bsm]
 rw [if_neg (by simp)]
theorem put_again (h : Pv C s k g W q ks) {p1 p2 : Int} {t1 t2 : List Int} (ht1 : t1.length ≤ 1000000) (ht2 : t2.length ≤ 1000000) (hc1 : (cl2 p1 t1 W).1 = 1) {q' : G_linotyperef34_Pen} {at_ : G_api_Cursor} (hp : f_linotyperef34_Pen_Put q p1 t1 = some (q', at_))
  {s' C' : Sto} {ks' : List Nat} (h' : Pv C' s' k g W q' ks') (hk : ks'.length = ks.length) : f_linotyperef34_Pen_Put ⟨q'.L, at_, q'.Auto⟩ p2 t2 = f_linotyperef34_Pen_Put q p2 t2 := by
 obtain ⟨L1, i, c, e1, hi, hcw, hL1, hok1⟩ := rdy_one h
 have w1 := h.g.w1
 have w2 := h.g.w2
 have hh2 := h.g.h2
 have r1 : rdy q W ks.length 1 = some (L1, (i : Int), (c : Int), false, q.Auto) := by
  unfold rdy
  rw [e1]
  exact rp2_one (W : Int) _
 have hq := put_of_room (.inl rfl) h r1 hi hcw hL1 hok1 p1 t1 ht1 hc1
 rw [hp] at hq
 simp only [Option.some.injEq, Prod.mk.injEq] at hq
 obtain ⟨rfl, rfl⟩ := hq
 simp only [putq]
 have hlt : i < L1.length := by omega
 generalize hX : (⟨pl (L1.getD i dl).Cells c (strip (1 : Nat) (fx (cl2 p1 t1 W).2)), pw (L1.getD i dl).Cells (L1.getD i dl).Wrap c 1⟩ : G_api_Line) = X
 have hst := strip_d 1 (.inl rfl) (fx (cl2 p1 t1 W).2)
 have hcells : (L1.getD i dl).Cells.length = W := by
  rw [gdl hlt]
  exact (hok1 _ (List.getElem_mem hlt)).2
 have hXc : X.Cells.length = W := by rw [← hX]; simp only [pl_len]; exact hcells
 have h2 := h'.set ⟨(i : Int), (c : Int), false⟩ q.Auto
 simp only [putq] at h2
 rw [hX] at h2
 have hcid : hc ⟨(i : Int), (c : Int), false⟩ W ks.length = ⟨(i : Int), (c : Int), false⟩ := hc_id ⟨by simp only; omega, by simp only; omega, fun e => by cases e⟩
 have e2 : rp1 ⟨L1.set i X, hc ⟨(i : Int), (c : Int), false⟩ W ks'.length, q.Auto⟩ = some (L1.set i X, (i : Int), (c : Int), false, q.Auto) := by
  rw [hk, hcid]
  unfold rp1
  simp only [Bool.false_eq_true, if_false]
 have hg : (L1.set i X).getD i dl = X := by
  rw [List.getD_eq_getElem?_getD, List.getElem?_set_self hlt]
  rfl
 have hokX : ∀ x ∈ L1.set i X, Okl W x := h2.ok
 obtain ⟨hdd, hdw⟩ := cl2_d p2 t2 w1
 have over : ∀ (a d : Nat), d = 1 ∨ d = 2 → a ≤ c → c + 1 ≤ a + d → a + d ≤ W → ∀ p : List G_api_Cell, p.length = d → (L1.set i X).set i ⟨pl ((L1.set i X).getD i dl).Cells a p, pw ((L1.set i X).getD i dl).Cells ((L1.set i X).getD i dl).Wrap a d⟩ = L1.set i ⟨pl (L1.getD i dl).Cells a p, pw (L1.getD i dl).Cells (L1.getD i dl).Wrap a d⟩ := by
  intro a d _ g1 g2 g3 p hpl
  rw [hg, List.set_set]
  congr 1
  rw [← hX]
  simp only
  have o1 := pl_over (l := (L1.getD i dl).Cells) (p := strip (1 : Nat) (fx (cl2 p1 t1 W).2)) (p' := p) g1 (by omega) (by omega)
  have o2 := pw_over (l := (L1.getD i dl).Cells) (w := (L1.getD i dl).Wrap) (p := strip (1 : Nat) (fx (cl2 p1 t1 W).2)) (p' := p) g1 (by omega) (by omega)
  rw [hst, hpl] at o2
  rw [o1, o2]
 have fin : ∀ (a d : Nat) (pd pd' : Bool), d = 1 ∨ d = 2 → (cl2 p2 t2 W).1 = d → a ≤ c → c + 1 ≤ a + d → a + d ≤ W → rdy q W ks.length d = some (L1, (i : Int), (a : Int), pd, q.Auto) → rdy ⟨L1.set i X, ⟨(i : Int), (c : Int), false⟩, q.Auto⟩ W ks'.length d = some (L1.set i X, (i : Int), (a : Int), pd', q.Auto) →
   f_linotyperef34_Pen_Put ⟨L1.set i X, ⟨(i : Int), (c : Int), false⟩, q.Auto⟩ p2 t2 = f_linotyperef34_Pen_Put q p2 t2 := by
  intro a d pd pd' g0 g1 g2 g3 g4 b1 b2
  rw [put_of_room g0 h b1 hi g4 hL1 hok1 p2 t2 ht2 g1, put_of_room g0 h2 b2 (by omega) g4 (by rw [List.length_set]; omega) hokX p2 t2 ht2 g1]
  have := over a d g0 g2 g3 g4 (strip d (fx (cl2 p2 t2 W).2)) (strip_d d g0 _)
  unfold putq
  rw [this]
 have f1 : ∀ (L : List G_api_Line) (d : Nat), d = 2 → c + 1 < W → rp2 d W (L, (i : Int), (c : Int), false, q.Auto) = some (L, (i : Int), (c : Int), false, q.Auto) := by
  intro L d hd hcn
  unfold rp2
  simp only [andE_some, bsm]
  rw [w64_in (by omega), if_neg (by simp only [Bool.and_eq_true, beq_iff_eq]; omega)]
 rcases hdd with hd1 | hd2
 ·refine fin c 1 false false (.inl rfl) hd1 (Nat.le_refl _) (Nat.le_refl _) hcw r1 ?_
  unfold rdy
  rw [e2]
  exact rp2_one (W : Int) _
 ·by_cases hcn : c + 1 < W
  ·refine fin c 2 false false (.inr rfl) hd2 (Nat.le_refl _) (by omega) (by omega) ?_ ?_
   ·unfold rdy
    rw [e1]
    exact f1 _ 2 rfl hcn
   ·unfold rdy
    rw [e2]
    exact f1 _ 2 rfl hcn
  ·have hcW : (c : Int) = (W : Int) - 1 := by omega
   have ew1 : w64 ((W : Int) - 1) = ((W - 1 : Nat) : Int) := by rw [w64_in (by omega)]; omega
   have ew2 : w64 ((W : Int) - 2) = ((W - 2 : Nat) : Int) := by rw [w64_in (by omega)]; omega
   cases hau : q.Auto with
   | true =>
    have hpa : ∀ L : List G_api_Line, L.length = ks.length → (L.getD i dl).Cells.length = W → rp2 (2 : Nat) W (L, (i : Int), (c : Int), false, true) =
      (f_linotyperef34_Pen_GoOn ⟨L.set i ⟨pl (L.getD i dl).Cells (W - 1) [bl], pw (L.getD i dl).Cells (L.getD i dl).Wrap (W - 1) 1⟩, ⟨(i : Int), (c : Int), false⟩, true⟩).bind fun x_60 => (some (x_60.L, x_60.At.Row, x_60.At.Col, x_60.At.Pending, x_60.Auto) : Option ((List G_api_Line) × Int × Int × Bool × Bool)) := by
     intro L hL hLw
     unfold rp2
     simp only [andE_some, bsm]
     rw [if_pos (by simp only [Bool.and_eq_true, beq_iff_eq]; rw [ew1]; omega)]
     simp only [if_true]
     rw [rep_eq _ (by decide)]
     simp only [bsm]
     rw [show (List.replicate (1 : Int).toNat (⟨0, []⟩ : G_api_Cell)) = [bl] from rfl, ew1, ref_paint_at (by omega) (by omega) (by omega) (by decide) (by omega)]
     simp only [bsm]
     rfl
    obtain ⟨L2, i2, a2, pd2, g1, g2, g3, g4, g5⟩ := rdy_ok h (.inr rfl) (by omega : 2 ≤ W)
    have hsame : rdy ⟨L1.set i X, ⟨(i : Int), (c : Int), false⟩, true⟩ W ks'.length 2 = rdy q W ks.length 2 := by
     rw [hau] at e1 e2
     unfold rdy
     rw [hau, e1, e2]
     simp only [bsm]
     rw [hpa _ (by rw [List.length_set]; omega) (by rw [hg]; exact hXc), hpa _ hL1 hcells]
     rw [over (W - 1) 1 (.inl rfl) (by omega) (by omega) (by omega) [bl] rfl]
    rw [hau] at h2
    rw [put_of_room (.inr rfl) h g1 g2 g3 g4 g5 p2 t2 ht2 hd2, put_of_room (.inr rfl) h2 (hsame.trans g1) (by omega) g3 (by omega) g5 p2 t2 ht2 hd2]
   | false =>
    have hna : ∀ L : List G_api_Line, rp2 (2 : Nat) W (L, (i : Int), (c : Int), false, q.Auto) = some (L, (i : Int), ((W - 2 : Nat) : Int), false, q.Auto) := by
     intro L
     unfold rp2
     simp only [andE_some, bsm]
     rw [if_pos (by simp only [Bool.and_eq_true, beq_iff_eq]; rw [ew1]; omega)]
     simp only [hau, Bool.false_eq_true, if_false]
     rw [ew2]
    have key := fin (W - 2) 2 false false (.inr rfl) hd2 (by omega) (by omega) (by omega) (by unfold rdy; rw [e1]; exact hna _) (by unfold rdy; rw [e2]; exact hna _)
    rw [hau] at key
    exact key
end Go.Proofs.YthokmpbbkpjhbaaGreatDoor
namespace Go.Proofs.YthokmpbbkpjhbaaGreatDoor
open Go Go.Lt
variable {s : Sto} {k g W : Nat} {l p p' : List G_api_Cell} {w : Bool} {q : G_linotyperef34_Pen} {ks : List Nat}
theorem fixv_id {x : Int} (h : vld x = true) : fixv x = x := by unfold fixv; rw [if_pos h]
theorem fixv_fixv' (x : Int) : fixv (fixv x) = fixv x := fixv_id (vld_fixv x)
theorem fx_snoc' {t : List Int} (ht : t.length ≤ 15) (x : Int) : fx (t ++ [fixv x]) = fx (t ++ [x]) := by
 unfold fx
 rw [List.take_of_length_le (by simp; omega), List.take_of_length_le (by simp; omega), List.map_append, List.map_append]
 simp [fixv_fixv']
theorem strip_ne {d : Nat} (hd : d = 1 ∨ d = 2) {t : List Int} (ht : t ≠ []) : strip (d : Int) t = if d = 2 then [⟨2, t⟩, ⟨3, []⟩] else [⟨1, t⟩] := by
 unfold strip
 rw [if_neg ht]
 rcases hd with rfl | rfl <;> rfl
theorem mark_more {l0 : List G_api_Cell} {a d : Nat} {t : List Int} (hdd : d = 1 ∨ d = 2) (h : s.row_Row[k]? = some ⟨pl l0 a (strip d t), w⟩) (hs : Snd (pl l0 a (strip d t))) (hl : l0.length ≤ 1024) (ha : a + d ≤ l0.length) (ht1 : 1 ≤ t.length) (ht2 : t.length ≤ 15) (x : Int) :
  f_mark_Add s (some k) a x = some (s.sr k ⟨pl l0 a (strip d (fx (t ++ [x]))), pw (pl l0 a (strip d t)) w a d⟩, true) := by
 have hne : t ≠ [] := fun e => by rw [e] at ht1; simp at ht1
 have hsl := strip_d d hdd t
 have hc : pc l0 a (strip d t) a = ⟨(d : Int), t⟩ := by
  rw [pc_in ⟨Nat.le_refl _, by rw [hsl]; omega⟩, Nat.sub_self, strip_ne hdd hne]
  rcases hdd with rfl | rfl <;> rfl
 have hkd : kd (pl l0 a (strip d t)) a = (d : Int) := by rw [kd_pl (by omega), hc]
 have hm : mat (pl l0 a (strip d t)) (a : Int) = some a := by
  unfold mat
  rw [if_pos (by rw [pl_len]; omega), Int.toNat_natCast, hkd, if_neg (by omega), if_neg (by omega)]
 unfold f_mark_Add
 rw [mark_at h hs a (by omega), hm]
 have hg : (pl l0 a (strip d t)).getD a bl = ⟨(d : Int), t⟩ := by rw [List.getD_eq_getElem?_getD, pl_get (by omega), hc]; rfl
 simp only [bsm, Bool.not_true, orE_false, hg, hkd]
 rw [if_neg (by simp; omega), app_eq (by simp; omega)]
 simp only [bsm]
 have hsl2 := strip_d d hdd (fx (t ++ [x]))
 rw [mark_put h hs (by rw [pl_len]; exact hl) _ (by simp; omega) (by rw [hsl2, pl_len]; exact ha), pl_over (Nat.le_refl a) (by omega) (by omega), hsl2]
 simp only [bsm, Er.isNil]
def zb (b : Int) : Bool := b == 1 || b == 2 || b == 3 || b == 4 || b == 5 || b == 10 || b == 11
def b2 (x : G_api_Prop) : Bool := !zb x.Break && (x.East == 1 || x.East == 2)
theorem basew_none (b : Int) : f_basew_none b = some (zb b) := by
 unfold f_basew_none zb
 by_cases h1 : b = 1
 ·subst h1; rfl
 by_cases h2 : b = 2
 ·subst h2; rfl
 by_cases h3 : b = 3
 ·subst h3; rfl
 by_cases h4 : b = 4
 ·subst h4; rfl
 by_cases h5 : b = 5
 ·subst h5; rfl
 by_cases h6 : b = 10
 ·subst h6; rfl
 by_cases h7 : b = 11
 ·subst h7; rfl
 simp [h1, h2, h3, h4, h5, h6, h7]
theorem basew_of (x : G_api_Prop) : ∃ n, f_basew_Of x = some n ∧ (n == 2) = b2 x := by
 unfold f_basew_Of b2
 rw [basew_none]
 simp only [bsm, orE_some]
 cases zb x.Break with
 | true => exact ⟨0, rfl, rfl⟩
 | false =>
  cases h : (x.East == 1 || x.East == 2) with
  | true => exact ⟨2, by simp [h], rfl⟩
  | false => exact ⟨1, by simp [h], rfl⟩
def gz (y : G_cwidth_Gauge) (r : Int) (x : G_api_Prop) : G_cwidth_Gauge := ⟨true, x.Pict, y.wide || (b2 x || (y.some && ((r == 65039 && y.pict) || x.Pict || x.Break == 6)))⟩
def wz (y : G_cwidth_Gauge) : Int := if y.wide = true then 2 else 1
theorem gauge_step (y : G_cwidth_Gauge) (r : Int) (x : G_api_Prop) : f_cwidth_Gauge_Step__widen_Cluster_21 y r x = some (gz y r x, wz (gz y r x)) := by
 have hw : f_cwidth_Gauge_widens__widen_Cluster_21 y r x = some (b2 x || (y.some && ((r == 65039 && y.pict) || x.Pict || x.Break == 6))) := by
  unfold f_cwidth_Gauge_widens__widen_Cluster_21
  obtain ⟨n, h1, h2⟩ := basew_of x
  rw [h1]
  simp only [bsm, h2, andE_some, orE_some]
  cases b2 x <;> cases y.some <;> rfl
 unfold f_cwidth_Gauge_Step__widen_Cluster_21
 rw [hw]
 simp only [bsm, orE_some, Bool.false_eq_true, if_false]
 unfold wz gz
 split <;> simp_all
structure Cv (c : G_cluster_Cluster) (t : List Int) : Prop where
 n : c.n = (t.length : Int)
 h : t.length ≤ 16
 t : (a16 c.text).take t.length = t
theorem cl_full {c : G_cluster_Cluster} {t : List Int} (h : Cv c t) : f_cluster_Cluster_Full__widen_Cluster_4 c = some (decide (t.length = 16)) := by
 unfold f_cluster_Cluster_Full__widen_Cluster_4 f_cluster_Cluster_Len__widen_Cluster_4
 simp only [Bool.false_eq_true, if_false, bsm, h.n]
 congr 1
 rw [Bool.eq_iff_iff, beq_iff_eq, decide_eq_true_eq]
 omega
theorem cl_add {c : G_cluster_Cluster} {t : List Int} (h : Cv c t) (h2 : t.length < 16) (x : Int) : ∃ c', f_cluster_Cluster_Add__widen_Cluster_4 c x = some (c', true) ∧ Cv c' (t ++ [x]) := by
 unfold f_cluster_Cluster_Add__widen_Cluster_4
 rw [cl_full h]
 simp only [orE_false, bsm]
 rw [if_neg (by simp; omega), h.n, idx_at (by rw [a16_len]; exact h2)]
 simp only [bsm]
 refine ⟨_, rfl, by simp only; rw [w64_in (by omega)]; simp, by simp; omega, ?_⟩
 simp only
 rw [a16_aset, Int.toNat_natCast, List.length_append]
 simp only [List.length_cons, List.length_nil]
 rw [List.take_succ_eq_append_getElem (by rw [List.length_set, a16_len]; exact h2), List.take_set_of_le (Nat.le_refl _), h.t, List.getElem_set_self]
theorem cl_text {c : G_cluster_Cluster} {t : List Int} (h : Cv c t) : f_cluster_Cluster_Text__widen_Cluster_4 c = some t := by
 unfold f_cluster_Cluster_Text__widen_Cluster_4
 simp only [Bool.false_eq_true, if_false, h.n]
 have := slc_eq (xs := a16 c.text) (i := 0) (j := t.length) (Nat.zero_le _) (by rw [a16_len]; exact h.h)
 rw [show ((0 : Nat) : Int) = 0 by rfl] at this
 rw [this]
 simp only [bsm, List.drop_zero, Nat.sub_zero, h.t]
 unfold f_slices_Clone
 rw [app_eq (by have := h.h; simp; omega)]
 rfl
end Go.Proofs.YthokmpbbkpjhbaaGreatDoor
