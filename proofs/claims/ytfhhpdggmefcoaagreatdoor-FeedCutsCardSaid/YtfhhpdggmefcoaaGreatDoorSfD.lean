/- Parts of the proofs of FeedCuts: the walk through the code, and plain Lean. No condition. -/
import Derived.Test.YtfhhpdggmefcoaaGreatDoorSfA
import Derived.Laws.BytesString
import Derived.Test.YtfhhpdggmefcoaaGreatDoorProg
import Derived.Test.YtfhhpdggmefcoaaGreatDoorSfB
import Derived.Test.YtfhhpdggmefcoaaGreatDoorSfC
import Derived.Shelf.Sort.Plain
import Derived.Shelf.Slices.In.SortNone
import Derived.OpenShut
import Derived.LaidLaws
import Derived.Handed
import Derived.Lay
import Derived.JoinedOf
import Derived.KernelRfl
set_option linter.unusedVariables false
set_option linter.unusedSimpArgs false
namespace Go.Proofs.YtfhhpdggmefcoaaGreatDoor
open Go Go.Lt
set_option maxRecDepth 10000
set_option linter.unusedVariables false
attribute [local irreducible] W WL AC
open Tryz
variable {c0 : Cx} {G : Gm} {F : List En} {sg : Sto} {v1 v2 v3 v4 v5 v6 v7 v8 v9 v10 v11 v12 v13 v14 v15 v16 v17 v18 v19 v20 v21 v22 v23 v24 v25 v26 v27 v28 v29 v30 v31 v32 v33 v34 v35 v36 v37 v38 v39 v40 v41 v42 v43 v44 v45 v46 v47 v48 v49 v50 v51 v52 v53 v54 v55 v56 v57 v58 v59 v60 : Value}
def f_feed_New (sg : Sto) (p0 : Option Nat) : Option (Sto × (Option Nat)) :=
 (orE p0.isNone ((p0).bind fun d =>
 (sg.place_Pen[d]?).bind fun b =>
 some b.G.isNone)).bind fun c =>
 if c = true then
 some (sg, (none : Option Nat))
 else
 (some (sg.add_feed_Feeder (⟨p0, (⟨0, 0, 0, 0, 0⟩ : G_utfdec_Dec), (⟨false, 0, 0, 0, false⟩ : G_seg_State), (none : Option Nat)⟩ : G_feed_Feeder))).bind fun a =>
 some (a, (some sg.feed_Feeder.length))
theorem c_feed_New (t : Own c0 G F) (u : Rel c0 sg G) (k : Option Nat) {r : Sto × (Option Nat)} (n : Pt 2 c0 v1 k) (H : f_feed_New sg k = some r) :
    Calls prog 7 #[v1] c0.w (Post c0 fun c v => ∃ y1, ∃ G_ : Gm, Own c G_ (F) ∧ Rel c r.1 G_ ∧ Adds G G_ ∧ v = y1 ∧ Pt 4 c y1 r.2) := by
 unfold f_feed_New at H
 refine en func7 rfl rfl (sr (va (.pointer none) (wln (W.seq (W.seq (bn H fun T h3 H => W.join (Jn c0 fun c l => Own c G (F) ∧ l = [(0, v1), (11, B T)]) ?_ ?_))))))
 ·clear H
  refine W.region (va (v1) (vr (B k.isNone) (by rcases (n).cs with ⟨d, e⟩ | ⟨b_, d, e⟩ <;> (subst d; rw [e]; kernel_rfl)) ?_))
  rcases bo (k.isNone) with h | h
  ·obtain rfl := orT h h3
   exact vb h (ps (ps (ps (ps (ps (va (B true) (wln ⟨c0, _, _, rfl, pt, us, t, rfl⟩)))))))
  have g := orF h h3
  refine vb h (wn (va (v1) (wn (bn g fun t0 h8 g => ?_))))
  obtain ⟨R, rfl, h7⟩ := (n).get h8
  refine va (Q R) (wn (va (Q R) (wn (bn g fun j h9 g => ?_))))
  obtain ⟨v10, X, U⟩ := Rel.open_place_Pen u h9 h7
  refine vx (le1 0 underlying45 (t.gon X 0 rfl)) (wn (vr (B j.G.isNone) (by rcases (U).cs with ⟨d, e⟩ | ⟨b_, d, e⟩ <;> (subst d; rw [e]; kernel_rfl)) ?_))
  obtain rfl := si g
  exact va (B j.G.isNone) (wln ⟨c0, _, _, rfl, pt, us, t, rfl⟩)
 rintro e_ w_ ⟨S, o0, _, rfl, i, rfl, o, rfl⟩
 refine nrm (cn H (fun Z H => ?_) (fun Z H => ?_))
 ·refine sr (va (.pointer none) (wln (W.ret (thr ?_))))
  obtain rfl := si H
  exact r1 ⟨_, S, rfl, rfl, pt, (.pointer none), G, o, u.m, (Adds.refl _), rfl, rfl⟩
 refine W.skip (nrm (sr (va (v1) ?_)))
 obtain ⟨f, rfl⟩ := ((n.mono i)).form
 refine va (.agg #[.pointer f, I 0, I 0, .int .u8 0, .int .u8 0, I 0, B false, I 0, I 0, I 0, B false, .pointer none]) (me (al 67 [.pointer f, I 0, I 0, .int .u8 0, .int .u8 0, I 0, B false, I 0, I 0, I 0, B false, .pointer none] o) ?_)
 rintro v24 m0 s ⟨a, rfl, A⟩
 have D := A.sD 1 [0]
 refine bn H fun y a0 H => ?_
 obtain ⟨q, z, b0, u0, d0, M, p, q0, f0, N⟩ := Rel.new_feed_Feeder (E := [(Eb a 67 [.pointer f, I 0, I 0, .int .u8 0, .int .u8 0, I 0, B false, I 0, I 0, I 0, B false, .pointer none])]) (F := F) (x := (⟨k, (⟨0, 0, 0, 0, 0⟩ : G_utfdec_Dec), (⟨false, 0, 0, 0, false⟩ : G_seg_State), (none : Option Nat)⟩ : G_feed_Feeder)) (b := a) D (u.mono (i.trans s)) (fun c_ hle_ => ⟨a, (.pointer f), (.pointer none), rfl, rfl, (n.mono ((i.trans s).trans hle_)), rfl⟩)
 rw [Option.some.inj a0] at p
 refine WL.gh b0.1 ?_
 have s0 := Adds.nil (Adds.refl _) f0
 have P := (Adds.refl _).trans N
 have g0 : Pt 4 q (Q a) (some sg.feed_Feeder.length) := ⟨a, rfl, d0⟩
 refine va (Q a) (wln (W.ret ?_))
 obtain rfl := si H
 exact r1 ⟨_, q, rfl, rfl, pt, (Q a), z, M, p, P, rfl, g0⟩
def f_pairs_class (p0 : Int) : Option (Int) :=
 (orE (decide (p0 < 0)) (some (decide (p0 > 13)))).bind fun a =>
 if a = true then
 some 0
 else
 some p0
theorem c_pairs_class (d : Own c0 G F) (a : Int) {r : Int} (H : f_pairs_class a = some r) :
    Calls prog 177 #[I a] c0.w (Post c0 fun c v => Own c G (F) ∧ v = I r) := by
 unfold f_pairs_class at H
 refine en func177 rfl rfl (sr (va (I 0) (wln (W.seq (W.seq (bn H fun g h H => W.join (Jn c0 fun c l => Own c G (F) ∧ l = [(0, I a), (8, B g)]) ?_ ?_))))))
 ·clear H
  refine W.region (va (I a) (va (B (decide (a < 0))) ?_))
  rcases bo (decide (a < 0)) with b | b
  ·obtain rfl := orT b h
   exact vb b (ps (ps (va (B true) (wln ⟨c0, _, _, rfl, pt, us, d, rfl⟩))))
  have j := orF b h
  refine vb b (wn (va (I a) (wn (va (B (decide (a > 13))) ?_))))
  obtain rfl := si j
  exact va (B (decide (a > 13))) (wln ⟨c0, _, _, rfl, pt, us, d, rfl⟩)
 rintro k o ⟨f, m, _, rfl, n, rfl, e, rfl⟩
 refine nrm (cn H (fun i H => ?_) (fun i H => ?_))
 ·refine sr (va (I 0) (wln (W.ret (thr ?_))))
  obtain rfl := si H
  exact r1 ⟨_, f, rfl, rfl, pt, e, rfl⟩
 refine W.skip (nrm (sr (va (I a) (va (I a) (wln (W.ret ?_))))))
 obtain rfl := si H
 exact r1 ⟨_, f, rfl, rfl, pt, e, rfl⟩
def f_pairs_breaks (p0 : Int) : Option (Bool) :=
 if (p0 == 1) = true then
 some true
 else
 if (p0 == 2) = true then
 some true
 else
 if (p0 == 3) = true then
 some true
 else
 some false
theorem c_pairs_breaks (b : Own c0 G F) (a : Int) {r : Bool} (H : f_pairs_breaks a = some r) :
    Calls prog 178 #[I a] c0.w (Post c0 fun c v => Own c G (F) ∧ v = B r) := by
 unfold f_pairs_breaks at H
 refine en func178 rfl rfl (sr (va (B false) (wln (W.seq (sr (va (I a) (wln (W.block (W.seq (W.block (W.block (W.block (W.seq (W.seq (sr (va (B (a == 1)) (va (B (a == 1)) (wln (cn H (fun d H => ?_) (fun d H => ?_))))))))))))))))))))
 ·refine W.exit (thx (thx (bke (bkn (bkn (nrm (W.seq (sr (va (B true) (wln (W.ret (thr (bkr (thr ?_))))))))))))))
  obtain rfl := si H
  exact r1 ⟨_, c0, rfl, rfl, pt, b, rfl⟩
 refine W.skip (nrm (W.seq (sr (va (B (a == 2)) (va (B (a == 2)) (wln (cn H (fun e H => ?_) (fun e H => ?_))))))))
 ·refine W.exit (thx (thx (bko rfl (bke (bkn (nrm (W.seq (sr (va (B true) (wln (W.ret (thr (bkr (thr ?_))))))))))))))
  obtain rfl := si H
  exact r1 ⟨_, c0, rfl, rfl, pt, b, rfl⟩
 refine W.skip (nrm (sr (va (B (a == 3)) (va (B (a == 3)) (wln (cn H (fun f H => ?_) (fun f H => ?_)))))))
 ·refine W.exit (thx (bko rfl (bko rfl (bke (nrm (W.seq (sr (va (B true) (wln (W.ret (thr (bkr (thr ?_)))))))))))))
  obtain rfl := si H
  exact r1 ⟨_, c0, rfl, rfl, pt, b, rfl⟩
 refine W.skip (nrm (W.exit (bko rfl (bko rfl (bko rfl (thx (bke (nrm (sr (va (B false) (wln (W.ret ?_))))))))))))
 obtain rfl := si H
 exact r1 ⟨_, c0, rfl, rfl, pt, b, rfl⟩
def f_pairs_syllable (p0 : Int) (p1 : Int) : Option (Bool) :=
 if (p0 == 9) = true then
 (orE (p1 == 9) (some (p1 == 10))).bind fun a =>
 (orE a (some (p1 == 12))).bind fun b =>
 (orE b (some (p1 == 13))).bind fun c =>
 some c
 else
 (if (p0 == 12) = true then
 some (p0 == 12)
 else
 some (p0 == 10)).bind fun e =>
 if e = true then
 (orE (p1 == 10) (some (p1 == 11))).bind fun d =>
 some d
 else
 (if (p0 == 13) = true then
 some (p0 == 13)
 else
 some (p0 == 11)).bind fun f =>
 if f = true then
 some (p1 == 11)
 else
 some false
theorem c_pairs_syllable (m : Own c0 G F) (b : Int) (a : Int) {r : Bool} (H : f_pairs_syllable b a = some r) :
    Calls prog 179 #[I b, I a] c0.w (Post c0 fun c v => Own c G (F) ∧ v = B r) := by
 unfold f_pairs_syllable at H
 refine en func179 rfl rfl (sr (va (B false) (wln (W.seq (sr (va (I b) (wln (W.block (sr (va (B (b == 9)) (va (B (b == 9)) (wln (cn H (fun h1 H => ?_) (fun h1 H => ?_))))))))))))))
 ·refine W.seq (bn H fun i0 Z H => bn H fun j0 A H => bn H fun x p H => W.join (Jn c0 fun c l => Own c G (F) ∧ l = [(4, B x)]) ?_ ?_)
  ·clear H
   refine W.region (va (I a) (va (B (a == 9)) ?_))
   rcases bo (a == 9) with n | n
   ·obtain rfl := orT n Z
    refine vb n (ps (ps (va (B true) ?_)))
    have h6 : true = true := rfl
    obtain rfl := orT h6 A
    refine vb h6 (ps (ps (va (B true) ?_)))
    have h7 : true = true := rfl
    obtain rfl := orT h7 p
    exact vb h7 (ps (ps (va (B true) (va (B true) (wln ⟨c0, _, _, rfl, pt, us, m, rfl⟩)))))
   have H8 := orF n Z
   refine vb n (wn (va (I a) (wn (va (B (a == 10)) ?_))))
   obtain rfl := si H8
   refine va (B (a == 10)) ?_
   rcases bo (a == 10) with o | o
   ·obtain rfl := orT o A
    refine vb o (ps (ps (va (B true) ?_)))
    have t : true = true := rfl
    obtain rfl := orT t p
    exact vb t (ps (ps (va (B true) (va (B true) (wln ⟨c0, _, _, rfl, pt, us, m, rfl⟩)))))
   have N := orF o A
   refine vb o (wn (va (I a) (wn (va (B (a == 12)) ?_))))
   obtain rfl := si N
   refine va (B (a == 12)) ?_
   rcases bo (a == 12) with i | i
   ·obtain rfl := orT i p
    exact vb i (ps (ps (va (B true) (va (B true) (wln ⟨c0, _, _, rfl, pt, us, m, rfl⟩)))))
   have P := orF i p
   refine vb i (wn (va (I a) (wn (va (B (a == 13)) ?_))))
   obtain rfl := si P
   exact va (B (a == 13)) (va (B (a == 13)) (wln ⟨c0, _, _, rfl, pt, us, m, rfl⟩))
  rintro z D ⟨U, l0, _, rfl, s0, rfl, S, rfl⟩
  refine nrm (W.ret (bkr (thr ?_)))
  obtain rfl := si H
  exact r1 ⟨_, U, rfl, rfl, pt, S, rfl⟩
 refine bn H fun E f d => W.seqJ (Jn c0 fun c l => Own c G (F) ∧ l = [(1, I a), (5, I b), (22, B E)]) ?_ ?_
 ·refine sr (va (B (b == 12)) (va (B (b == 12)) (wln (cn f (fun a0 f => ?_) (fun a0 f => ?_)))))
  ·refine W.skip (nrm ?_)
   obtain rfl := si f
   exact ⟨c0, _, _, rfl, pt, us, m, rfl⟩
  refine W.region (va (B (b == 10)) (va (B (b == 10)) (wln ?_)))
  obtain rfl := si f
  exact ⟨c0, _, _, rfl, pt, us, m, rfl⟩
 rintro z D ⟨e, m0, _, rfl, t0, rfl, k, rfl⟩
 refine cn d (fun b0 d => ?_) (fun b0 d => ?_)
 ·refine W.seq (bn d fun y u d => W.join (Jn e fun c l => Own c G (F) ∧ l = [(4, B y)]) ?_ ?_)
  ·clear d
   refine W.region (va (I a) (va (B (a == 10)) ?_))
   rcases bo (a == 10) with j | j
   ·obtain rfl := orT j u
    exact vb j (ps (ps (va (B true) (va (B true) (wln ⟨e, _, _, rfl, pt, us, k, rfl⟩)))))
   have R := orF j u
   refine vb j (wn (va (I a) (wn (va (B (a == 11)) ?_))))
   obtain rfl := si R
   exact va (B (a == 11)) (va (B (a == 11)) (wln ⟨e, _, _, rfl, pt, us, k, rfl⟩))
  rintro z D ⟨X, o0, _, rfl, u0, rfl, T, rfl⟩
  refine nrm (W.ret (bkr (thr ?_)))
  obtain rfl := si d
  exact r1 ⟨_, X, rfl, rfl, pt, T, rfl⟩
 refine bn d fun M g h => W.seqJ (Jn e fun c l => Own c G (F) ∧ l = [(1, I a), (31, B M)]) ?_ ?_
 ·refine sr (va (B (b == 13)) (va (B (b == 13)) (wln (cn g (fun d0 g => ?_) (fun d0 g => ?_)))))
  ·refine W.skip (nrm ?_)
   obtain rfl := si g
   exact ⟨e, _, _, rfl, pt, us, k, rfl⟩
  refine W.region (va (B (b == 11)) (va (B (b == 11)) (wln ?_)))
  obtain rfl := si g
  exact ⟨e, _, _, rfl, pt, us, k, rfl⟩
 rintro z D ⟨s, q0, _, rfl, v0, rfl, q, rfl⟩
 refine cn h (fun e0 h => ?_) (fun e0 h => ?_)
 ·refine sr (va (I a) (va (B (a == 11)) (va (B (a == 11)) (wln (W.ret (bkr (thr ?_)))))))
  obtain rfl := si h
  exact r1 ⟨_, s, rfl, rfl, pt, q, rfl⟩
 refine W.skip (bkn (nrm (sr (va (B false) (wln (W.ret ?_))))))
 obtain rfl := si h
 exact r1 ⟨_, s, rfl, rfl, pt, q, rfl⟩
def f_pairs_Join (p0 : Int) (p1 : Int) : Option (Int) :=
 (f_pairs_class p0).bind fun b =>
 (f_pairs_class p1).bind fun a =>
 (andE (b == 1) (some (a == 2))).bind fun e =>
 if e = true then
 some 1
 else
 (f_pairs_breaks b).bind fun i =>
 (orE i ((f_pairs_breaks a).bind fun j =>
 some j)).bind fun f =>
 if f = true then
 some 0
 else
 ((f_pairs_syllable b a).bind fun d =>
 if d = true then
 some (d)
 else
 if (a == 4) = true then
 some (a == 4)
 else
 if (a == 5) = true then
 some (a == 5)
 else
 if (a == 8) = true then
 some (a == 8)
 else
 some (b == 7)).bind fun k =>
 if k = true then
 some 1
 else
 ((andE (a == 0) ((orE (b == 5) (some (b == 4))).bind fun g =>
 some g)).bind fun c =>
 if c = true then
 some (c)
 else
 (andE (b == 6) (some (a == 6))).bind fun h =>
 some (h)).bind fun l =>
 if l = true then
 some 2
 else
 some 0
theorem c_pairs_Join (O0 : Own c0 G F) (E : Int) (M : Int) {r : Int} (H : f_pairs_Join E M = some r) :
    Calls prog 144 #[I E, I M] c0.w (Post c0 fun c v => Own c G (F) ∧ v = I r) := by
 unfold f_pairs_Join at H
 refine en func144 rfl rfl (sr (va (I 0) (wln (sr (va (I E) (bn H fun b h1 H => cl (c_pairs_class O0 E h1) ?_))))))
 rintro v7 c6 l6 ⟨O3, rfl⟩
 refine va (I M) (bn H fun a h8 H => cl (c_pairs_class O3 M h8) ?_)
 rintro v14 y b2 ⟨N, rfl⟩
 refine va (I b) (va (I a) (wln (W.seq (W.block (W.seq (bn H fun g0 a0 H => W.join (Jn y fun c l => Own c G (F) ∧ l = [(0, I b), (1, I a), (9, B g0)]) ?_ ?_))))))
 ·clear H
  refine W.region (va (I b) (va (B (b == 1)) ?_))
  rcases bo (b == 1) with k | k
  ·have q0 := anT k a0
   refine vb k (wn (va (I a) (wn (va (B (a == 2)) ?_))))
   obtain rfl := si q0
   exact va (B (a == 2)) (va (B (a == 2)) (wln ⟨y, _, _, rfl, pt, us, N, rfl⟩))
  obtain rfl := anF k a0
  exact vb k (ps (ps (va (B false) (va (B false) (wln ⟨y, _, _, rfl, pt, us, N, rfl⟩)))))
 rintro z A ⟨U, v1, _, rfl, c2, rfl, P, rfl⟩
 refine nrm (cn H (fun z0 H => ?_) (fun z0 H => ?_))
 ·refine sr (va (I 1) (wln (W.ret (bkr (thr ?_)))))
  obtain rfl := si H
  exact r1 ⟨_, U, rfl, rfl, pt, P, rfl⟩
 refine W.seq (bn H fun k0 a1 H => bn H fun h0 b0 H => W.join (Jn U fun c l => Own c G (F) ∧ l = [(0, I b), (1, I a), (16, B h0)]) ?_ ?_)
 ·clear H
  refine W.region (va (I b) (cl (c_pairs_breaks P b a1) ?_))
  rintro v32 w0 d2 ⟨R, rfl⟩
  rcases bo (k0) with m | m
  ·obtain rfl := orT m b0
   exact vb m (ps (ps (va (B true) (va (B true) (wln ⟨w0, _, _, rfl, pt, us, R, rfl⟩)))))
  have u := orF m b0
  refine vb m (wn (va (I a) (wn (bn u fun D b1 u => cl (c_pairs_breaks R a b1) ?_))))
  rintro v41 x0 e2 ⟨u0, rfl⟩
  obtain rfl := si u
  exact va (B D) (va (B D) (wln ⟨x0, _, _, rfl, pt, us, u0, rfl⟩))
 rintro z A ⟨X, w1, _, rfl, f2, rfl, S, rfl⟩
 refine nrm (cn H (fun c1 H => ?_) (fun c1 H => ?_))
 ·refine sr (va (I 0) (wln (W.ret (bkr (thr ?_)))))
  obtain rfl := si H
  exact r1 ⟨_, X, rfl, rfl, pt, S, rfl⟩
 refine bn H fun m0 d g => W.seqJ (Jn X fun c l => Own c G (F) ∧ l = [(0, I b), (1, I a), (23, B m0)]) ?_ ?_
 ·refine sr (va (I b) (va (I a) (bn d fun l0 d1 d => cl (c_pairs_syllable S b a d1) ?_)))
  rintro v57 j g2 ⟨i, rfl⟩
  refine va (B l0) (wln (cn d (fun e1 d => ?_) (fun e1 d => ?_)))
  ·refine W.skip (nrm ?_)
   obtain rfl := si d
   exact ⟨j, _, _, rfl, pt, us, i, rfl⟩
  refine sr (va (I a) (va (B (a == 4)) (va (B (a == 4)) (wln (cn d (fun f1 d => ?_) (fun f1 d => ?_))))))
  ·refine W.skip (nrm ?_)
   obtain rfl := si d
   exact ⟨j, _, _, rfl, pt, us, i, rfl⟩
  refine sr (va (I a) (va (B (a == 5)) (va (B (a == 5)) (wln (cn d (fun g1 d => ?_) (fun g1 d => ?_))))))
  ·refine W.skip (nrm ?_)
   obtain rfl := si d
   exact ⟨j, _, _, rfl, pt, us, i, rfl⟩
  refine sr (va (I a) (va (B (a == 8)) (va (B (a == 8)) (wln (cn d (fun i1 d => ?_) (fun i1 d => ?_))))))
  ·refine W.skip (nrm ?_)
   obtain rfl := si d
   exact ⟨j, _, _, rfl, pt, us, i, rfl⟩
  refine W.region (va (I b) (va (B (b == 7)) (va (B (b == 7)) (wln ?_))))
  obtain rfl := si d
  exact ⟨j, _, _, rfl, pt, us, i, rfl⟩
 rintro z A ⟨f, x1, _, rfl, h2, rfl, s, rfl⟩
 refine cn g (fun j1 g => ?_) (fun j1 g => ?_)
 ·refine sr (va (I 1) (wln (W.ret (bkr (thr ?_)))))
  obtain rfl := si g
  exact r1 ⟨_, f, rfl, rfl, pt, s, rfl⟩
 refine bn g fun o0 e h => W.seqJ (Jn f fun c l => Own c G (F) ∧ l = [(35, B o0)]) ?_ ?_
 ·refine W.seq (bn e fun i0 d0 e => W.join (Jn f fun c l => Own c G (F) ∧ l = [(0, I b), (1, I a), (35, B i0)]) ?_ ?_)
  ·clear e
   refine W.region (va (I a) (va (B (a == 0)) ?_))
   rcases bo (a == 0) with n | n
   ·have q := anT n d0
    refine vb n (wn (va (I b) (wn (va (B (b == 5)) (wn (bn q fun s1 e0 q => ?_))))))
    rcases bo (b == 5) with o | o
    ·obtain rfl := orT o e0
     refine vb o (ps (ps (wn (va (B true) ?_))))
     obtain rfl := si q
     exact va (B true) (va (B true) (wln ⟨f, _, _, rfl, pt, us, s, rfl⟩))
    have s0 := orF o e0
    refine vb o (wn (va (I b) (wn (va (B (b == 4)) (wn ?_)))))
    obtain rfl := si s0
    refine va (B (b == 4)) ?_
    obtain rfl := si q
    exact va (B (b == 4)) (va (B (b == 4)) (wln ⟨f, _, _, rfl, pt, us, s, rfl⟩))
   obtain rfl := anF n d0
   exact vb n (ps (ps (ps (ps (ps (ps (va (B false) (va (B false) (wln ⟨f, _, _, rfl, pt, us, s, rfl⟩)))))))))
  rintro z A ⟨t, y1, _, rfl, i2, rfl, x, rfl⟩
  refine nrm (cn e (fun k1 e => ?_) (fun k1 e => ?_))
  ·refine W.skip (nrm ?_)
   obtain rfl := si e
   exact ⟨t, _, _, rfl, pt, us, x, rfl⟩
  refine bn e fun j0 f0 e => W.join (Jn t fun c l => Own c G (F) ∧ l = [(35, B j0)]) ?_ ?_
  ·clear e
   refine W.region (va (I b) (va (B (b == 6)) ?_))
   rcases bo (b == 6) with p | p
   ·have t0 := anT p f0
    refine vb p (wn (va (I a) (wn (va (B (a == 6)) ?_))))
    obtain rfl := si t0
    exact va (B (a == 6)) (va (B (a == 6)) (wln ⟨t, _, _, rfl, pt, us, x, rfl⟩))
   obtain rfl := anF p f0
   exact vb p (ps (ps (va (B false) (va (B false) (wln ⟨t, _, _, rfl, pt, us, x, rfl⟩)))))
  rintro z A ⟨y0, z1, _, rfl, j2, rfl, v0, rfl⟩
  refine nrm ?_
  obtain rfl := si e
  exact ⟨y0, _, _, rfl, pt, us, v0, rfl⟩
 rintro z A ⟨Z, a2, _, rfl, k2, rfl, T, rfl⟩
 refine cn h (fun m1 h => ?_) (fun m1 h => ?_)
 ·refine sr (va (I 2) (wln (W.ret (bkr (thr ?_)))))
  obtain rfl := si h
  exact r1 ⟨_, Z, rfl, rfl, pt, T, rfl⟩
 refine W.skip (bkn (nrm (sr (va (I 0) (wln (W.ret ?_))))))
 obtain rfl := si h
 exact r1 ⟨_, Z, rfl, rfl, pt, T, rfl⟩
def f_seg_State_Reset__feed_Feeder_6 (p0 : G_seg_State) : Option (G_seg_State) :=
 if true = true then
 some (⟨false, 0, 0, 0, false⟩ : G_seg_State)
 else
 some p0
theorem c_seg_State_Reset__feed_Feeder_6 {a : Nat} {r0_0 : Value} {r0_1 : Value} {r0_2 : Value} {r0_3 : Value} {r0_4 : Value} {r0_5 : Value} {r0_11 : Value} (b : G_seg_State) (e : Own c0 G ((Eb a 67 [r0_0, r0_1, r0_2, r0_3, r0_4, r0_5, B b.some, I b.last, I b.pict, I b.conj, B b.odd, r0_11]) :: F)) {r : G_seg_State} (H : f_seg_State_Reset__feed_Feeder_6 b = some r) :
    Calls prog 50 #[.pointer (some ⟨a, 6, none⟩)] c0.w (Post c0 fun c v => Own c G ((Eb a 67 [r0_0, r0_1, r0_2, r0_3, r0_4, r0_5, B r.some, I r.last, I r.pict, I r.conj, B r.odd, r0_11]) :: F) ∧ v = .tuple #[]) := by
 unfold f_seg_State_Reset__feed_Feeder_6 at H
 refine en func50 rfl rfl (sr (va (.pointer (some ⟨a, 6, none⟩)) (va (B true) (wln (W.cond (t := true) (by kernel_rfl) (fun d => ?_) (fun d => ?_))))))
 ·have H := it d H
  refine W.region (va (.pointer (some ⟨a, 6, none⟩)) (va (.agg #[B false, I 0, I 0, I 0, B false]) (va (.pointer (some ⟨a, 6, none⟩)) (md (sB 64 6 [B false, I 0, I 0, I 0, B false] [r0_0, r0_1, r0_2, r0_3, r0_4, r0_5, B false, I 0, I 0, I 0, B false, r0_11] 0 e ⟨rfl, rfl, rfl, rfl, rfl, trivial⟩) ?_))))
  rintro g h f
  refine WL.nil ?_
  obtain rfl := si H
  exact n0 ⟨_, g, rfl, rfl, pt, f, rfl⟩
 cases d
def f_feed_Feeder_Close (sg : Sto) (p0 : Option Nat) : Option (Sto) :=
 if (!p0.isNone) = true then
 (p0).bind fun c =>
 (sg.feed_Feeder[c]?).bind fun a =>
 (sg.set_feed_Feeder c (⟨a.pen, a.dec, a.seg, (none : Option Nat)⟩ : G_feed_Feeder)).bind fun d =>
 (f_seg_State_Reset__feed_Feeder_6 a.seg).bind fun e =>
 (d.set_feed_Feeder c (⟨a.pen, a.dec, e, (none : Option Nat)⟩ : G_feed_Feeder)).bind fun b =>
 some b
 else
 some sg
theorem c_feed_Feeder_Close (n : Own c0 G F) (i : Rel c0 sg G) (k : Option Nat) {r : Sto} (M : Pt 4 c0 v1 k) (H : f_feed_Feeder_Close sg k = some r) :
    Calls prog 33 #[v1] c0.w (Post c0 fun c v => ∃ G_ : Gm, Own c G_ (F) ∧ Rel c r G_ ∧ v = .tuple #[]) := by
 unfold f_feed_Feeder_Close at H
 refine en func33 rfl rfl (sr (va (v1) (vr (B (!k.isNone)) (by rcases (M).cs with ⟨f, g⟩ | ⟨b_, f, g⟩ <;> (subst f; rw [g]; kernel_rfl)) (wln (cn H (fun T H => ?_) (fun T H => ?_))))))
 ·refine sr (va (v1) (bn H fun g0 U H => ?_))
  obtain ⟨d, rfl, j⟩ := (M).get U
  refine va (Q d) (va (.pointer (some ⟨d, 11, none⟩)) (bn H fun a X H => ?_))
  obtain ⟨v8, v10, A, R, e0⟩ := Rel.open_feed_Feeder i X j
  refine md (gC 65 11 (.pointer none) [v8, I a.dec.held, I a.dec.needs, .int .u8 a.dec.lo, .int .u8 a.dec.hi, I a.dec.bits, B a.seg.some, I a.seg.last, I a.seg.pict, I a.seg.conj, B a.seg.odd, .pointer none] 0 n A ⟨rfl, trivial⟩) ?_
  rintro d0 e o
  refine bn H fun S E H => ?_
  obtain ⟨Z, p, x, D, a0⟩ := Rel.put_feed_Feeder o (i.mono e) (E' := [(Eb d 67 [v8, I a.dec.held, I a.dec.needs, .int .u8 a.dec.lo, .int .u8 a.dec.hi, I a.dec.bits, B a.seg.some, I a.seg.last, I a.seg.pict, I a.seg.conj, B a.seg.odd, .pointer none])]) E ⟨d, v8, (.pointer none), (tm j), rfl, (R.mono e), rfl⟩
  refine wln (W.region (va (Q d) (va (Q d) (va (.pointer (some ⟨d, 6, none⟩)) ?_))))
  have q := p.borrow 0 D rfl
  refine bn H fun b N H => cl (c_seg_State_Reset__feed_Feeder_6 a.seg q N) ?_
  rintro v29 z h ⟨s, rfl⟩
  have t := s.giveB 0 rfl
  refine bn H fun l P H => ?_
  obtain ⟨m, u, y, f0, b0⟩ := Rel.put_feed_Feeder t (x.mono h) (E' := [(Eb d 67 [v8, I a.dec.held, I a.dec.needs, .int .u8 a.dec.lo, .int .u8 a.dec.hi, I a.dec.bits, B b.some, I b.last, I b.pict, I b.conj, B b.odd, .pointer none])]) P ⟨d, v8, (.pointer none), (tm j), rfl, (R.mono (e.trans h)), rfl⟩
  refine WL.nil ?_
  obtain rfl := si H
  exact n0 ⟨_, z, rfl, rfl, pt, m, u, y, rfl⟩
 refine W.skip ?_
 obtain rfl := si H
 exact n0 ⟨_, c0, rfl, rfl, pt, G, n, i, rfl⟩
def f_seg_State_joins__feed_Feeder_6 (p0 : G_seg_State) (p1 : G_api_Prop) : Option (Bool) :=
 if (!p0.some) = true then
 some false
 else
 ((andE (p1.Conj == 1) (some (p0.conj == 2))).bind fun a =>
 if a = true then
 some (a)
 else
 (andE p1.Pict (some (p0.pict == 2))).bind fun c =>
 some (c)).bind fun e =>
 if e = true then
 some true
 else
 (f_pairs_Join p0.last p1.Break).bind fun b =>
 if (b == 1) = true then
 some true
 else
 if (b == 2) = true then
 (andE (p0.last == 6) (some p0.odd)).bind fun d =>
 some d
 else
 some false
theorem c_seg_State_joins__feed_Feeder_6 {b : Nat} {r0_0 : Value} {r0_1 : Value} {r0_2 : Value} {r0_3 : Value} {r0_4 : Value} {r0_5 : Value} {r0_11 : Value} (a : G_seg_State) (e : G_api_Prop) (O0 : Own c0 G ((Eb b 67 [r0_0, r0_1, r0_2, r0_3, r0_4, r0_5, B a.some, I a.last, I a.pict, I a.conj, B a.odd, r0_11]) :: F)) {r : Bool} (H : f_seg_State_joins__feed_Feeder_6 a e = some r) :
    Calls prog 111 #[.pointer (some ⟨b, 6, none⟩), .agg #[I e.Break, B e.Pict, I e.Conj, I e.East]] c0.w (Post c0 fun c v => Own c G ((Eb b 67 [r0_0, r0_1, r0_2, r0_3, r0_4, r0_5, B a.some, I a.last, I a.pict, I a.conj, B a.odd, r0_11]) :: F) ∧ v = B r) := by
 unfold f_seg_State_joins__feed_Feeder_6 at H
 refine en func111 rfl rfl (sr (me (bx 133 [I e.Break, B e.Pict, I e.Conj, I e.East] O0) ?_))
 rintro v5 s l4 ⟨p, rfl, q, M⟩
 refine va (B false) (wln (W.seq (sr (va (.pointer (some ⟨b, 6, none⟩)) (va (.pointer (some ⟨b, 6, none⟩)) (va (.pointer (some ⟨b, 6, none⟩)) (vx (le1 6 underlying4 (q.on 0 rfl)) (va (B (!a.some)) (wln (cn H (fun h6 H => ?_) (fun h6 H => ?_)))))))))))
 ·refine sr (va (B false) (wln (W.ret (thr ?_))))
  obtain rfl := si H
  exact r1 ⟨_, s, rfl, rfl, pt, q, rfl⟩
 refine W.skip (nrm (W.seq (W.block (bn H fun P f d => W.seqJ (Jn s fun c l => Own c G ((Eb b 67 [r0_0, r0_1, r0_2, r0_3, r0_4, r0_5, B a.some, I a.last, I a.pict, I a.conj, B a.odd, r0_11]) :: F) ∧ l = [(0, .pointer (some ⟨b, 6, none⟩)), (3, Q p), (10, B P)]) ?_ ?_))))
 ·refine W.seq (bn f fun z h9 f => W.join (Jn s fun c l => Own c G ((Eb b 67 [r0_0, r0_1, r0_2, r0_3, r0_4, r0_5, B a.some, I a.last, I a.pict, I a.conj, B a.odd, r0_11]) :: F) ∧ l = [(0, .pointer (some ⟨b, 6, none⟩)), (3, Q p), (10, B z)]) ?_ ?_)
  ·clear f
   refine W.region (va (.pointer (some ⟨p, 0 + 2, none⟩)) (vx (l1 underlying3 (M 2 _ rfl)) (va (B (e.Conj == 1)) ?_)))
   rcases bo (e.Conj == 1) with j | j
   ·have R := anT j h9
    refine vb j (wn (va (.pointer (some ⟨b, 6, none⟩)) (wn (va (.pointer (some ⟨b, 6, none⟩)) (wn (va (.pointer (some ⟨b, 9, none⟩)) (wn (vx (le1 9 underlying3 (q.on 0 rfl)) (wn (va (B (a.conj == 2)) ?_))))))))))
    obtain rfl := si R
    exact va (B (a.conj == 2)) (va (B (a.conj == 2)) (wln ⟨s, _, _, rfl, pt, us, q, rfl⟩))
   obtain rfl := anF j h9
   exact vb j (ps (ps (ps (ps (ps (va (B false) (va (B false) (wln ⟨s, _, _, rfl, pt, us, q, rfl⟩))))))))
  rintro E N ⟨o, u0, _, rfl, y0, rfl, n, rfl⟩
  refine nrm (cn f (fun e0 f => ?_) (fun e0 f => ?_))
  ·refine W.skip (nrm ?_)
   obtain rfl := si f
   exact ⟨o, _, _, rfl, pt, us, n, rfl⟩
  refine bn f fun A x f => W.join (Jn o fun c l => Own c G ((Eb b 67 [r0_0, r0_1, r0_2, r0_3, r0_4, r0_5, B a.some, I a.last, I a.pict, I a.conj, B a.odd, r0_11]) :: F) ∧ l = [(0, .pointer (some ⟨b, 6, none⟩)), (3, Q p), (10, B A)]) ?_ ?_
  ·clear f
   refine W.region (va (.pointer (some ⟨p, 0 + 1, none⟩)) (vx (l1 underlying4 ((mm M) 1 _ rfl)) ?_))
   rcases bo (e.Pict) with k | k
   ·have S := anT k x
    refine vb k (wn (va (.pointer (some ⟨b, 6, none⟩)) (wn (va (.pointer (some ⟨b, 6, none⟩)) (wn (va (.pointer (some ⟨b, 8, none⟩)) (wn (vx (le1 8 underlying3 (n.on 0 rfl)) (wn (va (B (a.pict == 2)) ?_))))))))))
    obtain rfl := si S
    exact va (B (a.pict == 2)) (va (B (a.pict == 2)) (wln ⟨o, _, _, rfl, pt, us, n, rfl⟩))
   obtain rfl := anF k x
   exact vb k (ps (ps (ps (ps (ps (va (B false) (va (B false) (wln ⟨o, _, _, rfl, pt, us, n, rfl⟩))))))))
  rintro E N ⟨Z, v0, _, rfl, z0, rfl, U, rfl⟩
  refine nrm ?_
  obtain rfl := si f
  exact ⟨Z, _, _, rfl, pt, us, U, rfl⟩
 rintro E N ⟨a0, w0, _, rfl, a1, rfl, t, rfl⟩
 refine cn d (fun f0 d => ?_) (fun f0 d => ?_)
 ·refine sr (va (B true) (wln (W.ret (bkr (thr ?_)))))
  obtain rfl := si d
  exact r1 ⟨_, a0, rfl, rfl, pt, t, rfl⟩
 refine W.skip (bkn (nrm (W.seq (W.seq (rD [] (Kp G0 [(Eb b 67 [r0_0, r0_1, r0_2, r0_3, r0_4, r0_5, B a.some, I a.last, I a.pict, I a.conj, B a.odd, r0_11])]) t ?_)))))
 intro b0 c1 u
 have l0 : Kp G0 [(Eb b 67 [r0_0, r0_1, r0_2, r0_3, r0_4, r0_5, B a.some, I a.last, I a.pict, I a.conj, B a.odd, r0_11])] b0 := (Kp.cons (u.on 0 rfl) Kp.nil0)
 refine ta 0 (.pointer (some ⟨b, 6, none⟩)) (ta 1 (.pointer (some ⟨b, 6, none⟩)) (ta 2 (.pointer (some ⟨b, 7, none⟩)) (tkx 3 l0 (fun c' k0 hk => le1 7 underlying3 (hk.on 0 rfl)) (ta 4 (Q p) (tx 5 (fun c' k0 => l1 underlying3 ((mm M) 0 _ rfl)) (bn d fun i g0 d => o1 6 (gc 6 (c_pairs_Join u a.last e.Break g0) ?_)))))))
 rintro v44 h d1 ⟨g, rfl⟩
 have m0 : Kp G0 [(Eb b 67 [r0_0, r0_1, r0_2, r0_3, r0_4, r0_5, B a.some, I a.last, I a.pict, I a.conj, B a.odd, r0_11])] h := (Kp.cons (g.on 0 rfl) Kp.nil0)
 refine ⟨.inr m0, dn (nrm (W.block (sr (va (B (i == 1)) (va (B (i == 1)) (wln (cn d (fun h0 d => ?_) (fun h0 d => ?_))))))))⟩
 ·refine sr (va (B true) (wln (W.ret (bkr (thr ?_)))))
  obtain rfl := si d
  exact r1 ⟨_, h, rfl, rfl, pt, g, rfl⟩
 refine sr (va (B (i == 2)) (va (B (i == 2)) (wln (cn d (fun i0 d => ?_) (fun i0 d => ?_)))))
 ·refine W.seq (bn d fun D y d => W.join (Jn h fun c l => Own c G ((Eb b 67 [r0_0, r0_1, r0_2, r0_3, r0_4, r0_5, B a.some, I a.last, I a.pict, I a.conj, B a.odd, r0_11]) :: F) ∧ l = [(4, B D)]) ?_ ?_)
  ·clear d
   refine W.region (va (.pointer (some ⟨b, 6, none⟩)) (va (.pointer (some ⟨b, 6, none⟩)) (va (.pointer (some ⟨b, 7, none⟩)) (vx (le1 7 underlying3 (g.on 0 rfl)) (va (B (a.last == 6)) ?_)))))
   rcases bo (a.last == 6) with m | m
   ·have T := anT m y
    refine vb m (wn (va (.pointer (some ⟨b, 6, none⟩)) (wn (va (.pointer (some ⟨b, 6, none⟩)) (wn (va (.pointer (some ⟨b, 10, none⟩)) (wn (vx (le1 10 underlying4 (g.on 0 rfl)) ?_))))))))
    obtain rfl := si T
    exact va (B a.odd) (va (B a.odd) (wln ⟨h, _, _, rfl, pt, us, g, rfl⟩))
   obtain rfl := anF m y
   exact vb m (ps (ps (ps (ps (va (B false) (va (B false) (wln ⟨h, _, _, rfl, pt, us, g, rfl⟩)))))))
  rintro E N ⟨d0, x0, _, rfl, e1, rfl, X, rfl⟩
  refine nrm (W.ret (bkr (thr ?_)))
  obtain rfl := si d
  exact r1 ⟨_, d0, rfl, rfl, pt, X, rfl⟩
 refine W.skip (bkn (nrm (sr (va (B false) (wln (W.ret ?_))))))
 obtain rfl := si d
 exact r1 ⟨_, h, rfl, rfl, pt, g, rfl⟩
def f_seg_State_picture__feed_Feeder_6 (p0 : G_seg_State) (p1 : G_api_Prop) : Option (Int) :=
 if p1.Pict = true then
 some 1
 else
 (andE (p0.pict == 1) (some (p1.Break == 4))).bind fun a =>
 if a = true then
 some 1
 else
 (andE (p0.pict == 1) (some (p1.Break == 5))).bind fun b =>
 if b = true then
 some 2
 else
 some 0
theorem c_seg_State_picture__feed_Feeder_6 {b : Nat} {r0_0 : Value} {r0_1 : Value} {r0_2 : Value} {r0_3 : Value} {r0_4 : Value} {r0_5 : Value} {r0_11 : Value} (a : G_seg_State) (d : G_api_Prop) (A : Own c0 G ((Eb b 67 [r0_0, r0_1, r0_2, r0_3, r0_4, r0_5, B a.some, I a.last, I a.pict, I a.conj, B a.odd, r0_11]) :: F)) {r : Int} (H : f_seg_State_picture__feed_Feeder_6 a d = some r) :
    Calls prog 112 #[.pointer (some ⟨b, 6, none⟩), .agg #[I d.Break, B d.Pict, I d.Conj, I d.East]] c0.w (Post c0 fun c v => Own c G ((Eb b 67 [r0_0, r0_1, r0_2, r0_3, r0_4, r0_5, B a.some, I a.last, I a.pict, I a.conj, B a.odd, r0_11]) :: F) ∧ v = I r) := by
 unfold f_seg_State_picture__feed_Feeder_6 at H
 refine en func112 rfl rfl (sr (me (bx 133 [I d.Break, B d.Pict, I d.Conj, I d.East] A) ?_))
 rintro v5 k T ⟨j, rfl, i, s⟩
 refine va (I 0) (wln (W.seq (W.block (sr (va (.pointer (some ⟨j, 0 + 1, none⟩)) (vx (l1 underlying4 (s 1 _ rfl)) (va (B d.Pict) (wln (cn H (fun E H => ?_) (fun E H => ?_))))))))))
 ·refine sr (va (I 1) (wln (W.ret (bkr (thr ?_)))))
  obtain rfl := si H
  exact r1 ⟨_, k, rfl, rfl, pt, i, rfl⟩
 refine W.seq (bn H fun p y H => W.join (Jn k fun c l => Own c G ((Eb b 67 [r0_0, r0_1, r0_2, r0_3, r0_4, r0_5, B a.some, I a.last, I a.pict, I a.conj, B a.odd, r0_11]) :: F) ∧ l = [(0, .pointer (some ⟨b, 6, none⟩)), (3, Q j), (8, B p)]) ?_ ?_)
 ·clear H
  refine W.region (va (.pointer (some ⟨b, 6, none⟩)) (va (.pointer (some ⟨b, 6, none⟩)) (va (.pointer (some ⟨b, 8, none⟩)) (vx (le1 8 underlying3 (i.on 0 rfl)) (va (B (a.pict == 1)) ?_)))))
  rcases bo (a.pict == 1) with h | h
  ·have z := anT h y
   refine vb h (wn (va (Q j) (wn (vx (l1 underlying3 (s 0 _ rfl)) (wn (va (B (d.Break == 4)) ?_))))))
   obtain rfl := si z
   exact va (B (d.Break == 4)) (va (B (d.Break == 4)) (wln ⟨k, _, _, rfl, pt, us, i, rfl⟩))
  obtain rfl := anF h y
  exact vb h (ps (ps (ps (va (B false) (va (B false) (wln ⟨k, _, _, rfl, pt, us, i, rfl⟩))))))
 rintro D M ⟨g, N, _, rfl, R, rfl, f, rfl⟩
 refine nrm (cn H (fun u H => ?_) (fun u H => ?_))
 ·refine sr (va (I 1) (wln (W.ret (bkr (thr ?_)))))
  obtain rfl := si H
  exact r1 ⟨_, g, rfl, rfl, pt, f, rfl⟩
 refine W.seq (bn H fun q o H => W.join (Jn g fun c l => Own c G ((Eb b 67 [r0_0, r0_1, r0_2, r0_3, r0_4, r0_5, B a.some, I a.last, I a.pict, I a.conj, B a.odd, r0_11]) :: F) ∧ l = [(19, B q)]) ?_ ?_)
 ·clear H
  refine W.region (va (.pointer (some ⟨b, 6, none⟩)) (va (.pointer (some ⟨b, 6, none⟩)) (va (.pointer (some ⟨b, 8, none⟩)) (vx (le1 8 underlying3 (f.on 0 rfl)) (va (B (a.pict == 1)) ?_)))))
  rcases bo (a.pict == 1) with e | e
  ·have t := anT e o
   refine vb e (wn (va (Q j) (wn (vx (l1 underlying3 ((mm s) 0 _ rfl)) (wn (va (B (d.Break == 5)) ?_))))))
   obtain rfl := si t
   exact va (B (d.Break == 5)) (va (B (d.Break == 5)) (wln ⟨g, _, _, rfl, pt, us, f, rfl⟩))
  obtain rfl := anF e o
  exact vb e (ps (ps (ps (va (B false) (va (B false) (wln ⟨g, _, _, rfl, pt, us, f, rfl⟩))))))
 rintro D M ⟨n, P, _, rfl, S, rfl, m, rfl⟩
 refine nrm (cn H (fun x H => ?_) (fun x H => ?_))
 ·refine sr (va (I 2) (wln (W.ret (bkr (thr ?_)))))
  obtain rfl := si H
  exact r1 ⟨_, n, rfl, rfl, pt, m, rfl⟩
 refine W.skip (bkn (nrm (sr (va (I 0) (wln (W.ret ?_))))))
 obtain rfl := si H
 exact r1 ⟨_, n, rfl, rfl, pt, m, rfl⟩
def f_seg_State_conjunct__feed_Feeder_6 (p0 : G_seg_State) (p1 : G_api_Prop) : Option (Int) :=
 if (p1.Conj == 1) = true then
 some 1
 else
 if (p0.conj == 0) = true then
 some 0
 else
 if (p1.Conj == 2) = true then
 some 2
 else
 if (p1.Conj == 3) = true then
 some p0.conj
 else
 some 0
theorem c_seg_State_conjunct__feed_Feeder_6 {b : Nat} {r0_0 : Value} {r0_1 : Value} {r0_2 : Value} {r0_3 : Value} {r0_4 : Value} {r0_5 : Value} {r0_11 : Value} (d : G_seg_State) (a : G_api_Prop) (i : Own c0 G ((Eb b 67 [r0_0, r0_1, r0_2, r0_3, r0_4, r0_5, B d.some, I d.last, I d.pict, I d.conj, B d.odd, r0_11]) :: F)) {r : Int} (H : f_seg_State_conjunct__feed_Feeder_6 d a = some r) :
    Calls prog 113 #[.pointer (some ⟨b, 6, none⟩), .agg #[I a.Break, B a.Pict, I a.Conj, I a.East]] c0.w (Post c0 fun c v => Own c G ((Eb b 67 [r0_0, r0_1, r0_2, r0_3, r0_4, r0_5, B d.some, I d.last, I d.pict, I d.conj, B d.odd, r0_11]) :: F) ∧ v = I r) := by
 unfold f_seg_State_conjunct__feed_Feeder_6 at H
 refine en func113 rfl rfl (sr (me (bx 133 [I a.Break, B a.Pict, I a.Conj, I a.East] i) ?_))
 rintro v5 f n ⟨g, rfl, e, h⟩
 refine va (I 0) (wln (W.seq (W.block (sr (va (.pointer (some ⟨g, 0 + 2, none⟩)) (vx (l1 underlying3 (h 2 _ rfl)) (va (B (a.Conj == 1)) (va (B (a.Conj == 1)) (wln (cn H (fun j H => ?_) (fun j H => ?_)))))))))))
 ·refine sr (va (I 1) (wln (W.ret (bkr (thr ?_)))))
  obtain rfl := si H
  exact r1 ⟨_, f, rfl, rfl, pt, e, rfl⟩
 refine sr (va (.pointer (some ⟨b, 6, none⟩)) (va (.pointer (some ⟨b, 6, none⟩)) (va (.pointer (some ⟨b, 9, none⟩)) (vx (le1 9 underlying3 (e.on 0 rfl)) (va (B (d.conj == 0)) (va (B (d.conj == 0)) (wln (cn H (fun k H => ?_) (fun k H => ?_)))))))))
 ·refine sr (va (I 0) (wln (W.ret (bkr (thr ?_)))))
  obtain rfl := si H
  exact r1 ⟨_, f, rfl, rfl, pt, e, rfl⟩
 refine sr (va (.pointer (some ⟨g, 0 + 2, none⟩)) (vx (l1 underlying3 (h 2 _ rfl)) (va (B (a.Conj == 2)) (va (B (a.Conj == 2)) (wln (cn H (fun l H => ?_) (fun l H => ?_)))))))
 ·refine sr (va (I 2) (wln (W.ret (bkr (thr ?_)))))
  obtain rfl := si H
  exact r1 ⟨_, f, rfl, rfl, pt, e, rfl⟩
 refine sr (va (.pointer (some ⟨g, 0 + 2, none⟩)) (vx (l1 underlying3 (h 2 _ rfl)) (va (B (a.Conj == 3)) (va (B (a.Conj == 3)) (wln (cn H (fun m H => ?_) (fun m H => ?_)))))))
 ·refine sr (va (.pointer (some ⟨b, 6, none⟩)) (va (.pointer (some ⟨b, 6, none⟩)) (va (.pointer (some ⟨b, 9, none⟩)) (vx (le1 9 underlying3 (e.on 0 rfl)) (va (I d.conj) (wln (W.ret (bkr (thr ?_)))))))))
  obtain rfl := si H
  exact r1 ⟨_, f, rfl, rfl, pt, e, rfl⟩
 refine W.skip (bkn (nrm (sr (va (I 0) (wln (W.ret ?_))))))
 obtain rfl := si H
 exact r1 ⟨_, f, rfl, rfl, pt, e, rfl⟩
def f_seg_State_Step__feed_Feeder_6 (p0 : G_seg_State) (p1 : G_api_Prop) : Option (G_seg_State × Bool) :=
 if false = true then
 some (p0, false)
 else
 (f_seg_State_joins__feed_Feeder_6 p0 p1).bind fun d =>
 (f_seg_State_picture__feed_Feeder_6 p0 p1).bind fun e =>
 (f_seg_State_conjunct__feed_Feeder_6 p0 p1).bind fun f =>
 (andE (p1.Break == 6) ((andE p0.some (some (p0.last == 6))).bind fun b =>
 (andE b (some p0.odd)).bind fun c =>
 some (!c))).bind fun a =>
 some ((⟨true, p1.Break, e, f, a⟩ : G_seg_State), d)
theorem c_seg_State_Step__feed_Feeder_6 {a : Nat} {r0_0 : Value} {r0_1 : Value} {r0_2 : Value} {r0_3 : Value} {r0_4 : Value} {r0_5 : Value} {r0_11 : Value} (b : G_seg_State) (f : G_api_Prop) (O0 : Own c0 G ((Eb a 67 [r0_0, r0_1, r0_2, r0_3, r0_4, r0_5, B b.some, I b.last, I b.pict, I b.conj, B b.odd, r0_11]) :: F)) {r : G_seg_State × Bool} (H : f_seg_State_Step__feed_Feeder_6 b f = some r) :
    Calls prog 78 #[.pointer (some ⟨a, 6, none⟩), .agg #[I f.Break, B f.Pict, I f.Conj, I f.East]] c0.w (Post c0 fun c v => Own c G ((Eb a 67 [r0_0, r0_1, r0_2, r0_3, r0_4, r0_5, B r.1.some, I r.1.last, I r.1.pict, I r.1.conj, B r.1.odd, r0_11]) :: F) ∧ v = B r.2) := by
 unfold f_seg_State_Step__feed_Feeder_6 at H
 refine en func78 rfl rfl (sr (me (bx 133 [I f.Break, B f.Pict, I f.Conj, I f.East] O0) ?_))
 rintro v5 c4 l4 ⟨A, rfl, O2, o⟩
 refine va (B false) (wln (W.seq (sr (va (.pointer (some ⟨a, 6, none⟩)) (va (B false) (wln (W.cond (t := false) (by kernel_rfl) (fun E => ?_) (fun E => ?_))))))))
 ·cases E
 have H := ie E H
 refine W.skip (nrm (sr (va (.pointer (some ⟨a, 6, none⟩)) (vx (lN 133 o) (bn H fun i h8 H => cl (c_seg_State_joins__feed_Feeder_6 b f O2 h8) ?_)))))
 rintro v14 j1 n1 ⟨P, rfl⟩
 refine va (B i) (wln (W.seq (rD [] (Kp G0 []) P ?_)))
 intro i0 q1 R
 have e2 : Kp G0 [] i0 := Kp.nil0
 refine ta 0 (.pointer (some ⟨a, 6, none⟩)) (ta 1 (.pointer (some ⟨a, 6, none⟩)) (ta 2 (.pointer (some ⟨a, 6, none⟩)) (tx 3 (fun c' z => lN 133 (mm o)) (ta 5 (.pointer (some ⟨a, 6, none⟩)) (tx 6 (fun c' z => lN 133 (mm o)) (bn H fun d v0 H => o1 4 (gc 4 (c_seg_State_picture__feed_Feeder_6 b f R v0) ?_)))))))
 rintro v25 j0 s1 ⟨S, rfl⟩
 have y0 : Kp G0 [] j0 := Kp.nil0
 refine ⟨.inr y0, bn H fun e w0 H => o1 7 (gc 7 (c_seg_State_conjunct__feed_Feeder_6 b f S w0) ?_)⟩
 rintro v34 k0 t1 ⟨T, rfl⟩
 have z0 : Kp G0 [] k0 := Kp.nil0
 refine ⟨.inr z0, ta 8 (.pointer (some ⟨a, 6, none⟩)) (ta 9 (.pointer (some ⟨a, 8, none⟩)) (o1 10 (gD 10 (sC 3 8 (I d) [r0_0, r0_1, r0_2, r0_3, r0_4, r0_5, B b.some, I b.last, I d, I b.conj, B b.odd, r0_11] 0 T ⟨rfl, trivial⟩) ?_)))⟩
 rintro l0 u1 U
 have a1 : Kp G0 [] l0 := Kp.nil0
 refine ⟨.inr a1, ta 11 (.pointer (some ⟨a, 6, none⟩)) (ta 12 (.pointer (some ⟨a, 9, none⟩)) (o1 13 (gD 13 (sC 3 9 (I e) [r0_0, r0_1, r0_2, r0_3, r0_4, r0_5, B b.some, I b.last, I d, I e, B b.odd, r0_11] 0 U ⟨rfl, trivial⟩) ?_)))⟩
 rintro p v1 h
 have c1 : Kp G0 [] p := Kp.nil0
 refine ⟨.inr c1, dn (nrm (W.seq (bn H fun n s H => W.join (Jn p fun c l => Own c G ((Eb a 67 [r0_0, r0_1, r0_2, r0_3, r0_4, r0_5, B b.some, I b.last, I d, I e, B n, r0_11]) :: F) ∧ l = [(0, .pointer (some ⟨a, 6, none⟩)), (3, Q A), (5, B i)]) ?_ ?_)))⟩
 ·clear H
  refine W.region (va (.pointer (some ⟨a, 6, none⟩)) (va (Q A) (vx (l1 underlying3 ((mm o) 0 _ rfl)) (va (B (f.Break == 6)) ?_))))
  rcases bo (f.Break == 6) with j | j
  ·have g := anT j s
   refine vb j (wn (va (.pointer (some ⟨a, 6, none⟩)) (wn (va (.pointer (some ⟨a, 6, none⟩)) (wn (va (.pointer (some ⟨a, 6, none⟩)) (wn (vx (le1 6 underlying4 (h.on 0 rfl)) (wn (bn g fun h1 u g => ?_))))))))))
   rcases bo (b.some) with k | k
   ·have M := anT k u
    refine vb k (wn (va (.pointer (some ⟨a, 6, none⟩)) (wn (va (.pointer (some ⟨a, 6, none⟩)) (wn (va (.pointer (some ⟨a, 7, none⟩)) (wn (vx (le1 7 underlying3 (h.on 0 rfl)) (wn (va (B (b.last == 6)) (wn ?_)))))))))))
    obtain rfl := si M
    refine va (B (b.last == 6)) (wn (bn g fun D x g => ?_))
    rcases bo (b.last == 6) with m | m
    ·have N := anT m x
     refine vb m (wn (va (.pointer (some ⟨a, 6, none⟩)) (wn (va (.pointer (some ⟨a, 6, none⟩)) (wn (va (.pointer (some ⟨a, 10, none⟩)) (wn (vx (le1 10 underlying4 (h.on 0 rfl)) (wn ?_)))))))))
     obtain rfl := si N
     refine va (B b.odd) (wn (va (B (!b.odd)) ?_))
     obtain rfl := si g
     refine va (B (!b.odd)) (va (.pointer (some ⟨a, 6, none⟩)) (va (.pointer (some ⟨a, 10, none⟩)) (md (sC 4 10 (B (!b.odd)) [r0_0, r0_1, r0_2, r0_3, r0_4, r0_5, B b.some, I b.last, I d, I e, B (!b.odd), r0_11] 0 h ⟨rfl, trivial⟩) ?_)))
     rintro m0 w1 X
     exact wln ⟨m0, _, _, rfl, pt, us, X, rfl⟩
    obtain rfl := anF m x
    refine vb m (ps (ps (ps (ps (wn (va (B false) (wn (va (B (!false)) ?_))))))))
    obtain rfl := si g
    refine va (B (!false)) (va (.pointer (some ⟨a, 6, none⟩)) (va (.pointer (some ⟨a, 10, none⟩)) (md (sC 4 10 (B (!false)) [r0_0, r0_1, r0_2, r0_3, r0_4, r0_5, B b.some, I b.last, I d, I e, B (!false), r0_11] 0 h ⟨rfl, trivial⟩) ?_)))
    rintro o0 x1 Z
    exact wln ⟨o0, _, _, rfl, pt, us, Z, rfl⟩
   obtain rfl := anF k u
   refine vb k (ps (ps (ps (ps (ps (wn (va (B false) (wn (bn g fun D x0 g => ?_)))))))))
   have y : false = false := rfl
   obtain rfl := anF y x0
   refine vb y (ps (ps (ps (ps (wn (va (B false) (wn (va (B (!false)) ?_))))))))
   obtain rfl := si g
   refine va (B (!false)) (va (.pointer (some ⟨a, 6, none⟩)) (va (.pointer (some ⟨a, 10, none⟩)) (md (sC 4 10 (B (!false)) [r0_0, r0_1, r0_2, r0_3, r0_4, r0_5, B b.some, I b.last, I d, I e, B (!false), r0_11] 0 h ⟨rfl, trivial⟩) ?_)))
   rintro q0 y1 a0
   exact wln ⟨q0, _, _, rfl, pt, us, a0, rfl⟩
  obtain rfl := anF j s
  refine vb j (ps (ps (ps (ps (ps (ps (ps (ps (ps (ps (ps (ps (ps (ps (ps (ps (ps (ps (va (B false) (va (.pointer (some ⟨a, 6, none⟩)) (va (.pointer (some ⟨a, 10, none⟩)) (md (sC 4 10 (B false) [r0_0, r0_1, r0_2, r0_3, r0_4, r0_5, B b.some, I b.last, I d, I e, B false, r0_11] 0 h ⟨rfl, trivial⟩) ?_))))))))))))))))))))))
  rintro s0 z1 b0
  exact wln ⟨s0, _, _, rfl, pt, us, b0, rfl⟩
 rintro e_ w_ ⟨k1, m1, _, rfl, a2, rfl, d0, rfl⟩
 refine nrm (W.seq (rD [] (Kp G0 []) d0 ?_))
 intro t0 b2 e0
 have f2 : Kp G0 [] t0 := Kp.nil0
 refine ta 0 (.pointer (some ⟨a, 6, none⟩)) (ta 1 (.pointer (some ⟨a, 6, none⟩)) (ta 2 (Q A) (tx 3 (fun c' z => l1 underlying3 ((mm o) 0 _ rfl)) (ta 4 (.pointer (some ⟨a, 6, none⟩)) (ta 5 (.pointer (some ⟨a, 6, none⟩)) (o1 6 (gD 6 (sC 4 6 (B true) [r0_0, r0_1, r0_2, r0_3, r0_4, r0_5, B true, I b.last, I d, I e, B n, r0_11] 0 e0 ⟨rfl, trivial⟩) ?_)))))))
 rintro u0 c2 f0
 have d1 : Kp G0 [] u0 := Kp.nil0
 refine ⟨.inr d1, ta 7 (.pointer (some ⟨a, 6, none⟩)) (ta 8 (.pointer (some ⟨a, 7, none⟩)) (o1 9 (gD 9 (sC 3 7 (I f.Break) [r0_0, r0_1, r0_2, r0_3, r0_4, r0_5, B true, I f.Break, I d, I e, B n, r0_11] 0 f0 ⟨rfl, trivial⟩) ?_)))⟩
 rintro q d2 g0
 have e1 : Kp G0 [] q := Kp.nil0
 refine ⟨.inr e1, dn (nrm (sr (va (B i) (va (B i) (wln (W.ret ?_))))))⟩
 obtain rfl := si H
 exact r1 ⟨_, q, rfl, rfl, pt, g0, rfl⟩
def f_feed_Feeder_comes (sg : Sto) (p0 : Option Nat) (p1 : Int) : Option (Sto) :=
 (f_basew_Silent p1).bind fun s =>
 if s = true then
 (f_feed_Feeder_Close sg p0).bind fun k =>
 (p0).bind fun r =>
 (k.feed_Feeder[r]?).bind fun n =>
 (f_ctrl_Do k n.pen p1).bind fun p =>
 some p.1
 else
 (f_ucd_Of p1).bind fun e =>
 (p0).bind fun h =>
 (sg.feed_Feeder[h]?).bind fun a =>
 (f_seg_State_Step__feed_Feeder_6 a.seg e).bind fun j =>
 (sg.set_feed_Feeder h (⟨a.pen, a.dec, j.1, a.open_⟩ : G_feed_Feeder)).bind fun b =>
 (andE j.2 (some (!a.open_.isNone))).bind fun l =>
 if l = true then
 (p0).bind fun m =>
 (b.feed_Feeder[m]?).bind fun i =>
 (f_widen_Cluster_Join b i.open_ i.pen p1 e).bind fun q =>
 some q.1
 else
 (p0).bind fun c =>
 (b.feed_Feeder[c]?).bind fun o =>
 (f_widen_Begin b o.pen p1 e).bind fun f =>
 (f.1.feed_Feeder[c]?).bind fun d =>
 (f.1.set_feed_Feeder c (⟨d.pen, d.dec, d.seg, f.2⟩ : G_feed_Feeder)).bind fun g =>
 some g
theorem c_feed_Feeder_comes (O0 : Own c0 G F) (R0 : Rel c0 sg G) (hG : Gl [0, 1] c0) (p0 : Option Nat) (f : Int) {r : Sto} (U : Pt 4 c0 v1 p0) (H : f_feed_Feeder_comes sg p0 f = some r) :
    Calls prog 46 #[v1, J f] c0.w (Post c0 fun c v => ∃ G_ : Gm, Own c G_ (F) ∧ Rel c r G_ ∧ v = .tuple #[]) := by
 unfold f_feed_Feeder_comes at H
 refine en func46 rfl rfl (W.seq (sr (va (J f) (bn H fun e5 h3 H => cl (c_basew_Silent O0 f h3) ?_))))
 rintro v9 c8 N ⟨O5, rfl⟩
 refine wln (cn H (fun w2 H => ?_) (fun w2 H => ?_))
 ·refine sr (va (v1) (bn H fun f5 x2 H => cl (c_feed_Feeder_Close O5 R0.m p0 U.m x2) ?_))
  rintro v17 t4 l16 ⟨r4, g0, j0, rfl⟩
  refine wln (sr (va (v1) (bn H fun z4 z2 H => ?_)))
  obtain ⟨l0, rfl, y2⟩ := ((U.mono (N.trans l16))).get z2
  refine va (Q l0) (va (Q l0) (bn H fun z1 a3 H => ?_))
  obtain ⟨v22, v24, c3, b3, y4⟩ := Rel.open_feed_Feeder j0 a3 y2
  refine vx (le1 0 underlying28 (g0.gon c3 0 rfl)) (va (J f) (bn H fun o4 d3 H => cl (c_ctrl_Do g0 j0 z1.pen f b3 d3) ?_))
  rintro v33 s2 a5 ⟨d2, g2, q2, rfl⟩
  refine wln (W.ret (thr ?_))
  obtain rfl := si H
  exact r0 ⟨_, s2, rfl, rfl, pt, d2, g2, q2, rfl⟩
 refine W.skip (nrm (sr (va (J f) (bn H fun a e3 H => cl (c_ucd_Of O5 f e3) ?_))))
 rintro v40 u4 s ⟨i2, rfl⟩
 refine me (al 133 [I 0, B false, I 0, I 0] i2) ?_
 rintro v44 v4 t ⟨h, rfl, j2⟩
 refine md (sA 133 [I a.Break, B a.Pict, I a.Conj, I a.East] 0 j2 ⟨rfl, rfl, rfl, rfl, trivial⟩) ?_
 rintro t2 u k2
 refine wln (W.seq (W.seq (bn H fun e4 f3 H => bn H fun d g3 H => bn H fun g i3 H => bn H fun P j3 H => bn H fun k1 s0 H => W.join (Jn t2 fun c l => ∃ G_, Own c G_ ((Eb h 133 [I a.Break, B a.Pict, I a.Conj, I a.East]) :: F) ∧ l = [(0, v1), (1, J f), (4, Q h), (28, B k1)] ∧ Rel c P G_) ?_ ?_)))
 ·clear H
  refine rD [4, 9] (Kp G0 [(Eb h 133 [I a.Break, B a.Pict, I a.Conj, I a.East])]) k2 ?_
  intro u2 Z h0
  have v3 : Kp G0 [(Eb h 133 [I a.Break, B a.Pict, I a.Conj, I a.East])] u2 := (Kp.cons (h0.on 0 rfl) Kp.nil0)
  refine ta 0 (v1) ?_
  obtain ⟨j, rfl, t0⟩ := ((U.mono (N.trans (s.trans (t.trans (u.trans Z)))))).get f3
  refine ta 1 (Q j) (ta 2 (.pointer (some ⟨j, 6, none⟩)) (tkx 3 v3 (fun p i k => leN 133 0 [I a.Break, B a.Pict, I a.Conj, I a.East] (k.on 0 rfl)) ?_))
  obtain ⟨v57, v59, l3, k3, u0⟩ := Rel.open_feed_Feeder (R0.mono (N.trans (s.trans (t.trans (u.trans Z))))) g3 t0
  have m2 := h0.borrow 0 l3 rfl
  refine o1 4 (gc 4 (c_seg_State_Step__feed_Feeder_6 d.seg a m2 i3) ?_)
  rintro b5 m0 a0 ⟨n2, rfl⟩
  have o2 := n2.giveB 0 rfl
  obtain ⟨f0, R, k0, m3, s4⟩ := Rel.put_feed_Feeder o2 (R0.mono (N.trans (s.trans (t.trans (u.trans (Z.trans a0)))))) (E' := [(Eb j 67 [v57, I d.dec.held, I d.dec.needs, .int .u8 d.dec.lo, .int .u8 d.dec.hi, I d.dec.bits, B g.1.some, I g.1.last, I g.1.pict, I g.1.conj, B g.1.odd, v59])]) j3 ⟨j, v57, v59, (tm t0), rfl, (k3.mono a0), (u0.mono a0)⟩
  refine ⟨.inl rfl, ?_⟩
  rcases bo (g.2) with q | q
  ·have f2 := anT q s0
   refine AC.takeb 5 q rfl (by kernel_rfl) (by kernel_rfl) (fun p i => (by kernel_rfl)) (ta 6 (Q j) (ta 7 (Q j) (ta 8 (.pointer (some ⟨j, 11, none⟩)) (o1 9 (gl 9 (le1 11 underlying65 (R.gon m3 0 rfl)) (AC.take 10 (B (!d.open_.isNone)) rfl (by kernel_rfl) (by kernel_rfl) (fun p i => (by rcases u0.m.cs with ⟨o0, q0⟩ | ⟨b_, o0, q0⟩ <;> (subst o0; rw [q0]; kernel_rfl))) ?_))))))
   obtain rfl := si f2
   exact ta 11 (B (!d.open_.isNone)) (dn (nrm ⟨m0, _, _, rfl, pt, us, f0, R, rfl, k0⟩))
  obtain rfl := anF q s0
  exact AC.takeb 5 q rfl (by kernel_rfl) (by kernel_rfl) (fun p i => (by kernel_rfl)) (tp 6 (tp 7 (tp 8 (tp 9 (tp 10 (ta 11 (B false) (dn (nrm ⟨m0, _, _, rfl, pt, us, f0, R, rfl, k0⟩))))))))
 rintro e_ w_ ⟨w4, x4, _, rfl, w0, rfl, E, i0, rfl, M⟩
 refine nrm (cn H (fun n3 H => ?_) (fun n3 H => ?_))
 ·refine W.seq (rD [10] (Kp E [(Eb h 133 [I a.Break, B a.Pict, I a.Conj, I a.East])]) i0 ?_)
  intro v2 x0 S
  have e0 : Kp E [(Eb h 133 [I a.Break, B a.Pict, I a.Conj, I a.East])] v2 := (Kp.cons (S.on 0 rfl) (Kp.nil S))
  refine ta 0 (v1) (bn H fun f4 p3 H => ?_)
  obtain ⟨o, rfl, o3⟩ := ((U.mono (N.trans (s.trans (t.trans (u.trans (w0.trans x0))))))).get p3
  refine ta 1 (Q o) (ta 2 (.pointer (some ⟨o, 11, none⟩)) (bn H fun b0 q3 H => ?_))
  obtain ⟨c5, d5, v0, s3, t3⟩ := Rel.open_feed_Feeder (M.mono x0) q3 o3
  refine tkx 3 e0 (fun p i k => le1 11 underlying65 (k.gon v0 0 rfl)) (ta 4 (Q o) (ta 5 (Q o) (ta 6 (Q o) (tkx 7 e0 (fun p i k => le1 0 underlying28 (k.gon v0 0 rfl)) (ta 8 (J f) (tkx 9 e0 (fun p i k => leN 133 0 [I a.Break, B a.Pict, I a.Conj, I a.East] (k.on 0 rfl)) (bn H fun p4 u3 H => o1 10 (gc 10 (c_widen_Cluster_Join S M.m (hG.m.le (by decide)) b0.open_ b0.pen f a t3 s3 u3) ?_))))))))
  rintro j4 h1 h4 ⟨e2, p2, f1, rfl⟩
  refine ⟨.inl rfl, dn (nrm (W.ret (thr ?_)))⟩
  obtain rfl := si H
  have z0 := p2.sD 1 []
  exact r0 ⟨_, h1, rfl, rfl, pt, e2, z0, f1, rfl⟩
 refine W.skip (nrm (rD [7, 10] (Kp E [(Eb h 133 [I a.Break, B a.Pict, I a.Conj, I a.East])]) i0 ?_))
 intro i1 X x
 have d0 : Kp E [(Eb h 133 [I a.Break, B a.Pict, I a.Conj, I a.East])] i1 := (Kp.cons (x.on 0 rfl) (Kp.nil x))
 refine ta 0 (v1) (ta 1 (v1) (bn H fun g4 m1 H => ?_))
 obtain ⟨e, rfl, y⟩ := ((U.mono (N.trans (s.trans (t.trans (u.trans (w0.trans X))))))).get m1
 refine ta 2 (Q e) (ta 3 (Q e) (bn H fun a2 n1 H => ?_))
 obtain ⟨k4, l4, s1, q1, a4⟩ := Rel.open_feed_Feeder (M.mono X) n1 y
 refine tkx 4 d0 (fun p i k => le1 0 underlying28 (k.gon s1 0 rfl)) (ta 5 (J f) (tkx 6 d0 (fun p i k => leN 133 0 [I a.Break, B a.Pict, I a.Conj, I a.East] (k.on 0 rfl)) (bn H fun q4 t1 H => o1 7 (gc 7 (c_widen_Begin x M.m (hG.m.le (by decide)) a2.pen f a q1 t1) ?_))))
 rintro m4 z3 i4 ⟨_, w3, a1, T, rfl, z⟩
 refine ⟨.inl rfl, ta 8 (Q e) (ta 9 (.pointer (some ⟨e, 11, none⟩)) ?_)⟩
 obtain ⟨n, rfl⟩ := (z).form
 refine bn H fun b u1 H => ?_
 obtain ⟨D, n4, x1, w1, b4⟩ := Rel.open_feed_Feeder T u1 (tm y)
 refine o1 10 (gD 10 (gC 65 11 (.pointer n) [D, I b.dec.held, I b.dec.needs, .int .u8 b.dec.lo, .int .u8 b.dec.hi, I b.dec.bits, B b.seg.some, I b.seg.last, I b.seg.pict, I b.seg.conj, B b.seg.odd, .pointer n] 0 a1 x1 ⟨z.one, trivial⟩) ?_)
 rintro j1 A b1
 refine bn H fun c2 y1 H => ?_
 obtain ⟨y0, c1, g1, c4, y3⟩ := Rel.put_feed_Feeder b1 (T.mono A) (E' := [(Eb e 67 [D, I b.dec.held, I b.dec.needs, .int .u8 b.dec.lo, .int .u8 b.dec.hi, I b.dec.bits, B b.seg.some, I b.seg.last, I b.seg.pict, I b.seg.conj, B b.seg.odd, .pointer n])]) y1 ⟨e, D, (.pointer n), (tm y), rfl, (w1.mono A), (z.mono A)⟩
 refine ⟨.inl rfl, dn ?_⟩
 obtain rfl := si H
 have d1 := c1.sD 1 []
 exact n0 ⟨_, j1, rfl, rfl, pt, y0, d1, g1, rfl⟩
def f_feed_Feeder_all (sg : Sto) (p0 : Option Nat) (p1 : List Int) : Option (Sto) :=
 (iter (σ := Int × Sto) (τ := Sto) (((p1.length : Int) - 0).toNat + 1) (fun a =>
 if (decide (a.1 < (p1.length : Int))) = true then
 (idx p1 a.1).bind fun d =>
 (f_feed_Feeder_comes a.2 p0 d).bind fun b =>
 some (.inl ((w64 (a.1 + 1)), b))
 else
 some (.inr (a.2))) (0, sg)).bind fun c =>
 some c
theorem c_feed_Feeder_all (S : Own c0 G F) (T : Rel c0 sg G) (hG : Gl [0, 1] c0) (j : Option Nat) (d : List Int) {r : Sto} (Z : Pt 4 c0 v1 j) (h : Sl (RI .i32) c0 v3 d) (H : f_feed_Feeder_all sg j d = some r) :
    Calls prog 24 #[v1, v3] c0.w (Post c0 fun c v => ∃ G_ : Gm, Own c G_ (F) ∧ Rel c r G_ ∧ v = .tuple #[]) := by
 unfold f_feed_Feeder_all at H
 refine en func24 rfl rfl (sr (va (v3) (vx (ln 3 underlying43 h) (va (I 0) (wln (W.block (bn H fun i0 N p => lp N (fun a => Jn c0 fun c l => ∃ G_, Own c G_ (F) ∧ l = [(0, v1), (6, v3), (7, I (d.length : Int)), (8, I a.1)] ∧ Rel c a.2 G_) (fun i ex e w => ex = .exit 0 ∧ (Jn c0 fun c l => ∃ G_, Own c G_ (F) ∧ l = [] ∧ Rel c i G_) e w) ?_ ?_ ?_)))))))
 ·clear p N
  intro a j0 A R H
  revert A R
  rintro X w_ ⟨U, g8, _, rfl, l7, rfl, k, t, rfl, f⟩
  refine sr (va (B (decide (a.1 < (d.length : Int)))) (wln (W.seq (cn H (fun D H => ?_) (fun D H => ?_)))))
  ·refine W.skip (nrm (W.seq (W.block (sr (bn H fun b g H => ?_)))))
   obtain ⟨b0, E, P⟩ := Sl.at (h.mono l7) (idx_get g)
   obtain rfl := E
   refine vx (ix underlying43 h.m g) (vx (l1 underlying21 (P 0 _ rfl)) (va (J b) (wln (W.region (va (v1) (va (J b) (bn H fun e0 M H => cl (c_feed_Feeder_comes t f (hG.m.le (by decide)) j b Z.m M) ?_)))))))
   rintro v24 y g0 ⟨n, q, u, rfl⟩
   refine WL.nil (bkn (nrm (W.region (va (I (w64 (a.1 + 1))) (va (I (w64 (a.1 + 1))) (WL.nil ?_))))))
   obtain rfl := si H
   exact ⟨_, rfl, ⟨y, _, _, rfl, pt, us, n, q, rfl, u⟩⟩
  refine W.exit (thx ?_)
  obtain rfl := si H
  exact ⟨_, rfl, rfl, ⟨U, _, _, rfl, pt, us, k, t, rfl, f⟩⟩
 ·exact ⟨c0, _, _, rfl, pt, us, G, S, rfl, T⟩
 rintro _ X w_ ⟨rfl, z, f0, _, rfl, h0, rfl, o, s, rfl, x⟩
 refine bke ?_
 obtain rfl := si p
 exact n0 ⟨_, z, rfl, rfl, pt, o, s, x, rfl⟩
def f_octet_Lead (p0 : Int) : Option (Int) :=
 ((andE (decide (p0 ≥ 240)) (some (decide (p0 ≤ 244)))).bind fun a =>
 if a = true then
 some ((w64 ((w64 ((w64 ((w64 (0 + 1)) + 1)) + 1)) + 1)))
 else
 (andE (decide (p0 ≥ 224)) (some (decide (p0 < 240)))).bind fun b =>
 if b = true then
 some ((w64 ((w64 ((w64 (0 + 1)) + 1)) + 1)))
 else
 (andE (decide (p0 ≥ 194)) (some (decide (p0 < 224)))).bind fun c =>
 if c = true then
 some ((w64 ((w64 (0 + 1)) + 1)))
 else
 if (decide (p0 < 128)) = true then
 some ((w64 (0 + 1)))
 else
 some (0)).bind fun d =>
 some d
theorem c_octet_Lead (A : Own c0 G F) (a : Int) {r : Int} (H : f_octet_Lead a = some r) :
    Calls prog 81 #[.int .u8 a] c0.w (Post c0 fun c v => Own c G (F) ∧ v = I r) := by
 unfold f_octet_Lead at H
 refine en func81 rfl rfl (sr (va (I 0) (wln (sr (va (I 0) (wln (bn H fun k b T => W.seqJ (Jn c0 fun c l => Own c G (F) ∧ l = [(3, I k)]) ?_ ?_)))))))
 ·refine W.block (W.seq (W.block (W.seq (W.block (W.seq (W.block (W.seq (W.block (W.seq (W.seq (W.seq (bn b fun q P b => W.join (Jn c0 fun c l => Own c G (F) ∧ l = [(0, .int .u8 a), (3, I 0), (4, B q)]) ?_ ?_))))))))))))
  ·clear b
   refine W.region (va (.int .u8 a) (va (B (decide (a ≥ 240))) ?_))
   rcases bo (decide (a ≥ 240)) with j | j
   ·have U := anT j P
    refine vb j (wn (va (.int .u8 a) (wn (va (B (decide (a ≤ 244))) ?_))))
    obtain rfl := si U
    exact va (B (decide (a ≤ 244))) (va (B (decide (a ≤ 244))) (wln ⟨c0, _, _, rfl, pt, us, A, rfl⟩))
   obtain rfl := anF j P
   exact vb j (ps (ps (va (B false) (va (B false) (wln ⟨c0, _, _, rfl, pt, us, A, rfl⟩)))))
  rintro u x ⟨m, g7, _, rfl, l6, rfl, p, rfl⟩
  refine nrm (cn b (fun M b => ?_) (fun M b => ?_))
  ·refine W.exit (thx (thx (bke (nrm (W.region (va (I 0) (va (I (w64 (0 + 1))) (va (I (w64 (0 + 1))) (WL.nil (bkn (nrm (W.region (va (I (w64 (0 + 1))) (va (I (w64 ((w64 (0 + 1)) + 1))) (va (I (w64 ((w64 (0 + 1)) + 1))) (WL.nil (bkn (nrm (W.region (va (I (w64 ((w64 (0 + 1)) + 1))) (va (I (w64 ((w64 ((w64 (0 + 1)) + 1)) + 1))) (va (I (w64 ((w64 ((w64 (0 + 1)) + 1)) + 1))) (WL.nil (bkn (nrm (sr (va (I (w64 ((w64 ((w64 (0 + 1)) + 1)) + 1))) (va (I (w64 ((w64 ((w64 ((w64 (0 + 1)) + 1)) + 1)) + 1))) (va (I (w64 ((w64 ((w64 ((w64 (0 + 1)) + 1)) + 1)) + 1))) (wln (W.exit (bke (nrm ?_)))))))))))))))))))))))))))))))))
   obtain rfl := si b
   exact ⟨m, _, _, rfl, pt, us, p, rfl⟩
  refine W.skip (nrm (W.seq (W.seq (bn b fun s n b => W.join (Jn m fun c l => Own c G (F) ∧ l = [(0, .int .u8 a), (3, I 0), (11, B s)]) ?_ ?_))))
  ·clear b
   refine W.region (va (.int .u8 a) (va (B (decide (a ≥ 224))) ?_))
   rcases bo (decide (a ≥ 224)) with d | d
   ·have y := anT d n
    refine vb d (wn (va (.int .u8 a) (wn (va (B (decide (a < 240))) ?_))))
    obtain rfl := si y
    exact va (B (decide (a < 240))) (va (B (decide (a < 240))) (wln ⟨m, _, _, rfl, pt, us, p, rfl⟩))
   obtain rfl := anF d n
   exact vb d (ps (ps (va (B false) (va (B false) (wln ⟨m, _, _, rfl, pt, us, p, rfl⟩)))))
  rintro u x ⟨f, X, _, rfl, l16, rfl, g, rfl⟩
  refine nrm (cn b (fun N b => ?_) (fun N b => ?_))
  ·refine W.exit (thx (thx (bko rfl (thx (bke (nrm (W.region (va (I 0) (va (I (w64 (0 + 1))) (va (I (w64 (0 + 1))) (WL.nil (bkn (nrm (W.region (va (I (w64 (0 + 1))) (va (I (w64 ((w64 (0 + 1)) + 1))) (va (I (w64 ((w64 (0 + 1)) + 1))) (WL.nil (bkn (nrm (sr (va (I (w64 ((w64 (0 + 1)) + 1))) (va (I (w64 ((w64 ((w64 (0 + 1)) + 1)) + 1))) (va (I (w64 ((w64 ((w64 (0 + 1)) + 1)) + 1))) (wln (W.exit (bke (nrm ?_))))))))))))))))))))))))))))
   obtain rfl := si b
   exact ⟨f, _, _, rfl, pt, us, g, rfl⟩
  refine W.skip (nrm (W.seq (W.seq (bn b fun t o b => W.join (Jn f fun c l => Own c G (F) ∧ l = [(0, .int .u8 a), (3, I 0), (18, B t)]) ?_ ?_))))
  ·clear b
   refine W.region (va (.int .u8 a) (va (B (decide (a ≥ 194))) ?_))
   rcases bo (decide (a ≥ 194)) with e | e
   ·have z := anT e o
    refine vb e (wn (va (.int .u8 a) (wn (va (B (decide (a < 224))) ?_))))
    obtain rfl := si z
    exact va (B (decide (a < 224))) (va (B (decide (a < 224))) (wln ⟨f, _, _, rfl, pt, us, g, rfl⟩))
   obtain rfl := anF e o
   exact vb e (ps (ps (va (B false) (va (B false) (wln ⟨f, _, _, rfl, pt, us, g, rfl⟩)))))
  rintro u x ⟨i, Z, _, rfl, b0, rfl, h, rfl⟩
  refine nrm (cn b (fun R b => ?_) (fun R b => ?_))
  ·refine W.exit (thx (thx (bko rfl (thx (bko rfl (thx (bke (nrm (W.region (va (I 0) (va (I (w64 (0 + 1))) (va (I (w64 (0 + 1))) (WL.nil (bkn (nrm (sr (va (I (w64 (0 + 1))) (va (I (w64 ((w64 (0 + 1)) + 1))) (va (I (w64 ((w64 (0 + 1)) + 1))) (wln (W.exit (bke (nrm ?_)))))))))))))))))))))))
   obtain rfl := si b
   exact ⟨i, _, _, rfl, pt, us, h, rfl⟩
  refine W.skip (nrm (sr (va (.int .u8 a) (va (B (decide (a < 128))) (va (B (decide (a < 128))) (wln (cn b (fun S b => ?_) (fun S b => ?_))))))))
  ·refine W.exit (thx (bko rfl (thx (bko rfl (thx (bko rfl (thx (bke (nrm (sr (va (I 0) (va (I (w64 (0 + 1))) (va (I (w64 (0 + 1))) (wln (W.exit (bke (nrm ?_)))))))))))))))))
   obtain rfl := si b
   exact ⟨i, _, _, rfl, pt, us, h, rfl⟩
  refine W.skip (nrm (W.exit (bko rfl (thx (bko rfl (thx (bko rfl (thx (bko rfl (thx (bke (nrm ?_))))))))))))
  obtain rfl := si b
  exact ⟨i, _, _, rfl, pt, us, h, rfl⟩
 rintro u x ⟨E, a0, _, rfl, d0, rfl, D, rfl⟩
 refine sr (va (I k) (va (I k) (wln (W.ret ?_))))
 obtain rfl := si T
 exact r1 ⟨_, E, rfl, rfl, pt, D, rfl⟩
def f_octet_Bits (p0 : Int) : Option (Int) :=
 (f_octet_Lead p0).bind fun a =>
 if (a == 0) = true then
 some 0
 else
 if (a == 1) = true then
 some (w64 p0)
 else
 (shn (w64 (7 - a))).bind fun b =>
 some (ibAnd .i64 (w64 p0) (w64 ((w64 (1 * 2 ^ (min b 64))) - 1)))
theorem c_octet_Bits (j : Own c0 G F) (e : Int) {r : Int} (H : f_octet_Bits e = some r) :
    Calls prog 82 #[.int .u8 e] c0.w (Post c0 fun c v => Own c G (F) ∧ v = I r) := by
 unfold f_octet_Bits at H
 refine en func82 rfl rfl (sr (va (I 0) (wln (sr (va (.int .u8 e) (bn H fun d k H => cl (c_octet_Lead j e k) ?_))))))
 rintro v7 h n ⟨g, rfl⟩
 refine va (I d) (wln (sr (va (I d) (wln (W.block (sr (va (B (d == 0)) (va (B (d == 0)) (wln (cn H (fun l H => ?_) (fun l H => ?_)))))))))))
 ·refine sr (va (I 0) (wln (W.ret (bkr ?_))))
  obtain rfl := si H
  exact r1 ⟨_, h, rfl, rfl, pt, g, rfl⟩
 refine sr (va (B (d == 1)) (va (B (d == 1)) (wln (cn H (fun m H => ?_) (fun m H => ?_)))))
 ·refine sr (va (.int .u8 e) (va (I (w64 e)) (va (I (w64 e)) (wln (W.ret (bkr ?_))))))
  obtain rfl := si H
  exact r1 ⟨_, h, rfl, rfl, pt, g, rfl⟩
 refine sr (va (.int .u8 e) (va (I (w64 e)) (va (I d) (va (I (w64 (7 - d))) (bn H fun f i H => vr (I (w64 (1 * 2 ^ (min f 64)))) (run_shl (k' := .i64) (a := 1) (b := (w64 (7 - d))) i (by kernel_rfl) _) (va (I (w64 ((w64 (1 * 2 ^ (min f 64))) - 1))) (va (I (ibAnd .i64 (w64 e) (w64 ((w64 (1 * 2 ^ (min f 64))) - 1)))) (va (I (ibAnd .i64 (w64 e) (w64 ((w64 (1 * 2 ^ (min f 64))) - 1)))) (wln (W.ret (bkr ?_)))))))))))
 obtain rfl := si H
 exact r1 ⟨_, h, rfl, rfl, pt, g, rfl⟩
def f_octet_Second (p0 : Int) : Option (Int × Int) :=
 (f_octet_Lead p0).bind fun b =>
 if (decide (b < 2)) = true then
 some (0, 0)
 else
 (if (p0 == 224) = true then
 some (160, 191)
 else
 if (p0 == 240) = true then
 some (144, 191)
 else
 if (p0 == 244) = true then
 some (128, (IntKind.u8.wrap ((IntKind.u8.wrap (191 - 16)) - 32)))
 else
 if (p0 == 237) = true then
 some (128, (IntKind.u8.wrap (191 - 32)))
 else
 some (128, 191)).bind fun a =>
 some (a.1, a.2)
theorem c_octet_Second (p : Own c0 G F) (b : Int) {r : Int × Int} (H : f_octet_Second b = some r) :
    Calls prog 83 #[.int .u8 b] c0.w (Post c0 fun c v => Own c G (F) ∧ v = .tuple #[.int .u8 r.1, .int .u8 r.2]) := by
 unfold f_octet_Second at H
 refine en func83 rfl rfl (sr (va (.int .u8 0) (va (.int .u8 0) (wln (W.seq (sr (va (.int .u8 b) (bn H fun o q H => cl (c_octet_Lead p b q) ?_))))))))
 rintro v7 e y ⟨f, rfl⟩
 refine va (B (decide (o < 2))) (wln (cn H (fun s H => ?_) (fun s H => ?_)))
 ·refine sr (va (.int .u8 0) (va (.int .u8 0) (wln (W.ret (thr ?_)))))
  obtain rfl := si H
  exact r2 ⟨_, e, rfl, rfl, pt, f, rfl⟩
 refine W.skip (nrm (sr (va (.int .u8 128) (va (.int .u8 191) (wln (bn H fun d a g => W.seqJ (Jn e fun c l => Own c G (F) ∧ l = [(2, .int .u8 d.1), (3, .int .u8 d.2)]) ?_ ?_))))))
 ·refine sr (va (.int .u8 b) (wln (W.block (W.seq (W.block (W.seq (W.block (W.seq (W.block (W.seq (W.block (W.seq (W.seq (sr (va (B (b == 224)) (va (B (b == 224)) (wln (cn a (fun j a => ?_) (fun j a => ?_)))))))))))))))))))
  ·refine W.exit (thx (thx (bke (nrm (sr (va (.int .u8 160) (wln (W.exit (bko rfl (thx (bko rfl (thx (bko rfl (thx (bke (nrm ?_))))))))))))))))
   obtain rfl := si a
   exact ⟨e, _, _, rfl, pt, us, f, rfl⟩
  refine W.skip (nrm (W.seq (sr (va (B (b == 240)) (va (B (b == 240)) (wln (cn a (fun k a => ?_) (fun k a => ?_))))))))
  ·refine W.exit (thx (thx (bko rfl (thx (bke (nrm (sr (va (.int .u8 144) (wln (W.exit (bko rfl (thx (bko rfl (thx (bke (nrm ?_))))))))))))))))
   obtain rfl := si a
   exact ⟨e, _, _, rfl, pt, us, f, rfl⟩
  refine W.skip (nrm (W.seq (sr (va (B (b == 244)) (va (B (b == 244)) (wln (cn a (fun m a => ?_) (fun m a => ?_))))))))
  ·refine W.exit (thx (thx (bko rfl (thx (bko rfl (thx (bke (nrm (W.region (va (.int .u8 191) (va (.int .u8 (IntKind.u8.wrap (191 - 16))) (va (.int .u8 (IntKind.u8.wrap (191 - 16))) (WL.nil (bkn (nrm (sr (va (.int .u8 (IntKind.u8.wrap (191 - 16))) (va (.int .u8 (IntKind.u8.wrap ((IntKind.u8.wrap (191 - 16)) - 32))) (va (.int .u8 (IntKind.u8.wrap ((IntKind.u8.wrap (191 - 16)) - 32))) (wln (W.exit (bke (nrm ?_)))))))))))))))))))))))
   obtain rfl := si a
   exact ⟨e, _, _, rfl, pt, us, f, rfl⟩
  refine W.skip (nrm (sr (va (B (b == 237)) (va (B (b == 237)) (wln (cn a (fun n a => ?_) (fun n a => ?_)))))))
  ·refine W.exit (thx (bko rfl (thx (bko rfl (thx (bko rfl (thx (bke (nrm (sr (va (.int .u8 191) (va (.int .u8 (IntKind.u8.wrap (191 - 32))) (va (.int .u8 (IntKind.u8.wrap (191 - 32))) (wln (W.exit (bke (nrm ?_)))))))))))))))))
   obtain rfl := si a
   exact ⟨e, _, _, rfl, pt, us, f, rfl⟩
  refine W.skip (nrm (W.exit (bko rfl (thx (bko rfl (thx (bko rfl (thx (bko rfl (thx (bke (nrm ?_))))))))))))
  obtain rfl := si a
  exact ⟨e, _, _, rfl, pt, us, f, rfl⟩
 rintro x z ⟨i, t, _, rfl, u, rfl, h, rfl⟩
 refine sr (va (.int .u8 d.1) (va (.int .u8 d.2) (va (.int .u8 d.1) (va (.int .u8 d.2) (wln (W.ret ?_))))))
 obtain rfl := si g
 exact r2 ⟨_, i, rfl, rfl, pt, h, rfl⟩
def f_utfdec_Dec_Held__feed_Feeder_1 (p0 : G_utfdec_Dec) : Option (Int) :=
 if false = true then
 some 0
 else
 some p0.held
theorem c_utfdec_Dec_Held__feed_Feeder_1 {b : Nat} {r0_0 : Value} {r0_6 : Value} {r0_7 : Value} {r0_8 : Value} {r0_9 : Value} {r0_10 : Value} {r0_11 : Value} (a : G_utfdec_Dec) (e : Own c0 G ((Eb b 67 [r0_0, I a.held, I a.needs, .int .u8 a.lo, .int .u8 a.hi, I a.bits, r0_6, r0_7, r0_8, r0_9, r0_10, r0_11]) :: F)) {r : Int} (H : f_utfdec_Dec_Held__feed_Feeder_1 a = some r) :
    Calls prog 26 #[.pointer (some ⟨b, 1, none⟩)] c0.w (Post c0 fun c v => Own c G ((Eb b 67 [r0_0, I a.held, I a.needs, .int .u8 a.lo, .int .u8 a.hi, I a.bits, r0_6, r0_7, r0_8, r0_9, r0_10, r0_11]) :: F) ∧ v = I r) := by
 unfold f_utfdec_Dec_Held__feed_Feeder_1 at H
 refine en func26 rfl rfl (sr (va (I 0) (wln (W.seq (sr (va (.pointer (some ⟨b, 1, none⟩)) (va (B false) (wln (W.cond (t := false) (by kernel_rfl) (fun d => ?_) (fun d => ?_))))))))))
 ·cases d
 have H := ie d H
 refine W.skip (nrm (sr (va (.pointer (some ⟨b, 1, none⟩)) (va (.pointer (some ⟨b, 1, none⟩)) (va (.pointer (some ⟨b, 1, none⟩)) (vx (le1 1 underlying3 (e.on 0 rfl)) (va (I a.held) (wln (W.ret ?_)))))))))
 obtain rfl := si H
 exact r1 ⟨_, c0, rfl, rfl, pt, e, rfl⟩
def f_utfdec_Dec_Flush__feed_Feeder_1 (p0 : G_utfdec_Dec) : Option (G_utfdec_Dec × (List Int)) :=
 (f_utfdec_Dec_Held__feed_Feeder_1 p0).bind fun a =>
 if (a == 0) = true then
 some (p0, ([] : List Int))
 else
 some ((⟨0, 0, 0, 0, 0⟩ : G_utfdec_Dec), ([65533] : List Int))
theorem c_utfdec_Dec_Flush__feed_Feeder_1 {a : Nat} {r0_0 : Value} {r0_6 : Value} {r0_7 : Value} {r0_8 : Value} {r0_9 : Value} {r0_10 : Value} {r0_11 : Value} (b : G_utfdec_Dec) (q : Own c0 G ((Eb a 67 [r0_0, I b.held, I b.needs, .int .u8 b.lo, .int .u8 b.hi, I b.bits, r0_6, r0_7, r0_8, r0_9, r0_10, r0_11]) :: F)) {r : G_utfdec_Dec × (List Int)} (H : f_utfdec_Dec_Flush__feed_Feeder_1 b = some r) :
    Calls prog 32 #[.pointer (some ⟨a, 1, none⟩)] c0.w (Post c0 fun c v => ∃ d p, Own c G (es true (RI .i32) d 21 p r.2 :: (Eb a 67 [r0_0, I r.1.held, I r.1.needs, .int .u8 r.1.lo, .int .u8 r.1.hi, I r.1.bits, r0_6, r0_7, r0_8, r0_9, r0_10, r0_11]) :: F) ∧ v = d ∧ OA (RI .i32) c d p r.2) := by
 unfold f_utfdec_Dec_Flush__feed_Feeder_1 at H
 refine en func32 rfl rfl (sr (va (Y) (wln (W.seq (sr (va (.pointer (some ⟨a, 1, none⟩)) (bn H fun o s H => cl (c_utfdec_Dec_Held__feed_Feeder_1 b q s) ?_)))))))
 rintro v8 k z ⟨i, rfl⟩
 refine va (B (o == 0)) (wln (cn H (fun t H => ?_) (fun t H => ?_)))
 ·refine sr (va (Y) (wln (W.ret (thr ?_))))
  obtain rfl := si H
  have l : OA (RI .i32) k (Y) [] [] := OA.nil (Nat.succ_pos _)
  have f := i.addHole (e := es true (RI .i32) (Y) 21 [] ([] : List Int)) rfl
  exact r1 ⟨_, k, rfl, rfl, pt, (Y), [], f, rfl, l⟩
 refine W.skip (nrm (sr (va (.pointer (some ⟨a, 1, none⟩)) (va (.agg #[I 0, I 0, .int .u8 0, .int .u8 0, I 0]) (va (.pointer (some ⟨a, 1, none⟩)) (md (sB 62 1 [I 0, I 0, .int .u8 0, .int .u8 0, I 0] [r0_0, I 0, I 0, .int .u8 0, .int .u8 0, I 0, r0_6, r0_7, r0_8, r0_9, r0_10, r0_11] 0 i ⟨rfl, rfl, rfl, rfl, rfl, trivial⟩) ?_))))))
 rintro u x g
 refine wln (sr (me (sl (RI .i32) 21 [[J 65533]] ([65533] : List Int) g ⟨rfl, trivial⟩) ?_))
 rintro v18 j y ⟨n, h, m⟩
 refine va (v18) (wln (W.ret ?_))
 obtain rfl := si H
 exact r1 ⟨_, j, rfl, rfl, pt, v18, n, h, rfl, m⟩
def f_utfdec_Dec_begin__feed_Feeder_1 (p0 : G_utfdec_Dec) (p1 : Int) : Option (G_utfdec_Dec × (List Int)) :=
 (f_octet_Lead p1).bind fun a =>
 if (a == 0) = true then
 some (p0, ([65533] : List Int))
 else
 if (a == 1) = true then
 some (p0, ([(w32 p1)] : List Int))
 else
 (f_octet_Bits p1).bind fun c =>
 (f_octet_Second p1).bind fun b =>
 some ((⟨1, (w64 (a - 1)), b.1, b.2, c⟩ : G_utfdec_Dec), ([] : List Int))
theorem c_utfdec_Dec_begin__feed_Feeder_1 {a : Nat} {r0_0 : Value} {r0_6 : Value} {r0_7 : Value} {r0_8 : Value} {r0_9 : Value} {r0_10 : Value} {r0_11 : Value} (f : G_utfdec_Dec) (g : Int) (T : Own c0 G ((Eb a 67 [r0_0, I f.held, I f.needs, .int .u8 f.lo, .int .u8 f.hi, I f.bits, r0_6, r0_7, r0_8, r0_9, r0_10, r0_11]) :: F)) {r : G_utfdec_Dec × (List Int)} (H : f_utfdec_Dec_begin__feed_Feeder_1 f g = some r) :
    Calls prog 47 #[.pointer (some ⟨a, 1, none⟩), .int .u8 g] c0.w (Post c0 fun c v => ∃ k S, Own c G (es true (RI .i32) k 21 S r.2 :: (Eb a 67 [r0_0, I r.1.held, I r.1.needs, .int .u8 r.1.lo, .int .u8 r.1.hi, I r.1.bits, r0_6, r0_7, r0_8, r0_9, r0_10, r0_11]) :: F) ∧ v = k ∧ OA (RI .i32) c k S r.2) := by
 unfold f_utfdec_Dec_begin__feed_Feeder_1 at H
 refine en func47 rfl rfl (sr (va (Y) (wln (W.seq (sr (va (.int .u8 g) (bn H fun b X H => cl (c_octet_Lead T g X) ?_)))))))
 rintro v7 c6 l6 ⟨j, rfl⟩
 refine va (I b) (wln (sr (va (I b) (wln (W.block (sr (va (B (b == 0)) (va (B (b == 0)) (wln (cn H (fun Z H => ?_) (fun Z H => ?_)))))))))))
 ·refine sr (me (sl (RI .i32) 21 [[J 65533]] ([65533] : List Int) j ⟨rfl, trivial⟩) ?_)
  rintro v13 x h0 ⟨P, U, z⟩
  refine va (v13) (wln (W.ret (bkr (thr ?_))))
  obtain rfl := si H
  exact r1 ⟨_, x, rfl, rfl, pt, v13, P, U, rfl, z⟩
 refine sr (va (B (b == 1)) (va (B (b == 1)) (wln (cn H (fun A H => ?_) (fun A H => ?_)))))
 ·refine sr (va (.int .u8 g) (va (J (w32 g)) (me (sl (RI .i32) 21 [[J (w32 g)]] ([(w32 g)] : List Int) j ⟨rfl, trivial⟩) ?_)))
  rintro v19 y i0 ⟨R, l, D⟩
  refine va (v19) (wln (W.ret (bkr (thr ?_))))
  obtain rfl := si H
  exact r1 ⟨_, y, rfl, rfl, pt, v19, R, l, rfl, D⟩
 refine sr (va (.pointer (some ⟨a, 1, none⟩)) (va (.pointer (some ⟨a, 1, none⟩)) (va (.pointer (some ⟨a, 1, none⟩)) (va (I b) (va (I (w64 (b - 1))) (va (.int .u8 g) (bn H fun h E H => cl (c_octet_Bits j g E) ?_)))))))
 rintro v26 a0 j0 ⟨m, rfl⟩
 refine va (.pointer (some ⟨a, 1, none⟩)) (va (.pointer (some ⟨a, 1, none⟩)) (md (sC 3 1 (I 1) [r0_0, I 1, I f.needs, .int .u8 f.lo, .int .u8 f.hi, I f.bits, r0_6, r0_7, r0_8, r0_9, r0_10, r0_11] 0 m ⟨rfl, trivial⟩) ?_))
 rintro b0 k0 n
 refine va (.pointer (some ⟨a, 1, none⟩)) (va (.pointer (some ⟨a, 2, none⟩)) (md (sC 3 2 (I (w64 (b - 1))) [r0_0, I 1, I (w64 (b - 1)), .int .u8 f.lo, .int .u8 f.hi, I f.bits, r0_6, r0_7, r0_8, r0_9, r0_10, r0_11] 0 n ⟨rfl, trivial⟩) ?_))
 rintro d0 l0 o
 refine va (.pointer (some ⟨a, 1, none⟩)) (va (.pointer (some ⟨a, 5, none⟩)) (md (sC 3 5 (I h) [r0_0, I 1, I (w64 (b - 1)), .int .u8 f.lo, .int .u8 f.hi, I h, r0_6, r0_7, r0_8, r0_9, r0_10, r0_11] 0 o ⟨rfl, trivial⟩) ?_))
 rintro e0 m0 p
 refine wln (W.region (va (.pointer (some ⟨a, 1, none⟩)) (va (.pointer (some ⟨a, 1, none⟩)) (va (.int .u8 g) (bn H fun d M H => cl (c_octet_Second p g M) ?_)))))
 rintro v39 f0 o0 ⟨q, rfl⟩
 refine va (.tuple #[.int .u8 d.1, .int .u8 d.2]) (va (.int .u8 d.1) (va (.int .u8 d.2) (va (.pointer (some ⟨a, 1, none⟩)) (va (.pointer (some ⟨a, 3, none⟩)) (md (sC 5 3 (.int .u8 d.1) [r0_0, I 1, I (w64 (b - 1)), .int .u8 d.1, .int .u8 f.hi, I h, r0_6, r0_7, r0_8, r0_9, r0_10, r0_11] 0 q ⟨rfl, trivial⟩) ?_)))))
 rintro g0 q0 s
 refine va (.pointer (some ⟨a, 1, none⟩)) (va (.pointer (some ⟨a, 4, none⟩)) (md (sC 5 4 (.int .u8 d.2) [r0_0, I 1, I (w64 (b - 1)), .int .u8 d.1, .int .u8 d.2, I h, r0_6, r0_7, r0_8, r0_9, r0_10, r0_11] 0 s ⟨rfl, trivial⟩) ?_))
 rintro i s0 t
 refine WL.nil (bkn (nrm (sr (va (Y) (wln (W.ret ?_))))))
 obtain rfl := si H
 have N : OA (RI .i32) i (Y) [] [] := OA.nil (Nat.succ_pos _)
 have u := t.addHole (e := es true (RI .i32) (Y) 21 [] ([] : List Int)) rfl
 exact r1 ⟨_, i, rfl, rfl, pt, (Y), [], u, rfl, N⟩
def f_utfdec_Dec_Step__feed_Feeder_1 (p0 : G_utfdec_Dec) (p1 : Int) : Option (G_utfdec_Dec × (List Int)) :=
 if false = true then
 some (p0, ([] : List Int))
 else
 if (p0.held == 0) = true then
 (f_utfdec_Dec_begin__feed_Feeder_1 p0 p1).bind fun a =>
 some (a.1, a.2)
 else
 (orE (decide (p1 < p0.lo)) (some (decide (p1 > p0.hi)))).bind fun d =>
 if d = true then
 (f_utfdec_Dec_Flush__feed_Feeder_1 p0).bind fun b =>
 (f_utfdec_Dec_begin__feed_Feeder_1 b.1 p1).bind fun c =>
 (app b.2 c.2).bind fun e =>
 some (c.1, e)
 else
 if (decide ((w64 (p0.needs - 1)) > 0)) = true then
 some ((⟨(w64 (p0.held + 1)), (w64 (p0.needs - 1)), 128, 191, (ibOr .i64 (w64 (p0.bits * 2 ^ 6)) (w64 (ibAnd .u8 p1 63)))⟩ : G_utfdec_Dec), ([] : List Int))
 else
 some ((⟨0, 0, 0, 0, 0⟩ : G_utfdec_Dec), ([(w32 (ibOr .i64 (w64 (p0.bits * 2 ^ 6)) (w64 (ibAnd .u8 p1 63))))] : List Int))
theorem c_utfdec_Dec_Step__feed_Feeder_1 {a : Nat} {r0_0 : Value} {r0_6 : Value} {r0_7 : Value} {r0_8 : Value} {r0_9 : Value} {r0_10 : Value} {r0_11 : Value} (b : G_utfdec_Dec) (d : Int) (h : Own c0 G ((Eb a 67 [r0_0, I b.held, I b.needs, .int .u8 b.lo, .int .u8 b.hi, I b.bits, r0_6, r0_7, r0_8, r0_9, r0_10, r0_11]) :: F)) {r : G_utfdec_Dec × (List Int)} (H : f_utfdec_Dec_Step__feed_Feeder_1 b d = some r) :
    Calls prog 25 #[.pointer (some ⟨a, 1, none⟩), .int .u8 d] c0.w (Post c0 fun c v => ∃ x y2, Own c G (es true (RI .i32) x 21 y2 r.2 :: (Eb a 67 [r0_0, I r.1.held, I r.1.needs, .int .u8 r.1.lo, .int .u8 r.1.hi, I r.1.bits, r0_6, r0_7, r0_8, r0_9, r0_10, r0_11]) :: F) ∧ v = x ∧ OA (RI .i32) c x y2 r.2) := by
 unfold f_utfdec_Dec_Step__feed_Feeder_1 at H
 refine en func25 rfl rfl (sr (va (Y) (wln (W.seq (W.block (sr (va (.pointer (some ⟨a, 1, none⟩)) (va (B false) (va (B false) (wln (W.cond (t := false) (by kernel_rfl) (fun s => ?_) (fun s => ?_))))))))))))
 ·cases s
 have H := ie s H
 refine sr (va (.pointer (some ⟨a, 1, none⟩)) (va (.pointer (some ⟨a, 1, none⟩)) (va (.pointer (some ⟨a, 1, none⟩)) (vx (le1 1 underlying3 (h.on 0 rfl)) (va (B (b.held == 0)) (va (B (b.held == 0)) (wln (cn H (fun h2 H => ?_) (fun h2 H => ?_)))))))))
 ·refine sr (va (.pointer (some ⟨a, 1, none⟩)) (va (.int .u8 d) (bn H fun z0 h4 H => cl (c_utfdec_Dec_begin__feed_Feeder_1 b d h h4) ?_)))
  rintro v5 X q1 ⟨_, u6, O9, rfl, h7⟩
  refine va (v5) (wln (W.ret (bkr (thr ?_))))
  obtain rfl := si H
  exact r1 ⟨_, X, rfl, rfl, pt, v5, u6, O9, rfl, h7⟩
 refine W.seq (bn H fun q o H => W.join (Jn c0 fun c l => Own c G ((Eb a 67 [r0_0, I b.held, I b.needs, .int .u8 b.lo, .int .u8 b.hi, I b.bits, r0_6, r0_7, r0_8, r0_9, r0_10, r0_11]) :: F) ∧ l = [(0, .pointer (some ⟨a, 1, none⟩)), (1, .int .u8 d), (18, B q)]) ?_ ?_)
 ·clear H
  refine W.region (va (.int .u8 d) (va (.pointer (some ⟨a, 1, none⟩)) (va (.pointer (some ⟨a, 1, none⟩)) (va (.pointer (some ⟨a, 3, none⟩)) (vx (le1 3 underlying5 (h.on 0 rfl)) (va (B (decide (d < b.lo))) ?_))))))
  rcases bo (decide (d < b.lo)) with f | f
  ·obtain rfl := orT f o
   exact vb f (ps (ps (ps (ps (ps (ps (va (B true) (va (B true) (wln ⟨c0, _, _, rfl, pt, us, h, rfl⟩)))))))))
  have y := orF f o
  refine vb f (wn (va (.int .u8 d) (wn (va (.pointer (some ⟨a, 1, none⟩)) (wn (va (.pointer (some ⟨a, 1, none⟩)) (wn (va (.pointer (some ⟨a, 4, none⟩)) (wn (vx (le1 4 underlying5 (h.on 0 rfl)) (wn (va (B (decide (d > b.hi))) ?_))))))))))))
  obtain rfl := si y
  exact va (B (decide (d > b.hi))) (va (B (decide (d > b.hi))) (wln ⟨c0, _, _, rfl, pt, us, h, rfl⟩))
 rintro e_ w_ ⟨c1, n1, _, rfl, s1, rfl, i, rfl⟩
 refine nrm (cn H (fun b0 H => ?_) (fun b0 H => ?_))
 ·refine sr (va (.pointer (some ⟨a, 1, none⟩)) (bn H fun u d0 H => cl (c_utfdec_Dec_Flush__feed_Feeder_1 b i d0) ?_))
  rintro v26 d1 t1 ⟨_, f2, z, rfl, e0⟩
  refine va (.pointer (some ⟨a, 1, none⟩)) (va (.int .u8 d) ?_)
  have A := z.sD 2 [1, 0]
  refine bn H fun a1 f0 H => cl (c_utfdec_Dec_begin__feed_Feeder_1 u.1 d A f0) ?_
  rintro v37 e1 u1 ⟨_, g2, D, rfl, g0⟩
  obtain ⟨f1, i0, v1, E, h0⟩ := D.frz 0 rfl g0
  refine WL.gh i0 (bn H fun b1 j0 H => me (ap (RI .i32) (J 0) 4 43 2 E e0.m h0 j0 underlying43) ?_)
  rintro v55 Z w1 ⟨q0, M, k0⟩
  refine va (v55) (wln (W.ret (bkr (thr ?_))))
  obtain rfl := si H
  have N := M.sD 3 [2, 1]
  exact r1 ⟨_, Z, rfl, rfl, pt, v55, q0, N, rfl, k0⟩
 refine W.skip (bkn (nrm (sr (va (.pointer (some ⟨a, 1, none⟩)) (va (.pointer (some ⟨a, 1, none⟩)) (va (.pointer (some ⟨a, 1, none⟩)) (va (.pointer (some ⟨a, 5, none⟩)) (vx (le1 5 underlying3 (i.on 0 rfl)) (va (I (w64 (b.bits * 2 ^ 6))) (va (.int .u8 d) (va (.int .u8 (ibAnd .u8 d 63)) (va (I (w64 (ibAnd .u8 d 63))) (va (I (ibOr .i64 (w64 (b.bits * 2 ^ 6)) (w64 (ibAnd .u8 d 63)))) (va (.pointer (some ⟨a, 1, none⟩)) (va (.pointer (some ⟨a, 5, none⟩)) (md (sC 3 5 (I (ibOr .i64 (w64 (b.bits * 2 ^ 6)) (w64 (ibAnd .u8 d 63)))) [r0_0, I b.held, I b.needs, .int .u8 b.lo, .int .u8 b.hi, I (ibOr .i64 (w64 (b.bits * 2 ^ 6)) (w64 (ibAnd .u8 d 63))), r0_6, r0_7, r0_8, r0_9, r0_10, r0_11] 0 i ⟨rfl, trivial⟩) ?_))))))))))))))))
 rintro g1 x1 P
 refine wln (sr (va (.pointer (some ⟨a, 1, none⟩)) (va (.pointer (some ⟨a, 1, none⟩)) (va (.pointer (some ⟨a, 1, none⟩)) (va (.pointer (some ⟨a, 3, none⟩)) (md (sC 5 3 (.int .u8 128) [r0_0, I b.held, I b.needs, .int .u8 128, .int .u8 b.hi, I (ibOr .i64 (w64 (b.bits * 2 ^ 6)) (w64 (ibAnd .u8 d 63))), r0_6, r0_7, r0_8, r0_9, r0_10, r0_11] 0 P ⟨rfl, trivial⟩) ?_))))))
 rintro i1 z1 R
 refine va (.pointer (some ⟨a, 1, none⟩)) (va (.pointer (some ⟨a, 4, none⟩)) (md (sC 5 4 (.int .u8 191) [r0_0, I b.held, I b.needs, .int .u8 128, .int .u8 191, I (ibOr .i64 (w64 (b.bits * 2 ^ 6)) (w64 (ibAnd .u8 d 63))), r0_6, r0_7, r0_8, r0_9, r0_10, r0_11] 0 R ⟨rfl, trivial⟩) ?_))
 rintro j1 a2 j
 refine wln (sr (va (.pointer (some ⟨a, 1, none⟩)) (va (.pointer (some ⟨a, 1, none⟩)) (va (.pointer (some ⟨a, 1, none⟩)) (vx (le1 1 underlying3 (j.on 0 rfl)) (va (I (w64 (b.held + 1))) (va (.pointer (some ⟨a, 1, none⟩)) (va (.pointer (some ⟨a, 1, none⟩)) (md (sC 3 1 (I (w64 (b.held + 1))) [r0_0, I (w64 (b.held + 1)), I b.needs, .int .u8 128, .int .u8 191, I (ibOr .i64 (w64 (b.bits * 2 ^ 6)) (w64 (ibAnd .u8 d 63))), r0_6, r0_7, r0_8, r0_9, r0_10, r0_11] 0 j ⟨rfl, trivial⟩) ?_)))))))))
 rintro k1 b2 k
 refine wln (sr (va (.pointer (some ⟨a, 1, none⟩)) (va (.pointer (some ⟨a, 1, none⟩)) (va (.pointer (some ⟨a, 2, none⟩)) (vx (le1 2 underlying3 (k.on 0 rfl)) (va (I (w64 (b.needs - 1))) (va (.pointer (some ⟨a, 1, none⟩)) (va (.pointer (some ⟨a, 2, none⟩)) (md (sC 3 2 (I (w64 (b.needs - 1))) [r0_0, I (w64 (b.held + 1)), I (w64 (b.needs - 1)), .int .u8 128, .int .u8 191, I (ibOr .i64 (w64 (b.bits * 2 ^ 6)) (w64 (ibAnd .u8 d 63))), r0_6, r0_7, r0_8, r0_9, r0_10, r0_11] 0 k ⟨rfl, trivial⟩) ?_)))))))))
 rintro n c2 g
 refine wln (W.seq (sr (va (.pointer (some ⟨a, 1, none⟩)) (va (.pointer (some ⟨a, 1, none⟩)) (va (.pointer (some ⟨a, 2, none⟩)) (vx (le1 2 underlying3 (g.on 0 rfl)) (va (B (decide ((w64 (b.needs - 1)) > 0))) (wln (cn H (fun l0 H => ?_) (fun l0 H => ?_))))))))))
 ·refine sr (va (Y) (wln (W.ret (thr ?_))))
  obtain rfl := si H
  have m0 : OA (RI .i32) n (Y) [] [] := OA.nil (Nat.succ_pos _)
  have S := g.addHole (e := es true (RI .i32) (Y) 21 [] ([] : List Int)) rfl
  exact r1 ⟨_, n, rfl, rfl, pt, (Y), [], S, rfl, m0⟩
 refine W.skip (nrm (sr (va (.pointer (some ⟨a, 1, none⟩)) (va (.pointer (some ⟨a, 1, none⟩)) (va (.pointer (some ⟨a, 5, none⟩)) (vx (le1 5 underlying3 (g.on 0 rfl)) (va (J (w32 (ibOr .i64 (w64 (b.bits * 2 ^ 6)) (w64 (ibAnd .u8 d 63))))) (va (J (w32 (ibOr .i64 (w64 (b.bits * 2 ^ 6)) (w64 (ibAnd .u8 d 63))))) (wln (sr (va (.pointer (some ⟨a, 1, none⟩)) (va (.agg #[I 0, I 0, .int .u8 0, .int .u8 0, I 0]) (va (.pointer (some ⟨a, 1, none⟩)) (md (sB 62 1 [I 0, I 0, .int .u8 0, .int .u8 0, I 0] [r0_0, I 0, I 0, .int .u8 0, .int .u8 0, I 0, r0_6, r0_7, r0_8, r0_9, r0_10, r0_11] 0 g ⟨rfl, rfl, rfl, rfl, rfl, trivial⟩) ?_))))))))))))))
 rintro m1 d2 T
 refine wln (sr (va (J (w32 (ibOr .i64 (w64 (b.bits * 2 ^ 6)) (w64 (ibAnd .u8 d 63))))) (me (sl (RI .i32) 21 [[J (w32 (ibOr .i64 (w64 (b.bits * 2 ^ 6)) (w64 (ibAnd .u8 d 63))))]] ([(w32 (ibOr .i64 (w64 (b.bits * 2 ^ 6)) (w64 (ibAnd .u8 d 63))))] : List Int) T ⟨rfl, trivial⟩) ?_)))
 rintro p a0 e2 ⟨s0, U, o0⟩
 refine va (p) (wln (W.ret ?_))
 obtain rfl := si H
 exact r1 ⟨_, a0, rfl, rfl, pt, p, s0, U, rfl, o0⟩
def f_feed_Feeder_Bytes (sg : Sto) (p0 : Option Nat) (p1 : List Int) : Option (Sto) :=
 if p0.isNone = true then
 some sg
 else
 (iter (σ := Int × Sto) (τ := Sto) (((p1.length : Int) - 0).toNat + 1) (fun b =>
 if (decide (b.1 < (p1.length : Int))) = true then
 (idx p1 b.1).bind fun f =>
 (p0).bind fun d =>
 (b.2.feed_Feeder[d]?).bind fun a =>
 (f_utfdec_Dec_Step__feed_Feeder_1 a.dec f).bind fun e =>
 (b.2.set_feed_Feeder d (⟨a.pen, e.1, a.seg, a.open_⟩ : G_feed_Feeder)).bind fun c =>
 (f_feed_Feeder_all c p0 e.2).bind fun g =>
 some (.inl ((w64 (b.1 + 1)), g))
 else
 some (.inr (b.2))) (0, sg)).bind fun h =>
 some h
theorem c_feed_Feeder_Bytes (M : Own c0 G F) (R0 : Rel c0 sg G) (hG : Gl [0, 1] c0) (j : Option Nat) (k : List Int) {r : Sto} (t : Pt 4 c0 v1 j) (u : Sl (RI .u8) c0 v3 k) (H : f_feed_Feeder_Bytes sg j k = some r) :
    Calls prog 9 #[v1, v3] c0.w (Post c0 fun c v => ∃ G_ : Gm, Own c G_ (F) ∧ Rel c r G_ ∧ v = .tuple #[]) := by
 unfold f_feed_Feeder_Bytes at H
 refine en func9 rfl rfl (W.seq (sr (va (v1) (vr (B j.isNone) (by rcases (t).cs with ⟨p, s⟩ | ⟨b_, p, s⟩ <;> (subst p; rw [s]; kernel_rfl)) (wln (cn H (fun h5 H => ?_) (fun h5 H => ?_)))))))
 ·refine W.ret (thr ?_)
  obtain rfl := si H
  exact r0 ⟨_, c0, rfl, rfl, pt, G, M, R0, rfl⟩
 refine W.skip (nrm (sr (va (v3) (vx (ln 3 underlying24 u) (va (I 0) (wln (W.block (bn H fun y1 h6 E => lp h6 (fun d => Jn c0 fun c l => ∃ G_, Own c G_ (F) ∧ l = [(0, v1), (8, v3), (9, I (k.length : Int)), (10, I d.1)] ∧ Rel c d.2 G_) (fun x ex e w => ex = .exit 0 ∧ (Jn c0 fun c l => ∃ G_, Own c G_ (F) ∧ l = [] ∧ Rel c x G_) e w) ?_ ?_ ?_))))))))
 ·clear E h6
  intro d a2 i0 c1 H
  revert i0 c1
  rintro e_ w_ ⟨c8, g9, _, rfl, l8, rfl, z, n, rfl, h⟩
  refine sr (va (B (decide (d.1 < (k.length : Int)))) (wln (W.seq (cn H (fun j0 H => ?_) (fun j0 H => ?_)))))
  ·refine W.skip (nrm (W.seq (W.block (sr (bn H fun f o H => ?_)))))
   obtain ⟨h1, k0, b1⟩ := Sl.at (u.mono l8) (idx_get o)
   obtain rfl := k0
   refine vx (ix underlying24 u.m o) (vx (l1 underlying5 (b1 0 _ rfl)) (va (.int .u8 f) (wln (W.region (va (v1) (va (v1) (bn H fun g1 l0 H => ?_)))))))
   obtain ⟨g, rfl, q⟩ := ((t.mono l8)).get l0
   refine va (Q g) (va (.pointer (some ⟨g, 1, none⟩)) (va (.int .u8 f) (bn H fun a m0 H => ?_)))
   obtain ⟨v23, v25, s0, o0, q0⟩ := Rel.open_feed_Feeder h m0 q
   have N := n.borrow 0 s0 rfl
   refine bn H fun b t0 H => cl (c_utfdec_Dec_Step__feed_Feeder_1 a.dec f N t0) ?_
   rintro v31 n1 i ⟨_, z1, P, rfl, u0⟩
   have S := P.sD 2 [1, 0]
   have R := S.giveB 0 rfl
   refine bn H fun y v0 H => ?_
   obtain ⟨k1, T, d0, t1, m1⟩ := Rel.put_feed_Feeder R (h.mono i) (E' := [(Eb g 67 [v23, I b.1.held, I b.1.needs, .int .u8 b.1.lo, .int .u8 b.1.hi, I b.1.bits, B a.seg.some, I a.seg.last, I a.seg.pict, I a.seg.conj, B a.seg.odd, v25])]) v0 ⟨g, v23, v25, (tm q), rfl, (o0.mono i), (q0.mono i)⟩
   obtain ⟨q1, x0, u1, U, w0⟩ := T.frz 0 rfl u0
   refine WL.gh x0 (bn H fun j1 y0 H => cl (c_feed_Feeder_all U d0.m (hG.m.le (by decide)) j b.2 t.m w0 y0) ?_)
   rintro v58 g0 w1 ⟨A, X, e0, rfl⟩
   refine WL.nil (bkn (nrm (W.region (va (I (w64 (d.1 + 1))) (va (I (w64 (d.1 + 1))) (WL.nil ?_))))))
   obtain rfl := si H
   refine ⟨_, rfl, ?_⟩
   have Z := X.sD 1 []
   exact ⟨g0, _, _, rfl, pt, us, A, Z, rfl, e0⟩
  refine W.exit (thx ?_)
  obtain rfl := si H
  exact ⟨_, rfl, rfl, ⟨c8, _, _, rfl, pt, us, z, n, rfl, h⟩⟩
 ·exact ⟨c0, _, _, rfl, pt, us, G, M, rfl, R0⟩
 rintro _ e_ w_ ⟨rfl, h0, s1, _, rfl, x1, rfl, D, a0, rfl, f0⟩
 refine bke ?_
 obtain rfl := si E
 exact n0 ⟨_, h0, rfl, rfl, pt, D, a0, f0, rfl⟩
def f_feed_Feeder_Flush (sg : Sto) (p0 : Option Nat) : Option (Sto) :=
 if p0.isNone = true then
 some sg
 else
 (p0).bind fun c =>
 (sg.feed_Feeder[c]?).bind fun a =>
 (f_utfdec_Dec_Flush__feed_Feeder_1 a.dec).bind fun d =>
 (sg.set_feed_Feeder c (⟨a.pen, d.1, a.seg, a.open_⟩ : G_feed_Feeder)).bind fun b =>
 (f_feed_Feeder_all b p0 d.2).bind fun f =>
 (f_feed_Feeder_Close f p0).bind fun e =>
 some e
theorem c_feed_Feeder_Flush (l : Own c0 G F) (j : Rel c0 sg G) (hG : Gl [0, 1] c0) (f : Option Nat) {r : Sto} (g : Pt 4 c0 v1 f) (H : f_feed_Feeder_Flush sg f = some r) :
    Calls prog 15 #[v1] c0.w (Post c0 fun c v => ∃ G_ : Gm, Own c G_ (F) ∧ Rel c r G_ ∧ v = .tuple #[]) := by
 unfold f_feed_Feeder_Flush at H
 refine en func15 rfl rfl (W.seq (sr (va (v1) (vr (B f.isNone) (by rcases (g).cs with ⟨h, i⟩ | ⟨b_, h, i⟩ <;> (subst h; rw [i]; kernel_rfl)) (wln (cn H (fun h3 H => ?_) (fun h3 H => ?_)))))))
 ·refine W.ret (thr ?_)
  obtain rfl := si H
  exact r0 ⟨_, c0, rfl, rfl, pt, G, l, j, rfl⟩
 refine W.skip (nrm (sr (va (v1) (va (v1) (bn H fun s0 h6 H => ?_)))))
 obtain ⟨d, rfl, h5⟩ := (g).get h6
 refine va (Q d) (va (.pointer (some ⟨d, 1, none⟩)) (bn H fun a h7 H => ?_))
 obtain ⟨v8, v10, N, h9, M⟩ := Rel.open_feed_Feeder j h7 h5
 have n := l.borrow 0 N rfl
 refine bn H fun b P H => cl (c_utfdec_Dec_Flush__feed_Feeder_1 a.dec n P) ?_
 rintro v16 l0 e ⟨_, w0, o, rfl, R⟩
 have q := o.sD 2 [1, 0]
 have p := q.giveB 0 rfl
 refine bn H fun b0 S H => ?_
 obtain ⟨i0, s, z, q0, k0⟩ := Rel.put_feed_Feeder p (j.mono e) (E' := [(Eb d 67 [v8, I b.1.held, I b.1.needs, .int .u8 b.1.lo, .int .u8 b.1.hi, I b.1.bits, B a.seg.some, I a.seg.last, I a.seg.pict, I a.seg.conj, B a.seg.odd, v10])]) S ⟨d, v8, v10, (tm h5), rfl, (h9.mono e), (M.mono e)⟩
 obtain ⟨m0, U, t0, t, T⟩ := s.frz 0 rfl R
 refine WL.gh U (bn H fun x0 X H => cl (c_feed_Feeder_all t z.m (hG.m.le (by decide)) f b.2 g.m T X) ?_)
 rintro v43 o0 u0 ⟨j0, u, A, rfl⟩
 refine wln (W.region (va (Q d) (bn H fun h0 Z H => cl (c_feed_Feeder_Close u A f g.m Z) ?_)))
 rintro v50 E v0 ⟨k, x, D, rfl⟩
 refine WL.nil ?_
 obtain rfl := si H
 have y := x.sD 1 []
 exact n0 ⟨_, E, rfl, rfl, pt, k, y, D, rfl⟩
def f_feed_Feeder_Held (sg : Sto) (p0 : Option Nat) : Option (Int) :=
 if p0.isNone = true then
 some 0
 else
 (p0).bind fun c =>
 (sg.feed_Feeder[c]?).bind fun a =>
 (f_utfdec_Dec_Held__feed_Feeder_1 a.dec).bind fun b =>
 some b
theorem c_feed_Feeder_Held (h : Own c0 G F) (q : Rel c0 sg G) (f : Option Nat) {r : Int} (p : Pt 4 c0 v1 f) (H : f_feed_Feeder_Held sg f = some r) :
    Calls prog 10 #[v1] c0.w (Post c0 fun c v => Own c G (F) ∧ v = I r) := by
 unfold f_feed_Feeder_Held at H
 refine en func10 rfl rfl (sr (va (I 0) (wln (W.seq (sr (va (v1) (vr (B f.isNone) (by rcases (p).cs with ⟨d, e⟩ | ⟨D, d, e⟩ <;> (subst d; rw [e]; kernel_rfl)) (wln (cn H (fun s H => ?_) (fun s H => ?_))))))))))
 ·refine sr (va (I 0) (wln (W.ret (thr ?_))))
  obtain rfl := si H
  exact r1 ⟨_, c0, rfl, rfl, pt, h, rfl⟩
 refine W.skip (nrm (sr (va (v1) (bn H fun z u H => ?_))))
 obtain ⟨m, rfl, t⟩ := (p).get u
 refine va (Q m) (va (.pointer (some ⟨m, 1, none⟩)) (bn H fun a x H => ?_))
 obtain ⟨v8, v10, b, E, y⟩ := Rel.open_feed_Feeder q x t
 have i := h.borrow 0 b rfl
 refine bn H fun g o H => cl (c_utfdec_Dec_Held__feed_Feeder_1 a.dec i o) ?_
 rintro v21 n A ⟨j, rfl⟩
 have k := j.giveB 0 rfl
 have l := Own.back k b rfl
 refine va (I g) (wln (W.ret ?_))
 obtain rfl := si H
 exact r1 ⟨_, n, rfl, rfl, pt, l, rfl⟩
def f_feed_Feeder_Open (sg : Sto) (p0 : Option Nat) : Option (List Int) :=
 if p0.isNone = true then
 some ([] : List Int)
 else
 (p0).bind fun c =>
 (sg.feed_Feeder[c]?).bind fun a =>
 (f_widen_Cluster_Text sg a.open_).bind fun b =>
 some b
theorem c_feed_Feeder_Open (d : Own c0 G F) (j : Rel c0 sg G) (g : Option Nat) {r : List Int} (q : Pt 4 c0 v1 g) (H : f_feed_Feeder_Open sg g = some r) :
    Calls prog 12 #[v1] c0.w (Post c0 fun c v => ∃ h t, Own c G (es true (RI .i32) h 21 t r :: F) ∧ v = h ∧ OA (RI .i32) c h t r) := by
 unfold f_feed_Feeder_Open at H
 refine en func12 rfl rfl (sr (va (Y) (wln (W.seq (sr (va (v1) (vr (B g.isNone) (by rcases (q).cs with ⟨a, b⟩ | ⟨R, a, b⟩ <;> (subst a; rw [b]; kernel_rfl)) (wln (cn H (fun x H => ?_) (fun x H => ?_))))))))))
 ·refine sr (va (Y) (wln (W.ret (thr ?_))))
  obtain rfl := si H
  have y : OA (RI .i32) c0 (Y) [] [] := OA.nil (Nat.succ_pos _)
  have u := d.addHole (e := es true (RI .i32) (Y) 21 [] ([] : List Int)) rfl
  exact r1 ⟨_, c0, rfl, rfl, pt, (Y), [], u, rfl, y⟩
 refine W.skip (nrm (sr (va (v1) (bn H fun N A H => ?_))))
 obtain ⟨k, rfl, z⟩ := (q).get A
 refine va (Q k) (va (.pointer (some ⟨k, 11, none⟩)) (bn H fun f D H => ?_))
 obtain ⟨v10, v12, n, M, m⟩ := Rel.open_feed_Feeder j D z
 refine vx (le1 11 underlying65 (d.gon n 0 rfl)) (bn H fun E o H => cl (c_widen_Cluster_Text d j f.open_ m o) ?_)
 rintro v16 l P ⟨_, s, i, rfl, p⟩
 refine va (v16) (wln (W.ret ?_))
 obtain rfl := si H
 exact r1 ⟨_, l, rfl, rfl, pt, v16, s, i, rfl, p⟩
def f_linotypelaw37_works (sg : Sto) : Option (Sto × Bool) :=
 (f_place_New sg 3 1).bind fun c =>
 (f_feed_New c.1 c.2).bind fun b =>
 if b.2.isNone = true then
 some (b.1, false)
 else
 (f_feed_Feeder_Bytes b.1 b.2 ([101] : List Int)).bind fun h =>
 (f_feed_Feeder_Bytes h b.2 ([204] : List Int)).bind fun i =>
 (f_feed_Feeder_Bytes i b.2 ([129] : List Int)).bind fun a =>
 (c.2).bind fun f =>
 (a.place_Pen[f]?).bind fun g =>
 (f_grid_Grid_Row a g.G 0).bind fun j =>
 (f_row_Row_Cell a j 0).bind fun k =>
 (f_linotyperef01_Same k.1.Text ([101, 769] : List Int)).bind fun l =>
 (andE l ((f_feed_Feeder_Held a b.2).bind fun m =>
 some (m == 0))).bind fun d =>
 (andE d ((f_feed_Feeder_Open a b.2).bind fun n =>
 some ((n.length : Int) == 2))).bind fun e =>
 some (a, e)
theorem c_linotypelaw37_works (O0 : Own c0 G F) (R0 : Rel c0 sg G) (hG : Gl [0, 1] c0) {r : Sto × Bool} (H : f_linotypelaw37_works sg = some r) :
    Calls prog 4 #[] c0.w (Post c0 fun c v => ∃ G_ : Gm, Own c G_ (F) ∧ Rel c r.1 G_ ∧ v = B r.2) := by
 unfold f_linotypelaw37_works at H
 refine en func4 rfl rfl (sr (va (B false) (wln (sr (bn H fun o3 h1 H => cl (c_place_New O0 R0 3 1 h1) ?_)))))
 rintro v2 c8 l8 ⟨_, G4, O5, R6, a7, rfl, h3⟩
 refine va (v2) (wln (sr (va (v2) (bn H fun g a2 H => cl (c_feed_New O5 R6 o3.2 h3 a2) ?_))))
 rintro v11 z1 z2 ⟨_, i1, R, T, a16, rfl, f⟩
 refine va (v11) (wln (W.seq (sr (va (v11) (vr (B g.2.isNone) (by rcases (f).cs with ⟨Z, a0⟩ | ⟨b_, Z, a0⟩ <;> (subst Z; rw [a0]; kernel_rfl)) (wln (cn H (fun b2 H => ?_) (fun b2 H => ?_))))))))
 ·refine sr (va (B false) (wln (W.ret (thr ?_))))
  obtain rfl := si H
  exact r1 ⟨_, z1, rfl, rfl, pt, i1, R, T, rfl⟩
 refine W.skip (nrm (sr (va (v11) (me (sl (RI .u8) 5 [[.int .u8 101]] ([101] : List Int) R ⟨rfl, trivial⟩) ?_))))
 rintro v24 q4 a3 ⟨k3, j1, c2⟩
 obtain ⟨r4, e2, b3, k1, d2⟩ := j1.frz 0 rfl c2
 refine WL.gh e2 (bn H fun l4 f2 H => cl (c_feed_Feeder_Bytes k1 T.m (hG.m.le (by decide)) g.2 ([101] : List Int) f.m d2 f2) ?_)
 rintro v35 s4 c3 ⟨o4, m1, x1, rfl⟩
 refine wln (sr (va (v11) (me (sl (RI .u8) 5 [[.int .u8 204]] ([204] : List Int) m1 ⟨rfl, trivial⟩) ?_)))
 rintro v40 t4 d3 ⟨l3, n1, h2⟩
 obtain ⟨u4, j2, e3, p1, i2⟩ := n1.frz 0 rfl h2
 refine WL.gh j2 (bn H fun m4 k2 H => cl (c_feed_Feeder_Bytes p1 x1.m (hG.m.le (by decide)) g.2 ([204] : List Int) f.m i2 k2) ?_)
 rintro v51 v4 f3 ⟨p4, q1, y1, rfl⟩
 refine wln (sr (va (v11) (me (sl (RI .u8) 5 [[.int .u8 129]] ([129] : List Int) q1 ⟨rfl, trivial⟩) ?_)))
 rintro v56 w4 g3 ⟨m3, s1, l2⟩
 obtain ⟨x4, n2, i3, t1, m2⟩ := s1.frz 0 rfl l2
 refine WL.gh n2 (bn H fun n4 o2 H => cl (c_feed_Feeder_Bytes t1 y1.m (hG.m.le (by decide)) g.2 ([129] : List Int) f.m m2 o2) ?_)
 rintro e5 y4 j3 ⟨P, S, e, rfl⟩
 refine wln (sr (va (v2) (bn H fun b4 q2 H => ?_)))
 obtain ⟨U, rfl, p2⟩ := ((h3.mono (z2.trans (a3.trans (b3.trans (c3.trans (d3.trans (e3.trans (f3.trans (g3.trans (i3.trans j3))))))))))).get q2
 refine va (Q U) (va (Q U) (bn H fun e1 s2 H => ?_))
 obtain ⟨f5, u2, t2⟩ := Rel.open_place_Pen e s2 p2
 refine vx (le1 0 underlying45 (S.gon u2 0 rfl)) (bn H fun f1 w2 H => cl (c_grid_Grid_Row S e e1.G 0 t2 w2) ?_)
 rintro g5 z4 c5 ⟨_, u1, rfl, x2⟩
 refine bn H fun a y2 H => cl (c_row_Row_Cell u1 e.m f1 0 x2 y2) ?_
 rintro h5 a5 d5 ⟨d0, n3, v1, rfl, N⟩
 refine va (.tuple #[.agg #[I a.1.Kind, d0], B a.2]) (va (.agg #[I a.1.Kind, d0]) (va (B a.2) (me (al 54 [I 0, Y] v1) ?_)))
 rintro i5 b5 b0 ⟨X, rfl, w1⟩
 obtain ⟨A, D, k, rfl⟩ := ((N.mono b0)).form
 refine md (sA 54 [I a.1.Kind, .slice A D k] 0 w1 ⟨rfl, N.m.one, trivial⟩) ?_
 rintro l0 b1 x
 refine va (B a.2) (wln (W.seq (bn H fun g1 t0 H => bn H fun x3 E H => bn H fun s0 n H => W.join (Jn l0 fun c l => ∃ q o, Own c P (es false (RI .i32) q 21 o ([101, 769] : List Int) :: (Eb X 54 [I a.1.Kind, .slice A D k]) :: es false (RI .i32) (.slice A D k) 21 n3 a.1.Text :: es false (RI .u8) v56 5 m3 ([129] : List Int) :: es false (RI .u8) v40 5 l3 ([204] : List Int) :: es false (RI .u8) v24 5 k3 ([101] : List Int) :: F) ∧ l = [(0, B s0)] ∧ OA (RI .i32) c q o ([101, 769] : List Int)) ?_ ?_)))
 ·clear H
  refine W.region (va (.pointer (some ⟨X, 1, none⟩)) (vx (le1 1 underlying43 (x.on 0 rfl)) (me (sl (RI .i32) 21 [[J 101], [J 769]] ([101, 769] : List Int) x ⟨rfl, rfl, trivial⟩) ?_)))
  rintro s u3 c1 ⟨p, e0, h⟩
  obtain ⟨v3, v0, d1, f0, u0⟩ := e0.frz 2 rfl (N.mono (b0.trans (b1.trans c1)))
  refine WL.gh v0 ?_
  obtain ⟨w3, x0, c4, g0, w0⟩ := f0.frz 0 rfl (h.mono d1)
  refine WL.gh x0 (cl (c_linotyperef01_Same g0 a.1.Text ([101, 769] : List Int) u0.m w0 t0) ?_)
  rintro i4 m0 d4 ⟨y, rfl⟩
  rcases bo (g1) with b | b
  ·have i := anT b E
   refine vb b (wn (va (v11) (wn (bn i fun t y0 i => cl (c_feed_Feeder_Held y e.m g.2 f.m y0) ?_))))
   rintro j4 o0 e4 ⟨z, rfl⟩
   refine wn (va (B (t == 0)) ?_)
   obtain rfl := si i
   refine va (B (t == 0)) ?_
   rcases bo (t == 0) with d | d
   ·have j := anT d n
    refine vb d (wn (va (v11) (wn (bn j fun u z0 j => cl (c_feed_Feeder_Open z e.m g.2 f.m z0) ?_))))
    rintro k4 p0 f4 ⟨_, h4, h0, rfl, a1⟩
    refine wn (vx (lnO 3 underlying43 a1) (wn (va (B ((u.length : Int) == 2)) ?_)))
    obtain rfl := si j
    refine va (B ((u.length : Int) == 2)) (va (B ((u.length : Int) == 2)) (wln ?_))
    have i0 := h0.sD 7 [1, 2, 3, 4, 5, 6]
    exact ⟨p0, _, _, rfl, pt, us, s, p, i0, rfl, h.m⟩
   obtain rfl := anF d n
   exact vb d (ps (ps (ps (ps (va (B false) (va (B false) (wln ⟨o0, _, _, rfl, pt, us, s, p, z, rfl, h.m⟩)))))))
  obtain rfl := anF b E
  refine vb b (ps (ps (ps (va (B false) ?_))))
  have M : false = false := rfl
  obtain rfl := anF M n
  exact vb M (ps (ps (ps (ps (va (B false) (va (B false) (wln ⟨m0, _, _, rfl, pt, us, s, p, y, rfl, h.m⟩)))))))
 rintro e_ w_ ⟨q0, y3, _, rfl, g4, rfl, q, o, j0, rfl, a4⟩
 refine nrm (W.ret ?_)
 obtain rfl := si H
 have k0 := j0.sD 6 []
 exact r1 ⟨_, q0, rfl, rfl, pt, P, k0, e.m, rfl⟩
end Go.Proofs.YtfhhpdggmefcoaaGreatDoor
namespace Go.Proofs.YtfhhpdggmefcoaaGreatDoor
open Go Go.Lt
set_option maxRecDepth 10000
set_option linter.unusedVariables false
attribute [local irreducible] W WL AC
theorem Own.putRow {c : Cx} {G : Gm} {F : List En} {E : TypeId} {vs : List Value} {xs : List Int} {b cap : Nat} (O : Own c G (es true (RI .i64) (.slice (some ⟨b, 0, none⟩) xs.length cap) E vs xs :: F)) (hc : xs.length ≤ cap ∧ cap ≤ maxLen ∧ cap ≤ vs.length)
  (d ys : List Int) (hd : d.length = xs.length) (hy : ∃ z, d = ys ++ z) (n : Nat) (os : Array Obj) :
  ∃ c' us, c'.w = Sort.grow (Sort.putRow (Value.int .i64) (Sort.ahead c.w n) b 0 d.toArray) os ∧ c.le c' ∧ Own c' G (es true (RI .i64) (.slice (some ⟨b, 0, none⟩) ys.length cap) E us ys :: F) ∧ OA (RI .i64) c' (.slice (some ⟨b, 0, none⟩) ys.length cap) us ys := by
 obtain ⟨hb, hA⟩ := O.on 0 rfl b rfl
 simp only [es, cond_true] at hb hA
 have hlt : b < c.w.heap.size := (Array.getElem?_eq_some_iff.1 hb).1
 obtain ⟨us, hus⟩ : ∃ us, us = (Sort.putCells (Value.int .i64) 0 d.toArray vs.toArray).toList := ⟨_, rfl⟩
 have hul : us.length = vs.length := by rw [hus]; simp [Sort.putCells]
 have hget : ∀ i, i < d.length → us[i]? = some (.int .i64 d[i]!) := fun i hi => by
  have hv : i < vs.length := by omega
  rw [hus]
  simp only [Sort.putCells, Array.getElem?_toList, Array.getElem?_mapIdx, List.getElem?_toArray, List.getElem?_eq_getElem hv, Option.map_some, List.size_toArray, Nat.zero_le, Nat.zero_add, true_and, if_pos hi, Nat.sub_zero]
  simp [hi]
 have hh : ∀ k, k < c.w.heap.size → (Sort.grow (Sort.putRow (Value.int .i64) (Sort.ahead c.w n) b 0 d.toArray) os).heap[k]? = if b = k then some (.cells us.toArray E (0, 0)) else c.w.heap[k]? := fun k hk => by
  simp only [Sort.grow, Sort.putRow, Sort.mapBlock, Sort.ahead]
  rw [Array.getElem?_append_left (by simpa using hk), Array.getElem?_modify]
  split
  ·rename_i e
   subst e
   rw [hb]
   simp [Sort.onCells, hus]
  ·rfl
 refine ⟨⟨_, fun k o => k < c.w.heap.size ∧ c.A k o, c.t⟩, us, rfl, ?_⟩
 have hbut : c.but (fun k => k = b) ⟨Sort.grow (Sort.putRow (Value.int .i64) (Sort.ahead c.w n) b 0 d.toArray) os, fun k o => k < c.w.heap.size ∧ c.A k o, c.t⟩ := by
  have hne : ∀ k o, ¬ c.A k o → b ≠ k := fun k o h e => h (by subst e; exact (hA o).2 (Nat.zero_le _))
  have hk : ∀ k, k < c.w.heap.size → b ≠ k → (Sort.grow (Sort.putRow (Value.int .i64) (Sort.ahead c.w n) b 0 d.toArray) os).heap[k]? = c.w.heap[k]? := fun k h1 h2 => by rw [hh k h1, if_neg h2]
  refine ⟨⟨rfl, rfl, by simp [Sort.grow, Sort.putRow, Sort.mapBlock, Sort.ahead], fun k o h1 h2 => ⟨World.cell?_of_block (w := c.w) (a := ⟨k, o, none⟩) (hk k h1 (hne k o h2)), fun h => h2 h.2⟩, fun k h1 h2 => hk k h1 (hne k 0 (h2 0)), fun a h1 h2 => ?_, fun _ _ _ h => h⟩, rfl, fun k h1 h2 => ⟨hk k h1 (Ne.symm h2), fun o => ⟨fun h => h.2, fun h => ⟨h1, h⟩⟩⟩⟩
  simp only [World.frozen?, hk _ h1 (hne _ _ h2)]
 refine ⟨hbut.le, Own.set O 0 rfl hbut (fun b' hb' => by rw [hb']; rfl) (e' := es true (RI .i64) (.slice (some ⟨b, 0, none⟩) ys.length cap) E us ys) (fun b' hb' => ?_) (fun b' hb' => .inl hb'), by decide, .inr ⟨b, cap, rfl, ?_, hc.2.1, ?_⟩, fun i x hx => ?_⟩
 ·simp only [es, blk, Option.some.injEq] at hb'
  subst hb'
  exact ⟨(hh b hlt).trans (by rw [if_pos rfl]; rfl), fun o => ⟨fun _ => Nat.zero_le _, fun _ => ⟨hlt, (hA o).2 (Nat.zero_le _)⟩⟩⟩
 ·obtain ⟨z, rfl⟩ := hy
  rw [List.length_append] at hd
  omega
 ·show cap * 1 ≤ us.length
  omega
 ·obtain ⟨z, rfl⟩ := hy
  have hi := (List.getElem?_eq_some_iff.1 hx).1
  have h1 := hget i (by rw [List.length_append]; omega)
  have h2 : (ys ++ z)[i]! = x := by
   rw [getElem!_pos _ i (by rw [List.length_append]; omega), List.getElem_append_left hi]
   exact (List.getElem?_eq_some_iff.1 hx).2
  rw [h2] at h1
  show (us.drop (i * 1)).take 1 = [.int .i64 x]
  rw [Nat.mul_one]
  obtain ⟨h3, h4⟩ := List.getElem?_eq_some_iff.1 h1
  rw [List.drop_eq_getElem_cons h3, h4]
  rfl
theorem OA.holds {c : Cx} {G : Gm} {F : List En} {E : TypeId} {vs : List Value} {xs : List Int} {b cap : Nat} (O : Own c G (es true (RI .i64) (.slice (some ⟨b, 0, none⟩) xs.length cap) E vs xs :: F)) (hc : cap ≤ vs.length ∧ xs.length ≤ cap) (h : AR (RI .i64) c vs xs) : Sort.Holds (Value.int .i64) c.w b 0 xs.toArray := fun j hj => by
 obtain ⟨hb, _⟩ := O.on 0 rfl b rfl
 simp only [es, cond_true] at hb
 have hj' : j < xs.length := by simpa using hj
 have h1 : (vs.drop (j * 1)).take 1 = [.int .i64 xs[j]] := h j xs[j] (List.getElem?_eq_getElem hj')
 rw [Nat.mul_one] at h1
 have hv : j < vs.length := by omega
 rw [List.drop_eq_getElem_cons hv] at h1
 simp only [List.take_succ_cons, List.take_zero, List.cons.injEq, and_true] at h1
 refine ⟨?_, ?_⟩
 ·rw [Nat.zero_add, cell_of_row _ _ _ _ _ _ hb, List.getElem?_toArray, List.getElem?_eq_getElem hv, h1]
  simp [hj']
 ·simp [World.frozen?, hb]
def insI (x : Int) : List Int → List Int
 | [] => [x]
 | y :: l => if x ≤ y then x :: y :: l else y :: insI x l
def srt : List Int → List Int
 | [] => []
 | x :: l => insI x (srt l)
theorem insI_perm (x : Int) (l : List Int) : (insI x l).Perm (x :: l) := by
 induction l with
 | nil => exact .refl _
 | cons y l ih =>
  unfold insI
  split
  ·exact .refl _
  ·exact (ih.cons y).trans (.swap x y l)
theorem srt_perm (l : List Int) : (srt l).Perm l := by
 induction l with
 | nil => exact .refl _
 | cons x l ih => exact (insI_perm x _).trans (ih.cons x)
theorem insI_sorted (x : Int) (l : List Int) (h : l.Pairwise (fun a b => a ≤ b)) : (insI x l).Pairwise (fun a b => a ≤ b) := by
 induction l with
 | nil => simp [insI]
 | cons y l ih =>
  rw [List.pairwise_cons] at h
  unfold insI
  split
  ·rename_i hxy
   rw [List.pairwise_cons, List.pairwise_cons]
   refine ⟨fun z hz => ?_, h.1, h.2⟩
   rcases List.mem_cons.1 hz with rfl | hz
   ·exact hxy
   ·exact Int.le_trans hxy (h.1 z hz)
  ·rename_i hxy
   rw [List.pairwise_cons]
   refine ⟨fun z hz => ?_, ih h.2⟩
   rcases List.mem_cons.1 ((insI_perm x l).mem_iff.1 hz) with rfl | hz
   ·omega
   ·exact h.1 z hz
theorem srt_sorted (l : List Int) : (srt l).Pairwise (fun a b => a ≤ b) := by
 induction l with
 | nil => exact .nil
 | cons x l ih => exact insI_sorted x _ ih
theorem srt_eq (l : List Int) : (l.mergeSort fun x y => decide (x ≤ y)) = srt l := by
 refine List.Perm.eq_of_pairwise (le := fun a b : Int => a ≤ b) (fun a b _ _ h1 h2 => by omega) ?_ (srt_sorted l) ((List.mergeSort_perm l _).trans (srt_perm l).symm)
 refine (List.pairwise_mergeSort (fun a b c h1 h2 => ?_) (fun a b => ?_) l).imp fun h => by simpa using h
 ·simp only [decide_eq_true_eq] at h1 h2 ⊢; omega
 ·simp only [Bool.or_eq_true, decide_eq_true_eq]; omega
def f_slices_Sort (p0 : List Int) : Option (List Int) := if p0.length ≤ 1099511627776 then some (srt p0) else none
def lay_sort_ren : Go.Shelf.Ren := ⟨fun | 0 => 0 | 1 => 1 | 2 => 2 | 125 => 45 | 128 => 73 | 129 => 74 | 189 => 22 | 205 => 216 | 215 => 101 | 216 => 70 | 257 => 44 | 294 => 64 | 295 => 65 | 296 => 66 | 297 => 67 | 298 => 68 | 299 => 69 | 300 => 71 | 301 => 72 | 328 => 96 | 329 => 97 | 330 => 98 | 331 => 99 | 332 => 100 | 343 => 128 | 347 => 197 | 348 => 198 | 349 => 199 | 350 => 200 | 351 => 201 | 352 => 202 | 353 => 203 | 354 => 204 | 355 => 205 | 356 => 206 | 357 => 207 | 358 => 208 | 359 => 209 | 360 => 210 | 361 => 211 | 363 => 214 | 366 => 215 | 367 => 221 | n => n, fun | 0 => 0 | 1 => 1 | 2 => 2 | 3 => 3 | 4 => 4 | 5 => 5 | 6 => 6 | 7 => 7 | 8 => 8 | 9 => 9 | 10 => 10 | 11 => 11 | 12 => 12 | 13 => 13 | 14 => 14 | 15 => 15 | 16 => 16 | 17 => 17 | 18 => 18 | 19 => 19 | 20 => 20 | 21 => 21 | 28 => 25 | 31 => 191 | 35 => 68 | 37 => 24 | 39 => 163 | 40 => 82 | 43 => 168 | 46 => 98 | 47 => 97 | 48 => 138 | 51 => 129 | 52 => 128 | 53 => 27 | 54 => 130 | 73 => 183 | 74 => 184 | 75 => 185 | 80 => 221 | 81 => 41 | 99 => 69 | 108 => 238 | 111 => 161 | 112 => 124 | 114 => 150 | 127 => 230 | 131 => 126 | 134 => 96 | 143 => 220 | 144 => 235 | 145 => 236 | 164 => 237 | 181 => 119 | 182 => 120 | 183 => 121 | 184 => 122 | 185 => 123 | 186 => 125 | 187 => 127 | 218 => 155 | 219 => 156 | 220 => 157 | 221 => 158 | 222 => 159 | 223 => 160 | 228 => 170 | 229 => 171 | 230 => 172 | 238 => 222 | 239 => 223 | 240 => 224 | 241 => 225 | 242 => 226 | 243 => 227 | 244 => 228 | 245 => 229 | 246 => 231 | 247 => 232 | 248 => 233 | 249 => 234 | n => n, fun n => n⟩
theorem lay_sort : Go.Proofs.Lays.n189 Tryz.prog lay_sort_ren := by
 constructor <;> first | kernel_rfl | (intro w; kernel_rfl)
theorem c_slices_Sort {c0 : Cx} {G : Gm} {F : List En} {v1 : Value} {u1 : List Value} (p0 : List Int) (O0 : Own c0 G (es true (RI .i64) v1 3 u1 p0 :: F)) (h1 : OA (RI .i64) c0 v1 u1 p0) {r : List Int} (H : f_slices_Sort p0 = some r) :
  Calls Tryz.prog 22 #[v1] c0.w (Post c0 fun c v => ∃ y1 : List Value, Own c G (es true (RI .i64) v1 3 y1 r :: F) ∧ v = .tuple #[] ∧ OA (RI .i64) c v1 y1 r) := by
 unfold f_slices_Sort at H
 split at H
 case isFalse => cases H
 rename_i hfar
 obtain rfl := Option.some.inj H
 have hlen : (srt p0).length = p0.length := (srt_perm p0).length_eq
 rcases h1.2.1 with ⟨rfl, rfl⟩ | ⟨g, cap, rfl, a1, a2, a3⟩
 ·refine (Go.Proofs.Any.slices_Sort_int_none lay_sort none 0 c0.w).mono ?_
  rintro e w' ⟨rfl, rfl⟩
  exact ⟨_, c0, rfl, rfl, Cx.le.refl _, u1, O0, rfl, h1⟩
 ·have a3' : cap ≤ u1.length := by have : cap * 1 ≤ u1.length := a3; omega
  refine (Go.Proofs.Any.slices_Sort_int lay_sort g 0 cap p0 c0.w (OA.holds O0 ⟨a3', a1⟩ h1.2.2) (Array.getElem?_eq_some_iff.1 (O0.on 0 rfl g rfl).1).1 (by omega)).mono ?_
  rintro e w' ⟨rfl, n, os, rfl⟩
  rw [srt_eq]
  obtain ⟨c', us, e1, e2, e3, e4⟩ := Own.putRow O0 ⟨a1, a2, a3'⟩ (srt p0) (srt p0) hlen ⟨[], by simp⟩ n os
  rw [hlen] at e3 e4
  exact ⟨_, c', rfl, e1.symm, e2, us, e3, rfl, e4⟩
def f_bytes_Clone (p0 : List Int) : Option (List Int) := app [] p0
theorem c_bytes_Clone {c0 : Cx} {G : Gm} {F : List En} {v1 : Value} (O0 : Own c0 G F) (p0 : List Int) (h1 : Sl (RI .u8) c0 v1 p0) {r : List Int} (H : f_bytes_Clone p0 = some r) :
  Calls Tryz.prog 23 #[v1] c0.w (Post c0 fun c v => ∃ y1 : Value, ∃ y2 : List Value, Own c G (es true (RI .u8) y1 5 y2 r :: F) ∧ v = y1 ∧ OA (RI .u8) c y1 y2 r) := by
 unfold f_bytes_Clone at H
 have hS := h1
 obtain ⟨a, cap, rfl, h2, h3, h4⟩ := h1
 refine enter (l := [.slice a p0.length cap]) Tryz.func23 rfl rfl rfl ?_
 refine W.seq ?_
 refine W.region ?_
 refine WL.val0 (v := .slice none 0 0) rfl (by kernel_rfl) ?_
 refine WL.nil ?_
 refine nrm ?_
 cases a with
 | none =>
  obtain rfl : p0 = [] := by
   cases p0 with
   | nil => rfl
   | cons x t =>
    obtain ⟨b, off, l, e, _⟩ := h4 0 x rfl
    cases e
  obtain rfl : r = [] := by simpa [app] using H.symm
  refine W.seq ?_
  refine W.seq ?_
  refine W.region ?_
  refine WL.val0 (v := .slice none 0 cap) rfl (by kernel_rfl) ?_
  refine WL.val0 (v := .bool true) rfl (by kernel_rfl) ?_
  refine WL.nil ?_
  refine nrm ?_
  refine W.cond (t := true) (by kernel_rfl) (fun _ => ?_) (fun h => by cases h)
  refine W.seq ?_
  refine W.region ?_
  refine WL.val0 (v := .slice none 0 0) rfl (by kernel_rfl) ?_
  refine WL.nil ?_
  refine nrm ?_
  refine W.ret ?_
  refine thr ?_
  have O1 := O0.addHole (e := es true (RI .u8) (.slice none 0 0) 5 [] ([] : List Int)) rfl
  exact ret1 (v := .slice none 0 0) rfl (by kernel_rfl) ⟨_, c0, rfl, rfl, Cx.le.refl _, _, _, O1, rfl, OA.nil (Nat.succ_pos _)⟩
 | some ad =>
  refine W.seq ?_
  refine W.seq ?_
  refine W.region ?_
  refine WL.val0 (v := .slice (some ad) p0.length cap) rfl (by kernel_rfl) ?_
  refine WL.val0 (v := .bool false) rfl (by kernel_rfl) ?_
  refine WL.nil ?_
  refine nrm ?_
  refine W.cond (t := false) (by kernel_rfl) (fun h => by cases h) (fun _ => ?_)
  refine W.skip ?_
  refine nrm ?_
  refine W.seq ?_
  refine W.region ?_
  refine WL.mem rfl (Own.sl (R := RI .u8) (E := 5) (ls := []) (vs := []) (xs := ([] : List Int)) true O0 (Nat.succ_pos _) rfl trivial (by kernel_rfl) (by kernel_rfl)) ?_
  rintro v5 c1 l1 ⟨u1, O1, a1⟩
  refine WL.val0 (v := .slice (some ad) p0.length cap) rfl (by kernel_rfl) ?_
  refine WL.mem rfl (Own.app (R := RI .u8) (z := .int .u8 0) (by_ := 1) (ty := 24) 0 O1 rfl a1 (hS.mono l1) H Tryz.underlying24 (by kernel_rfl) rfl (by kernel_rfl) (by kernel_rfl)) ?_
  rintro v6 c2 l2 ⟨u2, O2, a2⟩
  refine WL.val0 (v := v6) rfl (by kernel_rfl) ?_
  refine WL.nil ?_
  refine nrm ?_
  refine W.ret ?_
  exact ret1 (v := v6) rfl (by kernel_rfl) ⟨_, c2, rfl, rfl, l1.trans l2, _, _, O2, rfl, a2⟩
end Go.Proofs.YtfhhpdggmefcoaaGreatDoor
namespace Go.Proofs.YtfhhpdggmefcoaaGreatDoor
open Go Go.Lt
set_option maxRecDepth 10000
set_option linter.unusedVariables false
attribute [local irreducible] W WL AC
open Tryz
variable {c0 : Cx} {G : Gm} {F : List En} {sg : Sto} {v1 v2 v3 v4 v5 v6 v7 v8 v9 v10 v11 v12 v13 v14 v15 v16 v17 v18 v19 v20 v21 v22 v23 v24 v25 v26 v27 v28 v29 v30 v31 v32 v33 v34 v35 v36 v37 v38 v39 v40 v41 v42 v43 v44 v45 v46 v47 v48 v49 v50 v51 v52 v53 v54 v55 v56 v57 v58 v59 v60 : Value}
def f_chunks_Cut (p0 : List Int) (p1 : List Int) : Option (List (List Int)) :=
 (rep 0 0).bind fun n =>
 (rep (p1.length : Int) 0).bind fun p =>
 (iter (σ := (List Int) × Int) (τ := (List Int)) (((p1.length : Int) - 0).toNat + 1) (fun b =>
 if (decide (b.2 < (p1.length : Int))) = true then
 (idx p1 b.2).bind fun g =>
 (app b.1 ([(imax 0 (imin g (p0.length : Int)))] : List Int)).bind fun h =>
 some (.inl (h, (w64 (b.2 + 1))))
 else
 some (.inr (b.1))) (n, 0)).bind fun e =>
 (f_slices_Sort e).bind fun i =>
 (rep 0 ([] : List Int)).bind fun j =>
 (rep (w64 ((p1.length : Int) + 1)) ([] : List Int)).bind fun o =>
 (app i ([(p0.length : Int)] : List Int)).bind fun c =>
 (iter (σ := (List (List Int)) × Int × Int) (τ := (List (List Int))) (((c.length : Int) - 0).toNat + 1) (fun a =>
 if (decide (a.2.2 < (c.length : Int))) = true then
 (idx c a.2.2).bind fun d =>
 (slc p0 a.2.1 d).bind fun k =>
 (f_bytes_Clone k).bind fun l =>
 (app a.1 ([l] : List (List Int))).bind fun m =>
 some (.inl (m, d, (w64 (a.2.2 + 1))))
 else
 some (.inr (a.1))) (j, 0, 0)).bind fun f =>
 some f
theorem c_chunks_Cut (O0 : Own c0 G F) (n : List Int) (q : List Int) {r : List (List Int)} (h2 : Sl (RI .u8) c0 v1 n) (Z : Sl (RI .i64) c0 v3 q) (H : f_chunks_Cut n q = some r) :
    Calls prog 8 #[v1, v3] c0.w (Post c0 fun c v => ∃ y1 y2, Own c G (es true (RL (RI .u8)) y1 24 y2 r :: F) ∧ v = y1 ∧ OA (RL (RI .u8)) c y1 y2 r) := by
 unfold f_chunks_Cut at H
 refine en func8 rfl rfl (sr (va (Y) (wln (sr (va (v3) (vx (ln 3 underlying25 Z) (bn H fun b6 h5 H => bn H fun c6 h6 H => me (Own.mkS (kl := .i64) (kc := .i64) (R := (RI .i64)) (z := I 0) (lz := [I 0]) (x := 0) (by_ := 8) (i := 0) (j := (q.length : Int)) true O0 (Nat.succ_pos _) h5 (rep_nn h6) (rep_le h6) underlying25 (by kernel_rfl) rfl rfl (fun _ => rfl) (by kernel_rfl) (by kernel_rfl)) ?_)))))))
 rintro v11 S q0 ⟨u8, O7, h9⟩
 refine va (v11) (wln (W.seq (sr (va (v3) (vx (ln 3 underlying25 Z.m) (va (I 0) (wln (W.block (bn H fun e2 i0 a => lp i0 (fun d => Jn S fun c l => ∃ v14 y, Own c G (es true (RI .i64) v14 3 y d.1 :: F) ∧ l = [(0, v1), (1, v3), (5, v14), (15, v3), (16, I (q.length : Int)), (17, I d.2)] ∧ OA (RI .i64) c v14 y d.1) (fun t ex e w => ex = .exit 0 ∧ (Jn S fun c l => ∃ v16 b0, Own c G (es true (RI .i64) v16 3 b0 t :: F) ∧ l = [(0, v1), (1, v3), (5, v16)] ∧ OA (RI .i64) c v16 b0 t) e w) ?_ ?_ ?_)))))))))
 ·clear a i0
  intro d f4 U f0 H
  revert U f0
  rintro e_ w_ ⟨x2, s5, _, rfl, u3, rfl, v14, y, h0, rfl, j0⟩
  refine sr (va (B (decide (d.2 < (q.length : Int)))) (wln (W.seq (cn H (fun b3 H => ?_) (fun b3 H => ?_)))))
  ·refine W.skip (nrm (W.seq (W.block (sr (bn H fun f k0 H => ?_)))))
   obtain ⟨y4, c3, c4⟩ := Sl.at (Z.mono (q0.trans u3)) (idx_get k0)
   obtain rfl := c3
   refine vx (ix underlying25 Z.m k0) (vx (l1 underlying3 (c4 0 _ rfl)) (va (I f) (wln (W.region (va (v14) (va (I f) (va (v1) (vx (ln 3 underlying24 h2.m) (va (I (imin f (n.length : Int))) (va (I (imax 0 (imin f (n.length : Int)))) (me (sl (RI .i64) 3 [[I (imax 0 (imin f (n.length : Int)))]] ([(imax 0 (imin f (n.length : Int)))] : List Int) h0 ⟨rfl, trivial⟩) ?_)))))))))))
   rintro v34 l5 v5 ⟨y5, m2, d3⟩
   obtain ⟨m5, f3, w5, n2, e3⟩ := m2.frz 0 rfl d3
   refine WL.gh f3 (bn H fun f5 g3 H => me (ap (RI .i64) (I 0) 8 25 1 n2 j0.m e3 g3 underlying25) ?_)
   rintro v44 z2 x5 ⟨d4, o2, h3⟩
   refine va (v44) (WL.nil (bkn (nrm (W.region (va (I (w64 (d.2 + 1))) (va (I (w64 (d.2 + 1))) (WL.nil ?_)))))))
   obtain rfl := si H
   refine ⟨_, rfl, ?_⟩
   have p2 := o2.sD 2 [1]
   exact ⟨z2, _, _, rfl, pt, us, v44, d4, p2, rfl, h3⟩
  refine W.exit (thx ?_)
  obtain rfl := si H
  exact ⟨_, rfl, rfl, ⟨x2, _, _, rfl, pt, us, v14, y, h0, rfl, j0⟩⟩
 ·exact ⟨S, _, _, rfl, pt, us, v11, u8, O7, rfl, h9⟩
 rintro _ e_ w_ ⟨rfl, n5, t5, _, rfl, w3, rfl, v16, b0, q2, rfl, i3⟩
 refine bke (nrm (sr (va (v16) (bn a fun g5 j3 a => cl (c_slices_Sort e2 q2 i3 j3) ?_))))
 rintro a6 o5 x3 ⟨z5, s2, rfl, k3⟩
 refine wln (sr (va (v3) (vx (ln 3 underlying25 Z.m) (va (I (w64 ((q.length : Int) + 1))) (bn a fun i5 m3 a => bn a fun k5 l0 a => me (Own.mkS (kl := .i64) (kc := .i64) (R := (RL (RI .u8))) (z := Y) (lz := [Y]) (x := ([] : List Int)) (by_ := 24) (i := 0) (j := (w64 ((q.length : Int) + 1))) true s2 (Nat.succ_pos _) m3 (rep_nn l0) (rep_le l0) underlying38 (by kernel_rfl) rfl rfl (fun _ => ⟨(Y), rfl, (Sl.nl _ _)⟩) (by kernel_rfl) (by kernel_rfl)) ?_)))))
 rintro v0 p5 y3 ⟨e4, t2, n3⟩
 refine va (v0) (wln (sr (va (I 0) (wln (W.seq (sr (va (v16) (va (v1) (vx (ln 3 underlying24 h2.m) (me (sl (RI .i64) 3 [[I (n.length : Int)]] ([(n.length : Int)] : List Int) t2 ⟨rfl, trivial⟩) ?_))))))))))
 rintro w0 q5 z3 ⟨t0, u2, o3⟩
 obtain ⟨r5, q3, a4, v2, p3⟩ := u2.frz 0 rfl o3
 refine WL.gh q3 (bn a fun p s3 a => me (ap (RI .i64) (I 0) 8 25 2 v2 k3.m p3 s3 underlying25) ?_)
 rintro e0 T b4 ⟨u0, w2, s⟩
 refine vx (lnO 3 underlying25 s) (va (I 0) (wln (W.block (bn a fun z4 m0 g0 => lp m0 (fun b => Jn T fun c l => ∃ o A, Own c G (es true (RL (RI .u8)) o 24 A b.1 :: es false (RI .i64) w0 3 t0 ([(n.length : Int)] : List Int) :: es true (RI .i64) e0 3 u0 p :: F) ∧ l = [(0, v1), (8, o), (9, I b.2.1), (40, e0), (41, I (p.length : Int)), (42, I b.2.2)] ∧ OA (RL (RI .u8)) c o A b.1) (fun u ex e w => ex = .exit 2 ∧ (Jn T fun c l => ∃ g D, Own c G (es true (RL (RI .u8)) g 24 D u :: es false (RI .i64) w0 3 t0 ([(n.length : Int)] : List Int) :: es true (RI .i64) e0 3 u0 p :: F) ∧ l = [(8, g)] ∧ OA (RL (RI .u8)) c g D u) e w) ?_ ?_ ?_))))
 ·clear g0 m0
  intro b f4 U f0 a
  revert U f0
  rintro e_ w_ ⟨a3, u5, _, rfl, s0, rfl, o, A, E, rfl, o0⟩
  refine sr (va (B (decide (b.2.2 < (p.length : Int)))) (wln (W.seq (cn a (fun t3 a => ?_) (fun t3 a => ?_)))))
  ·refine W.skip (nrm (W.seq (W.block (sr (bn a fun h a0 a => vx (ixO underlying25 s.m a0) ?_)))))
   obtain ⟨i4, j1, d2⟩ := OA.at (s.mono s0) a0
   obtain rfl := j1
   refine vr (I h) (rx (by kernel_rfl) (ldE1 underlying3 rfl (E.on 2 rfl) (s.m.blk a0) (at1 (j := 0) d2 rfl))) (va (I h) (wln (sr (va (o) (va (v1) (va (I b.2.1) (va (I h) (bn a fun j2 k1 a => ?_))))))))
   obtain ⟨g2, m1, n1⟩ := run_cut (k := .i64) (k' := .i64) underlying24 (by kernel_rfl) (h2.mono (q0.trans (w3.trans (x3.trans (y3.trans (z3.trans (a4.trans (b4.trans s0)))))))) k1
   refine vr g2 (rx (by kernel_rfl) (m1 _)) (bn a fun k2 q1 a => cl (c_bytes_Clone E j2 n1 q1) ?_)
   rintro d5 l4 s4 ⟨_, a5, x0, rfl, s1⟩
   obtain ⟨m4, t1, t4, y0, X⟩ := x0.frz 0 rfl s1
   refine WL.gh t1 ?_
   obtain ⟨M, N, P, rfl⟩ := (X).form
   refine me (sl (RL (RI .u8)) 24 [[.slice M N P]] ([k2] : List (List Int)) y0 ⟨⟨(.slice M N P), rfl, X⟩, trivial⟩) ?_
   rintro e5 n4 u4 ⟨b5, z0, u1⟩
   obtain ⟨o4, x1, v4, a1, w1⟩ := z0.frz 0 rfl u1
   refine WL.gh x1 (bn a fun j5 z1 a => me (ap (RL (RI .u8)) (Y) 24 38 2 a1 o0.m w1 z1 underlying38) ?_)
   rintro d0 g1 w4 ⟨f2, b1, a2⟩
   refine va (d0) (wln (W.region (va (I h) (va (I h) (WL.nil (bkn (nrm (W.region (va (I (w64 (b.2.2 + 1))) (va (I (w64 (b.2.2 + 1))) (WL.nil ?_)))))))))))
   obtain rfl := si a
   refine ⟨_, rfl, ?_⟩
   have c1 := b1.sD 5 [2, 3, 4]
   exact ⟨g1, _, _, rfl, pt, us, d0, f2, c1, rfl, a2⟩
  refine W.exit (thx ?_)
  obtain rfl := si a
  exact ⟨_, rfl, rfl, ⟨a3, _, _, rfl, pt, us, o, A, E, rfl, o0⟩⟩
 ·have d1 := w2.sD 3 [1, 0, 2]
  exact ⟨T, _, _, rfl, pt, us, v0, e4, d1, rfl, n3.m⟩
 rintro _ e_ w_ ⟨rfl, h1, p4, _, rfl, x4, rfl, g, D, e1, rfl, b2⟩
 refine bke (nrm (sr (va (g) (va (g) (wln (W.ret ?_))))))
 obtain rfl := si g0
 have f1 := e1.sD 3 [0]
 exact r1 ⟨_, h1, rfl, rfl, pt, g, D, f1, rfl, b2⟩
def f_linotypelaw37_FeedCuts (sg : Sto) (p0 : G_linotypelaw37_Side) (p1 : List Int) (p2 : List Int) : Option (Sto × Bool) :=
 (f_linotypelaw37_works sg).bind fun k =>
 (orE (!k.2) (some (decide ((p1.length : Int) > 400)))).bind fun E =>
 (orE E (some (decide ((p2.length : Int) > 100)))).bind fun s =>
 if s = true then
 (f_linotypelaw37_works k.1).bind fun j =>
 some (j.1, j.2)
 else
 (f_place_New k.1 (w64 (1 + (w64 ((IntKind.u64.wrap p0.W).tmod 12)))) (w64 (1 + (w64 ((IntKind.u64.wrap p0.H).tmod 6))))).bind fun e =>
 (f_linotyperef34_New (w64 (1 + (w64 ((IntKind.u64.wrap p0.W).tmod 12)))) (w64 (1 + (w64 ((IntKind.u64.wrap p0.H).tmod 6))))).bind fun M =>
 (f_feed_New e.1 e.2).bind fun c =>
 (f_place_New c.1 (w64 (1 + (w64 ((IntKind.u64.wrap p0.W).tmod 12)))) (w64 (1 + (w64 ((IntKind.u64.wrap p0.H).tmod 6))))).bind fun g =>
 (f_feed_New g.1 g.2).bind fun f =>
 (f_chunks_Cut p1 p2).bind fun h =>
 (iter (σ := Int × Sto) (τ := Sto) (((h.length : Int) - 0).toNat + 1) (fun b =>
 if (decide (b.1 < (h.length : Int))) = true then
 (idx h b.1).bind fun v =>
 (f_feed_Feeder_Bytes b.2 c.2 v).bind fun w =>
 some (.inl ((w64 (b.1 + 1)), w))
 else
 some (.inr (b.2))) (0, f.1)).bind fun u =>
 (f_feed_Feeder_Bytes u f.2 p1).bind fun a =>
 (f_feed_Feeder_Held a c.2).bind fun x =>
 (f_feed_Feeder_Held a f.2).bind fun y =>
 (orE (x != y) ((f_feed_Feeder_Open a c.2).bind fun z =>
 (f_feed_Feeder_Open a f.2).bind fun A =>
 (f_linotyperef01_Same z A).bind fun D =>
 some (!D))).bind fun t =>
 if t = true then
 some (a, false)
 else
 (g.2).bind fun l =>
 (a.place_Pen[l]?).bind fun d =>
 (f_grid_Grid_Lines a d.G).bind fun m =>
 (f_linotypelaw34_Alike a e.2 (⟨m, d.At, d.Auto⟩ : G_linotyperef34_Pen)).bind fun n =>
 if (!n) = true then
 some (a, false)
 else
 (f_feed_Feeder_Flush a c.2).bind fun i =>
 (f_linotyperef34_New (w64 (1 + (w64 ((IntKind.u64.wrap p0.W).tmod 12)))) (w64 (1 + (w64 ((IntKind.u64.wrap p0.H).tmod 6))))).bind fun o =>
 (f_linotyperef04_Runes p1).bind fun p =>
 (f_linotyperef37_Lay o p).bind fun q =>
 (f_linotypelaw34_Alike i e.2 q).bind fun r =>
 some (i, r)
theorem c_linotypelaw37_FeedCuts (O0 : Own c0 G F) (R0 : Rel c0 sg G) (hG : Gl [0, 1] c0) (f : G_linotypelaw37_Side) (R : List Int) (p2 : List Int) {r : Sto × Bool} (h2 : Sl (RI .u8) c0 v1 R) (h4 : Sl (RI .i64) c0 v3 p2) (H : f_linotypelaw37_FeedCuts sg f R p2 = some r) :
    Calls prog 3 #[.agg #[I f.W, I f.H], v1, v3] c0.w (Post c0 fun c v => ∃ G_ : Gm, Own c G_ (F) ∧ Rel c r.1 G_ ∧ v = B r.2) := by
 unfold f_linotypelaw37_FeedCuts at H
 refine en func3 rfl rfl (sr (me (bx 23 [I f.W, I f.H] O0) ?_))
 rintro v9 c8 l8 ⟨b5, rfl, O6, m7⟩
 refine va (B false) (wln (W.seq (W.seq (bn H fun e1 w6 H => bn H fun d_6 x1 H => bn H fun p3 w0 H => W.join (Jn c8 fun c l => ∃ G_, Own c G_ (F) ∧ l = [(1, v1), (2, v3), (3, Q b5), (27, B p3)] ∧ Rel c e1.1 G_) ?_ ?_))))
 ·clear H
  refine W.region (cl (c_linotypelaw37_works O6 R0.m (hG.m.le (by decide)) w6) ?_)
  rintro v18 u0 l17 ⟨h0, i0, s0, rfl⟩
  refine va (B (!e1.2)) ?_
  rcases bo (!e1.2) with N | N
  ·obtain rfl := orT N x1
   refine vb N (ps (ps (ps (va (B true) ?_))))
   have y1 : true = true := rfl
   obtain rfl := orT y1 w0
   exact vb y1 (ps (ps (ps (va (B true) (wln ⟨u0, _, _, rfl, pt, us, h0, i0, rfl, s0⟩)))))
  have d6 := orF N x1
  refine vb N (wn (va (v1) (wn (vx (ln 3 underlying24 h2.m) (wn (va (B (decide ((R.length : Int) > 400))) ?_))))))
  obtain rfl := si d6
  refine va (B (decide ((R.length : Int) > 400))) ?_
  rcases bo (decide ((R.length : Int) > 400)) with P | P
  ·obtain rfl := orT P w0
   exact vb P (ps (ps (ps (va (B true) (wln ⟨u0, _, _, rfl, pt, us, h0, i0, rfl, s0⟩)))))
  have e6 := orF P w0
  refine vb P (wn (va (v3) (wn (vx (ln 3 underlying25 h4.m) (wn (va (B (decide ((p2.length : Int) > 100))) ?_))))))
  obtain rfl := si e6
  exact va (B (decide ((p2.length : Int) > 100))) (wln ⟨u0, _, _, rfl, pt, us, h0, i0, rfl, s0⟩)
 rintro e_ w_ ⟨c24, g25, _, rfl, l24, rfl, G27, u1, rfl, w1⟩
 refine nrm (cn H (fun x6 H => ?_) (fun x6 H => ?_))
 ·refine sr (bn H fun w5 y6 H => cl (c_linotypelaw37_works u1 w1 (hG.m.le (by decide)) y6) ?_)
  rintro v37 t6 l36 ⟨b6, f6, o6, rfl⟩
  refine va (B w5.2) (wln (W.ret (thr ?_)))
  obtain rfl := si H
  exact r1 ⟨_, t6, rfl, rfl, pt, b6, f6, o6, rfl⟩
 refine W.skip (nrm (W.seq (rD [] (Kp G0 []) u1 ?_)))
 intro u6 l38 g6
 have p40 : Kp G0 [] u6 := Kp.nil0
 refine ta 0 (Q b5) (tx 1 (fun c' g7 => l1 underlying3 ((mm m7) 0 _ rfl)) (ta 2 (.int .u64 (IntKind.u64.wrap f.W)) (ta 3 (.int .u64 ((IntKind.u64.wrap f.W).tmod 12)) (ta 4 (I (w64 ((IntKind.u64.wrap f.W).tmod 12))) (ta 5 (I (w64 (1 + (w64 ((IntKind.u64.wrap f.W).tmod 12))))) (ta 6 (.pointer (some ⟨b5, 0 + 1, none⟩)) (tx 7 (fun c' g7 => l1 underlying3 ((mm m7) 1 _ rfl)) (ta 8 (.int .u64 (IntKind.u64.wrap f.H)) (ta 9 (.int .u64 ((IntKind.u64.wrap f.H).tmod 6)) (ta 10 (I (w64 ((IntKind.u64.wrap f.H).tmod 6))) (ta 11 (I (w64 (1 + (w64 ((IntKind.u64.wrap f.H).tmod 6))))) (ta 12 (I (w64 (1 + (w64 ((IntKind.u64.wrap f.W).tmod 12))))) (ta 13 (I (w64 (1 + (w64 ((IntKind.u64.wrap f.H).tmod 6))))) (dn (nrm (sr (va (I (w64 (1 + (w64 ((IntKind.u64.wrap f.W).tmod 12))))) (va (I (w64 (1 + (w64 ((IntKind.u64.wrap f.H).tmod 6))))) (bn H fun d0 a7 H => cl (c_place_New g6 w1.m (w64 (1 + (w64 ((IntKind.u64.wrap f.W).tmod 12)))) (w64 (1 + (w64 ((IntKind.u64.wrap f.H).tmod 6)))) a7) ?_)))))))))))))))))))
 rintro v42 c48 l48 ⟨_, G44, h6, p6, a47, rfl, y0⟩
 refine va (I (w64 (1 + (w64 ((IntKind.u64.wrap f.W).tmod 12))))) (va (I (w64 (1 + (w64 ((IntKind.u64.wrap f.H).tmod 6))))) (bn H fun d b7 H => cl (c_linotyperef34_New h6 (w64 (1 + (w64 ((IntKind.u64.wrap f.W).tmod 12)))) (w64 (1 + (w64 ((IntKind.u64.wrap f.H).tmod 6)))) b7) ?_))
 rintro v59 c58 l58 ⟨v51, c1, i6, rfl, z1⟩
 refine me (al 34 [Y, I 0, I 0, B false, B false] i6) ?_
 rintro v63 c62 h7 ⟨n, rfl, j6⟩
 refine va (v42) ?_
 obtain ⟨t, u, x, rfl⟩ := ((z1.mono h7)).form
 refine md (sA 34 [.slice t u x, I d.At.Row, I d.At.Col, B d.At.Pending, B d.Auto] 0 j6 ⟨z1.m.one, rfl, rfl, rfl, rfl, trivial⟩) ?_
 rintro c68 l68 k6
 refine wln (sr (va (v42) (bn H fun E c7 H => cl (c_feed_New k6 p6.m d0.2 y0.m c7) ?_)))
 rintro o c76 l76 ⟨_, G72, l6, q6, a75, rfl, f0⟩
 refine va (I (w64 (1 + (w64 ((IntKind.u64.wrap f.W).tmod 12))))) (va (I (w64 (1 + (w64 ((IntKind.u64.wrap f.H).tmod 6))))) (bn H fun x5 d7 H => cl (c_place_New l6 q6 (w64 (1 + (w64 ((IntKind.u64.wrap f.W).tmod 12)))) (w64 (1 + (w64 ((IntKind.u64.wrap f.H).tmod 6)))) d7) ?_))
 rintro A c85 l85 ⟨_, G81, m6, r6, a84, rfl, a2⟩
 refine va (o) (va (A) (wln (sr (va (A) (bn H fun e0 e7 H => cl (c_feed_New m6 r6 x5.2 a2 e7) ?_)))))
 rintro D c94 i7 ⟨_, c6, n6, s6, a93, rfl, z0⟩
 refine va (D) (wln (sr (va (v1) (va (v3) (bn H fun M f7 H => cl (c_chunks_Cut n6 R p2 h2.m h4.m f7) ?_)))))
 rintro z X i5 ⟨_, d1, e2, rfl, g0⟩
 refine va (z) (wln (W.seq (sr (va (I 0) (wln (W.block (bn H fun f9 v0 a => lp v0 (fun h => Jn X fun c l => ∃ G_, Own c G_ (es true (RL (RI .u8)) z 24 d1 M :: (Eb n 34 [.slice t u x, I d.At.Row, I d.At.Col, B d.At.Pending, B d.Auto]) :: es true R_api_Line (.slice t u x) 78 c1 d.L :: F) ∧ l = [(1, v1), (7, I (w64 (1 + (w64 ((IntKind.u64.wrap f.W).tmod 12))))), (8, I (w64 (1 + (w64 ((IntKind.u64.wrap f.H).tmod 6))))), (9, v42), (10, Q n), (11, o), (12, A), (13, D), (14, z), (15, I h.1)] ∧ Rel c h.2 G_) (fun j1 ex e w => ex = .exit 0 ∧ (Jn X fun c l => ∃ G_, Own c G_ (es true (RL (RI .u8)) z 24 d1 M :: (Eb n 34 [.slice t u x, I d.At.Row, I d.At.Col, B d.At.Pending, B d.Auto]) :: es true R_api_Line (.slice t u x) 78 c1 d.L :: F) ∧ l = [(1, v1), (7, I (w64 (1 + (w64 ((IntKind.u64.wrap f.W).tmod 12))))), (8, I (w64 (1 + (w64 ((IntKind.u64.wrap f.H).tmod 6))))), (9, v42), (10, Q n), (11, o), (12, A), (13, D)] ∧ Rel c j1 G_) e w) ?_ ?_ ?_)))))))
 ·clear a v0
  intro h xx_ v6 k7 H
  revert v6 k7
  rintro e_ w_ ⟨h3, o8, _, rfl, j5, rfl, b2, T, rfl, q0⟩
  refine W.seq (sr (va (I h.1) (va (z) (vx (lnO 3 underlying38 g0.m) (va (B (decide (h.1 < (M.length : Int)))) (wln (cn H (fun t3 H => ?_) (fun t3 H => ?_))))))))
  ·refine W.skip (nrm (W.seq (W.block (W.region (va (o) (va (z) (va (I h.1) (bn H fun y5 Z H => vx (ixO underlying38 g0.m Z) ?_))))))))
   obtain ⟨n7, u3, t5⟩ := OA.at (g0.mono j5) Z
   obtain ⟨u5, rfl, w3⟩ := u3
   refine vr u5 (rx (by kernel_rfl) (ldE1 underlying24 rfl (T.on 0 rfl) (g0.m.blk Z) (at1 (j := 0) t5 rfl))) (bn H fun x_75 x3 H => cl (c_feed_Feeder_Bytes T q0 (hG.m.le (by decide)) E.2 y5 f0.m w3 x3) ?_)
   rintro l9 i3 r8 ⟨c2, f2, e3, rfl⟩
   refine WL.nil (bkn (nrm (W.region (va (I h.1) (va (I (w64 (h.1 + 1))) (va (I (w64 (h.1 + 1))) (WL.nil ?_)))))))
   obtain rfl := si H
   exact ⟨_, rfl, ⟨i3, _, _, rfl, pt, us, c2, f2, rfl, e3⟩⟩
  refine W.exit (thx ?_)
  obtain rfl := si H
  exact ⟨_, rfl, rfl, ⟨h3, _, _, rfl, pt, us, b2, T, rfl, q0⟩⟩
 ·exact ⟨X, _, _, rfl, pt, us, c6, e2, rfl, s6.m⟩
 rintro _ e_ w_ ⟨rfl, u7, p8, _, rfl, k5, rfl, p7, g2, rfl, f3⟩
 refine bke (nrm (sr (va (D) (va (v1) (bn a fun x_83 y3 a => cl (c_feed_Feeder_Bytes g2 f3 (hG.m.le (by decide)) e0.2 R z0.m h2.m y3) ?_)))))
 rintro m9 j3 l5 ⟨S, i2, g, rfl⟩
 refine wln (W.seq (W.seq (bn a fun f1 z3 a => bn a fun g1 a4 a => bn a fun q3 x0 a => W.join (Jn j3 fun c l => Own c S (es true (RL (RI .u8)) z 24 d1 M :: (Eb n 34 [.slice t u x, I d.At.Row, I d.At.Col, B d.At.Pending, B d.Auto]) :: es true R_api_Line (.slice t u x) 78 c1 d.L :: F) ∧ l = [(1, v1), (7, I (w64 (1 + (w64 ((IntKind.u64.wrap f.W).tmod 12))))), (8, I (w64 (1 + (w64 ((IntKind.u64.wrap f.H).tmod 6))))), (9, v42), (10, Q n), (11, o), (12, A), (84, B q3)]) ?_ ?_)))
 ·clear a
  refine W.region (va (o) (cl (c_feed_Feeder_Held i2 g E.2 f0.m z3) ?_))
  rintro n9 v7 s8 ⟨j2, rfl⟩
  refine va (D) (cl (c_feed_Feeder_Held j2 g.m e0.2 z0.m a4) ?_)
  rintro o9 k3 t8 ⟨j0, rfl⟩
  refine va (B (f1 != g1)) ?_
  rcases bo (f1 != g1) with y | y
  ·obtain rfl := orT y x0
   exact vb y (ps (ps (ps (ps (ps (ps (va (B true) (wln ⟨k3, _, _, rfl, pt, us, j0, rfl⟩))))))))
  have k := orF y x0
  refine vb y (wn (va (o) (wn (bn k fun z5 b4 k => cl (c_feed_Feeder_Open j0 g.m E.2 f0.m b4) ?_))))
  rintro p9 w7 u8 ⟨_, g9, k2, rfl, c4⟩
  refine wn (va (D) (wn (bn k fun a6 d4 k => cl (c_feed_Feeder_Open k2 g.m e0.2 z0.m d4) ?_)))
  rintro q9 x7 m5 ⟨_, h9, l2, rfl, e4⟩
  refine wn ?_
  obtain ⟨y7, g4, n5, m2, f4⟩ := l2.frz 1 rfl (c4.mono m5)
  refine WL.gh g4 ?_
  obtain ⟨z7, j4, v8, n2, i4⟩ := m2.frz 0 rfl (e4.mono n5)
  refine WL.gh j4 (bn k fun h1 k4 k => cl (c_linotyperef01_Same n2 z5 a6 f4.m i4 k4) ?_)
  rintro r9 l3 w8 ⟨o2, rfl⟩
  refine wn (va (B (!h1)) ?_)
  obtain rfl := si k
  refine va (B (!h1)) (wln ?_)
  have q2 := o2.sD 5 [2, 3, 4]
  exact ⟨l3, _, _, rfl, pt, us, q2, rfl⟩
 rintro e_ w_ ⟨m3, q8, _, rfl, a1, rfl, U, rfl⟩
 refine nrm (cn a (fun l4 a => ?_) (fun l4 a => ?_))
 ·refine sr (va (B false) (wln (W.ret (thr ?_))))
  obtain rfl := si a
  have s2 := U.sD 3 []
  exact r1 ⟨_, m3, rfl, rfl, pt, S, s2, g.m, rfl⟩
 refine W.skip (nrm (sr (va (A) (bn a fun l7 n4 a => ?_))))
 obtain ⟨i, rfl, m4⟩ := ((a2.mono (i7.trans (i5.trans (k5.trans (l5.trans a1)))))).get n4
 refine va (Q i) (va (Q i) (bn a fun b o4 a => ?_))
 obtain ⟨s9, a0, p4⟩ := Rel.open_place_Pen (g.mono a1) o4 m4
 refine vx (le1 0 underlying45 (U.gon a0 0 rfl)) (bn a fun k1 q4 a => cl (c_grid_Grid_Lines U g.m b.G p4 q4) ?_)
 rintro t9 a8 x8 ⟨_, i9, t2, rfl, b0⟩
 refine va (Q n) ?_
 obtain ⟨p, q, s, rfl⟩ := (b0).form
 refine md (sC 30 0 (.slice p q s) [.slice p q s, I d.At.Row, I d.At.Col, B d.At.Pending, B d.Auto] 2 t2 ⟨(b0).one, trivial⟩) ?_
 rintro b8 o5 k0
 refine wln (sr (va (Q i) (va (Q i) (va (.pointer (some ⟨i, 1, none⟩)) (vx (leN 32 1 [I b.At.Row, I b.At.Col, B b.At.Pending] (k0.gon a0 0 rfl)) (va (.pointer (some ⟨n, 1, none⟩)) (md (sB 32 1 [I b.At.Row, I b.At.Col, B b.At.Pending] [.slice p q s, I b.At.Row, I b.At.Col, B b.At.Pending, B d.Auto] 2 k0 ⟨rfl, rfl, rfl, trivial⟩) ?_)))))))
 rintro d8 p5 l0
 refine wln (sr (va (Q i) (va (Q i) (va (.pointer (some ⟨i, 4, none⟩)) (vx (le1 4 underlying4 (l0.gon a0 0 rfl)) (va (.pointer (some ⟨n, 4, none⟩)) (md (sC 4 4 (B b.Auto) [.slice p q s, I b.At.Row, I b.At.Col, B b.At.Pending, B b.Auto] 2 l0 ⟨rfl, trivial⟩) ?_)))))))
 rintro e8 q5 m0
 refine wln (W.seq (sr (va (v42) (vx (leN 34 0 [.slice p q s, I b.At.Row, I b.At.Col, B b.At.Pending, B b.Auto] (m0.on 2 rfl)) ?_))))
 obtain ⟨f8, s4, y8, u2, r4⟩ := m0.frz 0 rfl (b0.mono (o5.trans (p5.trans q5)))
 refine WL.gh s4 (bn a fun m1 t4 a => cl (c_linotypelaw34_Alike u2 g.m d0.2 (⟨k1, b.At, b.Auto⟩ : G_linotyperef34_Pen) y0.m r4 t4) ?_)
 rintro u9 n3 z8 ⟨o0, rfl⟩
 refine va (B (!m1)) (wln (cn a (fun u4 a => ?_) (fun u4 a => ?_)))
 ·refine sr (va (B false) (wln (W.ret (thr ?_))))
  obtain rfl := si a
  have v2 := o0.sD 4 []
  exact r1 ⟨_, n3, rfl, rfl, pt, S, v2, g.m, rfl⟩
 refine W.skip (nrm (sr (va (o) (bn a fun o7 v4 a => cl (c_feed_Feeder_Flush o0 g.m (hG.m.le (by decide)) E.2 f0.m v4) ?_))))
 rintro w9 g8 a9 ⟨d2, w2, t0, rfl⟩
 refine wln (sr (va (v42) (va (I (w64 (1 + (w64 ((IntKind.u64.wrap f.W).tmod 12))))) (va (I (w64 (1 + (w64 ((IntKind.u64.wrap f.H).tmod 6))))) (bn a fun n1 w4 a => cl (c_linotyperef34_New w2 (w64 (1 + (w64 ((IntKind.u64.wrap f.W).tmod 12)))) (w64 (1 + (w64 ((IntKind.u64.wrap f.H).tmod 6)))) w4) ?_)))))
 rintro y9 h8 b9 ⟨x9, j9, x2, rfl, x4⟩
 refine va (v1) (bn a fun q1 y4 a => cl (c_linotyperef04_Runes x2 R h2.m y4) ?_)
 rintro z9 i8 r5 ⟨_, k9, y2, rfl, z4⟩
 obtain ⟨j8, c5, s5, z2, a5⟩ := y2.frz 1 rfl (x4.mono r5)
 refine WL.gh c5 ?_
 obtain ⟨k8, e5, c9, a3, d5⟩ := z2.frz 0 rfl (z4.mono s5)
 refine WL.gh e5 (bn a fun s1 f5 a => cl (c_linotyperef37_Lay a3 n1 q1 a5.m d5 f5) ?_)
 rintro v284 m8 d9 ⟨v277, b3, rfl, g5⟩
 refine bn a fun t1 h5 a => cl (c_linotypelaw34_Alike b3 t0.m d0.2 s1 y0.m g5 h5) ?_
 rintro v291 o3 e9 ⟨c3, rfl⟩
 refine va (B t1) (wln (W.ret ?_))
 obtain rfl := si a
 have d3 := c3.sD 6 []
 exact r1 ⟨_, o3, rfl, rfl, pt, d2, d3, t0.m, rfl⟩
end Go.Proofs.YtfhhpdggmefcoaaGreatDoor
namespace Go.Lt
open Go.ChangeShapes Go.WideShapes Go.RowKit
def C0 (w : World) : Cx := ⟨w, fun _ _ => False, fun _ _ => none⟩
theorem own0 (w : World) : Own (C0 w) (fun _ _ => []) [] :=
 ⟨⟨fun i e h => by cases i <;> simp [at_] at h, fun i j e e' h => by cases i <;> simp [at_] at h⟩, fun _ _ _ => rfl⟩
theorem im0 {w : World} {b o : Nat} {v : Value} (h : w.cell? ⟨b, o, none⟩ = some v) : Im (C0 w) b o v := by
 refine ⟨?_, id, h⟩
 unfold World.cell? at h
 split at h
 ·rename_i hh; exact (Array.getElem?_eq_some_iff.1 hh).1
 ·cases h
def Rd (P : Program) (t : TypeId) {α : Type} (R : Rp α) (K : α → Prop) : Prop :=
 P.cellsOf t = R.size ∧ ∀ {H : Type} {enc : TypeId × Value → H} {w : World} {sp : Nat → Bool} {held : Bool} {fuel : Nat} {cs : List Value} {x : DataW H × List MemPlace},
  DataW.trod enc P w 0 sp held fuel t cs = some x → ∃ y, R.cells (C0 w) cs y ∧ K y
theorem Rd.int {P : Program} {t : TypeId} {k : IntKind} (ht : P.underlying t = some (.int k)) (hc : P.cellsOf t = 1) : Rd P t (RI k) (fun n => (Lit.int k n).wf = true) :=
 ⟨hc, fun h => by obtain ⟨n, rfl, _, hw⟩ := DataW.trod_int ht h; exact ⟨n, rfl, hw⟩⟩
theorem pick {α : Type} {Q : Nat → α → Prop} : ∀ n, (∀ i, i < n → ∃ x, Q i x) → ∃ xs : List α, xs.length = n ∧ ∀ i x, xs[i]? = some x → Q i x
 | 0, _ => ⟨[], rfl, fun i x h => by simp at h⟩
 | n + 1, h => by
  obtain ⟨xs, hl, hx⟩ := pick n fun i hi => h i (Nat.lt_succ_of_lt hi)
  obtain ⟨y, hy⟩ := h n (Nat.lt_succ_self n)
  refine ⟨xs ++ [y], by simp [hl], fun i x hi => ?_⟩
  rw [List.getElem?_append] at hi
  split at hi
  ·exact hx i x hi
  ·rename_i hn
   have h1 := (List.getElem?_eq_some_iff.1 hi).1
   simp only [List.length_cons, List.length_nil] at h1
   obtain rfl : i = n := by omega
   rw [hl, Nat.sub_self] at hi
   cases hi
   exact hy
theorem cells_at {w : World} {a : Addr} {n : Nat} {cs : List Value} (h : w.cells? 0 a n = some cs) : cs.length = n ∧ ∀ j u, cs[j]? = some u → w.cell? (a.add j) = some u := by
 unfold World.cells? at h
 rw [if_pos (Nat.zero_le _)] at h
 have hl : cs.length = n := by simpa using mapM_some_length h
 refine ⟨hl, fun j u hu => ?_⟩
 have hjn : j < n := by have := (List.getElem?_eq_some_iff.1 hu).1; omega
 have hj := mapM_some_get h j j (List.getElem?_range hjn)
 rw [hu] at hj
 exact hj
theorem Rd.slice {P : Program} {t e : TypeId} {α : Type} {R : Rp α} {K : α → Prop} (ht : P.underlying t = some (.slice e)) (hc : P.cellsOf t = 1) (h0 : 0 < R.size) (h : Rd P e R K) : Rd P t (RL R) (fun xs => xs.length ≤ maxLen ∧ ∀ x ∈ xs, K x) := by
 refine ⟨hc, fun {H enc w sp held fuel cs x} hd => ?_⟩
 rcases DataW.trod_slice ht hd with ⟨rfl, _⟩ | ⟨a, len, cap, elems, rest, n, _, rfl, _, _, hl, hm, hlen, hel, _, _⟩
 ·exact ⟨[], ⟨_, rfl, Sl.nl R _⟩, Nat.zero_le _, fun x hx => by cases hx⟩
 ·obtain ⟨b, o, s⟩ := a
  have key : ∀ i, i < len → ∃ x, K x ∧ ∃ b' off l, (some ⟨b, o, s⟩ : Option Addr) = some ⟨b', off, none⟩ ∧ R.cells (C0 w) l x ∧ ∀ j u, l[j]? = some u → Im (C0 w) b' (off + i * R.size + j) u := by
   intro i hi
   have hs : s = none := by
    have hE := hel 0 (by omega)
    rw [List.getElem?_eq_getElem (show 0 < elems.length by omega), Option.bind_eq_some_iff] at hE
    obtain ⟨cs, hcs, _⟩ := hE
    obtain ⟨c1, c2⟩ := cells_at hcs
    have hp : 0 < cs.length := by rw [c1, h.1]; exact h0
    have := World.cell?_spot (c2 0 _ (List.getElem?_eq_getElem hp))
    simpa [Addr.add] using this
   subst hs
   have hE := hel i hi
   rw [List.getElem?_eq_getElem (show i < elems.length by omega), Option.bind_eq_some_iff] at hE
   obtain ⟨cs, hcs, hr⟩ := hE
   obtain ⟨c1, c2⟩ := cells_at hcs
   obtain ⟨x, hx, hk⟩ := h.2 hr
   refine ⟨x, hk, b, o, cs, rfl, hx, fun j u hu => im0 ?_⟩
   have := c2 j u hu
   rw [Go.WideShapes.add_plain, Go.WideShapes.add_plain, h.1] at this
   exact this
  obtain ⟨xs, hxl, hxs⟩ := pick len key
  subst hxl
  refine ⟨xs, ⟨_, rfl, some ⟨b, o, s⟩, cap, rfl, hl, hm, fun i x hx => (hxs i x hx).2⟩, Nat.le_trans hl hm, fun x hx => ?_⟩
  obtain ⟨i, hi⟩ := List.mem_iff_getElem?.1 hx
  exact (hxs i x hi).1
theorem Rd.field {P : Program} {H : Type} {enc : TypeId × Value → H} {w : World} {sp : Nat → Bool} {held : Bool} {n : Nat} {cs : List Value} {fs : Array Field} {xs : List (DataW H × List MemPlace)}
  (hf : ∀ (i : Nat) (f : Field), fs[i]? = some f → DataW.trod enc P w 0 sp held n f.type ((cs.drop f.offset).take (P.cellsOf f.type)) = xs[i]?) (hx : xs.length = fs.size)
  (i : Nat) {f : Field} (hi : fs[i]? = some f) {α : Type} {R : Rp α} {K : α → Prop} (h : Rd P f.type R K) : ∃ y, R.cells (C0 w) ((cs.drop f.offset).take R.size) y ∧ K y := by
 have hlt := (Array.getElem?_eq_some_iff.1 hi).1
 have := hf i f hi
 rw [List.getElem?_eq_getElem (show i < xs.length by omega), h.1] at this
 exact h.2 this
section
variable {P : Program} {H : Type} {enc : TypeId × Value → H} {w : World} {sp : Nat → Bool} {held : Bool} {t : TypeId} {v : Value} {d : DataW H} {p : List MemPlace}
theorem arg_slice {e : TypeId} {α : Type} {R : Rp α} {K : List α → Prop} (ht : P.underlying t = some (.slice e)) (h : Rd P t (RL R) K) (hok : Value.okWide P w .any 0 t v) (hd : DataW.Trod enc P w 0 sp held t v d p) :
  ∃ xs, Sl R (C0 w) v xs ∧ K xs := by
 obtain ⟨fuel, hd⟩ := hd
 obtain ⟨xs, ⟨u, hu, hs⟩, hk⟩ := h.2 hd
 have : v.cells = #[v] := by
  unfold Value.okWide at hok
  simp only [ht] at hok
  unfold Cell.okWide at hok
  cases v <;> simp [ht, Cell.ok] at hok ⊢
  all_goals rfl
 rw [this] at hu
 cases hu
 exact ⟨xs, hs, hk⟩
theorem arg_agg {α : Type} {R : Rp α} {K : α → Prop} {fs : Array Field} (ht : P.underlying t = some (.struct fs)) (h : Rd P t R K) (hok : Value.okWide P w .any 0 t v) (hd : DataW.Trod enc P w 0 sp held t v d p) :
  ∃ cs x, v = .agg cs ∧ R.cells (C0 w) cs.toList x ∧ K x := by
 obtain ⟨fuel, hd⟩ := hd
 obtain ⟨x, hx, hk⟩ := h.2 hd
 unfold Value.okWide at hok
 rw [ht] at hok
 obtain ⟨cs, rfl, _⟩ := hok
 exact ⟨cs, x, rfl, hx, hk⟩
end
theorem trodAll_kept {H : Type} {enc : TypeId × Value → H} {P : Program} (hl : laidOutB P = true) {w w' : World} (h : ∀ k, k < w.heap.size → w'.heap[k]? = w.heap[k]?) {sp : Nat → Bool} :
  ∀ {ts : List TypeId} {vs : List Value} {ds : List (DataW H)} {ps : List MemPlace}, (ts.all fun t => P.readableRec t && decide (t < P.types.size)) = true → (∀ x ∈ ps, x.block < w.heap.size) → (∀ x ∈ ps, sp x.block = true) →
  DataW.TrodAll enc P w 0 (fun _ => true) true ts vs ds ps → DataW.TrodAll enc P w' 0 sp true ts vs ds ps
 | [], [], [], _, _, _, _, hA => hA
 | [], _ :: _, _, _, _, _, _, hA => hA.elim
 | [], [], _ :: _, _, _, _, _, hA => hA.elim
 | _ :: _, [], _, _, _, _, _, hA => hA.elim
 | _ :: _, _ :: _, [], _, _, _, _, hA => hA.elim
 | t :: ts, v :: vs, d :: ds, ps, hr, hlt, hsp, hA => by
  obtain ⟨p, q, h1, h2, rfl⟩ := hA
  simp only [List.all_cons, Bool.and_eq_true, decide_eq_true_eq] at hr
  refine ⟨p, q, WideElems.Trod_stays hl hr.1.1 hr.1.2 h1 (fun x hx => ?_) (fun x hx => hsp x (List.mem_append_left _ hx)), trodAll_kept hl h hr.2 (fun x hx => hlt x (List.mem_append_right _ hx)) (fun x hx => hsp x (List.mem_append_right _ hx)) h2, rfl⟩
  have hb := hlt x (List.mem_append_left _ hx)
  cases x with
  | cell b o => exact World.cell?_of_block (w := w) (h b hb)
  | map b => exact h b hb
theorem post_same {H : Type} {enc : TypeId × Value → H} {P : Program} {f : Func} {s : ChangeSpec} {apart fresh handsOn again : Bool} {w w' : World} {args : Array Value} {v : Value} {ds gs : List (DataW H)} {ps before : List MemPlace}
  (hW : DataW.Whole enc P f.params.toList s.vars apart w args.toList ds gs before) (he : before = ps ++ [])
  (hr : ∀ (b : Nat) (sp : Nat → Bool) (hd : Bool), DataW.TrodAll enc P w' b sp hd f.resultTypes.toList (v.resultList f.resultTypes.size) (s.fn H (ds ++ gs)).results [])
  (ha : ∀ sp : Nat → Bool, (∀ x ∈ ps, sp x.block = true) → DataW.TrodAll enc P w' 0 sp true f.params.toList args.toList (s.fn H (ds ++ gs)).args ps)
  (hv : ∀ sp : Nat → Bool, DataW.TrodVars enc P w' sp s.vars (s.fn H (ds ++ gs)).vars [])
  (hg : Gr w w') (ho : ∀ (j : Nat) (t : TypeId) (r : Value), f.resultTypes[j]? = some t → (v.resultList f.resultTypes.size)[j]? = some r → Value.okWide P w' .any 0 t r) : s.post enc P f apart fresh handsOn again w args v w' := by
 rw [List.append_nil] at he
 subst he
 have hlt : ∀ x ∈ before, x.block < w.heap.size := fun x hx => hW.lt x hx
 refine ⟨ds, gs, before, [], before, [], hW, hr _ _ _, ha _ (fun x hx => decide_eq_true (hlt x hx)), hv _, World.keptBut_mono (fun x hx => ⟨hx, .inr (.inl hx)⟩) (hg.frame (· ∈ before)), fun _ => ?_⟩
 obtain ⟨_, _, _, _, _, hz, hn⟩ := hW
 refine ⟨ho, _, _, ([] ++ before) ++ [], ⟨[] ++ before, [], trodAll_append (ha _ fun _ _ => rfl) (hr _ _ _), hv _, rfl, fun b off hb => ?_, fun e => ?_⟩, fun x hx _ => by simpa using hx⟩
 ·have hb' : MemPlace.cell b off ∈ before := by simpa using hb
  have := hlt _ hb'
  rw [hg.2.1 ⟨b, off, none⟩ this]
  exact hz b off (by simpa using hb')
 ·simpa using hn e
theorem metH {P : Program} {laid : List (String × DataW Unit)} {w : World} (h : (laid.filter fun x => x.2.handleName?.isSome) = []) : laidMetH P laid w = laidMet P laid w := by
 unfold laidMetH
 rw [h]
theorem laid_sent {P : Program} {W : World} {ti tp te ts : TypeId} {ms : Array (String × TypeId)} {f : Field} (hi : P.underlying ti = some (.interface ms)) (hrow : ∀ u, P.typeName? 3 u = some "*errors.errorString" → u = tp)
  (hp : P.underlying tp = some (.pointer te)) (he : P.underlying te = some (.struct #[f])) (hft : f.type = ts) (hfo : f.offset = 0) (hs : P.underlying ts = some .string) (hc : P.cellsOf te = 1) (hcs : P.cellsOf ts = 1) :
  ∀ {laid : List (String × DataW Unit)} {ps : List MemPlace}, DataW.LaidVars P W laid ps → (∀ b off, MemPlace.cell b off ∈ ps → (∃ c t, W.heap[b]? = some (.cells c t (0, 0))) ∧ ∀ u v, W.cell? ⟨b, off, none⟩ = some (.iface u v) → Value.okWide P W .any 0 u v) →
  ∀ n text g, (n, DataW.iface "*errors.errorString" (.ptr (.agg [.lit (.string text)]))) ∈ laid → P.globalNamed n = some g → (P.globals[g]?).map (·.type) = some ti → ∃ a s, W.cell? ⟨g, 0, none⟩ = some (.iface tp (.pointer (some a))) ∧ W.cell? a = some (.string s) ∧ s.data.toList = text ∧ ∃ c t, W.heap[a.block]? = some (.cells c t (0, 0))
 | [], _, _, _, _, _, _, hm, _, _ => by cases hm
 | (n', d) :: r, ps, ⟨g', t, cs, fuel, p, q, hg', ht', hv, hd, hr, e⟩, hrows, n, text, g, hm, hg, ht => by
  subst e
  rcases List.mem_cons.1 hm with hh | hm
  ·cases hh
   obtain rfl := Option.some.inj (hg.symm.trans hg')
   obtain rfl := Option.some.inj (ht.symm.trans ht')
   obtain ⟨l⟩ := cs
   have ok : ∀ u v, l = [.iface u v] → Value.okWide P W .any 0 u v := fun u v e => by
    subst e
    exact (hrows g 0 (by simp [MemPlace.row])).2 u v (by simpa using World.var?_cell hg hv 0)
   obtain ⟨a, s, rfl, h1, h2, _, rfl⟩ := errorString_of_trod hi hrow hp he hft hfo hs hc hcs hd ok
   exact ⟨a, s, by simpa using World.var?_cell hg hv 0, h1, h2, (hrows a.block a.off (by simp [MemPlace.row])).1⟩
  ·exact laid_sent hi hrow hp he hft hfo hs hc hcs hr (fun b off hb => hrows b off (List.mem_append_right _ hb)) n text g hm hg ht
theorem joined {P : Program} {f : FuncId} {fn : Func} {s : ChangeSpec} {c : OpenClaim} (l1 : laidOutB P = true) (l2 : mapsRowed P = true) (l3 : (P.stops == []) = true) (l4 : (P.stopKnobs == []) = true) (l5 : P.stopsHeard = true) (l6 : P.mayEnter = true)
  (l7 : (c.lifted == P.liftsFinal) = true) (l8 : (P.make == some c.make) = true) (l9 : (c.plainKeys == P.plainKeys) = true)
  (a0 : c.wf (OpenSpec.ofChange s) = true) (a1 : (fn.params.all (P.readableRec ·) && namedTie P c.named s.vars && (c.stops == []) && (c.knobs == [])) = true)
  (a2 : (c.inPlace == P.inPlace f) = true) (a3 : (c.unfollowed == P.unfollowed f) = true) (a4 : (c.recurses == P.recurses f) = true) (a5 : (c.named == P.varsNamed f) = true)
  (a6 : ((c.maps == (fn.params.toList ++ s.plain.varTypes P).any (P.mapsRec ·)) && (c.ifaces == (fn.params.toList ++ s.plain.varTypes P).any (P.ifacesRec ·)) && (c.mapsOut == P.mapsAmong fn.resultTypes.toList) &&
   (c.loops == (fn.params.toList ++ s.plain.varTypes P).any (P.loopsFrom ·)) && (c.wideKeys == (fn.params.toList ++ s.plain.varTypes P ++ fn.resultTypes.toList).any (P.wideKeysFrom ·)) &&
   s.vars.all (P.varReadable ·) && fn.resultTypes.all (fun t => P.readableRec t && decide (t < P.types.size)) && (c.ifacesOut == fn.resultTypes.toList.any (P.ifacesRec ·)) && (c.loopsOut == fn.resultTypes.toList.any (P.loopsFrom ·))) = true)
  (a7 : (c.shortTexts.isNone && (c.kinds == (if c.domain.isEmpty then [] else fn.params.toList.map fun t => match P.underlying t with | some (.int k) => some k | _ => none)) && (c.pinned == c.pinnedBy) &&
   (c.veiled == (fn.params.toList ++ s.plain.varTypes P ++ fn.resultTypes.toList).any (P.veiledRec ·)) && c.veiledFits P fn.params.toList (fn.params.toList ++ s.plain.varTypes P ++ fn.resultTypes.toList)) = true) : joinedFacts P f fn s c = true := by
 simp only [Bool.and_eq_true] at a1 a6 a7
 obtain ⟨⟨⟨b1, b2⟩, b3⟩, b4⟩ := a1
 obtain ⟨⟨⟨⟨⟨⟨⟨⟨c1, c2⟩, c3⟩, c4⟩, c5⟩, c6⟩, c7⟩, c8⟩, c9⟩ := a6
 obtain ⟨⟨⟨⟨d1, d2⟩, d3⟩, d4⟩, d5⟩ := a7
 unfold joinedFacts
 simp only [Bool.and_eq_true]
 exact ⟨⟨⟨⟨⟨⟨⟨⟨⟨⟨⟨⟨⟨⟨⟨⟨⟨⟨⟨⟨⟨⟨⟨⟨⟨⟨⟨⟨⟨⟨⟨a0, l1⟩, l2⟩, b1⟩, b2⟩, b3⟩, l3⟩, b4⟩, l4⟩, a2⟩, a3⟩, a4⟩, a5⟩, c1⟩, c2⟩, c3⟩, c4⟩, c5⟩, c6⟩, c7⟩, c8⟩, c9⟩, l9⟩, d1⟩, l5⟩, l6⟩, l7⟩, l8⟩, d2⟩, d3⟩, d4⟩, d5⟩
end Go.Lt
namespace Go.Proofs.YtfhhpdggmefcoaaGreatDoor
open Go Go.Lt
set_option linter.unusedVariables false
theorem len2 {α : Type} {cs : List α} (h : cs.length = 2) : ∃ a0 a1, cs = [a0, a1] := by
 match cs, h with
 | [a0, a1], _ => exact ⟨_, _, rfl⟩
def K_3 (n : Int) : Prop := (Lit.int .i64 n).wf = true
theorem D_3 : Rd Tryz.prog 3 (RI .i64) K_3 := Rd.int Tryz.underlying3 (by kernel_rfl)
def K_23 (x : G_linotypelaw37_Side) : Prop := K_3 x.W ∧ K_3 x.H
theorem D_23 : Rd Tryz.prog 23 R_linotypelaw37_Side K_23 := by
 refine ⟨by kernel_rfl, fun {H enc w sp held fuel cs x} h => ?_⟩
 obtain ⟨xs, n, rfl, rfl, hl, hn, hf⟩ := DataW.trod_struct Tryz.underlying23 h
 replace hl := hl.trans (show Tryz.prog.cellsOf 23 = 2 by kernel_rfl)
 obtain ⟨a0, a1, rfl⟩ := len2 hl
 obtain ⟨y0, e0, k0⟩ := Rd.field hf hn 0 rfl D_3
 have e0 : [a0] = [.int .i64 y0] := e0
 cases e0
 obtain ⟨y1, e1, k1⟩ := Rd.field hf hn 1 rfl D_3
 have e1 : [a1] = [.int .i64 y1] := e1
 cases e1
 exact ⟨⟨y0, y1⟩, rfl, k0, k1⟩
def K_5 (n : Int) : Prop := (Lit.int .u8 n).wf = true
theorem D_5 : Rd Tryz.prog 5 (RI .u8) K_5 := Rd.int Tryz.underlying5 (by kernel_rfl)
def K_24 (xs : List Int) : Prop := xs.length ≤ maxLen ∧ ∀ x ∈ xs, K_5 x
theorem D_24 : Rd Tryz.prog 24 (RL (RI .u8)) K_24 := Rd.slice Tryz.underlying24 (by kernel_rfl) (by decide) D_5
def K_25 (xs : List Int) : Prop := xs.length ≤ maxLen ∧ ∀ x ∈ xs, K_3 x
theorem D_25 : Rd Tryz.prog 25 (RL (RI .i64)) K_25 := Rd.slice Tryz.underlying25 (by kernel_rfl) (by decide) D_3
theorem rel0 (w : World) : Rel (C0 w) ⟨[], [], [], [], []⟩ (fun _ _ => []) :=
 ⟨⟨fun k x h => by simp at h, fun _ _ => rfl⟩, ⟨fun k x h => by simp at h, fun _ _ => rfl⟩, ⟨fun k x h => by simp at h, fun _ _ => rfl⟩, ⟨fun k x h => by simp at h, fun _ _ => rfl⟩, ⟨fun k x h => by simp at h, fun _ _ => rfl⟩⟩
theorem star : "*" ++ "errors.errorString" = "*errors.errorString" := by decide
set_option maxRecDepth 100000 in
theorem sent_row (u : TypeId) (h : Tryz.prog.typeName? 3 u = some "*errors.errorString") : u = 220 :=
 typeName_ptr_named (nm := "errors.errorString") (by rw [star]; kernel_rfl) (by kernel_rfl) (by decide) u (by rw [star]; exact h)
set_option maxRecDepth 100000 in
theorem gl_sent {W : World} {laid : List (String × DataW Unit)} (h : laidMetH Tryz.prog laid W) (hf : (laid.filter fun x => x.2.handleName?.isSome) = []) (n : String) (text : List UInt8) (g : Nat)
  (hm : (n, DataW.iface "*errors.errorString" (.ptr (.agg [.lit (.string text)]))) ∈ laid) (hg : Tryz.prog.globalNamed n = some g) (ht : (Tryz.prog.globals[g]?).map (·.type) = some 185) :
  ∃ a s, Im (C0 W) g 0 (.iface 220 (.pointer (some a))) ∧ W.cell? a = some (.string s) ∧ s.data.toList = text ∧ RE 220 99999 (C0 W) (.iface 220 (.pointer (some a))) (.sent g) := by
 rw [metH hf] at h
 obtain ⟨ps, hl, _, hr⟩ := h
 obtain ⟨a, s, h1, h2, h3, cs, t, h4⟩ := laid_sent Tryz.underlying185 sent_row Tryz.underlying220 Tryz.underlying236 rfl rfl Tryz.underlying9 (by kernel_rfl) (by kernel_rfl) hl hr n text g hm hg ht
 exact ⟨a, s, im0 h1, h2, h3, a, rfl, im0 h1, (Array.getElem?_eq_some_iff.1 h4).1, fun _ => id, cs, t, h4⟩
theorem gl_all {W : World} {n : List Nat} (tx : Nat → List UInt8) (h : ∀ g, g ∈ n → ∃ a s, Im (C0 W) g 0 (.iface 220 (.pointer (some a))) ∧ W.cell? a = some (.string s) ∧ s.data.toList = tx g ∧ RE 220 99999 (C0 W) (.iface 220 (.pointer (some a))) (.sent g))
  (hd : ∀ g, g ∈ n → ∀ g', g' ∈ n → tx g = tx g' → g = g') : Gl n (C0 W) := by
 refine ⟨fun g hg => ?_, fun g g' hg hg' hne a h1 h2 => ?_⟩
 ·obtain ⟨a, _, _, _, _, h4⟩ := h g hg
  exact ⟨_, h4⟩
 ·obtain ⟨a1, s1, e1, e2, e3, _⟩ := h g hg
  obtain ⟨a2, s2, f1, f2, f3, _⟩ := h g' hg'
  have q1 := e1.cell.symm.trans h1.cell
  have q2 := f1.cell.symm.trans h2.cell
  cases q1
  cases q2
  have q3 := e2.symm.trans f2
  cases q3
  exact hne (hd g hg g' hg' (e3.symm.trans f3))
end Go.Proofs.YtfhhpdggmefcoaaGreatDoor
namespace Go.Proofs.YtfhhpdggmefcoaaGreatDoor
structure Sg where
 some : Bool
 last : Int
 pict : Int
 conj : Int
 odd : Bool
def sg0 : Sg := ⟨false, 0, 0, 0, false⟩
def nxP (s : Int) (p : G_api_Prop) : Int := if p.Pict = true then 1 else if s = 1 ∧ p.Break = 4 then 1 else if s = 1 ∧ p.Break = 5 then 2 else 0
def nxC (s : Int) (p : G_api_Prop) : Int := if p.Conj = 1 then 1 else if s = 0 then 0 else if p.Conj = 2 then 2 else if p.Conj = 3 then s else 0
def sgN (s : Sg) (p : G_api_Prop) : Sg := ⟨true, p.Break, nxP s.pict p, nxC s.conj p, p.Break == 6 && !(s.some && s.last == 6 && s.odd)⟩
def sgF (l : List G_api_Prop) : Sg := l.foldl sgN sg0
def sgJ (pj : Int → Int → Int) (s : Sg) (p : G_api_Prop) : Bool :=
 s.some && ((p.Conj == 1 && s.conj == 2) || (p.Pict && s.pict == 2) || pj s.last p.Break == 1 || (pj s.last p.Break == 2 && s.last == 6 && s.odd))
def cj : List G_api_Prop → Nat → Bool
 | [], _ => false
 | x :: l, n => if x.Conj = 1 then decide (0 < n) else if x.Conj = 2 then cj l (n + 1) else if x.Conj = 3 then cj l n else false
def pk : List G_api_Prop → Bool
 | [] => false
 | x :: l => if x.Pict = true then true else if x.Break = 4 then pk l else false
def ri : List G_api_Prop → Nat
 | [] => 0
 | x :: l => if x.Break = 6 then ri l + 1 else 0
def rj (pj : Int → Int → Int) (l : List G_api_Prop) (p : G_api_Prop) : Bool :=
 match l with
 | [] => false
 | a :: l' => pj a.Break p.Break == 1 || (p.Conj == 1 && cj (a :: l') 0) || (p.Pict && (!a.Pict && a.Break == 5 && pk l')) || (pj a.Break p.Break == 2 && p.Break == 6 && ri (a :: l') % 2 == 1)
def pst : List G_api_Prop → Int
 | [] => 0
 | x :: l => nxP (pst l) x
def cst : List G_api_Prop → Int
 | [] => 0
 | x :: l => nxC (cst l) x
def hb : List G_api_Prop → Int
 | [] => 0
 | x :: _ => x.Break
def od : List G_api_Prop → Bool
 | [] => false
 | x :: l => x.Break == 6 && !(!l.isEmpty && hb l == 6 && od l)
theorem sgF_eq (l : List G_api_Prop) : sgF l = ⟨!l.reverse.isEmpty, hb l.reverse, pst l.reverse, cst l.reverse, od l.reverse⟩ := by
 have key : ∀ r : List G_api_Prop, sgF r.reverse = ⟨!r.isEmpty, hb r, pst r, cst r, od r⟩ := by
  intro r
  induction r with
  | nil => rfl
  | cons x r ih =>
   unfold sgF at ih ⊢
   rw [List.reverse_cons, List.foldl_append, ih]
   rfl
 have := key l.reverse
 rwa [List.reverse_reverse] at this
theorem pk_pst (l : List G_api_Prop) : pk l = decide (pst l = 1) := by
 induction l with
 | nil => rfl
 | cons x l ih =>
  unfold pk pst nxP
  by_cases h1 : x.Pict = true
  ·rw [if_pos h1, if_pos h1]; rfl
  ·rw [if_neg h1, if_neg h1]
   by_cases h2 : x.Break = 4
   ·rw [if_pos h2, ih]
    by_cases h3 : pst l = 1
    ·rw [if_pos ⟨h3, h2⟩]; simp [h3]
    ·rw [if_neg (fun q => h3 q.1), if_neg (fun q => h3 q.1)]; simp [h3]
   ·rw [if_neg h2, if_neg (fun q => h2 q.2)]
    split <;> rfl
theorem cj_cst (l : List G_api_Prop) (n : Nat) : cj l n = decide (cst l = 2 ∨ (cst l ≠ 0 ∧ 0 < n)) := by
 induction l generalizing n with
 | nil => rfl
 | cons x l ih =>
  unfold cj cst nxC
  by_cases h1 : x.Conj = 1
  ·rw [if_pos h1, if_pos h1]
   simp
  ·rw [if_neg h1, if_neg h1]
   by_cases h2 : x.Conj = 2
   ·rw [if_pos h2, ih]
    by_cases h0 : cst l = 0
    ·rw [if_pos h0]; simp [h0]
    ·rw [if_neg h0, if_pos h2]; simp [h0]
   ·rw [if_neg h2]
    by_cases h3 : x.Conj = 3
    ·rw [if_pos h3, ih]
     by_cases h0 : cst l = 0
     ·rw [if_pos h0, h0]
     ·rw [if_neg h0, if_neg h2, if_pos h3]
    ·rw [if_neg h3]
     by_cases h0 : cst l = 0
     ·rw [if_pos h0]; rfl
     ·rw [if_neg h0, if_neg h2, if_neg h3]; rfl
theorem ri_od (l : List G_api_Prop) : od l = (ri l % 2 == 1) := by
 induction l with
 | nil => rfl
 | cons x l ih =>
  unfold od ri
  by_cases h : x.Break = 6
  ·rw [if_pos h, ih]
   have hb' : (x.Break == 6) = true := by simp [h]
   rw [hb', Bool.true_and]
   cases l with
   | nil => rfl
   | cons y l =>
    by_cases h2 : y.Break = 6
    ·have e : (hb (y :: l) == 6) = true := by simp [hb, h2]
     rw [e]
     simp only [List.isEmpty_cons, Bool.not_false, Bool.true_and]
     rw [Bool.eq_iff_iff]
     simp only [Bool.not_eq_true', beq_eq_false_iff_ne, beq_iff_eq]
     omega
    ·have e : (hb (y :: l) == 6) = false := by simp [hb, h2]
     rw [e]
     simp only [Bool.and_false, Bool.false_and, Bool.not_false]
     have : ri (y :: l) = 0 := by unfold ri; rw [if_neg h2]
     rw [this]
     rfl
  ·rw [if_neg h]
   simp [h]
theorem sgJ_eq (pj : Int → Int → Int) (hp : ∀ a b, pj a b = 2 → (a = 6 ↔ b = 6)) (l : List G_api_Prop) (p : G_api_Prop) : sgJ pj (sgF l) p = rj pj l.reverse p := by
 rw [sgF_eq]
 generalize l.reverse = r
 cases r with
 | nil => rfl
 | cons a r =>
  unfold sgJ rj
  simp only [List.isEmpty_cons, Bool.not_false, Bool.true_and, hb]
  rw [cj_cst, pk_pst, ← ri_od]
  have e1 : (cst (a :: r) == 2) = decide (cst (a :: r) = 2 ∨ (cst (a :: r) ≠ 0 ∧ 0 < 0)) := by
   rw [Bool.eq_iff_iff]; simp
  have e2 : (pst (a :: r) == 2) = (!a.Pict && a.Break == 5 && decide (pst r = 1)) := by
   rw [Bool.eq_iff_iff]
   simp only [beq_iff_eq, Bool.and_eq_true, Bool.not_eq_true', decide_eq_true_eq]
   show nxP (pst r) a = 2 ↔ _
   unfold nxP
   by_cases h1 : a.Pict = true
   ·rw [if_pos h1, h1]; simp
   ·rw [if_neg h1]
    simp only [Bool.not_eq_true] at h1
    by_cases h2 : pst r = 1 ∧ a.Break = 4
    ·rw [if_pos h2]; simp [h1, h2]
    ·rw [if_neg h2]
     by_cases h3 : pst r = 1 ∧ a.Break = 5
     ·rw [if_pos h3]; simp [h1, h3]
     ·rw [if_neg h3]
      simp only [h1]
      constructor
      ·intro e; exact absurd e (by decide)
      ·rintro ⟨⟨_, q1⟩, q2⟩; exact absurd ⟨q2, q1⟩ h3
  have e3 : (pj a.Break p.Break == 2 && a.Break == 6 && od (a :: r)) = (pj a.Break p.Break == 2 && p.Break == 6 && od (a :: r)) := by
   by_cases h : pj a.Break p.Break = 2
   ·have e6 : (a.Break == 6) = (p.Break == 6) := by
     rw [Bool.eq_iff_iff, beq_iff_eq, beq_iff_eq]
     exact hp _ _ h
    rw [e6]
   ·have e7 : (pj a.Break p.Break == 2) = false := by rw [beq_eq_false_iff_ne]; exact h
    rw [e7]
    rfl
  rw [e1, e2, e3]
  cases (p.Conj == 1 && decide (cst (a :: r) = 2 ∨ (cst (a :: r) ≠ 0 ∧ 0 < 0))) <;> cases (p.Pict && (!a.Pict && a.Break == 5 && decide (pst r = 1))) <;> cases (pj a.Break p.Break == 1) <;> rfl
structure Sq (s t : Sg) : Prop where
 pict : s.pict = t.pict
 conj : s.conj = t.conj
 odd : s.odd = t.odd
theorem sgN_sq {s t : Sg} (h : Sq s t) (h1 : s.odd = true → s.some = true ∧ s.last = 6) (h2 : t.odd = true → t.some = true ∧ t.last = 6) (p : G_api_Prop) : sgN s p = sgN t p := by
 unfold sgN
 rw [h.pict, h.conj]
 congr 2
 have : (s.some && s.last == 6 && s.odd) = (t.some && t.last == 6 && t.odd) := by
  have ho := h.odd
  rw [Bool.eq_iff_iff]
  simp only [Bool.and_eq_true, beq_iff_eq]
  constructor
  ·rintro ⟨_, q⟩
   have := h2 (ho ▸ q)
   exact ⟨this, ho ▸ q⟩
  ·rintro ⟨_, q⟩
   have := h1 (ho ▸ q)
   exact ⟨this, ho ▸ q⟩
 rw [this]
end Go.Proofs.YtfhhpdggmefcoaaGreatDoor
namespace Go.Proofs.YtfhhpdggmefcoaaGreatDoor
def addL (c : List (List Int)) (r : Int) : List (List Int) := c.dropLast ++ [c.getLast?.getD [] ++ [r]]
theorem addL_snoc (c : List (List Int)) (x : List Int) (r : Int) : addL (c ++ [x]) r = c ++ [x ++ [r]] := by
 unfold addL
 simp
section
variable (pj : Int → Int → Int) (pr : Int → G_api_Prop)
def clS (l : List Int) : List (List Int) × Sg := l.foldl (fun a r => (if sgJ pj a.2 (pr r) = true then addL a.1 r else a.1 ++ [[r]], sgN a.2 (pr r))) ([], sg0)
def cls (l : List Int) : List (List Int) := (clS pj pr l).1
def jn (l : List Int) (r : Int) : Bool := sgJ pj (sgF (l.map pr)) (pr r)
theorem sgF_snoc (l : List G_api_Prop) (x : G_api_Prop) : sgF (l ++ [x]) = sgN (sgF l) x := by
 unfold sgF
 rw [List.foldl_append]
 rfl
theorem clS_2 (l : List Int) : (clS pj pr l).2 = sgF (l.map pr) := by
 have key : ∀ (l : List Int) (a : List (List Int) × Sg), (l.foldl (fun a r => (if sgJ pj a.2 (pr r) = true then addL a.1 r else a.1 ++ [[r]], sgN a.2 (pr r))) a).2 = (l.map pr).foldl sgN a.2 := by
  intro l
  induction l with
  | nil => intro a; rfl
  | cons r l ih => intro a; rw [List.foldl_cons, ih, List.map_cons, List.foldl_cons]
 exact key l _
theorem cls_nil : cls pj pr [] = [] := rfl
theorem cls_snoc (l : List Int) (r : Int) : cls pj pr (l ++ [r]) = if jn pj pr l r = true then addL (cls pj pr l) r else cls pj pr l ++ [[r]] := by
 unfold cls jn
 rw [← clS_2 pj]
 unfold clS
 rw [List.foldl_append]
 rfl
theorem jn_ne {l : List Int} {r : Int} (h : jn pj pr l r = true) : l ≠ [] := by
 rintro rfl
 simp [jn, sgJ, sgF, sg0] at h
end
theorem snoc_ind {P : List Int → Prop} (h0 : P []) (h1 : ∀ l r, P l → P (l ++ [r])) (l : List Int) : P l := by
 have key : ∀ l : List Int, P l.reverse := by
  intro l
  induction l with
  | nil => exact h0
  | cons r l ih => rw [List.reverse_cons]; exact h1 _ _ ih
 have := key l.reverse
 rwa [List.reverse_reverse] at this
theorem snoc_cases {α : Type} {l : List α} (h : l ≠ []) : ∃ l0 x, l = l0 ++ [x] := ⟨l.dropLast, l.getLast h, (List.dropLast_concat_getLast h).symm⟩
variable {pj : Int → Int → Int} {pr : Int → G_api_Prop}
theorem cls_flat (l : List Int) : (cls pj pr l).flatten = l ∧ (∀ c ∈ cls pj pr l, c ≠ []) ∧ (l ≠ [] → cls pj pr l ≠ []) := by
 refine snoc_ind (P := fun l => (cls pj pr l).flatten = l ∧ (∀ c ∈ cls pj pr l, c ≠ []) ∧ (l ≠ [] → cls pj pr l ≠ [])) ⟨rfl, fun c hc => by simp [cls_nil] at hc, fun h => absurd rfl h⟩ (fun l r ih => ?_) l
 obtain ⟨h1, h2, h3⟩ := ih
 rw [cls_snoc]
 split
 ·rename_i hj
  obtain ⟨c0, x, e⟩ := snoc_cases (h3 (jn_ne pj pr hj))
  rw [e] at h1 h2 ⊢
  rw [addL_snoc]
  refine ⟨?_, fun c hc => ?_, fun _ => by simp⟩
  ·rw [← h1]; simp
  ·rcases List.mem_append.1 hc with hc | hc
   ·exact h2 c (List.mem_append_left _ hc)
   ·rw [List.mem_singleton.1 hc]; simp
 ·refine ⟨by rw [List.flatten_append, h1]; simp, fun c hc => ?_, fun _ => by simp⟩
  rcases List.mem_append.1 hc with hc | hc
  ·exact h2 c hc
  ·rw [List.mem_singleton.1 hc]; simp
theorem cls_last {l : List Int} {x : Int} {c0 : List (List Int)} {c : List Int} (h : cls pj pr (l ++ [x]) = c0 ++ [c]) : ∃ c', c = c' ++ [x] := by
 obtain ⟨h1, h2, _⟩ := cls_flat (pj := pj) (pr := pr) (l ++ [x])
 rw [h] at h1 h2
 obtain ⟨c', y, rfl⟩ := snoc_cases (h2 c (by simp))
 refine ⟨c', ?_⟩
 rw [List.flatten_append] at h1
 simp only [List.flatten_cons, List.flatten_nil, List.append_nil] at h1
 rw [← List.append_assoc] at h1
 have := List.append_inj_right' h1 rfl
 rw [List.singleton_inj.1 this]
section
variable (pj : Int → Int → Int) (pr : Int → G_api_Prop)
def sts (l : List Int) : List Nat := (List.range l.length).filter fun i => !jn pj pr (l.take i) (l.getD i 0)
theorem sts_snoc (l : List Int) (r : Int) : sts pj pr (l ++ [r]) = sts pj pr l ++ (if jn pj pr l r = true then [] else [l.length]) := by
 unfold sts
 rw [List.length_append, List.length_singleton, List.range_succ, List.filter_append]
 congr 1
 ·refine List.filter_congr fun i hi => ?_
  have hi := List.mem_range.1 hi
  rw [List.take_append_of_le_length (by omega)]
  congr 2
  rw [List.getD_eq_getElem?_getD, List.getD_eq_getElem?_getD, List.getElem?_append_left hi]
 ·rw [List.filter_cons, List.filter_nil]
  have e1 : (l ++ [r]).take l.length = l := by simp
  have e2 : (l ++ [r]).getD l.length 0 = r := by simp
  rw [e1, e2]
  cases jn pj pr l r <;> rfl
end
theorem sts_lt {l : List Int} {i : Nat} (h : i ∈ sts pj pr l) : i < l.length := by
 unfold sts at h
 exact List.mem_range.1 (List.mem_filter.1 h).1
theorem sts_ne {l : List Int} (h : l ≠ []) : sts pj pr l ≠ [] := by
 refine snoc_ind (P := fun l => l ≠ [] → sts pj pr l ≠ []) (fun h => absurd rfl h) (fun l r ih _ => ?_) l h
 rw [sts_snoc]
 split
 ·rename_i hj
  intro e
  exact ih (jn_ne pj pr hj) (by simpa using e)
 ·simp
def slx (l : List Int) (a b : Nat) : List Int := (l.drop a).take (b - a)
def pcs (l : List Int) (a : List Nat) : List (List Int) := (List.range (a.length - 1)).map fun i => slx l (a.getD i 0) (a.getD (i + 1) 0)
theorem pcs_snoc (l : List Int) (B : List Nat) (a b : Nat) : pcs l (B ++ [a] ++ [b]) = pcs l (B ++ [a]) ++ [slx l a b] := by
 unfold pcs
 have e1 : (B ++ [a] ++ [b]).length - 1 = B.length + 1 := by simp
 have e2 : (B ++ [a]).length - 1 = B.length := by simp
 rw [e1, e2, List.range_succ, List.map_append]
 congr 1
 ·refine List.map_congr_left fun i hi => ?_
  have hi := List.mem_range.1 hi
  have g : ∀ j, j < B.length + 1 → (B ++ [a] ++ [b]).getD j 0 = (B ++ [a]).getD j 0 := fun j hj => by
   rw [List.getD_eq_getElem?_getD, List.getD_eq_getElem?_getD, List.getElem?_append_left (by simp; omega)]
  rw [g i (by omega), g (i + 1) (by omega)]
 ·simp
theorem slx_app {l : List Int} {a b : Nat} (h : b ≤ l.length) (r : List Int) : slx (l ++ r) a b = slx l a b := by
 unfold slx
 rcases Nat.lt_or_ge a l.length with ha | ha
 ·rw [List.drop_append_of_le_length (by omega), List.take_append_of_le_length (by simp; omega)]
 ·rw [show b - a = 0 by omega, List.take_zero, List.take_zero]
theorem pcs_app {l : List Int} {A : List Nat} (h : ∀ a ∈ A, a ≤ l.length) (r : List Int) : pcs (l ++ r) A = pcs l A := by
 unfold pcs
 refine List.map_congr_left fun i hi => ?_
 have hi := List.mem_range.1 hi
 refine slx_app ?_ r
 rw [List.getD_eq_getElem?_getD, List.getElem?_eq_getElem (by omega)]
 exact h _ (List.getElem_mem _)
theorem slx_last {l : List Int} {a : Nat} (h : a ≤ l.length) (r : Int) : slx (l ++ [r]) a (l.length + 1) = slx l a l.length ++ [r] := by
 unfold slx
 rw [List.drop_append_of_le_length h, List.take_of_length_le (by simp; omega), List.take_of_length_le (by simp)]
theorem pcs_cls (l : List Int) : pcs l (sts pj pr l ++ [l.length]) = cls pj pr l := by
 refine snoc_ind (P := fun l => pcs l (sts pj pr l ++ [l.length]) = cls pj pr l) rfl (fun l r ih => ?_) l
 have hle : ∀ a ∈ sts pj pr l ++ [l.length], a ≤ l.length := fun a ha => by
  rcases List.mem_append.1 ha with ha | ha
  ·exact Nat.le_of_lt (sts_lt ha)
  ·rw [List.mem_singleton.1 ha]; exact Nat.le_refl _
 rw [cls_snoc, sts_snoc, List.length_append, List.length_singleton]
 split
 ·rename_i hj
  obtain ⟨B, a, e⟩ := snoc_cases (sts_ne (pj := pj) (pr := pr) (jn_ne pj pr hj))
  rw [e] at ih hle ⊢
  rw [List.append_nil, pcs_snoc, ← ih, pcs_snoc, addL_snoc, slx_last (hle a (by simp)), pcs_app (fun x hx => hle x (List.mem_append_left _ hx))]
 ·rw [pcs_snoc, pcs_app hle, ih, slx_last (Nat.le_refl _)]
  simp [slx]
structure Sil (pj : Int → Int → Int) (pr : Int → G_api_Prop) (sil : Int → Bool) : Prop where
 s : ∀ r, sil r = true → ((pr r).Break = 1 ∨ (pr r).Break = 2 ∨ (pr r).Break = 3) ∧ (pr r).Pict = false ∧ (pr r).Conj = 0
 ja : ∀ a b, (a = 1 ∨ a = 2 ∨ a = 3) → pj a b ≠ 0 → a = 1 ∧ b = 2
 jb : ∀ a b, (b = 1 ∨ b = 2 ∨ b = 3) → pj a b ≠ 0 → a = 1 ∧ b = 2
 b : ∀ r, (pr r).Break = 1 ∨ (pr r).Break = 2 → sil r = true
variable {sil : Int → Bool}
theorem Sil.state (h : Sil pj pr sil) (l : List Int) {x : Int} (hx : sil x = true) : sgF ((l ++ [x]).map pr) = ⟨true, (pr x).Break, 0, 0, false⟩ := by
 obtain ⟨h1, h2, h3⟩ := h.s x hx
 rw [List.map_append, List.map_singleton, sgF_snoc]
 unfold sgN nxP nxC
 rw [h2, h3, if_neg (by simp), if_neg (by omega), if_neg (by omega), if_neg (by omega)]
 congr 1
 ·split <;> rfl
 ·have e : ((pr x).Break == 6) = false := by rw [beq_eq_false_iff_ne]; omega
  rw [e, Bool.false_and]
theorem Sil.no (h : Sil pj pr sil) (l : List Int) {x r : Int} (hx : sil x = true) (hr : sil r = false) : jn pj pr (l ++ [x]) r = false := by
 obtain ⟨h1, _, _⟩ := h.s x hx
 unfold jn
 rw [h.state l hx]
 have hz : pj (pr x).Break (pr r).Break = 0 := Classical.byContradiction fun hne => by
  have := h.b r (.inr (h.ja _ _ h1 hne).2)
  rw [hr] at this
  cases this
 simp [sgJ, hz]
theorem Sil.new (h : Sil pj pr sil) (l : List Int) {x : Int} (hx : sil x = true) (p : G_api_Prop) : sgN (sgF ((l ++ [x]).map pr)) p = sgN sg0 p := by
 rw [h.state l hx]
 exact sgN_sq (s := ⟨true, (pr x).Break, 0, 0, false⟩) (t := sg0) ⟨rfl, rfl, rfl⟩ (fun e => by simp at e) (fun e => by simp [sg0] at e) p
theorem Sil.yes (h : Sil pj pr sil) {l : List Int} {r : Int} (hr : sil r = true) (hj : jn pj pr l r = true) : ∃ l0 x, l = l0 ++ [x] ∧ sil x = true := by
 obtain ⟨l0, x, rfl⟩ := snoc_cases (jn_ne pj pr hj)
 refine ⟨l0, x, rfl, ?_⟩
 obtain ⟨h1, h2, h3⟩ := h.s r hr
 unfold jn at hj
 rw [List.map_append, List.map_singleton, sgF_snoc] at hj
 have hl : (sgN (sgF (l0.map pr)) (pr x)).last = (pr x).Break := rfl
 unfold sgJ at hj
 rw [h2, h3, hl] at hj
 have hz : pj (pr x).Break (pr r).Break ≠ 0 := fun e => by
  rw [e] at hj
  simp at hj
 exact h.b x (.inl (h.jb _ _ h1 hz).1)
theorem Sil.all (h : Sil pj pr sil) (l : List Int) : ∀ c ∈ cls pj pr l, (∀ x ∈ c, sil x = true) ∨ ∀ x ∈ c, sil x = false := by
 refine snoc_ind (P := fun l => ∀ c ∈ cls pj pr l, (∀ x ∈ c, sil x = true) ∨ ∀ x ∈ c, sil x = false) (fun c hc => by simp [cls_nil] at hc) (fun l r ih => ?_) l
 rw [cls_snoc]
 split
 ·rename_i hj
  obtain ⟨l0, x, rfl⟩ := snoc_cases (jn_ne pj pr hj)
  obtain ⟨c0, c, e⟩ := snoc_cases ((cls_flat (pj := pj) (pr := pr) (l0 ++ [x])).2.2 (by simp))
  obtain ⟨c', rfl⟩ := cls_last e
  rw [e] at ih ⊢
  rw [addL_snoc]
  intro d hd
  rcases List.mem_append.1 hd with hd | hd
  ·exact ih d (List.mem_append_left _ hd)
  ·rw [List.mem_singleton.1 hd]
   have hc := ih (c' ++ [x]) (by simp)
   cases hr : sil r with
   | true =>
    obtain ⟨l1, y, e1, hy⟩ := h.yes hr hj
    have : x = y := List.singleton_inj.1 (List.append_inj_right' e1 rfl)
    subst this
    left
    rcases hc with hc | hc
    ·intro z hz
     rcases List.mem_append.1 hz with hz | hz
     ·exact hc z hz
     ·rw [List.mem_singleton.1 hz]; exact hr
    ·have := hc x (by simp)
     rw [hy] at this
     cases this
   | false =>
    right
    rcases hc with hc | hc
    ·have := h.no l0 (hc x (by simp)) hr
     rw [this] at hj
     cases hj
    ·intro z hz
     rcases List.mem_append.1 hz with hz | hz
     ·exact hc z hz
     ·rw [List.mem_singleton.1 hz]; exact hr
 ·intro d hd
  rcases List.mem_append.1 hd with hd | hd
  ·exact ih d hd
  ·rw [List.mem_singleton.1 hd]
   cases hr : sil r with
   | true => left; intro z hz; rw [List.mem_singleton.1 hz]; exact hr
   | false => right; intro z hz; rw [List.mem_singleton.1 hz]; exact hr
end Go.Proofs.YtfhhpdggmefcoaaGreatDoor
namespace Go.Lt
theorem w64_in {n : Int} (h : -9223372036854775808 ≤ n ∧ n ≤ 9223372036854775807) : w64 n = n := by
 unfold w64
 rw [IntKind.wrap_i64]
 omega
theorem w32_in {n : Int} (h : -2147483648 ≤ n ∧ n ≤ 2147483647) : w32 n = n := by
 unfold w32
 rw [IntKind.wrap_i32]
 omega
theorem bsm {α β : Type} (a : α) (f : α → Option β) : (some a).bind f = f a := by simp
theorem iter_inv {σ τ : Type} {step : σ → Option (σ ⊕ τ)} (Inv : σ → Prop) (μ : σ → Nat) (post : τ → Prop)
  (h : ∀ s, Inv s → (∃ s', step s = some (.inl s') ∧ Inv s' ∧ μ s' < μ s) ∨ ∃ t, step s = some (.inr t) ∧ post t) :
  ∀ (fuel : Nat) (s : σ), Inv s → μ s < fuel → ∃ t, iter fuel step s = some t ∧ post t := by
 intro fuel
 induction fuel with
 | zero => intro s _ hm; omega
 | succ k ih =>
  intro s hs hm
  rcases h s hs with ⟨s', h1, h2, h3⟩ | ⟨t, h1, h2⟩
  ·obtain ⟨t, h4, h5⟩ := ih s' h2 (by omega)
   exact ⟨t, by simp [iter, h1, h4], h5⟩
  ·exact ⟨t, by simp [iter, h1], h2⟩
theorem iter_eq {σ τ : Type} {step : σ → Option (σ ⊕ τ)} (Inv : σ → Prop) (μ : σ → Nat) {t : τ}
  (h : ∀ s, Inv s → (∃ s', step s = some (.inl s') ∧ Inv s' ∧ μ s' < μ s) ∨ step s = some (.inr t)) {fuel : Nat} {s : σ} (h0 : Inv s) (hm : μ s < fuel) : iter fuel step s = some t := by
 obtain ⟨t', h1, h2⟩ := iter_inv Inv μ (fun x => x = t) (fun s hs => (h s hs).imp id fun h => ⟨t, h, rfl⟩) fuel s h0 hm
 rw [h1, h2]
theorem orE_some (a b : Bool) : orE a (some b) = some (a || b) := by cases a <;> rfl
theorem andE_some (a b : Bool) : andE a (some b) = some (a && b) := by cases a <;> rfl
theorem orE_true (x : Option Bool) : orE true x = some true := rfl
theorem orE_false (x : Option Bool) : orE false x = x := rfl
theorem andE_true (x : Option Bool) : andE true x = x := rfl
theorem andE_false (x : Option Bool) : andE false x = some false := rfl
theorem idx_nat {α : Type} (xs : List α) (i : Nat) : idx xs (i : Int) = xs[i]? := by
 unfold idx
 rw [if_pos (Int.natCast_nonneg i)]
 rfl
theorem idx_at {α : Type} {xs : List α} {i : Nat} (h : i < xs.length) : idx xs (i : Int) = some xs[i] := by
 rw [idx_nat, List.getElem?_eq_getElem h]
theorem sets_nat {α : Type} {xs : List α} {i : Nat} (h : i < xs.length) (x : α) : sets xs (i : Int) x = some (xs.set i x) := by
 unfold sets
 rw [if_pos ⟨Int.natCast_nonneg i, by omega⟩]
 rfl
theorem app_eq {α : Type} {xs ys : List α} (h : xs.length + ys.length ≤ 1099511627776) : app xs ys = some (xs ++ ys) := by
 unfold app far
 rw [if_pos h]
theorem rep_eq {α : Type} {n : Int} (x : α) (h : 0 ≤ n ∧ n ≤ 1099511627776) : rep n x = some (List.replicate n.toNat x) := by
 unfold rep far
 rw [if_pos (by omega)]
theorem slc_eq {α : Type} {xs : List α} {i j : Nat} (h : i ≤ j) (h2 : j ≤ xs.length) : slc xs i j = some ((xs.drop i).take (j - i)) := by
 unfold slc
 rw [if_pos (by omega)]
 congr 2
 omega
theorem imax_eq (x y : Int) : imax x y = max x y := by unfold imax; split <;> omega
theorem imin_eq (x y : Int) : imin x y = min x y := by unfold imin; split <;> omega
theorem iter_count {τ : Type} {step : Int → Option (Int ⊕ τ)} {n : Nat} (hn : n ≤ 9223372036854775807) (post : τ → Prop) (Inv : Nat → Prop) (h0 : Inv 0)
  (h : ∀ i : Nat, i < n → Inv i → (step i = some (.inl ((i + 1 : Nat) : Int)) ∧ Inv (i + 1)) ∨ ∃ t, step i = some (.inr t) ∧ post t)
  (hend : Inv n → ∃ t, step n = some (.inr t) ∧ post t) : ∃ t, iter (((n : Int) - 0).toNat + 1) step 0 = some t ∧ post t := by
 refine iter_inv (fun s : Int => ∃ i : Nat, s = (i : Int) ∧ i ≤ n ∧ Inv i) (fun s : Int => n - s.toNat) post (fun s ⟨i, hs, hi, hI⟩ => ?_) _ _ ⟨0, rfl, Nat.zero_le _, h0⟩ (by simp)
 subst hs
 rcases Nat.lt_or_ge i n with hlt | hge
 ·rcases h i hlt hI with ⟨h1, h2⟩ | h1
  ·exact .inl ⟨_, h1, ⟨i + 1, rfl, hlt, h2⟩, by simp; omega⟩
  ·exact .inr h1
 ·obtain rfl : i = n := by omega
  exact .inr (hend hI)
theorem iter_for {σ τ : Type} {step : σ → Option (σ ⊕ τ)} {n : Nat} (Inv : Nat → σ → Prop) (post : τ → Prop)
  (h : ∀ i s, i < n → Inv i s → (∃ s', step s = some (.inl s') ∧ Inv (i + 1) s') ∨ ∃ t, step s = some (.inr t) ∧ post t)
  (hend : ∀ s, Inv n s → ∃ t, step s = some (.inr t) ∧ post t) {fuel : Nat} {s : σ} (h0 : Inv 0 s) (hf : n < fuel) : ∃ t, iter fuel step s = some t ∧ post t := by
 have key : ∀ fuel i s, i ≤ n → n - i < fuel → Inv i s → ∃ t, iter fuel step s = some t ∧ post t := by
  intro fuel
  induction fuel with
  | zero => intro i s _ hm; omega
  | succ k ih =>
   intro i s hi hm hs
   rcases Nat.lt_or_ge i n with hlt | hge
   ·rcases h i s hlt hs with ⟨s', h1, h2⟩ | ⟨t, h1, h2⟩
    ·obtain ⟨t, h4, h5⟩ := ih (i + 1) s' hlt (by omega) h2
     exact ⟨t, by simp [iter, h1, h4], h5⟩
    ·exact ⟨t, by simp [iter, h1], h2⟩
   ·obtain rfl : i = n := by omega
    obtain ⟨t, h1, h2⟩ := hend s hs
    exact ⟨t, by simp [iter, h1], h2⟩
 exact key fuel 0 s (Nat.zero_le _) (by omega) h0
theorem iter_forB {σ τ β : Type} {step : σ → Option (σ ⊕ τ)} {n : Nat} (Inv : Nat → σ → Prop) (post : τ → Prop) {fuel : Nat} {s : σ} {k : τ → Option β} {r : Option β}
  (h : ∀ i s, i < n → Inv i s → (∃ s', step s = some (.inl s') ∧ Inv (i + 1) s') ∨ ∃ t, step s = some (.inr t) ∧ post t)
  (hend : ∀ s, Inv n s → ∃ t, step s = some (.inr t) ∧ post t) (h0 : Inv 0 s) (hf : n < fuel) (hk : ∀ t, post t → k t = r) : (iter fuel step s).bind k = r := by
 obtain ⟨t, h1, h2⟩ := iter_for Inv post h hend h0 hf
 rw [h1]
 exact hk t h2
theorem iter_forE {σ τ β : Type} {step : σ → Option (σ ⊕ τ)} {n : Nat} (Inv : Nat → σ → Prop) (post : τ → Prop) {fuel : Nat} {s : σ} {k : τ → Option β} {p : β → Prop}
  (h : ∀ i s, i < n → Inv i s → (∃ s', step s = some (.inl s') ∧ Inv (i + 1) s') ∨ ∃ t, step s = some (.inr t) ∧ post t)
  (hend : ∀ s, Inv n s → ∃ t, step s = some (.inr t) ∧ post t) (h0 : Inv 0 s) (hf : n < fuel) (hk : ∀ t, post t → ∃ r, k t = some r ∧ p r) : ∃ r, (iter fuel step s).bind k = some r ∧ p r := by
 obtain ⟨t, h1, h2⟩ := iter_for Inv post h hend h0 hf
 rw [h1]
 exact hk t h2
theorem iter_forL {σ τ γ : Type} {step : σ → Option (σ ⊕ τ)} {n : Nat} (Inv : Nat → σ → Prop) (post : τ → Prop) {fuel : Nat} {s : σ} {k : τ → Option (γ × Bool)}
  (h : ∀ i s, i < n → Inv i s → (∃ s', step s = some (.inl s') ∧ Inv (i + 1) s') ∨ ∃ t, step s = some (.inr t) ∧ post t)
  (hend : ∀ s, Inv n s → ∃ t, step s = some (.inr t) ∧ post t) (h0 : Inv 0 s) (hf : n < fuel) (hk : ∀ t, post t → ∃ r, k t = some (r, true)) : ∃ r, (iter fuel step s).bind k = some (r, true) := by
 obtain ⟨t, h1, h2⟩ := iter_for Inv post h hend h0 hf
 rw [h1]
 exact hk t h2
theorem w64_succ {i n : Nat} (h : i < n) (hn : n ≤ 9223372036854775807) : w64 ((i : Int) + 1) = ((i + 1 : Nat) : Int) := by
 rw [w64_in (by omega)]
 simp
theorem dlt {i n : Nat} (h : i < n) : decide ((i : Int) < (n : Int)) = true := by simp; exact h
theorem dnl (n : Nat) : decide ((n : Int) < (n : Int)) = false := by simp
end Go.Lt
namespace Go.Lt
theorem iter_invB {σ τ β : Type} {step : σ → Option (σ ⊕ τ)} {fuel : Nat} {s : σ} {k : τ → Option β} {r : Option β} (Inv : σ → Prop) (μ : σ → Nat) (post : τ → Prop)
  (h : ∀ s, Inv s → (∃ s', step s = some (.inl s') ∧ Inv s' ∧ μ s' < μ s) ∨ ∃ t, step s = some (.inr t) ∧ post t) (h0 : Inv s) (hf : μ s < fuel) (hk : ∀ t, post t → k t = r) : (iter fuel step s).bind k = r := by
 obtain ⟨t, e1, e2⟩ := iter_inv Inv μ post h fuel s h0 hf
 rw [e1]
 exact hk t e2
theorem iter_invE {σ τ β : Type} {step : σ → Option (σ ⊕ τ)} {fuel : Nat} {s : σ} {k : τ → Option β} {p : β → Prop} (Inv : σ → Prop) (μ : σ → Nat) (post : τ → Prop)
  (h : ∀ s, Inv s → (∃ s', step s = some (.inl s') ∧ Inv s' ∧ μ s' < μ s) ∨ ∃ t, step s = some (.inr t) ∧ post t) (h0 : Inv s) (hf : μ s < fuel) (hk : ∀ t, post t → ∃ r, k t = some r ∧ p r) : ∃ r, (iter fuel step s).bind k = some r ∧ p r := by
 obtain ⟨t, e1, e2⟩ := iter_inv Inv μ post h fuel s h0 hf
 rw [e1]
 exact hk t e2
theorem bind_or {α σ τ : Type} {x : Option α} {k : α → Option (σ ⊕ τ)} {A : σ → Prop} {B : τ → Prop} (post : α → Prop) (hx : ∃ t, x = some t ∧ post t)
  (hk : ∀ t, post t → (∃ s', k t = some (.inl s') ∧ A s') ∨ ∃ u, k t = some (.inr u) ∧ B u) : (∃ s', x.bind k = some (.inl s') ∧ A s') ∨ ∃ t, x.bind k = some (.inr t) ∧ B t := by
 obtain ⟨t, e1, e2⟩ := hx
 rw [e1]
 exact hk t e2
variable {α : Type} {lo hi : α → Int}
def srtd (lo hi : α → Int) : List α → Bool
 | [] => true
 | x :: l => decide (lo x ≤ hi x) && (match l with | [] => true | y :: _ => decide (hi x < lo y)) && srtd lo hi l
theorem srtd_lo : ∀ {T : List α}, srtd lo hi T = true → ∀ i (h : i < T.length), lo T[i] ≤ hi T[i]
 | [], _, i, h => by simp at h
 | x :: l, hs, i, h => by
  simp only [srtd, Bool.and_eq_true, decide_eq_true_eq] at hs
  cases i with
  | zero => exact hs.1.1
  | succ i => exact srtd_lo hs.2 i (by simpa using h)
theorem srtd_lt : ∀ {T : List α}, srtd lo hi T = true → ∀ i j (h : j < T.length), (hij : i < j) → hi (T[i]'(by omega)) < lo T[j]
 | [], _, i, j, h, _ => by simp at h
 | x :: l, hs, i, j, h, hij => by
  have hs0 := hs
  simp only [srtd, Bool.and_eq_true, decide_eq_true_eq] at hs
  cases j with
  | zero => omega
  | succ j =>
   have hj : j < l.length := by simpa using h
   cases i with
   | succ i => exact srtd_lt hs.2 i j hj (by omega)
   | zero =>
    cases l with
    | nil => simp at hj
    | cons y l' =>
     have h1 : hi x < lo y := by simpa using hs.1.2
     cases j with
     | zero => exact h1
     | succ j =>
      have h2 := srtd_lt hs.2 0 (j + 1) hj (by omega)
      have h3 := srtd_lo hs.2 0 (by simp)
      simp only [List.getElem_cons_zero] at h2 h3
      simp only [List.getElem_cons_zero, List.getElem_cons_succ] at h2 ⊢
      omega
def onn (lo hi : α → Int) (r : Int) (x : α) : Bool := decide (lo x ≤ r) && decide (r ≤ hi x)
theorem onn_iff {r : Int} {x : α} : onn lo hi r x = true ↔ lo x ≤ r ∧ r ≤ hi x := by simp [onn]
theorem onn_uniq {T : List α} (hs : srtd lo hi T = true) {r : Int} {i j : Nat} (hi' : i < T.length) (hj : j < T.length) (h1 : onn lo hi r T[i] = true) (h2 : onn lo hi r T[j] = true) : i = j := by
 rw [onn_iff] at h1 h2
 rcases Nat.lt_trichotomy i j with h | h | h
 ·have := srtd_lt hs i j hj h
  omega
 ·exact h
 ·have := srtd_lt hs j i hi' h
  omega
def fnd (lo hi : α → Int) (T : List α) (r : Int) : Option α := T.find? (onn lo hi r)
theorem fnd_of {T : List α} (hs : srtd lo hi T = true) {r : Int} {x : α} (hx : x ∈ T) (h : onn lo hi r x = true) : fnd lo hi T r = some x := by
 unfold fnd
 obtain ⟨i, hi', rfl⟩ := List.mem_iff_getElem.1 hx
 rw [List.find?_eq_some_iff_getElem]
 refine ⟨h, i, hi', rfl, fun j hj => ?_⟩
 cases hb : onn lo hi r (T[j]'(by omega)) with
 | false => rfl
 | true => exact absurd (onn_uniq hs (by omega) hi' hb h) (by omega)
theorem fnd_none {T : List α} {r : Int} (h : ∀ i (h : i < T.length), onn lo hi r T[i] = false) : fnd lo hi T r = none := by
 unfold fnd
 rw [List.find?_eq_none]
 intro x hx
 obtain ⟨i, hi', rfl⟩ := List.mem_iff_getElem.1 hx
 simp [h i hi']
theorem fnd_mem {T : List α} {r : Int} {x : α} (h : fnd lo hi T r = some x) : x ∈ T ∧ onn lo hi r x = true := ⟨List.mem_of_find?_eq_some h, List.find?_some h⟩
theorem fnd_at {T : List α} (hs : srtd lo hi T = true) {r : Int} {i : Nat} (h1 : ∀ j (h : j < T.length), j < i → hi T[j] < r) (h2 : ∀ j (h : j < T.length), i ≤ j → r ≤ hi T[j]) :
  fnd lo hi T r = if h : i < T.length then (if lo T[i] ≤ r then some T[i] else none) else none := by
 have hno : ∀ j (h : j < T.length), j ≠ i → onn lo hi r T[j] = false := fun j h hne => by
  cases hb : onn lo hi r T[j] with
  | false => rfl
  | true =>
   rw [onn_iff] at hb
   rcases Nat.lt_or_ge j i with hj | hj
   ·have := h1 j h hj
    omega
   ·have h3 := srtd_lt hs i j h (by omega)
    have h4 := h2 i (by omega) (Nat.le_refl _)
    omega
 split
 ·rename_i hi'
  split
  ·rename_i hl
   exact fnd_of hs (List.getElem_mem hi') (onn_iff.2 ⟨hl, h2 i hi' (Nat.le_refl _)⟩)
  ·rename_i hl
   refine fnd_none fun j h => ?_
   by_cases hj : j = i
   ·subst hj
    cases hb : onn lo hi r T[j] with
    | false => rfl
    | true => exact absurd (onn_iff.1 hb).1 hl
   ·exact hno j h hj
 ·rename_i hi'
  exact fnd_none fun j h => hno j h (by omega)
theorem half {a b : Nat} (h : a + b ≤ 4611686018427387904) : w64 ((IntKind.u64.wrap (w64 ((a : Int) + (b : Int)))).fdiv (2 ^ 1)) = (((a + b) / 2 : Nat) : Int) := by
 have e0 : w64 ((a : Int) + (b : Int)) = ((a + b : Nat) : Int) := by rw [w64_in (by omega)]; simp
 have h1 : IntKind.u64.wrap ((a + b : Nat) : Int) = ((a + b : Nat) : Int) := by
  have : ((a + b : Nat) : Int) % 18446744073709551616 = ((a + b : Nat) : Int) := Int.emod_eq_of_lt (by omega) (by omega)
  simpa [IntKind.wrap, IntKind.bits, IntKind.signed] using this
 have e2 : (((a + b : Nat) : Int)).fdiv (2 ^ 1) = (((a + b) / 2 : Nat) : Int) := by
  rw [Int.fdiv_eq_ediv_of_nonneg _ (by decide)]
  omega
 rw [e0, h1, e2, w64_in (by omega)]
theorem search_eq {T : List α} (hs : srtd lo hi T = true) (hl : T.length ≤ 1000000) (r : Int) {step : Int × Int → Option (Int × Int ⊕ Int)}
  (h1 : ∀ a b : Nat, (hab : a < b) → (hb : b ≤ T.length) → step ((a : Int), (b : Int)) = some (.inl (if r ≤ hi (T[(a + b) / 2]'(by omega)) then ((a : Int), (((a + b) / 2 : Nat) : Int)) else (((((a + b) / 2 + 1 : Nat) : Int)), (b : Int)))))
  (h2 : ∀ a : Nat, step ((a : Int), (a : Int)) = some (.inr (a : Int))) :
  ∃ i : Nat, iter (((T.length : Int) - 0).toNat + 1) step (0, (T.length : Int)) = some (i : Int) ∧ i ≤ T.length ∧ (∀ j (h : j < T.length), j < i → hi T[j] < r) ∧ (∀ j (h : j < T.length), i ≤ j → r ≤ hi T[j]) := by
 have hmono : ∀ j k (h : k < T.length), (hjk : j ≤ k) → hi (T[j]'(by omega)) ≤ hi T[k] := fun j k h hjk => by
  rcases Nat.lt_or_ge j k with hlt | hge
  ·have e1 := srtd_lt hs j k h hlt
   have e2 := srtd_lo hs k h
   omega
  ·obtain rfl : j = k := by omega
   exact Int.le_refl _
 obtain ⟨t, e1, i, e2, e3, e4, e5⟩ := iter_inv (step := step) (fun q => ∃ a b : Nat, q = ((a : Int), (b : Int)) ∧ a ≤ b ∧ b ≤ T.length ∧ (∀ j (h : j < T.length), j < a → hi T[j] < r) ∧ (∀ j (h : j < T.length), b ≤ j → r ≤ hi T[j]))
  (fun q => (q.2 - q.1).toNat) (fun t => ∃ i : Nat, t = (i : Int) ∧ i ≤ T.length ∧ (∀ j (h : j < T.length), j < i → hi T[j] < r) ∧ (∀ j (h : j < T.length), i ≤ j → r ≤ hi T[j]))
  (by
   rintro q ⟨a, b, rfl, hab, hb, c1, c2⟩
   rcases Nat.lt_or_ge a b with hlt | hge
   ·left
    rw [h1 a b hlt hb]
    refine ⟨_, rfl, ?_⟩
    by_cases hr : r ≤ hi (T[(a + b) / 2]'(by omega))
    ·rw [if_pos hr]
     exact ⟨⟨a, (a + b) / 2, rfl, by omega, by omega, c1, fun j h hj => Int.le_trans hr (hmono _ _ h hj)⟩, by simp only; omega⟩
    ·rw [if_neg hr]
     refine ⟨⟨(a + b) / 2 + 1, b, rfl, by omega, hb, fun j h hj => ?_, c2⟩, by simp only; omega⟩
     have := hmono j ((a + b) / 2) (by omega) (by omega)
     omega
   ·right
    obtain rfl : a = b := by omega
    exact ⟨_, h2 a, a, rfl, hb, c1, c2⟩)
  (((T.length : Int) - 0).toNat + 1) (0, (T.length : Int)) ⟨0, T.length, rfl, Nat.zero_le _, Nat.le_refl _, fun j h hj => by omega, fun j h hj => by omega⟩ (by simp only; omega)
 subst e2
 exact ⟨i, e1, e3, e4, e5⟩
def osum (v : Option Int) : Int ⊕ Unit := match v with | some x => .inl x | none => .inr ()
theorem lists_eq {n : Nat} (hn : n ≤ 1000000) {v : Option Int} {step : Int → Option (Int ⊕ (Int ⊕ Unit))}
  (h1 : ∀ k : Nat, k < n → step (k : Int) = if v = some ((k : Int) + 1) then some (.inr (.inl ((k : Int) + 1))) else some (.inl ((k + 1 : Nat) : Int)))
  (h2 : step (n : Int) = some (.inr (.inr ()))) (hv : ∀ x, v = some x → 1 ≤ x ∧ x ≤ n) : iter (((n : Int) - 0).toNat + 1) step 0 = some (osum v) := by
 refine iter_eq (fun s => ∃ k : Nat, s = (k : Int) ∧ k ≤ n ∧ ∀ j : Nat, j < k → v ≠ some ((j : Int) + 1)) (fun s => ((n : Int) - s).toNat) ?_ ⟨0, rfl, Nat.zero_le _, fun j hj => by omega⟩ (by omega)
 rintro s ⟨k, rfl, hk, hno⟩
 rcases Nat.lt_or_ge k n with hlt | hge
 ·rw [h1 k hlt]
  by_cases he : v = some ((k : Int) + 1)
  ·rw [if_pos he]
   right
   subst he
   rfl
  ·rw [if_neg he]
   refine .inl ⟨_, rfl, ⟨k + 1, rfl, by omega, fun j hj => ?_⟩, by omega⟩
   by_cases hjk : j = k
   ·subst hjk; exact he
   ·exact hno j (by omega)
 ·obtain rfl : k = n := by omega
  rw [h2]
  right
  cases v with
  | none => rfl
  | some x =>
   obtain ⟨e1, e2⟩ := hv x rfl
   exact absurd (show some x = some (((x - 1).toNat : Int) + 1) by congr 1; omega) (hno (x - 1).toNat (by omega))
theorem lists_eqB {n fuel : Nat} {β : Type} {kk : Int ⊕ Unit → Option β} {rr : Option β} (hn : n ≤ 1000000) {v : Option Int} {step : Int → Option (Int ⊕ (Int ⊕ Unit))}
  (h1 : ∀ k : Nat, k < n → step (k : Int) = if v = some ((k : Int) + 1) then some (.inr (.inl ((k : Int) + 1))) else some (.inl ((k + 1 : Nat) : Int)))
  (h2 : step (n : Int) = some (.inr (.inr ()))) (hv : ∀ x, v = some x → 1 ≤ x ∧ x ≤ n) (hf : fuel = ((n : Int) - 0).toNat + 1) (hk : kk (osum v) = rr) : (iter fuel step 0).bind kk = rr := by
 subst hf
 rw [lists_eq hn h1 h2 hv]
 exact hk
def lk (T : List (Int × Int × Int)) (r : Int) : Option Int := (fnd (fun x => x.1) (fun x => x.2.1) T r).map (fun x => x.2.2)
def inl_ (l : List (Int × Int)) (r : Int) : Bool := l.any (onn (fun x => x.1) (fun x => x.2) r)
def ofv (T : List (Int × Int × Int)) (v : Int) : List (Int × Int) := (T.filter (fun x => x.2.2 == v)).map (fun x => (x.1, x.2.1))
theorem inl_ofv {T : List (Int × Int × Int)} (hs : srtd (fun x => x.1) (fun x => x.2.1) T = true) (v r : Int) : inl_ (ofv T v) r = decide (lk T r = some v) := by
 unfold inl_ ofv lk
 rw [List.any_map, List.any_filter]
 cases hf : fnd (fun x => x.1) (fun x => x.2.1) T r with
 | none =>
  simp only [Option.map_none, reduceCtorEq, decide_false]
  rw [List.any_eq_false]
  intro x hx
  unfold fnd at hf
  have := List.find?_eq_none.1 hf x hx
  simp only [Function.comp, Bool.and_eq_true, not_and]
  intro _
  simpa [onn] using this
 | some x =>
  obtain ⟨h1, h2⟩ := fnd_mem hf
  simp only [Option.map_some, Option.some.injEq]
  by_cases hv : x.2.2 = v
  ·rw [decide_eq_true hv, List.any_eq_true]
   exact ⟨x, h1, by simp only [Function.comp, Bool.and_eq_true, beq_iff_eq]; exact ⟨hv, h2⟩⟩
  ·rw [decide_eq_false hv, List.any_eq_false]
   intro y hy
   simp only [Function.comp, Bool.and_eq_true, beq_iff_eq, not_and]
   intro e
   cases hb : onn (fun x : Int × Int => x.1) (fun x => x.2) r (y.1, y.2.1) with
   | false => simp
   | true =>
    have := fnd_of hs hy (show onn (fun x : Int × Int × Int => x.1) (fun x => x.2.1) r y = true from hb)
    rw [hf] at this
    cases this
    exact absurd e hv
theorem lk_in {T : List (Int × Int × Int)} {p : Int → Bool} (h : T.all (fun x => p x.2.2) = true) {r v : Int} (hv : lk T r = some v) : p v = true := by
 unfold lk at hv
 obtain ⟨x, hx, rfl⟩ := Option.map_eq_some_iff.1 hv
 exact List.all_eq_true.1 h x (fnd_mem hx).1
end Go.Lt
namespace Go.Proofs.YtfhhpdggmefcoaaGreatDoor
open Go Go.Lt
set_option maxRecDepth 100000
def gT : List (Int × Int × Int) := match f_gcb_table with | some t => t | none => []
def pT : List (Int × Int) := match f_pict_table with | some t => t | none => []
def cT : List (Int × Int × Int) := match f_conj_table with | some t => t | none => []
def eT : List (Int × Int × Int) := match f_east_table with | some t => t | none => []
theorem gT_eq : f_gcb_table = some gT := rfl
theorem pT_eq : f_pict_table = some pT := rfl
theorem cT_eq : f_conj_table = some cT := rfl
theorem eT_eq : f_east_table = some eT := rfl
theorem gT_s : srtd (fun x => x.1) (fun x => x.2.1) gT = true := by kernel_rfl
theorem pT_s : srtd (fun x => x.1) (fun x => x.2) pT = true := by kernel_rfl
theorem cT_s : srtd (fun x => x.1) (fun x => x.2.1) cT = true := by kernel_rfl
theorem eT_s : srtd (fun x => x.1) (fun x => x.2.1) eT = true := by kernel_rfl
theorem gT_l : gT.length ≤ 1000000 := by
 have : Nat.ble gT.length 1000000 = true := by kernel_rfl
 exact Nat.le_of_ble_eq_true this
theorem pT_l : pT.length ≤ 1000000 := by
 have : Nat.ble pT.length 1000000 = true := by kernel_rfl
 exact Nat.le_of_ble_eq_true this
theorem cT_l : cT.length ≤ 1000000 := by
 have : Nat.ble cT.length 1000000 = true := by kernel_rfl
 exact Nat.le_of_ble_eq_true this
theorem eT_l : eT.length ≤ 1000000 := by
 have : Nat.ble eT.length 1000000 = true := by kernel_rfl
 exact Nat.le_of_ble_eq_true this
theorem gT_v : gT.all (fun x => decide (1 ≤ x.2.2) && decide (x.2.2 ≤ 8)) = true := by kernel_rfl
theorem cT_v : cT.all (fun x => decide (1 ≤ x.2.2) && decide (x.2.2 ≤ 3)) = true := by kernel_rfl
theorem eT_v : eT.all (fun x => decide (1 ≤ x.2.2) && decide (x.2.2 ≤ 3)) = true := by kernel_rfl
def hcl (r : Int) : Int :=
 if (4352 ≤ r ∧ r ≤ 4447) ∨ (43360 ≤ r ∧ r ≤ 43388) then 9
 else if (4448 ≤ r ∧ r ≤ 4519) ∨ (55216 ≤ r ∧ r ≤ 55238) then 10
 else if (4520 ≤ r ∧ r ≤ 4607) ∨ (55243 ≤ r ∧ r ≤ 55291) then 11
 else if r < 44032 ∨ 55203 < r then 0
 else if (r - 44032) % 28 = 0 then 12 else 13
def r32 (r : Int) : Prop := -2147483648 ≤ r ∧ r ≤ 2147483647
theorem r32.w {r : Int} (h : r32 r) : w64 r = r := by unfold r32 at h; exact w64_in (by omega)
theorem ite_b {α : Type} {b : Bool} {p : Prop} [Decidable p] (h : b = true ↔ p) (x y : α) : (if b = true then x else y) = if p then x else y := by
 by_cases hp : p
 ·rw [if_pos hp, if_pos (h.2 hp)]
 ·rw [if_neg hp, if_neg (fun e => hp (h.1 e))]
theorem some_ite {α : Type} {p : Prop} [Decidable p] (x y : α) : (if p then some x else some y) = some (if p then x else y) := by split <;> rfl
theorem hangul_class (r : Int) (h : r32 r) : f_hangul_Class r = some (hcl r) := by
 unfold r32 at h
 unfold f_hangul_Class f_hangul_Syllable f_hangul_in hcl
 simp only [andE_some, bsm, orE_some]
 have hw : 44032 ≤ r → r ≤ 55203 → (w32 (r - 44032)).tmod 28 = (r - 44032) % 28 := fun h1 h2 => by
  rw [w32_in (by omega), Int.tmod_eq_emod_of_nonneg (by omega)]
 rw [ite_b (p := (4352 ≤ r ∧ r ≤ 4447) ∨ (43360 ≤ r ∧ r ≤ 43388)) (by simp), ite_b (p := (4448 ≤ r ∧ r ≤ 4519) ∨ (55216 ≤ r ∧ r ≤ 55238)) (by simp), ite_b (p := (4520 ≤ r ∧ r ≤ 4607) ∨ (55243 ≤ r ∧ r ≤ 55291)) (by simp)]
 rw [ite_b (p := r < 44032 ∨ 55203 < r) (by simp)]
 by_cases hs : r < 44032 ∨ 55203 < r
 ·simp only [if_pos hs, some_ite]
 ·simp only [if_neg hs]
  rw [hw (by omega) (by omega)]
  rw [ite_b (p := (r - 44032) % 28 = 0) (by simp)]
  simp only [some_ite]
theorem ref_split (r : Int) (h1 : 44032 ≤ r) (h2 : r ≤ 55203) : ∃ x, f_linotyperef08_Split r = some x ∧ (x.1 ≠ 0 ∧ (x.2.2 = 0 ↔ (r - 44032) % 28 = 0)) := by
 have hw : w64 r = r := w64_in (by omega)
 unfold f_linotyperef08_Split
 simp only [hw, orE_some, bsm]
 rw [if_neg (by simp; omega)]
 refine iter_invE (fun q => ∃ i : Nat, i ≤ 19 ∧ q = ((44032 + 588 * (i : Int), 4352 + (i : Int)) : Int × Int) ∧ 44032 + 588 * (i : Int) ≤ r) (fun q => (4371 - q.2).toNat)
  (fun t => ∃ x : Int × Int × Int, t = .inl x ∧ (x.1 ≠ 0 ∧ (x.2.2 = 0 ↔ (r - 44032) % 28 = 0))) ?_ ⟨0, by omega, by simp, by omega⟩ (by simp only; omega) ?_
 ·rintro q ⟨i, hi, rfl, hir⟩
  by_cases hi2 : i = 19
  ·subst hi2
   omega
  dsimp only
  rw [if_pos (by simp; omega)]
  refine bind_or (fun t => (∃ x : Int × Int × Int, t = .inl x ∧ (x.1 ≠ 0 ∧ (x.2.2 = 0 ↔ (r - 44032) % 28 = 0))) ∨ (t = .inr (44032 + 588 * ((i + 1 : Nat) : Int)) ∧ 44032 + 588 * ((i + 1 : Nat) : Int) ≤ r))
   (iter_inv (fun q => ∃ j : Nat, j ≤ 21 ∧ q = ((44032 + 588 * (i : Int) + 28 * (j : Int), 4449 + (j : Int)) : Int × Int) ∧ 44032 + 588 * (i : Int) + 28 * (j : Int) ≤ r) (fun q => (4470 - q.2).toNat) _ ?_ _ _ ⟨0, by omega, by simp, by omega⟩ (by simp only; omega)) ?_
  ·rintro q ⟨j, hj, rfl, hjr⟩
   dsimp only
   by_cases hj2 : j = 21
   ·subst hj2
    right
    refine ⟨.inr (44032 + 588 * ((i + 1 : Nat) : Int)), ?_, .inr ⟨rfl, by omega⟩⟩
    rw [if_neg (by simp), show (44032 + 588 * (i : Int) + 28 * ((21 : Nat) : Int)) = 44032 + 588 * ((i + 1 : Nat) : Int) by omega]
   ·rw [if_pos (by simp; omega), w64_in (by omega)]
    by_cases hlt : r < 44032 + 588 * (i : Int) + 28 * (j : Int) + 28
    ·right
     rw [if_pos (by simpa using hlt)]
     rw [show w64 (4519 + r) = 4519 + r from w64_in (by omega), w64_in (by omega)]
     by_cases hz : 4519 + r - (44032 + 588 * (i : Int) + 28 * (j : Int)) = 4519
     ·rw [if_pos (by simpa using hz)]
      exact ⟨_, rfl, .inl ⟨_, rfl, by show 4352 + (i : Int) ≠ 0; omega, by show (0 : Int) = 0 ↔ _; simp; omega⟩⟩
     ·rw [if_neg (by simpa using hz)]
      exact ⟨_, rfl, .inl ⟨_, rfl, by show 4352 + (i : Int) ≠ 0; omega, by show 4519 + r - (44032 + 588 * (i : Int) + 28 * (j : Int)) = 0 ↔ _; omega⟩⟩
    ·left
     rw [if_neg (by simpa using hlt), w64_in (by omega)]
     exact ⟨_, rfl, ⟨j + 1, by omega, by simp only [Prod.mk.injEq]; omega, by omega⟩, by omega⟩
  ·rintro t (⟨x, rfl, hx⟩ | ⟨rfl, hx⟩)
   ·exact .inr ⟨_, rfl, x, rfl, hx⟩
   ·refine .inl ⟨_, rfl, ⟨i + 1, by omega, ?_, by omega⟩, ?_⟩
    ·rw [w64_in (by omega)]
     exact Prod.ext rfl (by show 4352 + (i : Int) + 1 = 4352 + ((i + 1 : Nat) : Int); omega)
    ·rw [w64_in (by omega)]
     omega
 ·rintro t ⟨x, rfl, hx⟩
  exact ⟨x, rfl, hx⟩
theorem ref_class (r : Int) (h : r32 r) : f_linotyperef08_Class r = some (hcl r) := by
 have hw := h.w
 unfold r32 at h
 unfold f_linotyperef08_Class hcl
 simp only [hw, andE_some, bsm, orE_some]
 rw [ite_b (p := (4352 ≤ r ∧ r ≤ 4447) ∨ (43360 ≤ r ∧ r ≤ 43388)) (by simp), ite_b (p := (4448 ≤ r ∧ r ≤ 4519) ∨ (55216 ≤ r ∧ r ≤ 55238)) (by simp), ite_b (p := (4520 ≤ r ∧ r ≤ 4607) ∨ (55243 ≤ r ∧ r ≤ 55291)) (by simp)]
 by_cases hs : r < 44032 ∨ 55203 < r
 ·have : f_linotyperef08_Split r = some (0, 0, 0) := by
   unfold f_linotyperef08_Split
   simp only [hw, orE_some, bsm]
   rw [if_pos (by simpa using hs)]
  rw [this]
  simp only [bsm, if_pos hs, some_ite]
  rfl
 ·obtain ⟨⟨l, v, t⟩, e1, e2, e3⟩ := ref_split r (by omega) (by omega)
  have e2' : (l == 0) = false := by simpa using e2
  rw [e1]
  simp only [bsm, e2', Bool.false_eq_true, if_false, if_neg hs]
  rw [ite_b (b := t == 0) (p := (r - 44032) % 28 = 0) (by simpa using e3)]
  simp only [some_ite]
theorem ref_in (l : List (Int × Int)) (hl : l.length ≤ 1000000) (r : Int) (h : r32 r) : f_linotyperef09_In l r = some (inl_ l r) := by
 have hw := h.w
 unfold f_linotyperef09_In
 simp only [hw]
 have key : iter (σ := Int) (τ := Bool ⊕ Unit) (((l.length : Int) - 0).toNat + 1) (fun s_5 =>
   if (decide (s_5 < (l.length : Int))) = true then
   (idx l s_5).bind fun x_15 =>
   (andE (decide (r ≥ x_15.1)) ((idx l s_5).bind fun x_25 =>
   some (decide (r ≤ x_25.2)))).bind fun d_19 =>
   if d_19 = true then
   some (.inr (.inl true))
   else
   some (.inl ((w64 (s_5 + 1))))
   else
   some (.inr (.inr ()))) (0) = some (if inl_ l r = true then .inl true else .inr ()) := by
  refine iter_eq (fun s => ∃ k : Nat, s = (k : Int) ∧ k ≤ l.length ∧ (l.take k).any (onn (fun x => x.1) (fun x => x.2) r) = false) (fun s => ((l.length : Int) - s).toNat) ?_ ⟨0, rfl, Nat.zero_le _, by simp⟩ (by omega)
  rintro s ⟨k, rfl, hk, hno⟩
  rcases Nat.lt_or_ge k l.length with hlt | hge
  ·have e1 : (l.take (k + 1)).any (onn (fun x => x.1) (fun x => x.2) r) = ((l.take k).any (onn (fun x => x.1) (fun x => x.2) r) || onn (fun x => x.1) (fun x => x.2) r l[k]) := by
    rw [List.take_succ_eq_append_getElem hlt, List.any_append]
    simp
   simp only [dlt hlt, if_true, idx_at hlt, bsm, andE_some]
   have e2 : (decide (r ≥ l[k].1) && decide (r ≤ l[k].2)) = onn (fun x : Int × Int => x.1) (fun x => x.2) r l[k] := rfl
   rw [e2]
   cases hb : onn (fun x : Int × Int => x.1) (fun x => x.2) r l[k] with
   | true =>
    right
    have : inl_ l r = true := by
     unfold inl_
     rw [List.any_eq_true]
     exact ⟨_, List.getElem_mem hlt, hb⟩
    rw [if_pos this]
    rfl
   | false =>
    left
    rw [w64_succ hlt (by omega)]
    exact ⟨_, rfl, ⟨k + 1, rfl, hlt, by rw [e1, hno, hb]; rfl⟩, by omega⟩
  ·obtain rfl : k = l.length := by omega
   right
   rw [List.take_length] at hno
   simp only [dnl, Bool.false_eq_true, if_false]
   rw [show inl_ l r = false from hno]
   rfl
 rw [key]
 cases inl_ l r <;> rfl
theorem gT_of : (match f_linotyperef09_list1, f_linotyperef09_list2, f_linotyperef09_list3, f_linotyperef09_list4, f_linotyperef09_list5, f_linotyperef09_list6, f_linotyperef09_list7, f_linotyperef09_list8 with
 | some a, some b, some c, some d, some e, some f, some g, some h => [a, b, c, d, e, f, g, h] == [ofv gT 1, ofv gT 2, ofv gT 3, ofv gT 4, ofv gT 5, ofv gT 6, ofv gT 7, ofv gT 8] | _, _, _, _, _, _, _, _ => false) = true := by kernel_rfl
theorem cT_of : (match f_linotyperef11_list1, f_linotyperef11_list2, f_linotyperef11_list3 with
 | some a, some b, some c => [a, b, c] == [ofv cT 1, ofv cT 2, ofv cT 3] | _, _, _ => false) = true := by kernel_rfl
theorem eT_of : (match f_linotyperef12_list1, f_linotyperef12_list2, f_linotyperef12_list3 with
 | some a, some b, some c => [a, b, c] == [ofv eT 1, ofv eT 2, ofv eT 3] | _, _, _ => false) = true := by kernel_rfl
theorem pT_of : (f_linotyperef10_list == some pT) = true := by kernel_rfl
theorem ofv_len (T : List (Int × Int × Int)) (v : Int) : (ofv T v).length ≤ T.length := by
 unfold ofv
 rw [List.length_map]
 exact List.length_filter_le _ _
theorem ref09 (r : Int) (h : r32 r) : f_linotyperef09_Of r = some ((lk gT r).getD (hcl r)) := by
 have hl := gT_of
 unfold f_linotyperef09_Of
 split at hl
 ·rename_i a b c d e f g hh ea eb ec ed ee ef eg eh
  rw [ea, eb, ec, ed, ee, ef, eg, eh]
  simp only [bsm]
  have hl2 := eq_of_beq hl
  rw [hl2]
  refine lists_eqB (n := 8) (by decide) (v := lk gT r) (fun k hk => ?_) (by rfl) (fun x hx => ?_) rfl ?_
  ·have hi : idx ([ofv gT 1, ofv gT 2, ofv gT 3, ofv gT 4, ofv gT 5, ofv gT 6, ofv gT 7, ofv gT 8] : List (List (Int × Int))) (k : Int) = some (ofv gT ((k : Int) + 1)) := by
    rw [idx_nat]
    match k, hk with
    | 0, _ => rfl
    | 1, _ => rfl
    | 2, _ => rfl
    | 3, _ => rfl
    | 4, _ => rfl
    | 5, _ => rfl
    | 6, _ => rfl
    | 7, _ => rfl
   simp only [hi, bsm]
   rw [if_pos (by simp; omega), ref_in _ (Nat.le_trans (ofv_len _ _) gT_l) r h, inl_ofv gT_s, w64_in (by omega)]
   simp only [bsm]
   rw [ite_b (p := lk gT r = some ((k : Int) + 1)) (by simp)]
   rfl
  ·have := lk_in (p := fun v => decide (1 ≤ v) && decide (v ≤ 8)) gT_v hx
   simpa using this
  ·cases lk gT r with
   | none => show ((f_linotyperef08_Class r).bind fun o => some o) = _; rw [ref_class r h]; rfl
   | some x => rfl
 ·cases hl
theorem ref11 (r : Int) (h : r32 r) : f_linotyperef11_Of r = some ((lk cT r).getD 0) := by
 have hl := cT_of
 unfold f_linotyperef11_Of
 split at hl
 ·rename_i a b c ea eb ec
  rw [ea, eb, ec]
  simp only [bsm]
  have hl2 := eq_of_beq hl
  rw [hl2]
  refine lists_eqB (n := 3) (by decide) (v := lk cT r) (fun k hk => ?_) (by rfl) (fun x hx => ?_) rfl ?_
  ·have hi : idx ([ofv cT 1, ofv cT 2, ofv cT 3] : List (List (Int × Int))) (k : Int) = some (ofv cT ((k : Int) + 1)) := by
    rw [idx_nat]
    match k, hk with
    | 0, _ => rfl
    | 1, _ => rfl
    | 2, _ => rfl
   simp only [hi, bsm]
   rw [if_pos (by simp; omega), ref_in _ (Nat.le_trans (ofv_len _ _) cT_l) r h, inl_ofv cT_s, w64_in (by omega)]
   simp only [bsm]
   rw [ite_b (p := lk cT r = some ((k : Int) + 1)) (by simp)]
   rfl
  ·have := lk_in (p := fun v => decide (1 ≤ v) && decide (v ≤ 3)) cT_v hx
   simpa using this
  ·cases lk cT r <;> rfl
 ·cases hl
theorem ref12 (r : Int) (h : r32 r) : f_linotyperef12_Of r = some ((lk eT r).getD 0) := by
 have hl := eT_of
 unfold f_linotyperef12_Of
 split at hl
 ·rename_i a b c ea eb ec
  rw [ea, eb, ec]
  simp only [bsm]
  have hl2 := eq_of_beq hl
  rw [hl2]
  refine lists_eqB (n := 3) (by decide) (v := lk eT r) (fun k hk => ?_) (by rfl) (fun x hx => ?_) rfl ?_
  ·have hi : idx ([ofv eT 1, ofv eT 2, ofv eT 3] : List (List (Int × Int))) (k : Int) = some (ofv eT ((k : Int) + 1)) := by
    rw [idx_nat]
    match k, hk with
    | 0, _ => rfl
    | 1, _ => rfl
    | 2, _ => rfl
   simp only [hi, bsm]
   rw [if_pos (by simp; omega), ref_in _ (Nat.le_trans (ofv_len _ _) eT_l) r h, inl_ofv eT_s, w64_in (by omega)]
   simp only [bsm]
   rw [ite_b (p := lk eT r = some ((k : Int) + 1)) (by simp)]
   rfl
  ·have := lk_in (p := fun v => decide (1 ≤ v) && decide (v ≤ 3)) eT_v hx
   simpa using this
  ·cases lk eT r <;> rfl
 ·cases hl
def pic (r : Int) : Bool := (fnd (fun x : Int × Int => x.1) (fun x => x.2) pT r).isSome
theorem inl_pic (r : Int) : inl_ pT r = pic r := by
 unfold inl_ pic fnd
 rw [Bool.eq_iff_iff, List.find?_isSome, List.any_eq_true]
theorem ref10 (r : Int) (h : r32 r) : f_linotyperef10_Is r = some (pic r) := by
 unfold f_linotyperef10_Is
 rw [eq_of_beq pT_of]
 simp only [bsm]
 rw [ref_in _ pT_l r h, inl_pic]
 rfl
def pr (r : Int) : G_api_Prop := ⟨(lk gT r).getD (hcl r), pic r, (lk cT r).getD 0, (lk eT r).getD 0⟩
theorem ref13 (r : Int) (h : r32 r) : f_linotyperef13_Of r = some (pr r) := by
 unfold f_linotyperef13_Of
 rw [ref09 r h, ref10 r h, ref11 r h, ref12 r h]
 rfl
theorem mid_lt {a b n : Nat} (h : a < b) (hb : b ≤ n) : (a + b) / 2 < n := by omega
theorem gcb_of (r : Int) (h : r32 r) : f_gcb_Of r = some ((lk gT r).getD (hcl r)) := by
 have hw := h.w
 have hlen := gT_l
 unfold f_gcb_Of
 rw [gT_eq]
 simp only [bsm]
 obtain ⟨i, e1, e2, e3, e4⟩ := search_eq gT_s gT_l r (step := fun s_7 =>
  if (decide (s_7.1 < s_7.2)) = true then
  (f_gcb_Of_1 (w64 ((IntKind.u64.wrap (w64 (s_7.1 + s_7.2))).fdiv (2 ^ 1))) gT r).bind fun x_22 =>
  if (!x_22) = true then
  some (.inl ((w64 ((w64 ((IntKind.u64.wrap (w64 (s_7.1 + s_7.2))).fdiv (2 ^ 1))) + 1)), s_7.2))
  else
  some (.inl (s_7.1, (w64 ((IntKind.u64.wrap (w64 (s_7.1 + s_7.2))).fdiv (2 ^ 1)))))
  else
  some (.inr (s_7.1))) (fun a b hab hb => by
   simp only
   rw [if_pos (by simp; omega), half (by omega)]
   unfold f_gcb_Of_1
   rw [idx_at (mid_lt hab hb), hw]
   simp only [bsm]
   by_cases hr : r ≤ (gT[(a + b) / 2]'(mid_lt hab hb)).2.1
   ·rw [if_neg (by simpa using hr), if_pos hr]
   ·rw [if_pos (by simpa using hr), if_neg hr, w64_in (by omega)]
    rfl) (fun a => by simp only; rw [if_neg (by simp)])
 unfold f_sort_Search__gcb_Of_1
 rw [e1]
 simp only [bsm, hw]
 have hf := fnd_at gT_s e3 e4
 unfold lk
 rw [hf]
 by_cases hi : i < gT.length
 ·rw [dif_pos hi, idx_at hi]
  simp only [bsm, andE_some]
  by_cases hlo : gT[i].1 ≤ r
  ·rw [if_pos (by simp; exact ⟨hi, hlo⟩), if_pos hlo]
   rfl
  ·rw [if_neg (by simp; omega), if_neg hlo, hangul_class r h]
   rfl
 ·rw [dif_neg hi, show decide ((i : Int) < (gT.length : Int)) = false by simp; omega, andE_false]
  simp only [bsm]
  rw [if_neg (by decide), hangul_class r h]
  rfl
theorem conj_of (r : Int) (h : r32 r) : f_conj_Of r = some ((lk cT r).getD 0) := by
 have hw := h.w
 have hlen := cT_l
 unfold f_conj_Of
 rw [cT_eq]
 simp only [bsm]
 obtain ⟨i, e1, e2, e3, e4⟩ := search_eq cT_s cT_l r (step := fun s_7 =>
  if (decide (s_7.1 < s_7.2)) = true then
  (f_conj_Of_1 (w64 ((IntKind.u64.wrap (w64 (s_7.1 + s_7.2))).fdiv (2 ^ 1))) cT r).bind fun x_22 =>
  if (!x_22) = true then
  some (.inl ((w64 ((w64 ((IntKind.u64.wrap (w64 (s_7.1 + s_7.2))).fdiv (2 ^ 1))) + 1)), s_7.2))
  else
  some (.inl (s_7.1, (w64 ((IntKind.u64.wrap (w64 (s_7.1 + s_7.2))).fdiv (2 ^ 1)))))
  else
  some (.inr (s_7.1))) (fun a b hab hb => by
   simp only
   rw [if_pos (by simp; omega), half (by omega)]
   unfold f_conj_Of_1
   rw [idx_at (mid_lt hab hb), hw]
   simp only [bsm]
   by_cases hr : r ≤ (cT[(a + b) / 2]'(mid_lt hab hb)).2.1
   ·rw [if_neg (by simpa using hr), if_pos hr]
   ·rw [if_pos (by simpa using hr), if_neg hr, w64_in (by omega)]
    rfl) (fun a => by simp only; rw [if_neg (by simp)])
 unfold f_sort_Search__conj_Of_1
 rw [e1]
 simp only [bsm, hw]
 have hf := fnd_at cT_s e3 e4
 unfold lk
 rw [hf]
 by_cases hi : i < cT.length
 ·rw [dif_pos hi, idx_at hi]
  simp only [bsm, orE_some]
  by_cases hlo : cT[i].1 ≤ r
  ·rw [if_neg (by simp; omega), if_pos hlo]
   rfl
  ·rw [if_pos (by simp; omega), if_neg hlo]
   rfl
 ·rw [dif_neg hi, show ((i : Int) == (cT.length : Int)) = true by simp; omega, orE_true]
  simp only [bsm]
  rw [if_pos trivial]
  rfl
theorem east_of (r : Int) (h : r32 r) : f_east_Of r = some ((lk eT r).getD 0) := by
 have hw := h.w
 have hlen := eT_l
 unfold f_east_Of
 rw [eT_eq]
 simp only [bsm]
 obtain ⟨i, e1, e2, e3, e4⟩ := search_eq eT_s eT_l r (step := fun s_7 =>
  if (decide (s_7.1 < s_7.2)) = true then
  (f_east_Of_1 (w64 ((IntKind.u64.wrap (w64 (s_7.1 + s_7.2))).fdiv (2 ^ 1))) eT r).bind fun x_22 =>
  if (!x_22) = true then
  some (.inl ((w64 ((w64 ((IntKind.u64.wrap (w64 (s_7.1 + s_7.2))).fdiv (2 ^ 1))) + 1)), s_7.2))
  else
  some (.inl (s_7.1, (w64 ((IntKind.u64.wrap (w64 (s_7.1 + s_7.2))).fdiv (2 ^ 1)))))
  else
  some (.inr (s_7.1))) (fun a b hab hb => by
   simp only
   rw [if_pos (by simp; omega), half (by omega)]
   unfold f_east_Of_1
   rw [idx_at (mid_lt hab hb), hw]
   simp only [bsm]
   by_cases hr : r ≤ (eT[(a + b) / 2]'(mid_lt hab hb)).2.1
   ·rw [if_neg (by simpa using hr), if_pos hr]
   ·rw [if_pos (by simpa using hr), if_neg hr, w64_in (by omega)]
    rfl) (fun a => by simp only; rw [if_neg (by simp)])
 unfold f_sort_Search__east_Of_1
 rw [e1]
 simp only [bsm, hw]
 have hf := fnd_at eT_s e3 e4
 unfold lk
 rw [hf]
 by_cases hi : i < eT.length
 ·rw [dif_pos hi, idx_at hi]
  simp only [bsm, orE_some]
  by_cases hlo : eT[i].1 ≤ r
  ·rw [if_neg (by simp; omega), if_pos hlo]
   rfl
  ·rw [if_pos (by simp; omega), if_neg hlo]
   rfl
 ·rw [dif_neg hi, show ((i : Int) == (eT.length : Int)) = true by simp; omega, orE_true]
  simp only [bsm]
  rw [if_pos trivial]
  rfl
theorem pict_is (r : Int) (h : r32 r) : f_pict_Is r = some (pic r) := by
 have hlen := pT_l
 unfold f_pict_Is
 rw [pT_eq]
 simp only [bsm]
 obtain ⟨i, e1, e2, e3, e4⟩ := search_eq pT_s pT_l r (step := fun s_7 =>
  if (decide (s_7.1 < s_7.2)) = true then
  (f_pict_Is_1 (w64 ((IntKind.u64.wrap (w64 (s_7.1 + s_7.2))).fdiv (2 ^ 1))) pT r).bind fun x_22 =>
  if (!x_22) = true then
  some (.inl ((w64 ((w64 ((IntKind.u64.wrap (w64 (s_7.1 + s_7.2))).fdiv (2 ^ 1))) + 1)), s_7.2))
  else
  some (.inl (s_7.1, (w64 ((IntKind.u64.wrap (w64 (s_7.1 + s_7.2))).fdiv (2 ^ 1)))))
  else
  some (.inr (s_7.1))) (fun a b hab hb => by
   simp only
   rw [if_pos (by simp; omega), half (by omega)]
   unfold f_pict_Is_1
   rw [idx_at (mid_lt hab hb)]
   simp only [bsm]
   by_cases hr : r ≤ (pT[(a + b) / 2]'(mid_lt hab hb)).2
   ·rw [if_neg (by simpa using hr), if_pos hr]
   ·rw [if_pos (by simpa using hr), if_neg hr, w64_in (by omega)]
    rfl) (fun a => by simp only; rw [if_neg (by simp)])
 unfold f_sort_Search__pict_Is_1
 rw [e1]
 simp only [bsm]
 have hf := fnd_at pT_s e3 e4
 unfold pic
 rw [hf]
 by_cases hi : i < pT.length
 ·rw [dif_pos hi, idx_at hi]
  simp only [bsm, andE_some]
  by_cases hlo : pT[i].1 ≤ r
  ·rw [if_pos hlo]
   simp [hi, hlo]
  ·rw [if_neg hlo]
   simp [hlo]
 ·rw [dif_neg hi, show decide ((i : Int) < (pT.length : Int)) = false by simp; omega, andE_false]
  rfl
theorem ucd_of (r : Int) (h : r32 r) : f_ucd_Of r = some (pr r) := by
 unfold f_ucd_Of
 rw [gcb_of r h, pict_is r h, conj_of r h, east_of r h]
 rfl
end Go.Proofs.YtfhhpdggmefcoaaGreatDoor
namespace Go.Proofs.YtfhhpdggmefcoaaGreatDoor
open Go Go.Lt
theorem cell_ext {a b : G_api_Cell} (h1 : a.Kind = b.Kind) (h2 : a.Text = b.Text) : a = b := by
 cases a; cases b; simp_all
def bl : G_api_Cell := ⟨0, []⟩
def vld (r : Int) : Bool := decide (0 ≤ r) && decide (r ≤ 1114111) && (decide (r < 55296) || decide (r > 57343))
theorem ref_valid (r : Int) : f_linotyperef01_Valid r = some (vld r) := by
 simp only [f_linotyperef01_Valid, andE_some, orE_some, bsm, vld, ge_iff_le]
theorem sca_valid (r : Int) : f_scalar_Valid r = some (vld r) := by
 simp only [f_scalar_Valid, andE_some, orE_some, bsm, vld, Option.some.injEq]
 rw [Bool.eq_iff_iff]
 simp
 omega
def rgt (c : G_api_Cell) : Bool :=
 if c.Kind = 0 ∨ c.Kind = 3 then c.Text.isEmpty else (decide (c.Kind = 1) || decide (c.Kind = 2)) && decide (1 ≤ c.Text.length) && decide (c.Text.length ≤ 16) && c.Text.all vld
theorem all_take_succ {α : Type} (p : α → Bool) (l : List α) (i : Nat) (h : i < l.length) : (l.take (i + 1)).all p = ((l.take i).all p && p l[i]) := by
 rw [List.take_succ_eq_append_getElem h, List.all_append]
 simp
theorem all_false_of {α : Type} {p : α → Bool} {l : List α} {i : Nat} (h : i < l.length) (hp : p l[i] = false) : l.all p = false := by
 rw [List.all_eq_false]
 exact ⟨_, List.getElem_mem h, by simp [hp]⟩
theorem isEmpty_len {α : Type} (l : List α) : ((l.length : Int) == 0) = l.isEmpty := by
 cases l <;> simp <;> omega
theorem cell_right1 (r : Int) : f_cell_Right_1 r = some (!vld r) := by simp [f_cell_Right_1, sca_valid]
theorem cell_contains (l : List Int) (hl : l.length ≤ 9223372036854775807) : f_slices_ContainsFunc_rune_rune__cell_Right_1 l = some (!l.all vld) := by
 unfold f_slices_ContainsFunc_rune_rune__cell_Right_1 f_slices_IndexFunc_rune_rune__cell_Right_1
 obtain ⟨t, h3, h4⟩ := iter_count (τ := Int ⊕ Unit) (n := l.length) (by omega) (fun t => match t with | .inl i => 0 ≤ i ∧ l.all vld = false | .inr _ => l.all vld = true) (fun i => (l.take i).all vld = true) (by simp)
  (step := fun s_7 =>
   if (decide (s_7 < (l.length : Int))) = true then
   (idx l s_7).bind fun x_16 =>
   (f_cell_Right_1 x_16).bind fun x_18 =>
   if x_18 = true then
   some (.inr (.inl s_7))
   else
   some (.inl ((w64 (s_7 + 1))))
   else
   some (.inr (.inr ())))
  (fun i hi hI => by
   have e3 : w64 ((i : Int) + 1) = ((i + 1 : Nat) : Int) := by rw [w64_in (by omega)]; simp
   simp only [Int.ofNat_lt, hi, decide_true, if_true, idx_at hi, bsm, cell_right1, e3]
   cases hv : vld l[i] with
   | true => exact .inl ⟨by simp, by rw [all_take_succ _ _ _ hi, hI, hv]; rfl⟩
   | false => exact .inr ⟨.inl i, by simp, by omega, all_false_of hi hv⟩)
  (fun hI => ⟨.inr (), by simp, by simpa using hI⟩)
 rw [h3]
 simp only [bsm]
 cases t with
 | inl b => simp only at h4; simp [h4.1, h4.2]
 | inr u => simp only at h4; simp [h4]
theorem cell_right (c : G_api_Cell) : f_cell_Right c = some (rgt c) := by
 unfold f_cell_Right rgt
 by_cases h1 : c.Kind = 0 ∨ c.Kind = 3
 ·rw [if_pos h1]
  rcases h1 with h | h <;> simp [h, isEmpty_len]
 ·have n0 : (c.Kind == 0) = false := by simp; omega
  have n3 : (c.Kind == 3) = false := by simp; omega
  rw [if_neg h1]
  simp only [n0, n3, Bool.false_eq_true, if_false, bsm]
  by_cases h2 : c.Kind = 1 ∨ c.Kind = 2
  ·have e : (if (c.Kind == 1) = true then some (c.Kind == 1) else some (c.Kind == 2) : Option Bool) = some true := by rcases h2 with h | h <;> simp [h]
   have e2 : (decide (c.Kind = 1) || decide (c.Kind = 2)) = true := by simp; exact h2
   rw [e, e2]
   simp only [bsm, if_true, andE_some, Bool.true_and]
   by_cases h3 : 1 ≤ c.Text.length ∧ c.Text.length ≤ 16
   ·rw [cell_contains _ (by omega)]
    have e4 : (decide ((c.Text.length : Int) > 0) && decide ((c.Text.length : Int) ≤ 16)) = true := by simp; omega
    have e5 : (decide (1 ≤ c.Text.length) && decide (c.Text.length ≤ 16)) = true := by simp; exact h3
    rw [e4, e5]
    simp [andE_true]
   ·have e4 : (decide ((c.Text.length : Int) > 0) && decide ((c.Text.length : Int) ≤ 16)) = false := by simp; omega
    have e5 : (decide (1 ≤ c.Text.length) && decide (c.Text.length ≤ 16)) = false := by simp; omega
    rw [e4, e5]
    simp [andE_false]
  ·have n1 : (c.Kind == 1) = false := by simp; omega
   have n2 : (c.Kind == 2) = false := by simp; omega
   have e2 : (decide (c.Kind = 1) || decide (c.Kind = 2)) = false := by simp; omega
   rw [e2]
   simp [n1, n2]
def kd (l : List G_api_Cell) (i : Nat) : Int := match l[i]? with | some c => c.Kind | none => 0
theorem kd_at {l : List G_api_Cell} {i : Nat} (h : i < l.length) : kd l i = l[i].Kind := by simp [kd, List.getElem?_eq_getElem h]
theorem kd_out {l : List G_api_Cell} {i : Nat} (h : l.length ≤ i) : kd l i = 0 := by simp [kd, List.getElem?_eq_none h]
def Snd (l : List G_api_Cell) : Prop := ∀ i (h : i < l.length), rgt l[i] = true ∧ (l[i].Kind = 2 → kd l (i + 1) = 3) ∧ (l[i].Kind = 3 → 0 < i ∧ kd l (i - 1) = 2)
theorem cell_sound (l : List G_api_Cell) (hl : l.length ≤ 9223372036854775807) : ∃ b, f_cell_Sound l = some b ∧ (b = true ↔ Snd l) := by
 unfold f_cell_Sound
 let ld : Nat → Bool := fun i => match i with | 0 => false | k + 1 => decide (kd l k = 2)
 have key : ∀ i (h : i < l.length), ((rgt l[i] = true ∧ (ld i = decide (l[i].Kind = 3))) ↔ rgt l[i] = true ∧ (l[i].Kind = 3 → 0 < i ∧ kd l (i - 1) = 2) ∧ (0 < i → kd l (i - 1) = 2 → l[i].Kind = 3)) := fun i h => by
  cases i with
  | zero => simp [ld]
  | succ k => simp only [ld, Nat.add_sub_cancel, decide_eq_decide]; constructor <;> (rintro ⟨a, b⟩; exact ⟨a, by omega⟩)
 have snd : Snd l ↔ (∀ i (h : i < l.length), rgt l[i] = true ∧ ld i = decide (l[i].Kind = 3)) ∧ ld l.length = false := by
  constructor
  ·intro hs
   refine ⟨fun i h => (key i h).2 ⟨(hs i h).1, (hs i h).2.2, fun h0 h2 => ?_⟩, ?_⟩
   ·have := (hs (i - 1) (by omega)).2.1 (by rw [← kd_at]; exact h2)
    rw [show i - 1 + 1 = i by omega, kd_at h] at this
    exact this
   ·cases hn : l.length with
    | zero => rfl
    | succ k =>
     simp only [ld, decide_eq_false_iff_not]
     intro h2
     have := (hs k (by omega)).2.1 (by rw [← kd_at]; exact h2)
     rw [kd_out (by omega)] at this
     cases this
  ·rintro ⟨h1, h2⟩ i h
   have hk := (key i h).1 (h1 i h)
   refine ⟨hk.1, fun h3 => ?_, hk.2.1⟩
   by_cases hn : i + 1 < l.length
   ·have := ((key (i + 1) hn).1 (h1 (i + 1) hn)).2.2 (by omega) (by rw [Nat.add_sub_cancel, kd_at h]; exact h3)
    rw [kd_at hn]; exact this
   ·exfalso
    have e : l.length = i + 1 := by omega
    rw [e] at h2
    simp only [ld, decide_eq_false_iff_not] at h2
    rw [kd_at h] at h2
    exact h2 h3
 obtain ⟨t, h3, h4⟩ := iter_inv (τ := Bool ⊕ Bool) (fun s : Bool × Int => ∃ i : Nat, s = (ld i, (i : Int)) ∧ i ≤ l.length ∧ ∀ j (h : j < l.length), j < i → rgt l[j] = true ∧ ld j = decide (l[j].Kind = 3)) (fun s => l.length - s.2.toNat)
  (fun t => match t with | .inl b => b = false ∧ ¬ Snd l | .inr b => (b = false ↔ Snd l))
  (step := fun s_9 =>
   if (decide (s_9.2 < (l.length : Int))) = true then
   (idx l s_9.2).bind fun x_12 =>
   (f_cell_Right x_12).bind fun x_18 =>
   (orE (!x_18) (some (!(s_9.1 == (x_12.Kind == 3))))).bind fun d_20 =>
   if d_20 = true then
   some (.inr (.inl false))
   else
   some (.inl (x_12.Kind == 2, (w64 (s_9.2 + 1))))
   else
   some (.inr (.inr (s_9.1))))
  (by
   rintro s ⟨i, rfl, hi, hI⟩
   rcases Nat.lt_or_ge i l.length with hlt | hge
   ·have e3 : w64 ((i : Int) + 1) = ((i + 1 : Nat) : Int) := by rw [w64_in (by omega)]; simp
    simp only [Int.ofNat_lt, hlt, decide_true, if_true, idx_at hlt, bsm, cell_right, orE_some, e3]
    by_cases hk : rgt l[i] = true ∧ ld i = decide (l[i].Kind = 3)
    ·refine .inl ⟨_, ?_, ⟨i + 1, rfl, hlt, fun j h hj => ?_⟩, ?_⟩
     ·rw [if_neg]
      ·simp only [ld, kd_at hlt]; rfl
      ·rw [hk.1, hk.2]; simp; rfl
     ·by_cases hji : j = i
      ·subst hji; exact hk
      ·exact hI j h (by omega)
     ·simp; omega
    ·refine .inr ⟨.inl false, ?_, rfl, fun hs => hk ((snd.1 hs).1 i hlt)⟩
     rw [if_pos]
     cases h1 : rgt l[i] with
     | false => simp
     | true =>
      simp only [h1, true_and] at hk
      simp only [Bool.not_true, Bool.false_or, Bool.not_eq_true', beq_eq_false_iff_ne, ne_eq]
      exact hk
   ·obtain rfl : i = l.length := by omega
    refine .inr ⟨.inr (ld l.length), by simp, ?_⟩
    simp only
    rw [snd]
    exact ⟨fun h => ⟨fun j hj => hI j hj hj, h⟩, fun h => h.2⟩) (((l.length : Int) - 0).toNat + 1) (false, 0) ⟨0, rfl, Nat.zero_le _, fun j _ h => by omega⟩ (by simp)
 rw [h3]
 simp only [bsm]
 cases t with
 | inl b => exact ⟨b, rfl, by simp only at h4; rw [h4.1]; simp [h4.2]⟩
 | inr b => exact ⟨!b, rfl, by simp only at h4; rw [← h4]; cases b <;> simp⟩
theorem same_text (a : List Int) (ha : a.length ≤ 9223372036854775807) (b : List Int) : ∃ t, f_linotyperef01_Same a b = some t ∧ (t = true ↔ a = b) := by
 unfold f_linotyperef01_Same
 by_cases hl : a.length = b.length
 ·rw [if_neg (by simp [hl])]
  obtain ⟨t, h3, h4⟩ := iter_count (τ := Bool ⊕ Unit) (n := a.length) (by omega) (fun t => match t with | .inl b' => b' = false ∧ a ≠ b | .inr _ => a = b) (fun i => ∀ j, j < i → a[j]? = b[j]?) (fun j h => by omega)
   (step := fun s_13 =>
    if (decide (s_13 < (a.length : Int))) = true then
    (idx a s_13).bind fun x_21 =>
    (idx b s_13).bind fun x_25 =>
    if (x_21 != x_25) = true then
    some (.inr (.inl false))
    else
    some (.inl ((w64 (s_13 + 1))))
    else
    some (.inr (.inr ())))
   (fun i hi hI => by
    have e3 : w64 ((i : Int) + 1) = ((i + 1 : Nat) : Int) := by rw [w64_in (by omega)]; simp
    simp only [Int.ofNat_lt, hi, decide_true, if_true, idx_at hi, idx_at (show i < b.length by omega), bsm, e3]
    by_cases hk : a[i] = b[i]
    ·refine .inl ⟨by rw [if_neg (by simp [hk])], fun j hj => ?_⟩
     by_cases hji : j = i
     ·subst hji; rw [List.getElem?_eq_getElem hi, List.getElem?_eq_getElem (show j < b.length by omega), hk]
     ·exact hI j (by omega)
    ·exact .inr ⟨.inl false, by rw [if_pos (by simpa using hk)], rfl, fun e => hk (by subst e; rfl)⟩)
   (fun hI => ⟨.inr (), by simp, by
    apply List.ext_getElem?
    intro j
    rcases Nat.lt_or_ge j a.length with h | h
    ·exact hI j h
    ·rw [List.getElem?_eq_none h, List.getElem?_eq_none (by omega)]⟩)
  rw [h3]
  simp only [bsm]
  cases t with
  | inl b' => exact ⟨b', rfl, by simp only at h4; rw [h4.1]; simp [h4.2]⟩
  | inr u => exact ⟨true, rfl, by simpa using h4⟩
 ·rw [if_pos (by simp; omega)]
  exact ⟨false, rfl, by simp; intro e; subst e; exact hl rfl⟩
def Sht (l : List G_api_Cell) : Prop := ∀ i (h : i < l.length), l[i].Text.length ≤ 1000000
theorem Snd.sht {l : List G_api_Cell} (h : Snd l) : Sht l := fun i hi => by
 have := (h i hi).1
 unfold rgt at this
 split at this
 ·have e : l[i].Text = [] := by simpa using this
  rw [e]; simp
 ·simp at this; omega
theorem same_cells (a : List G_api_Cell) (ha : a.length ≤ 9223372036854775807) (hs : Sht a) (b : List G_api_Cell) : ∃ t, f_linotyperef23_Same a b = some t ∧ (t = true ↔ a = b) := by
 unfold f_linotyperef23_Same
 by_cases hl : a.length = b.length
 ·rw [if_neg (by simp [hl])]
  obtain ⟨t, h3, h4⟩ := iter_count (τ := Bool ⊕ Unit) (n := a.length) (by omega) (fun t => match t with | .inl b' => b' = false ∧ a ≠ b | .inr _ => a = b) (fun i => ∀ j, j < i → a[j]? = b[j]?) (fun j h => by omega)
   (step := fun s_13 =>
    if (decide (s_13 < (a.length : Int))) = true then
    (idx a s_13).bind fun x_21 =>
    (idx b s_13).bind fun x_26 =>
    (orE (x_21.Kind != x_26.Kind) ((idx a s_13).bind fun x_34 =>
    (idx b s_13).bind fun x_39 =>
    (f_linotyperef01_Same x_34.Text x_39.Text).bind fun x_42 =>
    some (!x_42))).bind fun d_30 =>
    if d_30 = true then
    some (.inr (.inl false))
    else
    some (.inl ((w64 (s_13 + 1))))
    else
    some (.inr (.inr ())))
   (fun i hi hI => by
    have e3 : w64 ((i : Int) + 1) = ((i + 1 : Nat) : Int) := by rw [w64_in (by omega)]; simp
    obtain ⟨t, ht, ht2⟩ := same_text a[i].Text (by have := hs i hi; omega) b[i].Text
    simp only [Int.ofNat_lt, hi, decide_true, if_true, idx_at hi, idx_at (show i < b.length by omega), bsm, e3, ht, orE_some]
    by_cases hk : a[i] = b[i]
    ·refine .inl ⟨by rw [if_neg (by rw [ht2.2 (by rw [hk])]; simp [hk])], fun j hj => ?_⟩
     by_cases hji : j = i
     ·subst hji; rw [List.getElem?_eq_getElem hi, List.getElem?_eq_getElem (show j < b.length by omega), hk]
     ·exact hI j (by omega)
    ·refine .inr ⟨.inl false, ?_, rfl, fun e => hk (by subst e; rfl)⟩
     rw [if_pos]
     by_cases hkk : a[i].Kind = b[i].Kind
     ·have : t = false := by
       cases t with
       | false => rfl
       | true => exact absurd (cell_ext hkk (ht2.1 rfl)) hk
      simp [this]
     ·simp [hkk])
   (fun hI => ⟨.inr (), by simp, by
    apply List.ext_getElem?
    intro j
    rcases Nat.lt_or_ge j a.length with h | h
    ·exact hI j h
    ·rw [List.getElem?_eq_none h, List.getElem?_eq_none (by omega)]⟩)
  rw [h3]
  simp only [bsm]
  cases t with
  | inl b' => exact ⟨b', rfl, by simp only at h4; rw [h4.1]; simp [h4.2]⟩
  | inr u => exact ⟨true, rfl, by simpa using h4⟩
 ·rw [if_pos (by simp; omega)]
  exact ⟨false, rfl, by simp; intro e; subst e; exact hl rfl⟩
theorem same_self {a : List G_api_Cell} (ha : a.length ≤ 9223372036854775807) (hs : Sht a) : f_linotyperef23_Same a a = some true := by
 obtain ⟨t, h1, h2⟩ := same_cells a ha hs a
 rw [h1, h2.2 rfl]
def fixv (r : Int) : Int := if vld r = true then r else 65533
def fx (t : List Int) : List Int := (t.take 16).map fixv
def strip (wide : Int) (t : List Int) : List G_api_Cell :=
 if t = [] then (if wide > 1 then [bl, bl] else [bl]) else if wide > 1 then [⟨2, t⟩, ⟨3, []⟩] else [⟨1, t⟩]
theorem vld_fixv (r : Int) : vld (fixv r) = true := by
 unfold fixv
 split
 ·assumption
 ·rfl
theorem fx_vld (t : List Int) : ∀ x ∈ fx t, vld x = true := fun x hx => by
 obtain ⟨y, _, rfl⟩ := List.mem_map.1 hx
 exact vld_fixv y
theorem fx_len (t : List Int) : (fx t).length ≤ 16 := by simp [fx]; omega
theorem fx_len' (t : List Int) : (fx t).length = min 16 t.length := by simp [fx]
theorem rgt_of {k : Int} (hk : k = 1 ∨ k = 2) {t : List Int} (h1 : 1 ≤ t.length) (h2 : t.length ≤ 16) (hv : ∀ x ∈ t, vld x = true) : rgt ⟨k, t⟩ = true := by
 unfold rgt
 rw [if_neg (by simp; omega)]
 simp only [Bool.and_eq_true, Bool.or_eq_true, decide_eq_true_eq, List.all_eq_true]
 exact ⟨⟨⟨hk, h1⟩, h2⟩, hv⟩
theorem snd_strip (wide : Int) {t : List Int} (hv : ∀ x ∈ t, vld x = true) (h2 : t.length ≤ 16) : Snd (strip wide t) := by
 unfold strip
 have hb : rgt bl = true := rfl
 have h3 : rgt ⟨3, []⟩ = true := rfl
 by_cases ht : t = []
 ·rw [if_pos ht]
  split
  ·intro i hi
   match i, hi with
   | 0, _ => exact ⟨hb, fun h => by simp [bl] at h, fun h => by simp [bl] at h⟩
   | 1, _ => exact ⟨hb, fun h => by simp [bl] at h, fun h => by simp [bl] at h⟩
  ·intro i hi
   match i, hi with
   | 0, _ => exact ⟨hb, fun h => by simp [bl] at h, fun h => by simp [bl] at h⟩
 ·rw [if_neg ht]
  have h1 : 1 ≤ t.length := by
   rcases Nat.eq_zero_or_pos t.length with h | h
   ·exact absurd (List.eq_nil_of_length_eq_zero h) ht
   ·exact h
  split
  ·intro i hi
   match i, hi with
   | 0, _ => exact ⟨rgt_of (.inr rfl) h1 h2 hv, fun _ => rfl, fun h => by simp at h⟩
   | 1, _ => exact ⟨h3, fun h => by simp at h, fun _ => ⟨by omega, rfl⟩⟩
  ·intro i hi
   match i, hi with
   | 0, _ => exact ⟨rgt_of (.inl rfl) h1 h2 hv, fun h => by simp at h, fun h => by simp at h⟩
theorem ref_of (wide : Int) (t : List Int) (ht : t.length ≤ 9223372036854775807) : f_linotyperef23_Of wide t = some (strip wide (fx t)) := by
 unfold f_linotyperef23_Of
 rw [iter_eq (s := (([] : List Int), (0 : Int))) (t := fx t) (fun st : List Int × Int => ∃ i : Nat, st = ((fx t).take i, (i : Int)) ∧ i ≤ (fx t).length) (fun st => (fx t).length - st.2.toNat) ?_ ⟨0, rfl, Nat.zero_le _⟩ (by simp [fx]; omega)]
 ·simp only [bsm, andE_some]
  unfold strip
  by_cases h0 : fx t = []
  ·rw [if_pos h0, h0]
   by_cases hw : wide > 1
   ·simp [hw, bl]
   ·simp [hw, bl]
  ·have h1 : (((fx t).length : Int) == 0) = false := by
    rw [beq_eq_false_iff_ne]
    intro e
    exact h0 (List.eq_nil_of_length_eq_zero (by omega))
   rw [if_neg h0]
   simp only [h1, Bool.false_and, Bool.false_eq_true, if_false]
   by_cases hw : wide > 1
   ·simp [hw]
   ·simp [hw]
 ·rintro st ⟨i, rfl, hi⟩
  have hl := fx_len' t
  rcases Nat.lt_or_ge i (fx t).length with hlt | hge
  ·refine .inl ⟨_, ?_, ⟨i + 1, rfl, hlt⟩, by simp; omega⟩
   have e3 : w64 ((i : Int) + 1) = ((i + 1 : Nat) : Int) := by rw [w64_in (by omega)]; simp
   have hit : i < t.length := by omega
   have d1 : (decide ((i : Int) < (t.length : Int)) && decide ((i : Int) < 16)) = true := by simp; omega
   have hx : (fx t)[i] = fixv t[i] := by simp [fx]
   simp only [andE_some, bsm, d1, if_true, idx_at hit, ref_valid, e3]
   have happ : ∀ x, x = fixv t[i] → app ((fx t).take i) [x] = some ((fx t).take (i + 1)) := fun x hxx => by
    rw [app_eq (by rw [List.length_take]; simp; omega), List.take_succ_eq_append_getElem hlt, hx, hxx]
   cases hv : vld t[i] with
   | true =>
    simp only [if_true]
    rw [happ _ (by simp [fixv, hv])]
    rfl
   | false =>
    simp only [Bool.false_eq_true, if_false]
    rw [happ _ (by simp [fixv, hv])]
    rfl
  ·obtain rfl : i = (fx t).length := by omega
   have d1 : (decide (((fx t).length : Int) < (t.length : Int)) && decide (((fx t).length : Int) < 16)) = false := by simp; omega
   exact .inr (by simp only [andE_some, bsm, d1, Bool.false_eq_true, if_false]; simp)
end Go.Proofs.YtfhhpdggmefcoaaGreatDoor
namespace Go.Proofs.YtfhhpdggmefcoaaGreatDoor
open Go Go.Lt
def Sto.sr (s : Sto) (k : Nat) (x : G_row_Row) : Sto := { s with row_Row := s.row_Row.set k x }
theorem get_lt {α : Type} {l : List α} {k : Nat} {x : α} (h : l[k]? = some x) : k < l.length := (List.getElem?_eq_some_iff.1 h).1
theorem set_row {s : Sto} {k : Nat} {x : G_row_Row} (h : k < s.row_Row.length) : s.set_row_Row k x = some (s.sr k x) := by
 unfold Sto.set_row_Row
 rw [if_pos h]
 rfl
theorem sr_len (s : Sto) (k : Nat) (x : G_row_Row) : (s.sr k x).row_Row.length = s.row_Row.length := by simp [Sto.sr]
theorem sr_get {s : Sto} {k : Nat} {x : G_row_Row} (h : k < s.row_Row.length) : (s.sr k x).row_Row[k]? = some x := by simp [Sto.sr, h]
theorem sr_ne {s : Sto} {k j : Nat} {x : G_row_Row} (h : k ≠ j) : (s.sr k x).row_Row[j]? = s.row_Row[j]? := by simp [Sto.sr, h]
theorem sr_sr (s : Sto) (k : Nat) (x y : G_row_Row) : (s.sr k x).sr k y = s.sr k y := by simp [Sto.sr]
theorem sr_id {s : Sto} {k : Nat} {x : G_row_Row} (h : s.row_Row[k]? = some x) : s.sr k x = s := by
 have : s.row_Row.set k x = s.row_Row := by
  apply List.ext_getElem?
  intro j
  by_cases hj : k = j
  ·subst hj; rw [List.getElem?_set_self (get_lt h), h]
  ·rw [List.getElem?_set_ne hj]
 simp [Sto.sr, this]
variable {s : Sto} {k : Nat} {l : List G_api_Cell} {w : Bool}
theorem row_wide (h : s.row_Row[k]? = some ⟨l, w⟩) : f_row_Row_Wide s (some k) = some (l.length : Int) := by simp [f_row_Row_Wide, h]
theorem row_own {c : G_api_Cell} (h : c.Text.length ≤ 1000000) : f_row_own c = some c := by
 simp only [f_row_own, f_slices_Clone, app_eq (show ([] : List Int).length + c.Text.length ≤ 1099511627776 by simp; omega), bsm, List.nil_append]
theorem row_wrap (h : s.row_Row[k]? = some ⟨l, w⟩) : f_row_Row_Wrap s (some k) = some w := by simp [f_row_Row_Wrap, h, andE]
theorem row_goon (h : s.row_Row[k]? = some ⟨l, w⟩) (on : Bool) : f_row_Row_GoOn s (some k) on = some (s.sr k ⟨l, on⟩) := by
 simp [f_row_Row_GoOn, h, set_row (get_lt h)]
theorem row_cells (h : s.row_Row[k]? = some ⟨l, w⟩) (hl : l.length ≤ 1000000) (hs : Sht l) : f_row_Row_Cells s (some k) = some l := by
 unfold f_row_Row_Cells
 rw [row_wide h]
 simp only [bsm]
 rw [iter_eq (s := (([] : List G_api_Cell), (0 : Int))) (t := l) (fun st : List G_api_Cell × Int => ∃ i : Nat, st = (l.take i, (i : Int)) ∧ i ≤ l.length) (fun st => l.length - st.2.toNat) ?_ ⟨0, rfl, Nat.zero_le _⟩ (by simp)]
 ·rfl
 ·rintro st ⟨i, rfl, hi⟩
  rcases Nat.lt_or_ge i l.length with hlt | hge
  ·refine .inl ⟨(l.take (i + 1), ((i + 1 : Nat) : Int)), ?_, ⟨i + 1, rfl, hlt⟩, by simp; omega⟩
   have e3 : w64 ((i : Int) + 1) = ((i + 1 : Nat) : Int) := by rw [w64_in (by omega)]; simp
   simp only [Int.ofNat_lt, hlt, decide_true, if_true, bsm, h, idx_at hlt, row_own (hs i hlt), e3]
   rw [app_eq (by rw [List.length_take]; simp; omega), List.take_succ_eq_append_getElem hlt]
   rfl
  ·obtain rfl : i = l.length := by omega
   exact .inr (by simp)
theorem row_cell (h : s.row_Row[k]? = some ⟨l, w⟩) {i : Nat} (hi : i < l.length) (hs : Sht l) : f_row_Row_Cell s (some k) i = some (l[i], true) := by
 unfold f_row_Row_Cell
 rw [row_wide h]
 simp only [bsm, orE_some]
 rw [if_neg (by simp; omega)]
 simp only [h, bsm, idx_at hi, row_own (hs i hi)]
theorem row_kind (h : s.row_Row[k]? = some ⟨l, w⟩) (i : Nat) : f_row_Row_kind s (some k) i = some (kd l i) := by
 unfold f_row_Row_kind
 rw [row_wide h]
 simp only [bsm, orE_some]
 by_cases hi : i < l.length
 ·rw [if_neg (by simp; omega)]
  simp only [h, bsm, idx_at hi, kd_at hi]
 ·rw [if_pos (by simp; omega), kd_out (by omega)]
theorem row_put (h : s.row_Row[k]? = some ⟨l, w⟩) {i : Nat} (hi : i < l.length) (hl : l.length ≤ 1000000) {c : G_api_Cell} (hc : c.Text.length ≤ 1000000) :
  f_row_Row_put s (some k) i c = some (s.sr k ⟨l.set i c, w && !decide (i + 1 = l.length)⟩) := by
 unfold f_row_Row_put
 have e : w64 (((l.set i c).length : Int) - 1) = (l.length : Int) - 1 := by rw [List.length_set, w64_in (by omega)]
 simp only [h, bsm, row_own hc, idx_at hi, sets_nat hi, set_row (get_lt h), e]
 by_cases hn : i + 1 = l.length
 ·rw [if_pos (by simp; omega), set_row (by rw [sr_len]; exact get_lt h), sr_sr]
  simp [hn]
 ·rw [if_neg (by simp; omega)]
  simp [hn]
def sd (n : Int) : Nat := (max 1 (min n 1024)).toNat
theorem sd_in (n : Int) : 1 ≤ sd n ∧ sd n ≤ 1024 := by unfold sd; omega
theorem sd_id {n : Nat} (h : 1 ≤ n) (h2 : n ≤ 1024) : sd n = n := by unfold sd; omega
theorem blanks (n : Int) : f_cell_Blanks n = some (List.replicate (max 0 (min n 1024)).toNat bl) := by
 unfold f_cell_Blanks
 simp only [imax_eq, imin_eq]
 rw [rep_eq _ (by omega)]
 rfl
theorem row_new (n : Int) : f_row_New s n = some (s.add_row_Row ⟨List.replicate (sd n) bl, false⟩, some s.row_Row.length) := by
 unfold f_row_New
 rw [blanks]
 simp only [bsm, imax_eq]
 rw [show (max 0 (min (max 1 n) 1024)).toNat = sd n by unfold sd; omega]
theorem snd_bl (n : Nat) : Snd (List.replicate n bl) := fun i h => by
 rw [List.getElem_replicate]
 exact ⟨rfl, fun h => by simp [bl] at h, fun h => by simp [bl] at h⟩
def tch (l : List G_api_Cell) (a n j : Nat) : Bool := (decide (a ≤ j) && decide (j < a + n)) || (decide (kd l j = 2) && decide (a ≤ j + 1) && decide (j + 1 < a + n)) || (decide (kd l j = 3) && decide (a + 1 ≤ j) && decide (j < a + n + 1))
def pc (l : List G_api_Cell) (a : Nat) (p : List G_api_Cell) (j : Nat) : G_api_Cell :=
 if a ≤ j ∧ j < a + p.length then p.getD (j - a) bl else if tch l a p.length j = true then bl else l.getD j bl
def pl (l : List G_api_Cell) (a : Nat) (p : List G_api_Cell) : List G_api_Cell := (List.range l.length).map (pc l a p)
def pw (l : List G_api_Cell) (w : Bool) (a n : Nat) : Bool := w && !(decide (0 < l.length) && tch l a n (l.length - 1))
theorem pl_len (l : List G_api_Cell) (a : Nat) (p : List G_api_Cell) : (pl l a p).length = l.length := by simp [pl]
theorem pl_get {a : Nat} {p : List G_api_Cell} {j : Nat} (h : j < l.length) : (pl l a p)[j]? = some (pc l a p j) := by simp [pl, h]
theorem pl_at {a : Nat} {p : List G_api_Cell} {j : Nat} (h : j < (pl l a p).length) : (pl l a p)[j] = pc l a p j := by simp [pl]
theorem kd_pl {a : Nat} {p : List G_api_Cell} {j : Nat} (h : j < l.length) : kd (pl l a p) j = (pc l a p j).Kind := by simp [kd, pl_get h]
theorem Snd.two (h : Snd l) {j : Nat} (hj : kd l j = 2) : kd l (j + 1) = 3 := by
 have hlt : j < l.length := by
  rcases Nat.lt_or_ge j l.length with h | h
  ·exact h
  ·rw [kd_out h] at hj; cases hj
 exact (h j hlt).2.1 (by rw [← kd_at hlt]; exact hj)
theorem Snd.three (h : Snd l) {j : Nat} (hj : kd l j = 3) : 0 < j ∧ kd l (j - 1) = 2 := by
 have hlt : j < l.length := by
  rcases Nat.lt_or_ge j l.length with h | h
  ·exact h
  ·rw [kd_out h] at hj; cases hj
 exact (h j hlt).2.2 (by rw [← kd_at hlt]; exact hj)
theorem kd_lt {j : Nat} (h : kd l j ≠ 0) : j < l.length := by
 rcases Nat.lt_or_ge j l.length with h' | h'
 ·exact h'
 ·exact absurd (kd_out h') h
theorem Snd.rg (h : Snd l) {j : Nat} (hj : j < l.length) : rgt (l.getD j bl) = true := by
 rw [List.getD_eq_getElem?_getD, List.getElem?_eq_getElem hj]
 exact (h j hj).1
theorem kd_getD (l : List G_api_Cell) (j : Nat) : (l.getD j bl).Kind = kd l j := by
 rw [List.getD_eq_getElem?_getD, kd]
 cases l[j]? <;> rfl
theorem Snd.paint {a : Nat} {p : List G_api_Cell} (h : Snd l) (hp : Snd p) (ha : a + p.length ≤ l.length) : Snd (pl l a p) := fun j hj => by
 rw [pl_len] at hj
 rw [pl_at]
 have kpc : ∀ i, i < l.length → (pc l a p i).Kind = if a ≤ i ∧ i < a + p.length then kd p (i - a) else if tch l a p.length i = true then 0 else kd l i := fun i hi => by
  unfold pc
  split
  ·exact kd_getD _ _
  ·split
   ·rfl
   ·exact kd_getD _ _
 have kall : ∀ i, kd (pl l a p) i = if i < l.length then (if a ≤ i ∧ i < a + p.length then kd p (i - a) else if tch l a p.length i = true then 0 else kd l i) else 0 := fun i => by
  by_cases hi : i < l.length
  ·rw [if_pos hi, kd_pl hi, kpc i hi]
  ·rw [if_neg hi, kd_out (by rw [pl_len]; omega)]
 refine ⟨?_, fun h2 => ?_, fun h3 => ?_⟩
 ·unfold pc
  split
  ·exact hp.rg (by omega)
  ·split
   ·rfl
   ·exact h.rg hj
 ·rw [kpc j hj] at h2
  rw [kall]
  by_cases hin : a ≤ j ∧ j < a + p.length
  ·rw [if_pos hin] at h2
   have h4 := hp.two h2
   have h5 : j - a + 1 < p.length := kd_lt (by rw [h4]; decide)
   rw [if_pos (by omega), if_pos (by omega), show j + 1 - a = j - a + 1 by omega]; exact h4
  ·rw [if_neg hin] at h2
   split at h2
   ·cases h2
   ·rename_i ht
    have h4 := h.two h2
    have h5 : j + 1 < l.length := kd_lt (by rw [h4]; decide)
    simp only [tch, h2, decide_true, Bool.true_and, Bool.or_eq_true, Bool.and_eq_true, decide_eq_true_eq, not_or, not_and] at ht
    have h6 : ¬ (a ≤ j + 1 ∧ j + 1 < a + p.length) := by omega
    have h7 : ¬ tch l a p.length (j + 1) = true := by
     simp only [tch, h4, Bool.or_eq_true, Bool.and_eq_true, decide_eq_true_eq]
     omega
    rw [if_pos h5, if_neg h6, if_neg h7]; exact h4
 ·rw [kpc j hj] at h3
  by_cases hin : a ≤ j ∧ j < a + p.length
  ·rw [if_pos hin] at h3
   have h4 := hp.three h3
   refine ⟨by omega, ?_⟩
   rw [kall, if_pos (by omega), if_pos (by omega), show j - 1 - a = j - a - 1 by omega]; exact h4.2
  ·rw [if_neg hin] at h3
   split at h3
   ·cases h3
   ·rename_i ht
    have h4 := h.three h3
    refine ⟨h4.1, ?_⟩
    simp only [tch, h3, decide_true, Bool.true_and, Bool.or_eq_true, Bool.and_eq_true, decide_eq_true_eq, not_or, not_and] at ht
    have h6 : ¬ (a ≤ j - 1 ∧ j - 1 < a + p.length) := by omega
    have h7 : ¬ tch l a p.length (j - 1) = true := by
     simp only [tch, h4.2, Bool.or_eq_true, Bool.and_eq_true, decide_eq_true_eq]
     omega
    rw [kall, if_pos (by omega), if_neg h6, if_neg h7]; exact h4.2
theorem ref_paint (l : List G_api_Cell) (w : Bool) (a : Nat) (p : List G_api_Cell) (hl : l.length ≤ 1000000) (ha : a ≤ 1000000) (hp : p.length ≤ 1000000) : f_linotyperef24_Paint l w a p = some (pl l a p, pw l w a p.length) := by
 unfold f_linotyperef24_Paint
 rw [iter_eq (s := (w, ([] : List G_api_Cell), (0 : Int))) (t := (pw l w a p.length, pl l a p)) (fun st : Bool × List G_api_Cell × Int => ∃ i : Nat, st = (if i < l.length then w else pw l w a p.length, (pl l a p).take i, (i : Int)) ∧ i ≤ l.length) (fun st => l.length - st.2.2.toNat) ?_ ⟨0, ?_, Nat.zero_le _⟩ (by simp)]
 ·rfl
 ·rintro st ⟨i, rfl, hi⟩
  rcases Nat.lt_or_ge i l.length with hlt | hge
  ·refine .inl ⟨_, ?_, ⟨i + 1, rfl, hlt⟩, by simp; omega⟩
   have e3 : w64 ((i : Int) + 1) = ((i + 1 : Nat) : Int) := by rw [w64_in (by omega)]; simp
   have e4 : w64 ((a : Int) + (p.length : Int)) = ((a + p.length : Nat) : Int) := by rw [w64_in (by omega)]; simp
   have e5 : w64 ((i : Int) - (a : Int)) = (i : Int) - a := w64_in (by omega)
   have e6 : w64 ((i : Int) - 1) = (i : Int) - 1 := w64_in (by omega)
   have hd : decide ((i : Int) < (l.length : Int)) = true := by simp; exact hlt
   simp only [hd, if_true, if_pos hlt, idx_at hlt, bsm, andE_some, orE_some, e3, e4, e5, e6]
   have happ : ∀ x : G_api_Cell, x = pc l a p i → app ((pl l a p).take i) [x] = some ((pl l a p).take (i + 1)) := fun x hx => by
    subst hx
    rw [app_eq (by rw [List.length_take, pl_len]; simp; omega), List.take_succ_eq_append_getElem (show i < (pl l a p).length by rw [pl_len]; exact hlt), pl_at]
   by_cases hin : a ≤ i ∧ i < a + p.length
   ·have c1 : (decide ((i : Int) ≥ a) && decide ((i : Int) < ((a + p.length : Nat) : Int))) = true := by simp; omega
    obtain ⟨q, hq⟩ : ∃ q : Nat, q = i - a := ⟨_, rfl⟩
    have c2 : (i : Int) - a = (q : Int) := by omega
    have hqp : q < p.length := by omega
    simp only [c1, if_true, c2, idx_at hqp, bsm, Bool.not_true, andE_false, Bool.false_and, Bool.false_eq_true, if_false, Bool.true_or, Bool.and_true]
    rw [happ ⟨p[q].Kind, p[q].Text⟩ (by rw [pc, if_pos hin, ← hq, List.getD_eq_getElem?_getD, List.getElem?_eq_getElem hqp]; rfl)]
    by_cases hn : i + 1 = l.length
    ·have c3 : (((i + 1 : Nat) : Int) == (l.length : Int)) = true := by simp; omega
     have c4 : pw l w a p.length = false := by
      have : tch l a p.length (l.length - 1) = true := by simp [tch]; omega
      simp [pw, this]; omega
     simp only [c3, if_true, bsm, c4]
     rw [if_neg (by omega)]
    ·have c3 : (((i + 1 : Nat) : Int) == (l.length : Int)) = false := by simp; omega
     simp only [c3, Bool.false_eq_true, if_false, bsm]
     rw [if_pos (show i + 1 < l.length by omega)]
   ·have c1 : (decide ((i : Int) ≥ a) && decide ((i : Int) < ((a + p.length : Nat) : Int))) = false := by simp; omega
    have c5 : ((l[i].Kind == 2 && decide (((i + 1 : Nat) : Int) ≥ a) && decide (((i + 1 : Nat) : Int) < ((a + p.length : Nat) : Int))) || (l[i].Kind == 3 && decide ((i : Int) - 1 ≥ a) && decide ((i : Int) - 1 < ((a + p.length : Nat) : Int)))) = tch l a p.length i := by
     rw [Bool.eq_iff_iff]
     simp only [tch, kd_at hlt, Bool.or_eq_true, Bool.and_eq_true, beq_iff_eq, decide_eq_true_eq]
     omega
    simp only [c1, Bool.false_eq_true, if_false, bsm, Bool.not_false, andE_true, Bool.false_or, Bool.true_and]
    simp only [c5]
    cases ht : tch l a p.length i with
    | true =>
     simp only [if_true, bsm, Bool.and_true]
     rw [happ ⟨0, []⟩ (by rw [pc, if_neg hin, if_pos ht]; rfl)]
     by_cases hn : i + 1 = l.length
     ·have c3 : (((i + 1 : Nat) : Int) == (l.length : Int)) = true := by simp; omega
      have c4 : pw l w a p.length = false := by
       have e : l.length - 1 = i := by omega
       simp [pw, e, ht]; omega
      simp only [c3, if_true, bsm, c4]
      rw [if_neg (by omega)]
     ·have c3 : (((i + 1 : Nat) : Int) == (l.length : Int)) = false := by simp; omega
      simp only [c3, Bool.false_eq_true, if_false, bsm]
      rw [if_pos (show i + 1 < l.length by omega)]
    | false =>
     simp only [Bool.false_eq_true, if_false, bsm, Bool.and_false]
     rw [happ ⟨l[i].Kind, l[i].Text⟩ (by rw [pc, if_neg hin, if_neg (by simp [ht]), List.getD_eq_getElem?_getD, List.getElem?_eq_getElem hlt]; rfl)]
     by_cases hn : i + 1 = l.length
     ·have c4 : pw l w a p.length = w := by
       have e : l.length - 1 = i := by omega
       simp [pw, e, ht]
      simp only [bsm, c4, ite_self]
     ·simp only [bsm]
      rw [if_pos (show i + 1 < l.length by omega)]
  ·obtain rfl : i = l.length := by omega
   refine .inr ?_
   have e : (pl l a p).take l.length = pl l a p := List.take_of_length_le (by rw [pl_len]; exact Nat.le_refl _)
   simp [e]
 ·by_cases h0 : 0 < l.length
  ·simp [h0]
  ·simp [h0, pw]
end Go.Proofs.YtfhhpdggmefcoaaGreatDoor
namespace Go.Proofs.YtfhhpdggmefcoaaGreatDoor
open Go Go.Lt
variable {s : Sto} {k : Nat} {l p : List G_api_Cell} {w : Bool}
theorem kd_set_ne {i j : Nat} (h : i ≠ j) (c : G_api_Cell) : kd (l.set i c) j = kd l j := by simp [kd, List.getElem?_set_ne h]
theorem row_paint (h : s.row_Row[k]? = some ⟨l, w⟩) (hs : Snd l) (hl : l.length ≤ 1024) (hp : Snd p) {a : Nat} (hn : 1 ≤ p.length) (ha : a + p.length ≤ l.length) :
  f_row_Row_Paint s (some k) a p = some (s.sr k ⟨pl l a p, pw l w a p.length⟩, Er.nil) := by
 unfold f_row_Row_Paint
 have hk := get_lt h
 obtain ⟨b, hb1, hb2⟩ := cell_sound p (by omega)
 have hb : b = true := hb2.2 hp
 subst hb
 have e1 : w64 ((l.length : Int) - (a : Int)) = (l.length : Int) - a := w64_in (by omega)
 have e2 : w64 ((a : Int) + (p.length : Int)) = ((a + p.length : Nat) : Int) := by rw [w64_in (by omega)]; simp
 have o1 : decide ((a : Int) < 0) = false := by simp
 have o2 : decide ((a : Int) > (l.length : Int)) = false := by simp; omega
 have o3 : decide ((p.length : Int) > (l.length : Int) - (a : Int)) = false := by simp; omega
 have o4 : ((p.length : Int) == 0) = false := by rw [beq_eq_false_iff_ne]; omega
 simp only [Option.isNone_some, orE_false, o1, o2, o3, o4, h, e1, e2, hb1, bsm, Bool.false_eq_true, if_false, Bool.not_true, row_kind h a]
 obtain ⟨l1, hl1⟩ : ∃ l1, l1 = if kd l a = 3 then l.set (a - 1) bl else l := ⟨_, rfl⟩
 have hlen1 : l1.length = l.length := by rw [hl1]; split <;> simp
 have left : (if (kd l a == 3) = true then (f_row_Row_put s (some k) (w64 ((a : Int) - 1)) (⟨0, ([] : List Int)⟩ : G_api_Cell)).bind fun x_60 => (some (x_60) : Option (Sto)) else (some (s) : Option (Sto))) = some (s.sr k ⟨l1, w⟩) := by
  by_cases h3 : kd l a = 3
  ·have h4 := hs.three h3
   have h5 : a < l.length := kd_lt (by rw [h3]; decide)
   rw [if_pos (by simpa using h3), show w64 ((a : Int) - 1) = ((a - 1 : Nat) : Int) by rw [w64_in (by omega)]; omega, row_put h (by omega) (by omega) (by simp)]
   rw [hl1, if_pos h3]
   have : decide (a - 1 + 1 = l.length) = false := by simp; omega
   simp only [bsm, this, Bool.not_false, Bool.and_true]
   rfl
  ·rw [if_neg (by simpa using h3), hl1, if_neg h3, sr_id h]
 rw [left]
 simp only [bsm]
 obtain ⟨l2, hl2⟩ : ∃ l2, l2 = if kd l (a + p.length) = 3 then l1.set (a + p.length) bl else l1 := ⟨_, rfl⟩
 obtain ⟨w2, hw2⟩ : ∃ w2, w2 = (w && !(decide (kd l (a + p.length) = 3) && decide (a + p.length + 1 = l.length))) := ⟨_, rfl⟩
 have hlen2 : l2.length = l.length := by rw [hl2]; split <;> simp [hlen1]
 have hget1 : (s.sr k ⟨l1, w⟩).row_Row[k]? = some ⟨l1, w⟩ := sr_get hk
 have hkd1 : kd l1 (a + p.length) = kd l (a + p.length) := by
  rw [hl1]; split
  ·exact kd_set_ne (by omega) _
  ·rfl
 have right : ((f_row_Row_kind (s.sr k ⟨l1, w⟩) (some k) ((a + p.length : Nat) : Int)).bind fun x_71 =>
   if (x_71 == 3) = true then
   (f_row_Row_put (s.sr k ⟨l1, w⟩) (some k) ((a + p.length : Nat) : Int) (⟨0, ([] : List Int)⟩ : G_api_Cell)).bind fun x_77 =>
   (some (x_77) : Option (Sto))
   else
   (some (s.sr k ⟨l1, w⟩) : Option (Sto))) = some (s.sr k ⟨l2, w2⟩) := by
  rw [row_kind hget1, hkd1]
  simp only [bsm]
  by_cases h3 : kd l (a + p.length) = 3
  ·have h5 : a + p.length < l.length := kd_lt (by rw [h3]; decide)
   rw [if_pos (by simpa using h3), row_put hget1 (by omega) (by omega) (by simp)]
   simp only [bsm, sr_sr]
   rw [hl2, if_pos h3, hw2, hlen1]
   simp only [h3, decide_true, Bool.true_and]
   rfl
  ·rw [if_neg (by simpa using h3), hl2, if_neg h3, hw2]
   simp [h3]
 rw [right]
 simp only [bsm]
 rw [iter_eq (s := ((0 : Int), s.sr k ⟨l2, w2⟩)) (t := s.sr k ⟨l2.take a ++ p ++ l2.drop (a + p.length), w2 && !decide (a + p.length = l.length)⟩)
  (fun st : Int × Sto => ∃ i : Nat, st = ((i : Int), s.sr k ⟨l2.take a ++ p.take i ++ l2.drop (a + i), w2 && !(decide (0 < i) && decide (a + i = l.length))⟩) ∧ i ≤ p.length) (fun st => p.length - st.1.toNat) ?_ ⟨0, ?_, Nat.zero_le _⟩ (by simp)]
 ·simp only [bsm, Option.some.injEq, Prod.mk.injEq, and_true]
  congr 1
  congr 1
  ·
   apply List.ext_getElem?
   intro j
   rcases Nat.lt_or_ge j l.length with hj | hj
   ·rw [pl_get hj]
    have g1 : ∀ j, j < l.length → j ≠ a + p.length → l1[j]? = some (if kd l a = 3 ∧ j = a - 1 then bl else l.getD j bl) := fun j hj _ => by
     rw [hl1]
     split
     ·rename_i h3
      by_cases hja : j = a - 1
      ·subst hja
       rw [List.getElem?_set_self (by omega), if_pos ⟨h3, rfl⟩]
      ·rw [List.getElem?_set_ne (Ne.symm hja), if_neg (fun e => hja e.2), List.getElem?_eq_getElem hj, List.getD_eq_getElem?_getD, List.getElem?_eq_getElem hj]; rfl
     ·rename_i h3
      rw [if_neg (fun e => h3 e.1), List.getElem?_eq_getElem hj, List.getD_eq_getElem?_getD, List.getElem?_eq_getElem hj]; rfl
    have lw : (l2.take a).length = a := by rw [List.length_take]; omega
    rcases Nat.lt_or_ge j a with hja | hja
    ·rw [List.append_assoc, List.getElem?_append_left (by omega), List.getElem?_take, if_pos hja]
     have e : l2[j]? = l1[j]? := by
      rw [hl2]; split
      ·exact List.getElem?_set_ne (by omega)
      ·rfl
     have hp0 : ¬ (a ≤ j ∧ j < a + p.length) := by omega
     rw [e, g1 j hj (by omega), pc, if_neg hp0]
     congr 1
     by_cases hc : kd l a = 3 ∧ j = a - 1
     ·rw [if_pos hc, if_pos]
      have h4 := hs.three hc.1
      simp only [tch, Bool.or_eq_true, Bool.and_eq_true, decide_eq_true_eq]
      refine .inl (.inr ⟨⟨?_, ?_⟩, ?_⟩)
      ·rw [hc.2]; exact h4.2
      ·omega
      ·omega
     ·rw [if_neg hc, if_neg]
      simp only [tch, Bool.or_eq_true, Bool.and_eq_true, decide_eq_true_eq, not_or, not_and]
      refine ⟨⟨fun h => by omega, fun h2 => ?_⟩, fun h => by omega⟩
      have h3 := hs.two h2.1
      have : j + 1 = a := by omega
      rw [this] at h3
      exact absurd ⟨h3, by omega⟩ hc
    ·rcases Nat.lt_or_ge j (a + p.length) with hjn | hjn
     ·rw [List.append_assoc, List.getElem?_append_right (by omega), List.getElem?_append_left (by omega), lw, pc, if_pos ⟨hja, hjn⟩, List.getD_eq_getElem?_getD, List.getElem?_eq_getElem (by omega)]
      rfl
     ·rw [List.getElem?_append_right (by rw [List.length_append]; omega), List.getElem?_drop, List.length_append, lw, show a + p.length + (j - (a + p.length)) = j by omega]
      rw [pc, if_neg (by omega)]
      by_cases hc : kd l (a + p.length) = 3 ∧ j = a + p.length
      ·rw [hl2, if_pos hc.1, hc.2, List.getElem?_set_self (by omega), if_pos]
       simp only [tch, Bool.or_eq_true, Bool.and_eq_true, decide_eq_true_eq]
       exact .inr ⟨⟨hc.1, by omega⟩, by omega⟩
      ·have e : l2[j]? = some (l.getD j bl) := by
        have e2 : l1[j]? = some (l.getD j bl) := by
         rw [hl1]; split
         ·rw [List.getElem?_set_ne (by omega), List.getD_eq_getElem?_getD, List.getElem?_eq_getElem hj]; rfl
         ·rw [List.getD_eq_getElem?_getD, List.getElem?_eq_getElem hj]; rfl
        rw [hl2]; split
        ·rename_i h3
         rw [List.getElem?_set_ne (fun e => hc ⟨h3, e.symm⟩), e2]
        ·exact e2
       rw [e, if_neg]
       simp only [tch, Bool.or_eq_true, Bool.and_eq_true, decide_eq_true_eq, not_or, not_and]
       refine ⟨⟨fun h => by omega, fun h => by omega⟩, fun h2 => ?_⟩
       intro h4
       have : j = a + p.length := by omega
       exact hc ⟨by rw [← this]; exact h2.1, this⟩
   ·rw [List.getElem?_eq_none (l := pl l a p) (by rw [pl_len]; exact hj), List.getElem?_eq_none (by simp only [List.length_append, List.length_take, List.length_drop]; omega)]
  ·
   rw [hw2, pw, Bool.and_assoc]
   congr 1
   rw [← Bool.not_or]
   congr 1
   have h2 : kd l (l.length - 1) ≠ 2 := fun h2 => by
    have := hs.two h2
    rw [show l.length - 1 + 1 = l.length by omega, kd_out (Nat.le_refl _)] at this
    cases this
   rw [Bool.eq_iff_iff]
   simp only [tch, Bool.or_eq_true, Bool.and_eq_true, decide_eq_true_eq]
   constructor
   ·rintro (⟨h3, h4⟩ | h4)
    ·refine ⟨by omega, .inr ⟨⟨?_, by omega⟩, by omega⟩⟩
     rw [show l.length - 1 = a + p.length by omega]; exact h3
    ·exact ⟨by omega, .inl (.inl ⟨by omega, by omega⟩)⟩
   ·rintro ⟨h0, (⟨h3, h4⟩ | ⟨⟨h3, _⟩, _⟩) | ⟨⟨h3, h4⟩, h5⟩⟩
    ·exact .inr (by omega)
    ·exact absurd h3 h2
    ·by_cases hx : a + p.length = l.length
     ·exact .inr hx
     ·have : l.length - 1 = a + p.length := by omega
      exact .inl ⟨by rw [← this]; exact h3, by omega⟩
 ·rintro st ⟨i, rfl, hi⟩
  rcases Nat.lt_or_ge i p.length with hlt | hge
  ·refine .inl ⟨_, ?_, ⟨i + 1, rfl, hlt⟩, by simp; omega⟩
   have e3 : w64 ((i : Int) + 1) = ((i + 1 : Nat) : Int) := by rw [w64_in (by omega)]; simp
   have e4 : w64 ((a : Int) + (i : Int)) = ((a + i : Nat) : Int) := by rw [w64_in (by omega)]; simp
   have hd : decide ((i : Int) < (p.length : Int)) = true := by simp; exact hlt
   have hli : (l2.take a ++ p.take i ++ l2.drop (a + i)).length = l.length := by
    simp only [List.length_append, List.length_take, List.length_drop]; omega
   simp only [hd, if_true, idx_at hlt, bsm, e3, e4]
   rw [row_put (sr_get hk) (by rw [hli]; omega) (by rw [hli]; omega) (hp.sht i hlt)]
   simp only [bsm, sr_sr, hli]
   have hset : (l2.take a ++ p.take i ++ l2.drop (a + i)).set (a + i) p[i] = l2.take a ++ p.take (i + 1) ++ l2.drop (a + (i + 1)) := by
    have hx : (l2.take a ++ p.take i).length = a + i := by simp only [List.length_append, List.length_take]; omega
    rw [List.set_append_right _ _ (by omega), hx, Nat.sub_self, List.drop_eq_getElem_cons (show a + i < l2.length by omega), List.set_cons_zero, List.take_succ_eq_append_getElem hlt]
    simp only [List.append_assoc, List.cons_append, List.nil_append, Nat.add_assoc]
   rw [hset]
   have hwe : ((w2 && !(decide (0 < i) && decide (a + i = l.length))) && !decide (a + i + 1 = l.length)) = (w2 && !(decide (0 < i + 1) && decide (a + (i + 1) = l.length))) := by
    have : decide (a + i = l.length) = false := by simp; omega
    rw [this]
    simp [Nat.add_assoc]
   rw [hwe]
  ·obtain rfl : i = p.length := by omega
   refine .inr ?_
   have : decide (0 < p.length) = true := by simp; omega
   simp [this]
 ·simp
def cl (n : Int) (m : Nat) : Nat := (max 0 (min n m)).toNat
theorem cl_le (n : Int) (m : Nat) : cl n m ≤ m := by unfold cl; omega
end Go.Proofs.YtfhhpdggmefcoaaGreatDoor
namespace Go.Proofs.YtfhhpdggmefcoaaGreatDoor
open Go Go.Lt
variable {s : Sto} {g k W : Nat} {ks : List Nat} {l p : List G_api_Cell} {w : Bool}
def Sto.sg (s : Sto) (g : Nat) (x : G_grid_Grid) : Sto := { s with grid_Grid := s.grid_Grid.set g x }
theorem set_grid {x : G_grid_Grid} (h : g < s.grid_Grid.length) : s.set_grid_Grid g x = some (s.sg g x) := by
 simp only [Sto.set_grid_Grid, h, if_true]
 rfl
theorem sg_get {x : G_grid_Grid} (h : g < s.grid_Grid.length) : (s.sg g x).grid_Grid[g]? = some x := by simp [Sto.sg, h]
theorem sg_sg (s : Sto) (g : Nat) (x y : G_grid_Grid) : (s.sg g x).sg g y = s.sg g y := by simp [Sto.sg]
theorem sg_id {x : G_grid_Grid} (h : s.grid_Grid[g]? = some x) : s.sg g x = s := by
 obtain ⟨h1, h2⟩ := List.getElem?_eq_some_iff.1 h
 unfold Sto.sg
 rw [← h2, List.set_getElem_self]
def ln (s : Sto) (k : Nat) : G_api_Line := match s.row_Row[k]? with | some r => ⟨r.cells, r.wrap⟩ | none => ⟨[], false⟩
theorem ln_eq {r : G_row_Row} (h : s.row_Row[k]? = some r) : ln s k = ⟨r.cells, r.wrap⟩ := by simp [ln, h]
def Rw (s : Sto) (W k : Nat) : Prop := ∃ r, s.row_Row[k]? = some r ∧ Snd r.cells ∧ r.cells.length = W
structure Gw (s : Sto) (g : Nat) (ks : List Nat) (W : Nat) : Prop where
 g : s.grid_Grid[g]? = some ⟨ks.map some⟩
 r : ∀ k ∈ ks, Rw s W k
 h1 : 1 ≤ ks.length
 h2 : ks.length ≤ 1024
 w1 : 1 ≤ W
 w2 : W ≤ 1024
theorem Gw.at (h : Gw s g ks W) {i : Nat} (hi : i < ks.length) : Rw s W ks[i] := h.r _ (List.getElem_mem hi)
theorem grid_high (h : Gw s g ks W) : f_grid_Grid_High s (some g) = some (ks.length : Int) := by simp [f_grid_Grid_High, h.g]
theorem grid_row (h : Gw s g ks W) {i : Nat} (hi : i < ks.length) : f_grid_Grid_Row s (some g) i = some (some ks[i]) := by
 unfold f_grid_Grid_Row
 rw [grid_high h]
 simp only [bsm, orE_some]
 rw [if_neg (by simp; omega)]
 simp only [bsm, h.g]
 rw [idx_at (by simpa using hi)]
 simp
theorem grid_row_out (h : Gw s g ks W) {i : Int} (hi : i < 0 ∨ (ks.length : Int) ≤ i) : f_grid_Grid_Row s (some g) i = some none := by
 unfold f_grid_Grid_Row
 rw [grid_high h]
 simp only [bsm, orE_some]
 rw [if_pos (by simp; omega)]
theorem wide_of (h : Rw s W k) : f_row_Row_Wide s (some k) = some (W : Int) := by
 obtain ⟨r, h1, _, h3⟩ := h
 rw [row_wide (l := r.cells) (w := r.wrap) h1, h3]
theorem grid_wide (h : Gw s g ks W) : f_grid_Grid_Wide s (some g) = some (W : Int) := by
 unfold f_grid_Grid_Wide
 rw [show (0 : Int) = ((0 : Nat) : Int) from rfl, grid_row h (show 0 < ks.length from h.h1)]
 simp only [bsm]
 rw [wide_of (h.at h.h1)]
 rfl
theorem grid_set (h : Gw s g ks W) {i : Nat} (hi : i < ks.length) (hk : Rw s W k) : f_grid_Grid_Set s (some g) i (some k) = some (s.sg g ⟨(ks.set i k).map some⟩, true) := by
 unfold f_grid_Grid_Set
 rw [grid_row h hi]
 simp only [bsm, wide_of (h.at hi), wide_of hk, Option.isNone_some, orE_false]
 rw [if_neg (by simp)]
 simp only [h.g, bsm]
 rw [idx_at (by simpa using hi), sets_nat (by simpa using hi)]
 simp only [bsm]
 rw [set_grid (get_lt h.g)]
 simp
theorem grid_lines (h : Gw s g ks W) : f_grid_Grid_Lines s (some g) = some (ks.map (ln s)) := by
 have hh := h.h2
 have hw := h.w2
 unfold f_grid_Grid_Lines
 rw [grid_high h]
 simp only [bsm]
 obtain ⟨t, h1, h2⟩ := iter_for (σ := (List G_api_Line) × Int) (τ := List G_api_Line) (n := ks.length) (fuel := ((ks.length : Int) - 0).toNat + 1) (s := (([] : List G_api_Line), 0))
  (fun i q => q = ((ks.take i).map (ln s), (i : Int))) (fun t => t = ks.map (ln s))
  (step := fun s_9 =>
 if (decide (s_9.2 < (ks.length : Int))) = true then
 (s.grid_Grid[g]?).bind fun o_19 =>
 (idx o_19.rows s_9.2).bind fun x_21 =>
 (idx o_19.rows s_9.2).bind fun x_28 =>
 (f_row_Row_Cells s x_21).bind fun x_30 =>
 (f_row_Row_Wrap s x_28).bind fun x_31 =>
 (app s_9.1 ([(⟨x_30, x_31⟩ : G_api_Line)] : List G_api_Line)).bind fun x_34 =>
 some (.inl (x_34, (w64 (s_9.2 + 1))))
 else
 some (.inr (s_9.1)))
  (fun i q hi e => by
   subst e
   refine .inl ⟨_, ?_, rfl⟩
   obtain ⟨r, r1, r2, r3⟩ := h.at hi
   have e5 : w64 ((i : Int) + 1) = ((i + 1 : Nat) : Int) := by rw [w64_in (by omega)]; simp
   have hd : decide ((i : Int) < (ks.length : Int)) = true := by simp; exact hi
   have hi2 : i < (ks.map some).length := by simpa using hi
   simp only [hd, if_true, bsm, h.g, idx_at hi2, List.getElem_map, e5]
   rw [row_cells (l := r.cells) (w := r.wrap) r1 (by omega) r2.sht, row_wrap (l := r.cells) (w := r.wrap) r1]
   simp only [bsm]
   rw [app_eq (by simp; omega)]
   simp only [bsm]
   rw [List.take_succ_eq_append_getElem hi, List.map_append]
   simp [ln_eq r1])
  (fun q e => ⟨_, by subst e; simp, rfl⟩)
  (by simp) (by omega)
 subst h2
 rw [h1]
 rfl
def Okl (W : Nat) (x : G_api_Line) : Prop := Snd x.Cells ∧ x.Cells.length = W
theorem lines_self {a : List G_api_Line} (ha : a.length ≤ 1000000) (hs : ∀ x ∈ a, x.Cells.length ≤ 1000000 ∧ Sht x.Cells) : f_linotyperef32_Same a a = some true := by
 unfold f_linotyperef32_Same
 rw [if_neg (by simp)]
 obtain ⟨t, h1, h2⟩ := iter_for (σ := Int) (τ := Bool ⊕ Unit) (n := a.length) (fuel := ((a.length : Int) - 0).toNat + 1) (s := 0)
  (fun i q => q = (i : Int)) (fun t => t = .inr ())
  (step := fun s_13 =>
 if (decide (s_13 < (a.length : Int))) = true then
 (idx a s_13).bind fun x_21 =>
 (idx a s_13).bind fun x_26 =>
 (orE (!(x_21.Wrap == x_26.Wrap)) ((idx a s_13).bind fun x_34 =>
 (idx a s_13).bind fun x_39 =>
 (f_linotyperef23_Same x_34.Cells x_39.Cells).bind fun x_42 =>
 some (!x_42))).bind fun d_30 =>
 if d_30 = true then
 some (.inr (.inl false))
 else
 some (.inl ((w64 (s_13 + 1))))
 else
 some (.inr (.inr ())))
  (fun i q hi e => by
   subst e
   refine .inl ⟨_, ?_, rfl⟩
   have hm := hs _ (List.getElem_mem hi)
   have e5 : w64 ((i : Int) + 1) = ((i + 1 : Nat) : Int) := by rw [w64_in (by omega)]; simp
   have hd : decide ((i : Int) < (a.length : Int)) = true := by simp; exact hi
   simp only [hd, if_true, idx_at hi, bsm, e5, same_self (show a[i].Cells.length ≤ 9223372036854775807 by omega) hm.2, beq_self_eq_true, Bool.not_true, orE_false, Bool.false_eq_true, if_false])
  (fun q e => ⟨_, by subst e; simp, rfl⟩)
  rfl (by omega)
 subst h2
 rw [h1]
 rfl
theorem grid_lines_ok (h : Gw s g ks W) : ∀ x ∈ ks.map (ln s), Okl W x := fun x hx => by
 obtain ⟨k, hk, rfl⟩ := List.mem_map.1 hx
 obtain ⟨r, r1, r2, r3⟩ := h.r k hk
 rw [ln_eq r1]
 exact ⟨r2, r3⟩
theorem same_lines {a : List G_api_Line} (ha : a.length ≤ 1024) (hw : W ≤ 1024) (hs : ∀ x ∈ a, Okl W x) : f_linotyperef32_Same a a = some true :=
 lines_self (by omega) fun x hx => ⟨by rw [(hs x hx).2]; omega, (hs x hx).1.sht⟩
theorem sto_eq {a b : Sto} (h1 : a.row_Row = b.row_Row) (h2 : a.grid_Grid = b.grid_Grid) (h3 : { a with row_Row := b.row_Row, grid_Grid := b.grid_Grid } = b) : a = b :=
 Eq.trans (show a = { a with row_Row := b.row_Row, grid_Grid := b.grid_Grid } by rw [← h1, ← h2]) h3
def Sto.rst (s : Sto) : Sto := { s with row_Row := [], grid_Grid := [] }
def Sto.oth (s : Sto) : Sto := { s with row_Row := [], grid_Grid := [], place_Pen := [] }
theorem rst_pen {a b : Sto} (h : a.rst = b.rst) : a.place_Pen = b.place_Pen := by
 have := congrArg Sto.place_Pen h
 exact this
theorem rst_oth {a b : Sto} (h : a.rst = b.rst) : a.oth = b.oth := by
 have := congrArg (fun x : Sto => ({ x with place_Pen := [] } : Sto)) h
 exact this
def Sto.addr (s : Sto) (xs : List G_row_Row) : Sto := { s with row_Row := s.row_Row ++ xs }
theorem addr_len (s : Sto) (xs : List G_row_Row) : (s.addr xs).row_Row.length = s.row_Row.length + xs.length := by simp [Sto.addr]
theorem addr_old {xs : List G_row_Row} (h : k < s.row_Row.length) : (s.addr xs).row_Row[k]? = s.row_Row[k]? := List.getElem?_append_left h
theorem addr_new {xs : List G_row_Row} {i : Nat} (h : i < xs.length) : (s.addr xs).row_Row[s.row_Row.length + i]? = some xs[i] := by
 simp [Sto.addr, List.getElem?_append_right, h]
theorem addr_add (s : Sto) (xs : List G_row_Row) (x : G_row_Row) : (s.addr xs).add_row_Row x = s.addr (xs ++ [x]) := by simp [Sto.addr, Sto.add_row_Row]
theorem addr_nil (s : Sto) : s.addr [] = s := by simp [Sto.addr]
theorem Rw.lt (h : Rw s W k) : k < s.row_Row.length := by obtain ⟨r, h, _⟩ := h; exact get_lt h
theorem Rw.addr {xs : List G_row_Row} (h : Rw s W k) : Rw (s.addr xs) W k := by
 obtain ⟨r, h1, h2⟩ := h
 exact ⟨r, by rw [addr_old (get_lt h1)]; exact h1, h2⟩
theorem Gw.addr {xs : List G_row_Row} (h : Gw s g ks W) : Gw (s.addr xs) g ks W := ⟨h.g, fun k hk => (h.r k hk).addr, h.h1, h.h2, h.w1, h.w2⟩
theorem ln_old {xs : List G_row_Row} (h : k < s.row_Row.length) : ln (s.addr xs) k = ln s k := by unfold ln; rw [addr_old h]
theorem ln_new {xs : List G_row_Row} {i : Nat} (h : i < xs.length) : ln (s.addr xs) (s.row_Row.length + i) = ⟨xs[i].cells, xs[i].wrap⟩ := ln_eq (addr_new h)
def lr (x : G_api_Line) : G_row_Row := ⟨x.Cells, x.Wrap⟩
theorem gw_of {L : List G_api_Line} (h1 : 1 ≤ L.length) (h2 : L.length ≤ 1024)
  (hok : ∀ i (h : i < L.length), 1 ≤ L[i].Cells.length ∧ L[i].Cells.length ≤ 1024 ∧ Snd L[i].Cells ∧ L[i].Cells.length = (L[0]'(by omega)).Cells.length) :
  Gw ((s.addr (L.map lr)).add_grid_Grid ⟨(List.range' s.row_Row.length L.length).map some⟩) s.grid_Grid.length (List.range' s.row_Row.length L.length) (L[0]'(by omega)).Cells.length ∧
   (List.range' s.row_Row.length L.length).map (ln ((s.addr (L.map lr)).add_grid_Grid ⟨(List.range' s.row_Row.length L.length).map some⟩)) = L := by
 have hr : ∀ i (h : i < L.length), ((s.addr (L.map lr)).add_grid_Grid ⟨(List.range' s.row_Row.length L.length).map some⟩).row_Row[s.row_Row.length + i]? = some (lr L[i]) := fun i h => by
  have := addr_new (s := s) (xs := L.map lr) (i := i) (by simpa using h)
  rw [List.getElem_map] at this
  exact this
 refine ⟨⟨by simp [Sto.add_grid_Grid, Sto.addr], fun k hk => ?_, by simpa using h1, by simpa using h2, (hok 0 (by omega)).1, (hok 0 (by omega)).2.1⟩, ?_⟩
 ·rw [List.mem_range'_1] at hk
  have hi : k - s.row_Row.length < L.length := by omega
  have := hr _ hi
  rw [show s.row_Row.length + (k - s.row_Row.length) = k by omega] at this
  exact ⟨_, this, (hok _ hi).2.2.1, (hok _ hi).2.2.2⟩
 ·refine List.ext_getElem (by simp) fun i h1 h2 => ?_
  rw [List.getElem_map, List.getElem_range', Nat.one_mul, ln_eq (hr i h2)]
  rfl
theorem icl (a : Int) (m : Nat) : imax 0 (imin a (m : Int)) = ((cl a m : Nat) : Int) := by simp only [imax_eq, imin_eq, cl]; omega
theorem scroll_of (h : Gw s g ks W) (a b n : Int) : f_scroll_of s (some g) a b n = some (⟨(cl a ks.length : Nat), (cl b ks.length : Nat), min n ((cl b ks.length : Int) - (cl a ks.length : Int))⟩, decide (cl a ks.length < cl b ks.length) && decide (0 < n)) := by
 have h1 := cl_le a ks.length
 have h2 := cl_le b ks.length
 have hh := h.h2
 unfold f_scroll_of
 rw [grid_high h]
 simp only [bsm, icl, andE_some]
 rw [imin_eq, w64_in (by omega)]
 simp
theorem scroll_rows (h : Gw s g ks W) {a b : Nat} (hab : a ≤ b) (hb : b ≤ ks.length) : f_scroll_rows s (some g) a b = some (((ks.drop a).take (b - a)).map some) := by
 have hh := h.h2
 unfold f_scroll_rows
 obtain ⟨t, h1, h2⟩ := iter_for (σ := (List (Option Nat)) × Int) (τ := List (Option Nat)) (n := b - a) (fuel := ((b : Int) - (a : Int)).toNat + 1) (s := (([] : List (Option Nat)), (a : Int)))
  (fun i q => q = (((ks.drop a).take i).map some, ((a + i : Nat) : Int))) (fun t => t = ((ks.drop a).take (b - a)).map some)
  (step := fun s_8 =>
 if (decide (s_8.2 < (b : Int))) = true then
 (f_grid_Grid_Row s (some g) s_8.2).bind fun x_16 =>
 (app s_8.1 ([x_16] : List (Option Nat))).bind fun x_18 =>
 some (.inl (x_18, (w64 (s_8.2 + 1))))
 else
 some (.inr (s_8.1)))
  (fun i q hi e => by
   subst e
   refine .inl ⟨_, ?_, rfl⟩
   have e5 : w64 (((a + i : Nat) : Int) + 1) = ((a + (i + 1) : Nat) : Int) := by rw [w64_in (by omega)]; simp; omega
   have hd : decide (((a + i : Nat) : Int) < (b : Int)) = true := by simp; omega
   simp only [hd, if_true]
   rw [grid_row h (show a + i < ks.length by omega)]
   simp only [bsm, e5]
   rw [app_eq (by simp; omega)]
   simp only [bsm]
   rw [List.take_succ_eq_append_getElem (by simp; omega), List.map_append]
   simp)
  (fun q e => by
   subst e
   have hd : decide (((a + (b - a) : Nat) : Int) < (b : Int)) = false := by simp; omega
   exact ⟨_, by simp only [hd]; rfl, rfl⟩)
  (by simp) (by omega)
 subst h2
 rw [h1]
 rfl
def bk (W : Nat) : G_row_Row := ⟨List.replicate W bl, false⟩
theorem scroll_blanks (h : Gw s g ks W) {n : Nat} (hn : n ≤ 1024) : f_scroll_blanks s (some g) n = some (s.addr (List.replicate n (bk W)), (List.range' s.row_Row.length n).map some) := by
 unfold f_scroll_blanks
 obtain ⟨t, h1, h2⟩ := iter_for (σ := (List (Option Nat)) × Int × Sto) (τ := (List (Option Nat)) × Sto) (n := n) (fuel := ((n : Int) - 0).toNat + 1) (s := (([] : List (Option Nat)), 0, s))
  (fun i q => q = ((List.range' s.row_Row.length i).map some, (i : Int), s.addr (List.replicate i (bk W)))) (fun t => t = ((List.range' s.row_Row.length n).map some, s.addr (List.replicate n (bk W))))
  (step := fun s_8 =>
 if (decide (s_8.2.1 < (n : Int))) = true then
 (f_grid_Grid_Wide s_8.2.2 (some g)).bind fun x_13 =>
 (f_row_New s_8.2.2 x_13).bind fun x_14 =>
 (app s_8.1 ([x_14.2] : List (Option Nat))).bind fun x_16 =>
 some (.inl (x_16, (w64 (s_8.2.1 + 1)), x_14.1))
 else
 some (.inr (s_8.1, s_8.2.2)))
  (fun i q hi e => by
   subst e
   refine .inl ⟨_, ?_, rfl⟩
   have e5 : w64 ((i : Int) + 1) = ((i + 1 : Nat) : Int) := by rw [w64_in (by omega)]; simp
   have hd : decide ((i : Int) < (n : Int)) = true := by simp; exact hi
   simp only [hd, if_true]
   rw [grid_wide (h.addr (xs := List.replicate i (bk W)))]
   simp only [bsm, row_new, sd_id h.w1 h.w2, e5]
   rw [app_eq (by simp; omega)]
   simp only [bsm]
   rw [addr_add, addr_len, List.range'_concat, List.map_append, List.replicate_succ']
   simp [bk])
  (fun q e => ⟨_, by subst e; simp, rfl⟩)
  (by simp [addr_nil]) (by omega)
 subst h2
 rw [h1]
 rfl
def ov (ks : List Nat) (F : Nat) (p : List Nat) : List Nat := ks.take F ++ p ++ ks.drop (F + p.length)
theorem ov_len {F : Nat} {p : List Nat} (h : F + p.length ≤ ks.length) : (ov ks F p).length = ks.length := by simp [ov]; omega
theorem ov_set {F i : Nat} {p : List Nat} (h : F + p.length ≤ ks.length) (hi : i < p.length) : (ov ks F (p.take i)).set (F + i) p[i] = ov ks F (p.take (i + 1)) := by
 unfold ov
 have h1 : (ks.take F ++ p.take i).length = F + i := by simp; omega
 rw [List.set_append_right _ _ (by omega), h1, Nat.sub_self, List.length_take, List.length_take, Nat.min_eq_left (Nat.le_of_lt hi), Nat.min_eq_left (show i + 1 ≤ p.length by omega), List.drop_eq_getElem_cons (show F + i < ks.length by omega), List.set_cons_zero, List.take_succ_eq_append_getElem hi]
 simp only [List.append_assoc, List.cons_append, List.nil_append, Nat.add_assoc]
def off (s : Sto) (k : Nat) : Sto := s.sr k ⟨(ln s k).Cells, false⟩
theorem goon_off (h : Rw s W k) : f_row_Row_GoOn s (some k) false = some (off s k) := by
 obtain ⟨r, h1, _⟩ := h
 rw [row_goon (l := r.cells) (w := r.wrap) h1]
 unfold off
 rw [ln_eq h1]
theorem Rw.off {j : Nat} (h : Rw s W j) (hk : Rw s W k) : Rw (off s k) W j := by
 obtain ⟨r, h1, h2, h3⟩ := h
 obtain ⟨q, k1, k2, k3⟩ := hk
 by_cases e : k = j
 ·subst e
  exact ⟨_, sr_get (get_lt k1), by rw [ln_eq k1]; exact ⟨k2, k3⟩⟩
 ·exact ⟨r, (sr_ne e).trans h1, h2, h3⟩
theorem Gw.off (h : Gw s g ks W) (hk : Rw s W k) : Gw (off s k) g ks W := ⟨h.g, fun j hj => (h.r j hj).off hk, h.h1, h.h2, h.w1, h.w2⟩
theorem ln_off {j : Nat} (hk : Rw s W k) : ln (off s k) j = if j = k then ⟨(ln s k).Cells, false⟩ else ln s j := by
 by_cases e : k = j
 ·subst e
  rw [if_pos rfl]
  exact ln_eq (sr_get hk.lt)
 ·rw [if_neg (Ne.symm e)]
  unfold ln
  rw [show (Go.Proofs.YtfhhpdggmefcoaaGreatDoor.off s k).row_Row[j]? = s.row_Row[j]? from sr_ne e]
theorem ln_sg (x : G_grid_Grid) (j : Nat) : ln (s.sg g x) j = ln s j := rfl
def offa (s : Sto) (ks : List Nat) (F : Nat) : Sto := if F = 0 then s else off s (ks.getD (F - 1) 0)
theorem scroll_lay (h : Gw s g ks W) {F : Nat} {p : List Nat} (hp : F + p.length ≤ ks.length) (hr : ∀ k ∈ p, Rw s W k) (st : G_scroll_stretch) (hF : st.from_ = (F : Int)) :
  f_scroll_stretch_lay s st (some g) (p.map some) = some (offa (s.sg g ⟨(ov ks F p).map some⟩) (ov ks F p) F) ∧ Gw (s.sg g ⟨(ov ks F p).map some⟩) g (ov ks F p) W := by
 have hh := h.h2
 have key : ∀ i, i ≤ p.length → Gw (s.sg g ⟨(ov ks F (p.take i)).map some⟩) g (ov ks F (p.take i)) W := fun i hi =>
  ⟨sg_get (get_lt h.g), fun k hk => by
   unfold ov at hk
   rw [List.mem_append, List.mem_append] at hk
   rcases hk with (hk | hk) | hk
   ·exact h.r k (List.mem_of_mem_take hk)
   ·exact hr k (List.mem_of_mem_take hk)
   ·exact h.r k (List.mem_of_mem_drop hk), by rw [ov_len (by simp; omega)]; exact h.h1, by rw [ov_len (by simp; omega)]; exact h.h2, h.w1, h.w2⟩
 have kend := key p.length (Nat.le_refl _)
 rw [List.take_length] at kend
 refine ⟨?_, kend⟩
 unfold f_scroll_stretch_lay
 rw [hF]
 obtain ⟨t, h1, h2⟩ := iter_for (σ := Int × Sto) (τ := Sto) (n := p.length) (fuel := (((p.map some).length : Int) - 0).toNat + 1) (s := ((0 : Int), s))
  (fun i q => q = ((i : Int), s.sg g ⟨(ov ks F (p.take i)).map some⟩)) (fun t => t = s.sg g ⟨(ov ks F p).map some⟩)
  (step := fun s_7 =>
 if (decide (s_7.1 < ((p.map some).length : Int))) = true then
 (idx (p.map some) s_7.1).bind fun x_11 =>
 (f_grid_Grid_Set s_7.2 (some g) (w64 ((F : Int) + s_7.1)) x_11).bind fun x_22 =>
 some (.inl ((w64 (s_7.1 + 1)), x_22.1))
 else
 some (.inr (s_7.2)))
  (fun i q hi e => by
   subst e
   refine .inl ⟨_, ?_, rfl⟩
   have e5 : w64 ((i : Int) + 1) = ((i + 1 : Nat) : Int) := by rw [w64_in (by omega)]; simp
   have e6 : w64 ((F : Int) + (i : Int)) = ((F + i : Nat) : Int) := by rw [w64_in (by omega)]; simp
   have hd : decide ((i : Int) < ((p.map some).length : Int)) = true := by simp; exact hi
   have hi2 : i < (p.map some).length := by simpa using hi
   have hk := key i (Nat.le_of_lt hi)
   simp only [hd, if_true, idx_at hi2, bsm, List.getElem_map, e5, e6]
   have hl : (ov ks F (p.take i)).length = ks.length := ov_len (by simp; omega)
   rw [grid_set hk (show F + i < (ov ks F (p.take i)).length by omega) (hr _ (List.getElem_mem hi))]
   simp only [bsm]
   rw [ov_set hp hi, sg_sg])
  (fun q e => by
   subst e
   rw [List.take_length]
   exact ⟨_, by simp, rfl⟩)
  (by
   simp only [List.take_zero, Prod.mk.injEq]
   refine ⟨rfl, (sg_id ?_).symm⟩
   rw [h.g]
   simp [ov]) (by simp)
 subst h2
 rw [h1]
 simp only [bsm]
 unfold offa
 by_cases h0 : F = 0
 ·subst h0
  rw [if_pos rfl, grid_row_out kend (by left; rw [w64_in (by omega)]; omega)]
  rfl
 ·have e7 : w64 ((F : Int) - 1) = ((F - 1 : Nat) : Int) := by rw [w64_in (by omega)]; omega
  have hl : (ov ks F p).length = ks.length := ov_len hp
  have hlt : F - 1 < (ov ks F p).length := by omega
  rw [if_neg h0, e7, grid_row kend hlt]
  simp only [bsm]
  rw [goon_off (kend.at hlt), List.getD_eq_getElem?_getD, List.getElem?_eq_getElem hlt]
  rfl
end Go.Proofs.YtfhhpdggmefcoaaGreatDoor
