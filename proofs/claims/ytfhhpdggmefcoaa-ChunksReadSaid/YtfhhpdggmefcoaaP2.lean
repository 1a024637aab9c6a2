import Derived.Test.YtfhhpdggmefcoaaMr
import Derived.Test.YtfhhpdggmefcoaaProg
import Derived.Test.YtfhhpdggmefcoaaMy
import Derived.Test.YtfhhpdggmefcoaaMz
import Derived.Test.YtfhhpdggmefcoaaR1
import Derived.Test.YtfhhpdggmefcoaaF1
import Derived.Test.YtfhhpdggmefcoaaP1
namespace Go.Proofs.Ytfhhpdggmefcoaa
open Go Go.Lt
set_option maxRecDepth 10000
set_option linter.unusedVariables false
attribute [local irreducible] W WL AC
open Try
variable {c0 : Cx} {G : Gm} {F : List En} {sg : Sto} {v1 v2 v3 v4 v5 v6 v7 v8 v9 v10 v11 v12 v13 v14 v15 v16 v17 v18 v19 v20 v21 v22 v23 v24 v25 v26 v27 v28 v29 v30 v31 v32 v33 v34 v35 v36 v37 v38 v39 v40 v41 v42 v43 v44 v45 v46 v47 v48 v49 v50 v51 v52 v53 v54 v55 v56 v57 v58 v59 v60 : Value}
def f_linotypelaw05_works  : Option (Bool) :=
 (f_chunks_Cut ([97, 98, 99, 100] : List Int) ([9, 1, (-3)] : List Int)).bind fun a =>
 (andE ((a.length : Int) == 4) ((idx a 1).bind fun f =>
 some (eqS (bstr f) (⟨#[97]⟩ : ByteArray)))).bind fun b =>
 (andE b ((idx a 2).bind fun g =>
 some (eqS (bstr g) (⟨#[98, 99, 100]⟩ : ByteArray)))).bind fun c =>
 (andE c ((f_chunks_Join a).bind fun h =>
 some (eqS (bstr h) (⟨#[97, 98, 99, 100]⟩ : ByteArray)))).bind fun d =>
 (andE d ((f_chunks_Read ([([226] : List Int), ([] : List Int), ([130, 172] : List Int)] : List (List Int))).bind fun i =>
 (f_linotyperef01_Same i ([8364] : List Int)).bind fun j =>
 some j)).bind fun e =>
 some e
theorem c_linotypelaw05_works (O0 : Own c0 G F) {r : Bool} (H : f_linotypelaw05_works  = some r) :
    Calls prog 8 #[] c0.w (Post c0 fun c v => Own c G (F) ∧ v = B r) := by
 unfold f_linotypelaw05_works at H
 refine en func8 rfl rfl (sr (va (B false) (wln (sr (me (sl (RI .u8) 5 [[.int .u8 97], [.int .u8 98], [.int .u8 99], [.int .u8 100]] ([97, 98, 99, 100] : List Int) O0 ⟨rfl, rfl, rfl, rfl, trivial⟩) ?_)))))
 rintro v5 c4 l4 ⟨u2, O1, h3⟩
 refine me (Own.mark (T := 22) 0 O1 rfl h3 (by kernel_rfl) underlying22 underlying5 (by kernel_rfl)) ?_
 rintro v9 c8 l8 ⟨O6, h7⟩
 have q1 := O6.sD 1 []
 refine me (sl (RI .i64) 3 [[I 9], [I 1], [I (-3)]] ([9, 1, (-3)] : List Int) q1 ⟨rfl, rfl, rfl, trivial⟩) ?_
 rintro v15 n4 w4 ⟨d3, s1, d2⟩
 obtain ⟨o4, f2, x4, t1, e2⟩ := s1.frz 0 rfl d2
 refine WL.gh f2 (bn H fun q g2 H => cl (c_chunks_Cut t1 ([97, 98, 99, 100] : List Int) ([9, 1, (-3)] : List Int) h7.m e2 g2) ?_)
 rintro v21 b2 y4 ⟨_, e3, b, rfl, a⟩
 refine va (v21) (wln (W.seq (bn H fun n3 e0 H => bn H fun o3 M H => bn H fun p3 p H => bn H fun z0 h H => W.join (Jn b2 fun c l => Own c G (es false (RL (RI .u8)) v21 22 e3 q :: es false (RI .i64) v15 3 d3 ([9, 1, (-3)] : List Int) :: F) ∧ l = [(0, B z0)]) ?_ ?_)))
 ·clear H
  refine W.region (va (v21) (vx (lnO 3 underlying25 a) (va (B ((q.length : Int) == 4)) ?_)))
  rcases bo ((q.length : Int) == 4) with i | i
  ·have s := anT i e0
   refine vb i (wn (va (v21) (wn (bn s fun d N s => vx (ixO underlying25 a N) (wn ?_)))))
   obtain ⟨f4, h2, b3⟩ := OA.at a N
   obtain ⟨v40, rfl, i2⟩ := h2
   refine vr v40 (rx (by kernel_rfl) (ldE1 underlying22 rfl (b.on 0 rfl) (a.blk N) (at1 (j := 0) b3 rfl))) (wn (vr (.string (bstr d)) (rx (by kernel_rfl) (run_bstr underlying22 underlying5 underlying9 i2)) (wn (vr (B (eqS (bstr d) (⟨#[97]⟩ : ByteArray))) (run_eqS (by kernel_rfl)) ?_))))
   obtain rfl := si s
   refine va (B (eqS (bstr d) (⟨#[97]⟩ : ByteArray))) ?_
   rcases bo (eqS (bstr d) (⟨#[97]⟩ : ByteArray)) with k | k
   ·have t := anT k M
    refine vb k (wn (va (v21) (wn (bn t fun e P t => vx (ixO underlying25 a P) (wn ?_)))))
    obtain ⟨g4, j2, c3⟩ := OA.at a P
    obtain ⟨v48, rfl, k2⟩ := j2
    refine vr v48 (rx (by kernel_rfl) (ldE1 underlying22 rfl (b.on 0 rfl) (a.blk P) (at1 (j := 0) c3 rfl))) (wn (vr (.string (bstr e)) (rx (by kernel_rfl) (run_bstr underlying22 underlying5 underlying9 k2)) (wn (vr (B (eqS (bstr e) (⟨#[98, 99, 100]⟩ : ByteArray))) (run_eqS (by kernel_rfl)) ?_))))
    obtain rfl := si t
    refine va (B (eqS (bstr e) (⟨#[98, 99, 100]⟩ : ByteArray))) ?_
    rcases bo (eqS (bstr e) (⟨#[98, 99, 100]⟩ : ByteArray)) with n | n
    ·have u := anT n p
     refine vb n (wn (va (v21) (wn ?_)))
     obtain ⟨p4, m2, z4, u1, l2⟩ := b.frz 0 rfl a
     refine WL.gh m2 (bn u fun f n2 u => cl (c_chunks_Join u1 q l2 n2) ?_)
     rintro v57 c2 a5 ⟨_, S, rfl, o2⟩
     refine wn (vr (.string (bstr f)) (rx (by kernel_rfl) (run_bstr underlying22 underlying5 underlying9 o2)) (wn (vr (B (eqS (bstr f) (⟨#[97, 98, 99, 100]⟩ : ByteArray))) (run_eqS (by kernel_rfl)) ?_)))
     obtain rfl := si u
     refine va (B (eqS (bstr f) (⟨#[97, 98, 99, 100]⟩ : ByteArray))) ?_
     rcases bo (eqS (bstr f) (⟨#[97, 98, 99, 100]⟩ : ByteArray)) with o | o
     ·have g := anT o h
      refine vb o (wn (me (sl (RI .u8) 5 [[.int .u8 226]] ([226] : List Int) S ⟨rfl, trivial⟩) ?_))
      rintro h5 q4 b5 ⟨e5, v1, p2⟩
      refine wn (me (sl (RI .u8) 5 [[.int .u8 130], [.int .u8 172]] ([130, 172] : List Int) v1 ⟨rfl, rfl, trivial⟩) ?_)
      rintro i5 r4 y2 ⟨f5, w1, q2⟩
      refine wn ?_
      obtain ⟨s4, s2, z2, x1, f0⟩ := w1.frz 1 rfl (p2.mono y2)
      refine WL.gh s2 ?_
      obtain ⟨t4, t2, a3, y1, g0⟩ := x1.frz 0 rfl (q2.mono z2)
      refine WL.gh t2 ?_
      obtain ⟨U, X, Z, rfl⟩ := ((f0.mono a3)).form
      obtain ⟨a0, b0, d0, rfl⟩ := (g0).form
      refine me (sl (RL (RI .u8)) 22 [[.slice U X Z], [Y], [.slice a0 b0 d0]] ([([226] : List Int), ([] : List Int), ([130, 172] : List Int)] : List (List Int)) y1 ⟨⟨(.slice U X Z), rfl, f0.m⟩, ⟨(Y), rfl, (Sl.nl _ _)⟩, ⟨(.slice a0 b0 d0), rfl, g0⟩, trivial⟩) ?_
      rintro j5 u4 c5 ⟨g5, z1, v2⟩
      refine wn ?_
      obtain ⟨v4, x2, d5, a2, w2⟩ := z1.frz 0 rfl v2
      refine WL.gh x2 (bn g fun p1 a1 g => cl (c_chunks_Read a2 ([([226] : List Int), ([] : List Int), ([130, 172] : List Int)] : List (List Int)) w2 a1) ?_)
      rintro j4 j3 x3 ⟨_, h4, h0, rfl, b1⟩
      refine wn (me (sl (RI .i32) 21 [[J 8364]] ([8364] : List Int) h0 ⟨rfl, trivial⟩) ?_)
      rintro k4 k3 m1 ⟨i4, i0, c1⟩
      refine wn ?_
      obtain ⟨l3, e1, n1, j0, d1⟩ := i0.frz 1 rfl (b1.mono m1)
      refine WL.gh e1 ?_
      obtain ⟨m3, g1, y3, k0, f1⟩ := j0.frz 0 rfl (c1.mono n1)
      refine WL.gh g1 (bn g fun R h1 g => cl (c_linotyperef01_Same k0 p1 ([8364] : List Int) d1.m f1 h1) ?_)
      rintro m4 u0 z3 ⟨l0, rfl⟩
      obtain rfl := si g
      refine va (B R) (va (B R) (wln ?_))
      have m0 := l0.sD 7 [5, 6]
      exact ⟨u0, _, _, rfl, pt, us, m0, rfl⟩
     obtain rfl := anF o h
     exact vb o (ps (ps (ps (ps (ps (ps (va (B false) (va (B false) (wln ⟨c2, _, _, rfl, pt, us, S, rfl⟩)))))))))
    obtain rfl := anF n p
    refine vb n (ps (ps (ps (ps (va (B false) ?_)))))
    have x : false = false := rfl
    obtain rfl := anF x h
    refine vb x (ps (ps (ps (ps (ps (ps (va (B false) (va (B false) (wln ?_)))))))))
    obtain ⟨v0, i1, a4, o0, s3⟩ := b.frz 0 rfl a
    exact ⟨v0, _, _, i1.symm, pt, us, o0, rfl⟩
   obtain rfl := anF k M
   refine vb k (ps (ps (ps (ps (ps (va (B false) ?_))))))
   have y : false = false := rfl
   obtain rfl := anF y p
   refine vb y (ps (ps (ps (ps (va (B false) ?_)))))
   have z : false = false := rfl
   obtain rfl := anF z h
   refine vb z (ps (ps (ps (ps (ps (ps (va (B false) (va (B false) (wln ?_)))))))))
   obtain ⟨w0, j1, b4, p0, t3⟩ := b.frz 0 rfl a
   exact ⟨w0, _, _, j1.symm, pt, us, p0, rfl⟩
  obtain rfl := anF i e0
  refine vb i (ps (ps (ps (ps (ps (va (B false) ?_))))))
  have A : false = false := rfl
  obtain rfl := anF A M
  refine vb A (ps (ps (ps (ps (ps (va (B false) ?_))))))
  have D : false = false := rfl
  obtain rfl := anF D p
  refine vb D (ps (ps (ps (ps (va (B false) ?_)))))
  have E : false = false := rfl
  obtain rfl := anF E h
  refine vb E (ps (ps (ps (ps (ps (ps (va (B false) (va (B false) (wln ?_)))))))))
  obtain ⟨x0, k1, d4, q0, u3⟩ := b.frz 0 rfl a
  exact ⟨x0, _, _, k1.symm, pt, us, q0, rfl⟩
 rintro e_ w_ ⟨y0, q3, _, rfl, e4, rfl, s0, rfl⟩
 refine nrm (W.ret ?_)
 obtain rfl := si H
 have t0 := s0.sD 2 []
 exact r1 ⟨_, y0, rfl, rfl, pt, t0, rfl⟩
def f_linotypelaw05_ChunksCut (p0 : List Int) (p1 : List Int) : Option (Bool) :=
 (f_linotypelaw05_works).bind fun k =>
 (orE (!k) (some (decide ((p0.length : Int) > 200)))).bind fun j =>
 (orE j (some (decide ((p1.length : Int) > 20)))).bind fun e =>
 if e = true then
 (f_linotypelaw05_works).bind fun f =>
 some f
 else
 (f_chunks_Cut p0 p1).bind fun c =>
 (f_linotyperef05_Cut p0 p1).bind fun d =>
 if ((c.length : Int) != (d.length : Int)) = true then
 some false
 else
 (iter (σ := Int) (τ := Bool ⊕ Unit) (((c.length : Int) - 0).toNat + 1) (fun b =>
 if (decide (b < (c.length : Int))) = true then
 (idx c b).bind fun g =>
 (idx d b).bind fun h =>
 (f_linotyperef01_Bytes g h).bind fun i =>
 if (!i) = true then
 some (.inr (.inl false))
 else
 some (.inl ((w64 (b + 1))))
 else
 some (.inr (.inr ()))) (0)).bind fun a =>
 match a with
 | .inl a =>
 some a
 | .inr a =>
 some true
theorem c_linotypelaw05_ChunksCut (O0 : Own c0 G F) (p : List Int) (u : List Int) {r : Bool} (h2 : Sl (RI .u8) c0 v1 p) (h4 : Sl (RI .i64) c0 v3 u) (H : f_linotypelaw05_ChunksCut p u = some r) :
    Calls prog 3 #[v1, v3] c0.w (Post c0 fun c v => Own c G (F) ∧ v = B r) := by
 unfold f_linotypelaw05_ChunksCut at H
 refine en func3 rfl rfl (sr (va (B false) (wln (W.seq (W.seq (bn H fun a0 h5 H => bn H fun s2 h6 H => bn H fun f0 h7 H => W.join (Jn c0 fun c l => Own c G (F) ∧ l = [(0, v1), (1, v3), (19, B f0)]) ?_ ?_))))))
 ·clear H
  refine W.region (cl (c_linotypelaw05_works O0 h5) ?_)
  rintro v13 z x2 ⟨O9, rfl⟩
  refine va (B (!a0)) ?_
  rcases bo (!a0) with g | g
  ·obtain rfl := orT g h6
   refine vb g (ps (ps (ps (va (B true) ?_))))
   have S : true = true := rfl
   obtain rfl := orT S h7
   exact vb S (ps (ps (ps (va (B true) (wln ⟨z, _, _, rfl, pt, us, O9, rfl⟩)))))
  have u0 := orF g h6
  refine vb g (wn (va (v1) (wn (vx (ln 3 underlying22 h2.m) (wn (va (B (decide ((p.length : Int) > 200))) ?_))))))
  obtain rfl := si u0
  refine va (B (decide ((p.length : Int) > 200))) ?_
  rcases bo (decide ((p.length : Int) > 200)) with h | h
  ·obtain rfl := orT h h7
   exact vb h (ps (ps (ps (va (B true) (wln ⟨z, _, _, rfl, pt, us, O9, rfl⟩)))))
  have v0 := orF h h7
  refine vb h (wn (va (v3) (wn (vx (ln 3 underlying23 h4.m) (wn (va (B (decide ((u.length : Int) > 20))) ?_))))))
  obtain rfl := si v0
  exact va (B (decide ((u.length : Int) > 20))) (wln ⟨z, _, _, rfl, pt, us, O9, rfl⟩)
 rintro e_ w_ ⟨p2, t2, _, rfl, y2, rfl, N, rfl⟩
 refine nrm (cn H (fun j1 H => ?_) (fun j1 H => ?_))
 ·refine sr (bn H fun o0 k1 H => cl (c_linotypelaw05_works N k1) ?_)
  rintro v32 c1 z2 ⟨w0, rfl⟩
  refine va (B o0) (wln (W.ret (thr ?_)))
  obtain rfl := si H
  exact r1 ⟨_, c1, rfl, rfl, pt, w0, rfl⟩
 refine W.skip (nrm (sr (va (v1) (va (v3) (bn H fun b m1 H => cl (c_chunks_Cut N p u h2.m h4.m m1) ?_)))))
 rintro v34 q2 a3 ⟨_, k, x0, rfl, i⟩
 refine va (v1) (va (v3) (bn H fun d n1 H => cl (c_linotyperef05_Cut x0 p u h2.m h4.m n1) ?_))
 rintro v44 f b2 ⟨_, n, P, rfl, s⟩
 refine va (v34) (va (v44) (wln (W.seq (sr (va (v34) (vx (lnO 3 underlying25 i.m) (va (v44) (vx (lnO 3 underlying25 s) (va (B ((b.length : Int) != (d.length : Int))) (wln (cn H (fun q1 H => ?_) (fun q1 H => ?_))))))))))))
 ·refine sr (va (B false) (wln (W.ret (thr ?_))))
  obtain rfl := si H
  have y0 := P.sD 2 []
  exact r1 ⟨_, f, rfl, rfl, pt, y0, rfl⟩
 refine W.skip (nrm (W.seq (sr (va (I 0) (wln (W.block (bn H fun o T x => lp T (fun a => Jn f fun c l => Own c G (es true (RL (RI .u8)) v44 22 n d :: es true (RL (RI .u8)) v34 22 k b :: F) ∧ l = [(5, v34), (6, v44), (7, I a)]) (fun t => match t with | .inl x_ => (fun f2 ex e w => ex = .ret ∧ (Jn f fun c l => Own c G (F) ∧ l = [(4, B f2)]) e w) x_ | .inr x_ => (fun k2 ex e w => ex = .exit 0 ∧ (Jn f fun c l => Own c G (es true (RL (RI .u8)) v44 22 n d :: es true (RL (RI .u8)) v34 22 k b :: F) ∧ l = []) e w) x_) ?_ ?_ ?_)))))))
 ·clear x T
  intro a f3 h1 j2 H
  revert h1 j2
  rintro e_ w_ ⟨d1, u2, _, rfl, U, rfl, R, rfl⟩
  refine W.seq (sr (va (I a) (va (v34) (vx (lnO 3 underlying25 i.m) (va (B (decide (a < (b.length : Int)))) (wln (cn H (fun t1 H => ?_) (fun t1 H => ?_))))))))
  ·refine W.skip (nrm (W.seq (W.block (W.seq (rD [] (Kp G0 [es true (RL (RI .u8)) v34 22 k b, es true (RL (RI .u8)) v44 22 n d]) R ?_)))))
   intro e1 X y
   have Z : Kp G0 [es true (RL (RI .u8)) v34 22 k b, es true (RL (RI .u8)) v44 22 n d] e1 := (Kp.cons (y.on 1 rfl) (Kp.cons (y.on 0 rfl) Kp.nil0))
   refine ta 0 (v34) (ta 1 (I a) (bn H fun q0 D H => tx 2 (fun c' M => ixO underlying25 i.m D) ?_))
   obtain ⟨n2, u1, c2⟩ := OA.at (i.mono (b2.trans (U.trans X))) D
   obtain ⟨g2, rfl, w1⟩ := u1
   refine AC.takeK 3 (g2) Z rfl (by kernel_rfl) (by kernel_rfl) (by kernel_rfl) (fun c' M hk => (rx (by kernel_rfl) (ldE1 underlying22 rfl (hk.on 0 rfl) (i.m.blk D) (at1 (j := 0) c2 rfl)))) (ta 4 (v44) (ta 5 (I a) (bn H fun s0 E H => tx 6 (fun c' M => ixO underlying25 s.m E) ?_)))
   obtain ⟨o2, x1, d2⟩ := OA.at (s.mono (U.trans X)) E
   obtain ⟨i2, rfl, y1⟩ := x1
   refine AC.takeK 7 (i2) Z rfl (by kernel_rfl) (by kernel_rfl) (by kernel_rfl) (fun c' M hk => (rx (by kernel_rfl) (ldE1 underlying22 rfl (hk.on 1 rfl) (s.m.blk E) (at1 (j := 0) d2 rfl)))) (bn H fun t0 z1 H => o1 8 (gc 8 (c_linotyperef01_Bytes y q0 s0 w1 y1 z1) ?_))
   rintro e3 A b3 ⟨q, rfl⟩
   have e2 : Kp G0 [es true (RL (RI .u8)) v34 22 k b, es true (RL (RI .u8)) v44 22 n d] A := (Kp.cons (q.on 1 rfl) (Kp.cons (q.on 0 rfl) Kp.nil0))
   refine ⟨.inr e2, ta 9 (B (!t0)) (dn (nrm (cn H (fun a2 H => ?_) (fun a2 H => ?_))))⟩
   ·refine sr (va (B false) (wln (W.ret (bkr (thr ?_)))))
    obtain rfl := si H
    refine ⟨_, rfl, ⟨rfl, ?_⟩⟩
    have z0 := q.sD 2 []
    exact ⟨A, _, _, rfl, pt, us, z0, rfl⟩
   refine W.skip (bkn (nrm (W.region (va (I a) (va (I (w64 (a + 1))) (va (I (w64 (a + 1))) (WL.nil ?_)))))))
   obtain rfl := si H
   exact ⟨_, rfl, ⟨A, _, _, rfl, pt, us, q, rfl⟩⟩
  refine W.exit (thx ?_)
  obtain rfl := si H
  exact ⟨_, rfl, rfl, ⟨d1, _, _, rfl, pt, us, R, rfl⟩⟩
 ·exact ⟨f, _, _, rfl, pt, us, P, rfl⟩
 rcases o with o | o
 ·intro i1; revert i1
  rintro _ e_ w_ ⟨rfl, f1, v2, _, rfl, c3, rfl, a1, rfl⟩
  refine bkr (thr ?_)
  obtain rfl := si x
  exact r1 ⟨_, f1, rfl, rfl, pt, a1, rfl⟩
 rintro _ e_ w_ ⟨rfl, g1, w2, _, rfl, d3, rfl, b1, rfl⟩
 refine bke (nrm (sr (va (B true) (wln (W.ret ?_)))))
 obtain rfl := si x
 have b0 := b1.sD 2 []
 exact r1 ⟨_, g1, rfl, rfl, pt, b0, rfl⟩
def f_linotypelaw05_ChunksRead (p0 : List Int) (p1 : List Int) : Option (Bool) :=
 (f_linotypelaw05_works).bind fun o =>
 (orE (!o) (some (decide ((p0.length : Int) > 1500)))).bind fun n =>
 (orE n (some (decide ((p1.length : Int) > 200)))).bind fun b =>
 if b = true then
 (f_linotypelaw05_works).bind fun e =>
 some e
 else
 (f_chunks_Cut p0 p1).bind fun a =>
 (f_chunks_Join a).bind fun f =>
 (f_linotyperef01_Bytes f p0).bind fun g =>
 (andE g ((f_chunks_Read a).bind fun h =>
 (f_linotyperef04_Runes p0).bind fun i =>
 (f_linotyperef01_Same h i).bind fun j =>
 some j)).bind fun c =>
 (andE c ((f_chunks_Read ([p0] : List (List Int))).bind fun k =>
 (f_linotyperef04_Runes p0).bind fun l =>
 (f_linotyperef01_Same k l).bind fun m =>
 some m)).bind fun d =>
 some d
theorem c_linotypelaw05_ChunksRead (O0 : Own c0 G F) (e : List Int) (u : List Int) {r : Bool} (n : Sl (RI .u8) c0 v1 e) (h4 : Sl (RI .i64) c0 v3 u) (H : f_linotypelaw05_ChunksRead e u = some r) :
    Calls prog 4 #[v1, v3] c0.w (Post c0 fun c v => Own c G (F) ∧ v = B r) := by
 unfold f_linotypelaw05_ChunksRead at H
 refine en func4 rfl rfl (sr (va (B false) (wln (W.seq (W.seq (bn H fun U h5 H => bn H fun t4 h6 H => bn H fun q0 h7 H => W.join (Jn c0 fun c l => Own c G (F) ∧ l = [(0, v1), (1, v3), (17, B q0)]) ?_ ?_))))))
 ·clear H
  refine W.region (cl (c_linotypelaw05_works O0 h5) ?_)
  rintro v13 q v4 ⟨O9, rfl⟩
  refine va (B (!U)) ?_
  rcases bo (!U) with f | f
  ·obtain rfl := orT f h6
   refine vb f (ps (ps (ps (va (B true) ?_))))
   have D : true = true := rfl
   obtain rfl := orT D h7
   exact vb D (ps (ps (ps (va (B true) (wln ⟨q, _, _, rfl, pt, us, O9, rfl⟩)))))
  have u1 := orF f h6
  refine vb f (wn (va (v1) (wn (vx (ln 3 underlying22 n.m) (wn (va (B (decide ((e.length : Int) > 1500))) ?_))))))
  obtain rfl := si u1
  refine va (B (decide ((e.length : Int) > 1500))) ?_
  rcases bo (decide ((e.length : Int) > 1500)) with g | g
  ·obtain rfl := orT g h7
   exact vb g (ps (ps (ps (va (B true) (wln ⟨q, _, _, rfl, pt, us, O9, rfl⟩)))))
  have w1 := orF g h7
  refine vb g (wn (va (v3) (wn (vx (ln 3 underlying23 h4.m) (wn (va (B (decide ((u.length : Int) > 200))) ?_))))))
  obtain rfl := si w1
  exact va (B (decide ((u.length : Int) > 200))) (wln ⟨q, _, _, rfl, pt, us, O9, rfl⟩)
 rintro e_ w_ ⟨m4, u4, _, rfl, e3, rfl, z, rfl⟩
 refine nrm (cn H (fun j2 H => ?_) (fun j2 H => ?_))
 ·refine sr (bn H fun j1 k2 H => cl (c_linotypelaw05_works z k2) ?_)
  rintro v32 f2 w4 ⟨x1, rfl⟩
  refine va (B j1) (wln (W.ret (thr ?_)))
  obtain rfl := si H
  exact r1 ⟨_, f2, rfl, rfl, pt, x1, rfl⟩
 refine W.skip (nrm (sr (va (v1) (va (v3) (bn H fun o l2 H => cl (c_chunks_Cut z e u n.m h4.m l2) ?_)))))
 rintro v34 g2 f3 ⟨_, i3, y1, rfl, E⟩
 refine va (v34) (wln (W.seq (bn H fun k1 n2 H => bn H fun m1 o2 H => bn H fun q3 M H => bn H fun s0 t H => W.join (Jn g2 fun c l => Own c G (es false (RL (RI .u8)) v34 22 i3 o :: F) ∧ l = [(4, B s0)]) ?_ ?_)))
 ·clear H
  refine W.region (va (v34) ?_)
  obtain ⟨n4, q2, N, z1, p2⟩ := y1.frz 0 rfl E
  refine WL.gh q2 (cl (c_chunks_Join z1 o p2 n2) ?_)
  rintro v51 o4 P ⟨_, a2, rfl, s2⟩
  refine va (v1) (cl (c_linotyperef01_Bytes a2 k1 e s2 n.m o2) ?_)
  rintro z4 i2 R ⟨p, rfl⟩
  rcases bo (m1) with h | h
  ·have b := anT h M
   refine vb h (wn (va (v34) (wn ?_)))
   have u2 := p.slf 0 rfl (E.mono (N.trans (P.trans R)))
   refine bn b fun n1 v2 b => cl (c_chunks_Read p o u2 v2) ?_
   rintro a5 p4 g3 ⟨_, x4, b2, rfl, w2⟩
   refine wn (va (v1) (wn (bn b fun q1 x2 b => cl (c_linotyperef04_Runes b2 e n.m x2) ?_)))
   rintro b5 q4 S ⟨_, y4, c2, rfl, y2⟩
   refine wn ?_
   obtain ⟨r4, a3, T, d2, z2⟩ := c2.frz 1 rfl (w2.mono S)
   refine WL.gh a3 ?_
   obtain ⟨s4, c3, h3, e2, b3⟩ := d2.frz 0 rfl (y2.mono T)
   refine WL.gh c3 (bn b fun x d3 b => cl (c_linotyperef01_Same e2 n1 q1 z2.m b3 d3) ?_)
   rintro f4 l0 g1 ⟨A, rfl⟩
   obtain rfl := si b
   refine va (B x) ?_
   rcases bo (x) with d | d
   ·have a := anT d t
    refine vb d (wn (va (v1) (wn ?_)))
    obtain ⟨i, j, k, rfl⟩ := ((n.mono (e3.trans (f3.trans (N.trans (P.trans (R.trans (g3.trans (S.trans (T.trans (h3.trans g1))))))))))).form
    refine me (sl (RL (RI .u8)) 22 [[.slice i j k]] ([e] : List (List Int)) A ⟨⟨(.slice i j k), rfl, n.m⟩, trivial⟩) ?_
    rintro g4 k3 w3 ⟨c4, X, t0⟩
    refine wn ?_
    obtain ⟨l3, v0, x3, Z, u0⟩ := X.frz 0 rfl t0
    refine WL.gh v0 (bn a fun s1 w0 a => cl (c_chunks_Read Z ([e] : List (List Int)) u0 w0) ?_)
    rintro i4 m3 y3 ⟨_, d4, a0, rfl, x0⟩
    refine wn (va (.slice i j k) (wn (bn a fun t1 y0 a => cl (c_linotyperef04_Runes a0 e n.m y0) ?_)))
    rintro j4 n3 h1 ⟨_, e4, b0, rfl, z0⟩
    refine wn ?_
    obtain ⟨o3, b1, i1, d0, a1⟩ := b0.frz 1 rfl (x0.mono h1)
    refine WL.gh b1 ?_
    obtain ⟨p3, d1, z3, e0, c1⟩ := d0.frz 0 rfl (z0.mono i1)
    refine WL.gh d1 (bn a fun y e1 a => cl (c_linotyperef01_Same e0 s1 t1 a1.m c1 e1) ?_)
    rintro k4 m0 a4 ⟨f0, rfl⟩
    obtain rfl := si a
    refine va (B y) (va (B y) (wln ?_))
    have g0 := f0.sD 6 [5]
    exact ⟨m0, _, _, rfl, pt, us, g0, rfl⟩
   obtain rfl := anF d t
   refine vb d (ps (ps (ps (ps (ps (ps (va (B false) (va (B false) (wln ?_)))))))))
   have h0 := A.sD 3 [2]
   exact ⟨l0, _, _, rfl, pt, us, h0, rfl⟩
  obtain rfl := anF h M
  refine vb h (ps (ps (ps (ps (ps (va (B false) ?_))))))
  have s : false = false := rfl
  obtain rfl := anF s t
  exact vb s (ps (ps (ps (ps (ps (ps (va (B false) (va (B false) (wln ⟨i2, _, _, rfl, pt, us, p, rfl⟩)))))))))
 rintro e_ w_ ⟨o0, t3, _, rfl, b4, rfl, i0, rfl⟩
 refine nrm (W.ret ?_)
 obtain rfl := si H
 have j0 := i0.sD 1 []
 exact r1 ⟨_, o0, rfl, rfl, pt, j0, rfl⟩

end Go.Proofs.Ytfhhpdggmefcoaa
