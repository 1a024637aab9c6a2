import Derived.Test.YtfhhpdggmefcoaaMr
import Derived.Test.YtfhhpdggmefcoaaProg
import Derived.Test.YtfhhpdggmefcoaaMy
import Derived.Test.YtfhhpdggmefcoaaMz
import Derived.Test.YtfhhpdggmefcoaaMc
namespace Go.Proofs.Ytfhhpdggmefcoaa
open Go Go.Lt
set_option maxRecDepth 10000
set_option linter.unusedVariables false
attribute [local irreducible] W WL AC
open Try
variable {c0 : Cx} {G : Gm} {F : List En} {sg : Sto} {v1 v2 v3 v4 v5 v6 v7 v8 v9 v10 v11 v12 v13 v14 v15 v16 v17 v18 v19 v20 v21 v22 v23 v24 v25 v26 v27 v28 v29 v30 v31 v32 v33 v34 v35 v36 v37 v38 v39 v40 v41 v42 v43 v44 v45 v46 v47 v48 v49 v50 v51 v52 v53 v54 v55 v56 v57 v58 v59 v60 : Value}
def f_linotyperef01_Same (p0 : List Int) (p1 : List Int) : Option (Bool) :=
 if ((p0.length : Int) != (p1.length : Int)) = true then
 some false
 else
 (iter (σ := Int) (τ := Bool ⊕ Unit) (((p0.length : Int) - 0).toNat + 1) (fun b =>
 if (decide (b < (p0.length : Int))) = true then
 (idx p0 b).bind fun c =>
 (idx p1 b).bind fun d =>
 if (c != d) = true then
 some (.inr (.inl false))
 else
 some (.inl ((w64 (b + 1))))
 else
 some (.inr (.inr ()))) (0)).bind fun a =>
 match a with
 | .inl a =>
 some a
 | .inr a =>
 some true
theorem c_linotyperef01_Same (A : Own c0 G F) (h : List Int) (u : List Int) {r : Bool} (g : Sl (RI .i32) c0 v1 h) (s : Sl (RI .i32) c0 v3 u) (H : f_linotyperef01_Same h u = some r) :
    Calls prog 13 #[v1, v3] c0.w (Post c0 fun c v => Own c G (F) ∧ v = B r) := by
 unfold f_linotyperef01_Same at H
 refine en func13 rfl rfl (sr (va (B false) (wln (W.seq (sr (va (v1) (vx (ln 3 underlying32 g) (va (v3) (vx (ln 3 underlying32 s) (va (B ((h.length : Int) != (u.length : Int))) (wln (cn H (fun h5 H => ?_) (fun h5 H => ?_)))))))))))))
 ·refine sr (va (B false) (wln (W.ret (thr ?_))))
  obtain rfl := si H
  exact r1 ⟨_, c0, rfl, rfl, pt, A, rfl⟩
 refine W.skip (nrm (W.seq (sr (va (I 0) (wln (W.block (bn H fun b h6 p => lp h6 (fun a => Jn c0 fun c l => Own c G (F) ∧ l = [(0, v1), (1, v3), (5, I a)]) (fun t => match t with | .inl x => (fun f0 ex e w => ex = .ret ∧ (Jn c0 fun c l => Own c G (F) ∧ l = [(4, B f0)]) e w) x | .inr x => (fun i0 ex e w => ex = .exit 0 ∧ (Jn c0 fun c l => Own c G (F) ∧ l = []) e w) x) ?_ ?_ ?_)))))))
 ·clear p h6
  intro a v0 R h0 H
  revert R h0
  rintro P w_ ⟨c8, g9, _, rfl, l8, rfl, i, rfl⟩
  refine W.seq (sr (va (I a) (va (v1) (vx (ln 3 underlying32 g.m) (va (B (decide (a < (h.length : Int)))) (wln (cn H (fun T H => ?_) (fun T H => ?_))))))))
  ·refine W.skip (nrm (W.seq (W.block (W.seq (rD [] (Kp G0 []) i ?_)))))
   intro d o j
   have u0 : Kp G0 [] d := Kp.nil0
   refine ta 0 (v1) (ta 1 (I a) (bn H fun y k H => ?_))
   obtain ⟨l0, U, d0⟩ := Sl.at (g.mono (l8.trans o)) (idx_get k)
   obtain rfl := U
   refine tx 2 (fun q f => ix underlying32 g.m k) (tx 3 (fun q f => l1 underlying21 ((mm d0) 0 _ rfl)) (ta 4 (v3) (ta 5 (I a) (bn H fun z n H => ?_))))
   obtain ⟨m0, X, e0⟩ := Sl.at (s.mono (l8.trans o)) (idx_get n)
   obtain rfl := X
   refine tx 6 (fun q f => ix underlying32 s.m n) (tx 7 (fun q f => l1 underlying21 ((mm e0) 0 _ rfl)) (ta 8 (B (y != z)) (dn (nrm (cn H (fun Z H => ?_) (fun Z H => ?_))))))
   ·refine sr (va (B false) (wln (W.ret (bkr (thr ?_)))))
    obtain rfl := si H
    exact ⟨_, rfl, ⟨rfl, ⟨d, _, _, rfl, pt, us, j, rfl⟩⟩⟩
   refine W.skip (bkn (nrm (W.region (va (I a) (va (I (w64 (a + 1))) (va (I (w64 (a + 1))) (WL.nil ?_)))))))
   obtain rfl := si H
   exact ⟨_, rfl, ⟨d, _, _, rfl, pt, us, j, rfl⟩⟩
  refine W.exit (thx ?_)
  obtain rfl := si H
  exact ⟨_, rfl, rfl, ⟨c8, _, _, rfl, pt, us, i, rfl⟩⟩
 ·exact ⟨c0, _, _, rfl, pt, us, A, rfl⟩
 rcases b with b | b
 ·intro S; revert S
  rintro _ P w_ ⟨rfl, M, o0, _, rfl, s0, rfl, D, rfl⟩
  refine bkr (thr ?_)
  obtain rfl := si p
  exact r1 ⟨_, M, rfl, rfl, pt, D, rfl⟩
 rintro _ P w_ ⟨rfl, N, q0, _, rfl, t0, rfl, E, rfl⟩
 refine bke (nrm (sr (va (B true) (wln (W.ret ?_)))))
 obtain rfl := si p
 exact r1 ⟨_, N, rfl, rfl, pt, E, rfl⟩
def f_linotyperef01_Bytes (p0 : List Int) (p1 : List Int) : Option (Bool) :=
 some (eqS (bstr p0) (bstr p1))
theorem c_linotyperef01_Bytes (d : Own c0 G F) (a : List Int) (b : List Int) {r : Bool} (e : Sl (RI .u8) c0 v1 a) (f : Sl (RI .u8) c0 v3 b) (H : f_linotyperef01_Bytes a b = some r) :
    Calls prog 11 #[v1, v3] c0.w (Post c0 fun c v => Own c G (F) ∧ v = B r) := by
 unfold f_linotyperef01_Bytes at H
 refine en func11 rfl rfl (sr (va (B false) (wln (sr (va (v1) (vr (.string (bstr a)) (rx (by kernel_rfl) (run_bstr underlying22 underlying5 underlying9 e)) (va (v3) (vr (.string (bstr b)) (rx (by kernel_rfl) (run_bstr underlying22 underlying5 underlying9 f)) (vr (B (eqS (bstr a) (bstr b))) (run_eqS (by kernel_rfl)) (va (B (eqS (bstr a) (bstr b))) (wln (W.ret ?_))))))))))))
 obtain rfl := si H
 exact r1 ⟨_, c0, rfl, rfl, pt, d, rfl⟩
def f_linotyperef05_Cut (p0 : List Int) (p1 : List Int) : Option (List (List Int)) :=
 (iter (σ := (List (List Int)) × Int) (τ := (List (List Int))) (((p1.length : Int) - 0).toNat + 2) (fun c =>
 if (decide (c.2 ≤ (p1.length : Int))) = true then
 (iter (σ := (List Int) × Int) (τ := (List Int)) (((p0.length : Int) - 0).toNat + 1) (fun a =>
 if (decide (a.2 < (p0.length : Int))) = true then
 ((iter (σ := Int × Int) (τ := Int) (((p1.length : Int) - 0).toNat + 1) (fun b =>
 if (decide (b.2 < (p1.length : Int))) = true then
 ((idx p1 b.2).bind fun f =>
 if (decide (f ≤ a.2)) = true then
 some ((w64 (b.1 + 1)))
 else
 some (b.1)).bind fun k =>
 some (.inl (k, (w64 (b.2 + 1))))
 else
 some (.inr (b.1))) (0, 0)).bind fun e =>
 if (e == c.2) = true then
 (idx p0 a.2).bind fun g =>
 (app a.1 ([g] : List Int)).bind fun h =>
 some (h)
 else
 some (a.1)).bind fun j =>
 some (.inl (j, (w64 (a.2 + 1))))
 else
 some (.inr (a.1))) (([] : List Int), 0)).bind fun d =>
 (app c.1 ([d] : List (List Int))).bind fun i =>
 some (.inl (i, (w64 (c.2 + 1))))
 else
 some (.inr (c.1))) (([] : List (List Int)), 0)).bind fun l =>
 some l
theorem c_linotyperef05_Cut (O0 : Own c0 G F) (p0 : List Int) (p1 : List Int) {r : List (List Int)} (h2 : Sl (RI .u8) c0 v1 p0) (h4 : Sl (RI .i64) c0 v3 p1) (H : f_linotyperef05_Cut p0 p1 = some r) :
    Calls prog 10 #[v1, v3] c0.w (Post c0 fun c v => ∃ y1 y2, Own c G (es true (RL (RI .u8)) y1 22 y2 r :: F) ∧ v = y1 ∧ OA (RL (RI .u8)) c y1 y2 r) := by
 unfold f_linotyperef05_Cut at H
 refine en func10 rfl rfl (sr (va (Y) (wln (sr (va (Y) (wln (W.seq (sr (va (I 0) (wln (W.block (bn H fun u4 h5 H6 => lp h5 (fun b => Jn c0 fun c l => ∃ v7 j, Own c G (es true (RL (RI .u8)) v7 22 j b.1 :: F) ∧ l = [(0, v1), (1, v3), (5, v7), (6, I b.2)] ∧ OA (RL (RI .u8)) c v7 j b.1) (fun S ex e w => ex = .exit 0 ∧ (Jn c0 fun c l => ∃ v9 y, Own c G (es true (RL (RI .u8)) v9 22 y S :: F) ∧ l = [(5, v9)] ∧ OA (RL (RI .u8)) c v9 y S) e w) ?_ ?_ ?_))))))))))))
 ·clear H6 h5
  intro b s0 o p H
  revert o p
  rintro q s ⟨k, g4, _, rfl, m0, rfl, v7, j, e0, rfl, h0⟩
  refine W.seq (sr (va (I b.2) (va (v3) (vx (ln 3 underlying23 h4.m) (va (B (decide (b.2 ≤ (p1.length : Int)))) (wln (cn H (fun n2 H => ?_) (fun n2 H => ?_))))))))
  ·refine W.skip (nrm (W.seq (W.block (sr (va (Y) (wln (W.seq (sr (va (I 0) (wln (W.block (bn H fun m1 i0 t => lp i0 (fun a => Jn k fun c l => ∃ v21 g, Own c G (es true (RI .u8) v21 5 g a.1 :: es true (RL (RI .u8)) v7 22 j b.1 :: F) ∧ l = [(0, v1), (1, v3), (5, v7), (6, I b.2), (7, v21), (8, I a.2)] ∧ OA (RI .u8) c v21 g a.1) (fun x ex e w => ex = .exit 2 ∧ (Jn k fun c l => ∃ v23 T, Own c G (es true (RI .u8) v23 5 T x :: es true (RL (RI .u8)) v7 22 j b.1 :: F) ∧ l = [(0, v1), (1, v3), (5, v7), (6, I b.2), (7, v23)] ∧ OA (RI .u8) c v23 T x) e w) ?_ ?_ ?_))))))))))))
   ·clear t i0
    intro a s0 o p H
    revert o p
    rintro q s ⟨n, i4, _, rfl, o0, rfl, v21, g, f0, rfl, P⟩
    refine W.seq (sr (va (I a.2) (va (v1) (vx (ln 3 underlying22 h2.m) (va (B (decide (a.2 < (p0.length : Int)))) (wln (cn H (fun o2 H => ?_) (fun o2 H => ?_))))))))
    ·refine W.skip (nrm (bn H fun Z h w1 => W.seqJ (Jn n fun c l => ∃ v35 z, Own c G (es true (RI .u8) v35 5 z Z :: es true (RL (RI .u8)) v7 22 j b.1 :: F) ∧ l = [(0, v1), (1, v3), (5, v7), (6, I b.2), (7, v35), (8, I a.2)] ∧ OA (RI .u8) c v35 z Z) ?_ ?_))
     ·refine W.block (sr (va (I 0) (wln (W.seq (sr (va (I 0) (wln (W.block (bn h fun R j0 f => lp j0 (fun d => Jn n fun c l => Own c G (es true (RI .u8) v21 5 g a.1 :: es true (RL (RI .u8)) v7 22 j b.1 :: F) ∧ l = [(0, v1), (1, v3), (5, v7), (6, I b.2), (7, v21), (8, I a.2), (9, I d.1), (10, I d.2)]) (fun b0 ex e w => ex = .exit 4 ∧ (Jn n fun c l => Own c G (es true (RI .u8) v21 5 g a.1 :: es true (RL (RI .u8)) v7 22 j b.1 :: F) ∧ l = [(0, v1), (1, v3), (5, v7), (6, I b.2), (7, v21), (8, I a.2), (9, I b0)]) e w) ?_ ?_ ?_)))))))))
      ·clear f j0
       intro d s0 o p h
       revert o p
       rintro q s ⟨u, j4, _, rfl, f3, rfl, A, rfl⟩
       refine W.seq (sr (va (I d.2) (va (v3) (vx (ln 3 underlying23 h4.m) (va (B (decide (d.2 < (p1.length : Int)))) (wln (cn h (fun p2 h => ?_) (fun p2 h => ?_))))))))
       ·refine W.skip (nrm (bn h fun u1 i x1 => W.seqJ (Jn u fun c l => Own c G (es true (RI .u8) v21 5 g a.1 :: es true (RL (RI .u8)) v7 22 j b.1 :: F) ∧ l = [(0, v1), (1, v3), (5, v7), (6, I b.2), (7, v21), (8, I a.2), (9, I u1), (10, I d.2)]) ?_ ?_))
        ·refine W.block (sr (va (v3) (va (I d.2) (bn i fun s1 k0 i => ?_))))
         obtain ⟨x3, s2, h3⟩ := Sl.at (h4.mono (m0.trans (o0.trans f3))) (idx_get k0)
         obtain rfl := s2
         refine vx (ix underlying23 h4.m k0) (vx (l1 underlying3 (h3 0 _ rfl)) (va (I a.2) (va (B (decide (s1 ≤ a.2))) (wln (cn i (fun t2 i => ?_) (fun t2 i => ?_))))))
         ·refine W.region (va (I d.1) (va (I (w64 (d.1 + 1))) (va (I (w64 (d.1 + 1))) (WL.nil (bkn (nrm ?_))))))
          obtain rfl := si i
          exact ⟨u, _, _, rfl, pt, us, A, rfl⟩
         refine W.skip (bkn (nrm ?_))
         obtain rfl := si i
         exact ⟨u, _, _, rfl, pt, us, A, rfl⟩
        rintro q s ⟨j2, k4, _, rfl, o4, rfl, a2, rfl⟩
        refine W.region (va (I d.2) (va (I (w64 (d.2 + 1))) (va (I (w64 (d.2 + 1))) (WL.nil ?_))))
        obtain rfl := si x1
        exact ⟨_, rfl, ⟨j2, _, _, rfl, pt, us, a2, rfl⟩⟩
       refine W.exit (thx ?_)
       obtain rfl := si h
       exact ⟨_, rfl, rfl, ⟨u, _, _, rfl, pt, us, A, rfl⟩⟩
      ·exact ⟨n, _, _, rfl, pt, us, f0, rfl⟩
      rintro _ q s ⟨rfl, k2, l4, _, rfl, g3, rfl, g0, rfl⟩
      refine bke (nrm (sr (va (I R) (va (I b.2) (va (B (R == b.2)) (wln (cn f (fun u2 f => ?_) (fun u2 f => ?_))))))))
      ·refine W.region (va (v21) (va (v1) (va (I a.2) (bn f fun X l0 f => ?_))))
       obtain ⟨y3, v2, i3⟩ := Sl.at (h2.mono (m0.trans (o0.trans g3))) (idx_get l0)
       obtain rfl := v2
       refine vx (ix underlying22 h2.m l0) (vx (l1 underlying5 (i3 0 _ rfl)) (me (sl (RI .u8) 5 [[.int .u8 X]] ([X] : List Int) g0 ⟨rfl, trivial⟩) ?_))
       rintro w4 d4 p4 ⟨v4, b2, w2⟩
       obtain ⟨e4, z2, q4, c2, x2⟩ := b2.frz 0 rfl w2
       refine WL.gh z2 (bn f fun b4 a3 f => me (ap (RI .u8) (.int .u8 0) 1 22 1 c2 P.m x2 a3 underlying22) ?_)
       rintro q0 l2 r4 ⟨j3, d2, b3⟩
       refine va (q0) (WL.nil (bkn (nrm ?_)))
       obtain rfl := si f
       have e2 := d2.sD 3 [1, 2]
       exact ⟨l2, _, _, rfl, pt, us, q0, j3, e2, rfl, b3⟩
      refine W.skip (bkn (nrm ?_))
      obtain rfl := si f
      exact ⟨k2, _, _, rfl, pt, us, v21, g, g0, rfl, P.m⟩
     rintro q s ⟨m2, m4, _, rfl, s4, rfl, v35, z, f2, rfl, c3⟩
     refine W.region (va (I a.2) (va (I (w64 (a.2 + 1))) (va (I (w64 (a.2 + 1))) (WL.nil ?_))))
     obtain rfl := si w1
     exact ⟨_, rfl, ⟨m2, _, _, rfl, pt, us, v35, z, f2, rfl, c3⟩⟩
    refine W.exit (thx ?_)
    obtain rfl := si H
    exact ⟨_, rfl, rfl, ⟨n, _, _, rfl, pt, us, v21, g, f0, rfl, P⟩⟩
   ·have d3 : OA (RI .u8) k (Y) [] [] := OA.nil (Nat.succ_pos _)
    have g2 := e0.addHole (e := es true (RI .u8) (Y) 5 [] ([] : List Int)) rfl
    exact ⟨k, _, _, rfl, pt, us, (Y), [], g2, rfl, d3⟩
   rintro _ q s ⟨rfl, f4, n4, _, rfl, t4, rfl, v23, T, i2, rfl, e3⟩
   refine bke (nrm (W.region (va (v7) (va (v23) ?_))))
   obtain ⟨m3, c1, q3, t0, N⟩ := i2.frz 0 rfl e3
   refine WL.gh c1 ?_
   obtain ⟨D, E, M, rfl⟩ := (N).form
   refine me (sl (RL (RI .u8)) 22 [[.slice D E M]] ([m1] : List (List Int)) t0 ⟨⟨(.slice D E M), rfl, N⟩, trivial⟩) ?_
   rintro a4 n3 s3 ⟨z3, u0, d1⟩
   obtain ⟨o3, f1, t3, v0, e1⟩ := u0.frz 0 rfl d1
   refine WL.gh f1 (bn t fun c4 g1 t => me (ap (RL (RI .u8)) (Y) 24 25 2 v0 h0.m e1 g1 underlying25) ?_)
   rintro U a1 u3 ⟨q1, w0, h1⟩
   refine va (U) (WL.nil (bkn (nrm (W.region (va (I b.2) (va (I (w64 (b.2 + 1))) (va (I (w64 (b.2 + 1))) (WL.nil ?_))))))))
   obtain rfl := si t
   refine ⟨_, rfl, ?_⟩
   have x0 := w0.sD 3 [2]
   exact ⟨a1, _, _, rfl, pt, us, U, q1, x0, rfl, h1⟩
  refine W.exit (thx ?_)
  obtain rfl := si H
  exact ⟨_, rfl, rfl, ⟨k, _, _, rfl, pt, us, v7, j, e0, rfl, h0⟩⟩
 ·have i1 : OA (RL (RI .u8)) c0 (Y) [] [] := OA.nil (Nat.succ_pos _)
  have y0 := O0.addHole (e := es true (RL (RI .u8)) (Y) 22 [] ([] : List (List Int))) rfl
  exact ⟨c0, _, _, rfl, pt, us, (Y), [], y0, rfl, i1⟩
 rintro _ q s ⟨rfl, b1, p3, _, rfl, w3, rfl, v9, y, z0, rfl, j1⟩
 refine bke (nrm (sr (va (v9) (va (v9) (wln (W.ret ?_))))))
 obtain rfl := si H6
 exact r1 ⟨_, b1, rfl, rfl, pt, v9, y, z0, rfl, j1⟩
def f_chunks_Cut (p0 : List Int) (p1 : List Int) : Option (List (List Int)) :=
 (rep 0 0).bind fun n =>
 (rep (p1.length : Int) 0).bind fun p =>
 (iter (σ := (List Int) × Int) (τ := (List Int)) (((p1.length : Int) - 0).toNat + 1) (fun b =>
 if (decide (b.2 < (p1.length : Int))) = true then
 (idx p1 b.2).bind fun g =>
 (app b.1 ([(imax 0 (imin g (p0.length : Int)))] : List Int)).bind fun h =>
 some (.inl (h, (w64 (b.2 + 1))))
 else
 some (.inr (b.1))) (n, 0)).bind fun e =>
 (f_slices_Sort e).bind fun i =>
 (rep 0 ([] : List Int)).bind fun j =>
 (rep (w64 ((p1.length : Int) + 1)) ([] : List Int)).bind fun o =>
 (app i ([(p0.length : Int)] : List Int)).bind fun c =>
 (iter (σ := (List (List Int)) × Int × Int) (τ := (List (List Int))) (((c.length : Int) - 0).toNat + 1) (fun a =>
 if (decide (a.2.2 < (c.length : Int))) = true then
 (idx c a.2.2).bind fun d =>
 (slc p0 a.2.1 d).bind fun k =>
 (f_bytes_Clone k).bind fun l =>
 (app a.1 ([l] : List (List Int))).bind fun m =>
 some (.inl (m, d, (w64 (a.2.2 + 1))))
 else
 some (.inr (a.1))) (j, 0, 0)).bind fun f =>
 some f
theorem c_chunks_Cut (O0 : Own c0 G F) (n : List Int) (q : List Int) {r : List (List Int)} (h2 : Sl (RI .u8) c0 v1 n) (Z : Sl (RI .i64) c0 v3 q) (H : f_chunks_Cut n q = some r) :
    Calls prog 9 #[v1, v3] c0.w (Post c0 fun c v => ∃ y1 y2, Own c G (es true (RL (RI .u8)) y1 22 y2 r :: F) ∧ v = y1 ∧ OA (RL (RI .u8)) c y1 y2 r) := by
 unfold f_chunks_Cut at H
 refine en func9 rfl rfl (sr (va (Y) (wln (sr (va (v3) (vx (ln 3 underlying23 Z) (bn H fun b6 h5 H => bn H fun c6 h6 H => me (Own.mkS (kl := .i64) (kc := .i64) (R := (RI .i64)) (z := I 0) (lz := [I 0]) (x := 0) (by_ := 8) (i := 0) (j := (q.length : Int)) true O0 (Nat.succ_pos _) h5 (rep_nn h6) (rep_le h6) underlying23 (by kernel_rfl) rfl rfl (fun _ => rfl) (by kernel_rfl) (by kernel_rfl)) ?_)))))))
 rintro v11 S q0 ⟨u8, O7, h9⟩
 refine va (v11) (wln (W.seq (sr (va (v3) (vx (ln 3 underlying23 Z.m) (va (I 0) (wln (W.block (bn H fun e2 i0 a => lp i0 (fun d => Jn S fun c l => ∃ v14 y, Own c G (es true (RI .i64) v14 3 y d.1 :: F) ∧ l = [(0, v1), (1, v3), (5, v14), (15, v3), (16, I (q.length : Int)), (17, I d.2)] ∧ OA (RI .i64) c v14 y d.1) (fun t ex e w => ex = .exit 0 ∧ (Jn S fun c l => ∃ v16 b0, Own c G (es true (RI .i64) v16 3 b0 t :: F) ∧ l = [(0, v1), (1, v3), (5, v16)] ∧ OA (RI .i64) c v16 b0 t) e w) ?_ ?_ ?_)))))))))
 ·clear a i0
  intro d f4 U f0 H
  revert U f0
  rintro e_ w_ ⟨x2, s5, _, rfl, u3, rfl, v14, y, h0, rfl, j0⟩
  refine sr (va (B (decide (d.2 < (q.length : Int)))) (wln (W.seq (cn H (fun b3 H => ?_) (fun b3 H => ?_)))))
  ·refine W.skip (nrm (W.seq (W.block (sr (bn H fun f k0 H => ?_)))))
   obtain ⟨y4, c3, c4⟩ := Sl.at (Z.mono (q0.trans u3)) (idx_get k0)
   obtain rfl := c3
   refine vx (ix underlying23 Z.m k0) (vx (l1 underlying3 (c4 0 _ rfl)) (va (I f) (wln (W.region (va (v14) (va (I f) (va (v1) (vx (ln 3 underlying22 h2.m) (va (I (imin f (n.length : Int))) (va (I (imax 0 (imin f (n.length : Int)))) (me (sl (RI .i64) 3 [[I (imax 0 (imin f (n.length : Int)))]] ([(imax 0 (imin f (n.length : Int)))] : List Int) h0 ⟨rfl, trivial⟩) ?_)))))))))))
   rintro v34 l5 v5 ⟨y5, m2, d3⟩
   obtain ⟨m5, f3, w5, n2, e3⟩ := m2.frz 0 rfl d3
   refine WL.gh f3 (bn H fun f5 g3 H => me (ap (RI .i64) (I 0) 8 23 1 n2 j0.m e3 g3 underlying23) ?_)
   rintro v44 z2 x5 ⟨d4, o2, h3⟩
   refine va (v44) (WL.nil (bkn (nrm (W.region (va (I (w64 (d.2 + 1))) (va (I (w64 (d.2 + 1))) (WL.nil ?_)))))))
   obtain rfl := si H
   refine ⟨_, rfl, ?_⟩
   have p2 := o2.sD 2 [1]
   exact ⟨z2, _, _, rfl, pt, us, v44, d4, p2, rfl, h3⟩
  refine W.exit (thx ?_)
  obtain rfl := si H
  exact ⟨_, rfl, rfl, ⟨x2, _, _, rfl, pt, us, v14, y, h0, rfl, j0⟩⟩
 ·exact ⟨S, _, _, rfl, pt, us, v11, u8, O7, rfl, h9⟩
 rintro _ e_ w_ ⟨rfl, n5, t5, _, rfl, w3, rfl, v16, b0, q2, rfl, i3⟩
 refine bke (nrm (sr (va (v16) (bn a fun g5 j3 a => cl (c_slices_Sort e2 q2 i3 j3) ?_))))
 rintro a6 o5 x3 ⟨z5, s2, rfl, k3⟩
 refine wln (sr (va (v3) (vx (ln 3 underlying23 Z.m) (va (I (w64 ((q.length : Int) + 1))) (bn a fun i5 m3 a => bn a fun k5 l0 a => me (Own.mkS (kl := .i64) (kc := .i64) (R := (RL (RI .u8))) (z := Y) (lz := [Y]) (x := ([] : List Int)) (by_ := 24) (i := 0) (j := (w64 ((q.length : Int) + 1))) true s2 (Nat.succ_pos _) m3 (rep_nn l0) (rep_le l0) underlying25 (by kernel_rfl) rfl rfl (fun _ => ⟨(Y), rfl, (Sl.nl _ _)⟩) (by kernel_rfl) (by kernel_rfl)) ?_)))))
 rintro v0 p5 y3 ⟨e4, t2, n3⟩
 refine va (v0) (wln (sr (va (I 0) (wln (W.seq (sr (va (v16) (va (v1) (vx (ln 3 underlying22 h2.m) (me (sl (RI .i64) 3 [[I (n.length : Int)]] ([(n.length : Int)] : List Int) t2 ⟨rfl, trivial⟩) ?_))))))))))
 rintro w0 q5 z3 ⟨t0, u2, o3⟩
 obtain ⟨r5, q3, a4, v2, p3⟩ := u2.frz 0 rfl o3
 refine WL.gh q3 (bn a fun p s3 a => me (ap (RI .i64) (I 0) 8 23 2 v2 k3.m p3 s3 underlying23) ?_)
 rintro e0 T b4 ⟨u0, w2, s⟩
 refine vx (lnO 3 underlying23 s) (va (I 0) (wln (W.block (bn a fun z4 m0 g0 => lp m0 (fun b => Jn T fun c l => ∃ o A, Own c G (es true (RL (RI .u8)) o 22 A b.1 :: es false (RI .i64) w0 3 t0 ([(n.length : Int)] : List Int) :: es true (RI .i64) e0 3 u0 p :: F) ∧ l = [(0, v1), (8, o), (9, I b.2.1), (40, e0), (41, I (p.length : Int)), (42, I b.2.2)] ∧ OA (RL (RI .u8)) c o A b.1) (fun u ex e w => ex = .exit 2 ∧ (Jn T fun c l => ∃ g D, Own c G (es true (RL (RI .u8)) g 22 D u :: es false (RI .i64) w0 3 t0 ([(n.length : Int)] : List Int) :: es true (RI .i64) e0 3 u0 p :: F) ∧ l = [(8, g)] ∧ OA (RL (RI .u8)) c g D u) e w) ?_ ?_ ?_))))
 ·clear g0 m0
  intro b f4 U f0 a
  revert U f0
  rintro e_ w_ ⟨a3, u5, _, rfl, s0, rfl, o, A, E, rfl, o0⟩
  refine sr (va (B (decide (b.2.2 < (p.length : Int)))) (wln (W.seq (cn a (fun t3 a => ?_) (fun t3 a => ?_)))))
  ·refine W.skip (nrm (W.seq (W.block (sr (bn a fun h a0 a => vx (ixO underlying23 s.m a0) ?_)))))
   obtain ⟨i4, j1, d2⟩ := OA.at (s.mono s0) a0
   obtain rfl := j1
   refine vr (I h) (rx (by kernel_rfl) (ldE1 underlying3 rfl (E.on 2 rfl) (s.m.blk a0) (at1 (j := 0) d2 rfl))) (va (I h) (wln (sr (va (o) (va (v1) (va (I b.2.1) (va (I h) (bn a fun j2 k1 a => ?_))))))))
   obtain ⟨g2, m1, n1⟩ := run_cut (k := .i64) (k' := .i64) underlying22 (by kernel_rfl) (h2.mono (q0.trans (w3.trans (x3.trans (y3.trans (z3.trans (a4.trans (b4.trans s0)))))))) k1
   refine vr g2 (rx (by kernel_rfl) (m1 _)) (bn a fun k2 q1 a => cl (c_bytes_Clone E j2 n1 q1) ?_)
   rintro d5 l4 s4 ⟨_, a5, x0, rfl, s1⟩
   obtain ⟨m4, t1, t4, y0, X⟩ := x0.frz 0 rfl s1
   refine WL.gh t1 ?_
   obtain ⟨M, N, P, rfl⟩ := (X).form
   refine me (sl (RL (RI .u8)) 22 [[.slice M N P]] ([k2] : List (List Int)) y0 ⟨⟨(.slice M N P), rfl, X⟩, trivial⟩) ?_
   rintro e5 n4 u4 ⟨b5, z0, u1⟩
   obtain ⟨o4, x1, v4, a1, w1⟩ := z0.frz 0 rfl u1
   refine WL.gh x1 (bn a fun j5 z1 a => me (ap (RL (RI .u8)) (Y) 24 25 2 a1 o0.m w1 z1 underlying25) ?_)
   rintro d0 g1 w4 ⟨f2, b1, a2⟩
   refine va (d0) (wln (W.region (va (I h) (va (I h) (WL.nil (bkn (nrm (W.region (va (I (w64 (b.2.2 + 1))) (va (I (w64 (b.2.2 + 1))) (WL.nil ?_)))))))))))
   obtain rfl := si a
   refine ⟨_, rfl, ?_⟩
   have c1 := b1.sD 5 [2, 3, 4]
   exact ⟨g1, _, _, rfl, pt, us, d0, f2, c1, rfl, a2⟩
  refine W.exit (thx ?_)
  obtain rfl := si a
  exact ⟨_, rfl, rfl, ⟨a3, _, _, rfl, pt, us, o, A, E, rfl, o0⟩⟩
 ·have d1 := w2.sD 3 [1, 0, 2]
  exact ⟨T, _, _, rfl, pt, us, v0, e4, d1, rfl, n3.m⟩
 rintro _ e_ w_ ⟨rfl, h1, p4, _, rfl, x4, rfl, g, D, e1, rfl, b2⟩
 refine bke (nrm (sr (va (g) (va (g) (wln (W.ret ?_))))))
 obtain rfl := si g0
 have f1 := e1.sD 3 [0]
 exact r1 ⟨_, h1, rfl, rfl, pt, g, D, f1, rfl, b2⟩
def f_chunks_Join (p0 : List (List Int)) : Option (List Int) :=
 (f_bytes_Join p0 ([] : List Int)).bind fun a =>
 some a
theorem c_chunks_Join (e : Own c0 G F) (a : List (List Int)) {r : List Int} (g : Sl (RL (RI .u8)) c0 v1 a) (H : f_chunks_Join a = some r) :
    Calls prog 12 #[v1] c0.w (Post c0 fun c v => ∃ d, Own c G (F) ∧ v = d ∧ Sl (RI .u8) c d r) := by
 unfold f_chunks_Join at H
 refine en func12 rfl rfl (sr (va (Y) (wln (sr (va (v1) (bn H fun k h H => cl (c_bytes_Join e a ([] : List Int) g (Sl.nl _ _) h) ?_))))))
 rintro v4 b j ⟨_, f, rfl, i⟩
 refine va (v4) (wln (W.ret ?_))
 obtain rfl := si H
 exact r1 ⟨_, b, rfl, rfl, pt, v4, f, rfl, i⟩

end Go.Proofs.Ytfhhpdggmefcoaa
