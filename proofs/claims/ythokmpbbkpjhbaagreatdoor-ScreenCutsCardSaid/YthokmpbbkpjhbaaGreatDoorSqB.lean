/- Parts of the proofs of ScreenCuts: the walk through the code, and plain Lean. No condition. -/
import Derived.Test.YthokmpbbkpjhbaaGreatDoorSqA
import Derived.Test.YthokmpbbkpjhbaaGreatDoorProg
import Derived.Shelf.Spec.SlicesInsertGrow
import Derived.Shelf.Slices.Delete
set_option linter.unusedVariables false
set_option linter.unusedSimpArgs false
namespace Go.Proofs.YthokmpbbkpjhbaaGreatDoor
open Go Go.Lt
set_option maxRecDepth 10000
set_option linter.unusedVariables false
attribute [local irreducible] W WL AC
open Tryz
variable {c0 : Cx} {G : Gm} {F : List En} {sg : Sto} {v1 v2 v3 v4 v5 v6 v7 v8 v9 v10 v11 v12 v13 v14 v15 v16 v17 v18 v19 v20 v21 v22 v23 v24 v25 v26 v27 v28 v29 v30 v31 v32 v33 v34 v35 v36 v37 v38 v39 v40 v41 v42 v43 v44 v45 v46 v47 v48 v49 v50 v51 v52 v53 v54 v55 v56 v57 v58 v59 v60 : Value}
def f_grid_Grid_High (sg : Sto) (p0 : Option Nat) : Option (Int) :=
 if p0.isNone = true then
 some 0
 else
 (p0).bind fun b =>
 (sg.grid_Grid[b]?).bind fun a =>
 some (a.rows.length : Int)
theorem c_grid_Grid_High (d : Own c0 G F) (k : Rel c0 sg G) (f : Option Nat) {r : Int} (j : Pt 1 c0 v1 f) (H : f_grid_Grid_High sg f = some r) :
    Calls prog 34 #[v1] c0.w (Post c0 fun c v => Own c G (F) ∧ v = I r) := by
 unfold f_grid_Grid_High at H
 refine en func34 rfl rfl (sr (va (I 0) (wln (W.seq (sr (va (v1) (vr (B f.isNone) (by rcases (j).cs with ⟨a, b⟩ | ⟨q, a, b⟩ <;> (subst a; rw [b]; kernel_rfl)) (wln (cn H (fun l H => ?_) (fun l H => ?_))))))))))
 ·refine sr (va (I 0) (wln (W.ret (thr ?_))))
  obtain rfl := si H
  exact r1 ⟨_, c0, rfl, rfl, pt, d, rfl⟩
 refine W.skip (nrm (sr (va (v1) (bn H fun p n H => ?_))))
 obtain ⟨g, rfl, m⟩ := (j).get n
 refine va (Q g) (va (Q g) (bn H fun e o H => ?_))
 obtain ⟨v8, s, i, h⟩ := Rel.open_grid_Grid k o m
 refine vx (le1 0 underlying120 (d.gon i 0 rfl)) (vx (lnO 3 underlying120 h) (va (I (e.rows.length : Int)) (wln (W.ret ?_))))
 obtain rfl := si H
 exact r1 ⟨_, c0, rfl, rfl, pt, d, rfl⟩
def f_scroll_of (sg : Sto) (p0 : Option Nat) (p1 : Int) (p2 : Int) (p3 : Int) : Option (G_scroll_stretch × Bool) :=
 (f_grid_Grid_High sg p0).bind fun b =>
 (f_grid_Grid_High sg p0).bind fun a =>
 (andE (decide ((imax 0 (imin p1 b)) < (imax 0 (imin p2 a)))) (some (decide (p3 > 0)))).bind fun c =>
 some ((⟨(imax 0 (imin p1 b)), (imax 0 (imin p2 a)), (imin p3 (w64 ((imax 0 (imin p2 a)) - (imax 0 (imin p1 b)))))⟩ : G_scroll_stretch), c)
theorem c_scroll_of (S : Own c0 G F) (z : Rel c0 sg G) (j : Option Nat) (d : Int) (e : Int) (f : Int) {r : G_scroll_stretch × Bool} (R : Pt 1 c0 v1 j) (H : f_scroll_of sg j d e f = some r) :
    Calls prog 207 #[v1, I d, I e, I f] c0.w (Post c0 fun c v => Own c G (F) ∧ v = .tuple #[.agg #[I r.1.from_, I r.1.to_, I r.1.n], B r.2]) := by
 unfold f_scroll_of at H
 refine en func207 rfl rfl (sr (me (al 261 [I 0, I 0, I 0] S) ?_))
 rintro v6 c5 l5 ⟨D, rfl, T⟩
 refine va (B false) (wln (sr (va (I d) (va (v1) (bn H fun b X H => cl (c_grid_Grid_High T z.m j R.m X) ?_)))))
 rintro v13 Z e0 ⟨U, rfl⟩
 refine va (I (imin d b)) (va (I (imax 0 (imin d b))) (va (I e) (va (v1) (bn H fun a P H => cl (c_grid_Grid_High U z.m j R.m P) ?_))))
 rintro v20 a0 f0 ⟨s, rfl⟩
 refine va (I (imin e a)) (va (I (imax 0 (imin e a))) (va (I (imax 0 (imin d b))) (va (I (imax 0 (imin e a))) (wln (sr (va (I (imax 0 (imin d b))) (va (I (imax 0 (imin e a))) (va (I f) (va (I (imax 0 (imin e a))) (va (I (imax 0 (imin d b))) (va (I (w64 ((imax 0 (imin e a)) - (imax 0 (imin d b))))) (va (I (imin f (w64 ((imax 0 (imin e a)) - (imax 0 (imin d b)))))) (va (.agg #[I (imax 0 (imin d b)), I (imax 0 (imin e a)), I (imin f (w64 ((imax 0 (imin e a)) - (imax 0 (imin d b)))))]) (me (al 261 [I 0, I 0, I 0] s) ?_))))))))))))))
 rintro v24 b0 g0 ⟨A, rfl, t⟩
 refine md (sA 261 [I (imax 0 (imin d b)), I (imax 0 (imin e a)), I (imin f (w64 ((imax 0 (imin e a)) - (imax 0 (imin d b)))))] 0 t ⟨rfl, rfl, rfl, trivial⟩) ?_
 rintro E h0 h
 refine wln (W.seq (bn H fun i p H => W.join (Jn E fun c l => Own c G ((Eb A 261 [I (imax 0 (imin d b)), I (imax 0 (imin e a)), I (imin f (w64 ((imax 0 (imin e a)) - (imax 0 (imin d b)))))]) :: (Eb D 261 [I (imax 0 (imin d b)), I (imax 0 (imin e a)), I (imin f (w64 ((imax 0 (imin e a)) - (imax 0 (imin d b)))))]) :: F) ∧ l = [(8, Q D), (9, B i)]) ?_ ?_))
 ·clear H
  refine W.region (vx (leN 261 0 [I (imax 0 (imin d b)), I (imax 0 (imin e a)), I (imin f (w64 ((imax 0 (imin e a)) - (imax 0 (imin d b)))))] (h.on 0 rfl)) (va (I (imax 0 (imin d b))) (va (I (imax 0 (imin e a))) (va (B (decide ((imax 0 (imin d b)) < (imax 0 (imin e a))))) ?_))))
  rcases bo (decide ((imax 0 (imin d b)) < (imax 0 (imin e a)))) with g | g
  ·have q := anT g p
   refine vb g (wn (va (I f) (wn (va (B (decide (f > 0))) ?_))))
   obtain rfl := si q
   refine va (B (decide (f > 0))) (md (sA 261 [I (imax 0 (imin d b)), I (imax 0 (imin e a)), I (imin f (w64 ((imax 0 (imin e a)) - (imax 0 (imin d b)))))] 1 h ⟨rfl, rfl, rfl, trivial⟩) ?_)
   rintro M i0 u
   exact va (B (decide (f > 0))) (wln ⟨M, _, _, rfl, pt, us, u, rfl⟩)
  obtain rfl := anF g p
  refine vb g (ps (ps (va (B false) (md (sA 261 [I (imax 0 (imin d b)), I (imax 0 (imin e a)), I (imin f (w64 ((imax 0 (imin e a)) - (imax 0 (imin d b)))))] 1 h ⟨rfl, rfl, rfl, trivial⟩) ?_))))
  rintro N j0 x
  exact va (B false) (wln ⟨N, _, _, rfl, pt, us, x, rfl⟩)
 rintro e_ w_ ⟨o, d0, _, rfl, k0, rfl, k, rfl⟩
 refine nrm (W.ret ?_)
 obtain rfl := si H
 have y := k.sD 2 []
 exact retCT (c := o) (vs := [I (imax 0 (imin d b)), I (imax 0 (imin e a)), I (imin f (w64 ((imax 0 (imin e a)) - (imax 0 (imin d b)))))]) (v := B i) rfl (by kernel_rfl) (by kernel_rfl) (by kernel_rfl) (by kernel_rfl) (k.on 1 rfl _ rfl).1 ⟨_, o, rfl, rfl, pt, y, rfl⟩
def f_grid_Grid_Row (sg : Sto) (p0 : Option Nat) (p1 : Int) : Option (Option Nat) :=
 (orE (decide (p1 < 0)) ((f_grid_Grid_High sg p0).bind fun e =>
 some (decide (p1 ≥ e)))).bind fun d =>
 if d = true then
 some (none : Option Nat)
 else
 (p0).bind fun a =>
 (sg.grid_Grid[a]?).bind fun b =>
 (idx b.rows p1).bind fun c =>
 some c
theorem c_grid_Grid_Row (p : Own c0 G F) (q : Rel c0 sg G) (o : Option Nat) (a : Int) {r : Option Nat} (x : Pt 1 c0 v1 o) (H : f_grid_Grid_Row sg o a = some r) :
    Calls prog 72 #[v1, I a] c0.w (Post c0 fun c v => ∃ P, Own c G (F) ∧ v = P ∧ Pt 0 c P r) := by
 unfold f_grid_Grid_Row at H
 refine en func72 rfl rfl (sr (va (.pointer none) (wln (W.seq (W.seq (bn H fun t D H => W.join (Jn c0 fun c l => Own c G (F) ∧ l = [(0, v1), (1, I a), (12, B t)]) ?_ ?_))))))
 ·clear H
  refine W.region (va (I a) (va (B (decide (a < 0))) ?_))
  rcases bo (decide (a < 0)) with f | f
  ·obtain rfl := orT f D
   exact vb f (ps (ps (ps (ps (va (B true) (wln ⟨c0, _, _, rfl, pt, us, p, rfl⟩))))))
  have n := orF f D
  refine vb f (wn (va (I a) (wn (va (v1) (wn (bn n fun m S n => cl (c_grid_Grid_High p q o x S) ?_))))))
  rintro v12 s b0 ⟨R, rfl⟩
  refine wn (va (B (decide (a ≥ m))) ?_)
  obtain rfl := si n
  exact va (B (decide (a ≥ m))) (wln ⟨s, _, _, rfl, pt, us, R, rfl⟩)
 rintro e_ w_ ⟨h, a0, _, rfl, k, rfl, b, rfl⟩
 refine nrm (cn H (fun u H => ?_) (fun u H => ?_))
 ·refine sr (va (.pointer none) (wln (W.ret (thr ?_))))
  obtain rfl := si H
  exact r1 ⟨_, h, rfl, rfl, pt, (.pointer none), b, rfl, rfl⟩
 refine W.skip (nrm (sr (va (v1) (bn H fun T z H => ?_))))
 obtain ⟨g, rfl, y⟩ := ((x.mono k)).get z
 refine va (Q g) (va (Q g) (bn H fun X A H => ?_))
 obtain ⟨v24, d0, i, d⟩ := Rel.open_grid_Grid (q.mono k) A y
 refine vx (le1 0 underlying120 (b.gon i 0 rfl)) (va (I a) (bn H fun Z e H => vx (ixO underlying120 d e) ?_))
 obtain ⟨U, E, N⟩ := OA.at d e
 obtain ⟨v32, rfl, M⟩ := E
 refine vr v32 (rx (by kernel_rfl) (ldE1 underlying116 rfl (b.gon i 1 rfl) (d.blk e) (at1 (j := 0) N rfl))) (va (v32) (wln (W.ret ?_)))
 obtain rfl := si H
 exact r1 ⟨_, h, rfl, rfl, pt, v32, b, rfl, M⟩
def f_grid_Grid_Set (sg : Sto) (p0 : Option Nat) (p1 : Int) (p2 : Option Nat) : Option (Sto × Bool) :=
 (orE p2.isNone ((f_grid_Grid_Row sg p0 p1).bind fun h =>
 (f_row_Row_Wide sg h).bind fun e =>
 (f_row_Row_Wide sg p2).bind fun f =>
 some (e != f))).bind fun g =>
 if g = true then
 some (sg, false)
 else
 (p0).bind fun b =>
 (sg.grid_Grid[b]?).bind fun c =>
 (idx c.rows p1).bind fun i =>
 (sets c.rows p1 p2).bind fun d =>
 (sg.set_grid_Grid b (⟨d⟩ : G_grid_Grid)).bind fun a =>
 some (a, true)
theorem c_grid_Grid_Set (M : Own c0 G F) (e : Rel c0 sg G) (z : Option Nat) (f : Int) (g : Option Nat) {r : Sto × Bool} (h2 : Pt 1 c0 v1 z) (j : Pt 0 c0 v3 g) (H : f_grid_Grid_Set sg z f g = some r) :
    Calls prog 189 #[v1, I f, v3] c0.w (Post c0 fun c v => ∃ G_ : Gm, Own c G_ (F) ∧ Rel c r.1 G_ ∧ v = B r.2) := by
 unfold f_grid_Grid_Set at H
 refine en func189 rfl rfl (sr (va (B false) (wln (W.seq (W.seq (bn H fun g0 h5 H => W.join (Jn c0 fun c l => Own c G (F) ∧ l = [(0, v1), (1, I f), (2, v3), (17, B g0)]) ?_ ?_))))))
 ·clear H
  refine W.region (va (v3) (vr (B g.isNone) (by rcases (j).cs with ⟨p, q⟩ | ⟨b_, p, q⟩ <;> (subst p; rw [q]; kernel_rfl)) ?_))
  rcases bo (g.isNone) with k | k
  ·obtain rfl := orT k h5
   exact vb k (ps (ps (ps (ps (ps (ps (ps (va (B true) (wln ⟨c0, _, _, rfl, pt, us, M, rfl⟩)))))))))
  have a := orF k h5
  refine vb k (wn (va (v1) (wn (va (I f) (wn (bn a fun x0 h8 a => cl (c_grid_Grid_Row M e z f h2 h8) ?_))))))
  rintro v9 d1 h1 ⟨_, N, rfl, h0⟩
  refine wn (bn a fun n i0 a => cl (c_row_Row_Wide N e.m x0 h0 i0) ?_)
  rintro v23 e1 i1 ⟨P, rfl⟩
  refine wn (va (v3) (wn (bn a fun o k0 a => cl (c_row_Row_Wide P e.m g j.m k0) ?_)))
  rintro v30 d0 j1 ⟨S, rfl⟩
  refine wn (va (B (n != o)) ?_)
  obtain rfl := si a
  exact va (B (n != o)) (wln ⟨d0, _, _, rfl, pt, us, S, rfl⟩)
 rintro e_ w_ ⟨e0, f1, _, rfl, d, rfl, h, rfl⟩
 refine nrm (cn H (fun l0 H => ?_) (fun l0 H => ?_))
 ·refine sr (va (B false) (wln (W.ret (thr ?_))))
  obtain rfl := si H
  exact r1 ⟨_, e0, rfl, rfl, pt, G, h, e.m, rfl⟩
 refine W.skip (nrm (sr (va (v1) (bn H fun z0 m0 H => ?_))))
 obtain ⟨b, rfl, s⟩ := ((h2.mono d)).get m0
 refine va (Q b) (va (Q b) (bn H fun a1 o0 H => ?_))
 obtain ⟨v42, k1, x, t⟩ := Rel.open_grid_Grid (e.mono d) o0 s
 refine vx (le1 0 underlying120 (h.gon x 0 rfl)) (va (I f) (va (v3) (bn H fun b1 q0 H => vx (ixO underlying120 t q0) ?_)))
 obtain ⟨i, rfl⟩ := ((j.mono d)).form
 have U := h.borrow 1 x rfl
 refine bn H fun A s0 H => md (Own.stW (R := (RP 0)) (T := 116) (us := [.pointer i]) (x' := g) (u := .pointer i) 0 U (by kernel_rfl) rfl t s0 rfl (by kernel_rfl) ⟨j.m.one, trivial⟩ rfl ⟨(.pointer i), rfl, j.m⟩) ?_
 rintro f0 w0 ⟨y, X, u0⟩
 have Z := X.giveB 1 rfl
 refine bn H fun D v0 H => ?_
 obtain ⟨E, a0, b0, g1, c1⟩ := Rel.put_grid_Grid Z (e.mono (d.trans w0)) (E' := [(Eb b 122 [v42]), es true (RP 0) v42 116 y A]) v0 ⟨b, v42, y, (tm s), rfl, u0⟩
 refine wln (sr (va (B true) (wln (W.ret ?_))))
 obtain rfl := si H
 exact r1 ⟨_, f0, rfl, rfl, pt, E, a0, b0, rfl⟩
def f_scroll_stretch_lay (sg : Sto) (p0 : G_scroll_stretch) (p1 : Option Nat) (p2 : List (Option Nat)) : Option (Sto) :=
 (iter (σ := Int × Sto) (τ := Sto) (((p2.length : Int) - 0).toNat + 1) (fun a =>
 if (decide (a.1 < (p2.length : Int))) = true then
 (idx p2 a.1).bind fun c =>
 (f_grid_Grid_Set a.2 p1 (w64 (p0.from_ + a.1)) c).bind fun d =>
 some (.inl ((w64 (a.1 + 1)), d.1))
 else
 some (.inr (a.2))) (0, sg)).bind fun b =>
 (f_grid_Grid_Row b p1 (w64 (p0.from_ - 1))).bind fun e =>
 (f_row_Row_GoOn b e false).bind fun f =>
 some f
theorem c_scroll_stretch_lay (O0 : Own c0 G F) (R0 : Rel c0 sg G) (b : G_scroll_stretch) (g : Option Nat) (h : List (Option Nat)) {r : Sto} (h2 : Pt 1 c0 v1 g) (s : Sl (RP 0) c0 v3 h) (H : f_scroll_stretch_lay sg b g h = some r) :
    Calls prog 208 #[.agg #[I b.from_, I b.to_, I b.n], v1, v3] c0.w (Post c0 fun c v => ∃ G_ : Gm, Own c G_ (F) ∧ Rel c r G_ ∧ v = .tuple #[]) := by
 unfold f_scroll_stretch_lay at H
 refine en func208 rfl rfl (sr (me (bx 261 [I b.from_, I b.to_, I b.n] O0) ?_))
 rintro v9 q l8 ⟨f, rfl, O6, m7⟩
 refine wln (W.seq (sr (va (v3) (vx (ln 3 underlying120 s.m) (va (I 0) (wln (W.block (bn H fun h1 o d => lp o (fun a => Jn q fun c l => ∃ G_, Own c G_ (F) ∧ l = [(1, v1), (3, Q f), (8, v3), (9, I (h.length : Int)), (10, I a.1)] ∧ Rel c a.2 G_) (fun t ex e w => ex = .exit 0 ∧ (Jn q fun c l => ∃ G_, Own c G_ (F) ∧ l = [(1, v1), (3, Q f)] ∧ Rel c t G_) e w) ?_ ?_ ?_))))))))
 ·clear d o
  intro a i1 X l0 H
  revert X l0
  rintro e_ w_ ⟨S, b1, _, rfl, i0, rfl, y, i, rfl, j⟩
  refine sr (va (B (decide (a.1 < (h.length : Int)))) (wln (W.seq (cn H (fun Z H => ?_) (fun Z H => ?_)))))
  ·refine W.skip (nrm (W.seq (W.block (sr (va (I a.1) (bn H fun u p H => ?_))))))
   obtain ⟨u0, b0, j0⟩ := Sl.at (s.mono (l8.trans i0)) (idx_get p)
   obtain ⟨v23, rfl, d0⟩ := b0
   refine vx (ix underlying120 s.m p) (vx (l1 underlying116 (j0 0 _ rfl)) (va (I a.1) (va (v23) (wln (W.region (va (v1) (va (Q f) (vx (l1 underlying3 ((mm m7) 0 _ rfl)) (va (I a.1) (va (I (w64 (b.from_ + a.1))) (va (v23) (bn H fun w0 e0 H => cl (c_grid_Grid_Set i j g (w64 (b.from_ + a.1)) u h2.m d0 e0) ?_))))))))))))
   rintro v31 T d1 ⟨z, D, P, rfl⟩
   refine WL.nil (bkn (nrm (W.region (va (I (w64 (a.1 + 1))) (va (I (w64 (a.1 + 1))) (WL.nil ?_))))))
   obtain rfl := si H
   exact ⟨_, rfl, ⟨T, _, _, rfl, pt, us, z, D, rfl, P⟩⟩
  refine W.exit (thx ?_)
  obtain rfl := si H
  exact ⟨_, rfl, rfl, ⟨S, _, _, rfl, pt, us, y, i, rfl, j⟩⟩
 ·exact ⟨q, _, _, rfl, pt, us, G, O6, rfl, R0.m⟩
 rintro _ e_ w_ ⟨rfl, z0, c1, _, rfl, e1, rfl, y0, E, rfl, k⟩
 refine bke (nrm (W.region (va (v1) (va (Q f) (vx (l1 underlying3 ((mm m7) 0 _ rfl)) (va (I (w64 (b.from_ - 1))) (bn d fun x f0 d => cl (c_grid_Grid_Row E k g (w64 (b.from_ - 1)) h2.m f0) ?_)))))))
 rintro v39 a1 f1 ⟨_, M, rfl, g0⟩
 refine bn d fun x0 h0 d => cl (c_row_Row_GoOn M k.m x false g0 h0) ?_
 rintro v53 U g1 ⟨A, N, R, rfl⟩
 refine WL.nil ?_
 obtain rfl := si d
 exact n0 ⟨_, U, rfl, rfl, pt, A, N, R, rfl⟩
def f_scroll_rows (sg : Sto) (p0 : Option Nat) (p1 : Int) (p2 : Int) : Option (List (Option Nat)) :=
 (iter (σ := (List (Option Nat)) × Int) (τ := (List (Option Nat))) ((p2 - p1).toNat + 1) (fun a =>
 if (decide (a.2 < p2)) = true then
 (f_grid_Grid_Row sg p0 a.2).bind fun b =>
 (app a.1 ([b] : List (Option Nat))).bind fun c =>
 some (.inl (c, (w64 (a.2 + 1))))
 else
 some (.inr (a.1))) (([] : List (Option Nat)), p1)).bind fun d =>
 some d
theorem c_scroll_rows (O0 : Own c0 G F) (R0 : Rel c0 sg G) (o : Option Nat) (f : Int) (d : Int) {r : List (Option Nat)} (h2 : Pt 1 c0 v1 o) (H : f_scroll_rows sg o f d = some r) :
    Calls prog 209 #[v1, I f, I d] c0.w (Post c0 fun c v => ∃ q y2, Own c G (es true (RP 0) q 116 y2 r :: F) ∧ v = q ∧ OA (RP 0) c q y2 r) := by
 unfold f_scroll_rows at H
 refine en func209 rfl rfl (sr (va (Y) (wln (sr (va (Y) (wln (W.seq (sr (va (I f) (va (I f) (wln (W.block (bn H fun b1 T s => lp T (fun a => Jn c0 fun c l => ∃ v5 g, Own c G (es true (RP 0) v5 116 g a.1 :: F) ∧ l = [(0, v1), (2, I d), (7, v5), (8, I a.2)] ∧ OA (RP 0) c v5 g a.1) (fun b ex e w => ex = .exit 0 ∧ (Jn c0 fun c l => ∃ v7 h, Own c G (es true (RP 0) v7 116 h b :: F) ∧ l = [(7, v7)] ∧ OA (RP 0) c v7 h b) e w) ?_ ?_ ?_)))))))))))))
 ·clear s T
  intro a d1 N f0 H
  revert N f0
  rintro e_ w_ ⟨c9, u0, _, rfl, l9, rfl, v5, g, i, rfl, k⟩
  refine W.seq (sr (va (I a.2) (va (I d) (va (B (decide (a.2 < d))) (wln (cn H (fun P H => ?_) (fun P H => ?_)))))))
  ·refine W.skip (nrm (W.seq (W.block (W.region (va (v5) (va (v1) (va (I a.2) (bn H fun p R H => cl (c_grid_Grid_Row i R0.m o a.2 h2.m R) ?_))))))))
   rintro v18 q0 w0 ⟨_, t, rfl, n⟩
   obtain ⟨j, rfl⟩ := (n).form
   refine me (sl (RP 0) 116 [[.pointer j]] ([p] : List (Option Nat)) t ⟨⟨(.pointer j), rfl, n⟩, trivial⟩) ?_
   rintro v31 s0 x0 ⟨c1, u, S⟩
   obtain ⟨t0, X, y0, x, U⟩ := u.frz 0 rfl S
   refine WL.gh X (bn H fun o0 Z H => me (ap (RP 0) (.pointer none) 8 120 1 x k.m U Z underlying120) ?_)
   rintro v41 E z0 ⟨e0, y, a0⟩
   refine va (v41) (WL.nil (bkn (nrm (W.region (va (I a.2) (va (I (w64 (a.2 + 1))) (va (I (w64 (a.2 + 1))) (WL.nil ?_))))))))
   obtain rfl := si H
   refine ⟨_, rfl, ?_⟩
   have z := y.sD 2 [1]
   exact ⟨E, _, _, rfl, pt, us, v41, e0, z, rfl, a0⟩
  refine W.exit (thx ?_)
  obtain rfl := si H
  exact ⟨_, rfl, rfl, ⟨c9, _, _, rfl, pt, us, v5, g, i, rfl, k⟩⟩
 ·have b0 : OA (RP 0) c0 (Y) [] [] := OA.nil (Nat.succ_pos _)
  have A := O0.addHole (e := es true (RP 0) (Y) 116 [] ([] : List (Option Nat))) rfl
  exact ⟨c0, _, _, rfl, pt, us, (Y), [], A, rfl, b0⟩
 rintro _ e_ w_ ⟨rfl, M, v0, _, rfl, a1, rfl, v7, h, D, rfl, d0⟩
 refine bke (nrm (sr (va (v7) (va (v7) (wln (W.ret ?_))))))
 obtain rfl := si s
 exact r1 ⟨_, M, rfl, rfl, pt, v7, h, D, rfl, d0⟩
def f_grid_Grid_Wide (sg : Sto) (p0 : Option Nat) : Option (Int) :=
 (f_grid_Grid_Row sg p0 0).bind fun a =>
 (f_row_Row_Wide sg a).bind fun b =>
 some b
theorem c_grid_Grid_Wide (i : Own c0 G F) (d : Rel c0 sg G) (a : Option Nat) {r : Int} (k : Pt 1 c0 v1 a) (H : f_grid_Grid_Wide sg a = some r) :
    Calls prog 33 #[v1] c0.w (Post c0 fun c v => Own c G (F) ∧ v = I r) := by
 unfold f_grid_Grid_Wide at H
 refine en func33 rfl rfl (sr (va (I 0) (wln (sr (va (v1) (bn H fun g l H => cl (c_grid_Grid_Row i d a 0 k l) ?_))))))
 rintro v4 o p ⟨_, j, rfl, n⟩
 refine bn H fun h f H => cl (c_row_Row_Wide j d.m g n f) ?_
 rintro v18 e q ⟨b, rfl⟩
 refine va (I h) (wln (W.ret ?_))
 obtain rfl := si H
 exact r1 ⟨_, e, rfl, rfl, pt, b, rfl⟩
def f_scroll_blanks (sg : Sto) (p0 : Option Nat) (p1 : Int) : Option (Sto × (List (Option Nat))) :=
 (iter (σ := (List (Option Nat)) × Int × Sto) (τ := ((List (Option Nat)) × Sto)) ((p1 - 0).toNat + 1) (fun a =>
 if (decide (a.2.1 < p1)) = true then
 (f_grid_Grid_Wide a.2.2 p0).bind fun d =>
 (f_row_New a.2.2 d).bind fun b =>
 (app a.1 ([b.2] : List (Option Nat))).bind fun e =>
 some (.inl (e, (w64 (a.2.1 + 1)), b.1))
 else
 some (.inr (a.1, a.2.2))) (([] : List (Option Nat)), 0, sg)).bind fun c =>
 some (c.2, c.1)
theorem c_scroll_blanks (O0 : Own c0 G F) (R0 : Rel c0 sg G) (p : Option Nat) (f : Int) {r : Sto × (List (Option Nat))} (h2 : Pt 1 c0 v1 p) (H : f_scroll_blanks sg p f = some r) :
    Calls prog 210 #[v1, I f] c0.w (Post c0 fun c v => ∃ t y2, ∃ G_ : Gm, Own c G_ (es true (RP 0) t 116 y2 r.2 :: F) ∧ Rel c r.1 G_ ∧ Adds G G_ ∧ v = t ∧ OA (RP 0) c t y2 r.2) := by
 unfold f_scroll_blanks at H
 refine en func210 rfl rfl (sr (va (Y) (wln (sr (va (Y) (wln (W.seq (sr (va (I f) (va (I 0) (wln (W.block (bn H fun t1 h3 z => lp h3 (fun a => Jn c0 fun c l => ∃ v5 g G_, Own c G_ (es true (RP 0) v5 116 g a.1 :: F) ∧ l = [(0, v1), (5, v5), (6, I f), (7, I a.2.1)] ∧ Rel c a.2.2 G_ ∧ Adds G G_ ∧ OA (RP 0) c v5 g a.1) (fun b ex e w => ex = .exit 0 ∧ (Jn c0 fun c l => ∃ v7 h G_, Own c G_ (es true (RP 0) v7 116 h b.1 :: F) ∧ l = [(5, v7)] ∧ Rel c b.2 G_ ∧ Adds G G_ ∧ OA (RP 0) c v7 h b.1) e w) ?_ ?_ ?_)))))))))))))
 ·clear z h3
  intro a w1 e0 u0 H
  revert e0 u0
  rintro e_ w_ ⟨c9, h1, _, rfl, l9, rfl, v5, g, u, i, rfl, d, j, n⟩
  refine sr (va (B (decide (a.2.1 < f))) (wln (W.seq (cn H (fun f0 H => ?_) (fun f0 H => ?_)))))
  ·refine W.skip (nrm (W.seq (W.block (W.region (va (v5) (va (v1) (bn H fun q g0 H => cl (c_grid_Grid_Wide i d p h2.m g0) ?_)))))))
   rintro v23 d1 j1 ⟨A, rfl⟩
   refine bn H fun s h0 H => cl (c_row_New A d.m q h0) ?_
   rintro v25 e1 k1 ⟨_, x, D, T, X, rfl, o⟩
   have Z := j.trans X
   obtain ⟨k, rfl⟩ := (o).form
   refine me (sl (RP 0) 116 [[.pointer k]] ([s.2] : List (Option Nat)) D ⟨⟨(.pointer k), rfl, o⟩, trivial⟩) ?_
   rintro v39 f1 m1 ⟨u1, E, j0⟩
   obtain ⟨g1, l0, n1, M, k0⟩ := E.frz 0 rfl j0
   refine WL.gh l0 (bn H fun c1 m0 H => me (ap (RP 0) (.pointer none) 8 120 1 M n.m k0 m0 underlying120) ?_)
   rintro v49 b0 q1 ⟨t0, N, o0⟩
   refine va (v49) (WL.nil (bkn (nrm (W.region (va (I (w64 (a.2.1 + 1))) (va (I (w64 (a.2.1 + 1))) (WL.nil ?_)))))))
   obtain rfl := si H
   refine ⟨_, rfl, ?_⟩
   have P := N.sD 2 [1]
   exact ⟨b0, _, _, rfl, pt, us, v49, t0, x, P, rfl, T.m, Z, o0⟩
  refine W.exit (thx ?_)
  obtain rfl := si H
  exact ⟨_, rfl, rfl, ⟨c9, _, _, rfl, pt, us, v5, g, u, i, rfl, d, j, n⟩⟩
 ·have q0 : OA (RP 0) c0 (Y) [] [] := OA.nil (Nat.succ_pos _)
  have R := O0.addHole (e := es true (RP 0) (Y) 116 [] ([] : List (Option Nat))) rfl
  exact ⟨c0, _, _, rfl, pt, us, (Y), [], G, R, rfl, R0, (Adds.refl _), q0⟩
 rintro _ e_ w_ ⟨rfl, d0, i1, _, rfl, s1, rfl, v7, h, y, S, rfl, U, a0, s0⟩
 refine bke (nrm (sr (va (v7) (va (v7) (wln (W.ret ?_))))))
 obtain rfl := si z
 exact r1 ⟨_, d0, rfl, rfl, pt, v7, h, y, S, U, a0, rfl, s0⟩
def f_scroll_Up (sg : Sto) (p0 : Option Nat) (p1 : Int) (p2 : Int) (p3 : Int) : Option (Sto) :=
 (f_scroll_of sg p0 p1 p2 p3).bind fun a =>
 if a.2 = true then
 (f_scroll_rows sg p0 (w64 (a.1.from_ + a.1.n)) a.1.to_).bind fun c =>
 (f_scroll_blanks sg p0 a.1.n).bind fun b =>
 (app c b.2).bind fun d =>
 (f_scroll_stretch_lay b.1 a.1 p0 d).bind fun e =>
 some e
 else
 some sg
theorem c_scroll_Up (O0 : Own c0 G F) (h : Rel c0 sg G) (g : Option Nat) (k : Int) (l : Int) (o : Int) {r : Sto} (j : Pt 1 c0 v1 g) (H : f_scroll_Up sg g k l o = some r) :
    Calls prog 170 #[v1, I k, I l, I o] c0.w (Post c0 fun c v => ∃ G_ : Gm, Own c G_ (F) ∧ Rel c r G_ ∧ v = .tuple #[]) := by
 unfold f_scroll_Up at H
 refine en func170 rfl rfl (sr (va (v1) (va (I k) (va (I l) (va (I o) (bn H fun a h3 H => cl (c_scroll_of O0 h g k l o j h3) ?_))))))
 rintro v9 c8 l8 ⟨O5, rfl⟩
 refine va (.tuple #[.agg #[I a.1.from_, I a.1.to_, I a.1.n], B a.2]) (va (.agg #[I a.1.from_, I a.1.to_, I a.1.n]) (va (B a.2) (me (al 261 [I 0, I 0, I 0] O5) ?_)))
 rintro v13 j1 k1 ⟨b, rfl, M⟩
 refine md (sA 261 [I a.1.from_, I a.1.to_, I a.1.n] 0 M ⟨rfl, rfl, rfl, trivial⟩) ?_
 rintro T m1 p
 refine va (B a.2) (wln (sr (va (B a.2) (wln (cn H (fun e0 H => ?_) (fun e0 H => ?_))))))
 ·refine rD [] (Kp G0 [(Eb b 261 [I a.1.from_, I a.1.to_, I a.1.n])]) p ?_
  intro U n1 q
  have e : Kp G0 [(Eb b 261 [I a.1.from_, I a.1.to_, I a.1.n])] U := (Kp.cons (q.on 0 rfl) Kp.nil0)
  refine tkx 0 e (fun i f d => leN 261 0 [I a.1.from_, I a.1.to_, I a.1.n] (d.on 0 rfl)) (ta 1 (v1) (ta 2 (v1) (ta 3 (Q b) (tkx 4 e (fun i f d => le1 0 underlying3 (d.on 0 rfl)) (ta 5 (.pointer (some ⟨b, 2, none⟩)) (tkx 6 e (fun i f d => le1 2 underlying3 (d.on 0 rfl)) (ta 7 (I (w64 (a.1.from_ + a.1.n))) (ta 8 (.pointer (some ⟨b, 1, none⟩)) (tkx 9 e (fun i f d => le1 1 underlying3 (d.on 0 rfl)) (ta 11 (v1) (ta 12 (.pointer (some ⟨b, 2, none⟩)) (tkx 13 e (fun i f d => le1 2 underlying3 (d.on 0 rfl)) (bn H fun e1 f0 H => o1 10 (gc 10 (c_scroll_rows q h.m g (w64 (a.1.from_ + a.1.n)) a.1.to_ j.m f0) ?_))))))))))))))
  rintro v21 X q1 ⟨_, w1, s, rfl, g0⟩
  have v0 : Kp G0 [(Eb b 261 [I a.1.from_, I a.1.to_, I a.1.n])] X := (Kp.cons (s.on 1 rfl) Kp.nil0)
  refine ⟨.inr v0, bn H fun f1 h0 H => o1 14 (gc 14 (c_scroll_blanks s h.m g a.1.n j.m h0) ?_)⟩
  rintro v32 Z s1 ⟨_, x1, h1, t, R, i1, rfl, i0⟩
  have w0 : Kp G0 [(Eb b 261 [I a.1.from_, I a.1.to_, I a.1.n])] Z := (Kp.cons (t.on 2 rfl) Kp.nil0)
  refine ⟨.inr w0, ?_⟩
  obtain ⟨a0, k0, t0, u, j0⟩ := t.frz 0 rfl i0
  have x0 : Kp G0 [(Eb b 261 [I a.1.from_, I a.1.to_, I a.1.n])] a0 := (Kp.cons (u.on 2 rfl) Kp.nil0)
  refine AC.gh k0 t0 (fun _ => x0) (bn H fun D l0 H => o1 15 (gm 15 (ap (RP 0) (.pointer none) 8 120 1 u g0.m j0 l0 underlying120) ?_))
  rintro v52 b0 t1 ⟨y1, x, m0⟩
  have y0 : Kp G0 [(Eb b 261 [I a.1.from_, I a.1.to_, I a.1.n])] b0 := (Kp.cons (x.on 2 rfl) Kp.nil0)
  refine ⟨.inr y0, ?_⟩
  obtain ⟨d0, q0, u0, y, o0⟩ := x.frz 1 rfl m0
  have z0 : Kp G0 [(Eb b 261 [I a.1.from_, I a.1.to_, I a.1.n])] d0 := (Kp.cons (y.on 2 rfl) Kp.nil0)
  refine AC.gh q0 u0 (fun _ => z0) (bn H fun g1 s0 H => o1 16 (gc 16 (c_scroll_stretch_lay y R.m a.1 g D j.m o0 s0) ?_))
  rintro z1 A u1 ⟨E, z, S, rfl⟩
  have a1 : Kp G0 [(Eb b 261 [I a.1.from_, I a.1.to_, I a.1.n])] A := (Kp.cons (z.on 2 rfl) Kp.nil0)
  refine ⟨.inr a1, dn ?_⟩
  obtain rfl := si H
  have N := z.sD 3 []
  exact n0 ⟨_, A, rfl, rfl, pt, E, N, S, rfl⟩
 refine W.skip ?_
 obtain rfl := si H
 have P := p.sD 1 []
 exact n0 ⟨_, T, rfl, rfl, pt, G, P, h.m, rfl⟩
def f_scroll_Down (sg : Sto) (p0 : Option Nat) (p1 : Int) (p2 : Int) (p3 : Int) : Option (Sto) :=
 (f_scroll_of sg p0 p1 p2 p3).bind fun a =>
 if a.2 = true then
 (f_scroll_blanks sg p0 a.1.n).bind fun b =>
 (f_scroll_rows b.1 p0 a.1.from_ (w64 (a.1.to_ - a.1.n))).bind fun d =>
 (app b.2 d).bind fun e =>
 (f_scroll_stretch_lay b.1 a.1 p0 e).bind fun c =>
 (f_grid_Grid_Row c p0 (w64 (a.1.to_ - 1))).bind fun f =>
 (f_row_Row_GoOn c f false).bind fun g =>
 some g
 else
 some sg
theorem c_scroll_Down (O0 : Own c0 G F) (D : Rel c0 sg G) (f : Option Nat) (k : Int) (l : Int) (o : Int) {r : Sto} (i : Pt 1 c0 v1 f) (H : f_scroll_Down sg f k l o = some r) :
    Calls prog 171 #[v1, I k, I l, I o] c0.w (Post c0 fun c v => ∃ G_ : Gm, Own c G_ (F) ∧ Rel c r G_ ∧ v = .tuple #[]) := by
 unfold f_scroll_Down at H
 refine en func171 rfl rfl (sr (va (v1) (va (I k) (va (I l) (va (I o) (bn H fun a h3 H => cl (c_scroll_of O0 D f k l o i h3) ?_))))))
 rintro v9 c8 l8 ⟨O5, rfl⟩
 refine va (.tuple #[.agg #[I a.1.from_, I a.1.to_, I a.1.n], B a.2]) (va (.agg #[I a.1.from_, I a.1.to_, I a.1.n]) (va (B a.2) (me (al 261 [I 0, I 0, I 0] O5) ?_)))
 rintro v13 y1 a2 ⟨b, rfl, P⟩
 refine md (sA 261 [I a.1.from_, I a.1.to_, I a.1.n] 0 P ⟨rfl, rfl, rfl, trivial⟩) ?_
 rintro Z b2 p
 refine va (B a.2) (wln (sr (va (B a.2) (wln (cn H (fun j0 H => ?_) (fun j0 H => ?_))))))
 ·refine W.seq (rD [] (Kp G0 [(Eb b 261 [I a.1.from_, I a.1.to_, I a.1.n])]) p ?_)
  intro a0 c2 q
  have e : Kp G0 [(Eb b 261 [I a.1.from_, I a.1.to_, I a.1.n])] a0 := (Kp.cons (q.on 0 rfl) Kp.nil0)
  refine tkx 0 e (fun j g d => leN 261 0 [I a.1.from_, I a.1.to_, I a.1.n] (d.on 0 rfl)) (ta 1 (v1) (ta 2 (v1) (ta 3 (.pointer (some ⟨b, 2, none⟩)) (tkx 4 e (fun j g d => le1 2 underlying3 (d.on 0 rfl)) (ta 6 (v1) (ta 7 (Q b) (tkx 8 e (fun j g d => le1 0 underlying3 (d.on 0 rfl)) (ta 9 (.pointer (some ⟨b, 1, none⟩)) (tkx 10 e (fun j g d => le1 1 underlying3 (d.on 0 rfl)) (ta 11 (.pointer (some ⟨b, 2, none⟩)) (tkx 12 e (fun j g d => le1 2 underlying3 (d.on 0 rfl)) (ta 13 (I (w64 (a.1.to_ - a.1.n))) (bn H fun n1 k0 H => o1 5 (gc 5 (c_scroll_blanks q D.m f a.1.n i.m k0) ?_))))))))))))))
  rintro v21 b0 d2 ⟨_, k2, u1, s, z, x1, rfl, l0⟩
  have d1 : Kp G0 [(Eb b 261 [I a.1.from_, I a.1.to_, I a.1.n])] b0 := (Kp.cons (s.on 1 rfl) Kp.nil0)
  refine ⟨.inr d1, bn H fun q1 m0 H => o1 14 (gc 14 (c_scroll_rows s z f a.1.from_ (w64 (a.1.to_ - a.1.n)) i.m m0) ?_)⟩
  rintro v32 d0 e2 ⟨_, l2, t, rfl, o0⟩
  have e1 : Kp G0 [(Eb b 261 [I a.1.from_, I a.1.to_, I a.1.n])] d0 := (Kp.cons (t.on 2 rfl) Kp.nil0)
  refine ⟨.inr e1, ?_⟩
  obtain ⟨e0, s0, b1, u, q0⟩ := t.frz 0 rfl o0
  have f1 : Kp G0 [(Eb b 261 [I a.1.from_, I a.1.to_, I a.1.n])] e0 := (Kp.cons (u.on 2 rfl) Kp.nil0)
  refine AC.gh s0 b1 (fun _ => f1) (bn H fun E t0 H => o1 15 (gm 15 (ap (RP 0) (.pointer none) 8 120 1 u l0.m q0 t0 underlying120) ?_))
  rintro v52 f0 f2 ⟨m2, x, u0⟩
  have g1 : Kp G0 [(Eb b 261 [I a.1.from_, I a.1.to_, I a.1.n])] f0 := (Kp.cons (x.on 2 rfl) Kp.nil0)
  refine ⟨.inr g1, ?_⟩
  obtain ⟨g0, w0, c1, y, v0⟩ := x.frz 1 rfl u0
  have h1 : Kp G0 [(Eb b 261 [I a.1.from_, I a.1.to_, I a.1.n])] g0 := (Kp.cons (y.on 2 rfl) Kp.nil0)
  refine AC.gh w0 c1 (fun _ => h1) (bn H fun s1 x0 H => o1 16 (gc 16 (c_scroll_stretch_lay y z.m a.1 f E i.m v0 x0) ?_))
  rintro n2 h0 g2 ⟨w1, h, A, rfl⟩
  have i1 : Kp G0 [(Eb b 261 [I a.1.from_, I a.1.to_, I a.1.n])] h0 := (Kp.cons (h.on 2 rfl) Kp.nil0)
  refine ⟨.inr i1, dn (nrm (W.region (va (v1) (va (.pointer (some ⟨b, 1, none⟩)) (vx (le1 1 underlying3 (h.on 2 rfl)) (va (I (w64 (a.1.to_ - 1))) (bn H fun M y0 H => cl (c_grid_Grid_Row h A f (w64 (a.1.to_ - 1)) i.m y0) ?_)))))))⟩
  rintro o2 z1 i2 ⟨_, R, rfl, z0⟩
  refine bn H fun t1 a1 H => cl (c_row_Row_GoOn R A.m M false z0 a1) ?_
  rintro q2 i0 j2 ⟨N, S, X, rfl⟩
  refine WL.nil ?_
  obtain rfl := si H
  have T := S.sD 3 []
  exact n0 ⟨_, i0, rfl, rfl, pt, N, T, X, rfl⟩
 refine W.skip ?_
 obtain rfl := si H
 have U := p.sD 1 []
 exact n0 ⟨_, Z, rfl, rfl, pt, G, U, D.m, rfl⟩
def f_grid_Of (sg : Sto) (p0 : List G_api_Line) : Option (Sto × (Option Nat) × Er) :=
 (orE ((p0.length : Int) == 0) (some (decide ((p0.length : Int) > 1024)))).bind fun o =>
 if o = true then
 some (sg, (none : Option Nat), (Er.sent 0))
 else
 (some (sg.add_grid_Grid (⟨([] : List (Option Nat))⟩ : G_grid_Grid))).bind fun d =>
 (iter (σ := Int × Sto) (τ := (Sto × (Option Nat) × Er) ⊕ Sto) (((p0.length : Int) - 0).toNat + 1) (fun b =>
 if (decide (b.1 < (p0.length : Int))) = true then
 (idx p0 b.1).bind fun f =>
 (f_row_Of b.2 f.Cells).bind fun a =>
 ((andE a.2.2.isNil ((idx p0 0).bind fun k =>
 (f_row_Row_Wide a.1 a.2.1).bind fun l =>
 some (l != (k.Cells.length : Int)))).bind fun i =>
 if i = true then
 some ((Er.sent 0))
 else
 some (a.2.2)).bind fun h =>
 if (!h.isNil) = true then
 (f_api_Wrong b.1 h).bind fun m =>
 some (.inr (.inl (a.1, (none : Option Nat), m)))
 else
 (f_row_Row_GoOn a.1 a.2.1 f.Wrap).bind fun g =>
 (g.grid_Grid[sg.grid_Grid.length]?).bind fun j =>
 (app j.rows ([a.2.1] : List (Option Nat))).bind fun n =>
 (g.set_grid_Grid sg.grid_Grid.length (⟨n⟩ : G_grid_Grid)).bind fun e =>
 some (.inl ((w64 (b.1 + 1)), e))
 else
 some (.inr (.inr (b.2)))) (0, d)).bind fun c =>
 match c with
 | .inl c =>
 some c
 | .inr c =>
 some (c, (some sg.grid_Grid.length), Er.nil)
def f_grid_Grid_Lines (sg : Sto) (p0 : Option Nat) : Option (List G_api_Line) :=
 (f_grid_Grid_High sg p0).bind fun c =>
 (iter (σ := (List G_api_Line) × Int) (τ := (List G_api_Line)) ((c - 0).toNat + 1) (fun a =>
 if (decide (a.2 < c)) = true then
 (p0).bind fun d =>
 (sg.grid_Grid[d]?).bind fun b =>
 (idx b.rows a.2).bind fun e =>
 (idx b.rows a.2).bind fun f =>
 (f_row_Row_Cells sg e).bind fun g =>
 (f_row_Row_Wrap sg f).bind fun h =>
 (app a.1 ([(⟨g, h⟩ : G_api_Line)] : List G_api_Line)).bind fun i =>
 some (.inl (i, (w64 (a.2 + 1))))
 else
 some (.inr (a.1))) (([] : List G_api_Line), 0)).bind fun j =>
 some j
theorem c_grid_Grid_Lines (O0 : Own c0 G F) (z : Rel c0 sg G) (p0 : Option Nat) {r : List G_api_Line} (h2 : Pt 1 c0 v1 p0) (H : f_grid_Grid_Lines sg p0 = some r) :
    Calls prog 35 #[v1] c0.w (Post c0 fun c v => ∃ y1 y2, Own c G (es true R_api_Line y1 71 y2 r :: F) ∧ v = y1 ∧ OA R_api_Line c y1 y2 r) := by
 unfold f_grid_Grid_Lines at H
 refine en func35 rfl rfl (sr (va (Y) (wln (sr (va (Y) (wln (W.seq (sr (va (v1) (bn H fun g0 h3 H => cl (c_grid_Grid_High O0 z p0 h2 h3) ?_))))))))))
 rintro v9 A l8 ⟨O5, rfl⟩
 refine va (I 0) (wln (W.block (bn H fun i3 Z D => lp Z (fun a => Jn A fun c l => ∃ v12 n, Own c G (es true R_api_Line v12 71 n a.1 :: F) ∧ l = [(0, v1), (3, v12), (6, I g0), (7, I a.2)] ∧ OA R_api_Line c v12 n a.1) (fun y ex e w => ex = .exit 0 ∧ (Jn A fun c l => ∃ v14 o, Own c G (es true R_api_Line v14 71 o y :: F) ∧ l = [(3, v14)] ∧ OA R_api_Line c v14 o y) e w) ?_ ?_ ?_)))
 ·clear D Z
  intro a o3 a1 n2 H
  revert a1 n2
  rintro e_ w_ ⟨s0, b3, _, rfl, l16, rfl, v12, n, E, rfl, a0⟩
  refine sr (va (B (decide (a.2 < g0))) (wln (W.seq (cn H (fun c1 H => ?_) (fun c1 H => ?_)))))
  ·refine W.skip (nrm (W.seq (W.block (sr (va (I a.2) (va (I a.2) (wln (rD [] (Kp G []) E ?_))))))))
   intro t0 d0 M
   have k : Kp G [] t0 := (Kp.nil M)
   refine ta 0 (v12) (ta 1 (v1) (bn H fun u2 e1 H => ?_))
   obtain ⟨d, rfl, d1⟩ := ((h2.mono (l8.trans (l16.trans d0)))).get e1
   refine ta 2 (Q d) (ta 3 (Q d) (bn H fun x2 f1 H => ?_))
   obtain ⟨v31, j3, i, b⟩ := Rel.open_grid_Grid (z.mono (l8.trans (l16.trans d0))) f1 d1
   refine tkx 4 k (fun t f g => le1 0 underlying120 (g.gon i 0 rfl)) (ta 5 (I a.2) (bn H fun i0 u H => tx 6 (fun t f => ixO underlying120 b u) ?_))
   obtain ⟨v2, g1, d2⟩ := OA.at b u
   obtain ⟨v39, rfl, h1⟩ := g1
   refine AC.takeK 7 (v39) k rfl (by kernel_rfl) (by kernel_rfl) (by kernel_rfl) (fun t f g => (rx (by kernel_rfl) (ldE1 underlying116 rfl (g.gon i 1 rfl) (b.blk u) (at1 (j := 0) d2 rfl)))) (ta 9 (Q d) (ta 10 (Q d) (ta 11 (Q d) (tkx 12 k (fun t f g => le1 0 underlying120 (g.gon i 0 rfl)) (ta 13 (I a.2) (bn H fun j0 x H => tx 14 (fun t f => ixO underlying120 b x) ?_))))))
   obtain ⟨w2, i1, e2⟩ := OA.at b x
   obtain ⟨v45, rfl, j1⟩ := i1
   refine AC.takeK 15 (v45) k rfl (by kernel_rfl) (by kernel_rfl) (by kernel_rfl) (fun t f g => (rx (by kernel_rfl) (ldE1 underlying116 rfl (g.gon i 1 rfl) (b.blk x) (at1 (j := 0) e2 rfl)))) (bn H fun k0 k1 H => o1 8 (gc 8 (c_row_Row_Cells M z.m i0 h1 k1) ?_))
   rintro v48 u0 d3 ⟨_, k3, N, rfl, b0⟩
   have f2 : Kp G [] u0 := (Kp.nil N)
   refine ⟨.inr f2, bn H fun h m1 H => o1 16 (gc 16 (c_row_Row_Wrap N z.m j0 j1.m m1) ?_)⟩
   rintro m3 v0 e0 ⟨P, rfl⟩
   have g2 : Kp G [] v0 := (Kp.nil P)
   refine ⟨.inr g2, ?_⟩
   obtain ⟨p, q, s, rfl⟩ := ((b0.mono e0)).form
   refine ta 17 (.agg #[.slice p q s, B h]) ?_
   obtain ⟨w0, p1, a2, R, n1⟩ := P.frz 0 rfl (b0.mono e0)
   have i2 : Kp G [] w0 := (Kp.nil R)
   refine AC.gh p1 a2 (fun _ => i2) (o1 18 (gm 18 (sl R_api_Line 71 [[.slice p q s, B h]] ([(⟨k0, h⟩ : G_api_Line)] : List G_api_Line) R ⟨⟨(.slice p q s), rfl, n1⟩, trivial⟩) ?_))
   rintro n3 x0 e3 ⟨l3, S, q1⟩
   have j2 : Kp G [] x0 := (Kp.nil S)
   refine ⟨.inr j2, ?_⟩
   obtain ⟨y0, t1, c2, T, s1⟩ := S.frz 0 rfl q1
   have k2 : Kp G [] y0 := (Kp.nil T)
   refine AC.gh t1 c2 (fun _ => k2) (bn H fun a3 u1 H => o1 19 (gm 19 (ap R_api_Line (.agg #[Y, B false]) 32 22 2 T a0.m s1 u1 underlying22) ?_))
   rintro f0 X f3 ⟨m2, U, w1⟩
   have l2 : Kp G [] X := (Kp.nil U)
   refine ⟨.inr l2, ta 20 (f0) (dn (bkn (nrm (W.region (va (I (w64 (a.2 + 1))) (va (I (w64 (a.2 + 1))) (WL.nil ?_)))))))⟩
   obtain rfl := si H
   refine ⟨_, rfl, ?_⟩
   have m0 := U.sD 3 [2]
   exact ⟨X, _, _, rfl, pt, us, f0, m2, m0, rfl, w1⟩
  refine W.exit (thx ?_)
  obtain rfl := si H
  exact ⟨_, rfl, rfl, ⟨s0, _, _, rfl, pt, us, v12, n, E, rfl, a0⟩⟩
 ·have x1 : OA R_api_Line A (Y) [] [] := OA.nil (Nat.succ_pos _)
  have o0 := O5.addHole (e := es true R_api_Line (Y) 71 [] ([] : List G_api_Line)) rfl
  exact ⟨A, _, _, rfl, pt, us, (Y), [], o0, rfl, x1⟩
 rintro _ e_ w_ ⟨rfl, z0, c3, _, rfl, g3, rfl, v14, o, q0, rfl, z1⟩
 refine bke (nrm (sr (va (v14) (va (v14) (wln (W.ret ?_))))))
 obtain rfl := si D
 exact r1 ⟨_, z0, rfl, rfl, pt, v14, o, q0, rfl, z1⟩
def f_linotyperef32_Same (p0 : List G_api_Line) (p1 : List G_api_Line) : Option (Bool) :=
 if ((p0.length : Int) != (p1.length : Int)) = true then
 some false
 else
 (iter (σ := Int) (τ := Bool ⊕ Unit) (((p0.length : Int) - 0).toNat + 1) (fun a =>
 if (decide (a < (p0.length : Int))) = true then
 (idx p0 a).bind fun d =>
 (idx p1 a).bind fun e =>
 (orE (!(d.Wrap == e.Wrap)) ((idx p0 a).bind fun f =>
 (idx p1 a).bind fun g =>
 (f_linotyperef23_Same f.Cells g.Cells).bind fun h =>
 some (!h))).bind fun c =>
 if c = true then
 some (.inr (.inl false))
 else
 some (.inl ((w64 (a + 1))))
 else
 some (.inr (.inr ()))) (0)).bind fun b =>
 match b with
 | .inl b =>
 some b
 | .inr b =>
 some true
theorem c_linotyperef32_Same (O0 : Own c0 G F) (s : List G_api_Line) (X : List G_api_Line) {r : Bool} (j : Sl R_api_Line c0 v1 s) (k : Sl R_api_Line c0 v3 X) (H : f_linotyperef32_Same s X = some r) :
    Calls prog 89 #[v1, v3] c0.w (Post c0 fun c v => Own c G (F) ∧ v = B r) := by
 unfold f_linotyperef32_Same at H
 refine en func89 rfl rfl (sr (va (B false) (wln (W.seq (sr (va (v1) (vx (ln 3 underlying22 j) (va (v3) (vx (ln 3 underlying22 k) (va (B ((s.length : Int) != (X.length : Int))) (wln (cn H (fun h5 H => ?_) (fun h5 H => ?_)))))))))))))
 ·refine sr (va (B false) (wln (W.ret (thr ?_))))
  obtain rfl := si H
  exact r1 ⟨_, c0, rfl, rfl, pt, O0, rfl⟩
 refine W.skip (nrm (W.seq (sr (va (I 0) (wln (W.block (bn H fun h h6 S => lp h6 (fun a => Jn c0 fun c l => Own c G (F) ∧ l = [(0, v1), (1, v3), (5, I a)]) (fun t => match t with | .inl x_ => (fun f1 ex e w => ex = .ret ∧ (Jn c0 fun c l => Own c G (F) ∧ l = [(4, B f1)]) e w) x_ | .inr x_ => (fun h1 ex e w => ex = .exit 0 ∧ (Jn c0 fun c l => Own c G (F) ∧ l = []) e w) x_) ?_ ?_ ?_)))))))
 ·clear S h6
  intro a c2 l0 g1 H
  revert l0 g1
  rintro U Z ⟨c8, g9, _, rfl, q, rfl, u, rfl⟩
  refine W.seq (sr (va (I a) (va (v1) (vx (ln 3 underlying22 j.m) (va (B (decide (a < (s.length : Int)))) (wln (cn H (fun o0 H => ?_) (fun o0 H => ?_))))))))
  ·refine W.skip (nrm (W.seq (W.block (W.seq (bn H fun n E H => bn H fun o M H => bn H fun T N H => W.join (Jn c8 fun c l => Own c G (F) ∧ l = [(0, v1), (1, v3), (5, I a), (41, B T)]) ?_ ?_)))))
   ·clear H
    refine rD [] (Kp G0 []) u ?_
    intro z i x
    have b2 : Kp G0 [] z := Kp.nil0
    refine ta 0 (v1) (ta 1 (I a) ?_)
    obtain ⟨j1, q0, a1⟩ := Sl.at (j.mono (q.trans i)) (idx_get E)
    obtain ⟨v24, rfl, u1⟩ := q0
    refine tx 2 (fun f b => ix underlying22 j.m E) (ta 3 (.pointer (some ⟨sb v1, so v1 + a.toNat * 2 + 1, none⟩)) (tx 4 (fun f b => l1 underlying4 ((mm a1) 1 _ rfl)) (ta 5 (v3) (ta 6 (I a) ?_))))
    obtain ⟨k1, s0, b1⟩ := Sl.at (k.mono (q.trans i)) (idx_get M)
    obtain ⟨v29, rfl, w1⟩ := s0
    refine tx 7 (fun f b => ix underlying22 k.m M) (ta 8 (.pointer (some ⟨sb v3, so v3 + a.toNat * 2 + 1, none⟩)) (tx 9 (fun f b => l1 underlying4 ((mm b1) 1 _ rfl)) (ta 10 (B (!(n.Wrap == o.Wrap))) ?_)))
    rcases bo (!(n.Wrap == o.Wrap)) with g | g
    ·obtain rfl := orT g N
     exact AC.takeb 11 g rfl (by kernel_rfl) (by kernel_rfl) (fun f b => (by kernel_rfl)) (tp 12 (tp 13 (tp 14 (tp 15 (tp 16 (tp 17 (tp 18 (tp 19 (tp 20 (tp 21 (tp 22 (tp 23 (ta 24 (B true) (dn (nrm ⟨z, _, _, rfl, pt, us, x, rfl⟩)))))))))))))))
    have d := orF g N
    refine bn d fun b0 P d => bn d fun d0 R d => bn d fun p t0 d => AC.takeb 11 g rfl (by kernel_rfl) (by kernel_rfl) (fun f b => (by kernel_rfl)) (ta 12 (v1) (ta 13 (I a) ?_))
    obtain ⟨m1, u0, c1⟩ := Sl.at (j.mono (q.trans i)) (idx_get P)
    obtain ⟨v39, rfl, v0⟩ := u0
    refine tx 14 (fun f b => ix underlying22 j.m P) (ta 15 (.pointer (some ⟨sb v1, so v1 + a.toNat * 2, none⟩)) (tx 16 (fun f b => l1 underlying69 ((mm c1) 0 _ rfl)) (ta 17 (v3) (ta 18 (I a) ?_))))
    obtain ⟨n1, w0, d1⟩ := Sl.at (k.mono (q.trans i)) (idx_get R)
    obtain ⟨v44, rfl, x0⟩ := w0
    refine tx 19 (fun f b => ix underlying22 k.m R) (ta 20 (.pointer (some ⟨sb v3, so v3 + a.toNat * 2, none⟩)) (tx 21 (fun f b => l1 underlying69 ((mm d1) 0 _ rfl)) (o1 22 (gc 22 (c_linotyperef23_Same x b0.Cells d0.Cells v0 x0 t0) ?_))))
    rintro v51 A x1 ⟨f0, rfl⟩
    have e1 : Kp G0 [] A := Kp.nil0
    refine ⟨.inr e1, ta 23 (B (!p)) ?_⟩
    obtain rfl := si d
    exact ta 24 (B (!p)) (dn (nrm ⟨A, _, _, rfl, pt, us, f0, rfl⟩))
   rintro U Z ⟨D, q1, _, rfl, y1, rfl, y, rfl⟩
   refine nrm (cn H (fun y0 H => ?_) (fun y0 H => ?_))
   ·refine sr (va (B false) (wln (W.ret (bkr (thr ?_)))))
    obtain rfl := si H
    exact ⟨_, rfl, ⟨rfl, ⟨D, _, _, rfl, pt, us, y, rfl⟩⟩⟩
   refine W.skip (bkn (nrm (W.region (va (I a) (va (I (w64 (a + 1))) (va (I (w64 (a + 1))) (WL.nil ?_)))))))
   obtain rfl := si H
   exact ⟨_, rfl, ⟨D, _, _, rfl, pt, us, y, rfl⟩⟩
  refine W.exit (thx ?_)
  obtain rfl := si H
  exact ⟨_, rfl, rfl, ⟨c8, _, _, rfl, pt, us, u, rfl⟩⟩
 ·exact ⟨c0, _, _, rfl, pt, us, O0, rfl⟩
 rcases h with h | h
 ·intro m0; revert m0
  rintro _ U Z ⟨rfl, i0, s1, _, rfl, z1, rfl, g0, rfl⟩
  refine bkr (thr ?_)
  obtain rfl := si S
  exact r1 ⟨_, i0, rfl, rfl, pt, g0, rfl⟩
 rintro _ U Z ⟨rfl, j0, t1, _, rfl, a2, rfl, h0, rfl⟩
 refine bke (nrm (sr (va (B true) (wln (W.ret ?_)))))
 obtain rfl := si S
 exact r1 ⟨_, j0, rfl, rfl, pt, h0, rfl⟩
def f_linotyperef33_Move (p0 : List G_api_Line) (p1 : Int) (p2 : Int) (p3 : Int) (p4 : Bool) : Option (List G_api_Line) :=
 (orE (decide ((imax 0 (imin p1 (p0.length : Int))) ≥ (imax 0 (imin p2 (p0.length : Int))))) (some (decide (p3 < 1)))).bind fun j =>
 if j = true then
 some p0
 else
 (iter (σ := (List G_api_Line) × Int) (τ := (List G_api_Line)) (((p0.length : Int) - 0).toNat + 1) (fun a =>
 if (decide (a.2 < (p0.length : Int))) = true then
 (idx p0 a.2).bind fun c =>
 ((andE (decide (a.2 ≥ (imax 0 (imin p1 (p0.length : Int))))) (some (decide (a.2 < (imax 0 (imin p2 (p0.length : Int))))))).bind fun k =>
 if k = true then
 (if (!p4) = true then
 some ((w64 (a.2 - (imin p3 (w64 ((imax 0 (imin p2 (p0.length : Int))) - (imax 0 (imin p1 (p0.length : Int)))))))))
 else
 some ((w64 (a.2 + (imin p3 (w64 ((imax 0 (imin p2 (p0.length : Int))) - (imax 0 (imin p1 (p0.length : Int)))))))))).bind fun b =>
 (idx p0 a.2).bind fun n =>
 (rep (n.Cells.length : Int) (⟨0, ([] : List Int)⟩ : G_api_Cell)).bind fun o =>
 (andE (decide (b ≥ (imax 0 (imin p1 (p0.length : Int))))) (some (decide (b < (imax 0 (imin p2 (p0.length : Int))))))).bind fun l =>
 if l = true then
 (idx p0 b).bind fun d =>
 some (d.Cells, d.Wrap)
 else
 some (o, false)
 else
 some (c.Cells, c.Wrap)).bind fun e =>
 ((orE ((w64 (a.2 + 1)) == (imax 0 (imin p1 (p0.length : Int)))) ((andE (!p4) (some ((w64 (a.2 + 1)) == (imax 0 (imin p2 (p0.length : Int)))))).bind fun g =>
 some g)).bind fun f =>
 if f = true then
 some (false)
 else
 some (e.2)).bind fun i =>
 (app a.1 ([(⟨e.1, i⟩ : G_api_Line)] : List G_api_Line)).bind fun h =>
 some (.inl (h, (w64 (a.2 + 1))))
 else
 some (.inr (a.1))) (([] : List G_api_Line), 0)).bind fun m =>
 some m
def f_scalar_Replace (p0 : List Int) : Option (List Int) :=
 (rep 0 0).bind fun g =>
 (rep (p0.length : Int) 0).bind fun h =>
 (iter (σ := (List Int) × Int) (τ := (List Int)) (((p0.length : Int) - 0).toNat + 1) (fun a =>
 if (decide (a.2 < (p0.length : Int))) = true then
 (idx p0 a.2).bind fun b =>
 ((f_scalar_Valid b).bind fun d =>
 if (!d) = true then
 some (65533)
 else
 some (b)).bind fun f =>
 (app a.1 ([f] : List Int)).bind fun e =>
 some (.inl (e, (w64 (a.2 + 1))))
 else
 some (.inr (a.1))) (g, 0)).bind fun c =>
 some c
theorem c_scalar_Replace (O0 : Own c0 G F) (n : List Int) {r : List Int} (p : Sl (RI .i32) c0 v1 n) (H : f_scalar_Replace n = some r) :
    Calls prog 245 #[v1] c0.w (Post c0 fun c v => ∃ P y2, Own c G (es true (RI .i32) P 21 y2 r :: F) ∧ v = P ∧ OA (RI .i32) c P y2 r) := by
 unfold f_scalar_Replace at H
 refine en func245 rfl rfl (sr (va (Y) (wln (sr (va (v1) (vx (ln 3 underlying27 p) (bn H fun a2 h3 H => bn H fun c2 h4 H => me (Own.mkS (kl := .i64) (kc := .i64) (R := (RI .i32)) (z := J 0) (lz := [J 0]) (x := 0) (by_ := 4) (i := 0) (j := (n.length : Int)) true O0 (Nat.succ_pos _) h3 (rep_nn h4) (rep_le h4) underlying27 (by kernel_rfl) rfl rfl (fun _ => rfl) (by kernel_rfl) (by kernel_rfl)) ?_)))))))
 rintro v9 M l8 ⟨u6, O5, h7⟩
 refine va (v9) (wln (W.seq (sr (va (v1) (vx (ln 3 underlying27 p.m) (va (I 0) (wln (W.block (bn H fun f1 A q => lp A (fun a => Jn M fun c l => ∃ v12 f, Own c G (es true (RI .i32) v12 21 f a.1 :: F) ∧ l = [(3, v12), (9, v1), (10, I (n.length : Int)), (11, I a.2)] ∧ OA (RI .i32) c v12 f a.1) (fun h ex e w => ex = .exit 0 ∧ (Jn M fun c l => ∃ v14 k, Own c G (es true (RI .i32) v14 21 k h :: F) ∧ l = [(3, v14)] ∧ OA (RI .i32) c v14 k h) e w) ?_ ?_ ?_)))))))))
 ·clear q A
  intro a b2 f0 x0 H
  revert f0 x0
  rintro e_ w_ ⟨u, m1, _, rfl, l16, rfl, v12, f, s, rfl, D⟩
  refine sr (va (B (decide (a.2 < (n.length : Int)))) (wln (W.seq (cn H (fun g0 H => ?_) (fun g0 H => ?_)))))
  ·refine W.skip (nrm (W.seq (W.block (sr (bn H fun g E H => ?_)))))
   obtain ⟨e1, h0, u0⟩ := Sl.at (p.mono (l8.trans l16)) (idx_get E)
   obtain rfl := h0
   refine vx (ix underlying27 p.m E) (vx (l1 underlying21 (u0 0 _ rfl)) (va (J g) (wln (bn H fun d b o => W.seqJ (Jn u fun c l => Own c G (es true (RI .i32) v12 21 f a.1 :: F) ∧ l = [(3, v12), (5, J d), (9, v1), (10, I (n.length : Int)), (11, I a.2)]) ?_ ?_))))
   ·refine sr (va (J g) (bn b fun N i0 b => cl (c_scalar_Valid s g i0) ?_))
    rintro v36 y q1 ⟨t, rfl⟩
    refine va (B (!N)) (wln (cn b (fun j0 b => ?_) (fun j0 b => ?_)))
    ·refine W.region (va (J 65533) (wln ?_))
     obtain rfl := si b
     exact ⟨y, _, _, rfl, pt, us, t, rfl⟩
    refine W.skip (nrm ?_)
    obtain rfl := si b
    exact ⟨y, _, _, rfl, pt, us, t, rfl⟩
   rintro e_ w_ ⟨i1, n1, _, rfl, s1, rfl, S, rfl⟩
   refine W.region (va (v12) (va (J d) (me (sl (RI .i32) 21 [[J d]] ([d] : List Int) S ⟨rfl, trivial⟩) ?_)))
   rintro v48 j1 t1 ⟨z1, T, l0⟩
   obtain ⟨k1, o0, u1, U, m0⟩ := T.frz 0 rfl l0
   refine WL.gh o0 (bn o fun h1 q0 o => me (ap (RI .i32) (J 0) 4 27 1 U D.m m0 q0 underlying27) ?_)
   rintro v58 b0 w1 ⟨v0, X, s0⟩
   refine va (v58) (WL.nil (bkn (nrm (W.region (va (I (w64 (a.2 + 1))) (va (I (w64 (a.2 + 1))) (WL.nil ?_)))))))
   obtain rfl := si o
   refine ⟨_, rfl, ?_⟩
   have Z := X.sD 2 [1]
   exact ⟨b0, _, _, rfl, pt, us, v58, v0, Z, rfl, s0⟩
  refine W.exit (thx ?_)
  obtain rfl := si H
  exact ⟨_, rfl, rfl, ⟨u, _, _, rfl, pt, us, v12, f, s, rfl, D⟩⟩
 ·exact ⟨M, _, _, rfl, pt, us, v9, u6, O5, rfl, h7⟩
 rintro _ e_ w_ ⟨rfl, d0, p1, _, rfl, x1, rfl, v14, k, a0, rfl, t0⟩
 refine bke (nrm (sr (va (v14) (va (v14) (wln (W.ret ?_))))))
 obtain rfl := si q
 exact r1 ⟨_, d0, rfl, rfl, pt, v14, k, a0, rfl, t0⟩
def f_cell_Of (p0 : Int) (p1 : List Int) : Option (List G_api_Cell) :=
 (if (decide (p0 ≥ 2)) = true then
 (app ([(⟨0, ([] : List Int)⟩ : G_api_Cell)] : List G_api_Cell) ([(⟨0, ([] : List Int)⟩ : G_api_Cell)] : List G_api_Cell)).bind fun e =>
 some (e)
 else
 some (([(⟨0, ([] : List Int)⟩ : G_api_Cell)] : List G_api_Cell))).bind fun c =>
 if ((p1.length : Int) == 0) = true then
 some c
 else
 (slc p1 0 (imin (p1.length : Int) 16)).bind fun f =>
 (f_scalar_Replace f).bind fun g =>
 (idx c 0).bind fun k =>
 (sets c 0 (⟨1, g⟩ : G_api_Cell)).bind fun a =>
 (if (decide (p0 ≥ 2)) = true then
 (idx a 0).bind fun h =>
 (sets a 0 (⟨2, h.Text⟩ : G_api_Cell)).bind fun b =>
 (idx b 1).bind fun i =>
 (sets b 1 (⟨3, i.Text⟩ : G_api_Cell)).bind fun d =>
 some (d)
 else
 some (a)).bind fun j =>
 some j
theorem c_cell_Of (O0 : Own c0 G F) (i : Int) (A : List Int) {r : List G_api_Cell} (h2 : Sl (RI .i32) c0 v1 A) (H : f_cell_Of i A = some r) :
    Calls prog 200 #[I i, v1] c0.w (Post c0 fun c v => ∃ y1 y2, Own c G (es true R_api_Cell y1 101 y2 r :: F) ∧ v = y1 ∧ OA R_api_Cell c y1 y2 r) := by
 unfold f_cell_Of at H
 refine en func200 rfl rfl (sr (va (Y) (wln (sr (va (.agg #[I 0, Y]) (me (sl R_api_Cell 101 [[I 0, Y]] ([(⟨0, ([] : List Int)⟩ : G_api_Cell)] : List G_api_Cell) O0 ⟨⟨(Y), rfl, (Sl.nl _ _)⟩, trivial⟩) ?_))))))
 rintro v7 c6 l6 ⟨u4, O3, h5⟩
 refine va (v7) (wln (bn H fun a0 h b => W.seqJ (Jn c6 fun c l => ∃ v10 n, Own c G (es true R_api_Cell v10 101 n a0 :: F) ∧ l = [(0, I i), (1, v1), (5, v10)] ∧ OA R_api_Cell c v10 n a0) ?_ ?_))
 ·refine sr (va (I i) (va (B (decide (i ≥ 2))) (wln (cn h (fun b1 h => ?_) (fun b1 h => ?_)))))
  ·refine W.region (va (v7) (va (.agg #[I 0, Y]) (me (sl R_api_Cell 101 [[I 0, Y]] ([(⟨0, ([] : List Int)⟩ : G_api_Cell)] : List G_api_Cell) O3 ⟨⟨(Y), rfl, (Sl.nl _ _)⟩, trivial⟩) ?_)))
   rintro v17 c3 l16 ⟨s3, h0, c1⟩
   obtain ⟨d3, e1, j3, i0, d1⟩ := h0.frz 0 rfl c1
   refine WL.gh e1 (bn h fun a3 f1 h => me (ap R_api_Cell (.agg #[I 0, Y]) 32 69 1 i0 h5.m d1 f1 underlying69) ?_)
   rintro v27 w0 k3 ⟨j2, j0, g1⟩
   refine va (v27) (wln ?_)
   obtain rfl := si h
   have k0 := j0.sD 2 [1]
   exact ⟨w0, _, _, rfl, pt, us, v27, j2, k0, rfl, g1⟩
  refine W.skip (nrm ?_)
  obtain rfl := si h
  exact ⟨c6, _, _, rfl, pt, us, v7, u4, O3, rfl, h5⟩
 rintro e_ w_ ⟨x0, h3, _, rfl, f2, rfl, v10, n, D, rfl, p⟩
 refine W.seq (sr (va (v1) (vx (ln 3 underlying27 h2.m) (va (B ((A.length : Int) == 0)) (wln (cn b (fun h1 b => ?_) (fun h1 b => ?_)))))))
 ·refine sr (va (v10) (va (v10) (wln (W.ret (thr ?_)))))
  obtain rfl := si b
  exact r1 ⟨_, x0, rfl, rfl, pt, v10, n, D, rfl, p⟩
 refine W.skip (nrm (sr (va (v10) (va (v1) (va (v1) (vx (ln 3 underlying27 h2.m) (va (I (imin (A.length : Int) 16)) (bn b fun e0 i1 b => ?_))))))))
 obtain ⟨v38, j1, k1⟩ := run_cutH (k' := .i64) underlying27 (by kernel_rfl) (h2.mono (l6.trans f2)) i1
 refine vr v38 (rx (by kernel_rfl) (j1 _)) (bn b fun s m1 b => cl (c_scalar_Replace D e0 k1 m1) ?_)
 rintro v42 e3 l3 ⟨_, k2, m0, rfl, N⟩
 obtain ⟨e, f, g, rfl⟩ := (N).form
 refine va (.agg #[I 1, .slice e f g]) (bn b fun b3 q1 b => vx (ixO underlying69 p.m q1) ?_)
 obtain ⟨f3, s1, m3, o0, P⟩ := m0.frz 0 rfl N
 refine WL.gh s1 (bn b fun w2 t1 b => md (Own.stW (R := R_api_Cell) (T := 101) (us := [I 1, .slice e f g]) (x' := (⟨1, s⟩ : G_api_Cell)) (u := .agg #[I 1, .slice e f g]) 1 o0 (by kernel_rfl) rfl p.m t1 rfl (by kernel_rfl) ⟨rfl, P.one, trivial⟩ rfl ⟨(.slice e f g), rfl, P⟩) ?_)
 rintro M n3 ⟨l2, E, k⟩
 refine wln (bn b fun z a g0 => W.seqJ (Jn M fun c l => ∃ d o, Own c G (es true R_api_Cell d 101 o z :: es false (RI .i32) (.slice e f g) 21 k2 s :: F) ∧ l = [(5, d)] ∧ OA R_api_Cell c d o z) ?_ ?_)
 ·refine sr (va (I i) (va (B (decide (i ≥ 2))) (wln (cn a (fun u1 a => ?_) (fun u1 a => ?_)))))
  ·refine W.region (va (v10) (va (v10) (bn a fun t S a => vx (ixO underlying69 k S) (va (.pointer (some ⟨sb v10, (0 : Int).toNat * 2, none⟩)) ?_))))
   obtain ⟨s2, w1, g2⟩ := OA.at k S
   obtain ⟨X, rfl, x1⟩ := w1
   refine bn a fun x2 z1 a => md (Own.stO (R := R_api_Cell) (T := 3) (us := [I 2]) (x' := (⟨2, t.Text⟩ : G_api_Cell)) (u := I 2) (x := (⟨2, t.Text⟩ : G_api_Cell)) (j := 0) (l' := [I 2, X]) 1 E (by kernel_rfl) rfl k z1 g2 rfl (by kernel_rfl) ⟨rfl, trivial⟩ (by kernel_rfl) rfl ⟨X, rfl, x1⟩) ?_
   rintro g3 o3 ⟨t3, q0, q⟩
   refine bn a fun y U a => vx (ixO underlying69 q U) (va (.pointer (some ⟨sb v10, (1 : Int).toNat * 2, none⟩)) ?_)
   obtain ⟨t2, a2, i2⟩ := OA.at q U
   obtain ⟨Z, rfl, b2⟩ := a2
   refine bn a fun z2 c2 a => md (Own.stO (R := R_api_Cell) (T := 3) (us := [I 3]) (x' := (⟨3, y.Text⟩ : G_api_Cell)) (u := I 3) (x := (⟨3, y.Text⟩ : G_api_Cell)) (j := 0) (l' := [I 3, Z]) 1 q0 (by kernel_rfl) rfl q c2 i2 rfl (by kernel_rfl) ⟨rfl, trivial⟩ (by kernel_rfl) rfl ⟨Z, rfl, b2⟩) ?_
   rintro z0 p3 ⟨m2, s0, d2⟩
   refine wln ?_
   obtain rfl := si a
   have t0 := s0.sD 2 [1, 0]
   exact ⟨z0, _, _, rfl, pt, us, v10, m2, t0, rfl, d2⟩
  refine W.skip (nrm ?_)
  obtain rfl := si a
  have u0 := E.sD 2 [1, 0]
  exact ⟨M, _, _, rfl, pt, us, v10, l2, u0, rfl, k⟩
 rintro e_ w_ ⟨a1, i3, _, rfl, q3, rfl, d, o, v0, rfl, e2⟩
 refine sr (va (d) (va (d) (wln (W.ret ?_))))
 obtain rfl := si g0
 have b0 := v0.sD 2 [0]
 exact r1 ⟨_, a1, rfl, rfl, pt, d, o, b0, rfl, e2⟩
def f_mark_Put (sg : Sto) (p0 : Option Nat) (p1 : Int) (p2 : Int) (p3 : List Int) : Option (Sto × Er) :=
 (f_cell_Of p2 p3).bind fun b =>
 (f_row_Row_Paint sg p0 p1 b).bind fun a =>
 some (a.1, a.2)
theorem c_mark_Put (u : Own c0 G F) (x : Rel c0 sg G) (hG : Gl [0, 4] c0) (d : Option Nat) (a : Int) (b : Int) (e : List Int) {r : Sto × Er} (y : Pt 0 c0 v1 d) (z : Sl (RI .i32) c0 v3 e) (H : f_mark_Put sg d a b e = some r) :
    Calls prog 129 #[v1, I a, I b, v3] c0.w (Post c0 fun c v => ∃ t, ∃ G_ : Gm, Own c G_ (F) ∧ Rel c r.1 G_ ∧ v = t ∧ RE 305 179 c t r.2) := by
 unfold f_mark_Put at H
 refine en func129 rfl rfl (sr (va (.nilIface) (wln (sr (va (v1) (va (I a) (va (I b) (va (v3) (bn H fun s A H => cl (c_cell_Of u b e z A) ?_)))))))))
 rintro v6 E N ⟨_, T, g, rfl, D⟩
 obtain ⟨M, o, P, h, n⟩ := g.frz 0 rfl D
 refine WL.gh o (bn H fun S p H => cl (c_row_Row_Paint h x.m (hG.m.le (by decide)) d a s y.m n p) ?_)
 rintro v20 l R ⟨_, f, i, k, rfl, q⟩
 refine va (v20) (wln (W.ret ?_))
 obtain rfl := si H
 have j := i.sD 1 []
 exact r1 ⟨_, l, rfl, rfl, pt, v20, f, j, k, rfl, q⟩
def f_mark_At (sg : Sto) (p0 : Option Nat) (p1 : Int) : Option (Int × G_api_Item × Bool) :=
 (f_row_Row_Cell sg p0 p1).bind fun b =>
 ((andE b.2 (some (b.1.Kind == 3))).bind fun d =>
 if d = true then
 (f_row_Row_Cell sg p0 (w64 (p1 - 1))).bind fun c =>
 some ((w64 (p1 - 1)), c.2, c.1.Kind, c.1.Text)
 else
 some (p1, b.2, b.1.Kind, b.1.Text)).bind fun a =>
 (andE a.2.1 (some (a.2.2.1 == 1))).bind fun e =>
 if e = true then
 some (a.1, (⟨1, a.2.2.2⟩ : G_api_Item), true)
 else
 (andE a.2.1 (some (a.2.2.1 == 2))).bind fun f =>
 if f = true then
 some (a.1, (⟨2, a.2.2.2⟩ : G_api_Item), true)
 else
 some (0, (⟨0, ([] : List Int)⟩ : G_api_Item), false)
theorem c_mark_At (O0 : Own c0 G F) (R0 : Rel c0 sg G) (p0 : Option Nat) (j : Int) {r : Int × G_api_Item × Bool} (h2 : Pt 0 c0 v1 p0) (H : f_mark_At sg p0 j = some r) :
    Calls prog 155 #[v1, I j] c0.w (Post c0 fun c v => ∃ y1 y2, Own c G (es true (RI .i32) y1 21 y2 r.2.1.Text :: F) ∧ v = .tuple #[I r.1, .agg #[I r.2.1.Wide, y1], B r.2.2] ∧ OA (RI .i32) c y1 y2 r.2.1.Text) := by
 unfold f_mark_At at H
 refine en func155 rfl rfl (sr (va (I 0) (me (al 197 [I 0, Y] O0) ?_)))
 rintro v6 c5 l5 ⟨u, rfl, O4⟩
 refine va (B false) (wln (sr (va (v1) (va (I j) (bn H fun f h7 H => cl (c_row_Row_Cell O4 R0.m p0 j h2.m h7) ?_)))))
 rintro v16 c3 k3 ⟨v8, u9, k1, rfl, e0⟩
 refine va (.tuple #[.agg #[I f.1.Kind, v8], B f.2]) (va (.agg #[I f.1.Kind, v8]) (va (B f.2) (me (al 101 [I 0, Y] k1) ?_)))
 rintro v20 d3 j2 ⟨b, rfl, m1⟩
 obtain ⟨N, P, R, rfl⟩ := ((e0.mono j2)).form
 refine md (sA 101 [I f.1.Kind, .slice N P R] 0 m1 ⟨rfl, e0.m.one, trivial⟩) ?_
 rintro S l3 U
 refine va (B f.2) (wln (bn H fun a g d => W.seqJ (Jn S fun c l => ∃ v28 i, Own c G (es true (RI .i32) v28 21 i a.2.2.2 :: (Eb b 101 [I a.2.2.1, v28]) :: (Eb u 197 [I 0, Y]) :: F) ∧ l = [(1, I a.1), (5, Q u), (6, B a.2.1), (7, Q b)] ∧ OA (RI .i32) c v28 i a.2.2.2) ?_ ?_))
 ·refine W.seq (bn g fun y0 q0 g => W.join (Jn S fun c l => Own c G ((Eb b 101 [I f.1.Kind, .slice N P R]) :: es true (RI .i32) (.slice N P R) 21 u9 f.1.Text :: (Eb u 197 [I 0, Y]) :: F) ∧ l = [(0, v1), (1, I j), (5, Q u), (6, B f.2), (7, Q b), (19, B y0)]) ?_ ?_)
  ·clear g
   refine W.region (va (B f.2) ?_)
   rcases bo (f.2) with x | x
   ·have h1 := anT x q0
    refine vb x (wn (va (Q b) (wn (vx (le1 0 underlying3 (U.on 0 rfl)) (wn (va (B (f.1.Kind == 3)) ?_))))))
    obtain rfl := si h1
    exact va (B (f.1.Kind == 3)) (wln ⟨S, _, _, rfl, pt, us, U, rfl⟩)
   obtain rfl := anF x q0
   exact vb x (ps (ps (ps (va (B false) (wln ⟨S, _, _, rfl, pt, us, U, rfl⟩)))))
  rintro e_ w_ ⟨x1, g3, _, rfl, m3, rfl, h0, rfl⟩
  refine nrm (cn g (fun d2 g => ?_) (fun d2 g => ?_))
  ·refine sr (va (I j) (va (I (w64 (j - 1))) (va (I (w64 (j - 1))) (wln (W.region (va (v1) (va (I (w64 (j - 1))) (bn g fun h e2 g => cl (c_row_Row_Cell h0 R0.m p0 (w64 (j - 1)) h2.m e2) ?_))))))))
   rintro v49 e3 n3 ⟨v41, q2, n1, rfl, f0⟩
   refine va (.tuple #[.agg #[I h.1.Kind, v41], B h.2]) (va (.agg #[I h.1.Kind, v41]) (va (B h.2) ?_))
   obtain ⟨l0, m0, o0, rfl⟩ := (f0).form
   refine md (sA 101 [I h.1.Kind, .slice l0 m0 o0] 1 n1 ⟨rfl, (f0).one, trivial⟩) ?_
   rintro z1 o3 q1
   refine va (B h.2) (wln ?_)
   obtain rfl := si g
   have s1 := q1.sD 4 [0, 1, 3]
   exact ⟨z1, _, _, rfl, pt, us, (.slice l0 m0 o0), q2, s1, rfl, f0.m⟩
  refine W.skip (nrm ?_)
  obtain rfl := si g
  have t1 := h0.sD 3 [1, 0, 2]
  exact ⟨x1, _, _, rfl, pt, us, (.slice N P R), u9, t1, rfl, e0.m⟩
 rintro e_ w_ ⟨a0, h3, _, rfl, p3, rfl, v28, i, X, rfl, k⟩
 refine W.seq (W.block (W.seq (bn d fun z0 s0 d => W.join (Jn a0 fun c l => Own c G (es true (RI .i32) v28 21 i a.2.2.2 :: (Eb b 101 [I a.2.2.1, v28]) :: (Eb u 197 [I 0, Y]) :: F) ∧ l = [(1, I a.1), (5, Q u), (6, B a.2.1), (7, Q b), (28, B z0)]) ?_ ?_)))
 ·clear d
  refine W.region (va (B a.2.1) ?_)
  rcases bo (a.2.1) with y | y
  ·have i1 := anT y s0
   refine vb y (wn (va (Q b) (wn (vx (le1 0 underlying3 (X.on 1 rfl)) (wn (va (B (a.2.2.1 == 1)) ?_))))))
   obtain rfl := si i1
   exact va (B (a.2.2.1 == 1)) (va (B (a.2.2.1 == 1)) (wln ⟨a0, _, _, rfl, pt, us, X, rfl⟩))
  obtain rfl := anF y s0
  exact vb y (ps (ps (ps (va (B false) (va (B false) (wln ⟨a0, _, _, rfl, pt, us, X, rfl⟩))))))
 rintro e_ w_ ⟨b0, i3, _, rfl, u0, rfl, M, rfl⟩
 refine nrm (cn d (fun f2 d => ?_) (fun f2 d => ?_))
 ·refine W.seq (rD [] (Kp G0 [(Eb b 101 [I a.2.2.1, v28])]) M ?_)
  intro a2 k2 i0
  have n2 : Kp G0 [(Eb b 101 [I a.2.2.1, v28])] a2 := (Kp.cons (i0.on 1 rfl) Kp.nil0)
  refine ta 0 (I a.1) (ta 1 (.pointer (some ⟨b, 1, none⟩)) (tkx 2 n2 (fun c' i2 hk => le1 1 underlying27 (hk.on 0 rfl)) ?_))
  obtain ⟨n, o, p, rfl⟩ := ((k.mono (u0.trans k2))).form
  refine ta 3 (.agg #[I 1, .slice n o p]) (ta 4 (I a.1) (o1 5 (gD 5 (sA 197 [I 1, .slice n o p] 2 i0 ⟨rfl, k.m.one, trivial⟩) ?_)))
  rintro d0 q3 Z
  have o2 : Kp G0 [(Eb b 101 [I a.2.2.1, (.slice n o p)])] d0 := (Kp.cons (Z.on 1 rfl) Kp.nil0)
  refine ⟨.inr o2, ta 6 (B true) (dn (nrm (W.ret (bkr (thr ?_)))))⟩
  obtain rfl := si d
  have u1 := Z.sD 3 [0]
  exact retTCT (c := d0) (vs := [I 1, .slice n o p]) (v := B true) (v' := I a.1) rfl (by kernel_rfl) (by kernel_rfl) (by kernel_rfl) (by kernel_rfl) (by kernel_rfl) (Z.on 2 rfl _ rfl).1 ⟨_, d0, rfl, rfl, pt, (.slice n o p), i, u1, rfl, k.m⟩
 refine W.seq (bn d fun a1 t0 d => W.join (Jn b0 fun c l => Own c G (es true (RI .i32) v28 21 i a.2.2.2 :: (Eb b 101 [I a.2.2.1, v28]) :: (Eb u 197 [I 0, Y]) :: F) ∧ l = [(1, I a.1), (5, Q u), (7, Q b), (39, B a1)]) ?_ ?_)
 ·clear d
  refine W.region (va (B a.2.1) ?_)
  rcases bo (a.2.1) with z | z
  ·have j1 := anT z t0
   refine vb z (wn (va (Q b) (wn (vx (le1 0 underlying3 (M.on 1 rfl)) (wn (va (B (a.2.2.1 == 2)) ?_))))))
   obtain rfl := si j1
   exact va (B (a.2.2.1 == 2)) (va (B (a.2.2.1 == 2)) (wln ⟨b0, _, _, rfl, pt, us, M, rfl⟩))
  obtain rfl := anF z t0
  exact vb z (ps (ps (ps (va (B false) (va (B false) (wln ⟨b0, _, _, rfl, pt, us, M, rfl⟩))))))
 rintro e_ w_ ⟨f3, j3, _, rfl, l2, rfl, j0, rfl⟩
 refine nrm (cn d (fun g2 d => ?_) (fun g2 d => ?_))
 ·refine W.seq (rD [] (Kp G0 [(Eb b 101 [I a.2.2.1, v28])]) j0 ?_)
  intro b2 m2 k0
  have p2 : Kp G0 [(Eb b 101 [I a.2.2.1, v28])] b2 := (Kp.cons (k0.on 1 rfl) Kp.nil0)
  refine ta 0 (I a.1) (ta 1 (.pointer (some ⟨b, 1, none⟩)) (tkx 2 p2 (fun c' i2 hk => le1 1 underlying27 (hk.on 0 rfl)) ?_))
  obtain ⟨q, s, t, rfl⟩ := ((k.mono (u0.trans (l2.trans m2)))).form
  refine ta 3 (.agg #[I 2, .slice q s t]) (ta 4 (I a.1) (o1 5 (gD 5 (sA 197 [I 2, .slice q s t] 2 k0 ⟨rfl, k.m.one, trivial⟩) ?_)))
  rintro D z2 A
  have e1 : Kp G0 [(Eb b 101 [I a.2.2.1, (.slice q s t)])] D := (Kp.cons (A.on 1 rfl) Kp.nil0)
  refine ⟨.inr e1, ta 6 (B true) (dn (nrm (W.ret (bkr (thr ?_)))))⟩
  obtain rfl := si d
  have v0 := A.sD 3 [0]
  exact retTCT (c := D) (vs := [I 2, .slice q s t]) (v := B true) (v' := I a.1) rfl (by kernel_rfl) (by kernel_rfl) (by kernel_rfl) (by kernel_rfl) (by kernel_rfl) (A.on 2 rfl _ rfl).1 ⟨_, D, rfl, rfl, pt, (.slice q s t), i, v0, rfl, k.m⟩
 refine W.skip (bkn (nrm (sr (va (.agg #[I 0, Y]) (va (I 0) (md (sA 197 [I 0, Y] 2 j0 ⟨rfl, rfl, trivial⟩) ?_))))))
 rintro E a3 w0
 refine va (B false) (wln (W.ret ?_))
 obtain rfl := si d
 have c1 : OA (RI .i32) E (Y) [] [] := OA.nil (Nat.succ_pos _)
 have T := w0.addHole (e := es true (RI .i32) (Y) 21 [] ([] : List Int)) rfl
 have x0 := T.sD 4 [0]
 exact retTCT (c := E) (vs := [I 0, Y]) (v := B false) (v' := I 0) rfl (by kernel_rfl) (by kernel_rfl) (by kernel_rfl) (by kernel_rfl) (by kernel_rfl) (T.on 3 rfl _ rfl).1 ⟨_, E, rfl, rfl, pt, (Y), [], x0, rfl, c1⟩
def f_mark_Add (sg : Sto) (p0 : Option Nat) (p1 : Int) (p2 : Int) : Option (Sto × Bool) :=
 (f_mark_At sg p0 p1).bind fun a =>
 (orE (!a.2.2) (some (decide ((a.2.1.Text.length : Int) ≥ 16)))).bind fun c =>
 if c = true then
 some (sg, false)
 else
 (app a.2.1.Text ([p2] : List Int)).bind fun d =>
 (f_mark_Put sg p0 a.1 a.2.1.Wide d).bind fun b =>
 some (b.1, b.2.isNil)
theorem c_mark_Add (O0 : Own c0 G F) (R : Rel c0 sg G) (hG : Gl [0, 4] c0) (q : Option Nat) (s : Int) (h : Int) {r : Sto × Bool} (h2 : Pt 0 c0 v1 q) (H : f_mark_Add sg q s h = some r) :
    Calls prog 85 #[v1, I s, J h] c0.w (Post c0 fun c v => ∃ G_ : Gm, Own c G_ (F) ∧ Rel c r.1 G_ ∧ v = B r.2) := by
 unfold f_mark_Add at H
 refine en func85 rfl rfl (sr (va (B false) (wln (sr (va (v1) (va (I s) (bn H fun a h3 H => cl (c_mark_At O0 R q s h2 h3) ?_)))))))
 rintro v12 q1 u1 ⟨v4, u5, O8, rfl, p⟩
 refine va (.tuple #[I a.1, .agg #[I a.2.1.Wide, v4], B a.2.2]) (va (I a.1) (va (.agg #[I a.2.1.Wide, v4]) (va (B a.2.2) (me (al 197 [I 0, Y] O8) ?_))))
 rintro v16 s1 a1 ⟨b, rfl, a0⟩
 refine va (I a.1) ?_
 obtain ⟨d, e, f, rfl⟩ := ((p.mono a1)).form
 refine md (sA 197 [I a.2.1.Wide, .slice d e f] 0 a0 ⟨rfl, p.m.one, trivial⟩) ?_
 rintro j w1 i
 refine va (B a.2.2) (wln (W.seq (W.seq (bn H fun S M H => W.join (Jn j fun c l => Own c G ((Eb b 197 [I a.2.1.Wide, .slice d e f]) :: es true (RI .i32) (.slice d e f) 21 u5 a.2.1.Text :: F) ∧ l = [(0, v1), (2, J h), (7, I a.1), (8, Q b), (24, B S)]) ?_ ?_))))
 ·clear H
  refine W.region (va (B a.2.2) (va (B (!a.2.2)) ?_))
  rcases bo (!a.2.2) with g | g
  ·obtain rfl := orT g M
   exact vb g (ps (ps (ps (ps (va (B true) (wln ⟨j, _, _, rfl, pt, us, i, rfl⟩))))))
  have Z := orF g M
  refine vb g (wn (va (.pointer (some ⟨b, 1, none⟩)) (wn (vx (le1 1 underlying27 (i.on 0 rfl)) (wn (vx (lnO 3 underlying27 p.m) (wn (va (B (decide ((a.2.1.Text.length : Int) ≥ 16))) ?_))))))))
  obtain rfl := si Z
  exact va (B (decide ((a.2.1.Text.length : Int) ≥ 16))) (wln ⟨j, _, _, rfl, pt, us, i, rfl⟩)
 rintro e_ w_ ⟨g0, t1, _, rfl, x1, rfl, t, rfl⟩
 refine nrm (cn H (fun o0 H => ?_) (fun o0 H => ?_))
 ·refine sr (va (B false) (wln (W.ret (thr ?_))))
  obtain rfl := si H
  have b0 := t.sD 2 []
  exact r1 ⟨_, g0, rfl, rfl, pt, G, b0, R.m, rfl⟩
 refine W.skip (nrm (W.seq (rD [] (Kp G0 [(Eb b 197 [I a.2.1.Wide, .slice d e f])]) t ?_)))
 intro h0 y1 u
 have P : Kp G0 [(Eb b 197 [I a.2.1.Wide, .slice d e f])] h0 := (Kp.cons (u.on 0 rfl) Kp.nil0)
 refine ta 0 (v1) (ta 1 (I a.1) (ta 2 (Q b) (tkx 3 P (fun c' N T => le1 0 underlying3 (T.on 0 rfl)) (ta 4 (.pointer (some ⟨b, 1, none⟩)) (tkx 5 P (fun c' N T => le1 1 underlying27 (T.on 0 rfl)) (ta 6 (J h) (o1 7 (gm 7 (sl (RI .i32) 21 [[J h]] ([h] : List Int) u ⟨rfl, trivial⟩) ?_))))))))
 rintro v40 i0 z1 ⟨c2, x, q0⟩
 have d1 : Kp G0 [(Eb b 197 [I a.2.1.Wide, .slice d e f])] i0 := (Kp.cons (x.on 1 rfl) Kp.nil0)
 refine ⟨.inr d1, ?_⟩
 obtain ⟨j0, t0, b1, y, s0⟩ := x.frz 0 rfl q0
 have e1 : Kp G0 [(Eb b 197 [I a.2.1.Wide, .slice d e f])] j0 := (Kp.cons (y.on 1 rfl) Kp.nil0)
 refine AC.gh t0 b1 (fun _ => e1) (bn H fun U u0 H => o1 8 (gm 8 (ap (RI .i32) (J 0) 4 27 2 y p.m s0 u0 underlying27) ?_))
 rintro v52 k0 a2 ⟨d2, z, v0⟩
 have f1 : Kp G0 [(Eb b 197 [I a.2.1.Wide, .slice d e f])] k0 := (Kp.cons (z.on 1 rfl) Kp.nil0)
 refine ⟨.inr f1, ?_⟩
 obtain ⟨l0, x0, c1, A, w0⟩ := z.frz 2 rfl v0
 have g1 : Kp G0 [(Eb b 197 [I a.2.1.Wide, .slice d e f])] l0 := (Kp.cons (A.on 1 rfl) Kp.nil0)
 refine AC.gh x0 c1 (fun _ => g1) (bn H fun o y0 H => o1 9 (gc 9 (c_mark_Put A R.m (hG.m.le (by decide)) q a.1 a.2.1.Wide U h2.m w0 y0) ?_))
 rintro v60 E b2 ⟨_, X, D, e0, rfl, z0⟩
 have h1 : Kp G0 [(Eb b 197 [I a.2.1.Wide, .slice d e f])] E := (Kp.cons (D.on 1 rfl) Kp.nil0)
 refine ⟨.inr h1, AC.take 10 (B o.2.isNil) rfl (by kernel_rfl) (by kernel_rfl) (fun c' N => (by rcases (z0).cs with ⟨k, n⟩ | ⟨b_, k, n⟩ | ⟨b_, k, n⟩ <;> (subst k; rw [n]; kernel_rfl))) (ta 11 (B o.2.isNil) (dn (nrm (W.ret ?_))))⟩
 obtain rfl := si H
 have d0 := D.sD 3 []
 exact r1 ⟨_, E, rfl, rfl, pt, X, d0, e0, rfl⟩
def f_grid_New (sg : Sto) (p0 : Int) (p1 : Int) : Option (Sto × (Option Nat)) :=
 (some (sg.add_grid_Grid (⟨([] : List (Option Nat))⟩ : G_grid_Grid))).bind fun c =>
 (iter (σ := Int × Sto) (τ := Sto) (((imax 1 (imin p1 1024)) - 0).toNat + 1) (fun a =>
 if (decide (a.1 < (imax 1 (imin p1 1024)))) = true then
 (a.2.grid_Grid[sg.grid_Grid.length]?).bind fun f =>
 (f_row_New a.2 p0).bind fun d =>
 (app f.rows ([d.2] : List (Option Nat))).bind fun g =>
 (d.1.set_grid_Grid sg.grid_Grid.length (⟨g⟩ : G_grid_Grid)).bind fun b =>
 some (.inl ((w64 (a.1 + 1)), b))
 else
 some (.inr (a.2))) (0, c)).bind fun e =>
 some (e, (some sg.grid_Grid.length))
theorem c_grid_New (O0 : Own c0 G F) (R0 : Rel c0 sg G) (y : Int) (n : Int) {r : Sto × (Option Nat)} (H : f_grid_New sg y n = some r) :
    Calls prog 114 #[I y, I n] c0.w (Post c0 fun c v => ∃ y1, ∃ G_ : Gm, Own c G_ (F) ∧ Rel c r.1 G_ ∧ Adds G G_ ∧ v = y1 ∧ Pt 1 c y1 r.2) := by
 unfold f_grid_New at H
 refine en func114 rfl rfl (sr (va (.pointer none) (wln (sr (va (.agg #[Y]) ?_)))))
 have h2 : OA (RP 0) c0 (Y) [] [] := OA.nil (Nat.succ_pos _)
 have O1 := O0.addHole (e := es true (RP 0) (Y) 116 [] ([] : List (Option Nat))) rfl
 refine me (al 122 [(Y)] O1) ?_
 rintro v6 c5 l5 ⟨a, rfl, O4⟩
 have O7 := O4.sD 2 [0, 1]
 refine bn H fun p2 h8 H => ?_
 obtain ⟨z, l0, t1, l9, p, q0, U, k3, u1, a16⟩ := Rel.new_grid_Grid (E := [(Eb a 122 [(Y)]), es true (RP 0) (Y) 116 [] ([] : List (Option Nat))]) (F := F) (x := (⟨([] : List (Option Nat))⟩ : G_grid_Grid)) (b := a) O7 (R0.mono l5) (fun c_ hle_ => ⟨a, (Y), [], rfl, rfl, ((h2.mono l5).mono hle_)⟩)
 rw [Option.some.inj h8] at U
 refine WL.gh t1.1 ?_
 have v1 := Adds.nil (Adds.refl _) u1
 have c1 := (Adds.refl _).trans a16
 have w1 : Pt 1 z (Q a) (some sg.grid_Grid.length) := ⟨a, rfl, p⟩
 refine va (Q a) (wln (W.seq (sr (va (I n) (va (I (imin n 1024)) (va (I (imax 1 (imin n 1024))) (va (I 0) (wln (W.block (bn H fun d3 a0 D => lp a0 (fun d => Jn z fun c l => ∃ G_, Own c G_ (F) ∧ l = [(0, I y), (5, Q a), (10, I (imax 1 (imin n 1024))), (11, I d.1)] ∧ Rel c d.2 G_ ∧ Adds G G_) (fun A ex e w => ex = .exit 0 ∧ (Jn z fun c l => ∃ G_, Own c G_ (F) ∧ l = [(5, Q a)] ∧ Rel c A G_ ∧ Adds G G_) e w) ?_ ?_ ?_))))))))))
 ·clear D a0
  intro d s3 s1 q2 H
  revert s1 q2
  rintro e_ w_ ⟨h1, i3, _, rfl, i2, rfl, f, M, rfl, o, X⟩
  refine sr (va (B (decide (d.1 < (imax 1 (imin n 1024))))) (wln (W.seq (cn H (fun x1 H => ?_) (fun x1 H => ?_)))))
  ·refine W.skip (nrm (W.seq (W.block (rD [8, 11] (Kp f []) M ?_))))
   intro i1 e0 N
   have l2 : Kp f [] i1 := (Kp.nil N)
   refine ta 0 (Q a) (ta 1 (Q a) (ta 2 (Q a) (ta 3 (Q a) (bn H fun e3 z1 H => ?_))))
   obtain ⟨v35, o3, b0, a2⟩ := Rel.open_grid_Grid (o.mono e0) z1 (tm p)
   refine tkx 4 l2 (fun c' m3 hk => le1 0 underlying120 (hk.gon b0 0 rfl)) (ta 5 (I y) (bn H fun i0 b2 H => o1 6 (gc 6 (c_row_New N o.m y b2) ?_)))
   rintro v40 j1 j2 ⟨_, g3, P, z0, k, rfl, d0⟩
   have d1 := X.trans k
   have m2 : Kp f [] j1 := (Kp.adds P k)
   refine ⟨.inr m2, ?_⟩
   obtain ⟨Z, rfl⟩ := (d0).form
   refine o1 7 (gm 7 (sl (RP 0) 116 [[.pointer Z]] ([i0.2] : List (Option Nat)) P ⟨⟨(.pointer Z), rfl, d0⟩, trivial⟩) ?_)
   rintro v55 k1 f0 ⟨p3, R, c2⟩
   have n2 : Kp f [] k1 := (Kp.adds R k)
   refine ⟨.inr n2, ?_⟩
   obtain ⟨m1, e2, s, S, d2⟩ := R.frz 0 rfl c2
   have o2 : Kp f [] m1 := (Kp.adds S k)
   refine AC.gh e2 s (fun _ => o2) (bn H fun j0 f2 H => ?_)
   have s0 := S.borrow 1 (k.get b0) rfl
   refine o1 8 (gm 8 (ap (RP 0) (.pointer none) 8 120 0 s0 a2.m d2 f2 underlying120) ?_)
   rintro q3 h3 g0 ⟨h0, t0, q⟩
   have u0 := t0.giveB 1 rfl
   refine ⟨.inl rfl, ta 9 (Q a) (ta 10 (Q a) ?_)⟩
   obtain ⟨g, h, i, rfl⟩ := (q).form
   refine o1 11 (gD 11 (Own.stGB (T := 120) (j := 0) (us := [.slice g h i]) (nw := [.slice g h i]) (v := .slice g h i) 0 u0 (by kernel_rfl) rfl rfl rfl rfl (by kernel_rfl) ⟨(q).one, trivial⟩ (by kernel_rfl) rfl) ?_)
   rintro n1 u v0
   refine bn H fun k0 g2 H => ?_
   obtain ⟨m0, w0, a1, l3, e1⟩ := Rel.put_grid_Grid v0 (z0.mono (f0.trans (s.trans (g0.trans u)))) (E' := [(Eb a 122 [.slice g h i]), es true (RP 0) (.slice g h i) 116 h0 j0]) g2 ⟨a, (.slice g h i), h0, ((i2.trans (e0.trans (j2.trans (f0.trans (s.trans (g0.trans u)))))).t _ _ _ p), rfl, (q.mono u)⟩
   have f1 := e1 _ d1 v1
   refine ⟨.inl rfl, dn (bkn (nrm (W.region (va (I (w64 (d.1 + 1))) (va (I (w64 (d.1 + 1))) (WL.nil ?_))))))⟩
   obtain rfl := si H
   refine ⟨_, rfl, ?_⟩
   have x0 := w0.sD 1 []
   exact ⟨n1, _, _, rfl, pt, us, m0, x0, rfl, a1, f1⟩
  refine W.exit (thx ?_)
  obtain rfl := si H
  exact ⟨_, rfl, rfl, ⟨h1, _, _, rfl, pt, us, f, M, rfl, o, X⟩⟩
 ·exact ⟨z, _, _, rfl, pt, us, l0, q0, rfl, U, c1⟩
 rintro _ e_ w_ ⟨rfl, q1, j3, _, rfl, n3, rfl, o0, y0, rfl, b1, g1⟩
 refine bke (nrm (sr (va (Q a) (va (Q a) (wln (W.ret ?_))))))
 obtain rfl := si D
 exact r1 ⟨_, q1, rfl, rfl, pt, (Q a), o0, y0, b1, g1, rfl, w1.m⟩
def f_place_New (sg : Sto) (p0 : Int) (p1 : Int) : Option (Sto × (Option Nat)) :=
 (f_grid_New sg p0 p1).bind fun b =>
 (some (b.1.add_place_Pen (⟨b.2, (⟨0, 0, false⟩ : G_api_Cursor), true⟩ : G_place_Pen))).bind fun a =>
 some (a, (some b.1.place_Pen.length))
theorem c_place_New (N : Own c0 G F) (R : Rel c0 sg G) (e : Int) (f : Int) {r : Sto × (Option Nat)} (H : f_place_New sg e f = some r) :
    Calls prog 45 #[I e, I f] c0.w (Post c0 fun c v => ∃ M, ∃ G_ : Gm, Own c G_ (F) ∧ Rel c r.1 G_ ∧ Adds G G_ ∧ v = M ∧ Pt 2 c M r.2) := by
 unfold f_place_New at H
 refine en func45 rfl rfl (sr (va (.pointer none) (wln (sr (va (I e) (va (I f) (bn H fun k U H => cl (c_grid_New N R e f U) ?_)))))))
 rintro v2 c8 l8 ⟨_, G4, P, S, T, rfl, z⟩
 have h := (Adds.refl _).trans T
 obtain ⟨d, rfl⟩ := (z).form
 refine va (.agg #[.pointer d, I 0, I 0, B false, B true]) (me (al 42 [.pointer d, I 0, I 0, B false, B true] P) ?_)
 rintro v15 X j ⟨a, rfl, m⟩
 have n := m.sD 1 [0]
 refine bn H fun D s H => ?_
 obtain ⟨i, l, t, b0, u, o, g, Z, y, p⟩ := Rel.new_place_Pen (E := [(Eb a 42 [.pointer d, I 0, I 0, B false, B true])]) (F := F) (x := (⟨k.2, (⟨0, 0, false⟩ : G_api_Cursor), true⟩ : G_place_Pen)) (b := a) n (S.mono j) (fun c_ hle_ => ⟨a, (.pointer d), rfl, rfl, (z.mono (j.trans hle_))⟩)
 rw [Option.some.inj s] at g
 refine WL.gh t.1 ?_
 have a0 := Adds.nil h y
 have q := h.trans p
 have A : Pt 2 i (Q a) (some k.1.place_Pen.length) := ⟨a, rfl, u⟩
 refine va (Q a) (wln (W.ret ?_))
 obtain rfl := si H
 exact r1 ⟨_, i, rfl, rfl, pt, (Q a), l, o, g, q, rfl, A⟩
def f_cursor_side (p0 : Int) : Option (Int) :=
 some (imax 1 (imin p0 1024))
theorem c_cursor_side (b : Own c0 G F) (a : Int) {r : Int} (H : f_cursor_side a = some r) :
    Calls prog 168 #[I a] c0.w (Post c0 fun c v => Own c G (F) ∧ v = I r) := by
 unfold f_cursor_side at H
 refine en func168 rfl rfl (sr (va (I 0) (wln (sr (va (I a) (va (I (imin a 1024)) (va (I (imax 1 (imin a 1024))) (va (I (imax 1 (imin a 1024))) (wln (W.ret ?_))))))))))
 obtain rfl := si H
 exact r1 ⟨_, c0, rfl, rfl, pt, b, rfl⟩
def f_cursor_held (p0 : Int) (p1 : Int) : Option (Int) :=
 some (imax 0 (imin p0 (w64 (p1 - 1))))
theorem c_cursor_held (d : Own c0 G F) (b : Int) (a : Int) {r : Int} (H : f_cursor_held b a = some r) :
    Calls prog 169 #[I b, I a] c0.w (Post c0 fun c v => Own c G (F) ∧ v = I r) := by
 unfold f_cursor_held at H
 refine en func169 rfl rfl (sr (va (I 0) (wln (sr (va (I b) (va (I a) (va (I (w64 (a - 1))) (va (I (imin b (w64 (a - 1)))) (va (I (imax 0 (imin b (w64 (a - 1))))) (va (I (imax 0 (imin b (w64 (a - 1))))) (wln (W.ret ?_))))))))))))
 obtain rfl := si H
 exact r1 ⟨_, c0, rfl, rfl, pt, d, rfl⟩
def f_cursor_Hold (p0 : G_api_Cursor) (p1 : Int) (p2 : Int) : Option (G_api_Cursor) :=
 (f_cursor_side p1).bind fun a =>
 (f_cursor_side p2).bind fun e =>
 (f_cursor_held p0.Row e).bind fun c =>
 (f_cursor_held p0.Col a).bind fun d =>
 (andE p0.Pending (some (p0.Col == (w64 (a - 1))))).bind fun b =>
 some (⟨c, d, b⟩ : G_api_Cursor)
theorem c_cursor_Hold (O0 : Own c0 G F) (a : G_api_Cursor) (n : Int) (o : Int) {r : G_api_Cursor} (H : f_cursor_Hold a n o = some r) :
    Calls prog 100 #[.agg #[I a.Row, I a.Col, B a.Pending], I n, I o] c0.w (Post c0 fun c v => Own c G (F) ∧ v = .agg #[I r.Row, I r.Col, B r.Pending]) := by
 unfold f_cursor_Hold at H
 refine en func100 rfl rfl (sr (me (bx 24 [I a.Row, I a.Col, B a.Pending] O0) ?_))
 rintro v5 c4 l4 ⟨k, rfl, O2, m⟩
 refine me (al 24 [I 0, I 0, B false] O2) ?_
 rintro v9 c8 l8 ⟨R, rfl, O7⟩
 refine wln (sr (va (I n) (bn H fun b Z H => cl (c_cursor_side O7 n Z) ?_)))
 rintro v16 l0 o0 ⟨z, rfl⟩
 refine va (I o) (bn H fun j a0 H => cl (c_cursor_side z o a0) ?_)
 rintro v23 S q0 ⟨A, rfl⟩
 refine va (I b) (va (I j) (wln (W.seq (bn H fun d b0 H => bn H fun e d0 H => bn H fun i x H => W.join (Jn S fun c l => Own c G ((Eb R 24 [I d, I e, B i]) :: F) ∧ l = [(6, Q R)]) ?_ ?_))))
 ·clear H
  refine rD [] (Kp G0 []) A ?_
  intro T s0 D
  have y0 : Kp G0 [] T := Kp.nil0
  refine ta 0 (Q k) (tx 1 (fun h g => l1 underlying3 ((mm m) 0 _ rfl)) (ta 2 (I j) (ta 4 (.pointer (some ⟨k, 0 + 1, none⟩)) (tx 5 (fun h g => l1 underlying3 ((mm m) 1 _ rfl)) (ta 6 (I b) (ta 8 (.pointer (some ⟨k, 0 + 2, none⟩)) (tx 9 (fun h g => l1 underlying4 ((mm m) 2 _ rfl)) (o1 3 (gc 3 (c_cursor_held D a.Row j b0) ?_)))))))))
  rintro v35 U t0 ⟨E, rfl⟩
  have e0 : Kp G0 [] U := Kp.nil0
  refine ⟨.inr e0, o1 7 (gc 7 (c_cursor_held E a.Col b d0) ?_)⟩
  rintro v42 X u0 ⟨p, rfl⟩
  have f0 : Kp G0 [] X := Kp.nil0
  refine ⟨.inr f0, ?_⟩
  rcases bo (a.Pending) with f | f
  ·have y := anT f x
   refine AC.takeb 10 f rfl (by kernel_rfl) (by kernel_rfl) (fun h g => (by kernel_rfl)) (ta 11 (.pointer (some ⟨k, 0 + 1, none⟩)) (tx 12 (fun h g => l1 underlying3 ((mm m) 1 _ rfl)) (ta 13 (I b) (ta 14 (I (w64 (b - 1))) (ta 15 (B (a.Col == (w64 (b - 1)))) ?_)))))
   obtain rfl := si y
   refine ta 16 (B (a.Col == (w64 (b - 1)))) (ta 17 (.agg #[I d, I e, B (a.Col == (w64 (b - 1)))]) (o1 18 (gD 18 (sA 24 [I d, I e, B (a.Col == (w64 (b - 1)))] 0 p ⟨rfl, rfl, rfl, trivial⟩) ?_)))
   rintro s v0 M
   have g0 : Kp G0 [] s := Kp.nil0
   exact ⟨.inr g0, dn (nrm ⟨s, _, _, rfl, pt, us, M, rfl⟩)⟩
  obtain rfl := anF f x
  refine AC.takeb 10 f rfl (by kernel_rfl) (by kernel_rfl) (fun h g => (by kernel_rfl)) (tp 11 (tp 12 (tp 13 (tp 14 (tp 15 (ta 16 (B false) (ta 17 (.agg #[I d, I e, B false]) (o1 18 (gD 18 (sA 24 [I d, I e, B false] 0 p ⟨rfl, rfl, rfl, trivial⟩) ?_)))))))))
  rintro t w0 N
  have h0 : Kp G0 [] t := Kp.nil0
  exact ⟨.inr h0, dn (nrm ⟨t, _, _, rfl, pt, us, N, rfl⟩)⟩
 rintro e_ w_ ⟨u, m0, _, rfl, x0, rfl, q, rfl⟩
 refine nrm (W.ret ?_)
 obtain rfl := si H
 have P := q.sD 1 []
 exact retC (c := u) (vs := [I d, I e, B i]) rfl (by kernel_rfl) (by kernel_rfl) (by kernel_rfl) (q.on 0 rfl _ rfl).1 ⟨_, u, rfl, rfl, pt, P, rfl⟩
def f_place_Pen_ready (sg : Sto) (p0 : Option Nat) : Option (Sto × Bool) :=
 (orE p0.isNone ((p0).bind fun i =>
 (sg.place_Pen[i]?).bind fun d =>
 some d.G.isNone)).bind fun h =>
 if h = true then
 some (sg, false)
 else
 (p0).bind fun c =>
 (sg.place_Pen[c]?).bind fun a =>
 (f_grid_Grid_Wide sg a.G).bind fun e =>
 (f_grid_Grid_High sg a.G).bind fun f =>
 (f_cursor_Hold a.At e f).bind fun g =>
 (sg.set_place_Pen c (⟨a.G, g, a.Auto⟩ : G_place_Pen)).bind fun b =>
 some (b, true)
theorem c_place_Pen_ready (S : Own c0 G F) (h : Rel c0 sg G) (t : Option Nat) {r : Sto × Bool} (T : Pt 2 c0 v1 t) (H : f_place_Pen_ready sg t = some r) :
    Calls prog 127 #[v1] c0.w (Post c0 fun c v => ∃ G_ : Gm, Own c G_ (F) ∧ Rel c r.1 G_ ∧ v = B r.2) := by
 unfold f_place_Pen_ready at H
 refine en func127 rfl rfl (sr (va (B false) (wln (W.seq (W.seq (bn H fun o0 h3 H => W.join (Jn c0 fun c l => Own c G (F) ∧ l = [(0, v1), (11, B o0)]) ?_ ?_))))))
 ·clear H
  refine W.region (va (v1) (vr (B t.isNone) (by rcases (T).cs with ⟨e, f⟩ | ⟨b_, e, f⟩ <;> (subst e; rw [f]; kernel_rfl)) ?_))
  rcases bo (t.isNone) with k | k
  ·obtain rfl := orT k h3
   exact vb k (ps (ps (ps (ps (ps (va (B true) (wln ⟨c0, _, _, rfl, pt, us, S, rfl⟩)))))))
  have i := orF k h3
  refine vb k (wn (va (v1) (wn (bn i fun n1 h8 i => ?_))))
  obtain ⟨b6, rfl, h7⟩ := (T).get h8
  refine va (Q b6) (wn (va (Q b6) (wn (bn i fun q h9 i => ?_))))
  obtain ⟨v10, s0, q0⟩ := Rel.open_place_Pen h h9 h7
  refine vx (le1 0 underlying35 (S.gon s0 0 rfl)) (wn (vr (B q.G.isNone) (by rcases (q0).cs with ⟨e, f⟩ | ⟨b_, e, f⟩ <;> (subst e; rw [f]; kernel_rfl)) ?_))
  obtain rfl := si i
  exact va (B q.G.isNone) (wln ⟨c0, _, _, rfl, pt, us, S, rfl⟩)
 rintro e_ w_ ⟨h0, k1, _, rfl, o, rfl, u, rfl⟩
 refine nrm (cn H (fun t0 H => ?_) (fun t0 H => ?_))
 ·refine sr (va (B false) (wln (W.ret (thr ?_))))
  obtain rfl := si H
  exact r1 ⟨_, h0, rfl, rfl, pt, G, u, h.m, rfl⟩
 refine W.skip (nrm (W.seq (rD [18] (Kp G []) u ?_)))
 intro i0 p x
 have s : Kp G [] i0 := (Kp.nil x)
 refine ta 0 (v1) (ta 1 (v1) (bn H fun i1 u0 H => ?_))
 obtain ⟨b, rfl, D⟩ := ((T.mono (o.trans p))).get u0
 refine ta 2 (Q b) (ta 3 (.pointer (some ⟨b, 1, none⟩)) (bn H fun d v0 H => ?_))
 obtain ⟨v27, g, j⟩ := Rel.open_place_Pen (h.mono (o.trans p)) v0 D
 refine tkx 4 s (fun c' E n => leN 24 1 [I d.At.Row, I d.At.Col, B d.At.Pending] (n.gon g 0 rfl)) (ta 5 (Q b) (ta 6 (Q b) (ta 7 (Q b) (tkx 8 s (fun c' E n => le1 0 underlying35 (n.gon g 0 rfl)) (ta 10 (Q b) (ta 11 (Q b) (ta 12 (Q b) (tkx 13 s (fun c' E n => le1 0 underlying35 (n.gon g 0 rfl)) (bn H fun U x0 H => o1 9 (gc 9 (c_grid_Grid_Wide x h.m d.G j x0) ?_))))))))))
 rintro v36 j0 M ⟨y, rfl⟩
 have b1 : Kp G [] j0 := (Kp.nil y)
 refine ⟨.inr b1, bn H fun X y0 H => o1 14 (gc 14 (c_grid_Grid_High y h.m d.G j.m y0) ?_)⟩
 rintro v44 k0 N ⟨z, rfl⟩
 have c1 : Kp G [] k0 := (Kp.nil z)
 refine ⟨.inr c1, bn H fun a z0 H => o1 15 (gc 15 (c_cursor_Hold z d.At U X z0) ?_)⟩
 rintro v52 l0 P ⟨A, rfl⟩
 have d1 : Kp G [] l0 := (Kp.nil A)
 refine ⟨.inr d1, ta 16 (Q b) (ta 17 (.pointer (some ⟨b, 1, none⟩)) (o1 18 (gD 18 (gB 24 1 [I a.Row, I a.Col, B a.Pending] [v27, I a.Row, I a.Col, B a.Pending, B d.Auto] 0 A g ⟨rfl, rfl, rfl, trivial⟩) ?_)))⟩
 rintro m0 R b0
 refine bn H fun Z a1 H => ?_
 obtain ⟨a0, d0, e0, m1, j1⟩ := Rel.put_place_Pen b0 (h.mono (o.trans (p.trans (M.trans (N.trans (P.trans R)))))) (E' := [(Eb b 42 [v27, I a.Row, I a.Col, B a.Pending, B d.Auto])]) a1 ⟨b, v27, (tm D), rfl, (j.mono (M.trans (N.trans (P.trans R))))⟩
 refine ⟨.inl rfl, dn (nrm (sr (va (B true) (wln (W.ret ?_)))))⟩
 obtain rfl := si H
 exact r1 ⟨_, m0, rfl, rfl, pt, a0, d0, e0, rfl⟩
def f_cursor_Return (p0 : G_api_Cursor) : Option (G_api_Cursor) :=
 some (⟨p0.Row, 0, false⟩ : G_api_Cursor)
theorem c_cursor_Return (f : Own c0 G F) (a : G_api_Cursor) {r : G_api_Cursor} (H : f_cursor_Return a = some r) :
    Calls prog 172 #[.agg #[I a.Row, I a.Col, B a.Pending]] c0.w (Post c0 fun c v => Own c G (F) ∧ v = .agg #[I r.Row, I r.Col, B r.Pending]) := by
 unfold f_cursor_Return at H
 refine en func172 rfl rfl (sr (me (bx 24 [I a.Row, I a.Col, B a.Pending] f) ?_))
 rintro v5 m o ⟨i, rfl, g, j⟩
 refine me (al 24 [I 0, I 0, B false] g) ?_
 rintro v9 n p ⟨l, rfl, h⟩
 refine wln (sr (va (Q i) (vx (l1 underlying3 ((mm j) 0 _ rfl)) (va (.agg #[I a.Row, I 0, B false]) (md (sA 24 [I a.Row, I 0, B false] 0 h ⟨rfl, rfl, rfl, trivial⟩) ?_)))))
 rintro d k b
 refine wln (W.ret ?_)
 obtain rfl := si H
 have e := b.sD 1 []
 exact retC (c := d) (vs := [I a.Row, I 0, B false]) rfl (by kernel_rfl) (by kernel_rfl) (by kernel_rfl) (b.on 0 rfl _ rfl).1 ⟨_, d, rfl, rfl, pt, e, rfl⟩
def f_cursor_Down (p0 : G_api_Cursor) (p1 : Int) : Option (G_api_Cursor × Bool) :=
 (f_cursor_side p1).bind fun a =>
 if (decide (p0.Row ≥ (w64 (a - 1)))) = true then
 some ((⟨p0.Row, p0.Col, false⟩ : G_api_Cursor), true)
 else
 some ((⟨(w64 (p0.Row + 1)), p0.Col, false⟩ : G_api_Cursor), false)
theorem c_cursor_Down (x : Own c0 G F) (a : G_api_Cursor) (f : Int) {r : G_api_Cursor × Bool} (H : f_cursor_Down a f = some r) :
    Calls prog 251 #[.agg #[I a.Row, I a.Col, B a.Pending], I f] c0.w (Post c0 fun c v => Own c G (F) ∧ v = .tuple #[.agg #[I r.1.Row, I r.1.Col, B r.1.Pending], B r.2]) := by
 unfold f_cursor_Down at H
 refine en func251 rfl rfl (sr (me (al 24 [I a.Row, I a.Col, B a.Pending] x) ?_))
 rintro v4 c3 l3 ⟨d, rfl, y⟩
 refine me (al 24 [I 0, I 0, B false] y) ?_
 rintro v8 c7 l7 ⟨Z, rfl, z⟩
 refine va (B false) (wln (sr (va (.pointer (some ⟨d, 2, none⟩)) (md (sC 4 2 (B false) [I a.Row, I a.Col, B false] 1 z ⟨rfl, trivial⟩) ?_))))
 rintro E P A
 refine wln (W.seq (W.seq (rD [] (Kp G0 [(Eb d 24 [I a.Row, I a.Col, B false])]) A ?_)))
 intro o R g
 have t : Kp G0 [(Eb d 24 [I a.Row, I a.Col, B false])] o := (Kp.cons (g.on 1 rfl) Kp.nil0)
 refine ta 0 (Q d) (tkx 1 t (fun c' N D => le1 0 underlying3 (D.on 0 rfl)) (ta 2 (I f) (bn H fun e q H => o1 3 (gc 3 (c_cursor_side g f q) ?_))))
 rintro v20 p S ⟨b, rfl⟩
 have u : Kp G0 [(Eb d 24 [I a.Row, I a.Col, B false])] p := (Kp.cons (b.on 1 rfl) Kp.nil0)
 refine ⟨.inr u, ta 4 (I (w64 (e - 1))) (ta 5 (B (decide (a.Row ≥ (w64 (e - 1))))) (dn (nrm (cn H (fun s H => ?_) (fun s H => ?_)))))⟩
 ·refine sr (vx (leN 24 0 [I a.Row, I a.Col, B false] (b.on 1 rfl)) (md (sA 24 [I a.Row, I a.Col, B false] 0 b ⟨rfl, rfl, rfl, trivial⟩) ?_))
  rintro k T h
  refine va (B true) (wln (W.ret (thr ?_)))
  obtain rfl := si H
  have m := h.sD 2 []
  exact retCT (c := k) (vs := [I a.Row, I a.Col, B false]) (v := B true) rfl (by kernel_rfl) (by kernel_rfl) (by kernel_rfl) (by kernel_rfl) (h.on 0 rfl _ rfl).1 ⟨_, k, rfl, rfl, pt, m, rfl⟩
 refine W.skip (nrm (sr (va (Q d) (vx (le1 0 underlying3 (b.on 1 rfl)) (va (I (w64 (a.Row + 1))) (va (Q d) (md (sC 3 0 (I (w64 (a.Row + 1))) [I (w64 (a.Row + 1)), I a.Col, B false] 1 b ⟨rfl, trivial⟩) ?_)))))))
 rintro M U i
 refine wln (sr (vx (leN 24 0 [I (w64 (a.Row + 1)), I a.Col, B false] (i.on 1 rfl)) (md (sA 24 [I (w64 (a.Row + 1)), I a.Col, B false] 0 i ⟨rfl, rfl, rfl, trivial⟩) ?_)))
 rintro l X j
 refine va (B false) (wln (W.ret ?_))
 obtain rfl := si H
 have n := j.sD 2 []
 exact retCT (c := l) (vs := [I (w64 (a.Row + 1)), I a.Col, B false]) (v := B false) rfl (by kernel_rfl) (by kernel_rfl) (by kernel_rfl) (by kernel_rfl) (j.on 0 rfl _ rfl).1 ⟨_, l, rfl, rfl, pt, n, rfl⟩
def f_place_Pen_NewLine (sg : Sto) (p0 : Option Nat) : Option (Sto) :=
 (f_place_Pen_ready sg p0).bind fun b =>
 if (!b.2) = true then
 some b.1
 else
 (p0).bind fun j =>
 (b.1.place_Pen[j]?).bind fun f =>
 (f_grid_Grid_High b.1 f.G).bind fun g =>
 (f_cursor_Down f.At g).bind fun e =>
 (p0).bind fun d =>
 (b.1.place_Pen[d]?).bind fun c =>
 (b.1.set_place_Pen d (⟨c.G, e.1, c.Auto⟩ : G_place_Pen)).bind fun a =>
 if e.2 = true then
 (f_grid_Grid_High a c.G).bind fun h =>
 (f_scroll_Up a c.G 0 h 1).bind fun i =>
 some i
 else
 some a
theorem c_place_Pen_NewLine (O0 : Own c0 G F) (R0 : Rel c0 sg G) (p0 : Option Nat) {r : Sto} (h2 : Pt 2 c0 v1 p0) (H : f_place_Pen_NewLine sg p0 = some r) :
    Calls prog 225 #[v1] c0.w (Post c0 fun c v => ∃ G_ : Gm, Own c G_ (F) ∧ Rel c r G_ ∧ v = .tuple #[]) := by
 unfold f_place_Pen_NewLine at H
 refine en func225 rfl rfl (W.seq (sr (va (v1) (bn H fun x2 h3 H => cl (c_place_Pen_ready O0 R0 p0 h2 h3) ?_))))
 rintro v9 c8 l8 ⟨d, O5, n, rfl⟩
 refine va (B (!x2.2)) (wln (cn H (fun c2 H => ?_) (fun c2 H => ?_)))
 ·refine W.ret (thr ?_)
  obtain rfl := si H
  exact r0 ⟨_, c8, rfl, rfl, pt, d, O5, n, rfl⟩
 refine W.skip (nrm (W.seq (bn H fun m3 d2 H => bn H fun e e2 H => bn H fun j h0 H => bn H fun a x H => W.join (Jn c8 fun c l => ∃ t, Own c d ((Eb t 24 [I a.1.Row, I a.1.Col, B a.1.Pending]) :: F) ∧ l = [(0, v1), (2, Q t), (3, B a.2)]) ?_ ?_)))
 ·clear H
  refine rD [] (Kp d []) O5 ?_
  intro p1 l16 q
  have m0 : Kp d [] p1 := (Kp.nil q)
  refine ta 0 (v1) ?_
  obtain ⟨g, rfl, f2⟩ := ((h2.mono (l8.trans l16))).get d2
  refine ta 1 (Q g) (ta 2 (.pointer (some ⟨g, 1, none⟩)) ?_)
  obtain ⟨v21, j0, i0⟩ := Rel.open_place_Pen (n.mono l16) e2 f2
  refine tkx 3 m0 (fun c' z i => leN 24 1 [I e.At.Row, I e.At.Col, B e.At.Pending] (i.gon j0 0 rfl)) (ta 4 (Q g) (ta 5 (Q g) (ta 6 (Q g) (tkx 7 m0 (fun c' z i => le1 0 underlying35 (i.gon j0 0 rfl)) (mn2 8 13 ?_ ?_)))))
  ·refine gc 8 (c_grid_Grid_High q n.m e.G i0 h0) ?_
   rintro v29 q1 n3 ⟨s, rfl⟩
   have l2 : Kp d [] q1 := (Kp.nil s)
   refine ⟨.inr l2, mn2 9 13 ?_ ?_⟩
   ·refine gc 9 (c_cursor_Down s e.At j x) ?_
    rintro v36 s1 o3 ⟨M, rfl⟩
    have m2 : Kp d [] s1 := (Kp.nil M)
    refine ⟨.inr m2, ta 10 (.tuple #[.agg #[I a.1.Row, I a.1.Col, B a.1.Pending], B a.2]) (ta 11 (.agg #[I a.1.Row, I a.1.Col, B a.1.Pending]) (ta 12 (B a.2) (o1 13 (gm 13 (al 24 [I 0, I 0, B false] M) ?_))))⟩
    rintro v41 t1 p3 ⟨k1, rfl, N⟩
    have n2 : Kp d [] t1 := (Kp.nil N)
    refine ⟨.inr n2, o1 14 (gD 14 (sA 24 [I a.1.Row, I a.1.Col, B a.1.Pending] 0 N ⟨rfl, rfl, rfl, trivial⟩) ?_)⟩
    rintro e0 q3 P
    have o2 : Kp d [] e0 := (Kp.nil P)
    exact ⟨.inr o2, ta 15 (B a.2) (dn (nrm ⟨e0, _, _, rfl, pt, us, k1, P, rfl⟩))⟩
   refine gm 13 (al 24 [I 0, I 0, B false] s) ?_
   rintro v49 u1 s3 ⟨m1, rfl, R⟩
   have p2 : Kp d [] u1 := (Kp.nil R)
   refine ⟨.inr p2, o1 9 (gc 9 (c_cursor_Down R e.At j x) ?_)⟩
   rintro v56 w1 t3 ⟨S, rfl⟩
   have q2 : Kp d [] w1 := (Kp.nil S)
   refine ⟨.inr q2, ta 10 (.tuple #[.agg #[I a.1.Row, I a.1.Col, B a.1.Pending], B a.2]) (ta 11 (.agg #[I a.1.Row, I a.1.Col, B a.1.Pending]) (ta 12 (B a.2) (o1 14 (gD 14 (sA 24 [I a.1.Row, I a.1.Col, B a.1.Pending] 0 S ⟨rfl, rfl, rfl, trivial⟩) ?_))))⟩
   rintro f0 u3 T
   have s2 : Kp d [] f0 := (Kp.nil T)
   exact ⟨.inr s2, ta 15 (B a.2) (dn (nrm ⟨f0, _, _, rfl, pt, us, m1, T, rfl⟩))⟩
  refine gm 13 (al 24 [I 0, I 0, B false] q) ?_
  rintro z3 x1 v3 ⟨n1, rfl, U⟩
  have t2 : Kp d [] x1 := (Kp.nil U)
  refine ⟨.inr t2, o1 8 (gc 8 (c_grid_Grid_High U n.m e.G i0.m h0) ?_)⟩
  rintro a4 y1 w3 ⟨X, rfl⟩
  have u2 : Kp d [] y1 := (Kp.nil X)
  refine ⟨.inr u2, o1 9 (gc 9 (c_cursor_Down X e.At j x) ?_)⟩
  rintro b4 z1 x3 ⟨Z, rfl⟩
  have v2 : Kp d [] z1 := (Kp.nil Z)
  refine ⟨.inr v2, ta 10 (.tuple #[.agg #[I a.1.Row, I a.1.Col, B a.1.Pending], B a.2]) (ta 11 (.agg #[I a.1.Row, I a.1.Col, B a.1.Pending]) (ta 12 (B a.2) (o1 14 (gD 14 (sA 24 [I a.1.Row, I a.1.Col, B a.1.Pending] 0 Z ⟨rfl, rfl, rfl, trivial⟩) ?_))))⟩
  rintro g0 y3 a0
  have w2 : Kp d [] g0 := (Kp.nil a0)
  exact ⟨.inr w2, ta 15 (B a.2) (dn (nrm ⟨g0, _, _, rfl, pt, us, n1, a0, rfl⟩))⟩
 rintro e_ w_ ⟨k3, l3, _, rfl, A, rfl, t, b0, rfl⟩
 refine nrm (sr (va (v1) (vx (leN 24 0 [I a.1.Row, I a.1.Col, B a.1.Pending] (b0.on 0 rfl)) (bn H fun c3 g2 H => ?_))))
 obtain ⟨b, rfl, k0⟩ := ((h2.mono (l8.trans A))).get g2
 refine va (Q b) (va (.pointer (some ⟨b, 1, none⟩)) (bn H fun f i2 H => ?_))
 obtain ⟨E, j2, y⟩ := Rel.open_place_Pen (n.mono A) i2 k0
 refine md (gB 24 1 [I a.1.Row, I a.1.Col, B a.1.Pending] [E, I a.1.Row, I a.1.Col, B a.1.Pending, B f.Auto] 0 b0 j2 ⟨rfl, rfl, rfl, trivial⟩) ?_
 rintro b2 l0 j1
 refine bn H fun h1 z0 H => ?_
 obtain ⟨k, d0, h, u, a3⟩ := Rel.put_place_Pen j1 (n.mono (A.trans l0)) (E' := [(Eb b 42 [E, I a.1.Row, I a.1.Col, B a.1.Pending, B f.Auto])]) z0 ⟨b, E, (tm k0), rfl, (y.mono l0)⟩
 refine wln (sr (va (B a.2) (wln (cn H (fun a1 H => ?_) (fun a1 H => ?_)))))
 ·refine rD [9] (Kp k []) d0 ?_
  intro w0 d3 o
  have D : Kp k [] w0 := (Kp.nil o)
  refine ta 0 (Q b) (ta 1 (Q b) (ta 2 (Q b) (tkx 3 D (fun c' z i => le1 0 underlying35 (i.gon u 0 rfl)) (ta 4 (Q b) (ta 5 (Q b) (ta 6 (Q b) (tkx 7 D (fun c' z i => le1 0 underlying35 (i.gon u 0 rfl)) (bn H fun g1 b1 H => o1 8 (gc 8 (c_grid_Grid_High o h.m f.G y.m b1) ?_)))))))))
  rintro g3 x0 e3 ⟨p, rfl⟩
  have f1 : Kp k [] x0 := (Kp.nil p)
  refine ⟨.inr f1, bn H fun j3 c1 H => o1 9 (gc 9 (c_scroll_Up p h.m f.G 0 g1 1 y.m c1) ?_)⟩
  rintro i3 y0 f3 ⟨o0, q0, u0, rfl⟩
  refine ⟨.inl rfl, dn ?_⟩
  obtain rfl := si H
  have s0 := q0.sD 1 []
  exact n0 ⟨_, y0, rfl, rfl, pt, o0, s0, u0, rfl⟩
 refine W.skip ?_
 obtain rfl := si H
 have t0 := d0.sD 1 []
 exact n0 ⟨_, b2, rfl, rfl, pt, k, t0, h, rfl⟩
def f_place_Pen_goOn (sg : Sto) (p0 : Option Nat) : Option (Sto) :=
 (p0).bind fun c =>
 (sg.place_Pen[c]?).bind fun e =>
 (f_grid_Grid_Row sg e.G e.At.Row).bind fun f =>
 (f_row_Row_GoOn sg f true).bind fun d =>
 (d.place_Pen[c]?).bind fun a =>
 (f_cursor_Return a.At).bind fun g =>
 (d.set_place_Pen c (⟨a.G, g, a.Auto⟩ : G_place_Pen)).bind fun b =>
 (f_place_Pen_NewLine b p0).bind fun h =>
 some h
theorem c_place_Pen_goOn (O0 : Own c0 G F) (n : Rel c0 sg G) (q : Option Nat) {r : Sto} (U : Pt 2 c0 v1 q) (H : f_place_Pen_goOn sg q = some r) :
    Calls prog 197 #[v1] c0.w (Post c0 fun c v => ∃ G_ : Gm, Own c G_ (F) ∧ Rel c r G_ ∧ v = .tuple #[]) := by
 unfold f_place_Pen_goOn at H
 refine en func197 rfl rfl (W.seq (rD [10] (Kp G []) O0 ?_))
 intro c3 l3 y
 have p5 : Kp G [] c3 := (Kp.nil y)
 refine ta 0 (v1) (bn H fun a1 h8 H => ?_)
 obtain ⟨b, rfl, o⟩ := ((U.mono l3)).get h8
 refine ta 1 (Q b) (ta 2 (Q b) (bn H fun l h9 H => ?_))
 obtain ⟨v10, h, R⟩ := Rel.open_place_Pen (n.mono l3) h9 o
 refine tkx 3 p5 (fun c' f0 p => le1 0 underlying35 (p.gon h 0 rfl)) (ta 4 (Q b) (ta 5 (Q b) (ta 6 (.pointer (some ⟨b, 1, none⟩)) (ta 7 (.pointer (some ⟨b, 1, none⟩)) (tkx 8 p5 (fun c' f0 p => le1 1 underlying3 (p.gon h 0 rfl)) (bn H fun s S H => o1 9 (gc 9 (c_grid_Grid_Row y n.m l.G l.At.Row R S) ?_)))))))
 rintro v14 N b1 ⟨_, e, rfl, T⟩
 have h0 : Kp G [] N := (Kp.nil e)
 refine ⟨.inr h0, bn H fun q0 X H => o1 10 (gc 10 (c_row_Row_GoOn e n.m s true T X) ?_)⟩
 rintro v29 w0 c1 ⟨t0, f, g, rfl⟩
 refine ⟨.inl rfl, dn (nrm (sr (va (Q b) (va (Q b) (va (Q b) (va (.pointer (some ⟨b, 1, none⟩)) (bn H fun d Z H => ?_)))))))⟩
 obtain ⟨v31, i, a0⟩ := Rel.open_place_Pen g Z (tm o)
 refine vx (leN 24 1 [I d.At.Row, I d.At.Col, B d.At.Pending] (f.gon i 0 rfl)) (bn H fun a b0 H => cl (c_cursor_Return f d.At b0) ?_)
 rintro v40 x0 j ⟨x, rfl⟩
 refine va (Q b) (va (.pointer (some ⟨b, 1, none⟩)) (md (gB 24 1 [I a.Row, I a.Col, B a.Pending] [v31, I a.Row, I a.Col, B a.Pending, B d.Auto] 0 x i ⟨rfl, rfl, rfl, trivial⟩) ?_))
 rintro y0 k z
 refine bn H fun t d0 H => ?_
 obtain ⟨u0, A, E, z0, v0⟩ := Rel.put_place_Pen z (g.mono (j.trans k)) (E' := [(Eb b 42 [v31, I a.Row, I a.Col, B a.Pending, B d.Auto])]) d0 ⟨b, v31, (tm o), rfl, (a0.mono (j.trans k))⟩
 refine wln (W.region (va (Q b) (bn H fun s0 e0 H => cl (c_place_Pen_NewLine A E q U.m e0) ?_)))
 rintro v55 P d1 ⟨u, D, M, rfl⟩
 refine WL.nil ?_
 obtain rfl := si H
 exact n0 ⟨_, P, rfl, rfl, pt, u, D, M, rfl⟩
def f_place_Pen_room (sg : Sto) (p0 : Option Nat) (p1 : Int) : Option (Sto) :=
 ((p0).bind fun k =>
 (sg.place_Pen[k]?).bind fun l =>
 if l.At.Pending = true then
 (f_place_Pen_goOn sg p0).bind fun m =>
 some (m)
 else
 some (sg)).bind fun b =>
 (p0).bind fun d =>
 (b.place_Pen[d]?).bind fun a =>
 (f_grid_Grid_Wide b a.G).bind fun e =>
 (orE (p1 == 1) (some (decide (a.At.Col < (w64 (e - 1)))))).bind fun f =>
 if f = true then
 some b
 else
 if a.Auto = true then
 (f_grid_Grid_Row b a.G a.At.Row).bind fun g =>
 (f_cell_Blanks 1).bind fun h =>
 (f_row_Row_Paint b g (w64 (e - 1)) h).bind fun i =>
 (f_place_Pen_goOn i.1 p0).bind fun j =>
 some j
 else
 (b.set_place_Pen d (⟨a.G, (⟨a.At.Row, (w64 (a.At.Col - 1)), a.At.Pending⟩ : G_api_Cursor), a.Auto⟩ : G_place_Pen)).bind fun c =>
 some c
theorem c_place_Pen_room (T : Own c0 G F) (X : Rel c0 sg G) (hG : Gl [0, 4] c0) (u : Option Nat) (n : Int) {r : Sto} (t : Pt 2 c0 v1 u) (H : f_place_Pen_room sg u n = some r) :
    Calls prog 128 #[v1, I n] c0.w (Post c0 fun c v => ∃ G_ : Gm, Own c G_ (F) ∧ Rel c r G_ ∧ v = .tuple #[]) := by
 unfold f_place_Pen_room at H
 refine en func128 rfl rfl (bn H fun f2 g d => W.seqJ (Jn c0 fun c l => ∃ G_, Own c G_ (F) ∧ l = [(0, v1), (1, I n)] ∧ Rel c f2 G_) ?_ ?_)
 ·refine sr (va (v1) (bn g fun a3 h7 g => ?_))
  obtain ⟨s, rfl, h6⟩ := (t).get h7
  refine va (Q s) (va (.pointer (some ⟨s, 1, none⟩)) (va (.pointer (some ⟨s, 3, none⟩)) (bn g fun h3 h8 g => ?_)))
  obtain ⟨v9, e1, y2⟩ := Rel.open_place_Pen X h8 h6
  refine vx (le1 3 underlying4 (T.gon e1 0 rfl)) (wln (cn g (fun f1 g => ?_) (fun f1 g => ?_)))
  ·refine W.region (va (Q s) (bn g fun m3 g1 g => cl (c_place_Pen_goOn T X u t g1) ?_))
   rintro v19 w0 b3 ⟨h0, l0, t0, rfl⟩
   refine wln ?_
   obtain rfl := si g
   exact ⟨w0, _, _, rfl, pt, us, h0, l0, rfl, t0⟩
  refine W.skip (nrm ?_)
  obtain rfl := si g
  exact ⟨c0, _, _, rfl, pt, us, G, T, rfl, X⟩
 rintro e_ w_ ⟨u2, w2, _, rfl, a2, rfl, f, x, rfl, i⟩
 refine sr (va (v1) (bn d fun o2 h1 d => ?_))
 obtain ⟨a, rfl, E⟩ := ((t.mono a2)).get h1
 refine va (Q a) (va (Q a) (bn d fun b i1 d => ?_))
 obtain ⟨v30, h, q⟩ := Rel.open_place_Pen i i1 E
 refine vx (le1 0 underlying35 (x.gon h 0 rfl)) (bn d fun e j1 d => cl (c_grid_Grid_Wide x i b.G q j1) ?_)
 rintro v39 p N ⟨o, rfl⟩
 refine va (I (w64 (e - 1))) (va (I (w64 (e - 1))) (wln (W.block (W.seq (bn d fun a0 M d => W.join (Jn p fun c l => Own c f (F) ∧ l = [(0, Q a), (4, I (w64 (e - 1))), (27, B a0)]) ?_ ?_)))))
 ·clear d
  refine W.region (va (I n) (va (B (n == 1)) ?_))
  rcases bo (n == 1) with k | k
  ·obtain rfl := orT k M
   exact vb k (ps (ps (ps (ps (ps (ps (ps (va (B true) (va (B true) (wln ⟨p, _, _, rfl, pt, us, o, rfl⟩))))))))))
  have k0 := orF k M
  refine vb k (wn (va (Q a) (wn (va (Q a) (wn (va (.pointer (some ⟨a, 1, none⟩)) (wn (va (.pointer (some ⟨a, 2, none⟩)) (wn (vx (le1 2 underlying3 (o.gon h 0 rfl)) (wn (va (I (w64 (e - 1))) (wn (va (B (decide (b.At.Col < (w64 (e - 1))))) ?_))))))))))))))
  obtain rfl := si k0
  exact va (B (decide (b.At.Col < (w64 (e - 1))))) (va (B (decide (b.At.Col < (w64 (e - 1))))) (wln ⟨p, _, _, rfl, pt, us, o, rfl⟩))
 rintro e_ w_ ⟨x0, x2, _, rfl, P, rfl, j, rfl⟩
 refine nrm (cn d (fun k1 d => ?_) (fun k1 d => ?_))
 ·refine W.ret (bkr ?_)
  obtain rfl := si d
  exact r0 ⟨_, x0, rfl, rfl, pt, f, j, i.m, rfl⟩
 refine sr (va (Q a) (va (Q a) (va (.pointer (some ⟨a, 4, none⟩)) (vx (le1 4 underlying4 (j.gon h 0 rfl)) (va (B b.Auto) (wln (cn d (fun m1 d => ?_) (fun m1 d => ?_))))))))
 ·refine W.seq (rD [12] (Kp f []) j ?_)
  intro y0 c3 y
  have S : Kp f [] y0 := (Kp.nil y)
  refine ta 0 (Q a) (ta 1 (Q a) (ta 2 (Q a) (tkx 3 S (fun c' z1 hk => le1 0 underlying35 (hk.gon h 0 rfl)) (ta 4 (Q a) (ta 5 (Q a) (ta 6 (.pointer (some ⟨a, 1, none⟩)) (ta 7 (.pointer (some ⟨a, 1, none⟩)) (tkx 8 S (fun c' z1 hk => le1 1 underlying3 (hk.gon h 0 rfl)) (ta 10 (I (w64 (e - 1))) (bn d fun e0 n1 d => o1 9 (gc 9 (c_grid_Grid_Row y i.m b.G b.At.Row q.m n1) ?_)))))))))))
  rintro v55 z0 d3 ⟨_, z, rfl, q1⟩
  have c2 : Kp f [] z0 := (Kp.nil z)
  refine ⟨.inr c2, bn d fun f0 s1 d => o1 11 (gc 11 (c_cell_Blanks z 1 s1) ?_)⟩
  rintro j3 a1 e3 ⟨_, i3, A, rfl, t1⟩
  have d2 : Kp f [] a1 := (Kp.nil A)
  refine ⟨.inr d2, ?_⟩
  obtain ⟨b1, w1, b2, D, u1⟩ := A.frz 0 rfl t1
  have e2 : Kp f [] b1 := (Kp.nil D)
  refine AC.gh w1 b2 (fun _ => e2) (bn d fun q2 x1 d => o1 12 (gc 12 (c_row_Row_Paint D i.m (hG.m.le (by decide)) e0 (w64 (e - 1)) f0 q1.m u1 x1) ?_))
  rintro k3 v2 f3 ⟨_, t2, m0, u0, rfl, z2⟩
  refine ⟨.inl rfl, dn (nrm (W.region (va (Q a) (bn d fun s2 y1 d => cl (c_place_Pen_goOn m0 u0 u t.m y1) ?_))))⟩
  rintro l3 c1 g3 ⟨i0, o0, v0, rfl⟩
  refine WL.nil (bkn ?_)
  obtain rfl := si d
  have q0 := o0.sD 1 []
  exact n0 ⟨_, c1, rfl, rfl, pt, i0, q0, v0, rfl⟩
 refine W.region (va (Q a) (va (Q a) (va (.pointer (some ⟨a, 1, none⟩)) (va (.pointer (some ⟨a, 2, none⟩)) (vx (le1 2 underlying3 (j.gon h 0 rfl)) (va (I (w64 (b.At.Col - 1))) (va (Q a) (va (.pointer (some ⟨a, 1, none⟩)) (va (.pointer (some ⟨a, 2, none⟩)) (md (gC 3 2 (I (w64 (b.At.Col - 1))) [v30, I b.At.Row, I (w64 (b.At.Col - 1)), B b.At.Pending, B b.Auto] 0 j h ⟨rfl, trivial⟩) ?_))))))))))
 rintro d1 R s0
 refine bn d fun g0 b0 d => ?_
 obtain ⟨j0, U, Z, k2, g2⟩ := Rel.put_place_Pen s0 (i.mono (N.trans (P.trans R))) (E' := [(Eb a 42 [v30, I b.At.Row, I (w64 (b.At.Col - 1)), B b.At.Pending, B b.Auto])]) b0 ⟨a, v30, (tm E), rfl, (q.mono (N.trans (P.trans R)))⟩
 refine WL.nil (bkn ?_)
 obtain rfl := si d
 exact n0 ⟨_, d1, rfl, rfl, pt, j0, U, Z, rfl⟩
def f_cursor_After (p0 : G_api_Cursor) (p1 : Int) (p2 : Int) (p3 : Bool) : Option (G_api_Cursor) :=
 (f_cursor_side p2).bind fun a =>
 if (decide (p0.Col < (w64 (a - (imax 1 (imin p1 2)))))) = true then
 some (⟨p0.Row, (w64 (p0.Col + (imax 1 (imin p1 2)))), false⟩ : G_api_Cursor)
 else
 some (⟨p0.Row, (w64 (a - 1)), p3⟩ : G_api_Cursor)
theorem c_cursor_After (s : Own c0 G F) (a : G_api_Cursor) (b : Int) (h : Int) (e : Bool) {r : G_api_Cursor} (H : f_cursor_After a b h e = some r) :
    Calls prog 130 #[.agg #[I a.Row, I a.Col, B a.Pending], I b, I h, B e] c0.w (Post c0 fun c v => Own c G (F) ∧ v = .agg #[I r.Row, I r.Col, B r.Pending]) := by
 unfold f_cursor_After at H
 refine en func130 rfl rfl (sr (me (bx 24 [I a.Row, I a.Col, B a.Pending] s) ?_))
 rintro v5 E N ⟨f, rfl, t, g⟩
 refine me (al 24 [I 0, I 0, B false] t) ?_
 rintro v9 M P ⟨D, rfl, u⟩
 refine wln (sr (va (I b) (va (I (imin b 2)) (va (I (imax 1 (imin b 2))) (va (I h) (bn H fun d p H => cl (c_cursor_side u h p) ?_))))))
 rintro v16 x y ⟨i, rfl⟩
 refine va (I (imax 1 (imin b 2))) (va (I d) (wln (W.seq (sr (va (.pointer (some ⟨f, 0 + 1, none⟩)) (vx (l1 underlying3 ((mm g) 1 _ rfl)) (va (I d) (va (I (imax 1 (imin b 2))) (va (I (w64 (d - (imax 1 (imin b 2))))) (va (B (decide (a.Col < (w64 (d - (imax 1 (imin b 2))))))) (wln (cn H (fun q H => ?_) (fun q H => ?_)))))))))))))
 ·refine sr (va (Q f) (vx (l1 underlying3 ((mm g) 0 _ rfl)) (va (.pointer (some ⟨f, 0 + 1, none⟩)) (vx (l1 underlying3 ((mm g) 1 _ rfl)) (va (I (imax 1 (imin b 2))) (va (I (w64 (a.Col + (imax 1 (imin b 2))))) (va (.agg #[I a.Row, I (w64 (a.Col + (imax 1 (imin b 2)))), B false]) (md (sA 24 [I a.Row, I (w64 (a.Col + (imax 1 (imin b 2)))), B false] 0 i ⟨rfl, rfl, rfl, trivial⟩) ?_))))))))
  rintro l z j
  refine wln (W.ret (thr ?_))
  obtain rfl := si H
  have n := j.sD 1 []
  exact retC (c := l) (vs := [I a.Row, I (w64 (a.Col + (imax 1 (imin b 2)))), B false]) rfl (by kernel_rfl) (by kernel_rfl) (by kernel_rfl) (j.on 0 rfl _ rfl).1 ⟨_, l, rfl, rfl, pt, n, rfl⟩
 refine W.skip (nrm (sr (va (Q f) (vx (l1 underlying3 ((mm g) 0 _ rfl)) (va (I d) (va (I (w64 (d - 1))) (va (B e) (va (.agg #[I a.Row, I (w64 (d - 1)), B e]) (md (sA 24 [I a.Row, I (w64 (d - 1)), B e] 0 i ⟨rfl, rfl, rfl, trivial⟩) ?_)))))))))
 rintro m A k
 refine wln (W.ret ?_)
 obtain rfl := si H
 have o := k.sD 1 []
 exact retC (c := m) (vs := [I a.Row, I (w64 (d - 1)), B e]) rfl (by kernel_rfl) (by kernel_rfl) (by kernel_rfl) (k.on 0 rfl _ rfl).1 ⟨_, m, rfl, rfl, pt, o, rfl⟩
def f_place_Pen_Put (sg : Sto) (p0 : Option Nat) (p1 : Int) (p2 : List Int) : Option (Sto × G_api_Cursor) :=
 (f_place_Pen_ready sg p0).bind fun d =>
 if (!d.2) = true then
 some (d.1, (⟨0, 0, false⟩ : G_api_Cursor))
 else
 ((p0).bind fun i =>
 (d.1.place_Pen[i]?).bind fun j =>
 (f_grid_Grid_Wide d.1 j.G).bind fun k =>
 if (decide ((imax 1 (imin p1 2)) > k)) = true then
 some (1, ([65533] : List Int))
 else
 some ((imax 1 (imin p1 2)), p2)).bind fun c =>
 (f_place_Pen_room d.1 p0 c.1).bind fun f =>
 (p0).bind fun e =>
 (f.place_Pen[e]?).bind fun a =>
 (f_grid_Grid_Row f a.G a.At.Row).bind fun l =>
 (f_mark_Put f l a.At.Col c.1 c.2).bind fun g =>
 (g.1.place_Pen[e]?).bind fun b =>
 (f_grid_Grid_Wide g.1 b.G).bind fun m =>
 (f_cursor_After (⟨a.At.Row, a.At.Col, false⟩ : G_api_Cursor) c.1 m b.Auto).bind fun n =>
 (g.1.set_place_Pen e (⟨b.G, n, b.Auto⟩ : G_place_Pen)).bind fun h =>
 some (h, (⟨a.At.Row, a.At.Col, false⟩ : G_api_Cursor))
theorem c_place_Pen_Put (O0 : Own c0 G F) (R0 : Rel c0 sg G) (hG : Gl [0, 4] c0) (p0 : Option Nat) (o : Int) (p2 : List Int) {r : Sto × G_api_Cursor} (h2 : Pt 2 c0 v1 p0) (h4 : Sl (RI .i32) c0 v3 p2) (H : f_place_Pen_Put sg p0 o p2 = some r) :
    Calls prog 71 #[v1, I o, v3] c0.w (Post c0 fun c v => ∃ G_ : Gm, Own c G_ (F) ∧ Rel c r.1 G_ ∧ v = .agg #[I r.2.Row, I r.2.Col, B r.2.Pending]) := by
 unfold f_place_Pen_Put at H
 refine en func71 rfl rfl (sr (me (al 24 [I 0, I 0, B false] O0) ?_))
 rintro v8 c7 l7 ⟨b5, rfl, O6⟩
 refine wln (W.seq (sr (va (v1) (bn H fun t3 h9 H => cl (c_place_Pen_ready O6 R0.m p0 h2.m h9) ?_))))
 rintro v15 d2 u0 ⟨j0, R, P, rfl⟩
 refine va (B (!t3.2)) (wln (cn H (fun m2 H => ?_) (fun m2 H => ?_)))
 ·refine sr (va (.agg #[I 0, I 0, B false]) (md (sA 24 [I 0, I 0, B false] 0 R ⟨rfl, rfl, rfl, trivial⟩) ?_))
  rintro t0 r4 k0
  refine wln (W.ret (thr ?_))
  obtain rfl := si H
  have u1 := k0.sD 1 []
  exact retC (c := t0) (vs := [I 0, I 0, B false]) rfl (by kernel_rfl) (by kernel_rfl) (by kernel_rfl) (k0.on 0 rfl _ rfl).1 ⟨_, t0, rfl, rfl, pt, j0, u1, P.m, rfl⟩
 refine W.skip (nrm (sr (va (I o) (va (I (imin o 2)) (va (I (imax 1 (imin o 2))) (va (I (imax 1 (imin o 2))) (wln (bn H fun f g d => W.seqJ (Jn d2 fun c l => ∃ v22, Own c j0 ((Eb b5 24 [I 0, I 0, B false]) :: F) ∧ l = [(0, v1), (1, I f.1), (2, v22), (6, Q b5)] ∧ Sl (RI .i32) c v22 f.2) ?_ ?_))))))))
 ·refine sr (va (I (imax 1 (imin o 2))) (va (v1) (bn g fun e4 o2 g => ?_)))
  obtain ⟨s0, rfl, n2⟩ := ((h2.mono (l7.trans u0))).get o2
  refine va (Q s0) (va (Q s0) (bn g fun j1 q2 g => ?_))
  obtain ⟨v27, t2, s2⟩ := Rel.open_place_Pen P q2 n2
  refine vx (le1 0 underlying35 (R.gon t2 0 rfl)) (bn g fun n1 u2 g => cl (c_grid_Grid_Wide R P j1.G s2 u2) ?_)
  rintro v36 e2 s4 ⟨l0, rfl⟩
  refine va (B (decide ((imax 1 (imin o 2)) > n1))) (wln (cn g (fun v2 g => ?_) (fun v2 g => ?_)))
  ·refine W.region (me (sl (RI .i32) 21 [[J 65533]] ([65533] : List Int) l0 ⟨rfl, trivial⟩) ?_)
   rintro v42 m4 t4 ⟨v4, w1, w2⟩
   refine va (I 1) (va (v42) (wln ?_))
   obtain rfl := si g
   obtain ⟨f2, y2, u4, x1, x2⟩ := w1.frz 0 rfl w2
   have y1 := x1.sD 2 [1]
   exact ⟨f2, _, _, y2.symm, pt, us, v42, y1, rfl, x2⟩
  refine W.skip (nrm ?_)
  obtain rfl := si g
  exact ⟨e2, _, _, rfl, pt, us, v3, l0, rfl, h4.m⟩
 rintro e_ w_ ⟨n4, p4, _, rfl, h3, rfl, v22, z1, rfl, z2⟩
 refine sr (va (v1) (va (I f.1) (bn d fun k4 a3 d => cl (c_place_Pen_room z1 P.m (hG.m.le (by decide)) p0 f.1 h2.m a3) ?_)))
 rintro w4 o4 i3 ⟨j, a2, Z, rfl⟩
 refine wln (W.seq (rD [] (Kp j []) a2 ?_))
 intro g2 v0 m0
 have w0 : Kp j [] g2 := (Kp.nil m0)
 refine ta 0 (v1) (bn d fun f4 b3 d => ?_)
 obtain ⟨b, rfl, e0⟩ := ((h2.mono (l7.trans (u0.trans (h3.trans (i3.trans v0)))))).get b3
 refine ta 1 (Q b) (ta 2 (.pointer (some ⟨b, 1, none⟩)) (ta 3 (.pointer (some ⟨b, 1, none⟩)) (bn d fun a c3 d => ?_)))
 obtain ⟨x4, f0, d3⟩ := Rel.open_place_Pen (Z.mono v0) c3 e0
 refine tkx 4 w0 (fun u k h => le1 1 underlying3 (h.gon f0 0 rfl)) (ta 5 (Q b) (ta 6 (Q b) (ta 7 (.pointer (some ⟨b, 1, none⟩)) (ta 8 (.pointer (some ⟨b, 2, none⟩)) (tkx 9 w0 (fun u k h => le1 2 underlying3 (h.gon f0 0 rfl)) (ta 10 (.agg #[I a.At.Row, I a.At.Col, B false]) (o1 11 (gm 11 (al 24 [I 0, I 0, B false] m0) ?_))))))))
 rintro y4 i2 k3 ⟨i, rfl, o0⟩
 have p3 : Kp j [] i2 := (Kp.nil o0)
 refine ⟨.inr p3, o1 12 (gD 12 (sA 24 [I a.At.Row, I a.At.Col, B false] 0 o0 ⟨rfl, rfl, rfl, trivial⟩) ?_)⟩
 rintro j2 l3 q0
 have q3 : Kp j [] j2 := (Kp.nil q0)
 refine ⟨.inr q3, dn (nrm (W.seq (rD [11] (Kp j [(Eb i 24 [I a.At.Row, I a.At.Col, B false])]) q0 ?_)))⟩
 intro k2 m3 U
 have g0 : Kp j [(Eb i 24 [I a.At.Row, I a.At.Col, B false])] k2 := (Kp.cons (U.on 0 rfl) (Kp.nil U))
 refine ta 0 (Q b) (ta 1 (Q b) (ta 2 (Q b) (tkx 3 g0 (fun u k h => le1 0 underlying35 (h.gon f0 0 rfl)) (ta 4 (Q i) (tkx 5 g0 (fun u k h => le1 0 underlying3 (h.on 0 rfl)) (ta 7 (.pointer (some ⟨i, 1, none⟩)) (tkx 8 g0 (fun u k h => le1 1 underlying3 (h.on 0 rfl)) (ta 9 (I f.1) (ta 10 (v22) (bn d fun q1 e3 d => o1 6 (gc 6 (c_grid_Grid_Row U Z.m a.G a.At.Row d3.m e3) ?_)))))))))))
 rintro z4 l2 n3 ⟨_, X, rfl, f3⟩
 have s3 : Kp j [(Eb i 24 [I a.At.Row, I a.At.Col, B false])] l2 := (Kp.cons (X.on 0 rfl) (Kp.nil X))
 refine ⟨.inr s3, bn d fun l4 g3 d => o1 11 (gc 11 (c_mark_Put X Z.m (hG.m.le (by decide)) q1 a.At.Col f.1 f.2 f3 z2.m g3) ?_)⟩
 rintro a5 z3 i1 ⟨_, N, b2, a0, rfl, q4⟩
 refine ⟨.inl rfl, dn (nrm (W.seq (rD [15] (Kp N [(Eb i 24 [I a.At.Row, I a.At.Col, B false])]) b2 ?_)))⟩
 intro b1 y p
 have E : Kp N [(Eb i 24 [I a.At.Row, I a.At.Col, B false])] b1 := (Kp.cons (p.on 0 rfl) (Kp.nil p))
 refine ta 0 (Q b) (tkx 1 E (fun u k h => leN 24 0 [I a.At.Row, I a.At.Col, B false] (h.on 0 rfl)) (ta 2 (I f.1) (ta 3 (Q b) (ta 4 (Q b) (ta 5 (Q b) (bn d fun n e1 d => ?_))))))
 obtain ⟨M, x, d0⟩ := Rel.open_place_Pen (a0.mono y) e1 (tm e0)
 refine tkx 6 E (fun u k h => le1 0 underlying35 (h.gon x 0 rfl)) (ta 8 (Q b) (ta 9 (Q b) (ta 10 (.pointer (some ⟨b, 4, none⟩)) (tkx 11 E (fun u k h => le1 4 underlying4 (h.gon x 0 rfl)) (bn d fun s1 f1 d => o1 7 (gc 7 (c_grid_Grid_Wide p a0.m n.G d0 f1) ?_))))))
 rintro i4 c1 z ⟨q, rfl⟩
 have k1 : Kp N [(Eb i 24 [I a.At.Row, I a.At.Col, B false])] c1 := (Kp.cons (q.on 0 rfl) (Kp.nil q))
 refine ⟨.inr k1, bn d fun e g1 d => o1 12 (gc 12 (c_cursor_After q (⟨a.At.Row, a.At.Col, false⟩ : G_api_Cursor) f.1 s1 n.Auto g1) ?_)⟩
 rintro j4 d1 A ⟨s, rfl⟩
 have m1 : Kp N [(Eb i 24 [I a.At.Row, I a.At.Col, B false])] d1 := (Kp.cons (s.on 0 rfl) (Kp.nil s))
 refine ⟨.inr m1, ta 13 (Q b) (ta 14 (.pointer (some ⟨b, 1, none⟩)) (o1 15 (gD 15 (gB 24 1 [I e.Row, I e.Col, B e.Pending] [M, I e.Row, I e.Col, B e.Pending, B n.Auto] 0 s x ⟨rfl, rfl, rfl, trivial⟩) ?_)))⟩
 rintro a4 D y0
 refine bn d fun t1 h1 d => ?_
 obtain ⟨x0, S, a1, b4, y3⟩ := Rel.put_place_Pen y0 (a0.mono (y.trans (z.trans (A.trans D)))) (E' := [(Eb b 42 [M, I e.Row, I e.Col, B e.Pending, B n.Auto])]) h1 ⟨b, M, ((k3.trans (l3.trans (m3.trans (n3.trans (i1.trans (y.trans (z.trans (A.trans D)))))))).t _ _ _ e0), rfl, (d0.mono (z.trans (A.trans D)))⟩
 refine ⟨.inl rfl, dn (nrm (sr (vx (leN 24 0 [I a.At.Row, I a.At.Col, B false] (S.on 0 rfl)) (md (sA 24 [I a.At.Row, I a.At.Col, B false] 1 S ⟨rfl, rfl, rfl, trivial⟩) ?_))))⟩
 rintro b0 g4 T
 refine wln (W.ret ?_)
 obtain rfl := si d
 have z0 := T.sD 2 []
 exact retC (c := b0) (vs := [I a.At.Row, I a.At.Col, B false]) rfl (by kernel_rfl) (by kernel_rfl) (by kernel_rfl) (T.on 1 rfl _ rfl).1 ⟨_, b0, rfl, rfl, pt, x0, z0, a1.m, rfl⟩
def f_linotyperef31_within (p0 : Int) (p1 : Int) : Option (Int) :=
 if (decide (p0 < 0)) = true then
 some 0
 else
 if (decide (p0 ≥ p1)) = true then
 some (w64 (p1 - 1))
 else
 some p0
def f_linotyperef31_Side (p0 : Int) : Option (Int) :=
 if (decide (p0 < 1)) = true then
 some 1
 else
 if (decide (p0 > 1024)) = true then
 some 1024
 else
 some p0
def f_linotyperef31_Hold (p0 : G_api_Cursor) (p1 : Int) (p2 : Int) : Option (G_api_Cursor) :=
 (f_linotyperef31_Side p2).bind fun b =>
 (f_linotyperef31_within p0.Row b).bind fun c =>
 (f_linotyperef31_Side p1).bind fun d =>
 (f_linotyperef31_within p0.Col d).bind fun e =>
 (andE p0.Pending ((f_linotyperef31_Side p1).bind fun f =>
 some (p0.Col == (w64 (f - 1))))).bind fun a =>
 some (⟨c, e, a⟩ : G_api_Cursor)
def f_linotyperef34_Pen_Wide (p0 : G_linotyperef34_Pen) : Option (Int) :=
 (idx p0.L 0).bind fun a =>
 some (a.Cells.length : Int)
def f_linotyperef34_Pen_Hold (p0 : G_linotyperef34_Pen) : Option (G_linotyperef34_Pen) :=
 (f_linotyperef34_Pen_Wide p0).bind fun a =>
 (f_linotyperef31_Hold p0.At a (p0.L.length : Int)).bind fun b =>
 some (⟨p0.L, b, p0.Auto⟩ : G_linotyperef34_Pen)
def f_linotyperef34_Pen_NewLine (p0 : G_linotyperef34_Pen) : Option (G_linotyperef34_Pen) :=
 (f_linotyperef34_Pen_Hold p0).bind fun a =>
 if (decide ((w64 (a.At.Row + 1)) < (a.L.length : Int))) = true then
 some (⟨a.L, (⟨(w64 (a.At.Row + 1)), a.At.Col, false⟩ : G_api_Cursor), a.Auto⟩ : G_linotyperef34_Pen)
 else
 (f_linotyperef33_Move a.L 0 (a.L.length : Int) 1 true).bind fun b =>
 some (⟨b, (⟨a.At.Row, a.At.Col, false⟩ : G_api_Cursor), a.Auto⟩ : G_linotyperef34_Pen)
def f_linotyperef34_Pen_With (p0 : G_linotyperef34_Pen) (p1 : Int) (p2 : G_api_Line) : Option (G_linotyperef34_Pen) :=
 (app ([] : List G_api_Line) p0.L).bind fun a =>
 (idx a p1).bind fun c =>
 (sets a p1 p2).bind fun b =>
 some (⟨b, p0.At, p0.Auto⟩ : G_linotyperef34_Pen)
def f_linotyperef34_Pen_GoOn (p0 : G_linotyperef34_Pen) : Option (G_linotyperef34_Pen) :=
 (idx p0.L p0.At.Row).bind fun b =>
 (f_linotyperef34_Pen_With p0 p0.At.Row (⟨b.Cells, true⟩ : G_api_Line)).bind fun a =>
 (f_linotyperef34_Pen_NewLine (⟨a.L, (⟨a.At.Row, 0, false⟩ : G_api_Cursor), a.Auto⟩ : G_linotyperef34_Pen)).bind fun c =>
 some c
def f_linotyperef34_Pen_Paint (p0 : G_linotyperef34_Pen) (p1 : Int) (p2 : Int) (p3 : List G_api_Cell) : Option (G_linotyperef34_Pen) :=
 (idx p0.L p1).bind fun d =>
 (idx p0.L p1).bind fun b =>
 (f_linotyperef24_Paint d.Cells b.Wrap p2 p3).bind fun a =>
 (f_linotyperef34_Pen_With p0 p1 (⟨a.1, a.2⟩ : G_api_Line)).bind fun c =>
 some c
def f_linotyperef31_After (p0 : G_api_Cursor) (p1 : Int) (p2 : Int) (p3 : Bool) : Option (G_api_Cursor) :=
 (if (decide (p1 > 1)) = true then
 some (2)
 else
 some (1)).bind fun a =>
 (f_linotyperef31_Side p2).bind fun b =>
 if (decide (p0.Col ≥ (w64 (b - a)))) = true then
 (f_linotyperef31_Side p2).bind fun c =>
 some (⟨p0.Row, (w64 (c - 1)), p3⟩ : G_api_Cursor)
 else
 some (⟨p0.Row, (w64 (p0.Col + a)), false⟩ : G_api_Cursor)
def f_linotyperef34_Pen_Put (p0 : G_linotyperef34_Pen) (p1 : Int) (p2 : List Int) : Option (G_linotyperef34_Pen × G_api_Cursor) :=
 (f_linotyperef34_Pen_Hold p0).bind fun c =>
 (f_linotyperef34_Pen_Wide c).bind fun d =>
 (if (decide ((imax 1 (imin p1 2)) > d)) = true then
 some (1, ([65533] : List Int))
 else
 some ((imax 1 (imin p1 2)), p2)).bind fun g =>
 (if c.At.Pending = true then
 (f_linotyperef34_Pen_GoOn c).bind fun e =>
 some (e.L, e.At.Row, e.At.Col, e.At.Pending, e.Auto)
 else
 some (c.L, c.At.Row, c.At.Col, c.At.Pending, c.Auto)).bind fun a =>
 ((andE (g.1 == 2) (some (a.2.2.1 == (w64 (d - 1))))).bind fun i =>
 if i = true then
 if a.2.2.2.2 = true then
 (rep 1 (⟨0, ([] : List Int)⟩ : G_api_Cell)).bind fun j =>
 (f_linotyperef34_Pen_Paint (⟨a.1, (⟨a.2.1, a.2.2.1, a.2.2.2.1⟩ : G_api_Cursor), a.2.2.2.2⟩ : G_linotyperef34_Pen) a.2.1 (w64 (d - 1)) j).bind fun k =>
 (f_linotyperef34_Pen_GoOn k).bind fun f =>
 some (f.L, f.At.Row, f.At.Col, f.At.Pending, f.Auto)
 else
 some (a.1, a.2.1, (w64 (d - 2)), a.2.2.2.1, a.2.2.2.2)
 else
 some (a.1, a.2.1, a.2.2.1, a.2.2.2.1, a.2.2.2.2)).bind fun b =>
 (f_linotyperef23_Of g.1 g.2).bind fun l =>
 (f_linotyperef34_Pen_Paint (⟨b.1, (⟨b.2.1, b.2.2.1, b.2.2.2.1⟩ : G_api_Cursor), b.2.2.2.2⟩ : G_linotyperef34_Pen) b.2.1 b.2.2.1 l).bind fun h =>
 (f_linotyperef31_After (⟨b.2.1, b.2.2.1, false⟩ : G_api_Cursor) g.1 d h.Auto).bind fun m =>
 some ((⟨h.L, m, h.Auto⟩ : G_linotyperef34_Pen), (⟨b.2.1, b.2.2.1, false⟩ : G_api_Cursor))
end Go.Proofs.YthokmpbbkpjhbaaGreatDoor
namespace Go.Proofs.YthokmpbbkpjhbaaGreatDoor
open Go Go.Lt
set_option maxRecDepth 10000
set_option linter.unusedVariables false
attribute [local irreducible] W WL AC
theorem copy_run {Q : Program} (w : World) (dT sT ty E : TypeId) (g o dLen dCap : Nat) (a : Addr) (sLen sCap n size : Nat) (us vs : List Value) (T : TypeId)
  (hu : Q.underlying dT = some (.slice E)) (hs : (Q.info? E).map (·.size) = some size) (hn : Nat.min sLen dLen = n) (hul : us.length = n * size)
  (hsrc : ∀ j v, us[j]? = some v → w.cell? (a.add j) = some v) (hrow : w.heap[g]? = some (.cells vs.toArray T (0, 0))) (hl : o + us.length ≤ vs.length) (h1 : ∀ v ∈ us, v.oneCell' = true) :
  (Builtin.copy_ #[dT, sT] ty #[.slice (some ⟨g, o, none⟩) dLen dCap, .slice (some a) sLen sCap]).run Q w = .ok (goInt n) (w.setRow g (vs.take o ++ us ++ vs.drop (o + us.length)).toArray) := by
 obtain ⟨i, hi, hsz⟩ := Option.map_eq_some_iff.1 hs
 have hf := run_firstCells_some (P := Q) (w := w) size n a sLen sCap us hul hsrc
 have hst := run_storeCells_at Q g o T us 0 vs.toArray w hrow (by simpa using hl) h1
 simp only [Nat.add_zero] at hst
 simp [Builtin.copy_, run_underlying hu, Builtin.lenOf, sizeOf, typeInfo, hi, hsz, hn, hf, hst]
set_option maxHeartbeats 4000000 in
set_option maxRecDepth 100000 in
theorem ins_shift {w : World} {g n cap i vb m vc : Nat} {vs us vs2 : List Value} {T T2 : TypeId} (hrow : w.heap[g]? = some (.cells vs.toArray T (0, 0))) (hrow2 : w.heap[vb]? = some (.cells vs2.toArray T2 (0, 0)))
  (hi : i < n) (hm : 0 < m) (hroom : n + m ≤ cap) (hcap : cap * 2 ≤ vs.length) (hc63 : cap ≤ 9223372036854775807) (hvb : vb ≠ g) (hul : us.length = m * 2) (hus : ∀ (j : Nat) (v : Value), us[j]? = some v → vs2[j]? = some v)
  (h1 : ∀ v ∈ vs.take (n * 2), v.oneCell' = true) (h2 : ∀ v ∈ us, v.oneCell' = true) :
  Calls Tryz.prog 218 #[.slice (some ⟨g, 0, none⟩) n cap, .int .i64 i, .slice (some ⟨vb, 0, none⟩) m vc] w fun e w' =>
   e = .returned (.slice (some ⟨g, 0, none⟩) (n + m) cap) ∧ w' = (w.drew.setRow g (vs.take ((i + m) * 2) ++ (vs.drop (i * 2)).take ((n - i) * 2) ++ vs.drop ((n + m) * 2)).toArray).setRow g (vs.take (i * 2) ++ us ++ (vs.drop (i * 2)).take ((n - i) * 2) ++ vs.drop ((n + m) * 2)).toArray := by
 have hsz : (Tryz.prog.info? 101).map (·.size) = some 2 := by kernel_rfl
 have hov : ∀ lb cb, (callFunc 249 #[.slice (some ⟨vb, 0, none⟩) m vc, .slice (some ⟨g, (i + m) * 2, none⟩) lb cb]).run Tryz.prog w = .ok (.value (.bool false)) w := fun lb cb => by
  rw [run_callFunc_extern Tryz.func249 (by kernel_rfl) (by kernel_rfl) (by kernel_rfl) (e := Extern.SlicesOverlaps.overlaps #[69, 69] #[4]) (by kernel_rfl)]
  rw [Lib.run_overlaps_apart w 69 4 101 Tryz.underlying69 2 (fun w => by kernel_rfl) ⟨vb, 0, none⟩ ⟨g, (i + m) * 2, none⟩ m vc lb cb hvb T2 T vs2.length vs.length (by simp [World.shape?, hrow2]) (by simp [World.shape?, hrow]) (by omega) (by simp [World.frozen?, hrow2]) (by simp [World.frozen?, hrow2])]
  rfl
 have hdl : ((vs.drop (i * 2)).take ((n - i) * 2)).length = (n - i) * 2 := by rw [List.length_take, List.length_drop]; omega
 have hcp1 : ∀ ty dc sc, (Builtin.copy_ #[69, 69] ty #[.slice (some ⟨g, (i + m) * 2, none⟩) (n + m - (i + m)) dc, .slice (some ⟨g, i * 2, none⟩) (n + m - i) sc]).run Tryz.prog w.drew = .ok (goInt ((n - i : Nat) : Int)) (w.drew.setRow g (vs.take ((i + m) * 2) ++ (vs.drop (i * 2)).take ((n - i) * 2) ++ vs.drop ((n + m) * 2)).toArray) := fun ty dc sc => by
  have := copy_run (Q := Tryz.prog) w.drew 69 69 ty 101 g ((i + m) * 2) (n + m - (i + m)) dc ⟨g, i * 2, none⟩ (n + m - i) sc (n - i) 2 ((vs.drop (i * 2)).take ((n - i) * 2)) vs T Tryz.underlying69 hsz (by simp only [Nat.min_def]; split <;> omega) hdl
   (fun j v hj => by
    rw [Addr.add_lit]
    rw [List.getElem?_take] at hj
    split at hj
    ·rw [List.getElem?_drop] at hj
     rw [cell_of_row w.drew g (i * 2 + j) vs.toArray T (0, 0) hrow, List.getElem?_toArray]
     exact hj
    ·cases hj) hrow (by rw [hdl]; omega) (fun v hv => h1 v (by rw [show (n - i) * 2 = n * 2 - i * 2 by omega, ← List.drop_take] at hv; exact List.mem_of_mem_drop hv))
  rw [hdl, show (i + m) * 2 + (n - i) * 2 = (n + m) * 2 by omega] at this
  exact this
 obtain ⟨W1, hW1⟩ : ∃ W1, W1 = w.drew.setRow g (vs.take ((i + m) * 2) ++ (vs.drop (i * 2)).take ((n - i) * 2) ++ vs.drop ((n + m) * 2)).toArray := ⟨_, rfl⟩
 have hr1 : W1.heap[g]? = some (.cells (vs.take ((i + m) * 2) ++ (vs.drop (i * 2)).take ((n - i) * 2) ++ vs.drop ((n + m) * 2)).toArray T (0, 0)) := by
  rw [hW1]
  exact setRow_heap w.drew g vs.toArray _ T (0, 0) hrow
 have hr2 : W1.heap[vb]? = some (.cells vs2.toArray T2 (0, 0)) := by
  rw [hW1, setRow_other w.drew g vb _ hvb]
  exact hrow2
 have hA2 : (vs.take ((i + m) * 2) ++ (vs.drop (i * 2)).take ((n - i) * 2) ++ vs.drop ((n + m) * 2)).take (i * 2) = vs.take (i * 2) := by
  rw [List.append_assoc, List.take_append_of_le_length (by rw [List.length_take]; omega), List.take_take, Nat.min_eq_left (by omega)]
 have hA3 : (vs.take ((i + m) * 2) ++ (vs.drop (i * 2)).take ((n - i) * 2) ++ vs.drop ((n + m) * 2)).drop (i * 2 + m * 2) = (vs.drop (i * 2)).take ((n - i) * 2) ++ vs.drop ((n + m) * 2) := by
  have hl : (vs.take ((i + m) * 2)).length = i * 2 + m * 2 := by rw [List.length_take]; omega
  rw [List.append_assoc, ← hl, List.drop_left]
 have hcp2 : ∀ ty dc, (Builtin.copy_ #[69, 69] ty #[.slice (some ⟨g, i * 2, none⟩) (n + m - i) dc, .slice (some ⟨vb, 0, none⟩) m vc]).run Tryz.prog W1 = .ok (goInt m) (W1.setRow g (vs.take (i * 2) ++ us ++ (vs.drop (i * 2)).take ((n - i) * 2) ++ vs.drop ((n + m) * 2)).toArray) := fun ty dc => by
  have := copy_run (Q := Tryz.prog) W1 69 69 ty 101 g (i * 2) (n + m - i) dc ⟨vb, 0, none⟩ m vc m 2 us _ T Tryz.underlying69 hsz (by simp only [Nat.min_def]; split <;> omega) hul
   (fun j v hj => by
    rw [Addr.add_lit, cell_of_row W1 vb (0 + j) vs2.toArray T2 (0, 0) hr2, List.getElem?_toArray, Nat.zero_add]
    exact hus j v hj) hr1 (by simp only [List.length_append, List.length_take, List.length_drop]; omega) h2
  rw [hul, hA2, hA3, ← List.append_assoc] at this
  exact this
 rw [← hW1] at hcp1 ⊢
 have hw1 : IntKind.i64.wrap ((i : Int) + (m : Int)) = (i : Int) + (m : Int) := by rw [IntKind.wrap_i64]; omega
 have hb1 : (0 : Int) ≤ (i : Int) + (m : Int) := by omega
 have hin : i ≤ n := by omega
 have hz1 : ¬ ((m : Int) = 0) := by omega
 have hz2 : ¬ ((i : Int) = (n : Int)) := by omega
 have htn : ((i : Int) + (m : Int)).toNat = i + m := by omega
 have hb2 : ¬ (cap = i + m) := by omega
 have hb3 : (i : Int) ≤ (n : Int) + (m : Int) := by omega
 have hb4 : ¬ (cap = i) := by omega
 have mixed : Tryz.prog.follows Departure.mixedOrders = true := by kernel_rfl
 clear hA2 hA3 hr1 hr2 hW1 hdl h1 h2 hus hul
 go_enter Tryz.func218, Tryz.ntmps218
 go_wp2_with (simp only [hov])
 go_region_law_o (refine step_copy_runI rfl _ _ 69 69 rfl _ _ (by simp [Act.eval, Act.put]) (by simp [Act.eval, Act.put]) (hcp1 _ _ _) ?_)
 go_wp2_with (at_builtin; refine wpList_copy_runI _ rfl _ _ 69 69 rfl _ _ rfl rfl (hcp2 _ _) ?_)
 go_ret
 exact ⟨rfl, by simp only [List.append_assoc]⟩
def insZ (k : Nat) : List Value := (Builtin.zeroCells (Value.agg #[.int .i64 0, .slice none 0 0]).cells k).toList
theorem insZ_len (k : Nat) : (insZ k).length = k * 2 := by
 unfold insZ
 rw [Array.length_toList, size_zeroCells']
 rfl
set_option maxHeartbeats 4000000 in
set_option maxRecDepth 100000 in
theorem ins_grow {w : World} {g n cap i vb m vc : Nat} {vs us vs2 : List Value} {T T2 : TypeId} (hrow : w.heap[g]? = some (.cells vs.toArray T (0, 0))) (hrow2 : w.heap[vb]? = some (.cells vs2.toArray T2 (0, 0)))
  (hi : i < n) (hm : 0 < m) (hnc : n ≤ cap) (hroom : cap < n + m) (hcap : cap * 2 ≤ vs.length) (hbig : (n + m) * 128 ≤ 140737488355328) (hul : us.length = m * 2) (hus : ∀ (j : Nat) (v : Value), us[j]? = some v → vs2[j]? = some v)
  (h1 : ∀ v ∈ vs.take (n * 2), v.oneCell' = true) (h2 : ∀ v ∈ us, v.oneCell' = true) :
  Calls Tryz.prog 218 #[.slice (some ⟨g, 0, none⟩) n cap, .int .i64 i, .slice (some ⟨vb, 0, none⟩) m vc] w fun e w' =>
   e = .returned (.slice (some ⟨w.heap.size, 0, none⟩) (n + m) (grownCap w (n + m) cap 101)) ∧
   w' = (((w.drew.alloc (.cells (vs.take (i * 2) ++ insZ (n + m - i) ++ insZ (grownCap w (n + m) cap 101 - (n + m))).toArray 101)).setRow w.heap.size (vs.take (i * 2) ++ us ++ (insZ (n + m - i) ++ insZ (grownCap w (n + m) cap 101 - (n + m))).drop (m * 2)).toArray).drew).setRow w.heap.size
    (vs.take (i * 2) ++ us ++ (vs.drop (i * 2)).take ((n - i) * 2) ++ (insZ (n + m - i) ++ insZ (grownCap w (n + m) cap 101 - (n + m))).drop ((n + m - i) * 2)).toArray := by
 have hsz : (Tryz.prog.info? 101).map (·.size) = some 2 := by kernel_rfl
 obtain ⟨ti, hti, hzz⟩ := Option.map_eq_some_iff.1 (show (Tryz.prog.info? 101).map (fun i => (i.zero, i.size, i.bytes)) = some (some (Value.agg #[.int .i64 0, .slice none 0 0]), 2, 32) by kernel_rfl)
 simp only [Prod.mk.injEq] at hzz
 obtain ⟨hz0, hz3, hz4⟩ := hzz
 have hold : (Builtin.firstCells ti.size i (.slice (some ⟨g, 0, none⟩) i cap)).run Tryz.prog w.drew = .ok (vs.take (i * 2)).toArray w.drew := by
  rw [hz3]
  exact run_firstCells_some w.drew 2 i ⟨g, 0, none⟩ i cap (vs.take (i * 2)) (by rw [List.length_take]; omega) (fun j v hj => by
   rw [Addr.add_lit, Nat.zero_add, cell_of_row w.drew g j vs.toArray T (0, 0) hrow, List.getElem?_toArray]
   rw [List.getElem?_take] at hj
   split at hj
   ·exact hj
   ·cases hj)
 obtain ⟨N, hN⟩ : ∃ N, N = w.heap.size := ⟨_, rfl⟩
 obtain ⟨Gc, hGc⟩ : ∃ Gc, Gc = grownCap w (n + m) cap 101 := ⟨_, rfl⟩
 obtain ⟨Zs, hZs⟩ : ∃ Zs, Zs = insZ (n + m - i) ++ insZ (Gc - (n + m)) := ⟨_, rfl⟩
 have hZl : Zs.length = (n + m - i) * 2 + (Gc - (n + m)) * 2 := by rw [hZs, List.length_append, insZ_len, insZ_len]
 obtain ⟨W2, hW2⟩ : ∃ W2, W2 = w.drew.alloc (.cells (vs.take (i * 2) ++ Zs).toArray 101) := ⟨_, rfl⟩
 have hkk : (n : Int) + (m : Int) - (i : Int) = ((n + m - i : Nat) : Int) := by omega
 have hrz : ∀ ty, (Builtin.append_ #[69, 3] ty #[.slice (some ⟨g, 0, none⟩) i cap, .int .i64 ((n : Int) + (m : Int) - (i : Int))]).run Tryz.prog w = .ok (.slice (some ⟨N, 0, none⟩) (n + m) Gc) W2 := fun ty => by
  have h := Lib.run_append_grow_zeros (P := Tryz.prog) w 69 3 ty 101 ti _ .i64 .i64 Tryz.underlying69 Tryz.underlying3 hti hz0 (some ⟨g, 0, none⟩) i cap (vs.take (i * 2)) hold (n + m - i) (by omega) (by omega) (by omega) (by omega) (by rw [hz4]; omega) (by rw [hz4, show i + (n + m - i) = n + m by omega]; exact growslice_fits hroom (by omega))
  rw [show i + (n + m - i) = n + m by omega] at h
  rw [hkk, hN, hGc, hW2, h, hZs, ← hGc]
  congr 3
  rw [← List.append_assoc]
  apply Array.ext'
  simp [insZ]
 have hNg : g < N := by rw [hN]; exact (Array.getElem?_eq_some_iff.1 hrow).1
 have hNv : vb < N := by rw [hN]; exact (Array.getElem?_eq_some_iff.1 hrow2).1
 have r2N : W2.heap[N]? = some (.cells (vs.take (i * 2) ++ Zs).toArray 101 (0, 0)) := by
  rw [hW2, hN]
  exact heap_alloc_new w.drew _
 have r2g : W2.heap[g]? = some (.cells vs.toArray T (0, 0)) := by
  rw [hW2, RowKit.Below.heap_alloc w.drew _ g (by rw [hN] at hNg; exact hNg)]
  exact hrow
 have r2v : W2.heap[vb]? = some (.cells vs2.toArray T2 (0, 0)) := by
  rw [hW2, RowKit.Below.heap_alloc w.drew _ vb (by rw [hN] at hNv; exact hNv)]
  exact hrow2
 have ht : (vs.take (i * 2)).length = i * 2 := by rw [List.length_take]; omega
 have hGe : n + m ≤ Gc := by rw [hGc]; exact grownCap_ge w _ _ _
 obtain ⟨W3, hW3⟩ : ∃ W3, W3 = W2.setRow N (vs.take (i * 2) ++ us ++ Zs.drop (m * 2)).toArray := ⟨_, rfl⟩
 have hcpA : ∀ ty dc, (Builtin.copy_ #[69, 69] ty #[.slice (some ⟨N, i * 2, none⟩) (n + m - i) dc, .slice (some ⟨vb, 0, none⟩) m vc]).run Tryz.prog W2 = .ok (goInt m) W3 := fun ty dc => by
  have := copy_run (Q := Tryz.prog) W2 69 69 ty 101 N (i * 2) (n + m - i) dc ⟨vb, 0, none⟩ m vc m 2 us _ 101 Tryz.underlying69 hsz (by simp only [Nat.min_def]; split <;> omega) hul
   (fun j v hj => by
    rw [Addr.add_lit, cell_of_row W2 vb (0 + j) vs2.toArray T2 (0, 0) r2v, List.getElem?_toArray, Nat.zero_add]
    exact hus j v hj) r2N (by simp only [List.length_append, ht, hZl]; omega) h2
  rw [hul, List.take_append_of_le_length (by omega), List.take_of_length_le (by omega), ← List.drop_drop, List.drop_left' ht] at this
  rw [hW3]
  exact this
 have r3N : W3.heap[N]? = some (.cells (vs.take (i * 2) ++ us ++ Zs.drop (m * 2)).toArray 101 (0, 0)) := by
  rw [hW3]
  exact setRow_heap W2 N _ _ _ (0, 0) r2N
 have r3g : W3.heap[g]? = some (.cells vs.toArray T (0, 0)) := by
  rw [hW3, setRow_other W2 N g _ (by omega)]
  exact r2g
 have hcpB : ∀ ty dc sc, (Builtin.copy_ #[69, 69] ty #[.slice (some ⟨N, (i + m) * 2, none⟩) (n + m - (i + m)) dc, .slice (some ⟨g, i * 2, none⟩) (n - i) sc]).run Tryz.prog W3.drew = .ok (goInt ((n - i : Nat) : Int)) (W3.drew.setRow N (vs.take (i * 2) ++ us ++ (vs.drop (i * 2)).take ((n - i) * 2) ++ Zs.drop ((n + m - i) * 2)).toArray) := fun ty dc sc => by
  have hdl : ((vs.drop (i * 2)).take ((n - i) * 2)).length = (n - i) * 2 := by rw [List.length_take, List.length_drop]; omega
  have hau : (vs.take (i * 2) ++ us).length = (i + m) * 2 := by rw [List.length_append, ht, hul]; omega
  have := copy_run (Q := Tryz.prog) W3.drew 69 69 ty 101 N ((i + m) * 2) (n + m - (i + m)) dc ⟨g, i * 2, none⟩ (n - i) sc (n - i) 2 ((vs.drop (i * 2)).take ((n - i) * 2)) _ 101 Tryz.underlying69 hsz (by simp only [Nat.min_def]; split <;> omega) hdl
   (fun j v hj => by
    rw [Addr.add_lit]
    rw [List.getElem?_take] at hj
    split at hj
    ·rw [List.getElem?_drop] at hj
     rw [cell_of_row W3.drew g (i * 2 + j) vs.toArray T (0, 0) r3g, List.getElem?_toArray]
     exact hj
    ·cases hj) r3N (by rw [hdl, List.length_append, hau, List.length_drop, hZl]; omega) (fun v hv => h1 v (by rw [show (n - i) * 2 = n * 2 - i * 2 by omega, ← List.drop_take] at hv; exact List.mem_of_mem_drop hv))
  rw [hdl] at this
  rw [this]
  congr 3
  rw [← hau, List.take_left, ← List.drop_drop, List.drop_left, List.drop_drop, show m * 2 + (n - i) * 2 = (n + m - i) * 2 by omega]
 have hN2 : w.heap.size = N := hN.symm
 have hG2 : grownCap w (n + m) cap 101 = Gc := hGc.symm
 rw [hG2, ← hZs, show vs.take (i * 2) ++ insZ (n + m - i) ++ insZ (Gc - (n + m)) = vs.take (i * 2) ++ Zs by rw [hZs, List.append_assoc], hN2, ← hW2, ← hW3]
 have hG63 : Gc ≤ 9223372036854775807 := by
  have := grownCap_le_maxLen w (n + m) cap 101 (by unfold maxLen; omega)
  rw [← hGc] at this
  unfold maxLen at this
  omega
 have hGi : ¬ (Gc = i) := by omega
 have hGim : ¬ (Gc = i + m) := by omega
 have hci : ¬ (cap = i) := by omega
 have hw1 : IntKind.i64.wrap ((i : Int) + (m : Int)) = (i : Int) + (m : Int) := by rw [IntKind.wrap_i64]; omega
 have hb1 : (0 : Int) ≤ (i : Int) + (m : Int) := by omega
 have hin : i ≤ n := by omega
 have htn : ((i : Int) + (m : Int)).toNat = i + m := by omega
 have hb3 : (i : Int) ≤ (n : Int) := by omega
 have hz1 : ¬ ((m : Int) = 0) := by omega
 have hz2 : ¬ ((i : Int) = (n : Int)) := by omega
 have hz5 : (cap : Int) < (n : Int) + (m : Int) := by omega
 have mixed : Tryz.prog.follows Departure.mixedOrders = true := by kernel_rfl
 clear hkk hold hZs hZl hW2 hW3 r2N r2g r2v r3N r3g hN hN2 hG2 hGc ht hti hz0 hz3 hz4 h1 h2 hus hul hNg hNv hrow hrow2
 go_enter Tryz.func218, Tryz.ntmps218
 go_wp2_with (first
  | (at_builtin; refine Lib.wpList_append_run _ rfl _ _ _ _ rfl _ _ rfl rfl _ _ (hrz _) ?_)
  | (at_builtin; refine wpList_copy_runI _ rfl _ _ 69 69 rfl _ _ rfl rfl (hcpA _ _) ?_))
 go_region_law_o (refine step_copy_runI rfl _ _ 69 69 rfl (.slice (some ⟨N, (i + m) * 2, none⟩) (n + m - (i + m)) (Gc - (i + m))) (.slice (some ⟨g, i * 2, none⟩) (n - i) (cap - i)) (by simp [Act.eval, Act.put]) (by simp [Act.eval, Act.put]) (hcpB _ _ _) ?_)
 go_wp2
 go_ret
 exact ⟨rfl, by simp only [List.append_assoc]⟩
section
variable {c c' : Cx} {α : Type} {R : Rp α}
theorem _root_.Go.Lt.AR.take {vs : List Value} {xs : List α} (h : AR R c vs xs) (k : Nat) : AR R c (vs.take (k * R.size)) (xs.take k) := fun i x hx => by
 rw [List.getElem?_take] at hx
 split at hx
 ·rename_i hik
  have hm := mul_step (s := R.size) hik
  rw [List.drop_take, List.take_take, Nat.min_eq_left (by omega)]
  exact h i x hx
 ·cases hx
theorem _root_.Go.Lt.AR.drop {vs : List Value} {xs : List α} (h : AR R c vs xs) (k : Nat) : AR R c (vs.drop (k * R.size)) (xs.drop k) := fun i x hx => by
 rw [List.getElem?_drop] at hx
 rw [List.drop_drop, ← Nat.add_mul]
 exact h _ x hx
theorem _root_.Go.Lt.AR.more {vs ts : List Value} {xs : List α} (h : AR R c vs xs) (hl : xs.length * R.size ≤ vs.length) : AR R c (vs ++ ts) xs := fun i x hx => by
 have hi := (List.getElem?_eq_some_iff.1 hx).1
 have hm := mul_step (s := R.size) hi
 rw [take_drop_left (by omega)]
 exact h i x hx
theorem _root_.Go.Lt.AR.app {vs us : List Value} {xs ys : List α} (h : AR R c vs xs) (hl : vs.length = xs.length * R.size) (k : AR R c us ys) : AR R c (vs ++ us) (xs ++ ys) := fun i x hx => by
 rw [List.getElem?_append] at hx
 split at hx
 ·rename_i hi
  have hm := mul_step (s := R.size) hi
  rw [take_drop_left (by omega)]
  exact h i x hx
 ·rename_i hi
  rw [show i * R.size = vs.length + (i - xs.length) * R.size by rw [hl, ← Nat.add_mul]; congr 1; omega, ← List.drop_drop, List.drop_left]
  exact k _ x hx
theorem _root_.Go.Lt.AR.ones {vs : List Value} {xs : List α} (h : AR R c vs xs) (hp : 0 < R.size) : ∀ v ∈ vs.take (xs.length * R.size), v.oneCell' = true := fun v hv => by
 obtain ⟨j, hj⟩ := List.mem_iff_getElem?.1 hv
 rw [List.getElem?_take] at hj
 split at hj
 ·rename_i hlt
  have hq : j / R.size < xs.length := by rw [Nat.div_lt_iff_lt_mul hp]; exact hlt
  have hc := h _ _ (List.getElem?_eq_getElem hq)
  refine R.one hc v (List.mem_iff_getElem?.2 ⟨j % R.size, ?_⟩)
  rw [List.getElem?_take, if_pos (Nat.mod_lt _ hp), List.getElem?_drop, Nat.mul_comm, Nat.div_add_mod]
  exact hj
 ·cases hj
end
def f_slices_Insert (p0 : List G_api_Cell) (p1 : Int) (p2 : List G_api_Cell) : Option (List G_api_Cell) := if 0 ≤ p1 ∧ p1 < p0.length ∧ 1 ≤ p2.length ∧ p0.length + p2.length ≤ far then some (p0.take p1.toNat ++ p2 ++ p0.drop p1.toNat) else none
theorem _root_.Go.Lt.OA.some {c : Cx} {α : Type} {R : Rp α} {v : Value} {vs : List Value} {xs : List α} (h : OA R c v vs xs) (hn : 1 ≤ xs.length) : ∃ g cap, v = .slice (some ⟨g, 0, none⟩) xs.length cap ∧ xs.length ≤ cap ∧ cap ≤ maxLen ∧ cap * R.size ≤ vs.length ∧ AR R c vs xs := by
 rcases h.2.1 with ⟨_, rfl⟩ | ⟨g, cap, h1, h2, h3, h4⟩
 ·simp at hn
 ·exact ⟨g, cap, h1, h2, h3, h4, h.2.2⟩
theorem c_slices_Insert {c0 : Cx} {G : Gm} {F : List En} {v0 v2 : Value} {u0 u2 : List Value} (p0 : List G_api_Cell) (p1 : Int) (p2 : List G_api_Cell) (O0 : Own c0 G (es true R_api_Cell v0 101 u0 p0 :: es true R_api_Cell v2 101 u2 p2 :: F)) (h0 : OA R_api_Cell c0 v0 u0 p0) (h2 : OA R_api_Cell c0 v2 u2 p2) {r : List G_api_Cell} (H : f_slices_Insert p0 p1 p2 = some r) :
  Calls Tryz.prog 218 #[v0, .int .i64 p1, v2] c0.w (Post c0 fun c v => ∃ y1 : Value, ∃ y2 : List Value, Own c G (es true R_api_Cell y1 101 y2 r :: F) ∧ v = y1 ∧ OA R_api_Cell c y1 y2 r) := by
 unfold f_slices_Insert at H
 split at H
 ·rename_i hc
  obtain ⟨hc1, hc2, hc3, hc4⟩ := hc
  obtain ⟨i, rfl⟩ : ∃ i : Nat, p1 = (i : Int) := ⟨p1.toNat, by omega⟩
  rw [Int.toNat_natCast] at H
  obtain rfl := Option.some.inj H
  obtain ⟨g, cap, rfl, a1, a2, a3, a4⟩ := h0.some (by omega)
  obtain ⟨vb, vc, rfl, b1, b2, b3, b4⟩ := h2.some hc3
  have hsz : R_api_Cell.size = 2 := rfl
  have hon0 := O0.on 0 rfl g rfl
  have hon2 := O0.on 1 rfl vb rfl
  have hne : vb ≠ g := fun e => O0.m.2 (.inl 0) (.inl 1) _ _ rfl rfl (by simp) g rfl (by rw [← e]; rfl)
  have o0 := a4.ones (by decide)
  have o2 := b4.ones (by decide)
  rw [hsz] at o0 o2 a3 b3
  unfold maxLen at a2 b2
  unfold far at hc4
  have ht0 : (u0.take (i * 2)).length = i * 2 := by rw [List.length_take]; omega
  have ht2 : (u2.take (p2.length * 2)).length = p2.length * 2 := by rw [List.length_take]; omega
  have htl : ((u0.drop (i * 2)).take ((p0.length - i) * 2)).length = (p0.length - i) * 2 := by rw [List.length_take, List.length_drop]; omega
  have hus : ∀ (j : Nat) (v : Value), (u2.take (p2.length * 2))[j]? = some v → u2[j]? = some v := fun j v hj => by
   rw [List.getElem?_take] at hj
   split at hj
   ·exact hj
   ·cases hj
  have hAR : ∀ (c : Cx) (ts : List Value), c0.le c → AR R_api_Cell c (u0.take (i * 2) ++ u2.take (p2.length * 2) ++ (u0.drop (i * 2)).take ((p0.length - i) * 2) ++ ts) (p0.take i ++ p2 ++ p0.drop i) := fun c ts hle => by
   have k0 : AR R_api_Cell c (u0.take (i * 2)) (p0.take i) := (a4.take i).mono hle
   have k2 : AR R_api_Cell c (u2.take (p2.length * 2)) p2 := by
    have := (b4.take p2.length).mono hle
    rwa [List.take_of_length_le (Nat.le_refl p2.length)] at this
   have k1 : AR R_api_Cell c ((u0.drop (i * 2)).take ((p0.length - i) * 2)) (p0.drop i) := by
    have := ((a4.drop i).take (p0.length - i)).mono hle
    rwa [List.take_of_length_le (l := p0.drop i) (by rw [List.length_drop]; exact Nat.le_refl _)] at this
   refine AR.more (AR.app (AR.app k0 ?_ k2) ?_ k1) ?_
   ·rw [ht0, List.length_take, Nat.min_eq_left (by omega), hsz]
   ·rw [List.length_append, ht0, ht2, List.length_append, List.length_take, Nat.min_eq_left (by omega), hsz, Nat.add_mul]
   ·simp only [List.length_append]
    rw [ht0, ht2, htl, List.length_take, List.length_drop, Nat.min_eq_left (by omega), hsz]
    omega
  have hrl : (p0.take i ++ p2 ++ p0.drop i).length = p0.length + p2.length := by
   rw [List.length_append, List.length_append, List.length_take, List.length_drop]
   omega
  rcases Nat.lt_or_ge cap (p0.length + p2.length) with hg | hg
  ·refine (ins_grow (vs := u0) (us := u2.take (p2.length * 2)) (vs2 := u2) hon0.1 hon2.1 (by omega) (by omega) a1 hg a3 (by omega) ht2 hus o0 o2).mono ?_
   rintro e w' ⟨rfl, rfl⟩
   obtain ⟨Gc, hGc⟩ : ∃ Gc, Gc = grownCap c0.w (p0.length + p2.length) cap 101 := ⟨_, rfl⟩
   have hGe : p0.length + p2.length ≤ Gc := by rw [hGc]; exact grownCap_ge _ _ _ _
   have hGm : Gc ≤ maxLen := by rw [hGc]; exact grownCap_le_maxLen _ _ _ _ (by unfold maxLen; omega)
   rw [← hGc]
   obtain ⟨Zs, hZs⟩ : ∃ Zs, Zs = insZ (p0.length + p2.length - i) ++ insZ (Gc - (p0.length + p2.length)) := ⟨_, rfl⟩
   have hZl : Zs.length = (p0.length + p2.length - i) * 2 + (Gc - (p0.length + p2.length)) * 2 := by rw [hZs, List.length_append, insZ_len, insZ_len]
   rw [List.append_assoc (u0.take (i * 2)), ← hZs]
   have hd := Cx.drew_le c0
   obtain ⟨c1, e1, e2, e3, e4, e5⟩ := Cx.new ⟨c0.w.drew, c0.A, c0.t⟩ (u0.take (i * 2) ++ Zs) 101 0
   have O1 := Own.cons (O0.keep hd) e2 (fun _ => id) (e := ⟨.slice (some ⟨c0.w.heap.size, 0, none⟩) (p0.length + p2.length) Gc, 101, u0.take (i * 2) ++ Zs, 0⟩) (fun b hb => by
    simp only [blk, Option.some.injEq] at hb
    subst hb
    exact ⟨e3, e5⟩) (fun b hb => by
    simp only [blk, Option.some.injEq] at hb
    subst hb
    exact Nat.le_refl _)
   obtain ⟨c2, f1, f2, f3, f4⟩ := Cx.row (m := u0.take (i * 2) ++ u2.take (p2.length * 2) ++ Zs.drop (p2.length * 2)) e3 0 e5 (fun o ho => by omega) 0 (Nat.le_refl _)
   have O2 := Own.set O1 0 rfl f2 (fun b hb => by rw [hb]; rfl) (e' := ⟨.slice (some ⟨c0.w.heap.size, 0, none⟩) (p0.length + p2.length) Gc, 101, u0.take (i * 2) ++ u2.take (p2.length * 2) ++ Zs.drop (p2.length * 2), 0⟩) (fun b hb => by
    simp only [blk, Option.some.injEq] at hb
    subst hb
    exact ⟨f3, f4⟩) (fun b hb => .inl hb)
   have hd2 := Cx.drew_le c2
   obtain ⟨c3, g1, g2, g3, g4⟩ := Cx.row (c := ⟨c2.w.drew, c2.A, c2.t⟩) (m := u0.take (i * 2) ++ u2.take (p2.length * 2) ++ (u0.drop (i * 2)).take ((p0.length - i) * 2) ++ Zs.drop ((p0.length + p2.length - i) * 2)) (T := 101) (b := c0.w.heap.size) f3 0 f4 (fun o ho => by omega) 0 (Nat.le_refl _)
   have O3 := Own.set (O2.keep hd2) 0 rfl g2 (fun b hb => by rw [hb]; rfl) (e' := es true R_api_Cell (.slice (some ⟨c0.w.heap.size, 0, none⟩) (p0.length + p2.length) Gc) 101 (u0.take (i * 2) ++ u2.take (p2.length * 2) ++ (u0.drop (i * 2)).take ((p0.length - i) * 2) ++ Zs.drop ((p0.length + p2.length - i) * 2)) (p0.take i ++ p2 ++ p0.drop i)) (fun b hb => by
    simp only [es, blk, Option.some.injEq] at hb
    subst hb
    exact ⟨g3, g4⟩) (fun b hb => .inl hb)
   have hle := hd.le.trans (e2.le.trans (f2.le.trans (hd2.le.trans g2.le)))
   have O4 := O3.selD 3 [0] (by kernel_rfl) (by kernel_rfl)
   refine ⟨_, c3, rfl, by rw [g1]; show _ = (c2.w.drew).setRow _ _; rw [f1, e1]; rfl, hle, _, _, O4, rfl, by decide, .inr ⟨_, Gc, by rw [hrl], by rw [hrl]; exact hGe, hGm, ?_⟩, hAR c3 _ hle⟩
   rw [hsz, List.length_append, List.length_append, List.length_append, ht0, ht2, htl, List.length_drop, hZl]
   omega
  ·refine (ins_shift (vs := u0) (us := u2.take (p2.length * 2)) (vs2 := u2) hon0.1 hon2.1 (by omega) (by omega) hg a3 a2 hne ht2 hus o0 o2).mono ?_
   rintro e w' ⟨rfl, rfl⟩
   have hd := Cx.drew_le c0
   obtain ⟨c2, f1, f2, f3, f4⟩ := Cx.row (c := ⟨c0.w.drew, c0.A, c0.t⟩) (l := u0) (T := 101) (b := g) (m := u0.take ((i + p2.length) * 2) ++ (u0.drop (i * 2)).take ((p0.length - i) * 2) ++ u0.drop ((p0.length + p2.length) * 2)) hon0.1 0 hon0.2 (fun o ho => by omega) 0 (Nat.le_refl _)
   have O2 := Own.set (O0.keep hd) 0 rfl f2 (fun b hb => by rw [hb]; rfl) (e' := ⟨.slice (some ⟨g, 0, none⟩) p0.length cap, 101, u0.take ((i + p2.length) * 2) ++ (u0.drop (i * 2)).take ((p0.length - i) * 2) ++ u0.drop ((p0.length + p2.length) * 2), 0⟩) (fun b hb => by
    simp only [blk, Option.some.injEq] at hb
    subst hb
    exact ⟨f3, f4⟩) (fun b hb => .inl hb)
   obtain ⟨c3, g1, g2, g3, g4⟩ := Cx.row (c := c2) (m := u0.take (i * 2) ++ u2.take (p2.length * 2) ++ (u0.drop (i * 2)).take ((p0.length - i) * 2) ++ u0.drop ((p0.length + p2.length) * 2)) (T := 101) (b := g) f3 0 f4 (fun o ho => by omega) 0 (Nat.le_refl _)
   have O3 := Own.set O2 0 rfl g2 (fun b hb => by rw [hb]; rfl) (e' := es true R_api_Cell (.slice (some ⟨g, 0, none⟩) (p0.length + p2.length) cap) 101 (u0.take (i * 2) ++ u2.take (p2.length * 2) ++ (u0.drop (i * 2)).take ((p0.length - i) * 2) ++ u0.drop ((p0.length + p2.length) * 2)) (p0.take i ++ p2 ++ p0.drop i)) (fun b hb => by
    simp only [es, blk, Option.some.injEq] at hb
    subst hb
    exact ⟨g3, g4⟩) (fun b hb => .inl hb)
   have hle := hd.le.trans (f2.le.trans g2.le)
   have O4 := O3.selD 2 [0] (by kernel_rfl) (by kernel_rfl)
   refine ⟨_, c3, rfl, by rw [g1, f1], hle, _, _, O4, rfl, by decide, .inr ⟨g, cap, by rw [hrl], by rw [hrl]; exact hg, by unfold maxLen; exact a2, ?_⟩, hAR c3 _ hle⟩
   rw [hsz, List.length_append, List.length_append, List.length_append, ht0, ht2, htl, List.length_drop]
   omega
 ·cases H
theorem insZ_one (k : Nat) : ∀ v ∈ insZ k, v.oneCell' = true := fun v hv => by
 unfold insZ Builtin.zeroCells at hv
 simp only [Array.toList_map, List.mem_map] at hv
 obtain ⟨a, _, rfl⟩ := hv
 have h2 : (Value.agg #[.int .i64 0, .slice none 0 0]).cells = #[.int .i64 0, .slice none 0 0] := rfl
 rw [h2]
 show (#[Value.int .i64 0, Value.slice none 0 0][a % 2]!).oneCell' = true
 rcases Nat.mod_two_eq_zero_or_one a with h | h <;> rw [h] <;> rfl
theorem step_app_run {P : Program} {ops : Array Oper} {o : Oper} {a : Act} {w : World} {K : Act → World → Prop} {Q : Exit → Act → World → Prop} {E : Prop}
  (hg : o.guard = none) (d x : Operand) (dT sT : TypeId) (hop : o.op = Op.call { callee := Callee.builtin Builtin.append, args := #[d, x], argTypes := #[dT, sT] })
  (v u : Value) (hd : a.eval d = v) (hx : a.eval x = u) {v' : Value} {w' : World} (hr : (Builtin.append_ #[dT, sT] o.type #[v, u]).run P w = .ok v' w') (hK : K (a.put o.dst v') w') :
  if Region.wanted o (yielded ops a.tmps) = true then Oper.wp P o a w K Q else E := by
 have hw : Region.wanted o (yielded ops a.tmps) = true := by simp [Region.wanted, hg]
 rw [if_pos hw]
 unfold Oper.wp
 simp [execOp, hop, resolve, invoke, builtin, hd, hx, hr, Result.andThen]
 exact hK
theorem wp_clear_run {P : Program} (w : World) {ops : Array Oper} {rest : List Oper} {o : Oper} {a : Act} {Q : Exit → Act → World → Prop} (hgd : o.guard = none) (d : Operand) (t : TypeId)
  (ho : o.op = .call { callee := .builtin .clear, args := #[d], argTypes := #[t] }) (v : Value) (hd : a.eval d = v) {v' : Value} {w' : World}
  (hr : (Builtin.clear_ #[t] o.type #[v]).run P w = .ok v' w') (h : wpList P ops Q rest (a.put o.dst v') w') : wpList P ops Q (o :: rest) a w :=
 wpList_plain hgd fun _ hK => by
  unfold Oper.wp execOp
  simp only [ho, resolve, invoke, builtin, Sem.run_bind, Sem.run_pure, Result.andThen_ok, List.map_toArray, List.map_cons, List.map_nil, hd, hr]
  exact hK _ _ h
theorem clear_run {Q : Program} (w : World) (t ty E : TypeId) (g o k c : Nat) (z : Value) (vs : List Value) (T : TypeId) (hk : k ≠ 0)
  (hu : Q.underlying t = some (.slice E)) (hz : ∀ w, (zeroValue E).run Q w = .ok z w) (hrow : w.heap[g]? = some (.cells vs.toArray T (0, 0))) (hl : o + (Builtin.zeroCells z.cells k).toList.length ≤ vs.length) (h1 : ∀ v ∈ (Builtin.zeroCells z.cells k).toList, v.oneCell' = true) :
  (Builtin.clear_ #[t] ty #[.slice (some ⟨g, o, none⟩) k c]).run Q w = .ok (.tuple #[]) (w.setRow g (vs.take o ++ (Builtin.zeroCells z.cells k).toList ++ vs.drop (o + (Builtin.zeroCells z.cells k).toList.length)).toArray) := by
 have hst := run_storeCells_at Q g o T (Builtin.zeroCells z.cells k).toList 0 vs.toArray w hrow (by simpa using hl) h1
 simp only [Nat.add_zero] at hst
 cases k with
 | zero => exact absurd rfl hk
 | succ k =>
  simp [Builtin.clear_, run_underlying hu, hz, hst]
set_option maxHeartbeats 4000000 in
set_option maxRecDepth 100000 in
theorem del_run {w : World} {g n cap i j : Nat} {vs : List Value} (hrow : w.heap[g]? = some (.cells vs.toArray 101 (0, 0)))
  (hij : i < j) (hjn : j ≤ n) (hnc : n ≤ cap) (hcap : cap * 2 ≤ vs.length) (hc63 : cap ≤ 9223372036854775807) (h1 : ∀ v ∈ vs.take (n * 2), v.oneCell' = true) :
  Calls Tryz.prog 221 #[.slice (some ⟨g, 0, none⟩) n cap, .int .i64 i, .int .i64 j] w fun e w' =>
   e = .returned (.slice (some ⟨g, 0, none⟩) (i + (n - j)) cap) ∧ w' = (w.drew.setRow g (vs.take (i * 2) ++ (vs.drop (j * 2)).take ((n - j) * 2) ++ vs.drop ((i + (n - j)) * 2)).toArray).setRow g
    (vs.take (i * 2) ++ (vs.drop (j * 2)).take ((n - j) * 2) ++ insZ (j - i) ++ vs.drop (n * 2)).toArray := by
 obtain ⟨ti, hti, hzz⟩ := Option.map_eq_some_iff.1 (show (Tryz.prog.info? 101).map (fun i => i.size) = some 2 by kernel_rfl)
 have hul : ((vs.drop (j * 2)).take ((n - j) * 2)).length = (n - j) * 2 := by rw [List.length_take, List.length_drop]; omega
 have ht : (vs.take (i * 2)).length = i * 2 := by rw [List.length_take]; omega
 obtain ⟨W1, hW1⟩ : ∃ W1, W1 = w.drew.setRow g (vs.take (i * 2) ++ (vs.drop (j * 2)).take ((n - j) * 2) ++ vs.drop ((i + (n - j)) * 2)).toArray := ⟨_, rfl⟩
 have hap : ∀ ty a k, (∀ x v, ((vs.drop (j * 2)).take ((n - j) * 2))[x]? = some v → w.drew.cell? (a.add x) = some v) →
   (Builtin.append_ #[69, 69] ty #[.slice (some ⟨g, 0, none⟩) i cap, .slice (some a) (n - j) k]).run Tryz.prog w.drew = .ok (.slice (some ⟨g, 0, none⟩) (i + (n - j)) cap) W1 := fun ty a k hx => by
  have := run_append_room (P := Tryz.prog) w.drew 69 ty 101 ti Tryz.underlying69 hti g i cap vs.toArray hrow a (n - j) k ((vs.drop (j * 2)).take ((n - j) * 2)) (by rw [hul, hzz]) hx (fun v hv => h1 v (by rw [show (n - j) * 2 = n * 2 - j * 2 by omega, ← List.drop_take] at hv; exact List.mem_of_mem_drop hv)) (by omega) (by rw [hzz, hul]; simp; omega)
  rw [this, hW1, hzz, hul]
  simp only [List.toList_toArray, List.size_toArray]
  rw [show i * 2 + (n - j) * 2 = (i + (n - j)) * 2 by omega]
 have hr1 : W1.heap[g]? = some (.cells (vs.take (i * 2) ++ (vs.drop (j * 2)).take ((n - j) * 2) ++ vs.drop ((i + (n - j)) * 2)).toArray 101 (0, 0)) := by
  rw [hW1]
  exact setRow_heap w.drew g vs.toArray _ 101 (0, 0) hrow
 have hau : (vs.take (i * 2) ++ (vs.drop (j * 2)).take ((n - j) * 2)).length = (i + (n - j)) * 2 := by rw [List.length_append, ht, hul]; omega
 have hcl : ∀ ty c, (Builtin.clear_ #[69] ty #[.slice (some ⟨g, (i + (n - j)) * 2, none⟩) (n - (i + (n - j))) c]).run Tryz.prog W1 = .ok (.tuple #[]) (W1.setRow g (vs.take (i * 2) ++ (vs.drop (j * 2)).take ((n - j) * 2) ++ insZ (j - i) ++ vs.drop (n * 2)).toArray) := fun ty c => by
  have hzl := insZ_len (j - i)
  unfold insZ at hzl
  have := clear_run (Q := Tryz.prog) W1 69 ty 101 g ((i + (n - j)) * 2) (j - i) c (Value.agg #[.int .i64 0, .slice none 0 0]) _ 101 (by omega) Tryz.underlying69 (fun w => by kernel_rfl) hr1 (by rw [hzl, List.length_append, hau, List.length_drop]; omega) (fun v hv => by
   exact insZ_one _ v hv)
  rw [hzl] at this
  rw [show n - (i + (n - j)) = j - i by omega, this]
  congr 3
  rw [← hau, List.take_left, ← List.drop_drop, List.drop_left, List.drop_drop, hau, show (i + (n - j)) * 2 + (j - i) * 2 = n * 2 by omega]
  rfl
 have hcell : ∀ (x : Nat) (v : Value), ((vs.drop (j * 2)).take ((n - j) * 2))[x]? = some v → w.drew.cell? ((⟨g, j * 2, none⟩ : Addr).add x) = some v := fun x v hx => by
  rw [Addr.add_lit]
  rw [List.getElem?_take] at hx
  split at hx
  ·rw [List.getElem?_drop] at hx
   rw [cell_of_row w.drew g (j * 2 + x) vs.toArray 101 (0, 0) hrow, List.getElem?_toArray]
   exact hx
  ·cases hx
 have hnil : cap = j → ∀ (x : Nat) (v : Value), ((vs.drop (j * 2)).take ((n - j) * 2))[x]? = some v → w.drew.cell? ((⟨g, 0, none⟩ : Addr).add x) = some v := fun e x v hx => by
  rw [show (n - j) * 2 = 0 by omega, List.take_zero] at hx
  cases hx
 have hWW : cap = j → W1 = w.drew := fun e => by
  rw [hW1, show n - j = 0 by omega, Nat.zero_mul, List.take_zero, List.append_nil, Nat.add_zero, List.take_append_drop]
  exact setRow_self w.drew g vs.toArray _ (0, 0) hrow
 have hap1 := fun ty k => hap ty ⟨g, j * 2, none⟩ k hcell
 have hap2 := fun (e : cap = j) ty k => hap ty ⟨g, 0, none⟩ k (hnil e)
 rw [← hW1]
 have hmixed : Tryz.prog.follows Departure.mixedOrders = true := by kernel_rfl
 have z1 : ¬ ((i : Int) = (j : Int)) := by omega
 have z2 : (0 : Int) ≤ (i : Int) := by omega
 have z3 : (i : Int) ≤ (j : Int) := by omega
 have z4 : (j : Int) ≤ (n : Int) := by omega
 have z5 : ¬ (cap = i + (n - j)) := by omega
 have z6 : i ≤ cap := by omega
 have z7 : j ≤ cap := by omega
 have z8 : i + (n - j) ≤ n := by omega
 have z9 : n ≤ cap := hnc
 have z10 : ¬ (n = i) := by omega
 clear hW1 hul ht hr1 hau hap hcell hnil h1 hti hzz hcap hrow
 by_cases hcj : cap = j
 ·have hap3 := hap2 hcj
  clear hap1 hap2 hWW
  subst hcj
  obtain rfl : n = cap := by omega
  simp only [Nat.sub_self, Nat.add_zero, Nat.zero_mul, List.take_zero, List.append_nil] at hap3 hcl z5 ⊢
  go_enter Tryz.func221, Tryz.ntmps221
  go_wp2_with fail
  go_region_law_o (refine step_app_run rfl (.tmp 22) (.tmp 25) 69 69 rfl (.slice (some ⟨g, 0, none⟩) i n) (.slice (some ⟨g, 0, none⟩) 0 0) (by simp [Act.eval, Act.put]) (by simp [Act.eval, Act.put]) (hap3 _ _) ?_)
  go_wp2_with (at_builtin; refine wp_clear_run _ rfl _ 69 rfl _ rfl (hcl _ _) ?_)
  go_ret
  exact ⟨rfl, by simp only [List.append_assoc]⟩
 ·clear hap2 hWW
  go_enter Tryz.func221, Tryz.ntmps221
  go_wp2_with fail
  go_region_law_o (refine step_app_run rfl (.tmp 22) (.tmp 25) 69 69 rfl (.slice (some ⟨g, 0, none⟩) i cap) (.slice (some ⟨g, j * 2, none⟩) (n - j) (cap - j)) (by simp [Act.eval, Act.put]) (by simp [Act.eval, Act.put]) (hap1 _ _) ?_)
  go_wp2_with (at_builtin; refine wp_clear_run _ rfl _ 69 rfl _ rfl (hcl _ _) ?_)
  go_ret
  exact ⟨rfl, by simp only [List.append_assoc]⟩
def f_slices_Delete (p0 : List G_api_Cell) (p1 p2 : Int) : Option (List G_api_Cell) := if 0 ≤ p1 ∧ p1 < p2 ∧ p2 ≤ p0.length then some (p0.take p1.toNat ++ p0.drop p2.toNat) else none
theorem c_slices_Delete {c0 : Cx} {G : Gm} {F : List En} {v0 : Value} {u0 : List Value} (p0 : List G_api_Cell) (p1 p2 : Int) (O0 : Own c0 G (es true R_api_Cell v0 101 u0 p0 :: F)) (h0 : OA R_api_Cell c0 v0 u0 p0) {r : List G_api_Cell} (H : f_slices_Delete p0 p1 p2 = some r) :
  Calls Tryz.prog 221 #[v0, .int .i64 p1, .int .i64 p2] c0.w (Post c0 fun c v => ∃ y1 : Value, ∃ y2 : List Value, Own c G (es true R_api_Cell y1 101 y2 r :: F) ∧ v = y1 ∧ OA R_api_Cell c y1 y2 r) := by
 unfold f_slices_Delete at H
 split at H
 ·rename_i hc
  obtain ⟨hc1, hc2, hc3⟩ := hc
  obtain ⟨i, rfl⟩ : ∃ i : Nat, p1 = (i : Int) := ⟨p1.toNat, by omega⟩
  obtain ⟨j, rfl⟩ : ∃ j : Nat, p2 = (j : Int) := ⟨p2.toNat, by omega⟩
  rw [Int.toNat_natCast, Int.toNat_natCast] at H
  obtain rfl := Option.some.inj H
  obtain ⟨g, cap, rfl, a1, a2, a3, a4⟩ := h0.some (by omega)
  have hsz : R_api_Cell.size = 2 := rfl
  have hon0 := O0.on 0 rfl g rfl
  have o0 := a4.ones (by decide)
  rw [hsz] at o0 a3
  unfold maxLen at a2
  have ht0 : (u0.take (i * 2)).length = i * 2 := by rw [List.length_take]; omega
  have htl : ((u0.drop (j * 2)).take ((p0.length - j) * 2)).length = (p0.length - j) * 2 := by rw [List.length_take, List.length_drop]; omega
  have hrl : (p0.take i ++ p0.drop j).length = i + (p0.length - j) := by
   rw [List.length_append, List.length_take, List.length_drop]
   omega
  have hAR : ∀ (c : Cx) (ts : List Value), c0.le c → AR R_api_Cell c (u0.take (i * 2) ++ (u0.drop (j * 2)).take ((p0.length - j) * 2) ++ ts) (p0.take i ++ p0.drop j) := fun c ts hle => by
   have k0 : AR R_api_Cell c (u0.take (i * 2)) (p0.take i) := (a4.take i).mono hle
   have k1 : AR R_api_Cell c ((u0.drop (j * 2)).take ((p0.length - j) * 2)) (p0.drop j) := by
    have := ((a4.drop j).take (p0.length - j)).mono hle
    rwa [List.take_of_length_le (l := p0.drop j) (by rw [List.length_drop]; exact Nat.le_refl _)] at this
   refine AR.more (AR.app k0 ?_ k1) ?_
   ·rw [ht0, List.length_take, Nat.min_eq_left (by omega), hsz]
   ·rw [hrl, hsz, List.length_append, ht0, htl]
    omega
  refine (del_run (vs := u0) hon0.1 (by omega) (by omega) a1 a3 (by omega) o0).mono ?_
  rintro e w' ⟨rfl, rfl⟩
  have hd := Cx.drew_le c0
  obtain ⟨c2, f1, f2, f3, f4⟩ := Cx.row (c := ⟨c0.w.drew, c0.A, c0.t⟩) (l := u0) (T := 101) (b := g) (m := u0.take (i * 2) ++ (u0.drop (j * 2)).take ((p0.length - j) * 2) ++ u0.drop ((i + (p0.length - j)) * 2)) hon0.1 0 hon0.2 (fun o ho => by omega) 0 (Nat.le_refl _)
  have O2 := Own.set (O0.keep hd) 0 rfl f2 (fun b hb => by rw [hb]; rfl) (e' := ⟨.slice (some ⟨g, 0, none⟩) p0.length cap, 101, u0.take (i * 2) ++ (u0.drop (j * 2)).take ((p0.length - j) * 2) ++ u0.drop ((i + (p0.length - j)) * 2), 0⟩) (fun b hb => by
   simp only [blk, Option.some.injEq] at hb
   subst hb
   exact ⟨f3, f4⟩) (fun b hb => .inl hb)
  obtain ⟨c3, g1, g2, g3, g4⟩ := Cx.row (c := c2) (m := u0.take (i * 2) ++ (u0.drop (j * 2)).take ((p0.length - j) * 2) ++ insZ (j - i) ++ u0.drop (p0.length * 2)) (T := 101) (b := g) f3 0 f4 (fun o ho => by omega) 0 (Nat.le_refl _)
  have O3 := Own.set O2 0 rfl g2 (fun b hb => by rw [hb]; rfl) (e' := es true R_api_Cell (.slice (some ⟨g, 0, none⟩) (i + (p0.length - j)) cap) 101 (u0.take (i * 2) ++ (u0.drop (j * 2)).take ((p0.length - j) * 2) ++ insZ (j - i) ++ u0.drop (p0.length * 2)) (p0.take i ++ p0.drop j)) (fun b hb => by
   simp only [es, blk, Option.some.injEq] at hb
   subst hb
   exact ⟨g3, g4⟩) (fun b hb => .inl hb)
  have hle := hd.le.trans (f2.le.trans g2.le)
  refine ⟨_, c3, rfl, by rw [g1, f1], hle, _, _, O3, rfl, by decide, .inr ⟨g, cap, by rw [hrl], by rw [hrl]; omega, by unfold maxLen; exact a2, ?_⟩, ?_⟩
  ·rw [hsz, List.length_append, List.length_append, List.length_append, ht0, htl, insZ_len, List.length_drop]
   omega
  ·rw [List.append_assoc]
   exact hAR c3 _ hle
 ·cases H
end Go.Proofs.YthokmpbbkpjhbaaGreatDoor
namespace Go.Proofs.YthokmpbbkpjhbaaGreatDoor
open Go Go.Lt
set_option maxRecDepth 10000
set_option linter.unusedVariables false
attribute [local irreducible] W WL AC
open Tryz
variable {c0 : Cx} {G : Gm} {F : List En} {sg : Sto} {v1 v2 v3 v4 v5 v6 v7 v8 v9 v10 v11 v12 v13 v14 v15 v16 v17 v18 v19 v20 v21 v22 v23 v24 v25 v26 v27 v28 v29 v30 v31 v32 v33 v34 v35 v36 v37 v38 v39 v40 v41 v42 v43 v44 v45 v46 v47 v48 v49 v50 v51 v52 v53 v54 v55 v56 v57 v58 v59 v60 : Value}
def f_shift_Insert_1 (p0 : List G_api_Cell) (p1 : Int) (q0_0 : Int) : Option (List G_api_Cell) :=
 (f_cell_Blanks p1).bind fun c =>
 (f_slices_Insert p0 q0_0 c).bind fun d =>
 (slc d 0 (p0.length : Int)).bind fun a =>
 ((idx a (w64 ((p0.length : Int) - 1))).bind fun e =>
 if (e.Kind == 2) = true then
 (idx a (w64 ((p0.length : Int) - 1))).bind fun g =>
 (sets a (w64 ((p0.length : Int) - 1)) (⟨0, ([] : List Int)⟩ : G_api_Cell)).bind fun b =>
 some (b)
 else
 some (a)).bind fun f =>
 some f
theorem c_shift_Insert_1 {e : Value} {q : List Value} {p : Nat} (b : List G_api_Cell) (o : Int) (q0_0 : Int) (O0 : Own c0 G (es true R_api_Cell e 101 q b :: F)) {r : List G_api_Cell} (S : OA R_api_Cell c0 e q b) (m2 : ∀ j u, ([I q0_0] : List Value)[j]? = some u → Im c0 p (0 + j) u) (H : f_shift_Insert_1 b o q0_0 = some r) :
    Calls prog 217 #[e, I o, Q p] c0.w (Post c0 fun c v => ∃ t y2, Own c G (es true R_api_Cell t 101 y2 r :: F) ∧ v = t ∧ OA R_api_Cell c t y2 r) := by
 unfold f_shift_Insert_1 at H
 refine en func217 rfl rfl (sr (va (Y) (wln (sr (va (e) (vx (lnO 3 underlying69 S) (va (I (b.length : Int)) (wln (W.seq (rD [] (Kp G0 []) O0 ?_))))))))))
 intro c3 l3 O4
 have p5 : Kp G0 [] c3 := Kp.nil0
 refine ta 0 (e) (tx 1 (fun c' i0 => l1 underlying3 ((mm m2) 0 _ rfl)) (ta 2 (I o) (ta 5 (I (b.length : Int)) (bn H fun s h6 H => o1 3 (gc 3 (c_cell_Blanks O4 o h6) ?_)))))
 rintro v7 M g1 ⟨_, u8, y, rfl, h9⟩
 have k0 : Kp G0 [] M := Kp.nil0
 refine ⟨.inr k0, ?_⟩
 have z := y.sD 2 [1, 0]
 refine bn H fun b1 U H => o1 4 (gc 4 (c_slices_Insert b q0_0 s z S.m h9 U) ?_)
 rintro v19 h i1 ⟨_, m0, A, rfl, X⟩
 have l0 : Kp G0 [] h := Kp.nil0
 refine ⟨.inr l0, bn H fun c1 Z H => ?_⟩
 obtain ⟨v30, a0, g, d⟩ := Own.cutH (k' := .i64) 0 A rfl underlying69 X (by kernel_rfl) Z
 refine AC.take 6 (v30) rfl (by kernel_rfl) (by kernel_rfl) (fun c' i0 => (rx (by kernel_rfl) (a0 _))) (ta 7 (v30) (dn (nrm (bn H fun n a x => W.seqJ (Jn h fun c l => ∃ v36 f, Own c G (es true R_api_Cell v36 101 f n :: F) ∧ l = [(0, v36)] ∧ OA R_api_Cell c v36 f n) ?_ ?_))))
 ·refine sr (va (v30) (va (I (b.length : Int)) (va (I (w64 ((b.length : Int) - 1))) (bn a fun k i a => vx (ixO underlying69 d i) (va (.pointer (some ⟨sb v30, (w64 ((b.length : Int) - 1)).toNat * 2, none⟩)) ?_)))))
  obtain ⟨y0, b0, j0⟩ := OA.at d i
  obtain ⟨v42, rfl, f1⟩ := b0
  refine vr (I k.Kind) (rx (by kernel_rfl) (ldE1 underlying3 rfl (g.on 0 rfl) (d.blk i) (at1 (j := 0) j0 rfl))) (va (B (k.Kind == 2)) (wln (cn a (fun d0 a => ?_) (fun d0 a => ?_))))
  ·refine W.region (va (v30) (va (I (b.length : Int)) (va (I (w64 ((b.length : Int) - 1))) (va (.agg #[I 0, Y]) (bn a fun d1 e0 a => vx (ixO underlying69 d e0) (bn a fun a1 f0 a => md (Own.stW (R := R_api_Cell) (T := 101) (us := [I 0, Y]) (x' := (⟨0, ([] : List Int)⟩ : G_api_Cell)) (u := .agg #[I 0, Y]) 0 g (by kernel_rfl) rfl d f0 rfl (by kernel_rfl) ⟨rfl, rfl, trivial⟩ rfl ⟨(Y), rfl, (Sl.nl _ _)⟩) ?_))))))
   rintro N j1 ⟨o0, D, g0⟩
   refine wln ?_
   obtain rfl := si a
   exact ⟨N, _, _, rfl, pt, us, v30, o0, D, rfl, g0⟩
  refine W.skip (nrm ?_)
  obtain rfl := si a
  exact ⟨h, _, _, rfl, pt, us, v30, m0, g, rfl, d⟩
 rintro e_ w_ ⟨P, e1, _, rfl, k1, rfl, v36, f, E, rfl, h0⟩
 refine sr (va (v36) (va (v36) (wln (W.ret ?_))))
 obtain rfl := si x
 exact r1 ⟨_, P, rfl, rfl, pt, v36, f, E, rfl, h0⟩
def f_shift_tear (p0 : List G_api_Cell) (p1 : Int) : Option (List G_api_Cell) :=
 (andE (decide (p1 < (p0.length : Int))) ((idx p0 p1).bind fun d =>
 some (d.Kind == 3))).bind fun c =>
 if c = true then
 (idx p0 (w64 (p1 - 1))).bind fun e =>
 (sets p0 (w64 (p1 - 1)) (⟨0, ([] : List Int)⟩ : G_api_Cell)).bind fun a =>
 (idx a p1).bind fun f =>
 (sets a p1 (⟨0, ([] : List Int)⟩ : G_api_Cell)).bind fun b =>
 some b
 else
 some p0
theorem c_shift_tear {a : Value} {e : List Value} (f : List G_api_Cell) (b : Int) (o : Own c0 G (es true R_api_Cell a 101 e f :: F)) {r : List G_api_Cell} (d : OA R_api_Cell c0 a e f) (H : f_shift_tear f b = some r) :
    Calls prog 220 #[a, I b] c0.w (Post c0 fun c v => ∃ U, Own c G (es true R_api_Cell a 101 U r :: F) ∧ v = .tuple #[] ∧ OA R_api_Cell c a U r) := by
 unfold f_shift_tear at H
 refine en func220 rfl rfl (W.seq (bn H fun y E H => W.join (Jn c0 fun c l => Own c G (es true R_api_Cell a 101 e f :: F) ∧ l = [(0, a), (1, I b), (15, B y)]) ?_ ?_))
 ·clear H
  refine W.region (va (I b) (va (a) (vx (lnO 3 underlying69 d) (va (B (decide (b < (f.length : Int)))) ?_))))
  rcases bo (decide (b < (f.length : Int))) with g | g
  ·have n := anT g E
   refine vb g (wn (va (a) (wn (va (I b) (wn (bn n fun h p n => vx (ixO underlying69 d p) (wn (va (.pointer (some ⟨sb a, b.toNat * 2, none⟩)) (wn ?_)))))))))
   obtain ⟨l0, X, Z⟩ := OA.at d p
   obtain ⟨v9, rfl, h0⟩ := X
   refine vr (I h.Kind) (rx (by kernel_rfl) (ldE1 underlying3 rfl (o.on 0 rfl) (d.blk p) (at1 (j := 0) Z rfl))) (wn (va (B (h.Kind == 3)) ?_))
   obtain rfl := si n
   exact va (B (h.Kind == 3)) (wln ⟨c0, _, _, rfl, pt, us, o, rfl⟩)
  obtain rfl := anF g E
  exact vb g (ps (ps (ps (ps (ps (ps (va (B false) (wln ⟨c0, _, _, rfl, pt, us, o, rfl⟩))))))))
 rintro e_ w_ ⟨t, g0, _, rfl, i0, rfl, i, rfl⟩
 refine nrm (cn H (fun z H => ?_) (fun z H => ?_))
 ·refine W.region (va (a) (va (I b) (va (I (w64 (b - 1))) (va (a) (va (I b) (va (.agg #[I 0, Y]) (va (.agg #[I 0, Y]) (bn H fun d0 A H => vx (ixO underlying69 d.m A) (bn H fun a0 D H => md (Own.stW (R := R_api_Cell) (T := 101) (us := [I 0, Y]) (x' := (⟨0, ([] : List Int)⟩ : G_api_Cell)) (u := .agg #[I 0, Y]) 0 i (by kernel_rfl) rfl d.m D rfl (by kernel_rfl) ⟨rfl, rfl, trivial⟩ rfl ⟨(Y), rfl, (Sl.nl _ _)⟩) ?_)))))))))
  rintro f0 j0 ⟨m0, q, k⟩
  refine bn H fun e0 M H => vx (ixO underlying69 k M) (bn H fun b0 N H => md (Own.stW (R := R_api_Cell) (T := 101) (us := [I 0, Y]) (x' := (⟨0, ([] : List Int)⟩ : G_api_Cell)) (u := .agg #[I 0, Y]) 0 q (by kernel_rfl) rfl k N rfl (by kernel_rfl) ⟨rfl, rfl, trivial⟩ rfl ⟨(Y), rfl, (Sl.nl _ _)⟩) ?_)
  rintro x k0 ⟨S, s, P⟩
  refine WL.nil ?_
  obtain rfl := si H
  exact n0 ⟨_, x, rfl, rfl, pt, S, s, rfl, P⟩
 refine W.skip ?_
 obtain rfl := si H
 exact n0 ⟨_, t, rfl, rfl, pt, e, i, rfl, d.m⟩
def f_shift_turns__shift_Insert_1 (sg : Sto) (p0 : Option Nat) (p1 : Int) (p2 : Int) (p3_0_0 : Int) : Option (Sto) :=
 (f_row_Row_Wide sg p0).bind fun a =>
 (orE (decide (p1 < 0)) (some (decide (p1 ≥ a)))).bind fun g =>
 (orE g (some (decide (p2 < 1)))).bind fun b =>
 if b = true then
 some sg
 else
 (f_row_Row_Cells sg p0).bind fun c =>
 (f_shift_tear c p1).bind fun d =>
 (f_shift_Insert_1 d (imin p2 (w64 (a - p1))) p3_0_0).bind fun e =>
 (f_row_Row_Paint sg p0 0 e).bind fun f =>
 some f.1
theorem c_shift_turns__shift_Insert_1 {b3_0 : Nat} (O0 : Own c0 G F) (i : Rel c0 sg G) (hG : Gl [0, 4] c0) (h : Option Nat) (a : Int) (d : Int) (p3_0_0 : Int) {r : Sto} (t : Pt 0 c0 v1 h) (m3 : ∀ j u, ([I p3_0_0] : List Value)[j]? = some u → Im c0 b3_0 (0 + j) u) (H : f_shift_turns__shift_Insert_1 sg h a d p3_0_0 = some r) :
    Calls prog 216 #[v1, I a, I d, .func (.func 217) #[] #[Q b3_0]] c0.w (Post c0 fun c v => ∃ G_ : Gm, Own c G_ (F) ∧ Rel c r G_ ∧ v = .tuple #[]) := by
 unfold f_shift_turns__shift_Insert_1 at H
 refine en func216 rfl rfl (sr (va (v1) (bn H fun b h4 H => cl (c_row_Row_Wide O0 i h t h4) ?_)))
 rintro v10 k l9 ⟨q, rfl⟩
 refine va (I b) (wln (W.seq (W.seq (bn H fun w0 o H => bn H fun s g H => W.join (Jn k fun c l => Own c G (F) ∧ l = [(0, v1), (1, I a), (2, I d), (3, .func (.func 217) #[] #[Q b3_0]), (8, I b), (22, B s)]) ?_ ?_))))
 ·clear H
  refine W.region (va (I a) (va (B (decide (a < 0))) ?_))
  rcases bo (decide (a < 0)) with e | e
  ·obtain rfl := orT e o
   refine vb e (ps (ps (ps (va (B true) ?_))))
   have p : true = true := rfl
   obtain rfl := orT p g
   exact vb p (ps (ps (va (B true) (wln ⟨k, _, _, rfl, pt, us, q, rfl⟩))))
  have D := orF e o
  refine vb e (wn (va (I a) (wn (va (I b) (wn (va (B (decide (a ≥ b))) ?_))))))
  obtain rfl := si D
  refine va (B (decide (a ≥ b))) ?_
  rcases bo (decide (a ≥ b)) with f | f
  ·obtain rfl := orT f g
   exact vb f (ps (ps (va (B true) (wln ⟨k, _, _, rfl, pt, us, q, rfl⟩))))
  have E := orF f g
  refine vb f (wn (va (I d) (wn (va (B (decide (d < 1))) ?_))))
  obtain rfl := si E
  exact va (B (decide (d < 1))) (wln ⟨k, _, _, rfl, pt, us, q, rfl⟩)
 rintro e_ w_ ⟨X, x0, _, rfl, z0, rfl, n, rfl⟩
 refine nrm (cn H (fun a0 H => ?_) (fun a0 H => ?_))
 ·refine W.ret (thr ?_)
  obtain rfl := si H
  exact r0 ⟨_, X, rfl, rfl, pt, G, n, i.m, rfl⟩
 refine W.skip (nrm (sr (va (v1) (bn H fun x b0 H => cl (c_row_Row_Cells n i.m h t.m b0) ?_))))
 rintro v26 s0 a1 ⟨_, f1, M, rfl, d0⟩
 refine va (v26) (wln (sr (va (v26) (va (I a) (bn H fun y e0 H => cl (c_shift_tear x a M d0 e0) ?_)))))
 rintro v44 t0 b1 ⟨g1, N, rfl, f0⟩
 refine wln (W.region (va (v1) (va (.func (.func 217) #[] #[Q b3_0]) (va (v26) (va (I d) (va (I b) (va (I a) (va (I (w64 (b - a))) (va (I (imin d (w64 (b - a)))) (bn H fun z g0 H => cl (c_shift_Insert_1 y (imin d (w64 (b - a))) p3_0_0 N f0 (mm m3) g0) ?_))))))))))
 rintro v47 u0 c1 ⟨_, h1, P, rfl, h0⟩
 obtain ⟨v0, j0, d1, R, i0⟩ := P.frz 0 rfl h0
 refine WL.gh j0 (bn H fun q0 k0 H => cl (c_row_Row_Paint R i.m (hG.m.le (by decide)) h 0 z t.m i0 k0) ?_)
 rintro i1 Z e1 ⟨_, A, S, U, rfl, y0⟩
 refine WL.nil ?_
 obtain rfl := si H
 have T := S.sD 1 []
 exact n0 ⟨_, Z, rfl, rfl, pt, A, T, U, rfl⟩
def f_shift_Insert (sg : Sto) (p0 : Option Nat) (p1 : Int) (p2 : Int) : Option (Sto) :=
 (f_shift_turns__shift_Insert_1 sg p0 p1 p2 p1).bind fun a =>
 some a
theorem c_shift_Insert (j : Own c0 G F) (l : Rel c0 sg G) (hG : Gl [0, 4] c0) (d : Option Nat) (a : Int) (b : Int) {r : Sto} (o : Pt 0 c0 v1 d) (H : f_shift_Insert sg d a b = some r) :
    Calls prog 177 #[v1, I a, I b] c0.w (Post c0 fun c v => ∃ G_ : Gm, Own c G_ (F) ∧ Rel c r G_ ∧ v = .tuple #[]) := by
 unfold f_shift_Insert at H
 refine en func177 rfl rfl (sr (me (bx 3 [I a] j) ?_))
 rintro v7 t u ⟨n, rfl, k, h⟩
 refine wln (W.region (va (v1) (vx (l1 underlying3 (h 0 _ rfl)) (va (I b) (va (.func (.func 217) #[] #[Q n]) (bn H fun s p H => cl (c_shift_turns__shift_Insert_1 k l.m (hG.m.le (by decide)) d a b a o.m h p) ?_))))))
 rintro v14 g q ⟨i, e, f, rfl⟩
 refine WL.nil ?_
 obtain rfl := si H
 exact n0 ⟨_, g, rfl, rfl, pt, i, e, f, rfl⟩
def f_shift_Delete_1 (p0 : List G_api_Cell) (p1 : Int) (q0_0 : Int) : Option (List G_api_Cell) :=
 (f_shift_tear p0 (w64 (q0_0 + p1))).bind fun d =>
 (f_slices_Delete d q0_0 (w64 (q0_0 + p1))).bind fun a =>
 (f_cell_Blanks p1).bind fun b =>
 (app a b).bind fun c =>
 some c
theorem c_shift_Delete_1 {b : Value} {f : List Value} {e : Nat} (d : List G_api_Cell) (a : Int) (q0_0 : Int) (P : Own c0 G (es true R_api_Cell b 101 f d :: F)) {r : List G_api_Cell} (S : OA R_api_Cell c0 b f d) (g : ∀ j u, ([I q0_0] : List Value)[j]? = some u → Im c0 e (0 + j) u) (H : f_shift_Delete_1 d a q0_0 = some r) :
    Calls prog 219 #[b, I a, Q e] c0.w (Post c0 fun c v => ∃ h N, Own c G (es true R_api_Cell h 101 N r :: F) ∧ v = h ∧ OA R_api_Cell c h N r) := by
 unfold f_shift_Delete_1 at H
 refine en func219 rfl rfl (sr (va (Y) (wln (sr (va (b) (vx (l1 underlying3 (g 0 _ rfl)) (va (I a) (va (I (w64 (q0_0 + a))) (bn H fun M T H => cl (c_shift_tear d (w64 (q0_0 + a)) P S T) ?_)))))))))
 rintro v12 b0 g0 ⟨u5, R, rfl, U⟩
 refine wln (sr (va (b) (vx (l1 underlying3 ((mm g) 0 _ rfl)) (vx (l1 underlying3 ((mm g) 0 _ rfl)) (va (I a) (va (I (w64 (q0_0 + a))) (bn H fun X q H => cl (c_slices_Delete M q0_0 (w64 (q0_0 + a)) R U q) ?_)))))))
 rintro v15 d0 h0 ⟨_, l0, i, rfl, s⟩
 refine va (I a) (bn H fun Z t H => cl (c_cell_Blanks i a t) ?_)
 rintro v25 e0 i0 ⟨_, m0, k, rfl, x⟩
 obtain ⟨f0, z, j0, l, y⟩ := k.frz 0 rfl x
 refine WL.gh z (bn H fun a0 A H => me (ap R_api_Cell (.agg #[I 0, Y]) 32 69 1 l s.m y A underlying69) ?_)
 rintro v43 p k0 ⟨E, n, D⟩
 refine va (v43) (wln (W.ret ?_))
 obtain rfl := si H
 have o := n.sD 2 [1]
 exact r1 ⟨_, p, rfl, rfl, pt, v43, E, o, rfl, D⟩
def f_shift_turns__shift_Delete_1 (sg : Sto) (p0 : Option Nat) (p1 : Int) (p2 : Int) (p3_0_0 : Int) : Option (Sto) :=
 (f_row_Row_Wide sg p0).bind fun a =>
 (orE (decide (p1 < 0)) (some (decide (p1 ≥ a)))).bind fun g =>
 (orE g (some (decide (p2 < 1)))).bind fun b =>
 if b = true then
 some sg
 else
 (f_row_Row_Cells sg p0).bind fun c =>
 (f_shift_tear c p1).bind fun d =>
 (f_shift_Delete_1 d (imin p2 (w64 (a - p1))) p3_0_0).bind fun e =>
 (f_row_Row_Paint sg p0 0 e).bind fun f =>
 some f.1
theorem c_shift_turns__shift_Delete_1 {b3_0 : Nat} (O0 : Own c0 G F) (i : Rel c0 sg G) (hG : Gl [0, 4] c0) (h : Option Nat) (a : Int) (d : Int) (p3_0_0 : Int) {r : Sto} (t : Pt 0 c0 v1 h) (m3 : ∀ j u, ([I p3_0_0] : List Value)[j]? = some u → Im c0 b3_0 (0 + j) u) (H : f_shift_turns__shift_Delete_1 sg h a d p3_0_0 = some r) :
    Calls prog 216 #[v1, I a, I d, .func (.func 219) #[] #[Q b3_0]] c0.w (Post c0 fun c v => ∃ G_ : Gm, Own c G_ (F) ∧ Rel c r G_ ∧ v = .tuple #[]) := by
 unfold f_shift_turns__shift_Delete_1 at H
 refine en func216 rfl rfl (sr (va (v1) (bn H fun b h4 H => cl (c_row_Row_Wide O0 i h t h4) ?_)))
 rintro v10 k l9 ⟨q, rfl⟩
 refine va (I b) (wln (W.seq (W.seq (bn H fun w0 o H => bn H fun s g H => W.join (Jn k fun c l => Own c G (F) ∧ l = [(0, v1), (1, I a), (2, I d), (3, .func (.func 219) #[] #[Q b3_0]), (8, I b), (22, B s)]) ?_ ?_))))
 ·clear H
  refine W.region (va (I a) (va (B (decide (a < 0))) ?_))
  rcases bo (decide (a < 0)) with e | e
  ·obtain rfl := orT e o
   refine vb e (ps (ps (ps (va (B true) ?_))))
   have p : true = true := rfl
   obtain rfl := orT p g
   exact vb p (ps (ps (va (B true) (wln ⟨k, _, _, rfl, pt, us, q, rfl⟩))))
  have D := orF e o
  refine vb e (wn (va (I a) (wn (va (I b) (wn (va (B (decide (a ≥ b))) ?_))))))
  obtain rfl := si D
  refine va (B (decide (a ≥ b))) ?_
  rcases bo (decide (a ≥ b)) with f | f
  ·obtain rfl := orT f g
   exact vb f (ps (ps (va (B true) (wln ⟨k, _, _, rfl, pt, us, q, rfl⟩))))
  have E := orF f g
  refine vb f (wn (va (I d) (wn (va (B (decide (d < 1))) ?_))))
  obtain rfl := si E
  exact va (B (decide (d < 1))) (wln ⟨k, _, _, rfl, pt, us, q, rfl⟩)
 rintro e_ w_ ⟨X, x0, _, rfl, z0, rfl, n, rfl⟩
 refine nrm (cn H (fun a0 H => ?_) (fun a0 H => ?_))
 ·refine W.ret (thr ?_)
  obtain rfl := si H
  exact r0 ⟨_, X, rfl, rfl, pt, G, n, i.m, rfl⟩
 refine W.skip (nrm (sr (va (v1) (bn H fun x b0 H => cl (c_row_Row_Cells n i.m h t.m b0) ?_))))
 rintro v26 s0 a1 ⟨_, f1, M, rfl, d0⟩
 refine va (v26) (wln (sr (va (v26) (va (I a) (bn H fun y e0 H => cl (c_shift_tear x a M d0 e0) ?_)))))
 rintro v44 t0 b1 ⟨g1, N, rfl, f0⟩
 refine wln (W.region (va (v1) (va (.func (.func 219) #[] #[Q b3_0]) (va (v26) (va (I d) (va (I b) (va (I a) (va (I (w64 (b - a))) (va (I (imin d (w64 (b - a)))) (bn H fun z g0 H => cl (c_shift_Delete_1 y (imin d (w64 (b - a))) p3_0_0 N f0 (mm m3) g0) ?_))))))))))
 rintro v47 u0 c1 ⟨_, h1, P, rfl, h0⟩
 obtain ⟨v0, j0, d1, R, i0⟩ := P.frz 0 rfl h0
 refine WL.gh j0 (bn H fun q0 k0 H => cl (c_row_Row_Paint R i.m (hG.m.le (by decide)) h 0 z t.m i0 k0) ?_)
 rintro i1 Z e1 ⟨_, A, S, U, rfl, y0⟩
 refine WL.nil ?_
 obtain rfl := si H
 have T := S.sD 1 []
 exact n0 ⟨_, Z, rfl, rfl, pt, A, T, U, rfl⟩
def f_shift_Delete (sg : Sto) (p0 : Option Nat) (p1 : Int) (p2 : Int) : Option (Sto) :=
 (f_shift_turns__shift_Delete_1 sg p0 p1 p2 p1).bind fun a =>
 some a
theorem c_shift_Delete (j : Own c0 G F) (l : Rel c0 sg G) (hG : Gl [0, 4] c0) (d : Option Nat) (a : Int) (b : Int) {r : Sto} (o : Pt 0 c0 v1 d) (H : f_shift_Delete sg d a b = some r) :
    Calls prog 178 #[v1, I a, I b] c0.w (Post c0 fun c v => ∃ G_ : Gm, Own c G_ (F) ∧ Rel c r G_ ∧ v = .tuple #[]) := by
 unfold f_shift_Delete at H
 refine en func178 rfl rfl (sr (me (bx 3 [I a] j) ?_))
 rintro v7 t u ⟨n, rfl, k, h⟩
 refine wln (W.region (va (v1) (vx (l1 underlying3 (h 0 _ rfl)) (va (I b) (va (.func (.func 219) #[] #[Q n]) (bn H fun s p H => cl (c_shift_turns__shift_Delete_1 k l.m (hG.m.le (by decide)) d a b a o.m h p) ?_))))))
 rintro v14 g q ⟨i, e, f, rfl⟩
 refine WL.nil ?_
 obtain rfl := si H
 exact n0 ⟨_, g, rfl, rfl, pt, i, e, f, rfl⟩
def f_linotyperef27_torn (p0 : List G_api_Cell) (p1 : Int) : Option (List G_api_Cell) :=
 (iter (σ := (List G_api_Cell) × Int) (τ := (List G_api_Cell)) (((p0.length : Int) - 0).toNat + 1) (fun a =>
 if (decide (a.2 < (p0.length : Int))) = true then
 (idx p0 a.2).bind fun b =>
 ((andE (decide (p1 < (p0.length : Int))) ((idx p0 p1).bind fun g =>
 some (g.Kind == 3))).bind fun d =>
 (andE d ((orE (a.2 == p1) (some ((w64 (a.2 + 1)) == p1))).bind fun f =>
 some f)).bind fun e =>
 if e = true then
 some (0, ([] : List Int))
 else
 some (b.Kind, b.Text)).bind fun c =>
 (app a.1 ([(⟨c.1, c.2⟩ : G_api_Cell)] : List G_api_Cell)).bind fun h =>
 some (.inl (h, (w64 (a.2 + 1))))
 else
 some (.inr (a.1))) (([] : List G_api_Cell), 0)).bind fun i =>
 some i
def f_linotyperef27_Insert (p0 : List G_api_Cell) (p1 : Int) (p2 : Int) : Option ((List G_api_Cell) × Bool) :=
 (orE (decide (p1 < 0)) (some (decide (p1 ≥ (p0.length : Int))))).bind fun l =>
 (orE l (some (decide (p2 < 1)))).bind fun h =>
 if h = true then
 some (p0, false)
 else
 (f_linotyperef27_torn p0 p1).bind fun c =>
 (iter (σ := (List G_api_Cell) × Int) (τ := (List G_api_Cell)) (((p0.length : Int) - 0).toNat + 1) (fun a =>
 if (decide (a.2 < (p0.length : Int))) = true then
 (if (decide (a.2 < p1)) = true then
 (idx c a.2).bind fun d =>
 some (d.Kind, d.Text)
 else
 some (0, ([] : List Int))).bind fun f =>
 (if (decide (a.2 ≥ (w64 (p1 + (imin p2 (w64 ((p0.length : Int) - p1))))))) = true then
 (idx c (w64 (a.2 - (imin p2 (w64 ((p0.length : Int) - p1)))))).bind fun e =>
 some (e.Kind, e.Text)
 else
 some (f.1, f.2)).bind fun b =>
 ((andE ((w64 (a.2 + 1)) == (p0.length : Int)) (some (b.1 == 2))).bind fun i =>
 if i = true then
 some (0, ([] : List Int))
 else
 some (b.1, b.2)).bind fun g =>
 (app a.1 ([(⟨g.1, g.2⟩ : G_api_Cell)] : List G_api_Cell)).bind fun k =>
 some (.inl (k, (w64 (a.2 + 1))))
 else
 some (.inr (a.1))) (([] : List G_api_Cell), 0)).bind fun j =>
 some (j, true)
def f_linotyperef27_Delete (p0 : List G_api_Cell) (p1 : Int) (p2 : Int) : Option ((List G_api_Cell) × Bool) :=
 (orE (decide (p1 < 0)) (some (decide (p1 ≥ (p0.length : Int))))).bind fun j =>
 (orE j (some (decide (p2 < 1)))).bind fun f =>
 if f = true then
 some (p0, false)
 else
 (f_linotyperef27_torn p0 p1).bind fun h =>
 (f_linotyperef27_torn h (w64 (p1 + (imin p2 (w64 ((p0.length : Int) - p1)))))).bind fun b =>
 (iter (σ := (List G_api_Cell) × Int) (τ := (List G_api_Cell)) (((p0.length : Int) - 0).toNat + 1) (fun a =>
 if (decide (a.2 < (p0.length : Int))) = true then
 (if (decide (a.2 < p1)) = true then
 (idx b a.2).bind fun c =>
 some (c.Kind, c.Text)
 else
 if (decide ((w64 (a.2 + (imin p2 (w64 ((p0.length : Int) - p1))))) < (p0.length : Int))) = true then
 (idx b (w64 (a.2 + (imin p2 (w64 ((p0.length : Int) - p1)))))).bind fun d =>
 some (d.Kind, d.Text)
 else
 some (0, ([] : List Int))).bind fun e =>
 (app a.1 ([(⟨e.1, e.2⟩ : G_api_Cell)] : List G_api_Cell)).bind fun i =>
 some (.inl (i, (w64 (a.2 + 1))))
 else
 some (.inr (a.1))) (([] : List G_api_Cell), 0)).bind fun g =>
 some (g, true)
def f_cursor_Move (p0 : Int) (p1 : Int) (p2 : Int) (p3 : Int) : Option (G_api_Cursor) :=
 (f_cursor_Hold (⟨p0, p1, false⟩ : G_api_Cursor) p2 p3).bind fun a =>
 some a
theorem c_cursor_Move (j : Own c0 G F) (b : Int) (d : Int) (e : Int) (f : Int) {r : G_api_Cursor} (H : f_cursor_Move b d e f = some r) :
    Calls prog 173 #[I b, I d, I e, I f] c0.w (Post c0 fun c v => Own c G (F) ∧ v = .agg #[I r.Row, I r.Col, B r.Pending]) := by
 unfold f_cursor_Move at H
 refine en func173 rfl rfl (sr (me (al 24 [I 0, I 0, B false] j) ?_))
 rintro v4 s t ⟨q, rfl, k⟩
 refine wln (sr (va (I b) (va (I d) (va (.agg #[I b, I d, B false]) (va (I e) (va (I f) (bn H fun a m H => cl (c_cursor_Hold k (⟨b, d, false⟩ : G_api_Cursor) e f m) ?_)))))))
 rintro v11 n o ⟨l, rfl⟩
 refine md (sA 24 [I a.Row, I a.Col, B a.Pending] 0 l ⟨rfl, rfl, rfl, trivial⟩) ?_
 rintro h p g
 refine wln (W.ret ?_)
 obtain rfl := si H
 have i := g.sD 1 []
 exact retC (c := h) (vs := [I a.Row, I a.Col, B a.Pending]) rfl (by kernel_rfl) (by kernel_rfl) (by kernel_rfl) (g.on 0 rfl _ rfl).1 ⟨_, h, rfl, rfl, pt, i, rfl⟩
def f_fit_cut (p0 : List G_api_Cell) (p1 : Int) : Option (List G_api_Cell) :=
 (slc p0 0 p1).bind fun a =>
 ((andE (decide (p1 > 0)) ((idx a (w64 (p1 - 1))).bind fun d =>
 some (d.Kind == 2))).bind fun b =>
 if b = true then
 (idx a (w64 (p1 - 1))).bind fun f =>
 (sets a (w64 (p1 - 1)) (⟨0, ([] : List Int)⟩ : G_api_Cell)).bind fun c =>
 some (c)
 else
 some (a)).bind fun e =>
 some e
theorem c_fit_cut {h : Value} {f : List Value} (x : List G_api_Cell) (a : Int) (O0 : Own c0 G (es true R_api_Cell h 101 f x :: F)) {r : List G_api_Cell} (h1 : OA R_api_Cell c0 h f x) (H : f_fit_cut x a = some r) :
    Calls prog 239 #[h, I a] c0.w (Post c0 fun c v => ∃ y y2, Own c G (es true R_api_Cell y 101 y2 r :: F) ∧ v = y ∧ OA R_api_Cell c y y2 r) := by
 unfold f_fit_cut at H
 refine en func239 rfl rfl (sr (va (Y) (wln (sr (va (h) (va (I a) (va (I a) (bn H fun d0 h2 H => ?_))))))))
 obtain ⟨v3, h4, s, i⟩ := Own.cutHM (k2 := .i64) (k' := .i64) 0 O0 rfl underlying69 h1 (by kernel_rfl) h2
 refine vr v3 (rx (by kernel_rfl) (h4 _)) (va (v3) (wln (bn H fun q b H8 => W.seqJ (Jn c0 fun c l => ∃ v9 g, Own c G (es true R_api_Cell v9 101 g q :: F) ∧ l = [(0, v9)] ∧ OA R_api_Cell c v9 g q) ?_ ?_)))
 ·refine W.seq (bn b fun t p b => W.join (Jn c0 fun c l => Own c G (es true R_api_Cell v3 101 f d0 :: F) ∧ l = [(0, v3), (1, I a), (19, B t)]) ?_ ?_)
  ·clear b
   refine W.region (va (I a) (va (B (decide (a > 0))) ?_))
   rcases bo (decide (a > 0)) with d | d
   ·have k := anT d p
    refine vb d (wn (va (v3) (wn (va (I a) (wn (va (I (w64 (a - 1))) (wn (bn k fun e n k => vx (ixO underlying69 i n) (wn (va (.pointer (some ⟨sb v3, (w64 (a - 1)).toNat * 2, none⟩)) (wn ?_)))))))))))
    obtain ⟨l0, N, a0⟩ := OA.at i n
    obtain ⟨v18, rfl, u0⟩ := N
    refine vr (I e.Kind) (rx (by kernel_rfl) (ldE1 underlying3 rfl (s.on 0 rfl) (i.blk n) (at1 (j := 0) a0 rfl))) (wn (va (B (e.Kind == 2)) ?_))
    obtain rfl := si k
    exact va (B (e.Kind == 2)) (wln ⟨c0, _, _, rfl, pt, us, s, rfl⟩)
   obtain rfl := anF d p
   exact vb d (ps (ps (ps (ps (ps (ps (ps (va (B false) (wln ⟨c0, _, _, rfl, pt, us, s, rfl⟩)))))))))
  rintro e_ w_ ⟨D, s0, _, rfl, v0, rfl, o, rfl⟩
  refine nrm (cn b (fun P b => ?_) (fun P b => ?_))
  ·refine W.region (va (v3) (va (I a) (va (I (w64 (a - 1))) (va (.agg #[I 0, Y]) (bn b fun q0 S b => vx (ixO underlying69 i.m S) (bn b fun o0 U b => md (Own.stW (R := R_api_Cell) (T := 101) (us := [I 0, Y]) (x' := (⟨0, ([] : List Int)⟩ : G_api_Cell)) (u := .agg #[I 0, Y]) 0 o (by kernel_rfl) rfl i.m U rfl (by kernel_rfl) ⟨rfl, rfl, trivial⟩ rfl ⟨(Y), rfl, (Sl.nl _ _)⟩) ?_))))))
   rintro E w0 ⟨b0, z, X⟩
   refine wln ?_
   obtain rfl := si b
   exact ⟨E, _, _, rfl, pt, us, v3, b0, z, rfl, X⟩
  refine W.skip (nrm ?_)
  obtain rfl := si b
  exact ⟨D, _, _, rfl, pt, us, v3, f, o, rfl, i.m⟩
 rintro e_ w_ ⟨M, t0, _, rfl, x0, rfl, v9, g, A, rfl, Z⟩
 refine sr (va (v9) (va (v9) (wln (W.ret ?_))))
 obtain rfl := si H8
 exact r1 ⟨_, M, rfl, rfl, pt, v9, g, A, rfl, Z⟩
def f_fit_of (sg : Sto) (p0 : List G_api_Cell) : Option (Sto × (Option Nat)) :=
 (f_row_Of sg p0).bind fun a =>
 if (!a.2.2.isNil) = true then
 some (a.1, (none : Option Nat))
 else
 some (a.1, a.2.1)
theorem c_fit_of (l : Own c0 G F) (m : Rel c0 sg G) (hG : Gl [0, 4] c0) (f : List G_api_Cell) {r : Sto × (Option Nat)} (o : Sl R_api_Cell c0 v1 f) (H : f_fit_of sg f = some r) :
    Calls prog 240 #[v1] c0.w (Post c0 fun c v => ∃ k, ∃ G_ : Gm, Own c G_ (F) ∧ Rel c r.1 G_ ∧ v = k ∧ Pt 0 c k r.2) := by
 unfold f_fit_of at H
 refine en func240 rfl rfl (sr (va (.pointer none) (wln (sr (va (v1) (bn H fun j p H => cl (c_row_Of l m (hG.le (by decide)) f o p) ?_))))))
 rintro v13 e t ⟨v4, v6, g, h, d, rfl, q, s⟩
 refine va (.tuple #[v4, v6]) (va (v4) (va (v6) (va (v4) (va (v6) (wln (W.seq (sr (va (v6) (vr (B (!j.2.2.isNil)) (by rcases (s).cs with ⟨a, b⟩ | ⟨n, a, b⟩ | ⟨n, a, b⟩ <;> (subst a; rw [b]; kernel_rfl)) (wln (cn H (fun i H => ?_) (fun i H => ?_))))))))))))
 ·refine sr (va (.pointer none) (wln (W.ret (thr ?_))))
  obtain rfl := si H
  exact r1 ⟨_, e, rfl, rfl, pt, (.pointer none), g, h, d, rfl, rfl⟩
 refine W.skip (nrm (sr (va (v4) (va (v4) (wln (W.ret ?_))))))
 obtain rfl := si H
 exact r1 ⟨_, e, rfl, rfl, pt, v4, g, h, d, rfl, q⟩
def f_fit_Resize (sg : Sto) (p0 : Option Nat) (p1 : Int) : Option (Sto × (Option Nat)) :=
 if p0.isNone = true then
 some (sg, (none : Option Nat))
 else
 (f_row_Row_Cells sg p0).bind fun c =>
 (f_row_Row_Wide sg p0).bind fun d =>
 (f_fit_cut c (imin (imax 1 (imin p1 1024)) d)).bind fun a =>
 (f_cell_Blanks (w64 ((imax 1 (imin p1 1024)) - (a.length : Int)))).bind fun e =>
 (app a e).bind fun f =>
 (f_fit_of sg f).bind fun b =>
 some (b.1, b.2)
theorem c_fit_Resize (o : Own c0 G F) (f : Rel c0 sg G) (hG : Gl [0, 4] c0) (b : Option Nat) (a : Int) {r : Sto × (Option Nat)} (j : Pt 0 c0 v1 b) (H : f_fit_Resize sg b a = some r) :
    Calls prog 190 #[v1, I a] c0.w (Post c0 fun c v => ∃ y1, ∃ G_ : Gm, Own c G_ (F) ∧ Rel c r.1 G_ ∧ v = y1 ∧ Pt 0 c y1 r.2) := by
 unfold f_fit_Resize at H
 refine en func190 rfl rfl (sr (va (.pointer none) (wln (W.seq (sr (va (v1) (vr (B b.isNone) (by rcases (j).cs with ⟨g, i⟩ | ⟨b_, g, i⟩ <;> (subst g; rw [i]; kernel_rfl)) (wln (cn H (fun h3 H => ?_) (fun h3 H => ?_))))))))))
 ·refine sr (va (.pointer none) (wln (W.ret (thr ?_))))
  obtain rfl := si H
  exact r1 ⟨_, c0, rfl, rfl, pt, (.pointer none), G, o, f, rfl, rfl⟩
 refine W.skip (nrm (sr (va (I a) (va (I (imin a 1024)) (va (I (imax 1 (imin a 1024))) (va (I (imax 1 (imin a 1024))) (wln (sr (va (v1) (bn H fun k h4 H => cl (c_row_Row_Cells o f b j h4) ?_))))))))))
 rintro v5 k0 u0 ⟨_, u6, O9, rfl, h7⟩
 refine va (I (imax 1 (imin a 1024))) (va (v1) (bn H fun d E H => cl (c_row_Row_Wide O9 f.m b j.m E) ?_))
 rintro v20 l0 v0 ⟨p, rfl⟩
 refine va (I (imin (imax 1 (imin a 1024)) d)) (bn H fun e M H => cl (c_fit_cut k (imin (imax 1 (imin a 1024)) d) p h7.m M) ?_)
 rintro v23 m0 w0 ⟨_, c1, q, rfl, h⟩
 refine va (v23) (wln (sr (va (v23) (va (I (imax 1 (imin a 1024))) (va (v23) (vx (lnO 3 underlying69 h) (va (I (w64 ((imax 1 (imin a 1024)) - (e.length : Int)))) (bn H fun i0 N H => cl (c_cell_Blanks q (w64 ((imax 1 (imin a 1024)) - (e.length : Int))) N) ?_))))))))
 rintro v33 o0 x0 ⟨_, d1, s, rfl, P⟩
 obtain ⟨q0, S, y0, t, R⟩ := s.frz 0 rfl P
 refine WL.gh S (bn H fun l T H => me (ap R_api_Cell (.agg #[I 0, Y]) 32 69 1 t h.m R T underlying69) ?_)
 rintro v51 s0 z0 ⟨e1, u, U⟩
 obtain ⟨t0, Z, a1, x, X⟩ := u.frz 1 rfl U
 refine WL.gh Z (bn H fun j0 a0 H => cl (c_fit_of x f.m (hG.m.le (by decide)) l X a0) ?_)
 rintro v57 D b1 ⟨_, n, y, A, rfl, b0⟩
 refine va (v57) (wln (W.ret ?_))
 obtain rfl := si H
 have z := y.sD 2 []
 exact r1 ⟨_, D, rfl, rfl, pt, v57, n, z, A, rfl, b0⟩
def f_size_Resize (sg : Sto) (p0 : Option Nat) (p1 : Int) (p2 : Int) : Option (Sto) :=
 (orE p0.isNone ((p0).bind fun u =>
 (sg.place_Pen[u]?).bind fun v =>
 some v.G.isNone)).bind fun t =>
 if t = true then
 some sg
 else
 (p0).bind fun l =>
 (sg.place_Pen[l]?).bind fun e =>
 (f_grid_Grid_Wide sg e.G).bind fun o =>
 (f_grid_Grid_High sg e.G).bind fun p =>
 (f_cursor_Hold e.At o p).bind fun b =>
 (f_grid_New sg (imax 1 (imin p1 1024)) (imax 1 (imin p2 1024))).bind fun c =>
 (iter (σ := Int × Sto) (τ := Sto) (((imax 1 (imin p2 1024)) - 0).toNat + 1) (fun a =>
 if (decide (a.1 < (imax 1 (imin p2 1024)))) = true then
 ((p0).bind fun m =>
 (a.2.place_Pen[m]?).bind fun n =>
 (f_grid_Grid_Row a.2 n.G (w64 ((imax 0 (w64 ((w64 (b.Row - (imax 1 (imin p2 1024)))) + 1))) + a.1))).bind fun j =>
 if (!j.isNone) = true then
 (f_fit_Resize a.2 j (imax 1 (imin p1 1024))).bind fun k =>
 (f_grid_Grid_Set k.1 c.2 a.1 k.2).bind fun q =>
 some (q.1)
 else
 some (a.2)).bind fun s =>
 some (.inl ((w64 (a.1 + 1)), s))
 else
 some (.inr (a.2))) (0, c.1)).bind fun i =>
 (p0).bind fun d =>
 (i.place_Pen[d]?).bind fun f =>
 (i.set_place_Pen d (⟨c.2, f.At, f.Auto⟩ : G_place_Pen)).bind fun h =>
 (f_cursor_Move (w64 (b.Row - (imax 0 (w64 ((w64 (b.Row - (imax 1 (imin p2 1024)))) + 1))))) b.Col (imax 1 (imin p1 1024)) (imax 1 (imin p2 1024))).bind fun r =>
 (h.set_place_Pen d (⟨c.2, r, f.Auto⟩ : G_place_Pen)).bind fun g =>
 some g
theorem c_size_Resize (O0 : Own c0 G F) (z : Rel c0 sg G) (hG : Gl [0, 4] c0) (p0 : Option Nat) (o : Int) (b : Int) {r : Sto} (h2 : Pt 2 c0 v1 p0) (H : f_size_Resize sg p0 o b = some r) :
    Calls prog 122 #[v1, I o, I b] c0.w (Post c0 fun c v => ∃ G_ : Gm, Own c G_ (F) ∧ Rel c r G_ ∧ v = .tuple #[]) := by
 unfold f_size_Resize at H
 refine en func122 rfl rfl (W.seq (W.seq (bn H fun p5 h3 H => W.join (Jn c0 fun c l => Own c G (F) ∧ l = [(0, v1), (1, I o), (2, I b), (19, B p5)]) ?_ ?_)))
 ·clear H
  refine W.region (va (v1) (vr (B p0.isNone) (by rcases (h2).cs with ⟨t, u⟩ | ⟨b_, t, u⟩ <;> (subst t; rw [u]; kernel_rfl)) ?_))
  rcases bo (p0.isNone) with h4 | h4
  ·obtain rfl := orT h4 h3
   exact vb h4 (ps (ps (ps (ps (ps (va (B true) (wln ⟨c0, _, _, rfl, pt, us, O0, rfl⟩)))))))
  have H5 := orF h4 h3
  refine vb h4 (wn (va (v1) (wn (bn H5 fun f8 h8 H5 => ?_))))
  obtain ⟨b6, rfl, h7⟩ := (h2).get h8
  refine va (Q b6) (wn (va (Q b6) (wn (bn H5 fun j2 h9 H5 => ?_))))
  obtain ⟨v10, s5, r5⟩ := Rel.open_place_Pen z h9 h7
  refine vx (le1 0 underlying35 (O0.gon s5 0 rfl)) (wn (vr (B j2.G.isNone) (by rcases (r5).cs with ⟨t, u⟩ | ⟨b_, t, u⟩ <;> (subst t; rw [u]; kernel_rfl)) ?_))
  obtain rfl := si H5
  exact va (B j2.G.isNone) (wln ⟨c0, _, _, rfl, pt, us, O0, rfl⟩)
 rintro e_ w_ ⟨b2, e8, _, rfl, Z, rfl, m1, rfl⟩
 refine nrm (cn H (fun t5 H => ?_) (fun t5 H => ?_))
 ·refine W.ret (thr ?_)
  obtain rfl := si H
  exact r0 ⟨_, b2, rfl, rfl, pt, G, m1, z.m, rfl⟩
 refine W.skip (nrm (sr (va (I o) (va (I (imin o 1024)) (va (I (imax 1 (imin o 1024))) (va (I b) (va (I (imin b 1024)) (va (I (imax 1 (imin b 1024))) (va (I (imax 1 (imin o 1024))) (va (I (imax 1 (imin b 1024))) (wln (W.seq (bn H fun g7 u5 H => bn H fun h v5 H => bn H fun D f2 H => bn H fun E x0 H => bn H fun a X H => W.join (Jn b2 fun c l => ∃ n, Own c G ((Eb n 24 [I a.Row, I a.Col, B a.Pending]) :: F) ∧ l = [(0, v1), (1, I (imax 1 (imin o 1024))), (2, I (imax 1 (imin b 1024))), (6, Q n)]) ?_ ?_)))))))))))))
 ·clear H
  refine rD [] (Kp G []) m1 ?_
  intro f5 i2 k0
  have f1 : Kp G [] f5 := (Kp.nil k0)
  refine ta 0 (v1) ?_
  obtain ⟨s, rfl, x5⟩ := ((h2.mono (Z.trans i2))).get u5
  refine ta 1 (Q s) (ta 2 (.pointer (some ⟨s, 1, none⟩)) ?_)
  obtain ⟨v31, y0, M⟩ := Rel.open_place_Pen (z.mono (Z.trans i2)) v5 x5
  refine tkx 3 f1 (fun c' g2 hk => leN 24 1 [I h.At.Row, I h.At.Col, B h.At.Pending] (hk.gon y0 0 rfl)) (ta 4 (Q s) (ta 5 (Q s) (ta 6 (Q s) (tkx 7 f1 (fun c' g2 hk => le1 0 underlying35 (hk.gon y0 0 rfl)) (ta 9 (Q s) (ta 10 (Q s) (ta 11 (Q s) (tkx 12 f1 (fun c' g2 hk => le1 0 underlying35 (hk.gon y0 0 rfl)) (mn2 8 15 ?_ ?_)))))))))
  ·refine gc 8 (c_grid_Grid_Wide k0 z.m h.G M f2) ?_
   rintro v39 g5 g8 ⟨l0, rfl⟩
   have y5 : Kp G [] g5 := (Kp.nil l0)
   refine ⟨.inr y5, mn2 13 15 ?_ ?_⟩
   ·refine gc 13 (c_grid_Grid_High l0 z.m h.G M.m x0) ?_
    rintro v46 h5 i8 ⟨m0, rfl⟩
    have z5 : Kp G [] h5 := (Kp.nil m0)
    refine ⟨.inr z5, mn2 14 15 ?_ ?_⟩
    ·refine gc 14 (c_cursor_Hold m0 h.At D E X) ?_
     rintro v53 i5 j8 ⟨n1, rfl⟩
     have a6 : Kp G [] i5 := (Kp.nil n1)
     refine ⟨.inr a6, o1 15 (gm 15 (al 24 [I 0, I 0, B false] n1) ?_)⟩
     rintro v58 j5 k8 ⟨z4, rfl, q1⟩
     have c6 : Kp G [] j5 := (Kp.nil q1)
     refine ⟨.inr c6, o1 16 (gD 16 (sA 24 [I a.Row, I a.Col, B a.Pending] 0 q1 ⟨rfl, rfl, rfl, trivial⟩) ?_)⟩
     rintro c2 l8 s1
     have d6 : Kp G [] c2 := (Kp.nil s1)
     exact ⟨.inr d6, dn (nrm ⟨c2, _, _, rfl, pt, us, z4, s1, rfl⟩)⟩
    refine gm 15 (al 24 [I 0, I 0, B false] m0) ?_
    rintro t8 k5 m8 ⟨b5, rfl, t1⟩
    have e6 : Kp G [] k5 := (Kp.nil t1)
    refine ⟨.inr e6, o1 14 (gc 14 (c_cursor_Hold t1 h.At D E X) ?_)⟩
    rintro u8 l5 n8 ⟨u1, rfl⟩
    have f6 : Kp G [] l5 := (Kp.nil u1)
    refine ⟨.inr f6, o1 16 (gD 16 (sA 24 [I a.Row, I a.Col, B a.Pending] 0 u1 ⟨rfl, rfl, rfl, trivial⟩) ?_)⟩
    rintro d2 o8 w1
    have g6 : Kp G [] d2 := (Kp.nil w1)
    exact ⟨.inr g6, dn (nrm ⟨d2, _, _, rfl, pt, us, b5, w1, rfl⟩)⟩
   refine gm 15 (al 24 [I 0, I 0, B false] l0) ?_
   rintro v8 m5 p8 ⟨c5, rfl, x1⟩
   have h6 : Kp G [] m5 := (Kp.nil x1)
   refine ⟨.inr h6, o1 13 (gc 13 (c_grid_Grid_High x1 z.m h.G M.m x0) ?_)⟩
   rintro w8 n5 q8 ⟨y1, rfl⟩
   have i6 : Kp G [] n5 := (Kp.nil y1)
   refine ⟨.inr i6, o1 14 (gc 14 (c_cursor_Hold y1 h.At D E X) ?_)⟩
   rintro x8 o5 r8 ⟨z1, rfl⟩
   have j6 : Kp G [] o5 := (Kp.nil z1)
   refine ⟨.inr j6, o1 16 (gD 16 (sA 24 [I a.Row, I a.Col, B a.Pending] 0 z1 ⟨rfl, rfl, rfl, trivial⟩) ?_)⟩
   rintro e2 s8 a2
   have k6 : Kp G [] e2 := (Kp.nil a2)
   exact ⟨.inr k6, dn (nrm ⟨e2, _, _, rfl, pt, us, c5, a2, rfl⟩)⟩
  refine gm 15 (al 24 [I 0, I 0, B false] k0) ?_
  rintro u7 k3 k7 ⟨j3, rfl, d0⟩
  have p4 : Kp G [] k3 := (Kp.nil d0)
  refine ⟨.inr p4, o1 8 (gc 8 (c_grid_Grid_Wide d0 z.m h.G M.m f2) ?_)⟩
  rintro v7 l3 l7 ⟨e0, rfl⟩
  have q4 : Kp G [] l3 := (Kp.nil e0)
  refine ⟨.inr q4, o1 13 (gc 13 (c_grid_Grid_High e0 z.m h.G M.m x0) ?_)⟩
  rintro w7 m3 m7 ⟨f0, rfl⟩
  have r4 : Kp G [] m3 := (Kp.nil f0)
  refine ⟨.inr r4, o1 14 (gc 14 (c_cursor_Hold f0 h.At D E X) ?_)⟩
  rintro x7 n3 n7 ⟨g0, rfl⟩
  have s4 : Kp G [] n3 := (Kp.nil g0)
  refine ⟨.inr s4, o1 16 (gD 16 (sA 24 [I a.Row, I a.Col, B a.Pending] 0 g0 ⟨rfl, rfl, rfl, trivial⟩) ?_)⟩
  rintro s0 o7 h0
  have t4 : Kp G [] s0 := (Kp.nil h0)
  exact ⟨.inr t4, dn (nrm ⟨s0, _, _, rfl, pt, us, j3, h0, rfl⟩)⟩
 rintro e_ w_ ⟨s6, x6, _, rfl, b1, rfl, n, i0, rfl⟩
 refine nrm (sr (va (Q n) (vx (le1 0 underlying3 (i0.on 0 rfl)) (va (I (imax 1 (imin b 1024))) (va (I (w64 (a.Row - (imax 1 (imin b 1024))))) (va (I (w64 ((w64 (a.Row - (imax 1 (imin b 1024)))) + 1))) (va (I (imax 0 (w64 ((w64 (a.Row - (imax 1 (imin b 1024)))) + 1)))) (va (I (imax 0 (w64 ((w64 (a.Row - (imax 1 (imin b 1024)))) + 1)))) (wln (sr (va (I (imax 1 (imin o 1024))) (va (I (imax 1 (imin b 1024))) (bn H fun v4 t3 H => cl (c_grid_New i0 z.m (imax 1 (imin o 1024)) (imax 1 (imin b 1024)) t3) ?_)))))))))))))
 rintro q R c1 ⟨_, k2, s2, c3, p6, rfl, y⟩
 refine va (q) (wln (W.seq (sr (va (I (imax 1 (imin b 1024))) (va (I 0) (wln (W.block (bn H fun t7 u0 g => lp u0 (fun f => Jn R fun c l => ∃ G_, Own c G_ ((Eb n 24 [I a.Row, I a.Col, B a.Pending]) :: F) ∧ l = [(0, v1), (1, I (imax 1 (imin o 1024))), (2, I (imax 1 (imin b 1024))), (6, Q n), (7, I (imax 0 (w64 ((w64 (a.Row - (imax 1 (imin b 1024)))) + 1)))), (8, q), (50, I (imax 1 (imin b 1024))), (51, I f.1)] ∧ Rel c f.2 G_) (fun i1 ex e w => ex = .exit 0 ∧ (Jn R fun c l => ∃ G_, Own c G_ ((Eb n 24 [I a.Row, I a.Col, B a.Pending]) :: F) ∧ l = [(0, v1), (1, I (imax 1 (imin o 1024))), (2, I (imax 1 (imin b 1024))), (6, Q n), (7, I (imax 0 (w64 ((w64 (a.Row - (imax 1 (imin b 1024)))) + 1)))), (8, q)] ∧ Rel c i1 G_) e w) ?_ ?_ ?_))))))))
 ·clear g u0
  intro f y8 q5 l6 H
  revert q5 l6
  rintro e_ w_ ⟨t0, y6, _, rfl, n4, rfl, a0, N, rfl, x⟩
  refine sr (va (B (decide (f.1 < (imax 1 (imin b 1024))))) (wln (W.seq (cn H (fun u3 H => ?_) (fun u3 H => ?_)))))
  ·refine W.skip (nrm (bn H fun x4 d o2 => W.seqJ (Jn t0 fun c l => ∃ G_, Own c G_ ((Eb n 24 [I a.Row, I a.Col, B a.Pending]) :: F) ∧ l = [(0, v1), (1, I (imax 1 (imin o 1024))), (2, I (imax 1 (imin b 1024))), (6, Q n), (7, I (imax 0 (w64 ((w64 (a.Row - (imax 1 (imin b 1024)))) + 1)))), (8, q), (50, I (imax 1 (imin b 1024))), (51, I f.1)] ∧ Rel c x4 G_) ?_ ?_))
   ·refine W.block (sr (va (I f.1) (va (I f.1) (wln (sr (va (v1) (bn d fun i7 w3 d => ?_)))))))
    obtain ⟨q0, rfl, v3⟩ := ((h2.mono (Z.trans (b1.trans (c1.trans n4))))).get w3
    refine va (Q q0) (va (Q q0) (bn d fun o4 x3 d => ?_))
    obtain ⟨y7, z3, y3⟩ := Rel.open_place_Pen x x3 v3
    refine vx (le1 0 underlying35 (N.gon z3 0 rfl)) (va (I (imax 0 (w64 ((w64 (a.Row - (imax 1 (imin b 1024)))) + 1)))) (va (I f.1) (va (I (w64 ((imax 0 (w64 ((w64 (a.Row - (imax 1 (imin b 1024)))) + 1))) + f.1))) (bn d fun g1 a4 d => cl (c_grid_Grid_Row N x o4.G (w64 ((imax 0 (w64 ((w64 (a.Row - (imax 1 (imin b 1024)))) + 1))) + f.1)) y3 a4) ?_))))
    rintro U o3 p7 ⟨_, j0, rfl, v0⟩
    refine va (U) (wln (sr (va (U) (vr (B (!g1.isNone)) (by rcases (v0).cs with ⟨t, u⟩ | ⟨b_, t, u⟩ <;> (subst t; rw [u]; kernel_rfl)) (wln (cn d (fun b4 d => ?_) (fun b4 d => ?_)))))))
    ·refine W.region (va (q) (va (I f.1) (va (U) (va (I (imax 1 (imin o 1024))) (bn d fun w4 c4 d => cl (c_fit_Resize j0 x.m (hG.m.le (by decide)) g1 (imax 1 (imin o 1024)) v0 c4) ?_)))))
     rintro z7 t6 q7 ⟨_, m6, t2, d3, rfl, d4⟩
     refine bn d fun d8 e4 d => cl (c_grid_Grid_Set t2 d3 v4.2 f.1 w4.2 y.m d4 e4) ?_
     rintro a8 p3 r7 ⟨l2, u2, e3, rfl⟩
     refine WL.nil (bkn (nrm ?_))
     obtain rfl := si d
     exact ⟨p3, _, _, rfl, pt, us, l2, u2, rfl, e3⟩
    refine W.skip (bkn (nrm ?_))
    obtain rfl := si d
    exact ⟨o3, _, _, rfl, pt, us, a0, j0, rfl, x.m⟩
   rintro e_ w_ ⟨q3, z6, _, rfl, s7, rfl, m2, v2, rfl, f3⟩
   refine W.region (va (I (w64 (f.1 + 1))) (va (I (w64 (f.1 + 1))) (WL.nil ?_)))
   obtain rfl := si o2
   exact ⟨_, rfl, ⟨q3, _, _, rfl, pt, us, m2, v2, rfl, f3⟩⟩
  refine W.exit (thx ?_)
  obtain rfl := si H
  exact ⟨_, rfl, rfl, ⟨t0, _, _, rfl, pt, us, a0, N, rfl, x⟩⟩
 ·exact ⟨R, _, _, rfl, pt, us, k2, s2, rfl, c3⟩
 rintro _ e_ w_ ⟨rfl, u6, a7, _, rfl, A, rfl, n6, w2, rfl, o0⟩
 refine bke (nrm (sr (va (v1) (va (q) (bn g fun j7 f4 g => ?_)))))
 obtain ⟨j, rfl, S⟩ := ((h2.mono (Z.trans (b1.trans (c1.trans A))))).get f4
 refine va (Q j) (va (Q j) ?_)
 obtain ⟨p, rfl⟩ := ((y.mono A)).form
 refine bn g fun i g4 g => ?_
 obtain ⟨b8, i4, b7⟩ := Rel.open_place_Pen o0 g4 S
 refine md (gC 35 0 (.pointer p) [.pointer p, I i.At.Row, I i.At.Col, B i.At.Pending, B i.Auto] 0 w2 i4 ⟨y.m.one, trivial⟩) ?_
 rintro v6 T x2
 refine bn g fun y4 k4 g => ?_
 obtain ⟨o6, P, g3, j4, q6⟩ := Rel.put_place_Pen x2 (o0.mono T) (E' := [(Eb j 42 [.pointer p, I i.At.Row, I i.At.Col, B i.At.Pending, B i.Auto])]) k4 ⟨j, (.pointer p), (tm S), rfl, (y.mono (A.trans T))⟩
 refine wln (W.region (va (Q j) (va (Q n) (vx (le1 0 underlying3 (P.on 0 rfl)) (va (I (imax 0 (w64 ((w64 (a.Row - (imax 1 (imin b 1024)))) + 1)))) (va (I (w64 (a.Row - (imax 0 (w64 ((w64 (a.Row - (imax 1 (imin b 1024)))) + 1)))))) (va (.pointer (some ⟨n, 1, none⟩)) (vx (le1 1 underlying3 (P.on 0 rfl)) (va (I (imax 1 (imin o 1024))) (va (I (imax 1 (imin b 1024))) (bn g fun k l4 g => cl (c_cursor_Move P (w64 (a.Row - (imax 0 (w64 ((w64 (a.Row - (imax 1 (imin b 1024)))) + 1))))) a.Col (imax 1 (imin o 1024)) (imax 1 (imin b 1024)) l4) ?_)))))))))))
 rintro c8 w6 d1 ⟨y2, rfl⟩
 refine va (Q j) (va (.pointer (some ⟨j, 1, none⟩)) (md (gB 24 1 [I k.Row, I k.Col, B k.Pending] [.pointer p, I k.Row, I k.Col, B k.Pending, B i.Auto] 0 y2 j4 ⟨rfl, rfl, rfl, trivial⟩) ?_))
 rintro s3 e1 z2
 refine bn g fun u4 m4 g => ?_
 obtain ⟨n2, a3, i3, c7, r6⟩ := Rel.put_place_Pen z2 (g3.mono (d1.trans e1)) (E' := [(Eb j 42 [.pointer p, I k.Row, I k.Col, B k.Pending, B i.Auto])]) m4 ⟨j, (.pointer p), (tm S), rfl, (y.mono (A.trans (T.trans (d1.trans e1))))⟩
 refine WL.nil ?_
 obtain rfl := si g
 have b3 := a3.sD 1 []
 exact n0 ⟨_, s3, rfl, rfl, pt, n2, b3, i3, rfl⟩
def f_linotyperef28_Resize (p0 : List G_api_Cell) (p1 : Int) : Option (List G_api_Cell) :=
 (rep (imax 1 (imin p1 1024)) (⟨0, ([] : List Int)⟩ : G_api_Cell)).bind fun i =>
 (iter (σ := (List G_api_Cell) × Int) (τ := (List G_api_Cell)) (((imax 1 (imin p1 1024)) - 0).toNat + 1) (fun a =>
 (andE (decide (a.2 < (imax 1 (imin p1 1024)))) (some (decide (a.2 < (p0.length : Int))))).bind fun b =>
 if b = true then
 ((orE (decide ((w64 (a.2 + 1)) < (imax 1 (imin p1 1024)))) ((idx p0 a.2).bind fun f =>
 some (f.Kind != 2))).bind fun c =>
 if c = true then
 (idx p0 a.2).bind fun g =>
 (idx a.1 a.2).bind fun j =>
 (sets a.1 a.2 g).bind fun e =>
 some (e)
 else
 some (a.1)).bind fun h =>
 some (.inl (h, (w64 (a.2 + 1))))
 else
 some (.inr (a.1))) (i, 0)).bind fun d =>
 some d
def f_linotyperef39_Resize (p0 : G_linotyperef34_Pen) (p1 : Int) (p2 : Int) : Option (G_linotyperef34_Pen) :=
 (f_linotyperef34_Pen_Hold p0).bind fun d =>
 (f_linotyperef31_Side p1).bind fun f =>
 (f_linotyperef31_Side p2).bind fun c =>
 (iter (σ := (List G_api_Line) × Int) (τ := ((List G_api_Line) × Int)) ((d.At.Row - c).toNat + 2) (fun a =>
 if (decide (a.2 ≥ c)) = true then
 (slc a.1 1 a.1.length).bind fun h =>
 some (.inl (h, (w64 (a.2 - 1))))
 else
 some (.inr (a.1, a.2))) (d.L, d.At.Row)).bind fun e =>
 (iter (σ := (List G_api_Line) × Int) (τ := (List G_api_Line)) ((c - 0).toNat + 1) (fun b =>
 if (decide (b.2 < c)) = true then
 (if (decide (b.2 < (e.1.length : Int))) = true then
 (idx e.1 b.2).bind fun i =>
 some (i.Cells)
 else
 some (([] : List G_api_Cell))).bind fun l =>
 (f_linotyperef28_Resize l f).bind fun j =>
 (app b.1 ([(⟨j, false⟩ : G_api_Line)] : List G_api_Line)).bind fun k =>
 some (.inl (k, (w64 (b.2 + 1))))
 else
 some (.inr (b.1))) (([] : List G_api_Line), 0)).bind fun g =>
 some (⟨g, (⟨e.2, (imin d.At.Col (w64 (f - 1))), false⟩ : G_api_Cursor), d.Auto⟩ : G_linotyperef34_Pen)
def f_basew_Silent (p0 : Int) : Option (Bool) :=
 (andE (decide (p0 ≥ 0)) (some (decide (p0 < 32)))).bind fun b =>
 (orE b ((andE (decide (p0 ≥ 127)) (some (decide (p0 ≤ 159)))).bind fun a =>
 some a)).bind fun c =>
 some c
theorem c_basew_Silent (e : Own c0 G F) (a : Int) {r : Bool} (H : f_basew_Silent a = some r) :
    Calls prog 180 #[J a] c0.w (Post c0 fun c v => Own c G (F) ∧ v = B r) := by
 unfold f_basew_Silent at H
 refine en func180 rfl rfl (sr (va (B false) (wln (W.seq (bn H fun z t H => bn H fun s n H => W.join (Jn c0 fun c l => Own c G (F) ∧ l = [(2, B s)]) ?_ ?_)))))
 ·clear H
  refine W.region (va (J a) (va (B (decide (a ≥ 0))) ?_))
  rcases bo (decide (a ≥ 0)) with f | f
  ·have x := anT f t
   refine vb f (wn (va (J a) (wn (va (B (decide (a < 32))) ?_))))
   obtain rfl := si x
   refine va (B (decide (a < 32))) ?_
   rcases bo (decide (a < 32)) with g | g
   ·obtain rfl := orT g n
    exact vb g (ps (ps (ps (ps (ps (ps (va (B true) (va (B true) (wln ⟨c0, _, _, rfl, pt, us, e, rfl⟩)))))))))
   have i := orF g n
   refine vb g (wn (va (J a) (wn (va (B (decide (a ≥ 127))) (wn (bn i fun m u i => ?_))))))
   rcases bo (decide (a ≥ 127)) with h | h
   ·have y := anT h u
    refine vb h (wn (va (J a) (wn (va (B (decide (a ≤ 159))) (wn ?_)))))
    obtain rfl := si y
    refine va (B (decide (a ≤ 159))) ?_
    obtain rfl := si i
    exact va (B (decide (a ≤ 159))) (va (B (decide (a ≤ 159))) (wln ⟨c0, _, _, rfl, pt, us, e, rfl⟩))
   obtain rfl := anF h u
   refine vb h (ps (ps (wn (va (B false) ?_))))
   obtain rfl := si i
   exact va (B false) (va (B false) (wln ⟨c0, _, _, rfl, pt, us, e, rfl⟩))
  obtain rfl := anF f t
  refine vb f (ps (ps (va (B false) ?_)))
  have j : false = false := rfl
  have d := orF j n
  refine vb j (wn (va (J a) (wn (va (B (decide (a ≥ 127))) (wn (bn d fun m k d => ?_))))))
  rcases bo (decide (a ≥ 127)) with b | b
  ·have o := anT b k
   refine vb b (wn (va (J a) (wn (va (B (decide (a ≤ 159))) (wn ?_)))))
   obtain rfl := si o
   refine va (B (decide (a ≤ 159))) ?_
   obtain rfl := si d
   exact va (B (decide (a ≤ 159))) (va (B (decide (a ≤ 159))) (wln ⟨c0, _, _, rfl, pt, us, e, rfl⟩))
  obtain rfl := anF b k
  refine vb b (ps (ps (wn (va (B false) ?_))))
  obtain rfl := si d
  exact va (B false) (va (B false) (wln ⟨c0, _, _, rfl, pt, us, e, rfl⟩))
 rintro E M ⟨q, A, _, rfl, D, rfl, p, rfl⟩
 refine nrm (W.ret ?_)
 obtain rfl := si H
 exact r1 ⟨_, q, rfl, rfl, pt, p, rfl⟩
def f_cursor_Back (p0 : G_api_Cursor) : Option (G_api_Cursor) :=
 (if (decide (p0.Col > 0)) = true then
 some ((w64 (p0.Col - 1)))
 else
 some (p0.Col)).bind fun a =>
 some (⟨p0.Row, a, false⟩ : G_api_Cursor)
theorem c_cursor_Back (s : Own c0 G F) (a : G_api_Cursor) {r : G_api_Cursor} (H : f_cursor_Back a = some r) :
    Calls prog 226 #[.agg #[I a.Row, I a.Col, B a.Pending]] c0.w (Post c0 fun c v => Own c G (F) ∧ v = .agg #[I r.Row, I r.Col, B r.Pending]) := by
 unfold f_cursor_Back at H
 refine en func226 rfl rfl (sr (me (al 24 [I a.Row, I a.Col, B a.Pending] s) ?_))
 rintro v4 E P ⟨e, rfl, t⟩
 refine me (al 24 [I 0, I 0, B false] t) ?_
 rintro v8 M R ⟨o, rfl, u⟩
 refine wln (sr (va (.pointer (some ⟨e, 2, none⟩)) (md (sC 4 2 (B false) [I a.Row, I a.Col, B false] 1 u ⟨rfl, trivial⟩) ?_)))
 rintro i z f
 refine wln (bn H fun d b k => W.seqJ (Jn i fun c l => Own c G ((Eb o 24 [I 0, I 0, B false]) :: (Eb e 24 [I a.Row, I d, B false]) :: F) ∧ l = [(1, Q e), (2, Q o)]) ?_ ?_)
 ·refine sr (va (.pointer (some ⟨e, 1, none⟩)) (vx (le1 1 underlying3 (f.on 1 rfl)) (va (B (decide (a.Col > 0))) (wln (cn b (fun q b => ?_) (fun q b => ?_))))))
  ·refine W.region (va (.pointer (some ⟨e, 1, none⟩)) (vx (le1 1 underlying3 (f.on 1 rfl)) (va (I (w64 (a.Col - 1))) (va (.pointer (some ⟨e, 1, none⟩)) (md (sC 3 1 (I (w64 (a.Col - 1))) [I a.Row, I (w64 (a.Col - 1)), B false] 1 f ⟨rfl, trivial⟩) ?_)))))
   rintro p A m
   refine wln ?_
   obtain rfl := si b
   exact ⟨p, _, _, rfl, pt, us, m, rfl⟩
  refine W.skip (nrm ?_)
  obtain rfl := si b
  exact ⟨i, _, _, rfl, pt, us, f, rfl⟩
 rintro N S ⟨x, y, _, rfl, l16, rfl, g, rfl⟩
 refine sr (vx (leN 24 0 [I a.Row, I d, B false] (g.on 1 rfl)) (md (sA 24 [I a.Row, I d, B false] 0 g ⟨rfl, rfl, rfl, trivial⟩) ?_))
 rintro j D h
 refine wln (W.ret ?_)
 obtain rfl := si k
 have n := h.sD 2 []
 exact retC (c := j) (vs := [I a.Row, I d, B false]) rfl (by kernel_rfl) (by kernel_rfl) (by kernel_rfl) (h.on 0 rfl _ rfl).1 ⟨_, j, rfl, rfl, pt, n, rfl⟩
def f_ctrl_Do (sg : Sto) (p0 : Option Nat) (p1 : Int) : Option (Sto × Bool) :=
 (f_basew_Silent p1).bind fun s =>
 if (!s) = true then
 some (sg, false)
 else
 (orE p0.isNone ((p0).bind fun j =>
 (sg.place_Pen[j]?).bind fun l =>
 some l.G.isNone)).bind fun i =>
 if i = true then
 some (sg, true)
 else
 (p0).bind fun k =>
 (sg.place_Pen[k]?).bind fun a =>
 (f_grid_Grid_Wide sg a.G).bind fun m =>
 (f_grid_Grid_High sg a.G).bind fun n =>
 (f_cursor_Hold a.At m n).bind fun h =>
 (if (p1 == 13) = true then
 (f_cursor_Return h).bind fun o =>
 (p0).bind fun d =>
 (sg.place_Pen[d]?).bind fun f =>
 (sg.set_place_Pen d (⟨f.G, o, f.Auto⟩ : G_place_Pen)).bind fun b =>
 some (b)
 else
 if (p1 == 10) = true then
 (f_place_Pen_NewLine sg p0).bind fun p =>
 some (p)
 else
 if (p1 == 8) = true then
 (f_cursor_Back h).bind fun q =>
 (p0).bind fun e =>
 (sg.place_Pen[e]?).bind fun g =>
 (sg.set_place_Pen e (⟨g.G, q, g.Auto⟩ : G_place_Pen)).bind fun c =>
 some (c)
 else
 some (sg)).bind fun r =>
 some (r, true)
theorem c_ctrl_Do (O0 : Own c0 G F) (g : Rel c0 sg G) (p0 : Option Nat) (j : Int) {r : Sto × Bool} (S : Pt 2 c0 v1 p0) (H : f_ctrl_Do sg p0 j = some r) :
    Calls prog 181 #[v1, J j] c0.w (Post c0 fun c v => ∃ G_ : Gm, Own c G_ (F) ∧ Rel c r.1 G_ ∧ v = B r.2) := by
 unfold f_ctrl_Do at H
 refine en func181 rfl rfl (sr (va (B false) (wln (W.seq (sr (va (J j) (bn H fun n5 h3 H => cl (c_basew_Silent O0 j h3) ?_)))))))
 rintro v9 c8 o ⟨O5, rfl⟩
 refine va (B (!n5)) (wln (cn H (fun s4 H => ?_) (fun s4 H => ?_)))
 ·refine sr (va (B false) (wln (W.ret (thr ?_))))
  obtain rfl := si H
  exact r1 ⟨_, c8, rfl, rfl, pt, G, O5, g.m, rfl⟩
 refine W.skip (nrm (W.seq (W.seq (bn H fun b3 s1 H => W.join (Jn c8 fun c l => Own c G (F) ∧ l = [(0, v1), (1, J j), (17, B b3)]) ?_ ?_))))
 ·clear H
  refine W.region (va (v1) (vr (B p0.isNone) (by rcases S.m.cs with ⟨y, z⟩ | ⟨b_, y, z⟩ <;> (subst y; rw [z]; kernel_rfl)) ?_))
  rcases bo (p0.isNone) with x | x
  ·obtain rfl := orT x s1
   exact vb x (ps (ps (ps (ps (ps (va (B true) (wln ⟨c8, _, _, rfl, pt, us, O5, rfl⟩)))))))
  have u := orF x s1
  refine vb x (wn (va (v1) (wn (bn u fun z5 u4 u => ?_))))
  obtain ⟨k1, rfl, t4⟩ := ((S.mono o)).get u4
  refine va (Q k1) (wn (va (Q k1) (wn (bn u fun t0 v4 u => ?_))))
  obtain ⟨v18, x4, w4⟩ := Rel.open_place_Pen (g.mono o) v4 t4
  refine vx (le1 0 underlying35 (O5.gon x4 0 rfl)) (wn (vr (B t0.G.isNone) (by rcases (w4).cs with ⟨y, z⟩ | ⟨b_, y, z⟩ <;> (subst y; rw [z]; kernel_rfl)) ?_))
  obtain rfl := si u
  exact va (B t0.G.isNone) (wln ⟨c8, _, _, rfl, pt, us, O5, rfl⟩)
 rintro e_ w_ ⟨m1, v6, _, rfl, n, rfl, a1, rfl⟩
 refine nrm (cn H (fun y4 H => ?_) (fun y4 H => ?_))
 ·refine sr (va (B true) (wln (W.ret (thr ?_))))
  obtain rfl := si H
  exact r1 ⟨_, m1, rfl, rfl, pt, G, a1, g.m, rfl⟩
 refine W.skip (nrm (W.seq (bn H fun a6 z4 H => bn H fun d a5 H => bn H fun s t1 H => bn H fun t l0 H => bn H fun b R H => W.join (Jn m1 fun c l => ∃ P, Own c G ((Eb P 24 [I b.Row, I b.Col, B b.Pending]) :: F) ∧ l = [(0, v1), (1, J j), (5, Q P)]) ?_ ?_)))
 ·clear H
  refine rD [] (Kp G []) a1 ?_
  intro i4 w1 d0
  have x0 : Kp G [] i4 := (Kp.nil d0)
  refine ta 0 (v1) ?_
  obtain ⟨k, rfl, b5⟩ := ((S.mono (o.trans (n.trans w1)))).get z4
  refine ta 1 (Q k) (ta 2 (.pointer (some ⟨k, 1, none⟩)) ?_)
  obtain ⟨v39, m0, A⟩ := Rel.open_place_Pen (g.mono (o.trans (n.trans w1))) a5 b5
  refine tkx 3 x0 (fun c' u1 hk => leN 24 1 [I d.At.Row, I d.At.Col, B d.At.Pending] (hk.gon m0 0 rfl)) (ta 4 (Q k) (ta 5 (Q k) (ta 6 (Q k) (tkx 7 x0 (fun c' u1 hk => le1 0 underlying35 (hk.gon m0 0 rfl)) (ta 9 (Q k) (ta 10 (Q k) (ta 11 (Q k) (tkx 12 x0 (fun c' u1 hk => le1 0 underlying35 (hk.gon m0 0 rfl)) (mn2 8 15 ?_ ?_)))))))))
  ·refine gc 8 (c_grid_Grid_Wide d0 g.m d.G A t1) ?_
   rintro v47 j4 w6 ⟨e0, rfl⟩
   have c5 : Kp G [] j4 := (Kp.nil e0)
   refine ⟨.inr c5, mn2 13 15 ?_ ?_⟩
   ·refine gc 13 (c_grid_Grid_High e0 g.m d.G A.m l0) ?_
    rintro v54 k4 x6 ⟨f0, rfl⟩
    have d5 : Kp G [] k4 := (Kp.nil f0)
    refine ⟨.inr d5, mn2 14 15 ?_ ?_⟩
    ·refine gc 14 (c_cursor_Hold f0 d.At s t R) ?_
     rintro g7 l4 y6 ⟨b1, rfl⟩
     have e5 : Kp G [] l4 := (Kp.nil b1)
     refine ⟨.inr e5, o1 15 (gm 15 (al 24 [I 0, I 0, B false] b1) ?_)⟩
     rintro h7 m4 z6 ⟨e4, rfl, c1⟩
     have f5 : Kp G [] m4 := (Kp.nil c1)
     refine ⟨.inr f5, o1 16 (gD 16 (sA 24 [I b.Row, I b.Col, B b.Pending] 0 c1 ⟨rfl, rfl, rfl, trivial⟩) ?_)⟩
     rintro n1 a7 d1
     have g5 : Kp G [] n1 := (Kp.nil d1)
     exact ⟨.inr g5, dn (nrm ⟨n1, _, _, rfl, pt, us, e4, d1, rfl⟩)⟩
    refine gm 15 (al 24 [I 0, I 0, B false] f0) ?_
    rintro i7 n4 b7 ⟨f4, rfl, e1⟩
    have h5 : Kp G [] n4 := (Kp.nil e1)
    refine ⟨.inr h5, o1 14 (gc 14 (c_cursor_Hold e1 d.At s t R) ?_)⟩
    rintro j7 o4 c7 ⟨f1, rfl⟩
    have i5 : Kp G [] o4 := (Kp.nil f1)
    refine ⟨.inr i5, o1 16 (gD 16 (sA 24 [I b.Row, I b.Col, B b.Pending] 0 f1 ⟨rfl, rfl, rfl, trivial⟩) ?_)⟩
    rintro q1 d7 g1
    have j5 : Kp G [] q1 := (Kp.nil g1)
    exact ⟨.inr j5, dn (nrm ⟨q1, _, _, rfl, pt, us, f4, g1, rfl⟩)⟩
   refine gm 15 (al 24 [I 0, I 0, B false] e0) ?_
   rintro k7 p4 e7 ⟨g4, rfl, h1⟩
   have k5 : Kp G [] p4 := (Kp.nil h1)
   refine ⟨.inr k5, o1 13 (gc 13 (c_grid_Grid_High h1 g.m d.G A.m l0) ?_)⟩
   rintro l7 q4 f7 ⟨i1, rfl⟩
   have l5 : Kp G [] q4 := (Kp.nil i1)
   refine ⟨.inr l5, o1 14 (gc 14 (c_cursor_Hold i1 d.At s t R) ?_)⟩
   rintro m6 s2 d6 ⟨j1, rfl⟩
   have u3 : Kp G [] s2 := (Kp.nil j1)
   refine ⟨.inr u3, o1 16 (gD 16 (sA 24 [I b.Row, I b.Col, B b.Pending] 0 j1 ⟨rfl, rfl, rfl, trivial⟩) ?_)⟩
   rintro g0 e6 T
   have v3 : Kp G [] g0 := (Kp.nil T)
   exact ⟨.inr v3, dn (nrm ⟨g0, _, _, rfl, pt, us, g4, T, rfl⟩)⟩
  refine gm 15 (al 24 [I 0, I 0, B false] d0) ?_
  rintro n6 t2 f6 ⟨q2, rfl, U⟩
  have w3 : Kp G [] t2 := (Kp.nil U)
  refine ⟨.inr w3, o1 8 (gc 8 (c_grid_Grid_Wide U g.m d.G A.m t1) ?_)⟩
  rintro o6 u2 g6 ⟨X, rfl⟩
  have x3 : Kp G [] u2 := (Kp.nil X)
  refine ⟨.inr x3, o1 13 (gc 13 (c_grid_Grid_High X g.m d.G A.m l0) ?_)⟩
  rintro p6 v2 h6 ⟨Z, rfl⟩
  have y3 : Kp G [] v2 := (Kp.nil Z)
  refine ⟨.inr y3, o1 14 (gc 14 (c_cursor_Hold Z d.At s t R) ?_)⟩
  rintro q6 w2 i6 ⟨a0, rfl⟩
  have z3 : Kp G [] w2 := (Kp.nil a0)
  refine ⟨.inr z3, o1 16 (gD 16 (sA 24 [I b.Row, I b.Col, B b.Pending] 0 a0 ⟨rfl, rfl, rfl, trivial⟩) ?_)⟩
  rintro h0 j6 b0
  have a4 : Kp G [] h0 := (Kp.nil b0)
  exact ⟨.inr a4, dn (nrm ⟨h0, _, _, rfl, pt, us, q2, b0, rfl⟩)⟩
 rintro e_ w_ ⟨i0, u5, _, rfl, i, rfl, P, h, rfl⟩
 refine nrm (bn H fun b4 a b2 => W.seqJ (Jn i0 fun c l => ∃ G_, Own c G_ ((Eb P 24 [I b.Row, I b.Col, B b.Pending]) :: F) ∧ l = [] ∧ Rel c b4 G_) ?_ ?_)
 ·refine sr (va (J j) (wln (W.block (sr (va (B (j == 13)) (va (B (j == 13)) (wln (cn a (fun c3 a => ?_) (fun c3 a => ?_)))))))))
  ·refine W.region (va (v1) (vx (leN 24 0 [I b.Row, I b.Col, B b.Pending] (h.on 0 rfl)) (bn a fun e d3 a => cl (c_cursor_Return h b d3) ?_)))
   rintro r6 s5 D ⟨c2, rfl⟩
   refine bn a fun b6 e3 a => ?_
   obtain ⟨p, rfl, j0⟩ := ((S.mono (o.trans (n.trans (i.trans D))))).get e3
   refine va (Q p) (va (.pointer (some ⟨p, 1, none⟩)) (bn a fun u0 f3 a => ?_))
   obtain ⟨M, i3, g3⟩ := Rel.open_place_Pen (g.mono (o.trans (n.trans (i.trans D)))) f3 j0
   refine md (gB 24 1 [I e.Row, I e.Col, B e.Pending] [M, I e.Row, I e.Col, B e.Pending, B u0.Auto] 0 c2 i3 ⟨rfl, rfl, rfl, trivial⟩) ?_
   rintro x2 q0 d2
   refine bn a fun c4 j3 a => ?_
   obtain ⟨x1, e2, m2, w5, p5⟩ := Rel.put_place_Pen d2 (g.mono (o.trans (n.trans (i.trans (D.trans q0))))) (E' := [(Eb p 42 [M, I e.Row, I e.Col, B e.Pending, B u0.Auto])]) j3 ⟨p, M, (tm j0), rfl, (g3.mono q0)⟩
   refine WL.nil (bkn (nrm ?_))
   obtain rfl := si a
   exact ⟨x2, _, _, rfl, pt, us, x1, e2, rfl, m2⟩
  refine sr (va (B (j == 10)) (va (B (j == 10)) (wln (cn a (fun k3 a => ?_) (fun k3 a => ?_)))))
  ·refine W.region (va (v1) (bn a fun u6 l3 a => cl (c_place_Pen_NewLine h g.m p0 S.m l3) ?_))
   rintro s6 y2 k6 ⟨y1, f2, n2, rfl⟩
   refine WL.nil (bkn (nrm ?_))
   obtain rfl := si a
   exact ⟨y2, _, _, rfl, pt, us, y1, f2, rfl, n2⟩
  refine sr (va (B (j == 8)) (va (B (j == 8)) (wln (cn a (fun m3 a => ?_) (fun m3 a => ?_)))))
  ·refine W.region (va (v1) (vx (leN 24 0 [I b.Row, I b.Col, B b.Pending] (h.on 0 rfl)) (bn a fun f n3 a => cl (c_cursor_Back h b n3) ?_)))
   rintro t6 t5 E ⟨g2, rfl⟩
   refine bn a fun c6 o3 a => ?_
   obtain ⟨q, rfl, k0⟩ := ((S.mono (o.trans (n.trans (i.trans E))))).get o3
   refine va (Q q) (va (.pointer (some ⟨q, 1, none⟩)) (bn a fun v0 p3 a => ?_))
   obtain ⟨N, s3, q3⟩ := Rel.open_place_Pen (g.mono (o.trans (n.trans (i.trans E)))) p3 k0
   refine md (gB 24 1 [I f.Row, I f.Col, B f.Pending] [N, I f.Row, I f.Col, B f.Pending, B v0.Auto] 0 g2 s3 ⟨rfl, rfl, rfl, trivial⟩) ?_
   rintro z2 s0 i2
   refine bn a fun d4 t3 a => ?_
   obtain ⟨z1, j2, o2, x5, q5⟩ := Rel.put_place_Pen i2 (g.mono (o.trans (n.trans (i.trans (E.trans s0))))) (E' := [(Eb q 42 [N, I f.Row, I f.Col, B f.Pending, B v0.Auto])]) t3 ⟨q, N, (tm k0), rfl, (q3.mono s0)⟩
   refine WL.nil (bkn (nrm ?_))
   obtain rfl := si a
   exact ⟨z2, _, _, rfl, pt, us, z1, j2, rfl, o2⟩
  refine W.skip (bkn (nrm ?_))
  obtain rfl := si a
  exact ⟨i0, _, _, rfl, pt, us, G, h, rfl, g.m⟩
 rintro e_ w_ ⟨a3, v5, _, rfl, l6, rfl, a2, k2, rfl, p2⟩
 refine sr (va (B true) (wln (W.ret ?_)))
 obtain rfl := si b2
 have l2 := k2.sD 1 []
 exact r1 ⟨_, a3, rfl, rfl, pt, a2, l2, p2, rfl⟩
def f_linotyperef18_Silent (p0 : Int) : Option (Bool) :=
 (andE (decide (p0 ≥ 0)) (some (decide (p0 ≤ 31)))).bind fun b =>
 (orE b ((andE (decide (p0 ≥ 127)) (some (decide (p0 ≤ 159)))).bind fun a =>
 some a)).bind fun c =>
 some c
def f_linotyperef36_Do (p0 : G_linotyperef34_Pen) (p1 : Int) : Option (G_linotyperef34_Pen × Bool) :=
 (if (p1 == 13) = true then
 (f_linotyperef34_Pen_Hold p0).bind fun f =>
 some (f.L, f.At.Row, 0, false, f.Auto)
 else
 some (p0.L, p0.At.Row, p0.At.Col, p0.At.Pending, p0.Auto)).bind fun b =>
 (if (p1 == 10) = true then
 (f_linotyperef34_Pen_NewLine (⟨b.1, (⟨b.2.1, b.2.2.1, b.2.2.2.1⟩ : G_api_Cursor), b.2.2.2.2⟩ : G_linotyperef34_Pen)).bind fun c =>
 some (c.L, c.At.Row, c.At.Col, c.At.Pending, c.Auto)
 else
 some (b.1, b.2.1, b.2.2.1, b.2.2.2.1, b.2.2.2.2)).bind fun a =>
 (if (p1 == 8) = true then
 (f_linotyperef34_Pen_Hold (⟨a.1, (⟨a.2.1, a.2.2.1, a.2.2.2.1⟩ : G_api_Cursor), a.2.2.2.2⟩ : G_linotyperef34_Pen)).bind fun e =>
 some (e.L, e.At.Row, (imax 0 (w64 (e.At.Col - 1))), false, e.Auto)
 else
 some (a.1, a.2.1, a.2.2.1, a.2.2.2.1, a.2.2.2.2)).bind fun d =>
 (f_linotyperef18_Silent p1).bind fun g =>
 some ((⟨d.1, (⟨d.2.1, d.2.2.1, d.2.2.2.1⟩ : G_api_Cursor), d.2.2.2.2⟩ : G_linotyperef34_Pen), g)
def f_cluster_Cluster_Len__widen_Cluster_4 (p0 : G_cluster_Cluster) : Option (Int) :=
 if false = true then
 some 0
 else
 some p0.n
theorem c_cluster_Cluster_Len__widen_Cluster_4 {b : Nat} {r0_0 : Value} {r0_1 : Value} {r0_2 : Value} {r0_3 : Value} {r0_21 : Value} {r0_22 : Value} {r0_23 : Value} (a : G_cluster_Cluster) (e : Own c0 G ((Eb b 133 [r0_0, r0_1, r0_2, r0_3, J a.text.1, J a.text.2.1, J a.text.2.2.1, J a.text.2.2.2.1, J a.text.2.2.2.2.1, J a.text.2.2.2.2.2.1, J a.text.2.2.2.2.2.2.1, J a.text.2.2.2.2.2.2.2.1, J a.text.2.2.2.2.2.2.2.2.1, J a.text.2.2.2.2.2.2.2.2.2.1, J a.text.2.2.2.2.2.2.2.2.2.2.1, J a.text.2.2.2.2.2.2.2.2.2.2.2.1, J a.text.2.2.2.2.2.2.2.2.2.2.2.2.1, J a.text.2.2.2.2.2.2.2.2.2.2.2.2.2.1, J a.text.2.2.2.2.2.2.2.2.2.2.2.2.2.2.1, J a.text.2.2.2.2.2.2.2.2.2.2.2.2.2.2.2, I a.n, r0_21, r0_22, r0_23]) :: F)) {r : Int} (H : f_cluster_Cluster_Len__widen_Cluster_4 a = some r) :
    Calls prog 154 #[.pointer (some ⟨b, 4, none⟩)] c0.w (Post c0 fun c v => Own c G ((Eb b 133 [r0_0, r0_1, r0_2, r0_3, J a.text.1, J a.text.2.1, J a.text.2.2.1, J a.text.2.2.2.1, J a.text.2.2.2.2.1, J a.text.2.2.2.2.2.1, J a.text.2.2.2.2.2.2.1, J a.text.2.2.2.2.2.2.2.1, J a.text.2.2.2.2.2.2.2.2.1, J a.text.2.2.2.2.2.2.2.2.2.1, J a.text.2.2.2.2.2.2.2.2.2.2.1, J a.text.2.2.2.2.2.2.2.2.2.2.2.1, J a.text.2.2.2.2.2.2.2.2.2.2.2.2.1, J a.text.2.2.2.2.2.2.2.2.2.2.2.2.2.1, J a.text.2.2.2.2.2.2.2.2.2.2.2.2.2.2.1, J a.text.2.2.2.2.2.2.2.2.2.2.2.2.2.2.2, I a.n, r0_21, r0_22, r0_23]) :: F) ∧ v = I r) := by
 unfold f_cluster_Cluster_Len__widen_Cluster_4 at H
 refine en func154 rfl rfl (sr (va (I 0) (wln (W.seq (sr (va (.pointer (some ⟨b, 4, none⟩)) (va (B false) (wln (W.cond (t := false) (by kernel_rfl) (fun d => ?_) (fun d => ?_))))))))))
 ·cases d
 have H := ie d H
 refine W.skip (nrm (sr (va (.pointer (some ⟨b, 4, none⟩)) (va (.pointer (some ⟨b, 4, none⟩)) (va (.pointer (some ⟨b, 20, none⟩)) (vx (le1 20 underlying3 (e.on 0 rfl)) (va (I a.n) (wln (W.ret ?_)))))))))
 obtain rfl := si H
 exact r1 ⟨_, c0, rfl, rfl, pt, e, rfl⟩
def f_cluster_Cluster_Full__widen_Cluster_4 (p0 : G_cluster_Cluster) : Option (Bool) :=
 (f_cluster_Cluster_Len__widen_Cluster_4 p0).bind fun a =>
 some (a == 16)
theorem c_cluster_Cluster_Full__widen_Cluster_4 {b : Nat} {r0_0 : Value} {r0_1 : Value} {r0_2 : Value} {r0_3 : Value} {r0_21 : Value} {r0_22 : Value} {r0_23 : Value} (a : G_cluster_Cluster) (e : Own c0 G ((Eb b 133 [r0_0, r0_1, r0_2, r0_3, J a.text.1, J a.text.2.1, J a.text.2.2.1, J a.text.2.2.2.1, J a.text.2.2.2.2.1, J a.text.2.2.2.2.2.1, J a.text.2.2.2.2.2.2.1, J a.text.2.2.2.2.2.2.2.1, J a.text.2.2.2.2.2.2.2.2.1, J a.text.2.2.2.2.2.2.2.2.2.1, J a.text.2.2.2.2.2.2.2.2.2.2.1, J a.text.2.2.2.2.2.2.2.2.2.2.2.1, J a.text.2.2.2.2.2.2.2.2.2.2.2.2.1, J a.text.2.2.2.2.2.2.2.2.2.2.2.2.2.1, J a.text.2.2.2.2.2.2.2.2.2.2.2.2.2.2.1, J a.text.2.2.2.2.2.2.2.2.2.2.2.2.2.2.2, I a.n, r0_21, r0_22, r0_23]) :: F)) {r : Bool} (H : f_cluster_Cluster_Full__widen_Cluster_4 a = some r) :
    Calls prog 84 #[.pointer (some ⟨b, 4, none⟩)] c0.w (Post c0 fun c v => Own c G ((Eb b 133 [r0_0, r0_1, r0_2, r0_3, J a.text.1, J a.text.2.1, J a.text.2.2.1, J a.text.2.2.2.1, J a.text.2.2.2.2.1, J a.text.2.2.2.2.2.1, J a.text.2.2.2.2.2.2.1, J a.text.2.2.2.2.2.2.2.1, J a.text.2.2.2.2.2.2.2.2.1, J a.text.2.2.2.2.2.2.2.2.2.1, J a.text.2.2.2.2.2.2.2.2.2.2.1, J a.text.2.2.2.2.2.2.2.2.2.2.2.1, J a.text.2.2.2.2.2.2.2.2.2.2.2.2.1, J a.text.2.2.2.2.2.2.2.2.2.2.2.2.2.1, J a.text.2.2.2.2.2.2.2.2.2.2.2.2.2.2.1, J a.text.2.2.2.2.2.2.2.2.2.2.2.2.2.2.2, I a.n, r0_21, r0_22, r0_23]) :: F) ∧ v = B r) := by
 unfold f_cluster_Cluster_Full__widen_Cluster_4 at H
 refine en func84 rfl rfl (sr (va (B false) (wln (sr (va (.pointer (some ⟨b, 4, none⟩)) (bn H fun d h H => cl (c_cluster_Cluster_Len__widen_Cluster_4 a e h) ?_))))))
 rintro v8 g i ⟨f, rfl⟩
 refine va (B (d == 16)) (va (B (d == 16)) (wln (W.ret ?_)))
 obtain rfl := si H
 exact r1 ⟨_, g, rfl, rfl, pt, f, rfl⟩
def f_cluster_Cluster_Add__widen_Cluster_4 (p0 : G_cluster_Cluster) (p1 : Int) : Option (G_cluster_Cluster × Bool) :=
 (orE false ((f_cluster_Cluster_Full__widen_Cluster_4 p0).bind fun c =>
 some c)).bind fun b =>
 if b = true then
 some (p0, false)
 else
 (idx (a16 p0.text) p0.n).bind fun d =>
 (some (aset16 p0.text p0.n p1)).bind fun a =>
 some ((⟨a, (w64 (p0.n + 1))⟩ : G_cluster_Cluster), true)
theorem c_cluster_Cluster_Add__widen_Cluster_4 {d : Nat} {r0_0 : Value} {r0_1 : Value} {r0_2 : Value} {r0_3 : Value} {r0_21 : Value} {r0_22 : Value} {r0_23 : Value} (a : G_cluster_Cluster) (f : Int) (M : Own c0 G ((Eb d 133 [r0_0, r0_1, r0_2, r0_3, J a.text.1, J a.text.2.1, J a.text.2.2.1, J a.text.2.2.2.1, J a.text.2.2.2.2.1, J a.text.2.2.2.2.2.1, J a.text.2.2.2.2.2.2.1, J a.text.2.2.2.2.2.2.2.1, J a.text.2.2.2.2.2.2.2.2.1, J a.text.2.2.2.2.2.2.2.2.2.1, J a.text.2.2.2.2.2.2.2.2.2.2.1, J a.text.2.2.2.2.2.2.2.2.2.2.2.1, J a.text.2.2.2.2.2.2.2.2.2.2.2.2.1, J a.text.2.2.2.2.2.2.2.2.2.2.2.2.2.1, J a.text.2.2.2.2.2.2.2.2.2.2.2.2.2.2.1, J a.text.2.2.2.2.2.2.2.2.2.2.2.2.2.2.2, I a.n, r0_21, r0_22, r0_23]) :: F)) {r : G_cluster_Cluster × Bool} (H : f_cluster_Cluster_Add__widen_Cluster_4 a f = some r) :
    Calls prog 151 #[.pointer (some ⟨d, 4, none⟩), J f] c0.w (Post c0 fun c v => Own c G ((Eb d 133 [r0_0, r0_1, r0_2, r0_3, J r.1.text.1, J r.1.text.2.1, J r.1.text.2.2.1, J r.1.text.2.2.2.1, J r.1.text.2.2.2.2.1, J r.1.text.2.2.2.2.2.1, J r.1.text.2.2.2.2.2.2.1, J r.1.text.2.2.2.2.2.2.2.1, J r.1.text.2.2.2.2.2.2.2.2.1, J r.1.text.2.2.2.2.2.2.2.2.2.1, J r.1.text.2.2.2.2.2.2.2.2.2.2.1, J r.1.text.2.2.2.2.2.2.2.2.2.2.2.1, J r.1.text.2.2.2.2.2.2.2.2.2.2.2.2.1, J r.1.text.2.2.2.2.2.2.2.2.2.2.2.2.2.1, J r.1.text.2.2.2.2.2.2.2.2.2.2.2.2.2.2.1, J r.1.text.2.2.2.2.2.2.2.2.2.2.2.2.2.2.2, I r.1.n, r0_21, r0_22, r0_23]) :: F) ∧ v = B r.2) := by
 unfold f_cluster_Cluster_Add__widen_Cluster_4 at H
 refine en func151 rfl rfl (sr (va (B false) (wln (W.seq (W.seq (bn H fun u R H => W.join (Jn c0 fun c l => Own c G ((Eb d 133 [r0_0, r0_1, r0_2, r0_3, J a.text.1, J a.text.2.1, J a.text.2.2.1, J a.text.2.2.2.1, J a.text.2.2.2.2.1, J a.text.2.2.2.2.2.1, J a.text.2.2.2.2.2.2.1, J a.text.2.2.2.2.2.2.2.1, J a.text.2.2.2.2.2.2.2.2.1, J a.text.2.2.2.2.2.2.2.2.2.1, J a.text.2.2.2.2.2.2.2.2.2.2.1, J a.text.2.2.2.2.2.2.2.2.2.2.2.1, J a.text.2.2.2.2.2.2.2.2.2.2.2.2.1, J a.text.2.2.2.2.2.2.2.2.2.2.2.2.2.1, J a.text.2.2.2.2.2.2.2.2.2.2.2.2.2.2.1, J a.text.2.2.2.2.2.2.2.2.2.2.2.2.2.2.2, I a.n, r0_21, r0_22, r0_23]) :: F) ∧ l = [(0, .pointer (some ⟨d, 4, none⟩)), (1, J f), (10, B u)]) ?_ ?_))))))
 ·clear H
  refine W.region (va (.pointer (some ⟨d, 4, none⟩)) (va (B false) ?_))
  have y : false = false := rfl
  have m := orF y R
  refine vb y (wn (va (.pointer (some ⟨d, 4, none⟩)) (wn (bn m fun E S m => cl (c_cluster_Cluster_Full__widen_Cluster_4 a M S) ?_))))
  rintro v11 p b0 ⟨N, rfl⟩
  obtain rfl := si m
  exact va (B E) (wln ⟨p, _, _, rfl, pt, us, N, rfl⟩)
 rintro e_ w_ ⟨q, a0, _, rfl, d0, rfl, g, rfl⟩
 refine nrm (cn H (fun x H => ?_) (fun x H => ?_))
 ·refine sr (va (B false) (wln (W.ret (thr ?_))))
  obtain rfl := si H
  exact r1 ⟨_, q, rfl, rfl, pt, g, rfl⟩
 refine W.skip (nrm (W.seq (rD [9] (Kp G0 [(Eb d 133 [r0_0, r0_1, r0_2, r0_3, J a.text.1, J a.text.2.1, J a.text.2.2.1, J a.text.2.2.2.1, J a.text.2.2.2.2.1, J a.text.2.2.2.2.2.1, J a.text.2.2.2.2.2.2.1, J a.text.2.2.2.2.2.2.2.1, J a.text.2.2.2.2.2.2.2.2.1, J a.text.2.2.2.2.2.2.2.2.2.1, J a.text.2.2.2.2.2.2.2.2.2.2.1, J a.text.2.2.2.2.2.2.2.2.2.2.2.1, J a.text.2.2.2.2.2.2.2.2.2.2.2.2.1, J a.text.2.2.2.2.2.2.2.2.2.2.2.2.2.1, J a.text.2.2.2.2.2.2.2.2.2.2.2.2.2.2.1, J a.text.2.2.2.2.2.2.2.2.2.2.2.2.2.2.2, I a.n, r0_21, r0_22, r0_23])]) g ?_)))
 intro s e0 h
 have D : Kp G0 [(Eb d 133 [r0_0, r0_1, r0_2, r0_3, J a.text.1, J a.text.2.1, J a.text.2.2.1, J a.text.2.2.2.1, J a.text.2.2.2.2.1, J a.text.2.2.2.2.2.1, J a.text.2.2.2.2.2.2.1, J a.text.2.2.2.2.2.2.2.1, J a.text.2.2.2.2.2.2.2.2.1, J a.text.2.2.2.2.2.2.2.2.2.1, J a.text.2.2.2.2.2.2.2.2.2.2.1, J a.text.2.2.2.2.2.2.2.2.2.2.2.1, J a.text.2.2.2.2.2.2.2.2.2.2.2.2.1, J a.text.2.2.2.2.2.2.2.2.2.2.2.2.2.1, J a.text.2.2.2.2.2.2.2.2.2.2.2.2.2.2.1, J a.text.2.2.2.2.2.2.2.2.2.2.2.2.2.2.2, I a.n, r0_21, r0_22, r0_23])] s := (Kp.cons (h.on 0 rfl) Kp.nil0)
 refine ta 0 (.pointer (some ⟨d, 4, none⟩)) (ta 1 (.pointer (some ⟨d, 4, none⟩)) (ta 2 (.pointer (some ⟨d, 4, none⟩)) (ta 3 (.pointer (some ⟨d, 20, none⟩)) (tkx 4 D (fun P A U => le1 20 underlying3 (U.on 0 rfl)) (ta 5 (J f) (ta 6 (.pointer (some ⟨d, 4, none⟩)) (ta 7 (.pointer (some ⟨d, 4, none⟩)) (bn H fun X e H => AC.take 8 (.pointer (some ⟨d, 4 + a.n.toNat * 1, none⟩)) rfl (by kernel_rfl) (by kernel_rfl) (fun P A => (rx (by kernel_rfl) (run_indexA (k := .i64) underlying127 (by kernel_rfl) (idx_lt e).1 (idx_lt e).2 _))) (bn H fun b z H => o1 9 (gD 9 (Own.st (T := 21) (j := 4 + a.n.toNat * 1) (us := [J f]) (nw := [r0_0, r0_1, r0_2, r0_3, J b.1, J b.2.1, J b.2.2.1, J b.2.2.2.1, J b.2.2.2.2.1, J b.2.2.2.2.2.1, J b.2.2.2.2.2.2.1, J b.2.2.2.2.2.2.2.1, J b.2.2.2.2.2.2.2.2.1, J b.2.2.2.2.2.2.2.2.2.1, J b.2.2.2.2.2.2.2.2.2.2.1, J b.2.2.2.2.2.2.2.2.2.2.2.1, J b.2.2.2.2.2.2.2.2.2.2.2.2.1, J b.2.2.2.2.2.2.2.2.2.2.2.2.2.1, J b.2.2.2.2.2.2.2.2.2.2.2.2.2.2.1, J b.2.2.2.2.2.2.2.2.2.2.2.2.2.2.2, I a.n, r0_21, r0_22, r0_23]) (v := J f) 0 h (by kernel_rfl) rfl rfl rfl rfl (by kernel_rfl) ⟨rfl, trivial⟩ (ble16 e (Nat.le_of_ble_eq_true rfl)) (set16 (k := .i32) e z [r0_0, r0_1, r0_2, r0_3] [I a.n, r0_21, r0_22, r0_23])) ?_))))))))))
 rintro Z f0 i
 refine ⟨.inl rfl, dn (nrm (sr (va (.pointer (some ⟨d, 4, none⟩)) (va (.pointer (some ⟨d, 4, none⟩)) (va (.pointer (some ⟨d, 20, none⟩)) (vx (le1 20 underlying3 (i.on 0 rfl)) (va (I (w64 (a.n + 1))) (va (.pointer (some ⟨d, 4, none⟩)) (va (.pointer (some ⟨d, 20, none⟩)) (md (sC 3 20 (I (w64 (a.n + 1))) [r0_0, r0_1, r0_2, r0_3, J b.1, J b.2.1, J b.2.2.1, J b.2.2.2.1, J b.2.2.2.2.1, J b.2.2.2.2.2.1, J b.2.2.2.2.2.2.1, J b.2.2.2.2.2.2.2.1, J b.2.2.2.2.2.2.2.2.1, J b.2.2.2.2.2.2.2.2.2.1, J b.2.2.2.2.2.2.2.2.2.2.1, J b.2.2.2.2.2.2.2.2.2.2.2.1, J b.2.2.2.2.2.2.2.2.2.2.2.2.1, J b.2.2.2.2.2.2.2.2.2.2.2.2.2.1, J b.2.2.2.2.2.2.2.2.2.2.2.2.2.2.1, J b.2.2.2.2.2.2.2.2.2.2.2.2.2.2.2, I (w64 (a.n + 1)), r0_21, r0_22, r0_23] 0 i ⟨rfl, trivial⟩) ?_))))))))))⟩
 rintro t g0 o
 refine wln (sr (va (B true) (wln (W.ret ?_))))
 obtain rfl := si H
 exact r1 ⟨_, t, rfl, rfl, pt, o, rfl⟩
def f_basew_none (p0 : Int) : Option (Bool) :=
 (if (p0 == 1) = true then
 some (p0 == 1)
 else
 if (p0 == 2) = true then
 some (p0 == 2)
 else
 some (p0 == 3)).bind fun c =>
 if c = true then
 some true
 else
 (if (p0 == 4) = true then
 some (p0 == 4)
 else
 some (p0 == 5)).bind fun a =>
 if a = true then
 some true
 else
 (if (p0 == 10) = true then
 some (p0 == 10)
 else
 some (p0 == 11)).bind fun b =>
 if b = true then
 some true
 else
 some false
theorem c_basew_none (o : Own c0 G F) (a : Int) {r : Bool} (H : f_basew_none a = some r) :
    Calls prog 267 #[I a] c0.w (Post c0 fun c v => Own c G (F) ∧ v = B r) := by
 unfold f_basew_none at H
 refine en func267 rfl rfl (sr (va (B false) (wln (W.seq (sr (va (I a) (wln (W.block (W.seq (W.block (W.block (W.block (W.seq (W.seq (bn H fun E b i => W.seqJ (Jn c0 fun c l => Own c G (F) ∧ l = [(3, I a), (4, B E)]) ?_ ?_)))))))))))))))
 ·refine sr (va (B (a == 1)) (va (B (a == 1)) (wln (cn b (fun M b => ?_) (fun M b => ?_)))))
  ·refine W.skip (nrm ?_)
   obtain rfl := si b
   exact ⟨c0, _, _, rfl, pt, us, o, rfl⟩
  refine sr (va (B (a == 2)) (va (B (a == 2)) (wln (cn b (fun N b => ?_) (fun N b => ?_)))))
  ·refine W.skip (nrm ?_)
   obtain rfl := si b
   exact ⟨c0, _, _, rfl, pt, us, o, rfl⟩
  refine W.region (va (B (a == 3)) (va (B (a == 3)) (wln ?_)))
  obtain rfl := si b
  exact ⟨c0, _, _, rfl, pt, us, o, rfl⟩
 rintro t D ⟨k, U, _, rfl, X, rfl, p, rfl⟩
 refine cn i (fun u i => ?_) (fun u i => ?_)
 ·refine W.exit (thx (thx (bke (bkn (bkn (nrm (W.seq (sr (va (B true) (wln (W.ret (thr (bkr (thr ?_))))))))))))))
  obtain rfl := si i
  exact r1 ⟨_, k, rfl, rfl, pt, p, rfl⟩
 refine W.skip (nrm (W.seq (bn i fun q d e => W.seqJ (Jn k fun c l => Own c G (F) ∧ l = [(3, I a), (8, B q)]) ?_ ?_)))
 ·refine sr (va (B (a == 4)) (va (B (a == 4)) (wln (cn d (fun x d => ?_) (fun x d => ?_)))))
  ·refine W.skip (nrm ?_)
   obtain rfl := si d
   exact ⟨k, _, _, rfl, pt, us, p, rfl⟩
  refine W.region (va (B (a == 5)) (va (B (a == 5)) (wln ?_)))
  obtain rfl := si d
  exact ⟨k, _, _, rfl, pt, us, p, rfl⟩
 rintro t D ⟨h, P, _, rfl, S, rfl, j, rfl⟩
 refine cn e (fun y e => ?_) (fun y e => ?_)
 ·refine W.exit (thx (thx (bko rfl (bke (bkn (nrm (W.seq (sr (va (B true) (wln (W.ret (thr (bkr (thr ?_))))))))))))))
  obtain rfl := si e
  exact r1 ⟨_, h, rfl, rfl, pt, j, rfl⟩
 refine W.skip (nrm (bn e fun s f g => W.seqJ (Jn h fun c l => Own c G (F) ∧ l = [(11, B s)]) ?_ ?_))
 ·refine sr (va (B (a == 10)) (va (B (a == 10)) (wln (cn f (fun z f => ?_) (fun z f => ?_)))))
  ·refine W.skip (nrm ?_)
   obtain rfl := si f
   exact ⟨h, _, _, rfl, pt, us, j, rfl⟩
  refine W.region (va (B (a == 11)) (va (B (a == 11)) (wln ?_)))
  obtain rfl := si f
  exact ⟨h, _, _, rfl, pt, us, j, rfl⟩
 rintro t D ⟨n, R, _, rfl, T, rfl, m, rfl⟩
 refine cn g (fun A g => ?_) (fun A g => ?_)
 ·refine W.exit (thx (bko rfl (bko rfl (bke (nrm (W.seq (sr (va (B true) (wln (W.ret (thr (bkr (thr ?_)))))))))))))
  obtain rfl := si g
  exact r1 ⟨_, n, rfl, rfl, pt, m, rfl⟩
 refine W.skip (nrm (W.exit (bko rfl (bko rfl (bko rfl (thx (bke (nrm (sr (va (B false) (wln (W.ret ?_))))))))))))
 obtain rfl := si g
 exact r1 ⟨_, n, rfl, rfl, pt, m, rfl⟩
def f_basew_Of (p0 : G_api_Prop) : Option (Int) :=
 (f_basew_none p0.Break).bind fun b =>
 if b = true then
 some 0
 else
 (orE (p0.East == 1) (some (p0.East == 2))).bind fun a =>
 if a = true then
 some 2
 else
 some 1
theorem c_basew_Of (q : Own c0 G F) (a : G_api_Prop) {r : Int} (H : f_basew_Of a = some r) :
    Calls prog 248 #[.agg #[I a.Break, B a.Pict, I a.Conj, I a.East]] c0.w (Post c0 fun c v => Own c G (F) ∧ v = I r) := by
 unfold f_basew_Of at H
 refine en func248 rfl rfl (sr (me (bx 33 [I a.Break, B a.Pict, I a.Conj, I a.East] q) ?_))
 rintro v5 z D ⟨i, rfl, s, k⟩
 refine va (I 0) (wln (W.seq (W.block (sr (va (Q i) (vx (l1 underlying3 (k 0 _ rfl)) (bn H fun p t H => cl (c_basew_none s a.Break t) ?_)))))))
 rintro v12 d x ⟨h, rfl⟩
 refine va (B p) (wln (cn H (fun n H => ?_) (fun n H => ?_)))
 ·refine sr (va (I 0) (wln (W.ret (bkr (thr ?_)))))
  obtain rfl := si H
  exact r1 ⟨_, d, rfl, rfl, pt, h, rfl⟩
 refine W.seq (bn H fun j g H => W.join (Jn d fun c l => Own c G (F) ∧ l = [(7, B j)]) ?_ ?_)
 ·clear H
  refine W.region (va (.pointer (some ⟨i, 0 + 3, none⟩)) (vx (l1 underlying3 ((mm k) 3 _ rfl)) (va (B (a.East == 1)) ?_)))
  rcases bo (a.East == 1) with b | b
  ·obtain rfl := orT b g
   exact vb b (ps (ps (ps (va (B true) (va (B true) (wln ⟨d, _, _, rfl, pt, us, h, rfl⟩))))))
  have m := orF b g
  refine vb b (wn (va (.pointer (some ⟨i, 0 + 3, none⟩)) (wn (vx (l1 underlying3 ((mm k) 3 _ rfl)) (wn (va (B (a.East == 2)) ?_))))))
  obtain rfl := si m
  exact va (B (a.East == 2)) (va (B (a.East == 2)) (wln ⟨d, _, _, rfl, pt, us, h, rfl⟩))
 rintro A E ⟨f, u, _, rfl, y, rfl, e, rfl⟩
 refine nrm (cn H (fun o H => ?_) (fun o H => ?_))
 ·refine sr (va (I 2) (wln (W.ret (bkr (thr ?_)))))
  obtain rfl := si H
  exact r1 ⟨_, f, rfl, rfl, pt, e, rfl⟩
 refine W.skip (bkn (nrm (sr (va (I 1) (wln (W.ret ?_))))))
 obtain rfl := si H
 exact r1 ⟨_, f, rfl, rfl, pt, e, rfl⟩
def f_cwidth_Gauge_widens__widen_Cluster_21 (p0 : G_cwidth_Gauge) (p1 : Int) (p2 : G_api_Prop) : Option (Bool) :=
 (f_basew_Of p2).bind fun d =>
 if (d == 2) = true then
 some true
 else
 if (!p0.some) = true then
 some false
 else
 (andE (p1 == 65039) (some p0.pict)).bind fun a =>
 (orE a (some p2.Pict)).bind fun b =>
 (orE b (some (p2.Break == 6))).bind fun c =>
 some c
theorem c_cwidth_Gauge_widens__widen_Cluster_21 {b : Nat} {r0_0 : Value} {r0_1 : Value} {r0_2 : Value} {r0_3 : Value} {r0_4 : Value} {r0_5 : Value} {r0_6 : Value} {r0_7 : Value} {r0_8 : Value} {r0_9 : Value} {r0_10 : Value} {r0_11 : Value} {r0_12 : Value} {r0_13 : Value} {r0_14 : Value} {r0_15 : Value} {r0_16 : Value} {r0_17 : Value} {r0_18 : Value} {r0_19 : Value} {r0_20 : Value} (d : G_cwidth_Gauge) (o : Int) (a : G_api_Prop) (S : Own c0 G ((Eb b 133 [r0_0, r0_1, r0_2, r0_3, r0_4, r0_5, r0_6, r0_7, r0_8, r0_9, r0_10, r0_11, r0_12, r0_13, r0_14, r0_15, r0_16, r0_17, r0_18, r0_19, r0_20, B d.some, B d.pict, B d.wide]) :: F)) {r : Bool} (H : f_cwidth_Gauge_widens__widen_Cluster_21 d o a = some r) :
    Calls prog 203 #[.pointer (some ⟨b, 21, none⟩), J o, .agg #[I a.Break, B a.Pict, I a.Conj, I a.East]] c0.w (Post c0 fun c v => Own c G ((Eb b 133 [r0_0, r0_1, r0_2, r0_3, r0_4, r0_5, r0_6, r0_7, r0_8, r0_9, r0_10, r0_11, r0_12, r0_13, r0_14, r0_15, r0_16, r0_17, r0_18, r0_19, r0_20, B d.some, B d.pict, B d.wide]) :: F) ∧ v = B r) := by
 unfold f_cwidth_Gauge_widens__widen_Cluster_21 at H
 refine en func203 rfl rfl (sr (me (bx 33 [I a.Break, B a.Pict, I a.Conj, I a.East] S) ?_))
 rintro v5 c4 l4 ⟨p, rfl, T, n⟩
 refine va (B false) (wln (W.seq (W.block (sr (vx (lN 33 n) (bn H fun u Z H => cl (c_basew_Of T a Z) ?_))))))
 rintro v12 e b0 ⟨f, rfl⟩
 refine va (B (u == 2)) (va (B (u == 2)) (wln (cn H (fun P H => ?_) (fun P H => ?_))))
 ·refine sr (va (B true) (wln (W.ret (bkr (thr ?_)))))
  obtain rfl := si H
  exact r1 ⟨_, e, rfl, rfl, pt, f, rfl⟩
 refine sr (va (.pointer (some ⟨b, 21, none⟩)) (va (.pointer (some ⟨b, 21, none⟩)) (va (.pointer (some ⟨b, 21, none⟩)) (vx (le1 21 underlying4 (f.on 0 rfl)) (va (B (!d.some)) (va (B (!d.some)) (wln (cn H (fun R H => ?_) (fun R H => ?_)))))))))
 ·refine sr (va (B false) (wln (W.ret (bkr (thr ?_)))))
  obtain rfl := si H
  exact r1 ⟨_, e, rfl, rfl, pt, f, rfl⟩
 refine W.skip (bkn (nrm (W.seq (bn H fun U q H => bn H fun X m H => bn H fun x g H => W.join (Jn e fun c l => Own c G ((Eb b 133 [r0_0, r0_1, r0_2, r0_3, r0_4, r0_5, r0_6, r0_7, r0_8, r0_9, r0_10, r0_11, r0_12, r0_13, r0_14, r0_15, r0_16, r0_17, r0_18, r0_19, r0_20, B d.some, B d.pict, B d.wide]) :: F) ∧ l = [(6, B x)]) ?_ ?_))))
 ·clear H
  refine W.region (va (J o) (va (B (o == 65039)) ?_))
  rcases bo (o == 65039) with h | h
  ·have y := anT h q
   refine vb h (wn (va (.pointer (some ⟨b, 21, none⟩)) (wn (va (.pointer (some ⟨b, 21, none⟩)) (wn (va (.pointer (some ⟨b, 22, none⟩)) (wn (vx (le1 22 underlying4 (f.on 0 rfl)) ?_))))))))
   obtain rfl := si y
   refine va (B d.pict) ?_
   rcases bo (d.pict) with i | i
   ·obtain rfl := orT i m
    refine vb i (ps (ps (va (B true) ?_)))
    have s : true = true := rfl
    obtain rfl := orT s g
    exact vb s (ps (ps (ps (va (B true) (va (B true) (wln ⟨e, _, _, rfl, pt, us, f, rfl⟩))))))
   have z := orF i m
   refine vb i (wn (va (.pointer (some ⟨p, 0 + 1, none⟩)) (wn (vx (l1 underlying4 ((mm n) 1 _ rfl)) ?_))))
   obtain rfl := si z
   refine va (B a.Pict) ?_
   rcases bo (a.Pict) with j | j
   ·obtain rfl := orT j g
    exact vb j (ps (ps (ps (va (B true) (va (B true) (wln ⟨e, _, _, rfl, pt, us, f, rfl⟩))))))
   have A := orF j g
   refine vb j (wn (va (Q p) (wn (vx (l1 underlying3 ((mm n) 0 _ rfl)) (wn (va (B (a.Break == 6)) ?_))))))
   obtain rfl := si A
   exact va (B (a.Break == 6)) (va (B (a.Break == 6)) (wln ⟨e, _, _, rfl, pt, us, f, rfl⟩))
  obtain rfl := anF h q
  refine vb h (ps (ps (ps (ps (va (B false) ?_)))))
  have t : false = false := rfl
  have D := orF t m
  refine vb t (wn (va (.pointer (some ⟨p, 0 + 1, none⟩)) (wn (vx (l1 underlying4 ((mm n) 1 _ rfl)) ?_))))
  obtain rfl := si D
  refine va (B a.Pict) ?_
  rcases bo (a.Pict) with k | k
  ·obtain rfl := orT k g
   exact vb k (ps (ps (ps (va (B true) (va (B true) (wln ⟨e, _, _, rfl, pt, us, f, rfl⟩))))))
  have E := orF k g
  refine vb k (wn (va (Q p) (wn (vx (l1 underlying3 ((mm n) 0 _ rfl)) (wn (va (B (a.Break == 6)) ?_))))))
  obtain rfl := si E
  exact va (B (a.Break == 6)) (va (B (a.Break == 6)) (wln ⟨e, _, _, rfl, pt, us, f, rfl⟩))
 rintro e_ w_ ⟨N, a0, _, rfl, d0, rfl, M, rfl⟩
 refine nrm (W.ret ?_)
 obtain rfl := si H
 exact r1 ⟨_, N, rfl, rfl, pt, M, rfl⟩
def f_cwidth_Gauge_Step__widen_Cluster_21 (p0 : G_cwidth_Gauge) (p1 : Int) (p2 : G_api_Prop) : Option (G_cwidth_Gauge × Int) :=
 if false = true then
 some (p0, 1)
 else
 (orE p0.wide ((f_cwidth_Gauge_widens__widen_Cluster_21 p0 p1 p2).bind fun b =>
 some b)).bind fun a =>
 if a = true then
 some ((⟨true, p2.Pict, a⟩ : G_cwidth_Gauge), 2)
 else
 some ((⟨true, p2.Pict, a⟩ : G_cwidth_Gauge), 1)
theorem c_cwidth_Gauge_Step__widen_Cluster_21 {a : Nat} {r0_0 : Value} {r0_1 : Value} {r0_2 : Value} {r0_3 : Value} {r0_4 : Value} {r0_5 : Value} {r0_6 : Value} {r0_7 : Value} {r0_8 : Value} {r0_9 : Value} {r0_10 : Value} {r0_11 : Value} {r0_12 : Value} {r0_13 : Value} {r0_14 : Value} {r0_15 : Value} {r0_16 : Value} {r0_17 : Value} {r0_18 : Value} {r0_19 : Value} {r0_20 : Value} (b : G_cwidth_Gauge) (k : Int) (d : G_api_Prop) (T : Own c0 G ((Eb a 133 [r0_0, r0_1, r0_2, r0_3, r0_4, r0_5, r0_6, r0_7, r0_8, r0_9, r0_10, r0_11, r0_12, r0_13, r0_14, r0_15, r0_16, r0_17, r0_18, r0_19, r0_20, B b.some, B b.pict, B b.wide]) :: F)) {r : G_cwidth_Gauge × Int} (H : f_cwidth_Gauge_Step__widen_Cluster_21 b k d = some r) :
    Calls prog 152 #[.pointer (some ⟨a, 21, none⟩), J k, .agg #[I d.Break, B d.Pict, I d.Conj, I d.East]] c0.w (Post c0 fun c v => Own c G ((Eb a 133 [r0_0, r0_1, r0_2, r0_3, r0_4, r0_5, r0_6, r0_7, r0_8, r0_9, r0_10, r0_11, r0_12, r0_13, r0_14, r0_15, r0_16, r0_17, r0_18, r0_19, r0_20, B r.1.some, B r.1.pict, B r.1.wide]) :: F) ∧ v = I r.2) := by
 unfold f_cwidth_Gauge_Step__widen_Cluster_21 at H
 refine en func152 rfl rfl (sr (me (bx 33 [I d.Break, B d.Pict, I d.Conj, I d.East] T) ?_))
 rintro v5 X l4 ⟨x, rfl, m, P⟩
 refine va (I 0) (wln (W.seq (sr (va (.pointer (some ⟨a, 21, none⟩)) (va (B false) (wln (W.cond (t := false) (by kernel_rfl) (fun n => ?_) (fun n => ?_))))))))
 ·cases n
 have H := ie n H
 refine W.skip (nrm (W.seq (bn H fun e N H => W.join (Jn X fun c l => Own c G ((Eb a 133 [r0_0, r0_1, r0_2, r0_3, r0_4, r0_5, r0_6, r0_7, r0_8, r0_9, r0_10, r0_11, r0_12, r0_13, r0_14, r0_15, r0_16, r0_17, r0_18, r0_19, r0_20, B b.some, B b.pict, B e]) :: F) ∧ l = [(0, .pointer (some ⟨a, 21, none⟩)), (5, Q x)]) ?_ ?_)))
 ·clear H
  refine W.region (va (.pointer (some ⟨a, 21, none⟩)) (va (.pointer (some ⟨a, 21, none⟩)) (va (.pointer (some ⟨a, 21, none⟩)) (va (.pointer (some ⟨a, 23, none⟩)) (vx (le1 23 underlying4 (m.on 0 rfl)) ?_)))))
  rcases bo (b.wide) with j | j
  ·obtain rfl := orT j N
   refine vb j (ps (ps (ps (ps (va (B true) (va (.pointer (some ⟨a, 21, none⟩)) (va (.pointer (some ⟨a, 23, none⟩)) (md (sC 4 23 (B true) [r0_0, r0_1, r0_2, r0_3, r0_4, r0_5, r0_6, r0_7, r0_8, r0_9, r0_10, r0_11, r0_12, r0_13, r0_14, r0_15, r0_16, r0_17, r0_18, r0_19, r0_20, B b.some, B b.pict, B true] 0 m ⟨rfl, trivial⟩) ?_))))))))
   rintro y e0 U
   exact wln ⟨y, _, _, rfl, pt, us, U, rfl⟩
  have g := orF j N
  refine vb j (wn (va (.pointer (some ⟨a, 21, none⟩)) (wn (va (J k) (wn (vx (lN 33 P) (wn (bn g fun f E g => cl (c_cwidth_Gauge_widens__widen_Cluster_21 b k d m E) ?_))))))))
  rintro v19 Z f0 ⟨o, rfl⟩
  obtain rfl := si g
  refine va (B f) (va (.pointer (some ⟨a, 21, none⟩)) (va (.pointer (some ⟨a, 23, none⟩)) (md (sC 4 23 (B f) [r0_0, r0_1, r0_2, r0_3, r0_4, r0_5, r0_6, r0_7, r0_8, r0_9, r0_10, r0_11, r0_12, r0_13, r0_14, r0_15, r0_16, r0_17, r0_18, r0_19, r0_20, B b.some, B b.pict, B f] 0 o ⟨rfl, trivial⟩) ?_)))
  rintro z g0 p
  exact wln ⟨z, _, _, rfl, pt, us, p, rfl⟩
 rintro e_ w_ ⟨a0, b0, _, rfl, h0, rfl, q, rfl⟩
 refine nrm (W.seq (rD [] (Kp G0 []) q ?_))
 intro A i0 s
 have l0 : Kp G0 [] A := Kp.nil0
 refine ta 0 (.pointer (some ⟨a, 21, none⟩)) (ta 1 (.pointer (some ⟨a, 21, none⟩)) (ta 2 (.pointer (some ⟨x, 0 + 1, none⟩)) (tx 3 (fun c' d0 => l1 underlying4 ((mm P) 1 _ rfl)) (ta 4 (.pointer (some ⟨a, 21, none⟩)) (ta 5 (.pointer (some ⟨a, 21, none⟩)) (o1 6 (gD 6 (sC 4 21 (B true) [r0_0, r0_1, r0_2, r0_3, r0_4, r0_5, r0_6, r0_7, r0_8, r0_9, r0_10, r0_11, r0_12, r0_13, r0_14, r0_15, r0_16, r0_17, r0_18, r0_19, r0_20, B true, B b.pict, B e] 0 s ⟨rfl, trivial⟩) ?_)))))))
 rintro D j0 u
 have R : Kp G0 [] D := Kp.nil0
 refine ⟨.inr R, ta 7 (.pointer (some ⟨a, 21, none⟩)) (ta 8 (.pointer (some ⟨a, 22, none⟩)) (o1 9 (gD 9 (sC 4 22 (B d.Pict) [r0_0, r0_1, r0_2, r0_3, r0_4, r0_5, r0_6, r0_7, r0_8, r0_9, r0_10, r0_11, r0_12, r0_13, r0_14, r0_15, r0_16, r0_17, r0_18, r0_19, r0_20, B true, B d.Pict, B e] 0 u ⟨rfl, trivial⟩) ?_)))⟩
 rintro i k0 h
 have S : Kp G0 [] i := Kp.nil0
 refine ⟨.inr S, dn (nrm (W.seq (sr (va (.pointer (some ⟨a, 21, none⟩)) (va (.pointer (some ⟨a, 21, none⟩)) (va (.pointer (some ⟨a, 23, none⟩)) (vx (le1 23 underlying4 (h.on 0 rfl)) (wln (cn H (fun M H => ?_) (fun M H => ?_))))))))))⟩
 ·refine sr (va (I 2) (wln (W.ret (thr ?_))))
  obtain rfl := si H
  exact r1 ⟨_, i, rfl, rfl, pt, h, rfl⟩
 refine W.skip (nrm (sr (va (I 1) (wln (W.ret ?_)))))
 obtain rfl := si H
 exact r1 ⟨_, i, rfl, rfl, pt, h, rfl⟩
def f_widen_Cluster_add (sg : Sto) (p0 : Option Nat) (p1 : Int) (p2 : G_api_Prop) : Option (Sto × Int) :=
 ((f_scalar_Valid p1).bind fun h =>
 if (!h) = true then
 some (65533)
 else
 some (p1)).bind fun g =>
 (p0).bind fun b =>
 (sg.widen_Cluster[b]?).bind fun a =>
 (f_cluster_Cluster_Add__widen_Cluster_4 a.text g).bind fun e =>
 (sg.set_widen_Cluster b (⟨a.at_, a.wide, e.1, a.gauge⟩ : G_widen_Cluster)).bind fun c =>
 (f_cwidth_Gauge_Step__widen_Cluster_21 a.gauge g p2).bind fun f =>
 (c.set_widen_Cluster b (⟨a.at_, a.wide, e.1, f.1⟩ : G_widen_Cluster)).bind fun d =>
 some (d, f.2)
theorem c_widen_Cluster_add (O0 : Own c0 G F) (T : Rel c0 sg G) (p0 : Option Nat) (m : Int) (f : G_api_Prop) {r : Sto × Int} (h2 : Pt 3 c0 v1 p0) (H : f_widen_Cluster_add sg p0 m f = some r) :
    Calls prog 82 #[v1, J m, .agg #[I f.Break, B f.Pict, I f.Conj, I f.East]] c0.w (Post c0 fun c v => ∃ G_ : Gm, Own c G_ (F) ∧ Rel c r.1 G_ ∧ v = I r.2) := by
 unfold f_widen_Cluster_add at H
 refine en func82 rfl rfl (sr (me (bx 33 [I f.Break, B f.Pict, I f.Conj, I f.East] O0) ?_))
 rintro v7 c6 s ⟨b3, rfl, O4, m5⟩
 refine va (I 0) (wln (bn H fun h i e => W.seqJ (Jn c6 fun c l => Own c G (F) ∧ l = [(0, v1), (1, J h), (5, Q b3)]) ?_ ?_))
 ·refine sr (va (J m) (bn i fun t0 a0 i => cl (c_scalar_Valid O4 m a0) ?_))
  rintro v16 p j1 ⟨o, rfl⟩
  refine va (B (!t0)) (wln (cn i (fun b0 i => ?_) (fun b0 i => ?_)))
  ·refine W.region (va (J 65533) (wln ?_))
   obtain rfl := si i
   exact ⟨p, _, _, rfl, pt, us, o, rfl⟩
  refine W.skip (nrm ?_)
  obtain rfl := si i
  exact ⟨p, _, _, rfl, pt, us, o, rfl⟩
 rintro e_ w_ ⟨e1, g1, _, rfl, k, rfl, y, rfl⟩
 refine sr (va (v1) (bn e fun z0 d0 e => ?_))
 obtain ⟨d, rfl, j⟩ := ((h2.mono (s.trans k))).get d0
 refine va (Q d) (va (.pointer (some ⟨d, 4, none⟩)) (va (J h) (bn e fun b e0 e => ?_)))
 have f0 := Rel.open_widen_Cluster (T.mono (s.trans k)) e0 j
 have z := y.borrow 0 f0 rfl
 refine bn e fun a g0 e => cl (c_cluster_Cluster_Add__widen_Cluster_4 b.text h z g0) ?_
 rintro v37 f1 l0 ⟨A, rfl⟩
 have D := A.giveB 0 rfl
 refine bn e fun t i0 e => ?_
 obtain ⟨b1, E, U, h0, c1⟩ := Rel.put_widen_Cluster D (T.mono (s.trans (k.trans l0))) (E' := [(Eb d 133 [I b.at_.Row, I b.at_.Col, B b.at_.Pending, I b.wide, J a.1.text.1, J a.1.text.2.1, J a.1.text.2.2.1, J a.1.text.2.2.2.1, J a.1.text.2.2.2.2.1, J a.1.text.2.2.2.2.2.1, J a.1.text.2.2.2.2.2.2.1, J a.1.text.2.2.2.2.2.2.2.1, J a.1.text.2.2.2.2.2.2.2.2.1, J a.1.text.2.2.2.2.2.2.2.2.2.1, J a.1.text.2.2.2.2.2.2.2.2.2.2.1, J a.1.text.2.2.2.2.2.2.2.2.2.2.2.1, J a.1.text.2.2.2.2.2.2.2.2.2.2.2.2.1, J a.1.text.2.2.2.2.2.2.2.2.2.2.2.2.2.1, J a.1.text.2.2.2.2.2.2.2.2.2.2.2.2.2.2.1, J a.1.text.2.2.2.2.2.2.2.2.2.2.2.2.2.2.2, I a.1.n, B b.gauge.some, B b.gauge.pict, B b.gauge.wide])]) i0 ⟨d, (tm j), rfl⟩
 refine wln (W.seq (rD [] (Kp G0 []) E ?_))
 intro Z m0 M
 have k1 : Kp G0 [] Z := Kp.nil0
 refine ta 0 (Q d) (ta 1 (Q d) (ta 2 (.pointer (some ⟨d, 21, none⟩)) (ta 3 (J h) (tx 4 (fun c' i1 => lN 33 (mm m5)) ?_))))
 have N := M.borrow 0 h0 rfl
 refine bn e fun g j0 e => o1 5 (gc 5 (c_cwidth_Gauge_Step__widen_Cluster_21 b.gauge h f N j0) ?_)
 rintro v56 q o0 ⟨P, rfl⟩
 have R := P.giveB 0 rfl
 refine bn e fun u k0 e => ?_
 obtain ⟨x, S, X, h1, d1⟩ := Rel.put_widen_Cluster R (U.mono (m0.trans o0)) (E' := [(Eb d 133 [I b.at_.Row, I b.at_.Col, B b.at_.Pending, I b.wide, J a.1.text.1, J a.1.text.2.1, J a.1.text.2.2.1, J a.1.text.2.2.2.1, J a.1.text.2.2.2.2.1, J a.1.text.2.2.2.2.2.1, J a.1.text.2.2.2.2.2.2.1, J a.1.text.2.2.2.2.2.2.2.1, J a.1.text.2.2.2.2.2.2.2.2.1, J a.1.text.2.2.2.2.2.2.2.2.2.1, J a.1.text.2.2.2.2.2.2.2.2.2.2.1, J a.1.text.2.2.2.2.2.2.2.2.2.2.2.1, J a.1.text.2.2.2.2.2.2.2.2.2.2.2.2.1, J a.1.text.2.2.2.2.2.2.2.2.2.2.2.2.2.1, J a.1.text.2.2.2.2.2.2.2.2.2.2.2.2.2.2.1, J a.1.text.2.2.2.2.2.2.2.2.2.2.2.2.2.2.2, I a.1.n, B g.1.some, B g.1.pict, B g.1.wide])]) k0 ⟨d, (tm j), rfl⟩
 have s0 : Kp G0 [] q := Kp.nil0
 refine ⟨.inr s0, ta 6 (I g.2) (dn (nrm (W.ret ?_)))⟩
 obtain rfl := si e
 exact r1 ⟨_, q, rfl, rfl, pt, x, S, X, rfl⟩
def f_cluster_Cluster_Text__widen_Cluster_4 (p0 : G_cluster_Cluster) : Option (List Int) :=
 if false = true then
 some ([] : List Int)
 else
 (slc (a16 p0.text) 0 p0.n).bind fun a =>
 (f_slices_Clone a).bind fun b =>
 some b
theorem c_cluster_Cluster_Text__widen_Cluster_4 {b : Nat} {r0_0 : Value} {r0_1 : Value} {r0_2 : Value} {r0_3 : Value} {r0_21 : Value} {r0_22 : Value} {r0_23 : Value} (a : G_cluster_Cluster) (p : Own c0 G ((Eb b 133 [r0_0, r0_1, r0_2, r0_3, J a.text.1, J a.text.2.1, J a.text.2.2.1, J a.text.2.2.2.1, J a.text.2.2.2.2.1, J a.text.2.2.2.2.2.1, J a.text.2.2.2.2.2.2.1, J a.text.2.2.2.2.2.2.2.1, J a.text.2.2.2.2.2.2.2.2.1, J a.text.2.2.2.2.2.2.2.2.2.1, J a.text.2.2.2.2.2.2.2.2.2.2.1, J a.text.2.2.2.2.2.2.2.2.2.2.2.1, J a.text.2.2.2.2.2.2.2.2.2.2.2.2.1, J a.text.2.2.2.2.2.2.2.2.2.2.2.2.2.1, J a.text.2.2.2.2.2.2.2.2.2.2.2.2.2.2.1, J a.text.2.2.2.2.2.2.2.2.2.2.2.2.2.2.2, I a.n, r0_21, r0_22, r0_23]) :: F)) {r : List Int} (H : f_cluster_Cluster_Text__widen_Cluster_4 a = some r) :
    Calls prog 83 #[.pointer (some ⟨b, 4, none⟩)] c0.w (Post c0 fun c v => ∃ h o, Own c G (es true (RI .i32) h 21 o r :: (Eb b 133 [r0_0, r0_1, r0_2, r0_3, J a.text.1, J a.text.2.1, J a.text.2.2.1, J a.text.2.2.2.1, J a.text.2.2.2.2.1, J a.text.2.2.2.2.2.1, J a.text.2.2.2.2.2.2.1, J a.text.2.2.2.2.2.2.2.1, J a.text.2.2.2.2.2.2.2.2.1, J a.text.2.2.2.2.2.2.2.2.2.1, J a.text.2.2.2.2.2.2.2.2.2.2.1, J a.text.2.2.2.2.2.2.2.2.2.2.2.1, J a.text.2.2.2.2.2.2.2.2.2.2.2.2.1, J a.text.2.2.2.2.2.2.2.2.2.2.2.2.2.1, J a.text.2.2.2.2.2.2.2.2.2.2.2.2.2.2.1, J a.text.2.2.2.2.2.2.2.2.2.2.2.2.2.2.2, I a.n, r0_21, r0_22, r0_23]) :: F) ∧ v = h ∧ OA (RI .i32) c h o r) := by
 unfold f_cluster_Cluster_Text__widen_Cluster_4 at H
 refine en func83 rfl rfl (sr (va (Y) (wln (W.seq (sr (va (.pointer (some ⟨b, 4, none⟩)) (va (B false) (wln (W.cond (t := false) (by kernel_rfl) (fun g => ?_) (fun g => ?_))))))))))
 ·cases g
 have H := ie g H
 refine W.skip (nrm (W.seq (rD [] (Kp G0 [(Eb b 133 [r0_0, r0_1, r0_2, r0_3, J a.text.1, J a.text.2.1, J a.text.2.2.1, J a.text.2.2.2.1, J a.text.2.2.2.2.1, J a.text.2.2.2.2.2.1, J a.text.2.2.2.2.2.2.1, J a.text.2.2.2.2.2.2.2.1, J a.text.2.2.2.2.2.2.2.2.1, J a.text.2.2.2.2.2.2.2.2.2.1, J a.text.2.2.2.2.2.2.2.2.2.2.1, J a.text.2.2.2.2.2.2.2.2.2.2.2.1, J a.text.2.2.2.2.2.2.2.2.2.2.2.2.1, J a.text.2.2.2.2.2.2.2.2.2.2.2.2.2.1, J a.text.2.2.2.2.2.2.2.2.2.2.2.2.2.2.1, J a.text.2.2.2.2.2.2.2.2.2.2.2.2.2.2.2, I a.n, r0_21, r0_22, r0_23])]) p ?_)))
 intro s M i
 have y : Kp G0 [(Eb b 133 [r0_0, r0_1, r0_2, r0_3, J a.text.1, J a.text.2.1, J a.text.2.2.1, J a.text.2.2.2.1, J a.text.2.2.2.2.1, J a.text.2.2.2.2.2.1, J a.text.2.2.2.2.2.2.1, J a.text.2.2.2.2.2.2.2.1, J a.text.2.2.2.2.2.2.2.2.1, J a.text.2.2.2.2.2.2.2.2.2.1, J a.text.2.2.2.2.2.2.2.2.2.2.1, J a.text.2.2.2.2.2.2.2.2.2.2.2.1, J a.text.2.2.2.2.2.2.2.2.2.2.2.2.1, J a.text.2.2.2.2.2.2.2.2.2.2.2.2.2.1, J a.text.2.2.2.2.2.2.2.2.2.2.2.2.2.2.1, J a.text.2.2.2.2.2.2.2.2.2.2.2.2.2.2.2, I a.n, r0_21, r0_22, r0_23])] s := (Kp.cons (i.on 0 rfl) Kp.nil0)
 refine ta 0 (.pointer (some ⟨b, 4, none⟩)) (ta 1 (.pointer (some ⟨b, 4, none⟩)) (ta 2 (.pointer (some ⟨b, 4, none⟩)) (ta 3 (.pointer (some ⟨b, 4, none⟩)) (ta 4 (.pointer (some ⟨b, 4, none⟩)) (ta 5 (.pointer (some ⟨b, 20, none⟩)) (tkx 6 y (fun q l x => le1 20 underlying3 (x.on 0 rfl)) (bn H fun A d H => AC.take 7 (.slice (some ⟨b, 4, none⟩) a.n.toNat 16) rfl (by kernel_rfl) (by kernel_rfl) (fun q l => (rx (by kernel_rfl) (run_cutA (k := .i64) underlying127 (by kernel_rfl) (slc_ok d).2.1 (slc_ok d).2.2.1 _))) (bn H fun D u H => o1 8 (gc 8 (c_slices_CloneV i rfl (slc_len0 d) (view16 (k := .i32) d [r0_0, r0_1, r0_2, r0_3] [I a.n, r0_21, r0_22, r0_23]) u) ?_)))))))))
 rintro v8 f E ⟨_, z, e, rfl, j⟩
 have m : Kp G0 [(Eb b 133 [r0_0, r0_1, r0_2, r0_3, J a.text.1, J a.text.2.1, J a.text.2.2.1, J a.text.2.2.2.1, J a.text.2.2.2.2.1, J a.text.2.2.2.2.2.1, J a.text.2.2.2.2.2.2.1, J a.text.2.2.2.2.2.2.2.1, J a.text.2.2.2.2.2.2.2.2.1, J a.text.2.2.2.2.2.2.2.2.2.1, J a.text.2.2.2.2.2.2.2.2.2.2.1, J a.text.2.2.2.2.2.2.2.2.2.2.2.1, J a.text.2.2.2.2.2.2.2.2.2.2.2.2.1, J a.text.2.2.2.2.2.2.2.2.2.2.2.2.2.1, J a.text.2.2.2.2.2.2.2.2.2.2.2.2.2.2.1, J a.text.2.2.2.2.2.2.2.2.2.2.2.2.2.2.2, I a.n, r0_21, r0_22, r0_23])] f := (Kp.cons (e.on 1 rfl) Kp.nil0)
 refine ⟨.inr m, ta 9 (v8) (dn (nrm (W.ret ?_)))⟩
 obtain rfl := si H
 exact r1 ⟨_, f, rfl, rfl, pt, v8, z, e, rfl, j⟩
def f_widen_Begin (sg : Sto) (p0 : Option Nat) (p1 : Int) (p2 : G_api_Prop) : Option (Sto × (Option Nat)) :=
 (orE p0.isNone ((p0).bind fun k =>
 (sg.place_Pen[k]?).bind fun h =>
 some h.G.isNone)).bind fun j =>
 if j = true then
 some (sg, (none : Option Nat))
 else
 (some (sg.add_widen_Cluster (⟨(⟨0, 0, false⟩ : G_api_Cursor), 0, (⟨(0, 0, 0, 0, 0, 0, 0, 0, 0, 0, 0, 0, 0, 0, 0, 0), 0⟩ : G_cluster_Cluster), (⟨false, false, false⟩ : G_cwidth_Gauge)⟩ : G_widen_Cluster))).bind fun e =>
 (f_widen_Cluster_add e (some sg.widen_Cluster.length) p1 p2).bind fun b =>
 (b.1.widen_Cluster[sg.widen_Cluster.length]?).bind fun a =>
 (b.1.set_widen_Cluster sg.widen_Cluster.length (⟨a.at_, b.2, a.text, a.gauge⟩ : G_widen_Cluster)).bind fun f =>
 (f_cluster_Cluster_Text__widen_Cluster_4 a.text).bind fun i =>
 (f_place_Pen_Put f p0 b.2 i).bind fun d =>
 (d.1.widen_Cluster[sg.widen_Cluster.length]?).bind fun c =>
 (d.1.set_widen_Cluster sg.widen_Cluster.length (⟨d.2, c.wide, c.text, c.gauge⟩ : G_widen_Cluster)).bind fun g =>
 some (g, (some sg.widen_Cluster.length))
theorem c_widen_Begin (O0 : Own c0 G F) (R0 : Rel c0 sg G) (hG : Gl [0, 4] c0) (y : Option Nat) (z : Int) (g : G_api_Prop) {r : Sto × (Option Nat)} (h2 : Pt 2 c0 v1 y) (H : f_widen_Begin sg y z g = some r) :
    Calls prog 17 #[v1, J z, .agg #[I g.Break, B g.Pict, I g.Conj, I g.East]] c0.w (Post c0 fun c v => ∃ y1, ∃ G_ : Gm, Own c G_ (F) ∧ Rel c r.1 G_ ∧ v = y1 ∧ Pt 3 c y1 r.2) := by
 unfold f_widen_Begin at H
 refine en func17 rfl rfl (sr (me (bx 33 [I g.Break, B g.Pict, I g.Conj, I g.East] O0) ?_))
 rintro v7 c6 l6 ⟨b3, rfl, O4, m5⟩
 refine va (.pointer none) (wln (W.seq (W.seq (bn H fun m1 h8 H => W.join (Jn c6 fun c l => Own c G (F) ∧ l = [(0, v1), (1, J z), (5, Q b3), (16, B m1)]) ?_ ?_))))
 ·clear H
  refine W.region (va (v1) (vr (B y.isNone) (by rcases h2.m.cs with ⟨j, k⟩ | ⟨b_, j, k⟩ <;> (subst j; rw [k]; kernel_rfl)) ?_))
  rcases bo (y.isNone) with s | s
  ·obtain rfl := orT s h8
   exact vb s (ps (ps (ps (ps (ps (va (B true) (wln ⟨c6, _, _, rfl, pt, us, O4, rfl⟩)))))))
  have i := orF s h8
  refine vb s (wn (va (v1) (wn (bn i fun w3 q1 i => ?_))))
  obtain ⟨T, rfl, n1⟩ := ((h2.mono l6)).get q1
  refine va (Q T) (wn (va (Q T) (wn (bn i fun u s1 i => ?_))))
  obtain ⟨v15, u1, t1⟩ := Rel.open_place_Pen (R0.mono l6) s1 n1
  refine vx (le1 0 underlying35 (O4.gon u1 0 rfl)) (wn (vr (B u.G.isNone) (by rcases (t1).cs with ⟨j, k⟩ | ⟨b_, j, k⟩ <;> (subst j; rw [k]; kernel_rfl)) ?_))
  obtain rfl := si i
  exact va (B u.G.isNone) (wln ⟨c6, _, _, rfl, pt, us, O4, rfl⟩)
 rintro e_ w_ ⟨f1, q3, _, rfl, o2, rfl, A, rfl⟩
 refine nrm (cn H (fun w1 H => ?_) (fun w1 H => ?_))
 ·refine sr (va (.pointer none) (wln (W.ret (thr ?_))))
  obtain rfl := si H
  exact r1 ⟨_, f1, rfl, rfl, pt, (.pointer none), G, A, R0.m, rfl, rfl⟩
 refine W.skip (nrm (sr (va (.agg #[I 0, I 0, B false, I 0, J 0, J 0, J 0, J 0, J 0, J 0, J 0, J 0, J 0, J 0, J 0, J 0, J 0, J 0, J 0, J 0, I 0, B false, B false, B false]) (me (al 133 [I 0, I 0, B false, I 0, J 0, J 0, J 0, J 0, J 0, J 0, J 0, J 0, J 0, J 0, J 0, J 0, J 0, J 0, J 0, J 0, I 0, B false, B false, B false] A) ?_))))
 rintro v28 m3 q2 ⟨e, rfl, o0⟩
 have q0 := o0.sD 1 [0]
 refine bn H fun j0 x1 H => ?_
 obtain ⟨g1, g3, z1, x3, o, s0, P, s3, t3, j3⟩ := Rel.new_widen_Cluster (E := [(Eb e 133 [I 0, I 0, B false, I 0, J 0, J 0, J 0, J 0, J 0, J 0, J 0, J 0, J 0, J 0, J 0, J 0, J 0, J 0, J 0, J 0, I 0, B false, B false, B false])]) (F := F) (x := (⟨(⟨0, 0, false⟩ : G_api_Cursor), 0, (⟨(0, 0, 0, 0, 0, 0, 0, 0, 0, 0, 0, 0, 0, 0, 0, 0), 0⟩ : G_cluster_Cluster), (⟨false, false, false⟩ : G_cwidth_Gauge)⟩ : G_widen_Cluster)) (b := e) q0 (R0.mono (l6.trans (o2.trans q2))) (fun c_ hle_ => ⟨e, rfl, rfl⟩)
 rw [Option.some.inj x1] at P
 refine WL.gh z1.1 ?_
 have U : Pt 3 g1 (Q e) (some sg.widen_Cluster.length) := ⟨e, rfl, o⟩
 refine va (Q e) (wln (sr (va (Q e) (va (Q e) (va (J z) (vx (lN 33 (mm m5)) (bn H fun h a2 H => cl (c_widen_Cluster_add s0 P (some sg.widen_Cluster.length) z g U a2) ?_)))))))
 rintro v48 n3 s2 ⟨h3, t0, R, rfl⟩
 refine va (Q e) (va (.pointer (some ⟨e, 3, none⟩)) (bn H fun a b2 H => ?_))
 have c2 := Rel.open_widen_Cluster R b2 (tm o)
 refine md (gC 3 3 (I h.2) [I a.at_.Row, I a.at_.Col, B a.at_.Pending, I h.2, J a.text.text.1, J a.text.text.2.1, J a.text.text.2.2.1, J a.text.text.2.2.2.1, J a.text.text.2.2.2.2.1, J a.text.text.2.2.2.2.2.1, J a.text.text.2.2.2.2.2.2.1, J a.text.text.2.2.2.2.2.2.2.1, J a.text.text.2.2.2.2.2.2.2.2.1, J a.text.text.2.2.2.2.2.2.2.2.2.1, J a.text.text.2.2.2.2.2.2.2.2.2.2.1, J a.text.text.2.2.2.2.2.2.2.2.2.2.2.1, J a.text.text.2.2.2.2.2.2.2.2.2.2.2.2.1, J a.text.text.2.2.2.2.2.2.2.2.2.2.2.2.2.1, J a.text.text.2.2.2.2.2.2.2.2.2.2.2.2.2.2.1, J a.text.text.2.2.2.2.2.2.2.2.2.2.2.2.2.2.2, I a.text.n, B a.gauge.some, B a.gauge.pict, B a.gauge.wide] 0 t0 c2 ⟨rfl, trivial⟩) ?_
 rintro o3 X u0
 refine bn H fun k0 d2 H => ?_
 obtain ⟨p, v0, d1, q, k3⟩ := Rel.put_widen_Cluster u0 (R.mono X) (E' := [(Eb e 133 [I a.at_.Row, I a.at_.Col, B a.at_.Pending, I h.2, J a.text.text.1, J a.text.text.2.1, J a.text.text.2.2.1, J a.text.text.2.2.2.1, J a.text.text.2.2.2.2.1, J a.text.text.2.2.2.2.2.1, J a.text.text.2.2.2.2.2.2.1, J a.text.text.2.2.2.2.2.2.2.1, J a.text.text.2.2.2.2.2.2.2.2.1, J a.text.text.2.2.2.2.2.2.2.2.2.1, J a.text.text.2.2.2.2.2.2.2.2.2.2.1, J a.text.text.2.2.2.2.2.2.2.2.2.2.2.1, J a.text.text.2.2.2.2.2.2.2.2.2.2.2.2.1, J a.text.text.2.2.2.2.2.2.2.2.2.2.2.2.2.1, J a.text.text.2.2.2.2.2.2.2.2.2.2.2.2.2.2.1, J a.text.text.2.2.2.2.2.2.2.2.2.2.2.2.2.2.2, I a.text.n, B a.gauge.some, B a.gauge.pict, B a.gauge.wide])]) d2 ⟨e, (tm o), rfl⟩
 refine wln (W.seq (rD [10, 13] (Kp p []) v0 ?_))
 intro h1 t2 D
 have w2 : Kp p [] h1 := (Kp.nil D)
 refine ta 0 (Q e) (ta 1 (v1) (ta 2 (Q e) (ta 3 (Q e) (ta 4 (.pointer (some ⟨e, 3, none⟩)) (tkx 5 w2 (fun c' v3 hk => le1 3 underlying3 (hk.gon q 0 rfl)) (ta 6 (Q e) (ta 7 (Q e) (ta 8 (.pointer (some ⟨e, 4, none⟩)) ?_))))))))
 have w0 := D.borrow 0 q rfl
 refine bn H fun i0 e2 H => o1 9 (gc 9 (c_cluster_Cluster_Text__widen_Cluster_4 a.text w0 e2) ?_)
 rintro z3 i1 u2 ⟨_, y3, x0, rfl, f2⟩
 have z0 := x0.sD 2 [1, 0]
 have y0 := z0.giveB 0 rfl
 have M := Own.back y0 q rfl
 have x2 : Kp p [] i1 := (Kp.nil M)
 refine ⟨.inr x2, ?_⟩
 obtain ⟨j1, j2, Z, N, g2⟩ := M.frz 0 rfl f2
 have y2 : Kp p [] j1 := (Kp.nil N)
 refine AC.gh j2 Z (fun _ => y2) (bn H fun f k2 H => o1 10 (gc 10 (c_place_Pen_Put N d1.m (hG.m.le (by decide)) y h.2 i0 h2.m g2 k2) ?_))
 rintro a4 p3 v2 ⟨i3, a1, S, rfl⟩
 refine ⟨.inl rfl, ta 11 (Q e) (ta 12 (Q e) (bn H fun d l2 H => ?_))⟩
 have m2 := Rel.open_widen_Cluster S l2 (tm o)
 refine o1 13 (gD 13 (gB 24 0 [I f.2.Row, I f.2.Col, B f.2.Pending] [I f.2.Row, I f.2.Col, B f.2.Pending, I d.wide, J d.text.text.1, J d.text.text.2.1, J d.text.text.2.2.1, J d.text.text.2.2.2.1, J d.text.text.2.2.2.2.1, J d.text.text.2.2.2.2.2.1, J d.text.text.2.2.2.2.2.2.1, J d.text.text.2.2.2.2.2.2.2.1, J d.text.text.2.2.2.2.2.2.2.2.1, J d.text.text.2.2.2.2.2.2.2.2.2.1, J d.text.text.2.2.2.2.2.2.2.2.2.2.1, J d.text.text.2.2.2.2.2.2.2.2.2.2.2.1, J d.text.text.2.2.2.2.2.2.2.2.2.2.2.2.1, J d.text.text.2.2.2.2.2.2.2.2.2.2.2.2.2.1, J d.text.text.2.2.2.2.2.2.2.2.2.2.2.2.2.2.1, J d.text.text.2.2.2.2.2.2.2.2.2.2.2.2.2.2.2, I d.text.n, B d.gauge.some, B d.gauge.pict, B d.gauge.wide] 0 a1 m2 ⟨rfl, rfl, rfl, trivial⟩) ?_)
 rintro k1 a0 b1
 refine bn H fun l0 n2 H => ?_
 obtain ⟨m0, c1, e1, u3, l3⟩ := Rel.put_widen_Cluster b1 (S.mono a0) (E' := [(Eb e 133 [I f.2.Row, I f.2.Col, B f.2.Pending, I d.wide, J d.text.text.1, J d.text.text.2.1, J d.text.text.2.2.1, J d.text.text.2.2.2.1, J d.text.text.2.2.2.2.1, J d.text.text.2.2.2.2.2.1, J d.text.text.2.2.2.2.2.2.1, J d.text.text.2.2.2.2.2.2.2.1, J d.text.text.2.2.2.2.2.2.2.2.1, J d.text.text.2.2.2.2.2.2.2.2.2.1, J d.text.text.2.2.2.2.2.2.2.2.2.2.1, J d.text.text.2.2.2.2.2.2.2.2.2.2.2.1, J d.text.text.2.2.2.2.2.2.2.2.2.2.2.2.1, J d.text.text.2.2.2.2.2.2.2.2.2.2.2.2.2.1, J d.text.text.2.2.2.2.2.2.2.2.2.2.2.2.2.2.1, J d.text.text.2.2.2.2.2.2.2.2.2.2.2.2.2.2.2, I d.text.n, B d.gauge.some, B d.gauge.pict, B d.gauge.wide])]) n2 ⟨e, ((s2.trans (X.trans (t2.trans (u2.trans (Z.trans (v2.trans a0)))))).t _ _ _ o), rfl⟩
 refine ⟨.inl rfl, dn (nrm (sr (va (Q e) (va (Q e) (wln (W.ret ?_))))))⟩
 obtain rfl := si H
 have b0 := c1.sD 1 []
 exact r1 ⟨_, k1, rfl, rfl, pt, (Q e), m0, b0, e1, rfl, U.m⟩
def f_widen_Cluster_Join (sg : Sto) (p0 : Option Nat) (p1 : Option Nat) (p2 : Int) (p3 : G_api_Prop) : Option (Sto × Bool) :=
 (orE p0.isNone (some p1.isNone)).bind fun A =>
 (orE A ((p1).bind fun r =>
 (sg.place_Pen[r]?).bind fun u =>
 some u.G.isNone)).bind fun p =>
 (orE p ((p0).bind fun s =>
 (sg.widen_Cluster[s]?).bind fun h =>
 (f_cluster_Cluster_Full__widen_Cluster_4 h.text).bind fun w =>
 some w)).bind fun q =>
 if q = true then
 some (sg, false)
 else
 (p0).bind fun b =>
 (sg.widen_Cluster[b]?).bind fun v =>
 (f_widen_Cluster_add sg p0 p2 p3).bind fun d =>
 (d.1.widen_Cluster[b]?).bind fun c =>
 (d.1.set_widen_Cluster b (⟨c.at_, d.2, c.text, c.gauge⟩ : G_widen_Cluster)).bind fun a =>
 (if (d.2 != v.wide) = true then
 (p1).bind fun j =>
 (a.place_Pen[j]?).bind fun k =>
 (a.set_place_Pen j (⟨k.G, c.at_, k.Auto⟩ : G_place_Pen)).bind fun e =>
 (e.widen_Cluster[b]?).bind fun l =>
 (f_cluster_Cluster_Text__widen_Cluster_4 l.text).bind fun x =>
 (f_place_Pen_Put e p1 l.wide x).bind fun g =>
 (g.1.widen_Cluster[b]?).bind fun f =>
 (g.1.set_widen_Cluster b (⟨g.2, f.wide, f.text, f.gauge⟩ : G_widen_Cluster)).bind fun i =>
 some (i)
 else
 (p1).bind fun t =>
 (a.place_Pen[t]?).bind fun m =>
 (f_grid_Grid_Wide a m.G).bind fun y =>
 if (decide (d.2 ≤ y)) = true then
 (f_grid_Grid_Row a m.G c.at_.Row).bind fun n =>
 (f_mark_Add a n c.at_.Col p2).bind fun o =>
 some (o.1)
 else
 some (a)).bind fun z =>
 some (z, true)
theorem c_widen_Cluster_Join (O0 : Own c0 G F) (R0 : Rel c0 sg G) (hG : Gl [0, 4] c0) (p0 : Option Nat) (p1 : Option Nat) (Z : Int) (s : G_api_Prop) {r : Sto × Bool} (h2 : Pt 3 c0 v1 p0) (h4 : Pt 2 c0 v3 p1) (H : f_widen_Cluster_Join sg p0 p1 Z s = some r) :
    Calls prog 18 #[v1, v3, J Z, .agg #[I s.Break, B s.Pict, I s.Conj, I s.East]] c0.w (Post c0 fun c v => ∃ G_ : Gm, Own c G_ (F) ∧ Rel c r.1 G_ ∧ v = B r.2) := by
 unfold f_widen_Cluster_Join at H
 refine en func18 rfl rfl (sr (me (bx 33 [I s.Break, B s.Pict, I s.Conj, I s.East] O0) ?_))
 rintro v9 c8 R ⟨b5, rfl, O6, m7⟩
 refine va (B false) (wln (W.seq (W.seq (bn H fun k7 b2 H => bn H fun i6 x0 H => bn H fun h3 d0 H => W.join (Jn c8 fun c l => Own c G (F) ∧ l = [(0, v1), (1, v3), (2, J Z), (7, Q b5), (28, B h3)]) ?_ ?_))))
 ·clear H
  refine W.region (va (v1) (vr (B p0.isNone) (by rcases h2.m.cs with ⟨h, i⟩ | ⟨b_, h, i⟩ <;> (subst h; rw [i]; kernel_rfl)) ?_))
  rcases bo (p0.isNone) with A | A
  ·obtain rfl := orT A b2
   refine vb A (ps (ps (va (B true) ?_)))
   have c2 : true = true := rfl
   obtain rfl := orT c2 x0
   refine vb c2 (ps (ps (ps (ps (ps (va (B true) ?_))))))
   have d2 : true = true := rfl
   obtain rfl := orT d2 d0
   exact vb d2 (ps (ps (ps (ps (va (B true) (wln ⟨c8, _, _, rfl, pt, us, O6, rfl⟩))))))
  have l4 := orF A b2
  refine vb A (wn (va (v3) (wn (vr (B p1.isNone) (by rcases h4.m.cs with ⟨h, i⟩ | ⟨b_, h, i⟩ <;> (subst h; rw [i]; kernel_rfl)) ?_))))
  obtain rfl := si l4
  refine va (B p1.isNone) ?_
  rcases bo (p1.isNone) with D | D
  ·obtain rfl := orT D x0
   refine vb D (ps (ps (ps (ps (ps (va (B true) ?_))))))
   have e2 : true = true := rfl
   obtain rfl := orT e2 d0
   exact vb e2 (ps (ps (ps (ps (va (B true) (wln ⟨c8, _, _, rfl, pt, us, O6, rfl⟩))))))
  have y := orF D x0
  refine vb D (wn (va (v3) (wn (bn y fun m6 d5 y => ?_))))
  obtain ⟨z1, rfl, c5⟩ := ((h4.mono R)).get d5
  refine va (Q z1) (wn (va (Q z1) (wn (bn y fun U e5 y => ?_))))
  obtain ⟨v24, g5, f5⟩ := Rel.open_place_Pen (R0.mono R) e5 c5
  refine vx (le1 0 underlying35 (O6.gon g5 0 rfl)) (wn (vr (B U.G.isNone) (by rcases (f5).cs with ⟨h, i⟩ | ⟨b_, h, i⟩ <;> (subst h; rw [i]; kernel_rfl)) ?_))
  obtain rfl := si y
  refine va (B U.G.isNone) ?_
  rcases bo (U.G.isNone) with E | E
  ·obtain rfl := orT E d0
   exact vb E (ps (ps (ps (ps (va (B true) (wln ⟨c8, _, _, rfl, pt, us, O6, rfl⟩))))))
  have k := orF E d0
  refine vb E (wn (va (v1) (wn (bn k fun n6 i5 k => ?_))))
  obtain ⟨a2, rfl, h5⟩ := ((h2.mono R)).get i5
  refine va (Q a2) (wn (va (.pointer (some ⟨a2, 4, none⟩)) (wn (bn k fun h0 j5 k => ?_))))
  have f2 := Rel.open_widen_Cluster (R0.mono R) j5 h5
  have n4 := O6.borrow 0 f2 rfl
  refine bn k fun e4 k5 k => cl (c_cluster_Cluster_Full__widen_Cluster_4 h0.text n4 k5) ?_
  rintro v42 x4 o7 ⟨o4, rfl⟩
  have p4 := o4.giveB 0 rfl
  have q4 := Own.back p4 f2 rfl
  obtain rfl := si k
  exact va (B e4) (wln ⟨x4, _, _, rfl, pt, us, q4, rfl⟩)
 rintro e_ w_ ⟨y4, l7, _, rfl, e0, rfl, q0, rfl⟩
 refine nrm (cn H (fun l5 H => ?_) (fun l5 H => ?_))
 ·refine sr (va (B false) (wln (W.ret (thr ?_))))
  obtain rfl := si H
  exact r1 ⟨_, y4, rfl, rfl, pt, G, q0, R0.m, rfl⟩
 refine W.skip (nrm (sr (va (v1) (bn H fun o6 m5 H => ?_))))
 obtain ⟨d, rfl, u⟩ := ((h2.mono (R.trans e0))).get m5
 refine va (Q d) (va (.pointer (some ⟨d, 3, none⟩)) (bn H fun x n5 H => ?_))
 have o5 := Rel.open_widen_Cluster (R0.mono (R.trans e0)) n5 u
 refine vx (le1 3 underlying3 (q0.gon o5 0 rfl)) (va (I x.wide) (wln (sr (va (Q d) (va (Q d) (va (J Z) (vx (lN 33 (mm m7)) (bn H fun g p5 H => cl (c_widen_Cluster_add q0 R0.m p0 Z s h2.m p5) ?_))))))))
 rintro p7 i7 f0 ⟨f7, r4, x1, rfl⟩
 refine va (Q d) (va (.pointer (some ⟨d, 3, none⟩)) (bn H fun a q5 H => ?_))
 have r5 := Rel.open_widen_Cluster x1 q5 (tm u)
 refine md (gC 3 3 (I g.2) [I a.at_.Row, I a.at_.Col, B a.at_.Pending, I g.2, J a.text.text.1, J a.text.text.2.1, J a.text.text.2.2.1, J a.text.text.2.2.2.1, J a.text.text.2.2.2.2.1, J a.text.text.2.2.2.2.2.1, J a.text.text.2.2.2.2.2.2.1, J a.text.text.2.2.2.2.2.2.2.1, J a.text.text.2.2.2.2.2.2.2.2.1, J a.text.text.2.2.2.2.2.2.2.2.2.1, J a.text.text.2.2.2.2.2.2.2.2.2.2.1, J a.text.text.2.2.2.2.2.2.2.2.2.2.2.1, J a.text.text.2.2.2.2.2.2.2.2.2.2.2.2.1, J a.text.text.2.2.2.2.2.2.2.2.2.2.2.2.2.1, J a.text.text.2.2.2.2.2.2.2.2.2.2.2.2.2.2.1, J a.text.text.2.2.2.2.2.2.2.2.2.2.2.2.2.2.2, I a.text.n, B a.gauge.some, B a.gauge.pict, B a.gauge.wide] 0 r4 r5 ⟨rfl, trivial⟩) ?_
 rintro z4 P s4
 refine bn H fun i4 s5 H => ?_
 obtain ⟨j, b0, o, M, g7⟩ := Rel.put_widen_Cluster s4 (x1.mono P) (E' := [(Eb d 133 [I a.at_.Row, I a.at_.Col, B a.at_.Pending, I g.2, J a.text.text.1, J a.text.text.2.1, J a.text.text.2.2.1, J a.text.text.2.2.2.1, J a.text.text.2.2.2.2.1, J a.text.text.2.2.2.2.2.1, J a.text.text.2.2.2.2.2.2.1, J a.text.text.2.2.2.2.2.2.2.1, J a.text.text.2.2.2.2.2.2.2.2.1, J a.text.text.2.2.2.2.2.2.2.2.2.1, J a.text.text.2.2.2.2.2.2.2.2.2.2.1, J a.text.text.2.2.2.2.2.2.2.2.2.2.2.1, J a.text.text.2.2.2.2.2.2.2.2.2.2.2.2.1, J a.text.text.2.2.2.2.2.2.2.2.2.2.2.2.2.1, J a.text.text.2.2.2.2.2.2.2.2.2.2.2.2.2.2.1, J a.text.text.2.2.2.2.2.2.2.2.2.2.2.2.2.2.2, I a.text.n, B a.gauge.some, B a.gauge.pict, B a.gauge.wide])]) s5 ⟨d, (tm u), rfl⟩
 refine wln (bn H fun g4 e m4 => W.seqJ (Jn z4 fun c l => ∃ G_, Own c G_ (F) ∧ l = [] ∧ Rel c g4 G_) ?_ ?_)
 ·refine W.block (sr (va (Q d) (va (Q d) (va (.pointer (some ⟨d, 3, none⟩)) (vx (le1 3 underlying3 (b0.gon M 0 rfl)) (va (I x.wide) (va (B (g.2 != x.wide)) (va (B (g.2 != x.wide)) (wln (cn e (fun t5 e => ?_) (fun t5 e => ?_)))))))))))
  ·refine sr (va (v3) (va (Q d) (va (Q d) (va (Q d) (vx (leN 24 0 [I a.at_.Row, I a.at_.Col, B a.at_.Pending] (b0.gon M 0 rfl)) (bn e fun p6 u5 e => ?_))))))
   obtain ⟨z, rfl, g2⟩ := ((h4.mono (R.trans (e0.trans (f0.trans P))))).get u5
   refine va (Q z) (va (.pointer (some ⟨z, 1, none⟩)) (bn e fun h1 v5 e => ?_))
   obtain ⟨n1, x5, w5⟩ := Rel.open_place_Pen o v5 g2
   refine md (gB 24 1 [I a.at_.Row, I a.at_.Col, B a.at_.Pending] [n1, I a.at_.Row, I a.at_.Col, B a.at_.Pending, B h1.Auto] 0 b0 x5 ⟨rfl, rfl, rfl, trivial⟩) ?_
   rintro j7 g0 t4
   refine bn e fun j4 y5 e => ?_
   obtain ⟨a0, u4, y1, n7, h7⟩ := Rel.put_place_Pen t4 (o.mono g0) (E' := [(Eb z 42 [n1, I a.at_.Row, I a.at_.Col, B a.at_.Pending, B h1.Auto])]) y5 ⟨z, n1, (tm g2), rfl, (w5.mono g0)⟩
   refine wln (rD [10, 13] (Kp a0 []) u4 ?_)
   intro a5 g1 w1
   have b6 : Kp a0 [] a5 := (Kp.nil w1)
   refine ta 0 (Q d) (ta 1 (Q z) (ta 2 (Q d) (ta 3 (Q d) (ta 4 (.pointer (some ⟨d, 3, none⟩)) (bn e fun i1 z5 e => ?_)))))
   have b1 := Rel.open_widen_Cluster (y1.mono g1) z5 (tm u)
   refine tkx 5 b6 (fun c' N q => le1 3 underlying3 (q.gon b1 0 rfl)) (ta 6 (Q d) (ta 7 (Q d) (ta 8 (.pointer (some ⟨d, 4, none⟩)) ?_)))
   have v4 := w1.borrow 0 b1 rfl
   refine bn e fun f4 a6 e => o1 9 (gc 9 (c_cluster_Cluster_Text__widen_Cluster_4 i1.text v4 a6) ?_)
   rintro y6 z2 c1 ⟨_, x6, l2, rfl, i3⟩
   have n2 := l2.sD 2 [1, 0]
   have m2 := n2.giveB 0 rfl
   have j0 := Own.back m2 b1 rfl
   have a4 : Kp a0 [] z2 := (Kp.nil j0)
   refine ⟨.inr a4, ?_⟩
   obtain ⟨a3, k3, T, k0, j3⟩ := j0.frz 0 rfl i3
   have b4 : Kp a0 [] a3 := (Kp.nil k0)
   refine AC.gh k3 T (fun _ => b4) (bn e fun f l3 e => o1 10 (gc 10 (c_place_Pen_Put k0 y1.m (hG.m.le (by decide)) p1 i1.wide f4 h4.m j3 l3) ?_))
   rintro z6 h6 d1 ⟨d6, o2, u0, rfl⟩
   refine ⟨.inl rfl, ta 11 (Q d) (ta 12 (Q d) (bn e fun b m3 e => ?_))⟩
   have n3 := Rel.open_widen_Cluster u0 m3 ((f0.trans (P.trans (g0.trans (g1.trans (c1.trans (T.trans d1)))))).t _ _ _ u)
   refine o1 13 (gD 13 (gB 24 0 [I f.2.Row, I f.2.Col, B f.2.Pending] [I f.2.Row, I f.2.Col, B f.2.Pending, I b.wide, J b.text.text.1, J b.text.text.2.1, J b.text.text.2.2.1, J b.text.text.2.2.2.1, J b.text.text.2.2.2.2.1, J b.text.text.2.2.2.2.2.1, J b.text.text.2.2.2.2.2.2.1, J b.text.text.2.2.2.2.2.2.2.1, J b.text.text.2.2.2.2.2.2.2.2.1, J b.text.text.2.2.2.2.2.2.2.2.2.1, J b.text.text.2.2.2.2.2.2.2.2.2.2.1, J b.text.text.2.2.2.2.2.2.2.2.2.2.2.1, J b.text.text.2.2.2.2.2.2.2.2.2.2.2.2.1, J b.text.text.2.2.2.2.2.2.2.2.2.2.2.2.2.1, J b.text.text.2.2.2.2.2.2.2.2.2.2.2.2.2.2.1, J b.text.text.2.2.2.2.2.2.2.2.2.2.2.2.2.2.2, I b.text.n, B b.gauge.some, B b.gauge.pict, B b.gauge.wide] 0 o2 n3 ⟨rfl, rfl, rfl, trivial⟩) ?_)
   rintro b3 e1 q2
   refine bn e fun k4 o3 e => ?_
   obtain ⟨i2, s2, w2, l6, f6⟩ := Rel.put_widen_Cluster q2 (u0.mono e1) (E' := [(Eb d 133 [I f.2.Row, I f.2.Col, B f.2.Pending, I b.wide, J b.text.text.1, J b.text.text.2.1, J b.text.text.2.2.1, J b.text.text.2.2.2.1, J b.text.text.2.2.2.2.1, J b.text.text.2.2.2.2.2.1, J b.text.text.2.2.2.2.2.2.1, J b.text.text.2.2.2.2.2.2.2.1, J b.text.text.2.2.2.2.2.2.2.2.1, J b.text.text.2.2.2.2.2.2.2.2.2.1, J b.text.text.2.2.2.2.2.2.2.2.2.2.1, J b.text.text.2.2.2.2.2.2.2.2.2.2.2.1, J b.text.text.2.2.2.2.2.2.2.2.2.2.2.2.1, J b.text.text.2.2.2.2.2.2.2.2.2.2.2.2.2.1, J b.text.text.2.2.2.2.2.2.2.2.2.2.2.2.2.2.1, J b.text.text.2.2.2.2.2.2.2.2.2.2.2.2.2.2.2, I b.text.n, B b.gauge.some, B b.gauge.pict, B b.gauge.wide])]) o3 ⟨d, ((f0.trans (P.trans (g0.trans (g1.trans (c1.trans (T.trans (d1.trans e1))))))).t _ _ _ u), rfl⟩
   refine ⟨.inl rfl, dn (bkn (nrm ?_))⟩
   obtain rfl := si e
   have t2 := s2.sD 1 []
   exact ⟨b3, _, _, rfl, pt, us, i2, t2, rfl, w2⟩
  refine W.seq (rD [] (Kp j []) b0 ?_)
  intro c3 f1 l0
  have m1 : Kp j [] c3 := (Kp.nil l0)
  refine ta 0 (Q d) (ta 1 (Q d) (ta 2 (.pointer (some ⟨d, 3, none⟩)) (tkx 3 m1 (fun c' N q => le1 3 underlying3 (q.gon M 0 rfl)) (ta 4 (v3) (bn e fun q6 s3 e => ?_)))))
  obtain ⟨p, rfl, q3⟩ := ((h4.mono (R.trans (e0.trans (f0.trans (P.trans f1)))))).get s3
  refine ta 5 (Q p) (ta 6 (Q p) (bn e fun j1 t3 e => ?_))
  obtain ⟨a7, z0, y0⟩ := Rel.open_place_Pen (o.mono f1) t3 q3
  refine tkx 7 m1 (fun c' N q => le1 0 underlying35 (q.gon z0 0 rfl)) (bn e fun q1 u3 e => o1 8 (gc 8 (c_grid_Grid_Wide l0 o.m j1.G y0 u3) ?_))
  rintro b7 w0 r6 ⟨S, rfl⟩
  have c4 : Kp j [] w0 := (Kp.nil S)
  refine ⟨.inr c4, ta 9 (B (decide (g.2 ≤ q1))) (ta 10 (B (decide (g.2 ≤ q1))) (dn (nrm (cn e (fun w3 e => ?_) (fun w3 e => ?_)))))⟩
  ·refine rD [16] (Kp j []) S ?_
   intro d3 s6 m0
   have X : Kp j [] d3 := (Kp.nil m0)
   refine ta 0 (Q p) (ta 1 (Q p) (ta 2 (Q p) (tkx 3 X (fun c' N q => le1 0 underlying35 (q.gon z0 0 rfl)) (ta 4 (Q d) (ta 5 (Q d) (ta 6 (Q d) (ta 7 (Q d) (tkx 8 X (fun c' N q => le1 0 underlying3 (q.gon M 0 rfl)) (ta 10 (Q d) (ta 11 (Q d) (ta 12 (Q d) (ta 13 (.pointer (some ⟨d, 1, none⟩)) (tkx 14 X (fun c' N q => le1 1 underlying3 (q.gon M 0 rfl)) (ta 15 (J Z) (bn e fun u1 x3 e => o1 9 (gc 9 (c_grid_Grid_Row m0 o.m j1.G a.at_.Row y0.m x3) ?_))))))))))))))))
   rintro c7 e3 t6 ⟨_, o0, rfl, y3⟩
   have d4 : Kp j [] e3 := (Kp.nil o0)
   refine ⟨.inr d4, bn e fun c6 z3 e => o1 16 (gc 16 (c_mark_Add o0 o.m (hG.m.le (by decide)) u1 a.at_.Col Z y3 z3) ?_)⟩
   rintro d7 f3 u6 ⟨j2, u2, x2, rfl⟩
   refine ⟨.inl rfl, dn (bkn (nrm ?_))⟩
   obtain rfl := si e
   exact ⟨f3, _, _, rfl, pt, us, j2, u2, rfl, x2⟩
  refine W.skip (bkn (nrm ?_))
  obtain rfl := si e
  exact ⟨w0, _, _, rfl, pt, us, j, S, rfl, o.m⟩
 rintro e_ w_ ⟨g3, k6, _, rfl, v6, rfl, k2, v2, rfl, y2⟩
 refine sr (va (B true) (wln (W.ret ?_)))
 obtain rfl := si m4
 exact r1 ⟨_, g3, rfl, rfl, pt, k2, v2, y2, rfl⟩
def f_widen_Cluster_Text (sg : Sto) (p0 : Option Nat) : Option (List Int) :=
 if p0.isNone = true then
 some ([] : List Int)
 else
 (p0).bind fun c =>
 (sg.widen_Cluster[c]?).bind fun a =>
 (f_cluster_Cluster_Text__widen_Cluster_4 a.text).bind fun b =>
 some b
theorem c_widen_Cluster_Text (i : Own c0 G F) (z : Rel c0 sg G) (g : Option Nat) {r : List Int} (t : Pt 3 c0 v1 g) (H : f_widen_Cluster_Text sg g = some r) :
    Calls prog 24 #[v1] c0.w (Post c0 fun c v => ∃ h x, Own c G (es true (RI .i32) h 21 x r :: F) ∧ v = h ∧ OA (RI .i32) c h x r) := by
 unfold f_widen_Cluster_Text at H
 refine en func24 rfl rfl (sr (va (Y) (wln (W.seq (sr (va (v1) (vr (B g.isNone) (by rcases (t).cs with ⟨d, f⟩ | ⟨T, d, f⟩ <;> (subst d; rw [f]; kernel_rfl)) (wln (cn H (fun A H => ?_) (fun A H => ?_))))))))))
 ·refine sr (va (Y) (wln (W.ret (thr ?_))))
  obtain rfl := si H
  have D : OA (RI .i32) c0 (Y) [] [] := OA.nil (Nat.succ_pos _)
  have y := i.addHole (e := es true (RI .i32) (Y) 21 [] ([] : List Int)) rfl
  exact r1 ⟨_, c0, rfl, rfl, pt, (Y), [], y, rfl, D⟩
 refine W.skip (nrm (sr (va (v1) (bn H fun R M H => ?_))))
 obtain ⟨o, rfl, E⟩ := (t).get M
 refine va (Q o) (va (.pointer (some ⟨o, 4, none⟩)) (bn H fun a N H => ?_))
 have b := Rel.open_widen_Cluster z N E
 have j := i.borrow 0 b rfl
 refine bn H fun P q H => cl (c_cluster_Cluster_Text__widen_Cluster_4 a.text j q) ?_
 rintro v14 p S ⟨_, u, k, rfl, s⟩
 have m := k.sD 2 [1, 0]
 have l := m.giveB 0 rfl
 have n := Own.back l b rfl
 refine va (v14) (wln (W.ret ?_))
 obtain rfl := si H
 exact r1 ⟨_, p, rfl, rfl, pt, v14, u, n, rfl, s⟩
end Go.Proofs.YthokmpbbkpjhbaaGreatDoor
