/- Parts of the proofs of FeedCuts: the walk through the code, and plain Lean. No condition. -/
import Derived.Test.YtfhhpdggmefcoaaGreatDoorSfA
import Derived.Laws.BytesString
import Derived.Test.YtfhhpdggmefcoaaGreatDoorProg
set_option linter.unusedVariables false
set_option linter.unusedSimpArgs false
namespace Go.Proofs.YtfhhpdggmefcoaaGreatDoor
open Go Go.Lt
set_option maxRecDepth 10000
set_option linter.unusedVariables false
attribute [local irreducible] W WL AC
open Tryz
variable {c0 : Cx} {G : Gm} {F : List En} {sg : Sto} {v1 v2 v3 v4 v5 v6 v7 v8 v9 v10 v11 v12 v13 v14 v15 v16 v17 v18 v19 v20 v21 v22 v23 v24 v25 v26 v27 v28 v29 v30 v31 v32 v33 v34 v35 v36 v37 v38 v39 v40 v41 v42 v43 v44 v45 v46 v47 v48 v49 v50 v51 v52 v53 v54 v55 v56 v57 v58 v59 v60 : Value}
def f_grid_Grid_High (sg : Sto) (p0 : Option Nat) : Option (Int) :=
 if p0.isNone = true then
 some 0
 else
 (p0).bind fun b =>
 (sg.grid_Grid[b]?).bind fun a =>
 some (a.rows.length : Int)
theorem c_grid_Grid_High (d : Own c0 G F) (k : Rel c0 sg G) (f : Option Nat) {r : Int} (j : Pt 1 c0 v1 f) (H : f_grid_Grid_High sg f = some r) :
    Calls prog 28 #[v1] c0.w (Post c0 fun c v => Own c G (F) ∧ v = I r) := by
 unfold f_grid_Grid_High at H
 refine en func28 rfl rfl (sr (va (I 0) (wln (W.seq (sr (va (v1) (vr (B f.isNone) (by rcases (j).cs with ⟨a, b⟩ | ⟨q, a, b⟩ <;> (subst a; rw [b]; kernel_rfl)) (wln (cn H (fun l H => ?_) (fun l H => ?_))))))))))
 ·refine sr (va (I 0) (wln (W.ret (thr ?_))))
  obtain rfl := si H
  exact r1 ⟨_, c0, rfl, rfl, pt, d, rfl⟩
 refine W.skip (nrm (sr (va (v1) (bn H fun p n H => ?_))))
 obtain ⟨g, rfl, m⟩ := (j).get n
 refine va (Q g) (va (Q g) (bn H fun e o H => ?_))
 obtain ⟨v8, s, i, h⟩ := Rel.open_grid_Grid k o m
 refine vx (le1 0 underlying73 (d.gon i 0 rfl)) (vx (lnO 3 underlying73 h) (va (I (e.rows.length : Int)) (wln (W.ret ?_))))
 obtain rfl := si H
 exact r1 ⟨_, c0, rfl, rfl, pt, d, rfl⟩
def f_scroll_of (sg : Sto) (p0 : Option Nat) (p1 : Int) (p2 : Int) (p3 : Int) : Option (G_scroll_stretch × Bool) :=
 (f_grid_Grid_High sg p0).bind fun b =>
 (f_grid_Grid_High sg p0).bind fun a =>
 (andE (decide ((imax 0 (imin p1 b)) < (imax 0 (imin p2 a)))) (some (decide (p3 > 0)))).bind fun c =>
 some ((⟨(imax 0 (imin p1 b)), (imax 0 (imin p2 a)), (imin p3 (w64 ((imax 0 (imin p2 a)) - (imax 0 (imin p1 b)))))⟩ : G_scroll_stretch), c)
theorem c_scroll_of (S : Own c0 G F) (z : Rel c0 sg G) (j : Option Nat) (d : Int) (e : Int) (f : Int) {r : G_scroll_stretch × Bool} (R : Pt 1 c0 v1 j) (H : f_scroll_of sg j d e f = some r) :
    Calls prog 171 #[v1, I d, I e, I f] c0.w (Post c0 fun c v => Own c G (F) ∧ v = .tuple #[.agg #[I r.1.from_, I r.1.to_, I r.1.n], B r.2]) := by
 unfold f_scroll_of at H
 refine en func171 rfl rfl (sr (me (al 198 [I 0, I 0, I 0] S) ?_))
 rintro v6 c5 l5 ⟨D, rfl, T⟩
 refine va (B false) (wln (sr (va (I d) (va (v1) (bn H fun b X H => cl (c_grid_Grid_High T z.m j R.m X) ?_)))))
 rintro v13 Z e0 ⟨U, rfl⟩
 refine va (I (imin d b)) (va (I (imax 0 (imin d b))) (va (I e) (va (v1) (bn H fun a P H => cl (c_grid_Grid_High U z.m j R.m P) ?_))))
 rintro v20 a0 f0 ⟨s, rfl⟩
 refine va (I (imin e a)) (va (I (imax 0 (imin e a))) (va (I (imax 0 (imin d b))) (va (I (imax 0 (imin e a))) (wln (sr (va (I (imax 0 (imin d b))) (va (I (imax 0 (imin e a))) (va (I f) (va (I (imax 0 (imin e a))) (va (I (imax 0 (imin d b))) (va (I (w64 ((imax 0 (imin e a)) - (imax 0 (imin d b))))) (va (I (imin f (w64 ((imax 0 (imin e a)) - (imax 0 (imin d b)))))) (va (.agg #[I (imax 0 (imin d b)), I (imax 0 (imin e a)), I (imin f (w64 ((imax 0 (imin e a)) - (imax 0 (imin d b)))))]) (me (al 198 [I 0, I 0, I 0] s) ?_))))))))))))))
 rintro v24 b0 g0 ⟨A, rfl, t⟩
 refine md (sA 198 [I (imax 0 (imin d b)), I (imax 0 (imin e a)), I (imin f (w64 ((imax 0 (imin e a)) - (imax 0 (imin d b)))))] 0 t ⟨rfl, rfl, rfl, trivial⟩) ?_
 rintro E h0 h
 refine wln (W.seq (bn H fun i p H => W.join (Jn E fun c l => Own c G ((Eb A 198 [I (imax 0 (imin d b)), I (imax 0 (imin e a)), I (imin f (w64 ((imax 0 (imin e a)) - (imax 0 (imin d b)))))]) :: (Eb D 198 [I (imax 0 (imin d b)), I (imax 0 (imin e a)), I (imin f (w64 ((imax 0 (imin e a)) - (imax 0 (imin d b)))))]) :: F) ∧ l = [(8, Q D), (9, B i)]) ?_ ?_))
 ·clear H
  refine W.region (vx (leN 198 0 [I (imax 0 (imin d b)), I (imax 0 (imin e a)), I (imin f (w64 ((imax 0 (imin e a)) - (imax 0 (imin d b)))))] (h.on 0 rfl)) (va (I (imax 0 (imin d b))) (va (I (imax 0 (imin e a))) (va (B (decide ((imax 0 (imin d b)) < (imax 0 (imin e a))))) ?_))))
  rcases bo (decide ((imax 0 (imin d b)) < (imax 0 (imin e a)))) with g | g
  ·have q := anT g p
   refine vb g (wn (va (I f) (wn (va (B (decide (f > 0))) ?_))))
   obtain rfl := si q
   refine va (B (decide (f > 0))) (md (sA 198 [I (imax 0 (imin d b)), I (imax 0 (imin e a)), I (imin f (w64 ((imax 0 (imin e a)) - (imax 0 (imin d b)))))] 1 h ⟨rfl, rfl, rfl, trivial⟩) ?_)
   rintro M i0 u
   exact va (B (decide (f > 0))) (wln ⟨M, _, _, rfl, pt, us, u, rfl⟩)
  obtain rfl := anF g p
  refine vb g (ps (ps (va (B false) (md (sA 198 [I (imax 0 (imin d b)), I (imax 0 (imin e a)), I (imin f (w64 ((imax 0 (imin e a)) - (imax 0 (imin d b)))))] 1 h ⟨rfl, rfl, rfl, trivial⟩) ?_))))
  rintro N j0 x
  exact va (B false) (wln ⟨N, _, _, rfl, pt, us, x, rfl⟩)
 rintro e_ w_ ⟨o, d0, _, rfl, k0, rfl, k, rfl⟩
 refine nrm (W.ret ?_)
 obtain rfl := si H
 have y := k.sD 2 []
 exact retCT (c := o) (vs := [I (imax 0 (imin d b)), I (imax 0 (imin e a)), I (imin f (w64 ((imax 0 (imin e a)) - (imax 0 (imin d b)))))]) (v := B i) rfl (by kernel_rfl) (by kernel_rfl) (by kernel_rfl) (by kernel_rfl) (k.on 1 rfl _ rfl).1 ⟨_, o, rfl, rfl, pt, y, rfl⟩
def f_grid_Grid_Row (sg : Sto) (p0 : Option Nat) (p1 : Int) : Option (Option Nat) :=
 (orE (decide (p1 < 0)) ((f_grid_Grid_High sg p0).bind fun e =>
 some (decide (p1 ≥ e)))).bind fun d =>
 if d = true then
 some (none : Option Nat)
 else
 (p0).bind fun a =>
 (sg.grid_Grid[a]?).bind fun b =>
 (idx b.rows p1).bind fun c =>
 some c
theorem c_grid_Grid_Row (p : Own c0 G F) (q : Rel c0 sg G) (o : Option Nat) (a : Int) {r : Option Nat} (x : Pt 1 c0 v1 o) (H : f_grid_Grid_Row sg o a = some r) :
    Calls prog 18 #[v1, I a] c0.w (Post c0 fun c v => ∃ P, Own c G (F) ∧ v = P ∧ Pt 0 c P r) := by
 unfold f_grid_Grid_Row at H
 refine en func18 rfl rfl (sr (va (.pointer none) (wln (W.seq (W.seq (bn H fun t D H => W.join (Jn c0 fun c l => Own c G (F) ∧ l = [(0, v1), (1, I a), (12, B t)]) ?_ ?_))))))
 ·clear H
  refine W.region (va (I a) (va (B (decide (a < 0))) ?_))
  rcases bo (decide (a < 0)) with f | f
  ·obtain rfl := orT f D
   exact vb f (ps (ps (ps (ps (va (B true) (wln ⟨c0, _, _, rfl, pt, us, p, rfl⟩))))))
  have n := orF f D
  refine vb f (wn (va (I a) (wn (va (v1) (wn (bn n fun m S n => cl (c_grid_Grid_High p q o x S) ?_))))))
  rintro v12 s b0 ⟨R, rfl⟩
  refine wn (va (B (decide (a ≥ m))) ?_)
  obtain rfl := si n
  exact va (B (decide (a ≥ m))) (wln ⟨s, _, _, rfl, pt, us, R, rfl⟩)
 rintro e_ w_ ⟨h, a0, _, rfl, k, rfl, b, rfl⟩
 refine nrm (cn H (fun u H => ?_) (fun u H => ?_))
 ·refine sr (va (.pointer none) (wln (W.ret (thr ?_))))
  obtain rfl := si H
  exact r1 ⟨_, h, rfl, rfl, pt, (.pointer none), b, rfl, rfl⟩
 refine W.skip (nrm (sr (va (v1) (bn H fun T z H => ?_))))
 obtain ⟨g, rfl, y⟩ := ((x.mono k)).get z
 refine va (Q g) (va (Q g) (bn H fun X A H => ?_))
 obtain ⟨v24, d0, i, d⟩ := Rel.open_grid_Grid (q.mono k) A y
 refine vx (le1 0 underlying73 (b.gon i 0 rfl)) (va (I a) (bn H fun Z e H => vx (ixO underlying73 d e) ?_))
 obtain ⟨U, E, N⟩ := OA.at d e
 obtain ⟨v32, rfl, M⟩ := E
 refine vr v32 (rx (by kernel_rfl) (ldE1 underlying56 rfl (b.gon i 1 rfl) (d.blk e) (at1 (j := 0) N rfl))) (va (v32) (wln (W.ret ?_)))
 obtain rfl := si H
 exact r1 ⟨_, h, rfl, rfl, pt, v32, b, rfl, M⟩
def f_grid_Grid_Set (sg : Sto) (p0 : Option Nat) (p1 : Int) (p2 : Option Nat) : Option (Sto × Bool) :=
 (orE p2.isNone ((f_grid_Grid_Row sg p0 p1).bind fun h =>
 (f_row_Row_Wide sg h).bind fun e =>
 (f_row_Row_Wide sg p2).bind fun f =>
 some (e != f))).bind fun g =>
 if g = true then
 some (sg, false)
 else
 (p0).bind fun b =>
 (sg.grid_Grid[b]?).bind fun c =>
 (idx c.rows p1).bind fun i =>
 (sets c.rows p1 p2).bind fun d =>
 (sg.set_grid_Grid b (⟨d⟩ : G_grid_Grid)).bind fun a =>
 some (a, true)
theorem c_grid_Grid_Set (M : Own c0 G F) (e : Rel c0 sg G) (z : Option Nat) (f : Int) (g : Option Nat) {r : Sto × Bool} (h2 : Pt 1 c0 v1 z) (j : Pt 0 c0 v3 g) (H : f_grid_Grid_Set sg z f g = some r) :
    Calls prog 185 #[v1, I f, v3] c0.w (Post c0 fun c v => ∃ G_ : Gm, Own c G_ (F) ∧ Rel c r.1 G_ ∧ v = B r.2) := by
 unfold f_grid_Grid_Set at H
 refine en func185 rfl rfl (sr (va (B false) (wln (W.seq (W.seq (bn H fun g0 h5 H => W.join (Jn c0 fun c l => Own c G (F) ∧ l = [(0, v1), (1, I f), (2, v3), (17, B g0)]) ?_ ?_))))))
 ·clear H
  refine W.region (va (v3) (vr (B g.isNone) (by rcases (j).cs with ⟨p, q⟩ | ⟨b_, p, q⟩ <;> (subst p; rw [q]; kernel_rfl)) ?_))
  rcases bo (g.isNone) with k | k
  ·obtain rfl := orT k h5
   exact vb k (ps (ps (ps (ps (ps (ps (ps (va (B true) (wln ⟨c0, _, _, rfl, pt, us, M, rfl⟩)))))))))
  have a := orF k h5
  refine vb k (wn (va (v1) (wn (va (I f) (wn (bn a fun x0 h8 a => cl (c_grid_Grid_Row M e z f h2 h8) ?_))))))
  rintro v9 d1 h1 ⟨_, N, rfl, h0⟩
  refine wn (bn a fun n i0 a => cl (c_row_Row_Wide N e.m x0 h0 i0) ?_)
  rintro v23 e1 i1 ⟨P, rfl⟩
  refine wn (va (v3) (wn (bn a fun o k0 a => cl (c_row_Row_Wide P e.m g j.m k0) ?_)))
  rintro v30 d0 j1 ⟨S, rfl⟩
  refine wn (va (B (n != o)) ?_)
  obtain rfl := si a
  exact va (B (n != o)) (wln ⟨d0, _, _, rfl, pt, us, S, rfl⟩)
 rintro e_ w_ ⟨e0, f1, _, rfl, d, rfl, h, rfl⟩
 refine nrm (cn H (fun l0 H => ?_) (fun l0 H => ?_))
 ·refine sr (va (B false) (wln (W.ret (thr ?_))))
  obtain rfl := si H
  exact r1 ⟨_, e0, rfl, rfl, pt, G, h, e.m, rfl⟩
 refine W.skip (nrm (sr (va (v1) (bn H fun z0 m0 H => ?_))))
 obtain ⟨b, rfl, s⟩ := ((h2.mono d)).get m0
 refine va (Q b) (va (Q b) (bn H fun a1 o0 H => ?_))
 obtain ⟨v42, k1, x, t⟩ := Rel.open_grid_Grid (e.mono d) o0 s
 refine vx (le1 0 underlying73 (h.gon x 0 rfl)) (va (I f) (va (v3) (bn H fun b1 q0 H => vx (ixO underlying73 t q0) ?_)))
 obtain ⟨i, rfl⟩ := ((j.mono d)).form
 have U := h.borrow 1 x rfl
 refine bn H fun A s0 H => md (Own.stW (R := (RP 0)) (T := 56) (us := [.pointer i]) (x' := g) (u := .pointer i) 0 U (by kernel_rfl) rfl t s0 rfl (by kernel_rfl) ⟨j.m.one, trivial⟩ rfl ⟨(.pointer i), rfl, j.m⟩) ?_
 rintro f0 w0 ⟨y, X, u0⟩
 have Z := X.giveB 1 rfl
 refine bn H fun D v0 H => ?_
 obtain ⟨E, a0, b0, g1, c1⟩ := Rel.put_grid_Grid Z (e.mono (d.trans w0)) (E' := [(Eb b 75 [v42]), es true (RP 0) v42 56 y A]) v0 ⟨b, v42, y, (tm s), rfl, u0⟩
 refine wln (sr (va (B true) (wln (W.ret ?_))))
 obtain rfl := si H
 exact r1 ⟨_, f0, rfl, rfl, pt, E, a0, b0, rfl⟩
def f_scroll_stretch_lay (sg : Sto) (p0 : G_scroll_stretch) (p1 : Option Nat) (p2 : List (Option Nat)) : Option (Sto) :=
 (iter (σ := Int × Sto) (τ := Sto) (((p2.length : Int) - 0).toNat + 1) (fun a =>
 if (decide (a.1 < (p2.length : Int))) = true then
 (idx p2 a.1).bind fun c =>
 (f_grid_Grid_Set a.2 p1 (w64 (p0.from_ + a.1)) c).bind fun d =>
 some (.inl ((w64 (a.1 + 1)), d.1))
 else
 some (.inr (a.2))) (0, sg)).bind fun b =>
 (f_grid_Grid_Row b p1 (w64 (p0.from_ - 1))).bind fun e =>
 (f_row_Row_GoOn b e false).bind fun f =>
 some f
theorem c_scroll_stretch_lay (O0 : Own c0 G F) (R0 : Rel c0 sg G) (b : G_scroll_stretch) (g : Option Nat) (h : List (Option Nat)) {r : Sto} (h2 : Pt 1 c0 v1 g) (s : Sl (RP 0) c0 v3 h) (H : f_scroll_stretch_lay sg b g h = some r) :
    Calls prog 172 #[.agg #[I b.from_, I b.to_, I b.n], v1, v3] c0.w (Post c0 fun c v => ∃ G_ : Gm, Own c G_ (F) ∧ Rel c r G_ ∧ v = .tuple #[]) := by
 unfold f_scroll_stretch_lay at H
 refine en func172 rfl rfl (sr (me (bx 198 [I b.from_, I b.to_, I b.n] O0) ?_))
 rintro v9 q l8 ⟨f, rfl, O6, m7⟩
 refine wln (W.seq (sr (va (v3) (vx (ln 3 underlying73 s.m) (va (I 0) (wln (W.block (bn H fun h1 o d => lp o (fun a => Jn q fun c l => ∃ G_, Own c G_ (F) ∧ l = [(1, v1), (3, Q f), (8, v3), (9, I (h.length : Int)), (10, I a.1)] ∧ Rel c a.2 G_) (fun t ex e w => ex = .exit 0 ∧ (Jn q fun c l => ∃ G_, Own c G_ (F) ∧ l = [(1, v1), (3, Q f)] ∧ Rel c t G_) e w) ?_ ?_ ?_))))))))
 ·clear d o
  intro a i1 X l0 H
  revert X l0
  rintro e_ w_ ⟨S, b1, _, rfl, i0, rfl, y, i, rfl, j⟩
  refine sr (va (B (decide (a.1 < (h.length : Int)))) (wln (W.seq (cn H (fun Z H => ?_) (fun Z H => ?_)))))
  ·refine W.skip (nrm (W.seq (W.block (sr (va (I a.1) (bn H fun u p H => ?_))))))
   obtain ⟨u0, b0, j0⟩ := Sl.at (s.mono (l8.trans i0)) (idx_get p)
   obtain ⟨v23, rfl, d0⟩ := b0
   refine vx (ix underlying73 s.m p) (vx (l1 underlying56 (j0 0 _ rfl)) (va (I a.1) (va (v23) (wln (W.region (va (v1) (va (Q f) (vx (l1 underlying3 ((mm m7) 0 _ rfl)) (va (I a.1) (va (I (w64 (b.from_ + a.1))) (va (v23) (bn H fun w0 e0 H => cl (c_grid_Grid_Set i j g (w64 (b.from_ + a.1)) u h2.m d0 e0) ?_))))))))))))
   rintro v31 T d1 ⟨z, D, P, rfl⟩
   refine WL.nil (bkn (nrm (W.region (va (I (w64 (a.1 + 1))) (va (I (w64 (a.1 + 1))) (WL.nil ?_))))))
   obtain rfl := si H
   exact ⟨_, rfl, ⟨T, _, _, rfl, pt, us, z, D, rfl, P⟩⟩
  refine W.exit (thx ?_)
  obtain rfl := si H
  exact ⟨_, rfl, rfl, ⟨S, _, _, rfl, pt, us, y, i, rfl, j⟩⟩
 ·exact ⟨q, _, _, rfl, pt, us, G, O6, rfl, R0.m⟩
 rintro _ e_ w_ ⟨rfl, z0, c1, _, rfl, e1, rfl, y0, E, rfl, k⟩
 refine bke (nrm (W.region (va (v1) (va (Q f) (vx (l1 underlying3 ((mm m7) 0 _ rfl)) (va (I (w64 (b.from_ - 1))) (bn d fun x f0 d => cl (c_grid_Grid_Row E k g (w64 (b.from_ - 1)) h2.m f0) ?_)))))))
 rintro v39 a1 f1 ⟨_, M, rfl, g0⟩
 refine bn d fun x0 h0 d => cl (c_row_Row_GoOn M k.m x false g0 h0) ?_
 rintro v53 U g1 ⟨A, N, R, rfl⟩
 refine WL.nil ?_
 obtain rfl := si d
 exact n0 ⟨_, U, rfl, rfl, pt, A, N, R, rfl⟩
def f_scroll_rows (sg : Sto) (p0 : Option Nat) (p1 : Int) (p2 : Int) : Option (List (Option Nat)) :=
 (iter (σ := (List (Option Nat)) × Int) (τ := (List (Option Nat))) ((p2 - p1).toNat + 1) (fun a =>
 if (decide (a.2 < p2)) = true then
 (f_grid_Grid_Row sg p0 a.2).bind fun b =>
 (app a.1 ([b] : List (Option Nat))).bind fun c =>
 some (.inl (c, (w64 (a.2 + 1))))
 else
 some (.inr (a.1))) (([] : List (Option Nat)), p1)).bind fun d =>
 some d
theorem c_scroll_rows (O0 : Own c0 G F) (R0 : Rel c0 sg G) (o : Option Nat) (f : Int) (d : Int) {r : List (Option Nat)} (h2 : Pt 1 c0 v1 o) (H : f_scroll_rows sg o f d = some r) :
    Calls prog 173 #[v1, I f, I d] c0.w (Post c0 fun c v => ∃ q y2, Own c G (es true (RP 0) q 56 y2 r :: F) ∧ v = q ∧ OA (RP 0) c q y2 r) := by
 unfold f_scroll_rows at H
 refine en func173 rfl rfl (sr (va (Y) (wln (sr (va (Y) (wln (W.seq (sr (va (I f) (va (I f) (wln (W.block (bn H fun b1 T s => lp T (fun a => Jn c0 fun c l => ∃ v5 g, Own c G (es true (RP 0) v5 56 g a.1 :: F) ∧ l = [(0, v1), (2, I d), (7, v5), (8, I a.2)] ∧ OA (RP 0) c v5 g a.1) (fun b ex e w => ex = .exit 0 ∧ (Jn c0 fun c l => ∃ v7 h, Own c G (es true (RP 0) v7 56 h b :: F) ∧ l = [(7, v7)] ∧ OA (RP 0) c v7 h b) e w) ?_ ?_ ?_)))))))))))))
 ·clear s T
  intro a d1 N f0 H
  revert N f0
  rintro e_ w_ ⟨c9, u0, _, rfl, l9, rfl, v5, g, i, rfl, k⟩
  refine W.seq (sr (va (I a.2) (va (I d) (va (B (decide (a.2 < d))) (wln (cn H (fun P H => ?_) (fun P H => ?_)))))))
  ·refine W.skip (nrm (W.seq (W.block (W.region (va (v5) (va (v1) (va (I a.2) (bn H fun p R H => cl (c_grid_Grid_Row i R0.m o a.2 h2.m R) ?_))))))))
   rintro v18 q0 w0 ⟨_, t, rfl, n⟩
   obtain ⟨j, rfl⟩ := (n).form
   refine me (sl (RP 0) 56 [[.pointer j]] ([p] : List (Option Nat)) t ⟨⟨(.pointer j), rfl, n⟩, trivial⟩) ?_
   rintro v31 s0 x0 ⟨c1, u, S⟩
   obtain ⟨t0, X, y0, x, U⟩ := u.frz 0 rfl S
   refine WL.gh X (bn H fun o0 Z H => me (ap (RP 0) (.pointer none) 8 73 1 x k.m U Z underlying73) ?_)
   rintro v41 E z0 ⟨e0, y, a0⟩
   refine va (v41) (WL.nil (bkn (nrm (W.region (va (I a.2) (va (I (w64 (a.2 + 1))) (va (I (w64 (a.2 + 1))) (WL.nil ?_))))))))
   obtain rfl := si H
   refine ⟨_, rfl, ?_⟩
   have z := y.sD 2 [1]
   exact ⟨E, _, _, rfl, pt, us, v41, e0, z, rfl, a0⟩
  refine W.exit (thx ?_)
  obtain rfl := si H
  exact ⟨_, rfl, rfl, ⟨c9, _, _, rfl, pt, us, v5, g, i, rfl, k⟩⟩
 ·have b0 : OA (RP 0) c0 (Y) [] [] := OA.nil (Nat.succ_pos _)
  have A := O0.addHole (e := es true (RP 0) (Y) 56 [] ([] : List (Option Nat))) rfl
  exact ⟨c0, _, _, rfl, pt, us, (Y), [], A, rfl, b0⟩
 rintro _ e_ w_ ⟨rfl, M, v0, _, rfl, a1, rfl, v7, h, D, rfl, d0⟩
 refine bke (nrm (sr (va (v7) (va (v7) (wln (W.ret ?_))))))
 obtain rfl := si s
 exact r1 ⟨_, M, rfl, rfl, pt, v7, h, D, rfl, d0⟩
def f_grid_Grid_Wide (sg : Sto) (p0 : Option Nat) : Option (Int) :=
 (f_grid_Grid_Row sg p0 0).bind fun a =>
 (f_row_Row_Wide sg a).bind fun b =>
 some b
theorem c_grid_Grid_Wide (i : Own c0 G F) (d : Rel c0 sg G) (a : Option Nat) {r : Int} (k : Pt 1 c0 v1 a) (H : f_grid_Grid_Wide sg a = some r) :
    Calls prog 103 #[v1] c0.w (Post c0 fun c v => Own c G (F) ∧ v = I r) := by
 unfold f_grid_Grid_Wide at H
 refine en func103 rfl rfl (sr (va (I 0) (wln (sr (va (v1) (bn H fun g l H => cl (c_grid_Grid_Row i d a 0 k l) ?_))))))
 rintro v4 o p ⟨_, j, rfl, n⟩
 refine bn H fun h f H => cl (c_row_Row_Wide j d.m g n f) ?_
 rintro v18 e q ⟨b, rfl⟩
 refine va (I h) (wln (W.ret ?_))
 obtain rfl := si H
 exact r1 ⟨_, e, rfl, rfl, pt, b, rfl⟩
def f_scroll_blanks (sg : Sto) (p0 : Option Nat) (p1 : Int) : Option (Sto × (List (Option Nat))) :=
 (iter (σ := (List (Option Nat)) × Int × Sto) (τ := ((List (Option Nat)) × Sto)) ((p1 - 0).toNat + 1) (fun a =>
 if (decide (a.2.1 < p1)) = true then
 (f_grid_Grid_Wide a.2.2 p0).bind fun d =>
 (f_row_New a.2.2 d).bind fun b =>
 (app a.1 ([b.2] : List (Option Nat))).bind fun e =>
 some (.inl (e, (w64 (a.2.1 + 1)), b.1))
 else
 some (.inr (a.1, a.2.2))) (([] : List (Option Nat)), 0, sg)).bind fun c =>
 some (c.2, c.1)
theorem c_scroll_blanks (O0 : Own c0 G F) (R0 : Rel c0 sg G) (p : Option Nat) (f : Int) {r : Sto × (List (Option Nat))} (h2 : Pt 1 c0 v1 p) (H : f_scroll_blanks sg p f = some r) :
    Calls prog 174 #[v1, I f] c0.w (Post c0 fun c v => ∃ t y2, ∃ G_ : Gm, Own c G_ (es true (RP 0) t 56 y2 r.2 :: F) ∧ Rel c r.1 G_ ∧ Adds G G_ ∧ v = t ∧ OA (RP 0) c t y2 r.2) := by
 unfold f_scroll_blanks at H
 refine en func174 rfl rfl (sr (va (Y) (wln (sr (va (Y) (wln (W.seq (sr (va (I f) (va (I 0) (wln (W.block (bn H fun t1 h3 z => lp h3 (fun a => Jn c0 fun c l => ∃ v5 g G_, Own c G_ (es true (RP 0) v5 56 g a.1 :: F) ∧ l = [(0, v1), (5, v5), (6, I f), (7, I a.2.1)] ∧ Rel c a.2.2 G_ ∧ Adds G G_ ∧ OA (RP 0) c v5 g a.1) (fun b ex e w => ex = .exit 0 ∧ (Jn c0 fun c l => ∃ v7 h G_, Own c G_ (es true (RP 0) v7 56 h b.1 :: F) ∧ l = [(5, v7)] ∧ Rel c b.2 G_ ∧ Adds G G_ ∧ OA (RP 0) c v7 h b.1) e w) ?_ ?_ ?_)))))))))))))
 ·clear z h3
  intro a w1 e0 u0 H
  revert e0 u0
  rintro e_ w_ ⟨c9, h1, _, rfl, l9, rfl, v5, g, u, i, rfl, d, j, n⟩
  refine sr (va (B (decide (a.2.1 < f))) (wln (W.seq (cn H (fun f0 H => ?_) (fun f0 H => ?_)))))
  ·refine W.skip (nrm (W.seq (W.block (W.region (va (v5) (va (v1) (bn H fun q g0 H => cl (c_grid_Grid_Wide i d p h2.m g0) ?_)))))))
   rintro v23 d1 j1 ⟨A, rfl⟩
   refine bn H fun s h0 H => cl (c_row_New A d.m q h0) ?_
   rintro v25 e1 k1 ⟨_, x, D, T, X, rfl, o⟩
   have Z := j.trans X
   obtain ⟨k, rfl⟩ := (o).form
   refine me (sl (RP 0) 56 [[.pointer k]] ([s.2] : List (Option Nat)) D ⟨⟨(.pointer k), rfl, o⟩, trivial⟩) ?_
   rintro v39 f1 m1 ⟨u1, E, j0⟩
   obtain ⟨g1, l0, n1, M, k0⟩ := E.frz 0 rfl j0
   refine WL.gh l0 (bn H fun c1 m0 H => me (ap (RP 0) (.pointer none) 8 73 1 M n.m k0 m0 underlying73) ?_)
   rintro v49 b0 q1 ⟨t0, N, o0⟩
   refine va (v49) (WL.nil (bkn (nrm (W.region (va (I (w64 (a.2.1 + 1))) (va (I (w64 (a.2.1 + 1))) (WL.nil ?_)))))))
   obtain rfl := si H
   refine ⟨_, rfl, ?_⟩
   have P := N.sD 2 [1]
   exact ⟨b0, _, _, rfl, pt, us, v49, t0, x, P, rfl, T.m, Z, o0⟩
  refine W.exit (thx ?_)
  obtain rfl := si H
  exact ⟨_, rfl, rfl, ⟨c9, _, _, rfl, pt, us, v5, g, u, i, rfl, d, j, n⟩⟩
 ·have q0 : OA (RP 0) c0 (Y) [] [] := OA.nil (Nat.succ_pos _)
  have R := O0.addHole (e := es true (RP 0) (Y) 56 [] ([] : List (Option Nat))) rfl
  exact ⟨c0, _, _, rfl, pt, us, (Y), [], G, R, rfl, R0, (Adds.refl _), q0⟩
 rintro _ e_ w_ ⟨rfl, d0, i1, _, rfl, s1, rfl, v7, h, y, S, rfl, U, a0, s0⟩
 refine bke (nrm (sr (va (v7) (va (v7) (wln (W.ret ?_))))))
 obtain rfl := si z
 exact r1 ⟨_, d0, rfl, rfl, pt, v7, h, y, S, U, a0, rfl, s0⟩
def f_scroll_Up (sg : Sto) (p0 : Option Nat) (p1 : Int) (p2 : Int) (p3 : Int) : Option (Sto) :=
 (f_scroll_of sg p0 p1 p2 p3).bind fun a =>
 if a.2 = true then
 (f_scroll_rows sg p0 (w64 (a.1.from_ + a.1.n)) a.1.to_).bind fun c =>
 (f_scroll_blanks sg p0 a.1.n).bind fun b =>
 (app c b.2).bind fun d =>
 (f_scroll_stretch_lay b.1 a.1 p0 d).bind fun e =>
 some e
 else
 some sg
theorem c_scroll_Up (O0 : Own c0 G F) (h : Rel c0 sg G) (g : Option Nat) (k : Int) (l : Int) (o : Int) {r : Sto} (j : Pt 1 c0 v1 g) (H : f_scroll_Up sg g k l o = some r) :
    Calls prog 133 #[v1, I k, I l, I o] c0.w (Post c0 fun c v => ∃ G_ : Gm, Own c G_ (F) ∧ Rel c r G_ ∧ v = .tuple #[]) := by
 unfold f_scroll_Up at H
 refine en func133 rfl rfl (sr (va (v1) (va (I k) (va (I l) (va (I o) (bn H fun a h3 H => cl (c_scroll_of O0 h g k l o j h3) ?_))))))
 rintro v9 c8 l8 ⟨O5, rfl⟩
 refine va (.tuple #[.agg #[I a.1.from_, I a.1.to_, I a.1.n], B a.2]) (va (.agg #[I a.1.from_, I a.1.to_, I a.1.n]) (va (B a.2) (me (al 198 [I 0, I 0, I 0] O5) ?_)))
 rintro v13 j1 k1 ⟨b, rfl, M⟩
 refine md (sA 198 [I a.1.from_, I a.1.to_, I a.1.n] 0 M ⟨rfl, rfl, rfl, trivial⟩) ?_
 rintro T m1 p
 refine va (B a.2) (wln (sr (va (B a.2) (wln (cn H (fun e0 H => ?_) (fun e0 H => ?_))))))
 ·refine rD [] (Kp G0 [(Eb b 198 [I a.1.from_, I a.1.to_, I a.1.n])]) p ?_
  intro U n1 q
  have e : Kp G0 [(Eb b 198 [I a.1.from_, I a.1.to_, I a.1.n])] U := (Kp.cons (q.on 0 rfl) Kp.nil0)
  refine tkx 0 e (fun i f d => leN 198 0 [I a.1.from_, I a.1.to_, I a.1.n] (d.on 0 rfl)) (ta 1 (v1) (ta 2 (v1) (ta 3 (Q b) (tkx 4 e (fun i f d => le1 0 underlying3 (d.on 0 rfl)) (ta 5 (.pointer (some ⟨b, 2, none⟩)) (tkx 6 e (fun i f d => le1 2 underlying3 (d.on 0 rfl)) (ta 7 (I (w64 (a.1.from_ + a.1.n))) (ta 8 (.pointer (some ⟨b, 1, none⟩)) (tkx 9 e (fun i f d => le1 1 underlying3 (d.on 0 rfl)) (ta 11 (v1) (ta 12 (.pointer (some ⟨b, 2, none⟩)) (tkx 13 e (fun i f d => le1 2 underlying3 (d.on 0 rfl)) (bn H fun e1 f0 H => o1 10 (gc 10 (c_scroll_rows q h.m g (w64 (a.1.from_ + a.1.n)) a.1.to_ j.m f0) ?_))))))))))))))
  rintro v21 X q1 ⟨_, w1, s, rfl, g0⟩
  have v0 : Kp G0 [(Eb b 198 [I a.1.from_, I a.1.to_, I a.1.n])] X := (Kp.cons (s.on 1 rfl) Kp.nil0)
  refine ⟨.inr v0, bn H fun f1 h0 H => o1 14 (gc 14 (c_scroll_blanks s h.m g a.1.n j.m h0) ?_)⟩
  rintro v32 Z s1 ⟨_, x1, h1, t, R, i1, rfl, i0⟩
  have w0 : Kp G0 [(Eb b 198 [I a.1.from_, I a.1.to_, I a.1.n])] Z := (Kp.cons (t.on 2 rfl) Kp.nil0)
  refine ⟨.inr w0, ?_⟩
  obtain ⟨a0, k0, t0, u, j0⟩ := t.frz 0 rfl i0
  have x0 : Kp G0 [(Eb b 198 [I a.1.from_, I a.1.to_, I a.1.n])] a0 := (Kp.cons (u.on 2 rfl) Kp.nil0)
  refine AC.gh k0 t0 (fun _ => x0) (bn H fun D l0 H => o1 15 (gm 15 (ap (RP 0) (.pointer none) 8 73 1 u g0.m j0 l0 underlying73) ?_))
  rintro v52 b0 t1 ⟨y1, x, m0⟩
  have y0 : Kp G0 [(Eb b 198 [I a.1.from_, I a.1.to_, I a.1.n])] b0 := (Kp.cons (x.on 2 rfl) Kp.nil0)
  refine ⟨.inr y0, ?_⟩
  obtain ⟨d0, q0, u0, y, o0⟩ := x.frz 1 rfl m0
  have z0 : Kp G0 [(Eb b 198 [I a.1.from_, I a.1.to_, I a.1.n])] d0 := (Kp.cons (y.on 2 rfl) Kp.nil0)
  refine AC.gh q0 u0 (fun _ => z0) (bn H fun g1 s0 H => o1 16 (gc 16 (c_scroll_stretch_lay y R.m a.1 g D j.m o0 s0) ?_))
  rintro z1 A u1 ⟨E, z, S, rfl⟩
  have a1 : Kp G0 [(Eb b 198 [I a.1.from_, I a.1.to_, I a.1.n])] A := (Kp.cons (z.on 2 rfl) Kp.nil0)
  refine ⟨.inr a1, dn ?_⟩
  obtain rfl := si H
  have N := z.sD 3 []
  exact n0 ⟨_, A, rfl, rfl, pt, E, N, S, rfl⟩
 refine W.skip ?_
 obtain rfl := si H
 have P := p.sD 1 []
 exact n0 ⟨_, T, rfl, rfl, pt, G, P, h.m, rfl⟩
def f_grid_Grid_Lines (sg : Sto) (p0 : Option Nat) : Option (List G_api_Line) :=
 (f_grid_Grid_High sg p0).bind fun c =>
 (iter (σ := (List G_api_Line) × Int) (τ := (List G_api_Line)) ((c - 0).toNat + 1) (fun a =>
 if (decide (a.2 < c)) = true then
 (p0).bind fun d =>
 (sg.grid_Grid[d]?).bind fun b =>
 (idx b.rows a.2).bind fun e =>
 (idx b.rows a.2).bind fun f =>
 (f_row_Row_Cells sg e).bind fun g =>
 (f_row_Row_Wrap sg f).bind fun h =>
 (app a.1 ([(⟨g, h⟩ : G_api_Line)] : List G_api_Line)).bind fun i =>
 some (.inl (i, (w64 (a.2 + 1))))
 else
 some (.inr (a.1))) (([] : List G_api_Line), 0)).bind fun j =>
 some j
theorem c_grid_Grid_Lines (O0 : Own c0 G F) (z : Rel c0 sg G) (p0 : Option Nat) {r : List G_api_Line} (h2 : Pt 1 c0 v1 p0) (H : f_grid_Grid_Lines sg p0 = some r) :
    Calls prog 13 #[v1] c0.w (Post c0 fun c v => ∃ y1 y2, Own c G (es true R_api_Line y1 78 y2 r :: F) ∧ v = y1 ∧ OA R_api_Line c y1 y2 r) := by
 unfold f_grid_Grid_Lines at H
 refine en func13 rfl rfl (sr (va (Y) (wln (sr (va (Y) (wln (W.seq (sr (va (v1) (bn H fun g0 h3 H => cl (c_grid_Grid_High O0 z p0 h2 h3) ?_))))))))))
 rintro v9 A l8 ⟨O5, rfl⟩
 refine va (I 0) (wln (W.block (bn H fun i3 Z D => lp Z (fun a => Jn A fun c l => ∃ v12 n, Own c G (es true R_api_Line v12 78 n a.1 :: F) ∧ l = [(0, v1), (3, v12), (6, I g0), (7, I a.2)] ∧ OA R_api_Line c v12 n a.1) (fun y ex e w => ex = .exit 0 ∧ (Jn A fun c l => ∃ v14 o, Own c G (es true R_api_Line v14 78 o y :: F) ∧ l = [(3, v14)] ∧ OA R_api_Line c v14 o y) e w) ?_ ?_ ?_)))
 ·clear D Z
  intro a o3 a1 n2 H
  revert a1 n2
  rintro e_ w_ ⟨s0, b3, _, rfl, l16, rfl, v12, n, E, rfl, a0⟩
  refine sr (va (B (decide (a.2 < g0))) (wln (W.seq (cn H (fun c1 H => ?_) (fun c1 H => ?_)))))
  ·refine W.skip (nrm (W.seq (W.block (sr (va (I a.2) (va (I a.2) (wln (rD [] (Kp G []) E ?_))))))))
   intro t0 d0 M
   have k : Kp G [] t0 := (Kp.nil M)
   refine ta 0 (v12) (ta 1 (v1) (bn H fun u2 e1 H => ?_))
   obtain ⟨d, rfl, d1⟩ := ((h2.mono (l8.trans (l16.trans d0)))).get e1
   refine ta 2 (Q d) (ta 3 (Q d) (bn H fun x2 f1 H => ?_))
   obtain ⟨v31, j3, i, b⟩ := Rel.open_grid_Grid (z.mono (l8.trans (l16.trans d0))) f1 d1
   refine tkx 4 k (fun t f g => le1 0 underlying73 (g.gon i 0 rfl)) (ta 5 (I a.2) (bn H fun i0 u H => tx 6 (fun t f => ixO underlying73 b u) ?_))
   obtain ⟨v2, g1, d2⟩ := OA.at b u
   obtain ⟨v39, rfl, h1⟩ := g1
   refine AC.takeK 7 (v39) k rfl (by kernel_rfl) (by kernel_rfl) (by kernel_rfl) (fun t f g => (rx (by kernel_rfl) (ldE1 underlying56 rfl (g.gon i 1 rfl) (b.blk u) (at1 (j := 0) d2 rfl)))) (ta 9 (Q d) (ta 10 (Q d) (ta 11 (Q d) (tkx 12 k (fun t f g => le1 0 underlying73 (g.gon i 0 rfl)) (ta 13 (I a.2) (bn H fun j0 x H => tx 14 (fun t f => ixO underlying73 b x) ?_))))))
   obtain ⟨w2, i1, e2⟩ := OA.at b x
   obtain ⟨v45, rfl, j1⟩ := i1
   refine AC.takeK 15 (v45) k rfl (by kernel_rfl) (by kernel_rfl) (by kernel_rfl) (fun t f g => (rx (by kernel_rfl) (ldE1 underlying56 rfl (g.gon i 1 rfl) (b.blk x) (at1 (j := 0) e2 rfl)))) (bn H fun k0 k1 H => o1 8 (gc 8 (c_row_Row_Cells M z.m i0 h1 k1) ?_))
   rintro v48 u0 d3 ⟨_, k3, N, rfl, b0⟩
   have f2 : Kp G [] u0 := (Kp.nil N)
   refine ⟨.inr f2, bn H fun h m1 H => o1 16 (gc 16 (c_row_Row_Wrap N z.m j0 j1.m m1) ?_)⟩
   rintro m3 v0 e0 ⟨P, rfl⟩
   have g2 : Kp G [] v0 := (Kp.nil P)
   refine ⟨.inr g2, ?_⟩
   obtain ⟨p, q, s, rfl⟩ := ((b0.mono e0)).form
   refine ta 17 (.agg #[.slice p q s, B h]) ?_
   obtain ⟨w0, p1, a2, R, n1⟩ := P.frz 0 rfl (b0.mono e0)
   have i2 : Kp G [] w0 := (Kp.nil R)
   refine AC.gh p1 a2 (fun _ => i2) (o1 18 (gm 18 (sl R_api_Line 78 [[.slice p q s, B h]] ([(⟨k0, h⟩ : G_api_Line)] : List G_api_Line) R ⟨⟨(.slice p q s), rfl, n1⟩, trivial⟩) ?_))
   rintro n3 x0 e3 ⟨l3, S, q1⟩
   have j2 : Kp G [] x0 := (Kp.nil S)
   refine ⟨.inr j2, ?_⟩
   obtain ⟨y0, t1, c2, T, s1⟩ := S.frz 0 rfl q1
   have k2 : Kp G [] y0 := (Kp.nil T)
   refine AC.gh t1 c2 (fun _ => k2) (bn H fun a3 u1 H => o1 19 (gm 19 (ap R_api_Line (.agg #[Y, B false]) 32 30 2 T a0.m s1 u1 underlying30) ?_))
   rintro f0 X f3 ⟨m2, U, w1⟩
   have l2 : Kp G [] X := (Kp.nil U)
   refine ⟨.inr l2, ta 20 (f0) (dn (bkn (nrm (W.region (va (I (w64 (a.2 + 1))) (va (I (w64 (a.2 + 1))) (WL.nil ?_)))))))⟩
   obtain rfl := si H
   refine ⟨_, rfl, ?_⟩
   have m0 := U.sD 3 [2]
   exact ⟨X, _, _, rfl, pt, us, f0, m2, m0, rfl, w1⟩
  refine W.exit (thx ?_)
  obtain rfl := si H
  exact ⟨_, rfl, rfl, ⟨s0, _, _, rfl, pt, us, v12, n, E, rfl, a0⟩⟩
 ·have x1 : OA R_api_Line A (Y) [] [] := OA.nil (Nat.succ_pos _)
  have o0 := O5.addHole (e := es true R_api_Line (Y) 78 [] ([] : List G_api_Line)) rfl
  exact ⟨A, _, _, rfl, pt, us, (Y), [], o0, rfl, x1⟩
 rintro _ e_ w_ ⟨rfl, z0, c3, _, rfl, g3, rfl, v14, o, q0, rfl, z1⟩
 refine bke (nrm (sr (va (v14) (va (v14) (wln (W.ret ?_))))))
 obtain rfl := si D
 exact r1 ⟨_, z0, rfl, rfl, pt, v14, o, q0, rfl, z1⟩
def f_linotyperef32_Same (p0 : List G_api_Line) (p1 : List G_api_Line) : Option (Bool) :=
 if ((p0.length : Int) != (p1.length : Int)) = true then
 some false
 else
 (iter (σ := Int) (τ := Bool ⊕ Unit) (((p0.length : Int) - 0).toNat + 1) (fun a =>
 if (decide (a < (p0.length : Int))) = true then
 (idx p0 a).bind fun d =>
 (idx p1 a).bind fun e =>
 (orE (!(d.Wrap == e.Wrap)) ((idx p0 a).bind fun f =>
 (idx p1 a).bind fun g =>
 (f_linotyperef23_Same f.Cells g.Cells).bind fun h =>
 some (!h))).bind fun c =>
 if c = true then
 some (.inr (.inl false))
 else
 some (.inl ((w64 (a + 1))))
 else
 some (.inr (.inr ()))) (0)).bind fun b =>
 match b with
 | .inl b =>
 some b
 | .inr b =>
 some true
theorem c_linotyperef32_Same (O0 : Own c0 G F) (s : List G_api_Line) (X : List G_api_Line) {r : Bool} (j : Sl R_api_Line c0 v1 s) (k : Sl R_api_Line c0 v3 X) (H : f_linotyperef32_Same s X = some r) :
    Calls prog 31 #[v1, v3] c0.w (Post c0 fun c v => Own c G (F) ∧ v = B r) := by
 unfold f_linotyperef32_Same at H
 refine en func31 rfl rfl (sr (va (B false) (wln (W.seq (sr (va (v1) (vx (ln 3 underlying30 j) (va (v3) (vx (ln 3 underlying30 k) (va (B ((s.length : Int) != (X.length : Int))) (wln (cn H (fun h5 H => ?_) (fun h5 H => ?_)))))))))))))
 ·refine sr (va (B false) (wln (W.ret (thr ?_))))
  obtain rfl := si H
  exact r1 ⟨_, c0, rfl, rfl, pt, O0, rfl⟩
 refine W.skip (nrm (W.seq (sr (va (I 0) (wln (W.block (bn H fun h h6 S => lp h6 (fun a => Jn c0 fun c l => Own c G (F) ∧ l = [(0, v1), (1, v3), (5, I a)]) (fun t => match t with | .inl x_ => (fun f1 ex e w => ex = .ret ∧ (Jn c0 fun c l => Own c G (F) ∧ l = [(4, B f1)]) e w) x_ | .inr x_ => (fun h1 ex e w => ex = .exit 0 ∧ (Jn c0 fun c l => Own c G (F) ∧ l = []) e w) x_) ?_ ?_ ?_)))))))
 ·clear S h6
  intro a c2 l0 g1 H
  revert l0 g1
  rintro U Z ⟨c8, g9, _, rfl, q, rfl, u, rfl⟩
  refine W.seq (sr (va (I a) (va (v1) (vx (ln 3 underlying30 j.m) (va (B (decide (a < (s.length : Int)))) (wln (cn H (fun o0 H => ?_) (fun o0 H => ?_))))))))
  ·refine W.skip (nrm (W.seq (W.block (W.seq (bn H fun n E H => bn H fun o M H => bn H fun T N H => W.join (Jn c8 fun c l => Own c G (F) ∧ l = [(0, v1), (1, v3), (5, I a), (41, B T)]) ?_ ?_)))))
   ·clear H
    refine rD [] (Kp G0 []) u ?_
    intro z i x
    have b2 : Kp G0 [] z := Kp.nil0
    refine ta 0 (v1) (ta 1 (I a) ?_)
    obtain ⟨j1, q0, a1⟩ := Sl.at (j.mono (q.trans i)) (idx_get E)
    obtain ⟨v24, rfl, u1⟩ := q0
    refine tx 2 (fun f b => ix underlying30 j.m E) (ta 3 (.pointer (some ⟨sb v1, so v1 + a.toNat * 2 + 1, none⟩)) (tx 4 (fun f b => l1 underlying4 ((mm a1) 1 _ rfl)) (ta 5 (v3) (ta 6 (I a) ?_))))
    obtain ⟨k1, s0, b1⟩ := Sl.at (k.mono (q.trans i)) (idx_get M)
    obtain ⟨v29, rfl, w1⟩ := s0
    refine tx 7 (fun f b => ix underlying30 k.m M) (ta 8 (.pointer (some ⟨sb v3, so v3 + a.toNat * 2 + 1, none⟩)) (tx 9 (fun f b => l1 underlying4 ((mm b1) 1 _ rfl)) (ta 10 (B (!(n.Wrap == o.Wrap))) ?_)))
    rcases bo (!(n.Wrap == o.Wrap)) with g | g
    ·obtain rfl := orT g N
     exact AC.takeb 11 g rfl (by kernel_rfl) (by kernel_rfl) (fun f b => (by kernel_rfl)) (tp 12 (tp 13 (tp 14 (tp 15 (tp 16 (tp 17 (tp 18 (tp 19 (tp 20 (tp 21 (tp 22 (tp 23 (ta 24 (B true) (dn (nrm ⟨z, _, _, rfl, pt, us, x, rfl⟩)))))))))))))))
    have d := orF g N
    refine bn d fun b0 P d => bn d fun d0 R d => bn d fun p t0 d => AC.takeb 11 g rfl (by kernel_rfl) (by kernel_rfl) (fun f b => (by kernel_rfl)) (ta 12 (v1) (ta 13 (I a) ?_))
    obtain ⟨m1, u0, c1⟩ := Sl.at (j.mono (q.trans i)) (idx_get P)
    obtain ⟨v39, rfl, v0⟩ := u0
    refine tx 14 (fun f b => ix underlying30 j.m P) (ta 15 (.pointer (some ⟨sb v1, so v1 + a.toNat * 2, none⟩)) (tx 16 (fun f b => l1 underlying72 ((mm c1) 0 _ rfl)) (ta 17 (v3) (ta 18 (I a) ?_))))
    obtain ⟨n1, w0, d1⟩ := Sl.at (k.mono (q.trans i)) (idx_get R)
    obtain ⟨v44, rfl, x0⟩ := w0
    refine tx 19 (fun f b => ix underlying30 k.m R) (ta 20 (.pointer (some ⟨sb v3, so v3 + a.toNat * 2, none⟩)) (tx 21 (fun f b => l1 underlying72 ((mm d1) 0 _ rfl)) (o1 22 (gc 22 (c_linotyperef23_Same x b0.Cells d0.Cells v0 x0 t0) ?_))))
    rintro v51 A x1 ⟨f0, rfl⟩
    have e1 : Kp G0 [] A := Kp.nil0
    refine ⟨.inr e1, ta 23 (B (!p)) ?_⟩
    obtain rfl := si d
    exact ta 24 (B (!p)) (dn (nrm ⟨A, _, _, rfl, pt, us, f0, rfl⟩))
   rintro U Z ⟨D, q1, _, rfl, y1, rfl, y, rfl⟩
   refine nrm (cn H (fun y0 H => ?_) (fun y0 H => ?_))
   ·refine sr (va (B false) (wln (W.ret (bkr (thr ?_)))))
    obtain rfl := si H
    exact ⟨_, rfl, ⟨rfl, ⟨D, _, _, rfl, pt, us, y, rfl⟩⟩⟩
   refine W.skip (bkn (nrm (W.region (va (I a) (va (I (w64 (a + 1))) (va (I (w64 (a + 1))) (WL.nil ?_)))))))
   obtain rfl := si H
   exact ⟨_, rfl, ⟨D, _, _, rfl, pt, us, y, rfl⟩⟩
  refine W.exit (thx ?_)
  obtain rfl := si H
  exact ⟨_, rfl, rfl, ⟨c8, _, _, rfl, pt, us, u, rfl⟩⟩
 ·exact ⟨c0, _, _, rfl, pt, us, O0, rfl⟩
 rcases h with h | h
 ·intro m0; revert m0
  rintro _ U Z ⟨rfl, i0, s1, _, rfl, z1, rfl, g0, rfl⟩
  refine bkr (thr ?_)
  obtain rfl := si S
  exact r1 ⟨_, i0, rfl, rfl, pt, g0, rfl⟩
 rintro _ U Z ⟨rfl, j0, t1, _, rfl, a2, rfl, h0, rfl⟩
 refine bke (nrm (sr (va (B true) (wln (W.ret ?_)))))
 obtain rfl := si S
 exact r1 ⟨_, j0, rfl, rfl, pt, h0, rfl⟩
def f_linotyperef33_Move (p0 : List G_api_Line) (p1 : Int) (p2 : Int) (p3 : Int) (p4 : Bool) : Option (List G_api_Line) :=
 (orE (decide ((imax 0 (imin p1 (p0.length : Int))) ≥ (imax 0 (imin p2 (p0.length : Int))))) (some (decide (p3 < 1)))).bind fun j =>
 if j = true then
 some p0
 else
 (iter (σ := (List G_api_Line) × Int) (τ := (List G_api_Line)) (((p0.length : Int) - 0).toNat + 1) (fun a =>
 if (decide (a.2 < (p0.length : Int))) = true then
 (idx p0 a.2).bind fun c =>
 ((andE (decide (a.2 ≥ (imax 0 (imin p1 (p0.length : Int))))) (some (decide (a.2 < (imax 0 (imin p2 (p0.length : Int))))))).bind fun k =>
 if k = true then
 (if (!p4) = true then
 some ((w64 (a.2 - (imin p3 (w64 ((imax 0 (imin p2 (p0.length : Int))) - (imax 0 (imin p1 (p0.length : Int)))))))))
 else
 some ((w64 (a.2 + (imin p3 (w64 ((imax 0 (imin p2 (p0.length : Int))) - (imax 0 (imin p1 (p0.length : Int)))))))))).bind fun b =>
 (idx p0 a.2).bind fun n =>
 (rep (n.Cells.length : Int) (⟨0, ([] : List Int)⟩ : G_api_Cell)).bind fun o =>
 (andE (decide (b ≥ (imax 0 (imin p1 (p0.length : Int))))) (some (decide (b < (imax 0 (imin p2 (p0.length : Int))))))).bind fun l =>
 if l = true then
 (idx p0 b).bind fun d =>
 some (d.Cells, d.Wrap)
 else
 some (o, false)
 else
 some (c.Cells, c.Wrap)).bind fun e =>
 ((orE ((w64 (a.2 + 1)) == (imax 0 (imin p1 (p0.length : Int)))) ((andE (!p4) (some ((w64 (a.2 + 1)) == (imax 0 (imin p2 (p0.length : Int)))))).bind fun g =>
 some g)).bind fun f =>
 if f = true then
 some (false)
 else
 some (e.2)).bind fun i =>
 (app a.1 ([(⟨e.1, i⟩ : G_api_Line)] : List G_api_Line)).bind fun h =>
 some (.inl (h, (w64 (a.2 + 1))))
 else
 some (.inr (a.1))) (([] : List G_api_Line), 0)).bind fun m =>
 some m
theorem c_linotyperef33_Move (O0 : Own c0 G F) (a : List G_api_Line) (f : Int) (d : Int) (g : Int) (q : Bool) {r : List G_api_Line} (U : Sl R_api_Line c0 v1 a) (H : f_linotyperef33_Move a f d g q = some r) :
    Calls prog 93 #[v1, I f, I d, I g, B q] c0.w (Post c0 fun c v => ∃ y1, Own c G (F) ∧ v = y1 ∧ Sl R_api_Line c y1 r) := by
 unfold f_linotyperef33_Move at H
 refine en func93 rfl rfl (sr (va (Y) (wln (sr (va (v1) (vx (ln 3 underlying30 U) (va (I (a.length : Int)) (wln (sr (va (I f) (va (I (a.length : Int)) (va (I (imin f (a.length : Int))) (va (I (imax 0 (imin f (a.length : Int)))) (va (I (imax 0 (imin f (a.length : Int)))) (wln (sr (va (I d) (va (I (a.length : Int)) (va (I (imin d (a.length : Int))) (va (I (imax 0 (imin d (a.length : Int)))) (va (I (imax 0 (imin d (a.length : Int)))) (wln (W.seq (W.seq (bn H fun i3 h3 H => W.join (Jn c0 fun c l => Own c G (F) ∧ l = [(0, v1), (1, I (imax 0 (imin f (a.length : Int)))), (2, I (imax 0 (imin d (a.length : Int)))), (3, I g), (4, B q), (11, I (a.length : Int)), (32, B i3)]) ?_ ?_)))))))))))))))))))))))))
 ·clear H
  refine W.region (va (I (imax 0 (imin f (a.length : Int)))) (va (I (imax 0 (imin d (a.length : Int)))) (va (B (decide ((imax 0 (imin f (a.length : Int))) ≥ (imax 0 (imin d (a.length : Int)))))) ?_)))
  rcases bo (decide ((imax 0 (imin f (a.length : Int))) ≥ (imax 0 (imin d (a.length : Int))))) with h4 | h4
  ·obtain rfl := orT h4 h3
   exact vb h4 (ps (ps (va (B true) (wln ⟨c0, _, _, rfl, pt, us, O0, rfl⟩))))
  have H5 := orF h4 h3
  refine vb h4 (wn (va (I g) (wn (va (B (decide (g < 1))) ?_))))
  obtain rfl := si H5
  exact va (B (decide (g < 1))) (wln ⟨c0, _, _, rfl, pt, us, O0, rfl⟩)
 rintro T w_ ⟨c6, g7, _, rfl, l6, rfl, O8, rfl⟩
 refine nrm (cn H (fun q4 H => ?_) (fun q4 H => ?_))
 ·refine sr (va (v1) (va (v1) (wln (W.ret (thr ?_)))))
  obtain rfl := si H
  exact r1 ⟨_, c6, rfl, rfl, pt, v1, O8, rfl, U.m⟩
 refine W.skip (nrm (sr (va (I g) (va (I (imax 0 (imin d (a.length : Int)))) (va (I (imax 0 (imin f (a.length : Int)))) (va (I (w64 ((imax 0 (imin d (a.length : Int))) - (imax 0 (imin f (a.length : Int)))))) (va (I (imin g (w64 ((imax 0 (imin d (a.length : Int))) - (imax 0 (imin f (a.length : Int))))))) (va (I (imin g (w64 ((imax 0 (imin d (a.length : Int))) - (imax 0 (imin f (a.length : Int))))))) (wln (sr (va (Y) (wln (W.seq (sr (va (I 0) (wln (W.block (bn H fun g6 w1 j1 => lp w1 (fun b => Jn c6 fun c l => ∃ v15 p, Own c G (es true R_api_Line v15 78 p b.1 :: F) ∧ l = [(0, v1), (1, I (imax 0 (imin f (a.length : Int)))), (2, I (imax 0 (imin d (a.length : Int)))), (3, I (imin g (w64 ((imax 0 (imin d (a.length : Int))) - (imax 0 (imin f (a.length : Int))))))), (4, B q), (11, I (a.length : Int)), (12, v15), (13, I b.2)] ∧ OA R_api_Line c v15 p b.1) (fun k0 ex e w => ex = .exit 0 ∧ (Jn c6 fun c l => ∃ v17 f1, Own c G (es true R_api_Line v17 78 f1 k0 :: F) ∧ l = [(12, v17)] ∧ OA R_api_Line c v17 f1 k0) e w) ?_ ?_ ?_))))))))))))))))))
 ·clear j1 w1
  intro b v6 o4 f5 H
  revert o4 f5
  rintro T w_ ⟨n4, o6, _, rfl, d1, rfl, v15, p, k1, rfl, x1⟩
  refine W.seq (sr (va (I b.2) (va (I (a.length : Int)) (va (B (decide (b.2 < (a.length : Int)))) (wln (cn H (fun r4 H => ?_) (fun r4 H => ?_)))))))
  ·refine W.skip (nrm (W.seq (W.block (sr (va (v1) (va (I b.2) (bn H fun e0 z1 H => ?_)))))))
   obtain ⟨d6, s4, b5⟩ := Sl.at (U.mono (l6.trans d1)) (idx_get z1)
   obtain ⟨v31, rfl, z0⟩ := s4
   refine vx (ix underlying30 U.m z1) (vx (lN 78 b5) (me (al 78 [Y, B false] k1) ?_))
   rintro v36 j6 e1 ⟨k, rfl, j4⟩
   obtain ⟨f0, g0, h0, rfl⟩ := ((z0.mono e1)).form
   refine md (sA 78 [.slice f0 g0 h0, B e0.Wrap] 0 j4 ⟨z0.m.one, rfl, trivial⟩) ?_
   rintro i0 f2 m1
   refine wln (bn H fun E s e4 => W.seqJ (Jn i0 fun c l => ∃ v44, Own c G ((Eb k 78 [v44, B E.2]) :: es true R_api_Line v15 78 p b.1 :: F) ∧ l = [(0, v1), (1, I (imax 0 (imin f (a.length : Int)))), (2, I (imax 0 (imin d (a.length : Int)))), (3, I (imin g (w64 ((imax 0 (imin d (a.length : Int))) - (imax 0 (imin f (a.length : Int))))))), (4, B q), (11, I (a.length : Int)), (12, v15), (13, I b.2), (14, Q k)] ∧ Sl R_api_Cell c v44 E.1) ?_ ?_)
   ·refine W.seq (bn s fun j3 a2 s => W.join (Jn i0 fun c l => Own c G ((Eb k 78 [.slice f0 g0 h0, B e0.Wrap]) :: es true R_api_Line v15 78 p b.1 :: F) ∧ l = [(0, v1), (1, I (imax 0 (imin f (a.length : Int)))), (2, I (imax 0 (imin d (a.length : Int)))), (3, I (imin g (w64 ((imax 0 (imin d (a.length : Int))) - (imax 0 (imin f (a.length : Int))))))), (4, B q), (11, I (a.length : Int)), (12, v15), (13, I b.2), (14, Q k), (55, B j3)]) ?_ ?_)
    ·clear s
     refine W.region (va (I b.2) (va (I (imax 0 (imin f (a.length : Int)))) (va (B (decide (b.2 ≥ (imax 0 (imin f (a.length : Int)))))) ?_)))
     rcases bo (decide (b.2 ≥ (imax 0 (imin f (a.length : Int))))) with X | X
     ·have f4 := anT X a2
      refine vb X (wn (va (I b.2) (wn (va (I (imax 0 (imin d (a.length : Int)))) (wn (va (B (decide (b.2 < (imax 0 (imin d (a.length : Int)))))) ?_))))))
      obtain rfl := si f4
      exact va (B (decide (b.2 < (imax 0 (imin d (a.length : Int)))))) (wln ⟨i0, _, _, rfl, pt, us, m1, rfl⟩)
     obtain rfl := anF X a2
     exact vb X (ps (ps (ps (va (B false) (wln ⟨i0, _, _, rfl, pt, us, m1, rfl⟩)))))
    rintro T w_ ⟨j0, p6, _, rfl, g2, rfl, o0, rfl⟩
    refine nrm (cn s (fun u4 s => ?_) (fun u4 s => ?_))
    ·refine sr (va (I b.2) (va (I (imin g (w64 ((imax 0 (imin d (a.length : Int))) - (imax 0 (imin f (a.length : Int))))))) (va (I (w64 (b.2 + (imin g (w64 ((imax 0 (imin d (a.length : Int))) - (imax 0 (imin f (a.length : Int))))))))) (va (I (w64 (b.2 + (imin g (w64 ((imax 0 (imin d (a.length : Int))) - (imax 0 (imin f (a.length : Int))))))))) (wln (bn s fun n M h => W.seqJ (Jn j0 fun c l => Own c G ((Eb k 78 [.slice f0 g0 h0, B e0.Wrap]) :: es true R_api_Line v15 78 p b.1 :: F) ∧ l = [(0, v1), (1, I (imax 0 (imin f (a.length : Int)))), (2, I (imax 0 (imin d (a.length : Int)))), (3, I (imin g (w64 ((imax 0 (imin d (a.length : Int))) - (imax 0 (imin f (a.length : Int))))))), (4, B q), (11, I (a.length : Int)), (12, v15), (13, I b.2), (14, Q k), (15, I n)]) ?_ ?_))))))
     ·refine sr (va (B q) (va (B (!q)) (wln (cn M (fun v4 M => ?_) (fun v4 M => ?_)))))
      ·refine W.region (va (I b.2) (va (I (imin g (w64 ((imax 0 (imin d (a.length : Int))) - (imax 0 (imin f (a.length : Int))))))) (va (I (w64 (b.2 - (imin g (w64 ((imax 0 (imin d (a.length : Int))) - (imax 0 (imin f (a.length : Int))))))))) (va (I (w64 (b.2 - (imin g (w64 ((imax 0 (imin d (a.length : Int))) - (imax 0 (imin f (a.length : Int))))))))) (wln ?_)))))
       obtain rfl := si M
       exact ⟨j0, _, _, rfl, pt, us, o0, rfl⟩
      refine W.skip (nrm ?_)
      obtain rfl := si M
      exact ⟨j0, _, _, rfl, pt, us, o0, rfl⟩
     rintro T w_ ⟨k6, q6, _, rfl, i2, rfl, k4, rfl⟩
     refine sr (va (v1) (va (I b.2) (bn h fun h1 b2 h => ?_)))
     obtain ⟨e6, w4, c5⟩ := Sl.at (U.mono (l6.trans (d1.trans (e1.trans (f2.trans (g2.trans i2)))))) (idx_get b2)
     obtain ⟨s6, rfl, x4⟩ := w4
     refine vx (ix underlying30 U.m b2) (va (.pointer (some ⟨sb v1, so v1 + b.2.toNat * 2, none⟩)) (vx (l1 underlying72 (c5 0 _ rfl)) (vx (ln 3 underlying72 x4) (bn h fun c4 c2 h => me (Own.mkS (kl := .i64) (kc := .i64) (R := R_api_Cell) (z := .agg #[I 0, Y]) (lz := [I 0, Y]) (x := (⟨0, ([] : List Int)⟩ : G_api_Cell)) (by_ := 32) (i := (h1.Cells.length : Int)) (j := (h1.Cells.length : Int)) true k4 (Nat.succ_pos _) c2 (Int.le_refl _) (rep_le c2) underlying72 (by kernel_rfl) rfl rfl (fun _ => ⟨(Y), rfl, (Sl.nl _ _)⟩) (by kernel_rfl) (by kernel_rfl)) ?_))))
     rintro t6 m6 a5 ⟨e5, l4, b1⟩
     obtain ⟨N, P, S, rfl⟩ := (b1).form
     refine va (.agg #[.slice N P S, B false]) (md (sA 78 [.slice N P S, B false] 1 l4 ⟨(b1).one, rfl, trivial⟩) ?_)
     rintro v0 j2 n1
     refine wln (W.seq (bn h fun k3 d2 h => W.join (Jn v0 fun c l => Own c G (es true R_api_Cell (.slice N P S) 54 e5 c4 :: (Eb k 78 [.slice N P S, B false]) :: es true R_api_Line v15 78 p b.1 :: F) ∧ l = [(0, v1), (1, I (imax 0 (imin f (a.length : Int)))), (2, I (imax 0 (imin d (a.length : Int)))), (3, I (imin g (w64 ((imax 0 (imin d (a.length : Int))) - (imax 0 (imin f (a.length : Int))))))), (4, B q), (11, I (a.length : Int)), (12, v15), (13, I b.2), (14, Q k), (15, I n), (79, B k3)]) ?_ ?_))
     ·clear h
      refine W.region (va (I n) (va (I (imax 0 (imin f (a.length : Int)))) (va (B (decide (n ≥ (imax 0 (imin f (a.length : Int)))))) ?_)))
      rcases bo (decide (n ≥ (imax 0 (imin f (a.length : Int))))) with Z | Z
      ·have g4 := anT Z d2
       refine vb Z (wn (va (I n) (wn (va (I (imax 0 (imin d (a.length : Int)))) (wn (va (B (decide (n < (imax 0 (imin d (a.length : Int)))))) ?_))))))
       obtain rfl := si g4
       exact va (B (decide (n < (imax 0 (imin d (a.length : Int)))))) (wln ⟨v0, _, _, rfl, pt, us, n1, rfl⟩)
      obtain rfl := anF Z d2
      exact vb Z (ps (ps (ps (va (B false) (wln ⟨v0, _, _, rfl, pt, us, n1, rfl⟩)))))
     rintro T w_ ⟨n6, r6, _, rfl, k2, rfl, q1, rfl⟩
     refine nrm (cn h (fun y4 h => ?_) (fun y4 h => ?_))
     ·refine W.region (va (v1) (va (I n) (bn h fun d4 e2 h => ?_)))
      obtain ⟨f6, z4, d5⟩ := Sl.at (U.mono (l6.trans (d1.trans (e1.trans (f2.trans (g2.trans (i2.trans (a5.trans (j2.trans k2))))))))) (idx_get e2)
      obtain ⟨u6, rfl, c1⟩ := z4
      refine vx (ix underlying30 U.m e2) (vx (lN 78 d5) ?_)
      obtain ⟨s1, t1, u1, rfl⟩ := (c1).form
      refine md (sA 78 [.slice s1 t1 u1, B d4.Wrap] 1 q1 ⟨c1.one, rfl, trivial⟩) ?_
      rintro b3 s5 m2
      refine wln ?_
      obtain rfl := si h
      have n2 := m2.sD 3 [1, 2]
      exact ⟨b3, _, _, rfl, pt, us, (.slice s1 t1 u1), n2, rfl, c1.m⟩
     refine W.skip (nrm ?_)
     obtain rfl := si h
     obtain ⟨c3, m3, t5, o2, l3⟩ := q1.frz 0 rfl (b1.mono (j2.trans k2))
     have q2 := o2.sD 3 [1, 2]
     exact ⟨c3, _, _, m3.symm, pt, us, (.slice N P S), q2, rfl, l3⟩
    refine W.skip (nrm ?_)
    obtain rfl := si s
    exact ⟨j0, _, _, rfl, pt, us, (.slice f0 g0 h0), o0, rfl, z0.m⟩
   rintro T w_ ⟨u, o5, _, rfl, u5, rfl, v44, d0, rfl, w0⟩
   refine bn e4 fun t o b0 => W.seqJ (Jn u fun c l => Own c G ((Eb k 78 [v44, B t]) :: es true R_api_Line v15 78 p b.1 :: F) ∧ l = [(0, v1), (1, I (imax 0 (imin f (a.length : Int)))), (2, I (imax 0 (imin d (a.length : Int)))), (3, I (imin g (w64 ((imax 0 (imin d (a.length : Int))) - (imax 0 (imin f (a.length : Int))))))), (4, B q), (11, I (a.length : Int)), (12, v15), (13, I b.2), (14, Q k)]) ?_ ?_
   ·refine W.seq (bn o fun i1 x0 o => W.join (Jn u fun c l => Own c G ((Eb k 78 [v44, B E.2]) :: es true R_api_Line v15 78 p b.1 :: F) ∧ l = [(0, v1), (1, I (imax 0 (imin f (a.length : Int)))), (2, I (imax 0 (imin d (a.length : Int)))), (3, I (imin g (w64 ((imax 0 (imin d (a.length : Int))) - (imax 0 (imin f (a.length : Int))))))), (4, B q), (11, I (a.length : Int)), (12, v15), (13, I b.2), (14, Q k), (97, B i1)]) ?_ ?_)
    ·clear o
     refine W.region (va (I b.2) (va (I (w64 (b.2 + 1))) (va (I (imax 0 (imin f (a.length : Int)))) (va (B ((w64 (b.2 + 1)) == (imax 0 (imin f (a.length : Int))))) ?_))))
     rcases bo ((w64 (b.2 + 1)) == (imax 0 (imin f (a.length : Int)))) with y | y
     ·obtain rfl := orT y x0
      exact vb y (ps (ps (ps (ps (ps (ps (ps (ps (va (B true) (wln ⟨u, _, _, rfl, pt, us, d0, rfl⟩))))))))))
     have D := orF y x0
     refine vb y (wn (va (B q) (wn (va (B (!q)) (wn (bn D fun h5 y0 D => ?_))))))
     rcases bo (!q) with A | A
     ·have l2 := anT A y0
      refine vb A (wn (va (I b.2) (wn (va (I (w64 (b.2 + 1))) (wn (va (I (imax 0 (imin d (a.length : Int)))) (wn (va (B ((w64 (b.2 + 1)) == (imax 0 (imin d (a.length : Int))))) (wn ?_)))))))))
      obtain rfl := si l2
      refine va (B ((w64 (b.2 + 1)) == (imax 0 (imin d (a.length : Int))))) ?_
      obtain rfl := si D
      exact va (B ((w64 (b.2 + 1)) == (imax 0 (imin d (a.length : Int))))) (wln ⟨u, _, _, rfl, pt, us, d0, rfl⟩)
     obtain rfl := anF A y0
     refine vb A (ps (ps (ps (ps (wn (va (B false) ?_))))))
     obtain rfl := si D
     exact va (B false) (wln ⟨u, _, _, rfl, pt, us, d0, rfl⟩)
    rintro T w_ ⟨d3, p5, _, rfl, v5, rfl, l0, rfl⟩
    refine nrm (cn o (fun n3 o => ?_) (fun n3 o => ?_))
    ·refine W.region (va (.pointer (some ⟨k, 1, none⟩)) (md (sC 4 1 (B false) [v44, B false] 0 l0 ⟨rfl, trivial⟩) ?_))
     rintro e3 w5 s2
     refine wln ?_
     obtain rfl := si o
     exact ⟨e3, _, _, rfl, pt, us, s2, rfl⟩
    refine W.skip (nrm ?_)
    obtain rfl := si o
    exact ⟨d3, _, _, rfl, pt, us, l0, rfl⟩
   rintro T w_ ⟨k5, q5, _, rfl, z3, rfl, m0, rfl⟩
   refine W.region (va (v15) (vx (leN 78 0 [v44, B t] (m0.on 0 rfl)) ?_))
   obtain ⟨q0, s0, t0, rfl⟩ := ((w0.mono z3)).form
   refine me (sl R_api_Line 78 [[.slice q0 s0 t0, B t]] ([(⟨E.1, t⟩ : G_api_Line)] : List G_api_Line) m0 ⟨⟨(.slice q0 s0 t0), rfl, w0.m⟩, trivial⟩) ?_
   rintro i6 l5 x5 ⟨h6, t2, o3⟩
   obtain ⟨m5, s3, y5, u2, q3⟩ := t2.frz 0 rfl o3
   refine WL.gh s3 (bn b0 fun i5 t3 b0 => me (ap R_api_Line (.agg #[Y, B false]) 32 30 2 u2 x1.m q3 t3 underlying30) ?_)
   rintro g1 f3 z5 ⟨b4, v2, u3⟩
   refine va (g1) (WL.nil (bkn (nrm (W.region (va (I b.2) (va (I (w64 (b.2 + 1))) (va (I (w64 (b.2 + 1))) (WL.nil ?_))))))))
   obtain rfl := si b0
   refine ⟨_, rfl, ?_⟩
   have w2 := v2.sD 3 [2]
   exact ⟨f3, _, _, rfl, pt, us, g1, b4, w2, rfl, u3⟩
  refine W.exit (thx ?_)
  obtain rfl := si H
  exact ⟨_, rfl, rfl, ⟨n4, _, _, rfl, pt, us, v15, p, k1, rfl, x1⟩⟩
 ·have v3 : OA R_api_Line c6 (Y) [] [] := OA.nil (Nat.succ_pos _)
  have x2 := O8.addHole (e := es true R_api_Line (Y) 78 [] ([] : List G_api_Line)) rfl
  exact ⟨c6, _, _, rfl, pt, us, (Y), [], x2, rfl, v3⟩
 rintro _ T w_ ⟨rfl, n5, r5, _, rfl, a6, rfl, v17, f1, y2, rfl, w3⟩
 refine bke (nrm (sr (va (v17) (va (v17) (wln (W.ret ?_))))))
 obtain rfl := si j1
 obtain ⟨g3, y3, b6, z2, x3⟩ := y2.frz 0 rfl w3
 have a3 := z2.sD 1 []
 exact bqgh y3 (r1 ⟨_, g3, rfl, rfl, pt, v17, a3, rfl, x3⟩)
def f_scalar_Replace (p0 : List Int) : Option (List Int) :=
 (rep 0 0).bind fun g =>
 (rep (p0.length : Int) 0).bind fun h =>
 (iter (σ := (List Int) × Int) (τ := (List Int)) (((p0.length : Int) - 0).toNat + 1) (fun a =>
 if (decide (a.2 < (p0.length : Int))) = true then
 (idx p0 a.2).bind fun b =>
 ((f_scalar_Valid b).bind fun d =>
 if (!d) = true then
 some (65533)
 else
 some (b)).bind fun f =>
 (app a.1 ([f] : List Int)).bind fun e =>
 some (.inl (e, (w64 (a.2 + 1))))
 else
 some (.inr (a.1))) (g, 0)).bind fun c =>
 some c
theorem c_scalar_Replace (O0 : Own c0 G F) (n : List Int) {r : List Int} (p : Sl (RI .i32) c0 v1 n) (H : f_scalar_Replace n = some r) :
    Calls prog 191 #[v1] c0.w (Post c0 fun c v => ∃ P y2, Own c G (es true (RI .i32) P 21 y2 r :: F) ∧ v = P ∧ OA (RI .i32) c P y2 r) := by
 unfold f_scalar_Replace at H
 refine en func191 rfl rfl (sr (va (Y) (wln (sr (va (v1) (vx (ln 3 underlying43 p) (bn H fun a2 h3 H => bn H fun c2 h4 H => me (Own.mkS (kl := .i64) (kc := .i64) (R := (RI .i32)) (z := J 0) (lz := [J 0]) (x := 0) (by_ := 4) (i := 0) (j := (n.length : Int)) true O0 (Nat.succ_pos _) h3 (rep_nn h4) (rep_le h4) underlying43 (by kernel_rfl) rfl rfl (fun _ => rfl) (by kernel_rfl) (by kernel_rfl)) ?_)))))))
 rintro v9 M l8 ⟨u6, O5, h7⟩
 refine va (v9) (wln (W.seq (sr (va (v1) (vx (ln 3 underlying43 p.m) (va (I 0) (wln (W.block (bn H fun f1 A q => lp A (fun a => Jn M fun c l => ∃ v12 f, Own c G (es true (RI .i32) v12 21 f a.1 :: F) ∧ l = [(3, v12), (9, v1), (10, I (n.length : Int)), (11, I a.2)] ∧ OA (RI .i32) c v12 f a.1) (fun h ex e w => ex = .exit 0 ∧ (Jn M fun c l => ∃ v14 k, Own c G (es true (RI .i32) v14 21 k h :: F) ∧ l = [(3, v14)] ∧ OA (RI .i32) c v14 k h) e w) ?_ ?_ ?_)))))))))
 ·clear q A
  intro a b2 f0 x0 H
  revert f0 x0
  rintro e_ w_ ⟨u, m1, _, rfl, l16, rfl, v12, f, s, rfl, D⟩
  refine sr (va (B (decide (a.2 < (n.length : Int)))) (wln (W.seq (cn H (fun g0 H => ?_) (fun g0 H => ?_)))))
  ·refine W.skip (nrm (W.seq (W.block (sr (bn H fun g E H => ?_)))))
   obtain ⟨e1, h0, u0⟩ := Sl.at (p.mono (l8.trans l16)) (idx_get E)
   obtain rfl := h0
   refine vx (ix underlying43 p.m E) (vx (l1 underlying21 (u0 0 _ rfl)) (va (J g) (wln (bn H fun d b o => W.seqJ (Jn u fun c l => Own c G (es true (RI .i32) v12 21 f a.1 :: F) ∧ l = [(3, v12), (5, J d), (9, v1), (10, I (n.length : Int)), (11, I a.2)]) ?_ ?_))))
   ·refine sr (va (J g) (bn b fun N i0 b => cl (c_scalar_Valid s g i0) ?_))
    rintro v36 y q1 ⟨t, rfl⟩
    refine va (B (!N)) (wln (cn b (fun j0 b => ?_) (fun j0 b => ?_)))
    ·refine W.region (va (J 65533) (wln ?_))
     obtain rfl := si b
     exact ⟨y, _, _, rfl, pt, us, t, rfl⟩
    refine W.skip (nrm ?_)
    obtain rfl := si b
    exact ⟨y, _, _, rfl, pt, us, t, rfl⟩
   rintro e_ w_ ⟨i1, n1, _, rfl, s1, rfl, S, rfl⟩
   refine W.region (va (v12) (va (J d) (me (sl (RI .i32) 21 [[J d]] ([d] : List Int) S ⟨rfl, trivial⟩) ?_)))
   rintro v48 j1 t1 ⟨z1, T, l0⟩
   obtain ⟨k1, o0, u1, U, m0⟩ := T.frz 0 rfl l0
   refine WL.gh o0 (bn o fun h1 q0 o => me (ap (RI .i32) (J 0) 4 43 1 U D.m m0 q0 underlying43) ?_)
   rintro v58 b0 w1 ⟨v0, X, s0⟩
   refine va (v58) (WL.nil (bkn (nrm (W.region (va (I (w64 (a.2 + 1))) (va (I (w64 (a.2 + 1))) (WL.nil ?_)))))))
   obtain rfl := si o
   refine ⟨_, rfl, ?_⟩
   have Z := X.sD 2 [1]
   exact ⟨b0, _, _, rfl, pt, us, v58, v0, Z, rfl, s0⟩
  refine W.exit (thx ?_)
  obtain rfl := si H
  exact ⟨_, rfl, rfl, ⟨u, _, _, rfl, pt, us, v12, f, s, rfl, D⟩⟩
 ·exact ⟨M, _, _, rfl, pt, us, v9, u6, O5, rfl, h7⟩
 rintro _ e_ w_ ⟨rfl, d0, p1, _, rfl, x1, rfl, v14, k, a0, rfl, t0⟩
 refine bke (nrm (sr (va (v14) (va (v14) (wln (W.ret ?_))))))
 obtain rfl := si q
 exact r1 ⟨_, d0, rfl, rfl, pt, v14, k, a0, rfl, t0⟩
def f_cell_Of (p0 : Int) (p1 : List Int) : Option (List G_api_Cell) :=
 (if (decide (p0 ≥ 2)) = true then
 (app ([(⟨0, ([] : List Int)⟩ : G_api_Cell)] : List G_api_Cell) ([(⟨0, ([] : List Int)⟩ : G_api_Cell)] : List G_api_Cell)).bind fun e =>
 some (e)
 else
 some (([(⟨0, ([] : List Int)⟩ : G_api_Cell)] : List G_api_Cell))).bind fun c =>
 if ((p1.length : Int) == 0) = true then
 some c
 else
 (slc p1 0 (imin (p1.length : Int) 16)).bind fun f =>
 (f_scalar_Replace f).bind fun g =>
 (idx c 0).bind fun k =>
 (sets c 0 (⟨1, g⟩ : G_api_Cell)).bind fun a =>
 (if (decide (p0 ≥ 2)) = true then
 (idx a 0).bind fun h =>
 (sets a 0 (⟨2, h.Text⟩ : G_api_Cell)).bind fun b =>
 (idx b 1).bind fun i =>
 (sets b 1 (⟨3, i.Text⟩ : G_api_Cell)).bind fun d =>
 some (d)
 else
 some (a)).bind fun j =>
 some j
theorem c_cell_Of (O0 : Own c0 G F) (i : Int) (A : List Int) {r : List G_api_Cell} (h2 : Sl (RI .i32) c0 v1 A) (H : f_cell_Of i A = some r) :
    Calls prog 183 #[I i, v1] c0.w (Post c0 fun c v => ∃ y1 y2, Own c G (es true R_api_Cell y1 54 y2 r :: F) ∧ v = y1 ∧ OA R_api_Cell c y1 y2 r) := by
 unfold f_cell_Of at H
 refine en func183 rfl rfl (sr (va (Y) (wln (sr (va (.agg #[I 0, Y]) (me (sl R_api_Cell 54 [[I 0, Y]] ([(⟨0, ([] : List Int)⟩ : G_api_Cell)] : List G_api_Cell) O0 ⟨⟨(Y), rfl, (Sl.nl _ _)⟩, trivial⟩) ?_))))))
 rintro v7 c6 l6 ⟨u4, O3, h5⟩
 refine va (v7) (wln (bn H fun a0 h b => W.seqJ (Jn c6 fun c l => ∃ v10 n, Own c G (es true R_api_Cell v10 54 n a0 :: F) ∧ l = [(0, I i), (1, v1), (5, v10)] ∧ OA R_api_Cell c v10 n a0) ?_ ?_))
 ·refine sr (va (I i) (va (B (decide (i ≥ 2))) (wln (cn h (fun b1 h => ?_) (fun b1 h => ?_)))))
  ·refine W.region (va (v7) (va (.agg #[I 0, Y]) (me (sl R_api_Cell 54 [[I 0, Y]] ([(⟨0, ([] : List Int)⟩ : G_api_Cell)] : List G_api_Cell) O3 ⟨⟨(Y), rfl, (Sl.nl _ _)⟩, trivial⟩) ?_)))
   rintro v17 c3 l16 ⟨s3, h0, c1⟩
   obtain ⟨d3, e1, j3, i0, d1⟩ := h0.frz 0 rfl c1
   refine WL.gh e1 (bn h fun a3 f1 h => me (ap R_api_Cell (.agg #[I 0, Y]) 32 72 1 i0 h5.m d1 f1 underlying72) ?_)
   rintro v27 w0 k3 ⟨j2, j0, g1⟩
   refine va (v27) (wln ?_)
   obtain rfl := si h
   have k0 := j0.sD 2 [1]
   exact ⟨w0, _, _, rfl, pt, us, v27, j2, k0, rfl, g1⟩
  refine W.skip (nrm ?_)
  obtain rfl := si h
  exact ⟨c6, _, _, rfl, pt, us, v7, u4, O3, rfl, h5⟩
 rintro e_ w_ ⟨x0, h3, _, rfl, f2, rfl, v10, n, D, rfl, p⟩
 refine W.seq (sr (va (v1) (vx (ln 3 underlying43 h2.m) (va (B ((A.length : Int) == 0)) (wln (cn b (fun h1 b => ?_) (fun h1 b => ?_)))))))
 ·refine sr (va (v10) (va (v10) (wln (W.ret (thr ?_)))))
  obtain rfl := si b
  exact r1 ⟨_, x0, rfl, rfl, pt, v10, n, D, rfl, p⟩
 refine W.skip (nrm (sr (va (v10) (va (v1) (va (v1) (vx (ln 3 underlying43 h2.m) (va (I (imin (A.length : Int) 16)) (bn b fun e0 i1 b => ?_))))))))
 obtain ⟨v38, j1, k1⟩ := run_cutH (k' := .i64) underlying43 (by kernel_rfl) (h2.mono (l6.trans f2)) i1
 refine vr v38 (rx (by kernel_rfl) (j1 _)) (bn b fun s m1 b => cl (c_scalar_Replace D e0 k1 m1) ?_)
 rintro v42 e3 l3 ⟨_, k2, m0, rfl, N⟩
 obtain ⟨e, f, g, rfl⟩ := (N).form
 refine va (.agg #[I 1, .slice e f g]) (bn b fun b3 q1 b => vx (ixO underlying72 p.m q1) ?_)
 obtain ⟨f3, s1, m3, o0, P⟩ := m0.frz 0 rfl N
 refine WL.gh s1 (bn b fun w2 t1 b => md (Own.stW (R := R_api_Cell) (T := 54) (us := [I 1, .slice e f g]) (x' := (⟨1, s⟩ : G_api_Cell)) (u := .agg #[I 1, .slice e f g]) 1 o0 (by kernel_rfl) rfl p.m t1 rfl (by kernel_rfl) ⟨rfl, P.one, trivial⟩ rfl ⟨(.slice e f g), rfl, P⟩) ?_)
 rintro M n3 ⟨l2, E, k⟩
 refine wln (bn b fun z a g0 => W.seqJ (Jn M fun c l => ∃ d o, Own c G (es true R_api_Cell d 54 o z :: es false (RI .i32) (.slice e f g) 21 k2 s :: F) ∧ l = [(5, d)] ∧ OA R_api_Cell c d o z) ?_ ?_)
 ·refine sr (va (I i) (va (B (decide (i ≥ 2))) (wln (cn a (fun u1 a => ?_) (fun u1 a => ?_)))))
  ·refine W.region (va (v10) (va (v10) (bn a fun t S a => vx (ixO underlying72 k S) (va (.pointer (some ⟨sb v10, (0 : Int).toNat * 2, none⟩)) ?_))))
   obtain ⟨s2, w1, g2⟩ := OA.at k S
   obtain ⟨X, rfl, x1⟩ := w1
   refine bn a fun x2 z1 a => md (Own.stO (R := R_api_Cell) (T := 3) (us := [I 2]) (x' := (⟨2, t.Text⟩ : G_api_Cell)) (u := I 2) (x := (⟨2, t.Text⟩ : G_api_Cell)) (j := 0) (l' := [I 2, X]) 1 E (by kernel_rfl) rfl k z1 g2 rfl (by kernel_rfl) ⟨rfl, trivial⟩ (by kernel_rfl) rfl ⟨X, rfl, x1⟩) ?_
   rintro g3 o3 ⟨t3, q0, q⟩
   refine bn a fun y U a => vx (ixO underlying72 q U) (va (.pointer (some ⟨sb v10, (1 : Int).toNat * 2, none⟩)) ?_)
   obtain ⟨t2, a2, i2⟩ := OA.at q U
   obtain ⟨Z, rfl, b2⟩ := a2
   refine bn a fun z2 c2 a => md (Own.stO (R := R_api_Cell) (T := 3) (us := [I 3]) (x' := (⟨3, y.Text⟩ : G_api_Cell)) (u := I 3) (x := (⟨3, y.Text⟩ : G_api_Cell)) (j := 0) (l' := [I 3, Z]) 1 q0 (by kernel_rfl) rfl q c2 i2 rfl (by kernel_rfl) ⟨rfl, trivial⟩ (by kernel_rfl) rfl ⟨Z, rfl, b2⟩) ?_
   rintro z0 p3 ⟨m2, s0, d2⟩
   refine wln ?_
   obtain rfl := si a
   have t0 := s0.sD 2 [1, 0]
   exact ⟨z0, _, _, rfl, pt, us, v10, m2, t0, rfl, d2⟩
  refine W.skip (nrm ?_)
  obtain rfl := si a
  have u0 := E.sD 2 [1, 0]
  exact ⟨M, _, _, rfl, pt, us, v10, l2, u0, rfl, k⟩
 rintro e_ w_ ⟨a1, i3, _, rfl, q3, rfl, d, o, v0, rfl, e2⟩
 refine sr (va (d) (va (d) (wln (W.ret ?_))))
 obtain rfl := si g0
 have b0 := v0.sD 2 [0]
 exact r1 ⟨_, a1, rfl, rfl, pt, d, o, b0, rfl, e2⟩
def f_mark_Put (sg : Sto) (p0 : Option Nat) (p1 : Int) (p2 : Int) (p3 : List Int) : Option (Sto × Er) :=
 (f_cell_Of p2 p3).bind fun b =>
 (f_row_Row_Paint sg p0 p1 b).bind fun a =>
 some (a.1, a.2)
theorem c_mark_Put (u : Own c0 G F) (x : Rel c0 sg G) (hG : Gl [0, 1] c0) (d : Option Nat) (a : Int) (b : Int) (e : List Int) {r : Sto × Er} (y : Pt 0 c0 v1 d) (z : Sl (RI .i32) c0 v3 e) (H : f_mark_Put sg d a b e = some r) :
    Calls prog 150 #[v1, I a, I b, v3] c0.w (Post c0 fun c v => ∃ t, ∃ G_ : Gm, Own c G_ (F) ∧ Rel c r.1 G_ ∧ v = t ∧ RE 220 99999 c t r.2) := by
 unfold f_mark_Put at H
 refine en func150 rfl rfl (sr (va (.nilIface) (wln (sr (va (v1) (va (I a) (va (I b) (va (v3) (bn H fun s A H => cl (c_cell_Of u b e z A) ?_)))))))))
 rintro v6 E N ⟨_, T, g, rfl, D⟩
 obtain ⟨M, o, P, h, n⟩ := g.frz 0 rfl D
 refine WL.gh o (bn H fun S p H => cl (c_row_Row_Paint h x.m (hG.m.le (by decide)) d a s y.m n p) ?_)
 rintro v20 l R ⟨_, f, i, k, rfl, q⟩
 refine va (v20) (wln (W.ret ?_))
 obtain rfl := si H
 have j := i.sD 1 []
 exact r1 ⟨_, l, rfl, rfl, pt, v20, f, j, k, rfl, q⟩
def f_mark_At (sg : Sto) (p0 : Option Nat) (p1 : Int) : Option (Int × G_api_Item × Bool) :=
 (f_row_Row_Cell sg p0 p1).bind fun b =>
 ((andE b.2 (some (b.1.Kind == 3))).bind fun d =>
 if d = true then
 (f_row_Row_Cell sg p0 (w64 (p1 - 1))).bind fun c =>
 some ((w64 (p1 - 1)), c.2, c.1.Kind, c.1.Text)
 else
 some (p1, b.2, b.1.Kind, b.1.Text)).bind fun a =>
 (andE a.2.1 (some (a.2.2.1 == 1))).bind fun e =>
 if e = true then
 some (a.1, (⟨1, a.2.2.2⟩ : G_api_Item), true)
 else
 (andE a.2.1 (some (a.2.2.1 == 2))).bind fun f =>
 if f = true then
 some (a.1, (⟨2, a.2.2.2⟩ : G_api_Item), true)
 else
 some (0, (⟨0, ([] : List Int)⟩ : G_api_Item), false)
theorem c_mark_At (O0 : Own c0 G F) (R0 : Rel c0 sg G) (p0 : Option Nat) (j : Int) {r : Int × G_api_Item × Bool} (h2 : Pt 0 c0 v1 p0) (H : f_mark_At sg p0 j = some r) :
    Calls prog 152 #[v1, I j] c0.w (Post c0 fun c v => ∃ y1 y2, Own c G (es true (RI .i32) y1 21 y2 r.2.1.Text :: F) ∧ v = .tuple #[I r.1, .agg #[I r.2.1.Wide, y1], B r.2.2] ∧ OA (RI .i32) c y1 y2 r.2.1.Text) := by
 unfold f_mark_At at H
 refine en func152 rfl rfl (sr (va (I 0) (me (al 188 [I 0, Y] O0) ?_)))
 rintro v6 c5 l5 ⟨u, rfl, O4⟩
 refine va (B false) (wln (sr (va (v1) (va (I j) (bn H fun f h7 H => cl (c_row_Row_Cell O4 R0.m p0 j h2.m h7) ?_)))))
 rintro v16 c3 k3 ⟨v8, u9, k1, rfl, e0⟩
 refine va (.tuple #[.agg #[I f.1.Kind, v8], B f.2]) (va (.agg #[I f.1.Kind, v8]) (va (B f.2) (me (al 54 [I 0, Y] k1) ?_)))
 rintro v20 d3 j2 ⟨b, rfl, m1⟩
 obtain ⟨N, P, R, rfl⟩ := ((e0.mono j2)).form
 refine md (sA 54 [I f.1.Kind, .slice N P R] 0 m1 ⟨rfl, e0.m.one, trivial⟩) ?_
 rintro S l3 U
 refine va (B f.2) (wln (bn H fun a g d => W.seqJ (Jn S fun c l => ∃ v28 i, Own c G (es true (RI .i32) v28 21 i a.2.2.2 :: (Eb b 54 [I a.2.2.1, v28]) :: (Eb u 188 [I 0, Y]) :: F) ∧ l = [(1, I a.1), (5, Q u), (6, B a.2.1), (7, Q b)] ∧ OA (RI .i32) c v28 i a.2.2.2) ?_ ?_))
 ·refine W.seq (bn g fun y0 q0 g => W.join (Jn S fun c l => Own c G ((Eb b 54 [I f.1.Kind, .slice N P R]) :: es true (RI .i32) (.slice N P R) 21 u9 f.1.Text :: (Eb u 188 [I 0, Y]) :: F) ∧ l = [(0, v1), (1, I j), (5, Q u), (6, B f.2), (7, Q b), (19, B y0)]) ?_ ?_)
  ·clear g
   refine W.region (va (B f.2) ?_)
   rcases bo (f.2) with x | x
   ·have h1 := anT x q0
    refine vb x (wn (va (Q b) (wn (vx (le1 0 underlying3 (U.on 0 rfl)) (wn (va (B (f.1.Kind == 3)) ?_))))))
    obtain rfl := si h1
    exact va (B (f.1.Kind == 3)) (wln ⟨S, _, _, rfl, pt, us, U, rfl⟩)
   obtain rfl := anF x q0
   exact vb x (ps (ps (ps (va (B false) (wln ⟨S, _, _, rfl, pt, us, U, rfl⟩)))))
  rintro e_ w_ ⟨x1, g3, _, rfl, m3, rfl, h0, rfl⟩
  refine nrm (cn g (fun d2 g => ?_) (fun d2 g => ?_))
  ·refine sr (va (I j) (va (I (w64 (j - 1))) (va (I (w64 (j - 1))) (wln (W.region (va (v1) (va (I (w64 (j - 1))) (bn g fun h e2 g => cl (c_row_Row_Cell h0 R0.m p0 (w64 (j - 1)) h2.m e2) ?_))))))))
   rintro v49 e3 n3 ⟨v41, q2, n1, rfl, f0⟩
   refine va (.tuple #[.agg #[I h.1.Kind, v41], B h.2]) (va (.agg #[I h.1.Kind, v41]) (va (B h.2) ?_))
   obtain ⟨l0, m0, o0, rfl⟩ := (f0).form
   refine md (sA 54 [I h.1.Kind, .slice l0 m0 o0] 1 n1 ⟨rfl, (f0).one, trivial⟩) ?_
   rintro z1 o3 q1
   refine va (B h.2) (wln ?_)
   obtain rfl := si g
   have s1 := q1.sD 4 [0, 1, 3]
   exact ⟨z1, _, _, rfl, pt, us, (.slice l0 m0 o0), q2, s1, rfl, f0.m⟩
  refine W.skip (nrm ?_)
  obtain rfl := si g
  have t1 := h0.sD 3 [1, 0, 2]
  exact ⟨x1, _, _, rfl, pt, us, (.slice N P R), u9, t1, rfl, e0.m⟩
 rintro e_ w_ ⟨a0, h3, _, rfl, p3, rfl, v28, i, X, rfl, k⟩
 refine W.seq (W.block (W.seq (bn d fun z0 s0 d => W.join (Jn a0 fun c l => Own c G (es true (RI .i32) v28 21 i a.2.2.2 :: (Eb b 54 [I a.2.2.1, v28]) :: (Eb u 188 [I 0, Y]) :: F) ∧ l = [(1, I a.1), (5, Q u), (6, B a.2.1), (7, Q b), (28, B z0)]) ?_ ?_)))
 ·clear d
  refine W.region (va (B a.2.1) ?_)
  rcases bo (a.2.1) with y | y
  ·have i1 := anT y s0
   refine vb y (wn (va (Q b) (wn (vx (le1 0 underlying3 (X.on 1 rfl)) (wn (va (B (a.2.2.1 == 1)) ?_))))))
   obtain rfl := si i1
   exact va (B (a.2.2.1 == 1)) (va (B (a.2.2.1 == 1)) (wln ⟨a0, _, _, rfl, pt, us, X, rfl⟩))
  obtain rfl := anF y s0
  exact vb y (ps (ps (ps (va (B false) (va (B false) (wln ⟨a0, _, _, rfl, pt, us, X, rfl⟩))))))
 rintro e_ w_ ⟨b0, i3, _, rfl, u0, rfl, M, rfl⟩
 refine nrm (cn d (fun f2 d => ?_) (fun f2 d => ?_))
 ·refine W.seq (rD [] (Kp G0 [(Eb b 54 [I a.2.2.1, v28])]) M ?_)
  intro a2 k2 i0
  have n2 : Kp G0 [(Eb b 54 [I a.2.2.1, v28])] a2 := (Kp.cons (i0.on 1 rfl) Kp.nil0)
  refine ta 0 (I a.1) (ta 1 (.pointer (some ⟨b, 1, none⟩)) (tkx 2 n2 (fun c' i2 hk => le1 1 underlying43 (hk.on 0 rfl)) ?_))
  obtain ⟨n, o, p, rfl⟩ := ((k.mono (u0.trans k2))).form
  refine ta 3 (.agg #[I 1, .slice n o p]) (ta 4 (I a.1) (o1 5 (gD 5 (sA 188 [I 1, .slice n o p] 2 i0 ⟨rfl, k.m.one, trivial⟩) ?_)))
  rintro d0 q3 Z
  have o2 : Kp G0 [(Eb b 54 [I a.2.2.1, (.slice n o p)])] d0 := (Kp.cons (Z.on 1 rfl) Kp.nil0)
  refine ⟨.inr o2, ta 6 (B true) (dn (nrm (W.ret (bkr (thr ?_)))))⟩
  obtain rfl := si d
  have u1 := Z.sD 3 [0]
  exact retTCT (c := d0) (vs := [I 1, .slice n o p]) (v := B true) (v' := I a.1) rfl (by kernel_rfl) (by kernel_rfl) (by kernel_rfl) (by kernel_rfl) (by kernel_rfl) (Z.on 2 rfl _ rfl).1 ⟨_, d0, rfl, rfl, pt, (.slice n o p), i, u1, rfl, k.m⟩
 refine W.seq (bn d fun a1 t0 d => W.join (Jn b0 fun c l => Own c G (es true (RI .i32) v28 21 i a.2.2.2 :: (Eb b 54 [I a.2.2.1, v28]) :: (Eb u 188 [I 0, Y]) :: F) ∧ l = [(1, I a.1), (5, Q u), (7, Q b), (39, B a1)]) ?_ ?_)
 ·clear d
  refine W.region (va (B a.2.1) ?_)
  rcases bo (a.2.1) with z | z
  ·have j1 := anT z t0
   refine vb z (wn (va (Q b) (wn (vx (le1 0 underlying3 (M.on 1 rfl)) (wn (va (B (a.2.2.1 == 2)) ?_))))))
   obtain rfl := si j1
   exact va (B (a.2.2.1 == 2)) (va (B (a.2.2.1 == 2)) (wln ⟨b0, _, _, rfl, pt, us, M, rfl⟩))
  obtain rfl := anF z t0
  exact vb z (ps (ps (ps (va (B false) (va (B false) (wln ⟨b0, _, _, rfl, pt, us, M, rfl⟩))))))
 rintro e_ w_ ⟨f3, j3, _, rfl, l2, rfl, j0, rfl⟩
 refine nrm (cn d (fun g2 d => ?_) (fun g2 d => ?_))
 ·refine W.seq (rD [] (Kp G0 [(Eb b 54 [I a.2.2.1, v28])]) j0 ?_)
  intro b2 m2 k0
  have p2 : Kp G0 [(Eb b 54 [I a.2.2.1, v28])] b2 := (Kp.cons (k0.on 1 rfl) Kp.nil0)
  refine ta 0 (I a.1) (ta 1 (.pointer (some ⟨b, 1, none⟩)) (tkx 2 p2 (fun c' i2 hk => le1 1 underlying43 (hk.on 0 rfl)) ?_))
  obtain ⟨q, s, t, rfl⟩ := ((k.mono (u0.trans (l2.trans m2)))).form
  refine ta 3 (.agg #[I 2, .slice q s t]) (ta 4 (I a.1) (o1 5 (gD 5 (sA 188 [I 2, .slice q s t] 2 k0 ⟨rfl, k.m.one, trivial⟩) ?_)))
  rintro D z2 A
  have e1 : Kp G0 [(Eb b 54 [I a.2.2.1, (.slice q s t)])] D := (Kp.cons (A.on 1 rfl) Kp.nil0)
  refine ⟨.inr e1, ta 6 (B true) (dn (nrm (W.ret (bkr (thr ?_)))))⟩
  obtain rfl := si d
  have v0 := A.sD 3 [0]
  exact retTCT (c := D) (vs := [I 2, .slice q s t]) (v := B true) (v' := I a.1) rfl (by kernel_rfl) (by kernel_rfl) (by kernel_rfl) (by kernel_rfl) (by kernel_rfl) (A.on 2 rfl _ rfl).1 ⟨_, D, rfl, rfl, pt, (.slice q s t), i, v0, rfl, k.m⟩
 refine W.skip (bkn (nrm (sr (va (.agg #[I 0, Y]) (va (I 0) (md (sA 188 [I 0, Y] 2 j0 ⟨rfl, rfl, trivial⟩) ?_))))))
 rintro E a3 w0
 refine va (B false) (wln (W.ret ?_))
 obtain rfl := si d
 have c1 : OA (RI .i32) E (Y) [] [] := OA.nil (Nat.succ_pos _)
 have T := w0.addHole (e := es true (RI .i32) (Y) 21 [] ([] : List Int)) rfl
 have x0 := T.sD 4 [0]
 exact retTCT (c := E) (vs := [I 0, Y]) (v := B false) (v' := I 0) rfl (by kernel_rfl) (by kernel_rfl) (by kernel_rfl) (by kernel_rfl) (by kernel_rfl) (T.on 3 rfl _ rfl).1 ⟨_, E, rfl, rfl, pt, (Y), [], x0, rfl, c1⟩
def f_mark_Add (sg : Sto) (p0 : Option Nat) (p1 : Int) (p2 : Int) : Option (Sto × Bool) :=
 (f_mark_At sg p0 p1).bind fun a =>
 (orE (!a.2.2) (some (decide ((a.2.1.Text.length : Int) ≥ 16)))).bind fun c =>
 if c = true then
 some (sg, false)
 else
 (app a.2.1.Text ([p2] : List Int)).bind fun d =>
 (f_mark_Put sg p0 a.1 a.2.1.Wide d).bind fun b =>
 some (b.1, b.2.isNil)
theorem c_mark_Add (O0 : Own c0 G F) (R : Rel c0 sg G) (hG : Gl [0, 1] c0) (q : Option Nat) (s : Int) (h : Int) {r : Sto × Bool} (h2 : Pt 0 c0 v1 q) (H : f_mark_Add sg q s h = some r) :
    Calls prog 117 #[v1, I s, J h] c0.w (Post c0 fun c v => ∃ G_ : Gm, Own c G_ (F) ∧ Rel c r.1 G_ ∧ v = B r.2) := by
 unfold f_mark_Add at H
 refine en func117 rfl rfl (sr (va (B false) (wln (sr (va (v1) (va (I s) (bn H fun a h3 H => cl (c_mark_At O0 R q s h2 h3) ?_)))))))
 rintro v12 q1 u1 ⟨v4, u5, O8, rfl, p⟩
 refine va (.tuple #[I a.1, .agg #[I a.2.1.Wide, v4], B a.2.2]) (va (I a.1) (va (.agg #[I a.2.1.Wide, v4]) (va (B a.2.2) (me (al 188 [I 0, Y] O8) ?_))))
 rintro v16 s1 a1 ⟨b, rfl, a0⟩
 refine va (I a.1) ?_
 obtain ⟨d, e, f, rfl⟩ := ((p.mono a1)).form
 refine md (sA 188 [I a.2.1.Wide, .slice d e f] 0 a0 ⟨rfl, p.m.one, trivial⟩) ?_
 rintro j w1 i
 refine va (B a.2.2) (wln (W.seq (W.seq (bn H fun S M H => W.join (Jn j fun c l => Own c G ((Eb b 188 [I a.2.1.Wide, .slice d e f]) :: es true (RI .i32) (.slice d e f) 21 u5 a.2.1.Text :: F) ∧ l = [(0, v1), (2, J h), (7, I a.1), (8, Q b), (24, B S)]) ?_ ?_))))
 ·clear H
  refine W.region (va (B a.2.2) (va (B (!a.2.2)) ?_))
  rcases bo (!a.2.2) with g | g
  ·obtain rfl := orT g M
   exact vb g (ps (ps (ps (ps (va (B true) (wln ⟨j, _, _, rfl, pt, us, i, rfl⟩))))))
  have Z := orF g M
  refine vb g (wn (va (.pointer (some ⟨b, 1, none⟩)) (wn (vx (le1 1 underlying43 (i.on 0 rfl)) (wn (vx (lnO 3 underlying43 p.m) (wn (va (B (decide ((a.2.1.Text.length : Int) ≥ 16))) ?_))))))))
  obtain rfl := si Z
  exact va (B (decide ((a.2.1.Text.length : Int) ≥ 16))) (wln ⟨j, _, _, rfl, pt, us, i, rfl⟩)
 rintro e_ w_ ⟨g0, t1, _, rfl, x1, rfl, t, rfl⟩
 refine nrm (cn H (fun o0 H => ?_) (fun o0 H => ?_))
 ·refine sr (va (B false) (wln (W.ret (thr ?_))))
  obtain rfl := si H
  have b0 := t.sD 2 []
  exact r1 ⟨_, g0, rfl, rfl, pt, G, b0, R.m, rfl⟩
 refine W.skip (nrm (W.seq (rD [] (Kp G0 [(Eb b 188 [I a.2.1.Wide, .slice d e f])]) t ?_)))
 intro h0 y1 u
 have P : Kp G0 [(Eb b 188 [I a.2.1.Wide, .slice d e f])] h0 := (Kp.cons (u.on 0 rfl) Kp.nil0)
 refine ta 0 (v1) (ta 1 (I a.1) (ta 2 (Q b) (tkx 3 P (fun c' N T => le1 0 underlying3 (T.on 0 rfl)) (ta 4 (.pointer (some ⟨b, 1, none⟩)) (tkx 5 P (fun c' N T => le1 1 underlying43 (T.on 0 rfl)) (ta 6 (J h) (o1 7 (gm 7 (sl (RI .i32) 21 [[J h]] ([h] : List Int) u ⟨rfl, trivial⟩) ?_))))))))
 rintro v40 i0 z1 ⟨c2, x, q0⟩
 have d1 : Kp G0 [(Eb b 188 [I a.2.1.Wide, .slice d e f])] i0 := (Kp.cons (x.on 1 rfl) Kp.nil0)
 refine ⟨.inr d1, ?_⟩
 obtain ⟨j0, t0, b1, y, s0⟩ := x.frz 0 rfl q0
 have e1 : Kp G0 [(Eb b 188 [I a.2.1.Wide, .slice d e f])] j0 := (Kp.cons (y.on 1 rfl) Kp.nil0)
 refine AC.gh t0 b1 (fun _ => e1) (bn H fun U u0 H => o1 8 (gm 8 (ap (RI .i32) (J 0) 4 43 2 y p.m s0 u0 underlying43) ?_))
 rintro v52 k0 a2 ⟨d2, z, v0⟩
 have f1 : Kp G0 [(Eb b 188 [I a.2.1.Wide, .slice d e f])] k0 := (Kp.cons (z.on 1 rfl) Kp.nil0)
 refine ⟨.inr f1, ?_⟩
 obtain ⟨l0, x0, c1, A, w0⟩ := z.frz 2 rfl v0
 have g1 : Kp G0 [(Eb b 188 [I a.2.1.Wide, .slice d e f])] l0 := (Kp.cons (A.on 1 rfl) Kp.nil0)
 refine AC.gh x0 c1 (fun _ => g1) (bn H fun o y0 H => o1 9 (gc 9 (c_mark_Put A R.m (hG.m.le (by decide)) q a.1 a.2.1.Wide U h2.m w0 y0) ?_))
 rintro v60 E b2 ⟨_, X, D, e0, rfl, z0⟩
 have h1 : Kp G0 [(Eb b 188 [I a.2.1.Wide, .slice d e f])] E := (Kp.cons (D.on 1 rfl) Kp.nil0)
 refine ⟨.inr h1, AC.take 10 (B o.2.isNil) rfl (by kernel_rfl) (by kernel_rfl) (fun c' N => (by rcases (z0).cs with ⟨k, n⟩ | ⟨b_, k, n⟩ | ⟨b_, k, n⟩ <;> (subst k; rw [n]; kernel_rfl))) (ta 11 (B o.2.isNil) (dn (nrm (W.ret ?_))))⟩
 obtain rfl := si H
 have d0 := D.sD 3 []
 exact r1 ⟨_, E, rfl, rfl, pt, X, d0, e0, rfl⟩
def f_grid_New (sg : Sto) (p0 : Int) (p1 : Int) : Option (Sto × (Option Nat)) :=
 (some (sg.add_grid_Grid (⟨([] : List (Option Nat))⟩ : G_grid_Grid))).bind fun c =>
 (iter (σ := Int × Sto) (τ := Sto) (((imax 1 (imin p1 1024)) - 0).toNat + 1) (fun a =>
 if (decide (a.1 < (imax 1 (imin p1 1024)))) = true then
 (a.2.grid_Grid[sg.grid_Grid.length]?).bind fun f =>
 (f_row_New a.2 p0).bind fun d =>
 (app f.rows ([d.2] : List (Option Nat))).bind fun g =>
 (d.1.set_grid_Grid sg.grid_Grid.length (⟨g⟩ : G_grid_Grid)).bind fun b =>
 some (.inl ((w64 (a.1 + 1)), b))
 else
 some (.inr (a.2))) (0, c)).bind fun e =>
 some (e, (some sg.grid_Grid.length))
theorem c_grid_New (O0 : Own c0 G F) (R0 : Rel c0 sg G) (y : Int) (n : Int) {r : Sto × (Option Nat)} (H : f_grid_New sg y n = some r) :
    Calls prog 20 #[I y, I n] c0.w (Post c0 fun c v => ∃ y1, ∃ G_ : Gm, Own c G_ (F) ∧ Rel c r.1 G_ ∧ Adds G G_ ∧ v = y1 ∧ Pt 1 c y1 r.2) := by
 unfold f_grid_New at H
 refine en func20 rfl rfl (sr (va (.pointer none) (wln (sr (va (.agg #[Y]) ?_)))))
 have h2 : OA (RP 0) c0 (Y) [] [] := OA.nil (Nat.succ_pos _)
 have O1 := O0.addHole (e := es true (RP 0) (Y) 56 [] ([] : List (Option Nat))) rfl
 refine me (al 75 [(Y)] O1) ?_
 rintro v6 c5 l5 ⟨a, rfl, O4⟩
 have O7 := O4.sD 2 [0, 1]
 refine bn H fun p2 h8 H => ?_
 obtain ⟨z, l0, t1, l9, p, q0, U, k3, u1, a16⟩ := Rel.new_grid_Grid (E := [(Eb a 75 [(Y)]), es true (RP 0) (Y) 56 [] ([] : List (Option Nat))]) (F := F) (x := (⟨([] : List (Option Nat))⟩ : G_grid_Grid)) (b := a) O7 (R0.mono l5) (fun c_ hle_ => ⟨a, (Y), [], rfl, rfl, ((h2.mono l5).mono hle_)⟩)
 rw [Option.some.inj h8] at U
 refine WL.gh t1.1 ?_
 have v1 := Adds.nil (Adds.refl _) u1
 have c1 := (Adds.refl _).trans a16
 have w1 : Pt 1 z (Q a) (some sg.grid_Grid.length) := ⟨a, rfl, p⟩
 refine va (Q a) (wln (W.seq (sr (va (I n) (va (I (imin n 1024)) (va (I (imax 1 (imin n 1024))) (va (I 0) (wln (W.block (bn H fun d3 a0 D => lp a0 (fun d => Jn z fun c l => ∃ G_, Own c G_ (F) ∧ l = [(0, I y), (5, Q a), (10, I (imax 1 (imin n 1024))), (11, I d.1)] ∧ Rel c d.2 G_ ∧ Adds G G_) (fun A ex e w => ex = .exit 0 ∧ (Jn z fun c l => ∃ G_, Own c G_ (F) ∧ l = [(5, Q a)] ∧ Rel c A G_ ∧ Adds G G_) e w) ?_ ?_ ?_))))))))))
 ·clear D a0
  intro d s3 s1 q2 H
  revert s1 q2
  rintro e_ w_ ⟨h1, i3, _, rfl, i2, rfl, f, M, rfl, o, X⟩
  refine sr (va (B (decide (d.1 < (imax 1 (imin n 1024))))) (wln (W.seq (cn H (fun x1 H => ?_) (fun x1 H => ?_)))))
  ·refine W.skip (nrm (W.seq (W.block (rD [8, 11] (Kp f []) M ?_))))
   intro i1 e0 N
   have l2 : Kp f [] i1 := (Kp.nil N)
   refine ta 0 (Q a) (ta 1 (Q a) (ta 2 (Q a) (ta 3 (Q a) (bn H fun e3 z1 H => ?_))))
   obtain ⟨v35, o3, b0, a2⟩ := Rel.open_grid_Grid (o.mono e0) z1 (tm p)
   refine tkx 4 l2 (fun c' m3 hk => le1 0 underlying73 (hk.gon b0 0 rfl)) (ta 5 (I y) (bn H fun i0 b2 H => o1 6 (gc 6 (c_row_New N o.m y b2) ?_)))
   rintro v40 j1 j2 ⟨_, g3, P, z0, k, rfl, d0⟩
   have d1 := X.trans k
   have m2 : Kp f [] j1 := (Kp.adds P k)
   refine ⟨.inr m2, ?_⟩
   obtain ⟨Z, rfl⟩ := (d0).form
   refine o1 7 (gm 7 (sl (RP 0) 56 [[.pointer Z]] ([i0.2] : List (Option Nat)) P ⟨⟨(.pointer Z), rfl, d0⟩, trivial⟩) ?_)
   rintro v55 k1 f0 ⟨p3, R, c2⟩
   have n2 : Kp f [] k1 := (Kp.adds R k)
   refine ⟨.inr n2, ?_⟩
   obtain ⟨m1, e2, s, S, d2⟩ := R.frz 0 rfl c2
   have o2 : Kp f [] m1 := (Kp.adds S k)
   refine AC.gh e2 s (fun _ => o2) (bn H fun j0 f2 H => ?_)
   have s0 := S.borrow 1 (k.get b0) rfl
   refine o1 8 (gm 8 (ap (RP 0) (.pointer none) 8 73 0 s0 a2.m d2 f2 underlying73) ?_)
   rintro q3 h3 g0 ⟨h0, t0, q⟩
   have u0 := t0.giveB 1 rfl
   refine ⟨.inl rfl, ta 9 (Q a) (ta 10 (Q a) ?_)⟩
   obtain ⟨g, h, i, rfl⟩ := (q).form
   refine o1 11 (gD 11 (Own.stGB (T := 73) (j := 0) (us := [.slice g h i]) (nw := [.slice g h i]) (v := .slice g h i) 0 u0 (by kernel_rfl) rfl rfl rfl rfl (by kernel_rfl) ⟨(q).one, trivial⟩ (by kernel_rfl) rfl) ?_)
   rintro n1 u v0
   refine bn H fun k0 g2 H => ?_
   obtain ⟨m0, w0, a1, l3, e1⟩ := Rel.put_grid_Grid v0 (z0.mono (f0.trans (s.trans (g0.trans u)))) (E' := [(Eb a 75 [.slice g h i]), es true (RP 0) (.slice g h i) 56 h0 j0]) g2 ⟨a, (.slice g h i), h0, ((i2.trans (e0.trans (j2.trans (f0.trans (s.trans (g0.trans u)))))).t _ _ _ p), rfl, (q.mono u)⟩
   have f1 := e1 _ d1 v1
   refine ⟨.inl rfl, dn (bkn (nrm (W.region (va (I (w64 (d.1 + 1))) (va (I (w64 (d.1 + 1))) (WL.nil ?_))))))⟩
   obtain rfl := si H
   refine ⟨_, rfl, ?_⟩
   have x0 := w0.sD 1 []
   exact ⟨n1, _, _, rfl, pt, us, m0, x0, rfl, a1, f1⟩
  refine W.exit (thx ?_)
  obtain rfl := si H
  exact ⟨_, rfl, rfl, ⟨h1, _, _, rfl, pt, us, f, M, rfl, o, X⟩⟩
 ·exact ⟨z, _, _, rfl, pt, us, l0, q0, rfl, U, c1⟩
 rintro _ e_ w_ ⟨rfl, q1, j3, _, rfl, n3, rfl, o0, y0, rfl, b1, g1⟩
 refine bke (nrm (sr (va (Q a) (va (Q a) (wln (W.ret ?_))))))
 obtain rfl := si D
 exact r1 ⟨_, q1, rfl, rfl, pt, (Q a), o0, y0, b1, g1, rfl, w1.m⟩
def f_place_New (sg : Sto) (p0 : Int) (p1 : Int) : Option (Sto × (Option Nat)) :=
 (f_grid_New sg p0 p1).bind fun b =>
 (some (b.1.add_place_Pen (⟨b.2, (⟨0, 0, false⟩ : G_api_Cursor), true⟩ : G_place_Pen))).bind fun a =>
 some (a, (some b.1.place_Pen.length))
theorem c_place_New (N : Own c0 G F) (R : Rel c0 sg G) (e : Int) (f : Int) {r : Sto × (Option Nat)} (H : f_place_New sg e f = some r) :
    Calls prog 5 #[I e, I f] c0.w (Post c0 fun c v => ∃ M, ∃ G_ : Gm, Own c G_ (F) ∧ Rel c r.1 G_ ∧ Adds G G_ ∧ v = M ∧ Pt 2 c M r.2) := by
 unfold f_place_New at H
 refine en func5 rfl rfl (sr (va (.pointer none) (wln (sr (va (I e) (va (I f) (bn H fun k U H => cl (c_grid_New N R e f U) ?_)))))))
 rintro v2 c8 l8 ⟨_, G4, P, S, T, rfl, z⟩
 have h := (Adds.refl _).trans T
 obtain ⟨d, rfl⟩ := (z).form
 refine va (.agg #[.pointer d, I 0, I 0, B false, B true]) (me (al 47 [.pointer d, I 0, I 0, B false, B true] P) ?_)
 rintro v15 X j ⟨a, rfl, m⟩
 have n := m.sD 1 [0]
 refine bn H fun D s H => ?_
 obtain ⟨i, l, t, b0, u, o, g, Z, y, p⟩ := Rel.new_place_Pen (E := [(Eb a 47 [.pointer d, I 0, I 0, B false, B true])]) (F := F) (x := (⟨k.2, (⟨0, 0, false⟩ : G_api_Cursor), true⟩ : G_place_Pen)) (b := a) n (S.mono j) (fun c_ hle_ => ⟨a, (.pointer d), rfl, rfl, (z.mono (j.trans hle_))⟩)
 rw [Option.some.inj s] at g
 refine WL.gh t.1 ?_
 have a0 := Adds.nil h y
 have q := h.trans p
 have A : Pt 2 i (Q a) (some k.1.place_Pen.length) := ⟨a, rfl, u⟩
 refine va (Q a) (wln (W.ret ?_))
 obtain rfl := si H
 exact r1 ⟨_, i, rfl, rfl, pt, (Q a), l, o, g, q, rfl, A⟩
def f_linotyperef32_New (p0 : Int) (p1 : Int) : Option (List G_api_Line) :=
 (iter (σ := (List G_api_Line) × Int) (τ := (List G_api_Line)) ((p1 - 0).toNat + 1) (fun a =>
 if (decide (a.2 < p1)) = true then
 (rep p0 (⟨0, ([] : List Int)⟩ : G_api_Cell)).bind fun b =>
 (app a.1 ([(⟨b, false⟩ : G_api_Line)] : List G_api_Line)).bind fun c =>
 some (.inl (c, (w64 (a.2 + 1))))
 else
 some (.inr (a.1))) (([] : List G_api_Line), 0)).bind fun d =>
 some d
theorem c_linotyperef32_New (O0 : Own c0 G F) (b : Int) (k : Int) {r : List G_api_Line} (H : f_linotyperef32_New b k = some r) :
    Calls prog 21 #[I b, I k] c0.w (Post c0 fun c v => ∃ u y2, Own c G (es true R_api_Line u 78 y2 r :: F) ∧ v = u ∧ OA R_api_Line c u y2 r) := by
 unfold f_linotyperef32_New at H
 refine en func21 rfl rfl (sr (va (Y) (wln (sr (va (Y) (wln (W.seq (sr (va (I 0) (wln (W.block (bn H fun k1 h1 y => lp h1 (fun a => Jn c0 fun c l => ∃ v3 n, Own c G (es true R_api_Line v3 78 n a.1 :: F) ∧ l = [(0, I b), (1, I k), (5, v3), (6, I a.2)] ∧ OA R_api_Line c v3 n a.1) (fun h ex e w => ex = .exit 0 ∧ (Jn c0 fun c l => ∃ v5 o, Own c G (es true R_api_Line v5 78 o h :: F) ∧ l = [(5, v5)] ∧ OA R_api_Line c v5 o h) e w) ?_ ?_ ?_))))))))))))
 ·clear y h1
  intro a q1 a0 q0 H
  revert a0 q0
  rintro e_ w_ ⟨c7, g8, _, rfl, l7, rfl, v3, n, U, rfl, p⟩
  refine W.seq (sr (va (I a.2) (va (I k) (va (B (decide (a.2 < k))) (wln (cn H (fun d0 H => ?_) (fun d0 H => ?_)))))))
  ·refine W.skip (nrm (W.seq (W.block (W.region (va (v3) (va (I b) (bn H fun t q H => me (Own.mkS (kl := .i64) (kc := .i64) (R := R_api_Cell) (z := .agg #[I 0, Y]) (lz := [I 0, Y]) (x := (⟨0, ([] : List Int)⟩ : G_api_Cell)) (by_ := 32) (i := b) (j := b) true U (Nat.succ_pos _) q (Int.le_refl _) (rep_le q) underlying72 (by kernel_rfl) rfl rfl (fun _ => ⟨(Y), rfl, (Sl.nl _ _)⟩) (by kernel_rfl) (by kernel_rfl)) ?_)))))))
   rintro v20 y0 d1 ⟨m1, A, s⟩
   obtain ⟨d, f, g, rfl⟩ := (s).form
   refine va (.agg #[.slice d f g, B false]) ?_
   obtain ⟨z0, f0, e1, D, e0⟩ := A.frz 0 rfl s
   refine WL.gh f0 (me (sl R_api_Line 78 [[.slice d f g, B false]] ([(⟨t, false⟩ : G_api_Line)] : List G_api_Line) D ⟨⟨(.slice d f g), rfl, e0⟩, trivial⟩) ?_)
   rintro v32 a1 f1 ⟨n1, E, g0⟩
   obtain ⟨b1, i0, g1, M, h0⟩ := E.frz 0 rfl g0
   refine WL.gh i0 (bn H fun x0 j0 H => me (ap R_api_Line (.agg #[Y, B false]) 32 30 2 M p.m h0 j0 underlying30) ?_)
   rintro v42 X i1 ⟨o0, N, k0⟩
   refine va (v42) (WL.nil (bkn (nrm (W.region (va (I a.2) (va (I (w64 (a.2 + 1))) (va (I (w64 (a.2 + 1))) (WL.nil ?_))))))))
   obtain rfl := si H
   refine ⟨_, rfl, ?_⟩
   have P := N.sD 3 [2]
   exact ⟨X, _, _, rfl, pt, us, v42, o0, P, rfl, k0⟩
  refine W.exit (thx ?_)
  obtain rfl := si H
  exact ⟨_, rfl, rfl, ⟨c7, _, _, rfl, pt, us, v3, n, U, rfl, p⟩⟩
 ·have l0 : OA R_api_Line c0 (Y) [] [] := OA.nil (Nat.succ_pos _)
  have S := O0.addHole (e := es true R_api_Line (Y) 78 [] ([] : List G_api_Line)) rfl
  exact ⟨c0, _, _, rfl, pt, us, (Y), [], S, rfl, l0⟩
 rintro _ e_ w_ ⟨rfl, Z, c1, _, rfl, j1, rfl, v5, o, T, rfl, m0⟩
 refine bke (nrm (sr (va (v5) (va (v5) (wln (W.ret ?_))))))
 obtain rfl := si y
 exact r1 ⟨_, Z, rfl, rfl, pt, v5, o, T, rfl, m0⟩
def f_linotyperef34_New (p0 : Int) (p1 : Int) : Option (G_linotyperef34_Pen) :=
 (f_linotyperef32_New p0 p1).bind fun a =>
 some (⟨a, (⟨0, 0, false⟩ : G_api_Cursor), true⟩ : G_linotyperef34_Pen)
theorem c_linotyperef34_New (n : Own c0 G F) (d : Int) (e : Int) {r : G_linotyperef34_Pen} (H : f_linotyperef34_New d e = some r) :
    Calls prog 6 #[I d, I e] c0.w (Post c0 fun c v => ∃ i l, Own c G (es true R_api_Line i 78 l r.L :: F) ∧ v = .agg #[i, I r.At.Row, I r.At.Col, B r.At.Pending, B r.Auto] ∧ OA R_api_Line c i l r.L) := by
 unfold f_linotyperef34_New at H
 refine en func6 rfl rfl (sr (me (al 34 [Y, I 0, I 0, B false, B false] n) ?_))
 rintro v4 z A ⟨y, rfl, o⟩
 refine wln (sr (va (I d) (va (I e) (bn H fun x p H => cl (c_linotyperef32_New o d e p) ?_))))
 rintro v6 s t ⟨_, q, j, rfl, h⟩
 obtain ⟨a, a16, b, rfl⟩ := (h).form
 refine va (.agg #[.slice a a16 b, I 0, I 0, B false, B true]) (md (sA 34 [.slice a a16 b, I 0, I 0, B false, B true] 1 j ⟨(h).one, rfl, rfl, rfl, rfl, trivial⟩) ?_)
 rintro g u f
 refine wln (W.ret ?_)
 obtain rfl := si H
 have k := f.sD 2 [0]
 exact retC (c := g) (vs := [.slice a a16 b, I 0, I 0, B false, B true]) rfl (by kernel_rfl) (by kernel_rfl) (by kernel_rfl) (f.on 1 rfl _ rfl).1 ⟨_, g, rfl, rfl, pt, (.slice a a16 b), q, k, rfl, h.m⟩
def f_cursor_side (p0 : Int) : Option (Int) :=
 some (imax 1 (imin p0 1024))
theorem c_cursor_side (b : Own c0 G F) (a : Int) {r : Int} (H : f_cursor_side a = some r) :
    Calls prog 129 #[I a] c0.w (Post c0 fun c v => Own c G (F) ∧ v = I r) := by
 unfold f_cursor_side at H
 refine en func129 rfl rfl (sr (va (I 0) (wln (sr (va (I a) (va (I (imin a 1024)) (va (I (imax 1 (imin a 1024))) (va (I (imax 1 (imin a 1024))) (wln (W.ret ?_))))))))))
 obtain rfl := si H
 exact r1 ⟨_, c0, rfl, rfl, pt, b, rfl⟩
def f_cursor_held (p0 : Int) (p1 : Int) : Option (Int) :=
 some (imax 0 (imin p0 (w64 (p1 - 1))))
theorem c_cursor_held (d : Own c0 G F) (b : Int) (a : Int) {r : Int} (H : f_cursor_held b a = some r) :
    Calls prog 130 #[I b, I a] c0.w (Post c0 fun c v => Own c G (F) ∧ v = I r) := by
 unfold f_cursor_held at H
 refine en func130 rfl rfl (sr (va (I 0) (wln (sr (va (I b) (va (I a) (va (I (w64 (a - 1))) (va (I (imin b (w64 (a - 1)))) (va (I (imax 0 (imin b (w64 (a - 1))))) (va (I (imax 0 (imin b (w64 (a - 1))))) (wln (W.ret ?_))))))))))))
 obtain rfl := si H
 exact r1 ⟨_, c0, rfl, rfl, pt, d, rfl⟩
def f_cursor_Hold (p0 : G_api_Cursor) (p1 : Int) (p2 : Int) : Option (G_api_Cursor) :=
 (f_cursor_side p1).bind fun a =>
 (f_cursor_side p2).bind fun e =>
 (f_cursor_held p0.Row e).bind fun c =>
 (f_cursor_held p0.Col a).bind fun d =>
 (andE p0.Pending (some (p0.Col == (w64 (a - 1))))).bind fun b =>
 some (⟨c, d, b⟩ : G_api_Cursor)
theorem c_cursor_Hold (O0 : Own c0 G F) (a : G_api_Cursor) (n : Int) (o : Int) {r : G_api_Cursor} (H : f_cursor_Hold a n o = some r) :
    Calls prog 102 #[.agg #[I a.Row, I a.Col, B a.Pending], I n, I o] c0.w (Post c0 fun c v => Own c G (F) ∧ v = .agg #[I r.Row, I r.Col, B r.Pending]) := by
 unfold f_cursor_Hold at H
 refine en func102 rfl rfl (sr (me (bx 32 [I a.Row, I a.Col, B a.Pending] O0) ?_))
 rintro v5 c4 l4 ⟨k, rfl, O2, m⟩
 refine me (al 32 [I 0, I 0, B false] O2) ?_
 rintro v9 c8 l8 ⟨R, rfl, O7⟩
 refine wln (sr (va (I n) (bn H fun b Z H => cl (c_cursor_side O7 n Z) ?_)))
 rintro v16 l0 o0 ⟨z, rfl⟩
 refine va (I o) (bn H fun j a0 H => cl (c_cursor_side z o a0) ?_)
 rintro v23 S q0 ⟨A, rfl⟩
 refine va (I b) (va (I j) (wln (W.seq (bn H fun d b0 H => bn H fun e d0 H => bn H fun i x H => W.join (Jn S fun c l => Own c G ((Eb R 32 [I d, I e, B i]) :: F) ∧ l = [(6, Q R)]) ?_ ?_))))
 ·clear H
  refine rD [] (Kp G0 []) A ?_
  intro T s0 D
  have y0 : Kp G0 [] T := Kp.nil0
  refine ta 0 (Q k) (tx 1 (fun h g => l1 underlying3 ((mm m) 0 _ rfl)) (ta 2 (I j) (ta 4 (.pointer (some ⟨k, 0 + 1, none⟩)) (tx 5 (fun h g => l1 underlying3 ((mm m) 1 _ rfl)) (ta 6 (I b) (ta 8 (.pointer (some ⟨k, 0 + 2, none⟩)) (tx 9 (fun h g => l1 underlying4 ((mm m) 2 _ rfl)) (o1 3 (gc 3 (c_cursor_held D a.Row j b0) ?_)))))))))
  rintro v35 U t0 ⟨E, rfl⟩
  have e0 : Kp G0 [] U := Kp.nil0
  refine ⟨.inr e0, o1 7 (gc 7 (c_cursor_held E a.Col b d0) ?_)⟩
  rintro v42 X u0 ⟨p, rfl⟩
  have f0 : Kp G0 [] X := Kp.nil0
  refine ⟨.inr f0, ?_⟩
  rcases bo (a.Pending) with f | f
  ·have y := anT f x
   refine AC.takeb 10 f rfl (by kernel_rfl) (by kernel_rfl) (fun h g => (by kernel_rfl)) (ta 11 (.pointer (some ⟨k, 0 + 1, none⟩)) (tx 12 (fun h g => l1 underlying3 ((mm m) 1 _ rfl)) (ta 13 (I b) (ta 14 (I (w64 (b - 1))) (ta 15 (B (a.Col == (w64 (b - 1)))) ?_)))))
   obtain rfl := si y
   refine ta 16 (B (a.Col == (w64 (b - 1)))) (ta 17 (.agg #[I d, I e, B (a.Col == (w64 (b - 1)))]) (o1 18 (gD 18 (sA 32 [I d, I e, B (a.Col == (w64 (b - 1)))] 0 p ⟨rfl, rfl, rfl, trivial⟩) ?_)))
   rintro s v0 M
   have g0 : Kp G0 [] s := Kp.nil0
   exact ⟨.inr g0, dn (nrm ⟨s, _, _, rfl, pt, us, M, rfl⟩)⟩
  obtain rfl := anF f x
  refine AC.takeb 10 f rfl (by kernel_rfl) (by kernel_rfl) (fun h g => (by kernel_rfl)) (tp 11 (tp 12 (tp 13 (tp 14 (tp 15 (ta 16 (B false) (ta 17 (.agg #[I d, I e, B false]) (o1 18 (gD 18 (sA 32 [I d, I e, B false] 0 p ⟨rfl, rfl, rfl, trivial⟩) ?_)))))))))
  rintro t w0 N
  have h0 : Kp G0 [] t := Kp.nil0
  exact ⟨.inr h0, dn (nrm ⟨t, _, _, rfl, pt, us, N, rfl⟩)⟩
 rintro e_ w_ ⟨u, m0, _, rfl, x0, rfl, q, rfl⟩
 refine nrm (W.ret ?_)
 obtain rfl := si H
 have P := q.sD 1 []
 exact retC (c := u) (vs := [I d, I e, B i]) rfl (by kernel_rfl) (by kernel_rfl) (by kernel_rfl) (q.on 0 rfl _ rfl).1 ⟨_, u, rfl, rfl, pt, P, rfl⟩
def f_place_Pen_ready (sg : Sto) (p0 : Option Nat) : Option (Sto × Bool) :=
 (orE p0.isNone ((p0).bind fun i =>
 (sg.place_Pen[i]?).bind fun d =>
 some d.G.isNone)).bind fun h =>
 if h = true then
 some (sg, false)
 else
 (p0).bind fun c =>
 (sg.place_Pen[c]?).bind fun a =>
 (f_grid_Grid_Wide sg a.G).bind fun e =>
 (f_grid_Grid_High sg a.G).bind fun f =>
 (f_cursor_Hold a.At e f).bind fun g =>
 (sg.set_place_Pen c (⟨a.G, g, a.Auto⟩ : G_place_Pen)).bind fun b =>
 some (b, true)
theorem c_place_Pen_ready (S : Own c0 G F) (h : Rel c0 sg G) (t : Option Nat) {r : Sto × Bool} (T : Pt 2 c0 v1 t) (H : f_place_Pen_ready sg t = some r) :
    Calls prog 131 #[v1] c0.w (Post c0 fun c v => ∃ G_ : Gm, Own c G_ (F) ∧ Rel c r.1 G_ ∧ v = B r.2) := by
 unfold f_place_Pen_ready at H
 refine en func131 rfl rfl (sr (va (B false) (wln (W.seq (W.seq (bn H fun o0 h3 H => W.join (Jn c0 fun c l => Own c G (F) ∧ l = [(0, v1), (11, B o0)]) ?_ ?_))))))
 ·clear H
  refine W.region (va (v1) (vr (B t.isNone) (by rcases (T).cs with ⟨e, f⟩ | ⟨b_, e, f⟩ <;> (subst e; rw [f]; kernel_rfl)) ?_))
  rcases bo (t.isNone) with k | k
  ·obtain rfl := orT k h3
   exact vb k (ps (ps (ps (ps (ps (va (B true) (wln ⟨c0, _, _, rfl, pt, us, S, rfl⟩)))))))
  have i := orF k h3
  refine vb k (wn (va (v1) (wn (bn i fun n1 h8 i => ?_))))
  obtain ⟨b6, rfl, h7⟩ := (T).get h8
  refine va (Q b6) (wn (va (Q b6) (wn (bn i fun q h9 i => ?_))))
  obtain ⟨v10, s0, q0⟩ := Rel.open_place_Pen h h9 h7
  refine vx (le1 0 underlying45 (S.gon s0 0 rfl)) (wn (vr (B q.G.isNone) (by rcases (q0).cs with ⟨e, f⟩ | ⟨b_, e, f⟩ <;> (subst e; rw [f]; kernel_rfl)) ?_))
  obtain rfl := si i
  exact va (B q.G.isNone) (wln ⟨c0, _, _, rfl, pt, us, S, rfl⟩)
 rintro e_ w_ ⟨h0, k1, _, rfl, o, rfl, u, rfl⟩
 refine nrm (cn H (fun t0 H => ?_) (fun t0 H => ?_))
 ·refine sr (va (B false) (wln (W.ret (thr ?_))))
  obtain rfl := si H
  exact r1 ⟨_, h0, rfl, rfl, pt, G, u, h.m, rfl⟩
 refine W.skip (nrm (W.seq (rD [18] (Kp G []) u ?_)))
 intro i0 p x
 have s : Kp G [] i0 := (Kp.nil x)
 refine ta 0 (v1) (ta 1 (v1) (bn H fun i1 u0 H => ?_))
 obtain ⟨b, rfl, D⟩ := ((T.mono (o.trans p))).get u0
 refine ta 2 (Q b) (ta 3 (.pointer (some ⟨b, 1, none⟩)) (bn H fun d v0 H => ?_))
 obtain ⟨v27, g, j⟩ := Rel.open_place_Pen (h.mono (o.trans p)) v0 D
 refine tkx 4 s (fun c' E n => leN 32 1 [I d.At.Row, I d.At.Col, B d.At.Pending] (n.gon g 0 rfl)) (ta 5 (Q b) (ta 6 (Q b) (ta 7 (Q b) (tkx 8 s (fun c' E n => le1 0 underlying45 (n.gon g 0 rfl)) (ta 10 (Q b) (ta 11 (Q b) (ta 12 (Q b) (tkx 13 s (fun c' E n => le1 0 underlying45 (n.gon g 0 rfl)) (bn H fun U x0 H => o1 9 (gc 9 (c_grid_Grid_Wide x h.m d.G j x0) ?_))))))))))
 rintro v36 j0 M ⟨y, rfl⟩
 have b1 : Kp G [] j0 := (Kp.nil y)
 refine ⟨.inr b1, bn H fun X y0 H => o1 14 (gc 14 (c_grid_Grid_High y h.m d.G j.m y0) ?_)⟩
 rintro v44 k0 N ⟨z, rfl⟩
 have c1 : Kp G [] k0 := (Kp.nil z)
 refine ⟨.inr c1, bn H fun a z0 H => o1 15 (gc 15 (c_cursor_Hold z d.At U X z0) ?_)⟩
 rintro v52 l0 P ⟨A, rfl⟩
 have d1 : Kp G [] l0 := (Kp.nil A)
 refine ⟨.inr d1, ta 16 (Q b) (ta 17 (.pointer (some ⟨b, 1, none⟩)) (o1 18 (gD 18 (gB 32 1 [I a.Row, I a.Col, B a.Pending] [v27, I a.Row, I a.Col, B a.Pending, B d.Auto] 0 A g ⟨rfl, rfl, rfl, trivial⟩) ?_)))⟩
 rintro m0 R b0
 refine bn H fun Z a1 H => ?_
 obtain ⟨a0, d0, e0, m1, j1⟩ := Rel.put_place_Pen b0 (h.mono (o.trans (p.trans (M.trans (N.trans (P.trans R)))))) (E' := [(Eb b 47 [v27, I a.Row, I a.Col, B a.Pending, B d.Auto])]) a1 ⟨b, v27, (tm D), rfl, (j.mono (M.trans (N.trans (P.trans R))))⟩
 refine ⟨.inl rfl, dn (nrm (sr (va (B true) (wln (W.ret ?_)))))⟩
 obtain rfl := si H
 exact r1 ⟨_, m0, rfl, rfl, pt, a0, d0, e0, rfl⟩
def f_cursor_Return (p0 : G_api_Cursor) : Option (G_api_Cursor) :=
 some (⟨p0.Row, 0, false⟩ : G_api_Cursor)
theorem c_cursor_Return (f : Own c0 G F) (a : G_api_Cursor) {r : G_api_Cursor} (H : f_cursor_Return a = some r) :
    Calls prog 104 #[.agg #[I a.Row, I a.Col, B a.Pending]] c0.w (Post c0 fun c v => Own c G (F) ∧ v = .agg #[I r.Row, I r.Col, B r.Pending]) := by
 unfold f_cursor_Return at H
 refine en func104 rfl rfl (sr (me (bx 32 [I a.Row, I a.Col, B a.Pending] f) ?_))
 rintro v5 m o ⟨i, rfl, g, j⟩
 refine me (al 32 [I 0, I 0, B false] g) ?_
 rintro v9 n p ⟨l, rfl, h⟩
 refine wln (sr (va (Q i) (vx (l1 underlying3 ((mm j) 0 _ rfl)) (va (.agg #[I a.Row, I 0, B false]) (md (sA 32 [I a.Row, I 0, B false] 0 h ⟨rfl, rfl, rfl, trivial⟩) ?_)))))
 rintro d k b
 refine wln (W.ret ?_)
 obtain rfl := si H
 have e := b.sD 1 []
 exact retC (c := d) (vs := [I a.Row, I 0, B false]) rfl (by kernel_rfl) (by kernel_rfl) (by kernel_rfl) (b.on 0 rfl _ rfl).1 ⟨_, d, rfl, rfl, pt, e, rfl⟩
def f_cursor_Down (p0 : G_api_Cursor) (p1 : Int) : Option (G_api_Cursor × Bool) :=
 (f_cursor_side p1).bind fun a =>
 if (decide (p0.Row ≥ (w64 (a - 1)))) = true then
 some ((⟨p0.Row, p0.Col, false⟩ : G_api_Cursor), true)
 else
 some ((⟨(w64 (p0.Row + 1)), p0.Col, false⟩ : G_api_Cursor), false)
theorem c_cursor_Down (x : Own c0 G F) (a : G_api_Cursor) (f : Int) {r : G_api_Cursor × Bool} (H : f_cursor_Down a f = some r) :
    Calls prog 132 #[.agg #[I a.Row, I a.Col, B a.Pending], I f] c0.w (Post c0 fun c v => Own c G (F) ∧ v = .tuple #[.agg #[I r.1.Row, I r.1.Col, B r.1.Pending], B r.2]) := by
 unfold f_cursor_Down at H
 refine en func132 rfl rfl (sr (me (al 32 [I a.Row, I a.Col, B a.Pending] x) ?_))
 rintro v4 c3 l3 ⟨d, rfl, y⟩
 refine me (al 32 [I 0, I 0, B false] y) ?_
 rintro v8 c7 l7 ⟨Z, rfl, z⟩
 refine va (B false) (wln (sr (va (.pointer (some ⟨d, 2, none⟩)) (md (sC 4 2 (B false) [I a.Row, I a.Col, B false] 1 z ⟨rfl, trivial⟩) ?_))))
 rintro E P A
 refine wln (W.seq (W.seq (rD [] (Kp G0 [(Eb d 32 [I a.Row, I a.Col, B false])]) A ?_)))
 intro o R g
 have t : Kp G0 [(Eb d 32 [I a.Row, I a.Col, B false])] o := (Kp.cons (g.on 1 rfl) Kp.nil0)
 refine ta 0 (Q d) (tkx 1 t (fun c' N D => le1 0 underlying3 (D.on 0 rfl)) (ta 2 (I f) (bn H fun e q H => o1 3 (gc 3 (c_cursor_side g f q) ?_))))
 rintro v20 p S ⟨b, rfl⟩
 have u : Kp G0 [(Eb d 32 [I a.Row, I a.Col, B false])] p := (Kp.cons (b.on 1 rfl) Kp.nil0)
 refine ⟨.inr u, ta 4 (I (w64 (e - 1))) (ta 5 (B (decide (a.Row ≥ (w64 (e - 1))))) (dn (nrm (cn H (fun s H => ?_) (fun s H => ?_)))))⟩
 ·refine sr (vx (leN 32 0 [I a.Row, I a.Col, B false] (b.on 1 rfl)) (md (sA 32 [I a.Row, I a.Col, B false] 0 b ⟨rfl, rfl, rfl, trivial⟩) ?_))
  rintro k T h
  refine va (B true) (wln (W.ret (thr ?_)))
  obtain rfl := si H
  have m := h.sD 2 []
  exact retCT (c := k) (vs := [I a.Row, I a.Col, B false]) (v := B true) rfl (by kernel_rfl) (by kernel_rfl) (by kernel_rfl) (by kernel_rfl) (h.on 0 rfl _ rfl).1 ⟨_, k, rfl, rfl, pt, m, rfl⟩
 refine W.skip (nrm (sr (va (Q d) (vx (le1 0 underlying3 (b.on 1 rfl)) (va (I (w64 (a.Row + 1))) (va (Q d) (md (sC 3 0 (I (w64 (a.Row + 1))) [I (w64 (a.Row + 1)), I a.Col, B false] 1 b ⟨rfl, trivial⟩) ?_)))))))
 rintro M U i
 refine wln (sr (vx (leN 32 0 [I (w64 (a.Row + 1)), I a.Col, B false] (i.on 1 rfl)) (md (sA 32 [I (w64 (a.Row + 1)), I a.Col, B false] 0 i ⟨rfl, rfl, rfl, trivial⟩) ?_)))
 rintro l X j
 refine va (B false) (wln (W.ret ?_))
 obtain rfl := si H
 have n := j.sD 2 []
 exact retCT (c := l) (vs := [I (w64 (a.Row + 1)), I a.Col, B false]) (v := B false) rfl (by kernel_rfl) (by kernel_rfl) (by kernel_rfl) (by kernel_rfl) (j.on 0 rfl _ rfl).1 ⟨_, l, rfl, rfl, pt, n, rfl⟩
def f_place_Pen_NewLine (sg : Sto) (p0 : Option Nat) : Option (Sto) :=
 (f_place_Pen_ready sg p0).bind fun b =>
 if (!b.2) = true then
 some b.1
 else
 (p0).bind fun j =>
 (b.1.place_Pen[j]?).bind fun f =>
 (f_grid_Grid_High b.1 f.G).bind fun g =>
 (f_cursor_Down f.At g).bind fun e =>
 (p0).bind fun d =>
 (b.1.place_Pen[d]?).bind fun c =>
 (b.1.set_place_Pen d (⟨c.G, e.1, c.Auto⟩ : G_place_Pen)).bind fun a =>
 if e.2 = true then
 (f_grid_Grid_High a c.G).bind fun h =>
 (f_scroll_Up a c.G 0 h 1).bind fun i =>
 some i
 else
 some a
theorem c_place_Pen_NewLine (O0 : Own c0 G F) (R0 : Rel c0 sg G) (p0 : Option Nat) {r : Sto} (h2 : Pt 2 c0 v1 p0) (H : f_place_Pen_NewLine sg p0 = some r) :
    Calls prog 105 #[v1] c0.w (Post c0 fun c v => ∃ G_ : Gm, Own c G_ (F) ∧ Rel c r G_ ∧ v = .tuple #[]) := by
 unfold f_place_Pen_NewLine at H
 refine en func105 rfl rfl (W.seq (sr (va (v1) (bn H fun x2 h3 H => cl (c_place_Pen_ready O0 R0 p0 h2 h3) ?_))))
 rintro v9 c8 l8 ⟨d, O5, n, rfl⟩
 refine va (B (!x2.2)) (wln (cn H (fun c2 H => ?_) (fun c2 H => ?_)))
 ·refine W.ret (thr ?_)
  obtain rfl := si H
  exact r0 ⟨_, c8, rfl, rfl, pt, d, O5, n, rfl⟩
 refine W.skip (nrm (W.seq (bn H fun m3 d2 H => bn H fun e e2 H => bn H fun j h0 H => bn H fun a x H => W.join (Jn c8 fun c l => ∃ t, Own c d ((Eb t 32 [I a.1.Row, I a.1.Col, B a.1.Pending]) :: F) ∧ l = [(0, v1), (2, Q t), (3, B a.2)]) ?_ ?_)))
 ·clear H
  refine rD [] (Kp d []) O5 ?_
  intro p1 l16 q
  have m0 : Kp d [] p1 := (Kp.nil q)
  refine ta 0 (v1) ?_
  obtain ⟨g, rfl, f2⟩ := ((h2.mono (l8.trans l16))).get d2
  refine ta 1 (Q g) (ta 2 (.pointer (some ⟨g, 1, none⟩)) ?_)
  obtain ⟨v21, j0, i0⟩ := Rel.open_place_Pen (n.mono l16) e2 f2
  refine tkx 3 m0 (fun c' z i => leN 32 1 [I e.At.Row, I e.At.Col, B e.At.Pending] (i.gon j0 0 rfl)) (ta 4 (Q g) (ta 5 (Q g) (ta 6 (Q g) (tkx 7 m0 (fun c' z i => le1 0 underlying45 (i.gon j0 0 rfl)) (mn2 8 13 ?_ ?_)))))
  ·refine gc 8 (c_grid_Grid_High q n.m e.G i0 h0) ?_
   rintro v29 q1 n3 ⟨s, rfl⟩
   have l2 : Kp d [] q1 := (Kp.nil s)
   refine ⟨.inr l2, mn2 9 13 ?_ ?_⟩
   ·refine gc 9 (c_cursor_Down s e.At j x) ?_
    rintro v36 s1 o3 ⟨M, rfl⟩
    have m2 : Kp d [] s1 := (Kp.nil M)
    refine ⟨.inr m2, ta 10 (.tuple #[.agg #[I a.1.Row, I a.1.Col, B a.1.Pending], B a.2]) (ta 11 (.agg #[I a.1.Row, I a.1.Col, B a.1.Pending]) (ta 12 (B a.2) (o1 13 (gm 13 (al 32 [I 0, I 0, B false] M) ?_))))⟩
    rintro v41 t1 p3 ⟨k1, rfl, N⟩
    have n2 : Kp d [] t1 := (Kp.nil N)
    refine ⟨.inr n2, o1 14 (gD 14 (sA 32 [I a.1.Row, I a.1.Col, B a.1.Pending] 0 N ⟨rfl, rfl, rfl, trivial⟩) ?_)⟩
    rintro e0 q3 P
    have o2 : Kp d [] e0 := (Kp.nil P)
    exact ⟨.inr o2, ta 15 (B a.2) (dn (nrm ⟨e0, _, _, rfl, pt, us, k1, P, rfl⟩))⟩
   refine gm 13 (al 32 [I 0, I 0, B false] s) ?_
   rintro v49 u1 s3 ⟨m1, rfl, R⟩
   have p2 : Kp d [] u1 := (Kp.nil R)
   refine ⟨.inr p2, o1 9 (gc 9 (c_cursor_Down R e.At j x) ?_)⟩
   rintro v56 w1 t3 ⟨S, rfl⟩
   have q2 : Kp d [] w1 := (Kp.nil S)
   refine ⟨.inr q2, ta 10 (.tuple #[.agg #[I a.1.Row, I a.1.Col, B a.1.Pending], B a.2]) (ta 11 (.agg #[I a.1.Row, I a.1.Col, B a.1.Pending]) (ta 12 (B a.2) (o1 14 (gD 14 (sA 32 [I a.1.Row, I a.1.Col, B a.1.Pending] 0 S ⟨rfl, rfl, rfl, trivial⟩) ?_))))⟩
   rintro f0 u3 T
   have s2 : Kp d [] f0 := (Kp.nil T)
   exact ⟨.inr s2, ta 15 (B a.2) (dn (nrm ⟨f0, _, _, rfl, pt, us, m1, T, rfl⟩))⟩
  refine gm 13 (al 32 [I 0, I 0, B false] q) ?_
  rintro z3 x1 v3 ⟨n1, rfl, U⟩
  have t2 : Kp d [] x1 := (Kp.nil U)
  refine ⟨.inr t2, o1 8 (gc 8 (c_grid_Grid_High U n.m e.G i0.m h0) ?_)⟩
  rintro a4 y1 w3 ⟨X, rfl⟩
  have u2 : Kp d [] y1 := (Kp.nil X)
  refine ⟨.inr u2, o1 9 (gc 9 (c_cursor_Down X e.At j x) ?_)⟩
  rintro b4 z1 x3 ⟨Z, rfl⟩
  have v2 : Kp d [] z1 := (Kp.nil Z)
  refine ⟨.inr v2, ta 10 (.tuple #[.agg #[I a.1.Row, I a.1.Col, B a.1.Pending], B a.2]) (ta 11 (.agg #[I a.1.Row, I a.1.Col, B a.1.Pending]) (ta 12 (B a.2) (o1 14 (gD 14 (sA 32 [I a.1.Row, I a.1.Col, B a.1.Pending] 0 Z ⟨rfl, rfl, rfl, trivial⟩) ?_))))⟩
  rintro g0 y3 a0
  have w2 : Kp d [] g0 := (Kp.nil a0)
  exact ⟨.inr w2, ta 15 (B a.2) (dn (nrm ⟨g0, _, _, rfl, pt, us, n1, a0, rfl⟩))⟩
 rintro e_ w_ ⟨k3, l3, _, rfl, A, rfl, t, b0, rfl⟩
 refine nrm (sr (va (v1) (vx (leN 32 0 [I a.1.Row, I a.1.Col, B a.1.Pending] (b0.on 0 rfl)) (bn H fun c3 g2 H => ?_))))
 obtain ⟨b, rfl, k0⟩ := ((h2.mono (l8.trans A))).get g2
 refine va (Q b) (va (.pointer (some ⟨b, 1, none⟩)) (bn H fun f i2 H => ?_))
 obtain ⟨E, j2, y⟩ := Rel.open_place_Pen (n.mono A) i2 k0
 refine md (gB 32 1 [I a.1.Row, I a.1.Col, B a.1.Pending] [E, I a.1.Row, I a.1.Col, B a.1.Pending, B f.Auto] 0 b0 j2 ⟨rfl, rfl, rfl, trivial⟩) ?_
 rintro b2 l0 j1
 refine bn H fun h1 z0 H => ?_
 obtain ⟨k, d0, h, u, a3⟩ := Rel.put_place_Pen j1 (n.mono (A.trans l0)) (E' := [(Eb b 47 [E, I a.1.Row, I a.1.Col, B a.1.Pending, B f.Auto])]) z0 ⟨b, E, (tm k0), rfl, (y.mono l0)⟩
 refine wln (sr (va (B a.2) (wln (cn H (fun a1 H => ?_) (fun a1 H => ?_)))))
 ·refine rD [9] (Kp k []) d0 ?_
  intro w0 d3 o
  have D : Kp k [] w0 := (Kp.nil o)
  refine ta 0 (Q b) (ta 1 (Q b) (ta 2 (Q b) (tkx 3 D (fun c' z i => le1 0 underlying45 (i.gon u 0 rfl)) (ta 4 (Q b) (ta 5 (Q b) (ta 6 (Q b) (tkx 7 D (fun c' z i => le1 0 underlying45 (i.gon u 0 rfl)) (bn H fun g1 b1 H => o1 8 (gc 8 (c_grid_Grid_High o h.m f.G y.m b1) ?_)))))))))
  rintro g3 x0 e3 ⟨p, rfl⟩
  have f1 : Kp k [] x0 := (Kp.nil p)
  refine ⟨.inr f1, bn H fun j3 c1 H => o1 9 (gc 9 (c_scroll_Up p h.m f.G 0 g1 1 y.m c1) ?_)⟩
  rintro i3 y0 f3 ⟨o0, q0, u0, rfl⟩
  refine ⟨.inl rfl, dn ?_⟩
  obtain rfl := si H
  have s0 := q0.sD 1 []
  exact n0 ⟨_, y0, rfl, rfl, pt, o0, s0, u0, rfl⟩
 refine W.skip ?_
 obtain rfl := si H
 have t0 := d0.sD 1 []
 exact n0 ⟨_, b2, rfl, rfl, pt, k, t0, h, rfl⟩
def f_place_Pen_goOn (sg : Sto) (p0 : Option Nat) : Option (Sto) :=
 (p0).bind fun c =>
 (sg.place_Pen[c]?).bind fun e =>
 (f_grid_Grid_Row sg e.G e.At.Row).bind fun f =>
 (f_row_Row_GoOn sg f true).bind fun d =>
 (d.place_Pen[c]?).bind fun a =>
 (f_cursor_Return a.At).bind fun g =>
 (d.set_place_Pen c (⟨a.G, g, a.Auto⟩ : G_place_Pen)).bind fun b =>
 (f_place_Pen_NewLine b p0).bind fun h =>
 some h
theorem c_place_Pen_goOn (O0 : Own c0 G F) (n : Rel c0 sg G) (q : Option Nat) {r : Sto} (U : Pt 2 c0 v1 q) (H : f_place_Pen_goOn sg q = some r) :
    Calls prog 181 #[v1] c0.w (Post c0 fun c v => ∃ G_ : Gm, Own c G_ (F) ∧ Rel c r G_ ∧ v = .tuple #[]) := by
 unfold f_place_Pen_goOn at H
 refine en func181 rfl rfl (W.seq (rD [10] (Kp G []) O0 ?_))
 intro c3 l3 y
 have p5 : Kp G [] c3 := (Kp.nil y)
 refine ta 0 (v1) (bn H fun a1 h8 H => ?_)
 obtain ⟨b, rfl, o⟩ := ((U.mono l3)).get h8
 refine ta 1 (Q b) (ta 2 (Q b) (bn H fun l h9 H => ?_))
 obtain ⟨v10, h, R⟩ := Rel.open_place_Pen (n.mono l3) h9 o
 refine tkx 3 p5 (fun c' f0 p => le1 0 underlying45 (p.gon h 0 rfl)) (ta 4 (Q b) (ta 5 (Q b) (ta 6 (.pointer (some ⟨b, 1, none⟩)) (ta 7 (.pointer (some ⟨b, 1, none⟩)) (tkx 8 p5 (fun c' f0 p => le1 1 underlying3 (p.gon h 0 rfl)) (bn H fun s S H => o1 9 (gc 9 (c_grid_Grid_Row y n.m l.G l.At.Row R S) ?_)))))))
 rintro v14 N b1 ⟨_, e, rfl, T⟩
 have h0 : Kp G [] N := (Kp.nil e)
 refine ⟨.inr h0, bn H fun q0 X H => o1 10 (gc 10 (c_row_Row_GoOn e n.m s true T X) ?_)⟩
 rintro v29 w0 c1 ⟨t0, f, g, rfl⟩
 refine ⟨.inl rfl, dn (nrm (sr (va (Q b) (va (Q b) (va (Q b) (va (.pointer (some ⟨b, 1, none⟩)) (bn H fun d Z H => ?_)))))))⟩
 obtain ⟨v31, i, a0⟩ := Rel.open_place_Pen g Z (tm o)
 refine vx (leN 32 1 [I d.At.Row, I d.At.Col, B d.At.Pending] (f.gon i 0 rfl)) (bn H fun a b0 H => cl (c_cursor_Return f d.At b0) ?_)
 rintro v40 x0 j ⟨x, rfl⟩
 refine va (Q b) (va (.pointer (some ⟨b, 1, none⟩)) (md (gB 32 1 [I a.Row, I a.Col, B a.Pending] [v31, I a.Row, I a.Col, B a.Pending, B d.Auto] 0 x i ⟨rfl, rfl, rfl, trivial⟩) ?_))
 rintro y0 k z
 refine bn H fun t d0 H => ?_
 obtain ⟨u0, A, E, z0, v0⟩ := Rel.put_place_Pen z (g.mono (j.trans k)) (E' := [(Eb b 47 [v31, I a.Row, I a.Col, B a.Pending, B d.Auto])]) d0 ⟨b, v31, (tm o), rfl, (a0.mono (j.trans k))⟩
 refine wln (W.region (va (Q b) (bn H fun s0 e0 H => cl (c_place_Pen_NewLine A E q U.m e0) ?_)))
 rintro v55 P d1 ⟨u, D, M, rfl⟩
 refine WL.nil ?_
 obtain rfl := si H
 exact n0 ⟨_, P, rfl, rfl, pt, u, D, M, rfl⟩
def f_place_Pen_room (sg : Sto) (p0 : Option Nat) (p1 : Int) : Option (Sto) :=
 ((p0).bind fun k =>
 (sg.place_Pen[k]?).bind fun l =>
 if l.At.Pending = true then
 (f_place_Pen_goOn sg p0).bind fun m =>
 some (m)
 else
 some (sg)).bind fun b =>
 (p0).bind fun d =>
 (b.place_Pen[d]?).bind fun a =>
 (f_grid_Grid_Wide b a.G).bind fun e =>
 (orE (p1 == 1) (some (decide (a.At.Col < (w64 (e - 1)))))).bind fun f =>
 if f = true then
 some b
 else
 if a.Auto = true then
 (f_grid_Grid_Row b a.G a.At.Row).bind fun g =>
 (f_cell_Blanks 1).bind fun h =>
 (f_row_Row_Paint b g (w64 (e - 1)) h).bind fun i =>
 (f_place_Pen_goOn i.1 p0).bind fun j =>
 some j
 else
 (b.set_place_Pen d (⟨a.G, (⟨a.At.Row, (w64 (a.At.Col - 1)), a.At.Pending⟩ : G_api_Cursor), a.Auto⟩ : G_place_Pen)).bind fun c =>
 some c
theorem c_place_Pen_room (T : Own c0 G F) (X : Rel c0 sg G) (hG : Gl [0, 1] c0) (u : Option Nat) (n : Int) {r : Sto} (t : Pt 2 c0 v1 u) (H : f_place_Pen_room sg u n = some r) :
    Calls prog 149 #[v1, I n] c0.w (Post c0 fun c v => ∃ G_ : Gm, Own c G_ (F) ∧ Rel c r G_ ∧ v = .tuple #[]) := by
 unfold f_place_Pen_room at H
 refine en func149 rfl rfl (bn H fun f2 g d => W.seqJ (Jn c0 fun c l => ∃ G_, Own c G_ (F) ∧ l = [(0, v1), (1, I n)] ∧ Rel c f2 G_) ?_ ?_)
 ·refine sr (va (v1) (bn g fun a3 h7 g => ?_))
  obtain ⟨s, rfl, h6⟩ := (t).get h7
  refine va (Q s) (va (.pointer (some ⟨s, 1, none⟩)) (va (.pointer (some ⟨s, 3, none⟩)) (bn g fun h3 h8 g => ?_)))
  obtain ⟨v9, e1, y2⟩ := Rel.open_place_Pen X h8 h6
  refine vx (le1 3 underlying4 (T.gon e1 0 rfl)) (wln (cn g (fun f1 g => ?_) (fun f1 g => ?_)))
  ·refine W.region (va (Q s) (bn g fun m3 g1 g => cl (c_place_Pen_goOn T X u t g1) ?_))
   rintro v19 w0 b3 ⟨h0, l0, t0, rfl⟩
   refine wln ?_
   obtain rfl := si g
   exact ⟨w0, _, _, rfl, pt, us, h0, l0, rfl, t0⟩
  refine W.skip (nrm ?_)
  obtain rfl := si g
  exact ⟨c0, _, _, rfl, pt, us, G, T, rfl, X⟩
 rintro e_ w_ ⟨u2, w2, _, rfl, a2, rfl, f, x, rfl, i⟩
 refine sr (va (v1) (bn d fun o2 h1 d => ?_))
 obtain ⟨a, rfl, E⟩ := ((t.mono a2)).get h1
 refine va (Q a) (va (Q a) (bn d fun b i1 d => ?_))
 obtain ⟨v30, h, q⟩ := Rel.open_place_Pen i i1 E
 refine vx (le1 0 underlying45 (x.gon h 0 rfl)) (bn d fun e j1 d => cl (c_grid_Grid_Wide x i b.G q j1) ?_)
 rintro v39 p N ⟨o, rfl⟩
 refine va (I (w64 (e - 1))) (va (I (w64 (e - 1))) (wln (W.block (W.seq (bn d fun a0 M d => W.join (Jn p fun c l => Own c f (F) ∧ l = [(0, Q a), (4, I (w64 (e - 1))), (27, B a0)]) ?_ ?_)))))
 ·clear d
  refine W.region (va (I n) (va (B (n == 1)) ?_))
  rcases bo (n == 1) with k | k
  ·obtain rfl := orT k M
   exact vb k (ps (ps (ps (ps (ps (ps (ps (va (B true) (va (B true) (wln ⟨p, _, _, rfl, pt, us, o, rfl⟩))))))))))
  have k0 := orF k M
  refine vb k (wn (va (Q a) (wn (va (Q a) (wn (va (.pointer (some ⟨a, 1, none⟩)) (wn (va (.pointer (some ⟨a, 2, none⟩)) (wn (vx (le1 2 underlying3 (o.gon h 0 rfl)) (wn (va (I (w64 (e - 1))) (wn (va (B (decide (b.At.Col < (w64 (e - 1))))) ?_))))))))))))))
  obtain rfl := si k0
  exact va (B (decide (b.At.Col < (w64 (e - 1))))) (va (B (decide (b.At.Col < (w64 (e - 1))))) (wln ⟨p, _, _, rfl, pt, us, o, rfl⟩))
 rintro e_ w_ ⟨x0, x2, _, rfl, P, rfl, j, rfl⟩
 refine nrm (cn d (fun k1 d => ?_) (fun k1 d => ?_))
 ·refine W.ret (bkr ?_)
  obtain rfl := si d
  exact r0 ⟨_, x0, rfl, rfl, pt, f, j, i.m, rfl⟩
 refine sr (va (Q a) (va (Q a) (va (.pointer (some ⟨a, 4, none⟩)) (vx (le1 4 underlying4 (j.gon h 0 rfl)) (va (B b.Auto) (wln (cn d (fun m1 d => ?_) (fun m1 d => ?_))))))))
 ·refine W.seq (rD [12] (Kp f []) j ?_)
  intro y0 c3 y
  have S : Kp f [] y0 := (Kp.nil y)
  refine ta 0 (Q a) (ta 1 (Q a) (ta 2 (Q a) (tkx 3 S (fun c' z1 hk => le1 0 underlying45 (hk.gon h 0 rfl)) (ta 4 (Q a) (ta 5 (Q a) (ta 6 (.pointer (some ⟨a, 1, none⟩)) (ta 7 (.pointer (some ⟨a, 1, none⟩)) (tkx 8 S (fun c' z1 hk => le1 1 underlying3 (hk.gon h 0 rfl)) (ta 10 (I (w64 (e - 1))) (bn d fun e0 n1 d => o1 9 (gc 9 (c_grid_Grid_Row y i.m b.G b.At.Row q.m n1) ?_)))))))))))
  rintro v55 z0 d3 ⟨_, z, rfl, q1⟩
  have c2 : Kp f [] z0 := (Kp.nil z)
  refine ⟨.inr c2, bn d fun f0 s1 d => o1 11 (gc 11 (c_cell_Blanks z 1 s1) ?_)⟩
  rintro j3 a1 e3 ⟨_, i3, A, rfl, t1⟩
  have d2 : Kp f [] a1 := (Kp.nil A)
  refine ⟨.inr d2, ?_⟩
  obtain ⟨b1, w1, b2, D, u1⟩ := A.frz 0 rfl t1
  have e2 : Kp f [] b1 := (Kp.nil D)
  refine AC.gh w1 b2 (fun _ => e2) (bn d fun q2 x1 d => o1 12 (gc 12 (c_row_Row_Paint D i.m (hG.m.le (by decide)) e0 (w64 (e - 1)) f0 q1.m u1 x1) ?_))
  rintro k3 v2 f3 ⟨_, t2, m0, u0, rfl, z2⟩
  refine ⟨.inl rfl, dn (nrm (W.region (va (Q a) (bn d fun s2 y1 d => cl (c_place_Pen_goOn m0 u0 u t.m y1) ?_))))⟩
  rintro l3 c1 g3 ⟨i0, o0, v0, rfl⟩
  refine WL.nil (bkn ?_)
  obtain rfl := si d
  have q0 := o0.sD 1 []
  exact n0 ⟨_, c1, rfl, rfl, pt, i0, q0, v0, rfl⟩
 refine W.region (va (Q a) (va (Q a) (va (.pointer (some ⟨a, 1, none⟩)) (va (.pointer (some ⟨a, 2, none⟩)) (vx (le1 2 underlying3 (j.gon h 0 rfl)) (va (I (w64 (b.At.Col - 1))) (va (Q a) (va (.pointer (some ⟨a, 1, none⟩)) (va (.pointer (some ⟨a, 2, none⟩)) (md (gC 3 2 (I (w64 (b.At.Col - 1))) [v30, I b.At.Row, I (w64 (b.At.Col - 1)), B b.At.Pending, B b.Auto] 0 j h ⟨rfl, trivial⟩) ?_))))))))))
 rintro d1 R s0
 refine bn d fun g0 b0 d => ?_
 obtain ⟨j0, U, Z, k2, g2⟩ := Rel.put_place_Pen s0 (i.mono (N.trans (P.trans R))) (E' := [(Eb a 47 [v30, I b.At.Row, I (w64 (b.At.Col - 1)), B b.At.Pending, B b.Auto])]) b0 ⟨a, v30, (tm E), rfl, (q.mono (N.trans (P.trans R)))⟩
 refine WL.nil (bkn ?_)
 obtain rfl := si d
 exact n0 ⟨_, d1, rfl, rfl, pt, j0, U, Z, rfl⟩
def f_cursor_After (p0 : G_api_Cursor) (p1 : Int) (p2 : Int) (p3 : Bool) : Option (G_api_Cursor) :=
 (f_cursor_side p2).bind fun a =>
 if (decide (p0.Col < (w64 (a - (imax 1 (imin p1 2)))))) = true then
 some (⟨p0.Row, (w64 (p0.Col + (imax 1 (imin p1 2)))), false⟩ : G_api_Cursor)
 else
 some (⟨p0.Row, (w64 (a - 1)), p3⟩ : G_api_Cursor)
theorem c_cursor_After (s : Own c0 G F) (a : G_api_Cursor) (b : Int) (h : Int) (e : Bool) {r : G_api_Cursor} (H : f_cursor_After a b h e = some r) :
    Calls prog 151 #[.agg #[I a.Row, I a.Col, B a.Pending], I b, I h, B e] c0.w (Post c0 fun c v => Own c G (F) ∧ v = .agg #[I r.Row, I r.Col, B r.Pending]) := by
 unfold f_cursor_After at H
 refine en func151 rfl rfl (sr (me (bx 32 [I a.Row, I a.Col, B a.Pending] s) ?_))
 rintro v5 E N ⟨f, rfl, t, g⟩
 refine me (al 32 [I 0, I 0, B false] t) ?_
 rintro v9 M P ⟨D, rfl, u⟩
 refine wln (sr (va (I b) (va (I (imin b 2)) (va (I (imax 1 (imin b 2))) (va (I h) (bn H fun d p H => cl (c_cursor_side u h p) ?_))))))
 rintro v16 x y ⟨i, rfl⟩
 refine va (I (imax 1 (imin b 2))) (va (I d) (wln (W.seq (sr (va (.pointer (some ⟨f, 0 + 1, none⟩)) (vx (l1 underlying3 ((mm g) 1 _ rfl)) (va (I d) (va (I (imax 1 (imin b 2))) (va (I (w64 (d - (imax 1 (imin b 2))))) (va (B (decide (a.Col < (w64 (d - (imax 1 (imin b 2))))))) (wln (cn H (fun q H => ?_) (fun q H => ?_)))))))))))))
 ·refine sr (va (Q f) (vx (l1 underlying3 ((mm g) 0 _ rfl)) (va (.pointer (some ⟨f, 0 + 1, none⟩)) (vx (l1 underlying3 ((mm g) 1 _ rfl)) (va (I (imax 1 (imin b 2))) (va (I (w64 (a.Col + (imax 1 (imin b 2))))) (va (.agg #[I a.Row, I (w64 (a.Col + (imax 1 (imin b 2)))), B false]) (md (sA 32 [I a.Row, I (w64 (a.Col + (imax 1 (imin b 2)))), B false] 0 i ⟨rfl, rfl, rfl, trivial⟩) ?_))))))))
  rintro l z j
  refine wln (W.ret (thr ?_))
  obtain rfl := si H
  have n := j.sD 1 []
  exact retC (c := l) (vs := [I a.Row, I (w64 (a.Col + (imax 1 (imin b 2)))), B false]) rfl (by kernel_rfl) (by kernel_rfl) (by kernel_rfl) (j.on 0 rfl _ rfl).1 ⟨_, l, rfl, rfl, pt, n, rfl⟩
 refine W.skip (nrm (sr (va (Q f) (vx (l1 underlying3 ((mm g) 0 _ rfl)) (va (I d) (va (I (w64 (d - 1))) (va (B e) (va (.agg #[I a.Row, I (w64 (d - 1)), B e]) (md (sA 32 [I a.Row, I (w64 (d - 1)), B e] 0 i ⟨rfl, rfl, rfl, trivial⟩) ?_)))))))))
 rintro m A k
 refine wln (W.ret ?_)
 obtain rfl := si H
 have o := k.sD 1 []
 exact retC (c := m) (vs := [I a.Row, I (w64 (d - 1)), B e]) rfl (by kernel_rfl) (by kernel_rfl) (by kernel_rfl) (k.on 0 rfl _ rfl).1 ⟨_, m, rfl, rfl, pt, o, rfl⟩
def f_place_Pen_Put (sg : Sto) (p0 : Option Nat) (p1 : Int) (p2 : List Int) : Option (Sto × G_api_Cursor) :=
 (f_place_Pen_ready sg p0).bind fun d =>
 if (!d.2) = true then
 some (d.1, (⟨0, 0, false⟩ : G_api_Cursor))
 else
 ((p0).bind fun i =>
 (d.1.place_Pen[i]?).bind fun j =>
 (f_grid_Grid_Wide d.1 j.G).bind fun k =>
 if (decide ((imax 1 (imin p1 2)) > k)) = true then
 some (1, ([65533] : List Int))
 else
 some ((imax 1 (imin p1 2)), p2)).bind fun c =>
 (f_place_Pen_room d.1 p0 c.1).bind fun f =>
 (p0).bind fun e =>
 (f.place_Pen[e]?).bind fun a =>
 (f_grid_Grid_Row f a.G a.At.Row).bind fun l =>
 (f_mark_Put f l a.At.Col c.1 c.2).bind fun g =>
 (g.1.place_Pen[e]?).bind fun b =>
 (f_grid_Grid_Wide g.1 b.G).bind fun m =>
 (f_cursor_After (⟨a.At.Row, a.At.Col, false⟩ : G_api_Cursor) c.1 m b.Auto).bind fun n =>
 (g.1.set_place_Pen e (⟨b.G, n, b.Auto⟩ : G_place_Pen)).bind fun h =>
 some (h, (⟨a.At.Row, a.At.Col, false⟩ : G_api_Cursor))
theorem c_place_Pen_Put (O0 : Own c0 G F) (R0 : Rel c0 sg G) (hG : Gl [0, 1] c0) (p0 : Option Nat) (o : Int) (p2 : List Int) {r : Sto × G_api_Cursor} (h2 : Pt 2 c0 v1 p0) (h4 : Sl (RI .i32) c0 v3 p2) (H : f_place_Pen_Put sg p0 o p2 = some r) :
    Calls prog 116 #[v1, I o, v3] c0.w (Post c0 fun c v => ∃ G_ : Gm, Own c G_ (F) ∧ Rel c r.1 G_ ∧ v = .agg #[I r.2.Row, I r.2.Col, B r.2.Pending]) := by
 unfold f_place_Pen_Put at H
 refine en func116 rfl rfl (sr (me (al 32 [I 0, I 0, B false] O0) ?_))
 rintro v8 c7 l7 ⟨b5, rfl, O6⟩
 refine wln (W.seq (sr (va (v1) (bn H fun t3 h9 H => cl (c_place_Pen_ready O6 R0.m p0 h2.m h9) ?_))))
 rintro v15 d2 u0 ⟨j0, R, P, rfl⟩
 refine va (B (!t3.2)) (wln (cn H (fun m2 H => ?_) (fun m2 H => ?_)))
 ·refine sr (va (.agg #[I 0, I 0, B false]) (md (sA 32 [I 0, I 0, B false] 0 R ⟨rfl, rfl, rfl, trivial⟩) ?_))
  rintro t0 r4 k0
  refine wln (W.ret (thr ?_))
  obtain rfl := si H
  have u1 := k0.sD 1 []
  exact retC (c := t0) (vs := [I 0, I 0, B false]) rfl (by kernel_rfl) (by kernel_rfl) (by kernel_rfl) (k0.on 0 rfl _ rfl).1 ⟨_, t0, rfl, rfl, pt, j0, u1, P.m, rfl⟩
 refine W.skip (nrm (sr (va (I o) (va (I (imin o 2)) (va (I (imax 1 (imin o 2))) (va (I (imax 1 (imin o 2))) (wln (bn H fun f g d => W.seqJ (Jn d2 fun c l => ∃ v22, Own c j0 ((Eb b5 32 [I 0, I 0, B false]) :: F) ∧ l = [(0, v1), (1, I f.1), (2, v22), (6, Q b5)] ∧ Sl (RI .i32) c v22 f.2) ?_ ?_))))))))
 ·refine sr (va (I (imax 1 (imin o 2))) (va (v1) (bn g fun e4 o2 g => ?_)))
  obtain ⟨s0, rfl, n2⟩ := ((h2.mono (l7.trans u0))).get o2
  refine va (Q s0) (va (Q s0) (bn g fun j1 q2 g => ?_))
  obtain ⟨v27, t2, s2⟩ := Rel.open_place_Pen P q2 n2
  refine vx (le1 0 underlying45 (R.gon t2 0 rfl)) (bn g fun n1 u2 g => cl (c_grid_Grid_Wide R P j1.G s2 u2) ?_)
  rintro v36 e2 s4 ⟨l0, rfl⟩
  refine va (B (decide ((imax 1 (imin o 2)) > n1))) (wln (cn g (fun v2 g => ?_) (fun v2 g => ?_)))
  ·refine W.region (me (sl (RI .i32) 21 [[J 65533]] ([65533] : List Int) l0 ⟨rfl, trivial⟩) ?_)
   rintro v42 m4 t4 ⟨v4, w1, w2⟩
   refine va (I 1) (va (v42) (wln ?_))
   obtain rfl := si g
   obtain ⟨f2, y2, u4, x1, x2⟩ := w1.frz 0 rfl w2
   have y1 := x1.sD 2 [1]
   exact ⟨f2, _, _, y2.symm, pt, us, v42, y1, rfl, x2⟩
  refine W.skip (nrm ?_)
  obtain rfl := si g
  exact ⟨e2, _, _, rfl, pt, us, v3, l0, rfl, h4.m⟩
 rintro e_ w_ ⟨n4, p4, _, rfl, h3, rfl, v22, z1, rfl, z2⟩
 refine sr (va (v1) (va (I f.1) (bn d fun k4 a3 d => cl (c_place_Pen_room z1 P.m (hG.m.le (by decide)) p0 f.1 h2.m a3) ?_)))
 rintro w4 o4 i3 ⟨j, a2, Z, rfl⟩
 refine wln (W.seq (rD [] (Kp j []) a2 ?_))
 intro g2 v0 m0
 have w0 : Kp j [] g2 := (Kp.nil m0)
 refine ta 0 (v1) (bn d fun f4 b3 d => ?_)
 obtain ⟨b, rfl, e0⟩ := ((h2.mono (l7.trans (u0.trans (h3.trans (i3.trans v0)))))).get b3
 refine ta 1 (Q b) (ta 2 (.pointer (some ⟨b, 1, none⟩)) (ta 3 (.pointer (some ⟨b, 1, none⟩)) (bn d fun a c3 d => ?_)))
 obtain ⟨x4, f0, d3⟩ := Rel.open_place_Pen (Z.mono v0) c3 e0
 refine tkx 4 w0 (fun u k h => le1 1 underlying3 (h.gon f0 0 rfl)) (ta 5 (Q b) (ta 6 (Q b) (ta 7 (.pointer (some ⟨b, 1, none⟩)) (ta 8 (.pointer (some ⟨b, 2, none⟩)) (tkx 9 w0 (fun u k h => le1 2 underlying3 (h.gon f0 0 rfl)) (ta 10 (.agg #[I a.At.Row, I a.At.Col, B false]) (o1 11 (gm 11 (al 32 [I 0, I 0, B false] m0) ?_))))))))
 rintro y4 i2 k3 ⟨i, rfl, o0⟩
 have p3 : Kp j [] i2 := (Kp.nil o0)
 refine ⟨.inr p3, o1 12 (gD 12 (sA 32 [I a.At.Row, I a.At.Col, B false] 0 o0 ⟨rfl, rfl, rfl, trivial⟩) ?_)⟩
 rintro j2 l3 q0
 have q3 : Kp j [] j2 := (Kp.nil q0)
 refine ⟨.inr q3, dn (nrm (W.seq (rD [11] (Kp j [(Eb i 32 [I a.At.Row, I a.At.Col, B false])]) q0 ?_)))⟩
 intro k2 m3 U
 have g0 : Kp j [(Eb i 32 [I a.At.Row, I a.At.Col, B false])] k2 := (Kp.cons (U.on 0 rfl) (Kp.nil U))
 refine ta 0 (Q b) (ta 1 (Q b) (ta 2 (Q b) (tkx 3 g0 (fun u k h => le1 0 underlying45 (h.gon f0 0 rfl)) (ta 4 (Q i) (tkx 5 g0 (fun u k h => le1 0 underlying3 (h.on 0 rfl)) (ta 7 (.pointer (some ⟨i, 1, none⟩)) (tkx 8 g0 (fun u k h => le1 1 underlying3 (h.on 0 rfl)) (ta 9 (I f.1) (ta 10 (v22) (bn d fun q1 e3 d => o1 6 (gc 6 (c_grid_Grid_Row U Z.m a.G a.At.Row d3.m e3) ?_)))))))))))
 rintro z4 l2 n3 ⟨_, X, rfl, f3⟩
 have s3 : Kp j [(Eb i 32 [I a.At.Row, I a.At.Col, B false])] l2 := (Kp.cons (X.on 0 rfl) (Kp.nil X))
 refine ⟨.inr s3, bn d fun l4 g3 d => o1 11 (gc 11 (c_mark_Put X Z.m (hG.m.le (by decide)) q1 a.At.Col f.1 f.2 f3 z2.m g3) ?_)⟩
 rintro a5 z3 i1 ⟨_, N, b2, a0, rfl, q4⟩
 refine ⟨.inl rfl, dn (nrm (W.seq (rD [15] (Kp N [(Eb i 32 [I a.At.Row, I a.At.Col, B false])]) b2 ?_)))⟩
 intro b1 y p
 have E : Kp N [(Eb i 32 [I a.At.Row, I a.At.Col, B false])] b1 := (Kp.cons (p.on 0 rfl) (Kp.nil p))
 refine ta 0 (Q b) (tkx 1 E (fun u k h => leN 32 0 [I a.At.Row, I a.At.Col, B false] (h.on 0 rfl)) (ta 2 (I f.1) (ta 3 (Q b) (ta 4 (Q b) (ta 5 (Q b) (bn d fun n e1 d => ?_))))))
 obtain ⟨M, x, d0⟩ := Rel.open_place_Pen (a0.mono y) e1 (tm e0)
 refine tkx 6 E (fun u k h => le1 0 underlying45 (h.gon x 0 rfl)) (ta 8 (Q b) (ta 9 (Q b) (ta 10 (.pointer (some ⟨b, 4, none⟩)) (tkx 11 E (fun u k h => le1 4 underlying4 (h.gon x 0 rfl)) (bn d fun s1 f1 d => o1 7 (gc 7 (c_grid_Grid_Wide p a0.m n.G d0 f1) ?_))))))
 rintro i4 c1 z ⟨q, rfl⟩
 have k1 : Kp N [(Eb i 32 [I a.At.Row, I a.At.Col, B false])] c1 := (Kp.cons (q.on 0 rfl) (Kp.nil q))
 refine ⟨.inr k1, bn d fun e g1 d => o1 12 (gc 12 (c_cursor_After q (⟨a.At.Row, a.At.Col, false⟩ : G_api_Cursor) f.1 s1 n.Auto g1) ?_)⟩
 rintro j4 d1 A ⟨s, rfl⟩
 have m1 : Kp N [(Eb i 32 [I a.At.Row, I a.At.Col, B false])] d1 := (Kp.cons (s.on 0 rfl) (Kp.nil s))
 refine ⟨.inr m1, ta 13 (Q b) (ta 14 (.pointer (some ⟨b, 1, none⟩)) (o1 15 (gD 15 (gB 32 1 [I e.Row, I e.Col, B e.Pending] [M, I e.Row, I e.Col, B e.Pending, B n.Auto] 0 s x ⟨rfl, rfl, rfl, trivial⟩) ?_)))⟩
 rintro a4 D y0
 refine bn d fun t1 h1 d => ?_
 obtain ⟨x0, S, a1, b4, y3⟩ := Rel.put_place_Pen y0 (a0.mono (y.trans (z.trans (A.trans D)))) (E' := [(Eb b 47 [M, I e.Row, I e.Col, B e.Pending, B n.Auto])]) h1 ⟨b, M, ((k3.trans (l3.trans (m3.trans (n3.trans (i1.trans (y.trans (z.trans (A.trans D)))))))).t _ _ _ e0), rfl, (d0.mono (z.trans (A.trans D)))⟩
 refine ⟨.inl rfl, dn (nrm (sr (vx (leN 32 0 [I a.At.Row, I a.At.Col, B false] (S.on 0 rfl)) (md (sA 32 [I a.At.Row, I a.At.Col, B false] 1 S ⟨rfl, rfl, rfl, trivial⟩) ?_))))⟩
 rintro b0 g4 T
 refine wln (W.ret ?_)
 obtain rfl := si d
 have z0 := T.sD 2 []
 exact retC (c := b0) (vs := [I a.At.Row, I a.At.Col, B false]) rfl (by kernel_rfl) (by kernel_rfl) (by kernel_rfl) (T.on 1 rfl _ rfl).1 ⟨_, b0, rfl, rfl, pt, x0, z0, a1.m, rfl⟩
def f_linotyperef31_within (p0 : Int) (p1 : Int) : Option (Int) :=
 if (decide (p0 < 0)) = true then
 some 0
 else
 if (decide (p0 ≥ p1)) = true then
 some (w64 (p1 - 1))
 else
 some p0
theorem c_linotyperef31_within (d : Own c0 G F) (a : Int) (b : Int) {r : Int} (H : f_linotyperef31_within a b = some r) :
    Calls prog 121 #[I a, I b] c0.w (Post c0 fun c v => Own c G (F) ∧ v = I r) := by
 unfold f_linotyperef31_within at H
 refine en func121 rfl rfl (sr (va (I 0) (wln (W.seq (sr (va (I a) (va (B (decide (a < 0))) (wln (cn H (fun e H => ?_) (fun e H => ?_))))))))))
 ·refine sr (va (I 0) (wln (W.ret (thr ?_))))
  obtain rfl := si H
  exact r1 ⟨_, c0, rfl, rfl, pt, d, rfl⟩
 refine W.skip (nrm (W.seq (sr (va (I a) (va (I b) (va (B (decide (a ≥ b))) (wln (cn H (fun f H => ?_) (fun f H => ?_)))))))))
 ·refine sr (va (I b) (va (I (w64 (b - 1))) (va (I (w64 (b - 1))) (wln (W.ret (thr ?_))))))
  obtain rfl := si H
  exact r1 ⟨_, c0, rfl, rfl, pt, d, rfl⟩
 refine W.skip (nrm (sr (va (I a) (va (I a) (wln (W.ret ?_))))))
 obtain rfl := si H
 exact r1 ⟨_, c0, rfl, rfl, pt, d, rfl⟩
def f_linotyperef31_Side (p0 : Int) : Option (Int) :=
 if (decide (p0 < 1)) = true then
 some 1
 else
 if (decide (p0 > 1024)) = true then
 some 1024
 else
 some p0
theorem c_linotyperef31_Side (b : Own c0 G F) (a : Int) {r : Int} (H : f_linotyperef31_Side a = some r) :
    Calls prog 90 #[I a] c0.w (Post c0 fun c v => Own c G (F) ∧ v = I r) := by
 unfold f_linotyperef31_Side at H
 refine en func90 rfl rfl (sr (va (I 0) (wln (W.seq (sr (va (I a) (va (B (decide (a < 1))) (wln (cn H (fun d H => ?_) (fun d H => ?_))))))))))
 ·refine sr (va (I 1) (wln (W.ret (thr ?_))))
  obtain rfl := si H
  exact r1 ⟨_, c0, rfl, rfl, pt, b, rfl⟩
 refine W.skip (nrm (W.seq (sr (va (I a) (va (B (decide (a > 1024))) (wln (cn H (fun e H => ?_) (fun e H => ?_))))))))
 ·refine sr (va (I 1024) (wln (W.ret (thr ?_))))
  obtain rfl := si H
  exact r1 ⟨_, c0, rfl, rfl, pt, b, rfl⟩
 refine W.skip (nrm (sr (va (I a) (va (I a) (wln (W.ret ?_))))))
 obtain rfl := si H
 exact r1 ⟨_, c0, rfl, rfl, pt, b, rfl⟩
def f_linotyperef31_Hold (p0 : G_api_Cursor) (p1 : Int) (p2 : Int) : Option (G_api_Cursor) :=
 (f_linotyperef31_Side p2).bind fun b =>
 (f_linotyperef31_within p0.Row b).bind fun c =>
 (f_linotyperef31_Side p1).bind fun d =>
 (f_linotyperef31_within p0.Col d).bind fun e =>
 (andE p0.Pending ((f_linotyperef31_Side p1).bind fun f =>
 some (p0.Col == (w64 (f - 1))))).bind fun a =>
 some (⟨c, e, a⟩ : G_api_Cursor)
theorem c_linotyperef31_Hold (O0 : Own c0 G F) (a : G_api_Cursor) (h : Int) (o : Int) {r : G_api_Cursor} (H : f_linotyperef31_Hold a h o = some r) :
    Calls prog 86 #[.agg #[I a.Row, I a.Col, B a.Pending], I h, I o] c0.w (Post c0 fun c v => Own c G (F) ∧ v = .agg #[I r.Row, I r.Col, B r.Pending]) := by
 unfold f_linotyperef31_Hold at H
 refine en func86 rfl rfl (sr (me (bx 32 [I a.Row, I a.Col, B a.Pending] O0) ?_))
 rintro v5 c4 l4 ⟨m, rfl, O2, n⟩
 refine me (al 32 [I 0, I 0, B false] O2) ?_
 rintro v9 c8 l8 ⟨T, rfl, O7⟩
 refine wln (W.seq (bn H fun y e0 H => bn H fun b f0 H => bn H fun z g0 H => bn H fun d h0 H => bn H fun k x H => W.join (Jn c8 fun c l => Own c G ((Eb T 32 [I b, I d, B k]) :: F) ∧ l = [(6, Q T)]) ?_ ?_))
 ·clear H
  refine rD [] (Kp G0 []) O7 ?_
  intro U y0 A
  have i1 : Kp G0 [] U := Kp.nil0
  refine ta 0 (Q m) (tx 1 (fun j g => l1 underlying3 ((mm n) 0 _ rfl)) (ta 2 (I o) (ta 5 (.pointer (some ⟨m, 0 + 1, none⟩)) (tx 6 (fun j g => l1 underlying3 ((mm n) 1 _ rfl)) (ta 7 (I h) (ta 10 (.pointer (some ⟨m, 0 + 2, none⟩)) (tx 11 (fun j g => l1 underlying4 ((mm n) 2 _ rfl)) (o1 3 (gc 3 (c_linotyperef31_Side A o e0) ?_)))))))))
  rintro v23 X z0 ⟨D, rfl⟩
  have j0 : Kp G0 [] X := Kp.nil0
  refine ⟨.inr j0, o1 4 (gc 4 (c_linotyperef31_within D a.Row y f0) ?_)⟩
  rintro v30 Z a1 ⟨E, rfl⟩
  have k0 : Kp G0 [] Z := Kp.nil0
  refine ⟨.inr k0, o1 8 (gc 8 (c_linotyperef31_Side E h g0) ?_)⟩
  rintro v37 a0 c1 ⟨M, rfl⟩
  have l0 : Kp G0 [] a0 := Kp.nil0
  refine ⟨.inr l0, o1 9 (gc 9 (c_linotyperef31_within M a.Col z h0) ?_)⟩
  rintro v44 b0 d1 ⟨p, rfl⟩
  have m0 : Kp G0 [] b0 := Kp.nil0
  refine ⟨.inr m0, ?_⟩
  rcases bo (a.Pending) with f | f
  ·have i := anT f x
   refine bn i fun e i0 i => AC.takeb 12 f rfl (by kernel_rfl) (by kernel_rfl) (fun j g => (by kernel_rfl)) (ta 13 (.pointer (some ⟨m, 0 + 1, none⟩)) (tx 14 (fun j g => l1 underlying3 ((mm n) 1 _ rfl)) (ta 15 (I h) (o1 16 (gc 16 (c_linotyperef31_Side p h i0) ?_)))))
   rintro v54 d0 e1 ⟨N, rfl⟩
   have o0 : Kp G0 [] d0 := Kp.nil0
   refine ⟨.inr o0, ta 17 (I (w64 (e - 1))) (ta 18 (B (a.Col == (w64 (e - 1)))) ?_)⟩
   obtain rfl := si i
   refine ta 19 (B (a.Col == (w64 (e - 1)))) (ta 20 (.agg #[I b, I d, B (a.Col == (w64 (e - 1)))]) (o1 21 (gD 21 (sA 32 [I b, I d, B (a.Col == (w64 (e - 1)))] 0 N ⟨rfl, rfl, rfl, trivial⟩) ?_)))
   rintro s f1 P
   have q0 : Kp G0 [] s := Kp.nil0
   exact ⟨.inr q0, dn (nrm ⟨s, _, _, rfl, pt, us, P, rfl⟩)⟩
  obtain rfl := anF f x
  refine AC.takeb 12 f rfl (by kernel_rfl) (by kernel_rfl) (fun j g => (by kernel_rfl)) (tp 13 (tp 14 (tp 15 (tp 16 (tp 17 (tp 18 (ta 19 (B false) (ta 20 (.agg #[I b, I d, B false]) (o1 21 (gD 21 (sA 32 [I b, I d, B false] 0 p ⟨rfl, rfl, rfl, trivial⟩) ?_))))))))))
  rintro t g1 R
  have s0 : Kp G0 [] t := Kp.nil0
  exact ⟨.inr s0, dn (nrm ⟨t, _, _, rfl, pt, us, R, rfl⟩)⟩
 rintro e_ w_ ⟨u, x0, _, rfl, h1, rfl, q, rfl⟩
 refine nrm (W.ret ?_)
 obtain rfl := si H
 have S := q.sD 1 []
 exact retC (c := u) (vs := [I b, I d, B k]) rfl (by kernel_rfl) (by kernel_rfl) (by kernel_rfl) (q.on 0 rfl _ rfl).1 ⟨_, u, rfl, rfl, pt, S, rfl⟩
def f_linotyperef34_Pen_Wide (p0 : G_linotyperef34_Pen) : Option (Int) :=
 (idx p0.L 0).bind fun a =>
 some (a.Cells.length : Int)
theorem c_linotyperef34_Pen_Wide (l : Own c0 G F) (a : G_linotyperef34_Pen) {r : Int} (g : Sl R_api_Line c0 v1 a.L) (H : f_linotyperef34_Pen_Wide a = some r) :
    Calls prog 53 #[.agg #[v1, I a.At.Row, I a.At.Col, B a.At.Pending, B a.Auto]] c0.w (Post c0 fun c v => Own c G (F) ∧ v = I r) := by
 unfold f_linotyperef34_Pen_Wide at H
 refine en func53 rfl rfl (sr ?_)
 obtain ⟨d, e, f, rfl⟩ := (g).form
 refine me (bx 34 [.slice d e f, I a.At.Row, I a.At.Col, B a.At.Pending, B a.Auto] l) ?_
 rintro v10 p q ⟨o, rfl, n, t⟩
 refine va (I 0) (wln (sr (va (Q o) (vx (l1 underlying30 (t 0 _ rfl)) (bn H fun k b H => ?_)))))
 obtain ⟨s, h, j⟩ := Sl.at (g.mono q) (idx_get b)
 obtain ⟨v15, rfl, i⟩ := h
 refine vx (ix underlying30 g.m b) (va (.pointer (some ⟨sb (.slice d e f), so (.slice d e f) + (0 : Int).toNat * 2, none⟩)) (vx (l1 underlying72 (j 0 _ rfl)) (vx (ln 3 underlying72 i) (va (I (k.Cells.length : Int)) (wln (W.ret ?_))))))
 obtain rfl := si H
 exact r1 ⟨_, p, rfl, rfl, pt, n, rfl⟩
def f_linotyperef34_Pen_Hold (p0 : G_linotyperef34_Pen) : Option (G_linotyperef34_Pen) :=
 (f_linotyperef34_Pen_Wide p0).bind fun a =>
 (f_linotyperef31_Hold p0.At a (p0.L.length : Int)).bind fun b =>
 some (⟨p0.L, b, p0.Auto⟩ : G_linotyperef34_Pen)
theorem c_linotyperef34_Pen_Hold (S : Own c0 G F) (a : G_linotyperef34_Pen) {r : G_linotyperef34_Pen} (h : Sl R_api_Line c0 v1 a.L) (H : f_linotyperef34_Pen_Hold a = some r) :
    Calls prog 52 #[.agg #[v1, I a.At.Row, I a.At.Col, B a.At.Pending, B a.Auto]] c0.w (Post c0 fun c v => ∃ R, Own c G (F) ∧ v = .agg #[R, I r.At.Row, I r.At.Col, B r.At.Pending, B r.Auto] ∧ Sl R_api_Line c R r.L) := by
 unfold f_linotyperef34_Pen_Hold at H
 refine en func52 rfl rfl (sr ?_)
 obtain ⟨d, e, f, rfl⟩ := (h).form
 refine me (al 34 [.slice d e f, I a.At.Row, I a.At.Col, B a.At.Pending, B a.Auto] S) ?_
 rintro v9 c8 l8 ⟨g, rfl, T⟩
 refine me (al 34 [Y, I 0, I 0, B false, B false] T) ?_
 rintro v13 X a0 ⟨U, rfl, x⟩
 refine wln (W.seq (rD [9] (Kp G0 [(Eb g 34 [.slice d e f, I a.At.Row, I a.At.Col, B a.At.Pending, B a.Auto])]) x ?_))
 intro z b0 l
 have k : Kp G0 [(Eb g 34 [.slice d e f, I a.At.Row, I a.At.Col, B a.At.Pending, B a.Auto])] z := (Kp.cons (l.on 1 rfl) Kp.nil0)
 refine ta 0 (.pointer (some ⟨g, 1, none⟩)) (tkx 1 k (fun t j i => leN 32 1 [I a.At.Row, I a.At.Col, B a.At.Pending] (i.on 0 rfl)) (tkx 2 k (fun t j i => leN 34 0 [.slice d e f, I a.At.Row, I a.At.Col, B a.At.Pending, B a.Auto] (i.on 0 rfl)) (ta 4 (Q g) (tkx 5 k (fun t j i => le1 0 underlying30 (i.on 0 rfl)) (tx 6 (fun t j => ln 3 underlying30 h.m) (bn H fun u E H => o1 3 (gc 3 (c_linotyperef34_Pen_Wide l a h.m E) ?_)))))))
 rintro v23 A d0 ⟨n, rfl⟩
 have N : Kp G0 [(Eb g 34 [.slice d e f, I a.At.Row, I a.At.Col, B a.At.Pending, B a.Auto])] A := (Kp.cons (n.on 1 rfl) Kp.nil0)
 refine ⟨.inr N, bn H fun b M H => o1 7 (gc 7 (c_linotyperef31_Hold n a.At u (a.L.length : Int) M) ?_)⟩
 rintro v31 D e0 ⟨o, rfl⟩
 have P : Kp G0 [(Eb g 34 [.slice d e f, I a.At.Row, I a.At.Col, B a.At.Pending, B a.Auto])] D := (Kp.cons (o.on 1 rfl) Kp.nil0)
 refine ⟨.inr P, ta 8 (.pointer (some ⟨g, 1, none⟩)) (o1 9 (gD 9 (sB 32 1 [I b.Row, I b.Col, B b.Pending] [.slice d e f, I b.Row, I b.Col, B b.Pending, B a.Auto] 1 o ⟨rfl, rfl, rfl, trivial⟩) ?_))⟩
 rintro Z f0 p
 refine ⟨.inl rfl, dn (nrm (sr (vx (leN 34 0 [.slice d e f, I b.Row, I b.Col, B b.Pending, B a.Auto] (p.on 1 rfl)) (md (sA 34 [.slice d e f, I b.Row, I b.Col, B b.Pending, B a.Auto] 0 p ⟨h.m.one, rfl, rfl, rfl, rfl, trivial⟩) ?_))))⟩
 rintro s g0 q
 refine wln (W.ret ?_)
 obtain rfl := si H
 have y := q.sD 2 []
 exact retC (c := s) (vs := [.slice d e f, I b.Row, I b.Col, B b.Pending, B a.Auto]) rfl (by kernel_rfl) (by kernel_rfl) (by kernel_rfl) (q.on 0 rfl _ rfl).1 ⟨_, s, rfl, rfl, pt, (.slice d e f), y, rfl, h.m⟩
def f_linotyperef34_Pen_NewLine (p0 : G_linotyperef34_Pen) : Option (G_linotyperef34_Pen) :=
 (f_linotyperef34_Pen_Hold p0).bind fun a =>
 if (decide ((w64 (a.At.Row + 1)) < (a.L.length : Int))) = true then
 some (⟨a.L, (⟨(w64 (a.At.Row + 1)), a.At.Col, false⟩ : G_api_Cursor), a.Auto⟩ : G_linotyperef34_Pen)
 else
 (f_linotyperef33_Move a.L 0 (a.L.length : Int) 1 true).bind fun b =>
 some (⟨b, (⟨a.At.Row, a.At.Col, false⟩ : G_api_Cursor), a.Auto⟩ : G_linotyperef34_Pen)
theorem c_linotyperef34_Pen_NewLine (Z : Own c0 G F) (b : G_linotyperef34_Pen) {r : G_linotyperef34_Pen} (S : Sl R_api_Line c0 v1 b.L) (H : f_linotyperef34_Pen_NewLine b = some r) :
    Calls prog 59 #[.agg #[v1, I b.At.Row, I b.At.Col, B b.At.Pending, B b.Auto]] c0.w (Post c0 fun c v => ∃ X, Own c G (F) ∧ v = .agg #[X, I r.At.Row, I r.At.Col, B r.At.Pending, B r.Auto] ∧ Sl R_api_Line c X r.L) := by
 unfold f_linotyperef34_Pen_NewLine at H
 refine en func59 rfl rfl (sr ?_)
 obtain ⟨M, N, P, rfl⟩ := (S).form
 refine me (al 34 [.slice M N P, I b.At.Row, I b.At.Col, B b.At.Pending, B b.Auto] Z) ?_
 rintro v9 c8 l8 ⟨d, rfl, O7⟩
 refine me (al 34 [Y, I 0, I 0, B false, B false] O7) ?_
 rintro v13 e0 l0 ⟨d0, rfl, o⟩
 refine wln (sr (vx (leN 34 0 [.slice M N P, I b.At.Row, I b.At.Col, B b.At.Pending, B b.Auto] (o.on 1 rfl)) (bn H fun a R H => cl (c_linotyperef34_Pen_Hold o b S.m R) ?_)))
 rintro v22 f0 m0 ⟨v15, y, rfl, i⟩
 obtain ⟨f, g, h, rfl⟩ := (i).form
 refine md (sA 34 [.slice f g h, I a.At.Row, I a.At.Col, B a.At.Pending, B a.Auto] 1 y ⟨i.one, rfl, rfl, rfl, rfl, trivial⟩) ?_
 rintro g0 o0 z
 refine wln (sr (va (.pointer (some ⟨d, 1, none⟩)) (va (.pointer (some ⟨d, 3, none⟩)) (md (sC 4 3 (B false) [.slice f g h, I a.At.Row, I a.At.Col, B false, B a.Auto] 1 z ⟨rfl, trivial⟩) ?_))))
 rintro h0 q0 e
 refine wln (W.seq (sr (va (.pointer (some ⟨d, 1, none⟩)) (va (.pointer (some ⟨d, 1, none⟩)) (vx (le1 1 underlying3 (e.on 1 rfl)) (va (I (w64 (a.At.Row + 1))) (va (Q d) (vx (le1 0 underlying30 (e.on 1 rfl)) (vx (ln 3 underlying30 i.m) (va (B (decide ((w64 (a.At.Row + 1)) < (a.L.length : Int)))) (wln (cn H (fun T H => ?_) (fun T H => ?_)))))))))))))
 ·refine sr (va (.pointer (some ⟨d, 1, none⟩)) (va (.pointer (some ⟨d, 1, none⟩)) (vx (le1 1 underlying3 (e.on 1 rfl)) (va (I (w64 (a.At.Row + 1))) (va (.pointer (some ⟨d, 1, none⟩)) (va (.pointer (some ⟨d, 1, none⟩)) (md (sC 3 1 (I (w64 (a.At.Row + 1))) [.slice f g h, I (w64 (a.At.Row + 1)), I a.At.Col, B false, B a.Auto] 1 e ⟨rfl, trivial⟩) ?_)))))))
  rintro i0 s0 p
  refine wln (sr (vx (leN 34 0 [.slice f g h, I (w64 (a.At.Row + 1)), I a.At.Col, B false, B a.Auto] (p.on 1 rfl)) (md (sA 34 [.slice f g h, I (w64 (a.At.Row + 1)), I a.At.Col, B false, B a.Auto] 0 p ⟨i.m.one, rfl, rfl, rfl, rfl, trivial⟩) ?_)))
  rintro u t0 q
  refine wln (W.ret (thr ?_))
  obtain rfl := si H
  have A := q.sD 2 []
  exact retC (c := u) (vs := [.slice f g h, I (w64 (a.At.Row + 1)), I a.At.Col, B false, B a.Auto]) rfl (by kernel_rfl) (by kernel_rfl) (by kernel_rfl) (q.on 0 rfl _ rfl).1 ⟨_, u, rfl, rfl, pt, (.slice f g h), A, rfl, i.m⟩
 refine W.skip (nrm (sr (va (Q d) (vx (le1 0 underlying30 (e.on 1 rfl)) (va (Q d) (vx (le1 0 underlying30 (e.on 1 rfl)) (vx (ln 3 underlying30 i.m) (bn H fun b0 U H => cl (c_linotyperef33_Move e a.L 0 (a.L.length : Int) 1 true i.m U) ?_))))))))
 rintro v37 j0 u0 ⟨_, D, rfl, n⟩
 refine va (Q d) ?_
 obtain ⟨j, k, l, rfl⟩ := (n).form
 refine md (sC 30 0 (.slice j k l) [.slice j k l, I a.At.Row, I a.At.Col, B false, B a.Auto] 1 D ⟨n.one, trivial⟩) ?_
 rintro k0 v0 s
 refine wln (sr (vx (leN 34 0 [.slice j k l, I a.At.Row, I a.At.Col, B false, B a.Auto] (s.on 1 rfl)) (md (sA 34 [.slice j k l, I a.At.Row, I a.At.Col, B false, B a.Auto] 0 s ⟨n.m.one, rfl, rfl, rfl, rfl, trivial⟩) ?_)))
 rintro x w0 t
 refine wln (W.ret ?_)
 obtain rfl := si H
 have E := t.sD 2 []
 exact retC (c := x) (vs := [.slice j k l, I a.At.Row, I a.At.Col, B false, B a.Auto]) rfl (by kernel_rfl) (by kernel_rfl) (by kernel_rfl) (t.on 0 rfl _ rfl).1 ⟨_, x, rfl, rfl, pt, (.slice j k l), E, rfl, n.m⟩
def f_linotyperef34_Pen_With (p0 : G_linotyperef34_Pen) (p1 : Int) (p2 : G_api_Line) : Option (G_linotyperef34_Pen) :=
 (app ([] : List G_api_Line) p0.L).bind fun a =>
 (idx a p1).bind fun c =>
 (sets a p1 p2).bind fun b =>
 some (⟨b, p0.At, p0.Auto⟩ : G_linotyperef34_Pen)
theorem c_linotyperef34_Pen_With (O0 : Own c0 G F) (a : G_linotyperef34_Pen) (x : Int) (f : G_api_Line) {r : G_linotyperef34_Pen} (M : Sl R_api_Line c0 v1 a.L) (t : Sl R_api_Cell c0 v3 f.Cells) (H : f_linotyperef34_Pen_With a x f = some r) :
    Calls prog 87 #[.agg #[v1, I a.At.Row, I a.At.Col, B a.At.Pending, B a.Auto], I x, .agg #[v3, B f.Wrap]] c0.w (Post c0 fun c v => ∃ y y2, Own c G (es true R_api_Line y 78 y2 r.L :: F) ∧ v = .agg #[y, I r.At.Row, I r.At.Col, B r.At.Pending, B r.Auto] ∧ OA R_api_Line c y y2 r.L) := by
 unfold f_linotyperef34_Pen_With at H
 refine en func87 rfl rfl (sr ?_)
 obtain ⟨a5, a6, a7, rfl⟩ := (M).form
 refine me (al 34 [.slice a5 a6 a7, I a.At.Row, I a.At.Col, B a.At.Pending, B a.Auto] O0) ?_
 rintro v11 m0 X ⟨s, rfl, O9⟩
 obtain ⟨g, h, i, rfl⟩ := ((t.mono X)).form
 refine me (bx 78 [.slice g h i, B f.Wrap] O9) ?_
 rintro v19 o0 w0 ⟨k0, rfl, z, Z⟩
 refine me (al 34 [Y, I 0, I 0, B false, B false] z) ?_
 rintro v23 q0 x0 ⟨l0, rfl, A⟩
 refine wln (sr (me (sl R_api_Line 78 [] ([] : List G_api_Line) A trivial) ?_))
 rintro v28 s0 y0 ⟨d1, k, N⟩
 refine va (Q s) (vx (le1 0 underlying30 (k.on 2 rfl)) (bn H fun f1 P H => me (ap R_api_Line (.agg #[Y, B false]) 32 30 0 k N M.m P underlying30) ?_))
 rintro v34 t0 z0 ⟨e1, D, j⟩
 refine va (Q s) ?_
 obtain ⟨b, d, e, rfl⟩ := (j).form
 refine md (sC 30 0 (.slice b d e) [.slice b d e, I a.At.Row, I a.At.Col, B a.At.Pending, B a.Auto] 2 D ⟨(j).one, trivial⟩) ?_
 rintro u0 a1 l
 refine wln (sr (va (Q s) (vx (le1 0 underlying30 (l.on 2 rfl)) (va (I x) (vx (lN 78 (mm Z)) (bn H fun j0 S H => vx (ixO underlying30 j.m S) (bn H fun i0 U H => md (Own.stW (R := R_api_Line) (T := 78) (us := [.slice g h i, B f.Wrap]) (x' := f) (u := .agg #[.slice g h i, B f.Wrap]) 0 l (by kernel_rfl) rfl j.m U rfl (by kernel_rfl) ⟨t.m.one, rfl, trivial⟩ rfl ⟨(.slice g h i), rfl, t.m⟩) ?_)))))))
 rintro v0 b1 ⟨a0, n, q⟩
 refine wln (sr (vx (leN 34 0 [.slice b d e, I a.At.Row, I a.At.Col, B a.At.Pending, B a.Auto] (n.on 2 rfl)) (md (sA 34 [.slice b d e, I a.At.Row, I a.At.Col, B a.At.Pending, B a.Auto] 1 n ⟨(q).one, rfl, rfl, rfl, rfl, trivial⟩) ?_)))
 rintro p c1 o
 refine wln (W.ret ?_)
 obtain rfl := si H
 have E := o.sD 3 [0]
 exact retC (c := p) (vs := [.slice b d e, I a.At.Row, I a.At.Col, B a.At.Pending, B a.Auto]) rfl (by kernel_rfl) (by kernel_rfl) (by kernel_rfl) (o.on 1 rfl _ rfl).1 ⟨_, p, rfl, rfl, pt, (.slice b d e), a0, E, rfl, q.m⟩
def f_linotyperef34_Pen_GoOn (p0 : G_linotyperef34_Pen) : Option (G_linotyperef34_Pen) :=
 (idx p0.L p0.At.Row).bind fun b =>
 (f_linotyperef34_Pen_With p0 p0.At.Row (⟨b.Cells, true⟩ : G_api_Line)).bind fun a =>
 (f_linotyperef34_Pen_NewLine (⟨a.L, (⟨a.At.Row, 0, false⟩ : G_api_Cursor), a.Auto⟩ : G_linotyperef34_Pen)).bind fun c =>
 some c
theorem c_linotyperef34_Pen_GoOn (O0 : Own c0 G F) (a : G_linotyperef34_Pen) {r : G_linotyperef34_Pen} (y : Sl R_api_Line c0 v1 a.L) (H : f_linotyperef34_Pen_GoOn a = some r) :
    Calls prog 54 #[.agg #[v1, I a.At.Row, I a.At.Col, B a.At.Pending, B a.Auto]] c0.w (Post c0 fun c v => ∃ y1, Own c G (F) ∧ v = .agg #[y1, I r.At.Row, I r.At.Col, B r.At.Pending, B r.Auto] ∧ Sl R_api_Line c y1 r.L) := by
 unfold f_linotyperef34_Pen_GoOn at H
 refine en func54 rfl rfl (sr ?_)
 obtain ⟨g, h, i, rfl⟩ := (y).form
 refine me (al 34 [.slice g h i, I a.At.Row, I a.At.Col, B a.At.Pending, B a.Auto] O0) ?_
 rintro v9 c8 l8 ⟨e, rfl, O7⟩
 refine me (al 34 [Y, I 0, I 0, B false, B false] O7) ?_
 rintro v13 a1 l0 ⟨z0, rfl, T⟩
 refine wln (W.seq (rD [14] (Kp G0 [(Eb e 34 [.slice g h i, I a.At.Row, I a.At.Col, B a.At.Pending, B a.Auto])]) T ?_))
 intro e0 m0 z
 have k : Kp G0 [(Eb e 34 [.slice g h i, I a.At.Row, I a.At.Col, B a.At.Pending, B a.Auto])] e0 := (Kp.cons (z.on 1 rfl) Kp.nil0)
 refine tkx 0 k (fun t f j => leN 34 0 [.slice g h i, I a.At.Row, I a.At.Col, B a.At.Pending, B a.Auto] (j.on 0 rfl)) (ta 1 (.pointer (some ⟨e, 1, none⟩)) (ta 2 (.pointer (some ⟨e, 1, none⟩)) (tkx 3 k (fun t f j => le1 1 underlying3 (j.on 0 rfl)) (ta 4 (Q e) (tkx 5 k (fun t f j => le1 0 underlying30 (j.on 0 rfl)) (ta 6 (.pointer (some ⟨e, 1, none⟩)) (ta 7 (.pointer (some ⟨e, 1, none⟩)) (tkx 8 k (fun t f j => le1 1 underlying3 (j.on 0 rfl)) (bn H fun S P H => ?_)))))))))
 obtain ⟨y0, g0, s0⟩ := Sl.at (y.mono (l8.trans (l0.trans m0))) (idx_get P)
 obtain ⟨v21, rfl, R⟩ := g0
 refine tx 9 (fun t f => ix underlying30 y.m P) (ta 10 (.pointer (some ⟨sb (.slice g h i), so (.slice g h i) + a.At.Row.toNat * 2, none⟩)) (tx 11 (fun t f => l1 underlying72 ((mm s0) 0 _ rfl)) ?_))
 obtain ⟨a0, b0, d0, rfl⟩ := (R).form
 refine ta 12 (.agg #[.slice a0 b0 d0, B true]) (bn H fun b h0 H => o1 13 (gc 13 (c_linotyperef34_Pen_With z a a.At.Row (⟨S.Cells, true⟩ : G_api_Line) y.m R h0) ?_))
 rintro v35 f0 f1 ⟨v27, j1, A, rfl, u⟩
 have t0 : Kp G0 [(Eb e 34 [.slice g h i, I a.At.Row, I a.At.Col, B a.At.Pending, B a.Auto])] f0 := (Kp.cons (A.on 2 rfl) Kp.nil0)
 refine ⟨.inr t0, ?_⟩
 obtain ⟨l, n, o, rfl⟩ := (u).form
 refine o1 14 (gD 14 (sA 34 [.slice l n o, I b.At.Row, I b.At.Col, B b.At.Pending, B b.Auto] 2 A ⟨(u).one, rfl, rfl, rfl, rfl, trivial⟩) ?_)
 rintro b1 o0 D
 refine ⟨.inl rfl, dn (nrm (sr (va (.pointer (some ⟨e, 1, none⟩)) (va (.pointer (some ⟨e, 1, none⟩)) (vx (le1 1 underlying3 (D.on 2 rfl)) (va (.agg #[I b.At.Row, I 0, B false]) (va (.pointer (some ⟨e, 1, none⟩)) (md (sB 32 1 [I b.At.Row, I 0, B false] [.slice l n o, I b.At.Row, I 0, B false, B b.Auto] 2 D ⟨rfl, rfl, rfl, trivial⟩) ?_))))))))⟩
 rintro c1 q0 E
 refine wln (sr (vx (leN 34 0 [.slice l n o, I b.At.Row, I 0, B false, B b.Auto] (E.on 2 rfl)) ?_))
 obtain ⟨d1, j0, g1, U, i0⟩ := E.frz 0 rfl (u.mono (o0.trans q0))
 refine WL.gh j0 (bn H fun d k0 H => cl (c_linotyperef34_Pen_NewLine U (⟨b.L, (⟨b.At.Row, 0, false⟩ : G_api_Cursor), b.Auto⟩ : G_linotyperef34_Pen) i0 k0) ?_)
 rintro v56 e1 h1 ⟨v49, X, rfl, x⟩
 obtain ⟨p, q, s, rfl⟩ := (x).form
 refine md (sA 34 [.slice p q s, I d.At.Row, I d.At.Col, B d.At.Pending, B d.Auto] 1 X ⟨x.one, rfl, rfl, rfl, rfl, trivial⟩) ?_
 rintro N i1 M
 refine wln (W.ret ?_)
 obtain rfl := si H
 have Z := M.sD 3 []
 exact retC (c := N) (vs := [.slice p q s, I d.At.Row, I d.At.Col, B d.At.Pending, B d.Auto]) rfl (by kernel_rfl) (by kernel_rfl) (by kernel_rfl) (M.on 1 rfl _ rfl).1 ⟨_, N, rfl, rfl, pt, (.slice p q s), Z, rfl, x.m⟩
def f_linotyperef34_Pen_Paint (p0 : G_linotyperef34_Pen) (p1 : Int) (p2 : Int) (p3 : List G_api_Cell) : Option (G_linotyperef34_Pen) :=
 (idx p0.L p1).bind fun d =>
 (idx p0.L p1).bind fun b =>
 (f_linotyperef24_Paint d.Cells b.Wrap p2 p3).bind fun a =>
 (f_linotyperef34_Pen_With p0 p1 (⟨a.1, a.2⟩ : G_api_Line)).bind fun c =>
 some c
theorem c_linotyperef34_Pen_Paint (O0 : Own c0 G F) (d : G_linotyperef34_Pen) (f : Int) (s : Int) (M : List G_api_Cell) {r : G_linotyperef34_Pen} (g : Sl R_api_Line c0 v1 d.L) (h4 : Sl R_api_Cell c0 v3 M) (H : f_linotyperef34_Pen_Paint d f s M = some r) :
    Calls prog 55 #[.agg #[v1, I d.At.Row, I d.At.Col, B d.At.Pending, B d.Auto], I f, I s, v3] c0.w (Post c0 fun c v => ∃ P y2, Own c G (es true R_api_Line P 78 y2 r.L :: F) ∧ v = .agg #[P, I r.At.Row, I r.At.Col, B r.At.Pending, B r.Auto] ∧ OA R_api_Line c P y2 r.L) := by
 unfold f_linotyperef34_Pen_Paint at H
 refine en func55 rfl rfl (sr ?_)
 obtain ⟨h, i, n, rfl⟩ := (g).form
 refine me (bx 34 [.slice h i n, I d.At.Row, I d.At.Col, B d.At.Pending, B d.Auto] O0) ?_
 rintro v12 d1 A ⟨b8, rfl, O9, q⟩
 refine me (al 34 [Y, I 0, I 0, B false, B false] O9) ?_
 rintro v16 e1 D ⟨c1, rfl, R⟩
 refine wln (W.seq (rD [] (Kp G0 []) R ?_))
 intro f0 E S
 have n1 : Kp G0 [] f0 := Kp.nil0
 refine ta 0 (Q b8) (tx 1 (fun o e => l1 underlying30 ((mm q) 0 _ rfl)) (ta 2 (I f) (bn H fun v0 x H => ?_)))
 obtain ⟨a1, h0, q0⟩ := Sl.at (g.mono (A.trans (D.trans E))) (idx_get x)
 obtain ⟨v24, rfl, i0⟩ := h0
 refine tx 3 (fun o e => ix underlying30 g.m x) (ta 4 (.pointer (some ⟨sb (.slice h i n), so (.slice h i n) + f.toNat * 2, none⟩)) (tx 5 (fun o e => l1 underlying72 ((mm q0) 0 _ rfl)) (ta 6 (Q b8) (tx 7 (fun o e => l1 underlying30 ((mm q) 0 _ rfl)) (ta 8 (I f) (bn H fun N y H => ?_))))))
 obtain ⟨b1, j0, s0⟩ := Sl.at (g.mono (A.trans (D.trans E))) (idx_get y)
 obtain ⟨v30, rfl, h1⟩ := j0
 refine tx 9 (fun o e => ix underlying30 g.m y) (ta 10 (.pointer (some ⟨sb (.slice h i n), so (.slice h i n) + f.toNat * 2 + 1, none⟩)) (tx 11 (fun o e => l1 underlying4 ((mm s0) 1 _ rfl)) (ta 12 (I s) (ta 13 (v3) (bn H fun b k0 H => o1 14 (gc 14 (c_linotyperef24_Paint S v0.Cells N.Wrap s M i0 h4.m k0) ?_))))))
 rintro v41 g0 i1 ⟨v33, q1, T, rfl, z⟩
 have t0 : Kp G0 [] g0 := Kp.nil0
 refine ⟨.inr t0, ta 15 (.tuple #[v33, B b.2]) (ta 16 (v33) (ta 17 (B b.2) (ta 18 (v33) (ta 19 (B b.2) (dn (nrm (sr (vx (lN 34 (mm q)) (va (I f) (va (v33) (va (B b.2) ?_)))))))))))⟩
 obtain ⟨a0, b0, d0, rfl⟩ := (z).form
 refine va (.agg #[.slice a0 b0 d0, B b.2]) ?_
 obtain ⟨f1, m0, j1, U, l0⟩ := T.frz 0 rfl z
 refine WL.gh m0 (bn H fun a o0 H => cl (c_linotyperef34_Pen_With U d f (⟨b.1, b.2⟩ : G_api_Line) g.m l0 o0) ?_)
 rintro v59 g1 k1 ⟨v51, u0, X, rfl, p⟩
 obtain ⟨j, k, l, rfl⟩ := (p).form
 refine md (sA 34 [.slice j k l, I a.At.Row, I a.At.Col, B a.At.Pending, B a.Auto] 2 X ⟨(p).one, rfl, rfl, rfl, rfl, trivial⟩) ?_
 rintro u m1 t
 refine wln (W.ret ?_)
 obtain rfl := si H
 have Z := t.sD 3 [0]
 exact retC (c := u) (vs := [.slice j k l, I a.At.Row, I a.At.Col, B a.At.Pending, B a.Auto]) rfl (by kernel_rfl) (by kernel_rfl) (by kernel_rfl) (t.on 2 rfl _ rfl).1 ⟨_, u, rfl, rfl, pt, (.slice j k l), u0, Z, rfl, p.m⟩
def f_linotyperef31_After (p0 : G_api_Cursor) (p1 : Int) (p2 : Int) (p3 : Bool) : Option (G_api_Cursor) :=
 (if (decide (p1 > 1)) = true then
 some (2)
 else
 some (1)).bind fun a =>
 (f_linotyperef31_Side p2).bind fun b =>
 if (decide (p0.Col ≥ (w64 (b - a)))) = true then
 (f_linotyperef31_Side p2).bind fun c =>
 some (⟨p0.Row, (w64 (c - 1)), p3⟩ : G_api_Cursor)
 else
 some (⟨p0.Row, (w64 (p0.Col + a)), false⟩ : G_api_Cursor)
theorem c_linotyperef31_After (O0 : Own c0 G F) (a : G_api_Cursor) (n : Int) (g : Int) (h : Bool) {r : G_api_Cursor} (H : f_linotyperef31_After a n g h = some r) :
    Calls prog 57 #[.agg #[I a.Row, I a.Col, B a.Pending], I n, I g, B h] c0.w (Post c0 fun c v => Own c G (F) ∧ v = .agg #[I r.Row, I r.Col, B r.Pending]) := by
 unfold f_linotyperef31_After at H
 refine en func57 rfl rfl (sr (me (bx 32 [I a.Row, I a.Col, B a.Pending] O0) ?_))
 rintro v5 c4 l4 ⟨i, rfl, O2, m⟩
 refine me (al 32 [I 0, I 0, B false] O2) ?_
 rintro v9 t l8 ⟨M, rfl, E⟩
 refine wln (sr (va (I 1) (wln (bn H fun d f b => W.seqJ (Jn t fun c l => Own c G ((Eb M 32 [I 0, I 0, B false]) :: F) ∧ l = [(2, I g), (3, B h), (4, Q i), (8, Q M), (9, I d)]) ?_ ?_))))
 ·refine sr (va (I n) (va (B (decide (n > 1))) (wln (cn f (fun T f => ?_) (fun T f => ?_)))))
  ·refine W.region (va (I 2) (wln ?_))
   obtain rfl := si f
   exact ⟨t, _, _, rfl, pt, us, E, rfl⟩
  refine W.skip (nrm ?_)
  obtain rfl := si f
  exact ⟨t, _, _, rfl, pt, us, E, rfl⟩
 rintro e_ w_ ⟨i0, j0, _, rfl, k0, rfl, u, rfl⟩
 refine W.seq (W.seq (rD [] (Kp G0 []) u ?_))
 intro N l0 x
 have u0 : Kp G0 [] N := Kp.nil0
 refine ta 0 (.pointer (some ⟨i, 0 + 1, none⟩)) (tx 1 (fun c' a0 => l1 underlying3 ((mm m) 1 _ rfl)) (ta 2 (I g) (ta 4 (I d) (bn b fun k U b => o1 3 (gc 3 (c_linotyperef31_Side x g U) ?_)))))
 rintro v28 P m0 ⟨o, rfl⟩
 have b0 : Kp G0 [] P := Kp.nil0
 refine ⟨.inr b0, ta 5 (I (w64 (k - d))) (ta 6 (B (decide (a.Col ≥ (w64 (k - d))))) (dn (nrm (cn b (fun X b => ?_) (fun X b => ?_)))))⟩
 ·refine W.seq (rD [] (Kp G0 []) o ?_)
  intro R o0 y
  have v0 : Kp G0 [] R := Kp.nil0
  refine ta 0 (Q i) (tx 1 (fun c' a0 => l1 underlying3 ((mm m) 0 _ rfl)) (ta 2 (I g) (ta 5 (B h) (bn b fun e Z b => o1 3 (gc 3 (c_linotyperef31_Side y g Z) ?_)))))
  rintro v40 S q0 ⟨z, rfl⟩
  have d0 : Kp G0 [] S := Kp.nil0
  refine ⟨.inr d0, ta 4 (I (w64 (e - 1))) (ta 6 (.agg #[I a.Row, I (w64 (e - 1)), B h]) (o1 7 (gD 7 (sA 32 [I a.Row, I (w64 (e - 1)), B h] 0 z ⟨rfl, rfl, rfl, trivial⟩) ?_)))⟩
  rintro j s0 p
  have e0 : Kp G0 [] j := Kp.nil0
  refine ⟨.inr e0, dn (nrm (W.ret (thr ?_)))⟩
  obtain rfl := si b
  have A := p.sD 1 []
  exact retC (c := j) (vs := [I a.Row, I (w64 (e - 1)), B h]) rfl (by kernel_rfl) (by kernel_rfl) (by kernel_rfl) (p.on 0 rfl _ rfl).1 ⟨_, j, rfl, rfl, pt, A, rfl⟩
 refine W.skip (nrm (sr (va (Q i) (vx (l1 underlying3 ((mm m) 0 _ rfl)) (va (.pointer (some ⟨i, 0 + 1, none⟩)) (vx (l1 underlying3 ((mm m) 1 _ rfl)) (va (I d) (va (I (w64 (a.Col + d))) (va (.agg #[I a.Row, I (w64 (a.Col + d)), B false]) (md (sA 32 [I a.Row, I (w64 (a.Col + d)), B false] 0 o ⟨rfl, rfl, rfl, trivial⟩) ?_))))))))))
 rintro s t0 q
 refine wln (W.ret ?_)
 obtain rfl := si b
 have D := q.sD 1 []
 exact retC (c := s) (vs := [I a.Row, I (w64 (a.Col + d)), B false]) rfl (by kernel_rfl) (by kernel_rfl) (by kernel_rfl) (q.on 0 rfl _ rfl).1 ⟨_, s, rfl, rfl, pt, D, rfl⟩
def f_linotyperef34_Pen_Put (p0 : G_linotyperef34_Pen) (p1 : Int) (p2 : List Int) : Option (G_linotyperef34_Pen × G_api_Cursor) :=
 (f_linotyperef34_Pen_Hold p0).bind fun c =>
 (f_linotyperef34_Pen_Wide c).bind fun d =>
 (if (decide ((imax 1 (imin p1 2)) > d)) = true then
 some (1, ([65533] : List Int))
 else
 some ((imax 1 (imin p1 2)), p2)).bind fun g =>
 (if c.At.Pending = true then
 (f_linotyperef34_Pen_GoOn c).bind fun e =>
 some (e.L, e.At.Row, e.At.Col, e.At.Pending, e.Auto)
 else
 some (c.L, c.At.Row, c.At.Col, c.At.Pending, c.Auto)).bind fun a =>
 ((andE (g.1 == 2) (some (a.2.2.1 == (w64 (d - 1))))).bind fun i =>
 if i = true then
 if a.2.2.2.2 = true then
 (rep 1 (⟨0, ([] : List Int)⟩ : G_api_Cell)).bind fun j =>
 (f_linotyperef34_Pen_Paint (⟨a.1, (⟨a.2.1, a.2.2.1, a.2.2.2.1⟩ : G_api_Cursor), a.2.2.2.2⟩ : G_linotyperef34_Pen) a.2.1 (w64 (d - 1)) j).bind fun k =>
 (f_linotyperef34_Pen_GoOn k).bind fun f =>
 some (f.L, f.At.Row, f.At.Col, f.At.Pending, f.Auto)
 else
 some (a.1, a.2.1, (w64 (d - 2)), a.2.2.2.1, a.2.2.2.2)
 else
 some (a.1, a.2.1, a.2.2.1, a.2.2.2.1, a.2.2.2.2)).bind fun b =>
 (f_linotyperef23_Of g.1 g.2).bind fun l =>
 (f_linotyperef34_Pen_Paint (⟨b.1, (⟨b.2.1, b.2.2.1, b.2.2.2.1⟩ : G_api_Cursor), b.2.2.2.2⟩ : G_linotyperef34_Pen) b.2.1 b.2.2.1 l).bind fun h =>
 (f_linotyperef31_After (⟨b.2.1, b.2.2.1, false⟩ : G_api_Cursor) g.1 d h.Auto).bind fun m =>
 some ((⟨h.L, m, h.Auto⟩ : G_linotyperef34_Pen), (⟨b.2.1, b.2.2.1, false⟩ : G_api_Cursor))
theorem c_linotyperef34_Pen_Put (O0 : Own c0 G F) (u : G_linotyperef34_Pen) (p1 : Int) (p2 : List Int) {r : G_linotyperef34_Pen × G_api_Cursor} (h2 : Sl R_api_Line c0 v1 u.L) (h4 : Sl (RI .i32) c0 v3 p2) (H : f_linotyperef34_Pen_Put u p1 p2 = some r) :
    Calls prog 36 #[.agg #[v1, I u.At.Row, I u.At.Col, B u.At.Pending, B u.Auto], I p1, v3] c0.w (Post c0 fun c v => ∃ y1 y2, Own c G (es true R_api_Line y1 78 y2 r.1.L :: F) ∧ v = .tuple #[.agg #[y1, I r.1.At.Row, I r.1.At.Col, B r.1.At.Pending, B r.1.Auto], .agg #[I r.2.Row, I r.2.Col, B r.2.Pending]] ∧ OA R_api_Line c y1 y2 r.1.L) := by
 unfold f_linotyperef34_Pen_Put at H
 refine en func36 rfl rfl (sr ?_)
 obtain ⟨a5, a6, a7, rfl⟩ := (h2).form
 refine me (al 34 [.slice a5 a6 a7, I u.At.Row, I u.At.Col, B u.At.Pending, B u.Auto] O0) ?_
 rintro v11 m7 w7 ⟨f, rfl, O9⟩
 refine me (al 34 [Y, I 0, I 0, B false, B false] O9) ?_
 rintro v15 n7 x7 ⟨D, rfl, u4⟩
 refine me (al 32 [I 0, I 0, B false] u4) ?_
 rintro v19 o7 y7 ⟨E, rfl, s1⟩
 refine wln (sr (vx (leN 34 0 [.slice a5 a6 a7, I u.At.Row, I u.At.Col, B u.At.Pending, B u.Auto] (s1.on 2 rfl)) (bn H fun h j5 H => cl (c_linotyperef34_Pen_Hold s1 u h2.m j5) ?_)))
 rintro v28 p7 z7 ⟨v21, v4, rfl, e0⟩
 obtain ⟨a0, b0, d0, rfl⟩ := (e0).form
 refine md (sA 34 [.slice a0 b0 d0, I h.At.Row, I h.At.Col, B h.At.Pending, B h.Auto] 2 v4 ⟨e0.one, rfl, rfl, rfl, rfl, trivial⟩) ?_
 rintro q7 a8 t1
 refine wln (sr (va (I p1) (va (I (imin p1 2)) (va (I (imax 1 (imin p1 2))) (va (I (imax 1 (imin p1 2))) (wln (sr (vx (leN 34 0 [.slice a0 b0 d0, I h.At.Row, I h.At.Col, B h.At.Pending, B h.Auto] (t1.on 2 rfl)) (bn H fun e k5 H => cl (c_linotyperef34_Pen_Wide t1 h e0.m k5) ?_)))))))))
 rintro v40 a2 c8 ⟨u1, rfl⟩
 refine va (I e) (wln (bn H fun n Z r4 => W.seqJ (Jn a2 fun c l => ∃ v43, Own c G ((Eb E 32 [I 0, I 0, B false]) :: (Eb D 34 [Y, I 0, I 0, B false, B false]) :: (Eb f 34 [.slice a0 b0 d0, I h.At.Row, I h.At.Col, B h.At.Pending, B h.Auto]) :: F) ∧ l = [(1, I n.1), (2, v43), (3, Q f), (6, Q D), (7, Q E), (8, I e)] ∧ Sl (RI .i32) c v43 n.2) ?_ ?_))
 ·refine sr (va (I (imax 1 (imin p1 2))) (va (I e) (va (B (decide ((imax 1 (imin p1 2)) > e))) (wln (cn Z (fun l5 Z => ?_) (fun l5 Z => ?_))))))
  ·refine sr (va (I 1) (wln (W.region (me (sl (RI .i32) 21 [[J 65533]] ([65533] : List Int) u1 ⟨rfl, trivial⟩) ?_))))
   rintro v49 r7 d8 ⟨k8, w4, m5⟩
   refine va (v49) (wln ?_)
   obtain rfl := si Z
   obtain ⟨f5, o5, e8, x4, n5⟩ := w4.frz 0 rfl m5
   have y4 := x4.sD 4 [1, 2, 3]
   exact ⟨f5, _, _, o5.symm, pt, us, v49, y4, rfl, n5⟩
  refine W.skip (nrm ?_)
  obtain rfl := si Z
  exact ⟨a2, _, _, rfl, pt, us, v3, u1, rfl, h4.m⟩
 rintro e_ w_ ⟨b2, t7, _, rfl, f8, rfl, v43, v0, rfl, p5⟩
 refine bn r4 fun b M s4 => W.seqJ (Jn b2 fun c l => ∃ p, Own c G ((Eb E 32 [I 0, I 0, B false]) :: (Eb D 34 [Y, I 0, I 0, B false, B false]) :: (Eb f 34 [p, I b.2.1, I b.2.2.1, B b.2.2.2.1, B b.2.2.2.2]) :: F) ∧ l = [(1, I n.1), (2, v43), (3, Q f), (6, Q D), (7, Q E), (8, I e)] ∧ Sl R_api_Line c p b.1) ?_ ?_
 ·refine sr (va (.pointer (some ⟨f, 1, none⟩)) (va (.pointer (some ⟨f, 3, none⟩)) (vx (le1 3 underlying4 (v0.on 2 rfl)) (wln (cn M (fun q5 M => ?_) (fun q5 M => ?_))))))
  ·refine W.region (vx (leN 34 0 [.slice a0 b0 d0, I h.At.Row, I h.At.Col, B h.At.Pending, B h.Auto] (v0.on 2 rfl)) (bn M fun U r5 M => cl (c_linotyperef34_Pen_GoOn v0 h e0.m r5) ?_))
   rintro m8 s7 g8 ⟨l8, z4, rfl, k1⟩
   obtain ⟨w1, x1, z1, rfl⟩ := (k1).form
   refine md (sA 34 [.slice w1 x1 z1, I U.At.Row, I U.At.Col, B U.At.Pending, B U.Auto] 2 z4 ⟨k1.one, rfl, rfl, rfl, rfl, trivial⟩) ?_
   rintro g5 h8 b5
   refine wln ?_
   obtain rfl := si M
   exact ⟨g5, _, _, rfl, pt, us, (.slice w1 x1 z1), b5, rfl, k1.m⟩
  refine W.skip (nrm ?_)
  obtain rfl := si M
  exact ⟨b2, _, _, rfl, pt, us, (.slice a0 b0 d0), v0, rfl, e0.m⟩
 rintro e_ w_ ⟨x0, u7, _, rfl, i8, rfl, p, f1, rfl, m1⟩
 refine bn s4 fun a g N => W.seqJ (Jn x0 fun c l => ∃ y, Own c G ((Eb E 32 [I 0, I 0, B false]) :: (Eb D 34 [Y, I 0, I 0, B false, B false]) :: (Eb f 34 [y, I a.2.1, I a.2.2.1, B a.2.2.2.1, B a.2.2.2.2]) :: F) ∧ l = [(1, I n.1), (2, v43), (3, Q f), (6, Q D), (7, Q E), (8, I e)] ∧ Sl R_api_Line c y a.1) ?_ ?_
 ·refine W.seq (bn g fun d3 c2 g => W.join (Jn x0 fun c l => Own c G ((Eb E 32 [I 0, I 0, B false]) :: (Eb D 34 [Y, I 0, I 0, B false, B false]) :: (Eb f 34 [p, I b.2.1, I b.2.2.1, B b.2.2.2.1, B b.2.2.2.2]) :: F) ∧ l = [(1, I n.1), (2, v43), (3, Q f), (6, Q D), (7, Q E), (8, I e), (35, B d3)]) ?_ ?_)
  ·clear g
   refine W.region (va (I n.1) (va (B (n.1 == 2)) ?_))
   rcases bo (n.1 == 2) with f0 | f0
   ·have t4 := anT f0 c2
    refine vb f0 (wn (va (.pointer (some ⟨f, 1, none⟩)) (wn (va (.pointer (some ⟨f, 2, none⟩)) (wn (vx (le1 2 underlying3 (f1.on 2 rfl)) (wn (va (I e) (wn (va (I (w64 (e - 1))) (wn (va (B (b.2.2.1 == (w64 (e - 1)))) ?_))))))))))))
    obtain rfl := si t4
    exact va (B (b.2.2.1 == (w64 (e - 1)))) (wln ⟨x0, _, _, rfl, pt, us, f1, rfl⟩)
   obtain rfl := anF f0 c2
   exact vb f0 (ps (ps (ps (ps (ps (ps (va (B false) (wln ⟨x0, _, _, rfl, pt, us, f1, rfl⟩))))))))
  rintro e_ w_ ⟨h5, v7, _, rfl, j8, rfl, w0, rfl⟩
  refine nrm (cn g (fun s5 g => ?_) (fun s5 g => ?_))
  ·refine sr (va (.pointer (some ⟨f, 4, none⟩)) (vx (le1 4 underlying4 (w0.on 2 rfl)) (wln (cn g (fun f3 g => ?_) (fun f3 g => ?_)))))
   ·refine rD [9] (Kp G0 [(Eb f 34 [p, I b.2.1, I b.2.2.1, B b.2.2.2.1, B b.2.2.2.2])]) w0 ?_
    intro m2 g6 z0
    have n1 : Kp G0 [(Eb f 34 [p, I b.2.1, I b.2.2.1, B b.2.2.2.1, B b.2.2.2.2])] m2 := (Kp.cons (z0.on 2 rfl) Kp.nil0)
    refine tkx 0 n1 (fun c' S A => leN 34 0 [p, I b.2.1, I b.2.2.1, B b.2.2.2.1, B b.2.2.2.2] (A.on 0 rfl)) (ta 1 (.pointer (some ⟨f, 1, none⟩)) (ta 2 (.pointer (some ⟨f, 1, none⟩)) (tkx 3 n1 (fun c' S A => le1 1 underlying3 (A.on 0 rfl)) (ta 4 (I e) (ta 5 (I (w64 (e - 1))) (bn g fun n4 j1 g => o1 6 (gm 6 (Own.mkS (kl := .i64) (kc := .i64) (R := R_api_Cell) (z := .agg #[I 0, Y]) (lz := [I 0, Y]) (x := (⟨0, ([] : List Int)⟩ : G_api_Cell)) (by_ := 32) (i := 1) (j := 1) true z0 (Nat.succ_pos _) j1 (Int.le_refl _) (rep_le j1) underlying72 (by kernel_rfl) rfl rfl (fun _ => ⟨(Y), rfl, (Sl.nl _ _)⟩) (by kernel_rfl) (by kernel_rfl)) ?_)))))))
    rintro c7 n2 h6 ⟨y6, a1, g3⟩
    have a4 : Kp G0 [(Eb f 34 [p, I b.2.1, I b.2.2.1, B b.2.2.2.1, B b.2.2.2.2])] n2 := (Kp.cons (a1.on 3 rfl) Kp.nil0)
    refine ⟨.inr a4, ?_⟩
    obtain ⟨o2, i3, x3, b1, h3⟩ := a1.frz 0 rfl g3
    have b4 : Kp G0 [(Eb f 34 [p, I b.2.1, I b.2.2.1, B b.2.2.2.1, B b.2.2.2.2])] o2 := (Kp.cons (b1.on 3 rfl) Kp.nil0)
    refine AC.gh i3 x3 (fun _ => b4) (bn g fun o4 j3 g => o1 7 (gc 7 (c_linotyperef34_Pen_Paint b1 (⟨b.1, (⟨b.2.1, b.2.2.1, b.2.2.2.1⟩ : G_api_Cursor), b.2.2.2.2⟩ : G_linotyperef34_Pen) b.2.1 (w64 (e - 1)) n4 m1.m h3 j3) ?_))
    rintro e7 q2 i6 ⟨d7, z6, c1, rfl, k3⟩
    have c4 : Kp G0 [(Eb f 34 [p, I b.2.1, I b.2.2.1, B b.2.2.2.1, B b.2.2.2.2])] q2 := (Kp.cons (c1.on 4 rfl) Kp.nil0)
    refine ⟨.inr c4, ?_⟩
    obtain ⟨s2, m3, y3, d1, l3⟩ := c1.frz 0 rfl k3
    have d4 : Kp G0 [(Eb f 34 [p, I b.2.1, I b.2.2.1, B b.2.2.2.1, B b.2.2.2.2])] s2 := (Kp.cons (d1.on 4 rfl) Kp.nil0)
    refine AC.gh m3 y3 (fun _ => d4) (bn g fun X n3 g => o1 8 (gc 8 (c_linotyperef34_Pen_GoOn d1 o4 l3 n3) ?_))
    rintro g7 t2 j6 ⟨f7, e1, rfl, t0⟩
    have e4 : Kp G0 [(Eb f 34 [p, I b.2.1, I b.2.2.1, B b.2.2.2.1, B b.2.2.2.2])] t2 := (Kp.cons (e1.on 4 rfl) Kp.nil0)
    refine ⟨.inr e4, ?_⟩
    obtain ⟨g1, h1, i1, rfl⟩ := (t0).form
    refine o1 9 (gD 9 (sA 34 [.slice g1 h1 i1, I X.At.Row, I X.At.Col, B X.At.Pending, B X.Auto] 4 e1 ⟨t0.one, rfl, rfl, rfl, rfl, trivial⟩) ?_)
    rintro u2 k6 d2
    refine ⟨.inl rfl, dn (nrm ?_)⟩
    obtain rfl := si g
    have e2 := d2.sD 5 [2, 3, 4]
    exact ⟨u2, _, _, rfl, pt, us, (.slice g1 h1 i1), e2, rfl, t0.m⟩
   refine W.region (va (I e) (va (I (w64 (e - 2))) (va (.pointer (some ⟨f, 1, none⟩)) (va (.pointer (some ⟨f, 2, none⟩)) (md (sC 3 2 (I (w64 (e - 2))) [p, I b.2.1, I (w64 (e - 2)), B b.2.2.2.1, B b.2.2.2.2] 2 w0 ⟨rfl, trivial⟩) ?_)))))
   rintro v2 l6 f2
   refine wln ?_
   obtain rfl := si g
   exact ⟨v2, _, _, rfl, pt, us, p, f2, rfl, m1.m⟩
  refine W.skip (nrm ?_)
  obtain rfl := si g
  exact ⟨h5, _, _, rfl, pt, us, p, w0, rfl, m1.m⟩
 rintro e_ w_ ⟨x5, e6, _, rfl, m6, rfl, y, h0, rfl, o3⟩
 refine sr (va (.pointer (some ⟨f, 1, none⟩)) (va (.pointer (some ⟨f, 1, none⟩)) (vx (le1 1 underlying3 (h0.on 2 rfl)) (va (.pointer (some ⟨f, 1, none⟩)) (va (.pointer (some ⟨f, 2, none⟩)) (vx (le1 2 underlying3 (h0.on 2 rfl)) (va (.agg #[I a.2.1, I a.2.2.1, B false]) (me (al 32 [I 0, I 0, B false] h0) ?_))))))))
 rintro h7 y5 n6 ⟨o, rfl, g2⟩
 refine md (sA 32 [I a.2.1, I a.2.2.1, B false] 0 g2 ⟨rfl, rfl, rfl, trivial⟩) ?_
 rintro z5 o6 i2
 refine wln (W.seq (rD [9] (Kp G0 [(Eb f 34 [y, I a.2.1, I a.2.2.1, B a.2.2.2.1, B a.2.2.2.2]), (Eb o 32 [I a.2.1, I a.2.2.1, B false])]) i2 ?_))
 intro w2 p6 i0
 have u0 : Kp G0 [(Eb f 34 [y, I a.2.1, I a.2.2.1, B a.2.2.2.1, B a.2.2.2.2]), (Eb o 32 [I a.2.1, I a.2.2.1, B false])] w2 := (Kp.cons (i0.on 3 rfl) (Kp.cons (i0.on 0 rfl) Kp.nil0))
 refine tkx 0 u0 (fun c' S A => leN 34 0 [y, I a.2.1, I a.2.2.1, B a.2.2.2.1, B a.2.2.2.2] (A.on 0 rfl)) (ta 1 (Q o) (tkx 2 u0 (fun c' S A => le1 0 underlying3 (A.on 1 rfl)) (ta 3 (.pointer (some ⟨o, 1, none⟩)) (tkx 4 u0 (fun c' S A => le1 1 underlying3 (A.on 1 rfl)) (ta 5 (I n.1) (ta 6 (v43) (bn N fun p4 p3 N => o1 7 (gc 7 (c_linotyperef23_Of i0 n.1 n.2 p5.m p3) ?_))))))))
 rintro i7 x2 q6 ⟨_, b7, j0, rfl, q3⟩
 have f4 : Kp G0 [(Eb f 34 [y, I a.2.1, I a.2.2.1, B a.2.2.2.1, B a.2.2.2.2]), (Eb o 32 [I a.2.1, I a.2.2.1, B false])] x2 := (Kp.cons (j0.on 4 rfl) (Kp.cons (j0.on 1 rfl) Kp.nil0))
 refine ⟨.inr f4, ?_⟩
 obtain ⟨z2, t3, z3, k0, s3⟩ := j0.frz 0 rfl q3
 have g4 : Kp G0 [(Eb f 34 [y, I a.2.1, I a.2.2.1, B a.2.2.2.1, B a.2.2.2.2]), (Eb o 32 [I a.2.1, I a.2.2.1, B false])] z2 := (Kp.cons (k0.on 4 rfl) (Kp.cons (k0.on 1 rfl) Kp.nil0))
 refine AC.gh t3 z3 (fun _ => g4) (bn N fun k u3 N => o1 8 (gc 8 (c_linotyperef34_Pen_Paint k0 (⟨a.1, (⟨a.2.1, a.2.2.1, a.2.2.2.1⟩ : G_api_Cursor), a.2.2.2.2⟩ : G_linotyperef34_Pen) a.2.1 a.2.2.1 p4 o3.m s3 u3) ?_))
 rintro k7 a3 r6 ⟨j7, l4, l0, rfl, T⟩
 have i4 : Kp G0 [(Eb f 34 [y, I a.2.1, I a.2.2.1, B a.2.2.2.1, B a.2.2.2.2]), (Eb o 32 [I a.2.1, I a.2.2.1, B false])] a3 := (Kp.cons (l0.on 5 rfl) (Kp.cons (l0.on 2 rfl) Kp.nil0))
 refine ⟨.inr i4, ?_⟩
 obtain ⟨q, s, t, rfl⟩ := (T).form
 refine o1 9 (gD 9 (sA 34 [.slice q s t, I k.At.Row, I k.At.Col, B k.At.Pending, B k.Auto] 5 l0 ⟨(T).one, rfl, rfl, rfl, rfl, trivial⟩) ?_)
 rintro b6 s6 m0
 refine ⟨.inl rfl, dn (nrm (sr (vx (leN 32 0 [I a.2.1, I a.2.2.1, B false] (m0.on 2 rfl)) (va (I n.1) (va (I e) (va (.pointer (some ⟨f, 4, none⟩)) (vx (le1 4 underlying4 (m0.on 5 rfl)) (bn N fun d w3 N => cl (c_linotyperef31_After m0 (⟨a.2.1, a.2.2.1, false⟩ : G_api_Cursor) n.1 e k.Auto w3) ?_))))))))⟩
 rintro l7 c6 t6 ⟨j2, rfl⟩
 refine va (.pointer (some ⟨f, 1, none⟩)) (md (sB 32 1 [I d.Row, I d.Col, B d.Pending] [.slice q s t, I d.Row, I d.Col, B d.Pending, B k.Auto] 5 j2 ⟨rfl, rfl, rfl, trivial⟩) ?_)
 rintro d6 u6 k2
 refine wln (W.seq (rD [] (Kp G0 [(Eb f 34 [.slice q s t, I d.Row, I d.Col, B d.Pending, B k.Auto]), (Eb o 32 [I a.2.1, I a.2.2.1, B false])]) k2 ?_))
 intro b3 v6 o0
 have q1 : Kp G0 [(Eb f 34 [.slice q s t, I d.Row, I d.Col, B d.Pending, B k.Auto]), (Eb o 32 [I a.2.1, I a.2.2.1, B false])] b3 := (Kp.cons (o0.on 5 rfl) (Kp.cons (o0.on 2 rfl) Kp.nil0))
 refine tkx 0 q1 (fun c' S A => leN 34 0 [.slice q s t, I d.Row, I d.Col, B d.Pending, B k.Auto] (A.on 0 rfl)) (tkx 1 q1 (fun c' S A => leN 32 0 [I a.2.1, I a.2.2.1, B false] (A.on 1 rfl)) (o1 2 (gD 2 (sA 34 [.slice q s t, I d.Row, I d.Col, B d.Pending, B k.Auto] 4 o0 ⟨T.m.one, rfl, rfl, rfl, rfl, trivial⟩) ?_)))
 rintro c3 w6 q0
 have j4 : Kp G0 [(Eb f 34 [.slice q s t, I d.Row, I d.Col, B d.Pending, B k.Auto]), (Eb o 32 [I a.2.1, I a.2.2.1, B false])] c3 := (Kp.cons (q0.on 5 rfl) (Kp.cons (q0.on 2 rfl) Kp.nil0))
 refine ⟨.inr j4, o1 3 (gD 3 (sA 32 [I a.2.1, I a.2.2.1, B false] 3 q0 ⟨rfl, rfl, rfl, trivial⟩) ?_)⟩
 rintro s0 x6 P
 have k4 : Kp G0 [(Eb f 34 [.slice q s t, I d.Row, I d.Col, B d.Pending, B k.Auto]), (Eb o 32 [I a.2.1, I a.2.2.1, B false])] s0 := (Kp.cons (P.on 5 rfl) (Kp.cons (P.on 2 rfl) Kp.nil0))
 refine ⟨.inr k4, dn (nrm (W.ret ?_))⟩
 obtain rfl := si N
 have l2 := P.sD 6 [0]
 exact retCC (c := s0) (vs := [.slice q s t, I d.Row, I d.Col, B d.Pending, B k.Auto]) (vs' := [I a.2.1, I a.2.2.1, B false]) rfl (by kernel_rfl) (by kernel_rfl) (by kernel_rfl) (P.on 4 rfl _ rfl).1 (by kernel_rfl) (by kernel_rfl) (by kernel_rfl) (P.on 3 rfl _ rfl).1 ⟨_, s0, rfl, rfl, pt, (.slice q s t), l4, l2, rfl, T.m⟩
def f_linotypelaw34_Alike (sg : Sto) (p0 : Option Nat) (p1 : G_linotyperef34_Pen) : Option (Bool) :=
 (p0).bind fun f =>
 (sg.place_Pen[f]?).bind fun a =>
 (andE (a.At.Row == p1.At.Row && (a.At.Col == p1.At.Col && (a.At.Pending == p1.At.Pending && true))) (some (a.Auto == p1.Auto))).bind fun b =>
 (andE b ((f_grid_Grid_Lines sg a.G).bind fun d =>
 (f_linotyperef32_Same d p1.L).bind fun e =>
 some e)).bind fun c =>
 some c
theorem c_linotypelaw34_Alike (O0 : Own c0 G F) (R0 : Rel c0 sg G) (p0 : Option Nat) (b : G_linotyperef34_Pen) {r : Bool} (h2 : Pt 2 c0 v1 p0) (h4 : Sl R_api_Line c0 v3 b.L) (H : f_linotypelaw34_Alike sg p0 b = some r) :
    Calls prog 14 #[v1, .agg #[v3, I b.At.Row, I b.At.Col, B b.At.Pending, B b.Auto]] c0.w (Post c0 fun c v => Own c G (F) ∧ v = B r) := by
 unfold f_linotypelaw34_Alike at H
 refine en func14 rfl rfl (sr ?_)
 obtain ⟨a5, a6, a7, rfl⟩ := (h4).form
 refine me (bx 34 [.slice a5 a6 a7, I b.At.Row, I b.At.Col, B b.At.Pending, B b.Auto] O0) ?_
 rintro v12 b0 M ⟨P, rfl, O9, s⟩
 refine va (B false) (wln (W.seq (bn H fun g1 g0 H => bn H fun a h0 H => bn H fun d1 D H => bn H fun R o H => W.join (Jn b0 fun c l => Own c G (F) ∧ l = [(4, B R)]) ?_ ?_)))
 ·clear H
  refine rD [] (Kp G []) O9 ?_
  intro n N j
  have t : Kp G [] n := (Kp.nil j)
  refine ta 0 (v1) ?_
  obtain ⟨e, rfl, i0⟩ := ((h2.mono (M.trans N))).get g0
  refine ta 1 (Q e) (ta 2 (.pointer (some ⟨e, 1, none⟩)) ?_)
  obtain ⟨v22, p, j0⟩ := Rel.open_place_Pen (R0.mono (M.trans N)) h0 i0
  refine tkx 3 t (fun f d q => leN 32 1 [I a.At.Row, I a.At.Col, B a.At.Pending] (q.gon p 0 rfl)) (ta 4 (.pointer (some ⟨P, 0 + 1, none⟩)) (tx 5 (fun f d => lN 32 (imsub (k := 1) (l := [I b.At.Row, I b.At.Col, B b.At.Pending]) (mm s) rfl)) (AC.take 6 (B (a.At.Row == b.At.Row && (a.At.Col == b.At.Col && (a.At.Pending == b.At.Pending && true)))) rfl (by kernel_rfl) (by kernel_rfl) (fun f d => (run_eqlA (T := 32) (xs := #[I a.At.Row, I a.At.Col, B a.At.Pending]) (ys := #[I b.At.Row, I b.At.Col, B b.At.Pending]) (r := (a.At.Row == b.At.Row && (a.At.Col == b.At.Col && (a.At.Pending == b.At.Pending && true)))) underlying32 (by kernel_rfl) (by kernel_rfl) (EqP.int (by kernel_rfl) underlying3 rfl rfl (EqP.int (by kernel_rfl) underlying3 rfl rfl (EqP.bool (by kernel_rfl) underlying4 rfl rfl EqP.nil))) (by kernel_rfl) _)) ?_)))
  rcases bo ((a.At.Row == b.At.Row && (a.At.Col == b.At.Col && (a.At.Pending == b.At.Pending && true)))) with h | h
  ·have U := anT h D
   refine AC.takeb 7 h rfl (by kernel_rfl) (by kernel_rfl) (fun f d => (by kernel_rfl)) (ta 8 (Q e) (ta 9 (Q e) (ta 10 (.pointer (some ⟨e, 4, none⟩)) (tkx 11 t (fun f d q => le1 4 underlying4 (q.gon p 0 rfl)) (ta 12 (.pointer (some ⟨P, 0 + 4, none⟩)) (tx 13 (fun f d => l1 underlying4 ((mm s) 4 _ rfl)) (ta 14 (B (a.Auto == b.Auto)) ?_)))))))
   obtain rfl := si U
   refine ta 15 (B (a.Auto == b.Auto)) ?_
   rcases bo (a.Auto == b.Auto) with i | i
   ·have g := anT i o
    refine bn g fun S k0 g => bn g fun u l0 g => AC.takeb 16 i rfl (by kernel_rfl) (by kernel_rfl) (fun f d => (by kernel_rfl)) (ta 17 (Q e) (ta 18 (Q e) (ta 19 (Q e) (tkx 20 t (fun f d q => le1 0 underlying45 (q.gon p 0 rfl)) (ta 22 (Q P) (tx 23 (fun f d => l1 underlying30 ((mm s) 0 _ rfl)) (o1 21 (gc 21 (c_grid_Grid_Lines j R0.m a.G j0 k0) ?_))))))))
    rintro v31 d0 h1 ⟨_, k1, x, rfl, m0⟩
    have v0 : Kp G [] d0 := (Kp.nil x)
    refine ⟨.inr v0, ?_⟩
    obtain ⟨e0, s0, t0, y, q0⟩ := x.frz 0 rfl m0
    have w0 : Kp G [] e0 := (Kp.nil y)
    refine AC.gh s0 t0 (fun _ => w0) (o1 24 (gc 24 (c_linotyperef32_Same y S b.L q0 h4.m l0) ?_))
    rintro v51 A i1 ⟨z, rfl⟩
    have x0 : Kp G [] A := (Kp.nil z)
    refine ⟨.inr x0, ?_⟩
    obtain rfl := si g
    refine ta 25 (B u) (ta 26 (B u) (dn (nrm ?_)))
    have X := z.sD 1 []
    exact ⟨A, _, _, rfl, pt, us, X, rfl⟩
   obtain rfl := anF i o
   exact AC.takeb 16 i rfl (by kernel_rfl) (by kernel_rfl) (fun f d => (by kernel_rfl)) (tp 17 (tp 18 (tp 19 (tp 20 (tp 22 (tp 23 (tp 21 (tp 24 (ta 25 (B false) (ta 26 (B false) (dn (nrm ⟨n, _, _, rfl, pt, us, j, rfl⟩))))))))))))
  obtain rfl := anF h D
  refine AC.takeb 7 h rfl (by kernel_rfl) (by kernel_rfl) (fun f d => (by kernel_rfl)) (tp 8 (tp 9 (tp 10 (tp 11 (tp 12 (tp 13 (tp 14 (ta 15 (B false) ?_))))))))
  have E : false = false := rfl
  obtain rfl := anF E o
  exact AC.takeb 16 E rfl (by kernel_rfl) (by kernel_rfl) (fun f d => (by kernel_rfl)) (tp 17 (tp 18 (tp 19 (tp 20 (tp 22 (tp 23 (tp 21 (tp 24 (ta 25 (B false) (ta 26 (B false) (dn (nrm ⟨n, _, _, rfl, pt, us, j, rfl⟩))))))))))))
 rintro e_ w_ ⟨f0, f1, _, rfl, j1, rfl, Z, rfl⟩
 refine nrm (W.ret ?_)
 obtain rfl := si H
 exact r1 ⟨_, f0, rfl, rfl, pt, Z, rfl⟩
def f_basew_Silent (p0 : Int) : Option (Bool) :=
 (andE (decide (p0 ≥ 0)) (some (decide (p0 < 32)))).bind fun b =>
 (orE b ((andE (decide (p0 ≥ 127)) (some (decide (p0 ≤ 159)))).bind fun a =>
 some a)).bind fun c =>
 some c
theorem c_basew_Silent (e : Own c0 G F) (a : Int) {r : Bool} (H : f_basew_Silent a = some r) :
    Calls prog 75 #[J a] c0.w (Post c0 fun c v => Own c G (F) ∧ v = B r) := by
 unfold f_basew_Silent at H
 refine en func75 rfl rfl (sr (va (B false) (wln (W.seq (bn H fun z t H => bn H fun s n H => W.join (Jn c0 fun c l => Own c G (F) ∧ l = [(2, B s)]) ?_ ?_)))))
 ·clear H
  refine W.region (va (J a) (va (B (decide (a ≥ 0))) ?_))
  rcases bo (decide (a ≥ 0)) with f | f
  ·have x := anT f t
   refine vb f (wn (va (J a) (wn (va (B (decide (a < 32))) ?_))))
   obtain rfl := si x
   refine va (B (decide (a < 32))) ?_
   rcases bo (decide (a < 32)) with g | g
   ·obtain rfl := orT g n
    exact vb g (ps (ps (ps (ps (ps (ps (va (B true) (va (B true) (wln ⟨c0, _, _, rfl, pt, us, e, rfl⟩)))))))))
   have i := orF g n
   refine vb g (wn (va (J a) (wn (va (B (decide (a ≥ 127))) (wn (bn i fun m u i => ?_))))))
   rcases bo (decide (a ≥ 127)) with h | h
   ·have y := anT h u
    refine vb h (wn (va (J a) (wn (va (B (decide (a ≤ 159))) (wn ?_)))))
    obtain rfl := si y
    refine va (B (decide (a ≤ 159))) ?_
    obtain rfl := si i
    exact va (B (decide (a ≤ 159))) (va (B (decide (a ≤ 159))) (wln ⟨c0, _, _, rfl, pt, us, e, rfl⟩))
   obtain rfl := anF h u
   refine vb h (ps (ps (wn (va (B false) ?_))))
   obtain rfl := si i
   exact va (B false) (va (B false) (wln ⟨c0, _, _, rfl, pt, us, e, rfl⟩))
  obtain rfl := anF f t
  refine vb f (ps (ps (va (B false) ?_)))
  have j : false = false := rfl
  have d := orF j n
  refine vb j (wn (va (J a) (wn (va (B (decide (a ≥ 127))) (wn (bn d fun m k d => ?_))))))
  rcases bo (decide (a ≥ 127)) with b | b
  ·have o := anT b k
   refine vb b (wn (va (J a) (wn (va (B (decide (a ≤ 159))) (wn ?_)))))
   obtain rfl := si o
   refine va (B (decide (a ≤ 159))) ?_
   obtain rfl := si d
   exact va (B (decide (a ≤ 159))) (va (B (decide (a ≤ 159))) (wln ⟨c0, _, _, rfl, pt, us, e, rfl⟩))
  obtain rfl := anF b k
  refine vb b (ps (ps (wn (va (B false) ?_))))
  obtain rfl := si d
  exact va (B false) (va (B false) (wln ⟨c0, _, _, rfl, pt, us, e, rfl⟩))
 rintro E M ⟨q, A, _, rfl, D, rfl, p, rfl⟩
 refine nrm (W.ret ?_)
 obtain rfl := si H
 exact r1 ⟨_, q, rfl, rfl, pt, p, rfl⟩
def f_cursor_Back (p0 : G_api_Cursor) : Option (G_api_Cursor) :=
 (if (decide (p0.Col > 0)) = true then
 some ((w64 (p0.Col - 1)))
 else
 some (p0.Col)).bind fun a =>
 some (⟨p0.Row, a, false⟩ : G_api_Cursor)
theorem c_cursor_Back (s : Own c0 G F) (a : G_api_Cursor) {r : G_api_Cursor} (H : f_cursor_Back a = some r) :
    Calls prog 106 #[.agg #[I a.Row, I a.Col, B a.Pending]] c0.w (Post c0 fun c v => Own c G (F) ∧ v = .agg #[I r.Row, I r.Col, B r.Pending]) := by
 unfold f_cursor_Back at H
 refine en func106 rfl rfl (sr (me (al 32 [I a.Row, I a.Col, B a.Pending] s) ?_))
 rintro v4 E P ⟨e, rfl, t⟩
 refine me (al 32 [I 0, I 0, B false] t) ?_
 rintro v8 M R ⟨o, rfl, u⟩
 refine wln (sr (va (.pointer (some ⟨e, 2, none⟩)) (md (sC 4 2 (B false) [I a.Row, I a.Col, B false] 1 u ⟨rfl, trivial⟩) ?_)))
 rintro i z f
 refine wln (bn H fun d b k => W.seqJ (Jn i fun c l => Own c G ((Eb o 32 [I 0, I 0, B false]) :: (Eb e 32 [I a.Row, I d, B false]) :: F) ∧ l = [(1, Q e), (2, Q o)]) ?_ ?_)
 ·refine sr (va (.pointer (some ⟨e, 1, none⟩)) (vx (le1 1 underlying3 (f.on 1 rfl)) (va (B (decide (a.Col > 0))) (wln (cn b (fun q b => ?_) (fun q b => ?_))))))
  ·refine W.region (va (.pointer (some ⟨e, 1, none⟩)) (vx (le1 1 underlying3 (f.on 1 rfl)) (va (I (w64 (a.Col - 1))) (va (.pointer (some ⟨e, 1, none⟩)) (md (sC 3 1 (I (w64 (a.Col - 1))) [I a.Row, I (w64 (a.Col - 1)), B false] 1 f ⟨rfl, trivial⟩) ?_)))))
   rintro p A m
   refine wln ?_
   obtain rfl := si b
   exact ⟨p, _, _, rfl, pt, us, m, rfl⟩
  refine W.skip (nrm ?_)
  obtain rfl := si b
  exact ⟨i, _, _, rfl, pt, us, f, rfl⟩
 rintro N S ⟨x, y, _, rfl, l16, rfl, g, rfl⟩
 refine sr (vx (leN 32 0 [I a.Row, I d, B false] (g.on 1 rfl)) (md (sA 32 [I a.Row, I d, B false] 0 g ⟨rfl, rfl, rfl, trivial⟩) ?_))
 rintro j D h
 refine wln (W.ret ?_)
 obtain rfl := si k
 have n := h.sD 2 []
 exact retC (c := j) (vs := [I a.Row, I d, B false]) rfl (by kernel_rfl) (by kernel_rfl) (by kernel_rfl) (h.on 0 rfl _ rfl).1 ⟨_, j, rfl, rfl, pt, n, rfl⟩
def f_ctrl_Do (sg : Sto) (p0 : Option Nat) (p1 : Int) : Option (Sto × Bool) :=
 (f_basew_Silent p1).bind fun s =>
 if (!s) = true then
 some (sg, false)
 else
 (orE p0.isNone ((p0).bind fun j =>
 (sg.place_Pen[j]?).bind fun l =>
 some l.G.isNone)).bind fun i =>
 if i = true then
 some (sg, true)
 else
 (p0).bind fun k =>
 (sg.place_Pen[k]?).bind fun a =>
 (f_grid_Grid_Wide sg a.G).bind fun m =>
 (f_grid_Grid_High sg a.G).bind fun n =>
 (f_cursor_Hold a.At m n).bind fun h =>
 (if (p1 == 13) = true then
 (f_cursor_Return h).bind fun o =>
 (p0).bind fun d =>
 (sg.place_Pen[d]?).bind fun f =>
 (sg.set_place_Pen d (⟨f.G, o, f.Auto⟩ : G_place_Pen)).bind fun b =>
 some (b)
 else
 if (p1 == 10) = true then
 (f_place_Pen_NewLine sg p0).bind fun p =>
 some (p)
 else
 if (p1 == 8) = true then
 (f_cursor_Back h).bind fun q =>
 (p0).bind fun e =>
 (sg.place_Pen[e]?).bind fun g =>
 (sg.set_place_Pen e (⟨g.G, q, g.Auto⟩ : G_place_Pen)).bind fun c =>
 some (c)
 else
 some (sg)).bind fun r =>
 some (r, true)
theorem c_ctrl_Do (O0 : Own c0 G F) (g : Rel c0 sg G) (p0 : Option Nat) (j : Int) {r : Sto × Bool} (S : Pt 2 c0 v1 p0) (H : f_ctrl_Do sg p0 j = some r) :
    Calls prog 76 #[v1, J j] c0.w (Post c0 fun c v => ∃ G_ : Gm, Own c G_ (F) ∧ Rel c r.1 G_ ∧ v = B r.2) := by
 unfold f_ctrl_Do at H
 refine en func76 rfl rfl (sr (va (B false) (wln (W.seq (sr (va (J j) (bn H fun n5 h3 H => cl (c_basew_Silent O0 j h3) ?_)))))))
 rintro v9 c8 o ⟨O5, rfl⟩
 refine va (B (!n5)) (wln (cn H (fun s4 H => ?_) (fun s4 H => ?_)))
 ·refine sr (va (B false) (wln (W.ret (thr ?_))))
  obtain rfl := si H
  exact r1 ⟨_, c8, rfl, rfl, pt, G, O5, g.m, rfl⟩
 refine W.skip (nrm (W.seq (W.seq (bn H fun b3 s1 H => W.join (Jn c8 fun c l => Own c G (F) ∧ l = [(0, v1), (1, J j), (17, B b3)]) ?_ ?_))))
 ·clear H
  refine W.region (va (v1) (vr (B p0.isNone) (by rcases S.m.cs with ⟨y, z⟩ | ⟨b_, y, z⟩ <;> (subst y; rw [z]; kernel_rfl)) ?_))
  rcases bo (p0.isNone) with x | x
  ·obtain rfl := orT x s1
   exact vb x (ps (ps (ps (ps (ps (va (B true) (wln ⟨c8, _, _, rfl, pt, us, O5, rfl⟩)))))))
  have u := orF x s1
  refine vb x (wn (va (v1) (wn (bn u fun z5 u4 u => ?_))))
  obtain ⟨k1, rfl, t4⟩ := ((S.mono o)).get u4
  refine va (Q k1) (wn (va (Q k1) (wn (bn u fun t0 v4 u => ?_))))
  obtain ⟨v18, x4, w4⟩ := Rel.open_place_Pen (g.mono o) v4 t4
  refine vx (le1 0 underlying45 (O5.gon x4 0 rfl)) (wn (vr (B t0.G.isNone) (by rcases (w4).cs with ⟨y, z⟩ | ⟨b_, y, z⟩ <;> (subst y; rw [z]; kernel_rfl)) ?_))
  obtain rfl := si u
  exact va (B t0.G.isNone) (wln ⟨c8, _, _, rfl, pt, us, O5, rfl⟩)
 rintro e_ w_ ⟨m1, v6, _, rfl, n, rfl, a1, rfl⟩
 refine nrm (cn H (fun y4 H => ?_) (fun y4 H => ?_))
 ·refine sr (va (B true) (wln (W.ret (thr ?_))))
  obtain rfl := si H
  exact r1 ⟨_, m1, rfl, rfl, pt, G, a1, g.m, rfl⟩
 refine W.skip (nrm (W.seq (bn H fun a6 z4 H => bn H fun d a5 H => bn H fun s t1 H => bn H fun t l0 H => bn H fun b R H => W.join (Jn m1 fun c l => ∃ P, Own c G ((Eb P 32 [I b.Row, I b.Col, B b.Pending]) :: F) ∧ l = [(0, v1), (1, J j), (5, Q P)]) ?_ ?_)))
 ·clear H
  refine rD [] (Kp G []) a1 ?_
  intro i4 w1 d0
  have x0 : Kp G [] i4 := (Kp.nil d0)
  refine ta 0 (v1) ?_
  obtain ⟨k, rfl, b5⟩ := ((S.mono (o.trans (n.trans w1)))).get z4
  refine ta 1 (Q k) (ta 2 (.pointer (some ⟨k, 1, none⟩)) ?_)
  obtain ⟨v39, m0, A⟩ := Rel.open_place_Pen (g.mono (o.trans (n.trans w1))) a5 b5
  refine tkx 3 x0 (fun c' u1 hk => leN 32 1 [I d.At.Row, I d.At.Col, B d.At.Pending] (hk.gon m0 0 rfl)) (ta 4 (Q k) (ta 5 (Q k) (ta 6 (Q k) (tkx 7 x0 (fun c' u1 hk => le1 0 underlying45 (hk.gon m0 0 rfl)) (ta 9 (Q k) (ta 10 (Q k) (ta 11 (Q k) (tkx 12 x0 (fun c' u1 hk => le1 0 underlying45 (hk.gon m0 0 rfl)) (mn2 8 15 ?_ ?_)))))))))
  ·refine gc 8 (c_grid_Grid_Wide d0 g.m d.G A t1) ?_
   rintro v47 j4 w6 ⟨e0, rfl⟩
   have c5 : Kp G [] j4 := (Kp.nil e0)
   refine ⟨.inr c5, mn2 13 15 ?_ ?_⟩
   ·refine gc 13 (c_grid_Grid_High e0 g.m d.G A.m l0) ?_
    rintro v54 k4 x6 ⟨f0, rfl⟩
    have d5 : Kp G [] k4 := (Kp.nil f0)
    refine ⟨.inr d5, mn2 14 15 ?_ ?_⟩
    ·refine gc 14 (c_cursor_Hold f0 d.At s t R) ?_
     rintro g7 l4 y6 ⟨b1, rfl⟩
     have e5 : Kp G [] l4 := (Kp.nil b1)
     refine ⟨.inr e5, o1 15 (gm 15 (al 32 [I 0, I 0, B false] b1) ?_)⟩
     rintro h7 m4 z6 ⟨e4, rfl, c1⟩
     have f5 : Kp G [] m4 := (Kp.nil c1)
     refine ⟨.inr f5, o1 16 (gD 16 (sA 32 [I b.Row, I b.Col, B b.Pending] 0 c1 ⟨rfl, rfl, rfl, trivial⟩) ?_)⟩
     rintro n1 a7 d1
     have g5 : Kp G [] n1 := (Kp.nil d1)
     exact ⟨.inr g5, dn (nrm ⟨n1, _, _, rfl, pt, us, e4, d1, rfl⟩)⟩
    refine gm 15 (al 32 [I 0, I 0, B false] f0) ?_
    rintro i7 n4 b7 ⟨f4, rfl, e1⟩
    have h5 : Kp G [] n4 := (Kp.nil e1)
    refine ⟨.inr h5, o1 14 (gc 14 (c_cursor_Hold e1 d.At s t R) ?_)⟩
    rintro j7 o4 c7 ⟨f1, rfl⟩
    have i5 : Kp G [] o4 := (Kp.nil f1)
    refine ⟨.inr i5, o1 16 (gD 16 (sA 32 [I b.Row, I b.Col, B b.Pending] 0 f1 ⟨rfl, rfl, rfl, trivial⟩) ?_)⟩
    rintro q1 d7 g1
    have j5 : Kp G [] q1 := (Kp.nil g1)
    exact ⟨.inr j5, dn (nrm ⟨q1, _, _, rfl, pt, us, f4, g1, rfl⟩)⟩
   refine gm 15 (al 32 [I 0, I 0, B false] e0) ?_
   rintro k7 p4 e7 ⟨g4, rfl, h1⟩
   have k5 : Kp G [] p4 := (Kp.nil h1)
   refine ⟨.inr k5, o1 13 (gc 13 (c_grid_Grid_High h1 g.m d.G A.m l0) ?_)⟩
   rintro l7 q4 f7 ⟨i1, rfl⟩
   have l5 : Kp G [] q4 := (Kp.nil i1)
   refine ⟨.inr l5, o1 14 (gc 14 (c_cursor_Hold i1 d.At s t R) ?_)⟩
   rintro m6 s2 d6 ⟨j1, rfl⟩
   have u3 : Kp G [] s2 := (Kp.nil j1)
   refine ⟨.inr u3, o1 16 (gD 16 (sA 32 [I b.Row, I b.Col, B b.Pending] 0 j1 ⟨rfl, rfl, rfl, trivial⟩) ?_)⟩
   rintro g0 e6 T
   have v3 : Kp G [] g0 := (Kp.nil T)
   exact ⟨.inr v3, dn (nrm ⟨g0, _, _, rfl, pt, us, g4, T, rfl⟩)⟩
  refine gm 15 (al 32 [I 0, I 0, B false] d0) ?_
  rintro n6 t2 f6 ⟨q2, rfl, U⟩
  have w3 : Kp G [] t2 := (Kp.nil U)
  refine ⟨.inr w3, o1 8 (gc 8 (c_grid_Grid_Wide U g.m d.G A.m t1) ?_)⟩
  rintro o6 u2 g6 ⟨X, rfl⟩
  have x3 : Kp G [] u2 := (Kp.nil X)
  refine ⟨.inr x3, o1 13 (gc 13 (c_grid_Grid_High X g.m d.G A.m l0) ?_)⟩
  rintro p6 v2 h6 ⟨Z, rfl⟩
  have y3 : Kp G [] v2 := (Kp.nil Z)
  refine ⟨.inr y3, o1 14 (gc 14 (c_cursor_Hold Z d.At s t R) ?_)⟩
  rintro q6 w2 i6 ⟨a0, rfl⟩
  have z3 : Kp G [] w2 := (Kp.nil a0)
  refine ⟨.inr z3, o1 16 (gD 16 (sA 32 [I b.Row, I b.Col, B b.Pending] 0 a0 ⟨rfl, rfl, rfl, trivial⟩) ?_)⟩
  rintro h0 j6 b0
  have a4 : Kp G [] h0 := (Kp.nil b0)
  exact ⟨.inr a4, dn (nrm ⟨h0, _, _, rfl, pt, us, q2, b0, rfl⟩)⟩
 rintro e_ w_ ⟨i0, u5, _, rfl, i, rfl, P, h, rfl⟩
 refine nrm (bn H fun b4 a b2 => W.seqJ (Jn i0 fun c l => ∃ G_, Own c G_ ((Eb P 32 [I b.Row, I b.Col, B b.Pending]) :: F) ∧ l = [] ∧ Rel c b4 G_) ?_ ?_)
 ·refine sr (va (J j) (wln (W.block (sr (va (B (j == 13)) (va (B (j == 13)) (wln (cn a (fun c3 a => ?_) (fun c3 a => ?_)))))))))
  ·refine W.region (va (v1) (vx (leN 32 0 [I b.Row, I b.Col, B b.Pending] (h.on 0 rfl)) (bn a fun e d3 a => cl (c_cursor_Return h b d3) ?_)))
   rintro r6 s5 D ⟨c2, rfl⟩
   refine bn a fun b6 e3 a => ?_
   obtain ⟨p, rfl, j0⟩ := ((S.mono (o.trans (n.trans (i.trans D))))).get e3
   refine va (Q p) (va (.pointer (some ⟨p, 1, none⟩)) (bn a fun u0 f3 a => ?_))
   obtain ⟨M, i3, g3⟩ := Rel.open_place_Pen (g.mono (o.trans (n.trans (i.trans D)))) f3 j0
   refine md (gB 32 1 [I e.Row, I e.Col, B e.Pending] [M, I e.Row, I e.Col, B e.Pending, B u0.Auto] 0 c2 i3 ⟨rfl, rfl, rfl, trivial⟩) ?_
   rintro x2 q0 d2
   refine bn a fun c4 j3 a => ?_
   obtain ⟨x1, e2, m2, w5, p5⟩ := Rel.put_place_Pen d2 (g.mono (o.trans (n.trans (i.trans (D.trans q0))))) (E' := [(Eb p 47 [M, I e.Row, I e.Col, B e.Pending, B u0.Auto])]) j3 ⟨p, M, (tm j0), rfl, (g3.mono q0)⟩
   refine WL.nil (bkn (nrm ?_))
   obtain rfl := si a
   exact ⟨x2, _, _, rfl, pt, us, x1, e2, rfl, m2⟩
  refine sr (va (B (j == 10)) (va (B (j == 10)) (wln (cn a (fun k3 a => ?_) (fun k3 a => ?_)))))
  ·refine W.region (va (v1) (bn a fun u6 l3 a => cl (c_place_Pen_NewLine h g.m p0 S.m l3) ?_))
   rintro s6 y2 k6 ⟨y1, f2, n2, rfl⟩
   refine WL.nil (bkn (nrm ?_))
   obtain rfl := si a
   exact ⟨y2, _, _, rfl, pt, us, y1, f2, rfl, n2⟩
  refine sr (va (B (j == 8)) (va (B (j == 8)) (wln (cn a (fun m3 a => ?_) (fun m3 a => ?_)))))
  ·refine W.region (va (v1) (vx (leN 32 0 [I b.Row, I b.Col, B b.Pending] (h.on 0 rfl)) (bn a fun f n3 a => cl (c_cursor_Back h b n3) ?_)))
   rintro t6 t5 E ⟨g2, rfl⟩
   refine bn a fun c6 o3 a => ?_
   obtain ⟨q, rfl, k0⟩ := ((S.mono (o.trans (n.trans (i.trans E))))).get o3
   refine va (Q q) (va (.pointer (some ⟨q, 1, none⟩)) (bn a fun v0 p3 a => ?_))
   obtain ⟨N, s3, q3⟩ := Rel.open_place_Pen (g.mono (o.trans (n.trans (i.trans E)))) p3 k0
   refine md (gB 32 1 [I f.Row, I f.Col, B f.Pending] [N, I f.Row, I f.Col, B f.Pending, B v0.Auto] 0 g2 s3 ⟨rfl, rfl, rfl, trivial⟩) ?_
   rintro z2 s0 i2
   refine bn a fun d4 t3 a => ?_
   obtain ⟨z1, j2, o2, x5, q5⟩ := Rel.put_place_Pen i2 (g.mono (o.trans (n.trans (i.trans (E.trans s0))))) (E' := [(Eb q 47 [N, I f.Row, I f.Col, B f.Pending, B v0.Auto])]) t3 ⟨q, N, (tm k0), rfl, (q3.mono s0)⟩
   refine WL.nil (bkn (nrm ?_))
   obtain rfl := si a
   exact ⟨z2, _, _, rfl, pt, us, z1, j2, rfl, o2⟩
  refine W.skip (bkn (nrm ?_))
  obtain rfl := si a
  exact ⟨i0, _, _, rfl, pt, us, G, h, rfl, g.m⟩
 rintro e_ w_ ⟨a3, v5, _, rfl, l6, rfl, a2, k2, rfl, p2⟩
 refine sr (va (B true) (wln (W.ret ?_)))
 obtain rfl := si b2
 have l2 := k2.sD 1 []
 exact r1 ⟨_, a3, rfl, rfl, pt, a2, l2, p2, rfl⟩
def f_linotyperef18_Silent (p0 : Int) : Option (Bool) :=
 (andE (decide (p0 ≥ 0)) (some (decide (p0 ≤ 31)))).bind fun b =>
 (orE b ((andE (decide (p0 ≥ 127)) (some (decide (p0 ≤ 159)))).bind fun a =>
 some a)).bind fun c =>
 some c
theorem c_linotyperef18_Silent (e : Own c0 G F) (a : Int) {r : Bool} (H : f_linotyperef18_Silent a = some r) :
    Calls prog 35 #[J a] c0.w (Post c0 fun c v => Own c G (F) ∧ v = B r) := by
 unfold f_linotyperef18_Silent at H
 refine en func35 rfl rfl (sr (va (B false) (wln (W.seq (bn H fun z t H => bn H fun s n H => W.join (Jn c0 fun c l => Own c G (F) ∧ l = [(2, B s)]) ?_ ?_)))))
 ·clear H
  refine W.region (va (J a) (va (B (decide (a ≥ 0))) ?_))
  rcases bo (decide (a ≥ 0)) with f | f
  ·have x := anT f t
   refine vb f (wn (va (J a) (wn (va (B (decide (a ≤ 31))) ?_))))
   obtain rfl := si x
   refine va (B (decide (a ≤ 31))) ?_
   rcases bo (decide (a ≤ 31)) with g | g
   ·obtain rfl := orT g n
    exact vb g (ps (ps (ps (ps (ps (ps (va (B true) (va (B true) (wln ⟨c0, _, _, rfl, pt, us, e, rfl⟩)))))))))
   have i := orF g n
   refine vb g (wn (va (J a) (wn (va (B (decide (a ≥ 127))) (wn (bn i fun m u i => ?_))))))
   rcases bo (decide (a ≥ 127)) with h | h
   ·have y := anT h u
    refine vb h (wn (va (J a) (wn (va (B (decide (a ≤ 159))) (wn ?_)))))
    obtain rfl := si y
    refine va (B (decide (a ≤ 159))) ?_
    obtain rfl := si i
    exact va (B (decide (a ≤ 159))) (va (B (decide (a ≤ 159))) (wln ⟨c0, _, _, rfl, pt, us, e, rfl⟩))
   obtain rfl := anF h u
   refine vb h (ps (ps (wn (va (B false) ?_))))
   obtain rfl := si i
   exact va (B false) (va (B false) (wln ⟨c0, _, _, rfl, pt, us, e, rfl⟩))
  obtain rfl := anF f t
  refine vb f (ps (ps (va (B false) ?_)))
  have j : false = false := rfl
  have d := orF j n
  refine vb j (wn (va (J a) (wn (va (B (decide (a ≥ 127))) (wn (bn d fun m k d => ?_))))))
  rcases bo (decide (a ≥ 127)) with b | b
  ·have o := anT b k
   refine vb b (wn (va (J a) (wn (va (B (decide (a ≤ 159))) (wn ?_)))))
   obtain rfl := si o
   refine va (B (decide (a ≤ 159))) ?_
   obtain rfl := si d
   exact va (B (decide (a ≤ 159))) (va (B (decide (a ≤ 159))) (wln ⟨c0, _, _, rfl, pt, us, e, rfl⟩))
  obtain rfl := anF b k
  refine vb b (ps (ps (wn (va (B false) ?_))))
  obtain rfl := si d
  exact va (B false) (va (B false) (wln ⟨c0, _, _, rfl, pt, us, e, rfl⟩))
 rintro E M ⟨q, A, _, rfl, D, rfl, p, rfl⟩
 refine nrm (W.ret ?_)
 obtain rfl := si H
 exact r1 ⟨_, q, rfl, rfl, pt, p, rfl⟩
def f_linotyperef36_Do (p0 : G_linotyperef34_Pen) (p1 : Int) : Option (G_linotyperef34_Pen × Bool) :=
 (if (p1 == 13) = true then
 (f_linotyperef34_Pen_Hold p0).bind fun f =>
 some (f.L, f.At.Row, 0, false, f.Auto)
 else
 some (p0.L, p0.At.Row, p0.At.Col, p0.At.Pending, p0.Auto)).bind fun b =>
 (if (p1 == 10) = true then
 (f_linotyperef34_Pen_NewLine (⟨b.1, (⟨b.2.1, b.2.2.1, b.2.2.2.1⟩ : G_api_Cursor), b.2.2.2.2⟩ : G_linotyperef34_Pen)).bind fun c =>
 some (c.L, c.At.Row, c.At.Col, c.At.Pending, c.Auto)
 else
 some (b.1, b.2.1, b.2.2.1, b.2.2.2.1, b.2.2.2.2)).bind fun a =>
 (if (p1 == 8) = true then
 (f_linotyperef34_Pen_Hold (⟨a.1, (⟨a.2.1, a.2.2.1, a.2.2.2.1⟩ : G_api_Cursor), a.2.2.2.2⟩ : G_linotyperef34_Pen)).bind fun e =>
 some (e.L, e.At.Row, (imax 0 (w64 (e.At.Col - 1))), false, e.Auto)
 else
 some (a.1, a.2.1, a.2.2.1, a.2.2.2.1, a.2.2.2.2)).bind fun d =>
 (f_linotyperef18_Silent p1).bind fun g =>
 some ((⟨d.1, (⟨d.2.1, d.2.2.1, d.2.2.2.1⟩ : G_api_Cursor), d.2.2.2.2⟩ : G_linotyperef34_Pen), g)
theorem c_linotyperef36_Do (O0 : Own c0 G F) (h : G_linotyperef34_Pen) (i : Int) {r : G_linotyperef34_Pen × Bool} (h2 : Sl R_api_Line c0 v1 h.L) (H : f_linotyperef36_Do h i = some r) :
    Calls prog 39 #[.agg #[v1, I h.At.Row, I h.At.Col, B h.At.Pending, B h.Auto], J i] c0.w (Post c0 fun c v => ∃ y1, Own c G (F) ∧ v = .tuple #[.agg #[y1, I r.1.At.Row, I r.1.At.Col, B r.1.At.Pending, B r.1.Auto], B r.2] ∧ Sl R_api_Line c y1 r.1.L) := by
 unfold f_linotyperef36_Do at H
 refine en func39 rfl rfl (sr ?_)
 obtain ⟨a3, a4, a5, rfl⟩ := (h2).form
 refine me (al 34 [.slice a3 a4 a5, I h.At.Row, I h.At.Col, B h.At.Pending, B h.Auto] O0) ?_
 rintro v9 c8 l8 ⟨f, rfl, O7⟩
 refine me (al 34 [Y, I 0, I 0, B false, B false] O7) ?_
 rintro v13 j0 c3 ⟨p, rfl, S⟩
 refine va (B false) (wln (bn H fun e j b1 => W.seqJ (Jn j0 fun c l => ∃ v16, Own c G ((Eb p 34 [Y, I 0, I 0, B false, B false]) :: (Eb f 34 [v16, I e.2.1, I e.2.2.1, B e.2.2.2.1, B e.2.2.2.2]) :: F) ∧ l = [(1, J i), (2, Q f), (4, Q p)] ∧ Sl R_api_Line c v16 e.1) ?_ ?_))
 ·refine sr (va (J i) (va (B (i == 13)) (wln (cn j (fun x1 j => ?_) (fun x1 j => ?_)))))
  ·refine sr (vx (leN 34 0 [.slice a3 a4 a5, I h.At.Row, I h.At.Col, B h.At.Pending, B h.Auto] (S.on 1 rfl)) (bn j fun g z1 j => cl (c_linotyperef34_Pen_Hold S h h2.m z1) ?_))
   rintro v26 o2 d3 ⟨v19, d1, rfl, X⟩
   obtain ⟨z, A, D, rfl⟩ := (X).form
   refine md (sA 34 [.slice z A D, I g.At.Row, I g.At.Col, B g.At.Pending, B g.Auto] 1 d1 ⟨X.one, rfl, rfl, rfl, rfl, trivial⟩) ?_
   rintro p2 e3 e1
   refine wln (sr (va (.pointer (some ⟨f, 1, none⟩)) (va (.pointer (some ⟨f, 2, none⟩)) (md (sC 3 2 (I 0) [.slice z A D, I g.At.Row, I 0, B g.At.Pending, B g.Auto] 1 e1 ⟨rfl, trivial⟩) ?_))))
   rintro q2 f3 f1
   refine wln (W.region (va (.pointer (some ⟨f, 1, none⟩)) (va (.pointer (some ⟨f, 3, none⟩)) (md (sC 4 3 (B false) [.slice z A D, I g.At.Row, I 0, B false, B g.Auto] 1 f1 ⟨rfl, trivial⟩) ?_))))
   rintro q1 g3 g1
   refine wln ?_
   obtain rfl := si j
   exact ⟨q1, _, _, rfl, pt, us, (.slice z A D), g1, rfl, X.m⟩
  refine W.skip (nrm ?_)
  obtain rfl := si j
  exact ⟨j0, _, _, rfl, pt, us, (.slice a3 a4 a5), S, rfl, h2.m⟩
 rintro e_ w_ ⟨k0, x2, _, rfl, h3, rfl, v16, T, rfl, m0⟩
 refine bn b1 fun d k c1 => W.seqJ (Jn k0 fun c l => ∃ v45, Own c G ((Eb p 34 [Y, I 0, I 0, B false, B false]) :: (Eb f 34 [v45, I d.2.1, I d.2.2.1, B d.2.2.2.1, B d.2.2.2.2]) :: F) ∧ l = [(1, J i), (2, Q f), (4, Q p)] ∧ Sl R_api_Line c v45 d.1) ?_ ?_
 ·refine sr (va (J i) (va (B (i == 10)) (wln (cn k (fun a2 k => ?_) (fun a2 k => ?_)))))
  ·refine W.region (vx (leN 34 0 [v16, I e.2.1, I e.2.2.1, B e.2.2.2.1, B e.2.2.2.2] (T.on 1 rfl)) (bn k fun u b2 k => cl (c_linotyperef34_Pen_NewLine T (⟨e.1, (⟨e.2.1, e.2.2.1, e.2.2.2.1⟩ : G_api_Cursor), e.2.2.2.2⟩ : G_linotyperef34_Pen) m0 b2) ?_))
   rintro v55 s2 i3 ⟨v48, h1, rfl, Z⟩
   obtain ⟨g0, h0, i0, rfl⟩ := (Z).form
   refine md (sA 34 [.slice g0 h0 i0, I u.At.Row, I u.At.Col, B u.At.Pending, B u.Auto] 1 h1 ⟨Z.one, rfl, rfl, rfl, rfl, trivial⟩) ?_
   rintro s1 j3 i1
   refine wln ?_
   obtain rfl := si k
   exact ⟨s1, _, _, rfl, pt, us, (.slice g0 h0 i0), i1, rfl, Z.m⟩
  refine W.skip (nrm ?_)
  obtain rfl := si k
  exact ⟨k0, _, _, rfl, pt, us, v16, T, rfl, m0⟩
 rintro e_ w_ ⟨l0, y2, _, rfl, k3, rfl, v45, U, rfl, o0⟩
 refine bn c1 fun a n P => W.seqJ (Jn l0 fun c l => ∃ o, Own c G ((Eb p 34 [Y, I 0, I 0, B false, B false]) :: (Eb f 34 [o, I a.2.1, I a.2.2.1, B a.2.2.2.1, B a.2.2.2.2]) :: F) ∧ l = [(1, J i), (2, Q f), (4, Q p)] ∧ Sl R_api_Line c o a.1) ?_ ?_
 ·refine sr (va (J i) (va (B (i == 8)) (wln (cn n (fun c2 n => ?_) (fun c2 n => ?_)))))
  ·refine sr (vx (leN 34 0 [v45, I d.2.1, I d.2.2.1, B d.2.2.2.1, B d.2.2.2.2] (U.on 1 rfl)) (bn n fun b d2 n => cl (c_linotyperef34_Pen_Hold U (⟨d.1, (⟨d.2.1, d.2.2.1, d.2.2.2.1⟩ : G_api_Cursor), d.2.2.2.2⟩ : G_linotyperef34_Pen) o0 d2) ?_))
   rintro s3 t2 l3 ⟨q3, j1, rfl, a0⟩
   obtain ⟨E, M, N, rfl⟩ := (a0).form
   refine md (sA 34 [.slice E M N, I b.At.Row, I b.At.Col, B b.At.Pending, B b.Auto] 1 j1 ⟨a0.one, rfl, rfl, rfl, rfl, trivial⟩) ?_
   rintro u2 m3 e0
   refine wln (sr (va (.pointer (some ⟨f, 1, none⟩)) (va (.pointer (some ⟨f, 2, none⟩)) (vx (le1 2 underlying3 (e0.on 1 rfl)) (va (I (w64 (b.At.Col - 1))) (va (I (imax 0 (w64 (b.At.Col - 1)))) (va (.pointer (some ⟨f, 1, none⟩)) (va (.pointer (some ⟨f, 2, none⟩)) (md (sC 3 2 (I (imax 0 (w64 (b.At.Col - 1)))) [.slice E M N, I b.At.Row, I (imax 0 (w64 (b.At.Col - 1))), B b.At.Pending, B b.Auto] 1 e0 ⟨rfl, trivial⟩) ?_)))))))))
   rintro v2 n3 k1
   refine wln (W.region (va (.pointer (some ⟨f, 1, none⟩)) (va (.pointer (some ⟨f, 3, none⟩)) (md (sC 4 3 (B false) [.slice E M N, I b.At.Row, I (imax 0 (w64 (b.At.Col - 1))), B false, B b.Auto] 1 k1 ⟨rfl, trivial⟩) ?_))))
   rintro t1 o3 m1
   refine wln ?_
   obtain rfl := si n
   exact ⟨t1, _, _, rfl, pt, us, (.slice E M N), m1, rfl, a0.m⟩
  refine W.skip (nrm ?_)
  obtain rfl := si n
  exact ⟨l0, _, _, rfl, pt, us, v45, U, rfl, o0⟩
 rintro e_ w_ ⟨w2, z2, _, rfl, p3, rfl, o, n1, rfl, b0⟩
 refine W.seq (rD [] (Kp G0 [(Eb f 34 [o, I a.2.1, I a.2.2.1, B a.2.2.2.1, B a.2.2.2.2])]) n1 ?_)
 intro u1 e2 f0
 have f2 : Kp G0 [(Eb f 34 [o, I a.2.1, I a.2.2.1, B a.2.2.2.1, B a.2.2.2.2])] u1 := (Kp.cons (f0.on 1 rfl) Kp.nil0)
 refine tkx 0 f2 (fun c' b3 hk => leN 34 0 [o, I a.2.1, I a.2.2.1, B a.2.2.2.1, B a.2.2.2.2] (hk.on 0 rfl)) (ta 1 (J i) (bn P fun d0 w0 P => o1 2 (gc 2 (c_linotyperef18_Silent f0 i w0) ?_)))
 rintro n2 v0 y0 ⟨R, rfl⟩
 have z0 : Kp G0 [(Eb f 34 [o, I a.2.1, I a.2.2.1, B a.2.2.2.1, B a.2.2.2.2])] v0 := (Kp.cons (R.on 1 rfl) Kp.nil0)
 refine ⟨.inr z0, ?_⟩
 obtain ⟨q, s, t, rfl⟩ := ((b0.mono (e2.trans y0))).form
 refine o1 3 (gD 3 (sA 34 [.slice q s t, I a.2.1, I a.2.2.1, B a.2.2.2.1, B a.2.2.2.2] 0 R ⟨b0.m.one, rfl, rfl, rfl, rfl, trivial⟩) ?_)
 rintro y m2 x
 have a1 : Kp G0 [(Eb f 34 [(.slice q s t), I a.2.1, I a.2.2.1, B a.2.2.2.1, B a.2.2.2.2])] y := (Kp.cons (x.on 1 rfl) Kp.nil0)
 refine ⟨.inr a1, ta 4 (B d0) (dn (nrm (W.ret ?_)))⟩
 obtain rfl := si P
 have q0 := x.sD 2 []
 exact retCT (c := y) (vs := [.slice q s t, I a.2.1, I a.2.2.1, B a.2.2.2.1, B a.2.2.2.2]) (v := B d0) rfl (by kernel_rfl) (by kernel_rfl) (by kernel_rfl) (by kernel_rfl) (x.on 0 rfl _ rfl).1 ⟨_, y, rfl, rfl, pt, (.slice q s t), q0, rfl, b0.m⟩
def f_linotyperef09_list1  : Option (List (Int × Int)) :=
 some ([(13, 13)] : List (Int × Int))
theorem c_linotyperef09_list1 (d : Own c0 G F) {r : List (Int × Int)} (H : f_linotyperef09_list1  = some r) :
    Calls prog 154 #[] c0.w (Post c0 fun c v => ∃ a b, Own c G (es true RA2_i64 a 209 b r :: F) ∧ v = a ∧ OA RA2_i64 c a b r) := by
 unfold f_linotyperef09_list1 at H
 refine en func154 rfl rfl (sr (va (Y) (wln (sr (va (.agg #[I 13, I 13]) (me (sl RA2_i64 209 [[I 13, I 13]] ([(13, 13)] : List (Int × Int)) d ⟨rfl, trivial⟩) ?_))))))
 rintro v5 f i ⟨h, e, g⟩
 refine va (v5) (wln (W.ret ?_))
 obtain rfl := si H
 exact r1 ⟨_, f, rfl, rfl, pt, v5, h, e, rfl, g⟩
def f_linotyperef09_list2  : Option (List (Int × Int)) :=
 some ([(10, 10)] : List (Int × Int))
theorem c_linotyperef09_list2 (d : Own c0 G F) {r : List (Int × Int)} (H : f_linotyperef09_list2  = some r) :
    Calls prog 155 #[] c0.w (Post c0 fun c v => ∃ a b, Own c G (es true RA2_i64 a 209 b r :: F) ∧ v = a ∧ OA RA2_i64 c a b r) := by
 unfold f_linotyperef09_list2 at H
 refine en func155 rfl rfl (sr (va (Y) (wln (sr (va (.agg #[I 10, I 10]) (me (sl RA2_i64 209 [[I 10, I 10]] ([(10, 10)] : List (Int × Int)) d ⟨rfl, trivial⟩) ?_))))))
 rintro v5 f i ⟨h, e, g⟩
 refine va (v5) (wln (W.ret ?_))
 obtain rfl := si H
 exact r1 ⟨_, f, rfl, rfl, pt, v5, h, e, rfl, g⟩
def f_linotyperef09_list3  : Option (List (Int × Int)) :=
 some ([(0, 9), (11, 12), (14, 31), (127, 159), (173, 173), (1564, 1564), (6158, 6158), (8203, 8203), (8206, 8207), (8232, 8238), (8288, 8303), (65279, 65279), (65520, 65531), (917504, 917535), (917632, 917759), (918000, 921599)] : List (Int × Int))
theorem c_linotyperef09_list3 (d : Own c0 G F) {r : List (Int × Int)} (H : f_linotyperef09_list3  = some r) :
    Calls prog 156 #[] c0.w (Post c0 fun c v => ∃ a b, Own c G (es true RA2_i64 a 209 b r :: F) ∧ v = a ∧ OA RA2_i64 c a b r) := by
 unfold f_linotyperef09_list3 at H
 refine en func156 rfl rfl (sr (va (Y) (wln (sr (va (.agg #[I 0, I 9]) (va (.agg #[I 11, I 12]) (va (.agg #[I 14, I 31]) (va (.agg #[I 127, I 159]) (va (.agg #[I 173, I 173]) (va (.agg #[I 1564, I 1564]) (va (.agg #[I 6158, I 6158]) (va (.agg #[I 8203, I 8203]) (va (.agg #[I 8206, I 8207]) (va (.agg #[I 8232, I 8238]) (va (.agg #[I 8288, I 8303]) (va (.agg #[I 65279, I 65279]) (va (.agg #[I 65520, I 65531]) (va (.agg #[I 917504, I 917535]) (va (.agg #[I 917632, I 917759]) (va (.agg #[I 918000, I 921599]) (me (sl RA2_i64 209 [[I 0, I 9], [I 11, I 12], [I 14, I 31], [I 127, I 159], [I 173, I 173], [I 1564, I 1564], [I 6158, I 6158], [I 8203, I 8203], [I 8206, I 8207], [I 8232, I 8238], [I 8288, I 8303], [I 65279, I 65279], [I 65520, I 65531], [I 917504, I 917535], [I 917632, I 917759], [I 918000, I 921599]] ([(0, 9), (11, 12), (14, 31), (127, 159), (173, 173), (1564, 1564), (6158, 6158), (8203, 8203), (8206, 8207), (8232, 8238), (8288, 8303), (65279, 65279), (65520, 65531), (917504, 917535), (917632, 917759), (918000, 921599)] : List (Int × Int)) d ⟨rfl, rfl, rfl, rfl, rfl, rfl, rfl, rfl, rfl, rfl, rfl, rfl, rfl, rfl, rfl, rfl, trivial⟩) ?_)))))))))))))))))))))
 rintro v5 f i ⟨h, e, g⟩
 refine va (v5) (wln (W.ret ?_))
 obtain rfl := si H
 exact r1 ⟨_, f, rfl, rfl, pt, v5, h, e, rfl, g⟩
def t_linotyperef09_list4_80 : List (Int × Int) := [(768, 879), (1155, 1161), (1425, 1469), (1471, 1471), (1473, 1474), (1476, 1477), (1479, 1479), (1552, 1562), (1611, 1631), (1648, 1648), (1750, 1756), (1759, 1764), (1767, 1768), (1770, 1773), (1809, 1809), (1840, 1866), (1958, 1968), (2027, 2035), (2070, 2073), (2075, 2083), (2259, 2273), (2275, 2306), (2362, 2362), (2364, 2364), (2369, 2376), (2381, 2381), (2385, 2391), (2402, 2403), (2433, 2433), (2492, 2492), (2494, 2494), (2497, 2500), (2509, 2509), (2519, 2519), (2530, 2531), (2561, 2562), (2620, 2620), (2625, 2626), (2631, 2632), (2635, 2637), (2748, 2748), (2753, 2757), (2765, 2765), (2876, 2876), (2878, 2879), (2881, 2884), (2893, 2893), (2902, 2903), (3132, 3132), (3134, 3136), (3142, 3144), (3146, 3149), (3276, 3277), (3390, 3390), (3393, 3396), (3405, 3405), (3633, 3633), (3636, 3642), (3655, 3662), (3761, 3761), (3764, 3772), (3864, 3865), (3953, 3966), (4957, 4959), (6832, 6862), (7616, 7679), (8204, 8204), (8400, 8432), (12330, 12335), (12441, 12442), (42607, 42610), (64286, 64286), (65024, 65039), (65056, 65071), (127995, 127999), (917536, 917631), (917760, 917999)]
def f_linotyperef09_list4  : Option (List (Int × Int)) :=
 some t_linotyperef09_list4_80
theorem c_linotyperef09_list4 (d : Own c0 G F) {r : List (Int × Int)} (H : f_linotyperef09_list4  = some r) :
    Calls prog 157 #[] c0.w (Post c0 fun c v => ∃ a b, Own c G (es true RA2_i64 a 209 b r :: F) ∧ v = a ∧ OA RA2_i64 c a b r) := by
 unfold f_linotyperef09_list4 at H
 refine en func157 rfl rfl (sr (va (Y) (wln (sr (va (.agg #[I 768, I 879]) (va (.agg #[I 1155, I 1161]) (va (.agg #[I 1425, I 1469]) (va (.agg #[I 1471, I 1471]) (va (.agg #[I 1473, I 1474]) (va (.agg #[I 1476, I 1477]) (va (.agg #[I 1479, I 1479]) (va (.agg #[I 1552, I 1562]) (va (.agg #[I 1611, I 1631]) (va (.agg #[I 1648, I 1648]) (va (.agg #[I 1750, I 1756]) (va (.agg #[I 1759, I 1764]) (va (.agg #[I 1767, I 1768]) (va (.agg #[I 1770, I 1773]) (va (.agg #[I 1809, I 1809]) (va (.agg #[I 1840, I 1866]) (va (.agg #[I 1958, I 1968]) (va (.agg #[I 2027, I 2035]) (va (.agg #[I 2070, I 2073]) (va (.agg #[I 2075, I 2083]) (va (.agg #[I 2259, I 2273]) (va (.agg #[I 2275, I 2306]) (va (.agg #[I 2362, I 2362]) (va (.agg #[I 2364, I 2364]) (va (.agg #[I 2369, I 2376]) (va (.agg #[I 2381, I 2381]) (va (.agg #[I 2385, I 2391]) (va (.agg #[I 2402, I 2403]) (va (.agg #[I 2433, I 2433]) (va (.agg #[I 2492, I 2492]) (va (.agg #[I 2494, I 2494]) (va (.agg #[I 2497, I 2500]) (va (.agg #[I 2509, I 2509]) (va (.agg #[I 2519, I 2519]) (va (.agg #[I 2530, I 2531]) (va (.agg #[I 2561, I 2562]) (va (.agg #[I 2620, I 2620]) (va (.agg #[I 2625, I 2626]) (va (.agg #[I 2631, I 2632]) (va (.agg #[I 2635, I 2637]) (va (.agg #[I 2748, I 2748]) (va (.agg #[I 2753, I 2757]) (va (.agg #[I 2765, I 2765]) (va (.agg #[I 2876, I 2876]) (va (.agg #[I 2878, I 2879]) (va (.agg #[I 2881, I 2884]) (va (.agg #[I 2893, I 2893]) (va (.agg #[I 2902, I 2903]) (va (.agg #[I 3132, I 3132]) (va (.agg #[I 3134, I 3136]) (va (.agg #[I 3142, I 3144]) (va (.agg #[I 3146, I 3149]) (va (.agg #[I 3276, I 3277]) (va (.agg #[I 3390, I 3390]) (va (.agg #[I 3393, I 3396]) (va (.agg #[I 3405, I 3405]) (va (.agg #[I 3633, I 3633]) (va (.agg #[I 3636, I 3642]) (va (.agg #[I 3655, I 3662]) (va (.agg #[I 3761, I 3761]) (va (.agg #[I 3764, I 3772]) (va (.agg #[I 3864, I 3865]) (va (.agg #[I 3953, I 3966]) (va (.agg #[I 4957, I 4959]) (va (.agg #[I 6832, I 6862]) (va (.agg #[I 7616, I 7679]) (va (.agg #[I 8204, I 8204]) (va (.agg #[I 8400, I 8432]) (va (.agg #[I 12330, I 12335]) (va (.agg #[I 12441, I 12442]) (va (.agg #[I 42607, I 42610]) (va (.agg #[I 64286, I 64286]) (va (.agg #[I 65024, I 65039]) (va (.agg #[I 65056, I 65071]) (va (.agg #[I 127995, I 127999]) (va (.agg #[I 917536, I 917631]) (va (.agg #[I 917760, I 917999]) (me (Own.sl (R := RA2_i64) (E := 209) (ls := t_linotyperef09_list4_80.map (fun x => [I x.1, I x.2])) (vs := (t_linotyperef09_list4_80.map (fun x => [I x.1, I x.2])).flatten) (xs := t_linotyperef09_list4_80) true d (Nat.succ_pos _) rfl (AllR.map _ (fun _ => rfl) _) (by kernel_rfl) (by kernel_rfl)) ?_))))))))))))))))))))))))))))))))))))))))))))))))))))))))))))))))))))))))))))))))))
 rintro v5 f i ⟨h, e, g⟩
 refine va (v5) (wln (W.ret ?_))
 obtain rfl := si H
 exact r1 ⟨_, f, rfl, rfl, pt, v5, h, e, rfl, g⟩
def f_linotyperef09_list5  : Option (List (Int × Int)) :=
 some ([(8205, 8205)] : List (Int × Int))
theorem c_linotyperef09_list5 (d : Own c0 G F) {r : List (Int × Int)} (H : f_linotyperef09_list5  = some r) :
    Calls prog 158 #[] c0.w (Post c0 fun c v => ∃ a b, Own c G (es true RA2_i64 a 209 b r :: F) ∧ v = a ∧ OA RA2_i64 c a b r) := by
 unfold f_linotyperef09_list5 at H
 refine en func158 rfl rfl (sr (va (Y) (wln (sr (va (.agg #[I 8205, I 8205]) (me (sl RA2_i64 209 [[I 8205, I 8205]] ([(8205, 8205)] : List (Int × Int)) d ⟨rfl, trivial⟩) ?_))))))
 rintro v5 f i ⟨h, e, g⟩
 refine va (v5) (wln (W.ret ?_))
 obtain rfl := si H
 exact r1 ⟨_, f, rfl, rfl, pt, v5, h, e, rfl, g⟩
def f_linotyperef09_list6  : Option (List (Int × Int)) :=
 some ([(127462, 127487)] : List (Int × Int))
theorem c_linotyperef09_list6 (d : Own c0 G F) {r : List (Int × Int)} (H : f_linotyperef09_list6  = some r) :
    Calls prog 159 #[] c0.w (Post c0 fun c v => ∃ a b, Own c G (es true RA2_i64 a 209 b r :: F) ∧ v = a ∧ OA RA2_i64 c a b r) := by
 unfold f_linotyperef09_list6 at H
 refine en func159 rfl rfl (sr (va (Y) (wln (sr (va (.agg #[I 127462, I 127487]) (me (sl RA2_i64 209 [[I 127462, I 127487]] ([(127462, 127487)] : List (Int × Int)) d ⟨rfl, trivial⟩) ?_))))))
 rintro v5 f i ⟨h, e, g⟩
 refine va (v5) (wln (W.ret ?_))
 obtain rfl := si H
 exact r1 ⟨_, f, rfl, rfl, pt, v5, h, e, rfl, g⟩
def f_linotyperef09_list7  : Option (List (Int × Int)) :=
 some ([(1536, 1541), (1757, 1757), (1807, 1807), (2192, 2193), (2274, 2274), (3406, 3406), (69821, 69821), (69837, 69837)] : List (Int × Int))
theorem c_linotyperef09_list7 (d : Own c0 G F) {r : List (Int × Int)} (H : f_linotyperef09_list7  = some r) :
    Calls prog 160 #[] c0.w (Post c0 fun c v => ∃ a b, Own c G (es true RA2_i64 a 209 b r :: F) ∧ v = a ∧ OA RA2_i64 c a b r) := by
 unfold f_linotyperef09_list7 at H
 refine en func160 rfl rfl (sr (va (Y) (wln (sr (va (.agg #[I 1536, I 1541]) (va (.agg #[I 1757, I 1757]) (va (.agg #[I 1807, I 1807]) (va (.agg #[I 2192, I 2193]) (va (.agg #[I 2274, I 2274]) (va (.agg #[I 3406, I 3406]) (va (.agg #[I 69821, I 69821]) (va (.agg #[I 69837, I 69837]) (me (sl RA2_i64 209 [[I 1536, I 1541], [I 1757, I 1757], [I 1807, I 1807], [I 2192, I 2193], [I 2274, I 2274], [I 3406, I 3406], [I 69821, I 69821], [I 69837, I 69837]] ([(1536, 1541), (1757, 1757), (1807, 1807), (2192, 2193), (2274, 2274), (3406, 3406), (69821, 69821), (69837, 69837)] : List (Int × Int)) d ⟨rfl, rfl, rfl, rfl, rfl, rfl, rfl, rfl, trivial⟩) ?_)))))))))))))
 rintro v5 f i ⟨h, e, g⟩
 refine va (v5) (wln (W.ret ?_))
 obtain rfl := si H
 exact r1 ⟨_, f, rfl, rfl, pt, v5, h, e, rfl, g⟩
def t_linotyperef09_list8_29 : List (Int × Int) := [(2307, 2307), (2363, 2363), (2366, 2368), (2377, 2380), (2382, 2383), (2434, 2435), (2495, 2496), (2503, 2504), (2507, 2508), (2563, 2563), (2622, 2624), (2691, 2691), (2750, 2752), (2761, 2761), (2818, 2819), (2880, 2880), (2887, 2888), (3073, 3075), (3137, 3140), (3330, 3331), (3391, 3392), (3398, 3400), (3635, 3635), (3763, 3763), (3902, 3903), (4155, 4156)]
def f_linotyperef09_list8  : Option (List (Int × Int)) :=
 some t_linotyperef09_list8_29
theorem c_linotyperef09_list8 (d : Own c0 G F) {r : List (Int × Int)} (H : f_linotyperef09_list8  = some r) :
    Calls prog 161 #[] c0.w (Post c0 fun c v => ∃ a b, Own c G (es true RA2_i64 a 209 b r :: F) ∧ v = a ∧ OA RA2_i64 c a b r) := by
 unfold f_linotyperef09_list8 at H
 refine en func161 rfl rfl (sr (va (Y) (wln (sr (va (.agg #[I 2307, I 2307]) (va (.agg #[I 2363, I 2363]) (va (.agg #[I 2366, I 2368]) (va (.agg #[I 2377, I 2380]) (va (.agg #[I 2382, I 2383]) (va (.agg #[I 2434, I 2435]) (va (.agg #[I 2495, I 2496]) (va (.agg #[I 2503, I 2504]) (va (.agg #[I 2507, I 2508]) (va (.agg #[I 2563, I 2563]) (va (.agg #[I 2622, I 2624]) (va (.agg #[I 2691, I 2691]) (va (.agg #[I 2750, I 2752]) (va (.agg #[I 2761, I 2761]) (va (.agg #[I 2818, I 2819]) (va (.agg #[I 2880, I 2880]) (va (.agg #[I 2887, I 2888]) (va (.agg #[I 3073, I 3075]) (va (.agg #[I 3137, I 3140]) (va (.agg #[I 3330, I 3331]) (va (.agg #[I 3391, I 3392]) (va (.agg #[I 3398, I 3400]) (va (.agg #[I 3635, I 3635]) (va (.agg #[I 3763, I 3763]) (va (.agg #[I 3902, I 3903]) (va (.agg #[I 4155, I 4156]) (me (Own.sl (R := RA2_i64) (E := 209) (ls := t_linotyperef09_list8_29.map (fun x => [I x.1, I x.2])) (vs := (t_linotyperef09_list8_29.map (fun x => [I x.1, I x.2])).flatten) (xs := t_linotyperef09_list8_29) true d (Nat.succ_pos _) rfl (AllR.map _ (fun _ => rfl) _) (by kernel_rfl) (by kernel_rfl)) ?_)))))))))))))))))))))))))))))))
 rintro v5 f i ⟨h, e, g⟩
 refine va (v5) (wln (W.ret ?_))
 obtain rfl := si H
 exact r1 ⟨_, f, rfl, rfl, pt, v5, h, e, rfl, g⟩
def f_linotyperef09_In (p0 : List (Int × Int)) (p1 : Int) : Option (Bool) :=
 (iter (σ := Int) (τ := Bool ⊕ Unit) (((p0.length : Int) - 0).toNat + 1) (fun b =>
 if (decide (b < (p0.length : Int))) = true then
 (idx p0 b).bind fun d =>
 (andE (decide ((w64 p1) ≥ d.1)) ((idx p0 b).bind fun e =>
 some (decide ((w64 p1) ≤ e.2)))).bind fun c =>
 if c = true then
 some (.inr (.inl true))
 else
 some (.inl ((w64 (b + 1))))
 else
 some (.inr (.inr ()))) (0)).bind fun a =>
 match a with
 | .inl a =>
 some a
 | .inr a =>
 some false
theorem c_linotyperef09_In (O0 : Own c0 G F) (A : List (Int × Int)) (b : Int) {r : Bool} (g : Sl RA2_i64 c0 v1 A) (H : f_linotyperef09_In A b = some r) :
    Calls prog 162 #[v1, J b] c0.w (Post c0 fun c v => Own c G (F) ∧ v = B r) := by
 unfold f_linotyperef09_In at H
 refine en func162 rfl rfl (sr (va (B false) (wln (W.seq (sr (va (I 0) (wln (W.block (bn H fun h h3 u => lp h3 (fun a => Jn c0 fun c l => Own c G (F) ∧ l = [(0, v1), (1, J b), (5, I a)]) (fun t => match t with | .inl E => (fun g0 ex e w => ex = .ret ∧ (Jn c0 fun c l => Own c G (F) ∧ l = [(4, B g0)]) e w) E | .inr E => (fun l0 ex e w => ex = .exit 0 ∧ (Jn c0 fun c l => Own c G (F) ∧ l = []) e w) E) ?_ ?_ ?_)))))))))
 ·clear u h3
  intro a v0 S h0 H
  revert S h0
  rintro z D ⟨k, g6, _, rfl, l5, rfl, x, rfl⟩
  refine W.seq (sr (va (I a) (va (v1) (vx (ln 3 underlying193 g.m) (va (B (decide (a < (A.length : Int)))) (wln (cn H (fun U H => ?_) (fun U H => ?_))))))))
  ·refine W.skip (nrm (W.seq (W.block (W.seq (bn H fun i p H => bn H fun y q H => W.join (Jn k fun c l => Own c G (F) ∧ l = [(0, v1), (1, J b), (5, I a), (29, B y)]) ?_ ?_)))))
   ·clear H
    refine W.region (va (J b) (va (I (w64 b)) (va (v1) (va (I a) ?_))))
    obtain ⟨j0, X, e0⟩ := Sl.at (g.mono l5) (idx_get p)
    obtain rfl := X
    refine vx (ix underlying193 g.m p) (va (.pointer (some ⟨sb v1, so v1 + a.toNat * 2, none⟩)) (vx (l1 underlying3 (e0 0 _ rfl)) (va (B (decide ((w64 b) ≥ i.1))) ?_)))
    rcases bo (decide ((w64 b) ≥ i.1)) with d | d
    ·have f := anT d q
     refine vb d (wn (va (J b) (wn (va (I (w64 b)) (wn (va (v1) (wn (va (I a) (wn (bn f fun j s f => ?_))))))))))
     obtain ⟨k0, Z, f0⟩ := Sl.at (g.mono l5) (idx_get s)
     obtain rfl := Z
     refine vx (ix underlying193 g.m s) (wn (va (.pointer (some ⟨sb v1, so v1 + a.toNat * 2 + 1, none⟩)) (wn (vx (l1 underlying3 (f0 1 _ rfl)) (wn (va (B (decide ((w64 b) ≤ j.2))) ?_))))))
     obtain rfl := si f
     exact va (B (decide ((w64 b) ≤ j.2))) (wln ⟨k, _, _, rfl, pt, us, x, rfl⟩)
    obtain rfl := anF d q
    exact vb d (ps (ps (ps (ps (ps (ps (ps (ps (va (B false) (wln ⟨k, _, _, rfl, pt, us, x, rfl⟩))))))))))
   rintro z D ⟨o, m0, _, rfl, s0, rfl, n, rfl⟩
   refine nrm (cn H (fun a0 H => ?_) (fun a0 H => ?_))
   ·refine sr (va (B true) (wln (W.ret (bkr (thr ?_)))))
    obtain rfl := si H
    exact ⟨_, rfl, ⟨rfl, ⟨o, _, _, rfl, pt, us, n, rfl⟩⟩⟩
   refine W.skip (bkn (nrm (W.region (va (I a) (va (I (w64 (a + 1))) (va (I (w64 (a + 1))) (WL.nil ?_)))))))
   obtain rfl := si H
   exact ⟨_, rfl, ⟨o, _, _, rfl, pt, us, n, rfl⟩⟩
  refine W.exit (thx ?_)
  obtain rfl := si H
  exact ⟨_, rfl, rfl, ⟨k, _, _, rfl, pt, us, x, rfl⟩⟩
 ·exact ⟨c0, _, _, rfl, pt, us, O0, rfl⟩
 rcases h with h | h
 ·intro T; revert T
  rintro _ z D ⟨rfl, P, o0, _, rfl, t0, rfl, M, rfl⟩
  refine bkr (thr ?_)
  obtain rfl := si u
  exact r1 ⟨_, P, rfl, rfl, pt, M, rfl⟩
 rintro _ z D ⟨rfl, R, q0, _, rfl, u0, rfl, N, rfl⟩
 refine bke (nrm (sr (va (B false) (wln (W.ret ?_)))))
 obtain rfl := si u
 exact r1 ⟨_, R, rfl, rfl, pt, N, rfl⟩
def f_linotyperef08_Split (p0 : Int) : Option (Int × Int × Int) :=
 (orE (decide ((w64 p0) < 44032)) (some (decide ((w64 p0) > 55203)))).bind fun e =>
 if e = true then
 some (0, 0, 0)
 else
 (iter (σ := Int × Int) (τ := (Int × Int × Int) ⊕ Unit) (((4370 : Int) - 4352).toNat + 2) (fun d =>
 if (decide (d.2 ≤ 4370)) = true then
 (iter (σ := Int × Int) (τ := (Int × Int × Int) ⊕ Int) (((4469 : Int) - 4449).toNat + 2) (fun a =>
 if (decide (a.2 ≤ 4469)) = true then
 if (decide ((w64 p0) < (w64 (a.1 + 28)))) = true then
 (if ((w64 ((w64 (4519 + (w64 p0))) - a.1)) == 4519) = true then
 some (0)
 else
 some ((w64 ((w64 (4519 + (w64 p0))) - a.1)))).bind fun f =>
 some (.inr (.inl (d.2, a.2, f)))
 else
 some (.inl ((w64 (a.1 + 28)), (w64 (a.2 + 1))))
 else
 some (.inr (.inr (a.1)))) (d.1, 4449)).bind fun b =>
 match b with
 | .inl b =>
 some (.inr (.inl b))
 | .inr b =>
 some (.inl (b, (w64 (d.2 + 1))))
 else
 some (.inr (.inr ()))) (44032, 4352)).bind fun c =>
 match c with
 | .inl c =>
 some c
 | .inr c =>
 some (0, 0, 0)
theorem c_linotyperef08_Split (T : Own c0 G F) (d : Int) {r : Int × Int × Int} (H : f_linotyperef08_Split d = some r) :
    Calls prog 184 #[J d] c0.w (Post c0 fun c v => Own c G (F) ∧ v = .tuple #[I r.1, I r.2.1, I r.2.2]) := by
 unfold f_linotyperef08_Split at H
 refine en func184 rfl rfl (sr (va (I 0) (va (I 0) (va (I 0) (wln (sr (va (J d) (va (I (w64 d)) (va (I (w64 d)) (wln (W.seq (W.seq (bn H fun R h1 H => W.join (Jn c0 fun c l => Own c G (F) ∧ l = [(5, I (w64 d)), (17, B R)]) ?_ ?_)))))))))))))
 ·clear H
  refine W.region (va (I (w64 d)) (va (B (decide ((w64 d) < 44032))) ?_))
  rcases bo (decide ((w64 d) < 44032)) with A | A
  ·obtain rfl := orT A h1
   exact vb A (ps (ps (va (B true) (wln ⟨c0, _, _, rfl, pt, us, T, rfl⟩))))
  have H3 := orF A h1
  refine vb A (wn (va (I (w64 d)) (wn (va (B (decide ((w64 d) > 55203))) ?_))))
  obtain rfl := si H3
  exact va (B (decide ((w64 d) > 55203))) (wln ⟨c0, _, _, rfl, pt, us, T, rfl⟩)
 rintro j n ⟨x, g5, _, rfl, l4, rfl, O6, rfl⟩
 refine nrm (cn H (fun k0 H => ?_) (fun k0 H => ?_))
 ·refine sr (va (I 0) (va (I 0) (va (I 0) (wln (W.ret (thr ?_))))))
  obtain rfl := si H
  exact r3 ⟨_, x, rfl, rfl, pt, O6, rfl⟩
 refine W.skip (nrm (sr (va (I 44032) (wln (W.seq (sr (va (I 4352) (wln (W.block (bn H fun k N s => lp N (fun b => Jn x fun c l => Own c G (F) ∧ l = [(5, I (w64 d)), (6, I b.1), (7, I b.2)]) (fun t => match t with | .inl o => (fun f ex e w => ex = .ret ∧ (Jn x fun c l => Own c G (F) ∧ l = [(2, I f.1), (3, I f.2.1), (4, I f.2.2)]) e w) o | .inr o => (fun t0 ex e w => ex = .exit 0 ∧ (Jn x fun c l => Own c G (F) ∧ l = []) e w) o) ?_ ?_ ?_))))))))))
 ·clear s N
  intro b s0 y D H
  revert y D
  rintro j n ⟨h, v0, _, rfl, c1, rfl, M, rfl⟩
  refine W.seq (sr (va (I b.2) (va (B (decide (b.2 ≤ 4370))) (wln (cn H (fun l0 H => ?_) (fun l0 H => ?_))))))
  ·refine W.skip (nrm (W.seq (W.block (sr (va (I 4449) (wln (W.block (bn H fun m P u => lp P (fun a => Jn h fun c l => Own c G (F) ∧ l = [(5, I (w64 d)), (6, I a.1), (7, I b.2), (8, I a.2)]) (fun t => match t with | .inl o => (fun f ex e w => ex = .ret ∧ (Jn h fun c l => Own c G (F) ∧ l = [(2, I f.1), (3, I f.2.1), (4, I f.2.2)]) e w) o | .inr o => (fun E ex e w => ex = .exit 2 ∧ (Jn h fun c l => Own c G (F) ∧ l = [(5, I (w64 d)), (6, I E), (7, I b.2)]) e w) o) ?_ ?_ ?_))))))))
   ·clear u P
    intro a s0 y D H
    revert y D
    rintro j n ⟨i, w0, _, rfl, d1, rfl, q, rfl⟩
    refine W.seq (sr (va (I a.2) (va (B (decide (a.2 ≤ 4469))) (wln (cn H (fun m0 H => ?_) (fun m0 H => ?_))))))
    ·refine W.skip (nrm (W.seq (W.block (W.seq (sr (va (I (w64 d)) (va (I a.1) (va (I (w64 (a.1 + 28))) (va (B (decide ((w64 d) < (w64 (a.1 + 28))))) (wln (cn H (fun o0 H => ?_) (fun o0 H => ?_))))))))))))
     ·refine sr (va (I (w64 d)) (va (I (w64 (4519 + (w64 d)))) (va (I a.1) (va (I (w64 ((w64 (4519 + (w64 d))) - a.1))) (va (I (w64 ((w64 (4519 + (w64 d))) - a.1))) (wln (bn H fun p g S => W.seqJ (Jn i fun c l => Own c G (F) ∧ l = [(7, I b.2), (8, I a.2), (9, I p)]) ?_ ?_)))))))
      ·refine sr (va (I (w64 ((w64 (4519 + (w64 d))) - a.1))) (va (B ((w64 ((w64 (4519 + (w64 d))) - a.1)) == 4519)) (wln (cn g (fun q0 g => ?_) (fun q0 g => ?_)))))
       ·refine W.region (va (I 0) (wln ?_))
        obtain rfl := si g
        exact ⟨i, _, _, rfl, pt, us, q, rfl⟩
       refine W.skip (nrm ?_)
       obtain rfl := si g
       exact ⟨i, _, _, rfl, pt, us, q, rfl⟩
      rintro j n ⟨e0, x0, _, rfl, e1, rfl, U, rfl⟩
      refine sr (va (I b.2) (va (I a.2) (va (I p) (va (I b.2) (va (I a.2) (va (I p) (wln (W.ret (thr (bkr (thr ?_)))))))))))
      obtain rfl := si S
      exact ⟨_, rfl, ⟨rfl, ⟨e0, _, _, rfl, pt, us, U, rfl⟩⟩⟩
     refine W.skip (nrm (W.region (va (I a.1) (va (I (w64 (a.1 + 28))) (va (I (w64 (a.1 + 28))) (WL.nil (bkn (nrm (W.region (va (I a.2) (va (I (w64 (a.2 + 1))) (va (I (w64 (a.2 + 1))) (WL.nil ?_)))))))))))))
     obtain rfl := si H
     exact ⟨_, rfl, ⟨i, _, _, rfl, pt, us, q, rfl⟩⟩
    refine W.exit (thx ?_)
    obtain rfl := si H
    exact ⟨_, rfl, rfl, ⟨i, _, _, rfl, pt, us, q, rfl⟩⟩
   ·exact ⟨h, _, _, rfl, pt, us, M, rfl⟩
   rcases m with m | m
   ·intro z; revert z
    rintro _ j n ⟨rfl, f0, y0, _, rfl, f1, rfl, X, rfl⟩
    refine bkr (bkr (thr ?_))
    obtain rfl := si u
    exact ⟨_, rfl, ⟨rfl, ⟨f0, _, _, rfl, pt, us, X, rfl⟩⟩⟩
   rintro _ j n ⟨rfl, g0, z0, _, rfl, g1, rfl, Z, rfl⟩
   refine bke (bkn (nrm (W.region (va (I b.2) (va (I (w64 (b.2 + 1))) (va (I (w64 (b.2 + 1))) (WL.nil ?_)))))))
   obtain rfl := si u
   exact ⟨_, rfl, ⟨g0, _, _, rfl, pt, us, Z, rfl⟩⟩
  refine W.exit (thx ?_)
  obtain rfl := si H
  exact ⟨_, rfl, rfl, ⟨h, _, _, rfl, pt, us, M, rfl⟩⟩
 ·exact ⟨x, _, _, rfl, pt, us, O6, rfl⟩
 rcases k with k | k
 ·intro z; revert z
  rintro _ j n ⟨rfl, h0, a1, _, rfl, i1, rfl, a0, rfl⟩
  refine bkr (thr ?_)
  obtain rfl := si s
  exact r3 ⟨_, h0, rfl, rfl, pt, a0, rfl⟩
 rintro _ j n ⟨rfl, i0, b1, _, rfl, j1, rfl, b0, rfl⟩
 refine bke (nrm (sr (va (I 0) (va (I 0) (va (I 0) (wln (W.ret ?_)))))))
 obtain rfl := si s
 exact r3 ⟨_, i0, rfl, rfl, pt, b0, rfl⟩
def f_linotyperef08_Class (p0 : Int) : Option (Int) :=
 (andE (decide ((w64 p0) ≥ 4352)) (some (decide ((w64 p0) ≤ 4447)))).bind fun j =>
 (orE j ((andE (decide ((w64 p0) ≥ 43360)) (some (decide ((w64 p0) ≤ 43388)))).bind fun c =>
 some c)).bind fun b =>
 if b = true then
 some 9
 else
 (andE (decide ((w64 p0) ≥ 4448)) (some (decide ((w64 p0) ≤ 4519)))).bind fun d =>
 (orE d ((andE (decide ((w64 p0) ≥ 55216)) (some (decide ((w64 p0) ≤ 55238)))).bind fun f =>
 some f)).bind fun e =>
 if e = true then
 some 10
 else
 (andE (decide ((w64 p0) ≥ 4520)) (some (decide ((w64 p0) ≤ 4607)))).bind fun g =>
 (orE g ((andE (decide ((w64 p0) ≥ 55243)) (some (decide ((w64 p0) ≤ 55291)))).bind fun i =>
 some i)).bind fun h =>
 if h = true then
 some 11
 else
 (f_linotyperef08_Split p0).bind fun a =>
 if (a.1 == 0) = true then
 some 0
 else
 if (a.2.2 == 0) = true then
 some 12
 else
 some 13
theorem c_linotyperef08_Class (z : Own c0 G F) (a : Int) {r : Int} (H : f_linotyperef08_Class a = some r) :
    Calls prog 163 #[J a] c0.w (Post c0 fun c v => Own c G (F) ∧ v = I r) := by
 unfold f_linotyperef08_Class at H
 refine en func163 rfl rfl (sr (va (I 0) (wln (sr (va (J a) (va (I (w64 a)) (va (I (w64 a)) (wln (W.seq (W.seq (bn H fun s1 h1 H => bn H fun i0 h2 H => W.join (Jn c0 fun c l => Own c G (F) ∧ l = [(0, J a), (3, I (w64 a)), (22, B i0)]) ?_ ?_)))))))))))
 ·clear H
  refine W.region (va (I (w64 a)) (va (B (decide ((w64 a) ≥ 4352))) ?_))
  rcases bo (decide ((w64 a) ≥ 4352)) with M | M
  ·have H4 := anT M h1
   refine vb M (wn (va (I (w64 a)) (wn (va (B (decide ((w64 a) ≤ 4447))) ?_))))
   obtain rfl := si H4
   refine va (B (decide ((w64 a) ≤ 4447))) ?_
   rcases bo (decide ((w64 a) ≤ 4447)) with P | P
   ·obtain rfl := orT P h2
    exact vb P (ps (ps (ps (ps (ps (ps (va (B true) (wln ⟨c0, _, _, rfl, pt, us, z, rfl⟩))))))))
   have S := orF P h2
   refine vb P (wn (va (I (w64 a)) (wn (va (B (decide ((w64 a) ≥ 43360))) (wn (bn S fun j0 h7 S => ?_))))))
   rcases bo (decide ((w64 a) ≥ 43360)) with R | R
   ·have H9 := anT R h7
    refine vb R (wn (va (I (w64 a)) (wn (va (B (decide ((w64 a) ≤ 43388))) (wn ?_)))))
    obtain rfl := si H9
    refine va (B (decide ((w64 a) ≤ 43388))) ?_
    obtain rfl := si S
    exact va (B (decide ((w64 a) ≤ 43388))) (wln ⟨c0, _, _, rfl, pt, us, z, rfl⟩)
   obtain rfl := anF R h7
   refine vb R (ps (ps (wn (va (B false) ?_))))
   obtain rfl := si S
   exact va (B false) (wln ⟨c0, _, _, rfl, pt, us, z, rfl⟩)
  obtain rfl := anF M h1
  refine vb M (ps (ps (va (B false) ?_)))
  have U : false = false := rfl
  have s := orF U h2
  refine vb U (wn (va (I (w64 a)) (wn (va (B (decide ((w64 a) ≥ 43360))) (wn (bn s fun j0 X s => ?_))))))
  rcases bo (decide ((w64 a) ≥ 43360)) with h | h
  ·have s0 := anT h X
   refine vb h (wn (va (I (w64 a)) (wn (va (B (decide ((w64 a) ≤ 43388))) (wn ?_)))))
   obtain rfl := si s0
   refine va (B (decide ((w64 a) ≤ 43388))) ?_
   obtain rfl := si s
   exact va (B (decide ((w64 a) ≤ 43388))) (wln ⟨c0, _, _, rfl, pt, us, z, rfl⟩)
  obtain rfl := anF h X
  refine vb h (ps (ps (wn (va (B false) ?_))))
  obtain rfl := si s
  exact va (B false) (wln ⟨c0, _, _, rfl, pt, us, z, rfl⟩)
 rintro e_ w_ ⟨d, t1, _, rfl, w1, rfl, f, rfl⟩
 refine nrm (cn H (fun c1 H => ?_) (fun c1 H => ?_))
 ·refine sr (va (I 9) (wln (W.ret (thr ?_))))
  obtain rfl := si H
  exact r1 ⟨_, d, rfl, rfl, pt, f, rfl⟩
 refine W.skip (nrm (W.seq (W.seq (bn H fun p1 Z H => bn H fun k0 E H => W.join (Jn d fun c l => Own c G (F) ∧ l = [(0, J a), (3, I (w64 a)), (36, B k0)]) ?_ ?_))))
 ·clear H
  refine W.region (va (I (w64 a)) (va (B (decide ((w64 a) ≥ 4448))) ?_))
  rcases bo (decide ((w64 a) ≥ 4448)) with i | i
  ·have t0 := anT i Z
   refine vb i (wn (va (I (w64 a)) (wn (va (B (decide ((w64 a) ≤ 4519))) ?_))))
   obtain rfl := si t0
   refine va (B (decide ((w64 a) ≤ 4519))) ?_
   rcases bo (decide ((w64 a) ≤ 4519)) with j | j
   ·obtain rfl := orT j E
    exact vb j (ps (ps (ps (ps (ps (ps (va (B true) (wln ⟨d, _, _, rfl, pt, us, f, rfl⟩))))))))
   have t := orF j E
   refine vb j (wn (va (I (w64 a)) (wn (va (B (decide ((w64 a) ≥ 55216))) (wn (bn t fun l0 a0 t => ?_))))))
   rcases bo (decide ((w64 a) ≥ 55216)) with k | k
   ·have u0 := anT k a0
    refine vb k (wn (va (I (w64 a)) (wn (va (B (decide ((w64 a) ≤ 55238))) (wn ?_)))))
    obtain rfl := si u0
    refine va (B (decide ((w64 a) ≤ 55238))) ?_
    obtain rfl := si t
    exact va (B (decide ((w64 a) ≤ 55238))) (wln ⟨d, _, _, rfl, pt, us, f, rfl⟩)
   obtain rfl := anF k a0
   refine vb k (ps (ps (wn (va (B false) ?_))))
   obtain rfl := si t
   exact va (B false) (wln ⟨d, _, _, rfl, pt, us, f, rfl⟩)
  obtain rfl := anF i Z
  refine vb i (ps (ps (va (B false) ?_)))
  have b0 : false = false := rfl
  have u := orF b0 E
  refine vb b0 (wn (va (I (w64 a)) (wn (va (B (decide ((w64 a) ≥ 55216))) (wn (bn u fun l0 d0 u => ?_))))))
  rcases bo (decide ((w64 a) ≥ 55216)) with m | m
  ·have v0 := anT m d0
   refine vb m (wn (va (I (w64 a)) (wn (va (B (decide ((w64 a) ≤ 55238))) (wn ?_)))))
   obtain rfl := si v0
   refine va (B (decide ((w64 a) ≤ 55238))) ?_
   obtain rfl := si u
   exact va (B (decide ((w64 a) ≤ 55238))) (wln ⟨d, _, _, rfl, pt, us, f, rfl⟩)
  obtain rfl := anF m d0
  refine vb m (ps (ps (wn (va (B false) ?_))))
  obtain rfl := si u
  exact va (B false) (wln ⟨d, _, _, rfl, pt, us, f, rfl⟩)
 rintro e_ w_ ⟨e, u1, _, rfl, x1, rfl, g, rfl⟩
 refine nrm (cn H (fun d1 H => ?_) (fun d1 H => ?_))
 ·refine sr (va (I 10) (wln (W.ret (thr ?_))))
  obtain rfl := si H
  exact r1 ⟨_, e, rfl, rfl, pt, g, rfl⟩
 refine W.skip (nrm (W.seq (W.seq (bn H fun q1 e0 H => bn H fun m0 N H => W.join (Jn e fun c l => Own c G (F) ∧ l = [(0, J a), (50, B m0)]) ?_ ?_))))
 ·clear H
  refine W.region (va (I (w64 a)) (va (B (decide ((w64 a) ≥ 4520))) ?_))
  rcases bo (decide ((w64 a) ≥ 4520)) with n | n
  ·have w0 := anT n e0
   refine vb n (wn (va (I (w64 a)) (wn (va (B (decide ((w64 a) ≤ 4607))) ?_))))
   obtain rfl := si w0
   refine va (B (decide ((w64 a) ≤ 4607))) ?_
   rcases bo (decide ((w64 a) ≤ 4607)) with o | o
   ·obtain rfl := orT o N
    exact vb o (ps (ps (ps (ps (ps (ps (va (B true) (wln ⟨e, _, _, rfl, pt, us, g, rfl⟩))))))))
   have x := orF o N
   refine vb o (wn (va (I (w64 a)) (wn (va (B (decide ((w64 a) ≥ 55243))) (wn (bn x fun o0 f0 x => ?_))))))
   rcases bo (decide ((w64 a) ≥ 55243)) with p | p
   ·have x0 := anT p f0
    refine vb p (wn (va (I (w64 a)) (wn (va (B (decide ((w64 a) ≤ 55291))) (wn ?_)))))
    obtain rfl := si x0
    refine va (B (decide ((w64 a) ≤ 55291))) ?_
    obtain rfl := si x
    exact va (B (decide ((w64 a) ≤ 55291))) (wln ⟨e, _, _, rfl, pt, us, g, rfl⟩)
   obtain rfl := anF p f0
   refine vb p (ps (ps (wn (va (B false) ?_))))
   obtain rfl := si x
   exact va (B false) (wln ⟨e, _, _, rfl, pt, us, g, rfl⟩)
  obtain rfl := anF n e0
  refine vb n (ps (ps (va (B false) ?_)))
  have g0 : false = false := rfl
  have y := orF g0 N
  refine vb g0 (wn (va (I (w64 a)) (wn (va (B (decide ((w64 a) ≥ 55243))) (wn (bn y fun o0 h0 y => ?_))))))
  rcases bo (decide ((w64 a) ≥ 55243)) with q | q
  ·have y0 := anT q h0
   refine vb q (wn (va (I (w64 a)) (wn (va (B (decide ((w64 a) ≤ 55291))) (wn ?_)))))
   obtain rfl := si y0
   refine va (B (decide ((w64 a) ≤ 55291))) ?_
   obtain rfl := si y
   exact va (B (decide ((w64 a) ≤ 55291))) (wln ⟨e, _, _, rfl, pt, us, g, rfl⟩)
  obtain rfl := anF q h0
  refine vb q (ps (ps (wn (va (B false) ?_))))
  obtain rfl := si y
  exact va (B false) (wln ⟨e, _, _, rfl, pt, us, g, rfl⟩)
 rintro e_ w_ ⟨z0, v1, _, rfl, y1, rfl, T, rfl⟩
 refine nrm (cn H (fun e1 H => ?_) (fun e1 H => ?_))
 ·refine sr (va (I 11) (wln (W.ret (thr ?_))))
  obtain rfl := si H
  exact r1 ⟨_, z0, rfl, rfl, pt, T, rfl⟩
 refine W.skip (nrm (sr (va (J a) (bn H fun b f1 H => cl (c_linotyperef08_Split T a f1) ?_))))
 rintro a2 D z1 ⟨A, rfl⟩
 refine va (.tuple #[I b.1, I b.2.1, I b.2.2]) (va (I b.1) (va (I b.2.1) (va (I b.2.2) (va (I b.1) (va (I b.2.1) (va (I b.2.2) (wln (W.seq (sr (va (I b.1) (va (B (b.1 == 0)) (wln (cn H (fun i1 H => ?_) (fun i1 H => ?_))))))))))))))
 ·refine sr (va (I 0) (wln (W.ret (thr ?_))))
  obtain rfl := si H
  exact r1 ⟨_, D, rfl, rfl, pt, A, rfl⟩
 refine W.skip (nrm (W.seq (sr (va (I b.2.2) (va (B (b.2.2 == 0)) (wln (cn H (fun j1 H => ?_) (fun j1 H => ?_))))))))
 ·refine sr (va (I 12) (wln (W.ret (thr ?_))))
  obtain rfl := si H
  exact r1 ⟨_, D, rfl, rfl, pt, A, rfl⟩
 refine W.skip (nrm (sr (va (I 13) (wln (W.ret ?_)))))
 obtain rfl := si H
 exact r1 ⟨_, D, rfl, rfl, pt, A, rfl⟩
def f_linotyperef09_Of (p0 : Int) : Option (Int) :=
 (f_linotyperef09_list1).bind fun d =>
 (f_linotyperef09_list2).bind fun e =>
 (f_linotyperef09_list3).bind fun f =>
 (f_linotyperef09_list4).bind fun g =>
 (f_linotyperef09_list5).bind fun h =>
 (f_linotyperef09_list6).bind fun i =>
 (f_linotyperef09_list7).bind fun j =>
 (f_linotyperef09_list8).bind fun c =>
 (iter (σ := Int) (τ := Int ⊕ Unit) (((([d, e, f, g, h, i, j, c] : List (List (Int × Int))).length : Int) - 0).toNat + 1) (fun b =>
 if (decide (b < (([d, e, f, g, h, i, j, c] : List (List (Int × Int))).length : Int))) = true then
 (idx ([d, e, f, g, h, i, j, c] : List (List (Int × Int))) b).bind fun k =>
 (f_linotyperef09_In k p0).bind fun l =>
 if l = true then
 some (.inr (.inl (w64 (b + 1))))
 else
 some (.inl ((w64 (b + 1))))
 else
 some (.inr (.inr ()))) (0)).bind fun a =>
 match a with
 | .inl a =>
 some a
 | .inr a =>
 (f_linotyperef08_Class p0).bind fun m =>
 some m
theorem c_linotyperef09_Of (O0 : Own c0 G F) (p0 : Int) {r : Int} (H : f_linotyperef09_Of p0 = some r) :
    Calls prog 122 #[J p0] c0.w (Post c0 fun c v => Own c G (F) ∧ v = I r) := by
 unfold f_linotyperef09_Of at H
 refine en func122 rfl rfl (sr (va (I 0) (wln (sr (bn H fun x h1 H => cl (c_linotyperef09_list1 O0 h1) ?_)))))
 rintro v2 c9 l9 ⟨_, u3, O6, rfl, h4⟩
 refine bn H fun y w3 H => cl (c_linotyperef09_list2 O6 w3) ?_
 rintro v12 p5 p4 ⟨_, u1, f3, rfl, x3⟩
 refine bn H fun z y3 H => cl (c_linotyperef09_list3 f3 y3) ?_
 rintro v22 q5 t1 ⟨_, v1, g3, rfl, z3⟩
 refine bn H fun A a4 H => cl (c_linotyperef09_list4 g3 a4) ?_
 rintro v32 r5 j1 ⟨_, w1, h3, rfl, b4⟩
 refine bn H fun D c4 H => cl (c_linotyperef09_list5 h3 c4) ?_
 rintro v42 s5 b1 ⟨_, x1, i3, rfl, d4⟩
 refine bn H fun E e4 H => cl (c_linotyperef09_list6 i3 e4) ?_
 rintro v52 t5 w0 ⟨_, y1, j3, rfl, f4⟩
 refine bn H fun M g4 H => cl (c_linotyperef09_list7 j3 g4) ?_
 rintro b6 u5 u ⟨_, z1, k3, rfl, i4⟩
 refine bn H fun h j4 H => cl (c_linotyperef09_list8 k3 j4) ?_
 rintro c6 v5 k ⟨_, a2, l3, rfl, k4⟩
 obtain ⟨w5, l4, n, m3, m1⟩ := l3.frz 7 rfl (h4.mono (p4.trans (t1.trans (j1.trans (b1.trans (w0.trans (u.trans k)))))))
 refine WL.gh l4 ?_
 obtain ⟨x5, m4, o, n3, n1⟩ := m3.frz 6 rfl (x3.mono (t1.trans (j1.trans (b1.trans (w0.trans (u.trans (k.trans n)))))))
 refine WL.gh m4 ?_
 obtain ⟨y5, n4, p, o3, p1⟩ := n3.frz 5 rfl (z3.mono (j1.trans (b1.trans (w0.trans (u.trans (k.trans (n.trans o)))))))
 refine WL.gh n4 ?_
 obtain ⟨z5, o4, q, p3, q1⟩ := o3.frz 4 rfl (b4.mono (b1.trans (w0.trans (u.trans (k.trans (n.trans (o.trans p)))))))
 refine WL.gh o4 ?_
 obtain ⟨a6, n2, s, q3, s1⟩ := p3.frz 3 rfl (d4.mono (w0.trans (u.trans (k.trans (n.trans (o.trans (p.trans q)))))))
 refine WL.gh n2 ?_
 obtain ⟨y4, o2, b, b2, e1⟩ := q3.frz 2 rfl (f4.mono (u.trans (k.trans (n.trans (o.trans (p.trans (q.trans s)))))))
 refine WL.gh o2 ?_
 obtain ⟨z4, p2, d, c2, f1⟩ := b2.frz 1 rfl (i4.mono (k.trans (n.trans (o.trans (p.trans (q.trans (s.trans b)))))))
 refine WL.gh p2 ?_
 obtain ⟨a5, q2, f, d2, g1⟩ := c2.frz 0 rfl (k4.mono (n.trans (o.trans (p.trans (q.trans (s.trans (b.trans d)))))))
 refine WL.gh q2 ?_
 obtain ⟨N, P, R, rfl⟩ := ((m1.mono (o.trans (p.trans (q.trans (s.trans (b.trans (d.trans f)))))))).form
 obtain ⟨S, T, U, rfl⟩ := ((n1.mono (p.trans (q.trans (s.trans (b.trans (d.trans f))))))).form
 obtain ⟨X, Z, a0, rfl⟩ := ((p1.mono (q.trans (s.trans (b.trans (d.trans f)))))).form
 obtain ⟨b0, d0, e0, rfl⟩ := ((q1.mono (s.trans (b.trans (d.trans f))))).form
 obtain ⟨f0, g0, h0, rfl⟩ := ((s1.mono (b.trans (d.trans f)))).form
 obtain ⟨i0, j0, k0, rfl⟩ := ((e1.mono (d.trans f))).form
 obtain ⟨l0, m0, o0, rfl⟩ := ((f1.mono f)).form
 obtain ⟨q0, s0, t0, rfl⟩ := (g1).form
 refine me (sl (RL RA2_i64) 193 [[.slice N P R], [.slice S T U], [.slice X Z a0], [.slice b0 d0 e0], [.slice f0 g0 h0], [.slice i0 j0 k0], [.slice l0 m0 o0], [.slice q0 s0 t0]] ([x, y, z, A, D, E, M, h] : List (List (Int × Int))) d2 ⟨⟨(.slice N P R), rfl, m1.m⟩, ⟨(.slice S T U), rfl, n1.m⟩, ⟨(.slice X Z a0), rfl, p1.m⟩, ⟨(.slice b0 d0 e0), rfl, q1.m⟩, ⟨(.slice f0 g0 h0), rfl, s1.m⟩, ⟨(.slice i0 j0 k0), rfl, e1.m⟩, ⟨(.slice l0 m0 o0), rfl, f1.m⟩, ⟨(.slice q0 s0 t0), rfl, g1⟩, trivial⟩) ?_
 rintro g u0 h5 ⟨k1, e2, v0⟩
 refine va (g) (wln (W.seq (sr (va (I 0) (wln (W.block (bn H fun a1 i1 i => lp i1 (fun a => Jn u0 fun c l => Own c G (es true (RL RA2_i64) g 193 k1 ([x, y, z, A, D, E, M, h] : List (List (Int × Int))) :: es false RA2_i64 (.slice q0 s0 t0) 209 a2 h :: es false RA2_i64 (.slice l0 m0 o0) 209 z1 M :: es false RA2_i64 (.slice i0 j0 k0) 209 y1 E :: es false RA2_i64 (.slice f0 g0 h0) 209 x1 D :: es false RA2_i64 (.slice b0 d0 e0) 209 w1 A :: es false RA2_i64 (.slice X Z a0) 209 v1 z :: es false RA2_i64 (.slice S T U) 209 u1 y :: es false RA2_i64 (.slice N P R) 209 u3 x :: F) ∧ l = [(0, J p0), (3, g), (4, I a)]) (fun t => match t with | .inl x_ => (fun q4 ex e w => ex = .ret ∧ (Jn u0 fun c l => Own c G (F) ∧ l = [(2, I q4)]) e w) x_ | .inr x_ => (fun v4 ex e w => ex = .exit 0 ∧ (Jn u0 fun c l => Own c G (es true (RL RA2_i64) g 193 k1 ([x, y, z, A, D, E, M, h] : List (List (Int × Int))) :: es false RA2_i64 (.slice q0 s0 t0) 209 a2 h :: es false RA2_i64 (.slice l0 m0 o0) 209 z1 M :: es false RA2_i64 (.slice i0 j0 k0) 209 y1 E :: es false RA2_i64 (.slice f0 g0 h0) 209 x1 D :: es false RA2_i64 (.slice b0 d0 e0) 209 w1 A :: es false RA2_i64 (.slice X Z a0) 209 v1 z :: es false RA2_i64 (.slice S T U) 209 u1 y :: es false RA2_i64 (.slice N P R) 209 u3 x :: F) ∧ l = [(0, J p0)]) e w) x_) ?_ ?_ ?_)))))))
 ·clear i i1
  intro a d6 t3 t4 H
  revert t3 t4
  rintro e_ w_ ⟨k2, c5, _, rfl, z2, rfl, y0, rfl⟩
  refine W.seq (sr (va (I a) (va (g) (vx (lnO 3 underlying195 v0.m) (va (B (decide (a < (([x, y, z, A, D, E, M, h] : List (List (Int × Int))).length : Int)))) (wln (cn H (fun s2 H => ?_) (fun s2 H => ?_))))))))
  ·refine W.skip (nrm (W.seq (W.block (sr (va (g) (va (I a) (bn H fun d3 z0 H => vx (ixO underlying195 v0.m z0) ?_)))))))
   obtain ⟨u4, t2, a3⟩ := OA.at (v0.mono z2) z0
   obtain ⟨b3, rfl, u2⟩ := t2
   refine vr b3 (rx (by kernel_rfl) (ldE1 underlying193 rfl (y0.on 0 rfl) (v0.m.blk z0) (at1 (j := 0) a3 rfl))) (va (J p0) (bn H fun o5 w2 H => cl (c_linotyperef09_In y0 d3 p0 u2 w2) ?_))
   rintro m5 d1 i5 ⟨c1, rfl⟩
   refine wln (cn H (fun x2 H => ?_) (fun x2 H => ?_))
   ·refine sr (va (I a) (va (I (w64 (a + 1))) (va (I (w64 (a + 1))) (wln (W.ret (bkr (thr ?_)))))))
    obtain rfl := si H
    refine ⟨_, rfl, ⟨rfl, ?_⟩⟩
    have f2 := c1.sD 9 []
    exact ⟨d1, _, _, rfl, pt, us, f2, rfl⟩
   refine W.skip (bkn (nrm (W.region (va (I a) (va (I (w64 (a + 1))) (va (I (w64 (a + 1))) (WL.nil ?_)))))))
   obtain rfl := si H
   exact ⟨_, rfl, ⟨d1, _, _, rfl, pt, us, c1, rfl⟩⟩
  refine W.exit (thx ?_)
  obtain rfl := si H
  exact ⟨_, rfl, rfl, ⟨k2, _, _, rfl, pt, us, y0, rfl⟩⟩
 ·exact ⟨u0, _, _, rfl, pt, us, e2, rfl⟩
 rcases a1 with a1 | a1
 ·intro v3; revert v3
  rintro _ e_ w_ ⟨rfl, l2, d5, _, rfl, j5, rfl, g2, rfl⟩
  refine bkr (thr ?_)
  obtain rfl := si i
  exact r1 ⟨_, l2, rfl, rfl, pt, g2, rfl⟩
 rintro _ e_ w_ ⟨rfl, b5, e5, _, rfl, k5, rfl, h2, rfl⟩
 refine bke (nrm (sr (va (J p0) (bn i fun e3 y2 i => cl (c_linotyperef08_Class h2 p0 y2) ?_))))
 rintro n5 m2 l5 ⟨i2, rfl⟩
 refine va (I e3) (wln (W.ret ?_))
 obtain rfl := si i
 have j2 := i2.sD 9 []
 exact r1 ⟨_, m2, rfl, rfl, pt, j2, rfl⟩
def t_linotyperef10_list_81 : List (Int × Int) := [(169, 169), (174, 174), (8252, 8252), (8265, 8265), (8482, 8482), (8505, 8505), (8596, 8601), (8617, 8618), (8986, 8987), (9000, 9000), (9096, 9096), (9167, 9167), (9193, 9203), (9208, 9210), (9410, 9410), (9642, 9643), (9654, 9654), (9664, 9664), (9723, 9726), (9728, 9733), (9735, 9746), (9748, 9861), (9872, 9989), (9992, 10002), (10004, 10004), (10006, 10006), (10013, 10013), (10017, 10017), (10024, 10024), (10035, 10036), (10052, 10052), (10055, 10055), (10060, 10060), (10062, 10062), (10067, 10069), (10071, 10071), (10083, 10087), (10133, 10135), (10145, 10145), (10160, 10160), (10175, 10175), (10548, 10549), (11013, 11015), (11035, 11036), (11088, 11088), (11093, 11093), (12336, 12336), (12349, 12349), (12951, 12951), (12953, 12953), (126976, 127231), (127245, 127247), (127279, 127279), (127340, 127345), (127358, 127359), (127374, 127374), (127377, 127386), (127405, 127461), (127489, 127503), (127514, 127514), (127535, 127535), (127538, 127546), (127548, 127551), (127561, 127994), (128000, 128317), (128326, 128591), (128640, 128767), (128884, 128895), (128981, 129023), (129036, 129039), (129096, 129103), (129114, 129119), (129160, 129167), (129198, 129279), (129292, 129338), (129340, 129349), (129351, 129791), (130048, 131069)]
def f_linotyperef10_list  : Option (List (Int × Int)) :=
 some t_linotyperef10_list_81
theorem c_linotyperef10_list (d : Own c0 G F) {r : List (Int × Int)} (H : f_linotyperef10_list  = some r) :
    Calls prog 164 #[] c0.w (Post c0 fun c v => ∃ a b, Own c G (es true RA2_i64 a 209 b r :: F) ∧ v = a ∧ OA RA2_i64 c a b r) := by
 unfold f_linotyperef10_list at H
 refine en func164 rfl rfl (sr (va (Y) (wln (sr (va (.agg #[I 169, I 169]) (va (.agg #[I 174, I 174]) (va (.agg #[I 8252, I 8252]) (va (.agg #[I 8265, I 8265]) (va (.agg #[I 8482, I 8482]) (va (.agg #[I 8505, I 8505]) (va (.agg #[I 8596, I 8601]) (va (.agg #[I 8617, I 8618]) (va (.agg #[I 8986, I 8987]) (va (.agg #[I 9000, I 9000]) (va (.agg #[I 9096, I 9096]) (va (.agg #[I 9167, I 9167]) (va (.agg #[I 9193, I 9203]) (va (.agg #[I 9208, I 9210]) (va (.agg #[I 9410, I 9410]) (va (.agg #[I 9642, I 9643]) (va (.agg #[I 9654, I 9654]) (va (.agg #[I 9664, I 9664]) (va (.agg #[I 9723, I 9726]) (va (.agg #[I 9728, I 9733]) (va (.agg #[I 9735, I 9746]) (va (.agg #[I 9748, I 9861]) (va (.agg #[I 9872, I 9989]) (va (.agg #[I 9992, I 10002]) (va (.agg #[I 10004, I 10004]) (va (.agg #[I 10006, I 10006]) (va (.agg #[I 10013, I 10013]) (va (.agg #[I 10017, I 10017]) (va (.agg #[I 10024, I 10024]) (va (.agg #[I 10035, I 10036]) (va (.agg #[I 10052, I 10052]) (va (.agg #[I 10055, I 10055]) (va (.agg #[I 10060, I 10060]) (va (.agg #[I 10062, I 10062]) (va (.agg #[I 10067, I 10069]) (va (.agg #[I 10071, I 10071]) (va (.agg #[I 10083, I 10087]) (va (.agg #[I 10133, I 10135]) (va (.agg #[I 10145, I 10145]) (va (.agg #[I 10160, I 10160]) (va (.agg #[I 10175, I 10175]) (va (.agg #[I 10548, I 10549]) (va (.agg #[I 11013, I 11015]) (va (.agg #[I 11035, I 11036]) (va (.agg #[I 11088, I 11088]) (va (.agg #[I 11093, I 11093]) (va (.agg #[I 12336, I 12336]) (va (.agg #[I 12349, I 12349]) (va (.agg #[I 12951, I 12951]) (va (.agg #[I 12953, I 12953]) (va (.agg #[I 126976, I 127231]) (va (.agg #[I 127245, I 127247]) (va (.agg #[I 127279, I 127279]) (va (.agg #[I 127340, I 127345]) (va (.agg #[I 127358, I 127359]) (va (.agg #[I 127374, I 127374]) (va (.agg #[I 127377, I 127386]) (va (.agg #[I 127405, I 127461]) (va (.agg #[I 127489, I 127503]) (va (.agg #[I 127514, I 127514]) (va (.agg #[I 127535, I 127535]) (va (.agg #[I 127538, I 127546]) (va (.agg #[I 127548, I 127551]) (va (.agg #[I 127561, I 127994]) (va (.agg #[I 128000, I 128317]) (va (.agg #[I 128326, I 128591]) (va (.agg #[I 128640, I 128767]) (va (.agg #[I 128884, I 128895]) (va (.agg #[I 128981, I 129023]) (va (.agg #[I 129036, I 129039]) (va (.agg #[I 129096, I 129103]) (va (.agg #[I 129114, I 129119]) (va (.agg #[I 129160, I 129167]) (va (.agg #[I 129198, I 129279]) (va (.agg #[I 129292, I 129338]) (va (.agg #[I 129340, I 129349]) (va (.agg #[I 129351, I 129791]) (va (.agg #[I 130048, I 131069]) (me (Own.sl (R := RA2_i64) (E := 209) (ls := t_linotyperef10_list_81.map (fun x => [I x.1, I x.2])) (vs := (t_linotyperef10_list_81.map (fun x => [I x.1, I x.2])).flatten) (xs := t_linotyperef10_list_81) true d (Nat.succ_pos _) rfl (AllR.map _ (fun _ => rfl) _) (by kernel_rfl) (by kernel_rfl)) ?_)))))))))))))))))))))))))))))))))))))))))))))))))))))))))))))))))))))))))))))))))))
 rintro v5 f i ⟨h, e, g⟩
 refine va (v5) (wln (W.ret ?_))
 obtain rfl := si H
 exact r1 ⟨_, f, rfl, rfl, pt, v5, h, e, rfl, g⟩
def f_linotyperef10_Is (p0 : Int) : Option (Bool) :=
 (f_linotyperef10_list).bind fun a =>
 (f_linotyperef09_In a p0).bind fun b =>
 some b
theorem c_linotyperef10_Is (l : Own c0 G F) (a : Int) {r : Bool} (H : f_linotyperef10_Is a = some r) :
    Calls prog 123 #[J a] c0.w (Post c0 fun c v => Own c G (F) ∧ v = B r) := by
 unfold f_linotyperef10_Is at H
 refine en func123 rfl rfl (sr (va (B false) (wln (sr (bn H fun j n H => cl (c_linotyperef10_list l n) ?_)))))
 rintro v2 t u ⟨_, x, m, rfl, o⟩
 refine va (J a) ?_
 obtain ⟨p, h, q, b, g⟩ := m.frz 0 rfl o
 refine WL.gh h (bn H fun k i H => cl (c_linotyperef09_In b j a g i) ?_)
 rintro v21 f s ⟨d, rfl⟩
 refine va (B k) (wln (W.ret ?_))
 obtain rfl := si H
 have e := d.sD 1 []
 exact r1 ⟨_, f, rfl, rfl, pt, e, rfl⟩
def t_linotyperef11_list1_29 : List (Int × Int) := [(2325, 2361), (2392, 2399), (2424, 2431), (2453, 2472), (2474, 2480), (2482, 2482), (2486, 2489), (2524, 2525), (2527, 2527), (2544, 2545), (2709, 2728), (2730, 2736), (2738, 2739), (2741, 2745), (2809, 2809), (2837, 2856), (2858, 2864), (2866, 2867), (2869, 2873), (2908, 2909), (2911, 2911), (2929, 2929), (3093, 3112), (3114, 3129), (3160, 3162), (3349, 3386)]
def f_linotyperef11_list1  : Option (List (Int × Int)) :=
 some t_linotyperef11_list1_29
theorem c_linotyperef11_list1 (d : Own c0 G F) {r : List (Int × Int)} (H : f_linotyperef11_list1  = some r) :
    Calls prog 165 #[] c0.w (Post c0 fun c v => ∃ a b, Own c G (es true RA2_i64 a 209 b r :: F) ∧ v = a ∧ OA RA2_i64 c a b r) := by
 unfold f_linotyperef11_list1 at H
 refine en func165 rfl rfl (sr (va (Y) (wln (sr (va (.agg #[I 2325, I 2361]) (va (.agg #[I 2392, I 2399]) (va (.agg #[I 2424, I 2431]) (va (.agg #[I 2453, I 2472]) (va (.agg #[I 2474, I 2480]) (va (.agg #[I 2482, I 2482]) (va (.agg #[I 2486, I 2489]) (va (.agg #[I 2524, I 2525]) (va (.agg #[I 2527, I 2527]) (va (.agg #[I 2544, I 2545]) (va (.agg #[I 2709, I 2728]) (va (.agg #[I 2730, I 2736]) (va (.agg #[I 2738, I 2739]) (va (.agg #[I 2741, I 2745]) (va (.agg #[I 2809, I 2809]) (va (.agg #[I 2837, I 2856]) (va (.agg #[I 2858, I 2864]) (va (.agg #[I 2866, I 2867]) (va (.agg #[I 2869, I 2873]) (va (.agg #[I 2908, I 2909]) (va (.agg #[I 2911, I 2911]) (va (.agg #[I 2929, I 2929]) (va (.agg #[I 3093, I 3112]) (va (.agg #[I 3114, I 3129]) (va (.agg #[I 3160, I 3162]) (va (.agg #[I 3349, I 3386]) (me (Own.sl (R := RA2_i64) (E := 209) (ls := t_linotyperef11_list1_29.map (fun x => [I x.1, I x.2])) (vs := (t_linotyperef11_list1_29.map (fun x => [I x.1, I x.2])).flatten) (xs := t_linotyperef11_list1_29) true d (Nat.succ_pos _) rfl (AllR.map _ (fun _ => rfl) _) (by kernel_rfl) (by kernel_rfl)) ?_)))))))))))))))))))))))))))))))
 rintro v5 f i ⟨h, e, g⟩
 refine va (v5) (wln (W.ret ?_))
 obtain rfl := si H
 exact r1 ⟨_, f, rfl, rfl, pt, v5, h, e, rfl, g⟩
def f_linotyperef11_list2  : Option (List (Int × Int)) :=
 some ([(2381, 2381), (2509, 2509), (2765, 2765), (2893, 2893), (3149, 3149), (3405, 3405)] : List (Int × Int))
theorem c_linotyperef11_list2 (d : Own c0 G F) {r : List (Int × Int)} (H : f_linotyperef11_list2  = some r) :
    Calls prog 166 #[] c0.w (Post c0 fun c v => ∃ a b, Own c G (es true RA2_i64 a 209 b r :: F) ∧ v = a ∧ OA RA2_i64 c a b r) := by
 unfold f_linotyperef11_list2 at H
 refine en func166 rfl rfl (sr (va (Y) (wln (sr (va (.agg #[I 2381, I 2381]) (va (.agg #[I 2509, I 2509]) (va (.agg #[I 2765, I 2765]) (va (.agg #[I 2893, I 2893]) (va (.agg #[I 3149, I 3149]) (va (.agg #[I 3405, I 3405]) (me (sl RA2_i64 209 [[I 2381, I 2381], [I 2509, I 2509], [I 2765, I 2765], [I 2893, I 2893], [I 3149, I 3149], [I 3405, I 3405]] ([(2381, 2381), (2509, 2509), (2765, 2765), (2893, 2893), (3149, 3149), (3405, 3405)] : List (Int × Int)) d ⟨rfl, rfl, rfl, rfl, rfl, rfl, trivial⟩) ?_)))))))))))
 rintro v5 f i ⟨h, e, g⟩
 refine va (v5) (wln (W.ret ?_))
 obtain rfl := si H
 exact r1 ⟨_, f, rfl, rfl, pt, v5, h, e, rfl, g⟩
def f_linotyperef11_list3  : Option (List (Int × Int)) :=
 some ([(768, 879), (1155, 1159), (1425, 1469), (1552, 1562), (1611, 1631), (2364, 2364), (2385, 2388), (2492, 2492), (2748, 2748), (2876, 2876), (3132, 3132), (6832, 6845), (7616, 7679), (8205, 8205), (8400, 8412), (12330, 12335), (12441, 12442), (65056, 65071)] : List (Int × Int))
theorem c_linotyperef11_list3 (d : Own c0 G F) {r : List (Int × Int)} (H : f_linotyperef11_list3  = some r) :
    Calls prog 167 #[] c0.w (Post c0 fun c v => ∃ a b, Own c G (es true RA2_i64 a 209 b r :: F) ∧ v = a ∧ OA RA2_i64 c a b r) := by
 unfold f_linotyperef11_list3 at H
 refine en func167 rfl rfl (sr (va (Y) (wln (sr (va (.agg #[I 768, I 879]) (va (.agg #[I 1155, I 1159]) (va (.agg #[I 1425, I 1469]) (va (.agg #[I 1552, I 1562]) (va (.agg #[I 1611, I 1631]) (va (.agg #[I 2364, I 2364]) (va (.agg #[I 2385, I 2388]) (va (.agg #[I 2492, I 2492]) (va (.agg #[I 2748, I 2748]) (va (.agg #[I 2876, I 2876]) (va (.agg #[I 3132, I 3132]) (va (.agg #[I 6832, I 6845]) (va (.agg #[I 7616, I 7679]) (va (.agg #[I 8205, I 8205]) (va (.agg #[I 8400, I 8412]) (va (.agg #[I 12330, I 12335]) (va (.agg #[I 12441, I 12442]) (va (.agg #[I 65056, I 65071]) (me (sl RA2_i64 209 [[I 768, I 879], [I 1155, I 1159], [I 1425, I 1469], [I 1552, I 1562], [I 1611, I 1631], [I 2364, I 2364], [I 2385, I 2388], [I 2492, I 2492], [I 2748, I 2748], [I 2876, I 2876], [I 3132, I 3132], [I 6832, I 6845], [I 7616, I 7679], [I 8205, I 8205], [I 8400, I 8412], [I 12330, I 12335], [I 12441, I 12442], [I 65056, I 65071]] ([(768, 879), (1155, 1159), (1425, 1469), (1552, 1562), (1611, 1631), (2364, 2364), (2385, 2388), (2492, 2492), (2748, 2748), (2876, 2876), (3132, 3132), (6832, 6845), (7616, 7679), (8205, 8205), (8400, 8412), (12330, 12335), (12441, 12442), (65056, 65071)] : List (Int × Int)) d ⟨rfl, rfl, rfl, rfl, rfl, rfl, rfl, rfl, rfl, rfl, rfl, rfl, rfl, rfl, rfl, rfl, rfl, rfl, trivial⟩) ?_)))))))))))))))))))))))
 rintro v5 f i ⟨h, e, g⟩
 refine va (v5) (wln (W.ret ?_))
 obtain rfl := si H
 exact r1 ⟨_, f, rfl, rfl, pt, v5, h, e, rfl, g⟩
def f_linotyperef11_Of (p0 : Int) : Option (Int) :=
 (f_linotyperef11_list1).bind fun c =>
 (f_linotyperef11_list2).bind fun d =>
 (f_linotyperef11_list3).bind fun e =>
 (iter (σ := Int) (τ := Int ⊕ Unit) (((([c, d, e] : List (List (Int × Int))).length : Int) - 0).toNat + 1) (fun b =>
 if (decide (b < (([c, d, e] : List (List (Int × Int))).length : Int))) = true then
 (idx ([c, d, e] : List (List (Int × Int))) b).bind fun f =>
 (f_linotyperef09_In f p0).bind fun g =>
 if g = true then
 some (.inr (.inl (w64 (b + 1))))
 else
 some (.inl ((w64 (b + 1))))
 else
 some (.inr (.inr ()))) (0)).bind fun a =>
 match a with
 | .inl a =>
 some a
 | .inr a =>
 some 0
theorem c_linotyperef11_Of (O0 : Own c0 G F) (E : Int) {r : Int} (H : f_linotyperef11_Of E = some r) :
    Calls prog 124 #[J E] c0.w (Post c0 fun c v => Own c G (F) ∧ v = I r) := by
 unfold f_linotyperef11_Of at H
 refine en func124 rfl rfl (sr (va (I 0) (wln (sr (bn H fun b h1 H => cl (c_linotyperef11_list1 O0 h1) ?_)))))
 rintro v2 c9 l9 ⟨_, u3, O6, rfl, h4⟩
 refine bn H fun d a1 H => cl (c_linotyperef11_list2 O6 a1) ?_
 rintro v12 f2 p1 ⟨_, b0, h0, rfl, b1⟩
 refine bn H fun f c1 H => cl (c_linotyperef11_list3 h0 c1) ?_
 rintro v22 g2 U ⟨_, d0, i0, rfl, d1⟩
 obtain ⟨h2, e1, X, j0, P⟩ := i0.frz 2 rfl (h4.mono (p1.trans U))
 refine WL.gh e1 ?_
 obtain ⟨i2, f1, Z, k0, R⟩ := j0.frz 1 rfl (b1.mono (U.trans X))
 refine WL.gh f1 ?_
 obtain ⟨j2, g1, a0, l0, S⟩ := k0.frz 0 rfl (d1.mono (X.trans Z))
 refine WL.gh g1 ?_
 obtain ⟨h, i, k, rfl⟩ := ((P.mono (Z.trans a0))).form
 obtain ⟨n, o, p, rfl⟩ := ((R.mono a0)).form
 obtain ⟨q, s, u, rfl⟩ := (S).form
 refine me (sl (RL RA2_i64) 193 [[.slice h i k], [.slice n o p], [.slice q s u]] ([b, d, f] : List (List (Int × Int))) l0 ⟨⟨(.slice h i k), rfl, P.m⟩, ⟨(.slice n o p), rfl, R.m⟩, ⟨(.slice q s u), rfl, S⟩, trivial⟩) ?_
 rintro v56 x n2 ⟨e0, m0, y⟩
 refine va (v56) (wln (W.seq (sr (va (I 0) (wln (W.block (bn H fun g T z => lp T (fun a => Jn x fun c l => Own c G (es true (RL RA2_i64) v56 193 e0 ([b, d, f] : List (List (Int × Int))) :: es false RA2_i64 (.slice q s u) 209 d0 f :: es false RA2_i64 (.slice n o p) 209 b0 d :: es false RA2_i64 (.slice h i k) 209 u3 b :: F) ∧ l = [(0, J E), (3, v56), (4, I a)]) (fun t => match t with | .inl x_ => (fun t1 ex e w => ex = .ret ∧ (Jn x fun c l => Own c G (F) ∧ l = [(2, I t1)]) e w) x_ | .inr x_ => (fun y1 ex e w => ex = .exit 0 ∧ (Jn x fun c l => Own c G (es true (RL RA2_i64) v56 193 e0 ([b, d, f] : List (List (Int × Int))) :: es false RA2_i64 (.slice q s u) 209 d0 f :: es false RA2_i64 (.slice n o p) 209 b0 d :: es false RA2_i64 (.slice h i k) 209 u3 b :: F) ∧ l = []) e w) x_) ?_ ?_ ?_)))))))
 ·clear z T
  intro a t2 y0 x1 H
  revert y0 x1
  rintro e_ w_ ⟨u0, k2, _, rfl, q1, rfl, A, rfl⟩
  refine W.seq (sr (va (I a) (va (v56) (vx (lnO 3 underlying195 y.m) (va (B (decide (a < (([b, d, f] : List (List (Int × Int))).length : Int)))) (wln (cn H (fun i1 H => ?_) (fun i1 H => ?_))))))))
  ·refine W.skip (nrm (W.seq (W.block (sr (va (v56) (va (I a) (bn H fun g0 D H => vx (ixO underlying195 y.m D) ?_)))))))
   obtain ⟨d2, j1, s1⟩ := OA.at (y.mono q1) D
   obtain ⟨v1, rfl, k1⟩ := j1
   refine vr v1 (rx (by kernel_rfl) (ldE1 underlying193 rfl (A.on 0 rfl) (y.m.blk D) (at1 (j := 0) s1 rfl))) (va (J E) (bn H fun e2 m1 H => cl (c_linotyperef09_In A g0 E k1 m1) ?_))
   rintro s2 N o2 ⟨M, rfl⟩
   refine wln (cn H (fun n1 H => ?_) (fun n1 H => ?_))
   ·refine sr (va (I a) (va (I (w64 (a + 1))) (va (I (w64 (a + 1))) (wln (W.ret (bkr (thr ?_)))))))
    obtain rfl := si H
    refine ⟨_, rfl, ⟨rfl, ?_⟩⟩
    have o0 := M.sD 4 []
    exact ⟨N, _, _, rfl, pt, us, o0, rfl⟩
   refine W.skip (bkn (nrm (W.region (va (I a) (va (I (w64 (a + 1))) (va (I (w64 (a + 1))) (WL.nil ?_)))))))
   obtain rfl := si H
   exact ⟨_, rfl, ⟨N, _, _, rfl, pt, us, M, rfl⟩⟩
  refine W.exit (thx ?_)
  obtain rfl := si H
  exact ⟨_, rfl, rfl, ⟨u0, _, _, rfl, pt, us, A, rfl⟩⟩
 ·exact ⟨x, _, _, rfl, pt, us, m0, rfl⟩
 rcases g with g | g
 ·intro z0; revert z0
  rintro _ e_ w_ ⟨rfl, v0, l2, _, rfl, p2, rfl, q0, rfl⟩
  refine bkr (thr ?_)
  obtain rfl := si z
  exact r1 ⟨_, v0, rfl, rfl, pt, q0, rfl⟩
 rintro _ e_ w_ ⟨rfl, w0, m2, _, rfl, q2, rfl, s0, rfl⟩
 refine bke (nrm (sr (va (I 0) (wln (W.ret ?_)))))
 obtain rfl := si z
 have t0 := s0.sD 4 []
 exact r1 ⟨_, w0, rfl, rfl, pt, t0, rfl⟩
def t_linotyperef12_list1_112 : List (Int × Int) := [(4352, 4447), (8986, 8987), (9001, 9002), (9193, 9196), (9200, 9200), (9203, 9203), (9725, 9726), (9748, 9749), (9800, 9811), (9855, 9855), (9875, 9875), (9889, 9889), (9898, 9899), (9917, 9918), (9924, 9925), (9934, 9934), (9940, 9940), (9962, 9962), (9970, 9971), (9973, 9973), (9978, 9978), (9981, 9981), (9989, 9989), (9994, 9995), (10024, 10024), (10060, 10060), (10062, 10062), (10067, 10069), (10071, 10071), (10133, 10135), (10160, 10160), (10175, 10175), (11035, 11036), (11088, 11088), (11093, 11093), (11904, 11929), (11931, 12019), (12032, 12245), (12272, 12287), (12289, 12350), (12353, 12438), (12441, 12543), (12549, 12591), (12593, 12686), (12688, 12771), (12784, 12830), (12832, 12871), (12880, 19903), (19968, 42124), (42128, 42182), (43360, 43388), (44032, 55203), (63744, 64255), (65040, 65049), (65072, 65106), (65108, 65126), (65128, 65131), (94176, 94180), (94208, 100343), (100352, 101589), (110592, 110882), (126980, 126980), (127183, 127183), (127374, 127374), (127377, 127386), (127488, 127490), (127504, 127547), (127552, 127560), (127568, 127569), (127584, 127589), (127744, 127776), (127789, 127797), (127799, 127868), (127870, 127891), (127904, 127946), (127951, 127955), (127968, 127984), (127988, 127988), (127992, 128062), (128064, 128064), (128066, 128252), (128255, 128317), (128331, 128334), (128336, 128359), (128378, 128378), (128405, 128406), (128420, 128420), (128507, 128591), (128640, 128709), (128716, 128716), (128720, 128722), (128725, 128727), (128732, 128735), (128747, 128748), (128756, 128764), (128992, 129003), (129008, 129008), (129292, 129338), (129340, 129349), (129351, 129535), (129648, 129660), (129664, 129672), (129680, 129725), (129727, 129733), (129742, 129755), (129760, 129768), (129776, 129784), (131072, 196605), (196608, 262141)]
def f_linotyperef12_list1  : Option (List (Int × Int)) :=
 some t_linotyperef12_list1_112
theorem c_linotyperef12_list1 (d : Own c0 G F) {r : List (Int × Int)} (H : f_linotyperef12_list1  = some r) :
    Calls prog 168 #[] c0.w (Post c0 fun c v => ∃ a b, Own c G (es true RA2_i64 a 209 b r :: F) ∧ v = a ∧ OA RA2_i64 c a b r) := by
 unfold f_linotyperef12_list1 at H
 refine en func168 rfl rfl (sr (va (Y) (wln (sr (va (.agg #[I 4352, I 4447]) (va (.agg #[I 8986, I 8987]) (va (.agg #[I 9001, I 9002]) (va (.agg #[I 9193, I 9196]) (va (.agg #[I 9200, I 9200]) (va (.agg #[I 9203, I 9203]) (va (.agg #[I 9725, I 9726]) (va (.agg #[I 9748, I 9749]) (va (.agg #[I 9800, I 9811]) (va (.agg #[I 9855, I 9855]) (va (.agg #[I 9875, I 9875]) (va (.agg #[I 9889, I 9889]) (va (.agg #[I 9898, I 9899]) (va (.agg #[I 9917, I 9918]) (va (.agg #[I 9924, I 9925]) (va (.agg #[I 9934, I 9934]) (va (.agg #[I 9940, I 9940]) (va (.agg #[I 9962, I 9962]) (va (.agg #[I 9970, I 9971]) (va (.agg #[I 9973, I 9973]) (va (.agg #[I 9978, I 9978]) (va (.agg #[I 9981, I 9981]) (va (.agg #[I 9989, I 9989]) (va (.agg #[I 9994, I 9995]) (va (.agg #[I 10024, I 10024]) (va (.agg #[I 10060, I 10060]) (va (.agg #[I 10062, I 10062]) (va (.agg #[I 10067, I 10069]) (va (.agg #[I 10071, I 10071]) (va (.agg #[I 10133, I 10135]) (va (.agg #[I 10160, I 10160]) (va (.agg #[I 10175, I 10175]) (va (.agg #[I 11035, I 11036]) (va (.agg #[I 11088, I 11088]) (va (.agg #[I 11093, I 11093]) (va (.agg #[I 11904, I 11929]) (va (.agg #[I 11931, I 12019]) (va (.agg #[I 12032, I 12245]) (va (.agg #[I 12272, I 12287]) (va (.agg #[I 12289, I 12350]) (va (.agg #[I 12353, I 12438]) (va (.agg #[I 12441, I 12543]) (va (.agg #[I 12549, I 12591]) (va (.agg #[I 12593, I 12686]) (va (.agg #[I 12688, I 12771]) (va (.agg #[I 12784, I 12830]) (va (.agg #[I 12832, I 12871]) (va (.agg #[I 12880, I 19903]) (va (.agg #[I 19968, I 42124]) (va (.agg #[I 42128, I 42182]) (va (.agg #[I 43360, I 43388]) (va (.agg #[I 44032, I 55203]) (va (.agg #[I 63744, I 64255]) (va (.agg #[I 65040, I 65049]) (va (.agg #[I 65072, I 65106]) (va (.agg #[I 65108, I 65126]) (va (.agg #[I 65128, I 65131]) (va (.agg #[I 94176, I 94180]) (va (.agg #[I 94208, I 100343]) (va (.agg #[I 100352, I 101589]) (va (.agg #[I 110592, I 110882]) (va (.agg #[I 126980, I 126980]) (va (.agg #[I 127183, I 127183]) (va (.agg #[I 127374, I 127374]) (va (.agg #[I 127377, I 127386]) (va (.agg #[I 127488, I 127490]) (va (.agg #[I 127504, I 127547]) (va (.agg #[I 127552, I 127560]) (va (.agg #[I 127568, I 127569]) (va (.agg #[I 127584, I 127589]) (va (.agg #[I 127744, I 127776]) (va (.agg #[I 127789, I 127797]) (va (.agg #[I 127799, I 127868]) (va (.agg #[I 127870, I 127891]) (va (.agg #[I 127904, I 127946]) (va (.agg #[I 127951, I 127955]) (va (.agg #[I 127968, I 127984]) (va (.agg #[I 127988, I 127988]) (va (.agg #[I 127992, I 128062]) (va (.agg #[I 128064, I 128064]) (va (.agg #[I 128066, I 128252]) (va (.agg #[I 128255, I 128317]) (va (.agg #[I 128331, I 128334]) (va (.agg #[I 128336, I 128359]) (va (.agg #[I 128378, I 128378]) (va (.agg #[I 128405, I 128406]) (va (.agg #[I 128420, I 128420]) (va (.agg #[I 128507, I 128591]) (va (.agg #[I 128640, I 128709]) (va (.agg #[I 128716, I 128716]) (va (.agg #[I 128720, I 128722]) (va (.agg #[I 128725, I 128727]) (va (.agg #[I 128732, I 128735]) (va (.agg #[I 128747, I 128748]) (va (.agg #[I 128756, I 128764]) (va (.agg #[I 128992, I 129003]) (va (.agg #[I 129008, I 129008]) (va (.agg #[I 129292, I 129338]) (va (.agg #[I 129340, I 129349]) (va (.agg #[I 129351, I 129535]) (va (.agg #[I 129648, I 129660]) (va (.agg #[I 129664, I 129672]) (va (.agg #[I 129680, I 129725]) (va (.agg #[I 129727, I 129733]) (va (.agg #[I 129742, I 129755]) (va (.agg #[I 129760, I 129768]) (va (.agg #[I 129776, I 129784]) (va (.agg #[I 131072, I 196605]) (va (.agg #[I 196608, I 262141]) (me (Own.sl (R := RA2_i64) (E := 209) (ls := t_linotyperef12_list1_112.map (fun x => [I x.1, I x.2])) (vs := (t_linotyperef12_list1_112.map (fun x => [I x.1, I x.2])).flatten) (xs := t_linotyperef12_list1_112) true d (Nat.succ_pos _) rfl (AllR.map _ (fun _ => rfl) _) (by kernel_rfl) (by kernel_rfl)) ?_))))))))))))))))))))))))))))))))))))))))))))))))))))))))))))))))))))))))))))))))))))))))))))))))))))))))))))))))))
 rintro v5 f i ⟨h, e, g⟩
 refine va (v5) (wln (W.ret ?_))
 obtain rfl := si H
 exact r1 ⟨_, f, rfl, rfl, pt, v5, h, e, rfl, g⟩
def f_linotyperef12_list2  : Option (List (Int × Int)) :=
 some ([(12288, 12288), (65281, 65376), (65504, 65510)] : List (Int × Int))
theorem c_linotyperef12_list2 (d : Own c0 G F) {r : List (Int × Int)} (H : f_linotyperef12_list2  = some r) :
    Calls prog 169 #[] c0.w (Post c0 fun c v => ∃ a b, Own c G (es true RA2_i64 a 209 b r :: F) ∧ v = a ∧ OA RA2_i64 c a b r) := by
 unfold f_linotyperef12_list2 at H
 refine en func169 rfl rfl (sr (va (Y) (wln (sr (va (.agg #[I 12288, I 12288]) (va (.agg #[I 65281, I 65376]) (va (.agg #[I 65504, I 65510]) (me (sl RA2_i64 209 [[I 12288, I 12288], [I 65281, I 65376], [I 65504, I 65510]] ([(12288, 12288), (65281, 65376), (65504, 65510)] : List (Int × Int)) d ⟨rfl, rfl, rfl, trivial⟩) ?_))))))))
 rintro v5 f i ⟨h, e, g⟩
 refine va (v5) (wln (W.ret ?_))
 obtain rfl := si H
 exact r1 ⟨_, f, rfl, rfl, pt, v5, h, e, rfl, g⟩
def f_linotyperef12_list3  : Option (List (Int × Int)) :=
 some ([(8361, 8361), (65377, 65470), (65474, 65479), (65482, 65487), (65490, 65495), (65498, 65500), (65512, 65518)] : List (Int × Int))
theorem c_linotyperef12_list3 (d : Own c0 G F) {r : List (Int × Int)} (H : f_linotyperef12_list3  = some r) :
    Calls prog 170 #[] c0.w (Post c0 fun c v => ∃ a b, Own c G (es true RA2_i64 a 209 b r :: F) ∧ v = a ∧ OA RA2_i64 c a b r) := by
 unfold f_linotyperef12_list3 at H
 refine en func170 rfl rfl (sr (va (Y) (wln (sr (va (.agg #[I 8361, I 8361]) (va (.agg #[I 65377, I 65470]) (va (.agg #[I 65474, I 65479]) (va (.agg #[I 65482, I 65487]) (va (.agg #[I 65490, I 65495]) (va (.agg #[I 65498, I 65500]) (va (.agg #[I 65512, I 65518]) (me (sl RA2_i64 209 [[I 8361, I 8361], [I 65377, I 65470], [I 65474, I 65479], [I 65482, I 65487], [I 65490, I 65495], [I 65498, I 65500], [I 65512, I 65518]] ([(8361, 8361), (65377, 65470), (65474, 65479), (65482, 65487), (65490, 65495), (65498, 65500), (65512, 65518)] : List (Int × Int)) d ⟨rfl, rfl, rfl, rfl, rfl, rfl, rfl, trivial⟩) ?_))))))))))))
 rintro v5 f i ⟨h, e, g⟩
 refine va (v5) (wln (W.ret ?_))
 obtain rfl := si H
 exact r1 ⟨_, f, rfl, rfl, pt, v5, h, e, rfl, g⟩
def f_linotyperef12_Of (p0 : Int) : Option (Int) :=
 (f_linotyperef12_list1).bind fun c =>
 (f_linotyperef12_list2).bind fun d =>
 (f_linotyperef12_list3).bind fun e =>
 (iter (σ := Int) (τ := Int ⊕ Unit) (((([c, d, e] : List (List (Int × Int))).length : Int) - 0).toNat + 1) (fun b =>
 if (decide (b < (([c, d, e] : List (List (Int × Int))).length : Int))) = true then
 (idx ([c, d, e] : List (List (Int × Int))) b).bind fun f =>
 (f_linotyperef09_In f p0).bind fun g =>
 if g = true then
 some (.inr (.inl (w64 (b + 1))))
 else
 some (.inl ((w64 (b + 1))))
 else
 some (.inr (.inr ()))) (0)).bind fun a =>
 match a with
 | .inl a =>
 some a
 | .inr a =>
 some 0
theorem c_linotyperef12_Of (O0 : Own c0 G F) (E : Int) {r : Int} (H : f_linotyperef12_Of E = some r) :
    Calls prog 125 #[J E] c0.w (Post c0 fun c v => Own c G (F) ∧ v = I r) := by
 unfold f_linotyperef12_Of at H
 refine en func125 rfl rfl (sr (va (I 0) (wln (sr (bn H fun b h1 H => cl (c_linotyperef12_list1 O0 h1) ?_)))))
 rintro v2 c9 l9 ⟨_, u3, O6, rfl, h4⟩
 refine bn H fun d a1 H => cl (c_linotyperef12_list2 O6 a1) ?_
 rintro v12 f2 p1 ⟨_, b0, h0, rfl, b1⟩
 refine bn H fun f c1 H => cl (c_linotyperef12_list3 h0 c1) ?_
 rintro v22 g2 U ⟨_, d0, i0, rfl, d1⟩
 obtain ⟨h2, e1, X, j0, P⟩ := i0.frz 2 rfl (h4.mono (p1.trans U))
 refine WL.gh e1 ?_
 obtain ⟨i2, f1, Z, k0, R⟩ := j0.frz 1 rfl (b1.mono (U.trans X))
 refine WL.gh f1 ?_
 obtain ⟨j2, g1, a0, l0, S⟩ := k0.frz 0 rfl (d1.mono (X.trans Z))
 refine WL.gh g1 ?_
 obtain ⟨h, i, k, rfl⟩ := ((P.mono (Z.trans a0))).form
 obtain ⟨n, o, p, rfl⟩ := ((R.mono a0)).form
 obtain ⟨q, s, u, rfl⟩ := (S).form
 refine me (sl (RL RA2_i64) 193 [[.slice h i k], [.slice n o p], [.slice q s u]] ([b, d, f] : List (List (Int × Int))) l0 ⟨⟨(.slice h i k), rfl, P.m⟩, ⟨(.slice n o p), rfl, R.m⟩, ⟨(.slice q s u), rfl, S⟩, trivial⟩) ?_
 rintro v56 x n2 ⟨e0, m0, y⟩
 refine va (v56) (wln (W.seq (sr (va (I 0) (wln (W.block (bn H fun g T z => lp T (fun a => Jn x fun c l => Own c G (es true (RL RA2_i64) v56 193 e0 ([b, d, f] : List (List (Int × Int))) :: es false RA2_i64 (.slice q s u) 209 d0 f :: es false RA2_i64 (.slice n o p) 209 b0 d :: es false RA2_i64 (.slice h i k) 209 u3 b :: F) ∧ l = [(0, J E), (3, v56), (4, I a)]) (fun t => match t with | .inl x_ => (fun t1 ex e w => ex = .ret ∧ (Jn x fun c l => Own c G (F) ∧ l = [(2, I t1)]) e w) x_ | .inr x_ => (fun y1 ex e w => ex = .exit 0 ∧ (Jn x fun c l => Own c G (es true (RL RA2_i64) v56 193 e0 ([b, d, f] : List (List (Int × Int))) :: es false RA2_i64 (.slice q s u) 209 d0 f :: es false RA2_i64 (.slice n o p) 209 b0 d :: es false RA2_i64 (.slice h i k) 209 u3 b :: F) ∧ l = []) e w) x_) ?_ ?_ ?_)))))))
 ·clear z T
  intro a t2 y0 x1 H
  revert y0 x1
  rintro e_ w_ ⟨u0, k2, _, rfl, q1, rfl, A, rfl⟩
  refine W.seq (sr (va (I a) (va (v56) (vx (lnO 3 underlying195 y.m) (va (B (decide (a < (([b, d, f] : List (List (Int × Int))).length : Int)))) (wln (cn H (fun i1 H => ?_) (fun i1 H => ?_))))))))
  ·refine W.skip (nrm (W.seq (W.block (sr (va (v56) (va (I a) (bn H fun g0 D H => vx (ixO underlying195 y.m D) ?_)))))))
   obtain ⟨d2, j1, s1⟩ := OA.at (y.mono q1) D
   obtain ⟨v1, rfl, k1⟩ := j1
   refine vr v1 (rx (by kernel_rfl) (ldE1 underlying193 rfl (A.on 0 rfl) (y.m.blk D) (at1 (j := 0) s1 rfl))) (va (J E) (bn H fun e2 m1 H => cl (c_linotyperef09_In A g0 E k1 m1) ?_))
   rintro s2 N o2 ⟨M, rfl⟩
   refine wln (cn H (fun n1 H => ?_) (fun n1 H => ?_))
   ·refine sr (va (I a) (va (I (w64 (a + 1))) (va (I (w64 (a + 1))) (wln (W.ret (bkr (thr ?_)))))))
    obtain rfl := si H
    refine ⟨_, rfl, ⟨rfl, ?_⟩⟩
    have o0 := M.sD 4 []
    exact ⟨N, _, _, rfl, pt, us, o0, rfl⟩
   refine W.skip (bkn (nrm (W.region (va (I a) (va (I (w64 (a + 1))) (va (I (w64 (a + 1))) (WL.nil ?_)))))))
   obtain rfl := si H
   exact ⟨_, rfl, ⟨N, _, _, rfl, pt, us, M, rfl⟩⟩
  refine W.exit (thx ?_)
  obtain rfl := si H
  exact ⟨_, rfl, rfl, ⟨u0, _, _, rfl, pt, us, A, rfl⟩⟩
 ·exact ⟨x, _, _, rfl, pt, us, m0, rfl⟩
 rcases g with g | g
 ·intro z0; revert z0
  rintro _ e_ w_ ⟨rfl, v0, l2, _, rfl, p2, rfl, q0, rfl⟩
  refine bkr (thr ?_)
  obtain rfl := si z
  exact r1 ⟨_, v0, rfl, rfl, pt, q0, rfl⟩
 rintro _ e_ w_ ⟨rfl, w0, m2, _, rfl, q2, rfl, s0, rfl⟩
 refine bke (nrm (sr (va (I 0) (wln (W.ret ?_)))))
 obtain rfl := si z
 have t0 := s0.sD 4 []
 exact r1 ⟨_, w0, rfl, rfl, pt, t0, rfl⟩
def f_linotyperef13_Of (p0 : Int) : Option (G_api_Prop) :=
 (f_linotyperef09_Of p0).bind fun b =>
 (f_linotyperef10_Is p0).bind fun c =>
 (f_linotyperef11_Of p0).bind fun d =>
 (f_linotyperef12_Of p0).bind fun a =>
 some (⟨b, c, d, a⟩ : G_api_Prop)
theorem c_linotyperef13_Of (p : Own c0 G F) (a : Int) {r : G_api_Prop} (H : f_linotyperef13_Of a = some r) :
    Calls prog 91 #[J a] c0.w (Post c0 fun c v => Own c G (F) ∧ v = .agg #[I r.Break, B r.Pict, I r.Conj, I r.East]) := by
 unfold f_linotyperef13_Of at H
 refine en func91 rfl rfl (sr (me (al 133 [I 0, B false, I 0, I 0] p) ?_))
 rintro v4 R S ⟨P, rfl, q⟩
 refine wln (sr (va (J a) (bn H fun d t H => cl (c_linotyperef09_Of q a t) ?_)))
 rintro v11 u A ⟨s, rfl⟩
 refine va (J a) (bn H fun e m H => cl (c_linotyperef10_Is s a m) ?_)
 rintro v18 x D ⟨i, rfl⟩
 refine va (J a) (bn H fun f n H => cl (c_linotyperef11_Of i a n) ?_)
 rintro v25 y E ⟨j, rfl⟩
 refine va (J a) (bn H fun b o H => cl (c_linotyperef12_Of j a o) ?_)
 rintro v32 z M ⟨k, rfl⟩
 refine va (.agg #[I d, B e, I f, I b]) (md (sA 133 [I d, B e, I f, I b] 0 k ⟨rfl, rfl, rfl, rfl, trivial⟩) ?_)
 rintro h N g
 refine wln (W.ret ?_)
 obtain rfl := si H
 have l := g.sD 1 []
 exact retC (c := h) (vs := [I d, B e, I f, I b]) rfl (by kernel_rfl) (by kernel_rfl) (by kernel_rfl) (g.on 0 rfl _ rfl).1 ⟨_, h, rfl, rfl, pt, l, rfl⟩
end Go.Proofs.YtfhhpdggmefcoaaGreatDoor
