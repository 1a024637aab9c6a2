import Derived.Test.YtfhhpdggmefcoaaMr
import Derived.Test.YtfhhpdggmefcoaaProg
import Derived.Test.YtfhhpdggmefcoaaMy
import Derived.Test.YtfhhpdggmefcoaaMz
import Derived.Test.YtfhhpdggmefcoaaMc
namespace Go.Proofs.Ytfhhpdggmefcoaa
open Go Go.Lt
set_option maxRecDepth 10000
set_option linter.unusedVariables false
attribute [local irreducible] W WL AC
open Try
variable {c0 : Cx} {G : Gm} {F : List En} {sg : Sto} {v1 v2 v3 v4 v5 v6 v7 v8 v9 v10 v11 v12 v13 v14 v15 v16 v17 v18 v19 v20 v21 v22 v23 v24 v25 v26 v27 v28 v29 v30 v31 v32 v33 v34 v35 v36 v37 v38 v39 v40 v41 v42 v43 v44 v45 v46 v47 v48 v49 v50 v51 v52 v53 v54 v55 v56 v57 v58 v59 v60 : Value}
def f_spans_Right (p0 : List G_api_Span) : Option (Bool) :=
 (iter (σ := Int × Int) (τ := Bool ⊕ Unit) (((p0.length : Int) - 0).toNat + 1) (fun c =>
 if (decide (c.2 < (p0.length : Int))) = true then
 (idx p0 c.2).bind fun a =>
 (orE (decide (a.Lo ≤ c.1)) (some (decide (a.Hi < a.Lo)))).bind fun d =>
 (orE d (some (decide (a.Hi > 1114111)))).bind fun e =>
 (orE e (some (decide (a.Val < 1)))).bind fun f =>
 (orE f (some (decide (a.Val > 65535)))).bind fun g =>
 if g = true then
 some (.inr (.inl false))
 else
 some (.inl (a.Hi, (w64 (c.2 + 1))))
 else
 some (.inr (.inr ()))) ((-1), 0)).bind fun b =>
 match b with
 | .inl b =>
 some b
 | .inr b =>
 some true
theorem c_spans_Right (O0 : Own c0 G F) (u : List G_api_Span) {r : Bool} (U : Sl R_api_Span c0 v1 u) (H : f_spans_Right u = some r) :
    Calls prog 18 #[v1] c0.w (Post c0 fun c v => Own c G (F) ∧ v = B r) := by
 unfold f_spans_Right at H
 refine en func18 rfl rfl (sr (va (B false) (wln (sr (va (I (-1)) (wln (W.seq (sr (va (v1) (vx (ln 3 underlying35 U) (va (I 0) (wln (W.block (bn H fun s h3 R => lp h3 (fun d => Jn c0 fun c l => Own c G (F) ∧ l = [(3, I d.1), (6, v1), (7, I (u.length : Int)), (8, I d.2)]) (fun t => match t with | .inl Z => (fun x0 ex e w => ex = .ret ∧ (Jn c0 fun c l => Own c G (F) ∧ l = [(2, B x0)]) e w) Z | .inr Z => (fun g1 ex e w => ex = .exit 0 ∧ (Jn c0 fun c l => Own c G (F) ∧ l = []) e w) Z) ?_ ?_ ?_))))))))))))))
 ·clear R h3
  intro d t1 o0 y0 H
  revert o0 y0
  rintro T X ⟨c5, g6, _, rfl, l5, rfl, O7, rfl⟩
  refine sr (va (B (decide (d.2 < (u.length : Int)))) (wln (W.seq (cn H (fun s0 H => ?_) (fun s0 H => ?_)))))
  ·refine W.skip (nrm (W.seq (W.block (sr (bn H fun a y H => ?_)))))
   obtain ⟨f1, t0, w0⟩ := Sl.at (U.mono l5) (idx_get y)
   obtain rfl := t0
   refine vx (ix underlying35 U.m y) (vx (lN 41 w0) (me (al 41 [I 0, I 0, I 0] O7) ?_))
   rintro v19 h1 m1 ⟨f, rfl, f0⟩
   refine md (sA 41 [I a.Lo, I a.Hi, I a.Val] 0 f0 ⟨rfl, rfl, rfl, trivial⟩) ?_
   rintro g n1 b
   refine wln (W.seq (W.seq (bn H fun b1 z H => bn H fun c1 q H => bn H fun d1 o H => bn H fun S h H => W.join (Jn g fun c l => Own c G ((Eb f 41 [I a.Lo, I a.Hi, I a.Val]) :: F) ∧ l = [(5, Q f), (6, v1), (7, I (u.length : Int)), (8, I d.2), (37, B S)]) ?_ ?_)))
   ·clear H
    refine W.region (va (Q f) (vx (le1 0 underlying3 (b.on 0 rfl)) (va (I d.1) (va (B (decide (a.Lo ≤ d.1))) ?_))))
    rcases bo (decide (a.Lo ≤ d.1)) with i | i
    ·obtain rfl := orT i z
     refine vb i (ps (ps (ps (ps (ps (va (B true) ?_))))))
     have A : true = true := rfl
     obtain rfl := orT A q
     refine vb A (ps (ps (ps (va (B true) ?_))))
     have D : true = true := rfl
     obtain rfl := orT D o
     refine vb D (ps (ps (ps (va (B true) ?_))))
     have E : true = true := rfl
     obtain rfl := orT E h
     exact vb E (ps (ps (ps (va (B true) (wln ⟨g, _, _, rfl, pt, us, b, rfl⟩)))))
    have a0 := orF i z
    refine vb i (wn (va (.pointer (some ⟨f, 1, none⟩)) (wn (vx (le1 1 underlying3 (b.on 0 rfl)) (wn (va (Q f) (wn (vx (le1 0 underlying3 (b.on 0 rfl)) (wn (va (B (decide (a.Hi < a.Lo))) ?_))))))))))
    obtain rfl := si a0
    refine va (B (decide (a.Hi < a.Lo))) ?_
    rcases bo (decide (a.Hi < a.Lo)) with j | j
    ·obtain rfl := orT j q
     refine vb j (ps (ps (ps (va (B true) ?_))))
     have M : true = true := rfl
     obtain rfl := orT M o
     refine vb M (ps (ps (ps (va (B true) ?_))))
     have N : true = true := rfl
     obtain rfl := orT N h
     exact vb N (ps (ps (ps (va (B true) (wln ⟨g, _, _, rfl, pt, us, b, rfl⟩)))))
    have b0 := orF j q
    refine vb j (wn (va (.pointer (some ⟨f, 1, none⟩)) (wn (vx (le1 1 underlying3 (b.on 0 rfl)) (wn (va (B (decide (a.Hi > 1114111))) ?_))))))
    obtain rfl := si b0
    refine va (B (decide (a.Hi > 1114111))) ?_
    rcases bo (decide (a.Hi > 1114111)) with k | k
    ·obtain rfl := orT k o
     refine vb k (ps (ps (ps (va (B true) ?_))))
     have P : true = true := rfl
     obtain rfl := orT P h
     exact vb P (ps (ps (ps (va (B true) (wln ⟨g, _, _, rfl, pt, us, b, rfl⟩)))))
    have d0 := orF k o
    refine vb k (wn (va (.pointer (some ⟨f, 2, none⟩)) (wn (vx (le1 2 underlying3 (b.on 0 rfl)) (wn (va (B (decide (a.Val < 1))) ?_))))))
    obtain rfl := si d0
    refine va (B (decide (a.Val < 1))) ?_
    rcases bo (decide (a.Val < 1)) with n | n
    ·obtain rfl := orT n h
     exact vb n (ps (ps (ps (va (B true) (wln ⟨g, _, _, rfl, pt, us, b, rfl⟩)))))
    have e0 := orF n h
    refine vb n (wn (va (.pointer (some ⟨f, 2, none⟩)) (wn (vx (le1 2 underlying3 (b.on 0 rfl)) (wn (va (B (decide (a.Val > 65535))) ?_))))))
    obtain rfl := si e0
    exact va (B (decide (a.Val > 65535))) (wln ⟨g, _, _, rfl, pt, us, b, rfl⟩)
   rintro T X ⟨x, i1, _, rfl, p1, rfl, p, rfl⟩
   refine nrm (cn H (fun v0 H => ?_) (fun v0 H => ?_))
   ·refine sr (va (B false) (wln (W.ret (thr (bkr (thr ?_))))))
    obtain rfl := si H
    refine ⟨_, rfl, ⟨rfl, ?_⟩⟩
    have g0 := p.sD 1 []
    exact ⟨x, _, _, rfl, pt, us, g0, rfl⟩
   refine W.skip (nrm (W.region (va (.pointer (some ⟨f, 1, none⟩)) (vx (le1 1 underlying3 (p.on 0 rfl)) (va (I a.Hi) (WL.nil (bkn (nrm (W.region (va (I (w64 (d.2 + 1))) (va (I (w64 (d.2 + 1))) (WL.nil ?_))))))))))))
   obtain rfl := si H
   refine ⟨_, rfl, ?_⟩
   have h0 := p.sD 1 []
   exact ⟨x, _, _, rfl, pt, us, h0, rfl⟩
  refine W.exit (thx ?_)
  obtain rfl := si H
  exact ⟨_, rfl, rfl, ⟨c5, _, _, rfl, pt, us, O7, rfl⟩⟩
 ·exact ⟨c0, _, _, rfl, pt, us, O0, rfl⟩
 rcases s with s | s
 ·intro q0; revert q0
  rintro _ T X ⟨rfl, l0, j1, _, rfl, q1, rfl, i0, rfl⟩
  refine bkr (thr ?_)
  obtain rfl := si R
  exact r1 ⟨_, l0, rfl, rfl, pt, i0, rfl⟩
 rintro _ T X ⟨rfl, m0, k1, _, rfl, s1, rfl, j0, rfl⟩
 refine bke (nrm (sr (va (B true) (wln (W.ret ?_)))))
 obtain rfl := si R
 exact r1 ⟨_, m0, rfl, rfl, pt, j0, rfl⟩
def f_spans_at_1 (p0 : Int) (q0_0 : List G_api_Span) (q1_0 : Int) : Option (Bool) :=
 (idx q0_0 p0).bind fun a =>
 some (decide (a.Hi ≥ q1_0))
theorem c_spans_at_1 {d : Nat} {e : Nat} (o : Own c0 G F) (b : Int) (q0_0 : List G_api_Span) (q1_0 : Int) {r : Bool} (s : ∀ j u, ([v2] : List Value)[j]? = some u → Im c0 d (0 + j) u) (k : Sl R_api_Span c0 v2 q0_0) (t : ∀ j u, ([I q1_0] : List Value)[j]? = some u → Im c0 e (0 + j) u) (H : f_spans_at_1 b q0_0 q1_0 = some r) :
    Calls prog 59 #[I b, Q d, Q e] c0.w (Post c0 fun c v => Own c G (F) ∧ v = B r) := by
 unfold f_spans_at_1 at H
 refine en func59 rfl rfl (sr (va (B false) (wln (W.seq (rD [] (Kp G0 []) o ?_)))))
 intro h q p
 have y : Kp G0 [] h := Kp.nil0
 refine tx 0 (fun g a => l1 underlying35 ((mm s) 0 _ rfl)) (ta 1 (I b) (bn H fun f l H => ?_))
 obtain ⟨x, i, n⟩ := Sl.at (k.mono q) (idx_get l)
 obtain rfl := i
 refine tx 2 (fun g a => ix underlying35 k.m l) (ta 3 (.pointer (some ⟨sb v2, so v2 + b.toNat * 3 + 1, none⟩)) (tx 4 (fun g a => l1 underlying3 ((mm n) 1 _ rfl)) (tx 5 (fun g a => l1 underlying3 ((mm t) 0 _ rfl)) (ta 6 (B (decide (f.Hi ≥ q1_0))) (ta 7 (B (decide (f.Hi ≥ q1_0))) (dn (nrm (W.ret ?_))))))))
 obtain rfl := si H
 exact r1 ⟨_, h, rfl, rfl, pt, p, rfl⟩
def f_sort_Search__spans_at_1 (p0 : Int) (p1_0_0 : List G_api_Span) (p1_1_0 : Int) : Option (Int) :=
 (iter (σ := Int × Int) (τ := Int) ((p0 - 0).toNat + 1) (fun a =>
 if (decide (a.1 < a.2)) = true then
 (f_spans_at_1 (w64 ((IntKind.u64.wrap (w64 (a.1 + a.2))).fdiv (2 ^ 1))) p1_0_0 p1_1_0).bind fun b =>
 if (!b) = true then
 some (.inl ((w64 ((w64 ((IntKind.u64.wrap (w64 (a.1 + a.2))).fdiv (2 ^ 1))) + 1)), a.2))
 else
 some (.inl (a.1, (w64 ((IntKind.u64.wrap (w64 (a.1 + a.2))).fdiv (2 ^ 1)))))
 else
 some (.inr (a.1))) (0, p0)).bind fun c =>
 some c
theorem c_sort_Search__spans_at_1 {b1_0 : Nat} {b1_1 : Nat} (A : Own c0 G F) (b : Int) (p1_0_0 : List G_api_Span) (p1_1_0 : Int) {r : Int} (N : ∀ j u, ([v2] : List Value)[j]? = some u → Im c0 b1_0 (0 + j) u) (M : Sl R_api_Span c0 v2 p1_0_0) (P : ∀ j u, ([I p1_1_0] : List Value)[j]? = some u → Im c0 b1_1 (0 + j) u) (H : f_sort_Search__spans_at_1 b p1_0_0 p1_1_0 = some r) :
    Calls prog 58 #[I b, .func (.func 59) #[] #[Q b1_0, Q b1_1]] c0.w (Post c0 fun c v => Own c G (F) ∧ v = I r) := by
 unfold f_sort_Search__spans_at_1 at H
 refine en func58 rfl rfl (sr (va (I 0) (wln (sr (va (I b) (va (I 0) (va (I b) (wln (W.seq (W.block (bn H fun g y k => lp y (fun a => Jn c0 fun c l => Own c G (F) ∧ l = [(1, .func (.func 59) #[] #[Q b1_0, Q b1_1]), (5, I a.1), (6, I a.2)]) (fun h ex e w => ex = .exit 0 ∧ (Jn c0 fun c l => Own c G (F) ∧ l = [(5, I h)]) e w) ?_ ?_ ?_)))))))))))
 ·clear k y
  intro a X q z H
  revert q z
  rintro E R ⟨D, Z, _, rfl, l7, rfl, o, rfl⟩
  refine W.seq (sr (va (I a.1) (va (I a.2) (va (B (decide (a.1 < a.2))) (wln (cn H (fun s H => ?_) (fun s H => ?_)))))))
  ·refine W.skip (nrm (W.block (sr (va (I a.1) (va (I a.2) (va (I (w64 (a.1 + a.2))) (va (.int .u64 (IntKind.u64.wrap (w64 (a.1 + a.2)))) (va (.int .u64 ((IntKind.u64.wrap (w64 (a.1 + a.2))).fdiv (2 ^ 1))) (va (I (w64 ((IntKind.u64.wrap (w64 (a.1 + a.2))).fdiv (2 ^ 1)))) (va (I (w64 ((IntKind.u64.wrap (w64 (a.1 + a.2))).fdiv (2 ^ 1)))) (wln (sr (va (.func (.func 59) #[] #[Q b1_0, Q b1_1]) (va (I (w64 ((IntKind.u64.wrap (w64 (a.1 + a.2))).fdiv (2 ^ 1)))) (bn H fun i t H => cl (c_spans_at_1 o (w64 ((IntKind.u64.wrap (w64 (a.1 + a.2))).fdiv (2 ^ 1))) p1_0_0 p1_1_0 (mm N) M.m (mm P) t) ?_)))))))))))))))
   rintro v20 f T ⟨d, rfl⟩
   refine va (B (!i)) (wln (cn H (fun x H => ?_) (fun x H => ?_)))
   ·refine W.region (va (I (w64 ((IntKind.u64.wrap (w64 (a.1 + a.2))).fdiv (2 ^ 1)))) (va (I (w64 ((w64 ((IntKind.u64.wrap (w64 (a.1 + a.2))).fdiv (2 ^ 1))) + 1))) (va (I (w64 ((w64 ((IntKind.u64.wrap (w64 (a.1 + a.2))).fdiv (2 ^ 1))) + 1))) (WL.nil (bkn ?_)))))
    obtain rfl := si H
    exact ⟨_, rfl, ⟨f, _, _, rfl, pt, us, d, rfl⟩⟩
   refine W.region (va (I (w64 ((IntKind.u64.wrap (w64 (a.1 + a.2))).fdiv (2 ^ 1)))) (va (I (w64 ((IntKind.u64.wrap (w64 (a.1 + a.2))).fdiv (2 ^ 1)))) (WL.nil (bkn ?_))))
   obtain rfl := si H
   exact ⟨_, rfl, ⟨f, _, _, rfl, pt, us, d, rfl⟩⟩
  refine W.exit (thx ?_)
  obtain rfl := si H
  exact ⟨_, rfl, rfl, ⟨D, _, _, rfl, pt, us, o, rfl⟩⟩
 ·exact ⟨c0, _, _, rfl, pt, us, A, rfl⟩
 rintro _ E R ⟨rfl, p, S, _, rfl, U, rfl, n, rfl⟩
 refine bke (nrm (sr (va (I g) (va (I g) (wln (W.ret ?_))))))
 obtain rfl := si k
 exact r1 ⟨_, p, rfl, rfl, pt, n, rfl⟩
def f_spans_at (p0 : List G_api_Span) (p1 : Int) : Option (Int) :=
 (f_sort_Search__spans_at_1 (p0.length : Int) p0 p1).bind fun a =>
 some a
theorem c_spans_at (n : Own c0 G F) (a : List G_api_Span) (b : Int) {r : Int} (d : Sl R_api_Span c0 v1 a) (H : f_spans_at a b = some r) :
    Calls prog 42 #[v1, I b] c0.w (Post c0 fun c v => Own c G (F) ∧ v = I r) := by
 unfold f_spans_at at H
 refine en func42 rfl rfl (sr ?_)
 obtain ⟨p, q, s, rfl⟩ := (d).form
 refine me (bx 35 [.slice p q s] n) ?_
 rintro v10 z A ⟨t, rfl, o, k⟩
 refine me (bx 3 [I b] o) ?_
 rintro v15 u x ⟨g, rfl, e, j⟩
 refine va (I 0) (wln (sr (vx (l1 underlying35 ((mm k) 0 _ rfl)) (vx (ln 3 underlying35 d.m) (va (.func (.func 59) #[] #[Q t, Q g]) (bn H fun l i H => cl (c_sort_Search__spans_at_1 e (a.length : Int) a b (mm k) d.m j i) ?_))))))
 rintro v22 h y ⟨f, rfl⟩
 refine va (I l) (wln (W.ret ?_))
 obtain rfl := si H
 exact r1 ⟨_, h, rfl, rfl, pt, f, rfl⟩
def f_spans_find (p0 : List G_api_Span) (p1 : Int) : Option (Int) :=
 (f_spans_at p0 p1).bind fun a =>
 (andE (decide (a < (p0.length : Int))) ((idx p0 a).bind fun c =>
 some (decide (c.Lo ≤ p1)))).bind fun b =>
 if b = true then
 (idx p0 a).bind fun d =>
 some d.Val
 else
 some 0
theorem c_spans_find (M : Own c0 G F) (g : List G_api_Span) (d : Int) {r : Int} (e : Sl R_api_Span c0 v1 g) (H : f_spans_find g d = some r) :
    Calls prog 32 #[v1, I d] c0.w (Post c0 fun c v => Own c G (F) ∧ v = I r) := by
 unfold f_spans_find at H
 refine en func32 rfl rfl (sr (va (I 0) (wln (W.seq (sr (va (v1) (va (I d) (bn H fun a N H => cl (c_spans_at M g d e N) ?_))))))))
 rintro v9 p A ⟨t, rfl⟩
 refine va (I a) (wln (W.seq (bn H fun q k H => W.join (Jn p fun c l => Own c G (F) ∧ l = [(0, v1), (5, I a), (21, B q)]) ?_ ?_)))
 ·clear H
  refine W.region (va (I a) (va (v1) (vx (ln 3 underlying35 e.m) (va (B (decide (a < (g.length : Int)))) ?_))))
  rcases bo (decide (a < (g.length : Int))) with b | b
  ·have f := anT b k
   refine vb b (wn (va (v1) (wn (va (I a) (wn (bn f fun h n f => ?_))))))
   obtain ⟨P, u, D⟩ := Sl.at (e.mono A) (idx_get n)
   obtain rfl := u
   refine vx (ix underlying35 e.m n) (wn (va (.pointer (some ⟨sb v1, so v1 + a.toNat * 3, none⟩)) (wn (vx (l1 underlying3 (D 0 _ rfl)) (wn (va (I d) (wn (va (B (decide (h.Lo ≤ d))) ?_))))))))
   obtain rfl := si f
   exact va (B (decide (h.Lo ≤ d))) (wln ⟨p, _, _, rfl, pt, us, t, rfl⟩)
  obtain rfl := anF b k
  exact vb b (ps (ps (ps (ps (ps (ps (ps (va (B false) (wln ⟨p, _, _, rfl, pt, us, t, rfl⟩)))))))))
 rintro T U ⟨j, S, _, rfl, z, rfl, i, rfl⟩
 refine nrm (cn H (fun x H => ?_) (fun x H => ?_))
 ·refine sr (va (v1) (va (I a) (bn H fun s o H => ?_)))
  obtain ⟨R, y, E⟩ := Sl.at (e.mono (A.trans z)) (idx_get o)
  obtain rfl := y
  refine vx (ix underlying35 e.m o) (va (.pointer (some ⟨sb v1, so v1 + a.toNat * 3 + 2, none⟩)) (vx (l1 underlying3 (E 2 _ rfl)) (va (I s.Val) (wln (W.ret (thr ?_))))))
  obtain rfl := si H
  exact r1 ⟨_, j, rfl, rfl, pt, i, rfl⟩
 refine W.skip (nrm (sr (va (I 0) (wln (W.ret ?_)))))
 obtain rfl := si H
 exact r1 ⟨_, j, rfl, rfl, pt, i, rfl⟩
def f_spans_lay (p0 : List G_api_Span) (p1 : G_api_Span) : Option (List G_api_Span) :=
 (andE (decide ((w64 ((p0.length : Int) - 1)) ≥ 0)) ((idx p0 (w64 ((p0.length : Int) - 1))).bind fun e =>
 some (e.Val == p1.Val))).bind fun b =>
 (andE b ((idx p0 (w64 ((p0.length : Int) - 1))).bind fun f =>
 some (f.Hi == (w64 (p1.Lo - 1))))).bind fun c =>
 if c = true then
 (idx p0 (w64 ((p0.length : Int) - 1))).bind fun a =>
 (sets p0 (w64 ((p0.length : Int) - 1)) (⟨a.Lo, p1.Hi, a.Val⟩ : G_api_Span)).bind fun d =>
 some d
 else
 (app p0 ([p1] : List G_api_Span)).bind fun g =>
 some g
theorem c_spans_lay {a : Value} {o : List Value} (d : List G_api_Span) (b : G_api_Span) (O0 : Own c0 G (es true R_api_Span a 41 o d :: F)) {r : List G_api_Span} (g : OA R_api_Span c0 a o d) (H : f_spans_lay d b = some r) :
    Calls prog 33 #[a, .agg #[I b.Lo, I b.Hi, I b.Val]] c0.w (Post c0 fun c v => ∃ y1 y2, Own c G (es true R_api_Span y1 41 y2 r :: F) ∧ v = y1 ∧ OA R_api_Span c y1 y2 r) := by
 unfold f_spans_lay at H
 refine en func33 rfl rfl (sr (me (bx 41 [I b.Lo, I b.Hi, I b.Val] O0) ?_))
 rintro v6 c5 l5 ⟨A, rfl, O3, E⟩
 refine va (Y) (wln (W.seq (sr (va (a) (vx (lnO 3 underlying35 g.m) (va (I (w64 ((d.length : Int) - 1))) (va (I (w64 ((d.length : Int) - 1))) (wln (W.seq (bn H fun m1 h7 H => bn H fun U X H => W.join (Jn c5 fun c l => Own c G (es true R_api_Span a 41 o d :: F) ∧ l = [(0, a), (3, Q A), (5, I (w64 ((d.length : Int) - 1))), (31, B U)]) ?_ ?_))))))))))
 ·clear H
  refine rD [] (Kp G0 [es true R_api_Span a 41 o d]) O3 ?_
  intro D l9 q
  have S : Kp G0 [es true R_api_Span a 41 o d] D := (Kp.cons (q.on 0 rfl) Kp.nil0)
  refine ta 0 (I (w64 ((d.length : Int) - 1))) (ta 1 (B (decide ((w64 ((d.length : Int) - 1)) ≥ 0))) ?_)
  rcases bo (decide ((w64 ((d.length : Int) - 1)) ≥ 0)) with k | k
  ·have s := anT k h7
   refine bn s fun i y s => AC.takeb 2 k rfl (by kernel_rfl) (by kernel_rfl) (fun h e => (by kernel_rfl)) (ta 3 (a) (ta 4 (I (w64 ((d.length : Int) - 1))) (tx 5 (fun h e => ixO underlying35 g.m y) (ta 6 (.pointer (some ⟨sb a, (w64 ((d.length : Int) - 1)).toNat * 3 + 2, none⟩)) ?_))))
   obtain ⟨n1, k0, b1⟩ := OA.at (g.mono (l5.trans l9)) y
   obtain rfl := k0
   refine AC.takeK 7 (I i.Val) S rfl (by kernel_rfl) (by kernel_rfl) (by kernel_rfl) (fun h e Z => (rx (by kernel_rfl) (ldE1 underlying3 rfl (Z.on 0 rfl) (g.m.blk y) (at1 (j := 2) b1 rfl)))) (ta 8 (.pointer (some ⟨A, 0 + 2, none⟩)) (tx 9 (fun h e => l1 underlying3 ((mm E) 2 _ rfl)) (ta 10 (B (i.Val == b.Val)) ?_)))
   obtain rfl := si s
   refine ta 11 (B (i.Val == b.Val)) ?_
   rcases bo (i.Val == b.Val) with n | n
   ·have t := anT n X
    refine bn t fun p z t => AC.takeb 12 n rfl (by kernel_rfl) (by kernel_rfl) (fun h e => (by kernel_rfl)) (ta 13 (a) (ta 14 (I (w64 ((d.length : Int) - 1))) (tx 15 (fun h e => ixO underlying35 g.m z) (ta 16 (.pointer (some ⟨sb a, (w64 ((d.length : Int) - 1)).toNat * 3 + 1, none⟩)) ?_))))
    obtain ⟨q1, l0, c1⟩ := OA.at (g.mono (l5.trans l9)) z
    obtain rfl := l0
    refine AC.takeK 17 (I p.Hi) S rfl (by kernel_rfl) (by kernel_rfl) (by kernel_rfl) (fun h e Z => (rx (by kernel_rfl) (ldE1 underlying3 rfl (Z.on 0 rfl) (g.m.blk z) (at1 (j := 1) c1 rfl)))) (ta 18 (Q A) (tx 19 (fun h e => l1 underlying3 ((mm E) 0 _ rfl)) (ta 20 (I (w64 (b.Lo - 1))) (ta 21 (B (p.Hi == (w64 (b.Lo - 1)))) ?_))))
    obtain rfl := si t
    exact ta 22 (B (p.Hi == (w64 (b.Lo - 1)))) (dn (nrm ⟨D, _, _, rfl, pt, us, q, rfl⟩))
   obtain rfl := anF n X
   exact AC.takeb 12 n rfl (by kernel_rfl) (by kernel_rfl) (fun h e => (by kernel_rfl)) (tp 13 (tp 14 (tp 15 (tp 16 (tp 17 (tp 18 (tp 19 (tp 20 (tp 21 (ta 22 (B false) (dn (nrm ⟨D, _, _, rfl, pt, us, q, rfl⟩))))))))))))
  obtain rfl := anF k h7
  refine AC.takeb 2 k rfl (by kernel_rfl) (by kernel_rfl) (fun h e => (by kernel_rfl)) (tp 3 (tp 4 (tp 5 (tp 6 (tp 7 (tp 8 (tp 9 (tp 10 (ta 11 (B false) ?_)))))))))
  have N : false = false := rfl
  obtain rfl := anF N X
  exact AC.takeb 12 N rfl (by kernel_rfl) (by kernel_rfl) (fun h e => (by kernel_rfl)) (tp 13 (tp 14 (tp 15 (tp 16 (tp 17 (tp 18 (tp 19 (tp 20 (tp 21 (ta 22 (B false) (dn (nrm ⟨D, _, _, rfl, pt, us, q, rfl⟩))))))))))))
 rintro e_ w_ ⟨v1, z1, _, rfl, z0, rfl, M, rfl⟩
 refine nrm (cn H (fun m0 H => ?_) (fun m0 H => ?_))
 ·refine sr (va (a) (va (I (w64 ((d.length : Int) - 1))) (va (.pointer (some ⟨A, 0 + 1, none⟩)) (vx (l1 underlying3 ((mm E) 1 _ rfl)) (bn H fun f P H => vx (ixO underlying35 g.m P) (va (.pointer (some ⟨sb a, (w64 ((d.length : Int) - 1)).toNat * 3 + 1, none⟩)) ?_))))))
  obtain ⟨s1, o0, d1⟩ := OA.at (g.mono (l5.trans z0)) P
  obtain rfl := o0
  refine bn H fun t1 q0 H => md (Own.stO (R := R_api_Span) (T := 3) (us := [I b.Hi]) (x' := (⟨f.Lo, b.Hi, f.Val⟩ : G_api_Span)) (u := I b.Hi) (x := (⟨f.Lo, b.Hi, f.Val⟩ : G_api_Span)) (j := 1) (l' := [I f.Lo, I b.Hi, I f.Val]) 0 M (by kernel_rfl) rfl g.m q0 d1 rfl (by kernel_rfl) ⟨rfl, trivial⟩ (by kernel_rfl) rfl rfl) ?_
  rintro i0 a2 ⟨e1, d0, s0⟩
  refine wln (sr (va (a) (va (a) (wln (W.ret (thr ?_))))))
  obtain rfl := si H
  exact r1 ⟨_, i0, rfl, rfl, pt, a, e1, d0, rfl, s0⟩
 refine W.skip (nrm (sr (va (a) (vx (lN 41 (mm E)) (me (sl R_api_Span 41 [[I b.Lo, I b.Hi, I b.Val]] ([b] : List G_api_Span) M ⟨rfl, trivial⟩) ?_)))))
 rintro v45 w1 c2 ⟨f2, e0, t0⟩
 obtain ⟨x1, v0, d2, f0, u0⟩ := e0.frz 0 rfl t0
 refine WL.gh v0 (bn H fun u1 w0 H => me (ap R_api_Span (.agg #[I 0, I 0, I 0]) 24 35 1 f0 g.m u0 w0 underlying35) ?_)
 rintro v55 j0 e2 ⟨f1, g0, x0⟩
 refine va (v55) (wln (W.ret ?_))
 obtain rfl := si H
 have h0 := g0.sD 2 [1]
 exact r1 ⟨_, j0, rfl, rfl, pt, v55, f1, h0, rfl, x0⟩
def f_spans_edges (p0 : List (List G_api_Span)) : Option (List Int) :=
 (iter (σ := (List Int) × Int) (τ := (List Int)) (((p0.length : Int) - 0).toNat + 1) (fun b =>
 if (decide (b.2 < (p0.length : Int))) = true then
 (idx p0 b.2).bind fun c =>
 (iter (σ := (List Int) × Int) (τ := (List Int)) (((c.length : Int) - 0).toNat + 1) (fun a =>
 if (decide (a.2 < (c.length : Int))) = true then
 (idx c a.2).bind fun d =>
 (app a.1 ([d.Lo, (w64 (d.Hi + 1))] : List Int)).bind fun f =>
 some (.inl (f, (w64 (a.2 + 1))))
 else
 some (.inr (a.1))) (b.1, 0)).bind fun e =>
 some (.inl (e, (w64 (b.2 + 1))))
 else
 some (.inr (b.1))) (([] : List Int), 0)).bind fun i =>
 (f_slices_Sort i).bind fun g =>
 (f_slices_Compact g).bind fun h =>
 some h
theorem c_spans_edges (O0 : Own c0 G F) (j : List (List G_api_Span)) {r : List Int} (U : Sl (RL R_api_Span) c0 v1 j) (H : f_spans_edges j = some r) :
    Calls prog 34 #[v1] c0.w (Post c0 fun c v => ∃ y1 y2, Own c G (es true (RI .i64) y1 3 y2 r :: F) ∧ v = y1 ∧ OA (RI .i64) c y1 y2 r) := by
 unfold f_spans_edges at H
 refine en func34 rfl rfl (sr (va (Y) (wln (sr (va (Y) (wln (W.seq (sr (va (v1) (vx (ln 3 underlying44 U) (va (I 0) (wln (W.block (bn H fun q1 h3 i => lp h3 (fun d => Jn c0 fun c l => ∃ v5 q, Own c G (es true (RI .i64) v5 3 q d.1 :: F) ∧ l = [(3, v5), (8, v1), (9, I (j.length : Int)), (10, I d.2)] ∧ OA (RI .i64) c v5 q d.1) (fun p ex e w => ex = .exit 0 ∧ (Jn c0 fun c l => ∃ v7 X, Own c G (es true (RI .i64) v7 3 X p :: F) ∧ l = [(3, v7)] ∧ OA (RI .i64) c v7 X p) e w) ?_ ?_ ?_))))))))))))))
 ·clear i h3
  intro d u1 n s H
  revert n s
  rintro T Z ⟨u, m2, _, rfl, l9, rfl, v5, q, y, rfl, D⟩
  refine sr (va (B (decide (d.2 < (j.length : Int)))) (wln (W.seq (cn H (fun u0 H => ?_) (fun u0 H => ?_)))))
  ·refine W.skip (nrm (W.seq (W.block (sr (bn H fun t E H => ?_)))))
   obtain ⟨a2, v0, n1⟩ := Sl.at (U.mono l9) (idx_get E)
   obtain ⟨v21, rfl, o⟩ := v0
   refine vx (ix underlying44 U.m E) (vx (l1 underlying35 (n1 0 _ rfl)) (va (v21) (wln (sr (va (v21) (vx (ln 3 underlying35 o) (va (I 0) (wln (W.block (bn H fun c2 M x => lp M (fun b => Jn u fun c l => ∃ v25 g, Own c G (es true (RI .i64) v25 3 g b.1 :: F) ∧ l = [(3, v25), (8, v1), (9, I (j.length : Int)), (10, I d.2), (14, v21), (15, I (t.length : Int)), (16, I b.2)] ∧ OA (RI .i64) c v25 g b.1) (fun f ex e w => ex = .exit 2 ∧ (Jn u fun c l => ∃ v27 h, Own c G (es true (RI .i64) v27 3 h f :: F) ∧ l = [(3, v27), (8, v1), (9, I (j.length : Int)), (10, I d.2)] ∧ OA (RI .i64) c v27 h f) e w) ?_ ?_ ?_))))))))))
   ·clear x M
    intro b u1 n s H
    revert n s
    rintro T Z ⟨o0, n2, _, rfl, m1, rfl, v25, g, z, rfl, N⟩
    refine sr (va (B (decide (b.2 < (t.length : Int)))) (wln (W.seq (cn H (fun x0 H => ?_) (fun x0 H => ?_)))))
    ·refine W.skip (nrm (W.seq (W.block (sr (bn H fun a P H => ?_)))))
     obtain ⟨b2, y0, p1⟩ := Sl.at (o.mono m1) (idx_get P)
     obtain rfl := y0
     refine vx (ix underlying35 o.m P) (vx (lN 41 p1) (me (al 41 [I 0, I 0, I 0] z) ?_))
     rintro v44 f2 q2 ⟨A, rfl, d0⟩
     refine md (sA 41 [I a.Lo, I a.Hi, I a.Val] 0 d0 ⟨rfl, rfl, rfl, trivial⟩) ?_
     rintro g2 s2 k
     refine wln (W.region (va (v25) (va (Q A) (vx (le1 0 underlying3 (k.on 0 rfl)) (va (.pointer (some ⟨A, 1, none⟩)) (vx (le1 1 underlying3 (k.on 0 rfl)) (va (I (w64 (a.Hi + 1))) (me (sl (RI .i64) 3 [[I a.Lo], [I (w64 (a.Hi + 1))]] ([a.Lo, (w64 (a.Hi + 1))] : List Int) k ⟨rfl, rfl, trivial⟩) ?_))))))))
     rintro v51 i2 t2 ⟨b3, e0, z0⟩
     obtain ⟨j2, b1, u2, f0, a1⟩ := e0.frz 0 rfl z0
     refine WL.gh b1 (bn H fun d2 c1 H => me (ap (RI .i64) (I 0) 8 23 2 f0 N.m a1 c1 underlying23) ?_)
     rintro R q0 v2 ⟨s1, g0, d1⟩
     refine va (R) (WL.nil (bkn (nrm (W.region (va (I (w64 (b.2 + 1))) (va (I (w64 (b.2 + 1))) (WL.nil ?_)))))))
     obtain rfl := si H
     refine ⟨_, rfl, ?_⟩
     have h0 := g0.sD 3 [2]
     exact ⟨q0, _, _, rfl, pt, us, R, s1, h0, rfl, d1⟩
    refine W.exit (thx ?_)
    obtain rfl := si H
    exact ⟨_, rfl, rfl, ⟨o0, _, _, rfl, pt, us, v25, g, z, rfl, N⟩⟩
   ·exact ⟨u, _, _, rfl, pt, us, v5, q, y, rfl, D⟩
   rintro _ T Z ⟨rfl, s0, o2, _, rfl, w2, rfl, v27, h, i0, rfl, e1⟩
   refine bke (bkn (nrm (W.region (va (I (w64 (d.2 + 1))) (va (I (w64 (d.2 + 1))) (WL.nil ?_))))))
   obtain rfl := si x
   exact ⟨_, rfl, ⟨s0, _, _, rfl, pt, us, v27, h, i0, rfl, e1⟩⟩
  refine W.exit (thx ?_)
  obtain rfl := si H
  exact ⟨_, rfl, rfl, ⟨u, _, _, rfl, pt, us, v5, q, y, rfl, D⟩⟩
 ·have f1 : OA (RI .i64) c0 (Y) [] [] := OA.nil (Nat.succ_pos _)
  have j0 := O0.addHole (e := es true (RI .i64) (Y) 3 [] ([] : List Int)) rfl
  exact ⟨c0, _, _, rfl, pt, us, (Y), [], j0, rfl, f1⟩
 rintro _ T Z ⟨rfl, k2, p2, _, rfl, x2, rfl, v7, X, k0, rfl, g1⟩
 refine bke (nrm (sr (va (v7) (bn i fun a0 h1 i => cl (c_slices_Sort q1 k0 g1 h1) ?_))))
 rintro d3 l2 z2 ⟨c3, l0, rfl, i1⟩
 refine wln (sr (va (v7) (bn i fun e2 j1 i => cl (c_slices_Compact a0 l0 i1 j1) ?_)))
 rintro S t0 a3 ⟨_, t1, m0, rfl, k1⟩
 refine va (S) (wln (W.ret ?_))
 obtain rfl := si i
 exact r1 ⟨_, t0, rfl, rfl, pt, S, t1, m0, rfl, k1⟩
def f_spans_Sum (p0 : List (List G_api_Span)) : Option (List G_api_Span) :=
 (iter (σ := Int) (τ := (List G_api_Span) ⊕ Unit) (((p0.length : Int) - 0).toNat + 1) (fun g =>
 if (decide (g < (p0.length : Int))) = true then
 (idx p0 g).bind fun i =>
 (f_spans_Right i).bind fun j =>
 if (!j) = true then
 some (.inr (.inl ([] : List G_api_Span)))
 else
 some (.inl ((w64 (g + 1))))
 else
 some (.inr (.inr ()))) (0)).bind fun f =>
 match f with
 | .inl f =>
 some f
 | .inr f =>
 (f_spans_edges p0).bind fun e =>
 (iter (σ := (List G_api_Span) × Int) (τ := (List G_api_Span) ⊕ (List G_api_Span)) (((e.length : Int) - (w64 (0 + 1))).toNat + 1) (fun a =>
 if (decide ((w64 (a.2 + 1)) < (e.length : Int))) = true then
 (iter (σ := Int × Int) (τ := (List G_api_Span) ⊕ Int) (((p0.length : Int) - 0).toNat + 1) (fun c =>
 if (decide (c.2 < (p0.length : Int))) = true then
 (idx p0 c.2).bind fun k =>
 (idx e a.2).bind fun l =>
 (f_spans_find k l).bind fun h =>
 if (decide ((w64 (c.1 + h)) > 65535)) = true then
 some (.inr (.inl ([] : List G_api_Span)))
 else
 some (.inl ((w64 (c.1 + h)), (w64 (c.2 + 1))))
 else
 some (.inr (.inr (c.1)))) (0, 0)).bind fun b =>
 match b with
 | .inl b =>
 some (.inr (.inl b))
 | .inr b =>
 if (decide (b > 0)) = true then
 (idx e a.2).bind fun m =>
 (idx e (w64 (a.2 + 1))).bind fun n =>
 (f_spans_lay a.1 (⟨m, (w64 (n - 1)), b⟩ : G_api_Span)).bind fun o =>
 some (.inl (o, (w64 (a.2 + 1))))
 else
 some (.inl (a.1, (w64 (a.2 + 1))))
 else
 some (.inr (.inr (a.1)))) (([] : List G_api_Span), 0)).bind fun d =>
 match d with
 | .inl d =>
 some d
 | .inr d =>
 some d
theorem c_spans_Sum (O0 : Own c0 G F) (U : List (List G_api_Span)) {r : List G_api_Span} (S : Sl (RL R_api_Span) c0 v1 U) (H : f_spans_Sum U = some r) :
    Calls prog 25 #[v1] c0.w (Post c0 fun c v => ∃ y1 y2, Own c G (es true R_api_Span y1 41 y2 r :: F) ∧ v = y1 ∧ OA R_api_Span c y1 y2 r) := by
 unfold f_spans_Sum at H
 refine en func25 rfl rfl (sr (va (Y) (wln (W.seq (sr (va (v1) (vx (ln 3 underlying44 S) (va (I 0) (wln (W.block (bn H fun v0 h3 b => lp h3 (fun D => Jn c0 fun c l => Own c G (F) ∧ l = [(0, v1), (11, v1), (12, I (U.length : Int)), (13, I D)]) (fun t => match t with | .inl p => (fun k ex e w => ex = .ret ∧ (Jn c0 fun c l => ∃ v5 u6, Own c G (es true R_api_Span v5 41 u6 k :: F) ∧ l = [(2, v5)] ∧ OA R_api_Span c v5 u6 k) e w) p | .inr p => (fun u4 ex e w => ex = .exit 0 ∧ (Jn c0 fun c l => Own c G (F) ∧ l = [(0, v1)]) e w) p) ?_ ?_ ?_)))))))))))
 ·clear b h3
  intro D k1 z N H
  revert z N
  rintro y M ⟨c7, g8, _, rfl, l7, rfl, O9, rfl⟩
  refine sr (va (B (decide (D < (U.length : Int)))) (wln (W.seq (cn H (fun f3 H => ?_) (fun f3 H => ?_)))))
  ·refine W.skip (nrm (W.seq (W.block (sr (bn H fun s2 e1 H => ?_)))))
   obtain ⟨r4, g3, a4⟩ := Sl.at (S.mono l7) (idx_get e1)
   obtain ⟨v18, rfl, i3⟩ := g3
   refine vx (ix underlying44 S.m e1) (vx (l1 underlying35 (a4 0 _ rfl)) (va (v18) (wln (sr (va (v18) (bn H fun t2 j3 H => cl (c_spans_Right O9 s2 i3 j3) ?_))))))
   rintro v26 l0 b5 ⟨b1, rfl⟩
   refine va (B (!t2)) (wln (cn H (fun k3 H => ?_) (fun k3 H => ?_)))
   ·refine sr (va (Y) (wln (W.ret (bkr (thr ?_)))))
    obtain rfl := si H
    refine ⟨_, rfl, ⟨rfl, ?_⟩⟩
    have l3 : OA R_api_Span l0 (Y) [] [] := OA.nil (Nat.succ_pos _)
    have w2 := b1.addHole (e := es true R_api_Span (Y) 41 [] ([] : List G_api_Span)) rfl
    exact ⟨l0, _, _, rfl, pt, us, (Y), [], w2, rfl, l3⟩
   refine W.skip (bkn (nrm (W.region (va (I (w64 (D + 1))) (va (I (w64 (D + 1))) (WL.nil ?_))))))
   obtain rfl := si H
   exact ⟨_, rfl, ⟨l0, _, _, rfl, pt, us, b1, rfl⟩⟩
  refine W.exit (thx ?_)
  obtain rfl := si H
  exact ⟨_, rfl, rfl, ⟨c7, _, _, rfl, pt, us, O9, rfl⟩⟩
 ·exact ⟨c0, _, _, rfl, pt, us, O0, rfl⟩
 rcases v0 with v0 | v0
 ·intro A; revert A
  rintro _ y M ⟨rfl, d3, x4, _, rfl, c5, rfl, v5, u6, x2, rfl, n3⟩
  refine bkr (thr ?_)
  obtain rfl := si b
  exact r1 ⟨_, d3, rfl, rfl, pt, v5, u6, x2, rfl, n3⟩
 rintro _ y M ⟨rfl, w4, y4, _, rfl, y3, rfl, z2, rfl⟩
 refine bke (nrm (sr (va (Y) (wln (sr (va (v1) (bn b fun h o3 b => cl (c_spans_edges z2 U S.m o3) ?_)))))))
 rintro v44 u z3 ⟨_, n, a3, rfl, i⟩
 refine va (v44) (wln (W.seq (sr (va (I 0) (wln (W.block (bn b fun T f1 f0 => lp f1 (fun a => Jn u fun c l => ∃ v55 o, Own c G (es true R_api_Span v55 41 o a.1 :: es true (RI .i64) v44 3 n h :: F) ∧ l = [(0, v1), (5, v55), (6, v44), (7, I a.2)] ∧ OA R_api_Span c v55 o a.1) (fun t => match t with | .inl p => (fun k ex e w => ex = .ret ∧ (Jn u fun c l => ∃ v59 d0, Own c G (es true R_api_Span v59 41 d0 k :: F) ∧ l = [(2, v59)] ∧ OA R_api_Span c v59 d0 k) e w) p | .inr p => (fun a0 ex e w => ex = .exit 2 ∧ (Jn u fun c l => ∃ v57 b0, Own c G (es true R_api_Span v57 41 b0 a0 :: es true (RI .i64) v44 3 n h :: F) ∧ l = [(5, v57)] ∧ OA R_api_Span c v57 b0 a0) e w) p) ?_ ?_ ?_)))))))
 ·clear f0 f1
  intro a k1 z N b
  revert z N
  rintro y M ⟨x, z4, _, rfl, Z, rfl, v55, o, c1, rfl, o0⟩
  refine W.seq (sr (va (I a.2) (va (I (w64 (a.2 + 1))) (va (v44) (vx (lnO 3 underlying23 i.m) (va (B (decide ((w64 (a.2 + 1)) < (h.length : Int)))) (wln (cn b (fun p3 b => ?_) (fun p3 b => ?_)))))))))
  ·refine W.skip (nrm (W.seq (W.block (sr (va (I 0) (wln (W.seq (sr (va (v1) (vx (ln 3 underlying44 S.m) (va (I 0) (wln (W.block (bn b fun g g1 f => lp g1 (fun d => Jn x fun c l => Own c G (es true R_api_Span v55 41 o a.1 :: es true (RI .i64) v44 3 n h :: F) ∧ l = [(0, v1), (5, v55), (6, v44), (7, I a.2), (8, I d.1), (30, v1), (31, I (U.length : Int)), (32, I d.2)]) (fun t => match t with | .inl p => (fun k ex e w => ex = .ret ∧ (Jn x fun c l => ∃ E e0, Own c G (es true R_api_Span E 41 e0 k :: F) ∧ l = [(2, E)] ∧ OA R_api_Span c E e0 k) e w) p | .inr p => (fun z0 ex e w => ex = .exit 4 ∧ (Jn x fun c l => Own c G (es true R_api_Span v55 41 o a.1 :: es true (RI .i64) v44 3 n h :: F) ∧ l = [(0, v1), (5, v55), (6, v44), (7, I a.2), (8, I z0)]) e w) p) ?_ ?_ ?_))))))))))))))
   ·clear f g1
    intro d k1 z N b
    revert z N
    rintro y M ⟨e3, a5, _, rfl, i1, rfl, j0, rfl⟩
    refine sr (va (B (decide (d.2 < (U.length : Int)))) (wln (W.seq (cn b (fun q3 b => ?_) (fun q3 b => ?_)))))
    ·refine W.skip (nrm (W.seq (W.block (sr (bn b fun u2 h1 b => ?_)))))
     obtain ⟨s4, s3, b4⟩ := Sl.at (S.mono (y3.trans (z3.trans (Z.trans i1)))) (idx_get h1)
     obtain ⟨j1, rfl, t3⟩ := s3
     refine vx (ix underlying44 S.m h1) (vx (l1 underlying35 (b4 0 _ rfl)) (va (j1) (wln (sr (va (I d.1) (va (j1) (va (v44) (va (I a.2) (bn b fun y0 q0 b => vx (ixO underlying23 i.m q0) ?_)))))))))
     obtain ⟨t4, u3, c4⟩ := OA.at (i.mono (Z.trans i1)) q0
     obtain rfl := u3
     refine vr (I y0) (rx (by kernel_rfl) (ldE1 underlying3 rfl (j0.on 1 rfl) (i.m.blk q0) (at1 (j := 0) c4 rfl))) (bn b fun q v3 b => cl (c_spans_find j0 u2 y0 t3 v3) ?_)
     rintro e5 m0 d5 ⟨d1, rfl⟩
     refine va (I (w64 (d.1 + q))) (va (I (w64 (d.1 + q))) (wln (sr (va (I (w64 (d.1 + q))) (va (B (decide ((w64 (d.1 + q)) > 65535))) (wln (cn b (fun w3 b => ?_) (fun w3 b => ?_))))))))
     ·refine sr (va (Y) (wln (W.ret (bkr (thr ?_)))))
      obtain rfl := si b
      refine ⟨_, rfl, ⟨rfl, ?_⟩⟩
      have x3 : OA R_api_Span m0 (Y) [] [] := OA.nil (Nat.succ_pos _)
      have c3 := d1.addHole (e := es true R_api_Span (Y) 41 [] ([] : List G_api_Span)) rfl
      have m1 := c3.sD 3 [0]
      exact ⟨m0, _, _, rfl, pt, us, (Y), [], m1, rfl, x3⟩
     refine W.skip (bkn (nrm (W.region (va (I (w64 (d.2 + 1))) (va (I (w64 (d.2 + 1))) (WL.nil ?_))))))
     obtain rfl := si b
     exact ⟨_, rfl, ⟨m0, _, _, rfl, pt, us, d1, rfl⟩⟩
    refine W.exit (thx ?_)
    obtain rfl := si b
    exact ⟨_, rfl, rfl, ⟨e3, _, _, rfl, pt, us, j0, rfl⟩⟩
   ·exact ⟨x, _, _, rfl, pt, us, c1, rfl⟩
   rcases g with g | g
   ·intro A; revert A
    rintro _ y M ⟨rfl, w1, i4, _, rfl, m4, rfl, E, e0, n1, rfl, c2⟩
    refine bkr (thr (bkr (thr ?_)))
    obtain rfl := si f
    exact ⟨_, rfl, ⟨rfl, ⟨w1, _, _, rfl, pt, us, E, e0, n1, rfl, c2⟩⟩⟩
   rintro _ y M ⟨rfl, x1, j4, _, rfl, t0, rfl, g0, rfl⟩
   refine bke (nrm (sr (va (I g) (va (B (decide (g > 0))) (wln (cn f (fun d2 f => ?_) (fun d2 f => ?_)))))))
   ·refine rD [] (Kp G0 [es true (RI .i64) v44 3 n h]) g0 ?_
    intro z1 u0 h0
    have w0 : Kp G0 [es true (RI .i64) v44 3 n h] z1 := (Kp.cons (h0.on 1 rfl) Kp.nil0)
    refine ta 0 (v55) (ta 1 (v44) (ta 2 (I a.2) (bn f fun X P f => tx 3 (fun c' s0 => ixO underlying23 i.m P) ?_)))
    obtain ⟨e4, e2, n2⟩ := OA.at (i.mono (Z.trans (t0.trans u0))) P
    obtain rfl := e2
    refine AC.takeK 4 (I X) w0 rfl (by kernel_rfl) (by kernel_rfl) (by kernel_rfl) (fun c' s0 hk => (rx (by kernel_rfl) (ldE1 underlying3 rfl (hk.on 0 rfl) (i.m.blk P) (at1 (j := 0) n2 rfl)))) (ta 5 (v44) (ta 6 (I a.2) (ta 7 (I (w64 (a.2 + 1))) (bn f fun s R f => tx 8 (fun c' s0 => ixO underlying23 i.m R) ?_))))
    obtain ⟨f4, f2, o2⟩ := OA.at (i.mono (Z.trans (t0.trans u0))) R
    obtain rfl := f2
    refine AC.takeK 9 (I s) w0 rfl (by kernel_rfl) (by kernel_rfl) (by kernel_rfl) (fun c' s0 hk => (rx (by kernel_rfl) (ldE1 underlying3 rfl (hk.on 0 rfl) (i.m.blk R) (at1 (j := 0) o2 rfl)))) (ta 10 (I (w64 (s - 1))) (ta 11 (I g) (ta 12 (.agg #[I X, I (w64 (s - 1)), I g]) (bn f fun v4 g2 f => o1 13 (gc 13 (c_spans_lay a.1 (⟨X, (w64 (s - 1)), g⟩ : G_api_Span) h0 o0.m g2) ?_)))))
    rintro x0 k0 n4 ⟨_, q2, i0, rfl, i2⟩
    have p2 : Kp G0 [es true (RI .i64) v44 3 n h] k0 := (Kp.cons (i0.on 1 rfl) Kp.nil0)
    refine ⟨.inr p2, ta 14 (x0) (dn (bkn (nrm (W.region (va (I a.2) (va (I (w64 (a.2 + 1))) (va (I (w64 (a.2 + 1))) (WL.nil ?_))))))))⟩
    obtain rfl := si f
    exact ⟨_, rfl, ⟨k0, _, _, rfl, pt, us, x0, q2, i0, rfl, i2⟩⟩
   refine W.skip (bkn (nrm (W.region (va (I a.2) (va (I (w64 (a.2 + 1))) (va (I (w64 (a.2 + 1))) (WL.nil ?_)))))))
   obtain rfl := si f
   exact ⟨_, rfl, ⟨x1, _, _, rfl, pt, us, v55, o, g0, rfl, o0.m⟩⟩
  refine W.exit (thx ?_)
  obtain rfl := si b
  exact ⟨_, rfl, rfl, ⟨x, _, _, rfl, pt, us, v55, o, c1, rfl, o0⟩⟩
 ·have j2 : OA R_api_Span u (Y) [] [] := OA.nil (Nat.succ_pos _)
  have p1 := a3.addHole (e := es true R_api_Span (Y) 41 [] ([] : List G_api_Span)) rfl
  exact ⟨u, _, _, rfl, pt, us, (Y), [], p1, rfl, j2⟩
 rcases T with T | T
 ·intro A; revert A
  rintro _ y M ⟨rfl, a2, k4, _, rfl, o4, rfl, v59, d0, q1, rfl, k2⟩
  refine bkr (thr ?_)
  obtain rfl := si f0
  exact r1 ⟨_, a2, rfl, rfl, pt, v59, d0, q1, rfl, k2⟩
 rintro _ y M ⟨rfl, b2, l4, _, rfl, p4, rfl, v57, b0, s1, rfl, l2⟩
 refine bke (nrm (sr (va (v57) (va (v57) (wln (W.ret ?_))))))
 obtain rfl := si f0
 have t1 := s1.sD 2 [0]
 exact r1 ⟨_, b2, rfl, rfl, pt, v57, b0, t1, rfl, l2⟩
def f_spans_Fewest (p0 : List G_api_Span) : Option (List G_api_Span) :=
 (f_spans_Right p0).bind fun e =>
 if (!e) = true then
 some ([] : List G_api_Span)
 else
 (iter (σ := (List G_api_Span) × Int) (τ := (List G_api_Span)) (((p0.length : Int) - 0).toNat + 1) (fun a =>
 if (decide (a.2 < (p0.length : Int))) = true then
 (idx p0 a.2).bind fun c =>
 (f_spans_lay a.1 c).bind fun d =>
 some (.inl (d, (w64 (a.2 + 1))))
 else
 some (.inr (a.1))) (([] : List G_api_Span), 0)).bind fun b =>
 some b
theorem c_spans_Fewest (O0 : Own c0 G F) (i : List G_api_Span) {r : List G_api_Span} (j : Sl R_api_Span c0 v1 i) (H : f_spans_Fewest i = some r) :
    Calls prog 21 #[v1] c0.w (Post c0 fun c v => ∃ t y2, Own c G (es true R_api_Span t 41 y2 r :: F) ∧ v = t ∧ OA R_api_Span c t y2 r) := by
 unfold f_spans_Fewest at H
 refine en func21 rfl rfl (sr (va (Y) (wln (W.seq (sr (va (v1) (bn H fun j0 h3 H => cl (c_spans_Right O0 i j h3) ?_)))))))
 rintro v9 h l8 ⟨E, rfl⟩
 refine va (B (!j0)) (wln (cn H (fun T H => ?_) (fun T H => ?_)))
 ·refine sr (va (Y) (wln (W.ret (thr ?_))))
  obtain rfl := si H
  have U : OA R_api_Span h (Y) [] [] := OA.nil (Nat.succ_pos _)
  have u := E.addHole (e := es true R_api_Span (Y) 41 [] ([] : List G_api_Span)) rfl
  exact r1 ⟨_, h, rfl, rfl, pt, (Y), [], u, rfl, U⟩
 refine W.skip (nrm (sr (va (Y) (wln (W.seq (sr (va (v1) (vx (ln 3 underlying35 j.m) (va (I 0) (wln (W.block (bn H fun t0 p k => lp p (fun a => Jn h fun c l => ∃ v15 f, Own c G (es true R_api_Span v15 41 f a.1 :: F) ∧ l = [(3, v15), (9, v1), (10, I (i.length : Int)), (11, I a.2)] ∧ OA R_api_Span c v15 f a.1) (fun d ex e w => ex = .exit 0 ∧ (Jn h fun c l => ∃ v17 g, Own c G (es true R_api_Span v17 41 g d :: F) ∧ l = [(3, v17)] ∧ OA R_api_Span c v17 g d) e w) ?_ ?_ ?_))))))))))))
 ·clear k p
  intro a f1 S i0 H
  revert S i0
  rintro e_ w_ ⟨N, z0, _, rfl, f0, rfl, v15, f, n, rfl, q⟩
  refine sr (va (B (decide (a.2 < (i.length : Int)))) (wln (W.seq (cn H (fun X H => ?_) (fun X H => ?_)))))
  ·refine W.skip (nrm (W.seq (W.block (sr (bn H fun b s H => ?_)))))
   obtain ⟨s0, Z, g0⟩ := Sl.at (j.mono (l8.trans f0)) (idx_get s)
   obtain rfl := Z
   refine vx (ix underlying35 j.m s) (vx (lN 41 g0) (me (al 41 [I 0, I 0, I 0] n) ?_))
   rintro v34 x0 b1 ⟨w0, rfl, x⟩
   refine md (sA 41 [I b.Lo, I b.Hi, I b.Val] 0 x ⟨rfl, rfl, rfl, trivial⟩) ?_
   rintro y0 c1 o
   refine wln (W.region (va (v15) (vx (leN 41 0 [I b.Lo, I b.Hi, I b.Val] (o.on 0 rfl)) ?_)))
   have y := o.sD 2 [1, 0]
   refine bn H fun v0 a0 H => cl (c_spans_lay a.1 b y q.m a0) ?_
   rintro v39 P d1 ⟨_, h0, z, rfl, b0⟩
   refine va (v39) (WL.nil (bkn (nrm (W.region (va (I (w64 (a.2 + 1))) (va (I (w64 (a.2 + 1))) (WL.nil ?_)))))))
   obtain rfl := si H
   refine ⟨_, rfl, ?_⟩
   have A := z.sD 2 [0]
   exact ⟨P, _, _, rfl, pt, us, v39, h0, A, rfl, b0⟩
  refine W.exit (thx ?_)
  obtain rfl := si H
  exact ⟨_, rfl, rfl, ⟨N, _, _, rfl, pt, us, v15, f, n, rfl, q⟩⟩
 ·have d0 : OA R_api_Span h (Y) [] [] := OA.nil (Nat.succ_pos _)
  have D := E.addHole (e := es true R_api_Span (Y) 41 [] ([] : List G_api_Span)) rfl
  exact ⟨h, _, _, rfl, pt, us, (Y), [], D, rfl, d0⟩
 rintro _ e_ w_ ⟨rfl, R, a1, _, rfl, e1, rfl, v17, g, M, rfl, e0⟩
 refine bke (nrm (sr (va (v17) (va (v17) (wln (W.ret ?_))))))
 obtain rfl := si k
 exact r1 ⟨_, R, rfl, rfl, pt, v17, g, M, rfl, e0⟩
def f_spans_Find (p0 : List G_api_Span) (p1 : Int) : Option (Int) :=
 (f_spans_Right p0).bind fun b =>
 if (!b) = true then
 some 0
 else
 (f_spans_find p0 p1).bind fun a =>
 some a
theorem c_spans_Find (l : Own c0 G F) (a : List G_api_Span) (b : Int) {r : Int} (j : Sl R_api_Span c0 v1 a) (H : f_spans_Find a b = some r) :
    Calls prog 19 #[v1, I b] c0.w (Post c0 fun c v => Own c G (F) ∧ v = I r) := by
 unfold f_spans_Find at H
 refine en func19 rfl rfl (sr (va (I 0) (wln (W.seq (sr (va (v1) (bn H fun k o H => cl (c_spans_Right l a j o) ?_)))))))
 rintro v9 n p ⟨f, rfl⟩
 refine va (B (!k)) (wln (cn H (fun h H => ?_) (fun h H => ?_)))
 ·refine sr (va (I 0) (wln (W.ret (thr ?_))))
  obtain rfl := si H
  exact r1 ⟨_, n, rfl, rfl, pt, f, rfl⟩
 refine W.skip (nrm (sr (va (v1) (va (I b) (bn H fun d i H => cl (c_spans_find f a b j.m i) ?_)))))
 rintro v17 g l16 ⟨e, rfl⟩
 refine va (I d) (wln (W.ret ?_))
 obtain rfl := si H
 exact r1 ⟨_, g, rfl, rfl, pt, e, rfl⟩
def f_spans_Count (p0 : List G_api_Span) : Option (Int) :=
 (f_spans_Right p0).bind fun d =>
 if (!d) = true then
 some 0
 else
 (iter (σ := Int × Int) (τ := Int) (((p0.length : Int) - 0).toNat + 1) (fun a =>
 if (decide (a.2 < (p0.length : Int))) = true then
 (idx p0 a.2).bind fun b =>
 some (.inl ((w64 (a.1 + (w64 ((w64 (b.Hi - b.Lo)) + 1)))), (w64 (a.2 + 1))))
 else
 some (.inr (a.1))) (0, 0)).bind fun c =>
 some c
theorem c_spans_Count (U : Own c0 G F) (g : List G_api_Span) {r : Int} (i : Sl R_api_Span c0 v1 g) (H : f_spans_Count g = some r) :
    Calls prog 20 #[v1] c0.w (Post c0 fun c v => Own c G (F) ∧ v = I r) := by
 unfold f_spans_Count at H
 refine en func20 rfl rfl (sr (va (I 0) (wln (W.seq (sr (va (v1) (bn H fun T Z H => cl (c_spans_Right U g i Z) ?_)))))))
 rintro v9 h l8 ⟨x, rfl⟩
 refine va (B (!T)) (wln (cn H (fun E H => ?_) (fun E H => ?_)))
 ·refine sr (va (I 0) (wln (W.ret (thr ?_))))
  obtain rfl := si H
  exact r1 ⟨_, h, rfl, rfl, pt, x, rfl⟩
 refine W.skip (nrm (sr (va (I 0) (wln (W.seq (sr (va (v1) (vx (ln 3 underlying35 i.m) (va (I 0) (wln (W.block (bn H fun f p k => lp p (fun b => Jn h fun c l => Own c G (F) ∧ l = [(3, I b.1), (9, v1), (10, I (g.length : Int)), (11, I b.2)]) (fun j ex e w => ex = .exit 0 ∧ (Jn h fun c l => Own c G (F) ∧ l = [(3, I j)]) e w) ?_ ?_ ?_))))))))))))
 ·clear k p
  intro b k0 D S H
  revert D S
  rintro X w_ ⟨y, f0, _, rfl, P, rfl, n, rfl⟩
  refine sr (va (B (decide (b.2 < (g.length : Int)))) (wln (W.seq (cn H (fun M H => ?_) (fun M H => ?_)))))
  ·refine W.skip (nrm (W.seq (W.block (sr (bn H fun a q H => ?_)))))
   obtain ⟨b0, N, R⟩ := Sl.at (i.mono (l8.trans P)) (idx_get q)
   obtain rfl := N
   refine vx (ix underlying35 i.m q) (vx (lN 41 R) (me (al 41 [I 0, I 0, I 0] n) ?_))
   rintro v27 e0 h0 ⟨o, rfl, s⟩
   refine md (sA 41 [I a.Lo, I a.Hi, I a.Val] 0 s ⟨rfl, rfl, rfl, trivial⟩) ?_
   rintro z i0 d
   refine wln (W.region (va (I b.1) (va (.pointer (some ⟨o, 1, none⟩)) (vx (le1 1 underlying3 (d.on 0 rfl)) (va (Q o) (vx (le1 0 underlying3 (d.on 0 rfl)) (va (I (w64 (a.Hi - a.Lo))) (va (I (w64 ((w64 (a.Hi - a.Lo)) + 1))) (va (I (w64 (b.1 + (w64 ((w64 (a.Hi - a.Lo)) + 1))))) (va (I (w64 (b.1 + (w64 ((w64 (a.Hi - a.Lo)) + 1))))) (WL.nil (bkn (nrm (W.region (va (I (w64 (b.2 + 1))) (va (I (w64 (b.2 + 1))) (WL.nil ?_)))))))))))))))))
   obtain rfl := si H
   refine ⟨_, rfl, ?_⟩
   have t := d.sD 1 []
   exact ⟨z, _, _, rfl, pt, us, t, rfl⟩
  refine W.exit (thx ?_)
  obtain rfl := si H
  exact ⟨_, rfl, rfl, ⟨y, _, _, rfl, pt, us, n, rfl⟩⟩
 ·exact ⟨h, _, _, rfl, pt, us, x, rfl⟩
 rintro _ X w_ ⟨rfl, A, g0, _, rfl, j0, rfl, u, rfl⟩
 refine bke (nrm (sr (va (I f) (va (I f) (wln (W.ret ?_))))))
 obtain rfl := si k
 exact r1 ⟨_, A, rfl, rfl, pt, u, rfl⟩
def f_linotyperef06_Right (p0 : List G_api_Span) : Option (Bool) :=
 (iter (σ := Int) (τ := Bool ⊕ Unit) (((p0.length : Int) - 0).toNat + 1) (fun a =>
 if (decide (a < (p0.length : Int))) = true then
 (idx p0 a).bind fun i =>
 (orE (decide (i.Lo < 0)) ((idx p0 a).bind fun j =>
 (idx p0 a).bind fun k =>
 some (decide (j.Lo > k.Hi)))).bind fun c =>
 (orE c ((idx p0 a).bind fun l =>
 some (decide (l.Hi > 1114111)))).bind fun d =>
 (orE d ((idx p0 a).bind fun m =>
 some (decide (m.Val < 1)))).bind fun e =>
 (orE e ((idx p0 a).bind fun n =>
 some (decide (n.Val > 65535)))).bind fun f =>
 (orE f ((andE (decide (a > 0)) ((idx p0 a).bind fun o =>
 (idx p0 (w64 (a - 1))).bind fun p =>
 some (decide (o.Lo ≤ p.Hi)))).bind fun h =>
 some h)).bind fun g =>
 if g = true then
 some (.inr (.inl false))
 else
 some (.inl ((w64 (a + 1))))
 else
 some (.inr (.inr ()))) (0)).bind fun b =>
 match b with
 | .inl b =>
 some b
 | .inr b =>
 some true
theorem c_linotyperef06_Right (O0 : Own c0 G F) (p0 : List G_api_Span) {r : Bool} (f : Sl R_api_Span c0 v1 p0) (H : f_linotyperef06_Right p0 = some r) :
    Calls prog 17 #[v1] c0.w (Post c0 fun c v => Own c G (F) ∧ v = B r) := by
 unfold f_linotyperef06_Right at H
 refine en func17 rfl rfl (sr (va (B false) (wln (W.seq (sr (va (I 0) (wln (W.block (bn H fun b0 h3 H4 => lp h3 (fun b => Jn c0 fun c l => Own c G (F) ∧ l = [(0, v1), (3, I b)]) (fun t => match t with | .inl x_ => (fun p2 ex e w => ex = .ret ∧ (Jn c0 fun c l => Own c G (F) ∧ l = [(2, B p2)]) e w) x_ | .inr x_ => (fun g3 ex e w => ex = .exit 0 ∧ (Jn c0 fun c l => Own c G (F) ∧ l = []) e w) x_) ?_ ?_ ?_)))))))))
 ·clear H4 h3
  intro b p3 s1 q2 H
  revert s1 q2
  rintro e_ w_ ⟨c5, g6, _, rfl, z, rfl, O7, rfl⟩
  refine W.seq (sr (va (I b) (va (v1) (vx (ln 3 underlying35 f.m) (va (B (decide (b < (p0.length : Int)))) (wln (cn H (fun u1 H => ?_) (fun u1 H => ?_))))))))
  ·refine W.skip (nrm (W.seq (W.block (W.seq (bn H fun d0 g0 H => bn H fun t2 h0 H => bn H fun u2 a0 H => bn H fun v2 T H => bn H fun w2 o H => bn H fun e1 j H => W.join (Jn c5 fun c l => Own c G (F) ∧ l = [(0, v1), (3, I b), (70, B e1)]) ?_ ?_)))))
   ·clear H
    refine rD [] (Kp G0 []) O7 ?_
    intro g h i
    have o3 : Kp G0 [] g := Kp.nil0
    refine ta 0 (v1) (ta 1 (I b) ?_)
    obtain ⟨y2, w1, g2⟩ := Sl.at (f.mono (z.trans h)) (idx_get g0)
    obtain rfl := w1
    refine tx 2 (fun d a => ix underlying35 f.m g0) (ta 3 (.pointer (some ⟨sb v1, so v1 + b.toNat * 3, none⟩)) (tx 4 (fun d a => l1 underlying3 ((mm g2) 0 _ rfl)) (ta 5 (B (decide (d0.Lo < 0))) ?_)))
    rcases bo (decide (d0.Lo < 0)) with p | p
    ·obtain rfl := orT p h0
     refine AC.takeb 6 p rfl (by kernel_rfl) (by kernel_rfl) (fun d a => (by kernel_rfl)) (tp 7 (tp 8 (tp 9 (tp 10 (tp 11 (tp 12 (tp 13 (tp 14 (tp 15 (tp 16 (tp 17 (ta 18 (B true) ?_))))))))))))
     have i0 : true = true := rfl
     obtain rfl := orT i0 a0
     refine AC.takeb 19 i0 rfl (by kernel_rfl) (by kernel_rfl) (fun d a => (by kernel_rfl)) (tp 20 (tp 21 (tp 22 (tp 23 (tp 24 (tp 25 (ta 26 (B true) ?_)))))))
     have j0 : true = true := rfl
     obtain rfl := orT j0 T
     refine AC.takeb 27 j0 rfl (by kernel_rfl) (by kernel_rfl) (fun d a => (by kernel_rfl)) (tp 28 (tp 29 (tp 30 (tp 31 (tp 32 (tp 33 (ta 34 (B true) ?_)))))))
     have k0 : true = true := rfl
     obtain rfl := orT k0 o
     refine AC.takeb 35 k0 rfl (by kernel_rfl) (by kernel_rfl) (fun d a => (by kernel_rfl)) (tp 36 (tp 37 (tp 38 (tp 39 (tp 40 (tp 41 (ta 42 (B true) ?_)))))))
     have l0 : true = true := rfl
     obtain rfl := orT l0 j
     exact AC.takeb 43 l0 rfl (by kernel_rfl) (by kernel_rfl) (fun d a => (by kernel_rfl)) (tp 44 (tp 45 (tp 46 (tp 47 (tp 48 (tp 49 (tp 50 (tp 51 (tp 52 (tp 53 (tp 54 (tp 55 (tp 56 (tp 57 (tp 58 (tp 59 (ta 60 (B true) (dn (nrm ⟨g, _, _, rfl, pt, us, i, rfl⟩)))))))))))))))))))
    have k := orF p h0
    refine bn k fun A m0 k => bn k fun D o0 k => AC.takeb 6 p rfl (by kernel_rfl) (by kernel_rfl) (fun d a => (by kernel_rfl)) (ta 7 (v1) (ta 8 (I b) ?_))
    obtain ⟨z2, y1, i2⟩ := Sl.at (f.mono (z.trans h)) (idx_get m0)
    obtain rfl := y1
    refine tx 9 (fun d a => ix underlying35 f.m m0) (ta 10 (.pointer (some ⟨sb v1, so v1 + b.toNat * 3, none⟩)) (tx 11 (fun d a => l1 underlying3 ((mm i2) 0 _ rfl)) (ta 12 (v1) (ta 13 (I b) ?_))))
    obtain ⟨a3, z1, j2⟩ := Sl.at (f.mono (z.trans h)) (idx_get o0)
    obtain rfl := z1
    refine tx 14 (fun d a => ix underlying35 f.m o0) (ta 15 (.pointer (some ⟨sb v1, so v1 + b.toNat * 3 + 1, none⟩)) (tx 16 (fun d a => l1 underlying3 ((mm j2) 1 _ rfl)) (ta 17 (B (decide (A.Lo > D.Hi))) ?_)))
    obtain rfl := si k
    refine ta 18 (B (decide (A.Lo > D.Hi))) ?_
    rcases bo (decide (A.Lo > D.Hi)) with q | q
    ·obtain rfl := orT q a0
     refine AC.takeb 19 q rfl (by kernel_rfl) (by kernel_rfl) (fun d a => (by kernel_rfl)) (tp 20 (tp 21 (tp 22 (tp 23 (tp 24 (tp 25 (ta 26 (B true) ?_)))))))
     have q0 : true = true := rfl
     obtain rfl := orT q0 T
     refine AC.takeb 27 q0 rfl (by kernel_rfl) (by kernel_rfl) (fun d a => (by kernel_rfl)) (tp 28 (tp 29 (tp 30 (tp 31 (tp 32 (tp 33 (ta 34 (B true) ?_)))))))
     have s0 : true = true := rfl
     obtain rfl := orT s0 o
     refine AC.takeb 35 s0 rfl (by kernel_rfl) (by kernel_rfl) (fun d a => (by kernel_rfl)) (tp 36 (tp 37 (tp 38 (tp 39 (tp 40 (tp 41 (ta 42 (B true) ?_)))))))
     have t0 : true = true := rfl
     obtain rfl := orT t0 j
     exact AC.takeb 43 t0 rfl (by kernel_rfl) (by kernel_rfl) (fun d a => (by kernel_rfl)) (tp 44 (tp 45 (tp 46 (tp 47 (tp 48 (tp 49 (tp 50 (tp 51 (tp 52 (tp 53 (tp 54 (tp 55 (tp 56 (tp 57 (tp 58 (tp 59 (ta 60 (B true) (dn (nrm ⟨g, _, _, rfl, pt, us, i, rfl⟩)))))))))))))))))))
    have U := orF q a0
    refine bn U fun E u0 U => AC.takeb 19 q rfl (by kernel_rfl) (by kernel_rfl) (fun d a => (by kernel_rfl)) (ta 20 (v1) (ta 21 (I b) ?_))
    obtain ⟨b3, a2, k2⟩ := Sl.at (f.mono (z.trans h)) (idx_get u0)
    obtain rfl := a2
    refine tx 22 (fun d a => ix underlying35 f.m u0) (ta 23 (.pointer (some ⟨sb v1, so v1 + b.toNat * 3 + 1, none⟩)) (tx 24 (fun d a => l1 underlying3 ((mm k2) 1 _ rfl)) (ta 25 (B (decide (E.Hi > 1114111))) ?_)))
    obtain rfl := si U
    refine ta 26 (B (decide (E.Hi > 1114111))) ?_
    rcases bo (decide (E.Hi > 1114111)) with s | s
    ·obtain rfl := orT s T
     refine AC.takeb 27 s rfl (by kernel_rfl) (by kernel_rfl) (fun d a => (by kernel_rfl)) (tp 28 (tp 29 (tp 30 (tp 31 (tp 32 (tp 33 (ta 34 (B true) ?_)))))))
     have v0 : true = true := rfl
     obtain rfl := orT v0 o
     refine AC.takeb 35 v0 rfl (by kernel_rfl) (by kernel_rfl) (fun d a => (by kernel_rfl)) (tp 36 (tp 37 (tp 38 (tp 39 (tp 40 (tp 41 (ta 42 (B true) ?_)))))))
     have w0 : true = true := rfl
     obtain rfl := orT w0 j
     exact AC.takeb 43 w0 rfl (by kernel_rfl) (by kernel_rfl) (fun d a => (by kernel_rfl)) (tp 44 (tp 45 (tp 46 (tp 47 (tp 48 (tp 49 (tp 50 (tp 51 (tp 52 (tp 53 (tp 54 (tp 55 (tp 56 (tp 57 (tp 58 (tp 59 (ta 60 (B true) (dn (nrm ⟨g, _, _, rfl, pt, us, i, rfl⟩)))))))))))))))))))
    have X := orF s T
    refine bn X fun M x0 X => AC.takeb 27 s rfl (by kernel_rfl) (by kernel_rfl) (fun d a => (by kernel_rfl)) (ta 28 (v1) (ta 29 (I b) ?_))
    obtain ⟨c3, b2, l2⟩ := Sl.at (f.mono (z.trans h)) (idx_get x0)
    obtain rfl := b2
    refine tx 30 (fun d a => ix underlying35 f.m x0) (ta 31 (.pointer (some ⟨sb v1, so v1 + b.toNat * 3 + 2, none⟩)) (tx 32 (fun d a => l1 underlying3 ((mm l2) 2 _ rfl)) (ta 33 (B (decide (M.Val < 1))) ?_)))
    obtain rfl := si X
    refine ta 34 (B (decide (M.Val < 1))) ?_
    rcases bo (decide (M.Val < 1)) with u | u
    ·obtain rfl := orT u o
     refine AC.takeb 35 u rfl (by kernel_rfl) (by kernel_rfl) (fun d a => (by kernel_rfl)) (tp 36 (tp 37 (tp 38 (tp 39 (tp 40 (tp 41 (ta 42 (B true) ?_)))))))
     have y0 : true = true := rfl
     obtain rfl := orT y0 j
     exact AC.takeb 43 y0 rfl (by kernel_rfl) (by kernel_rfl) (fun d a => (by kernel_rfl)) (tp 44 (tp 45 (tp 46 (tp 47 (tp 48 (tp 49 (tp 50 (tp 51 (tp 52 (tp 53 (tp 54 (tp 55 (tp 56 (tp 57 (tp 58 (tp 59 (ta 60 (B true) (dn (nrm ⟨g, _, _, rfl, pt, us, i, rfl⟩)))))))))))))))))))
    have Z := orF u o
    refine bn Z fun N z0 Z => AC.takeb 35 u rfl (by kernel_rfl) (by kernel_rfl) (fun d a => (by kernel_rfl)) (ta 36 (v1) (ta 37 (I b) ?_))
    obtain ⟨d3, c2, m2⟩ := Sl.at (f.mono (z.trans h)) (idx_get z0)
    obtain rfl := c2
    refine tx 38 (fun d a => ix underlying35 f.m z0) (ta 39 (.pointer (some ⟨sb v1, so v1 + b.toNat * 3 + 2, none⟩)) (tx 40 (fun d a => l1 underlying3 ((mm m2) 2 _ rfl)) (ta 41 (B (decide (N.Val > 65535))) ?_)))
    obtain rfl := si Z
    refine ta 42 (B (decide (N.Val > 65535))) ?_
    rcases bo (decide (N.Val > 65535)) with x | x
    ·obtain rfl := orT x j
     exact AC.takeb 43 x rfl (by kernel_rfl) (by kernel_rfl) (fun d a => (by kernel_rfl)) (tp 44 (tp 45 (tp 46 (tp 47 (tp 48 (tp 49 (tp 50 (tp 51 (tp 52 (tp 53 (tp 54 (tp 55 (tp 56 (tp 57 (tp 58 (tp 59 (ta 60 (B true) (dn (nrm ⟨g, _, _, rfl, pt, us, i, rfl⟩)))))))))))))))))))
    have S := orF x j
    refine bn S fun x2 a1 S => AC.takeb 43 x rfl (by kernel_rfl) (by kernel_rfl) (fun d a => (by kernel_rfl)) (ta 44 (I b) (ta 45 (B (decide (b > 0))) ?_))
    rcases bo (decide (b > 0)) with y | y
    ·have n := anT y a1
     refine bn n fun P b1 n => bn n fun R c1 n => AC.takeb 46 y rfl (by kernel_rfl) (by kernel_rfl) (fun d a => (by kernel_rfl)) (ta 47 (v1) (ta 48 (I b) ?_))
     obtain ⟨e3, d2, n2⟩ := Sl.at (f.mono (z.trans h)) (idx_get b1)
     obtain rfl := d2
     refine tx 49 (fun d a => ix underlying35 f.m b1) (ta 50 (.pointer (some ⟨sb v1, so v1 + b.toNat * 3, none⟩)) (tx 51 (fun d a => l1 underlying3 ((mm n2) 0 _ rfl)) (ta 52 (v1) (ta 53 (I b) (ta 54 (I (w64 (b - 1))) ?_)))))
     obtain ⟨f3, e2, o2⟩ := Sl.at (f.mono (z.trans h)) (idx_get c1)
     obtain rfl := e2
     refine tx 55 (fun d a => ix underlying35 f.m c1) (ta 56 (.pointer (some ⟨sb v1, so v1 + (w64 (b - 1)).toNat * 3 + 1, none⟩)) (tx 57 (fun d a => l1 underlying3 ((mm o2) 1 _ rfl)) (ta 58 (B (decide (P.Lo ≤ R.Hi))) ?_)))
     obtain rfl := si n
     refine ta 59 (B (decide (P.Lo ≤ R.Hi))) ?_
     obtain rfl := si S
     exact ta 60 (B (decide (P.Lo ≤ R.Hi))) (dn (nrm ⟨g, _, _, rfl, pt, us, i, rfl⟩))
    obtain rfl := anF y a1
    refine AC.takeb 46 y rfl (by kernel_rfl) (by kernel_rfl) (fun d a => (by kernel_rfl)) (tp 47 (tp 48 (tp 49 (tp 50 (tp 51 (tp 52 (tp 53 (tp 54 (tp 55 (tp 56 (tp 57 (tp 58 (ta 59 (B false) ?_)))))))))))))
    obtain rfl := si S
    exact ta 60 (B false) (dn (nrm ⟨g, _, _, rfl, pt, us, i, rfl⟩))
   rintro e_ w_ ⟨f0, i3, _, rfl, l3, rfl, e0, rfl⟩
   refine nrm (cn H (fun f2 H => ?_) (fun f2 H => ?_))
   ·refine sr (va (B false) (wln (W.ret (bkr (thr ?_)))))
    obtain rfl := si H
    exact ⟨_, rfl, ⟨rfl, ⟨f0, _, _, rfl, pt, us, e0, rfl⟩⟩⟩
   refine W.skip (bkn (nrm (W.region (va (I b) (va (I (w64 (b + 1))) (va (I (w64 (b + 1))) (WL.nil ?_)))))))
   obtain rfl := si H
   exact ⟨_, rfl, ⟨f0, _, _, rfl, pt, us, e0, rfl⟩⟩
  refine W.exit (thx ?_)
  obtain rfl := si H
  exact ⟨_, rfl, rfl, ⟨c5, _, _, rfl, pt, us, O7, rfl⟩⟩
 ·exact ⟨c0, _, _, rfl, pt, us, O0, rfl⟩
 rcases b0 with b0 | b0
 ·intro t1; revert t1
  rintro _ e_ w_ ⟨rfl, p1, j3, _, rfl, m3, rfl, k1, rfl⟩
  refine bkr (thr ?_)
  obtain rfl := si H4
  exact r1 ⟨_, p1, rfl, rfl, pt, k1, rfl⟩
 rintro _ e_ w_ ⟨rfl, q1, k3, _, rfl, n3, rfl, m1, rfl⟩
 refine bke (nrm (sr (va (B true) (wln (W.ret ?_)))))
 obtain rfl := si H4
 exact r1 ⟨_, q1, rfl, rfl, pt, m1, rfl⟩
def f_linotyperef06_Find (p0 : List G_api_Span) (p1 : Int) : Option (Int) :=
 (iter (σ := Int) (τ := Int ⊕ Unit) (((p0.length : Int) - 0).toNat + 1) (fun a =>
 if (decide (a < (p0.length : Int))) = true then
 (idx p0 a).bind fun d =>
 (andE (decide (d.Lo ≤ p1)) ((idx p0 a).bind fun e =>
 some (decide (p1 ≤ e.Hi)))).bind fun c =>
 if c = true then
 (idx p0 a).bind fun f =>
 some (.inr (.inl f.Val))
 else
 some (.inl ((w64 (a + 1))))
 else
 some (.inr (.inr ()))) (0)).bind fun b =>
 match b with
 | .inl b =>
 some b
 | .inr b =>
 some 0
theorem c_linotyperef06_Find (O0 : Own c0 G F) (E : List G_api_Span) (b : Int) {r : Int} (f : Sl R_api_Span c0 v1 E) (H : f_linotyperef06_Find E b = some r) :
    Calls prog 22 #[v1, I b] c0.w (Post c0 fun c v => Own c G (F) ∧ v = I r) := by
 unfold f_linotyperef06_Find at H
 refine en func22 rfl rfl (sr (va (I 0) (wln (W.seq (sr (va (I 0) (wln (W.block (bn H fun h h3 x => lp h3 (fun a => Jn c0 fun c l => Own c G (F) ∧ l = [(0, v1), (1, I b), (5, I a)]) (fun t => match t with | .inl N => (fun l0 ex e w => ex = .ret ∧ (Jn c0 fun c l => Own c G (F) ∧ l = [(4, I l0)]) e w) N | .inr N => (fun u0 ex e w => ex = .exit 0 ∧ (Jn c0 fun c l => Own c G (F) ∧ l = []) e w) N) ?_ ?_ ?_)))))))))
 ·clear x h3
  intro a a1 X m0 H
  revert X m0
  rintro A M ⟨k, g6, _, rfl, D, rfl, y, rfl⟩
  refine W.seq (sr (va (I a) (va (v1) (vx (ln 3 underlying35 f.m) (va (B (decide (a < (E.length : Int)))) (wln (cn H (fun a0 H => ?_) (fun a0 H => ?_))))))))
  ·refine W.skip (nrm (W.seq (W.block (W.seq (bn H fun i p H => bn H fun z q H => W.join (Jn k fun c l => Own c G (F) ∧ l = [(0, v1), (1, I b), (5, I a), (27, B z)]) ?_ ?_)))))
   ·clear H
    refine W.region (va (v1) (va (I a) ?_))
    obtain ⟨q0, b0, i0⟩ := Sl.at (f.mono D) (idx_get p)
    obtain rfl := b0
    refine vx (ix underlying35 f.m p) (va (.pointer (some ⟨sb v1, so v1 + a.toNat * 3, none⟩)) (vx (l1 underlying3 (i0 0 _ rfl)) (va (I b) (va (B (decide (i.Lo ≤ b))) ?_))))
    rcases bo (decide (i.Lo ≤ b)) with d | d
    ·have g := anT d q
     refine vb d (wn (va (I b) (wn (va (v1) (wn (va (I a) (wn (bn g fun j s g => ?_))))))))
     obtain ⟨s0, d0, j0⟩ := Sl.at (f.mono D) (idx_get s)
     obtain rfl := d0
     refine vx (ix underlying35 f.m s) (wn (va (.pointer (some ⟨sb v1, so v1 + a.toNat * 3 + 1, none⟩)) (wn (vx (l1 underlying3 (j0 1 _ rfl)) (wn (va (B (decide (b ≤ j.Hi))) ?_))))))
     obtain rfl := si g
     exact va (B (decide (b ≤ j.Hi))) (wln ⟨k, _, _, rfl, pt, us, y, rfl⟩)
    obtain rfl := anF d q
    exact vb d (ps (ps (ps (ps (ps (ps (ps (va (B false) (wln ⟨k, _, _, rfl, pt, us, y, rfl⟩)))))))))
   rintro A M ⟨o, v0, _, rfl, h0, rfl, n, rfl⟩
   refine nrm (cn H (fun e0 H => ?_) (fun e0 H => ?_))
   ·refine sr (va (v1) (va (I a) (bn H fun P u H => ?_)))
    obtain ⟨t0, g0, k0⟩ := Sl.at (f.mono (D.trans h0)) (idx_get u)
    obtain rfl := g0
    refine vx (ix underlying35 f.m u) (va (.pointer (some ⟨sb v1, so v1 + a.toNat * 3 + 2, none⟩)) (vx (l1 underlying3 (k0 2 _ rfl)) (va (I P.Val) (wln (W.ret (bkr (thr ?_)))))))
    obtain rfl := si H
    exact ⟨_, rfl, ⟨rfl, ⟨o, _, _, rfl, pt, us, n, rfl⟩⟩⟩
   refine W.skip (bkn (nrm (W.region (va (I a) (va (I (w64 (a + 1))) (va (I (w64 (a + 1))) (WL.nil ?_)))))))
   obtain rfl := si H
   exact ⟨_, rfl, ⟨o, _, _, rfl, pt, us, n, rfl⟩⟩
  refine W.exit (thx ?_)
  obtain rfl := si H
  exact ⟨_, rfl, rfl, ⟨k, _, _, rfl, pt, us, y, rfl⟩⟩
 ·exact ⟨c0, _, _, rfl, pt, us, O0, rfl⟩
 rcases h with h | h
 ·intro Z; revert Z
  rintro _ A M ⟨rfl, T, w0, _, rfl, y0, rfl, R, rfl⟩
  refine bkr (thr ?_)
  obtain rfl := si x
  exact r1 ⟨_, T, rfl, rfl, pt, R, rfl⟩
 rintro _ A M ⟨rfl, U, x0, _, rfl, z0, rfl, S, rfl⟩
 refine bke (nrm (sr (va (I 0) (wln (W.ret ?_)))))
 obtain rfl := si x
 exact r1 ⟨_, U, rfl, rfl, pt, S, rfl⟩
def f_linotyperef06_Few (p0 : List G_api_Span) : Option (Bool) :=
 (iter (σ := Int) (τ := Bool ⊕ Unit) (((p0.length : Int) - 1).toNat + 1) (fun a =>
 if (decide (a < (p0.length : Int))) = true then
 (idx p0 a).bind fun d =>
 (idx p0 (w64 (a - 1))).bind fun e =>
 (andE (d.Val == e.Val) ((idx p0 a).bind fun f =>
 (idx p0 (w64 (a - 1))).bind fun g =>
 some ((w64 (f.Lo - 1)) == g.Hi))).bind fun c =>
 if c = true then
 some (.inr (.inl false))
 else
 some (.inl ((w64 (a + 1))))
 else
 some (.inr (.inr ()))) (1)).bind fun b =>
 match b with
 | .inl b =>
 some b
 | .inr b =>
 some true
theorem c_linotyperef06_Few (O0 : Own c0 G F) (S : List G_api_Span) {r : Bool} (f : Sl R_api_Span c0 v1 S) (H : f_linotyperef06_Few S = some r) :
    Calls prog 23 #[v1] c0.w (Post c0 fun c v => Own c G (F) ∧ v = B r) := by
 unfold f_linotyperef06_Few at H
 refine en func23 rfl rfl (sr (va (B false) (wln (W.seq (sr (va (I 1) (wln (W.block (bn H fun n h3 N => lp h3 (fun a => Jn c0 fun c l => Own c G (F) ∧ l = [(0, v1), (3, I a)]) (fun t => match t with | .inl U => (fun v0 ex e w => ex = .ret ∧ (Jn c0 fun c l => Own c G (F) ∧ l = [(2, B v0)]) e w) U | .inr U => (fun c1 ex e w => ex = .exit 0 ∧ (Jn c0 fun c l => Own c G (F) ∧ l = []) e w) U) ?_ ?_ ?_)))))))))
 ·clear N h3
  intro a k1 f0 w0 H
  revert f0 w0
  rintro R T ⟨c5, g6, _, rfl, s, rfl, O7, rfl⟩
  refine W.seq (sr (va (I a) (va (v1) (vx (ln 3 underlying35 f.m) (va (B (decide (a < (S.length : Int)))) (wln (cn H (fun h0 H => ?_) (fun h0 H => ?_))))))))
  ·refine W.skip (nrm (W.seq (W.block (W.seq (bn H fun o z H => bn H fun p A H => bn H fun P D H => W.join (Jn c5 fun c l => Own c G (F) ∧ l = [(0, v1), (3, I a), (36, B P)]) ?_ ?_)))))
   ·clear H
    refine rD [] (Kp G0 []) O7 ?_
    intro k j u
    have j1 : Kp G0 [] k := Kp.nil0
    refine ta 0 (v1) (ta 1 (I a) ?_)
    obtain ⟨y0, i0, q0⟩ := Sl.at (f.mono (s.trans j)) (idx_get z)
    obtain rfl := i0
    refine tx 2 (fun d b => ix underlying35 f.m z) (ta 3 (.pointer (some ⟨sb v1, so v1 + a.toNat * 3 + 2, none⟩)) (tx 4 (fun d b => l1 underlying3 ((mm q0) 2 _ rfl)) (ta 5 (v1) (ta 6 (I a) (ta 7 (I (w64 (a - 1))) ?_)))))
    obtain ⟨z0, j0, s0⟩ := Sl.at (f.mono (s.trans j)) (idx_get A)
    obtain rfl := j0
    refine tx 8 (fun d b => ix underlying35 f.m A) (ta 9 (.pointer (some ⟨sb v1, so v1 + (w64 (a - 1)).toNat * 3 + 2, none⟩)) (tx 10 (fun d b => l1 underlying3 ((mm s0) 2 _ rfl)) (ta 11 (B (o.Val == p.Val)) ?_)))
    rcases bo (o.Val == p.Val) with h | h
    ·have g := anT h D
     refine bn g fun i E g => bn g fun q M g => AC.takeb 12 h rfl (by kernel_rfl) (by kernel_rfl) (fun d b => (by kernel_rfl)) (ta 13 (v1) (ta 14 (I a) ?_))
     obtain ⟨a1, k0, t0⟩ := Sl.at (f.mono (s.trans j)) (idx_get E)
     obtain rfl := k0
     refine tx 15 (fun d b => ix underlying35 f.m E) (ta 16 (.pointer (some ⟨sb v1, so v1 + a.toNat * 3, none⟩)) (tx 17 (fun d b => l1 underlying3 ((mm t0) 0 _ rfl)) (ta 18 (I (w64 (i.Lo - 1))) (ta 19 (v1) (ta 20 (I a) (ta 21 (I (w64 (a - 1))) ?_))))))
     obtain ⟨b1, m0, u0⟩ := Sl.at (f.mono (s.trans j)) (idx_get M)
     obtain rfl := m0
     refine tx 22 (fun d b => ix underlying35 f.m M) (ta 23 (.pointer (some ⟨sb v1, so v1 + (w64 (a - 1)).toNat * 3 + 1, none⟩)) (tx 24 (fun d b => l1 underlying3 ((mm u0) 1 _ rfl)) (ta 25 (B ((w64 (i.Lo - 1)) == q.Hi)) ?_)))
     obtain rfl := si g
     exact ta 26 (B ((w64 (i.Lo - 1)) == q.Hi)) (dn (nrm ⟨k, _, _, rfl, pt, us, u, rfl⟩))
    obtain rfl := anF h D
    exact AC.takeb 12 h rfl (by kernel_rfl) (by kernel_rfl) (fun d b => (by kernel_rfl)) (tp 13 (tp 14 (tp 15 (tp 16 (tp 17 (tp 18 (tp 19 (tp 20 (tp 21 (tp 22 (tp 23 (tp 24 (tp 25 (ta 26 (B false) (dn (nrm ⟨k, _, _, rfl, pt, us, u, rfl⟩))))))))))))))))
   rintro R T ⟨y, d1, _, rfl, g1, rfl, x, rfl⟩
   refine nrm (cn H (fun o0 H => ?_) (fun o0 H => ?_))
   ·refine sr (va (B false) (wln (W.ret (bkr (thr ?_)))))
    obtain rfl := si H
    exact ⟨_, rfl, ⟨rfl, ⟨y, _, _, rfl, pt, us, x, rfl⟩⟩⟩
   refine W.skip (bkn (nrm (W.region (va (I a) (va (I (w64 (a + 1))) (va (I (w64 (a + 1))) (WL.nil ?_)))))))
   obtain rfl := si H
   exact ⟨_, rfl, ⟨y, _, _, rfl, pt, us, x, rfl⟩⟩
  refine W.exit (thx ?_)
  obtain rfl := si H
  exact ⟨_, rfl, rfl, ⟨c5, _, _, rfl, pt, us, O7, rfl⟩⟩
 ·exact ⟨c0, _, _, rfl, pt, us, O0, rfl⟩
 rcases n with n | n
 ·intro g0; revert g0
  rintro _ R T ⟨rfl, b0, e1, _, rfl, h1, rfl, X, rfl⟩
  refine bkr (thr ?_)
  obtain rfl := si N
  exact r1 ⟨_, b0, rfl, rfl, pt, X, rfl⟩
 rintro _ R T ⟨rfl, d0, f1, _, rfl, i1, rfl, Z, rfl⟩
 refine bke (nrm (sr (va (B true) (wln (W.ret ?_)))))
 obtain rfl := si N
 exact r1 ⟨_, d0, rfl, rfl, pt, Z, rfl⟩
def f_linotyperef06_Same (p0 : List G_api_Span) (p1 : List G_api_Span) : Option (Bool) :=
 if ((p0.length : Int) != (p1.length : Int)) = true then
 some false
 else
 (iter (σ := Int) (τ := Bool ⊕ Unit) (((p0.length : Int) - 0).toNat + 1) (fun b =>
 if (decide (b < (p0.length : Int))) = true then
 (idx p0 b).bind fun c =>
 (idx p1 b).bind fun d =>
 if (!(c.Lo == d.Lo && (c.Hi == d.Hi && (c.Val == d.Val && true)))) = true then
 some (.inr (.inl false))
 else
 some (.inl ((w64 (b + 1))))
 else
 some (.inr (.inr ()))) (0)).bind fun a =>
 match a with
 | .inl a =>
 some a
 | .inr a =>
 some true
theorem c_linotyperef06_Same (A : Own c0 G F) (k : List G_api_Span) (y : List G_api_Span) {r : Bool} (j : Sl R_api_Span c0 v1 k) (x : Sl R_api_Span c0 v3 y) (H : f_linotyperef06_Same k y = some r) :
    Calls prog 24 #[v1, v3] c0.w (Post c0 fun c v => Own c G (F) ∧ v = B r) := by
 unfold f_linotyperef06_Same at H
 refine en func24 rfl rfl (sr (va (B false) (wln (W.seq (sr (va (v1) (vx (ln 3 underlying35 j) (va (v3) (vx (ln 3 underlying35 x) (va (B ((k.length : Int) != (y.length : Int))) (wln (cn H (fun h5 H => ?_) (fun h5 H => ?_)))))))))))))
 ·refine sr (va (B false) (wln (W.ret (thr ?_))))
  obtain rfl := si H
  exact r1 ⟨_, c0, rfl, rfl, pt, A, rfl⟩
 refine W.skip (nrm (W.seq (sr (va (I 0) (wln (W.block (bn H fun f h6 u => lp h6 (fun a => Jn c0 fun c l => Own c G (F) ∧ l = [(0, v1), (1, v3), (5, I a)]) (fun t => match t with | .inl z => (fun g0 ex e w => ex = .ret ∧ (Jn c0 fun c l => Own c G (F) ∧ l = [(4, B g0)]) e w) z | .inr z => (fun j0 ex e w => ex = .exit 0 ∧ (Jn c0 fun c l => Own c G (F) ∧ l = []) e w) z) ?_ ?_ ?_)))))))
 ·clear u h6
  intro a w0 R i0 H
  revert R i0
  rintro P w_ ⟨c8, g9, _, rfl, l8, rfl, n, rfl⟩
  refine W.seq (sr (va (I a) (va (v1) (vx (ln 3 underlying35 j.m) (va (B (decide (a < (k.length : Int)))) (wln (cn H (fun U H => ?_) (fun U H => ?_))))))))
  ·refine W.skip (nrm (W.seq (W.block (W.seq (rD [] (Kp G0 []) n ?_)))))
   intro h s o
   have v0 : Kp G0 [] h := Kp.nil0
   refine ta 0 (v1) (ta 1 (I a) (bn H fun b p H => ?_))
   obtain ⟨m0, X, e0⟩ := Sl.at (j.mono (l8.trans s)) (idx_get p)
   obtain rfl := X
   refine tx 2 (fun i g => ix underlying35 j.m p) (tx 3 (fun i g => lN 41 (mm e0)) (ta 4 (v3) (ta 5 (I a) (bn H fun d q H => ?_))))
   obtain ⟨o0, Z, f0⟩ := Sl.at (x.mono (l8.trans s)) (idx_get q)
   obtain rfl := Z
   refine tx 6 (fun i g => ix underlying35 x.m q) (tx 7 (fun i g => lN 41 (mm f0)) (AC.take 8 (B (!(b.Lo == d.Lo && (b.Hi == d.Hi && (b.Val == d.Val && true))))) rfl (by kernel_rfl) (by kernel_rfl) (fun i g => (run_neqA (T := 41) (xs := #[I b.Lo, I b.Hi, I b.Val]) (ys := #[I d.Lo, I d.Hi, I d.Val]) (r := (b.Lo == d.Lo && (b.Hi == d.Hi && (b.Val == d.Val && true)))) underlying41 (by kernel_rfl) (by kernel_rfl) (EqP.int (by kernel_rfl) underlying3 rfl rfl (EqP.int (by kernel_rfl) underlying3 rfl rfl (EqP.int (by kernel_rfl) underlying3 rfl rfl EqP.nil))) (by kernel_rfl) _)) (dn (nrm (cn H (fun a0 H => ?_) (fun a0 H => ?_))))))
   ·refine sr (va (B false) (wln (W.ret (bkr (thr ?_)))))
    obtain rfl := si H
    exact ⟨_, rfl, ⟨rfl, ⟨h, _, _, rfl, pt, us, o, rfl⟩⟩⟩
   refine W.skip (bkn (nrm (W.region (va (I a) (va (I (w64 (a + 1))) (va (I (w64 (a + 1))) (WL.nil ?_)))))))
   obtain rfl := si H
   exact ⟨_, rfl, ⟨h, _, _, rfl, pt, us, o, rfl⟩⟩
  refine W.exit (thx ?_)
  obtain rfl := si H
  exact ⟨_, rfl, rfl, ⟨c8, _, _, rfl, pt, us, n, rfl⟩⟩
 ·exact ⟨c0, _, _, rfl, pt, us, A, rfl⟩
 rcases f with f | f
 ·intro S; revert S
  rintro _ P w_ ⟨rfl, M, q0, _, rfl, t0, rfl, D, rfl⟩
  refine bkr (thr ?_)
  obtain rfl := si u
  exact r1 ⟨_, M, rfl, rfl, pt, D, rfl⟩
 rintro _ P w_ ⟨rfl, N, s0, _, rfl, u0, rfl, E, rfl⟩
 refine bke (nrm (sr (va (B true) (wln (W.ret ?_)))))
 obtain rfl := si u
 exact r1 ⟨_, N, rfl, rfl, pt, E, rfl⟩

end Go.Proofs.Ytfhhpdggmefcoaa
