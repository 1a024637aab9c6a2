/- Parts of the proofs of FeedCuts: the walk through the code, and plain Lean. No condition. -/
import Derived.Test.YtfhhpdggmefcoaaGreatDoorSfA
import Derived.Laws.BytesString
import Derived.Test.YtfhhpdggmefcoaaGreatDoorProg
import Derived.Test.YtfhhpdggmefcoaaGreatDoorSfB
set_option linter.unusedVariables false
set_option linter.unusedSimpArgs false
namespace Go.Proofs.YtfhhpdggmefcoaaGreatDoor
open Go Go.Lt
set_option maxRecDepth 10000
set_option linter.unusedVariables false
attribute [local irreducible] W WL AC
open Tryz
variable {c0 : Cx} {G : Gm} {F : List En} {sg : Sto} {v1 v2 v3 v4 v5 v6 v7 v8 v9 v10 v11 v12 v13 v14 v15 v16 v17 v18 v19 v20 v21 v22 v23 v24 v25 v26 v27 v28 v29 v30 v31 v32 v33 v34 v35 v36 v37 v38 v39 v40 v41 v42 v43 v44 v45 v46 v47 v48 v49 v50 v51 v52 v53 v54 v55 v56 v57 v58 v59 v60 : Value}
def f_basew_none (p0 : Int) : Option (Bool) :=
 (if (p0 == 1) = true then
 some (p0 == 1)
 else
 if (p0 == 2) = true then
 some (p0 == 2)
 else
 some (p0 == 3)).bind fun c =>
 if c = true then
 some true
 else
 (if (p0 == 4) = true then
 some (p0 == 4)
 else
 some (p0 == 5)).bind fun a =>
 if a = true then
 some true
 else
 (if (p0 == 10) = true then
 some (p0 == 10)
 else
 some (p0 == 11)).bind fun b =>
 if b = true then
 some true
 else
 some false
theorem c_basew_none (o : Own c0 G F) (a : Int) {r : Bool} (H : f_basew_none a = some r) :
    Calls prog 192 #[I a] c0.w (Post c0 fun c v => Own c G (F) ∧ v = B r) := by
 unfold f_basew_none at H
 refine en func192 rfl rfl (sr (va (B false) (wln (W.seq (sr (va (I a) (wln (W.block (W.seq (W.block (W.block (W.block (W.seq (W.seq (bn H fun E b i => W.seqJ (Jn c0 fun c l => Own c G (F) ∧ l = [(3, I a), (4, B E)]) ?_ ?_)))))))))))))))
 ·refine sr (va (B (a == 1)) (va (B (a == 1)) (wln (cn b (fun M b => ?_) (fun M b => ?_)))))
  ·refine W.skip (nrm ?_)
   obtain rfl := si b
   exact ⟨c0, _, _, rfl, pt, us, o, rfl⟩
  refine sr (va (B (a == 2)) (va (B (a == 2)) (wln (cn b (fun N b => ?_) (fun N b => ?_)))))
  ·refine W.skip (nrm ?_)
   obtain rfl := si b
   exact ⟨c0, _, _, rfl, pt, us, o, rfl⟩
  refine W.region (va (B (a == 3)) (va (B (a == 3)) (wln ?_)))
  obtain rfl := si b
  exact ⟨c0, _, _, rfl, pt, us, o, rfl⟩
 rintro t D ⟨k, U, _, rfl, X, rfl, p, rfl⟩
 refine cn i (fun u i => ?_) (fun u i => ?_)
 ·refine W.exit (thx (thx (bke (bkn (bkn (nrm (W.seq (sr (va (B true) (wln (W.ret (thr (bkr (thr ?_))))))))))))))
  obtain rfl := si i
  exact r1 ⟨_, k, rfl, rfl, pt, p, rfl⟩
 refine W.skip (nrm (W.seq (bn i fun q d e => W.seqJ (Jn k fun c l => Own c G (F) ∧ l = [(3, I a), (8, B q)]) ?_ ?_)))
 ·refine sr (va (B (a == 4)) (va (B (a == 4)) (wln (cn d (fun x d => ?_) (fun x d => ?_)))))
  ·refine W.skip (nrm ?_)
   obtain rfl := si d
   exact ⟨k, _, _, rfl, pt, us, p, rfl⟩
  refine W.region (va (B (a == 5)) (va (B (a == 5)) (wln ?_)))
  obtain rfl := si d
  exact ⟨k, _, _, rfl, pt, us, p, rfl⟩
 rintro t D ⟨h, P, _, rfl, S, rfl, j, rfl⟩
 refine cn e (fun y e => ?_) (fun y e => ?_)
 ·refine W.exit (thx (thx (bko rfl (bke (bkn (nrm (W.seq (sr (va (B true) (wln (W.ret (thr (bkr (thr ?_))))))))))))))
  obtain rfl := si e
  exact r1 ⟨_, h, rfl, rfl, pt, j, rfl⟩
 refine W.skip (nrm (bn e fun s f g => W.seqJ (Jn h fun c l => Own c G (F) ∧ l = [(11, B s)]) ?_ ?_))
 ·refine sr (va (B (a == 10)) (va (B (a == 10)) (wln (cn f (fun z f => ?_) (fun z f => ?_)))))
  ·refine W.skip (nrm ?_)
   obtain rfl := si f
   exact ⟨h, _, _, rfl, pt, us, j, rfl⟩
  refine W.region (va (B (a == 11)) (va (B (a == 11)) (wln ?_)))
  obtain rfl := si f
  exact ⟨h, _, _, rfl, pt, us, j, rfl⟩
 rintro t D ⟨n, R, _, rfl, T, rfl, m, rfl⟩
 refine cn g (fun A g => ?_) (fun A g => ?_)
 ·refine W.exit (thx (bko rfl (bko rfl (bke (nrm (W.seq (sr (va (B true) (wln (W.ret (thr (bkr (thr ?_)))))))))))))
  obtain rfl := si g
  exact r1 ⟨_, n, rfl, rfl, pt, m, rfl⟩
 refine W.skip (nrm (W.exit (bko rfl (bko rfl (bko rfl (thx (bke (nrm (sr (va (B false) (wln (W.ret ?_))))))))))))
 obtain rfl := si g
 exact r1 ⟨_, n, rfl, rfl, pt, m, rfl⟩
def f_basew_Of (p0 : G_api_Prop) : Option (Int) :=
 (f_basew_none p0.Break).bind fun b =>
 if b = true then
 some 0
 else
 (orE (p0.East == 1) (some (p0.East == 2))).bind fun a =>
 if a = true then
 some 2
 else
 some 1
theorem c_basew_Of (q : Own c0 G F) (a : G_api_Prop) {r : Int} (H : f_basew_Of a = some r) :
    Calls prog 187 #[.agg #[I a.Break, B a.Pict, I a.Conj, I a.East]] c0.w (Post c0 fun c v => Own c G (F) ∧ v = I r) := by
 unfold f_basew_Of at H
 refine en func187 rfl rfl (sr (me (bx 133 [I a.Break, B a.Pict, I a.Conj, I a.East] q) ?_))
 rintro v5 z D ⟨i, rfl, s, k⟩
 refine va (I 0) (wln (W.seq (W.block (sr (va (Q i) (vx (l1 underlying3 (k 0 _ rfl)) (bn H fun p t H => cl (c_basew_none s a.Break t) ?_)))))))
 rintro v12 d x ⟨h, rfl⟩
 refine va (B p) (wln (cn H (fun n H => ?_) (fun n H => ?_)))
 ·refine sr (va (I 0) (wln (W.ret (bkr (thr ?_)))))
  obtain rfl := si H
  exact r1 ⟨_, d, rfl, rfl, pt, h, rfl⟩
 refine W.seq (bn H fun j g H => W.join (Jn d fun c l => Own c G (F) ∧ l = [(7, B j)]) ?_ ?_)
 ·clear H
  refine W.region (va (.pointer (some ⟨i, 0 + 3, none⟩)) (vx (l1 underlying3 ((mm k) 3 _ rfl)) (va (B (a.East == 1)) ?_)))
  rcases bo (a.East == 1) with b | b
  ·obtain rfl := orT b g
   exact vb b (ps (ps (ps (va (B true) (va (B true) (wln ⟨d, _, _, rfl, pt, us, h, rfl⟩))))))
  have m := orF b g
  refine vb b (wn (va (.pointer (some ⟨i, 0 + 3, none⟩)) (wn (vx (l1 underlying3 ((mm k) 3 _ rfl)) (wn (va (B (a.East == 2)) ?_))))))
  obtain rfl := si m
  exact va (B (a.East == 2)) (va (B (a.East == 2)) (wln ⟨d, _, _, rfl, pt, us, h, rfl⟩))
 rintro A E ⟨f, u, _, rfl, y, rfl, e, rfl⟩
 refine nrm (cn H (fun o H => ?_) (fun o H => ?_))
 ·refine sr (va (I 2) (wln (W.ret (bkr (thr ?_)))))
  obtain rfl := si H
  exact r1 ⟨_, f, rfl, rfl, pt, e, rfl⟩
 refine W.skip (bkn (nrm (sr (va (I 1) (wln (W.ret ?_))))))
 obtain rfl := si H
 exact r1 ⟨_, f, rfl, rfl, pt, e, rfl⟩
def f_cluster_Cluster_Len__widen_Cluster_4 (p0 : G_cluster_Cluster) : Option (Int) :=
 if false = true then
 some 0
 else
 some p0.n
theorem c_cluster_Cluster_Len__widen_Cluster_4 {b : Nat} {r0_0 : Value} {r0_1 : Value} {r0_2 : Value} {r0_3 : Value} {r0_21 : Value} {r0_22 : Value} {r0_23 : Value} (a : G_cluster_Cluster) (e : Own c0 G ((Eb b 107 [r0_0, r0_1, r0_2, r0_3, J a.text.1, J a.text.2.1, J a.text.2.2.1, J a.text.2.2.2.1, J a.text.2.2.2.2.1, J a.text.2.2.2.2.2.1, J a.text.2.2.2.2.2.2.1, J a.text.2.2.2.2.2.2.2.1, J a.text.2.2.2.2.2.2.2.2.1, J a.text.2.2.2.2.2.2.2.2.2.1, J a.text.2.2.2.2.2.2.2.2.2.2.1, J a.text.2.2.2.2.2.2.2.2.2.2.2.1, J a.text.2.2.2.2.2.2.2.2.2.2.2.2.1, J a.text.2.2.2.2.2.2.2.2.2.2.2.2.2.1, J a.text.2.2.2.2.2.2.2.2.2.2.2.2.2.2.1, J a.text.2.2.2.2.2.2.2.2.2.2.2.2.2.2.2, I a.n, r0_21, r0_22, r0_23]) :: F)) {r : Int} (H : f_cluster_Cluster_Len__widen_Cluster_4 a = some r) :
    Calls prog 145 #[.pointer (some ⟨b, 4, none⟩)] c0.w (Post c0 fun c v => Own c G ((Eb b 107 [r0_0, r0_1, r0_2, r0_3, J a.text.1, J a.text.2.1, J a.text.2.2.1, J a.text.2.2.2.1, J a.text.2.2.2.2.1, J a.text.2.2.2.2.2.1, J a.text.2.2.2.2.2.2.1, J a.text.2.2.2.2.2.2.2.1, J a.text.2.2.2.2.2.2.2.2.1, J a.text.2.2.2.2.2.2.2.2.2.1, J a.text.2.2.2.2.2.2.2.2.2.2.1, J a.text.2.2.2.2.2.2.2.2.2.2.2.1, J a.text.2.2.2.2.2.2.2.2.2.2.2.2.1, J a.text.2.2.2.2.2.2.2.2.2.2.2.2.2.1, J a.text.2.2.2.2.2.2.2.2.2.2.2.2.2.2.1, J a.text.2.2.2.2.2.2.2.2.2.2.2.2.2.2.2, I a.n, r0_21, r0_22, r0_23]) :: F) ∧ v = I r) := by
 unfold f_cluster_Cluster_Len__widen_Cluster_4 at H
 refine en func145 rfl rfl (sr (va (I 0) (wln (W.seq (sr (va (.pointer (some ⟨b, 4, none⟩)) (va (B false) (wln (W.cond (t := false) (by kernel_rfl) (fun d => ?_) (fun d => ?_))))))))))
 ·cases d
 have H := ie d H
 refine W.skip (nrm (sr (va (.pointer (some ⟨b, 4, none⟩)) (va (.pointer (some ⟨b, 4, none⟩)) (va (.pointer (some ⟨b, 20, none⟩)) (vx (le1 20 underlying3 (e.on 0 rfl)) (va (I a.n) (wln (W.ret ?_)))))))))
 obtain rfl := si H
 exact r1 ⟨_, c0, rfl, rfl, pt, e, rfl⟩
def f_cluster_Cluster_Full__widen_Cluster_4 (p0 : G_cluster_Cluster) : Option (Bool) :=
 (f_cluster_Cluster_Len__widen_Cluster_4 p0).bind fun a =>
 some (a == 16)
theorem c_cluster_Cluster_Full__widen_Cluster_4 {b : Nat} {r0_0 : Value} {r0_1 : Value} {r0_2 : Value} {r0_3 : Value} {r0_21 : Value} {r0_22 : Value} {r0_23 : Value} (a : G_cluster_Cluster) (e : Own c0 G ((Eb b 107 [r0_0, r0_1, r0_2, r0_3, J a.text.1, J a.text.2.1, J a.text.2.2.1, J a.text.2.2.2.1, J a.text.2.2.2.2.1, J a.text.2.2.2.2.2.1, J a.text.2.2.2.2.2.2.1, J a.text.2.2.2.2.2.2.2.1, J a.text.2.2.2.2.2.2.2.2.1, J a.text.2.2.2.2.2.2.2.2.2.1, J a.text.2.2.2.2.2.2.2.2.2.2.1, J a.text.2.2.2.2.2.2.2.2.2.2.2.1, J a.text.2.2.2.2.2.2.2.2.2.2.2.2.1, J a.text.2.2.2.2.2.2.2.2.2.2.2.2.2.1, J a.text.2.2.2.2.2.2.2.2.2.2.2.2.2.2.1, J a.text.2.2.2.2.2.2.2.2.2.2.2.2.2.2.2, I a.n, r0_21, r0_22, r0_23]) :: F)) {r : Bool} (H : f_cluster_Cluster_Full__widen_Cluster_4 a = some r) :
    Calls prog 114 #[.pointer (some ⟨b, 4, none⟩)] c0.w (Post c0 fun c v => Own c G ((Eb b 107 [r0_0, r0_1, r0_2, r0_3, J a.text.1, J a.text.2.1, J a.text.2.2.1, J a.text.2.2.2.1, J a.text.2.2.2.2.1, J a.text.2.2.2.2.2.1, J a.text.2.2.2.2.2.2.1, J a.text.2.2.2.2.2.2.2.1, J a.text.2.2.2.2.2.2.2.2.1, J a.text.2.2.2.2.2.2.2.2.2.1, J a.text.2.2.2.2.2.2.2.2.2.2.1, J a.text.2.2.2.2.2.2.2.2.2.2.2.1, J a.text.2.2.2.2.2.2.2.2.2.2.2.2.1, J a.text.2.2.2.2.2.2.2.2.2.2.2.2.2.1, J a.text.2.2.2.2.2.2.2.2.2.2.2.2.2.2.1, J a.text.2.2.2.2.2.2.2.2.2.2.2.2.2.2.2, I a.n, r0_21, r0_22, r0_23]) :: F) ∧ v = B r) := by
 unfold f_cluster_Cluster_Full__widen_Cluster_4 at H
 refine en func114 rfl rfl (sr (va (B false) (wln (sr (va (.pointer (some ⟨b, 4, none⟩)) (bn H fun d h H => cl (c_cluster_Cluster_Len__widen_Cluster_4 a e h) ?_))))))
 rintro v8 g i ⟨f, rfl⟩
 refine va (B (d == 16)) (va (B (d == 16)) (wln (W.ret ?_)))
 obtain rfl := si H
 exact r1 ⟨_, g, rfl, rfl, pt, f, rfl⟩
def f_cluster_Cluster_Add__widen_Cluster_4 (p0 : G_cluster_Cluster) (p1 : Int) : Option (G_cluster_Cluster × Bool) :=
 (orE false ((f_cluster_Cluster_Full__widen_Cluster_4 p0).bind fun c =>
 some c)).bind fun b =>
 if b = true then
 some (p0, false)
 else
 (idx (a16 p0.text) p0.n).bind fun d =>
 (some (aset16 p0.text p0.n p1)).bind fun a =>
 some ((⟨a, (w64 (p0.n + 1))⟩ : G_cluster_Cluster), true)
theorem c_cluster_Cluster_Add__widen_Cluster_4 {d : Nat} {r0_0 : Value} {r0_1 : Value} {r0_2 : Value} {r0_3 : Value} {r0_21 : Value} {r0_22 : Value} {r0_23 : Value} (a : G_cluster_Cluster) (f : Int) (M : Own c0 G ((Eb d 107 [r0_0, r0_1, r0_2, r0_3, J a.text.1, J a.text.2.1, J a.text.2.2.1, J a.text.2.2.2.1, J a.text.2.2.2.2.1, J a.text.2.2.2.2.2.1, J a.text.2.2.2.2.2.2.1, J a.text.2.2.2.2.2.2.2.1, J a.text.2.2.2.2.2.2.2.2.1, J a.text.2.2.2.2.2.2.2.2.2.1, J a.text.2.2.2.2.2.2.2.2.2.2.1, J a.text.2.2.2.2.2.2.2.2.2.2.2.1, J a.text.2.2.2.2.2.2.2.2.2.2.2.2.1, J a.text.2.2.2.2.2.2.2.2.2.2.2.2.2.1, J a.text.2.2.2.2.2.2.2.2.2.2.2.2.2.2.1, J a.text.2.2.2.2.2.2.2.2.2.2.2.2.2.2.2, I a.n, r0_21, r0_22, r0_23]) :: F)) {r : G_cluster_Cluster × Bool} (H : f_cluster_Cluster_Add__widen_Cluster_4 a f = some r) :
    Calls prog 147 #[.pointer (some ⟨d, 4, none⟩), J f] c0.w (Post c0 fun c v => Own c G ((Eb d 107 [r0_0, r0_1, r0_2, r0_3, J r.1.text.1, J r.1.text.2.1, J r.1.text.2.2.1, J r.1.text.2.2.2.1, J r.1.text.2.2.2.2.1, J r.1.text.2.2.2.2.2.1, J r.1.text.2.2.2.2.2.2.1, J r.1.text.2.2.2.2.2.2.2.1, J r.1.text.2.2.2.2.2.2.2.2.1, J r.1.text.2.2.2.2.2.2.2.2.2.1, J r.1.text.2.2.2.2.2.2.2.2.2.2.1, J r.1.text.2.2.2.2.2.2.2.2.2.2.2.1, J r.1.text.2.2.2.2.2.2.2.2.2.2.2.2.1, J r.1.text.2.2.2.2.2.2.2.2.2.2.2.2.2.1, J r.1.text.2.2.2.2.2.2.2.2.2.2.2.2.2.2.1, J r.1.text.2.2.2.2.2.2.2.2.2.2.2.2.2.2.2, I r.1.n, r0_21, r0_22, r0_23]) :: F) ∧ v = B r.2) := by
 unfold f_cluster_Cluster_Add__widen_Cluster_4 at H
 refine en func147 rfl rfl (sr (va (B false) (wln (W.seq (W.seq (bn H fun u R H => W.join (Jn c0 fun c l => Own c G ((Eb d 107 [r0_0, r0_1, r0_2, r0_3, J a.text.1, J a.text.2.1, J a.text.2.2.1, J a.text.2.2.2.1, J a.text.2.2.2.2.1, J a.text.2.2.2.2.2.1, J a.text.2.2.2.2.2.2.1, J a.text.2.2.2.2.2.2.2.1, J a.text.2.2.2.2.2.2.2.2.1, J a.text.2.2.2.2.2.2.2.2.2.1, J a.text.2.2.2.2.2.2.2.2.2.2.1, J a.text.2.2.2.2.2.2.2.2.2.2.2.1, J a.text.2.2.2.2.2.2.2.2.2.2.2.2.1, J a.text.2.2.2.2.2.2.2.2.2.2.2.2.2.1, J a.text.2.2.2.2.2.2.2.2.2.2.2.2.2.2.1, J a.text.2.2.2.2.2.2.2.2.2.2.2.2.2.2.2, I a.n, r0_21, r0_22, r0_23]) :: F) ∧ l = [(0, .pointer (some ⟨d, 4, none⟩)), (1, J f), (10, B u)]) ?_ ?_))))))
 ·clear H
  refine W.region (va (.pointer (some ⟨d, 4, none⟩)) (va (B false) ?_))
  have y : false = false := rfl
  have m := orF y R
  refine vb y (wn (va (.pointer (some ⟨d, 4, none⟩)) (wn (bn m fun E S m => cl (c_cluster_Cluster_Full__widen_Cluster_4 a M S) ?_))))
  rintro v11 p b0 ⟨N, rfl⟩
  obtain rfl := si m
  exact va (B E) (wln ⟨p, _, _, rfl, pt, us, N, rfl⟩)
 rintro e_ w_ ⟨q, a0, _, rfl, d0, rfl, g, rfl⟩
 refine nrm (cn H (fun x H => ?_) (fun x H => ?_))
 ·refine sr (va (B false) (wln (W.ret (thr ?_))))
  obtain rfl := si H
  exact r1 ⟨_, q, rfl, rfl, pt, g, rfl⟩
 refine W.skip (nrm (W.seq (rD [9] (Kp G0 [(Eb d 107 [r0_0, r0_1, r0_2, r0_3, J a.text.1, J a.text.2.1, J a.text.2.2.1, J a.text.2.2.2.1, J a.text.2.2.2.2.1, J a.text.2.2.2.2.2.1, J a.text.2.2.2.2.2.2.1, J a.text.2.2.2.2.2.2.2.1, J a.text.2.2.2.2.2.2.2.2.1, J a.text.2.2.2.2.2.2.2.2.2.1, J a.text.2.2.2.2.2.2.2.2.2.2.1, J a.text.2.2.2.2.2.2.2.2.2.2.2.1, J a.text.2.2.2.2.2.2.2.2.2.2.2.2.1, J a.text.2.2.2.2.2.2.2.2.2.2.2.2.2.1, J a.text.2.2.2.2.2.2.2.2.2.2.2.2.2.2.1, J a.text.2.2.2.2.2.2.2.2.2.2.2.2.2.2.2, I a.n, r0_21, r0_22, r0_23])]) g ?_)))
 intro s e0 h
 have D : Kp G0 [(Eb d 107 [r0_0, r0_1, r0_2, r0_3, J a.text.1, J a.text.2.1, J a.text.2.2.1, J a.text.2.2.2.1, J a.text.2.2.2.2.1, J a.text.2.2.2.2.2.1, J a.text.2.2.2.2.2.2.1, J a.text.2.2.2.2.2.2.2.1, J a.text.2.2.2.2.2.2.2.2.1, J a.text.2.2.2.2.2.2.2.2.2.1, J a.text.2.2.2.2.2.2.2.2.2.2.1, J a.text.2.2.2.2.2.2.2.2.2.2.2.1, J a.text.2.2.2.2.2.2.2.2.2.2.2.2.1, J a.text.2.2.2.2.2.2.2.2.2.2.2.2.2.1, J a.text.2.2.2.2.2.2.2.2.2.2.2.2.2.2.1, J a.text.2.2.2.2.2.2.2.2.2.2.2.2.2.2.2, I a.n, r0_21, r0_22, r0_23])] s := (Kp.cons (h.on 0 rfl) Kp.nil0)
 refine ta 0 (.pointer (some ⟨d, 4, none⟩)) (ta 1 (.pointer (some ⟨d, 4, none⟩)) (ta 2 (.pointer (some ⟨d, 4, none⟩)) (ta 3 (.pointer (some ⟨d, 20, none⟩)) (tkx 4 D (fun P A U => le1 20 underlying3 (U.on 0 rfl)) (ta 5 (J f) (ta 6 (.pointer (some ⟨d, 4, none⟩)) (ta 7 (.pointer (some ⟨d, 4, none⟩)) (bn H fun X e H => AC.take 8 (.pointer (some ⟨d, 4 + a.n.toNat * 1, none⟩)) rfl (by kernel_rfl) (by kernel_rfl) (fun P A => (rx (by kernel_rfl) (run_indexA (k := .i64) underlying101 (by kernel_rfl) (idx_lt e).1 (idx_lt e).2 _))) (bn H fun b z H => o1 9 (gD 9 (Own.st (T := 21) (j := 4 + a.n.toNat * 1) (us := [J f]) (nw := [r0_0, r0_1, r0_2, r0_3, J b.1, J b.2.1, J b.2.2.1, J b.2.2.2.1, J b.2.2.2.2.1, J b.2.2.2.2.2.1, J b.2.2.2.2.2.2.1, J b.2.2.2.2.2.2.2.1, J b.2.2.2.2.2.2.2.2.1, J b.2.2.2.2.2.2.2.2.2.1, J b.2.2.2.2.2.2.2.2.2.2.1, J b.2.2.2.2.2.2.2.2.2.2.2.1, J b.2.2.2.2.2.2.2.2.2.2.2.2.1, J b.2.2.2.2.2.2.2.2.2.2.2.2.2.1, J b.2.2.2.2.2.2.2.2.2.2.2.2.2.2.1, J b.2.2.2.2.2.2.2.2.2.2.2.2.2.2.2, I a.n, r0_21, r0_22, r0_23]) (v := J f) 0 h (by kernel_rfl) rfl rfl rfl rfl (by kernel_rfl) ⟨rfl, trivial⟩ (ble16 e (Nat.le_of_ble_eq_true rfl)) (set16 (k := .i32) e z [r0_0, r0_1, r0_2, r0_3] [I a.n, r0_21, r0_22, r0_23])) ?_))))))))))
 rintro Z f0 i
 refine ⟨.inl rfl, dn (nrm (sr (va (.pointer (some ⟨d, 4, none⟩)) (va (.pointer (some ⟨d, 4, none⟩)) (va (.pointer (some ⟨d, 20, none⟩)) (vx (le1 20 underlying3 (i.on 0 rfl)) (va (I (w64 (a.n + 1))) (va (.pointer (some ⟨d, 4, none⟩)) (va (.pointer (some ⟨d, 20, none⟩)) (md (sC 3 20 (I (w64 (a.n + 1))) [r0_0, r0_1, r0_2, r0_3, J b.1, J b.2.1, J b.2.2.1, J b.2.2.2.1, J b.2.2.2.2.1, J b.2.2.2.2.2.1, J b.2.2.2.2.2.2.1, J b.2.2.2.2.2.2.2.1, J b.2.2.2.2.2.2.2.2.1, J b.2.2.2.2.2.2.2.2.2.1, J b.2.2.2.2.2.2.2.2.2.2.1, J b.2.2.2.2.2.2.2.2.2.2.2.1, J b.2.2.2.2.2.2.2.2.2.2.2.2.1, J b.2.2.2.2.2.2.2.2.2.2.2.2.2.1, J b.2.2.2.2.2.2.2.2.2.2.2.2.2.2.1, J b.2.2.2.2.2.2.2.2.2.2.2.2.2.2.2, I (w64 (a.n + 1)), r0_21, r0_22, r0_23] 0 i ⟨rfl, trivial⟩) ?_))))))))))⟩
 rintro t g0 o
 refine wln (sr (va (B true) (wln (W.ret ?_))))
 obtain rfl := si H
 exact r1 ⟨_, t, rfl, rfl, pt, o, rfl⟩
def f_cwidth_Gauge_widens__widen_Cluster_21 (p0 : G_cwidth_Gauge) (p1 : Int) (p2 : G_api_Prop) : Option (Bool) :=
 (f_basew_Of p2).bind fun d =>
 if (d == 2) = true then
 some true
 else
 if (!p0.some) = true then
 some false
 else
 (andE (p1 == 65039) (some p0.pict)).bind fun a =>
 (orE a (some p2.Pict)).bind fun b =>
 (orE b (some (p2.Break == 6))).bind fun c =>
 some c
theorem c_cwidth_Gauge_widens__widen_Cluster_21 {b : Nat} {r0_0 : Value} {r0_1 : Value} {r0_2 : Value} {r0_3 : Value} {r0_4 : Value} {r0_5 : Value} {r0_6 : Value} {r0_7 : Value} {r0_8 : Value} {r0_9 : Value} {r0_10 : Value} {r0_11 : Value} {r0_12 : Value} {r0_13 : Value} {r0_14 : Value} {r0_15 : Value} {r0_16 : Value} {r0_17 : Value} {r0_18 : Value} {r0_19 : Value} {r0_20 : Value} (d : G_cwidth_Gauge) (o : Int) (a : G_api_Prop) (S : Own c0 G ((Eb b 107 [r0_0, r0_1, r0_2, r0_3, r0_4, r0_5, r0_6, r0_7, r0_8, r0_9, r0_10, r0_11, r0_12, r0_13, r0_14, r0_15, r0_16, r0_17, r0_18, r0_19, r0_20, B d.some, B d.pict, B d.wide]) :: F)) {r : Bool} (H : f_cwidth_Gauge_widens__widen_Cluster_21 d o a = some r) :
    Calls prog 180 #[.pointer (some ⟨b, 21, none⟩), J o, .agg #[I a.Break, B a.Pict, I a.Conj, I a.East]] c0.w (Post c0 fun c v => Own c G ((Eb b 107 [r0_0, r0_1, r0_2, r0_3, r0_4, r0_5, r0_6, r0_7, r0_8, r0_9, r0_10, r0_11, r0_12, r0_13, r0_14, r0_15, r0_16, r0_17, r0_18, r0_19, r0_20, B d.some, B d.pict, B d.wide]) :: F) ∧ v = B r) := by
 unfold f_cwidth_Gauge_widens__widen_Cluster_21 at H
 refine en func180 rfl rfl (sr (me (bx 133 [I a.Break, B a.Pict, I a.Conj, I a.East] S) ?_))
 rintro v5 c4 l4 ⟨p, rfl, T, n⟩
 refine va (B false) (wln (W.seq (W.block (sr (vx (lN 133 n) (bn H fun u Z H => cl (c_basew_Of T a Z) ?_))))))
 rintro v12 e b0 ⟨f, rfl⟩
 refine va (B (u == 2)) (va (B (u == 2)) (wln (cn H (fun P H => ?_) (fun P H => ?_))))
 ·refine sr (va (B true) (wln (W.ret (bkr (thr ?_)))))
  obtain rfl := si H
  exact r1 ⟨_, e, rfl, rfl, pt, f, rfl⟩
 refine sr (va (.pointer (some ⟨b, 21, none⟩)) (va (.pointer (some ⟨b, 21, none⟩)) (va (.pointer (some ⟨b, 21, none⟩)) (vx (le1 21 underlying4 (f.on 0 rfl)) (va (B (!d.some)) (va (B (!d.some)) (wln (cn H (fun R H => ?_) (fun R H => ?_)))))))))
 ·refine sr (va (B false) (wln (W.ret (bkr (thr ?_)))))
  obtain rfl := si H
  exact r1 ⟨_, e, rfl, rfl, pt, f, rfl⟩
 refine W.skip (bkn (nrm (W.seq (bn H fun U q H => bn H fun X m H => bn H fun x g H => W.join (Jn e fun c l => Own c G ((Eb b 107 [r0_0, r0_1, r0_2, r0_3, r0_4, r0_5, r0_6, r0_7, r0_8, r0_9, r0_10, r0_11, r0_12, r0_13, r0_14, r0_15, r0_16, r0_17, r0_18, r0_19, r0_20, B d.some, B d.pict, B d.wide]) :: F) ∧ l = [(6, B x)]) ?_ ?_))))
 ·clear H
  refine W.region (va (J o) (va (B (o == 65039)) ?_))
  rcases bo (o == 65039) with h | h
  ·have y := anT h q
   refine vb h (wn (va (.pointer (some ⟨b, 21, none⟩)) (wn (va (.pointer (some ⟨b, 21, none⟩)) (wn (va (.pointer (some ⟨b, 22, none⟩)) (wn (vx (le1 22 underlying4 (f.on 0 rfl)) ?_))))))))
   obtain rfl := si y
   refine va (B d.pict) ?_
   rcases bo (d.pict) with i | i
   ·obtain rfl := orT i m
    refine vb i (ps (ps (va (B true) ?_)))
    have s : true = true := rfl
    obtain rfl := orT s g
    exact vb s (ps (ps (ps (va (B true) (va (B true) (wln ⟨e, _, _, rfl, pt, us, f, rfl⟩))))))
   have z := orF i m
   refine vb i (wn (va (.pointer (some ⟨p, 0 + 1, none⟩)) (wn (vx (l1 underlying4 ((mm n) 1 _ rfl)) ?_))))
   obtain rfl := si z
   refine va (B a.Pict) ?_
   rcases bo (a.Pict) with j | j
   ·obtain rfl := orT j g
    exact vb j (ps (ps (ps (va (B true) (va (B true) (wln ⟨e, _, _, rfl, pt, us, f, rfl⟩))))))
   have A := orF j g
   refine vb j (wn (va (Q p) (wn (vx (l1 underlying3 ((mm n) 0 _ rfl)) (wn (va (B (a.Break == 6)) ?_))))))
   obtain rfl := si A
   exact va (B (a.Break == 6)) (va (B (a.Break == 6)) (wln ⟨e, _, _, rfl, pt, us, f, rfl⟩))
  obtain rfl := anF h q
  refine vb h (ps (ps (ps (ps (va (B false) ?_)))))
  have t : false = false := rfl
  have D := orF t m
  refine vb t (wn (va (.pointer (some ⟨p, 0 + 1, none⟩)) (wn (vx (l1 underlying4 ((mm n) 1 _ rfl)) ?_))))
  obtain rfl := si D
  refine va (B a.Pict) ?_
  rcases bo (a.Pict) with k | k
  ·obtain rfl := orT k g
   exact vb k (ps (ps (ps (va (B true) (va (B true) (wln ⟨e, _, _, rfl, pt, us, f, rfl⟩))))))
  have E := orF k g
  refine vb k (wn (va (Q p) (wn (vx (l1 underlying3 ((mm n) 0 _ rfl)) (wn (va (B (a.Break == 6)) ?_))))))
  obtain rfl := si E
  exact va (B (a.Break == 6)) (va (B (a.Break == 6)) (wln ⟨e, _, _, rfl, pt, us, f, rfl⟩))
 rintro e_ w_ ⟨N, a0, _, rfl, d0, rfl, M, rfl⟩
 refine nrm (W.ret ?_)
 obtain rfl := si H
 exact r1 ⟨_, N, rfl, rfl, pt, M, rfl⟩
def f_cwidth_Gauge_Step__widen_Cluster_21 (p0 : G_cwidth_Gauge) (p1 : Int) (p2 : G_api_Prop) : Option (G_cwidth_Gauge × Int) :=
 if false = true then
 some (p0, 1)
 else
 (orE p0.wide ((f_cwidth_Gauge_widens__widen_Cluster_21 p0 p1 p2).bind fun b =>
 some b)).bind fun a =>
 if a = true then
 some ((⟨true, p2.Pict, a⟩ : G_cwidth_Gauge), 2)
 else
 some ((⟨true, p2.Pict, a⟩ : G_cwidth_Gauge), 1)
theorem c_cwidth_Gauge_Step__widen_Cluster_21 {a : Nat} {r0_0 : Value} {r0_1 : Value} {r0_2 : Value} {r0_3 : Value} {r0_4 : Value} {r0_5 : Value} {r0_6 : Value} {r0_7 : Value} {r0_8 : Value} {r0_9 : Value} {r0_10 : Value} {r0_11 : Value} {r0_12 : Value} {r0_13 : Value} {r0_14 : Value} {r0_15 : Value} {r0_16 : Value} {r0_17 : Value} {r0_18 : Value} {r0_19 : Value} {r0_20 : Value} (b : G_cwidth_Gauge) (k : Int) (d : G_api_Prop) (T : Own c0 G ((Eb a 107 [r0_0, r0_1, r0_2, r0_3, r0_4, r0_5, r0_6, r0_7, r0_8, r0_9, r0_10, r0_11, r0_12, r0_13, r0_14, r0_15, r0_16, r0_17, r0_18, r0_19, r0_20, B b.some, B b.pict, B b.wide]) :: F)) {r : G_cwidth_Gauge × Int} (H : f_cwidth_Gauge_Step__widen_Cluster_21 b k d = some r) :
    Calls prog 148 #[.pointer (some ⟨a, 21, none⟩), J k, .agg #[I d.Break, B d.Pict, I d.Conj, I d.East]] c0.w (Post c0 fun c v => Own c G ((Eb a 107 [r0_0, r0_1, r0_2, r0_3, r0_4, r0_5, r0_6, r0_7, r0_8, r0_9, r0_10, r0_11, r0_12, r0_13, r0_14, r0_15, r0_16, r0_17, r0_18, r0_19, r0_20, B r.1.some, B r.1.pict, B r.1.wide]) :: F) ∧ v = I r.2) := by
 unfold f_cwidth_Gauge_Step__widen_Cluster_21 at H
 refine en func148 rfl rfl (sr (me (bx 133 [I d.Break, B d.Pict, I d.Conj, I d.East] T) ?_))
 rintro v5 X l4 ⟨x, rfl, m, P⟩
 refine va (I 0) (wln (W.seq (sr (va (.pointer (some ⟨a, 21, none⟩)) (va (B false) (wln (W.cond (t := false) (by kernel_rfl) (fun n => ?_) (fun n => ?_))))))))
 ·cases n
 have H := ie n H
 refine W.skip (nrm (W.seq (bn H fun e N H => W.join (Jn X fun c l => Own c G ((Eb a 107 [r0_0, r0_1, r0_2, r0_3, r0_4, r0_5, r0_6, r0_7, r0_8, r0_9, r0_10, r0_11, r0_12, r0_13, r0_14, r0_15, r0_16, r0_17, r0_18, r0_19, r0_20, B b.some, B b.pict, B e]) :: F) ∧ l = [(0, .pointer (some ⟨a, 21, none⟩)), (5, Q x)]) ?_ ?_)))
 ·clear H
  refine W.region (va (.pointer (some ⟨a, 21, none⟩)) (va (.pointer (some ⟨a, 21, none⟩)) (va (.pointer (some ⟨a, 21, none⟩)) (va (.pointer (some ⟨a, 23, none⟩)) (vx (le1 23 underlying4 (m.on 0 rfl)) ?_)))))
  rcases bo (b.wide) with j | j
  ·obtain rfl := orT j N
   refine vb j (ps (ps (ps (ps (va (B true) (va (.pointer (some ⟨a, 21, none⟩)) (va (.pointer (some ⟨a, 23, none⟩)) (md (sC 4 23 (B true) [r0_0, r0_1, r0_2, r0_3, r0_4, r0_5, r0_6, r0_7, r0_8, r0_9, r0_10, r0_11, r0_12, r0_13, r0_14, r0_15, r0_16, r0_17, r0_18, r0_19, r0_20, B b.some, B b.pict, B true] 0 m ⟨rfl, trivial⟩) ?_))))))))
   rintro y e0 U
   exact wln ⟨y, _, _, rfl, pt, us, U, rfl⟩
  have g := orF j N
  refine vb j (wn (va (.pointer (some ⟨a, 21, none⟩)) (wn (va (J k) (wn (vx (lN 133 P) (wn (bn g fun f E g => cl (c_cwidth_Gauge_widens__widen_Cluster_21 b k d m E) ?_))))))))
  rintro v19 Z f0 ⟨o, rfl⟩
  obtain rfl := si g
  refine va (B f) (va (.pointer (some ⟨a, 21, none⟩)) (va (.pointer (some ⟨a, 23, none⟩)) (md (sC 4 23 (B f) [r0_0, r0_1, r0_2, r0_3, r0_4, r0_5, r0_6, r0_7, r0_8, r0_9, r0_10, r0_11, r0_12, r0_13, r0_14, r0_15, r0_16, r0_17, r0_18, r0_19, r0_20, B b.some, B b.pict, B f] 0 o ⟨rfl, trivial⟩) ?_)))
  rintro z g0 p
  exact wln ⟨z, _, _, rfl, pt, us, p, rfl⟩
 rintro e_ w_ ⟨a0, b0, _, rfl, h0, rfl, q, rfl⟩
 refine nrm (W.seq (rD [] (Kp G0 []) q ?_))
 intro A i0 s
 have l0 : Kp G0 [] A := Kp.nil0
 refine ta 0 (.pointer (some ⟨a, 21, none⟩)) (ta 1 (.pointer (some ⟨a, 21, none⟩)) (ta 2 (.pointer (some ⟨x, 0 + 1, none⟩)) (tx 3 (fun c' d0 => l1 underlying4 ((mm P) 1 _ rfl)) (ta 4 (.pointer (some ⟨a, 21, none⟩)) (ta 5 (.pointer (some ⟨a, 21, none⟩)) (o1 6 (gD 6 (sC 4 21 (B true) [r0_0, r0_1, r0_2, r0_3, r0_4, r0_5, r0_6, r0_7, r0_8, r0_9, r0_10, r0_11, r0_12, r0_13, r0_14, r0_15, r0_16, r0_17, r0_18, r0_19, r0_20, B true, B b.pict, B e] 0 s ⟨rfl, trivial⟩) ?_)))))))
 rintro D j0 u
 have R : Kp G0 [] D := Kp.nil0
 refine ⟨.inr R, ta 7 (.pointer (some ⟨a, 21, none⟩)) (ta 8 (.pointer (some ⟨a, 22, none⟩)) (o1 9 (gD 9 (sC 4 22 (B d.Pict) [r0_0, r0_1, r0_2, r0_3, r0_4, r0_5, r0_6, r0_7, r0_8, r0_9, r0_10, r0_11, r0_12, r0_13, r0_14, r0_15, r0_16, r0_17, r0_18, r0_19, r0_20, B true, B d.Pict, B e] 0 u ⟨rfl, trivial⟩) ?_)))⟩
 rintro i k0 h
 have S : Kp G0 [] i := Kp.nil0
 refine ⟨.inr S, dn (nrm (W.seq (sr (va (.pointer (some ⟨a, 21, none⟩)) (va (.pointer (some ⟨a, 21, none⟩)) (va (.pointer (some ⟨a, 23, none⟩)) (vx (le1 23 underlying4 (h.on 0 rfl)) (wln (cn H (fun M H => ?_) (fun M H => ?_))))))))))⟩
 ·refine sr (va (I 2) (wln (W.ret (thr ?_))))
  obtain rfl := si H
  exact r1 ⟨_, i, rfl, rfl, pt, h, rfl⟩
 refine W.skip (nrm (sr (va (I 1) (wln (W.ret ?_)))))
 obtain rfl := si H
 exact r1 ⟨_, i, rfl, rfl, pt, h, rfl⟩
def f_widen_Cluster_add (sg : Sto) (p0 : Option Nat) (p1 : Int) (p2 : G_api_Prop) : Option (Sto × Int) :=
 ((f_scalar_Valid p1).bind fun h =>
 if (!h) = true then
 some (65533)
 else
 some (p1)).bind fun g =>
 (p0).bind fun b =>
 (sg.widen_Cluster[b]?).bind fun a =>
 (f_cluster_Cluster_Add__widen_Cluster_4 a.text g).bind fun e =>
 (sg.set_widen_Cluster b (⟨a.at_, a.wide, e.1, a.gauge⟩ : G_widen_Cluster)).bind fun c =>
 (f_cwidth_Gauge_Step__widen_Cluster_21 a.gauge g p2).bind fun f =>
 (c.set_widen_Cluster b (⟨a.at_, a.wide, e.1, f.1⟩ : G_widen_Cluster)).bind fun d =>
 some (d, f.2)
theorem c_widen_Cluster_add (O0 : Own c0 G F) (T : Rel c0 sg G) (p0 : Option Nat) (m : Int) (f : G_api_Prop) {r : Sto × Int} (h2 : Pt 3 c0 v1 p0) (H : f_widen_Cluster_add sg p0 m f = some r) :
    Calls prog 115 #[v1, J m, .agg #[I f.Break, B f.Pict, I f.Conj, I f.East]] c0.w (Post c0 fun c v => ∃ G_ : Gm, Own c G_ (F) ∧ Rel c r.1 G_ ∧ v = I r.2) := by
 unfold f_widen_Cluster_add at H
 refine en func115 rfl rfl (sr (me (bx 133 [I f.Break, B f.Pict, I f.Conj, I f.East] O0) ?_))
 rintro v7 c6 s ⟨b3, rfl, O4, m5⟩
 refine va (I 0) (wln (bn H fun h i e => W.seqJ (Jn c6 fun c l => Own c G (F) ∧ l = [(0, v1), (1, J h), (5, Q b3)]) ?_ ?_))
 ·refine sr (va (J m) (bn i fun t0 a0 i => cl (c_scalar_Valid O4 m a0) ?_))
  rintro v16 p j1 ⟨o, rfl⟩
  refine va (B (!t0)) (wln (cn i (fun b0 i => ?_) (fun b0 i => ?_)))
  ·refine W.region (va (J 65533) (wln ?_))
   obtain rfl := si i
   exact ⟨p, _, _, rfl, pt, us, o, rfl⟩
  refine W.skip (nrm ?_)
  obtain rfl := si i
  exact ⟨p, _, _, rfl, pt, us, o, rfl⟩
 rintro e_ w_ ⟨e1, g1, _, rfl, k, rfl, y, rfl⟩
 refine sr (va (v1) (bn e fun z0 d0 e => ?_))
 obtain ⟨d, rfl, j⟩ := ((h2.mono (s.trans k))).get d0
 refine va (Q d) (va (.pointer (some ⟨d, 4, none⟩)) (va (J h) (bn e fun b e0 e => ?_)))
 have f0 := Rel.open_widen_Cluster (T.mono (s.trans k)) e0 j
 have z := y.borrow 0 f0 rfl
 refine bn e fun a g0 e => cl (c_cluster_Cluster_Add__widen_Cluster_4 b.text h z g0) ?_
 rintro v37 f1 l0 ⟨A, rfl⟩
 have D := A.giveB 0 rfl
 refine bn e fun t i0 e => ?_
 obtain ⟨b1, E, U, h0, c1⟩ := Rel.put_widen_Cluster D (T.mono (s.trans (k.trans l0))) (E' := [(Eb d 107 [I b.at_.Row, I b.at_.Col, B b.at_.Pending, I b.wide, J a.1.text.1, J a.1.text.2.1, J a.1.text.2.2.1, J a.1.text.2.2.2.1, J a.1.text.2.2.2.2.1, J a.1.text.2.2.2.2.2.1, J a.1.text.2.2.2.2.2.2.1, J a.1.text.2.2.2.2.2.2.2.1, J a.1.text.2.2.2.2.2.2.2.2.1, J a.1.text.2.2.2.2.2.2.2.2.2.1, J a.1.text.2.2.2.2.2.2.2.2.2.2.1, J a.1.text.2.2.2.2.2.2.2.2.2.2.2.1, J a.1.text.2.2.2.2.2.2.2.2.2.2.2.2.1, J a.1.text.2.2.2.2.2.2.2.2.2.2.2.2.2.1, J a.1.text.2.2.2.2.2.2.2.2.2.2.2.2.2.2.1, J a.1.text.2.2.2.2.2.2.2.2.2.2.2.2.2.2.2, I a.1.n, B b.gauge.some, B b.gauge.pict, B b.gauge.wide])]) i0 ⟨d, (tm j), rfl⟩
 refine wln (W.seq (rD [] (Kp G0 []) E ?_))
 intro Z m0 M
 have k1 : Kp G0 [] Z := Kp.nil0
 refine ta 0 (Q d) (ta 1 (Q d) (ta 2 (.pointer (some ⟨d, 21, none⟩)) (ta 3 (J h) (tx 4 (fun c' i1 => lN 133 (mm m5)) ?_))))
 have N := M.borrow 0 h0 rfl
 refine bn e fun g j0 e => o1 5 (gc 5 (c_cwidth_Gauge_Step__widen_Cluster_21 b.gauge h f N j0) ?_)
 rintro v56 q o0 ⟨P, rfl⟩
 have R := P.giveB 0 rfl
 refine bn e fun u k0 e => ?_
 obtain ⟨x, S, X, h1, d1⟩ := Rel.put_widen_Cluster R (U.mono (m0.trans o0)) (E' := [(Eb d 107 [I b.at_.Row, I b.at_.Col, B b.at_.Pending, I b.wide, J a.1.text.1, J a.1.text.2.1, J a.1.text.2.2.1, J a.1.text.2.2.2.1, J a.1.text.2.2.2.2.1, J a.1.text.2.2.2.2.2.1, J a.1.text.2.2.2.2.2.2.1, J a.1.text.2.2.2.2.2.2.2.1, J a.1.text.2.2.2.2.2.2.2.2.1, J a.1.text.2.2.2.2.2.2.2.2.2.1, J a.1.text.2.2.2.2.2.2.2.2.2.2.1, J a.1.text.2.2.2.2.2.2.2.2.2.2.2.1, J a.1.text.2.2.2.2.2.2.2.2.2.2.2.2.1, J a.1.text.2.2.2.2.2.2.2.2.2.2.2.2.2.1, J a.1.text.2.2.2.2.2.2.2.2.2.2.2.2.2.2.1, J a.1.text.2.2.2.2.2.2.2.2.2.2.2.2.2.2.2, I a.1.n, B g.1.some, B g.1.pict, B g.1.wide])]) k0 ⟨d, (tm j), rfl⟩
 have s0 : Kp G0 [] q := Kp.nil0
 refine ⟨.inr s0, ta 6 (I g.2) (dn (nrm (W.ret ?_)))⟩
 obtain rfl := si e
 exact r1 ⟨_, q, rfl, rfl, pt, x, S, X, rfl⟩
def f_cluster_Cluster_Text__widen_Cluster_4 (p0 : G_cluster_Cluster) : Option (List Int) :=
 if false = true then
 some ([] : List Int)
 else
 (slc (a16 p0.text) 0 p0.n).bind fun a =>
 (f_slices_Clone a).bind fun b =>
 some b
theorem c_cluster_Cluster_Text__widen_Cluster_4 {b : Nat} {r0_0 : Value} {r0_1 : Value} {r0_2 : Value} {r0_3 : Value} {r0_21 : Value} {r0_22 : Value} {r0_23 : Value} (a : G_cluster_Cluster) (p : Own c0 G ((Eb b 107 [r0_0, r0_1, r0_2, r0_3, J a.text.1, J a.text.2.1, J a.text.2.2.1, J a.text.2.2.2.1, J a.text.2.2.2.2.1, J a.text.2.2.2.2.2.1, J a.text.2.2.2.2.2.2.1, J a.text.2.2.2.2.2.2.2.1, J a.text.2.2.2.2.2.2.2.2.1, J a.text.2.2.2.2.2.2.2.2.2.1, J a.text.2.2.2.2.2.2.2.2.2.2.1, J a.text.2.2.2.2.2.2.2.2.2.2.2.1, J a.text.2.2.2.2.2.2.2.2.2.2.2.2.1, J a.text.2.2.2.2.2.2.2.2.2.2.2.2.2.1, J a.text.2.2.2.2.2.2.2.2.2.2.2.2.2.2.1, J a.text.2.2.2.2.2.2.2.2.2.2.2.2.2.2.2, I a.n, r0_21, r0_22, r0_23]) :: F)) {r : List Int} (H : f_cluster_Cluster_Text__widen_Cluster_4 a = some r) :
    Calls prog 48 #[.pointer (some ⟨b, 4, none⟩)] c0.w (Post c0 fun c v => ∃ h o, Own c G (es true (RI .i32) h 21 o r :: (Eb b 107 [r0_0, r0_1, r0_2, r0_3, J a.text.1, J a.text.2.1, J a.text.2.2.1, J a.text.2.2.2.1, J a.text.2.2.2.2.1, J a.text.2.2.2.2.2.1, J a.text.2.2.2.2.2.2.1, J a.text.2.2.2.2.2.2.2.1, J a.text.2.2.2.2.2.2.2.2.1, J a.text.2.2.2.2.2.2.2.2.2.1, J a.text.2.2.2.2.2.2.2.2.2.2.1, J a.text.2.2.2.2.2.2.2.2.2.2.2.1, J a.text.2.2.2.2.2.2.2.2.2.2.2.2.1, J a.text.2.2.2.2.2.2.2.2.2.2.2.2.2.1, J a.text.2.2.2.2.2.2.2.2.2.2.2.2.2.2.1, J a.text.2.2.2.2.2.2.2.2.2.2.2.2.2.2.2, I a.n, r0_21, r0_22, r0_23]) :: F) ∧ v = h ∧ OA (RI .i32) c h o r) := by
 unfold f_cluster_Cluster_Text__widen_Cluster_4 at H
 refine en func48 rfl rfl (sr (va (Y) (wln (W.seq (sr (va (.pointer (some ⟨b, 4, none⟩)) (va (B false) (wln (W.cond (t := false) (by kernel_rfl) (fun g => ?_) (fun g => ?_))))))))))
 ·cases g
 have H := ie g H
 refine W.skip (nrm (W.seq (rD [] (Kp G0 [(Eb b 107 [r0_0, r0_1, r0_2, r0_3, J a.text.1, J a.text.2.1, J a.text.2.2.1, J a.text.2.2.2.1, J a.text.2.2.2.2.1, J a.text.2.2.2.2.2.1, J a.text.2.2.2.2.2.2.1, J a.text.2.2.2.2.2.2.2.1, J a.text.2.2.2.2.2.2.2.2.1, J a.text.2.2.2.2.2.2.2.2.2.1, J a.text.2.2.2.2.2.2.2.2.2.2.1, J a.text.2.2.2.2.2.2.2.2.2.2.2.1, J a.text.2.2.2.2.2.2.2.2.2.2.2.2.1, J a.text.2.2.2.2.2.2.2.2.2.2.2.2.2.1, J a.text.2.2.2.2.2.2.2.2.2.2.2.2.2.2.1, J a.text.2.2.2.2.2.2.2.2.2.2.2.2.2.2.2, I a.n, r0_21, r0_22, r0_23])]) p ?_)))
 intro s M i
 have y : Kp G0 [(Eb b 107 [r0_0, r0_1, r0_2, r0_3, J a.text.1, J a.text.2.1, J a.text.2.2.1, J a.text.2.2.2.1, J a.text.2.2.2.2.1, J a.text.2.2.2.2.2.1, J a.text.2.2.2.2.2.2.1, J a.text.2.2.2.2.2.2.2.1, J a.text.2.2.2.2.2.2.2.2.1, J a.text.2.2.2.2.2.2.2.2.2.1, J a.text.2.2.2.2.2.2.2.2.2.2.1, J a.text.2.2.2.2.2.2.2.2.2.2.2.1, J a.text.2.2.2.2.2.2.2.2.2.2.2.2.1, J a.text.2.2.2.2.2.2.2.2.2.2.2.2.2.1, J a.text.2.2.2.2.2.2.2.2.2.2.2.2.2.2.1, J a.text.2.2.2.2.2.2.2.2.2.2.2.2.2.2.2, I a.n, r0_21, r0_22, r0_23])] s := (Kp.cons (i.on 0 rfl) Kp.nil0)
 refine ta 0 (.pointer (some ⟨b, 4, none⟩)) (ta 1 (.pointer (some ⟨b, 4, none⟩)) (ta 2 (.pointer (some ⟨b, 4, none⟩)) (ta 3 (.pointer (some ⟨b, 4, none⟩)) (ta 4 (.pointer (some ⟨b, 4, none⟩)) (ta 5 (.pointer (some ⟨b, 20, none⟩)) (tkx 6 y (fun q l x => le1 20 underlying3 (x.on 0 rfl)) (bn H fun A d H => AC.take 7 (.slice (some ⟨b, 4, none⟩) a.n.toNat 16) rfl (by kernel_rfl) (by kernel_rfl) (fun q l => (rx (by kernel_rfl) (run_cutA (k := .i64) underlying101 (by kernel_rfl) (slc_ok d).2.1 (slc_ok d).2.2.1 _))) (bn H fun D u H => o1 8 (gc 8 (c_slices_CloneV i rfl (slc_len0 d) (view16 (k := .i32) d [r0_0, r0_1, r0_2, r0_3] [I a.n, r0_21, r0_22, r0_23]) u) ?_)))))))))
 rintro v8 f E ⟨_, z, e, rfl, j⟩
 have m : Kp G0 [(Eb b 107 [r0_0, r0_1, r0_2, r0_3, J a.text.1, J a.text.2.1, J a.text.2.2.1, J a.text.2.2.2.1, J a.text.2.2.2.2.1, J a.text.2.2.2.2.2.1, J a.text.2.2.2.2.2.2.1, J a.text.2.2.2.2.2.2.2.1, J a.text.2.2.2.2.2.2.2.2.1, J a.text.2.2.2.2.2.2.2.2.2.1, J a.text.2.2.2.2.2.2.2.2.2.2.1, J a.text.2.2.2.2.2.2.2.2.2.2.2.1, J a.text.2.2.2.2.2.2.2.2.2.2.2.2.1, J a.text.2.2.2.2.2.2.2.2.2.2.2.2.2.1, J a.text.2.2.2.2.2.2.2.2.2.2.2.2.2.2.1, J a.text.2.2.2.2.2.2.2.2.2.2.2.2.2.2.2, I a.n, r0_21, r0_22, r0_23])] f := (Kp.cons (e.on 1 rfl) Kp.nil0)
 refine ⟨.inr m, ta 9 (v8) (dn (nrm (W.ret ?_)))⟩
 obtain rfl := si H
 exact r1 ⟨_, f, rfl, rfl, pt, v8, z, e, rfl, j⟩
def f_widen_Begin (sg : Sto) (p0 : Option Nat) (p1 : Int) (p2 : G_api_Prop) : Option (Sto × (Option Nat)) :=
 (orE p0.isNone ((p0).bind fun k =>
 (sg.place_Pen[k]?).bind fun h =>
 some h.G.isNone)).bind fun j =>
 if j = true then
 some (sg, (none : Option Nat))
 else
 (some (sg.add_widen_Cluster (⟨(⟨0, 0, false⟩ : G_api_Cursor), 0, (⟨(0, 0, 0, 0, 0, 0, 0, 0, 0, 0, 0, 0, 0, 0, 0, 0), 0⟩ : G_cluster_Cluster), (⟨false, false, false⟩ : G_cwidth_Gauge)⟩ : G_widen_Cluster))).bind fun e =>
 (f_widen_Cluster_add e (some sg.widen_Cluster.length) p1 p2).bind fun b =>
 (b.1.widen_Cluster[sg.widen_Cluster.length]?).bind fun a =>
 (b.1.set_widen_Cluster sg.widen_Cluster.length (⟨a.at_, b.2, a.text, a.gauge⟩ : G_widen_Cluster)).bind fun f =>
 (f_cluster_Cluster_Text__widen_Cluster_4 a.text).bind fun i =>
 (f_place_Pen_Put f p0 b.2 i).bind fun d =>
 (d.1.widen_Cluster[sg.widen_Cluster.length]?).bind fun c =>
 (d.1.set_widen_Cluster sg.widen_Cluster.length (⟨d.2, c.wide, c.text, c.gauge⟩ : G_widen_Cluster)).bind fun g =>
 some (g, (some sg.widen_Cluster.length))
theorem c_widen_Begin (O0 : Own c0 G F) (R0 : Rel c0 sg G) (hG : Gl [0, 1] c0) (y : Option Nat) (z : Int) (g : G_api_Prop) {r : Sto × (Option Nat)} (h2 : Pt 2 c0 v1 y) (H : f_widen_Begin sg y z g = some r) :
    Calls prog 80 #[v1, J z, .agg #[I g.Break, B g.Pict, I g.Conj, I g.East]] c0.w (Post c0 fun c v => ∃ y1, ∃ G_ : Gm, Own c G_ (F) ∧ Rel c r.1 G_ ∧ v = y1 ∧ Pt 3 c y1 r.2) := by
 unfold f_widen_Begin at H
 refine en func80 rfl rfl (sr (me (bx 133 [I g.Break, B g.Pict, I g.Conj, I g.East] O0) ?_))
 rintro v7 c6 l6 ⟨b3, rfl, O4, m5⟩
 refine va (.pointer none) (wln (W.seq (W.seq (bn H fun m1 h8 H => W.join (Jn c6 fun c l => Own c G (F) ∧ l = [(0, v1), (1, J z), (5, Q b3), (16, B m1)]) ?_ ?_))))
 ·clear H
  refine W.region (va (v1) (vr (B y.isNone) (by rcases h2.m.cs with ⟨j, k⟩ | ⟨b_, j, k⟩ <;> (subst j; rw [k]; kernel_rfl)) ?_))
  rcases bo (y.isNone) with s | s
  ·obtain rfl := orT s h8
   exact vb s (ps (ps (ps (ps (ps (va (B true) (wln ⟨c6, _, _, rfl, pt, us, O4, rfl⟩)))))))
  have i := orF s h8
  refine vb s (wn (va (v1) (wn (bn i fun w3 q1 i => ?_))))
  obtain ⟨T, rfl, n1⟩ := ((h2.mono l6)).get q1
  refine va (Q T) (wn (va (Q T) (wn (bn i fun u s1 i => ?_))))
  obtain ⟨v15, u1, t1⟩ := Rel.open_place_Pen (R0.mono l6) s1 n1
  refine vx (le1 0 underlying45 (O4.gon u1 0 rfl)) (wn (vr (B u.G.isNone) (by rcases (t1).cs with ⟨j, k⟩ | ⟨b_, j, k⟩ <;> (subst j; rw [k]; kernel_rfl)) ?_))
  obtain rfl := si i
  exact va (B u.G.isNone) (wln ⟨c6, _, _, rfl, pt, us, O4, rfl⟩)
 rintro e_ w_ ⟨f1, q3, _, rfl, o2, rfl, A, rfl⟩
 refine nrm (cn H (fun w1 H => ?_) (fun w1 H => ?_))
 ·refine sr (va (.pointer none) (wln (W.ret (thr ?_))))
  obtain rfl := si H
  exact r1 ⟨_, f1, rfl, rfl, pt, (.pointer none), G, A, R0.m, rfl, rfl⟩
 refine W.skip (nrm (sr (va (.agg #[I 0, I 0, B false, I 0, J 0, J 0, J 0, J 0, J 0, J 0, J 0, J 0, J 0, J 0, J 0, J 0, J 0, J 0, J 0, J 0, I 0, B false, B false, B false]) (me (al 107 [I 0, I 0, B false, I 0, J 0, J 0, J 0, J 0, J 0, J 0, J 0, J 0, J 0, J 0, J 0, J 0, J 0, J 0, J 0, J 0, I 0, B false, B false, B false] A) ?_))))
 rintro v28 m3 q2 ⟨e, rfl, o0⟩
 have q0 := o0.sD 1 [0]
 refine bn H fun j0 x1 H => ?_
 obtain ⟨g1, g3, z1, x3, o, s0, P, s3, t3, j3⟩ := Rel.new_widen_Cluster (E := [(Eb e 107 [I 0, I 0, B false, I 0, J 0, J 0, J 0, J 0, J 0, J 0, J 0, J 0, J 0, J 0, J 0, J 0, J 0, J 0, J 0, J 0, I 0, B false, B false, B false])]) (F := F) (x := (⟨(⟨0, 0, false⟩ : G_api_Cursor), 0, (⟨(0, 0, 0, 0, 0, 0, 0, 0, 0, 0, 0, 0, 0, 0, 0, 0), 0⟩ : G_cluster_Cluster), (⟨false, false, false⟩ : G_cwidth_Gauge)⟩ : G_widen_Cluster)) (b := e) q0 (R0.mono (l6.trans (o2.trans q2))) (fun c_ hle_ => ⟨e, rfl, rfl⟩)
 rw [Option.some.inj x1] at P
 refine WL.gh z1.1 ?_
 have U : Pt 3 g1 (Q e) (some sg.widen_Cluster.length) := ⟨e, rfl, o⟩
 refine va (Q e) (wln (sr (va (Q e) (va (Q e) (va (J z) (vx (lN 133 (mm m5)) (bn H fun h a2 H => cl (c_widen_Cluster_add s0 P (some sg.widen_Cluster.length) z g U a2) ?_)))))))
 rintro v48 n3 s2 ⟨h3, t0, R, rfl⟩
 refine va (Q e) (va (.pointer (some ⟨e, 3, none⟩)) (bn H fun a b2 H => ?_))
 have c2 := Rel.open_widen_Cluster R b2 (tm o)
 refine md (gC 3 3 (I h.2) [I a.at_.Row, I a.at_.Col, B a.at_.Pending, I h.2, J a.text.text.1, J a.text.text.2.1, J a.text.text.2.2.1, J a.text.text.2.2.2.1, J a.text.text.2.2.2.2.1, J a.text.text.2.2.2.2.2.1, J a.text.text.2.2.2.2.2.2.1, J a.text.text.2.2.2.2.2.2.2.1, J a.text.text.2.2.2.2.2.2.2.2.1, J a.text.text.2.2.2.2.2.2.2.2.2.1, J a.text.text.2.2.2.2.2.2.2.2.2.2.1, J a.text.text.2.2.2.2.2.2.2.2.2.2.2.1, J a.text.text.2.2.2.2.2.2.2.2.2.2.2.2.1, J a.text.text.2.2.2.2.2.2.2.2.2.2.2.2.2.1, J a.text.text.2.2.2.2.2.2.2.2.2.2.2.2.2.2.1, J a.text.text.2.2.2.2.2.2.2.2.2.2.2.2.2.2.2, I a.text.n, B a.gauge.some, B a.gauge.pict, B a.gauge.wide] 0 t0 c2 ⟨rfl, trivial⟩) ?_
 rintro o3 X u0
 refine bn H fun k0 d2 H => ?_
 obtain ⟨p, v0, d1, q, k3⟩ := Rel.put_widen_Cluster u0 (R.mono X) (E' := [(Eb e 107 [I a.at_.Row, I a.at_.Col, B a.at_.Pending, I h.2, J a.text.text.1, J a.text.text.2.1, J a.text.text.2.2.1, J a.text.text.2.2.2.1, J a.text.text.2.2.2.2.1, J a.text.text.2.2.2.2.2.1, J a.text.text.2.2.2.2.2.2.1, J a.text.text.2.2.2.2.2.2.2.1, J a.text.text.2.2.2.2.2.2.2.2.1, J a.text.text.2.2.2.2.2.2.2.2.2.1, J a.text.text.2.2.2.2.2.2.2.2.2.2.1, J a.text.text.2.2.2.2.2.2.2.2.2.2.2.1, J a.text.text.2.2.2.2.2.2.2.2.2.2.2.2.1, J a.text.text.2.2.2.2.2.2.2.2.2.2.2.2.2.1, J a.text.text.2.2.2.2.2.2.2.2.2.2.2.2.2.2.1, J a.text.text.2.2.2.2.2.2.2.2.2.2.2.2.2.2.2, I a.text.n, B a.gauge.some, B a.gauge.pict, B a.gauge.wide])]) d2 ⟨e, (tm o), rfl⟩
 refine wln (W.seq (rD [10, 13] (Kp p []) v0 ?_))
 intro h1 t2 D
 have w2 : Kp p [] h1 := (Kp.nil D)
 refine ta 0 (Q e) (ta 1 (v1) (ta 2 (Q e) (ta 3 (Q e) (ta 4 (.pointer (some ⟨e, 3, none⟩)) (tkx 5 w2 (fun c' v3 hk => le1 3 underlying3 (hk.gon q 0 rfl)) (ta 6 (Q e) (ta 7 (Q e) (ta 8 (.pointer (some ⟨e, 4, none⟩)) ?_))))))))
 have w0 := D.borrow 0 q rfl
 refine bn H fun i0 e2 H => o1 9 (gc 9 (c_cluster_Cluster_Text__widen_Cluster_4 a.text w0 e2) ?_)
 rintro z3 i1 u2 ⟨_, y3, x0, rfl, f2⟩
 have z0 := x0.sD 2 [1, 0]
 have y0 := z0.giveB 0 rfl
 have M := Own.back y0 q rfl
 have x2 : Kp p [] i1 := (Kp.nil M)
 refine ⟨.inr x2, ?_⟩
 obtain ⟨j1, j2, Z, N, g2⟩ := M.frz 0 rfl f2
 have y2 : Kp p [] j1 := (Kp.nil N)
 refine AC.gh j2 Z (fun _ => y2) (bn H fun f k2 H => o1 10 (gc 10 (c_place_Pen_Put N d1.m (hG.m.le (by decide)) y h.2 i0 h2.m g2 k2) ?_))
 rintro a4 p3 v2 ⟨i3, a1, S, rfl⟩
 refine ⟨.inl rfl, ta 11 (Q e) (ta 12 (Q e) (bn H fun d l2 H => ?_))⟩
 have m2 := Rel.open_widen_Cluster S l2 (tm o)
 refine o1 13 (gD 13 (gB 32 0 [I f.2.Row, I f.2.Col, B f.2.Pending] [I f.2.Row, I f.2.Col, B f.2.Pending, I d.wide, J d.text.text.1, J d.text.text.2.1, J d.text.text.2.2.1, J d.text.text.2.2.2.1, J d.text.text.2.2.2.2.1, J d.text.text.2.2.2.2.2.1, J d.text.text.2.2.2.2.2.2.1, J d.text.text.2.2.2.2.2.2.2.1, J d.text.text.2.2.2.2.2.2.2.2.1, J d.text.text.2.2.2.2.2.2.2.2.2.1, J d.text.text.2.2.2.2.2.2.2.2.2.2.1, J d.text.text.2.2.2.2.2.2.2.2.2.2.2.1, J d.text.text.2.2.2.2.2.2.2.2.2.2.2.2.1, J d.text.text.2.2.2.2.2.2.2.2.2.2.2.2.2.1, J d.text.text.2.2.2.2.2.2.2.2.2.2.2.2.2.2.1, J d.text.text.2.2.2.2.2.2.2.2.2.2.2.2.2.2.2, I d.text.n, B d.gauge.some, B d.gauge.pict, B d.gauge.wide] 0 a1 m2 ⟨rfl, rfl, rfl, trivial⟩) ?_)
 rintro k1 a0 b1
 refine bn H fun l0 n2 H => ?_
 obtain ⟨m0, c1, e1, u3, l3⟩ := Rel.put_widen_Cluster b1 (S.mono a0) (E' := [(Eb e 107 [I f.2.Row, I f.2.Col, B f.2.Pending, I d.wide, J d.text.text.1, J d.text.text.2.1, J d.text.text.2.2.1, J d.text.text.2.2.2.1, J d.text.text.2.2.2.2.1, J d.text.text.2.2.2.2.2.1, J d.text.text.2.2.2.2.2.2.1, J d.text.text.2.2.2.2.2.2.2.1, J d.text.text.2.2.2.2.2.2.2.2.1, J d.text.text.2.2.2.2.2.2.2.2.2.1, J d.text.text.2.2.2.2.2.2.2.2.2.2.1, J d.text.text.2.2.2.2.2.2.2.2.2.2.2.1, J d.text.text.2.2.2.2.2.2.2.2.2.2.2.2.1, J d.text.text.2.2.2.2.2.2.2.2.2.2.2.2.2.1, J d.text.text.2.2.2.2.2.2.2.2.2.2.2.2.2.2.1, J d.text.text.2.2.2.2.2.2.2.2.2.2.2.2.2.2.2, I d.text.n, B d.gauge.some, B d.gauge.pict, B d.gauge.wide])]) n2 ⟨e, ((s2.trans (X.trans (t2.trans (u2.trans (Z.trans (v2.trans a0)))))).t _ _ _ o), rfl⟩
 refine ⟨.inl rfl, dn (nrm (sr (va (Q e) (va (Q e) (wln (W.ret ?_))))))⟩
 obtain rfl := si H
 have b0 := c1.sD 1 []
 exact r1 ⟨_, k1, rfl, rfl, pt, (Q e), m0, b0, e1, rfl, U.m⟩
def f_widen_Cluster_Join (sg : Sto) (p0 : Option Nat) (p1 : Option Nat) (p2 : Int) (p3 : G_api_Prop) : Option (Sto × Bool) :=
 (orE p0.isNone (some p1.isNone)).bind fun A =>
 (orE A ((p1).bind fun r =>
 (sg.place_Pen[r]?).bind fun u =>
 some u.G.isNone)).bind fun p =>
 (orE p ((p0).bind fun s =>
 (sg.widen_Cluster[s]?).bind fun h =>
 (f_cluster_Cluster_Full__widen_Cluster_4 h.text).bind fun w =>
 some w)).bind fun q =>
 if q = true then
 some (sg, false)
 else
 (p0).bind fun b =>
 (sg.widen_Cluster[b]?).bind fun v =>
 (f_widen_Cluster_add sg p0 p2 p3).bind fun d =>
 (d.1.widen_Cluster[b]?).bind fun c =>
 (d.1.set_widen_Cluster b (⟨c.at_, d.2, c.text, c.gauge⟩ : G_widen_Cluster)).bind fun a =>
 (if (d.2 != v.wide) = true then
 (p1).bind fun j =>
 (a.place_Pen[j]?).bind fun k =>
 (a.set_place_Pen j (⟨k.G, c.at_, k.Auto⟩ : G_place_Pen)).bind fun e =>
 (e.widen_Cluster[b]?).bind fun l =>
 (f_cluster_Cluster_Text__widen_Cluster_4 l.text).bind fun x =>
 (f_place_Pen_Put e p1 l.wide x).bind fun g =>
 (g.1.widen_Cluster[b]?).bind fun f =>
 (g.1.set_widen_Cluster b (⟨g.2, f.wide, f.text, f.gauge⟩ : G_widen_Cluster)).bind fun i =>
 some (i)
 else
 (p1).bind fun t =>
 (a.place_Pen[t]?).bind fun m =>
 (f_grid_Grid_Wide a m.G).bind fun y =>
 if (decide (d.2 ≤ y)) = true then
 (f_grid_Grid_Row a m.G c.at_.Row).bind fun n =>
 (f_mark_Add a n c.at_.Col p2).bind fun o =>
 some (o.1)
 else
 some (a)).bind fun z =>
 some (z, true)
theorem c_widen_Cluster_Join (O0 : Own c0 G F) (R0 : Rel c0 sg G) (hG : Gl [0, 1] c0) (p0 : Option Nat) (p1 : Option Nat) (Z : Int) (s : G_api_Prop) {r : Sto × Bool} (h2 : Pt 3 c0 v1 p0) (h4 : Pt 2 c0 v3 p1) (H : f_widen_Cluster_Join sg p0 p1 Z s = some r) :
    Calls prog 79 #[v1, v3, J Z, .agg #[I s.Break, B s.Pict, I s.Conj, I s.East]] c0.w (Post c0 fun c v => ∃ G_ : Gm, Own c G_ (F) ∧ Rel c r.1 G_ ∧ v = B r.2) := by
 unfold f_widen_Cluster_Join at H
 refine en func79 rfl rfl (sr (me (bx 133 [I s.Break, B s.Pict, I s.Conj, I s.East] O0) ?_))
 rintro v9 c8 R ⟨b5, rfl, O6, m7⟩
 refine va (B false) (wln (W.seq (W.seq (bn H fun k7 b2 H => bn H fun i6 x0 H => bn H fun h3 d0 H => W.join (Jn c8 fun c l => Own c G (F) ∧ l = [(0, v1), (1, v3), (2, J Z), (7, Q b5), (28, B h3)]) ?_ ?_))))
 ·clear H
  refine W.region (va (v1) (vr (B p0.isNone) (by rcases h2.m.cs with ⟨h, i⟩ | ⟨b_, h, i⟩ <;> (subst h; rw [i]; kernel_rfl)) ?_))
  rcases bo (p0.isNone) with A | A
  ·obtain rfl := orT A b2
   refine vb A (ps (ps (va (B true) ?_)))
   have c2 : true = true := rfl
   obtain rfl := orT c2 x0
   refine vb c2 (ps (ps (ps (ps (ps (va (B true) ?_))))))
   have d2 : true = true := rfl
   obtain rfl := orT d2 d0
   exact vb d2 (ps (ps (ps (ps (va (B true) (wln ⟨c8, _, _, rfl, pt, us, O6, rfl⟩))))))
  have l4 := orF A b2
  refine vb A (wn (va (v3) (wn (vr (B p1.isNone) (by rcases h4.m.cs with ⟨h, i⟩ | ⟨b_, h, i⟩ <;> (subst h; rw [i]; kernel_rfl)) ?_))))
  obtain rfl := si l4
  refine va (B p1.isNone) ?_
  rcases bo (p1.isNone) with D | D
  ·obtain rfl := orT D x0
   refine vb D (ps (ps (ps (ps (ps (va (B true) ?_))))))
   have e2 : true = true := rfl
   obtain rfl := orT e2 d0
   exact vb e2 (ps (ps (ps (ps (va (B true) (wln ⟨c8, _, _, rfl, pt, us, O6, rfl⟩))))))
  have y := orF D x0
  refine vb D (wn (va (v3) (wn (bn y fun m6 d5 y => ?_))))
  obtain ⟨z1, rfl, c5⟩ := ((h4.mono R)).get d5
  refine va (Q z1) (wn (va (Q z1) (wn (bn y fun U e5 y => ?_))))
  obtain ⟨v24, g5, f5⟩ := Rel.open_place_Pen (R0.mono R) e5 c5
  refine vx (le1 0 underlying45 (O6.gon g5 0 rfl)) (wn (vr (B U.G.isNone) (by rcases (f5).cs with ⟨h, i⟩ | ⟨b_, h, i⟩ <;> (subst h; rw [i]; kernel_rfl)) ?_))
  obtain rfl := si y
  refine va (B U.G.isNone) ?_
  rcases bo (U.G.isNone) with E | E
  ·obtain rfl := orT E d0
   exact vb E (ps (ps (ps (ps (va (B true) (wln ⟨c8, _, _, rfl, pt, us, O6, rfl⟩))))))
  have k := orF E d0
  refine vb E (wn (va (v1) (wn (bn k fun n6 i5 k => ?_))))
  obtain ⟨a2, rfl, h5⟩ := ((h2.mono R)).get i5
  refine va (Q a2) (wn (va (.pointer (some ⟨a2, 4, none⟩)) (wn (bn k fun h0 j5 k => ?_))))
  have f2 := Rel.open_widen_Cluster (R0.mono R) j5 h5
  have n4 := O6.borrow 0 f2 rfl
  refine bn k fun e4 k5 k => cl (c_cluster_Cluster_Full__widen_Cluster_4 h0.text n4 k5) ?_
  rintro v42 x4 o7 ⟨o4, rfl⟩
  have p4 := o4.giveB 0 rfl
  have q4 := Own.back p4 f2 rfl
  obtain rfl := si k
  exact va (B e4) (wln ⟨x4, _, _, rfl, pt, us, q4, rfl⟩)
 rintro e_ w_ ⟨y4, l7, _, rfl, e0, rfl, q0, rfl⟩
 refine nrm (cn H (fun l5 H => ?_) (fun l5 H => ?_))
 ·refine sr (va (B false) (wln (W.ret (thr ?_))))
  obtain rfl := si H
  exact r1 ⟨_, y4, rfl, rfl, pt, G, q0, R0.m, rfl⟩
 refine W.skip (nrm (sr (va (v1) (bn H fun o6 m5 H => ?_))))
 obtain ⟨d, rfl, u⟩ := ((h2.mono (R.trans e0))).get m5
 refine va (Q d) (va (.pointer (some ⟨d, 3, none⟩)) (bn H fun x n5 H => ?_))
 have o5 := Rel.open_widen_Cluster (R0.mono (R.trans e0)) n5 u
 refine vx (le1 3 underlying3 (q0.gon o5 0 rfl)) (va (I x.wide) (wln (sr (va (Q d) (va (Q d) (va (J Z) (vx (lN 133 (mm m7)) (bn H fun g p5 H => cl (c_widen_Cluster_add q0 R0.m p0 Z s h2.m p5) ?_))))))))
 rintro p7 i7 f0 ⟨f7, r4, x1, rfl⟩
 refine va (Q d) (va (.pointer (some ⟨d, 3, none⟩)) (bn H fun a q5 H => ?_))
 have r5 := Rel.open_widen_Cluster x1 q5 (tm u)
 refine md (gC 3 3 (I g.2) [I a.at_.Row, I a.at_.Col, B a.at_.Pending, I g.2, J a.text.text.1, J a.text.text.2.1, J a.text.text.2.2.1, J a.text.text.2.2.2.1, J a.text.text.2.2.2.2.1, J a.text.text.2.2.2.2.2.1, J a.text.text.2.2.2.2.2.2.1, J a.text.text.2.2.2.2.2.2.2.1, J a.text.text.2.2.2.2.2.2.2.2.1, J a.text.text.2.2.2.2.2.2.2.2.2.1, J a.text.text.2.2.2.2.2.2.2.2.2.2.1, J a.text.text.2.2.2.2.2.2.2.2.2.2.2.1, J a.text.text.2.2.2.2.2.2.2.2.2.2.2.2.1, J a.text.text.2.2.2.2.2.2.2.2.2.2.2.2.2.1, J a.text.text.2.2.2.2.2.2.2.2.2.2.2.2.2.2.1, J a.text.text.2.2.2.2.2.2.2.2.2.2.2.2.2.2.2, I a.text.n, B a.gauge.some, B a.gauge.pict, B a.gauge.wide] 0 r4 r5 ⟨rfl, trivial⟩) ?_
 rintro z4 P s4
 refine bn H fun i4 s5 H => ?_
 obtain ⟨j, b0, o, M, g7⟩ := Rel.put_widen_Cluster s4 (x1.mono P) (E' := [(Eb d 107 [I a.at_.Row, I a.at_.Col, B a.at_.Pending, I g.2, J a.text.text.1, J a.text.text.2.1, J a.text.text.2.2.1, J a.text.text.2.2.2.1, J a.text.text.2.2.2.2.1, J a.text.text.2.2.2.2.2.1, J a.text.text.2.2.2.2.2.2.1, J a.text.text.2.2.2.2.2.2.2.1, J a.text.text.2.2.2.2.2.2.2.2.1, J a.text.text.2.2.2.2.2.2.2.2.2.1, J a.text.text.2.2.2.2.2.2.2.2.2.2.1, J a.text.text.2.2.2.2.2.2.2.2.2.2.2.1, J a.text.text.2.2.2.2.2.2.2.2.2.2.2.2.1, J a.text.text.2.2.2.2.2.2.2.2.2.2.2.2.2.1, J a.text.text.2.2.2.2.2.2.2.2.2.2.2.2.2.2.1, J a.text.text.2.2.2.2.2.2.2.2.2.2.2.2.2.2.2, I a.text.n, B a.gauge.some, B a.gauge.pict, B a.gauge.wide])]) s5 ⟨d, (tm u), rfl⟩
 refine wln (bn H fun g4 e m4 => W.seqJ (Jn z4 fun c l => ∃ G_, Own c G_ (F) ∧ l = [] ∧ Rel c g4 G_) ?_ ?_)
 ·refine W.block (sr (va (Q d) (va (Q d) (va (.pointer (some ⟨d, 3, none⟩)) (vx (le1 3 underlying3 (b0.gon M 0 rfl)) (va (I x.wide) (va (B (g.2 != x.wide)) (va (B (g.2 != x.wide)) (wln (cn e (fun t5 e => ?_) (fun t5 e => ?_)))))))))))
  ·refine sr (va (v3) (va (Q d) (va (Q d) (va (Q d) (vx (leN 32 0 [I a.at_.Row, I a.at_.Col, B a.at_.Pending] (b0.gon M 0 rfl)) (bn e fun p6 u5 e => ?_))))))
   obtain ⟨z, rfl, g2⟩ := ((h4.mono (R.trans (e0.trans (f0.trans P))))).get u5
   refine va (Q z) (va (.pointer (some ⟨z, 1, none⟩)) (bn e fun h1 v5 e => ?_))
   obtain ⟨n1, x5, w5⟩ := Rel.open_place_Pen o v5 g2
   refine md (gB 32 1 [I a.at_.Row, I a.at_.Col, B a.at_.Pending] [n1, I a.at_.Row, I a.at_.Col, B a.at_.Pending, B h1.Auto] 0 b0 x5 ⟨rfl, rfl, rfl, trivial⟩) ?_
   rintro j7 g0 t4
   refine bn e fun j4 y5 e => ?_
   obtain ⟨a0, u4, y1, n7, h7⟩ := Rel.put_place_Pen t4 (o.mono g0) (E' := [(Eb z 47 [n1, I a.at_.Row, I a.at_.Col, B a.at_.Pending, B h1.Auto])]) y5 ⟨z, n1, (tm g2), rfl, (w5.mono g0)⟩
   refine wln (rD [10, 13] (Kp a0 []) u4 ?_)
   intro a5 g1 w1
   have b6 : Kp a0 [] a5 := (Kp.nil w1)
   refine ta 0 (Q d) (ta 1 (Q z) (ta 2 (Q d) (ta 3 (Q d) (ta 4 (.pointer (some ⟨d, 3, none⟩)) (bn e fun i1 z5 e => ?_)))))
   have b1 := Rel.open_widen_Cluster (y1.mono g1) z5 (tm u)
   refine tkx 5 b6 (fun c' N q => le1 3 underlying3 (q.gon b1 0 rfl)) (ta 6 (Q d) (ta 7 (Q d) (ta 8 (.pointer (some ⟨d, 4, none⟩)) ?_)))
   have v4 := w1.borrow 0 b1 rfl
   refine bn e fun f4 a6 e => o1 9 (gc 9 (c_cluster_Cluster_Text__widen_Cluster_4 i1.text v4 a6) ?_)
   rintro y6 z2 c1 ⟨_, x6, l2, rfl, i3⟩
   have n2 := l2.sD 2 [1, 0]
   have m2 := n2.giveB 0 rfl
   have j0 := Own.back m2 b1 rfl
   have a4 : Kp a0 [] z2 := (Kp.nil j0)
   refine ⟨.inr a4, ?_⟩
   obtain ⟨a3, k3, T, k0, j3⟩ := j0.frz 0 rfl i3
   have b4 : Kp a0 [] a3 := (Kp.nil k0)
   refine AC.gh k3 T (fun _ => b4) (bn e fun f l3 e => o1 10 (gc 10 (c_place_Pen_Put k0 y1.m (hG.m.le (by decide)) p1 i1.wide f4 h4.m j3 l3) ?_))
   rintro z6 h6 d1 ⟨d6, o2, u0, rfl⟩
   refine ⟨.inl rfl, ta 11 (Q d) (ta 12 (Q d) (bn e fun b m3 e => ?_))⟩
   have n3 := Rel.open_widen_Cluster u0 m3 ((f0.trans (P.trans (g0.trans (g1.trans (c1.trans (T.trans d1)))))).t _ _ _ u)
   refine o1 13 (gD 13 (gB 32 0 [I f.2.Row, I f.2.Col, B f.2.Pending] [I f.2.Row, I f.2.Col, B f.2.Pending, I b.wide, J b.text.text.1, J b.text.text.2.1, J b.text.text.2.2.1, J b.text.text.2.2.2.1, J b.text.text.2.2.2.2.1, J b.text.text.2.2.2.2.2.1, J b.text.text.2.2.2.2.2.2.1, J b.text.text.2.2.2.2.2.2.2.1, J b.text.text.2.2.2.2.2.2.2.2.1, J b.text.text.2.2.2.2.2.2.2.2.2.1, J b.text.text.2.2.2.2.2.2.2.2.2.2.1, J b.text.text.2.2.2.2.2.2.2.2.2.2.2.1, J b.text.text.2.2.2.2.2.2.2.2.2.2.2.2.1, J b.text.text.2.2.2.2.2.2.2.2.2.2.2.2.2.1, J b.text.text.2.2.2.2.2.2.2.2.2.2.2.2.2.2.1, J b.text.text.2.2.2.2.2.2.2.2.2.2.2.2.2.2.2, I b.text.n, B b.gauge.some, B b.gauge.pict, B b.gauge.wide] 0 o2 n3 ⟨rfl, rfl, rfl, trivial⟩) ?_)
   rintro b3 e1 q2
   refine bn e fun k4 o3 e => ?_
   obtain ⟨i2, s2, w2, l6, f6⟩ := Rel.put_widen_Cluster q2 (u0.mono e1) (E' := [(Eb d 107 [I f.2.Row, I f.2.Col, B f.2.Pending, I b.wide, J b.text.text.1, J b.text.text.2.1, J b.text.text.2.2.1, J b.text.text.2.2.2.1, J b.text.text.2.2.2.2.1, J b.text.text.2.2.2.2.2.1, J b.text.text.2.2.2.2.2.2.1, J b.text.text.2.2.2.2.2.2.2.1, J b.text.text.2.2.2.2.2.2.2.2.1, J b.text.text.2.2.2.2.2.2.2.2.2.1, J b.text.text.2.2.2.2.2.2.2.2.2.2.1, J b.text.text.2.2.2.2.2.2.2.2.2.2.2.1, J b.text.text.2.2.2.2.2.2.2.2.2.2.2.2.1, J b.text.text.2.2.2.2.2.2.2.2.2.2.2.2.2.1, J b.text.text.2.2.2.2.2.2.2.2.2.2.2.2.2.2.1, J b.text.text.2.2.2.2.2.2.2.2.2.2.2.2.2.2.2, I b.text.n, B b.gauge.some, B b.gauge.pict, B b.gauge.wide])]) o3 ⟨d, ((f0.trans (P.trans (g0.trans (g1.trans (c1.trans (T.trans (d1.trans e1))))))).t _ _ _ u), rfl⟩
   refine ⟨.inl rfl, dn (bkn (nrm ?_))⟩
   obtain rfl := si e
   have t2 := s2.sD 1 []
   exact ⟨b3, _, _, rfl, pt, us, i2, t2, rfl, w2⟩
  refine W.seq (rD [] (Kp j []) b0 ?_)
  intro c3 f1 l0
  have m1 : Kp j [] c3 := (Kp.nil l0)
  refine ta 0 (Q d) (ta 1 (Q d) (ta 2 (.pointer (some ⟨d, 3, none⟩)) (tkx 3 m1 (fun c' N q => le1 3 underlying3 (q.gon M 0 rfl)) (ta 4 (v3) (bn e fun q6 s3 e => ?_)))))
  obtain ⟨p, rfl, q3⟩ := ((h4.mono (R.trans (e0.trans (f0.trans (P.trans f1)))))).get s3
  refine ta 5 (Q p) (ta 6 (Q p) (bn e fun j1 t3 e => ?_))
  obtain ⟨a7, z0, y0⟩ := Rel.open_place_Pen (o.mono f1) t3 q3
  refine tkx 7 m1 (fun c' N q => le1 0 underlying45 (q.gon z0 0 rfl)) (bn e fun q1 u3 e => o1 8 (gc 8 (c_grid_Grid_Wide l0 o.m j1.G y0 u3) ?_))
  rintro b7 w0 r6 ⟨S, rfl⟩
  have c4 : Kp j [] w0 := (Kp.nil S)
  refine ⟨.inr c4, ta 9 (B (decide (g.2 ≤ q1))) (ta 10 (B (decide (g.2 ≤ q1))) (dn (nrm (cn e (fun w3 e => ?_) (fun w3 e => ?_)))))⟩
  ·refine rD [16] (Kp j []) S ?_
   intro d3 s6 m0
   have X : Kp j [] d3 := (Kp.nil m0)
   refine ta 0 (Q p) (ta 1 (Q p) (ta 2 (Q p) (tkx 3 X (fun c' N q => le1 0 underlying45 (q.gon z0 0 rfl)) (ta 4 (Q d) (ta 5 (Q d) (ta 6 (Q d) (ta 7 (Q d) (tkx 8 X (fun c' N q => le1 0 underlying3 (q.gon M 0 rfl)) (ta 10 (Q d) (ta 11 (Q d) (ta 12 (Q d) (ta 13 (.pointer (some ⟨d, 1, none⟩)) (tkx 14 X (fun c' N q => le1 1 underlying3 (q.gon M 0 rfl)) (ta 15 (J Z) (bn e fun u1 x3 e => o1 9 (gc 9 (c_grid_Grid_Row m0 o.m j1.G a.at_.Row y0.m x3) ?_))))))))))))))))
   rintro c7 e3 t6 ⟨_, o0, rfl, y3⟩
   have d4 : Kp j [] e3 := (Kp.nil o0)
   refine ⟨.inr d4, bn e fun c6 z3 e => o1 16 (gc 16 (c_mark_Add o0 o.m (hG.m.le (by decide)) u1 a.at_.Col Z y3 z3) ?_)⟩
   rintro d7 f3 u6 ⟨j2, u2, x2, rfl⟩
   refine ⟨.inl rfl, dn (bkn (nrm ?_))⟩
   obtain rfl := si e
   exact ⟨f3, _, _, rfl, pt, us, j2, u2, rfl, x2⟩
  refine W.skip (bkn (nrm ?_))
  obtain rfl := si e
  exact ⟨w0, _, _, rfl, pt, us, j, S, rfl, o.m⟩
 rintro e_ w_ ⟨g3, k6, _, rfl, v6, rfl, k2, v2, rfl, y2⟩
 refine sr (va (B true) (wln (W.ret ?_)))
 obtain rfl := si m4
 exact r1 ⟨_, g3, rfl, rfl, pt, k2, v2, y2, rfl⟩
def f_widen_Cluster_Text (sg : Sto) (p0 : Option Nat) : Option (List Int) :=
 if p0.isNone = true then
 some ([] : List Int)
 else
 (p0).bind fun c =>
 (sg.widen_Cluster[c]?).bind fun a =>
 (f_cluster_Cluster_Text__widen_Cluster_4 a.text).bind fun b =>
 some b
theorem c_widen_Cluster_Text (i : Own c0 G F) (z : Rel c0 sg G) (g : Option Nat) {r : List Int} (t : Pt 3 c0 v1 g) (H : f_widen_Cluster_Text sg g = some r) :
    Calls prog 27 #[v1] c0.w (Post c0 fun c v => ∃ h x, Own c G (es true (RI .i32) h 21 x r :: F) ∧ v = h ∧ OA (RI .i32) c h x r) := by
 unfold f_widen_Cluster_Text at H
 refine en func27 rfl rfl (sr (va (Y) (wln (W.seq (sr (va (v1) (vr (B g.isNone) (by rcases (t).cs with ⟨d, f⟩ | ⟨T, d, f⟩ <;> (subst d; rw [f]; kernel_rfl)) (wln (cn H (fun A H => ?_) (fun A H => ?_))))))))))
 ·refine sr (va (Y) (wln (W.ret (thr ?_))))
  obtain rfl := si H
  have D : OA (RI .i32) c0 (Y) [] [] := OA.nil (Nat.succ_pos _)
  have y := i.addHole (e := es true (RI .i32) (Y) 21 [] ([] : List Int)) rfl
  exact r1 ⟨_, c0, rfl, rfl, pt, (Y), [], y, rfl, D⟩
 refine W.skip (nrm (sr (va (v1) (bn H fun R M H => ?_))))
 obtain ⟨o, rfl, E⟩ := (t).get M
 refine va (Q o) (va (.pointer (some ⟨o, 4, none⟩)) (bn H fun a N H => ?_))
 have b := Rel.open_widen_Cluster z N E
 have j := i.borrow 0 b rfl
 refine bn H fun P q H => cl (c_cluster_Cluster_Text__widen_Cluster_4 a.text j q) ?_
 rintro v14 p S ⟨_, u, k, rfl, s⟩
 have m := k.sD 2 [1, 0]
 have l := m.giveB 0 rfl
 have n := Own.back l b rfl
 refine va (v14) (wln (W.ret ?_))
 obtain rfl := si H
 exact r1 ⟨_, p, rfl, rfl, pt, v14, u, n, rfl, s⟩
def f_linotyperef18_Of (p0 : G_api_Prop) : Option (Int) :=
 (iter (σ := Int) (τ := Int ⊕ Unit) (((([1, 2, 3, 4, 5, 10, 11] : List Int).length : Int) - 0).toNat + 1) (fun b =>
 if (decide (b < (([1, 2, 3, 4, 5, 10, 11] : List Int).length : Int))) = true then
 (idx ([1, 2, 3, 4, 5, 10, 11] : List Int) b).bind fun d =>
 if (p0.Break == d) = true then
 some (.inr (.inl 0))
 else
 some (.inl ((w64 (b + 1))))
 else
 some (.inr (.inr ()))) (0)).bind fun a =>
 match a with
 | .inl a =>
 some a
 | .inr a =>
 (orE (p0.East == 1) (some (p0.East == 2))).bind fun c =>
 if c = true then
 some 2
 else
 some 1
theorem c_linotyperef18_Of (O0 : Own c0 G F) (b : G_api_Prop) {r : Int} (H : f_linotyperef18_Of b = some r) :
    Calls prog 126 #[.agg #[I b.Break, B b.Pict, I b.Conj, I b.East]] c0.w (Post c0 fun c v => Own c G (F) ∧ v = I r) := by
 unfold f_linotyperef18_Of at H
 refine en func126 rfl rfl (sr (me (bx 133 [I b.Break, B b.Pict, I b.Conj, I b.East] O0) ?_))
 rintro v5 c4 l4 ⟨h, rfl, O2, R⟩
 refine va (I 0) (wln (sr (me (sl (RI .i64) 3 [[I 1], [I 2], [I 3], [I 4], [I 5], [I 10], [I 11]] ([1, 2, 3, 4, 5, 10, 11] : List Int) O2 ⟨rfl, rfl, rfl, rfl, rfl, rfl, rfl, trivial⟩) ?_)))
 rintro v10 s l9 ⟨p, O6, u⟩
 refine va (v10) (wln (W.seq (sr (va (I 0) (wln (W.block (bn H fun o D a => lp D (fun d => Jn s fun c l => Own c G (es true (RI .i64) v10 3 p ([1, 2, 3, 4, 5, 10, 11] : List Int) :: F) ∧ l = [(1, Q h), (3, v10), (4, I d)]) (fun t => match t with | .inl T => (fun t0 ex e w => ex = .ret ∧ (Jn s fun c l => Own c G (F) ∧ l = [(2, I t0)]) e w) T | .inr T => (fun a1 ex e w => ex = .exit 0 ∧ (Jn s fun c l => Own c G (es true (RI .i64) v10 3 p ([1, 2, 3, 4, 5, 10, 11] : List Int) :: F) ∧ l = [(1, Q h)]) e w) T) ?_ ?_ ?_)))))))
 ·clear a D
  intro d j1 g0 u0 H
  revert g0 u0
  rintro P S ⟨e0, c1, _, rfl, m0, rfl, x, rfl⟩
  refine W.seq (sr (va (I d) (va (v10) (vx (lnO 3 underlying25 u.m) (va (B (decide (d < (([1, 2, 3, 4, 5, 10, 11] : List Int).length : Int)))) (wln (cn H (fun i0 H => ?_) (fun i0 H => ?_))))))))
  ·refine W.skip (nrm (W.seq (W.block (W.seq (rD [] (Kp G0 [es true (RI .i64) v10 3 p ([1, 2, 3, 4, 5, 10, 11] : List Int)]) x ?_)))))
   intro i o0 g
   have s0 : Kp G0 [es true (RI .i64) v10 3 p ([1, 2, 3, 4, 5, 10, 11] : List Int)] i := (Kp.cons (g.on 0 rfl) Kp.nil0)
   refine ta 0 (Q h) (tx 1 (fun c' M => l1 underlying3 ((mm R) 0 _ rfl)) (ta 2 (v10) (ta 3 (I d) (bn H fun q n H => tx 4 (fun c' M => ixO underlying25 u.m n) ?_))))
   obtain ⟨z0, j0, q0⟩ := OA.at (u.mono (m0.trans o0)) n
   obtain rfl := j0
   refine AC.takeK 5 (I q) s0 rfl (by kernel_rfl) (by kernel_rfl) (by kernel_rfl) (fun c' M hk => (rx (by kernel_rfl) (ldE1 underlying3 rfl (hk.on 0 rfl) (u.m.blk n) (at1 (j := 0) q0 rfl)))) (ta 6 (B (b.Break == q)) (dn (nrm (cn H (fun k0 H => ?_) (fun k0 H => ?_)))))
   ·refine sr (va (I 0) (wln (W.ret (bkr (thr ?_)))))
    obtain rfl := si H
    refine ⟨_, rfl, ⟨rfl, ?_⟩⟩
    have X := g.sD 1 []
    exact ⟨i, _, _, rfl, pt, us, X, rfl⟩
   refine W.skip (bkn (nrm (W.region (va (I d) (va (I (w64 (d + 1))) (va (I (w64 (d + 1))) (WL.nil ?_)))))))
   obtain rfl := si H
   exact ⟨_, rfl, ⟨i, _, _, rfl, pt, us, g, rfl⟩⟩
  refine W.exit (thx ?_)
  obtain rfl := si H
  exact ⟨_, rfl, rfl, ⟨e0, _, _, rfl, pt, us, x, rfl⟩⟩
 ·exact ⟨s, _, _, rfl, pt, us, O6, rfl⟩
 rcases o with o | o
 ·intro h0; revert h0
  rintro _ P S ⟨rfl, f0, d1, _, rfl, g1, rfl, Z, rfl⟩
  refine bkr (thr ?_)
  obtain rfl := si a
  exact r1 ⟨_, f0, rfl, rfl, pt, Z, rfl⟩
 rintro _ P S ⟨rfl, k, e1, _, rfl, h1, rfl, y, rfl⟩
 refine bke (nrm (W.seq (W.seq (bn a fun N E a => W.join (Jn k fun c l => Own c G (es true (RI .i64) v10 3 p ([1, 2, 3, 4, 5, 10, 11] : List Int) :: F) ∧ l = [(26, B N)]) ?_ ?_))))
 ·clear a
  refine W.region (va (.pointer (some ⟨h, 0 + 3, none⟩)) (vx (l1 underlying3 ((mm R) 3 _ rfl)) (va (B (b.East == 1)) ?_)))
  rcases bo (b.East == 1) with f | f
  ·obtain rfl := orT f E
   exact vb f (ps (ps (ps (va (B true) (wln ⟨k, _, _, rfl, pt, us, y, rfl⟩)))))
  have U := orF f E
  refine vb f (wn (va (.pointer (some ⟨h, 0 + 3, none⟩)) (wn (vx (l1 underlying3 ((mm R) 3 _ rfl)) (wn (va (B (b.East == 2)) ?_))))))
  obtain rfl := si U
  exact va (B (b.East == 2)) (wln ⟨k, _, _, rfl, pt, us, y, rfl⟩)
 rintro P S ⟨A, f1, _, rfl, i1, rfl, z, rfl⟩
 refine nrm (cn a (fun l0 a => ?_) (fun l0 a => ?_))
 ·refine sr (va (I 2) (wln (W.ret (thr ?_))))
  obtain rfl := si a
  have a0 := z.sD 1 []
  exact r1 ⟨_, A, rfl, rfl, pt, a0, rfl⟩
 refine W.skip (nrm (sr (va (I 1) (wln (W.ret ?_)))))
 obtain rfl := si a
 have b0 := z.sD 1 []
 exact r1 ⟨_, A, rfl, rfl, pt, b0, rfl⟩
def f_linotyperef19_Row (p0 : List Int) (p1 : List G_api_Prop) : Option (Int) :=
 (iter (σ := Int) (τ := Int ⊕ Unit) (((p0.length : Int) - 0).toNat + 1) (fun a =>
 if (decide (a < (p0.length : Int))) = true then
 (idx p1 a).bind fun h =>
 (f_linotyperef18_Of h).bind fun i =>
 (orE (i == 2) ((andE (decide (a > 0)) ((idx p0 a).bind fun j =>
 (andE (j == 65039) ((idx p1 (w64 (a - 1))).bind fun k =>
 some k.Pict)).bind fun e =>
 (orE e ((idx p1 a).bind fun l =>
 some l.Pict)).bind fun f =>
 (orE f ((idx p1 a).bind fun m =>
 some (m.Break == 6))).bind fun g =>
 some g)).bind fun d =>
 some d)).bind fun c =>
 if c = true then
 some (.inr (.inl 2))
 else
 some (.inl ((w64 (a + 1))))
 else
 some (.inr (.inr ()))) (0)).bind fun b =>
 match b with
 | .inl b =>
 some b
 | .inr b =>
 some 1
theorem c_linotyperef19_Row (O0 : Own c0 G F) (p0 : List Int) (p1 : List G_api_Prop) {r : Int} (h2 : Sl (RI .i32) c0 v1 p0) (g : Sl R_api_Prop c0 v3 p1) (H : f_linotyperef19_Row p0 p1 = some r) :
    Calls prog 92 #[v1, v3] c0.w (Post c0 fun c v => Own c G (F) ∧ v = I r) := by
 unfold f_linotyperef19_Row at H
 refine en func92 rfl rfl (sr (va (I 0) (wln (W.seq (sr (va (I 0) (wln (W.block (bn H fun N h5 H6 => lp h5 (fun a => Jn c0 fun c l => Own c G (F) ∧ l = [(0, v1), (1, v3), (5, I a)]) (fun t => match t with | .inl x_ => (fun j2 ex e w => ex = .ret ∧ (Jn c0 fun c l => Own c G (F) ∧ l = [(4, I j2)]) e w) x_ | .inr x_ => (fun w2 ex e w => ex = .exit 0 ∧ (Jn c0 fun c l => Own c G (F) ∧ l = []) e w) x_) ?_ ?_ ?_)))))))))
 ·clear H6 h5
  intro a d3 g1 k2 H
  revert g1 k2
  rintro e_ w_ ⟨c7, g8, _, rfl, x, rfl, O9, rfl⟩
  refine W.seq (sr (va (I a) (va (v1) (vx (ln 3 underlying43 h2.m) (va (B (decide (a < (p0.length : Int)))) (wln (cn H (fun i1 H => ?_) (fun i1 H => ?_))))))))
  ·refine W.skip (nrm (W.seq (W.block (W.seq (bn H fun z0 X H => bn H fun P j1 H => bn H fun s0 Z H => W.join (Jn c7 fun c l => Own c G (F) ∧ l = [(0, v1), (1, v3), (5, I a), (51, B s0)]) ?_ ?_)))))
   ·clear H
    refine W.region (va (v3) (va (I a) ?_))
    obtain ⟨o2, k1, a2⟩ := Sl.at (g.mono x) (idx_get X)
    obtain rfl := k1
    refine vx (ix underlying143 g.m X) (vx (lN 133 a2) (cl (c_linotyperef18_Of O9 z0 j1) ?_))
    rintro v25 i k ⟨h, rfl⟩
    refine va (B (P == 2)) ?_
    rcases bo (P == 2) with n | n
    ·obtain rfl := orT n Z
     exact vb n (ps (ps (ps (ps (ps (ps (ps (ps (ps (ps (ps (ps (ps (ps (ps (ps (ps (ps (ps (ps (ps (ps (ps (ps (ps (ps (ps (ps (ps (ps (ps (ps (va (B true) (wln ⟨i, _, _, rfl, pt, us, h, rfl⟩))))))))))))))))))))))))))))))))))
    have f := orF n Z
    refine vb n (wn (va (I a) (wn (va (B (decide (a > 0))) (wn (bn f fun m2 a0 f => ?_))))))
    rcases bo (decide (a > 0)) with o | o
    ·have b := anT o a0
     refine vb o (wn (va (v1) (wn (va (I a) (wn (bn b fun R b0 b => ?_))))))
     obtain ⟨p2, m1, b2⟩ := Sl.at (h2.mono (x.trans k)) (idx_get b0)
     obtain rfl := m1
     refine vx (ix underlying43 h2.m b0) (wn (vx (l1 underlying21 (b2 0 _ rfl)) (wn (va (B (R == 65039)) (wn (bn b fun n2 d0 b => ?_))))))
     rcases bo (R == 65039) with p | p
     ·have y := anT p d0
      refine vb p (wn (va (v3) (wn (va (I a) (wn (va (I (w64 (a - 1))) (wn (bn y fun S e0 y => ?_))))))))
      obtain ⟨q2, n1, c2⟩ := Sl.at (g.mono (x.trans k)) (idx_get e0)
      obtain rfl := n1
      refine vx (ix underlying143 g.m e0) (wn (va (.pointer (some ⟨sb v3, so v3 + (w64 (a - 1)).toNat * 4 + 1, none⟩)) (wn (vx (l1 underlying4 (c2 1 _ rfl)) (wn ?_)))))
      obtain rfl := si y
      refine va (B S.Pict) (wn (bn b fun t0 f0 b => ?_))
      rcases bo (S.Pict) with q | q
      ·obtain rfl := orT q f0
       refine vb q (ps (ps (ps (ps (ps (wn (va (B true) (wn (bn b fun M q1 b => ?_)))))))))
       have g0 : true = true := rfl
       obtain rfl := orT g0 q1
       refine vb g0 (ps (ps (ps (ps (ps (ps (wn (va (B true) (wn ?_)))))))))
       obtain rfl := si b
       refine va (B true) ?_
       obtain rfl := si f
       exact va (B true) (wln ⟨i, _, _, rfl, pt, us, h, rfl⟩)
      have z := orF q f0
      refine vb q (wn (va (v3) (wn (va (I a) (wn (bn z fun j h0 z => ?_))))))
      obtain ⟨s2, s1, d2⟩ := Sl.at (g.mono (x.trans k)) (idx_get h0)
      obtain rfl := s1
      refine vx (ix underlying143 g.m h0) (wn (va (.pointer (some ⟨sb v3, so v3 + a.toNat * 4 + 1, none⟩)) (wn (vx (l1 underlying4 (d2 1 _ rfl)) (wn ?_)))))
      obtain rfl := si z
      refine va (B j.Pict) (wn (bn b fun M i0 b => ?_))
      rcases bo (j.Pict) with s | s
      ·obtain rfl := orT s i0
       refine vb s (ps (ps (ps (ps (ps (ps (wn (va (B true) (wn ?_)))))))))
       obtain rfl := si b
       refine va (B true) ?_
       obtain rfl := si f
       exact va (B true) (wln ⟨i, _, _, rfl, pt, us, h, rfl⟩)
      have A := orF s i0
      refine vb s (wn (va (v3) (wn (va (I a) (wn (bn A fun d j0 A => ?_))))))
      obtain ⟨t2, u1, e2⟩ := Sl.at (g.mono (x.trans k)) (idx_get j0)
      obtain rfl := u1
      refine vx (ix underlying143 g.m j0) (wn (va (.pointer (some ⟨sb v3, so v3 + a.toNat * 4, none⟩)) (wn (vx (l1 underlying3 (e2 0 _ rfl)) (wn (va (B (d.Break == 6)) (wn ?_)))))))
      obtain rfl := si A
      refine va (B (d.Break == 6)) (wn ?_)
      obtain rfl := si b
      refine va (B (d.Break == 6)) ?_
      obtain rfl := si f
      exact va (B (d.Break == 6)) (wln ⟨i, _, _, rfl, pt, us, h, rfl⟩)
     obtain rfl := anF p d0
     refine vb p (ps (ps (ps (ps (ps (ps (wn (va (B false) (wn (bn b fun t0 w1 b => ?_))))))))))
     have k0 : false = false := rfl
     have D := orF k0 w1
     refine vb k0 (wn (va (v3) (wn (va (I a) (wn (bn D fun j l0 D => ?_))))))
     obtain ⟨u2, x1, f2⟩ := Sl.at (g.mono (x.trans k)) (idx_get l0)
     obtain rfl := x1
     refine vx (ix underlying143 g.m l0) (wn (va (.pointer (some ⟨sb v3, so v3 + a.toNat * 4 + 1, none⟩)) (wn (vx (l1 underlying4 (f2 1 _ rfl)) (wn ?_)))))
     obtain rfl := si D
     refine va (B j.Pict) (wn (bn b fun M m0 b => ?_))
     rcases bo (j.Pict) with u | u
     ·obtain rfl := orT u m0
      refine vb u (ps (ps (ps (ps (ps (ps (wn (va (B true) (wn ?_)))))))))
      obtain rfl := si b
      refine va (B true) ?_
      obtain rfl := si f
      exact va (B true) (wln ⟨i, _, _, rfl, pt, us, h, rfl⟩)
     have E := orF u m0
     refine vb u (wn (va (v3) (wn (va (I a) (wn (bn E fun d o0 E => ?_))))))
     obtain ⟨v2, y1, g2⟩ := Sl.at (g.mono (x.trans k)) (idx_get o0)
     obtain rfl := y1
     refine vx (ix underlying143 g.m o0) (wn (va (.pointer (some ⟨sb v3, so v3 + a.toNat * 4, none⟩)) (wn (vx (l1 underlying3 (g2 0 _ rfl)) (wn (va (B (d.Break == 6)) (wn ?_)))))))
     obtain rfl := si E
     refine va (B (d.Break == 6)) (wn ?_)
     obtain rfl := si b
     refine va (B (d.Break == 6)) ?_
     obtain rfl := si f
     exact va (B (d.Break == 6)) (wln ⟨i, _, _, rfl, pt, us, h, rfl⟩)
    obtain rfl := anF o a0
    refine vb o (ps (ps (ps (ps (ps (ps (ps (ps (ps (ps (ps (ps (ps (ps (ps (ps (ps (ps (ps (ps (ps (ps (ps (ps (ps (ps (ps (ps (wn (va (B false) ?_))))))))))))))))))))))))))))))
    obtain rfl := si f
    exact va (B false) (wln ⟨i, _, _, rfl, pt, us, h, rfl⟩)
   rintro e_ w_ ⟨U, x2, _, rfl, a3, rfl, T, rfl⟩
   refine nrm (cn H (fun z1 H => ?_) (fun z1 H => ?_))
   ·refine sr (va (I 2) (wln (W.ret (bkr (thr ?_)))))
    obtain rfl := si H
    exact ⟨_, rfl, ⟨rfl, ⟨U, _, _, rfl, pt, us, T, rfl⟩⟩⟩
   refine W.skip (bkn (nrm (W.region (va (I a) (va (I (w64 (a + 1))) (va (I (w64 (a + 1))) (WL.nil ?_)))))))
   obtain rfl := si H
   exact ⟨_, rfl, ⟨U, _, _, rfl, pt, us, T, rfl⟩⟩
  refine W.exit (thx ?_)
  obtain rfl := si H
  exact ⟨_, rfl, rfl, ⟨c7, _, _, rfl, pt, us, O9, rfl⟩⟩
 ·exact ⟨c0, _, _, rfl, pt, us, O0, rfl⟩
 rcases N with N | N
 ·intro h1; revert h1
  rintro _ e_ w_ ⟨rfl, e1, y2, _, rfl, b3, rfl, a1, rfl⟩
  refine bkr (thr ?_)
  obtain rfl := si H6
  exact r1 ⟨_, e1, rfl, rfl, pt, a1, rfl⟩
 rintro _ e_ w_ ⟨rfl, f1, z2, _, rfl, c3, rfl, b1, rfl⟩
 refine bke (nrm (sr (va (I 1) (wln (W.ret ?_)))))
 obtain rfl := si H6
 exact r1 ⟨_, f1, rfl, rfl, pt, b1, rfl⟩
def t_gcb_table_134 : List (Int × Int × Int) := [(0, 9, 3), (10, 10, 2), (11, 12, 3), (13, 13, 1), (14, 31, 3), (127, 159, 3), (173, 173, 3), (768, 879, 4), (1155, 1161, 4), (1425, 1469, 4), (1471, 1471, 4), (1473, 1474, 4), (1476, 1477, 4), (1479, 1479, 4), (1536, 1541, 7), (1552, 1562, 4), (1564, 1564, 3), (1611, 1631, 4), (1648, 1648, 4), (1750, 1756, 4), (1757, 1757, 7), (1759, 1764, 4), (1767, 1768, 4), (1770, 1773, 4), (1807, 1807, 7), (1809, 1809, 4), (1840, 1866, 4), (1958, 1968, 4), (2027, 2035, 4), (2070, 2073, 4), (2075, 2083, 4), (2192, 2193, 7), (2259, 2273, 4), (2274, 2274, 7), (2275, 2306, 4), (2307, 2307, 8), (2362, 2362, 4), (2363, 2363, 8), (2364, 2364, 4), (2366, 2368, 8), (2369, 2376, 4), (2377, 2380, 8), (2381, 2381, 4), (2382, 2383, 8), (2385, 2391, 4), (2402, 2403, 4), (2433, 2433, 4), (2434, 2435, 8), (2492, 2492, 4), (2494, 2494, 4), (2495, 2496, 8), (2497, 2500, 4), (2503, 2504, 8), (2507, 2508, 8), (2509, 2509, 4), (2519, 2519, 4), (2530, 2531, 4), (2561, 2562, 4), (2563, 2563, 8), (2620, 2620, 4), (2622, 2624, 8), (2625, 2626, 4), (2631, 2632, 4), (2635, 2637, 4), (2691, 2691, 8), (2748, 2748, 4), (2750, 2752, 8), (2753, 2757, 4), (2761, 2761, 8), (2765, 2765, 4), (2818, 2819, 8), (2876, 2876, 4), (2878, 2879, 4), (2880, 2880, 8), (2881, 2884, 4), (2887, 2888, 8), (2893, 2893, 4), (2902, 2903, 4), (3073, 3075, 8), (3132, 3132, 4), (3134, 3136, 4), (3137, 3140, 8), (3142, 3144, 4), (3146, 3149, 4), (3276, 3277, 4), (3330, 3331, 8), (3390, 3390, 4), (3391, 3392, 8), (3393, 3396, 4), (3398, 3400, 8), (3405, 3405, 4), (3406, 3406, 7), (3633, 3633, 4), (3635, 3635, 8), (3636, 3642, 4), (3655, 3662, 4), (3761, 3761, 4), (3763, 3763, 8), (3764, 3772, 4), (3864, 3865, 4), (3902, 3903, 8), (3953, 3966, 4), (4155, 4156, 8), (4957, 4959, 4), (6158, 6158, 3), (6832, 6862, 4), (7616, 7679, 4), (8203, 8203, 3), (8204, 8204, 4), (8205, 8205, 5), (8206, 8207, 3), (8232, 8238, 3), (8288, 8303, 3), (8400, 8432, 4), (12330, 12335, 4), (12441, 12442, 4), (42607, 42610, 4), (64286, 64286, 4), (65024, 65039, 4), (65056, 65071, 4), (65279, 65279, 3), (65520, 65531, 3), (69821, 69821, 7), (69837, 69837, 7), (127462, 127487, 6), (127995, 127999, 4), (917504, 917535, 3), (917536, 917631, 4), (917632, 917759, 3), (917760, 917999, 4), (918000, 921599, 3)]
def f_gcb_table  : Option (List (Int × Int × Int)) :=
 some t_gcb_table_134
theorem c_gcb_table (d : Own c0 G F) {r : List (Int × Int × Int)} (H : f_gcb_table  = some r) :
    Calls prog 134 #[] c0.w (Post c0 fun c v => ∃ a b, Own c G (es true RA3_i64 a 179 b r :: F) ∧ v = a ∧ OA RA3_i64 c a b r) := by
 unfold f_gcb_table at H
 refine en func134 rfl rfl (sr (va (Y) (wln (sr (va (.agg #[I 0, I 9, I 3]) (va (.agg #[I 10, I 10, I 2]) (va (.agg #[I 11, I 12, I 3]) (va (.agg #[I 13, I 13, I 1]) (va (.agg #[I 14, I 31, I 3]) (va (.agg #[I 127, I 159, I 3]) (va (.agg #[I 173, I 173, I 3]) (va (.agg #[I 768, I 879, I 4]) (va (.agg #[I 1155, I 1161, I 4]) (va (.agg #[I 1425, I 1469, I 4]) (va (.agg #[I 1471, I 1471, I 4]) (va (.agg #[I 1473, I 1474, I 4]) (va (.agg #[I 1476, I 1477, I 4]) (va (.agg #[I 1479, I 1479, I 4]) (va (.agg #[I 1536, I 1541, I 7]) (va (.agg #[I 1552, I 1562, I 4]) (va (.agg #[I 1564, I 1564, I 3]) (va (.agg #[I 1611, I 1631, I 4]) (va (.agg #[I 1648, I 1648, I 4]) (va (.agg #[I 1750, I 1756, I 4]) (va (.agg #[I 1757, I 1757, I 7]) (va (.agg #[I 1759, I 1764, I 4]) (va (.agg #[I 1767, I 1768, I 4]) (va (.agg #[I 1770, I 1773, I 4]) (va (.agg #[I 1807, I 1807, I 7]) (va (.agg #[I 1809, I 1809, I 4]) (va (.agg #[I 1840, I 1866, I 4]) (va (.agg #[I 1958, I 1968, I 4]) (va (.agg #[I 2027, I 2035, I 4]) (va (.agg #[I 2070, I 2073, I 4]) (va (.agg #[I 2075, I 2083, I 4]) (va (.agg #[I 2192, I 2193, I 7]) (va (.agg #[I 2259, I 2273, I 4]) (va (.agg #[I 2274, I 2274, I 7]) (va (.agg #[I 2275, I 2306, I 4]) (va (.agg #[I 2307, I 2307, I 8]) (va (.agg #[I 2362, I 2362, I 4]) (va (.agg #[I 2363, I 2363, I 8]) (va (.agg #[I 2364, I 2364, I 4]) (va (.agg #[I 2366, I 2368, I 8]) (va (.agg #[I 2369, I 2376, I 4]) (va (.agg #[I 2377, I 2380, I 8]) (va (.agg #[I 2381, I 2381, I 4]) (va (.agg #[I 2382, I 2383, I 8]) (va (.agg #[I 2385, I 2391, I 4]) (va (.agg #[I 2402, I 2403, I 4]) (va (.agg #[I 2433, I 2433, I 4]) (va (.agg #[I 2434, I 2435, I 8]) (va (.agg #[I 2492, I 2492, I 4]) (va (.agg #[I 2494, I 2494, I 4]) (va (.agg #[I 2495, I 2496, I 8]) (va (.agg #[I 2497, I 2500, I 4]) (va (.agg #[I 2503, I 2504, I 8]) (va (.agg #[I 2507, I 2508, I 8]) (va (.agg #[I 2509, I 2509, I 4]) (va (.agg #[I 2519, I 2519, I 4]) (va (.agg #[I 2530, I 2531, I 4]) (va (.agg #[I 2561, I 2562, I 4]) (va (.agg #[I 2563, I 2563, I 8]) (va (.agg #[I 2620, I 2620, I 4]) (va (.agg #[I 2622, I 2624, I 8]) (va (.agg #[I 2625, I 2626, I 4]) (va (.agg #[I 2631, I 2632, I 4]) (va (.agg #[I 2635, I 2637, I 4]) (va (.agg #[I 2691, I 2691, I 8]) (va (.agg #[I 2748, I 2748, I 4]) (va (.agg #[I 2750, I 2752, I 8]) (va (.agg #[I 2753, I 2757, I 4]) (va (.agg #[I 2761, I 2761, I 8]) (va (.agg #[I 2765, I 2765, I 4]) (va (.agg #[I 2818, I 2819, I 8]) (va (.agg #[I 2876, I 2876, I 4]) (va (.agg #[I 2878, I 2879, I 4]) (va (.agg #[I 2880, I 2880, I 8]) (va (.agg #[I 2881, I 2884, I 4]) (va (.agg #[I 2887, I 2888, I 8]) (va (.agg #[I 2893, I 2893, I 4]) (va (.agg #[I 2902, I 2903, I 4]) (va (.agg #[I 3073, I 3075, I 8]) (va (.agg #[I 3132, I 3132, I 4]) (va (.agg #[I 3134, I 3136, I 4]) (va (.agg #[I 3137, I 3140, I 8]) (va (.agg #[I 3142, I 3144, I 4]) (va (.agg #[I 3146, I 3149, I 4]) (va (.agg #[I 3276, I 3277, I 4]) (va (.agg #[I 3330, I 3331, I 8]) (va (.agg #[I 3390, I 3390, I 4]) (va (.agg #[I 3391, I 3392, I 8]) (va (.agg #[I 3393, I 3396, I 4]) (va (.agg #[I 3398, I 3400, I 8]) (va (.agg #[I 3405, I 3405, I 4]) (va (.agg #[I 3406, I 3406, I 7]) (va (.agg #[I 3633, I 3633, I 4]) (va (.agg #[I 3635, I 3635, I 8]) (va (.agg #[I 3636, I 3642, I 4]) (va (.agg #[I 3655, I 3662, I 4]) (va (.agg #[I 3761, I 3761, I 4]) (va (.agg #[I 3763, I 3763, I 8]) (va (.agg #[I 3764, I 3772, I 4]) (va (.agg #[I 3864, I 3865, I 4]) (va (.agg #[I 3902, I 3903, I 8]) (va (.agg #[I 3953, I 3966, I 4]) (va (.agg #[I 4155, I 4156, I 8]) (va (.agg #[I 4957, I 4959, I 4]) (va (.agg #[I 6158, I 6158, I 3]) (va (.agg #[I 6832, I 6862, I 4]) (va (.agg #[I 7616, I 7679, I 4]) (va (.agg #[I 8203, I 8203, I 3]) (va (.agg #[I 8204, I 8204, I 4]) (va (.agg #[I 8205, I 8205, I 5]) (va (.agg #[I 8206, I 8207, I 3]) (va (.agg #[I 8232, I 8238, I 3]) (va (.agg #[I 8288, I 8303, I 3]) (va (.agg #[I 8400, I 8432, I 4]) (va (.agg #[I 12330, I 12335, I 4]) (va (.agg #[I 12441, I 12442, I 4]) (va (.agg #[I 42607, I 42610, I 4]) (va (.agg #[I 64286, I 64286, I 4]) (va (.agg #[I 65024, I 65039, I 4]) (va (.agg #[I 65056, I 65071, I 4]) (va (.agg #[I 65279, I 65279, I 3]) (va (.agg #[I 65520, I 65531, I 3]) (va (.agg #[I 69821, I 69821, I 7]) (va (.agg #[I 69837, I 69837, I 7]) (va (.agg #[I 127462, I 127487, I 6]) (va (.agg #[I 127995, I 127999, I 4]) (va (.agg #[I 917504, I 917535, I 3]) (va (.agg #[I 917536, I 917631, I 4]) (va (.agg #[I 917632, I 917759, I 3]) (va (.agg #[I 917760, I 917999, I 4]) (va (.agg #[I 918000, I 921599, I 3]) (me (Own.sl (R := RA3_i64) (E := 179) (ls := t_gcb_table_134.map (fun x => [I x.1, I x.2.1, I x.2.2])) (vs := (t_gcb_table_134.map (fun x => [I x.1, I x.2.1, I x.2.2])).flatten) (xs := t_gcb_table_134) true d (Nat.succ_pos _) rfl (AllR.map _ (fun _ => rfl) _) (by kernel_rfl) (by kernel_rfl)) ?_))))))))))))))))))))))))))))))))))))))))))))))))))))))))))))))))))))))))))))))))))))))))))))))))))))))))))))))))))))))))))))))))))))))))
 rintro v5 f i ⟨h, e, g⟩
 refine va (v5) (wln (W.ret ?_))
 obtain rfl := si H
 exact r1 ⟨_, f, rfl, rfl, pt, v5, h, e, rfl, g⟩
def f_gcb_Of_1 (p0 : Int) (q0_0 : List (Int × Int × Int)) (q1_0 : Int) : Option (Bool) :=
 (idx q0_0 p0).bind fun a =>
 some (decide (a.2.1 ≥ (w64 q1_0)))
theorem c_gcb_Of_1 {d : Nat} {e : Nat} (o : Own c0 G F) (b : Int) (q0_0 : List (Int × Int × Int)) (q1_0 : Int) {r : Bool} (s : ∀ j u, ([v2] : List Value)[j]? = some u → Im c0 d (0 + j) u) (k : Sl RA3_i64 c0 v2 q0_0) (t : ∀ j u, ([J q1_0] : List Value)[j]? = some u → Im c0 e (0 + j) u) (H : f_gcb_Of_1 b q0_0 q1_0 = some r) :
    Calls prog 136 #[I b, Q d, Q e] c0.w (Post c0 fun c v => Own c G (F) ∧ v = B r) := by
 unfold f_gcb_Of_1 at H
 refine en func136 rfl rfl (sr (va (B false) (wln (W.seq (rD [] (Kp G0 []) o ?_)))))
 intro h q p
 have y : Kp G0 [] h := Kp.nil0
 refine tx 0 (fun g a => l1 underlying176 ((mm s) 0 _ rfl)) (ta 1 (I b) (bn H fun f l H => ?_))
 obtain ⟨x, i, n⟩ := Sl.at (k.mono q) (idx_get l)
 obtain rfl := i
 refine tx 2 (fun g a => ix underlying176 k.m l) (ta 3 (.pointer (some ⟨sb v2, so v2 + b.toNat * 3 + 1, none⟩)) (tx 4 (fun g a => l1 underlying3 ((mm n) 1 _ rfl)) (tx 5 (fun g a => l1 underlying21 ((mm t) 0 _ rfl)) (ta 6 (I (w64 q1_0)) (ta 7 (B (decide (f.2.1 ≥ (w64 q1_0)))) (ta 8 (B (decide (f.2.1 ≥ (w64 q1_0)))) (dn (nrm (W.ret ?_)))))))))
 obtain rfl := si H
 exact r1 ⟨_, h, rfl, rfl, pt, p, rfl⟩
def f_hangul_in (p0 : Int) (p1 : Int) (p2 : Int) : Option (Bool) :=
 (andE (decide (p0 ≥ p1)) (some (decide (p0 ≤ p2)))).bind fun a =>
 some a
theorem c_hangul_in (f : Own c0 G F) (a : Int) (e : Int) (b : Int) {r : Bool} (H : f_hangul_in a e b = some r) :
    Calls prog 175 #[J a, J e, J b] c0.w (Post c0 fun c v => Own c G (F) ∧ v = B r) := by
 unfold f_hangul_in at H
 refine en func175 rfl rfl (sr (va (B false) (wln (W.seq (bn H fun g h H => W.join (Jn c0 fun c l => Own c G (F) ∧ l = [(6, B g)]) ?_ ?_)))))
 ·clear H
  refine W.region (va (J a) (va (J e) (va (B (decide (a ≥ e))) ?_)))
  rcases bo (decide (a ≥ e)) with d | d
  ·have i := anT d h
   refine vb d (wn (va (J a) (wn (va (J b) (wn (va (B (decide (a ≤ b))) ?_))))))
   obtain rfl := si i
   exact va (B (decide (a ≤ b))) (va (B (decide (a ≤ b))) (wln ⟨c0, _, _, rfl, pt, us, f, rfl⟩))
  obtain rfl := anF d h
  exact vb d (ps (ps (ps (va (B false) (va (B false) (wln ⟨c0, _, _, rfl, pt, us, f, rfl⟩))))))
 rintro m p ⟨k, n, _, rfl, o, rfl, j, rfl⟩
 refine nrm (W.ret ?_)
 obtain rfl := si H
 exact r1 ⟨_, k, rfl, rfl, pt, j, rfl⟩
def f_hangul_Syllable (p0 : Int) : Option (Bool) :=
 (f_hangul_in p0 44032 55203).bind fun a =>
 some a
theorem c_hangul_Syllable (d : Own c0 G F) (a : Int) {r : Bool} (H : f_hangul_Syllable a = some r) :
    Calls prog 176 #[J a] c0.w (Post c0 fun c v => Own c G (F) ∧ v = B r) := by
 unfold f_hangul_Syllable at H
 refine en func176 rfl rfl (sr (va (B false) (wln (sr (va (J a) (bn H fun b g H => cl (c_hangul_in d a 44032 55203 g) ?_))))))
 rintro v7 f h ⟨e, rfl⟩
 refine va (B b) (wln (W.ret ?_))
 obtain rfl := si H
 exact r1 ⟨_, f, rfl, rfl, pt, e, rfl⟩
def f_hangul_Class (p0 : Int) : Option (Int) :=
 (f_hangul_in p0 4352 4447).bind fun i =>
 (orE i ((f_hangul_in p0 43360 43388).bind fun j =>
 some j)).bind fun h =>
 if h = true then
 some 9
 else
 (f_hangul_in p0 4448 4519).bind fun c =>
 (orE c ((f_hangul_in p0 55216 55238).bind fun d =>
 some d)).bind fun a =>
 if a = true then
 some 10
 else
 (f_hangul_in p0 4520 4607).bind fun e =>
 (orE e ((f_hangul_in p0 55243 55291).bind fun f =>
 some f)).bind fun b =>
 if b = true then
 some 11
 else
 (f_hangul_Syllable p0).bind fun g =>
 if (!g) = true then
 some 0
 else
 if (((w32 (p0 - 44032)).tmod 28) == 0) = true then
 some 12
 else
 some 13
theorem c_hangul_Class (O0 : Own c0 G F) (a : Int) {r : Int} (H : f_hangul_Class a = some r) :
    Calls prog 137 #[J a] c0.w (Post c0 fun c v => Own c G (F) ∧ v = I r) := by
 unfold f_hangul_Class at H
 refine en func137 rfl rfl (sr (va (I 0) (wln (W.seq (W.block (W.seq (bn H fun w0 h1 H => bn H fun e0 h2 H => W.join (Jn c0 fun c l => Own c G (F) ∧ l = [(0, J a), (3, B e0)]) ?_ ?_)))))))
 ·clear H
  refine W.region (va (J a) (cl (c_hangul_in O0 a 4352 4447 h1) ?_))
  rintro v8 c7 l7 ⟨S, rfl⟩
  rcases bo (w0) with j | j
  ·obtain rfl := orT j h2
   exact vb j (ps (ps (va (B true) (va (B true) (wln ⟨c7, _, _, rfl, pt, us, S, rfl⟩)))))
  have e := orF j h2
  refine vb j (wn (va (J a) (wn (bn e fun A g0 e => cl (c_hangul_in S a 43360 43388 g0) ?_))))
  rintro v17 U l16 ⟨P, rfl⟩
  obtain rfl := si e
  exact va (B A) (va (B A) (wln ⟨U, _, _, rfl, pt, us, P, rfl⟩))
 rintro e_ w_ ⟨u, a1, _, rfl, d1, rfl, o, rfl⟩
 refine nrm (cn H (fun i0 H => ?_) (fun i0 H => ?_))
 ·refine sr (va (I 9) (wln (W.ret (bkr (thr ?_)))))
  obtain rfl := si H
  exact r1 ⟨_, u, rfl, rfl, pt, o, rfl⟩
 refine W.seq (bn H fun M j0 H => bn H fun D y H => W.join (Jn u fun c l => Own c G (F) ∧ l = [(0, J a), (10, B D)]) ?_ ?_)
 ·clear H
  refine W.region (va (J a) (cl (c_hangul_in o a 4448 4519 j0) ?_))
  rintro v32 X e1 ⟨p, rfl⟩
  rcases bo (M) with b | b
  ·obtain rfl := orT b y
   exact vb b (ps (ps (va (B true) (va (B true) (wln ⟨X, _, _, rfl, pt, us, p, rfl⟩)))))
  have f := orF b y
  refine vb b (wn (va (J a) (wn (bn f fun k k0 f => cl (c_hangul_in p a 55216 55238 k0) ?_))))
  rintro v41 Z f1 ⟨R, rfl⟩
  obtain rfl := si f
  exact va (B k) (va (B k) (wln ⟨Z, _, _, rfl, pt, us, R, rfl⟩))
 rintro e_ w_ ⟨x, b1, _, rfl, g1, rfl, q, rfl⟩
 refine nrm (cn H (fun l0 H => ?_) (fun l0 H => ?_))
 ·refine sr (va (I 10) (wln (W.ret (bkr (thr ?_)))))
  obtain rfl := si H
  exact r1 ⟨_, x, rfl, rfl, pt, q, rfl⟩
 refine W.seq (bn H fun N m0 H => bn H fun E z H => W.join (Jn x fun c l => Own c G (F) ∧ l = [(0, J a), (17, B E)]) ?_ ?_)
 ·clear H
  refine W.region (va (J a) (cl (c_hangul_in q a 4520 4607 m0) ?_))
  rintro v56 a0 i1 ⟨s, rfl⟩
  rcases bo (N) with d | d
  ·obtain rfl := orT d z
   exact vb d (ps (ps (va (B true) (va (B true) (wln ⟨a0, _, _, rfl, pt, us, s, rfl⟩)))))
  have g := orF d z
  refine vb d (wn (va (J a) (wn (bn g fun m o0 g => cl (c_hangul_in s a 55243 55291 o0) ?_))))
  rintro n1 b0 j1 ⟨T, rfl⟩
  obtain rfl := si g
  exact va (B m) (va (B m) (wln ⟨b0, _, _, rfl, pt, us, T, rfl⟩))
 rintro e_ w_ ⟨d0, c1, _, rfl, k1, rfl, t, rfl⟩
 refine nrm (cn H (fun q0 H => ?_) (fun q0 H => ?_))
 ·refine sr (va (I 11) (wln (W.ret (bkr (thr ?_)))))
  obtain rfl := si H
  exact r1 ⟨_, d0, rfl, rfl, pt, t, rfl⟩
 refine sr (va (J a) (bn H fun n s0 H => cl (c_hangul_Syllable t a s0) ?_))
 rintro p1 i m1 ⟨h, rfl⟩
 refine va (B (!n)) (va (B (!n)) (wln (cn H (fun t0 H => ?_) (fun t0 H => ?_))))
 ·refine sr (va (I 0) (wln (W.ret (bkr (thr ?_)))))
  obtain rfl := si H
  exact r1 ⟨_, i, rfl, rfl, pt, h, rfl⟩
 refine sr (va (J a) (va (J (w32 (a - 44032))) (va (J ((w32 (a - 44032)).tmod 28)) (va (B (((w32 (a - 44032)).tmod 28) == 0)) (va (B (((w32 (a - 44032)).tmod 28) == 0)) (wln (cn H (fun u0 H => ?_) (fun u0 H => ?_))))))))
 ·refine sr (va (I 12) (wln (W.ret (bkr (thr ?_)))))
  obtain rfl := si H
  exact r1 ⟨_, i, rfl, rfl, pt, h, rfl⟩
 refine W.skip (bkn (nrm (sr (va (I 13) (wln (W.ret ?_))))))
 obtain rfl := si H
 exact r1 ⟨_, i, rfl, rfl, pt, h, rfl⟩
def f_sort_Search__gcb_Of_1 (p0 : Int) (p1_0_0 : List (Int × Int × Int)) (p1_1_0 : Int) : Option (Int) :=
 (iter (σ := Int × Int) (τ := Int) ((p0 - 0).toNat + 1) (fun a =>
 if (decide (a.1 < a.2)) = true then
 (f_gcb_Of_1 (w64 ((IntKind.u64.wrap (w64 (a.1 + a.2))).fdiv (2 ^ 1))) p1_0_0 p1_1_0).bind fun b =>
 if (!b) = true then
 some (.inl ((w64 ((w64 ((IntKind.u64.wrap (w64 (a.1 + a.2))).fdiv (2 ^ 1))) + 1)), a.2))
 else
 some (.inl (a.1, (w64 ((IntKind.u64.wrap (w64 (a.1 + a.2))).fdiv (2 ^ 1)))))
 else
 some (.inr (a.1))) (0, p0)).bind fun c =>
 some c
theorem c_sort_Search__gcb_Of_1 {b1_0 : Nat} {b1_1 : Nat} (A : Own c0 G F) (b : Int) (p1_0_0 : List (Int × Int × Int)) (p1_1_0 : Int) {r : Int} (N : ∀ j u, ([v2] : List Value)[j]? = some u → Im c0 b1_0 (0 + j) u) (M : Sl RA3_i64 c0 v2 p1_0_0) (P : ∀ j u, ([J p1_1_0] : List Value)[j]? = some u → Im c0 b1_1 (0 + j) u) (H : f_sort_Search__gcb_Of_1 b p1_0_0 p1_1_0 = some r) :
    Calls prog 135 #[I b, .func (.func 136) #[] #[Q b1_0, Q b1_1]] c0.w (Post c0 fun c v => Own c G (F) ∧ v = I r) := by
 unfold f_sort_Search__gcb_Of_1 at H
 refine en func135 rfl rfl (sr (va (I 0) (wln (sr (va (I b) (va (I 0) (va (I b) (wln (W.seq (W.block (bn H fun g y k => lp y (fun a => Jn c0 fun c l => Own c G (F) ∧ l = [(1, .func (.func 136) #[] #[Q b1_0, Q b1_1]), (5, I a.1), (6, I a.2)]) (fun h ex e w => ex = .exit 0 ∧ (Jn c0 fun c l => Own c G (F) ∧ l = [(5, I h)]) e w) ?_ ?_ ?_)))))))))))
 ·clear k y
  intro a X q z H
  revert q z
  rintro E R ⟨D, Z, _, rfl, l7, rfl, o, rfl⟩
  refine W.seq (sr (va (I a.1) (va (I a.2) (va (B (decide (a.1 < a.2))) (wln (cn H (fun s H => ?_) (fun s H => ?_)))))))
  ·refine W.skip (nrm (W.block (sr (va (I a.1) (va (I a.2) (va (I (w64 (a.1 + a.2))) (va (.int .u64 (IntKind.u64.wrap (w64 (a.1 + a.2)))) (va (.int .u64 ((IntKind.u64.wrap (w64 (a.1 + a.2))).fdiv (2 ^ 1))) (va (I (w64 ((IntKind.u64.wrap (w64 (a.1 + a.2))).fdiv (2 ^ 1)))) (va (I (w64 ((IntKind.u64.wrap (w64 (a.1 + a.2))).fdiv (2 ^ 1)))) (wln (sr (va (.func (.func 136) #[] #[Q b1_0, Q b1_1]) (va (I (w64 ((IntKind.u64.wrap (w64 (a.1 + a.2))).fdiv (2 ^ 1)))) (bn H fun i t H => cl (c_gcb_Of_1 o (w64 ((IntKind.u64.wrap (w64 (a.1 + a.2))).fdiv (2 ^ 1))) p1_0_0 p1_1_0 (mm N) M.m (mm P) t) ?_)))))))))))))))
   rintro v20 f T ⟨d, rfl⟩
   refine va (B (!i)) (wln (cn H (fun x H => ?_) (fun x H => ?_)))
   ·refine W.region (va (I (w64 ((IntKind.u64.wrap (w64 (a.1 + a.2))).fdiv (2 ^ 1)))) (va (I (w64 ((w64 ((IntKind.u64.wrap (w64 (a.1 + a.2))).fdiv (2 ^ 1))) + 1))) (va (I (w64 ((w64 ((IntKind.u64.wrap (w64 (a.1 + a.2))).fdiv (2 ^ 1))) + 1))) (WL.nil (bkn ?_)))))
    obtain rfl := si H
    exact ⟨_, rfl, ⟨f, _, _, rfl, pt, us, d, rfl⟩⟩
   refine W.region (va (I (w64 ((IntKind.u64.wrap (w64 (a.1 + a.2))).fdiv (2 ^ 1)))) (va (I (w64 ((IntKind.u64.wrap (w64 (a.1 + a.2))).fdiv (2 ^ 1)))) (WL.nil (bkn ?_))))
   obtain rfl := si H
   exact ⟨_, rfl, ⟨f, _, _, rfl, pt, us, d, rfl⟩⟩
  refine W.exit (thx ?_)
  obtain rfl := si H
  exact ⟨_, rfl, rfl, ⟨D, _, _, rfl, pt, us, o, rfl⟩⟩
 ·exact ⟨c0, _, _, rfl, pt, us, A, rfl⟩
 rintro _ E R ⟨rfl, p, S, _, rfl, U, rfl, n, rfl⟩
 refine bke (nrm (sr (va (I g) (va (I g) (wln (W.ret ?_))))))
 obtain rfl := si k
 exact r1 ⟨_, p, rfl, rfl, pt, n, rfl⟩
def f_gcb_Of (p0 : Int) : Option (Int) :=
 (f_gcb_table).bind fun a =>
 (f_sort_Search__gcb_Of_1 (a.length : Int) a p0).bind fun b =>
 (andE (decide (b < (a.length : Int))) ((idx a b).bind fun d =>
 some (decide (d.1 ≤ (w64 p0))))).bind fun c =>
 if c = true then
 (idx a b).bind fun e =>
 some e.2.2
 else
 (f_hangul_Class p0).bind fun f =>
 some f
theorem c_gcb_Of (O0 : Own c0 G F) (i : Int) {r : Int} (H : f_gcb_Of i = some r) :
    Calls prog 107 #[J i] c0.w (Post c0 fun c v => Own c G (F) ∧ v = I r) := by
 unfold f_gcb_Of at H
 refine en func107 rfl rfl (sr (me (bx 21 [J i] O0) ?_))
 rintro v5 c4 l4 ⟨b1, rfl, O2, R⟩
 refine va (I 0) (wln (sr (bn H fun j h6 H => cl (c_gcb_table O2 h6) ?_)))
 rintro v7 h1 p1 ⟨_, u8, U, rfl, s⟩
 refine me (al 176 [Y] U) ?_
 rintro v19 i1 E ⟨y, rfl, X⟩
 obtain ⟨b, d, e, rfl⟩ := ((s.mono E)).form
 refine md (sC 176 0 (.slice b d e) [.slice b d e] 0 X ⟨s.m.one, trivial⟩) ?_
 rintro j1 v0 t
 refine wln (sr (vx (le1 0 underlying176 (t.on 0 rfl)) (vx (lnO 3 underlying176 s.m) ?_)))
 obtain ⟨k1, l0, q1, Z, g⟩ := t.frz 1 rfl (s.mono (E.trans v0))
 refine WL.gh l0 ?_
 obtain ⟨m1, m0, M, a0, n⟩ := Own.frzB 0 Z rfl
 refine WL.gh m0 ?_
 have b0 := a0.sD 2 [1]
 refine va (.func (.func 136) #[] #[Q y, Q b1]) (bn H fun a o0 H => cl (c_sort_Search__gcb_Of_1 b0 (j.length : Int) j i n g.m (mm R) o0) ?_)
 rintro v40 i0 N ⟨d0, rfl⟩
 refine va (I a) (wln (W.seq (W.seq (bn H fun P z H => W.join (Jn i0 fun c l => Own c G (es false RA3_i64 (.slice b d e) 179 u8 j :: F) ∧ l = [(1, Q b1), (3, Q y), (4, I a), (23, B P)]) ?_ ?_))))
 ·clear H
  refine rD [] (Kp G0 []) d0 ?_
  intro p w0 u
  have t1 : Kp G0 [] p := Kp.nil0
  refine ta 0 (I a) (tx 1 (fun k f => l1 underlying176 ((mm n) 0 _ rfl)) (tx 2 (fun k f => ln 3 underlying176 g.m) (ta 3 (B (decide (a < (j.length : Int)))) ?_)))
  rcases bo (decide (a < (j.length : Int))) with h | h
  ·have o := anT h z
   refine bn o fun q A o => AC.takeb 4 h rfl (by kernel_rfl) (by kernel_rfl) (fun k f => (by kernel_rfl)) (tx 5 (fun k f => l1 underlying176 ((mm n) 0 _ rfl)) (ta 6 (I a) ?_))
   obtain ⟨e1, q0, y0⟩ := Sl.at (g.mono (M.trans (N.trans w0))) (idx_get A)
   obtain rfl := q0
   refine tx 7 (fun k f => ix underlying176 g.m A) (ta 8 (.pointer (some ⟨sb (.slice b d e), so (.slice b d e) + a.toNat * 3, none⟩)) (tx 9 (fun k f => l1 underlying3 ((mm y0) 0 _ rfl)) (tx 10 (fun k f => l1 underlying21 ((mm R) 0 _ rfl)) (ta 11 (I (w64 i)) (ta 12 (B (decide (q.1 ≤ (w64 i)))) ?_)))))
   obtain rfl := si o
   exact ta 13 (B (decide (q.1 ≤ (w64 i)))) (dn (nrm ⟨p, _, _, rfl, pt, us, u, rfl⟩))
  obtain rfl := anF h z
  exact AC.takeb 4 h rfl (by kernel_rfl) (by kernel_rfl) (fun k f => (by kernel_rfl)) (tp 5 (tp 6 (tp 7 (tp 8 (tp 9 (tp 10 (tp 11 (tp 12 (ta 13 (B false) (dn (nrm ⟨p, _, _, rfl, pt, us, u, rfl⟩)))))))))))
 rintro e_ w_ ⟨j0, n1, _, rfl, x0, rfl, x, rfl⟩
 refine nrm (cn H (fun s0 H => ?_) (fun s0 H => ?_))
 ·refine sr (vx (l1 underlying176 ((mm n) 0 _ rfl)) (va (I a) (bn H fun S D H => ?_)))
  obtain ⟨f1, t0, z0⟩ := Sl.at (g.mono (M.trans (N.trans x0))) (idx_get D)
  obtain rfl := t0
  refine vx (ix underlying176 g.m D) (va (.pointer (some ⟨sb (.slice b d e), so (.slice b d e) + a.toNat * 3 + 2, none⟩)) (vx (l1 underlying3 (z0 2 _ rfl)) (va (I S.2.2) (wln (W.ret (thr ?_))))))
  obtain rfl := si H
  have e0 := x.sD 1 []
  exact r1 ⟨_, j0, rfl, rfl, pt, e0, rfl⟩
 refine W.skip (nrm (sr (vx (l1 underlying21 ((mm R) 0 _ rfl)) (bn H fun T u0 H => cl (c_hangul_Class x i u0) ?_))))
 rintro u1 k0 s1 ⟨f0, rfl⟩
 refine va (I T) (wln (W.ret ?_))
 obtain rfl := si H
 have g0 := f0.sD 1 []
 exact r1 ⟨_, k0, rfl, rfl, pt, g0, rfl⟩
def f_pict_Is_1 (p0 : Int) (q0_0 : List (Int × Int)) (q1_0 : Int) : Option (Bool) :=
 (idx q0_0 p0).bind fun a =>
 some (decide (a.2 ≥ q1_0))
theorem c_pict_Is_1 {d : Nat} {e : Nat} (o : Own c0 G F) (b : Int) (q0_0 : List (Int × Int)) (q1_0 : Int) {r : Bool} (s : ∀ j u, ([v2] : List Value)[j]? = some u → Im c0 d (0 + j) u) (k : Sl RA2_i32 c0 v2 q0_0) (t : ∀ j u, ([J q1_0] : List Value)[j]? = some u → Im c0 e (0 + j) u) (H : f_pict_Is_1 b q0_0 q1_0 = some r) :
    Calls prog 139 #[I b, Q d, Q e] c0.w (Post c0 fun c v => Own c G (F) ∧ v = B r) := by
 unfold f_pict_Is_1 at H
 refine en func139 rfl rfl (sr (va (B false) (wln (W.seq (rD [] (Kp G0 []) o ?_)))))
 intro h q p
 have y : Kp G0 [] h := Kp.nil0
 refine tx 0 (fun g a => l1 underlying180 ((mm s) 0 _ rfl)) (ta 1 (I b) (bn H fun f l H => ?_))
 obtain ⟨x, i, n⟩ := Sl.at (k.mono q) (idx_get l)
 obtain rfl := i
 refine tx 2 (fun g a => ix underlying180 k.m l) (ta 3 (.pointer (some ⟨sb v2, so v2 + b.toNat * 2 + 1, none⟩)) (tx 4 (fun g a => l1 underlying21 ((mm n) 1 _ rfl)) (tx 5 (fun g a => l1 underlying21 ((mm t) 0 _ rfl)) (ta 6 (B (decide (f.2 ≥ q1_0))) (ta 7 (B (decide (f.2 ≥ q1_0))) (dn (nrm (W.ret ?_))))))))
 obtain rfl := si H
 exact r1 ⟨_, h, rfl, rfl, pt, p, rfl⟩
def t_pict_table_81 : List (Int × Int) := [(169, 169), (174, 174), (8252, 8252), (8265, 8265), (8482, 8482), (8505, 8505), (8596, 8601), (8617, 8618), (8986, 8987), (9000, 9000), (9096, 9096), (9167, 9167), (9193, 9203), (9208, 9210), (9410, 9410), (9642, 9643), (9654, 9654), (9664, 9664), (9723, 9726), (9728, 9733), (9735, 9746), (9748, 9861), (9872, 9989), (9992, 10002), (10004, 10004), (10006, 10006), (10013, 10013), (10017, 10017), (10024, 10024), (10035, 10036), (10052, 10052), (10055, 10055), (10060, 10060), (10062, 10062), (10067, 10069), (10071, 10071), (10083, 10087), (10133, 10135), (10145, 10145), (10160, 10160), (10175, 10175), (10548, 10549), (11013, 11015), (11035, 11036), (11088, 11088), (11093, 11093), (12336, 12336), (12349, 12349), (12951, 12951), (12953, 12953), (126976, 127231), (127245, 127247), (127279, 127279), (127340, 127345), (127358, 127359), (127374, 127374), (127377, 127386), (127405, 127461), (127489, 127503), (127514, 127514), (127535, 127535), (127538, 127546), (127548, 127551), (127561, 127994), (128000, 128317), (128326, 128591), (128640, 128767), (128884, 128895), (128981, 129023), (129036, 129039), (129096, 129103), (129114, 129119), (129160, 129167), (129198, 129279), (129292, 129338), (129340, 129349), (129351, 129791), (130048, 131069)]
def f_pict_table  : Option (List (Int × Int)) :=
 some t_pict_table_81
theorem c_pict_table (d : Own c0 G F) {r : List (Int × Int)} (H : f_pict_table  = some r) :
    Calls prog 138 #[] c0.w (Post c0 fun c v => ∃ a b, Own c G (es true RA2_i32 a 182 b r :: F) ∧ v = a ∧ OA RA2_i32 c a b r) := by
 unfold f_pict_table at H
 refine en func138 rfl rfl (sr (va (Y) (wln (sr (va (.agg #[J 169, J 169]) (va (.agg #[J 174, J 174]) (va (.agg #[J 8252, J 8252]) (va (.agg #[J 8265, J 8265]) (va (.agg #[J 8482, J 8482]) (va (.agg #[J 8505, J 8505]) (va (.agg #[J 8596, J 8601]) (va (.agg #[J 8617, J 8618]) (va (.agg #[J 8986, J 8987]) (va (.agg #[J 9000, J 9000]) (va (.agg #[J 9096, J 9096]) (va (.agg #[J 9167, J 9167]) (va (.agg #[J 9193, J 9203]) (va (.agg #[J 9208, J 9210]) (va (.agg #[J 9410, J 9410]) (va (.agg #[J 9642, J 9643]) (va (.agg #[J 9654, J 9654]) (va (.agg #[J 9664, J 9664]) (va (.agg #[J 9723, J 9726]) (va (.agg #[J 9728, J 9733]) (va (.agg #[J 9735, J 9746]) (va (.agg #[J 9748, J 9861]) (va (.agg #[J 9872, J 9989]) (va (.agg #[J 9992, J 10002]) (va (.agg #[J 10004, J 10004]) (va (.agg #[J 10006, J 10006]) (va (.agg #[J 10013, J 10013]) (va (.agg #[J 10017, J 10017]) (va (.agg #[J 10024, J 10024]) (va (.agg #[J 10035, J 10036]) (va (.agg #[J 10052, J 10052]) (va (.agg #[J 10055, J 10055]) (va (.agg #[J 10060, J 10060]) (va (.agg #[J 10062, J 10062]) (va (.agg #[J 10067, J 10069]) (va (.agg #[J 10071, J 10071]) (va (.agg #[J 10083, J 10087]) (va (.agg #[J 10133, J 10135]) (va (.agg #[J 10145, J 10145]) (va (.agg #[J 10160, J 10160]) (va (.agg #[J 10175, J 10175]) (va (.agg #[J 10548, J 10549]) (va (.agg #[J 11013, J 11015]) (va (.agg #[J 11035, J 11036]) (va (.agg #[J 11088, J 11088]) (va (.agg #[J 11093, J 11093]) (va (.agg #[J 12336, J 12336]) (va (.agg #[J 12349, J 12349]) (va (.agg #[J 12951, J 12951]) (va (.agg #[J 12953, J 12953]) (va (.agg #[J 126976, J 127231]) (va (.agg #[J 127245, J 127247]) (va (.agg #[J 127279, J 127279]) (va (.agg #[J 127340, J 127345]) (va (.agg #[J 127358, J 127359]) (va (.agg #[J 127374, J 127374]) (va (.agg #[J 127377, J 127386]) (va (.agg #[J 127405, J 127461]) (va (.agg #[J 127489, J 127503]) (va (.agg #[J 127514, J 127514]) (va (.agg #[J 127535, J 127535]) (va (.agg #[J 127538, J 127546]) (va (.agg #[J 127548, J 127551]) (va (.agg #[J 127561, J 127994]) (va (.agg #[J 128000, J 128317]) (va (.agg #[J 128326, J 128591]) (va (.agg #[J 128640, J 128767]) (va (.agg #[J 128884, J 128895]) (va (.agg #[J 128981, J 129023]) (va (.agg #[J 129036, J 129039]) (va (.agg #[J 129096, J 129103]) (va (.agg #[J 129114, J 129119]) (va (.agg #[J 129160, J 129167]) (va (.agg #[J 129198, J 129279]) (va (.agg #[J 129292, J 129338]) (va (.agg #[J 129340, J 129349]) (va (.agg #[J 129351, J 129791]) (va (.agg #[J 130048, J 131069]) (me (Own.sl (R := RA2_i32) (E := 182) (ls := t_pict_table_81.map (fun x => [J x.1, J x.2])) (vs := (t_pict_table_81.map (fun x => [J x.1, J x.2])).flatten) (xs := t_pict_table_81) true d (Nat.succ_pos _) rfl (AllR.map _ (fun _ => rfl) _) (by kernel_rfl) (by kernel_rfl)) ?_)))))))))))))))))))))))))))))))))))))))))))))))))))))))))))))))))))))))))))))))))))
 rintro v5 f i ⟨h, e, g⟩
 refine va (v5) (wln (W.ret ?_))
 obtain rfl := si H
 exact r1 ⟨_, f, rfl, rfl, pt, v5, h, e, rfl, g⟩
def f_sort_Search__pict_Is_1 (p0 : Int) (p1_0_0 : List (Int × Int)) (p1_1_0 : Int) : Option (Int) :=
 (iter (σ := Int × Int) (τ := Int) ((p0 - 0).toNat + 1) (fun a =>
 if (decide (a.1 < a.2)) = true then
 (f_pict_Is_1 (w64 ((IntKind.u64.wrap (w64 (a.1 + a.2))).fdiv (2 ^ 1))) p1_0_0 p1_1_0).bind fun b =>
 if (!b) = true then
 some (.inl ((w64 ((w64 ((IntKind.u64.wrap (w64 (a.1 + a.2))).fdiv (2 ^ 1))) + 1)), a.2))
 else
 some (.inl (a.1, (w64 ((IntKind.u64.wrap (w64 (a.1 + a.2))).fdiv (2 ^ 1)))))
 else
 some (.inr (a.1))) (0, p0)).bind fun c =>
 some c
theorem c_sort_Search__pict_Is_1 {b1_0 : Nat} {b1_1 : Nat} (A : Own c0 G F) (b : Int) (p1_0_0 : List (Int × Int)) (p1_1_0 : Int) {r : Int} (N : ∀ j u, ([v2] : List Value)[j]? = some u → Im c0 b1_0 (0 + j) u) (M : Sl RA2_i32 c0 v2 p1_0_0) (P : ∀ j u, ([J p1_1_0] : List Value)[j]? = some u → Im c0 b1_1 (0 + j) u) (H : f_sort_Search__pict_Is_1 b p1_0_0 p1_1_0 = some r) :
    Calls prog 135 #[I b, .func (.func 139) #[] #[Q b1_0, Q b1_1]] c0.w (Post c0 fun c v => Own c G (F) ∧ v = I r) := by
 unfold f_sort_Search__pict_Is_1 at H
 refine en func135 rfl rfl (sr (va (I 0) (wln (sr (va (I b) (va (I 0) (va (I b) (wln (W.seq (W.block (bn H fun g y k => lp y (fun a => Jn c0 fun c l => Own c G (F) ∧ l = [(1, .func (.func 139) #[] #[Q b1_0, Q b1_1]), (5, I a.1), (6, I a.2)]) (fun h ex e w => ex = .exit 0 ∧ (Jn c0 fun c l => Own c G (F) ∧ l = [(5, I h)]) e w) ?_ ?_ ?_)))))))))))
 ·clear k y
  intro a X q z H
  revert q z
  rintro E R ⟨D, Z, _, rfl, l7, rfl, o, rfl⟩
  refine W.seq (sr (va (I a.1) (va (I a.2) (va (B (decide (a.1 < a.2))) (wln (cn H (fun s H => ?_) (fun s H => ?_)))))))
  ·refine W.skip (nrm (W.block (sr (va (I a.1) (va (I a.2) (va (I (w64 (a.1 + a.2))) (va (.int .u64 (IntKind.u64.wrap (w64 (a.1 + a.2)))) (va (.int .u64 ((IntKind.u64.wrap (w64 (a.1 + a.2))).fdiv (2 ^ 1))) (va (I (w64 ((IntKind.u64.wrap (w64 (a.1 + a.2))).fdiv (2 ^ 1)))) (va (I (w64 ((IntKind.u64.wrap (w64 (a.1 + a.2))).fdiv (2 ^ 1)))) (wln (sr (va (.func (.func 139) #[] #[Q b1_0, Q b1_1]) (va (I (w64 ((IntKind.u64.wrap (w64 (a.1 + a.2))).fdiv (2 ^ 1)))) (bn H fun i t H => cl (c_pict_Is_1 o (w64 ((IntKind.u64.wrap (w64 (a.1 + a.2))).fdiv (2 ^ 1))) p1_0_0 p1_1_0 (mm N) M.m (mm P) t) ?_)))))))))))))))
   rintro v20 f T ⟨d, rfl⟩
   refine va (B (!i)) (wln (cn H (fun x H => ?_) (fun x H => ?_)))
   ·refine W.region (va (I (w64 ((IntKind.u64.wrap (w64 (a.1 + a.2))).fdiv (2 ^ 1)))) (va (I (w64 ((w64 ((IntKind.u64.wrap (w64 (a.1 + a.2))).fdiv (2 ^ 1))) + 1))) (va (I (w64 ((w64 ((IntKind.u64.wrap (w64 (a.1 + a.2))).fdiv (2 ^ 1))) + 1))) (WL.nil (bkn ?_)))))
    obtain rfl := si H
    exact ⟨_, rfl, ⟨f, _, _, rfl, pt, us, d, rfl⟩⟩
   refine W.region (va (I (w64 ((IntKind.u64.wrap (w64 (a.1 + a.2))).fdiv (2 ^ 1)))) (va (I (w64 ((IntKind.u64.wrap (w64 (a.1 + a.2))).fdiv (2 ^ 1)))) (WL.nil (bkn ?_))))
   obtain rfl := si H
   exact ⟨_, rfl, ⟨f, _, _, rfl, pt, us, d, rfl⟩⟩
  refine W.exit (thx ?_)
  obtain rfl := si H
  exact ⟨_, rfl, rfl, ⟨D, _, _, rfl, pt, us, o, rfl⟩⟩
 ·exact ⟨c0, _, _, rfl, pt, us, A, rfl⟩
 rintro _ E R ⟨rfl, p, S, _, rfl, U, rfl, n, rfl⟩
 refine bke (nrm (sr (va (I g) (va (I g) (wln (W.ret ?_))))))
 obtain rfl := si k
 exact r1 ⟨_, p, rfl, rfl, pt, n, rfl⟩
def f_pict_Is (p0 : Int) : Option (Bool) :=
 (f_pict_table).bind fun a =>
 (f_sort_Search__pict_Is_1 (a.length : Int) a p0).bind fun b =>
 (andE (decide (b < (a.length : Int))) ((idx a b).bind fun d =>
 some (decide (d.1 ≤ p0)))).bind fun c =>
 some c
theorem c_pict_Is (O0 : Own c0 G F) (j : Int) {r : Bool} (H : f_pict_Is j = some r) :
    Calls prog 108 #[J j] c0.w (Post c0 fun c v => Own c G (F) ∧ v = B r) := by
 unfold f_pict_Is at H
 refine en func108 rfl rfl (sr (me (bx 21 [J j] O0) ?_))
 rintro v5 c4 l4 ⟨b1, rfl, O2, m3⟩
 refine va (B false) (wln (sr (bn H fun h h6 H => cl (c_pict_table O2 h6) ?_)))
 rintro v7 u0 a1 ⟨_, u8, D, rfl, s⟩
 refine me (al 180 [Y] D) ?_
 rintro v19 v0 z ⟨U, rfl, E⟩
 obtain ⟨d, e, f, rfl⟩ := ((s.mono z)).form
 refine md (sC 180 0 (.slice d e f) [.slice d e f] 0 E ⟨s.m.one, trivial⟩) ?_
 rintro w0 f0 t
 refine wln (sr (vx (le1 0 underlying180 (t.on 0 rfl)) (vx (lnO 3 underlying180 s.m) ?_)))
 obtain ⟨x0, a0, c1, M, n⟩ := t.frz 1 rfl (s.mono (z.trans f0))
 refine WL.gh a0 ?_
 obtain ⟨y0, b0, g0, N, q⟩ := Own.frzB 0 M rfl
 refine WL.gh b0 ?_
 have P := N.sD 2 [1]
 refine va (.func (.func 139) #[] #[Q U, Q b1]) (bn H fun a d0 H => cl (c_sort_Search__pict_Is_1 P (h.length : Int) h j q n.m (mm m3) d0) ?_)
 rintro v40 X h0 ⟨R, rfl⟩
 refine va (I a) (wln (W.seq (bn H fun A x H => W.join (Jn X fun c l => Own c G (es false RA2_i32 (.slice d e f) 182 u8 h :: F) ∧ l = [(2, B A)]) ?_ ?_)))
 ·clear H
  refine rD [] (Kp G0 []) R ?_
  intro p i0 u
  have e1 : Kp G0 [] p := Kp.nil0
  refine ta 0 (I a) (tx 1 (fun i b => l1 underlying180 ((mm q) 0 _ rfl)) (tx 2 (fun i b => ln 3 underlying180 n.m) (ta 3 (B (decide (a < (h.length : Int)))) ?_)))
  rcases bo (decide (a < (h.length : Int))) with g | g
  ·have o := anT g x
   refine bn o fun k y o => AC.takeb 4 g rfl (by kernel_rfl) (by kernel_rfl) (fun i b => (by kernel_rfl)) (tx 5 (fun i b => l1 underlying180 ((mm q) 0 _ rfl)) (ta 6 (I a) ?_))
   obtain ⟨s0, e0, k0⟩ := Sl.at (n.mono (g0.trans (h0.trans i0))) (idx_get y)
   obtain rfl := e0
   refine tx 7 (fun i b => ix underlying180 n.m y) (ta 8 (.pointer (some ⟨sb (.slice d e f), so (.slice d e f) + a.toNat * 2, none⟩)) (tx 9 (fun i b => l1 underlying21 ((mm k0) 0 _ rfl)) (tx 10 (fun i b => l1 underlying21 ((mm m3) 0 _ rfl)) (ta 11 (B (decide (k.1 ≤ j))) ?_))))
   obtain rfl := si o
   exact ta 12 (B (decide (k.1 ≤ j))) (ta 13 (B (decide (k.1 ≤ j))) (dn (nrm ⟨p, _, _, rfl, pt, us, u, rfl⟩)))
  obtain rfl := anF g x
  exact AC.takeb 4 g rfl (by kernel_rfl) (by kernel_rfl) (fun i b => (by kernel_rfl)) (tp 5 (tp 6 (tp 7 (tp 8 (tp 9 (tp 10 (tp 11 (ta 12 (B false) (ta 13 (B false) (dn (nrm ⟨p, _, _, rfl, pt, us, u, rfl⟩)))))))))))
 rintro e_ w_ ⟨Z, z0, _, rfl, d1, rfl, S, rfl⟩
 refine nrm (W.ret ?_)
 obtain rfl := si H
 have T := S.sD 1 []
 exact r1 ⟨_, Z, rfl, rfl, pt, T, rfl⟩
def f_conj_Of_1 (p0 : Int) (q0_0 : List (Int × Int × Int)) (q1_0 : Int) : Option (Bool) :=
 (idx q0_0 p0).bind fun a =>
 some (decide (a.2.1 ≥ (w64 q1_0)))
theorem c_conj_Of_1 {d : Nat} {e : Nat} (o : Own c0 G F) (b : Int) (q0_0 : List (Int × Int × Int)) (q1_0 : Int) {r : Bool} (s : ∀ j u, ([v2] : List Value)[j]? = some u → Im c0 d (0 + j) u) (k : Sl RA3_i64 c0 v2 q0_0) (t : ∀ j u, ([J q1_0] : List Value)[j]? = some u → Im c0 e (0 + j) u) (H : f_conj_Of_1 b q0_0 q1_0 = some r) :
    Calls prog 141 #[I b, Q d, Q e] c0.w (Post c0 fun c v => Own c G (F) ∧ v = B r) := by
 unfold f_conj_Of_1 at H
 refine en func141 rfl rfl (sr (va (B false) (wln (W.seq (rD [] (Kp G0 []) o ?_)))))
 intro h q p
 have y : Kp G0 [] h := Kp.nil0
 refine tx 0 (fun g a => l1 underlying176 ((mm s) 0 _ rfl)) (ta 1 (I b) (bn H fun f l H => ?_))
 obtain ⟨x, i, n⟩ := Sl.at (k.mono q) (idx_get l)
 obtain rfl := i
 refine tx 2 (fun g a => ix underlying176 k.m l) (ta 3 (.pointer (some ⟨sb v2, so v2 + b.toNat * 3 + 1, none⟩)) (tx 4 (fun g a => l1 underlying3 ((mm n) 1 _ rfl)) (tx 5 (fun g a => l1 underlying21 ((mm t) 0 _ rfl)) (ta 6 (I (w64 q1_0)) (ta 7 (B (decide (f.2.1 ≥ (w64 q1_0)))) (ta 8 (B (decide (f.2.1 ≥ (w64 q1_0)))) (dn (nrm (W.ret ?_)))))))))
 obtain rfl := si H
 exact r1 ⟨_, h, rfl, rfl, pt, p, rfl⟩
def t_conj_table_53 : List (Int × Int × Int) := [(768, 879, 3), (1155, 1159, 3), (1425, 1469, 3), (1552, 1562, 3), (1611, 1631, 3), (2325, 2361, 1), (2364, 2364, 3), (2381, 2381, 2), (2385, 2388, 3), (2392, 2399, 1), (2424, 2431, 1), (2453, 2472, 1), (2474, 2480, 1), (2482, 2482, 1), (2486, 2489, 1), (2492, 2492, 3), (2509, 2509, 2), (2524, 2525, 1), (2527, 2527, 1), (2544, 2545, 1), (2709, 2728, 1), (2730, 2736, 1), (2738, 2739, 1), (2741, 2745, 1), (2748, 2748, 3), (2765, 2765, 2), (2809, 2809, 1), (2837, 2856, 1), (2858, 2864, 1), (2866, 2867, 1), (2869, 2873, 1), (2876, 2876, 3), (2893, 2893, 2), (2908, 2909, 1), (2911, 2911, 1), (2929, 2929, 1), (3093, 3112, 1), (3114, 3129, 1), (3132, 3132, 3), (3149, 3149, 2), (3160, 3162, 1), (3349, 3386, 1), (3405, 3405, 2), (6832, 6845, 3), (7616, 7679, 3), (8205, 8205, 3), (8400, 8412, 3), (12330, 12335, 3), (12441, 12442, 3), (65056, 65071, 3)]
def f_conj_table  : Option (List (Int × Int × Int)) :=
 some t_conj_table_53
theorem c_conj_table (d : Own c0 G F) {r : List (Int × Int × Int)} (H : f_conj_table  = some r) :
    Calls prog 140 #[] c0.w (Post c0 fun c v => ∃ a b, Own c G (es true RA3_i64 a 179 b r :: F) ∧ v = a ∧ OA RA3_i64 c a b r) := by
 unfold f_conj_table at H
 refine en func140 rfl rfl (sr (va (Y) (wln (sr (va (.agg #[I 768, I 879, I 3]) (va (.agg #[I 1155, I 1159, I 3]) (va (.agg #[I 1425, I 1469, I 3]) (va (.agg #[I 1552, I 1562, I 3]) (va (.agg #[I 1611, I 1631, I 3]) (va (.agg #[I 2325, I 2361, I 1]) (va (.agg #[I 2364, I 2364, I 3]) (va (.agg #[I 2381, I 2381, I 2]) (va (.agg #[I 2385, I 2388, I 3]) (va (.agg #[I 2392, I 2399, I 1]) (va (.agg #[I 2424, I 2431, I 1]) (va (.agg #[I 2453, I 2472, I 1]) (va (.agg #[I 2474, I 2480, I 1]) (va (.agg #[I 2482, I 2482, I 1]) (va (.agg #[I 2486, I 2489, I 1]) (va (.agg #[I 2492, I 2492, I 3]) (va (.agg #[I 2509, I 2509, I 2]) (va (.agg #[I 2524, I 2525, I 1]) (va (.agg #[I 2527, I 2527, I 1]) (va (.agg #[I 2544, I 2545, I 1]) (va (.agg #[I 2709, I 2728, I 1]) (va (.agg #[I 2730, I 2736, I 1]) (va (.agg #[I 2738, I 2739, I 1]) (va (.agg #[I 2741, I 2745, I 1]) (va (.agg #[I 2748, I 2748, I 3]) (va (.agg #[I 2765, I 2765, I 2]) (va (.agg #[I 2809, I 2809, I 1]) (va (.agg #[I 2837, I 2856, I 1]) (va (.agg #[I 2858, I 2864, I 1]) (va (.agg #[I 2866, I 2867, I 1]) (va (.agg #[I 2869, I 2873, I 1]) (va (.agg #[I 2876, I 2876, I 3]) (va (.agg #[I 2893, I 2893, I 2]) (va (.agg #[I 2908, I 2909, I 1]) (va (.agg #[I 2911, I 2911, I 1]) (va (.agg #[I 2929, I 2929, I 1]) (va (.agg #[I 3093, I 3112, I 1]) (va (.agg #[I 3114, I 3129, I 1]) (va (.agg #[I 3132, I 3132, I 3]) (va (.agg #[I 3149, I 3149, I 2]) (va (.agg #[I 3160, I 3162, I 1]) (va (.agg #[I 3349, I 3386, I 1]) (va (.agg #[I 3405, I 3405, I 2]) (va (.agg #[I 6832, I 6845, I 3]) (va (.agg #[I 7616, I 7679, I 3]) (va (.agg #[I 8205, I 8205, I 3]) (va (.agg #[I 8400, I 8412, I 3]) (va (.agg #[I 12330, I 12335, I 3]) (va (.agg #[I 12441, I 12442, I 3]) (va (.agg #[I 65056, I 65071, I 3]) (me (Own.sl (R := RA3_i64) (E := 179) (ls := t_conj_table_53.map (fun x => [I x.1, I x.2.1, I x.2.2])) (vs := (t_conj_table_53.map (fun x => [I x.1, I x.2.1, I x.2.2])).flatten) (xs := t_conj_table_53) true d (Nat.succ_pos _) rfl (AllR.map _ (fun _ => rfl) _) (by kernel_rfl) (by kernel_rfl)) ?_)))))))))))))))))))))))))))))))))))))))))))))))))))))))
 rintro v5 f i ⟨h, e, g⟩
 refine va (v5) (wln (W.ret ?_))
 obtain rfl := si H
 exact r1 ⟨_, f, rfl, rfl, pt, v5, h, e, rfl, g⟩
def f_sort_Search__conj_Of_1 (p0 : Int) (p1_0_0 : List (Int × Int × Int)) (p1_1_0 : Int) : Option (Int) :=
 (iter (σ := Int × Int) (τ := Int) ((p0 - 0).toNat + 1) (fun a =>
 if (decide (a.1 < a.2)) = true then
 (f_conj_Of_1 (w64 ((IntKind.u64.wrap (w64 (a.1 + a.2))).fdiv (2 ^ 1))) p1_0_0 p1_1_0).bind fun b =>
 if (!b) = true then
 some (.inl ((w64 ((w64 ((IntKind.u64.wrap (w64 (a.1 + a.2))).fdiv (2 ^ 1))) + 1)), a.2))
 else
 some (.inl (a.1, (w64 ((IntKind.u64.wrap (w64 (a.1 + a.2))).fdiv (2 ^ 1)))))
 else
 some (.inr (a.1))) (0, p0)).bind fun c =>
 some c
theorem c_sort_Search__conj_Of_1 {b1_0 : Nat} {b1_1 : Nat} (A : Own c0 G F) (b : Int) (p1_0_0 : List (Int × Int × Int)) (p1_1_0 : Int) {r : Int} (N : ∀ j u, ([v2] : List Value)[j]? = some u → Im c0 b1_0 (0 + j) u) (M : Sl RA3_i64 c0 v2 p1_0_0) (P : ∀ j u, ([J p1_1_0] : List Value)[j]? = some u → Im c0 b1_1 (0 + j) u) (H : f_sort_Search__conj_Of_1 b p1_0_0 p1_1_0 = some r) :
    Calls prog 135 #[I b, .func (.func 141) #[] #[Q b1_0, Q b1_1]] c0.w (Post c0 fun c v => Own c G (F) ∧ v = I r) := by
 unfold f_sort_Search__conj_Of_1 at H
 refine en func135 rfl rfl (sr (va (I 0) (wln (sr (va (I b) (va (I 0) (va (I b) (wln (W.seq (W.block (bn H fun g y k => lp y (fun a => Jn c0 fun c l => Own c G (F) ∧ l = [(1, .func (.func 141) #[] #[Q b1_0, Q b1_1]), (5, I a.1), (6, I a.2)]) (fun h ex e w => ex = .exit 0 ∧ (Jn c0 fun c l => Own c G (F) ∧ l = [(5, I h)]) e w) ?_ ?_ ?_)))))))))))
 ·clear k y
  intro a X q z H
  revert q z
  rintro E R ⟨D, Z, _, rfl, l7, rfl, o, rfl⟩
  refine W.seq (sr (va (I a.1) (va (I a.2) (va (B (decide (a.1 < a.2))) (wln (cn H (fun s H => ?_) (fun s H => ?_)))))))
  ·refine W.skip (nrm (W.block (sr (va (I a.1) (va (I a.2) (va (I (w64 (a.1 + a.2))) (va (.int .u64 (IntKind.u64.wrap (w64 (a.1 + a.2)))) (va (.int .u64 ((IntKind.u64.wrap (w64 (a.1 + a.2))).fdiv (2 ^ 1))) (va (I (w64 ((IntKind.u64.wrap (w64 (a.1 + a.2))).fdiv (2 ^ 1)))) (va (I (w64 ((IntKind.u64.wrap (w64 (a.1 + a.2))).fdiv (2 ^ 1)))) (wln (sr (va (.func (.func 141) #[] #[Q b1_0, Q b1_1]) (va (I (w64 ((IntKind.u64.wrap (w64 (a.1 + a.2))).fdiv (2 ^ 1)))) (bn H fun i t H => cl (c_conj_Of_1 o (w64 ((IntKind.u64.wrap (w64 (a.1 + a.2))).fdiv (2 ^ 1))) p1_0_0 p1_1_0 (mm N) M.m (mm P) t) ?_)))))))))))))))
   rintro v20 f T ⟨d, rfl⟩
   refine va (B (!i)) (wln (cn H (fun x H => ?_) (fun x H => ?_)))
   ·refine W.region (va (I (w64 ((IntKind.u64.wrap (w64 (a.1 + a.2))).fdiv (2 ^ 1)))) (va (I (w64 ((w64 ((IntKind.u64.wrap (w64 (a.1 + a.2))).fdiv (2 ^ 1))) + 1))) (va (I (w64 ((w64 ((IntKind.u64.wrap (w64 (a.1 + a.2))).fdiv (2 ^ 1))) + 1))) (WL.nil (bkn ?_)))))
    obtain rfl := si H
    exact ⟨_, rfl, ⟨f, _, _, rfl, pt, us, d, rfl⟩⟩
   refine W.region (va (I (w64 ((IntKind.u64.wrap (w64 (a.1 + a.2))).fdiv (2 ^ 1)))) (va (I (w64 ((IntKind.u64.wrap (w64 (a.1 + a.2))).fdiv (2 ^ 1)))) (WL.nil (bkn ?_))))
   obtain rfl := si H
   exact ⟨_, rfl, ⟨f, _, _, rfl, pt, us, d, rfl⟩⟩
  refine W.exit (thx ?_)
  obtain rfl := si H
  exact ⟨_, rfl, rfl, ⟨D, _, _, rfl, pt, us, o, rfl⟩⟩
 ·exact ⟨c0, _, _, rfl, pt, us, A, rfl⟩
 rintro _ E R ⟨rfl, p, S, _, rfl, U, rfl, n, rfl⟩
 refine bke (nrm (sr (va (I g) (va (I g) (wln (W.ret ?_))))))
 obtain rfl := si k
 exact r1 ⟨_, p, rfl, rfl, pt, n, rfl⟩
def f_conj_Of (p0 : Int) : Option (Int) :=
 (f_conj_table).bind fun a =>
 (f_sort_Search__conj_Of_1 (a.length : Int) a p0).bind fun b =>
 (orE (b == (a.length : Int)) ((idx a b).bind fun d =>
 some (decide (d.1 > (w64 p0))))).bind fun c =>
 if c = true then
 some 0
 else
 (idx a b).bind fun e =>
 some e.2.2
theorem c_conj_Of (O0 : Own c0 G F) (k : Int) {r : Int} (H : f_conj_Of k = some r) :
    Calls prog 109 #[J k] c0.w (Post c0 fun c v => Own c G (F) ∧ v = I r) := by
 unfold f_conj_Of at H
 refine en func109 rfl rfl (sr (me (bx 21 [J k] O0) ?_))
 rintro v5 c4 l4 ⟨b1, rfl, O2, m3⟩
 refine va (I 0) (wln (sr (bn H fun i h6 H => cl (c_conj_table O2 h6) ?_)))
 rintro v7 d1 j1 ⟨_, u8, T, rfl, s⟩
 refine me (al 176 [Y] T) ?_
 rintro v19 e1 M ⟨y, rfl, U⟩
 obtain ⟨b, d, e, rfl⟩ := ((s.mono M)).form
 refine md (sC 176 0 (.slice b d e) [.slice b d e] 0 U ⟨s.m.one, trivial⟩) ?_
 rintro f1 m0 t
 refine wln (sr (vx (le1 0 underlying176 (t.on 0 rfl)) (vx (lnO 3 underlying176 s.m) ?_)))
 obtain ⟨g1, g0, k1, X, g⟩ := t.frz 1 rfl (s.mono (M.trans m0))
 refine WL.gh g0 ?_
 obtain ⟨h1, h0, N, Z, n⟩ := Own.frzB 0 X rfl
 refine WL.gh h0 ?_
 have a0 := Z.sD 2 [1]
 refine va (.func (.func 141) #[] #[Q y, Q b1]) (bn H fun a i0 H => cl (c_sort_Search__conj_Of_1 a0 (i.length : Int) i k n g.m (mm m3) i0) ?_)
 rintro v40 f0 P ⟨b0, rfl⟩
 refine va (I a) (wln (W.seq (W.seq (bn H fun R A H => W.join (Jn f0 fun c l => Own c G (es false RA3_i64 (.slice b d e) 179 u8 i :: F) ∧ l = [(3, Q y), (4, I a), (23, B R)]) ?_ ?_))))
 ·clear H
  refine rD [] (Kp G0 []) b0 ?_
  intro p o0 u
  have m1 : Kp G0 [] p := Kp.nil0
  refine ta 0 (I a) (tx 1 (fun j f => l1 underlying176 ((mm n) 0 _ rfl)) (tx 2 (fun j f => ln 3 underlying176 g.m) (ta 3 (B (a == (i.length : Int))) ?_)))
  rcases bo (a == (i.length : Int)) with h | h
  ·obtain rfl := orT h A
   exact AC.takeb 4 h rfl (by kernel_rfl) (by kernel_rfl) (fun j f => (by kernel_rfl)) (tp 5 (tp 6 (tp 7 (tp 8 (tp 9 (tp 10 (tp 11 (tp 12 (ta 13 (B true) (dn (nrm ⟨p, _, _, rfl, pt, us, u, rfl⟩)))))))))))
  have o := orF h A
  refine bn o fun q D o => AC.takeb 4 h rfl (by kernel_rfl) (by kernel_rfl) (fun j f => (by kernel_rfl)) (tx 5 (fun j f => l1 underlying176 ((mm n) 0 _ rfl)) (ta 6 (I a) ?_))
  obtain ⟨z0, j0, t0⟩ := Sl.at (g.mono (N.trans (P.trans o0))) (idx_get D)
  obtain rfl := j0
  refine tx 7 (fun j f => ix underlying176 g.m D) (ta 8 (.pointer (some ⟨sb (.slice b d e), so (.slice b d e) + a.toNat * 3, none⟩)) (tx 9 (fun j f => l1 underlying3 ((mm t0) 0 _ rfl)) (tx 10 (fun j f => l1 underlying21 ((mm m3) 0 _ rfl)) (ta 11 (I (w64 k)) (ta 12 (B (decide (q.1 > (w64 k)))) ?_)))))
  obtain rfl := si o
  exact ta 13 (B (decide (q.1 > (w64 k)))) (dn (nrm ⟨p, _, _, rfl, pt, us, u, rfl⟩))
 rintro e_ w_ ⟨z, i1, _, rfl, q0, rfl, x, rfl⟩
 refine nrm (cn H (fun k0 H => ?_) (fun k0 H => ?_))
 ·refine sr (va (I 0) (wln (W.ret (thr ?_))))
  obtain rfl := si H
  have d0 := x.sD 1 []
  exact r1 ⟨_, z, rfl, rfl, pt, d0, rfl⟩
 refine W.skip (nrm (sr (vx (l1 underlying176 ((mm n) 0 _ rfl)) (va (I a) (bn H fun S E H => ?_)))))
 obtain ⟨a1, l0, u0⟩ := Sl.at (g.mono (N.trans (P.trans q0))) (idx_get E)
 obtain rfl := l0
 refine vx (ix underlying176 g.m E) (va (.pointer (some ⟨sb (.slice b d e), so (.slice b d e) + a.toNat * 3 + 2, none⟩)) (vx (l1 underlying3 (u0 2 _ rfl)) (va (I S.2.2) (wln (W.ret ?_)))))
 obtain rfl := si H
 have e0 := x.sD 1 []
 exact r1 ⟨_, z, rfl, rfl, pt, e0, rfl⟩
def f_east_Of_1 (p0 : Int) (q0_0 : List (Int × Int × Int)) (q1_0 : Int) : Option (Bool) :=
 (idx q0_0 p0).bind fun a =>
 some (decide (a.2.1 ≥ (w64 q1_0)))
theorem c_east_Of_1 {d : Nat} {e : Nat} (o : Own c0 G F) (b : Int) (q0_0 : List (Int × Int × Int)) (q1_0 : Int) {r : Bool} (s : ∀ j u, ([v2] : List Value)[j]? = some u → Im c0 d (0 + j) u) (k : Sl RA3_i64 c0 v2 q0_0) (t : ∀ j u, ([J q1_0] : List Value)[j]? = some u → Im c0 e (0 + j) u) (H : f_east_Of_1 b q0_0 q1_0 = some r) :
    Calls prog 143 #[I b, Q d, Q e] c0.w (Post c0 fun c v => Own c G (F) ∧ v = B r) := by
 unfold f_east_Of_1 at H
 refine en func143 rfl rfl (sr (va (B false) (wln (W.seq (rD [] (Kp G0 []) o ?_)))))
 intro h q p
 have y : Kp G0 [] h := Kp.nil0
 refine tx 0 (fun g a => l1 underlying176 ((mm s) 0 _ rfl)) (ta 1 (I b) (bn H fun f l H => ?_))
 obtain ⟨x, i, n⟩ := Sl.at (k.mono q) (idx_get l)
 obtain rfl := i
 refine tx 2 (fun g a => ix underlying176 k.m l) (ta 3 (.pointer (some ⟨sb v2, so v2 + b.toNat * 3 + 1, none⟩)) (tx 4 (fun g a => l1 underlying3 ((mm n) 1 _ rfl)) (tx 5 (fun g a => l1 underlying21 ((mm t) 0 _ rfl)) (ta 6 (I (w64 q1_0)) (ta 7 (B (decide (f.2.1 ≥ (w64 q1_0)))) (ta 8 (B (decide (f.2.1 ≥ (w64 q1_0)))) (dn (nrm (W.ret ?_)))))))))
 obtain rfl := si H
 exact r1 ⟨_, h, rfl, rfl, pt, p, rfl⟩
def t_east_table_122 : List (Int × Int × Int) := [(4352, 4447, 1), (8361, 8361, 3), (8986, 8987, 1), (9001, 9002, 1), (9193, 9196, 1), (9200, 9200, 1), (9203, 9203, 1), (9725, 9726, 1), (9748, 9749, 1), (9800, 9811, 1), (9855, 9855, 1), (9875, 9875, 1), (9889, 9889, 1), (9898, 9899, 1), (9917, 9918, 1), (9924, 9925, 1), (9934, 9934, 1), (9940, 9940, 1), (9962, 9962, 1), (9970, 9971, 1), (9973, 9973, 1), (9978, 9978, 1), (9981, 9981, 1), (9989, 9989, 1), (9994, 9995, 1), (10024, 10024, 1), (10060, 10060, 1), (10062, 10062, 1), (10067, 10069, 1), (10071, 10071, 1), (10133, 10135, 1), (10160, 10160, 1), (10175, 10175, 1), (11035, 11036, 1), (11088, 11088, 1), (11093, 11093, 1), (11904, 11929, 1), (11931, 12019, 1), (12032, 12245, 1), (12272, 12287, 1), (12288, 12288, 2), (12289, 12350, 1), (12353, 12438, 1), (12441, 12543, 1), (12549, 12591, 1), (12593, 12686, 1), (12688, 12771, 1), (12784, 12830, 1), (12832, 12871, 1), (12880, 19903, 1), (19968, 42124, 1), (42128, 42182, 1), (43360, 43388, 1), (44032, 55203, 1), (63744, 64255, 1), (65040, 65049, 1), (65072, 65106, 1), (65108, 65126, 1), (65128, 65131, 1), (65281, 65376, 2), (65377, 65470, 3), (65474, 65479, 3), (65482, 65487, 3), (65490, 65495, 3), (65498, 65500, 3), (65504, 65510, 2), (65512, 65518, 3), (94176, 94180, 1), (94208, 100343, 1), (100352, 101589, 1), (110592, 110882, 1), (126980, 126980, 1), (127183, 127183, 1), (127374, 127374, 1), (127377, 127386, 1), (127488, 127490, 1), (127504, 127547, 1), (127552, 127560, 1), (127568, 127569, 1), (127584, 127589, 1), (127744, 127776, 1), (127789, 127797, 1), (127799, 127868, 1), (127870, 127891, 1), (127904, 127946, 1), (127951, 127955, 1), (127968, 127984, 1), (127988, 127988, 1), (127992, 128062, 1), (128064, 128064, 1), (128066, 128252, 1), (128255, 128317, 1), (128331, 128334, 1), (128336, 128359, 1), (128378, 128378, 1), (128405, 128406, 1), (128420, 128420, 1), (128507, 128591, 1), (128640, 128709, 1), (128716, 128716, 1), (128720, 128722, 1), (128725, 128727, 1), (128732, 128735, 1), (128747, 128748, 1), (128756, 128764, 1), (128992, 129003, 1), (129008, 129008, 1), (129292, 129338, 1), (129340, 129349, 1), (129351, 129535, 1), (129648, 129660, 1), (129664, 129672, 1), (129680, 129725, 1), (129727, 129733, 1), (129742, 129755, 1), (129760, 129768, 1), (129776, 129784, 1), (131072, 196605, 1), (196608, 262141, 1)]
def f_east_table  : Option (List (Int × Int × Int)) :=
 some t_east_table_122
theorem c_east_table (d : Own c0 G F) {r : List (Int × Int × Int)} (H : f_east_table  = some r) :
    Calls prog 142 #[] c0.w (Post c0 fun c v => ∃ a b, Own c G (es true RA3_i64 a 179 b r :: F) ∧ v = a ∧ OA RA3_i64 c a b r) := by
 unfold f_east_table at H
 refine en func142 rfl rfl (sr (va (Y) (wln (sr (va (.agg #[I 4352, I 4447, I 1]) (va (.agg #[I 8361, I 8361, I 3]) (va (.agg #[I 8986, I 8987, I 1]) (va (.agg #[I 9001, I 9002, I 1]) (va (.agg #[I 9193, I 9196, I 1]) (va (.agg #[I 9200, I 9200, I 1]) (va (.agg #[I 9203, I 9203, I 1]) (va (.agg #[I 9725, I 9726, I 1]) (va (.agg #[I 9748, I 9749, I 1]) (va (.agg #[I 9800, I 9811, I 1]) (va (.agg #[I 9855, I 9855, I 1]) (va (.agg #[I 9875, I 9875, I 1]) (va (.agg #[I 9889, I 9889, I 1]) (va (.agg #[I 9898, I 9899, I 1]) (va (.agg #[I 9917, I 9918, I 1]) (va (.agg #[I 9924, I 9925, I 1]) (va (.agg #[I 9934, I 9934, I 1]) (va (.agg #[I 9940, I 9940, I 1]) (va (.agg #[I 9962, I 9962, I 1]) (va (.agg #[I 9970, I 9971, I 1]) (va (.agg #[I 9973, I 9973, I 1]) (va (.agg #[I 9978, I 9978, I 1]) (va (.agg #[I 9981, I 9981, I 1]) (va (.agg #[I 9989, I 9989, I 1]) (va (.agg #[I 9994, I 9995, I 1]) (va (.agg #[I 10024, I 10024, I 1]) (va (.agg #[I 10060, I 10060, I 1]) (va (.agg #[I 10062, I 10062, I 1]) (va (.agg #[I 10067, I 10069, I 1]) (va (.agg #[I 10071, I 10071, I 1]) (va (.agg #[I 10133, I 10135, I 1]) (va (.agg #[I 10160, I 10160, I 1]) (va (.agg #[I 10175, I 10175, I 1]) (va (.agg #[I 11035, I 11036, I 1]) (va (.agg #[I 11088, I 11088, I 1]) (va (.agg #[I 11093, I 11093, I 1]) (va (.agg #[I 11904, I 11929, I 1]) (va (.agg #[I 11931, I 12019, I 1]) (va (.agg #[I 12032, I 12245, I 1]) (va (.agg #[I 12272, I 12287, I 1]) (va (.agg #[I 12288, I 12288, I 2]) (va (.agg #[I 12289, I 12350, I 1]) (va (.agg #[I 12353, I 12438, I 1]) (va (.agg #[I 12441, I 12543, I 1]) (va (.agg #[I 12549, I 12591, I 1]) (va (.agg #[I 12593, I 12686, I 1]) (va (.agg #[I 12688, I 12771, I 1]) (va (.agg #[I 12784, I 12830, I 1]) (va (.agg #[I 12832, I 12871, I 1]) (va (.agg #[I 12880, I 19903, I 1]) (va (.agg #[I 19968, I 42124, I 1]) (va (.agg #[I 42128, I 42182, I 1]) (va (.agg #[I 43360, I 43388, I 1]) (va (.agg #[I 44032, I 55203, I 1]) (va (.agg #[I 63744, I 64255, I 1]) (va (.agg #[I 65040, I 65049, I 1]) (va (.agg #[I 65072, I 65106, I 1]) (va (.agg #[I 65108, I 65126, I 1]) (va (.agg #[I 65128, I 65131, I 1]) (va (.agg #[I 65281, I 65376, I 2]) (va (.agg #[I 65377, I 65470, I 3]) (va (.agg #[I 65474, I 65479, I 3]) (va (.agg #[I 65482, I 65487, I 3]) (va (.agg #[I 65490, I 65495, I 3]) (va (.agg #[I 65498, I 65500, I 3]) (va (.agg #[I 65504, I 65510, I 2]) (va (.agg #[I 65512, I 65518, I 3]) (va (.agg #[I 94176, I 94180, I 1]) (va (.agg #[I 94208, I 100343, I 1]) (va (.agg #[I 100352, I 101589, I 1]) (va (.agg #[I 110592, I 110882, I 1]) (va (.agg #[I 126980, I 126980, I 1]) (va (.agg #[I 127183, I 127183, I 1]) (va (.agg #[I 127374, I 127374, I 1]) (va (.agg #[I 127377, I 127386, I 1]) (va (.agg #[I 127488, I 127490, I 1]) (va (.agg #[I 127504, I 127547, I 1]) (va (.agg #[I 127552, I 127560, I 1]) (va (.agg #[I 127568, I 127569, I 1]) (va (.agg #[I 127584, I 127589, I 1]) (va (.agg #[I 127744, I 127776, I 1]) (va (.agg #[I 127789, I 127797, I 1]) (va (.agg #[I 127799, I 127868, I 1]) (va (.agg #[I 127870, I 127891, I 1]) (va (.agg #[I 127904, I 127946, I 1]) (va (.agg #[I 127951, I 127955, I 1]) (va (.agg #[I 127968, I 127984, I 1]) (va (.agg #[I 127988, I 127988, I 1]) (va (.agg #[I 127992, I 128062, I 1]) (va (.agg #[I 128064, I 128064, I 1]) (va (.agg #[I 128066, I 128252, I 1]) (va (.agg #[I 128255, I 128317, I 1]) (va (.agg #[I 128331, I 128334, I 1]) (va (.agg #[I 128336, I 128359, I 1]) (va (.agg #[I 128378, I 128378, I 1]) (va (.agg #[I 128405, I 128406, I 1]) (va (.agg #[I 128420, I 128420, I 1]) (va (.agg #[I 128507, I 128591, I 1]) (va (.agg #[I 128640, I 128709, I 1]) (va (.agg #[I 128716, I 128716, I 1]) (va (.agg #[I 128720, I 128722, I 1]) (va (.agg #[I 128725, I 128727, I 1]) (va (.agg #[I 128732, I 128735, I 1]) (va (.agg #[I 128747, I 128748, I 1]) (va (.agg #[I 128756, I 128764, I 1]) (va (.agg #[I 128992, I 129003, I 1]) (va (.agg #[I 129008, I 129008, I 1]) (va (.agg #[I 129292, I 129338, I 1]) (va (.agg #[I 129340, I 129349, I 1]) (va (.agg #[I 129351, I 129535, I 1]) (va (.agg #[I 129648, I 129660, I 1]) (va (.agg #[I 129664, I 129672, I 1]) (va (.agg #[I 129680, I 129725, I 1]) (va (.agg #[I 129727, I 129733, I 1]) (va (.agg #[I 129742, I 129755, I 1]) (va (.agg #[I 129760, I 129768, I 1]) (va (.agg #[I 129776, I 129784, I 1]) (va (.agg #[I 131072, I 196605, I 1]) (va (.agg #[I 196608, I 262141, I 1]) (me (Own.sl (R := RA3_i64) (E := 179) (ls := t_east_table_122.map (fun x => [I x.1, I x.2.1, I x.2.2])) (vs := (t_east_table_122.map (fun x => [I x.1, I x.2.1, I x.2.2])).flatten) (xs := t_east_table_122) true d (Nat.succ_pos _) rfl (AllR.map _ (fun _ => rfl) _) (by kernel_rfl) (by kernel_rfl)) ?_))))))))))))))))))))))))))))))))))))))))))))))))))))))))))))))))))))))))))))))))))))))))))))))))))))))))))))))))))))))))))))
 rintro v5 f i ⟨h, e, g⟩
 refine va (v5) (wln (W.ret ?_))
 obtain rfl := si H
 exact r1 ⟨_, f, rfl, rfl, pt, v5, h, e, rfl, g⟩
def f_sort_Search__east_Of_1 (p0 : Int) (p1_0_0 : List (Int × Int × Int)) (p1_1_0 : Int) : Option (Int) :=
 (iter (σ := Int × Int) (τ := Int) ((p0 - 0).toNat + 1) (fun a =>
 if (decide (a.1 < a.2)) = true then
 (f_east_Of_1 (w64 ((IntKind.u64.wrap (w64 (a.1 + a.2))).fdiv (2 ^ 1))) p1_0_0 p1_1_0).bind fun b =>
 if (!b) = true then
 some (.inl ((w64 ((w64 ((IntKind.u64.wrap (w64 (a.1 + a.2))).fdiv (2 ^ 1))) + 1)), a.2))
 else
 some (.inl (a.1, (w64 ((IntKind.u64.wrap (w64 (a.1 + a.2))).fdiv (2 ^ 1)))))
 else
 some (.inr (a.1))) (0, p0)).bind fun c =>
 some c
theorem c_sort_Search__east_Of_1 {b1_0 : Nat} {b1_1 : Nat} (A : Own c0 G F) (b : Int) (p1_0_0 : List (Int × Int × Int)) (p1_1_0 : Int) {r : Int} (N : ∀ j u, ([v2] : List Value)[j]? = some u → Im c0 b1_0 (0 + j) u) (M : Sl RA3_i64 c0 v2 p1_0_0) (P : ∀ j u, ([J p1_1_0] : List Value)[j]? = some u → Im c0 b1_1 (0 + j) u) (H : f_sort_Search__east_Of_1 b p1_0_0 p1_1_0 = some r) :
    Calls prog 135 #[I b, .func (.func 143) #[] #[Q b1_0, Q b1_1]] c0.w (Post c0 fun c v => Own c G (F) ∧ v = I r) := by
 unfold f_sort_Search__east_Of_1 at H
 refine en func135 rfl rfl (sr (va (I 0) (wln (sr (va (I b) (va (I 0) (va (I b) (wln (W.seq (W.block (bn H fun g y k => lp y (fun a => Jn c0 fun c l => Own c G (F) ∧ l = [(1, .func (.func 143) #[] #[Q b1_0, Q b1_1]), (5, I a.1), (6, I a.2)]) (fun h ex e w => ex = .exit 0 ∧ (Jn c0 fun c l => Own c G (F) ∧ l = [(5, I h)]) e w) ?_ ?_ ?_)))))))))))
 ·clear k y
  intro a X q z H
  revert q z
  rintro E R ⟨D, Z, _, rfl, l7, rfl, o, rfl⟩
  refine W.seq (sr (va (I a.1) (va (I a.2) (va (B (decide (a.1 < a.2))) (wln (cn H (fun s H => ?_) (fun s H => ?_)))))))
  ·refine W.skip (nrm (W.block (sr (va (I a.1) (va (I a.2) (va (I (w64 (a.1 + a.2))) (va (.int .u64 (IntKind.u64.wrap (w64 (a.1 + a.2)))) (va (.int .u64 ((IntKind.u64.wrap (w64 (a.1 + a.2))).fdiv (2 ^ 1))) (va (I (w64 ((IntKind.u64.wrap (w64 (a.1 + a.2))).fdiv (2 ^ 1)))) (va (I (w64 ((IntKind.u64.wrap (w64 (a.1 + a.2))).fdiv (2 ^ 1)))) (wln (sr (va (.func (.func 143) #[] #[Q b1_0, Q b1_1]) (va (I (w64 ((IntKind.u64.wrap (w64 (a.1 + a.2))).fdiv (2 ^ 1)))) (bn H fun i t H => cl (c_east_Of_1 o (w64 ((IntKind.u64.wrap (w64 (a.1 + a.2))).fdiv (2 ^ 1))) p1_0_0 p1_1_0 (mm N) M.m (mm P) t) ?_)))))))))))))))
   rintro v20 f T ⟨d, rfl⟩
   refine va (B (!i)) (wln (cn H (fun x H => ?_) (fun x H => ?_)))
   ·refine W.region (va (I (w64 ((IntKind.u64.wrap (w64 (a.1 + a.2))).fdiv (2 ^ 1)))) (va (I (w64 ((w64 ((IntKind.u64.wrap (w64 (a.1 + a.2))).fdiv (2 ^ 1))) + 1))) (va (I (w64 ((w64 ((IntKind.u64.wrap (w64 (a.1 + a.2))).fdiv (2 ^ 1))) + 1))) (WL.nil (bkn ?_)))))
    obtain rfl := si H
    exact ⟨_, rfl, ⟨f, _, _, rfl, pt, us, d, rfl⟩⟩
   refine W.region (va (I (w64 ((IntKind.u64.wrap (w64 (a.1 + a.2))).fdiv (2 ^ 1)))) (va (I (w64 ((IntKind.u64.wrap (w64 (a.1 + a.2))).fdiv (2 ^ 1)))) (WL.nil (bkn ?_))))
   obtain rfl := si H
   exact ⟨_, rfl, ⟨f, _, _, rfl, pt, us, d, rfl⟩⟩
  refine W.exit (thx ?_)
  obtain rfl := si H
  exact ⟨_, rfl, rfl, ⟨D, _, _, rfl, pt, us, o, rfl⟩⟩
 ·exact ⟨c0, _, _, rfl, pt, us, A, rfl⟩
 rintro _ E R ⟨rfl, p, S, _, rfl, U, rfl, n, rfl⟩
 refine bke (nrm (sr (va (I g) (va (I g) (wln (W.ret ?_))))))
 obtain rfl := si k
 exact r1 ⟨_, p, rfl, rfl, pt, n, rfl⟩
def f_east_Of (p0 : Int) : Option (Int) :=
 (f_east_table).bind fun a =>
 (f_sort_Search__east_Of_1 (a.length : Int) a p0).bind fun b =>
 (orE (b == (a.length : Int)) ((idx a b).bind fun d =>
 some (decide (d.1 > (w64 p0))))).bind fun c =>
 if c = true then
 some 0
 else
 (idx a b).bind fun e =>
 some e.2.2
theorem c_east_Of (O0 : Own c0 G F) (k : Int) {r : Int} (H : f_east_Of k = some r) :
    Calls prog 110 #[J k] c0.w (Post c0 fun c v => Own c G (F) ∧ v = I r) := by
 unfold f_east_Of at H
 refine en func110 rfl rfl (sr (me (bx 21 [J k] O0) ?_))
 rintro v5 c4 l4 ⟨b1, rfl, O2, m3⟩
 refine va (I 0) (wln (sr (bn H fun i h6 H => cl (c_east_table O2 h6) ?_)))
 rintro v7 d1 j1 ⟨_, u8, T, rfl, s⟩
 refine me (al 176 [Y] T) ?_
 rintro v19 e1 M ⟨y, rfl, U⟩
 obtain ⟨b, d, e, rfl⟩ := ((s.mono M)).form
 refine md (sC 176 0 (.slice b d e) [.slice b d e] 0 U ⟨s.m.one, trivial⟩) ?_
 rintro f1 m0 t
 refine wln (sr (vx (le1 0 underlying176 (t.on 0 rfl)) (vx (lnO 3 underlying176 s.m) ?_)))
 obtain ⟨g1, g0, k1, X, g⟩ := t.frz 1 rfl (s.mono (M.trans m0))
 refine WL.gh g0 ?_
 obtain ⟨h1, h0, N, Z, n⟩ := Own.frzB 0 X rfl
 refine WL.gh h0 ?_
 have a0 := Z.sD 2 [1]
 refine va (.func (.func 143) #[] #[Q y, Q b1]) (bn H fun a i0 H => cl (c_sort_Search__east_Of_1 a0 (i.length : Int) i k n g.m (mm m3) i0) ?_)
 rintro v40 f0 P ⟨b0, rfl⟩
 refine va (I a) (wln (W.seq (W.seq (bn H fun R A H => W.join (Jn f0 fun c l => Own c G (es false RA3_i64 (.slice b d e) 179 u8 i :: F) ∧ l = [(3, Q y), (4, I a), (23, B R)]) ?_ ?_))))
 ·clear H
  refine rD [] (Kp G0 []) b0 ?_
  intro p o0 u
  have m1 : Kp G0 [] p := Kp.nil0
  refine ta 0 (I a) (tx 1 (fun j f => l1 underlying176 ((mm n) 0 _ rfl)) (tx 2 (fun j f => ln 3 underlying176 g.m) (ta 3 (B (a == (i.length : Int))) ?_)))
  rcases bo (a == (i.length : Int)) with h | h
  ·obtain rfl := orT h A
   exact AC.takeb 4 h rfl (by kernel_rfl) (by kernel_rfl) (fun j f => (by kernel_rfl)) (tp 5 (tp 6 (tp 7 (tp 8 (tp 9 (tp 10 (tp 11 (tp 12 (ta 13 (B true) (dn (nrm ⟨p, _, _, rfl, pt, us, u, rfl⟩)))))))))))
  have o := orF h A
  refine bn o fun q D o => AC.takeb 4 h rfl (by kernel_rfl) (by kernel_rfl) (fun j f => (by kernel_rfl)) (tx 5 (fun j f => l1 underlying176 ((mm n) 0 _ rfl)) (ta 6 (I a) ?_))
  obtain ⟨z0, j0, t0⟩ := Sl.at (g.mono (N.trans (P.trans o0))) (idx_get D)
  obtain rfl := j0
  refine tx 7 (fun j f => ix underlying176 g.m D) (ta 8 (.pointer (some ⟨sb (.slice b d e), so (.slice b d e) + a.toNat * 3, none⟩)) (tx 9 (fun j f => l1 underlying3 ((mm t0) 0 _ rfl)) (tx 10 (fun j f => l1 underlying21 ((mm m3) 0 _ rfl)) (ta 11 (I (w64 k)) (ta 12 (B (decide (q.1 > (w64 k)))) ?_)))))
  obtain rfl := si o
  exact ta 13 (B (decide (q.1 > (w64 k)))) (dn (nrm ⟨p, _, _, rfl, pt, us, u, rfl⟩))
 rintro e_ w_ ⟨z, i1, _, rfl, q0, rfl, x, rfl⟩
 refine nrm (cn H (fun k0 H => ?_) (fun k0 H => ?_))
 ·refine sr (va (I 0) (wln (W.ret (thr ?_))))
  obtain rfl := si H
  have d0 := x.sD 1 []
  exact r1 ⟨_, z, rfl, rfl, pt, d0, rfl⟩
 refine W.skip (nrm (sr (vx (l1 underlying176 ((mm n) 0 _ rfl)) (va (I a) (bn H fun S E H => ?_)))))
 obtain ⟨a1, l0, u0⟩ := Sl.at (g.mono (N.trans (P.trans q0))) (idx_get E)
 obtain rfl := l0
 refine vx (ix underlying176 g.m E) (va (.pointer (some ⟨sb (.slice b d e), so (.slice b d e) + a.toNat * 3 + 2, none⟩)) (vx (l1 underlying3 (u0 2 _ rfl)) (va (I S.2.2) (wln (W.ret ?_)))))
 obtain rfl := si H
 have e0 := x.sD 1 []
 exact r1 ⟨_, z, rfl, rfl, pt, e0, rfl⟩
def f_ucd_Of (p0 : Int) : Option (G_api_Prop) :=
 (f_gcb_Of p0).bind fun b =>
 (f_pict_Is p0).bind fun c =>
 (f_conj_Of p0).bind fun d =>
 (f_east_Of p0).bind fun a =>
 some (⟨b, c, d, a⟩ : G_api_Prop)
theorem c_ucd_Of (p : Own c0 G F) (a : Int) {r : G_api_Prop} (H : f_ucd_Of a = some r) :
    Calls prog 77 #[J a] c0.w (Post c0 fun c v => Own c G (F) ∧ v = .agg #[I r.Break, B r.Pict, I r.Conj, I r.East]) := by
 unfold f_ucd_Of at H
 refine en func77 rfl rfl (sr (me (al 133 [I 0, B false, I 0, I 0] p) ?_))
 rintro v4 R S ⟨P, rfl, q⟩
 refine wln (sr (va (J a) (bn H fun d t H => cl (c_gcb_Of q a t) ?_)))
 rintro v11 u A ⟨s, rfl⟩
 refine va (J a) (bn H fun e m H => cl (c_pict_Is s a m) ?_)
 rintro v18 x D ⟨i, rfl⟩
 refine va (J a) (bn H fun f n H => cl (c_conj_Of i a n) ?_)
 rintro v25 y E ⟨j, rfl⟩
 refine va (J a) (bn H fun b o H => cl (c_east_Of j a o) ?_)
 rintro v32 z M ⟨k, rfl⟩
 refine va (.agg #[I d, B e, I f, I b]) (md (sA 133 [I d, B e, I f, I b] 0 k ⟨rfl, rfl, rfl, rfl, trivial⟩) ?_)
 rintro h N g
 refine wln (W.ret ?_)
 obtain rfl := si H
 have l := g.sD 1 []
 exact retC (c := h) (vs := [I d, B e, I f, I b]) rfl (by kernel_rfl) (by kernel_rfl) (by kernel_rfl) (g.on 0 rfl _ rfl).1 ⟨_, h, rfl, rfl, pt, l, rfl⟩
def f_linotyperef03_some (p0 : List Int) (p1 : Int) : Option (Bool) :=
 (idx p0 0).bind fun c =>
 (idx ([0, 0, 192, 224, 240] : List Int) p1).bind fun d =>
 (orE (decide ((w64 ((w64 c) - d)) < 0)) ((idx ([0, 128, 32, 16, 8] : List Int) p1).bind fun l =>
 some (decide ((w64 ((w64 c) - d)) ≥ l)))).bind fun j =>
 if j = true then
 some false
 else
 (iter (σ := Int × Int × Int) (τ := Bool ⊕ (Int × Int)) ((p1 - 1).toNat + 1) (fun a =>
 if (decide (a.2.2 < p1)) = true then
 if (decide (a.2.2 < (p0.length : Int))) = true then
 (idx p0 a.2.2).bind fun e =>
 (orE (decide ((w64 ((w64 e) - 128)) < 0)) (some (decide ((w64 ((w64 e) - 128)) > 63)))).bind fun k =>
 if k = true then
 some (.inr (.inl false))
 else
 some (.inl ((w64 ((w64 (a.1 * 64)) + (w64 ((w64 e) - 128)))), (w64 ((w64 ((w64 ((w64 (a.2.1 * 64)) + 63)) - 63)) + (w64 ((w64 e) - 128)))), (w64 (a.2.2 + 1))))
 else
 some (.inl ((w64 (a.1 * 64)), (w64 ((w64 (a.2.1 * 64)) + 63)), (w64 (a.2.2 + 1))))
 else
 some (.inr (.inr (a.1, a.2.1)))) ((w64 ((w64 c) - d)), (w64 ((w64 c) - d)), 1)).bind fun b =>
 match b with
 | .inl b =>
 some b
 | .inr b =>
 (idx ([0, 0, 128, 2048, 65536] : List Int) p1).bind fun f =>
 (idx ([0, 127, 2047, 65535, 1114111] : List Int) p1).bind fun g =>
 (andE (decide ((imax b.1 f) ≤ (imin b.2 g))) ((orE (decide ((imax b.1 f) < 55296)) (some (decide ((imin b.2 g) > 57343)))).bind fun i =>
 some i)).bind fun h =>
 some h
theorem c_linotyperef03_some (O0 : Own c0 G F) (p0 : List Int) (n : Int) {r : Bool} (Z : Sl (RI .u8) c0 v1 p0) (H : f_linotyperef03_some p0 n = some r) :
    Calls prog 94 #[v1, I n] c0.w (Post c0 fun c v => Own c G (F) ∧ v = B r) := by
 unfold f_linotyperef03_some at H
 refine en func94 rfl rfl (sr (va (B false) (wln (sr (me (sl (RI .i64) 3 [[I 0], [I 0], [I 192], [I 224], [I 240]] ([0, 0, 192, 224, 240] : List Int) O0 ⟨rfl, rfl, rfl, rfl, rfl, trivial⟩) ?_)))))
 rintro v7 c6 l6 ⟨z, O3, h5⟩
 refine va (v7) (wln (sr (me (sl (RI .i64) 3 [[I 0], [I 128], [I 32], [I 16], [I 8]] ([0, 128, 32, 16, 8] : List Int) O3 ⟨rfl, rfl, rfl, rfl, rfl, trivial⟩) ?_)))
 rintro v12 n3 i0 ⟨u9, O8, X⟩
 refine va (v12) (wln (W.seq (rD [] (Kp G0 [es true (RI .i64) v7 3 z ([0, 0, 192, 224, 240] : List Int)]) O8 ?_)))
 intro N R E
 have v2 : Kp G0 [es true (RI .i64) v7 3 z ([0, 0, 192, 224, 240] : List Int)] N := (Kp.cons (E.on 1 rfl) Kp.nil0)
 refine ta 0 (v1) (bn H fun f u0 H => ?_)
 obtain ⟨h3, z1, o2⟩ := Sl.at (Z.mono (l6.trans (i0.trans R))) (idx_get u0)
 obtain rfl := z1
 refine tx 1 (fun c' h0 => ix underlying24 Z.m u0) (tx 2 (fun c' h0 => l1 underlying5 ((mm o2) 0 _ rfl)) (ta 3 (I (w64 f)) (ta 4 (v7) (ta 5 (I n) (bn H fun h a0 H => tx 6 (fun c' h0 => ixO underlying25 h5.m a0) ?_)))))
 obtain ⟨i3, a2, p2⟩ := OA.at (h5.mono (i0.trans R)) a0
 obtain rfl := a2
 refine AC.takeK 7 (I h) v2 rfl (by kernel_rfl) (by kernel_rfl) (by kernel_rfl) (fun c' h0 hk => (rx (by kernel_rfl) (ldE1 underlying3 rfl (hk.on 0 rfl) (h5.m.blk a0) (at1 (j := 0) p2 rfl)))) (ta 8 (I (w64 ((w64 f) - h))) (ta 9 (I (w64 ((w64 f) - h))) (dn (nrm (W.seq (W.seq (bn H fun f1 v0 H => W.join (Jn N fun c l => Own c G (es true (RI .i64) v12 3 u9 ([0, 128, 32, 16, 8] : List Int) :: es true (RI .i64) v7 3 z ([0, 0, 192, 224, 240] : List Int) :: F) ∧ l = [(0, v1), (1, I n), (7, I (w64 ((w64 f) - h))), (34, B f1)]) ?_ ?_)))))))
 ·clear H
  refine W.region (va (I (w64 ((w64 f) - h))) (va (B (decide ((w64 ((w64 f) - h)) < 0))) ?_))
  rcases bo (decide ((w64 ((w64 f) - h)) < 0)) with s | s
  ·obtain rfl := orT s v0
   exact vb s (ps (ps (ps (ps (ps (ps (va (B true) (wln ⟨N, _, _, rfl, pt, us, E, rfl⟩))))))))
  have T := orF s v0
  refine vb s (wn (va (I (w64 ((w64 f) - h))) (wn (va (v12) (wn (va (I n) (wn (bn T fun A b0 T => vx (ixO underlying25 X.m b0) (wn ?_)))))))))
  obtain ⟨j3, b2, q2⟩ := OA.at (X.mono R) b0
  obtain rfl := b2
  refine vr (I A) (rx (by kernel_rfl) (ldE1 underlying3 rfl (E.on 0 rfl) (X.m.blk b0) (at1 (j := 0) q2 rfl))) (wn (va (B (decide ((w64 ((w64 f) - h)) ≥ A))) ?_))
  obtain rfl := si T
  exact va (B (decide ((w64 ((w64 f) - h)) ≥ A))) (wln ⟨N, _, _, rfl, pt, us, E, rfl⟩)
 rintro U w_ ⟨p, q3, _, rfl, k2, rfl, q0, rfl⟩
 refine nrm (cn H (fun c2 H => ?_) (fun c2 H => ?_))
 ·refine sr (va (B false) (wln (W.ret (thr ?_))))
  obtain rfl := si H
  have n1 := q0.sD 2 []
  exact r1 ⟨_, p, rfl, rfl, pt, n1, rfl⟩
 refine W.skip (nrm (sr (va (I (w64 ((w64 f) - h))) (va (I (w64 ((w64 f) - h))) (va (I (w64 ((w64 f) - h))) (va (I (w64 ((w64 f) - h))) (wln (W.seq (sr (va (I 1) (wln (W.block (bn H fun b w0 k => lp w0 (fun a => Jn p fun c l => Own c G (es true (RI .i64) v12 3 u9 ([0, 128, 32, 16, 8] : List Int) :: es true (RI .i64) v7 3 z ([0, 0, 192, 224, 240] : List Int) :: F) ∧ l = [(0, v1), (1, I n), (8, I a.1), (9, I a.2.1), (10, I a.2.2)]) (fun t => match t with | .inl x_ => (fun w2 ex e w => ex = .ret ∧ (Jn p fun c l => Own c G (F) ∧ l = [(4, B w2)]) e w) x_ | .inr x_ => (fun S ex e w => ex = .exit 0 ∧ (Jn p fun c l => Own c G (es true (RI .i64) v12 3 u9 ([0, 128, 32, 16, 8] : List Int) :: es true (RI .i64) v7 3 z ([0, 0, 192, 224, 240] : List Int) :: F) ∧ l = [(1, I n), (8, I S.1), (9, I S.2)]) e w) x_) ?_ ?_ ?_)))))))))))))
 ·clear k w0
  intro a a4 x1 z2 H
  revert x1 z2
  rintro U w_ ⟨q, s3, _, rfl, l2, rfl, M, rfl⟩
  refine W.seq (sr (va (I a.2.2) (va (I n) (va (B (decide (a.2.2 < n))) (wln (cn H (fun d2 H => ?_) (fun d2 H => ?_)))))))
  ·refine W.skip (nrm (W.seq (W.block (sr (va (I a.1) (va (I (w64 (a.1 * 64))) (va (I (w64 (a.1 * 64))) (wln (sr (va (I a.2.1) (va (I (w64 (a.2.1 * 64))) (va (I (w64 ((w64 (a.2.1 * 64)) + 63))) (va (I (w64 ((w64 (a.2.1 * 64)) + 63))) (wln (sr (va (I a.2.2) (va (v1) (vx (ln 3 underlying24 Z.m) (va (B (decide (a.2.2 < (p0.length : Int)))) (wln (cn H (fun e2 H => ?_) (fun e2 H => ?_))))))))))))))))))))))
   ·refine sr (va (v1) (va (I a.2.2) (bn H fun d x0 H => ?_)))
    obtain ⟨k3, f2, s2⟩ := Sl.at (Z.mono (l6.trans (i0.trans (R.trans (k2.trans l2))))) (idx_get x0)
    obtain rfl := f2
    refine vx (ix underlying24 Z.m x0) (vx (l1 underlying5 (s2 0 _ rfl)) (va (I (w64 d)) (va (I (w64 ((w64 d) - 128))) (va (I (w64 ((w64 d) - 128))) (wln (W.seq (W.seq (bn H fun g1 y0 H => W.join (Jn q fun c l => Own c G (es true (RI .i64) v12 3 u9 ([0, 128, 32, 16, 8] : List Int) :: es true (RI .i64) v7 3 z ([0, 0, 192, 224, 240] : List Int) :: F) ∧ l = [(0, v1), (1, I n), (8, I (w64 (a.1 * 64))), (9, I (w64 ((w64 (a.2.1 * 64)) + 63))), (10, I a.2.2), (11, I (w64 ((w64 d) - 128))), (62, B g1)]) ?_ ?_))))))))
    ·clear H
     refine W.region (va (I (w64 ((w64 d) - 128))) (va (B (decide ((w64 ((w64 d) - 128)) < 0))) ?_))
     rcases bo (decide ((w64 ((w64 d) - 128)) < 0)) with u | u
     ·obtain rfl := orT u y0
      exact vb u (ps (ps (va (B true) (wln ⟨q, _, _, rfl, pt, us, M, rfl⟩))))
     have k1 := orF u y0
     refine vb u (wn (va (I (w64 ((w64 d) - 128))) (wn (va (B (decide ((w64 ((w64 d) - 128)) > 63))) ?_))))
     obtain rfl := si k1
     exact va (B (decide ((w64 ((w64 d) - 128)) > 63))) (wln ⟨q, _, _, rfl, pt, us, M, rfl⟩)
    rintro U w_ ⟨t0, t3, _, rfl, w3, rfl, s0, rfl⟩
    refine nrm (cn H (fun g2 H => ?_) (fun g2 H => ?_))
    ·refine sr (va (B false) (wln (W.ret (thr (bkr (thr ?_))))))
     obtain rfl := si H
     refine ⟨_, rfl, ⟨rfl, ?_⟩⟩
     have q1 := s0.sD 2 []
     exact ⟨t0, _, _, rfl, pt, us, q1, rfl⟩
    refine W.skip (nrm (sr (va (I (w64 (a.1 * 64))) (va (I (w64 ((w64 d) - 128))) (va (I (w64 ((w64 (a.1 * 64)) + (w64 ((w64 d) - 128))))) (va (I (w64 ((w64 (a.1 * 64)) + (w64 ((w64 d) - 128))))) (wln (W.region (va (I (w64 ((w64 (a.2.1 * 64)) + 63))) (va (I (w64 ((w64 ((w64 (a.2.1 * 64)) + 63)) - 63))) (va (I (w64 ((w64 d) - 128))) (va (I (w64 ((w64 ((w64 ((w64 (a.2.1 * 64)) + 63)) - 63)) + (w64 ((w64 d) - 128))))) (va (I (w64 ((w64 ((w64 ((w64 (a.2.1 * 64)) + 63)) - 63)) + (w64 ((w64 d) - 128))))) (WL.nil (bkn (nrm (W.region (va (I a.2.2) (va (I (w64 (a.2.2 + 1))) (va (I (w64 (a.2.2 + 1))) (WL.nil ?_)))))))))))))))))))))
    obtain rfl := si H
    exact ⟨_, rfl, ⟨t0, _, _, rfl, pt, us, s0, rfl⟩⟩
   refine W.skip (bkn (nrm (W.region (va (I a.2.2) (va (I (w64 (a.2.2 + 1))) (va (I (w64 (a.2.2 + 1))) (WL.nil ?_)))))))
   obtain rfl := si H
   exact ⟨_, rfl, ⟨q, _, _, rfl, pt, us, M, rfl⟩⟩
  refine W.exit (thx ?_)
  obtain rfl := si H
  exact ⟨_, rfl, rfl, ⟨q, _, _, rfl, pt, us, M, rfl⟩⟩
 ·exact ⟨p, _, _, rfl, pt, us, q0, rfl⟩
 rcases b with b | b
 ·intro y1; revert y1
  rintro _ U w_ ⟨rfl, w1, u3, _, rfl, x3, rfl, s1, rfl⟩
  refine bkr (thr ?_)
  obtain rfl := si k
  exact r1 ⟨_, w1, rfl, rfl, pt, s1, rfl⟩
 rintro _ U w_ ⟨rfl, o3, v3, _, rfl, y3, rfl, t1, rfl⟩
 refine bke (nrm (sr (me (sl (RI .i64) 3 [[I 0], [I 0], [I 128], [I 2048], [I 65536]] ([0, 0, 128, 2048, 65536] : List Int) t1 ⟨rfl, rfl, rfl, rfl, rfl, trivial⟩) ?_)))
 rintro k0 p3 z3 ⟨x2, u1, d0⟩
 refine va (k0) (wln (sr (me (sl (RI .i64) 3 [[I 0], [I 127], [I 2047], [I 65535], [I 1114111]] ([0, 127, 2047, 65535, 1114111] : List Int) u1 ⟨rfl, rfl, rfl, rfl, rfl, trivial⟩) ?_)))
 rintro l0 P n2 ⟨y2, o, e0⟩
 refine va (l0) (wln (sr (va (I b.1) (va (k0) (va (I n) (bn k fun i f0 k => vx (ixO underlying25 d0.m f0) ?_))))))
 obtain ⟨l3, i2, t2⟩ := OA.at (d0.mono n2) f0
 obtain rfl := i2
 refine vr (I i) (rx (by kernel_rfl) (ldE1 underlying3 rfl (o.on 1 rfl) (d0.m.blk f0) (at1 (j := 0) t2 rfl))) (va (I (imax b.1 i)) (va (I (imax b.1 i)) (wln (sr (va (I b.2) (va (l0) (va (I n) (bn k fun g g0 k => vx (ixO underlying25 e0 g0) ?_))))))))
 obtain ⟨m3, j2, u2⟩ := OA.at e0 g0
 obtain rfl := j2
 refine vr (I g) (rx (by kernel_rfl) (ldE1 underlying3 rfl (o.on 0 rfl) (e0.blk g0) (at1 (j := 0) u2 rfl))) (va (I (imin b.2 g)) (va (I (imin b.2 g)) (wln (W.seq (bn k fun o0 z0 k => W.join (Jn P fun c l => Own c G (es true (RI .i64) l0 3 y2 ([0, 127, 2047, 65535, 1114111] : List Int) :: es true (RI .i64) k0 3 x2 ([0, 0, 128, 2048, 65536] : List Int) :: es true (RI .i64) v12 3 u9 ([0, 128, 32, 16, 8] : List Int) :: es true (RI .i64) v7 3 z ([0, 0, 192, 224, 240] : List Int) :: F) ∧ l = [(4, B o0)]) ?_ ?_)))))
 ·clear k
  refine W.region (va (I (imax b.1 i)) (va (I (imin b.2 g)) (va (B (decide ((imax b.1 i) ≤ (imin b.2 g)))) ?_)))
  rcases bo (decide ((imax b.1 i) ≤ (imin b.2 g))) with x | x
  ·have D := anT x z0
   refine vb x (wn (va (I (imax b.1 i)) (wn (va (B (decide ((imax b.1 i) < 55296))) (wn (bn D fun a3 a1 D => ?_))))))
   rcases bo (decide ((imax b.1 i) < 55296)) with y | y
   ·obtain rfl := orT y a1
    refine vb y (ps (ps (wn (va (B true) ?_))))
    obtain rfl := si D
    exact va (B true) (va (B true) (wln ⟨P, _, _, rfl, pt, us, o, rfl⟩))
   have m1 := orF y a1
   refine vb y (wn (va (I (imin b.2 g)) (wn (va (B (decide ((imin b.2 g) > 57343))) (wn ?_)))))
   obtain rfl := si m1
   refine va (B (decide ((imin b.2 g) > 57343))) ?_
   obtain rfl := si D
   exact va (B (decide ((imin b.2 g) > 57343))) (va (B (decide ((imin b.2 g) > 57343))) (wln ⟨P, _, _, rfl, pt, us, o, rfl⟩))
  obtain rfl := anF x z0
  exact vb x (ps (ps (ps (ps (ps (ps (va (B false) (va (B false) (wln ⟨P, _, _, rfl, pt, us, o, rfl⟩)))))))))
 rintro U w_ ⟨e1, e3, _, rfl, g3, rfl, b1, rfl⟩
 refine nrm (W.ret ?_)
 obtain rfl := si k
 have c1 := b1.sD 4 []
 exact r1 ⟨_, e1, rfl, rfl, pt, c1, rfl⟩
def f_linotyperef03_Begins (p0 : List Int) : Option (Int) :=
 (iter (σ := Int) (τ := Int ⊕ Unit) (((4 : Int) - 1).toNat + 2) (fun a =>
 if (decide (a ≤ 4)) = true then
 (andE (decide ((p0.length : Int) ≥ 1)) (some (decide ((p0.length : Int) ≤ a)))).bind fun c =>
 (andE c ((f_linotyperef03_some p0 a).bind fun e =>
 some e)).bind fun d =>
 if d = true then
 some (.inr (.inl a))
 else
 some (.inl ((w64 (a + 1))))
 else
 some (.inr (.inr ()))) (1)).bind fun b =>
 match b with
 | .inl b =>
 some b
 | .inr b =>
 some 0
theorem c_linotyperef03_Begins (O0 : Own c0 G F) (f : List Int) {r : Int} (y : Sl (RI .u8) c0 v1 f) (H : f_linotyperef03_Begins f = some r) :
    Calls prog 60 #[v1] c0.w (Post c0 fun c v => Own c G (F) ∧ v = I r) := by
 unfold f_linotyperef03_Begins at H
 refine en func60 rfl rfl (sr (va (I 0) (wln (W.seq (sr (va (I 1) (wln (W.block (bn H fun i h3 s => lp h3 (fun a => Jn c0 fun c l => Own c G (F) ∧ l = [(0, v1), (3, I a)]) (fun t => match t with | .inl A => (fun e0 ex e w => ex = .ret ∧ (Jn c0 fun c l => Own c G (F) ∧ l = [(2, I e0)]) e w) A | .inr A => (fun i0 ex e w => ex = .exit 0 ∧ (Jn c0 fun c l => Own c G (F) ∧ l = []) e w) A) ?_ ?_ ?_)))))))))
 ·clear s h3
  intro a t0 U f0 H
  revert U f0
  rintro x z ⟨k, g6, _, rfl, l5, rfl, j, rfl⟩
  refine W.seq (sr (va (I a) (va (B (decide (a ≤ 4))) (wln (cn H (fun Z H => ?_) (fun Z H => ?_))))))
  ·refine W.skip (nrm (W.seq (W.block (W.seq (bn H fun h0 p H => bn H fun u h H => W.join (Jn k fun c l => Own c G (F) ∧ l = [(0, v1), (3, I a), (21, B u)]) ?_ ?_)))))
   ·clear H
    refine W.region (va (v1) (vx (ln 3 underlying24 y.m) (va (B (decide ((f.length : Int) ≥ 1))) ?_)))
    rcases bo (decide ((f.length : Int) ≥ 1)) with b | b
    ·have E := anT b p
     refine vb b (wn (va (v1) (wn (vx (ln 3 underlying24 y.m) (wn (va (I a) (wn (va (B (decide ((f.length : Int) ≤ a))) ?_))))))))
     obtain rfl := si E
     refine va (B (decide ((f.length : Int) ≤ a))) ?_
     rcases bo (decide ((f.length : Int) ≤ a)) with d | d
     ·have g := anT d h
      refine vb d (wn (va (v1) (wn (va (I a) (wn (bn g fun D a0 g => cl (c_linotyperef03_some j f a y.m a0) ?_))))))
      rintro v24 R m0 ⟨M, rfl⟩
      obtain rfl := si g
      exact va (B D) (wln ⟨R, _, _, rfl, pt, us, M, rfl⟩)
     obtain rfl := anF d h
     exact vb d (ps (ps (ps (va (B false) (wln ⟨k, _, _, rfl, pt, us, j, rfl⟩)))))
    obtain rfl := anF b p
    refine vb b (ps (ps (ps (ps (va (B false) ?_)))))
    have q : false = false := rfl
    obtain rfl := anF q h
    exact vb q (ps (ps (ps (va (B false) (wln ⟨k, _, _, rfl, pt, us, j, rfl⟩)))))
   rintro x z ⟨o, j0, _, rfl, o0, rfl, n, rfl⟩
   refine nrm (cn H (fun d0 H => ?_) (fun d0 H => ?_))
   ·refine sr (va (I a) (va (I a) (wln (W.ret (bkr (thr ?_))))))
    obtain rfl := si H
    exact ⟨_, rfl, ⟨rfl, ⟨o, _, _, rfl, pt, us, n, rfl⟩⟩⟩
   refine W.skip (bkn (nrm (W.region (va (I a) (va (I (w64 (a + 1))) (va (I (w64 (a + 1))) (WL.nil ?_)))))))
   obtain rfl := si H
   exact ⟨_, rfl, ⟨o, _, _, rfl, pt, us, n, rfl⟩⟩
  refine W.exit (thx ?_)
  obtain rfl := si H
  exact ⟨_, rfl, rfl, ⟨k, _, _, rfl, pt, us, j, rfl⟩⟩
 ·exact ⟨c0, _, _, rfl, pt, us, O0, rfl⟩
 rcases i with i | i
 ·intro X; revert X
  rintro _ x z ⟨rfl, S, k0, _, rfl, q0, rfl, N, rfl⟩
  refine bkr (thr ?_)
  obtain rfl := si s
  exact r1 ⟨_, S, rfl, rfl, pt, N, rfl⟩
 rintro _ x z ⟨rfl, T, l0, _, rfl, s0, rfl, P, rfl⟩
 refine bke (nrm (sr (va (I 0) (wln (W.ret ?_)))))
 obtain rfl := si s
 exact r1 ⟨_, T, rfl, rfl, pt, P, rfl⟩
def f_linotyperef03_whole (p0 : List Int) : Option (Int) :=
 (idx p0 0).bind fun e =>
 (idx ([0, 0, 192, 224, 240] : List Int) (p0.length : Int)).bind fun c =>
 (iter (σ := Int × Int) (τ := Int) (((p0.length : Int) - 1).toNat + 1) (fun a =>
 if (decide (a.2 < (p0.length : Int))) = true then
 (idx p0 a.2).bind fun d =>
 some (.inl ((w64 ((w64 ((w64 (a.1 * 64)) + (w64 d))) - 128)), (w64 (a.2 + 1))))
 else
 some (.inr (a.1))) ((w64 ((w64 e) - c)), 1)).bind fun b =>
 some (w32 b)
theorem c_linotyperef03_whole (O0 : Own c0 G F) (E : List Int) {r : Int} (h : Sl (RI .u8) c0 v1 E) (H : f_linotyperef03_whole E = some r) :
    Calls prog 127 #[v1] c0.w (Post c0 fun c v => Own c G (F) ∧ v = J r) := by
 unfold f_linotyperef03_whole at H
 refine en func127 rfl rfl (sr (va (J 0) (wln (sr (me (sl (RI .i64) 3 [[I 0], [I 0], [I 192], [I 224], [I 240]] ([0, 0, 192, 224, 240] : List Int) O0 ⟨rfl, rfl, rfl, rfl, rfl, trivial⟩) ?_)))))
 rintro v7 c6 l6 ⟨q, O3, A⟩
 refine va (v7) (wln (W.seq (rD [] (Kp G0 [es true (RI .i64) v7 3 q ([0, 0, 192, 224, 240] : List Int)]) O3 ?_)))
 intro o D P
 have g0 : Kp G0 [es true (RI .i64) v7 3 q ([0, 0, 192, 224, 240] : List Int)] o := (Kp.cons (P.on 0 rfl) Kp.nil0)
 refine ta 0 (v1) (bn H fun k x H => ?_)
 obtain ⟨m0, T, d0⟩ := Sl.at (h.mono (l6.trans D)) (idx_get x)
 obtain rfl := T
 refine tx 1 (fun n g => ix underlying24 h.m x) (tx 2 (fun n g => l1 underlying5 ((mm d0) 0 _ rfl)) (ta 3 (I (w64 k)) (ta 4 (v7) (ta 5 (v1) (tx 6 (fun n g => ln 3 underlying24 h.m) (bn H fun f i H => tx 7 (fun n g => ixO underlying25 A.m i) ?_))))))
 obtain ⟨o0, U, e0⟩ := OA.at (A.mono D) i
 obtain rfl := U
 refine AC.takeK 8 (I f) g0 rfl (by kernel_rfl) (by kernel_rfl) (by kernel_rfl) (fun n g hk => (rx (by kernel_rfl) (ldE1 underlying3 rfl (hk.on 0 rfl) (A.m.blk i) (at1 (j := 0) e0 rfl)))) (ta 9 (I (w64 ((w64 k) - f))) (ta 10 (I (w64 ((w64 k) - f))) (dn (nrm (W.seq (sr (va (I 1) (wln (W.block (bn H fun d y s => lp y (fun a => Jn o fun c l => Own c G (es true (RI .i64) v7 3 q ([0, 0, 192, 224, 240] : List Int) :: F) ∧ l = [(0, v1), (4, I a.1), (5, I a.2)]) (fun p ex e w => ex = .exit 0 ∧ (Jn o fun c l => Own c G (es true (RI .i64) v7 3 q ([0, 0, 192, 224, 240] : List Int) :: F) ∧ l = [(4, I p)]) e w) ?_ ?_ ?_))))))))))
 ·clear s y
  intro a w0 S h0 H
  revert S h0
  rintro e_ w_ ⟨u, t0, _, rfl, a0, rfl, t, rfl⟩
  refine W.seq (sr (va (I a.2) (va (v1) (vx (ln 3 underlying24 h.m) (va (B (decide (a.2 < (E.length : Int)))) (wln (cn H (fun X H => ?_) (fun X H => ?_))))))))
  ·refine W.skip (nrm (W.seq (W.block (W.region (va (I a.1) (va (I (w64 (a.1 * 64))) (va (v1) (va (I a.2) (bn H fun b z H => ?_)))))))))
   obtain ⟨q0, Z, f0⟩ := Sl.at (h.mono (l6.trans (D.trans a0))) (idx_get z)
   obtain rfl := Z
   refine vx (ix underlying24 h.m z) (vx (l1 underlying5 (f0 0 _ rfl)) (va (I (w64 b)) (va (I (w64 ((w64 (a.1 * 64)) + (w64 b)))) (va (I (w64 ((w64 ((w64 (a.1 * 64)) + (w64 b))) - 128))) (va (I (w64 ((w64 ((w64 (a.1 * 64)) + (w64 b))) - 128))) (WL.nil (bkn (nrm (W.region (va (I a.2) (va (I (w64 (a.2 + 1))) (va (I (w64 (a.2 + 1))) (WL.nil ?_)))))))))))))
   obtain rfl := si H
   exact ⟨_, rfl, ⟨u, _, _, rfl, pt, us, t, rfl⟩⟩
  refine W.exit (thx ?_)
  obtain rfl := si H
  exact ⟨_, rfl, rfl, ⟨u, _, _, rfl, pt, us, t, rfl⟩⟩
 ·exact ⟨o, _, _, rfl, pt, us, P, rfl⟩
 rintro _ e_ w_ ⟨rfl, R, u0, _, rfl, v0, rfl, M, rfl⟩
 refine bke (nrm (sr (va (I d) (va (J (w32 d)) (va (J (w32 d)) (wln (W.ret ?_)))))))
 obtain rfl := si s
 have N := M.sD 1 []
 exact r1 ⟨_, R, rfl, rfl, pt, N, rfl⟩
def f_linotyperef03_Step__0 (p0 : List Int) (p1 : Int) : Option ((List Int) × (List Int)) := none
theorem c_linotyperef03_Step__0 (g : Own c0 G F) (b : List Int) (d : Int) {r : (List Int) × (List Int)} (h : Sl (RI .u8) c0 v1 b) (H : f_linotyperef03_Step__0 b d = some r) :
    Calls prog 95 #[v1, .int .u8 d] c0.w (Post c0 fun c v => ∃ a e f, Own c G (es true (RI .i32) a 21 e r.1 :: F) ∧ v = .tuple #[a, f] ∧ OA (RI .i32) c a e r.1 ∧ Sl (RI .u8) c f r.2) := by
 unfold f_linotyperef03_Step__0 at H
 cases H
def f_linotyperef03_Step__1 (p0 : List Int) (p1 : Int) : Option ((List Int) × (List Int)) :=
 (app ([] : List Int) p0).bind fun g =>
 (app g ([p1] : List Int)).bind fun b =>
 (f_linotyperef03_Begins b).bind fun a =>
 (andE (decide (a > 0)) (some (decide (a > (b.length : Int))))).bind fun d =>
 if d = true then
 some (([] : List Int), b)
 else
 if (decide (a > 0)) = true then
 (f_linotyperef03_whole b).bind fun e =>
 some (([e] : List Int), ([] : List Int))
 else
 if ((p0.length : Int) == 0) = true then
 some (([65533] : List Int), ([] : List Int))
 else
 (f_linotyperef03_Step__0 ([] : List Int) p1).bind fun c =>
 (app ([65533] : List Int) c.1).bind fun f =>
 some (f, c.2)
theorem c_linotyperef03_Step__1 (O0 : Own c0 G F) (P : List Int) (d : Int) {r : (List Int) × (List Int)} (h2 : Sl (RI .u8) c0 v1 P) (H : f_linotyperef03_Step__1 P d = some r) :
    Calls prog 95 #[v1, .int .u8 d] c0.w (Post c0 fun c v => ∃ R y2 y3, Own c G (es true (RI .i32) R 21 y2 r.1 :: F) ∧ v = .tuple #[R, y3] ∧ OA (RI .i32) c R y2 r.1 ∧ Sl (RI .u8) c y3 r.2) := by
 unfold f_linotyperef03_Step__1 at H
 refine en func95 rfl rfl (sr (va (Y) (va (Y) (wln (sr (me (sl (RI .u8) 5 [] ([] : List Int) O0 trivial) ?_))))))
 rintro v7 c6 l6 ⟨u4, O3, h5⟩
 refine va (v1) (bn H fun n3 h8 H => me (ap (RI .u8) (.int .u8 0) 1 115 0 O3 h5 h2.m h8 underlying115) ?_)
 rintro v13 m2 x2 ⟨h3, O9, o0⟩
 refine va (.int .u8 d) (me (sl (RI .u8) 5 [[.int .u8 d]] ([d] : List Int) O9 ⟨rfl, trivial⟩) ?_)
 rintro v18 n2 z2 ⟨u1, T, q0⟩
 obtain ⟨o2, u0, a3, U, t0⟩ := T.frz 0 rfl q0
 refine WL.gh u0 (bn H fun h v0 H => me (ap (RI .u8) (.int .u8 0) 1 115 1 U o0.m t0 v0 underlying115) ?_)
 rintro v28 p2 b3 ⟨w1, X, i⟩
 refine va (v28) (wln (sr (va (v28) ?_)))
 obtain ⟨q2, x0, u, Z, w0⟩ := X.frz 1 rfl i
 refine WL.gh x0 (bn H fun a y0 H => cl (c_linotyperef03_Begins Z h w0 y0) ?_)
 rintro v39 k x ⟨p, rfl⟩
 refine va (I a) (wln (W.seq (W.seq (bn H fun M t H => W.join (Jn k fun c l => Own c G (es false (RI .u8) v18 5 u1 ([d] : List Int) :: es false (RI .u8) v28 5 w1 h :: F) ∧ l = [(0, v1), (1, .int .u8 d), (6, v28), (7, I a), (25, B M)]) ?_ ?_))))
 ·clear H
  refine W.region (va (I a) (va (B (decide (a > 0))) ?_))
  rcases bo (decide (a > 0)) with g | g
  ·have S := anT g t
   refine vb g (wn (va (I a) (wn (va (v28) (wn (vx (lnO 3 underlying115 i.m) (wn (va (B (decide (a > (h.length : Int)))) ?_))))))))
   obtain rfl := si S
   exact va (B (decide (a > (h.length : Int)))) (wln ⟨k, _, _, rfl, pt, us, p, rfl⟩)
  obtain rfl := anF g t
  exact vb g (ps (ps (ps (ps (va (B false) (wln ⟨k, _, _, rfl, pt, us, p, rfl⟩))))))
 rintro e_ w_ ⟨s, w2, _, rfl, y, rfl, f, rfl⟩
 refine nrm (cn H (fun z0 H => ?_) (fun z0 H => ?_))
 ·refine sr (va (v28) (va (Y) (va (v28) (wln (W.ret (thr ?_))))))
  obtain rfl := si H
  have a1 : OA (RI .i32) s (Y) [] [] := OA.nil (Nat.succ_pos _)
  have q := f.addHole (e := es true (RI .i32) (Y) 21 [] ([] : List Int)) rfl
  have b1 := q.slf 2 rfl (i.mono (u.trans (x.trans y)))
  have a0 := q.sD 3 [0]
  exact r2 ⟨_, s, rfl, rfl, pt, (Y), [], v28, a0, rfl, a1, b1⟩
 refine W.skip (nrm (W.seq (sr (va (I a) (va (B (decide (a > 0))) (wln (cn H (fun c1 H => ?_) (fun c1 H => ?_))))))))
 ·refine sr (va (v28) ?_)
  have d1 := f.slf 1 rfl (i.mono (u.trans (x.trans y)))
  refine bn H fun o e1 H => cl (c_linotyperef03_whole f h d1 e1) ?_
  rintro k3 s2 c3 ⟨b0, rfl⟩
  refine me (sl (RI .i32) 21 [[J o]] ([o] : List Int) b0 ⟨rfl, trivial⟩) ?_
  rintro z l0 d3 ⟨x1, d0, f1⟩
  refine va (z) (va (Y) (wln (W.ret (thr ?_))))
  obtain rfl := si H
  have e0 := d0.sD 3 [0]
  exact r2 ⟨_, l0, rfl, rfl, pt, z, x1, (Y), e0, rfl, f1, (Sl.nl _ _)⟩
 refine W.skip (nrm (W.seq (sr (va (v1) (vx (ln 3 underlying115 h2.m) (va (B ((P.length : Int) == 0)) (wln (cn H (fun g1 H => ?_) (fun g1 H => ?_)))))))))
 ·refine sr (me (sl (RI .i32) 21 [[J 65533]] ([65533] : List Int) f ⟨rfl, trivial⟩) ?_)
  rintro A m0 e3 ⟨z1, f0, h1⟩
  refine va (A) (va (Y) (wln (W.ret (thr ?_))))
  obtain rfl := si H
  have g0 := f0.sD 3 [0]
  exact r2 ⟨_, m0, rfl, rfl, pt, A, z1, (Y), g0, rfl, h1, (Sl.nl _ _)⟩
 refine W.skip (nrm (sr (va (.int .u8 d) (bn H fun k2 i1 H => cl (c_linotyperef03_Step__0 f ([] : List Int) d (Sl.nl _ _) i1) ?_))))
 rintro l3 t2 f3 ⟨j, i3, b, h0, rfl, j1, k1⟩
 refine va (.tuple #[j, b]) (va (j) (va (b) (va (j) (va (b) (wln (sr (me (sl (RI .i32) 21 [[J 65533]] ([65533] : List Int) h0 ⟨rfl, trivial⟩) ?_)))))))
 rintro m3 u2 t1 ⟨j3, i0, m1⟩
 refine va (j) ?_
 obtain ⟨v2, q1, g3, j0, n1⟩ := i0.frz 1 rfl (j1.mono t1)
 refine WL.gh q1 (bn H fun l2 s1 H => me (ap (RI .i32) (J 0) 4 43 0 j0 m1.m n1 s1 underlying43) ?_)
 rintro n E j2 ⟨a2, k0, N⟩
 refine va (b) (va (n) (va (b) (wln (W.ret ?_))))
 obtain rfl := si H
 have D := k0.sD 4 [0]
 exact r2 ⟨_, E, rfl, rfl, pt, n, a2, b, D, rfl, N, k1.m⟩
def f_linotyperef03_Step (p0 : List Int) (p1 : Int) : Option ((List Int) × (List Int)) :=
 (app ([] : List Int) p0).bind fun g =>
 (app g ([p1] : List Int)).bind fun b =>
 (f_linotyperef03_Begins b).bind fun a =>
 (andE (decide (a > 0)) (some (decide (a > (b.length : Int))))).bind fun d =>
 if d = true then
 some (([] : List Int), b)
 else
 if (decide (a > 0)) = true then
 (f_linotyperef03_whole b).bind fun e =>
 some (([e] : List Int), ([] : List Int))
 else
 if ((p0.length : Int) == 0) = true then
 some (([65533] : List Int), ([] : List Int))
 else
 (f_linotyperef03_Step__1 ([] : List Int) p1).bind fun c =>
 (app ([65533] : List Int) c.1).bind fun f =>
 some (f, c.2)
theorem c_linotyperef03_Step (O0 : Own c0 G F) (P : List Int) (d : Int) {r : (List Int) × (List Int)} (h2 : Sl (RI .u8) c0 v1 P) (H : f_linotyperef03_Step P d = some r) :
    Calls prog 95 #[v1, .int .u8 d] c0.w (Post c0 fun c v => ∃ R y2 y3, Own c G (es true (RI .i32) R 21 y2 r.1 :: F) ∧ v = .tuple #[R, y3] ∧ OA (RI .i32) c R y2 r.1 ∧ Sl (RI .u8) c y3 r.2) := by
 unfold f_linotyperef03_Step at H
 refine en func95 rfl rfl (sr (va (Y) (va (Y) (wln (sr (me (sl (RI .u8) 5 [] ([] : List Int) O0 trivial) ?_))))))
 rintro v7 c6 l6 ⟨u4, O3, h5⟩
 refine va (v1) (bn H fun n3 h8 H => me (ap (RI .u8) (.int .u8 0) 1 115 0 O3 h5 h2.m h8 underlying115) ?_)
 rintro v13 m2 x2 ⟨h3, O9, o0⟩
 refine va (.int .u8 d) (me (sl (RI .u8) 5 [[.int .u8 d]] ([d] : List Int) O9 ⟨rfl, trivial⟩) ?_)
 rintro v18 n2 z2 ⟨u1, T, q0⟩
 obtain ⟨o2, u0, a3, U, t0⟩ := T.frz 0 rfl q0
 refine WL.gh u0 (bn H fun h v0 H => me (ap (RI .u8) (.int .u8 0) 1 115 1 U o0.m t0 v0 underlying115) ?_)
 rintro v28 p2 b3 ⟨w1, X, i⟩
 refine va (v28) (wln (sr (va (v28) ?_)))
 obtain ⟨q2, x0, u, Z, w0⟩ := X.frz 1 rfl i
 refine WL.gh x0 (bn H fun a y0 H => cl (c_linotyperef03_Begins Z h w0 y0) ?_)
 rintro v39 k x ⟨p, rfl⟩
 refine va (I a) (wln (W.seq (W.seq (bn H fun M t H => W.join (Jn k fun c l => Own c G (es false (RI .u8) v18 5 u1 ([d] : List Int) :: es false (RI .u8) v28 5 w1 h :: F) ∧ l = [(0, v1), (1, .int .u8 d), (6, v28), (7, I a), (25, B M)]) ?_ ?_))))
 ·clear H
  refine W.region (va (I a) (va (B (decide (a > 0))) ?_))
  rcases bo (decide (a > 0)) with g | g
  ·have S := anT g t
   refine vb g (wn (va (I a) (wn (va (v28) (wn (vx (lnO 3 underlying115 i.m) (wn (va (B (decide (a > (h.length : Int)))) ?_))))))))
   obtain rfl := si S
   exact va (B (decide (a > (h.length : Int)))) (wln ⟨k, _, _, rfl, pt, us, p, rfl⟩)
  obtain rfl := anF g t
  exact vb g (ps (ps (ps (ps (va (B false) (wln ⟨k, _, _, rfl, pt, us, p, rfl⟩))))))
 rintro e_ w_ ⟨s, w2, _, rfl, y, rfl, f, rfl⟩
 refine nrm (cn H (fun z0 H => ?_) (fun z0 H => ?_))
 ·refine sr (va (v28) (va (Y) (va (v28) (wln (W.ret (thr ?_))))))
  obtain rfl := si H
  have a1 : OA (RI .i32) s (Y) [] [] := OA.nil (Nat.succ_pos _)
  have q := f.addHole (e := es true (RI .i32) (Y) 21 [] ([] : List Int)) rfl
  have b1 := q.slf 2 rfl (i.mono (u.trans (x.trans y)))
  have a0 := q.sD 3 [0]
  exact r2 ⟨_, s, rfl, rfl, pt, (Y), [], v28, a0, rfl, a1, b1⟩
 refine W.skip (nrm (W.seq (sr (va (I a) (va (B (decide (a > 0))) (wln (cn H (fun c1 H => ?_) (fun c1 H => ?_))))))))
 ·refine sr (va (v28) ?_)
  have d1 := f.slf 1 rfl (i.mono (u.trans (x.trans y)))
  refine bn H fun o e1 H => cl (c_linotyperef03_whole f h d1 e1) ?_
  rintro k3 s2 c3 ⟨b0, rfl⟩
  refine me (sl (RI .i32) 21 [[J o]] ([o] : List Int) b0 ⟨rfl, trivial⟩) ?_
  rintro z l0 d3 ⟨x1, d0, f1⟩
  refine va (z) (va (Y) (wln (W.ret (thr ?_))))
  obtain rfl := si H
  have e0 := d0.sD 3 [0]
  exact r2 ⟨_, l0, rfl, rfl, pt, z, x1, (Y), e0, rfl, f1, (Sl.nl _ _)⟩
 refine W.skip (nrm (W.seq (sr (va (v1) (vx (ln 3 underlying115 h2.m) (va (B ((P.length : Int) == 0)) (wln (cn H (fun g1 H => ?_) (fun g1 H => ?_)))))))))
 ·refine sr (me (sl (RI .i32) 21 [[J 65533]] ([65533] : List Int) f ⟨rfl, trivial⟩) ?_)
  rintro A m0 e3 ⟨z1, f0, h1⟩
  refine va (A) (va (Y) (wln (W.ret (thr ?_))))
  obtain rfl := si H
  have g0 := f0.sD 3 [0]
  exact r2 ⟨_, m0, rfl, rfl, pt, A, z1, (Y), g0, rfl, h1, (Sl.nl _ _)⟩
 refine W.skip (nrm (sr (va (.int .u8 d) (bn H fun k2 i1 H => cl (c_linotyperef03_Step__1 f ([] : List Int) d (Sl.nl _ _) i1) ?_))))
 rintro l3 t2 f3 ⟨j, i3, b, h0, rfl, j1, k1⟩
 refine va (.tuple #[j, b]) (va (j) (va (b) (va (j) (va (b) (wln (sr (me (sl (RI .i32) 21 [[J 65533]] ([65533] : List Int) h0 ⟨rfl, trivial⟩) ?_)))))))
 rintro m3 u2 t1 ⟨j3, i0, m1⟩
 refine va (j) ?_
 obtain ⟨v2, q1, g3, j0, n1⟩ := i0.frz 1 rfl (j1.mono t1)
 refine WL.gh q1 (bn H fun l2 s1 H => me (ap (RI .i32) (J 0) 4 43 0 j0 m1.m n1 s1 underlying43) ?_)
 rintro n E j2 ⟨a2, k0, N⟩
 refine va (b) (va (n) (va (b) (wln (W.ret ?_))))
 obtain rfl := si H
 have D := k0.sD 4 [0]
 exact r2 ⟨_, E, rfl, rfl, pt, n, a2, b, D, rfl, N, k1.m⟩
def f_linotyperef03_Feed (p0 : List Int) (p1 : List Int) : Option ((List Int) × (List Int)) :=
 (iter (σ := (List Int) × (List Int) × Int) (τ := ((List Int) × (List Int))) (((p1.length : Int) - 0).toNat + 1) (fun a =>
 if (decide (a.2.2 < (p1.length : Int))) = true then
 (idx p1 a.2.2).bind fun d =>
 (f_linotyperef03_Step a.1 d).bind fun b =>
 (app a.2.1 b.1).bind fun e =>
 some (.inl (b.2, e, (w64 (a.2.2 + 1))))
 else
 some (.inr (a.1, a.2.1))) (p0, ([] : List Int), 0)).bind fun c =>
 some (c.2, c.1)
theorem c_linotyperef03_Feed (O0 : Own c0 G F) (p0 : List Int) (n : List Int) {r : (List Int) × (List Int)} (h2 : Sl (RI .u8) c0 v1 p0) (k : Sl (RI .u8) c0 v3 n) (H : f_linotyperef03_Feed p0 n = some r) :
    Calls prog 61 #[v1, v3] c0.w (Post c0 fun c v => ∃ p y2 y3, Own c G (es true (RI .i32) p 21 y2 r.1 :: F) ∧ v = .tuple #[p, y3] ∧ OA (RI .i32) c p y2 r.1 ∧ Sl (RI .u8) c y3 r.2) := by
 unfold f_linotyperef03_Feed at H
 refine en func61 rfl rfl (sr (va (Y) (va (Y) (wln (sr (va (Y) (wln (W.seq (sr (va (I 0) (wln (W.block (bn H fun f1 h5 q => lp h5 (fun a => Jn c0 fun c l => ∃ v7 f v9, Own c G (es true (RI .i32) v7 21 f a.2.1 :: F) ∧ l = [(0, v9), (1, v3), (6, v7), (7, I a.2.2)] ∧ OA (RI .i32) c v7 f a.2.1 ∧ Sl (RI .u8) c v9 a.1) (fun b ex e w => ex = .exit 0 ∧ (Jn c0 fun c l => ∃ v10 d v12, Own c G (es true (RI .i32) v10 21 d b.2 :: F) ∧ l = [(0, v12), (6, v10)] ∧ OA (RI .i32) c v10 d b.2 ∧ Sl (RI .u8) c v12 b.1) e w) ?_ ?_ ?_)))))))))))))
 ·clear q h5
  intro a h1 M k0 H
  revert M k0
  rintro e_ w_ ⟨A, z0, _, rfl, g0, rfl, v7, f, v9, g, rfl, h, i⟩
  refine W.seq (sr (va (I a.2.2) (va (v3) (vx (ln 3 underlying24 k.m) (va (B (decide (a.2.2 < (n.length : Int)))) (wln (cn H (fun N H => ?_) (fun N H => ?_))))))))
  ·refine W.skip (nrm (W.seq (W.block (sr (va (Y) (wln (sr (va (v9) (va (v3) (va (I a.2.2) (bn H fun o j H => ?_)))))))))))
   obtain ⟨t0, P, h0⟩ := Sl.at (k.mono g0) (idx_get j)
   obtain rfl := P
   refine vx (ix underlying24 k.m j) (vx (l1 underlying5 (h0 0 _ rfl)) (bn H fun v0 R H => cl (c_linotyperef03_Step g a.1 o i R) ?_))
   rintro v37 x0 b1 ⟨v27, g1, v30, s, rfl, S, T⟩
   refine va (.tuple #[v27, v30]) (va (v27) (va (v30) (va (v27) (va (v30) (wln (W.region (va (v7) (va (v27) ?_))))))))
   obtain ⟨y0, X, c1, t, U⟩ := s.frz 0 rfl S
   refine WL.gh X (bn H fun w0 Z H => me (ap (RI .i32) (J 0) 4 43 1 t h.m U Z underlying43) ?_)
   rintro v47 D d1 ⟨j0, u, a0⟩
   refine va (v47) (WL.nil (bkn (nrm (W.region (va (I a.2.2) (va (I (w64 (a.2.2 + 1))) (va (I (w64 (a.2.2 + 1))) (WL.nil ?_))))))))
   obtain rfl := si H
   refine ⟨_, rfl, ?_⟩
   have x := u.sD 2 [1]
   exact ⟨D, _, _, rfl, pt, us, v47, j0, v30, x, rfl, a0, T.m⟩
  refine W.exit (thx ?_)
  obtain rfl := si H
  exact ⟨_, rfl, rfl, ⟨A, _, _, rfl, pt, us, v7, f, v9, g, rfl, h, i⟩⟩
 ·have d0 : OA (RI .i32) c0 (Y) [] [] := OA.nil (Nat.succ_pos _)
  have y := O0.addHole (e := es true (RI .i32) (Y) 21 [] ([] : List Int)) rfl
  exact ⟨c0, _, _, rfl, pt, us, (Y), [], v1, y, rfl, d0, h2⟩
 rintro _ e_ w_ ⟨rfl, E, a1, _, rfl, e1, rfl, v10, d, v12, z, rfl, e0, f0⟩
 refine bke (nrm (sr (va (v10) (va (v12) (va (v10) (va (v12) (wln (W.ret ?_))))))))
 obtain rfl := si q
 exact r2 ⟨_, E, rfl, rfl, pt, v10, d, v12, z, rfl, e0, f0⟩
def f_linotyperef04_All (p0 : List Int) : Option (List G_linotyperef04_Got) :=
 (iter (σ := (List G_linotyperef04_Got) × Int) (τ := (List G_linotyperef04_Got)) (((p0.length : Int) - 0).toNat + 1) (fun a =>
 if (decide (a.2 < (p0.length : Int))) = true then
 (iter (σ := Int) (τ := Int) (((p0.length : Int) - (w64 (a.2 + 0))).toNat + 1) (fun c =>
 (andE (decide ((w64 (a.2 + c)) < (p0.length : Int))) ((slc p0 a.2 (w64 ((w64 (a.2 + c)) + 1))).bind fun h =>
 (f_linotyperef03_Begins h).bind fun i =>
 some (decide (i > 0)))).bind fun g =>
 if g = true then
 (slc p0 a.2 (w64 (a.2 + (w64 (c + 1))))).bind fun j =>
 (f_linotyperef03_Begins j).bind fun k =>
 if (k == (w64 (c + 1))) = true then
 some (.inr ((w64 (c + 1))))
 else
 some (.inl ((w64 (c + 1))))
 else
 some (.inr (c))) (0)).bind fun b =>
 (if (decide (b > 0)) = true then
 (slc p0 a.2 (w64 (a.2 + b))).bind fun l =>
 (f_linotyperef03_Feed ([] : List Int) l).bind fun e =>
 if ((e.2.length : Int) == 0) = true then
 (idx e.1 0).bind fun m =>
 some (m, b, (w64 (a.2 + b)), false)
 else
 some (65533, (imax b 1), (imin (w64 ((w64 (a.2 + b)) + 1)) (p0.length : Int)), true)
 else
 some (65533, (imax b 1), (w64 (a.2 + 1)), true)).bind fun d =>
 (app a.1 ([(⟨d.1, a.2, d.2.1, d.2.2.1, d.2.2.2⟩ : G_linotyperef04_Got)] : List G_linotyperef04_Got)).bind fun f =>
 some (.inl (f, (w64 (a.2 + d.2.1))))
 else
 some (.inr (a.1))) (([] : List G_linotyperef04_Got), 0)).bind fun n =>
 some n
theorem c_linotyperef04_All (O0 : Own c0 G F) (n : List Int) {r : List G_linotyperef04_Got} (u : Sl (RI .u8) c0 v1 n) (H : f_linotyperef04_All n = some r) :
    Calls prog 40 #[v1] c0.w (Post c0 fun c v => ∃ y1 y2, Own c G (es true R_linotyperef04_Got y1 92 y2 r :: F) ∧ v = y1 ∧ OA R_linotyperef04_Got c y1 y2 r) := by
 unfold f_linotyperef04_All at H
 refine en func40 rfl rfl (sr (va (Y) (wln (sr (va (Y) (wln (sr (va (I 0) (wln (W.seq (W.block (bn H fun o4 h3 H4 => lp h3 (fun a => Jn c0 fun c l => ∃ v5 o, Own c G (es true R_linotyperef04_Got v5 92 o a.1 :: F) ∧ l = [(0, v1), (3, v5), (4, I a.2)] ∧ OA R_linotyperef04_Got c v5 o a.1) (fun P ex e w => ex = .exit 0 ∧ (Jn c0 fun c l => ∃ v7 u8, Own c G (es true R_linotyperef04_Got v7 92 u8 P :: F) ∧ l = [(3, v7)] ∧ OA R_linotyperef04_Got c v7 u8 P) e w) ?_ ?_ ?_))))))))))))
 ·clear H4 h3
  intro a l3 E T H
  revert E T
  rintro D S ⟨X, g4, _, rfl, l9, rfl, v5, o, d0, rfl, l0⟩
  refine W.seq (sr (va (I a.2) (va (v1) (vx (ln 3 underlying24 u.m) (va (B (decide (a.2 < (n.length : Int)))) (wln (cn H (fun g2 H => ?_) (fun g2 H => ?_))))))))
  ·refine W.skip (nrm (W.block (sr (va (I 0) (wln (W.seq (W.block (bn H fun b m0 b0 => lp m0 (fun f => Jn X fun c l => Own c G (es true R_linotyperef04_Got v5 92 o a.1 :: F) ∧ l = [(0, v1), (3, v5), (4, I a.2), (5, I f)]) (fun Z ex e w => ex = .exit 2 ∧ (Jn X fun c l => Own c G (es true R_linotyperef04_Got v5 92 o a.1 :: F) ∧ l = [(0, v1), (3, v5), (4, I a.2), (5, I Z)]) e w) ?_ ?_ ?_))))))))
   ·clear b0 m0
    intro f l3 E T H
    revert E T
    rintro D S ⟨i0, h4, _, rfl, q0, rfl, e0, rfl⟩
    refine W.seq (W.seq (bn H fun z0 o0 H => W.join (Jn i0 fun c l => Own c G (es true R_linotyperef04_Got v5 92 o a.1 :: F) ∧ l = [(0, v1), (3, v5), (4, I a.2), (5, I f), (29, B z0)]) ?_ ?_))
    ·clear H
     refine W.region (va (I a.2) (va (I f) (va (I (w64 (a.2 + f))) (va (v1) (vx (ln 3 underlying24 u.m) (va (B (decide ((w64 (a.2 + f)) < (n.length : Int)))) ?_))))))
     rcases bo (decide ((w64 (a.2 + f)) < (n.length : Int))) with i | i
     ·have h := anT i o0
      refine vb i (wn (va (v1) (wn (va (I a.2) (wn (va (I a.2) (wn (va (I f) (wn (va (I (w64 (a.2 + f))) (wn (va (I (w64 ((w64 (a.2 + f)) + 1))) (wn (bn h fun j1 i2 h => ?_))))))))))))))
      obtain ⟨v29, k2, l2⟩ := run_cut (k := .i64) (k' := .i64) underlying24 (by kernel_rfl) (u.mono (l9.trans q0)) i2
      refine vr v29 (rx (by kernel_rfl) (k2 _)) (wn (bn h fun U m2 h => cl (c_linotyperef03_Begins e0 j1 l2 m2) ?_))
      rintro v38 c2 k4 ⟨t1, rfl⟩
      refine wn (va (B (decide (U > 0))) ?_)
      obtain rfl := si h
      exact va (B (decide (U > 0))) (wln ⟨c2, _, _, rfl, pt, us, t1, rfl⟩)
     obtain rfl := anF i o0
     exact vb i (ps (ps (ps (ps (ps (ps (ps (ps (ps (va (B false) (wln ⟨i0, _, _, rfl, pt, us, e0, rfl⟩)))))))))))
    rintro D S ⟨d2, i4, _, rfl, d3, rfl, f0, rfl⟩
    refine nrm (cn H (fun n2 H => ?_) (fun n2 H => ?_))
    ·refine W.skip (nrm (W.block (sr (va (I f) (va (I (w64 (f + 1))) (va (I (w64 (f + 1))) (wln (sr (va (v1) (va (I a.2) (va (I a.2) (va (I (w64 (f + 1))) (va (I (w64 (a.2 + (w64 (f + 1))))) (bn H fun k1 o2 H => ?_))))))))))))))
     obtain ⟨v47, p2, q2⟩ := run_cut (k := .i64) (k' := .i64) underlying24 (by kernel_rfl) (u.mono (l9.trans (q0.trans d3))) o2
     refine vr v47 (rx (by kernel_rfl) (p2 _)) (bn H fun m1 s2 H => cl (c_linotyperef03_Begins f0 k1 q2 s2) ?_)
     rintro v56 j0 l4 ⟨g0, rfl⟩
     refine va (I (w64 (f + 1))) (va (B (m1 == (w64 (f + 1)))) (wln (cn H (fun t2 H => ?_) (fun t2 H => ?_))))
     ·refine W.exit (bko rfl ?_)
      obtain rfl := si H
      exact ⟨_, rfl, rfl, ⟨j0, _, _, rfl, pt, us, g0, rfl⟩⟩
     refine W.skip (bkn ?_)
     obtain rfl := si H
     exact ⟨_, rfl, ⟨j0, _, _, rfl, pt, us, g0, rfl⟩⟩
    refine W.exit (thx ?_)
    obtain rfl := si H
    exact ⟨_, rfl, rfl, ⟨d2, _, _, rfl, pt, us, f0, rfl⟩⟩
   ·exact ⟨X, _, _, rfl, pt, us, d0, rfl⟩
   rintro _ D S ⟨rfl, d4, j4, _, rfl, e3, rfl, u1, rfl⟩
   refine bke (nrm (sr (va (I a.2) (va (I b) (va (I (imax b 1)) (va (I a.2) (va (I (w64 (a.2 + 1))) (va (.agg #[J 65533, I a.2, I (imax b 1), I (w64 (a.2 + 1)), B true]) (me (al 92 [J 0, I 0, I 0, I 0, B false] u1) ?_)))))))))
   rintro q4 e4 f3 ⟨q, rfl, w1⟩
   refine md (sA 92 [J 65533, I a.2, I (imax b 1), I (w64 (a.2 + 1)), B true] 0 w1 ⟨rfl, rfl, rfl, rfl, rfl, trivial⟩) ?_
   rintro k0 g3 h0
   refine wln (bn b0 fun d g x => W.seqJ (Jn k0 fun c l => Own c G ((Eb q 92 [J d.1, I a.2, I d.2.1, I d.2.2.1, B d.2.2.2]) :: es true R_linotyperef04_Got v5 92 o a.1 :: F) ∧ l = [(0, v1), (3, v5), (4, I a.2), (6, Q q)]) ?_ ?_)
   ·refine sr (va (I b) (va (B (decide (b > 0))) (wln (cn g (fun u2 g => ?_) (fun u2 g => ?_)))))
    ·refine sr (va (v1) (va (I a.2) (va (I a.2) (va (I b) (va (I (w64 (a.2 + b))) (bn g fun n1 v2 g => ?_))))))
     obtain ⟨k3, w2, x2⟩ := run_cut (k := .i64) (k' := .i64) underlying24 (by kernel_rfl) (u.mono (l9.trans (e3.trans (f3.trans g3)))) v2
     refine vr k3 (rx (by kernel_rfl) (w2 _)) (bn g fun p1 z2 g => cl (c_linotyperef03_Feed h0 ([] : List Int) n1 (Sl.nl _ _) x2 z2) ?_)
     rintro r4 f4 m4 ⟨s, p4, t, x1, rfl, M, a3⟩
     refine va (.tuple #[s, t]) (va (s) (va (t) (va (s) (va (t) (wln (sr (va (I a.2) (va (I b) (va (I (w64 (a.2 + b))) (va (I (w64 ((w64 (a.2 + b)) + 1))) (va (v1) (vx (ln 3 underlying24 u.m) (va (I (imin (w64 ((w64 (a.2 + b)) + 1)) (n.length : Int))) (va (.pointer (some ⟨q, 3, none⟩)) (md (sC 3 3 (I (imin (w64 ((w64 (a.2 + b)) + 1)) (n.length : Int))) [J 65533, I a.2, I (imax b 1), I (imin (w64 ((w64 (a.2 + b)) + 1)) (n.length : Int)), B true] 1 x1 ⟨rfl, trivial⟩) ?_)))))))))))))))
     rintro e2 i3 A
     refine wln (sr (va (t) (vx (ln 3 underlying115 a3.m) (va (B ((p1.2.length : Int) == 0)) (wln (cn g (fun b3 g => ?_) (fun b3 g => ?_)))))))
     ·refine W.region (va (s) (bn g fun p N g => vx (ixO underlying43 M.m N) ?_))
      obtain ⟨a4, c3, j3⟩ := OA.at (M.mono i3) N
      obtain rfl := c3
      refine vr (J p) (rx (by kernel_rfl) (ldE1 underlying21 rfl (A.on 0 rfl) (M.m.blk N) (at1 (j := 0) j3 rfl))) (va (I a.2) (va (I b) (va (I a.2) (va (I b) (va (I (w64 (a.2 + b))) (va (.agg #[J p, I a.2, I b, I (w64 (a.2 + b)), B false]) (md (sA 92 [J p, I a.2, I b, I (w64 (a.2 + b)), B false] 1 A ⟨rfl, rfl, rfl, rfl, rfl, trivial⟩) ?_)))))))
      rintro f2 n4 z1
      refine wln ?_
      obtain rfl := si g
      have a2 := z1.sD 3 [1, 2]
      exact ⟨f2, _, _, rfl, pt, us, a2, rfl⟩
     refine W.skip (nrm ?_)
     obtain rfl := si g
     have b2 := A.sD 3 [1, 2]
     exact ⟨e2, _, _, rfl, pt, us, b2, rfl⟩
    refine W.skip (nrm ?_)
    obtain rfl := si g
    exact ⟨k0, _, _, rfl, pt, us, h0, rfl⟩
   rintro D S ⟨p3, t3, _, rfl, v3, rfl, y, rfl⟩
   refine sr (va (v5) (vx (leN 92 0 [J d.1, I a.2, I d.2.1, I d.2.2.1, B d.2.2.2] (y.on 0 rfl)) (me (sl R_linotyperef04_Got 92 [[J d.1, I a.2, I d.2.1, I d.2.2.1, B d.2.2.2]] ([(⟨d.1, a.2, d.2.1, d.2.2.1, d.2.2.2⟩ : G_linotyperef04_Got)] : List G_linotyperef04_Got) y ⟨rfl, trivial⟩) ?_)))
   rintro c4 q3 w3 ⟨b4, s0, a1⟩
   obtain ⟨s3, c1, x3, t0, b1⟩ := s0.frz 0 rfl a1
   refine WL.gh c1 (bn x fun n3 d1 x => me (ap R_linotyperef04_Got (.agg #[J 0, I 0, I 0, I 0, B false]) 40 89 2 t0 l0.m b1 d1 underlying89) ?_)
   rintro R x0 y3 ⟨i1, z, e1⟩
   refine va (R) (wln (W.region (va (I a.2) (va (.pointer (some ⟨q, 2, none⟩)) (vx (le1 2 underlying3 (z.on 1 rfl)) (va (I (w64 (a.2 + d.2.1))) (va (I (w64 (a.2 + d.2.1))) (WL.nil (bkn ?_)))))))))
   obtain rfl := si x
   refine ⟨_, rfl, ?_⟩
   have u0 := z.sD 3 [2]
   exact ⟨x0, _, _, rfl, pt, us, R, i1, u0, rfl, e1⟩
  refine W.exit (thx ?_)
  obtain rfl := si H
  exact ⟨_, rfl, rfl, ⟨X, _, _, rfl, pt, us, v5, o, d0, rfl, l0⟩⟩
 ·have f1 : OA R_linotyperef04_Got c0 (Y) [] [] := OA.nil (Nat.succ_pos _)
  have v0 := O0.addHole (e := es true R_linotyperef04_Got (Y) 92 [] ([] : List G_linotyperef04_Got)) rfl
  exact ⟨c0, _, _, rfl, pt, us, (Y), [], v0, rfl, f1⟩
 rintro _ D S ⟨rfl, y0, u3, _, rfl, z3, rfl, v7, u8, w0, rfl, g1⟩
 refine bke (nrm (sr (va (v7) (va (v7) (wln (W.ret ?_))))))
 obtain rfl := si H4
 exact r1 ⟨_, y0, rfl, rfl, pt, v7, u8, w0, rfl, g1⟩
def f_linotyperef04_Runes (p0 : List Int) : Option (List Int) :=
 (f_linotyperef04_All p0).bind fun b =>
 (iter (σ := (List Int) × Int) (τ := (List Int)) (((b.length : Int) - 0).toNat + 1) (fun a =>
 if (decide (a.2 < (b.length : Int))) = true then
 (idx b a.2).bind fun d =>
 (app a.1 ([d.R] : List Int)).bind fun e =>
 some (.inl (e, (w64 (a.2 + 1))))
 else
 some (.inr (a.1))) (([] : List Int), 0)).bind fun c =>
 some c
theorem c_linotyperef04_Runes (O0 : Own c0 G F) (t : List Int) {r : List Int} (h2 : Sl (RI .u8) c0 v1 t) (H : f_linotyperef04_Runes t = some r) :
    Calls prog 17 #[v1] c0.w (Post c0 fun c v => ∃ u y2, Own c G (es true (RI .i32) u 21 y2 r :: F) ∧ v = u ∧ OA (RI .i32) c u y2 r) := by
 unfold f_linotyperef04_Runes at H
 refine en func17 rfl rfl (sr (va (Y) (wln (sr (va (Y) (wln (sr (va (v1) (bn H fun n h3 H => cl (c_linotyperef04_All O0 t h2 h3) ?_)))))))))
 rintro v4 d d1 ⟨_, u5, O8, rfl, o⟩
 refine va (v4) (wln (W.seq (sr (va (I 0) (wln (W.block (bn H fun w0 q p => lp q (fun a => Jn d fun c l => ∃ v15 g, Own c G (es true (RI .i32) v15 21 g a.1 :: es true R_linotyperef04_Got v4 92 u5 n :: F) ∧ l = [(3, v15), (4, v4), (5, I a.2)] ∧ OA (RI .i32) c v15 g a.1) (fun f ex e w => ex = .exit 0 ∧ (Jn d fun c l => ∃ v17 h, Own c G (es true (RI .i32) v17 21 h f :: es true R_linotyperef04_Got v4 92 u5 n :: F) ∧ l = [(3, v17)] ∧ OA (RI .i32) c v17 h f) e w) ?_ ?_ ?_)))))))
 ·clear p q
  intro a j1 T l0 H
  revert T l0
  rintro e_ w_ ⟨N, b1, _, rfl, h0, rfl, v15, g, i, rfl, s⟩
  refine W.seq (sr (va (I a.2) (va (v4) (vx (lnO 3 underlying89 o.m) (va (B (decide (a.2 < (n.length : Int)))) (wln (cn H (fun U H => ?_) (fun U H => ?_))))))))
  ·refine W.skip (nrm (W.seq (W.block (W.region (va (v15) (va (v4) (va (I a.2) (bn H fun b k H => vx (ixO underlying89 o.m k) (va (.pointer (some ⟨sb v4, a.2.toNat * 5, none⟩)) ?_)))))))))
   obtain ⟨v0, X, i0⟩ := OA.at (o.mono h0) k
   obtain rfl := X
   refine vr (J b.R) (rx (by kernel_rfl) (ldE1 underlying21 rfl (i.on 1 rfl) (o.m.blk k) (at1 (j := 0) i0 rfl))) (me (sl (RI .i32) 21 [[J b.R]] ([b.R] : List Int) i ⟨rfl, trivial⟩) ?_)
   rintro v35 z0 e1 ⟨i1, x, Z⟩
   obtain ⟨a1, b0, f1, y, a0⟩ := x.frz 0 rfl Z
   refine WL.gh b0 (bn H fun y0 d0 H => me (ap (RI .i32) (J 0) 4 43 1 y s.m a0 d0 underlying43) ?_)
   rintro v45 P g1 ⟨j0, z, e0⟩
   refine va (v45) (WL.nil (bkn (nrm (W.region (va (I a.2) (va (I (w64 (a.2 + 1))) (va (I (w64 (a.2 + 1))) (WL.nil ?_))))))))
   obtain rfl := si H
   refine ⟨_, rfl, ?_⟩
   have A := z.sD 3 [1, 2]
   exact ⟨P, _, _, rfl, pt, us, v45, j0, A, rfl, e0⟩
  refine W.exit (thx ?_)
  obtain rfl := si H
  exact ⟨_, rfl, rfl, ⟨N, _, _, rfl, pt, us, v15, g, i, rfl, s⟩⟩
 ·have f0 : OA (RI .i32) d (Y) [] [] := OA.nil (Nat.succ_pos _)
  have D := O8.addHole (e := es true (RI .i32) (Y) 21 [] ([] : List Int)) rfl
  exact ⟨d, _, _, rfl, pt, us, (Y), [], D, rfl, f0⟩
 rintro _ e_ w_ ⟨rfl, S, c1, _, rfl, h1, rfl, v17, h, E, rfl, g0⟩
 refine bke (nrm (sr (va (v17) (va (v17) (wln (W.ret ?_))))))
 obtain rfl := si p
 have M := E.sD 2 [0]
 exact r1 ⟨_, S, rfl, rfl, pt, v17, h, M, rfl, g0⟩
def f_linotyperef16_Props (p0 : List Int) : Option (List G_api_Prop) :=
 (iter (σ := (List G_api_Prop) × Int) (τ := (List G_api_Prop)) (((p0.length : Int) - 0).toNat + 1) (fun a =>
 if (decide (a.2 < (p0.length : Int))) = true then
 (idx p0 a.2).bind fun b =>
 (f_linotyperef13_Of b).bind fun c =>
 (app a.1 ([c] : List G_api_Prop)).bind fun d =>
 some (.inl (d, (w64 (a.2 + 1))))
 else
 some (.inr (a.1))) (([] : List G_api_Prop), 0)).bind fun e =>
 some e
theorem c_linotyperef16_Props (O0 : Own c0 G F) (n : List Int) {r : List G_api_Prop} (k : Sl (RI .i32) c0 v1 n) (H : f_linotyperef16_Props n = some r) :
    Calls prog 84 #[v1] c0.w (Post c0 fun c v => ∃ p y2, Own c G (es true R_api_Prop p 133 y2 r :: F) ∧ v = p ∧ OA R_api_Prop c p y2 r) := by
 unfold f_linotyperef16_Props at H
 refine en func84 rfl rfl (sr (va (Y) (wln (sr (va (Y) (wln (W.seq (sr (va (I 0) (wln (W.block (bn H fun c1 S q => lp S (fun a => Jn c0 fun c l => ∃ v5 f, Own c G (es true R_api_Prop v5 133 f a.1 :: F) ∧ l = [(0, v1), (3, v5), (4, I a.2)] ∧ OA R_api_Prop c v5 f a.1) (fun d ex e w => ex = .exit 0 ∧ (Jn c0 fun c l => ∃ v7 g, Own c G (es true R_api_Prop v7 133 g d :: F) ∧ l = [(3, v7)] ∧ OA R_api_Prop c v7 g d) e w) ?_ ?_ ?_))))))))))))
 ·clear q S
  intro a e1 M g0 H
  revert M g0
  rintro e_ w_ ⟨c9, v0, _, rfl, l9, rfl, v5, f, h, rfl, i⟩
  refine W.seq (sr (va (I a.2) (va (v1) (vx (ln 3 underlying43 k.m) (va (B (decide (a.2 < (n.length : Int)))) (wln (cn H (fun N H => ?_) (fun N H => ?_))))))))
  ·refine W.skip (nrm (W.seq (W.block (W.region (va (v5) (va (v1) (va (I a.2) (bn H fun o j H => ?_))))))))
   obtain ⟨m0, P, e0⟩ := Sl.at (k.mono l9) (idx_get j)
   obtain rfl := P
   refine vx (ix underlying43 k.m j) (vx (l1 underlying21 (e0 0 _ rfl)) (bn H fun b R H => cl (c_linotyperef13_Of h o R) ?_))
   rintro v27 s0 x0 ⟨s, rfl⟩
   refine me (sl R_api_Prop 133 [[I b.Break, B b.Pict, I b.Conj, I b.East]] ([b] : List G_api_Prop) s ⟨rfl, trivial⟩) ?_
   rintro v32 t0 y0 ⟨d1, t, T⟩
   obtain ⟨u0, X, z0, u, U⟩ := t.frz 0 rfl T
   refine WL.gh X (bn H fun q0 Z H => me (ap R_api_Prop (.agg #[I 0, B false, I 0, I 0]) 32 143 1 u i.m U Z underlying143) ?_)
   rintro v42 D a1 ⟨f0, x, a0⟩
   refine va (v42) (WL.nil (bkn (nrm (W.region (va (I a.2) (va (I (w64 (a.2 + 1))) (va (I (w64 (a.2 + 1))) (WL.nil ?_))))))))
   obtain rfl := si H
   refine ⟨_, rfl, ?_⟩
   have y := x.sD 2 [1]
   exact ⟨D, _, _, rfl, pt, us, v42, f0, y, rfl, a0⟩
  refine W.exit (thx ?_)
  obtain rfl := si H
  exact ⟨_, rfl, rfl, ⟨c9, _, _, rfl, pt, us, v5, f, h, rfl, i⟩⟩
 ·have b0 : OA R_api_Prop c0 (Y) [] [] := OA.nil (Nat.succ_pos _)
  have z := O0.addHole (e := es true R_api_Prop (Y) 133 [] ([] : List G_api_Prop)) rfl
  exact ⟨c0, _, _, rfl, pt, us, (Y), [], z, rfl, b0⟩
 rintro _ e_ w_ ⟨rfl, E, w0, _, rfl, b1, rfl, v7, g, A, rfl, d0⟩
 refine bke (nrm (sr (va (v7) (va (v7) (wln (W.ret ?_))))))
 obtain rfl := si q
 exact r1 ⟨_, E, rfl, rfl, pt, v7, g, A, rfl, d0⟩
def f_linotyperef14_rows  : Option (List ByteArray) :=
 some ([(⟨#[48, 48, 48, 48, 49, 49, 48, 48, 49, 48, 48, 48, 48, 48]⟩ : ByteArray), (⟨#[48, 48, 49, 48, 48, 48, 48, 48, 48, 48, 48, 48, 48, 48]⟩ : ByteArray), (⟨#[48, 48, 48, 48, 48, 48, 48, 48, 48, 48, 48, 48, 48, 48]⟩ : ByteArray), (⟨#[48, 48, 48, 48, 48, 48, 48, 48, 48, 48, 48, 48, 48, 48]⟩ : ByteArray), (⟨#[50, 48, 48, 48, 49, 49, 48, 48, 49, 48, 48, 48, 48, 48]⟩ : ByteArray), (⟨#[50, 48, 48, 48, 49, 49, 48, 48, 49, 48, 48, 48, 48, 48]⟩ : ByteArray), (⟨#[48, 48, 48, 48, 49, 49, 50, 48, 49, 48, 48, 48, 48, 48]⟩ : ByteArray), (⟨#[49, 48, 48, 48, 49, 49, 49, 49, 49, 49, 49, 49, 49, 49]⟩ : ByteArray), (⟨#[48, 48, 48, 48, 49, 49, 48, 48, 49, 48, 48, 48, 48, 48]⟩ : ByteArray), (⟨#[48, 48, 48, 48, 49, 49, 48, 48, 49, 49, 49, 48, 49, 49]⟩ : ByteArray), (⟨#[48, 48, 48, 48, 49, 49, 48, 48, 49, 48, 49, 49, 48, 48]⟩ : ByteArray), (⟨#[48, 48, 48, 48, 49, 49, 48, 48, 49, 48, 48, 49, 48, 48]⟩ : ByteArray), (⟨#[48, 48, 48, 48, 49, 49, 48, 48, 49, 48, 49, 49, 48, 48]⟩ : ByteArray), (⟨#[48, 48, 48, 48, 49, 49, 48, 48, 49, 48, 48, 49, 48, 48]⟩ : ByteArray)] : List ByteArray)
theorem c_linotyperef14_rows (d : Own c0 G F) {r : List ByteArray} (H : f_linotyperef14_rows  = some r) :
    Calls prog 153 #[] c0.w (Post c0 fun c v => ∃ a b, Own c G (es true RS a 9 b r :: F) ∧ v = a ∧ OA RS c a b r) := by
 unfold f_linotyperef14_rows at H
 refine en func153 rfl rfl (sr (va (Y) (wln (sr (me (sl RS 9 [[.string (⟨#[48, 48, 48, 48, 49, 49, 48, 48, 49, 48, 48, 48, 48, 48]⟩ : ByteArray)], [.string (⟨#[48, 48, 49, 48, 48, 48, 48, 48, 48, 48, 48, 48, 48, 48]⟩ : ByteArray)], [.string (⟨#[48, 48, 48, 48, 48, 48, 48, 48, 48, 48, 48, 48, 48, 48]⟩ : ByteArray)], [.string (⟨#[48, 48, 48, 48, 48, 48, 48, 48, 48, 48, 48, 48, 48, 48]⟩ : ByteArray)], [.string (⟨#[50, 48, 48, 48, 49, 49, 48, 48, 49, 48, 48, 48, 48, 48]⟩ : ByteArray)], [.string (⟨#[50, 48, 48, 48, 49, 49, 48, 48, 49, 48, 48, 48, 48, 48]⟩ : ByteArray)], [.string (⟨#[48, 48, 48, 48, 49, 49, 50, 48, 49, 48, 48, 48, 48, 48]⟩ : ByteArray)], [.string (⟨#[49, 48, 48, 48, 49, 49, 49, 49, 49, 49, 49, 49, 49, 49]⟩ : ByteArray)], [.string (⟨#[48, 48, 48, 48, 49, 49, 48, 48, 49, 48, 48, 48, 48, 48]⟩ : ByteArray)], [.string (⟨#[48, 48, 48, 48, 49, 49, 48, 48, 49, 49, 49, 48, 49, 49]⟩ : ByteArray)], [.string (⟨#[48, 48, 48, 48, 49, 49, 48, 48, 49, 48, 49, 49, 48, 48]⟩ : ByteArray)], [.string (⟨#[48, 48, 48, 48, 49, 49, 48, 48, 49, 48, 48, 49, 48, 48]⟩ : ByteArray)], [.string (⟨#[48, 48, 48, 48, 49, 49, 48, 48, 49, 48, 49, 49, 48, 48]⟩ : ByteArray)], [.string (⟨#[48, 48, 48, 48, 49, 49, 48, 48, 49, 48, 48, 49, 48, 48]⟩ : ByteArray)]] ([(⟨#[48, 48, 48, 48, 49, 49, 48, 48, 49, 48, 48, 48, 48, 48]⟩ : ByteArray), (⟨#[48, 48, 49, 48, 48, 48, 48, 48, 48, 48, 48, 48, 48, 48]⟩ : ByteArray), (⟨#[48, 48, 48, 48, 48, 48, 48, 48, 48, 48, 48, 48, 48, 48]⟩ : ByteArray), (⟨#[48, 48, 48, 48, 48, 48, 48, 48, 48, 48, 48, 48, 48, 48]⟩ : ByteArray), (⟨#[50, 48, 48, 48, 49, 49, 48, 48, 49, 48, 48, 48, 48, 48]⟩ : ByteArray), (⟨#[50, 48, 48, 48, 49, 49, 48, 48, 49, 48, 48, 48, 48, 48]⟩ : ByteArray), (⟨#[48, 48, 48, 48, 49, 49, 50, 48, 49, 48, 48, 48, 48, 48]⟩ : ByteArray), (⟨#[49, 48, 48, 48, 49, 49, 49, 49, 49, 49, 49, 49, 49, 49]⟩ : ByteArray), (⟨#[48, 48, 48, 48, 49, 49, 48, 48, 49, 48, 48, 48, 48, 48]⟩ : ByteArray), (⟨#[48, 48, 48, 48, 49, 49, 48, 48, 49, 49, 49, 48, 49, 49]⟩ : ByteArray), (⟨#[48, 48, 48, 48, 49, 49, 48, 48, 49, 48, 49, 49, 48, 48]⟩ : ByteArray), (⟨#[48, 48, 48, 48, 49, 49, 48, 48, 49, 48, 48, 49, 48, 48]⟩ : ByteArray), (⟨#[48, 48, 48, 48, 49, 49, 48, 48, 49, 48, 49, 49, 48, 48]⟩ : ByteArray), (⟨#[48, 48, 48, 48, 49, 49, 48, 48, 49, 48, 48, 49, 48, 48]⟩ : ByteArray)] : List ByteArray) d ⟨rfl, rfl, rfl, rfl, rfl, rfl, rfl, rfl, rfl, rfl, rfl, rfl, rfl, rfl, trivial⟩) ?_)))))
 rintro v5 f i ⟨h, e, g⟩
 refine va (v5) (wln (W.ret ?_))
 obtain rfl := si H
 exact r1 ⟨_, f, rfl, rfl, pt, v5, h, e, rfl, g⟩
def f_linotyperef14_Join (p0 : Int) (p1 : Int) : Option (Int) :=
 ((orE (decide (p0 < 0)) (some (decide (p0 > 13)))).bind fun f =>
 if f = true then
 some (0)
 else
 some (p0)).bind fun g =>
 ((orE (decide (p1 < 0)) (some (decide (p1 > 13)))).bind fun a =>
 if a = true then
 some (0)
 else
 some (p1)).bind fun e =>
 (f_linotyperef14_rows).bind fun b =>
 (idx b g).bind fun c =>
 (sidx c e).bind fun d =>
 some (w64 ((w64 d) - 48))
theorem c_linotyperef14_Join (N : Own c0 G F) (e : Int) (d : Int) {r : Int} (H : f_linotyperef14_Join e d = some r) :
    Calls prog 118 #[I e, I d] c0.w (Post c0 fun c v => Own c G (F) ∧ v = I r) := by
 unfold f_linotyperef14_Join at H
 refine en func118 rfl rfl (sr (va (I 0) (wln (bn H fun m g H2 => W.seqJ (Jn c0 fun c l => Own c G (F) ∧ l = [(0, I m), (1, I d)]) ?_ ?_))))
 ·refine W.seq (bn g fun X h3 g => W.join (Jn c0 fun c l => Own c G (F) ∧ l = [(0, I e), (1, I d), (10, B X)]) ?_ ?_)
  ·clear g
   refine W.region (va (I e) (va (B (decide (e < 0))) ?_))
   rcases bo (decide (e < 0)) with n | n
   ·obtain rfl := orT n h3
    exact vb n (ps (ps (va (B true) (wln ⟨c0, _, _, rfl, pt, us, N, rfl⟩))))
   have H5 := orF n h3
   refine vb n (wn (va (I e) (wn (va (B (decide (e > 13))) ?_))))
   obtain rfl := si H5
   exact va (B (decide (e > 13))) (wln ⟨c0, _, _, rfl, pt, us, N, rfl⟩)
  rintro A D ⟨U, g7, _, rfl, l6, rfl, S, rfl⟩
  refine nrm (cn g (fun Z g => ?_) (fun Z g => ?_))
  ·refine W.region (va (I 0) (wln ?_))
   obtain rfl := si g
   exact ⟨U, _, _, rfl, pt, us, S, rfl⟩
  refine W.skip (nrm ?_)
  obtain rfl := si g
  exact ⟨U, _, _, rfl, pt, us, S, rfl⟩
 rintro A D ⟨i, m0, _, rfl, s0, rfl, s, rfl⟩
 refine bn H2 fun q a b => W.seqJ (Jn i fun c l => Own c G (F) ∧ l = [(0, I m), (1, I q)]) ?_ ?_
 ·refine W.seq (bn a fun z y a => W.join (Jn i fun c l => Own c G (F) ∧ l = [(0, I m), (1, I d), (16, B z)]) ?_ ?_)
  ·clear a
   refine W.region (va (I d) (va (B (decide (d < 0))) ?_))
   rcases bo (decide (d < 0)) with h | h
   ·obtain rfl := orT h y
    exact vb h (ps (ps (va (B true) (wln ⟨i, _, _, rfl, pt, us, s, rfl⟩))))
   have M := orF h y
   refine vb h (wn (va (I d) (wn (va (B (decide (d > 13))) ?_))))
   obtain rfl := si M
   exact va (B (decide (d > 13))) (wln ⟨i, _, _, rfl, pt, us, s, rfl⟩)
  rintro A D ⟨x, o0, _, rfl, t0, rfl, t, rfl⟩
  refine nrm (cn a (fun b0 a => ?_) (fun b0 a => ?_))
  ·refine W.region (va (I 0) (wln ?_))
   obtain rfl := si a
   exact ⟨x, _, _, rfl, pt, us, t, rfl⟩
  refine W.skip (nrm ?_)
  obtain rfl := si a
  exact ⟨x, _, _, rfl, pt, us, t, rfl⟩
 rintro A D ⟨l0, q0, _, rfl, u0, rfl, P, rfl⟩
 refine sr (bn b fun k0 d0 b => cl (c_linotyperef14_rows P d0) ?_)
 rintro v38 T v0 ⟨_, w0, u, rfl, o⟩
 refine va (I m) (bn b fun E p b => vx (ixO underlying191 o p) ?_)
 obtain ⟨j0, e0, g0⟩ := OA.at o p
 obtain rfl := e0
 refine vr (.string E) (rx (by kernel_rfl) (ldE1 underlying9 rfl (u.on 0 rfl) (o.blk p) (at1 (j := 0) g0 rfl))) (va (I q) (bn b fun f f0 b => vr (.int .u8 f) (rx (by kernel_rfl) (run_indexS (k := .i64) underlying9 f0 _)) (va (I (w64 f)) (va (I (w64 ((w64 f) - 48))) (va (I (w64 ((w64 f) - 48))) (wln (W.ret ?_)))))))
 obtain rfl := si b
 have R := u.sD 1 []
 exact r1 ⟨_, T, rfl, rfl, pt, R, rfl⟩
def f_linotyperef15_conjunct (p0 : List G_api_Prop) (p1 : Int) : Option (Bool) :=
 (idx p0 p1).bind fun i =>
 if (i.Conj != 1) = true then
 some false
 else
 (iter (σ := Int × Int) (τ := Bool ⊕ Unit) (((w64 (p1 - 1)) - 0).toNat + 2) (fun a =>
 if (decide (a.2 ≥ 0)) = true then
 (idx p0 a.2).bind fun d =>
 if (d.Conj == 1) = true then
 some (.inr (.inl (decide (a.1 > 0))))
 else
 ((idx p0 a.2).bind fun e =>
 if (e.Conj == 2) = true then
 some ((w64 (a.1 + 1)))
 else
 some (a.1)).bind fun h =>
 (idx p0 a.2).bind fun f =>
 (andE (f.Conj != 2) ((idx p0 a.2).bind fun g =>
 some (g.Conj != 3))).bind fun c =>
 if c = true then
 some (.inr (.inl false))
 else
 some (.inl (h, (w64 (a.2 - 1))))
 else
 some (.inr (.inr ()))) (0, (w64 (p1 - 1)))).bind fun b =>
 match b with
 | .inl b =>
 some b
 | .inr b =>
 some false
theorem c_linotyperef15_conjunct (O0 : Own c0 G F) (p0 : List G_api_Prop) (j : Int) {r : Bool} (f : Sl R_api_Prop c0 v1 p0) (H : f_linotyperef15_conjunct p0 j = some r) :
    Calls prog 119 #[v1, I j] c0.w (Post c0 fun c v => Own c G (F) ∧ v = B r) := by
 unfold f_linotyperef15_conjunct at H
 refine en func119 rfl rfl (sr (va (B false) (wln (W.seq (sr (va (v1) (va (I j) (bn H fun d1 h3 H => ?_))))))))
 obtain ⟨z1, h5, m6⟩ := Sl.at f (idx_get h3)
 obtain rfl := h5
 refine vx (ix underlying143 f h3) (va (.pointer (some ⟨sb v1, so v1 + j.toNat * 4 + 2, none⟩)) (vx (l1 underlying3 (m6 2 _ rfl)) (va (B (d1.Conj != 1)) (wln (cn H (fun h7 H => ?_) (fun h7 H => ?_))))))
 ·refine sr (va (B false) (wln (W.ret (thr ?_))))
  obtain rfl := si H
  exact r1 ⟨_, c0, rfl, rfl, pt, O0, rfl⟩
 refine W.skip (nrm (sr (va (I 0) (wln (W.seq (sr (va (I j) (va (I (w64 (j - 1))) (va (I (w64 (j - 1))) (wln (W.block (bn H fun i h8 T => lp h8 (fun a => Jn c0 fun c l => Own c G (F) ∧ l = [(0, v1), (5, I a.1), (6, I a.2)]) (fun t => match t with | .inl X => (fun b1 ex e w => ex = .ret ∧ (Jn c0 fun c l => Own c G (F) ∧ l = [(4, B b1)]) e w) X | .inr X => (fun e1 ex e w => ex = .exit 0 ∧ (Jn c0 fun c l => Own c G (F) ∧ l = []) e w) X) ?_ ?_ ?_))))))))))))
 ·clear T h8
  intro a a2 h0 c1 H
  revert h0 c1
  rintro x y ⟨g, n1, _, rfl, n, rfl, k, rfl⟩
  refine W.seq (sr (va (I a.2) (va (B (decide (a.2 ≥ 0))) (wln (cn H (fun j0 H => ?_) (fun j0 H => ?_))))))
  ·refine W.skip (nrm (W.seq (W.block (W.seq (sr (va (v1) (va (I a.2) (bn H fun Z E H => ?_))))))))
   obtain ⟨h1, k0, w0⟩ := Sl.at (f.mono n) (idx_get E)
   obtain rfl := k0
   refine vx (ix underlying143 f.m E) (va (.pointer (some ⟨sb v1, so v1 + a.2.toNat * 4 + 2, none⟩)) (vx (l1 underlying3 (w0 2 _ rfl)) (va (B (Z.Conj == 1)) (wln (cn H (fun l0 H => ?_) (fun l0 H => ?_))))))
   ·refine sr (va (I a.1) (va (B (decide (a.1 > 0))) (va (B (decide (a.1 > 0))) (wln (W.ret (thr (bkr (thr ?_))))))))
    obtain rfl := si H
    exact ⟨_, rfl, ⟨rfl, ⟨g, _, _, rfl, pt, us, k, rfl⟩⟩⟩
   refine W.skip (nrm (bn H fun u d b => W.seqJ (Jn g fun c l => Own c G (F) ∧ l = [(0, v1), (5, I u), (6, I a.2)]) ?_ ?_))
   ·refine sr (va (v1) (va (I a.2) (bn d fun a0 M d => ?_)))
    obtain ⟨i1, m0, x0⟩ := Sl.at (f.mono n) (idx_get M)
    obtain rfl := m0
    refine vx (ix underlying143 f.m M) (va (.pointer (some ⟨sb v1, so v1 + a.2.toNat * 4 + 2, none⟩)) (vx (l1 underlying3 (x0 2 _ rfl)) (va (B (a0.Conj == 2)) (wln (cn d (fun o0 d => ?_) (fun o0 d => ?_))))))
    ·refine W.region (va (I a.1) (va (I (w64 (a.1 + 1))) (va (I (w64 (a.1 + 1))) (wln ?_))))
     obtain rfl := si d
     exact ⟨g, _, _, rfl, pt, us, k, rfl⟩
    refine W.skip (nrm ?_)
    obtain rfl := si d
    exact ⟨g, _, _, rfl, pt, us, k, rfl⟩
   rintro x y ⟨p, q1, _, rfl, S, rfl, z, rfl⟩
   refine W.seq (bn b fun q N b => bn b fun U P b => W.join (Jn p fun c l => Own c G (F) ∧ l = [(0, v1), (5, I u), (6, I a.2), (48, B U)]) ?_ ?_)
   ·clear b
    refine W.region (va (v1) (va (I a.2) ?_))
    obtain ⟨j1, s0, y0⟩ := Sl.at (f.mono (n.trans S)) (idx_get N)
    obtain rfl := s0
    refine vx (ix underlying143 f.m N) (va (.pointer (some ⟨sb v1, so v1 + a.2.toNat * 4 + 2, none⟩)) (vx (l1 underlying3 (y0 2 _ rfl)) (va (B (q.Conj != 2)) ?_)))
    rcases bo (q.Conj != 2) with h | h
    ·have o := anT h P
     refine vb h (wn (va (v1) (wn (va (I a.2) (wn (bn o fun s R o => ?_))))))
     obtain ⟨k1, t0, z0⟩ := Sl.at (f.mono (n.trans S)) (idx_get R)
     obtain rfl := t0
     refine vx (ix underlying143 f.m R) (wn (va (.pointer (some ⟨sb v1, so v1 + a.2.toNat * 4 + 2, none⟩)) (wn (vx (l1 underlying3 (z0 2 _ rfl)) (wn (va (B (s.Conj != 3)) ?_))))))
     obtain rfl := si o
     exact va (B (s.Conj != 3)) (wln ⟨p, _, _, rfl, pt, us, z, rfl⟩)
    obtain rfl := anF h P
    exact vb h (ps (ps (ps (ps (ps (ps (va (B false) (wln ⟨p, _, _, rfl, pt, us, z, rfl⟩))))))))
   rintro x y ⟨D, s1, _, rfl, w1, rfl, A, rfl⟩
   refine nrm (cn b (fun u0 b => ?_) (fun u0 b => ?_))
   ·refine sr (va (B false) (wln (W.ret (bkr (thr ?_)))))
    obtain rfl := si b
    exact ⟨_, rfl, ⟨rfl, ⟨D, _, _, rfl, pt, us, A, rfl⟩⟩⟩
   refine W.skip (bkn (nrm (W.region (va (I a.2) (va (I (w64 (a.2 - 1))) (va (I (w64 (a.2 - 1))) (WL.nil ?_)))))))
   obtain rfl := si b
   exact ⟨_, rfl, ⟨D, _, _, rfl, pt, us, A, rfl⟩⟩
  refine W.exit (thx ?_)
  obtain rfl := si H
  exact ⟨_, rfl, rfl, ⟨g, _, _, rfl, pt, us, k, rfl⟩⟩
 ·exact ⟨c0, _, _, rfl, pt, us, O0, rfl⟩
 rcases i with i | i
 ·intro i0; revert i0
  rintro _ x y ⟨rfl, f0, t1, _, rfl, x1, rfl, d0, rfl⟩
  refine bkr (thr ?_)
  obtain rfl := si T
  exact r1 ⟨_, f0, rfl, rfl, pt, d0, rfl⟩
 rintro _ x y ⟨rfl, g0, u1, _, rfl, y1, rfl, e0, rfl⟩
 refine bke (nrm (sr (va (B false) (wln (W.ret ?_)))))
 obtain rfl := si T
 exact r1 ⟨_, g0, rfl, rfl, pt, e0, rfl⟩
def f_linotyperef15_picture (p0 : List G_api_Prop) (p1 : Int) : Option (Bool) :=
 (idx p0 p1).bind fun j =>
 (orE (!j.Pict) (some (decide (p1 < 2)))).bind fun i =>
 (orE i ((idx p0 (w64 (p1 - 1))).bind fun e =>
 some (e.Break != 5))).bind fun c =>
 (orE c ((idx p0 (w64 (p1 - 1))).bind fun f =>
 some f.Pict)).bind fun d =>
 if d = true then
 some false
 else
 (iter (σ := Int) (τ := Bool ⊕ Unit) (((w64 (p1 - 2)) - 0).toNat + 2) (fun b =>
 if (decide (b ≥ 0)) = true then
 (idx p0 b).bind fun g =>
 if g.Pict = true then
 some (.inr (.inl true))
 else
 (idx p0 b).bind fun h =>
 if (h.Break != 4) = true then
 some (.inr (.inl false))
 else
 some (.inl ((w64 (b - 1))))
 else
 some (.inr (.inr ()))) ((w64 (p1 - 2)))).bind fun a =>
 match a with
 | .inl a =>
 some a
 | .inr a =>
 some false
theorem c_linotyperef15_picture (u : Own c0 G F) (p0 : List G_api_Prop) (b : Int) {r : Bool} (d : Sl R_api_Prop c0 v1 p0) (H : f_linotyperef15_picture p0 b = some r) :
    Calls prog 120 #[v1, I b] c0.w (Post c0 fun c v => Own c G (F) ∧ v = B r) := by
 unfold f_linotyperef15_picture at H
 refine en func120 rfl rfl (sr (va (B false) (wln (W.seq (W.seq (bn H fun U h3 H => bn H fun u1 h4 H => bn H fun i1 h5 H => bn H fun X x H => W.join (Jn c0 fun c l => Own c G (F) ∧ l = [(0, v1), (1, I b), (32, B X)]) ?_ ?_))))))
 ·clear H
  refine W.region (va (v1) (va (I b) ?_))
  obtain ⟨c2, h8, m9⟩ := Sl.at d (idx_get h3)
  obtain rfl := h8
  refine vx (ix underlying143 d h3) (va (.pointer (some ⟨sb v1, so v1 + b.toNat * 4 + 1, none⟩)) (vx (l1 underlying4 (m9 1 _ rfl)) (va (B (!U.Pict)) ?_)))
  rcases bo (!U.Pict) with g | g
  ·obtain rfl := orT g h4
   refine vb g (ps (ps (va (B true) ?_)))
   have z : true = true := rfl
   obtain rfl := orT z h5
   refine vb z (ps (ps (ps (ps (ps (ps (ps (va (B true) ?_))))))))
   have A : true = true := rfl
   obtain rfl := orT A x
   exact vb A (ps (ps (ps (ps (ps (ps (va (B true) (wln ⟨c0, _, _, rfl, pt, us, u, rfl⟩))))))))
  have g0 := orF g h4
  refine vb g (wn (va (I b) (wn (va (B (decide (b < 2))) ?_))))
  obtain rfl := si g0
  refine va (B (decide (b < 2))) ?_
  rcases bo (decide (b < 2)) with h | h
  ·obtain rfl := orT h h5
   refine vb h (ps (ps (ps (ps (ps (ps (ps (va (B true) ?_))))))))
   have D : true = true := rfl
   obtain rfl := orT D x
   exact vb D (ps (ps (ps (ps (ps (ps (va (B true) (wln ⟨c0, _, _, rfl, pt, us, u, rfl⟩))))))))
  have p := orF h h5
  refine vb h (wn (va (v1) (wn (va (I b) (wn (va (I (w64 (b - 1))) (wn (bn p fun k E p => ?_))))))))
  obtain ⟨k1, o0, a1⟩ := Sl.at d (idx_get E)
  obtain rfl := o0
  refine vx (ix underlying143 d E) (wn (va (.pointer (some ⟨sb v1, so v1 + (w64 (b - 1)).toNat * 4, none⟩)) (wn (vx (l1 underlying3 (a1 0 _ rfl)) (wn (va (B (k.Break != 5)) ?_))))))
  obtain rfl := si p
  refine va (B (k.Break != 5)) ?_
  rcases bo (k.Break != 5) with i | i
  ·obtain rfl := orT i x
   exact vb i (ps (ps (ps (ps (ps (ps (va (B true) (wln ⟨c0, _, _, rfl, pt, us, u, rfl⟩))))))))
  have q := orF i x
  refine vb i (wn (va (v1) (wn (va (I b) (wn (va (I (w64 (b - 1))) (wn (bn q fun e0 M q => ?_))))))))
  obtain ⟨m1, q0, b1⟩ := Sl.at d (idx_get M)
  obtain rfl := q0
  refine vx (ix underlying143 d M) (wn (va (.pointer (some ⟨sb v1, so v1 + (w64 (b - 1)).toNat * 4 + 1, none⟩)) (wn (vx (l1 underlying4 (b1 1 _ rfl)) ?_))))
  obtain rfl := si q
  exact va (B e0.Pict) (wln ⟨c0, _, _, rfl, pt, us, u, rfl⟩)
 rintro Z w_ ⟨f, w1, _, rfl, S, rfl, y, rfl⟩
 refine nrm (cn H (fun t0 H => ?_) (fun t0 H => ?_))
 ·refine sr (va (B false) (wln (W.ret (thr ?_))))
  obtain rfl := si H
  exact r1 ⟨_, f, rfl, rfl, pt, y, rfl⟩
 refine W.skip (nrm (W.seq (sr (va (I b) (va (I (w64 (b - 2))) (va (I (w64 (b - 2))) (wln (W.block (bn H fun j N s => lp N (fun a => Jn f fun c l => Own c G (F) ∧ l = [(0, v1), (5, I a)]) (fun t => match t with | .inl x_ => (fun f1 ex e w => ex = .ret ∧ (Jn f fun c l => Own c G (F) ∧ l = [(4, B f1)]) e w) x_ | .inr x_ => (fun h1 ex e w => ex = .exit 0 ∧ (Jn f fun c l => Own c G (F) ∧ l = []) e w) x_) ?_ ?_ ?_)))))))))
 ·clear s N
  intro a d2 l0 g1 H
  revert l0 g1
  rintro Z w_ ⟨o, x1, _, rfl, T, rfl, n, rfl⟩
  refine W.seq (sr (va (I a) (va (B (decide (a ≥ 0))) (wln (cn H (fun v0 H => ?_) (fun v0 H => ?_))))))
  ·refine W.skip (nrm (W.seq (W.block (W.seq (sr (va (v1) (va (I a) (bn H fun t1 P H => ?_))))))))
   obtain ⟨n1, w0, c1⟩ := Sl.at (d.mono (S.trans T)) (idx_get P)
   obtain rfl := w0
   refine vx (ix underlying143 d.m P) (va (.pointer (some ⟨sb v1, so v1 + a.toNat * 4 + 1, none⟩)) (vx (l1 underlying4 (c1 1 _ rfl)) (wln (cn H (fun x0 H => ?_) (fun x0 H => ?_)))))
   ·refine sr (va (B true) (wln (W.ret (thr (bkr (thr ?_))))))
    obtain rfl := si H
    exact ⟨_, rfl, ⟨rfl, ⟨o, _, _, rfl, pt, us, n, rfl⟩⟩⟩
   refine W.skip (nrm (sr (va (v1) (va (I a) (bn H fun f0 R H => ?_)))))
   obtain ⟨q1, y0, d1⟩ := Sl.at (d.mono (S.trans T)) (idx_get R)
   obtain rfl := y0
   refine vx (ix underlying143 d.m R) (va (.pointer (some ⟨sb v1, so v1 + a.toNat * 4, none⟩)) (vx (l1 underlying3 (d1 0 _ rfl)) (va (B (f0.Break != 4)) (wln (cn H (fun z0 H => ?_) (fun z0 H => ?_))))))
   ·refine sr (va (B false) (wln (W.ret (bkr (thr ?_)))))
    obtain rfl := si H
    exact ⟨_, rfl, ⟨rfl, ⟨o, _, _, rfl, pt, us, n, rfl⟩⟩⟩
   refine W.skip (bkn (nrm (W.region (va (I a) (va (I (w64 (a - 1))) (va (I (w64 (a - 1))) (WL.nil ?_)))))))
   obtain rfl := si H
   exact ⟨_, rfl, ⟨o, _, _, rfl, pt, us, n, rfl⟩⟩
  refine W.exit (thx ?_)
  obtain rfl := si H
  exact ⟨_, rfl, rfl, ⟨o, _, _, rfl, pt, us, n, rfl⟩⟩
 ·exact ⟨f, _, _, rfl, pt, us, y, rfl⟩
 rcases j with j | j
 ·intro m0; revert m0
  rintro _ Z w_ ⟨rfl, j0, y1, _, rfl, a2, rfl, h0, rfl⟩
  refine bkr (thr ?_)
  obtain rfl := si s
  exact r1 ⟨_, j0, rfl, rfl, pt, h0, rfl⟩
 rintro _ Z w_ ⟨rfl, k0, z1, _, rfl, b2, rfl, i0, rfl⟩
 refine bke (nrm (sr (va (B false) (wln (W.ret ?_)))))
 obtain rfl := si s
 exact r1 ⟨_, k0, rfl, rfl, pt, i0, rfl⟩
def f_linotyperef15_Joins (p0 : List G_api_Prop) (p1 : Int) : Option (Bool) :=
 (orE (decide (p1 < 1)) (some (decide (p1 ≥ (p0.length : Int))))).bind fun n =>
 if n = true then
 some false
 else
 (idx p0 (w64 (p1 - 1))).bind fun h =>
 (idx p0 p1).bind fun i =>
 (f_linotyperef14_Join h.Break i.Break).bind fun b =>
 (orE (b == 1) ((f_linotyperef15_conjunct p0 p1).bind fun j =>
 some j)).bind fun c =>
 (orE c ((f_linotyperef15_picture p0 p1).bind fun k =>
 some k)).bind fun d =>
 if d = true then
 some true
 else
 (orE (b != 2) ((idx p0 p1).bind fun l =>
 some (l.Break != 6))).bind fun e =>
 if e = true then
 some false
 else
 (iter (σ := Int × Int) (τ := Int) (((w64 (p1 - 1)) - 0).toNat + 2) (fun a =>
 (andE (decide (a.2 ≥ 0)) ((idx p0 a.2).bind fun m =>
 some (m.Break == 6))).bind fun f =>
 if f = true then
 some (.inl ((w64 (a.1 + 1)), (w64 (a.2 - 1))))
 else
 some (.inr (a.1))) (0, (w64 (p1 - 1)))).bind fun g =>
 some ((g.tmod 2) == 1)
theorem c_linotyperef15_Joins (O0 : Own c0 G F) (q : List G_api_Prop) (b : Int) {r : Bool} (f : Sl R_api_Prop c0 v1 q) (H : f_linotyperef15_Joins q b = some r) :
    Calls prog 85 #[v1, I b] c0.w (Post c0 fun c v => Own c G (F) ∧ v = B r) := by
 unfold f_linotyperef15_Joins at H
 refine en func85 rfl rfl (sr (va (B false) (wln (W.seq (W.seq (bn H fun m1 h3 H => W.join (Jn c0 fun c l => Own c G (F) ∧ l = [(0, v1), (1, I b), (15, B m1)]) ?_ ?_))))))
 ·clear H
  refine W.region (va (I b) (va (B (decide (b < 1))) ?_))
  rcases bo (decide (b < 1)) with M | M
  ·obtain rfl := orT M h3
   exact vb M (ps (ps (ps (ps (va (B true) (wln ⟨c0, _, _, rfl, pt, us, O0, rfl⟩))))))
  have H5 := orF M h3
  refine vb M (wn (va (I b) (wn (va (v1) (wn (vx (ln 3 underlying143 f) (wn (va (B (decide (b ≥ (q.length : Int)))) ?_))))))))
  obtain rfl := si H5
  exact va (B (decide (b ≥ (q.length : Int)))) (wln ⟨c0, _, _, rfl, pt, us, O0, rfl⟩)
 rintro D P ⟨c6, g7, _, rfl, U, rfl, O8, rfl⟩
 refine nrm (cn H (fun q1 H => ?_) (fun q1 H => ?_))
 ·refine sr (va (B false) (wln (W.ret (thr ?_))))
  obtain rfl := si H
  exact r1 ⟨_, c6, rfl, rfl, pt, O8, rfl⟩
 refine W.skip (nrm (W.seq (rD [] (Kp G0 []) O8 ?_)))
 intro h1 p d1
 have e3 : Kp G0 [] h1 := Kp.nil0
 refine ta 0 (v1) (ta 1 (I b) (ta 2 (I (w64 (b - 1))) (bn H fun z0 h0 H => ?_)))
 obtain ⟨q2, s1, g2⟩ := Sl.at (f.mono (U.trans p)) (idx_get h0)
 obtain rfl := s1
 refine tx 3 (fun c' N => ix underlying143 f.m h0) (ta 4 (.pointer (some ⟨sb v1, so v1 + (w64 (b - 1)).toNat * 4, none⟩)) (tx 5 (fun c' N => l1 underlying3 ((mm g2) 0 _ rfl)) (ta 6 (v1) (ta 7 (I b) (bn H fun a1 i0 H => ?_)))))
 obtain ⟨s2, t1, i2⟩ := Sl.at (f.mono (U.trans p)) (idx_get i0)
 obtain rfl := t1
 refine tx 8 (fun c' N => ix underlying143 f.m i0) (ta 9 (.pointer (some ⟨sb v1, so v1 + b.toNat * 4, none⟩)) (tx 10 (fun c' N => l1 underlying3 ((mm i2) 0 _ rfl)) (bn H fun d u1 H => o1 11 (gc 11 (c_linotyperef14_Join d1 z0.Break a1.Break u1) ?_))))
 rintro v30 z t0 ⟨a0, rfl⟩
 have l2 : Kp G0 [] z := Kp.nil0
 refine ⟨.inr l2, ta 12 (I d) (dn (nrm (W.seq (W.seq (bn H fun p2 j0 H => bn H fun w0 E H => W.join (Jn z fun c l => Own c G (F) ∧ l = [(0, v1), (1, I b), (5, I d), (39, B w0)]) ?_ ?_)))))⟩
 ·clear H
  refine W.region (va (I d) (va (B (d == 1)) ?_))
  rcases bo (d == 1) with h | h
  ·obtain rfl := orT h j0
   refine vb h (ps (ps (ps (va (B true) ?_))))
   have k0 : true = true := rfl
   obtain rfl := orT k0 E
   exact vb k0 (ps (ps (ps (va (B true) (wln ⟨z, _, _, rfl, pt, us, a0, rfl⟩)))))
  have s := orF h j0
  refine vb h (wn (va (v1) (wn (va (I b) (wn (bn s fun R x1 s => cl (c_linotyperef15_conjunct a0 q b f.m x1) ?_))))))
  rintro v43 i1 a3 ⟨b0, rfl⟩
  obtain rfl := si s
  refine va (B R) ?_
  rcases bo (R) with i | i
  ·obtain rfl := orT i E
   exact vb i (ps (ps (ps (va (B true) (wln ⟨i1, _, _, rfl, pt, us, b0, rfl⟩)))))
  have t := orF i E
  refine vb i (wn (va (v1) (wn (va (I b) (wn (bn t fun b1 y1 t => cl (c_linotyperef15_picture b0 q b f.m y1) ?_))))))
  rintro v52 j1 b3 ⟨e1, rfl⟩
  obtain rfl := si t
  exact va (B b1) (wln ⟨j1, _, _, rfl, pt, us, e1, rfl⟩)
 rintro D P ⟨n, v2, _, rfl, u0, rfl, y, rfl⟩
 refine nrm (cn H (fun z1 H => ?_) (fun z1 H => ?_))
 ·refine sr (va (B true) (wln (W.ret (thr ?_))))
  obtain rfl := si H
  exact r1 ⟨_, n, rfl, rfl, pt, y, rfl⟩
 refine W.skip (nrm (W.seq (W.seq (bn H fun x0 l0 H => W.join (Jn n fun c l => Own c G (F) ∧ l = [(0, v1), (1, I b), (49, B x0)]) ?_ ?_))))
 ·clear H
  refine W.region (va (I d) (va (B (d != 2)) ?_))
  rcases bo (d != 2) with j | j
  ·obtain rfl := orT j l0
   exact vb j (ps (ps (ps (ps (ps (ps (va (B true) (wln ⟨n, _, _, rfl, pt, us, y, rfl⟩))))))))
  have u := orF j l0
  refine vb j (wn (va (v1) (wn (va (I b) (wn (bn u fun S m0 u => ?_))))))
  obtain ⟨t2, a2, j2⟩ := Sl.at (f.mono (U.trans (p.trans (t0.trans u0)))) (idx_get m0)
  obtain rfl := a2
  refine vx (ix underlying143 f.m m0) (wn (va (.pointer (some ⟨sb v1, so v1 + b.toNat * 4, none⟩)) (wn (vx (l1 underlying3 (j2 0 _ rfl)) (wn (va (B (S.Break != 6)) ?_))))))
  obtain rfl := si u
  exact va (B (S.Break != 6)) (wln ⟨n, _, _, rfl, pt, us, y, rfl⟩)
 rintro D P ⟨o, w2, _, rfl, e2, rfl, d0, rfl⟩
 refine nrm (cn H (fun b2 H => ?_) (fun b2 H => ?_))
 ·refine sr (va (B false) (wln (W.ret (thr ?_))))
  obtain rfl := si H
  exact r1 ⟨_, o, rfl, rfl, pt, d0, rfl⟩
 refine W.skip (nrm (sr (va (I 0) (wln (W.seq (sr (va (I b) (va (I (w64 (b - 1))) (va (I (w64 (b - 1))) (wln (W.block (bn H fun g o0 Z => lp o0 (fun a => Jn o fun c l => Own c G (F) ∧ l = [(0, v1), (6, I a.1), (7, I a.2)]) (fun X ex e w => ex = .exit 0 ∧ (Jn o fun c l => Own c G (F) ∧ l = [(6, I X)]) e w) ?_ ?_ ?_))))))))))))
 ·clear Z o0
  intro a f3 n1 m2 H
  revert n1 m2
  rintro D P ⟨A, x2, _, rfl, f2, rfl, e0, rfl⟩
  refine W.seq (W.seq (bn H fun y0 q0 H => W.join (Jn A fun c l => Own c G (F) ∧ l = [(0, v1), (6, I a.1), (7, I a.2), (61, B y0)]) ?_ ?_))
  ·clear H
   refine W.region (va (I a.2) (va (B (decide (a.2 ≥ 0))) ?_))
   rcases bo (decide (a.2 ≥ 0)) with k | k
   ·have x := anT k q0
    refine vb k (wn (va (v1) (wn (va (I a.2) (wn (bn x fun T s0 x => ?_))))))
    obtain ⟨u2, c2, k2⟩ := Sl.at (f.mono (U.trans (p.trans (t0.trans (u0.trans (e2.trans f2)))))) (idx_get s0)
    obtain rfl := c2
    refine vx (ix underlying143 f.m s0) (wn (va (.pointer (some ⟨sb v1, so v1 + a.2.toNat * 4, none⟩)) (wn (vx (l1 underlying3 (k2 0 _ rfl)) (wn (va (B (T.Break == 6)) ?_))))))
    obtain rfl := si x
    exact va (B (T.Break == 6)) (wln ⟨A, _, _, rfl, pt, us, e0, rfl⟩)
   obtain rfl := anF k q0
   exact vb k (ps (ps (ps (ps (ps (ps (va (B false) (wln ⟨A, _, _, rfl, pt, us, e0, rfl⟩))))))))
  rintro D P ⟨g0, y2, _, rfl, c3, rfl, f0, rfl⟩
  refine nrm (cn H (fun d2 H => ?_) (fun d2 H => ?_))
  ·refine W.skip (nrm (W.seq (W.block (W.region (va (I a.1) (va (I (w64 (a.1 + 1))) (va (I (w64 (a.1 + 1))) (WL.nil (bkn (nrm (W.region (va (I a.2) (va (I (w64 (a.2 - 1))) (va (I (w64 (a.2 - 1))) (WL.nil ?_)))))))))))))))
   obtain rfl := si H
   exact ⟨_, rfl, ⟨g0, _, _, rfl, pt, us, f0, rfl⟩⟩
  refine W.exit (thx ?_)
  obtain rfl := si H
  exact ⟨_, rfl, rfl, ⟨g0, _, _, rfl, pt, us, f0, rfl⟩⟩
 ·exact ⟨o, _, _, rfl, pt, us, d0, rfl⟩
 rintro _ D P ⟨rfl, k1, z2, _, rfl, d3, rfl, g1, rfl⟩
 refine bke (nrm (sr (va (I g) (va (I (g.tmod 2)) (va (B ((g.tmod 2) == 1)) (va (B ((g.tmod 2) == 1)) (wln (W.ret ?_))))))))
 obtain rfl := si Z
 exact r1 ⟨_, k1, rfl, rfl, pt, g1, rfl⟩
def f_linotyperef16_Starts (p0 : List Int) : Option (List Int) :=
 (f_linotyperef16_Props p0).bind fun b =>
 (iter (σ := (List Int) × Int) (τ := (List Int)) (((b.length : Int) - 0).toNat + 1) (fun a =>
 if (decide (a.2 < (b.length : Int))) = true then
 ((f_linotyperef15_Joins b a.2).bind fun d =>
 if (!d) = true then
 (app a.1 ([a.2] : List Int)).bind fun e =>
 some (e)
 else
 some (a.1)).bind fun f =>
 some (.inl (f, (w64 (a.2 + 1))))
 else
 some (.inr (a.1))) (([] : List Int), 0)).bind fun c =>
 some c
theorem c_linotyperef16_Starts (O0 : Own c0 G F) (x : List Int) {r : List Int} (h2 : Sl (RI .i32) c0 v1 x) (H : f_linotyperef16_Starts x = some r) :
    Calls prog 51 #[v1] c0.w (Post c0 fun c v => ∃ A y2, Own c G (es true (RI .i64) A 3 y2 r :: F) ∧ v = A ∧ OA (RI .i64) c A y2 r) := by
 unfold f_linotyperef16_Starts at H
 refine en func51 rfl rfl (sr (va (Y) (wln (sr (va (Y) (wln (sr (va (v1) (bn H fun f h3 H => cl (c_linotyperef16_Props O0 x h2 h3) ?_)))))))))
 rintro v4 k q1 ⟨_, y, O8, rfl, u⟩
 refine va (v4) (wln (W.seq (sr (va (I 0) (wln (W.block (bn H fun g1 t p => lp t (fun a => Jn k fun c l => ∃ v15 d, Own c G (es true (RI .i64) v15 3 d a.1 :: es false R_api_Prop v4 133 y f :: F) ∧ l = [(3, v15), (4, v4), (5, I a.2)] ∧ OA (RI .i64) c v15 d a.1) (fun g ex e w => ex = .exit 0 ∧ (Jn k fun c l => ∃ v17 h, Own c G (es true (RI .i64) v17 3 h g :: es false R_api_Prop v4 133 y f :: F) ∧ l = [(3, v17)] ∧ OA (RI .i64) c v17 h g) e w) ?_ ?_ ?_)))))))
 ·clear p t
  intro a c2 g0 a1 H
  revert g0 a1
  rintro e_ w_ ⟨s, k1, _, rfl, x0, rfl, v15, d, j, rfl, n⟩
  refine W.seq (sr (va (I a.2) (va (v4) (vx (lnO 3 underlying143 u.m) (va (B (decide (a.2 < (f.length : Int)))) (wln (cn H (fun h0 H => ?_) (fun h0 H => ?_))))))))
  ·refine W.skip (nrm (bn H fun o b D => W.seqJ (Jn s fun c l => ∃ v29 i, Own c G (es true (RI .i64) v29 3 i o :: es false R_api_Prop v4 133 y f :: F) ∧ l = [(3, v29), (4, v4), (5, I a.2)] ∧ OA (RI .i64) c v29 i o) ?_ ?_))
   ·refine W.block (sr (va (v4) (va (I a.2) ?_)))
    have i0 := j.slf 1 rfl (u.mono x0)
    refine bn b fun z j0 b => cl (c_linotyperef15_Joins j f a.2 i0 j0) ?_
    rintro v38 Z s1 ⟨q, rfl⟩
    refine va (B (!z)) (wln (cn b (fun k0 b => ?_) (fun k0 b => ?_)))
    ·refine W.region (va (v15) (va (I a.2) (me (sl (RI .i64) 3 [[I a.2]] ([a.2] : List Int) q ⟨rfl, trivial⟩) ?_)))
     rintro v44 i1 t1 ⟨b2, E, l0⟩
     obtain ⟨j1, o0, u1, M, m0⟩ := E.frz 0 rfl l0
     refine WL.gh o0 (bn b fun h1 q0 b => me (ap (RI .i64) (I 0) 8 25 1 M n.m m0 q0 underlying25) ?_)
     rintro v54 a0 w1 ⟨y0, N, s0⟩
     refine va (v54) (WL.nil (bkn (nrm ?_)))
     obtain rfl := si b
     have P := N.sD 3 [1, 2]
     exact ⟨a0, _, _, rfl, pt, us, v54, y0, P, rfl, s0⟩
    refine W.skip (bkn (nrm ?_))
    obtain rfl := si b
    exact ⟨Z, _, _, rfl, pt, us, v15, d, q, rfl, n.m⟩
   rintro e_ w_ ⟨b0, m1, _, rfl, x1, rfl, v29, i, R, rfl, t0⟩
   refine W.region (va (I a.2) (va (I (w64 (a.2 + 1))) (va (I (w64 (a.2 + 1))) (WL.nil ?_))))
   obtain rfl := si D
   exact ⟨_, rfl, ⟨b0, _, _, rfl, pt, us, v29, i, R, rfl, t0⟩⟩
  refine W.exit (thx ?_)
  obtain rfl := si H
  exact ⟨_, rfl, rfl, ⟨s, _, _, rfl, pt, us, v15, d, j, rfl, n⟩⟩
 ·have u0 : OA (RI .i64) k (Y) [] [] := OA.nil (Nat.succ_pos _)
  have S := O8.addHole (e := es true (RI .i64) (Y) 3 [] ([] : List Int)) rfl
  obtain ⟨d0, v0, z1, T, p1⟩ := S.frz 1 rfl u
  exact ⟨d0, _, _, v0.symm, pt, us, (Y), [], T, rfl, u0.m⟩
 rintro _ e_ w_ ⟨rfl, e0, n1, _, rfl, a2, rfl, v17, h, U, rfl, w0⟩
 refine bke (nrm (sr (va (v17) (va (v17) (wln (W.ret ?_))))))
 obtain rfl := si p
 have X := U.sD 2 [0]
 exact r1 ⟨_, e0, rfl, rfl, pt, v17, h, X, rfl, w0⟩
def f_linotyperef16_Clusters (p0 : List Int) : Option (List (List Int)) :=
 (f_linotyperef16_Starts p0).bind fun i =>
 (app i ([(p0.length : Int)] : List Int)).bind fun b =>
 (iter (σ := (List (List Int)) × Int) (τ := (List (List Int))) (((b.length : Int) - (w64 (0 + 1))).toNat + 1) (fun a =>
 if (decide ((w64 (a.2 + 1)) < (b.length : Int))) = true then
 (idx b a.2).bind fun d =>
 (idx b (w64 (a.2 + 1))).bind fun e =>
 (slc p0 d e).bind fun f =>
 (app ([] : List Int) f).bind fun g =>
 (app a.1 ([g] : List (List Int))).bind fun h =>
 some (.inl (h, (w64 (a.2 + 1))))
 else
 some (.inr (a.1))) (([] : List (List Int)), 0)).bind fun c =>
 some c
theorem c_linotyperef16_Clusters (O0 : Own c0 G F) (g : List Int) {r : List (List Int)} (h2 : Sl (RI .i32) c0 v1 g) (H : f_linotyperef16_Clusters g = some r) :
    Calls prog 34 #[v1] c0.w (Post c0 fun c v => ∃ y1 y2, Own c G (es true (RL (RI .i32)) y1 43 y2 r :: F) ∧ v = y1 ∧ OA (RL (RI .i32)) c y1 y2 r) := by
 unfold f_linotyperef16_Clusters at H
 refine en func34 rfl rfl (sr (va (Y) (wln (sr (va (Y) (wln (sr (va (v1) (bn H fun b4 h3 H => cl (c_linotyperef16_Starts O0 g h2 h3) ?_)))))))))
 rintro v4 l3 f2 ⟨_, u5, O8, rfl, h6⟩
 refine va (v1) (vx (ln 3 underlying43 h2.m) (me (sl (RI .i64) 3 [[I (g.length : Int)]] ([(g.length : Int)] : List Int) O8 ⟨rfl, trivial⟩) ?_))
 rintro v17 m3 l16 ⟨e0, s0, g1⟩
 obtain ⟨n3, i1, g2, t0, h1⟩ := s0.frz 0 rfl g1
 refine WL.gh i1 (bn H fun b j1 H => me (ap (RI .i64) (I 0) 8 25 1 t0 h6.m h1 j1 underlying25) ?_)
 rintro v27 h i2 ⟨d, u0, f⟩
 refine va (v27) (wln (W.seq (sr (va (I 0) (wln (W.block (bn H fun g3 Z y => lp Z (fun a => Jn h fun c l => ∃ v30 o, Own c G (es true (RL (RI .i32)) v30 43 o a.1 :: es false (RI .i64) v17 3 e0 ([(g.length : Int)] : List Int) :: es true (RI .i64) v27 3 d b :: F) ∧ l = [(0, v1), (3, v30), (4, v27), (5, I a.2)] ∧ OA (RL (RI .i32)) c v30 o a.1) (fun n ex e w => ex = .exit 0 ∧ (Jn h fun c l => ∃ v32 p, Own c G (es true (RL (RI .i32)) v32 43 p n :: es false (RI .i64) v17 3 e0 ([(g.length : Int)] : List Int) :: es true (RI .i64) v27 3 d b :: F) ∧ l = [(3, v32)] ∧ OA (RL (RI .i32)) c v32 p n) e w) ?_ ?_ ?_)))))))
 ·clear y Z
  intro a c4 f1 v2 H
  revert f1 v2
  rintro e_ w_ ⟨x0, o3, _, rfl, t, rfl, v30, o, z, rfl, a0⟩
  refine W.seq (sr (va (I a.2) (va (I (w64 (a.2 + 1))) (va (v27) (vx (lnO 3 underlying25 f.m) (va (B (decide ((w64 (a.2 + 1)) < (b.length : Int)))) (wln (cn H (fun k1 H => ?_) (fun k1 H => ?_)))))))))
  ·refine W.skip (nrm (W.seq (W.block (rD [] (Kp G0 [es true (RI .i64) v27 3 d b]) z ?_))))
   intro y0 u A
   have d0 : Kp G0 [es true (RI .i64) v27 3 d b] y0 := (Kp.cons (A.on 2 rfl) Kp.nil0)
   refine ta 0 (v30) (ta 2 (v1) (ta 3 (v27) (ta 4 (I a.2) (bn H fun l0 q H => tx 5 (fun x i => ixO underlying25 f.m q) ?_))))
   obtain ⟨e3, m1, l2⟩ := OA.at (f.mono (t.trans u)) q
   obtain rfl := m1
   refine AC.takeK 6 (I l0) d0 rfl (by kernel_rfl) (by kernel_rfl) (by kernel_rfl) (fun x i hk => (rx (by kernel_rfl) (ldE1 underlying3 rfl (hk.on 0 rfl) (f.m.blk q) (at1 (j := 0) l2 rfl)))) (ta 7 (v27) (ta 8 (I a.2) (ta 9 (I (w64 (a.2 + 1))) (bn H fun m0 s H => tx 10 (fun x i => ixO underlying25 f.m s) ?_))))
   obtain ⟨f3, n1, m2⟩ := OA.at (f.mono (t.trans u)) s
   obtain rfl := n1
   refine AC.takeK 11 (I m0) d0 rfl (by kernel_rfl) (by kernel_rfl) (by kernel_rfl) (fun x i hk => (rx (by kernel_rfl) (ldE1 underlying3 rfl (hk.on 0 rfl) (f.m.blk s) (at1 (j := 0) m2 rfl)))) (bn H fun j3 p1 H => ?_)
   obtain ⟨v54, q1, s1⟩ := run_cut (k := .i64) (k' := .i64) underlying43 (by kernel_rfl) (h2.mono (f2.trans (l16.trans (g2.trans (i2.trans (t.trans u)))))) p1
   refine AC.take 12 (v54) rfl (by kernel_rfl) (by kernel_rfl) (fun x i => (rx (by kernel_rfl) (q1 _))) (o1 1 (gm 1 (sl (RI .i32) 21 [] ([] : List Int) A trivial) ?_))
   rintro y3 z0 p3 ⟨v3, D, t1⟩
   have n2 : Kp G0 [es true (RI .i64) v27 3 d b] z0 := (Kp.cons (D.on 3 rfl) Kp.nil0)
   refine ⟨.inr n2, bn H fun o0 u1 H => o1 13 (gm 13 (ap (RI .i32) (J 0) 4 43 0 D t1 s1.m u1 underlying43) ?_)⟩
   rintro z3 a1 q3 ⟨w3, E, w1⟩
   have o2 : Kp G0 [es true (RI .i64) v27 3 d b] a1 := (Kp.cons (E.on 3 rfl) Kp.nil0)
   refine ⟨.inr o2, ?_⟩
   obtain ⟨b1, x1, j2, M, b0⟩ := E.frz 0 rfl w1
   have p2 : Kp G0 [es true (RI .i64) v27 3 d b] b1 := (Kp.cons (M.on 3 rfl) Kp.nil0)
   refine AC.gh x1 j2 (fun _ => p2) ?_
   obtain ⟨S, T, U, rfl⟩ := (b0).form
   refine o1 14 (gm 14 (sl (RL (RI .i32)) 43 [[.slice S T U]] ([o0] : List (List Int)) M ⟨⟨(.slice S T U), rfl, b0⟩, trivial⟩) ?_)
   rintro a4 c1 s3 ⟨x3, N, z1⟩
   have q2 : Kp G0 [es true (RI .i64) v27 3 d b] c1 := (Kp.cons (N.on 4 rfl) Kp.nil0)
   refine ⟨.inr q2, ?_⟩
   obtain ⟨d1, b2, k2, P, a2⟩ := N.frz 0 rfl z1
   have s2 : Kp G0 [es true (RI .i64) v27 3 d b] d1 := (Kp.cons (P.on 4 rfl) Kp.nil0)
   refine AC.gh b2 k2 (fun _ => s2) (bn H fun k3 c2 H => o1 15 (gm 15 (ap (RL (RI .i32)) (Y) 24 80 2 P a0.m a2 c2 underlying80) ?_))
   rintro f0 X t3 ⟨u2, R, d2⟩
   have t2 : Kp G0 [es true (RI .i64) v27 3 d b] X := (Kp.cons (R.on 4 rfl) Kp.nil0)
   refine ⟨.inr t2, ta 16 (f0) (dn (bkn (nrm (W.region (va (I a.2) (va (I (w64 (a.2 + 1))) (va (I (w64 (a.2 + 1))) (WL.nil ?_))))))))⟩
   obtain rfl := si H
   refine ⟨_, rfl, ?_⟩
   have v0 := R.sD 5 [2, 3, 4]
   exact ⟨X, _, _, rfl, pt, us, f0, u2, v0, rfl, d2⟩
  refine W.exit (thx ?_)
  obtain rfl := si H
  exact ⟨_, rfl, rfl, ⟨x0, _, _, rfl, pt, us, v30, o, z, rfl, a0⟩⟩
 ·have e2 : OA (RL (RI .i32)) h (Y) [] [] := OA.nil (Nat.succ_pos _)
  have w0 := u0.addHole (e := es true (RL (RI .i32)) (Y) 43 [] ([] : List (List Int))) rfl
  exact ⟨h, _, _, rfl, pt, us, (Y), [], w0, rfl, e2⟩
 rintro _ e_ w_ ⟨rfl, e1, b3, _, rfl, u3, rfl, v32, p, g0, rfl, i0⟩
 refine bke (nrm (sr (va (v32) (va (v32) (wln (W.ret ?_))))))
 obtain rfl := si y
 have h0 := g0.sD 3 [0]
 exact r1 ⟨_, e1, rfl, rfl, pt, v32, p, h0, rfl, i0⟩
def f_linotyperef21_First (p0 : List Int) : Option (List Int) :=
 (slc p0 0 (imin (p0.length : Int) 16)).bind fun a =>
 (app ([] : List Int) a).bind fun b =>
 some b
theorem c_linotyperef21_First (n : Own c0 G F) (a : List Int) {r : List Int} (j : Sl (RI .i32) c0 v1 a) (H : f_linotyperef21_First a = some r) :
    Calls prog 38 #[v1] c0.w (Post c0 fun c v => ∃ b l, Own c G (es true (RI .i32) b 21 l r :: F) ∧ v = b ∧ OA (RI .i32) c b l r) := by
 unfold f_linotyperef21_First at H
 refine en func38 rfl rfl (sr (va (Y) (wln (sr (me (sl (RI .i32) 21 [] ([] : List Int) n trivial) ?_)))))
 rintro v7 x s ⟨y, o, p⟩
 refine va (v1) (va (v1) (vx (ln 3 underlying43 j.m) (va (I (imin (a.length : Int) 16)) (bn H fun t q H => ?_))))
 obtain ⟨v9, f, g⟩ := run_cutH (k' := .i64) underlying43 (by kernel_rfl) (j.mono s) q
 refine vr v9 (rx (by kernel_rfl) (f _)) (bn H fun u h H => me (ap (RI .i32) (J 0) 4 43 0 o p g h underlying43) ?_)
 rintro v17 e l16 ⟨k, d, i⟩
 refine va (v17) (wln (W.ret ?_))
 obtain rfl := si H
 exact r1 ⟨_, e, rfl, rfl, pt, v17, k, d, rfl, i⟩
def f_linotyperef19_Of (p0 : List Int) : Option (Int) :=
 (iter (σ := (List G_api_Prop) × Int) (τ := (List G_api_Prop)) (((p0.length : Int) - 0).toNat + 1) (fun a =>
 if (decide (a.2 < (p0.length : Int))) = true then
 (idx p0 a.2).bind fun b =>
 (f_linotyperef13_Of b).bind fun c =>
 (app a.1 ([c] : List G_api_Prop)).bind fun d =>
 some (.inl (d, (w64 (a.2 + 1))))
 else
 some (.inr (a.1))) (([] : List G_api_Prop), 0)).bind fun f =>
 (f_linotyperef19_Row p0 f).bind fun e =>
 some e
theorem c_linotyperef19_Of (O0 : Own c0 G F) (h : List Int) {r : Int} (g : Sl (RI .i32) c0 v1 h) (H : f_linotyperef19_Of h = some r) :
    Calls prog 58 #[v1] c0.w (Post c0 fun c v => Own c G (F) ∧ v = I r) := by
 unfold f_linotyperef19_Of at H
 refine en func58 rfl rfl (sr (va (I 0) (wln (sr (va (Y) (wln (W.seq (sr (va (I 0) (wln (W.block (bn H fun l0 X f => lp X (fun a => Jn c0 fun c l => ∃ v5 i, Own c G (es true R_api_Prop v5 133 i a.1 :: F) ∧ l = [(0, v1), (3, v5), (4, I a.2)] ∧ OA R_api_Prop c v5 i a.1) (fun d ex e w => ex = .exit 0 ∧ (Jn c0 fun c l => ∃ v7 o, Own c G (es true R_api_Prop v7 133 o d :: F) ∧ l = [(0, v1), (3, v7)] ∧ OA R_api_Prop c v7 o d) e w) ?_ ?_ ?_))))))))))))
 ·clear f X
  intro a q1 R o0 H
  revert R o0
  rintro e_ w_ ⟨c9, d1, _, rfl, l9, rfl, v5, i, j, rfl, k⟩
  refine W.seq (sr (va (I a.2) (va (v1) (vx (ln 3 underlying43 g.m) (va (B (decide (a.2 < (h.length : Int)))) (wln (cn H (fun S H => ?_) (fun S H => ?_))))))))
  ·refine W.skip (nrm (W.seq (W.block (W.region (va (v5) (va (v1) (va (I a.2) (bn H fun p n H => ?_))))))))
   obtain ⟨v0, T, k0⟩ := Sl.at (g.mono l9) (idx_get n)
   obtain rfl := T
   refine vx (ix underlying43 g.m n) (vx (l1 underlying21 (k0 0 _ rfl)) (bn H fun b U H => cl (c_linotyperef13_Of j p U) ?_))
   rintro v27 y0 f1 ⟨s, rfl⟩
   refine me (sl R_api_Prop 133 [[I b.Break, B b.Pict, I b.Conj, I b.East]] ([b] : List G_api_Prop) s ⟨rfl, trivial⟩) ?_
   rintro v32 z0 g1 ⟨n1, t, Z⟩
   obtain ⟨a1, b0, h1, u, a0⟩ := t.frz 0 rfl Z
   refine WL.gh b0 (bn H fun x0 d0 H => me (ap R_api_Prop (.agg #[I 0, B false, I 0, I 0]) 32 143 1 u k.m a0 d0 underlying143) ?_)
   rintro v42 N i1 ⟨m0, x, e0⟩
   refine va (v42) (WL.nil (bkn (nrm (W.region (va (I a.2) (va (I (w64 (a.2 + 1))) (va (I (w64 (a.2 + 1))) (WL.nil ?_))))))))
   obtain rfl := si H
   refine ⟨_, rfl, ?_⟩
   have y := x.sD 2 [1]
   exact ⟨N, _, _, rfl, pt, us, v42, m0, y, rfl, e0⟩
  refine W.exit (thx ?_)
  obtain rfl := si H
  exact ⟨_, rfl, rfl, ⟨c9, _, _, rfl, pt, us, v5, i, j, rfl, k⟩⟩
 ·have f0 : OA R_api_Prop c0 (Y) [] [] := OA.nil (Nat.succ_pos _)
  have z := O0.addHole (e := es true R_api_Prop (Y) 133 [] ([] : List G_api_Prop)) rfl
  exact ⟨c0, _, _, rfl, pt, us, (Y), [], z, rfl, f0⟩
 rintro _ e_ w_ ⟨rfl, b1, e1, _, rfl, j1, rfl, v7, o, A, rfl, g0⟩
 refine bke (nrm (sr (va (v1) (va (v7) ?_))))
 obtain ⟨c1, i0, k1, D, h0⟩ := A.frz 0 rfl g0
 refine WL.gh i0 (bn f fun q j0 f => cl (c_linotyperef19_Row D h l0 g.m h0 j0) ?_)
 rintro p1 P m1 ⟨E, rfl⟩
 refine va (I q) (wln (W.ret ?_))
 obtain rfl := si f
 have M := E.sD 1 []
 exact r1 ⟨_, P, rfl, rfl, pt, M, rfl⟩
def f_linotyperef21_Wide (p0 : List Int) : Option (Int) :=
 (idx p0 0).bind fun c =>
 (f_linotyperef18_Silent c).bind fun d =>
 if d = true then
 some 0
 else
 (f_linotyperef21_First p0).bind fun a =>
 (f_linotyperef19_Of a).bind fun b =>
 some b
theorem c_linotyperef21_Wide (y : Own c0 G F) (b : List Int) {r : Int} (a : Sl (RI .i32) c0 v1 b) (H : f_linotyperef21_Wide b = some r) :
    Calls prog 37 #[v1] c0.w (Post c0 fun c v => Own c G (F) ∧ v = I r) := by
 unfold f_linotyperef21_Wide at H
 refine en func37 rfl rfl (sr (va (I 0) (wln (W.seq (sr (va (v1) (bn H fun x u H => ?_)))))))
 obtain ⟨T, z, D⟩ := Sl.at a (idx_get u)
 obtain rfl := z
 refine vx (ix underlying43 a u) (vx (l1 underlying21 (D 0 _ rfl)) (bn H fun X A H => cl (c_linotyperef18_Silent y x A) ?_))
 rintro v13 k N ⟨j, rfl⟩
 refine wln (cn H (fun n H => ?_) (fun n H => ?_))
 ·refine sr (va (I 0) (wln (W.ret (thr ?_))))
  obtain rfl := si H
  exact r1 ⟨_, k, rfl, rfl, pt, j, rfl⟩
 refine W.skip (nrm (sr (va (v1) (bn H fun d o H => cl (c_linotyperef21_First j b a.m o) ?_))))
 rintro v16 E P ⟨_, U, f, rfl, p⟩
 obtain ⟨M, s, R, g, q⟩ := f.frz 0 rfl p
 refine WL.gh s (bn H fun e t H => cl (c_linotyperef19_Of g d q t) ?_)
 rintro v35 l S ⟨h, rfl⟩
 refine va (I e) (wln (W.ret ?_))
 obtain rfl := si H
 have i := h.sD 1 []
 exact r1 ⟨_, l, rfl, rfl, pt, i, rfl⟩
def f_linotyperef37_Lay (p0 : G_linotyperef34_Pen) (p1 : List Int) : Option (G_linotyperef34_Pen) :=
 (f_linotyperef16_Clusters p1).bind fun c =>
 (iter (σ := Int × (List G_api_Line) × Int × Int × Bool × Bool) (τ := ((List G_api_Line) × Int × Int × Bool × Bool)) (((c.length : Int) - 0).toNat + 1) (fun a =>
 if (decide (a.1 < (c.length : Int))) = true then
 ((idx c a.1).bind fun j =>
 (idx j 0).bind fun k =>
 (f_linotyperef18_Silent k).bind fun l =>
 if (!l) = true then
 (idx c a.1).bind fun m =>
 (idx c a.1).bind fun n =>
 (f_linotyperef21_Wide m).bind fun o =>
 (f_linotyperef21_First n).bind fun p =>
 (f_linotyperef34_Pen_Put (⟨a.2.1, (⟨a.2.2.1, a.2.2.2.1, a.2.2.2.2.1⟩ : G_api_Cursor), a.2.2.2.2.2⟩ : G_linotyperef34_Pen) o p).bind fun f =>
 some (f.1.L, f.1.At.Row, f.1.At.Col, f.1.At.Pending, f.1.Auto)
 else
 (idx c a.1).bind fun i =>
 (iter (σ := Int × (List G_api_Line) × Int × Int × Bool × Bool) (τ := ((List G_api_Line) × Int × Int × Bool × Bool)) (((i.length : Int) - 0).toNat + 1) (fun b =>
 (idx c a.1).bind fun q =>
 if (decide (b.1 < (q.length : Int))) = true then
 (idx c a.1).bind fun r =>
 (idx r b.1).bind fun s =>
 (f_linotyperef36_Do (⟨b.2.1, (⟨b.2.2.1, b.2.2.2.1, b.2.2.2.2.1⟩ : G_api_Cursor), b.2.2.2.2.2⟩ : G_linotyperef34_Pen) s).bind fun g =>
 some (.inl ((w64 (b.1 + 1)), g.1.L, g.1.At.Row, g.1.At.Col, g.1.At.Pending, g.1.Auto))
 else
 some (.inr (b.2.1, b.2.2.1, b.2.2.2.1, b.2.2.2.2.1, b.2.2.2.2.2))) (0, a.2.1, a.2.2.1, a.2.2.2.1, a.2.2.2.2.1, a.2.2.2.2.2)).bind fun e =>
 some (e.1, e.2.1, e.2.2.1, e.2.2.2.1, e.2.2.2.2)).bind fun h =>
 some (.inl ((w64 (a.1 + 1)), h.1, h.2.1, h.2.2.1, h.2.2.2.1, h.2.2.2.2))
 else
 some (.inr (a.2.1, a.2.2.1, a.2.2.2.1, a.2.2.2.2.1, a.2.2.2.2.2))) (0, p0.L, p0.At.Row, p0.At.Col, p0.At.Pending, p0.Auto)).bind fun d =>
 some (⟨d.1, (⟨d.2.1, d.2.2.1, d.2.2.2.1⟩ : G_api_Cursor), d.2.2.2.2⟩ : G_linotyperef34_Pen)
theorem c_linotyperef37_Lay (O0 : Own c0 G F) (y : G_linotyperef34_Pen) (p1 : List Int) {r : G_linotyperef34_Pen} (h2 : Sl R_api_Line c0 v1 y.L) (h4 : Sl (RI .i32) c0 v3 p1) (H : f_linotyperef37_Lay y p1 = some r) :
    Calls prog 16 #[.agg #[v1, I y.At.Row, I y.At.Col, B y.At.Pending, B y.Auto], v3] c0.w (Post c0 fun c v => ∃ y1, Own c G (F) ∧ v = .agg #[y1, I r.At.Row, I r.At.Col, B r.At.Pending, B r.Auto] ∧ Sl R_api_Line c y1 r.L) := by
 unfold f_linotyperef37_Lay at H
 refine en func16 rfl rfl (sr ?_)
 obtain ⟨a5, a6, a7, rfl⟩ := (h2).form
 refine me (al 34 [.slice a5 a6 a7, I y.At.Row, I y.At.Col, B y.At.Pending, B y.Auto] O0) ?_
 rintro v11 t6 w6 ⟨o, rfl, O9⟩
 refine me (al 34 [Y, I 0, I 0, B false, B false] O9) ?_
 rintro v15 u6 x6 ⟨q, rfl, z3⟩
 refine wln (sr (va (v3) (bn H fun k j4 H => cl (c_linotyperef16_Clusters z3 p1 h4.m j4) ?_)))
 rintro v17 x0 y6 ⟨_, n, a4, rfl, i⟩
 refine va (v17) (wln (W.seq (sr (va (I 0) (wln (W.block (bn H fun h x1 t1 => lp x1 (fun a => Jn x0 fun c l => ∃ v28, Own c G (es true (RL (RI .i32)) v17 43 n k :: (Eb q 34 [Y, I 0, I 0, B false, B false]) :: (Eb o 34 [v28, I a.2.2.1, I a.2.2.2.1, B a.2.2.2.2.1, B a.2.2.2.2.2]) :: F) ∧ l = [(2, Q o), (4, Q q), (5, v17), (6, I a.1)] ∧ Sl R_api_Line c v28 a.2.1) (fun t ex e w => ex = .exit 0 ∧ (Jn x0 fun c l => ∃ v29, Own c G (es true (RL (RI .i32)) v17 43 n k :: (Eb q 34 [Y, I 0, I 0, B false, B false]) :: (Eb o 34 [v29, I t.2.1, I t.2.2.1, B t.2.2.2.1, B t.2.2.2.2]) :: F) ∧ l = [(2, Q o), (4, Q q)] ∧ Sl R_api_Line c v29 t.1) e w) ?_ ?_ ?_)))))))
 ·clear t1 x1
  intro a l5 z0 n1 H
  revert z0 n1
  rintro e_ w_ ⟨w1, v6, _, rfl, E, rfl, v28, i0, rfl, e1⟩
  refine W.seq (sr (va (I a.1) (va (v17) (vx (lnO 3 underlying80 i.m) (va (B (decide (a.1 < (k.length : Int)))) (wln (cn H (fun l4 H => ?_) (fun l4 H => ?_))))))))
  ·refine W.skip (nrm (bn H fun x d y3 => W.seqJ (Jn w1 fun c l => ∃ v40, Own c G (es true (RL (RI .i32)) v17 43 n k :: (Eb q 34 [Y, I 0, I 0, B false, B false]) :: (Eb o 34 [v40, I x.2.1, I x.2.2.1, B x.2.2.2.1, B x.2.2.2.2]) :: F) ∧ l = [(2, Q o), (4, Q q), (5, v17), (6, I a.1)] ∧ Sl R_api_Line c v40 x.1) ?_ ?_))
   ·refine W.block (W.seq (sr (va (v17) (va (I a.1) (bn d fun r6 f1 d => vx (ixO underlying80 i.m f1) ?_)))))
    obtain ⟨j6, m4, c5⟩ := OA.at (i.mono E) f1
    obtain ⟨v45, rfl, z1⟩ := m4
    refine vr v45 (rx (by kernel_rfl) (ldE1 underlying43 rfl (i0.on 0 rfl) (i.m.blk f1) (at1 (j := 0) c5 rfl))) (bn d fun o3 a2 d => ?_)
    obtain ⟨k6, n4, d5⟩ := Sl.at z1 (idx_get a2)
    obtain rfl := n4
    refine vx (ix underlying43 z1 a2) (vx (l1 underlying21 (d5 0 _ rfl)) (bn d fun p3 o4 d => cl (c_linotyperef18_Silent i0 o3 o4) ?_))
    rintro v57 y0 e0 ⟨u1, rfl⟩
    refine va (B (!p3)) (wln (cn d (fun p4 d => ?_) (fun p4 d => ?_)))
    ·refine W.seq (rD [15] (Kp G0 [(Eb o 34 [v28, I a.2.2.1, I a.2.2.2.1, B a.2.2.2.2.1, B a.2.2.2.2.2]), es true (RL (RI .i32)) v17 43 n k]) u1 ?_)
     intro e4 b2 j0
     have k1 : Kp G0 [(Eb o 34 [v28, I a.2.2.1, I a.2.2.2.1, B a.2.2.2.2.1, B a.2.2.2.2.2]), es true (RL (RI .i32)) v17 43 n k] e4 := (Kp.cons (j0.on 2 rfl) (Kp.cons (j0.on 0 rfl) Kp.nil0))
     refine tkx 0 k1 (fun z s A => leN 34 0 [v28, I a.2.2.1, I a.2.2.2.1, B a.2.2.2.2.1, B a.2.2.2.2.2] (A.on 0 rfl)) (ta 1 (v17) (ta 2 (I a.1) (bn d fun q3 g1 d => tx 3 (fun z s => ixO underlying80 i.m g1) ?_)))
     obtain ⟨l6, q4, e5⟩ := OA.at (i.mono (E.trans (e0.trans b2))) g1
     obtain ⟨j5, rfl, r4⟩ := q4
     refine AC.takeK 4 (j5) k1 rfl (by kernel_rfl) (by kernel_rfl) (by kernel_rfl) (fun z s A => (rx (by kernel_rfl) (ldE1 underlying43 rfl (A.on 1 rfl) (i.m.blk g1) (at1 (j := 0) e5 rfl)))) (ta 6 (v17) (ta 7 (I a.1) (bn d fun s3 h1 d => tx 8 (fun z s => ixO underlying80 i.m h1) ?_)))
     obtain ⟨m6, s4, f5⟩ := OA.at (i.mono (E.trans (e0.trans b2))) h1
     obtain ⟨k5, rfl, t4⟩ := s4
     refine AC.takeK 9 (k5) k1 rfl (by kernel_rfl) (by kernel_rfl) (by kernel_rfl) (fun z s A => (rx (by kernel_rfl) (ldE1 underlying43 rfl (A.on 1 rfl) (i.m.blk h1) (at1 (j := 0) f5 rfl)))) (bn d fun t3 u4 d => o1 5 (gc 5 (c_linotyperef21_Wide j0 q3 r4 u4) ?_))
     rintro d7 f4 z6 ⟨k0, rfl⟩
     have g5 : Kp G0 [(Eb o 34 [v28, I a.2.2.1, I a.2.2.2.1, B a.2.2.2.2.1, B a.2.2.2.2.2]), es true (RL (RI .i32)) v17 43 n k] f4 := (Kp.cons (k0.on 2 rfl) (Kp.cons (k0.on 0 rfl) Kp.nil0))
     refine ⟨.inr g5, bn d fun u3 v4 d => o1 10 (gc 10 (c_linotyperef21_First k0 s3 t4.m v4) ?_)⟩
     rintro e7 g4 b7 ⟨_, c7, l0, rfl, w4⟩
     have h5 : Kp G0 [(Eb o 34 [v28, I a.2.2.1, I a.2.2.2.1, B a.2.2.2.2.1, B a.2.2.2.2.2]), es true (RL (RI .i32)) v17 43 n k] g4 := (Kp.cons (l0.on 3 rfl) (Kp.cons (l0.on 1 rfl) Kp.nil0))
     refine ⟨.inr h5, ?_⟩
     obtain ⟨i4, y4, b5, m0, x4⟩ := l0.frz 0 rfl w4
     have i5 : Kp G0 [(Eb o 34 [v28, I a.2.2.1, I a.2.2.2.1, B a.2.2.2.2.1, B a.2.2.2.2.2]), es true (RL (RI .i32)) v17 43 n k] i4 := (Kp.cons (m0.on 3 rfl) (Kp.cons (m0.on 1 rfl) Kp.nil0))
     refine AC.gh y4 b5 (fun _ => i5) (bn d fun f z4 d => o1 11 (gc 11 (c_linotyperef34_Pen_Put m0 (⟨a.2.1, (⟨a.2.2.1, a.2.2.2.1, a.2.2.2.2.1⟩ : G_api_Cursor), a.2.2.2.2.2⟩ : G_linotyperef34_Pen) t3 u3 e1.m x4 z4) ?_))
     rintro p6 l2 b6 ⟨c2, o6, M, rfl, X⟩
     have k3 : Kp G0 [(Eb o 34 [v28, I a.2.2.1, I a.2.2.2.1, B a.2.2.2.2.1, B a.2.2.2.2.2]), es true (RL (RI .i32)) v17 43 n k] l2 := (Kp.cons (M.on 4 rfl) (Kp.cons (M.on 2 rfl) Kp.nil0))
     refine ⟨.inr k3, ta 12 (.tuple #[.agg #[c2, I f.1.At.Row, I f.1.At.Col, B f.1.At.Pending, B f.1.Auto], .agg #[I f.2.Row, I f.2.Col, B f.2.Pending]]) (ta 13 (.agg #[c2, I f.1.At.Row, I f.1.At.Col, B f.1.At.Pending, B f.1.Auto]) (ta 14 (.agg #[I f.2.Row, I f.2.Col, B f.2.Pending]) ?_))⟩
     obtain ⟨o0, q0, s0, rfl⟩ := (X).form
     refine o1 15 (gD 15 (sA 34 [.slice o0 q0 s0, I f.1.At.Row, I f.1.At.Col, B f.1.At.Pending, B f.1.Auto] 4 M ⟨(X).one, rfl, rfl, rfl, rfl, trivial⟩) ?_)
     rintro t5 e3 d2
     refine ⟨.inl rfl, dn (nrm (W.exit (thx (bke (nrm ?_)))))⟩
     obtain rfl := si d
     obtain ⟨m2, v2, c6, e2, u2⟩ := d2.frz 0 rfl (X.mono e3)
     have f2 := e2.sD 5 [2, 3, 4]
     exact ⟨m2, _, _, v2.symm, pt, us, (.slice o0 q0 s0), f2, rfl, u2⟩
    refine W.skip (nrm (sr (va (I 0) (wln (W.block (bn d fun n5 _ d => bn d fun n6 a1 f0 => lp a1 (fun b => Jn y0 fun c l => ∃ p, Own c G (es true (RL (RI .i32)) v17 43 n k :: (Eb q 34 [Y, I 0, I 0, B false, B false]) :: (Eb o 34 [p, I b.2.2.1, I b.2.2.2.1, B b.2.2.2.2.1, B b.2.2.2.2.2]) :: F) ∧ l = [(2, Q o), (4, Q q), (5, v17), (6, I a.1), (7, I b.1)] ∧ Sl R_api_Line c p b.2.1) (fun u ex e w => ex = .exit 2 ∧ (Jn y0 fun c l => ∃ D, Own c G (es true (RL (RI .i32)) v17 43 n k :: (Eb q 34 [Y, I 0, I 0, B false, B false]) :: (Eb o 34 [D, I u.2.1, I u.2.2.1, B u.2.2.2.1, B u.2.2.2.2]) :: F) ∧ l = [(2, Q o), (4, Q q), (5, v17), (6, I a.1)] ∧ Sl R_api_Line c D u.1) e w) ?_ ?_ ?_))))))
    ·clear f0 a1
     intro b l5 z0 n1 d
     revert z0 n1
     rintro e_ w_ ⟨n2, v5, _, rfl, i1, rfl, p, N, rfl, b1⟩
     refine W.seq (sr (va (I b.1) (va (v17) (va (I a.1) (bn d fun w3 Z d => vx (ixO underlying80 i.m Z) ?_)))))
     obtain ⟨o5, w2, g3⟩ := OA.at (i.mono (E.trans (e0.trans i1))) Z
     obtain ⟨m3, rfl, x2⟩ := w2
     refine vr m3 (rx (by kernel_rfl) (ldE1 underlying43 rfl (N.on 0 rfl) (i.m.blk Z) (at1 (j := 0) g3 rfl))) (vx (ln 3 underlying43 x2) (va (B (decide (b.1 < (w3.length : Int)))) (wln (cn d (fun y2 d => ?_) (fun y2 d => ?_)))))
     ·refine W.skip (nrm (W.seq (W.block (rD [12] (Kp G0 [(Eb o 34 [p, I b.2.2.1, I b.2.2.2.1, B b.2.2.2.2.1, B b.2.2.2.2.2]), es true (RL (RI .i32)) v17 43 n k]) N ?_))))
      intro o2 f3 P
      have j1 : Kp G0 [(Eb o 34 [p, I b.2.2.1, I b.2.2.2.1, B b.2.2.2.2.1, B b.2.2.2.2.2]), es true (RL (RI .i32)) v17 43 n k] o2 := (Kp.cons (P.on 2 rfl) (Kp.cons (P.on 0 rfl) Kp.nil0))
      refine tkx 0 j1 (fun z s A => leN 34 0 [p, I b.2.2.1, I b.2.2.2.1, B b.2.2.2.2.1, B b.2.2.2.2.2] (A.on 0 rfl)) (ta 1 (v17) (ta 2 (I a.1) (bn d fun s6 a0 d => tx 3 (fun z s => ixO underlying80 i.m a0) ?_)))
      obtain ⟨p5, z2, h3⟩ := OA.at (i.mono (E.trans (e0.trans (i1.trans f3)))) a0
      obtain ⟨n3, rfl, c1⟩ := z2
      refine AC.takeK 4 (n3) j1 rfl (by kernel_rfl) (by kernel_rfl) (by kernel_rfl) (fun z s A => (rx (by kernel_rfl) (ldE1 underlying43 rfl (A.on 1 rfl) (i.m.blk a0) (at1 (j := 0) h3 rfl)))) (ta 5 (I b.1) (bn d fun x3 d1 d => ?_))
      obtain ⟨q5, a3, i3⟩ := Sl.at c1 (idx_get d1)
      obtain rfl := a3
      refine tx 6 (fun z s => ix underlying43 c1 d1) (tx 7 (fun z s => l1 underlying21 ((mm i3) 0 _ rfl)) (bn d fun g b3 d => o1 8 (gc 8 (c_linotyperef36_Do P (⟨b.2.1, (⟨b.2.2.1, b.2.2.2.1, b.2.2.2.2.1⟩ : G_api_Cursor), b.2.2.2.2.2⟩ : G_linotyperef34_Pen) x3 b1.m b3) ?_)))
      rintro q6 p2 d6 ⟨m1, R, rfl, b0⟩
      have l3 : Kp G0 [(Eb o 34 [p, I b.2.2.1, I b.2.2.2.1, B b.2.2.2.2.1, B b.2.2.2.2.2]), es true (RL (RI .i32)) v17 43 n k] p2 := (Kp.cons (R.on 2 rfl) (Kp.cons (R.on 0 rfl) Kp.nil0))
      refine ⟨.inr l3, ta 9 (.tuple #[.agg #[m1, I g.1.At.Row, I g.1.At.Col, B g.1.At.Pending, B g.1.Auto], B g.2]) (ta 10 (.agg #[m1, I g.1.At.Row, I g.1.At.Col, B g.1.At.Pending, B g.1.Auto]) (ta 11 (B g.2) ?_))⟩
      obtain ⟨t0, u0, v0, rfl⟩ := (b0).form
      refine o1 12 (gD 12 (sA 34 [.slice t0 u0 v0, I g.1.At.Row, I g.1.At.Col, B g.1.At.Pending, B g.1.Auto] 2 R ⟨b0.one, rfl, rfl, rfl, rfl, trivial⟩) ?_)
      rintro q2 e6 g2
      refine ⟨.inl rfl, dn (bkn (nrm (W.region (va (I b.1) (va (I (w64 (b.1 + 1))) (va (I (w64 (b.1 + 1))) (WL.nil ?_)))))))⟩
      obtain rfl := si d
      exact ⟨_, rfl, ⟨q2, _, _, rfl, pt, us, (.slice t0 u0 v0), g2, rfl, b0.m⟩⟩
     refine W.exit (thx ?_)
     obtain rfl := si d
     exact ⟨_, rfl, rfl, ⟨n2, _, _, rfl, pt, us, p, N, rfl, b1⟩⟩
    ·exact ⟨y0, _, _, rfl, pt, us, v28, u1, rfl, e1.m⟩
    rintro _ e_ w_ ⟨rfl, s2, w5, _, rfl, f6, rfl, D, i2, rfl, c3⟩
    refine bke (bkn (nrm ?_))
    obtain rfl := si f0
    exact ⟨s2, _, _, rfl, pt, us, D, i2, rfl, c3⟩
   rintro e_ w_ ⟨t2, x5, _, rfl, g6, rfl, v40, j2, rfl, d3⟩
   refine W.region (va (I a.1) (va (I (w64 (a.1 + 1))) (va (I (w64 (a.1 + 1))) (WL.nil ?_))))
   obtain rfl := si y3
   exact ⟨_, rfl, ⟨t2, _, _, rfl, pt, us, v40, j2, rfl, d3⟩⟩
  refine W.exit (thx ?_)
  obtain rfl := si H
  exact ⟨_, rfl, rfl, ⟨w1, _, _, rfl, pt, us, v28, i0, rfl, e1⟩⟩
 ·exact ⟨x0, _, _, rfl, pt, us, (.slice a5 a6 a7), a4, rfl, h2.m⟩
 rintro _ e_ w_ ⟨rfl, u5, y5, _, rfl, h6, rfl, v29, g0, rfl, d0⟩
 refine bke (nrm (sr (vx (leN 34 0 [v29, I h.2.1, I h.2.2.1, B h.2.2.2.1, B h.2.2.2.2] (g0.on 2 rfl)) ?_)))
 obtain ⟨S, T, U, rfl⟩ := (d0).form
 refine md (sA 34 [.slice S T U, I h.2.1, I h.2.2.1, B h.2.2.2.1, B h.2.2.2.2] 1 g0 ⟨d0.one, rfl, rfl, rfl, rfl, trivial⟩) ?_
 rintro w0 i6 h0
 refine wln (W.ret ?_)
 obtain rfl := si t1
 have k2 := h0.sD 3 []
 exact retC (c := w0) (vs := [.slice S T U, I h.2.1, I h.2.2.1, B h.2.2.2.1, B h.2.2.2.2]) rfl (by kernel_rfl) (by kernel_rfl) (by kernel_rfl) (h0.on 1 rfl _ rfl).1 ⟨_, w0, rfl, rfl, pt, (.slice S T U), k2, rfl, d0.m⟩
end Go.Proofs.YtfhhpdggmefcoaaGreatDoor
