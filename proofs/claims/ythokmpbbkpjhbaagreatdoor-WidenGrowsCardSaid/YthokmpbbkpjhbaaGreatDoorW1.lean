import Derived.Test.YthokmpbbkpjhbaaGreatDoorMq
import Derived.Test.YthokmpbbkpjhbaaGreatDoorProg
import Derived.Test.YthokmpbbkpjhbaaGreatDoorMy
import Derived.Test.YthokmpbbkpjhbaaGreatDoorMz
import Derived.Test.YthokmpbbkpjhbaaGreatDoorA1
import Derived.Test.YthokmpbbkpjhbaaGreatDoorG1
import Derived.Test.YthokmpbbkpjhbaaGreatDoorM1
import Derived.Test.YthokmpbbkpjhbaaGreatDoorN1
import Derived.Test.YthokmpbbkpjhbaaGreatDoorW0
namespace Go.Proofs.YthokmpbbkpjhbaaGreatDoor
open Go Go.Lt
set_option maxRecDepth 10000
set_option linter.unusedVariables false
attribute [local irreducible] W WL AC
open Tryz
variable {c0 : Cx} {G : Gm} {F : List En} {sg : Sto} {v1 v2 v3 v4 v5 v6 v7 v8 v9 v10 v11 v12 v13 v14 v15 v16 v17 v18 v19 v20 v21 v22 v23 v24 v25 v26 v27 v28 v29 v30 v31 v32 v33 v34 v35 v36 v37 v38 v39 v40 v41 v42 v43 v44 v45 v46 v47 v48 v49 v50 v51 v52 v53 v54 v55 v56 v57 v58 v59 v60 : Value}
def f_cluster_Cluster_Len__widen_Cluster_4 (p0 : G_cluster_Cluster) : Option (Int) :=
 if false = true then
 some 0
 else
 some p0.n
theorem c_cluster_Cluster_Len__widen_Cluster_4 {b0_ : Nat} {r0_0 : Value} {r0_1 : Value} {r0_2 : Value} {r0_3 : Value} {r0_21 : Value} {r0_22 : Value} {r0_23 : Value} (p0 : G_cluster_Cluster) (O0 : Own c0 G (⟨.pointer (some ⟨b0_, 0, none⟩), 133, [r0_0, r0_1, r0_2, r0_3, .int .i32 p0.text.1, .int .i32 p0.text.2.1, .int .i32 p0.text.2.2.1, .int .i32 p0.text.2.2.2.1, .int .i32 p0.text.2.2.2.2.1, .int .i32 p0.text.2.2.2.2.2.1, .int .i32 p0.text.2.2.2.2.2.2.1, .int .i32 p0.text.2.2.2.2.2.2.2.1, .int .i32 p0.text.2.2.2.2.2.2.2.2.1, .int .i32 p0.text.2.2.2.2.2.2.2.2.2.1, .int .i32 p0.text.2.2.2.2.2.2.2.2.2.2.1, .int .i32 p0.text.2.2.2.2.2.2.2.2.2.2.2.1, .int .i32 p0.text.2.2.2.2.2.2.2.2.2.2.2.2.1, .int .i32 p0.text.2.2.2.2.2.2.2.2.2.2.2.2.2.1, .int .i32 p0.text.2.2.2.2.2.2.2.2.2.2.2.2.2.2.1, .int .i32 p0.text.2.2.2.2.2.2.2.2.2.2.2.2.2.2.2, .int .i64 p0.n, r0_21, r0_22, r0_23], 0⟩ :: F)) {r : Int} (H : f_cluster_Cluster_Len__widen_Cluster_4 p0 = some r) :
    Calls Tryz.prog 154 #[.pointer (some ⟨b0_, 4, none⟩)] c0.w (Post c0 fun c v => Own c G (⟨.pointer (some ⟨b0_, 0, none⟩), 133, [r0_0, r0_1, r0_2, r0_3, .int .i32 p0.text.1, .int .i32 p0.text.2.1, .int .i32 p0.text.2.2.1, .int .i32 p0.text.2.2.2.1, .int .i32 p0.text.2.2.2.2.1, .int .i32 p0.text.2.2.2.2.2.1, .int .i32 p0.text.2.2.2.2.2.2.1, .int .i32 p0.text.2.2.2.2.2.2.2.1, .int .i32 p0.text.2.2.2.2.2.2.2.2.1, .int .i32 p0.text.2.2.2.2.2.2.2.2.2.1, .int .i32 p0.text.2.2.2.2.2.2.2.2.2.2.1, .int .i32 p0.text.2.2.2.2.2.2.2.2.2.2.2.1, .int .i32 p0.text.2.2.2.2.2.2.2.2.2.2.2.2.1, .int .i32 p0.text.2.2.2.2.2.2.2.2.2.2.2.2.2.1, .int .i32 p0.text.2.2.2.2.2.2.2.2.2.2.2.2.2.2.1, .int .i32 p0.text.2.2.2.2.2.2.2.2.2.2.2.2.2.2.2, .int .i64 p0.n, r0_21, r0_22, r0_23], 0⟩ :: F) ∧ v = .int .i64 r) := by
 unfold f_cluster_Cluster_Len__widen_Cluster_4 at H
 refine en func154 rfl rfl (sr (va (.int .i64 0) (wln (W.seq (sr (va (.pointer (some ⟨b0_, 4, none⟩)) (va (.bool false) (wln (W.cond (t := false) (by kernel_rfl) (fun h1 => ?_) (fun h1 => ?_))))))))))
 ·cases h1
 have H := ie h1 H
 refine W.skip (nrm (sr (va (.pointer (some ⟨b0_, 4, none⟩)) (va (.pointer (some ⟨b0_, 4, none⟩)) (va (.pointer (some ⟨b0_, 20, none⟩)) (vx (le1 20 underlying3 (O0.on 0 rfl)) (va (.int .i64 p0.n) (wln (W.ret ?_)))))))))
 obtain rfl := si H
 exact r1 ⟨_, c0, rfl, rfl, pt, O0, rfl⟩
def f_cluster_Cluster_Full__widen_Cluster_4 (p0 : G_cluster_Cluster) : Option (Bool) :=
 (f_cluster_Cluster_Len__widen_Cluster_4 p0).bind fun x_4 =>
 some (x_4 == 16)
theorem c_cluster_Cluster_Full__widen_Cluster_4 {b0_ : Nat} {r0_0 : Value} {r0_1 : Value} {r0_2 : Value} {r0_3 : Value} {r0_21 : Value} {r0_22 : Value} {r0_23 : Value} (p0 : G_cluster_Cluster) (O0 : Own c0 G (⟨.pointer (some ⟨b0_, 0, none⟩), 133, [r0_0, r0_1, r0_2, r0_3, .int .i32 p0.text.1, .int .i32 p0.text.2.1, .int .i32 p0.text.2.2.1, .int .i32 p0.text.2.2.2.1, .int .i32 p0.text.2.2.2.2.1, .int .i32 p0.text.2.2.2.2.2.1, .int .i32 p0.text.2.2.2.2.2.2.1, .int .i32 p0.text.2.2.2.2.2.2.2.1, .int .i32 p0.text.2.2.2.2.2.2.2.2.1, .int .i32 p0.text.2.2.2.2.2.2.2.2.2.1, .int .i32 p0.text.2.2.2.2.2.2.2.2.2.2.1, .int .i32 p0.text.2.2.2.2.2.2.2.2.2.2.2.1, .int .i32 p0.text.2.2.2.2.2.2.2.2.2.2.2.2.1, .int .i32 p0.text.2.2.2.2.2.2.2.2.2.2.2.2.2.1, .int .i32 p0.text.2.2.2.2.2.2.2.2.2.2.2.2.2.2.1, .int .i32 p0.text.2.2.2.2.2.2.2.2.2.2.2.2.2.2.2, .int .i64 p0.n, r0_21, r0_22, r0_23], 0⟩ :: F)) {r : Bool} (H : f_cluster_Cluster_Full__widen_Cluster_4 p0 = some r) :
    Calls Tryz.prog 84 #[.pointer (some ⟨b0_, 4, none⟩)] c0.w (Post c0 fun c v => Own c G (⟨.pointer (some ⟨b0_, 0, none⟩), 133, [r0_0, r0_1, r0_2, r0_3, .int .i32 p0.text.1, .int .i32 p0.text.2.1, .int .i32 p0.text.2.2.1, .int .i32 p0.text.2.2.2.1, .int .i32 p0.text.2.2.2.2.1, .int .i32 p0.text.2.2.2.2.2.1, .int .i32 p0.text.2.2.2.2.2.2.1, .int .i32 p0.text.2.2.2.2.2.2.2.1, .int .i32 p0.text.2.2.2.2.2.2.2.2.1, .int .i32 p0.text.2.2.2.2.2.2.2.2.2.1, .int .i32 p0.text.2.2.2.2.2.2.2.2.2.2.1, .int .i32 p0.text.2.2.2.2.2.2.2.2.2.2.2.1, .int .i32 p0.text.2.2.2.2.2.2.2.2.2.2.2.2.1, .int .i32 p0.text.2.2.2.2.2.2.2.2.2.2.2.2.2.1, .int .i32 p0.text.2.2.2.2.2.2.2.2.2.2.2.2.2.2.1, .int .i32 p0.text.2.2.2.2.2.2.2.2.2.2.2.2.2.2.2, .int .i64 p0.n, r0_21, r0_22, r0_23], 0⟩ :: F) ∧ v = .bool r) := by
 unfold f_cluster_Cluster_Full__widen_Cluster_4 at H
 refine en func84 rfl rfl (sr (va (.bool false) (wln (sr (va (.pointer (some ⟨b0_, 4, none⟩)) (bn H fun x_4 h2 H => cl (c_cluster_Cluster_Len__widen_Cluster_4 p0 O0 h2) ?_))))))
 rintro v8 c7 l7 ⟨O4, rfl⟩
 refine va (.bool (x_4 == 16)) (va (.bool (x_4 == 16)) (wln (W.ret ?_)))
 obtain rfl := si H
 exact r1 ⟨_, c7, rfl, rfl, pt, O4, rfl⟩
def f_cluster_Cluster_Add__widen_Cluster_4 (p0 : G_cluster_Cluster) (p1 : Int) : Option (G_cluster_Cluster × Bool) :=
 (orE false ((f_cluster_Cluster_Full__widen_Cluster_4 p0).bind fun x_8 =>
 some x_8)).bind fun d_5 =>
 if d_5 = true then
 some (p0, false)
 else
 (idx (a16 p0.text) p0.n).bind fun x_20 =>
 (some (aset16 p0.text p0.n p1)).bind fun y_21 =>
 some ((⟨y_21, (w64 (p0.n + 1))⟩ : G_cluster_Cluster), true)
theorem c_cluster_Cluster_Add__widen_Cluster_4 {b0_ : Nat} {r0_0 : Value} {r0_1 : Value} {r0_2 : Value} {r0_3 : Value} {r0_21 : Value} {r0_22 : Value} {r0_23 : Value} (p0 : G_cluster_Cluster) (p1 : Int) (O0 : Own c0 G (⟨.pointer (some ⟨b0_, 0, none⟩), 133, [r0_0, r0_1, r0_2, r0_3, .int .i32 p0.text.1, .int .i32 p0.text.2.1, .int .i32 p0.text.2.2.1, .int .i32 p0.text.2.2.2.1, .int .i32 p0.text.2.2.2.2.1, .int .i32 p0.text.2.2.2.2.2.1, .int .i32 p0.text.2.2.2.2.2.2.1, .int .i32 p0.text.2.2.2.2.2.2.2.1, .int .i32 p0.text.2.2.2.2.2.2.2.2.1, .int .i32 p0.text.2.2.2.2.2.2.2.2.2.1, .int .i32 p0.text.2.2.2.2.2.2.2.2.2.2.1, .int .i32 p0.text.2.2.2.2.2.2.2.2.2.2.2.1, .int .i32 p0.text.2.2.2.2.2.2.2.2.2.2.2.2.1, .int .i32 p0.text.2.2.2.2.2.2.2.2.2.2.2.2.2.1, .int .i32 p0.text.2.2.2.2.2.2.2.2.2.2.2.2.2.2.1, .int .i32 p0.text.2.2.2.2.2.2.2.2.2.2.2.2.2.2.2, .int .i64 p0.n, r0_21, r0_22, r0_23], 0⟩ :: F)) {r : G_cluster_Cluster × Bool} (H : f_cluster_Cluster_Add__widen_Cluster_4 p0 p1 = some r) :
    Calls Tryz.prog 151 #[.pointer (some ⟨b0_, 4, none⟩), .int .i32 p1] c0.w (Post c0 fun c v => Own c G (⟨.pointer (some ⟨b0_, 0, none⟩), 133, [r0_0, r0_1, r0_2, r0_3, .int .i32 r.1.text.1, .int .i32 r.1.text.2.1, .int .i32 r.1.text.2.2.1, .int .i32 r.1.text.2.2.2.1, .int .i32 r.1.text.2.2.2.2.1, .int .i32 r.1.text.2.2.2.2.2.1, .int .i32 r.1.text.2.2.2.2.2.2.1, .int .i32 r.1.text.2.2.2.2.2.2.2.1, .int .i32 r.1.text.2.2.2.2.2.2.2.2.1, .int .i32 r.1.text.2.2.2.2.2.2.2.2.2.1, .int .i32 r.1.text.2.2.2.2.2.2.2.2.2.2.1, .int .i32 r.1.text.2.2.2.2.2.2.2.2.2.2.2.1, .int .i32 r.1.text.2.2.2.2.2.2.2.2.2.2.2.2.1, .int .i32 r.1.text.2.2.2.2.2.2.2.2.2.2.2.2.2.1, .int .i32 r.1.text.2.2.2.2.2.2.2.2.2.2.2.2.2.2.1, .int .i32 r.1.text.2.2.2.2.2.2.2.2.2.2.2.2.2.2.2, .int .i64 r.1.n, r0_21, r0_22, r0_23], 0⟩ :: F) ∧ v = .bool r.2) := by
 unfold f_cluster_Cluster_Add__widen_Cluster_4 at H
 refine en func151 rfl rfl (sr (va (.bool false) (wln (W.seq (W.seq (bn H fun d_5 h1 H => W.join (Jn c0 fun c l => Own c G (⟨.pointer (some ⟨b0_, 0, none⟩), 133, [r0_0, r0_1, r0_2, r0_3, .int .i32 p0.text.1, .int .i32 p0.text.2.1, .int .i32 p0.text.2.2.1, .int .i32 p0.text.2.2.2.1, .int .i32 p0.text.2.2.2.2.1, .int .i32 p0.text.2.2.2.2.2.1, .int .i32 p0.text.2.2.2.2.2.2.1, .int .i32 p0.text.2.2.2.2.2.2.2.1, .int .i32 p0.text.2.2.2.2.2.2.2.2.1, .int .i32 p0.text.2.2.2.2.2.2.2.2.2.1, .int .i32 p0.text.2.2.2.2.2.2.2.2.2.2.1, .int .i32 p0.text.2.2.2.2.2.2.2.2.2.2.2.1, .int .i32 p0.text.2.2.2.2.2.2.2.2.2.2.2.2.1, .int .i32 p0.text.2.2.2.2.2.2.2.2.2.2.2.2.2.1, .int .i32 p0.text.2.2.2.2.2.2.2.2.2.2.2.2.2.2.1, .int .i32 p0.text.2.2.2.2.2.2.2.2.2.2.2.2.2.2.2, .int .i64 p0.n, r0_21, r0_22, r0_23], 0⟩ :: F) ∧ l = [(0, .pointer (some ⟨b0_, 4, none⟩)), (1, .int .i32 p1), (10, .bool d_5)]) ?_ ?_))))))
 ·clear H
  refine W.region (va (.pointer (some ⟨b0_, 4, none⟩)) (va (.bool false) ?_))
  have h2 : false = false := rfl
  have H3 := orF h2 h1
  refine vb h2 (wn (va (.pointer (some ⟨b0_, 4, none⟩)) (wn (bn H3 fun x_8 h5 H3 => cl (c_cluster_Cluster_Full__widen_Cluster_4 p0 O0 h5) ?_))))
  rintro v11 c10 l10 ⟨O7, rfl⟩
  obtain rfl := si H3
  exact va (.bool x_8) (wln ⟨c10, _, _, rfl, pt, us, O7, rfl⟩)
 rintro e_ w_ ⟨c12, g13, _, rfl, l12, rfl, O14, rfl⟩
 refine nrm (cn H (fun h18 H => ?_) (fun h18 H => ?_))
 ·refine sr (va (.bool false) (wln (W.ret (thr ?_))))
  obtain rfl := si H
  exact r1 ⟨_, c12, rfl, rfl, pt, O14, rfl⟩
 refine W.skip (nrm (W.seq (rD [9] (Kp G0 [⟨.pointer (some ⟨b0_, 0, none⟩), 133, [r0_0, r0_1, r0_2, r0_3, .int .i32 p0.text.1, .int .i32 p0.text.2.1, .int .i32 p0.text.2.2.1, .int .i32 p0.text.2.2.2.1, .int .i32 p0.text.2.2.2.2.1, .int .i32 p0.text.2.2.2.2.2.1, .int .i32 p0.text.2.2.2.2.2.2.1, .int .i32 p0.text.2.2.2.2.2.2.2.1, .int .i32 p0.text.2.2.2.2.2.2.2.2.1, .int .i32 p0.text.2.2.2.2.2.2.2.2.2.1, .int .i32 p0.text.2.2.2.2.2.2.2.2.2.2.1, .int .i32 p0.text.2.2.2.2.2.2.2.2.2.2.2.1, .int .i32 p0.text.2.2.2.2.2.2.2.2.2.2.2.2.1, .int .i32 p0.text.2.2.2.2.2.2.2.2.2.2.2.2.2.1, .int .i32 p0.text.2.2.2.2.2.2.2.2.2.2.2.2.2.2.1, .int .i32 p0.text.2.2.2.2.2.2.2.2.2.2.2.2.2.2.2, .int .i64 p0.n, r0_21, r0_22, r0_23], 0⟩]) O14 ?_)))
 intro c19 l19 O20
 have p21 : Kp G0 [⟨.pointer (some ⟨b0_, 0, none⟩), 133, [r0_0, r0_1, r0_2, r0_3, .int .i32 p0.text.1, .int .i32 p0.text.2.1, .int .i32 p0.text.2.2.1, .int .i32 p0.text.2.2.2.1, .int .i32 p0.text.2.2.2.2.1, .int .i32 p0.text.2.2.2.2.2.1, .int .i32 p0.text.2.2.2.2.2.2.1, .int .i32 p0.text.2.2.2.2.2.2.2.1, .int .i32 p0.text.2.2.2.2.2.2.2.2.1, .int .i32 p0.text.2.2.2.2.2.2.2.2.2.1, .int .i32 p0.text.2.2.2.2.2.2.2.2.2.2.1, .int .i32 p0.text.2.2.2.2.2.2.2.2.2.2.2.1, .int .i32 p0.text.2.2.2.2.2.2.2.2.2.2.2.2.1, .int .i32 p0.text.2.2.2.2.2.2.2.2.2.2.2.2.2.1, .int .i32 p0.text.2.2.2.2.2.2.2.2.2.2.2.2.2.2.1, .int .i32 p0.text.2.2.2.2.2.2.2.2.2.2.2.2.2.2.2, .int .i64 p0.n, r0_21, r0_22, r0_23], 0⟩] c19 := (Kp.cons (O20.on 0 rfl) Kp.nil0)
 refine ta 0 (.pointer (some ⟨b0_, 4, none⟩)) (ta 1 (.pointer (some ⟨b0_, 4, none⟩)) (ta 2 (.pointer (some ⟨b0_, 4, none⟩)) (ta 3 (.pointer (some ⟨b0_, 20, none⟩)) (tkx 4 p21 (fun c' hle hk => le1 20 underlying3 (hk.on 0 rfl)) (ta 5 (.int .i32 p1) (ta 6 (.pointer (some ⟨b0_, 4, none⟩)) (ta 7 (.pointer (some ⟨b0_, 4, none⟩)) (bn H fun x_20 h22 H => AC.take 8 (.pointer (some ⟨b0_, 4 + p0.n.toNat * 1, none⟩)) rfl (by kernel_rfl) (by kernel_rfl) (fun c' hle => (rx (by kernel_rfl) (run_indexA (k := .i64) underlying127 (by kernel_rfl) (idx_lt h22).1 (idx_lt h22).2 _))) (bn H fun y_21 h23 H => o1 9 (gD 9 (Own.st (T := 21) (j := 4 + p0.n.toNat * 1) (us := [.int .i32 p1]) (nw := [r0_0, r0_1, r0_2, r0_3, .int .i32 y_21.1, .int .i32 y_21.2.1, .int .i32 y_21.2.2.1, .int .i32 y_21.2.2.2.1, .int .i32 y_21.2.2.2.2.1, .int .i32 y_21.2.2.2.2.2.1, .int .i32 y_21.2.2.2.2.2.2.1, .int .i32 y_21.2.2.2.2.2.2.2.1, .int .i32 y_21.2.2.2.2.2.2.2.2.1, .int .i32 y_21.2.2.2.2.2.2.2.2.2.1, .int .i32 y_21.2.2.2.2.2.2.2.2.2.2.1, .int .i32 y_21.2.2.2.2.2.2.2.2.2.2.2.1, .int .i32 y_21.2.2.2.2.2.2.2.2.2.2.2.2.1, .int .i32 y_21.2.2.2.2.2.2.2.2.2.2.2.2.2.1, .int .i32 y_21.2.2.2.2.2.2.2.2.2.2.2.2.2.2.1, .int .i32 y_21.2.2.2.2.2.2.2.2.2.2.2.2.2.2.2, .int .i64 p0.n, r0_21, r0_22, r0_23]) (v := .int .i32 p1) 0 O20 (by kernel_rfl) rfl rfl rfl rfl (by kernel_rfl) ⟨rfl, trivial⟩ (ble16 h22 (Nat.le_of_ble_eq_true rfl)) (set16 (k := .i32) h22 h23 [r0_0, r0_1, r0_2, r0_3] [.int .i64 p0.n, r0_21, r0_22, r0_23])) ?_))))))))))
 rintro c25 l25 O24
 refine ⟨.inl rfl, dn (nrm (sr (va (.pointer (some ⟨b0_, 4, none⟩)) (va (.pointer (some ⟨b0_, 4, none⟩)) (va (.pointer (some ⟨b0_, 20, none⟩)) (vx (le1 20 underlying3 (O24.on 0 rfl)) (va (.int .i64 (w64 (p0.n + 1))) (va (.pointer (some ⟨b0_, 4, none⟩)) (va (.pointer (some ⟨b0_, 20, none⟩)) (md (sC 3 20 (.int .i64 (w64 (p0.n + 1))) [r0_0, r0_1, r0_2, r0_3, .int .i32 y_21.1, .int .i32 y_21.2.1, .int .i32 y_21.2.2.1, .int .i32 y_21.2.2.2.1, .int .i32 y_21.2.2.2.2.1, .int .i32 y_21.2.2.2.2.2.1, .int .i32 y_21.2.2.2.2.2.2.1, .int .i32 y_21.2.2.2.2.2.2.2.1, .int .i32 y_21.2.2.2.2.2.2.2.2.1, .int .i32 y_21.2.2.2.2.2.2.2.2.2.1, .int .i32 y_21.2.2.2.2.2.2.2.2.2.2.1, .int .i32 y_21.2.2.2.2.2.2.2.2.2.2.2.1, .int .i32 y_21.2.2.2.2.2.2.2.2.2.2.2.2.1, .int .i32 y_21.2.2.2.2.2.2.2.2.2.2.2.2.2.1, .int .i32 y_21.2.2.2.2.2.2.2.2.2.2.2.2.2.2.1, .int .i32 y_21.2.2.2.2.2.2.2.2.2.2.2.2.2.2.2, .int .i64 (w64 (p0.n + 1)), r0_21, r0_22, r0_23] 0 O24 ⟨rfl, trivial⟩) ?_))))))))))⟩
 rintro c27 l27 O26
 refine wln (sr (va (.bool true) (wln (W.ret ?_))))
 obtain rfl := si H
 exact r1 ⟨_, c27, rfl, rfl, pt, O26, rfl⟩
def f_basew_none (p0 : Int) : Option (Bool) :=
 (if (p0 == 1) = true then
 (some (p0 == 1) : Option (Bool))
 else
 if (p0 == 2) = true then
 (some (p0 == 2) : Option (Bool))
 else
 (some (p0 == 3) : Option (Bool))).bind fun z_7 =>
 if z_7 = true then
 some true
 else
 (if (p0 == 4) = true then
 (some (p0 == 4) : Option (Bool))
 else
 (some (p0 == 5) : Option (Bool))).bind fun z_17 =>
 if z_17 = true then
 some true
 else
 (if (p0 == 10) = true then
 (some (p0 == 10) : Option (Bool))
 else
 (some (p0 == 11) : Option (Bool))).bind fun z_24 =>
 if z_24 = true then
 some true
 else
 some false
theorem c_basew_none (O0 : Own c0 G F) (p0 : Int) {r : Bool} (H : f_basew_none p0 = some r) :
    Calls Tryz.prog 267 #[.int .i64 p0] c0.w (Post c0 fun c v => Own c G (F) ∧ v = .bool r) := by
 unfold f_basew_none at H
 refine en func267 rfl rfl (sr (va (.bool false) (wln (W.seq (sr (va (.int .i64 p0) (wln (W.block (W.seq (W.block (W.block (W.block (W.seq (W.seq (bn H fun z_7 H1 H2 => W.seqJ (Jn c0 fun c l => Own c G (F) ∧ l = [(3, .int .i64 p0), (4, .bool z_7)]) ?_ ?_)))))))))))))))
 ·refine sr (va (.bool (p0 == 1)) (va (.bool (p0 == 1)) (wln (cn H1 (fun h3 H1 => ?_) (fun h3 H1 => ?_)))))
  ·refine W.skip (nrm ?_)
   obtain rfl := si H1
   exact ⟨c0, _, _, rfl, pt, us, O0, rfl⟩
  refine sr (va (.bool (p0 == 2)) (va (.bool (p0 == 2)) (wln (cn H1 (fun h4 H1 => ?_) (fun h4 H1 => ?_)))))
  ·refine W.skip (nrm ?_)
   obtain rfl := si H1
   exact ⟨c0, _, _, rfl, pt, us, O0, rfl⟩
  refine W.region (va (.bool (p0 == 3)) (va (.bool (p0 == 3)) (wln ?_)))
  obtain rfl := si H1
  exact ⟨c0, _, _, rfl, pt, us, O0, rfl⟩
 rintro e_ w_ ⟨c5, g6, _, rfl, l5, rfl, O7, rfl⟩
 refine cn H2 (fun h11 H2 => ?_) (fun h11 H2 => ?_)
 ·refine W.exit (thx (thx (bke (bkn (bkn (nrm (W.seq (sr (va (.bool true) (wln (W.ret (thr (bkr (thr ?_))))))))))))))
  obtain rfl := si H2
  exact r1 ⟨_, c5, rfl, rfl, pt, O7, rfl⟩
 refine W.skip (nrm (W.seq (bn H2 fun z_17 H12 H13 => W.seqJ (Jn c5 fun c l => Own c G (F) ∧ l = [(3, .int .i64 p0), (8, .bool z_17)]) ?_ ?_)))
 ·refine sr (va (.bool (p0 == 4)) (va (.bool (p0 == 4)) (wln (cn H12 (fun h14 H12 => ?_) (fun h14 H12 => ?_)))))
  ·refine W.skip (nrm ?_)
   obtain rfl := si H12
   exact ⟨c5, _, _, rfl, pt, us, O7, rfl⟩
  refine W.region (va (.bool (p0 == 5)) (va (.bool (p0 == 5)) (wln ?_)))
  obtain rfl := si H12
  exact ⟨c5, _, _, rfl, pt, us, O7, rfl⟩
 rintro e_ w_ ⟨c15, g16, _, rfl, l15, rfl, O17, rfl⟩
 refine cn H13 (fun h21 H13 => ?_) (fun h21 H13 => ?_)
 ·refine W.exit (thx (thx (bko rfl (bke (bkn (nrm (W.seq (sr (va (.bool true) (wln (W.ret (thr (bkr (thr ?_))))))))))))))
  obtain rfl := si H13
  exact r1 ⟨_, c15, rfl, rfl, pt, O17, rfl⟩
 refine W.skip (nrm (bn H13 fun z_24 H22 H23 => W.seqJ (Jn c15 fun c l => Own c G (F) ∧ l = [(11, .bool z_24)]) ?_ ?_))
 ·refine sr (va (.bool (p0 == 10)) (va (.bool (p0 == 10)) (wln (cn H22 (fun h24 H22 => ?_) (fun h24 H22 => ?_)))))
  ·refine W.skip (nrm ?_)
   obtain rfl := si H22
   exact ⟨c15, _, _, rfl, pt, us, O17, rfl⟩
  refine W.region (va (.bool (p0 == 11)) (va (.bool (p0 == 11)) (wln ?_)))
  obtain rfl := si H22
  exact ⟨c15, _, _, rfl, pt, us, O17, rfl⟩
 rintro e_ w_ ⟨c25, g26, _, rfl, l25, rfl, O27, rfl⟩
 refine cn H23 (fun h31 H23 => ?_) (fun h31 H23 => ?_)
 ·refine W.exit (thx (bko rfl (bko rfl (bke (nrm (W.seq (sr (va (.bool true) (wln (W.ret (thr (bkr (thr ?_)))))))))))))
  obtain rfl := si H23
  exact r1 ⟨_, c25, rfl, rfl, pt, O27, rfl⟩
 refine W.skip (nrm (W.exit (bko rfl (bko rfl (bko rfl (thx (bke (nrm (sr (va (.bool false) (wln (W.ret ?_))))))))))))
 obtain rfl := si H23
 exact r1 ⟨_, c25, rfl, rfl, pt, O27, rfl⟩
def f_basew_Of (p0 : G_api_Prop) : Option (Int) :=
 (f_basew_none p0.Break).bind fun x_6 =>
 if x_6 = true then
 some 0
 else
 (orE (p0.East == 1) (some (p0.East == 2))).bind fun d_14 =>
 if d_14 = true then
 some 2
 else
 some 1
theorem c_basew_Of (O0 : Own c0 G F) (p0 : G_api_Prop) {r : Int} (H : f_basew_Of p0 = some r) :
    Calls Tryz.prog 248 #[.agg #[.int .i64 p0.Break, .bool p0.Pict, .int .i64 p0.Conj, .int .i64 p0.East]] c0.w (Post c0 fun c v => Own c G (F) ∧ v = .int .i64 r) := by
 unfold f_basew_Of at H
 refine en func248 rfl rfl (sr (me (bx 33 [.int .i64 p0.Break, .bool p0.Pict, .int .i64 p0.Conj, .int .i64 p0.East] O0) ?_))
 rintro v5 c4 l4 ⟨b1, rfl, O2, m3⟩
 refine va (.int .i64 0) (wln (W.seq (W.block (sr (va (.pointer (some ⟨b1, 0, none⟩)) (vx (l1 underlying3 (m3 0 _ rfl)) (bn H fun x_6 h6 H => cl (c_basew_none O2 p0.Break h6) ?_)))))))
 rintro v12 c11 l11 ⟨O8, rfl⟩
 refine va (.bool x_6) (wln (cn H (fun h13 H => ?_) (fun h13 H => ?_)))
 ·refine sr (va (.int .i64 0) (wln (W.ret (bkr (thr ?_)))))
  obtain rfl := si H
  exact r1 ⟨_, c11, rfl, rfl, pt, O8, rfl⟩
 refine W.seq (bn H fun d_14 h14 H => W.join (Jn c11 fun c l => Own c G (F) ∧ l = [(7, .bool d_14)]) ?_ ?_)
 ·clear H
  refine W.region (va (.pointer (some ⟨b1, 0 + 3, none⟩)) (vx (l1 underlying3 ((mm m3) 3 _ rfl)) (va (.bool (p0.East == 1)) ?_)))
  rcases bo (p0.East == 1) with h15 | h15
  ·obtain rfl := orT h15 h14
   exact vb h15 (ps (ps (ps (va (.bool true) (va (.bool true) (wln ⟨c11, _, _, rfl, pt, us, O8, rfl⟩))))))
  have H16 := orF h15 h14
  refine vb h15 (wn (va (.pointer (some ⟨b1, 0 + 3, none⟩)) (wn (vx (l1 underlying3 ((mm m3) 3 _ rfl)) (wn (va (.bool (p0.East == 2)) ?_))))))
  obtain rfl := si H16
  exact va (.bool (p0.East == 2)) (va (.bool (p0.East == 2)) (wln ⟨c11, _, _, rfl, pt, us, O8, rfl⟩))
 rintro e_ w_ ⟨c17, g18, _, rfl, l17, rfl, O19, rfl⟩
 refine nrm (cn H (fun h23 H => ?_) (fun h23 H => ?_))
 ·refine sr (va (.int .i64 2) (wln (W.ret (bkr (thr ?_)))))
  obtain rfl := si H
  exact r1 ⟨_, c17, rfl, rfl, pt, O19, rfl⟩
 refine W.skip (bkn (nrm (sr (va (.int .i64 1) (wln (W.ret ?_))))))
 obtain rfl := si H
 exact r1 ⟨_, c17, rfl, rfl, pt, O19, rfl⟩
def f_cwidth_Gauge_widens__widen_Cluster_21 (p0 : G_cwidth_Gauge) (p1 : Int) (p2 : G_api_Prop) : Option (Bool) :=
 (f_basew_Of p2).bind fun x_5 =>
 if (x_5 == 2) = true then
 some true
 else
 if (!p0.some) = true then
 some false
 else
 (andE (p1 == 65039) (some p0.pict)).bind fun d_22 =>
 (orE d_22 (some p2.Pict)).bind fun d_28 =>
 (orE d_28 (some (p2.Break == 6))).bind fun d_32 =>
 some d_32
theorem c_cwidth_Gauge_widens__widen_Cluster_21 {b0_ : Nat} {r0_0 : Value} {r0_1 : Value} {r0_2 : Value} {r0_3 : Value} {r0_4 : Value} {r0_5 : Value} {r0_6 : Value} {r0_7 : Value} {r0_8 : Value} {r0_9 : Value} {r0_10 : Value} {r0_11 : Value} {r0_12 : Value} {r0_13 : Value} {r0_14 : Value} {r0_15 : Value} {r0_16 : Value} {r0_17 : Value} {r0_18 : Value} {r0_19 : Value} {r0_20 : Value} (p0 : G_cwidth_Gauge) (p1 : Int) (p2 : G_api_Prop) (O0 : Own c0 G (⟨.pointer (some ⟨b0_, 0, none⟩), 133, [r0_0, r0_1, r0_2, r0_3, r0_4, r0_5, r0_6, r0_7, r0_8, r0_9, r0_10, r0_11, r0_12, r0_13, r0_14, r0_15, r0_16, r0_17, r0_18, r0_19, r0_20, .bool p0.some, .bool p0.pict, .bool p0.wide], 0⟩ :: F)) {r : Bool} (H : f_cwidth_Gauge_widens__widen_Cluster_21 p0 p1 p2 = some r) :
    Calls Tryz.prog 203 #[.pointer (some ⟨b0_, 21, none⟩), .int .i32 p1, .agg #[.int .i64 p2.Break, .bool p2.Pict, .int .i64 p2.Conj, .int .i64 p2.East]] c0.w (Post c0 fun c v => Own c G (⟨.pointer (some ⟨b0_, 0, none⟩), 133, [r0_0, r0_1, r0_2, r0_3, r0_4, r0_5, r0_6, r0_7, r0_8, r0_9, r0_10, r0_11, r0_12, r0_13, r0_14, r0_15, r0_16, r0_17, r0_18, r0_19, r0_20, .bool p0.some, .bool p0.pict, .bool p0.wide], 0⟩ :: F) ∧ v = .bool r) := by
 unfold f_cwidth_Gauge_widens__widen_Cluster_21 at H
 refine en func203 rfl rfl (sr (me (bx 33 [.int .i64 p2.Break, .bool p2.Pict, .int .i64 p2.Conj, .int .i64 p2.East] O0) ?_))
 rintro v5 c4 l4 ⟨b1, rfl, O2, m3⟩
 refine va (.bool false) (wln (W.seq (W.block (sr (vx (lN 33 m3) (bn H fun x_5 h6 H => cl (c_basew_Of O2 p2 h6) ?_))))))
 rintro v12 c11 l11 ⟨O8, rfl⟩
 refine va (.bool (x_5 == 2)) (va (.bool (x_5 == 2)) (wln (cn H (fun h13 H => ?_) (fun h13 H => ?_))))
 ·refine sr (va (.bool true) (wln (W.ret (bkr (thr ?_)))))
  obtain rfl := si H
  exact r1 ⟨_, c11, rfl, rfl, pt, O8, rfl⟩
 refine sr (va (.pointer (some ⟨b0_, 21, none⟩)) (va (.pointer (some ⟨b0_, 21, none⟩)) (va (.pointer (some ⟨b0_, 21, none⟩)) (vx (le1 21 underlying4 (O8.on 0 rfl)) (va (.bool (!p0.some)) (va (.bool (!p0.some)) (wln (cn H (fun h14 H => ?_) (fun h14 H => ?_)))))))))
 ·refine sr (va (.bool false) (wln (W.ret (bkr (thr ?_)))))
  obtain rfl := si H
  exact r1 ⟨_, c11, rfl, rfl, pt, O8, rfl⟩
 refine W.skip (bkn (nrm (W.seq (bn H fun d_22 h15 H => bn H fun d_28 h16 H => bn H fun d_32 h17 H => W.join (Jn c11 fun c l => Own c G (⟨.pointer (some ⟨b0_, 0, none⟩), 133, [r0_0, r0_1, r0_2, r0_3, r0_4, r0_5, r0_6, r0_7, r0_8, r0_9, r0_10, r0_11, r0_12, r0_13, r0_14, r0_15, r0_16, r0_17, r0_18, r0_19, r0_20, .bool p0.some, .bool p0.pict, .bool p0.wide], 0⟩ :: F) ∧ l = [(6, .bool d_32)]) ?_ ?_))))
 ·clear H
  refine W.region (va (.int .i32 p1) (va (.bool (p1 == 65039)) ?_))
  rcases bo (p1 == 65039) with h18 | h18
  ·have H19 := anT h18 h15
   refine vb h18 (wn (va (.pointer (some ⟨b0_, 21, none⟩)) (wn (va (.pointer (some ⟨b0_, 21, none⟩)) (wn (va (.pointer (some ⟨b0_, 22, none⟩)) (wn (vx (le1 22 underlying4 (O8.on 0 rfl)) ?_))))))))
   obtain rfl := si H19
   refine va (.bool p0.pict) ?_
   rcases bo (p0.pict) with h20 | h20
   ·obtain rfl := orT h20 h16
    refine vb h20 (ps (ps (va (.bool true) ?_)))
    have h21 : true = true := rfl
    obtain rfl := orT h21 h17
    exact vb h21 (ps (ps (ps (va (.bool true) (va (.bool true) (wln ⟨c11, _, _, rfl, pt, us, O8, rfl⟩))))))
   have H22 := orF h20 h16
   refine vb h20 (wn (va (.pointer (some ⟨b1, 0 + 1, none⟩)) (wn (vx (l1 underlying4 ((mm m3) 1 _ rfl)) ?_))))
   obtain rfl := si H22
   refine va (.bool p2.Pict) ?_
   rcases bo (p2.Pict) with h23 | h23
   ·obtain rfl := orT h23 h17
    exact vb h23 (ps (ps (ps (va (.bool true) (va (.bool true) (wln ⟨c11, _, _, rfl, pt, us, O8, rfl⟩))))))
   have H24 := orF h23 h17
   refine vb h23 (wn (va (.pointer (some ⟨b1, 0, none⟩)) (wn (vx (l1 underlying3 ((mm m3) 0 _ rfl)) (wn (va (.bool (p2.Break == 6)) ?_))))))
   obtain rfl := si H24
   exact va (.bool (p2.Break == 6)) (va (.bool (p2.Break == 6)) (wln ⟨c11, _, _, rfl, pt, us, O8, rfl⟩))
  obtain rfl := anF h18 h15
  refine vb h18 (ps (ps (ps (ps (va (.bool false) ?_)))))
  have h25 : false = false := rfl
  have H26 := orF h25 h16
  refine vb h25 (wn (va (.pointer (some ⟨b1, 0 + 1, none⟩)) (wn (vx (l1 underlying4 ((mm m3) 1 _ rfl)) ?_))))
  obtain rfl := si H26
  refine va (.bool p2.Pict) ?_
  rcases bo (p2.Pict) with h27 | h27
  ·obtain rfl := orT h27 h17
   exact vb h27 (ps (ps (ps (va (.bool true) (va (.bool true) (wln ⟨c11, _, _, rfl, pt, us, O8, rfl⟩))))))
  have H28 := orF h27 h17
  refine vb h27 (wn (va (.pointer (some ⟨b1, 0, none⟩)) (wn (vx (l1 underlying3 ((mm m3) 0 _ rfl)) (wn (va (.bool (p2.Break == 6)) ?_))))))
  obtain rfl := si H28
  exact va (.bool (p2.Break == 6)) (va (.bool (p2.Break == 6)) (wln ⟨c11, _, _, rfl, pt, us, O8, rfl⟩))
 rintro e_ w_ ⟨c29, g30, _, rfl, l29, rfl, O31, rfl⟩
 refine nrm (W.ret ?_)
 obtain rfl := si H
 exact r1 ⟨_, c29, rfl, rfl, pt, O31, rfl⟩
def f_cwidth_Gauge_Step__widen_Cluster_21 (p0 : G_cwidth_Gauge) (p1 : Int) (p2 : G_api_Prop) : Option (G_cwidth_Gauge × Int) :=
 if false = true then
 some (p0, 1)
 else
 (orE p0.wide ((f_cwidth_Gauge_widens__widen_Cluster_21 p0 p1 p2).bind fun x_19 =>
 some x_19)).bind fun d_14 =>
 if d_14 = true then
 some ((⟨true, p2.Pict, d_14⟩ : G_cwidth_Gauge), 2)
 else
 some ((⟨true, p2.Pict, d_14⟩ : G_cwidth_Gauge), 1)
theorem c_cwidth_Gauge_Step__widen_Cluster_21 {b0_ : Nat} {r0_0 : Value} {r0_1 : Value} {r0_2 : Value} {r0_3 : Value} {r0_4 : Value} {r0_5 : Value} {r0_6 : Value} {r0_7 : Value} {r0_8 : Value} {r0_9 : Value} {r0_10 : Value} {r0_11 : Value} {r0_12 : Value} {r0_13 : Value} {r0_14 : Value} {r0_15 : Value} {r0_16 : Value} {r0_17 : Value} {r0_18 : Value} {r0_19 : Value} {r0_20 : Value} (p0 : G_cwidth_Gauge) (p1 : Int) (p2 : G_api_Prop) (O0 : Own c0 G (⟨.pointer (some ⟨b0_, 0, none⟩), 133, [r0_0, r0_1, r0_2, r0_3, r0_4, r0_5, r0_6, r0_7, r0_8, r0_9, r0_10, r0_11, r0_12, r0_13, r0_14, r0_15, r0_16, r0_17, r0_18, r0_19, r0_20, .bool p0.some, .bool p0.pict, .bool p0.wide], 0⟩ :: F)) {r : G_cwidth_Gauge × Int} (H : f_cwidth_Gauge_Step__widen_Cluster_21 p0 p1 p2 = some r) :
    Calls Tryz.prog 152 #[.pointer (some ⟨b0_, 21, none⟩), .int .i32 p1, .agg #[.int .i64 p2.Break, .bool p2.Pict, .int .i64 p2.Conj, .int .i64 p2.East]] c0.w (Post c0 fun c v => Own c G (⟨.pointer (some ⟨b0_, 0, none⟩), 133, [r0_0, r0_1, r0_2, r0_3, r0_4, r0_5, r0_6, r0_7, r0_8, r0_9, r0_10, r0_11, r0_12, r0_13, r0_14, r0_15, r0_16, r0_17, r0_18, r0_19, r0_20, .bool r.1.some, .bool r.1.pict, .bool r.1.wide], 0⟩ :: F) ∧ v = .int .i64 r.2) := by
 unfold f_cwidth_Gauge_Step__widen_Cluster_21 at H
 refine en func152 rfl rfl (sr (me (bx 33 [.int .i64 p2.Break, .bool p2.Pict, .int .i64 p2.Conj, .int .i64 p2.East] O0) ?_))
 rintro v5 c4 l4 ⟨b1, rfl, O2, m3⟩
 refine va (.int .i64 0) (wln (W.seq (sr (va (.pointer (some ⟨b0_, 21, none⟩)) (va (.bool false) (wln (W.cond (t := false) (by kernel_rfl) (fun h6 => ?_) (fun h6 => ?_))))))))
 ·cases h6
 have H := ie h6 H
 refine W.skip (nrm (W.seq (bn H fun d_14 h7 H => W.join (Jn c4 fun c l => Own c G (⟨.pointer (some ⟨b0_, 0, none⟩), 133, [r0_0, r0_1, r0_2, r0_3, r0_4, r0_5, r0_6, r0_7, r0_8, r0_9, r0_10, r0_11, r0_12, r0_13, r0_14, r0_15, r0_16, r0_17, r0_18, r0_19, r0_20, .bool p0.some, .bool p0.pict, .bool d_14], 0⟩ :: F) ∧ l = [(0, .pointer (some ⟨b0_, 21, none⟩)), (5, .pointer (some ⟨b1, 0, none⟩))]) ?_ ?_)))
 ·clear H
  refine W.region (va (.pointer (some ⟨b0_, 21, none⟩)) (va (.pointer (some ⟨b0_, 21, none⟩)) (va (.pointer (some ⟨b0_, 21, none⟩)) (va (.pointer (some ⟨b0_, 23, none⟩)) (vx (le1 23 underlying4 (O2.on 0 rfl)) ?_)))))
  rcases bo (p0.wide) with h8 | h8
  ·obtain rfl := orT h8 h7
   refine vb h8 (ps (ps (ps (ps (va (.bool true) (va (.pointer (some ⟨b0_, 21, none⟩)) (va (.pointer (some ⟨b0_, 23, none⟩)) (md (sC 4 23 (.bool true) [r0_0, r0_1, r0_2, r0_3, r0_4, r0_5, r0_6, r0_7, r0_8, r0_9, r0_10, r0_11, r0_12, r0_13, r0_14, r0_15, r0_16, r0_17, r0_18, r0_19, r0_20, .bool p0.some, .bool p0.pict, .bool true] 0 O2 ⟨rfl, trivial⟩) ?_))))))))
   rintro c10 l10 O9
   exact wln ⟨c10, _, _, rfl, pt, us, O9, rfl⟩
  have H11 := orF h8 h7
  refine vb h8 (wn (va (.pointer (some ⟨b0_, 21, none⟩)) (wn (va (.int .i32 p1) (wn (vx (lN 33 m3) (wn (bn H11 fun x_19 h13 H11 => cl (c_cwidth_Gauge_widens__widen_Cluster_21 p0 p1 p2 O2 h13) ?_))))))))
  rintro v19 c18 l18 ⟨O15, rfl⟩
  obtain rfl := si H11
  refine va (.bool x_19) (va (.pointer (some ⟨b0_, 21, none⟩)) (va (.pointer (some ⟨b0_, 23, none⟩)) (md (sC 4 23 (.bool x_19) [r0_0, r0_1, r0_2, r0_3, r0_4, r0_5, r0_6, r0_7, r0_8, r0_9, r0_10, r0_11, r0_12, r0_13, r0_14, r0_15, r0_16, r0_17, r0_18, r0_19, r0_20, .bool p0.some, .bool p0.pict, .bool x_19] 0 O15 ⟨rfl, trivial⟩) ?_)))
  rintro c21 l21 O20
  exact wln ⟨c21, _, _, rfl, pt, us, O20, rfl⟩
 rintro e_ w_ ⟨c22, g23, _, rfl, l22, rfl, O24, rfl⟩
 refine nrm (W.seq (rD [] (Kp G0 []) O24 ?_))
 intro c28 l28 O29
 have p30 : Kp G0 [] c28 := Kp.nil0
 refine ta 0 (.pointer (some ⟨b0_, 21, none⟩)) (ta 1 (.pointer (some ⟨b0_, 21, none⟩)) (ta 2 (.pointer (some ⟨b1, 0 + 1, none⟩)) (tx 3 (fun c' hle => l1 underlying4 ((mm m3) 1 _ rfl)) (ta 4 (.pointer (some ⟨b0_, 21, none⟩)) (ta 5 (.pointer (some ⟨b0_, 21, none⟩)) (o1 6 (gD 6 (sC 4 21 (.bool true) [r0_0, r0_1, r0_2, r0_3, r0_4, r0_5, r0_6, r0_7, r0_8, r0_9, r0_10, r0_11, r0_12, r0_13, r0_14, r0_15, r0_16, r0_17, r0_18, r0_19, r0_20, .bool true, .bool p0.pict, .bool d_14] 0 O29 ⟨rfl, trivial⟩) ?_)))))))
 rintro c32 l32 O31
 have p33 : Kp G0 [] c32 := Kp.nil0
 refine ⟨.inr p33, ta 7 (.pointer (some ⟨b0_, 21, none⟩)) (ta 8 (.pointer (some ⟨b0_, 22, none⟩)) (o1 9 (gD 9 (sC 4 22 (.bool p2.Pict) [r0_0, r0_1, r0_2, r0_3, r0_4, r0_5, r0_6, r0_7, r0_8, r0_9, r0_10, r0_11, r0_12, r0_13, r0_14, r0_15, r0_16, r0_17, r0_18, r0_19, r0_20, .bool true, .bool p2.Pict, .bool d_14] 0 O31 ⟨rfl, trivial⟩) ?_)))⟩
 rintro c35 l35 O34
 have p36 : Kp G0 [] c35 := Kp.nil0
 refine ⟨.inr p36, dn (nrm (W.seq (sr (va (.pointer (some ⟨b0_, 21, none⟩)) (va (.pointer (some ⟨b0_, 21, none⟩)) (va (.pointer (some ⟨b0_, 23, none⟩)) (vx (le1 23 underlying4 (O34.on 0 rfl)) (wln (cn H (fun h37 H => ?_) (fun h37 H => ?_))))))))))⟩
 ·refine sr (va (.int .i64 2) (wln (W.ret (thr ?_))))
  obtain rfl := si H
  exact r1 ⟨_, c35, rfl, rfl, pt, O34, rfl⟩
 refine W.skip (nrm (sr (va (.int .i64 1) (wln (W.ret ?_)))))
 obtain rfl := si H
 exact r1 ⟨_, c35, rfl, rfl, pt, O34, rfl⟩
def f_widen_Cluster_add (sg : Sto) (p0 : Option Nat) (p1 : Int) (p2 : G_api_Prop) : Option (Sto × Int) :=
 ((f_scalar_Valid p1).bind fun x_6 =>
 if (!x_6) = true then
 (some (65533) : Option (Int))
 else
 (some (p1) : Option (Int))).bind fun z_4 =>
 (p0).bind fun k_12 =>
 (sg.widen_Cluster[k_12]?).bind fun o_15002 =>
 (f_cluster_Cluster_Add__widen_Cluster_4 o_15002.text z_4).bind fun x_15 =>
 (sg.set_widen_Cluster k_12 (⟨o_15002.at_, o_15002.wide, x_15.1, o_15002.gauge⟩ : G_widen_Cluster)).bind fun s_15003 =>
 (f_cwidth_Gauge_Step__widen_Cluster_21 o_15002.gauge z_4 p2).bind fun x_22 =>
 (s_15003.set_widen_Cluster k_12 (⟨o_15002.at_, o_15002.wide, x_15.1, x_22.1⟩ : G_widen_Cluster)).bind fun s_22003 =>
 some (s_22003, x_22.2)
theorem c_widen_Cluster_add (O0 : Own c0 G F) (R0 : Rel c0 sg G) (p0 : Option Nat) (p1 : Int) (p2 : G_api_Prop) {r : Sto × Int} (h2 : Pt 3 c0 v1 p0) (H : f_widen_Cluster_add sg p0 p1 p2 = some r) :
    Calls Tryz.prog 82 #[v1, .int .i32 p1, .agg #[.int .i64 p2.Break, .bool p2.Pict, .int .i64 p2.Conj, .int .i64 p2.East]] c0.w (Post c0 fun c v => ∃ G_ : Gm, Own c G_ (F) ∧ Rel c r.1 G_ ∧ v = .int .i64 r.2) := by
 unfold f_widen_Cluster_add at H
 refine en func82 rfl rfl (sr (me (bx 33 [.int .i64 p2.Break, .bool p2.Pict, .int .i64 p2.Conj, .int .i64 p2.East] O0) ?_))
 rintro v7 c6 l6 ⟨b3, rfl, O4, m5⟩
 refine va (.int .i64 0) (wln (bn H fun z_4 H8 H9 => W.seqJ (Jn c6 fun c l => Own c G (F) ∧ l = [(0, v1), (1, .int .i32 z_4), (5, .pointer (some ⟨b3, 0, none⟩))]) ?_ ?_))
 ·refine sr (va (.int .i32 p1) (bn H8 fun x_6 h10 H8 => cl (c_scalar_Valid O4 p1 h10) ?_))
  rintro v16 c15 l15 ⟨O12, rfl⟩
  refine va (.bool (!x_6)) (wln (cn H8 (fun h17 H8 => ?_) (fun h17 H8 => ?_)))
  ·refine W.region (va (.int .i32 65533) (wln ?_))
   obtain rfl := si H8
   exact ⟨c15, _, _, rfl, pt, us, O12, rfl⟩
  refine W.skip (nrm ?_)
  obtain rfl := si H8
  exact ⟨c15, _, _, rfl, pt, us, O12, rfl⟩
 rintro e_ w_ ⟨c18, g19, _, rfl, l18, rfl, O20, rfl⟩
 refine sr (va (v1) (bn H9 fun k_12 h26 H9 => ?_))
 obtain ⟨b24, rfl, h25⟩ := ((h2.mono (l6.trans l18))).get h26
 refine va (.pointer (some ⟨b24, 0, none⟩)) (va (.pointer (some ⟨b24, 4, none⟩)) (va (.int .i32 z_4) (bn H9 fun o_15002 h27 H9 => ?_)))
 have h28 := Rel.open_widen_Cluster (R0.mono (l6.trans l18)) h27 h25
 have O29 := O20.borrow 0 h28 rfl
 refine bn H9 fun x_15 h31 H9 => cl (c_cluster_Cluster_Add__widen_Cluster_4 o_15002.text z_4 O29 h31) ?_
 rintro v37 c36 l36 ⟨O33, rfl⟩
 have O38 := O33.giveB 0 rfl
 refine bn H9 fun s_15003 h43 H9 => ?_
 obtain ⟨G39, O40, R41, h42, a44⟩ := Rel.put_widen_Cluster O38 (R0.mono (l6.trans (l18.trans l36))) (E' := [⟨.pointer (some ⟨b24, 0, none⟩), 133, [.int .i64 o_15002.at_.Row, .int .i64 o_15002.at_.Col, .bool o_15002.at_.Pending, .int .i64 o_15002.wide, .int .i32 x_15.1.text.1, .int .i32 x_15.1.text.2.1, .int .i32 x_15.1.text.2.2.1, .int .i32 x_15.1.text.2.2.2.1, .int .i32 x_15.1.text.2.2.2.2.1, .int .i32 x_15.1.text.2.2.2.2.2.1, .int .i32 x_15.1.text.2.2.2.2.2.2.1, .int .i32 x_15.1.text.2.2.2.2.2.2.2.1, .int .i32 x_15.1.text.2.2.2.2.2.2.2.2.1, .int .i32 x_15.1.text.2.2.2.2.2.2.2.2.2.1, .int .i32 x_15.1.text.2.2.2.2.2.2.2.2.2.2.1, .int .i32 x_15.1.text.2.2.2.2.2.2.2.2.2.2.2.1, .int .i32 x_15.1.text.2.2.2.2.2.2.2.2.2.2.2.2.1, .int .i32 x_15.1.text.2.2.2.2.2.2.2.2.2.2.2.2.2.1, .int .i32 x_15.1.text.2.2.2.2.2.2.2.2.2.2.2.2.2.2.1, .int .i32 x_15.1.text.2.2.2.2.2.2.2.2.2.2.2.2.2.2.2, .int .i64 x_15.1.n, .bool o_15002.gauge.some, .bool o_15002.gauge.pict, .bool o_15002.gauge.wide], 0⟩]) h43 ⟨b24, (tm h25), rfl⟩
 refine wln (W.seq (rD [] (Kp G0 []) O40 ?_))
 intro c45 l45 O46
 have p47 : Kp G0 [] c45 := Kp.nil0
 refine ta 0 (.pointer (some ⟨b24, 0, none⟩)) (ta 1 (.pointer (some ⟨b24, 0, none⟩)) (ta 2 (.pointer (some ⟨b24, 21, none⟩)) (ta 3 (.int .i32 z_4) (tx 4 (fun c' hle => lN 33 (mm m5)) ?_))))
 have O48 := O46.borrow 0 h42 rfl
 refine bn H9 fun x_22 h50 H9 => o1 5 (gc 5 (c_cwidth_Gauge_Step__widen_Cluster_21 o_15002.gauge z_4 p2 O48 h50) ?_)
 rintro v56 c55 l55 ⟨O52, rfl⟩
 have O57 := O52.giveB 0 rfl
 refine bn H9 fun s_22003 h62 H9 => ?_
 obtain ⟨G58, O59, R60, h61, a63⟩ := Rel.put_widen_Cluster O57 (R41.mono (l45.trans l55)) (E' := [⟨.pointer (some ⟨b24, 0, none⟩), 133, [.int .i64 o_15002.at_.Row, .int .i64 o_15002.at_.Col, .bool o_15002.at_.Pending, .int .i64 o_15002.wide, .int .i32 x_15.1.text.1, .int .i32 x_15.1.text.2.1, .int .i32 x_15.1.text.2.2.1, .int .i32 x_15.1.text.2.2.2.1, .int .i32 x_15.1.text.2.2.2.2.1, .int .i32 x_15.1.text.2.2.2.2.2.1, .int .i32 x_15.1.text.2.2.2.2.2.2.1, .int .i32 x_15.1.text.2.2.2.2.2.2.2.1, .int .i32 x_15.1.text.2.2.2.2.2.2.2.2.1, .int .i32 x_15.1.text.2.2.2.2.2.2.2.2.2.1, .int .i32 x_15.1.text.2.2.2.2.2.2.2.2.2.2.1, .int .i32 x_15.1.text.2.2.2.2.2.2.2.2.2.2.2.1, .int .i32 x_15.1.text.2.2.2.2.2.2.2.2.2.2.2.2.1, .int .i32 x_15.1.text.2.2.2.2.2.2.2.2.2.2.2.2.2.1, .int .i32 x_15.1.text.2.2.2.2.2.2.2.2.2.2.2.2.2.2.1, .int .i32 x_15.1.text.2.2.2.2.2.2.2.2.2.2.2.2.2.2.2, .int .i64 x_15.1.n, .bool x_22.1.some, .bool x_22.1.pict, .bool x_22.1.wide], 0⟩]) h62 ⟨b24, (tm h25), rfl⟩
 have p64 : Kp G0 [] c55 := Kp.nil0
 refine ⟨.inr p64, ta 6 (.int .i64 x_22.2) (dn (nrm (W.ret ?_)))⟩
 obtain rfl := si H9
 exact r1 ⟨_, c55, rfl, rfl, pt, G58, O59, R60, rfl⟩
def f_cluster_Cluster_Text__widen_Cluster_4 (p0 : G_cluster_Cluster) : Option (List Int) :=
 if false = true then
 some ([] : List Int)
 else
 (slc (a16 p0.text) 0 p0.n).bind fun x_15 =>
 (f_slices_Clone x_15).bind fun x_16 =>
 some x_16
theorem c_cluster_Cluster_Text__widen_Cluster_4 {b0_ : Nat} {r0_0 : Value} {r0_1 : Value} {r0_2 : Value} {r0_3 : Value} {r0_21 : Value} {r0_22 : Value} {r0_23 : Value} (p0 : G_cluster_Cluster) (O0 : Own c0 G (⟨.pointer (some ⟨b0_, 0, none⟩), 133, [r0_0, r0_1, r0_2, r0_3, .int .i32 p0.text.1, .int .i32 p0.text.2.1, .int .i32 p0.text.2.2.1, .int .i32 p0.text.2.2.2.1, .int .i32 p0.text.2.2.2.2.1, .int .i32 p0.text.2.2.2.2.2.1, .int .i32 p0.text.2.2.2.2.2.2.1, .int .i32 p0.text.2.2.2.2.2.2.2.1, .int .i32 p0.text.2.2.2.2.2.2.2.2.1, .int .i32 p0.text.2.2.2.2.2.2.2.2.2.1, .int .i32 p0.text.2.2.2.2.2.2.2.2.2.2.1, .int .i32 p0.text.2.2.2.2.2.2.2.2.2.2.2.1, .int .i32 p0.text.2.2.2.2.2.2.2.2.2.2.2.2.1, .int .i32 p0.text.2.2.2.2.2.2.2.2.2.2.2.2.2.1, .int .i32 p0.text.2.2.2.2.2.2.2.2.2.2.2.2.2.2.1, .int .i32 p0.text.2.2.2.2.2.2.2.2.2.2.2.2.2.2.2, .int .i64 p0.n, r0_21, r0_22, r0_23], 0⟩ :: F)) {r : List Int} (H : f_cluster_Cluster_Text__widen_Cluster_4 p0 = some r) :
    Calls Tryz.prog 83 #[.pointer (some ⟨b0_, 4, none⟩)] c0.w (Post c0 fun c v => ∃ y1 y2, Own c G (es true (RI .i32) y1 21 y2 r :: ⟨.pointer (some ⟨b0_, 0, none⟩), 133, [r0_0, r0_1, r0_2, r0_3, .int .i32 p0.text.1, .int .i32 p0.text.2.1, .int .i32 p0.text.2.2.1, .int .i32 p0.text.2.2.2.1, .int .i32 p0.text.2.2.2.2.1, .int .i32 p0.text.2.2.2.2.2.1, .int .i32 p0.text.2.2.2.2.2.2.1, .int .i32 p0.text.2.2.2.2.2.2.2.1, .int .i32 p0.text.2.2.2.2.2.2.2.2.1, .int .i32 p0.text.2.2.2.2.2.2.2.2.2.1, .int .i32 p0.text.2.2.2.2.2.2.2.2.2.2.1, .int .i32 p0.text.2.2.2.2.2.2.2.2.2.2.2.1, .int .i32 p0.text.2.2.2.2.2.2.2.2.2.2.2.2.1, .int .i32 p0.text.2.2.2.2.2.2.2.2.2.2.2.2.2.1, .int .i32 p0.text.2.2.2.2.2.2.2.2.2.2.2.2.2.2.1, .int .i32 p0.text.2.2.2.2.2.2.2.2.2.2.2.2.2.2.2, .int .i64 p0.n, r0_21, r0_22, r0_23], 0⟩ :: F) ∧ v = y1 ∧ OA (RI .i32) c y1 y2 r) := by
 unfold f_cluster_Cluster_Text__widen_Cluster_4 at H
 refine en func83 rfl rfl (sr (va (.slice none 0 0) (wln (W.seq (sr (va (.pointer (some ⟨b0_, 4, none⟩)) (va (.bool false) (wln (W.cond (t := false) (by kernel_rfl) (fun h1 => ?_) (fun h1 => ?_))))))))))
 ·cases h1
 have H := ie h1 H
 refine W.skip (nrm (W.seq (rD [] (Kp G0 [⟨.pointer (some ⟨b0_, 0, none⟩), 133, [r0_0, r0_1, r0_2, r0_3, .int .i32 p0.text.1, .int .i32 p0.text.2.1, .int .i32 p0.text.2.2.1, .int .i32 p0.text.2.2.2.1, .int .i32 p0.text.2.2.2.2.1, .int .i32 p0.text.2.2.2.2.2.1, .int .i32 p0.text.2.2.2.2.2.2.1, .int .i32 p0.text.2.2.2.2.2.2.2.1, .int .i32 p0.text.2.2.2.2.2.2.2.2.1, .int .i32 p0.text.2.2.2.2.2.2.2.2.2.1, .int .i32 p0.text.2.2.2.2.2.2.2.2.2.2.1, .int .i32 p0.text.2.2.2.2.2.2.2.2.2.2.2.1, .int .i32 p0.text.2.2.2.2.2.2.2.2.2.2.2.2.1, .int .i32 p0.text.2.2.2.2.2.2.2.2.2.2.2.2.2.1, .int .i32 p0.text.2.2.2.2.2.2.2.2.2.2.2.2.2.2.1, .int .i32 p0.text.2.2.2.2.2.2.2.2.2.2.2.2.2.2.2, .int .i64 p0.n, r0_21, r0_22, r0_23], 0⟩]) O0 ?_)))
 intro c2 l2 O3
 have p4 : Kp G0 [⟨.pointer (some ⟨b0_, 0, none⟩), 133, [r0_0, r0_1, r0_2, r0_3, .int .i32 p0.text.1, .int .i32 p0.text.2.1, .int .i32 p0.text.2.2.1, .int .i32 p0.text.2.2.2.1, .int .i32 p0.text.2.2.2.2.1, .int .i32 p0.text.2.2.2.2.2.1, .int .i32 p0.text.2.2.2.2.2.2.1, .int .i32 p0.text.2.2.2.2.2.2.2.1, .int .i32 p0.text.2.2.2.2.2.2.2.2.1, .int .i32 p0.text.2.2.2.2.2.2.2.2.2.1, .int .i32 p0.text.2.2.2.2.2.2.2.2.2.2.1, .int .i32 p0.text.2.2.2.2.2.2.2.2.2.2.2.1, .int .i32 p0.text.2.2.2.2.2.2.2.2.2.2.2.2.1, .int .i32 p0.text.2.2.2.2.2.2.2.2.2.2.2.2.2.1, .int .i32 p0.text.2.2.2.2.2.2.2.2.2.2.2.2.2.2.1, .int .i32 p0.text.2.2.2.2.2.2.2.2.2.2.2.2.2.2.2, .int .i64 p0.n, r0_21, r0_22, r0_23], 0⟩] c2 := (Kp.cons (O3.on 0 rfl) Kp.nil0)
 refine ta 0 (.pointer (some ⟨b0_, 4, none⟩)) (ta 1 (.pointer (some ⟨b0_, 4, none⟩)) (ta 2 (.pointer (some ⟨b0_, 4, none⟩)) (ta 3 (.pointer (some ⟨b0_, 4, none⟩)) (ta 4 (.pointer (some ⟨b0_, 4, none⟩)) (ta 5 (.pointer (some ⟨b0_, 20, none⟩)) (tkx 6 p4 (fun c' hle hk => le1 20 underlying3 (hk.on 0 rfl)) (bn H fun x_15 h5 H => AC.take 7 (.slice (some ⟨b0_, 4, none⟩) p0.n.toNat 16) rfl (by kernel_rfl) (by kernel_rfl) (fun c' hle => (rx (by kernel_rfl) (run_cutA (k := .i64) underlying127 (by kernel_rfl) (slc_ok h5).2.1 (slc_ok h5).2.2.1 _))) (bn H fun x_16 h7 H => o1 8 (gc 8 (c_slices_CloneV O3 rfl (slc_len0 h5) (view16 (k := .i32) h5 [r0_0, r0_1, r0_2, r0_3] [.int .i64 p0.n, r0_21, r0_22, r0_23]) h7) ?_)))))))))
 rintro v8 c12 l12 ⟨_, u9, O10, rfl, h11⟩
 have p13 : Kp G0 [⟨.pointer (some ⟨b0_, 0, none⟩), 133, [r0_0, r0_1, r0_2, r0_3, .int .i32 p0.text.1, .int .i32 p0.text.2.1, .int .i32 p0.text.2.2.1, .int .i32 p0.text.2.2.2.1, .int .i32 p0.text.2.2.2.2.1, .int .i32 p0.text.2.2.2.2.2.1, .int .i32 p0.text.2.2.2.2.2.2.1, .int .i32 p0.text.2.2.2.2.2.2.2.1, .int .i32 p0.text.2.2.2.2.2.2.2.2.1, .int .i32 p0.text.2.2.2.2.2.2.2.2.2.1, .int .i32 p0.text.2.2.2.2.2.2.2.2.2.2.1, .int .i32 p0.text.2.2.2.2.2.2.2.2.2.2.2.1, .int .i32 p0.text.2.2.2.2.2.2.2.2.2.2.2.2.1, .int .i32 p0.text.2.2.2.2.2.2.2.2.2.2.2.2.2.1, .int .i32 p0.text.2.2.2.2.2.2.2.2.2.2.2.2.2.2.1, .int .i32 p0.text.2.2.2.2.2.2.2.2.2.2.2.2.2.2.2, .int .i64 p0.n, r0_21, r0_22, r0_23], 0⟩] c12 := (Kp.cons (O10.on 1 rfl) Kp.nil0)
 refine ⟨.inr p13, ta 9 (v8) (dn (nrm (W.ret ?_)))⟩
 obtain rfl := si H
 exact r1 ⟨_, c12, rfl, rfl, pt, v8, u9, O10, rfl, h11⟩
def f_widen_Begin (sg : Sto) (p0 : Option Nat) (p1 : Int) (p2 : G_api_Prop) : Option (Sto × (Option Nat)) :=
 (orE p0.isNone ((p0).bind fun k_9 =>
 (sg.place_Pen[k_9]?).bind fun o_11 =>
 some o_11.G.isNone)).bind fun d_6 =>
 if d_6 = true then
 some (sg, (none : Option Nat))
 else
 (some (sg.add_widen_Cluster (⟨(⟨0, 0, false⟩ : G_api_Cursor), 0, (⟨(0, 0, 0, 0, 0, 0, 0, 0, 0, 0, 0, 0, 0, 0, 0, 0), 0⟩ : G_cluster_Cluster), (⟨false, false, false⟩ : G_cwidth_Gauge)⟩ : G_widen_Cluster))).bind fun s_17001 =>
 (f_widen_Cluster_add s_17001 (some sg.widen_Cluster.length) p1 p2).bind fun x_24 =>
 (x_24.1.widen_Cluster[sg.widen_Cluster.length]?).bind fun o_27 =>
 (x_24.1.set_widen_Cluster sg.widen_Cluster.length (⟨o_27.at_, x_24.2, o_27.text, o_27.gauge⟩ : G_widen_Cluster)).bind fun s_27001 =>
 (f_cluster_Cluster_Text__widen_Cluster_4 o_27.text).bind fun x_38 =>
 (f_place_Pen_Put s_27001 p0 x_24.2 x_38).bind fun x_39 =>
 (x_39.1.widen_Cluster[sg.widen_Cluster.length]?).bind fun o_42 =>
 (x_39.1.set_widen_Cluster sg.widen_Cluster.length (⟨x_39.2, o_42.wide, o_42.text, o_42.gauge⟩ : G_widen_Cluster)).bind fun s_42001 =>
 some (s_42001, (some sg.widen_Cluster.length))
theorem c_widen_Begin (O0 : Own c0 G F) (R0 : Rel c0 sg G) (hG : Gl [0, 4] c0) (p0 : Option Nat) (p1 : Int) (p2 : G_api_Prop) {r : Sto × (Option Nat)} (h2 : Pt 2 c0 v1 p0) (H : f_widen_Begin sg p0 p1 p2 = some r) :
    Calls Tryz.prog 17 #[v1, .int .i32 p1, .agg #[.int .i64 p2.Break, .bool p2.Pict, .int .i64 p2.Conj, .int .i64 p2.East]] c0.w (Post c0 fun c v => ∃ y1, ∃ G_ : Gm, Own c G_ (F) ∧ Rel c r.1 G_ ∧ v = y1 ∧ Pt 3 c y1 r.2) := by
 unfold f_widen_Begin at H
 refine en func17 rfl rfl (sr (me (bx 33 [.int .i64 p2.Break, .bool p2.Pict, .int .i64 p2.Conj, .int .i64 p2.East] O0) ?_))
 rintro v7 c6 l6 ⟨b3, rfl, O4, m5⟩
 refine va (.pointer none) (wln (W.seq (W.seq (bn H fun d_6 h8 H => W.join (Jn c6 fun c l => Own c G (F) ∧ l = [(0, v1), (1, .int .i32 p1), (5, .pointer (some ⟨b3, 0, none⟩)), (16, .bool d_6)]) ?_ ?_))))
 ·clear H
  refine W.region (va (v1) (vr (.bool p0.isNone) (by rcases h2.m.cs with ⟨h1_, h2_⟩ | ⟨b_, h1_, h2_⟩ <;> (subst h1_; rw [h2_]; kernel_rfl)) ?_))
  rcases bo (p0.isNone) with h9 | h9
  ·obtain rfl := orT h9 h8
   exact vb h9 (ps (ps (ps (ps (ps (va (.bool true) (wln ⟨c6, _, _, rfl, pt, us, O4, rfl⟩)))))))
  have H10 := orF h9 h8
  refine vb h9 (wn (va (v1) (wn (bn H10 fun k_9 h13 H10 => ?_))))
  obtain ⟨b11, rfl, h12⟩ := ((h2.mono l6)).get h13
  refine va (.pointer (some ⟨b11, 0, none⟩)) (wn (va (.pointer (some ⟨b11, 0, none⟩)) (wn (bn H10 fun o_11 h14 H10 => ?_))))
  obtain ⟨v15, h17, h16⟩ := Rel.open_place_Pen (R0.mono l6) h14 h12
  refine vx (le1 0 underlying35 (O4.gon h17 0 rfl)) (wn (vr (.bool o_11.G.isNone) (by rcases (h16).cs with ⟨h1_, h2_⟩ | ⟨b_, h1_, h2_⟩ <;> (subst h1_; rw [h2_]; kernel_rfl)) ?_))
  obtain rfl := si H10
  exact va (.bool o_11.G.isNone) (wln ⟨c6, _, _, rfl, pt, us, O4, rfl⟩)
 rintro e_ w_ ⟨c18, g19, _, rfl, l18, rfl, O20, rfl⟩
 refine nrm (cn H (fun h24 H => ?_) (fun h24 H => ?_))
 ·refine sr (va (.pointer none) (wln (W.ret (thr ?_))))
  obtain rfl := si H
  exact r1 ⟨_, c18, rfl, rfl, pt, (.pointer none), G, O20, R0.m, rfl, rfl⟩
 refine W.skip (nrm (sr (va (.agg #[.int .i64 0, .int .i64 0, .bool false, .int .i64 0, .int .i32 0, .int .i32 0, .int .i32 0, .int .i32 0, .int .i32 0, .int .i32 0, .int .i32 0, .int .i32 0, .int .i32 0, .int .i32 0, .int .i32 0, .int .i32 0, .int .i32 0, .int .i32 0, .int .i32 0, .int .i32 0, .int .i64 0, .bool false, .bool false, .bool false]) (me (al 133 [.int .i64 0, .int .i64 0, .bool false, .int .i64 0, .int .i32 0, .int .i32 0, .int .i32 0, .int .i32 0, .int .i32 0, .int .i32 0, .int .i32 0, .int .i32 0, .int .i32 0, .int .i32 0, .int .i32 0, .int .i32 0, .int .i32 0, .int .i32 0, .int .i32 0, .int .i32 0, .int .i64 0, .bool false, .bool false, .bool false] O20) ?_))))
 rintro v28 c27 l27 ⟨b25, rfl, O26⟩
 have O29 := O26.sD 1 [0]
 refine bn H fun s_17001 h30 H => ?_
 obtain ⟨c31, G39, h32, l31, h33, O34, R35, h36, h37, a38⟩ := Rel.new_widen_Cluster (E := [⟨.pointer (some ⟨b25, 0, none⟩), 133, [.int .i64 0, .int .i64 0, .bool false, .int .i64 0, .int .i32 0, .int .i32 0, .int .i32 0, .int .i32 0, .int .i32 0, .int .i32 0, .int .i32 0, .int .i32 0, .int .i32 0, .int .i32 0, .int .i32 0, .int .i32 0, .int .i32 0, .int .i32 0, .int .i32 0, .int .i32 0, .int .i64 0, .bool false, .bool false, .bool false], 0⟩]) (F := F) (x := (⟨(⟨0, 0, false⟩ : G_api_Cursor), 0, (⟨(0, 0, 0, 0, 0, 0, 0, 0, 0, 0, 0, 0, 0, 0, 0, 0), 0⟩ : G_cluster_Cluster), (⟨false, false, false⟩ : G_cwidth_Gauge)⟩ : G_widen_Cluster)) (b := b25) O29 (R0.mono (l6.trans (l18.trans l27))) (fun c_ hle_ => ⟨b25, rfl, rfl⟩)
 rw [Option.some.inj h30] at R35
 refine WL.gh h32.1 ?_
 have h41 : Pt 3 c31 (.pointer (some ⟨b25, 0, none⟩)) (some sg.widen_Cluster.length) := ⟨b25, rfl, h33⟩
 refine va (.pointer (some ⟨b25, 0, none⟩)) (wln (sr (va (.pointer (some ⟨b25, 0, none⟩)) (va (.pointer (some ⟨b25, 0, none⟩)) (va (.int .i32 p1) (vx (lN 33 (mm m5)) (bn H fun x_24 h42 H => cl (c_widen_Cluster_add O34 R35 (some sg.widen_Cluster.length) p1 p2 h41 h42) ?_)))))))
 rintro v48 c47 l47 ⟨G43, O44, R45, rfl⟩
 refine va (.pointer (some ⟨b25, 0, none⟩)) (va (.pointer (some ⟨b25, 3, none⟩)) (bn H fun o_27 h49 H => ?_))
 have h50 := Rel.open_widen_Cluster R45 h49 (tm h33)
 refine md (gC 3 3 (.int .i64 x_24.2) [.int .i64 o_27.at_.Row, .int .i64 o_27.at_.Col, .bool o_27.at_.Pending, .int .i64 x_24.2, .int .i32 o_27.text.text.1, .int .i32 o_27.text.text.2.1, .int .i32 o_27.text.text.2.2.1, .int .i32 o_27.text.text.2.2.2.1, .int .i32 o_27.text.text.2.2.2.2.1, .int .i32 o_27.text.text.2.2.2.2.2.1, .int .i32 o_27.text.text.2.2.2.2.2.2.1, .int .i32 o_27.text.text.2.2.2.2.2.2.2.1, .int .i32 o_27.text.text.2.2.2.2.2.2.2.2.1, .int .i32 o_27.text.text.2.2.2.2.2.2.2.2.2.1, .int .i32 o_27.text.text.2.2.2.2.2.2.2.2.2.2.1, .int .i32 o_27.text.text.2.2.2.2.2.2.2.2.2.2.2.1, .int .i32 o_27.text.text.2.2.2.2.2.2.2.2.2.2.2.2.1, .int .i32 o_27.text.text.2.2.2.2.2.2.2.2.2.2.2.2.2.1, .int .i32 o_27.text.text.2.2.2.2.2.2.2.2.2.2.2.2.2.2.1, .int .i32 o_27.text.text.2.2.2.2.2.2.2.2.2.2.2.2.2.2.2, .int .i64 o_27.text.n, .bool o_27.gauge.some, .bool o_27.gauge.pict, .bool o_27.gauge.wide] 0 O44 h50 ⟨rfl, trivial⟩) ?_
 rintro c52 l52 O51
 refine bn H fun s_27001 h57 H => ?_
 obtain ⟨G53, O54, R55, h56, a58⟩ := Rel.put_widen_Cluster O51 (R45.mono l52) (E' := [⟨.pointer (some ⟨b25, 0, none⟩), 133, [.int .i64 o_27.at_.Row, .int .i64 o_27.at_.Col, .bool o_27.at_.Pending, .int .i64 x_24.2, .int .i32 o_27.text.text.1, .int .i32 o_27.text.text.2.1, .int .i32 o_27.text.text.2.2.1, .int .i32 o_27.text.text.2.2.2.1, .int .i32 o_27.text.text.2.2.2.2.1, .int .i32 o_27.text.text.2.2.2.2.2.1, .int .i32 o_27.text.text.2.2.2.2.2.2.1, .int .i32 o_27.text.text.2.2.2.2.2.2.2.1, .int .i32 o_27.text.text.2.2.2.2.2.2.2.2.1, .int .i32 o_27.text.text.2.2.2.2.2.2.2.2.2.1, .int .i32 o_27.text.text.2.2.2.2.2.2.2.2.2.2.1, .int .i32 o_27.text.text.2.2.2.2.2.2.2.2.2.2.2.1, .int .i32 o_27.text.text.2.2.2.2.2.2.2.2.2.2.2.2.1, .int .i32 o_27.text.text.2.2.2.2.2.2.2.2.2.2.2.2.2.1, .int .i32 o_27.text.text.2.2.2.2.2.2.2.2.2.2.2.2.2.2.1, .int .i32 o_27.text.text.2.2.2.2.2.2.2.2.2.2.2.2.2.2.2, .int .i64 o_27.text.n, .bool o_27.gauge.some, .bool o_27.gauge.pict, .bool o_27.gauge.wide], 0⟩]) h57 ⟨b25, (tm h33), rfl⟩
 refine wln (W.seq (rD [10, 13] (Kp G53 []) O54 ?_))
 intro c59 l59 O60
 have p61 : Kp G53 [] c59 := (Kp.nil O60)
 refine ta 0 (.pointer (some ⟨b25, 0, none⟩)) (ta 1 (v1) (ta 2 (.pointer (some ⟨b25, 0, none⟩)) (ta 3 (.pointer (some ⟨b25, 0, none⟩)) (ta 4 (.pointer (some ⟨b25, 3, none⟩)) (tkx 5 p61 (fun c' hle hk => le1 3 underlying3 (hk.gon h56 0 rfl)) (ta 6 (.pointer (some ⟨b25, 0, none⟩)) (ta 7 (.pointer (some ⟨b25, 0, none⟩)) (ta 8 (.pointer (some ⟨b25, 4, none⟩)) ?_))))))))
 have O62 := O60.borrow 0 h56 rfl
 refine bn H fun x_38 h64 H => o1 9 (gc 9 (c_cluster_Cluster_Text__widen_Cluster_4 o_27.text O62 h64) ?_)
 rintro v65 c72 l72 ⟨_, u66, O69, rfl, h67⟩
 have O75 := O69.sD 2 [1, 0]
 have O74 := O75.giveB 0 rfl
 have O76 := Own.back O74 h56 rfl
 have p77 : Kp G53 [] c72 := (Kp.nil O76)
 refine ⟨.inr p77, ?_⟩
 obtain ⟨c80, h81, l80, O78, h79⟩ := O76.frz 0 rfl h67
 have p82 : Kp G53 [] c80 := (Kp.nil O78)
 refine AC.gh h81 l80 (fun _ => p82) (bn H fun x_39 h83 H => o1 10 (gc 10 (c_place_Pen_Put O78 R55.m (hG.m.le (by decide)) p0 x_24.2 x_38 h2.m h79 h83) ?_))
 rintro v89 c88 l88 ⟨G84, O85, R86, rfl⟩
 refine ⟨.inl rfl, ta 11 (.pointer (some ⟨b25, 0, none⟩)) (ta 12 (.pointer (some ⟨b25, 0, none⟩)) (bn H fun o_42 h90 H => ?_))⟩
 have h91 := Rel.open_widen_Cluster R86 h90 (tm h33)
 refine o1 13 (gD 13 (gB 24 0 [.int .i64 x_39.2.Row, .int .i64 x_39.2.Col, .bool x_39.2.Pending] [.int .i64 x_39.2.Row, .int .i64 x_39.2.Col, .bool x_39.2.Pending, .int .i64 o_42.wide, .int .i32 o_42.text.text.1, .int .i32 o_42.text.text.2.1, .int .i32 o_42.text.text.2.2.1, .int .i32 o_42.text.text.2.2.2.1, .int .i32 o_42.text.text.2.2.2.2.1, .int .i32 o_42.text.text.2.2.2.2.2.1, .int .i32 o_42.text.text.2.2.2.2.2.2.1, .int .i32 o_42.text.text.2.2.2.2.2.2.2.1, .int .i32 o_42.text.text.2.2.2.2.2.2.2.2.1, .int .i32 o_42.text.text.2.2.2.2.2.2.2.2.2.1, .int .i32 o_42.text.text.2.2.2.2.2.2.2.2.2.2.1, .int .i32 o_42.text.text.2.2.2.2.2.2.2.2.2.2.2.1, .int .i32 o_42.text.text.2.2.2.2.2.2.2.2.2.2.2.2.1, .int .i32 o_42.text.text.2.2.2.2.2.2.2.2.2.2.2.2.2.1, .int .i32 o_42.text.text.2.2.2.2.2.2.2.2.2.2.2.2.2.2.1, .int .i32 o_42.text.text.2.2.2.2.2.2.2.2.2.2.2.2.2.2.2, .int .i64 o_42.text.n, .bool o_42.gauge.some, .bool o_42.gauge.pict, .bool o_42.gauge.wide] 0 O85 h91 ⟨rfl, rfl, rfl, trivial⟩) ?_)
 rintro c93 l93 O92
 refine bn H fun s_42001 h98 H => ?_
 obtain ⟨G94, O95, R96, h97, a99⟩ := Rel.put_widen_Cluster O92 (R86.mono l93) (E' := [⟨.pointer (some ⟨b25, 0, none⟩), 133, [.int .i64 x_39.2.Row, .int .i64 x_39.2.Col, .bool x_39.2.Pending, .int .i64 o_42.wide, .int .i32 o_42.text.text.1, .int .i32 o_42.text.text.2.1, .int .i32 o_42.text.text.2.2.1, .int .i32 o_42.text.text.2.2.2.1, .int .i32 o_42.text.text.2.2.2.2.1, .int .i32 o_42.text.text.2.2.2.2.2.1, .int .i32 o_42.text.text.2.2.2.2.2.2.1, .int .i32 o_42.text.text.2.2.2.2.2.2.2.1, .int .i32 o_42.text.text.2.2.2.2.2.2.2.2.1, .int .i32 o_42.text.text.2.2.2.2.2.2.2.2.2.1, .int .i32 o_42.text.text.2.2.2.2.2.2.2.2.2.2.1, .int .i32 o_42.text.text.2.2.2.2.2.2.2.2.2.2.2.1, .int .i32 o_42.text.text.2.2.2.2.2.2.2.2.2.2.2.2.1, .int .i32 o_42.text.text.2.2.2.2.2.2.2.2.2.2.2.2.2.1, .int .i32 o_42.text.text.2.2.2.2.2.2.2.2.2.2.2.2.2.2.1, .int .i32 o_42.text.text.2.2.2.2.2.2.2.2.2.2.2.2.2.2.2, .int .i64 o_42.text.n, .bool o_42.gauge.some, .bool o_42.gauge.pict, .bool o_42.gauge.wide], 0⟩]) h98 ⟨b25, ((l47.trans (l52.trans (l59.trans (l72.trans (l80.trans (l88.trans l93)))))).t _ _ _ h33), rfl⟩
 refine ⟨.inl rfl, dn (nrm (sr (va (.pointer (some ⟨b25, 0, none⟩)) (va (.pointer (some ⟨b25, 0, none⟩)) (wln (W.ret ?_))))))⟩
 obtain rfl := si H
 have O100 := O95.sD 1 []
 exact r1 ⟨_, c93, rfl, rfl, pt, (.pointer (some ⟨b25, 0, none⟩)), G94, O100, R96, rfl, h41.m⟩
def f_widen_Cluster_Join (sg : Sto) (p0 : Option Nat) (p1 : Option Nat) (p2 : Int) (p3 : G_api_Prop) : Option (Sto × Bool) :=
 (orE p0.isNone (some p1.isNone)).bind fun d_6 =>
 (orE d_6 ((p1).bind fun k_13 =>
 (sg.place_Pen[k_13]?).bind fun o_15 =>
 some o_15.G.isNone)).bind fun d_10 =>
 (orE d_10 ((p0).bind fun k_20 =>
 (sg.widen_Cluster[k_20]?).bind fun o_22002 =>
 (f_cluster_Cluster_Full__widen_Cluster_4 o_22002.text).bind fun x_22 =>
 some x_22)).bind fun d_17 =>
 if d_17 = true then
 some (sg, false)
 else
 (p0).bind fun k_27 =>
 (sg.widen_Cluster[k_27]?).bind fun o_29 =>
 (f_widen_Cluster_add sg p0 p2 p3).bind fun x_36 =>
 (x_36.1.widen_Cluster[k_27]?).bind fun o_39 =>
 (x_36.1.set_widen_Cluster k_27 (⟨o_39.at_, x_36.2, o_39.text, o_39.gauge⟩ : G_widen_Cluster)).bind fun s_39001 =>
 (if (x_36.2 != o_29.wide) = true then
 (p1).bind fun k_55 =>
 (s_39001.place_Pen[k_55]?).bind fun o_57 =>
 (s_39001.set_place_Pen k_55 (⟨o_57.G, o_39.at_, o_57.Auto⟩ : G_place_Pen)).bind fun s_57001 =>
 (s_57001.widen_Cluster[k_27]?).bind fun o_64 =>
 (f_cluster_Cluster_Text__widen_Cluster_4 o_64.text).bind fun x_68 =>
 (f_place_Pen_Put s_57001 p1 o_64.wide x_68).bind fun x_69 =>
 (x_69.1.widen_Cluster[k_27]?).bind fun o_72 =>
 (x_69.1.set_widen_Cluster k_27 (⟨x_69.2, o_72.wide, o_72.text, o_72.gauge⟩ : G_widen_Cluster)).bind fun s_72001 =>
 (some (s_72001) : Option (Sto))
 else
 (p1).bind fun k_79 =>
 (s_39001.place_Pen[k_79]?).bind fun o_81 =>
 (f_grid_Grid_Wide s_39001 o_81.G).bind fun x_82 =>
 if (decide (x_36.2 ≤ x_82)) = true then
 (f_grid_Grid_Row s_39001 o_81.G o_39.at_.Row).bind fun x_101 =>
 (f_mark_Add s_39001 x_101 o_39.at_.Col p2).bind fun x_102 =>
 (some (x_102.1) : Option (Sto))
 else
 (some (s_39001) : Option (Sto))).bind fun z_41 =>
 some (z_41, true)
theorem c_widen_Cluster_Join (O0 : Own c0 G F) (R0 : Rel c0 sg G) (hG : Gl [0, 4] c0) (p0 : Option Nat) (p1 : Option Nat) (p2 : Int) (p3 : G_api_Prop) {r : Sto × Bool} (h2 : Pt 3 c0 v1 p0) (h4 : Pt 2 c0 v3 p1) (H : f_widen_Cluster_Join sg p0 p1 p2 p3 = some r) :
    Calls Tryz.prog 18 #[v1, v3, .int .i32 p2, .agg #[.int .i64 p3.Break, .bool p3.Pict, .int .i64 p3.Conj, .int .i64 p3.East]] c0.w (Post c0 fun c v => ∃ G_ : Gm, Own c G_ (F) ∧ Rel c r.1 G_ ∧ v = .bool r.2) := by
 unfold f_widen_Cluster_Join at H
 refine en func18 rfl rfl (sr (me (bx 33 [.int .i64 p3.Break, .bool p3.Pict, .int .i64 p3.Conj, .int .i64 p3.East] O0) ?_))
 rintro v9 c8 l8 ⟨b5, rfl, O6, m7⟩
 refine va (.bool false) (wln (W.seq (W.seq (bn H fun d_6 h10 H => bn H fun d_10 h11 H => bn H fun d_17 h12 H => W.join (Jn c8 fun c l => Own c G (F) ∧ l = [(0, v1), (1, v3), (2, .int .i32 p2), (7, .pointer (some ⟨b5, 0, none⟩)), (28, .bool d_17)]) ?_ ?_))))
 ·clear H
  refine W.region (va (v1) (vr (.bool p0.isNone) (by rcases h2.m.cs with ⟨h1_, h2_⟩ | ⟨b_, h1_, h2_⟩ <;> (subst h1_; rw [h2_]; kernel_rfl)) ?_))
  rcases bo (p0.isNone) with h13 | h13
  ·obtain rfl := orT h13 h10
   refine vb h13 (ps (ps (va (.bool true) ?_)))
   have h14 : true = true := rfl
   obtain rfl := orT h14 h11
   refine vb h14 (ps (ps (ps (ps (ps (va (.bool true) ?_))))))
   have h15 : true = true := rfl
   obtain rfl := orT h15 h12
   exact vb h15 (ps (ps (ps (ps (va (.bool true) (wln ⟨c8, _, _, rfl, pt, us, O6, rfl⟩))))))
  have H16 := orF h13 h10
  refine vb h13 (wn (va (v3) (wn (vr (.bool p1.isNone) (by rcases h4.m.cs with ⟨h1_, h2_⟩ | ⟨b_, h1_, h2_⟩ <;> (subst h1_; rw [h2_]; kernel_rfl)) ?_))))
  obtain rfl := si H16
  refine va (.bool p1.isNone) ?_
  rcases bo (p1.isNone) with h17 | h17
  ·obtain rfl := orT h17 h11
   refine vb h17 (ps (ps (ps (ps (ps (va (.bool true) ?_))))))
   have h18 : true = true := rfl
   obtain rfl := orT h18 h12
   exact vb h18 (ps (ps (ps (ps (va (.bool true) (wln ⟨c8, _, _, rfl, pt, us, O6, rfl⟩))))))
  have H19 := orF h17 h11
  refine vb h17 (wn (va (v3) (wn (bn H19 fun k_13 h22 H19 => ?_))))
  obtain ⟨b20, rfl, h21⟩ := ((h4.mono l8)).get h22
  refine va (.pointer (some ⟨b20, 0, none⟩)) (wn (va (.pointer (some ⟨b20, 0, none⟩)) (wn (bn H19 fun o_15 h23 H19 => ?_))))
  obtain ⟨v24, h26, h25⟩ := Rel.open_place_Pen (R0.mono l8) h23 h21
  refine vx (le1 0 underlying35 (O6.gon h26 0 rfl)) (wn (vr (.bool o_15.G.isNone) (by rcases (h25).cs with ⟨h1_, h2_⟩ | ⟨b_, h1_, h2_⟩ <;> (subst h1_; rw [h2_]; kernel_rfl)) ?_))
  obtain rfl := si H19
  refine va (.bool o_15.G.isNone) ?_
  rcases bo (o_15.G.isNone) with h27 | h27
  ·obtain rfl := orT h27 h12
   exact vb h27 (ps (ps (ps (ps (va (.bool true) (wln ⟨c8, _, _, rfl, pt, us, O6, rfl⟩))))))
  have H28 := orF h27 h12
  refine vb h27 (wn (va (v1) (wn (bn H28 fun k_20 h31 H28 => ?_))))
  obtain ⟨b29, rfl, h30⟩ := ((h2.mono l8)).get h31
  refine va (.pointer (some ⟨b29, 0, none⟩)) (wn (va (.pointer (some ⟨b29, 4, none⟩)) (wn (bn H28 fun o_22002 h32 H28 => ?_))))
  have h33 := Rel.open_widen_Cluster (R0.mono l8) h32 h30
  have O34 := O6.borrow 0 h33 rfl
  refine bn H28 fun x_22 h36 H28 => cl (c_cluster_Cluster_Full__widen_Cluster_4 o_22002.text O34 h36) ?_
  rintro v42 c41 l41 ⟨O38, rfl⟩
  have O43 := O38.giveB 0 rfl
  have O44 := Own.back O43 h33 rfl
  obtain rfl := si H28
  exact va (.bool x_22) (wln ⟨c41, _, _, rfl, pt, us, O44, rfl⟩)
 rintro e_ w_ ⟨c45, g46, _, rfl, l45, rfl, O47, rfl⟩
 refine nrm (cn H (fun h51 H => ?_) (fun h51 H => ?_))
 ·refine sr (va (.bool false) (wln (W.ret (thr ?_))))
  obtain rfl := si H
  exact r1 ⟨_, c45, rfl, rfl, pt, G, O47, R0.m, rfl⟩
 refine W.skip (nrm (sr (va (v1) (bn H fun k_27 h54 H => ?_))))
 obtain ⟨b52, rfl, h53⟩ := ((h2.mono (l8.trans l45))).get h54
 refine va (.pointer (some ⟨b52, 0, none⟩)) (va (.pointer (some ⟨b52, 3, none⟩)) (bn H fun o_29 h55 H => ?_))
 have h56 := Rel.open_widen_Cluster (R0.mono (l8.trans l45)) h55 h53
 refine vx (le1 3 underlying3 (O47.gon h56 0 rfl)) (va (.int .i64 o_29.wide) (wln (sr (va (.pointer (some ⟨b52, 0, none⟩)) (va (.pointer (some ⟨b52, 0, none⟩)) (va (.int .i32 p2) (vx (lN 33 (mm m7)) (bn H fun x_36 h57 H => cl (c_widen_Cluster_add O47 R0.m p0 p2 p3 h2.m h57) ?_))))))))
 rintro v63 c62 l62 ⟨G58, O59, R60, rfl⟩
 refine va (.pointer (some ⟨b52, 0, none⟩)) (va (.pointer (some ⟨b52, 3, none⟩)) (bn H fun o_39 h64 H => ?_))
 have h65 := Rel.open_widen_Cluster R60 h64 (tm h53)
 refine md (gC 3 3 (.int .i64 x_36.2) [.int .i64 o_39.at_.Row, .int .i64 o_39.at_.Col, .bool o_39.at_.Pending, .int .i64 x_36.2, .int .i32 o_39.text.text.1, .int .i32 o_39.text.text.2.1, .int .i32 o_39.text.text.2.2.1, .int .i32 o_39.text.text.2.2.2.1, .int .i32 o_39.text.text.2.2.2.2.1, .int .i32 o_39.text.text.2.2.2.2.2.1, .int .i32 o_39.text.text.2.2.2.2.2.2.1, .int .i32 o_39.text.text.2.2.2.2.2.2.2.1, .int .i32 o_39.text.text.2.2.2.2.2.2.2.2.1, .int .i32 o_39.text.text.2.2.2.2.2.2.2.2.2.1, .int .i32 o_39.text.text.2.2.2.2.2.2.2.2.2.2.1, .int .i32 o_39.text.text.2.2.2.2.2.2.2.2.2.2.2.1, .int .i32 o_39.text.text.2.2.2.2.2.2.2.2.2.2.2.2.1, .int .i32 o_39.text.text.2.2.2.2.2.2.2.2.2.2.2.2.2.1, .int .i32 o_39.text.text.2.2.2.2.2.2.2.2.2.2.2.2.2.2.1, .int .i32 o_39.text.text.2.2.2.2.2.2.2.2.2.2.2.2.2.2.2, .int .i64 o_39.text.n, .bool o_39.gauge.some, .bool o_39.gauge.pict, .bool o_39.gauge.wide] 0 O59 h65 ⟨rfl, trivial⟩) ?_
 rintro c67 l67 O66
 refine bn H fun s_39001 h72 H => ?_
 obtain ⟨G68, O69, R70, h71, a73⟩ := Rel.put_widen_Cluster O66 (R60.mono l67) (E' := [⟨.pointer (some ⟨b52, 0, none⟩), 133, [.int .i64 o_39.at_.Row, .int .i64 o_39.at_.Col, .bool o_39.at_.Pending, .int .i64 x_36.2, .int .i32 o_39.text.text.1, .int .i32 o_39.text.text.2.1, .int .i32 o_39.text.text.2.2.1, .int .i32 o_39.text.text.2.2.2.1, .int .i32 o_39.text.text.2.2.2.2.1, .int .i32 o_39.text.text.2.2.2.2.2.1, .int .i32 o_39.text.text.2.2.2.2.2.2.1, .int .i32 o_39.text.text.2.2.2.2.2.2.2.1, .int .i32 o_39.text.text.2.2.2.2.2.2.2.2.1, .int .i32 o_39.text.text.2.2.2.2.2.2.2.2.2.1, .int .i32 o_39.text.text.2.2.2.2.2.2.2.2.2.2.1, .int .i32 o_39.text.text.2.2.2.2.2.2.2.2.2.2.2.1, .int .i32 o_39.text.text.2.2.2.2.2.2.2.2.2.2.2.2.1, .int .i32 o_39.text.text.2.2.2.2.2.2.2.2.2.2.2.2.2.1, .int .i32 o_39.text.text.2.2.2.2.2.2.2.2.2.2.2.2.2.2.1, .int .i32 o_39.text.text.2.2.2.2.2.2.2.2.2.2.2.2.2.2.2, .int .i64 o_39.text.n, .bool o_39.gauge.some, .bool o_39.gauge.pict, .bool o_39.gauge.wide], 0⟩]) h72 ⟨b52, (tm h53), rfl⟩
 refine wln (bn H fun z_41 H74 H75 => W.seqJ (Jn c67 fun c l => ∃ G_, Own c G_ (F) ∧ l = [] ∧ Rel c z_41 G_) ?_ ?_)
 ·refine W.block (sr (va (.pointer (some ⟨b52, 0, none⟩)) (va (.pointer (some ⟨b52, 0, none⟩)) (va (.pointer (some ⟨b52, 3, none⟩)) (vx (le1 3 underlying3 (O69.gon h71 0 rfl)) (va (.int .i64 o_29.wide) (va (.bool (x_36.2 != o_29.wide)) (va (.bool (x_36.2 != o_29.wide)) (wln (cn H74 (fun h76 H74 => ?_) (fun h76 H74 => ?_)))))))))))
  ·refine sr (va (v3) (va (.pointer (some ⟨b52, 0, none⟩)) (va (.pointer (some ⟨b52, 0, none⟩)) (va (.pointer (some ⟨b52, 0, none⟩)) (vx (leN 24 0 [.int .i64 o_39.at_.Row, .int .i64 o_39.at_.Col, .bool o_39.at_.Pending] (O69.gon h71 0 rfl)) (bn H74 fun k_55 h79 H74 => ?_))))))
   obtain ⟨b77, rfl, h78⟩ := ((h4.mono (l8.trans (l45.trans (l62.trans l67))))).get h79
   refine va (.pointer (some ⟨b77, 0, none⟩)) (va (.pointer (some ⟨b77, 1, none⟩)) (bn H74 fun o_57 h80 H74 => ?_))
   obtain ⟨v81, h83, h82⟩ := Rel.open_place_Pen R70 h80 h78
   refine md (gB 24 1 [.int .i64 o_39.at_.Row, .int .i64 o_39.at_.Col, .bool o_39.at_.Pending] [v81, .int .i64 o_39.at_.Row, .int .i64 o_39.at_.Col, .bool o_39.at_.Pending, .bool o_57.Auto] 0 O69 h83 ⟨rfl, rfl, rfl, trivial⟩) ?_
   rintro c85 l85 O84
   refine bn H74 fun s_57001 h90 H74 => ?_
   obtain ⟨G86, O87, R88, h89, a91⟩ := Rel.put_place_Pen O84 (R70.mono l85) (E' := [⟨.pointer (some ⟨b77, 0, none⟩), 42, [v81, .int .i64 o_39.at_.Row, .int .i64 o_39.at_.Col, .bool o_39.at_.Pending, .bool o_57.Auto], 0⟩]) h90 ⟨b77, v81, (tm h78), rfl, (h82.mono l85)⟩
   refine wln (rD [10, 13] (Kp G86 []) O87 ?_)
   intro c92 l92 O93
   have p94 : Kp G86 [] c92 := (Kp.nil O93)
   refine ta 0 (.pointer (some ⟨b52, 0, none⟩)) (ta 1 (.pointer (some ⟨b77, 0, none⟩)) (ta 2 (.pointer (some ⟨b52, 0, none⟩)) (ta 3 (.pointer (some ⟨b52, 0, none⟩)) (ta 4 (.pointer (some ⟨b52, 3, none⟩)) (bn H74 fun o_64 h95 H74 => ?_)))))
   have h96 := Rel.open_widen_Cluster (R88.mono l92) h95 (tm h53)
   refine tkx 5 p94 (fun c' hle hk => le1 3 underlying3 (hk.gon h96 0 rfl)) (ta 6 (.pointer (some ⟨b52, 0, none⟩)) (ta 7 (.pointer (some ⟨b52, 0, none⟩)) (ta 8 (.pointer (some ⟨b52, 4, none⟩)) ?_)))
   have O97 := O93.borrow 0 h96 rfl
   refine bn H74 fun x_68 h99 H74 => o1 9 (gc 9 (c_cluster_Cluster_Text__widen_Cluster_4 o_64.text O97 h99) ?_)
   rintro v100 c107 l107 ⟨_, u101, O104, rfl, h102⟩
   have O110 := O104.sD 2 [1, 0]
   have O109 := O110.giveB 0 rfl
   have O111 := Own.back O109 h96 rfl
   have p112 : Kp G86 [] c107 := (Kp.nil O111)
   refine ⟨.inr p112, ?_⟩
   obtain ⟨c115, h116, l115, O113, h114⟩ := O111.frz 0 rfl h102
   have p117 : Kp G86 [] c115 := (Kp.nil O113)
   refine AC.gh h116 l115 (fun _ => p117) (bn H74 fun x_69 h118 H74 => o1 10 (gc 10 (c_place_Pen_Put O113 R88.m (hG.m.le (by decide)) p1 o_64.wide x_68 h4.m h114 h118) ?_))
   rintro v124 c123 l123 ⟨G119, O120, R121, rfl⟩
   refine ⟨.inl rfl, ta 11 (.pointer (some ⟨b52, 0, none⟩)) (ta 12 (.pointer (some ⟨b52, 0, none⟩)) (bn H74 fun o_72 h125 H74 => ?_))⟩
   have h126 := Rel.open_widen_Cluster R121 h125 ((l62.trans (l67.trans (l85.trans (l92.trans (l107.trans (l115.trans l123)))))).t _ _ _ h53)
   refine o1 13 (gD 13 (gB 24 0 [.int .i64 x_69.2.Row, .int .i64 x_69.2.Col, .bool x_69.2.Pending] [.int .i64 x_69.2.Row, .int .i64 x_69.2.Col, .bool x_69.2.Pending, .int .i64 o_72.wide, .int .i32 o_72.text.text.1, .int .i32 o_72.text.text.2.1, .int .i32 o_72.text.text.2.2.1, .int .i32 o_72.text.text.2.2.2.1, .int .i32 o_72.text.text.2.2.2.2.1, .int .i32 o_72.text.text.2.2.2.2.2.1, .int .i32 o_72.text.text.2.2.2.2.2.2.1, .int .i32 o_72.text.text.2.2.2.2.2.2.2.1, .int .i32 o_72.text.text.2.2.2.2.2.2.2.2.1, .int .i32 o_72.text.text.2.2.2.2.2.2.2.2.2.1, .int .i32 o_72.text.text.2.2.2.2.2.2.2.2.2.2.1, .int .i32 o_72.text.text.2.2.2.2.2.2.2.2.2.2.2.1, .int .i32 o_72.text.text.2.2.2.2.2.2.2.2.2.2.2.2.1, .int .i32 o_72.text.text.2.2.2.2.2.2.2.2.2.2.2.2.2.1, .int .i32 o_72.text.text.2.2.2.2.2.2.2.2.2.2.2.2.2.2.1, .int .i32 o_72.text.text.2.2.2.2.2.2.2.2.2.2.2.2.2.2.2, .int .i64 o_72.text.n, .bool o_72.gauge.some, .bool o_72.gauge.pict, .bool o_72.gauge.wide] 0 O120 h126 ⟨rfl, rfl, rfl, trivial⟩) ?_)
   rintro c128 l128 O127
   refine bn H74 fun s_72001 h133 H74 => ?_
   obtain ⟨G129, O130, R131, h132, a134⟩ := Rel.put_widen_Cluster O127 (R121.mono l128) (E' := [⟨.pointer (some ⟨b52, 0, none⟩), 133, [.int .i64 x_69.2.Row, .int .i64 x_69.2.Col, .bool x_69.2.Pending, .int .i64 o_72.wide, .int .i32 o_72.text.text.1, .int .i32 o_72.text.text.2.1, .int .i32 o_72.text.text.2.2.1, .int .i32 o_72.text.text.2.2.2.1, .int .i32 o_72.text.text.2.2.2.2.1, .int .i32 o_72.text.text.2.2.2.2.2.1, .int .i32 o_72.text.text.2.2.2.2.2.2.1, .int .i32 o_72.text.text.2.2.2.2.2.2.2.1, .int .i32 o_72.text.text.2.2.2.2.2.2.2.2.1, .int .i32 o_72.text.text.2.2.2.2.2.2.2.2.2.1, .int .i32 o_72.text.text.2.2.2.2.2.2.2.2.2.2.1, .int .i32 o_72.text.text.2.2.2.2.2.2.2.2.2.2.2.1, .int .i32 o_72.text.text.2.2.2.2.2.2.2.2.2.2.2.2.1, .int .i32 o_72.text.text.2.2.2.2.2.2.2.2.2.2.2.2.2.1, .int .i32 o_72.text.text.2.2.2.2.2.2.2.2.2.2.2.2.2.2.1, .int .i32 o_72.text.text.2.2.2.2.2.2.2.2.2.2.2.2.2.2.2, .int .i64 o_72.text.n, .bool o_72.gauge.some, .bool o_72.gauge.pict, .bool o_72.gauge.wide], 0⟩]) h133 ⟨b52, ((l62.trans (l67.trans (l85.trans (l92.trans (l107.trans (l115.trans (l123.trans l128))))))).t _ _ _ h53), rfl⟩
   refine ⟨.inl rfl, dn (bkn (nrm ?_))⟩
   obtain rfl := si H74
   have O135 := O130.sD 1 []
   exact ⟨c128, _, _, rfl, pt, us, G129, O135, rfl, R131⟩
  refine W.seq (rD [] (Kp G68 []) O69 ?_)
  intro c136 l136 O137
  have p138 : Kp G68 [] c136 := (Kp.nil O137)
  refine ta 0 (.pointer (some ⟨b52, 0, none⟩)) (ta 1 (.pointer (some ⟨b52, 0, none⟩)) (ta 2 (.pointer (some ⟨b52, 3, none⟩)) (tkx 3 p138 (fun c' hle hk => le1 3 underlying3 (hk.gon h71 0 rfl)) (ta 4 (v3) (bn H74 fun k_79 h141 H74 => ?_)))))
  obtain ⟨b139, rfl, h140⟩ := ((h4.mono (l8.trans (l45.trans (l62.trans (l67.trans l136)))))).get h141
  refine ta 5 (.pointer (some ⟨b139, 0, none⟩)) (ta 6 (.pointer (some ⟨b139, 0, none⟩)) (bn H74 fun o_81 h142 H74 => ?_))
  obtain ⟨v143, h145, h144⟩ := Rel.open_place_Pen (R70.mono l136) h142 h140
  refine tkx 7 p138 (fun c' hle hk => le1 0 underlying35 (hk.gon h145 0 rfl)) (bn H74 fun x_82 h146 H74 => o1 8 (gc 8 (c_grid_Grid_Wide O137 R70.m o_81.G h144 h146) ?_))
  rintro v152 c151 l151 ⟨O148, rfl⟩
  have p153 : Kp G68 [] c151 := (Kp.nil O148)
  refine ⟨.inr p153, ta 9 (.bool (decide (x_36.2 ≤ x_82))) (ta 10 (.bool (decide (x_36.2 ≤ x_82))) (dn (nrm (cn H74 (fun h154 H74 => ?_) (fun h154 H74 => ?_)))))⟩
  ·refine rD [16] (Kp G68 []) O148 ?_
   intro c155 l155 O156
   have p157 : Kp G68 [] c155 := (Kp.nil O156)
   refine ta 0 (.pointer (some ⟨b139, 0, none⟩)) (ta 1 (.pointer (some ⟨b139, 0, none⟩)) (ta 2 (.pointer (some ⟨b139, 0, none⟩)) (tkx 3 p157 (fun c' hle hk => le1 0 underlying35 (hk.gon h145 0 rfl)) (ta 4 (.pointer (some ⟨b52, 0, none⟩)) (ta 5 (.pointer (some ⟨b52, 0, none⟩)) (ta 6 (.pointer (some ⟨b52, 0, none⟩)) (ta 7 (.pointer (some ⟨b52, 0, none⟩)) (tkx 8 p157 (fun c' hle hk => le1 0 underlying3 (hk.gon h71 0 rfl)) (ta 10 (.pointer (some ⟨b52, 0, none⟩)) (ta 11 (.pointer (some ⟨b52, 0, none⟩)) (ta 12 (.pointer (some ⟨b52, 0, none⟩)) (ta 13 (.pointer (some ⟨b52, 1, none⟩)) (tkx 14 p157 (fun c' hle hk => le1 1 underlying3 (hk.gon h71 0 rfl)) (ta 15 (.int .i32 p2) (bn H74 fun x_101 h158 H74 => o1 9 (gc 9 (c_grid_Grid_Row O156 R70.m o_81.G o_39.at_.Row h144.m h158) ?_))))))))))))))))
   rintro v159 c165 l165 ⟨_, O162, rfl, h160⟩
   have p167 : Kp G68 [] c165 := (Kp.nil O162)
   refine ⟨.inr p167, bn H74 fun x_102 h168 H74 => o1 16 (gc 16 (c_mark_Add O162 R70.m (hG.m.le (by decide)) x_101 o_39.at_.Col p2 h160 h168) ?_)⟩
   rintro v174 c173 l173 ⟨G169, O170, R171, rfl⟩
   refine ⟨.inl rfl, dn (bkn (nrm ?_))⟩
   obtain rfl := si H74
   exact ⟨c173, _, _, rfl, pt, us, G169, O170, rfl, R171⟩
  refine W.skip (bkn (nrm ?_))
  obtain rfl := si H74
  exact ⟨c151, _, _, rfl, pt, us, G68, O148, rfl, R70.m⟩
 rintro e_ w_ ⟨c175, g176, _, rfl, l175, rfl, G178, O177, rfl, R179⟩
 refine sr (va (.bool true) (wln (W.ret ?_)))
 obtain rfl := si H75
 exact r1 ⟨_, c175, rfl, rfl, pt, G178, O177, R179, rfl⟩
def f_widen_Cluster_At (sg : Sto) (p0 : Option Nat) : Option (G_api_Cursor) :=
 if p0.isNone = true then
 some (⟨0, 0, false⟩ : G_api_Cursor)
 else
 (p0).bind fun k_10 =>
 (sg.widen_Cluster[k_10]?).bind fun o_12 =>
 some o_12.at_
theorem c_widen_Cluster_At (O0 : Own c0 G F) (R0 : Rel c0 sg G) (p0 : Option Nat) {r : G_api_Cursor} (h2 : Pt 3 c0 v1 p0) (H : f_widen_Cluster_At sg p0 = some r) :
    Calls Tryz.prog 21 #[v1] c0.w (Post c0 fun c v => Own c G (F) ∧ v = .agg #[.int .i64 r.Row, .int .i64 r.Col, .bool r.Pending]) := by
 unfold f_widen_Cluster_At at H
 refine en func21 rfl rfl (sr (me (al 24 [.int .i64 0, .int .i64 0, .bool false] O0) ?_))
 rintro v6 c5 l5 ⟨b3, rfl, O4⟩
 refine wln (W.seq (sr (va (v1) (vr (.bool p0.isNone) (by rcases h2.m.cs with ⟨h1_, h2_⟩ | ⟨b_, h1_, h2_⟩ <;> (subst h1_; rw [h2_]; kernel_rfl)) (wln (cn H (fun h7 H => ?_) (fun h7 H => ?_)))))))
 ·refine sr (va (.agg #[.int .i64 0, .int .i64 0, .bool false]) (md (sA 24 [.int .i64 0, .int .i64 0, .bool false] 0 O4 ⟨rfl, rfl, rfl, trivial⟩) ?_))
  rintro c9 l9 O8
  refine wln (W.ret (thr ?_))
  obtain rfl := si H
  have O10 := O8.sD 1 []
  exact retC (c := c9) (vs := [.int .i64 0, .int .i64 0, .bool false]) rfl (by kernel_rfl) (by kernel_rfl) (by kernel_rfl) (O8.on 0 rfl _ rfl).1 ⟨_, c9, rfl, rfl, pt, O10, rfl⟩
 refine W.skip (nrm (sr (va (v1) (bn H fun k_10 h13 H => ?_))))
 obtain ⟨b11, rfl, h12⟩ := ((h2.mono l5)).get h13
 refine va (.pointer (some ⟨b11, 0, none⟩)) (va (.pointer (some ⟨b11, 0, none⟩)) (bn H fun o_12 h14 H => ?_))
 have h15 := Rel.open_widen_Cluster (R0.mono l5) h14 h12
 refine vx (leN 24 0 [.int .i64 o_12.at_.Row, .int .i64 o_12.at_.Col, .bool o_12.at_.Pending] (O4.gon h15 0 rfl)) (md (sA 24 [.int .i64 o_12.at_.Row, .int .i64 o_12.at_.Col, .bool o_12.at_.Pending] 0 O4 ⟨rfl, rfl, rfl, trivial⟩) ?_)
 rintro c17 l17 O16
 refine wln (W.ret ?_)
 obtain rfl := si H
 have O18 := O16.sD 1 []
 exact retC (c := c17) (vs := [.int .i64 o_12.at_.Row, .int .i64 o_12.at_.Col, .bool o_12.at_.Pending]) rfl (by kernel_rfl) (by kernel_rfl) (by kernel_rfl) (O16.on 0 rfl _ rfl).1 ⟨_, c17, rfl, rfl, pt, O18, rfl⟩
def f_widen_Cluster_Wide (sg : Sto) (p0 : Option Nat) : Option (Int) :=
 if p0.isNone = true then
 some 0
 else
 (p0).bind fun k_9 =>
 (sg.widen_Cluster[k_9]?).bind fun o_11 =>
 some o_11.wide
theorem c_widen_Cluster_Wide (O0 : Own c0 G F) (R0 : Rel c0 sg G) (p0 : Option Nat) {r : Int} (h2 : Pt 3 c0 v1 p0) (H : f_widen_Cluster_Wide sg p0 = some r) :
    Calls Tryz.prog 22 #[v1] c0.w (Post c0 fun c v => Own c G (F) ∧ v = .int .i64 r) := by
 unfold f_widen_Cluster_Wide at H
 refine en func22 rfl rfl (sr (va (.int .i64 0) (wln (W.seq (sr (va (v1) (vr (.bool p0.isNone) (by rcases (h2).cs with ⟨h1_, h2_⟩ | ⟨b_, h1_, h2_⟩ <;> (subst h1_; rw [h2_]; kernel_rfl)) (wln (cn H (fun h3 H => ?_) (fun h3 H => ?_))))))))))
 ·refine sr (va (.int .i64 0) (wln (W.ret (thr ?_))))
  obtain rfl := si H
  exact r1 ⟨_, c0, rfl, rfl, pt, O0, rfl⟩
 refine W.skip (nrm (sr (va (v1) (bn H fun k_9 h6 H => ?_))))
 obtain ⟨b4, rfl, h5⟩ := (h2).get h6
 refine va (.pointer (some ⟨b4, 0, none⟩)) (va (.pointer (some ⟨b4, 3, none⟩)) (bn H fun o_11 h7 H => ?_))
 have h8 := Rel.open_widen_Cluster R0 h7 h5
 refine vx (le1 3 underlying3 (O0.gon h8 0 rfl)) (va (.int .i64 o_11.wide) (wln (W.ret ?_)))
 obtain rfl := si H
 exact r1 ⟨_, c0, rfl, rfl, pt, O0, rfl⟩
def f_widen_Cluster_Text (sg : Sto) (p0 : Option Nat) : Option (List Int) :=
 if p0.isNone = true then
 some ([] : List Int)
 else
 (p0).bind fun k_9 =>
 (sg.widen_Cluster[k_9]?).bind fun o_11002 =>
 (f_cluster_Cluster_Text__widen_Cluster_4 o_11002.text).bind fun x_11 =>
 some x_11
theorem c_widen_Cluster_Text (O0 : Own c0 G F) (R0 : Rel c0 sg G) (p0 : Option Nat) {r : List Int} (h2 : Pt 3 c0 v1 p0) (H : f_widen_Cluster_Text sg p0 = some r) :
    Calls Tryz.prog 24 #[v1] c0.w (Post c0 fun c v => ∃ y1 y2, Own c G (es true (RI .i32) y1 21 y2 r :: F) ∧ v = y1 ∧ OA (RI .i32) c y1 y2 r) := by
 unfold f_widen_Cluster_Text at H
 refine en func24 rfl rfl (sr (va (.slice none 0 0) (wln (W.seq (sr (va (v1) (vr (.bool p0.isNone) (by rcases (h2).cs with ⟨h1_, h2_⟩ | ⟨b_, h1_, h2_⟩ <;> (subst h1_; rw [h2_]; kernel_rfl)) (wln (cn H (fun h3 H => ?_) (fun h3 H => ?_))))))))))
 ·refine sr (va (.slice none 0 0) (wln (W.ret (thr ?_))))
  obtain rfl := si H
  have h5 : OA (RI .i32) c0 (.slice none 0 0) [] [] := OA.nil (Nat.succ_pos _)
  have O4 := O0.addHole (e := es true (RI .i32) (.slice none 0 0) 21 [] ([] : List Int)) rfl
  exact r1 ⟨_, c0, rfl, rfl, pt, (.slice none 0 0), [], O4, rfl, h5⟩
 refine W.skip (nrm (sr (va (v1) (bn H fun k_9 h8 H => ?_))))
 obtain ⟨b6, rfl, h7⟩ := (h2).get h8
 refine va (.pointer (some ⟨b6, 0, none⟩)) (va (.pointer (some ⟨b6, 4, none⟩)) (bn H fun o_11002 h9 H => ?_))
 have h10 := Rel.open_widen_Cluster R0 h9 h7
 have O11 := O0.borrow 0 h10 rfl
 refine bn H fun x_11 h13 H => cl (c_cluster_Cluster_Text__widen_Cluster_4 o_11002.text O11 h13) ?_
 rintro v14 c21 l21 ⟨_, u15, O18, rfl, h16⟩
 have O24 := O18.sD 2 [1, 0]
 have O23 := O24.giveB 0 rfl
 have O25 := Own.back O23 h10 rfl
 refine va (v14) (wln (W.ret ?_))
 obtain rfl := si H
 exact r1 ⟨_, c21, rfl, rfl, pt, v14, u15, O25, rfl, h16⟩
def f_linotyperef18_Of (p0 : G_api_Prop) : Option (Int) :=
 (iter (σ := Int) (τ := Int ⊕ Unit) (((([1, 2, 3, 4, 5, 10, 11] : List Int).length : Int) - 0).toNat + 1) (fun s_9 =>
 if (decide (s_9 < (([1, 2, 3, 4, 5, 10, 11] : List Int).length : Int))) = true then
 (idx ([1, 2, 3, 4, 5, 10, 11] : List Int) s_9).bind fun x_19 =>
 if (p0.Break == x_19) = true then
 some (.inr (.inl 0))
 else
 some (.inl ((w64 (s_9 + 1))))
 else
 some (.inr (.inr ()))) (0)).bind fun o_9 =>
 match o_9 with
 | .inl o_9 =>
 some o_9
 | .inr o_9 =>
 (orE (p0.East == 1) (some (p0.East == 2))).bind fun d_32 =>
 if d_32 = true then
 some 2
 else
 some 1
theorem c_linotyperef18_Of (O0 : Own c0 G F) (p0 : G_api_Prop) {r : Int} (H : f_linotyperef18_Of p0 = some r) :
    Calls Tryz.prog 156 #[.agg #[.int .i64 p0.Break, .bool p0.Pict, .int .i64 p0.Conj, .int .i64 p0.East]] c0.w (Post c0 fun c v => Own c G (F) ∧ v = .int .i64 r) := by
 unfold f_linotyperef18_Of at H
 refine en func156 rfl rfl (sr (me (bx 33 [.int .i64 p0.Break, .bool p0.Pict, .int .i64 p0.Conj, .int .i64 p0.East] O0) ?_))
 rintro v5 c4 l4 ⟨b1, rfl, O2, m3⟩
 refine va (.int .i64 0) (wln (sr (me (sl (RI .i64) 3 [[.int .i64 1], [.int .i64 2], [.int .i64 3], [.int .i64 4], [.int .i64 5], [.int .i64 10], [.int .i64 11]] ([1, 2, 3, 4, 5, 10, 11] : List Int) O2 ⟨rfl, rfl, rfl, rfl, rfl, rfl, rfl, trivial⟩) ?_)))
 rintro v10 c9 l9 ⟨u7, O6, h8⟩
 refine va (v10) (wln (W.seq (sr (va (.int .i64 0) (wln (W.block (bn H fun o_9 h11 H12 => lp h11 (fun s_9 => Jn c9 fun c l => Own c G (es true (RI .i64) v10 3 u7 ([1, 2, 3, 4, 5, 10, 11] : List Int) :: F) ∧ l = [(1, .pointer (some ⟨b1, 0, none⟩)), (3, v10), (4, .int .i64 s_9)]) (fun t => match t with | .inl x_ => (fun rr_ ex e w => ex = .ret ∧ (Jn c9 fun c l => Own c G (F) ∧ l = [(2, .int .i64 rr_)]) e w) x_ | .inr x_ => (fun o_9_ ex e w => ex = .exit 0 ∧ (Jn c9 fun c l => Own c G (es true (RI .i64) v10 3 u7 ([1, 2, 3, 4, 5, 10, 11] : List Int) :: F) ∧ l = [(1, .pointer (some ⟨b1, 0, none⟩))]) e w) x_) ?_ ?_ ?_)))))))
 ·clear H12 h11
  intro s_9 xx_ ee_ ww_ H
  revert ee_ ww_
  rintro e_ w_ ⟨c13, g14, _, rfl, l13, rfl, O15, rfl⟩
  refine W.seq (sr (va (.int .i64 s_9) (va (v10) (vx (lnO 3 underlying204 h8.m) (va (.bool (decide (s_9 < (([1, 2, 3, 4, 5, 10, 11] : List Int).length : Int)))) (wln (cn H (fun h19 H => ?_) (fun h19 H => ?_))))))))
  ·refine W.skip (nrm (W.seq (W.block (W.seq (rD [] (Kp G0 [es true (RI .i64) v10 3 u7 ([1, 2, 3, 4, 5, 10, 11] : List Int)]) O15 ?_)))))
   intro c20 l20 O21
   have p22 : Kp G0 [es true (RI .i64) v10 3 u7 ([1, 2, 3, 4, 5, 10, 11] : List Int)] c20 := (Kp.cons (O21.on 0 rfl) Kp.nil0)
   refine ta 0 (.pointer (some ⟨b1, 0, none⟩)) (tx 1 (fun c' hle => l1 underlying3 ((mm m3) 0 _ rfl)) (ta 2 (v10) (ta 3 (.int .i64 s_9) (bn H fun x_19 h23 H => tx 4 (fun c' hle => ixO underlying204 h8.m h23) ?_))))
   obtain ⟨l_24, h25, m26⟩ := OA.at (h8.mono (l13.trans l20)) h23
   obtain rfl := h25
   refine AC.takeK 5 (.int .i64 x_19) p22 rfl (by kernel_rfl) (by kernel_rfl) (by kernel_rfl) (fun c' hle hk => (rx (by kernel_rfl) (ldE1 underlying3 rfl (hk.on 0 rfl) (h8.m.blk h23) (at1 (j := 0) m26 rfl)))) (ta 6 (.bool (p0.Break == x_19)) (dn (nrm (cn H (fun h27 H => ?_) (fun h27 H => ?_)))))
   ·refine sr (va (.int .i64 0) (wln (W.ret (bkr (thr ?_)))))
    obtain rfl := si H
    refine ⟨_, rfl, ⟨rfl, ?_⟩⟩
    have O28 := O21.sD 1 []
    exact ⟨c20, _, _, rfl, pt, us, O28, rfl⟩
   refine W.skip (bkn (nrm (W.region (va (.int .i64 s_9) (va (.int .i64 (w64 (s_9 + 1))) (va (.int .i64 (w64 (s_9 + 1))) (WL.nil ?_)))))))
   obtain rfl := si H
   exact ⟨_, rfl, ⟨c20, _, _, rfl, pt, us, O21, rfl⟩⟩
  refine W.exit (thx ?_)
  obtain rfl := si H
  exact ⟨_, rfl, rfl, ⟨c13, _, _, rfl, pt, us, O15, rfl⟩⟩
 ·exact ⟨c9, _, _, rfl, pt, us, O6, rfl⟩
 rcases o_9 with o_9 | o_9
 ·intro ex_; revert ex_
  rintro _ e_ w_ ⟨rfl, c29, g30, _, rfl, l29, rfl, O31, rfl⟩
  refine bkr (thr ?_)
  obtain rfl := si H12
  exact r1 ⟨_, c29, rfl, rfl, pt, O31, rfl⟩
 rintro _ e_ w_ ⟨rfl, c35, g36, _, rfl, l35, rfl, O37, rfl⟩
 refine bke (nrm (W.seq (W.seq (bn H12 fun d_32 h41 H12 => W.join (Jn c35 fun c l => Own c G (es true (RI .i64) v10 3 u7 ([1, 2, 3, 4, 5, 10, 11] : List Int) :: F) ∧ l = [(26, .bool d_32)]) ?_ ?_))))
 ·clear H12
  refine W.region (va (.pointer (some ⟨b1, 0 + 3, none⟩)) (vx (l1 underlying3 ((mm m3) 3 _ rfl)) (va (.bool (p0.East == 1)) ?_)))
  rcases bo (p0.East == 1) with h42 | h42
  ·obtain rfl := orT h42 h41
   exact vb h42 (ps (ps (ps (va (.bool true) (wln ⟨c35, _, _, rfl, pt, us, O37, rfl⟩)))))
  have H43 := orF h42 h41
  refine vb h42 (wn (va (.pointer (some ⟨b1, 0 + 3, none⟩)) (wn (vx (l1 underlying3 ((mm m3) 3 _ rfl)) (wn (va (.bool (p0.East == 2)) ?_))))))
  obtain rfl := si H43
  exact va (.bool (p0.East == 2)) (wln ⟨c35, _, _, rfl, pt, us, O37, rfl⟩)
 rintro e_ w_ ⟨c44, g45, _, rfl, l44, rfl, O46, rfl⟩
 refine nrm (cn H12 (fun h50 H12 => ?_) (fun h50 H12 => ?_))
 ·refine sr (va (.int .i64 2) (wln (W.ret (thr ?_))))
  obtain rfl := si H12
  have O51 := O46.sD 1 []
  exact r1 ⟨_, c44, rfl, rfl, pt, O51, rfl⟩
 refine W.skip (nrm (sr (va (.int .i64 1) (wln (W.ret ?_)))))
 obtain rfl := si H12
 have O52 := O46.sD 1 []
 exact r1 ⟨_, c44, rfl, rfl, pt, O52, rfl⟩
def f_linotyperef19_Row (p0 : List Int) (p1 : List G_api_Prop) : Option (Int) :=
 (iter (σ := Int) (τ := Int ⊕ Unit) (((p0.length : Int) - 0).toNat + 1) (fun s_5 =>
 if (decide (s_5 < (p0.length : Int))) = true then
 (idx p1 s_5).bind fun x_13 =>
 (f_linotyperef18_Of x_13).bind fun x_15 =>
 (orE (x_15 == 2) ((andE (decide (s_5 > 0)) ((idx p0 s_5).bind fun x_25 =>
 (andE (x_25 == 65039) ((idx p1 (w64 (s_5 - 1))).bind fun x_33 =>
 some x_33.Pict)).bind fun d_28 =>
 (orE d_28 ((idx p1 s_5).bind fun x_40 =>
 some x_40.Pict)).bind fun d_36 =>
 (orE d_36 ((idx p1 s_5).bind fun x_47 =>
 some (x_47.Break == 6))).bind fun d_43 =>
 some d_43)).bind fun d_21 =>
 some d_21)).bind fun d_17 =>
 if d_17 = true then
 some (.inr (.inl 2))
 else
 some (.inl ((w64 (s_5 + 1))))
 else
 some (.inr (.inr ()))) (0)).bind fun o_5 =>
 match o_5 with
 | .inl o_5 =>
 some o_5
 | .inr o_5 =>
 some 1
theorem c_linotyperef19_Row (O0 : Own c0 G F) (p0 : List Int) (p1 : List G_api_Prop) {r : Int} (h2 : Sl (RI .i32) c0 v1 p0) (h4 : Sl R_api_Prop c0 v3 p1) (H : f_linotyperef19_Row p0 p1 = some r) :
    Calls Tryz.prog 87 #[v1, v3] c0.w (Post c0 fun c v => Own c G (F) ∧ v = .int .i64 r) := by
 unfold f_linotyperef19_Row at H
 refine en func87 rfl rfl (sr (va (.int .i64 0) (wln (W.seq (sr (va (.int .i64 0) (wln (W.block (bn H fun o_5 h5 H6 => lp h5 (fun s_5 => Jn c0 fun c l => Own c G (F) ∧ l = [(0, v1), (1, v3), (5, .int .i64 s_5)]) (fun t => match t with | .inl x_ => (fun rr_ ex e w => ex = .ret ∧ (Jn c0 fun c l => Own c G (F) ∧ l = [(4, .int .i64 rr_)]) e w) x_ | .inr x_ => (fun o_5_ ex e w => ex = .exit 0 ∧ (Jn c0 fun c l => Own c G (F) ∧ l = []) e w) x_) ?_ ?_ ?_)))))))))
 ·clear H6 h5
  intro s_5 xx_ ee_ ww_ H
  revert ee_ ww_
  rintro e_ w_ ⟨c7, g8, _, rfl, l7, rfl, O9, rfl⟩
  refine W.seq (sr (va (.int .i64 s_5) (va (v1) (vx (ln 3 underlying27 h2.m) (va (.bool (decide (s_5 < (p0.length : Int)))) (wln (cn H (fun h13 H => ?_) (fun h13 H => ?_))))))))
  ·refine W.skip (nrm (W.seq (W.block (W.seq (bn H fun x_13 h14 H => bn H fun x_15 h15 H => bn H fun d_17 h16 H => W.join (Jn c7 fun c l => Own c G (F) ∧ l = [(0, v1), (1, v3), (5, .int .i64 s_5), (51, .bool d_17)]) ?_ ?_)))))
   ·clear H
    refine W.region (va (v3) (va (.int .i64 s_5) ?_))
    obtain ⟨l_17, h18, m19⟩ := Sl.at (h4.mono l7) (idx_get h14)
    obtain rfl := h18
    refine vx (ix underlying28 h4.m h14) (vx (lN 33 m19) (cl (c_linotyperef18_Of O9 x_13 h15) ?_))
    rintro v25 c24 l24 ⟨O21, rfl⟩
    refine va (.bool (x_15 == 2)) ?_
    rcases bo (x_15 == 2) with h26 | h26
    ·obtain rfl := orT h26 h16
     exact vb h26 (ps (ps (ps (ps (ps (ps (ps (ps (ps (ps (ps (ps (ps (ps (ps (ps (ps (ps (ps (ps (ps (ps (ps (ps (ps (ps (ps (ps (ps (ps (ps (ps (va (.bool true) (wln ⟨c24, _, _, rfl, pt, us, O21, rfl⟩))))))))))))))))))))))))))))))))))
    have H27 := orF h26 h16
    refine vb h26 (wn (va (.int .i64 s_5) (wn (va (.bool (decide (s_5 > 0))) (wn (bn H27 fun d_21 h28 H27 => ?_))))))
    rcases bo (decide (s_5 > 0)) with h29 | h29
    ·have H30 := anT h29 h28
     refine vb h29 (wn (va (v1) (wn (va (.int .i64 s_5) (wn (bn H30 fun x_25 h31 H30 => ?_))))))
     obtain ⟨l_32, h33, m34⟩ := Sl.at (h2.mono (l7.trans l24)) (idx_get h31)
     obtain rfl := h33
     refine vx (ix underlying27 h2.m h31) (wn (vx (l1 underlying21 (m34 0 _ rfl)) (wn (va (.bool (x_25 == 65039)) (wn (bn H30 fun d_28 h35 H30 => ?_))))))
     rcases bo (x_25 == 65039) with h36 | h36
     ·have H37 := anT h36 h35
      refine vb h36 (wn (va (v3) (wn (va (.int .i64 s_5) (wn (va (.int .i64 (w64 (s_5 - 1))) (wn (bn H37 fun x_33 h38 H37 => ?_))))))))
      obtain ⟨l_39, h40, m41⟩ := Sl.at (h4.mono (l7.trans l24)) (idx_get h38)
      obtain rfl := h40
      refine vx (ix underlying28 h4.m h38) (wn (va (.pointer (some ⟨sb v3, so v3 + (w64 (s_5 - 1)).toNat * 4 + 1, none⟩)) (wn (vx (l1 underlying4 (m41 1 _ rfl)) (wn ?_)))))
      obtain rfl := si H37
      refine va (.bool x_33.Pict) (wn (bn H30 fun d_36 h42 H30 => ?_))
      rcases bo (x_33.Pict) with h43 | h43
      ·obtain rfl := orT h43 h42
       refine vb h43 (ps (ps (ps (ps (ps (wn (va (.bool true) (wn (bn H30 fun d_43 h44 H30 => ?_)))))))))
       have h45 : true = true := rfl
       obtain rfl := orT h45 h44
       refine vb h45 (ps (ps (ps (ps (ps (ps (wn (va (.bool true) (wn ?_)))))))))
       obtain rfl := si H30
       refine va (.bool true) ?_
       obtain rfl := si H27
       exact va (.bool true) (wln ⟨c24, _, _, rfl, pt, us, O21, rfl⟩)
      have H46 := orF h43 h42
      refine vb h43 (wn (va (v3) (wn (va (.int .i64 s_5) (wn (bn H46 fun x_40 h47 H46 => ?_))))))
      obtain ⟨l_48, h49, m50⟩ := Sl.at (h4.mono (l7.trans l24)) (idx_get h47)
      obtain rfl := h49
      refine vx (ix underlying28 h4.m h47) (wn (va (.pointer (some ⟨sb v3, so v3 + s_5.toNat * 4 + 1, none⟩)) (wn (vx (l1 underlying4 (m50 1 _ rfl)) (wn ?_)))))
      obtain rfl := si H46
      refine va (.bool x_40.Pict) (wn (bn H30 fun d_43 h51 H30 => ?_))
      rcases bo (x_40.Pict) with h52 | h52
      ·obtain rfl := orT h52 h51
       refine vb h52 (ps (ps (ps (ps (ps (ps (wn (va (.bool true) (wn ?_)))))))))
       obtain rfl := si H30
       refine va (.bool true) ?_
       obtain rfl := si H27
       exact va (.bool true) (wln ⟨c24, _, _, rfl, pt, us, O21, rfl⟩)
      have H53 := orF h52 h51
      refine vb h52 (wn (va (v3) (wn (va (.int .i64 s_5) (wn (bn H53 fun x_47 h54 H53 => ?_))))))
      obtain ⟨l_55, h56, m57⟩ := Sl.at (h4.mono (l7.trans l24)) (idx_get h54)
      obtain rfl := h56
      refine vx (ix underlying28 h4.m h54) (wn (va (.pointer (some ⟨sb v3, so v3 + s_5.toNat * 4, none⟩)) (wn (vx (l1 underlying3 (m57 0 _ rfl)) (wn (va (.bool (x_47.Break == 6)) (wn ?_)))))))
      obtain rfl := si H53
      refine va (.bool (x_47.Break == 6)) (wn ?_)
      obtain rfl := si H30
      refine va (.bool (x_47.Break == 6)) ?_
      obtain rfl := si H27
      exact va (.bool (x_47.Break == 6)) (wln ⟨c24, _, _, rfl, pt, us, O21, rfl⟩)
     obtain rfl := anF h36 h35
     refine vb h36 (ps (ps (ps (ps (ps (ps (wn (va (.bool false) (wn (bn H30 fun d_36 h58 H30 => ?_))))))))))
     have h59 : false = false := rfl
     have H60 := orF h59 h58
     refine vb h59 (wn (va (v3) (wn (va (.int .i64 s_5) (wn (bn H60 fun x_40 h61 H60 => ?_))))))
     obtain ⟨l_62, h63, m64⟩ := Sl.at (h4.mono (l7.trans l24)) (idx_get h61)
     obtain rfl := h63
     refine vx (ix underlying28 h4.m h61) (wn (va (.pointer (some ⟨sb v3, so v3 + s_5.toNat * 4 + 1, none⟩)) (wn (vx (l1 underlying4 (m64 1 _ rfl)) (wn ?_)))))
     obtain rfl := si H60
     refine va (.bool x_40.Pict) (wn (bn H30 fun d_43 h65 H30 => ?_))
     rcases bo (x_40.Pict) with h66 | h66
     ·obtain rfl := orT h66 h65
      refine vb h66 (ps (ps (ps (ps (ps (ps (wn (va (.bool true) (wn ?_)))))))))
      obtain rfl := si H30
      refine va (.bool true) ?_
      obtain rfl := si H27
      exact va (.bool true) (wln ⟨c24, _, _, rfl, pt, us, O21, rfl⟩)
     have H67 := orF h66 h65
     refine vb h66 (wn (va (v3) (wn (va (.int .i64 s_5) (wn (bn H67 fun x_47 h68 H67 => ?_))))))
     obtain ⟨l_69, h70, m71⟩ := Sl.at (h4.mono (l7.trans l24)) (idx_get h68)
     obtain rfl := h70
     refine vx (ix underlying28 h4.m h68) (wn (va (.pointer (some ⟨sb v3, so v3 + s_5.toNat * 4, none⟩)) (wn (vx (l1 underlying3 (m71 0 _ rfl)) (wn (va (.bool (x_47.Break == 6)) (wn ?_)))))))
     obtain rfl := si H67
     refine va (.bool (x_47.Break == 6)) (wn ?_)
     obtain rfl := si H30
     refine va (.bool (x_47.Break == 6)) ?_
     obtain rfl := si H27
     exact va (.bool (x_47.Break == 6)) (wln ⟨c24, _, _, rfl, pt, us, O21, rfl⟩)
    obtain rfl := anF h29 h28
    refine vb h29 (ps (ps (ps (ps (ps (ps (ps (ps (ps (ps (ps (ps (ps (ps (ps (ps (ps (ps (ps (ps (ps (ps (ps (ps (ps (ps (ps (ps (wn (va (.bool false) ?_))))))))))))))))))))))))))))))
    obtain rfl := si H27
    exact va (.bool false) (wln ⟨c24, _, _, rfl, pt, us, O21, rfl⟩)
   rintro e_ w_ ⟨c72, g73, _, rfl, l72, rfl, O74, rfl⟩
   refine nrm (cn H (fun h78 H => ?_) (fun h78 H => ?_))
   ·refine sr (va (.int .i64 2) (wln (W.ret (bkr (thr ?_)))))
    obtain rfl := si H
    exact ⟨_, rfl, ⟨rfl, ⟨c72, _, _, rfl, pt, us, O74, rfl⟩⟩⟩
   refine W.skip (bkn (nrm (W.region (va (.int .i64 s_5) (va (.int .i64 (w64 (s_5 + 1))) (va (.int .i64 (w64 (s_5 + 1))) (WL.nil ?_)))))))
   obtain rfl := si H
   exact ⟨_, rfl, ⟨c72, _, _, rfl, pt, us, O74, rfl⟩⟩
  refine W.exit (thx ?_)
  obtain rfl := si H
  exact ⟨_, rfl, rfl, ⟨c7, _, _, rfl, pt, us, O9, rfl⟩⟩
 ·exact ⟨c0, _, _, rfl, pt, us, O0, rfl⟩
 rcases o_5 with o_5 | o_5
 ·intro ex_; revert ex_
  rintro _ e_ w_ ⟨rfl, c79, g80, _, rfl, l79, rfl, O81, rfl⟩
  refine bkr (thr ?_)
  obtain rfl := si H6
  exact r1 ⟨_, c79, rfl, rfl, pt, O81, rfl⟩
 rintro _ e_ w_ ⟨rfl, c85, g86, _, rfl, l85, rfl, O87, rfl⟩
 refine bke (nrm (sr (va (.int .i64 1) (wln (W.ret ?_)))))
 obtain rfl := si H6
 exact r1 ⟨_, c85, rfl, rfl, pt, O87, rfl⟩
def f_linotyperef35_Put (p0 : G_linotyperef34_Pen) (p1 : List Int) (p2 : List G_api_Prop) : Option (G_linotyperef34_Pen × G_api_Cursor × Int × (List Int)) :=
 (iter (σ := (List Int) × Int) (τ := (List Int)) (((imin (p1.length : Int) 16) - 0).toNat + 1) (fun s_16 =>
 if (decide (s_16.2 < (imin (p1.length : Int) 16))) = true then
 ((idx p1 s_16.2).bind fun x_24 =>
 (f_linotyperef01_Valid x_24).bind fun x_26 =>
 if x_26 = true then
 (idx p1 s_16.2).bind fun x_31 =>
 (app s_16.1 ([x_31] : List Int)).bind fun x_34 =>
 (some (x_34) : Option ((List Int)))
 else
 (app s_16.1 ([65533] : List Int)).bind fun x_39 =>
 (some (x_39) : Option ((List Int)))).bind fun z_21 =>
 some (.inl (z_21, (w64 (s_16.2 + 1))))
 else
 some (.inr (s_16.1))) (([] : List Int), 0)).bind fun o_16 =>
 (slc p2 0 (imin (p1.length : Int) 16)).bind fun x_49 =>
 (f_linotyperef19_Row o_16 x_49).bind fun x_50 =>
 (f_linotyperef34_Pen_Put p0 x_50 o_16).bind fun x_56 =>
 some (x_56.1, x_56.2, x_50, o_16)
theorem c_linotyperef35_Put (O0 : Own c0 G F) (p0 : G_linotyperef34_Pen) (p1 : List Int) (p2 : List G_api_Prop) {r : G_linotyperef34_Pen × G_api_Cursor × Int × (List Int)} (h2 : Sl R_api_Line c0 v1 p0.L) (h4 : Sl (RI .i32) c0 v3 p1) (h6 : Sl R_api_Prop c0 v5 p2) (H : f_linotyperef35_Put p0 p1 p2 = some r) :
    Calls Tryz.prog 19 #[.agg #[v1, .int .i64 p0.At.Row, .int .i64 p0.At.Col, .bool p0.At.Pending, .bool p0.Auto], v3, v5] c0.w (Post c0 fun c v => ∃ y1 y2 y3, Own c G (es true R_api_Line y1 71 y2 r.1.L :: F) ∧ v = .tuple #[.agg #[y1, .int .i64 r.1.At.Row, .int .i64 r.1.At.Col, .bool r.1.At.Pending, .bool r.1.Auto], .agg #[.int .i64 r.2.1.Row, .int .i64 r.2.1.Col, .bool r.2.1.Pending], .int .i64 r.2.2.1, y3] ∧ OA R_api_Line c y1 y2 r.1.L ∧ Sl (RI .i32) c y3 r.2.2.2) := by
 unfold f_linotyperef35_Put at H
 refine en func19 rfl rfl (sr ?_)
 obtain ⟨a7, a8, a9, rfl⟩ := (h2).form
 refine me (bx 43 [.slice a7 a8 a9, .int .i64 p0.At.Row, .int .i64 p0.At.Col, .bool p0.At.Pending, .bool p0.Auto] O0) ?_
 rintro v14 c13 l13 ⟨b10, rfl, O11, m12⟩
 refine me (al 43 [.slice none 0 0, .int .i64 0, .int .i64 0, .bool false, .bool false] O11) ?_
 rintro v18 c17 l17 ⟨b15, rfl, O16⟩
 refine me (al 24 [.int .i64 0, .int .i64 0, .bool false] O16) ?_
 rintro v22 c21 l21 ⟨b19, rfl, O20⟩
 refine va (.int .i64 0) (va (.slice none 0 0) (wln (sr (va (v3) (vx (ln 3 underlying27 h4.m) (va (.int .i64 (imin (p1.length : Int) 16)) (va (.int .i64 (imin (p1.length : Int) 16)) (wln (sr (va (.slice none 0 0) (wln (W.seq (sr (va (.int .i64 0) (wln (W.block (bn H fun o_16 h23 H24 => lp h23 (fun s_16 => Jn c21 fun c l => ∃ v25 u26, Own c G (es true (RI .i32) v25 21 u26 s_16.1 :: ⟨.pointer (some ⟨b19, 0, none⟩), 24, [.int .i64 0, .int .i64 0, .bool false], 0⟩ :: ⟨.pointer (some ⟨b15, 0, none⟩), 43, [.slice none 0 0, .int .i64 0, .int .i64 0, .bool false, .bool false], 0⟩ :: F) ∧ l = [(1, v3), (2, v5), (3, .pointer (some ⟨b10, 0, none⟩)), (6, .pointer (some ⟨b15, 0, none⟩)), (7, .pointer (some ⟨b19, 0, none⟩)), (10, .int .i64 (imin (p1.length : Int) 16)), (11, v25), (12, .int .i64 s_16.2)] ∧ OA (RI .i32) c v25 u26 s_16.1) (fun o_16_ ex e w => ex = .exit 0 ∧ (Jn c21 fun c l => ∃ v27 u28, Own c G (es true (RI .i32) v27 21 u28 o_16_ :: ⟨.pointer (some ⟨b19, 0, none⟩), 24, [.int .i64 0, .int .i64 0, .bool false], 0⟩ :: ⟨.pointer (some ⟨b15, 0, none⟩), 43, [.slice none 0 0, .int .i64 0, .int .i64 0, .bool false, .bool false], 0⟩ :: F) ∧ l = [(2, v5), (3, .pointer (some ⟨b10, 0, none⟩)), (6, .pointer (some ⟨b15, 0, none⟩)), (7, .pointer (some ⟨b19, 0, none⟩)), (10, .int .i64 (imin (p1.length : Int) 16)), (11, v27)] ∧ OA (RI .i32) c v27 u28 o_16_) e w) ?_ ?_ ?_)))))))))))))))))
 ·clear H24 h23
  intro s_16 xx_ ee_ ww_ H
  revert ee_ ww_
  rintro e_ w_ ⟨c29, g30, _, rfl, l29, rfl, v25, u26, O31, rfl, h32⟩
  refine W.seq (sr (va (.int .i64 s_16.2) (va (.int .i64 (imin (p1.length : Int) 16)) (va (.bool (decide (s_16.2 < (imin (p1.length : Int) 16)))) (wln (cn H (fun h36 H => ?_) (fun h36 H => ?_)))))))
  ·refine W.skip (nrm (bn H fun z_21 H37 H38 => W.seqJ (Jn c29 fun c l => ∃ v39 u40, Own c G (es true (RI .i32) v39 21 u40 z_21 :: ⟨.pointer (some ⟨b19, 0, none⟩), 24, [.int .i64 0, .int .i64 0, .bool false], 0⟩ :: ⟨.pointer (some ⟨b15, 0, none⟩), 43, [.slice none 0 0, .int .i64 0, .int .i64 0, .bool false, .bool false], 0⟩ :: F) ∧ l = [(1, v3), (2, v5), (3, .pointer (some ⟨b10, 0, none⟩)), (6, .pointer (some ⟨b15, 0, none⟩)), (7, .pointer (some ⟨b19, 0, none⟩)), (10, .int .i64 (imin (p1.length : Int) 16)), (11, v39), (12, .int .i64 s_16.2)] ∧ OA (RI .i32) c v39 u40 z_21) ?_ ?_))
   ·refine W.block (sr (va (v3) (va (.int .i64 s_16.2) (bn H37 fun x_24 h41 H37 => ?_))))
    obtain ⟨l_42, h43, m44⟩ := Sl.at (h4.mono (l13.trans (l17.trans (l21.trans l29)))) (idx_get h41)
    obtain rfl := h43
    refine vx (ix underlying27 h4.m h41) (vx (l1 underlying21 (m44 0 _ rfl)) (bn H37 fun x_26 h45 H37 => cl (c_linotyperef01_Valid O31 x_24 h45) ?_))
    rintro v51 c50 l50 ⟨O47, rfl⟩
    refine wln (cn H37 (fun h52 H37 => ?_) (fun h52 H37 => ?_))
    ·refine W.region (va (v25) (va (v3) (va (.int .i64 s_16.2) (bn H37 fun x_31 h53 H37 => ?_))))
     obtain ⟨l_54, h55, m56⟩ := Sl.at (h4.mono (l13.trans (l17.trans (l21.trans (l29.trans l50))))) (idx_get h53)
     obtain rfl := h55
     refine vx (ix underlying27 h4.m h53) (vx (l1 underlying21 (m56 0 _ rfl)) (me (sl (RI .i32) 21 [[.int .i32 x_31]] ([x_31] : List Int) O47 ⟨rfl, trivial⟩) ?_))
     rintro v61 c60 l60 ⟨u58, O57, h59⟩
     obtain ⟨c64, h65, l64, O62, h63⟩ := O57.frz 0 rfl h59
     refine WL.gh h65 (bn H37 fun x_34 h66 H37 => me (ap (RI .i32) (.int .i32 0) 4 27 1 O62 h32.m h63 h66 underlying27) ?_)
     rintro v71 c70 l70 ⟨u68, O67, h69⟩
     refine va (v71) (WL.nil (bkn (nrm ?_)))
     obtain rfl := si H37
     have O72 := O67.sD 4 [1, 2, 3]
     exact ⟨c70, _, _, rfl, pt, us, v71, u68, O72, rfl, h69⟩
    refine W.region (va (v25) (me (sl (RI .i32) 21 [[.int .i32 65533]] ([65533] : List Int) O47 ⟨rfl, trivial⟩) ?_))
    rintro v77 c76 l76 ⟨u74, O73, h75⟩
    obtain ⟨c80, h81, l80, O78, h79⟩ := O73.frz 0 rfl h75
    refine WL.gh h81 (bn H37 fun x_39 h82 H37 => me (ap (RI .i32) (.int .i32 0) 4 27 1 O78 h32.m h79 h82 underlying27) ?_)
    rintro v87 c86 l86 ⟨u84, O83, h85⟩
    refine va (v87) (WL.nil (bkn (nrm ?_)))
    obtain rfl := si H37
    have O88 := O83.sD 4 [1, 2, 3]
    exact ⟨c86, _, _, rfl, pt, us, v87, u84, O88, rfl, h85⟩
   rintro e_ w_ ⟨c89, g90, _, rfl, l89, rfl, v39, u40, O91, rfl, h92⟩
   refine W.region (va (.int .i64 s_16.2) (va (.int .i64 (w64 (s_16.2 + 1))) (va (.int .i64 (w64 (s_16.2 + 1))) (WL.nil ?_))))
   obtain rfl := si H38
   exact ⟨_, rfl, ⟨c89, _, _, rfl, pt, us, v39, u40, O91, rfl, h92⟩⟩
  refine W.exit (thx ?_)
  obtain rfl := si H
  exact ⟨_, rfl, rfl, ⟨c29, _, _, rfl, pt, us, v25, u26, O31, rfl, h32⟩⟩
 ·have h97 : OA (RI .i32) c21 (.slice none 0 0) [] [] := OA.nil (Nat.succ_pos _)
  have O96 := O20.addHole (e := es true (RI .i32) (.slice none 0 0) 21 [] ([] : List Int)) rfl
  exact ⟨c21, _, _, rfl, pt, us, (.slice none 0 0), [], O96, rfl, h97⟩
 rintro _ e_ w_ ⟨rfl, c98, g99, _, rfl, l98, rfl, v27, u28, O100, rfl, h101⟩
 refine bke (nrm (sr (va (v27) (va (v5) (va (.int .i64 (imin (p1.length : Int) 16)) (bn H24 fun x_49 h105 H24 => ?_))))))
 obtain ⟨v106, h107, h108⟩ := run_cutH (k' := .i64) underlying28 (by kernel_rfl) (h6.mono (l13.trans (l17.trans (l21.trans l98)))) h105
 refine vr v106 (rx (by kernel_rfl) (h107 _)) ?_
 obtain ⟨c111, h112, l111, O109, h110⟩ := O100.frz 0 rfl h101
 refine WL.gh h112 (bn H24 fun x_50 h113 H24 => cl (c_linotyperef19_Row O109 o_16 x_49 h110 h108.m h113) ?_)
 rintro v119 c118 l118 ⟨O115, rfl⟩
 refine va (.int .i64 x_50) (wln (sr (vx (lN 43 (mm m12)) (va (.int .i64 x_50) (va (v27) ?_)))))
 have h120 := O115.slf 0 rfl (h101.mono (l111.trans l118))
 refine bn H24 fun x_56 h121 H24 => cl (c_linotyperef34_Pen_Put O115 p0 x_50 o_16 h2.m h120 h121) ?_
 rintro v130 c129 l129 ⟨v122, u123, O126, rfl, h124⟩
 refine va (.tuple #[.agg #[v122, .int .i64 x_56.1.At.Row, .int .i64 x_56.1.At.Col, .bool x_56.1.At.Pending, .bool x_56.1.Auto], .agg #[.int .i64 x_56.2.Row, .int .i64 x_56.2.Col, .bool x_56.2.Pending]]) (va (.agg #[v122, .int .i64 x_56.1.At.Row, .int .i64 x_56.1.At.Col, .bool x_56.1.At.Pending, .bool x_56.1.Auto]) (va (.agg #[.int .i64 x_56.2.Row, .int .i64 x_56.2.Col, .bool x_56.2.Pending]) (me (al 43 [.slice none 0 0, .int .i64 0, .int .i64 0, .bool false, .bool false] O126) ?_)))
 rintro v134 c133 l133 ⟨b131, rfl, O132⟩
 refine me (al 24 [.int .i64 0, .int .i64 0, .bool false] O132) ?_
 rintro v138 c137 l137 ⟨b135, rfl, O136⟩
 obtain ⟨a139, a140, a141, rfl⟩ := ((h124.mono (l133.trans l137))).form
 refine md (sA 43 [.slice a139 a140 a141, .int .i64 x_56.1.At.Row, .int .i64 x_56.1.At.Col, .bool x_56.1.At.Pending, .bool x_56.1.Auto] 1 O136 ⟨h124.m.one, rfl, rfl, rfl, rfl, trivial⟩) ?_
 rintro c143 l143 O142
 refine md (sA 24 [.int .i64 x_56.2.Row, .int .i64 x_56.2.Col, .bool x_56.2.Pending] 0 O142 ⟨rfl, rfl, rfl, trivial⟩) ?_
 rintro c145 l145 O144
 refine wln (W.seq (rD [] (Kp G0 [⟨.pointer (some ⟨b131, 0, none⟩), 43, [.slice a139 a140 a141, .int .i64 x_56.1.At.Row, .int .i64 x_56.1.At.Col, .bool x_56.1.At.Pending, .bool x_56.1.Auto], 0⟩, ⟨.pointer (some ⟨b135, 0, none⟩), 24, [.int .i64 x_56.2.Row, .int .i64 x_56.2.Col, .bool x_56.2.Pending], 0⟩]) O144 ?_))
 intro c146 l146 O147
 have p148 : Kp G0 [⟨.pointer (some ⟨b131, 0, none⟩), 43, [.slice a139 a140 a141, .int .i64 x_56.1.At.Row, .int .i64 x_56.1.At.Col, .bool x_56.1.At.Pending, .bool x_56.1.Auto], 0⟩, ⟨.pointer (some ⟨b135, 0, none⟩), 24, [.int .i64 x_56.2.Row, .int .i64 x_56.2.Col, .bool x_56.2.Pending], 0⟩] c146 := (Kp.cons (O147.on 1 rfl) (Kp.cons (O147.on 0 rfl) Kp.nil0))
 refine tkx 0 p148 (fun c' hle hk => leN 43 0 [.slice a139 a140 a141, .int .i64 x_56.1.At.Row, .int .i64 x_56.1.At.Col, .bool x_56.1.At.Pending, .bool x_56.1.Auto] (hk.on 0 rfl)) (tkx 1 p148 (fun c' hle hk => leN 24 0 [.int .i64 x_56.2.Row, .int .i64 x_56.2.Col, .bool x_56.2.Pending] (hk.on 1 rfl)) (ta 2 (.int .i64 x_50) (ta 3 (v27) (o1 4 (gD 4 (sA 43 [.slice a139 a140 a141, .int .i64 x_56.1.At.Row, .int .i64 x_56.1.At.Col, .bool x_56.1.At.Pending, .bool x_56.1.Auto] 5 O147 ⟨h124.m.one, rfl, rfl, rfl, rfl, trivial⟩) ?_)))))
 rintro c150 l150 O149
 have p151 : Kp G0 [⟨.pointer (some ⟨b131, 0, none⟩), 43, [.slice a139 a140 a141, .int .i64 x_56.1.At.Row, .int .i64 x_56.1.At.Col, .bool x_56.1.At.Pending, .bool x_56.1.Auto], 0⟩, ⟨.pointer (some ⟨b135, 0, none⟩), 24, [.int .i64 x_56.2.Row, .int .i64 x_56.2.Col, .bool x_56.2.Pending], 0⟩] c150 := (Kp.cons (O149.on 1 rfl) (Kp.cons (O149.on 0 rfl) Kp.nil0))
 refine ⟨.inr p151, o1 5 (gD 5 (sA 24 [.int .i64 x_56.2.Row, .int .i64 x_56.2.Col, .bool x_56.2.Pending] 4 O149 ⟨rfl, rfl, rfl, trivial⟩) ?_)⟩
 rintro c153 l153 O152
 have p154 : Kp G0 [⟨.pointer (some ⟨b131, 0, none⟩), 43, [.slice a139 a140 a141, .int .i64 x_56.1.At.Row, .int .i64 x_56.1.At.Col, .bool x_56.1.At.Pending, .bool x_56.1.Auto], 0⟩, ⟨.pointer (some ⟨b135, 0, none⟩), 24, [.int .i64 x_56.2.Row, .int .i64 x_56.2.Col, .bool x_56.2.Pending], 0⟩] c153 := (Kp.cons (O152.on 1 rfl) (Kp.cons (O152.on 0 rfl) Kp.nil0))
 refine ⟨.inr p154, ta 6 (.int .i64 x_50) (ta 7 (v27) (dn (nrm (W.ret ?_))))⟩
 obtain rfl := si H24
 have h155 := O152.slf 3 rfl (h101.mono (l111.trans (l118.trans (l129.trans (l133.trans (l137.trans (l143.trans (l145.trans (l146.trans (l150.trans l153))))))))))
 have O156 := O152.sD 6 [2]
 exact retCCTT (c := c153) (vs := [.slice a139 a140 a141, .int .i64 x_56.1.At.Row, .int .i64 x_56.1.At.Col, .bool x_56.1.At.Pending, .bool x_56.1.Auto]) (vs' := [.int .i64 x_56.2.Row, .int .i64 x_56.2.Col, .bool x_56.2.Pending]) (v3 := .int .i64 x_50) (v4 := v27) rfl (by kernel_rfl) (by kernel_rfl) (by kernel_rfl) (O152.on 5 rfl _ rfl).1 (by kernel_rfl) (by kernel_rfl) (by kernel_rfl) (O152.on 4 rfl _ rfl).1 (by kernel_rfl) (by kernel_rfl) ⟨_, c153, rfl, rfl, pt, (.slice a139 a140 a141), u123, v27, O156, rfl, h124.m, h155⟩
def f_linotypelaw35_works (sg : Sto) : Option (Sto × Bool) :=
 (f_place_New sg 2 2).bind fun x_3 =>
 if x_3.2.isNone = true then
 some (x_3.1, false)
 else
 (f_place_Pen_Put x_3.1 x_3.2 1 ([97] : List Int)).bind fun x_13 =>
 (f_linotyperef13_Of 10084).bind fun x_16 =>
 (f_widen_Begin x_13.1 x_3.2 10084 x_16).bind fun x_17 =>
 (f_widen_Cluster_At x_17.1 x_17.2).bind fun x_21 =>
 (if (x_21.Row == 0 && (x_21.Col == 1 && (x_21.Pending == false && true))) = true then (f_linotyperef13_Of 65039).bind fun x_28 =>
 (f_widen_Cluster_Join x_17.1 x_17.2 x_3.2 65039 x_28).bind fun x_29 =>
 some (x_29.2, x_29.1) else some (false, x_17.1)).bind fun d_24 =>
 (andE d_24.1 ((f_widen_Cluster_At d_24.2 x_17.2).bind fun x_33 =>
 some (x_33.Row == 1 && (x_33.Col == 0 && (x_33.Pending == false && true))))).bind fun d_30 =>
 (andE d_30 ((x_3.2).bind fun k_39 =>
 (d_24.2.place_Pen[k_39]?).bind fun o_41 =>
 (f_grid_Grid_Row d_24.2 o_41.G 0).bind fun x_42 =>
 (f_row_Row_Wrap d_24.2 x_42).bind fun x_43 =>
 some x_43)).bind fun d_36 =>
 (andE d_36 ((f_widen_Cluster_Wide d_24.2 x_17.2).bind fun x_47 =>
 some (x_47 == 2))).bind fun d_44 =>
 some (d_24.2, d_44)
theorem c_linotypelaw35_works (O0 : Own c0 G F) (R0 : Rel c0 sg G) (hG : Gl [0, 4] c0) {r : Sto × Bool} (H : f_linotypelaw35_works sg = some r) :
    Calls Tryz.prog 14 #[] c0.w (Post c0 fun c v => ∃ G_ : Gm, Own c G_ (F) ∧ Rel c r.1 G_ ∧ v = .bool r.2) := by
 unfold f_linotypelaw35_works at H
 refine en func14 rfl rfl (sr (va (.bool false) (wln (sr (bn H fun x_3 h1 H => cl (c_place_New O0 R0 2 2 h1) ?_)))))
 rintro v2 c8 l8 ⟨_, G4, O5, R6, a7, rfl, h3⟩
 refine va (v2) (wln (W.seq (sr (va (v2) (vr (.bool x_3.2.isNone) (by rcases (h3).cs with ⟨h1_, h2_⟩ | ⟨b_, h1_, h2_⟩ <;> (subst h1_; rw [h2_]; kernel_rfl)) (wln (cn H (fun h10 H => ?_) (fun h10 H => ?_))))))))
 ·refine sr (va (.bool false) (wln (W.ret (thr ?_))))
  obtain rfl := si H
  exact r1 ⟨_, c8, rfl, rfl, pt, G4, O5, R6, rfl⟩
 refine W.skip (nrm (sr (va (v2) (me (sl (RI .i32) 21 [[.int .i32 97]] ([97] : List Int) O5 ⟨rfl, trivial⟩) ?_))))
 rintro v15 c14 l14 ⟨u12, O11, h13⟩
 obtain ⟨c18, h19, l18, O16, h17⟩ := O11.frz 0 rfl h13
 refine WL.gh h19 (bn H fun x_13 h20 H => cl (c_place_Pen_Put O16 R6.m (hG.m.le (by decide)) x_3.2 1 ([97] : List Int) h3.m h17 h20) ?_)
 rintro v26 c25 l25 ⟨G21, O22, R23, rfl⟩
 refine wln (sr (va (v2) (bn H fun x_16 h27 H => cl (c_linotyperef13_Of O22 10084 h27) ?_)))
 rintro v33 c32 l32 ⟨O29, rfl⟩
 refine bn H fun x_17 h34 H => cl (c_widen_Begin O29 R23.m (hG.m.le (by decide)) x_3.2 10084 x_16 h3.m h34) ?_
 rintro v35 c41 l41 ⟨_, G37, O38, R39, rfl, h36⟩
 refine va (v35) (wln (W.seq (bn H fun x_21 h43 H => bn H fun d_24 h44 H => bn H fun d_30 h45 H => bn H fun d_36 h46 H => bn H fun d_44 h47 H => W.join (Jn c41 fun c l => ∃ G_, Own c G_ (es false (RI .i32) v15 21 u12 ([97] : List Int) :: F) ∧ l = [(0, .bool d_44)] ∧ Rel c d_24.2 G_) ?_ ?_)))
 ·clear H
  refine W.region (va (v35) (cl (c_widen_Cluster_At O38 R39 x_17.2 h36 h43) ?_))
  rintro v53 c52 l52 ⟨O49, rfl⟩
  refine va (.agg #[.int .i64 0, .int .i64 1, .bool false]) (vr (.bool (x_21.Row == 0 && (x_21.Col == 1 && (x_21.Pending == false && true)))) (run_eqlA (T := 24) (xs := #[.int .i64 x_21.Row, .int .i64 x_21.Col, .bool x_21.Pending]) (ys := #[.int .i64 0, .int .i64 1, .bool false]) (r := (x_21.Row == 0 && (x_21.Col == 1 && (x_21.Pending == false && true)))) underlying24 (by kernel_rfl) (by kernel_rfl) (EqP.int (by kernel_rfl) underlying3 rfl rfl (EqP.int (by kernel_rfl) underlying3 rfl rfl (EqP.bool (by kernel_rfl) underlying4 rfl rfl EqP.nil))) (by kernel_rfl) _) ?_)
  rcases bo ((x_21.Row == 0 && (x_21.Col == 1 && (x_21.Pending == false && true)))) with h54 | h54
  ·have H55 := it h54 h44
   refine vb h54 (wn (va (v35) (wn (va (v2) (wn (bn H55 fun x_28 h56 H55 => cl (c_linotyperef13_Of O49 65039 h56) ?_))))))
   rintro v62 c61 l61 ⟨O58, rfl⟩
   refine wn (bn H55 fun x_29 h63 H55 => cl (c_widen_Cluster_Join O58 R39.m (hG.m.le (by decide)) x_17.2 x_3.2 65039 x_28 h36.m h3.m h63) ?_)
   rintro v69 c68 l68 ⟨G64, O65, R66, rfl⟩
   obtain rfl := si H55
   refine va (.bool x_29.2) ?_
   rcases bo (x_29.2) with h70 | h70
   ·have H71 := anT h70 h45
    refine vb h70 (wn (va (v35) (wn (bn H71 fun x_33 h72 H71 => cl (c_widen_Cluster_At O65 R66 x_17.2 h36.m h72) ?_))))
    rintro v78 c77 l77 ⟨O74, rfl⟩
    refine wn (va (.agg #[.int .i64 1, .int .i64 0, .bool false]) (wn (vr (.bool (x_33.Row == 1 && (x_33.Col == 0 && (x_33.Pending == false && true)))) (run_eqlA (T := 24) (xs := #[.int .i64 x_33.Row, .int .i64 x_33.Col, .bool x_33.Pending]) (ys := #[.int .i64 1, .int .i64 0, .bool false]) (r := (x_33.Row == 1 && (x_33.Col == 0 && (x_33.Pending == false && true)))) underlying24 (by kernel_rfl) (by kernel_rfl) (EqP.int (by kernel_rfl) underlying3 rfl rfl (EqP.int (by kernel_rfl) underlying3 rfl rfl (EqP.bool (by kernel_rfl) underlying4 rfl rfl EqP.nil))) (by kernel_rfl) _) ?_)))
    obtain rfl := si H71
    refine va (.bool (x_33.Row == 1 && (x_33.Col == 0 && (x_33.Pending == false && true)))) ?_
    rcases bo ((x_33.Row == 1 && (x_33.Col == 0 && (x_33.Pending == false && true)))) with h79 | h79
    ·have H80 := anT h79 h46
     refine vb h79 (wn (va (v2) (wn (bn H80 fun k_39 h83 H80 => ?_))))
     obtain ⟨b81, rfl, h82⟩ := ((h3.mono (l14.trans (l18.trans (l25.trans (l32.trans (l41.trans (l52.trans (l61.trans (l68.trans l77)))))))))).get h83
     refine va (.pointer (some ⟨b81, 0, none⟩)) (wn (va (.pointer (some ⟨b81, 0, none⟩)) (wn (bn H80 fun o_41 h84 H80 => ?_))))
     obtain ⟨v85, h87, h86⟩ := Rel.open_place_Pen (R66.mono l77) h84 h82
     refine vx (le1 0 underlying35 (O74.gon h87 0 rfl)) (wn (bn H80 fun x_42 h88 H80 => cl (c_grid_Grid_Row O74 R66.m o_41.G 0 h86 h88) ?_))
     rintro v89 c95 l95 ⟨_, O92, rfl, h90⟩
     refine wn (bn H80 fun x_43 h97 H80 => cl (c_row_Row_Wrap O92 R66.m x_42 h90 h97) ?_)
     rintro v103 c102 l102 ⟨O99, rfl⟩
     obtain rfl := si H80
     refine va (.bool x_43) ?_
     rcases bo (x_43) with h104 | h104
     ·have H105 := anT h104 h47
      refine vb h104 (wn (va (v35) (wn (bn H105 fun x_47 h106 H105 => cl (c_widen_Cluster_Wide O99 R66.m x_17.2 h36.m h106) ?_))))
      rintro v112 c111 l111 ⟨O108, rfl⟩
      refine wn (va (.bool (x_47 == 2)) ?_)
      obtain rfl := si H105
      exact va (.bool (x_47 == 2)) (va (.bool (x_47 == 2)) (wln ⟨c111, _, _, rfl, pt, us, G64, O108, rfl, R66.m⟩))
     obtain rfl := anF h104 h47
     exact vb h104 (ps (ps (ps (va (.bool false) (va (.bool false) (wln ⟨c102, _, _, rfl, pt, us, G64, O99, rfl, R66.m⟩))))))
    obtain rfl := anF h79 h46
    refine vb h79 (ps (ps (ps (ps (ps (ps (va (.bool false) ?_)))))))
    have h113 : false = false := rfl
    obtain rfl := anF h113 h47
    exact vb h113 (ps (ps (ps (va (.bool false) (va (.bool false) (wln ⟨c77, _, _, rfl, pt, us, G64, O74, rfl, R66.m⟩))))))
   obtain rfl := anF h70 h45
   refine vb h70 (ps (ps (ps (ps (va (.bool false) ?_)))))
   have h114 : false = false := rfl
   obtain rfl := anF h114 h46
   refine vb h114 (ps (ps (ps (ps (ps (ps (va (.bool false) ?_)))))))
   have h115 : false = false := rfl
   obtain rfl := anF h115 h47
   exact vb h115 (ps (ps (ps (va (.bool false) (va (.bool false) (wln ⟨c68, _, _, rfl, pt, us, G64, O65, rfl, R66⟩))))))
  obtain rfl := Option.some.inj (ie h54 h44)
  refine vb h54 (ps (ps (ps (ps (va (.bool false) ?_)))))
  have h116 : false = false := rfl
  obtain rfl := anF h116 h45
  refine vb h116 (ps (ps (ps (ps (va (.bool false) ?_)))))
  have h117 : false = false := rfl
  obtain rfl := anF h117 h46
  refine vb h117 (ps (ps (ps (ps (ps (ps (va (.bool false) ?_)))))))
  have h118 : false = false := rfl
  obtain rfl := anF h118 h47
  exact vb h118 (ps (ps (ps (va (.bool false) (va (.bool false) (wln ⟨c52, _, _, rfl, pt, us, G37, O49, rfl, R39.m⟩))))))
 rintro e_ w_ ⟨c119, g120, _, rfl, l119, rfl, G122, O121, rfl, R123⟩
 refine nrm (W.ret ?_)
 obtain rfl := si H
 have O125 := O121.sD 1 []
 exact r1 ⟨_, c119, rfl, rfl, pt, G122, O125, R123, rfl⟩

end Go.Proofs.YthokmpbbkpjhbaaGreatDoor
