import Derived.Test.YtohpkblleihmaaaDoorMo
import Derived.Test.YtohpkblleihmaaaDoorProg
import Derived.Test.YtohpkblleihmaaaDoorMy
import Derived.Test.YtohpkblleihmaaaDoorMz
import Derived.Test.YtohpkblleihmaaaDoorA1
import Derived.Test.YtohpkblleihmaaaDoorG1
import Derived.Test.YtohpkblleihmaaaDoorM1
import Derived.Test.YtohpkblleihmaaaDoorN1
import Derived.Test.YtohpkblleihmaaaDoorW0
namespace Go.Proofs.YtohpkblleihmaaaDoor
open Go Go.Lt
set_option maxRecDepth 10000
set_option linter.unusedVariables false
attribute [local irreducible] W WL AC
def f_cluster_Cluster_Len__widen_Cluster_4 (p0 : G_cluster_Cluster) : Option (Int) :=
  if false = true then
  some 0
  else
  some p0.n
theorem c_cluster_Cluster_Len__widen_Cluster_4 {c0 : Cx} {G : Gm} {F : List En} {b0_ : Nat} {r0_0 : Value} {r0_1 : Value} {r0_2 : Value} {r0_3 : Value} {r0_21 : Value} {r0_22 : Value} {r0_23 : Value} (p0 : G_cluster_Cluster) (O0 : Own c0 G (⟨.pointer (some ⟨b0_, 0, none⟩), 206, [r0_0, r0_1, r0_2, r0_3, .int .i32 p0.text.1, .int .i32 p0.text.2.1, .int .i32 p0.text.2.2.1, .int .i32 p0.text.2.2.2.1, .int .i32 p0.text.2.2.2.2.1, .int .i32 p0.text.2.2.2.2.2.1, .int .i32 p0.text.2.2.2.2.2.2.1, .int .i32 p0.text.2.2.2.2.2.2.2.1, .int .i32 p0.text.2.2.2.2.2.2.2.2.1, .int .i32 p0.text.2.2.2.2.2.2.2.2.2.1, .int .i32 p0.text.2.2.2.2.2.2.2.2.2.2.1, .int .i32 p0.text.2.2.2.2.2.2.2.2.2.2.2.1, .int .i32 p0.text.2.2.2.2.2.2.2.2.2.2.2.2.1, .int .i32 p0.text.2.2.2.2.2.2.2.2.2.2.2.2.2.1, .int .i32 p0.text.2.2.2.2.2.2.2.2.2.2.2.2.2.2.1, .int .i32 p0.text.2.2.2.2.2.2.2.2.2.2.2.2.2.2.2, .int .i64 p0.n, r0_21, r0_22, r0_23], 0⟩ :: F)) {r : Int} (H : f_cluster_Cluster_Len__widen_Cluster_4 p0 = some r) :
    Calls Tryd.prog 177 #[.pointer (some ⟨b0_, 4, none⟩)] c0.w (Post c0 fun c v => Own c G (⟨.pointer (some ⟨b0_, 0, none⟩), 206, [r0_0, r0_1, r0_2, r0_3, .int .i32 p0.text.1, .int .i32 p0.text.2.1, .int .i32 p0.text.2.2.1, .int .i32 p0.text.2.2.2.1, .int .i32 p0.text.2.2.2.2.1, .int .i32 p0.text.2.2.2.2.2.1, .int .i32 p0.text.2.2.2.2.2.2.1, .int .i32 p0.text.2.2.2.2.2.2.2.1, .int .i32 p0.text.2.2.2.2.2.2.2.2.1, .int .i32 p0.text.2.2.2.2.2.2.2.2.2.1, .int .i32 p0.text.2.2.2.2.2.2.2.2.2.2.1, .int .i32 p0.text.2.2.2.2.2.2.2.2.2.2.2.1, .int .i32 p0.text.2.2.2.2.2.2.2.2.2.2.2.2.1, .int .i32 p0.text.2.2.2.2.2.2.2.2.2.2.2.2.2.1, .int .i32 p0.text.2.2.2.2.2.2.2.2.2.2.2.2.2.2.1, .int .i32 p0.text.2.2.2.2.2.2.2.2.2.2.2.2.2.2.2, .int .i64 p0.n, r0_21, r0_22, r0_23], 0⟩ :: F) ∧ v = .int .i64 r) := by
  unfold f_cluster_Cluster_Len__widen_Cluster_4 at H
  refine enter (l := [.pointer (some ⟨b0_, 4, none⟩)]) Tryd.func177 rfl rfl rfl ?_
  refine sr ?_
  refine va (.int .i64 0) ?_
  refine wln ?_
  refine W.seq ?_
  refine sr ?_
  refine va (.pointer (some ⟨b0_, 4, none⟩)) ?_
  refine va (.bool false) ?_
  refine wln ?_
  refine W.cond (t := false) (by kernel_rfl) (fun h1 => ?_) (fun h1 => ?_)
  · cases h1
  · have H := ie h1 H
    refine W.skip ?_
    refine nrm ?_
    refine sr ?_
    refine va (.pointer (some ⟨b0_, 4, none⟩)) ?_
    refine va (.pointer (some ⟨b0_, 4, none⟩)) ?_
    refine va (.pointer (some ⟨b0_, 20, none⟩)) ?_
    refine WL.val0 (v := .int .i64 p0.n) rfl (rx (by kernel_rfl) (ldE1 (j := 20) Tryd.underlying3 rfl (O0.on 0 rfl) rfl rfl)) ?_
    refine va (.int .i64 p0.n) ?_
    refine wln ?_
    refine W.ret ?_
    obtain rfl := Option.some.inj H
    exact ret1 (v := .int .i64 p0.n) rfl (by kernel_rfl) ⟨_, c0, rfl, rfl, Cx.le.refl _, O0, rfl⟩

def f_cluster_Cluster_Full__widen_Cluster_4 (p0 : G_cluster_Cluster) : Option (Bool) :=
  (f_cluster_Cluster_Len__widen_Cluster_4 p0).bind fun x_4 =>
  some (x_4 == 16)
theorem c_cluster_Cluster_Full__widen_Cluster_4 {c0 : Cx} {G : Gm} {F : List En} {b0_ : Nat} {r0_0 : Value} {r0_1 : Value} {r0_2 : Value} {r0_3 : Value} {r0_21 : Value} {r0_22 : Value} {r0_23 : Value} (p0 : G_cluster_Cluster) (O0 : Own c0 G (⟨.pointer (some ⟨b0_, 0, none⟩), 206, [r0_0, r0_1, r0_2, r0_3, .int .i32 p0.text.1, .int .i32 p0.text.2.1, .int .i32 p0.text.2.2.1, .int .i32 p0.text.2.2.2.1, .int .i32 p0.text.2.2.2.2.1, .int .i32 p0.text.2.2.2.2.2.1, .int .i32 p0.text.2.2.2.2.2.2.1, .int .i32 p0.text.2.2.2.2.2.2.2.1, .int .i32 p0.text.2.2.2.2.2.2.2.2.1, .int .i32 p0.text.2.2.2.2.2.2.2.2.2.1, .int .i32 p0.text.2.2.2.2.2.2.2.2.2.2.1, .int .i32 p0.text.2.2.2.2.2.2.2.2.2.2.2.1, .int .i32 p0.text.2.2.2.2.2.2.2.2.2.2.2.2.1, .int .i32 p0.text.2.2.2.2.2.2.2.2.2.2.2.2.2.1, .int .i32 p0.text.2.2.2.2.2.2.2.2.2.2.2.2.2.2.1, .int .i32 p0.text.2.2.2.2.2.2.2.2.2.2.2.2.2.2.2, .int .i64 p0.n, r0_21, r0_22, r0_23], 0⟩ :: F)) {r : Bool} (H : f_cluster_Cluster_Full__widen_Cluster_4 p0 = some r) :
    Calls Tryd.prog 154 #[.pointer (some ⟨b0_, 4, none⟩)] c0.w (Post c0 fun c v => Own c G (⟨.pointer (some ⟨b0_, 0, none⟩), 206, [r0_0, r0_1, r0_2, r0_3, .int .i32 p0.text.1, .int .i32 p0.text.2.1, .int .i32 p0.text.2.2.1, .int .i32 p0.text.2.2.2.1, .int .i32 p0.text.2.2.2.2.1, .int .i32 p0.text.2.2.2.2.2.1, .int .i32 p0.text.2.2.2.2.2.2.1, .int .i32 p0.text.2.2.2.2.2.2.2.1, .int .i32 p0.text.2.2.2.2.2.2.2.2.1, .int .i32 p0.text.2.2.2.2.2.2.2.2.2.1, .int .i32 p0.text.2.2.2.2.2.2.2.2.2.2.1, .int .i32 p0.text.2.2.2.2.2.2.2.2.2.2.2.1, .int .i32 p0.text.2.2.2.2.2.2.2.2.2.2.2.2.1, .int .i32 p0.text.2.2.2.2.2.2.2.2.2.2.2.2.2.1, .int .i32 p0.text.2.2.2.2.2.2.2.2.2.2.2.2.2.2.1, .int .i32 p0.text.2.2.2.2.2.2.2.2.2.2.2.2.2.2.2, .int .i64 p0.n, r0_21, r0_22, r0_23], 0⟩ :: F) ∧ v = .bool r) := by
  unfold f_cluster_Cluster_Full__widen_Cluster_4 at H
  refine enter (l := [.pointer (some ⟨b0_, 4, none⟩)]) Tryd.func154 rfl rfl rfl ?_
  refine sr ?_
  refine va (.bool false) ?_
  refine wln ?_
  refine sr ?_
  refine va (.pointer (some ⟨b0_, 4, none⟩)) ?_
  obtain ⟨x_4, h2, H⟩ := bs H
  refine WL.callP rfl (by kernel_rfl) (c_cluster_Cluster_Len__widen_Cluster_4 p0 O0 h2) ?_
  rintro v8 c7 l7 ⟨O4, rfl⟩
  refine va (.bool (x_4 == 16)) ?_
  refine va (.bool (x_4 == 16)) ?_
  refine wln ?_
  refine W.ret ?_
  obtain rfl := Option.some.inj H
  exact ret1 (v := .bool (x_4 == 16)) rfl (by kernel_rfl) ⟨_, c7, rfl, rfl, l7, O4, rfl⟩

def f_cluster_Cluster_Add__widen_Cluster_4 (p0 : G_cluster_Cluster) (p1 : Int) : Option (G_cluster_Cluster × Bool) :=
  (orE false ((f_cluster_Cluster_Full__widen_Cluster_4 p0).bind fun x_8 =>
  some x_8)).bind fun d_5 =>
  if d_5 = true then
  some (p0, false)
  else
  (idx (a16 p0.text) p0.n).bind fun x_20 =>
  (some (aset16 p0.text p0.n p1)).bind fun y_21 =>
  some ((⟨y_21, (w64 (p0.n + 1))⟩ : G_cluster_Cluster), true)
theorem c_cluster_Cluster_Add__widen_Cluster_4 {c0 : Cx} {G : Gm} {F : List En} {b0_ : Nat} {r0_0 : Value} {r0_1 : Value} {r0_2 : Value} {r0_3 : Value} {r0_21 : Value} {r0_22 : Value} {r0_23 : Value} (p0 : G_cluster_Cluster) (p1 : Int) (O0 : Own c0 G (⟨.pointer (some ⟨b0_, 0, none⟩), 206, [r0_0, r0_1, r0_2, r0_3, .int .i32 p0.text.1, .int .i32 p0.text.2.1, .int .i32 p0.text.2.2.1, .int .i32 p0.text.2.2.2.1, .int .i32 p0.text.2.2.2.2.1, .int .i32 p0.text.2.2.2.2.2.1, .int .i32 p0.text.2.2.2.2.2.2.1, .int .i32 p0.text.2.2.2.2.2.2.2.1, .int .i32 p0.text.2.2.2.2.2.2.2.2.1, .int .i32 p0.text.2.2.2.2.2.2.2.2.2.1, .int .i32 p0.text.2.2.2.2.2.2.2.2.2.2.1, .int .i32 p0.text.2.2.2.2.2.2.2.2.2.2.2.1, .int .i32 p0.text.2.2.2.2.2.2.2.2.2.2.2.2.1, .int .i32 p0.text.2.2.2.2.2.2.2.2.2.2.2.2.2.1, .int .i32 p0.text.2.2.2.2.2.2.2.2.2.2.2.2.2.2.1, .int .i32 p0.text.2.2.2.2.2.2.2.2.2.2.2.2.2.2.2, .int .i64 p0.n, r0_21, r0_22, r0_23], 0⟩ :: F)) {r : G_cluster_Cluster × Bool} (H : f_cluster_Cluster_Add__widen_Cluster_4 p0 p1 = some r) :
    Calls Tryd.prog 175 #[.pointer (some ⟨b0_, 4, none⟩), .int .i32 p1] c0.w (Post c0 fun c v => Own c G (⟨.pointer (some ⟨b0_, 0, none⟩), 206, [r0_0, r0_1, r0_2, r0_3, .int .i32 r.1.text.1, .int .i32 r.1.text.2.1, .int .i32 r.1.text.2.2.1, .int .i32 r.1.text.2.2.2.1, .int .i32 r.1.text.2.2.2.2.1, .int .i32 r.1.text.2.2.2.2.2.1, .int .i32 r.1.text.2.2.2.2.2.2.1, .int .i32 r.1.text.2.2.2.2.2.2.2.1, .int .i32 r.1.text.2.2.2.2.2.2.2.2.1, .int .i32 r.1.text.2.2.2.2.2.2.2.2.2.1, .int .i32 r.1.text.2.2.2.2.2.2.2.2.2.2.1, .int .i32 r.1.text.2.2.2.2.2.2.2.2.2.2.2.1, .int .i32 r.1.text.2.2.2.2.2.2.2.2.2.2.2.2.1, .int .i32 r.1.text.2.2.2.2.2.2.2.2.2.2.2.2.2.1, .int .i32 r.1.text.2.2.2.2.2.2.2.2.2.2.2.2.2.2.1, .int .i32 r.1.text.2.2.2.2.2.2.2.2.2.2.2.2.2.2.2, .int .i64 r.1.n, r0_21, r0_22, r0_23], 0⟩ :: F) ∧ v = .bool r.2) := by
  unfold f_cluster_Cluster_Add__widen_Cluster_4 at H
  refine enter (l := [.pointer (some ⟨b0_, 4, none⟩), .int .i32 p1]) Tryd.func175 rfl rfl rfl ?_
  refine sr ?_
  refine va (.bool false) ?_
  refine wln ?_
  refine W.seq ?_
  refine W.seq ?_
  obtain ⟨d_5, h1, H⟩ := bs H
  refine W.join (fun e w => ∃ (c : Cx) (g : Nat → Value), w = c.w ∧ c0.le c ∧ Own c G (⟨.pointer (some ⟨b0_, 0, none⟩), 206, [r0_0, r0_1, r0_2, r0_3, .int .i32 p0.text.1, .int .i32 p0.text.2.1, .int .i32 p0.text.2.2.1, .int .i32 p0.text.2.2.2.1, .int .i32 p0.text.2.2.2.2.1, .int .i32 p0.text.2.2.2.2.2.1, .int .i32 p0.text.2.2.2.2.2.2.1, .int .i32 p0.text.2.2.2.2.2.2.2.1, .int .i32 p0.text.2.2.2.2.2.2.2.2.1, .int .i32 p0.text.2.2.2.2.2.2.2.2.2.1, .int .i32 p0.text.2.2.2.2.2.2.2.2.2.2.1, .int .i32 p0.text.2.2.2.2.2.2.2.2.2.2.2.1, .int .i32 p0.text.2.2.2.2.2.2.2.2.2.2.2.2.1, .int .i32 p0.text.2.2.2.2.2.2.2.2.2.2.2.2.2.1, .int .i32 p0.text.2.2.2.2.2.2.2.2.2.2.2.2.2.2.1, .int .i32 p0.text.2.2.2.2.2.2.2.2.2.2.2.2.2.2.2, .int .i64 p0.n, r0_21, r0_22, r0_23], 0⟩ :: F) ∧ e = ups g [(0, .pointer (some ⟨b0_, 4, none⟩)), (1, .int .i32 p1), (10, .bool d_5)]) ?_ ?_
  · clear H
    refine W.region ?_
    refine va (.pointer (some ⟨b0_, 4, none⟩)) ?_
    refine va (.bool false) ?_
    have h2 : false = false := rfl
    have H3 := orF h2 h1
    refine vb h2 ?_
    refine wn ?_
    refine va (.pointer (some ⟨b0_, 4, none⟩)) ?_
    refine wn ?_
    obtain ⟨x_8, h5, H3⟩ := bs H3
    refine WL.callP rfl (by kernel_rfl) (c_cluster_Cluster_Full__widen_Cluster_4 p0 O0 h5) ?_
    rintro v11 c10 l10 ⟨O7, rfl⟩
    obtain rfl := Option.some.inj H3
    refine va (.bool x_8) ?_
    refine wln ?_
    exact ⟨c10, _, rfl, l10, O7, ups_self ⟨rfl, rfl, rfl, trivial⟩⟩
  · skip
    rintro e_ w_ ⟨c12, g13, rfl, l12, O14, rfl⟩
    refine nrm ?_
    refine W.cond (t := d_5) (by kernel_rfl) (fun h18 => ?_) (fun h18 => ?_)
    · have H := it h18 H
      refine sr ?_
      refine va (.bool false) ?_
      refine wln ?_
      refine W.ret ?_
      refine thr ?_
      obtain rfl := Option.some.inj H
      exact ret1 (v := .bool false) rfl (by kernel_rfl) ⟨_, c12, rfl, rfl, l12, O14, rfl⟩
    · have H := ie h18 H
      refine W.skip ?_
      refine nrm ?_
      refine W.seq ?_
      refine W.regionD [9] (Kp G0 [⟨.pointer (some ⟨b0_, 0, none⟩), 206, [r0_0, r0_1, r0_2, r0_3, .int .i32 p0.text.1, .int .i32 p0.text.2.1, .int .i32 p0.text.2.2.1, .int .i32 p0.text.2.2.2.1, .int .i32 p0.text.2.2.2.2.1, .int .i32 p0.text.2.2.2.2.2.1, .int .i32 p0.text.2.2.2.2.2.2.1, .int .i32 p0.text.2.2.2.2.2.2.2.1, .int .i32 p0.text.2.2.2.2.2.2.2.2.1, .int .i32 p0.text.2.2.2.2.2.2.2.2.2.1, .int .i32 p0.text.2.2.2.2.2.2.2.2.2.2.1, .int .i32 p0.text.2.2.2.2.2.2.2.2.2.2.2.1, .int .i32 p0.text.2.2.2.2.2.2.2.2.2.2.2.2.1, .int .i32 p0.text.2.2.2.2.2.2.2.2.2.2.2.2.2.1, .int .i32 p0.text.2.2.2.2.2.2.2.2.2.2.2.2.2.2.1, .int .i32 p0.text.2.2.2.2.2.2.2.2.2.2.2.2.2.2.2, .int .i64 p0.n, r0_21, r0_22, r0_23], 0⟩]) O14 (by kernel_rfl) ?_
      intro c19 l19 O20
      have p21 : Kp G0 [⟨.pointer (some ⟨b0_, 0, none⟩), 206, [r0_0, r0_1, r0_2, r0_3, .int .i32 p0.text.1, .int .i32 p0.text.2.1, .int .i32 p0.text.2.2.1, .int .i32 p0.text.2.2.2.1, .int .i32 p0.text.2.2.2.2.1, .int .i32 p0.text.2.2.2.2.2.1, .int .i32 p0.text.2.2.2.2.2.2.1, .int .i32 p0.text.2.2.2.2.2.2.2.1, .int .i32 p0.text.2.2.2.2.2.2.2.2.1, .int .i32 p0.text.2.2.2.2.2.2.2.2.2.1, .int .i32 p0.text.2.2.2.2.2.2.2.2.2.2.1, .int .i32 p0.text.2.2.2.2.2.2.2.2.2.2.2.1, .int .i32 p0.text.2.2.2.2.2.2.2.2.2.2.2.2.1, .int .i32 p0.text.2.2.2.2.2.2.2.2.2.2.2.2.2.1, .int .i32 p0.text.2.2.2.2.2.2.2.2.2.2.2.2.2.2.1, .int .i32 p0.text.2.2.2.2.2.2.2.2.2.2.2.2.2.2.2, .int .i64 p0.n, r0_21, r0_22, r0_23], 0⟩] c19 := (Kp.cons (O20.on 0 rfl) Kp.nil0)
      refine ta 0 (.pointer (some ⟨b0_, 4, none⟩)) ?_
      refine ta 1 (.pointer (some ⟨b0_, 4, none⟩)) ?_
      refine ta 2 (.pointer (some ⟨b0_, 4, none⟩)) ?_
      refine ta 3 (.pointer (some ⟨b0_, 20, none⟩)) ?_
      refine AC.takeK 4 (.int .i64 p0.n) p21 rfl (by kernel_rfl) (by kernel_rfl) (by kernel_rfl) (fun c' hle hk => (rx (by kernel_rfl) (ldE1 (j := 20) Tryd.underlying3 rfl (hk.on 0 rfl) rfl rfl))) ?_
      refine ta 5 (.int .i32 p1) ?_
      refine ta 6 (.pointer (some ⟨b0_, 4, none⟩)) ?_
      refine ta 7 (.pointer (some ⟨b0_, 4, none⟩)) ?_
      obtain ⟨x_20, h22, H⟩ := bs H
      refine AC.take 8 (.pointer (some ⟨b0_, 4 + p0.n.toNat * 1, none⟩)) rfl (by kernel_rfl) (by kernel_rfl) (fun c' hle => (rx (by kernel_rfl) (run_indexA (k := .i64) Tryd.underlying200 (by kernel_rfl) (idx_lt h22).1 (idx_lt h22).2 _))) ?_
      obtain ⟨y_21, h23, H⟩ := bs H
      refine AC.one 9 (by kernel_rfl) (Go1.memD 9 rfl (by kernel_rfl) (by kernel_rfl) (Own.st (T := 21) (j := 4 + p0.n.toNat * 1) (us := [.int .i32 p1]) (nw := [r0_0, r0_1, r0_2, r0_3, .int .i32 y_21.1, .int .i32 y_21.2.1, .int .i32 y_21.2.2.1, .int .i32 y_21.2.2.2.1, .int .i32 y_21.2.2.2.2.1, .int .i32 y_21.2.2.2.2.2.1, .int .i32 y_21.2.2.2.2.2.2.1, .int .i32 y_21.2.2.2.2.2.2.2.1, .int .i32 y_21.2.2.2.2.2.2.2.2.1, .int .i32 y_21.2.2.2.2.2.2.2.2.2.1, .int .i32 y_21.2.2.2.2.2.2.2.2.2.2.1, .int .i32 y_21.2.2.2.2.2.2.2.2.2.2.2.1, .int .i32 y_21.2.2.2.2.2.2.2.2.2.2.2.2.1, .int .i32 y_21.2.2.2.2.2.2.2.2.2.2.2.2.2.1, .int .i32 y_21.2.2.2.2.2.2.2.2.2.2.2.2.2.2.1, .int .i32 y_21.2.2.2.2.2.2.2.2.2.2.2.2.2.2.2, .int .i64 p0.n, r0_21, r0_22, r0_23]) (v := .int .i32 p1) 0 O20 (by kernel_rfl) rfl rfl rfl rfl (by kernel_rfl) ⟨rfl, trivial⟩ (ble16 h22 (Nat.le_of_ble_eq_true rfl)) (set16 (k := .i32) h22 h23 [r0_0, r0_1, r0_2, r0_3] [.int .i64 p0.n, r0_21, r0_22, r0_23])) ?_)
      rintro c25 l25 O24
      refine ⟨.inl rfl, ?_⟩
      refine AC.done (by kernel_rfl) ?_
      refine nrm ?_
      refine sr ?_
      refine va (.pointer (some ⟨b0_, 4, none⟩)) ?_
      refine va (.pointer (some ⟨b0_, 4, none⟩)) ?_
      refine va (.pointer (some ⟨b0_, 20, none⟩)) ?_
      refine WL.val0 (v := .int .i64 p0.n) rfl (rx (by kernel_rfl) (ldE1 (j := 20) Tryd.underlying3 rfl (O24.on 0 rfl) rfl rfl)) ?_
      refine va (.int .i64 (w64 (p0.n + 1))) ?_
      refine va (.pointer (some ⟨b0_, 4, none⟩)) ?_
      refine va (.pointer (some ⟨b0_, 20, none⟩)) ?_
      refine WL.memD rfl (Own.st (T := 3) (j := 20) (us := [.int .i64 (w64 (p0.n + 1))]) (nw := [r0_0, r0_1, r0_2, r0_3, .int .i32 y_21.1, .int .i32 y_21.2.1, .int .i32 y_21.2.2.1, .int .i32 y_21.2.2.2.1, .int .i32 y_21.2.2.2.2.1, .int .i32 y_21.2.2.2.2.2.1, .int .i32 y_21.2.2.2.2.2.2.1, .int .i32 y_21.2.2.2.2.2.2.2.1, .int .i32 y_21.2.2.2.2.2.2.2.2.1, .int .i32 y_21.2.2.2.2.2.2.2.2.2.1, .int .i32 y_21.2.2.2.2.2.2.2.2.2.2.1, .int .i32 y_21.2.2.2.2.2.2.2.2.2.2.2.1, .int .i32 y_21.2.2.2.2.2.2.2.2.2.2.2.2.1, .int .i32 y_21.2.2.2.2.2.2.2.2.2.2.2.2.2.1, .int .i32 y_21.2.2.2.2.2.2.2.2.2.2.2.2.2.2.1, .int .i32 y_21.2.2.2.2.2.2.2.2.2.2.2.2.2.2.2, .int .i64 (w64 (p0.n + 1)), r0_21, r0_22, r0_23]) (v := .int .i64 (w64 (p0.n + 1))) 0 O24 (by kernel_rfl) rfl rfl rfl rfl (by kernel_rfl) ⟨rfl, trivial⟩ rfl rfl) ?_
      rintro c27 l27 O26
      refine wln ?_
      refine sr ?_
      refine va (.bool true) ?_
      refine wln ?_
      refine W.ret ?_
      obtain rfl := Option.some.inj H
      exact ret1 (v := .bool true) rfl (by kernel_rfl) ⟨_, c27, rfl, rfl, (l12.trans (l19.trans (l25.trans l27))), O26, rfl⟩

def f_basew_none (p0 : Int) : Option (Bool) :=
  (if (p0 == 1) = true then
  (some (p0 == 1) : Option (Bool))
  else
  if (p0 == 2) = true then
  (some (p0 == 2) : Option (Bool))
  else
  (some (p0 == 3) : Option (Bool))).bind fun z_7 =>
  if z_7 = true then
  some true
  else
  (if (p0 == 4) = true then
  (some (p0 == 4) : Option (Bool))
  else
  (some (p0 == 5) : Option (Bool))).bind fun z_17 =>
  if z_17 = true then
  some true
  else
  (if (p0 == 10) = true then
  (some (p0 == 10) : Option (Bool))
  else
  (some (p0 == 11) : Option (Bool))).bind fun z_24 =>
  if z_24 = true then
  some true
  else
  some false
theorem c_basew_none {c0 : Cx} {G : Gm} {F : List En} (O0 : Own c0 G F) (p0 : Int) {r : Bool} (H : f_basew_none p0 = some r) :
    Calls Tryd.prog 208 #[.int .i64 p0] c0.w (Post c0 fun c v => Own c G (F) ∧ v = .bool r) := by
  unfold f_basew_none at H
  refine enter (l := [.int .i64 p0]) Tryd.func208 rfl rfl rfl ?_
  refine sr ?_
  refine va (.bool false) ?_
  refine wln ?_
  refine W.seq ?_
  refine sr ?_
  refine va (.int .i64 p0) ?_
  refine wln ?_
  refine W.block ?_
  refine W.seq ?_
  refine W.block ?_
  refine W.block ?_
  refine W.block ?_
  refine W.seq ?_
  refine W.seq ?_
  obtain ⟨z_7, H1, H2⟩ := bs H
  refine W.seqJ (fun e w => ∃ (c : Cx) (g : Nat → Value), w = c.w ∧ c0.le c ∧ Own c G (F) ∧ e = ups g [(3, .int .i64 p0), (4, .bool z_7)]) ?_ ?_
  · skip
    refine sr ?_
    refine va (.bool (p0 == 1)) ?_
    refine va (.bool (p0 == 1)) ?_
    refine wln ?_
    refine W.cond (t := p0 == 1) (by kernel_rfl) (fun h3 => ?_) (fun h3 => ?_)
    · have H1 := it h3 H1
      refine W.skip ?_
      refine nrm ?_
      obtain rfl := Option.some.inj H1
      exact ⟨c0, _, rfl, (Cx.le.refl _), O0, ups_self ⟨rfl, rfl, trivial⟩⟩
    · have H1 := ie h3 H1
      refine sr ?_
      refine va (.bool (p0 == 2)) ?_
      refine va (.bool (p0 == 2)) ?_
      refine wln ?_
      refine W.cond (t := p0 == 2) (by kernel_rfl) (fun h4 => ?_) (fun h4 => ?_)
      · have H1 := it h4 H1
        refine W.skip ?_
        refine nrm ?_
        obtain rfl := Option.some.inj H1
        exact ⟨c0, _, rfl, (Cx.le.refl _), O0, ups_self ⟨rfl, rfl, trivial⟩⟩
      · have H1 := ie h4 H1
        refine W.region ?_
        refine va (.bool (p0 == 3)) ?_
        refine va (.bool (p0 == 3)) ?_
        refine wln ?_
        obtain rfl := Option.some.inj H1
        exact ⟨c0, _, rfl, (Cx.le.refl _), O0, ups_self ⟨rfl, rfl, trivial⟩⟩
  · skip
    rintro e_ w_ ⟨c5, g6, rfl, l5, O7, rfl⟩
    refine W.cond (t := z_7) (by kernel_rfl) (fun h11 => ?_) (fun h11 => ?_)
    · have H2 := it h11 H2
      refine W.exit ?_
      refine thx ?_
      refine thx ?_
      refine bke ?_
      refine bkn ?_
      refine bkn ?_
      refine nrm ?_
      refine W.seq ?_
      refine sr ?_
      refine va (.bool true) ?_
      refine wln ?_
      refine W.ret ?_
      refine thr ?_
      refine bkr ?_
      refine thr ?_
      obtain rfl := Option.some.inj H2
      exact ret1 (v := .bool true) rfl (by kernel_rfl) ⟨_, c5, rfl, rfl, l5, O7, rfl⟩
    · have H2 := ie h11 H2
      refine W.skip ?_
      refine nrm ?_
      refine W.seq ?_
      obtain ⟨z_17, H12, H13⟩ := bs H2
      refine W.seqJ (fun e w => ∃ (c : Cx) (g : Nat → Value), w = c.w ∧ c5.le c ∧ Own c G (F) ∧ e = ups g [(3, .int .i64 p0), (8, .bool z_17)]) ?_ ?_
      · skip
        refine sr ?_
        refine va (.bool (p0 == 4)) ?_
        refine va (.bool (p0 == 4)) ?_
        refine wln ?_
        refine W.cond (t := p0 == 4) (by kernel_rfl) (fun h14 => ?_) (fun h14 => ?_)
        · have H12 := it h14 H12
          refine W.skip ?_
          refine nrm ?_
          obtain rfl := Option.some.inj H12
          exact ⟨c5, _, rfl, (Cx.le.refl _), O7, ups_self ⟨rfl, rfl, trivial⟩⟩
        · have H12 := ie h14 H12
          refine W.region ?_
          refine va (.bool (p0 == 5)) ?_
          refine va (.bool (p0 == 5)) ?_
          refine wln ?_
          obtain rfl := Option.some.inj H12
          exact ⟨c5, _, rfl, (Cx.le.refl _), O7, ups_self ⟨rfl, rfl, trivial⟩⟩
      · skip
        rintro e_ w_ ⟨c15, g16, rfl, l15, O17, rfl⟩
        refine W.cond (t := z_17) (by kernel_rfl) (fun h21 => ?_) (fun h21 => ?_)
        · have H13 := it h21 H13
          refine W.exit ?_
          refine thx ?_
          refine thx ?_
          refine bko rfl ?_
          refine bke ?_
          refine bkn ?_
          refine nrm ?_
          refine W.seq ?_
          refine sr ?_
          refine va (.bool true) ?_
          refine wln ?_
          refine W.ret ?_
          refine thr ?_
          refine bkr ?_
          refine thr ?_
          obtain rfl := Option.some.inj H13
          exact ret1 (v := .bool true) rfl (by kernel_rfl) ⟨_, c15, rfl, rfl, (l5.trans l15), O17, rfl⟩
        · have H13 := ie h21 H13
          refine W.skip ?_
          refine nrm ?_
          obtain ⟨z_24, H22, H23⟩ := bs H13
          refine W.seqJ (fun e w => ∃ (c : Cx) (g : Nat → Value), w = c.w ∧ c15.le c ∧ Own c G (F) ∧ e = ups g [(11, .bool z_24)]) ?_ ?_
          · skip
            refine sr ?_
            refine va (.bool (p0 == 10)) ?_
            refine va (.bool (p0 == 10)) ?_
            refine wln ?_
            refine W.cond (t := p0 == 10) (by kernel_rfl) (fun h24 => ?_) (fun h24 => ?_)
            · have H22 := it h24 H22
              refine W.skip ?_
              refine nrm ?_
              obtain rfl := Option.some.inj H22
              exact ⟨c15, _, rfl, (Cx.le.refl _), O17, ups_self ⟨rfl, trivial⟩⟩
            · have H22 := ie h24 H22
              refine W.region ?_
              refine va (.bool (p0 == 11)) ?_
              refine va (.bool (p0 == 11)) ?_
              refine wln ?_
              obtain rfl := Option.some.inj H22
              exact ⟨c15, _, rfl, (Cx.le.refl _), O17, ups_self ⟨rfl, trivial⟩⟩
          · skip
            rintro e_ w_ ⟨c25, g26, rfl, l25, O27, rfl⟩
            refine W.cond (t := z_24) (by kernel_rfl) (fun h31 => ?_) (fun h31 => ?_)
            · have H23 := it h31 H23
              refine W.exit ?_
              refine thx ?_
              refine bko rfl ?_
              refine bko rfl ?_
              refine bke ?_
              refine nrm ?_
              refine W.seq ?_
              refine sr ?_
              refine va (.bool true) ?_
              refine wln ?_
              refine W.ret ?_
              refine thr ?_
              refine bkr ?_
              refine thr ?_
              obtain rfl := Option.some.inj H23
              exact ret1 (v := .bool true) rfl (by kernel_rfl) ⟨_, c25, rfl, rfl, (l5.trans (l15.trans l25)), O27, rfl⟩
            · have H23 := ie h31 H23
              refine W.skip ?_
              refine nrm ?_
              refine W.exit ?_
              refine bko rfl ?_
              refine bko rfl ?_
              refine bko rfl ?_
              refine thx ?_
              refine bke ?_
              refine nrm ?_
              refine sr ?_
              refine va (.bool false) ?_
              refine wln ?_
              refine W.ret ?_
              obtain rfl := Option.some.inj H23
              exact ret1 (v := .bool false) rfl (by kernel_rfl) ⟨_, c25, rfl, rfl, (l5.trans (l15.trans l25)), O27, rfl⟩

def f_basew_Of (p0 : G_api_Prop) : Option (Int) :=
  (f_basew_none p0.Break).bind fun x_6 =>
  if x_6 = true then
  some 0
  else
  (orE (p0.East == 1) (some (p0.East == 2))).bind fun d_14 =>
  if d_14 = true then
  some 2
  else
  some 1
theorem c_basew_Of {c0 : Cx} {G : Gm} {F : List En} (O0 : Own c0 G F) (p0 : G_api_Prop) {r : Int} (H : f_basew_Of p0 = some r) :
    Calls Tryd.prog 206 #[.agg #[.int .i64 p0.Break, .bool p0.Pict, .int .i64 p0.Conj, .int .i64 p0.East]] c0.w (Post c0 fun c v => Own c G (F) ∧ v = .int .i64 r) := by
  unfold f_basew_Of at H
  refine enter (l := [.agg #[.int .i64 p0.Break, .bool p0.Pict, .int .i64 p0.Conj, .int .i64 p0.East]]) Tryd.func206 rfl rfl rfl ?_
  refine sr ?_
  refine WL.mem rfl (Own.bx (T := 148) (vs := [.int .i64 p0.Break, .bool p0.Pict, .int .i64 p0.Conj, .int .i64 p0.East]) O0 (by kernel_rfl)) ?_
  rintro v5 c4 l4 ⟨b1, rfl, O2, m3⟩
  refine va (.int .i64 0) ?_
  refine wln ?_
  refine W.seq ?_
  refine W.block ?_
  refine sr ?_
  refine va (.pointer (some ⟨b1, 0, none⟩)) ?_
  refine WL.val0 (v := .int .i64 p0.Break) rfl (rx (by kernel_rfl) (run_load1 Tryd.underlying3 rfl (m3 0 _ rfl))) ?_
  obtain ⟨x_6, h6, H⟩ := bs H
  refine WL.callP rfl (by kernel_rfl) (c_basew_none O2 p0.Break h6) ?_
  rintro v12 c11 l11 ⟨O8, rfl⟩
  refine va (.bool x_6) ?_
  refine wln ?_
  refine W.cond (t := x_6) (by kernel_rfl) (fun h13 => ?_) (fun h13 => ?_)
  · have H := it h13 H
    refine sr ?_
    refine va (.int .i64 0) ?_
    refine wln ?_
    refine W.ret ?_
    refine bkr ?_
    refine thr ?_
    obtain rfl := Option.some.inj H
    exact ret1 (v := .int .i64 0) rfl (by kernel_rfl) ⟨_, c11, rfl, rfl, (l4.trans l11), O8, rfl⟩
  · have H := ie h13 H
    refine W.seq ?_
    obtain ⟨d_14, h14, H⟩ := bs H
    refine W.join (fun e w => ∃ (c : Cx) (g : Nat → Value), w = c.w ∧ c11.le c ∧ Own c G (F) ∧ e = ups g [(7, .bool d_14)]) ?_ ?_
    · clear H
      refine W.region ?_
      refine va (.pointer (some ⟨b1, 0 + 3, none⟩)) ?_
      refine WL.val0 (v := .int .i64 p0.East) rfl (rx (by kernel_rfl) (run_load1 Tryd.underlying3 rfl ((fun j u hu => (m3 j u hu).mono l11) 3 _ rfl))) ?_
      refine va (.bool (p0.East == 1)) ?_
      rcases Bool.eq_false_or_eq_true (p0.East == 1) with h15 | h15
      · skip
        obtain rfl := orT h15 h14
        refine vb h15 ?_
        refine ps ?_
        refine ps ?_
        refine ps ?_
        refine va (.bool true) ?_
        refine va (.bool true) ?_
        refine wln ?_
        exact ⟨c11, _, rfl, (Cx.le.refl _), O8, ups_self ⟨rfl, trivial⟩⟩
      · skip
        have H16 := orF h15 h14
        refine vb h15 ?_
        refine wn ?_
        refine va (.pointer (some ⟨b1, 0 + 3, none⟩)) ?_
        refine wn ?_
        refine WL.val0 (v := .int .i64 p0.East) rfl (rx (by kernel_rfl) (run_load1 Tryd.underlying3 rfl ((fun j u hu => (m3 j u hu).mono l11) 3 _ rfl))) ?_
        refine wn ?_
        refine va (.bool (p0.East == 2)) ?_
        obtain rfl := Option.some.inj H16
        refine va (.bool (p0.East == 2)) ?_
        refine va (.bool (p0.East == 2)) ?_
        refine wln ?_
        exact ⟨c11, _, rfl, (Cx.le.refl _), O8, ups_self ⟨rfl, trivial⟩⟩
    · skip
      rintro e_ w_ ⟨c17, g18, rfl, l17, O19, rfl⟩
      refine nrm ?_
      refine W.cond (t := d_14) (by kernel_rfl) (fun h23 => ?_) (fun h23 => ?_)
      · have H := it h23 H
        refine sr ?_
        refine va (.int .i64 2) ?_
        refine wln ?_
        refine W.ret ?_
        refine bkr ?_
        refine thr ?_
        obtain rfl := Option.some.inj H
        exact ret1 (v := .int .i64 2) rfl (by kernel_rfl) ⟨_, c17, rfl, rfl, (l4.trans (l11.trans l17)), O19, rfl⟩
      · have H := ie h23 H
        refine W.skip ?_
        refine bkn ?_
        refine nrm ?_
        refine sr ?_
        refine va (.int .i64 1) ?_
        refine wln ?_
        refine W.ret ?_
        obtain rfl := Option.some.inj H
        exact ret1 (v := .int .i64 1) rfl (by kernel_rfl) ⟨_, c17, rfl, rfl, (l4.trans (l11.trans l17)), O19, rfl⟩

def f_cwidth_Gauge_widens__widen_Cluster_21 (p0 : G_cwidth_Gauge) (p1 : Int) (p2 : G_api_Prop) : Option (Bool) :=
  (f_basew_Of p2).bind fun x_5 =>
  if (x_5 == 2) = true then
  some true
  else
  if (!p0.some) = true then
  some false
  else
  (andE (p1 == 65039) (some p0.pict)).bind fun d_22 =>
  (orE d_22 (some p2.Pict)).bind fun d_28 =>
  (orE d_28 (some (p2.Break == 6))).bind fun d_32 =>
  some d_32
theorem c_cwidth_Gauge_widens__widen_Cluster_21 {c0 : Cx} {G : Gm} {F : List En} {b0_ : Nat} {r0_0 : Value} {r0_1 : Value} {r0_2 : Value} {r0_3 : Value} {r0_4 : Value} {r0_5 : Value} {r0_6 : Value} {r0_7 : Value} {r0_8 : Value} {r0_9 : Value} {r0_10 : Value} {r0_11 : Value} {r0_12 : Value} {r0_13 : Value} {r0_14 : Value} {r0_15 : Value} {r0_16 : Value} {r0_17 : Value} {r0_18 : Value} {r0_19 : Value} {r0_20 : Value} (p0 : G_cwidth_Gauge) (p1 : Int) (p2 : G_api_Prop) (O0 : Own c0 G (⟨.pointer (some ⟨b0_, 0, none⟩), 206, [r0_0, r0_1, r0_2, r0_3, r0_4, r0_5, r0_6, r0_7, r0_8, r0_9, r0_10, r0_11, r0_12, r0_13, r0_14, r0_15, r0_16, r0_17, r0_18, r0_19, r0_20, .bool p0.some, .bool p0.pict, .bool p0.wide], 0⟩ :: F)) {r : Bool} (H : f_cwidth_Gauge_widens__widen_Cluster_21 p0 p1 p2 = some r) :
    Calls Tryd.prog 186 #[.pointer (some ⟨b0_, 21, none⟩), .int .i32 p1, .agg #[.int .i64 p2.Break, .bool p2.Pict, .int .i64 p2.Conj, .int .i64 p2.East]] c0.w (Post c0 fun c v => Own c G (⟨.pointer (some ⟨b0_, 0, none⟩), 206, [r0_0, r0_1, r0_2, r0_3, r0_4, r0_5, r0_6, r0_7, r0_8, r0_9, r0_10, r0_11, r0_12, r0_13, r0_14, r0_15, r0_16, r0_17, r0_18, r0_19, r0_20, .bool p0.some, .bool p0.pict, .bool p0.wide], 0⟩ :: F) ∧ v = .bool r) := by
  unfold f_cwidth_Gauge_widens__widen_Cluster_21 at H
  refine enter (l := [.pointer (some ⟨b0_, 21, none⟩), .int .i32 p1, .agg #[.int .i64 p2.Break, .bool p2.Pict, .int .i64 p2.Conj, .int .i64 p2.East]]) Tryd.func186 rfl rfl rfl ?_
  refine sr ?_
  refine WL.mem rfl (Own.bx (T := 148) (vs := [.int .i64 p2.Break, .bool p2.Pict, .int .i64 p2.Conj, .int .i64 p2.East]) O0 (by kernel_rfl)) ?_
  rintro v5 c4 l4 ⟨b1, rfl, O2, m3⟩
  refine va (.bool false) ?_
  refine wln ?_
  refine W.seq ?_
  refine W.block ?_
  refine sr ?_
  refine WL.val0 (v := .agg #[.int .i64 p2.Break, .bool p2.Pict, .int .i64 p2.Conj, .int .i64 p2.East]) rfl (rx (by kernel_rfl) (run_loadN (T := 148) (by kernel_rfl) (by kernel_rfl) m3)) ?_
  obtain ⟨x_5, h6, H⟩ := bs H
  refine WL.callP rfl (by kernel_rfl) (c_basew_Of O2 p2 h6) ?_
  rintro v12 c11 l11 ⟨O8, rfl⟩
  refine va (.bool (x_5 == 2)) ?_
  refine va (.bool (x_5 == 2)) ?_
  refine wln ?_
  refine W.cond (t := x_5 == 2) (by kernel_rfl) (fun h13 => ?_) (fun h13 => ?_)
  · have H := it h13 H
    refine sr ?_
    refine va (.bool true) ?_
    refine wln ?_
    refine W.ret ?_
    refine bkr ?_
    refine thr ?_
    obtain rfl := Option.some.inj H
    exact ret1 (v := .bool true) rfl (by kernel_rfl) ⟨_, c11, rfl, rfl, (l4.trans l11), O8, rfl⟩
  · have H := ie h13 H
    refine sr ?_
    refine va (.pointer (some ⟨b0_, 21, none⟩)) ?_
    refine va (.pointer (some ⟨b0_, 21, none⟩)) ?_
    refine va (.pointer (some ⟨b0_, 21, none⟩)) ?_
    refine WL.val0 (v := .bool p0.some) rfl (rx (by kernel_rfl) (ldE1 (j := 21) Tryd.underlying4 rfl (O8.on 0 rfl) rfl rfl)) ?_
    refine va (.bool (!p0.some)) ?_
    refine va (.bool (!p0.some)) ?_
    refine wln ?_
    refine W.cond (t := !p0.some) (by kernel_rfl) (fun h14 => ?_) (fun h14 => ?_)
    · have H := it h14 H
      refine sr ?_
      refine va (.bool false) ?_
      refine wln ?_
      refine W.ret ?_
      refine bkr ?_
      refine thr ?_
      obtain rfl := Option.some.inj H
      exact ret1 (v := .bool false) rfl (by kernel_rfl) ⟨_, c11, rfl, rfl, (l4.trans l11), O8, rfl⟩
    · have H := ie h14 H
      refine W.skip ?_
      refine bkn ?_
      refine nrm ?_
      refine W.seq ?_
      obtain ⟨d_22, h15, H⟩ := bs H
      obtain ⟨d_28, h16, H⟩ := bs H
      obtain ⟨d_32, h17, H⟩ := bs H
      refine W.join (fun e w => ∃ (c : Cx) (g : Nat → Value), w = c.w ∧ c11.le c ∧ Own c G (⟨.pointer (some ⟨b0_, 0, none⟩), 206, [r0_0, r0_1, r0_2, r0_3, r0_4, r0_5, r0_6, r0_7, r0_8, r0_9, r0_10, r0_11, r0_12, r0_13, r0_14, r0_15, r0_16, r0_17, r0_18, r0_19, r0_20, .bool p0.some, .bool p0.pict, .bool p0.wide], 0⟩ :: F) ∧ e = ups g [(6, .bool d_32)]) ?_ ?_
      · clear H
        refine W.region ?_
        refine va (.int .i32 p1) ?_
        refine va (.bool (p1 == 65039)) ?_
        rcases Bool.eq_false_or_eq_true (p1 == 65039) with h18 | h18
        · skip
          have H19 := anT h18 h15
          refine vb h18 ?_
          refine wn ?_
          refine va (.pointer (some ⟨b0_, 21, none⟩)) ?_
          refine wn ?_
          refine va (.pointer (some ⟨b0_, 21, none⟩)) ?_
          refine wn ?_
          refine va (.pointer (some ⟨b0_, 22, none⟩)) ?_
          refine wn ?_
          refine WL.val0 (v := .bool p0.pict) rfl (rx (by kernel_rfl) (ldE1 (j := 22) Tryd.underlying4 rfl (O8.on 0 rfl) rfl rfl)) ?_
          obtain rfl := Option.some.inj H19
          refine va (.bool p0.pict) ?_
          rcases Bool.eq_false_or_eq_true (p0.pict) with h20 | h20
          · skip
            obtain rfl := orT h20 h16
            refine vb h20 ?_
            refine ps ?_
            refine ps ?_
            refine va (.bool true) ?_
            have h21 : true = true := rfl
            obtain rfl := orT h21 h17
            refine vb h21 ?_
            refine ps ?_
            refine ps ?_
            refine ps ?_
            refine va (.bool true) ?_
            refine va (.bool true) ?_
            refine wln ?_
            exact ⟨c11, _, rfl, (Cx.le.refl _), O8, ups_self ⟨rfl, trivial⟩⟩
          · skip
            have H22 := orF h20 h16
            refine vb h20 ?_
            refine wn ?_
            refine va (.pointer (some ⟨b1, 0 + 1, none⟩)) ?_
            refine wn ?_
            refine WL.val0 (v := .bool p2.Pict) rfl (rx (by kernel_rfl) (run_load1 Tryd.underlying4 rfl ((fun j u hu => (m3 j u hu).mono l11) 1 _ rfl))) ?_
            obtain rfl := Option.some.inj H22
            refine va (.bool p2.Pict) ?_
            rcases Bool.eq_false_or_eq_true (p2.Pict) with h23 | h23
            · skip
              obtain rfl := orT h23 h17
              refine vb h23 ?_
              refine ps ?_
              refine ps ?_
              refine ps ?_
              refine va (.bool true) ?_
              refine va (.bool true) ?_
              refine wln ?_
              exact ⟨c11, _, rfl, (Cx.le.refl _), O8, ups_self ⟨rfl, trivial⟩⟩
            · skip
              have H24 := orF h23 h17
              refine vb h23 ?_
              refine wn ?_
              refine va (.pointer (some ⟨b1, 0, none⟩)) ?_
              refine wn ?_
              refine WL.val0 (v := .int .i64 p2.Break) rfl (rx (by kernel_rfl) (run_load1 Tryd.underlying3 rfl ((fun j u hu => (m3 j u hu).mono l11) 0 _ rfl))) ?_
              refine wn ?_
              refine va (.bool (p2.Break == 6)) ?_
              obtain rfl := Option.some.inj H24
              refine va (.bool (p2.Break == 6)) ?_
              refine va (.bool (p2.Break == 6)) ?_
              refine wln ?_
              exact ⟨c11, _, rfl, (Cx.le.refl _), O8, ups_self ⟨rfl, trivial⟩⟩
        · skip
          obtain rfl := anF h18 h15
          refine vb h18 ?_
          refine ps ?_
          refine ps ?_
          refine ps ?_
          refine ps ?_
          refine va (.bool false) ?_
          have h25 : false = false := rfl
          have H26 := orF h25 h16
          refine vb h25 ?_
          refine wn ?_
          refine va (.pointer (some ⟨b1, 0 + 1, none⟩)) ?_
          refine wn ?_
          refine WL.val0 (v := .bool p2.Pict) rfl (rx (by kernel_rfl) (run_load1 Tryd.underlying4 rfl ((fun j u hu => (m3 j u hu).mono l11) 1 _ rfl))) ?_
          obtain rfl := Option.some.inj H26
          refine va (.bool p2.Pict) ?_
          rcases Bool.eq_false_or_eq_true (p2.Pict) with h27 | h27
          · skip
            obtain rfl := orT h27 h17
            refine vb h27 ?_
            refine ps ?_
            refine ps ?_
            refine ps ?_
            refine va (.bool true) ?_
            refine va (.bool true) ?_
            refine wln ?_
            exact ⟨c11, _, rfl, (Cx.le.refl _), O8, ups_self ⟨rfl, trivial⟩⟩
          · skip
            have H28 := orF h27 h17
            refine vb h27 ?_
            refine wn ?_
            refine va (.pointer (some ⟨b1, 0, none⟩)) ?_
            refine wn ?_
            refine WL.val0 (v := .int .i64 p2.Break) rfl (rx (by kernel_rfl) (run_load1 Tryd.underlying3 rfl ((fun j u hu => (m3 j u hu).mono l11) 0 _ rfl))) ?_
            refine wn ?_
            refine va (.bool (p2.Break == 6)) ?_
            obtain rfl := Option.some.inj H28
            refine va (.bool (p2.Break == 6)) ?_
            refine va (.bool (p2.Break == 6)) ?_
            refine wln ?_
            exact ⟨c11, _, rfl, (Cx.le.refl _), O8, ups_self ⟨rfl, trivial⟩⟩
      · skip
        rintro e_ w_ ⟨c29, g30, rfl, l29, O31, rfl⟩
        refine nrm ?_
        refine W.ret ?_
        obtain rfl := Option.some.inj H
        exact ret1 (v := .bool d_32) rfl (by kernel_rfl) ⟨_, c29, rfl, rfl, (l4.trans (l11.trans l29)), O31, rfl⟩

def f_cwidth_Gauge_Step__widen_Cluster_21 (p0 : G_cwidth_Gauge) (p1 : Int) (p2 : G_api_Prop) : Option (G_cwidth_Gauge × Int) :=
  if false = true then
  some (p0, 1)
  else
  (orE p0.wide ((f_cwidth_Gauge_widens__widen_Cluster_21 p0 p1 p2).bind fun x_19 =>
  some x_19)).bind fun d_14 =>
  if d_14 = true then
  some ((⟨true, p2.Pict, d_14⟩ : G_cwidth_Gauge), 2)
  else
  some ((⟨true, p2.Pict, d_14⟩ : G_cwidth_Gauge), 1)
theorem c_cwidth_Gauge_Step__widen_Cluster_21 {c0 : Cx} {G : Gm} {F : List En} {b0_ : Nat} {r0_0 : Value} {r0_1 : Value} {r0_2 : Value} {r0_3 : Value} {r0_4 : Value} {r0_5 : Value} {r0_6 : Value} {r0_7 : Value} {r0_8 : Value} {r0_9 : Value} {r0_10 : Value} {r0_11 : Value} {r0_12 : Value} {r0_13 : Value} {r0_14 : Value} {r0_15 : Value} {r0_16 : Value} {r0_17 : Value} {r0_18 : Value} {r0_19 : Value} {r0_20 : Value} (p0 : G_cwidth_Gauge) (p1 : Int) (p2 : G_api_Prop) (O0 : Own c0 G (⟨.pointer (some ⟨b0_, 0, none⟩), 206, [r0_0, r0_1, r0_2, r0_3, r0_4, r0_5, r0_6, r0_7, r0_8, r0_9, r0_10, r0_11, r0_12, r0_13, r0_14, r0_15, r0_16, r0_17, r0_18, r0_19, r0_20, .bool p0.some, .bool p0.pict, .bool p0.wide], 0⟩ :: F)) {r : G_cwidth_Gauge × Int} (H : f_cwidth_Gauge_Step__widen_Cluster_21 p0 p1 p2 = some r) :
    Calls Tryd.prog 176 #[.pointer (some ⟨b0_, 21, none⟩), .int .i32 p1, .agg #[.int .i64 p2.Break, .bool p2.Pict, .int .i64 p2.Conj, .int .i64 p2.East]] c0.w (Post c0 fun c v => Own c G (⟨.pointer (some ⟨b0_, 0, none⟩), 206, [r0_0, r0_1, r0_2, r0_3, r0_4, r0_5, r0_6, r0_7, r0_8, r0_9, r0_10, r0_11, r0_12, r0_13, r0_14, r0_15, r0_16, r0_17, r0_18, r0_19, r0_20, .bool r.1.some, .bool r.1.pict, .bool r.1.wide], 0⟩ :: F) ∧ v = .int .i64 r.2) := by
  unfold f_cwidth_Gauge_Step__widen_Cluster_21 at H
  refine enter (l := [.pointer (some ⟨b0_, 21, none⟩), .int .i32 p1, .agg #[.int .i64 p2.Break, .bool p2.Pict, .int .i64 p2.Conj, .int .i64 p2.East]]) Tryd.func176 rfl rfl rfl ?_
  refine sr ?_
  refine WL.mem rfl (Own.bx (T := 148) (vs := [.int .i64 p2.Break, .bool p2.Pict, .int .i64 p2.Conj, .int .i64 p2.East]) O0 (by kernel_rfl)) ?_
  rintro v5 c4 l4 ⟨b1, rfl, O2, m3⟩
  refine va (.int .i64 0) ?_
  refine wln ?_
  refine W.seq ?_
  refine sr ?_
  refine va (.pointer (some ⟨b0_, 21, none⟩)) ?_
  refine va (.bool false) ?_
  refine wln ?_
  refine W.cond (t := false) (by kernel_rfl) (fun h6 => ?_) (fun h6 => ?_)
  · cases h6
  · have H := ie h6 H
    refine W.skip ?_
    refine nrm ?_
    refine W.seq ?_
    obtain ⟨d_14, h7, H⟩ := bs H
    refine W.join (fun e w => ∃ (c : Cx) (g : Nat → Value), w = c.w ∧ c4.le c ∧ Own c G (⟨.pointer (some ⟨b0_, 0, none⟩), 206, [r0_0, r0_1, r0_2, r0_3, r0_4, r0_5, r0_6, r0_7, r0_8, r0_9, r0_10, r0_11, r0_12, r0_13, r0_14, r0_15, r0_16, r0_17, r0_18, r0_19, r0_20, .bool p0.some, .bool p0.pict, .bool d_14], 0⟩ :: F) ∧ e = ups g [(0, .pointer (some ⟨b0_, 21, none⟩)), (5, .pointer (some ⟨b1, 0, none⟩))]) ?_ ?_
    · clear H
      refine W.region ?_
      refine va (.pointer (some ⟨b0_, 21, none⟩)) ?_
      refine va (.pointer (some ⟨b0_, 21, none⟩)) ?_
      refine va (.pointer (some ⟨b0_, 21, none⟩)) ?_
      refine va (.pointer (some ⟨b0_, 23, none⟩)) ?_
      refine WL.val0 (v := .bool p0.wide) rfl (rx (by kernel_rfl) (ldE1 (j := 23) Tryd.underlying4 rfl (O2.on 0 rfl) rfl rfl)) ?_
      rcases Bool.eq_false_or_eq_true (p0.wide) with h8 | h8
      · skip
        obtain rfl := orT h8 h7
        refine vb h8 ?_
        refine ps ?_
        refine ps ?_
        refine ps ?_
        refine ps ?_
        refine va (.bool true) ?_
        refine va (.pointer (some ⟨b0_, 21, none⟩)) ?_
        refine va (.pointer (some ⟨b0_, 23, none⟩)) ?_
        refine WL.memD rfl (Own.st (T := 4) (j := 23) (us := [.bool true]) (nw := [r0_0, r0_1, r0_2, r0_3, r0_4, r0_5, r0_6, r0_7, r0_8, r0_9, r0_10, r0_11, r0_12, r0_13, r0_14, r0_15, r0_16, r0_17, r0_18, r0_19, r0_20, .bool p0.some, .bool p0.pict, .bool true]) (v := .bool true) 0 O2 (by kernel_rfl) rfl rfl rfl rfl (by kernel_rfl) ⟨rfl, trivial⟩ rfl rfl) ?_
        rintro c10 l10 O9
        refine wln ?_
        exact ⟨c10, _, rfl, l10, O9, ups_self ⟨rfl, rfl, trivial⟩⟩
      · skip
        have H11 := orF h8 h7
        refine vb h8 ?_
        refine wn ?_
        refine va (.pointer (some ⟨b0_, 21, none⟩)) ?_
        refine wn ?_
        refine va (.int .i32 p1) ?_
        refine wn ?_
        refine WL.val0 (v := .agg #[.int .i64 p2.Break, .bool p2.Pict, .int .i64 p2.Conj, .int .i64 p2.East]) rfl (rx (by kernel_rfl) (run_loadN (T := 148) (by kernel_rfl) (by kernel_rfl) m3)) ?_
        refine wn ?_
        obtain ⟨x_19, h13, H11⟩ := bs H11
        refine WL.callP rfl (by kernel_rfl) (c_cwidth_Gauge_widens__widen_Cluster_21 p0 p1 p2 O2 h13) ?_
        rintro v19 c18 l18 ⟨O15, rfl⟩
        obtain rfl := Option.some.inj H11
        refine va (.bool x_19) ?_
        refine va (.pointer (some ⟨b0_, 21, none⟩)) ?_
        refine va (.pointer (some ⟨b0_, 23, none⟩)) ?_
        refine WL.memD rfl (Own.st (T := 4) (j := 23) (us := [.bool x_19]) (nw := [r0_0, r0_1, r0_2, r0_3, r0_4, r0_5, r0_6, r0_7, r0_8, r0_9, r0_10, r0_11, r0_12, r0_13, r0_14, r0_15, r0_16, r0_17, r0_18, r0_19, r0_20, .bool p0.some, .bool p0.pict, .bool x_19]) (v := .bool x_19) 0 O15 (by kernel_rfl) rfl rfl rfl rfl (by kernel_rfl) ⟨rfl, trivial⟩ rfl rfl) ?_
        rintro c21 l21 O20
        refine wln ?_
        exact ⟨c21, _, rfl, (l18.trans l21), O20, ups_self ⟨rfl, rfl, trivial⟩⟩
    · skip
      rintro e_ w_ ⟨c22, g23, rfl, l22, O24, rfl⟩
      refine nrm ?_
      refine W.seq ?_
      refine W.regionD [] (Kp G0 []) O24 (by kernel_rfl) ?_
      intro c28 l28 O29
      have p30 : Kp G0 [] c28 := Kp.nil0
      refine ta 0 (.pointer (some ⟨b0_, 21, none⟩)) ?_
      refine ta 1 (.pointer (some ⟨b0_, 21, none⟩)) ?_
      refine ta 2 (.pointer (some ⟨b1, 0 + 1, none⟩)) ?_
      refine AC.take 3 (.bool p2.Pict) rfl (by kernel_rfl) (by kernel_rfl) (fun c' hle => (rx (by kernel_rfl) (run_load1 Tryd.underlying4 rfl ((fun j u hu => (m3 j u hu).mono ((l22.trans l28).trans hle)) 1 _ rfl)))) ?_
      refine ta 4 (.pointer (some ⟨b0_, 21, none⟩)) ?_
      refine ta 5 (.pointer (some ⟨b0_, 21, none⟩)) ?_
      refine AC.one 6 (by kernel_rfl) (Go1.memD 6 rfl (by kernel_rfl) (by kernel_rfl) (Own.st (T := 4) (j := 21) (us := [.bool true]) (nw := [r0_0, r0_1, r0_2, r0_3, r0_4, r0_5, r0_6, r0_7, r0_8, r0_9, r0_10, r0_11, r0_12, r0_13, r0_14, r0_15, r0_16, r0_17, r0_18, r0_19, r0_20, .bool true, .bool p0.pict, .bool d_14]) (v := .bool true) 0 O29 (by kernel_rfl) rfl rfl rfl rfl (by kernel_rfl) ⟨rfl, trivial⟩ rfl rfl) ?_)
      rintro c32 l32 O31
      have p33 : Kp G0 [] c32 := Kp.nil0
      refine ⟨.inr p33, ?_⟩
      refine ta 7 (.pointer (some ⟨b0_, 21, none⟩)) ?_
      refine ta 8 (.pointer (some ⟨b0_, 22, none⟩)) ?_
      refine AC.one 9 (by kernel_rfl) (Go1.memD 9 rfl (by kernel_rfl) (by kernel_rfl) (Own.st (T := 4) (j := 22) (us := [.bool p2.Pict]) (nw := [r0_0, r0_1, r0_2, r0_3, r0_4, r0_5, r0_6, r0_7, r0_8, r0_9, r0_10, r0_11, r0_12, r0_13, r0_14, r0_15, r0_16, r0_17, r0_18, r0_19, r0_20, .bool true, .bool p2.Pict, .bool d_14]) (v := .bool p2.Pict) 0 O31 (by kernel_rfl) rfl rfl rfl rfl (by kernel_rfl) ⟨rfl, trivial⟩ rfl rfl) ?_)
      rintro c35 l35 O34
      have p36 : Kp G0 [] c35 := Kp.nil0
      refine ⟨.inr p36, ?_⟩
      refine AC.done (by kernel_rfl) ?_
      refine nrm ?_
      refine W.seq ?_
      refine sr ?_
      refine va (.pointer (some ⟨b0_, 21, none⟩)) ?_
      refine va (.pointer (some ⟨b0_, 21, none⟩)) ?_
      refine va (.pointer (some ⟨b0_, 23, none⟩)) ?_
      refine WL.val0 (v := .bool d_14) rfl (rx (by kernel_rfl) (ldE1 (j := 23) Tryd.underlying4 rfl (O34.on 0 rfl) rfl rfl)) ?_
      refine wln ?_
      refine W.cond (t := d_14) (by kernel_rfl) (fun h37 => ?_) (fun h37 => ?_)
      · have H := it h37 H
        refine sr ?_
        refine va (.int .i64 2) ?_
        refine wln ?_
        refine W.ret ?_
        refine thr ?_
        obtain rfl := Option.some.inj H
        exact ret1 (v := .int .i64 2) rfl (by kernel_rfl) ⟨_, c35, rfl, rfl, (l4.trans (l22.trans (l28.trans (l32.trans l35)))), O34, rfl⟩
      · have H := ie h37 H
        refine W.skip ?_
        refine nrm ?_
        refine sr ?_
        refine va (.int .i64 1) ?_
        refine wln ?_
        refine W.ret ?_
        obtain rfl := Option.some.inj H
        exact ret1 (v := .int .i64 1) rfl (by kernel_rfl) ⟨_, c35, rfl, rfl, (l4.trans (l22.trans (l28.trans (l32.trans l35)))), O34, rfl⟩

def f_widen_Cluster_add (sg : Sto) (p0 : Option Nat) (p1 : Int) (p2 : G_api_Prop) : Option (Sto × Int) :=
  ((f_scalar_Valid p1).bind fun x_6 =>
  if (!x_6) = true then
  (some (65533) : Option (Int))
  else
  (some (p1) : Option (Int))).bind fun z_4 =>
  (p0).bind fun k_12 =>
  (sg.widen_Cluster[k_12]?).bind fun o_15002 =>
  (f_cluster_Cluster_Add__widen_Cluster_4 o_15002.text z_4).bind fun x_15 =>
  (sg.set_widen_Cluster k_12 (⟨o_15002.at_, o_15002.wide, x_15.1, o_15002.gauge⟩ : G_widen_Cluster)).bind fun s_15003 =>
  (f_cwidth_Gauge_Step__widen_Cluster_21 o_15002.gauge z_4 p2).bind fun x_22 =>
  (s_15003.set_widen_Cluster k_12 (⟨o_15002.at_, o_15002.wide, x_15.1, x_22.1⟩ : G_widen_Cluster)).bind fun s_22003 =>
  some (s_22003, x_22.2)
theorem c_widen_Cluster_add {c0 : Cx} {G : Gm} {F : List En} {sg : Sto} {v1 : Value} (O0 : Own c0 G F) (R0 : Rel c0 sg G) (p0 : Option Nat) (p1 : Int) (p2 : G_api_Prop) {r : Sto × Int} (h2 : Pt 3 c0 v1 p0) (H : f_widen_Cluster_add sg p0 p1 p2 = some r) :
    Calls Tryd.prog 152 #[v1, .int .i32 p1, .agg #[.int .i64 p2.Break, .bool p2.Pict, .int .i64 p2.Conj, .int .i64 p2.East]] c0.w (Post c0 fun c v => ∃ G_ : Gm, Own c G_ (F) ∧ Rel c r.1 G_ ∧ v = .int .i64 r.2) := by
  unfold f_widen_Cluster_add at H
  refine enter (l := [v1, .int .i32 p1, .agg #[.int .i64 p2.Break, .bool p2.Pict, .int .i64 p2.Conj, .int .i64 p2.East]]) Tryd.func152 rfl rfl rfl ?_
  refine sr ?_
  refine WL.mem rfl (Own.bx (T := 148) (vs := [.int .i64 p2.Break, .bool p2.Pict, .int .i64 p2.Conj, .int .i64 p2.East]) O0 (by kernel_rfl)) ?_
  rintro v7 c6 l6 ⟨b3, rfl, O4, m5⟩
  refine va (.int .i64 0) ?_
  refine wln ?_
  obtain ⟨z_4, H8, H9⟩ := bs H
  refine W.seqJ (fun e w => ∃ (c : Cx) (g : Nat → Value), w = c.w ∧ c6.le c ∧ Own c G (F) ∧ e = ups g [(0, v1), (1, .int .i32 z_4), (5, .pointer (some ⟨b3, 0, none⟩))]) ?_ ?_
  · skip
    refine sr ?_
    refine va (.int .i32 p1) ?_
    obtain ⟨x_6, h10, H8⟩ := bs H8
    refine WL.callP rfl (by kernel_rfl) (c_scalar_Valid O4 p1 h10) ?_
    rintro v16 c15 l15 ⟨O12, rfl⟩
    refine va (.bool (!x_6)) ?_
    refine wln ?_
    refine W.cond (t := !x_6) (by kernel_rfl) (fun h17 => ?_) (fun h17 => ?_)
    · have H8 := it h17 H8
      refine W.region ?_
      refine va (.int .i32 65533) ?_
      refine wln ?_
      obtain rfl := Option.some.inj H8
      exact ⟨c15, _, rfl, l15, O12, ups_self ⟨rfl, rfl, rfl, trivial⟩⟩
    · have H8 := ie h17 H8
      refine W.skip ?_
      refine nrm ?_
      obtain rfl := Option.some.inj H8
      exact ⟨c15, _, rfl, l15, O12, ups_self ⟨rfl, rfl, rfl, trivial⟩⟩
  · skip
    rintro e_ w_ ⟨c18, g19, rfl, l18, O20, rfl⟩
    refine sr ?_
    refine va (v1) ?_
    obtain ⟨k_12, h26, H9⟩ := bs H9
    obtain ⟨b24, rfl, h25⟩ := ((h2.mono (l6.trans l18))).get h26
    refine va (.pointer (some ⟨b24, 0, none⟩)) ?_
    refine va (.pointer (some ⟨b24, 4, none⟩)) ?_
    refine va (.int .i32 z_4) ?_
    obtain ⟨o_15002, h27, H9⟩ := bs H9
    have h28 := Rel.open_widen_Cluster (R0.mono (l6.trans l18)) h27 h25
    have O29 := O20.borrow 0 h28 rfl
    obtain ⟨x_15, h31, H9⟩ := bs H9
    refine WL.callP rfl (by kernel_rfl) (c_cluster_Cluster_Add__widen_Cluster_4 o_15002.text z_4 O29 h31) ?_
    rintro v37 c36 l36 ⟨O33, rfl⟩
    have O38 := O33.giveB 0 rfl
    obtain ⟨s_15003, h43, H9⟩ := bs H9
    obtain ⟨G39, O40, R41, h42, a44⟩ := Rel.put_widen_Cluster O38 (R0.mono (l6.trans (l18.trans l36))) (E' := [⟨.pointer (some ⟨b24, 0, none⟩), 206, [.int .i64 o_15002.at_.Row, .int .i64 o_15002.at_.Col, .bool o_15002.at_.Pending, .int .i64 o_15002.wide, .int .i32 x_15.1.text.1, .int .i32 x_15.1.text.2.1, .int .i32 x_15.1.text.2.2.1, .int .i32 x_15.1.text.2.2.2.1, .int .i32 x_15.1.text.2.2.2.2.1, .int .i32 x_15.1.text.2.2.2.2.2.1, .int .i32 x_15.1.text.2.2.2.2.2.2.1, .int .i32 x_15.1.text.2.2.2.2.2.2.2.1, .int .i32 x_15.1.text.2.2.2.2.2.2.2.2.1, .int .i32 x_15.1.text.2.2.2.2.2.2.2.2.2.1, .int .i32 x_15.1.text.2.2.2.2.2.2.2.2.2.2.1, .int .i32 x_15.1.text.2.2.2.2.2.2.2.2.2.2.2.1, .int .i32 x_15.1.text.2.2.2.2.2.2.2.2.2.2.2.2.1, .int .i32 x_15.1.text.2.2.2.2.2.2.2.2.2.2.2.2.2.1, .int .i32 x_15.1.text.2.2.2.2.2.2.2.2.2.2.2.2.2.2.1, .int .i32 x_15.1.text.2.2.2.2.2.2.2.2.2.2.2.2.2.2.2, .int .i64 x_15.1.n, .bool o_15002.gauge.some, .bool o_15002.gauge.pict, .bool o_15002.gauge.wide], 0⟩]) h43 ⟨b24, (l36.t _ _ _ h25), rfl⟩
    refine wln ?_
    refine W.seq ?_
    refine W.regionD [] (Kp G0 []) O40 (by kernel_rfl) ?_
    intro c45 l45 O46
    have p47 : Kp G0 [] c45 := Kp.nil0
    refine ta 0 (.pointer (some ⟨b24, 0, none⟩)) ?_
    refine ta 1 (.pointer (some ⟨b24, 0, none⟩)) ?_
    refine ta 2 (.pointer (some ⟨b24, 21, none⟩)) ?_
    refine ta 3 (.int .i32 z_4) ?_
    refine AC.take 4 (.agg #[.int .i64 p2.Break, .bool p2.Pict, .int .i64 p2.Conj, .int .i64 p2.East]) rfl (by kernel_rfl) (by kernel_rfl) (fun c' hle => (rx (by kernel_rfl) (run_loadN (T := 148) (by kernel_rfl) (by kernel_rfl) (fun j u hu => (m5 j u hu).mono ((l18.trans (l36.trans l45)).trans hle))))) ?_
    have O48 := O46.borrow 0 h42 rfl
    obtain ⟨x_22, h50, H9⟩ := bs H9
    refine AC.one 5 (by kernel_rfl) (Go1.callP 5 rfl (by kernel_rfl) (by kernel_rfl) (by kernel_rfl) (c_cwidth_Gauge_Step__widen_Cluster_21 o_15002.gauge z_4 p2 O48 h50) ?_)
    rintro v56 c55 l55 ⟨O52, rfl⟩
    have O57 := O52.giveB 0 rfl
    obtain ⟨s_22003, h62, H9⟩ := bs H9
    obtain ⟨G58, O59, R60, h61, a63⟩ := Rel.put_widen_Cluster O57 (R41.mono (l45.trans l55)) (E' := [⟨.pointer (some ⟨b24, 0, none⟩), 206, [.int .i64 o_15002.at_.Row, .int .i64 o_15002.at_.Col, .bool o_15002.at_.Pending, .int .i64 o_15002.wide, .int .i32 x_15.1.text.1, .int .i32 x_15.1.text.2.1, .int .i32 x_15.1.text.2.2.1, .int .i32 x_15.1.text.2.2.2.1, .int .i32 x_15.1.text.2.2.2.2.1, .int .i32 x_15.1.text.2.2.2.2.2.1, .int .i32 x_15.1.text.2.2.2.2.2.2.1, .int .i32 x_15.1.text.2.2.2.2.2.2.2.1, .int .i32 x_15.1.text.2.2.2.2.2.2.2.2.1, .int .i32 x_15.1.text.2.2.2.2.2.2.2.2.2.1, .int .i32 x_15.1.text.2.2.2.2.2.2.2.2.2.2.1, .int .i32 x_15.1.text.2.2.2.2.2.2.2.2.2.2.2.1, .int .i32 x_15.1.text.2.2.2.2.2.2.2.2.2.2.2.2.1, .int .i32 x_15.1.text.2.2.2.2.2.2.2.2.2.2.2.2.2.1, .int .i32 x_15.1.text.2.2.2.2.2.2.2.2.2.2.2.2.2.2.1, .int .i32 x_15.1.text.2.2.2.2.2.2.2.2.2.2.2.2.2.2.2, .int .i64 x_15.1.n, .bool x_22.1.some, .bool x_22.1.pict, .bool x_22.1.wide], 0⟩]) h62 ⟨b24, ((l36.trans (l45.trans l55)).t _ _ _ h25), rfl⟩
    have p64 : Kp G0 [] c55 := Kp.nil0
    refine ⟨.inr p64, ?_⟩
    refine ta 6 (.int .i64 x_22.2) ?_
    refine AC.done (by kernel_rfl) ?_
    refine nrm ?_
    refine W.ret ?_
    obtain rfl := Option.some.inj H9
    exact ret1 (v := .int .i64 x_22.2) rfl (by kernel_rfl) ⟨_, c55, rfl, rfl, (l6.trans (l18.trans (l36.trans (l45.trans l55)))), G58, O59, R60, rfl⟩

def f_cluster_Cluster_Text__widen_Cluster_4 (p0 : G_cluster_Cluster) : Option (List Int) :=
  if false = true then
  some ([] : List Int)
  else
  (slc (a16 p0.text) 0 p0.n).bind fun x_15 =>
  (f_slices_Clone x_15).bind fun x_16 =>
  some x_16
theorem c_cluster_Cluster_Text__widen_Cluster_4 {c0 : Cx} {G : Gm} {F : List En} {b0_ : Nat} {r0_0 : Value} {r0_1 : Value} {r0_2 : Value} {r0_3 : Value} {r0_21 : Value} {r0_22 : Value} {r0_23 : Value} (p0 : G_cluster_Cluster) (O0 : Own c0 G (⟨.pointer (some ⟨b0_, 0, none⟩), 206, [r0_0, r0_1, r0_2, r0_3, .int .i32 p0.text.1, .int .i32 p0.text.2.1, .int .i32 p0.text.2.2.1, .int .i32 p0.text.2.2.2.1, .int .i32 p0.text.2.2.2.2.1, .int .i32 p0.text.2.2.2.2.2.1, .int .i32 p0.text.2.2.2.2.2.2.1, .int .i32 p0.text.2.2.2.2.2.2.2.1, .int .i32 p0.text.2.2.2.2.2.2.2.2.1, .int .i32 p0.text.2.2.2.2.2.2.2.2.2.1, .int .i32 p0.text.2.2.2.2.2.2.2.2.2.2.1, .int .i32 p0.text.2.2.2.2.2.2.2.2.2.2.2.1, .int .i32 p0.text.2.2.2.2.2.2.2.2.2.2.2.2.1, .int .i32 p0.text.2.2.2.2.2.2.2.2.2.2.2.2.2.1, .int .i32 p0.text.2.2.2.2.2.2.2.2.2.2.2.2.2.2.1, .int .i32 p0.text.2.2.2.2.2.2.2.2.2.2.2.2.2.2.2, .int .i64 p0.n, r0_21, r0_22, r0_23], 0⟩ :: F)) {r : List Int} (H : f_cluster_Cluster_Text__widen_Cluster_4 p0 = some r) :
    Calls Tryd.prog 153 #[.pointer (some ⟨b0_, 4, none⟩)] c0.w (Post c0 fun c v => ∃ y1 : Value, ∃ y2 : List Value, Own c G (es true (RI .i32) y1 21 y2 r :: ⟨.pointer (some ⟨b0_, 0, none⟩), 206, [r0_0, r0_1, r0_2, r0_3, .int .i32 p0.text.1, .int .i32 p0.text.2.1, .int .i32 p0.text.2.2.1, .int .i32 p0.text.2.2.2.1, .int .i32 p0.text.2.2.2.2.1, .int .i32 p0.text.2.2.2.2.2.1, .int .i32 p0.text.2.2.2.2.2.2.1, .int .i32 p0.text.2.2.2.2.2.2.2.1, .int .i32 p0.text.2.2.2.2.2.2.2.2.1, .int .i32 p0.text.2.2.2.2.2.2.2.2.2.1, .int .i32 p0.text.2.2.2.2.2.2.2.2.2.2.1, .int .i32 p0.text.2.2.2.2.2.2.2.2.2.2.2.1, .int .i32 p0.text.2.2.2.2.2.2.2.2.2.2.2.2.1, .int .i32 p0.text.2.2.2.2.2.2.2.2.2.2.2.2.2.1, .int .i32 p0.text.2.2.2.2.2.2.2.2.2.2.2.2.2.2.1, .int .i32 p0.text.2.2.2.2.2.2.2.2.2.2.2.2.2.2.2, .int .i64 p0.n, r0_21, r0_22, r0_23], 0⟩ :: F) ∧ v = y1 ∧ OA (RI .i32) c y1 y2 r) := by
  unfold f_cluster_Cluster_Text__widen_Cluster_4 at H
  refine enter (l := [.pointer (some ⟨b0_, 4, none⟩)]) Tryd.func153 rfl rfl rfl ?_
  refine sr ?_
  refine va (.slice none 0 0) ?_
  refine wln ?_
  refine W.seq ?_
  refine sr ?_
  refine va (.pointer (some ⟨b0_, 4, none⟩)) ?_
  refine va (.bool false) ?_
  refine wln ?_
  refine W.cond (t := false) (by kernel_rfl) (fun h1 => ?_) (fun h1 => ?_)
  · cases h1
  · have H := ie h1 H
    refine W.skip ?_
    refine nrm ?_
    refine W.seq ?_
    refine W.regionD [] (Kp G0 [⟨.pointer (some ⟨b0_, 0, none⟩), 206, [r0_0, r0_1, r0_2, r0_3, .int .i32 p0.text.1, .int .i32 p0.text.2.1, .int .i32 p0.text.2.2.1, .int .i32 p0.text.2.2.2.1, .int .i32 p0.text.2.2.2.2.1, .int .i32 p0.text.2.2.2.2.2.1, .int .i32 p0.text.2.2.2.2.2.2.1, .int .i32 p0.text.2.2.2.2.2.2.2.1, .int .i32 p0.text.2.2.2.2.2.2.2.2.1, .int .i32 p0.text.2.2.2.2.2.2.2.2.2.1, .int .i32 p0.text.2.2.2.2.2.2.2.2.2.2.1, .int .i32 p0.text.2.2.2.2.2.2.2.2.2.2.2.1, .int .i32 p0.text.2.2.2.2.2.2.2.2.2.2.2.2.1, .int .i32 p0.text.2.2.2.2.2.2.2.2.2.2.2.2.2.1, .int .i32 p0.text.2.2.2.2.2.2.2.2.2.2.2.2.2.2.1, .int .i32 p0.text.2.2.2.2.2.2.2.2.2.2.2.2.2.2.2, .int .i64 p0.n, r0_21, r0_22, r0_23], 0⟩]) O0 (by kernel_rfl) ?_
    intro c2 l2 O3
    have p4 : Kp G0 [⟨.pointer (some ⟨b0_, 0, none⟩), 206, [r0_0, r0_1, r0_2, r0_3, .int .i32 p0.text.1, .int .i32 p0.text.2.1, .int .i32 p0.text.2.2.1, .int .i32 p0.text.2.2.2.1, .int .i32 p0.text.2.2.2.2.1, .int .i32 p0.text.2.2.2.2.2.1, .int .i32 p0.text.2.2.2.2.2.2.1, .int .i32 p0.text.2.2.2.2.2.2.2.1, .int .i32 p0.text.2.2.2.2.2.2.2.2.1, .int .i32 p0.text.2.2.2.2.2.2.2.2.2.1, .int .i32 p0.text.2.2.2.2.2.2.2.2.2.2.1, .int .i32 p0.text.2.2.2.2.2.2.2.2.2.2.2.1, .int .i32 p0.text.2.2.2.2.2.2.2.2.2.2.2.2.1, .int .i32 p0.text.2.2.2.2.2.2.2.2.2.2.2.2.2.1, .int .i32 p0.text.2.2.2.2.2.2.2.2.2.2.2.2.2.2.1, .int .i32 p0.text.2.2.2.2.2.2.2.2.2.2.2.2.2.2.2, .int .i64 p0.n, r0_21, r0_22, r0_23], 0⟩] c2 := (Kp.cons (O3.on 0 rfl) Kp.nil0)
    refine ta 0 (.pointer (some ⟨b0_, 4, none⟩)) ?_
    refine ta 1 (.pointer (some ⟨b0_, 4, none⟩)) ?_
    refine ta 2 (.pointer (some ⟨b0_, 4, none⟩)) ?_
    refine ta 3 (.pointer (some ⟨b0_, 4, none⟩)) ?_
    refine ta 4 (.pointer (some ⟨b0_, 4, none⟩)) ?_
    refine ta 5 (.pointer (some ⟨b0_, 20, none⟩)) ?_
    refine AC.takeK 6 (.int .i64 p0.n) p4 rfl (by kernel_rfl) (by kernel_rfl) (by kernel_rfl) (fun c' hle hk => (rx (by kernel_rfl) (ldE1 (j := 20) Tryd.underlying3 rfl (hk.on 0 rfl) rfl rfl))) ?_
    obtain ⟨x_15, h5, H⟩ := bs H
    refine AC.take 7 (.slice (some ⟨b0_, 4, none⟩) p0.n.toNat 16) rfl (by kernel_rfl) (by kernel_rfl) (fun c' hle => (rx (by kernel_rfl) (run_cutA (k := .i64) Tryd.underlying200 (by kernel_rfl) (slc_ok h5).2.1 (slc_ok h5).2.2.1 _))) ?_
    obtain ⟨x_16, h7, H⟩ := bs H
    refine AC.one 8 (by kernel_rfl) (Go1.callP 8 rfl (by kernel_rfl) (by kernel_rfl) (by kernel_rfl) (c_slices_CloneV O3 rfl (slc_len0 h5) (view16 (k := .i32) h5 [r0_0, r0_1, r0_2, r0_3] [.int .i64 p0.n, r0_21, r0_22, r0_23]) h7) ?_)
    rintro v8 c12 l12 ⟨_, u9, O10, rfl, h11⟩
    have p13 : Kp G0 [⟨.pointer (some ⟨b0_, 0, none⟩), 206, [r0_0, r0_1, r0_2, r0_3, .int .i32 p0.text.1, .int .i32 p0.text.2.1, .int .i32 p0.text.2.2.1, .int .i32 p0.text.2.2.2.1, .int .i32 p0.text.2.2.2.2.1, .int .i32 p0.text.2.2.2.2.2.1, .int .i32 p0.text.2.2.2.2.2.2.1, .int .i32 p0.text.2.2.2.2.2.2.2.1, .int .i32 p0.text.2.2.2.2.2.2.2.2.1, .int .i32 p0.text.2.2.2.2.2.2.2.2.2.1, .int .i32 p0.text.2.2.2.2.2.2.2.2.2.2.1, .int .i32 p0.text.2.2.2.2.2.2.2.2.2.2.2.1, .int .i32 p0.text.2.2.2.2.2.2.2.2.2.2.2.2.1, .int .i32 p0.text.2.2.2.2.2.2.2.2.2.2.2.2.2.1, .int .i32 p0.text.2.2.2.2.2.2.2.2.2.2.2.2.2.2.1, .int .i32 p0.text.2.2.2.2.2.2.2.2.2.2.2.2.2.2.2, .int .i64 p0.n, r0_21, r0_22, r0_23], 0⟩] c12 := (Kp.cons (O10.on 1 rfl) Kp.nil0)
    refine ⟨.inr p13, ?_⟩
    refine ta 9 (v8) ?_
    refine AC.done (by kernel_rfl) ?_
    refine nrm ?_
    refine W.ret ?_
    obtain rfl := Option.some.inj H
    exact ret1 (v := v8) rfl (by kernel_rfl) ⟨_, c12, rfl, rfl, (l2.trans l12), v8, u9, O10, rfl, h11⟩

def f_widen_Begin (sg : Sto) (p0 : Option Nat) (p1 : Int) (p2 : G_api_Prop) : Option (Sto × (Option Nat)) :=
  (orE p0.isNone ((p0).bind fun k_9 =>
  (sg.place_Pen[k_9]?).bind fun o_11 =>
  some o_11.G.isNone)).bind fun d_6 =>
  if d_6 = true then
  some (sg, (none : Option Nat))
  else
  (some (sg.add_widen_Cluster (⟨(⟨0, 0, false⟩ : G_api_Cursor), 0, (⟨(0, 0, 0, 0, 0, 0, 0, 0, 0, 0, 0, 0, 0, 0, 0, 0), 0⟩ : G_cluster_Cluster), (⟨false, false, false⟩ : G_cwidth_Gauge)⟩ : G_widen_Cluster))).bind fun s_17001 =>
  (f_widen_Cluster_add s_17001 (some sg.widen_Cluster.length) p1 p2).bind fun x_24 =>
  (x_24.1.widen_Cluster[sg.widen_Cluster.length]?).bind fun o_27 =>
  (x_24.1.set_widen_Cluster sg.widen_Cluster.length (⟨o_27.at_, x_24.2, o_27.text, o_27.gauge⟩ : G_widen_Cluster)).bind fun s_27001 =>
  (f_cluster_Cluster_Text__widen_Cluster_4 o_27.text).bind fun x_38 =>
  (f_place_Pen_Put s_27001 p0 x_24.2 x_38).bind fun x_39 =>
  (x_39.1.widen_Cluster[sg.widen_Cluster.length]?).bind fun o_42 =>
  (x_39.1.set_widen_Cluster sg.widen_Cluster.length (⟨x_39.2, o_42.wide, o_42.text, o_42.gauge⟩ : G_widen_Cluster)).bind fun s_42001 =>
  some (s_42001, (some sg.widen_Cluster.length))
theorem c_widen_Begin {c0 : Cx} {G : Gm} {F : List En} {sg : Sto} {v1 : Value} (O0 : Own c0 G F) (R0 : Rel c0 sg G) (hG : Gl [0, 1] c0) (p0 : Option Nat) (p1 : Int) (p2 : G_api_Prop) {r : Sto × (Option Nat)} (h2 : Pt 2 c0 v1 p0) (H : f_widen_Begin sg p0 p1 p2 = some r) :
    Calls Tryd.prog 89 #[v1, .int .i32 p1, .agg #[.int .i64 p2.Break, .bool p2.Pict, .int .i64 p2.Conj, .int .i64 p2.East]] c0.w (Post c0 fun c v => ∃ y1 : Value, ∃ G_ : Gm, Own c G_ (F) ∧ Rel c r.1 G_ ∧ v = y1 ∧ Pt 3 c y1 r.2) := by
  unfold f_widen_Begin at H
  refine enter (l := [v1, .int .i32 p1, .agg #[.int .i64 p2.Break, .bool p2.Pict, .int .i64 p2.Conj, .int .i64 p2.East]]) Tryd.func89 rfl rfl rfl ?_
  refine sr ?_
  refine WL.mem rfl (Own.bx (T := 148) (vs := [.int .i64 p2.Break, .bool p2.Pict, .int .i64 p2.Conj, .int .i64 p2.East]) O0 (by kernel_rfl)) ?_
  rintro v7 c6 l6 ⟨b3, rfl, O4, m5⟩
  refine va (.pointer none) ?_
  refine wln ?_
  refine W.seq ?_
  refine W.seq ?_
  obtain ⟨d_6, h8, H⟩ := bs H
  refine W.join (fun e w => ∃ (c : Cx) (g : Nat → Value), w = c.w ∧ c6.le c ∧ Own c G (F) ∧ e = ups g [(0, v1), (1, .int .i32 p1), (5, .pointer (some ⟨b3, 0, none⟩)), (16, .bool d_6)]) ?_ ?_
  · clear H
    refine W.region ?_
    refine va (v1) ?_
    refine WL.val0 (v := .bool p0.isNone) rfl (by rcases ((h2.mono l6)).cs with ⟨h1_, h2_⟩ | ⟨b_, h1_, h2_⟩ <;> (subst h1_; rw [h2_]; kernel_rfl)) ?_
    rcases Bool.eq_false_or_eq_true (p0.isNone) with h9 | h9
    · skip
      obtain rfl := orT h9 h8
      refine vb h9 ?_
      refine ps ?_
      refine ps ?_
      refine ps ?_
      refine ps ?_
      refine ps ?_
      refine va (.bool true) ?_
      refine wln ?_
      exact ⟨c6, _, rfl, (Cx.le.refl _), O4, ups_self ⟨rfl, rfl, rfl, rfl, trivial⟩⟩
    · skip
      have H10 := orF h9 h8
      refine vb h9 ?_
      refine wn ?_
      refine va (v1) ?_
      refine wn ?_
      obtain ⟨k_9, h13, H10⟩ := bs H10
      obtain ⟨b11, rfl, h12⟩ := ((h2.mono l6)).get h13
      refine va (.pointer (some ⟨b11, 0, none⟩)) ?_
      refine wn ?_
      refine va (.pointer (some ⟨b11, 0, none⟩)) ?_
      refine wn ?_
      obtain ⟨o_11, h14, H10⟩ := bs H10
      obtain ⟨v15, h17, h16⟩ := Rel.open_place_Pen (R0.mono l6) h14 h12
      refine WL.val0 (v := v15) rfl (rx (by kernel_rfl) (ldE1 (j := 0) Tryd.underlying51 rfl (O4.gon h17 0 rfl) rfl rfl)) ?_
      refine wn ?_
      refine WL.val0 (v := .bool o_11.G.isNone) rfl (by rcases (h16).cs with ⟨h1_, h2_⟩ | ⟨b_, h1_, h2_⟩ <;> (subst h1_; rw [h2_]; kernel_rfl)) ?_
      obtain rfl := Option.some.inj H10
      refine va (.bool o_11.G.isNone) ?_
      refine wln ?_
      exact ⟨c6, _, rfl, (Cx.le.refl _), O4, ups_self ⟨rfl, rfl, rfl, rfl, trivial⟩⟩
  · skip
    rintro e_ w_ ⟨c18, g19, rfl, l18, O20, rfl⟩
    refine nrm ?_
    refine W.cond (t := d_6) (by kernel_rfl) (fun h24 => ?_) (fun h24 => ?_)
    · have H := it h24 H
      refine sr ?_
      refine va (.pointer none) ?_
      refine wln ?_
      refine W.ret ?_
      refine thr ?_
      obtain rfl := Option.some.inj H
      exact ret1 (v := .pointer none) rfl (by kernel_rfl) ⟨_, c18, rfl, rfl, (l6.trans l18), (.pointer none), G, O20, (R0.mono (l6.trans l18)), rfl, rfl⟩
    · have H := ie h24 H
      refine W.skip ?_
      refine nrm ?_
      refine sr ?_
      refine va (.agg #[.int .i64 0, .int .i64 0, .bool false, .int .i64 0, .int .i32 0, .int .i32 0, .int .i32 0, .int .i32 0, .int .i32 0, .int .i32 0, .int .i32 0, .int .i32 0, .int .i32 0, .int .i32 0, .int .i32 0, .int .i32 0, .int .i32 0, .int .i32 0, .int .i32 0, .int .i32 0, .int .i64 0, .bool false, .bool false, .bool false]) ?_
      refine WL.mem rfl (Own.al (T := 206) (vs := [.int .i64 0, .int .i64 0, .bool false, .int .i64 0, .int .i32 0, .int .i32 0, .int .i32 0, .int .i32 0, .int .i32 0, .int .i32 0, .int .i32 0, .int .i32 0, .int .i32 0, .int .i32 0, .int .i32 0, .int .i32 0, .int .i32 0, .int .i32 0, .int .i32 0, .int .i32 0, .int .i64 0, .bool false, .bool false, .bool false]) O20 (by kernel_rfl)) ?_
      rintro v28 c27 l27 ⟨b25, rfl, O26⟩
      have O29 := O26.selD 1 [0] (by kernel_rfl) (by kernel_rfl)
      obtain ⟨s_17001, h30, H⟩ := bs H
      obtain ⟨c31, G39, h32, l31, h33, O34, R35, h36, h37, a38⟩ := Rel.new_widen_Cluster (E := [⟨.pointer (some ⟨b25, 0, none⟩), 206, [.int .i64 0, .int .i64 0, .bool false, .int .i64 0, .int .i32 0, .int .i32 0, .int .i32 0, .int .i32 0, .int .i32 0, .int .i32 0, .int .i32 0, .int .i32 0, .int .i32 0, .int .i32 0, .int .i32 0, .int .i32 0, .int .i32 0, .int .i32 0, .int .i32 0, .int .i32 0, .int .i64 0, .bool false, .bool false, .bool false], 0⟩]) (F := F) (x := (⟨(⟨0, 0, false⟩ : G_api_Cursor), 0, (⟨(0, 0, 0, 0, 0, 0, 0, 0, 0, 0, 0, 0, 0, 0, 0, 0), 0⟩ : G_cluster_Cluster), (⟨false, false, false⟩ : G_cwidth_Gauge)⟩ : G_widen_Cluster)) (b := b25) O29 (R0.mono (l6.trans (l18.trans l27))) (fun c_ hle_ => ⟨b25, rfl, rfl⟩)
      rw [Option.some.inj h30] at R35
      refine WL.gh h32.1 ?_
      have h41 : Pt 3 c31 (.pointer (some ⟨b25, 0, none⟩)) (some sg.widen_Cluster.length) := ⟨b25, rfl, h33⟩
      refine va (.pointer (some ⟨b25, 0, none⟩)) ?_
      refine wln ?_
      refine sr ?_
      refine va (.pointer (some ⟨b25, 0, none⟩)) ?_
      refine va (.pointer (some ⟨b25, 0, none⟩)) ?_
      refine va (.int .i32 p1) ?_
      refine WL.val0 (v := .agg #[.int .i64 p2.Break, .bool p2.Pict, .int .i64 p2.Conj, .int .i64 p2.East]) rfl (rx (by kernel_rfl) (run_loadN (T := 148) (by kernel_rfl) (by kernel_rfl) (fun j u hu => (m5 j u hu).mono (l18.trans (l27.trans l31))))) ?_
      obtain ⟨x_24, h42, H⟩ := bs H
      refine WL.callP rfl (by kernel_rfl) (c_widen_Cluster_add O34 R35 (some sg.widen_Cluster.length) p1 p2 h41 h42) ?_
      rintro v48 c47 l47 ⟨G43, O44, R45, rfl⟩
      refine va (.pointer (some ⟨b25, 0, none⟩)) ?_
      refine va (.pointer (some ⟨b25, 3, none⟩)) ?_
      obtain ⟨o_27, h49, H⟩ := bs H
      have h50 := Rel.open_widen_Cluster R45 h49 (l47.t _ _ _ h33)
      refine WL.memD rfl (Own.stG (T := 3) (j := 3) (us := [.int .i64 x_24.2]) (nw := [.int .i64 o_27.at_.Row, .int .i64 o_27.at_.Col, .bool o_27.at_.Pending, .int .i64 x_24.2, .int .i32 o_27.text.text.1, .int .i32 o_27.text.text.2.1, .int .i32 o_27.text.text.2.2.1, .int .i32 o_27.text.text.2.2.2.1, .int .i32 o_27.text.text.2.2.2.2.1, .int .i32 o_27.text.text.2.2.2.2.2.1, .int .i32 o_27.text.text.2.2.2.2.2.2.1, .int .i32 o_27.text.text.2.2.2.2.2.2.2.1, .int .i32 o_27.text.text.2.2.2.2.2.2.2.2.1, .int .i32 o_27.text.text.2.2.2.2.2.2.2.2.2.1, .int .i32 o_27.text.text.2.2.2.2.2.2.2.2.2.2.1, .int .i32 o_27.text.text.2.2.2.2.2.2.2.2.2.2.2.1, .int .i32 o_27.text.text.2.2.2.2.2.2.2.2.2.2.2.2.1, .int .i32 o_27.text.text.2.2.2.2.2.2.2.2.2.2.2.2.2.1, .int .i32 o_27.text.text.2.2.2.2.2.2.2.2.2.2.2.2.2.2.1, .int .i32 o_27.text.text.2.2.2.2.2.2.2.2.2.2.2.2.2.2.2, .int .i64 o_27.text.n, .bool o_27.gauge.some, .bool o_27.gauge.pict, .bool o_27.gauge.wide]) (v := .int .i64 x_24.2) 0 O44 (by kernel_rfl) h50 rfl rfl rfl rfl (by kernel_rfl) ⟨rfl, trivial⟩ rfl rfl) ?_
      rintro c52 l52 O51
      obtain ⟨s_27001, h57, H⟩ := bs H
      obtain ⟨G53, O54, R55, h56, a58⟩ := Rel.put_widen_Cluster O51 (R45.mono l52) (E' := [⟨.pointer (some ⟨b25, 0, none⟩), 206, [.int .i64 o_27.at_.Row, .int .i64 o_27.at_.Col, .bool o_27.at_.Pending, .int .i64 x_24.2, .int .i32 o_27.text.text.1, .int .i32 o_27.text.text.2.1, .int .i32 o_27.text.text.2.2.1, .int .i32 o_27.text.text.2.2.2.1, .int .i32 o_27.text.text.2.2.2.2.1, .int .i32 o_27.text.text.2.2.2.2.2.1, .int .i32 o_27.text.text.2.2.2.2.2.2.1, .int .i32 o_27.text.text.2.2.2.2.2.2.2.1, .int .i32 o_27.text.text.2.2.2.2.2.2.2.2.1, .int .i32 o_27.text.text.2.2.2.2.2.2.2.2.2.1, .int .i32 o_27.text.text.2.2.2.2.2.2.2.2.2.2.1, .int .i32 o_27.text.text.2.2.2.2.2.2.2.2.2.2.2.1, .int .i32 o_27.text.text.2.2.2.2.2.2.2.2.2.2.2.2.1, .int .i32 o_27.text.text.2.2.2.2.2.2.2.2.2.2.2.2.2.1, .int .i32 o_27.text.text.2.2.2.2.2.2.2.2.2.2.2.2.2.2.1, .int .i32 o_27.text.text.2.2.2.2.2.2.2.2.2.2.2.2.2.2.2, .int .i64 o_27.text.n, .bool o_27.gauge.some, .bool o_27.gauge.pict, .bool o_27.gauge.wide], 0⟩]) h57 ⟨b25, ((l47.trans l52).t _ _ _ h33), rfl⟩
      refine wln ?_
      refine W.seq ?_
      refine W.regionD [10, 13] (Kp G53 []) O54 (by kernel_rfl) ?_
      intro c59 l59 O60
      have p61 : Kp G53 [] c59 := (Kp.nil O60)
      refine ta 0 (.pointer (some ⟨b25, 0, none⟩)) ?_
      refine ta 1 (v1) ?_
      refine ta 2 (.pointer (some ⟨b25, 0, none⟩)) ?_
      refine ta 3 (.pointer (some ⟨b25, 0, none⟩)) ?_
      refine ta 4 (.pointer (some ⟨b25, 3, none⟩)) ?_
      refine AC.takeK 5 (.int .i64 x_24.2) p61 rfl (by kernel_rfl) (by kernel_rfl) (by kernel_rfl) (fun c' hle hk => (rx (by kernel_rfl) (ldE1 (j := 3) Tryd.underlying3 rfl (hk.gon h56 0 rfl) rfl rfl))) ?_
      refine ta 6 (.pointer (some ⟨b25, 0, none⟩)) ?_
      refine ta 7 (.pointer (some ⟨b25, 0, none⟩)) ?_
      refine ta 8 (.pointer (some ⟨b25, 4, none⟩)) ?_
      have O62 := O60.borrow 0 h56 rfl
      obtain ⟨x_38, h64, H⟩ := bs H
      refine AC.one 9 (by kernel_rfl) (Go1.callP 9 rfl (by kernel_rfl) (by kernel_rfl) (by kernel_rfl) (c_cluster_Cluster_Text__widen_Cluster_4 o_27.text O62 h64) ?_)
      rintro v65 c72 l72 ⟨_, u66, O69, rfl, h67⟩
      have O75 := O69.selD 2 [1, 0] (by kernel_rfl) (by kernel_rfl)
      have O74 := O75.giveB 0 rfl
      have O76 := Own.back O74 h56 rfl
      have p77 : Kp G53 [] c72 := (Kp.nil O76)
      refine ⟨.inr p77, ?_⟩
      obtain ⟨c80, h81, l80, O78, h79⟩ := O76.frz 0 rfl h67
      have p82 : Kp G53 [] c80 := (Kp.nil O78)
      refine AC.gh h81 l80 (fun _ => p82) ?_
      obtain ⟨x_39, h83, H⟩ := bs H
      refine AC.one 10 (by kernel_rfl) (Go1.callP 10 rfl (by kernel_rfl) (by kernel_rfl) (by kernel_rfl) (c_place_Pen_Put O78 (R55.mono (l59.trans (l72.trans l80))) ((hG.mono (l6.trans (l18.trans (l27.trans (l31.trans (l47.trans (l52.trans (l59.trans (l72.trans l80))))))))).le (by decide)) p0 x_24.2 x_38 (h2.mono (l6.trans (l18.trans (l27.trans (l31.trans (l47.trans (l52.trans (l59.trans (l72.trans l80))))))))) h79 h83) ?_)
      rintro v89 c88 l88 ⟨G84, O85, R86, rfl⟩
      refine ⟨.inl rfl, ?_⟩
      refine ta 11 (.pointer (some ⟨b25, 0, none⟩)) ?_
      refine ta 12 (.pointer (some ⟨b25, 0, none⟩)) ?_
      obtain ⟨o_42, h90, H⟩ := bs H
      have h91 := Rel.open_widen_Cluster R86 h90 ((l47.trans (l52.trans (l59.trans (l72.trans (l80.trans l88))))).t _ _ _ h33)
      refine AC.one 13 (by kernel_rfl) (Go1.memD 13 rfl (by kernel_rfl) (by kernel_rfl) (Own.stG (T := 120) (j := 0) (us := [.int .i64 x_39.2.Row, .int .i64 x_39.2.Col, .bool x_39.2.Pending]) (nw := [.int .i64 x_39.2.Row, .int .i64 x_39.2.Col, .bool x_39.2.Pending, .int .i64 o_42.wide, .int .i32 o_42.text.text.1, .int .i32 o_42.text.text.2.1, .int .i32 o_42.text.text.2.2.1, .int .i32 o_42.text.text.2.2.2.1, .int .i32 o_42.text.text.2.2.2.2.1, .int .i32 o_42.text.text.2.2.2.2.2.1, .int .i32 o_42.text.text.2.2.2.2.2.2.1, .int .i32 o_42.text.text.2.2.2.2.2.2.2.1, .int .i32 o_42.text.text.2.2.2.2.2.2.2.2.1, .int .i32 o_42.text.text.2.2.2.2.2.2.2.2.2.1, .int .i32 o_42.text.text.2.2.2.2.2.2.2.2.2.2.1, .int .i32 o_42.text.text.2.2.2.2.2.2.2.2.2.2.2.1, .int .i32 o_42.text.text.2.2.2.2.2.2.2.2.2.2.2.2.1, .int .i32 o_42.text.text.2.2.2.2.2.2.2.2.2.2.2.2.2.1, .int .i32 o_42.text.text.2.2.2.2.2.2.2.2.2.2.2.2.2.2.1, .int .i32 o_42.text.text.2.2.2.2.2.2.2.2.2.2.2.2.2.2.2, .int .i64 o_42.text.n, .bool o_42.gauge.some, .bool o_42.gauge.pict, .bool o_42.gauge.wide]) (v := .agg #[.int .i64 x_39.2.Row, .int .i64 x_39.2.Col, .bool x_39.2.Pending]) 0 O85 (by kernel_rfl) h91 rfl rfl rfl rfl (by kernel_rfl) ⟨rfl, rfl, rfl, trivial⟩ rfl rfl) ?_)
      rintro c93 l93 O92
      obtain ⟨s_42001, h98, H⟩ := bs H
      obtain ⟨G94, O95, R96, h97, a99⟩ := Rel.put_widen_Cluster O92 (R86.mono l93) (E' := [⟨.pointer (some ⟨b25, 0, none⟩), 206, [.int .i64 x_39.2.Row, .int .i64 x_39.2.Col, .bool x_39.2.Pending, .int .i64 o_42.wide, .int .i32 o_42.text.text.1, .int .i32 o_42.text.text.2.1, .int .i32 o_42.text.text.2.2.1, .int .i32 o_42.text.text.2.2.2.1, .int .i32 o_42.text.text.2.2.2.2.1, .int .i32 o_42.text.text.2.2.2.2.2.1, .int .i32 o_42.text.text.2.2.2.2.2.2.1, .int .i32 o_42.text.text.2.2.2.2.2.2.2.1, .int .i32 o_42.text.text.2.2.2.2.2.2.2.2.1, .int .i32 o_42.text.text.2.2.2.2.2.2.2.2.2.1, .int .i32 o_42.text.text.2.2.2.2.2.2.2.2.2.2.1, .int .i32 o_42.text.text.2.2.2.2.2.2.2.2.2.2.2.1, .int .i32 o_42.text.text.2.2.2.2.2.2.2.2.2.2.2.2.1, .int .i32 o_42.text.text.2.2.2.2.2.2.2.2.2.2.2.2.2.1, .int .i32 o_42.text.text.2.2.2.2.2.2.2.2.2.2.2.2.2.2.1, .int .i32 o_42.text.text.2.2.2.2.2.2.2.2.2.2.2.2.2.2.2, .int .i64 o_42.text.n, .bool o_42.gauge.some, .bool o_42.gauge.pict, .bool o_42.gauge.wide], 0⟩]) h98 ⟨b25, ((l47.trans (l52.trans (l59.trans (l72.trans (l80.trans (l88.trans l93)))))).t _ _ _ h33), rfl⟩
      refine ⟨.inl rfl, ?_⟩
      refine AC.done (by kernel_rfl) ?_
      refine nrm ?_
      refine sr ?_
      refine va (.pointer (some ⟨b25, 0, none⟩)) ?_
      refine va (.pointer (some ⟨b25, 0, none⟩)) ?_
      refine wln ?_
      refine W.ret ?_
      obtain rfl := Option.some.inj H
      have O100 := O95.selD 1 [] (by kernel_rfl) (by kernel_rfl)
      exact ret1 (v := .pointer (some ⟨b25, 0, none⟩)) rfl (by kernel_rfl) ⟨_, c93, rfl, rfl, (l6.trans (l18.trans (l27.trans (l31.trans (l47.trans (l52.trans (l59.trans (l72.trans (l80.trans (l88.trans l93)))))))))), (.pointer (some ⟨b25, 0, none⟩)), G94, O100, R96, rfl, (h41.mono (l47.trans (l52.trans (l59.trans (l72.trans (l80.trans (l88.trans l93)))))))⟩

def f_widen_Cluster_Join (sg : Sto) (p0 : Option Nat) (p1 : Option Nat) (p2 : Int) (p3 : G_api_Prop) : Option (Sto × Bool) :=
  (orE p0.isNone (some p1.isNone)).bind fun d_6 =>
  (orE d_6 ((p1).bind fun k_13 =>
  (sg.place_Pen[k_13]?).bind fun o_15 =>
  some o_15.G.isNone)).bind fun d_10 =>
  (orE d_10 ((p0).bind fun k_20 =>
  (sg.widen_Cluster[k_20]?).bind fun o_22002 =>
  (f_cluster_Cluster_Full__widen_Cluster_4 o_22002.text).bind fun x_22 =>
  some x_22)).bind fun d_17 =>
  if d_17 = true then
  some (sg, false)
  else
  (p0).bind fun k_27 =>
  (sg.widen_Cluster[k_27]?).bind fun o_29 =>
  (f_widen_Cluster_add sg p0 p2 p3).bind fun x_36 =>
  (x_36.1.widen_Cluster[k_27]?).bind fun o_39 =>
  (x_36.1.set_widen_Cluster k_27 (⟨o_39.at_, x_36.2, o_39.text, o_39.gauge⟩ : G_widen_Cluster)).bind fun s_39001 =>
  (if (x_36.2 != o_29.wide) = true then
  (p1).bind fun k_55 =>
  (s_39001.place_Pen[k_55]?).bind fun o_57 =>
  (s_39001.set_place_Pen k_55 (⟨o_57.G, o_39.at_, o_57.Auto⟩ : G_place_Pen)).bind fun s_57001 =>
  (s_57001.widen_Cluster[k_27]?).bind fun o_64 =>
  (f_cluster_Cluster_Text__widen_Cluster_4 o_64.text).bind fun x_68 =>
  (f_place_Pen_Put s_57001 p1 o_64.wide x_68).bind fun x_69 =>
  (x_69.1.widen_Cluster[k_27]?).bind fun o_72 =>
  (x_69.1.set_widen_Cluster k_27 (⟨x_69.2, o_72.wide, o_72.text, o_72.gauge⟩ : G_widen_Cluster)).bind fun s_72001 =>
  (some (s_72001) : Option (Sto))
  else
  (p1).bind fun k_79 =>
  (s_39001.place_Pen[k_79]?).bind fun o_81 =>
  (f_grid_Grid_Wide s_39001 o_81.G).bind fun x_82 =>
  if (decide (x_36.2 ≤ x_82)) = true then
  (f_grid_Grid_Row s_39001 o_81.G o_39.at_.Row).bind fun x_101 =>
  (f_mark_Add s_39001 x_101 o_39.at_.Col p2).bind fun x_102 =>
  (some (x_102.1) : Option (Sto))
  else
  (some (s_39001) : Option (Sto))).bind fun z_41 =>
  some (z_41, true)
theorem c_widen_Cluster_Join {c0 : Cx} {G : Gm} {F : List En} {sg : Sto} {v1 : Value} {v3 : Value} (O0 : Own c0 G F) (R0 : Rel c0 sg G) (hG : Gl [0, 1] c0) (p0 : Option Nat) (p1 : Option Nat) (p2 : Int) (p3 : G_api_Prop) {r : Sto × Bool} (h2 : Pt 3 c0 v1 p0) (h4 : Pt 2 c0 v3 p1) (H : f_widen_Cluster_Join sg p0 p1 p2 p3 = some r) :
    Calls Tryd.prog 90 #[v1, v3, .int .i32 p2, .agg #[.int .i64 p3.Break, .bool p3.Pict, .int .i64 p3.Conj, .int .i64 p3.East]] c0.w (Post c0 fun c v => ∃ G_ : Gm, Own c G_ (F) ∧ Rel c r.1 G_ ∧ v = .bool r.2) := by
  unfold f_widen_Cluster_Join at H
  refine enter (l := [v1, v3, .int .i32 p2, .agg #[.int .i64 p3.Break, .bool p3.Pict, .int .i64 p3.Conj, .int .i64 p3.East]]) Tryd.func90 rfl rfl rfl ?_
  refine sr ?_
  refine WL.mem rfl (Own.bx (T := 148) (vs := [.int .i64 p3.Break, .bool p3.Pict, .int .i64 p3.Conj, .int .i64 p3.East]) O0 (by kernel_rfl)) ?_
  rintro v9 c8 l8 ⟨b5, rfl, O6, m7⟩
  refine va (.bool false) ?_
  refine wln ?_
  refine W.seq ?_
  refine W.seq ?_
  obtain ⟨d_6, h10, H⟩ := bs H
  obtain ⟨d_10, h11, H⟩ := bs H
  obtain ⟨d_17, h12, H⟩ := bs H
  refine W.join (fun e w => ∃ (c : Cx) (g : Nat → Value), w = c.w ∧ c8.le c ∧ Own c G (F) ∧ e = ups g [(0, v1), (1, v3), (2, .int .i32 p2), (7, .pointer (some ⟨b5, 0, none⟩)), (28, .bool d_17)]) ?_ ?_
  · clear H
    refine W.region ?_
    refine va (v1) ?_
    refine WL.val0 (v := .bool p0.isNone) rfl (by rcases ((h2.mono l8)).cs with ⟨h1_, h2_⟩ | ⟨b_, h1_, h2_⟩ <;> (subst h1_; rw [h2_]; kernel_rfl)) ?_
    rcases Bool.eq_false_or_eq_true (p0.isNone) with h13 | h13
    · skip
      obtain rfl := orT h13 h10
      refine vb h13 ?_
      refine ps ?_
      refine ps ?_
      refine va (.bool true) ?_
      have h14 : true = true := rfl
      obtain rfl := orT h14 h11
      refine vb h14 ?_
      refine ps ?_
      refine ps ?_
      refine ps ?_
      refine ps ?_
      refine ps ?_
      refine va (.bool true) ?_
      have h15 : true = true := rfl
      obtain rfl := orT h15 h12
      refine vb h15 ?_
      refine ps ?_
      refine ps ?_
      refine ps ?_
      refine ps ?_
      refine va (.bool true) ?_
      refine wln ?_
      exact ⟨c8, _, rfl, (Cx.le.refl _), O6, ups_self ⟨rfl, rfl, rfl, rfl, rfl, trivial⟩⟩
    · skip
      have H16 := orF h13 h10
      refine vb h13 ?_
      refine wn ?_
      refine va (v3) ?_
      refine wn ?_
      refine WL.val0 (v := .bool p1.isNone) rfl (by rcases ((h4.mono l8)).cs with ⟨h1_, h2_⟩ | ⟨b_, h1_, h2_⟩ <;> (subst h1_; rw [h2_]; kernel_rfl)) ?_
      obtain rfl := Option.some.inj H16
      refine va (.bool p1.isNone) ?_
      rcases Bool.eq_false_or_eq_true (p1.isNone) with h17 | h17
      · skip
        obtain rfl := orT h17 h11
        refine vb h17 ?_
        refine ps ?_
        refine ps ?_
        refine ps ?_
        refine ps ?_
        refine ps ?_
        refine va (.bool true) ?_
        have h18 : true = true := rfl
        obtain rfl := orT h18 h12
        refine vb h18 ?_
        refine ps ?_
        refine ps ?_
        refine ps ?_
        refine ps ?_
        refine va (.bool true) ?_
        refine wln ?_
        exact ⟨c8, _, rfl, (Cx.le.refl _), O6, ups_self ⟨rfl, rfl, rfl, rfl, rfl, trivial⟩⟩
      · skip
        have H19 := orF h17 h11
        refine vb h17 ?_
        refine wn ?_
        refine va (v3) ?_
        refine wn ?_
        obtain ⟨k_13, h22, H19⟩ := bs H19
        obtain ⟨b20, rfl, h21⟩ := ((h4.mono l8)).get h22
        refine va (.pointer (some ⟨b20, 0, none⟩)) ?_
        refine wn ?_
        refine va (.pointer (some ⟨b20, 0, none⟩)) ?_
        refine wn ?_
        obtain ⟨o_15, h23, H19⟩ := bs H19
        obtain ⟨v24, h26, h25⟩ := Rel.open_place_Pen (R0.mono l8) h23 h21
        refine WL.val0 (v := v24) rfl (rx (by kernel_rfl) (ldE1 (j := 0) Tryd.underlying51 rfl (O6.gon h26 0 rfl) rfl rfl)) ?_
        refine wn ?_
        refine WL.val0 (v := .bool o_15.G.isNone) rfl (by rcases (h25).cs with ⟨h1_, h2_⟩ | ⟨b_, h1_, h2_⟩ <;> (subst h1_; rw [h2_]; kernel_rfl)) ?_
        obtain rfl := Option.some.inj H19
        refine va (.bool o_15.G.isNone) ?_
        rcases Bool.eq_false_or_eq_true (o_15.G.isNone) with h27 | h27
        · skip
          obtain rfl := orT h27 h12
          refine vb h27 ?_
          refine ps ?_
          refine ps ?_
          refine ps ?_
          refine ps ?_
          refine va (.bool true) ?_
          refine wln ?_
          exact ⟨c8, _, rfl, (Cx.le.refl _), O6, ups_self ⟨rfl, rfl, rfl, rfl, rfl, trivial⟩⟩
        · skip
          have H28 := orF h27 h12
          refine vb h27 ?_
          refine wn ?_
          refine va (v1) ?_
          refine wn ?_
          obtain ⟨k_20, h31, H28⟩ := bs H28
          obtain ⟨b29, rfl, h30⟩ := ((h2.mono l8)).get h31
          refine va (.pointer (some ⟨b29, 0, none⟩)) ?_
          refine wn ?_
          refine va (.pointer (some ⟨b29, 4, none⟩)) ?_
          refine wn ?_
          obtain ⟨o_22002, h32, H28⟩ := bs H28
          have h33 := Rel.open_widen_Cluster (R0.mono l8) h32 h30
          have O34 := O6.borrow 0 h33 rfl
          obtain ⟨x_22, h36, H28⟩ := bs H28
          refine WL.callP rfl (by kernel_rfl) (c_cluster_Cluster_Full__widen_Cluster_4 o_22002.text O34 h36) ?_
          rintro v42 c41 l41 ⟨O38, rfl⟩
          have O43 := O38.giveB 0 rfl
          have O44 := Own.back O43 h33 rfl
          obtain rfl := Option.some.inj H28
          refine va (.bool x_22) ?_
          refine wln ?_
          exact ⟨c41, _, rfl, l41, O44, ups_self ⟨rfl, rfl, rfl, rfl, rfl, trivial⟩⟩
  · skip
    rintro e_ w_ ⟨c45, g46, rfl, l45, O47, rfl⟩
    refine nrm ?_
    refine W.cond (t := d_17) (by kernel_rfl) (fun h51 => ?_) (fun h51 => ?_)
    · have H := it h51 H
      refine sr ?_
      refine va (.bool false) ?_
      refine wln ?_
      refine W.ret ?_
      refine thr ?_
      obtain rfl := Option.some.inj H
      exact ret1 (v := .bool false) rfl (by kernel_rfl) ⟨_, c45, rfl, rfl, (l8.trans l45), G, O47, (R0.mono (l8.trans l45)), rfl⟩
    · have H := ie h51 H
      refine W.skip ?_
      refine nrm ?_
      refine sr ?_
      refine va (v1) ?_
      obtain ⟨k_27, h54, H⟩ := bs H
      obtain ⟨b52, rfl, h53⟩ := ((h2.mono (l8.trans l45))).get h54
      refine va (.pointer (some ⟨b52, 0, none⟩)) ?_
      refine va (.pointer (some ⟨b52, 3, none⟩)) ?_
      obtain ⟨o_29, h55, H⟩ := bs H
      have h56 := Rel.open_widen_Cluster (R0.mono (l8.trans l45)) h55 h53
      refine WL.val0 (v := .int .i64 o_29.wide) rfl (rx (by kernel_rfl) (ldE1 (j := 3) Tryd.underlying3 rfl (O47.gon h56 0 rfl) rfl rfl)) ?_
      refine va (.int .i64 o_29.wide) ?_
      refine wln ?_
      refine sr ?_
      refine va (.pointer (some ⟨b52, 0, none⟩)) ?_
      refine va (.pointer (some ⟨b52, 0, none⟩)) ?_
      refine va (.int .i32 p2) ?_
      refine WL.val0 (v := .agg #[.int .i64 p3.Break, .bool p3.Pict, .int .i64 p3.Conj, .int .i64 p3.East]) rfl (rx (by kernel_rfl) (run_loadN (T := 148) (by kernel_rfl) (by kernel_rfl) (fun j u hu => (m7 j u hu).mono l45))) ?_
      obtain ⟨x_36, h57, H⟩ := bs H
      refine WL.callP rfl (by kernel_rfl) (c_widen_Cluster_add O47 (R0.mono (l8.trans l45)) p0 p2 p3 (h2.mono (l8.trans l45)) h57) ?_
      rintro v63 c62 l62 ⟨G58, O59, R60, rfl⟩
      refine va (.pointer (some ⟨b52, 0, none⟩)) ?_
      refine va (.pointer (some ⟨b52, 3, none⟩)) ?_
      obtain ⟨o_39, h64, H⟩ := bs H
      have h65 := Rel.open_widen_Cluster R60 h64 (l62.t _ _ _ h53)
      refine WL.memD rfl (Own.stG (T := 3) (j := 3) (us := [.int .i64 x_36.2]) (nw := [.int .i64 o_39.at_.Row, .int .i64 o_39.at_.Col, .bool o_39.at_.Pending, .int .i64 x_36.2, .int .i32 o_39.text.text.1, .int .i32 o_39.text.text.2.1, .int .i32 o_39.text.text.2.2.1, .int .i32 o_39.text.text.2.2.2.1, .int .i32 o_39.text.text.2.2.2.2.1, .int .i32 o_39.text.text.2.2.2.2.2.1, .int .i32 o_39.text.text.2.2.2.2.2.2.1, .int .i32 o_39.text.text.2.2.2.2.2.2.2.1, .int .i32 o_39.text.text.2.2.2.2.2.2.2.2.1, .int .i32 o_39.text.text.2.2.2.2.2.2.2.2.2.1, .int .i32 o_39.text.text.2.2.2.2.2.2.2.2.2.2.1, .int .i32 o_39.text.text.2.2.2.2.2.2.2.2.2.2.2.1, .int .i32 o_39.text.text.2.2.2.2.2.2.2.2.2.2.2.2.1, .int .i32 o_39.text.text.2.2.2.2.2.2.2.2.2.2.2.2.2.1, .int .i32 o_39.text.text.2.2.2.2.2.2.2.2.2.2.2.2.2.2.1, .int .i32 o_39.text.text.2.2.2.2.2.2.2.2.2.2.2.2.2.2.2, .int .i64 o_39.text.n, .bool o_39.gauge.some, .bool o_39.gauge.pict, .bool o_39.gauge.wide]) (v := .int .i64 x_36.2) 0 O59 (by kernel_rfl) h65 rfl rfl rfl rfl (by kernel_rfl) ⟨rfl, trivial⟩ rfl rfl) ?_
      rintro c67 l67 O66
      obtain ⟨s_39001, h72, H⟩ := bs H
      obtain ⟨G68, O69, R70, h71, a73⟩ := Rel.put_widen_Cluster O66 (R60.mono l67) (E' := [⟨.pointer (some ⟨b52, 0, none⟩), 206, [.int .i64 o_39.at_.Row, .int .i64 o_39.at_.Col, .bool o_39.at_.Pending, .int .i64 x_36.2, .int .i32 o_39.text.text.1, .int .i32 o_39.text.text.2.1, .int .i32 o_39.text.text.2.2.1, .int .i32 o_39.text.text.2.2.2.1, .int .i32 o_39.text.text.2.2.2.2.1, .int .i32 o_39.text.text.2.2.2.2.2.1, .int .i32 o_39.text.text.2.2.2.2.2.2.1, .int .i32 o_39.text.text.2.2.2.2.2.2.2.1, .int .i32 o_39.text.text.2.2.2.2.2.2.2.2.1, .int .i32 o_39.text.text.2.2.2.2.2.2.2.2.2.1, .int .i32 o_39.text.text.2.2.2.2.2.2.2.2.2.2.1, .int .i32 o_39.text.text.2.2.2.2.2.2.2.2.2.2.2.1, .int .i32 o_39.text.text.2.2.2.2.2.2.2.2.2.2.2.2.1, .int .i32 o_39.text.text.2.2.2.2.2.2.2.2.2.2.2.2.2.1, .int .i32 o_39.text.text.2.2.2.2.2.2.2.2.2.2.2.2.2.2.1, .int .i32 o_39.text.text.2.2.2.2.2.2.2.2.2.2.2.2.2.2.2, .int .i64 o_39.text.n, .bool o_39.gauge.some, .bool o_39.gauge.pict, .bool o_39.gauge.wide], 0⟩]) h72 ⟨b52, ((l62.trans l67).t _ _ _ h53), rfl⟩
      refine wln ?_
      obtain ⟨z_41, H74, H75⟩ := bs H
      refine W.seqJ (fun e w => ∃ (c : Cx) (g : Nat → Value) (G_ : Gm), w = c.w ∧ c67.le c ∧ Own c G_ (F) ∧ e = ups g [] ∧ Rel c z_41 G_) ?_ ?_
      · skip
        refine W.block ?_
        refine sr ?_
        refine va (.pointer (some ⟨b52, 0, none⟩)) ?_
        refine va (.pointer (some ⟨b52, 0, none⟩)) ?_
        refine va (.pointer (some ⟨b52, 3, none⟩)) ?_
        refine WL.val0 (v := .int .i64 x_36.2) rfl (rx (by kernel_rfl) (ldE1 (j := 3) Tryd.underlying3 rfl (O69.gon h71 0 rfl) rfl rfl)) ?_
        refine va (.int .i64 o_29.wide) ?_
        refine va (.bool (x_36.2 != o_29.wide)) ?_
        refine va (.bool (x_36.2 != o_29.wide)) ?_
        refine wln ?_
        refine W.cond (t := x_36.2 != o_29.wide) (by kernel_rfl) (fun h76 => ?_) (fun h76 => ?_)
        · have H74 := it h76 H74
          refine sr ?_
          refine va (v3) ?_
          refine va (.pointer (some ⟨b52, 0, none⟩)) ?_
          refine va (.pointer (some ⟨b52, 0, none⟩)) ?_
          refine va (.pointer (some ⟨b52, 0, none⟩)) ?_
          refine WL.val0 (v := .agg #[.int .i64 o_39.at_.Row, .int .i64 o_39.at_.Col, .bool o_39.at_.Pending]) rfl (rx (by kernel_rfl) (ldEN (T := 120) (j := 0) (l := [.int .i64 o_39.at_.Row, .int .i64 o_39.at_.Col, .bool o_39.at_.Pending]) (by kernel_rfl) (by kernel_rfl) (O69.gon h71 0 rfl) rfl rfl)) ?_
          obtain ⟨k_55, h79, H74⟩ := bs H74
          obtain ⟨b77, rfl, h78⟩ := ((h4.mono (l8.trans (l45.trans (l62.trans l67))))).get h79
          refine va (.pointer (some ⟨b77, 0, none⟩)) ?_
          refine va (.pointer (some ⟨b77, 1, none⟩)) ?_
          obtain ⟨o_57, h80, H74⟩ := bs H74
          obtain ⟨v81, h83, h82⟩ := Rel.open_place_Pen R70 h80 h78
          refine WL.memD rfl (Own.stG (T := 120) (j := 1) (us := [.int .i64 o_39.at_.Row, .int .i64 o_39.at_.Col, .bool o_39.at_.Pending]) (nw := [v81, .int .i64 o_39.at_.Row, .int .i64 o_39.at_.Col, .bool o_39.at_.Pending, .bool o_57.Auto]) (v := .agg #[.int .i64 o_39.at_.Row, .int .i64 o_39.at_.Col, .bool o_39.at_.Pending]) 0 O69 (by kernel_rfl) h83 rfl rfl rfl rfl (by kernel_rfl) ⟨rfl, rfl, rfl, trivial⟩ rfl rfl) ?_
          rintro c85 l85 O84
          obtain ⟨s_57001, h90, H74⟩ := bs H74
          obtain ⟨G86, O87, R88, h89, a91⟩ := Rel.put_place_Pen O84 (R70.mono l85) (E' := [⟨.pointer (some ⟨b77, 0, none⟩), 131, [v81, .int .i64 o_39.at_.Row, .int .i64 o_39.at_.Col, .bool o_39.at_.Pending, .bool o_57.Auto], 0⟩]) h90 ⟨b77, v81, (l85.t _ _ _ h78), rfl, (h82.mono l85)⟩
          refine wln ?_
          refine W.regionD [10, 13] (Kp G86 []) O87 (by kernel_rfl) ?_
          intro c92 l92 O93
          have p94 : Kp G86 [] c92 := (Kp.nil O93)
          refine ta 0 (.pointer (some ⟨b52, 0, none⟩)) ?_
          refine ta 1 (.pointer (some ⟨b77, 0, none⟩)) ?_
          refine ta 2 (.pointer (some ⟨b52, 0, none⟩)) ?_
          refine ta 3 (.pointer (some ⟨b52, 0, none⟩)) ?_
          refine ta 4 (.pointer (some ⟨b52, 3, none⟩)) ?_
          obtain ⟨o_64, h95, H74⟩ := bs H74
          have h96 := Rel.open_widen_Cluster (R88.mono l92) h95 ((l62.trans (l67.trans (l85.trans l92))).t _ _ _ h53)
          refine AC.takeK 5 (.int .i64 o_64.wide) p94 rfl (by kernel_rfl) (by kernel_rfl) (by kernel_rfl) (fun c' hle hk => (rx (by kernel_rfl) (ldE1 (j := 3) Tryd.underlying3 rfl (hk.gon h96 0 rfl) rfl rfl))) ?_
          refine ta 6 (.pointer (some ⟨b52, 0, none⟩)) ?_
          refine ta 7 (.pointer (some ⟨b52, 0, none⟩)) ?_
          refine ta 8 (.pointer (some ⟨b52, 4, none⟩)) ?_
          have O97 := O93.borrow 0 h96 rfl
          obtain ⟨x_68, h99, H74⟩ := bs H74
          refine AC.one 9 (by kernel_rfl) (Go1.callP 9 rfl (by kernel_rfl) (by kernel_rfl) (by kernel_rfl) (c_cluster_Cluster_Text__widen_Cluster_4 o_64.text O97 h99) ?_)
          rintro v100 c107 l107 ⟨_, u101, O104, rfl, h102⟩
          have O110 := O104.selD 2 [1, 0] (by kernel_rfl) (by kernel_rfl)
          have O109 := O110.giveB 0 rfl
          have O111 := Own.back O109 h96 rfl
          have p112 : Kp G86 [] c107 := (Kp.nil O111)
          refine ⟨.inr p112, ?_⟩
          obtain ⟨c115, h116, l115, O113, h114⟩ := O111.frz 0 rfl h102
          have p117 : Kp G86 [] c115 := (Kp.nil O113)
          refine AC.gh h116 l115 (fun _ => p117) ?_
          obtain ⟨x_69, h118, H74⟩ := bs H74
          refine AC.one 10 (by kernel_rfl) (Go1.callP 10 rfl (by kernel_rfl) (by kernel_rfl) (by kernel_rfl) (c_place_Pen_Put O113 (R88.mono (l92.trans (l107.trans l115))) ((hG.mono (l8.trans (l45.trans (l62.trans (l67.trans (l85.trans (l92.trans (l107.trans l115)))))))).le (by decide)) p1 o_64.wide x_68 (h4.mono (l8.trans (l45.trans (l62.trans (l67.trans (l85.trans (l92.trans (l107.trans l115)))))))) h114 h118) ?_)
          rintro v124 c123 l123 ⟨G119, O120, R121, rfl⟩
          refine ⟨.inl rfl, ?_⟩
          refine ta 11 (.pointer (some ⟨b52, 0, none⟩)) ?_
          refine ta 12 (.pointer (some ⟨b52, 0, none⟩)) ?_
          obtain ⟨o_72, h125, H74⟩ := bs H74
          have h126 := Rel.open_widen_Cluster R121 h125 ((l62.trans (l67.trans (l85.trans (l92.trans (l107.trans (l115.trans l123)))))).t _ _ _ h53)
          refine AC.one 13 (by kernel_rfl) (Go1.memD 13 rfl (by kernel_rfl) (by kernel_rfl) (Own.stG (T := 120) (j := 0) (us := [.int .i64 x_69.2.Row, .int .i64 x_69.2.Col, .bool x_69.2.Pending]) (nw := [.int .i64 x_69.2.Row, .int .i64 x_69.2.Col, .bool x_69.2.Pending, .int .i64 o_72.wide, .int .i32 o_72.text.text.1, .int .i32 o_72.text.text.2.1, .int .i32 o_72.text.text.2.2.1, .int .i32 o_72.text.text.2.2.2.1, .int .i32 o_72.text.text.2.2.2.2.1, .int .i32 o_72.text.text.2.2.2.2.2.1, .int .i32 o_72.text.text.2.2.2.2.2.2.1, .int .i32 o_72.text.text.2.2.2.2.2.2.2.1, .int .i32 o_72.text.text.2.2.2.2.2.2.2.2.1, .int .i32 o_72.text.text.2.2.2.2.2.2.2.2.2.1, .int .i32 o_72.text.text.2.2.2.2.2.2.2.2.2.2.1, .int .i32 o_72.text.text.2.2.2.2.2.2.2.2.2.2.2.1, .int .i32 o_72.text.text.2.2.2.2.2.2.2.2.2.2.2.2.1, .int .i32 o_72.text.text.2.2.2.2.2.2.2.2.2.2.2.2.2.1, .int .i32 o_72.text.text.2.2.2.2.2.2.2.2.2.2.2.2.2.2.1, .int .i32 o_72.text.text.2.2.2.2.2.2.2.2.2.2.2.2.2.2.2, .int .i64 o_72.text.n, .bool o_72.gauge.some, .bool o_72.gauge.pict, .bool o_72.gauge.wide]) (v := .agg #[.int .i64 x_69.2.Row, .int .i64 x_69.2.Col, .bool x_69.2.Pending]) 0 O120 (by kernel_rfl) h126 rfl rfl rfl rfl (by kernel_rfl) ⟨rfl, rfl, rfl, trivial⟩ rfl rfl) ?_)
          rintro c128 l128 O127
          obtain ⟨s_72001, h133, H74⟩ := bs H74
          obtain ⟨G129, O130, R131, h132, a134⟩ := Rel.put_widen_Cluster O127 (R121.mono l128) (E' := [⟨.pointer (some ⟨b52, 0, none⟩), 206, [.int .i64 x_69.2.Row, .int .i64 x_69.2.Col, .bool x_69.2.Pending, .int .i64 o_72.wide, .int .i32 o_72.text.text.1, .int .i32 o_72.text.text.2.1, .int .i32 o_72.text.text.2.2.1, .int .i32 o_72.text.text.2.2.2.1, .int .i32 o_72.text.text.2.2.2.2.1, .int .i32 o_72.text.text.2.2.2.2.2.1, .int .i32 o_72.text.text.2.2.2.2.2.2.1, .int .i32 o_72.text.text.2.2.2.2.2.2.2.1, .int .i32 o_72.text.text.2.2.2.2.2.2.2.2.1, .int .i32 o_72.text.text.2.2.2.2.2.2.2.2.2.1, .int .i32 o_72.text.text.2.2.2.2.2.2.2.2.2.2.1, .int .i32 o_72.text.text.2.2.2.2.2.2.2.2.2.2.2.1, .int .i32 o_72.text.text.2.2.2.2.2.2.2.2.2.2.2.2.1, .int .i32 o_72.text.text.2.2.2.2.2.2.2.2.2.2.2.2.2.1, .int .i32 o_72.text.text.2.2.2.2.2.2.2.2.2.2.2.2.2.2.1, .int .i32 o_72.text.text.2.2.2.2.2.2.2.2.2.2.2.2.2.2.2, .int .i64 o_72.text.n, .bool o_72.gauge.some, .bool o_72.gauge.pict, .bool o_72.gauge.wide], 0⟩]) h133 ⟨b52, ((l62.trans (l67.trans (l85.trans (l92.trans (l107.trans (l115.trans (l123.trans l128))))))).t _ _ _ h53), rfl⟩
          refine ⟨.inl rfl, ?_⟩
          refine AC.done (by kernel_rfl) ?_
          refine bkn ?_
          refine nrm ?_
          obtain rfl := Option.some.inj H74
          have O135 := O130.selD 1 [] (by kernel_rfl) (by kernel_rfl)
          exact ⟨c128, _, G129, rfl, (l85.trans (l92.trans (l107.trans (l115.trans (l123.trans l128))))), O135, ups_self trivial, R131⟩
        · have H74 := ie h76 H74
          refine W.seq ?_
          refine W.regionD [] (Kp G68 []) O69 (by kernel_rfl) ?_
          intro c136 l136 O137
          have p138 : Kp G68 [] c136 := (Kp.nil O137)
          refine ta 0 (.pointer (some ⟨b52, 0, none⟩)) ?_
          refine ta 1 (.pointer (some ⟨b52, 0, none⟩)) ?_
          refine ta 2 (.pointer (some ⟨b52, 3, none⟩)) ?_
          refine AC.takeK 3 (.int .i64 x_36.2) p138 rfl (by kernel_rfl) (by kernel_rfl) (by kernel_rfl) (fun c' hle hk => (rx (by kernel_rfl) (ldE1 (j := 3) Tryd.underlying3 rfl (hk.gon h71 0 rfl) rfl rfl))) ?_
          refine ta 4 (v3) ?_
          obtain ⟨k_79, h141, H74⟩ := bs H74
          obtain ⟨b139, rfl, h140⟩ := ((h4.mono (l8.trans (l45.trans (l62.trans (l67.trans l136)))))).get h141
          refine ta 5 (.pointer (some ⟨b139, 0, none⟩)) ?_
          refine ta 6 (.pointer (some ⟨b139, 0, none⟩)) ?_
          obtain ⟨o_81, h142, H74⟩ := bs H74
          obtain ⟨v143, h145, h144⟩ := Rel.open_place_Pen (R70.mono l136) h142 h140
          refine AC.takeK 7 (v143) p138 rfl (by kernel_rfl) (by kernel_rfl) (by kernel_rfl) (fun c' hle hk => (rx (by kernel_rfl) (ldE1 (j := 0) Tryd.underlying51 rfl (hk.gon h145 0 rfl) rfl rfl))) ?_
          obtain ⟨x_82, h146, H74⟩ := bs H74
          refine AC.one 8 (by kernel_rfl) (Go1.callP 8 rfl (by kernel_rfl) (by kernel_rfl) (by kernel_rfl) (c_grid_Grid_Wide O137 (R70.mono l136) o_81.G h144 h146) ?_)
          rintro v152 c151 l151 ⟨O148, rfl⟩
          have p153 : Kp G68 [] c151 := (Kp.nil O148)
          refine ⟨.inr p153, ?_⟩
          refine ta 9 (.bool (decide (x_36.2 ≤ x_82))) ?_
          refine ta 10 (.bool (decide (x_36.2 ≤ x_82))) ?_
          refine AC.done (by kernel_rfl) ?_
          refine nrm ?_
          refine W.cond (t := decide (x_36.2 ≤ x_82)) (by kernel_rfl) (fun h154 => ?_) (fun h154 => ?_)
          · have H74 := it h154 H74
            refine W.regionD [16] (Kp G68 []) O148 (by kernel_rfl) ?_
            intro c155 l155 O156
            have p157 : Kp G68 [] c155 := (Kp.nil O156)
            refine ta 0 (.pointer (some ⟨b139, 0, none⟩)) ?_
            refine ta 1 (.pointer (some ⟨b139, 0, none⟩)) ?_
            refine ta 2 (.pointer (some ⟨b139, 0, none⟩)) ?_
            refine AC.takeK 3 (v143) p157 rfl (by kernel_rfl) (by kernel_rfl) (by kernel_rfl) (fun c' hle hk => (rx (by kernel_rfl) (ldE1 (j := 0) Tryd.underlying51 rfl (hk.gon h145 0 rfl) rfl rfl))) ?_
            refine ta 4 (.pointer (some ⟨b52, 0, none⟩)) ?_
            refine ta 5 (.pointer (some ⟨b52, 0, none⟩)) ?_
            refine ta 6 (.pointer (some ⟨b52, 0, none⟩)) ?_
            refine ta 7 (.pointer (some ⟨b52, 0, none⟩)) ?_
            refine AC.takeK 8 (.int .i64 o_39.at_.Row) p157 rfl (by kernel_rfl) (by kernel_rfl) (by kernel_rfl) (fun c' hle hk => (rx (by kernel_rfl) (ldE1 (j := 0) Tryd.underlying3 rfl (hk.gon h71 0 rfl) rfl rfl))) ?_
            refine ta 10 (.pointer (some ⟨b52, 0, none⟩)) ?_
            refine ta 11 (.pointer (some ⟨b52, 0, none⟩)) ?_
            refine ta 12 (.pointer (some ⟨b52, 0, none⟩)) ?_
            refine ta 13 (.pointer (some ⟨b52, 1, none⟩)) ?_
            refine AC.takeK 14 (.int .i64 o_39.at_.Col) p157 rfl (by kernel_rfl) (by kernel_rfl) (by kernel_rfl) (fun c' hle hk => (rx (by kernel_rfl) (ldE1 (j := 1) Tryd.underlying3 rfl (hk.gon h71 0 rfl) rfl rfl))) ?_
            refine ta 15 (.int .i32 p2) ?_
            obtain ⟨x_101, h158, H74⟩ := bs H74
            refine AC.one 9 (by kernel_rfl) (Go1.callP 9 rfl (by kernel_rfl) (by kernel_rfl) (by kernel_rfl) (c_grid_Grid_Row O156 (R70.mono (l136.trans (l151.trans l155))) o_81.G o_39.at_.Row (h144.mono (l151.trans l155)) h158) ?_)
            rintro v159 c165 l165 ⟨_, O162, rfl, h160⟩
            have p167 : Kp G68 [] c165 := (Kp.nil O162)
            refine ⟨.inr p167, ?_⟩
            obtain ⟨x_102, h168, H74⟩ := bs H74
            refine AC.one 16 (by kernel_rfl) (Go1.callP 16 rfl (by kernel_rfl) (by kernel_rfl) (by kernel_rfl) (c_mark_Add O162 (R70.mono (l136.trans (l151.trans (l155.trans l165)))) ((hG.mono (l8.trans (l45.trans (l62.trans (l67.trans (l136.trans (l151.trans (l155.trans l165)))))))).le (by decide)) x_101 o_39.at_.Col p2 h160 h168) ?_)
            rintro v174 c173 l173 ⟨G169, O170, R171, rfl⟩
            refine ⟨.inl rfl, ?_⟩
            refine AC.done (by kernel_rfl) ?_
            refine bkn ?_
            refine nrm ?_
            obtain rfl := Option.some.inj H74
            exact ⟨c173, _, G169, rfl, (l136.trans (l151.trans (l155.trans (l165.trans l173)))), O170, ups_self trivial, R171⟩
          · have H74 := ie h154 H74
            refine W.skip ?_
            refine bkn ?_
            refine nrm ?_
            obtain rfl := Option.some.inj H74
            exact ⟨c151, _, G68, rfl, (l136.trans l151), O148, ups_self trivial, (R70.mono (l136.trans l151))⟩
      · skip
        rintro e_ w_ ⟨c175, g176, G178, rfl, l175, O177, rfl, R179⟩
        refine sr ?_
        refine va (.bool true) ?_
        refine wln ?_
        refine W.ret ?_
        obtain rfl := Option.some.inj H75
        exact ret1 (v := .bool true) rfl (by kernel_rfl) ⟨_, c175, rfl, rfl, (l8.trans (l45.trans (l62.trans (l67.trans l175)))), G178, O177, R179, rfl⟩

def f_widen_Cluster_At (sg : Sto) (p0 : Option Nat) : Option (G_api_Cursor) :=
  if p0.isNone = true then
  some (⟨0, 0, false⟩ : G_api_Cursor)
  else
  (p0).bind fun k_10 =>
  (sg.widen_Cluster[k_10]?).bind fun o_12 =>
  some o_12.at_
theorem c_widen_Cluster_At {c0 : Cx} {G : Gm} {F : List En} {sg : Sto} {v1 : Value} (O0 : Own c0 G F) (R0 : Rel c0 sg G) (p0 : Option Nat) {r : G_api_Cursor} (h2 : Pt 3 c0 v1 p0) (H : f_widen_Cluster_At sg p0 = some r) :
    Calls Tryd.prog 91 #[v1] c0.w (Post c0 fun c v => Own c G (F) ∧ v = .agg #[.int .i64 r.Row, .int .i64 r.Col, .bool r.Pending]) := by
  unfold f_widen_Cluster_At at H
  refine enter (l := [v1]) Tryd.func91 rfl rfl rfl ?_
  refine sr ?_
  refine WL.mem rfl (Own.al (T := 120) (vs := [.int .i64 0, .int .i64 0, .bool false]) O0 (by kernel_rfl)) ?_
  rintro v6 c5 l5 ⟨b3, rfl, O4⟩
  refine wln ?_
  refine W.seq ?_
  refine sr ?_
  refine va (v1) ?_
  refine WL.val0 (v := .bool p0.isNone) rfl (by rcases ((h2.mono l5)).cs with ⟨h1_, h2_⟩ | ⟨b_, h1_, h2_⟩ <;> (subst h1_; rw [h2_]; kernel_rfl)) ?_
  refine wln ?_
  refine W.cond (t := p0.isNone) (by kernel_rfl) (fun h7 => ?_) (fun h7 => ?_)
  · have H := it h7 H
    refine sr ?_
    refine va (.agg #[.int .i64 0, .int .i64 0, .bool false]) ?_
    refine WL.memD rfl (Own.st (T := 120) (j := 0) (us := [.int .i64 0, .int .i64 0, .bool false]) (nw := [.int .i64 0, .int .i64 0, .bool false]) (v := .agg #[.int .i64 0, .int .i64 0, .bool false]) 0 O4 (by kernel_rfl) rfl rfl rfl rfl (by kernel_rfl) ⟨rfl, rfl, rfl, trivial⟩ rfl rfl) ?_
    rintro c9 l9 O8
    refine wln ?_
    refine W.ret ?_
    refine thr ?_
    obtain rfl := Option.some.inj H
    have O10 := O8.selD 1 [] (by kernel_rfl) (by kernel_rfl)
    exact retC (c := c9) (vs := [.int .i64 0, .int .i64 0, .bool false]) rfl (by kernel_rfl) (by kernel_rfl) (by kernel_rfl) (O8.on 0 rfl _ rfl).1 ⟨_, c9, rfl, rfl, (l5.trans l9), O10, rfl⟩
  · have H := ie h7 H
    refine W.skip ?_
    refine nrm ?_
    refine sr ?_
    refine va (v1) ?_
    obtain ⟨k_10, h13, H⟩ := bs H
    obtain ⟨b11, rfl, h12⟩ := ((h2.mono l5)).get h13
    refine va (.pointer (some ⟨b11, 0, none⟩)) ?_
    refine va (.pointer (some ⟨b11, 0, none⟩)) ?_
    obtain ⟨o_12, h14, H⟩ := bs H
    have h15 := Rel.open_widen_Cluster (R0.mono l5) h14 h12
    refine WL.val0 (v := .agg #[.int .i64 o_12.at_.Row, .int .i64 o_12.at_.Col, .bool o_12.at_.Pending]) rfl (rx (by kernel_rfl) (ldEN (T := 120) (j := 0) (l := [.int .i64 o_12.at_.Row, .int .i64 o_12.at_.Col, .bool o_12.at_.Pending]) (by kernel_rfl) (by kernel_rfl) (O4.gon h15 0 rfl) rfl rfl)) ?_
    refine WL.memD rfl (Own.st (T := 120) (j := 0) (us := [.int .i64 o_12.at_.Row, .int .i64 o_12.at_.Col, .bool o_12.at_.Pending]) (nw := [.int .i64 o_12.at_.Row, .int .i64 o_12.at_.Col, .bool o_12.at_.Pending]) (v := .agg #[.int .i64 o_12.at_.Row, .int .i64 o_12.at_.Col, .bool o_12.at_.Pending]) 0 O4 (by kernel_rfl) rfl rfl rfl rfl (by kernel_rfl) ⟨rfl, rfl, rfl, trivial⟩ rfl rfl) ?_
    rintro c17 l17 O16
    refine wln ?_
    refine W.ret ?_
    obtain rfl := Option.some.inj H
    have O18 := O16.selD 1 [] (by kernel_rfl) (by kernel_rfl)
    exact retC (c := c17) (vs := [.int .i64 o_12.at_.Row, .int .i64 o_12.at_.Col, .bool o_12.at_.Pending]) rfl (by kernel_rfl) (by kernel_rfl) (by kernel_rfl) (O16.on 0 rfl _ rfl).1 ⟨_, c17, rfl, rfl, (l5.trans l17), O18, rfl⟩

def f_widen_Cluster_Wide (sg : Sto) (p0 : Option Nat) : Option (Int) :=
  if p0.isNone = true then
  some 0
  else
  (p0).bind fun k_9 =>
  (sg.widen_Cluster[k_9]?).bind fun o_11 =>
  some o_11.wide
theorem c_widen_Cluster_Wide {c0 : Cx} {G : Gm} {F : List En} {sg : Sto} {v1 : Value} (O0 : Own c0 G F) (R0 : Rel c0 sg G) (p0 : Option Nat) {r : Int} (h2 : Pt 3 c0 v1 p0) (H : f_widen_Cluster_Wide sg p0 = some r) :
    Calls Tryd.prog 92 #[v1] c0.w (Post c0 fun c v => Own c G (F) ∧ v = .int .i64 r) := by
  unfold f_widen_Cluster_Wide at H
  refine enter (l := [v1]) Tryd.func92 rfl rfl rfl ?_
  refine sr ?_
  refine va (.int .i64 0) ?_
  refine wln ?_
  refine W.seq ?_
  refine sr ?_
  refine va (v1) ?_
  refine WL.val0 (v := .bool p0.isNone) rfl (by rcases (h2).cs with ⟨h1_, h2_⟩ | ⟨b_, h1_, h2_⟩ <;> (subst h1_; rw [h2_]; kernel_rfl)) ?_
  refine wln ?_
  refine W.cond (t := p0.isNone) (by kernel_rfl) (fun h3 => ?_) (fun h3 => ?_)
  · have H := it h3 H
    refine sr ?_
    refine va (.int .i64 0) ?_
    refine wln ?_
    refine W.ret ?_
    refine thr ?_
    obtain rfl := Option.some.inj H
    exact ret1 (v := .int .i64 0) rfl (by kernel_rfl) ⟨_, c0, rfl, rfl, Cx.le.refl _, O0, rfl⟩
  · have H := ie h3 H
    refine W.skip ?_
    refine nrm ?_
    refine sr ?_
    refine va (v1) ?_
    obtain ⟨k_9, h6, H⟩ := bs H
    obtain ⟨b4, rfl, h5⟩ := (h2).get h6
    refine va (.pointer (some ⟨b4, 0, none⟩)) ?_
    refine va (.pointer (some ⟨b4, 3, none⟩)) ?_
    obtain ⟨o_11, h7, H⟩ := bs H
    have h8 := Rel.open_widen_Cluster R0 h7 h5
    refine WL.val0 (v := .int .i64 o_11.wide) rfl (rx (by kernel_rfl) (ldE1 (j := 3) Tryd.underlying3 rfl (O0.gon h8 0 rfl) rfl rfl)) ?_
    refine va (.int .i64 o_11.wide) ?_
    refine wln ?_
    refine W.ret ?_
    obtain rfl := Option.some.inj H
    exact ret1 (v := .int .i64 o_11.wide) rfl (by kernel_rfl) ⟨_, c0, rfl, rfl, Cx.le.refl _, O0, rfl⟩

def f_widen_Cluster_Text (sg : Sto) (p0 : Option Nat) : Option (List Int) :=
  if p0.isNone = true then
  some ([] : List Int)
  else
  (p0).bind fun k_9 =>
  (sg.widen_Cluster[k_9]?).bind fun o_11002 =>
  (f_cluster_Cluster_Text__widen_Cluster_4 o_11002.text).bind fun x_11 =>
  some x_11
theorem c_widen_Cluster_Text {c0 : Cx} {G : Gm} {F : List En} {sg : Sto} {v1 : Value} (O0 : Own c0 G F) (R0 : Rel c0 sg G) (p0 : Option Nat) {r : List Int} (h2 : Pt 3 c0 v1 p0) (H : f_widen_Cluster_Text sg p0 = some r) :
    Calls Tryd.prog 93 #[v1] c0.w (Post c0 fun c v => ∃ y1 : Value, ∃ y2 : List Value, Own c G (es true (RI .i32) y1 21 y2 r :: F) ∧ v = y1 ∧ OA (RI .i32) c y1 y2 r) := by
  unfold f_widen_Cluster_Text at H
  refine enter (l := [v1]) Tryd.func93 rfl rfl rfl ?_
  refine sr ?_
  refine va (.slice none 0 0) ?_
  refine wln ?_
  refine W.seq ?_
  refine sr ?_
  refine va (v1) ?_
  refine WL.val0 (v := .bool p0.isNone) rfl (by rcases (h2).cs with ⟨h1_, h2_⟩ | ⟨b_, h1_, h2_⟩ <;> (subst h1_; rw [h2_]; kernel_rfl)) ?_
  refine wln ?_
  refine W.cond (t := p0.isNone) (by kernel_rfl) (fun h3 => ?_) (fun h3 => ?_)
  · have H := it h3 H
    refine sr ?_
    refine va (.slice none 0 0) ?_
    refine wln ?_
    refine W.ret ?_
    refine thr ?_
    obtain rfl := Option.some.inj H
    have h5 : OA (RI .i32) c0 (.slice none 0 0) [] [] := OA.nil (Nat.succ_pos _)
    have O4 := O0.addHole (e := es true (RI .i32) (.slice none 0 0) 21 [] ([] : List Int)) rfl
    exact ret1 (v := (.slice none 0 0)) rfl (by kernel_rfl) ⟨_, c0, rfl, rfl, Cx.le.refl _, (.slice none 0 0), [], O4, rfl, h5⟩
  · have H := ie h3 H
    refine W.skip ?_
    refine nrm ?_
    refine sr ?_
    refine va (v1) ?_
    obtain ⟨k_9, h8, H⟩ := bs H
    obtain ⟨b6, rfl, h7⟩ := (h2).get h8
    refine va (.pointer (some ⟨b6, 0, none⟩)) ?_
    refine va (.pointer (some ⟨b6, 4, none⟩)) ?_
    obtain ⟨o_11002, h9, H⟩ := bs H
    have h10 := Rel.open_widen_Cluster R0 h9 h7
    have O11 := O0.borrow 0 h10 rfl
    obtain ⟨x_11, h13, H⟩ := bs H
    refine WL.callP rfl (by kernel_rfl) (c_cluster_Cluster_Text__widen_Cluster_4 o_11002.text O11 h13) ?_
    rintro v14 c21 l21 ⟨_, u15, O18, rfl, h16⟩
    have O24 := O18.selD 2 [1, 0] (by kernel_rfl) (by kernel_rfl)
    have O23 := O24.giveB 0 rfl
    have O25 := Own.back O23 h10 rfl
    refine va (v14) ?_
    refine wln ?_
    refine W.ret ?_
    obtain rfl := Option.some.inj H
    exact ret1 (v := v14) rfl (by kernel_rfl) ⟨_, c21, rfl, rfl, l21, v14, u15, O25, rfl, h16⟩

def f_linotypelaw35_works (sg : Sto) : Option (Sto × Bool) :=
  (f_place_New sg 2 2).bind fun x_3 =>
  if x_3.2.isNone = true then
  some (x_3.1, false)
  else
  (f_place_Pen_Put x_3.1 x_3.2 1 ([97] : List Int)).bind fun x_13 =>
  (f_linotyperef13_Of 10084).bind fun x_16 =>
  (f_widen_Begin x_13.1 x_3.2 10084 x_16).bind fun x_17 =>
  (f_widen_Cluster_At x_17.1 x_17.2).bind fun x_21 =>
  (if (x_21.Row == 0 && (x_21.Col == 1 && (x_21.Pending == false && true))) = true then (f_linotyperef13_Of 65039).bind fun x_28 =>
  (f_widen_Cluster_Join x_17.1 x_17.2 x_3.2 65039 x_28).bind fun x_29 =>
  some (x_29.2, x_29.1) else some (false, x_17.1)).bind fun d_24 =>
  (andE d_24.1 ((f_widen_Cluster_At d_24.2 x_17.2).bind fun x_33 =>
  some (x_33.Row == 1 && (x_33.Col == 0 && (x_33.Pending == false && true))))).bind fun d_30 =>
  (andE d_30 ((x_3.2).bind fun k_39 =>
  (d_24.2.place_Pen[k_39]?).bind fun o_41 =>
  (f_grid_Grid_Row d_24.2 o_41.G 0).bind fun x_42 =>
  (f_row_Row_Wrap d_24.2 x_42).bind fun x_43 =>
  some x_43)).bind fun d_36 =>
  (andE d_36 ((f_widen_Cluster_Wide d_24.2 x_17.2).bind fun x_47 =>
  some (x_47 == 2))).bind fun d_44 =>
  some (d_24.2, d_44)
theorem c_linotypelaw35_works {c0 : Cx} {G : Gm} {F : List En} {sg : Sto} (O0 : Own c0 G F) (R0 : Rel c0 sg G) (hG : Gl [0, 1] c0) {r : Sto × Bool} (H : f_linotypelaw35_works sg = some r) :
    Calls Tryd.prog 94 #[] c0.w (Post c0 fun c v => ∃ G_ : Gm, Own c G_ (F) ∧ Rel c r.1 G_ ∧ v = .bool r.2) := by
  unfold f_linotypelaw35_works at H
  refine enter (l := []) Tryd.func94 rfl rfl rfl ?_
  refine sr ?_
  refine va (.bool false) ?_
  refine wln ?_
  refine sr ?_
  obtain ⟨x_3, h1, H⟩ := bs H
  refine WL.callP rfl (by kernel_rfl) (c_place_New O0 R0 2 2 h1) ?_
  rintro v2 c8 l8 ⟨_, G4, O5, R6, a7, rfl, h3⟩
  refine va (v2) ?_
  refine wln ?_
  refine W.seq ?_
  refine sr ?_
  refine va (v2) ?_
  refine WL.val0 (v := .bool x_3.2.isNone) rfl (by rcases (h3).cs with ⟨h1_, h2_⟩ | ⟨b_, h1_, h2_⟩ <;> (subst h1_; rw [h2_]; kernel_rfl)) ?_
  refine wln ?_
  refine W.cond (t := x_3.2.isNone) (by kernel_rfl) (fun h10 => ?_) (fun h10 => ?_)
  · have H := it h10 H
    refine sr ?_
    refine va (.bool false) ?_
    refine wln ?_
    refine W.ret ?_
    refine thr ?_
    obtain rfl := Option.some.inj H
    exact ret1 (v := .bool false) rfl (by kernel_rfl) ⟨_, c8, rfl, rfl, l8, G4, O5, R6, rfl⟩
  · have H := ie h10 H
    refine W.skip ?_
    refine nrm ?_
    refine sr ?_
    refine va (v2) ?_
    refine WL.mem rfl (Own.sl (R := (RI .i32)) (E := 21) (ls := [[.int .i32 97]]) (vs := [.int .i32 97]) (xs := ([97] : List Int)) true O5 (Nat.succ_pos _) rfl ⟨rfl, trivial⟩ (by kernel_rfl) (by kernel_rfl)) ?_
    rintro v15 c14 l14 ⟨u12, O11, h13⟩
    obtain ⟨c18, h19, l18, O16, h17⟩ := O11.frz 0 rfl h13
    refine WL.gh h19 ?_
    obtain ⟨x_13, h20, H⟩ := bs H
    refine WL.callP rfl (by kernel_rfl) (c_place_Pen_Put O16 (R6.mono (l14.trans l18)) ((hG.mono (l8.trans (l14.trans l18))).le (by decide)) x_3.2 1 ([97] : List Int) (h3.mono (l14.trans l18)) h17 h20) ?_
    rintro v26 c25 l25 ⟨G21, O22, R23, rfl⟩
    refine wln ?_
    refine sr ?_
    refine va (v2) ?_
    obtain ⟨x_16, h27, H⟩ := bs H
    refine WL.callP rfl (by kernel_rfl) (c_linotyperef13_Of O22 10084 h27) ?_
    rintro v33 c32 l32 ⟨O29, rfl⟩
    obtain ⟨x_17, h34, H⟩ := bs H
    refine WL.callP rfl (by kernel_rfl) (c_widen_Begin O29 (R23.mono l32) ((hG.mono (l8.trans (l14.trans (l18.trans (l25.trans l32))))).le (by decide)) x_3.2 10084 x_16 (h3.mono (l14.trans (l18.trans (l25.trans l32)))) h34) ?_
    rintro v35 c41 l41 ⟨_, G37, O38, R39, rfl, h36⟩
    refine va (v35) ?_
    refine wln ?_
    refine W.seq ?_
    obtain ⟨x_21, h43, H⟩ := bs H
    obtain ⟨d_24, h44, H⟩ := bs H
    obtain ⟨d_30, h45, H⟩ := bs H
    obtain ⟨d_36, h46, H⟩ := bs H
    obtain ⟨d_44, h47, H⟩ := bs H
    refine W.join (fun e w => ∃ (c : Cx) (g : Nat → Value) (G_ : Gm), w = c.w ∧ c41.le c ∧ Own c G_ (es false (RI .i32) v15 21 u12 ([97] : List Int) :: F) ∧ e = ups g [(0, .bool d_44)] ∧ Rel c d_24.2 G_) ?_ ?_
    · clear H
      refine W.region ?_
      refine va (v35) ?_
      refine WL.callP rfl (by kernel_rfl) (c_widen_Cluster_At O38 R39 x_17.2 h36 h43) ?_
      rintro v53 c52 l52 ⟨O49, rfl⟩
      refine va (.agg #[.int .i64 0, .int .i64 1, .bool false]) ?_
      refine WL.val0 (v := .bool (x_21.Row == 0 && (x_21.Col == 1 && (x_21.Pending == false && true)))) rfl (run_eqlA (T := 120) (xs := #[.int .i64 x_21.Row, .int .i64 x_21.Col, .bool x_21.Pending]) (ys := #[.int .i64 0, .int .i64 1, .bool false]) (r := (x_21.Row == 0 && (x_21.Col == 1 && (x_21.Pending == false && true)))) Tryd.underlying120 (by kernel_rfl) (by kernel_rfl) (EqP.int (by kernel_rfl) Tryd.underlying3 rfl rfl (EqP.int (by kernel_rfl) Tryd.underlying3 rfl rfl (EqP.bool (by kernel_rfl) Tryd.underlying4 rfl rfl EqP.nil))) (by kernel_rfl) _) ?_
      rcases Bool.eq_false_or_eq_true ((x_21.Row == 0 && (x_21.Col == 1 && (x_21.Pending == false && true)))) with h54 | h54
      · skip
        have H55 := it h54 h44
        refine vb h54 ?_
        refine wn ?_
        refine va (v35) ?_
        refine wn ?_
        refine va (v2) ?_
        refine wn ?_
        obtain ⟨x_28, h56, H55⟩ := bs H55
        refine WL.callP rfl (by kernel_rfl) (c_linotyperef13_Of O49 65039 h56) ?_
        rintro v62 c61 l61 ⟨O58, rfl⟩
        refine wn ?_
        obtain ⟨x_29, h63, H55⟩ := bs H55
        refine WL.callP rfl (by kernel_rfl) (c_widen_Cluster_Join O58 (R39.mono (l52.trans l61)) ((hG.mono (l8.trans (l14.trans (l18.trans (l25.trans (l32.trans (l41.trans (l52.trans l61)))))))).le (by decide)) x_17.2 x_3.2 65039 x_28 (h36.mono (l52.trans l61)) (h3.mono (l14.trans (l18.trans (l25.trans (l32.trans (l41.trans (l52.trans l61))))))) h63) ?_
        rintro v69 c68 l68 ⟨G64, O65, R66, rfl⟩
        obtain rfl := Option.some.inj H55
        refine va (.bool x_29.2) ?_
        rcases Bool.eq_false_or_eq_true (x_29.2) with h70 | h70
        · skip
          have H71 := anT h70 h45
          refine vb h70 ?_
          refine wn ?_
          refine va (v35) ?_
          refine wn ?_
          obtain ⟨x_33, h72, H71⟩ := bs H71
          refine WL.callP rfl (by kernel_rfl) (c_widen_Cluster_At O65 R66 x_17.2 (h36.mono (l52.trans (l61.trans l68))) h72) ?_
          rintro v78 c77 l77 ⟨O74, rfl⟩
          refine wn ?_
          refine va (.agg #[.int .i64 1, .int .i64 0, .bool false]) ?_
          refine wn ?_
          refine WL.val0 (v := .bool (x_33.Row == 1 && (x_33.Col == 0 && (x_33.Pending == false && true)))) rfl (run_eqlA (T := 120) (xs := #[.int .i64 x_33.Row, .int .i64 x_33.Col, .bool x_33.Pending]) (ys := #[.int .i64 1, .int .i64 0, .bool false]) (r := (x_33.Row == 1 && (x_33.Col == 0 && (x_33.Pending == false && true)))) Tryd.underlying120 (by kernel_rfl) (by kernel_rfl) (EqP.int (by kernel_rfl) Tryd.underlying3 rfl rfl (EqP.int (by kernel_rfl) Tryd.underlying3 rfl rfl (EqP.bool (by kernel_rfl) Tryd.underlying4 rfl rfl EqP.nil))) (by kernel_rfl) _) ?_
          obtain rfl := Option.some.inj H71
          refine va (.bool (x_33.Row == 1 && (x_33.Col == 0 && (x_33.Pending == false && true)))) ?_
          rcases Bool.eq_false_or_eq_true ((x_33.Row == 1 && (x_33.Col == 0 && (x_33.Pending == false && true)))) with h79 | h79
          · skip
            have H80 := anT h79 h46
            refine vb h79 ?_
            refine wn ?_
            refine va (v2) ?_
            refine wn ?_
            obtain ⟨k_39, h83, H80⟩ := bs H80
            obtain ⟨b81, rfl, h82⟩ := ((h3.mono (l14.trans (l18.trans (l25.trans (l32.trans (l41.trans (l52.trans (l61.trans (l68.trans l77)))))))))).get h83
            refine va (.pointer (some ⟨b81, 0, none⟩)) ?_
            refine wn ?_
            refine va (.pointer (some ⟨b81, 0, none⟩)) ?_
            refine wn ?_
            obtain ⟨o_41, h84, H80⟩ := bs H80
            obtain ⟨v85, h87, h86⟩ := Rel.open_place_Pen (R66.mono l77) h84 h82
            refine WL.val0 (v := v85) rfl (rx (by kernel_rfl) (ldE1 (j := 0) Tryd.underlying51 rfl (O74.gon h87 0 rfl) rfl rfl)) ?_
            refine wn ?_
            obtain ⟨x_42, h88, H80⟩ := bs H80
            refine WL.callP rfl (by kernel_rfl) (c_grid_Grid_Row O74 (R66.mono l77) o_41.G 0 h86 h88) ?_
            rintro v89 c95 l95 ⟨_, O92, rfl, h90⟩
            refine wn ?_
            obtain ⟨x_43, h97, H80⟩ := bs H80
            refine WL.callP rfl (by kernel_rfl) (c_row_Row_Wrap O92 (R66.mono (l77.trans l95)) x_42 h90 h97) ?_
            rintro v103 c102 l102 ⟨O99, rfl⟩
            obtain rfl := Option.some.inj H80
            refine va (.bool x_43) ?_
            rcases Bool.eq_false_or_eq_true (x_43) with h104 | h104
            · skip
              have H105 := anT h104 h47
              refine vb h104 ?_
              refine wn ?_
              refine va (v35) ?_
              refine wn ?_
              obtain ⟨x_47, h106, H105⟩ := bs H105
              refine WL.callP rfl (by kernel_rfl) (c_widen_Cluster_Wide O99 (R66.mono (l77.trans (l95.trans l102))) x_17.2 (h36.mono (l52.trans (l61.trans (l68.trans (l77.trans (l95.trans l102)))))) h106) ?_
              rintro v112 c111 l111 ⟨O108, rfl⟩
              refine wn ?_
              refine va (.bool (x_47 == 2)) ?_
              obtain rfl := Option.some.inj H105
              refine va (.bool (x_47 == 2)) ?_
              refine va (.bool (x_47 == 2)) ?_
              refine wln ?_
              exact ⟨c111, _, G64, rfl, (l52.trans (l61.trans (l68.trans (l77.trans (l95.trans (l102.trans l111)))))), O108, ups_self ⟨rfl, trivial⟩, (R66.mono (l77.trans (l95.trans (l102.trans l111))))⟩
            · skip
              obtain rfl := anF h104 h47
              refine vb h104 ?_
              refine ps ?_
              refine ps ?_
              refine ps ?_
              refine va (.bool false) ?_
              refine va (.bool false) ?_
              refine wln ?_
              exact ⟨c102, _, G64, rfl, (l52.trans (l61.trans (l68.trans (l77.trans (l95.trans l102))))), O99, ups_self ⟨rfl, trivial⟩, (R66.mono (l77.trans (l95.trans l102)))⟩
          · skip
            obtain rfl := anF h79 h46
            refine vb h79 ?_
            refine ps ?_
            refine ps ?_
            refine ps ?_
            refine ps ?_
            refine ps ?_
            refine ps ?_
            refine va (.bool false) ?_
            have h113 : false = false := rfl
            obtain rfl := anF h113 h47
            refine vb h113 ?_
            refine ps ?_
            refine ps ?_
            refine ps ?_
            refine va (.bool false) ?_
            refine va (.bool false) ?_
            refine wln ?_
            exact ⟨c77, _, G64, rfl, (l52.trans (l61.trans (l68.trans l77))), O74, ups_self ⟨rfl, trivial⟩, (R66.mono l77)⟩
        · skip
          obtain rfl := anF h70 h45
          refine vb h70 ?_
          refine ps ?_
          refine ps ?_
          refine ps ?_
          refine ps ?_
          refine va (.bool false) ?_
          have h114 : false = false := rfl
          obtain rfl := anF h114 h46
          refine vb h114 ?_
          refine ps ?_
          refine ps ?_
          refine ps ?_
          refine ps ?_
          refine ps ?_
          refine ps ?_
          refine va (.bool false) ?_
          have h115 : false = false := rfl
          obtain rfl := anF h115 h47
          refine vb h115 ?_
          refine ps ?_
          refine ps ?_
          refine ps ?_
          refine va (.bool false) ?_
          refine va (.bool false) ?_
          refine wln ?_
          exact ⟨c68, _, G64, rfl, (l52.trans (l61.trans l68)), O65, ups_self ⟨rfl, trivial⟩, R66⟩
      · skip
        obtain rfl := Option.some.inj (ie h54 h44)
        refine vb h54 ?_
        refine ps ?_
        refine ps ?_
        refine ps ?_
        refine ps ?_
        refine va (.bool false) ?_
        have h116 : false = false := rfl
        obtain rfl := anF h116 h45
        refine vb h116 ?_
        refine ps ?_
        refine ps ?_
        refine ps ?_
        refine ps ?_
        refine va (.bool false) ?_
        have h117 : false = false := rfl
        obtain rfl := anF h117 h46
        refine vb h117 ?_
        refine ps ?_
        refine ps ?_
        refine ps ?_
        refine ps ?_
        refine ps ?_
        refine ps ?_
        refine va (.bool false) ?_
        have h118 : false = false := rfl
        obtain rfl := anF h118 h47
        refine vb h118 ?_
        refine ps ?_
        refine ps ?_
        refine ps ?_
        refine va (.bool false) ?_
        refine va (.bool false) ?_
        refine wln ?_
        exact ⟨c52, _, G37, rfl, l52, O49, ups_self ⟨rfl, trivial⟩, (R39.mono l52)⟩
    · skip
      rintro e_ w_ ⟨c119, g120, G122, rfl, l119, O121, rfl, R123⟩
      refine nrm ?_
      refine W.ret ?_
      obtain rfl := Option.some.inj H
      have O125 := O121.selD 1 [] (by kernel_rfl) (by kernel_rfl)
      exact ret1 (v := .bool d_44) rfl (by kernel_rfl) ⟨_, c119, rfl, rfl, (l8.trans (l14.trans (l18.trans (l25.trans (l32.trans (l41.trans l119)))))), G122, O125, R123, rfl⟩

end Go.Proofs.YtohpkblleihmaaaDoor
