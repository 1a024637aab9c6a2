import Derived.Test.YtjclbilkinepmaaLx
import Derived.Test.YtjclbilkinepmaaProg
namespace Go.Proofs.Ytjclbilkinepmaa
open Go Go.Lt
set_option maxRecDepth 10000
set_option linter.unusedVariables false
attribute [local irreducible] W WL AC
structure G_api_Cursor where
  Row : Int
  Col : Int
  Pending : Bool

def R_api_Cursor : Rp G_api_Cursor where
  size := 3
  cells := fun _ l x => l = [.int .i64 x.Row, .int .i64 x.Col, .bool x.Pending]
  len := by
    intro c l x h
    obtain rfl := h
    rfl
  one := by
    intro c l x h v hv
    obtain rfl := h
    simp only [List.mem_cons, List.not_mem_nil, or_false] at hv
    rcases hv with rfl | rfl | rfl
    · rfl
    · rfl
    · rfl
  mono := by
    intro c c2 l x hc h
    obtain rfl := h
    exact rfl

structure G_linotypelaw31_Side where
  W : Int
  H : Int
  Wide : Int

def R_linotypelaw31_Side : Rp G_linotypelaw31_Side where
  size := 3
  cells := fun _ l x => l = [.int .i64 x.W, .int .i64 x.H, .int .i64 x.Wide]
  len := by
    intro c l x h
    obtain rfl := h
    rfl
  one := by
    intro c l x h v hv
    obtain rfl := h
    simp only [List.mem_cons, List.not_mem_nil, or_false] at hv
    rcases hv with rfl | rfl | rfl
    · rfl
    · rfl
    · rfl
  mono := by
    intro c c2 l x hc h
    obtain rfl := h
    exact rfl

def f_bound_side (p0 : Int) : Option (Int) :=
  some (imax 1 (imin p0 1024))
theorem c_bound_side {c0 : Cx} (p0 : Int) {r : Int}  (H : f_bound_side p0 = some r) :
    Calls Try.prog 18 #[.int .i64 p0] c0.w (Post c0 fun c v => v = .int .i64 r) := by
  unfold f_bound_side at H
  refine enter (l := [.int .i64 p0]) Try.func18 rfl rfl rfl ?_
  refine W.seq ?_
  refine W.region ?_
  refine WL.val0 (v := .int .i64 0) rfl (by kernel_rfl) ?_
  refine WL.nil ?_
  refine nrm ?_
  refine W.seq ?_
  refine W.region ?_
  refine WL.val0 (v := .int .i64 p0) rfl (by kernel_rfl) ?_
  refine WL.val0 (v := .int .i64 (imin p0 1024)) rfl (by kernel_rfl) ?_
  refine WL.val0 (v := .int .i64 (imax 1 (imin p0 1024))) rfl (by kernel_rfl) ?_
  refine WL.val0 (v := .int .i64 (imax 1 (imin p0 1024))) rfl (by kernel_rfl) ?_
  refine WL.nil ?_
  refine nrm ?_
  refine W.ret ?_
  obtain rfl := Option.some.inj H
  exact ret1 (v := .int .i64 (imax 1 (imin p0 1024))) rfl (by kernel_rfl) ⟨_, c0, rfl, rfl, Cx.ext.refl _, rfl⟩

def f_bound_Most (p0 : Int) (p1 : Int) : Option (Int) :=
  (f_bound_side p0).bind fun t1 =>
  (f_bound_side p1).bind fun t3 =>
  some (w64 ((w64 (t1 * t3)) * 16))
theorem c_bound_Most {c0 : Cx} (p0 : Int) (p1 : Int) {r : Int}  (H : f_bound_Most p0 p1 = some r) :
    Calls Try.prog 6 #[.int .i64 p0, .int .i64 p1] c0.w (Post c0 fun c v => v = .int .i64 r) := by
  unfold f_bound_Most at H
  refine enter (l := [.int .i64 p0, .int .i64 p1]) Try.func6 rfl rfl rfl ?_
  refine W.seq ?_
  refine W.region ?_
  refine WL.val0 (v := .int .i64 0) rfl (by kernel_rfl) ?_
  refine WL.nil ?_
  refine nrm ?_
  refine W.seq ?_
  obtain ⟨t1, h2, H⟩ := bs H
  obtain ⟨t3, h4, H⟩ := bs H
  refine W.region ?_
  refine WL.val0 (v := .int .i64 p0) rfl (by kernel_rfl) ?_
  refine WL.callP rfl (by kernel_rfl) (c_bound_side p0 h2) ?_
  intro v5 c6 x7 h8
  obtain rfl := h8
  have l6 := x7.le
  have X6 := (Cx.ext.refl c0).trans x7
  refine WL.val0 (v := .int .i64 p1) rfl (by kernel_rfl) ?_
  refine WL.callP rfl (by kernel_rfl) (c_bound_side p1 h4) ?_
  intro v9 c10 x11 h12
  obtain rfl := h12
  have l10 := x11.le
  have X10 := X6.trans x11
  refine WL.val0 (v := .int .i64 (w64 (t1 * t3))) rfl (by kernel_rfl) ?_
  refine WL.val0 (v := .int .i64 (w64 ((w64 (t1 * t3)) * 16))) rfl (by kernel_rfl) ?_
  refine WL.val0 (v := .int .i64 (w64 ((w64 (t1 * t3)) * 16))) rfl (by kernel_rfl) ?_
  refine WL.nil ?_
  refine nrm ?_
  refine W.ret ?_
  obtain rfl := Option.some.inj H
  exact ret1 (v := .int .i64 (w64 ((w64 (t1 * t3)) * 16))) rfl (by kernel_rfl) ⟨_, c10, rfl, rfl, X10, rfl⟩

def f_bound_count (p0 : Int) : Option (Int) :=
  some (imax 0 (imin p0 1073741824))
theorem c_bound_count {c0 : Cx} (p0 : Int) {r : Int}  (H : f_bound_count p0 = some r) :
    Calls Try.prog 19 #[.int .i64 p0] c0.w (Post c0 fun c v => v = .int .i64 r) := by
  unfold f_bound_count at H
  refine enter (l := [.int .i64 p0]) Try.func19 rfl rfl rfl ?_
  refine W.seq ?_
  refine W.region ?_
  refine WL.val0 (v := .int .i64 0) rfl (by kernel_rfl) ?_
  refine WL.nil ?_
  refine nrm ?_
  refine W.seq ?_
  refine W.region ?_
  refine WL.val0 (v := .int .i64 p0) rfl (by kernel_rfl) ?_
  refine WL.val0 (v := .int .i64 (imin p0 1073741824)) rfl (by kernel_rfl) ?_
  refine WL.val0 (v := .int .i64 (imax 0 (imin p0 1073741824))) rfl (by kernel_rfl) ?_
  refine WL.val0 (v := .int .i64 (imax 0 (imin p0 1073741824))) rfl (by kernel_rfl) ?_
  refine WL.nil ?_
  refine nrm ?_
  refine W.ret ?_
  obtain rfl := Option.some.inj H
  exact ret1 (v := .int .i64 (imax 0 (imin p0 1073741824))) rfl (by kernel_rfl) ⟨_, c0, rfl, rfl, Cx.ext.refl _, rfl⟩

def f_bound_Rows (p0 : Int) (p1 : Int) : Option (Int) :=
  (f_bound_count p0).bind fun t1 =>
  (f_bound_side p1).bind fun t3 =>
  if (t1 == 0) = true then
  some 1
  else
  if (t3 == 1) = true then
  some t1
  else
  (dvg (w64 (t3 - 1))).bind fun x15 =>
  some (w64 ((w64 ((w64 ((w64 (2 * t1)) + t3)) - 2)).tdiv (w64 (t3 - 1))))
theorem c_bound_Rows {c0 : Cx} (p0 : Int) (p1 : Int) {r : Int}  (H : f_bound_Rows p0 p1 = some r) :
    Calls Try.prog 8 #[.int .i64 p0, .int .i64 p1] c0.w (Post c0 fun c v => v = .int .i64 r) := by
  unfold f_bound_Rows at H
  refine enter (l := [.int .i64 p0, .int .i64 p1]) Try.func8 rfl rfl rfl ?_
  refine W.seq ?_
  refine W.region ?_
  refine WL.val0 (v := .int .i64 0) rfl (by kernel_rfl) ?_
  refine WL.nil ?_
  refine nrm ?_
  refine W.seq ?_
  obtain ⟨t1, h2, H⟩ := bs H
  obtain ⟨t3, h4, H⟩ := bs H
  refine W.region ?_
  refine WL.val0 (v := .int .i64 p0) rfl (by kernel_rfl) ?_
  refine WL.callP rfl (by kernel_rfl) (c_bound_count p0 h2) ?_
  intro v5 c6 x7 h8
  obtain rfl := h8
  have l6 := x7.le
  have X6 := (Cx.ext.refl c0).trans x7
  refine WL.val0 (v := .int .i64 p1) rfl (by kernel_rfl) ?_
  refine WL.callP rfl (by kernel_rfl) (c_bound_side p1 h4) ?_
  intro v9 c10 x11 h12
  obtain rfl := h12
  have l10 := x11.le
  have X10 := X6.trans x11
  refine WL.val0 (v := .int .i64 t1) rfl (by kernel_rfl) ?_
  refine WL.val0 (v := .int .i64 t3) rfl (by kernel_rfl) ?_
  refine WL.nil ?_
  refine nrm ?_
  refine W.seq ?_
  refine W.block ?_
  refine W.seq ?_
  refine W.region ?_
  refine WL.val0 (v := .int .i64 t1) rfl (by kernel_rfl) ?_
  refine WL.val0 (v := .bool (t1 == 0)) rfl (by kernel_rfl) ?_
  refine WL.val0 (v := .bool (t1 == 0)) rfl (by kernel_rfl) ?_
  refine WL.nil ?_
  refine nrm ?_
  refine W.cond (t := t1 == 0) (by kernel_rfl) (fun h13 => ?_) (fun h13 => ?_)
  · have H := it h13 H
    refine W.seq ?_
    refine W.region ?_
    refine WL.val0 (v := .int .i64 1) rfl (by kernel_rfl) ?_
    refine WL.nil ?_
    refine nrm ?_
    refine W.ret ?_
    refine bkr ?_
    refine thr ?_
    obtain rfl := Option.some.inj H
    exact ret1 (v := .int .i64 1) rfl (by kernel_rfl) ⟨_, c10, rfl, rfl, X10, rfl⟩
  · have H := ie h13 H
    refine W.seq ?_
    refine W.region ?_
    refine WL.val0 (v := .int .i64 t3) rfl (by kernel_rfl) ?_
    refine WL.val0 (v := .bool (t3 == 1)) rfl (by kernel_rfl) ?_
    refine WL.val0 (v := .bool (t3 == 1)) rfl (by kernel_rfl) ?_
    refine WL.nil ?_
    refine nrm ?_
    refine W.cond (t := t3 == 1) (by kernel_rfl) (fun h14 => ?_) (fun h14 => ?_)
    · have H := it h14 H
      refine W.seq ?_
      refine W.region ?_
      refine WL.val0 (v := .int .i64 t1) rfl (by kernel_rfl) ?_
      refine WL.val0 (v := .int .i64 t1) rfl (by kernel_rfl) ?_
      refine WL.nil ?_
      refine nrm ?_
      refine W.ret ?_
      refine bkr ?_
      refine thr ?_
      obtain rfl := Option.some.inj H
      exact ret1 (v := .int .i64 t1) rfl (by kernel_rfl) ⟨_, c10, rfl, rfl, X10, rfl⟩
    · have H := ie h14 H
      refine W.skip ?_
      refine bkn ?_
      refine nrm ?_
      refine W.seq ?_
      obtain ⟨x15, h16, H⟩ := bs H
      refine W.region ?_
      refine WL.val0 (v := .int .i64 t1) rfl (by kernel_rfl) ?_
      refine WL.val0 (v := .int .i64 (w64 (2 * t1))) rfl (by kernel_rfl) ?_
      refine WL.val0 (v := .int .i64 t3) rfl (by kernel_rfl) ?_
      refine WL.val0 (v := .int .i64 (w64 ((w64 (2 * t1)) + t3))) rfl (by kernel_rfl) ?_
      refine WL.val0 (v := .int .i64 (w64 ((w64 ((w64 (2 * t1)) + t3)) - 2))) rfl (by kernel_rfl) ?_
      refine WL.val0 (v := .int .i64 t3) rfl (by kernel_rfl) ?_
      refine WL.val0 (v := .int .i64 (w64 (t3 - 1))) rfl (by kernel_rfl) ?_
      refine WL.val0 (v := .int .i64 (w64 ((w64 ((w64 ((w64 (2 * t1)) + t3)) - 2)).tdiv (w64 (t3 - 1))))) rfl (run_quo (a := (w64 ((w64 ((w64 (2 * t1)) + t3)) - 2))) (b := (w64 (t3 - 1))) _ h16 (by kernel_rfl)) ?_
      refine WL.val0 (v := .int .i64 (w64 ((w64 ((w64 ((w64 (2 * t1)) + t3)) - 2)).tdiv (w64 (t3 - 1))))) rfl (by kernel_rfl) ?_
      refine WL.nil ?_
      refine nrm ?_
      refine W.ret ?_
      obtain rfl := Option.some.inj H
      exact ret1 (v := .int .i64 (w64 ((w64 ((w64 ((w64 (2 * t1)) + t3)) - 2)).tdiv (w64 (t3 - 1))))) rfl (by kernel_rfl) ⟨_, c10, rfl, rfl, X10, rfl⟩

def f_linotypelaw48_works  : Option (Bool) :=
  (f_bound_Most 80 24).bind fun t1 =>
  (andE (t1 == 30720) ((f_bound_Rows 3 3).bind fun t5 =>
  some (t5 == 3))).bind fun d3 =>
  (andE d3 ((f_bound_Rows 0 9).bind fun t9 =>
  some (t9 == 1))).bind fun d7 =>
  some d7
theorem c_linotypelaw48_works {c0 : Cx}  {r : Bool}  (H : f_linotypelaw48_works  = some r) :
    Calls Try.prog 5 #[] c0.w (Post c0 fun c v => v = .bool r) := by
  unfold f_linotypelaw48_works at H
  refine enter (l := []) Try.func5 rfl rfl rfl ?_
  refine W.seq ?_
  refine W.region ?_
  refine WL.val0 (v := .bool false) rfl (by kernel_rfl) ?_
  refine WL.nil ?_
  refine nrm ?_
  refine W.seq ?_
  obtain ⟨t1, h2, H⟩ := bs H
  obtain ⟨d3, h4, H⟩ := bs H
  obtain ⟨d7, h8, H⟩ := bs H
  refine W.join (fun e w => ∃ (c : Cx) (g : Nat → Value), w = c.w ∧ c0.le c ∧ c0.ext c ∧ e = ups g [(0, .bool d7)]) ?_ ?_
  · skip
    refine W.region ?_
    refine WL.callP rfl (by kernel_rfl) (c_bound_Most 80 24 h2) ?_
    intro v11 c12 x13 h14
    obtain rfl := h14
    have l12 := x13.le
    have X12 := (Cx.ext.refl c0).trans x13
    refine WL.val0 (v := .bool (t1 == 30720)) rfl (by kernel_rfl) ?_
    rcases Bool.eq_false_or_eq_true (t1 == 30720) with h15 | h15
    · skip
      have h4 := anT h15 h4
      obtain ⟨t5, h6, h4⟩ := bs h4
      refine WL.valb0 h15 rfl (by kernel_rfl) ?_
      refine WL.want (by kernel_rfl) (by kernel_rfl) ?_
      refine WL.callP rfl (by kernel_rfl) (c_bound_Rows 3 3 h6) ?_
      intro v16 c17 x18 h19
      obtain rfl := h19
      have l17 := x18.le
      have X17 := X12.trans x18
      refine WL.want (by kernel_rfl) (by kernel_rfl) ?_
      refine WL.val0 (v := .bool (t5 == 3)) rfl (by kernel_rfl) ?_
      obtain rfl := Option.some.inj h4
      refine WL.val0 (v := .bool (t5 == 3)) rfl (by kernel_rfl) ?_
      rcases Bool.eq_false_or_eq_true (t5 == 3) with h20 | h20
      · skip
        have h8 := anT h20 h8
        obtain ⟨t9, h10, h8⟩ := bs h8
        refine WL.valb0 h20 rfl (by kernel_rfl) ?_
        refine WL.want (by kernel_rfl) (by kernel_rfl) ?_
        refine WL.callP rfl (by kernel_rfl) (c_bound_Rows 0 9 h10) ?_
        intro v21 c22 x23 h24
        obtain rfl := h24
        have l22 := x23.le
        have X22 := X17.trans x23
        refine WL.want (by kernel_rfl) (by kernel_rfl) ?_
        refine WL.val0 (v := .bool (t9 == 1)) rfl (by kernel_rfl) ?_
        obtain rfl := Option.some.inj h8
        refine WL.val0 (v := .bool (t9 == 1)) rfl (by kernel_rfl) ?_
        refine WL.val0 (v := .bool (t9 == 1)) rfl (by kernel_rfl) ?_
        refine WL.nil ?_
        refine nrm ?_
        exact ⟨c22, _, rfl, (l12.trans (l17.trans l22)), X22, ups_self ⟨rfl, trivial⟩⟩
      · skip
        obtain rfl := anF h20 h8
        refine WL.valb0 h20 rfl (by kernel_rfl) ?_
        refine WL.pass (by kernel_rfl) (by kernel_rfl) ?_
        refine WL.pass (by kernel_rfl) (by kernel_rfl) ?_
        refine WL.val0 (v := .bool false) rfl (by kernel_rfl) ?_
        refine WL.val0 (v := .bool false) rfl (by kernel_rfl) ?_
        refine WL.nil ?_
        refine nrm ?_
        exact ⟨c17, _, rfl, (l12.trans l17), X17, ups_self ⟨rfl, trivial⟩⟩
    · skip
      obtain rfl := anF h15 h4
      refine WL.valb0 h15 rfl (by kernel_rfl) ?_
      refine WL.pass (by kernel_rfl) (by kernel_rfl) ?_
      refine WL.pass (by kernel_rfl) (by kernel_rfl) ?_
      refine WL.val0 (v := .bool false) rfl (by kernel_rfl) ?_
      have h25 : false = false := rfl
      obtain rfl := anF h25 h8
      refine WL.valb0 h25 rfl (by kernel_rfl) ?_
      refine WL.pass (by kernel_rfl) (by kernel_rfl) ?_
      refine WL.pass (by kernel_rfl) (by kernel_rfl) ?_
      refine WL.val0 (v := .bool false) rfl (by kernel_rfl) ?_
      refine WL.val0 (v := .bool false) rfl (by kernel_rfl) ?_
      refine WL.nil ?_
      refine nrm ?_
      exact ⟨c12, _, rfl, l12, X12, ups_self ⟨rfl, trivial⟩⟩
  · skip
    rintro e_ w_ ⟨c26, g27, rfl, l26, X26, rfl⟩
    refine nrm ?_
    refine W.ret ?_
    obtain rfl := Option.some.inj H
    exact ret1 (v := .bool d7) rfl (by kernel_rfl) ⟨_, c26, rfl, rfl, X26, rfl⟩

def f_linotyperef31_Side (p0 : Int) : Option (Int) :=
  if (decide (p0 < 1)) = true then
  some 1
  else
  if (decide (p0 > 1024)) = true then
  some 1024
  else
  some p0
theorem c_linotyperef31_Side {c0 : Cx} (p0 : Int) {r : Int}  (H : f_linotyperef31_Side p0 = some r) :
    Calls Try.prog 7 #[.int .i64 p0] c0.w (Post c0 fun c v => v = .int .i64 r) := by
  unfold f_linotyperef31_Side at H
  refine enter (l := [.int .i64 p0]) Try.func7 rfl rfl rfl ?_
  refine W.seq ?_
  refine W.region ?_
  refine WL.val0 (v := .int .i64 0) rfl (by kernel_rfl) ?_
  refine WL.nil ?_
  refine nrm ?_
  refine W.seq ?_
  refine W.seq ?_
  refine W.region ?_
  refine WL.val0 (v := .int .i64 p0) rfl (by kernel_rfl) ?_
  refine WL.val0 (v := .bool (decide (p0 < 1))) rfl (by kernel_rfl) ?_
  refine WL.nil ?_
  refine nrm ?_
  refine W.cond (t := decide (p0 < 1)) (by kernel_rfl) (fun h1 => ?_) (fun h1 => ?_)
  · have H := it h1 H
    refine W.seq ?_
    refine W.region ?_
    refine WL.val0 (v := .int .i64 1) rfl (by kernel_rfl) ?_
    refine WL.nil ?_
    refine nrm ?_
    refine W.ret ?_
    refine thr ?_
    obtain rfl := Option.some.inj H
    exact ret1 (v := .int .i64 1) rfl (by kernel_rfl) ⟨_, c0, rfl, rfl, Cx.ext.refl _, rfl⟩
  · have H := ie h1 H
    refine W.skip ?_
    refine nrm ?_
    refine W.seq ?_
    refine W.seq ?_
    refine W.region ?_
    refine WL.val0 (v := .int .i64 p0) rfl (by kernel_rfl) ?_
    refine WL.val0 (v := .bool (decide (p0 > 1024))) rfl (by kernel_rfl) ?_
    refine WL.nil ?_
    refine nrm ?_
    refine W.cond (t := decide (p0 > 1024)) (by kernel_rfl) (fun h2 => ?_) (fun h2 => ?_)
    · have H := it h2 H
      refine W.seq ?_
      refine W.region ?_
      refine WL.val0 (v := .int .i64 1024) rfl (by kernel_rfl) ?_
      refine WL.nil ?_
      refine nrm ?_
      refine W.ret ?_
      refine thr ?_
      obtain rfl := Option.some.inj H
      exact ret1 (v := .int .i64 1024) rfl (by kernel_rfl) ⟨_, c0, rfl, rfl, Cx.ext.refl _, rfl⟩
    · have H := ie h2 H
      refine W.skip ?_
      refine nrm ?_
      refine W.seq ?_
      refine W.region ?_
      refine WL.val0 (v := .int .i64 p0) rfl (by kernel_rfl) ?_
      refine WL.val0 (v := .int .i64 p0) rfl (by kernel_rfl) ?_
      refine WL.nil ?_
      refine nrm ?_
      refine W.ret ?_
      obtain rfl := Option.some.inj H
      exact ret1 (v := .int .i64 p0) rfl (by kernel_rfl) ⟨_, c0, rfl, rfl, Cx.ext.refl _, rfl⟩

def f_bound_Columns (p0 : Int) : Option (Int) :=
  (f_bound_count p0).bind fun t1 =>
  some (w64 (2 * t1))
theorem c_bound_Columns {c0 : Cx} (p0 : Int) {r : Int}  (H : f_bound_Columns p0 = some r) :
    Calls Try.prog 9 #[.int .i64 p0] c0.w (Post c0 fun c v => v = .int .i64 r) := by
  unfold f_bound_Columns at H
  refine enter (l := [.int .i64 p0]) Try.func9 rfl rfl rfl ?_
  refine W.seq ?_
  refine W.region ?_
  refine WL.val0 (v := .int .i64 0) rfl (by kernel_rfl) ?_
  refine WL.nil ?_
  refine nrm ?_
  refine W.seq ?_
  obtain ⟨t1, h2, H⟩ := bs H
  refine W.region ?_
  refine WL.val0 (v := .int .i64 p0) rfl (by kernel_rfl) ?_
  refine WL.callP rfl (by kernel_rfl) (c_bound_count p0 h2) ?_
  intro v3 c4 x5 h6
  obtain rfl := h6
  have l4 := x5.le
  have X4 := (Cx.ext.refl c0).trans x5
  refine WL.val0 (v := .int .i64 (w64 (2 * t1))) rfl (by kernel_rfl) ?_
  refine WL.val0 (v := .int .i64 (w64 (2 * t1))) rfl (by kernel_rfl) ?_
  refine WL.nil ?_
  refine nrm ?_
  refine W.ret ?_
  obtain rfl := Option.some.inj H
  exact ret1 (v := .int .i64 (w64 (2 * t1))) rfl (by kernel_rfl) ⟨_, c4, rfl, rfl, X4, rfl⟩

def f_linotypelaw48_BoundTells (p0 : Int) (p1 : Int) (p2 : Int) : Option (Bool) :=
  (f_linotypelaw48_works).bind fun t1 =>
  (orE (!t1) ((f_bound_Most p1 p2).bind fun t5 =>
  (f_linotyperef31_Side p1).bind fun t7 =>
  (f_linotyperef31_Side p2).bind fun t9 =>
  some (t5 != (w64 ((w64 (16 * t7)) * t9))))).bind fun d3 =>
  if d3 = true then
  some false
  else
  (f_bound_Rows p0 p1).bind fun t31 =>
  (f_linotyperef31_Side p1).bind fun t37 =>
  (f_bound_Columns p0).bind fun t43 =>
  if (t43 != (w64 ((imax 0 (imin p0 1073741824)) + (imax 0 (imin p0 1073741824))))) = true then
  some false
  else
  (orE ((imax 0 (imin p0 1073741824)) == 0) (some (t37 == 1))).bind fun d50 =>
  if d50 = true then
  some (t31 == (imax 1 (imax 0 (imin p0 1073741824))))
  else
  (andE (decide ((w64 (t31 * (w64 (t37 - 1)))) ≥ (w64 (2 * (imax 0 (imin p0 1073741824)))))) (some (decide ((w64 ((w64 (t31 - 1)) * (w64 (t37 - 1)))) < (w64 (2 * (imax 0 (imin p0 1073741824)))))))).bind fun d56 =>
  some d56
theorem c_linotypelaw48_BoundTells {c0 : Cx} (p0 : Int) (p1 : Int) (p2 : Int) {r : Bool}  (H : f_linotypelaw48_BoundTells p0 p1 p2 = some r) :
    Calls Try.prog 3 #[.int .i64 p0, .int .i64 p1, .int .i64 p2] c0.w (Post c0 fun c v => v = .bool r) := by
  unfold f_linotypelaw48_BoundTells at H
  refine enter (l := [.int .i64 p0, .int .i64 p1, .int .i64 p2]) Try.func3 rfl rfl rfl ?_
  refine W.seq ?_
  refine W.region ?_
  refine WL.val0 (v := .bool false) rfl (by kernel_rfl) ?_
  refine WL.nil ?_
  refine nrm ?_
  refine W.seq ?_
  refine W.seq ?_
  obtain ⟨t1, h2, H⟩ := bs H
  obtain ⟨d3, h4, H⟩ := bs H
  refine W.join (fun e w => ∃ (c : Cx) (g : Nat → Value), w = c.w ∧ c0.le c ∧ c0.ext c ∧ e = ups g [(0, .int .i64 p0), (1, .int .i64 p1), (22, .bool d3)]) ?_ ?_
  · skip
    refine W.region ?_
    refine WL.callP rfl (by kernel_rfl) (c_linotypelaw48_works h2) ?_
    intro v11 c12 x13 h14
    obtain rfl := h14
    have l12 := x13.le
    have X12 := (Cx.ext.refl c0).trans x13
    refine WL.val0 (v := .bool (!t1)) rfl (by kernel_rfl) ?_
    rcases Bool.eq_false_or_eq_true (!t1) with h15 | h15
    · skip
      obtain rfl := orT h15 h4
      refine WL.valb0 h15 rfl (by kernel_rfl) ?_
      refine WL.pass (by kernel_rfl) (by kernel_rfl) ?_
      refine WL.pass (by kernel_rfl) (by kernel_rfl) ?_
      refine WL.pass (by kernel_rfl) (by kernel_rfl) ?_
      refine WL.pass (by kernel_rfl) (by kernel_rfl) ?_
      refine WL.pass (by kernel_rfl) (by kernel_rfl) ?_
      refine WL.pass (by kernel_rfl) (by kernel_rfl) ?_
      refine WL.pass (by kernel_rfl) (by kernel_rfl) ?_
      refine WL.pass (by kernel_rfl) (by kernel_rfl) ?_
      refine WL.pass (by kernel_rfl) (by kernel_rfl) ?_
      refine WL.pass (by kernel_rfl) (by kernel_rfl) ?_
      refine WL.val0 (v := .bool true) rfl (by kernel_rfl) ?_
      refine WL.nil ?_
      refine nrm ?_
      exact ⟨c12, _, rfl, l12, X12, ups_self ⟨rfl, rfl, rfl, trivial⟩⟩
    · skip
      have h4 := orF h15 h4
      obtain ⟨t5, h6, h4⟩ := bs h4
      obtain ⟨t7, h8, h4⟩ := bs h4
      obtain ⟨t9, h10, h4⟩ := bs h4
      refine WL.valb0 h15 rfl (by kernel_rfl) ?_
      refine WL.want (by kernel_rfl) (by kernel_rfl) ?_
      refine WL.val0 (v := .int .i64 p1) rfl (by kernel_rfl) ?_
      refine WL.want (by kernel_rfl) (by kernel_rfl) ?_
      refine WL.val0 (v := .int .i64 p2) rfl (by kernel_rfl) ?_
      refine WL.want (by kernel_rfl) (by kernel_rfl) ?_
      refine WL.callP rfl (by kernel_rfl) (c_bound_Most p1 p2 h6) ?_
      intro v16 c17 x18 h19
      obtain rfl := h19
      have l17 := x18.le
      have X17 := X12.trans x18
      refine WL.want (by kernel_rfl) (by kernel_rfl) ?_
      refine WL.val0 (v := .int .i64 p1) rfl (by kernel_rfl) ?_
      refine WL.want (by kernel_rfl) (by kernel_rfl) ?_
      refine WL.callP rfl (by kernel_rfl) (c_linotyperef31_Side p1 h8) ?_
      intro v20 c21 x22 h23
      obtain rfl := h23
      have l21 := x22.le
      have X21 := X17.trans x22
      refine WL.want (by kernel_rfl) (by kernel_rfl) ?_
      refine WL.val0 (v := .int .i64 (w64 (16 * t7))) rfl (by kernel_rfl) ?_
      refine WL.want (by kernel_rfl) (by kernel_rfl) ?_
      refine WL.val0 (v := .int .i64 p2) rfl (by kernel_rfl) ?_
      refine WL.want (by kernel_rfl) (by kernel_rfl) ?_
      refine WL.callP rfl (by kernel_rfl) (c_linotyperef31_Side p2 h10) ?_
      intro v24 c25 x26 h27
      obtain rfl := h27
      have l25 := x26.le
      have X25 := X21.trans x26
      refine WL.want (by kernel_rfl) (by kernel_rfl) ?_
      refine WL.val0 (v := .int .i64 (w64 ((w64 (16 * t7)) * t9))) rfl (by kernel_rfl) ?_
      refine WL.want (by kernel_rfl) (by kernel_rfl) ?_
      refine WL.val0 (v := .bool (t5 != (w64 ((w64 (16 * t7)) * t9)))) rfl (by kernel_rfl) ?_
      obtain rfl := Option.some.inj h4
      refine WL.val0 (v := .bool (t5 != (w64 ((w64 (16 * t7)) * t9)))) rfl (by kernel_rfl) ?_
      refine WL.nil ?_
      refine nrm ?_
      exact ⟨c25, _, rfl, (l12.trans (l17.trans (l21.trans l25))), X25, ups_self ⟨rfl, rfl, rfl, trivial⟩⟩
  · skip
    rintro e_ w_ ⟨c28, g29, rfl, l28, X28, rfl⟩
    refine nrm ?_
    refine W.cond (t := d3) (by kernel_rfl) (fun h30 => ?_) (fun h30 => ?_)
    · have H := it h30 H
      refine W.seq ?_
      refine W.region ?_
      refine WL.val0 (v := .bool false) rfl (by kernel_rfl) ?_
      refine WL.nil ?_
      refine nrm ?_
      refine W.ret ?_
      refine thr ?_
      obtain rfl := Option.some.inj H
      exact ret1 (v := .bool false) rfl (by kernel_rfl) ⟨_, c28, rfl, rfl, X28, rfl⟩
    · have H := ie h30 H
      refine W.skip ?_
      refine nrm ?_
      refine W.seq ?_
      refine W.region ?_
      refine WL.val0 (v := .int .i64 p0) rfl (by kernel_rfl) ?_
      refine WL.val0 (v := .int .i64 (imin p0 1073741824)) rfl (by kernel_rfl) ?_
      refine WL.val0 (v := .int .i64 (imax 0 (imin p0 1073741824))) rfl (by kernel_rfl) ?_
      refine WL.val0 (v := .int .i64 (imax 0 (imin p0 1073741824))) rfl (by kernel_rfl) ?_
      refine WL.nil ?_
      refine nrm ?_
      refine W.seq ?_
      obtain ⟨t31, h32, H⟩ := bs H
      refine W.region ?_
      refine WL.val0 (v := .int .i64 p0) rfl (by kernel_rfl) ?_
      refine WL.val0 (v := .int .i64 p1) rfl (by kernel_rfl) ?_
      refine WL.callP rfl (by kernel_rfl) (c_bound_Rows p0 p1 h32) ?_
      intro v33 c34 x35 h36
      obtain rfl := h36
      have l34 := x35.le
      have X34 := X28.trans x35
      refine WL.val0 (v := .int .i64 t31) rfl (by kernel_rfl) ?_
      refine WL.nil ?_
      refine nrm ?_
      refine W.seq ?_
      obtain ⟨t37, h38, H⟩ := bs H
      refine W.region ?_
      refine WL.val0 (v := .int .i64 p1) rfl (by kernel_rfl) ?_
      refine WL.callP rfl (by kernel_rfl) (c_linotyperef31_Side p1 h38) ?_
      intro v39 c40 x41 h42
      obtain rfl := h42
      have l40 := x41.le
      have X40 := X34.trans x41
      refine WL.val0 (v := .int .i64 t37) rfl (by kernel_rfl) ?_
      refine WL.nil ?_
      refine nrm ?_
      refine W.seq ?_
      refine W.seq ?_
      obtain ⟨t43, h44, H⟩ := bs H
      refine W.region ?_
      refine WL.val0 (v := .int .i64 p0) rfl (by kernel_rfl) ?_
      refine WL.callP rfl (by kernel_rfl) (c_bound_Columns p0 h44) ?_
      intro v45 c46 x47 h48
      obtain rfl := h48
      have l46 := x47.le
      have X46 := X40.trans x47
      refine WL.val0 (v := .int .i64 (imax 0 (imin p0 1073741824))) rfl (by kernel_rfl) ?_
      refine WL.val0 (v := .int .i64 (imax 0 (imin p0 1073741824))) rfl (by kernel_rfl) ?_
      refine WL.val0 (v := .int .i64 (w64 ((imax 0 (imin p0 1073741824)) + (imax 0 (imin p0 1073741824))))) rfl (by kernel_rfl) ?_
      refine WL.val0 (v := .bool (t43 != (w64 ((imax 0 (imin p0 1073741824)) + (imax 0 (imin p0 1073741824)))))) rfl (by kernel_rfl) ?_
      refine WL.nil ?_
      refine nrm ?_
      refine W.cond (t := t43 != (w64 ((imax 0 (imin p0 1073741824)) + (imax 0 (imin p0 1073741824))))) (by kernel_rfl) (fun h49 => ?_) (fun h49 => ?_)
      · have H := it h49 H
        refine W.seq ?_
        refine W.region ?_
        refine WL.val0 (v := .bool false) rfl (by kernel_rfl) ?_
        refine WL.nil ?_
        refine nrm ?_
        refine W.ret ?_
        refine thr ?_
        obtain rfl := Option.some.inj H
        exact ret1 (v := .bool false) rfl (by kernel_rfl) ⟨_, c46, rfl, rfl, X46, rfl⟩
      · have H := ie h49 H
        refine W.skip ?_
        refine nrm ?_
        refine W.seq ?_
        refine W.seq ?_
        obtain ⟨d50, h51, H⟩ := bs H
        refine W.join (fun e w => ∃ (c : Cx) (g : Nat → Value), w = c.w ∧ c46.le c ∧ c0.ext c ∧ e = ups g [(1, .int .i64 t37), (7, .int .i64 (imax 0 (imin p0 1073741824))), (8, .int .i64 t31), (42, .bool d50)]) ?_ ?_
        · skip
          refine W.region ?_
          refine WL.val0 (v := .int .i64 (imax 0 (imin p0 1073741824))) rfl (by kernel_rfl) ?_
          refine WL.val0 (v := .bool ((imax 0 (imin p0 1073741824)) == 0)) rfl (by kernel_rfl) ?_
          rcases Bool.eq_false_or_eq_true ((imax 0 (imin p0 1073741824)) == 0) with h52 | h52
          · skip
            obtain rfl := orT h52 h51
            refine WL.valb0 h52 rfl (by kernel_rfl) ?_
            refine WL.pass (by kernel_rfl) (by kernel_rfl) ?_
            refine WL.pass (by kernel_rfl) (by kernel_rfl) ?_
            refine WL.val0 (v := .bool true) rfl (by kernel_rfl) ?_
            refine WL.nil ?_
            refine nrm ?_
            exact ⟨c46, _, rfl, (Cx.le.refl _), X46, ups_self ⟨rfl, rfl, rfl, rfl, trivial⟩⟩
          · skip
            have h51 := orF h52 h51
            refine WL.valb0 h52 rfl (by kernel_rfl) ?_
            refine WL.want (by kernel_rfl) (by kernel_rfl) ?_
            refine WL.val0 (v := .int .i64 t37) rfl (by kernel_rfl) ?_
            refine WL.want (by kernel_rfl) (by kernel_rfl) ?_
            refine WL.val0 (v := .bool (t37 == 1)) rfl (by kernel_rfl) ?_
            obtain rfl := Option.some.inj h51
            refine WL.val0 (v := .bool (t37 == 1)) rfl (by kernel_rfl) ?_
            refine WL.nil ?_
            refine nrm ?_
            exact ⟨c46, _, rfl, (Cx.le.refl _), X46, ups_self ⟨rfl, rfl, rfl, rfl, trivial⟩⟩
        · skip
          rintro e_ w_ ⟨c53, g54, rfl, l53, X53, rfl⟩
          refine nrm ?_
          refine W.cond (t := d50) (by kernel_rfl) (fun h55 => ?_) (fun h55 => ?_)
          · have H := it h55 H
            refine W.seq ?_
            refine W.region ?_
            refine WL.val0 (v := .int .i64 t31) rfl (by kernel_rfl) ?_
            refine WL.val0 (v := .int .i64 (imax 0 (imin p0 1073741824))) rfl (by kernel_rfl) ?_
            refine WL.val0 (v := .int .i64 (imax 1 (imax 0 (imin p0 1073741824)))) rfl (by kernel_rfl) ?_
            refine WL.val0 (v := .bool (t31 == (imax 1 (imax 0 (imin p0 1073741824))))) rfl (by kernel_rfl) ?_
            refine WL.val0 (v := .bool (t31 == (imax 1 (imax 0 (imin p0 1073741824))))) rfl (by kernel_rfl) ?_
            refine WL.nil ?_
            refine nrm ?_
            refine W.ret ?_
            refine thr ?_
            obtain rfl := Option.some.inj H
            exact ret1 (v := .bool (t31 == (imax 1 (imax 0 (imin p0 1073741824))))) rfl (by kernel_rfl) ⟨_, c53, rfl, rfl, X53, rfl⟩
          · have H := ie h55 H
            refine W.skip ?_
            refine nrm ?_
            refine W.seq ?_
            obtain ⟨d56, h57, H⟩ := bs H
            refine W.join (fun e w => ∃ (c : Cx) (g : Nat → Value), w = c.w ∧ c53.le c ∧ c0.ext c ∧ e = ups g [(6, .bool d56)]) ?_ ?_
            · skip
              refine W.region ?_
              refine WL.val0 (v := .int .i64 t31) rfl (by kernel_rfl) ?_
              refine WL.val0 (v := .int .i64 t37) rfl (by kernel_rfl) ?_
              refine WL.val0 (v := .int .i64 (w64 (t37 - 1))) rfl (by kernel_rfl) ?_
              refine WL.val0 (v := .int .i64 (w64 (t31 * (w64 (t37 - 1))))) rfl (by kernel_rfl) ?_
              refine WL.val0 (v := .int .i64 (imax 0 (imin p0 1073741824))) rfl (by kernel_rfl) ?_
              refine WL.val0 (v := .int .i64 (w64 (2 * (imax 0 (imin p0 1073741824))))) rfl (by kernel_rfl) ?_
              refine WL.val0 (v := .bool (decide ((w64 (t31 * (w64 (t37 - 1)))) ≥ (w64 (2 * (imax 0 (imin p0 1073741824))))))) rfl (by kernel_rfl) ?_
              rcases Bool.eq_false_or_eq_true (decide ((w64 (t31 * (w64 (t37 - 1)))) ≥ (w64 (2 * (imax 0 (imin p0 1073741824)))))) with h58 | h58
              · skip
                have h57 := anT h58 h57
                refine WL.valb0 h58 rfl (by kernel_rfl) ?_
                refine WL.want (by kernel_rfl) (by kernel_rfl) ?_
                refine WL.val0 (v := .int .i64 t31) rfl (by kernel_rfl) ?_
                refine WL.want (by kernel_rfl) (by kernel_rfl) ?_
                refine WL.val0 (v := .int .i64 (w64 (t31 - 1))) rfl (by kernel_rfl) ?_
                refine WL.want (by kernel_rfl) (by kernel_rfl) ?_
                refine WL.val0 (v := .int .i64 t37) rfl (by kernel_rfl) ?_
                refine WL.want (by kernel_rfl) (by kernel_rfl) ?_
                refine WL.val0 (v := .int .i64 (w64 (t37 - 1))) rfl (by kernel_rfl) ?_
                refine WL.want (by kernel_rfl) (by kernel_rfl) ?_
                refine WL.val0 (v := .int .i64 (w64 ((w64 (t31 - 1)) * (w64 (t37 - 1))))) rfl (by kernel_rfl) ?_
                refine WL.want (by kernel_rfl) (by kernel_rfl) ?_
                refine WL.val0 (v := .int .i64 (imax 0 (imin p0 1073741824))) rfl (by kernel_rfl) ?_
                refine WL.want (by kernel_rfl) (by kernel_rfl) ?_
                refine WL.val0 (v := .int .i64 (w64 (2 * (imax 0 (imin p0 1073741824))))) rfl (by kernel_rfl) ?_
                refine WL.want (by kernel_rfl) (by kernel_rfl) ?_
                refine WL.val0 (v := .bool (decide ((w64 ((w64 (t31 - 1)) * (w64 (t37 - 1)))) < (w64 (2 * (imax 0 (imin p0 1073741824))))))) rfl (by kernel_rfl) ?_
                obtain rfl := Option.some.inj h57
                refine WL.val0 (v := .bool (decide ((w64 ((w64 (t31 - 1)) * (w64 (t37 - 1)))) < (w64 (2 * (imax 0 (imin p0 1073741824))))))) rfl (by kernel_rfl) ?_
                refine WL.val0 (v := .bool (decide ((w64 ((w64 (t31 - 1)) * (w64 (t37 - 1)))) < (w64 (2 * (imax 0 (imin p0 1073741824))))))) rfl (by kernel_rfl) ?_
                refine WL.nil ?_
                refine nrm ?_
                exact ⟨c53, _, rfl, (Cx.le.refl _), X53, ups_self ⟨rfl, trivial⟩⟩
              · skip
                obtain rfl := anF h58 h57
                refine WL.valb0 h58 rfl (by kernel_rfl) ?_
                refine WL.pass (by kernel_rfl) (by kernel_rfl) ?_
                refine WL.pass (by kernel_rfl) (by kernel_rfl) ?_
                refine WL.pass (by kernel_rfl) (by kernel_rfl) ?_
                refine WL.pass (by kernel_rfl) (by kernel_rfl) ?_
                refine WL.pass (by kernel_rfl) (by kernel_rfl) ?_
                refine WL.pass (by kernel_rfl) (by kernel_rfl) ?_
                refine WL.pass (by kernel_rfl) (by kernel_rfl) ?_
                refine WL.pass (by kernel_rfl) (by kernel_rfl) ?_
                refine WL.val0 (v := .bool false) rfl (by kernel_rfl) ?_
                refine WL.val0 (v := .bool false) rfl (by kernel_rfl) ?_
                refine WL.nil ?_
                refine nrm ?_
                exact ⟨c53, _, rfl, (Cx.le.refl _), X53, ups_self ⟨rfl, trivial⟩⟩
            · skip
              rintro e_ w_ ⟨c59, g60, rfl, l59, X59, rfl⟩
              refine nrm ?_
              refine W.ret ?_
              obtain rfl := Option.some.inj H
              exact ret1 (v := .bool d56) rfl (by kernel_rfl) ⟨_, c59, rfl, rfl, X59, rfl⟩

def f_cursor_side (p0 : Int) : Option (Int) :=
  some (imax 1 (imin p0 1024))
theorem c_cursor_side {c0 : Cx} (p0 : Int) {r : Int}  (H : f_cursor_side p0 = some r) :
    Calls Try.prog 20 #[.int .i64 p0] c0.w (Post c0 fun c v => v = .int .i64 r) := by
  unfold f_cursor_side at H
  refine enter (l := [.int .i64 p0]) Try.func20 rfl rfl rfl ?_
  refine W.seq ?_
  refine W.region ?_
  refine WL.val0 (v := .int .i64 0) rfl (by kernel_rfl) ?_
  refine WL.nil ?_
  refine nrm ?_
  refine W.seq ?_
  refine W.region ?_
  refine WL.val0 (v := .int .i64 p0) rfl (by kernel_rfl) ?_
  refine WL.val0 (v := .int .i64 (imin p0 1024)) rfl (by kernel_rfl) ?_
  refine WL.val0 (v := .int .i64 (imax 1 (imin p0 1024))) rfl (by kernel_rfl) ?_
  refine WL.val0 (v := .int .i64 (imax 1 (imin p0 1024))) rfl (by kernel_rfl) ?_
  refine WL.nil ?_
  refine nrm ?_
  refine W.ret ?_
  obtain rfl := Option.some.inj H
  exact ret1 (v := .int .i64 (imax 1 (imin p0 1024))) rfl (by kernel_rfl) ⟨_, c0, rfl, rfl, Cx.ext.refl _, rfl⟩

def f_cursor_held (p0 : Int) (p1 : Int) : Option (Int) :=
  some (imax 0 (imin p0 (w64 (p1 - 1))))
theorem c_cursor_held {c0 : Cx} (p0 : Int) (p1 : Int) {r : Int}  (H : f_cursor_held p0 p1 = some r) :
    Calls Try.prog 21 #[.int .i64 p0, .int .i64 p1] c0.w (Post c0 fun c v => v = .int .i64 r) := by
  unfold f_cursor_held at H
  refine enter (l := [.int .i64 p0, .int .i64 p1]) Try.func21 rfl rfl rfl ?_
  refine W.seq ?_
  refine W.region ?_
  refine WL.val0 (v := .int .i64 0) rfl (by kernel_rfl) ?_
  refine WL.nil ?_
  refine nrm ?_
  refine W.seq ?_
  refine W.region ?_
  refine WL.val0 (v := .int .i64 p0) rfl (by kernel_rfl) ?_
  refine WL.val0 (v := .int .i64 p1) rfl (by kernel_rfl) ?_
  refine WL.val0 (v := .int .i64 (w64 (p1 - 1))) rfl (by kernel_rfl) ?_
  refine WL.val0 (v := .int .i64 (imin p0 (w64 (p1 - 1)))) rfl (by kernel_rfl) ?_
  refine WL.val0 (v := .int .i64 (imax 0 (imin p0 (w64 (p1 - 1))))) rfl (by kernel_rfl) ?_
  refine WL.val0 (v := .int .i64 (imax 0 (imin p0 (w64 (p1 - 1))))) rfl (by kernel_rfl) ?_
  refine WL.nil ?_
  refine nrm ?_
  refine W.ret ?_
  obtain rfl := Option.some.inj H
  exact ret1 (v := .int .i64 (imax 0 (imin p0 (w64 (p1 - 1))))) rfl (by kernel_rfl) ⟨_, c0, rfl, rfl, Cx.ext.refl _, rfl⟩

def f_cursor_Hold (p0 : G_api_Cursor) (p1 : Int) (p2 : Int) : Option (G_api_Cursor) :=
  (f_cursor_side p1).bind fun t10 =>
  (f_cursor_side p2).bind fun t12 =>
  (f_cursor_held p0.Row t12).bind fun t24 =>
  (f_cursor_held p0.Col t10).bind fun t26 =>
  (andE p0.Pending (some (p0.Col == (w64 (t10 - 1))))).bind fun d28 =>
  some (⟨t24, t26, d28⟩ : G_api_Cursor)
theorem c_cursor_Hold {c0 : Cx} (p0 : G_api_Cursor) (p1 : Int) (p2 : Int) {r : G_api_Cursor}  (H : f_cursor_Hold p0 p1 p2 = some r) :
    Calls Try.prog 13 #[.agg #[.int .i64 p0.Row, .int .i64 p0.Col, .bool p0.Pending], .int .i64 p1, .int .i64 p2] c0.w (Post c0 fun c v => v = .agg #[.int .i64 r.Row, .int .i64 r.Col, .bool r.Pending]) := by
  unfold f_cursor_Hold at H
  refine enter (l := [.agg #[.int .i64 p0.Row, .int .i64 p0.Col, .bool p0.Pending], .int .i64 p1, .int .i64 p2]) Try.func13 rfl rfl rfl ?_
  refine W.seq ?_
  refine W.region ?_
  refine WL.box (c := c0) (T := 27) (vs := [.int .i64 p0.Row, .int .i64 p0.Col, .bool p0.Pending]) rfl (by kernel_rfl) ?_
  intro b1 c2 x3 m4
  have l2 := x3.le
  have X2 := (Cx.ext.refl c0).trans x3
  refine WL.alloc (c := c2) (T := 27) (vs := [.int .i64 0, .int .i64 0, .bool false]) X2.size rfl (by kernel_rfl) ?_
  intro b5 c6 x7 b8 h9
  have l6 := x7.le
  have X6 := X2.trans x7
  refine WL.nil ?_
  refine nrm ?_
  refine W.seq ?_
  obtain ⟨t10, h11, H⟩ := bs H
  obtain ⟨t12, h13, H⟩ := bs H
  refine W.region ?_
  refine WL.val0 (v := .int .i64 p1) rfl (by kernel_rfl) ?_
  refine WL.callP rfl (by kernel_rfl) (c_cursor_side p1 h11) ?_
  intro v14 c15 x16 h17
  obtain rfl := h17
  have l15 := x16.le
  have X15 := X6.trans x16
  have b18 := b8.ext x16
  refine WL.val0 (v := .int .i64 p2) rfl (by kernel_rfl) ?_
  refine WL.callP rfl (by kernel_rfl) (c_cursor_side p2 h13) ?_
  intro v19 c20 x21 h22
  obtain rfl := h22
  have l20 := x21.le
  have X20 := X15.trans x21
  have b23 := b18.ext x21
  refine WL.val0 (v := .int .i64 t10) rfl (by kernel_rfl) ?_
  refine WL.val0 (v := .int .i64 t12) rfl (by kernel_rfl) ?_
  refine WL.nil ?_
  refine nrm ?_
  refine W.seq ?_
  obtain ⟨t24, h25, H⟩ := bs H
  obtain ⟨t26, h27, H⟩ := bs H
  obtain ⟨d28, h29, H⟩ := bs H
  refine W.join (fun e w => ∃ (c : Cx) (g : Nat → Value), w = c.w ∧ c20.le c ∧ c0.ext c ∧ e = ups g [(6, .pointer (some ⟨b5, 0, none⟩))] ∧ Bx c0.w.heap.size c b5 27 [.int .i64 t24, .int .i64 t26, .bool d28]) ?_ ?_
  · skip
    refine W.regionD [] (by kernel_rfl) ?_
    have x30 := Cx.ext_drew c20
    generalize c20.drew = c30 at x30 ⊢
    have l30 := x30.le
    have X30 := X20.trans x30
    have b31 := b23.ext x30
    refine AC.take 0 (.pointer (some ⟨b1, 0, none⟩)) rfl (by kernel_rfl) (by kernel_rfl) (by kernel_rfl) (by kernel_rfl) (by kernel_rfl) (fun c' hle => (by kernel_rfl)) ?_
    refine AC.take 1 (.int .i64 p0.Row) rfl (by kernel_rfl) (by kernel_rfl) (by kernel_rfl) (by kernel_rfl) (by kernel_rfl) (fun c' hle => (rx (by kernel_rfl) (run_load1 Try.underlying3 rfl ((fun j u hu => (m4 j u hu).mono ((l6.trans (l15.trans (l20.trans l30))).trans hle.1)) 0 _ rfl)))) ?_
    refine AC.take 2 (.int .i64 t12) rfl (by kernel_rfl) (by kernel_rfl) (by kernel_rfl) (by kernel_rfl) (by kernel_rfl) (fun c' hle => (by kernel_rfl)) ?_
    refine AC.take 4 (.pointer (some ⟨b1, 0 + 1, none⟩)) rfl (by kernel_rfl) (by kernel_rfl) (by kernel_rfl) (by kernel_rfl) (by kernel_rfl) (fun c' hle => (by kernel_rfl)) ?_
    refine AC.take 5 (.int .i64 p0.Col) rfl (by kernel_rfl) (by kernel_rfl) (by kernel_rfl) (by kernel_rfl) (by kernel_rfl) (fun c' hle => (rx (by kernel_rfl) (run_load1 Try.underlying3 rfl ((fun j u hu => (m4 j u hu).mono ((l6.trans (l15.trans (l20.trans l30))).trans hle.1)) 1 _ rfl)))) ?_
    refine AC.take 6 (.int .i64 t10) rfl (by kernel_rfl) (by kernel_rfl) (by kernel_rfl) (by kernel_rfl) (by kernel_rfl) (fun c' hle => (by kernel_rfl)) ?_
    refine AC.take 8 (.pointer (some ⟨b1, 0 + 2, none⟩)) rfl (by kernel_rfl) (by kernel_rfl) (by kernel_rfl) (by kernel_rfl) (by kernel_rfl) (fun c' hle => (by kernel_rfl)) ?_
    refine AC.take 9 (.bool p0.Pending) rfl (by kernel_rfl) (by kernel_rfl) (by kernel_rfl) (by kernel_rfl) (by kernel_rfl) (fun c' hle => (rx (by kernel_rfl) (run_load1 Try.underlying4 rfl ((fun j u hu => (m4 j u hu).mono ((l6.trans (l15.trans (l20.trans l30))).trans hle.1)) 2 _ rfl)))) ?_
    refine AC.oneCall 3 (by kernel_rfl) rfl (by kernel_rfl) (by kernel_rfl) (by kernel_rfl) (c_cursor_held p0.Row t12 h25) fnil ?_
    intro v32 c33 x34 h35
    obtain rfl := h35
    have l33 := x34.le
    have X33 := X30.trans x34
    have b36 := b31.ext x34
    refine AC.oneCall 7 (by kernel_rfl) rfl (by kernel_rfl) (by kernel_rfl) (by kernel_rfl) (c_cursor_held p0.Col t10 h27) fnil ?_
    intro v37 c38 x39 h40
    obtain rfl := h40
    have l38 := x39.le
    have X38 := X33.trans x39
    have b41 := b36.ext x39
    rcases Bool.eq_false_or_eq_true (p0.Pending) with h42 | h42
    · skip
      have h29 := anT h42 h29
      refine AC.takeb 10 h42 rfl (by kernel_rfl) (by kernel_rfl) (by kernel_rfl) (by kernel_rfl) (by kernel_rfl) (fun c' hle => (by kernel_rfl)) ?_
      refine AC.take 11 (.pointer (some ⟨b1, 0 + 1, none⟩)) rfl (by kernel_rfl) (by kernel_rfl) (by kernel_rfl) (by kernel_rfl) (by kernel_rfl) (fun c' hle => (by kernel_rfl)) ?_
      refine AC.take 12 (.int .i64 p0.Col) rfl (by kernel_rfl) (by kernel_rfl) (by kernel_rfl) (by kernel_rfl) (by kernel_rfl) (fun c' hle => (rx (by kernel_rfl) (run_load1 Try.underlying3 rfl ((fun j u hu => (m4 j u hu).mono ((l6.trans (l15.trans (l20.trans (l30.trans (l33.trans l38))))).trans hle.1)) 1 _ rfl)))) ?_
      refine AC.take 13 (.int .i64 t10) rfl (by kernel_rfl) (by kernel_rfl) (by kernel_rfl) (by kernel_rfl) (by kernel_rfl) (fun c' hle => (by kernel_rfl)) ?_
      refine AC.take 14 (.int .i64 (w64 (t10 - 1))) rfl (by kernel_rfl) (by kernel_rfl) (by kernel_rfl) (by kernel_rfl) (by kernel_rfl) (fun c' hle => (by kernel_rfl)) ?_
      refine AC.take 15 (.bool (p0.Col == (w64 (t10 - 1)))) rfl (by kernel_rfl) (by kernel_rfl) (by kernel_rfl) (by kernel_rfl) (by kernel_rfl) (fun c' hle => (by kernel_rfl)) ?_
      obtain rfl := Option.some.inj h29
      refine AC.take 16 (.bool (p0.Col == (w64 (t10 - 1)))) rfl (by kernel_rfl) (by kernel_rfl) (by kernel_rfl) (by kernel_rfl) (by kernel_rfl) (fun c' hle => (by kernel_rfl)) ?_
      refine AC.take 17 (.agg #[.int .i64 t24, .int .i64 t26, .bool (p0.Col == (w64 (t10 - 1)))]) rfl (by kernel_rfl) (by kernel_rfl) (by kernel_rfl) (by kernel_rfl) (by kernel_rfl) (fun c' hle => (by kernel_rfl)) ?_
      refine AC.store 18 (T := 27) (j := 0) (us := [.int .i64 t24, .int .i64 t26, .bool (p0.Col == (w64 (t10 - 1)))]) (nw := [.int .i64 t24, .int .i64 t26, .bool (p0.Col == (w64 (t10 - 1)))]) (v := .agg #[.int .i64 t24, .int .i64 t26, .bool (p0.Col == (w64 (t10 - 1)))]) (by kernel_rfl) rfl (by kernel_rfl) (by kernel_rfl) fnil X38 b41 (by kernel_rfl) rfl (by kernel_rfl) ⟨rfl, rfl, rfl, trivial⟩ rfl rfl ?_
      intro c43 l43 X43 b44 h45 h46 h47
      refine AC.done (by kernel_rfl) ?_
      refine nrm ?_
      exact ⟨c43, _, rfl, (l30.trans (l33.trans (l38.trans l43))), X43, ups_self ⟨rfl, trivial⟩, b44⟩
    · skip
      obtain rfl := anF h42 h29
      refine AC.takeb 10 h42 rfl (by kernel_rfl) (by kernel_rfl) (by kernel_rfl) (by kernel_rfl) (by kernel_rfl) (fun c' hle => (by kernel_rfl)) ?_
      refine AC.pass 11 rfl (by kernel_rfl) (by kernel_rfl) (by kernel_rfl) (by kernel_rfl) (by kernel_rfl) ?_
      refine AC.pass 12 rfl (by kernel_rfl) (by kernel_rfl) (by kernel_rfl) (by kernel_rfl) (by kernel_rfl) ?_
      refine AC.pass 13 rfl (by kernel_rfl) (by kernel_rfl) (by kernel_rfl) (by kernel_rfl) (by kernel_rfl) ?_
      refine AC.pass 14 rfl (by kernel_rfl) (by kernel_rfl) (by kernel_rfl) (by kernel_rfl) (by kernel_rfl) ?_
      refine AC.pass 15 rfl (by kernel_rfl) (by kernel_rfl) (by kernel_rfl) (by kernel_rfl) (by kernel_rfl) ?_
      refine AC.take 16 (.bool false) rfl (by kernel_rfl) (by kernel_rfl) (by kernel_rfl) (by kernel_rfl) (by kernel_rfl) (fun c' hle => (by kernel_rfl)) ?_
      refine AC.take 17 (.agg #[.int .i64 t24, .int .i64 t26, .bool false]) rfl (by kernel_rfl) (by kernel_rfl) (by kernel_rfl) (by kernel_rfl) (by kernel_rfl) (fun c' hle => (by kernel_rfl)) ?_
      refine AC.store 18 (T := 27) (j := 0) (us := [.int .i64 t24, .int .i64 t26, .bool false]) (nw := [.int .i64 t24, .int .i64 t26, .bool false]) (v := .agg #[.int .i64 t24, .int .i64 t26, .bool false]) (by kernel_rfl) rfl (by kernel_rfl) (by kernel_rfl) fnil X38 b41 (by kernel_rfl) rfl (by kernel_rfl) ⟨rfl, rfl, rfl, trivial⟩ rfl rfl ?_
      intro c48 l48 X48 b49 h50 h51 h52
      refine AC.done (by kernel_rfl) ?_
      refine nrm ?_
      exact ⟨c48, _, rfl, (l30.trans (l33.trans (l38.trans l48))), X48, ups_self ⟨rfl, trivial⟩, b49⟩
  · skip
    rintro e_ w_ ⟨c53, g54, rfl, l53, X53, rfl, b55⟩
    refine nrm ?_
    refine W.ret ?_
    obtain rfl := Option.some.inj H
    exact retC (vs := [.int .i64 t24, .int .i64 t26, .bool d28]) rfl (by kernel_rfl) (by kernel_rfl) (by kernel_rfl) b55.block ⟨_, c53, rfl, rfl, X53, rfl⟩

def f_cursor_Move (p0 : Int) (p1 : Int) (p2 : Int) (p3 : Int) : Option (G_api_Cursor) :=
  (f_cursor_Hold (⟨p0, p1, false⟩ : G_api_Cursor) p2 p3).bind fun t6 =>
  some t6
theorem c_cursor_Move {c0 : Cx} (p0 : Int) (p1 : Int) (p2 : Int) (p3 : Int) {r : G_api_Cursor}  (H : f_cursor_Move p0 p1 p2 p3 = some r) :
    Calls Try.prog 15 #[.int .i64 p0, .int .i64 p1, .int .i64 p2, .int .i64 p3] c0.w (Post c0 fun c v => v = .agg #[.int .i64 r.Row, .int .i64 r.Col, .bool r.Pending]) := by
  unfold f_cursor_Move at H
  refine enter (l := [.int .i64 p0, .int .i64 p1, .int .i64 p2, .int .i64 p3]) Try.func15 rfl rfl rfl ?_
  refine W.seq ?_
  refine W.region ?_
  refine WL.alloc (c := c0) (T := 27) (vs := [.int .i64 0, .int .i64 0, .bool false]) (Nat.le_refl _) rfl (by kernel_rfl) ?_
  intro b1 c2 x3 b4 h5
  have l2 := x3.le
  have X2 := (Cx.ext.refl c0).trans x3
  refine WL.nil ?_
  refine nrm ?_
  refine W.seq ?_
  obtain ⟨t6, h7, H⟩ := bs H
  refine W.region ?_
  refine WL.val0 (v := .int .i64 p0) rfl (by kernel_rfl) ?_
  refine WL.val0 (v := .int .i64 p1) rfl (by kernel_rfl) ?_
  refine WL.val0 (v := .agg #[.int .i64 p0, .int .i64 p1, .bool false]) rfl (by kernel_rfl) ?_
  refine WL.val0 (v := .int .i64 p2) rfl (by kernel_rfl) ?_
  refine WL.val0 (v := .int .i64 p3) rfl (by kernel_rfl) ?_
  refine WL.callP rfl (by kernel_rfl) (c_cursor_Hold (⟨p0, p1, false⟩ : G_api_Cursor) p2 p3 h7) ?_
  intro v8 c9 x10 h11
  obtain rfl := h11
  have l9 := x10.le
  have X9 := X2.trans x10
  have b12 := b4.ext x10
  refine WL.store (T := 27) (j := 0) (us := [.int .i64 t6.Row, .int .i64 t6.Col, .bool t6.Pending]) (nw := [.int .i64 t6.Row, .int .i64 t6.Col, .bool t6.Pending]) (v := .agg #[.int .i64 t6.Row, .int .i64 t6.Col, .bool t6.Pending]) X9 b12 rfl (by kernel_rfl) rfl (by kernel_rfl) ⟨rfl, rfl, rfl, trivial⟩ rfl rfl ?_
  intro c13 l13 X13 b14 h15 h16 h17
  refine WL.nil ?_
  refine nrm ?_
  refine W.ret ?_
  obtain rfl := Option.some.inj H
  exact retC (vs := [.int .i64 t6.Row, .int .i64 t6.Col, .bool t6.Pending]) rfl (by kernel_rfl) (by kernel_rfl) (by kernel_rfl) b14.block ⟨_, c13, rfl, rfl, X13, rfl⟩

def f_cursor_After (p0 : G_api_Cursor) (p1 : Int) (p2 : Int) (p3 : Bool) : Option (G_api_Cursor) :=
  (f_cursor_side p2).bind fun t10 =>
  if (decide (p0.Col < (w64 (t10 - (imax 1 (imin p1 2)))))) = true then
  some (⟨p0.Row, (w64 (p0.Col + (imax 1 (imin p1 2)))), false⟩ : G_api_Cursor)
  else
  some (⟨p0.Row, (w64 (t10 - 1)), p3⟩ : G_api_Cursor)
theorem c_cursor_After {c0 : Cx} (p0 : G_api_Cursor) (p1 : Int) (p2 : Int) (p3 : Bool) {r : G_api_Cursor}  (H : f_cursor_After p0 p1 p2 p3 = some r) :
    Calls Try.prog 16 #[.agg #[.int .i64 p0.Row, .int .i64 p0.Col, .bool p0.Pending], .int .i64 p1, .int .i64 p2, .bool p3] c0.w (Post c0 fun c v => v = .agg #[.int .i64 r.Row, .int .i64 r.Col, .bool r.Pending]) := by
  unfold f_cursor_After at H
  refine enter (l := [.agg #[.int .i64 p0.Row, .int .i64 p0.Col, .bool p0.Pending], .int .i64 p1, .int .i64 p2, .bool p3]) Try.func16 rfl rfl rfl ?_
  refine W.seq ?_
  refine W.region ?_
  refine WL.box (c := c0) (T := 27) (vs := [.int .i64 p0.Row, .int .i64 p0.Col, .bool p0.Pending]) rfl (by kernel_rfl) ?_
  intro b1 c2 x3 m4
  have l2 := x3.le
  have X2 := (Cx.ext.refl c0).trans x3
  refine WL.alloc (c := c2) (T := 27) (vs := [.int .i64 0, .int .i64 0, .bool false]) X2.size rfl (by kernel_rfl) ?_
  intro b5 c6 x7 b8 h9
  have l6 := x7.le
  have X6 := X2.trans x7
  refine WL.nil ?_
  refine nrm ?_
  refine W.seq ?_
  obtain ⟨t10, h11, H⟩ := bs H
  refine W.region ?_
  refine WL.val0 (v := .int .i64 p1) rfl (by kernel_rfl) ?_
  refine WL.val0 (v := .int .i64 (imin p1 2)) rfl (by kernel_rfl) ?_
  refine WL.val0 (v := .int .i64 (imax 1 (imin p1 2))) rfl (by kernel_rfl) ?_
  refine WL.val0 (v := .int .i64 p2) rfl (by kernel_rfl) ?_
  refine WL.callP rfl (by kernel_rfl) (c_cursor_side p2 h11) ?_
  intro v12 c13 x14 h15
  obtain rfl := h15
  have l13 := x14.le
  have X13 := X6.trans x14
  have b16 := b8.ext x14
  refine WL.val0 (v := .int .i64 (imax 1 (imin p1 2))) rfl (by kernel_rfl) ?_
  refine WL.val0 (v := .int .i64 t10) rfl (by kernel_rfl) ?_
  refine WL.nil ?_
  refine nrm ?_
  refine W.seq ?_
  refine W.seq ?_
  refine W.region ?_
  refine WL.val0 (v := .pointer (some ⟨b1, 0 + 1, none⟩)) rfl (by kernel_rfl) ?_
  refine WL.val0 (v := .int .i64 p0.Col) rfl (rx (by kernel_rfl) (run_load1 Try.underlying3 rfl ((fun j u hu => (m4 j u hu).mono (l6.trans l13)) 1 _ rfl))) ?_
  refine WL.val0 (v := .int .i64 t10) rfl (by kernel_rfl) ?_
  refine WL.val0 (v := .int .i64 (imax 1 (imin p1 2))) rfl (by kernel_rfl) ?_
  refine WL.val0 (v := .int .i64 (w64 (t10 - (imax 1 (imin p1 2))))) rfl (by kernel_rfl) ?_
  refine WL.val0 (v := .bool (decide (p0.Col < (w64 (t10 - (imax 1 (imin p1 2))))))) rfl (by kernel_rfl) ?_
  refine WL.nil ?_
  refine nrm ?_
  refine W.cond (t := decide (p0.Col < (w64 (t10 - (imax 1 (imin p1 2)))))) (by kernel_rfl) (fun h17 => ?_) (fun h17 => ?_)
  · have H := it h17 H
    refine W.seq ?_
    refine W.region ?_
    refine WL.val0 (v := .pointer (some ⟨b1, 0, none⟩)) rfl (by kernel_rfl) ?_
    refine WL.val0 (v := .int .i64 p0.Row) rfl (rx (by kernel_rfl) (run_load1 Try.underlying3 rfl ((fun j u hu => (m4 j u hu).mono (l6.trans l13)) 0 _ rfl))) ?_
    refine WL.val0 (v := .pointer (some ⟨b1, 0 + 1, none⟩)) rfl (by kernel_rfl) ?_
    refine WL.val0 (v := .int .i64 p0.Col) rfl (rx (by kernel_rfl) (run_load1 Try.underlying3 rfl ((fun j u hu => (m4 j u hu).mono (l6.trans l13)) 1 _ rfl))) ?_
    refine WL.val0 (v := .int .i64 (imax 1 (imin p1 2))) rfl (by kernel_rfl) ?_
    refine WL.val0 (v := .int .i64 (w64 (p0.Col + (imax 1 (imin p1 2))))) rfl (by kernel_rfl) ?_
    refine WL.val0 (v := .agg #[.int .i64 p0.Row, .int .i64 (w64 (p0.Col + (imax 1 (imin p1 2)))), .bool false]) rfl (by kernel_rfl) ?_
    refine WL.store (T := 27) (j := 0) (us := [.int .i64 p0.Row, .int .i64 (w64 (p0.Col + (imax 1 (imin p1 2)))), .bool false]) (nw := [.int .i64 p0.Row, .int .i64 (w64 (p0.Col + (imax 1 (imin p1 2)))), .bool false]) (v := .agg #[.int .i64 p0.Row, .int .i64 (w64 (p0.Col + (imax 1 (imin p1 2)))), .bool false]) X13 b16 rfl (by kernel_rfl) rfl (by kernel_rfl) ⟨rfl, rfl, rfl, trivial⟩ rfl rfl ?_
    intro c18 l18 X18 b19 h20 h21 h22
    refine WL.nil ?_
    refine nrm ?_
    refine W.ret ?_
    refine thr ?_
    obtain rfl := Option.some.inj H
    exact retC (vs := [.int .i64 p0.Row, .int .i64 (w64 (p0.Col + (imax 1 (imin p1 2)))), .bool false]) rfl (by kernel_rfl) (by kernel_rfl) (by kernel_rfl) b19.block ⟨_, c18, rfl, rfl, X18, rfl⟩
  · have H := ie h17 H
    refine W.skip ?_
    refine nrm ?_
    refine W.seq ?_
    refine W.region ?_
    refine WL.val0 (v := .pointer (some ⟨b1, 0, none⟩)) rfl (by kernel_rfl) ?_
    refine WL.val0 (v := .int .i64 p0.Row) rfl (rx (by kernel_rfl) (run_load1 Try.underlying3 rfl ((fun j u hu => (m4 j u hu).mono (l6.trans l13)) 0 _ rfl))) ?_
    refine WL.val0 (v := .int .i64 t10) rfl (by kernel_rfl) ?_
    refine WL.val0 (v := .int .i64 (w64 (t10 - 1))) rfl (by kernel_rfl) ?_
    refine WL.val0 (v := .bool p3) rfl (by kernel_rfl) ?_
    refine WL.val0 (v := .agg #[.int .i64 p0.Row, .int .i64 (w64 (t10 - 1)), .bool p3]) rfl (by kernel_rfl) ?_
    refine WL.store (T := 27) (j := 0) (us := [.int .i64 p0.Row, .int .i64 (w64 (t10 - 1)), .bool p3]) (nw := [.int .i64 p0.Row, .int .i64 (w64 (t10 - 1)), .bool p3]) (v := .agg #[.int .i64 p0.Row, .int .i64 (w64 (t10 - 1)), .bool p3]) X13 b16 rfl (by kernel_rfl) rfl (by kernel_rfl) ⟨rfl, rfl, rfl, trivial⟩ rfl rfl ?_
    intro c23 l23 X23 b24 h25 h26 h27
    refine WL.nil ?_
    refine nrm ?_
    refine W.ret ?_
    obtain rfl := Option.some.inj H
    exact retC (vs := [.int .i64 p0.Row, .int .i64 (w64 (t10 - 1)), .bool p3]) rfl (by kernel_rfl) (by kernel_rfl) (by kernel_rfl) b24.block ⟨_, c23, rfl, rfl, X23, rfl⟩

def f_linotypelaw31_works  : Option (Bool) :=
  (f_cursor_After (⟨0, 8, false⟩ : G_api_Cursor) 2 10 true).bind fun t1 =>
  (andE (t1.Row == 0 && (t1.Col == 9 && (t1.Pending == true && true))) ((f_cursor_Move 9 9 5 5).bind fun t5 =>
  some (t5.Row == 4 && (t5.Col == 4 && (t5.Pending == false && true))))).bind fun d3 =>
  some d3
theorem c_linotypelaw31_works {c0 : Cx}  {r : Bool}  (H : f_linotypelaw31_works  = some r) :
    Calls Try.prog 10 #[] c0.w (Post c0 fun c v => v = .bool r) := by
  unfold f_linotypelaw31_works at H
  refine enter (l := []) Try.func10 rfl rfl rfl ?_
  refine W.seq ?_
  refine W.region ?_
  refine WL.val0 (v := .bool false) rfl (by kernel_rfl) ?_
  refine WL.nil ?_
  refine nrm ?_
  refine W.seq ?_
  obtain ⟨t1, h2, H⟩ := bs H
  obtain ⟨d3, h4, H⟩ := bs H
  refine W.join (fun e w => ∃ (c : Cx) (g : Nat → Value), w = c.w ∧ c0.le c ∧ c0.ext c ∧ e = ups g [(0, .bool d3)]) ?_ ?_
  · skip
    refine W.region ?_
    refine WL.val0 (v := .agg #[.int .i64 0, .int .i64 8, .bool false]) rfl (by kernel_rfl) ?_
    refine WL.callP rfl (by kernel_rfl) (c_cursor_After (⟨0, 8, false⟩ : G_api_Cursor) 2 10 true h2) ?_
    intro v7 c8 x9 h10
    obtain rfl := h10
    have l8 := x9.le
    have X8 := (Cx.ext.refl c0).trans x9
    refine WL.val0 (v := .agg #[.int .i64 0, .int .i64 9, .bool true]) rfl (by kernel_rfl) ?_
    refine WL.val0 (v := .bool (t1.Row == 0 && (t1.Col == 9 && (t1.Pending == true && true)))) rfl (run_eqlA (T := 27) (xs := #[.int .i64 t1.Row, .int .i64 t1.Col, .bool t1.Pending]) (ys := #[.int .i64 0, .int .i64 9, .bool true]) (r := (t1.Row == 0 && (t1.Col == 9 && (t1.Pending == true && true)))) _ Try.underlying27 (by kernel_rfl) (by kernel_rfl) (EqP.int (by kernel_rfl) Try.underlying3 rfl rfl (EqP.int (by kernel_rfl) Try.underlying3 rfl rfl (EqP.bool (by kernel_rfl) Try.underlying4 rfl rfl EqP.nil))) (by kernel_rfl)) ?_
    rcases Bool.eq_false_or_eq_true ((t1.Row == 0 && (t1.Col == 9 && (t1.Pending == true && true)))) with h11 | h11
    · skip
      have h4 := anT h11 h4
      obtain ⟨t5, h6, h4⟩ := bs h4
      refine WL.valb0 h11 rfl (by kernel_rfl) ?_
      refine WL.want (by kernel_rfl) (by kernel_rfl) ?_
      refine WL.callP rfl (by kernel_rfl) (c_cursor_Move 9 9 5 5 h6) ?_
      intro v12 c13 x14 h15
      obtain rfl := h15
      have l13 := x14.le
      have X13 := X8.trans x14
      refine WL.want (by kernel_rfl) (by kernel_rfl) ?_
      refine WL.val0 (v := .agg #[.int .i64 4, .int .i64 4, .bool false]) rfl (by kernel_rfl) ?_
      refine WL.want (by kernel_rfl) (by kernel_rfl) ?_
      refine WL.val0 (v := .bool (t5.Row == 4 && (t5.Col == 4 && (t5.Pending == false && true)))) rfl (run_eqlA (T := 27) (xs := #[.int .i64 t5.Row, .int .i64 t5.Col, .bool t5.Pending]) (ys := #[.int .i64 4, .int .i64 4, .bool false]) (r := (t5.Row == 4 && (t5.Col == 4 && (t5.Pending == false && true)))) _ Try.underlying27 (by kernel_rfl) (by kernel_rfl) (EqP.int (by kernel_rfl) Try.underlying3 rfl rfl (EqP.int (by kernel_rfl) Try.underlying3 rfl rfl (EqP.bool (by kernel_rfl) Try.underlying4 rfl rfl EqP.nil))) (by kernel_rfl)) ?_
      obtain rfl := Option.some.inj h4
      refine WL.val0 (v := .bool (t5.Row == 4 && (t5.Col == 4 && (t5.Pending == false && true)))) rfl (by kernel_rfl) ?_
      refine WL.val0 (v := .bool (t5.Row == 4 && (t5.Col == 4 && (t5.Pending == false && true)))) rfl (by kernel_rfl) ?_
      refine WL.nil ?_
      refine nrm ?_
      exact ⟨c13, _, rfl, (l8.trans l13), X13, ups_self ⟨rfl, trivial⟩⟩
    · skip
      obtain rfl := anF h11 h4
      refine WL.valb0 h11 rfl (by kernel_rfl) ?_
      refine WL.pass (by kernel_rfl) (by kernel_rfl) ?_
      refine WL.pass (by kernel_rfl) (by kernel_rfl) ?_
      refine WL.pass (by kernel_rfl) (by kernel_rfl) ?_
      refine WL.val0 (v := .bool false) rfl (by kernel_rfl) ?_
      refine WL.val0 (v := .bool false) rfl (by kernel_rfl) ?_
      refine WL.nil ?_
      refine nrm ?_
      exact ⟨c8, _, rfl, l8, X8, ups_self ⟨rfl, trivial⟩⟩
  · skip
    rintro e_ w_ ⟨c16, g17, rfl, l16, X16, rfl⟩
    refine nrm ?_
    refine W.ret ?_
    obtain rfl := Option.some.inj H
    exact ret1 (v := .bool d3) rfl (by kernel_rfl) ⟨_, c16, rfl, rfl, X16, rfl⟩

def f_cursor_Right (p0 : G_api_Cursor) (p1 : Int) (p2 : Int) : Option (Bool) :=
  (f_cursor_Hold p0 p1 p2).bind fun t5 =>
  some (p0.Row == t5.Row && (p0.Col == t5.Col && (p0.Pending == t5.Pending && true)))
theorem c_cursor_Right {c0 : Cx} (p0 : G_api_Cursor) (p1 : Int) (p2 : Int) {r : Bool}  (H : f_cursor_Right p0 p1 p2 = some r) :
    Calls Try.prog 11 #[.agg #[.int .i64 p0.Row, .int .i64 p0.Col, .bool p0.Pending], .int .i64 p1, .int .i64 p2] c0.w (Post c0 fun c v => v = .bool r) := by
  unfold f_cursor_Right at H
  refine enter (l := [.agg #[.int .i64 p0.Row, .int .i64 p0.Col, .bool p0.Pending], .int .i64 p1, .int .i64 p2]) Try.func11 rfl rfl rfl ?_
  refine W.seq ?_
  refine W.region ?_
  refine WL.box (c := c0) (T := 27) (vs := [.int .i64 p0.Row, .int .i64 p0.Col, .bool p0.Pending]) rfl (by kernel_rfl) ?_
  intro b1 c2 x3 m4
  have l2 := x3.le
  have X2 := (Cx.ext.refl c0).trans x3
  refine WL.val0 (v := .bool false) rfl (by kernel_rfl) ?_
  refine WL.nil ?_
  refine nrm ?_
  refine W.seq ?_
  obtain ⟨t5, h6, H⟩ := bs H
  refine W.regionD [] (by kernel_rfl) ?_
  have x7 := Cx.ext_drew c2
  generalize c2.drew = c7 at x7 ⊢
  have l7 := x7.le
  have X7 := X2.trans x7
  refine AC.take 0 (.agg #[.int .i64 p0.Row, .int .i64 p0.Col, .bool p0.Pending]) rfl (by kernel_rfl) (by kernel_rfl) (by kernel_rfl) (by kernel_rfl) (by kernel_rfl) (fun c' hle => (rx (by kernel_rfl) (run_loadN (T := 27) (by kernel_rfl) (by kernel_rfl) (fun j u hu => (m4 j u hu).mono (l7.trans hle.1))))) ?_
  refine AC.take 1 (.agg #[.int .i64 p0.Row, .int .i64 p0.Col, .bool p0.Pending]) rfl (by kernel_rfl) (by kernel_rfl) (by kernel_rfl) (by kernel_rfl) (by kernel_rfl) (fun c' hle => (rx (by kernel_rfl) (run_loadN (T := 27) (by kernel_rfl) (by kernel_rfl) (fun j u hu => (m4 j u hu).mono (l7.trans hle.1))))) ?_
  refine AC.take 2 (.int .i64 p1) rfl (by kernel_rfl) (by kernel_rfl) (by kernel_rfl) (by kernel_rfl) (by kernel_rfl) (fun c' hle => (by kernel_rfl)) ?_
  refine AC.take 3 (.int .i64 p2) rfl (by kernel_rfl) (by kernel_rfl) (by kernel_rfl) (by kernel_rfl) (by kernel_rfl) (fun c' hle => (by kernel_rfl)) ?_
  refine AC.oneCall 4 (by kernel_rfl) rfl (by kernel_rfl) (by kernel_rfl) (by kernel_rfl) (c_cursor_Hold p0 p1 p2 h6) fnil ?_
  intro v8 c9 x10 h11
  obtain rfl := h11
  have l9 := x10.le
  have X9 := X7.trans x10
  refine AC.take 5 (.bool (p0.Row == t5.Row && (p0.Col == t5.Col && (p0.Pending == t5.Pending && true)))) rfl (by kernel_rfl) (by kernel_rfl) (by kernel_rfl) (by kernel_rfl) (by kernel_rfl) (fun c' hle => (run_eqlA (T := 27) (xs := #[.int .i64 p0.Row, .int .i64 p0.Col, .bool p0.Pending]) (ys := #[.int .i64 t5.Row, .int .i64 t5.Col, .bool t5.Pending]) (r := (p0.Row == t5.Row && (p0.Col == t5.Col && (p0.Pending == t5.Pending && true)))) _ Try.underlying27 (by kernel_rfl) (by kernel_rfl) (EqP.int (by kernel_rfl) Try.underlying3 rfl rfl (EqP.int (by kernel_rfl) Try.underlying3 rfl rfl (EqP.bool (by kernel_rfl) Try.underlying4 rfl rfl EqP.nil))) (by kernel_rfl))) ?_
  refine AC.take 6 (.bool (p0.Row == t5.Row && (p0.Col == t5.Col && (p0.Pending == t5.Pending && true)))) rfl (by kernel_rfl) (by kernel_rfl) (by kernel_rfl) (by kernel_rfl) (by kernel_rfl) (fun c' hle => (by kernel_rfl)) ?_
  refine AC.done (by kernel_rfl) ?_
  refine nrm ?_
  refine W.ret ?_
  obtain rfl := Option.some.inj H
  exact ret1 (v := .bool (p0.Row == t5.Row && (p0.Col == t5.Col && (p0.Pending == t5.Pending && true)))) rfl (by kernel_rfl) ⟨_, c9, rfl, rfl, X9, rfl⟩

def f_linotyperef31_Right (p0 : G_api_Cursor) (p1 : Int) (p2 : Int) : Option (Bool) :=
  (andE (decide (p0.Row ≥ 0)) ((f_linotyperef31_Side p2).bind fun t7 =>
  some (decide (p0.Row < t7)))).bind fun d5 =>
  (andE d5 (some (decide (p0.Col ≥ 0)))).bind fun d9 =>
  (andE d9 ((f_linotyperef31_Side p1).bind fun t13 =>
  some (decide (p0.Col < t13)))).bind fun d11 =>
  (andE d11 ((orE (!p0.Pending) ((f_linotyperef31_Side p1).bind fun t19 =>
  some (p0.Col == (w64 (t19 - 1))))).bind fun d17 =>
  some d17)).bind fun d15 =>
  some d15
theorem c_linotyperef31_Right {c0 : Cx} (p0 : G_api_Cursor) (p1 : Int) (p2 : Int) {r : Bool}  (H : f_linotyperef31_Right p0 p1 p2 = some r) :
    Calls Try.prog 12 #[.agg #[.int .i64 p0.Row, .int .i64 p0.Col, .bool p0.Pending], .int .i64 p1, .int .i64 p2] c0.w (Post c0 fun c v => v = .bool r) := by
  unfold f_linotyperef31_Right at H
  refine enter (l := [.agg #[.int .i64 p0.Row, .int .i64 p0.Col, .bool p0.Pending], .int .i64 p1, .int .i64 p2]) Try.func12 rfl rfl rfl ?_
  refine W.seq ?_
  refine W.region ?_
  refine WL.box (c := c0) (T := 27) (vs := [.int .i64 p0.Row, .int .i64 p0.Col, .bool p0.Pending]) rfl (by kernel_rfl) ?_
  intro b1 c2 x3 m4
  have l2 := x3.le
  have X2 := (Cx.ext.refl c0).trans x3
  refine WL.val0 (v := .bool false) rfl (by kernel_rfl) ?_
  refine WL.nil ?_
  refine nrm ?_
  refine W.seq ?_
  obtain ⟨d5, h6, H⟩ := bs H
  obtain ⟨d9, h10, H⟩ := bs H
  obtain ⟨d11, h12, H⟩ := bs H
  obtain ⟨d15, h16, H⟩ := bs H
  refine W.join (fun e w => ∃ (c : Cx) (g : Nat → Value), w = c.w ∧ c2.le c ∧ c0.ext c ∧ e = ups g [(6, .bool d15)]) ?_ ?_
  · skip
    refine W.regionD [] (by kernel_rfl) ?_
    have x21 := Cx.ext_drew c2
    generalize c2.drew = c21 at x21 ⊢
    have l21 := x21.le
    have X21 := X2.trans x21
    refine AC.take 0 (.pointer (some ⟨b1, 0, none⟩)) rfl (by kernel_rfl) (by kernel_rfl) (by kernel_rfl) (by kernel_rfl) (by kernel_rfl) (fun c' hle => (by kernel_rfl)) ?_
    refine AC.take 1 (.int .i64 p0.Row) rfl (by kernel_rfl) (by kernel_rfl) (by kernel_rfl) (by kernel_rfl) (by kernel_rfl) (fun c' hle => (rx (by kernel_rfl) (run_load1 Try.underlying3 rfl ((fun j u hu => (m4 j u hu).mono (l21.trans hle.1)) 0 _ rfl)))) ?_
    refine AC.take 2 (.bool (decide (p0.Row ≥ 0))) rfl (by kernel_rfl) (by kernel_rfl) (by kernel_rfl) (by kernel_rfl) (by kernel_rfl) (fun c' hle => (by kernel_rfl)) ?_
    rcases Bool.eq_false_or_eq_true (decide (p0.Row ≥ 0)) with h22 | h22
    · skip
      have h6 := anT h22 h6
      obtain ⟨t7, h8, h6⟩ := bs h6
      refine AC.takeb 3 h22 rfl (by kernel_rfl) (by kernel_rfl) (by kernel_rfl) (by kernel_rfl) (by kernel_rfl) (fun c' hle => (by kernel_rfl)) ?_
      refine AC.take 4 (.pointer (some ⟨b1, 0, none⟩)) rfl (by kernel_rfl) (by kernel_rfl) (by kernel_rfl) (by kernel_rfl) (by kernel_rfl) (fun c' hle => (by kernel_rfl)) ?_
      refine AC.take 5 (.int .i64 p0.Row) rfl (by kernel_rfl) (by kernel_rfl) (by kernel_rfl) (by kernel_rfl) (by kernel_rfl) (fun c' hle => (rx (by kernel_rfl) (run_load1 Try.underlying3 rfl ((fun j u hu => (m4 j u hu).mono (l21.trans hle.1)) 0 _ rfl)))) ?_
      refine AC.take 6 (.int .i64 p2) rfl (by kernel_rfl) (by kernel_rfl) (by kernel_rfl) (by kernel_rfl) (by kernel_rfl) (fun c' hle => (by kernel_rfl)) ?_
      refine AC.oneCall 7 (by kernel_rfl) rfl (by kernel_rfl) (by kernel_rfl) (by kernel_rfl) (c_linotyperef31_Side p2 h8) fnil ?_
      intro v23 c24 x25 h26
      obtain rfl := h26
      have l24 := x25.le
      have X24 := X21.trans x25
      refine AC.take 8 (.bool (decide (p0.Row < t7))) rfl (by kernel_rfl) (by kernel_rfl) (by kernel_rfl) (by kernel_rfl) (by kernel_rfl) (fun c' hle => (by kernel_rfl)) ?_
      obtain rfl := Option.some.inj h6
      refine AC.take 9 (.bool (decide (p0.Row < t7))) rfl (by kernel_rfl) (by kernel_rfl) (by kernel_rfl) (by kernel_rfl) (by kernel_rfl) (fun c' hle => (by kernel_rfl)) ?_
      rcases Bool.eq_false_or_eq_true (decide (p0.Row < t7)) with h27 | h27
      · skip
        have h10 := anT h27 h10
        refine AC.takeb 10 h27 rfl (by kernel_rfl) (by kernel_rfl) (by kernel_rfl) (by kernel_rfl) (by kernel_rfl) (fun c' hle => (by kernel_rfl)) ?_
        refine AC.take 11 (.pointer (some ⟨b1, 0 + 1, none⟩)) rfl (by kernel_rfl) (by kernel_rfl) (by kernel_rfl) (by kernel_rfl) (by kernel_rfl) (fun c' hle => (by kernel_rfl)) ?_
        refine AC.take 12 (.int .i64 p0.Col) rfl (by kernel_rfl) (by kernel_rfl) (by kernel_rfl) (by kernel_rfl) (by kernel_rfl) (fun c' hle => (rx (by kernel_rfl) (run_load1 Try.underlying3 rfl ((fun j u hu => (m4 j u hu).mono ((l21.trans l24).trans hle.1)) 1 _ rfl)))) ?_
        refine AC.take 13 (.bool (decide (p0.Col ≥ 0))) rfl (by kernel_rfl) (by kernel_rfl) (by kernel_rfl) (by kernel_rfl) (by kernel_rfl) (fun c' hle => (by kernel_rfl)) ?_
        obtain rfl := Option.some.inj h10
        refine AC.take 14 (.bool (decide (p0.Col ≥ 0))) rfl (by kernel_rfl) (by kernel_rfl) (by kernel_rfl) (by kernel_rfl) (by kernel_rfl) (fun c' hle => (by kernel_rfl)) ?_
        rcases Bool.eq_false_or_eq_true (decide (p0.Col ≥ 0)) with h28 | h28
        · skip
          have h12 := anT h28 h12
          obtain ⟨t13, h14, h12⟩ := bs h12
          refine AC.takeb 15 h28 rfl (by kernel_rfl) (by kernel_rfl) (by kernel_rfl) (by kernel_rfl) (by kernel_rfl) (fun c' hle => (by kernel_rfl)) ?_
          refine AC.take 16 (.pointer (some ⟨b1, 0 + 1, none⟩)) rfl (by kernel_rfl) (by kernel_rfl) (by kernel_rfl) (by kernel_rfl) (by kernel_rfl) (fun c' hle => (by kernel_rfl)) ?_
          refine AC.take 17 (.int .i64 p0.Col) rfl (by kernel_rfl) (by kernel_rfl) (by kernel_rfl) (by kernel_rfl) (by kernel_rfl) (fun c' hle => (rx (by kernel_rfl) (run_load1 Try.underlying3 rfl ((fun j u hu => (m4 j u hu).mono ((l21.trans l24).trans hle.1)) 1 _ rfl)))) ?_
          refine AC.take 18 (.int .i64 p1) rfl (by kernel_rfl) (by kernel_rfl) (by kernel_rfl) (by kernel_rfl) (by kernel_rfl) (fun c' hle => (by kernel_rfl)) ?_
          refine AC.oneCall 19 (by kernel_rfl) rfl (by kernel_rfl) (by kernel_rfl) (by kernel_rfl) (c_linotyperef31_Side p1 h14) fnil ?_
          intro v29 c30 x31 h32
          obtain rfl := h32
          have l30 := x31.le
          have X30 := X24.trans x31
          refine AC.take 20 (.bool (decide (p0.Col < t13))) rfl (by kernel_rfl) (by kernel_rfl) (by kernel_rfl) (by kernel_rfl) (by kernel_rfl) (fun c' hle => (by kernel_rfl)) ?_
          obtain rfl := Option.some.inj h12
          refine AC.take 21 (.bool (decide (p0.Col < t13))) rfl (by kernel_rfl) (by kernel_rfl) (by kernel_rfl) (by kernel_rfl) (by kernel_rfl) (fun c' hle => (by kernel_rfl)) ?_
          rcases Bool.eq_false_or_eq_true (decide (p0.Col < t13)) with h33 | h33
          · skip
            have h16 := anT h33 h16
            obtain ⟨d17, h18, h16⟩ := bs h16
            refine AC.takeb 22 h33 rfl (by kernel_rfl) (by kernel_rfl) (by kernel_rfl) (by kernel_rfl) (by kernel_rfl) (fun c' hle => (by kernel_rfl)) ?_
            refine AC.take 23 (.pointer (some ⟨b1, 0 + 2, none⟩)) rfl (by kernel_rfl) (by kernel_rfl) (by kernel_rfl) (by kernel_rfl) (by kernel_rfl) (fun c' hle => (by kernel_rfl)) ?_
            refine AC.take 24 (.bool p0.Pending) rfl (by kernel_rfl) (by kernel_rfl) (by kernel_rfl) (by kernel_rfl) (by kernel_rfl) (fun c' hle => (rx (by kernel_rfl) (run_load1 Try.underlying4 rfl ((fun j u hu => (m4 j u hu).mono ((l21.trans (l24.trans l30)).trans hle.1)) 2 _ rfl)))) ?_
            refine AC.take 25 (.bool (!p0.Pending)) rfl (by kernel_rfl) (by kernel_rfl) (by kernel_rfl) (by kernel_rfl) (by kernel_rfl) (fun c' hle => (by kernel_rfl)) ?_
            rcases Bool.eq_false_or_eq_true (!p0.Pending) with h34 | h34
            · skip
              obtain rfl := orT h34 h18
              refine AC.takeb 26 h34 rfl (by kernel_rfl) (by kernel_rfl) (by kernel_rfl) (by kernel_rfl) (by kernel_rfl) (fun c' hle => (by kernel_rfl)) ?_
              refine AC.pass 27 rfl (by kernel_rfl) (by kernel_rfl) (by kernel_rfl) (by kernel_rfl) (by kernel_rfl) ?_
              refine AC.pass 28 rfl (by kernel_rfl) (by kernel_rfl) (by kernel_rfl) (by kernel_rfl) (by kernel_rfl) ?_
              refine AC.pass 29 rfl (by kernel_rfl) (by kernel_rfl) (by kernel_rfl) (by kernel_rfl) (by kernel_rfl) ?_
              refine AC.pass 30 rfl (by kernel_rfl) (by kernel_rfl) (by kernel_rfl) (by kernel_rfl) (by kernel_rfl) ?_
              refine AC.pass 31 rfl (by kernel_rfl) (by kernel_rfl) (by kernel_rfl) (by kernel_rfl) (by kernel_rfl) ?_
              refine AC.pass 32 rfl (by kernel_rfl) (by kernel_rfl) (by kernel_rfl) (by kernel_rfl) (by kernel_rfl) ?_
              refine AC.take 33 (.bool true) rfl (by kernel_rfl) (by kernel_rfl) (by kernel_rfl) (by kernel_rfl) (by kernel_rfl) (fun c' hle => (by kernel_rfl)) ?_
              obtain rfl := Option.some.inj h16
              refine AC.take 34 (.bool true) rfl (by kernel_rfl) (by kernel_rfl) (by kernel_rfl) (by kernel_rfl) (by kernel_rfl) (fun c' hle => (by kernel_rfl)) ?_
              refine AC.take 35 (.bool true) rfl (by kernel_rfl) (by kernel_rfl) (by kernel_rfl) (by kernel_rfl) (by kernel_rfl) (fun c' hle => (by kernel_rfl)) ?_
              refine AC.done (by kernel_rfl) ?_
              refine nrm ?_
              exact ⟨c30, _, rfl, (l21.trans (l24.trans l30)), X30, ups_self ⟨rfl, trivial⟩⟩
            · skip
              have h18 := orF h34 h18
              obtain ⟨t19, h20, h18⟩ := bs h18
              refine AC.takeb 26 h34 rfl (by kernel_rfl) (by kernel_rfl) (by kernel_rfl) (by kernel_rfl) (by kernel_rfl) (fun c' hle => (by kernel_rfl)) ?_
              refine AC.take 27 (.pointer (some ⟨b1, 0 + 1, none⟩)) rfl (by kernel_rfl) (by kernel_rfl) (by kernel_rfl) (by kernel_rfl) (by kernel_rfl) (fun c' hle => (by kernel_rfl)) ?_
              refine AC.take 28 (.int .i64 p0.Col) rfl (by kernel_rfl) (by kernel_rfl) (by kernel_rfl) (by kernel_rfl) (by kernel_rfl) (fun c' hle => (rx (by kernel_rfl) (run_load1 Try.underlying3 rfl ((fun j u hu => (m4 j u hu).mono ((l21.trans (l24.trans l30)).trans hle.1)) 1 _ rfl)))) ?_
              refine AC.take 29 (.int .i64 p1) rfl (by kernel_rfl) (by kernel_rfl) (by kernel_rfl) (by kernel_rfl) (by kernel_rfl) (fun c' hle => (by kernel_rfl)) ?_
              refine AC.oneCall 30 (by kernel_rfl) rfl (by kernel_rfl) (by kernel_rfl) (by kernel_rfl) (c_linotyperef31_Side p1 h20) fnil ?_
              intro v35 c36 x37 h38
              obtain rfl := h38
              have l36 := x37.le
              have X36 := X30.trans x37
              refine AC.take 31 (.int .i64 (w64 (t19 - 1))) rfl (by kernel_rfl) (by kernel_rfl) (by kernel_rfl) (by kernel_rfl) (by kernel_rfl) (fun c' hle => (by kernel_rfl)) ?_
              refine AC.take 32 (.bool (p0.Col == (w64 (t19 - 1)))) rfl (by kernel_rfl) (by kernel_rfl) (by kernel_rfl) (by kernel_rfl) (by kernel_rfl) (fun c' hle => (by kernel_rfl)) ?_
              obtain rfl := Option.some.inj h18
              refine AC.take 33 (.bool (p0.Col == (w64 (t19 - 1)))) rfl (by kernel_rfl) (by kernel_rfl) (by kernel_rfl) (by kernel_rfl) (by kernel_rfl) (fun c' hle => (by kernel_rfl)) ?_
              obtain rfl := Option.some.inj h16
              refine AC.take 34 (.bool (p0.Col == (w64 (t19 - 1)))) rfl (by kernel_rfl) (by kernel_rfl) (by kernel_rfl) (by kernel_rfl) (by kernel_rfl) (fun c' hle => (by kernel_rfl)) ?_
              refine AC.take 35 (.bool (p0.Col == (w64 (t19 - 1)))) rfl (by kernel_rfl) (by kernel_rfl) (by kernel_rfl) (by kernel_rfl) (by kernel_rfl) (fun c' hle => (by kernel_rfl)) ?_
              refine AC.done (by kernel_rfl) ?_
              refine nrm ?_
              exact ⟨c36, _, rfl, (l21.trans (l24.trans (l30.trans l36))), X36, ups_self ⟨rfl, trivial⟩⟩
          · skip
            obtain rfl := anF h33 h16
            refine AC.takeb 22 h33 rfl (by kernel_rfl) (by kernel_rfl) (by kernel_rfl) (by kernel_rfl) (by kernel_rfl) (fun c' hle => (by kernel_rfl)) ?_
            refine AC.pass 23 rfl (by kernel_rfl) (by kernel_rfl) (by kernel_rfl) (by kernel_rfl) (by kernel_rfl) ?_
            refine AC.pass 24 rfl (by kernel_rfl) (by kernel_rfl) (by kernel_rfl) (by kernel_rfl) (by kernel_rfl) ?_
            refine AC.pass 25 rfl (by kernel_rfl) (by kernel_rfl) (by kernel_rfl) (by kernel_rfl) (by kernel_rfl) ?_
            refine AC.pass 26 rfl (by kernel_rfl) (by kernel_rfl) (by kernel_rfl) (by kernel_rfl) (by kernel_rfl) ?_
            refine AC.pass 27 rfl (by kernel_rfl) (by kernel_rfl) (by kernel_rfl) (by kernel_rfl) (by kernel_rfl) ?_
            refine AC.pass 28 rfl (by kernel_rfl) (by kernel_rfl) (by kernel_rfl) (by kernel_rfl) (by kernel_rfl) ?_
            refine AC.pass 29 rfl (by kernel_rfl) (by kernel_rfl) (by kernel_rfl) (by kernel_rfl) (by kernel_rfl) ?_
            refine AC.pass 30 rfl (by kernel_rfl) (by kernel_rfl) (by kernel_rfl) (by kernel_rfl) (by kernel_rfl) ?_
            refine AC.pass 31 rfl (by kernel_rfl) (by kernel_rfl) (by kernel_rfl) (by kernel_rfl) (by kernel_rfl) ?_
            refine AC.pass 32 rfl (by kernel_rfl) (by kernel_rfl) (by kernel_rfl) (by kernel_rfl) (by kernel_rfl) ?_
            refine AC.pass 33 rfl (by kernel_rfl) (by kernel_rfl) (by kernel_rfl) (by kernel_rfl) (by kernel_rfl) ?_
            refine AC.take 34 (.bool false) rfl (by kernel_rfl) (by kernel_rfl) (by kernel_rfl) (by kernel_rfl) (by kernel_rfl) (fun c' hle => (by kernel_rfl)) ?_
            refine AC.take 35 (.bool false) rfl (by kernel_rfl) (by kernel_rfl) (by kernel_rfl) (by kernel_rfl) (by kernel_rfl) (fun c' hle => (by kernel_rfl)) ?_
            refine AC.done (by kernel_rfl) ?_
            refine nrm ?_
            exact ⟨c30, _, rfl, (l21.trans (l24.trans l30)), X30, ups_self ⟨rfl, trivial⟩⟩
        · skip
          obtain rfl := anF h28 h12
          refine AC.takeb 15 h28 rfl (by kernel_rfl) (by kernel_rfl) (by kernel_rfl) (by kernel_rfl) (by kernel_rfl) (fun c' hle => (by kernel_rfl)) ?_
          refine AC.pass 16 rfl (by kernel_rfl) (by kernel_rfl) (by kernel_rfl) (by kernel_rfl) (by kernel_rfl) ?_
          refine AC.pass 17 rfl (by kernel_rfl) (by kernel_rfl) (by kernel_rfl) (by kernel_rfl) (by kernel_rfl) ?_
          refine AC.pass 18 rfl (by kernel_rfl) (by kernel_rfl) (by kernel_rfl) (by kernel_rfl) (by kernel_rfl) ?_
          refine AC.pass 19 rfl (by kernel_rfl) (by kernel_rfl) (by kernel_rfl) (by kernel_rfl) (by kernel_rfl) ?_
          refine AC.pass 20 rfl (by kernel_rfl) (by kernel_rfl) (by kernel_rfl) (by kernel_rfl) (by kernel_rfl) ?_
          refine AC.take 21 (.bool false) rfl (by kernel_rfl) (by kernel_rfl) (by kernel_rfl) (by kernel_rfl) (by kernel_rfl) (fun c' hle => (by kernel_rfl)) ?_
          have h39 : false = false := rfl
          obtain rfl := anF h39 h16
          refine AC.takeb 22 h39 rfl (by kernel_rfl) (by kernel_rfl) (by kernel_rfl) (by kernel_rfl) (by kernel_rfl) (fun c' hle => (by kernel_rfl)) ?_
          refine AC.pass 23 rfl (by kernel_rfl) (by kernel_rfl) (by kernel_rfl) (by kernel_rfl) (by kernel_rfl) ?_
          refine AC.pass 24 rfl (by kernel_rfl) (by kernel_rfl) (by kernel_rfl) (by kernel_rfl) (by kernel_rfl) ?_
          refine AC.pass 25 rfl (by kernel_rfl) (by kernel_rfl) (by kernel_rfl) (by kernel_rfl) (by kernel_rfl) ?_
          refine AC.pass 26 rfl (by kernel_rfl) (by kernel_rfl) (by kernel_rfl) (by kernel_rfl) (by kernel_rfl) ?_
          refine AC.pass 27 rfl (by kernel_rfl) (by kernel_rfl) (by kernel_rfl) (by kernel_rfl) (by kernel_rfl) ?_
          refine AC.pass 28 rfl (by kernel_rfl) (by kernel_rfl) (by kernel_rfl) (by kernel_rfl) (by kernel_rfl) ?_
          refine AC.pass 29 rfl (by kernel_rfl) (by kernel_rfl) (by kernel_rfl) (by kernel_rfl) (by kernel_rfl) ?_
          refine AC.pass 30 rfl (by kernel_rfl) (by kernel_rfl) (by kernel_rfl) (by kernel_rfl) (by kernel_rfl) ?_
          refine AC.pass 31 rfl (by kernel_rfl) (by kernel_rfl) (by kernel_rfl) (by kernel_rfl) (by kernel_rfl) ?_
          refine AC.pass 32 rfl (by kernel_rfl) (by kernel_rfl) (by kernel_rfl) (by kernel_rfl) (by kernel_rfl) ?_
          refine AC.pass 33 rfl (by kernel_rfl) (by kernel_rfl) (by kernel_rfl) (by kernel_rfl) (by kernel_rfl) ?_
          refine AC.take 34 (.bool false) rfl (by kernel_rfl) (by kernel_rfl) (by kernel_rfl) (by kernel_rfl) (by kernel_rfl) (fun c' hle => (by kernel_rfl)) ?_
          refine AC.take 35 (.bool false) rfl (by kernel_rfl) (by kernel_rfl) (by kernel_rfl) (by kernel_rfl) (by kernel_rfl) (fun c' hle => (by kernel_rfl)) ?_
          refine AC.done (by kernel_rfl) ?_
          refine nrm ?_
          exact ⟨c24, _, rfl, (l21.trans l24), X24, ups_self ⟨rfl, trivial⟩⟩
      · skip
        obtain rfl := anF h27 h10
        refine AC.takeb 10 h27 rfl (by kernel_rfl) (by kernel_rfl) (by kernel_rfl) (by kernel_rfl) (by kernel_rfl) (fun c' hle => (by kernel_rfl)) ?_
        refine AC.pass 11 rfl (by kernel_rfl) (by kernel_rfl) (by kernel_rfl) (by kernel_rfl) (by kernel_rfl) ?_
        refine AC.pass 12 rfl (by kernel_rfl) (by kernel_rfl) (by kernel_rfl) (by kernel_rfl) (by kernel_rfl) ?_
        refine AC.pass 13 rfl (by kernel_rfl) (by kernel_rfl) (by kernel_rfl) (by kernel_rfl) (by kernel_rfl) ?_
        refine AC.take 14 (.bool false) rfl (by kernel_rfl) (by kernel_rfl) (by kernel_rfl) (by kernel_rfl) (by kernel_rfl) (fun c' hle => (by kernel_rfl)) ?_
        have h40 : false = false := rfl
        obtain rfl := anF h40 h12
        refine AC.takeb 15 h40 rfl (by kernel_rfl) (by kernel_rfl) (by kernel_rfl) (by kernel_rfl) (by kernel_rfl) (fun c' hle => (by kernel_rfl)) ?_
        refine AC.pass 16 rfl (by kernel_rfl) (by kernel_rfl) (by kernel_rfl) (by kernel_rfl) (by kernel_rfl) ?_
        refine AC.pass 17 rfl (by kernel_rfl) (by kernel_rfl) (by kernel_rfl) (by kernel_rfl) (by kernel_rfl) ?_
        refine AC.pass 18 rfl (by kernel_rfl) (by kernel_rfl) (by kernel_rfl) (by kernel_rfl) (by kernel_rfl) ?_
        refine AC.pass 19 rfl (by kernel_rfl) (by kernel_rfl) (by kernel_rfl) (by kernel_rfl) (by kernel_rfl) ?_
        refine AC.pass 20 rfl (by kernel_rfl) (by kernel_rfl) (by kernel_rfl) (by kernel_rfl) (by kernel_rfl) ?_
        refine AC.take 21 (.bool false) rfl (by kernel_rfl) (by kernel_rfl) (by kernel_rfl) (by kernel_rfl) (by kernel_rfl) (fun c' hle => (by kernel_rfl)) ?_
        have h41 : false = false := rfl
        obtain rfl := anF h41 h16
        refine AC.takeb 22 h41 rfl (by kernel_rfl) (by kernel_rfl) (by kernel_rfl) (by kernel_rfl) (by kernel_rfl) (fun c' hle => (by kernel_rfl)) ?_
        refine AC.pass 23 rfl (by kernel_rfl) (by kernel_rfl) (by kernel_rfl) (by kernel_rfl) (by kernel_rfl) ?_
        refine AC.pass 24 rfl (by kernel_rfl) (by kernel_rfl) (by kernel_rfl) (by kernel_rfl) (by kernel_rfl) ?_
        refine AC.pass 25 rfl (by kernel_rfl) (by kernel_rfl) (by kernel_rfl) (by kernel_rfl) (by kernel_rfl) ?_
        refine AC.pass 26 rfl (by kernel_rfl) (by kernel_rfl) (by kernel_rfl) (by kernel_rfl) (by kernel_rfl) ?_
        refine AC.pass 27 rfl (by kernel_rfl) (by kernel_rfl) (by kernel_rfl) (by kernel_rfl) (by kernel_rfl) ?_
        refine AC.pass 28 rfl (by kernel_rfl) (by kernel_rfl) (by kernel_rfl) (by kernel_rfl) (by kernel_rfl) ?_
        refine AC.pass 29 rfl (by kernel_rfl) (by kernel_rfl) (by kernel_rfl) (by kernel_rfl) (by kernel_rfl) ?_
        refine AC.pass 30 rfl (by kernel_rfl) (by kernel_rfl) (by kernel_rfl) (by kernel_rfl) (by kernel_rfl) ?_
        refine AC.pass 31 rfl (by kernel_rfl) (by kernel_rfl) (by kernel_rfl) (by kernel_rfl) (by kernel_rfl) ?_
        refine AC.pass 32 rfl (by kernel_rfl) (by kernel_rfl) (by kernel_rfl) (by kernel_rfl) (by kernel_rfl) ?_
        refine AC.pass 33 rfl (by kernel_rfl) (by kernel_rfl) (by kernel_rfl) (by kernel_rfl) (by kernel_rfl) ?_
        refine AC.take 34 (.bool false) rfl (by kernel_rfl) (by kernel_rfl) (by kernel_rfl) (by kernel_rfl) (by kernel_rfl) (fun c' hle => (by kernel_rfl)) ?_
        refine AC.take 35 (.bool false) rfl (by kernel_rfl) (by kernel_rfl) (by kernel_rfl) (by kernel_rfl) (by kernel_rfl) (fun c' hle => (by kernel_rfl)) ?_
        refine AC.done (by kernel_rfl) ?_
        refine nrm ?_
        exact ⟨c24, _, rfl, (l21.trans l24), X24, ups_self ⟨rfl, trivial⟩⟩
    · skip
      obtain rfl := anF h22 h6
      refine AC.takeb 3 h22 rfl (by kernel_rfl) (by kernel_rfl) (by kernel_rfl) (by kernel_rfl) (by kernel_rfl) (fun c' hle => (by kernel_rfl)) ?_
      refine AC.pass 4 rfl (by kernel_rfl) (by kernel_rfl) (by kernel_rfl) (by kernel_rfl) (by kernel_rfl) ?_
      refine AC.pass 5 rfl (by kernel_rfl) (by kernel_rfl) (by kernel_rfl) (by kernel_rfl) (by kernel_rfl) ?_
      refine AC.pass 6 rfl (by kernel_rfl) (by kernel_rfl) (by kernel_rfl) (by kernel_rfl) (by kernel_rfl) ?_
      refine AC.pass 7 rfl (by kernel_rfl) (by kernel_rfl) (by kernel_rfl) (by kernel_rfl) (by kernel_rfl) ?_
      refine AC.pass 8 rfl (by kernel_rfl) (by kernel_rfl) (by kernel_rfl) (by kernel_rfl) (by kernel_rfl) ?_
      refine AC.take 9 (.bool false) rfl (by kernel_rfl) (by kernel_rfl) (by kernel_rfl) (by kernel_rfl) (by kernel_rfl) (fun c' hle => (by kernel_rfl)) ?_
      have h42 : false = false := rfl
      obtain rfl := anF h42 h10
      refine AC.takeb 10 h42 rfl (by kernel_rfl) (by kernel_rfl) (by kernel_rfl) (by kernel_rfl) (by kernel_rfl) (fun c' hle => (by kernel_rfl)) ?_
      refine AC.pass 11 rfl (by kernel_rfl) (by kernel_rfl) (by kernel_rfl) (by kernel_rfl) (by kernel_rfl) ?_
      refine AC.pass 12 rfl (by kernel_rfl) (by kernel_rfl) (by kernel_rfl) (by kernel_rfl) (by kernel_rfl) ?_
      refine AC.pass 13 rfl (by kernel_rfl) (by kernel_rfl) (by kernel_rfl) (by kernel_rfl) (by kernel_rfl) ?_
      refine AC.take 14 (.bool false) rfl (by kernel_rfl) (by kernel_rfl) (by kernel_rfl) (by kernel_rfl) (by kernel_rfl) (fun c' hle => (by kernel_rfl)) ?_
      have h43 : false = false := rfl
      obtain rfl := anF h43 h12
      refine AC.takeb 15 h43 rfl (by kernel_rfl) (by kernel_rfl) (by kernel_rfl) (by kernel_rfl) (by kernel_rfl) (fun c' hle => (by kernel_rfl)) ?_
      refine AC.pass 16 rfl (by kernel_rfl) (by kernel_rfl) (by kernel_rfl) (by kernel_rfl) (by kernel_rfl) ?_
      refine AC.pass 17 rfl (by kernel_rfl) (by kernel_rfl) (by kernel_rfl) (by kernel_rfl) (by kernel_rfl) ?_
      refine AC.pass 18 rfl (by kernel_rfl) (by kernel_rfl) (by kernel_rfl) (by kernel_rfl) (by kernel_rfl) ?_
      refine AC.pass 19 rfl (by kernel_rfl) (by kernel_rfl) (by kernel_rfl) (by kernel_rfl) (by kernel_rfl) ?_
      refine AC.pass 20 rfl (by kernel_rfl) (by kernel_rfl) (by kernel_rfl) (by kernel_rfl) (by kernel_rfl) ?_
      refine AC.take 21 (.bool false) rfl (by kernel_rfl) (by kernel_rfl) (by kernel_rfl) (by kernel_rfl) (by kernel_rfl) (fun c' hle => (by kernel_rfl)) ?_
      have h44 : false = false := rfl
      obtain rfl := anF h44 h16
      refine AC.takeb 22 h44 rfl (by kernel_rfl) (by kernel_rfl) (by kernel_rfl) (by kernel_rfl) (by kernel_rfl) (fun c' hle => (by kernel_rfl)) ?_
      refine AC.pass 23 rfl (by kernel_rfl) (by kernel_rfl) (by kernel_rfl) (by kernel_rfl) (by kernel_rfl) ?_
      refine AC.pass 24 rfl (by kernel_rfl) (by kernel_rfl) (by kernel_rfl) (by kernel_rfl) (by kernel_rfl) ?_
      refine AC.pass 25 rfl (by kernel_rfl) (by kernel_rfl) (by kernel_rfl) (by kernel_rfl) (by kernel_rfl) ?_
      refine AC.pass 26 rfl (by kernel_rfl) (by kernel_rfl) (by kernel_rfl) (by kernel_rfl) (by kernel_rfl) ?_
      refine AC.pass 27 rfl (by kernel_rfl) (by kernel_rfl) (by kernel_rfl) (by kernel_rfl) (by kernel_rfl) ?_
      refine AC.pass 28 rfl (by kernel_rfl) (by kernel_rfl) (by kernel_rfl) (by kernel_rfl) (by kernel_rfl) ?_
      refine AC.pass 29 rfl (by kernel_rfl) (by kernel_rfl) (by kernel_rfl) (by kernel_rfl) (by kernel_rfl) ?_
      refine AC.pass 30 rfl (by kernel_rfl) (by kernel_rfl) (by kernel_rfl) (by kernel_rfl) (by kernel_rfl) ?_
      refine AC.pass 31 rfl (by kernel_rfl) (by kernel_rfl) (by kernel_rfl) (by kernel_rfl) (by kernel_rfl) ?_
      refine AC.pass 32 rfl (by kernel_rfl) (by kernel_rfl) (by kernel_rfl) (by kernel_rfl) (by kernel_rfl) ?_
      refine AC.pass 33 rfl (by kernel_rfl) (by kernel_rfl) (by kernel_rfl) (by kernel_rfl) (by kernel_rfl) ?_
      refine AC.take 34 (.bool false) rfl (by kernel_rfl) (by kernel_rfl) (by kernel_rfl) (by kernel_rfl) (by kernel_rfl) (fun c' hle => (by kernel_rfl)) ?_
      refine AC.take 35 (.bool false) rfl (by kernel_rfl) (by kernel_rfl) (by kernel_rfl) (by kernel_rfl) (by kernel_rfl) (fun c' hle => (by kernel_rfl)) ?_
      refine AC.done (by kernel_rfl) ?_
      refine nrm ?_
      exact ⟨c21, _, rfl, l21, X21, ups_self ⟨rfl, trivial⟩⟩
  · skip
    rintro e_ w_ ⟨c45, g46, rfl, l45, X45, rfl⟩
    refine nrm ?_
    refine W.ret ?_
    obtain rfl := Option.some.inj H
    exact ret1 (v := .bool d15) rfl (by kernel_rfl) ⟨_, c45, rfl, rfl, X45, rfl⟩

def f_linotyperef31_within (p0 : Int) (p1 : Int) : Option (Int) :=
  if (decide (p0 < 0)) = true then
  some 0
  else
  if (decide (p0 ≥ p1)) = true then
  some (w64 (p1 - 1))
  else
  some p0
theorem c_linotyperef31_within {c0 : Cx} (p0 : Int) (p1 : Int) {r : Int}  (H : f_linotyperef31_within p0 p1 = some r) :
    Calls Try.prog 22 #[.int .i64 p0, .int .i64 p1] c0.w (Post c0 fun c v => v = .int .i64 r) := by
  unfold f_linotyperef31_within at H
  refine enter (l := [.int .i64 p0, .int .i64 p1]) Try.func22 rfl rfl rfl ?_
  refine W.seq ?_
  refine W.region ?_
  refine WL.val0 (v := .int .i64 0) rfl (by kernel_rfl) ?_
  refine WL.nil ?_
  refine nrm ?_
  refine W.seq ?_
  refine W.seq ?_
  refine W.region ?_
  refine WL.val0 (v := .int .i64 p0) rfl (by kernel_rfl) ?_
  refine WL.val0 (v := .bool (decide (p0 < 0))) rfl (by kernel_rfl) ?_
  refine WL.nil ?_
  refine nrm ?_
  refine W.cond (t := decide (p0 < 0)) (by kernel_rfl) (fun h1 => ?_) (fun h1 => ?_)
  · have H := it h1 H
    refine W.seq ?_
    refine W.region ?_
    refine WL.val0 (v := .int .i64 0) rfl (by kernel_rfl) ?_
    refine WL.nil ?_
    refine nrm ?_
    refine W.ret ?_
    refine thr ?_
    obtain rfl := Option.some.inj H
    exact ret1 (v := .int .i64 0) rfl (by kernel_rfl) ⟨_, c0, rfl, rfl, Cx.ext.refl _, rfl⟩
  · have H := ie h1 H
    refine W.skip ?_
    refine nrm ?_
    refine W.seq ?_
    refine W.seq ?_
    refine W.region ?_
    refine WL.val0 (v := .int .i64 p0) rfl (by kernel_rfl) ?_
    refine WL.val0 (v := .int .i64 p1) rfl (by kernel_rfl) ?_
    refine WL.val0 (v := .bool (decide (p0 ≥ p1))) rfl (by kernel_rfl) ?_
    refine WL.nil ?_
    refine nrm ?_
    refine W.cond (t := decide (p0 ≥ p1)) (by kernel_rfl) (fun h2 => ?_) (fun h2 => ?_)
    · have H := it h2 H
      refine W.seq ?_
      refine W.region ?_
      refine WL.val0 (v := .int .i64 p1) rfl (by kernel_rfl) ?_
      refine WL.val0 (v := .int .i64 (w64 (p1 - 1))) rfl (by kernel_rfl) ?_
      refine WL.val0 (v := .int .i64 (w64 (p1 - 1))) rfl (by kernel_rfl) ?_
      refine WL.nil ?_
      refine nrm ?_
      refine W.ret ?_
      refine thr ?_
      obtain rfl := Option.some.inj H
      exact ret1 (v := .int .i64 (w64 (p1 - 1))) rfl (by kernel_rfl) ⟨_, c0, rfl, rfl, Cx.ext.refl _, rfl⟩
    · have H := ie h2 H
      refine W.skip ?_
      refine nrm ?_
      refine W.seq ?_
      refine W.region ?_
      refine WL.val0 (v := .int .i64 p0) rfl (by kernel_rfl) ?_
      refine WL.val0 (v := .int .i64 p0) rfl (by kernel_rfl) ?_
      refine WL.nil ?_
      refine nrm ?_
      refine W.ret ?_
      obtain rfl := Option.some.inj H
      exact ret1 (v := .int .i64 p0) rfl (by kernel_rfl) ⟨_, c0, rfl, rfl, Cx.ext.refl _, rfl⟩

def f_linotyperef31_Hold (p0 : G_api_Cursor) (p1 : Int) (p2 : Int) : Option (G_api_Cursor) :=
  (f_linotyperef31_Side p2).bind fun t10 =>
  (f_linotyperef31_within p0.Row t10).bind fun t12 =>
  (f_linotyperef31_Side p1).bind fun t14 =>
  (f_linotyperef31_within p0.Col t14).bind fun t16 =>
  (andE p0.Pending ((f_linotyperef31_Side p1).bind fun t20 =>
  some (p0.Col == (w64 (t20 - 1))))).bind fun d18 =>
  some (⟨t12, t16, d18⟩ : G_api_Cursor)
theorem c_linotyperef31_Hold {c0 : Cx} (p0 : G_api_Cursor) (p1 : Int) (p2 : Int) {r : G_api_Cursor}  (H : f_linotyperef31_Hold p0 p1 p2 = some r) :
    Calls Try.prog 14 #[.agg #[.int .i64 p0.Row, .int .i64 p0.Col, .bool p0.Pending], .int .i64 p1, .int .i64 p2] c0.w (Post c0 fun c v => v = .agg #[.int .i64 r.Row, .int .i64 r.Col, .bool r.Pending]) := by
  unfold f_linotyperef31_Hold at H
  refine enter (l := [.agg #[.int .i64 p0.Row, .int .i64 p0.Col, .bool p0.Pending], .int .i64 p1, .int .i64 p2]) Try.func14 rfl rfl rfl ?_
  refine W.seq ?_
  refine W.region ?_
  refine WL.box (c := c0) (T := 27) (vs := [.int .i64 p0.Row, .int .i64 p0.Col, .bool p0.Pending]) rfl (by kernel_rfl) ?_
  intro b1 c2 x3 m4
  have l2 := x3.le
  have X2 := (Cx.ext.refl c0).trans x3
  refine WL.alloc (c := c2) (T := 27) (vs := [.int .i64 0, .int .i64 0, .bool false]) X2.size rfl (by kernel_rfl) ?_
  intro b5 c6 x7 b8 h9
  have l6 := x7.le
  have X6 := X2.trans x7
  refine WL.nil ?_
  refine nrm ?_
  refine W.seq ?_
  obtain ⟨t10, h11, H⟩ := bs H
  obtain ⟨t12, h13, H⟩ := bs H
  obtain ⟨t14, h15, H⟩ := bs H
  obtain ⟨t16, h17, H⟩ := bs H
  obtain ⟨d18, h19, H⟩ := bs H
  refine W.join (fun e w => ∃ (c : Cx) (g : Nat → Value), w = c.w ∧ c6.le c ∧ c0.ext c ∧ e = ups g [(6, .pointer (some ⟨b5, 0, none⟩))] ∧ Bx c0.w.heap.size c b5 27 [.int .i64 t12, .int .i64 t16, .bool d18]) ?_ ?_
  · skip
    refine W.regionD [] (by kernel_rfl) ?_
    have x22 := Cx.ext_drew c6
    generalize c6.drew = c22 at x22 ⊢
    have l22 := x22.le
    have X22 := X6.trans x22
    have b23 := b8.ext x22
    refine AC.take 0 (.pointer (some ⟨b1, 0, none⟩)) rfl (by kernel_rfl) (by kernel_rfl) (by kernel_rfl) (by kernel_rfl) (by kernel_rfl) (fun c' hle => (by kernel_rfl)) ?_
    refine AC.take 1 (.int .i64 p0.Row) rfl (by kernel_rfl) (by kernel_rfl) (by kernel_rfl) (by kernel_rfl) (by kernel_rfl) (fun c' hle => (rx (by kernel_rfl) (run_load1 Try.underlying3 rfl ((fun j u hu => (m4 j u hu).mono ((l6.trans l22).trans hle.1)) 0 _ rfl)))) ?_
    refine AC.take 2 (.int .i64 p2) rfl (by kernel_rfl) (by kernel_rfl) (by kernel_rfl) (by kernel_rfl) (by kernel_rfl) (fun c' hle => (by kernel_rfl)) ?_
    refine AC.take 5 (.pointer (some ⟨b1, 0 + 1, none⟩)) rfl (by kernel_rfl) (by kernel_rfl) (by kernel_rfl) (by kernel_rfl) (by kernel_rfl) (fun c' hle => (by kernel_rfl)) ?_
    refine AC.take 6 (.int .i64 p0.Col) rfl (by kernel_rfl) (by kernel_rfl) (by kernel_rfl) (by kernel_rfl) (by kernel_rfl) (fun c' hle => (rx (by kernel_rfl) (run_load1 Try.underlying3 rfl ((fun j u hu => (m4 j u hu).mono ((l6.trans l22).trans hle.1)) 1 _ rfl)))) ?_
    refine AC.take 7 (.int .i64 p1) rfl (by kernel_rfl) (by kernel_rfl) (by kernel_rfl) (by kernel_rfl) (by kernel_rfl) (fun c' hle => (by kernel_rfl)) ?_
    refine AC.take 10 (.pointer (some ⟨b1, 0 + 2, none⟩)) rfl (by kernel_rfl) (by kernel_rfl) (by kernel_rfl) (by kernel_rfl) (by kernel_rfl) (fun c' hle => (by kernel_rfl)) ?_
    refine AC.take 11 (.bool p0.Pending) rfl (by kernel_rfl) (by kernel_rfl) (by kernel_rfl) (by kernel_rfl) (by kernel_rfl) (fun c' hle => (rx (by kernel_rfl) (run_load1 Try.underlying4 rfl ((fun j u hu => (m4 j u hu).mono ((l6.trans l22).trans hle.1)) 2 _ rfl)))) ?_
    refine AC.oneCall 3 (by kernel_rfl) rfl (by kernel_rfl) (by kernel_rfl) (by kernel_rfl) (c_linotyperef31_Side p2 h11) fnil ?_
    intro v24 c25 x26 h27
    obtain rfl := h27
    have l25 := x26.le
    have X25 := X22.trans x26
    have b28 := b23.ext x26
    refine AC.oneCall 4 (by kernel_rfl) rfl (by kernel_rfl) (by kernel_rfl) (by kernel_rfl) (c_linotyperef31_within p0.Row t10 h13) fnil ?_
    intro v29 c30 x31 h32
    obtain rfl := h32
    have l30 := x31.le
    have X30 := X25.trans x31
    have b33 := b28.ext x31
    refine AC.oneCall 8 (by kernel_rfl) rfl (by kernel_rfl) (by kernel_rfl) (by kernel_rfl) (c_linotyperef31_Side p1 h15) fnil ?_
    intro v34 c35 x36 h37
    obtain rfl := h37
    have l35 := x36.le
    have X35 := X30.trans x36
    have b38 := b33.ext x36
    refine AC.oneCall 9 (by kernel_rfl) rfl (by kernel_rfl) (by kernel_rfl) (by kernel_rfl) (c_linotyperef31_within p0.Col t14 h17) fnil ?_
    intro v39 c40 x41 h42
    obtain rfl := h42
    have l40 := x41.le
    have X40 := X35.trans x41
    have b43 := b38.ext x41
    rcases Bool.eq_false_or_eq_true (p0.Pending) with h44 | h44
    · skip
      have h19 := anT h44 h19
      obtain ⟨t20, h21, h19⟩ := bs h19
      refine AC.takeb 12 h44 rfl (by kernel_rfl) (by kernel_rfl) (by kernel_rfl) (by kernel_rfl) (by kernel_rfl) (fun c' hle => (by kernel_rfl)) ?_
      refine AC.take 13 (.pointer (some ⟨b1, 0 + 1, none⟩)) rfl (by kernel_rfl) (by kernel_rfl) (by kernel_rfl) (by kernel_rfl) (by kernel_rfl) (fun c' hle => (by kernel_rfl)) ?_
      refine AC.take 14 (.int .i64 p0.Col) rfl (by kernel_rfl) (by kernel_rfl) (by kernel_rfl) (by kernel_rfl) (by kernel_rfl) (fun c' hle => (rx (by kernel_rfl) (run_load1 Try.underlying3 rfl ((fun j u hu => (m4 j u hu).mono ((l6.trans (l22.trans (l25.trans (l30.trans (l35.trans l40))))).trans hle.1)) 1 _ rfl)))) ?_
      refine AC.take 15 (.int .i64 p1) rfl (by kernel_rfl) (by kernel_rfl) (by kernel_rfl) (by kernel_rfl) (by kernel_rfl) (fun c' hle => (by kernel_rfl)) ?_
      refine AC.oneCall 16 (by kernel_rfl) rfl (by kernel_rfl) (by kernel_rfl) (by kernel_rfl) (c_linotyperef31_Side p1 h21) fnil ?_
      intro v45 c46 x47 h48
      obtain rfl := h48
      have l46 := x47.le
      have X46 := X40.trans x47
      have b49 := b43.ext x47
      refine AC.take 17 (.int .i64 (w64 (t20 - 1))) rfl (by kernel_rfl) (by kernel_rfl) (by kernel_rfl) (by kernel_rfl) (by kernel_rfl) (fun c' hle => (by kernel_rfl)) ?_
      refine AC.take 18 (.bool (p0.Col == (w64 (t20 - 1)))) rfl (by kernel_rfl) (by kernel_rfl) (by kernel_rfl) (by kernel_rfl) (by kernel_rfl) (fun c' hle => (by kernel_rfl)) ?_
      obtain rfl := Option.some.inj h19
      refine AC.take 19 (.bool (p0.Col == (w64 (t20 - 1)))) rfl (by kernel_rfl) (by kernel_rfl) (by kernel_rfl) (by kernel_rfl) (by kernel_rfl) (fun c' hle => (by kernel_rfl)) ?_
      refine AC.take 20 (.agg #[.int .i64 t12, .int .i64 t16, .bool (p0.Col == (w64 (t20 - 1)))]) rfl (by kernel_rfl) (by kernel_rfl) (by kernel_rfl) (by kernel_rfl) (by kernel_rfl) (fun c' hle => (by kernel_rfl)) ?_
      refine AC.store 21 (T := 27) (j := 0) (us := [.int .i64 t12, .int .i64 t16, .bool (p0.Col == (w64 (t20 - 1)))]) (nw := [.int .i64 t12, .int .i64 t16, .bool (p0.Col == (w64 (t20 - 1)))]) (v := .agg #[.int .i64 t12, .int .i64 t16, .bool (p0.Col == (w64 (t20 - 1)))]) (by kernel_rfl) rfl (by kernel_rfl) (by kernel_rfl) fnil X46 b49 (by kernel_rfl) rfl (by kernel_rfl) ⟨rfl, rfl, rfl, trivial⟩ rfl rfl ?_
      intro c50 l50 X50 b51 h52 h53 h54
      refine AC.done (by kernel_rfl) ?_
      refine nrm ?_
      exact ⟨c50, _, rfl, (l22.trans (l25.trans (l30.trans (l35.trans (l40.trans (l46.trans l50)))))), X50, ups_self ⟨rfl, trivial⟩, b51⟩
    · skip
      obtain rfl := anF h44 h19
      refine AC.takeb 12 h44 rfl (by kernel_rfl) (by kernel_rfl) (by kernel_rfl) (by kernel_rfl) (by kernel_rfl) (fun c' hle => (by kernel_rfl)) ?_
      refine AC.pass 13 rfl (by kernel_rfl) (by kernel_rfl) (by kernel_rfl) (by kernel_rfl) (by kernel_rfl) ?_
      refine AC.pass 14 rfl (by kernel_rfl) (by kernel_rfl) (by kernel_rfl) (by kernel_rfl) (by kernel_rfl) ?_
      refine AC.pass 15 rfl (by kernel_rfl) (by kernel_rfl) (by kernel_rfl) (by kernel_rfl) (by kernel_rfl) ?_
      refine AC.pass 16 rfl (by kernel_rfl) (by kernel_rfl) (by kernel_rfl) (by kernel_rfl) (by kernel_rfl) ?_
      refine AC.pass 17 rfl (by kernel_rfl) (by kernel_rfl) (by kernel_rfl) (by kernel_rfl) (by kernel_rfl) ?_
      refine AC.pass 18 rfl (by kernel_rfl) (by kernel_rfl) (by kernel_rfl) (by kernel_rfl) (by kernel_rfl) ?_
      refine AC.take 19 (.bool false) rfl (by kernel_rfl) (by kernel_rfl) (by kernel_rfl) (by kernel_rfl) (by kernel_rfl) (fun c' hle => (by kernel_rfl)) ?_
      refine AC.take 20 (.agg #[.int .i64 t12, .int .i64 t16, .bool false]) rfl (by kernel_rfl) (by kernel_rfl) (by kernel_rfl) (by kernel_rfl) (by kernel_rfl) (fun c' hle => (by kernel_rfl)) ?_
      refine AC.store 21 (T := 27) (j := 0) (us := [.int .i64 t12, .int .i64 t16, .bool false]) (nw := [.int .i64 t12, .int .i64 t16, .bool false]) (v := .agg #[.int .i64 t12, .int .i64 t16, .bool false]) (by kernel_rfl) rfl (by kernel_rfl) (by kernel_rfl) fnil X40 b43 (by kernel_rfl) rfl (by kernel_rfl) ⟨rfl, rfl, rfl, trivial⟩ rfl rfl ?_
      intro c55 l55 X55 b56 h57 h58 h59
      refine AC.done (by kernel_rfl) ?_
      refine nrm ?_
      exact ⟨c55, _, rfl, (l22.trans (l25.trans (l30.trans (l35.trans (l40.trans l55))))), X55, ups_self ⟨rfl, trivial⟩, b56⟩
  · skip
    rintro e_ w_ ⟨c60, g61, rfl, l60, X60, rfl, b62⟩
    refine nrm ?_
    refine W.ret ?_
    obtain rfl := Option.some.inj H
    exact retC (vs := [.int .i64 t12, .int .i64 t16, .bool d18]) rfl (by kernel_rfl) (by kernel_rfl) (by kernel_rfl) b62.block ⟨_, c60, rfl, rfl, X60, rfl⟩

def f_linotyperef31_After (p0 : G_api_Cursor) (p1 : Int) (p2 : Int) (p3 : Bool) : Option (G_api_Cursor) :=
  (if (decide (p1 > 1)) = true then
  (some (2) : Option (Int))
  else
  (some (1) : Option (Int))).bind fun s10 =>
  (f_linotyperef31_Side p2).bind fun t16 =>
  if (decide (p0.Col ≥ (w64 (t16 - s10)))) = true then
  (f_linotyperef31_Side p2).bind fun t26 =>
  some (⟨p0.Row, (w64 (t26 - 1)), p3⟩ : G_api_Cursor)
  else
  some (⟨p0.Row, (w64 (p0.Col + s10)), false⟩ : G_api_Cursor)
theorem c_linotyperef31_After {c0 : Cx} (p0 : G_api_Cursor) (p1 : Int) (p2 : Int) (p3 : Bool) {r : G_api_Cursor}  (H : f_linotyperef31_After p0 p1 p2 p3 = some r) :
    Calls Try.prog 17 #[.agg #[.int .i64 p0.Row, .int .i64 p0.Col, .bool p0.Pending], .int .i64 p1, .int .i64 p2, .bool p3] c0.w (Post c0 fun c v => v = .agg #[.int .i64 r.Row, .int .i64 r.Col, .bool r.Pending]) := by
  unfold f_linotyperef31_After at H
  refine enter (l := [.agg #[.int .i64 p0.Row, .int .i64 p0.Col, .bool p0.Pending], .int .i64 p1, .int .i64 p2, .bool p3]) Try.func17 rfl rfl rfl ?_
  refine W.seq ?_
  refine W.region ?_
  refine WL.box (c := c0) (T := 27) (vs := [.int .i64 p0.Row, .int .i64 p0.Col, .bool p0.Pending]) rfl (by kernel_rfl) ?_
  intro b1 c2 x3 m4
  have l2 := x3.le
  have X2 := (Cx.ext.refl c0).trans x3
  refine WL.alloc (c := c2) (T := 27) (vs := [.int .i64 0, .int .i64 0, .bool false]) X2.size rfl (by kernel_rfl) ?_
  intro b5 c6 x7 b8 h9
  have l6 := x7.le
  have X6 := X2.trans x7
  refine WL.nil ?_
  refine nrm ?_
  refine W.seq ?_
  refine W.region ?_
  refine WL.val0 (v := .int .i64 1) rfl (by kernel_rfl) ?_
  refine WL.nil ?_
  refine nrm ?_
  obtain ⟨s10, h11, H⟩ := bs H
  refine W.seqJ (fun e w => ∃ (c : Cx) (g : Nat → Value), w = c.w ∧ c6.le c ∧ c0.ext c ∧ e = ups g [(2, .int .i64 p2), (3, .bool p3), (4, .pointer (some ⟨b1, 0, none⟩)), (8, .pointer (some ⟨b5, 0, none⟩)), (9, .int .i64 s10)] ∧ Bx c0.w.heap.size c b5 27 [.int .i64 0, .int .i64 0, .bool false]) ?_ ?_
  · have H := h11
    refine W.seq ?_
    refine W.region ?_
    refine WL.val0 (v := .int .i64 p1) rfl (by kernel_rfl) ?_
    refine WL.val0 (v := .bool (decide (p1 > 1))) rfl (by kernel_rfl) ?_
    refine WL.nil ?_
    refine nrm ?_
    refine W.cond (t := decide (p1 > 1)) (by kernel_rfl) (fun h12 => ?_) (fun h12 => ?_)
    · have H := it h12 H
      refine W.region ?_
      refine WL.val0 (v := .int .i64 2) rfl (by kernel_rfl) ?_
      refine WL.nil ?_
      refine nrm ?_
      obtain rfl := Option.some.inj H
      exact ⟨c6, _, rfl, (Cx.le.refl _), X6, ups_self ⟨rfl, rfl, rfl, rfl, rfl, trivial⟩, b8⟩
    · have H := ie h12 H
      refine W.skip ?_
      refine nrm ?_
      obtain rfl := Option.some.inj H
      exact ⟨c6, _, rfl, (Cx.le.refl _), X6, ups_self ⟨rfl, rfl, rfl, rfl, rfl, trivial⟩, b8⟩
  · skip
    rintro e_ w_ ⟨c13, g14, rfl, l13, X13, rfl, b15⟩
    refine W.seq ?_
    refine W.seq ?_
    obtain ⟨t16, h17, H⟩ := bs H
    refine W.regionD [] (by kernel_rfl) ?_
    have x18 := Cx.ext_drew c13
    generalize c13.drew = c18 at x18 ⊢
    have l18 := x18.le
    have X18 := X13.trans x18
    have b19 := b15.ext x18
    refine AC.take 0 (.pointer (some ⟨b1, 0 + 1, none⟩)) rfl (by kernel_rfl) (by kernel_rfl) (by kernel_rfl) (by kernel_rfl) (by kernel_rfl) (fun c' hle => (by kernel_rfl)) ?_
    refine AC.take 1 (.int .i64 p0.Col) rfl (by kernel_rfl) (by kernel_rfl) (by kernel_rfl) (by kernel_rfl) (by kernel_rfl) (fun c' hle => (rx (by kernel_rfl) (run_load1 Try.underlying3 rfl ((fun j u hu => (m4 j u hu).mono ((l6.trans (l13.trans l18)).trans hle.1)) 1 _ rfl)))) ?_
    refine AC.take 2 (.int .i64 p2) rfl (by kernel_rfl) (by kernel_rfl) (by kernel_rfl) (by kernel_rfl) (by kernel_rfl) (fun c' hle => (by kernel_rfl)) ?_
    refine AC.take 4 (.int .i64 s10) rfl (by kernel_rfl) (by kernel_rfl) (by kernel_rfl) (by kernel_rfl) (by kernel_rfl) (fun c' hle => (by kernel_rfl)) ?_
    refine AC.oneCall 3 (by kernel_rfl) rfl (by kernel_rfl) (by kernel_rfl) (by kernel_rfl) (c_linotyperef31_Side p2 h17) fnil ?_
    intro v20 c21 x22 h23
    obtain rfl := h23
    have l21 := x22.le
    have X21 := X18.trans x22
    have b24 := b19.ext x22
    refine AC.take 5 (.int .i64 (w64 (t16 - s10))) rfl (by kernel_rfl) (by kernel_rfl) (by kernel_rfl) (by kernel_rfl) (by kernel_rfl) (fun c' hle => (by kernel_rfl)) ?_
    refine AC.take 6 (.bool (decide (p0.Col ≥ (w64 (t16 - s10))))) rfl (by kernel_rfl) (by kernel_rfl) (by kernel_rfl) (by kernel_rfl) (by kernel_rfl) (fun c' hle => (by kernel_rfl)) ?_
    refine AC.done (by kernel_rfl) ?_
    refine nrm ?_
    refine W.cond (t := decide (p0.Col ≥ (w64 (t16 - s10)))) (by kernel_rfl) (fun h25 => ?_) (fun h25 => ?_)
    · have H := it h25 H
      refine W.seq ?_
      obtain ⟨t26, h27, H⟩ := bs H
      refine W.regionD [] (by kernel_rfl) ?_
      have x28 := Cx.ext_drew c21
      generalize c21.drew = c28 at x28 ⊢
      have l28 := x28.le
      have X28 := X21.trans x28
      have b29 := b24.ext x28
      refine AC.take 0 (.pointer (some ⟨b1, 0, none⟩)) rfl (by kernel_rfl) (by kernel_rfl) (by kernel_rfl) (by kernel_rfl) (by kernel_rfl) (fun c' hle => (by kernel_rfl)) ?_
      refine AC.take 1 (.int .i64 p0.Row) rfl (by kernel_rfl) (by kernel_rfl) (by kernel_rfl) (by kernel_rfl) (by kernel_rfl) (fun c' hle => (rx (by kernel_rfl) (run_load1 Try.underlying3 rfl ((fun j u hu => (m4 j u hu).mono ((l6.trans (l13.trans (l18.trans (l21.trans l28)))).trans hle.1)) 0 _ rfl)))) ?_
      refine AC.take 2 (.int .i64 p2) rfl (by kernel_rfl) (by kernel_rfl) (by kernel_rfl) (by kernel_rfl) (by kernel_rfl) (fun c' hle => (by kernel_rfl)) ?_
      refine AC.take 5 (.bool p3) rfl (by kernel_rfl) (by kernel_rfl) (by kernel_rfl) (by kernel_rfl) (by kernel_rfl) (fun c' hle => (by kernel_rfl)) ?_
      refine AC.oneCall 3 (by kernel_rfl) rfl (by kernel_rfl) (by kernel_rfl) (by kernel_rfl) (c_linotyperef31_Side p2 h27) fnil ?_
      intro v30 c31 x32 h33
      obtain rfl := h33
      have l31 := x32.le
      have X31 := X28.trans x32
      have b34 := b29.ext x32
      refine AC.take 4 (.int .i64 (w64 (t26 - 1))) rfl (by kernel_rfl) (by kernel_rfl) (by kernel_rfl) (by kernel_rfl) (by kernel_rfl) (fun c' hle => (by kernel_rfl)) ?_
      refine AC.take 6 (.agg #[.int .i64 p0.Row, .int .i64 (w64 (t26 - 1)), .bool p3]) rfl (by kernel_rfl) (by kernel_rfl) (by kernel_rfl) (by kernel_rfl) (by kernel_rfl) (fun c' hle => (by kernel_rfl)) ?_
      refine AC.store 7 (T := 27) (j := 0) (us := [.int .i64 p0.Row, .int .i64 (w64 (t26 - 1)), .bool p3]) (nw := [.int .i64 p0.Row, .int .i64 (w64 (t26 - 1)), .bool p3]) (v := .agg #[.int .i64 p0.Row, .int .i64 (w64 (t26 - 1)), .bool p3]) (by kernel_rfl) rfl (by kernel_rfl) (by kernel_rfl) fnil X31 b34 (by kernel_rfl) rfl (by kernel_rfl) ⟨rfl, rfl, rfl, trivial⟩ rfl rfl ?_
      intro c35 l35 X35 b36 h37 h38 h39
      refine AC.done (by kernel_rfl) ?_
      refine nrm ?_
      refine W.ret ?_
      refine thr ?_
      obtain rfl := Option.some.inj H
      exact retC (vs := [.int .i64 p0.Row, .int .i64 (w64 (t26 - 1)), .bool p3]) rfl (by kernel_rfl) (by kernel_rfl) (by kernel_rfl) b36.block ⟨_, c35, rfl, rfl, X35, rfl⟩
    · have H := ie h25 H
      refine W.skip ?_
      refine nrm ?_
      refine W.seq ?_
      refine W.region ?_
      refine WL.val0 (v := .pointer (some ⟨b1, 0, none⟩)) rfl (by kernel_rfl) ?_
      refine WL.val0 (v := .int .i64 p0.Row) rfl (rx (by kernel_rfl) (run_load1 Try.underlying3 rfl ((fun j u hu => (m4 j u hu).mono (l6.trans (l13.trans (l18.trans l21)))) 0 _ rfl))) ?_
      refine WL.val0 (v := .pointer (some ⟨b1, 0 + 1, none⟩)) rfl (by kernel_rfl) ?_
      refine WL.val0 (v := .int .i64 p0.Col) rfl (rx (by kernel_rfl) (run_load1 Try.underlying3 rfl ((fun j u hu => (m4 j u hu).mono (l6.trans (l13.trans (l18.trans l21)))) 1 _ rfl))) ?_
      refine WL.val0 (v := .int .i64 s10) rfl (by kernel_rfl) ?_
      refine WL.val0 (v := .int .i64 (w64 (p0.Col + s10))) rfl (by kernel_rfl) ?_
      refine WL.val0 (v := .agg #[.int .i64 p0.Row, .int .i64 (w64 (p0.Col + s10)), .bool false]) rfl (by kernel_rfl) ?_
      refine WL.store (T := 27) (j := 0) (us := [.int .i64 p0.Row, .int .i64 (w64 (p0.Col + s10)), .bool false]) (nw := [.int .i64 p0.Row, .int .i64 (w64 (p0.Col + s10)), .bool false]) (v := .agg #[.int .i64 p0.Row, .int .i64 (w64 (p0.Col + s10)), .bool false]) X21 b24 rfl (by kernel_rfl) rfl (by kernel_rfl) ⟨rfl, rfl, rfl, trivial⟩ rfl rfl ?_
      intro c40 l40 X40 b41 h42 h43 h44
      refine WL.nil ?_
      refine nrm ?_
      refine W.ret ?_
      obtain rfl := Option.some.inj H
      exact retC (vs := [.int .i64 p0.Row, .int .i64 (w64 (p0.Col + s10)), .bool false]) rfl (by kernel_rfl) (by kernel_rfl) (by kernel_rfl) b41.block ⟨_, c40, rfl, rfl, X40, rfl⟩

def f_linotypelaw31_CursorTells (p0 : G_api_Cursor) (p1 : G_linotypelaw31_Side) (p2 : Bool) : Option (Bool) :=
  (f_linotypelaw31_works).bind fun t11 =>
  (orE (!t11) ((f_cursor_Right p0 p1.W p1.H).bind fun t15 =>
  (f_linotyperef31_Right p0 p1.W p1.H).bind fun t17 =>
  some (!(t15 == t17)))).bind fun d13 =>
  (orE d13 ((f_cursor_Hold p0 p1.W p1.H).bind fun t21 =>
  (f_linotyperef31_Hold p0 p1.W p1.H).bind fun t23 =>
  some (!(t21.Row == t23.Row && (t21.Col == t23.Col && (t21.Pending == t23.Pending && true)))))).bind fun d19 =>
  (orE d19 ((f_cursor_Hold p0 p1.W p1.H).bind fun t27 =>
  (f_cursor_Right t27 p1.W p1.H).bind fun t29 =>
  some (!t29))).bind fun d25 =>
  if d25 = true then
  some false
  else
  (andE p0.Pending (some p2)).bind fun d78 =>
  (f_cursor_Move p0.Row p0.Col p1.W p1.H).bind fun t94 =>
  (f_cursor_After (⟨p0.Row, p0.Col, d78⟩ : G_api_Cursor) p1.Wide p1.W p2).bind fun t114 =>
  (f_linotyperef31_After (⟨p0.Row, p0.Col, d78⟩ : G_api_Cursor) p1.Wide p1.W p2).bind fun t116 =>
  (andE (t114.Row == t116.Row && (t114.Col == t116.Col && (t114.Pending == t116.Pending && true))) (some (!t94.Pending))).bind fun d118 =>
  (andE d118 ((f_linotyperef31_Hold (⟨p0.Row, p0.Col, false⟩ : G_api_Cursor) p1.W p1.H).bind fun t122 =>
  some (t94.Row == t122.Row && (t94.Col == t122.Col && (t94.Pending == t122.Pending && true))))).bind fun d120 =>
  some d120
theorem c_linotypelaw31_CursorTells {c0 : Cx} (p0 : G_api_Cursor) (p1 : G_linotypelaw31_Side) (p2 : Bool) {r : Bool}  (H : f_linotypelaw31_CursorTells p0 p1 p2 = some r) :
    Calls Try.prog 4 #[.agg #[.int .i64 p0.Row, .int .i64 p0.Col, .bool p0.Pending], .agg #[.int .i64 p1.W, .int .i64 p1.H, .int .i64 p1.Wide], .bool p2] c0.w (Post c0 fun c v => v = .bool r) := by
  unfold f_linotypelaw31_CursorTells at H
  refine enter (l := [.agg #[.int .i64 p0.Row, .int .i64 p0.Col, .bool p0.Pending], .agg #[.int .i64 p1.W, .int .i64 p1.H, .int .i64 p1.Wide], .bool p2]) Try.func4 rfl rfl rfl ?_
  refine W.seq ?_
  refine W.region ?_
  refine WL.alloc (c := c0) (T := 27) (vs := [.int .i64 p0.Row, .int .i64 p0.Col, .bool p0.Pending]) (Nat.le_refl _) rfl (by kernel_rfl) ?_
  intro b1 c2 x3 b4 h5
  have l2 := x3.le
  have X2 := (Cx.ext.refl c0).trans x3
  refine WL.box (c := c2) (T := 29) (vs := [.int .i64 p1.W, .int .i64 p1.H, .int .i64 p1.Wide]) rfl (by kernel_rfl) ?_
  intro b6 c7 x8 m9
  have l7 := x8.le
  have X7 := X2.trans x8
  have b10 := b4.ext x8
  refine WL.val0 (v := .bool false) rfl (by kernel_rfl) ?_
  refine WL.nil ?_
  refine nrm ?_
  refine W.seq ?_
  refine W.seq ?_
  obtain ⟨t11, h12, H⟩ := bs H
  obtain ⟨d13, h14, H⟩ := bs H
  obtain ⟨d19, h20, H⟩ := bs H
  obtain ⟨d25, h26, H⟩ := bs H
  refine W.join (fun e w => ∃ (c : Cx) (g : Nat → Value), w = c.w ∧ c7.le c ∧ c0.ext c ∧ e = ups g [(2, .bool p2), (3, .pointer (some ⟨b1, 0, none⟩)), (4, .pointer (some ⟨b6, 0, none⟩)), (53, .bool d25)] ∧ Bx c0.w.heap.size c b1 27 [.int .i64 p0.Row, .int .i64 p0.Col, .bool p0.Pending]) ?_ ?_
  · skip
    refine W.regionD [b1] (by kernel_rfl) ?_
    have x31 := Cx.ext_drew c7
    generalize c7.drew = c31 at x31 ⊢
    have l31 := x31.le
    have X31 := X7.trans x31
    have b32 := b10.ext x31
    refine AC.oneCall 0 (by kernel_rfl) rfl (by kernel_rfl) (by kernel_rfl) (by kernel_rfl) (c_linotypelaw31_works h12) (fcons b32.lt fnil) ?_
    intro v33 c34 x35 h36
    obtain rfl := h36
    have l34 := x35.le
    have X34 := X31.trans x35
    have b37 := b32.ext x35
    refine AC.take 1 (.bool (!t11)) rfl (by kernel_rfl) (by kernel_rfl) (by kernel_rfl) (by kernel_rfl) (by kernel_rfl) (fun c' hle => (by kernel_rfl)) ?_
    rcases Bool.eq_false_or_eq_true (!t11) with h38 | h38
    · skip
      obtain rfl := orT h38 h14
      refine AC.takeb 2 h38 rfl (by kernel_rfl) (by kernel_rfl) (by kernel_rfl) (by kernel_rfl) (by kernel_rfl) (fun c' hle => (by kernel_rfl)) ?_
      refine AC.pass 3 rfl (by kernel_rfl) (by kernel_rfl) (by kernel_rfl) (by kernel_rfl) (by kernel_rfl) ?_
      refine AC.pass 4 rfl (by kernel_rfl) (by kernel_rfl) (by kernel_rfl) (by kernel_rfl) (by kernel_rfl) ?_
      refine AC.pass 5 rfl (by kernel_rfl) (by kernel_rfl) (by kernel_rfl) (by kernel_rfl) (by kernel_rfl) ?_
      refine AC.pass 6 rfl (by kernel_rfl) (by kernel_rfl) (by kernel_rfl) (by kernel_rfl) (by kernel_rfl) ?_
      refine AC.pass 7 rfl (by kernel_rfl) (by kernel_rfl) (by kernel_rfl) (by kernel_rfl) (by kernel_rfl) ?_
      refine AC.pass 9 rfl (by kernel_rfl) (by kernel_rfl) (by kernel_rfl) (by kernel_rfl) (by kernel_rfl) ?_
      refine AC.pass 10 rfl (by kernel_rfl) (by kernel_rfl) (by kernel_rfl) (by kernel_rfl) (by kernel_rfl) ?_
      refine AC.pass 11 rfl (by kernel_rfl) (by kernel_rfl) (by kernel_rfl) (by kernel_rfl) (by kernel_rfl) ?_
      refine AC.pass 12 rfl (by kernel_rfl) (by kernel_rfl) (by kernel_rfl) (by kernel_rfl) (by kernel_rfl) ?_
      refine AC.pass 13 rfl (by kernel_rfl) (by kernel_rfl) (by kernel_rfl) (by kernel_rfl) (by kernel_rfl) ?_
      refine AC.pass 8 rfl (by kernel_rfl) (by kernel_rfl) (by kernel_rfl) (by kernel_rfl) (by kernel_rfl) ?_
      refine AC.pass 14 rfl (by kernel_rfl) (by kernel_rfl) (by kernel_rfl) (by kernel_rfl) (by kernel_rfl) ?_
      refine AC.pass 15 rfl (by kernel_rfl) (by kernel_rfl) (by kernel_rfl) (by kernel_rfl) (by kernel_rfl) ?_
      refine AC.take 16 (.bool true) rfl (by kernel_rfl) (by kernel_rfl) (by kernel_rfl) (by kernel_rfl) (by kernel_rfl) (fun c' hle => (by kernel_rfl)) ?_
      have h39 : true = true := rfl
      obtain rfl := orT h39 h20
      refine AC.takeb 17 h39 rfl (by kernel_rfl) (by kernel_rfl) (by kernel_rfl) (by kernel_rfl) (by kernel_rfl) (fun c' hle => (by kernel_rfl)) ?_
      refine AC.pass 18 rfl (by kernel_rfl) (by kernel_rfl) (by kernel_rfl) (by kernel_rfl) (by kernel_rfl) ?_
      refine AC.pass 19 rfl (by kernel_rfl) (by kernel_rfl) (by kernel_rfl) (by kernel_rfl) (by kernel_rfl) ?_
      refine AC.pass 20 rfl (by kernel_rfl) (by kernel_rfl) (by kernel_rfl) (by kernel_rfl) (by kernel_rfl) ?_
      refine AC.pass 21 rfl (by kernel_rfl) (by kernel_rfl) (by kernel_rfl) (by kernel_rfl) (by kernel_rfl) ?_
      refine AC.pass 22 rfl (by kernel_rfl) (by kernel_rfl) (by kernel_rfl) (by kernel_rfl) (by kernel_rfl) ?_
      refine AC.pass 24 rfl (by kernel_rfl) (by kernel_rfl) (by kernel_rfl) (by kernel_rfl) (by kernel_rfl) ?_
      refine AC.pass 25 rfl (by kernel_rfl) (by kernel_rfl) (by kernel_rfl) (by kernel_rfl) (by kernel_rfl) ?_
      refine AC.pass 26 rfl (by kernel_rfl) (by kernel_rfl) (by kernel_rfl) (by kernel_rfl) (by kernel_rfl) ?_
      refine AC.pass 27 rfl (by kernel_rfl) (by kernel_rfl) (by kernel_rfl) (by kernel_rfl) (by kernel_rfl) ?_
      refine AC.pass 28 rfl (by kernel_rfl) (by kernel_rfl) (by kernel_rfl) (by kernel_rfl) (by kernel_rfl) ?_
      refine AC.pass 23 rfl (by kernel_rfl) (by kernel_rfl) (by kernel_rfl) (by kernel_rfl) (by kernel_rfl) ?_
      refine AC.pass 29 rfl (by kernel_rfl) (by kernel_rfl) (by kernel_rfl) (by kernel_rfl) (by kernel_rfl) ?_
      refine AC.pass 30 rfl (by kernel_rfl) (by kernel_rfl) (by kernel_rfl) (by kernel_rfl) (by kernel_rfl) ?_
      refine AC.take 31 (.bool true) rfl (by kernel_rfl) (by kernel_rfl) (by kernel_rfl) (by kernel_rfl) (by kernel_rfl) (fun c' hle => (by kernel_rfl)) ?_
      have h40 : true = true := rfl
      obtain rfl := orT h40 h26
      refine AC.takeb 32 h40 rfl (by kernel_rfl) (by kernel_rfl) (by kernel_rfl) (by kernel_rfl) (by kernel_rfl) (fun c' hle => (by kernel_rfl)) ?_
      refine AC.pass 33 rfl (by kernel_rfl) (by kernel_rfl) (by kernel_rfl) (by kernel_rfl) (by kernel_rfl) ?_
      refine AC.pass 34 rfl (by kernel_rfl) (by kernel_rfl) (by kernel_rfl) (by kernel_rfl) (by kernel_rfl) ?_
      refine AC.pass 35 rfl (by kernel_rfl) (by kernel_rfl) (by kernel_rfl) (by kernel_rfl) (by kernel_rfl) ?_
      refine AC.pass 36 rfl (by kernel_rfl) (by kernel_rfl) (by kernel_rfl) (by kernel_rfl) (by kernel_rfl) ?_
      refine AC.pass 37 rfl (by kernel_rfl) (by kernel_rfl) (by kernel_rfl) (by kernel_rfl) (by kernel_rfl) ?_
      refine AC.pass 39 rfl (by kernel_rfl) (by kernel_rfl) (by kernel_rfl) (by kernel_rfl) (by kernel_rfl) ?_
      refine AC.pass 40 rfl (by kernel_rfl) (by kernel_rfl) (by kernel_rfl) (by kernel_rfl) (by kernel_rfl) ?_
      refine AC.pass 41 rfl (by kernel_rfl) (by kernel_rfl) (by kernel_rfl) (by kernel_rfl) (by kernel_rfl) ?_
      refine AC.pass 42 rfl (by kernel_rfl) (by kernel_rfl) (by kernel_rfl) (by kernel_rfl) (by kernel_rfl) ?_
      refine AC.pass 38 rfl (by kernel_rfl) (by kernel_rfl) (by kernel_rfl) (by kernel_rfl) (by kernel_rfl) ?_
      refine AC.pass 43 rfl (by kernel_rfl) (by kernel_rfl) (by kernel_rfl) (by kernel_rfl) (by kernel_rfl) ?_
      refine AC.pass 44 rfl (by kernel_rfl) (by kernel_rfl) (by kernel_rfl) (by kernel_rfl) (by kernel_rfl) ?_
      refine AC.take 45 (.bool true) rfl (by kernel_rfl) (by kernel_rfl) (by kernel_rfl) (by kernel_rfl) (by kernel_rfl) (fun c' hle => (by kernel_rfl)) ?_
      refine AC.done (by kernel_rfl) ?_
      refine nrm ?_
      exact ⟨c34, _, rfl, (l31.trans l34), X34, ups_self ⟨rfl, rfl, rfl, rfl, trivial⟩, b37⟩
    · skip
      have h14 := orF h38 h14
      obtain ⟨t15, h16, h14⟩ := bs h14
      obtain ⟨t17, h18, h14⟩ := bs h14
      refine AC.takeb 2 h38 rfl (by kernel_rfl) (by kernel_rfl) (by kernel_rfl) (by kernel_rfl) (by kernel_rfl) (fun c' hle => (by kernel_rfl)) ?_
      refine AC.take 3 (.agg #[.int .i64 p0.Row, .int .i64 p0.Col, .bool p0.Pending]) rfl (by kernel_rfl) (by kernel_rfl) (by kernel_rfl) (by kernel_rfl) (by kernel_rfl) (fun c' hle => (rx (by kernel_rfl) (run_loadB (T := 27) (j := 0) (l := [.int .i64 p0.Row, .int .i64 p0.Col, .bool p0.Pending]) (by kernel_rfl) (by kernel_rfl) ((hle.2 b1 (by simp)).trans b37.block) rfl))) ?_
      refine AC.take 4 (.pointer (some ⟨b6, 0, none⟩)) rfl (by kernel_rfl) (by kernel_rfl) (by kernel_rfl) (by kernel_rfl) (by kernel_rfl) (fun c' hle => (by kernel_rfl)) ?_
      refine AC.take 5 (.int .i64 p1.W) rfl (by kernel_rfl) (by kernel_rfl) (by kernel_rfl) (by kernel_rfl) (by kernel_rfl) (fun c' hle => (rx (by kernel_rfl) (run_load1 Try.underlying3 rfl ((fun j u hu => (m9 j u hu).mono ((l31.trans l34).trans hle.1)) 0 _ rfl)))) ?_
      refine AC.take 6 (.pointer (some ⟨b6, 0 + 1, none⟩)) rfl (by kernel_rfl) (by kernel_rfl) (by kernel_rfl) (by kernel_rfl) (by kernel_rfl) (fun c' hle => (by kernel_rfl)) ?_
      refine AC.take 7 (.int .i64 p1.H) rfl (by kernel_rfl) (by kernel_rfl) (by kernel_rfl) (by kernel_rfl) (by kernel_rfl) (fun c' hle => (rx (by kernel_rfl) (run_load1 Try.underlying3 rfl ((fun j u hu => (m9 j u hu).mono ((l31.trans l34).trans hle.1)) 1 _ rfl)))) ?_
      refine AC.take 9 (.agg #[.int .i64 p0.Row, .int .i64 p0.Col, .bool p0.Pending]) rfl (by kernel_rfl) (by kernel_rfl) (by kernel_rfl) (by kernel_rfl) (by kernel_rfl) (fun c' hle => (rx (by kernel_rfl) (run_loadB (T := 27) (j := 0) (l := [.int .i64 p0.Row, .int .i64 p0.Col, .bool p0.Pending]) (by kernel_rfl) (by kernel_rfl) ((hle.2 b1 (by simp)).trans b37.block) rfl))) ?_
      refine AC.take 10 (.pointer (some ⟨b6, 0, none⟩)) rfl (by kernel_rfl) (by kernel_rfl) (by kernel_rfl) (by kernel_rfl) (by kernel_rfl) (fun c' hle => (by kernel_rfl)) ?_
      refine AC.take 11 (.int .i64 p1.W) rfl (by kernel_rfl) (by kernel_rfl) (by kernel_rfl) (by kernel_rfl) (by kernel_rfl) (fun c' hle => (rx (by kernel_rfl) (run_load1 Try.underlying3 rfl ((fun j u hu => (m9 j u hu).mono ((l31.trans l34).trans hle.1)) 0 _ rfl)))) ?_
      refine AC.take 12 (.pointer (some ⟨b6, 0 + 1, none⟩)) rfl (by kernel_rfl) (by kernel_rfl) (by kernel_rfl) (by kernel_rfl) (by kernel_rfl) (fun c' hle => (by kernel_rfl)) ?_
      refine AC.take 13 (.int .i64 p1.H) rfl (by kernel_rfl) (by kernel_rfl) (by kernel_rfl) (by kernel_rfl) (by kernel_rfl) (fun c' hle => (rx (by kernel_rfl) (run_load1 Try.underlying3 rfl ((fun j u hu => (m9 j u hu).mono ((l31.trans l34).trans hle.1)) 1 _ rfl)))) ?_
      refine AC.oneCall 8 (by kernel_rfl) rfl (by kernel_rfl) (by kernel_rfl) (by kernel_rfl) (c_cursor_Right p0 p1.W p1.H h16) (fcons b37.lt fnil) ?_
      intro v41 c42 x43 h44
      obtain rfl := h44
      have l42 := x43.le
      have X42 := X34.trans x43
      have b45 := b37.ext x43
      refine AC.oneCall 14 (by kernel_rfl) rfl (by kernel_rfl) (by kernel_rfl) (by kernel_rfl) (c_linotyperef31_Right p0 p1.W p1.H h18) (fcons b45.lt fnil) ?_
      intro v46 c47 x48 h49
      obtain rfl := h49
      have l47 := x48.le
      have X47 := X42.trans x48
      have b50 := b45.ext x48
      refine AC.take 15 (.bool (!(t15 == t17))) rfl (by kernel_rfl) (by kernel_rfl) (by kernel_rfl) (by kernel_rfl) (by kernel_rfl) (fun c' hle => (by kernel_rfl)) ?_
      obtain rfl := Option.some.inj h14
      refine AC.take 16 (.bool (!(t15 == t17))) rfl (by kernel_rfl) (by kernel_rfl) (by kernel_rfl) (by kernel_rfl) (by kernel_rfl) (fun c' hle => (by kernel_rfl)) ?_
      rcases Bool.eq_false_or_eq_true (!(t15 == t17)) with h51 | h51
      · skip
        obtain rfl := orT h51 h20
        refine AC.takeb 17 h51 rfl (by kernel_rfl) (by kernel_rfl) (by kernel_rfl) (by kernel_rfl) (by kernel_rfl) (fun c' hle => (by kernel_rfl)) ?_
        refine AC.pass 18 rfl (by kernel_rfl) (by kernel_rfl) (by kernel_rfl) (by kernel_rfl) (by kernel_rfl) ?_
        refine AC.pass 19 rfl (by kernel_rfl) (by kernel_rfl) (by kernel_rfl) (by kernel_rfl) (by kernel_rfl) ?_
        refine AC.pass 20 rfl (by kernel_rfl) (by kernel_rfl) (by kernel_rfl) (by kernel_rfl) (by kernel_rfl) ?_
        refine AC.pass 21 rfl (by kernel_rfl) (by kernel_rfl) (by kernel_rfl) (by kernel_rfl) (by kernel_rfl) ?_
        refine AC.pass 22 rfl (by kernel_rfl) (by kernel_rfl) (by kernel_rfl) (by kernel_rfl) (by kernel_rfl) ?_
        refine AC.pass 24 rfl (by kernel_rfl) (by kernel_rfl) (by kernel_rfl) (by kernel_rfl) (by kernel_rfl) ?_
        refine AC.pass 25 rfl (by kernel_rfl) (by kernel_rfl) (by kernel_rfl) (by kernel_rfl) (by kernel_rfl) ?_
        refine AC.pass 26 rfl (by kernel_rfl) (by kernel_rfl) (by kernel_rfl) (by kernel_rfl) (by kernel_rfl) ?_
        refine AC.pass 27 rfl (by kernel_rfl) (by kernel_rfl) (by kernel_rfl) (by kernel_rfl) (by kernel_rfl) ?_
        refine AC.pass 28 rfl (by kernel_rfl) (by kernel_rfl) (by kernel_rfl) (by kernel_rfl) (by kernel_rfl) ?_
        refine AC.pass 23 rfl (by kernel_rfl) (by kernel_rfl) (by kernel_rfl) (by kernel_rfl) (by kernel_rfl) ?_
        refine AC.pass 29 rfl (by kernel_rfl) (by kernel_rfl) (by kernel_rfl) (by kernel_rfl) (by kernel_rfl) ?_
        refine AC.pass 30 rfl (by kernel_rfl) (by kernel_rfl) (by kernel_rfl) (by kernel_rfl) (by kernel_rfl) ?_
        refine AC.take 31 (.bool true) rfl (by kernel_rfl) (by kernel_rfl) (by kernel_rfl) (by kernel_rfl) (by kernel_rfl) (fun c' hle => (by kernel_rfl)) ?_
        have h52 : true = true := rfl
        obtain rfl := orT h52 h26
        refine AC.takeb 32 h52 rfl (by kernel_rfl) (by kernel_rfl) (by kernel_rfl) (by kernel_rfl) (by kernel_rfl) (fun c' hle => (by kernel_rfl)) ?_
        refine AC.pass 33 rfl (by kernel_rfl) (by kernel_rfl) (by kernel_rfl) (by kernel_rfl) (by kernel_rfl) ?_
        refine AC.pass 34 rfl (by kernel_rfl) (by kernel_rfl) (by kernel_rfl) (by kernel_rfl) (by kernel_rfl) ?_
        refine AC.pass 35 rfl (by kernel_rfl) (by kernel_rfl) (by kernel_rfl) (by kernel_rfl) (by kernel_rfl) ?_
        refine AC.pass 36 rfl (by kernel_rfl) (by kernel_rfl) (by kernel_rfl) (by kernel_rfl) (by kernel_rfl) ?_
        refine AC.pass 37 rfl (by kernel_rfl) (by kernel_rfl) (by kernel_rfl) (by kernel_rfl) (by kernel_rfl) ?_
        refine AC.pass 39 rfl (by kernel_rfl) (by kernel_rfl) (by kernel_rfl) (by kernel_rfl) (by kernel_rfl) ?_
        refine AC.pass 40 rfl (by kernel_rfl) (by kernel_rfl) (by kernel_rfl) (by kernel_rfl) (by kernel_rfl) ?_
        refine AC.pass 41 rfl (by kernel_rfl) (by kernel_rfl) (by kernel_rfl) (by kernel_rfl) (by kernel_rfl) ?_
        refine AC.pass 42 rfl (by kernel_rfl) (by kernel_rfl) (by kernel_rfl) (by kernel_rfl) (by kernel_rfl) ?_
        refine AC.pass 38 rfl (by kernel_rfl) (by kernel_rfl) (by kernel_rfl) (by kernel_rfl) (by kernel_rfl) ?_
        refine AC.pass 43 rfl (by kernel_rfl) (by kernel_rfl) (by kernel_rfl) (by kernel_rfl) (by kernel_rfl) ?_
        refine AC.pass 44 rfl (by kernel_rfl) (by kernel_rfl) (by kernel_rfl) (by kernel_rfl) (by kernel_rfl) ?_
        refine AC.take 45 (.bool true) rfl (by kernel_rfl) (by kernel_rfl) (by kernel_rfl) (by kernel_rfl) (by kernel_rfl) (fun c' hle => (by kernel_rfl)) ?_
        refine AC.done (by kernel_rfl) ?_
        refine nrm ?_
        exact ⟨c47, _, rfl, (l31.trans (l34.trans (l42.trans l47))), X47, ups_self ⟨rfl, rfl, rfl, rfl, trivial⟩, b50⟩
      · skip
        have h20 := orF h51 h20
        obtain ⟨t21, h22, h20⟩ := bs h20
        obtain ⟨t23, h24, h20⟩ := bs h20
        refine AC.takeb 17 h51 rfl (by kernel_rfl) (by kernel_rfl) (by kernel_rfl) (by kernel_rfl) (by kernel_rfl) (fun c' hle => (by kernel_rfl)) ?_
        refine AC.take 18 (.agg #[.int .i64 p0.Row, .int .i64 p0.Col, .bool p0.Pending]) rfl (by kernel_rfl) (by kernel_rfl) (by kernel_rfl) (by kernel_rfl) (by kernel_rfl) (fun c' hle => (rx (by kernel_rfl) (run_loadB (T := 27) (j := 0) (l := [.int .i64 p0.Row, .int .i64 p0.Col, .bool p0.Pending]) (by kernel_rfl) (by kernel_rfl) ((hle.2 b1 (by simp)).trans b50.block) rfl))) ?_
        refine AC.take 19 (.pointer (some ⟨b6, 0, none⟩)) rfl (by kernel_rfl) (by kernel_rfl) (by kernel_rfl) (by kernel_rfl) (by kernel_rfl) (fun c' hle => (by kernel_rfl)) ?_
        refine AC.take 20 (.int .i64 p1.W) rfl (by kernel_rfl) (by kernel_rfl) (by kernel_rfl) (by kernel_rfl) (by kernel_rfl) (fun c' hle => (rx (by kernel_rfl) (run_load1 Try.underlying3 rfl ((fun j u hu => (m9 j u hu).mono ((l31.trans (l34.trans (l42.trans l47))).trans hle.1)) 0 _ rfl)))) ?_
        refine AC.take 21 (.pointer (some ⟨b6, 0 + 1, none⟩)) rfl (by kernel_rfl) (by kernel_rfl) (by kernel_rfl) (by kernel_rfl) (by kernel_rfl) (fun c' hle => (by kernel_rfl)) ?_
        refine AC.take 22 (.int .i64 p1.H) rfl (by kernel_rfl) (by kernel_rfl) (by kernel_rfl) (by kernel_rfl) (by kernel_rfl) (fun c' hle => (rx (by kernel_rfl) (run_load1 Try.underlying3 rfl ((fun j u hu => (m9 j u hu).mono ((l31.trans (l34.trans (l42.trans l47))).trans hle.1)) 1 _ rfl)))) ?_
        refine AC.take 24 (.agg #[.int .i64 p0.Row, .int .i64 p0.Col, .bool p0.Pending]) rfl (by kernel_rfl) (by kernel_rfl) (by kernel_rfl) (by kernel_rfl) (by kernel_rfl) (fun c' hle => (rx (by kernel_rfl) (run_loadB (T := 27) (j := 0) (l := [.int .i64 p0.Row, .int .i64 p0.Col, .bool p0.Pending]) (by kernel_rfl) (by kernel_rfl) ((hle.2 b1 (by simp)).trans b50.block) rfl))) ?_
        refine AC.take 25 (.pointer (some ⟨b6, 0, none⟩)) rfl (by kernel_rfl) (by kernel_rfl) (by kernel_rfl) (by kernel_rfl) (by kernel_rfl) (fun c' hle => (by kernel_rfl)) ?_
        refine AC.take 26 (.int .i64 p1.W) rfl (by kernel_rfl) (by kernel_rfl) (by kernel_rfl) (by kernel_rfl) (by kernel_rfl) (fun c' hle => (rx (by kernel_rfl) (run_load1 Try.underlying3 rfl ((fun j u hu => (m9 j u hu).mono ((l31.trans (l34.trans (l42.trans l47))).trans hle.1)) 0 _ rfl)))) ?_
        refine AC.take 27 (.pointer (some ⟨b6, 0 + 1, none⟩)) rfl (by kernel_rfl) (by kernel_rfl) (by kernel_rfl) (by kernel_rfl) (by kernel_rfl) (fun c' hle => (by kernel_rfl)) ?_
        refine AC.take 28 (.int .i64 p1.H) rfl (by kernel_rfl) (by kernel_rfl) (by kernel_rfl) (by kernel_rfl) (by kernel_rfl) (fun c' hle => (rx (by kernel_rfl) (run_load1 Try.underlying3 rfl ((fun j u hu => (m9 j u hu).mono ((l31.trans (l34.trans (l42.trans l47))).trans hle.1)) 1 _ rfl)))) ?_
        refine AC.oneCall 23 (by kernel_rfl) rfl (by kernel_rfl) (by kernel_rfl) (by kernel_rfl) (c_cursor_Hold p0 p1.W p1.H h22) (fcons b50.lt fnil) ?_
        intro v53 c54 x55 h56
        obtain rfl := h56
        have l54 := x55.le
        have X54 := X47.trans x55
        have b57 := b50.ext x55
        refine AC.oneCall 29 (by kernel_rfl) rfl (by kernel_rfl) (by kernel_rfl) (by kernel_rfl) (c_linotyperef31_Hold p0 p1.W p1.H h24) (fcons b57.lt fnil) ?_
        intro v58 c59 x60 h61
        obtain rfl := h61
        have l59 := x60.le
        have X59 := X54.trans x60
        have b62 := b57.ext x60
        refine AC.take 30 (.bool (!(t21.Row == t23.Row && (t21.Col == t23.Col && (t21.Pending == t23.Pending && true))))) rfl (by kernel_rfl) (by kernel_rfl) (by kernel_rfl) (by kernel_rfl) (by kernel_rfl) (fun c' hle => (run_neqA (T := 27) (xs := #[.int .i64 t21.Row, .int .i64 t21.Col, .bool t21.Pending]) (ys := #[.int .i64 t23.Row, .int .i64 t23.Col, .bool t23.Pending]) (r := (t21.Row == t23.Row && (t21.Col == t23.Col && (t21.Pending == t23.Pending && true)))) _ Try.underlying27 (by kernel_rfl) (by kernel_rfl) (EqP.int (by kernel_rfl) Try.underlying3 rfl rfl (EqP.int (by kernel_rfl) Try.underlying3 rfl rfl (EqP.bool (by kernel_rfl) Try.underlying4 rfl rfl EqP.nil))) (by kernel_rfl))) ?_
        obtain rfl := Option.some.inj h20
        refine AC.take 31 (.bool (!(t21.Row == t23.Row && (t21.Col == t23.Col && (t21.Pending == t23.Pending && true))))) rfl (by kernel_rfl) (by kernel_rfl) (by kernel_rfl) (by kernel_rfl) (by kernel_rfl) (fun c' hle => (by kernel_rfl)) ?_
        rcases Bool.eq_false_or_eq_true (!(t21.Row == t23.Row && (t21.Col == t23.Col && (t21.Pending == t23.Pending && true)))) with h63 | h63
        · skip
          obtain rfl := orT h63 h26
          refine AC.takeb 32 h63 rfl (by kernel_rfl) (by kernel_rfl) (by kernel_rfl) (by kernel_rfl) (by kernel_rfl) (fun c' hle => (by kernel_rfl)) ?_
          refine AC.pass 33 rfl (by kernel_rfl) (by kernel_rfl) (by kernel_rfl) (by kernel_rfl) (by kernel_rfl) ?_
          refine AC.pass 34 rfl (by kernel_rfl) (by kernel_rfl) (by kernel_rfl) (by kernel_rfl) (by kernel_rfl) ?_
          refine AC.pass 35 rfl (by kernel_rfl) (by kernel_rfl) (by kernel_rfl) (by kernel_rfl) (by kernel_rfl) ?_
          refine AC.pass 36 rfl (by kernel_rfl) (by kernel_rfl) (by kernel_rfl) (by kernel_rfl) (by kernel_rfl) ?_
          refine AC.pass 37 rfl (by kernel_rfl) (by kernel_rfl) (by kernel_rfl) (by kernel_rfl) (by kernel_rfl) ?_
          refine AC.pass 39 rfl (by kernel_rfl) (by kernel_rfl) (by kernel_rfl) (by kernel_rfl) (by kernel_rfl) ?_
          refine AC.pass 40 rfl (by kernel_rfl) (by kernel_rfl) (by kernel_rfl) (by kernel_rfl) (by kernel_rfl) ?_
          refine AC.pass 41 rfl (by kernel_rfl) (by kernel_rfl) (by kernel_rfl) (by kernel_rfl) (by kernel_rfl) ?_
          refine AC.pass 42 rfl (by kernel_rfl) (by kernel_rfl) (by kernel_rfl) (by kernel_rfl) (by kernel_rfl) ?_
          refine AC.pass 38 rfl (by kernel_rfl) (by kernel_rfl) (by kernel_rfl) (by kernel_rfl) (by kernel_rfl) ?_
          refine AC.pass 43 rfl (by kernel_rfl) (by kernel_rfl) (by kernel_rfl) (by kernel_rfl) (by kernel_rfl) ?_
          refine AC.pass 44 rfl (by kernel_rfl) (by kernel_rfl) (by kernel_rfl) (by kernel_rfl) (by kernel_rfl) ?_
          refine AC.take 45 (.bool true) rfl (by kernel_rfl) (by kernel_rfl) (by kernel_rfl) (by kernel_rfl) (by kernel_rfl) (fun c' hle => (by kernel_rfl)) ?_
          refine AC.done (by kernel_rfl) ?_
          refine nrm ?_
          exact ⟨c59, _, rfl, (l31.trans (l34.trans (l42.trans (l47.trans (l54.trans l59))))), X59, ups_self ⟨rfl, rfl, rfl, rfl, trivial⟩, b62⟩
        · skip
          have h26 := orF h63 h26
          obtain ⟨t27, h28, h26⟩ := bs h26
          obtain ⟨t29, h30, h26⟩ := bs h26
          refine AC.takeb 32 h63 rfl (by kernel_rfl) (by kernel_rfl) (by kernel_rfl) (by kernel_rfl) (by kernel_rfl) (fun c' hle => (by kernel_rfl)) ?_
          refine AC.take 33 (.agg #[.int .i64 p0.Row, .int .i64 p0.Col, .bool p0.Pending]) rfl (by kernel_rfl) (by kernel_rfl) (by kernel_rfl) (by kernel_rfl) (by kernel_rfl) (fun c' hle => (rx (by kernel_rfl) (run_loadB (T := 27) (j := 0) (l := [.int .i64 p0.Row, .int .i64 p0.Col, .bool p0.Pending]) (by kernel_rfl) (by kernel_rfl) ((hle.2 b1 (by simp)).trans b62.block) rfl))) ?_
          refine AC.take 34 (.pointer (some ⟨b6, 0, none⟩)) rfl (by kernel_rfl) (by kernel_rfl) (by kernel_rfl) (by kernel_rfl) (by kernel_rfl) (fun c' hle => (by kernel_rfl)) ?_
          refine AC.take 35 (.int .i64 p1.W) rfl (by kernel_rfl) (by kernel_rfl) (by kernel_rfl) (by kernel_rfl) (by kernel_rfl) (fun c' hle => (rx (by kernel_rfl) (run_load1 Try.underlying3 rfl ((fun j u hu => (m9 j u hu).mono ((l31.trans (l34.trans (l42.trans (l47.trans (l54.trans l59))))).trans hle.1)) 0 _ rfl)))) ?_
          refine AC.take 36 (.pointer (some ⟨b6, 0 + 1, none⟩)) rfl (by kernel_rfl) (by kernel_rfl) (by kernel_rfl) (by kernel_rfl) (by kernel_rfl) (fun c' hle => (by kernel_rfl)) ?_
          refine AC.take 37 (.int .i64 p1.H) rfl (by kernel_rfl) (by kernel_rfl) (by kernel_rfl) (by kernel_rfl) (by kernel_rfl) (fun c' hle => (rx (by kernel_rfl) (run_load1 Try.underlying3 rfl ((fun j u hu => (m9 j u hu).mono ((l31.trans (l34.trans (l42.trans (l47.trans (l54.trans l59))))).trans hle.1)) 1 _ rfl)))) ?_
          refine AC.take 39 (.pointer (some ⟨b6, 0, none⟩)) rfl (by kernel_rfl) (by kernel_rfl) (by kernel_rfl) (by kernel_rfl) (by kernel_rfl) (fun c' hle => (by kernel_rfl)) ?_
          refine AC.take 40 (.int .i64 p1.W) rfl (by kernel_rfl) (by kernel_rfl) (by kernel_rfl) (by kernel_rfl) (by kernel_rfl) (fun c' hle => (rx (by kernel_rfl) (run_load1 Try.underlying3 rfl ((fun j u hu => (m9 j u hu).mono ((l31.trans (l34.trans (l42.trans (l47.trans (l54.trans l59))))).trans hle.1)) 0 _ rfl)))) ?_
          refine AC.take 41 (.pointer (some ⟨b6, 0 + 1, none⟩)) rfl (by kernel_rfl) (by kernel_rfl) (by kernel_rfl) (by kernel_rfl) (by kernel_rfl) (fun c' hle => (by kernel_rfl)) ?_
          refine AC.take 42 (.int .i64 p1.H) rfl (by kernel_rfl) (by kernel_rfl) (by kernel_rfl) (by kernel_rfl) (by kernel_rfl) (fun c' hle => (rx (by kernel_rfl) (run_load1 Try.underlying3 rfl ((fun j u hu => (m9 j u hu).mono ((l31.trans (l34.trans (l42.trans (l47.trans (l54.trans l59))))).trans hle.1)) 1 _ rfl)))) ?_
          refine AC.oneCall 38 (by kernel_rfl) rfl (by kernel_rfl) (by kernel_rfl) (by kernel_rfl) (c_cursor_Hold p0 p1.W p1.H h28) (fcons b62.lt fnil) ?_
          intro v64 c65 x66 h67
          obtain rfl := h67
          have l65 := x66.le
          have X65 := X59.trans x66
          have b68 := b62.ext x66
          refine AC.oneCall 43 (by kernel_rfl) rfl (by kernel_rfl) (by kernel_rfl) (by kernel_rfl) (c_cursor_Right t27 p1.W p1.H h30) (fcons b68.lt fnil) ?_
          intro v69 c70 x71 h72
          obtain rfl := h72
          have l70 := x71.le
          have X70 := X65.trans x71
          have b73 := b68.ext x71
          refine AC.take 44 (.bool (!t29)) rfl (by kernel_rfl) (by kernel_rfl) (by kernel_rfl) (by kernel_rfl) (by kernel_rfl) (fun c' hle => (by kernel_rfl)) ?_
          obtain rfl := Option.some.inj h26
          refine AC.take 45 (.bool (!t29)) rfl (by kernel_rfl) (by kernel_rfl) (by kernel_rfl) (by kernel_rfl) (by kernel_rfl) (fun c' hle => (by kernel_rfl)) ?_
          refine AC.done (by kernel_rfl) ?_
          refine nrm ?_
          exact ⟨c70, _, rfl, (l31.trans (l34.trans (l42.trans (l47.trans (l54.trans (l59.trans (l65.trans l70))))))), X70, ups_self ⟨rfl, rfl, rfl, rfl, trivial⟩, b73⟩
  · skip
    rintro e_ w_ ⟨c74, g75, rfl, l74, X74, rfl, b76⟩
    refine nrm ?_
    refine W.cond (t := d25) (by kernel_rfl) (fun h77 => ?_) (fun h77 => ?_)
    · have H := it h77 H
      refine W.seq ?_
      refine W.region ?_
      refine WL.val0 (v := .bool false) rfl (by kernel_rfl) ?_
      refine WL.nil ?_
      refine nrm ?_
      refine W.ret ?_
      refine thr ?_
      obtain rfl := Option.some.inj H
      exact ret1 (v := .bool false) rfl (by kernel_rfl) ⟨_, c74, rfl, rfl, X74, rfl⟩
    · have H := ie h77 H
      refine W.skip ?_
      refine nrm ?_
      refine W.seq ?_
      obtain ⟨d78, h79, H⟩ := bs H
      refine W.join (fun e w => ∃ (c : Cx) (g : Nat → Value), w = c.w ∧ c74.le c ∧ c0.ext c ∧ e = ups g [(2, .bool p2), (3, .pointer (some ⟨b1, 0, none⟩)), (4, .pointer (some ⟨b6, 0, none⟩))] ∧ Bx c0.w.heap.size c b1 27 [.int .i64 p0.Row, .int .i64 p0.Col, .bool d78]) ?_ ?_
      · skip
        refine W.region ?_
        refine WL.val0 (v := .pointer (some ⟨b1, 2, none⟩)) rfl (by kernel_rfl) ?_
        refine WL.val0 (v := .bool p0.Pending) rfl (rx (by kernel_rfl) (run_loadB1 Try.underlying4 rfl b76.block (j := 2) rfl)) ?_
        rcases Bool.eq_false_or_eq_true (p0.Pending) with h80 | h80
        · skip
          have h79 := anT h80 h79
          refine WL.valb0 h80 rfl (by kernel_rfl) ?_
          refine WL.want (by kernel_rfl) (by kernel_rfl) ?_
          refine WL.val0 (v := .bool p2) rfl (by kernel_rfl) ?_
          obtain rfl := Option.some.inj h79
          refine WL.val0 (v := .bool p2) rfl (by kernel_rfl) ?_
          refine WL.val0 (v := .pointer (some ⟨b1, 2, none⟩)) rfl (by kernel_rfl) ?_
          refine WL.store (T := 4) (j := 2) (us := [.bool p2]) (nw := [.int .i64 p0.Row, .int .i64 p0.Col, .bool p2]) (v := .bool p2) X74 b76 rfl (by kernel_rfl) rfl (by kernel_rfl) ⟨rfl, trivial⟩ rfl rfl ?_
          intro c81 l81 X81 b82 h83 h84 h85
          refine WL.nil ?_
          refine nrm ?_
          exact ⟨c81, _, rfl, l81, X81, ups_self ⟨rfl, rfl, rfl, trivial⟩, b82⟩
        · skip
          obtain rfl := anF h80 h79
          refine WL.valb0 h80 rfl (by kernel_rfl) ?_
          refine WL.pass (by kernel_rfl) (by kernel_rfl) ?_
          refine WL.val0 (v := .bool false) rfl (by kernel_rfl) ?_
          refine WL.val0 (v := .pointer (some ⟨b1, 2, none⟩)) rfl (by kernel_rfl) ?_
          refine WL.store (T := 4) (j := 2) (us := [.bool false]) (nw := [.int .i64 p0.Row, .int .i64 p0.Col, .bool false]) (v := .bool false) X74 b76 rfl (by kernel_rfl) rfl (by kernel_rfl) ⟨rfl, trivial⟩ rfl rfl ?_
          intro c86 l86 X86 b87 h88 h89 h90
          refine WL.nil ?_
          refine nrm ?_
          exact ⟨c86, _, rfl, l86, X86, ups_self ⟨rfl, rfl, rfl, trivial⟩, b87⟩
      · skip
        rintro e_ w_ ⟨c91, g92, rfl, l91, X91, rfl, b93⟩
        refine nrm ?_
        refine W.seq ?_
        obtain ⟨t94, h95, H⟩ := bs H
        refine W.region ?_
        refine WL.val0 (v := .pointer (some ⟨b1, 0, none⟩)) rfl (by kernel_rfl) ?_
        refine WL.val0 (v := .int .i64 p0.Row) rfl (rx (by kernel_rfl) (run_loadB1 Try.underlying3 rfl b93.block (j := 0) rfl)) ?_
        refine WL.val0 (v := .pointer (some ⟨b1, 1, none⟩)) rfl (by kernel_rfl) ?_
        refine WL.val0 (v := .int .i64 p0.Col) rfl (rx (by kernel_rfl) (run_loadB1 Try.underlying3 rfl b93.block (j := 1) rfl)) ?_
        refine WL.val0 (v := .pointer (some ⟨b6, 0, none⟩)) rfl (by kernel_rfl) ?_
        refine WL.val0 (v := .int .i64 p1.W) rfl (rx (by kernel_rfl) (run_load1 Try.underlying3 rfl ((fun j u hu => (m9 j u hu).mono (l74.trans l91)) 0 _ rfl))) ?_
        refine WL.val0 (v := .pointer (some ⟨b6, 0 + 1, none⟩)) rfl (by kernel_rfl) ?_
        refine WL.val0 (v := .int .i64 p1.H) rfl (rx (by kernel_rfl) (run_load1 Try.underlying3 rfl ((fun j u hu => (m9 j u hu).mono (l74.trans l91)) 1 _ rfl))) ?_
        refine WL.callP rfl (by kernel_rfl) (c_cursor_Move p0.Row p0.Col p1.W p1.H h95) ?_
        intro v96 c97 x98 h99
        obtain rfl := h99
        have l97 := x98.le
        have X97 := X91.trans x98
        have b100 := b93.ext x98
        refine WL.alloc (c := c97) (T := 27) (vs := [.int .i64 0, .int .i64 0, .bool false]) X97.size rfl (by kernel_rfl) ?_
        intro b101 c102 x103 b104 h105
        have l102 := x103.le
        have X102 := X97.trans x103
        have q106 : b1 ≠ b101 := by have := b100.lt; omega
        have b107 := b100.ext x103
        refine WL.store (T := 27) (j := 0) (us := [.int .i64 t94.Row, .int .i64 t94.Col, .bool t94.Pending]) (nw := [.int .i64 t94.Row, .int .i64 t94.Col, .bool t94.Pending]) (v := .agg #[.int .i64 t94.Row, .int .i64 t94.Col, .bool t94.Pending]) X102 b104 rfl (by kernel_rfl) rfl (by kernel_rfl) ⟨rfl, rfl, rfl, trivial⟩ rfl rfl ?_
        intro c108 l108 X108 b109 h110 h111 h112
        have b113 := b107.other q106 h110 h111
        refine WL.nil ?_
        refine nrm ?_
        refine W.seq ?_
        obtain ⟨t114, h115, H⟩ := bs H
        obtain ⟨t116, h117, H⟩ := bs H
        obtain ⟨d118, h119, H⟩ := bs H
        obtain ⟨d120, h121, H⟩ := bs H
        refine W.join (fun e w => ∃ (c : Cx) (g : Nat → Value), w = c.w ∧ c108.le c ∧ c0.ext c ∧ e = ups g [(6, .bool d120)] ∧ Bx c0.w.heap.size c b1 27 [.int .i64 p0.Row, .int .i64 p0.Col, .bool d78] ∧ Bx c0.w.heap.size c b101 27 [.int .i64 t94.Row, .int .i64 t94.Col, .bool t94.Pending]) ?_ ?_
        · skip
          refine W.regionD [b1, b101] (by kernel_rfl) ?_
          have x124 := Cx.ext_drew c108
          generalize c108.drew = c124 at x124 ⊢
          have l124 := x124.le
          have X124 := X108.trans x124
          have b125 := b113.ext x124
          have b126 := b109.ext x124
          refine AC.take 0 (.agg #[.int .i64 p0.Row, .int .i64 p0.Col, .bool d78]) rfl (by kernel_rfl) (by kernel_rfl) (by kernel_rfl) (by kernel_rfl) (by kernel_rfl) (fun c' hle => (rx (by kernel_rfl) (run_loadB (T := 27) (j := 0) (l := [.int .i64 p0.Row, .int .i64 p0.Col, .bool d78]) (by kernel_rfl) (by kernel_rfl) ((hle.2 b1 (by simp)).trans b125.block) rfl))) ?_
          refine AC.take 1 (.pointer (some ⟨b6, 0 + 2, none⟩)) rfl (by kernel_rfl) (by kernel_rfl) (by kernel_rfl) (by kernel_rfl) (by kernel_rfl) (fun c' hle => (by kernel_rfl)) ?_
          refine AC.take 2 (.int .i64 p1.Wide) rfl (by kernel_rfl) (by kernel_rfl) (by kernel_rfl) (by kernel_rfl) (by kernel_rfl) (fun c' hle => (rx (by kernel_rfl) (run_load1 Try.underlying3 rfl ((fun j u hu => (m9 j u hu).mono ((l74.trans (l91.trans (l97.trans (l102.trans (l108.trans l124))))).trans hle.1)) 2 _ rfl)))) ?_
          refine AC.take 3 (.pointer (some ⟨b6, 0, none⟩)) rfl (by kernel_rfl) (by kernel_rfl) (by kernel_rfl) (by kernel_rfl) (by kernel_rfl) (fun c' hle => (by kernel_rfl)) ?_
          refine AC.take 4 (.int .i64 p1.W) rfl (by kernel_rfl) (by kernel_rfl) (by kernel_rfl) (by kernel_rfl) (by kernel_rfl) (fun c' hle => (rx (by kernel_rfl) (run_load1 Try.underlying3 rfl ((fun j u hu => (m9 j u hu).mono ((l74.trans (l91.trans (l97.trans (l102.trans (l108.trans l124))))).trans hle.1)) 0 _ rfl)))) ?_
          refine AC.take 5 (.bool p2) rfl (by kernel_rfl) (by kernel_rfl) (by kernel_rfl) (by kernel_rfl) (by kernel_rfl) (fun c' hle => (by kernel_rfl)) ?_
          refine AC.take 7 (.agg #[.int .i64 p0.Row, .int .i64 p0.Col, .bool d78]) rfl (by kernel_rfl) (by kernel_rfl) (by kernel_rfl) (by kernel_rfl) (by kernel_rfl) (fun c' hle => (rx (by kernel_rfl) (run_loadB (T := 27) (j := 0) (l := [.int .i64 p0.Row, .int .i64 p0.Col, .bool d78]) (by kernel_rfl) (by kernel_rfl) ((hle.2 b1 (by simp)).trans b125.block) rfl))) ?_
          refine AC.take 8 (.pointer (some ⟨b6, 0 + 2, none⟩)) rfl (by kernel_rfl) (by kernel_rfl) (by kernel_rfl) (by kernel_rfl) (by kernel_rfl) (fun c' hle => (by kernel_rfl)) ?_
          refine AC.take 9 (.int .i64 p1.Wide) rfl (by kernel_rfl) (by kernel_rfl) (by kernel_rfl) (by kernel_rfl) (by kernel_rfl) (fun c' hle => (rx (by kernel_rfl) (run_load1 Try.underlying3 rfl ((fun j u hu => (m9 j u hu).mono ((l74.trans (l91.trans (l97.trans (l102.trans (l108.trans l124))))).trans hle.1)) 2 _ rfl)))) ?_
          refine AC.take 10 (.pointer (some ⟨b6, 0, none⟩)) rfl (by kernel_rfl) (by kernel_rfl) (by kernel_rfl) (by kernel_rfl) (by kernel_rfl) (fun c' hle => (by kernel_rfl)) ?_
          refine AC.take 11 (.int .i64 p1.W) rfl (by kernel_rfl) (by kernel_rfl) (by kernel_rfl) (by kernel_rfl) (by kernel_rfl) (fun c' hle => (rx (by kernel_rfl) (run_load1 Try.underlying3 rfl ((fun j u hu => (m9 j u hu).mono ((l74.trans (l91.trans (l97.trans (l102.trans (l108.trans l124))))).trans hle.1)) 0 _ rfl)))) ?_
          refine AC.take 12 (.bool p2) rfl (by kernel_rfl) (by kernel_rfl) (by kernel_rfl) (by kernel_rfl) (by kernel_rfl) (fun c' hle => (by kernel_rfl)) ?_
          refine AC.oneCall 6 (by kernel_rfl) rfl (by kernel_rfl) (by kernel_rfl) (by kernel_rfl) (c_cursor_After (⟨p0.Row, p0.Col, d78⟩ : G_api_Cursor) p1.Wide p1.W p2 h115) (fcons b125.lt (fcons b126.lt fnil)) ?_
          intro v127 c128 x129 h130
          obtain rfl := h130
          have l128 := x129.le
          have X128 := X124.trans x129
          have b131 := b125.ext x129
          have b132 := b126.ext x129
          refine AC.oneCall 13 (by kernel_rfl) rfl (by kernel_rfl) (by kernel_rfl) (by kernel_rfl) (c_linotyperef31_After (⟨p0.Row, p0.Col, d78⟩ : G_api_Cursor) p1.Wide p1.W p2 h117) (fcons b131.lt (fcons b132.lt fnil)) ?_
          intro v133 c134 x135 h136
          obtain rfl := h136
          have l134 := x135.le
          have X134 := X128.trans x135
          have b137 := b131.ext x135
          have b138 := b132.ext x135
          refine AC.take 14 (.bool (t114.Row == t116.Row && (t114.Col == t116.Col && (t114.Pending == t116.Pending && true)))) rfl (by kernel_rfl) (by kernel_rfl) (by kernel_rfl) (by kernel_rfl) (by kernel_rfl) (fun c' hle => (run_eqlA (T := 27) (xs := #[.int .i64 t114.Row, .int .i64 t114.Col, .bool t114.Pending]) (ys := #[.int .i64 t116.Row, .int .i64 t116.Col, .bool t116.Pending]) (r := (t114.Row == t116.Row && (t114.Col == t116.Col && (t114.Pending == t116.Pending && true)))) _ Try.underlying27 (by kernel_rfl) (by kernel_rfl) (EqP.int (by kernel_rfl) Try.underlying3 rfl rfl (EqP.int (by kernel_rfl) Try.underlying3 rfl rfl (EqP.bool (by kernel_rfl) Try.underlying4 rfl rfl EqP.nil))) (by kernel_rfl))) ?_
          rcases Bool.eq_false_or_eq_true ((t114.Row == t116.Row && (t114.Col == t116.Col && (t114.Pending == t116.Pending && true)))) with h139 | h139
          · skip
            have h119 := anT h139 h119
            refine AC.takeb 15 h139 rfl (by kernel_rfl) (by kernel_rfl) (by kernel_rfl) (by kernel_rfl) (by kernel_rfl) (fun c' hle => (by kernel_rfl)) ?_
            refine AC.take 16 (.pointer (some ⟨b101, 2, none⟩)) rfl (by kernel_rfl) (by kernel_rfl) (by kernel_rfl) (by kernel_rfl) (by kernel_rfl) (fun c' hle => (by kernel_rfl)) ?_
            refine AC.take 17 (.bool t94.Pending) rfl (by kernel_rfl) (by kernel_rfl) (by kernel_rfl) (by kernel_rfl) (by kernel_rfl) (fun c' hle => (rx (by kernel_rfl) (run_loadB1 Try.underlying4 rfl ((hle.2 b101 (by simp)).trans b138.block) (j := 2) rfl))) ?_
            refine AC.take 18 (.bool (!t94.Pending)) rfl (by kernel_rfl) (by kernel_rfl) (by kernel_rfl) (by kernel_rfl) (by kernel_rfl) (fun c' hle => (by kernel_rfl)) ?_
            obtain rfl := Option.some.inj h119
            refine AC.take 19 (.bool (!t94.Pending)) rfl (by kernel_rfl) (by kernel_rfl) (by kernel_rfl) (by kernel_rfl) (by kernel_rfl) (fun c' hle => (by kernel_rfl)) ?_
            rcases Bool.eq_false_or_eq_true (!t94.Pending) with h140 | h140
            · skip
              have h121 := anT h140 h121
              obtain ⟨t122, h123, h121⟩ := bs h121
              refine AC.takeb 20 h140 rfl (by kernel_rfl) (by kernel_rfl) (by kernel_rfl) (by kernel_rfl) (by kernel_rfl) (fun c' hle => (by kernel_rfl)) ?_
              refine AC.take 21 (.agg #[.int .i64 t94.Row, .int .i64 t94.Col, .bool t94.Pending]) rfl (by kernel_rfl) (by kernel_rfl) (by kernel_rfl) (by kernel_rfl) (by kernel_rfl) (fun c' hle => (rx (by kernel_rfl) (run_loadB (T := 27) (j := 0) (l := [.int .i64 t94.Row, .int .i64 t94.Col, .bool t94.Pending]) (by kernel_rfl) (by kernel_rfl) ((hle.2 b101 (by simp)).trans b138.block) rfl))) ?_
              refine AC.take 22 (.pointer (some ⟨b1, 0, none⟩)) rfl (by kernel_rfl) (by kernel_rfl) (by kernel_rfl) (by kernel_rfl) (by kernel_rfl) (fun c' hle => (by kernel_rfl)) ?_
              refine AC.take 23 (.int .i64 p0.Row) rfl (by kernel_rfl) (by kernel_rfl) (by kernel_rfl) (by kernel_rfl) (by kernel_rfl) (fun c' hle => (rx (by kernel_rfl) (run_loadB1 Try.underlying3 rfl ((hle.2 b1 (by simp)).trans b137.block) (j := 0) rfl))) ?_
              refine AC.take 24 (.pointer (some ⟨b1, 1, none⟩)) rfl (by kernel_rfl) (by kernel_rfl) (by kernel_rfl) (by kernel_rfl) (by kernel_rfl) (fun c' hle => (by kernel_rfl)) ?_
              refine AC.take 25 (.int .i64 p0.Col) rfl (by kernel_rfl) (by kernel_rfl) (by kernel_rfl) (by kernel_rfl) (by kernel_rfl) (fun c' hle => (rx (by kernel_rfl) (run_loadB1 Try.underlying3 rfl ((hle.2 b1 (by simp)).trans b137.block) (j := 1) rfl))) ?_
              refine AC.take 26 (.agg #[.int .i64 p0.Row, .int .i64 p0.Col, .bool false]) rfl (by kernel_rfl) (by kernel_rfl) (by kernel_rfl) (by kernel_rfl) (by kernel_rfl) (fun c' hle => (by kernel_rfl)) ?_
              refine AC.take 27 (.pointer (some ⟨b6, 0, none⟩)) rfl (by kernel_rfl) (by kernel_rfl) (by kernel_rfl) (by kernel_rfl) (by kernel_rfl) (fun c' hle => (by kernel_rfl)) ?_
              refine AC.take 28 (.int .i64 p1.W) rfl (by kernel_rfl) (by kernel_rfl) (by kernel_rfl) (by kernel_rfl) (by kernel_rfl) (fun c' hle => (rx (by kernel_rfl) (run_load1 Try.underlying3 rfl ((fun j u hu => (m9 j u hu).mono ((l74.trans (l91.trans (l97.trans (l102.trans (l108.trans (l124.trans (l128.trans l134))))))).trans hle.1)) 0 _ rfl)))) ?_
              refine AC.take 29 (.pointer (some ⟨b6, 0 + 1, none⟩)) rfl (by kernel_rfl) (by kernel_rfl) (by kernel_rfl) (by kernel_rfl) (by kernel_rfl) (fun c' hle => (by kernel_rfl)) ?_
              refine AC.take 30 (.int .i64 p1.H) rfl (by kernel_rfl) (by kernel_rfl) (by kernel_rfl) (by kernel_rfl) (by kernel_rfl) (fun c' hle => (rx (by kernel_rfl) (run_load1 Try.underlying3 rfl ((fun j u hu => (m9 j u hu).mono ((l74.trans (l91.trans (l97.trans (l102.trans (l108.trans (l124.trans (l128.trans l134))))))).trans hle.1)) 1 _ rfl)))) ?_
              refine AC.oneCall 31 (by kernel_rfl) rfl (by kernel_rfl) (by kernel_rfl) (by kernel_rfl) (c_linotyperef31_Hold (⟨p0.Row, p0.Col, false⟩ : G_api_Cursor) p1.W p1.H h123) (fcons b137.lt (fcons b138.lt fnil)) ?_
              intro v141 c142 x143 h144
              obtain rfl := h144
              have l142 := x143.le
              have X142 := X134.trans x143
              have b145 := b137.ext x143
              have b146 := b138.ext x143
              refine AC.take 32 (.bool (t94.Row == t122.Row && (t94.Col == t122.Col && (t94.Pending == t122.Pending && true)))) rfl (by kernel_rfl) (by kernel_rfl) (by kernel_rfl) (by kernel_rfl) (by kernel_rfl) (fun c' hle => (run_eqlA (T := 27) (xs := #[.int .i64 t94.Row, .int .i64 t94.Col, .bool t94.Pending]) (ys := #[.int .i64 t122.Row, .int .i64 t122.Col, .bool t122.Pending]) (r := (t94.Row == t122.Row && (t94.Col == t122.Col && (t94.Pending == t122.Pending && true)))) _ Try.underlying27 (by kernel_rfl) (by kernel_rfl) (EqP.int (by kernel_rfl) Try.underlying3 rfl rfl (EqP.int (by kernel_rfl) Try.underlying3 rfl rfl (EqP.bool (by kernel_rfl) Try.underlying4 rfl rfl EqP.nil))) (by kernel_rfl))) ?_
              obtain rfl := Option.some.inj h121
              refine AC.take 33 (.bool (t94.Row == t122.Row && (t94.Col == t122.Col && (t94.Pending == t122.Pending && true)))) rfl (by kernel_rfl) (by kernel_rfl) (by kernel_rfl) (by kernel_rfl) (by kernel_rfl) (fun c' hle => (by kernel_rfl)) ?_
              refine AC.take 34 (.bool (t94.Row == t122.Row && (t94.Col == t122.Col && (t94.Pending == t122.Pending && true)))) rfl (by kernel_rfl) (by kernel_rfl) (by kernel_rfl) (by kernel_rfl) (by kernel_rfl) (fun c' hle => (by kernel_rfl)) ?_
              refine AC.done (by kernel_rfl) ?_
              refine nrm ?_
              exact ⟨c142, _, rfl, (l124.trans (l128.trans (l134.trans l142))), X142, ups_self ⟨rfl, trivial⟩, b145, b146⟩
            · skip
              obtain rfl := anF h140 h121
              refine AC.takeb 20 h140 rfl (by kernel_rfl) (by kernel_rfl) (by kernel_rfl) (by kernel_rfl) (by kernel_rfl) (fun c' hle => (by kernel_rfl)) ?_
              refine AC.pass 21 rfl (by kernel_rfl) (by kernel_rfl) (by kernel_rfl) (by kernel_rfl) (by kernel_rfl) ?_
              refine AC.pass 22 rfl (by kernel_rfl) (by kernel_rfl) (by kernel_rfl) (by kernel_rfl) (by kernel_rfl) ?_
              refine AC.pass 23 rfl (by kernel_rfl) (by kernel_rfl) (by kernel_rfl) (by kernel_rfl) (by kernel_rfl) ?_
              refine AC.pass 24 rfl (by kernel_rfl) (by kernel_rfl) (by kernel_rfl) (by kernel_rfl) (by kernel_rfl) ?_
              refine AC.pass 25 rfl (by kernel_rfl) (by kernel_rfl) (by kernel_rfl) (by kernel_rfl) (by kernel_rfl) ?_
              refine AC.pass 26 rfl (by kernel_rfl) (by kernel_rfl) (by kernel_rfl) (by kernel_rfl) (by kernel_rfl) ?_
              refine AC.pass 27 rfl (by kernel_rfl) (by kernel_rfl) (by kernel_rfl) (by kernel_rfl) (by kernel_rfl) ?_
              refine AC.pass 28 rfl (by kernel_rfl) (by kernel_rfl) (by kernel_rfl) (by kernel_rfl) (by kernel_rfl) ?_
              refine AC.pass 29 rfl (by kernel_rfl) (by kernel_rfl) (by kernel_rfl) (by kernel_rfl) (by kernel_rfl) ?_
              refine AC.pass 30 rfl (by kernel_rfl) (by kernel_rfl) (by kernel_rfl) (by kernel_rfl) (by kernel_rfl) ?_
              refine AC.pass 31 rfl (by kernel_rfl) (by kernel_rfl) (by kernel_rfl) (by kernel_rfl) (by kernel_rfl) ?_
              refine AC.pass 32 rfl (by kernel_rfl) (by kernel_rfl) (by kernel_rfl) (by kernel_rfl) (by kernel_rfl) ?_
              refine AC.take 33 (.bool false) rfl (by kernel_rfl) (by kernel_rfl) (by kernel_rfl) (by kernel_rfl) (by kernel_rfl) (fun c' hle => (by kernel_rfl)) ?_
              refine AC.take 34 (.bool false) rfl (by kernel_rfl) (by kernel_rfl) (by kernel_rfl) (by kernel_rfl) (by kernel_rfl) (fun c' hle => (by kernel_rfl)) ?_
              refine AC.done (by kernel_rfl) ?_
              refine nrm ?_
              exact ⟨c134, _, rfl, (l124.trans (l128.trans l134)), X134, ups_self ⟨rfl, trivial⟩, b137, b138⟩
          · skip
            obtain rfl := anF h139 h119
            refine AC.takeb 15 h139 rfl (by kernel_rfl) (by kernel_rfl) (by kernel_rfl) (by kernel_rfl) (by kernel_rfl) (fun c' hle => (by kernel_rfl)) ?_
            refine AC.pass 16 rfl (by kernel_rfl) (by kernel_rfl) (by kernel_rfl) (by kernel_rfl) (by kernel_rfl) ?_
            refine AC.pass 17 rfl (by kernel_rfl) (by kernel_rfl) (by kernel_rfl) (by kernel_rfl) (by kernel_rfl) ?_
            refine AC.pass 18 rfl (by kernel_rfl) (by kernel_rfl) (by kernel_rfl) (by kernel_rfl) (by kernel_rfl) ?_
            refine AC.take 19 (.bool false) rfl (by kernel_rfl) (by kernel_rfl) (by kernel_rfl) (by kernel_rfl) (by kernel_rfl) (fun c' hle => (by kernel_rfl)) ?_
            have h147 : false = false := rfl
            obtain rfl := anF h147 h121
            refine AC.takeb 20 h147 rfl (by kernel_rfl) (by kernel_rfl) (by kernel_rfl) (by kernel_rfl) (by kernel_rfl) (fun c' hle => (by kernel_rfl)) ?_
            refine AC.pass 21 rfl (by kernel_rfl) (by kernel_rfl) (by kernel_rfl) (by kernel_rfl) (by kernel_rfl) ?_
            refine AC.pass 22 rfl (by kernel_rfl) (by kernel_rfl) (by kernel_rfl) (by kernel_rfl) (by kernel_rfl) ?_
            refine AC.pass 23 rfl (by kernel_rfl) (by kernel_rfl) (by kernel_rfl) (by kernel_rfl) (by kernel_rfl) ?_
            refine AC.pass 24 rfl (by kernel_rfl) (by kernel_rfl) (by kernel_rfl) (by kernel_rfl) (by kernel_rfl) ?_
            refine AC.pass 25 rfl (by kernel_rfl) (by kernel_rfl) (by kernel_rfl) (by kernel_rfl) (by kernel_rfl) ?_
            refine AC.pass 26 rfl (by kernel_rfl) (by kernel_rfl) (by kernel_rfl) (by kernel_rfl) (by kernel_rfl) ?_
            refine AC.pass 27 rfl (by kernel_rfl) (by kernel_rfl) (by kernel_rfl) (by kernel_rfl) (by kernel_rfl) ?_
            refine AC.pass 28 rfl (by kernel_rfl) (by kernel_rfl) (by kernel_rfl) (by kernel_rfl) (by kernel_rfl) ?_
            refine AC.pass 29 rfl (by kernel_rfl) (by kernel_rfl) (by kernel_rfl) (by kernel_rfl) (by kernel_rfl) ?_
            refine AC.pass 30 rfl (by kernel_rfl) (by kernel_rfl) (by kernel_rfl) (by kernel_rfl) (by kernel_rfl) ?_
            refine AC.pass 31 rfl (by kernel_rfl) (by kernel_rfl) (by kernel_rfl) (by kernel_rfl) (by kernel_rfl) ?_
            refine AC.pass 32 rfl (by kernel_rfl) (by kernel_rfl) (by kernel_rfl) (by kernel_rfl) (by kernel_rfl) ?_
            refine AC.take 33 (.bool false) rfl (by kernel_rfl) (by kernel_rfl) (by kernel_rfl) (by kernel_rfl) (by kernel_rfl) (fun c' hle => (by kernel_rfl)) ?_
            refine AC.take 34 (.bool false) rfl (by kernel_rfl) (by kernel_rfl) (by kernel_rfl) (by kernel_rfl) (by kernel_rfl) (fun c' hle => (by kernel_rfl)) ?_
            refine AC.done (by kernel_rfl) ?_
            refine nrm ?_
            exact ⟨c134, _, rfl, (l124.trans (l128.trans l134)), X134, ups_self ⟨rfl, trivial⟩, b137, b138⟩
        · skip
          rintro e_ w_ ⟨c148, g149, rfl, l148, X148, rfl, b150, b151⟩
          refine nrm ?_
          refine W.ret ?_
          obtain rfl := Option.some.inj H
          exact ret1 (v := .bool d120) rfl (by kernel_rfl) ⟨_, c148, rfl, rfl, X148, rfl⟩

end Go.Proofs.Ytjclbilkinepmaa
