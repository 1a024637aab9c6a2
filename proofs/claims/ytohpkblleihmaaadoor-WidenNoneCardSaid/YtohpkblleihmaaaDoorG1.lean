import Derived.Test.YtohpkblleihmaaaDoorMo
import Derived.Test.YtohpkblleihmaaaDoorProg
import Derived.Test.YtohpkblleihmaaaDoorMy
import Derived.Test.YtohpkblleihmaaaDoorMz
import Derived.Test.YtohpkblleihmaaaDoorA1
namespace Go.Proofs.YtohpkblleihmaaaDoor
open Go Go.Lt
set_option maxRecDepth 10000
set_option linter.unusedVariables false
attribute [local irreducible] W WL AC
def f_grid_Grid_High (sg : Sto) (p0 : Option Nat) : Option (Int) :=
  if p0.isNone = true then
  some 0
  else
  (p0).bind fun k_9 =>
  (sg.grid_Grid[k_9]?).bind fun o_11 =>
  some (o_11.rows.length : Int)
theorem c_grid_Grid_High {c0 : Cx} {G : Gm} {F : List En} {sg : Sto} {v1 : Value} (O0 : Own c0 G F) (R0 : Rel c0 sg G) (p0 : Option Nat) {r : Int} (h2 : Pt 1 c0 v1 p0) (H : f_grid_Grid_High sg p0 = some r) :
    Calls Tryd.prog 81 #[v1] c0.w (Post c0 fun c v => Own c G (F) ∧ v = .int .i64 r) := by
  unfold f_grid_Grid_High at H
  refine enter (l := [v1]) Tryd.func81 rfl rfl rfl ?_
  refine sr ?_
  refine va (.int .i64 0) ?_
  refine wln ?_
  refine W.seq ?_
  refine sr ?_
  refine va (v1) ?_
  refine WL.val0 (v := .bool p0.isNone) rfl (by rcases (h2).cs with ⟨h1_, h2_⟩ | ⟨b_, h1_, h2_⟩ <;> (subst h1_; rw [h2_]; kernel_rfl)) ?_
  refine wln ?_
  refine W.cond (t := p0.isNone) (by kernel_rfl) (fun h3 => ?_) (fun h3 => ?_)
  · have H := it h3 H
    refine sr ?_
    refine va (.int .i64 0) ?_
    refine wln ?_
    refine W.ret ?_
    refine thr ?_
    obtain rfl := Option.some.inj H
    exact ret1 (v := .int .i64 0) rfl (by kernel_rfl) ⟨_, c0, rfl, rfl, Cx.le.refl _, O0, rfl⟩
  · have H := ie h3 H
    refine W.skip ?_
    refine nrm ?_
    refine sr ?_
    refine va (v1) ?_
    obtain ⟨k_9, h6, H⟩ := bs H
    obtain ⟨b4, rfl, h5⟩ := (h2).get h6
    refine va (.pointer (some ⟨b4, 0, none⟩)) ?_
    refine va (.pointer (some ⟨b4, 0, none⟩)) ?_
    obtain ⟨o_11, h7, H⟩ := bs H
    obtain ⟨v8, u9, h11, h10⟩ := Rel.open_grid_Grid R0 h7 h5
    refine WL.val0 (v := v8) rfl (rx (by kernel_rfl) (ldE1 (j := 0) Tryd.underlying168 rfl (O0.gon h11 0 rfl) rfl rfl)) ?_
    refine WL.val0 (v := .int .i64 (o_11.rows.length : Int)) rfl (rx (by kernel_rfl) (run_lenO (ty := 3) Tryd.underlying168 h10 _)) ?_
    refine va (.int .i64 (o_11.rows.length : Int)) ?_
    refine wln ?_
    refine W.ret ?_
    obtain rfl := Option.some.inj H
    exact ret1 (v := .int .i64 (o_11.rows.length : Int)) rfl (by kernel_rfl) ⟨_, c0, rfl, rfl, Cx.le.refl _, O0, rfl⟩

def f_scroll_of (sg : Sto) (p0 : Option Nat) (p1 : Int) (p2 : Int) (p3 : Int) : Option (G_scroll_stretch × Bool) :=
  (f_grid_Grid_High sg p0).bind fun x_6 =>
  (f_grid_Grid_High sg p0).bind fun x_11 =>
  (andE (decide ((imax 0 (imin p1 x_6)) < (imax 0 (imin p2 x_11)))) (some (decide (p3 > 0)))).bind fun d_32 =>
  some ((⟨(imax 0 (imin p1 x_6)), (imax 0 (imin p2 x_11)), (imin p3 (w64 ((imax 0 (imin p2 x_11)) - (imax 0 (imin p1 x_6)))))⟩ : G_scroll_stretch), d_32)
theorem c_scroll_of {c0 : Cx} {G : Gm} {F : List En} {sg : Sto} {v1 : Value} (O0 : Own c0 G F) (R0 : Rel c0 sg G) (p0 : Option Nat) (p1 : Int) (p2 : Int) (p3 : Int) {r : G_scroll_stretch × Bool} (h2 : Pt 1 c0 v1 p0) (H : f_scroll_of sg p0 p1 p2 p3 = some r) :
    Calls Tryd.prog 158 #[v1, .int .i64 p1, .int .i64 p2, .int .i64 p3] c0.w (Post c0 fun c v => Own c G (F) ∧ v = .tuple #[.agg #[.int .i64 r.1.from_, .int .i64 r.1.to_, .int .i64 r.1.n], .bool r.2]) := by
  unfold f_scroll_of at H
  refine enter (l := [v1, .int .i64 p1, .int .i64 p2, .int .i64 p3]) Tryd.func158 rfl rfl rfl ?_
  refine sr ?_
  refine WL.mem rfl (Own.al (T := 211) (vs := [.int .i64 0, .int .i64 0, .int .i64 0]) O0 (by kernel_rfl)) ?_
  rintro v6 c5 l5 ⟨b3, rfl, O4⟩
  refine va (.bool false) ?_
  refine wln ?_
  refine sr ?_
  refine va (.int .i64 p1) ?_
  refine va (v1) ?_
  obtain ⟨x_6, h7, H⟩ := bs H
  refine WL.callP rfl (by kernel_rfl) (c_grid_Grid_High O4 (R0.mono l5) p0 (h2.mono l5) h7) ?_
  rintro v13 c12 l12 ⟨O9, rfl⟩
  refine va (.int .i64 (imin p1 x_6)) ?_
  refine va (.int .i64 (imax 0 (imin p1 x_6))) ?_
  refine va (.int .i64 p2) ?_
  refine va (v1) ?_
  obtain ⟨x_11, h14, H⟩ := bs H
  refine WL.callP rfl (by kernel_rfl) (c_grid_Grid_High O9 (R0.mono (l5.trans l12)) p0 (h2.mono (l5.trans l12)) h14) ?_
  rintro v20 c19 l19 ⟨O16, rfl⟩
  refine va (.int .i64 (imin p2 x_11)) ?_
  refine va (.int .i64 (imax 0 (imin p2 x_11))) ?_
  refine va (.int .i64 (imax 0 (imin p1 x_6))) ?_
  refine va (.int .i64 (imax 0 (imin p2 x_11))) ?_
  refine wln ?_
  refine sr ?_
  refine va (.int .i64 (imax 0 (imin p1 x_6))) ?_
  refine va (.int .i64 (imax 0 (imin p2 x_11))) ?_
  refine va (.int .i64 p3) ?_
  refine va (.int .i64 (imax 0 (imin p2 x_11))) ?_
  refine va (.int .i64 (imax 0 (imin p1 x_6))) ?_
  refine va (.int .i64 (w64 ((imax 0 (imin p2 x_11)) - (imax 0 (imin p1 x_6))))) ?_
  refine va (.int .i64 (imin p3 (w64 ((imax 0 (imin p2 x_11)) - (imax 0 (imin p1 x_6)))))) ?_
  refine va (.agg #[.int .i64 (imax 0 (imin p1 x_6)), .int .i64 (imax 0 (imin p2 x_11)), .int .i64 (imin p3 (w64 ((imax 0 (imin p2 x_11)) - (imax 0 (imin p1 x_6)))))]) ?_
  refine WL.mem rfl (Own.al (T := 211) (vs := [.int .i64 0, .int .i64 0, .int .i64 0]) O16 (by kernel_rfl)) ?_
  rintro v24 c23 l23 ⟨b21, rfl, O22⟩
  refine WL.memD rfl (Own.st (T := 211) (j := 0) (us := [.int .i64 (imax 0 (imin p1 x_6)), .int .i64 (imax 0 (imin p2 x_11)), .int .i64 (imin p3 (w64 ((imax 0 (imin p2 x_11)) - (imax 0 (imin p1 x_6)))))]) (nw := [.int .i64 (imax 0 (imin p1 x_6)), .int .i64 (imax 0 (imin p2 x_11)), .int .i64 (imin p3 (w64 ((imax 0 (imin p2 x_11)) - (imax 0 (imin p1 x_6)))))]) (v := .agg #[.int .i64 (imax 0 (imin p1 x_6)), .int .i64 (imax 0 (imin p2 x_11)), .int .i64 (imin p3 (w64 ((imax 0 (imin p2 x_11)) - (imax 0 (imin p1 x_6)))))]) 0 O22 (by kernel_rfl) rfl rfl rfl rfl (by kernel_rfl) ⟨rfl, rfl, rfl, trivial⟩ rfl rfl) ?_
  rintro c26 l26 O25
  refine wln ?_
  refine W.seq ?_
  obtain ⟨d_32, h27, H⟩ := bs H
  refine W.join (fun e w => ∃ (c : Cx) (g : Nat → Value), w = c.w ∧ c26.le c ∧ Own c G (⟨.pointer (some ⟨b21, 0, none⟩), 211, [.int .i64 (imax 0 (imin p1 x_6)), .int .i64 (imax 0 (imin p2 x_11)), .int .i64 (imin p3 (w64 ((imax 0 (imin p2 x_11)) - (imax 0 (imin p1 x_6)))))], 0⟩ :: ⟨.pointer (some ⟨b3, 0, none⟩), 211, [.int .i64 (imax 0 (imin p1 x_6)), .int .i64 (imax 0 (imin p2 x_11)), .int .i64 (imin p3 (w64 ((imax 0 (imin p2 x_11)) - (imax 0 (imin p1 x_6)))))], 0⟩ :: F) ∧ e = ups g [(8, .pointer (some ⟨b3, 0, none⟩)), (9, .bool d_32)]) ?_ ?_
  · clear H
    refine W.region ?_
    refine WL.val0 (v := .agg #[.int .i64 (imax 0 (imin p1 x_6)), .int .i64 (imax 0 (imin p2 x_11)), .int .i64 (imin p3 (w64 ((imax 0 (imin p2 x_11)) - (imax 0 (imin p1 x_6)))))]) rfl (rx (by kernel_rfl) (ldEN (T := 211) (j := 0) (l := [.int .i64 (imax 0 (imin p1 x_6)), .int .i64 (imax 0 (imin p2 x_11)), .int .i64 (imin p3 (w64 ((imax 0 (imin p2 x_11)) - (imax 0 (imin p1 x_6)))))]) (by kernel_rfl) (by kernel_rfl) (O25.on 0 rfl) rfl rfl)) ?_
    refine va (.int .i64 (imax 0 (imin p1 x_6))) ?_
    refine va (.int .i64 (imax 0 (imin p2 x_11))) ?_
    refine va (.bool (decide ((imax 0 (imin p1 x_6)) < (imax 0 (imin p2 x_11))))) ?_
    rcases Bool.eq_false_or_eq_true (decide ((imax 0 (imin p1 x_6)) < (imax 0 (imin p2 x_11)))) with h28 | h28
    · skip
      have H29 := anT h28 h27
      refine vb h28 ?_
      refine wn ?_
      refine va (.int .i64 p3) ?_
      refine wn ?_
      refine va (.bool (decide (p3 > 0))) ?_
      obtain rfl := Option.some.inj H29
      refine va (.bool (decide (p3 > 0))) ?_
      refine WL.memD rfl (Own.st (T := 211) (j := 0) (us := [.int .i64 (imax 0 (imin p1 x_6)), .int .i64 (imax 0 (imin p2 x_11)), .int .i64 (imin p3 (w64 ((imax 0 (imin p2 x_11)) - (imax 0 (imin p1 x_6)))))]) (nw := [.int .i64 (imax 0 (imin p1 x_6)), .int .i64 (imax 0 (imin p2 x_11)), .int .i64 (imin p3 (w64 ((imax 0 (imin p2 x_11)) - (imax 0 (imin p1 x_6)))))]) (v := .agg #[.int .i64 (imax 0 (imin p1 x_6)), .int .i64 (imax 0 (imin p2 x_11)), .int .i64 (imin p3 (w64 ((imax 0 (imin p2 x_11)) - (imax 0 (imin p1 x_6)))))]) 1 O25 (by kernel_rfl) rfl rfl rfl rfl (by kernel_rfl) ⟨rfl, rfl, rfl, trivial⟩ rfl rfl) ?_
      rintro c31 l31 O30
      refine va (.bool (decide (p3 > 0))) ?_
      refine wln ?_
      exact ⟨c31, _, rfl, l31, O30, ups_self ⟨rfl, rfl, trivial⟩⟩
    · skip
      obtain rfl := anF h28 h27
      refine vb h28 ?_
      refine ps ?_
      refine ps ?_
      refine va (.bool false) ?_
      refine WL.memD rfl (Own.st (T := 211) (j := 0) (us := [.int .i64 (imax 0 (imin p1 x_6)), .int .i64 (imax 0 (imin p2 x_11)), .int .i64 (imin p3 (w64 ((imax 0 (imin p2 x_11)) - (imax 0 (imin p1 x_6)))))]) (nw := [.int .i64 (imax 0 (imin p1 x_6)), .int .i64 (imax 0 (imin p2 x_11)), .int .i64 (imin p3 (w64 ((imax 0 (imin p2 x_11)) - (imax 0 (imin p1 x_6)))))]) (v := .agg #[.int .i64 (imax 0 (imin p1 x_6)), .int .i64 (imax 0 (imin p2 x_11)), .int .i64 (imin p3 (w64 ((imax 0 (imin p2 x_11)) - (imax 0 (imin p1 x_6)))))]) 1 O25 (by kernel_rfl) rfl rfl rfl rfl (by kernel_rfl) ⟨rfl, rfl, rfl, trivial⟩ rfl rfl) ?_
      rintro c33 l33 O32
      refine va (.bool false) ?_
      refine wln ?_
      exact ⟨c33, _, rfl, l33, O32, ups_self ⟨rfl, rfl, trivial⟩⟩
  · skip
    rintro e_ w_ ⟨c34, g35, rfl, l34, O36, rfl⟩
    refine nrm ?_
    refine W.ret ?_
    obtain rfl := Option.some.inj H
    have O40 := O36.selD 2 [] (by kernel_rfl) (by kernel_rfl)
    exact retCT (c := c34) (vs := [.int .i64 (imax 0 (imin p1 x_6)), .int .i64 (imax 0 (imin p2 x_11)), .int .i64 (imin p3 (w64 ((imax 0 (imin p2 x_11)) - (imax 0 (imin p1 x_6)))))]) (v := .bool d_32) rfl (by kernel_rfl) (by kernel_rfl) (by kernel_rfl) (by kernel_rfl) (O36.on 1 rfl _ rfl).1 ⟨_, c34, rfl, rfl, (l5.trans (l12.trans (l19.trans (l23.trans (l26.trans l34))))), O40, rfl⟩

def f_grid_Grid_Row (sg : Sto) (p0 : Option Nat) (p1 : Int) : Option (Option Nat) :=
  (orE (decide (p1 < 0)) ((f_grid_Grid_High sg p0).bind fun x_9 =>
  some (decide (p1 ≥ x_9)))).bind fun d_5 =>
  if d_5 = true then
  some (none : Option Nat)
  else
  (p0).bind fun k_15 =>
  (sg.grid_Grid[k_15]?).bind fun o_17 =>
  (idx o_17.rows p1).bind fun x_19 =>
  some x_19
theorem c_grid_Grid_Row {c0 : Cx} {G : Gm} {F : List En} {sg : Sto} {v1 : Value} (O0 : Own c0 G F) (R0 : Rel c0 sg G) (p0 : Option Nat) (p1 : Int) {r : Option Nat} (h2 : Pt 1 c0 v1 p0) (H : f_grid_Grid_Row sg p0 p1 = some r) :
    Calls Tryd.prog 119 #[v1, .int .i64 p1] c0.w (Post c0 fun c v => ∃ y1 : Value, Own c G (F) ∧ v = y1 ∧ Pt 0 c y1 r) := by
  unfold f_grid_Grid_Row at H
  refine enter (l := [v1, .int .i64 p1]) Tryd.func119 rfl rfl rfl ?_
  refine sr ?_
  refine va (.pointer none) ?_
  refine wln ?_
  refine W.seq ?_
  refine W.seq ?_
  obtain ⟨d_5, h3, H⟩ := bs H
  refine W.join (fun e w => ∃ (c : Cx) (g : Nat → Value), w = c.w ∧ c0.le c ∧ Own c G (F) ∧ e = ups g [(0, v1), (1, .int .i64 p1), (12, .bool d_5)]) ?_ ?_
  · clear H
    refine W.region ?_
    refine va (.int .i64 p1) ?_
    refine va (.bool (decide (p1 < 0))) ?_
    rcases Bool.eq_false_or_eq_true (decide (p1 < 0)) with h4 | h4
    · skip
      obtain rfl := orT h4 h3
      refine vb h4 ?_
      refine ps ?_
      refine ps ?_
      refine ps ?_
      refine ps ?_
      refine va (.bool true) ?_
      refine wln ?_
      exact ⟨c0, _, rfl, (Cx.le.refl _), O0, ups_self ⟨rfl, rfl, rfl, trivial⟩⟩
    · skip
      have H5 := orF h4 h3
      refine vb h4 ?_
      refine wn ?_
      refine va (.int .i64 p1) ?_
      refine wn ?_
      refine va (v1) ?_
      refine wn ?_
      obtain ⟨x_9, h6, H5⟩ := bs H5
      refine WL.callP rfl (by kernel_rfl) (c_grid_Grid_High O0 R0 p0 h2 h6) ?_
      rintro v12 c11 l11 ⟨O8, rfl⟩
      refine wn ?_
      refine va (.bool (decide (p1 ≥ x_9))) ?_
      obtain rfl := Option.some.inj H5
      refine va (.bool (decide (p1 ≥ x_9))) ?_
      refine wln ?_
      exact ⟨c11, _, rfl, l11, O8, ups_self ⟨rfl, rfl, rfl, trivial⟩⟩
  · skip
    rintro e_ w_ ⟨c13, g14, rfl, l13, O15, rfl⟩
    refine nrm ?_
    refine W.cond (t := d_5) (by kernel_rfl) (fun h19 => ?_) (fun h19 => ?_)
    · have H := it h19 H
      refine sr ?_
      refine va (.pointer none) ?_
      refine wln ?_
      refine W.ret ?_
      refine thr ?_
      obtain rfl := Option.some.inj H
      exact ret1 (v := .pointer none) rfl (by kernel_rfl) ⟨_, c13, rfl, rfl, l13, (.pointer none), O15, rfl, rfl⟩
    · have H := ie h19 H
      refine W.skip ?_
      refine nrm ?_
      refine sr ?_
      refine va (v1) ?_
      obtain ⟨k_15, h22, H⟩ := bs H
      obtain ⟨b20, rfl, h21⟩ := ((h2.mono l13)).get h22
      refine va (.pointer (some ⟨b20, 0, none⟩)) ?_
      refine va (.pointer (some ⟨b20, 0, none⟩)) ?_
      obtain ⟨o_17, h23, H⟩ := bs H
      obtain ⟨v24, u25, h27, h26⟩ := Rel.open_grid_Grid (R0.mono l13) h23 h21
      refine WL.val0 (v := v24) rfl (rx (by kernel_rfl) (ldE1 (j := 0) Tryd.underlying168 rfl (O15.gon h27 0 rfl) rfl rfl)) ?_
      refine va (.int .i64 p1) ?_
      obtain ⟨x_19, h28, H⟩ := bs H
      refine WL.val0 (v := .pointer (some ⟨sb v24, p1.toNat * 1, none⟩)) rfl (rx (by kernel_rfl) (run_indexO (k := .i64) Tryd.underlying168 (by kernel_rfl) h26 h28 _)) ?_
      obtain ⟨l_29, h30, m31⟩ := OA.at h26 h28
      obtain ⟨v32, rfl, h33⟩ := h30
      refine WL.val0 (v := v32) rfl (rx (by kernel_rfl) (ldE1 Tryd.underlying28 rfl (O15.gon h27 1 rfl) (h26.blk h28) (at1 (j := 0) m31 rfl))) ?_
      refine va (v32) ?_
      refine wln ?_
      refine W.ret ?_
      obtain rfl := Option.some.inj H
      exact ret1 (v := v32) rfl (by kernel_rfl) ⟨_, c13, rfl, rfl, l13, v32, O15, rfl, h33⟩

def f_grid_Grid_Set (sg : Sto) (p0 : Option Nat) (p1 : Int) (p2 : Option Nat) : Option (Sto × Bool) :=
  (orE p2.isNone ((f_grid_Grid_Row sg p0 p1).bind fun x_9 =>
  (f_row_Row_Wide sg x_9).bind fun x_10 =>
  (f_row_Row_Wide sg p2).bind fun x_12 =>
  some (x_10 != x_12))).bind fun d_5 =>
  if d_5 = true then
  some (sg, false)
  else
  (p0).bind fun k_18 =>
  (sg.grid_Grid[k_18]?).bind fun o_20 =>
  (idx o_20.rows p1).bind fun x_23 =>
  (sets o_20.rows p1 p2).bind fun w_24 =>
  (sg.set_grid_Grid k_18 (⟨w_24⟩ : G_grid_Grid)).bind fun s_24001 =>
  some (s_24001, true)
theorem c_grid_Grid_Set {c0 : Cx} {G : Gm} {F : List En} {sg : Sto} {v1 : Value} {v3 : Value} (O0 : Own c0 G F) (R0 : Rel c0 sg G) (p0 : Option Nat) (p1 : Int) (p2 : Option Nat) {r : Sto × Bool} (h2 : Pt 1 c0 v1 p0) (h4 : Pt 0 c0 v3 p2) (H : f_grid_Grid_Set sg p0 p1 p2 = some r) :
    Calls Tryd.prog 147 #[v1, .int .i64 p1, v3] c0.w (Post c0 fun c v => ∃ G_ : Gm, Own c G_ (F) ∧ Rel c r.1 G_ ∧ v = .bool r.2) := by
  unfold f_grid_Grid_Set at H
  refine enter (l := [v1, .int .i64 p1, v3]) Tryd.func147 rfl rfl rfl ?_
  refine sr ?_
  refine va (.bool false) ?_
  refine wln ?_
  refine W.seq ?_
  refine W.seq ?_
  obtain ⟨d_5, h5, H⟩ := bs H
  refine W.join (fun e w => ∃ (c : Cx) (g : Nat → Value), w = c.w ∧ c0.le c ∧ Own c G (F) ∧ e = ups g [(0, v1), (1, .int .i64 p1), (2, v3), (17, .bool d_5)]) ?_ ?_
  · clear H
    refine W.region ?_
    refine va (v3) ?_
    refine WL.val0 (v := .bool p2.isNone) rfl (by rcases (h4).cs with ⟨h1_, h2_⟩ | ⟨b_, h1_, h2_⟩ <;> (subst h1_; rw [h2_]; kernel_rfl)) ?_
    rcases Bool.eq_false_or_eq_true (p2.isNone) with h6 | h6
    · skip
      obtain rfl := orT h6 h5
      refine vb h6 ?_
      refine ps ?_
      refine ps ?_
      refine ps ?_
      refine ps ?_
      refine ps ?_
      refine ps ?_
      refine ps ?_
      refine va (.bool true) ?_
      refine wln ?_
      exact ⟨c0, _, rfl, (Cx.le.refl _), O0, ups_self ⟨rfl, rfl, rfl, rfl, trivial⟩⟩
    · skip
      have H7 := orF h6 h5
      refine vb h6 ?_
      refine wn ?_
      refine va (v1) ?_
      refine wn ?_
      refine va (.int .i64 p1) ?_
      refine wn ?_
      obtain ⟨x_9, h8, H7⟩ := bs H7
      refine WL.callP rfl (by kernel_rfl) (c_grid_Grid_Row O0 R0 p0 p1 h2 h8) ?_
      rintro v9 c15 l15 ⟨_, O12, rfl, h10⟩
      refine wn ?_
      obtain ⟨x_10, h17, H7⟩ := bs H7
      refine WL.callP rfl (by kernel_rfl) (c_row_Row_Wide O12 (R0.mono l15) x_9 h10 h17) ?_
      rintro v23 c22 l22 ⟨O19, rfl⟩
      refine wn ?_
      refine va (v3) ?_
      refine wn ?_
      obtain ⟨x_12, h24, H7⟩ := bs H7
      refine WL.callP rfl (by kernel_rfl) (c_row_Row_Wide O19 (R0.mono (l15.trans l22)) p2 (h4.mono (l15.trans l22)) h24) ?_
      rintro v30 c29 l29 ⟨O26, rfl⟩
      refine wn ?_
      refine va (.bool (x_10 != x_12)) ?_
      obtain rfl := Option.some.inj H7
      refine va (.bool (x_10 != x_12)) ?_
      refine wln ?_
      exact ⟨c29, _, rfl, (l15.trans (l22.trans l29)), O26, ups_self ⟨rfl, rfl, rfl, rfl, trivial⟩⟩
  · skip
    rintro e_ w_ ⟨c31, g32, rfl, l31, O33, rfl⟩
    refine nrm ?_
    refine W.cond (t := d_5) (by kernel_rfl) (fun h37 => ?_) (fun h37 => ?_)
    · have H := it h37 H
      refine sr ?_
      refine va (.bool false) ?_
      refine wln ?_
      refine W.ret ?_
      refine thr ?_
      obtain rfl := Option.some.inj H
      exact ret1 (v := .bool false) rfl (by kernel_rfl) ⟨_, c31, rfl, rfl, l31, G, O33, (R0.mono l31), rfl⟩
    · have H := ie h37 H
      refine W.skip ?_
      refine nrm ?_
      refine sr ?_
      refine va (v1) ?_
      obtain ⟨k_18, h40, H⟩ := bs H
      obtain ⟨b38, rfl, h39⟩ := ((h2.mono l31)).get h40
      refine va (.pointer (some ⟨b38, 0, none⟩)) ?_
      refine va (.pointer (some ⟨b38, 0, none⟩)) ?_
      obtain ⟨o_20, h41, H⟩ := bs H
      obtain ⟨v42, u43, h45, h44⟩ := Rel.open_grid_Grid (R0.mono l31) h41 h39
      refine WL.val0 (v := v42) rfl (rx (by kernel_rfl) (ldE1 (j := 0) Tryd.underlying168 rfl (O33.gon h45 0 rfl) rfl rfl)) ?_
      refine va (.int .i64 p1) ?_
      refine va (v3) ?_
      obtain ⟨x_23, h46, H⟩ := bs H
      refine WL.val0 (v := .pointer (some ⟨sb v42, p1.toNat * 1, none⟩)) rfl (rx (by kernel_rfl) (run_indexO (k := .i64) Tryd.underlying168 (by kernel_rfl) h44 h46 _)) ?_
      obtain ⟨a47, rfl⟩ := ((h4.mono l31)).form
      have O48 := O33.borrow 1 h45 rfl
      obtain ⟨w_24, h49, H⟩ := bs H
      refine WL.memD rfl (Own.stW (R := (RP 0)) (T := 28) (us := [.pointer a47]) (x' := p2) (u := .pointer a47) 0 O48 (by kernel_rfl) rfl h44 h49 rfl (by kernel_rfl) ⟨(h4.mono l31).one, trivial⟩ rfl ⟨(.pointer a47), rfl, (h4.mono l31)⟩) ?_
      rintro c53 l53 ⟨u51, O50, h52⟩
      have O54 := O50.giveB 1 rfl
      obtain ⟨s_24001, h59, H⟩ := bs H
      obtain ⟨G55, O56, R57, h58, a60⟩ := Rel.put_grid_Grid O54 (R0.mono (l31.trans l53)) (E' := [⟨.pointer (some ⟨b38, 0, none⟩), 170, [v42], 0⟩, es true (RP 0) v42 28 u51 w_24]) h59 ⟨b38, v42, u51, (l53.t _ _ _ h39), rfl, h52⟩
      refine wln ?_
      refine sr ?_
      refine va (.bool true) ?_
      refine wln ?_
      refine W.ret ?_
      obtain rfl := Option.some.inj H
      exact ret1 (v := .bool true) rfl (by kernel_rfl) ⟨_, c53, rfl, rfl, (l31.trans l53), G55, O56, R57, rfl⟩

def f_scroll_stretch_lay (sg : Sto) (p0 : G_scroll_stretch) (p1 : Option Nat) (p2 : List (Option Nat)) : Option (Sto) :=
  (iter (σ := Int × Sto) (τ := Sto) (((p2.length : Int) - 0).toNat + 1) (fun s_7 =>
  if (decide (s_7.1 < (p2.length : Int))) = true then
  (idx p2 s_7.1).bind fun x_11 =>
  (f_grid_Grid_Set s_7.2 p1 (w64 (p0.from_ + s_7.1)) x_11).bind fun x_22 =>
  some (.inl ((w64 (s_7.1 + 1)), x_22.1))
  else
  some (.inr (s_7.2))) (0, sg)).bind fun o_7 =>
  (f_grid_Grid_Row o_7 p1 (w64 (p0.from_ - 1))).bind fun x_31 =>
  (f_row_Row_GoOn o_7 x_31 false).bind fun x_32 =>
  some x_32
theorem c_scroll_stretch_lay {c0 : Cx} {G : Gm} {F : List En} {sg : Sto} {v1 : Value} {v3 : Value} (O0 : Own c0 G F) (R0 : Rel c0 sg G) (p0 : G_scroll_stretch) (p1 : Option Nat) (p2 : List (Option Nat)) {r : Sto} (h2 : Pt 1 c0 v1 p1) (h4 : Sl (RP 0) c0 v3 p2) (H : f_scroll_stretch_lay sg p0 p1 p2 = some r) :
    Calls Tryd.prog 159 #[.agg #[.int .i64 p0.from_, .int .i64 p0.to_, .int .i64 p0.n], v1, v3] c0.w (Post c0 fun c v => ∃ G_ : Gm, Own c G_ (F) ∧ Rel c r G_ ∧ v = .tuple #[]) := by
  unfold f_scroll_stretch_lay at H
  refine enter (l := [.agg #[.int .i64 p0.from_, .int .i64 p0.to_, .int .i64 p0.n], v1, v3]) Tryd.func159 rfl rfl rfl ?_
  refine sr ?_
  refine WL.mem rfl (Own.bx (T := 211) (vs := [.int .i64 p0.from_, .int .i64 p0.to_, .int .i64 p0.n]) O0 (by kernel_rfl)) ?_
  rintro v9 c8 l8 ⟨b5, rfl, O6, m7⟩
  refine wln ?_
  refine W.seq ?_
  refine sr ?_
  refine va (v3) ?_
  refine WL.val0 (v := .int .i64 (p2.length : Int)) rfl (rx (by kernel_rfl) (run_len (ty := 3) Tryd.underlying168 (h4.mono l8) _)) ?_
  refine va (.int .i64 0) ?_
  refine wln ?_
  refine W.block ?_
  obtain ⟨o_7, h10, H11⟩ := bs H
  refine W.loop (σ := Int × Sto) (τ := Sto) (fun s_7 => fun e w => ∃ (c : Cx) (g : Nat → Value) (G_ : Gm), w = c.w ∧ c8.le c ∧ Own c G_ (F) ∧ e = ups g [(1, v1), (3, .pointer (some ⟨b5, 0, none⟩)), (8, v3), (9, .int .i64 (p2.length : Int)), (10, .int .i64 s_7.1)] ∧ Rel c s_7.2 G_) (fun o_7_ ex e w => ex = .exit 0 ∧ (fun e w => ∃ (c : Cx) (g : Nat → Value) (G_ : Gm), w = c.w ∧ c8.le c ∧ Own c G_ (F) ∧ e = ups g [(1, v1), (3, .pointer (some ⟨b5, 0, none⟩))] ∧ Rel c o_7_ G_) e w) ?_ h10 ?_ ?_
  · clear H11 h10
    intro s_7 xx_ ee_ ww_ H
    revert ee_ ww_
    rintro e_ w_ ⟨c12, g13, G15, rfl, l12, O14, rfl, R16⟩
    refine sr ?_
    refine va (.bool (decide (s_7.1 < (p2.length : Int)))) ?_
    refine wln ?_
    refine W.seq ?_
    refine W.cond (t := decide (s_7.1 < (p2.length : Int))) (by kernel_rfl) (fun h18 => ?_) (fun h18 => ?_)
    · have H := it h18 H
      refine W.skip ?_
      refine nrm ?_
      refine W.seq ?_
      refine W.block ?_
      refine sr ?_
      refine va (.int .i64 s_7.1) ?_
      obtain ⟨x_11, h19, H⟩ := bs H
      obtain ⟨l_20, h21, m22⟩ := Sl.at (h4.mono (l8.trans l12)) (idx_get h19)
      obtain ⟨v23, rfl, h24⟩ := h21
      refine WL.val0 (v := .pointer (some ⟨sb v3, so v3 + s_7.1.toNat * 1, none⟩)) rfl (rx (by kernel_rfl) (run_index (k := .i64) Tryd.underlying168 (by kernel_rfl) (h4.mono (l8.trans l12)) h19 _)) ?_
      refine WL.val0 (v := v23) rfl (rx (by kernel_rfl) (run_load1 Tryd.underlying28 rfl (m22 0 _ rfl))) ?_
      refine va (.int .i64 s_7.1) ?_
      refine va (v23) ?_
      refine wln ?_
      refine W.region ?_
      refine va (v1) ?_
      refine va (.pointer (some ⟨b5, 0, none⟩)) ?_
      refine WL.val0 (v := .int .i64 p0.from_) rfl (rx (by kernel_rfl) (run_load1 Tryd.underlying3 rfl ((fun j u hu => (m7 j u hu).mono l12) 0 _ rfl))) ?_
      refine va (.int .i64 s_7.1) ?_
      refine va (.int .i64 (w64 (p0.from_ + s_7.1))) ?_
      refine va (v23) ?_
      obtain ⟨x_22, h25, H⟩ := bs H
      refine WL.callP rfl (by kernel_rfl) (c_grid_Grid_Set O14 R16 p1 (w64 (p0.from_ + s_7.1)) x_11 (h2.mono (l8.trans l12)) h24 h25) ?_
      rintro v31 c30 l30 ⟨G26, O27, R28, rfl⟩
      refine WL.nil ?_
      refine bkn ?_
      refine nrm ?_
      refine W.region ?_
      refine va (.int .i64 (w64 (s_7.1 + 1))) ?_
      refine va (.int .i64 (w64 (s_7.1 + 1))) ?_
      refine WL.nil ?_
      obtain rfl := Option.some.inj H
      refine ⟨_, rfl, ?_⟩
      exact ⟨c30, _, G26, rfl, (l12.trans l30), O27, ups_self ⟨rfl, rfl, rfl, rfl, rfl, trivial⟩, R28⟩
    · have H := ie h18 H
      refine W.exit ?_
      refine thx ?_
      obtain rfl := Option.some.inj H
      refine ⟨_, rfl, rfl, ?_⟩
      exact ⟨c12, _, G15, rfl, l12, O14, ups_self ⟨rfl, rfl, trivial⟩, R16⟩
  · skip
    exact ⟨c8, _, G, rfl, (Cx.le.refl _), O6, ups_self ⟨rfl, rfl, rfl, rfl, rfl, trivial⟩, (R0.mono l8)⟩
  · skip
    rintro _ e_ w_ ⟨rfl, c32, g33, G35, rfl, l32, O34, rfl, R36⟩
    refine bke ?_
    refine nrm ?_
    refine W.region ?_
    refine va (v1) ?_
    refine va (.pointer (some ⟨b5, 0, none⟩)) ?_
    refine WL.val0 (v := .int .i64 p0.from_) rfl (rx (by kernel_rfl) (run_load1 Tryd.underlying3 rfl ((fun j u hu => (m7 j u hu).mono l32) 0 _ rfl))) ?_
    refine va (.int .i64 (w64 (p0.from_ - 1))) ?_
    obtain ⟨x_31, h38, H11⟩ := bs H11
    refine WL.callP rfl (by kernel_rfl) (c_grid_Grid_Row O34 R36 p1 (w64 (p0.from_ - 1)) (h2.mono (l8.trans l32)) h38) ?_
    rintro v39 c45 l45 ⟨_, O42, rfl, h40⟩
    obtain ⟨x_32, h47, H11⟩ := bs H11
    refine WL.callP rfl (by kernel_rfl) (c_row_Row_GoOn O42 (R36.mono l45) x_31 false h40 h47) ?_
    rintro v53 c52 l52 ⟨G48, O49, R50, rfl⟩
    refine WL.nil ?_
    obtain rfl := Option.some.inj H11
    exact end0 rfl ⟨_, c52, rfl, rfl, (l8.trans (l32.trans (l45.trans l52))), G48, O49, R50, rfl⟩

def f_scroll_rows (sg : Sto) (p0 : Option Nat) (p1 : Int) (p2 : Int) : Option (List (Option Nat)) :=
  (iter (σ := (List (Option Nat)) × Int) (τ := (List (Option Nat))) ((p2 - p1).toNat + 1) (fun s_8 =>
  if (decide (s_8.2 < p2)) = true then
  (f_grid_Grid_Row sg p0 s_8.2).bind fun x_16 =>
  (app s_8.1 ([x_16] : List (Option Nat))).bind fun x_18 =>
  some (.inl (x_18, (w64 (s_8.2 + 1))))
  else
  some (.inr (s_8.1))) (([] : List (Option Nat)), p1)).bind fun o_8 =>
  some o_8
theorem c_scroll_rows {c0 : Cx} {G : Gm} {F : List En} {sg : Sto} {v1 : Value} (O0 : Own c0 G F) (R0 : Rel c0 sg G) (p0 : Option Nat) (p1 : Int) (p2 : Int) {r : List (Option Nat)} (h2 : Pt 1 c0 v1 p0) (H : f_scroll_rows sg p0 p1 p2 = some r) :
    Calls Tryd.prog 160 #[v1, .int .i64 p1, .int .i64 p2] c0.w (Post c0 fun c v => ∃ y1 : Value, ∃ y2 : List Value, Own c G (es true (RP 0) y1 28 y2 r :: F) ∧ v = y1 ∧ OA (RP 0) c y1 y2 r) := by
  unfold f_scroll_rows at H
  refine enter (l := [v1, .int .i64 p1, .int .i64 p2]) Tryd.func160 rfl rfl rfl ?_
  refine sr ?_
  refine va (.slice none 0 0) ?_
  refine wln ?_
  refine sr ?_
  refine va (.slice none 0 0) ?_
  refine wln ?_
  refine W.seq ?_
  refine sr ?_
  refine va (.int .i64 p1) ?_
  refine va (.int .i64 p1) ?_
  refine wln ?_
  refine W.block ?_
  obtain ⟨o_8, h3, H4⟩ := bs H
  refine W.loop (σ := (List (Option Nat)) × Int) (τ := (List (Option Nat))) (fun s_8 => fun e w => ∃ (c : Cx) (g : Nat → Value) (v5 : Value) (u6 : List Value), w = c.w ∧ c0.le c ∧ Own c G (es true (RP 0) v5 28 u6 s_8.1 :: F) ∧ e = ups g [(0, v1), (2, .int .i64 p2), (7, v5), (8, .int .i64 s_8.2)] ∧ OA (RP 0) c v5 u6 s_8.1) (fun o_8_ ex e w => ex = .exit 0 ∧ (fun e w => ∃ (c : Cx) (g : Nat → Value) (v7 : Value) (u8 : List Value), w = c.w ∧ c0.le c ∧ Own c G (es true (RP 0) v7 28 u8 o_8_ :: F) ∧ e = ups g [(7, v7)] ∧ OA (RP 0) c v7 u8 o_8_) e w) ?_ h3 ?_ ?_
  · clear H4 h3
    intro s_8 xx_ ee_ ww_ H
    revert ee_ ww_
    rintro e_ w_ ⟨c9, g10, v5, u6, rfl, l9, O11, rfl, h12⟩
    refine W.seq ?_
    refine sr ?_
    refine va (.int .i64 s_8.2) ?_
    refine va (.int .i64 p2) ?_
    refine va (.bool (decide (s_8.2 < p2))) ?_
    refine wln ?_
    refine W.cond (t := decide (s_8.2 < p2)) (by kernel_rfl) (fun h16 => ?_) (fun h16 => ?_)
    · have H := it h16 H
      refine W.skip ?_
      refine nrm ?_
      refine W.seq ?_
      refine W.block ?_
      refine W.region ?_
      refine va (v5) ?_
      refine va (v1) ?_
      refine va (.int .i64 s_8.2) ?_
      obtain ⟨x_16, h17, H⟩ := bs H
      refine WL.callP rfl (by kernel_rfl) (c_grid_Grid_Row O11 (R0.mono l9) p0 s_8.2 (h2.mono l9) h17) ?_
      rintro v18 c24 l24 ⟨_, O21, rfl, h19⟩
      obtain ⟨a26, rfl⟩ := (h19).form
      refine WL.mem rfl (Own.sl (R := (RP 0)) (E := 28) (ls := [[.pointer a26]]) (vs := [.pointer a26]) (xs := ([x_16] : List (Option Nat))) true O21 (Nat.succ_pos _) rfl ⟨⟨(.pointer a26), rfl, h19⟩, trivial⟩ (by kernel_rfl) (by kernel_rfl)) ?_
      rintro v31 c30 l30 ⟨u28, O27, h29⟩
      obtain ⟨c34, h35, l34, O32, h33⟩ := O27.frz 0 rfl h29
      refine WL.gh h35 ?_
      obtain ⟨x_18, h36, H⟩ := bs H
      refine WL.mem rfl (Own.app (R := (RP 0)) (z := .pointer none) (by_ := 8) (ty := 168) 1 O32 rfl (h12.mono (l24.trans (l30.trans l34))) h33 h36 Tryd.underlying168 (by kernel_rfl) rfl (by kernel_rfl) (by kernel_rfl)) ?_
      rintro v41 c40 l40 ⟨u38, O37, h39⟩
      refine va (v41) ?_
      refine WL.nil ?_
      refine bkn ?_
      refine nrm ?_
      refine W.region ?_
      refine va (.int .i64 s_8.2) ?_
      refine va (.int .i64 (w64 (s_8.2 + 1))) ?_
      refine va (.int .i64 (w64 (s_8.2 + 1))) ?_
      refine WL.nil ?_
      obtain rfl := Option.some.inj H
      refine ⟨_, rfl, ?_⟩
      have O42 := O37.selD 2 [1] (by kernel_rfl) (by kernel_rfl)
      exact ⟨c40, _, v41, u38, rfl, (l9.trans (l24.trans (l30.trans (l34.trans l40)))), O42, ups_self ⟨rfl, rfl, rfl, rfl, trivial⟩, h39⟩
    · have H := ie h16 H
      refine W.exit ?_
      refine thx ?_
      obtain rfl := Option.some.inj H
      refine ⟨_, rfl, rfl, ?_⟩
      exact ⟨c9, _, v5, u6, rfl, l9, O11, ups_self ⟨rfl, trivial⟩, h12⟩
  · skip
    have h44 : OA (RP 0) c0 (.slice none 0 0) [] [] := OA.nil (Nat.succ_pos _)
    have O43 := O0.addHole (e := es true (RP 0) (.slice none 0 0) 28 [] ([] : List (Option Nat))) rfl
    exact ⟨c0, _, (.slice none 0 0), [], rfl, (Cx.le.refl _), O43, ups_self ⟨rfl, rfl, rfl, rfl, trivial⟩, h44⟩
  · skip
    rintro _ e_ w_ ⟨rfl, c45, g46, v7, u8, rfl, l45, O47, rfl, h48⟩
    refine bke ?_
    refine nrm ?_
    refine sr ?_
    refine va (v7) ?_
    refine va (v7) ?_
    refine wln ?_
    refine W.ret ?_
    obtain rfl := Option.some.inj H4
    exact ret1 (v := v7) rfl (by kernel_rfl) ⟨_, c45, rfl, rfl, l45, v7, u8, O47, rfl, h48⟩

def f_grid_Grid_Wide (sg : Sto) (p0 : Option Nat) : Option (Int) :=
  (f_grid_Grid_Row sg p0 0).bind fun x_4 =>
  (f_row_Row_Wide sg x_4).bind fun x_5 =>
  some x_5
theorem c_grid_Grid_Wide {c0 : Cx} {G : Gm} {F : List En} {sg : Sto} {v1 : Value} (O0 : Own c0 G F) (R0 : Rel c0 sg G) (p0 : Option Nat) {r : Int} (h2 : Pt 1 c0 v1 p0) (H : f_grid_Grid_Wide sg p0 = some r) :
    Calls Tryd.prog 80 #[v1] c0.w (Post c0 fun c v => Own c G (F) ∧ v = .int .i64 r) := by
  unfold f_grid_Grid_Wide at H
  refine enter (l := [v1]) Tryd.func80 rfl rfl rfl ?_
  refine sr ?_
  refine va (.int .i64 0) ?_
  refine wln ?_
  refine sr ?_
  refine va (v1) ?_
  obtain ⟨x_4, h3, H⟩ := bs H
  refine WL.callP rfl (by kernel_rfl) (c_grid_Grid_Row O0 R0 p0 0 h2 h3) ?_
  rintro v4 c10 l10 ⟨_, O7, rfl, h5⟩
  obtain ⟨x_5, h12, H⟩ := bs H
  refine WL.callP rfl (by kernel_rfl) (c_row_Row_Wide O7 (R0.mono l10) x_4 h5 h12) ?_
  rintro v18 c17 l17 ⟨O14, rfl⟩
  refine va (.int .i64 x_5) ?_
  refine wln ?_
  refine W.ret ?_
  obtain rfl := Option.some.inj H
  exact ret1 (v := .int .i64 x_5) rfl (by kernel_rfl) ⟨_, c17, rfl, rfl, (l10.trans l17), O14, rfl⟩

def f_scroll_blanks (sg : Sto) (p0 : Option Nat) (p1 : Int) : Option (Sto × (List (Option Nat))) :=
  (iter (σ := (List (Option Nat)) × Int × Sto) (τ := ((List (Option Nat)) × Sto)) ((p1 - 0).toNat + 1) (fun s_8 =>
  if (decide (s_8.2.1 < p1)) = true then
  (f_grid_Grid_Wide s_8.2.2 p0).bind fun x_13 =>
  (f_row_New s_8.2.2 x_13).bind fun x_14 =>
  (app s_8.1 ([x_14.2] : List (Option Nat))).bind fun x_16 =>
  some (.inl (x_16, (w64 (s_8.2.1 + 1)), x_14.1))
  else
  some (.inr (s_8.1, s_8.2.2))) (([] : List (Option Nat)), 0, sg)).bind fun o_8 =>
  some (o_8.2, o_8.1)
theorem c_scroll_blanks {c0 : Cx} {G : Gm} {F : List En} {sg : Sto} {v1 : Value} (O0 : Own c0 G F) (R0 : Rel c0 sg G) (p0 : Option Nat) (p1 : Int) {r : Sto × (List (Option Nat))} (h2 : Pt 1 c0 v1 p0) (H : f_scroll_blanks sg p0 p1 = some r) :
    Calls Tryd.prog 161 #[v1, .int .i64 p1] c0.w (Post c0 fun c v => ∃ y1 : Value, ∃ y2 : List Value, ∃ G_ : Gm, Own c G_ (es true (RP 0) y1 28 y2 r.2 :: F) ∧ Rel c r.1 G_ ∧ Adds G G_ ∧ v = y1 ∧ OA (RP 0) c y1 y2 r.2) := by
  unfold f_scroll_blanks at H
  refine enter (l := [v1, .int .i64 p1]) Tryd.func161 rfl rfl rfl ?_
  refine sr ?_
  refine va (.slice none 0 0) ?_
  refine wln ?_
  refine sr ?_
  refine va (.slice none 0 0) ?_
  refine wln ?_
  refine W.seq ?_
  refine sr ?_
  refine va (.int .i64 p1) ?_
  refine va (.int .i64 0) ?_
  refine wln ?_
  refine W.block ?_
  obtain ⟨o_8, h3, H4⟩ := bs H
  refine W.loop (σ := (List (Option Nat)) × Int × Sto) (τ := ((List (Option Nat)) × Sto)) (fun s_8 => fun e w => ∃ (c : Cx) (g : Nat → Value) (v5 : Value) (u6 : List Value) (G_ : Gm), w = c.w ∧ c0.le c ∧ Own c G_ (es true (RP 0) v5 28 u6 s_8.1 :: F) ∧ e = ups g [(0, v1), (5, v5), (6, .int .i64 p1), (7, .int .i64 s_8.2.1)] ∧ Rel c s_8.2.2 G_ ∧ Adds G G_ ∧ OA (RP 0) c v5 u6 s_8.1) (fun o_8_ ex e w => ex = .exit 0 ∧ (fun e w => ∃ (c : Cx) (g : Nat → Value) (v7 : Value) (u8 : List Value) (G_ : Gm), w = c.w ∧ c0.le c ∧ Own c G_ (es true (RP 0) v7 28 u8 o_8_.1 :: F) ∧ e = ups g [(5, v7)] ∧ Rel c o_8_.2 G_ ∧ Adds G G_ ∧ OA (RP 0) c v7 u8 o_8_.1) e w) ?_ h3 ?_ ?_
  · clear H4 h3
    intro s_8 xx_ ee_ ww_ H
    revert ee_ ww_
    rintro e_ w_ ⟨c9, g10, v5, u6, G13, rfl, l9, O11, rfl, R14, a15, h12⟩
    refine sr ?_
    refine va (.bool (decide (s_8.2.1 < p1))) ?_
    refine wln ?_
    refine W.seq ?_
    refine W.cond (t := decide (s_8.2.1 < p1)) (by kernel_rfl) (fun h16 => ?_) (fun h16 => ?_)
    · have H := it h16 H
      refine W.skip ?_
      refine nrm ?_
      refine W.seq ?_
      refine W.block ?_
      refine W.region ?_
      refine va (v5) ?_
      refine va (v1) ?_
      obtain ⟨x_13, h17, H⟩ := bs H
      refine WL.callP rfl (by kernel_rfl) (c_grid_Grid_Wide O11 R14 p0 (h2.mono l9) h17) ?_
      rintro v23 c22 l22 ⟨O19, rfl⟩
      obtain ⟨x_14, h24, H⟩ := bs H
      refine WL.callP rfl (by kernel_rfl) (c_row_New O19 (R14.mono l22) x_13 h24) ?_
      rintro v25 c31 l31 ⟨_, G27, O28, R29, a30, rfl, h26⟩
      have a33 := a15.trans a30
      obtain ⟨a34, rfl⟩ := (h26).form
      refine WL.mem rfl (Own.sl (R := (RP 0)) (E := 28) (ls := [[.pointer a34]]) (vs := [.pointer a34]) (xs := ([x_14.2] : List (Option Nat))) true O28 (Nat.succ_pos _) rfl ⟨⟨(.pointer a34), rfl, h26⟩, trivial⟩ (by kernel_rfl) (by kernel_rfl)) ?_
      rintro v39 c38 l38 ⟨u36, O35, h37⟩
      obtain ⟨c42, h43, l42, O40, h41⟩ := O35.frz 0 rfl h37
      refine WL.gh h43 ?_
      obtain ⟨x_16, h44, H⟩ := bs H
      refine WL.mem rfl (Own.app (R := (RP 0)) (z := .pointer none) (by_ := 8) (ty := 168) 1 O40 rfl (h12.mono (l22.trans (l31.trans (l38.trans l42)))) h41 h44 Tryd.underlying168 (by kernel_rfl) rfl (by kernel_rfl) (by kernel_rfl)) ?_
      rintro v49 c48 l48 ⟨u46, O45, h47⟩
      refine va (v49) ?_
      refine WL.nil ?_
      refine bkn ?_
      refine nrm ?_
      refine W.region ?_
      refine va (.int .i64 (w64 (s_8.2.1 + 1))) ?_
      refine va (.int .i64 (w64 (s_8.2.1 + 1))) ?_
      refine WL.nil ?_
      obtain rfl := Option.some.inj H
      refine ⟨_, rfl, ?_⟩
      have O50 := O45.selD 2 [1] (by kernel_rfl) (by kernel_rfl)
      exact ⟨c48, _, v49, u46, G27, rfl, (l9.trans (l22.trans (l31.trans (l38.trans (l42.trans l48))))), O50, ups_self ⟨rfl, rfl, rfl, rfl, trivial⟩, (R29.mono (l38.trans (l42.trans l48))), a33, h47⟩
    · have H := ie h16 H
      refine W.exit ?_
      refine thx ?_
      obtain rfl := Option.some.inj H
      refine ⟨_, rfl, rfl, ?_⟩
      exact ⟨c9, _, v5, u6, G13, rfl, l9, O11, ups_self ⟨rfl, trivial⟩, R14, a15, h12⟩
  · skip
    have h52 : OA (RP 0) c0 (.slice none 0 0) [] [] := OA.nil (Nat.succ_pos _)
    have O51 := O0.addHole (e := es true (RP 0) (.slice none 0 0) 28 [] ([] : List (Option Nat))) rfl
    exact ⟨c0, _, (.slice none 0 0), [], G, rfl, (Cx.le.refl _), O51, ups_self ⟨rfl, rfl, rfl, rfl, trivial⟩, R0, (Adds.refl _), h52⟩
  · skip
    rintro _ e_ w_ ⟨rfl, c53, g54, v7, u8, G57, rfl, l53, O55, rfl, R58, a59, h56⟩
    refine bke ?_
    refine nrm ?_
    refine sr ?_
    refine va (v7) ?_
    refine va (v7) ?_
    refine wln ?_
    refine W.ret ?_
    obtain rfl := Option.some.inj H4
    exact ret1 (v := v7) rfl (by kernel_rfl) ⟨_, c53, rfl, rfl, l53, v7, u8, G57, O55, R58, a59, rfl, h56⟩

def f_scroll_Up (sg : Sto) (p0 : Option Nat) (p1 : Int) (p2 : Int) (p3 : Int) : Option (Sto) :=
  (f_scroll_of sg p0 p1 p2 p3).bind fun x_5 =>
  if x_5.2 = true then
  (f_scroll_rows sg p0 (w64 (x_5.1.from_ + x_5.1.n)) x_5.1.to_).bind fun x_28 =>
  (f_scroll_blanks sg p0 x_5.1.n).bind fun x_29 =>
  (app x_28 x_29.2).bind fun x_30 =>
  (f_scroll_stretch_lay x_29.1 x_5.1 p0 x_30).bind fun x_31 =>
  some x_31
  else
  some sg
theorem c_scroll_Up {c0 : Cx} {G : Gm} {F : List En} {sg : Sto} {v1 : Value} (O0 : Own c0 G F) (R0 : Rel c0 sg G) (p0 : Option Nat) (p1 : Int) (p2 : Int) (p3 : Int) {r : Sto} (h2 : Pt 1 c0 v1 p0) (H : f_scroll_Up sg p0 p1 p2 p3 = some r) :
    Calls Tryd.prog 107 #[v1, .int .i64 p1, .int .i64 p2, .int .i64 p3] c0.w (Post c0 fun c v => ∃ G_ : Gm, Own c G_ (F) ∧ Rel c r G_ ∧ v = .tuple #[]) := by
  unfold f_scroll_Up at H
  refine enter (l := [v1, .int .i64 p1, .int .i64 p2, .int .i64 p3]) Tryd.func107 rfl rfl rfl ?_
  refine sr ?_
  refine va (v1) ?_
  refine va (.int .i64 p1) ?_
  refine va (.int .i64 p2) ?_
  refine va (.int .i64 p3) ?_
  obtain ⟨x_5, h3, H⟩ := bs H
  refine WL.callP rfl (by kernel_rfl) (c_scroll_of O0 R0 p0 p1 p2 p3 h2 h3) ?_
  rintro v9 c8 l8 ⟨O5, rfl⟩
  refine va (.tuple #[.agg #[.int .i64 x_5.1.from_, .int .i64 x_5.1.to_, .int .i64 x_5.1.n], .bool x_5.2]) ?_
  refine va (.agg #[.int .i64 x_5.1.from_, .int .i64 x_5.1.to_, .int .i64 x_5.1.n]) ?_
  refine va (.bool x_5.2) ?_
  refine WL.mem rfl (Own.al (T := 211) (vs := [.int .i64 0, .int .i64 0, .int .i64 0]) O5 (by kernel_rfl)) ?_
  rintro v13 c12 l12 ⟨b10, rfl, O11⟩
  refine WL.memD rfl (Own.st (T := 211) (j := 0) (us := [.int .i64 x_5.1.from_, .int .i64 x_5.1.to_, .int .i64 x_5.1.n]) (nw := [.int .i64 x_5.1.from_, .int .i64 x_5.1.to_, .int .i64 x_5.1.n]) (v := .agg #[.int .i64 x_5.1.from_, .int .i64 x_5.1.to_, .int .i64 x_5.1.n]) 0 O11 (by kernel_rfl) rfl rfl rfl rfl (by kernel_rfl) ⟨rfl, rfl, rfl, trivial⟩ rfl rfl) ?_
  rintro c15 l15 O14
  refine va (.bool x_5.2) ?_
  refine wln ?_
  refine sr ?_
  refine va (.bool x_5.2) ?_
  refine wln ?_
  refine W.cond (t := x_5.2) (by kernel_rfl) (fun h16 => ?_) (fun h16 => ?_)
  · have H := it h16 H
    refine W.regionD [] (Kp G0 [⟨.pointer (some ⟨b10, 0, none⟩), 211, [.int .i64 x_5.1.from_, .int .i64 x_5.1.to_, .int .i64 x_5.1.n], 0⟩]) O14 (by kernel_rfl) ?_
    intro c17 l17 O18
    have p19 : Kp G0 [⟨.pointer (some ⟨b10, 0, none⟩), 211, [.int .i64 x_5.1.from_, .int .i64 x_5.1.to_, .int .i64 x_5.1.n], 0⟩] c17 := (Kp.cons (O18.on 0 rfl) Kp.nil0)
    refine AC.takeK 0 (.agg #[.int .i64 x_5.1.from_, .int .i64 x_5.1.to_, .int .i64 x_5.1.n]) p19 rfl (by kernel_rfl) (by kernel_rfl) (by kernel_rfl) (fun c' hle hk => (rx (by kernel_rfl) (ldEN (T := 211) (j := 0) (l := [.int .i64 x_5.1.from_, .int .i64 x_5.1.to_, .int .i64 x_5.1.n]) (by kernel_rfl) (by kernel_rfl) (hk.on 0 rfl) rfl rfl))) ?_
    refine ta 1 (v1) ?_
    refine ta 2 (v1) ?_
    refine ta 3 (.pointer (some ⟨b10, 0, none⟩)) ?_
    refine AC.takeK 4 (.int .i64 x_5.1.from_) p19 rfl (by kernel_rfl) (by kernel_rfl) (by kernel_rfl) (fun c' hle hk => (rx (by kernel_rfl) (ldE1 (j := 0) Tryd.underlying3 rfl (hk.on 0 rfl) rfl rfl))) ?_
    refine ta 5 (.pointer (some ⟨b10, 2, none⟩)) ?_
    refine AC.takeK 6 (.int .i64 x_5.1.n) p19 rfl (by kernel_rfl) (by kernel_rfl) (by kernel_rfl) (fun c' hle hk => (rx (by kernel_rfl) (ldE1 (j := 2) Tryd.underlying3 rfl (hk.on 0 rfl) rfl rfl))) ?_
    refine ta 7 (.int .i64 (w64 (x_5.1.from_ + x_5.1.n))) ?_
    refine ta 8 (.pointer (some ⟨b10, 1, none⟩)) ?_
    refine AC.takeK 9 (.int .i64 x_5.1.to_) p19 rfl (by kernel_rfl) (by kernel_rfl) (by kernel_rfl) (fun c' hle hk => (rx (by kernel_rfl) (ldE1 (j := 1) Tryd.underlying3 rfl (hk.on 0 rfl) rfl rfl))) ?_
    refine ta 11 (v1) ?_
    refine ta 12 (.pointer (some ⟨b10, 2, none⟩)) ?_
    refine AC.takeK 13 (.int .i64 x_5.1.n) p19 rfl (by kernel_rfl) (by kernel_rfl) (by kernel_rfl) (fun c' hle hk => (rx (by kernel_rfl) (ldE1 (j := 2) Tryd.underlying3 rfl (hk.on 0 rfl) rfl rfl))) ?_
    obtain ⟨x_28, h20, H⟩ := bs H
    refine AC.one 10 (by kernel_rfl) (Go1.callP 10 rfl (by kernel_rfl) (by kernel_rfl) (by kernel_rfl) (c_scroll_rows O18 (R0.mono (l8.trans (l12.trans (l15.trans l17)))) p0 (w64 (x_5.1.from_ + x_5.1.n)) x_5.1.to_ (h2.mono (l8.trans (l12.trans (l15.trans l17)))) h20) ?_)
    rintro v21 c28 l28 ⟨_, u22, O25, rfl, h23⟩
    have p30 : Kp G0 [⟨.pointer (some ⟨b10, 0, none⟩), 211, [.int .i64 x_5.1.from_, .int .i64 x_5.1.to_, .int .i64 x_5.1.n], 0⟩] c28 := (Kp.cons (O25.on 1 rfl) Kp.nil0)
    refine ⟨.inr p30, ?_⟩
    obtain ⟨x_29, h31, H⟩ := bs H
    refine AC.one 14 (by kernel_rfl) (Go1.callP 14 rfl (by kernel_rfl) (by kernel_rfl) (by kernel_rfl) (c_scroll_blanks O25 (R0.mono (l8.trans (l12.trans (l15.trans (l17.trans l28))))) p0 x_5.1.n (h2.mono (l8.trans (l12.trans (l15.trans (l17.trans l28))))) h31) ?_)
    rintro v32 c39 l39 ⟨_, u33, G35, O36, R37, a38, rfl, h34⟩
    have p41 : Kp G0 [⟨.pointer (some ⟨b10, 0, none⟩), 211, [.int .i64 x_5.1.from_, .int .i64 x_5.1.to_, .int .i64 x_5.1.n], 0⟩] c39 := (Kp.cons (O36.on 2 rfl) Kp.nil0)
    refine ⟨.inr p41, ?_⟩
    obtain ⟨c44, h45, l44, O42, h43⟩ := O36.frz 0 rfl h34
    have p46 : Kp G0 [⟨.pointer (some ⟨b10, 0, none⟩), 211, [.int .i64 x_5.1.from_, .int .i64 x_5.1.to_, .int .i64 x_5.1.n], 0⟩] c44 := (Kp.cons (O42.on 2 rfl) Kp.nil0)
    refine AC.gh h45 l44 (fun _ => p46) ?_
    obtain ⟨x_30, h47, H⟩ := bs H
    refine AC.one 15 (by kernel_rfl) (Go1.mem 15 rfl (by kernel_rfl) (by kernel_rfl) (Own.app (R := (RP 0)) (z := .pointer none) (by_ := 8) (ty := 168) 1 O42 rfl (h23.mono (l39.trans l44)) h43 h47 Tryd.underlying168 (by kernel_rfl) rfl (by kernel_rfl) (by kernel_rfl)) ?_)
    rintro v52 c51 l51 ⟨u49, O48, h50⟩
    have p53 : Kp G0 [⟨.pointer (some ⟨b10, 0, none⟩), 211, [.int .i64 x_5.1.from_, .int .i64 x_5.1.to_, .int .i64 x_5.1.n], 0⟩] c51 := (Kp.cons (O48.on 2 rfl) Kp.nil0)
    refine ⟨.inr p53, ?_⟩
    obtain ⟨c56, h57, l56, O54, h55⟩ := O48.frz 1 rfl h50
    have p58 : Kp G0 [⟨.pointer (some ⟨b10, 0, none⟩), 211, [.int .i64 x_5.1.from_, .int .i64 x_5.1.to_, .int .i64 x_5.1.n], 0⟩] c56 := (Kp.cons (O54.on 2 rfl) Kp.nil0)
    refine AC.gh h57 l56 (fun _ => p58) ?_
    obtain ⟨x_31, h59, H⟩ := bs H
    refine AC.one 16 (by kernel_rfl) (Go1.callP 16 rfl (by kernel_rfl) (by kernel_rfl) (by kernel_rfl) (c_scroll_stretch_lay O54 (R37.mono (l44.trans (l51.trans l56))) x_5.1 p0 x_30 (h2.mono (l8.trans (l12.trans (l15.trans (l17.trans (l28.trans (l39.trans (l44.trans (l51.trans l56))))))))) h55 h59) ?_)
    rintro v65 c64 l64 ⟨G60, O61, R62, rfl⟩
    have p66 : Kp G0 [⟨.pointer (some ⟨b10, 0, none⟩), 211, [.int .i64 x_5.1.from_, .int .i64 x_5.1.to_, .int .i64 x_5.1.n], 0⟩] c64 := (Kp.cons (O61.on 2 rfl) Kp.nil0)
    refine ⟨.inr p66, ?_⟩
    refine AC.done (by kernel_rfl) ?_
    obtain rfl := Option.some.inj H
    have O67 := O61.selD 3 [] (by kernel_rfl) (by kernel_rfl)
    exact end0 rfl ⟨_, c64, rfl, rfl, (l8.trans (l12.trans (l15.trans (l17.trans (l28.trans (l39.trans (l44.trans (l51.trans (l56.trans l64))))))))), G60, O67, R62, rfl⟩
  · have H := ie h16 H
    refine W.skip ?_
    obtain rfl := Option.some.inj H
    have O68 := O14.selD 1 [] (by kernel_rfl) (by kernel_rfl)
    exact end0 rfl ⟨_, c15, rfl, rfl, (l8.trans (l12.trans l15)), G, O68, (R0.mono (l8.trans (l12.trans l15))), rfl⟩

def f_scroll_Down (sg : Sto) (p0 : Option Nat) (p1 : Int) (p2 : Int) (p3 : Int) : Option (Sto) :=
  (f_scroll_of sg p0 p1 p2 p3).bind fun x_5 =>
  if x_5.2 = true then
  (f_scroll_blanks sg p0 x_5.1.n).bind fun x_28 =>
  (f_scroll_rows x_28.1 p0 x_5.1.from_ (w64 (x_5.1.to_ - x_5.1.n))).bind fun x_29 =>
  (app x_28.2 x_29).bind fun x_30 =>
  (f_scroll_stretch_lay x_28.1 x_5.1 p0 x_30).bind fun x_31 =>
  (f_grid_Grid_Row x_31 p0 (w64 (x_5.1.to_ - 1))).bind fun x_37 =>
  (f_row_Row_GoOn x_31 x_37 false).bind fun x_38 =>
  some x_38
  else
  some sg
theorem c_scroll_Down {c0 : Cx} {G : Gm} {F : List En} {sg : Sto} {v1 : Value} (O0 : Own c0 G F) (R0 : Rel c0 sg G) (p0 : Option Nat) (p1 : Int) (p2 : Int) (p3 : Int) {r : Sto} (h2 : Pt 1 c0 v1 p0) (H : f_scroll_Down sg p0 p1 p2 p3 = some r) :
    Calls Tryd.prog 109 #[v1, .int .i64 p1, .int .i64 p2, .int .i64 p3] c0.w (Post c0 fun c v => ∃ G_ : Gm, Own c G_ (F) ∧ Rel c r G_ ∧ v = .tuple #[]) := by
  unfold f_scroll_Down at H
  refine enter (l := [v1, .int .i64 p1, .int .i64 p2, .int .i64 p3]) Tryd.func109 rfl rfl rfl ?_
  refine sr ?_
  refine va (v1) ?_
  refine va (.int .i64 p1) ?_
  refine va (.int .i64 p2) ?_
  refine va (.int .i64 p3) ?_
  obtain ⟨x_5, h3, H⟩ := bs H
  refine WL.callP rfl (by kernel_rfl) (c_scroll_of O0 R0 p0 p1 p2 p3 h2 h3) ?_
  rintro v9 c8 l8 ⟨O5, rfl⟩
  refine va (.tuple #[.agg #[.int .i64 x_5.1.from_, .int .i64 x_5.1.to_, .int .i64 x_5.1.n], .bool x_5.2]) ?_
  refine va (.agg #[.int .i64 x_5.1.from_, .int .i64 x_5.1.to_, .int .i64 x_5.1.n]) ?_
  refine va (.bool x_5.2) ?_
  refine WL.mem rfl (Own.al (T := 211) (vs := [.int .i64 0, .int .i64 0, .int .i64 0]) O5 (by kernel_rfl)) ?_
  rintro v13 c12 l12 ⟨b10, rfl, O11⟩
  refine WL.memD rfl (Own.st (T := 211) (j := 0) (us := [.int .i64 x_5.1.from_, .int .i64 x_5.1.to_, .int .i64 x_5.1.n]) (nw := [.int .i64 x_5.1.from_, .int .i64 x_5.1.to_, .int .i64 x_5.1.n]) (v := .agg #[.int .i64 x_5.1.from_, .int .i64 x_5.1.to_, .int .i64 x_5.1.n]) 0 O11 (by kernel_rfl) rfl rfl rfl rfl (by kernel_rfl) ⟨rfl, rfl, rfl, trivial⟩ rfl rfl) ?_
  rintro c15 l15 O14
  refine va (.bool x_5.2) ?_
  refine wln ?_
  refine sr ?_
  refine va (.bool x_5.2) ?_
  refine wln ?_
  refine W.cond (t := x_5.2) (by kernel_rfl) (fun h16 => ?_) (fun h16 => ?_)
  · have H := it h16 H
    refine W.seq ?_
    refine W.regionD [] (Kp G0 [⟨.pointer (some ⟨b10, 0, none⟩), 211, [.int .i64 x_5.1.from_, .int .i64 x_5.1.to_, .int .i64 x_5.1.n], 0⟩]) O14 (by kernel_rfl) ?_
    intro c17 l17 O18
    have p19 : Kp G0 [⟨.pointer (some ⟨b10, 0, none⟩), 211, [.int .i64 x_5.1.from_, .int .i64 x_5.1.to_, .int .i64 x_5.1.n], 0⟩] c17 := (Kp.cons (O18.on 0 rfl) Kp.nil0)
    refine AC.takeK 0 (.agg #[.int .i64 x_5.1.from_, .int .i64 x_5.1.to_, .int .i64 x_5.1.n]) p19 rfl (by kernel_rfl) (by kernel_rfl) (by kernel_rfl) (fun c' hle hk => (rx (by kernel_rfl) (ldEN (T := 211) (j := 0) (l := [.int .i64 x_5.1.from_, .int .i64 x_5.1.to_, .int .i64 x_5.1.n]) (by kernel_rfl) (by kernel_rfl) (hk.on 0 rfl) rfl rfl))) ?_
    refine ta 1 (v1) ?_
    refine ta 2 (v1) ?_
    refine ta 3 (.pointer (some ⟨b10, 2, none⟩)) ?_
    refine AC.takeK 4 (.int .i64 x_5.1.n) p19 rfl (by kernel_rfl) (by kernel_rfl) (by kernel_rfl) (fun c' hle hk => (rx (by kernel_rfl) (ldE1 (j := 2) Tryd.underlying3 rfl (hk.on 0 rfl) rfl rfl))) ?_
    refine ta 6 (v1) ?_
    refine ta 7 (.pointer (some ⟨b10, 0, none⟩)) ?_
    refine AC.takeK 8 (.int .i64 x_5.1.from_) p19 rfl (by kernel_rfl) (by kernel_rfl) (by kernel_rfl) (fun c' hle hk => (rx (by kernel_rfl) (ldE1 (j := 0) Tryd.underlying3 rfl (hk.on 0 rfl) rfl rfl))) ?_
    refine ta 9 (.pointer (some ⟨b10, 1, none⟩)) ?_
    refine AC.takeK 10 (.int .i64 x_5.1.to_) p19 rfl (by kernel_rfl) (by kernel_rfl) (by kernel_rfl) (fun c' hle hk => (rx (by kernel_rfl) (ldE1 (j := 1) Tryd.underlying3 rfl (hk.on 0 rfl) rfl rfl))) ?_
    refine ta 11 (.pointer (some ⟨b10, 2, none⟩)) ?_
    refine AC.takeK 12 (.int .i64 x_5.1.n) p19 rfl (by kernel_rfl) (by kernel_rfl) (by kernel_rfl) (fun c' hle hk => (rx (by kernel_rfl) (ldE1 (j := 2) Tryd.underlying3 rfl (hk.on 0 rfl) rfl rfl))) ?_
    refine ta 13 (.int .i64 (w64 (x_5.1.to_ - x_5.1.n))) ?_
    obtain ⟨x_28, h20, H⟩ := bs H
    refine AC.one 5 (by kernel_rfl) (Go1.callP 5 rfl (by kernel_rfl) (by kernel_rfl) (by kernel_rfl) (c_scroll_blanks O18 (R0.mono (l8.trans (l12.trans (l15.trans l17)))) p0 x_5.1.n (h2.mono (l8.trans (l12.trans (l15.trans l17)))) h20) ?_)
    rintro v21 c28 l28 ⟨_, u22, G24, O25, R26, a27, rfl, h23⟩
    have p30 : Kp G0 [⟨.pointer (some ⟨b10, 0, none⟩), 211, [.int .i64 x_5.1.from_, .int .i64 x_5.1.to_, .int .i64 x_5.1.n], 0⟩] c28 := (Kp.cons (O25.on 1 rfl) Kp.nil0)
    refine ⟨.inr p30, ?_⟩
    obtain ⟨x_29, h31, H⟩ := bs H
    refine AC.one 14 (by kernel_rfl) (Go1.callP 14 rfl (by kernel_rfl) (by kernel_rfl) (by kernel_rfl) (c_scroll_rows O25 R26 p0 x_5.1.from_ (w64 (x_5.1.to_ - x_5.1.n)) (h2.mono (l8.trans (l12.trans (l15.trans (l17.trans l28))))) h31) ?_)
    rintro v32 c39 l39 ⟨_, u33, O36, rfl, h34⟩
    have p41 : Kp G0 [⟨.pointer (some ⟨b10, 0, none⟩), 211, [.int .i64 x_5.1.from_, .int .i64 x_5.1.to_, .int .i64 x_5.1.n], 0⟩] c39 := (Kp.cons (O36.on 2 rfl) Kp.nil0)
    refine ⟨.inr p41, ?_⟩
    obtain ⟨c44, h45, l44, O42, h43⟩ := O36.frz 0 rfl h34
    have p46 : Kp G0 [⟨.pointer (some ⟨b10, 0, none⟩), 211, [.int .i64 x_5.1.from_, .int .i64 x_5.1.to_, .int .i64 x_5.1.n], 0⟩] c44 := (Kp.cons (O42.on 2 rfl) Kp.nil0)
    refine AC.gh h45 l44 (fun _ => p46) ?_
    obtain ⟨x_30, h47, H⟩ := bs H
    refine AC.one 15 (by kernel_rfl) (Go1.mem 15 rfl (by kernel_rfl) (by kernel_rfl) (Own.app (R := (RP 0)) (z := .pointer none) (by_ := 8) (ty := 168) 1 O42 rfl (h23.mono (l39.trans l44)) h43 h47 Tryd.underlying168 (by kernel_rfl) rfl (by kernel_rfl) (by kernel_rfl)) ?_)
    rintro v52 c51 l51 ⟨u49, O48, h50⟩
    have p53 : Kp G0 [⟨.pointer (some ⟨b10, 0, none⟩), 211, [.int .i64 x_5.1.from_, .int .i64 x_5.1.to_, .int .i64 x_5.1.n], 0⟩] c51 := (Kp.cons (O48.on 2 rfl) Kp.nil0)
    refine ⟨.inr p53, ?_⟩
    obtain ⟨c56, h57, l56, O54, h55⟩ := O48.frz 1 rfl h50
    have p58 : Kp G0 [⟨.pointer (some ⟨b10, 0, none⟩), 211, [.int .i64 x_5.1.from_, .int .i64 x_5.1.to_, .int .i64 x_5.1.n], 0⟩] c56 := (Kp.cons (O54.on 2 rfl) Kp.nil0)
    refine AC.gh h57 l56 (fun _ => p58) ?_
    obtain ⟨x_31, h59, H⟩ := bs H
    refine AC.one 16 (by kernel_rfl) (Go1.callP 16 rfl (by kernel_rfl) (by kernel_rfl) (by kernel_rfl) (c_scroll_stretch_lay O54 (R26.mono (l39.trans (l44.trans (l51.trans l56)))) x_5.1 p0 x_30 (h2.mono (l8.trans (l12.trans (l15.trans (l17.trans (l28.trans (l39.trans (l44.trans (l51.trans l56))))))))) h55 h59) ?_)
    rintro v65 c64 l64 ⟨G60, O61, R62, rfl⟩
    have p66 : Kp G0 [⟨.pointer (some ⟨b10, 0, none⟩), 211, [.int .i64 x_5.1.from_, .int .i64 x_5.1.to_, .int .i64 x_5.1.n], 0⟩] c64 := (Kp.cons (O61.on 2 rfl) Kp.nil0)
    refine ⟨.inr p66, ?_⟩
    refine AC.done (by kernel_rfl) ?_
    refine nrm ?_
    refine W.region ?_
    refine va (v1) ?_
    refine va (.pointer (some ⟨b10, 1, none⟩)) ?_
    refine WL.val0 (v := .int .i64 x_5.1.to_) rfl (rx (by kernel_rfl) (ldE1 (j := 1) Tryd.underlying3 rfl (O61.on 2 rfl) rfl rfl)) ?_
    refine va (.int .i64 (w64 (x_5.1.to_ - 1))) ?_
    obtain ⟨x_37, h67, H⟩ := bs H
    refine WL.callP rfl (by kernel_rfl) (c_grid_Grid_Row O61 R62 p0 (w64 (x_5.1.to_ - 1)) (h2.mono (l8.trans (l12.trans (l15.trans (l17.trans (l28.trans (l39.trans (l44.trans (l51.trans (l56.trans l64)))))))))) h67) ?_
    rintro v68 c74 l74 ⟨_, O71, rfl, h69⟩
    obtain ⟨x_38, h76, H⟩ := bs H
    refine WL.callP rfl (by kernel_rfl) (c_row_Row_GoOn O71 (R62.mono l74) x_37 false h69 h76) ?_
    rintro v82 c81 l81 ⟨G77, O78, R79, rfl⟩
    refine WL.nil ?_
    obtain rfl := Option.some.inj H
    have O83 := O78.selD 3 [] (by kernel_rfl) (by kernel_rfl)
    exact end0 rfl ⟨_, c81, rfl, rfl, (l8.trans (l12.trans (l15.trans (l17.trans (l28.trans (l39.trans (l44.trans (l51.trans (l56.trans (l64.trans (l74.trans l81))))))))))), G77, O83, R79, rfl⟩
  · have H := ie h16 H
    refine W.skip ?_
    obtain rfl := Option.some.inj H
    have O84 := O14.selD 1 [] (by kernel_rfl) (by kernel_rfl)
    exact end0 rfl ⟨_, c15, rfl, rfl, (l8.trans (l12.trans l15)), G, O84, (R0.mono (l8.trans (l12.trans l15))), rfl⟩

def f_grid_Of (sg : Sto) (p0 : List G_api_Line) : Option (Sto × (Option Nat) × Er) :=
  (orE ((p0.length : Int) == 0) (some (decide ((p0.length : Int) > 1024)))).bind fun d_7 =>
  if d_7 = true then
  some (sg, (none : Option Nat), (Er.sent 0))
  else
  (some (sg.add_grid_Grid (⟨([] : List (Option Nat))⟩ : G_grid_Grid))).bind fun s_18001 =>
  (iter (σ := Int × Sto) (τ := (Sto × (Option Nat) × Er) ⊕ Sto) (((p0.length : Int) - 0).toNat + 1) (fun s_25 =>
  if (decide (s_25.1 < (p0.length : Int))) = true then
  (idx p0 s_25.1).bind fun x_29 =>
  (f_row_Of s_25.2 x_29.Cells).bind fun x_37 =>
  ((andE x_37.2.2.isNil ((idx p0 0).bind fun x_51 =>
  (f_row_Row_Wide x_37.1 x_37.2.1).bind fun x_55 =>
  some (x_55 != (x_51.Cells.length : Int)))).bind fun d_47 =>
  if d_47 = true then
  (some ((Er.sent 0)) : Option (Er))
  else
  (some (x_37.2.2) : Option (Er))).bind fun z_44 =>
  if (!z_44.isNil) = true then
  (f_api_Wrong s_25.1 z_44).bind fun x_66 =>
  some (.inr (.inl (x_37.1, (none : Option Nat), x_66)))
  else
  (f_row_Row_GoOn x_37.1 x_37.2.1 x_29.Wrap).bind fun x_73 =>
  (x_73.grid_Grid[sg.grid_Grid.length]?).bind fun o_79 =>
  (app o_79.rows ([x_37.2.1] : List (Option Nat))).bind fun x_82 =>
  (x_73.set_grid_Grid sg.grid_Grid.length (⟨x_82⟩ : G_grid_Grid)).bind fun s_85001 =>
  some (.inl ((w64 (s_25.1 + 1)), s_85001))
  else
  some (.inr (.inr (s_25.2)))) (0, s_18001)).bind fun o_25 =>
  match o_25 with
  | .inl o_25 =>
  some o_25
  | .inr o_25 =>
  some (o_25, (some sg.grid_Grid.length), Er.nil)
theorem c_grid_Of {c0 : Cx} {G : Gm} {F : List En} {sg : Sto} {v1 : Value} (O0 : Own c0 G F) (R0 : Rel c0 sg G) (hG : Gl [0, 1] c0) (p0 : List G_api_Line) {r : Sto × (Option Nat) × Er} (h2 : Sl R_api_Line c0 v1 p0) (H : f_grid_Of sg p0 = some r) :
    Calls Tryd.prog 36 #[v1] c0.w (Post c0 fun c v => ∃ y1 : Value, ∃ y2 : Value, ∃ G_ : Gm, Own c G_ (F) ∧ Rel c r.1 G_ ∧ v = .tuple #[y1, y2] ∧ Pt 1 c y1 r.2.1 ∧ RE 252 217 c y2 r.2.2) := by
  unfold f_grid_Of at H
  refine enter (l := [v1]) Tryd.func36 rfl rfl rfl ?_
  refine sr ?_
  refine va (.pointer none) ?_
  refine va (.nilIface) ?_
  refine wln ?_
  refine W.seq ?_
  refine W.seq ?_
  obtain ⟨d_7, h3, H⟩ := bs H
  refine W.join (fun e w => ∃ (c : Cx) (g : Nat → Value), w = c.w ∧ c0.le c ∧ Own c G (F) ∧ e = ups g [(0, v1), (16, .bool d_7)]) ?_ ?_
  · clear H
    refine W.region ?_
    refine va (v1) ?_
    refine WL.val0 (v := .int .i64 (p0.length : Int)) rfl (rx (by kernel_rfl) (run_len (ty := 3) Tryd.underlying47 h2 _)) ?_
    refine va (.bool ((p0.length : Int) == 0)) ?_
    rcases Bool.eq_false_or_eq_true ((p0.length : Int) == 0) with h4 | h4
    · skip
      obtain rfl := orT h4 h3
      refine vb h4 ?_
      refine ps ?_
      refine ps ?_
      refine ps ?_
      refine va (.bool true) ?_
      refine wln ?_
      exact ⟨c0, _, rfl, (Cx.le.refl _), O0, ups_self ⟨rfl, rfl, trivial⟩⟩
    · skip
      have H5 := orF h4 h3
      refine vb h4 ?_
      refine wn ?_
      refine va (v1) ?_
      refine wn ?_
      refine WL.val0 (v := .int .i64 (p0.length : Int)) rfl (rx (by kernel_rfl) (run_len (ty := 3) Tryd.underlying47 h2 _)) ?_
      refine wn ?_
      refine va (.bool (decide ((p0.length : Int) > 1024))) ?_
      obtain rfl := Option.some.inj H5
      refine va (.bool (decide ((p0.length : Int) > 1024))) ?_
      refine wln ?_
      exact ⟨c0, _, rfl, (Cx.le.refl _), O0, ups_self ⟨rfl, rfl, trivial⟩⟩
  · skip
    rintro e_ w_ ⟨c6, g7, rfl, l6, O8, rfl⟩
    refine nrm ?_
    refine W.cond (t := d_7) (by kernel_rfl) (fun h12 => ?_) (fun h12 => ?_)
    · have H := it h12 H
      refine W.seq ?_
      refine W.regionD [] (Kp G0 []) O8 (by kernel_rfl) ?_
      intro c13 l13 O14
      have p15 : Kp G0 [] c13 := Kp.nil0
      obtain ⟨v16, h17⟩ := (hG.mono (l6.trans l13)).get 0 (by decide)
      refine AC.take 0 (v16) rfl (by kernel_rfl) (by kernel_rfl) (fun c' hle => (rx (by kernel_rfl) (run_load1 Tryd.underlying30 rfl (h17.mono hle).im))) ?_
      refine ta 1 (.pointer none) ?_
      refine ta 2 (v16) ?_
      refine AC.done (by kernel_rfl) ?_
      refine nrm ?_
      refine W.ret ?_
      refine thr ?_
      obtain rfl := Option.some.inj H
      exact ret2 (v := .pointer none) (v' := v16) rfl (by kernel_rfl) (by kernel_rfl) ⟨_, c13, rfl, rfl, (l6.trans l13), (.pointer none), v16, G, O14, (R0.mono (l6.trans l13)), rfl, rfl, h17⟩
    · have H := ie h12 H
      refine W.skip ?_
      refine nrm ?_
      refine sr ?_
      refine va (.agg #[.slice none 0 0]) ?_
      have h19 : OA (RP 0) c6 (.slice none 0 0) [] [] := OA.nil (Nat.succ_pos _)
      have O18 := O8.addHole (e := es true (RP 0) (.slice none 0 0) 28 [] ([] : List (Option Nat))) rfl
      refine WL.mem rfl (Own.al (T := 170) (vs := [(.slice none 0 0)]) O18 (by kernel_rfl)) ?_
      rintro v23 c22 l22 ⟨b20, rfl, O21⟩
      have O24 := O21.selD 2 [0, 1] (by kernel_rfl) (by kernel_rfl)
      obtain ⟨s_18001, h25, H⟩ := bs H
      obtain ⟨c26, G34, h27, l26, h28, O29, R30, h31, h32, a33⟩ := Rel.new_grid_Grid (E := [⟨.pointer (some ⟨b20, 0, none⟩), 170, [(.slice none 0 0)], 0⟩, es true (RP 0) (.slice none 0 0) 28 [] ([] : List (Option Nat))]) (F := F) (x := (⟨([] : List (Option Nat))⟩ : G_grid_Grid)) (b := b20) O24 (R0.mono (l6.trans l22)) (fun c_ hle_ => ⟨b20, (.slice none 0 0), [], rfl, rfl, ((h19.mono l22).mono hle_)⟩)
      rw [Option.some.inj h25] at R30
      refine WL.gh h27.1 ?_
      have h36 : Pt 1 c26 (.pointer (some ⟨b20, 0, none⟩)) (some sg.grid_Grid.length) := ⟨b20, rfl, h28⟩
      refine va (.pointer (some ⟨b20, 0, none⟩)) ?_
      refine wln ?_
      refine W.seq ?_
      refine sr ?_
      refine va (v1) ?_
      refine WL.val0 (v := .int .i64 (p0.length : Int)) rfl (rx (by kernel_rfl) (run_len (ty := 3) Tryd.underlying47 (h2.mono (l6.trans (l22.trans l26))) _)) ?_
      refine va (.int .i64 0) ?_
      refine wln ?_
      refine W.block ?_
      obtain ⟨o_25, h37, H38⟩ := bs H
      refine W.loop (σ := Int × Sto) (τ := (Sto × (Option Nat) × Er) ⊕ Sto) (fun s_25 => fun e w => ∃ (c : Cx) (g : Nat → Value) (G_ : Gm), w = c.w ∧ c26.le c ∧ Own c G_ (F) ∧ e = ups g [(0, v1), (4, .pointer (some ⟨b20, 0, none⟩)), (20, v1), (21, .int .i64 (p0.length : Int)), (22, .int .i64 s_25.1)] ∧ Rel c s_25.2 G_) (fun t => match t with | .inl x_ => (fun rr_ ex e w => ex = .ret ∧ (fun e w => ∃ (c : Cx) (g : Nat → Value) (v39 : Value) (v40 : Value) (G_ : Gm), w = c.w ∧ c26.le c ∧ Own c G_ (F) ∧ e = ups g [(2, v39), (3, v40)] ∧ Rel c rr_.1 G_ ∧ Pt 1 c v39 rr_.2.1 ∧ RE 252 217 c v40 rr_.2.2) e w) x_ | .inr x_ => (fun o_25_ ex e w => ex = .exit 0 ∧ (fun e w => ∃ (c : Cx) (g : Nat → Value) (G_ : Gm), w = c.w ∧ c26.le c ∧ Own c G_ (F) ∧ e = ups g [(4, .pointer (some ⟨b20, 0, none⟩))] ∧ Rel c o_25_ G_) e w) x_) ?_ h37 ?_ ?_
      · clear H38 h37
        intro s_25 xx_ ee_ ww_ H
        revert ee_ ww_
        rintro e_ w_ ⟨c41, g42, G44, rfl, l41, O43, rfl, R45⟩
        refine sr ?_
        refine va (.bool (decide (s_25.1 < (p0.length : Int)))) ?_
        refine wln ?_
        refine W.seq ?_
        refine W.cond (t := decide (s_25.1 < (p0.length : Int))) (by kernel_rfl) (fun h47 => ?_) (fun h47 => ?_)
        · have H := it h47 H
          refine W.skip ?_
          refine nrm ?_
          refine W.seq ?_
          refine W.block ?_
          refine sr ?_
          refine va (.int .i64 s_25.1) ?_
          obtain ⟨x_29, h48, H⟩ := bs H
          obtain ⟨l_49, h50, m51⟩ := Sl.at (h2.mono (l6.trans (l22.trans (l26.trans l41)))) (idx_get h48)
          obtain ⟨v52, rfl, h53⟩ := h50
          refine WL.val0 (v := .pointer (some ⟨sb v1, so v1 + s_25.1.toNat * 2, none⟩)) rfl (rx (by kernel_rfl) (run_index (k := .i64) Tryd.underlying47 (by kernel_rfl) (h2.mono (l6.trans (l22.trans (l26.trans l41)))) h48 _)) ?_
          refine WL.val0 (v := .agg #[v52, .bool x_29.Wrap]) rfl (rx (by kernel_rfl) (run_loadN (T := 62) (by kernel_rfl) (by kernel_rfl) m51)) ?_
          refine WL.mem rfl (Own.al (T := 62) (vs := [.slice none 0 0, .bool false]) O43 (by kernel_rfl)) ?_
          rintro v57 c56 l56 ⟨b54, rfl, O55⟩
          refine va (.int .i64 s_25.1) ?_
          obtain ⟨a58, a59, a60, rfl⟩ := ((h53.mono l56)).form
          refine WL.memD rfl (Own.st (T := 62) (j := 0) (us := [.slice a58 a59 a60, .bool x_29.Wrap]) (nw := [.slice a58 a59 a60, .bool x_29.Wrap]) (v := .agg #[.slice a58 a59 a60, .bool x_29.Wrap]) 0 O55 (by kernel_rfl) rfl rfl rfl rfl (by kernel_rfl) ⟨(h53.mono l56).one, rfl, trivial⟩ rfl rfl) ?_
          rintro c62 l62 O61
          refine wln ?_
          refine sr ?_
          refine va (.pointer (some ⟨b54, 0, none⟩)) ?_
          refine WL.val0 (v := .slice a58 a59 a60) rfl (rx (by kernel_rfl) (ldE1 (j := 0) Tryd.underlying22 rfl (O61.on 0 rfl) rfl rfl)) ?_
          obtain ⟨x_37, h63, H⟩ := bs H
          refine WL.callP rfl (by kernel_rfl) (c_row_Of O61 (R45.mono (l56.trans l62)) ((hG.mono (l6.trans (l22.trans (l26.trans (l41.trans (l56.trans l62)))))).le (by decide)) x_29.Cells (h53.mono (l56.trans l62)) h63) ?_
          rintro v73 c72 l72 ⟨v64, v66, G68, O69, R70, rfl, h65, h67⟩
          refine va (.tuple #[v64, v66]) ?_
          refine va (v64) ?_
          refine va (v66) ?_
          refine va (v64) ?_
          refine va (v66) ?_
          refine wln ?_
          obtain ⟨z_44, H74, H75⟩ := bs H
          refine W.seqJ (fun e w => ∃ (c : Cx) (g : Nat → Value) (v76 : Value), w = c.w ∧ c72.le c ∧ Own c G68 (⟨.pointer (some ⟨b54, 0, none⟩), 62, [.slice a58 a59 a60, .bool x_29.Wrap], 0⟩ :: F) ∧ e = ups g [(0, v1), (4, .pointer (some ⟨b20, 0, none⟩)), (5, .int .i64 s_25.1), (6, .pointer (some ⟨b54, 0, none⟩)), (7, v64), (8, v76), (20, v1), (21, .int .i64 (p0.length : Int)), (22, .int .i64 s_25.1)] ∧ RE 252 217 c v76 z_44) ?_ ?_
          · skip
            refine W.seq ?_
            obtain ⟨d_47, h77, H74⟩ := bs H74
            refine W.join (fun e w => ∃ (c : Cx) (g : Nat → Value), w = c.w ∧ c72.le c ∧ Own c G68 (⟨.pointer (some ⟨b54, 0, none⟩), 62, [.slice a58 a59 a60, .bool x_29.Wrap], 0⟩ :: F) ∧ e = ups g [(0, v1), (4, .pointer (some ⟨b20, 0, none⟩)), (5, .int .i64 s_25.1), (6, .pointer (some ⟨b54, 0, none⟩)), (7, v64), (8, v66), (20, v1), (21, .int .i64 (p0.length : Int)), (22, .int .i64 s_25.1), (44, .bool d_47)]) ?_ ?_
            · clear H74
              refine W.regionD [] (Kp G0 []) O69 (by kernel_rfl) ?_
              intro c78 l78 O79
              have p80 : Kp G0 [] c78 := Kp.nil0
              refine ta 0 (v66) ?_
              refine AC.take 1 (.bool x_37.2.2.isNil) rfl (by kernel_rfl) (by kernel_rfl) (fun c' hle => (by rcases ((h67.mono l78)).cs with ⟨h1_, h2_⟩ | ⟨b_, h1_, h2_⟩ | ⟨b_, h1_, h2_⟩ <;> (subst h1_; rw [h2_]; kernel_rfl))) ?_
              rcases Bool.eq_false_or_eq_true (x_37.2.2.isNil) with h81 | h81
              · skip
                have H82 := anT h81 h77
                refine AC.takeb 2 h81 rfl (by kernel_rfl) (by kernel_rfl) (fun c' hle => (by kernel_rfl)) ?_
                refine ta 3 (v64) ?_
                refine ta 5 (v1) ?_
                obtain ⟨x_51, h83, H82⟩ := bs H82
                obtain ⟨l_84, h85, m86⟩ := Sl.at (h2.mono (l6.trans (l22.trans (l26.trans (l41.trans (l56.trans (l62.trans (l72.trans l78)))))))) (idx_get h83)
                obtain ⟨v87, rfl, h88⟩ := h85
                refine AC.take 6 (.pointer (some ⟨sb v1, so v1 + (0 : Int).toNat * 2, none⟩)) rfl (by kernel_rfl) (by kernel_rfl) (fun c' hle => (rx (by kernel_rfl) (run_index (k := .i64) Tryd.underlying47 (by kernel_rfl) (h2.mono (l6.trans (l22.trans (l26.trans (l41.trans (l56.trans (l62.trans (l72.trans l78)))))))) h83 _))) ?_
                refine ta 7 (.pointer (some ⟨sb v1, so v1 + (0 : Int).toNat * 2, none⟩)) ?_
                refine AC.take 8 (v87) rfl (by kernel_rfl) (by kernel_rfl) (fun c' hle => (rx (by kernel_rfl) (run_load1 Tryd.underlying22 rfl ((fun j u hu => (m86 j u hu).mono hle) 0 _ rfl)))) ?_
                refine AC.take 9 (.int .i64 (x_51.Cells.length : Int)) rfl (by kernel_rfl) (by kernel_rfl) (fun c' hle => (rx (by kernel_rfl) (run_len (ty := 3) Tryd.underlying22 h88 _))) ?_
                obtain ⟨x_55, h89, H82⟩ := bs H82
                refine AC.one 4 (by kernel_rfl) (Go1.callP 4 rfl (by kernel_rfl) (by kernel_rfl) (by kernel_rfl) (c_row_Row_Wide O79 (R70.mono l78) x_37.2.1 (h65.mono l78) h89) ?_)
                rintro v95 c94 l94 ⟨O91, rfl⟩
                have p96 : Kp G0 [] c94 := Kp.nil0
                refine ⟨.inr p96, ?_⟩
                refine ta 10 (.bool (x_55 != (x_51.Cells.length : Int))) ?_
                obtain rfl := Option.some.inj H82
                refine ta 11 (.bool (x_55 != (x_51.Cells.length : Int))) ?_
                refine AC.done (by kernel_rfl) ?_
                refine nrm ?_
                exact ⟨c94, _, rfl, (l78.trans l94), O91, ups_self ⟨rfl, rfl, rfl, rfl, rfl, rfl, rfl, rfl, rfl, rfl, trivial⟩⟩
              · skip
                obtain rfl := anF h81 h77
                refine AC.takeb 2 h81 rfl (by kernel_rfl) (by kernel_rfl) (fun c' hle => (by kernel_rfl)) ?_
                refine AC.pass 3 rfl (by kernel_rfl) (by kernel_rfl) ?_
                refine AC.pass 5 rfl (by kernel_rfl) (by kernel_rfl) ?_
                refine AC.pass 6 rfl (by kernel_rfl) (by kernel_rfl) ?_
                refine AC.pass 7 rfl (by kernel_rfl) (by kernel_rfl) ?_
                refine AC.pass 8 rfl (by kernel_rfl) (by kernel_rfl) ?_
                refine AC.pass 9 rfl (by kernel_rfl) (by kernel_rfl) ?_
                refine AC.pass 4 rfl (by kernel_rfl) (by kernel_rfl) ?_
                refine AC.pass 10 rfl (by kernel_rfl) (by kernel_rfl) ?_
                refine ta 11 (.bool false) ?_
                refine AC.done (by kernel_rfl) ?_
                refine nrm ?_
                exact ⟨c78, _, rfl, l78, O79, ups_self ⟨rfl, rfl, rfl, rfl, rfl, rfl, rfl, rfl, rfl, rfl, trivial⟩⟩
            · skip
              rintro e_ w_ ⟨c97, g98, rfl, l97, O99, rfl⟩
              refine nrm ?_
              refine W.cond (t := d_47) (by kernel_rfl) (fun h103 => ?_) (fun h103 => ?_)
              · have H74 := it h103 H74
                refine W.region ?_
                obtain ⟨v104, h105⟩ := (hG.mono (l6.trans (l22.trans (l26.trans (l41.trans (l56.trans (l62.trans (l72.trans l97)))))))).get 0 (by decide)
                refine WL.val0 (v := v104) rfl (rx (by kernel_rfl) (run_load1 Tryd.underlying30 rfl h105.im)) ?_
                refine va (v104) ?_
                refine wln ?_
                obtain rfl := Option.some.inj H74
                exact ⟨c97, _, v104, rfl, l97, O99, ups_self ⟨rfl, rfl, rfl, rfl, rfl, rfl, rfl, rfl, rfl, trivial⟩, h105⟩
              · have H74 := ie h103 H74
                refine W.skip ?_
                refine nrm ?_
                obtain rfl := Option.some.inj H74
                exact ⟨c97, _, v66, rfl, l97, O99, ups_self ⟨rfl, rfl, rfl, rfl, rfl, rfl, rfl, rfl, rfl, trivial⟩, (h67.mono l97)⟩
          · skip
            rintro e_ w_ ⟨c106, g107, v76, rfl, l106, O108, rfl, h109⟩
            refine W.seq ?_
            refine sr ?_
            refine va (v76) ?_
            refine WL.val0 (v := .bool (!z_44.isNil)) rfl (by rcases (h109).cs with ⟨h1_, h2_⟩ | ⟨b_, h1_, h2_⟩ | ⟨b_, h1_, h2_⟩ <;> (subst h1_; rw [h2_]; kernel_rfl)) ?_
            refine wln ?_
            refine W.cond (t := !z_44.isNil) (by kernel_rfl) (fun h113 => ?_) (fun h113 => ?_)
            · have H75 := it h113 H75
              refine sr ?_
              refine va (.int .i64 s_25.1) ?_
              refine va (v76) ?_
              obtain ⟨x_66, h114, H75⟩ := bs H75
              refine WL.callP rfl (by kernel_rfl) (c_api_Wrong O108 s_25.1 z_44 h109 h114) ?_
              rintro v115 c121 l121 ⟨_, O118, rfl, h116⟩
              refine va (.pointer none) ?_
              refine va (v115) ?_
              refine wln ?_
              refine W.ret ?_
              refine thr ?_
              refine bkr ?_
              refine thr ?_
              obtain rfl := Option.some.inj H75
              refine ⟨_, rfl, ?_⟩
              refine ⟨rfl, ?_⟩
              have O123 := O118.selD 1 [] (by kernel_rfl) (by kernel_rfl)
              exact ⟨c121, _, (.pointer none), v115, G68, rfl, (l41.trans (l56.trans (l62.trans (l72.trans (l106.trans l121))))), O123, ups_self ⟨rfl, rfl, trivial⟩, (R70.mono (l106.trans l121)), rfl, h116⟩
            · have H75 := ie h113 H75
              refine W.skip ?_
              refine nrm ?_
              refine sr ?_
              refine va (v64) ?_
              refine va (.pointer (some ⟨b54, 1, none⟩)) ?_
              refine WL.val0 (v := .bool x_29.Wrap) rfl (rx (by kernel_rfl) (ldE1 (j := 1) Tryd.underlying4 rfl (O108.on 0 rfl) rfl rfl)) ?_
              obtain ⟨x_73, h124, H75⟩ := bs H75
              refine WL.callP rfl (by kernel_rfl) (c_row_Row_GoOn O108 (R70.mono l106) x_37.2.1 x_29.Wrap (h65.mono l106) h124) ?_
              rintro v130 c129 l129 ⟨G125, O126, R127, rfl⟩
              refine wln ?_
              refine W.region ?_
              refine va (.pointer (some ⟨b20, 0, none⟩)) ?_
              refine va (.pointer (some ⟨b20, 0, none⟩)) ?_
              refine va (.pointer (some ⟨b20, 0, none⟩)) ?_
              refine va (.pointer (some ⟨b20, 0, none⟩)) ?_
              obtain ⟨o_79, h131, H75⟩ := bs H75
              obtain ⟨v132, u133, h135, h134⟩ := Rel.open_grid_Grid R127 h131 ((l41.trans (l56.trans (l62.trans (l72.trans (l106.trans l129))))).t _ _ _ h28)
              refine WL.val0 (v := v132) rfl (rx (by kernel_rfl) (ldE1 (j := 0) Tryd.underlying168 rfl (O126.gon h135 0 rfl) rfl rfl)) ?_
              refine va (v64) ?_
              obtain ⟨a136, rfl⟩ := ((h65.mono (l106.trans l129))).form
              refine WL.mem rfl (Own.sl (R := (RP 0)) (E := 28) (ls := [[.pointer a136]]) (vs := [.pointer a136]) (xs := ([x_37.2.1] : List (Option Nat))) true O126 (Nat.succ_pos _) rfl ⟨⟨(.pointer a136), rfl, (h65.mono (l106.trans l129))⟩, trivial⟩ (by kernel_rfl) (by kernel_rfl)) ?_
              rintro v141 c140 l140 ⟨u138, O137, h139⟩
              obtain ⟨c144, h145, l144, O142, h143⟩ := O137.frz 0 rfl h139
              refine WL.gh h145 ?_
              obtain ⟨x_82, h146, H75⟩ := bs H75
              have O147 := O142.borrow 1 h135 rfl
              refine WL.mem rfl (Own.app (R := (RP 0)) (z := .pointer none) (by_ := 8) (ty := 168) 0 O147 rfl (h134.mono (l140.trans l144)) h143 h146 Tryd.underlying168 (by kernel_rfl) rfl (by kernel_rfl) (by kernel_rfl)) ?_
              rintro v152 c151 l151 ⟨u149, O148, h150⟩
              have O153 := O148.giveB 1 rfl
              refine va (.pointer (some ⟨b20, 0, none⟩)) ?_
              refine va (.pointer (some ⟨b20, 0, none⟩)) ?_
              obtain ⟨a154, a155, a156, rfl⟩ := (h150).form
              refine WL.memD rfl (Own.stGB (T := 168) (j := 0) (us := [.slice a154 a155 a156]) (nw := [.slice a154 a155 a156]) (v := .slice a154 a155 a156) 0 O153 (by kernel_rfl) rfl rfl rfl rfl (by kernel_rfl) ⟨(h150).one, trivial⟩ (by kernel_rfl) rfl) ?_
              rintro c159 l159 O158
              obtain ⟨s_85001, h164, H75⟩ := bs H75
              obtain ⟨G160, O161, R162, h163, a165⟩ := Rel.put_grid_Grid O158 (R127.mono (l140.trans (l144.trans (l151.trans l159)))) (E' := [⟨.pointer (some ⟨b20, 0, none⟩), 170, [.slice a154 a155 a156], 0⟩, es true (RP 0) (.slice a154 a155 a156) 28 u149 x_82]) h164 ⟨b20, (.slice a154 a155 a156), u149, ((l41.trans (l56.trans (l62.trans (l72.trans (l106.trans (l129.trans (l140.trans (l144.trans (l151.trans l159))))))))).t _ _ _ h28), rfl, (h150.mono l159)⟩
              refine WL.nil ?_
              refine bkn ?_
              refine nrm ?_
              refine W.region ?_
              refine va (.int .i64 (w64 (s_25.1 + 1))) ?_
              refine va (.int .i64 (w64 (s_25.1 + 1))) ?_
              refine WL.nil ?_
              obtain rfl := Option.some.inj H75
              refine ⟨_, rfl, ?_⟩
              have O166 := O161.selD 2 [] (by kernel_rfl) (by kernel_rfl)
              exact ⟨c159, _, G160, rfl, (l41.trans (l56.trans (l62.trans (l72.trans (l106.trans (l129.trans (l140.trans (l144.trans (l151.trans l159))))))))), O166, ups_self ⟨rfl, rfl, rfl, rfl, rfl, trivial⟩, R162⟩
        · have H := ie h47 H
          refine W.exit ?_
          refine thx ?_
          obtain rfl := Option.some.inj H
          refine ⟨_, rfl, rfl, ?_⟩
          exact ⟨c41, _, G44, rfl, l41, O43, ups_self ⟨rfl, trivial⟩, R45⟩
      · skip
        exact ⟨c26, _, G34, rfl, (Cx.le.refl _), O29, ups_self ⟨rfl, rfl, rfl, rfl, rfl, trivial⟩, R30⟩
      · skip
        rcases o_25 with o_25 | o_25
        · skip
          intro ex_; revert ex_
          rintro _ e_ w_ ⟨rfl, c167, g168, v39, v40, G172, rfl, l167, O169, rfl, R173, h170, h171⟩
          refine bkr ?_
          refine thr ?_
          obtain rfl := Option.some.inj H38
          exact ret2 (v := v39) (v' := v40) rfl (by kernel_rfl) (by kernel_rfl) ⟨_, c167, rfl, rfl, (l6.trans (l22.trans (l26.trans l167))), v39, v40, G172, O169, R173, rfl, h170, h171⟩
        · skip
          rintro _ e_ w_ ⟨rfl, c175, g176, G178, rfl, l175, O177, rfl, R179⟩
          refine bke ?_
          refine nrm ?_
          refine sr ?_
          refine va (.pointer (some ⟨b20, 0, none⟩)) ?_
          refine va (.pointer (some ⟨b20, 0, none⟩)) ?_
          refine va (.nilIface) ?_
          refine wln ?_
          refine W.ret ?_
          obtain rfl := Option.some.inj H38
          exact ret2 (v := .pointer (some ⟨b20, 0, none⟩)) (v' := .nilIface) rfl (by kernel_rfl) (by kernel_rfl) ⟨_, c175, rfl, rfl, (l6.trans (l22.trans (l26.trans l175))), (.pointer (some ⟨b20, 0, none⟩)), .nilIface, G178, O177, R179, rfl, (h36.mono l175), rfl⟩

def f_grid_Grid_Lines (sg : Sto) (p0 : Option Nat) : Option (List G_api_Line) :=
  (f_grid_Grid_High sg p0).bind fun x_6 =>
  (iter (σ := (List G_api_Line) × Int) (τ := (List G_api_Line)) ((x_6 - 0).toNat + 1) (fun s_9 =>
  if (decide (s_9.2 < x_6)) = true then
  (p0).bind fun k_17 =>
  (sg.grid_Grid[k_17]?).bind fun o_19 =>
  (idx o_19.rows s_9.2).bind fun x_21 =>
  (idx o_19.rows s_9.2).bind fun x_28 =>
  (f_row_Row_Cells sg x_21).bind fun x_30 =>
  (f_row_Row_Wrap sg x_28).bind fun x_31 =>
  (app s_9.1 ([(⟨x_30, x_31⟩ : G_api_Line)] : List G_api_Line)).bind fun x_34 =>
  some (.inl (x_34, (w64 (s_9.2 + 1))))
  else
  some (.inr (s_9.1))) (([] : List G_api_Line), 0)).bind fun o_9 =>
  some o_9
theorem c_grid_Grid_Lines {c0 : Cx} {G : Gm} {F : List En} {sg : Sto} {v1 : Value} (O0 : Own c0 G F) (R0 : Rel c0 sg G) (p0 : Option Nat) {r : List G_api_Line} (h2 : Pt 1 c0 v1 p0) (H : f_grid_Grid_Lines sg p0 = some r) :
    Calls Tryd.prog 40 #[v1] c0.w (Post c0 fun c v => ∃ y1 : Value, ∃ y2 : List Value, Own c G (es true R_api_Line y1 62 y2 r :: F) ∧ v = y1 ∧ OA R_api_Line c y1 y2 r) := by
  unfold f_grid_Grid_Lines at H
  refine enter (l := [v1]) Tryd.func40 rfl rfl rfl ?_
  refine sr ?_
  refine va (.slice none 0 0) ?_
  refine wln ?_
  refine sr ?_
  refine va (.slice none 0 0) ?_
  refine wln ?_
  refine W.seq ?_
  refine sr ?_
  refine va (v1) ?_
  obtain ⟨x_6, h3, H⟩ := bs H
  refine WL.callP rfl (by kernel_rfl) (c_grid_Grid_High O0 R0 p0 h2 h3) ?_
  rintro v9 c8 l8 ⟨O5, rfl⟩
  refine va (.int .i64 0) ?_
  refine wln ?_
  refine W.block ?_
  obtain ⟨o_9, h10, H11⟩ := bs H
  refine W.loop (σ := (List G_api_Line) × Int) (τ := (List G_api_Line)) (fun s_9 => fun e w => ∃ (c : Cx) (g : Nat → Value) (v12 : Value) (u13 : List Value), w = c.w ∧ c8.le c ∧ Own c G (es true R_api_Line v12 62 u13 s_9.1 :: F) ∧ e = ups g [(0, v1), (3, v12), (6, .int .i64 x_6), (7, .int .i64 s_9.2)] ∧ OA R_api_Line c v12 u13 s_9.1) (fun o_9_ ex e w => ex = .exit 0 ∧ (fun e w => ∃ (c : Cx) (g : Nat → Value) (v14 : Value) (u15 : List Value), w = c.w ∧ c8.le c ∧ Own c G (es true R_api_Line v14 62 u15 o_9_ :: F) ∧ e = ups g [(3, v14)] ∧ OA R_api_Line c v14 u15 o_9_) e w) ?_ h10 ?_ ?_
  · clear H11 h10
    intro s_9 xx_ ee_ ww_ H
    revert ee_ ww_
    rintro e_ w_ ⟨c16, g17, v12, u13, rfl, l16, O18, rfl, h19⟩
    refine sr ?_
    refine va (.bool (decide (s_9.2 < x_6))) ?_
    refine wln ?_
    refine W.seq ?_
    refine W.cond (t := decide (s_9.2 < x_6)) (by kernel_rfl) (fun h23 => ?_) (fun h23 => ?_)
    · have H := it h23 H
      refine W.skip ?_
      refine nrm ?_
      refine W.seq ?_
      refine W.block ?_
      refine sr ?_
      refine va (.int .i64 s_9.2) ?_
      refine va (.int .i64 s_9.2) ?_
      refine wln ?_
      refine W.regionD [] (Kp G []) O18 (by kernel_rfl) ?_
      intro c24 l24 O25
      have p26 : Kp G [] c24 := (Kp.nil O25)
      refine ta 0 (v12) ?_
      refine ta 1 (v1) ?_
      obtain ⟨k_17, h29, H⟩ := bs H
      obtain ⟨b27, rfl, h28⟩ := ((h2.mono (l8.trans (l16.trans l24)))).get h29
      refine ta 2 (.pointer (some ⟨b27, 0, none⟩)) ?_
      refine ta 3 (.pointer (some ⟨b27, 0, none⟩)) ?_
      obtain ⟨o_19, h30, H⟩ := bs H
      obtain ⟨v31, u32, h34, h33⟩ := Rel.open_grid_Grid (R0.mono (l8.trans (l16.trans l24))) h30 h28
      refine AC.takeK 4 (v31) p26 rfl (by kernel_rfl) (by kernel_rfl) (by kernel_rfl) (fun c' hle hk => (rx (by kernel_rfl) (ldE1 (j := 0) Tryd.underlying168 rfl (hk.gon h34 0 rfl) rfl rfl))) ?_
      refine ta 5 (.int .i64 s_9.2) ?_
      obtain ⟨x_21, h35, H⟩ := bs H
      refine AC.take 6 (.pointer (some ⟨sb v31, s_9.2.toNat * 1, none⟩)) rfl (by kernel_rfl) (by kernel_rfl) (fun c' hle => (rx (by kernel_rfl) (run_indexO (k := .i64) Tryd.underlying168 (by kernel_rfl) h33 h35 _))) ?_
      obtain ⟨l_36, h37, m38⟩ := OA.at h33 h35
      obtain ⟨v39, rfl, h40⟩ := h37
      refine AC.takeK 7 (v39) p26 rfl (by kernel_rfl) (by kernel_rfl) (by kernel_rfl) (fun c' hle hk => (rx (by kernel_rfl) (ldE1 Tryd.underlying28 rfl (hk.gon h34 1 rfl) (h33.blk h35) (at1 (j := 0) m38 rfl)))) ?_
      refine ta 9 (.pointer (some ⟨b27, 0, none⟩)) ?_
      refine ta 10 (.pointer (some ⟨b27, 0, none⟩)) ?_
      refine ta 11 (.pointer (some ⟨b27, 0, none⟩)) ?_
      refine AC.takeK 12 (v31) p26 rfl (by kernel_rfl) (by kernel_rfl) (by kernel_rfl) (fun c' hle hk => (rx (by kernel_rfl) (ldE1 (j := 0) Tryd.underlying168 rfl (hk.gon h34 0 rfl) rfl rfl))) ?_
      refine ta 13 (.int .i64 s_9.2) ?_
      obtain ⟨x_28, h41, H⟩ := bs H
      refine AC.take 14 (.pointer (some ⟨sb v31, s_9.2.toNat * 1, none⟩)) rfl (by kernel_rfl) (by kernel_rfl) (fun c' hle => (rx (by kernel_rfl) (run_indexO (k := .i64) Tryd.underlying168 (by kernel_rfl) h33 h41 _))) ?_
      obtain ⟨l_42, h43, m44⟩ := OA.at h33 h41
      obtain ⟨v45, rfl, h46⟩ := h43
      refine AC.takeK 15 (v45) p26 rfl (by kernel_rfl) (by kernel_rfl) (by kernel_rfl) (fun c' hle hk => (rx (by kernel_rfl) (ldE1 Tryd.underlying28 rfl (hk.gon h34 1 rfl) (h33.blk h41) (at1 (j := 0) m44 rfl)))) ?_
      obtain ⟨x_30, h47, H⟩ := bs H
      refine AC.one 8 (by kernel_rfl) (Go1.callP 8 rfl (by kernel_rfl) (by kernel_rfl) (by kernel_rfl) (c_row_Row_Cells O25 (R0.mono (l8.trans (l16.trans l24))) x_21 h40 h47) ?_)
      rintro v48 c55 l55 ⟨_, u49, O52, rfl, h50⟩
      have p57 : Kp G [] c55 := (Kp.nil O52)
      refine ⟨.inr p57, ?_⟩
      obtain ⟨x_31, h58, H⟩ := bs H
      refine AC.one 16 (by kernel_rfl) (Go1.callP 16 rfl (by kernel_rfl) (by kernel_rfl) (by kernel_rfl) (c_row_Row_Wrap O52 (R0.mono (l8.trans (l16.trans (l24.trans l55)))) x_28 (h46.mono l55) h58) ?_)
      rintro v64 c63 l63 ⟨O60, rfl⟩
      have p65 : Kp G [] c63 := (Kp.nil O60)
      refine ⟨.inr p65, ?_⟩
      obtain ⟨a66, a67, a68, rfl⟩ := ((h50.mono l63)).form
      refine ta 17 (.agg #[.slice a66 a67 a68, .bool x_31]) ?_
      obtain ⟨c71, h72, l71, O69, h70⟩ := O60.frz 0 rfl (h50.mono l63)
      have p73 : Kp G [] c71 := (Kp.nil O69)
      refine AC.gh h72 l71 (fun _ => p73) ?_
      refine AC.one 18 (by kernel_rfl) (Go1.mem 18 rfl (by kernel_rfl) (by kernel_rfl) (Own.sl (R := R_api_Line) (E := 62) (ls := [[.slice a66 a67 a68, .bool x_31]]) (vs := [.slice a66 a67 a68, .bool x_31]) (xs := ([(⟨x_30, x_31⟩ : G_api_Line)] : List G_api_Line)) true O69 (Nat.succ_pos _) rfl ⟨⟨(.slice a66 a67 a68), rfl, h70⟩, trivial⟩ (by kernel_rfl) (by kernel_rfl)) ?_)
      rintro v78 c77 l77 ⟨u75, O74, h76⟩
      have p79 : Kp G [] c77 := (Kp.nil O74)
      refine ⟨.inr p79, ?_⟩
      obtain ⟨c82, h83, l82, O80, h81⟩ := O74.frz 0 rfl h76
      have p84 : Kp G [] c82 := (Kp.nil O80)
      refine AC.gh h83 l82 (fun _ => p84) ?_
      obtain ⟨x_34, h85, H⟩ := bs H
      refine AC.one 19 (by kernel_rfl) (Go1.mem 19 rfl (by kernel_rfl) (by kernel_rfl) (Own.app (R := R_api_Line) (z := .agg #[.slice none 0 0, .bool false]) (by_ := 32) (ty := 47) 2 O80 rfl (h19.mono (l24.trans (l55.trans (l63.trans (l71.trans (l77.trans l82)))))) h81 h85 Tryd.underlying47 (by kernel_rfl) rfl (by kernel_rfl) (by kernel_rfl)) ?_)
      rintro v90 c89 l89 ⟨u87, O86, h88⟩
      have p91 : Kp G [] c89 := (Kp.nil O86)
      refine ⟨.inr p91, ?_⟩
      refine ta 20 (v90) ?_
      refine AC.done (by kernel_rfl) ?_
      refine bkn ?_
      refine nrm ?_
      refine W.region ?_
      refine va (.int .i64 (w64 (s_9.2 + 1))) ?_
      refine va (.int .i64 (w64 (s_9.2 + 1))) ?_
      refine WL.nil ?_
      obtain rfl := Option.some.inj H
      refine ⟨_, rfl, ?_⟩
      have O92 := O86.selD 3 [2] (by kernel_rfl) (by kernel_rfl)
      exact ⟨c89, _, v90, u87, rfl, (l16.trans (l24.trans (l55.trans (l63.trans (l71.trans (l77.trans (l82.trans l89))))))), O92, ups_self ⟨rfl, rfl, rfl, rfl, trivial⟩, h88⟩
    · have H := ie h23 H
      refine W.exit ?_
      refine thx ?_
      obtain rfl := Option.some.inj H
      refine ⟨_, rfl, rfl, ?_⟩
      exact ⟨c16, _, v12, u13, rfl, l16, O18, ups_self ⟨rfl, trivial⟩, h19⟩
  · skip
    have h94 : OA R_api_Line c8 (.slice none 0 0) [] [] := OA.nil (Nat.succ_pos _)
    have O93 := O5.addHole (e := es true R_api_Line (.slice none 0 0) 62 [] ([] : List G_api_Line)) rfl
    exact ⟨c8, _, (.slice none 0 0), [], rfl, (Cx.le.refl _), O93, ups_self ⟨rfl, rfl, rfl, rfl, trivial⟩, h94⟩
  · skip
    rintro _ e_ w_ ⟨rfl, c95, g96, v14, u15, rfl, l95, O97, rfl, h98⟩
    refine bke ?_
    refine nrm ?_
    refine sr ?_
    refine va (v14) ?_
    refine va (v14) ?_
    refine wln ?_
    refine W.ret ?_
    obtain rfl := Option.some.inj H11
    exact ret1 (v := v14) rfl (by kernel_rfl) ⟨_, c95, rfl, rfl, (l8.trans l95), v14, u15, O97, rfl, h98⟩

def f_linotyperef32_Same (p0 : List G_api_Line) (p1 : List G_api_Line) : Option (Bool) :=
  if ((p0.length : Int) != (p1.length : Int)) = true then
  some false
  else
  (iter (σ := Int) (τ := Bool ⊕ Unit) (((p0.length : Int) - 0).toNat + 1) (fun s_13 =>
  if (decide (s_13 < (p0.length : Int))) = true then
  (idx p0 s_13).bind fun x_21 =>
  (idx p1 s_13).bind fun x_26 =>
  (orE (!(x_21.Wrap == x_26.Wrap)) ((idx p0 s_13).bind fun x_34 =>
  (idx p1 s_13).bind fun x_39 =>
  (f_linotyperef23_Same x_34.Cells x_39.Cells).bind fun x_42 =>
  some (!x_42))).bind fun d_30 =>
  if d_30 = true then
  some (.inr (.inl false))
  else
  some (.inl ((w64 (s_13 + 1))))
  else
  some (.inr (.inr ()))) (0)).bind fun o_13 =>
  match o_13 with
  | .inl o_13 =>
  some o_13
  | .inr o_13 =>
  some true
theorem c_linotyperef32_Same {c0 : Cx} {G : Gm} {F : List En} {v1 : Value} {v3 : Value} (O0 : Own c0 G F) (p0 : List G_api_Line) (p1 : List G_api_Line) {r : Bool} (h2 : Sl R_api_Line c0 v1 p0) (h4 : Sl R_api_Line c0 v3 p1) (H : f_linotyperef32_Same p0 p1 = some r) :
    Calls Tryd.prog 39 #[v1, v3] c0.w (Post c0 fun c v => Own c G (F) ∧ v = .bool r) := by
  unfold f_linotyperef32_Same at H
  refine enter (l := [v1, v3]) Tryd.func39 rfl rfl rfl ?_
  refine sr ?_
  refine va (.bool false) ?_
  refine wln ?_
  refine W.seq ?_
  refine sr ?_
  refine va (v1) ?_
  refine WL.val0 (v := .int .i64 (p0.length : Int)) rfl (rx (by kernel_rfl) (run_len (ty := 3) Tryd.underlying47 h2 _)) ?_
  refine va (v3) ?_
  refine WL.val0 (v := .int .i64 (p1.length : Int)) rfl (rx (by kernel_rfl) (run_len (ty := 3) Tryd.underlying47 h4 _)) ?_
  refine va (.bool ((p0.length : Int) != (p1.length : Int))) ?_
  refine wln ?_
  refine W.cond (t := (p0.length : Int) != (p1.length : Int)) (by kernel_rfl) (fun h5 => ?_) (fun h5 => ?_)
  · have H := it h5 H
    refine sr ?_
    refine va (.bool false) ?_
    refine wln ?_
    refine W.ret ?_
    refine thr ?_
    obtain rfl := Option.some.inj H
    exact ret1 (v := .bool false) rfl (by kernel_rfl) ⟨_, c0, rfl, rfl, Cx.le.refl _, O0, rfl⟩
  · have H := ie h5 H
    refine W.skip ?_
    refine nrm ?_
    refine W.seq ?_
    refine sr ?_
    refine va (.int .i64 0) ?_
    refine wln ?_
    refine W.block ?_
    obtain ⟨o_13, h6, H7⟩ := bs H
    refine W.loop (σ := Int) (τ := Bool ⊕ Unit) (fun s_13 => fun e w => ∃ (c : Cx) (g : Nat → Value), w = c.w ∧ c0.le c ∧ Own c G (F) ∧ e = ups g [(0, v1), (1, v3), (5, .int .i64 s_13)]) (fun t => match t with | .inl x_ => (fun rr_ ex e w => ex = .ret ∧ (fun e w => ∃ (c : Cx) (g : Nat → Value), w = c.w ∧ c0.le c ∧ Own c G (F) ∧ e = ups g [(4, .bool rr_)]) e w) x_ | .inr x_ => (fun o_13_ ex e w => ex = .exit 0 ∧ (fun e w => ∃ (c : Cx) (g : Nat → Value), w = c.w ∧ c0.le c ∧ Own c G (F) ∧ e = ups g []) e w) x_) ?_ h6 ?_ ?_
    · clear H7 h6
      intro s_13 xx_ ee_ ww_ H
      revert ee_ ww_
      rintro e_ w_ ⟨c8, g9, rfl, l8, O10, rfl⟩
      refine W.seq ?_
      refine sr ?_
      refine va (.int .i64 s_13) ?_
      refine va (v1) ?_
      refine WL.val0 (v := .int .i64 (p0.length : Int)) rfl (rx (by kernel_rfl) (run_len (ty := 3) Tryd.underlying47 (h2.mono l8) _)) ?_
      refine va (.bool (decide (s_13 < (p0.length : Int)))) ?_
      refine wln ?_
      refine W.cond (t := decide (s_13 < (p0.length : Int))) (by kernel_rfl) (fun h14 => ?_) (fun h14 => ?_)
      · have H := it h14 H
        refine W.skip ?_
        refine nrm ?_
        refine W.seq ?_
        refine W.block ?_
        refine W.seq ?_
        obtain ⟨x_21, h15, H⟩ := bs H
        obtain ⟨x_26, h16, H⟩ := bs H
        obtain ⟨d_30, h17, H⟩ := bs H
        refine W.join (fun e w => ∃ (c : Cx) (g : Nat → Value), w = c.w ∧ c8.le c ∧ Own c G (F) ∧ e = ups g [(0, v1), (1, v3), (5, .int .i64 s_13), (41, .bool d_30)]) ?_ ?_
        · clear H
          refine W.regionD [] (Kp G0 []) O10 (by kernel_rfl) ?_
          intro c18 l18 O19
          have p20 : Kp G0 [] c18 := Kp.nil0
          refine ta 0 (v1) ?_
          refine ta 1 (.int .i64 s_13) ?_
          obtain ⟨l_21, h22, m23⟩ := Sl.at (h2.mono (l8.trans l18)) (idx_get h15)
          obtain ⟨v24, rfl, h25⟩ := h22
          refine AC.take 2 (.pointer (some ⟨sb v1, so v1 + s_13.toNat * 2, none⟩)) rfl (by kernel_rfl) (by kernel_rfl) (fun c' hle => (rx (by kernel_rfl) (run_index (k := .i64) Tryd.underlying47 (by kernel_rfl) (h2.mono (l8.trans l18)) h15 _))) ?_
          refine ta 3 (.pointer (some ⟨sb v1, so v1 + s_13.toNat * 2 + 1, none⟩)) ?_
          refine AC.take 4 (.bool x_21.Wrap) rfl (by kernel_rfl) (by kernel_rfl) (fun c' hle => (rx (by kernel_rfl) (run_load1 Tryd.underlying4 rfl ((fun j u hu => (m23 j u hu).mono hle) 1 _ rfl)))) ?_
          refine ta 5 (v3) ?_
          refine ta 6 (.int .i64 s_13) ?_
          obtain ⟨l_26, h27, m28⟩ := Sl.at (h4.mono (l8.trans l18)) (idx_get h16)
          obtain ⟨v29, rfl, h30⟩ := h27
          refine AC.take 7 (.pointer (some ⟨sb v3, so v3 + s_13.toNat * 2, none⟩)) rfl (by kernel_rfl) (by kernel_rfl) (fun c' hle => (rx (by kernel_rfl) (run_index (k := .i64) Tryd.underlying47 (by kernel_rfl) (h4.mono (l8.trans l18)) h16 _))) ?_
          refine ta 8 (.pointer (some ⟨sb v3, so v3 + s_13.toNat * 2 + 1, none⟩)) ?_
          refine AC.take 9 (.bool x_26.Wrap) rfl (by kernel_rfl) (by kernel_rfl) (fun c' hle => (rx (by kernel_rfl) (run_load1 Tryd.underlying4 rfl ((fun j u hu => (m28 j u hu).mono hle) 1 _ rfl)))) ?_
          refine ta 10 (.bool (!(x_21.Wrap == x_26.Wrap))) ?_
          rcases Bool.eq_false_or_eq_true (!(x_21.Wrap == x_26.Wrap)) with h31 | h31
          · skip
            obtain rfl := orT h31 h17
            refine AC.takeb 11 h31 rfl (by kernel_rfl) (by kernel_rfl) (fun c' hle => (by kernel_rfl)) ?_
            refine AC.pass 12 rfl (by kernel_rfl) (by kernel_rfl) ?_
            refine AC.pass 13 rfl (by kernel_rfl) (by kernel_rfl) ?_
            refine AC.pass 14 rfl (by kernel_rfl) (by kernel_rfl) ?_
            refine AC.pass 15 rfl (by kernel_rfl) (by kernel_rfl) ?_
            refine AC.pass 16 rfl (by kernel_rfl) (by kernel_rfl) ?_
            refine AC.pass 17 rfl (by kernel_rfl) (by kernel_rfl) ?_
            refine AC.pass 18 rfl (by kernel_rfl) (by kernel_rfl) ?_
            refine AC.pass 19 rfl (by kernel_rfl) (by kernel_rfl) ?_
            refine AC.pass 20 rfl (by kernel_rfl) (by kernel_rfl) ?_
            refine AC.pass 21 rfl (by kernel_rfl) (by kernel_rfl) ?_
            refine AC.pass 22 rfl (by kernel_rfl) (by kernel_rfl) ?_
            refine AC.pass 23 rfl (by kernel_rfl) (by kernel_rfl) ?_
            refine ta 24 (.bool true) ?_
            refine AC.done (by kernel_rfl) ?_
            refine nrm ?_
            exact ⟨c18, _, rfl, l18, O19, ups_self ⟨rfl, rfl, rfl, rfl, trivial⟩⟩
          · skip
            have H32 := orF h31 h17
            refine AC.takeb 11 h31 rfl (by kernel_rfl) (by kernel_rfl) (fun c' hle => (by kernel_rfl)) ?_
            refine ta 12 (v1) ?_
            refine ta 13 (.int .i64 s_13) ?_
            obtain ⟨x_34, h33, H32⟩ := bs H32
            obtain ⟨l_34, h35, m36⟩ := Sl.at (h2.mono (l8.trans l18)) (idx_get h33)
            obtain ⟨v37, rfl, h38⟩ := h35
            refine AC.take 14 (.pointer (some ⟨sb v1, so v1 + s_13.toNat * 2, none⟩)) rfl (by kernel_rfl) (by kernel_rfl) (fun c' hle => (rx (by kernel_rfl) (run_index (k := .i64) Tryd.underlying47 (by kernel_rfl) (h2.mono (l8.trans l18)) h33 _))) ?_
            refine ta 15 (.pointer (some ⟨sb v1, so v1 + s_13.toNat * 2, none⟩)) ?_
            refine AC.take 16 (v37) rfl (by kernel_rfl) (by kernel_rfl) (fun c' hle => (rx (by kernel_rfl) (run_load1 Tryd.underlying22 rfl ((fun j u hu => (m36 j u hu).mono hle) 0 _ rfl)))) ?_
            refine ta 17 (v3) ?_
            refine ta 18 (.int .i64 s_13) ?_
            obtain ⟨x_39, h39, H32⟩ := bs H32
            obtain ⟨l_40, h41, m42⟩ := Sl.at (h4.mono (l8.trans l18)) (idx_get h39)
            obtain ⟨v43, rfl, h44⟩ := h41
            refine AC.take 19 (.pointer (some ⟨sb v3, so v3 + s_13.toNat * 2, none⟩)) rfl (by kernel_rfl) (by kernel_rfl) (fun c' hle => (rx (by kernel_rfl) (run_index (k := .i64) Tryd.underlying47 (by kernel_rfl) (h4.mono (l8.trans l18)) h39 _))) ?_
            refine ta 20 (.pointer (some ⟨sb v3, so v3 + s_13.toNat * 2, none⟩)) ?_
            refine AC.take 21 (v43) rfl (by kernel_rfl) (by kernel_rfl) (fun c' hle => (rx (by kernel_rfl) (run_load1 Tryd.underlying22 rfl ((fun j u hu => (m42 j u hu).mono hle) 0 _ rfl)))) ?_
            obtain ⟨x_42, h45, H32⟩ := bs H32
            refine AC.one 22 (by kernel_rfl) (Go1.callP 22 rfl (by kernel_rfl) (by kernel_rfl) (by kernel_rfl) (c_linotyperef23_Same O19 x_34.Cells x_39.Cells h38 h44 h45) ?_)
            rintro v51 c50 l50 ⟨O47, rfl⟩
            have p52 : Kp G0 [] c50 := Kp.nil0
            refine ⟨.inr p52, ?_⟩
            refine ta 23 (.bool (!x_42)) ?_
            obtain rfl := Option.some.inj H32
            refine ta 24 (.bool (!x_42)) ?_
            refine AC.done (by kernel_rfl) ?_
            refine nrm ?_
            exact ⟨c50, _, rfl, (l18.trans l50), O47, ups_self ⟨rfl, rfl, rfl, rfl, trivial⟩⟩
        · skip
          rintro e_ w_ ⟨c53, g54, rfl, l53, O55, rfl⟩
          refine nrm ?_
          refine W.cond (t := d_30) (by kernel_rfl) (fun h59 => ?_) (fun h59 => ?_)
          · have H := it h59 H
            refine sr ?_
            refine va (.bool false) ?_
            refine wln ?_
            refine W.ret ?_
            refine bkr ?_
            refine thr ?_
            obtain rfl := Option.some.inj H
            refine ⟨_, rfl, ?_⟩
            refine ⟨rfl, ?_⟩
            exact ⟨c53, _, rfl, (l8.trans l53), O55, ups_self ⟨rfl, trivial⟩⟩
          · have H := ie h59 H
            refine W.skip ?_
            refine bkn ?_
            refine nrm ?_
            refine W.region ?_
            refine va (.int .i64 s_13) ?_
            refine va (.int .i64 (w64 (s_13 + 1))) ?_
            refine va (.int .i64 (w64 (s_13 + 1))) ?_
            refine WL.nil ?_
            obtain rfl := Option.some.inj H
            refine ⟨_, rfl, ?_⟩
            exact ⟨c53, _, rfl, (l8.trans l53), O55, ups_self ⟨rfl, rfl, rfl, trivial⟩⟩
      · have H := ie h14 H
        refine W.exit ?_
        refine thx ?_
        obtain rfl := Option.some.inj H
        refine ⟨_, rfl, rfl, ?_⟩
        exact ⟨c8, _, rfl, l8, O10, ups_self trivial⟩
    · skip
      exact ⟨c0, _, rfl, (Cx.le.refl _), O0, ups_self ⟨rfl, rfl, rfl, trivial⟩⟩
    · skip
      rcases o_13 with o_13 | o_13
      · skip
        intro ex_; revert ex_
        rintro _ e_ w_ ⟨rfl, c60, g61, rfl, l60, O62, rfl⟩
        refine bkr ?_
        refine thr ?_
        obtain rfl := Option.some.inj H7
        exact ret1 (v := .bool o_13) rfl (by kernel_rfl) ⟨_, c60, rfl, rfl, l60, O62, rfl⟩
      · skip
        rintro _ e_ w_ ⟨rfl, c66, g67, rfl, l66, O68, rfl⟩
        refine bke ?_
        refine nrm ?_
        refine sr ?_
        refine va (.bool true) ?_
        refine wln ?_
        refine W.ret ?_
        obtain rfl := Option.some.inj H7
        exact ret1 (v := .bool true) rfl (by kernel_rfl) ⟨_, c66, rfl, rfl, l66, O68, rfl⟩

def f_linotyperef32_Wrong (p0 : List G_api_Line) : Option (Int × Int) :=
  (iter (σ := Int) (τ := (Int × Int) ⊕ Unit) (((p0.length : Int) - 0).toNat + 1) (fun s_6 =>
  if (decide (s_6 < (p0.length : Int))) = true then
  (idx p0 s_6).bind fun x_14 =>
  (orE ((x_14.Cells.length : Int) == 0) (some (decide ((x_14.Cells.length : Int) > 1024)))).bind fun d_22 =>
  if d_22 = true then
  some (.inr (.inl (s_6, 3)))
  else
  (idx p0 s_6).bind fun x_33 =>
  (f_linotyperef23_Sound x_33.Cells).bind fun x_36 =>
  if (!x_36) = true then
  some (.inr (.inl (s_6, 5)))
  else
  (idx p0 0).bind fun x_45 =>
  if ((x_14.Cells.length : Int) != (x_45.Cells.length : Int)) = true then
  some (.inr (.inl (s_6, 3)))
  else
  some (.inl ((w64 (s_6 + 1))))
  else
  some (.inr (.inr ()))) (0)).bind fun o_6 =>
  match o_6 with
  | .inl o_6 =>
  some o_6
  | .inr o_6 =>
  some ((-1), 0)
theorem c_linotyperef32_Wrong {c0 : Cx} {G : Gm} {F : List En} {v1 : Value} (O0 : Own c0 G F) (p0 : List G_api_Line) {r : Int × Int} (h2 : Sl R_api_Line c0 v1 p0) (H : f_linotyperef32_Wrong p0 = some r) :
    Calls Tryd.prog 34 #[v1] c0.w (Post c0 fun c v => Own c G (F) ∧ v = .tuple #[.int .i64 r.1, .int .i64 r.2]) := by
  unfold f_linotyperef32_Wrong at H
  refine enter (l := [v1]) Tryd.func34 rfl rfl rfl ?_
  refine sr ?_
  refine va (.int .i64 0) ?_
  refine va (.int .i64 0) ?_
  refine wln ?_
  refine W.seq ?_
  refine sr ?_
  refine va (.int .i64 0) ?_
  refine wln ?_
  refine W.block ?_
  obtain ⟨o_6, h3, H4⟩ := bs H
  refine W.loop (σ := Int) (τ := (Int × Int) ⊕ Unit) (fun s_6 => fun e w => ∃ (c : Cx) (g : Nat → Value), w = c.w ∧ c0.le c ∧ Own c G (F) ∧ e = ups g [(0, v1), (4, .int .i64 s_6)]) (fun t => match t with | .inl x_ => (fun rr_ ex e w => ex = .ret ∧ (fun e w => ∃ (c : Cx) (g : Nat → Value), w = c.w ∧ c0.le c ∧ Own c G (F) ∧ e = ups g [(2, .int .i64 rr_.1), (3, .int .i64 rr_.2)]) e w) x_ | .inr x_ => (fun o_6_ ex e w => ex = .exit 0 ∧ (fun e w => ∃ (c : Cx) (g : Nat → Value), w = c.w ∧ c0.le c ∧ Own c G (F) ∧ e = ups g []) e w) x_) ?_ h3 ?_ ?_
  · clear H4 h3
    intro s_6 xx_ ee_ ww_ H
    revert ee_ ww_
    rintro e_ w_ ⟨c5, g6, rfl, l5, O7, rfl⟩
    refine W.seq ?_
    refine sr ?_
    refine va (.int .i64 s_6) ?_
    refine va (v1) ?_
    refine WL.val0 (v := .int .i64 (p0.length : Int)) rfl (rx (by kernel_rfl) (run_len (ty := 3) Tryd.underlying47 (h2.mono l5) _)) ?_
    refine va (.bool (decide (s_6 < (p0.length : Int)))) ?_
    refine wln ?_
    refine W.cond (t := decide (s_6 < (p0.length : Int))) (by kernel_rfl) (fun h11 => ?_) (fun h11 => ?_)
    · have H := it h11 H
      refine W.skip ?_
      refine nrm ?_
      refine W.seq ?_
      refine W.block ?_
      refine sr ?_
      refine va (v1) ?_
      refine va (.int .i64 s_6) ?_
      obtain ⟨x_14, h12, H⟩ := bs H
      obtain ⟨l_13, h14, m15⟩ := Sl.at (h2.mono l5) (idx_get h12)
      obtain ⟨v16, rfl, h17⟩ := h14
      refine WL.val0 (v := .pointer (some ⟨sb v1, so v1 + s_6.toNat * 2, none⟩)) rfl (rx (by kernel_rfl) (run_index (k := .i64) Tryd.underlying47 (by kernel_rfl) (h2.mono l5) h12 _)) ?_
      refine va (.pointer (some ⟨sb v1, so v1 + s_6.toNat * 2, none⟩)) ?_
      refine WL.val0 (v := v16) rfl (rx (by kernel_rfl) (run_load1 Tryd.underlying22 rfl (m15 0 _ rfl))) ?_
      refine WL.val0 (v := .int .i64 (x_14.Cells.length : Int)) rfl (rx (by kernel_rfl) (run_len (ty := 3) Tryd.underlying22 h17 _)) ?_
      refine va (.int .i64 (x_14.Cells.length : Int)) ?_
      refine wln ?_
      refine W.seq ?_
      refine W.seq ?_
      obtain ⟨d_22, h18, H⟩ := bs H
      refine W.join (fun e w => ∃ (c : Cx) (g : Nat → Value), w = c.w ∧ c5.le c ∧ Own c G (F) ∧ e = ups g [(0, v1), (4, .int .i64 s_6), (5, .int .i64 (x_14.Cells.length : Int)), (23, .bool d_22)]) ?_ ?_
      · clear H
        refine W.region ?_
        refine va (.int .i64 (x_14.Cells.length : Int)) ?_
        refine va (.bool ((x_14.Cells.length : Int) == 0)) ?_
        rcases Bool.eq_false_or_eq_true ((x_14.Cells.length : Int) == 0) with h19 | h19
        · skip
          obtain rfl := orT h19 h18
          refine vb h19 ?_
          refine ps ?_
          refine ps ?_
          refine va (.bool true) ?_
          refine wln ?_
          exact ⟨c5, _, rfl, (Cx.le.refl _), O7, ups_self ⟨rfl, rfl, rfl, rfl, trivial⟩⟩
        · skip
          have H20 := orF h19 h18
          refine vb h19 ?_
          refine wn ?_
          refine va (.int .i64 (x_14.Cells.length : Int)) ?_
          refine wn ?_
          refine va (.bool (decide ((x_14.Cells.length : Int) > 1024))) ?_
          obtain rfl := Option.some.inj H20
          refine va (.bool (decide ((x_14.Cells.length : Int) > 1024))) ?_
          refine wln ?_
          exact ⟨c5, _, rfl, (Cx.le.refl _), O7, ups_self ⟨rfl, rfl, rfl, rfl, trivial⟩⟩
      · skip
        rintro e_ w_ ⟨c21, g22, rfl, l21, O23, rfl⟩
        refine nrm ?_
        refine W.cond (t := d_22) (by kernel_rfl) (fun h27 => ?_) (fun h27 => ?_)
        · have H := it h27 H
          refine sr ?_
          refine va (.int .i64 s_6) ?_
          refine va (.int .i64 s_6) ?_
          refine va (.int .i64 3) ?_
          refine wln ?_
          refine W.ret ?_
          refine thr ?_
          refine bkr ?_
          refine thr ?_
          obtain rfl := Option.some.inj H
          refine ⟨_, rfl, ?_⟩
          refine ⟨rfl, ?_⟩
          exact ⟨c21, _, rfl, (l5.trans l21), O23, ups_self ⟨rfl, rfl, trivial⟩⟩
        · have H := ie h27 H
          refine W.skip ?_
          refine nrm ?_
          refine W.seq ?_
          refine sr ?_
          refine va (v1) ?_
          refine va (.int .i64 s_6) ?_
          obtain ⟨x_33, h28, H⟩ := bs H
          obtain ⟨l_29, h30, m31⟩ := Sl.at (h2.mono (l5.trans l21)) (idx_get h28)
          obtain ⟨v32, rfl, h33⟩ := h30
          refine WL.val0 (v := .pointer (some ⟨sb v1, so v1 + s_6.toNat * 2, none⟩)) rfl (rx (by kernel_rfl) (run_index (k := .i64) Tryd.underlying47 (by kernel_rfl) (h2.mono (l5.trans l21)) h28 _)) ?_
          refine va (.pointer (some ⟨sb v1, so v1 + s_6.toNat * 2, none⟩)) ?_
          refine WL.val0 (v := v32) rfl (rx (by kernel_rfl) (run_load1 Tryd.underlying22 rfl (m31 0 _ rfl))) ?_
          obtain ⟨x_36, h34, H⟩ := bs H
          refine WL.callP rfl (by kernel_rfl) (c_linotyperef23_Sound O23 x_33.Cells h33 h34) ?_
          rintro v40 c39 l39 ⟨O36, rfl⟩
          refine va (.bool (!x_36)) ?_
          refine wln ?_
          refine W.cond (t := !x_36) (by kernel_rfl) (fun h41 => ?_) (fun h41 => ?_)
          · have H := it h41 H
            refine sr ?_
            refine va (.int .i64 s_6) ?_
            refine va (.int .i64 s_6) ?_
            refine va (.int .i64 5) ?_
            refine wln ?_
            refine W.ret ?_
            refine thr ?_
            refine bkr ?_
            refine thr ?_
            obtain rfl := Option.some.inj H
            refine ⟨_, rfl, ?_⟩
            refine ⟨rfl, ?_⟩
            exact ⟨c39, _, rfl, (l5.trans (l21.trans l39)), O36, ups_self ⟨rfl, rfl, trivial⟩⟩
          · have H := ie h41 H
            refine W.skip ?_
            refine nrm ?_
            refine sr ?_
            refine va (.int .i64 (x_14.Cells.length : Int)) ?_
            refine va (v1) ?_
            obtain ⟨x_45, h42, H⟩ := bs H
            obtain ⟨l_43, h44, m45⟩ := Sl.at (h2.mono (l5.trans (l21.trans l39))) (idx_get h42)
            obtain ⟨v46, rfl, h47⟩ := h44
            refine WL.val0 (v := .pointer (some ⟨sb v1, so v1 + (0 : Int).toNat * 2, none⟩)) rfl (rx (by kernel_rfl) (run_index (k := .i64) Tryd.underlying47 (by kernel_rfl) (h2.mono (l5.trans (l21.trans l39))) h42 _)) ?_
            refine va (.pointer (some ⟨sb v1, so v1 + (0 : Int).toNat * 2, none⟩)) ?_
            refine WL.val0 (v := v46) rfl (rx (by kernel_rfl) (run_load1 Tryd.underlying22 rfl (m45 0 _ rfl))) ?_
            refine WL.val0 (v := .int .i64 (x_45.Cells.length : Int)) rfl (rx (by kernel_rfl) (run_len (ty := 3) Tryd.underlying22 h47 _)) ?_
            refine va (.bool ((x_14.Cells.length : Int) != (x_45.Cells.length : Int))) ?_
            refine wln ?_
            refine W.cond (t := (x_14.Cells.length : Int) != (x_45.Cells.length : Int)) (by kernel_rfl) (fun h48 => ?_) (fun h48 => ?_)
            · have H := it h48 H
              refine sr ?_
              refine va (.int .i64 s_6) ?_
              refine va (.int .i64 s_6) ?_
              refine va (.int .i64 3) ?_
              refine wln ?_
              refine W.ret ?_
              refine bkr ?_
              refine thr ?_
              obtain rfl := Option.some.inj H
              refine ⟨_, rfl, ?_⟩
              refine ⟨rfl, ?_⟩
              exact ⟨c39, _, rfl, (l5.trans (l21.trans l39)), O36, ups_self ⟨rfl, rfl, trivial⟩⟩
            · have H := ie h48 H
              refine W.skip ?_
              refine bkn ?_
              refine nrm ?_
              refine W.region ?_
              refine va (.int .i64 s_6) ?_
              refine va (.int .i64 (w64 (s_6 + 1))) ?_
              refine va (.int .i64 (w64 (s_6 + 1))) ?_
              refine WL.nil ?_
              obtain rfl := Option.some.inj H
              refine ⟨_, rfl, ?_⟩
              exact ⟨c39, _, rfl, (l5.trans (l21.trans l39)), O36, ups_self ⟨rfl, rfl, trivial⟩⟩
    · have H := ie h11 H
      refine W.exit ?_
      refine thx ?_
      obtain rfl := Option.some.inj H
      refine ⟨_, rfl, rfl, ?_⟩
      exact ⟨c5, _, rfl, l5, O7, ups_self trivial⟩
  · skip
    exact ⟨c0, _, rfl, (Cx.le.refl _), O0, ups_self ⟨rfl, rfl, trivial⟩⟩
  · skip
    rcases o_6 with o_6 | o_6
    · skip
      intro ex_; revert ex_
      rintro _ e_ w_ ⟨rfl, c49, g50, rfl, l49, O51, rfl⟩
      refine bkr ?_
      refine thr ?_
      obtain rfl := Option.some.inj H4
      exact ret2 (v := .int .i64 o_6.1) (v' := .int .i64 o_6.2) rfl (by kernel_rfl) (by kernel_rfl) ⟨_, c49, rfl, rfl, l49, O51, rfl⟩
    · skip
      rintro _ e_ w_ ⟨rfl, c55, g56, rfl, l55, O57, rfl⟩
      refine bke ?_
      refine nrm ?_
      refine sr ?_
      refine va (.int .i64 (-1)) ?_
      refine va (.int .i64 0) ?_
      refine wln ?_
      refine W.ret ?_
      obtain rfl := Option.some.inj H4
      exact ret2 (v := .int .i64 (-1)) (v' := .int .i64 0) rfl (by kernel_rfl) (by kernel_rfl) ⟨_, c55, rfl, rfl, l55, O57, rfl⟩

def f_linotyperef33_Move (p0 : List G_api_Line) (p1 : Int) (p2 : Int) (p3 : Int) (p4 : Bool) : Option (List G_api_Line) :=
  (orE (decide ((imax 0 (imin p1 (p0.length : Int))) ≥ (imax 0 (imin p2 (p0.length : Int))))) (some (decide (p3 < 1)))).bind fun d_22 =>
  if d_22 = true then
  some p0
  else
  (iter (σ := (List G_api_Line) × Int) (τ := (List G_api_Line)) (((p0.length : Int) - 0).toNat + 1) (fun s_41 =>
  if (decide (s_41.2 < (p0.length : Int))) = true then
  (idx p0 s_41.2).bind fun x_48 =>
  ((andE (decide (s_41.2 ≥ (imax 0 (imin p1 (p0.length : Int))))) (some (decide (s_41.2 < (imax 0 (imin p2 (p0.length : Int))))))).bind fun d_57 =>
  if d_57 = true then
  (if (!p4) = true then
  (some ((w64 (s_41.2 - (imin p3 (w64 ((imax 0 (imin p2 (p0.length : Int))) - (imax 0 (imin p1 (p0.length : Int))))))))) : Option (Int))
  else
  (some ((w64 (s_41.2 + (imin p3 (w64 ((imax 0 (imin p2 (p0.length : Int))) - (imax 0 (imin p1 (p0.length : Int))))))))) : Option (Int))).bind fun z_68 =>
  (idx p0 s_41.2).bind fun x_79 =>
  (rep (x_79.Cells.length : Int) (⟨0, ([] : List Int)⟩ : G_api_Cell)).bind fun x_83 =>
  (andE (decide (z_68 ≥ (imax 0 (imin p1 (p0.length : Int))))) (some (decide (z_68 < (imax 0 (imin p2 (p0.length : Int))))))).bind fun d_90 =>
  if d_90 = true then
  (idx p0 z_68).bind fun x_98 =>
  (some (x_98.Cells, x_98.Wrap) : Option ((List G_api_Cell) × Bool))
  else
  (some (x_83, false) : Option ((List G_api_Cell) × Bool))
  else
  (some (x_48.Cells, x_48.Wrap) : Option ((List G_api_Cell) × Bool))).bind fun z_53 =>
  ((orE ((w64 (s_41.2 + 1)) == (imax 0 (imin p1 (p0.length : Int)))) ((andE (!p4) (some ((w64 (s_41.2 + 1)) == (imax 0 (imin p2 (p0.length : Int)))))).bind fun d_111 =>
  some d_111)).bind fun d_107 =>
  if d_107 = true then
  (some (false) : Option (Bool))
  else
  (some (z_53.2) : Option (Bool))).bind fun z_102 =>
  (app s_41.1 ([(⟨z_53.1, z_102⟩ : G_api_Line)] : List G_api_Line)).bind fun x_124 =>
  some (.inl (x_124, (w64 (s_41.2 + 1))))
  else
  some (.inr (s_41.1))) (([] : List G_api_Line), 0)).bind fun o_41 =>
  some o_41
theorem c_linotyperef33_Move {c0 : Cx} {G : Gm} {F : List En} {v1 : Value} (O0 : Own c0 G F) (p0 : List G_api_Line) (p1 : Int) (p2 : Int) (p3 : Int) (p4 : Bool) {r : List G_api_Line} (h2 : Sl R_api_Line c0 v1 p0) (H : f_linotyperef33_Move p0 p1 p2 p3 p4 = some r) :
    Calls Tryd.prog 37 #[v1, .int .i64 p1, .int .i64 p2, .int .i64 p3, .bool p4] c0.w (Post c0 fun c v => ∃ y1 : Value, Own c G (F) ∧ v = y1 ∧ Sl R_api_Line c y1 r) := by
  unfold f_linotyperef33_Move at H
  refine enter (l := [v1, .int .i64 p1, .int .i64 p2, .int .i64 p3, .bool p4]) Tryd.func37 rfl rfl rfl ?_
  refine sr ?_
  refine va (.slice none 0 0) ?_
  refine wln ?_
  refine sr ?_
  refine va (v1) ?_
  refine WL.val0 (v := .int .i64 (p0.length : Int)) rfl (rx (by kernel_rfl) (run_len (ty := 3) Tryd.underlying47 h2 _)) ?_
  refine va (.int .i64 (p0.length : Int)) ?_
  refine wln ?_
  refine sr ?_
  refine va (.int .i64 p1) ?_
  refine va (.int .i64 (p0.length : Int)) ?_
  refine va (.int .i64 (imin p1 (p0.length : Int))) ?_
  refine va (.int .i64 (imax 0 (imin p1 (p0.length : Int)))) ?_
  refine va (.int .i64 (imax 0 (imin p1 (p0.length : Int)))) ?_
  refine wln ?_
  refine sr ?_
  refine va (.int .i64 p2) ?_
  refine va (.int .i64 (p0.length : Int)) ?_
  refine va (.int .i64 (imin p2 (p0.length : Int))) ?_
  refine va (.int .i64 (imax 0 (imin p2 (p0.length : Int)))) ?_
  refine va (.int .i64 (imax 0 (imin p2 (p0.length : Int)))) ?_
  refine wln ?_
  refine W.seq ?_
  refine W.seq ?_
  obtain ⟨d_22, h3, H⟩ := bs H
  refine W.join (fun e w => ∃ (c : Cx) (g : Nat → Value), w = c.w ∧ c0.le c ∧ Own c G (F) ∧ e = ups g [(0, v1), (1, .int .i64 (imax 0 (imin p1 (p0.length : Int)))), (2, .int .i64 (imax 0 (imin p2 (p0.length : Int)))), (3, .int .i64 p3), (4, .bool p4), (11, .int .i64 (p0.length : Int)), (32, .bool d_22)]) ?_ ?_
  · clear H
    refine W.region ?_
    refine va (.int .i64 (imax 0 (imin p1 (p0.length : Int)))) ?_
    refine va (.int .i64 (imax 0 (imin p2 (p0.length : Int)))) ?_
    refine va (.bool (decide ((imax 0 (imin p1 (p0.length : Int))) ≥ (imax 0 (imin p2 (p0.length : Int)))))) ?_
    rcases Bool.eq_false_or_eq_true (decide ((imax 0 (imin p1 (p0.length : Int))) ≥ (imax 0 (imin p2 (p0.length : Int))))) with h4 | h4
    · skip
      obtain rfl := orT h4 h3
      refine vb h4 ?_
      refine ps ?_
      refine ps ?_
      refine va (.bool true) ?_
      refine wln ?_
      exact ⟨c0, _, rfl, (Cx.le.refl _), O0, ups_self ⟨rfl, rfl, rfl, rfl, rfl, rfl, rfl, trivial⟩⟩
    · skip
      have H5 := orF h4 h3
      refine vb h4 ?_
      refine wn ?_
      refine va (.int .i64 p3) ?_
      refine wn ?_
      refine va (.bool (decide (p3 < 1))) ?_
      obtain rfl := Option.some.inj H5
      refine va (.bool (decide (p3 < 1))) ?_
      refine wln ?_
      exact ⟨c0, _, rfl, (Cx.le.refl _), O0, ups_self ⟨rfl, rfl, rfl, rfl, rfl, rfl, rfl, trivial⟩⟩
  · skip
    rintro e_ w_ ⟨c6, g7, rfl, l6, O8, rfl⟩
    refine nrm ?_
    refine W.cond (t := d_22) (by kernel_rfl) (fun h12 => ?_) (fun h12 => ?_)
    · have H := it h12 H
      refine sr ?_
      refine va (v1) ?_
      refine va (v1) ?_
      refine wln ?_
      refine W.ret ?_
      refine thr ?_
      obtain rfl := Option.some.inj H
      exact ret1 (v := v1) rfl (by kernel_rfl) ⟨_, c6, rfl, rfl, l6, v1, O8, rfl, (h2.mono l6)⟩
    · have H := ie h12 H
      refine W.skip ?_
      refine nrm ?_
      refine sr ?_
      refine va (.int .i64 p3) ?_
      refine va (.int .i64 (imax 0 (imin p2 (p0.length : Int)))) ?_
      refine va (.int .i64 (imax 0 (imin p1 (p0.length : Int)))) ?_
      refine va (.int .i64 (w64 ((imax 0 (imin p2 (p0.length : Int))) - (imax 0 (imin p1 (p0.length : Int)))))) ?_
      refine va (.int .i64 (imin p3 (w64 ((imax 0 (imin p2 (p0.length : Int))) - (imax 0 (imin p1 (p0.length : Int))))))) ?_
      refine va (.int .i64 (imin p3 (w64 ((imax 0 (imin p2 (p0.length : Int))) - (imax 0 (imin p1 (p0.length : Int))))))) ?_
      refine wln ?_
      refine sr ?_
      refine va (.slice none 0 0) ?_
      refine wln ?_
      refine W.seq ?_
      refine sr ?_
      refine va (.int .i64 0) ?_
      refine wln ?_
      refine W.block ?_
      obtain ⟨o_41, h13, H14⟩ := bs H
      refine W.loop (σ := (List G_api_Line) × Int) (τ := (List G_api_Line)) (fun s_41 => fun e w => ∃ (c : Cx) (g : Nat → Value) (v15 : Value) (u16 : List Value), w = c.w ∧ c6.le c ∧ Own c G (es true R_api_Line v15 62 u16 s_41.1 :: F) ∧ e = ups g [(0, v1), (1, .int .i64 (imax 0 (imin p1 (p0.length : Int)))), (2, .int .i64 (imax 0 (imin p2 (p0.length : Int)))), (3, .int .i64 (imin p3 (w64 ((imax 0 (imin p2 (p0.length : Int))) - (imax 0 (imin p1 (p0.length : Int))))))), (4, .bool p4), (11, .int .i64 (p0.length : Int)), (12, v15), (13, .int .i64 s_41.2)] ∧ OA R_api_Line c v15 u16 s_41.1) (fun o_41_ ex e w => ex = .exit 0 ∧ (fun e w => ∃ (c : Cx) (g : Nat → Value) (v17 : Value) (u18 : List Value), w = c.w ∧ c6.le c ∧ Own c G (es true R_api_Line v17 62 u18 o_41_ :: F) ∧ e = ups g [(12, v17)] ∧ OA R_api_Line c v17 u18 o_41_) e w) ?_ h13 ?_ ?_
      · clear H14 h13
        intro s_41 xx_ ee_ ww_ H
        revert ee_ ww_
        rintro e_ w_ ⟨c19, g20, v15, u16, rfl, l19, O21, rfl, h22⟩
        refine W.seq ?_
        refine sr ?_
        refine va (.int .i64 s_41.2) ?_
        refine va (.int .i64 (p0.length : Int)) ?_
        refine va (.bool (decide (s_41.2 < (p0.length : Int)))) ?_
        refine wln ?_
        refine W.cond (t := decide (s_41.2 < (p0.length : Int))) (by kernel_rfl) (fun h26 => ?_) (fun h26 => ?_)
        · have H := it h26 H
          refine W.skip ?_
          refine nrm ?_
          refine W.seq ?_
          refine W.block ?_
          refine sr ?_
          refine va (v1) ?_
          refine va (.int .i64 s_41.2) ?_
          obtain ⟨x_48, h27, H⟩ := bs H
          obtain ⟨l_28, h29, m30⟩ := Sl.at (h2.mono (l6.trans l19)) (idx_get h27)
          obtain ⟨v31, rfl, h32⟩ := h29
          refine WL.val0 (v := .pointer (some ⟨sb v1, so v1 + s_41.2.toNat * 2, none⟩)) rfl (rx (by kernel_rfl) (run_index (k := .i64) Tryd.underlying47 (by kernel_rfl) (h2.mono (l6.trans l19)) h27 _)) ?_
          refine WL.val0 (v := .agg #[v31, .bool x_48.Wrap]) rfl (rx (by kernel_rfl) (run_loadN (T := 62) (by kernel_rfl) (by kernel_rfl) m30)) ?_
          refine WL.mem rfl (Own.al (T := 62) (vs := [.slice none 0 0, .bool false]) O21 (by kernel_rfl)) ?_
          rintro v36 c35 l35 ⟨b33, rfl, O34⟩
          obtain ⟨a37, a38, a39, rfl⟩ := ((h32.mono l35)).form
          refine WL.memD rfl (Own.st (T := 62) (j := 0) (us := [.slice a37 a38 a39, .bool x_48.Wrap]) (nw := [.slice a37 a38 a39, .bool x_48.Wrap]) (v := .agg #[.slice a37 a38 a39, .bool x_48.Wrap]) 0 O34 (by kernel_rfl) rfl rfl rfl rfl (by kernel_rfl) ⟨(h32.mono l35).one, rfl, trivial⟩ rfl rfl) ?_
          rintro c41 l41 O40
          refine wln ?_
          obtain ⟨z_53, H42, H43⟩ := bs H
          refine W.seqJ (fun e w => ∃ (c : Cx) (g : Nat → Value) (v44 : Value), w = c.w ∧ c41.le c ∧ Own c G (⟨.pointer (some ⟨b33, 0, none⟩), 62, [v44, .bool z_53.2], 0⟩ :: es true R_api_Line v15 62 u16 s_41.1 :: F) ∧ e = ups g [(0, v1), (1, .int .i64 (imax 0 (imin p1 (p0.length : Int)))), (2, .int .i64 (imax 0 (imin p2 (p0.length : Int)))), (3, .int .i64 (imin p3 (w64 ((imax 0 (imin p2 (p0.length : Int))) - (imax 0 (imin p1 (p0.length : Int))))))), (4, .bool p4), (11, .int .i64 (p0.length : Int)), (12, v15), (13, .int .i64 s_41.2), (14, .pointer (some ⟨b33, 0, none⟩))] ∧ Sl R_api_Cell c v44 z_53.1) ?_ ?_
          · skip
            refine W.seq ?_
            obtain ⟨d_57, h45, H42⟩ := bs H42
            refine W.join (fun e w => ∃ (c : Cx) (g : Nat → Value), w = c.w ∧ c41.le c ∧ Own c G (⟨.pointer (some ⟨b33, 0, none⟩), 62, [.slice a37 a38 a39, .bool x_48.Wrap], 0⟩ :: es true R_api_Line v15 62 u16 s_41.1 :: F) ∧ e = ups g [(0, v1), (1, .int .i64 (imax 0 (imin p1 (p0.length : Int)))), (2, .int .i64 (imax 0 (imin p2 (p0.length : Int)))), (3, .int .i64 (imin p3 (w64 ((imax 0 (imin p2 (p0.length : Int))) - (imax 0 (imin p1 (p0.length : Int))))))), (4, .bool p4), (11, .int .i64 (p0.length : Int)), (12, v15), (13, .int .i64 s_41.2), (14, .pointer (some ⟨b33, 0, none⟩)), (55, .bool d_57)]) ?_ ?_
            · clear H42
              refine W.region ?_
              refine va (.int .i64 s_41.2) ?_
              refine va (.int .i64 (imax 0 (imin p1 (p0.length : Int)))) ?_
              refine va (.bool (decide (s_41.2 ≥ (imax 0 (imin p1 (p0.length : Int)))))) ?_
              rcases Bool.eq_false_or_eq_true (decide (s_41.2 ≥ (imax 0 (imin p1 (p0.length : Int))))) with h46 | h46
              · skip
                have H47 := anT h46 h45
                refine vb h46 ?_
                refine wn ?_
                refine va (.int .i64 s_41.2) ?_
                refine wn ?_
                refine va (.int .i64 (imax 0 (imin p2 (p0.length : Int)))) ?_
                refine wn ?_
                refine va (.bool (decide (s_41.2 < (imax 0 (imin p2 (p0.length : Int)))))) ?_
                obtain rfl := Option.some.inj H47
                refine va (.bool (decide (s_41.2 < (imax 0 (imin p2 (p0.length : Int)))))) ?_
                refine wln ?_
                exact ⟨c41, _, rfl, (Cx.le.refl _), O40, ups_self ⟨rfl, rfl, rfl, rfl, rfl, rfl, rfl, rfl, rfl, rfl, trivial⟩⟩
              · skip
                obtain rfl := anF h46 h45
                refine vb h46 ?_
                refine ps ?_
                refine ps ?_
                refine ps ?_
                refine va (.bool false) ?_
                refine wln ?_
                exact ⟨c41, _, rfl, (Cx.le.refl _), O40, ups_self ⟨rfl, rfl, rfl, rfl, rfl, rfl, rfl, rfl, rfl, rfl, trivial⟩⟩
            · skip
              rintro e_ w_ ⟨c48, g49, rfl, l48, O50, rfl⟩
              refine nrm ?_
              refine W.cond (t := d_57) (by kernel_rfl) (fun h54 => ?_) (fun h54 => ?_)
              · have H42 := it h54 H42
                refine sr ?_
                refine va (.int .i64 s_41.2) ?_
                refine va (.int .i64 (imin p3 (w64 ((imax 0 (imin p2 (p0.length : Int))) - (imax 0 (imin p1 (p0.length : Int))))))) ?_
                refine va (.int .i64 (w64 (s_41.2 + (imin p3 (w64 ((imax 0 (imin p2 (p0.length : Int))) - (imax 0 (imin p1 (p0.length : Int))))))))) ?_
                refine va (.int .i64 (w64 (s_41.2 + (imin p3 (w64 ((imax 0 (imin p2 (p0.length : Int))) - (imax 0 (imin p1 (p0.length : Int))))))))) ?_
                refine wln ?_
                obtain ⟨z_68, H55, H56⟩ := bs H42
                refine W.seqJ (fun e w => ∃ (c : Cx) (g : Nat → Value), w = c.w ∧ c48.le c ∧ Own c G (⟨.pointer (some ⟨b33, 0, none⟩), 62, [.slice a37 a38 a39, .bool x_48.Wrap], 0⟩ :: es true R_api_Line v15 62 u16 s_41.1 :: F) ∧ e = ups g [(0, v1), (1, .int .i64 (imax 0 (imin p1 (p0.length : Int)))), (2, .int .i64 (imax 0 (imin p2 (p0.length : Int)))), (3, .int .i64 (imin p3 (w64 ((imax 0 (imin p2 (p0.length : Int))) - (imax 0 (imin p1 (p0.length : Int))))))), (4, .bool p4), (11, .int .i64 (p0.length : Int)), (12, v15), (13, .int .i64 s_41.2), (14, .pointer (some ⟨b33, 0, none⟩)), (15, .int .i64 z_68)]) ?_ ?_
                · skip
                  refine sr ?_
                  refine va (.bool p4) ?_
                  refine va (.bool (!p4)) ?_
                  refine wln ?_
                  refine W.cond (t := !p4) (by kernel_rfl) (fun h57 => ?_) (fun h57 => ?_)
                  · have H55 := it h57 H55
                    refine W.region ?_
                    refine va (.int .i64 s_41.2) ?_
                    refine va (.int .i64 (imin p3 (w64 ((imax 0 (imin p2 (p0.length : Int))) - (imax 0 (imin p1 (p0.length : Int))))))) ?_
                    refine va (.int .i64 (w64 (s_41.2 - (imin p3 (w64 ((imax 0 (imin p2 (p0.length : Int))) - (imax 0 (imin p1 (p0.length : Int))))))))) ?_
                    refine va (.int .i64 (w64 (s_41.2 - (imin p3 (w64 ((imax 0 (imin p2 (p0.length : Int))) - (imax 0 (imin p1 (p0.length : Int))))))))) ?_
                    refine wln ?_
                    obtain rfl := Option.some.inj H55
                    exact ⟨c48, _, rfl, (Cx.le.refl _), O50, ups_self ⟨rfl, rfl, rfl, rfl, rfl, rfl, rfl, rfl, rfl, rfl, trivial⟩⟩
                  · have H55 := ie h57 H55
                    refine W.skip ?_
                    refine nrm ?_
                    obtain rfl := Option.some.inj H55
                    exact ⟨c48, _, rfl, (Cx.le.refl _), O50, ups_self ⟨rfl, rfl, rfl, rfl, rfl, rfl, rfl, rfl, rfl, rfl, trivial⟩⟩
                · skip
                  rintro e_ w_ ⟨c58, g59, rfl, l58, O60, rfl⟩
                  refine sr ?_
                  refine va (v1) ?_
                  refine va (.int .i64 s_41.2) ?_
                  obtain ⟨x_79, h64, H56⟩ := bs H56
                  obtain ⟨l_65, h66, m67⟩ := Sl.at (h2.mono (l6.trans (l19.trans (l35.trans (l41.trans (l48.trans l58)))))) (idx_get h64)
                  obtain ⟨v68, rfl, h69⟩ := h66
                  refine WL.val0 (v := .pointer (some ⟨sb v1, so v1 + s_41.2.toNat * 2, none⟩)) rfl (rx (by kernel_rfl) (run_index (k := .i64) Tryd.underlying47 (by kernel_rfl) (h2.mono (l6.trans (l19.trans (l35.trans (l41.trans (l48.trans l58)))))) h64 _)) ?_
                  refine va (.pointer (some ⟨sb v1, so v1 + s_41.2.toNat * 2, none⟩)) ?_
                  refine WL.val0 (v := v68) rfl (rx (by kernel_rfl) (run_load1 Tryd.underlying22 rfl (m67 0 _ rfl))) ?_
                  refine WL.val0 (v := .int .i64 (x_79.Cells.length : Int)) rfl (rx (by kernel_rfl) (run_len (ty := 3) Tryd.underlying22 h69 _)) ?_
                  obtain ⟨x_83, h70, H56⟩ := bs H56
                  refine WL.mem rfl (Own.mkS (kl := .i64) (kc := .i64) (R := R_api_Cell) (z := .agg #[.int .i64 0, .slice none 0 0]) (lz := [.int .i64 0, .slice none 0 0]) (x := (⟨0, ([] : List Int)⟩ : G_api_Cell)) (by_ := 32) (i := (x_79.Cells.length : Int)) (j := (x_79.Cells.length : Int)) true O60 (Nat.succ_pos _) h70 (Int.le_refl _) (rep_le h70) Tryd.underlying22 (by kernel_rfl) rfl rfl (fun _ => ⟨(.slice none 0 0), rfl, (Sl.nl _ _)⟩) (by kernel_rfl) (by kernel_rfl)) ?_
                  rintro v75 c74 l74 ⟨u72, O71, h73⟩
                  obtain ⟨a76, a77, a78, rfl⟩ := (h73).form
                  refine va (.agg #[.slice a76 a77 a78, .bool false]) ?_
                  refine WL.memD rfl (Own.st (T := 62) (j := 0) (us := [.slice a76 a77 a78, .bool false]) (nw := [.slice a76 a77 a78, .bool false]) (v := .agg #[.slice a76 a77 a78, .bool false]) 1 O71 (by kernel_rfl) rfl rfl rfl rfl (by kernel_rfl) ⟨(h73).one, rfl, trivial⟩ rfl rfl) ?_
                  rintro c80 l80 O79
                  refine wln ?_
                  refine W.seq ?_
                  obtain ⟨d_90, h81, H56⟩ := bs H56
                  refine W.join (fun e w => ∃ (c : Cx) (g : Nat → Value), w = c.w ∧ c80.le c ∧ Own c G (es true R_api_Cell (.slice a76 a77 a78) 27 u72 x_83 :: ⟨.pointer (some ⟨b33, 0, none⟩), 62, [.slice a76 a77 a78, .bool false], 0⟩ :: es true R_api_Line v15 62 u16 s_41.1 :: F) ∧ e = ups g [(0, v1), (1, .int .i64 (imax 0 (imin p1 (p0.length : Int)))), (2, .int .i64 (imax 0 (imin p2 (p0.length : Int)))), (3, .int .i64 (imin p3 (w64 ((imax 0 (imin p2 (p0.length : Int))) - (imax 0 (imin p1 (p0.length : Int))))))), (4, .bool p4), (11, .int .i64 (p0.length : Int)), (12, v15), (13, .int .i64 s_41.2), (14, .pointer (some ⟨b33, 0, none⟩)), (15, .int .i64 z_68), (79, .bool d_90)]) ?_ ?_
                  · clear H56
                    refine W.region ?_
                    refine va (.int .i64 z_68) ?_
                    refine va (.int .i64 (imax 0 (imin p1 (p0.length : Int)))) ?_
                    refine va (.bool (decide (z_68 ≥ (imax 0 (imin p1 (p0.length : Int)))))) ?_
                    rcases Bool.eq_false_or_eq_true (decide (z_68 ≥ (imax 0 (imin p1 (p0.length : Int))))) with h82 | h82
                    · skip
                      have H83 := anT h82 h81
                      refine vb h82 ?_
                      refine wn ?_
                      refine va (.int .i64 z_68) ?_
                      refine wn ?_
                      refine va (.int .i64 (imax 0 (imin p2 (p0.length : Int)))) ?_
                      refine wn ?_
                      refine va (.bool (decide (z_68 < (imax 0 (imin p2 (p0.length : Int)))))) ?_
                      obtain rfl := Option.some.inj H83
                      refine va (.bool (decide (z_68 < (imax 0 (imin p2 (p0.length : Int)))))) ?_
                      refine wln ?_
                      exact ⟨c80, _, rfl, (Cx.le.refl _), O79, ups_self ⟨rfl, rfl, rfl, rfl, rfl, rfl, rfl, rfl, rfl, rfl, rfl, trivial⟩⟩
                    · skip
                      obtain rfl := anF h82 h81
                      refine vb h82 ?_
                      refine ps ?_
                      refine ps ?_
                      refine ps ?_
                      refine va (.bool false) ?_
                      refine wln ?_
                      exact ⟨c80, _, rfl, (Cx.le.refl _), O79, ups_self ⟨rfl, rfl, rfl, rfl, rfl, rfl, rfl, rfl, rfl, rfl, rfl, trivial⟩⟩
                  · skip
                    rintro e_ w_ ⟨c84, g85, rfl, l84, O86, rfl⟩
                    refine nrm ?_
                    refine W.cond (t := d_90) (by kernel_rfl) (fun h90 => ?_) (fun h90 => ?_)
                    · have H56 := it h90 H56
                      refine W.region ?_
                      refine va (v1) ?_
                      refine va (.int .i64 z_68) ?_
                      obtain ⟨x_98, h91, H56⟩ := bs H56
                      obtain ⟨l_92, h93, m94⟩ := Sl.at (h2.mono (l6.trans (l19.trans (l35.trans (l41.trans (l48.trans (l58.trans (l74.trans (l80.trans l84))))))))) (idx_get h91)
                      obtain ⟨v95, rfl, h96⟩ := h93
                      refine WL.val0 (v := .pointer (some ⟨sb v1, so v1 + z_68.toNat * 2, none⟩)) rfl (rx (by kernel_rfl) (run_index (k := .i64) Tryd.underlying47 (by kernel_rfl) (h2.mono (l6.trans (l19.trans (l35.trans (l41.trans (l48.trans (l58.trans (l74.trans (l80.trans l84))))))))) h91 _)) ?_
                      refine WL.val0 (v := .agg #[v95, .bool x_98.Wrap]) rfl (rx (by kernel_rfl) (run_loadN (T := 62) (by kernel_rfl) (by kernel_rfl) m94)) ?_
                      obtain ⟨a97, a98, a99, rfl⟩ := (h96).form
                      refine WL.memD rfl (Own.st (T := 62) (j := 0) (us := [.slice a97 a98 a99, .bool x_98.Wrap]) (nw := [.slice a97 a98 a99, .bool x_98.Wrap]) (v := .agg #[.slice a97 a98 a99, .bool x_98.Wrap]) 1 O86 (by kernel_rfl) rfl rfl rfl rfl (by kernel_rfl) ⟨h96.one, rfl, trivial⟩ rfl rfl) ?_
                      rintro c101 l101 O100
                      refine wln ?_
                      obtain rfl := Option.some.inj H56
                      have O102 := O100.selD 3 [1, 2] (by kernel_rfl) (by kernel_rfl)
                      exact ⟨c101, _, (.slice a97 a98 a99), rfl, (l48.trans (l58.trans (l74.trans (l80.trans (l84.trans l101))))), O102, ups_self ⟨rfl, rfl, rfl, rfl, rfl, rfl, rfl, rfl, rfl, trivial⟩, (h96.mono l101)⟩
                    · have H56 := ie h90 H56
                      refine W.skip ?_
                      refine nrm ?_
                      obtain rfl := Option.some.inj H56
                      obtain ⟨c105, h106, l105, O103, h104⟩ := O86.frz 0 rfl (h73.mono (l80.trans l84))
                      have O107 := O103.selD 3 [1, 2] (by kernel_rfl) (by kernel_rfl)
                      exact ⟨c105, _, (.slice a76 a77 a78), h106.symm, (l48.trans (l58.trans (l74.trans (l80.trans (l84.trans l105))))), O107, ups_self ⟨rfl, rfl, rfl, rfl, rfl, rfl, rfl, rfl, rfl, trivial⟩, h104⟩
              · have H42 := ie h54 H42
                refine W.skip ?_
                refine nrm ?_
                obtain rfl := Option.some.inj H42
                exact ⟨c48, _, (.slice a37 a38 a39), rfl, l48, O50, ups_self ⟨rfl, rfl, rfl, rfl, rfl, rfl, rfl, rfl, rfl, trivial⟩, (h32.mono (l35.trans (l41.trans l48)))⟩
          · skip
            rintro e_ w_ ⟨c108, g109, v44, rfl, l108, O110, rfl, h111⟩
            obtain ⟨z_102, H115, H116⟩ := bs H43
            refine W.seqJ (fun e w => ∃ (c : Cx) (g : Nat → Value), w = c.w ∧ c108.le c ∧ Own c G (⟨.pointer (some ⟨b33, 0, none⟩), 62, [v44, .bool z_102], 0⟩ :: es true R_api_Line v15 62 u16 s_41.1 :: F) ∧ e = ups g [(0, v1), (1, .int .i64 (imax 0 (imin p1 (p0.length : Int)))), (2, .int .i64 (imax 0 (imin p2 (p0.length : Int)))), (3, .int .i64 (imin p3 (w64 ((imax 0 (imin p2 (p0.length : Int))) - (imax 0 (imin p1 (p0.length : Int))))))), (4, .bool p4), (11, .int .i64 (p0.length : Int)), (12, v15), (13, .int .i64 s_41.2), (14, .pointer (some ⟨b33, 0, none⟩))]) ?_ ?_
            · skip
              refine W.seq ?_
              obtain ⟨d_107, h117, H115⟩ := bs H115
              refine W.join (fun e w => ∃ (c : Cx) (g : Nat → Value), w = c.w ∧ c108.le c ∧ Own c G (⟨.pointer (some ⟨b33, 0, none⟩), 62, [v44, .bool z_53.2], 0⟩ :: es true R_api_Line v15 62 u16 s_41.1 :: F) ∧ e = ups g [(0, v1), (1, .int .i64 (imax 0 (imin p1 (p0.length : Int)))), (2, .int .i64 (imax 0 (imin p2 (p0.length : Int)))), (3, .int .i64 (imin p3 (w64 ((imax 0 (imin p2 (p0.length : Int))) - (imax 0 (imin p1 (p0.length : Int))))))), (4, .bool p4), (11, .int .i64 (p0.length : Int)), (12, v15), (13, .int .i64 s_41.2), (14, .pointer (some ⟨b33, 0, none⟩)), (97, .bool d_107)]) ?_ ?_
              · clear H115
                refine W.region ?_
                refine va (.int .i64 s_41.2) ?_
                refine va (.int .i64 (w64 (s_41.2 + 1))) ?_
                refine va (.int .i64 (imax 0 (imin p1 (p0.length : Int)))) ?_
                refine va (.bool ((w64 (s_41.2 + 1)) == (imax 0 (imin p1 (p0.length : Int))))) ?_
                rcases Bool.eq_false_or_eq_true ((w64 (s_41.2 + 1)) == (imax 0 (imin p1 (p0.length : Int)))) with h118 | h118
                · skip
                  obtain rfl := orT h118 h117
                  refine vb h118 ?_
                  refine ps ?_
                  refine ps ?_
                  refine ps ?_
                  refine ps ?_
                  refine ps ?_
                  refine ps ?_
                  refine ps ?_
                  refine ps ?_
                  refine va (.bool true) ?_
                  refine wln ?_
                  exact ⟨c108, _, rfl, (Cx.le.refl _), O110, ups_self ⟨rfl, rfl, rfl, rfl, rfl, rfl, rfl, rfl, rfl, rfl, trivial⟩⟩
                · skip
                  have H119 := orF h118 h117
                  refine vb h118 ?_
                  refine wn ?_
                  refine va (.bool p4) ?_
                  refine wn ?_
                  refine va (.bool (!p4)) ?_
                  refine wn ?_
                  obtain ⟨d_111, h120, H119⟩ := bs H119
                  rcases Bool.eq_false_or_eq_true (!p4) with h121 | h121
                  · skip
                    have H122 := anT h121 h120
                    refine vb h121 ?_
                    refine wn ?_
                    refine va (.int .i64 s_41.2) ?_
                    refine wn ?_
                    refine va (.int .i64 (w64 (s_41.2 + 1))) ?_
                    refine wn ?_
                    refine va (.int .i64 (imax 0 (imin p2 (p0.length : Int)))) ?_
                    refine wn ?_
                    refine va (.bool ((w64 (s_41.2 + 1)) == (imax 0 (imin p2 (p0.length : Int))))) ?_
                    refine wn ?_
                    obtain rfl := Option.some.inj H122
                    refine va (.bool ((w64 (s_41.2 + 1)) == (imax 0 (imin p2 (p0.length : Int))))) ?_
                    obtain rfl := Option.some.inj H119
                    refine va (.bool ((w64 (s_41.2 + 1)) == (imax 0 (imin p2 (p0.length : Int))))) ?_
                    refine wln ?_
                    exact ⟨c108, _, rfl, (Cx.le.refl _), O110, ups_self ⟨rfl, rfl, rfl, rfl, rfl, rfl, rfl, rfl, rfl, rfl, trivial⟩⟩
                  · skip
                    obtain rfl := anF h121 h120
                    refine vb h121 ?_
                    refine ps ?_
                    refine ps ?_
                    refine ps ?_
                    refine ps ?_
                    refine wn ?_
                    refine va (.bool false) ?_
                    obtain rfl := Option.some.inj H119
                    refine va (.bool false) ?_
                    refine wln ?_
                    exact ⟨c108, _, rfl, (Cx.le.refl _), O110, ups_self ⟨rfl, rfl, rfl, rfl, rfl, rfl, rfl, rfl, rfl, rfl, trivial⟩⟩
              · skip
                rintro e_ w_ ⟨c123, g124, rfl, l123, O125, rfl⟩
                refine nrm ?_
                refine W.cond (t := d_107) (by kernel_rfl) (fun h129 => ?_) (fun h129 => ?_)
                · have H115 := it h129 H115
                  refine W.region ?_
                  refine va (.pointer (some ⟨b33, 1, none⟩)) ?_
                  refine WL.memD rfl (Own.st (T := 4) (j := 1) (us := [.bool false]) (nw := [v44, .bool false]) (v := .bool false) 0 O125 (by kernel_rfl) rfl rfl rfl rfl (by kernel_rfl) ⟨rfl, trivial⟩ rfl rfl) ?_
                  rintro c131 l131 O130
                  refine wln ?_
                  obtain rfl := Option.some.inj H115
                  exact ⟨c131, _, rfl, (l123.trans l131), O130, ups_self ⟨rfl, rfl, rfl, rfl, rfl, rfl, rfl, rfl, rfl, trivial⟩⟩
                · have H115 := ie h129 H115
                  refine W.skip ?_
                  refine nrm ?_
                  obtain rfl := Option.some.inj H115
                  exact ⟨c123, _, rfl, l123, O125, ups_self ⟨rfl, rfl, rfl, rfl, rfl, rfl, rfl, rfl, rfl, trivial⟩⟩
            · skip
              rintro e_ w_ ⟨c132, g133, rfl, l132, O134, rfl⟩
              refine W.region ?_
              refine va (v15) ?_
              refine WL.val0 (v := .agg #[v44, .bool z_102]) rfl (rx (by kernel_rfl) (ldEN (T := 62) (j := 0) (l := [v44, .bool z_102]) (by kernel_rfl) (by kernel_rfl) (O134.on 0 rfl) rfl rfl)) ?_
              obtain ⟨a138, a139, a140, rfl⟩ := ((h111.mono l132)).form
              refine WL.mem rfl (Own.sl (R := R_api_Line) (E := 62) (ls := [[.slice a138 a139 a140, .bool z_102]]) (vs := [.slice a138 a139 a140, .bool z_102]) (xs := ([(⟨z_53.1, z_102⟩ : G_api_Line)] : List G_api_Line)) true O134 (Nat.succ_pos _) rfl ⟨⟨(.slice a138 a139 a140), rfl, (h111.mono l132)⟩, trivial⟩ (by kernel_rfl) (by kernel_rfl)) ?_
              rintro v145 c144 l144 ⟨u142, O141, h143⟩
              obtain ⟨c148, h149, l148, O146, h147⟩ := O141.frz 0 rfl h143
              refine WL.gh h149 ?_
              obtain ⟨x_124, h150, H116⟩ := bs H116
              refine WL.mem rfl (Own.app (R := R_api_Line) (z := .agg #[.slice none 0 0, .bool false]) (by_ := 32) (ty := 47) 2 O146 rfl (h22.mono (l35.trans (l41.trans (l108.trans (l132.trans (l144.trans l148)))))) h147 h150 Tryd.underlying47 (by kernel_rfl) rfl (by kernel_rfl) (by kernel_rfl)) ?_
              rintro v155 c154 l154 ⟨u152, O151, h153⟩
              refine va (v155) ?_
              refine WL.nil ?_
              refine bkn ?_
              refine nrm ?_
              refine W.region ?_
              refine va (.int .i64 s_41.2) ?_
              refine va (.int .i64 (w64 (s_41.2 + 1))) ?_
              refine va (.int .i64 (w64 (s_41.2 + 1))) ?_
              refine WL.nil ?_
              obtain rfl := Option.some.inj H116
              refine ⟨_, rfl, ?_⟩
              have O156 := O151.selD 3 [2] (by kernel_rfl) (by kernel_rfl)
              exact ⟨c154, _, v155, u152, rfl, (l19.trans (l35.trans (l41.trans (l108.trans (l132.trans (l144.trans (l148.trans l154))))))), O156, ups_self ⟨rfl, rfl, rfl, rfl, rfl, rfl, rfl, rfl, trivial⟩, h153⟩
        · have H := ie h26 H
          refine W.exit ?_
          refine thx ?_
          obtain rfl := Option.some.inj H
          refine ⟨_, rfl, rfl, ?_⟩
          exact ⟨c19, _, v15, u16, rfl, l19, O21, ups_self ⟨rfl, trivial⟩, h22⟩
      · skip
        have h158 : OA R_api_Line c6 (.slice none 0 0) [] [] := OA.nil (Nat.succ_pos _)
        have O157 := O8.addHole (e := es true R_api_Line (.slice none 0 0) 62 [] ([] : List G_api_Line)) rfl
        exact ⟨c6, _, (.slice none 0 0), [], rfl, (Cx.le.refl _), O157, ups_self ⟨rfl, rfl, rfl, rfl, rfl, rfl, rfl, rfl, trivial⟩, h158⟩
      · skip
        rintro _ e_ w_ ⟨rfl, c159, g160, v17, u18, rfl, l159, O161, rfl, h162⟩
        refine bke ?_
        refine nrm ?_
        refine sr ?_
        refine va (v17) ?_
        refine va (v17) ?_
        refine wln ?_
        refine W.ret ?_
        obtain rfl := Option.some.inj H14
        obtain ⟨c168, h169, l168, O166, h167⟩ := O161.frz 0 rfl h162
        have O170 := O166.selD 1 [] (by kernel_rfl) (by kernel_rfl)
        refine bqgh h169 ?_
        exact ret1 (v := v17) rfl (by kernel_rfl) ⟨_, c168, rfl, rfl, (l6.trans (l159.trans l168)), v17, O170, rfl, h167⟩

end Go.Proofs.YtohpkblleihmaaaDoor
