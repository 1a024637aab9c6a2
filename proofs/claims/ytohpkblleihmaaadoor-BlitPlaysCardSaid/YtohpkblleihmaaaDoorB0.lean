import Derived.Test.YtohpkblleihmaaaDoorMx
import Derived.Test.YtohpkblleihmaaaDoorProg
import Derived.Test.YtohpkblleihmaaaDoorMy
import Derived.Test.YtohpkblleihmaaaDoorMz
import Derived.Test.YtohpkblleihmaaaDoorA1
import Derived.Test.YtohpkblleihmaaaDoorG1
import Derived.Test.YtohpkblleihmaaaDoorM1
namespace Go.Proofs.YtohpkblleihmaaaDoor
open Go Go.Lt
set_option maxRecDepth 10000
set_option linter.unusedVariables false
attribute [local irreducible] W WL AC
def f_blit_within (p0 : Int) (p1 : Int) (p2 : Int) : Option (Int × Int) :=
  (orE (decide (p1 < 1)) (some (decide (p0 ≥ p2)))).bind fun d_6 =>
  (orE d_6 ((andE (decide (p0 < 0)) (some (decide ((w64 (p1 + p0)) ≤ 0)))).bind fun d_15 =>
  some d_15)).bind fun d_11 =>
  if d_11 = true then
  some (0, 0)
  else
  (if (decide (p0 < 0)) = true then
  (some ((w64 (p1 + p0))) : Option (Int))
  else
  (some (p1) : Option (Int))).bind fun z_29 =>
  some ((imax 0 p0), (w64 ((imax 0 p0) + (imin z_29 (w64 (p2 - (imax 0 p0)))))))
theorem c_blit_within {c0 : Cx} {G : Gm} {F : List En} (O0 : Own c0 G F) (p0 : Int) (p1 : Int) (p2 : Int) {r : Int × Int} (H : f_blit_within p0 p1 p2 = some r) :
    Calls Tryd.prog 117 #[.int .i64 p0, .int .i64 p1, .int .i64 p2] c0.w (Post c0 fun c v => Own c G (F) ∧ v = .tuple #[.int .i64 r.1, .int .i64 r.2]) := by
  unfold f_blit_within at H
  refine enter (l := [.int .i64 p0, .int .i64 p1, .int .i64 p2]) Tryd.func117 rfl rfl rfl ?_
  refine sr ?_
  refine va (.int .i64 0) ?_
  refine va (.int .i64 0) ?_
  refine wln ?_
  refine W.seq ?_
  refine W.seq ?_
  obtain ⟨d_6, h1, H⟩ := bs H
  obtain ⟨d_11, h2, H⟩ := bs H
  refine W.join (fun e w => ∃ (c : Cx) (g : Nat → Value), w = c.w ∧ c0.le c ∧ Own c G (F) ∧ e = ups g [(0, .int .i64 p0), (1, .int .i64 p1), (2, .int .i64 p2), (25, .bool d_11)]) ?_ ?_
  · clear H
    refine W.region ?_
    refine va (.int .i64 p1) ?_
    refine va (.bool (decide (p1 < 1))) ?_
    rcases Bool.eq_false_or_eq_true (decide (p1 < 1)) with h3 | h3
    · skip
      obtain rfl := orT h3 h1
      refine vb h3 ?_
      refine ps ?_
      refine ps ?_
      refine ps ?_
      refine va (.bool true) ?_
      have h4 : true = true := rfl
      obtain rfl := orT h4 h2
      refine vb h4 ?_
      refine ps ?_
      refine ps ?_
      refine ps ?_
      refine ps ?_
      refine ps ?_
      refine ps ?_
      refine ps ?_
      refine ps ?_
      refine va (.bool true) ?_
      refine wln ?_
      exact ⟨c0, _, rfl, (Cx.le.refl _), O0, ups_self ⟨rfl, rfl, rfl, rfl, trivial⟩⟩
    · skip
      have H5 := orF h3 h1
      refine vb h3 ?_
      refine wn ?_
      refine va (.int .i64 p0) ?_
      refine wn ?_
      refine va (.int .i64 p2) ?_
      refine wn ?_
      refine va (.bool (decide (p0 ≥ p2))) ?_
      obtain rfl := Option.some.inj H5
      refine va (.bool (decide (p0 ≥ p2))) ?_
      rcases Bool.eq_false_or_eq_true (decide (p0 ≥ p2)) with h6 | h6
      · skip
        obtain rfl := orT h6 h2
        refine vb h6 ?_
        refine ps ?_
        refine ps ?_
        refine ps ?_
        refine ps ?_
        refine ps ?_
        refine ps ?_
        refine ps ?_
        refine ps ?_
        refine va (.bool true) ?_
        refine wln ?_
        exact ⟨c0, _, rfl, (Cx.le.refl _), O0, ups_self ⟨rfl, rfl, rfl, rfl, trivial⟩⟩
      · skip
        have H7 := orF h6 h2
        refine vb h6 ?_
        refine wn ?_
        refine va (.int .i64 p0) ?_
        refine wn ?_
        refine va (.bool (decide (p0 < 0))) ?_
        refine wn ?_
        obtain ⟨d_15, h8, H7⟩ := bs H7
        rcases Bool.eq_false_or_eq_true (decide (p0 < 0)) with h9 | h9
        · skip
          have H10 := anT h9 h8
          refine vb h9 ?_
          refine wn ?_
          refine va (.int .i64 p1) ?_
          refine wn ?_
          refine va (.int .i64 p0) ?_
          refine wn ?_
          refine va (.int .i64 (w64 (p1 + p0))) ?_
          refine wn ?_
          refine va (.bool (decide ((w64 (p1 + p0)) ≤ 0))) ?_
          refine wn ?_
          obtain rfl := Option.some.inj H10
          refine va (.bool (decide ((w64 (p1 + p0)) ≤ 0))) ?_
          obtain rfl := Option.some.inj H7
          refine va (.bool (decide ((w64 (p1 + p0)) ≤ 0))) ?_
          refine wln ?_
          exact ⟨c0, _, rfl, (Cx.le.refl _), O0, ups_self ⟨rfl, rfl, rfl, rfl, trivial⟩⟩
        · skip
          obtain rfl := anF h9 h8
          refine vb h9 ?_
          refine ps ?_
          refine ps ?_
          refine ps ?_
          refine ps ?_
          refine wn ?_
          refine va (.bool false) ?_
          obtain rfl := Option.some.inj H7
          refine va (.bool false) ?_
          refine wln ?_
          exact ⟨c0, _, rfl, (Cx.le.refl _), O0, ups_self ⟨rfl, rfl, rfl, rfl, trivial⟩⟩
  · skip
    rintro e_ w_ ⟨c11, g12, rfl, l11, O13, rfl⟩
    refine nrm ?_
    refine W.cond (t := d_11) (by kernel_rfl) (fun h17 => ?_) (fun h17 => ?_)
    · have H := it h17 H
      refine sr ?_
      refine va (.int .i64 0) ?_
      refine va (.int .i64 0) ?_
      refine wln ?_
      refine W.ret ?_
      refine thr ?_
      obtain rfl := Option.some.inj H
      exact ret2 (v := .int .i64 0) (v' := .int .i64 0) rfl (by kernel_rfl) (by kernel_rfl) ⟨_, c11, rfl, rfl, l11, O13, rfl⟩
    · have H := ie h17 H
      refine W.skip ?_
      refine nrm ?_
      refine sr ?_
      refine va (.int .i64 p0) ?_
      refine va (.int .i64 (imax 0 p0)) ?_
      refine va (.int .i64 (imax 0 p0)) ?_
      refine wln ?_
      obtain ⟨z_29, H18, H19⟩ := bs H
      refine W.seqJ (fun e w => ∃ (c : Cx) (g : Nat → Value), w = c.w ∧ c11.le c ∧ Own c G (F) ∧ e = ups g [(1, .int .i64 z_29), (2, .int .i64 p2), (8, .int .i64 (imax 0 p0))]) ?_ ?_
      · skip
        refine sr ?_
        refine va (.int .i64 p0) ?_
        refine va (.bool (decide (p0 < 0))) ?_
        refine wln ?_
        refine W.cond (t := decide (p0 < 0)) (by kernel_rfl) (fun h20 => ?_) (fun h20 => ?_)
        · have H18 := it h20 H18
          refine W.region ?_
          refine va (.int .i64 p1) ?_
          refine va (.int .i64 p0) ?_
          refine va (.int .i64 (w64 (p1 + p0))) ?_
          refine va (.int .i64 (w64 (p1 + p0))) ?_
          refine wln ?_
          obtain rfl := Option.some.inj H18
          exact ⟨c11, _, rfl, (Cx.le.refl _), O13, ups_self ⟨rfl, rfl, rfl, trivial⟩⟩
        · have H18 := ie h20 H18
          refine W.skip ?_
          refine nrm ?_
          obtain rfl := Option.some.inj H18
          exact ⟨c11, _, rfl, (Cx.le.refl _), O13, ups_self ⟨rfl, rfl, rfl, trivial⟩⟩
      · skip
        rintro e_ w_ ⟨c21, g22, rfl, l21, O23, rfl⟩
        refine sr ?_
        refine va (.int .i64 (imax 0 p0)) ?_
        refine va (.int .i64 (imax 0 p0)) ?_
        refine va (.int .i64 z_29) ?_
        refine va (.int .i64 p2) ?_
        refine va (.int .i64 (imax 0 p0)) ?_
        refine va (.int .i64 (w64 (p2 - (imax 0 p0)))) ?_
        refine va (.int .i64 (imin z_29 (w64 (p2 - (imax 0 p0))))) ?_
        refine va (.int .i64 (w64 ((imax 0 p0) + (imin z_29 (w64 (p2 - (imax 0 p0))))))) ?_
        refine va (.int .i64 (imax 0 p0)) ?_
        refine va (.int .i64 (w64 ((imax 0 p0) + (imin z_29 (w64 (p2 - (imax 0 p0))))))) ?_
        refine wln ?_
        refine W.ret ?_
        obtain rfl := Option.some.inj H19
        exact ret2 (v := .int .i64 (imax 0 p0)) (v' := .int .i64 (w64 ((imax 0 p0) + (imin z_29 (w64 (p2 - (imax 0 p0))))))) rfl (by kernel_rfl) (by kernel_rfl) ⟨_, c21, rfl, rfl, (l11.trans l21), O23, rfl⟩

def f_blit_whole (p0 : List G_api_Cell) : Option (List G_api_Cell) :=
  (app ([] : List G_api_Cell) p0).bind fun x_5 =>
  (if (decide ((x_5.length : Int) > 0)) = true then
  ((idx x_5 0).bind fun x_18 =>
  if (x_18.Kind == 3) = true then
  (idx x_5 0).bind fun x_25 =>
  (sets x_5 0 (⟨0, ([] : List Int)⟩ : G_api_Cell)).bind fun w_26 =>
  (some (w_26) : Option ((List G_api_Cell)))
  else
  (some (x_5) : Option ((List G_api_Cell)))).bind fun z_16 =>
  (idx z_16 (w64 ((x_5.length : Int) - 1))).bind fun x_31 =>
  if (x_31.Kind == 2) = true then
  (idx z_16 (w64 ((x_5.length : Int) - 1))).bind fun x_40 =>
  (sets z_16 (w64 ((x_5.length : Int) - 1)) (⟨0, ([] : List Int)⟩ : G_api_Cell)).bind fun w_41 =>
  (some (w_41) : Option ((List G_api_Cell)))
  else
  (some (z_16) : Option ((List G_api_Cell)))
  else
  (some (x_5) : Option ((List G_api_Cell)))).bind fun z_8 =>
  some z_8
theorem c_blit_whole {c0 : Cx} {G : Gm} {F : List En} {v1 : Value} (O0 : Own c0 G F) (p0 : List G_api_Cell) {r : List G_api_Cell} (h2 : Sl R_api_Cell c0 v1 p0) (H : f_blit_whole p0 = some r) :
    Calls Tryd.prog 118 #[v1] c0.w (Post c0 fun c v => ∃ y1 : Value, ∃ y2 : List Value, Own c G (es true R_api_Cell y1 27 y2 r :: F) ∧ v = y1 ∧ OA R_api_Cell c y1 y2 r) := by
  unfold f_blit_whole at H
  refine enter (l := [v1]) Tryd.func118 rfl rfl rfl ?_
  refine sr ?_
  refine va (.slice none 0 0) ?_
  refine wln ?_
  refine sr ?_
  refine WL.mem rfl (Own.sl (R := R_api_Cell) (E := 27) (ls := []) (vs := []) (xs := ([] : List G_api_Cell)) true O0 (Nat.succ_pos _) rfl trivial (by kernel_rfl) (by kernel_rfl)) ?_
  rintro v7 c6 l6 ⟨u4, O3, h5⟩
  refine va (v1) ?_
  obtain ⟨x_5, h8, H⟩ := bs H
  refine WL.mem rfl (Own.app (R := R_api_Cell) (z := .agg #[.int .i64 0, .slice none 0 0]) (by_ := 32) (ty := 22) 0 O3 rfl h5 (h2.mono l6) h8 Tryd.underlying22 (by kernel_rfl) rfl (by kernel_rfl) (by kernel_rfl)) ?_
  rintro v13 c12 l12 ⟨u10, O9, h11⟩
  refine va (v13) ?_
  refine wln ?_
  obtain ⟨z_8, H14, H15⟩ := bs H
  refine W.seqJ (fun e w => ∃ (c : Cx) (g : Nat → Value) (v16 : Value) (u17 : List Value), w = c.w ∧ c12.le c ∧ Own c G (es true R_api_Cell v16 27 u17 z_8 :: F) ∧ e = ups g [(3, v16)] ∧ OA R_api_Cell c v16 u17 z_8) ?_ ?_
  · skip
    refine sr ?_
    refine va (v13) ?_
    refine WL.val0 (v := .int .i64 (x_5.length : Int)) rfl (rx (by kernel_rfl) (run_lenO (ty := 3) Tryd.underlying22 h11 _)) ?_
    refine va (.int .i64 (x_5.length : Int)) ?_
    refine wln ?_
    refine sr ?_
    refine va (.int .i64 (x_5.length : Int)) ?_
    refine va (.bool (decide ((x_5.length : Int) > 0))) ?_
    refine wln ?_
    refine W.cond (t := decide ((x_5.length : Int) > 0)) (by kernel_rfl) (fun h18 => ?_) (fun h18 => ?_)
    · have H14 := it h18 H14
      obtain ⟨z_16, H19, H20⟩ := bs H14
      refine W.seqJ (fun e w => ∃ (c : Cx) (g : Nat → Value) (v21 : Value) (u22 : List Value), w = c.w ∧ c12.le c ∧ Own c G (es true R_api_Cell v21 27 u22 z_16 :: F) ∧ e = ups g [(3, v21), (4, .int .i64 (x_5.length : Int))] ∧ OA R_api_Cell c v21 u22 z_16) ?_ ?_
      · skip
        refine sr ?_
        refine va (v13) ?_
        obtain ⟨x_18, h23, H19⟩ := bs H19
        refine WL.val0 (v := .pointer (some ⟨sb v13, (0 : Int).toNat * 2, none⟩)) rfl (rx (by kernel_rfl) (run_indexO (k := .i64) Tryd.underlying22 (by kernel_rfl) h11 h23 _)) ?_
        refine va (.pointer (some ⟨sb v13, (0 : Int).toNat * 2, none⟩)) ?_
        obtain ⟨l_24, h25, m26⟩ := OA.at h11 h23
        obtain ⟨v27, rfl, h28⟩ := h25
        refine WL.val0 (v := .int .i64 x_18.Kind) rfl (rx (by kernel_rfl) (ldE1 Tryd.underlying3 rfl (O9.on 0 rfl) (h11.blk h23) (at1 (j := 0) m26 rfl))) ?_
        refine va (.bool (x_18.Kind == 3)) ?_
        refine wln ?_
        refine W.cond (t := x_18.Kind == 3) (by kernel_rfl) (fun h29 => ?_) (fun h29 => ?_)
        · have H19 := it h29 H19
          refine W.region ?_
          refine va (v13) ?_
          refine va (.agg #[.int .i64 0, .slice none 0 0]) ?_
          obtain ⟨x_25, h30, H19⟩ := bs H19
          refine WL.val0 (v := .pointer (some ⟨sb v13, (0 : Int).toNat * 2, none⟩)) rfl (rx (by kernel_rfl) (run_indexO (k := .i64) Tryd.underlying22 (by kernel_rfl) h11 h30 _)) ?_
          obtain ⟨w_26, h31, H19⟩ := bs H19
          refine WL.memD rfl (Own.stW (R := R_api_Cell) (T := 27) (us := [.int .i64 0, .slice none 0 0]) (x' := (⟨0, ([] : List Int)⟩ : G_api_Cell)) (u := .agg #[.int .i64 0, .slice none 0 0]) 0 O9 (by kernel_rfl) rfl h11 h31 rfl (by kernel_rfl) ⟨rfl, rfl, trivial⟩ rfl ⟨(.slice none 0 0), rfl, (Sl.nl _ _)⟩) ?_
          rintro c35 l35 ⟨u33, O32, h34⟩
          refine wln ?_
          obtain rfl := Option.some.inj H19
          exact ⟨c35, _, v13, u33, rfl, l35, O32, ups_self ⟨rfl, rfl, trivial⟩, h34⟩
        · have H19 := ie h29 H19
          refine W.skip ?_
          refine nrm ?_
          obtain rfl := Option.some.inj H19
          exact ⟨c12, _, v13, u10, rfl, (Cx.le.refl _), O9, ups_self ⟨rfl, rfl, trivial⟩, h11⟩
      · skip
        rintro e_ w_ ⟨c36, g37, v21, u22, rfl, l36, O38, rfl, h39⟩
        refine sr ?_
        refine va (v21) ?_
        refine va (.int .i64 (x_5.length : Int)) ?_
        refine va (.int .i64 (w64 ((x_5.length : Int) - 1))) ?_
        obtain ⟨x_31, h43, H20⟩ := bs H20
        refine WL.val0 (v := .pointer (some ⟨sb v21, (w64 ((x_5.length : Int) - 1)).toNat * 2, none⟩)) rfl (rx (by kernel_rfl) (run_indexO (k := .i64) Tryd.underlying22 (by kernel_rfl) h39 h43 _)) ?_
        refine va (.pointer (some ⟨sb v21, (w64 ((x_5.length : Int) - 1)).toNat * 2, none⟩)) ?_
        obtain ⟨l_44, h45, m46⟩ := OA.at h39 h43
        obtain ⟨v47, rfl, h48⟩ := h45
        refine WL.val0 (v := .int .i64 x_31.Kind) rfl (rx (by kernel_rfl) (ldE1 Tryd.underlying3 rfl (O38.on 0 rfl) (h39.blk h43) (at1 (j := 0) m46 rfl))) ?_
        refine va (.bool (x_31.Kind == 2)) ?_
        refine wln ?_
        refine W.cond (t := x_31.Kind == 2) (by kernel_rfl) (fun h49 => ?_) (fun h49 => ?_)
        · have H20 := it h49 H20
          refine W.region ?_
          refine va (v21) ?_
          refine va (.int .i64 (x_5.length : Int)) ?_
          refine va (.int .i64 (w64 ((x_5.length : Int) - 1))) ?_
          refine va (.agg #[.int .i64 0, .slice none 0 0]) ?_
          obtain ⟨x_40, h50, H20⟩ := bs H20
          refine WL.val0 (v := .pointer (some ⟨sb v21, (w64 ((x_5.length : Int) - 1)).toNat * 2, none⟩)) rfl (rx (by kernel_rfl) (run_indexO (k := .i64) Tryd.underlying22 (by kernel_rfl) h39 h50 _)) ?_
          obtain ⟨w_41, h51, H20⟩ := bs H20
          refine WL.memD rfl (Own.stW (R := R_api_Cell) (T := 27) (us := [.int .i64 0, .slice none 0 0]) (x' := (⟨0, ([] : List Int)⟩ : G_api_Cell)) (u := .agg #[.int .i64 0, .slice none 0 0]) 0 O38 (by kernel_rfl) rfl h39 h51 rfl (by kernel_rfl) ⟨rfl, rfl, trivial⟩ rfl ⟨(.slice none 0 0), rfl, (Sl.nl _ _)⟩) ?_
          rintro c55 l55 ⟨u53, O52, h54⟩
          refine wln ?_
          obtain rfl := Option.some.inj H20
          exact ⟨c55, _, v21, u53, rfl, (l36.trans l55), O52, ups_self ⟨rfl, trivial⟩, h54⟩
        · have H20 := ie h49 H20
          refine W.skip ?_
          refine nrm ?_
          obtain rfl := Option.some.inj H20
          exact ⟨c36, _, v21, u22, rfl, l36, O38, ups_self ⟨rfl, trivial⟩, h39⟩
    · have H14 := ie h18 H14
      refine W.skip ?_
      refine nrm ?_
      obtain rfl := Option.some.inj H14
      exact ⟨c12, _, v13, u10, rfl, (Cx.le.refl _), O9, ups_self ⟨rfl, trivial⟩, h11⟩
  · skip
    rintro e_ w_ ⟨c56, g57, v16, u17, rfl, l56, O58, rfl, h59⟩
    refine sr ?_
    refine va (v16) ?_
    refine va (v16) ?_
    refine wln ?_
    refine W.ret ?_
    obtain rfl := Option.some.inj H15
    exact ret1 (v := v16) rfl (by kernel_rfl) ⟨_, c56, rfl, rfl, (l6.trans (l12.trans l56)), v16, u17, O58, rfl, h59⟩

def f_blit_Take (sg : Sto) (p0 : Option Nat) (p1 : G_blit_Rect) : Option (List G_api_Line) :=
  (f_grid_Grid_High sg p0).bind fun x_9 =>
  (f_blit_within p1.Row p1.High x_9).bind fun x_10 =>
  (f_grid_Grid_Wide sg p0).bind fun x_22 =>
  (f_blit_within p1.Col p1.Wide x_22).bind fun x_23 =>
  (iter (σ := (List G_api_Line) × Int) (τ := (List G_api_Line)) ((x_10.2 - x_10.1).toNat + 1) (fun s_35 =>
  (andE (decide (s_35.2 < x_10.2)) (some (decide (x_23.1 < x_23.2)))).bind fun d_39 =>
  if d_39 = true then
  (f_grid_Grid_Row sg p0 s_35.2).bind fun x_48 =>
  (f_row_Row_Cells sg x_48).bind fun x_49 =>
  (slc x_49 x_23.1 x_23.2).bind fun x_52 =>
  (f_blit_whole x_52).bind fun x_53 =>
  (app s_35.1 ([(⟨x_53, false⟩ : G_api_Line)] : List G_api_Line)).bind fun x_56 =>
  some (.inl (x_56, (w64 (s_35.2 + 1))))
  else
  some (.inr (s_35.1))) (([] : List G_api_Line), x_10.1)).bind fun o_35 =>
  some o_35
theorem c_blit_Take {c0 : Cx} {G : Gm} {F : List En} {sg : Sto} {v1 : Value} (O0 : Own c0 G F) (R0 : Rel c0 sg G) (p0 : Option Nat) (p1 : G_blit_Rect) {r : List G_api_Line} (h2 : Pt 1 c0 v1 p0) (H : f_blit_Take sg p0 p1 = some r) :
    Calls Tryd.prog 57 #[v1, .agg #[.int .i64 p1.Row, .int .i64 p1.Col, .int .i64 p1.Wide, .int .i64 p1.High]] c0.w (Post c0 fun c v => ∃ y1 : Value, ∃ y2 : List Value, Own c G (es true R_api_Line y1 62 y2 r :: F) ∧ v = y1 ∧ OA R_api_Line c y1 y2 r) := by
  unfold f_blit_Take at H
  refine enter (l := [v1, .agg #[.int .i64 p1.Row, .int .i64 p1.Col, .int .i64 p1.Wide, .int .i64 p1.High]]) Tryd.func57 rfl rfl rfl ?_
  refine sr ?_
  refine WL.mem rfl (Own.bx (T := 91) (vs := [.int .i64 p1.Row, .int .i64 p1.Col, .int .i64 p1.Wide, .int .i64 p1.High]) O0 (by kernel_rfl)) ?_
  rintro v7 c6 l6 ⟨b3, rfl, O4, m5⟩
  refine va (.slice none 0 0) ?_
  refine wln ?_
  refine W.seq ?_
  refine W.regionD [] (Kp G0 []) O4 (by kernel_rfl) ?_
  intro c8 l8 O9
  have p10 : Kp G0 [] c8 := Kp.nil0
  refine ta 0 (.pointer (some ⟨b3, 0, none⟩)) ?_
  refine AC.take 1 (.int .i64 p1.Row) rfl (by kernel_rfl) (by kernel_rfl) (fun c' hle => (rx (by kernel_rfl) (run_load1 Tryd.underlying3 rfl ((fun j u hu => (m5 j u hu).mono (l8.trans hle)) 0 _ rfl)))) ?_
  refine ta 2 (.pointer (some ⟨b3, 0 + 3, none⟩)) ?_
  refine AC.take 3 (.int .i64 p1.High) rfl (by kernel_rfl) (by kernel_rfl) (fun c' hle => (rx (by kernel_rfl) (run_load1 Tryd.underlying3 rfl ((fun j u hu => (m5 j u hu).mono (l8.trans hle)) 3 _ rfl)))) ?_
  refine ta 4 (v1) ?_
  obtain ⟨x_9, h11, H⟩ := bs H
  refine AC.one 5 (by kernel_rfl) (Go1.callP 5 rfl (by kernel_rfl) (by kernel_rfl) (by kernel_rfl) (c_grid_Grid_High O9 (R0.mono (l6.trans l8)) p0 (h2.mono (l6.trans l8)) h11) ?_)
  rintro v17 c16 l16 ⟨O13, rfl⟩
  have p18 : Kp G0 [] c16 := Kp.nil0
  refine ⟨.inr p18, ?_⟩
  obtain ⟨x_10, h19, H⟩ := bs H
  refine AC.one 6 (by kernel_rfl) (Go1.callP 6 rfl (by kernel_rfl) (by kernel_rfl) (by kernel_rfl) (c_blit_within O13 p1.Row p1.High x_9 h19) ?_)
  rintro v25 c24 l24 ⟨O21, rfl⟩
  have p26 : Kp G0 [] c24 := Kp.nil0
  refine ⟨.inr p26, ?_⟩
  refine ta 7 (.tuple #[.int .i64 x_10.1, .int .i64 x_10.2]) ?_
  refine ta 8 (.int .i64 x_10.1) ?_
  refine ta 9 (.int .i64 x_10.2) ?_
  refine ta 10 (.int .i64 x_10.1) ?_
  refine ta 11 (.int .i64 x_10.2) ?_
  refine AC.done (by kernel_rfl) ?_
  refine nrm ?_
  refine W.seq ?_
  refine W.regionD [] (Kp G0 []) O21 (by kernel_rfl) ?_
  intro c27 l27 O28
  have p29 : Kp G0 [] c27 := Kp.nil0
  refine ta 0 (.pointer (some ⟨b3, 0 + 1, none⟩)) ?_
  refine AC.take 1 (.int .i64 p1.Col) rfl (by kernel_rfl) (by kernel_rfl) (fun c' hle => (rx (by kernel_rfl) (run_load1 Tryd.underlying3 rfl ((fun j u hu => (m5 j u hu).mono ((l8.trans (l16.trans (l24.trans l27))).trans hle)) 1 _ rfl)))) ?_
  refine ta 2 (.pointer (some ⟨b3, 0 + 2, none⟩)) ?_
  refine AC.take 3 (.int .i64 p1.Wide) rfl (by kernel_rfl) (by kernel_rfl) (fun c' hle => (rx (by kernel_rfl) (run_load1 Tryd.underlying3 rfl ((fun j u hu => (m5 j u hu).mono ((l8.trans (l16.trans (l24.trans l27))).trans hle)) 2 _ rfl)))) ?_
  refine ta 4 (v1) ?_
  obtain ⟨x_22, h30, H⟩ := bs H
  refine AC.one 5 (by kernel_rfl) (Go1.callP 5 rfl (by kernel_rfl) (by kernel_rfl) (by kernel_rfl) (c_grid_Grid_Wide O28 (R0.mono (l6.trans (l8.trans (l16.trans (l24.trans l27))))) p0 (h2.mono (l6.trans (l8.trans (l16.trans (l24.trans l27))))) h30) ?_)
  rintro v36 c35 l35 ⟨O32, rfl⟩
  have p37 : Kp G0 [] c35 := Kp.nil0
  refine ⟨.inr p37, ?_⟩
  obtain ⟨x_23, h38, H⟩ := bs H
  refine AC.one 6 (by kernel_rfl) (Go1.callP 6 rfl (by kernel_rfl) (by kernel_rfl) (by kernel_rfl) (c_blit_within O32 p1.Col p1.Wide x_22 h38) ?_)
  rintro v44 c43 l43 ⟨O40, rfl⟩
  have p45 : Kp G0 [] c43 := Kp.nil0
  refine ⟨.inr p45, ?_⟩
  refine ta 7 (.tuple #[.int .i64 x_23.1, .int .i64 x_23.2]) ?_
  refine ta 8 (.int .i64 x_23.1) ?_
  refine ta 9 (.int .i64 x_23.2) ?_
  refine ta 10 (.int .i64 x_23.1) ?_
  refine ta 11 (.int .i64 x_23.2) ?_
  refine AC.done (by kernel_rfl) ?_
  refine nrm ?_
  refine sr ?_
  refine va (.slice none 0 0) ?_
  refine wln ?_
  refine W.seq ?_
  refine sr ?_
  refine va (.int .i64 x_10.1) ?_
  refine va (.int .i64 x_10.1) ?_
  refine wln ?_
  refine W.block ?_
  obtain ⟨o_35, h46, H47⟩ := bs H
  refine W.loop (σ := (List G_api_Line) × Int) (τ := (List G_api_Line)) (fun s_35 => fun e w => ∃ (c : Cx) (g : Nat → Value) (v48 : Value) (u49 : List Value), w = c.w ∧ c43.le c ∧ Own c G (es true R_api_Line v48 62 u49 s_35.1 :: F) ∧ e = ups g [(0, v1), (6, .int .i64 x_10.2), (7, .int .i64 x_23.1), (8, .int .i64 x_23.2), (9, v48), (10, .int .i64 s_35.2)] ∧ OA R_api_Line c v48 u49 s_35.1) (fun o_35_ ex e w => ex = .exit 0 ∧ (fun e w => ∃ (c : Cx) (g : Nat → Value) (v50 : Value) (u51 : List Value), w = c.w ∧ c43.le c ∧ Own c G (es true R_api_Line v50 62 u51 o_35_ :: F) ∧ e = ups g [(9, v50)] ∧ OA R_api_Line c v50 u51 o_35_) e w) ?_ h46 ?_ ?_
  · clear H47 h46
    intro s_35 xx_ ee_ ww_ H
    revert ee_ ww_
    rintro e_ w_ ⟨c52, g53, v48, u49, rfl, l52, O54, rfl, h55⟩
    refine W.seq ?_
    refine W.seq ?_
    obtain ⟨d_39, h59, H⟩ := bs H
    refine W.join (fun e w => ∃ (c : Cx) (g : Nat → Value), w = c.w ∧ c52.le c ∧ Own c G (es true R_api_Line v48 62 u49 s_35.1 :: F) ∧ e = ups g [(0, v1), (6, .int .i64 x_10.2), (7, .int .i64 x_23.1), (8, .int .i64 x_23.2), (9, v48), (10, .int .i64 s_35.2), (39, .bool d_39)]) ?_ ?_
    · clear H
      refine W.region ?_
      refine va (.int .i64 s_35.2) ?_
      refine va (.int .i64 x_10.2) ?_
      refine va (.bool (decide (s_35.2 < x_10.2))) ?_
      rcases Bool.eq_false_or_eq_true (decide (s_35.2 < x_10.2)) with h60 | h60
      · skip
        have H61 := anT h60 h59
        refine vb h60 ?_
        refine wn ?_
        refine va (.int .i64 x_23.1) ?_
        refine wn ?_
        refine va (.int .i64 x_23.2) ?_
        refine wn ?_
        refine va (.bool (decide (x_23.1 < x_23.2))) ?_
        obtain rfl := Option.some.inj H61
        refine va (.bool (decide (x_23.1 < x_23.2))) ?_
        refine wln ?_
        exact ⟨c52, _, rfl, (Cx.le.refl _), O54, ups_self ⟨rfl, rfl, rfl, rfl, rfl, rfl, rfl, trivial⟩⟩
      · skip
        obtain rfl := anF h60 h59
        refine vb h60 ?_
        refine ps ?_
        refine ps ?_
        refine ps ?_
        refine va (.bool false) ?_
        refine wln ?_
        exact ⟨c52, _, rfl, (Cx.le.refl _), O54, ups_self ⟨rfl, rfl, rfl, rfl, rfl, rfl, rfl, trivial⟩⟩
    · skip
      rintro e_ w_ ⟨c62, g63, rfl, l62, O64, rfl⟩
      refine nrm ?_
      refine W.cond (t := d_39) (by kernel_rfl) (fun h68 => ?_) (fun h68 => ?_)
      · have H := it h68 H
        refine W.skip ?_
        refine nrm ?_
        refine W.seq ?_
        refine W.block ?_
        refine W.region ?_
        refine va (v48) ?_
        refine va (v1) ?_
        refine va (.int .i64 s_35.2) ?_
        obtain ⟨x_48, h69, H⟩ := bs H
        refine WL.callP rfl (by kernel_rfl) (c_grid_Grid_Row O64 (R0.mono (l6.trans (l8.trans (l16.trans (l24.trans (l27.trans (l35.trans (l43.trans (l52.trans l62))))))))) p0 s_35.2 (h2.mono (l6.trans (l8.trans (l16.trans (l24.trans (l27.trans (l35.trans (l43.trans (l52.trans l62))))))))) h69) ?_
        rintro v70 c76 l76 ⟨_, O73, rfl, h71⟩
        obtain ⟨x_49, h78, H⟩ := bs H
        refine WL.callP rfl (by kernel_rfl) (c_row_Row_Cells O73 (R0.mono (l6.trans (l8.trans (l16.trans (l24.trans (l27.trans (l35.trans (l43.trans (l52.trans (l62.trans l76)))))))))) x_48 h71 h78) ?_
        rintro v79 c86 l86 ⟨_, u80, O83, rfl, h81⟩
        refine va (.int .i64 x_23.1) ?_
        refine va (.int .i64 x_23.2) ?_
        obtain ⟨x_52, h88, H⟩ := bs H
        obtain ⟨c91, h92, l91, O89, h90⟩ := O83.frz 0 rfl h81
        refine WL.gh h92 ?_
        obtain ⟨v93, h94, h95⟩ := run_cut (k := .i64) (k' := .i64) Tryd.underlying22 (by kernel_rfl) h90 h88
        refine WL.val0 (v := v93) rfl (rx (by kernel_rfl) (h94 _)) ?_
        obtain ⟨x_53, h96, H⟩ := bs H
        refine WL.callP rfl (by kernel_rfl) (c_blit_whole O89 x_52 h95 h96) ?_
        rintro v97 c104 l104 ⟨_, u98, O101, rfl, h99⟩
        obtain ⟨a106, a107, a108, rfl⟩ := (h99).form
        refine va (.agg #[.slice a106 a107 a108, .bool false]) ?_
        obtain ⟨c111, h112, l111, O109, h110⟩ := O101.frz 0 rfl h99
        refine WL.gh h112 ?_
        refine WL.mem rfl (Own.sl (R := R_api_Line) (E := 62) (ls := [[.slice a106 a107 a108, .bool false]]) (vs := [.slice a106 a107 a108, .bool false]) (xs := ([(⟨x_53, false⟩ : G_api_Line)] : List G_api_Line)) true O109 (Nat.succ_pos _) rfl ⟨⟨(.slice a106 a107 a108), rfl, h110⟩, trivial⟩ (by kernel_rfl) (by kernel_rfl)) ?_
        rintro v117 c116 l116 ⟨u114, O113, h115⟩
        obtain ⟨c120, h121, l120, O118, h119⟩ := O113.frz 0 rfl h115
        refine WL.gh h121 ?_
        obtain ⟨x_56, h122, H⟩ := bs H
        refine WL.mem rfl (Own.app (R := R_api_Line) (z := .agg #[.slice none 0 0, .bool false]) (by_ := 32) (ty := 47) 3 O118 rfl (h55.mono (l62.trans (l76.trans (l86.trans (l91.trans (l104.trans (l111.trans (l116.trans l120)))))))) h119 h122 Tryd.underlying47 (by kernel_rfl) rfl (by kernel_rfl) (by kernel_rfl)) ?_
        rintro v127 c126 l126 ⟨u124, O123, h125⟩
        refine va (v127) ?_
        refine WL.nil ?_
        refine bkn ?_
        refine nrm ?_
        refine W.region ?_
        refine va (.int .i64 s_35.2) ?_
        refine va (.int .i64 (w64 (s_35.2 + 1))) ?_
        refine va (.int .i64 (w64 (s_35.2 + 1))) ?_
        refine WL.nil ?_
        obtain rfl := Option.some.inj H
        refine ⟨_, rfl, ?_⟩
        have O128 := O123.selD 4 [3] (by kernel_rfl) (by kernel_rfl)
        exact ⟨c126, _, v127, u124, rfl, (l52.trans (l62.trans (l76.trans (l86.trans (l91.trans (l104.trans (l111.trans (l116.trans (l120.trans l126))))))))), O128, ups_self ⟨rfl, rfl, rfl, rfl, rfl, rfl, trivial⟩, h125⟩
      · have H := ie h68 H
        refine W.exit ?_
        refine thx ?_
        obtain rfl := Option.some.inj H
        refine ⟨_, rfl, rfl, ?_⟩
        exact ⟨c62, _, v48, u49, rfl, (l52.trans l62), O64, ups_self ⟨rfl, trivial⟩, (h55.mono l62)⟩
  · skip
    have h130 : OA R_api_Line c43 (.slice none 0 0) [] [] := OA.nil (Nat.succ_pos _)
    have O129 := O40.addHole (e := es true R_api_Line (.slice none 0 0) 62 [] ([] : List G_api_Line)) rfl
    exact ⟨c43, _, (.slice none 0 0), [], rfl, (Cx.le.refl _), O129, ups_self ⟨rfl, rfl, rfl, rfl, rfl, rfl, trivial⟩, h130⟩
  · skip
    rintro _ e_ w_ ⟨rfl, c131, g132, v50, u51, rfl, l131, O133, rfl, h134⟩
    refine bke ?_
    refine nrm ?_
    refine sr ?_
    refine va (v50) ?_
    refine va (v50) ?_
    refine wln ?_
    refine W.ret ?_
    obtain rfl := Option.some.inj H47
    exact ret1 (v := v50) rfl (by kernel_rfl) ⟨_, c131, rfl, rfl, (l6.trans (l8.trans (l16.trans (l24.trans (l27.trans (l35.trans (l43.trans l131))))))), v50, u51, O133, rfl, h134⟩

def f_items_Right (p0 : G_api_Item) : Option (Bool) :=
  if ((p0.Text.length : Int) == 0) = true then
  some (p0.Wide == 1)
  else
  (andE (p0.Wide != 1) (some (p0.Wide != 2))).bind fun d_18 =>
  if d_18 = true then
  some false
  else
  (f_cell_Right (⟨1, p0.Text⟩ : G_api_Cell)).bind fun x_30 =>
  some x_30
theorem c_items_Right {c0 : Cx} {G : Gm} {F : List En} {v1 : Value} (O0 : Own c0 G F) (p0 : G_api_Item) {r : Bool} (h2 : Sl (RI .i32) c0 v1 p0.Text) (H : f_items_Right p0 = some r) :
    Calls Tryd.prog 120 #[.agg #[.int .i64 p0.Wide, v1]] c0.w (Post c0 fun c v => Own c G (F) ∧ v = .bool r) := by
  unfold f_items_Right at H
  refine enter (l := [.agg #[.int .i64 p0.Wide, v1]]) Tryd.func120 rfl rfl rfl ?_
  refine sr ?_
  obtain ⟨a3, a4, a5, rfl⟩ := (h2).form
  refine WL.mem rfl (Own.bx (T := 95) (vs := [.int .i64 p0.Wide, .slice a3 a4 a5]) O0 (by kernel_rfl)) ?_
  rintro v10 c9 l9 ⟨b6, rfl, O7, m8⟩
  refine va (.bool false) ?_
  refine wln ?_
  refine W.seq ?_
  refine W.block ?_
  refine sr ?_
  refine va (.pointer (some ⟨b6, 0 + 1, none⟩)) ?_
  refine WL.val0 (v := .slice a3 a4 a5) rfl (rx (by kernel_rfl) (run_load1 Tryd.underlying25 rfl (m8 1 _ rfl))) ?_
  refine WL.val0 (v := .int .i64 (p0.Text.length : Int)) rfl (rx (by kernel_rfl) (run_len (ty := 3) Tryd.underlying25 (h2.mono l9) _)) ?_
  refine va (.bool ((p0.Text.length : Int) == 0)) ?_
  refine va (.bool ((p0.Text.length : Int) == 0)) ?_
  refine wln ?_
  refine W.cond (t := (p0.Text.length : Int) == 0) (by kernel_rfl) (fun h11 => ?_) (fun h11 => ?_)
  · have H := it h11 H
    refine sr ?_
    refine va (.pointer (some ⟨b6, 0, none⟩)) ?_
    refine WL.val0 (v := .int .i64 p0.Wide) rfl (rx (by kernel_rfl) (run_load1 Tryd.underlying3 rfl (m8 0 _ rfl))) ?_
    refine va (.bool (p0.Wide == 1)) ?_
    refine va (.bool (p0.Wide == 1)) ?_
    refine wln ?_
    refine W.ret ?_
    refine bkr ?_
    refine thr ?_
    obtain rfl := Option.some.inj H
    exact ret1 (v := .bool (p0.Wide == 1)) rfl (by kernel_rfl) ⟨_, c9, rfl, rfl, l9, O7, rfl⟩
  · have H := ie h11 H
    refine W.seq ?_
    obtain ⟨d_18, h12, H⟩ := bs H
    refine W.join (fun e w => ∃ (c : Cx) (g : Nat → Value), w = c.w ∧ c9.le c ∧ Own c G (F) ∧ e = ups g [(1, .pointer (some ⟨b6, 0, none⟩)), (11, .bool d_18)]) ?_ ?_
    · clear H
      refine W.region ?_
      refine va (.pointer (some ⟨b6, 0, none⟩)) ?_
      refine WL.val0 (v := .int .i64 p0.Wide) rfl (rx (by kernel_rfl) (run_load1 Tryd.underlying3 rfl (m8 0 _ rfl))) ?_
      refine va (.bool (p0.Wide != 1)) ?_
      rcases Bool.eq_false_or_eq_true (p0.Wide != 1) with h13 | h13
      · skip
        have H14 := anT h13 h12
        refine vb h13 ?_
        refine wn ?_
        refine va (.pointer (some ⟨b6, 0, none⟩)) ?_
        refine wn ?_
        refine WL.val0 (v := .int .i64 p0.Wide) rfl (rx (by kernel_rfl) (run_load1 Tryd.underlying3 rfl (m8 0 _ rfl))) ?_
        refine wn ?_
        refine va (.bool (p0.Wide != 2)) ?_
        obtain rfl := Option.some.inj H14
        refine va (.bool (p0.Wide != 2)) ?_
        refine va (.bool (p0.Wide != 2)) ?_
        refine wln ?_
        exact ⟨c9, _, rfl, (Cx.le.refl _), O7, ups_self ⟨rfl, rfl, trivial⟩⟩
      · skip
        obtain rfl := anF h13 h12
        refine vb h13 ?_
        refine ps ?_
        refine ps ?_
        refine ps ?_
        refine va (.bool false) ?_
        refine va (.bool false) ?_
        refine wln ?_
        exact ⟨c9, _, rfl, (Cx.le.refl _), O7, ups_self ⟨rfl, rfl, trivial⟩⟩
    · skip
      rintro e_ w_ ⟨c15, g16, rfl, l15, O17, rfl⟩
      refine nrm ?_
      refine W.cond (t := d_18) (by kernel_rfl) (fun h21 => ?_) (fun h21 => ?_)
      · have H := it h21 H
        refine sr ?_
        refine va (.bool false) ?_
        refine wln ?_
        refine W.ret ?_
        refine bkr ?_
        refine thr ?_
        obtain rfl := Option.some.inj H
        exact ret1 (v := .bool false) rfl (by kernel_rfl) ⟨_, c15, rfl, rfl, (l9.trans l15), O17, rfl⟩
      · have H := ie h21 H
        refine W.skip ?_
        refine bkn ?_
        refine nrm ?_
        refine sr ?_
        refine va (.pointer (some ⟨b6, 0 + 1, none⟩)) ?_
        refine WL.val0 (v := .slice a3 a4 a5) rfl (rx (by kernel_rfl) (run_load1 Tryd.underlying25 rfl ((fun j u hu => (m8 j u hu).mono l15) 1 _ rfl))) ?_
        refine va (.agg #[.int .i64 1, .slice a3 a4 a5]) ?_
        obtain ⟨x_30, h22, H⟩ := bs H
        refine WL.callP rfl (by kernel_rfl) (c_cell_Right O17 (⟨1, p0.Text⟩ : G_api_Cell) (h2.mono (l9.trans l15)) h22) ?_
        rintro v28 c27 l27 ⟨O24, rfl⟩
        refine va (.bool x_30) ?_
        refine wln ?_
        refine W.ret ?_
        obtain rfl := Option.some.inj H
        exact ret1 (v := .bool x_30) rfl (by kernel_rfl) ⟨_, c27, rfl, rfl, (l9.trans (l15.trans l27)), O24, rfl⟩

def f_blit_Fill (sg : Sto) (p0 : Option Nat) (p1 : G_blit_Rect) (p2 : G_api_Item) : Option (Sto × Int) :=
  (f_items_Right p2).bind fun x_6 =>
  if (!x_6) = true then
  some (sg, 0)
  else
  (f_grid_Grid_High sg p0).bind fun x_16 =>
  (f_blit_within p1.Row p1.High x_16).bind fun x_17 =>
  (f_grid_Grid_Wide sg p0).bind fun x_29 =>
  (f_blit_within p1.Col p1.Wide x_29).bind fun x_30 =>
  if (decide (x_30.1 ≥ x_30.2)) = true then
  some (sg, 0)
  else
  (iter (σ := (List G_api_Cell)) (τ := (List G_api_Cell)) (((w64 (x_30.2 - x_30.1)) - (w64 (0 + p2.Wide))).toNat + 2) (fun s_45 =>
  if (decide ((w64 ((s_45.length : Int) + p2.Wide)) ≤ (w64 (x_30.2 - x_30.1)))) = true then
  (f_cell_Of p2.Wide p2.Text).bind fun x_61 =>
  (app s_45 x_61).bind fun x_62 =>
  some (.inl (x_62))
  else
  some (.inr (s_45))) (([] : List G_api_Cell))).bind fun o_45 =>
  (f_cell_Blanks (w64 ((w64 (x_30.2 - x_30.1)) - (o_45.length : Int)))).bind fun x_72 =>
  (app o_45 x_72).bind fun x_73 =>
  (iter (σ := Int × Sto) (τ := Sto) ((x_17.2 - x_17.1).toNat + 1) (fun s_79 =>
  if (decide (s_79.1 < x_17.2)) = true then
  (f_grid_Grid_Row s_79.2 p0 s_79.1).bind fun x_86 =>
  (f_row_Row_Paint s_79.2 x_86 x_30.1 x_73).bind fun x_89 =>
  some (.inl ((w64 (s_79.1 + 1)), x_89.1))
  else
  some (.inr (s_79.2))) (x_17.1, sg)).bind fun o_79 =>
  some (o_79, (w64 (x_17.2 - x_17.1)))
theorem c_blit_Fill {c0 : Cx} {G : Gm} {F : List En} {sg : Sto} {v1 : Value} {v3 : Value} (O0 : Own c0 G F) (R0 : Rel c0 sg G) (hG : Gl [0, 1] c0) (p0 : Option Nat) (p1 : G_blit_Rect) (p2 : G_api_Item) {r : Sto × Int} (h2 : Pt 1 c0 v1 p0) (h4 : Sl (RI .i32) c0 v3 p2.Text) (H : f_blit_Fill sg p0 p1 p2 = some r) :
    Calls Tryd.prog 58 #[v1, .agg #[.int .i64 p1.Row, .int .i64 p1.Col, .int .i64 p1.Wide, .int .i64 p1.High], .agg #[.int .i64 p2.Wide, v3]] c0.w (Post c0 fun c v => ∃ G_ : Gm, Own c G_ (F) ∧ Rel c r.1 G_ ∧ v = .int .i64 r.2) := by
  unfold f_blit_Fill at H
  refine enter (l := [v1, .agg #[.int .i64 p1.Row, .int .i64 p1.Col, .int .i64 p1.Wide, .int .i64 p1.High], .agg #[.int .i64 p2.Wide, v3]]) Tryd.func58 rfl rfl rfl ?_
  refine sr ?_
  refine WL.mem rfl (Own.bx (T := 91) (vs := [.int .i64 p1.Row, .int .i64 p1.Col, .int .i64 p1.Wide, .int .i64 p1.High]) O0 (by kernel_rfl)) ?_
  rintro v9 c8 l8 ⟨b5, rfl, O6, m7⟩
  obtain ⟨a10, a11, a12, rfl⟩ := ((h4.mono l8)).form
  refine WL.mem rfl (Own.bx (T := 95) (vs := [.int .i64 p2.Wide, .slice a10 a11 a12]) O6 (by kernel_rfl)) ?_
  rintro v17 c16 l16 ⟨b13, rfl, O14, m15⟩
  refine va (.int .i64 0) ?_
  refine wln ?_
  refine W.seq ?_
  refine sr ?_
  refine WL.val0 (v := .agg #[.int .i64 p2.Wide, .slice a10 a11 a12]) rfl (rx (by kernel_rfl) (run_loadN (T := 95) (by kernel_rfl) (by kernel_rfl) m15)) ?_
  obtain ⟨x_6, h18, H⟩ := bs H
  refine WL.callP rfl (by kernel_rfl) (c_items_Right O14 p2 (h4.mono (l8.trans l16)) h18) ?_
  rintro v24 c23 l23 ⟨O20, rfl⟩
  refine va (.bool (!x_6)) ?_
  refine wln ?_
  refine W.cond (t := !x_6) (by kernel_rfl) (fun h25 => ?_) (fun h25 => ?_)
  · have H := it h25 H
    refine sr ?_
    refine va (.int .i64 0) ?_
    refine wln ?_
    refine W.ret ?_
    refine thr ?_
    obtain rfl := Option.some.inj H
    exact ret1 (v := .int .i64 0) rfl (by kernel_rfl) ⟨_, c23, rfl, rfl, (l8.trans (l16.trans l23)), G, O20, (R0.mono (l8.trans (l16.trans l23))), rfl⟩
  · have H := ie h25 H
    refine W.skip ?_
    refine nrm ?_
    refine W.seq ?_
    refine W.regionD [] (Kp G0 []) O20 (by kernel_rfl) ?_
    intro c26 l26 O27
    have p28 : Kp G0 [] c26 := Kp.nil0
    refine ta 0 (.pointer (some ⟨b5, 0, none⟩)) ?_
    refine AC.take 1 (.int .i64 p1.Row) rfl (by kernel_rfl) (by kernel_rfl) (fun c' hle => (rx (by kernel_rfl) (run_load1 Tryd.underlying3 rfl ((fun j u hu => (m7 j u hu).mono ((l16.trans (l23.trans l26)).trans hle)) 0 _ rfl)))) ?_
    refine ta 2 (.pointer (some ⟨b5, 0 + 3, none⟩)) ?_
    refine AC.take 3 (.int .i64 p1.High) rfl (by kernel_rfl) (by kernel_rfl) (fun c' hle => (rx (by kernel_rfl) (run_load1 Tryd.underlying3 rfl ((fun j u hu => (m7 j u hu).mono ((l16.trans (l23.trans l26)).trans hle)) 3 _ rfl)))) ?_
    refine ta 4 (v1) ?_
    obtain ⟨x_16, h29, H⟩ := bs H
    refine AC.one 5 (by kernel_rfl) (Go1.callP 5 rfl (by kernel_rfl) (by kernel_rfl) (by kernel_rfl) (c_grid_Grid_High O27 (R0.mono (l8.trans (l16.trans (l23.trans l26)))) p0 (h2.mono (l8.trans (l16.trans (l23.trans l26)))) h29) ?_)
    rintro v35 c34 l34 ⟨O31, rfl⟩
    have p36 : Kp G0 [] c34 := Kp.nil0
    refine ⟨.inr p36, ?_⟩
    obtain ⟨x_17, h37, H⟩ := bs H
    refine AC.one 6 (by kernel_rfl) (Go1.callP 6 rfl (by kernel_rfl) (by kernel_rfl) (by kernel_rfl) (c_blit_within O31 p1.Row p1.High x_16 h37) ?_)
    rintro v43 c42 l42 ⟨O39, rfl⟩
    have p44 : Kp G0 [] c42 := Kp.nil0
    refine ⟨.inr p44, ?_⟩
    refine ta 7 (.tuple #[.int .i64 x_17.1, .int .i64 x_17.2]) ?_
    refine ta 8 (.int .i64 x_17.1) ?_
    refine ta 9 (.int .i64 x_17.2) ?_
    refine ta 10 (.int .i64 x_17.1) ?_
    refine ta 11 (.int .i64 x_17.2) ?_
    refine AC.done (by kernel_rfl) ?_
    refine nrm ?_
    refine W.seq ?_
    refine W.regionD [] (Kp G0 []) O39 (by kernel_rfl) ?_
    intro c45 l45 O46
    have p47 : Kp G0 [] c45 := Kp.nil0
    refine ta 0 (.pointer (some ⟨b5, 0 + 1, none⟩)) ?_
    refine AC.take 1 (.int .i64 p1.Col) rfl (by kernel_rfl) (by kernel_rfl) (fun c' hle => (rx (by kernel_rfl) (run_load1 Tryd.underlying3 rfl ((fun j u hu => (m7 j u hu).mono ((l16.trans (l23.trans (l26.trans (l34.trans (l42.trans l45))))).trans hle)) 1 _ rfl)))) ?_
    refine ta 2 (.pointer (some ⟨b5, 0 + 2, none⟩)) ?_
    refine AC.take 3 (.int .i64 p1.Wide) rfl (by kernel_rfl) (by kernel_rfl) (fun c' hle => (rx (by kernel_rfl) (run_load1 Tryd.underlying3 rfl ((fun j u hu => (m7 j u hu).mono ((l16.trans (l23.trans (l26.trans (l34.trans (l42.trans l45))))).trans hle)) 2 _ rfl)))) ?_
    refine ta 4 (v1) ?_
    obtain ⟨x_29, h48, H⟩ := bs H
    refine AC.one 5 (by kernel_rfl) (Go1.callP 5 rfl (by kernel_rfl) (by kernel_rfl) (by kernel_rfl) (c_grid_Grid_Wide O46 (R0.mono (l8.trans (l16.trans (l23.trans (l26.trans (l34.trans (l42.trans l45))))))) p0 (h2.mono (l8.trans (l16.trans (l23.trans (l26.trans (l34.trans (l42.trans l45))))))) h48) ?_)
    rintro v54 c53 l53 ⟨O50, rfl⟩
    have p55 : Kp G0 [] c53 := Kp.nil0
    refine ⟨.inr p55, ?_⟩
    obtain ⟨x_30, h56, H⟩ := bs H
    refine AC.one 6 (by kernel_rfl) (Go1.callP 6 rfl (by kernel_rfl) (by kernel_rfl) (by kernel_rfl) (c_blit_within O50 p1.Col p1.Wide x_29 h56) ?_)
    rintro v62 c61 l61 ⟨O58, rfl⟩
    have p63 : Kp G0 [] c61 := Kp.nil0
    refine ⟨.inr p63, ?_⟩
    refine ta 7 (.tuple #[.int .i64 x_30.1, .int .i64 x_30.2]) ?_
    refine ta 8 (.int .i64 x_30.1) ?_
    refine ta 9 (.int .i64 x_30.2) ?_
    refine ta 10 (.int .i64 x_30.1) ?_
    refine ta 11 (.int .i64 x_30.2) ?_
    refine AC.done (by kernel_rfl) ?_
    refine nrm ?_
    refine W.seq ?_
    refine sr ?_
    refine va (.int .i64 x_30.1) ?_
    refine va (.int .i64 x_30.2) ?_
    refine va (.bool (decide (x_30.1 ≥ x_30.2))) ?_
    refine wln ?_
    refine W.cond (t := decide (x_30.1 ≥ x_30.2)) (by kernel_rfl) (fun h64 => ?_) (fun h64 => ?_)
    · have H := it h64 H
      refine sr ?_
      refine va (.int .i64 0) ?_
      refine wln ?_
      refine W.ret ?_
      refine thr ?_
      obtain rfl := Option.some.inj H
      exact ret1 (v := .int .i64 0) rfl (by kernel_rfl) ⟨_, c61, rfl, rfl, (l8.trans (l16.trans (l23.trans (l26.trans (l34.trans (l42.trans (l45.trans (l53.trans l61)))))))), G, O58, (R0.mono (l8.trans (l16.trans (l23.trans (l26.trans (l34.trans (l42.trans (l45.trans (l53.trans l61))))))))), rfl⟩
    · have H := ie h64 H
      refine W.skip ?_
      refine nrm ?_
      refine sr ?_
      refine va (.slice none 0 0) ?_
      refine wln ?_
      refine W.seq ?_
      refine W.block ?_
      obtain ⟨o_45, h65, H66⟩ := bs H
      refine W.loop (σ := (List G_api_Cell)) (τ := (List G_api_Cell)) (fun s_45 => fun e w => ∃ (c : Cx) (g : Nat → Value) (v67 : Value) (u68 : List Value), w = c.w ∧ c61.le c ∧ Own c G (es true R_api_Cell v67 27 u68 s_45 :: F) ∧ e = ups g [(0, v1), (5, .pointer (some ⟨b13, 0, none⟩)), (7, .int .i64 x_17.1), (8, .int .i64 x_17.2), (9, .int .i64 x_30.1), (10, .int .i64 x_30.2), (11, v67)] ∧ OA R_api_Cell c v67 u68 s_45) (fun o_45_ ex e w => ex = .exit 0 ∧ (fun e w => ∃ (c : Cx) (g : Nat → Value) (v69 : Value) (u70 : List Value), w = c.w ∧ c61.le c ∧ Own c G (es true R_api_Cell v69 27 u70 o_45_ :: F) ∧ e = ups g [(0, v1), (7, .int .i64 x_17.1), (8, .int .i64 x_17.2), (9, .int .i64 x_30.1), (10, .int .i64 x_30.2), (11, v69)] ∧ OA R_api_Cell c v69 u70 o_45_) e w) ?_ h65 ?_ ?_
      · clear H66 h65
        intro s_45 xx_ ee_ ww_ H
        revert ee_ ww_
        rintro e_ w_ ⟨c71, g72, v67, u68, rfl, l71, O73, rfl, h74⟩
        refine W.seq ?_
        refine sr ?_
        refine va (v67) ?_
        refine WL.val0 (v := .int .i64 (s_45.length : Int)) rfl (rx (by kernel_rfl) (run_lenO (ty := 3) Tryd.underlying22 h74 _)) ?_
        refine va (.pointer (some ⟨b13, 0, none⟩)) ?_
        refine WL.val0 (v := .int .i64 p2.Wide) rfl (rx (by kernel_rfl) (run_load1 Tryd.underlying3 rfl ((fun j u hu => (m15 j u hu).mono (l23.trans (l26.trans (l34.trans (l42.trans (l45.trans (l53.trans (l61.trans l71)))))))) 0 _ rfl))) ?_
        refine va (.int .i64 (w64 ((s_45.length : Int) + p2.Wide))) ?_
        refine va (.int .i64 x_30.2) ?_
        refine va (.int .i64 x_30.1) ?_
        refine va (.int .i64 (w64 (x_30.2 - x_30.1))) ?_
        refine va (.bool (decide ((w64 ((s_45.length : Int) + p2.Wide)) ≤ (w64 (x_30.2 - x_30.1))))) ?_
        refine wln ?_
        refine W.cond (t := decide ((w64 ((s_45.length : Int) + p2.Wide)) ≤ (w64 (x_30.2 - x_30.1)))) (by kernel_rfl) (fun h78 => ?_) (fun h78 => ?_)
        · have H := it h78 H
          refine W.skip ?_
          refine nrm ?_
          refine W.block ?_
          refine W.region ?_
          refine va (v67) ?_
          refine va (.pointer (some ⟨b13, 0, none⟩)) ?_
          refine WL.val0 (v := .int .i64 p2.Wide) rfl (rx (by kernel_rfl) (run_load1 Tryd.underlying3 rfl ((fun j u hu => (m15 j u hu).mono (l23.trans (l26.trans (l34.trans (l42.trans (l45.trans (l53.trans (l61.trans l71)))))))) 0 _ rfl))) ?_
          refine va (.pointer (some ⟨b13, 0 + 1, none⟩)) ?_
          refine WL.val0 (v := .slice a10 a11 a12) rfl (rx (by kernel_rfl) (run_load1 Tryd.underlying25 rfl ((fun j u hu => (m15 j u hu).mono (l23.trans (l26.trans (l34.trans (l42.trans (l45.trans (l53.trans (l61.trans l71)))))))) 1 _ rfl))) ?_
          obtain ⟨x_61, h79, H⟩ := bs H
          refine WL.callP rfl (by kernel_rfl) (c_cell_Of O73 p2.Wide p2.Text (h4.mono (l8.trans (l16.trans (l23.trans (l26.trans (l34.trans (l42.trans (l45.trans (l53.trans (l61.trans l71)))))))))) h79) ?_
          rintro v80 c87 l87 ⟨_, u81, O84, rfl, h82⟩
          obtain ⟨c91, h92, l91, O89, h90⟩ := O84.frz 0 rfl h82
          refine WL.gh h92 ?_
          obtain ⟨x_62, h93, H⟩ := bs H
          refine WL.mem rfl (Own.app (R := R_api_Cell) (z := .agg #[.int .i64 0, .slice none 0 0]) (by_ := 32) (ty := 22) 1 O89 rfl (h74.mono (l87.trans l91)) h90 h93 Tryd.underlying22 (by kernel_rfl) rfl (by kernel_rfl) (by kernel_rfl)) ?_
          rintro v98 c97 l97 ⟨u95, O94, h96⟩
          refine va (v98) ?_
          refine WL.nil ?_
          refine bkn ?_
          obtain rfl := Option.some.inj H
          refine ⟨_, rfl, ?_⟩
          have O99 := O94.selD 2 [1] (by kernel_rfl) (by kernel_rfl)
          exact ⟨c97, _, v98, u95, rfl, (l71.trans (l87.trans (l91.trans l97))), O99, ups_self ⟨rfl, rfl, rfl, rfl, rfl, rfl, rfl, trivial⟩, h96⟩
        · have H := ie h78 H
          refine W.exit ?_
          refine thx ?_
          obtain rfl := Option.some.inj H
          refine ⟨_, rfl, rfl, ?_⟩
          exact ⟨c71, _, v67, u68, rfl, l71, O73, ups_self ⟨rfl, rfl, rfl, rfl, rfl, rfl, trivial⟩, h74⟩
      · skip
        have h101 : OA R_api_Cell c61 (.slice none 0 0) [] [] := OA.nil (Nat.succ_pos _)
        have O100 := O58.addHole (e := es true R_api_Cell (.slice none 0 0) 27 [] ([] : List G_api_Cell)) rfl
        exact ⟨c61, _, (.slice none 0 0), [], rfl, (Cx.le.refl _), O100, ups_self ⟨rfl, rfl, rfl, rfl, rfl, rfl, rfl, trivial⟩, h101⟩
      · skip
        rintro _ e_ w_ ⟨rfl, c102, g103, v69, u70, rfl, l102, O104, rfl, h105⟩
        refine bke ?_
        refine nrm ?_
        refine sr ?_
        refine va (v69) ?_
        refine va (.int .i64 x_30.2) ?_
        refine va (.int .i64 x_30.1) ?_
        refine va (.int .i64 (w64 (x_30.2 - x_30.1))) ?_
        refine va (v69) ?_
        refine WL.val0 (v := .int .i64 (o_45.length : Int)) rfl (rx (by kernel_rfl) (run_lenO (ty := 3) Tryd.underlying22 h105 _)) ?_
        refine va (.int .i64 (w64 ((w64 (x_30.2 - x_30.1)) - (o_45.length : Int)))) ?_
        obtain ⟨x_72, h109, H66⟩ := bs H66
        refine WL.callP rfl (by kernel_rfl) (c_cell_Blanks O104 (w64 ((w64 (x_30.2 - x_30.1)) - (o_45.length : Int))) h109) ?_
        rintro v110 c117 l117 ⟨_, u111, O114, rfl, h112⟩
        obtain ⟨c121, h122, l121, O119, h120⟩ := O114.frz 0 rfl h112
        refine WL.gh h122 ?_
        obtain ⟨x_73, h123, H66⟩ := bs H66
        refine WL.mem rfl (Own.app (R := R_api_Cell) (z := .agg #[.int .i64 0, .slice none 0 0]) (by_ := 32) (ty := 22) 1 O119 rfl (h105.mono (l117.trans l121)) h120 h123 Tryd.underlying22 (by kernel_rfl) rfl (by kernel_rfl) (by kernel_rfl)) ?_
        rintro v128 c127 l127 ⟨u125, O124, h126⟩
        refine va (v128) ?_
        refine wln ?_
        refine W.seq ?_
        refine sr ?_
        refine va (.int .i64 x_17.1) ?_
        refine va (.int .i64 x_17.1) ?_
        refine wln ?_
        refine W.block ?_
        obtain ⟨o_79, h129, H130⟩ := bs H66
        refine W.loop (σ := Int × Sto) (τ := Sto) (fun s_79 => fun e w => ∃ (c : Cx) (g : Nat → Value) (G_ : Gm), w = c.w ∧ c127.le c ∧ Own c G_ (es false R_api_Cell v110 27 u111 x_72 :: es false R_api_Cell v128 27 u125 x_73 :: F) ∧ e = ups g [(0, v1), (7, .int .i64 x_17.1), (8, .int .i64 x_17.2), (9, .int .i64 x_30.1), (11, v128), (12, .int .i64 s_79.1)] ∧ Rel c s_79.2 G_) (fun o_79_ ex e w => ex = .exit 2 ∧ (fun e w => ∃ (c : Cx) (g : Nat → Value) (G_ : Gm), w = c.w ∧ c127.le c ∧ Own c G_ (es false R_api_Cell v110 27 u111 x_72 :: es false R_api_Cell v128 27 u125 x_73 :: F) ∧ e = ups g [(7, .int .i64 x_17.1), (8, .int .i64 x_17.2)] ∧ Rel c o_79_ G_) e w) ?_ h129 ?_ ?_
        · clear H130 h129
          intro s_79 xx_ ee_ ww_ H66
          revert ee_ ww_
          rintro e_ w_ ⟨c131, g132, G134, rfl, l131, O133, rfl, R135⟩
          refine W.seq ?_
          refine sr ?_
          refine va (.int .i64 s_79.1) ?_
          refine va (.int .i64 x_17.2) ?_
          refine va (.bool (decide (s_79.1 < x_17.2))) ?_
          refine wln ?_
          refine W.cond (t := decide (s_79.1 < x_17.2)) (by kernel_rfl) (fun h137 => ?_) (fun h137 => ?_)
          · have H66 := it h137 H66
            refine W.skip ?_
            refine nrm ?_
            refine W.seq ?_
            refine W.block ?_
            refine W.region ?_
            refine va (v1) ?_
            refine va (.int .i64 s_79.1) ?_
            obtain ⟨x_86, h138, H66⟩ := bs H66
            refine WL.callP rfl (by kernel_rfl) (c_grid_Grid_Row O133 R135 p0 s_79.1 (h2.mono (l8.trans (l16.trans (l23.trans (l26.trans (l34.trans (l42.trans (l45.trans (l53.trans (l61.trans (l102.trans (l117.trans (l121.trans (l127.trans l131)))))))))))))) h138) ?_
            rintro v139 c145 l145 ⟨_, O142, rfl, h140⟩
            refine va (.int .i64 x_30.1) ?_
            refine va (v128) ?_
            have h147 := O142.slf 1 rfl (h126.mono (l131.trans l145))
            obtain ⟨x_89, h148, H66⟩ := bs H66
            refine WL.callP rfl (by kernel_rfl) (c_row_Row_Paint O142 (R135.mono l145) ((hG.mono (l8.trans (l16.trans (l23.trans (l26.trans (l34.trans (l42.trans (l45.trans (l53.trans (l61.trans (l102.trans (l117.trans (l121.trans (l127.trans (l131.trans l145))))))))))))))).le (by decide)) x_86 x_30.1 x_73 h140 h147 h148) ?_
            rintro v149 c155 l155 ⟨_, G151, O152, R153, rfl, h150⟩
            refine WL.nil ?_
            refine bkn ?_
            refine nrm ?_
            refine W.region ?_
            refine va (.int .i64 s_79.1) ?_
            refine va (.int .i64 (w64 (s_79.1 + 1))) ?_
            refine va (.int .i64 (w64 (s_79.1 + 1))) ?_
            refine WL.nil ?_
            obtain rfl := Option.some.inj H66
            refine ⟨_, rfl, ?_⟩
            exact ⟨c155, _, G151, rfl, (l131.trans (l145.trans l155)), O152, ups_self ⟨rfl, rfl, rfl, rfl, rfl, rfl, trivial⟩, R153⟩
          · have H66 := ie h137 H66
            refine W.exit ?_
            refine thx ?_
            obtain rfl := Option.some.inj H66
            refine ⟨_, rfl, rfl, ?_⟩
            exact ⟨c131, _, G134, rfl, l131, O133, ups_self ⟨rfl, rfl, trivial⟩, R135⟩
        · skip
          obtain ⟨c159, h160, l159, O157, h158⟩ := O124.frz 1 rfl h126
          exact ⟨c159, _, G, h160.symm, l159, O157, ups_self ⟨rfl, rfl, rfl, rfl, rfl, rfl, trivial⟩, (R0.mono (l8.trans (l16.trans (l23.trans (l26.trans (l34.trans (l42.trans (l45.trans (l53.trans (l61.trans (l102.trans (l117.trans (l121.trans (l127.trans l159))))))))))))))⟩
        · skip
          rintro _ e_ w_ ⟨rfl, c161, g162, G164, rfl, l161, O163, rfl, R165⟩
          refine bke ?_
          refine nrm ?_
          refine sr ?_
          refine va (.int .i64 x_17.2) ?_
          refine va (.int .i64 x_17.1) ?_
          refine va (.int .i64 (w64 (x_17.2 - x_17.1))) ?_
          refine va (.int .i64 (w64 (x_17.2 - x_17.1))) ?_
          refine wln ?_
          refine W.ret ?_
          obtain rfl := Option.some.inj H130
          have O167 := O163.selD 2 [] (by kernel_rfl) (by kernel_rfl)
          exact ret1 (v := .int .i64 (w64 (x_17.2 - x_17.1))) rfl (by kernel_rfl) ⟨_, c161, rfl, rfl, (l8.trans (l16.trans (l23.trans (l26.trans (l34.trans (l42.trans (l45.trans (l53.trans (l61.trans (l102.trans (l117.trans (l121.trans (l127.trans l161))))))))))))), G164, O167, R165, rfl⟩

def f_linotypelaw59_works (sg : Sto) : Option (Sto × Bool) :=
  (f_linotyperef23_Of 2 ([19968] : List Int)).bind fun x_4 =>
  (app x_4 ([(⟨1, ([97] : List Int)⟩ : G_api_Cell)] : List G_api_Cell)).bind fun x_8 =>
  (f_grid_Of sg ([(⟨x_8, false⟩ : G_api_Line)] : List G_api_Line)).bind fun x_11 =>
  (orE (!x_11.2.2.isNil) (some x_11.2.1.isNone)).bind fun d_20 =>
  if d_20 = true then
  some (x_11.1, false)
  else
  (f_blit_Take x_11.1 x_11.2.1 (⟨0, 1, 2, 1⟩ : G_blit_Rect)).bind fun x_29 =>
  (andE ((x_29.length : Int) == 1) ((idx x_29 0).bind fun x_38 =>
  (f_linotyperef23_Same x_38.Cells ([(⟨0, ([] : List Int)⟩ : G_api_Cell), (⟨1, ([97] : List Int)⟩ : G_api_Cell)] : List G_api_Cell)).bind fun x_45 =>
  some x_45)).bind fun d_35 =>
  (if d_35 = true then (f_blit_Fill x_11.1 x_11.2.1 (⟨0, 0, 9, 9⟩ : G_blit_Rect) (⟨1, ([] : List Int)⟩ : G_api_Item)).bind fun x_51 =>
  some (x_51.2 == 1, x_51.1) else some (false, x_11.1)).bind fun d_46 =>
  some (d_46.2, d_46.1)
theorem c_linotypelaw59_works {c0 : Cx} {G : Gm} {F : List En} {sg : Sto} (O0 : Own c0 G F) (R0 : Rel c0 sg G) (hG : Gl [0, 1] c0) {r : Sto × Bool} (H : f_linotypelaw59_works sg = some r) :
    Calls Tryd.prog 56 #[] c0.w (Post c0 fun c v => ∃ G_ : Gm, Own c G_ (F) ∧ Rel c r.1 G_ ∧ v = .bool r.2) := by
  unfold f_linotypelaw59_works at H
  refine enter (l := []) Tryd.func56 rfl rfl rfl ?_
  refine sr ?_
  refine va (.bool false) ?_
  refine wln ?_
  refine sr ?_
  refine WL.mem rfl (Own.sl (R := (RI .i32)) (E := 21) (ls := [[.int .i32 19968]]) (vs := [.int .i32 19968]) (xs := ([19968] : List Int)) true O0 (Nat.succ_pos _) rfl ⟨rfl, trivial⟩ (by kernel_rfl) (by kernel_rfl)) ?_
  rintro v5 c4 l4 ⟨u2, O1, h3⟩
  obtain ⟨c8, h9, l8, O6, h7⟩ := O1.frz 0 rfl h3
  refine WL.gh h9 ?_
  obtain ⟨x_4, h10, H⟩ := bs H
  refine WL.callP rfl (by kernel_rfl) (c_linotyperef23_Of O6 2 ([19968] : List Int) h7 h10) ?_
  rintro v11 c18 l18 ⟨_, u12, O15, rfl, h13⟩
  refine WL.mem rfl (Own.sl (R := (RI .i32)) (E := 21) (ls := [[.int .i32 97]]) (vs := [.int .i32 97]) (xs := ([97] : List Int)) true O15 (Nat.succ_pos _) rfl ⟨rfl, trivial⟩ (by kernel_rfl) (by kernel_rfl)) ?_
  rintro v24 c23 l23 ⟨u21, O20, h22⟩
  obtain ⟨a25, a26, a27, rfl⟩ := (h22).form
  refine va (.agg #[.int .i64 1, .slice a25 a26 a27]) ?_
  obtain ⟨c30, h31, l30, O28, h29⟩ := O20.frz 0 rfl h22
  refine WL.gh h31 ?_
  refine WL.mem rfl (Own.sl (R := R_api_Cell) (E := 27) (ls := [[.int .i64 1, .slice a25 a26 a27]]) (vs := [.int .i64 1, .slice a25 a26 a27]) (xs := ([(⟨1, ([97] : List Int)⟩ : G_api_Cell)] : List G_api_Cell)) true O28 (Nat.succ_pos _) rfl ⟨⟨(.slice a25 a26 a27), rfl, h29⟩, trivial⟩ (by kernel_rfl) (by kernel_rfl)) ?_
  rintro v36 c35 l35 ⟨u33, O32, h34⟩
  obtain ⟨c39, h40, l39, O37, h38⟩ := O32.frz 0 rfl h34
  refine WL.gh h40 ?_
  obtain ⟨x_8, h41, H⟩ := bs H
  refine WL.mem rfl (Own.app (R := R_api_Cell) (z := .agg #[.int .i64 0, .slice none 0 0]) (by_ := 32) (ty := 22) 2 O37 rfl (h13.mono (l23.trans (l30.trans (l35.trans l39)))) h38 h41 Tryd.underlying22 (by kernel_rfl) rfl (by kernel_rfl) (by kernel_rfl)) ?_
  rintro v46 c45 l45 ⟨u43, O42, h44⟩
  obtain ⟨a47, a48, a49, rfl⟩ := (h44).form
  refine va (.agg #[.slice a47 a48 a49, .bool false]) ?_
  obtain ⟨c52, h53, l52, O50, h51⟩ := O42.frz 2 rfl h44
  refine WL.gh h53 ?_
  refine WL.mem rfl (Own.sl (R := R_api_Line) (E := 62) (ls := [[.slice a47 a48 a49, .bool false]]) (vs := [.slice a47 a48 a49, .bool false]) (xs := ([(⟨x_8, false⟩ : G_api_Line)] : List G_api_Line)) true O50 (Nat.succ_pos _) rfl ⟨⟨(.slice a47 a48 a49), rfl, h51⟩, trivial⟩ (by kernel_rfl) (by kernel_rfl)) ?_
  rintro v58 c57 l57 ⟨u55, O54, h56⟩
  obtain ⟨c61, h62, l61, O59, h60⟩ := O54.frz 0 rfl h56
  refine WL.gh h62 ?_
  obtain ⟨x_11, h63, H⟩ := bs H
  refine WL.callP rfl (by kernel_rfl) (c_grid_Of O59 (R0.mono (l4.trans (l8.trans (l18.trans (l23.trans (l30.trans (l35.trans (l39.trans (l45.trans (l52.trans (l57.trans l61))))))))))) ((hG.mono (l4.trans (l8.trans (l18.trans (l23.trans (l30.trans (l35.trans (l39.trans (l45.trans (l52.trans (l57.trans l61))))))))))).le (by decide)) ([(⟨x_8, false⟩ : G_api_Line)] : List G_api_Line) h60 h63) ?_
  rintro v73 c72 l72 ⟨v64, v66, G68, O69, R70, rfl, h65, h67⟩
  refine va (.tuple #[v64, v66]) ?_
  refine va (v64) ?_
  refine va (v66) ?_
  refine va (v64) ?_
  refine va (v66) ?_
  refine wln ?_
  refine W.seq ?_
  refine W.seq ?_
  obtain ⟨d_20, h74, H⟩ := bs H
  refine W.join (fun e w => ∃ (c : Cx) (g : Nat → Value), w = c.w ∧ c72.le c ∧ Own c G68 (es false R_api_Line v58 62 u55 ([(⟨x_8, false⟩ : G_api_Line)] : List G_api_Line) :: es false R_api_Cell v36 27 u33 ([(⟨1, ([97] : List Int)⟩ : G_api_Cell)] : List G_api_Cell) :: es false (RI .i32) (.slice a25 a26 a27) 21 u21 ([97] : List Int) :: es false R_api_Cell (.slice a47 a48 a49) 27 u43 x_8 :: es false (RI .i32) v5 21 u2 ([19968] : List Int) :: F) ∧ e = ups g [(1, v64), (21, .bool d_20)]) ?_ ?_
  · clear H
    refine W.region ?_
    refine va (v66) ?_
    refine WL.val0 (v := .bool (!x_11.2.2.isNil)) rfl (by rcases (h67).cs with ⟨h1_, h2_⟩ | ⟨b_, h1_, h2_⟩ | ⟨b_, h1_, h2_⟩ <;> (subst h1_; rw [h2_]; kernel_rfl)) ?_
    rcases Bool.eq_false_or_eq_true (!x_11.2.2.isNil) with h75 | h75
    · skip
      obtain rfl := orT h75 h74
      refine vb h75 ?_
      refine ps ?_
      refine ps ?_
      refine va (.bool true) ?_
      refine wln ?_
      exact ⟨c72, _, rfl, (Cx.le.refl _), O69, ups_self ⟨rfl, rfl, trivial⟩⟩
    · skip
      have H76 := orF h75 h74
      refine vb h75 ?_
      refine wn ?_
      refine va (v64) ?_
      refine wn ?_
      refine WL.val0 (v := .bool x_11.2.1.isNone) rfl (by rcases (h65).cs with ⟨h1_, h2_⟩ | ⟨b_, h1_, h2_⟩ <;> (subst h1_; rw [h2_]; kernel_rfl)) ?_
      obtain rfl := Option.some.inj H76
      refine va (.bool x_11.2.1.isNone) ?_
      refine wln ?_
      exact ⟨c72, _, rfl, (Cx.le.refl _), O69, ups_self ⟨rfl, rfl, trivial⟩⟩
  · skip
    rintro e_ w_ ⟨c77, g78, rfl, l77, O79, rfl⟩
    refine nrm ?_
    refine W.cond (t := d_20) (by kernel_rfl) (fun h83 => ?_) (fun h83 => ?_)
    · have H := it h83 H
      refine sr ?_
      refine va (.bool false) ?_
      refine wln ?_
      refine W.ret ?_
      refine thr ?_
      obtain rfl := Option.some.inj H
      have O84 := O79.selD 5 [] (by kernel_rfl) (by kernel_rfl)
      exact ret1 (v := .bool false) rfl (by kernel_rfl) ⟨_, c77, rfl, rfl, (l4.trans (l8.trans (l18.trans (l23.trans (l30.trans (l35.trans (l39.trans (l45.trans (l52.trans (l57.trans (l61.trans (l72.trans l77)))))))))))), G68, O84, (R70.mono l77), rfl⟩
    · have H := ie h83 H
      refine W.skip ?_
      refine nrm ?_
      refine sr ?_
      refine va (v64) ?_
      refine va (.agg #[.int .i64 0, .int .i64 1, .int .i64 2, .int .i64 1]) ?_
      obtain ⟨x_29, h85, H⟩ := bs H
      refine WL.callP rfl (by kernel_rfl) (c_blit_Take O79 (R70.mono l77) x_11.2.1 (⟨0, 1, 2, 1⟩ : G_blit_Rect) (h65.mono l77) h85) ?_
      rintro v86 c93 l93 ⟨_, u87, O90, rfl, h88⟩
      refine va (v86) ?_
      refine wln ?_
      refine W.seq ?_
      obtain ⟨d_35, h95, H⟩ := bs H
      obtain ⟨d_46, h96, H⟩ := bs H
      refine W.join (fun e w => ∃ (c : Cx) (g : Nat → Value) (G_ : Gm), w = c.w ∧ c93.le c ∧ Own c G_ (es true R_api_Line v86 62 u87 x_29 :: es false R_api_Line v58 62 u55 ([(⟨x_8, false⟩ : G_api_Line)] : List G_api_Line) :: es false R_api_Cell v36 27 u33 ([(⟨1, ([97] : List Int)⟩ : G_api_Cell)] : List G_api_Cell) :: es false (RI .i32) (.slice a25 a26 a27) 21 u21 ([97] : List Int) :: es false R_api_Cell (.slice a47 a48 a49) 27 u43 x_8 :: es false (RI .i32) v5 21 u2 ([19968] : List Int) :: F) ∧ e = ups g [(0, .bool d_46.1)] ∧ Rel c d_46.2 G_) ?_ ?_
      · clear H
        refine W.region ?_
        refine va (v86) ?_
        refine WL.val0 (v := .int .i64 (x_29.length : Int)) rfl (rx (by kernel_rfl) (run_lenO (ty := 3) Tryd.underlying47 h88 _)) ?_
        refine va (.bool ((x_29.length : Int) == 1)) ?_
        rcases Bool.eq_false_or_eq_true ((x_29.length : Int) == 1) with h97 | h97
        · skip
          have H98 := anT h97 h95
          refine vb h97 ?_
          refine wn ?_
          refine va (v86) ?_
          refine wn ?_
          obtain ⟨x_38, h99, H98⟩ := bs H98
          refine WL.val0 (v := .pointer (some ⟨sb v86, (0 : Int).toNat * 2, none⟩)) rfl (rx (by kernel_rfl) (run_indexO (k := .i64) Tryd.underlying47 (by kernel_rfl) h88 h99 _)) ?_
          refine wn ?_
          refine va (.pointer (some ⟨sb v86, (0 : Int).toNat * 2, none⟩)) ?_
          refine wn ?_
          obtain ⟨l_100, h101, m102⟩ := OA.at h88 h99
          obtain ⟨v103, rfl, h104⟩ := h101
          refine WL.val0 (v := v103) rfl (rx (by kernel_rfl) (ldE1 Tryd.underlying22 rfl (O90.on 0 rfl) (h88.blk h99) (at1 (j := 0) m102 rfl))) ?_
          refine wn ?_
          refine va (.agg #[.int .i64 0, .slice none 0 0]) ?_
          refine wn ?_
          refine WL.mem rfl (Own.sl (R := (RI .i32)) (E := 21) (ls := [[.int .i32 97]]) (vs := [.int .i32 97]) (xs := ([97] : List Int)) true O90 (Nat.succ_pos _) rfl ⟨rfl, trivial⟩ (by kernel_rfl) (by kernel_rfl)) ?_
          rintro v109 c108 l108 ⟨u106, O105, h107⟩
          refine wn ?_
          obtain ⟨a110, a111, a112, rfl⟩ := (h107).form
          refine va (.agg #[.int .i64 1, .slice a110 a111 a112]) ?_
          refine wn ?_
          obtain ⟨c115, h116, l115, O113, h114⟩ := O105.frz 0 rfl h107
          refine WL.gh h116 ?_
          refine WL.mem rfl (Own.sl (R := R_api_Cell) (E := 27) (ls := [[.int .i64 0, .slice none 0 0], [.int .i64 1, .slice a110 a111 a112]]) (vs := [.int .i64 0, .slice none 0 0, .int .i64 1, .slice a110 a111 a112]) (xs := ([(⟨0, ([] : List Int)⟩ : G_api_Cell), (⟨1, ([97] : List Int)⟩ : G_api_Cell)] : List G_api_Cell)) true O113 (Nat.succ_pos _) rfl ⟨⟨(.slice none 0 0), rfl, (Sl.nl _ _)⟩, ⟨(.slice a110 a111 a112), rfl, h114⟩, trivial⟩ (by kernel_rfl) (by kernel_rfl)) ?_
          rintro v121 c120 l120 ⟨u118, O117, h119⟩
          refine wn ?_
          obtain ⟨c124, h125, l124, O122, h123⟩ := O117.frz 0 rfl h119
          refine WL.gh h125 ?_
          obtain ⟨x_45, h126, H98⟩ := bs H98
          refine WL.callP rfl (by kernel_rfl) (c_linotyperef23_Same O122 x_38.Cells ([(⟨0, ([] : List Int)⟩ : G_api_Cell), (⟨1, ([97] : List Int)⟩ : G_api_Cell)] : List G_api_Cell) (h104.mono (l108.trans (l115.trans (l120.trans l124)))) h123 h126) ?_
          rintro v132 c131 l131 ⟨O128, rfl⟩
          obtain rfl := Option.some.inj H98
          refine va (.bool x_45) ?_
          rcases Bool.eq_false_or_eq_true (x_45) with h133 | h133
          · skip
            have H134 := it h133 h96
            refine vb h133 ?_
            refine wn ?_
            refine va (v64) ?_
            refine wn ?_
            refine va (.agg #[.int .i64 0, .int .i64 0, .int .i64 9, .int .i64 9]) ?_
            refine wn ?_
            refine va (.agg #[.int .i64 1, .slice none 0 0]) ?_
            refine wn ?_
            obtain ⟨x_51, h135, H134⟩ := bs H134
            refine WL.callP rfl (by kernel_rfl) (c_blit_Fill O128 (R70.mono (l77.trans (l93.trans (l108.trans (l115.trans (l120.trans (l124.trans l131))))))) ((hG.mono (l4.trans (l8.trans (l18.trans (l23.trans (l30.trans (l35.trans (l39.trans (l45.trans (l52.trans (l57.trans (l61.trans (l72.trans (l77.trans (l93.trans (l108.trans (l115.trans (l120.trans (l124.trans l131))))))))))))))))))).le (by decide)) x_11.2.1 (⟨0, 0, 9, 9⟩ : G_blit_Rect) (⟨1, ([] : List Int)⟩ : G_api_Item) (h65.mono (l77.trans (l93.trans (l108.trans (l115.trans (l120.trans (l124.trans l131))))))) (Sl.nl _ _) h135) ?_
            rintro v141 c140 l140 ⟨G136, O137, R138, rfl⟩
            refine wn ?_
            refine va (.bool (x_51.2 == 1)) ?_
            obtain rfl := Option.some.inj H134
            refine va (.bool (x_51.2 == 1)) ?_
            refine va (.bool (x_51.2 == 1)) ?_
            refine wln ?_
            have O142 := O137.selD 8 [2, 3, 4, 5, 6, 7] (by kernel_rfl) (by kernel_rfl)
            exact ⟨c140, _, G136, rfl, (l108.trans (l115.trans (l120.trans (l124.trans (l131.trans l140))))), O142, ups_self ⟨rfl, trivial⟩, R138⟩
          · skip
            obtain rfl := Option.some.inj (ie h133 h96)
            refine vb h133 ?_
            refine ps ?_
            refine ps ?_
            refine ps ?_
            refine ps ?_
            refine ps ?_
            refine va (.bool false) ?_
            refine va (.bool false) ?_
            refine wln ?_
            have O143 := O128.selD 8 [2, 3, 4, 5, 6, 7] (by kernel_rfl) (by kernel_rfl)
            exact ⟨c131, _, G68, rfl, (l108.trans (l115.trans (l120.trans (l124.trans l131)))), O143, ups_self ⟨rfl, trivial⟩, (R70.mono (l77.trans (l93.trans (l108.trans (l115.trans (l120.trans (l124.trans l131)))))))⟩
        · skip
          obtain rfl := anF h97 h95
          refine vb h97 ?_
          refine ps ?_
          refine ps ?_
          refine ps ?_
          refine ps ?_
          refine ps ?_
          refine ps ?_
          refine ps ?_
          refine ps ?_
          refine ps ?_
          refine va (.bool false) ?_
          have h144 : false = false := rfl
          obtain rfl := Option.some.inj (ie h144 h96)
          refine vb h144 ?_
          refine ps ?_
          refine ps ?_
          refine ps ?_
          refine ps ?_
          refine ps ?_
          refine va (.bool false) ?_
          refine va (.bool false) ?_
          refine wln ?_
          exact ⟨c93, _, G68, rfl, (Cx.le.refl _), O90, ups_self ⟨rfl, trivial⟩, (R70.mono (l77.trans l93))⟩
      · skip
        rintro e_ w_ ⟨c145, g146, G148, rfl, l145, O147, rfl, R149⟩
        refine nrm ?_
        refine W.ret ?_
        obtain rfl := Option.some.inj H
        have O151 := O147.selD 6 [] (by kernel_rfl) (by kernel_rfl)
        exact ret1 (v := .bool d_46.1) rfl (by kernel_rfl) ⟨_, c145, rfl, rfl, (l4.trans (l8.trans (l18.trans (l23.trans (l30.trans (l35.trans (l39.trans (l45.trans (l52.trans (l57.trans (l61.trans (l72.trans (l77.trans (l93.trans l145)))))))))))))), G148, O151, R149, rfl⟩

def f_blit_line (sg : Sto) (p0 : Option Nat) (p1 : Int) (p2 : Int) (p3 : List G_api_Cell) : Option (Sto × Bool) :=
  (f_grid_Grid_Wide sg p0).bind fun x_7 =>
  (f_blit_within p2 (p3.length : Int) x_7).bind fun x_8 =>
  (orE (decide (x_8.1 ≥ x_8.2)) ((f_cell_Sound p3).bind fun x_21 =>
  some (!x_21))).bind fun d_18 =>
  if d_18 = true then
  some (sg, false)
  else
  (slc p3 (w64 (x_8.1 - p2)) (w64 ((w64 ((w64 (x_8.1 - p2)) + x_8.2)) - x_8.1))).bind fun x_41 =>
  (f_grid_Grid_Row sg p0 p1).bind fun x_42 =>
  (f_blit_whole x_41).bind fun x_43 =>
  (f_row_Row_Paint sg x_42 x_8.1 x_43).bind fun x_44 =>
  some (x_44.1, x_44.2.isNil)
theorem c_blit_line {c0 : Cx} {G : Gm} {F : List En} {sg : Sto} {v1 : Value} {v3 : Value} (O0 : Own c0 G F) (R0 : Rel c0 sg G) (hG : Gl [0, 1] c0) (p0 : Option Nat) (p1 : Int) (p2 : Int) (p3 : List G_api_Cell) {r : Sto × Bool} (h2 : Pt 1 c0 v1 p0) (h4 : Sl R_api_Cell c0 v3 p3) (H : f_blit_line sg p0 p1 p2 p3 = some r) :
    Calls Tryd.prog 121 #[v1, .int .i64 p1, .int .i64 p2, v3] c0.w (Post c0 fun c v => ∃ G_ : Gm, Own c G_ (F) ∧ Rel c r.1 G_ ∧ v = .bool r.2) := by
  unfold f_blit_line at H
  refine enter (l := [v1, .int .i64 p1, .int .i64 p2, v3]) Tryd.func121 rfl rfl rfl ?_
  refine sr ?_
  refine va (.bool false) ?_
  refine wln ?_
  refine sr ?_
  refine va (.int .i64 p2) ?_
  refine va (v3) ?_
  refine WL.val0 (v := .int .i64 (p3.length : Int)) rfl (rx (by kernel_rfl) (run_len (ty := 3) Tryd.underlying22 h4 _)) ?_
  refine va (v1) ?_
  obtain ⟨x_7, h5, H⟩ := bs H
  refine WL.callP rfl (by kernel_rfl) (c_grid_Grid_Wide O0 R0 p0 h2 h5) ?_
  rintro v11 c10 l10 ⟨O7, rfl⟩
  obtain ⟨x_8, h12, H⟩ := bs H
  refine WL.callP rfl (by kernel_rfl) (c_blit_within O7 p2 (p3.length : Int) x_7 h12) ?_
  rintro v18 c17 l17 ⟨O14, rfl⟩
  refine va (.tuple #[.int .i64 x_8.1, .int .i64 x_8.2]) ?_
  refine va (.int .i64 x_8.1) ?_
  refine va (.int .i64 x_8.2) ?_
  refine va (.int .i64 x_8.1) ?_
  refine va (.int .i64 x_8.2) ?_
  refine wln ?_
  refine W.seq ?_
  refine W.seq ?_
  obtain ⟨d_18, h19, H⟩ := bs H
  refine W.join (fun e w => ∃ (c : Cx) (g : Nat → Value), w = c.w ∧ c17.le c ∧ Own c G (F) ∧ e = ups g [(0, v1), (1, .int .i64 p1), (2, .int .i64 p2), (3, v3), (9, .int .i64 x_8.1), (10, .int .i64 x_8.2), (28, .bool d_18)]) ?_ ?_
  · clear H
    refine W.region ?_
    refine va (.int .i64 x_8.1) ?_
    refine va (.int .i64 x_8.2) ?_
    refine va (.bool (decide (x_8.1 ≥ x_8.2))) ?_
    rcases Bool.eq_false_or_eq_true (decide (x_8.1 ≥ x_8.2)) with h20 | h20
    · skip
      obtain rfl := orT h20 h19
      refine vb h20 ?_
      refine ps ?_
      refine ps ?_
      refine ps ?_
      refine va (.bool true) ?_
      refine wln ?_
      exact ⟨c17, _, rfl, (Cx.le.refl _), O14, ups_self ⟨rfl, rfl, rfl, rfl, rfl, rfl, rfl, trivial⟩⟩
    · skip
      have H21 := orF h20 h19
      refine vb h20 ?_
      refine wn ?_
      refine va (v3) ?_
      refine wn ?_
      obtain ⟨x_21, h22, H21⟩ := bs H21
      refine WL.callP rfl (by kernel_rfl) (c_cell_Sound O14 p3 (h4.mono (l10.trans l17)) h22) ?_
      rintro v28 c27 l27 ⟨O24, rfl⟩
      refine wn ?_
      refine va (.bool (!x_21)) ?_
      obtain rfl := Option.some.inj H21
      refine va (.bool (!x_21)) ?_
      refine wln ?_
      exact ⟨c27, _, rfl, l27, O24, ups_self ⟨rfl, rfl, rfl, rfl, rfl, rfl, rfl, trivial⟩⟩
  · skip
    rintro e_ w_ ⟨c29, g30, rfl, l29, O31, rfl⟩
    refine nrm ?_
    refine W.cond (t := d_18) (by kernel_rfl) (fun h35 => ?_) (fun h35 => ?_)
    · have H := it h35 H
      refine sr ?_
      refine va (.bool false) ?_
      refine wln ?_
      refine W.ret ?_
      refine thr ?_
      obtain rfl := Option.some.inj H
      exact ret1 (v := .bool false) rfl (by kernel_rfl) ⟨_, c29, rfl, rfl, (l10.trans (l17.trans l29)), G, O31, (R0.mono (l10.trans (l17.trans l29))), rfl⟩
    · have H := ie h35 H
      refine W.skip ?_
      refine nrm ?_
      refine sr ?_
      refine va (.int .i64 x_8.1) ?_
      refine va (.int .i64 p2) ?_
      refine va (.int .i64 (w64 (x_8.1 - p2))) ?_
      refine va (.int .i64 (w64 (x_8.1 - p2))) ?_
      refine wln ?_
      refine W.seq ?_
      refine W.regionD [] (Kp G0 []) O31 (by kernel_rfl) ?_
      intro c36 l36 O37
      have p38 : Kp G0 [] c36 := Kp.nil0
      refine ta 0 (v1) ?_
      refine ta 1 (.int .i64 p1) ?_
      refine ta 3 (.int .i64 x_8.1) ?_
      refine ta 4 (v3) ?_
      refine ta 5 (.int .i64 (w64 (x_8.1 - p2))) ?_
      refine ta 6 (.int .i64 (w64 (x_8.1 - p2))) ?_
      refine ta 7 (.int .i64 x_8.2) ?_
      refine ta 8 (.int .i64 (w64 ((w64 (x_8.1 - p2)) + x_8.2))) ?_
      refine ta 9 (.int .i64 x_8.1) ?_
      refine ta 10 (.int .i64 (w64 ((w64 ((w64 (x_8.1 - p2)) + x_8.2)) - x_8.1))) ?_
      obtain ⟨x_41, h39, H⟩ := bs H
      obtain ⟨v40, h41, h42⟩ := run_cut (k := .i64) (k' := .i64) Tryd.underlying22 (by kernel_rfl) (h4.mono (l10.trans (l17.trans (l29.trans l36)))) h39
      refine AC.take 11 (v40) rfl (by kernel_rfl) (by kernel_rfl) (fun c' hle => (rx (by kernel_rfl) (h41 _))) ?_
      obtain ⟨x_42, h43, H⟩ := bs H
      refine AC.one 2 (by kernel_rfl) (Go1.callP 2 rfl (by kernel_rfl) (by kernel_rfl) (by kernel_rfl) (c_grid_Grid_Row O37 (R0.mono (l10.trans (l17.trans (l29.trans l36)))) p0 p1 (h2.mono (l10.trans (l17.trans (l29.trans l36)))) h43) ?_)
      rintro v44 c50 l50 ⟨_, O47, rfl, h45⟩
      have p52 : Kp G0 [] c50 := Kp.nil0
      refine ⟨.inr p52, ?_⟩
      obtain ⟨x_43, h53, H⟩ := bs H
      refine AC.one 12 (by kernel_rfl) (Go1.callP 12 rfl (by kernel_rfl) (by kernel_rfl) (by kernel_rfl) (c_blit_whole O47 x_41 (h42.mono l50) h53) ?_)
      rintro v54 c61 l61 ⟨_, u55, O58, rfl, h56⟩
      have p63 : Kp G0 [] c61 := Kp.nil0
      refine ⟨.inr p63, ?_⟩
      obtain ⟨c66, h67, l66, O64, h65⟩ := O58.frz 0 rfl h56
      have p68 : Kp G0 [] c66 := Kp.nil0
      refine AC.gh h67 l66 (fun _ => p68) ?_
      obtain ⟨x_44, h69, H⟩ := bs H
      refine AC.one 13 (by kernel_rfl) (Go1.callP 13 rfl (by kernel_rfl) (by kernel_rfl) (by kernel_rfl) (c_row_Row_Paint O64 (R0.mono (l10.trans (l17.trans (l29.trans (l36.trans (l50.trans (l61.trans l66))))))) ((hG.mono (l10.trans (l17.trans (l29.trans (l36.trans (l50.trans (l61.trans l66))))))).le (by decide)) x_42 x_8.1 x_43 (h45.mono (l61.trans l66)) h65 h69) ?_)
      rintro v70 c76 l76 ⟨_, G72, O73, R74, rfl, h71⟩
      have p78 : Kp G0 [] c76 := Kp.nil0
      refine ⟨.inr p78, ?_⟩
      refine AC.take 14 (.bool x_44.2.isNil) rfl (by kernel_rfl) (by kernel_rfl) (fun c' hle => (by rcases (h71).cs with ⟨h1_, h2_⟩ | ⟨b_, h1_, h2_⟩ | ⟨b_, h1_, h2_⟩ <;> (subst h1_; rw [h2_]; kernel_rfl))) ?_
      refine ta 15 (.bool x_44.2.isNil) ?_
      refine AC.done (by kernel_rfl) ?_
      refine nrm ?_
      refine W.ret ?_
      obtain rfl := Option.some.inj H
      have O79 := O73.selD 1 [] (by kernel_rfl) (by kernel_rfl)
      exact ret1 (v := .bool x_44.2.isNil) rfl (by kernel_rfl) ⟨_, c76, rfl, rfl, (l10.trans (l17.trans (l29.trans (l36.trans (l50.trans (l61.trans (l66.trans l76))))))), G72, O79, R74, rfl⟩

def f_blit_Put (sg : Sto) (p0 : Option Nat) (p1 : Int) (p2 : Int) (p3 : List G_api_Line) : Option (Sto × Int) :=
  (f_grid_Grid_High sg p0).bind fun x_9 =>
  (f_blit_within p1 (p3.length : Int) x_9).bind fun x_10 =>
  (iter (σ := Int × Int × Sto) (τ := (Int × Sto)) ((x_10.2 - x_10.1).toNat + 1) (fun s_20 =>
  if (decide (s_20.2.1 < x_10.2)) = true then
  ((idx p3 (w64 (s_20.2.1 - p1))).bind fun x_33 =>
  (f_blit_line s_20.2.2 p0 s_20.2.1 p2 x_33.Cells).bind fun x_36 =>
  if x_36.2 = true then
  (some ((w64 (s_20.1 + 1)), x_36.1) : Option (Int × Sto))
  else
  (some (s_20.1, x_36.1) : Option (Int × Sto))).bind fun z_25 =>
  some (.inl (z_25.1, (w64 (s_20.2.1 + 1)), z_25.2))
  else
  some (.inr (s_20.1, s_20.2.2))) (0, x_10.1, sg)).bind fun o_20 =>
  some (o_20.2, o_20.1)
theorem c_blit_Put {c0 : Cx} {G : Gm} {F : List En} {sg : Sto} {v1 : Value} {v3 : Value} (O0 : Own c0 G F) (R0 : Rel c0 sg G) (hG : Gl [0, 1] c0) (p0 : Option Nat) (p1 : Int) (p2 : Int) (p3 : List G_api_Line) {r : Sto × Int} (h2 : Pt 1 c0 v1 p0) (h4 : Sl R_api_Line c0 v3 p3) (H : f_blit_Put sg p0 p1 p2 p3 = some r) :
    Calls Tryd.prog 59 #[v1, .int .i64 p1, .int .i64 p2, v3] c0.w (Post c0 fun c v => ∃ G_ : Gm, Own c G_ (F) ∧ Rel c r.1 G_ ∧ v = .int .i64 r.2) := by
  unfold f_blit_Put at H
  refine enter (l := [v1, .int .i64 p1, .int .i64 p2, v3]) Tryd.func59 rfl rfl rfl ?_
  refine sr ?_
  refine va (.int .i64 0) ?_
  refine wln ?_
  refine sr ?_
  refine va (.int .i64 0) ?_
  refine wln ?_
  refine sr ?_
  refine va (.int .i64 p1) ?_
  refine va (v3) ?_
  refine WL.val0 (v := .int .i64 (p3.length : Int)) rfl (rx (by kernel_rfl) (run_len (ty := 3) Tryd.underlying47 h4 _)) ?_
  refine va (v1) ?_
  obtain ⟨x_9, h5, H⟩ := bs H
  refine WL.callP rfl (by kernel_rfl) (c_grid_Grid_High O0 R0 p0 h2 h5) ?_
  rintro v11 c10 l10 ⟨O7, rfl⟩
  obtain ⟨x_10, h12, H⟩ := bs H
  refine WL.callP rfl (by kernel_rfl) (c_blit_within O7 p1 (p3.length : Int) x_9 h12) ?_
  rintro v18 c17 l17 ⟨O14, rfl⟩
  refine va (.tuple #[.int .i64 x_10.1, .int .i64 x_10.2]) ?_
  refine va (.int .i64 x_10.1) ?_
  refine va (.int .i64 x_10.2) ?_
  refine va (.int .i64 x_10.1) ?_
  refine va (.int .i64 x_10.2) ?_
  refine wln ?_
  refine W.seq ?_
  refine sr ?_
  refine va (.int .i64 x_10.1) ?_
  refine va (.int .i64 x_10.1) ?_
  refine wln ?_
  refine W.block ?_
  obtain ⟨o_20, h19, H20⟩ := bs H
  refine W.loop (σ := Int × Int × Sto) (τ := (Int × Sto)) (fun s_20 => fun e w => ∃ (c : Cx) (g : Nat → Value) (G_ : Gm), w = c.w ∧ c17.le c ∧ Own c G_ (F) ∧ e = ups g [(0, v1), (1, .int .i64 p1), (2, .int .i64 p2), (3, v3), (9, .int .i64 s_20.1), (11, .int .i64 x_10.2), (12, .int .i64 s_20.2.1)] ∧ Rel c s_20.2.2 G_) (fun o_20_ ex e w => ex = .exit 0 ∧ (fun e w => ∃ (c : Cx) (g : Nat → Value) (G_ : Gm), w = c.w ∧ c17.le c ∧ Own c G_ (F) ∧ e = ups g [(9, .int .i64 o_20_.1)] ∧ Rel c o_20_.2 G_) e w) ?_ h19 ?_ ?_
  · clear H20 h19
    intro s_20 xx_ ee_ ww_ H
    revert ee_ ww_
    rintro e_ w_ ⟨c21, g22, G24, rfl, l21, O23, rfl, R25⟩
    refine W.seq ?_
    refine sr ?_
    refine va (.int .i64 s_20.2.1) ?_
    refine va (.int .i64 x_10.2) ?_
    refine va (.bool (decide (s_20.2.1 < x_10.2))) ?_
    refine wln ?_
    refine W.cond (t := decide (s_20.2.1 < x_10.2)) (by kernel_rfl) (fun h27 => ?_) (fun h27 => ?_)
    · have H := it h27 H
      refine W.skip ?_
      refine nrm ?_
      obtain ⟨z_25, H28, H29⟩ := bs H
      refine W.seqJ (fun e w => ∃ (c : Cx) (g : Nat → Value) (G_ : Gm), w = c.w ∧ c21.le c ∧ Own c G_ (F) ∧ e = ups g [(0, v1), (1, .int .i64 p1), (2, .int .i64 p2), (3, v3), (9, .int .i64 z_25.1), (11, .int .i64 x_10.2), (12, .int .i64 s_20.2.1)] ∧ Rel c z_25.2 G_) ?_ ?_
      · skip
        refine W.block ?_
        refine sr ?_
        refine va (v1) ?_
        refine va (.int .i64 s_20.2.1) ?_
        refine va (.int .i64 p2) ?_
        refine va (v3) ?_
        refine va (.int .i64 s_20.2.1) ?_
        refine va (.int .i64 p1) ?_
        refine va (.int .i64 (w64 (s_20.2.1 - p1))) ?_
        obtain ⟨x_33, h30, H28⟩ := bs H28
        obtain ⟨l_31, h32, m33⟩ := Sl.at (h4.mono (l10.trans (l17.trans l21))) (idx_get h30)
        obtain ⟨v34, rfl, h35⟩ := h32
        refine WL.val0 (v := .pointer (some ⟨sb v3, so v3 + (w64 (s_20.2.1 - p1)).toNat * 2, none⟩)) rfl (rx (by kernel_rfl) (run_index (k := .i64) Tryd.underlying47 (by kernel_rfl) (h4.mono (l10.trans (l17.trans l21))) h30 _)) ?_
        refine va (.pointer (some ⟨sb v3, so v3 + (w64 (s_20.2.1 - p1)).toNat * 2, none⟩)) ?_
        refine WL.val0 (v := v34) rfl (rx (by kernel_rfl) (run_load1 Tryd.underlying22 rfl (m33 0 _ rfl))) ?_
        obtain ⟨x_36, h36, H28⟩ := bs H28
        refine WL.callP rfl (by kernel_rfl) (c_blit_line O23 R25 ((hG.mono (l10.trans (l17.trans l21))).le (by decide)) p0 s_20.2.1 p2 x_33.Cells (h2.mono (l10.trans (l17.trans l21))) h35 h36) ?_
        rintro v42 c41 l41 ⟨G37, O38, R39, rfl⟩
        refine wln ?_
        refine W.cond (t := x_36.2) (by kernel_rfl) (fun h43 => ?_) (fun h43 => ?_)
        · have H28 := it h43 H28
          refine W.region ?_
          refine va (.int .i64 s_20.1) ?_
          refine va (.int .i64 (w64 (s_20.1 + 1))) ?_
          refine va (.int .i64 (w64 (s_20.1 + 1))) ?_
          refine WL.nil ?_
          refine bkn ?_
          refine nrm ?_
          obtain rfl := Option.some.inj H28
          exact ⟨c41, _, G37, rfl, l41, O38, ups_self ⟨rfl, rfl, rfl, rfl, rfl, rfl, rfl, trivial⟩, R39⟩
        · have H28 := ie h43 H28
          refine W.skip ?_
          refine bkn ?_
          refine nrm ?_
          obtain rfl := Option.some.inj H28
          exact ⟨c41, _, G37, rfl, l41, O38, ups_self ⟨rfl, rfl, rfl, rfl, rfl, rfl, rfl, trivial⟩, R39⟩
      · skip
        rintro e_ w_ ⟨c44, g45, G47, rfl, l44, O46, rfl, R48⟩
        refine W.region ?_
        refine va (.int .i64 s_20.2.1) ?_
        refine va (.int .i64 (w64 (s_20.2.1 + 1))) ?_
        refine va (.int .i64 (w64 (s_20.2.1 + 1))) ?_
        refine WL.nil ?_
        obtain rfl := Option.some.inj H29
        refine ⟨_, rfl, ?_⟩
        exact ⟨c44, _, G47, rfl, (l21.trans l44), O46, ups_self ⟨rfl, rfl, rfl, rfl, rfl, rfl, rfl, trivial⟩, R48⟩
    · have H := ie h27 H
      refine W.exit ?_
      refine thx ?_
      obtain rfl := Option.some.inj H
      refine ⟨_, rfl, rfl, ?_⟩
      exact ⟨c21, _, G24, rfl, l21, O23, ups_self ⟨rfl, trivial⟩, R25⟩
  · skip
    exact ⟨c17, _, G, rfl, (Cx.le.refl _), O14, ups_self ⟨rfl, rfl, rfl, rfl, rfl, rfl, rfl, trivial⟩, (R0.mono (l10.trans l17))⟩
  · skip
    rintro _ e_ w_ ⟨rfl, c50, g51, G53, rfl, l50, O52, rfl, R54⟩
    refine bke ?_
    refine nrm ?_
    refine sr ?_
    refine va (.int .i64 o_20.1) ?_
    refine va (.int .i64 o_20.1) ?_
    refine wln ?_
    refine W.ret ?_
    obtain rfl := Option.some.inj H20
    exact ret1 (v := .int .i64 o_20.1) rfl (by kernel_rfl) ⟨_, c50, rfl, rfl, (l10.trans (l17.trans l50)), G53, O52, R54, rfl⟩

end Go.Proofs.YtohpkblleihmaaaDoor
