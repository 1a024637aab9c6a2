import Derived.Test.YtohpkblleihmaaaDoorMx
import Derived.Test.YtohpkblleihmaaaDoorProg
import Derived.Test.YtohpkblleihmaaaDoorMy
import Derived.Test.YtohpkblleihmaaaDoorMz
import Derived.Test.YtohpkblleihmaaaDoorA1
import Derived.Test.YtohpkblleihmaaaDoorG1
import Derived.Test.YtohpkblleihmaaaDoorM1
import Derived.Test.YtohpkblleihmaaaDoorB0
namespace Go.Proofs.YtohpkblleihmaaaDoor
open Go Go.Lt
set_option maxRecDepth 10000
set_option linter.unusedVariables false
attribute [local irreducible] W WL AC
def f_linotyperef59_in (p0 : Int) (p1 : Int) (p2 : Int) : Option (Bool) :=
  (orE (decide (p2 ≤ 0)) (some (decide (p0 < p1)))).bind fun d_5 =>
  if d_5 = true then
  some false
  else
  if (decide (p1 < 0)) = true then
  some (decide (p0 < (w64 (p1 + p2))))
  else
  some (decide ((w64 (p0 - p1)) < p2))
theorem c_linotyperef59_in {c0 : Cx} {G : Gm} {F : List En} (O0 : Own c0 G F) (p0 : Int) (p1 : Int) (p2 : Int) {r : Bool} (H : f_linotyperef59_in p0 p1 p2 = some r) :
    Calls Tryd.prog 122 #[.int .i64 p0, .int .i64 p1, .int .i64 p2] c0.w (Post c0 fun c v => Own c G (F) ∧ v = .bool r) := by
  unfold f_linotyperef59_in at H
  refine enter (l := [.int .i64 p0, .int .i64 p1, .int .i64 p2]) Tryd.func122 rfl rfl rfl ?_
  refine sr ?_
  refine va (.bool false) ?_
  refine wln ?_
  refine W.seq ?_
  refine W.seq ?_
  obtain ⟨d_5, h1, H⟩ := bs H
  refine W.join (fun e w => ∃ (c : Cx) (g : Nat → Value), w = c.w ∧ c0.le c ∧ Own c G (F) ∧ e = ups g [(0, .int .i64 p0), (1, .int .i64 p1), (2, .int .i64 p2), (13, .bool d_5)]) ?_ ?_
  · clear H
    refine W.region ?_
    refine va (.int .i64 p2) ?_
    refine va (.bool (decide (p2 ≤ 0))) ?_
    rcases Bool.eq_false_or_eq_true (decide (p2 ≤ 0)) with h2 | h2
    · skip
      obtain rfl := orT h2 h1
      refine vb h2 ?_
      refine ps ?_
      refine ps ?_
      refine ps ?_
      refine va (.bool true) ?_
      refine wln ?_
      exact ⟨c0, _, rfl, (Cx.le.refl _), O0, ups_self ⟨rfl, rfl, rfl, rfl, trivial⟩⟩
    · skip
      have H3 := orF h2 h1
      refine vb h2 ?_
      refine wn ?_
      refine va (.int .i64 p0) ?_
      refine wn ?_
      refine va (.int .i64 p1) ?_
      refine wn ?_
      refine va (.bool (decide (p0 < p1))) ?_
      obtain rfl := Option.some.inj H3
      refine va (.bool (decide (p0 < p1))) ?_
      refine wln ?_
      exact ⟨c0, _, rfl, (Cx.le.refl _), O0, ups_self ⟨rfl, rfl, rfl, rfl, trivial⟩⟩
  · skip
    rintro e_ w_ ⟨c4, g5, rfl, l4, O6, rfl⟩
    refine nrm ?_
    refine W.cond (t := d_5) (by kernel_rfl) (fun h10 => ?_) (fun h10 => ?_)
    · have H := it h10 H
      refine sr ?_
      refine va (.bool false) ?_
      refine wln ?_
      refine W.ret ?_
      refine thr ?_
      obtain rfl := Option.some.inj H
      exact ret1 (v := .bool false) rfl (by kernel_rfl) ⟨_, c4, rfl, rfl, l4, O6, rfl⟩
    · have H := ie h10 H
      refine W.skip ?_
      refine nrm ?_
      refine W.seq ?_
      refine sr ?_
      refine va (.int .i64 p1) ?_
      refine va (.bool (decide (p1 < 0))) ?_
      refine wln ?_
      refine W.cond (t := decide (p1 < 0)) (by kernel_rfl) (fun h11 => ?_) (fun h11 => ?_)
      · have H := it h11 H
        refine sr ?_
        refine va (.int .i64 p0) ?_
        refine va (.int .i64 p1) ?_
        refine va (.int .i64 p2) ?_
        refine va (.int .i64 (w64 (p1 + p2))) ?_
        refine va (.bool (decide (p0 < (w64 (p1 + p2))))) ?_
        refine va (.bool (decide (p0 < (w64 (p1 + p2))))) ?_
        refine wln ?_
        refine W.ret ?_
        refine thr ?_
        obtain rfl := Option.some.inj H
        exact ret1 (v := .bool (decide (p0 < (w64 (p1 + p2))))) rfl (by kernel_rfl) ⟨_, c4, rfl, rfl, l4, O6, rfl⟩
      · have H := ie h11 H
        refine W.skip ?_
        refine nrm ?_
        refine sr ?_
        refine va (.int .i64 p0) ?_
        refine va (.int .i64 p1) ?_
        refine va (.int .i64 (w64 (p0 - p1))) ?_
        refine va (.int .i64 p2) ?_
        refine va (.bool (decide ((w64 (p0 - p1)) < p2))) ?_
        refine va (.bool (decide ((w64 (p0 - p1)) < p2))) ?_
        refine wln ?_
        refine W.ret ?_
        obtain rfl := Option.some.inj H
        exact ret1 (v := .bool (decide ((w64 (p0 - p1)) < p2))) rfl (by kernel_rfl) ⟨_, c4, rfl, rfl, l4, O6, rfl⟩

def f_linotyperef59_whole (p0 : List G_api_Cell) : Option (List G_api_Cell) :=
  (iter (σ := (List G_api_Cell) × Int) (τ := (List G_api_Cell)) (((p0.length : Int) - 0).toNat + 1) (fun s_7 =>
  if (decide (s_7.2 < (p0.length : Int))) = true then
  (idx p0 s_7.2).bind fun x_15 =>
  ((andE (s_7.2 == 0) (some (x_15.Kind == 3))).bind fun d_23 =>
  (orE d_23 ((andE ((w64 (s_7.2 + 1)) == (p0.length : Int)) (some (x_15.Kind == 2))).bind fun d_35 =>
  some d_35)).bind fun d_28 =>
  if d_28 = true then
  (some (0, ([] : List Int)) : Option (Int × (List Int)))
  else
  (some (x_15.Kind, x_15.Text) : Option (Int × (List Int)))).bind fun z_20 =>
  (app s_7.1 ([(⟨z_20.1, z_20.2⟩ : G_api_Cell)] : List G_api_Cell)).bind fun x_47 =>
  some (.inl (x_47, (w64 (s_7.2 + 1))))
  else
  some (.inr (s_7.1))) (([] : List G_api_Cell), 0)).bind fun o_7 =>
  some o_7
theorem c_linotyperef59_whole {c0 : Cx} {G : Gm} {F : List En} {v1 : Value} (O0 : Own c0 G F) (p0 : List G_api_Cell) {r : List G_api_Cell} (h2 : Sl R_api_Cell c0 v1 p0) (H : f_linotyperef59_whole p0 = some r) :
    Calls Tryd.prog 123 #[v1] c0.w (Post c0 fun c v => ∃ y1 : Value, ∃ y2 : List Value, Own c G (es true R_api_Cell y1 27 y2 r :: F) ∧ v = y1 ∧ OA R_api_Cell c y1 y2 r) := by
  unfold f_linotyperef59_whole at H
  refine enter (l := [v1]) Tryd.func123 rfl rfl rfl ?_
  refine sr ?_
  refine va (.slice none 0 0) ?_
  refine wln ?_
  refine sr ?_
  refine va (.slice none 0 0) ?_
  refine wln ?_
  refine W.seq ?_
  refine sr ?_
  refine va (.int .i64 0) ?_
  refine wln ?_
  refine W.block ?_
  obtain ⟨o_7, h3, H4⟩ := bs H
  refine W.loop (σ := (List G_api_Cell) × Int) (τ := (List G_api_Cell)) (fun s_7 => fun e w => ∃ (c : Cx) (g : Nat → Value) (v5 : Value) (u6 : List Value), w = c.w ∧ c0.le c ∧ Own c G (es true R_api_Cell v5 27 u6 s_7.1 :: F) ∧ e = ups g [(0, v1), (3, v5), (4, .int .i64 s_7.2)] ∧ OA R_api_Cell c v5 u6 s_7.1) (fun o_7_ ex e w => ex = .exit 0 ∧ (fun e w => ∃ (c : Cx) (g : Nat → Value) (v7 : Value) (u8 : List Value), w = c.w ∧ c0.le c ∧ Own c G (es true R_api_Cell v7 27 u8 o_7_ :: F) ∧ e = ups g [(3, v7)] ∧ OA R_api_Cell c v7 u8 o_7_) e w) ?_ h3 ?_ ?_
  · clear H4 h3
    intro s_7 xx_ ee_ ww_ H
    revert ee_ ww_
    rintro e_ w_ ⟨c9, g10, v5, u6, rfl, l9, O11, rfl, h12⟩
    refine W.seq ?_
    refine sr ?_
    refine va (.int .i64 s_7.2) ?_
    refine va (v1) ?_
    refine WL.val0 (v := .int .i64 (p0.length : Int)) rfl (rx (by kernel_rfl) (run_len (ty := 3) Tryd.underlying22 (h2.mono l9) _)) ?_
    refine va (.bool (decide (s_7.2 < (p0.length : Int)))) ?_
    refine wln ?_
    refine W.cond (t := decide (s_7.2 < (p0.length : Int))) (by kernel_rfl) (fun h16 => ?_) (fun h16 => ?_)
    · have H := it h16 H
      refine W.skip ?_
      refine nrm ?_
      refine W.seq ?_
      refine W.block ?_
      refine sr ?_
      refine va (v1) ?_
      refine va (.int .i64 s_7.2) ?_
      obtain ⟨x_15, h17, H⟩ := bs H
      obtain ⟨l_18, h19, m20⟩ := Sl.at (h2.mono l9) (idx_get h17)
      obtain ⟨v21, rfl, h22⟩ := h19
      refine WL.val0 (v := .pointer (some ⟨sb v1, so v1 + s_7.2.toNat * 2, none⟩)) rfl (rx (by kernel_rfl) (run_index (k := .i64) Tryd.underlying22 (by kernel_rfl) (h2.mono l9) h17 _)) ?_
      refine WL.val0 (v := .agg #[.int .i64 x_15.Kind, v21]) rfl (rx (by kernel_rfl) (run_loadN (T := 27) (by kernel_rfl) (by kernel_rfl) m20)) ?_
      refine WL.mem rfl (Own.al (T := 27) (vs := [.int .i64 0, .slice none 0 0]) O11 (by kernel_rfl)) ?_
      rintro v26 c25 l25 ⟨b23, rfl, O24⟩
      obtain ⟨a27, a28, a29, rfl⟩ := ((h22.mono l25)).form
      refine WL.memD rfl (Own.st (T := 27) (j := 0) (us := [.int .i64 x_15.Kind, .slice a27 a28 a29]) (nw := [.int .i64 x_15.Kind, .slice a27 a28 a29]) (v := .agg #[.int .i64 x_15.Kind, .slice a27 a28 a29]) 0 O24 (by kernel_rfl) rfl rfl rfl rfl (by kernel_rfl) ⟨rfl, (h22.mono l25).one, trivial⟩ rfl rfl) ?_
      rintro c31 l31 O30
      refine wln ?_
      obtain ⟨z_20, H32, H33⟩ := bs H
      refine W.seqJ (fun e w => ∃ (c : Cx) (g : Nat → Value) (v34 : Value), w = c.w ∧ c31.le c ∧ Own c G (⟨.pointer (some ⟨b23, 0, none⟩), 27, [.int .i64 z_20.1, v34], 0⟩ :: es true R_api_Cell v5 27 u6 s_7.1 :: F) ∧ e = ups g [(0, v1), (3, v5), (4, .int .i64 s_7.2), (5, .pointer (some ⟨b23, 0, none⟩))] ∧ Sl (RI .i32) c v34 z_20.2) ?_ ?_
      · skip
        refine W.seq ?_
        obtain ⟨d_23, h35, H32⟩ := bs H32
        obtain ⟨d_28, h36, H32⟩ := bs H32
        refine W.join (fun e w => ∃ (c : Cx) (g : Nat → Value), w = c.w ∧ c31.le c ∧ Own c G (⟨.pointer (some ⟨b23, 0, none⟩), 27, [.int .i64 x_15.Kind, .slice a27 a28 a29], 0⟩ :: es true R_api_Cell v5 27 u6 s_7.1 :: F) ∧ e = ups g [(0, v1), (3, v5), (4, .int .i64 s_7.2), (5, .pointer (some ⟨b23, 0, none⟩)), (34, .bool d_28)]) ?_ ?_
        · clear H32
          refine W.region ?_
          refine va (.int .i64 s_7.2) ?_
          refine va (.bool (s_7.2 == 0)) ?_
          rcases Bool.eq_false_or_eq_true (s_7.2 == 0) with h37 | h37
          · skip
            have H38 := anT h37 h35
            refine vb h37 ?_
            refine wn ?_
            refine va (.pointer (some ⟨b23, 0, none⟩)) ?_
            refine wn ?_
            refine WL.val0 (v := .int .i64 x_15.Kind) rfl (rx (by kernel_rfl) (ldE1 (j := 0) Tryd.underlying3 rfl (O30.on 0 rfl) rfl rfl)) ?_
            refine wn ?_
            refine va (.bool (x_15.Kind == 3)) ?_
            obtain rfl := Option.some.inj H38
            refine va (.bool (x_15.Kind == 3)) ?_
            rcases Bool.eq_false_or_eq_true (x_15.Kind == 3) with h39 | h39
            · skip
              obtain rfl := orT h39 h36
              refine vb h39 ?_
              refine ps ?_
              refine ps ?_
              refine ps ?_
              refine ps ?_
              refine ps ?_
              refine ps ?_
              refine ps ?_
              refine ps ?_
              refine ps ?_
              refine ps ?_
              refine va (.bool true) ?_
              refine wln ?_
              exact ⟨c31, _, rfl, (Cx.le.refl _), O30, ups_self ⟨rfl, rfl, rfl, rfl, rfl, trivial⟩⟩
            · skip
              have H40 := orF h39 h36
              refine vb h39 ?_
              refine wn ?_
              refine va (.int .i64 s_7.2) ?_
              refine wn ?_
              refine va (.int .i64 (w64 (s_7.2 + 1))) ?_
              refine wn ?_
              refine va (v1) ?_
              refine wn ?_
              refine WL.val0 (v := .int .i64 (p0.length : Int)) rfl (rx (by kernel_rfl) (run_len (ty := 3) Tryd.underlying22 (h2.mono (l9.trans (l25.trans l31))) _)) ?_
              refine wn ?_
              refine va (.bool ((w64 (s_7.2 + 1)) == (p0.length : Int))) ?_
              refine wn ?_
              obtain ⟨d_35, h41, H40⟩ := bs H40
              rcases Bool.eq_false_or_eq_true ((w64 (s_7.2 + 1)) == (p0.length : Int)) with h42 | h42
              · skip
                have H43 := anT h42 h41
                refine vb h42 ?_
                refine wn ?_
                refine va (.pointer (some ⟨b23, 0, none⟩)) ?_
                refine wn ?_
                refine WL.val0 (v := .int .i64 x_15.Kind) rfl (rx (by kernel_rfl) (ldE1 (j := 0) Tryd.underlying3 rfl (O30.on 0 rfl) rfl rfl)) ?_
                refine wn ?_
                refine va (.bool (x_15.Kind == 2)) ?_
                refine wn ?_
                obtain rfl := Option.some.inj H43
                refine va (.bool (x_15.Kind == 2)) ?_
                obtain rfl := Option.some.inj H40
                refine va (.bool (x_15.Kind == 2)) ?_
                refine wln ?_
                exact ⟨c31, _, rfl, (Cx.le.refl _), O30, ups_self ⟨rfl, rfl, rfl, rfl, rfl, trivial⟩⟩
              · skip
                obtain rfl := anF h42 h41
                refine vb h42 ?_
                refine ps ?_
                refine ps ?_
                refine ps ?_
                refine wn ?_
                refine va (.bool false) ?_
                obtain rfl := Option.some.inj H40
                refine va (.bool false) ?_
                refine wln ?_
                exact ⟨c31, _, rfl, (Cx.le.refl _), O30, ups_self ⟨rfl, rfl, rfl, rfl, rfl, trivial⟩⟩
          · skip
            obtain rfl := anF h37 h35
            refine vb h37 ?_
            refine ps ?_
            refine ps ?_
            refine ps ?_
            refine va (.bool false) ?_
            have h44 : false = false := rfl
            have H45 := orF h44 h36
            refine vb h44 ?_
            refine wn ?_
            refine va (.int .i64 s_7.2) ?_
            refine wn ?_
            refine va (.int .i64 (w64 (s_7.2 + 1))) ?_
            refine wn ?_
            refine va (v1) ?_
            refine wn ?_
            refine WL.val0 (v := .int .i64 (p0.length : Int)) rfl (rx (by kernel_rfl) (run_len (ty := 3) Tryd.underlying22 (h2.mono (l9.trans (l25.trans l31))) _)) ?_
            refine wn ?_
            refine va (.bool ((w64 (s_7.2 + 1)) == (p0.length : Int))) ?_
            refine wn ?_
            obtain ⟨d_35, h46, H45⟩ := bs H45
            rcases Bool.eq_false_or_eq_true ((w64 (s_7.2 + 1)) == (p0.length : Int)) with h47 | h47
            · skip
              have H48 := anT h47 h46
              refine vb h47 ?_
              refine wn ?_
              refine va (.pointer (some ⟨b23, 0, none⟩)) ?_
              refine wn ?_
              refine WL.val0 (v := .int .i64 x_15.Kind) rfl (rx (by kernel_rfl) (ldE1 (j := 0) Tryd.underlying3 rfl (O30.on 0 rfl) rfl rfl)) ?_
              refine wn ?_
              refine va (.bool (x_15.Kind == 2)) ?_
              refine wn ?_
              obtain rfl := Option.some.inj H48
              refine va (.bool (x_15.Kind == 2)) ?_
              obtain rfl := Option.some.inj H45
              refine va (.bool (x_15.Kind == 2)) ?_
              refine wln ?_
              exact ⟨c31, _, rfl, (Cx.le.refl _), O30, ups_self ⟨rfl, rfl, rfl, rfl, rfl, trivial⟩⟩
            · skip
              obtain rfl := anF h47 h46
              refine vb h47 ?_
              refine ps ?_
              refine ps ?_
              refine ps ?_
              refine wn ?_
              refine va (.bool false) ?_
              obtain rfl := Option.some.inj H45
              refine va (.bool false) ?_
              refine wln ?_
              exact ⟨c31, _, rfl, (Cx.le.refl _), O30, ups_self ⟨rfl, rfl, rfl, rfl, rfl, trivial⟩⟩
        · skip
          rintro e_ w_ ⟨c49, g50, rfl, l49, O51, rfl⟩
          refine nrm ?_
          refine W.cond (t := d_28) (by kernel_rfl) (fun h55 => ?_) (fun h55 => ?_)
          · have H32 := it h55 H32
            refine W.region ?_
            refine va (.agg #[.int .i64 0, .slice none 0 0]) ?_
            refine WL.memD rfl (Own.st (T := 27) (j := 0) (us := [.int .i64 0, .slice none 0 0]) (nw := [.int .i64 0, .slice none 0 0]) (v := .agg #[.int .i64 0, .slice none 0 0]) 0 O51 (by kernel_rfl) rfl rfl rfl rfl (by kernel_rfl) ⟨rfl, rfl, trivial⟩ rfl rfl) ?_
            rintro c57 l57 O56
            refine wln ?_
            obtain rfl := Option.some.inj H32
            exact ⟨c57, _, (.slice none 0 0), rfl, (l49.trans l57), O56, ups_self ⟨rfl, rfl, rfl, rfl, trivial⟩, (Sl.nl _ _)⟩
          · have H32 := ie h55 H32
            refine W.skip ?_
            refine nrm ?_
            obtain rfl := Option.some.inj H32
            exact ⟨c49, _, (.slice a27 a28 a29), rfl, l49, O51, ups_self ⟨rfl, rfl, rfl, rfl, trivial⟩, (h22.mono (l25.trans (l31.trans l49)))⟩
      · skip
        rintro e_ w_ ⟨c58, g59, v34, rfl, l58, O60, rfl, h61⟩
        refine W.region ?_
        refine va (v5) ?_
        refine WL.val0 (v := .agg #[.int .i64 z_20.1, v34]) rfl (rx (by kernel_rfl) (ldEN (T := 27) (j := 0) (l := [.int .i64 z_20.1, v34]) (by kernel_rfl) (by kernel_rfl) (O60.on 0 rfl) rfl rfl)) ?_
        obtain ⟨a65, a66, a67, rfl⟩ := (h61).form
        refine WL.mem rfl (Own.sl (R := R_api_Cell) (E := 27) (ls := [[.int .i64 z_20.1, .slice a65 a66 a67]]) (vs := [.int .i64 z_20.1, .slice a65 a66 a67]) (xs := ([(⟨z_20.1, z_20.2⟩ : G_api_Cell)] : List G_api_Cell)) true O60 (Nat.succ_pos _) rfl ⟨⟨(.slice a65 a66 a67), rfl, h61⟩, trivial⟩ (by kernel_rfl) (by kernel_rfl)) ?_
        rintro v72 c71 l71 ⟨u69, O68, h70⟩
        obtain ⟨c75, h76, l75, O73, h74⟩ := O68.frz 0 rfl h70
        refine WL.gh h76 ?_
        obtain ⟨x_47, h77, H33⟩ := bs H33
        refine WL.mem rfl (Own.app (R := R_api_Cell) (z := .agg #[.int .i64 0, .slice none 0 0]) (by_ := 32) (ty := 22) 2 O73 rfl (h12.mono (l25.trans (l31.trans (l58.trans (l71.trans l75))))) h74 h77 Tryd.underlying22 (by kernel_rfl) rfl (by kernel_rfl) (by kernel_rfl)) ?_
        rintro v82 c81 l81 ⟨u79, O78, h80⟩
        refine va (v82) ?_
        refine WL.nil ?_
        refine bkn ?_
        refine nrm ?_
        refine W.region ?_
        refine va (.int .i64 s_7.2) ?_
        refine va (.int .i64 (w64 (s_7.2 + 1))) ?_
        refine va (.int .i64 (w64 (s_7.2 + 1))) ?_
        refine WL.nil ?_
        obtain rfl := Option.some.inj H33
        refine ⟨_, rfl, ?_⟩
        have O83 := O78.selD 3 [2] (by kernel_rfl) (by kernel_rfl)
        exact ⟨c81, _, v82, u79, rfl, (l9.trans (l25.trans (l31.trans (l58.trans (l71.trans (l75.trans l81)))))), O83, ups_self ⟨rfl, rfl, rfl, trivial⟩, h80⟩
    · have H := ie h16 H
      refine W.exit ?_
      refine thx ?_
      obtain rfl := Option.some.inj H
      refine ⟨_, rfl, rfl, ?_⟩
      exact ⟨c9, _, v5, u6, rfl, l9, O11, ups_self ⟨rfl, trivial⟩, h12⟩
  · skip
    have h85 : OA R_api_Cell c0 (.slice none 0 0) [] [] := OA.nil (Nat.succ_pos _)
    have O84 := O0.addHole (e := es true R_api_Cell (.slice none 0 0) 27 [] ([] : List G_api_Cell)) rfl
    exact ⟨c0, _, (.slice none 0 0), [], rfl, (Cx.le.refl _), O84, ups_self ⟨rfl, rfl, rfl, trivial⟩, h85⟩
  · skip
    rintro _ e_ w_ ⟨rfl, c86, g87, v7, u8, rfl, l86, O88, rfl, h89⟩
    refine bke ?_
    refine nrm ?_
    refine sr ?_
    refine va (v7) ?_
    refine va (v7) ?_
    refine wln ?_
    refine W.ret ?_
    obtain rfl := Option.some.inj H4
    exact ret1 (v := v7) rfl (by kernel_rfl) ⟨_, c86, rfl, rfl, l86, v7, u8, O88, rfl, h89⟩

def f_linotyperef59_Put (p0 : List G_api_Line) (p1 : Int) (p2 : Int) (p3 : List G_api_Line) : Option ((List G_api_Line) × Int) :=
  (app ([] : List G_api_Line) p0).bind fun x_6 =>
  (iter (σ := (List G_api_Line) × Int × Int) (τ := ((List G_api_Line) × Int)) (((p0.length : Int) - 0).toNat + 1) (fun s_13 =>
  if (decide (s_13.2.2 < (p0.length : Int))) = true then
  ((f_linotyperef59_in s_13.2.2 p1 (p3.length : Int)).bind fun x_24 =>
  (orE (!x_24) ((idx p3 (w64 (s_13.2.2 - p1))).bind fun x_32 =>
  (f_linotyperef23_Sound x_32.Cells).bind fun x_35 =>
  some (!x_35))).bind fun d_26 =>
  if d_26 = true then
  (some (s_13.1, s_13.2.1) : Option ((List G_api_Line) × Int))
  else
  (idx p3 (w64 (s_13.2.2 - p1))).bind fun x_42 =>
  (idx p0 s_13.2.2).bind fun fx_57 =>
  (iter (σ := Int × (List G_api_Cell) × Int) (τ := (Int × (List G_api_Cell))) (((fx_57.Cells.length : Int) - 0).toNat + 1) (fun s_53 =>
  (idx p0 s_13.2.2).bind fun x_57 =>
  if (decide (s_53.2.2 < (x_57.Cells.length : Int))) = true then
  ((f_linotyperef59_in s_53.2.2 p2 (x_42.Cells.length : Int)).bind fun x_68 =>
  if x_68 = true then
  (if (decide (s_53.1 < 0)) = true then
  (some (s_53.2.2) : Option (Int))
  else
  (some (s_53.1) : Option (Int))).bind fun z_70 =>
  (idx x_42.Cells (w64 (s_53.2.2 - p2))).bind fun x_82 =>
  (app s_53.2.1 ([x_82] : List G_api_Cell)).bind fun x_85 =>
  (some (z_70, x_85) : Option (Int × (List G_api_Cell)))
  else
  (some (s_53.1, s_53.2.1) : Option (Int × (List G_api_Cell)))).bind fun z_63 =>
  some (.inl (z_63.1, z_63.2, (w64 (s_53.2.2 + 1))))
  else
  some (.inr (s_53.1, s_53.2.1))) ((-1), ([] : List G_api_Cell), 0)).bind fun o_53 =>
  if (decide (o_53.1 ≥ 0)) = true then
  (idx p0 s_13.2.2).bind fun x_97 =>
  (idx p0 s_13.2.2).bind fun x_102 =>
  (f_linotyperef59_whole o_53.2).bind fun x_107 =>
  (f_linotyperef24_Paint x_97.Cells x_102.Wrap o_53.1 x_107).bind fun x_108 =>
  (idx s_13.1 s_13.2.2).bind fun x_120 =>
  (sets s_13.1 s_13.2.2 (⟨x_108.1, x_108.2⟩ : G_api_Line)).bind fun w_121 =>
  (some (w_121, (w64 (s_13.2.1 + 1))) : Option ((List G_api_Line) × Int))
  else
  (some (s_13.1, s_13.2.1) : Option ((List G_api_Line) × Int))).bind fun z_19 =>
  some (.inl (z_19.1, z_19.2, (w64 (s_13.2.2 + 1))))
  else
  some (.inr (s_13.1, s_13.2.1))) (x_6, 0, 0)).bind fun o_13 =>
  some (o_13.1, o_13.2)
theorem c_linotyperef59_Put {c0 : Cx} {G : Gm} {F : List En} {v1 : Value} {v3 : Value} (O0 : Own c0 G F) (p0 : List G_api_Line) (p1 : Int) (p2 : Int) (p3 : List G_api_Line) {r : (List G_api_Line) × Int} (h2 : Sl R_api_Line c0 v1 p0) (h4 : Sl R_api_Line c0 v3 p3) (H : f_linotyperef59_Put p0 p1 p2 p3 = some r) :
    Calls Tryd.prog 60 #[v1, .int .i64 p1, .int .i64 p2, v3] c0.w (Post c0 fun c v => ∃ y1 : Value, ∃ y2 : List Value, Own c G (es true R_api_Line y1 62 y2 r.1 :: F) ∧ v = .tuple #[y1, .int .i64 r.2] ∧ OA R_api_Line c y1 y2 r.1) := by
  unfold f_linotyperef59_Put at H
  refine enter (l := [v1, .int .i64 p1, .int .i64 p2, v3]) Tryd.func60 rfl rfl rfl ?_
  refine sr ?_
  refine va (.slice none 0 0) ?_
  refine va (.int .i64 0) ?_
  refine wln ?_
  refine sr ?_
  refine WL.mem rfl (Own.sl (R := R_api_Line) (E := 62) (ls := []) (vs := []) (xs := ([] : List G_api_Line)) true O0 (Nat.succ_pos _) rfl trivial (by kernel_rfl) (by kernel_rfl)) ?_
  rintro v9 c8 l8 ⟨u6, O5, h7⟩
  refine va (v1) ?_
  obtain ⟨x_6, h10, H⟩ := bs H
  refine WL.mem rfl (Own.app (R := R_api_Line) (z := .agg #[.slice none 0 0, .bool false]) (by_ := 32) (ty := 47) 0 O5 rfl h7 (h2.mono l8) h10 Tryd.underlying47 (by kernel_rfl) rfl (by kernel_rfl) (by kernel_rfl)) ?_
  rintro v15 c14 l14 ⟨u12, O11, h13⟩
  refine va (v15) ?_
  refine wln ?_
  refine sr ?_
  refine va (.int .i64 0) ?_
  refine wln ?_
  refine W.seq ?_
  refine sr ?_
  refine va (.int .i64 0) ?_
  refine wln ?_
  refine W.block ?_
  obtain ⟨o_13, h16, H17⟩ := bs H
  refine W.loop (σ := (List G_api_Line) × Int × Int) (τ := ((List G_api_Line) × Int)) (fun s_13 => fun e w => ∃ (c : Cx) (g : Nat → Value) (v18 : Value) (u19 : List Value), w = c.w ∧ c14.le c ∧ Own c G (es true R_api_Line v18 62 u19 s_13.1 :: F) ∧ e = ups g [(0, v1), (1, .int .i64 p1), (2, .int .i64 p2), (3, v3), (10, v18), (11, .int .i64 s_13.2.1), (12, .int .i64 s_13.2.2)] ∧ OA R_api_Line c v18 u19 s_13.1) (fun o_13_ ex e w => ex = .exit 0 ∧ (fun e w => ∃ (c : Cx) (g : Nat → Value) (v20 : Value) (u21 : List Value), w = c.w ∧ c14.le c ∧ Own c G (es true R_api_Line v20 62 u21 o_13_.1 :: F) ∧ e = ups g [(10, v20), (11, .int .i64 o_13_.2)] ∧ OA R_api_Line c v20 u21 o_13_.1) e w) ?_ h16 ?_ ?_
  · clear H17 h16
    intro s_13 xx_ ee_ ww_ H
    revert ee_ ww_
    rintro e_ w_ ⟨c22, g23, v18, u19, rfl, l22, O24, rfl, h25⟩
    refine W.seq ?_
    refine sr ?_
    refine va (.int .i64 s_13.2.2) ?_
    refine va (v1) ?_
    refine WL.val0 (v := .int .i64 (p0.length : Int)) rfl (rx (by kernel_rfl) (run_len (ty := 3) Tryd.underlying47 (h2.mono (l8.trans (l14.trans l22))) _)) ?_
    refine va (.bool (decide (s_13.2.2 < (p0.length : Int)))) ?_
    refine wln ?_
    refine W.cond (t := decide (s_13.2.2 < (p0.length : Int))) (by kernel_rfl) (fun h29 => ?_) (fun h29 => ?_)
    · have H := it h29 H
      refine W.skip ?_
      refine nrm ?_
      obtain ⟨z_19, H30, H31⟩ := bs H
      refine W.seqJ (fun e w => ∃ (c : Cx) (g : Nat → Value) (v32 : Value) (u33 : List Value), w = c.w ∧ c22.le c ∧ Own c G (es true R_api_Line v32 62 u33 z_19.1 :: F) ∧ e = ups g [(0, v1), (1, .int .i64 p1), (2, .int .i64 p2), (3, v3), (10, v32), (11, .int .i64 z_19.2), (12, .int .i64 s_13.2.2)] ∧ OA R_api_Line c v32 u33 z_19.1) ?_ ?_
      · skip
        refine W.block ?_
        refine W.seq ?_
        refine W.seq ?_
        obtain ⟨x_24, h34, H30⟩ := bs H30
        obtain ⟨d_26, h35, H30⟩ := bs H30
        refine W.join (fun e w => ∃ (c : Cx) (g : Nat → Value), w = c.w ∧ c22.le c ∧ Own c G (es true R_api_Line v18 62 u19 s_13.1 :: F) ∧ e = ups g [(0, v1), (1, .int .i64 p1), (2, .int .i64 p2), (3, v3), (10, v18), (11, .int .i64 s_13.2.1), (12, .int .i64 s_13.2.2), (44, .bool d_26)]) ?_ ?_
        · clear H30
          refine W.region ?_
          refine va (.int .i64 s_13.2.2) ?_
          refine va (.int .i64 p1) ?_
          refine va (v3) ?_
          refine WL.val0 (v := .int .i64 (p3.length : Int)) rfl (rx (by kernel_rfl) (run_len (ty := 3) Tryd.underlying47 (h4.mono (l8.trans (l14.trans l22))) _)) ?_
          refine WL.callP rfl (by kernel_rfl) (c_linotyperef59_in O24 s_13.2.2 p1 (p3.length : Int) h34) ?_
          rintro v41 c40 l40 ⟨O37, rfl⟩
          refine va (.bool (!x_24)) ?_
          rcases Bool.eq_false_or_eq_true (!x_24) with h42 | h42
          · skip
            obtain rfl := orT h42 h35
            refine vb h42 ?_
            refine ps ?_
            refine ps ?_
            refine ps ?_
            refine ps ?_
            refine ps ?_
            refine ps ?_
            refine ps ?_
            refine ps ?_
            refine ps ?_
            refine va (.bool true) ?_
            refine wln ?_
            exact ⟨c40, _, rfl, l40, O37, ups_self ⟨rfl, rfl, rfl, rfl, rfl, rfl, rfl, rfl, trivial⟩⟩
          · skip
            have H43 := orF h42 h35
            refine vb h42 ?_
            refine wn ?_
            refine va (v3) ?_
            refine wn ?_
            refine va (.int .i64 s_13.2.2) ?_
            refine wn ?_
            refine va (.int .i64 p1) ?_
            refine wn ?_
            refine va (.int .i64 (w64 (s_13.2.2 - p1))) ?_
            refine wn ?_
            obtain ⟨x_32, h44, H43⟩ := bs H43
            obtain ⟨l_45, h46, m47⟩ := Sl.at (h4.mono (l8.trans (l14.trans (l22.trans l40)))) (idx_get h44)
            obtain ⟨v48, rfl, h49⟩ := h46
            refine WL.val0 (v := .pointer (some ⟨sb v3, so v3 + (w64 (s_13.2.2 - p1)).toNat * 2, none⟩)) rfl (rx (by kernel_rfl) (run_index (k := .i64) Tryd.underlying47 (by kernel_rfl) (h4.mono (l8.trans (l14.trans (l22.trans l40)))) h44 _)) ?_
            refine wn ?_
            refine va (.pointer (some ⟨sb v3, so v3 + (w64 (s_13.2.2 - p1)).toNat * 2, none⟩)) ?_
            refine wn ?_
            refine WL.val0 (v := v48) rfl (rx (by kernel_rfl) (run_load1 Tryd.underlying22 rfl (m47 0 _ rfl))) ?_
            refine wn ?_
            obtain ⟨x_35, h50, H43⟩ := bs H43
            refine WL.callP rfl (by kernel_rfl) (c_linotyperef23_Sound O37 x_32.Cells h49 h50) ?_
            rintro v56 c55 l55 ⟨O52, rfl⟩
            refine wn ?_
            refine va (.bool (!x_35)) ?_
            obtain rfl := Option.some.inj H43
            refine va (.bool (!x_35)) ?_
            refine wln ?_
            exact ⟨c55, _, rfl, (l40.trans l55), O52, ups_self ⟨rfl, rfl, rfl, rfl, rfl, rfl, rfl, rfl, trivial⟩⟩
        · skip
          rintro e_ w_ ⟨c57, g58, rfl, l57, O59, rfl⟩
          refine nrm ?_
          refine W.cond (t := d_26) (by kernel_rfl) (fun h63 => ?_) (fun h63 => ?_)
          · have H30 := it h63 H30
            refine W.exit ?_
            refine thx ?_
            refine bke ?_
            refine nrm ?_
            obtain rfl := Option.some.inj H30
            exact ⟨c57, _, v18, u19, rfl, l57, O59, ups_self ⟨rfl, rfl, rfl, rfl, rfl, rfl, rfl, trivial⟩, (h25.mono l57)⟩
          · have H30 := ie h63 H30
            refine W.skip ?_
            refine nrm ?_
            refine sr ?_
            refine va (v3) ?_
            refine va (.int .i64 s_13.2.2) ?_
            refine va (.int .i64 p1) ?_
            refine va (.int .i64 (w64 (s_13.2.2 - p1))) ?_
            obtain ⟨x_42, h64, H30⟩ := bs H30
            obtain ⟨l_65, h66, m67⟩ := Sl.at (h4.mono (l8.trans (l14.trans (l22.trans l57)))) (idx_get h64)
            obtain ⟨v68, rfl, h69⟩ := h66
            refine WL.val0 (v := .pointer (some ⟨sb v3, so v3 + (w64 (s_13.2.2 - p1)).toNat * 2, none⟩)) rfl (rx (by kernel_rfl) (run_index (k := .i64) Tryd.underlying47 (by kernel_rfl) (h4.mono (l8.trans (l14.trans (l22.trans l57)))) h64 _)) ?_
            refine va (.pointer (some ⟨sb v3, so v3 + (w64 (s_13.2.2 - p1)).toNat * 2, none⟩)) ?_
            refine WL.val0 (v := v68) rfl (rx (by kernel_rfl) (run_load1 Tryd.underlying22 rfl (m67 0 _ rfl))) ?_
            refine va (v68) ?_
            refine wln ?_
            refine sr ?_
            refine va (.int .i64 (-1)) ?_
            refine wln ?_
            refine sr ?_
            refine va (.slice none 0 0) ?_
            refine wln ?_
            refine W.seq ?_
            refine sr ?_
            refine va (.int .i64 0) ?_
            refine wln ?_
            refine W.block ?_
            obtain ⟨fx_57, _, H30⟩ := bs H30
            obtain ⟨o_53, h70, H71⟩ := bs H30
            refine W.loop (σ := Int × (List G_api_Cell) × Int) (τ := (Int × (List G_api_Cell))) (fun s_53 => fun e w => ∃ (c : Cx) (g : Nat → Value) (v72 : Value) (u73 : List Value), w = c.w ∧ c57.le c ∧ Own c G (es true R_api_Cell v72 27 u73 s_53.2.1 :: es true R_api_Line v18 62 u19 s_13.1 :: F) ∧ e = ups g [(0, v1), (1, .int .i64 p1), (2, .int .i64 p2), (3, v3), (10, v18), (11, .int .i64 s_13.2.1), (12, .int .i64 s_13.2.2), (13, v68), (14, .int .i64 s_53.1), (15, v72), (16, .int .i64 s_53.2.2)] ∧ OA R_api_Cell c v72 u73 s_53.2.1) (fun o_53_ ex e w => ex = .exit 2 ∧ (fun e w => ∃ (c : Cx) (g : Nat → Value) (v74 : Value) (u75 : List Value), w = c.w ∧ c57.le c ∧ Own c G (es true R_api_Cell v74 27 u75 o_53_.2 :: es true R_api_Line v18 62 u19 s_13.1 :: F) ∧ e = ups g [(0, v1), (1, .int .i64 p1), (2, .int .i64 p2), (3, v3), (10, v18), (11, .int .i64 s_13.2.1), (12, .int .i64 s_13.2.2), (14, .int .i64 o_53_.1), (15, v74)] ∧ OA R_api_Cell c v74 u75 o_53_.2) e w) ?_ h70 ?_ ?_
            · clear H71 h70
              intro s_53 xx_ ee_ ww_ H30
              revert ee_ ww_
              rintro e_ w_ ⟨c76, g77, v72, u73, rfl, l76, O78, rfl, h79⟩
              refine W.seq ?_
              refine sr ?_
              refine va (.int .i64 s_53.2.2) ?_
              refine va (v1) ?_
              refine va (.int .i64 s_13.2.2) ?_
              obtain ⟨x_57, h83, H30⟩ := bs H30
              obtain ⟨l_84, h85, m86⟩ := Sl.at (h2.mono (l8.trans (l14.trans (l22.trans (l57.trans l76))))) (idx_get h83)
              obtain ⟨v87, rfl, h88⟩ := h85
              refine WL.val0 (v := .pointer (some ⟨sb v1, so v1 + s_13.2.2.toNat * 2, none⟩)) rfl (rx (by kernel_rfl) (run_index (k := .i64) Tryd.underlying47 (by kernel_rfl) (h2.mono (l8.trans (l14.trans (l22.trans (l57.trans l76))))) h83 _)) ?_
              refine va (.pointer (some ⟨sb v1, so v1 + s_13.2.2.toNat * 2, none⟩)) ?_
              refine WL.val0 (v := v87) rfl (rx (by kernel_rfl) (run_load1 Tryd.underlying22 rfl (m86 0 _ rfl))) ?_
              refine WL.val0 (v := .int .i64 (x_57.Cells.length : Int)) rfl (rx (by kernel_rfl) (run_len (ty := 3) Tryd.underlying22 h88 _)) ?_
              refine va (.bool (decide (s_53.2.2 < (x_57.Cells.length : Int)))) ?_
              refine wln ?_
              refine W.cond (t := decide (s_53.2.2 < (x_57.Cells.length : Int))) (by kernel_rfl) (fun h89 => ?_) (fun h89 => ?_)
              · have H30 := it h89 H30
                refine W.skip ?_
                refine nrm ?_
                obtain ⟨z_63, H90, H91⟩ := bs H30
                refine W.seqJ (fun e w => ∃ (c : Cx) (g : Nat → Value) (v92 : Value) (u93 : List Value), w = c.w ∧ c76.le c ∧ Own c G (es true R_api_Cell v92 27 u93 z_63.2 :: es true R_api_Line v18 62 u19 s_13.1 :: F) ∧ e = ups g [(0, v1), (1, .int .i64 p1), (2, .int .i64 p2), (3, v3), (10, v18), (11, .int .i64 s_13.2.1), (12, .int .i64 s_13.2.2), (13, v68), (14, .int .i64 z_63.1), (15, v92), (16, .int .i64 s_53.2.2)] ∧ OA R_api_Cell c v92 u93 z_63.2) ?_ ?_
                · skip
                  refine W.block ?_
                  refine sr ?_
                  refine va (.int .i64 s_53.2.2) ?_
                  refine va (.int .i64 p2) ?_
                  refine va (v68) ?_
                  refine WL.val0 (v := .int .i64 (x_42.Cells.length : Int)) rfl (rx (by kernel_rfl) (run_len (ty := 3) Tryd.underlying22 (h69.mono l76) _)) ?_
                  obtain ⟨x_68, h94, H90⟩ := bs H90
                  refine WL.callP rfl (by kernel_rfl) (c_linotyperef59_in O78 s_53.2.2 p2 (x_42.Cells.length : Int) h94) ?_
                  rintro v100 c99 l99 ⟨O96, rfl⟩
                  refine wln ?_
                  refine W.cond (t := x_68) (by kernel_rfl) (fun h101 => ?_) (fun h101 => ?_)
                  · have H90 := it h101 H90
                    obtain ⟨z_70, H102, H103⟩ := bs H90
                    refine W.seqJ (fun e w => ∃ (c : Cx) (g : Nat → Value), w = c.w ∧ c99.le c ∧ Own c G (es true R_api_Cell v72 27 u73 s_53.2.1 :: es true R_api_Line v18 62 u19 s_13.1 :: F) ∧ e = ups g [(0, v1), (1, .int .i64 p1), (2, .int .i64 p2), (3, v3), (10, v18), (11, .int .i64 s_13.2.1), (12, .int .i64 s_13.2.2), (13, v68), (14, .int .i64 z_70), (15, v72), (16, .int .i64 s_53.2.2)]) ?_ ?_
                    · skip
                      refine sr ?_
                      refine va (.int .i64 s_53.1) ?_
                      refine va (.bool (decide (s_53.1 < 0))) ?_
                      refine wln ?_
                      refine W.cond (t := decide (s_53.1 < 0)) (by kernel_rfl) (fun h104 => ?_) (fun h104 => ?_)
                      · have H102 := it h104 H102
                        refine W.region ?_
                        refine va (.int .i64 s_53.2.2) ?_
                        refine va (.int .i64 s_53.2.2) ?_
                        refine wln ?_
                        obtain rfl := Option.some.inj H102
                        exact ⟨c99, _, rfl, (Cx.le.refl _), O96, ups_self ⟨rfl, rfl, rfl, rfl, rfl, rfl, rfl, rfl, rfl, rfl, rfl, trivial⟩⟩
                      · have H102 := ie h104 H102
                        refine W.skip ?_
                        refine nrm ?_
                        obtain rfl := Option.some.inj H102
                        exact ⟨c99, _, rfl, (Cx.le.refl _), O96, ups_self ⟨rfl, rfl, rfl, rfl, rfl, rfl, rfl, rfl, rfl, rfl, rfl, trivial⟩⟩
                    · skip
                      rintro e_ w_ ⟨c105, g106, rfl, l105, O107, rfl⟩
                      refine W.region ?_
                      refine va (v72) ?_
                      refine va (v68) ?_
                      refine va (.int .i64 s_53.2.2) ?_
                      refine va (.int .i64 p2) ?_
                      refine va (.int .i64 (w64 (s_53.2.2 - p2))) ?_
                      obtain ⟨x_82, h111, H103⟩ := bs H103
                      obtain ⟨l_112, h113, m114⟩ := Sl.at (h69.mono (l76.trans (l99.trans l105))) (idx_get h111)
                      obtain ⟨v115, rfl, h116⟩ := h113
                      refine WL.val0 (v := .pointer (some ⟨sb v68, so v68 + (w64 (s_53.2.2 - p2)).toNat * 2, none⟩)) rfl (rx (by kernel_rfl) (run_index (k := .i64) Tryd.underlying22 (by kernel_rfl) (h69.mono (l76.trans (l99.trans l105))) h111 _)) ?_
                      refine WL.val0 (v := .agg #[.int .i64 x_82.Kind, v115]) rfl (rx (by kernel_rfl) (run_loadN (T := 27) (by kernel_rfl) (by kernel_rfl) m114)) ?_
                      obtain ⟨a117, a118, a119, rfl⟩ := (h116).form
                      refine WL.mem rfl (Own.sl (R := R_api_Cell) (E := 27) (ls := [[.int .i64 x_82.Kind, .slice a117 a118 a119]]) (vs := [.int .i64 x_82.Kind, .slice a117 a118 a119]) (xs := ([x_82] : List G_api_Cell)) true O107 (Nat.succ_pos _) rfl ⟨⟨(.slice a117 a118 a119), rfl, h116⟩, trivial⟩ (by kernel_rfl) (by kernel_rfl)) ?_
                      rintro v124 c123 l123 ⟨u121, O120, h122⟩
                      obtain ⟨c127, h128, l127, O125, h126⟩ := O120.frz 0 rfl h122
                      refine WL.gh h128 ?_
                      obtain ⟨x_85, h129, H103⟩ := bs H103
                      refine WL.mem rfl (Own.app (R := R_api_Cell) (z := .agg #[.int .i64 0, .slice none 0 0]) (by_ := 32) (ty := 22) 1 O125 rfl (h79.mono (l99.trans (l105.trans (l123.trans l127)))) h126 h129 Tryd.underlying22 (by kernel_rfl) rfl (by kernel_rfl) (by kernel_rfl)) ?_
                      rintro v134 c133 l133 ⟨u131, O130, h132⟩
                      refine va (v134) ?_
                      refine WL.nil ?_
                      refine bkn ?_
                      refine nrm ?_
                      obtain rfl := Option.some.inj H103
                      have O135 := O130.selD 3 [1, 2] (by kernel_rfl) (by kernel_rfl)
                      exact ⟨c133, _, v134, u131, rfl, (l99.trans (l105.trans (l123.trans (l127.trans l133)))), O135, ups_self ⟨rfl, rfl, rfl, rfl, rfl, rfl, rfl, rfl, rfl, rfl, rfl, trivial⟩, h132⟩
                  · have H90 := ie h101 H90
                    refine W.skip ?_
                    refine bkn ?_
                    refine nrm ?_
                    obtain rfl := Option.some.inj H90
                    exact ⟨c99, _, v72, u73, rfl, l99, O96, ups_self ⟨rfl, rfl, rfl, rfl, rfl, rfl, rfl, rfl, rfl, rfl, rfl, trivial⟩, (h79.mono l99)⟩
                · skip
                  rintro e_ w_ ⟨c136, g137, v92, u93, rfl, l136, O138, rfl, h139⟩
                  refine W.region ?_
                  refine va (.int .i64 s_53.2.2) ?_
                  refine va (.int .i64 (w64 (s_53.2.2 + 1))) ?_
                  refine va (.int .i64 (w64 (s_53.2.2 + 1))) ?_
                  refine WL.nil ?_
                  obtain rfl := Option.some.inj H91
                  refine ⟨_, rfl, ?_⟩
                  exact ⟨c136, _, v92, u93, rfl, (l76.trans l136), O138, ups_self ⟨rfl, rfl, rfl, rfl, rfl, rfl, rfl, rfl, rfl, rfl, rfl, trivial⟩, h139⟩
              · have H30 := ie h89 H30
                refine W.exit ?_
                refine thx ?_
                obtain rfl := Option.some.inj H30
                refine ⟨_, rfl, rfl, ?_⟩
                exact ⟨c76, _, v72, u73, rfl, l76, O78, ups_self ⟨rfl, rfl, rfl, rfl, rfl, rfl, rfl, rfl, rfl, trivial⟩, h79⟩
            · skip
              have h144 : OA R_api_Cell c57 (.slice none 0 0) [] [] := OA.nil (Nat.succ_pos _)
              have O143 := O59.addHole (e := es true R_api_Cell (.slice none 0 0) 27 [] ([] : List G_api_Cell)) rfl
              exact ⟨c57, _, (.slice none 0 0), [], rfl, (Cx.le.refl _), O143, ups_self ⟨rfl, rfl, rfl, rfl, rfl, rfl, rfl, rfl, rfl, rfl, rfl, trivial⟩, h144⟩
            · skip
              rintro _ e_ w_ ⟨rfl, c145, g146, v74, u75, rfl, l145, O147, rfl, h148⟩
              refine bke ?_
              refine nrm ?_
              refine sr ?_
              refine va (.int .i64 o_53.1) ?_
              refine va (.bool (decide (o_53.1 ≥ 0))) ?_
              refine wln ?_
              refine W.cond (t := decide (o_53.1 ≥ 0)) (by kernel_rfl) (fun h152 => ?_) (fun h152 => ?_)
              · have H71 := it h152 H71
                refine W.seq ?_
                refine W.regionD [] (Kp G0 []) O147 (by kernel_rfl) ?_
                intro c153 l153 O154
                have p155 : Kp G0 [] c153 := Kp.nil0
                refine ta 0 (v1) ?_
                refine ta 1 (.int .i64 s_13.2.2) ?_
                obtain ⟨x_97, h156, H71⟩ := bs H71
                obtain ⟨l_157, h158, m159⟩ := Sl.at (h2.mono (l8.trans (l14.trans (l22.trans (l57.trans (l145.trans l153)))))) (idx_get h156)
                obtain ⟨v160, rfl, h161⟩ := h158
                refine AC.take 2 (.pointer (some ⟨sb v1, so v1 + s_13.2.2.toNat * 2, none⟩)) rfl (by kernel_rfl) (by kernel_rfl) (fun c' hle => (rx (by kernel_rfl) (run_index (k := .i64) Tryd.underlying47 (by kernel_rfl) (h2.mono (l8.trans (l14.trans (l22.trans (l57.trans (l145.trans l153)))))) h156 _))) ?_
                refine ta 3 (.pointer (some ⟨sb v1, so v1 + s_13.2.2.toNat * 2, none⟩)) ?_
                refine AC.take 4 (v160) rfl (by kernel_rfl) (by kernel_rfl) (fun c' hle => (rx (by kernel_rfl) (run_load1 Tryd.underlying22 rfl ((fun j u hu => (m159 j u hu).mono hle) 0 _ rfl)))) ?_
                refine ta 5 (v1) ?_
                refine ta 6 (.int .i64 s_13.2.2) ?_
                obtain ⟨x_102, h162, H71⟩ := bs H71
                obtain ⟨l_163, h164, m165⟩ := Sl.at (h2.mono (l8.trans (l14.trans (l22.trans (l57.trans (l145.trans l153)))))) (idx_get h162)
                obtain ⟨v166, rfl, h167⟩ := h164
                refine AC.take 7 (.pointer (some ⟨sb v1, so v1 + s_13.2.2.toNat * 2, none⟩)) rfl (by kernel_rfl) (by kernel_rfl) (fun c' hle => (rx (by kernel_rfl) (run_index (k := .i64) Tryd.underlying47 (by kernel_rfl) (h2.mono (l8.trans (l14.trans (l22.trans (l57.trans (l145.trans l153)))))) h162 _))) ?_
                refine ta 8 (.pointer (some ⟨sb v1, so v1 + s_13.2.2.toNat * 2 + 1, none⟩)) ?_
                refine AC.take 9 (.bool x_102.Wrap) rfl (by kernel_rfl) (by kernel_rfl) (fun c' hle => (rx (by kernel_rfl) (run_load1 Tryd.underlying4 rfl ((fun j u hu => (m165 j u hu).mono hle) 1 _ rfl)))) ?_
                refine ta 10 (.int .i64 o_53.1) ?_
                refine ta 11 (v74) ?_
                obtain ⟨c170, h171, l170, O168, h169⟩ := O154.frz 0 rfl (h148.mono l153)
                have p172 : Kp G0 [] c170 := Kp.nil0
                refine AC.gh h171 l170 (fun _ => p172) ?_
                obtain ⟨x_107, h173, H71⟩ := bs H71
                refine AC.one 12 (by kernel_rfl) (Go1.callP 12 rfl (by kernel_rfl) (by kernel_rfl) (by kernel_rfl) (c_linotyperef59_whole O168 o_53.2 h169 h173) ?_)
                rintro v174 c181 l181 ⟨_, u175, O178, rfl, h176⟩
                have p183 : Kp G0 [] c181 := Kp.nil0
                refine ⟨.inr p183, ?_⟩
                obtain ⟨c186, h187, l186, O184, h185⟩ := O178.frz 0 rfl h176
                have p188 : Kp G0 [] c186 := Kp.nil0
                refine AC.gh h187 l186 (fun _ => p188) ?_
                obtain ⟨x_108, h189, H71⟩ := bs H71
                refine AC.one 13 (by kernel_rfl) (Go1.callP 13 rfl (by kernel_rfl) (by kernel_rfl) (by kernel_rfl) (c_linotyperef24_Paint O184 x_97.Cells x_102.Wrap o_53.1 x_107 (h161.mono (l170.trans (l181.trans l186))) h185 h189) ?_)
                rintro v198 c197 l197 ⟨v190, u191, O194, rfl, h192⟩
                have p199 : Kp G0 [] c197 := Kp.nil0
                refine ⟨.inr p199, ?_⟩
                refine ta 14 (.tuple #[v190, .bool x_108.2]) ?_
                refine ta 15 (v190) ?_
                refine ta 16 (.bool x_108.2) ?_
                refine ta 17 (v190) ?_
                refine ta 18 (.bool x_108.2) ?_
                refine AC.done (by kernel_rfl) ?_
                refine nrm ?_
                refine sr ?_
                refine va (v18) ?_
                refine va (.int .i64 s_13.2.2) ?_
                refine va (v190) ?_
                refine va (.bool x_108.2) ?_
                obtain ⟨a200, a201, a202, rfl⟩ := (h192).form
                refine va (.agg #[.slice a200 a201 a202, .bool x_108.2]) ?_
                obtain ⟨x_120, h203, H71⟩ := bs H71
                refine WL.val0 (v := .pointer (some ⟨sb v18, s_13.2.2.toNat * 2, none⟩)) rfl (rx (by kernel_rfl) (run_indexO (k := .i64) Tryd.underlying47 (by kernel_rfl) (h25.mono (l57.trans (l145.trans (l153.trans (l170.trans (l181.trans (l186.trans l197))))))) h203 _)) ?_
                obtain ⟨c206, h207, l206, O204, h205⟩ := O194.frz 0 rfl h192
                refine WL.gh h207 ?_
                obtain ⟨w_121, h208, H71⟩ := bs H71
                refine WL.memD rfl (Own.stW (R := R_api_Line) (T := 62) (us := [.slice a200 a201 a202, .bool x_108.2]) (x' := (⟨x_108.1, x_108.2⟩ : G_api_Line)) (u := .agg #[.slice a200 a201 a202, .bool x_108.2]) 3 O204 (by kernel_rfl) rfl (h25.mono (l57.trans (l145.trans (l153.trans (l170.trans (l181.trans (l186.trans (l197.trans l206)))))))) h208 rfl (by kernel_rfl) ⟨h205.one, rfl, trivial⟩ rfl ⟨(.slice a200 a201 a202), rfl, h205⟩) ?_
                rintro c212 l212 ⟨u210, O209, h211⟩
                refine wln ?_
                refine W.region ?_
                refine va (.int .i64 s_13.2.1) ?_
                refine va (.int .i64 (w64 (s_13.2.1 + 1))) ?_
                refine va (.int .i64 (w64 (s_13.2.1 + 1))) ?_
                refine WL.nil ?_
                refine bkn ?_
                refine nrm ?_
                obtain rfl := Option.some.inj H71
                have O213 := O209.selD 4 [3] (by kernel_rfl) (by kernel_rfl)
                exact ⟨c212, _, v18, u210, rfl, (l57.trans (l145.trans (l153.trans (l170.trans (l181.trans (l186.trans (l197.trans (l206.trans l212)))))))), O213, ups_self ⟨rfl, rfl, rfl, rfl, rfl, rfl, rfl, trivial⟩, h211⟩
              · have H71 := ie h152 H71
                refine W.skip ?_
                refine bkn ?_
                refine nrm ?_
                obtain rfl := Option.some.inj H71
                have O214 := O147.selD 2 [1] (by kernel_rfl) (by kernel_rfl)
                exact ⟨c145, _, v18, u19, rfl, (l57.trans l145), O214, ups_self ⟨rfl, rfl, rfl, rfl, rfl, rfl, rfl, trivial⟩, (h25.mono (l57.trans l145))⟩
      · skip
        rintro e_ w_ ⟨c215, g216, v32, u33, rfl, l215, O217, rfl, h218⟩
        refine W.region ?_
        refine va (.int .i64 s_13.2.2) ?_
        refine va (.int .i64 (w64 (s_13.2.2 + 1))) ?_
        refine va (.int .i64 (w64 (s_13.2.2 + 1))) ?_
        refine WL.nil ?_
        obtain rfl := Option.some.inj H31
        refine ⟨_, rfl, ?_⟩
        exact ⟨c215, _, v32, u33, rfl, (l22.trans l215), O217, ups_self ⟨rfl, rfl, rfl, rfl, rfl, rfl, rfl, trivial⟩, h218⟩
    · have H := ie h29 H
      refine W.exit ?_
      refine thx ?_
      obtain rfl := Option.some.inj H
      refine ⟨_, rfl, rfl, ?_⟩
      exact ⟨c22, _, v18, u19, rfl, l22, O24, ups_self ⟨rfl, rfl, trivial⟩, h25⟩
  · skip
    exact ⟨c14, _, v15, u12, rfl, (Cx.le.refl _), O11, ups_self ⟨rfl, rfl, rfl, rfl, rfl, rfl, rfl, trivial⟩, h13⟩
  · skip
    rintro _ e_ w_ ⟨rfl, c222, g223, v20, u21, rfl, l222, O224, rfl, h225⟩
    refine bke ?_
    refine nrm ?_
    refine sr ?_
    refine va (v20) ?_
    refine va (.int .i64 o_13.2) ?_
    refine va (v20) ?_
    refine va (.int .i64 o_13.2) ?_
    refine wln ?_
    refine W.ret ?_
    obtain rfl := Option.some.inj H17
    exact ret2 (v := v20) (v' := .int .i64 o_13.2) rfl (by kernel_rfl) (by kernel_rfl) ⟨_, c222, rfl, rfl, (l8.trans (l14.trans l222)), v20, u21, O224, rfl, h225⟩

def f_linotyperef29_Right (p0 : G_api_Item) : Option (Bool) :=
  if ((p0.Text.length : Int) == 0) = true then
  some (p0.Wide == 1)
  else
  (orE (p0.Wide == 1) (some (p0.Wide == 2))).bind fun d_17 =>
  (andE d_17 ((f_linotyperef23_Right (⟨1, p0.Text⟩ : G_api_Cell)).bind fun x_27 =>
  some x_27)).bind fun d_22 =>
  some d_22
theorem c_linotyperef29_Right {c0 : Cx} {G : Gm} {F : List En} {v1 : Value} (O0 : Own c0 G F) (p0 : G_api_Item) {r : Bool} (h2 : Sl (RI .i32) c0 v1 p0.Text) (H : f_linotyperef29_Right p0 = some r) :
    Calls Tryd.prog 61 #[.agg #[.int .i64 p0.Wide, v1]] c0.w (Post c0 fun c v => Own c G (F) ∧ v = .bool r) := by
  unfold f_linotyperef29_Right at H
  refine enter (l := [.agg #[.int .i64 p0.Wide, v1]]) Tryd.func61 rfl rfl rfl ?_
  refine sr ?_
  obtain ⟨a3, a4, a5, rfl⟩ := (h2).form
  refine WL.mem rfl (Own.bx (T := 95) (vs := [.int .i64 p0.Wide, .slice a3 a4 a5]) O0 (by kernel_rfl)) ?_
  rintro v10 c9 l9 ⟨b6, rfl, O7, m8⟩
  refine va (.bool false) ?_
  refine wln ?_
  refine W.seq ?_
  refine sr ?_
  refine va (.pointer (some ⟨b6, 0 + 1, none⟩)) ?_
  refine WL.val0 (v := .slice a3 a4 a5) rfl (rx (by kernel_rfl) (run_load1 Tryd.underlying25 rfl (m8 1 _ rfl))) ?_
  refine WL.val0 (v := .int .i64 (p0.Text.length : Int)) rfl (rx (by kernel_rfl) (run_len (ty := 3) Tryd.underlying25 (h2.mono l9) _)) ?_
  refine va (.bool ((p0.Text.length : Int) == 0)) ?_
  refine wln ?_
  refine W.cond (t := (p0.Text.length : Int) == 0) (by kernel_rfl) (fun h11 => ?_) (fun h11 => ?_)
  · have H := it h11 H
    refine sr ?_
    refine va (.pointer (some ⟨b6, 0, none⟩)) ?_
    refine WL.val0 (v := .int .i64 p0.Wide) rfl (rx (by kernel_rfl) (run_load1 Tryd.underlying3 rfl (m8 0 _ rfl))) ?_
    refine va (.bool (p0.Wide == 1)) ?_
    refine va (.bool (p0.Wide == 1)) ?_
    refine wln ?_
    refine W.ret ?_
    refine thr ?_
    obtain rfl := Option.some.inj H
    exact ret1 (v := .bool (p0.Wide == 1)) rfl (by kernel_rfl) ⟨_, c9, rfl, rfl, l9, O7, rfl⟩
  · have H := ie h11 H
    refine W.skip ?_
    refine nrm ?_
    refine W.seq ?_
    obtain ⟨d_17, h12, H⟩ := bs H
    obtain ⟨d_22, h13, H⟩ := bs H
    refine W.join (fun e w => ∃ (c : Cx) (g : Nat → Value), w = c.w ∧ c9.le c ∧ Own c G (F) ∧ e = ups g [(2, .bool d_22)]) ?_ ?_
    · clear H
      refine W.region ?_
      refine va (.pointer (some ⟨b6, 0, none⟩)) ?_
      refine WL.val0 (v := .int .i64 p0.Wide) rfl (rx (by kernel_rfl) (run_load1 Tryd.underlying3 rfl (m8 0 _ rfl))) ?_
      refine va (.bool (p0.Wide == 1)) ?_
      rcases Bool.eq_false_or_eq_true (p0.Wide == 1) with h14 | h14
      · skip
        obtain rfl := orT h14 h12
        refine vb h14 ?_
        refine ps ?_
        refine ps ?_
        refine ps ?_
        refine va (.bool true) ?_
        have h15 : true = true := rfl
        have H16 := anT h15 h13
        refine vb h15 ?_
        refine wn ?_
        refine va (.pointer (some ⟨b6, 0 + 1, none⟩)) ?_
        refine wn ?_
        refine WL.val0 (v := .slice a3 a4 a5) rfl (rx (by kernel_rfl) (run_load1 Tryd.underlying25 rfl (m8 1 _ rfl))) ?_
        refine wn ?_
        refine va (.agg #[.int .i64 1, .slice a3 a4 a5]) ?_
        refine wn ?_
        obtain ⟨x_27, h17, H16⟩ := bs H16
        refine WL.callP rfl (by kernel_rfl) (c_linotyperef23_Right O7 (⟨1, p0.Text⟩ : G_api_Cell) (h2.mono l9) h17) ?_
        rintro v23 c22 l22 ⟨O19, rfl⟩
        obtain rfl := Option.some.inj H16
        refine va (.bool x_27) ?_
        refine va (.bool x_27) ?_
        refine wln ?_
        exact ⟨c22, _, rfl, l22, O19, ups_self ⟨rfl, trivial⟩⟩
      · skip
        have H24 := orF h14 h12
        refine vb h14 ?_
        refine wn ?_
        refine va (.pointer (some ⟨b6, 0, none⟩)) ?_
        refine wn ?_
        refine WL.val0 (v := .int .i64 p0.Wide) rfl (rx (by kernel_rfl) (run_load1 Tryd.underlying3 rfl (m8 0 _ rfl))) ?_
        refine wn ?_
        refine va (.bool (p0.Wide == 2)) ?_
        obtain rfl := Option.some.inj H24
        refine va (.bool (p0.Wide == 2)) ?_
        rcases Bool.eq_false_or_eq_true (p0.Wide == 2) with h25 | h25
        · skip
          have H26 := anT h25 h13
          refine vb h25 ?_
          refine wn ?_
          refine va (.pointer (some ⟨b6, 0 + 1, none⟩)) ?_
          refine wn ?_
          refine WL.val0 (v := .slice a3 a4 a5) rfl (rx (by kernel_rfl) (run_load1 Tryd.underlying25 rfl (m8 1 _ rfl))) ?_
          refine wn ?_
          refine va (.agg #[.int .i64 1, .slice a3 a4 a5]) ?_
          refine wn ?_
          obtain ⟨x_27, h27, H26⟩ := bs H26
          refine WL.callP rfl (by kernel_rfl) (c_linotyperef23_Right O7 (⟨1, p0.Text⟩ : G_api_Cell) (h2.mono l9) h27) ?_
          rintro v33 c32 l32 ⟨O29, rfl⟩
          obtain rfl := Option.some.inj H26
          refine va (.bool x_27) ?_
          refine va (.bool x_27) ?_
          refine wln ?_
          exact ⟨c32, _, rfl, l32, O29, ups_self ⟨rfl, trivial⟩⟩
        · skip
          obtain rfl := anF h25 h13
          refine vb h25 ?_
          refine ps ?_
          refine ps ?_
          refine ps ?_
          refine ps ?_
          refine va (.bool false) ?_
          refine va (.bool false) ?_
          refine wln ?_
          exact ⟨c9, _, rfl, (Cx.le.refl _), O7, ups_self ⟨rfl, trivial⟩⟩
    · skip
      rintro e_ w_ ⟨c34, g35, rfl, l34, O36, rfl⟩
      refine nrm ?_
      refine W.ret ?_
      obtain rfl := Option.some.inj H
      exact ret1 (v := .bool d_22) rfl (by kernel_rfl) ⟨_, c34, rfl, rfl, (l9.trans l34), O36, rfl⟩

def f_linotyperef59_Take (p0 : List G_api_Line) (p1 : Int × Int × Int × Int) : Option (List G_api_Line) :=
  (iter (σ := (List G_api_Line) × Int) (τ := (List G_api_Line)) (((p0.length : Int) - 0).toNat + 1) (fun s_8 =>
  if (decide (s_8.2 < (p0.length : Int))) = true then
  ((f_linotyperef59_in s_8.2 p1.1 p1.2.2.2).bind fun x_20 =>
  if (!x_20) = true then
  (some (s_8.1) : Option ((List G_api_Line)))
  else
  (idx p0 s_8.2).bind fun fx_31 =>
  (iter (σ := (List G_api_Cell) × Int) (τ := (List G_api_Cell)) (((fx_31.Cells.length : Int) - 0).toNat + 1) (fun s_27 =>
  (idx p0 s_8.2).bind fun x_31 =>
  if (decide (s_27.2 < (x_31.Cells.length : Int))) = true then
  ((f_linotyperef59_in s_27.2 p1.2.1 p1.2.2.1).bind fun x_43 =>
  if x_43 = true then
  (idx p0 s_8.2).bind fun x_48 =>
  (idx x_48.Cells s_27.2).bind fun x_52 =>
  (app s_27.1 ([x_52] : List G_api_Cell)).bind fun x_55 =>
  (some (x_55) : Option ((List G_api_Cell)))
  else
  (some (s_27.1) : Option ((List G_api_Cell)))).bind fun z_37 =>
  some (.inl (z_37, (w64 (s_27.2 + 1))))
  else
  some (.inr (s_27.1))) (([] : List G_api_Cell), 0)).bind fun o_27 =>
  if (decide ((o_27.length : Int) > 0)) = true then
  (f_linotyperef59_whole o_27).bind fun x_68 =>
  (app s_8.1 ([(⟨x_68, false⟩ : G_api_Line)] : List G_api_Line)).bind fun x_71 =>
  (some (x_71) : Option ((List G_api_Line)))
  else
  (some (s_8.1) : Option ((List G_api_Line)))).bind fun z_14 =>
  some (.inl (z_14, (w64 (s_8.2 + 1))))
  else
  some (.inr (s_8.1))) (([] : List G_api_Line), 0)).bind fun o_8 =>
  some o_8
theorem c_linotyperef59_Take {c0 : Cx} {G : Gm} {F : List En} {v1 : Value} (O0 : Own c0 G F) (p0 : List G_api_Line) (p1 : Int × Int × Int × Int) {r : List G_api_Line} (h2 : Sl R_api_Line c0 v1 p0) (H : f_linotyperef59_Take p0 p1 = some r) :
    Calls Tryd.prog 64 #[v1, .agg #[.int .i64 p1.1, .int .i64 p1.2.1, .int .i64 p1.2.2.1, .int .i64 p1.2.2.2]] c0.w (Post c0 fun c v => ∃ y1 : Value, ∃ y2 : List Value, Own c G (es true R_api_Line y1 62 y2 r :: F) ∧ v = y1 ∧ OA R_api_Line c y1 y2 r) := by
  unfold f_linotyperef59_Take at H
  refine enter (l := [v1, .agg #[.int .i64 p1.1, .int .i64 p1.2.1, .int .i64 p1.2.2.1, .int .i64 p1.2.2.2]]) Tryd.func64 rfl rfl rfl ?_
  refine sr ?_
  refine WL.mem rfl (Own.bx (T := 105) (vs := [.int .i64 p1.1, .int .i64 p1.2.1, .int .i64 p1.2.2.1, .int .i64 p1.2.2.2]) O0 (by kernel_rfl)) ?_
  rintro v7 c6 l6 ⟨b3, rfl, O4, m5⟩
  refine va (.slice none 0 0) ?_
  refine wln ?_
  refine sr ?_
  refine va (.slice none 0 0) ?_
  refine wln ?_
  refine W.seq ?_
  refine sr ?_
  refine va (.int .i64 0) ?_
  refine wln ?_
  refine W.block ?_
  obtain ⟨o_8, h8, H9⟩ := bs H
  refine W.loop (σ := (List G_api_Line) × Int) (τ := (List G_api_Line)) (fun s_8 => fun e w => ∃ (c : Cx) (g : Nat → Value) (v10 : Value) (u11 : List Value), w = c.w ∧ c6.le c ∧ Own c G (es true R_api_Line v10 62 u11 s_8.1 :: F) ∧ e = ups g [(0, v1), (3, .pointer (some ⟨b3, 0, none⟩)), (5, v10), (6, .int .i64 s_8.2)] ∧ OA R_api_Line c v10 u11 s_8.1) (fun o_8_ ex e w => ex = .exit 0 ∧ (fun e w => ∃ (c : Cx) (g : Nat → Value) (v12 : Value) (u13 : List Value), w = c.w ∧ c6.le c ∧ Own c G (es true R_api_Line v12 62 u13 o_8_ :: F) ∧ e = ups g [(5, v12)] ∧ OA R_api_Line c v12 u13 o_8_) e w) ?_ h8 ?_ ?_
  · clear H9 h8
    intro s_8 xx_ ee_ ww_ H
    revert ee_ ww_
    rintro e_ w_ ⟨c14, g15, v10, u11, rfl, l14, O16, rfl, h17⟩
    refine W.seq ?_
    refine sr ?_
    refine va (.int .i64 s_8.2) ?_
    refine va (v1) ?_
    refine WL.val0 (v := .int .i64 (p0.length : Int)) rfl (rx (by kernel_rfl) (run_len (ty := 3) Tryd.underlying47 (h2.mono (l6.trans l14)) _)) ?_
    refine va (.bool (decide (s_8.2 < (p0.length : Int)))) ?_
    refine wln ?_
    refine W.cond (t := decide (s_8.2 < (p0.length : Int))) (by kernel_rfl) (fun h21 => ?_) (fun h21 => ?_)
    · have H := it h21 H
      refine W.skip ?_
      refine nrm ?_
      obtain ⟨z_14, H22, H23⟩ := bs H
      refine W.seqJ (fun e w => ∃ (c : Cx) (g : Nat → Value) (v24 : Value) (u25 : List Value), w = c.w ∧ c14.le c ∧ Own c G (es true R_api_Line v24 62 u25 z_14 :: F) ∧ e = ups g [(0, v1), (3, .pointer (some ⟨b3, 0, none⟩)), (5, v24), (6, .int .i64 s_8.2)] ∧ OA R_api_Line c v24 u25 z_14) ?_ ?_
      · skip
        refine W.block ?_
        refine W.seq ?_
        refine sr ?_
        refine va (.int .i64 s_8.2) ?_
        refine va (.pointer (some ⟨b3, 0, none⟩)) ?_
        refine WL.val0 (v := .int .i64 p1.1) rfl (rx (by kernel_rfl) (run_load1 Tryd.underlying3 rfl ((fun j u hu => (m5 j u hu).mono l14) 0 _ rfl))) ?_
        refine va (.pointer (some ⟨b3, 0 + 3, none⟩)) ?_
        refine WL.val0 (v := .int .i64 p1.2.2.2) rfl (rx (by kernel_rfl) (run_load1 Tryd.underlying3 rfl ((fun j u hu => (m5 j u hu).mono l14) 3 _ rfl))) ?_
        obtain ⟨x_20, h26, H22⟩ := bs H22
        refine WL.callP rfl (by kernel_rfl) (c_linotyperef59_in O16 s_8.2 p1.1 p1.2.2.2 h26) ?_
        rintro v32 c31 l31 ⟨O28, rfl⟩
        refine va (.bool (!x_20)) ?_
        refine wln ?_
        refine W.cond (t := !x_20) (by kernel_rfl) (fun h33 => ?_) (fun h33 => ?_)
        · have H22 := it h33 H22
          refine W.exit ?_
          refine thx ?_
          refine bke ?_
          refine nrm ?_
          obtain rfl := Option.some.inj H22
          exact ⟨c31, _, v10, u11, rfl, l31, O28, ups_self ⟨rfl, rfl, rfl, rfl, trivial⟩, (h17.mono l31)⟩
        · have H22 := ie h33 H22
          refine W.skip ?_
          refine nrm ?_
          refine sr ?_
          refine va (.slice none 0 0) ?_
          refine wln ?_
          refine W.seq ?_
          refine sr ?_
          refine va (.int .i64 0) ?_
          refine wln ?_
          refine W.block ?_
          obtain ⟨fx_31, _, H22⟩ := bs H22
          obtain ⟨o_27, h34, H35⟩ := bs H22
          refine W.loop (σ := (List G_api_Cell) × Int) (τ := (List G_api_Cell)) (fun s_27 => fun e w => ∃ (c : Cx) (g : Nat → Value) (v36 : Value) (u37 : List Value), w = c.w ∧ c31.le c ∧ Own c G (es true R_api_Cell v36 27 u37 s_27.1 :: es true R_api_Line v10 62 u11 s_8.1 :: F) ∧ e = ups g [(0, v1), (3, .pointer (some ⟨b3, 0, none⟩)), (5, v10), (6, .int .i64 s_8.2), (7, v36), (8, .int .i64 s_27.2)] ∧ OA R_api_Cell c v36 u37 s_27.1) (fun o_27_ ex e w => ex = .exit 2 ∧ (fun e w => ∃ (c : Cx) (g : Nat → Value) (v38 : Value) (u39 : List Value), w = c.w ∧ c31.le c ∧ Own c G (es true R_api_Cell v38 27 u39 o_27_ :: es true R_api_Line v10 62 u11 s_8.1 :: F) ∧ e = ups g [(0, v1), (3, .pointer (some ⟨b3, 0, none⟩)), (5, v10), (6, .int .i64 s_8.2), (7, v38)] ∧ OA R_api_Cell c v38 u39 o_27_) e w) ?_ h34 ?_ ?_
          · clear H35 h34
            intro s_27 xx_ ee_ ww_ H22
            revert ee_ ww_
            rintro e_ w_ ⟨c40, g41, v36, u37, rfl, l40, O42, rfl, h43⟩
            refine W.seq ?_
            refine sr ?_
            refine va (.int .i64 s_27.2) ?_
            refine va (v1) ?_
            refine va (.int .i64 s_8.2) ?_
            obtain ⟨x_31, h47, H22⟩ := bs H22
            obtain ⟨l_48, h49, m50⟩ := Sl.at (h2.mono (l6.trans (l14.trans (l31.trans l40)))) (idx_get h47)
            obtain ⟨v51, rfl, h52⟩ := h49
            refine WL.val0 (v := .pointer (some ⟨sb v1, so v1 + s_8.2.toNat * 2, none⟩)) rfl (rx (by kernel_rfl) (run_index (k := .i64) Tryd.underlying47 (by kernel_rfl) (h2.mono (l6.trans (l14.trans (l31.trans l40)))) h47 _)) ?_
            refine va (.pointer (some ⟨sb v1, so v1 + s_8.2.toNat * 2, none⟩)) ?_
            refine WL.val0 (v := v51) rfl (rx (by kernel_rfl) (run_load1 Tryd.underlying22 rfl (m50 0 _ rfl))) ?_
            refine WL.val0 (v := .int .i64 (x_31.Cells.length : Int)) rfl (rx (by kernel_rfl) (run_len (ty := 3) Tryd.underlying22 h52 _)) ?_
            refine va (.bool (decide (s_27.2 < (x_31.Cells.length : Int)))) ?_
            refine wln ?_
            refine W.cond (t := decide (s_27.2 < (x_31.Cells.length : Int))) (by kernel_rfl) (fun h53 => ?_) (fun h53 => ?_)
            · have H22 := it h53 H22
              refine W.skip ?_
              refine nrm ?_
              obtain ⟨z_37, H54, H55⟩ := bs H22
              refine W.seqJ (fun e w => ∃ (c : Cx) (g : Nat → Value) (v56 : Value) (u57 : List Value), w = c.w ∧ c40.le c ∧ Own c G (es true R_api_Cell v56 27 u57 z_37 :: es true R_api_Line v10 62 u11 s_8.1 :: F) ∧ e = ups g [(0, v1), (3, .pointer (some ⟨b3, 0, none⟩)), (5, v10), (6, .int .i64 s_8.2), (7, v56), (8, .int .i64 s_27.2)] ∧ OA R_api_Cell c v56 u57 z_37) ?_ ?_
              · skip
                refine W.block ?_
                refine sr ?_
                refine va (.int .i64 s_27.2) ?_
                refine va (.pointer (some ⟨b3, 0 + 1, none⟩)) ?_
                refine WL.val0 (v := .int .i64 p1.2.1) rfl (rx (by kernel_rfl) (run_load1 Tryd.underlying3 rfl ((fun j u hu => (m5 j u hu).mono (l14.trans (l31.trans l40))) 1 _ rfl))) ?_
                refine va (.pointer (some ⟨b3, 0 + 2, none⟩)) ?_
                refine WL.val0 (v := .int .i64 p1.2.2.1) rfl (rx (by kernel_rfl) (run_load1 Tryd.underlying3 rfl ((fun j u hu => (m5 j u hu).mono (l14.trans (l31.trans l40))) 2 _ rfl))) ?_
                obtain ⟨x_43, h58, H54⟩ := bs H54
                refine WL.callP rfl (by kernel_rfl) (c_linotyperef59_in O42 s_27.2 p1.2.1 p1.2.2.1 h58) ?_
                rintro v64 c63 l63 ⟨O60, rfl⟩
                refine wln ?_
                refine W.cond (t := x_43) (by kernel_rfl) (fun h65 => ?_) (fun h65 => ?_)
                · have H54 := it h65 H54
                  refine W.region ?_
                  refine va (v36) ?_
                  refine va (v1) ?_
                  refine va (.int .i64 s_8.2) ?_
                  obtain ⟨x_48, h66, H54⟩ := bs H54
                  obtain ⟨l_67, h68, m69⟩ := Sl.at (h2.mono (l6.trans (l14.trans (l31.trans (l40.trans l63))))) (idx_get h66)
                  obtain ⟨v70, rfl, h71⟩ := h68
                  refine WL.val0 (v := .pointer (some ⟨sb v1, so v1 + s_8.2.toNat * 2, none⟩)) rfl (rx (by kernel_rfl) (run_index (k := .i64) Tryd.underlying47 (by kernel_rfl) (h2.mono (l6.trans (l14.trans (l31.trans (l40.trans l63))))) h66 _)) ?_
                  refine va (.pointer (some ⟨sb v1, so v1 + s_8.2.toNat * 2, none⟩)) ?_
                  refine WL.val0 (v := v70) rfl (rx (by kernel_rfl) (run_load1 Tryd.underlying22 rfl (m69 0 _ rfl))) ?_
                  refine va (.int .i64 s_27.2) ?_
                  obtain ⟨x_52, h72, H54⟩ := bs H54
                  obtain ⟨l_73, h74, m75⟩ := Sl.at h71 (idx_get h72)
                  obtain ⟨v76, rfl, h77⟩ := h74
                  refine WL.val0 (v := .pointer (some ⟨sb v70, so v70 + s_27.2.toNat * 2, none⟩)) rfl (rx (by kernel_rfl) (run_index (k := .i64) Tryd.underlying22 (by kernel_rfl) h71 h72 _)) ?_
                  refine WL.val0 (v := .agg #[.int .i64 x_52.Kind, v76]) rfl (rx (by kernel_rfl) (run_loadN (T := 27) (by kernel_rfl) (by kernel_rfl) m75)) ?_
                  obtain ⟨a78, a79, a80, rfl⟩ := (h77).form
                  refine WL.mem rfl (Own.sl (R := R_api_Cell) (E := 27) (ls := [[.int .i64 x_52.Kind, .slice a78 a79 a80]]) (vs := [.int .i64 x_52.Kind, .slice a78 a79 a80]) (xs := ([x_52] : List G_api_Cell)) true O60 (Nat.succ_pos _) rfl ⟨⟨(.slice a78 a79 a80), rfl, h77⟩, trivial⟩ (by kernel_rfl) (by kernel_rfl)) ?_
                  rintro v85 c84 l84 ⟨u82, O81, h83⟩
                  obtain ⟨c88, h89, l88, O86, h87⟩ := O81.frz 0 rfl h83
                  refine WL.gh h89 ?_
                  obtain ⟨x_55, h90, H54⟩ := bs H54
                  refine WL.mem rfl (Own.app (R := R_api_Cell) (z := .agg #[.int .i64 0, .slice none 0 0]) (by_ := 32) (ty := 22) 1 O86 rfl (h43.mono (l63.trans (l84.trans l88))) h87 h90 Tryd.underlying22 (by kernel_rfl) rfl (by kernel_rfl) (by kernel_rfl)) ?_
                  rintro v95 c94 l94 ⟨u92, O91, h93⟩
                  refine va (v95) ?_
                  refine WL.nil ?_
                  refine bkn ?_
                  refine nrm ?_
                  obtain rfl := Option.some.inj H54
                  have O96 := O91.selD 3 [1, 2] (by kernel_rfl) (by kernel_rfl)
                  exact ⟨c94, _, v95, u92, rfl, (l63.trans (l84.trans (l88.trans l94))), O96, ups_self ⟨rfl, rfl, rfl, rfl, rfl, rfl, trivial⟩, h93⟩
                · have H54 := ie h65 H54
                  refine W.skip ?_
                  refine bkn ?_
                  refine nrm ?_
                  obtain rfl := Option.some.inj H54
                  exact ⟨c63, _, v36, u37, rfl, l63, O60, ups_self ⟨rfl, rfl, rfl, rfl, rfl, rfl, trivial⟩, (h43.mono l63)⟩
              · skip
                rintro e_ w_ ⟨c97, g98, v56, u57, rfl, l97, O99, rfl, h100⟩
                refine W.region ?_
                refine va (.int .i64 s_27.2) ?_
                refine va (.int .i64 (w64 (s_27.2 + 1))) ?_
                refine va (.int .i64 (w64 (s_27.2 + 1))) ?_
                refine WL.nil ?_
                obtain rfl := Option.some.inj H55
                refine ⟨_, rfl, ?_⟩
                exact ⟨c97, _, v56, u57, rfl, (l40.trans l97), O99, ups_self ⟨rfl, rfl, rfl, rfl, rfl, rfl, trivial⟩, h100⟩
            · have H22 := ie h53 H22
              refine W.exit ?_
              refine thx ?_
              obtain rfl := Option.some.inj H22
              refine ⟨_, rfl, rfl, ?_⟩
              exact ⟨c40, _, v36, u37, rfl, l40, O42, ups_self ⟨rfl, rfl, rfl, rfl, rfl, trivial⟩, h43⟩
          · skip
            have h105 : OA R_api_Cell c31 (.slice none 0 0) [] [] := OA.nil (Nat.succ_pos _)
            have O104 := O28.addHole (e := es true R_api_Cell (.slice none 0 0) 27 [] ([] : List G_api_Cell)) rfl
            exact ⟨c31, _, (.slice none 0 0), [], rfl, (Cx.le.refl _), O104, ups_self ⟨rfl, rfl, rfl, rfl, rfl, rfl, trivial⟩, h105⟩
          · skip
            rintro _ e_ w_ ⟨rfl, c106, g107, v38, u39, rfl, l106, O108, rfl, h109⟩
            refine bke ?_
            refine nrm ?_
            refine sr ?_
            refine va (v38) ?_
            refine WL.val0 (v := .int .i64 (o_27.length : Int)) rfl (rx (by kernel_rfl) (run_lenO (ty := 3) Tryd.underlying22 h109 _)) ?_
            refine va (.bool (decide ((o_27.length : Int) > 0))) ?_
            refine wln ?_
            refine W.cond (t := decide ((o_27.length : Int) > 0)) (by kernel_rfl) (fun h113 => ?_) (fun h113 => ?_)
            · have H35 := it h113 H35
              refine W.region ?_
              refine va (v10) ?_
              refine va (v38) ?_
              obtain ⟨c116, h117, l116, O114, h115⟩ := O108.frz 0 rfl h109
              refine WL.gh h117 ?_
              obtain ⟨x_68, h118, H35⟩ := bs H35
              refine WL.callP rfl (by kernel_rfl) (c_linotyperef59_whole O114 o_27 h115 h118) ?_
              rintro v119 c126 l126 ⟨_, u120, O123, rfl, h121⟩
              obtain ⟨a128, a129, a130, rfl⟩ := (h121).form
              refine va (.agg #[.slice a128 a129 a130, .bool false]) ?_
              obtain ⟨c133, h134, l133, O131, h132⟩ := O123.frz 0 rfl h121
              refine WL.gh h134 ?_
              refine WL.mem rfl (Own.sl (R := R_api_Line) (E := 62) (ls := [[.slice a128 a129 a130, .bool false]]) (vs := [.slice a128 a129 a130, .bool false]) (xs := ([(⟨x_68, false⟩ : G_api_Line)] : List G_api_Line)) true O131 (Nat.succ_pos _) rfl ⟨⟨(.slice a128 a129 a130), rfl, h132⟩, trivial⟩ (by kernel_rfl) (by kernel_rfl)) ?_
              rintro v139 c138 l138 ⟨u136, O135, h137⟩
              obtain ⟨c142, h143, l142, O140, h141⟩ := O135.frz 0 rfl h137
              refine WL.gh h143 ?_
              obtain ⟨x_71, h144, H35⟩ := bs H35
              refine WL.mem rfl (Own.app (R := R_api_Line) (z := .agg #[.slice none 0 0, .bool false]) (by_ := 32) (ty := 47) 3 O140 rfl (h17.mono (l31.trans (l106.trans (l116.trans (l126.trans (l133.trans (l138.trans l142))))))) h141 h144 Tryd.underlying47 (by kernel_rfl) rfl (by kernel_rfl) (by kernel_rfl)) ?_
              rintro v149 c148 l148 ⟨u146, O145, h147⟩
              refine va (v149) ?_
              refine WL.nil ?_
              refine bkn ?_
              refine nrm ?_
              obtain rfl := Option.some.inj H35
              have O150 := O145.selD 4 [3] (by kernel_rfl) (by kernel_rfl)
              exact ⟨c148, _, v149, u146, rfl, (l31.trans (l106.trans (l116.trans (l126.trans (l133.trans (l138.trans (l142.trans l148))))))), O150, ups_self ⟨rfl, rfl, rfl, rfl, trivial⟩, h147⟩
            · have H35 := ie h113 H35
              refine W.skip ?_
              refine bkn ?_
              refine nrm ?_
              obtain rfl := Option.some.inj H35
              have O151 := O108.selD 2 [1] (by kernel_rfl) (by kernel_rfl)
              exact ⟨c106, _, v10, u11, rfl, (l31.trans l106), O151, ups_self ⟨rfl, rfl, rfl, rfl, trivial⟩, (h17.mono (l31.trans l106))⟩
      · skip
        rintro e_ w_ ⟨c152, g153, v24, u25, rfl, l152, O154, rfl, h155⟩
        refine W.region ?_
        refine va (.int .i64 s_8.2) ?_
        refine va (.int .i64 (w64 (s_8.2 + 1))) ?_
        refine va (.int .i64 (w64 (s_8.2 + 1))) ?_
        refine WL.nil ?_
        obtain rfl := Option.some.inj H23
        refine ⟨_, rfl, ?_⟩
        exact ⟨c152, _, v24, u25, rfl, (l14.trans l152), O154, ups_self ⟨rfl, rfl, rfl, rfl, trivial⟩, h155⟩
    · have H := ie h21 H
      refine W.exit ?_
      refine thx ?_
      obtain rfl := Option.some.inj H
      refine ⟨_, rfl, rfl, ?_⟩
      exact ⟨c14, _, v10, u11, rfl, l14, O16, ups_self ⟨rfl, trivial⟩, h17⟩
  · skip
    have h160 : OA R_api_Line c6 (.slice none 0 0) [] [] := OA.nil (Nat.succ_pos _)
    have O159 := O4.addHole (e := es true R_api_Line (.slice none 0 0) 62 [] ([] : List G_api_Line)) rfl
    exact ⟨c6, _, (.slice none 0 0), [], rfl, (Cx.le.refl _), O159, ups_self ⟨rfl, rfl, rfl, rfl, trivial⟩, h160⟩
  · skip
    rintro _ e_ w_ ⟨rfl, c161, g162, v12, u13, rfl, l161, O163, rfl, h164⟩
    refine bke ?_
    refine nrm ?_
    refine sr ?_
    refine va (v12) ?_
    refine va (v12) ?_
    refine wln ?_
    refine W.ret ?_
    obtain rfl := Option.some.inj H9
    exact ret1 (v := v12) rfl (by kernel_rfl) ⟨_, c161, rfl, rfl, (l6.trans l161), v12, u13, O163, rfl, h164⟩

def f_linotyperef59_Fill (p0 : List G_api_Line) (p1 : Int × Int × Int × Int) (p2 : G_api_Item) : Option ((List G_api_Line) × Int) :=
  (f_linotyperef59_Take p0 p1).bind fun x_8 =>
  (iter (σ := (List G_api_Line) × Int) (τ := (List G_api_Line)) (((x_8.length : Int) - 0).toNat + 1) (fun s_15 =>
  if (decide (s_15.2 < (x_8.length : Int))) = true then
  (idx x_8 s_15.2).bind fun fx_28 =>
  (iter (σ := (List G_api_Cell)) (τ := (List G_api_Cell)) (((fx_28.Cells.length : Int) - 0).toNat + 1) (fun s_23 =>
  (idx x_8 s_15.2).bind fun x_28 =>
  if (decide ((s_23.length : Int) < (x_28.Cells.length : Int))) = true then
  (idx x_8 s_15.2).bind fun x_41 =>
  if (decide ((w64 ((s_23.length : Int) + p2.Wide)) ≤ (x_41.Cells.length : Int))) = true then
  (f_linotyperef23_Of p2.Wide p2.Text).bind fun x_52 =>
  (app s_23 x_52).bind fun x_53 =>
  some (.inl (x_53))
  else
  (app s_23 ([(⟨0, ([] : List Int)⟩ : G_api_Cell)] : List G_api_Cell)).bind fun x_59 =>
  some (.inl (x_59))
  else
  some (.inr (s_23))) (([] : List G_api_Cell))).bind fun o_23 =>
  (app s_15.1 ([(⟨o_23, false⟩ : G_api_Line)] : List G_api_Line)).bind fun x_66 =>
  some (.inl (x_66, (w64 (s_15.2 + 1))))
  else
  some (.inr (s_15.1))) (([] : List G_api_Line), 0)).bind fun o_15 =>
  (f_linotyperef59_Put p0 (imax 0 p1.1) (imax 0 p1.2.1) o_15).bind fun x_81 =>
  some (x_81.1, x_81.2)
theorem c_linotyperef59_Fill {c0 : Cx} {G : Gm} {F : List En} {v1 : Value} {v3 : Value} (O0 : Own c0 G F) (p0 : List G_api_Line) (p1 : Int × Int × Int × Int) (p2 : G_api_Item) {r : (List G_api_Line) × Int} (h2 : Sl R_api_Line c0 v1 p0) (h4 : Sl (RI .i32) c0 v3 p2.Text) (H : f_linotyperef59_Fill p0 p1 p2 = some r) :
    Calls Tryd.prog 62 #[v1, .agg #[.int .i64 p1.1, .int .i64 p1.2.1, .int .i64 p1.2.2.1, .int .i64 p1.2.2.2], .agg #[.int .i64 p2.Wide, v3]] c0.w (Post c0 fun c v => ∃ y1 : Value, ∃ y2 : List Value, Own c G (es true R_api_Line y1 62 y2 r.1 :: F) ∧ v = .tuple #[y1, .int .i64 r.2] ∧ OA R_api_Line c y1 y2 r.1) := by
  unfold f_linotyperef59_Fill at H
  refine enter (l := [v1, .agg #[.int .i64 p1.1, .int .i64 p1.2.1, .int .i64 p1.2.2.1, .int .i64 p1.2.2.2], .agg #[.int .i64 p2.Wide, v3]]) Tryd.func62 rfl rfl rfl ?_
  refine sr ?_
  refine WL.mem rfl (Own.bx (T := 105) (vs := [.int .i64 p1.1, .int .i64 p1.2.1, .int .i64 p1.2.2.1, .int .i64 p1.2.2.2]) O0 (by kernel_rfl)) ?_
  rintro v9 c8 l8 ⟨b5, rfl, O6, m7⟩
  obtain ⟨a10, a11, a12, rfl⟩ := ((h4.mono l8)).form
  refine WL.mem rfl (Own.bx (T := 95) (vs := [.int .i64 p2.Wide, .slice a10 a11 a12]) O6 (by kernel_rfl)) ?_
  rintro v17 c16 l16 ⟨b13, rfl, O14, m15⟩
  refine va (.slice none 0 0) ?_
  refine va (.int .i64 0) ?_
  refine wln ?_
  refine sr ?_
  refine va (v1) ?_
  refine WL.val0 (v := .agg #[.int .i64 p1.1, .int .i64 p1.2.1, .int .i64 p1.2.2.1, .int .i64 p1.2.2.2]) rfl (rx (by kernel_rfl) (run_loadN (T := 105) (by kernel_rfl) (by kernel_rfl) (fun j u hu => (m7 j u hu).mono l16))) ?_
  obtain ⟨x_8, h18, H⟩ := bs H
  refine WL.callP rfl (by kernel_rfl) (c_linotyperef59_Take O14 p0 p1 (h2.mono (l8.trans l16)) h18) ?_
  rintro v19 c26 l26 ⟨_, u20, O23, rfl, h21⟩
  refine va (v19) ?_
  refine wln ?_
  refine sr ?_
  refine va (.slice none 0 0) ?_
  refine wln ?_
  refine W.seq ?_
  refine sr ?_
  refine va (.int .i64 0) ?_
  refine wln ?_
  refine W.block ?_
  obtain ⟨o_15, h28, H29⟩ := bs H
  refine W.loop (σ := (List G_api_Line) × Int) (τ := (List G_api_Line)) (fun s_15 => fun e w => ∃ (c : Cx) (g : Nat → Value) (v30 : Value) (u31 : List Value), w = c.w ∧ c26.le c ∧ Own c G (es true R_api_Line v30 62 u31 s_15.1 :: es true R_api_Line v19 62 u20 x_8 :: F) ∧ e = ups g [(0, v1), (4, .pointer (some ⟨b5, 0, none⟩)), (5, .pointer (some ⟨b13, 0, none⟩)), (8, v19), (9, v30), (10, .int .i64 s_15.2)] ∧ OA R_api_Line c v30 u31 s_15.1) (fun o_15_ ex e w => ex = .exit 0 ∧ (fun e w => ∃ (c : Cx) (g : Nat → Value) (v32 : Value) (u33 : List Value), w = c.w ∧ c26.le c ∧ Own c G (es true R_api_Line v32 62 u33 o_15_ :: es true R_api_Line v19 62 u20 x_8 :: F) ∧ e = ups g [(0, v1), (4, .pointer (some ⟨b5, 0, none⟩)), (9, v32)] ∧ OA R_api_Line c v32 u33 o_15_) e w) ?_ h28 ?_ ?_
  · clear H29 h28
    intro s_15 xx_ ee_ ww_ H
    revert ee_ ww_
    rintro e_ w_ ⟨c34, g35, v30, u31, rfl, l34, O36, rfl, h37⟩
    refine W.seq ?_
    refine sr ?_
    refine va (.int .i64 s_15.2) ?_
    refine va (v19) ?_
    refine WL.val0 (v := .int .i64 (x_8.length : Int)) rfl (rx (by kernel_rfl) (run_lenO (ty := 3) Tryd.underlying47 (h21.mono l34) _)) ?_
    refine va (.bool (decide (s_15.2 < (x_8.length : Int)))) ?_
    refine wln ?_
    refine W.cond (t := decide (s_15.2 < (x_8.length : Int))) (by kernel_rfl) (fun h41 => ?_) (fun h41 => ?_)
    · have H := it h41 H
      refine W.skip ?_
      refine nrm ?_
      refine W.seq ?_
      refine W.block ?_
      refine sr ?_
      refine va (.slice none 0 0) ?_
      refine wln ?_
      refine W.seq ?_
      refine W.block ?_
      obtain ⟨fx_28, _, H⟩ := bs H
      obtain ⟨o_23, h42, H43⟩ := bs H
      refine W.loop (σ := (List G_api_Cell)) (τ := (List G_api_Cell)) (fun s_23 => fun e w => ∃ (c : Cx) (g : Nat → Value) (v44 : Value) (u45 : List Value), w = c.w ∧ c34.le c ∧ Own c G (es true R_api_Cell v44 27 u45 s_23 :: es true R_api_Line v30 62 u31 s_15.1 :: es true R_api_Line v19 62 u20 x_8 :: F) ∧ e = ups g [(0, v1), (4, .pointer (some ⟨b5, 0, none⟩)), (5, .pointer (some ⟨b13, 0, none⟩)), (8, v19), (9, v30), (10, .int .i64 s_15.2), (11, v44)] ∧ OA R_api_Cell c v44 u45 s_23) (fun o_23_ ex e w => ex = .exit 2 ∧ (fun e w => ∃ (c : Cx) (g : Nat → Value) (v46 : Value) (u47 : List Value), w = c.w ∧ c34.le c ∧ Own c G (es true R_api_Cell v46 27 u47 o_23_ :: es true R_api_Line v30 62 u31 s_15.1 :: es true R_api_Line v19 62 u20 x_8 :: F) ∧ e = ups g [(0, v1), (4, .pointer (some ⟨b5, 0, none⟩)), (5, .pointer (some ⟨b13, 0, none⟩)), (8, v19), (9, v30), (10, .int .i64 s_15.2), (11, v46)] ∧ OA R_api_Cell c v46 u47 o_23_) e w) ?_ h42 ?_ ?_
      · clear H43 h42
        intro s_23 xx_ ee_ ww_ H
        revert ee_ ww_
        rintro e_ w_ ⟨c48, g49, v44, u45, rfl, l48, O50, rfl, h51⟩
        refine W.seq ?_
        refine sr ?_
        refine va (v44) ?_
        refine WL.val0 (v := .int .i64 (s_23.length : Int)) rfl (rx (by kernel_rfl) (run_lenO (ty := 3) Tryd.underlying22 h51 _)) ?_
        refine va (v19) ?_
        refine va (.int .i64 s_15.2) ?_
        obtain ⟨x_28, h55, H⟩ := bs H
        refine WL.val0 (v := .pointer (some ⟨sb v19, s_15.2.toNat * 2, none⟩)) rfl (rx (by kernel_rfl) (run_indexO (k := .i64) Tryd.underlying47 (by kernel_rfl) (h21.mono (l34.trans l48)) h55 _)) ?_
        refine va (.pointer (some ⟨sb v19, s_15.2.toNat * 2, none⟩)) ?_
        obtain ⟨l_56, h57, m58⟩ := OA.at (h21.mono (l34.trans l48)) h55
        obtain ⟨v59, rfl, h60⟩ := h57
        refine WL.val0 (v := v59) rfl (rx (by kernel_rfl) (ldE1 Tryd.underlying22 rfl (O50.on 2 rfl) ((h21.mono (l34.trans l48)).blk h55) (at1 (j := 0) m58 rfl))) ?_
        refine WL.val0 (v := .int .i64 (x_28.Cells.length : Int)) rfl (rx (by kernel_rfl) (run_len (ty := 3) Tryd.underlying22 h60 _)) ?_
        refine va (.bool (decide ((s_23.length : Int) < (x_28.Cells.length : Int)))) ?_
        refine wln ?_
        refine W.cond (t := decide ((s_23.length : Int) < (x_28.Cells.length : Int))) (by kernel_rfl) (fun h61 => ?_) (fun h61 => ?_)
        · have H := it h61 H
          refine W.skip ?_
          refine nrm ?_
          refine W.block ?_
          refine W.seq ?_
          refine W.regionD [] (Kp G0 [es true R_api_Line v19 62 u20 x_8]) O50 (by kernel_rfl) ?_
          intro c62 l62 O63
          have p64 : Kp G0 [es true R_api_Line v19 62 u20 x_8] c62 := (Kp.cons (O63.on 2 rfl) Kp.nil0)
          refine ta 0 (v44) ?_
          refine AC.take 1 (.int .i64 (s_23.length : Int)) rfl (by kernel_rfl) (by kernel_rfl) (fun c' hle => (rx (by kernel_rfl) (run_lenO (ty := 3) Tryd.underlying22 (h51.mono l62) _))) ?_
          refine ta 2 (.pointer (some ⟨b13, 0, none⟩)) ?_
          refine AC.take 3 (.int .i64 p2.Wide) rfl (by kernel_rfl) (by kernel_rfl) (fun c' hle => (rx (by kernel_rfl) (run_load1 Tryd.underlying3 rfl ((fun j u hu => (m15 j u hu).mono ((l26.trans (l34.trans (l48.trans l62))).trans hle)) 0 _ rfl)))) ?_
          refine ta 4 (.int .i64 (w64 ((s_23.length : Int) + p2.Wide))) ?_
          refine ta 5 (v19) ?_
          refine ta 6 (.int .i64 s_15.2) ?_
          obtain ⟨x_41, h65, H⟩ := bs H
          refine AC.take 7 (.pointer (some ⟨sb v19, s_15.2.toNat * 2, none⟩)) rfl (by kernel_rfl) (by kernel_rfl) (fun c' hle => (rx (by kernel_rfl) (run_indexO (k := .i64) Tryd.underlying47 (by kernel_rfl) (h21.mono (l34.trans (l48.trans l62))) h65 _))) ?_
          refine ta 8 (.pointer (some ⟨sb v19, s_15.2.toNat * 2, none⟩)) ?_
          obtain ⟨l_66, h67, m68⟩ := OA.at (h21.mono (l34.trans (l48.trans l62))) h65
          obtain ⟨v69, rfl, h70⟩ := h67
          refine AC.takeK 9 (v69) p64 rfl (by kernel_rfl) (by kernel_rfl) (by kernel_rfl) (fun c' hle hk => (rx (by kernel_rfl) (ldE1 Tryd.underlying22 rfl (hk.on 0 rfl) ((h21.mono (l34.trans (l48.trans l62))).blk h65) (at1 (j := 0) m68 rfl)))) ?_
          refine AC.take 10 (.int .i64 (x_41.Cells.length : Int)) rfl (by kernel_rfl) (by kernel_rfl) (fun c' hle => (rx (by kernel_rfl) (run_len (ty := 3) Tryd.underlying22 h70 _))) ?_
          refine ta 11 (.bool (decide ((w64 ((s_23.length : Int) + p2.Wide)) ≤ (x_41.Cells.length : Int)))) ?_
          refine AC.done (by kernel_rfl) ?_
          refine nrm ?_
          refine W.cond (t := decide ((w64 ((s_23.length : Int) + p2.Wide)) ≤ (x_41.Cells.length : Int))) (by kernel_rfl) (fun h71 => ?_) (fun h71 => ?_)
          · have H := it h71 H
            refine W.region ?_
            refine va (v44) ?_
            refine va (.pointer (some ⟨b13, 0, none⟩)) ?_
            refine WL.val0 (v := .int .i64 p2.Wide) rfl (rx (by kernel_rfl) (run_load1 Tryd.underlying3 rfl ((fun j u hu => (m15 j u hu).mono (l26.trans (l34.trans (l48.trans l62)))) 0 _ rfl))) ?_
            refine va (.pointer (some ⟨b13, 0 + 1, none⟩)) ?_
            refine WL.val0 (v := .slice a10 a11 a12) rfl (rx (by kernel_rfl) (run_load1 Tryd.underlying25 rfl ((fun j u hu => (m15 j u hu).mono (l26.trans (l34.trans (l48.trans l62)))) 1 _ rfl))) ?_
            obtain ⟨x_52, h72, H⟩ := bs H
            refine WL.callP rfl (by kernel_rfl) (c_linotyperef23_Of O63 p2.Wide p2.Text (h4.mono (l8.trans (l16.trans (l26.trans (l34.trans (l48.trans l62)))))) h72) ?_
            rintro v73 c80 l80 ⟨_, u74, O77, rfl, h75⟩
            obtain ⟨c84, h85, l84, O82, h83⟩ := O77.frz 0 rfl h75
            refine WL.gh h85 ?_
            obtain ⟨x_53, h86, H⟩ := bs H
            refine WL.mem rfl (Own.app (R := R_api_Cell) (z := .agg #[.int .i64 0, .slice none 0 0]) (by_ := 32) (ty := 22) 1 O82 rfl (h51.mono (l62.trans (l80.trans l84))) h83 h86 Tryd.underlying22 (by kernel_rfl) rfl (by kernel_rfl) (by kernel_rfl)) ?_
            rintro v91 c90 l90 ⟨u88, O87, h89⟩
            refine va (v91) ?_
            refine WL.nil ?_
            refine bkn ?_
            obtain rfl := Option.some.inj H
            refine ⟨_, rfl, ?_⟩
            have O92 := O87.selD 4 [1, 2, 3] (by kernel_rfl) (by kernel_rfl)
            exact ⟨c90, _, v91, u88, rfl, (l48.trans (l62.trans (l80.trans (l84.trans l90)))), O92, ups_self ⟨rfl, rfl, rfl, rfl, rfl, rfl, rfl, trivial⟩, h89⟩
          · have H := ie h71 H
            refine W.region ?_
            refine va (v44) ?_
            refine va (.agg #[.int .i64 0, .slice none 0 0]) ?_
            refine WL.mem rfl (Own.sl (R := R_api_Cell) (E := 27) (ls := [[.int .i64 0, .slice none 0 0]]) (vs := [.int .i64 0, .slice none 0 0]) (xs := ([(⟨0, ([] : List Int)⟩ : G_api_Cell)] : List G_api_Cell)) true O63 (Nat.succ_pos _) rfl ⟨⟨(.slice none 0 0), rfl, (Sl.nl _ _)⟩, trivial⟩ (by kernel_rfl) (by kernel_rfl)) ?_
            rintro v97 c96 l96 ⟨u94, O93, h95⟩
            obtain ⟨c100, h101, l100, O98, h99⟩ := O93.frz 0 rfl h95
            refine WL.gh h101 ?_
            obtain ⟨x_59, h102, H⟩ := bs H
            refine WL.mem rfl (Own.app (R := R_api_Cell) (z := .agg #[.int .i64 0, .slice none 0 0]) (by_ := 32) (ty := 22) 1 O98 rfl (h51.mono (l62.trans (l96.trans l100))) h99 h102 Tryd.underlying22 (by kernel_rfl) rfl (by kernel_rfl) (by kernel_rfl)) ?_
            rintro v107 c106 l106 ⟨u104, O103, h105⟩
            refine va (v107) ?_
            refine WL.nil ?_
            refine bkn ?_
            obtain rfl := Option.some.inj H
            refine ⟨_, rfl, ?_⟩
            have O108 := O103.selD 4 [1, 2, 3] (by kernel_rfl) (by kernel_rfl)
            exact ⟨c106, _, v107, u104, rfl, (l48.trans (l62.trans (l96.trans (l100.trans l106)))), O108, ups_self ⟨rfl, rfl, rfl, rfl, rfl, rfl, rfl, trivial⟩, h105⟩
        · have H := ie h61 H
          refine W.exit ?_
          refine thx ?_
          obtain rfl := Option.some.inj H
          refine ⟨_, rfl, rfl, ?_⟩
          exact ⟨c48, _, v44, u45, rfl, l48, O50, ups_self ⟨rfl, rfl, rfl, rfl, rfl, rfl, rfl, trivial⟩, h51⟩
      · skip
        have h110 : OA R_api_Cell c34 (.slice none 0 0) [] [] := OA.nil (Nat.succ_pos _)
        have O109 := O36.addHole (e := es true R_api_Cell (.slice none 0 0) 27 [] ([] : List G_api_Cell)) rfl
        exact ⟨c34, _, (.slice none 0 0), [], rfl, (Cx.le.refl _), O109, ups_self ⟨rfl, rfl, rfl, rfl, rfl, rfl, rfl, trivial⟩, h110⟩
      · skip
        rintro _ e_ w_ ⟨rfl, c111, g112, v46, u47, rfl, l111, O113, rfl, h114⟩
        refine bke ?_
        refine nrm ?_
        refine W.region ?_
        refine va (v30) ?_
        refine va (v46) ?_
        obtain ⟨a118, a119, a120, rfl⟩ := (h114).form
        refine va (.agg #[.slice a118 a119 a120, .bool false]) ?_
        obtain ⟨c123, h124, l123, O121, h122⟩ := O113.frz 0 rfl h114
        refine WL.gh h124 ?_
        refine WL.mem rfl (Own.sl (R := R_api_Line) (E := 62) (ls := [[.slice a118 a119 a120, .bool false]]) (vs := [.slice a118 a119 a120, .bool false]) (xs := ([(⟨o_23, false⟩ : G_api_Line)] : List G_api_Line)) true O121 (Nat.succ_pos _) rfl ⟨⟨(.slice a118 a119 a120), rfl, h122⟩, trivial⟩ (by kernel_rfl) (by kernel_rfl)) ?_
        rintro v129 c128 l128 ⟨u126, O125, h127⟩
        obtain ⟨c132, h133, l132, O130, h131⟩ := O125.frz 0 rfl h127
        refine WL.gh h133 ?_
        obtain ⟨x_66, h134, H43⟩ := bs H43
        refine WL.mem rfl (Own.app (R := R_api_Line) (z := .agg #[.slice none 0 0, .bool false]) (by_ := 32) (ty := 47) 2 O130 rfl (h37.mono (l111.trans (l123.trans (l128.trans l132)))) h131 h134 Tryd.underlying47 (by kernel_rfl) rfl (by kernel_rfl) (by kernel_rfl)) ?_
        rintro v139 c138 l138 ⟨u136, O135, h137⟩
        refine va (v139) ?_
        refine WL.nil ?_
        refine bkn ?_
        refine nrm ?_
        refine W.region ?_
        refine va (.int .i64 s_15.2) ?_
        refine va (.int .i64 (w64 (s_15.2 + 1))) ?_
        refine va (.int .i64 (w64 (s_15.2 + 1))) ?_
        refine WL.nil ?_
        obtain rfl := Option.some.inj H43
        refine ⟨_, rfl, ?_⟩
        have O140 := O135.selD 4 [2, 3] (by kernel_rfl) (by kernel_rfl)
        exact ⟨c138, _, v139, u136, rfl, (l34.trans (l111.trans (l123.trans (l128.trans (l132.trans l138))))), O140, ups_self ⟨rfl, rfl, rfl, rfl, rfl, rfl, trivial⟩, h137⟩
    · have H := ie h41 H
      refine W.exit ?_
      refine thx ?_
      obtain rfl := Option.some.inj H
      refine ⟨_, rfl, rfl, ?_⟩
      exact ⟨c34, _, v30, u31, rfl, l34, O36, ups_self ⟨rfl, rfl, rfl, trivial⟩, h37⟩
  · skip
    have h142 : OA R_api_Line c26 (.slice none 0 0) [] [] := OA.nil (Nat.succ_pos _)
    have O141 := O23.addHole (e := es true R_api_Line (.slice none 0 0) 62 [] ([] : List G_api_Line)) rfl
    exact ⟨c26, _, (.slice none 0 0), [], rfl, (Cx.le.refl _), O141, ups_self ⟨rfl, rfl, rfl, rfl, rfl, rfl, trivial⟩, h142⟩
  · skip
    rintro _ e_ w_ ⟨rfl, c143, g144, v32, u33, rfl, l143, O145, rfl, h146⟩
    refine bke ?_
    refine nrm ?_
    refine sr ?_
    refine va (v1) ?_
    refine va (.pointer (some ⟨b5, 0, none⟩)) ?_
    refine WL.val0 (v := .int .i64 p1.1) rfl (rx (by kernel_rfl) (run_load1 Tryd.underlying3 rfl ((fun j u hu => (m7 j u hu).mono (l16.trans (l26.trans l143))) 0 _ rfl))) ?_
    refine va (.int .i64 (imax 0 p1.1)) ?_
    refine va (.pointer (some ⟨b5, 0 + 1, none⟩)) ?_
    refine WL.val0 (v := .int .i64 p1.2.1) rfl (rx (by kernel_rfl) (run_load1 Tryd.underlying3 rfl ((fun j u hu => (m7 j u hu).mono (l16.trans (l26.trans l143))) 1 _ rfl))) ?_
    refine va (.int .i64 (imax 0 p1.2.1)) ?_
    refine va (v32) ?_
    obtain ⟨c152, h153, l152, O150, h151⟩ := O145.frz 0 rfl h146
    refine WL.gh h153 ?_
    obtain ⟨x_81, h154, H29⟩ := bs H29
    refine WL.callP rfl (by kernel_rfl) (c_linotyperef59_Put O150 p0 (imax 0 p1.1) (imax 0 p1.2.1) o_15 (h2.mono (l8.trans (l16.trans (l26.trans (l143.trans l152))))) h151 h154) ?_
    rintro v163 c162 l162 ⟨v155, u156, O159, rfl, h157⟩
    refine va (v155) ?_
    refine va (.int .i64 x_81.2) ?_
    refine va (v155) ?_
    refine va (.int .i64 x_81.2) ?_
    refine wln ?_
    refine W.ret ?_
    obtain rfl := Option.some.inj H29
    have O164 := O159.selD 3 [0] (by kernel_rfl) (by kernel_rfl)
    exact ret2 (v := v155) (v' := .int .i64 x_81.2) rfl (by kernel_rfl) (by kernel_rfl) ⟨_, c162, rfl, rfl, (l8.trans (l16.trans (l26.trans (l143.trans (l152.trans l162))))), v155, u156, O164, rfl, h157⟩

def f_linotypelaw59_rect (p0 : G_blit_Rect) : Option (Int × Int × Int × Int) :=
  some (p0.Row, p0.Col, p0.Wide, p0.High)
theorem c_linotypelaw59_rect {c0 : Cx} {G : Gm} {F : List En} (O0 : Own c0 G F) (p0 : G_blit_Rect) {r : Int × Int × Int × Int} (H : f_linotypelaw59_rect p0 = some r) :
    Calls Tryd.prog 63 #[.agg #[.int .i64 p0.Row, .int .i64 p0.Col, .int .i64 p0.Wide, .int .i64 p0.High]] c0.w (Post c0 fun c v => Own c G (F) ∧ v = .agg #[.int .i64 r.1, .int .i64 r.2.1, .int .i64 r.2.2.1, .int .i64 r.2.2.2]) := by
  unfold f_linotypelaw59_rect at H
  refine enter (l := [.agg #[.int .i64 p0.Row, .int .i64 p0.Col, .int .i64 p0.Wide, .int .i64 p0.High]]) Tryd.func63 rfl rfl rfl ?_
  refine sr ?_
  refine WL.mem rfl (Own.bx (T := 91) (vs := [.int .i64 p0.Row, .int .i64 p0.Col, .int .i64 p0.Wide, .int .i64 p0.High]) O0 (by kernel_rfl)) ?_
  rintro v5 c4 l4 ⟨b1, rfl, O2, m3⟩
  refine WL.mem rfl (Own.al (T := 105) (vs := [.int .i64 0, .int .i64 0, .int .i64 0, .int .i64 0]) O2 (by kernel_rfl)) ?_
  rintro v9 c8 l8 ⟨b6, rfl, O7⟩
  refine wln ?_
  refine sr ?_
  refine va (.pointer (some ⟨b1, 0, none⟩)) ?_
  refine WL.val0 (v := .int .i64 p0.Row) rfl (rx (by kernel_rfl) (run_load1 Tryd.underlying3 rfl ((fun j u hu => (m3 j u hu).mono l8) 0 _ rfl))) ?_
  refine va (.pointer (some ⟨b1, 0 + 1, none⟩)) ?_
  refine WL.val0 (v := .int .i64 p0.Col) rfl (rx (by kernel_rfl) (run_load1 Tryd.underlying3 rfl ((fun j u hu => (m3 j u hu).mono l8) 1 _ rfl))) ?_
  refine va (.pointer (some ⟨b1, 0 + 2, none⟩)) ?_
  refine WL.val0 (v := .int .i64 p0.Wide) rfl (rx (by kernel_rfl) (run_load1 Tryd.underlying3 rfl ((fun j u hu => (m3 j u hu).mono l8) 2 _ rfl))) ?_
  refine va (.pointer (some ⟨b1, 0 + 3, none⟩)) ?_
  refine WL.val0 (v := .int .i64 p0.High) rfl (rx (by kernel_rfl) (run_load1 Tryd.underlying3 rfl ((fun j u hu => (m3 j u hu).mono l8) 3 _ rfl))) ?_
  refine va (.agg #[.int .i64 p0.Row, .int .i64 p0.Col, .int .i64 p0.Wide, .int .i64 p0.High]) ?_
  refine WL.memD rfl (Own.st (T := 105) (j := 0) (us := [.int .i64 p0.Row, .int .i64 p0.Col, .int .i64 p0.Wide, .int .i64 p0.High]) (nw := [.int .i64 p0.Row, .int .i64 p0.Col, .int .i64 p0.Wide, .int .i64 p0.High]) (v := .agg #[.int .i64 p0.Row, .int .i64 p0.Col, .int .i64 p0.Wide, .int .i64 p0.High]) 0 O7 (by kernel_rfl) rfl rfl rfl rfl (by kernel_rfl) ⟨rfl, rfl, rfl, rfl, trivial⟩ rfl rfl) ?_
  rintro c11 l11 O10
  refine wln ?_
  refine W.ret ?_
  obtain rfl := Option.some.inj H
  have O12 := O10.selD 1 [] (by kernel_rfl) (by kernel_rfl)
  exact retC (c := c11) (vs := [.int .i64 p0.Row, .int .i64 p0.Col, .int .i64 p0.Wide, .int .i64 p0.High]) rfl (by kernel_rfl) (by kernel_rfl) (by kernel_rfl) (O10.on 0 rfl _ rfl).1 ⟨_, c11, rfl, rfl, (l4.trans (l8.trans l11)), O12, rfl⟩

def f_blit_Copy (sg : Sto) (p0 : Option Nat) (p1 : Int) (p2 : Int) (p3 : Option Nat) (p4 : G_blit_Rect) : Option (Sto × Int) :=
  (f_blit_Take sg p3 p4).bind fun x_9 =>
  (f_blit_Put sg p0 p1 p2 x_9).bind fun x_10 =>
  some (x_10.1, x_10.2)
theorem c_blit_Copy {c0 : Cx} {G : Gm} {F : List En} {sg : Sto} {v1 : Value} {v3 : Value} (O0 : Own c0 G F) (R0 : Rel c0 sg G) (hG : Gl [0, 1] c0) (p0 : Option Nat) (p1 : Int) (p2 : Int) (p3 : Option Nat) (p4 : G_blit_Rect) {r : Sto × Int} (h2 : Pt 1 c0 v1 p0) (h4 : Pt 1 c0 v3 p3) (H : f_blit_Copy sg p0 p1 p2 p3 p4 = some r) :
    Calls Tryd.prog 65 #[v1, .int .i64 p1, .int .i64 p2, v3, .agg #[.int .i64 p4.Row, .int .i64 p4.Col, .int .i64 p4.Wide, .int .i64 p4.High]] c0.w (Post c0 fun c v => ∃ G_ : Gm, Own c G_ (F) ∧ Rel c r.1 G_ ∧ v = .int .i64 r.2) := by
  unfold f_blit_Copy at H
  refine enter (l := [v1, .int .i64 p1, .int .i64 p2, v3, .agg #[.int .i64 p4.Row, .int .i64 p4.Col, .int .i64 p4.Wide, .int .i64 p4.High]]) Tryd.func65 rfl rfl rfl ?_
  refine sr ?_
  refine WL.mem rfl (Own.bx (T := 91) (vs := [.int .i64 p4.Row, .int .i64 p4.Col, .int .i64 p4.Wide, .int .i64 p4.High]) O0 (by kernel_rfl)) ?_
  rintro v9 c8 l8 ⟨b5, rfl, O6, m7⟩
  refine va (.int .i64 0) ?_
  refine wln ?_
  refine sr ?_
  refine va (v1) ?_
  refine va (.int .i64 p1) ?_
  refine va (.int .i64 p2) ?_
  refine va (v3) ?_
  refine WL.val0 (v := .agg #[.int .i64 p4.Row, .int .i64 p4.Col, .int .i64 p4.Wide, .int .i64 p4.High]) rfl (rx (by kernel_rfl) (run_loadN (T := 91) (by kernel_rfl) (by kernel_rfl) m7)) ?_
  obtain ⟨x_9, h10, H⟩ := bs H
  refine WL.callP rfl (by kernel_rfl) (c_blit_Take O6 (R0.mono l8) p3 p4 (h4.mono l8) h10) ?_
  rintro v11 c18 l18 ⟨_, u12, O15, rfl, h13⟩
  obtain ⟨c22, h23, l22, O20, h21⟩ := O15.frz 0 rfl h13
  refine WL.gh h23 ?_
  obtain ⟨x_10, h24, H⟩ := bs H
  refine WL.callP rfl (by kernel_rfl) (c_blit_Put O20 (R0.mono (l8.trans (l18.trans l22))) ((hG.mono (l8.trans (l18.trans l22))).le (by decide)) p0 p1 p2 x_9 (h2.mono (l8.trans (l18.trans l22))) h21 h24) ?_
  rintro v30 c29 l29 ⟨G25, O26, R27, rfl⟩
  refine va (.int .i64 x_10.2) ?_
  refine wln ?_
  refine W.ret ?_
  obtain rfl := Option.some.inj H
  have O31 := O26.selD 1 [] (by kernel_rfl) (by kernel_rfl)
  exact ret1 (v := .int .i64 x_10.2) rfl (by kernel_rfl) ⟨_, c29, rfl, rfl, (l8.trans (l18.trans (l22.trans l29))), G25, O31, R27, rfl⟩

def f_linotypelaw59_BlitPlays (sg : Sto) (p0 : List G_api_Line) (p1 : List G_linotypelaw59_Act) : Option (Sto × Bool) :=
  (f_linotyperef32_Wrong p0).bind fun x_4 =>
  (f_linotypelaw59_works sg).bind fun x_11 =>
  (orE (!x_11.2) (some (decide ((p0.length : Int) > 30)))).bind fun d_13 =>
  (orE d_13 (some ((p0.length : Int) == 0))).bind fun d_18 =>
  (orE d_18 (some (decide (x_4.1 ≥ 0)))).bind fun d_23 =>
  (orE d_23 (some (decide ((p1.length : Int) > 30)))).bind fun d_27 =>
  if d_27 = true then
  (f_linotypelaw59_works x_11.1).bind fun x_33 =>
  some (x_33.1, x_33.2)
  else
  (f_grid_Of x_11.1 p0).bind fun x_37 =>
  if (!x_37.2.2.isNil) = true then
  some (x_37.1, false)
  else
  (iter (σ := (List G_api_Line) × Int × Sto) (τ := (Sto × Bool) ⊕ ((List G_api_Line) × Sto)) (((p1.length : Int) - 0).toNat + 1) (fun s_51 =>
  if (decide (s_51.2.1 < (p1.length : Int))) = true then
  (idx p1 s_51.2.1).bind fun x_59 =>
  (orE (decide ((x_59.L.length : Int) > 30)) ((idx s_51.1 0).bind fun x_71 =>
  some (decide ((x_71.Cells.length : Int) > 100)))).bind fun d_68 =>
  if d_68 = true then
  some (.inr (.inl (s_51.2.2, true)))
  else
  (if (x_59.Kind == 0) = true then
  (f_linotyperef59_Put s_51.1 x_59.Row x_59.Col x_59.L).bind fun x_96 =>
  (f_blit_Put s_51.2.2 x_37.2.1 x_59.Row x_59.Col x_59.L).bind fun x_110 =>
  (some (x_96.1, x_96.2, x_110.2, x_110.1) : Option ((List G_api_Line) × Int × Int × Sto))
  else
  if (x_59.Kind == 1) = true then
  ((f_linotyperef29_Right (⟨x_59.X.Wide, x_59.X.Text⟩ : G_api_Item)).bind fun x_119 =>
  if x_119 = true then
  (f_linotypelaw59_rect (⟨x_59.R.Row, x_59.R.Col, x_59.R.Wide, x_59.R.High⟩ : G_blit_Rect)).bind fun x_126 =>
  (f_linotyperef59_Fill s_51.1 x_126 (⟨x_59.X.Wide, x_59.X.Text⟩ : G_api_Item)).bind fun x_127 =>
  (some (x_127.1, x_127.2) : Option ((List G_api_Line) × Int))
  else
  (some (s_51.1, 0) : Option ((List G_api_Line) × Int))).bind fun z_116 =>
  (f_blit_Fill s_51.2.2 x_37.2.1 (⟨x_59.R.Row, x_59.R.Col, x_59.R.Wide, x_59.R.High⟩ : G_blit_Rect) (⟨x_59.X.Wide, x_59.X.Text⟩ : G_api_Item)).bind fun x_139 =>
  (some (z_116.1, z_116.2, x_139.2, x_139.1) : Option ((List G_api_Line) × Int × Int × Sto))
  else
  (f_linotypelaw59_rect (⟨x_59.R.Row, x_59.R.Col, x_59.R.Wide, x_59.R.High⟩ : G_blit_Rect)).bind fun x_150 =>
  (f_linotyperef59_Take s_51.1 x_150).bind fun x_151 =>
  (f_linotyperef59_Put s_51.1 x_59.Row x_59.Col x_151).bind fun x_152 =>
  (f_blit_Copy s_51.2.2 x_37.2.1 x_59.Row x_59.Col x_37.2.1 (⟨x_59.R.Row, x_59.R.Col, x_59.R.Wide, x_59.R.High⟩ : G_blit_Rect)).bind fun x_167 =>
  (some (x_152.1, x_152.2, x_167.2, x_167.1) : Option ((List G_api_Line) × Int × Int × Sto))).bind fun z_82 =>
  (orE (z_82.2.1 != z_82.2.2.1) ((f_grid_Grid_Lines z_82.2.2.2 x_37.2.1).bind fun x_177 =>
  (f_linotyperef32_Same x_177 z_82.1).bind fun x_178 =>
  some (!x_178))).bind fun d_173 =>
  (orE d_173 ((f_blit_Take z_82.2.2.2 x_37.2.1 (⟨x_59.R.Row, x_59.R.Col, x_59.R.Wide, x_59.R.High⟩ : G_blit_Rect)).bind fun x_188 =>
  (f_linotypelaw59_rect (⟨x_59.R.Row, x_59.R.Col, x_59.R.Wide, x_59.R.High⟩ : G_blit_Rect)).bind fun x_189 =>
  (f_linotyperef59_Take z_82.1 x_189).bind fun x_190 =>
  (f_linotyperef32_Same x_188 x_190).bind fun x_191 =>
  some (!x_191))).bind fun d_180 =>
  if d_180 = true then
  some (.inr (.inl (z_82.2.2.2, false)))
  else
  some (.inl (z_82.1, (w64 (s_51.2.1 + 1)), z_82.2.2.2))
  else
  some (.inr (.inr (s_51.1, s_51.2.2)))) (p0, 0, x_37.1)).bind fun o_51 =>
  match o_51 with
  | .inl o_51 =>
  some o_51
  | .inr o_51 =>
  (f_blit_Take o_51.2 (none : Option Nat) (⟨0, 0, 1, 1⟩ : G_blit_Rect)).bind fun x_201 =>
  (if ((x_201.length : Int) == 0) = true then (f_blit_Put o_51.2 (none : Option Nat) 0 0 o_51.1).bind fun x_207 =>
  some (x_207.2 == 0, x_207.1) else some (false, o_51.2)).bind fun d_204 =>
  (if d_204.1 = true then (f_blit_Fill d_204.2 (none : Option Nat) (⟨0, 0, 1, 1⟩ : G_blit_Rect) (⟨1, ([] : List Int)⟩ : G_api_Item)).bind fun x_213 =>
  some (x_213.2 == 0, x_213.1) else some (false, d_204.2)).bind fun d_209 =>
  some (d_209.2, d_209.1)
set_option maxHeartbeats 4000000 in
theorem c_linotypelaw59_BlitPlays {c0 : Cx} {G : Gm} {F : List En} {sg : Sto} {v1 : Value} {v3 : Value} (O0 : Own c0 G F) (R0 : Rel c0 sg G) (hG : Gl [0, 1] c0) (p0 : List G_api_Line) (p1 : List G_linotypelaw59_Act) {r : Sto × Bool} (h2 : Sl R_api_Line c0 v1 p0) (h4 : Sl R_linotypelaw59_Act c0 v3 p1) (H : f_linotypelaw59_BlitPlays sg p0 p1 = some r) :
    Calls Tryd.prog 13 #[v1, v3] c0.w (Post c0 fun c v => ∃ G_ : Gm, Own c G_ (F) ∧ Rel c r.1 G_ ∧ v = .bool r.2) := by
  unfold f_linotypelaw59_BlitPlays at H
  refine enter (l := [v1, v3]) Tryd.func13 rfl rfl rfl ?_
  refine sr ?_
  refine va (.bool false) ?_
  refine wln ?_
  refine sr ?_
  refine va (v1) ?_
  obtain ⟨x_4, h5, H⟩ := bs H
  refine WL.callP rfl (by kernel_rfl) (c_linotyperef32_Wrong O0 p0 h2 h5) ?_
  rintro v11 c10 l10 ⟨O7, rfl⟩
  refine va (.tuple #[.int .i64 x_4.1, .int .i64 x_4.2]) ?_
  refine va (.int .i64 x_4.1) ?_
  refine va (.int .i64 x_4.2) ?_
  refine va (.int .i64 x_4.1) ?_
  refine va (.int .i64 x_4.2) ?_
  refine wln ?_
  refine W.seq ?_
  refine W.seq ?_
  obtain ⟨x_11, h12, H⟩ := bs H
  obtain ⟨d_13, h13, H⟩ := bs H
  obtain ⟨d_18, h14, H⟩ := bs H
  obtain ⟨d_23, h15, H⟩ := bs H
  obtain ⟨d_27, h16, H⟩ := bs H
  refine W.join (fun e w => ∃ (c : Cx) (g : Nat → Value) (G_ : Gm), w = c.w ∧ c10.le c ∧ Own c G_ (F) ∧ e = ups g [(0, v1), (1, v3), (38, .bool d_27)] ∧ Rel c x_11.1 G_) ?_ ?_
  · clear H
    refine W.region ?_
    refine WL.callP rfl (by kernel_rfl) (c_linotypelaw59_works O7 (R0.mono l10) ((hG.mono l10).le (by decide)) h12) ?_
    rintro v22 c21 l21 ⟨G17, O18, R19, rfl⟩
    refine va (.bool (!x_11.2)) ?_
    rcases Bool.eq_false_or_eq_true (!x_11.2) with h23 | h23
    · skip
      obtain rfl := orT h23 h13
      refine vb h23 ?_
      refine ps ?_
      refine ps ?_
      refine ps ?_
      refine va (.bool true) ?_
      have h24 : true = true := rfl
      obtain rfl := orT h24 h14
      refine vb h24 ?_
      refine ps ?_
      refine ps ?_
      refine ps ?_
      refine va (.bool true) ?_
      have h25 : true = true := rfl
      obtain rfl := orT h25 h15
      refine vb h25 ?_
      refine ps ?_
      refine ps ?_
      refine va (.bool true) ?_
      have h26 : true = true := rfl
      obtain rfl := orT h26 h16
      refine vb h26 ?_
      refine ps ?_
      refine ps ?_
      refine ps ?_
      refine va (.bool true) ?_
      refine wln ?_
      exact ⟨c21, _, G17, rfl, l21, O18, ups_self ⟨rfl, rfl, rfl, trivial⟩, R19⟩
    · skip
      have H27 := orF h23 h13
      refine vb h23 ?_
      refine wn ?_
      refine va (v1) ?_
      refine wn ?_
      refine WL.val0 (v := .int .i64 (p0.length : Int)) rfl (rx (by kernel_rfl) (run_len (ty := 3) Tryd.underlying47 (h2.mono (l10.trans l21)) _)) ?_
      refine wn ?_
      refine va (.bool (decide ((p0.length : Int) > 30))) ?_
      obtain rfl := Option.some.inj H27
      refine va (.bool (decide ((p0.length : Int) > 30))) ?_
      rcases Bool.eq_false_or_eq_true (decide ((p0.length : Int) > 30)) with h28 | h28
      · skip
        obtain rfl := orT h28 h14
        refine vb h28 ?_
        refine ps ?_
        refine ps ?_
        refine ps ?_
        refine va (.bool true) ?_
        have h29 : true = true := rfl
        obtain rfl := orT h29 h15
        refine vb h29 ?_
        refine ps ?_
        refine ps ?_
        refine va (.bool true) ?_
        have h30 : true = true := rfl
        obtain rfl := orT h30 h16
        refine vb h30 ?_
        refine ps ?_
        refine ps ?_
        refine ps ?_
        refine va (.bool true) ?_
        refine wln ?_
        exact ⟨c21, _, G17, rfl, l21, O18, ups_self ⟨rfl, rfl, rfl, trivial⟩, R19⟩
      · skip
        have H31 := orF h28 h14
        refine vb h28 ?_
        refine wn ?_
        refine va (v1) ?_
        refine wn ?_
        refine WL.val0 (v := .int .i64 (p0.length : Int)) rfl (rx (by kernel_rfl) (run_len (ty := 3) Tryd.underlying47 (h2.mono (l10.trans l21)) _)) ?_
        refine wn ?_
        refine va (.bool ((p0.length : Int) == 0)) ?_
        obtain rfl := Option.some.inj H31
        refine va (.bool ((p0.length : Int) == 0)) ?_
        rcases Bool.eq_false_or_eq_true ((p0.length : Int) == 0) with h32 | h32
        · skip
          obtain rfl := orT h32 h15
          refine vb h32 ?_
          refine ps ?_
          refine ps ?_
          refine va (.bool true) ?_
          have h33 : true = true := rfl
          obtain rfl := orT h33 h16
          refine vb h33 ?_
          refine ps ?_
          refine ps ?_
          refine ps ?_
          refine va (.bool true) ?_
          refine wln ?_
          exact ⟨c21, _, G17, rfl, l21, O18, ups_self ⟨rfl, rfl, rfl, trivial⟩, R19⟩
        · skip
          have H34 := orF h32 h15
          refine vb h32 ?_
          refine wn ?_
          refine va (.int .i64 x_4.1) ?_
          refine wn ?_
          refine va (.bool (decide (x_4.1 ≥ 0))) ?_
          obtain rfl := Option.some.inj H34
          refine va (.bool (decide (x_4.1 ≥ 0))) ?_
          rcases Bool.eq_false_or_eq_true (decide (x_4.1 ≥ 0)) with h35 | h35
          · skip
            obtain rfl := orT h35 h16
            refine vb h35 ?_
            refine ps ?_
            refine ps ?_
            refine ps ?_
            refine va (.bool true) ?_
            refine wln ?_
            exact ⟨c21, _, G17, rfl, l21, O18, ups_self ⟨rfl, rfl, rfl, trivial⟩, R19⟩
          · skip
            have H36 := orF h35 h16
            refine vb h35 ?_
            refine wn ?_
            refine va (v3) ?_
            refine wn ?_
            refine WL.val0 (v := .int .i64 (p1.length : Int)) rfl (rx (by kernel_rfl) (run_len (ty := 3) Tryd.underlying98 (h4.mono (l10.trans l21)) _)) ?_
            refine wn ?_
            refine va (.bool (decide ((p1.length : Int) > 30))) ?_
            obtain rfl := Option.some.inj H36
            refine va (.bool (decide ((p1.length : Int) > 30))) ?_
            refine wln ?_
            exact ⟨c21, _, G17, rfl, l21, O18, ups_self ⟨rfl, rfl, rfl, trivial⟩, R19⟩
  · skip
    rintro e_ w_ ⟨c37, g38, G40, rfl, l37, O39, rfl, R41⟩
    refine nrm ?_
    refine W.cond (t := d_27) (by kernel_rfl) (fun h43 => ?_) (fun h43 => ?_)
    · have H := it h43 H
      refine sr ?_
      obtain ⟨x_33, h44, H⟩ := bs H
      refine WL.callP rfl (by kernel_rfl) (c_linotypelaw59_works O39 R41 ((hG.mono (l10.trans l37)).le (by decide)) h44) ?_
      rintro v50 c49 l49 ⟨G45, O46, R47, rfl⟩
      refine va (.bool x_33.2) ?_
      refine wln ?_
      refine W.ret ?_
      refine thr ?_
      obtain rfl := Option.some.inj H
      exact ret1 (v := .bool x_33.2) rfl (by kernel_rfl) ⟨_, c49, rfl, rfl, (l10.trans (l37.trans l49)), G45, O46, R47, rfl⟩
    · have H := ie h43 H
      refine W.skip ?_
      refine nrm ?_
      refine sr ?_
      refine va (v1) ?_
      obtain ⟨x_37, h51, H⟩ := bs H
      refine WL.callP rfl (by kernel_rfl) (c_grid_Of O39 R41 ((hG.mono (l10.trans l37)).le (by decide)) p0 (h2.mono (l10.trans l37)) h51) ?_
      rintro v61 c60 l60 ⟨v52, v54, G56, O57, R58, rfl, h53, h55⟩
      refine va (.tuple #[v52, v54]) ?_
      refine va (v52) ?_
      refine va (v54) ?_
      refine va (v52) ?_
      refine va (v54) ?_
      refine wln ?_
      refine W.seq ?_
      refine sr ?_
      refine va (v54) ?_
      refine WL.val0 (v := .bool (!x_37.2.2.isNil)) rfl (by rcases (h55).cs with ⟨h1_, h2_⟩ | ⟨b_, h1_, h2_⟩ | ⟨b_, h1_, h2_⟩ <;> (subst h1_; rw [h2_]; kernel_rfl)) ?_
      refine wln ?_
      refine W.cond (t := !x_37.2.2.isNil) (by kernel_rfl) (fun h62 => ?_) (fun h62 => ?_)
      · have H := it h62 H
        refine sr ?_
        refine va (.bool false) ?_
        refine wln ?_
        refine W.ret ?_
        refine thr ?_
        obtain rfl := Option.some.inj H
        exact ret1 (v := .bool false) rfl (by kernel_rfl) ⟨_, c60, rfl, rfl, (l10.trans (l37.trans l60)), G56, O57, R58, rfl⟩
      · have H := ie h62 H
        refine W.skip ?_
        refine nrm ?_
        refine W.seq ?_
        refine sr ?_
        refine va (.int .i64 0) ?_
        refine wln ?_
        refine W.block ?_
        obtain ⟨o_51, h63, H64⟩ := bs H
        refine W.loop (σ := (List G_api_Line) × Int × Sto) (τ := (Sto × Bool) ⊕ ((List G_api_Line) × Sto)) (fun s_51 => fun e w => ∃ (c : Cx) (g : Nat → Value) (v65 : Value) (G_ : Gm), w = c.w ∧ c60.le c ∧ Own c G_ (F) ∧ e = ups g [(0, v65), (1, v3), (7, v52), (9, .int .i64 s_51.2.1)] ∧ Rel c s_51.2.2 G_ ∧ Sl R_api_Line c v65 s_51.1) (fun t => match t with | .inl x_ => (fun rr_ ex e w => ex = .ret ∧ (fun e w => ∃ (c : Cx) (g : Nat → Value) (G_ : Gm), w = c.w ∧ c60.le c ∧ Own c G_ (F) ∧ e = ups g [(4, .bool rr_.2)] ∧ Rel c rr_.1 G_) e w) x_ | .inr x_ => (fun o_51_ ex e w => ex = .exit 0 ∧ (fun e w => ∃ (c : Cx) (g : Nat → Value) (v66 : Value) (G_ : Gm), w = c.w ∧ c60.le c ∧ Own c G_ (F) ∧ e = ups g [(0, v66)] ∧ Rel c o_51_.2 G_ ∧ Sl R_api_Line c v66 o_51_.1) e w) x_) ?_ h63 ?_ ?_
        · clear H64 h63
          intro s_51 xx_ ee_ ww_ H
          revert ee_ ww_
          rintro e_ w_ ⟨c67, g68, v65, G71, rfl, l67, O69, rfl, R72, h70⟩
          refine W.seq ?_
          refine sr ?_
          refine va (.int .i64 s_51.2.1) ?_
          refine va (v3) ?_
          refine WL.val0 (v := .int .i64 (p1.length : Int)) rfl (rx (by kernel_rfl) (run_len (ty := 3) Tryd.underlying98 (h4.mono (l10.trans (l37.trans (l60.trans l67)))) _)) ?_
          refine va (.bool (decide (s_51.2.1 < (p1.length : Int)))) ?_
          refine wln ?_
          refine W.cond (t := decide (s_51.2.1 < (p1.length : Int))) (by kernel_rfl) (fun h74 => ?_) (fun h74 => ?_)
          · have H := it h74 H
            refine W.skip ?_
            refine nrm ?_
            refine W.seq ?_
            refine W.block ?_
            refine sr ?_
            refine va (v3) ?_
            refine va (.int .i64 s_51.2.1) ?_
            obtain ⟨x_59, h75, H⟩ := bs H
            obtain ⟨l_76, h77, m78⟩ := Sl.at (h4.mono (l10.trans (l37.trans (l60.trans l67)))) (idx_get h75)
            obtain ⟨v79, v81, rfl, h80, h82⟩ := h77
            refine WL.val0 (v := .pointer (some ⟨sb v3, so v3 + s_51.2.1.toNat * 10, none⟩)) rfl (rx (by kernel_rfl) (run_index (k := .i64) Tryd.underlying98 (by kernel_rfl) (h4.mono (l10.trans (l37.trans (l60.trans l67)))) h75 _)) ?_
            refine WL.val0 (v := .agg #[.int .i64 x_59.Kind, .int .i64 x_59.Row, .int .i64 x_59.Col, .int .i64 x_59.R.Row, .int .i64 x_59.R.Col, .int .i64 x_59.R.Wide, .int .i64 x_59.R.High, .int .i64 x_59.X.Wide, v79, v81]) rfl (rx (by kernel_rfl) (run_loadN (T := 100) (by kernel_rfl) (by kernel_rfl) m78)) ?_
            refine WL.mem rfl (Own.al (T := 100) (vs := [.int .i64 0, .int .i64 0, .int .i64 0, .int .i64 0, .int .i64 0, .int .i64 0, .int .i64 0, .int .i64 0, .slice none 0 0, .slice none 0 0]) O69 (by kernel_rfl)) ?_
            rintro v86 c85 l85 ⟨b83, rfl, O84⟩
            obtain ⟨a87, a88, a89, rfl⟩ := ((h80.mono l85)).form
            obtain ⟨a90, a91, a92, rfl⟩ := ((h82.mono l85)).form
            refine WL.memD rfl (Own.st (T := 100) (j := 0) (us := [.int .i64 x_59.Kind, .int .i64 x_59.Row, .int .i64 x_59.Col, .int .i64 x_59.R.Row, .int .i64 x_59.R.Col, .int .i64 x_59.R.Wide, .int .i64 x_59.R.High, .int .i64 x_59.X.Wide, .slice a87 a88 a89, .slice a90 a91 a92]) (nw := [.int .i64 x_59.Kind, .int .i64 x_59.Row, .int .i64 x_59.Col, .int .i64 x_59.R.Row, .int .i64 x_59.R.Col, .int .i64 x_59.R.Wide, .int .i64 x_59.R.High, .int .i64 x_59.X.Wide, .slice a87 a88 a89, .slice a90 a91 a92]) (v := .agg #[.int .i64 x_59.Kind, .int .i64 x_59.Row, .int .i64 x_59.Col, .int .i64 x_59.R.Row, .int .i64 x_59.R.Col, .int .i64 x_59.R.Wide, .int .i64 x_59.R.High, .int .i64 x_59.X.Wide, .slice a87 a88 a89, .slice a90 a91 a92]) 0 O84 (by kernel_rfl) rfl rfl rfl rfl (by kernel_rfl) ⟨rfl, rfl, rfl, rfl, rfl, rfl, rfl, rfl, (h80.mono l85).one, (h82.mono l85).one, trivial⟩ rfl rfl) ?_
            rintro c94 l94 O93
            refine wln ?_
            refine W.seq ?_
            refine W.seq ?_
            obtain ⟨d_68, h95, H⟩ := bs H
            refine W.join (fun e w => ∃ (c : Cx) (g : Nat → Value), w = c.w ∧ c94.le c ∧ Own c G71 (⟨.pointer (some ⟨b83, 0, none⟩), 100, [.int .i64 x_59.Kind, .int .i64 x_59.Row, .int .i64 x_59.Col, .int .i64 x_59.R.Row, .int .i64 x_59.R.Col, .int .i64 x_59.R.Wide, .int .i64 x_59.R.High, .int .i64 x_59.X.Wide, .slice a87 a88 a89, .slice a90 a91 a92], 0⟩ :: F) ∧ e = ups g [(0, v65), (1, v3), (7, v52), (9, .int .i64 s_51.2.1), (10, .pointer (some ⟨b83, 0, none⟩)), (68, .bool d_68)]) ?_ ?_
            · clear H
              refine W.region ?_
              refine va (.pointer (some ⟨b83, 9, none⟩)) ?_
              refine WL.val0 (v := .slice a90 a91 a92) rfl (rx (by kernel_rfl) (ldE1 (j := 9) Tryd.underlying47 rfl (O93.on 0 rfl) rfl rfl)) ?_
              refine WL.val0 (v := .int .i64 (x_59.L.length : Int)) rfl (rx (by kernel_rfl) (run_len (ty := 3) Tryd.underlying47 (h82.mono (l85.trans l94)) _)) ?_
              refine va (.bool (decide ((x_59.L.length : Int) > 30))) ?_
              rcases Bool.eq_false_or_eq_true (decide ((x_59.L.length : Int) > 30)) with h96 | h96
              · skip
                obtain rfl := orT h96 h95
                refine vb h96 ?_
                refine ps ?_
                refine ps ?_
                refine ps ?_
                refine ps ?_
                refine ps ?_
                refine ps ?_
                refine va (.bool true) ?_
                refine wln ?_
                exact ⟨c94, _, rfl, (Cx.le.refl _), O93, ups_self ⟨rfl, rfl, rfl, rfl, rfl, rfl, trivial⟩⟩
              · skip
                have H97 := orF h96 h95
                refine vb h96 ?_
                refine wn ?_
                refine va (v65) ?_
                refine wn ?_
                obtain ⟨x_71, h98, H97⟩ := bs H97
                obtain ⟨l_99, h100, m101⟩ := Sl.at (h70.mono (l85.trans l94)) (idx_get h98)
                obtain ⟨v102, rfl, h103⟩ := h100
                refine WL.val0 (v := .pointer (some ⟨sb v65, so v65 + (0 : Int).toNat * 2, none⟩)) rfl (rx (by kernel_rfl) (run_index (k := .i64) Tryd.underlying47 (by kernel_rfl) (h70.mono (l85.trans l94)) h98 _)) ?_
                refine wn ?_
                refine va (.pointer (some ⟨sb v65, so v65 + (0 : Int).toNat * 2, none⟩)) ?_
                refine wn ?_
                refine WL.val0 (v := v102) rfl (rx (by kernel_rfl) (run_load1 Tryd.underlying22 rfl (m101 0 _ rfl))) ?_
                refine wn ?_
                refine WL.val0 (v := .int .i64 (x_71.Cells.length : Int)) rfl (rx (by kernel_rfl) (run_len (ty := 3) Tryd.underlying22 h103 _)) ?_
                refine wn ?_
                refine va (.bool (decide ((x_71.Cells.length : Int) > 100))) ?_
                obtain rfl := Option.some.inj H97
                refine va (.bool (decide ((x_71.Cells.length : Int) > 100))) ?_
                refine wln ?_
                exact ⟨c94, _, rfl, (Cx.le.refl _), O93, ups_self ⟨rfl, rfl, rfl, rfl, rfl, rfl, trivial⟩⟩
            · skip
              rintro e_ w_ ⟨c104, g105, rfl, l104, O106, rfl⟩
              refine nrm ?_
              refine W.cond (t := d_68) (by kernel_rfl) (fun h110 => ?_) (fun h110 => ?_)
              · have H := it h110 H
                refine sr ?_
                refine va (.bool true) ?_
                refine wln ?_
                refine W.ret ?_
                refine thr ?_
                refine bkr ?_
                refine thr ?_
                obtain rfl := Option.some.inj H
                refine ⟨_, rfl, ?_⟩
                refine ⟨rfl, ?_⟩
                have O111 := O106.selD 1 [] (by kernel_rfl) (by kernel_rfl)
                exact ⟨c104, _, G71, rfl, (l67.trans (l85.trans (l94.trans l104))), O111, ups_self ⟨rfl, trivial⟩, (R72.mono (l85.trans (l94.trans l104)))⟩
              · have H := ie h110 H
                refine W.skip ?_
                refine nrm ?_
                refine sr ?_
                refine va (.int .i64 0) ?_
                refine va (.int .i64 0) ?_
                refine wln ?_
                obtain ⟨z_82, H112, H113⟩ := bs H
                refine W.seqJ (fun e w => ∃ (c : Cx) (g : Nat → Value) (v114 : Value) (G_ : Gm), w = c.w ∧ c104.le c ∧ Own c G_ (⟨.pointer (some ⟨b83, 0, none⟩), 100, [.int .i64 x_59.Kind, .int .i64 x_59.Row, .int .i64 x_59.Col, .int .i64 x_59.R.Row, .int .i64 x_59.R.Col, .int .i64 x_59.R.Wide, .int .i64 x_59.R.High, .int .i64 x_59.X.Wide, .slice a87 a88 a89, .slice a90 a91 a92], 0⟩ :: F) ∧ e = ups g [(0, v114), (1, v3), (7, v52), (9, .int .i64 s_51.2.1), (10, .pointer (some ⟨b83, 0, none⟩)), (11, .int .i64 z_82.2.1), (12, .int .i64 z_82.2.2.1)] ∧ Rel c z_82.2.2.2 G_ ∧ Sl R_api_Line c v114 z_82.1) ?_ ?_
                · skip
                  refine sr ?_
                  refine va (.pointer (some ⟨b83, 0, none⟩)) ?_
                  refine WL.val0 (v := .int .i64 x_59.Kind) rfl (rx (by kernel_rfl) (ldE1 (j := 0) Tryd.underlying3 rfl (O106.on 0 rfl) rfl rfl)) ?_
                  refine wln ?_
                  refine W.block ?_
                  refine sr ?_
                  refine va (.bool (x_59.Kind == 0)) ?_
                  refine va (.bool (x_59.Kind == 0)) ?_
                  refine wln ?_
                  refine W.cond (t := x_59.Kind == 0) (by kernel_rfl) (fun h115 => ?_) (fun h115 => ?_)
                  · have H112 := it h115 H112
                    refine sr ?_
                    refine va (v65) ?_
                    refine va (.pointer (some ⟨b83, 1, none⟩)) ?_
                    refine WL.val0 (v := .int .i64 x_59.Row) rfl (rx (by kernel_rfl) (ldE1 (j := 1) Tryd.underlying3 rfl (O106.on 0 rfl) rfl rfl)) ?_
                    refine va (.pointer (some ⟨b83, 2, none⟩)) ?_
                    refine WL.val0 (v := .int .i64 x_59.Col) rfl (rx (by kernel_rfl) (ldE1 (j := 2) Tryd.underlying3 rfl (O106.on 0 rfl) rfl rfl)) ?_
                    refine va (.pointer (some ⟨b83, 9, none⟩)) ?_
                    refine WL.val0 (v := .slice a90 a91 a92) rfl (rx (by kernel_rfl) (ldE1 (j := 9) Tryd.underlying47 rfl (O106.on 0 rfl) rfl rfl)) ?_
                    obtain ⟨x_96, h116, H112⟩ := bs H112
                    refine WL.callP rfl (by kernel_rfl) (c_linotyperef59_Put O106 s_51.1 x_59.Row x_59.Col x_59.L (h70.mono (l85.trans (l94.trans l104))) (h82.mono (l85.trans (l94.trans l104))) h116) ?_
                    rintro v125 c124 l124 ⟨v117, u118, O121, rfl, h119⟩
                    refine va (.tuple #[v117, .int .i64 x_96.2]) ?_
                    refine va (v117) ?_
                    refine va (.int .i64 x_96.2) ?_
                    refine va (v117) ?_
                    refine va (.int .i64 x_96.2) ?_
                    refine wln ?_
                    refine W.region ?_
                    refine va (v52) ?_
                    refine va (.pointer (some ⟨b83, 1, none⟩)) ?_
                    refine WL.val0 (v := .int .i64 x_59.Row) rfl (rx (by kernel_rfl) (ldE1 (j := 1) Tryd.underlying3 rfl (O121.on 1 rfl) rfl rfl)) ?_
                    refine va (.pointer (some ⟨b83, 2, none⟩)) ?_
                    refine WL.val0 (v := .int .i64 x_59.Col) rfl (rx (by kernel_rfl) (ldE1 (j := 2) Tryd.underlying3 rfl (O121.on 1 rfl) rfl rfl)) ?_
                    refine va (.pointer (some ⟨b83, 9, none⟩)) ?_
                    refine WL.val0 (v := .slice a90 a91 a92) rfl (rx (by kernel_rfl) (ldE1 (j := 9) Tryd.underlying47 rfl (O121.on 1 rfl) rfl rfl)) ?_
                    obtain ⟨x_110, h126, H112⟩ := bs H112
                    refine WL.callP rfl (by kernel_rfl) (c_blit_Put O121 (R72.mono (l85.trans (l94.trans (l104.trans l124)))) ((hG.mono (l10.trans (l37.trans (l60.trans (l67.trans (l85.trans (l94.trans (l104.trans l124)))))))).le (by decide)) x_37.2.1 x_59.Row x_59.Col x_59.L (h53.mono (l67.trans (l85.trans (l94.trans (l104.trans l124))))) (h82.mono (l85.trans (l94.trans (l104.trans l124)))) h126) ?_
                    rintro v132 c131 l131 ⟨G127, O128, R129, rfl⟩
                    refine va (.int .i64 x_110.2) ?_
                    refine WL.nil ?_
                    refine bkn ?_
                    refine nrm ?_
                    obtain rfl := Option.some.inj H112
                    obtain ⟨c135, h136, l135, O133, h134⟩ := O128.frz 0 rfl (h119.mono l131)
                    have O137 := O133.selD 2 [1] (by kernel_rfl) (by kernel_rfl)
                    exact ⟨c135, _, v117, G127, h136.symm, (l124.trans (l131.trans l135)), O137, ups_self ⟨rfl, rfl, rfl, rfl, rfl, rfl, rfl, trivial⟩, (R129.mono l135), h134⟩
                  · have H112 := ie h115 H112
                    refine sr ?_
                    refine va (.bool (x_59.Kind == 1)) ?_
                    refine va (.bool (x_59.Kind == 1)) ?_
                    refine wln ?_
                    refine W.cond (t := x_59.Kind == 1) (by kernel_rfl) (fun h138 => ?_) (fun h138 => ?_)
                    · have H112 := it h138 H112
                      obtain ⟨z_116, H139, H140⟩ := bs H112
                      refine W.seqJ (fun e w => ∃ (c : Cx) (g : Nat → Value) (v141 : Value), w = c.w ∧ c104.le c ∧ Own c G71 (⟨.pointer (some ⟨b83, 0, none⟩), 100, [.int .i64 x_59.Kind, .int .i64 x_59.Row, .int .i64 x_59.Col, .int .i64 x_59.R.Row, .int .i64 x_59.R.Col, .int .i64 x_59.R.Wide, .int .i64 x_59.R.High, .int .i64 x_59.X.Wide, .slice a87 a88 a89, .slice a90 a91 a92], 0⟩ :: F) ∧ e = ups g [(0, v141), (1, v3), (7, v52), (9, .int .i64 s_51.2.1), (10, .pointer (some ⟨b83, 0, none⟩)), (11, .int .i64 z_116.2)] ∧ Sl R_api_Line c v141 z_116.1) ?_ ?_
                      · skip
                        refine sr ?_
                        refine va (.pointer (some ⟨b83, 7, none⟩)) ?_
                        refine WL.val0 (v := .agg #[.int .i64 x_59.X.Wide, .slice a87 a88 a89]) rfl (rx (by kernel_rfl) (ldEN (T := 95) (j := 7) (l := [.int .i64 x_59.X.Wide, .slice a87 a88 a89]) (by kernel_rfl) (by kernel_rfl) (O106.on 0 rfl) rfl rfl)) ?_
                        obtain ⟨x_119, h142, H139⟩ := bs H139
                        refine WL.callP rfl (by kernel_rfl) (c_linotyperef29_Right O106 (⟨x_59.X.Wide, x_59.X.Text⟩ : G_api_Item) (h80.mono (l85.trans (l94.trans l104))) h142) ?_
                        rintro v148 c147 l147 ⟨O144, rfl⟩
                        refine wln ?_
                        refine W.cond (t := x_119) (by kernel_rfl) (fun h149 => ?_) (fun h149 => ?_)
                        · have H139 := it h149 H139
                          refine W.regionD [] (Kp G0 [⟨.pointer (some ⟨b83, 0, none⟩), 100, [.int .i64 x_59.Kind, .int .i64 x_59.Row, .int .i64 x_59.Col, .int .i64 x_59.R.Row, .int .i64 x_59.R.Col, .int .i64 x_59.R.Wide, .int .i64 x_59.R.High, .int .i64 x_59.X.Wide, .slice a87 a88 a89, .slice a90 a91 a92], 0⟩]) O144 (by kernel_rfl) ?_
                          intro c150 l150 O151
                          have p152 : Kp G0 [⟨.pointer (some ⟨b83, 0, none⟩), 100, [.int .i64 x_59.Kind, .int .i64 x_59.Row, .int .i64 x_59.Col, .int .i64 x_59.R.Row, .int .i64 x_59.R.Col, .int .i64 x_59.R.Wide, .int .i64 x_59.R.High, .int .i64 x_59.X.Wide, .slice a87 a88 a89, .slice a90 a91 a92], 0⟩] c150 := (Kp.cons (O151.on 0 rfl) Kp.nil0)
                          refine ta 0 (v65) ?_
                          refine ta 1 (.pointer (some ⟨b83, 3, none⟩)) ?_
                          refine AC.takeK 2 (.agg #[.int .i64 x_59.R.Row, .int .i64 x_59.R.Col, .int .i64 x_59.R.Wide, .int .i64 x_59.R.High]) p152 rfl (by kernel_rfl) (by kernel_rfl) (by kernel_rfl) (fun c' hle hk => (rx (by kernel_rfl) (ldEN (T := 91) (j := 3) (l := [.int .i64 x_59.R.Row, .int .i64 x_59.R.Col, .int .i64 x_59.R.Wide, .int .i64 x_59.R.High]) (by kernel_rfl) (by kernel_rfl) (hk.on 0 rfl) rfl rfl))) ?_
                          refine ta 4 (.pointer (some ⟨b83, 7, none⟩)) ?_
                          refine AC.takeK 5 (.agg #[.int .i64 x_59.X.Wide, .slice a87 a88 a89]) p152 rfl (by kernel_rfl) (by kernel_rfl) (by kernel_rfl) (fun c' hle hk => (rx (by kernel_rfl) (ldEN (T := 95) (j := 7) (l := [.int .i64 x_59.X.Wide, .slice a87 a88 a89]) (by kernel_rfl) (by kernel_rfl) (hk.on 0 rfl) rfl rfl))) ?_
                          obtain ⟨x_126, h153, H139⟩ := bs H139
                          refine AC.one 3 (by kernel_rfl) (Go1.callP 3 rfl (by kernel_rfl) (by kernel_rfl) (by kernel_rfl) (c_linotypelaw59_rect O151 (⟨x_59.R.Row, x_59.R.Col, x_59.R.Wide, x_59.R.High⟩ : G_blit_Rect) h153) ?_)
                          rintro v159 c158 l158 ⟨O155, rfl⟩
                          have p160 : Kp G0 [⟨.pointer (some ⟨b83, 0, none⟩), 100, [.int .i64 x_59.Kind, .int .i64 x_59.Row, .int .i64 x_59.Col, .int .i64 x_59.R.Row, .int .i64 x_59.R.Col, .int .i64 x_59.R.Wide, .int .i64 x_59.R.High, .int .i64 x_59.X.Wide, .slice a87 a88 a89, .slice a90 a91 a92], 0⟩] c158 := (Kp.cons (O155.on 0 rfl) Kp.nil0)
                          refine ⟨.inr p160, ?_⟩
                          obtain ⟨x_127, h161, H139⟩ := bs H139
                          refine AC.one 6 (by kernel_rfl) (Go1.callP 6 rfl (by kernel_rfl) (by kernel_rfl) (by kernel_rfl) (c_linotyperef59_Fill O155 s_51.1 x_126 (⟨x_59.X.Wide, x_59.X.Text⟩ : G_api_Item) (h70.mono (l85.trans (l94.trans (l104.trans (l147.trans (l150.trans l158)))))) (h80.mono (l85.trans (l94.trans (l104.trans (l147.trans (l150.trans l158)))))) h161) ?_)
                          rintro v170 c169 l169 ⟨v162, u163, O166, rfl, h164⟩
                          have p171 : Kp G0 [⟨.pointer (some ⟨b83, 0, none⟩), 100, [.int .i64 x_59.Kind, .int .i64 x_59.Row, .int .i64 x_59.Col, .int .i64 x_59.R.Row, .int .i64 x_59.R.Col, .int .i64 x_59.R.Wide, .int .i64 x_59.R.High, .int .i64 x_59.X.Wide, .slice a87 a88 a89, .slice a90 a91 a92], 0⟩] c169 := (Kp.cons (O166.on 1 rfl) Kp.nil0)
                          refine ⟨.inr p171, ?_⟩
                          refine ta 7 (.tuple #[v162, .int .i64 x_127.2]) ?_
                          refine ta 8 (v162) ?_
                          refine ta 9 (.int .i64 x_127.2) ?_
                          refine ta 10 (v162) ?_
                          refine ta 11 (.int .i64 x_127.2) ?_
                          refine AC.done (by kernel_rfl) ?_
                          refine nrm ?_
                          obtain rfl := Option.some.inj H139
                          obtain ⟨c174, h175, l174, O172, h173⟩ := O166.frz 0 rfl h164
                          have O176 := O172.selD 2 [1] (by kernel_rfl) (by kernel_rfl)
                          exact ⟨c174, _, v162, h175.symm, (l147.trans (l150.trans (l158.trans (l169.trans l174)))), O176, ups_self ⟨rfl, rfl, rfl, rfl, rfl, rfl, trivial⟩, h173⟩
                        · have H139 := ie h149 H139
                          refine W.skip ?_
                          refine nrm ?_
                          obtain rfl := Option.some.inj H139
                          exact ⟨c147, _, v65, rfl, l147, O144, ups_self ⟨rfl, rfl, rfl, rfl, rfl, rfl, trivial⟩, (h70.mono (l85.trans (l94.trans (l104.trans l147))))⟩
                      · skip
                        rintro e_ w_ ⟨c177, g178, v141, rfl, l177, O179, rfl, h180⟩
                        refine W.region ?_
                        refine va (v52) ?_
                        refine va (.pointer (some ⟨b83, 3, none⟩)) ?_
                        refine WL.val0 (v := .agg #[.int .i64 x_59.R.Row, .int .i64 x_59.R.Col, .int .i64 x_59.R.Wide, .int .i64 x_59.R.High]) rfl (rx (by kernel_rfl) (ldEN (T := 91) (j := 3) (l := [.int .i64 x_59.R.Row, .int .i64 x_59.R.Col, .int .i64 x_59.R.Wide, .int .i64 x_59.R.High]) (by kernel_rfl) (by kernel_rfl) (O179.on 0 rfl) rfl rfl)) ?_
                        refine va (.pointer (some ⟨b83, 7, none⟩)) ?_
                        refine WL.val0 (v := .agg #[.int .i64 x_59.X.Wide, .slice a87 a88 a89]) rfl (rx (by kernel_rfl) (ldEN (T := 95) (j := 7) (l := [.int .i64 x_59.X.Wide, .slice a87 a88 a89]) (by kernel_rfl) (by kernel_rfl) (O179.on 0 rfl) rfl rfl)) ?_
                        obtain ⟨x_139, h184, H140⟩ := bs H140
                        refine WL.callP rfl (by kernel_rfl) (c_blit_Fill O179 (R72.mono (l85.trans (l94.trans (l104.trans l177)))) ((hG.mono (l10.trans (l37.trans (l60.trans (l67.trans (l85.trans (l94.trans (l104.trans l177)))))))).le (by decide)) x_37.2.1 (⟨x_59.R.Row, x_59.R.Col, x_59.R.Wide, x_59.R.High⟩ : G_blit_Rect) (⟨x_59.X.Wide, x_59.X.Text⟩ : G_api_Item) (h53.mono (l67.trans (l85.trans (l94.trans (l104.trans l177))))) (h80.mono (l85.trans (l94.trans (l104.trans l177)))) h184) ?_
                        rintro v190 c189 l189 ⟨G185, O186, R187, rfl⟩
                        refine va (.int .i64 x_139.2) ?_
                        refine WL.nil ?_
                        refine bkn ?_
                        refine nrm ?_
                        obtain rfl := Option.some.inj H140
                        exact ⟨c189, _, v141, G185, rfl, (l177.trans l189), O186, ups_self ⟨rfl, rfl, rfl, rfl, rfl, rfl, rfl, trivial⟩, R187, (h180.mono l189)⟩
                    · have H112 := ie h138 H112
                      refine W.seq ?_
                      refine W.regionD [] (Kp G0 [⟨.pointer (some ⟨b83, 0, none⟩), 100, [.int .i64 x_59.Kind, .int .i64 x_59.Row, .int .i64 x_59.Col, .int .i64 x_59.R.Row, .int .i64 x_59.R.Col, .int .i64 x_59.R.Wide, .int .i64 x_59.R.High, .int .i64 x_59.X.Wide, .slice a87 a88 a89, .slice a90 a91 a92], 0⟩]) O106 (by kernel_rfl) ?_
                      intro c191 l191 O192
                      have p193 : Kp G0 [⟨.pointer (some ⟨b83, 0, none⟩), 100, [.int .i64 x_59.Kind, .int .i64 x_59.Row, .int .i64 x_59.Col, .int .i64 x_59.R.Row, .int .i64 x_59.R.Col, .int .i64 x_59.R.Wide, .int .i64 x_59.R.High, .int .i64 x_59.X.Wide, .slice a87 a88 a89, .slice a90 a91 a92], 0⟩] c191 := (Kp.cons (O192.on 0 rfl) Kp.nil0)
                      refine ta 0 (v65) ?_
                      refine ta 1 (.pointer (some ⟨b83, 1, none⟩)) ?_
                      refine AC.takeK 2 (.int .i64 x_59.Row) p193 rfl (by kernel_rfl) (by kernel_rfl) (by kernel_rfl) (fun c' hle hk => (rx (by kernel_rfl) (ldE1 (j := 1) Tryd.underlying3 rfl (hk.on 0 rfl) rfl rfl))) ?_
                      refine ta 3 (.pointer (some ⟨b83, 2, none⟩)) ?_
                      refine AC.takeK 4 (.int .i64 x_59.Col) p193 rfl (by kernel_rfl) (by kernel_rfl) (by kernel_rfl) (fun c' hle hk => (rx (by kernel_rfl) (ldE1 (j := 2) Tryd.underlying3 rfl (hk.on 0 rfl) rfl rfl))) ?_
                      refine ta 5 (v65) ?_
                      refine ta 6 (.pointer (some ⟨b83, 3, none⟩)) ?_
                      refine AC.takeK 7 (.agg #[.int .i64 x_59.R.Row, .int .i64 x_59.R.Col, .int .i64 x_59.R.Wide, .int .i64 x_59.R.High]) p193 rfl (by kernel_rfl) (by kernel_rfl) (by kernel_rfl) (fun c' hle hk => (rx (by kernel_rfl) (ldEN (T := 91) (j := 3) (l := [.int .i64 x_59.R.Row, .int .i64 x_59.R.Col, .int .i64 x_59.R.Wide, .int .i64 x_59.R.High]) (by kernel_rfl) (by kernel_rfl) (hk.on 0 rfl) rfl rfl))) ?_
                      obtain ⟨x_150, h194, H112⟩ := bs H112
                      refine AC.one 8 (by kernel_rfl) (Go1.callP 8 rfl (by kernel_rfl) (by kernel_rfl) (by kernel_rfl) (c_linotypelaw59_rect O192 (⟨x_59.R.Row, x_59.R.Col, x_59.R.Wide, x_59.R.High⟩ : G_blit_Rect) h194) ?_)
                      rintro v200 c199 l199 ⟨O196, rfl⟩
                      have p201 : Kp G0 [⟨.pointer (some ⟨b83, 0, none⟩), 100, [.int .i64 x_59.Kind, .int .i64 x_59.Row, .int .i64 x_59.Col, .int .i64 x_59.R.Row, .int .i64 x_59.R.Col, .int .i64 x_59.R.Wide, .int .i64 x_59.R.High, .int .i64 x_59.X.Wide, .slice a87 a88 a89, .slice a90 a91 a92], 0⟩] c199 := (Kp.cons (O196.on 0 rfl) Kp.nil0)
                      refine ⟨.inr p201, ?_⟩
                      obtain ⟨x_151, h202, H112⟩ := bs H112
                      refine AC.one 9 (by kernel_rfl) (Go1.callP 9 rfl (by kernel_rfl) (by kernel_rfl) (by kernel_rfl) (c_linotyperef59_Take O196 s_51.1 x_150 (h70.mono (l85.trans (l94.trans (l104.trans (l191.trans l199))))) h202) ?_)
                      rintro v203 c210 l210 ⟨_, u204, O207, rfl, h205⟩
                      have p212 : Kp G0 [⟨.pointer (some ⟨b83, 0, none⟩), 100, [.int .i64 x_59.Kind, .int .i64 x_59.Row, .int .i64 x_59.Col, .int .i64 x_59.R.Row, .int .i64 x_59.R.Col, .int .i64 x_59.R.Wide, .int .i64 x_59.R.High, .int .i64 x_59.X.Wide, .slice a87 a88 a89, .slice a90 a91 a92], 0⟩] c210 := (Kp.cons (O207.on 1 rfl) Kp.nil0)
                      refine ⟨.inr p212, ?_⟩
                      obtain ⟨c215, h216, l215, O213, h214⟩ := O207.frz 0 rfl h205
                      have p217 : Kp G0 [⟨.pointer (some ⟨b83, 0, none⟩), 100, [.int .i64 x_59.Kind, .int .i64 x_59.Row, .int .i64 x_59.Col, .int .i64 x_59.R.Row, .int .i64 x_59.R.Col, .int .i64 x_59.R.Wide, .int .i64 x_59.R.High, .int .i64 x_59.X.Wide, .slice a87 a88 a89, .slice a90 a91 a92], 0⟩] c215 := (Kp.cons (O213.on 1 rfl) Kp.nil0)
                      refine AC.gh h216 l215 (fun _ => p217) ?_
                      obtain ⟨x_152, h218, H112⟩ := bs H112
                      refine AC.one 10 (by kernel_rfl) (Go1.callP 10 rfl (by kernel_rfl) (by kernel_rfl) (by kernel_rfl) (c_linotyperef59_Put O213 s_51.1 x_59.Row x_59.Col x_151 (h70.mono (l85.trans (l94.trans (l104.trans (l191.trans (l199.trans (l210.trans l215))))))) h214 h218) ?_)
                      rintro v227 c226 l226 ⟨v219, u220, O223, rfl, h221⟩
                      have p228 : Kp G0 [⟨.pointer (some ⟨b83, 0, none⟩), 100, [.int .i64 x_59.Kind, .int .i64 x_59.Row, .int .i64 x_59.Col, .int .i64 x_59.R.Row, .int .i64 x_59.R.Col, .int .i64 x_59.R.Wide, .int .i64 x_59.R.High, .int .i64 x_59.X.Wide, .slice a87 a88 a89, .slice a90 a91 a92], 0⟩] c226 := (Kp.cons (O223.on 2 rfl) Kp.nil0)
                      refine ⟨.inr p228, ?_⟩
                      refine ta 11 (.tuple #[v219, .int .i64 x_152.2]) ?_
                      refine ta 12 (v219) ?_
                      refine ta 13 (.int .i64 x_152.2) ?_
                      refine ta 14 (v219) ?_
                      refine ta 15 (.int .i64 x_152.2) ?_
                      refine AC.done (by kernel_rfl) ?_
                      refine nrm ?_
                      refine W.region ?_
                      refine va (v52) ?_
                      refine va (.pointer (some ⟨b83, 1, none⟩)) ?_
                      refine WL.val0 (v := .int .i64 x_59.Row) rfl (rx (by kernel_rfl) (ldE1 (j := 1) Tryd.underlying3 rfl (O223.on 2 rfl) rfl rfl)) ?_
                      refine va (.pointer (some ⟨b83, 2, none⟩)) ?_
                      refine WL.val0 (v := .int .i64 x_59.Col) rfl (rx (by kernel_rfl) (ldE1 (j := 2) Tryd.underlying3 rfl (O223.on 2 rfl) rfl rfl)) ?_
                      refine va (v52) ?_
                      refine va (.pointer (some ⟨b83, 3, none⟩)) ?_
                      refine WL.val0 (v := .agg #[.int .i64 x_59.R.Row, .int .i64 x_59.R.Col, .int .i64 x_59.R.Wide, .int .i64 x_59.R.High]) rfl (rx (by kernel_rfl) (ldEN (T := 91) (j := 3) (l := [.int .i64 x_59.R.Row, .int .i64 x_59.R.Col, .int .i64 x_59.R.Wide, .int .i64 x_59.R.High]) (by kernel_rfl) (by kernel_rfl) (O223.on 2 rfl) rfl rfl)) ?_
                      obtain ⟨x_167, h229, H112⟩ := bs H112
                      refine WL.callP rfl (by kernel_rfl) (c_blit_Copy O223 (R72.mono (l85.trans (l94.trans (l104.trans (l191.trans (l199.trans (l210.trans (l215.trans l226)))))))) ((hG.mono (l10.trans (l37.trans (l60.trans (l67.trans (l85.trans (l94.trans (l104.trans (l191.trans (l199.trans (l210.trans (l215.trans l226)))))))))))).le (by decide)) x_37.2.1 x_59.Row x_59.Col x_37.2.1 (⟨x_59.R.Row, x_59.R.Col, x_59.R.Wide, x_59.R.High⟩ : G_blit_Rect) (h53.mono (l67.trans (l85.trans (l94.trans (l104.trans (l191.trans (l199.trans (l210.trans (l215.trans l226))))))))) (h53.mono (l67.trans (l85.trans (l94.trans (l104.trans (l191.trans (l199.trans (l210.trans (l215.trans l226))))))))) h229) ?_
                      rintro v235 c234 l234 ⟨G230, O231, R232, rfl⟩
                      refine va (.int .i64 x_167.2) ?_
                      refine WL.nil ?_
                      refine bkn ?_
                      refine nrm ?_
                      obtain rfl := Option.some.inj H112
                      obtain ⟨c238, h239, l238, O236, h237⟩ := O231.frz 0 rfl (h221.mono l234)
                      have O240 := O236.selD 3 [2] (by kernel_rfl) (by kernel_rfl)
                      exact ⟨c238, _, v219, G230, h239.symm, (l191.trans (l199.trans (l210.trans (l215.trans (l226.trans (l234.trans l238)))))), O240, ups_self ⟨rfl, rfl, rfl, rfl, rfl, rfl, rfl, trivial⟩, (R232.mono l238), h237⟩
                · skip
                  rintro e_ w_ ⟨c241, g242, v114, G245, rfl, l241, O243, rfl, R246, h244⟩
                  refine W.seq ?_
                  obtain ⟨d_173, h248, H113⟩ := bs H113
                  obtain ⟨d_180, h249, H113⟩ := bs H113
                  refine W.join (fun e w => ∃ (c : Cx) (g : Nat → Value), w = c.w ∧ c241.le c ∧ Own c G245 (⟨.pointer (some ⟨b83, 0, none⟩), 100, [.int .i64 x_59.Kind, .int .i64 x_59.Row, .int .i64 x_59.Col, .int .i64 x_59.R.Row, .int .i64 x_59.R.Col, .int .i64 x_59.R.Wide, .int .i64 x_59.R.High, .int .i64 x_59.X.Wide, .slice a87 a88 a89, .slice a90 a91 a92], 0⟩ :: F) ∧ e = ups g [(0, v114), (1, v3), (7, v52), (9, .int .i64 s_51.2.1), (158, .bool d_180)]) ?_ ?_
                  · clear H113
                    refine W.regionD [] (Kp G0 [⟨.pointer (some ⟨b83, 0, none⟩), 100, [.int .i64 x_59.Kind, .int .i64 x_59.Row, .int .i64 x_59.Col, .int .i64 x_59.R.Row, .int .i64 x_59.R.Col, .int .i64 x_59.R.Wide, .int .i64 x_59.R.High, .int .i64 x_59.X.Wide, .slice a87 a88 a89, .slice a90 a91 a92], 0⟩]) O243 (by kernel_rfl) ?_
                    intro c250 l250 O251
                    have p252 : Kp G0 [⟨.pointer (some ⟨b83, 0, none⟩), 100, [.int .i64 x_59.Kind, .int .i64 x_59.Row, .int .i64 x_59.Col, .int .i64 x_59.R.Row, .int .i64 x_59.R.Col, .int .i64 x_59.R.Wide, .int .i64 x_59.R.High, .int .i64 x_59.X.Wide, .slice a87 a88 a89, .slice a90 a91 a92], 0⟩] c250 := (Kp.cons (O251.on 0 rfl) Kp.nil0)
                    refine ta 0 (.int .i64 z_82.2.1) ?_
                    refine ta 1 (.int .i64 z_82.2.2.1) ?_
                    refine ta 2 (.bool (z_82.2.1 != z_82.2.2.1)) ?_
                    rcases Bool.eq_false_or_eq_true (z_82.2.1 != z_82.2.2.1) with h253 | h253
                    · skip
                      obtain rfl := orT h253 h248
                      refine AC.takeb 3 h253 rfl (by kernel_rfl) (by kernel_rfl) (fun c' hle => (by kernel_rfl)) ?_
                      refine AC.pass 4 rfl (by kernel_rfl) (by kernel_rfl) ?_
                      refine AC.pass 6 rfl (by kernel_rfl) (by kernel_rfl) ?_
                      refine AC.pass 5 rfl (by kernel_rfl) (by kernel_rfl) ?_
                      refine AC.pass 7 rfl (by kernel_rfl) (by kernel_rfl) ?_
                      refine AC.pass 8 rfl (by kernel_rfl) (by kernel_rfl) ?_
                      refine ta 9 (.bool true) ?_
                      have h254 : true = true := rfl
                      obtain rfl := orT h254 h249
                      refine AC.takeb 10 h254 rfl (by kernel_rfl) (by kernel_rfl) (fun c' hle => (by kernel_rfl)) ?_
                      refine AC.pass 11 rfl (by kernel_rfl) (by kernel_rfl) ?_
                      refine AC.pass 12 rfl (by kernel_rfl) (by kernel_rfl) ?_
                      refine AC.pass 13 rfl (by kernel_rfl) (by kernel_rfl) ?_
                      refine AC.pass 15 rfl (by kernel_rfl) (by kernel_rfl) ?_
                      refine AC.pass 16 rfl (by kernel_rfl) (by kernel_rfl) ?_
                      refine AC.pass 17 rfl (by kernel_rfl) (by kernel_rfl) ?_
                      refine AC.pass 14 rfl (by kernel_rfl) (by kernel_rfl) ?_
                      refine AC.pass 18 rfl (by kernel_rfl) (by kernel_rfl) ?_
                      refine AC.pass 19 rfl (by kernel_rfl) (by kernel_rfl) ?_
                      refine AC.pass 20 rfl (by kernel_rfl) (by kernel_rfl) ?_
                      refine AC.pass 21 rfl (by kernel_rfl) (by kernel_rfl) ?_
                      refine ta 22 (.bool true) ?_
                      refine AC.done (by kernel_rfl) ?_
                      refine nrm ?_
                      exact ⟨c250, _, rfl, l250, O251, ups_self ⟨rfl, rfl, rfl, rfl, rfl, trivial⟩⟩
                    · skip
                      have H255 := orF h253 h248
                      refine AC.takeb 3 h253 rfl (by kernel_rfl) (by kernel_rfl) (fun c' hle => (by kernel_rfl)) ?_
                      refine ta 4 (v52) ?_
                      refine ta 6 (v114) ?_
                      obtain ⟨x_177, h256, H255⟩ := bs H255
                      refine AC.one 5 (by kernel_rfl) (Go1.callP 5 rfl (by kernel_rfl) (by kernel_rfl) (by kernel_rfl) (c_grid_Grid_Lines O251 (R246.mono l250) x_37.2.1 (h53.mono (l67.trans (l85.trans (l94.trans (l104.trans (l241.trans l250)))))) h256) ?_)
                      rintro v257 c264 l264 ⟨_, u258, O261, rfl, h259⟩
                      have p266 : Kp G0 [⟨.pointer (some ⟨b83, 0, none⟩), 100, [.int .i64 x_59.Kind, .int .i64 x_59.Row, .int .i64 x_59.Col, .int .i64 x_59.R.Row, .int .i64 x_59.R.Col, .int .i64 x_59.R.Wide, .int .i64 x_59.R.High, .int .i64 x_59.X.Wide, .slice a87 a88 a89, .slice a90 a91 a92], 0⟩] c264 := (Kp.cons (O261.on 1 rfl) Kp.nil0)
                      refine ⟨.inr p266, ?_⟩
                      obtain ⟨c269, h270, l269, O267, h268⟩ := O261.frz 0 rfl h259
                      have p271 : Kp G0 [⟨.pointer (some ⟨b83, 0, none⟩), 100, [.int .i64 x_59.Kind, .int .i64 x_59.Row, .int .i64 x_59.Col, .int .i64 x_59.R.Row, .int .i64 x_59.R.Col, .int .i64 x_59.R.Wide, .int .i64 x_59.R.High, .int .i64 x_59.X.Wide, .slice a87 a88 a89, .slice a90 a91 a92], 0⟩] c269 := (Kp.cons (O267.on 1 rfl) Kp.nil0)
                      refine AC.gh h270 l269 (fun _ => p271) ?_
                      obtain ⟨x_178, h272, H255⟩ := bs H255
                      refine AC.one 7 (by kernel_rfl) (Go1.callP 7 rfl (by kernel_rfl) (by kernel_rfl) (by kernel_rfl) (c_linotyperef32_Same O267 x_177 z_82.1 h268 (h244.mono (l250.trans (l264.trans l269))) h272) ?_)
                      rintro v278 c277 l277 ⟨O274, rfl⟩
                      have p279 : Kp G0 [⟨.pointer (some ⟨b83, 0, none⟩), 100, [.int .i64 x_59.Kind, .int .i64 x_59.Row, .int .i64 x_59.Col, .int .i64 x_59.R.Row, .int .i64 x_59.R.Col, .int .i64 x_59.R.Wide, .int .i64 x_59.R.High, .int .i64 x_59.X.Wide, .slice a87 a88 a89, .slice a90 a91 a92], 0⟩] c277 := (Kp.cons (O274.on 1 rfl) Kp.nil0)
                      refine ⟨.inr p279, ?_⟩
                      refine ta 8 (.bool (!x_178)) ?_
                      obtain rfl := Option.some.inj H255
                      refine ta 9 (.bool (!x_178)) ?_
                      rcases Bool.eq_false_or_eq_true (!x_178) with h280 | h280
                      · skip
                        obtain rfl := orT h280 h249
                        refine AC.takeb 10 h280 rfl (by kernel_rfl) (by kernel_rfl) (fun c' hle => (by kernel_rfl)) ?_
                        refine AC.pass 11 rfl (by kernel_rfl) (by kernel_rfl) ?_
                        refine AC.pass 12 rfl (by kernel_rfl) (by kernel_rfl) ?_
                        refine AC.pass 13 rfl (by kernel_rfl) (by kernel_rfl) ?_
                        refine AC.pass 15 rfl (by kernel_rfl) (by kernel_rfl) ?_
                        refine AC.pass 16 rfl (by kernel_rfl) (by kernel_rfl) ?_
                        refine AC.pass 17 rfl (by kernel_rfl) (by kernel_rfl) ?_
                        refine AC.pass 14 rfl (by kernel_rfl) (by kernel_rfl) ?_
                        refine AC.pass 18 rfl (by kernel_rfl) (by kernel_rfl) ?_
                        refine AC.pass 19 rfl (by kernel_rfl) (by kernel_rfl) ?_
                        refine AC.pass 20 rfl (by kernel_rfl) (by kernel_rfl) ?_
                        refine AC.pass 21 rfl (by kernel_rfl) (by kernel_rfl) ?_
                        refine ta 22 (.bool true) ?_
                        refine AC.done (by kernel_rfl) ?_
                        refine nrm ?_
                        have O281 := O274.selD 2 [1] (by kernel_rfl) (by kernel_rfl)
                        exact ⟨c277, _, rfl, (l250.trans (l264.trans (l269.trans l277))), O281, ups_self ⟨rfl, rfl, rfl, rfl, rfl, trivial⟩⟩
                      · skip
                        have H282 := orF h280 h249
                        refine AC.takeb 10 h280 rfl (by kernel_rfl) (by kernel_rfl) (fun c' hle => (by kernel_rfl)) ?_
                        refine ta 11 (v52) ?_
                        refine ta 12 (.pointer (some ⟨b83, 3, none⟩)) ?_
                        refine AC.takeK 13 (.agg #[.int .i64 x_59.R.Row, .int .i64 x_59.R.Col, .int .i64 x_59.R.Wide, .int .i64 x_59.R.High]) p279 rfl (by kernel_rfl) (by kernel_rfl) (by kernel_rfl) (fun c' hle hk => (rx (by kernel_rfl) (ldEN (T := 91) (j := 3) (l := [.int .i64 x_59.R.Row, .int .i64 x_59.R.Col, .int .i64 x_59.R.Wide, .int .i64 x_59.R.High]) (by kernel_rfl) (by kernel_rfl) (hk.on 0 rfl) rfl rfl))) ?_
                        refine ta 15 (v114) ?_
                        refine ta 16 (.pointer (some ⟨b83, 3, none⟩)) ?_
                        refine AC.takeK 17 (.agg #[.int .i64 x_59.R.Row, .int .i64 x_59.R.Col, .int .i64 x_59.R.Wide, .int .i64 x_59.R.High]) p279 rfl (by kernel_rfl) (by kernel_rfl) (by kernel_rfl) (fun c' hle hk => (rx (by kernel_rfl) (ldEN (T := 91) (j := 3) (l := [.int .i64 x_59.R.Row, .int .i64 x_59.R.Col, .int .i64 x_59.R.Wide, .int .i64 x_59.R.High]) (by kernel_rfl) (by kernel_rfl) (hk.on 0 rfl) rfl rfl))) ?_
                        obtain ⟨x_188, h283, H282⟩ := bs H282
                        refine AC.one 14 (by kernel_rfl) (Go1.callP 14 rfl (by kernel_rfl) (by kernel_rfl) (by kernel_rfl) (c_blit_Take O274 (R246.mono (l250.trans (l264.trans (l269.trans l277)))) x_37.2.1 (⟨x_59.R.Row, x_59.R.Col, x_59.R.Wide, x_59.R.High⟩ : G_blit_Rect) (h53.mono (l67.trans (l85.trans (l94.trans (l104.trans (l241.trans (l250.trans (l264.trans (l269.trans l277))))))))) h283) ?_)
                        rintro v284 c291 l291 ⟨_, u285, O288, rfl, h286⟩
                        have p293 : Kp G0 [⟨.pointer (some ⟨b83, 0, none⟩), 100, [.int .i64 x_59.Kind, .int .i64 x_59.Row, .int .i64 x_59.Col, .int .i64 x_59.R.Row, .int .i64 x_59.R.Col, .int .i64 x_59.R.Wide, .int .i64 x_59.R.High, .int .i64 x_59.X.Wide, .slice a87 a88 a89, .slice a90 a91 a92], 0⟩] c291 := (Kp.cons (O288.on 2 rfl) Kp.nil0)
                        refine ⟨.inr p293, ?_⟩
                        obtain ⟨x_189, h294, H282⟩ := bs H282
                        refine AC.one 18 (by kernel_rfl) (Go1.callP 18 rfl (by kernel_rfl) (by kernel_rfl) (by kernel_rfl) (c_linotypelaw59_rect O288 (⟨x_59.R.Row, x_59.R.Col, x_59.R.Wide, x_59.R.High⟩ : G_blit_Rect) h294) ?_)
                        rintro v300 c299 l299 ⟨O296, rfl⟩
                        have p301 : Kp G0 [⟨.pointer (some ⟨b83, 0, none⟩), 100, [.int .i64 x_59.Kind, .int .i64 x_59.Row, .int .i64 x_59.Col, .int .i64 x_59.R.Row, .int .i64 x_59.R.Col, .int .i64 x_59.R.Wide, .int .i64 x_59.R.High, .int .i64 x_59.X.Wide, .slice a87 a88 a89, .slice a90 a91 a92], 0⟩] c299 := (Kp.cons (O296.on 2 rfl) Kp.nil0)
                        refine ⟨.inr p301, ?_⟩
                        obtain ⟨x_190, h302, H282⟩ := bs H282
                        refine AC.one 19 (by kernel_rfl) (Go1.callP 19 rfl (by kernel_rfl) (by kernel_rfl) (by kernel_rfl) (c_linotyperef59_Take O296 z_82.1 x_189 (h244.mono (l250.trans (l264.trans (l269.trans (l277.trans (l291.trans l299)))))) h302) ?_)
                        rintro v303 c310 l310 ⟨_, u304, O307, rfl, h305⟩
                        have p312 : Kp G0 [⟨.pointer (some ⟨b83, 0, none⟩), 100, [.int .i64 x_59.Kind, .int .i64 x_59.Row, .int .i64 x_59.Col, .int .i64 x_59.R.Row, .int .i64 x_59.R.Col, .int .i64 x_59.R.Wide, .int .i64 x_59.R.High, .int .i64 x_59.X.Wide, .slice a87 a88 a89, .slice a90 a91 a92], 0⟩] c310 := (Kp.cons (O307.on 3 rfl) Kp.nil0)
                        refine ⟨.inr p312, ?_⟩
                        obtain ⟨c315, h316, l315, O313, h314⟩ := O307.frz 1 rfl (h286.mono (l299.trans l310))
                        have p317 : Kp G0 [⟨.pointer (some ⟨b83, 0, none⟩), 100, [.int .i64 x_59.Kind, .int .i64 x_59.Row, .int .i64 x_59.Col, .int .i64 x_59.R.Row, .int .i64 x_59.R.Col, .int .i64 x_59.R.Wide, .int .i64 x_59.R.High, .int .i64 x_59.X.Wide, .slice a87 a88 a89, .slice a90 a91 a92], 0⟩] c315 := (Kp.cons (O313.on 3 rfl) Kp.nil0)
                        refine AC.gh h316 l315 (fun _ => p317) ?_
                        obtain ⟨c320, h321, l320, O318, h319⟩ := O313.frz 0 rfl (h305.mono l315)
                        have p322 : Kp G0 [⟨.pointer (some ⟨b83, 0, none⟩), 100, [.int .i64 x_59.Kind, .int .i64 x_59.Row, .int .i64 x_59.Col, .int .i64 x_59.R.Row, .int .i64 x_59.R.Col, .int .i64 x_59.R.Wide, .int .i64 x_59.R.High, .int .i64 x_59.X.Wide, .slice a87 a88 a89, .slice a90 a91 a92], 0⟩] c320 := (Kp.cons (O318.on 3 rfl) Kp.nil0)
                        refine AC.gh h321 l320 (fun _ => p322) ?_
                        obtain ⟨x_191, h323, H282⟩ := bs H282
                        refine AC.one 20 (by kernel_rfl) (Go1.callP 20 rfl (by kernel_rfl) (by kernel_rfl) (by kernel_rfl) (c_linotyperef32_Same O318 x_188 x_190 (h314.mono l320) h319 h323) ?_)
                        rintro v329 c328 l328 ⟨O325, rfl⟩
                        have p330 : Kp G0 [⟨.pointer (some ⟨b83, 0, none⟩), 100, [.int .i64 x_59.Kind, .int .i64 x_59.Row, .int .i64 x_59.Col, .int .i64 x_59.R.Row, .int .i64 x_59.R.Col, .int .i64 x_59.R.Wide, .int .i64 x_59.R.High, .int .i64 x_59.X.Wide, .slice a87 a88 a89, .slice a90 a91 a92], 0⟩] c328 := (Kp.cons (O325.on 3 rfl) Kp.nil0)
                        refine ⟨.inr p330, ?_⟩
                        refine ta 21 (.bool (!x_191)) ?_
                        obtain rfl := Option.some.inj H282
                        refine ta 22 (.bool (!x_191)) ?_
                        refine AC.done (by kernel_rfl) ?_
                        refine nrm ?_
                        have O331 := O325.selD 4 [3] (by kernel_rfl) (by kernel_rfl)
                        exact ⟨c328, _, rfl, (l250.trans (l264.trans (l269.trans (l277.trans (l291.trans (l299.trans (l310.trans (l315.trans (l320.trans l328))))))))), O331, ups_self ⟨rfl, rfl, rfl, rfl, rfl, trivial⟩⟩
                  · skip
                    rintro e_ w_ ⟨c332, g333, rfl, l332, O334, rfl⟩
                    refine nrm ?_
                    refine W.cond (t := d_180) (by kernel_rfl) (fun h338 => ?_) (fun h338 => ?_)
                    · have H113 := it h338 H113
                      refine sr ?_
                      refine va (.bool false) ?_
                      refine wln ?_
                      refine W.ret ?_
                      refine bkr ?_
                      refine thr ?_
                      obtain rfl := Option.some.inj H113
                      refine ⟨_, rfl, ?_⟩
                      refine ⟨rfl, ?_⟩
                      have O339 := O334.selD 1 [] (by kernel_rfl) (by kernel_rfl)
                      exact ⟨c332, _, G245, rfl, (l67.trans (l85.trans (l94.trans (l104.trans (l241.trans l332))))), O339, ups_self ⟨rfl, trivial⟩, (R246.mono l332)⟩
                    · have H113 := ie h338 H113
                      refine W.skip ?_
                      refine bkn ?_
                      refine nrm ?_
                      refine W.region ?_
                      refine va (.int .i64 s_51.2.1) ?_
                      refine va (.int .i64 (w64 (s_51.2.1 + 1))) ?_
                      refine va (.int .i64 (w64 (s_51.2.1 + 1))) ?_
                      refine WL.nil ?_
                      obtain rfl := Option.some.inj H113
                      refine ⟨_, rfl, ?_⟩
                      have O340 := O334.selD 1 [] (by kernel_rfl) (by kernel_rfl)
                      exact ⟨c332, _, v114, G245, rfl, (l67.trans (l85.trans (l94.trans (l104.trans (l241.trans l332))))), O340, ups_self ⟨rfl, rfl, rfl, rfl, trivial⟩, (R246.mono l332), (h244.mono l332)⟩
          · have H := ie h74 H
            refine W.exit ?_
            refine thx ?_
            obtain rfl := Option.some.inj H
            refine ⟨_, rfl, rfl, ?_⟩
            exact ⟨c67, _, v65, G71, rfl, l67, O69, ups_self ⟨rfl, trivial⟩, R72, h70⟩
        · skip
          exact ⟨c60, _, v1, G56, rfl, (Cx.le.refl _), O57, ups_self ⟨rfl, rfl, rfl, rfl, trivial⟩, R58, (h2.mono (l10.trans (l37.trans l60)))⟩
        · skip
          rcases o_51 with o_51 | o_51
          · skip
            intro ex_; revert ex_
            rintro _ e_ w_ ⟨rfl, c341, g342, G344, rfl, l341, O343, rfl, R345⟩
            refine bkr ?_
            refine thr ?_
            obtain rfl := Option.some.inj H64
            exact ret1 (v := .bool o_51.2) rfl (by kernel_rfl) ⟨_, c341, rfl, rfl, (l10.trans (l37.trans (l60.trans l341))), G344, O343, R345, rfl⟩
          · skip
            rintro _ e_ w_ ⟨rfl, c347, g348, v66, G351, rfl, l347, O349, rfl, R352, h350⟩
            refine bke ?_
            refine nrm ?_
            refine W.seq ?_
            obtain ⟨x_201, h354, H64⟩ := bs H64
            obtain ⟨d_204, h355, H64⟩ := bs H64
            obtain ⟨d_209, h356, H64⟩ := bs H64
            refine W.join (fun e w => ∃ (c : Cx) (g : Nat → Value) (v357 : Value) (u358 : List Value) (G_ : Gm), w = c.w ∧ c347.le c ∧ Own c G_ (es true R_api_Line v357 62 u358 x_201 :: F) ∧ e = ups g [(4, .bool d_209.1)] ∧ Rel c d_209.2 G_ ∧ OA R_api_Line c v357 u358 x_201) ?_ ?_
            · clear H64
              refine W.region ?_
              refine va (.agg #[.int .i64 0, .int .i64 0, .int .i64 1, .int .i64 1]) ?_
              refine WL.callP rfl (by kernel_rfl) (c_blit_Take O349 R352 (none : Option Nat) (⟨0, 0, 1, 1⟩ : G_blit_Rect) rfl h354) ?_
              rintro v359 c366 l366 ⟨_, u360, O363, rfl, h361⟩
              refine WL.val0 (v := .int .i64 (x_201.length : Int)) rfl (rx (by kernel_rfl) (run_lenO (ty := 3) Tryd.underlying47 h361 _)) ?_
              refine va (.bool ((x_201.length : Int) == 0)) ?_
              rcases Bool.eq_false_or_eq_true ((x_201.length : Int) == 0) with h368 | h368
              · skip
                have H369 := it h368 h355
                refine vb h368 ?_
                refine wn ?_
                refine va (v66) ?_
                refine wn ?_
                obtain ⟨x_207, h370, H369⟩ := bs H369
                refine WL.callP rfl (by kernel_rfl) (c_blit_Put O363 (R352.mono l366) ((hG.mono (l10.trans (l37.trans (l60.trans (l347.trans l366))))).le (by decide)) (none : Option Nat) 0 0 o_51.1 rfl (h350.mono l366) h370) ?_
                rintro v376 c375 l375 ⟨G371, O372, R373, rfl⟩
                refine wn ?_
                refine va (.bool (x_207.2 == 0)) ?_
                obtain rfl := Option.some.inj H369
                refine va (.bool (x_207.2 == 0)) ?_
                rcases Bool.eq_false_or_eq_true (x_207.2 == 0) with h377 | h377
                · skip
                  have H378 := it h377 h356
                  refine vb h377 ?_
                  refine wn ?_
                  refine va (.agg #[.int .i64 0, .int .i64 0, .int .i64 1, .int .i64 1]) ?_
                  refine wn ?_
                  refine va (.agg #[.int .i64 1, .slice none 0 0]) ?_
                  refine wn ?_
                  obtain ⟨x_213, h379, H378⟩ := bs H378
                  refine WL.callP rfl (by kernel_rfl) (c_blit_Fill O372 R373 ((hG.mono (l10.trans (l37.trans (l60.trans (l347.trans (l366.trans l375)))))).le (by decide)) (none : Option Nat) (⟨0, 0, 1, 1⟩ : G_blit_Rect) (⟨1, ([] : List Int)⟩ : G_api_Item) rfl (Sl.nl _ _) h379) ?_
                  rintro v385 c384 l384 ⟨G380, O381, R382, rfl⟩
                  refine wn ?_
                  refine va (.bool (x_213.2 == 0)) ?_
                  obtain rfl := Option.some.inj H378
                  refine va (.bool (x_213.2 == 0)) ?_
                  refine va (.bool (x_213.2 == 0)) ?_
                  refine wln ?_
                  exact ⟨c384, _, v359, u360, G380, rfl, (l366.trans (l375.trans l384)), O381, ups_self ⟨rfl, trivial⟩, R382, (h361.mono (l375.trans l384))⟩
                · skip
                  obtain rfl := Option.some.inj (ie h377 h356)
                  refine vb h377 ?_
                  refine ps ?_
                  refine ps ?_
                  refine ps ?_
                  refine ps ?_
                  refine va (.bool false) ?_
                  refine va (.bool false) ?_
                  refine wln ?_
                  exact ⟨c375, _, v359, u360, G371, rfl, (l366.trans l375), O372, ups_self ⟨rfl, trivial⟩, R373, (h361.mono l375)⟩
              · skip
                obtain rfl := Option.some.inj (ie h368 h355)
                refine vb h368 ?_
                refine ps ?_
                refine ps ?_
                refine ps ?_
                refine va (.bool false) ?_
                have h386 : false = false := rfl
                obtain rfl := Option.some.inj (ie h386 h356)
                refine vb h386 ?_
                refine ps ?_
                refine ps ?_
                refine ps ?_
                refine ps ?_
                refine va (.bool false) ?_
                refine va (.bool false) ?_
                refine wln ?_
                exact ⟨c366, _, v359, u360, G351, rfl, l366, O363, ups_self ⟨rfl, trivial⟩, (R352.mono l366), h361⟩
            · skip
              rintro e_ w_ ⟨c387, g388, v357, u358, G391, rfl, l387, O389, rfl, R392, h390⟩
              refine nrm ?_
              refine W.ret ?_
              obtain rfl := Option.some.inj H64
              have O394 := O389.selD 1 [] (by kernel_rfl) (by kernel_rfl)
              exact ret1 (v := .bool d_209.1) rfl (by kernel_rfl) ⟨_, c387, rfl, rfl, (l10.trans (l37.trans (l60.trans (l347.trans l387)))), G391, O394, R392, rfl⟩

end Go.Proofs.YtohpkblleihmaaaDoor
