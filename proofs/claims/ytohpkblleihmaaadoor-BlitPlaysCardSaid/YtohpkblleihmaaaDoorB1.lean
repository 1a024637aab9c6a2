import Derived.Test.YtohpkblleihmaaaDoorMx
import Derived.Test.YtohpkblleihmaaaDoorProg
import Derived.Test.YtohpkblleihmaaaDoorMy
import Derived.Test.YtohpkblleihmaaaDoorMz
import Derived.Test.YtohpkblleihmaaaDoorA1
import Derived.Test.YtohpkblleihmaaaDoorG1
import Derived.Test.YtohpkblleihmaaaDoorM1
import Derived.Test.YtohpkblleihmaaaDoorB0
namespace Go.Proofs.YtohpkblleihmaaaDoor
open Go Go.Lt
set_option maxRecDepth 10000
set_option linter.unusedVariables false
attribute [local irreducible] W WL AC
def f_linotypelaw59_BlitBack (sg : Sto) (p0 : List G_api_Line) (p1 : G_blit_Rect) : Option (Sto × Bool) :=
  (f_linotyperef32_Wrong p0).bind fun x_5 =>
  (f_linotypelaw59_works sg).bind fun x_12 =>
  (orE (!x_12.2) (some (decide ((p0.length : Int) > 30)))).bind fun d_14 =>
  (orE d_14 (some ((p0.length : Int) == 0))).bind fun d_19 =>
  (orE d_19 (some (decide (x_5.1 ≥ 0)))).bind fun d_24 =>
  (orE d_24 ((idx p0 0).bind fun x_31 =>
  some (decide ((x_31.Cells.length : Int) > 100)))).bind fun d_28 =>
  if d_28 = true then
  (f_linotypelaw59_works x_12.1).bind fun x_37 =>
  some (x_37.1, x_37.2)
  else
  (f_grid_Of x_12.1 p0).bind fun x_41 =>
  if (!x_41.2.2.isNil) = true then
  some (x_41.1, false)
  else
  (f_blit_Take x_41.1 x_41.2.1 p1).bind fun x_55 =>
  (f_blit_Fill x_41.1 x_41.2.1 p1 (⟨1, ([120] : List Int)⟩ : G_api_Item)).bind fun x_62 =>
  (f_blit_Put x_62.1 x_41.2.1 (imax 0 p1.Row) (imax 0 p1.Col) x_55).bind fun x_72 =>
  (f_grid_Grid_Lines x_72.1 x_41.2.1).bind fun x_75 =>
  (iter (σ := Int) (τ := (Sto × Bool) ⊕ Unit) (((x_75.length : Int) - 0).toNat + 1) (fun s_80 =>
  if (decide (s_80 < (x_75.length : Int))) = true then
  (idx x_75 s_80).bind fun x_88 =>
  (f_linotyperef23_Sound x_88.Cells).bind fun x_91 =>
  if (!x_91) = true then
  some (.inr (.inl (x_72.1, false)))
  else
  some (.inl ((w64 (s_80 + 1))))
  else
  some (.inr (.inr ()))) (0)).bind fun o_80 =>
  match o_80 with
  | .inl o_80 =>
  some o_80
  | .inr o_80 =>
  (f_blit_Take x_72.1 x_41.2.1 p1).bind fun x_102 =>
  (f_linotyperef32_Same x_102 x_55).bind fun x_104 =>
  (andE x_104 (some ((x_75.length : Int) == (p0.length : Int)))).bind fun d_105 =>
  some (x_72.1, d_105)
theorem c_linotypelaw59_BlitBack {c0 : Cx} {G : Gm} {F : List En} {sg : Sto} {v1 : Value} (O0 : Own c0 G F) (R0 : Rel c0 sg G) (hG : Gl [0, 1] c0) (p0 : List G_api_Line) (p1 : G_blit_Rect) {r : Sto × Bool} (h2 : Sl R_api_Line c0 v1 p0) (H : f_linotypelaw59_BlitBack sg p0 p1 = some r) :
    Calls Tryd.prog 12 #[v1, .agg #[.int .i64 p1.Row, .int .i64 p1.Col, .int .i64 p1.Wide, .int .i64 p1.High]] c0.w (Post c0 fun c v => ∃ G_ : Gm, Own c G_ (F) ∧ Rel c r.1 G_ ∧ v = .bool r.2) := by
  unfold f_linotypelaw59_BlitBack at H
  refine enter (l := [v1, .agg #[.int .i64 p1.Row, .int .i64 p1.Col, .int .i64 p1.Wide, .int .i64 p1.High]]) Tryd.func12 rfl rfl rfl ?_
  refine sr ?_
  refine WL.mem rfl (Own.bx (T := 91) (vs := [.int .i64 p1.Row, .int .i64 p1.Col, .int .i64 p1.Wide, .int .i64 p1.High]) O0 (by kernel_rfl)) ?_
  rintro v7 c6 l6 ⟨b3, rfl, O4, m5⟩
  refine va (.bool false) ?_
  refine wln ?_
  refine sr ?_
  refine va (v1) ?_
  obtain ⟨x_5, h8, H⟩ := bs H
  refine WL.callP rfl (by kernel_rfl) (c_linotyperef32_Wrong O4 p0 (h2.mono l6) h8) ?_
  rintro v14 c13 l13 ⟨O10, rfl⟩
  refine va (.tuple #[.int .i64 x_5.1, .int .i64 x_5.2]) ?_
  refine va (.int .i64 x_5.1) ?_
  refine va (.int .i64 x_5.2) ?_
  refine va (.int .i64 x_5.1) ?_
  refine va (.int .i64 x_5.2) ?_
  refine wln ?_
  refine W.seq ?_
  refine W.seq ?_
  obtain ⟨x_12, h15, H⟩ := bs H
  obtain ⟨d_14, h16, H⟩ := bs H
  obtain ⟨d_19, h17, H⟩ := bs H
  obtain ⟨d_24, h18, H⟩ := bs H
  obtain ⟨d_28, h19, H⟩ := bs H
  refine W.join (fun e w => ∃ (c : Cx) (g : Nat → Value) (G_ : Gm), w = c.w ∧ c13.le c ∧ Own c G_ (F) ∧ e = ups g [(0, v1), (3, .pointer (some ⟨b3, 0, none⟩)), (40, .bool d_28)] ∧ Rel c x_12.1 G_) ?_ ?_
  · clear H
    refine W.region ?_
    refine WL.callP rfl (by kernel_rfl) (c_linotypelaw59_works O10 (R0.mono (l6.trans l13)) ((hG.mono (l6.trans l13)).le (by decide)) h15) ?_
    rintro v25 c24 l24 ⟨G20, O21, R22, rfl⟩
    refine va (.bool (!x_12.2)) ?_
    rcases Bool.eq_false_or_eq_true (!x_12.2) with h26 | h26
    · skip
      obtain rfl := orT h26 h16
      refine vb h26 ?_
      refine ps ?_
      refine ps ?_
      refine ps ?_
      refine va (.bool true) ?_
      have h27 : true = true := rfl
      obtain rfl := orT h27 h17
      refine vb h27 ?_
      refine ps ?_
      refine ps ?_
      refine ps ?_
      refine va (.bool true) ?_
      have h28 : true = true := rfl
      obtain rfl := orT h28 h18
      refine vb h28 ?_
      refine ps ?_
      refine ps ?_
      refine va (.bool true) ?_
      have h29 : true = true := rfl
      obtain rfl := orT h29 h19
      refine vb h29 ?_
      refine ps ?_
      refine ps ?_
      refine ps ?_
      refine ps ?_
      refine ps ?_
      refine ps ?_
      refine va (.bool true) ?_
      refine wln ?_
      exact ⟨c24, _, G20, rfl, l24, O21, ups_self ⟨rfl, rfl, rfl, trivial⟩, R22⟩
    · skip
      have H30 := orF h26 h16
      refine vb h26 ?_
      refine wn ?_
      refine va (v1) ?_
      refine wn ?_
      refine WL.val0 (v := .int .i64 (p0.length : Int)) rfl (rx (by kernel_rfl) (run_len (ty := 3) Tryd.underlying47 (h2.mono (l6.trans (l13.trans l24))) _)) ?_
      refine wn ?_
      refine va (.bool (decide ((p0.length : Int) > 30))) ?_
      obtain rfl := Option.some.inj H30
      refine va (.bool (decide ((p0.length : Int) > 30))) ?_
      rcases Bool.eq_false_or_eq_true (decide ((p0.length : Int) > 30)) with h31 | h31
      · skip
        obtain rfl := orT h31 h17
        refine vb h31 ?_
        refine ps ?_
        refine ps ?_
        refine ps ?_
        refine va (.bool true) ?_
        have h32 : true = true := rfl
        obtain rfl := orT h32 h18
        refine vb h32 ?_
        refine ps ?_
        refine ps ?_
        refine va (.bool true) ?_
        have h33 : true = true := rfl
        obtain rfl := orT h33 h19
        refine vb h33 ?_
        refine ps ?_
        refine ps ?_
        refine ps ?_
        refine ps ?_
        refine ps ?_
        refine ps ?_
        refine va (.bool true) ?_
        refine wln ?_
        exact ⟨c24, _, G20, rfl, l24, O21, ups_self ⟨rfl, rfl, rfl, trivial⟩, R22⟩
      · skip
        have H34 := orF h31 h17
        refine vb h31 ?_
        refine wn ?_
        refine va (v1) ?_
        refine wn ?_
        refine WL.val0 (v := .int .i64 (p0.length : Int)) rfl (rx (by kernel_rfl) (run_len (ty := 3) Tryd.underlying47 (h2.mono (l6.trans (l13.trans l24))) _)) ?_
        refine wn ?_
        refine va (.bool ((p0.length : Int) == 0)) ?_
        obtain rfl := Option.some.inj H34
        refine va (.bool ((p0.length : Int) == 0)) ?_
        rcases Bool.eq_false_or_eq_true ((p0.length : Int) == 0) with h35 | h35
        · skip
          obtain rfl := orT h35 h18
          refine vb h35 ?_
          refine ps ?_
          refine ps ?_
          refine va (.bool true) ?_
          have h36 : true = true := rfl
          obtain rfl := orT h36 h19
          refine vb h36 ?_
          refine ps ?_
          refine ps ?_
          refine ps ?_
          refine ps ?_
          refine ps ?_
          refine ps ?_
          refine va (.bool true) ?_
          refine wln ?_
          exact ⟨c24, _, G20, rfl, l24, O21, ups_self ⟨rfl, rfl, rfl, trivial⟩, R22⟩
        · skip
          have H37 := orF h35 h18
          refine vb h35 ?_
          refine wn ?_
          refine va (.int .i64 x_5.1) ?_
          refine wn ?_
          refine va (.bool (decide (x_5.1 ≥ 0))) ?_
          obtain rfl := Option.some.inj H37
          refine va (.bool (decide (x_5.1 ≥ 0))) ?_
          rcases Bool.eq_false_or_eq_true (decide (x_5.1 ≥ 0)) with h38 | h38
          · skip
            obtain rfl := orT h38 h19
            refine vb h38 ?_
            refine ps ?_
            refine ps ?_
            refine ps ?_
            refine ps ?_
            refine ps ?_
            refine ps ?_
            refine va (.bool true) ?_
            refine wln ?_
            exact ⟨c24, _, G20, rfl, l24, O21, ups_self ⟨rfl, rfl, rfl, trivial⟩, R22⟩
          · skip
            have H39 := orF h38 h19
            refine vb h38 ?_
            refine wn ?_
            refine va (v1) ?_
            refine wn ?_
            obtain ⟨x_31, h40, H39⟩ := bs H39
            obtain ⟨l_41, h42, m43⟩ := Sl.at (h2.mono (l6.trans (l13.trans l24))) (idx_get h40)
            obtain ⟨v44, rfl, h45⟩ := h42
            refine WL.val0 (v := .pointer (some ⟨sb v1, so v1 + (0 : Int).toNat * 2, none⟩)) rfl (rx (by kernel_rfl) (run_index (k := .i64) Tryd.underlying47 (by kernel_rfl) (h2.mono (l6.trans (l13.trans l24))) h40 _)) ?_
            refine wn ?_
            refine va (.pointer (some ⟨sb v1, so v1 + (0 : Int).toNat * 2, none⟩)) ?_
            refine wn ?_
            refine WL.val0 (v := v44) rfl (rx (by kernel_rfl) (run_load1 Tryd.underlying22 rfl (m43 0 _ rfl))) ?_
            refine wn ?_
            refine WL.val0 (v := .int .i64 (x_31.Cells.length : Int)) rfl (rx (by kernel_rfl) (run_len (ty := 3) Tryd.underlying22 h45 _)) ?_
            refine wn ?_
            refine va (.bool (decide ((x_31.Cells.length : Int) > 100))) ?_
            obtain rfl := Option.some.inj H39
            refine va (.bool (decide ((x_31.Cells.length : Int) > 100))) ?_
            refine wln ?_
            exact ⟨c24, _, G20, rfl, l24, O21, ups_self ⟨rfl, rfl, rfl, trivial⟩, R22⟩
  · skip
    rintro e_ w_ ⟨c46, g47, G49, rfl, l46, O48, rfl, R50⟩
    refine nrm ?_
    refine W.cond (t := d_28) (by kernel_rfl) (fun h52 => ?_) (fun h52 => ?_)
    · have H := it h52 H
      refine sr ?_
      obtain ⟨x_37, h53, H⟩ := bs H
      refine WL.callP rfl (by kernel_rfl) (c_linotypelaw59_works O48 R50 ((hG.mono (l6.trans (l13.trans l46))).le (by decide)) h53) ?_
      rintro v59 c58 l58 ⟨G54, O55, R56, rfl⟩
      refine va (.bool x_37.2) ?_
      refine wln ?_
      refine W.ret ?_
      refine thr ?_
      obtain rfl := Option.some.inj H
      exact ret1 (v := .bool x_37.2) rfl (by kernel_rfl) ⟨_, c58, rfl, rfl, (l6.trans (l13.trans (l46.trans l58))), G54, O55, R56, rfl⟩
    · have H := ie h52 H
      refine W.skip ?_
      refine nrm ?_
      refine sr ?_
      refine va (v1) ?_
      obtain ⟨x_41, h60, H⟩ := bs H
      refine WL.callP rfl (by kernel_rfl) (c_grid_Of O48 R50 ((hG.mono (l6.trans (l13.trans l46))).le (by decide)) p0 (h2.mono (l6.trans (l13.trans l46))) h60) ?_
      rintro v70 c69 l69 ⟨v61, v63, G65, O66, R67, rfl, h62, h64⟩
      refine va (.tuple #[v61, v63]) ?_
      refine va (v61) ?_
      refine va (v63) ?_
      refine va (v61) ?_
      refine va (v63) ?_
      refine wln ?_
      refine W.seq ?_
      refine sr ?_
      refine va (v63) ?_
      refine WL.val0 (v := .bool (!x_41.2.2.isNil)) rfl (by rcases (h64).cs with ⟨h1_, h2_⟩ | ⟨b_, h1_, h2_⟩ | ⟨b_, h1_, h2_⟩ <;> (subst h1_; rw [h2_]; kernel_rfl)) ?_
      refine wln ?_
      refine W.cond (t := !x_41.2.2.isNil) (by kernel_rfl) (fun h71 => ?_) (fun h71 => ?_)
      · have H := it h71 H
        refine sr ?_
        refine va (.bool false) ?_
        refine wln ?_
        refine W.ret ?_
        refine thr ?_
        obtain rfl := Option.some.inj H
        exact ret1 (v := .bool false) rfl (by kernel_rfl) ⟨_, c69, rfl, rfl, (l6.trans (l13.trans (l46.trans l69))), G65, O66, R67, rfl⟩
      · have H := ie h71 H
        refine W.skip ?_
        refine nrm ?_
        refine sr ?_
        refine va (v61) ?_
        refine WL.val0 (v := .agg #[.int .i64 p1.Row, .int .i64 p1.Col, .int .i64 p1.Wide, .int .i64 p1.High]) rfl (rx (by kernel_rfl) (run_loadN (T := 91) (by kernel_rfl) (by kernel_rfl) (fun j u hu => (m5 j u hu).mono (l13.trans (l46.trans l69))))) ?_
        obtain ⟨x_55, h72, H⟩ := bs H
        refine WL.callP rfl (by kernel_rfl) (c_blit_Take O66 R67 x_41.2.1 p1 h62 h72) ?_
        rintro v73 c80 l80 ⟨_, u74, O77, rfl, h75⟩
        refine va (v73) ?_
        refine wln ?_
        refine sr ?_
        refine va (v61) ?_
        refine WL.val0 (v := .agg #[.int .i64 p1.Row, .int .i64 p1.Col, .int .i64 p1.Wide, .int .i64 p1.High]) rfl (rx (by kernel_rfl) (run_loadN (T := 91) (by kernel_rfl) (by kernel_rfl) (fun j u hu => (m5 j u hu).mono (l13.trans (l46.trans (l69.trans l80)))))) ?_
        refine WL.mem rfl (Own.sl (R := (RI .i32)) (E := 21) (ls := [[.int .i32 120]]) (vs := [.int .i32 120]) (xs := ([120] : List Int)) true O77 (Nat.succ_pos _) rfl ⟨rfl, trivial⟩ (by kernel_rfl) (by kernel_rfl)) ?_
        rintro v86 c85 l85 ⟨u83, O82, h84⟩
        obtain ⟨a87, a88, a89, rfl⟩ := (h84).form
        refine va (.agg #[.int .i64 1, .slice a87 a88 a89]) ?_
        obtain ⟨c92, h93, l92, O90, h91⟩ := O82.frz 0 rfl h84
        refine WL.gh h93 ?_
        obtain ⟨x_62, h94, H⟩ := bs H
        refine WL.callP rfl (by kernel_rfl) (c_blit_Fill O90 (R67.mono (l80.trans (l85.trans l92))) ((hG.mono (l6.trans (l13.trans (l46.trans (l69.trans (l80.trans (l85.trans l92))))))).le (by decide)) x_41.2.1 p1 (⟨1, ([120] : List Int)⟩ : G_api_Item) (h62.mono (l80.trans (l85.trans l92))) h91 h94) ?_
        rintro v100 c99 l99 ⟨G95, O96, R97, rfl⟩
        refine wln ?_
        refine sr ?_
        refine va (v61) ?_
        refine va (.pointer (some ⟨b3, 0, none⟩)) ?_
        refine WL.val0 (v := .int .i64 p1.Row) rfl (rx (by kernel_rfl) (run_load1 Tryd.underlying3 rfl ((fun j u hu => (m5 j u hu).mono (l13.trans (l46.trans (l69.trans (l80.trans (l85.trans (l92.trans l99))))))) 0 _ rfl))) ?_
        refine va (.int .i64 (imax 0 p1.Row)) ?_
        refine va (.pointer (some ⟨b3, 0 + 1, none⟩)) ?_
        refine WL.val0 (v := .int .i64 p1.Col) rfl (rx (by kernel_rfl) (run_load1 Tryd.underlying3 rfl ((fun j u hu => (m5 j u hu).mono (l13.trans (l46.trans (l69.trans (l80.trans (l85.trans (l92.trans l99))))))) 1 _ rfl))) ?_
        refine va (.int .i64 (imax 0 p1.Col)) ?_
        refine va (v73) ?_
        obtain ⟨c103, h104, l103, O101, h102⟩ := O96.frz 1 rfl (h75.mono (l85.trans (l92.trans l99)))
        refine WL.gh h104 ?_
        obtain ⟨x_72, h105, H⟩ := bs H
        refine WL.callP rfl (by kernel_rfl) (c_blit_Put O101 (R97.mono l103) ((hG.mono (l6.trans (l13.trans (l46.trans (l69.trans (l80.trans (l85.trans (l92.trans (l99.trans l103))))))))).le (by decide)) x_41.2.1 (imax 0 p1.Row) (imax 0 p1.Col) x_55 (h62.mono (l80.trans (l85.trans (l92.trans (l99.trans l103))))) h102 h105) ?_
        rintro v111 c110 l110 ⟨G106, O107, R108, rfl⟩
        refine wln ?_
        refine sr ?_
        refine va (v61) ?_
        obtain ⟨x_75, h112, H⟩ := bs H
        refine WL.callP rfl (by kernel_rfl) (c_grid_Grid_Lines O107 R108 x_41.2.1 (h62.mono (l80.trans (l85.trans (l92.trans (l99.trans (l103.trans l110)))))) h112) ?_
        rintro v113 c120 l120 ⟨_, u114, O117, rfl, h115⟩
        refine va (v113) ?_
        refine wln ?_
        refine W.seq ?_
        refine sr ?_
        refine va (.int .i64 0) ?_
        refine wln ?_
        refine W.block ?_
        obtain ⟨o_80, h122, H123⟩ := bs H
        refine W.loop (σ := Int) (τ := (Sto × Bool) ⊕ Unit) (fun s_80 => fun e w => ∃ (c : Cx) (g : Nat → Value), w = c.w ∧ c120.le c ∧ Own c G106 (es true R_api_Line v113 62 u114 x_75 :: es false (RI .i32) (.slice a87 a88 a89) 21 u83 ([120] : List Int) :: es false R_api_Line v73 62 u74 x_55 :: F) ∧ e = ups g [(0, v1), (3, .pointer (some ⟨b3, 0, none⟩)), (7, v61), (9, v73), (10, v113), (11, .int .i64 s_80)]) (fun t => match t with | .inl x_ => (fun rr_ ex e w => ex = .ret ∧ (fun e w => ∃ (c : Cx) (g : Nat → Value) (G_ : Gm), w = c.w ∧ c120.le c ∧ Own c G_ (F) ∧ e = ups g [(4, .bool rr_.2)] ∧ Rel c rr_.1 G_) e w) x_ | .inr x_ => (fun o_80_ ex e w => ex = .exit 0 ∧ (fun e w => ∃ (c : Cx) (g : Nat → Value), w = c.w ∧ c120.le c ∧ Own c G106 (es true R_api_Line v113 62 u114 x_75 :: es false (RI .i32) (.slice a87 a88 a89) 21 u83 ([120] : List Int) :: es false R_api_Line v73 62 u74 x_55 :: F) ∧ e = ups g [(0, v1), (3, .pointer (some ⟨b3, 0, none⟩)), (7, v61), (9, v73), (10, v113)]) e w) x_) ?_ h122 ?_ ?_
        · clear H123 h122
          intro s_80 xx_ ee_ ww_ H
          revert ee_ ww_
          rintro e_ w_ ⟨c124, g125, rfl, l124, O126, rfl⟩
          refine W.seq ?_
          refine sr ?_
          refine va (.int .i64 s_80) ?_
          refine va (v113) ?_
          refine WL.val0 (v := .int .i64 (x_75.length : Int)) rfl (rx (by kernel_rfl) (run_lenO (ty := 3) Tryd.underlying47 (h115.mono l124) _)) ?_
          refine va (.bool (decide (s_80 < (x_75.length : Int)))) ?_
          refine wln ?_
          refine W.cond (t := decide (s_80 < (x_75.length : Int))) (by kernel_rfl) (fun h130 => ?_) (fun h130 => ?_)
          · have H := it h130 H
            refine W.skip ?_
            refine nrm ?_
            refine W.seq ?_
            refine W.block ?_
            refine sr ?_
            refine va (v113) ?_
            refine va (.int .i64 s_80) ?_
            obtain ⟨x_88, h131, H⟩ := bs H
            refine WL.val0 (v := .pointer (some ⟨sb v113, s_80.toNat * 2, none⟩)) rfl (rx (by kernel_rfl) (run_indexO (k := .i64) Tryd.underlying47 (by kernel_rfl) (h115.mono l124) h131 _)) ?_
            refine va (.pointer (some ⟨sb v113, s_80.toNat * 2, none⟩)) ?_
            obtain ⟨l_132, h133, m134⟩ := OA.at (h115.mono l124) h131
            obtain ⟨v135, rfl, h136⟩ := h133
            refine WL.val0 (v := v135) rfl (rx (by kernel_rfl) (ldE1 Tryd.underlying22 rfl (O126.on 0 rfl) ((h115.mono l124).blk h131) (at1 (j := 0) m134 rfl))) ?_
            obtain ⟨x_91, h137, H⟩ := bs H
            refine WL.callP rfl (by kernel_rfl) (c_linotyperef23_Sound O126 x_88.Cells h136 h137) ?_
            rintro v143 c142 l142 ⟨O139, rfl⟩
            refine va (.bool (!x_91)) ?_
            refine wln ?_
            refine W.cond (t := !x_91) (by kernel_rfl) (fun h144 => ?_) (fun h144 => ?_)
            · have H := it h144 H
              refine sr ?_
              refine va (.bool false) ?_
              refine wln ?_
              refine W.ret ?_
              refine bkr ?_
              refine thr ?_
              obtain rfl := Option.some.inj H
              refine ⟨_, rfl, ?_⟩
              refine ⟨rfl, ?_⟩
              have O145 := O139.selD 3 [] (by kernel_rfl) (by kernel_rfl)
              exact ⟨c142, _, G106, rfl, (l124.trans l142), O145, ups_self ⟨rfl, trivial⟩, (R108.mono (l120.trans (l124.trans l142)))⟩
            · have H := ie h144 H
              refine W.skip ?_
              refine bkn ?_
              refine nrm ?_
              refine W.region ?_
              refine va (.int .i64 s_80) ?_
              refine va (.int .i64 (w64 (s_80 + 1))) ?_
              refine va (.int .i64 (w64 (s_80 + 1))) ?_
              refine WL.nil ?_
              obtain rfl := Option.some.inj H
              refine ⟨_, rfl, ?_⟩
              exact ⟨c142, _, rfl, (l124.trans l142), O139, ups_self ⟨rfl, rfl, rfl, rfl, rfl, rfl, trivial⟩⟩
          · have H := ie h130 H
            refine W.exit ?_
            refine thx ?_
            obtain rfl := Option.some.inj H
            refine ⟨_, rfl, rfl, ?_⟩
            exact ⟨c124, _, rfl, l124, O126, ups_self ⟨rfl, rfl, rfl, rfl, rfl, trivial⟩⟩
        · skip
          exact ⟨c120, _, rfl, (Cx.le.refl _), O117, ups_self ⟨rfl, rfl, rfl, rfl, rfl, rfl, trivial⟩⟩
        · skip
          rcases o_80 with o_80 | o_80
          · skip
            intro ex_; revert ex_
            rintro _ e_ w_ ⟨rfl, c146, g147, G149, rfl, l146, O148, rfl, R150⟩
            refine bkr ?_
            refine thr ?_
            obtain rfl := Option.some.inj H123
            exact ret1 (v := .bool o_80.2) rfl (by kernel_rfl) ⟨_, c146, rfl, rfl, (l6.trans (l13.trans (l46.trans (l69.trans (l80.trans (l85.trans (l92.trans (l99.trans (l103.trans (l110.trans (l120.trans l146))))))))))), G149, O148, R150, rfl⟩
          · skip
            rintro _ e_ w_ ⟨rfl, c152, g153, rfl, l152, O154, rfl⟩
            refine bke ?_
            refine nrm ?_
            refine W.seq ?_
            obtain ⟨x_102, h158, H123⟩ := bs H123
            obtain ⟨x_104, h159, H123⟩ := bs H123
            obtain ⟨d_105, h160, H123⟩ := bs H123
            refine W.join (fun e w => ∃ (c : Cx) (g : Nat → Value) (v161 : Value) (u162 : List Value), w = c.w ∧ c152.le c ∧ Own c G106 (es false R_api_Line v161 62 u162 x_102 :: es true R_api_Line v113 62 u114 x_75 :: es false (RI .i32) (.slice a87 a88 a89) 21 u83 ([120] : List Int) :: es false R_api_Line v73 62 u74 x_55 :: F) ∧ e = ups g [(4, .bool d_105)] ∧ OA R_api_Line c v161 u162 x_102) ?_ ?_
            · clear H123
              refine W.region ?_
              refine va (v61) ?_
              refine WL.val0 (v := .agg #[.int .i64 p1.Row, .int .i64 p1.Col, .int .i64 p1.Wide, .int .i64 p1.High]) rfl (rx (by kernel_rfl) (run_loadN (T := 91) (by kernel_rfl) (by kernel_rfl) (fun j u hu => (m5 j u hu).mono (l13.trans (l46.trans (l69.trans (l80.trans (l85.trans (l92.trans (l99.trans (l103.trans (l110.trans (l120.trans l152))))))))))))) ?_
              refine WL.callP rfl (by kernel_rfl) (c_blit_Take O154 (R108.mono (l120.trans l152)) x_41.2.1 p1 (h62.mono (l80.trans (l85.trans (l92.trans (l99.trans (l103.trans (l110.trans (l120.trans l152)))))))) h158) ?_
              rintro v163 c170 l170 ⟨_, u164, O167, rfl, h165⟩
              refine va (v73) ?_
              obtain ⟨c174, h175, l174, O172, h173⟩ := O167.frz 0 rfl h165
              refine WL.gh h175 ?_
              have h176 := O172.slf 3 rfl (h75.mono (l85.trans (l92.trans (l99.trans (l103.trans (l110.trans (l120.trans (l152.trans (l170.trans l174)))))))))
              refine WL.callP rfl (by kernel_rfl) (c_linotyperef32_Same O172 x_102 x_55 h173 h176 h159) ?_
              rintro v182 c181 l181 ⟨O178, rfl⟩
              rcases Bool.eq_false_or_eq_true (x_104) with h183 | h183
              · skip
                have H184 := anT h183 h160
                refine vb h183 ?_
                refine wn ?_
                refine va (v113) ?_
                refine wn ?_
                refine WL.val0 (v := .int .i64 (x_75.length : Int)) rfl (rx (by kernel_rfl) (run_lenO (ty := 3) Tryd.underlying47 (h115.mono (l152.trans (l170.trans (l174.trans l181)))) _)) ?_
                refine wn ?_
                refine va (v1) ?_
                refine wn ?_
                refine WL.val0 (v := .int .i64 (p0.length : Int)) rfl (rx (by kernel_rfl) (run_len (ty := 3) Tryd.underlying47 (h2.mono (l6.trans (l13.trans (l46.trans (l69.trans (l80.trans (l85.trans (l92.trans (l99.trans (l103.trans (l110.trans (l120.trans (l152.trans (l170.trans (l174.trans l181))))))))))))))) _)) ?_
                refine wn ?_
                refine va (.bool ((x_75.length : Int) == (p0.length : Int))) ?_
                obtain rfl := Option.some.inj H184
                refine va (.bool ((x_75.length : Int) == (p0.length : Int))) ?_
                refine va (.bool ((x_75.length : Int) == (p0.length : Int))) ?_
                refine wln ?_
                exact ⟨c181, _, v163, u164, rfl, (l170.trans (l174.trans l181)), O178, ups_self ⟨rfl, trivial⟩, (h165.mono (l174.trans l181))⟩
              · skip
                obtain rfl := anF h183 h160
                refine vb h183 ?_
                refine ps ?_
                refine ps ?_
                refine ps ?_
                refine ps ?_
                refine ps ?_
                refine va (.bool false) ?_
                refine va (.bool false) ?_
                refine wln ?_
                exact ⟨c181, _, v163, u164, rfl, (l170.trans (l174.trans l181)), O178, ups_self ⟨rfl, trivial⟩, (h165.mono (l174.trans l181))⟩
            · skip
              rintro e_ w_ ⟨c185, g186, v161, u162, rfl, l185, O187, rfl, h188⟩
              refine nrm ?_
              refine W.ret ?_
              obtain rfl := Option.some.inj H123
              have O192 := O187.selD 4 [] (by kernel_rfl) (by kernel_rfl)
              exact ret1 (v := .bool d_105) rfl (by kernel_rfl) ⟨_, c185, rfl, rfl, (l6.trans (l13.trans (l46.trans (l69.trans (l80.trans (l85.trans (l92.trans (l99.trans (l103.trans (l110.trans (l120.trans (l152.trans l185)))))))))))), G106, O192, (R108.mono (l120.trans (l152.trans l185))), rfl⟩

end Go.Proofs.YtohpkblleihmaaaDoor
