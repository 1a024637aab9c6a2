import Derived.Test.YtohpkblleihmaaaDoorMx
import Derived.Test.YtohpkblleihmaaaDoorProg
import Derived.Test.YtohpkblleihmaaaDoorMy
import Derived.Test.YtohpkblleihmaaaDoorMz
import Derived.Test.YtohpkblleihmaaaDoorMi
import Derived.Test.YtohpkblleihmaaaDoorA1
namespace Go.Proofs.YtohpkblleihmaaaDoor
open Go Go.Lt
set_option maxRecDepth 10000
set_option linter.unusedVariables false
attribute [local irreducible] W WL AC
def f_linotypelaw24_works (sg : Sto) : Option (Sto × Bool) :=
  (f_row_New sg 3).bind fun x_3 =>
  (if x_3.2.isNone = true then some (true, x_3.1) else (f_row_Row_Paint x_3.1 x_3.2 0 ([(⟨2, ([19968] : List Int)⟩ : G_api_Cell), (⟨3, ([] : List Int)⟩ : G_api_Cell)] : List G_api_Cell)).bind fun x_15 =>
  some (!x_15.2.isNil, x_15.1)).bind fun d_8 =>
  (if d_8.1 = true then some (true, d_8.2) else (f_row_Row_Paint d_8.2 x_3.2 1 ([(⟨1, ([97] : List Int)⟩ : G_api_Cell)] : List G_api_Cell)).bind fun x_23 =>
  some (!x_23.2.isNil, x_23.1)).bind fun d_17 =>
  if d_17.1 = true then
  some (d_17.2, false)
  else
  (f_row_Row_Cell d_17.2 x_3.2 0).bind fun x_29 =>
  (andE x_29.2 (some (x_29.1.Kind == 0))).bind fun d_38 =>
  (andE d_38 ((f_row_Row_Wide d_17.2 x_3.2).bind fun x_46 =>
  some (x_46 == 3))).bind fun d_43 =>
  (andE d_43 ((f_row_Row_Cells d_17.2 x_3.2).bind fun x_51 =>
  some ((x_51.length : Int) == 3))).bind fun d_48 =>
  some (d_17.2, d_48)
theorem c_linotypelaw24_works {c0 : Cx} {G : Gm} {F : List En} {sg : Sto} (O0 : Own c0 G F) (R0 : Rel c0 sg G) (hG : Gl [0, 1] c0) {r : Sto × Bool} (H : f_linotypelaw24_works sg = some r) :
    Calls Tryd.prog 22 #[] c0.w (Post c0 fun c v => ∃ G_ : Gm, Own c G_ (F) ∧ Rel c r.1 G_ ∧ v = .bool r.2) := by
  unfold f_linotypelaw24_works at H
  refine enter (l := []) Tryd.func22 rfl rfl rfl ?_
  refine sr ?_
  refine va (.bool false) ?_
  refine wln ?_
  refine sr ?_
  obtain ⟨x_3, h1, H⟩ := bs H
  refine WL.callP rfl (by kernel_rfl) (c_row_New O0 R0 3 h1) ?_
  rintro v2 c8 l8 ⟨_, G4, O5, R6, a7, rfl, h3⟩
  refine va (v2) ?_
  refine wln ?_
  refine W.seq ?_
  refine W.seq ?_
  obtain ⟨d_8, h10, H⟩ := bs H
  obtain ⟨d_17, h11, H⟩ := bs H
  refine W.join (fun e w => ∃ (c : Cx) (g : Nat → Value) (G_ : Gm), w = c.w ∧ c8.le c ∧ Own c G_ (F) ∧ e = ups g [(1, v2), (23, .bool d_17.1)] ∧ Rel c d_17.2 G_) ?_ ?_
  · clear H
    refine W.region ?_
    refine va (v2) ?_
    refine WL.val0 (v := .bool x_3.2.isNone) rfl (by rcases (h3).cs with ⟨h1_, h2_⟩ | ⟨b_, h1_, h2_⟩ <;> (subst h1_; rw [h2_]; kernel_rfl)) ?_
    rcases Bool.eq_false_or_eq_true (x_3.2.isNone) with h12 | h12
    · skip
      obtain rfl := Option.some.inj (it h12 h10)
      refine vb h12 ?_
      refine ps ?_
      refine ps ?_
      refine ps ?_
      refine ps ?_
      refine ps ?_
      refine ps ?_
      refine ps ?_
      refine va (.bool true) ?_
      have h13 : true = true := rfl
      obtain rfl := Option.some.inj (it h13 h11)
      refine vb h13 ?_
      refine ps ?_
      refine ps ?_
      refine ps ?_
      refine ps ?_
      refine ps ?_
      refine ps ?_
      refine va (.bool true) ?_
      refine wln ?_
      exact ⟨c8, _, G4, rfl, (Cx.le.refl _), O5, ups_self ⟨rfl, rfl, trivial⟩, R6⟩
    · skip
      have H14 := ie h12 h10
      refine vb h12 ?_
      refine wn ?_
      refine va (v2) ?_
      refine wn ?_
      refine WL.mem rfl (Own.sl (R := (RI .i32)) (E := 21) (ls := [[.int .i32 19968]]) (vs := [.int .i32 19968]) (xs := ([19968] : List Int)) true O5 (Nat.succ_pos _) rfl ⟨rfl, trivial⟩ (by kernel_rfl) (by kernel_rfl)) ?_
      rintro v19 c18 l18 ⟨u16, O15, h17⟩
      refine wn ?_
      obtain ⟨a20, a21, a22, rfl⟩ := (h17).form
      refine va (.agg #[.int .i64 2, .slice a20 a21 a22]) ?_
      refine wn ?_
      refine va (.agg #[.int .i64 3, .slice none 0 0]) ?_
      refine wn ?_
      obtain ⟨c25, h26, l25, O23, h24⟩ := O15.frz 0 rfl h17
      refine WL.gh h26 ?_
      refine WL.mem rfl (Own.sl (R := R_api_Cell) (E := 27) (ls := [[.int .i64 2, .slice a20 a21 a22], [.int .i64 3, .slice none 0 0]]) (vs := [.int .i64 2, .slice a20 a21 a22, .int .i64 3, .slice none 0 0]) (xs := ([(⟨2, ([19968] : List Int)⟩ : G_api_Cell), (⟨3, ([] : List Int)⟩ : G_api_Cell)] : List G_api_Cell)) true O23 (Nat.succ_pos _) rfl ⟨⟨(.slice a20 a21 a22), rfl, h24⟩, ⟨(.slice none 0 0), rfl, (Sl.nl _ _)⟩, trivial⟩ (by kernel_rfl) (by kernel_rfl)) ?_
      rintro v31 c30 l30 ⟨u28, O27, h29⟩
      refine wn ?_
      obtain ⟨c34, h35, l34, O32, h33⟩ := O27.frz 0 rfl h29
      refine WL.gh h35 ?_
      obtain ⟨x_15, h36, H14⟩ := bs H14
      refine WL.callP rfl (by kernel_rfl) (c_row_Row_Paint O32 (R6.mono (l18.trans (l25.trans (l30.trans l34)))) ((hG.mono (l8.trans (l18.trans (l25.trans (l30.trans l34))))).le (by decide)) x_3.2 0 ([(⟨2, ([19968] : List Int)⟩ : G_api_Cell), (⟨3, ([] : List Int)⟩ : G_api_Cell)] : List G_api_Cell) (h3.mono (l18.trans (l25.trans (l30.trans l34)))) h33 h36) ?_
      rintro v37 c43 l43 ⟨_, G39, O40, R41, rfl, h38⟩
      refine wn ?_
      refine WL.val0 (v := .bool (!x_15.2.isNil)) rfl (by rcases (h38).cs with ⟨h1_, h2_⟩ | ⟨b_, h1_, h2_⟩ | ⟨b_, h1_, h2_⟩ <;> (subst h1_; rw [h2_]; kernel_rfl)) ?_
      obtain rfl := Option.some.inj H14
      refine va (.bool (!x_15.2.isNil)) ?_
      rcases Bool.eq_false_or_eq_true (!x_15.2.isNil) with h45 | h45
      · skip
        obtain rfl := Option.some.inj (it h45 h11)
        refine vb h45 ?_
        refine ps ?_
        refine ps ?_
        refine ps ?_
        refine ps ?_
        refine ps ?_
        refine ps ?_
        refine va (.bool true) ?_
        refine wln ?_
        have O46 := O40.selD 2 [] (by kernel_rfl) (by kernel_rfl)
        exact ⟨c43, _, G39, rfl, (l18.trans (l25.trans (l30.trans (l34.trans l43)))), O46, ups_self ⟨rfl, rfl, trivial⟩, R41⟩
      · skip
        have H47 := ie h45 h11
        refine vb h45 ?_
        refine wn ?_
        refine va (v2) ?_
        refine wn ?_
        refine WL.mem rfl (Own.sl (R := (RI .i32)) (E := 21) (ls := [[.int .i32 97]]) (vs := [.int .i32 97]) (xs := ([97] : List Int)) true O40 (Nat.succ_pos _) rfl ⟨rfl, trivial⟩ (by kernel_rfl) (by kernel_rfl)) ?_
        rintro v52 c51 l51 ⟨u49, O48, h50⟩
        refine wn ?_
        obtain ⟨a53, a54, a55, rfl⟩ := (h50).form
        refine va (.agg #[.int .i64 1, .slice a53 a54 a55]) ?_
        refine wn ?_
        obtain ⟨c58, h59, l58, O56, h57⟩ := O48.frz 0 rfl h50
        refine WL.gh h59 ?_
        refine WL.mem rfl (Own.sl (R := R_api_Cell) (E := 27) (ls := [[.int .i64 1, .slice a53 a54 a55]]) (vs := [.int .i64 1, .slice a53 a54 a55]) (xs := ([(⟨1, ([97] : List Int)⟩ : G_api_Cell)] : List G_api_Cell)) true O56 (Nat.succ_pos _) rfl ⟨⟨(.slice a53 a54 a55), rfl, h57⟩, trivial⟩ (by kernel_rfl) (by kernel_rfl)) ?_
        rintro v64 c63 l63 ⟨u61, O60, h62⟩
        refine wn ?_
        obtain ⟨c67, h68, l67, O65, h66⟩ := O60.frz 0 rfl h62
        refine WL.gh h68 ?_
        obtain ⟨x_23, h69, H47⟩ := bs H47
        refine WL.callP rfl (by kernel_rfl) (c_row_Row_Paint O65 (R41.mono (l51.trans (l58.trans (l63.trans l67)))) ((hG.mono (l8.trans (l18.trans (l25.trans (l30.trans (l34.trans (l43.trans (l51.trans (l58.trans (l63.trans l67)))))))))).le (by decide)) x_3.2 1 ([(⟨1, ([97] : List Int)⟩ : G_api_Cell)] : List G_api_Cell) (h3.mono (l18.trans (l25.trans (l30.trans (l34.trans (l43.trans (l51.trans (l58.trans (l63.trans l67))))))))) h66 h69) ?_
        rintro v70 c76 l76 ⟨_, G72, O73, R74, rfl, h71⟩
        refine wn ?_
        refine WL.val0 (v := .bool (!x_23.2.isNil)) rfl (by rcases (h71).cs with ⟨h1_, h2_⟩ | ⟨b_, h1_, h2_⟩ | ⟨b_, h1_, h2_⟩ <;> (subst h1_; rw [h2_]; kernel_rfl)) ?_
        obtain rfl := Option.some.inj H47
        refine va (.bool (!x_23.2.isNil)) ?_
        refine wln ?_
        have O78 := O73.selD 4 [] (by kernel_rfl) (by kernel_rfl)
        exact ⟨c76, _, G72, rfl, (l18.trans (l25.trans (l30.trans (l34.trans (l43.trans (l51.trans (l58.trans (l63.trans (l67.trans l76))))))))), O78, ups_self ⟨rfl, rfl, trivial⟩, R74⟩
  · skip
    rintro e_ w_ ⟨c79, g80, G82, rfl, l79, O81, rfl, R83⟩
    refine nrm ?_
    refine W.cond (t := d_17.1) (by kernel_rfl) (fun h85 => ?_) (fun h85 => ?_)
    · have H := it h85 H
      refine sr ?_
      refine va (.bool false) ?_
      refine wln ?_
      refine W.ret ?_
      refine thr ?_
      obtain rfl := Option.some.inj H
      exact ret1 (v := .bool false) rfl (by kernel_rfl) ⟨_, c79, rfl, rfl, (l8.trans l79), G82, O81, R83, rfl⟩
    · have H := ie h85 H
      refine W.skip ?_
      refine nrm ?_
      refine sr ?_
      refine va (v2) ?_
      obtain ⟨x_29, h86, H⟩ := bs H
      refine WL.callP rfl (by kernel_rfl) (c_row_Row_Cell O81 R83 x_3.2 0 (h3.mono l79) h86) ?_
      rintro v95 c94 l94 ⟨v87, u88, O91, rfl, h89⟩
      refine va (.tuple #[.agg #[.int .i64 x_29.1.Kind, v87], .bool x_29.2]) ?_
      refine va (.agg #[.int .i64 x_29.1.Kind, v87]) ?_
      refine va (.bool x_29.2) ?_
      refine WL.mem rfl (Own.al (T := 27) (vs := [.int .i64 0, .slice none 0 0]) O91 (by kernel_rfl)) ?_
      rintro v99 c98 l98 ⟨b96, rfl, O97⟩
      obtain ⟨a100, a101, a102, rfl⟩ := ((h89.mono l98)).form
      refine WL.memD rfl (Own.st (T := 27) (j := 0) (us := [.int .i64 x_29.1.Kind, .slice a100 a101 a102]) (nw := [.int .i64 x_29.1.Kind, .slice a100 a101 a102]) (v := .agg #[.int .i64 x_29.1.Kind, .slice a100 a101 a102]) 0 O97 (by kernel_rfl) rfl rfl rfl rfl (by kernel_rfl) ⟨rfl, ((h89.mono l98)).one, trivial⟩ rfl rfl) ?_
      rintro c104 l104 O103
      refine va (.bool x_29.2) ?_
      refine wln ?_
      refine W.seq ?_
      obtain ⟨d_38, h105, H⟩ := bs H
      obtain ⟨d_43, h106, H⟩ := bs H
      obtain ⟨d_48, h107, H⟩ := bs H
      refine W.join (fun e w => ∃ (c : Cx) (g : Nat → Value), w = c.w ∧ c104.le c ∧ Own c G82 (⟨.pointer (some ⟨b96, 0, none⟩), 27, [.int .i64 x_29.1.Kind, .slice a100 a101 a102], 0⟩ :: es true (RI .i32) (.slice a100 a101 a102) 21 u88 x_29.1.Text :: F) ∧ e = ups g [(0, .bool d_48)]) ?_ ?_
      · clear H
        refine W.region ?_
        refine va (.bool x_29.2) ?_
        rcases Bool.eq_false_or_eq_true (x_29.2) with h108 | h108
        · skip
          have H109 := anT h108 h105
          refine vb h108 ?_
          refine wn ?_
          refine va (.pointer (some ⟨b96, 0, none⟩)) ?_
          refine wn ?_
          refine WL.val0 (v := .int .i64 x_29.1.Kind) rfl (rx (by kernel_rfl) (ldE1 (j := 0) Tryd.underlying3 rfl (O103.on 0 rfl) rfl rfl)) ?_
          refine wn ?_
          refine va (.bool (x_29.1.Kind == 0)) ?_
          obtain rfl := Option.some.inj H109
          refine va (.bool (x_29.1.Kind == 0)) ?_
          rcases Bool.eq_false_or_eq_true (x_29.1.Kind == 0) with h110 | h110
          · skip
            have H111 := anT h110 h106
            refine vb h110 ?_
            refine wn ?_
            refine va (v2) ?_
            refine wn ?_
            obtain ⟨x_46, h112, H111⟩ := bs H111
            refine WL.callP rfl (by kernel_rfl) (c_row_Row_Wide O103 (R83.mono (l94.trans (l98.trans l104))) x_3.2 (h3.mono (l79.trans (l94.trans (l98.trans l104)))) h112) ?_
            rintro v118 c117 l117 ⟨O114, rfl⟩
            refine wn ?_
            refine va (.bool (x_46 == 3)) ?_
            obtain rfl := Option.some.inj H111
            refine va (.bool (x_46 == 3)) ?_
            rcases Bool.eq_false_or_eq_true (x_46 == 3) with h119 | h119
            · skip
              have H120 := anT h119 h107
              refine vb h119 ?_
              refine wn ?_
              refine va (v2) ?_
              refine wn ?_
              obtain ⟨x_51, h121, H120⟩ := bs H120
              refine WL.callP rfl (by kernel_rfl) (c_row_Row_Cells O114 (R83.mono (l94.trans (l98.trans (l104.trans l117)))) x_3.2 (h3.mono (l79.trans (l94.trans (l98.trans (l104.trans l117))))) h121) ?_
              rintro v122 c129 l129 ⟨_, u123, O126, rfl, h124⟩
              refine wn ?_
              refine WL.val0 (v := .int .i64 (x_51.length : Int)) rfl (rx (by kernel_rfl) (run_lenO (ty := 3) Tryd.underlying22 h124 _)) ?_
              refine wn ?_
              refine va (.bool ((x_51.length : Int) == 3)) ?_
              obtain rfl := Option.some.inj H120
              refine va (.bool ((x_51.length : Int) == 3)) ?_
              refine va (.bool ((x_51.length : Int) == 3)) ?_
              refine wln ?_
              have O131 := O126.selD 3 [1, 2] (by kernel_rfl) (by kernel_rfl)
              exact ⟨c129, _, rfl, (l117.trans l129), O131, ups_self ⟨rfl, trivial⟩⟩
            · skip
              obtain rfl := anF h119 h107
              refine vb h119 ?_
              refine ps ?_
              refine ps ?_
              refine ps ?_
              refine ps ?_
              refine va (.bool false) ?_
              refine va (.bool false) ?_
              refine wln ?_
              exact ⟨c117, _, rfl, l117, O114, ups_self ⟨rfl, trivial⟩⟩
          · skip
            obtain rfl := anF h110 h106
            refine vb h110 ?_
            refine ps ?_
            refine ps ?_
            refine ps ?_
            refine va (.bool false) ?_
            have h132 : false = false := rfl
            obtain rfl := anF h132 h107
            refine vb h132 ?_
            refine ps ?_
            refine ps ?_
            refine ps ?_
            refine ps ?_
            refine va (.bool false) ?_
            refine va (.bool false) ?_
            refine wln ?_
            exact ⟨c104, _, rfl, (Cx.le.refl _), O103, ups_self ⟨rfl, trivial⟩⟩
        · skip
          obtain rfl := anF h108 h105
          refine vb h108 ?_
          refine ps ?_
          refine ps ?_
          refine ps ?_
          refine va (.bool false) ?_
          have h133 : false = false := rfl
          obtain rfl := anF h133 h106
          refine vb h133 ?_
          refine ps ?_
          refine ps ?_
          refine ps ?_
          refine va (.bool false) ?_
          have h134 : false = false := rfl
          obtain rfl := anF h134 h107
          refine vb h134 ?_
          refine ps ?_
          refine ps ?_
          refine ps ?_
          refine ps ?_
          refine va (.bool false) ?_
          refine va (.bool false) ?_
          refine wln ?_
          exact ⟨c104, _, rfl, (Cx.le.refl _), O103, ups_self ⟨rfl, trivial⟩⟩
      · skip
        rintro e_ w_ ⟨c135, g136, rfl, l135, O137, rfl⟩
        refine nrm ?_
        refine W.ret ?_
        obtain rfl := Option.some.inj H
        have O141 := O137.selD 2 [] (by kernel_rfl) (by kernel_rfl)
        exact ret1 (v := .bool d_48) rfl (by kernel_rfl) ⟨_, c135, rfl, rfl, (l8.trans (l79.trans (l94.trans (l98.trans (l104.trans l135))))), G82, O141, (R83.mono (l94.trans (l98.trans (l104.trans l135)))), rfl⟩

def f_api_Code (p0 : Er) : Option (Int) :=
  if p0.isNil = true then
  some 0
  else
  (f_errors_Is p0 (Er.sent 2)).bind fun x_11 =>
  if x_11 = true then
  some 1
  else
  (f_errors_Is p0 (Er.sent 3)).bind fun x_18 =>
  if x_18 = true then
  some 2
  else
  (f_errors_Is p0 (Er.sent 0)).bind fun x_25 =>
  if x_25 = true then
  some 3
  else
  (f_errors_Is p0 (Er.sent 4)).bind fun x_32 =>
  if x_32 = true then
  some 4
  else
  (f_errors_Is p0 (Er.sent 1)).bind fun x_39 =>
  if x_39 = true then
  some 5
  else
  (f_errors_Is p0 (Er.sent 5)).bind fun x_46 =>
  if x_46 = true then
  some 6
  else
  (f_errors_Is p0 (Er.sent 6)).bind fun x_53 =>
  if x_53 = true then
  some 7
  else
  (f_errors_Is p0 (Er.sent 7)).bind fun x_60 =>
  if x_60 = true then
  some 8
  else
  some 9
theorem c_api_Code {c0 : Cx} {G : Gm} {F : List En} {v1 : Value} (O0 : Own c0 G F) (hG : Gl [0, 1, 2, 3, 4, 5, 6, 7] c0) (p0 : Er) {r : Int} (h2 : RE 252 217 c0 v1 p0) (H : f_api_Code p0 = some r) :
    Calls Tryd.prog 48 #[v1] c0.w (Post c0 fun c v => Own c G (F) ∧ v = .int .i64 r) := by
  unfold f_api_Code at H
  refine enter (l := [v1]) Tryd.func48 rfl rfl rfl ?_
  refine sr ?_
  refine va (.int .i64 0) ?_
  refine wln ?_
  refine W.seq ?_
  refine W.block ?_
  refine sr ?_
  refine va (v1) ?_
  refine WL.val0 (v := .bool p0.isNil) rfl (by rcases (h2).cs with ⟨h1_, h2_⟩ | ⟨b_, h1_, h2_⟩ | ⟨b_, h1_, h2_⟩ <;> (subst h1_; rw [h2_]; kernel_rfl)) ?_
  refine va (.bool p0.isNil) ?_
  refine wln ?_
  refine W.cond (t := p0.isNil) (by kernel_rfl) (fun h3 => ?_) (fun h3 => ?_)
  · have H := it h3 H
    refine sr ?_
    refine va (.int .i64 0) ?_
    refine wln ?_
    refine W.ret ?_
    refine bkr ?_
    refine thr ?_
    obtain rfl := Option.some.inj H
    exact ret1 (v := .int .i64 0) rfl (by kernel_rfl) ⟨_, c0, rfl, rfl, Cx.le.refl _, O0, rfl⟩
  · have H := ie h3 H
    refine sr ?_
    refine va (v1) ?_
    obtain ⟨v4, h5⟩ := hG.get 2 (by decide)
    refine WL.val0 (v := v4) rfl (rx (by kernel_rfl) (run_load1 Tryd.underlying30 rfl h5.im)) ?_
    obtain ⟨x_11, h6, H⟩ := bs H
    refine WL.callP rfl (by kernel_rfl) (c_errors_Is O0 (hG.le (by decide)) p0 (Er.sent 2) h2 h5 h6) ?_
    rintro v12 c11 l11 ⟨O8, rfl⟩
    refine va (.bool x_11) ?_
    refine wln ?_
    refine W.cond (t := x_11) (by kernel_rfl) (fun h13 => ?_) (fun h13 => ?_)
    · have H := it h13 H
      refine sr ?_
      refine va (.int .i64 1) ?_
      refine wln ?_
      refine W.ret ?_
      refine bkr ?_
      refine thr ?_
      obtain rfl := Option.some.inj H
      exact ret1 (v := .int .i64 1) rfl (by kernel_rfl) ⟨_, c11, rfl, rfl, l11, O8, rfl⟩
    · have H := ie h13 H
      refine sr ?_
      refine va (v1) ?_
      obtain ⟨v14, h15⟩ := (hG.mono l11).get 3 (by decide)
      refine WL.val0 (v := v14) rfl (rx (by kernel_rfl) (run_load1 Tryd.underlying30 rfl h15.im)) ?_
      obtain ⟨x_18, h16, H⟩ := bs H
      refine WL.callP rfl (by kernel_rfl) (c_errors_Is O8 ((hG.mono l11).le (by decide)) p0 (Er.sent 3) (h2.mono l11) h15 h16) ?_
      rintro v22 c21 l21 ⟨O18, rfl⟩
      refine va (.bool x_18) ?_
      refine wln ?_
      refine W.cond (t := x_18) (by kernel_rfl) (fun h23 => ?_) (fun h23 => ?_)
      · have H := it h23 H
        refine sr ?_
        refine va (.int .i64 2) ?_
        refine wln ?_
        refine W.ret ?_
        refine bkr ?_
        refine thr ?_
        obtain rfl := Option.some.inj H
        exact ret1 (v := .int .i64 2) rfl (by kernel_rfl) ⟨_, c21, rfl, rfl, (l11.trans l21), O18, rfl⟩
      · have H := ie h23 H
        refine sr ?_
        refine va (v1) ?_
        obtain ⟨v24, h25⟩ := (hG.mono (l11.trans l21)).get 0 (by decide)
        refine WL.val0 (v := v24) rfl (rx (by kernel_rfl) (run_load1 Tryd.underlying30 rfl h25.im)) ?_
        obtain ⟨x_25, h26, H⟩ := bs H
        refine WL.callP rfl (by kernel_rfl) (c_errors_Is O18 ((hG.mono (l11.trans l21)).le (by decide)) p0 (Er.sent 0) (h2.mono (l11.trans l21)) h25 h26) ?_
        rintro v32 c31 l31 ⟨O28, rfl⟩
        refine va (.bool x_25) ?_
        refine wln ?_
        refine W.cond (t := x_25) (by kernel_rfl) (fun h33 => ?_) (fun h33 => ?_)
        · have H := it h33 H
          refine sr ?_
          refine va (.int .i64 3) ?_
          refine wln ?_
          refine W.ret ?_
          refine bkr ?_
          refine thr ?_
          obtain rfl := Option.some.inj H
          exact ret1 (v := .int .i64 3) rfl (by kernel_rfl) ⟨_, c31, rfl, rfl, (l11.trans (l21.trans l31)), O28, rfl⟩
        · have H := ie h33 H
          refine sr ?_
          refine va (v1) ?_
          obtain ⟨v34, h35⟩ := (hG.mono (l11.trans (l21.trans l31))).get 4 (by decide)
          refine WL.val0 (v := v34) rfl (rx (by kernel_rfl) (run_load1 Tryd.underlying30 rfl h35.im)) ?_
          obtain ⟨x_32, h36, H⟩ := bs H
          refine WL.callP rfl (by kernel_rfl) (c_errors_Is O28 ((hG.mono (l11.trans (l21.trans l31))).le (by decide)) p0 (Er.sent 4) (h2.mono (l11.trans (l21.trans l31))) h35 h36) ?_
          rintro v42 c41 l41 ⟨O38, rfl⟩
          refine va (.bool x_32) ?_
          refine wln ?_
          refine W.cond (t := x_32) (by kernel_rfl) (fun h43 => ?_) (fun h43 => ?_)
          · have H := it h43 H
            refine sr ?_
            refine va (.int .i64 4) ?_
            refine wln ?_
            refine W.ret ?_
            refine bkr ?_
            refine thr ?_
            obtain rfl := Option.some.inj H
            exact ret1 (v := .int .i64 4) rfl (by kernel_rfl) ⟨_, c41, rfl, rfl, (l11.trans (l21.trans (l31.trans l41))), O38, rfl⟩
          · have H := ie h43 H
            refine sr ?_
            refine va (v1) ?_
            obtain ⟨v44, h45⟩ := (hG.mono (l11.trans (l21.trans (l31.trans l41)))).get 1 (by decide)
            refine WL.val0 (v := v44) rfl (rx (by kernel_rfl) (run_load1 Tryd.underlying30 rfl h45.im)) ?_
            obtain ⟨x_39, h46, H⟩ := bs H
            refine WL.callP rfl (by kernel_rfl) (c_errors_Is O38 ((hG.mono (l11.trans (l21.trans (l31.trans l41)))).le (by decide)) p0 (Er.sent 1) (h2.mono (l11.trans (l21.trans (l31.trans l41)))) h45 h46) ?_
            rintro v52 c51 l51 ⟨O48, rfl⟩
            refine va (.bool x_39) ?_
            refine wln ?_
            refine W.cond (t := x_39) (by kernel_rfl) (fun h53 => ?_) (fun h53 => ?_)
            · have H := it h53 H
              refine sr ?_
              refine va (.int .i64 5) ?_
              refine wln ?_
              refine W.ret ?_
              refine bkr ?_
              refine thr ?_
              obtain rfl := Option.some.inj H
              exact ret1 (v := .int .i64 5) rfl (by kernel_rfl) ⟨_, c51, rfl, rfl, (l11.trans (l21.trans (l31.trans (l41.trans l51)))), O48, rfl⟩
            · have H := ie h53 H
              refine sr ?_
              refine va (v1) ?_
              obtain ⟨v54, h55⟩ := (hG.mono (l11.trans (l21.trans (l31.trans (l41.trans l51))))).get 5 (by decide)
              refine WL.val0 (v := v54) rfl (rx (by kernel_rfl) (run_load1 Tryd.underlying30 rfl h55.im)) ?_
              obtain ⟨x_46, h56, H⟩ := bs H
              refine WL.callP rfl (by kernel_rfl) (c_errors_Is O48 ((hG.mono (l11.trans (l21.trans (l31.trans (l41.trans l51))))).le (by decide)) p0 (Er.sent 5) (h2.mono (l11.trans (l21.trans (l31.trans (l41.trans l51))))) h55 h56) ?_
              rintro v62 c61 l61 ⟨O58, rfl⟩
              refine va (.bool x_46) ?_
              refine wln ?_
              refine W.cond (t := x_46) (by kernel_rfl) (fun h63 => ?_) (fun h63 => ?_)
              · have H := it h63 H
                refine sr ?_
                refine va (.int .i64 6) ?_
                refine wln ?_
                refine W.ret ?_
                refine bkr ?_
                refine thr ?_
                obtain rfl := Option.some.inj H
                exact ret1 (v := .int .i64 6) rfl (by kernel_rfl) ⟨_, c61, rfl, rfl, (l11.trans (l21.trans (l31.trans (l41.trans (l51.trans l61))))), O58, rfl⟩
              · have H := ie h63 H
                refine sr ?_
                refine va (v1) ?_
                obtain ⟨v64, h65⟩ := (hG.mono (l11.trans (l21.trans (l31.trans (l41.trans (l51.trans l61)))))).get 6 (by decide)
                refine WL.val0 (v := v64) rfl (rx (by kernel_rfl) (run_load1 Tryd.underlying30 rfl h65.im)) ?_
                obtain ⟨x_53, h66, H⟩ := bs H
                refine WL.callP rfl (by kernel_rfl) (c_errors_Is O58 ((hG.mono (l11.trans (l21.trans (l31.trans (l41.trans (l51.trans l61)))))).le (by decide)) p0 (Er.sent 6) (h2.mono (l11.trans (l21.trans (l31.trans (l41.trans (l51.trans l61)))))) h65 h66) ?_
                rintro v72 c71 l71 ⟨O68, rfl⟩
                refine va (.bool x_53) ?_
                refine wln ?_
                refine W.cond (t := x_53) (by kernel_rfl) (fun h73 => ?_) (fun h73 => ?_)
                · have H := it h73 H
                  refine sr ?_
                  refine va (.int .i64 7) ?_
                  refine wln ?_
                  refine W.ret ?_
                  refine bkr ?_
                  refine thr ?_
                  obtain rfl := Option.some.inj H
                  exact ret1 (v := .int .i64 7) rfl (by kernel_rfl) ⟨_, c71, rfl, rfl, (l11.trans (l21.trans (l31.trans (l41.trans (l51.trans (l61.trans l71)))))), O68, rfl⟩
                · have H := ie h73 H
                  refine sr ?_
                  refine va (v1) ?_
                  obtain ⟨v74, h75⟩ := (hG.mono (l11.trans (l21.trans (l31.trans (l41.trans (l51.trans (l61.trans l71))))))).get 7 (by decide)
                  refine WL.val0 (v := v74) rfl (rx (by kernel_rfl) (run_load1 Tryd.underlying30 rfl h75.im)) ?_
                  obtain ⟨x_60, h76, H⟩ := bs H
                  refine WL.callP rfl (by kernel_rfl) (c_errors_Is O68 ((hG.mono (l11.trans (l21.trans (l31.trans (l41.trans (l51.trans (l61.trans l71))))))).le (by decide)) p0 (Er.sent 7) (h2.mono (l11.trans (l21.trans (l31.trans (l41.trans (l51.trans (l61.trans l71))))))) h75 h76) ?_
                  rintro v82 c81 l81 ⟨O78, rfl⟩
                  refine va (.bool x_60) ?_
                  refine wln ?_
                  refine W.cond (t := x_60) (by kernel_rfl) (fun h83 => ?_) (fun h83 => ?_)
                  · have H := it h83 H
                    refine sr ?_
                    refine va (.int .i64 8) ?_
                    refine wln ?_
                    refine W.ret ?_
                    refine bkr ?_
                    refine thr ?_
                    obtain rfl := Option.some.inj H
                    exact ret1 (v := .int .i64 8) rfl (by kernel_rfl) ⟨_, c81, rfl, rfl, (l11.trans (l21.trans (l31.trans (l41.trans (l51.trans (l61.trans (l71.trans l81))))))), O78, rfl⟩
                  · have H := ie h83 H
                    refine W.skip ?_
                    refine bkn ?_
                    refine nrm ?_
                    refine sr ?_
                    refine va (.int .i64 9) ?_
                    refine wln ?_
                    refine W.ret ?_
                    obtain rfl := Option.some.inj H
                    exact ret1 (v := .int .i64 9) rfl (by kernel_rfl) ⟨_, c81, rfl, rfl, (l11.trans (l21.trans (l31.trans (l41.trans (l51.trans (l61.trans (l71.trans l81))))))), O78, rfl⟩

def f_linotypelaw24_RowMakes (sg : Sto) (p0 : Int) (p1 : List G_api_Cell) : Option (Sto × Bool) :=
  (f_linotypelaw24_works sg).bind fun x_3 =>
  (orE (!x_3.2) (some (decide ((p1.length : Int) > 1100)))).bind fun d_5 =>
  if d_5 = true then
  (f_linotypelaw24_works x_3.1).bind fun x_11 =>
  some (x_11.1, x_11.2)
  else
  (f_row_New x_3.1 p0).bind fun x_15 =>
  (orE x_15.2.isNone ((f_row_Row_Wide x_15.1 x_15.2).bind fun x_23 =>
  some (x_23 != (imax 1 (imin p0 1024))))).bind fun d_20 =>
  (orE d_20 ((f_row_Row_Wrap x_15.1 x_15.2).bind fun x_31 =>
  some x_31)).bind fun d_28 =>
  (orE d_28 ((f_row_Row_Cells x_15.1 x_15.2).bind fun x_35 =>
  (f_row_Row_Wide x_15.1 x_15.2).bind fun x_38 =>
  some ((x_35.length : Int) != x_38))).bind fun d_32 =>
  (orE d_32 ((f_row_Row_Cells x_15.1 x_15.2).bind fun x_43 =>
  (f_linotyperef23_Sound x_43).bind fun x_44 =>
  some (!x_44))).bind fun d_40 =>
  if d_40 = true then
  some (x_15.1, false)
  else
  (f_row_Of x_15.1 p1).bind fun x_50 =>
  (orE ((p1.length : Int) == 0) (some (decide ((p1.length : Int) > 1024)))).bind fun d_60 =>
  if d_60 = true then
  (andE x_50.2.1.isNone ((f_api_Code x_50.2.2).bind fun x_71 =>
  some (x_71 == 3))).bind fun d_68 =>
  some (x_50.1, d_68)
  else
  (f_linotyperef23_Sound p1).bind fun x_76 =>
  if (!x_76) = true then
  (andE x_50.2.1.isNone ((f_api_Code x_50.2.2).bind fun x_84 =>
  some (x_84 == 5))).bind fun d_81 =>
  some (x_50.1, d_81)
  else
  (orE (!x_50.2.2.isNil) (some x_50.2.1.isNone)).bind fun d_90 =>
  (orE d_90 ((f_row_Row_Wrap x_50.1 x_50.2.1).bind fun x_97 =>
  some x_97)).bind fun d_94 =>
  (orE d_94 ((f_row_Row_Cells x_50.1 x_50.2.1).bind fun x_101 =>
  (f_linotyperef23_Same x_101 p1).bind fun x_103 =>
  some (!x_103))).bind fun d_98 =>
  if d_98 = true then
  some (x_50.1, false)
  else
  (iter (σ := Int) (τ := (Sto × Bool) ⊕ Unit) (((p1.length : Int) - (-1)).toNat + 2) (fun s_110 =>
  if (decide (s_110 ≤ (p1.length : Int))) = true then
  (f_row_Row_Cell x_50.1 x_50.2.1 s_110).bind fun x_118 =>
  (andE (decide (s_110 ≥ 0)) (some (decide (s_110 < (p1.length : Int))))).bind fun d_129 =>
  (orE (!(x_118.2 == d_129)) ((andE x_118.2 ((idx p1 s_110).bind fun x_144 =>
  (f_linotyperef23_Same ([x_118.1] : List G_api_Cell) ([x_144] : List G_api_Cell)).bind fun x_148 =>
  some (!x_148))).bind fun d_139 =>
  some d_139)).bind fun d_136 =>
  (orE d_136 ((andE (!x_118.2) ((orE (x_118.1.Kind != 0) (some ((x_118.1.Text.length : Int) != 0))).bind fun d_159 =>
  some d_159)).bind fun d_154 =>
  some d_154)).bind fun d_150 =>
  if d_150 = true then
  some (.inr (.inl (x_50.1, false)))
  else
  some (.inl ((w64 (s_110 + 1))))
  else
  some (.inr (.inr ()))) ((-1))).bind fun o_110 =>
  match o_110 with
  | .inl o_110 =>
  some o_110
  | .inr o_110 =>
  some (x_50.1, true)
set_option maxHeartbeats 4000000 in
theorem c_linotypelaw24_RowMakes {c0 : Cx} {G : Gm} {F : List En} {sg : Sto} {v1 : Value} (O0 : Own c0 G F) (R0 : Rel c0 sg G) (hG : Gl [0, 1, 2, 3, 4, 5, 6, 7] c0) (p0 : Int) (p1 : List G_api_Cell) {r : Sto × Bool} (h2 : Sl R_api_Cell c0 v1 p1) (H : f_linotypelaw24_RowMakes sg p0 p1 = some r) :
    Calls Tryd.prog 10 #[.int .i64 p0, v1] c0.w (Post c0 fun c v => ∃ G_ : Gm, Own c G_ (F) ∧ Rel c r.1 G_ ∧ v = .bool r.2) := by
  unfold f_linotypelaw24_RowMakes at H
  refine enter (l := [.int .i64 p0, v1]) Tryd.func10 rfl rfl rfl ?_
  refine sr ?_
  refine va (.bool false) ?_
  refine wln ?_
  refine W.seq ?_
  refine W.seq ?_
  obtain ⟨x_3, h3, H⟩ := bs H
  obtain ⟨d_5, h4, H⟩ := bs H
  refine W.join (fun e w => ∃ (c : Cx) (g : Nat → Value) (G_ : Gm), w = c.w ∧ c0.le c ∧ Own c G_ (F) ∧ e = ups g [(0, .int .i64 p0), (1, v1), (17, .bool d_5)] ∧ Rel c x_3.1 G_) ?_ ?_
  · clear H
    refine W.region ?_
    refine WL.callP rfl (by kernel_rfl) (c_linotypelaw24_works O0 R0 (hG.le (by decide)) h3) ?_
    rintro v10 c9 l9 ⟨G5, O6, R7, rfl⟩
    refine va (.bool (!x_3.2)) ?_
    rcases Bool.eq_false_or_eq_true (!x_3.2) with h11 | h11
    · skip
      obtain rfl := orT h11 h4
      refine vb h11 ?_
      refine ps ?_
      refine ps ?_
      refine ps ?_
      refine va (.bool true) ?_
      refine wln ?_
      exact ⟨c9, _, G5, rfl, l9, O6, ups_self ⟨rfl, rfl, rfl, trivial⟩, R7⟩
    · skip
      have H12 := orF h11 h4
      refine vb h11 ?_
      refine wn ?_
      refine va (v1) ?_
      refine wn ?_
      refine WL.val0 (v := .int .i64 (p1.length : Int)) rfl (rx (by kernel_rfl) (run_len (ty := 3) Tryd.underlying22 (h2.mono l9) _)) ?_
      refine wn ?_
      refine va (.bool (decide ((p1.length : Int) > 1100))) ?_
      obtain rfl := Option.some.inj H12
      refine va (.bool (decide ((p1.length : Int) > 1100))) ?_
      refine wln ?_
      exact ⟨c9, _, G5, rfl, l9, O6, ups_self ⟨rfl, rfl, rfl, trivial⟩, R7⟩
  · skip
    rintro e_ w_ ⟨c13, g14, G16, rfl, l13, O15, rfl, R17⟩
    refine nrm ?_
    refine W.cond (t := d_5) (by kernel_rfl) (fun h19 => ?_) (fun h19 => ?_)
    · have H := it h19 H
      refine sr ?_
      obtain ⟨x_11, h20, H⟩ := bs H
      refine WL.callP rfl (by kernel_rfl) (c_linotypelaw24_works O15 R17 ((hG.mono l13).le (by decide)) h20) ?_
      rintro v26 c25 l25 ⟨G21, O22, R23, rfl⟩
      refine va (.bool x_11.2) ?_
      refine wln ?_
      refine W.ret ?_
      refine thr ?_
      obtain rfl := Option.some.inj H
      exact ret1 (v := .bool x_11.2) rfl (by kernel_rfl) ⟨_, c25, rfl, rfl, (l13.trans l25), G21, O22, R23, rfl⟩
    · have H := ie h19 H
      refine W.skip ?_
      refine nrm ?_
      refine sr ?_
      refine va (.int .i64 p0) ?_
      obtain ⟨x_15, h27, H⟩ := bs H
      refine WL.callP rfl (by kernel_rfl) (c_row_New O15 R17 p0 h27) ?_
      rintro v28 c34 l34 ⟨_, G30, O31, R32, a33, rfl, h29⟩
      refine va (v28) ?_
      refine wln ?_
      refine W.seq ?_
      refine W.seq ?_
      obtain ⟨d_20, h36, H⟩ := bs H
      obtain ⟨d_28, h37, H⟩ := bs H
      obtain ⟨d_32, h38, H⟩ := bs H
      obtain ⟨d_40, h39, H⟩ := bs H
      refine W.join (fun e w => ∃ (c : Cx) (g : Nat → Value), w = c.w ∧ c34.le c ∧ Own c G30 (F) ∧ e = ups g [(1, v1), (48, .bool d_40)]) ?_ ?_
      · clear H
        refine W.region ?_
        refine va (v28) ?_
        refine WL.val0 (v := .bool x_15.2.isNone) rfl (by rcases (h29).cs with ⟨h1_, h2_⟩ | ⟨b_, h1_, h2_⟩ <;> (subst h1_; rw [h2_]; kernel_rfl)) ?_
        rcases Bool.eq_false_or_eq_true (x_15.2.isNone) with h40 | h40
        · skip
          obtain rfl := orT h40 h36
          refine vb h40 ?_
          refine ps ?_
          refine ps ?_
          refine ps ?_
          refine ps ?_
          refine ps ?_
          refine ps ?_
          refine va (.bool true) ?_
          have h41 : true = true := rfl
          obtain rfl := orT h41 h37
          refine vb h41 ?_
          refine ps ?_
          refine ps ?_
          refine va (.bool true) ?_
          have h42 : true = true := rfl
          obtain rfl := orT h42 h38
          refine vb h42 ?_
          refine ps ?_
          refine ps ?_
          refine ps ?_
          refine ps ?_
          refine ps ?_
          refine ps ?_
          refine va (.bool true) ?_
          have h43 : true = true := rfl
          obtain rfl := orT h43 h39
          refine vb h43 ?_
          refine ps ?_
          refine ps ?_
          refine ps ?_
          refine ps ?_
          refine va (.bool true) ?_
          refine wln ?_
          exact ⟨c34, _, rfl, (Cx.le.refl _), O31, ups_self ⟨rfl, rfl, trivial⟩⟩
        · skip
          have H44 := orF h40 h36
          refine vb h40 ?_
          refine wn ?_
          refine va (v28) ?_
          refine wn ?_
          obtain ⟨x_23, h45, H44⟩ := bs H44
          refine WL.callP rfl (by kernel_rfl) (c_row_Row_Wide O31 R32 x_15.2 h29 h45) ?_
          rintro v51 c50 l50 ⟨O47, rfl⟩
          refine wn ?_
          refine va (.int .i64 p0) ?_
          refine wn ?_
          refine va (.int .i64 (imin p0 1024)) ?_
          refine wn ?_
          refine va (.int .i64 (imax 1 (imin p0 1024))) ?_
          refine wn ?_
          refine va (.bool (x_23 != (imax 1 (imin p0 1024)))) ?_
          obtain rfl := Option.some.inj H44
          refine va (.bool (x_23 != (imax 1 (imin p0 1024)))) ?_
          rcases Bool.eq_false_or_eq_true (x_23 != (imax 1 (imin p0 1024))) with h52 | h52
          · skip
            obtain rfl := orT h52 h37
            refine vb h52 ?_
            refine ps ?_
            refine ps ?_
            refine va (.bool true) ?_
            have h53 : true = true := rfl
            obtain rfl := orT h53 h38
            refine vb h53 ?_
            refine ps ?_
            refine ps ?_
            refine ps ?_
            refine ps ?_
            refine ps ?_
            refine ps ?_
            refine va (.bool true) ?_
            have h54 : true = true := rfl
            obtain rfl := orT h54 h39
            refine vb h54 ?_
            refine ps ?_
            refine ps ?_
            refine ps ?_
            refine ps ?_
            refine va (.bool true) ?_
            refine wln ?_
            exact ⟨c50, _, rfl, l50, O47, ups_self ⟨rfl, rfl, trivial⟩⟩
          · skip
            have H55 := orF h52 h37
            refine vb h52 ?_
            refine wn ?_
            refine va (v28) ?_
            refine wn ?_
            obtain ⟨x_31, h56, H55⟩ := bs H55
            refine WL.callP rfl (by kernel_rfl) (c_row_Row_Wrap O47 (R32.mono l50) x_15.2 (h29.mono l50) h56) ?_
            rintro v62 c61 l61 ⟨O58, rfl⟩
            obtain rfl := Option.some.inj H55
            refine va (.bool x_31) ?_
            rcases Bool.eq_false_or_eq_true (x_31) with h63 | h63
            · skip
              obtain rfl := orT h63 h38
              refine vb h63 ?_
              refine ps ?_
              refine ps ?_
              refine ps ?_
              refine ps ?_
              refine ps ?_
              refine ps ?_
              refine va (.bool true) ?_
              have h64 : true = true := rfl
              obtain rfl := orT h64 h39
              refine vb h64 ?_
              refine ps ?_
              refine ps ?_
              refine ps ?_
              refine ps ?_
              refine va (.bool true) ?_
              refine wln ?_
              exact ⟨c61, _, rfl, (l50.trans l61), O58, ups_self ⟨rfl, rfl, trivial⟩⟩
            · skip
              have H65 := orF h63 h38
              refine vb h63 ?_
              refine wn ?_
              refine va (v28) ?_
              refine wn ?_
              obtain ⟨x_35, h66, H65⟩ := bs H65
              refine WL.callP rfl (by kernel_rfl) (c_row_Row_Cells O58 (R32.mono (l50.trans l61)) x_15.2 (h29.mono (l50.trans l61)) h66) ?_
              rintro v67 c74 l74 ⟨_, u68, O71, rfl, h69⟩
              refine wn ?_
              refine WL.val0 (v := .int .i64 (x_35.length : Int)) rfl (rx (by kernel_rfl) (run_lenO (ty := 3) Tryd.underlying22 h69 _)) ?_
              refine wn ?_
              refine va (v28) ?_
              refine wn ?_
              obtain ⟨x_38, h76, H65⟩ := bs H65
              refine WL.callP rfl (by kernel_rfl) (c_row_Row_Wide O71 (R32.mono (l50.trans (l61.trans l74))) x_15.2 (h29.mono (l50.trans (l61.trans l74))) h76) ?_
              rintro v82 c81 l81 ⟨O78, rfl⟩
              refine wn ?_
              refine va (.bool ((x_35.length : Int) != x_38)) ?_
              obtain rfl := Option.some.inj H65
              refine va (.bool ((x_35.length : Int) != x_38)) ?_
              rcases Bool.eq_false_or_eq_true ((x_35.length : Int) != x_38) with h83 | h83
              · skip
                obtain rfl := orT h83 h39
                refine vb h83 ?_
                refine ps ?_
                refine ps ?_
                refine ps ?_
                refine ps ?_
                refine va (.bool true) ?_
                refine wln ?_
                have O84 := O78.selD 1 [] (by kernel_rfl) (by kernel_rfl)
                exact ⟨c81, _, rfl, (l50.trans (l61.trans (l74.trans l81))), O84, ups_self ⟨rfl, rfl, trivial⟩⟩
              · skip
                have H85 := orF h83 h39
                refine vb h83 ?_
                refine wn ?_
                refine va (v28) ?_
                refine wn ?_
                obtain ⟨x_43, h86, H85⟩ := bs H85
                refine WL.callP rfl (by kernel_rfl) (c_row_Row_Cells O78 (R32.mono (l50.trans (l61.trans (l74.trans l81)))) x_15.2 (h29.mono (l50.trans (l61.trans (l74.trans l81)))) h86) ?_
                rintro v87 c94 l94 ⟨_, u88, O91, rfl, h89⟩
                refine wn ?_
                obtain ⟨c98, h99, l98, O96, h97⟩ := O91.frz 0 rfl h89
                refine WL.gh h99 ?_
                obtain ⟨x_44, h100, H85⟩ := bs H85
                refine WL.callP rfl (by kernel_rfl) (c_linotyperef23_Sound O96 x_43 h97 h100) ?_
                rintro v106 c105 l105 ⟨O102, rfl⟩
                refine wn ?_
                refine va (.bool (!x_44)) ?_
                obtain rfl := Option.some.inj H85
                refine va (.bool (!x_44)) ?_
                refine wln ?_
                have O107 := O102.selD 2 [] (by kernel_rfl) (by kernel_rfl)
                exact ⟨c105, _, rfl, (l50.trans (l61.trans (l74.trans (l81.trans (l94.trans (l98.trans l105)))))), O107, ups_self ⟨rfl, rfl, trivial⟩⟩
      · skip
        rintro e_ w_ ⟨c108, g109, rfl, l108, O110, rfl⟩
        refine nrm ?_
        refine W.cond (t := d_40) (by kernel_rfl) (fun h114 => ?_) (fun h114 => ?_)
        · have H := it h114 H
          refine sr ?_
          refine va (.bool false) ?_
          refine wln ?_
          refine W.ret ?_
          refine thr ?_
          obtain rfl := Option.some.inj H
          exact ret1 (v := .bool false) rfl (by kernel_rfl) ⟨_, c108, rfl, rfl, (l13.trans (l34.trans l108)), G30, O110, (R32.mono l108), rfl⟩
        · have H := ie h114 H
          refine W.skip ?_
          refine nrm ?_
          refine sr ?_
          refine va (v1) ?_
          obtain ⟨x_50, h115, H⟩ := bs H
          refine WL.callP rfl (by kernel_rfl) (c_row_Of O110 (R32.mono l108) ((hG.mono (l13.trans (l34.trans l108))).le (by decide)) p1 (h2.mono (l13.trans (l34.trans l108))) h115) ?_
          rintro v125 c124 l124 ⟨v116, v118, G120, O121, R122, rfl, h117, h119⟩
          refine va (.tuple #[v116, v118]) ?_
          refine va (v116) ?_
          refine va (v118) ?_
          refine va (v116) ?_
          refine va (v118) ?_
          refine wln ?_
          refine W.seq ?_
          refine W.seq ?_
          obtain ⟨d_60, h126, H⟩ := bs H
          refine W.join (fun e w => ∃ (c : Cx) (g : Nat → Value), w = c.w ∧ c124.le c ∧ Own c G120 (F) ∧ e = ups g [(1, v1), (6, v116), (7, v118), (61, .bool d_60)]) ?_ ?_
          · clear H
            refine W.region ?_
            refine va (v1) ?_
            refine WL.val0 (v := .int .i64 (p1.length : Int)) rfl (rx (by kernel_rfl) (run_len (ty := 3) Tryd.underlying22 (h2.mono (l13.trans (l34.trans (l108.trans l124)))) _)) ?_
            refine va (.bool ((p1.length : Int) == 0)) ?_
            rcases Bool.eq_false_or_eq_true ((p1.length : Int) == 0) with h127 | h127
            · skip
              obtain rfl := orT h127 h126
              refine vb h127 ?_
              refine ps ?_
              refine ps ?_
              refine ps ?_
              refine va (.bool true) ?_
              refine wln ?_
              exact ⟨c124, _, rfl, (Cx.le.refl _), O121, ups_self ⟨rfl, rfl, rfl, rfl, trivial⟩⟩
            · skip
              have H128 := orF h127 h126
              refine vb h127 ?_
              refine wn ?_
              refine va (v1) ?_
              refine wn ?_
              refine WL.val0 (v := .int .i64 (p1.length : Int)) rfl (rx (by kernel_rfl) (run_len (ty := 3) Tryd.underlying22 (h2.mono (l13.trans (l34.trans (l108.trans l124)))) _)) ?_
              refine wn ?_
              refine va (.bool (decide ((p1.length : Int) > 1024))) ?_
              obtain rfl := Option.some.inj H128
              refine va (.bool (decide ((p1.length : Int) > 1024))) ?_
              refine wln ?_
              exact ⟨c124, _, rfl, (Cx.le.refl _), O121, ups_self ⟨rfl, rfl, rfl, rfl, trivial⟩⟩
          · skip
            rintro e_ w_ ⟨c129, g130, rfl, l129, O131, rfl⟩
            refine nrm ?_
            refine W.cond (t := d_60) (by kernel_rfl) (fun h135 => ?_) (fun h135 => ?_)
            · have H := it h135 H
              refine W.seq ?_
              obtain ⟨d_68, h136, H⟩ := bs H
              refine W.join (fun e w => ∃ (c : Cx) (g : Nat → Value), w = c.w ∧ c129.le c ∧ Own c G120 (F) ∧ e = ups g [(4, .bool d_68)]) ?_ ?_
              · clear H
                refine W.region ?_
                refine va (v116) ?_
                refine WL.val0 (v := .bool x_50.2.1.isNone) rfl (by rcases ((h117.mono l129)).cs with ⟨h1_, h2_⟩ | ⟨b_, h1_, h2_⟩ <;> (subst h1_; rw [h2_]; kernel_rfl)) ?_
                rcases Bool.eq_false_or_eq_true (x_50.2.1.isNone) with h137 | h137
                · skip
                  have H138 := anT h137 h136
                  refine vb h137 ?_
                  refine wn ?_
                  refine va (v118) ?_
                  refine wn ?_
                  obtain ⟨x_71, h139, H138⟩ := bs H138
                  refine WL.callP rfl (by kernel_rfl) (c_api_Code O131 ((hG.mono (l13.trans (l34.trans (l108.trans (l124.trans l129))))).le (by decide)) x_50.2.2 (h119.mono l129) h139) ?_
                  rintro v145 c144 l144 ⟨O141, rfl⟩
                  refine wn ?_
                  refine va (.bool (x_71 == 3)) ?_
                  obtain rfl := Option.some.inj H138
                  refine va (.bool (x_71 == 3)) ?_
                  refine va (.bool (x_71 == 3)) ?_
                  refine wln ?_
                  exact ⟨c144, _, rfl, l144, O141, ups_self ⟨rfl, trivial⟩⟩
                · skip
                  obtain rfl := anF h137 h136
                  refine vb h137 ?_
                  refine ps ?_
                  refine ps ?_
                  refine ps ?_
                  refine va (.bool false) ?_
                  refine va (.bool false) ?_
                  refine wln ?_
                  exact ⟨c129, _, rfl, (Cx.le.refl _), O131, ups_self ⟨rfl, trivial⟩⟩
              · skip
                rintro e_ w_ ⟨c146, g147, rfl, l146, O148, rfl⟩
                refine nrm ?_
                refine W.ret ?_
                refine thr ?_
                obtain rfl := Option.some.inj H
                exact ret1 (v := .bool d_68) rfl (by kernel_rfl) ⟨_, c146, rfl, rfl, (l13.trans (l34.trans (l108.trans (l124.trans (l129.trans l146))))), G120, O148, (R122.mono (l129.trans l146)), rfl⟩
            · have H := ie h135 H
              refine W.skip ?_
              refine nrm ?_
              refine W.seq ?_
              refine sr ?_
              refine va (v1) ?_
              obtain ⟨x_76, h152, H⟩ := bs H
              refine WL.callP rfl (by kernel_rfl) (c_linotyperef23_Sound O131 p1 (h2.mono (l13.trans (l34.trans (l108.trans (l124.trans l129))))) h152) ?_
              rintro v158 c157 l157 ⟨O154, rfl⟩
              refine va (.bool (!x_76)) ?_
              refine wln ?_
              refine W.cond (t := !x_76) (by kernel_rfl) (fun h159 => ?_) (fun h159 => ?_)
              · have H := it h159 H
                refine W.seq ?_
                obtain ⟨d_81, h160, H⟩ := bs H
                refine W.join (fun e w => ∃ (c : Cx) (g : Nat → Value), w = c.w ∧ c157.le c ∧ Own c G120 (F) ∧ e = ups g [(4, .bool d_81)]) ?_ ?_
                · clear H
                  refine W.region ?_
                  refine va (v116) ?_
                  refine WL.val0 (v := .bool x_50.2.1.isNone) rfl (by rcases ((h117.mono (l129.trans l157))).cs with ⟨h1_, h2_⟩ | ⟨b_, h1_, h2_⟩ <;> (subst h1_; rw [h2_]; kernel_rfl)) ?_
                  rcases Bool.eq_false_or_eq_true (x_50.2.1.isNone) with h161 | h161
                  · skip
                    have H162 := anT h161 h160
                    refine vb h161 ?_
                    refine wn ?_
                    refine va (v118) ?_
                    refine wn ?_
                    obtain ⟨x_84, h163, H162⟩ := bs H162
                    refine WL.callP rfl (by kernel_rfl) (c_api_Code O154 ((hG.mono (l13.trans (l34.trans (l108.trans (l124.trans (l129.trans l157)))))).le (by decide)) x_50.2.2 (h119.mono (l129.trans l157)) h163) ?_
                    rintro v169 c168 l168 ⟨O165, rfl⟩
                    refine wn ?_
                    refine va (.bool (x_84 == 5)) ?_
                    obtain rfl := Option.some.inj H162
                    refine va (.bool (x_84 == 5)) ?_
                    refine va (.bool (x_84 == 5)) ?_
                    refine wln ?_
                    exact ⟨c168, _, rfl, l168, O165, ups_self ⟨rfl, trivial⟩⟩
                  · skip
                    obtain rfl := anF h161 h160
                    refine vb h161 ?_
                    refine ps ?_
                    refine ps ?_
                    refine ps ?_
                    refine va (.bool false) ?_
                    refine va (.bool false) ?_
                    refine wln ?_
                    exact ⟨c157, _, rfl, (Cx.le.refl _), O154, ups_self ⟨rfl, trivial⟩⟩
                · skip
                  rintro e_ w_ ⟨c170, g171, rfl, l170, O172, rfl⟩
                  refine nrm ?_
                  refine W.ret ?_
                  refine thr ?_
                  obtain rfl := Option.some.inj H
                  exact ret1 (v := .bool d_81) rfl (by kernel_rfl) ⟨_, c170, rfl, rfl, (l13.trans (l34.trans (l108.trans (l124.trans (l129.trans (l157.trans l170)))))), G120, O172, (R122.mono (l129.trans (l157.trans l170))), rfl⟩
              · have H := ie h159 H
                refine W.skip ?_
                refine nrm ?_
                refine W.seq ?_
                refine W.seq ?_
                obtain ⟨d_90, h176, H⟩ := bs H
                obtain ⟨d_94, h177, H⟩ := bs H
                obtain ⟨d_98, h178, H⟩ := bs H
                refine W.join (fun e w => ∃ (c : Cx) (g : Nat → Value), w = c.w ∧ c157.le c ∧ Own c G120 (F) ∧ e = ups g [(1, v1), (6, v116), (95, .bool d_98)]) ?_ ?_
                · clear H
                  refine W.region ?_
                  refine va (v118) ?_
                  refine WL.val0 (v := .bool (!x_50.2.2.isNil)) rfl (by rcases ((h119.mono (l129.trans l157))).cs with ⟨h1_, h2_⟩ | ⟨b_, h1_, h2_⟩ | ⟨b_, h1_, h2_⟩ <;> (subst h1_; rw [h2_]; kernel_rfl)) ?_
                  rcases Bool.eq_false_or_eq_true (!x_50.2.2.isNil) with h179 | h179
                  · skip
                    obtain rfl := orT h179 h176
                    refine vb h179 ?_
                    refine ps ?_
                    refine ps ?_
                    refine va (.bool true) ?_
                    have h180 : true = true := rfl
                    obtain rfl := orT h180 h177
                    refine vb h180 ?_
                    refine ps ?_
                    refine ps ?_
                    refine va (.bool true) ?_
                    have h181 : true = true := rfl
                    obtain rfl := orT h181 h178
                    refine vb h181 ?_
                    refine ps ?_
                    refine ps ?_
                    refine ps ?_
                    refine ps ?_
                    refine ps ?_
                    refine va (.bool true) ?_
                    refine wln ?_
                    exact ⟨c157, _, rfl, (Cx.le.refl _), O154, ups_self ⟨rfl, rfl, rfl, trivial⟩⟩
                  · skip
                    have H182 := orF h179 h176
                    refine vb h179 ?_
                    refine wn ?_
                    refine va (v116) ?_
                    refine wn ?_
                    refine WL.val0 (v := .bool x_50.2.1.isNone) rfl (by rcases ((h117.mono (l129.trans l157))).cs with ⟨h1_, h2_⟩ | ⟨b_, h1_, h2_⟩ <;> (subst h1_; rw [h2_]; kernel_rfl)) ?_
                    obtain rfl := Option.some.inj H182
                    refine va (.bool x_50.2.1.isNone) ?_
                    rcases Bool.eq_false_or_eq_true (x_50.2.1.isNone) with h183 | h183
                    · skip
                      obtain rfl := orT h183 h177
                      refine vb h183 ?_
                      refine ps ?_
                      refine ps ?_
                      refine va (.bool true) ?_
                      have h184 : true = true := rfl
                      obtain rfl := orT h184 h178
                      refine vb h184 ?_
                      refine ps ?_
                      refine ps ?_
                      refine ps ?_
                      refine ps ?_
                      refine ps ?_
                      refine va (.bool true) ?_
                      refine wln ?_
                      exact ⟨c157, _, rfl, (Cx.le.refl _), O154, ups_self ⟨rfl, rfl, rfl, trivial⟩⟩
                    · skip
                      have H185 := orF h183 h177
                      refine vb h183 ?_
                      refine wn ?_
                      refine va (v116) ?_
                      refine wn ?_
                      obtain ⟨x_97, h186, H185⟩ := bs H185
                      refine WL.callP rfl (by kernel_rfl) (c_row_Row_Wrap O154 (R122.mono (l129.trans l157)) x_50.2.1 (h117.mono (l129.trans l157)) h186) ?_
                      rintro v192 c191 l191 ⟨O188, rfl⟩
                      obtain rfl := Option.some.inj H185
                      refine va (.bool x_97) ?_
                      rcases Bool.eq_false_or_eq_true (x_97) with h193 | h193
                      · skip
                        obtain rfl := orT h193 h178
                        refine vb h193 ?_
                        refine ps ?_
                        refine ps ?_
                        refine ps ?_
                        refine ps ?_
                        refine ps ?_
                        refine va (.bool true) ?_
                        refine wln ?_
                        exact ⟨c191, _, rfl, l191, O188, ups_self ⟨rfl, rfl, rfl, trivial⟩⟩
                      · skip
                        have H194 := orF h193 h178
                        refine vb h193 ?_
                        refine wn ?_
                        refine va (v116) ?_
                        refine wn ?_
                        obtain ⟨x_101, h195, H194⟩ := bs H194
                        refine WL.callP rfl (by kernel_rfl) (c_row_Row_Cells O188 (R122.mono (l129.trans (l157.trans l191))) x_50.2.1 (h117.mono (l129.trans (l157.trans l191))) h195) ?_
                        rintro v196 c203 l203 ⟨_, u197, O200, rfl, h198⟩
                        refine wn ?_
                        refine va (v1) ?_
                        refine wn ?_
                        obtain ⟨c207, h208, l207, O205, h206⟩ := O200.frz 0 rfl h198
                        refine WL.gh h208 ?_
                        obtain ⟨x_103, h209, H194⟩ := bs H194
                        refine WL.callP rfl (by kernel_rfl) (c_linotyperef23_Same O205 x_101 p1 h206 (h2.mono (l13.trans (l34.trans (l108.trans (l124.trans (l129.trans (l157.trans (l191.trans (l203.trans l207))))))))) h209) ?_
                        rintro v215 c214 l214 ⟨O211, rfl⟩
                        refine wn ?_
                        refine va (.bool (!x_103)) ?_
                        obtain rfl := Option.some.inj H194
                        refine va (.bool (!x_103)) ?_
                        refine wln ?_
                        have O216 := O211.selD 1 [] (by kernel_rfl) (by kernel_rfl)
                        exact ⟨c214, _, rfl, (l191.trans (l203.trans (l207.trans l214))), O216, ups_self ⟨rfl, rfl, rfl, trivial⟩⟩
                · skip
                  rintro e_ w_ ⟨c217, g218, rfl, l217, O219, rfl⟩
                  refine nrm ?_
                  refine W.cond (t := d_98) (by kernel_rfl) (fun h223 => ?_) (fun h223 => ?_)
                  · have H := it h223 H
                    refine sr ?_
                    refine va (.bool false) ?_
                    refine wln ?_
                    refine W.ret ?_
                    refine thr ?_
                    obtain rfl := Option.some.inj H
                    exact ret1 (v := .bool false) rfl (by kernel_rfl) ⟨_, c217, rfl, rfl, (l13.trans (l34.trans (l108.trans (l124.trans (l129.trans (l157.trans l217)))))), G120, O219, (R122.mono (l129.trans (l157.trans l217))), rfl⟩
                  · have H := ie h223 H
                    refine W.skip ?_
                    refine nrm ?_
                    refine W.seq ?_
                    refine sr ?_
                    refine va (.int .i64 (-1)) ?_
                    refine wln ?_
                    refine W.block ?_
                    obtain ⟨o_110, h224, H225⟩ := bs H
                    refine W.loop (σ := Int) (τ := (Sto × Bool) ⊕ Unit) (fun s_110 => fun e w => ∃ (c : Cx) (g : Nat → Value), w = c.w ∧ c217.le c ∧ Own c G120 (F) ∧ e = ups g [(1, v1), (6, v116), (8, .int .i64 s_110)]) (fun t => match t with | .inl x_ => (fun rr_ ex e w => ex = .ret ∧ (fun e w => ∃ (c : Cx) (g : Nat → Value) (G_ : Gm), w = c.w ∧ c217.le c ∧ Own c G_ (F) ∧ e = ups g [(4, .bool rr_.2)] ∧ Rel c rr_.1 G_) e w) x_ | .inr x_ => (fun o_110_ ex e w => ex = .exit 0 ∧ (fun e w => ∃ (c : Cx) (g : Nat → Value), w = c.w ∧ c217.le c ∧ Own c G120 (F) ∧ e = ups g []) e w) x_) ?_ h224 ?_ ?_
                    · clear H225 h224
                      intro s_110 xx_ ee_ ww_ H
                      revert ee_ ww_
                      rintro e_ w_ ⟨c226, g227, rfl, l226, O228, rfl⟩
                      refine W.seq ?_
                      refine sr ?_
                      refine va (.int .i64 s_110) ?_
                      refine va (v1) ?_
                      refine WL.val0 (v := .int .i64 (p1.length : Int)) rfl (rx (by kernel_rfl) (run_len (ty := 3) Tryd.underlying22 (h2.mono (l13.trans (l34.trans (l108.trans (l124.trans (l129.trans (l157.trans (l217.trans l226)))))))) _)) ?_
                      refine va (.bool (decide (s_110 ≤ (p1.length : Int)))) ?_
                      refine wln ?_
                      refine W.cond (t := decide (s_110 ≤ (p1.length : Int))) (by kernel_rfl) (fun h232 => ?_) (fun h232 => ?_)
                      · have H := it h232 H
                        refine W.skip ?_
                        refine nrm ?_
                        refine W.seq ?_
                        refine W.block ?_
                        refine sr ?_
                        refine va (v116) ?_
                        refine va (.int .i64 s_110) ?_
                        obtain ⟨x_118, h233, H⟩ := bs H
                        refine WL.callP rfl (by kernel_rfl) (c_row_Row_Cell O228 (R122.mono (l129.trans (l157.trans (l217.trans l226)))) x_50.2.1 s_110 (h117.mono (l129.trans (l157.trans (l217.trans l226)))) h233) ?_
                        rintro v242 c241 l241 ⟨v234, u235, O238, rfl, h236⟩
                        refine va (.tuple #[.agg #[.int .i64 x_118.1.Kind, v234], .bool x_118.2]) ?_
                        refine va (.agg #[.int .i64 x_118.1.Kind, v234]) ?_
                        refine va (.bool x_118.2) ?_
                        refine WL.mem rfl (Own.al (T := 27) (vs := [.int .i64 0, .slice none 0 0]) O238 (by kernel_rfl)) ?_
                        rintro v246 c245 l245 ⟨b243, rfl, O244⟩
                        obtain ⟨a247, a248, a249, rfl⟩ := ((h236.mono l245)).form
                        refine WL.memD rfl (Own.st (T := 27) (j := 0) (us := [.int .i64 x_118.1.Kind, .slice a247 a248 a249]) (nw := [.int .i64 x_118.1.Kind, .slice a247 a248 a249]) (v := .agg #[.int .i64 x_118.1.Kind, .slice a247 a248 a249]) 0 O244 (by kernel_rfl) rfl rfl rfl rfl (by kernel_rfl) ⟨rfl, ((h236.mono l245)).one, trivial⟩ rfl rfl) ?_
                        rintro c251 l251 O250
                        refine va (.bool x_118.2) ?_
                        refine wln ?_
                        refine W.seq ?_
                        obtain ⟨d_129, h252, H⟩ := bs H
                        obtain ⟨d_136, h253, H⟩ := bs H
                        obtain ⟨d_150, h254, H⟩ := bs H
                        refine W.join (fun e w => ∃ (c : Cx) (g : Nat → Value), w = c.w ∧ c251.le c ∧ Own c G120 (⟨.pointer (some ⟨b243, 0, none⟩), 27, [.int .i64 x_118.1.Kind, .slice a247 a248 a249], 0⟩ :: es false (RI .i32) (.slice a247 a248 a249) 21 u235 x_118.1.Text :: F) ∧ e = ups g [(1, v1), (6, v116), (8, .int .i64 s_110), (146, .bool d_150)]) ?_ ?_
                        · clear H
                          refine W.regionD [] (Kp G0 [⟨.pointer (some ⟨b243, 0, none⟩), 27, [.int .i64 x_118.1.Kind, .slice a247 a248 a249], 0⟩]) O250 (by kernel_rfl) ?_
                          intro c255 l255 O256
                          have p257 : Kp G0 [⟨.pointer (some ⟨b243, 0, none⟩), 27, [.int .i64 x_118.1.Kind, .slice a247 a248 a249], 0⟩] c255 := (Kp.cons (O256.on 0 rfl) Kp.nil0)
                          refine ta 0 (.bool x_118.2) ?_
                          refine ta 1 (.int .i64 s_110) ?_
                          refine ta 2 (.bool (decide (s_110 ≥ 0))) ?_
                          rcases Bool.eq_false_or_eq_true (decide (s_110 ≥ 0)) with h258 | h258
                          · skip
                            have H259 := anT h258 h252
                            refine AC.takeb 3 h258 rfl (by kernel_rfl) (by kernel_rfl) (fun c' hle => (by kernel_rfl)) ?_
                            refine ta 4 (.int .i64 s_110) ?_
                            refine ta 5 (v1) ?_
                            refine AC.take 6 (.int .i64 (p1.length : Int)) rfl (by kernel_rfl) (by kernel_rfl) (fun c' hle => (rx (by kernel_rfl) (run_len (ty := 3) Tryd.underlying22 (h2.mono (l13.trans (l34.trans (l108.trans (l124.trans (l129.trans (l157.trans (l217.trans (l226.trans (l241.trans (l245.trans (l251.trans l255)))))))))))) _))) ?_
                            refine ta 7 (.bool (decide (s_110 < (p1.length : Int)))) ?_
                            obtain rfl := Option.some.inj H259
                            refine ta 8 (.bool (decide (s_110 < (p1.length : Int)))) ?_
                            refine ta 9 (.bool (!(x_118.2 == (decide (s_110 < (p1.length : Int)))))) ?_
                            rcases Bool.eq_false_or_eq_true (!(x_118.2 == (decide (s_110 < (p1.length : Int))))) with h260 | h260
                            · skip
                              obtain rfl := orT h260 h253
                              refine AC.takeb 10 h260 rfl (by kernel_rfl) (by kernel_rfl) (fun c' hle => (by kernel_rfl)) ?_
                              refine AC.pass 11 rfl (by kernel_rfl) (by kernel_rfl) ?_
                              refine AC.pass 12 rfl (by kernel_rfl) (by kernel_rfl) ?_
                              refine AC.pass 13 rfl (by kernel_rfl) (by kernel_rfl) ?_
                              refine AC.pass 15 rfl (by kernel_rfl) (by kernel_rfl) ?_
                              refine AC.pass 16 rfl (by kernel_rfl) (by kernel_rfl) ?_
                              refine AC.pass 17 rfl (by kernel_rfl) (by kernel_rfl) ?_
                              refine AC.pass 18 rfl (by kernel_rfl) (by kernel_rfl) ?_
                              refine AC.pass 14 rfl (by kernel_rfl) (by kernel_rfl) ?_
                              refine AC.pass 19 rfl (by kernel_rfl) (by kernel_rfl) ?_
                              refine AC.pass 20 rfl (by kernel_rfl) (by kernel_rfl) ?_
                              refine AC.pass 21 rfl (by kernel_rfl) (by kernel_rfl) ?_
                              refine AC.pass 22 rfl (by kernel_rfl) (by kernel_rfl) ?_
                              refine ta 23 (.bool true) ?_
                              have h261 : true = true := rfl
                              obtain rfl := orT h261 h254
                              refine AC.takeb 24 h261 rfl (by kernel_rfl) (by kernel_rfl) (fun c' hle => (by kernel_rfl)) ?_
                              refine AC.pass 25 rfl (by kernel_rfl) (by kernel_rfl) ?_
                              refine AC.pass 26 rfl (by kernel_rfl) (by kernel_rfl) ?_
                              refine AC.pass 27 rfl (by kernel_rfl) (by kernel_rfl) ?_
                              refine AC.pass 28 rfl (by kernel_rfl) (by kernel_rfl) ?_
                              refine AC.pass 29 rfl (by kernel_rfl) (by kernel_rfl) ?_
                              refine AC.pass 30 rfl (by kernel_rfl) (by kernel_rfl) ?_
                              refine AC.pass 31 rfl (by kernel_rfl) (by kernel_rfl) ?_
                              refine AC.pass 32 rfl (by kernel_rfl) (by kernel_rfl) ?_
                              refine AC.pass 33 rfl (by kernel_rfl) (by kernel_rfl) ?_
                              refine AC.pass 34 rfl (by kernel_rfl) (by kernel_rfl) ?_
                              refine AC.pass 35 rfl (by kernel_rfl) (by kernel_rfl) ?_
                              refine AC.pass 36 rfl (by kernel_rfl) (by kernel_rfl) ?_
                              refine AC.pass 37 rfl (by kernel_rfl) (by kernel_rfl) ?_
                              refine ta 38 (.bool true) ?_
                              refine AC.done (by kernel_rfl) ?_
                              refine nrm ?_
                              obtain ⟨c264, h265, l264, O262, h263⟩ := O256.frz 1 rfl (h236.mono (l245.trans (l251.trans l255)))
                              exact ⟨c264, _, h265.symm, (l255.trans l264), O262, ups_self ⟨rfl, rfl, rfl, rfl, trivial⟩⟩
                            · skip
                              have H266 := orF h260 h253
                              refine AC.takeb 10 h260 rfl (by kernel_rfl) (by kernel_rfl) (fun c' hle => (by kernel_rfl)) ?_
                              refine ta 11 (.bool x_118.2) ?_
                              obtain ⟨d_139, h267, H266⟩ := bs H266
                              rcases Bool.eq_false_or_eq_true (x_118.2) with h268 | h268
                              · skip
                                have H269 := anT h268 h267
                                refine AC.takeb 12 h268 rfl (by kernel_rfl) (by kernel_rfl) (fun c' hle => (by kernel_rfl)) ?_
                                refine AC.takeK 13 (.agg #[.int .i64 x_118.1.Kind, .slice a247 a248 a249]) p257 rfl (by kernel_rfl) (by kernel_rfl) (by kernel_rfl) (fun c' hle hk => (rx (by kernel_rfl) (ldEN (T := 27) (j := 0) (l := [.int .i64 x_118.1.Kind, .slice a247 a248 a249]) (by kernel_rfl) (by kernel_rfl) (hk.on 0 rfl) rfl rfl))) ?_
                                refine ta 15 (v1) ?_
                                refine ta 16 (.int .i64 s_110) ?_
                                obtain ⟨x_144, h270, H269⟩ := bs H269
                                obtain ⟨l_271, h272, m273⟩ := Sl.at (h2.mono (l13.trans (l34.trans (l108.trans (l124.trans (l129.trans (l157.trans (l217.trans (l226.trans (l241.trans (l245.trans (l251.trans l255)))))))))))) (idx_get h270)
                                obtain ⟨v274, rfl, h275⟩ := h272
                                refine AC.take 17 (.pointer (some ⟨sb v1, so v1 + s_110.toNat * 2, none⟩)) rfl (by kernel_rfl) (by kernel_rfl) (fun c' hle => (rx (by kernel_rfl) (run_index (k := .i64) Tryd.underlying22 (by kernel_rfl) (h2.mono (l13.trans (l34.trans (l108.trans (l124.trans (l129.trans (l157.trans (l217.trans (l226.trans (l241.trans (l245.trans (l251.trans l255)))))))))))) h270 _))) ?_
                                refine AC.take 18 (.agg #[.int .i64 x_144.Kind, v274]) rfl (by kernel_rfl) (by kernel_rfl) (fun c' hle => (rx (by kernel_rfl) (run_loadN (T := 27) (by kernel_rfl) (by kernel_rfl) (fun j u hu => (m273 j u hu).mono hle)))) ?_
                                refine AC.many [14, 19] (by simp) (by kernel_rfl) ⟨?_, ?_, trivial⟩
                                · skip
                                  obtain ⟨c278, h279, l278, O276, h277⟩ := O256.frz 1 rfl (h236.mono (l245.trans (l251.trans l255)))
                                  have p280 : Kp G0 [⟨.pointer (some ⟨b243, 0, none⟩), 27, [.int .i64 x_118.1.Kind, .slice a247 a248 a249], 0⟩] c278 := (Kp.cons (O276.on 0 rfl) Kp.nil0)
                                  refine Go1.gh h279 l278 (fun _ => p280) ?_
                                  refine (Go1.mem 14 rfl (by kernel_rfl) (by kernel_rfl) (Own.sl (R := R_api_Cell) (E := 27) (ls := [[.int .i64 x_118.1.Kind, .slice a247 a248 a249]]) (vs := [.int .i64 x_118.1.Kind, .slice a247 a248 a249]) (xs := ([x_118.1] : List G_api_Cell)) true O276 (Nat.succ_pos _) rfl ⟨⟨(.slice a247 a248 a249), rfl, h277⟩, trivial⟩ (by kernel_rfl) (by kernel_rfl)) ?_)
                                  rintro v285 c284 l284 ⟨u282, O281, h283⟩
                                  have p286 : Kp G0 [⟨.pointer (some ⟨b243, 0, none⟩), 27, [.int .i64 x_118.1.Kind, .slice a247 a248 a249], 0⟩] c284 := (Kp.cons (O281.on 1 rfl) Kp.nil0)
                                  refine ⟨.inr p286, ?_⟩
                                  obtain ⟨a287, a288, a289, rfl⟩ := ((h275.mono (l278.trans l284))).form
                                  refine AC.one 19 (by kernel_rfl) (Go1.mem 19 rfl (by kernel_rfl) (by kernel_rfl) (Own.sl (R := R_api_Cell) (E := 27) (ls := [[.int .i64 x_144.Kind, .slice a287 a288 a289]]) (vs := [.int .i64 x_144.Kind, .slice a287 a288 a289]) (xs := ([x_144] : List G_api_Cell)) true O281 (Nat.succ_pos _) rfl ⟨⟨(.slice a287 a288 a289), rfl, (h275.mono (l278.trans l284))⟩, trivial⟩ (by kernel_rfl) (by kernel_rfl)) ?_)
                                  rintro v294 c293 l293 ⟨u291, O290, h292⟩
                                  have p295 : Kp G0 [⟨.pointer (some ⟨b243, 0, none⟩), 27, [.int .i64 x_118.1.Kind, .slice a247 a248 a249], 0⟩] c293 := (Kp.cons (O290.on 2 rfl) Kp.nil0)
                                  refine ⟨.inr p295, ?_⟩
                                  obtain ⟨c298, h299, l298, O296, h297⟩ := O290.frz 1 rfl (h283.mono l293)
                                  have p300 : Kp G0 [⟨.pointer (some ⟨b243, 0, none⟩), 27, [.int .i64 x_118.1.Kind, .slice a247 a248 a249], 0⟩] c298 := (Kp.cons (O296.on 2 rfl) Kp.nil0)
                                  refine AC.gh h299 l298 (fun _ => p300) ?_
                                  obtain ⟨c303, h304, l303, O301, h302⟩ := O296.frz 0 rfl (h292.mono l298)
                                  have p305 : Kp G0 [⟨.pointer (some ⟨b243, 0, none⟩), 27, [.int .i64 x_118.1.Kind, .slice a247 a248 a249], 0⟩] c303 := (Kp.cons (O301.on 2 rfl) Kp.nil0)
                                  refine AC.gh h304 l303 (fun _ => p305) ?_
                                  obtain ⟨x_148, h306, H269⟩ := bs H269
                                  refine AC.one 20 (by kernel_rfl) (Go1.callP 20 rfl (by kernel_rfl) (by kernel_rfl) (by kernel_rfl) (c_linotyperef23_Same O301 ([x_118.1] : List G_api_Cell) ([x_144] : List G_api_Cell) (h297.mono l303) h302 h306) ?_)
                                  rintro v312 c311 l311 ⟨O308, rfl⟩
                                  have p313 : Kp G0 [⟨.pointer (some ⟨b243, 0, none⟩), 27, [.int .i64 x_118.1.Kind, .slice a247 a248 a249], 0⟩] c311 := (Kp.cons (O308.on 2 rfl) Kp.nil0)
                                  refine ⟨.inr p313, ?_⟩
                                  refine ta 21 (.bool (!x_148)) ?_
                                  obtain rfl := Option.some.inj H269
                                  refine ta 22 (.bool (!x_148)) ?_
                                  obtain rfl := Option.some.inj H266
                                  refine ta 23 (.bool (!x_148)) ?_
                                  rcases Bool.eq_false_or_eq_true (!x_148) with h314 | h314
                                  · skip
                                    obtain rfl := orT h314 h254
                                    refine AC.takeb 24 h314 rfl (by kernel_rfl) (by kernel_rfl) (fun c' hle => (by kernel_rfl)) ?_
                                    refine AC.pass 25 rfl (by kernel_rfl) (by kernel_rfl) ?_
                                    refine AC.pass 26 rfl (by kernel_rfl) (by kernel_rfl) ?_
                                    refine AC.pass 27 rfl (by kernel_rfl) (by kernel_rfl) ?_
                                    refine AC.pass 28 rfl (by kernel_rfl) (by kernel_rfl) ?_
                                    refine AC.pass 29 rfl (by kernel_rfl) (by kernel_rfl) ?_
                                    refine AC.pass 30 rfl (by kernel_rfl) (by kernel_rfl) ?_
                                    refine AC.pass 31 rfl (by kernel_rfl) (by kernel_rfl) ?_
                                    refine AC.pass 32 rfl (by kernel_rfl) (by kernel_rfl) ?_
                                    refine AC.pass 33 rfl (by kernel_rfl) (by kernel_rfl) ?_
                                    refine AC.pass 34 rfl (by kernel_rfl) (by kernel_rfl) ?_
                                    refine AC.pass 35 rfl (by kernel_rfl) (by kernel_rfl) ?_
                                    refine AC.pass 36 rfl (by kernel_rfl) (by kernel_rfl) ?_
                                    refine AC.pass 37 rfl (by kernel_rfl) (by kernel_rfl) ?_
                                    refine ta 38 (.bool true) ?_
                                    refine AC.done (by kernel_rfl) ?_
                                    refine nrm ?_
                                    have O315 := O308.selD 4 [2, 3] (by kernel_rfl) (by kernel_rfl)
                                    exact ⟨c311, _, rfl, (l255.trans (l278.trans (l284.trans (l293.trans (l298.trans (l303.trans l311)))))), O315, ups_self ⟨rfl, rfl, rfl, rfl, trivial⟩⟩
                                  · skip
                                    have H316 := orF h314 h254
                                    refine AC.takeb 24 h314 rfl (by kernel_rfl) (by kernel_rfl) (fun c' hle => (by kernel_rfl)) ?_
                                    refine ta 25 (.bool x_118.2) ?_
                                    refine ta 26 (.bool (!x_118.2)) ?_
                                    obtain ⟨d_154, h317, H316⟩ := bs H316
                                    rcases Bool.eq_false_or_eq_true (!x_118.2) with h318 | h318
                                    · skip
                                      have H319 := anT h318 h317
                                      refine AC.takeb 27 h318 rfl (by kernel_rfl) (by kernel_rfl) (fun c' hle => (by kernel_rfl)) ?_
                                      refine ta 28 (.pointer (some ⟨b243, 0, none⟩)) ?_
                                      refine AC.takeK 29 (.int .i64 x_118.1.Kind) p313 rfl (by kernel_rfl) (by kernel_rfl) (by kernel_rfl) (fun c' hle hk => (rx (by kernel_rfl) (ldE1 (j := 0) Tryd.underlying3 rfl (hk.on 0 rfl) rfl rfl))) ?_
                                      refine ta 30 (.bool (x_118.1.Kind != 0)) ?_
                                      obtain ⟨d_159, h320, H319⟩ := bs H319
                                      rcases Bool.eq_false_or_eq_true (x_118.1.Kind != 0) with h321 | h321
                                      · skip
                                        obtain rfl := orT h321 h320
                                        refine AC.takeb 31 h321 rfl (by kernel_rfl) (by kernel_rfl) (fun c' hle => (by kernel_rfl)) ?_
                                        refine AC.pass 32 rfl (by kernel_rfl) (by kernel_rfl) ?_
                                        refine AC.pass 33 rfl (by kernel_rfl) (by kernel_rfl) ?_
                                        refine AC.pass 34 rfl (by kernel_rfl) (by kernel_rfl) ?_
                                        refine AC.pass 35 rfl (by kernel_rfl) (by kernel_rfl) ?_
                                        refine ta 36 (.bool true) ?_
                                        obtain rfl := Option.some.inj H319
                                        refine ta 37 (.bool true) ?_
                                        obtain rfl := Option.some.inj H316
                                        refine ta 38 (.bool true) ?_
                                        refine AC.done (by kernel_rfl) ?_
                                        refine nrm ?_
                                        have O322 := O308.selD 4 [2, 3] (by kernel_rfl) (by kernel_rfl)
                                        exact ⟨c311, _, rfl, (l255.trans (l278.trans (l284.trans (l293.trans (l298.trans (l303.trans l311)))))), O322, ups_self ⟨rfl, rfl, rfl, rfl, trivial⟩⟩
                                      · skip
                                        have H323 := orF h321 h320
                                        refine AC.takeb 31 h321 rfl (by kernel_rfl) (by kernel_rfl) (fun c' hle => (by kernel_rfl)) ?_
                                        refine ta 32 (.pointer (some ⟨b243, 1, none⟩)) ?_
                                        refine AC.takeK 33 (.slice a247 a248 a249) p313 rfl (by kernel_rfl) (by kernel_rfl) (by kernel_rfl) (fun c' hle hk => (rx (by kernel_rfl) (ldE1 (j := 1) Tryd.underlying25 rfl (hk.on 0 rfl) rfl rfl))) ?_
                                        refine AC.take 34 (.int .i64 (x_118.1.Text.length : Int)) rfl (by kernel_rfl) (by kernel_rfl) (fun c' hle => (rx (by kernel_rfl) (run_lenO (ty := 3) Tryd.underlying25 (h236.mono (l245.trans (l251.trans (l255.trans (l278.trans (l284.trans (l293.trans (l298.trans (l303.trans l311))))))))) _))) ?_
                                        refine ta 35 (.bool ((x_118.1.Text.length : Int) != 0)) ?_
                                        obtain rfl := Option.some.inj H323
                                        refine ta 36 (.bool ((x_118.1.Text.length : Int) != 0)) ?_
                                        obtain rfl := Option.some.inj H319
                                        refine ta 37 (.bool ((x_118.1.Text.length : Int) != 0)) ?_
                                        obtain rfl := Option.some.inj H316
                                        refine ta 38 (.bool ((x_118.1.Text.length : Int) != 0)) ?_
                                        refine AC.done (by kernel_rfl) ?_
                                        refine nrm ?_
                                        have O324 := O308.selD 4 [2, 3] (by kernel_rfl) (by kernel_rfl)
                                        exact ⟨c311, _, rfl, (l255.trans (l278.trans (l284.trans (l293.trans (l298.trans (l303.trans l311)))))), O324, ups_self ⟨rfl, rfl, rfl, rfl, trivial⟩⟩
                                    · skip
                                      obtain rfl := anF h318 h317
                                      refine AC.takeb 27 h318 rfl (by kernel_rfl) (by kernel_rfl) (fun c' hle => (by kernel_rfl)) ?_
                                      refine AC.pass 28 rfl (by kernel_rfl) (by kernel_rfl) ?_
                                      refine AC.pass 29 rfl (by kernel_rfl) (by kernel_rfl) ?_
                                      refine AC.pass 30 rfl (by kernel_rfl) (by kernel_rfl) ?_
                                      refine AC.pass 31 rfl (by kernel_rfl) (by kernel_rfl) ?_
                                      refine AC.pass 32 rfl (by kernel_rfl) (by kernel_rfl) ?_
                                      refine AC.pass 33 rfl (by kernel_rfl) (by kernel_rfl) ?_
                                      refine AC.pass 34 rfl (by kernel_rfl) (by kernel_rfl) ?_
                                      refine AC.pass 35 rfl (by kernel_rfl) (by kernel_rfl) ?_
                                      refine AC.pass 36 rfl (by kernel_rfl) (by kernel_rfl) ?_
                                      refine ta 37 (.bool false) ?_
                                      obtain rfl := Option.some.inj H316
                                      refine ta 38 (.bool false) ?_
                                      refine AC.done (by kernel_rfl) ?_
                                      refine nrm ?_
                                      have O325 := O308.selD 4 [2, 3] (by kernel_rfl) (by kernel_rfl)
                                      exact ⟨c311, _, rfl, (l255.trans (l278.trans (l284.trans (l293.trans (l298.trans (l303.trans l311)))))), O325, ups_self ⟨rfl, rfl, rfl, rfl, trivial⟩⟩
                                · skip
                                  obtain ⟨a326, a327, a328, rfl⟩ := (h275).form
                                  refine (Go1.mem 19 rfl (by kernel_rfl) (by kernel_rfl) (Own.sl (R := R_api_Cell) (E := 27) (ls := [[.int .i64 x_144.Kind, .slice a326 a327 a328]]) (vs := [.int .i64 x_144.Kind, .slice a326 a327 a328]) (xs := ([x_144] : List G_api_Cell)) true O256 (Nat.succ_pos _) rfl ⟨⟨(.slice a326 a327 a328), rfl, h275⟩, trivial⟩ (by kernel_rfl) (by kernel_rfl)) ?_)
                                  rintro v333 c332 l332 ⟨u330, O329, h331⟩
                                  have p334 : Kp G0 [⟨.pointer (some ⟨b243, 0, none⟩), 27, [.int .i64 x_118.1.Kind, .slice a247 a248 a249], 0⟩] c332 := (Kp.cons (O329.on 1 rfl) Kp.nil0)
                                  refine ⟨.inr p334, ?_⟩
                                  obtain ⟨c337, h338, l337, O335, h336⟩ := O329.frz 2 rfl (h236.mono (l245.trans (l251.trans (l255.trans l332))))
                                  have p339 : Kp G0 [⟨.pointer (some ⟨b243, 0, none⟩), 27, [.int .i64 x_118.1.Kind, .slice a247 a248 a249], 0⟩] c337 := (Kp.cons (O335.on 1 rfl) Kp.nil0)
                                  refine AC.gh h338 l337 (fun _ => p339) ?_
                                  refine AC.one 14 (by kernel_rfl) (Go1.mem 14 rfl (by kernel_rfl) (by kernel_rfl) (Own.sl (R := R_api_Cell) (E := 27) (ls := [[.int .i64 x_118.1.Kind, .slice a247 a248 a249]]) (vs := [.int .i64 x_118.1.Kind, .slice a247 a248 a249]) (xs := ([x_118.1] : List G_api_Cell)) true O335 (Nat.succ_pos _) rfl ⟨⟨(.slice a247 a248 a249), rfl, h336⟩, trivial⟩ (by kernel_rfl) (by kernel_rfl)) ?_)
                                  rintro v344 c343 l343 ⟨u341, O340, h342⟩
                                  have p345 : Kp G0 [⟨.pointer (some ⟨b243, 0, none⟩), 27, [.int .i64 x_118.1.Kind, .slice a247 a248 a249], 0⟩] c343 := (Kp.cons (O340.on 2 rfl) Kp.nil0)
                                  refine ⟨.inr p345, ?_⟩
                                  obtain ⟨c348, h349, l348, O346, h347⟩ := O340.frz 0 rfl h342
                                  have p350 : Kp G0 [⟨.pointer (some ⟨b243, 0, none⟩), 27, [.int .i64 x_118.1.Kind, .slice a247 a248 a249], 0⟩] c348 := (Kp.cons (O346.on 2 rfl) Kp.nil0)
                                  refine AC.gh h349 l348 (fun _ => p350) ?_
                                  obtain ⟨c353, h354, l353, O351, h352⟩ := O346.frz 1 rfl (h331.mono (l337.trans (l343.trans l348)))
                                  have p355 : Kp G0 [⟨.pointer (some ⟨b243, 0, none⟩), 27, [.int .i64 x_118.1.Kind, .slice a247 a248 a249], 0⟩] c353 := (Kp.cons (O351.on 2 rfl) Kp.nil0)
                                  refine AC.gh h354 l353 (fun _ => p355) ?_
                                  obtain ⟨x_148, h356, H269⟩ := bs H269
                                  refine AC.one 20 (by kernel_rfl) (Go1.callP 20 rfl (by kernel_rfl) (by kernel_rfl) (by kernel_rfl) (c_linotyperef23_Same O351 ([x_118.1] : List G_api_Cell) ([x_144] : List G_api_Cell) (h347.mono l353) h352 h356) ?_)
                                  rintro v362 c361 l361 ⟨O358, rfl⟩
                                  have p363 : Kp G0 [⟨.pointer (some ⟨b243, 0, none⟩), 27, [.int .i64 x_118.1.Kind, .slice a247 a248 a249], 0⟩] c361 := (Kp.cons (O358.on 2 rfl) Kp.nil0)
                                  refine ⟨.inr p363, ?_⟩
                                  refine ta 21 (.bool (!x_148)) ?_
                                  obtain rfl := Option.some.inj H269
                                  refine ta 22 (.bool (!x_148)) ?_
                                  obtain rfl := Option.some.inj H266
                                  refine ta 23 (.bool (!x_148)) ?_
                                  rcases Bool.eq_false_or_eq_true (!x_148) with h364 | h364
                                  · skip
                                    obtain rfl := orT h364 h254
                                    refine AC.takeb 24 h364 rfl (by kernel_rfl) (by kernel_rfl) (fun c' hle => (by kernel_rfl)) ?_
                                    refine AC.pass 25 rfl (by kernel_rfl) (by kernel_rfl) ?_
                                    refine AC.pass 26 rfl (by kernel_rfl) (by kernel_rfl) ?_
                                    refine AC.pass 27 rfl (by kernel_rfl) (by kernel_rfl) ?_
                                    refine AC.pass 28 rfl (by kernel_rfl) (by kernel_rfl) ?_
                                    refine AC.pass 29 rfl (by kernel_rfl) (by kernel_rfl) ?_
                                    refine AC.pass 30 rfl (by kernel_rfl) (by kernel_rfl) ?_
                                    refine AC.pass 31 rfl (by kernel_rfl) (by kernel_rfl) ?_
                                    refine AC.pass 32 rfl (by kernel_rfl) (by kernel_rfl) ?_
                                    refine AC.pass 33 rfl (by kernel_rfl) (by kernel_rfl) ?_
                                    refine AC.pass 34 rfl (by kernel_rfl) (by kernel_rfl) ?_
                                    refine AC.pass 35 rfl (by kernel_rfl) (by kernel_rfl) ?_
                                    refine AC.pass 36 rfl (by kernel_rfl) (by kernel_rfl) ?_
                                    refine AC.pass 37 rfl (by kernel_rfl) (by kernel_rfl) ?_
                                    refine ta 38 (.bool true) ?_
                                    refine AC.done (by kernel_rfl) ?_
                                    refine nrm ?_
                                    have O365 := O358.selD 4 [2, 3] (by kernel_rfl) (by kernel_rfl)
                                    exact ⟨c361, _, rfl, (l255.trans (l332.trans (l337.trans (l343.trans (l348.trans (l353.trans l361)))))), O365, ups_self ⟨rfl, rfl, rfl, rfl, trivial⟩⟩
                                  · skip
                                    have H366 := orF h364 h254
                                    refine AC.takeb 24 h364 rfl (by kernel_rfl) (by kernel_rfl) (fun c' hle => (by kernel_rfl)) ?_
                                    refine ta 25 (.bool x_118.2) ?_
                                    refine ta 26 (.bool (!x_118.2)) ?_
                                    obtain ⟨d_154, h367, H366⟩ := bs H366
                                    rcases Bool.eq_false_or_eq_true (!x_118.2) with h368 | h368
                                    · skip
                                      have H369 := anT h368 h367
                                      refine AC.takeb 27 h368 rfl (by kernel_rfl) (by kernel_rfl) (fun c' hle => (by kernel_rfl)) ?_
                                      refine ta 28 (.pointer (some ⟨b243, 0, none⟩)) ?_
                                      refine AC.takeK 29 (.int .i64 x_118.1.Kind) p363 rfl (by kernel_rfl) (by kernel_rfl) (by kernel_rfl) (fun c' hle hk => (rx (by kernel_rfl) (ldE1 (j := 0) Tryd.underlying3 rfl (hk.on 0 rfl) rfl rfl))) ?_
                                      refine ta 30 (.bool (x_118.1.Kind != 0)) ?_
                                      obtain ⟨d_159, h370, H369⟩ := bs H369
                                      rcases Bool.eq_false_or_eq_true (x_118.1.Kind != 0) with h371 | h371
                                      · skip
                                        obtain rfl := orT h371 h370
                                        refine AC.takeb 31 h371 rfl (by kernel_rfl) (by kernel_rfl) (fun c' hle => (by kernel_rfl)) ?_
                                        refine AC.pass 32 rfl (by kernel_rfl) (by kernel_rfl) ?_
                                        refine AC.pass 33 rfl (by kernel_rfl) (by kernel_rfl) ?_
                                        refine AC.pass 34 rfl (by kernel_rfl) (by kernel_rfl) ?_
                                        refine AC.pass 35 rfl (by kernel_rfl) (by kernel_rfl) ?_
                                        refine ta 36 (.bool true) ?_
                                        obtain rfl := Option.some.inj H369
                                        refine ta 37 (.bool true) ?_
                                        obtain rfl := Option.some.inj H366
                                        refine ta 38 (.bool true) ?_
                                        refine AC.done (by kernel_rfl) ?_
                                        refine nrm ?_
                                        have O372 := O358.selD 4 [2, 3] (by kernel_rfl) (by kernel_rfl)
                                        exact ⟨c361, _, rfl, (l255.trans (l332.trans (l337.trans (l343.trans (l348.trans (l353.trans l361)))))), O372, ups_self ⟨rfl, rfl, rfl, rfl, trivial⟩⟩
                                      · skip
                                        have H373 := orF h371 h370
                                        refine AC.takeb 31 h371 rfl (by kernel_rfl) (by kernel_rfl) (fun c' hle => (by kernel_rfl)) ?_
                                        refine ta 32 (.pointer (some ⟨b243, 1, none⟩)) ?_
                                        refine AC.takeK 33 (.slice a247 a248 a249) p363 rfl (by kernel_rfl) (by kernel_rfl) (by kernel_rfl) (fun c' hle hk => (rx (by kernel_rfl) (ldE1 (j := 1) Tryd.underlying25 rfl (hk.on 0 rfl) rfl rfl))) ?_
                                        refine AC.take 34 (.int .i64 (x_118.1.Text.length : Int)) rfl (by kernel_rfl) (by kernel_rfl) (fun c' hle => (rx (by kernel_rfl) (run_lenO (ty := 3) Tryd.underlying25 (h236.mono (l245.trans (l251.trans (l255.trans (l332.trans (l337.trans (l343.trans (l348.trans (l353.trans l361))))))))) _))) ?_
                                        refine ta 35 (.bool ((x_118.1.Text.length : Int) != 0)) ?_
                                        obtain rfl := Option.some.inj H373
                                        refine ta 36 (.bool ((x_118.1.Text.length : Int) != 0)) ?_
                                        obtain rfl := Option.some.inj H369
                                        refine ta 37 (.bool ((x_118.1.Text.length : Int) != 0)) ?_
                                        obtain rfl := Option.some.inj H366
                                        refine ta 38 (.bool ((x_118.1.Text.length : Int) != 0)) ?_
                                        refine AC.done (by kernel_rfl) ?_
                                        refine nrm ?_
                                        have O374 := O358.selD 4 [2, 3] (by kernel_rfl) (by kernel_rfl)
                                        exact ⟨c361, _, rfl, (l255.trans (l332.trans (l337.trans (l343.trans (l348.trans (l353.trans l361)))))), O374, ups_self ⟨rfl, rfl, rfl, rfl, trivial⟩⟩
                                    · skip
                                      obtain rfl := anF h368 h367
                                      refine AC.takeb 27 h368 rfl (by kernel_rfl) (by kernel_rfl) (fun c' hle => (by kernel_rfl)) ?_
                                      refine AC.pass 28 rfl (by kernel_rfl) (by kernel_rfl) ?_
                                      refine AC.pass 29 rfl (by kernel_rfl) (by kernel_rfl) ?_
                                      refine AC.pass 30 rfl (by kernel_rfl) (by kernel_rfl) ?_
                                      refine AC.pass 31 rfl (by kernel_rfl) (by kernel_rfl) ?_
                                      refine AC.pass 32 rfl (by kernel_rfl) (by kernel_rfl) ?_
                                      refine AC.pass 33 rfl (by kernel_rfl) (by kernel_rfl) ?_
                                      refine AC.pass 34 rfl (by kernel_rfl) (by kernel_rfl) ?_
                                      refine AC.pass 35 rfl (by kernel_rfl) (by kernel_rfl) ?_
                                      refine AC.pass 36 rfl (by kernel_rfl) (by kernel_rfl) ?_
                                      refine ta 37 (.bool false) ?_
                                      obtain rfl := Option.some.inj H366
                                      refine ta 38 (.bool false) ?_
                                      refine AC.done (by kernel_rfl) ?_
                                      refine nrm ?_
                                      have O375 := O358.selD 4 [2, 3] (by kernel_rfl) (by kernel_rfl)
                                      exact ⟨c361, _, rfl, (l255.trans (l332.trans (l337.trans (l343.trans (l348.trans (l353.trans l361)))))), O375, ups_self ⟨rfl, rfl, rfl, rfl, trivial⟩⟩
                              · skip
                                obtain rfl := anF h268 h267
                                refine AC.takeb 12 h268 rfl (by kernel_rfl) (by kernel_rfl) (fun c' hle => (by kernel_rfl)) ?_
                                refine AC.pass 13 rfl (by kernel_rfl) (by kernel_rfl) ?_
                                refine AC.pass 15 rfl (by kernel_rfl) (by kernel_rfl) ?_
                                refine AC.pass 16 rfl (by kernel_rfl) (by kernel_rfl) ?_
                                refine AC.pass 17 rfl (by kernel_rfl) (by kernel_rfl) ?_
                                refine AC.pass 18 rfl (by kernel_rfl) (by kernel_rfl) ?_
                                refine AC.pass 14 rfl (by kernel_rfl) (by kernel_rfl) ?_
                                refine AC.pass 19 rfl (by kernel_rfl) (by kernel_rfl) ?_
                                refine AC.pass 20 rfl (by kernel_rfl) (by kernel_rfl) ?_
                                refine AC.pass 21 rfl (by kernel_rfl) (by kernel_rfl) ?_
                                refine ta 22 (.bool false) ?_
                                obtain rfl := Option.some.inj H266
                                refine ta 23 (.bool false) ?_
                                have h376 : false = false := rfl
                                have H377 := orF h376 h254
                                refine AC.takeb 24 h376 rfl (by kernel_rfl) (by kernel_rfl) (fun c' hle => (by kernel_rfl)) ?_
                                refine ta 25 (.bool x_118.2) ?_
                                refine ta 26 (.bool (!x_118.2)) ?_
                                obtain ⟨d_154, h378, H377⟩ := bs H377
                                rcases Bool.eq_false_or_eq_true (!x_118.2) with h379 | h379
                                · skip
                                  have H380 := anT h379 h378
                                  refine AC.takeb 27 h379 rfl (by kernel_rfl) (by kernel_rfl) (fun c' hle => (by kernel_rfl)) ?_
                                  refine ta 28 (.pointer (some ⟨b243, 0, none⟩)) ?_
                                  refine AC.takeK 29 (.int .i64 x_118.1.Kind) p257 rfl (by kernel_rfl) (by kernel_rfl) (by kernel_rfl) (fun c' hle hk => (rx (by kernel_rfl) (ldE1 (j := 0) Tryd.underlying3 rfl (hk.on 0 rfl) rfl rfl))) ?_
                                  refine ta 30 (.bool (x_118.1.Kind != 0)) ?_
                                  obtain ⟨d_159, h381, H380⟩ := bs H380
                                  rcases Bool.eq_false_or_eq_true (x_118.1.Kind != 0) with h382 | h382
                                  · skip
                                    obtain rfl := orT h382 h381
                                    refine AC.takeb 31 h382 rfl (by kernel_rfl) (by kernel_rfl) (fun c' hle => (by kernel_rfl)) ?_
                                    refine AC.pass 32 rfl (by kernel_rfl) (by kernel_rfl) ?_
                                    refine AC.pass 33 rfl (by kernel_rfl) (by kernel_rfl) ?_
                                    refine AC.pass 34 rfl (by kernel_rfl) (by kernel_rfl) ?_
                                    refine AC.pass 35 rfl (by kernel_rfl) (by kernel_rfl) ?_
                                    refine ta 36 (.bool true) ?_
                                    obtain rfl := Option.some.inj H380
                                    refine ta 37 (.bool true) ?_
                                    obtain rfl := Option.some.inj H377
                                    refine ta 38 (.bool true) ?_
                                    refine AC.done (by kernel_rfl) ?_
                                    refine nrm ?_
                                    obtain ⟨c385, h386, l385, O383, h384⟩ := O256.frz 1 rfl (h236.mono (l245.trans (l251.trans l255)))
                                    exact ⟨c385, _, h386.symm, (l255.trans l385), O383, ups_self ⟨rfl, rfl, rfl, rfl, trivial⟩⟩
                                  · skip
                                    have H387 := orF h382 h381
                                    refine AC.takeb 31 h382 rfl (by kernel_rfl) (by kernel_rfl) (fun c' hle => (by kernel_rfl)) ?_
                                    refine ta 32 (.pointer (some ⟨b243, 1, none⟩)) ?_
                                    refine AC.takeK 33 (.slice a247 a248 a249) p257 rfl (by kernel_rfl) (by kernel_rfl) (by kernel_rfl) (fun c' hle hk => (rx (by kernel_rfl) (ldE1 (j := 1) Tryd.underlying25 rfl (hk.on 0 rfl) rfl rfl))) ?_
                                    refine AC.take 34 (.int .i64 (x_118.1.Text.length : Int)) rfl (by kernel_rfl) (by kernel_rfl) (fun c' hle => (rx (by kernel_rfl) (run_lenO (ty := 3) Tryd.underlying25 (h236.mono (l245.trans (l251.trans l255))) _))) ?_
                                    refine ta 35 (.bool ((x_118.1.Text.length : Int) != 0)) ?_
                                    obtain rfl := Option.some.inj H387
                                    refine ta 36 (.bool ((x_118.1.Text.length : Int) != 0)) ?_
                                    obtain rfl := Option.some.inj H380
                                    refine ta 37 (.bool ((x_118.1.Text.length : Int) != 0)) ?_
                                    obtain rfl := Option.some.inj H377
                                    refine ta 38 (.bool ((x_118.1.Text.length : Int) != 0)) ?_
                                    refine AC.done (by kernel_rfl) ?_
                                    refine nrm ?_
                                    obtain ⟨c390, h391, l390, O388, h389⟩ := O256.frz 1 rfl (h236.mono (l245.trans (l251.trans l255)))
                                    exact ⟨c390, _, h391.symm, (l255.trans l390), O388, ups_self ⟨rfl, rfl, rfl, rfl, trivial⟩⟩
                                · skip
                                  obtain rfl := anF h379 h378
                                  refine AC.takeb 27 h379 rfl (by kernel_rfl) (by kernel_rfl) (fun c' hle => (by kernel_rfl)) ?_
                                  refine AC.pass 28 rfl (by kernel_rfl) (by kernel_rfl) ?_
                                  refine AC.pass 29 rfl (by kernel_rfl) (by kernel_rfl) ?_
                                  refine AC.pass 30 rfl (by kernel_rfl) (by kernel_rfl) ?_
                                  refine AC.pass 31 rfl (by kernel_rfl) (by kernel_rfl) ?_
                                  refine AC.pass 32 rfl (by kernel_rfl) (by kernel_rfl) ?_
                                  refine AC.pass 33 rfl (by kernel_rfl) (by kernel_rfl) ?_
                                  refine AC.pass 34 rfl (by kernel_rfl) (by kernel_rfl) ?_
                                  refine AC.pass 35 rfl (by kernel_rfl) (by kernel_rfl) ?_
                                  refine AC.pass 36 rfl (by kernel_rfl) (by kernel_rfl) ?_
                                  refine ta 37 (.bool false) ?_
                                  obtain rfl := Option.some.inj H377
                                  refine ta 38 (.bool false) ?_
                                  refine AC.done (by kernel_rfl) ?_
                                  refine nrm ?_
                                  obtain ⟨c394, h395, l394, O392, h393⟩ := O256.frz 1 rfl (h236.mono (l245.trans (l251.trans l255)))
                                  exact ⟨c394, _, h395.symm, (l255.trans l394), O392, ups_self ⟨rfl, rfl, rfl, rfl, trivial⟩⟩
                          · skip
                            obtain rfl := anF h258 h252
                            refine AC.takeb 3 h258 rfl (by kernel_rfl) (by kernel_rfl) (fun c' hle => (by kernel_rfl)) ?_
                            refine AC.pass 4 rfl (by kernel_rfl) (by kernel_rfl) ?_
                            refine AC.pass 5 rfl (by kernel_rfl) (by kernel_rfl) ?_
                            refine AC.pass 6 rfl (by kernel_rfl) (by kernel_rfl) ?_
                            refine AC.pass 7 rfl (by kernel_rfl) (by kernel_rfl) ?_
                            refine ta 8 (.bool false) ?_
                            refine ta 9 (.bool (!(x_118.2 == false))) ?_
                            rcases Bool.eq_false_or_eq_true (!(x_118.2 == false)) with h396 | h396
                            · skip
                              obtain rfl := orT h396 h253
                              refine AC.takeb 10 h396 rfl (by kernel_rfl) (by kernel_rfl) (fun c' hle => (by kernel_rfl)) ?_
                              refine AC.pass 11 rfl (by kernel_rfl) (by kernel_rfl) ?_
                              refine AC.pass 12 rfl (by kernel_rfl) (by kernel_rfl) ?_
                              refine AC.pass 13 rfl (by kernel_rfl) (by kernel_rfl) ?_
                              refine AC.pass 15 rfl (by kernel_rfl) (by kernel_rfl) ?_
                              refine AC.pass 16 rfl (by kernel_rfl) (by kernel_rfl) ?_
                              refine AC.pass 17 rfl (by kernel_rfl) (by kernel_rfl) ?_
                              refine AC.pass 18 rfl (by kernel_rfl) (by kernel_rfl) ?_
                              refine AC.pass 14 rfl (by kernel_rfl) (by kernel_rfl) ?_
                              refine AC.pass 19 rfl (by kernel_rfl) (by kernel_rfl) ?_
                              refine AC.pass 20 rfl (by kernel_rfl) (by kernel_rfl) ?_
                              refine AC.pass 21 rfl (by kernel_rfl) (by kernel_rfl) ?_
                              refine AC.pass 22 rfl (by kernel_rfl) (by kernel_rfl) ?_
                              refine ta 23 (.bool true) ?_
                              have h397 : true = true := rfl
                              obtain rfl := orT h397 h254
                              refine AC.takeb 24 h397 rfl (by kernel_rfl) (by kernel_rfl) (fun c' hle => (by kernel_rfl)) ?_
                              refine AC.pass 25 rfl (by kernel_rfl) (by kernel_rfl) ?_
                              refine AC.pass 26 rfl (by kernel_rfl) (by kernel_rfl) ?_
                              refine AC.pass 27 rfl (by kernel_rfl) (by kernel_rfl) ?_
                              refine AC.pass 28 rfl (by kernel_rfl) (by kernel_rfl) ?_
                              refine AC.pass 29 rfl (by kernel_rfl) (by kernel_rfl) ?_
                              refine AC.pass 30 rfl (by kernel_rfl) (by kernel_rfl) ?_
                              refine AC.pass 31 rfl (by kernel_rfl) (by kernel_rfl) ?_
                              refine AC.pass 32 rfl (by kernel_rfl) (by kernel_rfl) ?_
                              refine AC.pass 33 rfl (by kernel_rfl) (by kernel_rfl) ?_
                              refine AC.pass 34 rfl (by kernel_rfl) (by kernel_rfl) ?_
                              refine AC.pass 35 rfl (by kernel_rfl) (by kernel_rfl) ?_
                              refine AC.pass 36 rfl (by kernel_rfl) (by kernel_rfl) ?_
                              refine AC.pass 37 rfl (by kernel_rfl) (by kernel_rfl) ?_
                              refine ta 38 (.bool true) ?_
                              refine AC.done (by kernel_rfl) ?_
                              refine nrm ?_
                              obtain ⟨c400, h401, l400, O398, h399⟩ := O256.frz 1 rfl (h236.mono (l245.trans (l251.trans l255)))
                              exact ⟨c400, _, h401.symm, (l255.trans l400), O398, ups_self ⟨rfl, rfl, rfl, rfl, trivial⟩⟩
                            · skip
                              have H402 := orF h396 h253
                              refine AC.takeb 10 h396 rfl (by kernel_rfl) (by kernel_rfl) (fun c' hle => (by kernel_rfl)) ?_
                              refine ta 11 (.bool x_118.2) ?_
                              obtain ⟨d_139, h403, H402⟩ := bs H402
                              rcases Bool.eq_false_or_eq_true (x_118.2) with h404 | h404
                              · skip
                                have H405 := anT h404 h403
                                refine AC.takeb 12 h404 rfl (by kernel_rfl) (by kernel_rfl) (fun c' hle => (by kernel_rfl)) ?_
                                refine AC.takeK 13 (.agg #[.int .i64 x_118.1.Kind, .slice a247 a248 a249]) p257 rfl (by kernel_rfl) (by kernel_rfl) (by kernel_rfl) (fun c' hle hk => (rx (by kernel_rfl) (ldEN (T := 27) (j := 0) (l := [.int .i64 x_118.1.Kind, .slice a247 a248 a249]) (by kernel_rfl) (by kernel_rfl) (hk.on 0 rfl) rfl rfl))) ?_
                                refine ta 15 (v1) ?_
                                refine ta 16 (.int .i64 s_110) ?_
                                obtain ⟨x_144, h406, H405⟩ := bs H405
                                obtain ⟨l_407, h408, m409⟩ := Sl.at (h2.mono (l13.trans (l34.trans (l108.trans (l124.trans (l129.trans (l157.trans (l217.trans (l226.trans (l241.trans (l245.trans (l251.trans l255)))))))))))) (idx_get h406)
                                obtain ⟨v410, rfl, h411⟩ := h408
                                refine AC.take 17 (.pointer (some ⟨sb v1, so v1 + s_110.toNat * 2, none⟩)) rfl (by kernel_rfl) (by kernel_rfl) (fun c' hle => (rx (by kernel_rfl) (run_index (k := .i64) Tryd.underlying22 (by kernel_rfl) (h2.mono (l13.trans (l34.trans (l108.trans (l124.trans (l129.trans (l157.trans (l217.trans (l226.trans (l241.trans (l245.trans (l251.trans l255)))))))))))) h406 _))) ?_
                                refine AC.take 18 (.agg #[.int .i64 x_144.Kind, v410]) rfl (by kernel_rfl) (by kernel_rfl) (fun c' hle => (rx (by kernel_rfl) (run_loadN (T := 27) (by kernel_rfl) (by kernel_rfl) (fun j u hu => (m409 j u hu).mono hle)))) ?_
                                refine AC.many [14, 19] (by simp) (by kernel_rfl) ⟨?_, ?_, trivial⟩
                                · skip
                                  obtain ⟨c414, h415, l414, O412, h413⟩ := O256.frz 1 rfl (h236.mono (l245.trans (l251.trans l255)))
                                  have p416 : Kp G0 [⟨.pointer (some ⟨b243, 0, none⟩), 27, [.int .i64 x_118.1.Kind, .slice a247 a248 a249], 0⟩] c414 := (Kp.cons (O412.on 0 rfl) Kp.nil0)
                                  refine Go1.gh h415 l414 (fun _ => p416) ?_
                                  refine (Go1.mem 14 rfl (by kernel_rfl) (by kernel_rfl) (Own.sl (R := R_api_Cell) (E := 27) (ls := [[.int .i64 x_118.1.Kind, .slice a247 a248 a249]]) (vs := [.int .i64 x_118.1.Kind, .slice a247 a248 a249]) (xs := ([x_118.1] : List G_api_Cell)) true O412 (Nat.succ_pos _) rfl ⟨⟨(.slice a247 a248 a249), rfl, h413⟩, trivial⟩ (by kernel_rfl) (by kernel_rfl)) ?_)
                                  rintro v421 c420 l420 ⟨u418, O417, h419⟩
                                  have p422 : Kp G0 [⟨.pointer (some ⟨b243, 0, none⟩), 27, [.int .i64 x_118.1.Kind, .slice a247 a248 a249], 0⟩] c420 := (Kp.cons (O417.on 1 rfl) Kp.nil0)
                                  refine ⟨.inr p422, ?_⟩
                                  obtain ⟨a423, a424, a425, rfl⟩ := ((h411.mono (l414.trans l420))).form
                                  refine AC.one 19 (by kernel_rfl) (Go1.mem 19 rfl (by kernel_rfl) (by kernel_rfl) (Own.sl (R := R_api_Cell) (E := 27) (ls := [[.int .i64 x_144.Kind, .slice a423 a424 a425]]) (vs := [.int .i64 x_144.Kind, .slice a423 a424 a425]) (xs := ([x_144] : List G_api_Cell)) true O417 (Nat.succ_pos _) rfl ⟨⟨(.slice a423 a424 a425), rfl, (h411.mono (l414.trans l420))⟩, trivial⟩ (by kernel_rfl) (by kernel_rfl)) ?_)
                                  rintro v430 c429 l429 ⟨u427, O426, h428⟩
                                  have p431 : Kp G0 [⟨.pointer (some ⟨b243, 0, none⟩), 27, [.int .i64 x_118.1.Kind, .slice a247 a248 a249], 0⟩] c429 := (Kp.cons (O426.on 2 rfl) Kp.nil0)
                                  refine ⟨.inr p431, ?_⟩
                                  obtain ⟨c434, h435, l434, O432, h433⟩ := O426.frz 1 rfl (h419.mono l429)
                                  have p436 : Kp G0 [⟨.pointer (some ⟨b243, 0, none⟩), 27, [.int .i64 x_118.1.Kind, .slice a247 a248 a249], 0⟩] c434 := (Kp.cons (O432.on 2 rfl) Kp.nil0)
                                  refine AC.gh h435 l434 (fun _ => p436) ?_
                                  obtain ⟨c439, h440, l439, O437, h438⟩ := O432.frz 0 rfl (h428.mono l434)
                                  have p441 : Kp G0 [⟨.pointer (some ⟨b243, 0, none⟩), 27, [.int .i64 x_118.1.Kind, .slice a247 a248 a249], 0⟩] c439 := (Kp.cons (O437.on 2 rfl) Kp.nil0)
                                  refine AC.gh h440 l439 (fun _ => p441) ?_
                                  obtain ⟨x_148, h442, H405⟩ := bs H405
                                  refine AC.one 20 (by kernel_rfl) (Go1.callP 20 rfl (by kernel_rfl) (by kernel_rfl) (by kernel_rfl) (c_linotyperef23_Same O437 ([x_118.1] : List G_api_Cell) ([x_144] : List G_api_Cell) (h433.mono l439) h438 h442) ?_)
                                  rintro v448 c447 l447 ⟨O444, rfl⟩
                                  have p449 : Kp G0 [⟨.pointer (some ⟨b243, 0, none⟩), 27, [.int .i64 x_118.1.Kind, .slice a247 a248 a249], 0⟩] c447 := (Kp.cons (O444.on 2 rfl) Kp.nil0)
                                  refine ⟨.inr p449, ?_⟩
                                  refine ta 21 (.bool (!x_148)) ?_
                                  obtain rfl := Option.some.inj H405
                                  refine ta 22 (.bool (!x_148)) ?_
                                  obtain rfl := Option.some.inj H402
                                  refine ta 23 (.bool (!x_148)) ?_
                                  rcases Bool.eq_false_or_eq_true (!x_148) with h450 | h450
                                  · skip
                                    obtain rfl := orT h450 h254
                                    refine AC.takeb 24 h450 rfl (by kernel_rfl) (by kernel_rfl) (fun c' hle => (by kernel_rfl)) ?_
                                    refine AC.pass 25 rfl (by kernel_rfl) (by kernel_rfl) ?_
                                    refine AC.pass 26 rfl (by kernel_rfl) (by kernel_rfl) ?_
                                    refine AC.pass 27 rfl (by kernel_rfl) (by kernel_rfl) ?_
                                    refine AC.pass 28 rfl (by kernel_rfl) (by kernel_rfl) ?_
                                    refine AC.pass 29 rfl (by kernel_rfl) (by kernel_rfl) ?_
                                    refine AC.pass 30 rfl (by kernel_rfl) (by kernel_rfl) ?_
                                    refine AC.pass 31 rfl (by kernel_rfl) (by kernel_rfl) ?_
                                    refine AC.pass 32 rfl (by kernel_rfl) (by kernel_rfl) ?_
                                    refine AC.pass 33 rfl (by kernel_rfl) (by kernel_rfl) ?_
                                    refine AC.pass 34 rfl (by kernel_rfl) (by kernel_rfl) ?_
                                    refine AC.pass 35 rfl (by kernel_rfl) (by kernel_rfl) ?_
                                    refine AC.pass 36 rfl (by kernel_rfl) (by kernel_rfl) ?_
                                    refine AC.pass 37 rfl (by kernel_rfl) (by kernel_rfl) ?_
                                    refine ta 38 (.bool true) ?_
                                    refine AC.done (by kernel_rfl) ?_
                                    refine nrm ?_
                                    have O451 := O444.selD 4 [2, 3] (by kernel_rfl) (by kernel_rfl)
                                    exact ⟨c447, _, rfl, (l255.trans (l414.trans (l420.trans (l429.trans (l434.trans (l439.trans l447)))))), O451, ups_self ⟨rfl, rfl, rfl, rfl, trivial⟩⟩
                                  · skip
                                    have H452 := orF h450 h254
                                    refine AC.takeb 24 h450 rfl (by kernel_rfl) (by kernel_rfl) (fun c' hle => (by kernel_rfl)) ?_
                                    refine ta 25 (.bool x_118.2) ?_
                                    refine ta 26 (.bool (!x_118.2)) ?_
                                    obtain ⟨d_154, h453, H452⟩ := bs H452
                                    rcases Bool.eq_false_or_eq_true (!x_118.2) with h454 | h454
                                    · skip
                                      have H455 := anT h454 h453
                                      refine AC.takeb 27 h454 rfl (by kernel_rfl) (by kernel_rfl) (fun c' hle => (by kernel_rfl)) ?_
                                      refine ta 28 (.pointer (some ⟨b243, 0, none⟩)) ?_
                                      refine AC.takeK 29 (.int .i64 x_118.1.Kind) p449 rfl (by kernel_rfl) (by kernel_rfl) (by kernel_rfl) (fun c' hle hk => (rx (by kernel_rfl) (ldE1 (j := 0) Tryd.underlying3 rfl (hk.on 0 rfl) rfl rfl))) ?_
                                      refine ta 30 (.bool (x_118.1.Kind != 0)) ?_
                                      obtain ⟨d_159, h456, H455⟩ := bs H455
                                      rcases Bool.eq_false_or_eq_true (x_118.1.Kind != 0) with h457 | h457
                                      · skip
                                        obtain rfl := orT h457 h456
                                        refine AC.takeb 31 h457 rfl (by kernel_rfl) (by kernel_rfl) (fun c' hle => (by kernel_rfl)) ?_
                                        refine AC.pass 32 rfl (by kernel_rfl) (by kernel_rfl) ?_
                                        refine AC.pass 33 rfl (by kernel_rfl) (by kernel_rfl) ?_
                                        refine AC.pass 34 rfl (by kernel_rfl) (by kernel_rfl) ?_
                                        refine AC.pass 35 rfl (by kernel_rfl) (by kernel_rfl) ?_
                                        refine ta 36 (.bool true) ?_
                                        obtain rfl := Option.some.inj H455
                                        refine ta 37 (.bool true) ?_
                                        obtain rfl := Option.some.inj H452
                                        refine ta 38 (.bool true) ?_
                                        refine AC.done (by kernel_rfl) ?_
                                        refine nrm ?_
                                        have O458 := O444.selD 4 [2, 3] (by kernel_rfl) (by kernel_rfl)
                                        exact ⟨c447, _, rfl, (l255.trans (l414.trans (l420.trans (l429.trans (l434.trans (l439.trans l447)))))), O458, ups_self ⟨rfl, rfl, rfl, rfl, trivial⟩⟩
                                      · skip
                                        have H459 := orF h457 h456
                                        refine AC.takeb 31 h457 rfl (by kernel_rfl) (by kernel_rfl) (fun c' hle => (by kernel_rfl)) ?_
                                        refine ta 32 (.pointer (some ⟨b243, 1, none⟩)) ?_
                                        refine AC.takeK 33 (.slice a247 a248 a249) p449 rfl (by kernel_rfl) (by kernel_rfl) (by kernel_rfl) (fun c' hle hk => (rx (by kernel_rfl) (ldE1 (j := 1) Tryd.underlying25 rfl (hk.on 0 rfl) rfl rfl))) ?_
                                        refine AC.take 34 (.int .i64 (x_118.1.Text.length : Int)) rfl (by kernel_rfl) (by kernel_rfl) (fun c' hle => (rx (by kernel_rfl) (run_lenO (ty := 3) Tryd.underlying25 (h236.mono (l245.trans (l251.trans (l255.trans (l414.trans (l420.trans (l429.trans (l434.trans (l439.trans l447))))))))) _))) ?_
                                        refine ta 35 (.bool ((x_118.1.Text.length : Int) != 0)) ?_
                                        obtain rfl := Option.some.inj H459
                                        refine ta 36 (.bool ((x_118.1.Text.length : Int) != 0)) ?_
                                        obtain rfl := Option.some.inj H455
                                        refine ta 37 (.bool ((x_118.1.Text.length : Int) != 0)) ?_
                                        obtain rfl := Option.some.inj H452
                                        refine ta 38 (.bool ((x_118.1.Text.length : Int) != 0)) ?_
                                        refine AC.done (by kernel_rfl) ?_
                                        refine nrm ?_
                                        have O460 := O444.selD 4 [2, 3] (by kernel_rfl) (by kernel_rfl)
                                        exact ⟨c447, _, rfl, (l255.trans (l414.trans (l420.trans (l429.trans (l434.trans (l439.trans l447)))))), O460, ups_self ⟨rfl, rfl, rfl, rfl, trivial⟩⟩
                                    · skip
                                      obtain rfl := anF h454 h453
                                      refine AC.takeb 27 h454 rfl (by kernel_rfl) (by kernel_rfl) (fun c' hle => (by kernel_rfl)) ?_
                                      refine AC.pass 28 rfl (by kernel_rfl) (by kernel_rfl) ?_
                                      refine AC.pass 29 rfl (by kernel_rfl) (by kernel_rfl) ?_
                                      refine AC.pass 30 rfl (by kernel_rfl) (by kernel_rfl) ?_
                                      refine AC.pass 31 rfl (by kernel_rfl) (by kernel_rfl) ?_
                                      refine AC.pass 32 rfl (by kernel_rfl) (by kernel_rfl) ?_
                                      refine AC.pass 33 rfl (by kernel_rfl) (by kernel_rfl) ?_
                                      refine AC.pass 34 rfl (by kernel_rfl) (by kernel_rfl) ?_
                                      refine AC.pass 35 rfl (by kernel_rfl) (by kernel_rfl) ?_
                                      refine AC.pass 36 rfl (by kernel_rfl) (by kernel_rfl) ?_
                                      refine ta 37 (.bool false) ?_
                                      obtain rfl := Option.some.inj H452
                                      refine ta 38 (.bool false) ?_
                                      refine AC.done (by kernel_rfl) ?_
                                      refine nrm ?_
                                      have O461 := O444.selD 4 [2, 3] (by kernel_rfl) (by kernel_rfl)
                                      exact ⟨c447, _, rfl, (l255.trans (l414.trans (l420.trans (l429.trans (l434.trans (l439.trans l447)))))), O461, ups_self ⟨rfl, rfl, rfl, rfl, trivial⟩⟩
                                · skip
                                  obtain ⟨a462, a463, a464, rfl⟩ := (h411).form
                                  refine (Go1.mem 19 rfl (by kernel_rfl) (by kernel_rfl) (Own.sl (R := R_api_Cell) (E := 27) (ls := [[.int .i64 x_144.Kind, .slice a462 a463 a464]]) (vs := [.int .i64 x_144.Kind, .slice a462 a463 a464]) (xs := ([x_144] : List G_api_Cell)) true O256 (Nat.succ_pos _) rfl ⟨⟨(.slice a462 a463 a464), rfl, h411⟩, trivial⟩ (by kernel_rfl) (by kernel_rfl)) ?_)
                                  rintro v469 c468 l468 ⟨u466, O465, h467⟩
                                  have p470 : Kp G0 [⟨.pointer (some ⟨b243, 0, none⟩), 27, [.int .i64 x_118.1.Kind, .slice a247 a248 a249], 0⟩] c468 := (Kp.cons (O465.on 1 rfl) Kp.nil0)
                                  refine ⟨.inr p470, ?_⟩
                                  obtain ⟨c473, h474, l473, O471, h472⟩ := O465.frz 2 rfl (h236.mono (l245.trans (l251.trans (l255.trans l468))))
                                  have p475 : Kp G0 [⟨.pointer (some ⟨b243, 0, none⟩), 27, [.int .i64 x_118.1.Kind, .slice a247 a248 a249], 0⟩] c473 := (Kp.cons (O471.on 1 rfl) Kp.nil0)
                                  refine AC.gh h474 l473 (fun _ => p475) ?_
                                  refine AC.one 14 (by kernel_rfl) (Go1.mem 14 rfl (by kernel_rfl) (by kernel_rfl) (Own.sl (R := R_api_Cell) (E := 27) (ls := [[.int .i64 x_118.1.Kind, .slice a247 a248 a249]]) (vs := [.int .i64 x_118.1.Kind, .slice a247 a248 a249]) (xs := ([x_118.1] : List G_api_Cell)) true O471 (Nat.succ_pos _) rfl ⟨⟨(.slice a247 a248 a249), rfl, h472⟩, trivial⟩ (by kernel_rfl) (by kernel_rfl)) ?_)
                                  rintro v480 c479 l479 ⟨u477, O476, h478⟩
                                  have p481 : Kp G0 [⟨.pointer (some ⟨b243, 0, none⟩), 27, [.int .i64 x_118.1.Kind, .slice a247 a248 a249], 0⟩] c479 := (Kp.cons (O476.on 2 rfl) Kp.nil0)
                                  refine ⟨.inr p481, ?_⟩
                                  obtain ⟨c484, h485, l484, O482, h483⟩ := O476.frz 0 rfl h478
                                  have p486 : Kp G0 [⟨.pointer (some ⟨b243, 0, none⟩), 27, [.int .i64 x_118.1.Kind, .slice a247 a248 a249], 0⟩] c484 := (Kp.cons (O482.on 2 rfl) Kp.nil0)
                                  refine AC.gh h485 l484 (fun _ => p486) ?_
                                  obtain ⟨c489, h490, l489, O487, h488⟩ := O482.frz 1 rfl (h467.mono (l473.trans (l479.trans l484)))
                                  have p491 : Kp G0 [⟨.pointer (some ⟨b243, 0, none⟩), 27, [.int .i64 x_118.1.Kind, .slice a247 a248 a249], 0⟩] c489 := (Kp.cons (O487.on 2 rfl) Kp.nil0)
                                  refine AC.gh h490 l489 (fun _ => p491) ?_
                                  obtain ⟨x_148, h492, H405⟩ := bs H405
                                  refine AC.one 20 (by kernel_rfl) (Go1.callP 20 rfl (by kernel_rfl) (by kernel_rfl) (by kernel_rfl) (c_linotyperef23_Same O487 ([x_118.1] : List G_api_Cell) ([x_144] : List G_api_Cell) (h483.mono l489) h488 h492) ?_)
                                  rintro v498 c497 l497 ⟨O494, rfl⟩
                                  have p499 : Kp G0 [⟨.pointer (some ⟨b243, 0, none⟩), 27, [.int .i64 x_118.1.Kind, .slice a247 a248 a249], 0⟩] c497 := (Kp.cons (O494.on 2 rfl) Kp.nil0)
                                  refine ⟨.inr p499, ?_⟩
                                  refine ta 21 (.bool (!x_148)) ?_
                                  obtain rfl := Option.some.inj H405
                                  refine ta 22 (.bool (!x_148)) ?_
                                  obtain rfl := Option.some.inj H402
                                  refine ta 23 (.bool (!x_148)) ?_
                                  rcases Bool.eq_false_or_eq_true (!x_148) with h500 | h500
                                  · skip
                                    obtain rfl := orT h500 h254
                                    refine AC.takeb 24 h500 rfl (by kernel_rfl) (by kernel_rfl) (fun c' hle => (by kernel_rfl)) ?_
                                    refine AC.pass 25 rfl (by kernel_rfl) (by kernel_rfl) ?_
                                    refine AC.pass 26 rfl (by kernel_rfl) (by kernel_rfl) ?_
                                    refine AC.pass 27 rfl (by kernel_rfl) (by kernel_rfl) ?_
                                    refine AC.pass 28 rfl (by kernel_rfl) (by kernel_rfl) ?_
                                    refine AC.pass 29 rfl (by kernel_rfl) (by kernel_rfl) ?_
                                    refine AC.pass 30 rfl (by kernel_rfl) (by kernel_rfl) ?_
                                    refine AC.pass 31 rfl (by kernel_rfl) (by kernel_rfl) ?_
                                    refine AC.pass 32 rfl (by kernel_rfl) (by kernel_rfl) ?_
                                    refine AC.pass 33 rfl (by kernel_rfl) (by kernel_rfl) ?_
                                    refine AC.pass 34 rfl (by kernel_rfl) (by kernel_rfl) ?_
                                    refine AC.pass 35 rfl (by kernel_rfl) (by kernel_rfl) ?_
                                    refine AC.pass 36 rfl (by kernel_rfl) (by kernel_rfl) ?_
                                    refine AC.pass 37 rfl (by kernel_rfl) (by kernel_rfl) ?_
                                    refine ta 38 (.bool true) ?_
                                    refine AC.done (by kernel_rfl) ?_
                                    refine nrm ?_
                                    have O501 := O494.selD 4 [2, 3] (by kernel_rfl) (by kernel_rfl)
                                    exact ⟨c497, _, rfl, (l255.trans (l468.trans (l473.trans (l479.trans (l484.trans (l489.trans l497)))))), O501, ups_self ⟨rfl, rfl, rfl, rfl, trivial⟩⟩
                                  · skip
                                    have H502 := orF h500 h254
                                    refine AC.takeb 24 h500 rfl (by kernel_rfl) (by kernel_rfl) (fun c' hle => (by kernel_rfl)) ?_
                                    refine ta 25 (.bool x_118.2) ?_
                                    refine ta 26 (.bool (!x_118.2)) ?_
                                    obtain ⟨d_154, h503, H502⟩ := bs H502
                                    rcases Bool.eq_false_or_eq_true (!x_118.2) with h504 | h504
                                    · skip
                                      have H505 := anT h504 h503
                                      refine AC.takeb 27 h504 rfl (by kernel_rfl) (by kernel_rfl) (fun c' hle => (by kernel_rfl)) ?_
                                      refine ta 28 (.pointer (some ⟨b243, 0, none⟩)) ?_
                                      refine AC.takeK 29 (.int .i64 x_118.1.Kind) p499 rfl (by kernel_rfl) (by kernel_rfl) (by kernel_rfl) (fun c' hle hk => (rx (by kernel_rfl) (ldE1 (j := 0) Tryd.underlying3 rfl (hk.on 0 rfl) rfl rfl))) ?_
                                      refine ta 30 (.bool (x_118.1.Kind != 0)) ?_
                                      obtain ⟨d_159, h506, H505⟩ := bs H505
                                      rcases Bool.eq_false_or_eq_true (x_118.1.Kind != 0) with h507 | h507
                                      · skip
                                        obtain rfl := orT h507 h506
                                        refine AC.takeb 31 h507 rfl (by kernel_rfl) (by kernel_rfl) (fun c' hle => (by kernel_rfl)) ?_
                                        refine AC.pass 32 rfl (by kernel_rfl) (by kernel_rfl) ?_
                                        refine AC.pass 33 rfl (by kernel_rfl) (by kernel_rfl) ?_
                                        refine AC.pass 34 rfl (by kernel_rfl) (by kernel_rfl) ?_
                                        refine AC.pass 35 rfl (by kernel_rfl) (by kernel_rfl) ?_
                                        refine ta 36 (.bool true) ?_
                                        obtain rfl := Option.some.inj H505
                                        refine ta 37 (.bool true) ?_
                                        obtain rfl := Option.some.inj H502
                                        refine ta 38 (.bool true) ?_
                                        refine AC.done (by kernel_rfl) ?_
                                        refine nrm ?_
                                        have O508 := O494.selD 4 [2, 3] (by kernel_rfl) (by kernel_rfl)
                                        exact ⟨c497, _, rfl, (l255.trans (l468.trans (l473.trans (l479.trans (l484.trans (l489.trans l497)))))), O508, ups_self ⟨rfl, rfl, rfl, rfl, trivial⟩⟩
                                      · skip
                                        have H509 := orF h507 h506
                                        refine AC.takeb 31 h507 rfl (by kernel_rfl) (by kernel_rfl) (fun c' hle => (by kernel_rfl)) ?_
                                        refine ta 32 (.pointer (some ⟨b243, 1, none⟩)) ?_
                                        refine AC.takeK 33 (.slice a247 a248 a249) p499 rfl (by kernel_rfl) (by kernel_rfl) (by kernel_rfl) (fun c' hle hk => (rx (by kernel_rfl) (ldE1 (j := 1) Tryd.underlying25 rfl (hk.on 0 rfl) rfl rfl))) ?_
                                        refine AC.take 34 (.int .i64 (x_118.1.Text.length : Int)) rfl (by kernel_rfl) (by kernel_rfl) (fun c' hle => (rx (by kernel_rfl) (run_lenO (ty := 3) Tryd.underlying25 (h236.mono (l245.trans (l251.trans (l255.trans (l468.trans (l473.trans (l479.trans (l484.trans (l489.trans l497))))))))) _))) ?_
                                        refine ta 35 (.bool ((x_118.1.Text.length : Int) != 0)) ?_
                                        obtain rfl := Option.some.inj H509
                                        refine ta 36 (.bool ((x_118.1.Text.length : Int) != 0)) ?_
                                        obtain rfl := Option.some.inj H505
                                        refine ta 37 (.bool ((x_118.1.Text.length : Int) != 0)) ?_
                                        obtain rfl := Option.some.inj H502
                                        refine ta 38 (.bool ((x_118.1.Text.length : Int) != 0)) ?_
                                        refine AC.done (by kernel_rfl) ?_
                                        refine nrm ?_
                                        have O510 := O494.selD 4 [2, 3] (by kernel_rfl) (by kernel_rfl)
                                        exact ⟨c497, _, rfl, (l255.trans (l468.trans (l473.trans (l479.trans (l484.trans (l489.trans l497)))))), O510, ups_self ⟨rfl, rfl, rfl, rfl, trivial⟩⟩
                                    · skip
                                      obtain rfl := anF h504 h503
                                      refine AC.takeb 27 h504 rfl (by kernel_rfl) (by kernel_rfl) (fun c' hle => (by kernel_rfl)) ?_
                                      refine AC.pass 28 rfl (by kernel_rfl) (by kernel_rfl) ?_
                                      refine AC.pass 29 rfl (by kernel_rfl) (by kernel_rfl) ?_
                                      refine AC.pass 30 rfl (by kernel_rfl) (by kernel_rfl) ?_
                                      refine AC.pass 31 rfl (by kernel_rfl) (by kernel_rfl) ?_
                                      refine AC.pass 32 rfl (by kernel_rfl) (by kernel_rfl) ?_
                                      refine AC.pass 33 rfl (by kernel_rfl) (by kernel_rfl) ?_
                                      refine AC.pass 34 rfl (by kernel_rfl) (by kernel_rfl) ?_
                                      refine AC.pass 35 rfl (by kernel_rfl) (by kernel_rfl) ?_
                                      refine AC.pass 36 rfl (by kernel_rfl) (by kernel_rfl) ?_
                                      refine ta 37 (.bool false) ?_
                                      obtain rfl := Option.some.inj H502
                                      refine ta 38 (.bool false) ?_
                                      refine AC.done (by kernel_rfl) ?_
                                      refine nrm ?_
                                      have O511 := O494.selD 4 [2, 3] (by kernel_rfl) (by kernel_rfl)
                                      exact ⟨c497, _, rfl, (l255.trans (l468.trans (l473.trans (l479.trans (l484.trans (l489.trans l497)))))), O511, ups_self ⟨rfl, rfl, rfl, rfl, trivial⟩⟩
                              · skip
                                obtain rfl := anF h404 h403
                                refine AC.takeb 12 h404 rfl (by kernel_rfl) (by kernel_rfl) (fun c' hle => (by kernel_rfl)) ?_
                                refine AC.pass 13 rfl (by kernel_rfl) (by kernel_rfl) ?_
                                refine AC.pass 15 rfl (by kernel_rfl) (by kernel_rfl) ?_
                                refine AC.pass 16 rfl (by kernel_rfl) (by kernel_rfl) ?_
                                refine AC.pass 17 rfl (by kernel_rfl) (by kernel_rfl) ?_
                                refine AC.pass 18 rfl (by kernel_rfl) (by kernel_rfl) ?_
                                refine AC.pass 14 rfl (by kernel_rfl) (by kernel_rfl) ?_
                                refine AC.pass 19 rfl (by kernel_rfl) (by kernel_rfl) ?_
                                refine AC.pass 20 rfl (by kernel_rfl) (by kernel_rfl) ?_
                                refine AC.pass 21 rfl (by kernel_rfl) (by kernel_rfl) ?_
                                refine ta 22 (.bool false) ?_
                                obtain rfl := Option.some.inj H402
                                refine ta 23 (.bool false) ?_
                                have h512 : false = false := rfl
                                have H513 := orF h512 h254
                                refine AC.takeb 24 h512 rfl (by kernel_rfl) (by kernel_rfl) (fun c' hle => (by kernel_rfl)) ?_
                                refine ta 25 (.bool x_118.2) ?_
                                refine ta 26 (.bool (!x_118.2)) ?_
                                obtain ⟨d_154, h514, H513⟩ := bs H513
                                rcases Bool.eq_false_or_eq_true (!x_118.2) with h515 | h515
                                · skip
                                  have H516 := anT h515 h514
                                  refine AC.takeb 27 h515 rfl (by kernel_rfl) (by kernel_rfl) (fun c' hle => (by kernel_rfl)) ?_
                                  refine ta 28 (.pointer (some ⟨b243, 0, none⟩)) ?_
                                  refine AC.takeK 29 (.int .i64 x_118.1.Kind) p257 rfl (by kernel_rfl) (by kernel_rfl) (by kernel_rfl) (fun c' hle hk => (rx (by kernel_rfl) (ldE1 (j := 0) Tryd.underlying3 rfl (hk.on 0 rfl) rfl rfl))) ?_
                                  refine ta 30 (.bool (x_118.1.Kind != 0)) ?_
                                  obtain ⟨d_159, h517, H516⟩ := bs H516
                                  rcases Bool.eq_false_or_eq_true (x_118.1.Kind != 0) with h518 | h518
                                  · skip
                                    obtain rfl := orT h518 h517
                                    refine AC.takeb 31 h518 rfl (by kernel_rfl) (by kernel_rfl) (fun c' hle => (by kernel_rfl)) ?_
                                    refine AC.pass 32 rfl (by kernel_rfl) (by kernel_rfl) ?_
                                    refine AC.pass 33 rfl (by kernel_rfl) (by kernel_rfl) ?_
                                    refine AC.pass 34 rfl (by kernel_rfl) (by kernel_rfl) ?_
                                    refine AC.pass 35 rfl (by kernel_rfl) (by kernel_rfl) ?_
                                    refine ta 36 (.bool true) ?_
                                    obtain rfl := Option.some.inj H516
                                    refine ta 37 (.bool true) ?_
                                    obtain rfl := Option.some.inj H513
                                    refine ta 38 (.bool true) ?_
                                    refine AC.done (by kernel_rfl) ?_
                                    refine nrm ?_
                                    obtain ⟨c521, h522, l521, O519, h520⟩ := O256.frz 1 rfl (h236.mono (l245.trans (l251.trans l255)))
                                    exact ⟨c521, _, h522.symm, (l255.trans l521), O519, ups_self ⟨rfl, rfl, rfl, rfl, trivial⟩⟩
                                  · skip
                                    have H523 := orF h518 h517
                                    refine AC.takeb 31 h518 rfl (by kernel_rfl) (by kernel_rfl) (fun c' hle => (by kernel_rfl)) ?_
                                    refine ta 32 (.pointer (some ⟨b243, 1, none⟩)) ?_
                                    refine AC.takeK 33 (.slice a247 a248 a249) p257 rfl (by kernel_rfl) (by kernel_rfl) (by kernel_rfl) (fun c' hle hk => (rx (by kernel_rfl) (ldE1 (j := 1) Tryd.underlying25 rfl (hk.on 0 rfl) rfl rfl))) ?_
                                    refine AC.take 34 (.int .i64 (x_118.1.Text.length : Int)) rfl (by kernel_rfl) (by kernel_rfl) (fun c' hle => (rx (by kernel_rfl) (run_lenO (ty := 3) Tryd.underlying25 (h236.mono (l245.trans (l251.trans l255))) _))) ?_
                                    refine ta 35 (.bool ((x_118.1.Text.length : Int) != 0)) ?_
                                    obtain rfl := Option.some.inj H523
                                    refine ta 36 (.bool ((x_118.1.Text.length : Int) != 0)) ?_
                                    obtain rfl := Option.some.inj H516
                                    refine ta 37 (.bool ((x_118.1.Text.length : Int) != 0)) ?_
                                    obtain rfl := Option.some.inj H513
                                    refine ta 38 (.bool ((x_118.1.Text.length : Int) != 0)) ?_
                                    refine AC.done (by kernel_rfl) ?_
                                    refine nrm ?_
                                    obtain ⟨c526, h527, l526, O524, h525⟩ := O256.frz 1 rfl (h236.mono (l245.trans (l251.trans l255)))
                                    exact ⟨c526, _, h527.symm, (l255.trans l526), O524, ups_self ⟨rfl, rfl, rfl, rfl, trivial⟩⟩
                                · skip
                                  obtain rfl := anF h515 h514
                                  refine AC.takeb 27 h515 rfl (by kernel_rfl) (by kernel_rfl) (fun c' hle => (by kernel_rfl)) ?_
                                  refine AC.pass 28 rfl (by kernel_rfl) (by kernel_rfl) ?_
                                  refine AC.pass 29 rfl (by kernel_rfl) (by kernel_rfl) ?_
                                  refine AC.pass 30 rfl (by kernel_rfl) (by kernel_rfl) ?_
                                  refine AC.pass 31 rfl (by kernel_rfl) (by kernel_rfl) ?_
                                  refine AC.pass 32 rfl (by kernel_rfl) (by kernel_rfl) ?_
                                  refine AC.pass 33 rfl (by kernel_rfl) (by kernel_rfl) ?_
                                  refine AC.pass 34 rfl (by kernel_rfl) (by kernel_rfl) ?_
                                  refine AC.pass 35 rfl (by kernel_rfl) (by kernel_rfl) ?_
                                  refine AC.pass 36 rfl (by kernel_rfl) (by kernel_rfl) ?_
                                  refine ta 37 (.bool false) ?_
                                  obtain rfl := Option.some.inj H513
                                  refine ta 38 (.bool false) ?_
                                  refine AC.done (by kernel_rfl) ?_
                                  refine nrm ?_
                                  obtain ⟨c530, h531, l530, O528, h529⟩ := O256.frz 1 rfl (h236.mono (l245.trans (l251.trans l255)))
                                  exact ⟨c530, _, h531.symm, (l255.trans l530), O528, ups_self ⟨rfl, rfl, rfl, rfl, trivial⟩⟩
                        · skip
                          rintro e_ w_ ⟨c532, g533, rfl, l532, O534, rfl⟩
                          refine nrm ?_
                          refine W.cond (t := d_150) (by kernel_rfl) (fun h538 => ?_) (fun h538 => ?_)
                          · have H := it h538 H
                            refine sr ?_
                            refine va (.bool false) ?_
                            refine wln ?_
                            refine W.ret ?_
                            refine bkr ?_
                            refine thr ?_
                            obtain rfl := Option.some.inj H
                            refine ⟨_, rfl, ?_⟩
                            refine ⟨rfl, ?_⟩
                            have O539 := O534.selD 2 [] (by kernel_rfl) (by kernel_rfl)
                            exact ⟨c532, _, G120, rfl, (l226.trans (l241.trans (l245.trans (l251.trans l532)))), O539, ups_self ⟨rfl, trivial⟩, (R122.mono (l129.trans (l157.trans (l217.trans (l226.trans (l241.trans (l245.trans (l251.trans l532))))))))⟩
                          · have H := ie h538 H
                            refine W.skip ?_
                            refine bkn ?_
                            refine nrm ?_
                            refine W.region ?_
                            refine va (.int .i64 s_110) ?_
                            refine va (.int .i64 (w64 (s_110 + 1))) ?_
                            refine va (.int .i64 (w64 (s_110 + 1))) ?_
                            refine WL.nil ?_
                            obtain rfl := Option.some.inj H
                            refine ⟨_, rfl, ?_⟩
                            have O540 := O534.selD 2 [] (by kernel_rfl) (by kernel_rfl)
                            exact ⟨c532, _, rfl, (l226.trans (l241.trans (l245.trans (l251.trans l532)))), O540, ups_self ⟨rfl, rfl, rfl, trivial⟩⟩
                      · have H := ie h232 H
                        refine W.exit ?_
                        refine thx ?_
                        obtain rfl := Option.some.inj H
                        refine ⟨_, rfl, rfl, ?_⟩
                        exact ⟨c226, _, rfl, l226, O228, ups_self trivial⟩
                    · skip
                      exact ⟨c217, _, rfl, (Cx.le.refl _), O219, ups_self ⟨rfl, rfl, rfl, trivial⟩⟩
                    · skip
                      rcases o_110 with o_110 | o_110
                      · skip
                        intro ex_; revert ex_
                        rintro _ e_ w_ ⟨rfl, c541, g542, G544, rfl, l541, O543, rfl, R545⟩
                        refine bkr ?_
                        refine thr ?_
                        obtain rfl := Option.some.inj H225
                        exact ret1 (v := .bool o_110.2) rfl (by kernel_rfl) ⟨_, c541, rfl, rfl, (l13.trans (l34.trans (l108.trans (l124.trans (l129.trans (l157.trans (l217.trans l541))))))), G544, O543, R545, rfl⟩
                      · skip
                        rintro _ e_ w_ ⟨rfl, c547, g548, rfl, l547, O549, rfl⟩
                        refine bke ?_
                        refine nrm ?_
                        refine sr ?_
                        refine va (.bool true) ?_
                        refine wln ?_
                        refine W.ret ?_
                        obtain rfl := Option.some.inj H225
                        exact ret1 (v := .bool true) rfl (by kernel_rfl) ⟨_, c547, rfl, rfl, (l13.trans (l34.trans (l108.trans (l124.trans (l129.trans (l157.trans (l217.trans l547))))))), G120, O549, (R122.mono (l129.trans (l157.trans (l217.trans l547)))), rfl⟩

def f_linotypelaw24_RowPaints (sg : Sto) (p0 : Int) (p1 : List G_linotypelaw24_Stroke) : Option (Sto × Bool) :=
  (f_linotypelaw24_works sg).bind fun x_3 =>
  (orE (!x_3.2) (some (decide ((p1.length : Int) > 60)))).bind fun d_5 =>
  if d_5 = true then
  (f_linotypelaw24_works x_3.1).bind fun x_11 =>
  some (x_11.1, x_11.2)
  else
  (f_row_New x_3.1 (w64 (1 + (w64 ((IntKind.u64.wrap p0).tmod 20))))).bind fun x_22 =>
  (rep (w64 (1 + (w64 ((IntKind.u64.wrap p0).tmod 20)))) (⟨0, ([] : List Int)⟩ : G_api_Cell)).bind fun x_26 =>
  (iter (σ := (List G_api_Cell) × Bool × Int × Sto) (τ := (Sto × Bool) ⊕ Sto) (((p1.length : Int) - 0).toNat + 1) (fun s_33 =>
  if (decide (s_33.2.2.1 < (p1.length : Int))) = true then
  (idx p1 s_33.2.2.1).bind fun x_41 =>
  if (decide ((x_41.L.length : Int) > 40)) = true then
  some (.inr (.inl (s_33.2.2.2, true)))
  else
  ((idx p1 s_33.2.2.1).bind fun x_52 =>
  if x_52.On = true then
  (f_row_Row_GoOn s_33.2.2.2 x_22.2 true).bind fun x_57 =>
  (some (true, x_57) : Option (Bool × Sto))
  else
  (some (s_33.2.1, s_33.2.2.2) : Option (Bool × Sto))).bind fun z_49 =>
  (f_row_Row_Copy z_49.2 x_22.2).bind fun x_62 =>
  (idx p1 s_33.2.2.1).bind fun x_73 =>
  (idx p1 s_33.2.2.1).bind fun x_78 =>
  (f_row_Row_Paint x_62.1 x_22.2 x_73.At x_78.L).bind fun x_81 =>
  (idx p1 s_33.2.2.1).bind fun x_87 =>
  (idx p1 s_33.2.2.1).bind fun x_92 =>
  (f_linotyperef24_Wrong (w64 (1 + (w64 ((IntKind.u64.wrap p0).tmod 20)))) x_87.At x_92.L).bind fun x_95 =>
  (f_api_Code x_81.2).bind fun x_99 =>
  if (x_99 != x_95) = true then
  some (.inr (.inl (x_81.1, false)))
  else
  (if (x_95 == 0) = true then
  (idx p1 s_33.2.2.1).bind fun x_113 =>
  (idx p1 s_33.2.2.1).bind fun x_118 =>
  (f_linotyperef24_Paint s_33.1 z_49.1 x_113.At x_118.L).bind fun x_121 =>
  (some (x_121.1, x_121.2) : Option ((List G_api_Cell) × Bool))
  else
  (some (s_33.1, z_49.1) : Option ((List G_api_Cell) × Bool))).bind fun z_105 =>
  (f_row_Row_Cells x_81.1 x_22.2).bind fun x_129 =>
  (f_linotyperef23_Same x_129 z_105.1).bind fun x_131 =>
  (orE (!x_131) ((f_row_Row_Wrap x_81.1 x_22.2).bind fun x_136 =>
  some (!(x_136 == z_105.2)))).bind fun d_133 =>
  (orE d_133 ((f_row_Row_Cells x_81.1 x_22.2).bind fun x_142 =>
  (f_linotyperef23_Sound x_142).bind fun x_143 =>
  some (!x_143))).bind fun d_139 =>
  (orE d_139 ((f_row_Row_Cells x_81.1 x_62.2).bind fun x_148 =>
  (f_linotyperef23_Same x_148 s_33.1).bind fun x_150 =>
  some (!x_150))).bind fun d_145 =>
  (orE d_145 ((f_row_Row_Wrap x_81.1 x_62.2).bind fun x_155 =>
  some (!(x_155 == z_49.1)))).bind fun d_152 =>
  if d_152 = true then
  some (.inr (.inl (x_81.1, false)))
  else
  some (.inl (z_105.1, z_105.2, (w64 (s_33.2.2.1 + 1)), x_81.1))
  else
  some (.inr (.inr (s_33.2.2.2)))) (x_26, false, 0, x_22.1)).bind fun o_33 =>
  match o_33 with
  | .inl o_33 =>
  some o_33
  | .inr o_33 =>
  (f_row_Row_GoOn o_33 (none : Option Nat) true).bind fun x_168 =>
  (f_row_Row_Cell x_168 (none : Option Nat) 0).bind fun x_171 =>
  (f_row_Row_Wide x_168 (none : Option Nat)).bind fun x_180 =>
  (andE (x_180 == 0) (some (!x_171.2))).bind fun d_182 =>
  (andE d_182 (some (x_171.1.Kind == 0))).bind fun d_186 =>
  (andE d_186 ((f_row_Row_Cells x_168 (none : Option Nat)).bind fun x_194 =>
  some ((x_194.length : Int) == 0))).bind fun d_191 =>
  (andE d_191 ((f_row_Row_Wrap x_168 (none : Option Nat)).bind fun x_200 =>
  some (!x_200))).bind fun d_197 =>
  (if d_197 = true then (f_row_Row_Copy x_168 (none : Option Nat)).bind fun x_205 =>
  some (x_205.2.isNone, x_205.1) else some (false, x_168)).bind fun d_202 =>
  (if d_202.1 = true then (f_row_Row_Paint d_202.2 (none : Option Nat) 0 ([] : List G_api_Cell)).bind fun x_210 =>
  (f_api_Code x_210.2).bind fun x_211 =>
  some (x_211 == 3, x_210.1) else some (false, d_202.2)).bind fun d_207 =>
  some (d_207.2, d_207.1)
set_option maxHeartbeats 4000000 in
theorem c_linotypelaw24_RowPaints {c0 : Cx} {G : Gm} {F : List En} {sg : Sto} {v1 : Value} (O0 : Own c0 G F) (R0 : Rel c0 sg G) (hG : Gl [0, 1, 2, 3, 4, 5, 6, 7] c0) (p0 : Int) (p1 : List G_linotypelaw24_Stroke) {r : Sto × Bool} (h2 : Sl R_linotypelaw24_Stroke c0 v1 p1) (H : f_linotypelaw24_RowPaints sg p0 p1 = some r) :
    Calls Tryd.prog 9 #[.int .i64 p0, v1] c0.w (Post c0 fun c v => ∃ G_ : Gm, Own c G_ (F) ∧ Rel c r.1 G_ ∧ v = .bool r.2) := by
  unfold f_linotypelaw24_RowPaints at H
  refine enter (l := [.int .i64 p0, v1]) Tryd.func9 rfl rfl rfl ?_
  refine sr ?_
  refine va (.bool false) ?_
  refine wln ?_
  refine W.seq ?_
  refine W.seq ?_
  obtain ⟨x_3, h3, H⟩ := bs H
  obtain ⟨d_5, h4, H⟩ := bs H
  refine W.join (fun e w => ∃ (c : Cx) (g : Nat → Value) (G_ : Gm), w = c.w ∧ c0.le c ∧ Own c G_ (F) ∧ e = ups g [(0, .int .i64 p0), (1, v1), (23, .bool d_5)] ∧ Rel c x_3.1 G_) ?_ ?_
  · clear H
    refine W.region ?_
    refine WL.callP rfl (by kernel_rfl) (c_linotypelaw24_works O0 R0 (hG.le (by decide)) h3) ?_
    rintro v10 c9 l9 ⟨G5, O6, R7, rfl⟩
    refine va (.bool (!x_3.2)) ?_
    rcases Bool.eq_false_or_eq_true (!x_3.2) with h11 | h11
    · skip
      obtain rfl := orT h11 h4
      refine vb h11 ?_
      refine ps ?_
      refine ps ?_
      refine ps ?_
      refine va (.bool true) ?_
      refine wln ?_
      exact ⟨c9, _, G5, rfl, l9, O6, ups_self ⟨rfl, rfl, rfl, trivial⟩, R7⟩
    · skip
      have H12 := orF h11 h4
      refine vb h11 ?_
      refine wn ?_
      refine va (v1) ?_
      refine wn ?_
      refine WL.val0 (v := .int .i64 (p1.length : Int)) rfl (rx (by kernel_rfl) (run_len (ty := 3) Tryd.underlying68 (h2.mono l9) _)) ?_
      refine wn ?_
      refine va (.bool (decide ((p1.length : Int) > 60))) ?_
      obtain rfl := Option.some.inj H12
      refine va (.bool (decide ((p1.length : Int) > 60))) ?_
      refine wln ?_
      exact ⟨c9, _, G5, rfl, l9, O6, ups_self ⟨rfl, rfl, rfl, trivial⟩, R7⟩
  · skip
    rintro e_ w_ ⟨c13, g14, G16, rfl, l13, O15, rfl, R17⟩
    refine nrm ?_
    refine W.cond (t := d_5) (by kernel_rfl) (fun h19 => ?_) (fun h19 => ?_)
    · have H := it h19 H
      refine sr ?_
      obtain ⟨x_11, h20, H⟩ := bs H
      refine WL.callP rfl (by kernel_rfl) (c_linotypelaw24_works O15 R17 ((hG.mono l13).le (by decide)) h20) ?_
      rintro v26 c25 l25 ⟨G21, O22, R23, rfl⟩
      refine va (.bool x_11.2) ?_
      refine wln ?_
      refine W.ret ?_
      refine thr ?_
      obtain rfl := Option.some.inj H
      exact ret1 (v := .bool x_11.2) rfl (by kernel_rfl) ⟨_, c25, rfl, rfl, (l13.trans l25), G21, O22, R23, rfl⟩
    · have H := ie h19 H
      refine W.skip ?_
      refine nrm ?_
      refine sr ?_
      refine va (.int .i64 p0) ?_
      refine va (.int .u64 (IntKind.u64.wrap p0)) ?_
      refine va (.int .u64 ((IntKind.u64.wrap p0).tmod 20)) ?_
      refine va (.int .i64 (w64 ((IntKind.u64.wrap p0).tmod 20))) ?_
      refine va (.int .i64 (w64 (1 + (w64 ((IntKind.u64.wrap p0).tmod 20))))) ?_
      refine va (.int .i64 (w64 (1 + (w64 ((IntKind.u64.wrap p0).tmod 20))))) ?_
      refine wln ?_
      refine sr ?_
      refine va (.int .i64 (w64 (1 + (w64 ((IntKind.u64.wrap p0).tmod 20))))) ?_
      obtain ⟨x_22, h27, H⟩ := bs H
      refine WL.callP rfl (by kernel_rfl) (c_row_New O15 R17 (w64 (1 + (w64 ((IntKind.u64.wrap p0).tmod 20)))) h27) ?_
      rintro v28 c34 l34 ⟨_, G30, O31, R32, a33, rfl, h29⟩
      refine va (v28) ?_
      refine wln ?_
      refine sr ?_
      refine va (.int .i64 (w64 (1 + (w64 ((IntKind.u64.wrap p0).tmod 20))))) ?_
      obtain ⟨x_26, h36, H⟩ := bs H
      refine WL.mem rfl (Own.mkS (kl := .i64) (kc := .i64) (R := R_api_Cell) (z := .agg #[.int .i64 0, .slice none 0 0]) (lz := [.int .i64 0, .slice none 0 0]) (x := (⟨0, ([] : List Int)⟩ : G_api_Cell)) (by_ := 32) (i := (w64 (1 + (w64 ((IntKind.u64.wrap p0).tmod 20))))) (j := (w64 (1 + (w64 ((IntKind.u64.wrap p0).tmod 20))))) true O31 (Nat.succ_pos _) h36 (Int.le_refl _) (rep_le h36) Tryd.underlying22 (by kernel_rfl) rfl rfl (fun _ => ⟨(.slice none 0 0), rfl, (Sl.nl _ _)⟩) (by kernel_rfl) (by kernel_rfl)) ?_
      rintro v41 c40 l40 ⟨u38, O37, h39⟩
      refine va (v41) ?_
      refine wln ?_
      refine sr ?_
      refine va (.bool false) ?_
      refine wln ?_
      refine W.seq ?_
      refine sr ?_
      refine va (.int .i64 0) ?_
      refine wln ?_
      refine W.block ?_
      obtain ⟨o_33, h42, H43⟩ := bs H
      refine W.loop (σ := (List G_api_Cell) × Bool × Int × Sto) (τ := (Sto × Bool) ⊕ Sto) (fun s_33 => fun e w => ∃ (c : Cx) (g : Nat → Value) (v44 : Value) (G_ : Gm), w = c.w ∧ c40.le c ∧ Own c G_ (F) ∧ e = ups g [(0, .int .i64 (w64 (1 + (w64 ((IntKind.u64.wrap p0).tmod 20))))), (1, v1), (5, v28), (6, v44), (7, .bool s_33.2.1), (8, .int .i64 s_33.2.2.1)] ∧ Rel c s_33.2.2.2 G_ ∧ Sl R_api_Cell c v44 s_33.1) (fun t => match t with | .inl x_ => (fun rr_ ex e w => ex = .ret ∧ (fun e w => ∃ (c : Cx) (g : Nat → Value) (G_ : Gm), w = c.w ∧ c40.le c ∧ Own c G_ (F) ∧ e = ups g [(4, .bool rr_.2)] ∧ Rel c rr_.1 G_) e w) x_ | .inr x_ => (fun o_33_ ex e w => ex = .exit 0 ∧ (fun e w => ∃ (c : Cx) (g : Nat → Value) (G_ : Gm), w = c.w ∧ c40.le c ∧ Own c G_ (F) ∧ e = ups g [] ∧ Rel c o_33_ G_) e w) x_) ?_ h42 ?_ ?_
      · clear H43 h42
        intro s_33 xx_ ee_ ww_ H
        revert ee_ ww_
        rintro e_ w_ ⟨c45, g46, v44, G49, rfl, l45, O47, rfl, R50, h48⟩
        refine W.seq ?_
        refine sr ?_
        refine va (.int .i64 s_33.2.2.1) ?_
        refine va (v1) ?_
        refine WL.val0 (v := .int .i64 (p1.length : Int)) rfl (rx (by kernel_rfl) (run_len (ty := 3) Tryd.underlying68 (h2.mono (l13.trans (l34.trans (l40.trans l45)))) _)) ?_
        refine va (.bool (decide (s_33.2.2.1 < (p1.length : Int)))) ?_
        refine wln ?_
        refine W.cond (t := decide (s_33.2.2.1 < (p1.length : Int))) (by kernel_rfl) (fun h52 => ?_) (fun h52 => ?_)
        · have H := it h52 H
          refine W.skip ?_
          refine nrm ?_
          refine W.seq ?_
          refine W.block ?_
          refine W.seq ?_
          refine sr ?_
          refine va (v1) ?_
          refine va (.int .i64 s_33.2.2.1) ?_
          obtain ⟨x_41, h53, H⟩ := bs H
          obtain ⟨l_54, h55, m56⟩ := Sl.at (h2.mono (l13.trans (l34.trans (l40.trans l45)))) (idx_get h53)
          obtain ⟨v57, rfl, h58⟩ := h55
          refine WL.val0 (v := .pointer (some ⟨sb v1, so v1 + s_33.2.2.1.toNat * 3, none⟩)) rfl (rx (by kernel_rfl) (run_index (k := .i64) Tryd.underlying68 (by kernel_rfl) (h2.mono (l13.trans (l34.trans (l40.trans l45)))) h53 _)) ?_
          refine va (.pointer (some ⟨sb v1, so v1 + s_33.2.2.1.toNat * 3 + 2, none⟩)) ?_
          refine WL.val0 (v := v57) rfl (rx (by kernel_rfl) (run_load1 Tryd.underlying22 rfl (m56 2 _ rfl))) ?_
          refine WL.val0 (v := .int .i64 (x_41.L.length : Int)) rfl (rx (by kernel_rfl) (run_len (ty := 3) Tryd.underlying22 h58 _)) ?_
          refine va (.bool (decide ((x_41.L.length : Int) > 40))) ?_
          refine wln ?_
          refine W.cond (t := decide ((x_41.L.length : Int) > 40)) (by kernel_rfl) (fun h59 => ?_) (fun h59 => ?_)
          · have H := it h59 H
            refine sr ?_
            refine va (.bool true) ?_
            refine wln ?_
            refine W.ret ?_
            refine thr ?_
            refine bkr ?_
            refine thr ?_
            obtain rfl := Option.some.inj H
            refine ⟨_, rfl, ?_⟩
            refine ⟨rfl, ?_⟩
            exact ⟨c45, _, G49, rfl, l45, O47, ups_self ⟨rfl, trivial⟩, R50⟩
          · have H := ie h59 H
            refine W.skip ?_
            refine nrm ?_
            obtain ⟨z_49, H60, H61⟩ := bs H
            refine W.seqJ (fun e w => ∃ (c : Cx) (g : Nat → Value) (G_ : Gm), w = c.w ∧ c45.le c ∧ Own c G_ (F) ∧ e = ups g [(0, .int .i64 (w64 (1 + (w64 ((IntKind.u64.wrap p0).tmod 20))))), (1, v1), (5, v28), (6, v44), (7, .bool z_49.1), (8, .int .i64 s_33.2.2.1)] ∧ Rel c z_49.2 G_) ?_ ?_
            · skip
              refine sr ?_
              refine va (v1) ?_
              refine va (.int .i64 s_33.2.2.1) ?_
              obtain ⟨x_52, h62, H60⟩ := bs H60
              obtain ⟨l_63, h64, m65⟩ := Sl.at (h2.mono (l13.trans (l34.trans (l40.trans l45)))) (idx_get h62)
              obtain ⟨v66, rfl, h67⟩ := h64
              refine WL.val0 (v := .pointer (some ⟨sb v1, so v1 + s_33.2.2.1.toNat * 3, none⟩)) rfl (rx (by kernel_rfl) (run_index (k := .i64) Tryd.underlying68 (by kernel_rfl) (h2.mono (l13.trans (l34.trans (l40.trans l45)))) h62 _)) ?_
              refine va (.pointer (some ⟨sb v1, so v1 + s_33.2.2.1.toNat * 3 + 1, none⟩)) ?_
              refine WL.val0 (v := .bool x_52.On) rfl (rx (by kernel_rfl) (run_load1 Tryd.underlying4 rfl (m65 1 _ rfl))) ?_
              refine wln ?_
              refine W.cond (t := x_52.On) (by kernel_rfl) (fun h68 => ?_) (fun h68 => ?_)
              · have H60 := it h68 H60
                refine sr ?_
                refine va (v28) ?_
                obtain ⟨x_57, h69, H60⟩ := bs H60
                refine WL.callP rfl (by kernel_rfl) (c_row_Row_GoOn O47 R50 x_22.2 true (h29.mono (l40.trans l45)) h69) ?_
                rintro v75 c74 l74 ⟨G70, O71, R72, rfl⟩
                refine wln ?_
                refine W.region ?_
                refine va (.bool true) ?_
                refine wln ?_
                obtain rfl := Option.some.inj H60
                exact ⟨c74, _, G70, rfl, l74, O71, ups_self ⟨rfl, rfl, rfl, rfl, rfl, rfl, trivial⟩, R72⟩
              · have H60 := ie h68 H60
                refine W.skip ?_
                refine nrm ?_
                obtain rfl := Option.some.inj H60
                exact ⟨c45, _, G49, rfl, (Cx.le.refl _), O47, ups_self ⟨rfl, rfl, rfl, rfl, rfl, rfl, trivial⟩, R50⟩
            · skip
              rintro e_ w_ ⟨c76, g77, G79, rfl, l76, O78, rfl, R80⟩
              refine sr ?_
              refine va (v28) ?_
              obtain ⟨x_62, h82, H61⟩ := bs H61
              refine WL.callP rfl (by kernel_rfl) (c_row_Row_Copy O78 R80 x_22.2 (h29.mono (l40.trans (l45.trans l76))) h82) ?_
              rintro v83 c89 l89 ⟨_, G85, O86, R87, a88, rfl, h84⟩
              refine va (.bool z_49.1) ?_
              refine va (v83) ?_
              refine va (.bool z_49.1) ?_
              refine wln ?_
              refine sr ?_
              refine va (v44) ?_
              refine va (v44) ?_
              refine wln ?_
              refine W.seq ?_
              refine W.regionD [] (Kp G0 []) O86 (by kernel_rfl) ?_
              intro c91 l91 O92
              have p93 : Kp G0 [] c91 := Kp.nil0
              refine ta 0 (v28) ?_
              refine ta 1 (v1) ?_
              refine ta 2 (.int .i64 s_33.2.2.1) ?_
              obtain ⟨x_73, h94, H61⟩ := bs H61
              obtain ⟨l_95, h96, m97⟩ := Sl.at (h2.mono (l13.trans (l34.trans (l40.trans (l45.trans (l76.trans (l89.trans l91))))))) (idx_get h94)
              obtain ⟨v98, rfl, h99⟩ := h96
              refine AC.take 3 (.pointer (some ⟨sb v1, so v1 + s_33.2.2.1.toNat * 3, none⟩)) rfl (by kernel_rfl) (by kernel_rfl) (fun c' hle => (rx (by kernel_rfl) (run_index (k := .i64) Tryd.underlying68 (by kernel_rfl) (h2.mono (l13.trans (l34.trans (l40.trans (l45.trans (l76.trans (l89.trans l91))))))) h94 _))) ?_
              refine ta 4 (.pointer (some ⟨sb v1, so v1 + s_33.2.2.1.toNat * 3, none⟩)) ?_
              refine AC.take 5 (.int .i64 x_73.At) rfl (by kernel_rfl) (by kernel_rfl) (fun c' hle => (rx (by kernel_rfl) (run_load1 Tryd.underlying3 rfl ((fun j u hu => (m97 j u hu).mono hle) 0 _ rfl)))) ?_
              refine ta 6 (v1) ?_
              refine ta 7 (.int .i64 s_33.2.2.1) ?_
              obtain ⟨x_78, h100, H61⟩ := bs H61
              obtain ⟨l_101, h102, m103⟩ := Sl.at (h2.mono (l13.trans (l34.trans (l40.trans (l45.trans (l76.trans (l89.trans l91))))))) (idx_get h100)
              obtain ⟨v104, rfl, h105⟩ := h102
              refine AC.take 8 (.pointer (some ⟨sb v1, so v1 + s_33.2.2.1.toNat * 3, none⟩)) rfl (by kernel_rfl) (by kernel_rfl) (fun c' hle => (rx (by kernel_rfl) (run_index (k := .i64) Tryd.underlying68 (by kernel_rfl) (h2.mono (l13.trans (l34.trans (l40.trans (l45.trans (l76.trans (l89.trans l91))))))) h100 _))) ?_
              refine ta 9 (.pointer (some ⟨sb v1, so v1 + s_33.2.2.1.toNat * 3 + 2, none⟩)) ?_
              refine AC.take 10 (v104) rfl (by kernel_rfl) (by kernel_rfl) (fun c' hle => (rx (by kernel_rfl) (run_load1 Tryd.underlying22 rfl ((fun j u hu => (m103 j u hu).mono hle) 2 _ rfl)))) ?_
              obtain ⟨x_81, h106, H61⟩ := bs H61
              refine AC.one 11 (by kernel_rfl) (Go1.callP 11 rfl (by kernel_rfl) (by kernel_rfl) (by kernel_rfl) (c_row_Row_Paint O92 (R87.mono l91) ((hG.mono (l13.trans (l34.trans (l40.trans (l45.trans (l76.trans (l89.trans l91))))))).le (by decide)) x_22.2 x_73.At x_78.L (h29.mono (l40.trans (l45.trans (l76.trans (l89.trans l91))))) h105 h106) ?_)
              rintro v107 c113 l113 ⟨_, G109, O110, R111, rfl, h108⟩
              have p115 : Kp G0 [] c113 := Kp.nil0
              refine ⟨.inr p115, ?_⟩
              refine ta 12 (v107) ?_
              refine AC.done (by kernel_rfl) ?_
              refine nrm ?_
              refine W.seq ?_
              refine W.regionD [] (Kp G0 []) O110 (by kernel_rfl) ?_
              intro c116 l116 O117
              have p118 : Kp G0 [] c116 := Kp.nil0
              refine ta 0 (.int .i64 (w64 (1 + (w64 ((IntKind.u64.wrap p0).tmod 20))))) ?_
              refine ta 1 (v1) ?_
              refine ta 2 (.int .i64 s_33.2.2.1) ?_
              obtain ⟨x_87, h119, H61⟩ := bs H61
              obtain ⟨l_120, h121, m122⟩ := Sl.at (h2.mono (l13.trans (l34.trans (l40.trans (l45.trans (l76.trans (l89.trans (l91.trans (l113.trans l116))))))))) (idx_get h119)
              obtain ⟨v123, rfl, h124⟩ := h121
              refine AC.take 3 (.pointer (some ⟨sb v1, so v1 + s_33.2.2.1.toNat * 3, none⟩)) rfl (by kernel_rfl) (by kernel_rfl) (fun c' hle => (rx (by kernel_rfl) (run_index (k := .i64) Tryd.underlying68 (by kernel_rfl) (h2.mono (l13.trans (l34.trans (l40.trans (l45.trans (l76.trans (l89.trans (l91.trans (l113.trans l116))))))))) h119 _))) ?_
              refine ta 4 (.pointer (some ⟨sb v1, so v1 + s_33.2.2.1.toNat * 3, none⟩)) ?_
              refine AC.take 5 (.int .i64 x_87.At) rfl (by kernel_rfl) (by kernel_rfl) (fun c' hle => (rx (by kernel_rfl) (run_load1 Tryd.underlying3 rfl ((fun j u hu => (m122 j u hu).mono hle) 0 _ rfl)))) ?_
              refine ta 6 (v1) ?_
              refine ta 7 (.int .i64 s_33.2.2.1) ?_
              obtain ⟨x_92, h125, H61⟩ := bs H61
              obtain ⟨l_126, h127, m128⟩ := Sl.at (h2.mono (l13.trans (l34.trans (l40.trans (l45.trans (l76.trans (l89.trans (l91.trans (l113.trans l116))))))))) (idx_get h125)
              obtain ⟨v129, rfl, h130⟩ := h127
              refine AC.take 8 (.pointer (some ⟨sb v1, so v1 + s_33.2.2.1.toNat * 3, none⟩)) rfl (by kernel_rfl) (by kernel_rfl) (fun c' hle => (rx (by kernel_rfl) (run_index (k := .i64) Tryd.underlying68 (by kernel_rfl) (h2.mono (l13.trans (l34.trans (l40.trans (l45.trans (l76.trans (l89.trans (l91.trans (l113.trans l116))))))))) h125 _))) ?_
              refine ta 9 (.pointer (some ⟨sb v1, so v1 + s_33.2.2.1.toNat * 3 + 2, none⟩)) ?_
              refine AC.take 10 (v129) rfl (by kernel_rfl) (by kernel_rfl) (fun c' hle => (rx (by kernel_rfl) (run_load1 Tryd.underlying22 rfl ((fun j u hu => (m128 j u hu).mono hle) 2 _ rfl)))) ?_
              obtain ⟨x_95, h131, H61⟩ := bs H61
              refine AC.one 11 (by kernel_rfl) (Go1.callP 11 rfl (by kernel_rfl) (by kernel_rfl) (by kernel_rfl) (c_linotyperef24_Wrong O117 (w64 (1 + (w64 ((IntKind.u64.wrap p0).tmod 20)))) x_87.At x_92.L h130 h131) ?_)
              rintro v137 c136 l136 ⟨O133, rfl⟩
              have p138 : Kp G0 [] c136 := Kp.nil0
              refine ⟨.inr p138, ?_⟩
              refine ta 12 (.int .i64 x_95) ?_
              refine AC.done (by kernel_rfl) ?_
              refine nrm ?_
              refine W.seq ?_
              refine sr ?_
              refine va (v107) ?_
              obtain ⟨x_99, h139, H61⟩ := bs H61
              refine WL.callP rfl (by kernel_rfl) (c_api_Code O133 ((hG.mono (l13.trans (l34.trans (l40.trans (l45.trans (l76.trans (l89.trans (l91.trans (l113.trans (l116.trans l136)))))))))).le (by decide)) x_81.2 (h108.mono (l116.trans l136)) h139) ?_
              rintro v145 c144 l144 ⟨O141, rfl⟩
              refine va (.int .i64 x_95) ?_
              refine va (.bool (x_99 != x_95)) ?_
              refine wln ?_
              refine W.cond (t := x_99 != x_95) (by kernel_rfl) (fun h146 => ?_) (fun h146 => ?_)
              · have H61 := it h146 H61
                refine sr ?_
                refine va (.bool false) ?_
                refine wln ?_
                refine W.ret ?_
                refine thr ?_
                refine bkr ?_
                refine thr ?_
                obtain rfl := Option.some.inj H61
                refine ⟨_, rfl, ?_⟩
                refine ⟨rfl, ?_⟩
                exact ⟨c144, _, G109, rfl, (l45.trans (l76.trans (l89.trans (l91.trans (l113.trans (l116.trans (l136.trans l144))))))), O141, ups_self ⟨rfl, trivial⟩, (R111.mono (l116.trans (l136.trans l144)))⟩
              · have H61 := ie h146 H61
                refine W.skip ?_
                refine nrm ?_
                obtain ⟨z_105, H147, H148⟩ := bs H61
                refine W.seqJ (fun e w => ∃ (c : Cx) (g : Nat → Value) (v149 : Value), w = c.w ∧ c144.le c ∧ Own c G109 (F) ∧ e = ups g [(0, .int .i64 (w64 (1 + (w64 ((IntKind.u64.wrap p0).tmod 20))))), (1, v1), (5, v28), (6, v149), (7, .bool z_105.2), (8, .int .i64 s_33.2.2.1), (9, v83), (10, .bool z_49.1), (11, v44)] ∧ Sl R_api_Cell c v149 z_105.1) ?_ ?_
                · skip
                  refine sr ?_
                  refine va (.int .i64 x_95) ?_
                  refine va (.bool (x_95 == 0)) ?_
                  refine wln ?_
                  refine W.cond (t := x_95 == 0) (by kernel_rfl) (fun h150 => ?_) (fun h150 => ?_)
                  · have H147 := it h150 H147
                    refine W.regionD [] (Kp G0 []) O141 (by kernel_rfl) ?_
                    intro c151 l151 O152
                    have p153 : Kp G0 [] c151 := Kp.nil0
                    refine ta 0 (v44) ?_
                    refine ta 1 (.bool z_49.1) ?_
                    refine ta 2 (v1) ?_
                    refine ta 3 (.int .i64 s_33.2.2.1) ?_
                    obtain ⟨x_113, h154, H147⟩ := bs H147
                    obtain ⟨l_155, h156, m157⟩ := Sl.at (h2.mono (l13.trans (l34.trans (l40.trans (l45.trans (l76.trans (l89.trans (l91.trans (l113.trans (l116.trans (l136.trans (l144.trans l151)))))))))))) (idx_get h154)
                    obtain ⟨v158, rfl, h159⟩ := h156
                    refine AC.take 4 (.pointer (some ⟨sb v1, so v1 + s_33.2.2.1.toNat * 3, none⟩)) rfl (by kernel_rfl) (by kernel_rfl) (fun c' hle => (rx (by kernel_rfl) (run_index (k := .i64) Tryd.underlying68 (by kernel_rfl) (h2.mono (l13.trans (l34.trans (l40.trans (l45.trans (l76.trans (l89.trans (l91.trans (l113.trans (l116.trans (l136.trans (l144.trans l151)))))))))))) h154 _))) ?_
                    refine ta 5 (.pointer (some ⟨sb v1, so v1 + s_33.2.2.1.toNat * 3, none⟩)) ?_
                    refine AC.take 6 (.int .i64 x_113.At) rfl (by kernel_rfl) (by kernel_rfl) (fun c' hle => (rx (by kernel_rfl) (run_load1 Tryd.underlying3 rfl ((fun j u hu => (m157 j u hu).mono hle) 0 _ rfl)))) ?_
                    refine ta 7 (v1) ?_
                    refine ta 8 (.int .i64 s_33.2.2.1) ?_
                    obtain ⟨x_118, h160, H147⟩ := bs H147
                    obtain ⟨l_161, h162, m163⟩ := Sl.at (h2.mono (l13.trans (l34.trans (l40.trans (l45.trans (l76.trans (l89.trans (l91.trans (l113.trans (l116.trans (l136.trans (l144.trans l151)))))))))))) (idx_get h160)
                    obtain ⟨v164, rfl, h165⟩ := h162
                    refine AC.take 9 (.pointer (some ⟨sb v1, so v1 + s_33.2.2.1.toNat * 3, none⟩)) rfl (by kernel_rfl) (by kernel_rfl) (fun c' hle => (rx (by kernel_rfl) (run_index (k := .i64) Tryd.underlying68 (by kernel_rfl) (h2.mono (l13.trans (l34.trans (l40.trans (l45.trans (l76.trans (l89.trans (l91.trans (l113.trans (l116.trans (l136.trans (l144.trans l151)))))))))))) h160 _))) ?_
                    refine ta 10 (.pointer (some ⟨sb v1, so v1 + s_33.2.2.1.toNat * 3 + 2, none⟩)) ?_
                    refine AC.take 11 (v164) rfl (by kernel_rfl) (by kernel_rfl) (fun c' hle => (rx (by kernel_rfl) (run_load1 Tryd.underlying22 rfl ((fun j u hu => (m163 j u hu).mono hle) 2 _ rfl)))) ?_
                    obtain ⟨x_121, h166, H147⟩ := bs H147
                    refine AC.one 12 (by kernel_rfl) (Go1.callP 12 rfl (by kernel_rfl) (by kernel_rfl) (by kernel_rfl) (c_linotyperef24_Paint O152 s_33.1 z_49.1 x_113.At x_118.L (h48.mono (l76.trans (l89.trans (l91.trans (l113.trans (l116.trans (l136.trans (l144.trans l151)))))))) h165 h166) ?_)
                    rintro v175 c174 l174 ⟨v167, u168, O171, rfl, h169⟩
                    have p176 : Kp G0 [] c174 := Kp.nil0
                    refine ⟨.inr p176, ?_⟩
                    refine ta 13 (.tuple #[v167, .bool x_121.2]) ?_
                    refine ta 14 (v167) ?_
                    refine ta 15 (.bool x_121.2) ?_
                    refine ta 16 (v167) ?_
                    refine ta 17 (.bool x_121.2) ?_
                    refine AC.done (by kernel_rfl) ?_
                    refine nrm ?_
                    obtain rfl := Option.some.inj H147
                    obtain ⟨c179, h180, l179, O177, h178⟩ := O171.frz 0 rfl h169
                    have O181 := O177.selD 1 [] (by kernel_rfl) (by kernel_rfl)
                    exact ⟨c179, _, v167, h180.symm, (l151.trans (l174.trans l179)), O181, ups_self ⟨rfl, rfl, rfl, rfl, rfl, rfl, rfl, rfl, rfl, trivial⟩, h178⟩
                  · have H147 := ie h150 H147
                    refine W.skip ?_
                    refine nrm ?_
                    obtain rfl := Option.some.inj H147
                    exact ⟨c144, _, v44, rfl, (Cx.le.refl _), O141, ups_self ⟨rfl, rfl, rfl, rfl, rfl, rfl, rfl, rfl, rfl, trivial⟩, (h48.mono (l76.trans (l89.trans (l91.trans (l113.trans (l116.trans (l136.trans l144)))))))⟩
                · skip
                  rintro e_ w_ ⟨c182, g183, v149, rfl, l182, O184, rfl, h185⟩
                  refine W.seq ?_
                  obtain ⟨x_129, h189, H148⟩ := bs H148
                  obtain ⟨x_131, h190, H148⟩ := bs H148
                  obtain ⟨d_133, h191, H148⟩ := bs H148
                  obtain ⟨d_139, h192, H148⟩ := bs H148
                  obtain ⟨d_145, h193, H148⟩ := bs H148
                  obtain ⟨d_152, h194, H148⟩ := bs H148
                  refine W.join (fun e w => ∃ (c : Cx) (g : Nat → Value) (v195 : Value) (u196 : List Value), w = c.w ∧ c182.le c ∧ Own c G109 (es false R_api_Cell v195 27 u196 x_129 :: F) ∧ e = ups g [(0, .int .i64 (w64 (1 + (w64 ((IntKind.u64.wrap p0).tmod 20))))), (1, v1), (5, v28), (6, v149), (7, .bool z_105.2), (8, .int .i64 s_33.2.2.1), (133, .bool d_152)] ∧ OA R_api_Cell c v195 u196 x_129) ?_ ?_
                  · clear H148
                    refine W.region ?_
                    refine va (v28) ?_
                    refine WL.callP rfl (by kernel_rfl) (c_row_Row_Cells O184 (R111.mono (l116.trans (l136.trans (l144.trans l182)))) x_22.2 (h29.mono (l40.trans (l45.trans (l76.trans (l89.trans (l91.trans (l113.trans (l116.trans (l136.trans (l144.trans l182)))))))))) h189) ?_
                    rintro v197 c204 l204 ⟨_, u198, O201, rfl, h199⟩
                    refine va (v149) ?_
                    obtain ⟨c208, h209, l208, O206, h207⟩ := O201.frz 0 rfl h199
                    refine WL.gh h209 ?_
                    refine WL.callP rfl (by kernel_rfl) (c_linotyperef23_Same O206 x_129 z_105.1 h207 (h185.mono (l204.trans l208)) h190) ?_
                    rintro v215 c214 l214 ⟨O211, rfl⟩
                    refine va (.bool (!x_131)) ?_
                    rcases Bool.eq_false_or_eq_true (!x_131) with h216 | h216
                    · skip
                      obtain rfl := orT h216 h191
                      refine vb h216 ?_
                      refine ps ?_
                      refine ps ?_
                      refine ps ?_
                      refine ps ?_
                      refine va (.bool true) ?_
                      have h217 : true = true := rfl
                      obtain rfl := orT h217 h192
                      refine vb h217 ?_
                      refine ps ?_
                      refine ps ?_
                      refine ps ?_
                      refine ps ?_
                      refine va (.bool true) ?_
                      have h218 : true = true := rfl
                      obtain rfl := orT h218 h193
                      refine vb h218 ?_
                      refine ps ?_
                      refine ps ?_
                      refine ps ?_
                      refine ps ?_
                      refine ps ?_
                      refine va (.bool true) ?_
                      have h219 : true = true := rfl
                      obtain rfl := orT h219 h194
                      refine vb h219 ?_
                      refine ps ?_
                      refine ps ?_
                      refine ps ?_
                      refine ps ?_
                      refine va (.bool true) ?_
                      refine wln ?_
                      exact ⟨c214, _, v197, u198, rfl, (l204.trans (l208.trans l214)), O211, ups_self ⟨rfl, rfl, rfl, rfl, rfl, rfl, rfl, trivial⟩, (h199.mono (l208.trans l214))⟩
                    · skip
                      have H220 := orF h216 h191
                      refine vb h216 ?_
                      refine wn ?_
                      refine va (v28) ?_
                      refine wn ?_
                      obtain ⟨x_136, h221, H220⟩ := bs H220
                      refine WL.callP rfl (by kernel_rfl) (c_row_Row_Wrap O211 (R111.mono (l116.trans (l136.trans (l144.trans (l182.trans (l204.trans (l208.trans l214))))))) x_22.2 (h29.mono (l40.trans (l45.trans (l76.trans (l89.trans (l91.trans (l113.trans (l116.trans (l136.trans (l144.trans (l182.trans (l204.trans (l208.trans l214))))))))))))) h221) ?_
                      rintro v227 c226 l226 ⟨O223, rfl⟩
                      refine wn ?_
                      refine va (.bool z_105.2) ?_
                      refine wn ?_
                      refine va (.bool (!(x_136 == z_105.2))) ?_
                      obtain rfl := Option.some.inj H220
                      refine va (.bool (!(x_136 == z_105.2))) ?_
                      rcases Bool.eq_false_or_eq_true (!(x_136 == z_105.2)) with h228 | h228
                      · skip
                        obtain rfl := orT h228 h192
                        refine vb h228 ?_
                        refine ps ?_
                        refine ps ?_
                        refine ps ?_
                        refine ps ?_
                        refine va (.bool true) ?_
                        have h229 : true = true := rfl
                        obtain rfl := orT h229 h193
                        refine vb h229 ?_
                        refine ps ?_
                        refine ps ?_
                        refine ps ?_
                        refine ps ?_
                        refine ps ?_
                        refine va (.bool true) ?_
                        have h230 : true = true := rfl
                        obtain rfl := orT h230 h194
                        refine vb h230 ?_
                        refine ps ?_
                        refine ps ?_
                        refine ps ?_
                        refine ps ?_
                        refine va (.bool true) ?_
                        refine wln ?_
                        exact ⟨c226, _, v197, u198, rfl, (l204.trans (l208.trans (l214.trans l226))), O223, ups_self ⟨rfl, rfl, rfl, rfl, rfl, rfl, rfl, trivial⟩, (h199.mono (l208.trans (l214.trans l226)))⟩
                      · skip
                        have H231 := orF h228 h192
                        refine vb h228 ?_
                        refine wn ?_
                        refine va (v28) ?_
                        refine wn ?_
                        obtain ⟨x_142, h232, H231⟩ := bs H231
                        refine WL.callP rfl (by kernel_rfl) (c_row_Row_Cells O223 (R111.mono (l116.trans (l136.trans (l144.trans (l182.trans (l204.trans (l208.trans (l214.trans l226)))))))) x_22.2 (h29.mono (l40.trans (l45.trans (l76.trans (l89.trans (l91.trans (l113.trans (l116.trans (l136.trans (l144.trans (l182.trans (l204.trans (l208.trans (l214.trans l226)))))))))))))) h232) ?_
                        rintro v233 c240 l240 ⟨_, u234, O237, rfl, h235⟩
                        refine wn ?_
                        obtain ⟨c244, h245, l244, O242, h243⟩ := O237.frz 0 rfl h235
                        refine WL.gh h245 ?_
                        obtain ⟨x_143, h246, H231⟩ := bs H231
                        refine WL.callP rfl (by kernel_rfl) (c_linotyperef23_Sound O242 x_142 h243 h246) ?_
                        rintro v252 c251 l251 ⟨O248, rfl⟩
                        refine wn ?_
                        refine va (.bool (!x_143)) ?_
                        obtain rfl := Option.some.inj H231
                        refine va (.bool (!x_143)) ?_
                        rcases Bool.eq_false_or_eq_true (!x_143) with h253 | h253
                        · skip
                          obtain rfl := orT h253 h193
                          refine vb h253 ?_
                          refine ps ?_
                          refine ps ?_
                          refine ps ?_
                          refine ps ?_
                          refine ps ?_
                          refine va (.bool true) ?_
                          have h254 : true = true := rfl
                          obtain rfl := orT h254 h194
                          refine vb h254 ?_
                          refine ps ?_
                          refine ps ?_
                          refine ps ?_
                          refine ps ?_
                          refine va (.bool true) ?_
                          refine wln ?_
                          have O255 := O248.selD 2 [1] (by kernel_rfl) (by kernel_rfl)
                          exact ⟨c251, _, v197, u198, rfl, (l204.trans (l208.trans (l214.trans (l226.trans (l240.trans (l244.trans l251)))))), O255, ups_self ⟨rfl, rfl, rfl, rfl, rfl, rfl, rfl, trivial⟩, (h199.mono (l208.trans (l214.trans (l226.trans (l240.trans (l244.trans l251))))))⟩
                        · skip
                          have H256 := orF h253 h193
                          refine vb h253 ?_
                          refine wn ?_
                          refine va (v83) ?_
                          refine wn ?_
                          obtain ⟨x_148, h257, H256⟩ := bs H256
                          refine WL.callP rfl (by kernel_rfl) (c_row_Row_Cells O248 (R111.mono (l116.trans (l136.trans (l144.trans (l182.trans (l204.trans (l208.trans (l214.trans (l226.trans (l240.trans (l244.trans l251))))))))))) x_62.2 (h84.mono (l91.trans (l113.trans (l116.trans (l136.trans (l144.trans (l182.trans (l204.trans (l208.trans (l214.trans (l226.trans (l240.trans (l244.trans l251))))))))))))) h257) ?_
                          rintro v258 c265 l265 ⟨_, u259, O262, rfl, h260⟩
                          refine wn ?_
                          refine va (v44) ?_
                          refine wn ?_
                          obtain ⟨c269, h270, l269, O267, h268⟩ := O262.frz 0 rfl h260
                          refine WL.gh h270 ?_
                          obtain ⟨x_150, h271, H256⟩ := bs H256
                          refine WL.callP rfl (by kernel_rfl) (c_linotyperef23_Same O267 x_148 s_33.1 h268 (h48.mono (l76.trans (l89.trans (l91.trans (l113.trans (l116.trans (l136.trans (l144.trans (l182.trans (l204.trans (l208.trans (l214.trans (l226.trans (l240.trans (l244.trans (l251.trans (l265.trans l269))))))))))))))))) h271) ?_
                          rintro v277 c276 l276 ⟨O273, rfl⟩
                          refine wn ?_
                          refine va (.bool (!x_150)) ?_
                          obtain rfl := Option.some.inj H256
                          refine va (.bool (!x_150)) ?_
                          rcases Bool.eq_false_or_eq_true (!x_150) with h278 | h278
                          · skip
                            obtain rfl := orT h278 h194
                            refine vb h278 ?_
                            refine ps ?_
                            refine ps ?_
                            refine ps ?_
                            refine ps ?_
                            refine va (.bool true) ?_
                            refine wln ?_
                            have O279 := O273.selD 3 [2] (by kernel_rfl) (by kernel_rfl)
                            exact ⟨c276, _, v197, u198, rfl, (l204.trans (l208.trans (l214.trans (l226.trans (l240.trans (l244.trans (l251.trans (l265.trans (l269.trans l276))))))))), O279, ups_self ⟨rfl, rfl, rfl, rfl, rfl, rfl, rfl, trivial⟩, (h199.mono (l208.trans (l214.trans (l226.trans (l240.trans (l244.trans (l251.trans (l265.trans (l269.trans l276)))))))))⟩
                          · skip
                            have H280 := orF h278 h194
                            refine vb h278 ?_
                            refine wn ?_
                            refine va (v83) ?_
                            refine wn ?_
                            obtain ⟨x_155, h281, H280⟩ := bs H280
                            refine WL.callP rfl (by kernel_rfl) (c_row_Row_Wrap O273 (R111.mono (l116.trans (l136.trans (l144.trans (l182.trans (l204.trans (l208.trans (l214.trans (l226.trans (l240.trans (l244.trans (l251.trans (l265.trans (l269.trans l276)))))))))))))) x_62.2 (h84.mono (l91.trans (l113.trans (l116.trans (l136.trans (l144.trans (l182.trans (l204.trans (l208.trans (l214.trans (l226.trans (l240.trans (l244.trans (l251.trans (l265.trans (l269.trans l276)))))))))))))))) h281) ?_
                            rintro v287 c286 l286 ⟨O283, rfl⟩
                            refine wn ?_
                            refine va (.bool z_49.1) ?_
                            refine wn ?_
                            refine va (.bool (!(x_155 == z_49.1))) ?_
                            obtain rfl := Option.some.inj H280
                            refine va (.bool (!(x_155 == z_49.1))) ?_
                            refine wln ?_
                            have O288 := O283.selD 3 [2] (by kernel_rfl) (by kernel_rfl)
                            exact ⟨c286, _, v197, u198, rfl, (l204.trans (l208.trans (l214.trans (l226.trans (l240.trans (l244.trans (l251.trans (l265.trans (l269.trans (l276.trans l286)))))))))), O288, ups_self ⟨rfl, rfl, rfl, rfl, rfl, rfl, rfl, trivial⟩, (h199.mono (l208.trans (l214.trans (l226.trans (l240.trans (l244.trans (l251.trans (l265.trans (l269.trans (l276.trans l286))))))))))⟩
                  · skip
                    rintro e_ w_ ⟨c289, g290, v195, u196, rfl, l289, O291, rfl, h292⟩
                    refine nrm ?_
                    refine W.cond (t := d_152) (by kernel_rfl) (fun h296 => ?_) (fun h296 => ?_)
                    · have H148 := it h296 H148
                      refine sr ?_
                      refine va (.bool false) ?_
                      refine wln ?_
                      refine W.ret ?_
                      refine bkr ?_
                      refine thr ?_
                      obtain rfl := Option.some.inj H148
                      refine ⟨_, rfl, ?_⟩
                      refine ⟨rfl, ?_⟩
                      have O297 := O291.selD 1 [] (by kernel_rfl) (by kernel_rfl)
                      exact ⟨c289, _, G109, rfl, (l45.trans (l76.trans (l89.trans (l91.trans (l113.trans (l116.trans (l136.trans (l144.trans (l182.trans l289))))))))), O297, ups_self ⟨rfl, trivial⟩, (R111.mono (l116.trans (l136.trans (l144.trans (l182.trans l289)))))⟩
                    · have H148 := ie h296 H148
                      refine W.skip ?_
                      refine bkn ?_
                      refine nrm ?_
                      refine W.region ?_
                      refine va (.int .i64 s_33.2.2.1) ?_
                      refine va (.int .i64 (w64 (s_33.2.2.1 + 1))) ?_
                      refine va (.int .i64 (w64 (s_33.2.2.1 + 1))) ?_
                      refine WL.nil ?_
                      obtain rfl := Option.some.inj H148
                      refine ⟨_, rfl, ?_⟩
                      have O298 := O291.selD 1 [] (by kernel_rfl) (by kernel_rfl)
                      exact ⟨c289, _, v149, G109, rfl, (l45.trans (l76.trans (l89.trans (l91.trans (l113.trans (l116.trans (l136.trans (l144.trans (l182.trans l289))))))))), O298, ups_self ⟨rfl, rfl, rfl, rfl, rfl, rfl, trivial⟩, (R111.mono (l116.trans (l136.trans (l144.trans (l182.trans l289))))), (h185.mono l289)⟩
        · have H := ie h52 H
          refine W.exit ?_
          refine thx ?_
          obtain rfl := Option.some.inj H
          refine ⟨_, rfl, rfl, ?_⟩
          exact ⟨c45, _, G49, rfl, l45, O47, ups_self trivial, R50⟩
      · skip
        obtain ⟨c301, h302, l301, O299, h300⟩ := O37.frz 0 rfl h39
        have O303 := O299.selD 1 [] (by kernel_rfl) (by kernel_rfl)
        exact ⟨c301, _, v41, G30, h302.symm, l301, O303, ups_self ⟨rfl, rfl, rfl, rfl, rfl, rfl, trivial⟩, (R32.mono (l40.trans l301)), h300⟩
      · skip
        rcases o_33 with o_33 | o_33
        · skip
          intro ex_; revert ex_
          rintro _ e_ w_ ⟨rfl, c304, g305, G307, rfl, l304, O306, rfl, R308⟩
          refine bkr ?_
          refine thr ?_
          obtain rfl := Option.some.inj H43
          exact ret1 (v := .bool o_33.2) rfl (by kernel_rfl) ⟨_, c304, rfl, rfl, (l13.trans (l34.trans (l40.trans l304))), G307, O306, R308, rfl⟩
        · skip
          rintro _ e_ w_ ⟨rfl, c310, g311, G313, rfl, l310, O312, rfl, R314⟩
          refine bke ?_
          refine nrm ?_
          refine sr ?_
          refine va (.pointer none) ?_
          refine wln ?_
          refine sr ?_
          refine va (.pointer none) ?_
          obtain ⟨x_168, h316, H43⟩ := bs H43
          refine WL.callP rfl (by kernel_rfl) (c_row_Row_GoOn O312 R314 (none : Option Nat) true rfl h316) ?_
          rintro v322 c321 l321 ⟨G317, O318, R319, rfl⟩
          refine wln ?_
          refine sr ?_
          refine va (.pointer none) ?_
          obtain ⟨x_171, h323, H43⟩ := bs H43
          refine WL.callP rfl (by kernel_rfl) (c_row_Row_Cell O318 R319 (none : Option Nat) 0 rfl h323) ?_
          rintro v332 c331 l331 ⟨v324, u325, O328, rfl, h326⟩
          refine va (.tuple #[.agg #[.int .i64 x_171.1.Kind, v324], .bool x_171.2]) ?_
          refine va (.agg #[.int .i64 x_171.1.Kind, v324]) ?_
          refine va (.bool x_171.2) ?_
          refine WL.mem rfl (Own.al (T := 27) (vs := [.int .i64 0, .slice none 0 0]) O328 (by kernel_rfl)) ?_
          rintro v336 c335 l335 ⟨b333, rfl, O334⟩
          obtain ⟨a337, a338, a339, rfl⟩ := ((h326.mono l335)).form
          refine WL.memD rfl (Own.st (T := 27) (j := 0) (us := [.int .i64 x_171.1.Kind, .slice a337 a338 a339]) (nw := [.int .i64 x_171.1.Kind, .slice a337 a338 a339]) (v := .agg #[.int .i64 x_171.1.Kind, .slice a337 a338 a339]) 0 O334 (by kernel_rfl) rfl rfl rfl rfl (by kernel_rfl) ⟨rfl, ((h326.mono l335)).one, trivial⟩ rfl rfl) ?_
          rintro c341 l341 O340
          refine va (.bool x_171.2) ?_
          refine wln ?_
          refine W.seq ?_
          obtain ⟨x_180, h342, H43⟩ := bs H43
          obtain ⟨d_182, h343, H43⟩ := bs H43
          obtain ⟨d_186, h344, H43⟩ := bs H43
          obtain ⟨d_191, h345, H43⟩ := bs H43
          obtain ⟨d_197, h346, H43⟩ := bs H43
          obtain ⟨d_202, h347, H43⟩ := bs H43
          obtain ⟨d_207, h348, H43⟩ := bs H43
          refine W.join (fun e w => ∃ (c : Cx) (g : Nat → Value) (G_ : Gm), w = c.w ∧ c341.le c ∧ Own c G_ (⟨.pointer (some ⟨b333, 0, none⟩), 27, [.int .i64 x_171.1.Kind, .slice a337 a338 a339], 0⟩ :: es true (RI .i32) (.slice a337 a338 a339) 21 u325 x_171.1.Text :: F) ∧ e = ups g [(4, .bool d_207.1)] ∧ Rel c d_207.2 G_) ?_ ?_
          · clear H43
            refine W.region ?_
            refine va (.pointer none) ?_
            refine WL.callP rfl (by kernel_rfl) (c_row_Row_Wide O340 (R319.mono (l331.trans (l335.trans l341))) (none : Option Nat) rfl h342) ?_
            rintro v354 c353 l353 ⟨O350, rfl⟩
            refine va (.bool (x_180 == 0)) ?_
            rcases Bool.eq_false_or_eq_true (x_180 == 0) with h355 | h355
            · skip
              have H356 := anT h355 h343
              refine vb h355 ?_
              refine wn ?_
              refine va (.bool x_171.2) ?_
              refine wn ?_
              refine va (.bool (!x_171.2)) ?_
              obtain rfl := Option.some.inj H356
              refine va (.bool (!x_171.2)) ?_
              rcases Bool.eq_false_or_eq_true (!x_171.2) with h357 | h357
              · skip
                have H358 := anT h357 h344
                refine vb h357 ?_
                refine wn ?_
                refine va (.pointer (some ⟨b333, 0, none⟩)) ?_
                refine wn ?_
                refine WL.val0 (v := .int .i64 x_171.1.Kind) rfl (rx (by kernel_rfl) (ldE1 (j := 0) Tryd.underlying3 rfl (O350.on 0 rfl) rfl rfl)) ?_
                refine wn ?_
                refine va (.bool (x_171.1.Kind == 0)) ?_
                obtain rfl := Option.some.inj H358
                refine va (.bool (x_171.1.Kind == 0)) ?_
                rcases Bool.eq_false_or_eq_true (x_171.1.Kind == 0) with h359 | h359
                · skip
                  have H360 := anT h359 h345
                  refine vb h359 ?_
                  refine wn ?_
                  refine va (.pointer none) ?_
                  refine wn ?_
                  obtain ⟨x_194, h361, H360⟩ := bs H360
                  refine WL.callP rfl (by kernel_rfl) (c_row_Row_Cells O350 (R319.mono (l331.trans (l335.trans (l341.trans l353)))) (none : Option Nat) rfl h361) ?_
                  rintro v362 c369 l369 ⟨_, u363, O366, rfl, h364⟩
                  refine wn ?_
                  refine WL.val0 (v := .int .i64 (x_194.length : Int)) rfl (rx (by kernel_rfl) (run_lenO (ty := 3) Tryd.underlying22 h364 _)) ?_
                  refine wn ?_
                  refine va (.bool ((x_194.length : Int) == 0)) ?_
                  obtain rfl := Option.some.inj H360
                  refine va (.bool ((x_194.length : Int) == 0)) ?_
                  rcases Bool.eq_false_or_eq_true ((x_194.length : Int) == 0) with h371 | h371
                  · skip
                    have H372 := anT h371 h346
                    refine vb h371 ?_
                    refine wn ?_
                    refine va (.pointer none) ?_
                    refine wn ?_
                    obtain ⟨x_200, h373, H372⟩ := bs H372
                    refine WL.callP rfl (by kernel_rfl) (c_row_Row_Wrap O366 (R319.mono (l331.trans (l335.trans (l341.trans (l353.trans l369))))) (none : Option Nat) rfl h373) ?_
                    rintro v379 c378 l378 ⟨O375, rfl⟩
                    refine wn ?_
                    refine va (.bool (!x_200)) ?_
                    obtain rfl := Option.some.inj H372
                    refine va (.bool (!x_200)) ?_
                    rcases Bool.eq_false_or_eq_true (!x_200) with h380 | h380
                    · skip
                      have H381 := it h380 h347
                      refine vb h380 ?_
                      refine wn ?_
                      refine va (.pointer none) ?_
                      refine wn ?_
                      obtain ⟨x_205, h382, H381⟩ := bs H381
                      refine WL.callP rfl (by kernel_rfl) (c_row_Row_Copy O375 (R319.mono (l331.trans (l335.trans (l341.trans (l353.trans (l369.trans l378)))))) (none : Option Nat) rfl h382) ?_
                      rintro v383 c389 l389 ⟨_, G385, O386, R387, a388, rfl, h384⟩
                      refine wn ?_
                      refine WL.val0 (v := .bool x_205.2.isNone) rfl (by rcases (h384).cs with ⟨h1_, h2_⟩ | ⟨b_, h1_, h2_⟩ <;> (subst h1_; rw [h2_]; kernel_rfl)) ?_
                      obtain rfl := Option.some.inj H381
                      refine va (.bool x_205.2.isNone) ?_
                      rcases Bool.eq_false_or_eq_true (x_205.2.isNone) with h391 | h391
                      · skip
                        have H392 := it h391 h348
                        refine vb h391 ?_
                        refine wn ?_
                        refine va (.pointer none) ?_
                        refine wn ?_
                        obtain ⟨x_210, h393, H392⟩ := bs H392
                        refine WL.callP rfl (by kernel_rfl) (c_row_Row_Paint O386 R387 ((hG.mono (l13.trans (l34.trans (l40.trans (l310.trans (l321.trans (l331.trans (l335.trans (l341.trans (l353.trans (l369.trans (l378.trans l389)))))))))))).le (by decide)) (none : Option Nat) 0 ([] : List G_api_Cell) rfl (Sl.nl _ _) h393) ?_
                        rintro v394 c400 l400 ⟨_, G396, O397, R398, rfl, h395⟩
                        refine wn ?_
                        obtain ⟨x_211, h402, H392⟩ := bs H392
                        refine WL.callP rfl (by kernel_rfl) (c_api_Code O397 ((hG.mono (l13.trans (l34.trans (l40.trans (l310.trans (l321.trans (l331.trans (l335.trans (l341.trans (l353.trans (l369.trans (l378.trans (l389.trans l400))))))))))))).le (by decide)) x_210.2 h395 h402) ?_
                        rintro v408 c407 l407 ⟨O404, rfl⟩
                        refine wn ?_
                        refine va (.bool (x_211 == 3)) ?_
                        obtain rfl := Option.some.inj H392
                        refine va (.bool (x_211 == 3)) ?_
                        refine va (.bool (x_211 == 3)) ?_
                        refine wln ?_
                        have O409 := O404.selD 3 [1, 2] (by kernel_rfl) (by kernel_rfl)
                        exact ⟨c407, _, G396, rfl, (l353.trans (l369.trans (l378.trans (l389.trans (l400.trans l407))))), O409, ups_self ⟨rfl, trivial⟩, (R398.mono l407)⟩
                      · skip
                        obtain rfl := Option.some.inj (ie h391 h348)
                        refine vb h391 ?_
                        refine ps ?_
                        refine ps ?_
                        refine ps ?_
                        refine ps ?_
                        refine va (.bool false) ?_
                        refine va (.bool false) ?_
                        refine wln ?_
                        have O410 := O386.selD 3 [1, 2] (by kernel_rfl) (by kernel_rfl)
                        exact ⟨c389, _, G385, rfl, (l353.trans (l369.trans (l378.trans l389))), O410, ups_self ⟨rfl, trivial⟩, R387⟩
                    · skip
                      obtain rfl := Option.some.inj (ie h380 h347)
                      refine vb h380 ?_
                      refine ps ?_
                      refine ps ?_
                      refine ps ?_
                      refine va (.bool false) ?_
                      have h411 : false = false := rfl
                      obtain rfl := Option.some.inj (ie h411 h348)
                      refine vb h411 ?_
                      refine ps ?_
                      refine ps ?_
                      refine ps ?_
                      refine ps ?_
                      refine va (.bool false) ?_
                      refine va (.bool false) ?_
                      refine wln ?_
                      have O412 := O375.selD 3 [1, 2] (by kernel_rfl) (by kernel_rfl)
                      exact ⟨c378, _, G317, rfl, (l353.trans (l369.trans l378)), O412, ups_self ⟨rfl, trivial⟩, (R319.mono (l331.trans (l335.trans (l341.trans (l353.trans (l369.trans l378))))))⟩
                  · skip
                    obtain rfl := anF h371 h346
                    refine vb h371 ?_
                    refine ps ?_
                    refine ps ?_
                    refine ps ?_
                    refine va (.bool false) ?_
                    have h413 : false = false := rfl
                    obtain rfl := Option.some.inj (ie h413 h347)
                    refine vb h413 ?_
                    refine ps ?_
                    refine ps ?_
                    refine ps ?_
                    refine va (.bool false) ?_
                    have h414 : false = false := rfl
                    obtain rfl := Option.some.inj (ie h414 h348)
                    refine vb h414 ?_
                    refine ps ?_
                    refine ps ?_
                    refine ps ?_
                    refine ps ?_
                    refine va (.bool false) ?_
                    refine va (.bool false) ?_
                    refine wln ?_
                    have O415 := O366.selD 3 [1, 2] (by kernel_rfl) (by kernel_rfl)
                    exact ⟨c369, _, G317, rfl, (l353.trans l369), O415, ups_self ⟨rfl, trivial⟩, (R319.mono (l331.trans (l335.trans (l341.trans (l353.trans l369)))))⟩
                · skip
                  obtain rfl := anF h359 h345
                  refine vb h359 ?_
                  refine ps ?_
                  refine ps ?_
                  refine ps ?_
                  refine ps ?_
                  refine va (.bool false) ?_
                  have h416 : false = false := rfl
                  obtain rfl := anF h416 h346
                  refine vb h416 ?_
                  refine ps ?_
                  refine ps ?_
                  refine ps ?_
                  refine va (.bool false) ?_
                  have h417 : false = false := rfl
                  obtain rfl := Option.some.inj (ie h417 h347)
                  refine vb h417 ?_
                  refine ps ?_
                  refine ps ?_
                  refine ps ?_
                  refine va (.bool false) ?_
                  have h418 : false = false := rfl
                  obtain rfl := Option.some.inj (ie h418 h348)
                  refine vb h418 ?_
                  refine ps ?_
                  refine ps ?_
                  refine ps ?_
                  refine ps ?_
                  refine va (.bool false) ?_
                  refine va (.bool false) ?_
                  refine wln ?_
                  exact ⟨c353, _, G317, rfl, l353, O350, ups_self ⟨rfl, trivial⟩, (R319.mono (l331.trans (l335.trans (l341.trans l353))))⟩
              · skip
                obtain rfl := anF h357 h344
                refine vb h357 ?_
                refine ps ?_
                refine ps ?_
                refine ps ?_
                refine va (.bool false) ?_
                have h419 : false = false := rfl
                obtain rfl := anF h419 h345
                refine vb h419 ?_
                refine ps ?_
                refine ps ?_
                refine ps ?_
                refine ps ?_
                refine va (.bool false) ?_
                have h420 : false = false := rfl
                obtain rfl := anF h420 h346
                refine vb h420 ?_
                refine ps ?_
                refine ps ?_
                refine ps ?_
                refine va (.bool false) ?_
                have h421 : false = false := rfl
                obtain rfl := Option.some.inj (ie h421 h347)
                refine vb h421 ?_
                refine ps ?_
                refine ps ?_
                refine ps ?_
                refine va (.bool false) ?_
                have h422 : false = false := rfl
                obtain rfl := Option.some.inj (ie h422 h348)
                refine vb h422 ?_
                refine ps ?_
                refine ps ?_
                refine ps ?_
                refine ps ?_
                refine va (.bool false) ?_
                refine va (.bool false) ?_
                refine wln ?_
                exact ⟨c353, _, G317, rfl, l353, O350, ups_self ⟨rfl, trivial⟩, (R319.mono (l331.trans (l335.trans (l341.trans l353))))⟩
            · skip
              obtain rfl := anF h355 h343
              refine vb h355 ?_
              refine ps ?_
              refine ps ?_
              refine va (.bool false) ?_
              have h423 : false = false := rfl
              obtain rfl := anF h423 h344
              refine vb h423 ?_
              refine ps ?_
              refine ps ?_
              refine ps ?_
              refine va (.bool false) ?_
              have h424 : false = false := rfl
              obtain rfl := anF h424 h345
              refine vb h424 ?_
              refine ps ?_
              refine ps ?_
              refine ps ?_
              refine ps ?_
              refine va (.bool false) ?_
              have h425 : false = false := rfl
              obtain rfl := anF h425 h346
              refine vb h425 ?_
              refine ps ?_
              refine ps ?_
              refine ps ?_
              refine va (.bool false) ?_
              have h426 : false = false := rfl
              obtain rfl := Option.some.inj (ie h426 h347)
              refine vb h426 ?_
              refine ps ?_
              refine ps ?_
              refine ps ?_
              refine va (.bool false) ?_
              have h427 : false = false := rfl
              obtain rfl := Option.some.inj (ie h427 h348)
              refine vb h427 ?_
              refine ps ?_
              refine ps ?_
              refine ps ?_
              refine ps ?_
              refine va (.bool false) ?_
              refine va (.bool false) ?_
              refine wln ?_
              exact ⟨c353, _, G317, rfl, l353, O350, ups_self ⟨rfl, trivial⟩, (R319.mono (l331.trans (l335.trans (l341.trans l353))))⟩
          · skip
            rintro e_ w_ ⟨c428, g429, G431, rfl, l428, O430, rfl, R432⟩
            refine nrm ?_
            refine W.ret ?_
            obtain rfl := Option.some.inj H43
            have O434 := O430.selD 2 [] (by kernel_rfl) (by kernel_rfl)
            exact ret1 (v := .bool d_207.1) rfl (by kernel_rfl) ⟨_, c428, rfl, rfl, (l13.trans (l34.trans (l40.trans (l310.trans (l321.trans (l331.trans (l335.trans (l341.trans l428)))))))), G431, O434, R432, rfl⟩

end Go.Proofs.YtohpkblleihmaaaDoor
