import Derived.Test.YtohpkblleihmaaaDoorMx
import Derived.Test.YtohpkblleihmaaaDoorProg
import Derived.Test.YtohpkblleihmaaaDoorMy
import Derived.Test.YtohpkblleihmaaaDoorMz
import Derived.Test.YtohpkblleihmaaaDoorA1
import Derived.Test.YtohpkblleihmaaaDoorG1
import Derived.Test.YtohpkblleihmaaaDoorM1
import Derived.Test.YtohpkblleihmaaaDoorN1
namespace Go.Proofs.YtohpkblleihmaaaDoor
open Go Go.Lt
set_option maxRecDepth 10000
set_option linter.unusedVariables false
attribute [local irreducible] W WL AC
def f_basew_Silent (p0 : Int) : Option (Bool) :=
  (andE (decide (p0 ≥ 0)) (some (decide (p0 < 32)))).bind fun d_5 =>
  (orE d_5 ((andE (decide (p0 ≥ 127)) (some (decide (p0 ≤ 159)))).bind fun d_13 =>
  some d_13)).bind fun d_9 =>
  some d_9
theorem c_basew_Silent {c0 : Cx} {G : Gm} {F : List En} (O0 : Own c0 G F) (p0 : Int) {r : Bool} (H : f_basew_Silent p0 = some r) :
    Calls Tryd.prog 144 #[.int .i32 p0] c0.w (Post c0 fun c v => Own c G (F) ∧ v = .bool r) := by
  unfold f_basew_Silent at H
  refine enter (l := [.int .i32 p0]) Tryd.func144 rfl rfl rfl ?_
  refine sr ?_
  refine va (.bool false) ?_
  refine wln ?_
  refine W.seq ?_
  obtain ⟨d_5, h1, H⟩ := bs H
  obtain ⟨d_9, h2, H⟩ := bs H
  refine W.join (fun e w => ∃ (c : Cx) (g : Nat → Value), w = c.w ∧ c0.le c ∧ Own c G (F) ∧ e = ups g [(2, .bool d_9)]) ?_ ?_
  · clear H
    refine W.region ?_
    refine va (.int .i32 p0) ?_
    refine va (.bool (decide (p0 ≥ 0))) ?_
    rcases Bool.eq_false_or_eq_true (decide (p0 ≥ 0)) with h3 | h3
    · skip
      have H4 := anT h3 h1
      refine vb h3 ?_
      refine wn ?_
      refine va (.int .i32 p0) ?_
      refine wn ?_
      refine va (.bool (decide (p0 < 32))) ?_
      obtain rfl := Option.some.inj H4
      refine va (.bool (decide (p0 < 32))) ?_
      rcases Bool.eq_false_or_eq_true (decide (p0 < 32)) with h5 | h5
      · skip
        obtain rfl := orT h5 h2
        refine vb h5 ?_
        refine ps ?_
        refine ps ?_
        refine ps ?_
        refine ps ?_
        refine ps ?_
        refine ps ?_
        refine va (.bool true) ?_
        refine va (.bool true) ?_
        refine wln ?_
        exact ⟨c0, _, rfl, (Cx.le.refl _), O0, ups_self ⟨rfl, trivial⟩⟩
      · skip
        have H6 := orF h5 h2
        refine vb h5 ?_
        refine wn ?_
        refine va (.int .i32 p0) ?_
        refine wn ?_
        refine va (.bool (decide (p0 ≥ 127))) ?_
        refine wn ?_
        obtain ⟨d_13, h7, H6⟩ := bs H6
        rcases Bool.eq_false_or_eq_true (decide (p0 ≥ 127)) with h8 | h8
        · skip
          have H9 := anT h8 h7
          refine vb h8 ?_
          refine wn ?_
          refine va (.int .i32 p0) ?_
          refine wn ?_
          refine va (.bool (decide (p0 ≤ 159))) ?_
          refine wn ?_
          obtain rfl := Option.some.inj H9
          refine va (.bool (decide (p0 ≤ 159))) ?_
          obtain rfl := Option.some.inj H6
          refine va (.bool (decide (p0 ≤ 159))) ?_
          refine va (.bool (decide (p0 ≤ 159))) ?_
          refine wln ?_
          exact ⟨c0, _, rfl, (Cx.le.refl _), O0, ups_self ⟨rfl, trivial⟩⟩
        · skip
          obtain rfl := anF h8 h7
          refine vb h8 ?_
          refine ps ?_
          refine ps ?_
          refine wn ?_
          refine va (.bool false) ?_
          obtain rfl := Option.some.inj H6
          refine va (.bool false) ?_
          refine va (.bool false) ?_
          refine wln ?_
          exact ⟨c0, _, rfl, (Cx.le.refl _), O0, ups_self ⟨rfl, trivial⟩⟩
    · skip
      obtain rfl := anF h3 h1
      refine vb h3 ?_
      refine ps ?_
      refine ps ?_
      refine va (.bool false) ?_
      have h10 : false = false := rfl
      have H11 := orF h10 h2
      refine vb h10 ?_
      refine wn ?_
      refine va (.int .i32 p0) ?_
      refine wn ?_
      refine va (.bool (decide (p0 ≥ 127))) ?_
      refine wn ?_
      obtain ⟨d_13, h12, H11⟩ := bs H11
      rcases Bool.eq_false_or_eq_true (decide (p0 ≥ 127)) with h13 | h13
      · skip
        have H14 := anT h13 h12
        refine vb h13 ?_
        refine wn ?_
        refine va (.int .i32 p0) ?_
        refine wn ?_
        refine va (.bool (decide (p0 ≤ 159))) ?_
        refine wn ?_
        obtain rfl := Option.some.inj H14
        refine va (.bool (decide (p0 ≤ 159))) ?_
        obtain rfl := Option.some.inj H11
        refine va (.bool (decide (p0 ≤ 159))) ?_
        refine va (.bool (decide (p0 ≤ 159))) ?_
        refine wln ?_
        exact ⟨c0, _, rfl, (Cx.le.refl _), O0, ups_self ⟨rfl, trivial⟩⟩
      · skip
        obtain rfl := anF h13 h12
        refine vb h13 ?_
        refine ps ?_
        refine ps ?_
        refine wn ?_
        refine va (.bool false) ?_
        obtain rfl := Option.some.inj H11
        refine va (.bool false) ?_
        refine va (.bool false) ?_
        refine wln ?_
        exact ⟨c0, _, rfl, (Cx.le.refl _), O0, ups_self ⟨rfl, trivial⟩⟩
  · skip
    rintro e_ w_ ⟨c15, g16, rfl, l15, O17, rfl⟩
    refine nrm ?_
    refine W.ret ?_
    obtain rfl := Option.some.inj H
    exact ret1 (v := .bool d_9) rfl (by kernel_rfl) ⟨_, c15, rfl, rfl, l15, O17, rfl⟩

def f_cursor_Back (p0 : G_api_Cursor) : Option (G_api_Cursor) :=
  (if (decide (p0.Col > 0)) = true then
  (some ((w64 (p0.Col - 1))) : Option (Int))
  else
  (some (p0.Col) : Option (Int))).bind fun z_7 =>
  some (⟨p0.Row, z_7, false⟩ : G_api_Cursor)
theorem c_cursor_Back {c0 : Cx} {G : Gm} {F : List En} (O0 : Own c0 G F) (p0 : G_api_Cursor) {r : G_api_Cursor} (H : f_cursor_Back p0 = some r) :
    Calls Tryd.prog 146 #[.agg #[.int .i64 p0.Row, .int .i64 p0.Col, .bool p0.Pending]] c0.w (Post c0 fun c v => Own c G (F) ∧ v = .agg #[.int .i64 r.Row, .int .i64 r.Col, .bool r.Pending]) := by
  unfold f_cursor_Back at H
  refine enter (l := [.agg #[.int .i64 p0.Row, .int .i64 p0.Col, .bool p0.Pending]]) Tryd.func146 rfl rfl rfl ?_
  refine sr ?_
  refine WL.mem rfl (Own.al (T := 120) (vs := [.int .i64 p0.Row, .int .i64 p0.Col, .bool p0.Pending]) O0 (by kernel_rfl)) ?_
  rintro v4 c3 l3 ⟨b1, rfl, O2⟩
  refine WL.mem rfl (Own.al (T := 120) (vs := [.int .i64 0, .int .i64 0, .bool false]) O2 (by kernel_rfl)) ?_
  rintro v8 c7 l7 ⟨b5, rfl, O6⟩
  refine wln ?_
  refine sr ?_
  refine va (.pointer (some ⟨b1, 2, none⟩)) ?_
  refine WL.memD rfl (Own.st (T := 4) (j := 2) (us := [.bool false]) (nw := [.int .i64 p0.Row, .int .i64 p0.Col, .bool false]) (v := .bool false) 1 O6 (by kernel_rfl) rfl rfl rfl rfl (by kernel_rfl) ⟨rfl, trivial⟩ rfl rfl) ?_
  rintro c10 l10 O9
  refine wln ?_
  obtain ⟨z_7, H11, H12⟩ := bs H
  refine W.seqJ (fun e w => ∃ (c : Cx) (g : Nat → Value), w = c.w ∧ c10.le c ∧ Own c G (⟨.pointer (some ⟨b5, 0, none⟩), 120, [.int .i64 0, .int .i64 0, .bool false], 0⟩ :: ⟨.pointer (some ⟨b1, 0, none⟩), 120, [.int .i64 p0.Row, .int .i64 z_7, .bool false], 0⟩ :: F) ∧ e = ups g [(1, .pointer (some ⟨b1, 0, none⟩)), (2, .pointer (some ⟨b5, 0, none⟩))]) ?_ ?_
  · skip
    refine sr ?_
    refine va (.pointer (some ⟨b1, 1, none⟩)) ?_
    refine WL.val0 (v := .int .i64 p0.Col) rfl (rx (by kernel_rfl) (ldE1 (j := 1) Tryd.underlying3 rfl (O9.on 1 rfl) rfl rfl)) ?_
    refine va (.bool (decide (p0.Col > 0))) ?_
    refine wln ?_
    refine W.cond (t := decide (p0.Col > 0)) (by kernel_rfl) (fun h13 => ?_) (fun h13 => ?_)
    · have H11 := it h13 H11
      refine W.region ?_
      refine va (.pointer (some ⟨b1, 1, none⟩)) ?_
      refine WL.val0 (v := .int .i64 p0.Col) rfl (rx (by kernel_rfl) (ldE1 (j := 1) Tryd.underlying3 rfl (O9.on 1 rfl) rfl rfl)) ?_
      refine va (.int .i64 (w64 (p0.Col - 1))) ?_
      refine va (.pointer (some ⟨b1, 1, none⟩)) ?_
      refine WL.memD rfl (Own.st (T := 3) (j := 1) (us := [.int .i64 (w64 (p0.Col - 1))]) (nw := [.int .i64 p0.Row, .int .i64 (w64 (p0.Col - 1)), .bool false]) (v := .int .i64 (w64 (p0.Col - 1))) 1 O9 (by kernel_rfl) rfl rfl rfl rfl (by kernel_rfl) ⟨rfl, trivial⟩ rfl rfl) ?_
      rintro c15 l15 O14
      refine wln ?_
      obtain rfl := Option.some.inj H11
      exact ⟨c15, _, rfl, l15, O14, ups_self ⟨rfl, rfl, trivial⟩⟩
    · have H11 := ie h13 H11
      refine W.skip ?_
      refine nrm ?_
      obtain rfl := Option.some.inj H11
      exact ⟨c10, _, rfl, (Cx.le.refl _), O9, ups_self ⟨rfl, rfl, trivial⟩⟩
  · skip
    rintro e_ w_ ⟨c16, g17, rfl, l16, O18, rfl⟩
    refine sr ?_
    refine WL.val0 (v := .agg #[.int .i64 p0.Row, .int .i64 z_7, .bool false]) rfl (rx (by kernel_rfl) (ldEN (T := 120) (j := 0) (l := [.int .i64 p0.Row, .int .i64 z_7, .bool false]) (by kernel_rfl) (by kernel_rfl) (O18.on 1 rfl) rfl rfl)) ?_
    refine WL.memD rfl (Own.st (T := 120) (j := 0) (us := [.int .i64 p0.Row, .int .i64 z_7, .bool false]) (nw := [.int .i64 p0.Row, .int .i64 z_7, .bool false]) (v := .agg #[.int .i64 p0.Row, .int .i64 z_7, .bool false]) 0 O18 (by kernel_rfl) rfl rfl rfl rfl (by kernel_rfl) ⟨rfl, rfl, rfl, trivial⟩ rfl rfl) ?_
    rintro c23 l23 O22
    refine wln ?_
    refine W.ret ?_
    obtain rfl := Option.some.inj H12
    have O24 := O22.selD 2 [] (by kernel_rfl) (by kernel_rfl)
    exact retC (c := c23) (vs := [.int .i64 p0.Row, .int .i64 z_7, .bool false]) rfl (by kernel_rfl) (by kernel_rfl) (by kernel_rfl) (O22.on 0 rfl _ rfl).1 ⟨_, c23, rfl, rfl, (l3.trans (l7.trans (l10.trans (l16.trans l23)))), O24, rfl⟩

def f_ctrl_Do (sg : Sto) (p0 : Option Nat) (p1 : Int) : Option (Sto × Bool) :=
  (f_basew_Silent p1).bind fun x_4 =>
  if (!x_4) = true then
  some (sg, false)
  else
  (orE p0.isNone ((p0).bind fun k_14 =>
  (sg.place_Pen[k_14]?).bind fun o_16 =>
  some o_16.G.isNone)).bind fun d_11 =>
  if d_11 = true then
  some (sg, true)
  else
  (p0).bind fun k_22 =>
  (sg.place_Pen[k_22]?).bind fun o_24 =>
  (f_grid_Grid_Wide sg o_24.G).bind fun x_33 =>
  (f_grid_Grid_High sg o_24.G).bind fun x_34 =>
  (f_cursor_Hold (⟨o_24.At.Row, o_24.At.Col, o_24.At.Pending⟩ : G_api_Cursor) x_33 x_34).bind fun x_35 =>
  (if (p1 == 13) = true then
  (f_cursor_Return x_35).bind fun x_47 =>
  (p0).bind fun k_48 =>
  (sg.place_Pen[k_48]?).bind fun o_50 =>
  (sg.set_place_Pen k_48 (⟨o_50.G, (⟨x_47.Row, x_47.Col, x_47.Pending⟩ : G_api_Cursor), o_50.Auto⟩ : G_place_Pen)).bind fun s_50001 =>
  (some (s_50001) : Option (Sto))
  else
  if (p1 == 10) = true then
  (f_place_Pen_NewLine sg p0).bind fun x_56 =>
  (some (x_56) : Option (Sto))
  else
  if (p1 == 8) = true then
  (f_cursor_Back x_35).bind fun x_63 =>
  (p0).bind fun k_64 =>
  (sg.place_Pen[k_64]?).bind fun o_66 =>
  (sg.set_place_Pen k_64 (⟨o_66.G, (⟨x_63.Row, x_63.Col, x_63.Pending⟩ : G_api_Cursor), o_66.Auto⟩ : G_place_Pen)).bind fun s_66001 =>
  (some (s_66001) : Option (Sto))
  else
  (some (sg) : Option (Sto))).bind fun z_39 =>
  some (z_39, true)
theorem c_ctrl_Do {c0 : Cx} {G : Gm} {F : List En} {sg : Sto} {v1 : Value} (O0 : Own c0 G F) (R0 : Rel c0 sg G) (p0 : Option Nat) (p1 : Int) {r : Sto × Bool} (h2 : Pt 2 c0 v1 p0) (H : f_ctrl_Do sg p0 p1 = some r) :
    Calls Tryd.prog 85 #[v1, .int .i32 p1] c0.w (Post c0 fun c v => ∃ G_ : Gm, Own c G_ (F) ∧ Rel c r.1 G_ ∧ v = .bool r.2) := by
  unfold f_ctrl_Do at H
  refine enter (l := [v1, .int .i32 p1]) Tryd.func85 rfl rfl rfl ?_
  refine sr ?_
  refine va (.bool false) ?_
  refine wln ?_
  refine W.seq ?_
  refine sr ?_
  refine va (.int .i32 p1) ?_
  obtain ⟨x_4, h3, H⟩ := bs H
  refine WL.callP rfl (by kernel_rfl) (c_basew_Silent O0 p1 h3) ?_
  rintro v9 c8 l8 ⟨O5, rfl⟩
  refine va (.bool (!x_4)) ?_
  refine wln ?_
  refine W.cond (t := !x_4) (by kernel_rfl) (fun h10 => ?_) (fun h10 => ?_)
  · have H := it h10 H
    refine sr ?_
    refine va (.bool false) ?_
    refine wln ?_
    refine W.ret ?_
    refine thr ?_
    obtain rfl := Option.some.inj H
    exact ret1 (v := .bool false) rfl (by kernel_rfl) ⟨_, c8, rfl, rfl, l8, G, O5, (R0.mono l8), rfl⟩
  · have H := ie h10 H
    refine W.skip ?_
    refine nrm ?_
    refine W.seq ?_
    refine W.seq ?_
    obtain ⟨d_11, h11, H⟩ := bs H
    refine W.join (fun e w => ∃ (c : Cx) (g : Nat → Value), w = c.w ∧ c8.le c ∧ Own c G (F) ∧ e = ups g [(0, v1), (1, .int .i32 p1), (17, .bool d_11)]) ?_ ?_
    · clear H
      refine W.region ?_
      refine va (v1) ?_
      refine WL.val0 (v := .bool p0.isNone) rfl (by rcases ((h2.mono l8)).cs with ⟨h1_, h2_⟩ | ⟨b_, h1_, h2_⟩ <;> (subst h1_; rw [h2_]; kernel_rfl)) ?_
      rcases Bool.eq_false_or_eq_true (p0.isNone) with h12 | h12
      · skip
        obtain rfl := orT h12 h11
        refine vb h12 ?_
        refine ps ?_
        refine ps ?_
        refine ps ?_
        refine ps ?_
        refine ps ?_
        refine va (.bool true) ?_
        refine wln ?_
        exact ⟨c8, _, rfl, (Cx.le.refl _), O5, ups_self ⟨rfl, rfl, rfl, trivial⟩⟩
      · skip
        have H13 := orF h12 h11
        refine vb h12 ?_
        refine wn ?_
        refine va (v1) ?_
        refine wn ?_
        obtain ⟨k_14, h16, H13⟩ := bs H13
        obtain ⟨b14, rfl, h15⟩ := ((h2.mono l8)).get h16
        refine va (.pointer (some ⟨b14, 0, none⟩)) ?_
        refine wn ?_
        refine va (.pointer (some ⟨b14, 0, none⟩)) ?_
        refine wn ?_
        obtain ⟨o_16, h17, H13⟩ := bs H13
        obtain ⟨v18, h20, h19⟩ := Rel.open_place_Pen (R0.mono l8) h17 h15
        refine WL.val0 (v := v18) rfl (rx (by kernel_rfl) (ldE1 (j := 0) Tryd.underlying51 rfl (O5.gon h20 0 rfl) rfl rfl)) ?_
        refine wn ?_
        refine WL.val0 (v := .bool o_16.G.isNone) rfl (by rcases (h19).cs with ⟨h1_, h2_⟩ | ⟨b_, h1_, h2_⟩ <;> (subst h1_; rw [h2_]; kernel_rfl)) ?_
        obtain rfl := Option.some.inj H13
        refine va (.bool o_16.G.isNone) ?_
        refine wln ?_
        exact ⟨c8, _, rfl, (Cx.le.refl _), O5, ups_self ⟨rfl, rfl, rfl, trivial⟩⟩
    · skip
      rintro e_ w_ ⟨c21, g22, rfl, l21, O23, rfl⟩
      refine nrm ?_
      refine W.cond (t := d_11) (by kernel_rfl) (fun h27 => ?_) (fun h27 => ?_)
      · have H := it h27 H
        refine sr ?_
        refine va (.bool true) ?_
        refine wln ?_
        refine W.ret ?_
        refine thr ?_
        obtain rfl := Option.some.inj H
        exact ret1 (v := .bool true) rfl (by kernel_rfl) ⟨_, c21, rfl, rfl, (l8.trans l21), G, O23, (R0.mono (l8.trans l21)), rfl⟩
      · have H := ie h27 H
        refine W.skip ?_
        refine nrm ?_
        refine W.seq ?_
        obtain ⟨k_22, h28, H⟩ := bs H
        obtain ⟨o_24, h29, H⟩ := bs H
        obtain ⟨x_33, h30, H⟩ := bs H
        obtain ⟨x_34, h31, H⟩ := bs H
        obtain ⟨x_35, h32, H⟩ := bs H
        refine W.join (fun e w => ∃ (c : Cx) (g : Nat → Value) (b33 : Nat), w = c.w ∧ c21.le c ∧ Own c G (⟨.pointer (some ⟨b33, 0, none⟩), 120, [.int .i64 x_35.Row, .int .i64 x_35.Col, .bool x_35.Pending], 0⟩ :: F) ∧ e = ups g [(0, v1), (1, .int .i32 p1), (5, .pointer (some ⟨b33, 0, none⟩))]) ?_ ?_
        · clear H
          refine W.regionD [] (Kp G []) O23 (by kernel_rfl) ?_
          intro c34 l34 O35
          have p36 : Kp G [] c34 := (Kp.nil O35)
          refine ta 0 (v1) ?_
          obtain ⟨b37, rfl, h38⟩ := ((h2.mono (l8.trans (l21.trans l34)))).get h28
          refine ta 1 (.pointer (some ⟨b37, 0, none⟩)) ?_
          refine ta 2 (.pointer (some ⟨b37, 1, none⟩)) ?_
          obtain ⟨v39, h41, h40⟩ := Rel.open_place_Pen (R0.mono (l8.trans (l21.trans l34))) h29 h38
          refine AC.takeK 3 (.agg #[.int .i64 o_24.At.Row, .int .i64 o_24.At.Col, .bool o_24.At.Pending]) p36 rfl (by kernel_rfl) (by kernel_rfl) (by kernel_rfl) (fun c' hle hk => (rx (by kernel_rfl) (ldEN (T := 120) (j := 1) (l := [.int .i64 o_24.At.Row, .int .i64 o_24.At.Col, .bool o_24.At.Pending]) (by kernel_rfl) (by kernel_rfl) (hk.gon h41 0 rfl) rfl rfl))) ?_
          refine ta 4 (.pointer (some ⟨b37, 0, none⟩)) ?_
          refine ta 5 (.pointer (some ⟨b37, 0, none⟩)) ?_
          refine ta 6 (.pointer (some ⟨b37, 0, none⟩)) ?_
          refine AC.takeK 7 (v39) p36 rfl (by kernel_rfl) (by kernel_rfl) (by kernel_rfl) (fun c' hle hk => (rx (by kernel_rfl) (ldE1 (j := 0) Tryd.underlying51 rfl (hk.gon h41 0 rfl) rfl rfl))) ?_
          refine ta 9 (.pointer (some ⟨b37, 0, none⟩)) ?_
          refine ta 10 (.pointer (some ⟨b37, 0, none⟩)) ?_
          refine ta 11 (.pointer (some ⟨b37, 0, none⟩)) ?_
          refine AC.takeK 12 (v39) p36 rfl (by kernel_rfl) (by kernel_rfl) (by kernel_rfl) (fun c' hle hk => (rx (by kernel_rfl) (ldE1 (j := 0) Tryd.underlying51 rfl (hk.gon h41 0 rfl) rfl rfl))) ?_
          refine AC.many [8, 15] (by simp) (by kernel_rfl) ⟨?_, ?_, trivial⟩
          · skip
            refine (Go1.callP 8 rfl (by kernel_rfl) (by kernel_rfl) (by kernel_rfl) (c_grid_Grid_Wide O35 (R0.mono (l8.trans (l21.trans l34))) o_24.G h40 h30) ?_)
            rintro v47 c46 l46 ⟨O43, rfl⟩
            have p48 : Kp G [] c46 := (Kp.nil O43)
            refine ⟨.inr p48, ?_⟩
            refine AC.many [13, 15] (by simp) (by kernel_rfl) ⟨?_, ?_, trivial⟩
            · skip
              refine (Go1.callP 13 rfl (by kernel_rfl) (by kernel_rfl) (by kernel_rfl) (c_grid_Grid_High O43 (R0.mono (l8.trans (l21.trans (l34.trans l46)))) o_24.G (h40.mono l46) h31) ?_)
              rintro v54 c53 l53 ⟨O50, rfl⟩
              have p55 : Kp G [] c53 := (Kp.nil O50)
              refine ⟨.inr p55, ?_⟩
              refine AC.many [14, 15] (by simp) (by kernel_rfl) ⟨?_, ?_, trivial⟩
              · skip
                refine (Go1.callP 14 rfl (by kernel_rfl) (by kernel_rfl) (by kernel_rfl) (c_cursor_Hold O50 (⟨o_24.At.Row, o_24.At.Col, o_24.At.Pending⟩ : G_api_Cursor) x_33 x_34 h32) ?_)
                rintro v61 c60 l60 ⟨O57, rfl⟩
                have p62 : Kp G [] c60 := (Kp.nil O57)
                refine ⟨.inr p62, ?_⟩
                refine AC.one 15 (by kernel_rfl) (Go1.mem 15 rfl (by kernel_rfl) (by kernel_rfl) (Own.al (T := 120) (vs := [.int .i64 0, .int .i64 0, .bool false]) O57 (by kernel_rfl)) ?_)
                rintro v66 c65 l65 ⟨b63, rfl, O64⟩
                have p67 : Kp G [] c65 := (Kp.nil O64)
                refine ⟨.inr p67, ?_⟩
                refine AC.one 16 (by kernel_rfl) (Go1.memD 16 rfl (by kernel_rfl) (by kernel_rfl) (Own.st (T := 120) (j := 0) (us := [.int .i64 x_35.Row, .int .i64 x_35.Col, .bool x_35.Pending]) (nw := [.int .i64 x_35.Row, .int .i64 x_35.Col, .bool x_35.Pending]) (v := .agg #[.int .i64 x_35.Row, .int .i64 x_35.Col, .bool x_35.Pending]) 0 O64 (by kernel_rfl) rfl rfl rfl rfl (by kernel_rfl) ⟨rfl, rfl, rfl, trivial⟩ rfl rfl) ?_)
                rintro c69 l69 O68
                have p70 : Kp G [] c69 := (Kp.nil O68)
                refine ⟨.inr p70, ?_⟩
                refine AC.done (by kernel_rfl) ?_
                refine nrm ?_
                exact ⟨c69, _, b63, rfl, (l34.trans (l46.trans (l53.trans (l60.trans (l65.trans l69))))), O68, ups_self ⟨rfl, rfl, rfl, trivial⟩⟩
              · skip
                refine (Go1.mem 15 rfl (by kernel_rfl) (by kernel_rfl) (Own.al (T := 120) (vs := [.int .i64 0, .int .i64 0, .bool false]) O50 (by kernel_rfl)) ?_)
                rintro v74 c73 l73 ⟨b71, rfl, O72⟩
                have p75 : Kp G [] c73 := (Kp.nil O72)
                refine ⟨.inr p75, ?_⟩
                refine AC.one 14 (by kernel_rfl) (Go1.callP 14 rfl (by kernel_rfl) (by kernel_rfl) (by kernel_rfl) (c_cursor_Hold O72 (⟨o_24.At.Row, o_24.At.Col, o_24.At.Pending⟩ : G_api_Cursor) x_33 x_34 h32) ?_)
                rintro v81 c80 l80 ⟨O77, rfl⟩
                have p82 : Kp G [] c80 := (Kp.nil O77)
                refine ⟨.inr p82, ?_⟩
                refine AC.one 16 (by kernel_rfl) (Go1.memD 16 rfl (by kernel_rfl) (by kernel_rfl) (Own.st (T := 120) (j := 0) (us := [.int .i64 x_35.Row, .int .i64 x_35.Col, .bool x_35.Pending]) (nw := [.int .i64 x_35.Row, .int .i64 x_35.Col, .bool x_35.Pending]) (v := .agg #[.int .i64 x_35.Row, .int .i64 x_35.Col, .bool x_35.Pending]) 0 O77 (by kernel_rfl) rfl rfl rfl rfl (by kernel_rfl) ⟨rfl, rfl, rfl, trivial⟩ rfl rfl) ?_)
                rintro c84 l84 O83
                have p85 : Kp G [] c84 := (Kp.nil O83)
                refine ⟨.inr p85, ?_⟩
                refine AC.done (by kernel_rfl) ?_
                refine nrm ?_
                exact ⟨c84, _, b71, rfl, (l34.trans (l46.trans (l53.trans (l73.trans (l80.trans l84))))), O83, ups_self ⟨rfl, rfl, rfl, trivial⟩⟩
            · skip
              refine (Go1.mem 15 rfl (by kernel_rfl) (by kernel_rfl) (Own.al (T := 120) (vs := [.int .i64 0, .int .i64 0, .bool false]) O43 (by kernel_rfl)) ?_)
              rintro v89 c88 l88 ⟨b86, rfl, O87⟩
              have p90 : Kp G [] c88 := (Kp.nil O87)
              refine ⟨.inr p90, ?_⟩
              refine AC.one 13 (by kernel_rfl) (Go1.callP 13 rfl (by kernel_rfl) (by kernel_rfl) (by kernel_rfl) (c_grid_Grid_High O87 (R0.mono (l8.trans (l21.trans (l34.trans (l46.trans l88))))) o_24.G (h40.mono (l46.trans l88)) h31) ?_)
              rintro v96 c95 l95 ⟨O92, rfl⟩
              have p97 : Kp G [] c95 := (Kp.nil O92)
              refine ⟨.inr p97, ?_⟩
              refine AC.one 14 (by kernel_rfl) (Go1.callP 14 rfl (by kernel_rfl) (by kernel_rfl) (by kernel_rfl) (c_cursor_Hold O92 (⟨o_24.At.Row, o_24.At.Col, o_24.At.Pending⟩ : G_api_Cursor) x_33 x_34 h32) ?_)
              rintro v103 c102 l102 ⟨O99, rfl⟩
              have p104 : Kp G [] c102 := (Kp.nil O99)
              refine ⟨.inr p104, ?_⟩
              refine AC.one 16 (by kernel_rfl) (Go1.memD 16 rfl (by kernel_rfl) (by kernel_rfl) (Own.st (T := 120) (j := 0) (us := [.int .i64 x_35.Row, .int .i64 x_35.Col, .bool x_35.Pending]) (nw := [.int .i64 x_35.Row, .int .i64 x_35.Col, .bool x_35.Pending]) (v := .agg #[.int .i64 x_35.Row, .int .i64 x_35.Col, .bool x_35.Pending]) 0 O99 (by kernel_rfl) rfl rfl rfl rfl (by kernel_rfl) ⟨rfl, rfl, rfl, trivial⟩ rfl rfl) ?_)
              rintro c106 l106 O105
              have p107 : Kp G [] c106 := (Kp.nil O105)
              refine ⟨.inr p107, ?_⟩
              refine AC.done (by kernel_rfl) ?_
              refine nrm ?_
              exact ⟨c106, _, b86, rfl, (l34.trans (l46.trans (l88.trans (l95.trans (l102.trans l106))))), O105, ups_self ⟨rfl, rfl, rfl, trivial⟩⟩
          · skip
            refine (Go1.mem 15 rfl (by kernel_rfl) (by kernel_rfl) (Own.al (T := 120) (vs := [.int .i64 0, .int .i64 0, .bool false]) O35 (by kernel_rfl)) ?_)
            rintro v111 c110 l110 ⟨b108, rfl, O109⟩
            have p112 : Kp G [] c110 := (Kp.nil O109)
            refine ⟨.inr p112, ?_⟩
            refine AC.one 8 (by kernel_rfl) (Go1.callP 8 rfl (by kernel_rfl) (by kernel_rfl) (by kernel_rfl) (c_grid_Grid_Wide O109 (R0.mono (l8.trans (l21.trans (l34.trans l110)))) o_24.G (h40.mono l110) h30) ?_)
            rintro v118 c117 l117 ⟨O114, rfl⟩
            have p119 : Kp G [] c117 := (Kp.nil O114)
            refine ⟨.inr p119, ?_⟩
            refine AC.one 13 (by kernel_rfl) (Go1.callP 13 rfl (by kernel_rfl) (by kernel_rfl) (by kernel_rfl) (c_grid_Grid_High O114 (R0.mono (l8.trans (l21.trans (l34.trans (l110.trans l117))))) o_24.G (h40.mono (l110.trans l117)) h31) ?_)
            rintro v125 c124 l124 ⟨O121, rfl⟩
            have p126 : Kp G [] c124 := (Kp.nil O121)
            refine ⟨.inr p126, ?_⟩
            refine AC.one 14 (by kernel_rfl) (Go1.callP 14 rfl (by kernel_rfl) (by kernel_rfl) (by kernel_rfl) (c_cursor_Hold O121 (⟨o_24.At.Row, o_24.At.Col, o_24.At.Pending⟩ : G_api_Cursor) x_33 x_34 h32) ?_)
            rintro v132 c131 l131 ⟨O128, rfl⟩
            have p133 : Kp G [] c131 := (Kp.nil O128)
            refine ⟨.inr p133, ?_⟩
            refine AC.one 16 (by kernel_rfl) (Go1.memD 16 rfl (by kernel_rfl) (by kernel_rfl) (Own.st (T := 120) (j := 0) (us := [.int .i64 x_35.Row, .int .i64 x_35.Col, .bool x_35.Pending]) (nw := [.int .i64 x_35.Row, .int .i64 x_35.Col, .bool x_35.Pending]) (v := .agg #[.int .i64 x_35.Row, .int .i64 x_35.Col, .bool x_35.Pending]) 0 O128 (by kernel_rfl) rfl rfl rfl rfl (by kernel_rfl) ⟨rfl, rfl, rfl, trivial⟩ rfl rfl) ?_)
            rintro c135 l135 O134
            have p136 : Kp G [] c135 := (Kp.nil O134)
            refine ⟨.inr p136, ?_⟩
            refine AC.done (by kernel_rfl) ?_
            refine nrm ?_
            exact ⟨c135, _, b108, rfl, (l34.trans (l110.trans (l117.trans (l124.trans (l131.trans l135))))), O134, ups_self ⟨rfl, rfl, rfl, trivial⟩⟩
        · skip
          rintro e_ w_ ⟨c137, g138, b33, rfl, l137, O139, rfl⟩
          refine nrm ?_
          obtain ⟨z_39, H143, H144⟩ := bs H
          refine W.seqJ (fun e w => ∃ (c : Cx) (g : Nat → Value) (G_ : Gm), w = c.w ∧ c137.le c ∧ Own c G_ (⟨.pointer (some ⟨b33, 0, none⟩), 120, [.int .i64 x_35.Row, .int .i64 x_35.Col, .bool x_35.Pending], 0⟩ :: F) ∧ e = ups g [] ∧ Rel c z_39 G_) ?_ ?_
          · skip
            refine sr ?_
            refine va (.int .i32 p1) ?_
            refine wln ?_
            refine W.block ?_
            refine sr ?_
            refine va (.bool (p1 == 13)) ?_
            refine va (.bool (p1 == 13)) ?_
            refine wln ?_
            refine W.cond (t := p1 == 13) (by kernel_rfl) (fun h145 => ?_) (fun h145 => ?_)
            · have H143 := it h145 H143
              refine W.region ?_
              refine va (v1) ?_
              refine WL.val0 (v := .agg #[.int .i64 x_35.Row, .int .i64 x_35.Col, .bool x_35.Pending]) rfl (rx (by kernel_rfl) (ldEN (T := 120) (j := 0) (l := [.int .i64 x_35.Row, .int .i64 x_35.Col, .bool x_35.Pending]) (by kernel_rfl) (by kernel_rfl) (O139.on 0 rfl) rfl rfl)) ?_
              obtain ⟨x_47, h146, H143⟩ := bs H143
              refine WL.callP rfl (by kernel_rfl) (c_cursor_Return O139 x_35 h146) ?_
              rintro v152 c151 l151 ⟨O148, rfl⟩
              obtain ⟨k_48, h155, H143⟩ := bs H143
              obtain ⟨b153, rfl, h154⟩ := ((h2.mono (l8.trans (l21.trans (l137.trans l151))))).get h155
              refine va (.pointer (some ⟨b153, 0, none⟩)) ?_
              refine va (.pointer (some ⟨b153, 1, none⟩)) ?_
              obtain ⟨o_50, h156, H143⟩ := bs H143
              obtain ⟨v157, h159, h158⟩ := Rel.open_place_Pen (R0.mono (l8.trans (l21.trans (l137.trans l151)))) h156 h154
              refine WL.memD rfl (Own.stG (T := 120) (j := 1) (us := [.int .i64 x_47.Row, .int .i64 x_47.Col, .bool x_47.Pending]) (nw := [v157, .int .i64 x_47.Row, .int .i64 x_47.Col, .bool x_47.Pending, .bool o_50.Auto]) (v := .agg #[.int .i64 x_47.Row, .int .i64 x_47.Col, .bool x_47.Pending]) 0 O148 (by kernel_rfl) h159 rfl rfl rfl rfl (by kernel_rfl) ⟨rfl, rfl, rfl, trivial⟩ rfl rfl) ?_
              rintro c161 l161 O160
              obtain ⟨s_50001, h166, H143⟩ := bs H143
              obtain ⟨G162, O163, R164, h165, a167⟩ := Rel.put_place_Pen O160 (R0.mono (l8.trans (l21.trans (l137.trans (l151.trans l161))))) (E' := [⟨.pointer (some ⟨b153, 0, none⟩), 131, [v157, .int .i64 x_47.Row, .int .i64 x_47.Col, .bool x_47.Pending, .bool o_50.Auto], 0⟩]) h166 ⟨b153, v157, (l161.t _ _ _ h154), rfl, (h158.mono l161)⟩
              refine WL.nil ?_
              refine bkn ?_
              refine nrm ?_
              obtain rfl := Option.some.inj H143
              exact ⟨c161, _, G162, rfl, (l151.trans l161), O163, ups_self trivial, R164⟩
            · have H143 := ie h145 H143
              refine sr ?_
              refine va (.bool (p1 == 10)) ?_
              refine va (.bool (p1 == 10)) ?_
              refine wln ?_
              refine W.cond (t := p1 == 10) (by kernel_rfl) (fun h168 => ?_) (fun h168 => ?_)
              · have H143 := it h168 H143
                refine W.region ?_
                refine va (v1) ?_
                obtain ⟨x_56, h169, H143⟩ := bs H143
                refine WL.callP rfl (by kernel_rfl) (c_place_Pen_NewLine O139 (R0.mono (l8.trans (l21.trans l137))) p0 (h2.mono (l8.trans (l21.trans l137))) h169) ?_
                rintro v175 c174 l174 ⟨G170, O171, R172, rfl⟩
                refine WL.nil ?_
                refine bkn ?_
                refine nrm ?_
                obtain rfl := Option.some.inj H143
                exact ⟨c174, _, G170, rfl, l174, O171, ups_self trivial, R172⟩
              · have H143 := ie h168 H143
                refine sr ?_
                refine va (.bool (p1 == 8)) ?_
                refine va (.bool (p1 == 8)) ?_
                refine wln ?_
                refine W.cond (t := p1 == 8) (by kernel_rfl) (fun h176 => ?_) (fun h176 => ?_)
                · have H143 := it h176 H143
                  refine W.region ?_
                  refine va (v1) ?_
                  refine WL.val0 (v := .agg #[.int .i64 x_35.Row, .int .i64 x_35.Col, .bool x_35.Pending]) rfl (rx (by kernel_rfl) (ldEN (T := 120) (j := 0) (l := [.int .i64 x_35.Row, .int .i64 x_35.Col, .bool x_35.Pending]) (by kernel_rfl) (by kernel_rfl) (O139.on 0 rfl) rfl rfl)) ?_
                  obtain ⟨x_63, h177, H143⟩ := bs H143
                  refine WL.callP rfl (by kernel_rfl) (c_cursor_Back O139 x_35 h177) ?_
                  rintro v183 c182 l182 ⟨O179, rfl⟩
                  obtain ⟨k_64, h186, H143⟩ := bs H143
                  obtain ⟨b184, rfl, h185⟩ := ((h2.mono (l8.trans (l21.trans (l137.trans l182))))).get h186
                  refine va (.pointer (some ⟨b184, 0, none⟩)) ?_
                  refine va (.pointer (some ⟨b184, 1, none⟩)) ?_
                  obtain ⟨o_66, h187, H143⟩ := bs H143
                  obtain ⟨v188, h190, h189⟩ := Rel.open_place_Pen (R0.mono (l8.trans (l21.trans (l137.trans l182)))) h187 h185
                  refine WL.memD rfl (Own.stG (T := 120) (j := 1) (us := [.int .i64 x_63.Row, .int .i64 x_63.Col, .bool x_63.Pending]) (nw := [v188, .int .i64 x_63.Row, .int .i64 x_63.Col, .bool x_63.Pending, .bool o_66.Auto]) (v := .agg #[.int .i64 x_63.Row, .int .i64 x_63.Col, .bool x_63.Pending]) 0 O179 (by kernel_rfl) h190 rfl rfl rfl rfl (by kernel_rfl) ⟨rfl, rfl, rfl, trivial⟩ rfl rfl) ?_
                  rintro c192 l192 O191
                  obtain ⟨s_66001, h197, H143⟩ := bs H143
                  obtain ⟨G193, O194, R195, h196, a198⟩ := Rel.put_place_Pen O191 (R0.mono (l8.trans (l21.trans (l137.trans (l182.trans l192))))) (E' := [⟨.pointer (some ⟨b184, 0, none⟩), 131, [v188, .int .i64 x_63.Row, .int .i64 x_63.Col, .bool x_63.Pending, .bool o_66.Auto], 0⟩]) h197 ⟨b184, v188, (l192.t _ _ _ h185), rfl, (h189.mono l192)⟩
                  refine WL.nil ?_
                  refine bkn ?_
                  refine nrm ?_
                  obtain rfl := Option.some.inj H143
                  exact ⟨c192, _, G193, rfl, (l182.trans l192), O194, ups_self trivial, R195⟩
                · have H143 := ie h176 H143
                  refine W.skip ?_
                  refine bkn ?_
                  refine nrm ?_
                  obtain rfl := Option.some.inj H143
                  exact ⟨c137, _, G, rfl, (Cx.le.refl _), O139, ups_self trivial, (R0.mono (l8.trans (l21.trans l137)))⟩
          · skip
            rintro e_ w_ ⟨c199, g200, G202, rfl, l199, O201, rfl, R203⟩
            refine sr ?_
            refine va (.bool true) ?_
            refine wln ?_
            refine W.ret ?_
            obtain rfl := Option.some.inj H144
            have O205 := O201.selD 1 [] (by kernel_rfl) (by kernel_rfl)
            exact ret1 (v := .bool true) rfl (by kernel_rfl) ⟨_, c199, rfl, rfl, (l8.trans (l21.trans (l137.trans l199))), G202, O205, R203, rfl⟩

def f_linotypelaw36_works (sg : Sto) : Option (Sto × Bool) :=
  (f_place_New sg 3 2).bind fun x_3 =>
  if x_3.2.isNone = true then
  some (x_3.1, false)
  else
  (f_place_Pen_Put x_3.1 x_3.2 1 ([97] : List Int)).bind fun x_13 =>
  (f_ctrl_Do x_13.1 x_3.2 10).bind fun x_16 =>
  (andE x_16.2 ((x_3.2).bind fun k_20 =>
  (x_16.1.place_Pen[k_20]?).bind fun o_22 =>
  some (o_22.At.Row == 1 && (o_22.At.Col == 1 && (o_22.At.Pending == false && true))))).bind fun d_17 =>
  (if d_17 = true then (f_ctrl_Do x_16.1 x_3.2 13).bind fun x_28 =>
  some (x_28.2, x_28.1) else some (false, x_16.1)).bind fun d_25 =>
  (andE d_25.1 ((x_3.2).bind fun k_32 =>
  (d_25.2.place_Pen[k_32]?).bind fun o_35 =>
  some (o_35.At.Col == 0))).bind fun d_29 =>
  (if d_29 = true then (f_ctrl_Do d_25.2 x_3.2 27).bind fun x_40 =>
  some (x_40.2, x_40.1) else some (false, d_25.2)).bind fun d_37 =>
  (if d_37.1 = true then (f_ctrl_Do d_37.2 x_3.2 97).bind fun x_44 =>
  some (!x_44.2, x_44.1) else some (false, d_37.2)).bind fun d_41 =>
  some (d_41.2, d_41.1)
theorem c_linotypelaw36_works {c0 : Cx} {G : Gm} {F : List En} {sg : Sto} (O0 : Own c0 G F) (R0 : Rel c0 sg G) (hG : Gl [0, 1] c0) {r : Sto × Bool} (H : f_linotypelaw36_works sg = some r) :
    Calls Tryd.prog 83 #[] c0.w (Post c0 fun c v => ∃ G_ : Gm, Own c G_ (F) ∧ Rel c r.1 G_ ∧ v = .bool r.2) := by
  unfold f_linotypelaw36_works at H
  refine enter (l := []) Tryd.func83 rfl rfl rfl ?_
  refine sr ?_
  refine va (.bool false) ?_
  refine wln ?_
  refine sr ?_
  obtain ⟨x_3, h1, H⟩ := bs H
  refine WL.callP rfl (by kernel_rfl) (c_place_New O0 R0 3 2 h1) ?_
  rintro v2 c8 l8 ⟨_, G4, O5, R6, a7, rfl, h3⟩
  refine va (v2) ?_
  refine wln ?_
  refine W.seq ?_
  refine sr ?_
  refine va (v2) ?_
  refine WL.val0 (v := .bool x_3.2.isNone) rfl (by rcases (h3).cs with ⟨h1_, h2_⟩ | ⟨b_, h1_, h2_⟩ <;> (subst h1_; rw [h2_]; kernel_rfl)) ?_
  refine wln ?_
  refine W.cond (t := x_3.2.isNone) (by kernel_rfl) (fun h10 => ?_) (fun h10 => ?_)
  · have H := it h10 H
    refine sr ?_
    refine va (.bool false) ?_
    refine wln ?_
    refine W.ret ?_
    refine thr ?_
    obtain rfl := Option.some.inj H
    exact ret1 (v := .bool false) rfl (by kernel_rfl) ⟨_, c8, rfl, rfl, l8, G4, O5, R6, rfl⟩
  · have H := ie h10 H
    refine W.skip ?_
    refine nrm ?_
    refine sr ?_
    refine va (v2) ?_
    refine WL.mem rfl (Own.sl (R := (RI .i32)) (E := 21) (ls := [[.int .i32 97]]) (vs := [.int .i32 97]) (xs := ([97] : List Int)) true O5 (Nat.succ_pos _) rfl ⟨rfl, trivial⟩ (by kernel_rfl) (by kernel_rfl)) ?_
    rintro v15 c14 l14 ⟨u12, O11, h13⟩
    obtain ⟨c18, h19, l18, O16, h17⟩ := O11.frz 0 rfl h13
    refine WL.gh h19 ?_
    obtain ⟨x_13, h20, H⟩ := bs H
    refine WL.callP rfl (by kernel_rfl) (c_place_Pen_Put O16 (R6.mono (l14.trans l18)) ((hG.mono (l8.trans (l14.trans l18))).le (by decide)) x_3.2 1 ([97] : List Int) (h3.mono (l14.trans l18)) h17 h20) ?_
    rintro v26 c25 l25 ⟨G21, O22, R23, rfl⟩
    refine wln ?_
    refine W.seq ?_
    obtain ⟨x_16, h27, H⟩ := bs H
    obtain ⟨d_17, h28, H⟩ := bs H
    obtain ⟨d_25, h29, H⟩ := bs H
    obtain ⟨d_29, h30, H⟩ := bs H
    obtain ⟨d_37, h31, H⟩ := bs H
    obtain ⟨d_41, h32, H⟩ := bs H
    refine W.join (fun e w => ∃ (c : Cx) (g : Nat → Value) (G_ : Gm), w = c.w ∧ c25.le c ∧ Own c G_ (es false (RI .i32) v15 21 u12 ([97] : List Int) :: F) ∧ e = ups g [(0, .bool d_41.1)] ∧ Rel c d_41.2 G_) ?_ ?_
    · clear H
      refine W.region ?_
      refine va (v2) ?_
      refine WL.callP rfl (by kernel_rfl) (c_ctrl_Do O22 R23 x_3.2 10 (h3.mono (l14.trans (l18.trans l25))) h27) ?_
      rintro v38 c37 l37 ⟨G33, O34, R35, rfl⟩
      rcases Bool.eq_false_or_eq_true (x_16.2) with h39 | h39
      · skip
        have H40 := anT h39 h28
        refine vb h39 ?_
        refine wn ?_
        refine va (v2) ?_
        refine wn ?_
        obtain ⟨k_20, h43, H40⟩ := bs H40
        obtain ⟨b41, rfl, h42⟩ := ((h3.mono (l14.trans (l18.trans (l25.trans l37))))).get h43
        refine va (.pointer (some ⟨b41, 0, none⟩)) ?_
        refine wn ?_
        refine va (.pointer (some ⟨b41, 1, none⟩)) ?_
        refine wn ?_
        obtain ⟨o_22, h44, H40⟩ := bs H40
        obtain ⟨v45, h47, h46⟩ := Rel.open_place_Pen R35 h44 h42
        refine WL.val0 (v := .agg #[.int .i64 o_22.At.Row, .int .i64 o_22.At.Col, .bool o_22.At.Pending]) rfl (rx (by kernel_rfl) (ldEN (T := 120) (j := 1) (l := [.int .i64 o_22.At.Row, .int .i64 o_22.At.Col, .bool o_22.At.Pending]) (by kernel_rfl) (by kernel_rfl) (O34.gon h47 0 rfl) rfl rfl)) ?_
        refine wn ?_
        refine va (.agg #[.int .i64 1, .int .i64 1, .bool false]) ?_
        refine wn ?_
        refine WL.val0 (v := .bool (o_22.At.Row == 1 && (o_22.At.Col == 1 && (o_22.At.Pending == false && true)))) rfl (run_eqlA (T := 120) (xs := #[.int .i64 o_22.At.Row, .int .i64 o_22.At.Col, .bool o_22.At.Pending]) (ys := #[.int .i64 1, .int .i64 1, .bool false]) (r := (o_22.At.Row == 1 && (o_22.At.Col == 1 && (o_22.At.Pending == false && true)))) Tryd.underlying120 (by kernel_rfl) (by kernel_rfl) (EqP.int (by kernel_rfl) Tryd.underlying3 rfl rfl (EqP.int (by kernel_rfl) Tryd.underlying3 rfl rfl (EqP.bool (by kernel_rfl) Tryd.underlying4 rfl rfl EqP.nil))) (by kernel_rfl) _) ?_
        obtain rfl := Option.some.inj H40
        refine va (.bool (o_22.At.Row == 1 && (o_22.At.Col == 1 && (o_22.At.Pending == false && true)))) ?_
        rcases Bool.eq_false_or_eq_true ((o_22.At.Row == 1 && (o_22.At.Col == 1 && (o_22.At.Pending == false && true)))) with h48 | h48
        · skip
          have H49 := it h48 h29
          refine vb h48 ?_
          refine wn ?_
          refine va (.pointer (some ⟨b41, 0, none⟩)) ?_
          refine wn ?_
          obtain ⟨x_28, h50, H49⟩ := bs H49
          refine WL.callP rfl (by kernel_rfl) (c_ctrl_Do O34 R35 x_3.2 13 (h3.mono (l14.trans (l18.trans (l25.trans l37)))) h50) ?_
          rintro v56 c55 l55 ⟨G51, O52, R53, rfl⟩
          obtain rfl := Option.some.inj H49
          refine va (.bool x_28.2) ?_
          rcases Bool.eq_false_or_eq_true (x_28.2) with h57 | h57
          · skip
            have H58 := anT h57 h30
            refine vb h57 ?_
            refine wn ?_
            refine va (.pointer (some ⟨b41, 0, none⟩)) ?_
            refine wn ?_
            obtain ⟨k_32, h61, H58⟩ := bs H58
            have h60 := ((h3.mono (l14.trans (l18.trans (l25.trans (l37.trans l55)))))).get2 h61
            refine va (.pointer (some ⟨b41, 0, none⟩)) ?_
            refine wn ?_
            refine va (.pointer (some ⟨b41, 1, none⟩)) ?_
            refine wn ?_
            refine va (.pointer (some ⟨b41, 2, none⟩)) ?_
            refine wn ?_
            obtain ⟨o_35, h62, H58⟩ := bs H58
            obtain ⟨v63, h65, h64⟩ := Rel.open_place_Pen R53 h62 h60
            refine WL.val0 (v := .int .i64 o_35.At.Col) rfl (rx (by kernel_rfl) (ldE1 (j := 2) Tryd.underlying3 rfl (O52.gon h65 0 rfl) rfl rfl)) ?_
            refine wn ?_
            refine va (.bool (o_35.At.Col == 0)) ?_
            obtain rfl := Option.some.inj H58
            refine va (.bool (o_35.At.Col == 0)) ?_
            rcases Bool.eq_false_or_eq_true (o_35.At.Col == 0) with h66 | h66
            · skip
              have H67 := it h66 h31
              refine vb h66 ?_
              refine wn ?_
              refine va (.pointer (some ⟨b41, 0, none⟩)) ?_
              refine wn ?_
              obtain ⟨x_40, h68, H67⟩ := bs H67
              refine WL.callP rfl (by kernel_rfl) (c_ctrl_Do O52 R53 x_3.2 27 (h3.mono (l14.trans (l18.trans (l25.trans (l37.trans l55))))) h68) ?_
              rintro v74 c73 l73 ⟨G69, O70, R71, rfl⟩
              obtain rfl := Option.some.inj H67
              refine va (.bool x_40.2) ?_
              rcases Bool.eq_false_or_eq_true (x_40.2) with h75 | h75
              · skip
                have H76 := it h75 h32
                refine vb h75 ?_
                refine wn ?_
                refine va (.pointer (some ⟨b41, 0, none⟩)) ?_
                refine wn ?_
                obtain ⟨x_44, h77, H76⟩ := bs H76
                refine WL.callP rfl (by kernel_rfl) (c_ctrl_Do O70 R71 x_3.2 97 (h3.mono (l14.trans (l18.trans (l25.trans (l37.trans (l55.trans l73)))))) h77) ?_
                rintro v83 c82 l82 ⟨G78, O79, R80, rfl⟩
                refine wn ?_
                refine va (.bool (!x_44.2)) ?_
                obtain rfl := Option.some.inj H76
                refine va (.bool (!x_44.2)) ?_
                refine va (.bool (!x_44.2)) ?_
                refine wln ?_
                exact ⟨c82, _, G78, rfl, (l37.trans (l55.trans (l73.trans l82))), O79, ups_self ⟨rfl, trivial⟩, R80⟩
              · skip
                obtain rfl := Option.some.inj (ie h75 h32)
                refine vb h75 ?_
                refine ps ?_
                refine ps ?_
                refine ps ?_
                refine va (.bool false) ?_
                refine va (.bool false) ?_
                refine wln ?_
                exact ⟨c73, _, G69, rfl, (l37.trans (l55.trans l73)), O70, ups_self ⟨rfl, trivial⟩, R71⟩
            · skip
              obtain rfl := Option.some.inj (ie h66 h31)
              refine vb h66 ?_
              refine ps ?_
              refine ps ?_
              refine va (.bool false) ?_
              have h84 : false = false := rfl
              obtain rfl := Option.some.inj (ie h84 h32)
              refine vb h84 ?_
              refine ps ?_
              refine ps ?_
              refine ps ?_
              refine va (.bool false) ?_
              refine va (.bool false) ?_
              refine wln ?_
              exact ⟨c55, _, G51, rfl, (l37.trans l55), O52, ups_self ⟨rfl, trivial⟩, R53⟩
          · skip
            obtain rfl := anF h57 h30
            refine vb h57 ?_
            refine ps ?_
            refine ps ?_
            refine ps ?_
            refine ps ?_
            refine ps ?_
            refine ps ?_
            refine va (.bool false) ?_
            have h85 : false = false := rfl
            obtain rfl := Option.some.inj (ie h85 h31)
            refine vb h85 ?_
            refine ps ?_
            refine ps ?_
            refine va (.bool false) ?_
            have h86 : false = false := rfl
            obtain rfl := Option.some.inj (ie h86 h32)
            refine vb h86 ?_
            refine ps ?_
            refine ps ?_
            refine ps ?_
            refine va (.bool false) ?_
            refine va (.bool false) ?_
            refine wln ?_
            exact ⟨c55, _, G51, rfl, (l37.trans l55), O52, ups_self ⟨rfl, trivial⟩, R53⟩
        · skip
          obtain rfl := Option.some.inj (ie h48 h29)
          refine vb h48 ?_
          refine ps ?_
          refine ps ?_
          refine va (.bool false) ?_
          have h87 : false = false := rfl
          obtain rfl := anF h87 h30
          refine vb h87 ?_
          refine ps ?_
          refine ps ?_
          refine ps ?_
          refine ps ?_
          refine ps ?_
          refine ps ?_
          refine va (.bool false) ?_
          have h88 : false = false := rfl
          obtain rfl := Option.some.inj (ie h88 h31)
          refine vb h88 ?_
          refine ps ?_
          refine ps ?_
          refine va (.bool false) ?_
          have h89 : false = false := rfl
          obtain rfl := Option.some.inj (ie h89 h32)
          refine vb h89 ?_
          refine ps ?_
          refine ps ?_
          refine ps ?_
          refine va (.bool false) ?_
          refine va (.bool false) ?_
          refine wln ?_
          exact ⟨c37, _, G33, rfl, l37, O34, ups_self ⟨rfl, trivial⟩, R35⟩
      · skip
        obtain rfl := anF h39 h28
        refine vb h39 ?_
        refine ps ?_
        refine ps ?_
        refine ps ?_
        refine ps ?_
        refine ps ?_
        refine ps ?_
        refine va (.bool false) ?_
        have h90 : false = false := rfl
        obtain rfl := Option.some.inj (ie h90 h29)
        refine vb h90 ?_
        refine ps ?_
        refine ps ?_
        refine va (.bool false) ?_
        have h91 : false = false := rfl
        obtain rfl := anF h91 h30
        refine vb h91 ?_
        refine ps ?_
        refine ps ?_
        refine ps ?_
        refine ps ?_
        refine ps ?_
        refine ps ?_
        refine va (.bool false) ?_
        have h92 : false = false := rfl
        obtain rfl := Option.some.inj (ie h92 h31)
        refine vb h92 ?_
        refine ps ?_
        refine ps ?_
        refine va (.bool false) ?_
        have h93 : false = false := rfl
        obtain rfl := Option.some.inj (ie h93 h32)
        refine vb h93 ?_
        refine ps ?_
        refine ps ?_
        refine ps ?_
        refine va (.bool false) ?_
        refine va (.bool false) ?_
        refine wln ?_
        exact ⟨c37, _, G33, rfl, l37, O34, ups_self ⟨rfl, trivial⟩, R35⟩
    · skip
      rintro e_ w_ ⟨c94, g95, G97, rfl, l94, O96, rfl, R98⟩
      refine nrm ?_
      refine W.ret ?_
      obtain rfl := Option.some.inj H
      have O100 := O96.selD 1 [] (by kernel_rfl) (by kernel_rfl)
      exact ret1 (v := .bool d_41.1) rfl (by kernel_rfl) ⟨_, c94, rfl, rfl, (l8.trans (l14.trans (l18.trans (l25.trans l94)))), G97, O100, R98, rfl⟩

def f_linotyperef18_Silent (p0 : Int) : Option (Bool) :=
  (andE (decide (p0 ≥ 0)) (some (decide (p0 ≤ 31)))).bind fun d_5 =>
  (orE d_5 ((andE (decide (p0 ≥ 127)) (some (decide (p0 ≤ 159)))).bind fun d_13 =>
  some d_13)).bind fun d_9 =>
  some d_9
theorem c_linotyperef18_Silent {c0 : Cx} {G : Gm} {F : List En} (O0 : Own c0 G F) (p0 : Int) {r : Bool} (H : f_linotyperef18_Silent p0 = some r) :
    Calls Tryd.prog 143 #[.int .i32 p0] c0.w (Post c0 fun c v => Own c G (F) ∧ v = .bool r) := by
  unfold f_linotyperef18_Silent at H
  refine enter (l := [.int .i32 p0]) Tryd.func143 rfl rfl rfl ?_
  refine sr ?_
  refine va (.bool false) ?_
  refine wln ?_
  refine W.seq ?_
  obtain ⟨d_5, h1, H⟩ := bs H
  obtain ⟨d_9, h2, H⟩ := bs H
  refine W.join (fun e w => ∃ (c : Cx) (g : Nat → Value), w = c.w ∧ c0.le c ∧ Own c G (F) ∧ e = ups g [(2, .bool d_9)]) ?_ ?_
  · clear H
    refine W.region ?_
    refine va (.int .i32 p0) ?_
    refine va (.bool (decide (p0 ≥ 0))) ?_
    rcases Bool.eq_false_or_eq_true (decide (p0 ≥ 0)) with h3 | h3
    · skip
      have H4 := anT h3 h1
      refine vb h3 ?_
      refine wn ?_
      refine va (.int .i32 p0) ?_
      refine wn ?_
      refine va (.bool (decide (p0 ≤ 31))) ?_
      obtain rfl := Option.some.inj H4
      refine va (.bool (decide (p0 ≤ 31))) ?_
      rcases Bool.eq_false_or_eq_true (decide (p0 ≤ 31)) with h5 | h5
      · skip
        obtain rfl := orT h5 h2
        refine vb h5 ?_
        refine ps ?_
        refine ps ?_
        refine ps ?_
        refine ps ?_
        refine ps ?_
        refine ps ?_
        refine va (.bool true) ?_
        refine va (.bool true) ?_
        refine wln ?_
        exact ⟨c0, _, rfl, (Cx.le.refl _), O0, ups_self ⟨rfl, trivial⟩⟩
      · skip
        have H6 := orF h5 h2
        refine vb h5 ?_
        refine wn ?_
        refine va (.int .i32 p0) ?_
        refine wn ?_
        refine va (.bool (decide (p0 ≥ 127))) ?_
        refine wn ?_
        obtain ⟨d_13, h7, H6⟩ := bs H6
        rcases Bool.eq_false_or_eq_true (decide (p0 ≥ 127)) with h8 | h8
        · skip
          have H9 := anT h8 h7
          refine vb h8 ?_
          refine wn ?_
          refine va (.int .i32 p0) ?_
          refine wn ?_
          refine va (.bool (decide (p0 ≤ 159))) ?_
          refine wn ?_
          obtain rfl := Option.some.inj H9
          refine va (.bool (decide (p0 ≤ 159))) ?_
          obtain rfl := Option.some.inj H6
          refine va (.bool (decide (p0 ≤ 159))) ?_
          refine va (.bool (decide (p0 ≤ 159))) ?_
          refine wln ?_
          exact ⟨c0, _, rfl, (Cx.le.refl _), O0, ups_self ⟨rfl, trivial⟩⟩
        · skip
          obtain rfl := anF h8 h7
          refine vb h8 ?_
          refine ps ?_
          refine ps ?_
          refine wn ?_
          refine va (.bool false) ?_
          obtain rfl := Option.some.inj H6
          refine va (.bool false) ?_
          refine va (.bool false) ?_
          refine wln ?_
          exact ⟨c0, _, rfl, (Cx.le.refl _), O0, ups_self ⟨rfl, trivial⟩⟩
    · skip
      obtain rfl := anF h3 h1
      refine vb h3 ?_
      refine ps ?_
      refine ps ?_
      refine va (.bool false) ?_
      have h10 : false = false := rfl
      have H11 := orF h10 h2
      refine vb h10 ?_
      refine wn ?_
      refine va (.int .i32 p0) ?_
      refine wn ?_
      refine va (.bool (decide (p0 ≥ 127))) ?_
      refine wn ?_
      obtain ⟨d_13, h12, H11⟩ := bs H11
      rcases Bool.eq_false_or_eq_true (decide (p0 ≥ 127)) with h13 | h13
      · skip
        have H14 := anT h13 h12
        refine vb h13 ?_
        refine wn ?_
        refine va (.int .i32 p0) ?_
        refine wn ?_
        refine va (.bool (decide (p0 ≤ 159))) ?_
        refine wn ?_
        obtain rfl := Option.some.inj H14
        refine va (.bool (decide (p0 ≤ 159))) ?_
        obtain rfl := Option.some.inj H11
        refine va (.bool (decide (p0 ≤ 159))) ?_
        refine va (.bool (decide (p0 ≤ 159))) ?_
        refine wln ?_
        exact ⟨c0, _, rfl, (Cx.le.refl _), O0, ups_self ⟨rfl, trivial⟩⟩
      · skip
        obtain rfl := anF h13 h12
        refine vb h13 ?_
        refine ps ?_
        refine ps ?_
        refine wn ?_
        refine va (.bool false) ?_
        obtain rfl := Option.some.inj H11
        refine va (.bool false) ?_
        refine va (.bool false) ?_
        refine wln ?_
        exact ⟨c0, _, rfl, (Cx.le.refl _), O0, ups_self ⟨rfl, trivial⟩⟩
  · skip
    rintro e_ w_ ⟨c15, g16, rfl, l15, O17, rfl⟩
    refine nrm ?_
    refine W.ret ?_
    obtain rfl := Option.some.inj H
    exact ret1 (v := .bool d_9) rfl (by kernel_rfl) ⟨_, c15, rfl, rfl, l15, O17, rfl⟩

def f_linotyperef36_Do (p0 : G_linotyperef34_Pen) (p1 : Int) : Option (G_linotyperef34_Pen × Bool) :=
  (if (p1 == 13) = true then
  (f_linotyperef34_Pen_Hold p0).bind fun x_10 =>
  (some (x_10.L, x_10.At.Row, 0, false, x_10.Auto) : Option ((List G_api_Line) × Int × Int × Bool × Bool))
  else
  (some (p0.L, p0.At.Row, p0.At.Col, p0.At.Pending, p0.Auto) : Option ((List G_api_Line) × Int × Int × Bool × Bool))).bind fun z_5 =>
  (if (p1 == 10) = true then
  (f_linotyperef34_Pen_NewLine (⟨z_5.1, (⟨z_5.2.1, z_5.2.2.1, z_5.2.2.2.1⟩ : G_api_Cursor), z_5.2.2.2.2⟩ : G_linotyperef34_Pen)).bind fun x_26 =>
  (some (x_26.L, x_26.At.Row, x_26.At.Col, x_26.At.Pending, x_26.Auto) : Option ((List G_api_Line) × Int × Int × Bool × Bool))
  else
  (some (z_5.1, z_5.2.1, z_5.2.2.1, z_5.2.2.2.1, z_5.2.2.2.2) : Option ((List G_api_Line) × Int × Int × Bool × Bool))).bind fun z_21 =>
  (if (p1 == 8) = true then
  (f_linotyperef34_Pen_Hold (⟨z_21.1, (⟨z_21.2.1, z_21.2.2.1, z_21.2.2.2.1⟩ : G_api_Cursor), z_21.2.2.2.2⟩ : G_linotyperef34_Pen)).bind fun x_34 =>
  (some (x_34.L, x_34.At.Row, (imax 0 (w64 (x_34.At.Col - 1))), false, x_34.Auto) : Option ((List G_api_Line) × Int × Int × Bool × Bool))
  else
  (some (z_21.1, z_21.2.1, z_21.2.2.1, z_21.2.2.2.1, z_21.2.2.2.2) : Option ((List G_api_Line) × Int × Int × Bool × Bool))).bind fun z_29 =>
  (f_linotyperef18_Silent p1).bind fun x_52 =>
  some ((⟨z_29.1, (⟨z_29.2.1, z_29.2.2.1, z_29.2.2.2.1⟩ : G_api_Cursor), z_29.2.2.2.2⟩ : G_linotyperef34_Pen), x_52)
theorem c_linotyperef36_Do {c0 : Cx} {G : Gm} {F : List En} {v1 : Value} (O0 : Own c0 G F) (p0 : G_linotyperef34_Pen) (p1 : Int) {r : G_linotyperef34_Pen × Bool} (h2 : Sl R_api_Line c0 v1 p0.L) (H : f_linotyperef36_Do p0 p1 = some r) :
    Calls Tryd.prog 84 #[.agg #[v1, .int .i64 p0.At.Row, .int .i64 p0.At.Col, .bool p0.At.Pending, .bool p0.Auto], .int .i32 p1] c0.w (Post c0 fun c v => ∃ y1 : Value, Own c G (F) ∧ v = .tuple #[.agg #[y1, .int .i64 r.1.At.Row, .int .i64 r.1.At.Col, .bool r.1.At.Pending, .bool r.1.Auto], .bool r.2] ∧ Sl R_api_Line c y1 r.1.L) := by
  unfold f_linotyperef36_Do at H
  refine enter (l := [.agg #[v1, .int .i64 p0.At.Row, .int .i64 p0.At.Col, .bool p0.At.Pending, .bool p0.Auto], .int .i32 p1]) Tryd.func84 rfl rfl rfl ?_
  refine sr ?_
  obtain ⟨a3, a4, a5, rfl⟩ := (h2).form
  refine WL.mem rfl (Own.al (T := 122) (vs := [.slice a3 a4 a5, .int .i64 p0.At.Row, .int .i64 p0.At.Col, .bool p0.At.Pending, .bool p0.Auto]) O0 (by kernel_rfl)) ?_
  rintro v9 c8 l8 ⟨b6, rfl, O7⟩
  refine WL.mem rfl (Own.al (T := 122) (vs := [.slice none 0 0, .int .i64 0, .int .i64 0, .bool false, .bool false]) O7 (by kernel_rfl)) ?_
  rintro v13 c12 l12 ⟨b10, rfl, O11⟩
  refine va (.bool false) ?_
  refine wln ?_
  obtain ⟨z_5, H14, H15⟩ := bs H
  refine W.seqJ (fun e w => ∃ (c : Cx) (g : Nat → Value) (v16 : Value), w = c.w ∧ c12.le c ∧ Own c G (⟨.pointer (some ⟨b10, 0, none⟩), 122, [.slice none 0 0, .int .i64 0, .int .i64 0, .bool false, .bool false], 0⟩ :: ⟨.pointer (some ⟨b6, 0, none⟩), 122, [v16, .int .i64 z_5.2.1, .int .i64 z_5.2.2.1, .bool z_5.2.2.2.1, .bool z_5.2.2.2.2], 0⟩ :: F) ∧ e = ups g [(1, .int .i32 p1), (2, .pointer (some ⟨b6, 0, none⟩)), (4, .pointer (some ⟨b10, 0, none⟩))] ∧ Sl R_api_Line c v16 z_5.1) ?_ ?_
  · skip
    refine sr ?_
    refine va (.int .i32 p1) ?_
    refine va (.bool (p1 == 13)) ?_
    refine wln ?_
    refine W.cond (t := p1 == 13) (by kernel_rfl) (fun h17 => ?_) (fun h17 => ?_)
    · have H14 := it h17 H14
      refine sr ?_
      refine WL.val0 (v := .agg #[.slice a3 a4 a5, .int .i64 p0.At.Row, .int .i64 p0.At.Col, .bool p0.At.Pending, .bool p0.Auto]) rfl (rx (by kernel_rfl) (ldEN (T := 122) (j := 0) (l := [.slice a3 a4 a5, .int .i64 p0.At.Row, .int .i64 p0.At.Col, .bool p0.At.Pending, .bool p0.Auto]) (by kernel_rfl) (by kernel_rfl) (O11.on 1 rfl) rfl rfl)) ?_
      obtain ⟨x_10, h18, H14⟩ := bs H14
      refine WL.callP rfl (by kernel_rfl) (c_linotyperef34_Pen_Hold O11 p0 (h2.mono (l8.trans l12)) h18) ?_
      rintro v26 c25 l25 ⟨v19, O22, rfl, h20⟩
      obtain ⟨a27, a28, a29, rfl⟩ := (h20).form
      refine WL.memD rfl (Own.st (T := 122) (j := 0) (us := [.slice a27 a28 a29, .int .i64 x_10.At.Row, .int .i64 x_10.At.Col, .bool x_10.At.Pending, .bool x_10.Auto]) (nw := [.slice a27 a28 a29, .int .i64 x_10.At.Row, .int .i64 x_10.At.Col, .bool x_10.At.Pending, .bool x_10.Auto]) (v := .agg #[.slice a27 a28 a29, .int .i64 x_10.At.Row, .int .i64 x_10.At.Col, .bool x_10.At.Pending, .bool x_10.Auto]) 1 O22 (by kernel_rfl) rfl rfl rfl rfl (by kernel_rfl) ⟨h20.one, rfl, rfl, rfl, rfl, trivial⟩ rfl rfl) ?_
      rintro c31 l31 O30
      refine wln ?_
      refine sr ?_
      refine va (.pointer (some ⟨b6, 1, none⟩)) ?_
      refine va (.pointer (some ⟨b6, 2, none⟩)) ?_
      refine WL.memD rfl (Own.st (T := 3) (j := 2) (us := [.int .i64 0]) (nw := [.slice a27 a28 a29, .int .i64 x_10.At.Row, .int .i64 0, .bool x_10.At.Pending, .bool x_10.Auto]) (v := .int .i64 0) 1 O30 (by kernel_rfl) rfl rfl rfl rfl (by kernel_rfl) ⟨rfl, trivial⟩ rfl rfl) ?_
      rintro c33 l33 O32
      refine wln ?_
      refine W.region ?_
      refine va (.pointer (some ⟨b6, 1, none⟩)) ?_
      refine va (.pointer (some ⟨b6, 3, none⟩)) ?_
      refine WL.memD rfl (Own.st (T := 4) (j := 3) (us := [.bool false]) (nw := [.slice a27 a28 a29, .int .i64 x_10.At.Row, .int .i64 0, .bool false, .bool x_10.Auto]) (v := .bool false) 1 O32 (by kernel_rfl) rfl rfl rfl rfl (by kernel_rfl) ⟨rfl, trivial⟩ rfl rfl) ?_
      rintro c35 l35 O34
      refine wln ?_
      obtain rfl := Option.some.inj H14
      exact ⟨c35, _, (.slice a27 a28 a29), rfl, (l25.trans (l31.trans (l33.trans l35))), O34, ups_self ⟨rfl, rfl, rfl, trivial⟩, (h20.mono (l31.trans (l33.trans l35)))⟩
    · have H14 := ie h17 H14
      refine W.skip ?_
      refine nrm ?_
      obtain rfl := Option.some.inj H14
      exact ⟨c12, _, (.slice a3 a4 a5), rfl, (Cx.le.refl _), O11, ups_self ⟨rfl, rfl, rfl, trivial⟩, (h2.mono (l8.trans l12))⟩
  · skip
    rintro e_ w_ ⟨c36, g37, v16, rfl, l36, O38, rfl, h39⟩
    obtain ⟨z_21, H43, H44⟩ := bs H15
    refine W.seqJ (fun e w => ∃ (c : Cx) (g : Nat → Value) (v45 : Value), w = c.w ∧ c36.le c ∧ Own c G (⟨.pointer (some ⟨b10, 0, none⟩), 122, [.slice none 0 0, .int .i64 0, .int .i64 0, .bool false, .bool false], 0⟩ :: ⟨.pointer (some ⟨b6, 0, none⟩), 122, [v45, .int .i64 z_21.2.1, .int .i64 z_21.2.2.1, .bool z_21.2.2.2.1, .bool z_21.2.2.2.2], 0⟩ :: F) ∧ e = ups g [(1, .int .i32 p1), (2, .pointer (some ⟨b6, 0, none⟩)), (4, .pointer (some ⟨b10, 0, none⟩))] ∧ Sl R_api_Line c v45 z_21.1) ?_ ?_
    · skip
      refine sr ?_
      refine va (.int .i32 p1) ?_
      refine va (.bool (p1 == 10)) ?_
      refine wln ?_
      refine W.cond (t := p1 == 10) (by kernel_rfl) (fun h46 => ?_) (fun h46 => ?_)
      · have H43 := it h46 H43
        refine W.region ?_
        refine WL.val0 (v := .agg #[v16, .int .i64 z_5.2.1, .int .i64 z_5.2.2.1, .bool z_5.2.2.2.1, .bool z_5.2.2.2.2]) rfl (rx (by kernel_rfl) (ldEN (T := 122) (j := 0) (l := [v16, .int .i64 z_5.2.1, .int .i64 z_5.2.2.1, .bool z_5.2.2.2.1, .bool z_5.2.2.2.2]) (by kernel_rfl) (by kernel_rfl) (O38.on 1 rfl) rfl rfl)) ?_
        obtain ⟨x_26, h47, H43⟩ := bs H43
        refine WL.callP rfl (by kernel_rfl) (c_linotyperef34_Pen_NewLine O38 (⟨z_5.1, (⟨z_5.2.1, z_5.2.2.1, z_5.2.2.2.1⟩ : G_api_Cursor), z_5.2.2.2.2⟩ : G_linotyperef34_Pen) h39 h47) ?_
        rintro v55 c54 l54 ⟨v48, O51, rfl, h49⟩
        obtain ⟨a56, a57, a58, rfl⟩ := (h49).form
        refine WL.memD rfl (Own.st (T := 122) (j := 0) (us := [.slice a56 a57 a58, .int .i64 x_26.At.Row, .int .i64 x_26.At.Col, .bool x_26.At.Pending, .bool x_26.Auto]) (nw := [.slice a56 a57 a58, .int .i64 x_26.At.Row, .int .i64 x_26.At.Col, .bool x_26.At.Pending, .bool x_26.Auto]) (v := .agg #[.slice a56 a57 a58, .int .i64 x_26.At.Row, .int .i64 x_26.At.Col, .bool x_26.At.Pending, .bool x_26.Auto]) 1 O51 (by kernel_rfl) rfl rfl rfl rfl (by kernel_rfl) ⟨h49.one, rfl, rfl, rfl, rfl, trivial⟩ rfl rfl) ?_
        rintro c60 l60 O59
        refine wln ?_
        obtain rfl := Option.some.inj H43
        exact ⟨c60, _, (.slice a56 a57 a58), rfl, (l54.trans l60), O59, ups_self ⟨rfl, rfl, rfl, trivial⟩, (h49.mono l60)⟩
      · have H43 := ie h46 H43
        refine W.skip ?_
        refine nrm ?_
        obtain rfl := Option.some.inj H43
        exact ⟨c36, _, v16, rfl, (Cx.le.refl _), O38, ups_self ⟨rfl, rfl, rfl, trivial⟩, h39⟩
    · skip
      rintro e_ w_ ⟨c61, g62, v45, rfl, l61, O63, rfl, h64⟩
      obtain ⟨z_29, H68, H69⟩ := bs H44
      refine W.seqJ (fun e w => ∃ (c : Cx) (g : Nat → Value) (v70 : Value), w = c.w ∧ c61.le c ∧ Own c G (⟨.pointer (some ⟨b10, 0, none⟩), 122, [.slice none 0 0, .int .i64 0, .int .i64 0, .bool false, .bool false], 0⟩ :: ⟨.pointer (some ⟨b6, 0, none⟩), 122, [v70, .int .i64 z_29.2.1, .int .i64 z_29.2.2.1, .bool z_29.2.2.2.1, .bool z_29.2.2.2.2], 0⟩ :: F) ∧ e = ups g [(1, .int .i32 p1), (2, .pointer (some ⟨b6, 0, none⟩)), (4, .pointer (some ⟨b10, 0, none⟩))] ∧ Sl R_api_Line c v70 z_29.1) ?_ ?_
      · skip
        refine sr ?_
        refine va (.int .i32 p1) ?_
        refine va (.bool (p1 == 8)) ?_
        refine wln ?_
        refine W.cond (t := p1 == 8) (by kernel_rfl) (fun h71 => ?_) (fun h71 => ?_)
        · have H68 := it h71 H68
          refine sr ?_
          refine WL.val0 (v := .agg #[v45, .int .i64 z_21.2.1, .int .i64 z_21.2.2.1, .bool z_21.2.2.2.1, .bool z_21.2.2.2.2]) rfl (rx (by kernel_rfl) (ldEN (T := 122) (j := 0) (l := [v45, .int .i64 z_21.2.1, .int .i64 z_21.2.2.1, .bool z_21.2.2.2.1, .bool z_21.2.2.2.2]) (by kernel_rfl) (by kernel_rfl) (O63.on 1 rfl) rfl rfl)) ?_
          obtain ⟨x_34, h72, H68⟩ := bs H68
          refine WL.callP rfl (by kernel_rfl) (c_linotyperef34_Pen_Hold O63 (⟨z_21.1, (⟨z_21.2.1, z_21.2.2.1, z_21.2.2.2.1⟩ : G_api_Cursor), z_21.2.2.2.2⟩ : G_linotyperef34_Pen) h64 h72) ?_
          rintro v80 c79 l79 ⟨v73, O76, rfl, h74⟩
          obtain ⟨a81, a82, a83, rfl⟩ := (h74).form
          refine WL.memD rfl (Own.st (T := 122) (j := 0) (us := [.slice a81 a82 a83, .int .i64 x_34.At.Row, .int .i64 x_34.At.Col, .bool x_34.At.Pending, .bool x_34.Auto]) (nw := [.slice a81 a82 a83, .int .i64 x_34.At.Row, .int .i64 x_34.At.Col, .bool x_34.At.Pending, .bool x_34.Auto]) (v := .agg #[.slice a81 a82 a83, .int .i64 x_34.At.Row, .int .i64 x_34.At.Col, .bool x_34.At.Pending, .bool x_34.Auto]) 1 O76 (by kernel_rfl) rfl rfl rfl rfl (by kernel_rfl) ⟨h74.one, rfl, rfl, rfl, rfl, trivial⟩ rfl rfl) ?_
          rintro c85 l85 O84
          refine wln ?_
          refine sr ?_
          refine va (.pointer (some ⟨b6, 1, none⟩)) ?_
          refine va (.pointer (some ⟨b6, 2, none⟩)) ?_
          refine WL.val0 (v := .int .i64 x_34.At.Col) rfl (rx (by kernel_rfl) (ldE1 (j := 2) Tryd.underlying3 rfl (O84.on 1 rfl) rfl rfl)) ?_
          refine va (.int .i64 (w64 (x_34.At.Col - 1))) ?_
          refine va (.int .i64 (imax 0 (w64 (x_34.At.Col - 1)))) ?_
          refine va (.pointer (some ⟨b6, 1, none⟩)) ?_
          refine va (.pointer (some ⟨b6, 2, none⟩)) ?_
          refine WL.memD rfl (Own.st (T := 3) (j := 2) (us := [.int .i64 (imax 0 (w64 (x_34.At.Col - 1)))]) (nw := [.slice a81 a82 a83, .int .i64 x_34.At.Row, .int .i64 (imax 0 (w64 (x_34.At.Col - 1))), .bool x_34.At.Pending, .bool x_34.Auto]) (v := .int .i64 (imax 0 (w64 (x_34.At.Col - 1)))) 1 O84 (by kernel_rfl) rfl rfl rfl rfl (by kernel_rfl) ⟨rfl, trivial⟩ rfl rfl) ?_
          rintro c87 l87 O86
          refine wln ?_
          refine W.region ?_
          refine va (.pointer (some ⟨b6, 1, none⟩)) ?_
          refine va (.pointer (some ⟨b6, 3, none⟩)) ?_
          refine WL.memD rfl (Own.st (T := 4) (j := 3) (us := [.bool false]) (nw := [.slice a81 a82 a83, .int .i64 x_34.At.Row, .int .i64 (imax 0 (w64 (x_34.At.Col - 1))), .bool false, .bool x_34.Auto]) (v := .bool false) 1 O86 (by kernel_rfl) rfl rfl rfl rfl (by kernel_rfl) ⟨rfl, trivial⟩ rfl rfl) ?_
          rintro c89 l89 O88
          refine wln ?_
          obtain rfl := Option.some.inj H68
          exact ⟨c89, _, (.slice a81 a82 a83), rfl, (l79.trans (l85.trans (l87.trans l89))), O88, ups_self ⟨rfl, rfl, rfl, trivial⟩, (h74.mono (l85.trans (l87.trans l89)))⟩
        · have H68 := ie h71 H68
          refine W.skip ?_
          refine nrm ?_
          obtain rfl := Option.some.inj H68
          exact ⟨c61, _, v45, rfl, (Cx.le.refl _), O63, ups_self ⟨rfl, rfl, rfl, trivial⟩, h64⟩
      · skip
        rintro e_ w_ ⟨c90, g91, v70, rfl, l90, O92, rfl, h93⟩
        refine W.seq ?_
        refine W.regionD [] (Kp G0 [⟨.pointer (some ⟨b6, 0, none⟩), 122, [v70, .int .i64 z_29.2.1, .int .i64 z_29.2.2.1, .bool z_29.2.2.2.1, .bool z_29.2.2.2.2], 0⟩]) O92 (by kernel_rfl) ?_
        intro c97 l97 O98
        have p99 : Kp G0 [⟨.pointer (some ⟨b6, 0, none⟩), 122, [v70, .int .i64 z_29.2.1, .int .i64 z_29.2.2.1, .bool z_29.2.2.2.1, .bool z_29.2.2.2.2], 0⟩] c97 := (Kp.cons (O98.on 1 rfl) Kp.nil0)
        refine AC.takeK 0 (.agg #[v70, .int .i64 z_29.2.1, .int .i64 z_29.2.2.1, .bool z_29.2.2.2.1, .bool z_29.2.2.2.2]) p99 rfl (by kernel_rfl) (by kernel_rfl) (by kernel_rfl) (fun c' hle hk => (rx (by kernel_rfl) (ldEN (T := 122) (j := 0) (l := [v70, .int .i64 z_29.2.1, .int .i64 z_29.2.2.1, .bool z_29.2.2.2.1, .bool z_29.2.2.2.2]) (by kernel_rfl) (by kernel_rfl) (hk.on 0 rfl) rfl rfl))) ?_
        refine ta 1 (.int .i32 p1) ?_
        obtain ⟨x_52, h100, H69⟩ := bs H69
        refine AC.one 2 (by kernel_rfl) (Go1.callP 2 rfl (by kernel_rfl) (by kernel_rfl) (by kernel_rfl) (c_linotyperef18_Silent O98 p1 h100) ?_)
        rintro v106 c105 l105 ⟨O102, rfl⟩
        have p107 : Kp G0 [⟨.pointer (some ⟨b6, 0, none⟩), 122, [v70, .int .i64 z_29.2.1, .int .i64 z_29.2.2.1, .bool z_29.2.2.2.1, .bool z_29.2.2.2.2], 0⟩] c105 := (Kp.cons (O102.on 1 rfl) Kp.nil0)
        refine ⟨.inr p107, ?_⟩
        obtain ⟨a108, a109, a110, rfl⟩ := ((h93.mono (l97.trans l105))).form
        refine AC.one 3 (by kernel_rfl) (Go1.memD 3 rfl (by kernel_rfl) (by kernel_rfl) (Own.st (T := 122) (j := 0) (us := [.slice a108 a109 a110, .int .i64 z_29.2.1, .int .i64 z_29.2.2.1, .bool z_29.2.2.2.1, .bool z_29.2.2.2.2]) (nw := [.slice a108 a109 a110, .int .i64 z_29.2.1, .int .i64 z_29.2.2.1, .bool z_29.2.2.2.1, .bool z_29.2.2.2.2]) (v := .agg #[.slice a108 a109 a110, .int .i64 z_29.2.1, .int .i64 z_29.2.2.1, .bool z_29.2.2.2.1, .bool z_29.2.2.2.2]) 0 O102 (by kernel_rfl) rfl rfl rfl rfl (by kernel_rfl) ⟨(h93.mono (l97.trans l105)).one, rfl, rfl, rfl, rfl, trivial⟩ rfl rfl) ?_)
        rintro c112 l112 O111
        have p113 : Kp G0 [⟨.pointer (some ⟨b6, 0, none⟩), 122, [(.slice a108 a109 a110), .int .i64 z_29.2.1, .int .i64 z_29.2.2.1, .bool z_29.2.2.2.1, .bool z_29.2.2.2.2], 0⟩] c112 := (Kp.cons (O111.on 1 rfl) Kp.nil0)
        refine ⟨.inr p113, ?_⟩
        refine ta 4 (.bool x_52) ?_
        refine AC.done (by kernel_rfl) ?_
        refine nrm ?_
        refine W.ret ?_
        obtain rfl := Option.some.inj H69
        have O114 := O111.selD 2 [] (by kernel_rfl) (by kernel_rfl)
        exact retCT (c := c112) (vs := [.slice a108 a109 a110, .int .i64 z_29.2.1, .int .i64 z_29.2.2.1, .bool z_29.2.2.2.1, .bool z_29.2.2.2.2]) (v := .bool x_52) rfl (by kernel_rfl) (by kernel_rfl) (by kernel_rfl) (by kernel_rfl) (O111.on 0 rfl _ rfl).1 ⟨_, c112, rfl, rfl, (l8.trans (l12.trans (l36.trans (l61.trans (l90.trans (l97.trans (l105.trans l112))))))), (.slice a108 a109 a110), O114, rfl, (h93.mono (l97.trans (l105.trans l112)))⟩

def f_linotypelaw36_CtrlDoes (sg : Sto) (p0 : G_linotypelaw35_Start) (p1 : List Int) : Option (Sto × Bool) :=
  (f_linotyperef32_Wrong p0.L).bind fun x_6 =>
  (f_linotypelaw36_works sg).bind fun x_13 =>
  (orE (!x_13.2) (some (decide ((p0.L.length : Int) > 20)))).bind fun d_15 =>
  (orE d_15 (some ((p0.L.length : Int) == 0))).bind fun d_21 =>
  (orE d_21 (some (decide (x_6.1 ≥ 0)))).bind fun d_27 =>
  (orE d_27 (some (decide ((p1.length : Int) > 60)))).bind fun d_31 =>
  if d_31 = true then
  (f_linotypelaw36_works x_13.1).bind fun x_37 =>
  some (x_37.1, x_37.2)
  else
  (f_grid_Of x_13.1 p0.L).bind fun x_42 =>
  if (!x_42.2.2.isNil) = true then
  some (x_42.1, false)
  else
  (some (x_42.1.add_place_Pen (⟨x_42.2.1, (⟨p0.At.Row, p0.At.Col, p0.At.Pending⟩ : G_api_Cursor), p0.Auto⟩ : G_place_Pen))).bind fun s_60001 =>
  (iter (σ := Int × (List G_api_Line) × Int × Int × Bool × Bool × Sto) (τ := (Sto × Bool) ⊕ ((List G_api_Line) × Int × Int × Bool × Bool × Sto)) (((p1.length : Int) - 0).toNat + 1) (fun s_75 =>
  if (decide (s_75.1 < (p1.length : Int))) = true then
  (idx p1 s_75.1).bind fun x_86 =>
  (f_linotyperef36_Do (⟨s_75.2.1, (⟨s_75.2.2.1, s_75.2.2.2.1, s_75.2.2.2.2.1⟩ : G_api_Cursor), s_75.2.2.2.2.2.1⟩ : G_linotyperef34_Pen) x_86).bind fun x_88 =>
  (idx p1 s_75.1).bind fun x_98 =>
  (f_ctrl_Do s_75.2.2.2.2.2.2 (some x_42.1.place_Pen.length) x_98).bind fun x_100 =>
  (if (!(x_100.2 == x_88.2)) = true then some (true, x_100.1) else (idx p1 s_75.1).bind fun x_107 =>
  (f_ctrl_Do x_100.1 (none : Option Nat) x_107).bind fun x_109 =>
  some (!(x_109.2 == x_88.2), x_109.1)).bind fun d_103 =>
  (if d_103.1 = true then some (true, d_103.2) else (some (d_103.2.add_place_Pen (⟨(none : Option Nat), (⟨0, 0, false⟩ : G_api_Cursor), false⟩ : G_place_Pen))).bind fun s_115001 =>
  (idx p1 s_75.1).bind fun x_118 =>
  (f_ctrl_Do s_115001 (some d_103.2.place_Pen.length) x_118).bind fun x_120 =>
  some (!(x_120.2 == x_88.2), x_120.1)).bind fun d_112 =>
  (orE d_112.1 ((f_linotypelaw34_Alike d_112.2 (some x_42.1.place_Pen.length) x_88.1).bind fun x_127 =>
  some (!x_127))).bind fun d_123 =>
  if d_123 = true then
  some (.inr (.inl (d_112.2, false)))
  else
  some (.inl ((w64 (s_75.1 + 1)), x_88.1.L, x_88.1.At.Row, x_88.1.At.Col, x_88.1.At.Pending, x_88.1.Auto, d_112.2))
  else
  some (.inr (.inr (s_75.2.1, s_75.2.2.1, s_75.2.2.2.1, s_75.2.2.2.2.1, s_75.2.2.2.2.2.1, s_75.2.2.2.2.2.2)))) (0, p0.L, p0.At.Row, p0.At.Col, p0.At.Pending, p0.Auto, s_60001)).bind fun o_75 =>
  match o_75 with
  | .inl o_75 =>
  some o_75
  | .inr o_75 =>
  some (o_75.2.2.2.2.2, true)
theorem c_linotypelaw36_CtrlDoes {c0 : Cx} {G : Gm} {F : List En} {sg : Sto} {v1 : Value} {v3 : Value} (O0 : Own c0 G F) (R0 : Rel c0 sg G) (hG : Gl [0, 1] c0) (p0 : G_linotypelaw35_Start) (p1 : List Int) {r : Sto × Bool} (h2 : Sl R_api_Line c0 v1 p0.L) (h4 : Sl (RI .i32) c0 v3 p1) (H : f_linotypelaw36_CtrlDoes sg p0 p1 = some r) :
    Calls Tryd.prog 18 #[.agg #[v1, .int .i64 p0.At.Row, .int .i64 p0.At.Col, .bool p0.At.Pending, .bool p0.Auto], v3] c0.w (Post c0 fun c v => ∃ G_ : Gm, Own c G_ (F) ∧ Rel c r.1 G_ ∧ v = .bool r.2) := by
  unfold f_linotypelaw36_CtrlDoes at H
  refine enter (l := [.agg #[v1, .int .i64 p0.At.Row, .int .i64 p0.At.Col, .bool p0.At.Pending, .bool p0.Auto], v3]) Tryd.func18 rfl rfl rfl ?_
  refine sr ?_
  obtain ⟨a5, a6, a7, rfl⟩ := (h2).form
  refine WL.mem rfl (Own.bx (T := 136) (vs := [.slice a5 a6 a7, .int .i64 p0.At.Row, .int .i64 p0.At.Col, .bool p0.At.Pending, .bool p0.Auto]) O0 (by kernel_rfl)) ?_
  rintro v12 c11 l11 ⟨b8, rfl, O9, m10⟩
  refine va (.bool false) ?_
  refine wln ?_
  refine sr ?_
  refine va (.pointer (some ⟨b8, 0, none⟩)) ?_
  refine WL.val0 (v := .slice a5 a6 a7) rfl (rx (by kernel_rfl) (run_load1 Tryd.underlying47 rfl (m10 0 _ rfl))) ?_
  obtain ⟨x_6, h13, H⟩ := bs H
  refine WL.callP rfl (by kernel_rfl) (c_linotyperef32_Wrong O9 p0.L (h2.mono l11) h13) ?_
  rintro v19 c18 l18 ⟨O15, rfl⟩
  refine va (.tuple #[.int .i64 x_6.1, .int .i64 x_6.2]) ?_
  refine va (.int .i64 x_6.1) ?_
  refine va (.int .i64 x_6.2) ?_
  refine va (.int .i64 x_6.1) ?_
  refine va (.int .i64 x_6.2) ?_
  refine wln ?_
  refine W.seq ?_
  refine W.seq ?_
  obtain ⟨x_13, h20, H⟩ := bs H
  obtain ⟨d_15, h21, H⟩ := bs H
  obtain ⟨d_21, h22, H⟩ := bs H
  obtain ⟨d_27, h23, H⟩ := bs H
  obtain ⟨d_31, h24, H⟩ := bs H
  refine W.join (fun e w => ∃ (c : Cx) (g : Nat → Value) (G_ : Gm), w = c.w ∧ c18.le c ∧ Own c G_ (F) ∧ e = ups g [(1, v3), (2, .pointer (some ⟨b8, 0, none⟩)), (41, .bool d_31)] ∧ Rel c x_13.1 G_) ?_ ?_
  · clear H
    refine W.region ?_
    refine WL.callP rfl (by kernel_rfl) (c_linotypelaw36_works O15 (R0.mono (l11.trans l18)) ((hG.mono (l11.trans l18)).le (by decide)) h20) ?_
    rintro v30 c29 l29 ⟨G25, O26, R27, rfl⟩
    refine va (.bool (!x_13.2)) ?_
    rcases Bool.eq_false_or_eq_true (!x_13.2) with h31 | h31
    · skip
      obtain rfl := orT h31 h21
      refine vb h31 ?_
      refine ps ?_
      refine ps ?_
      refine ps ?_
      refine ps ?_
      refine va (.bool true) ?_
      have h32 : true = true := rfl
      obtain rfl := orT h32 h22
      refine vb h32 ?_
      refine ps ?_
      refine ps ?_
      refine ps ?_
      refine ps ?_
      refine va (.bool true) ?_
      have h33 : true = true := rfl
      obtain rfl := orT h33 h23
      refine vb h33 ?_
      refine ps ?_
      refine ps ?_
      refine va (.bool true) ?_
      have h34 : true = true := rfl
      obtain rfl := orT h34 h24
      refine vb h34 ?_
      refine ps ?_
      refine ps ?_
      refine ps ?_
      refine va (.bool true) ?_
      refine wln ?_
      exact ⟨c29, _, G25, rfl, l29, O26, ups_self ⟨rfl, rfl, rfl, trivial⟩, R27⟩
    · skip
      have H35 := orF h31 h21
      refine vb h31 ?_
      refine wn ?_
      refine va (.pointer (some ⟨b8, 0, none⟩)) ?_
      refine wn ?_
      refine WL.val0 (v := .slice a5 a6 a7) rfl (rx (by kernel_rfl) (run_load1 Tryd.underlying47 rfl ((fun j u hu => (m10 j u hu).mono (l18.trans l29)) 0 _ rfl))) ?_
      refine wn ?_
      refine WL.val0 (v := .int .i64 (p0.L.length : Int)) rfl (rx (by kernel_rfl) (run_len (ty := 3) Tryd.underlying47 (h2.mono (l11.trans (l18.trans l29))) _)) ?_
      refine wn ?_
      refine va (.bool (decide ((p0.L.length : Int) > 20))) ?_
      obtain rfl := Option.some.inj H35
      refine va (.bool (decide ((p0.L.length : Int) > 20))) ?_
      rcases Bool.eq_false_or_eq_true (decide ((p0.L.length : Int) > 20)) with h36 | h36
      · skip
        obtain rfl := orT h36 h22
        refine vb h36 ?_
        refine ps ?_
        refine ps ?_
        refine ps ?_
        refine ps ?_
        refine va (.bool true) ?_
        have h37 : true = true := rfl
        obtain rfl := orT h37 h23
        refine vb h37 ?_
        refine ps ?_
        refine ps ?_
        refine va (.bool true) ?_
        have h38 : true = true := rfl
        obtain rfl := orT h38 h24
        refine vb h38 ?_
        refine ps ?_
        refine ps ?_
        refine ps ?_
        refine va (.bool true) ?_
        refine wln ?_
        exact ⟨c29, _, G25, rfl, l29, O26, ups_self ⟨rfl, rfl, rfl, trivial⟩, R27⟩
      · skip
        have H39 := orF h36 h22
        refine vb h36 ?_
        refine wn ?_
        refine va (.pointer (some ⟨b8, 0, none⟩)) ?_
        refine wn ?_
        refine WL.val0 (v := .slice a5 a6 a7) rfl (rx (by kernel_rfl) (run_load1 Tryd.underlying47 rfl ((fun j u hu => (m10 j u hu).mono (l18.trans l29)) 0 _ rfl))) ?_
        refine wn ?_
        refine WL.val0 (v := .int .i64 (p0.L.length : Int)) rfl (rx (by kernel_rfl) (run_len (ty := 3) Tryd.underlying47 (h2.mono (l11.trans (l18.trans l29))) _)) ?_
        refine wn ?_
        refine va (.bool ((p0.L.length : Int) == 0)) ?_
        obtain rfl := Option.some.inj H39
        refine va (.bool ((p0.L.length : Int) == 0)) ?_
        rcases Bool.eq_false_or_eq_true ((p0.L.length : Int) == 0) with h40 | h40
        · skip
          obtain rfl := orT h40 h23
          refine vb h40 ?_
          refine ps ?_
          refine ps ?_
          refine va (.bool true) ?_
          have h41 : true = true := rfl
          obtain rfl := orT h41 h24
          refine vb h41 ?_
          refine ps ?_
          refine ps ?_
          refine ps ?_
          refine va (.bool true) ?_
          refine wln ?_
          exact ⟨c29, _, G25, rfl, l29, O26, ups_self ⟨rfl, rfl, rfl, trivial⟩, R27⟩
        · skip
          have H42 := orF h40 h23
          refine vb h40 ?_
          refine wn ?_
          refine va (.int .i64 x_6.1) ?_
          refine wn ?_
          refine va (.bool (decide (x_6.1 ≥ 0))) ?_
          obtain rfl := Option.some.inj H42
          refine va (.bool (decide (x_6.1 ≥ 0))) ?_
          rcases Bool.eq_false_or_eq_true (decide (x_6.1 ≥ 0)) with h43 | h43
          · skip
            obtain rfl := orT h43 h24
            refine vb h43 ?_
            refine ps ?_
            refine ps ?_
            refine ps ?_
            refine va (.bool true) ?_
            refine wln ?_
            exact ⟨c29, _, G25, rfl, l29, O26, ups_self ⟨rfl, rfl, rfl, trivial⟩, R27⟩
          · skip
            have H44 := orF h43 h24
            refine vb h43 ?_
            refine wn ?_
            refine va (v3) ?_
            refine wn ?_
            refine WL.val0 (v := .int .i64 (p1.length : Int)) rfl (rx (by kernel_rfl) (run_len (ty := 3) Tryd.underlying25 (h4.mono (l11.trans (l18.trans l29))) _)) ?_
            refine wn ?_
            refine va (.bool (decide ((p1.length : Int) > 60))) ?_
            obtain rfl := Option.some.inj H44
            refine va (.bool (decide ((p1.length : Int) > 60))) ?_
            refine wln ?_
            exact ⟨c29, _, G25, rfl, l29, O26, ups_self ⟨rfl, rfl, rfl, trivial⟩, R27⟩
  · skip
    rintro e_ w_ ⟨c45, g46, G48, rfl, l45, O47, rfl, R49⟩
    refine nrm ?_
    refine W.cond (t := d_31) (by kernel_rfl) (fun h51 => ?_) (fun h51 => ?_)
    · have H := it h51 H
      refine sr ?_
      obtain ⟨x_37, h52, H⟩ := bs H
      refine WL.callP rfl (by kernel_rfl) (c_linotypelaw36_works O47 R49 ((hG.mono (l11.trans (l18.trans l45))).le (by decide)) h52) ?_
      rintro v58 c57 l57 ⟨G53, O54, R55, rfl⟩
      refine va (.bool x_37.2) ?_
      refine wln ?_
      refine W.ret ?_
      refine thr ?_
      obtain rfl := Option.some.inj H
      exact ret1 (v := .bool x_37.2) rfl (by kernel_rfl) ⟨_, c57, rfl, rfl, (l11.trans (l18.trans (l45.trans l57))), G53, O54, R55, rfl⟩
    · have H := ie h51 H
      refine W.skip ?_
      refine nrm ?_
      refine sr ?_
      refine va (.pointer (some ⟨b8, 0, none⟩)) ?_
      refine WL.val0 (v := .slice a5 a6 a7) rfl (rx (by kernel_rfl) (run_load1 Tryd.underlying47 rfl ((fun j u hu => (m10 j u hu).mono (l18.trans l45)) 0 _ rfl))) ?_
      obtain ⟨x_42, h59, H⟩ := bs H
      refine WL.callP rfl (by kernel_rfl) (c_grid_Of O47 R49 ((hG.mono (l11.trans (l18.trans l45))).le (by decide)) p0.L (h2.mono (l11.trans (l18.trans l45))) h59) ?_
      rintro v69 c68 l68 ⟨v60, v62, G64, O65, R66, rfl, h61, h63⟩
      refine va (.tuple #[v60, v62]) ?_
      refine va (v60) ?_
      refine va (v62) ?_
      refine va (v60) ?_
      refine va (v62) ?_
      refine wln ?_
      refine W.seq ?_
      refine sr ?_
      refine va (v62) ?_
      refine WL.val0 (v := .bool (!x_42.2.2.isNil)) rfl (by rcases (h63).cs with ⟨h1_, h2_⟩ | ⟨b_, h1_, h2_⟩ | ⟨b_, h1_, h2_⟩ <;> (subst h1_; rw [h2_]; kernel_rfl)) ?_
      refine wln ?_
      refine W.cond (t := !x_42.2.2.isNil) (by kernel_rfl) (fun h70 => ?_) (fun h70 => ?_)
      · have H := it h70 H
        refine sr ?_
        refine va (.bool false) ?_
        refine wln ?_
        refine W.ret ?_
        refine thr ?_
        obtain rfl := Option.some.inj H
        exact ret1 (v := .bool false) rfl (by kernel_rfl) ⟨_, c68, rfl, rfl, (l11.trans (l18.trans (l45.trans l68))), G64, O65, R66, rfl⟩
      · have H := ie h70 H
        refine W.skip ?_
        refine nrm ?_
        refine sr ?_
        refine va (v60) ?_
        refine va (.pointer (some ⟨b8, 0 + 1, none⟩)) ?_
        refine WL.val0 (v := .agg #[.int .i64 p0.At.Row, .int .i64 p0.At.Col, .bool p0.At.Pending]) rfl (rx (by kernel_rfl) (run_loadN (T := 120) (by kernel_rfl) (by kernel_rfl) (imsub (k := 1) (l := [.int .i64 p0.At.Row, .int .i64 p0.At.Col, .bool p0.At.Pending]) (fun j u hu => (m10 j u hu).mono (l18.trans (l45.trans l68))) rfl))) ?_
        refine va (.pointer (some ⟨b8, 0 + 4, none⟩)) ?_
        refine WL.val0 (v := .bool p0.Auto) rfl (rx (by kernel_rfl) (run_load1 Tryd.underlying4 rfl ((fun j u hu => (m10 j u hu).mono (l18.trans (l45.trans l68))) 4 _ rfl))) ?_
        obtain ⟨a71, rfl⟩ := (h61).form
        refine va (.agg #[.pointer a71, .int .i64 p0.At.Row, .int .i64 p0.At.Col, .bool p0.At.Pending, .bool p0.Auto]) ?_
        refine WL.mem rfl (Own.al (T := 131) (vs := [.pointer a71, .int .i64 p0.At.Row, .int .i64 p0.At.Col, .bool p0.At.Pending, .bool p0.Auto]) O65 (by kernel_rfl)) ?_
        rintro v75 c74 l74 ⟨b72, rfl, O73⟩
        have O76 := O73.selD 1 [0] (by kernel_rfl) (by kernel_rfl)
        obtain ⟨s_60001, h77, H⟩ := bs H
        obtain ⟨c78, G86, h79, l78, h80, O81, R82, h83, h84, a85⟩ := Rel.new_place_Pen (E := [⟨.pointer (some ⟨b72, 0, none⟩), 131, [.pointer a71, .int .i64 p0.At.Row, .int .i64 p0.At.Col, .bool p0.At.Pending, .bool p0.Auto], 0⟩]) (F := F) (x := (⟨x_42.2.1, (⟨p0.At.Row, p0.At.Col, p0.At.Pending⟩ : G_api_Cursor), p0.Auto⟩ : G_place_Pen)) (b := b72) O76 (R66.mono l74) (fun c_ hle_ => ⟨b72, (.pointer a71), rfl, rfl, (h61.mono (l74.trans hle_))⟩)
        rw [Option.some.inj h77] at R82
        refine WL.gh h79.1 ?_
        have h88 : Pt 2 c78 (.pointer (some ⟨b72, 0, none⟩)) (some x_42.1.place_Pen.length) := ⟨b72, rfl, h80⟩
        refine va (.pointer (some ⟨b72, 0, none⟩)) ?_
        refine wln ?_
        refine sr ?_
        refine va (.pointer (some ⟨b8, 0, none⟩)) ?_
        refine WL.val0 (v := .slice a5 a6 a7) rfl (rx (by kernel_rfl) (run_load1 Tryd.underlying47 rfl ((fun j u hu => (m10 j u hu).mono (l18.trans (l45.trans (l68.trans (l74.trans l78))))) 0 _ rfl))) ?_
        refine va (.pointer (some ⟨b8, 0 + 1, none⟩)) ?_
        refine WL.val0 (v := .agg #[.int .i64 p0.At.Row, .int .i64 p0.At.Col, .bool p0.At.Pending]) rfl (rx (by kernel_rfl) (run_loadN (T := 120) (by kernel_rfl) (by kernel_rfl) (imsub (k := 1) (l := [.int .i64 p0.At.Row, .int .i64 p0.At.Col, .bool p0.At.Pending]) (fun j u hu => (m10 j u hu).mono (l18.trans (l45.trans (l68.trans (l74.trans l78))))) rfl))) ?_
        refine va (.pointer (some ⟨b8, 0 + 4, none⟩)) ?_
        refine WL.val0 (v := .bool p0.Auto) rfl (rx (by kernel_rfl) (run_load1 Tryd.underlying4 rfl ((fun j u hu => (m10 j u hu).mono (l18.trans (l45.trans (l68.trans (l74.trans l78))))) 4 _ rfl))) ?_
        refine va (.agg #[.slice a5 a6 a7, .int .i64 p0.At.Row, .int .i64 p0.At.Col, .bool p0.At.Pending, .bool p0.Auto]) ?_
        refine WL.mem rfl (Own.al (T := 122) (vs := [.slice none 0 0, .int .i64 0, .int .i64 0, .bool false, .bool false]) O81 (by kernel_rfl)) ?_
        rintro v92 c91 l91 ⟨b89, rfl, O90⟩
        refine WL.memD rfl (Own.st (T := 122) (j := 0) (us := [.slice a5 a6 a7, .int .i64 p0.At.Row, .int .i64 p0.At.Col, .bool p0.At.Pending, .bool p0.Auto]) (nw := [.slice a5 a6 a7, .int .i64 p0.At.Row, .int .i64 p0.At.Col, .bool p0.At.Pending, .bool p0.Auto]) (v := .agg #[.slice a5 a6 a7, .int .i64 p0.At.Row, .int .i64 p0.At.Col, .bool p0.At.Pending, .bool p0.Auto]) 0 O90 (by kernel_rfl) rfl rfl rfl rfl (by kernel_rfl) ⟨(h2.mono (l11.trans (l18.trans (l45.trans (l68.trans (l74.trans (l78.trans l91))))))).one, rfl, rfl, rfl, rfl, trivial⟩ rfl rfl) ?_
        rintro c94 l94 O93
        refine wln ?_
        refine W.seq ?_
        refine sr ?_
        refine va (.int .i64 0) ?_
        refine wln ?_
        refine W.block ?_
        obtain ⟨o_75, h95, H96⟩ := bs H
        refine W.loop (σ := Int × (List G_api_Line) × Int × Int × Bool × Bool × Sto) (τ := (Sto × Bool) ⊕ ((List G_api_Line) × Int × Int × Bool × Bool × Sto)) (fun s_75 => fun e w => ∃ (c : Cx) (g : Nat → Value) (v97 : Value) (G_ : Gm), w = c.w ∧ c94.le c ∧ Own c G_ (⟨.pointer (some ⟨b89, 0, none⟩), 122, [v97, .int .i64 s_75.2.2.1, .int .i64 s_75.2.2.2.1, .bool s_75.2.2.2.2.1, .bool s_75.2.2.2.2.2.1], 0⟩ :: F) ∧ e = ups g [(1, v3), (9, .pointer (some ⟨b72, 0, none⟩)), (10, .pointer (some ⟨b89, 0, none⟩)), (11, .int .i64 s_75.1)] ∧ Rel c s_75.2.2.2.2.2.2 G_ ∧ Sl R_api_Line c v97 s_75.2.1) (fun t => match t with | .inl x_ => (fun rr_ ex e w => ex = .ret ∧ (fun e w => ∃ (c : Cx) (g : Nat → Value) (G_ : Gm), w = c.w ∧ c94.le c ∧ Own c G_ (F) ∧ e = ups g [(4, .bool rr_.2)] ∧ Rel c rr_.1 G_) e w) x_ | .inr x_ => (fun o_75_ ex e w => ex = .exit 0 ∧ (fun e w => ∃ (c : Cx) (g : Nat → Value) (v98 : Value) (G_ : Gm), w = c.w ∧ c94.le c ∧ Own c G_ (⟨.pointer (some ⟨b89, 0, none⟩), 122, [v98, .int .i64 o_75_.2.1, .int .i64 o_75_.2.2.1, .bool o_75_.2.2.2.1, .bool o_75_.2.2.2.2.1], 0⟩ :: F) ∧ e = ups g [] ∧ Rel c o_75_.2.2.2.2.2 G_ ∧ Sl R_api_Line c v98 o_75_.1) e w) x_) ?_ h95 ?_ ?_
        · clear H96 h95
          intro s_75 xx_ ee_ ww_ H
          revert ee_ ww_
          rintro e_ w_ ⟨c99, g100, v97, G103, rfl, l99, O101, rfl, R104, h102⟩
          refine W.seq ?_
          refine sr ?_
          refine va (.int .i64 s_75.1) ?_
          refine va (v3) ?_
          refine WL.val0 (v := .int .i64 (p1.length : Int)) rfl (rx (by kernel_rfl) (run_len (ty := 3) Tryd.underlying25 (h4.mono (l11.trans (l18.trans (l45.trans (l68.trans (l74.trans (l78.trans (l91.trans (l94.trans l99))))))))) _)) ?_
          refine va (.bool (decide (s_75.1 < (p1.length : Int)))) ?_
          refine wln ?_
          refine W.cond (t := decide (s_75.1 < (p1.length : Int))) (by kernel_rfl) (fun h106 => ?_) (fun h106 => ?_)
          · have H := it h106 H
            refine W.skip ?_
            refine nrm ?_
            refine W.seq ?_
            refine W.block ?_
            refine sr ?_
            refine va (.bool false) ?_
            refine wln ?_
            refine W.seq ?_
            refine W.regionD [9] (Kp G0 [⟨.pointer (some ⟨b89, 0, none⟩), 122, [v97, .int .i64 s_75.2.2.1, .int .i64 s_75.2.2.2.1, .bool s_75.2.2.2.2.1, .bool s_75.2.2.2.2.2.1], 0⟩]) O101 (by kernel_rfl) ?_
            intro c107 l107 O108
            have p109 : Kp G0 [⟨.pointer (some ⟨b89, 0, none⟩), 122, [v97, .int .i64 s_75.2.2.1, .int .i64 s_75.2.2.2.1, .bool s_75.2.2.2.2.1, .bool s_75.2.2.2.2.2.1], 0⟩] c107 := (Kp.cons (O108.on 0 rfl) Kp.nil0)
            refine AC.takeK 0 (.agg #[v97, .int .i64 s_75.2.2.1, .int .i64 s_75.2.2.2.1, .bool s_75.2.2.2.2.1, .bool s_75.2.2.2.2.2.1]) p109 rfl (by kernel_rfl) (by kernel_rfl) (by kernel_rfl) (fun c' hle hk => (rx (by kernel_rfl) (ldEN (T := 122) (j := 0) (l := [v97, .int .i64 s_75.2.2.1, .int .i64 s_75.2.2.2.1, .bool s_75.2.2.2.2.1, .bool s_75.2.2.2.2.2.1]) (by kernel_rfl) (by kernel_rfl) (hk.on 0 rfl) rfl rfl))) ?_
            refine ta 1 (v3) ?_
            refine ta 2 (.int .i64 s_75.1) ?_
            obtain ⟨x_86, h110, H⟩ := bs H
            obtain ⟨l_111, h112, m113⟩ := Sl.at (h4.mono (l11.trans (l18.trans (l45.trans (l68.trans (l74.trans (l78.trans (l91.trans (l94.trans (l99.trans l107)))))))))) (idx_get h110)
            obtain rfl := h112
            refine AC.take 3 (.pointer (some ⟨sb v3, so v3 + s_75.1.toNat * 1, none⟩)) rfl (by kernel_rfl) (by kernel_rfl) (fun c' hle => (rx (by kernel_rfl) (run_index (k := .i64) Tryd.underlying25 (by kernel_rfl) (h4.mono (l11.trans (l18.trans (l45.trans (l68.trans (l74.trans (l78.trans (l91.trans (l94.trans (l99.trans l107)))))))))) h110 _))) ?_
            refine AC.take 4 (.int .i32 x_86) rfl (by kernel_rfl) (by kernel_rfl) (fun c' hle => (rx (by kernel_rfl) (run_load1 Tryd.underlying21 rfl ((fun j u hu => (m113 j u hu).mono hle) 0 _ rfl)))) ?_
            obtain ⟨x_88, h114, H⟩ := bs H
            refine AC.one 5 (by kernel_rfl) (Go1.callP 5 rfl (by kernel_rfl) (by kernel_rfl) (by kernel_rfl) (c_linotyperef36_Do O108 (⟨s_75.2.1, (⟨s_75.2.2.1, s_75.2.2.2.1, s_75.2.2.2.2.1⟩ : G_api_Cursor), s_75.2.2.2.2.2.1⟩ : G_linotyperef34_Pen) x_86 (h102.mono l107) h114) ?_)
            rintro v122 c121 l121 ⟨v115, O118, rfl, h116⟩
            have p123 : Kp G0 [⟨.pointer (some ⟨b89, 0, none⟩), 122, [v97, .int .i64 s_75.2.2.1, .int .i64 s_75.2.2.2.1, .bool s_75.2.2.2.2.1, .bool s_75.2.2.2.2.2.1], 0⟩] c121 := (Kp.cons (O118.on 0 rfl) Kp.nil0)
            refine ⟨.inr p123, ?_⟩
            refine ta 6 (.tuple #[.agg #[v115, .int .i64 x_88.1.At.Row, .int .i64 x_88.1.At.Col, .bool x_88.1.At.Pending, .bool x_88.1.Auto], .bool x_88.2]) ?_
            refine ta 7 (.agg #[v115, .int .i64 x_88.1.At.Row, .int .i64 x_88.1.At.Col, .bool x_88.1.At.Pending, .bool x_88.1.Auto]) ?_
            refine ta 8 (.bool x_88.2) ?_
            obtain ⟨a124, a125, a126, rfl⟩ := (h116).form
            refine AC.one 9 (by kernel_rfl) (Go1.memD 9 rfl (by kernel_rfl) (by kernel_rfl) (Own.st (T := 122) (j := 0) (us := [.slice a124 a125 a126, .int .i64 x_88.1.At.Row, .int .i64 x_88.1.At.Col, .bool x_88.1.At.Pending, .bool x_88.1.Auto]) (nw := [.slice a124 a125 a126, .int .i64 x_88.1.At.Row, .int .i64 x_88.1.At.Col, .bool x_88.1.At.Pending, .bool x_88.1.Auto]) (v := .agg #[.slice a124 a125 a126, .int .i64 x_88.1.At.Row, .int .i64 x_88.1.At.Col, .bool x_88.1.At.Pending, .bool x_88.1.Auto]) 0 O118 (by kernel_rfl) rfl rfl rfl rfl (by kernel_rfl) ⟨h116.one, rfl, rfl, rfl, rfl, trivial⟩ rfl rfl) ?_)
            rintro c128 l128 O127
            refine ⟨.inl rfl, ?_⟩
            refine ta 10 (.bool x_88.2) ?_
            refine AC.done (by kernel_rfl) ?_
            refine nrm ?_
            refine W.seq ?_
            obtain ⟨x_98, h129, H⟩ := bs H
            obtain ⟨x_100, h130, H⟩ := bs H
            obtain ⟨d_103, h131, H⟩ := bs H
            obtain ⟨d_112, h132, H⟩ := bs H
            obtain ⟨d_123, h133, H⟩ := bs H
            refine W.join (fun e w => ∃ (c : Cx) (g : Nat → Value) (G_ : Gm), w = c.w ∧ c128.le c ∧ Own c G_ (⟨.pointer (some ⟨b89, 0, none⟩), 122, [.slice a124 a125 a126, .int .i64 x_88.1.At.Row, .int .i64 x_88.1.At.Col, .bool x_88.1.At.Pending, .bool x_88.1.Auto], 0⟩ :: F) ∧ e = ups g [(1, v3), (9, .pointer (some ⟨b72, 0, none⟩)), (10, .pointer (some ⟨b89, 0, none⟩)), (11, .int .i64 s_75.1), (113, .bool d_123)] ∧ Rel c d_112.2 G_) ?_ ?_
            · clear H
              refine W.region ?_
              refine va (.pointer (some ⟨b72, 0, none⟩)) ?_
              refine va (v3) ?_
              refine va (.int .i64 s_75.1) ?_
              obtain ⟨l_134, h135, m136⟩ := Sl.at (h4.mono (l11.trans (l18.trans (l45.trans (l68.trans (l74.trans (l78.trans (l91.trans (l94.trans (l99.trans (l107.trans (l121.trans l128)))))))))))) (idx_get h129)
              obtain rfl := h135
              refine WL.val0 (v := .pointer (some ⟨sb v3, so v3 + s_75.1.toNat * 1, none⟩)) rfl (rx (by kernel_rfl) (run_index (k := .i64) Tryd.underlying25 (by kernel_rfl) (h4.mono (l11.trans (l18.trans (l45.trans (l68.trans (l74.trans (l78.trans (l91.trans (l94.trans (l99.trans (l107.trans (l121.trans l128)))))))))))) h129 _)) ?_
              refine WL.val0 (v := .int .i32 x_98) rfl (rx (by kernel_rfl) (run_load1 Tryd.underlying21 rfl (m136 0 _ rfl))) ?_
              refine WL.callP rfl (by kernel_rfl) (c_ctrl_Do O127 (R104.mono (l107.trans (l121.trans l128))) (some x_42.1.place_Pen.length) x_98 (h88.mono (l91.trans (l94.trans (l99.trans (l107.trans (l121.trans l128)))))) h130) ?_
              rintro v142 c141 l141 ⟨G137, O138, R139, rfl⟩
              refine va (.bool x_88.2) ?_
              refine va (.bool (!(x_100.2 == x_88.2))) ?_
              rcases Bool.eq_false_or_eq_true (!(x_100.2 == x_88.2)) with h143 | h143
              · skip
                obtain rfl := Option.some.inj (it h143 h131)
                refine vb h143 ?_
                refine ps ?_
                refine ps ?_
                refine ps ?_
                refine ps ?_
                refine ps ?_
                refine ps ?_
                refine ps ?_
                refine va (.bool true) ?_
                have h144 : true = true := rfl
                obtain rfl := Option.some.inj (it h144 h132)
                refine vb h144 ?_
                refine ps ?_
                refine ps ?_
                refine ps ?_
                refine ps ?_
                refine ps ?_
                refine ps ?_
                refine ps ?_
                refine ps ?_
                refine ps ?_
                refine va (.bool true) ?_
                have h145 : true = true := rfl
                obtain rfl := orT h145 h133
                refine vb h145 ?_
                refine ps ?_
                refine ps ?_
                refine ps ?_
                refine ps ?_
                refine va (.bool true) ?_
                refine wln ?_
                exact ⟨c141, _, G137, rfl, l141, O138, ups_self ⟨rfl, rfl, rfl, rfl, rfl, trivial⟩, R139⟩
              · skip
                have H146 := ie h143 h131
                refine vb h143 ?_
                refine wn ?_
                refine va (v3) ?_
                refine wn ?_
                refine va (.int .i64 s_75.1) ?_
                refine wn ?_
                obtain ⟨x_107, h147, H146⟩ := bs H146
                obtain ⟨l_148, h149, m150⟩ := Sl.at (h4.mono (l11.trans (l18.trans (l45.trans (l68.trans (l74.trans (l78.trans (l91.trans (l94.trans (l99.trans (l107.trans (l121.trans (l128.trans l141))))))))))))) (idx_get h147)
                obtain rfl := h149
                refine WL.val0 (v := .pointer (some ⟨sb v3, so v3 + s_75.1.toNat * 1, none⟩)) rfl (rx (by kernel_rfl) (run_index (k := .i64) Tryd.underlying25 (by kernel_rfl) (h4.mono (l11.trans (l18.trans (l45.trans (l68.trans (l74.trans (l78.trans (l91.trans (l94.trans (l99.trans (l107.trans (l121.trans (l128.trans l141))))))))))))) h147 _)) ?_
                refine wn ?_
                refine WL.val0 (v := .int .i32 x_107) rfl (rx (by kernel_rfl) (run_load1 Tryd.underlying21 rfl (m150 0 _ rfl))) ?_
                refine wn ?_
                obtain ⟨x_109, h151, H146⟩ := bs H146
                refine WL.callP rfl (by kernel_rfl) (c_ctrl_Do O138 R139 (none : Option Nat) x_107 rfl h151) ?_
                rintro v157 c156 l156 ⟨G152, O153, R154, rfl⟩
                refine wn ?_
                refine va (.bool x_88.2) ?_
                refine wn ?_
                refine va (.bool (!(x_109.2 == x_88.2))) ?_
                obtain rfl := Option.some.inj H146
                refine va (.bool (!(x_109.2 == x_88.2))) ?_
                rcases Bool.eq_false_or_eq_true (!(x_109.2 == x_88.2)) with h158 | h158
                · skip
                  obtain rfl := Option.some.inj (it h158 h132)
                  refine vb h158 ?_
                  refine ps ?_
                  refine ps ?_
                  refine ps ?_
                  refine ps ?_
                  refine ps ?_
                  refine ps ?_
                  refine ps ?_
                  refine ps ?_
                  refine ps ?_
                  refine va (.bool true) ?_
                  have h159 : true = true := rfl
                  obtain rfl := orT h159 h133
                  refine vb h159 ?_
                  refine ps ?_
                  refine ps ?_
                  refine ps ?_
                  refine ps ?_
                  refine va (.bool true) ?_
                  refine wln ?_
                  exact ⟨c156, _, G152, rfl, (l141.trans l156), O153, ups_self ⟨rfl, rfl, rfl, rfl, rfl, trivial⟩, R154⟩
                · skip
                  have H160 := ie h158 h132
                  refine vb h158 ?_
                  refine wn ?_
                  refine va (.agg #[.pointer none, .int .i64 0, .int .i64 0, .bool false, .bool false]) ?_
                  refine wn ?_
                  refine WL.mem rfl (Own.al (T := 131) (vs := [.pointer none, .int .i64 0, .int .i64 0, .bool false, .bool false]) O153 (by kernel_rfl)) ?_
                  rintro v164 c163 l163 ⟨b161, rfl, O162⟩
                  have O165 := O162.selD 2 [0, 1] (by kernel_rfl) (by kernel_rfl)
                  obtain ⟨s_115001, h166, H160⟩ := bs H160
                  obtain ⟨c167, G175, h168, l167, h169, O170, R171, h172, h173, a174⟩ := Rel.new_place_Pen (E := [⟨.pointer (some ⟨b161, 0, none⟩), 131, [.pointer none, .int .i64 0, .int .i64 0, .bool false, .bool false], 0⟩]) (F := ⟨.pointer (some ⟨b89, 0, none⟩), 122, [.slice a124 a125 a126, .int .i64 x_88.1.At.Row, .int .i64 x_88.1.At.Col, .bool x_88.1.At.Pending, .bool x_88.1.Auto], 0⟩ :: F) (x := (⟨(none : Option Nat), (⟨0, 0, false⟩ : G_api_Cursor), false⟩ : G_place_Pen)) (b := b161) O165 (R154.mono l163) (fun c_ hle_ => ⟨b161, (.pointer none), rfl, rfl, rfl⟩)
                  rw [Option.some.inj h166] at R171
                  refine WL.gh h168.1 ?_
                  have h177 : Pt 2 c167 (.pointer (some ⟨b161, 0, none⟩)) (some x_109.1.place_Pen.length) := ⟨b161, rfl, h169⟩
                  refine wn ?_
                  refine va (v3) ?_
                  refine wn ?_
                  refine va (.int .i64 s_75.1) ?_
                  refine wn ?_
                  obtain ⟨x_118, h178, H160⟩ := bs H160
                  obtain ⟨l_179, h180, m181⟩ := Sl.at (h4.mono (l11.trans (l18.trans (l45.trans (l68.trans (l74.trans (l78.trans (l91.trans (l94.trans (l99.trans (l107.trans (l121.trans (l128.trans (l141.trans (l156.trans (l163.trans l167)))))))))))))))) (idx_get h178)
                  obtain rfl := h180
                  refine WL.val0 (v := .pointer (some ⟨sb v3, so v3 + s_75.1.toNat * 1, none⟩)) rfl (rx (by kernel_rfl) (run_index (k := .i64) Tryd.underlying25 (by kernel_rfl) (h4.mono (l11.trans (l18.trans (l45.trans (l68.trans (l74.trans (l78.trans (l91.trans (l94.trans (l99.trans (l107.trans (l121.trans (l128.trans (l141.trans (l156.trans (l163.trans l167)))))))))))))))) h178 _)) ?_
                  refine wn ?_
                  refine WL.val0 (v := .int .i32 x_118) rfl (rx (by kernel_rfl) (run_load1 Tryd.underlying21 rfl (m181 0 _ rfl))) ?_
                  refine wn ?_
                  obtain ⟨x_120, h182, H160⟩ := bs H160
                  refine WL.callP rfl (by kernel_rfl) (c_ctrl_Do O170 R171 (some x_109.1.place_Pen.length) x_118 h177 h182) ?_
                  rintro v188 c187 l187 ⟨G183, O184, R185, rfl⟩
                  refine wn ?_
                  refine va (.bool x_88.2) ?_
                  refine wn ?_
                  refine va (.bool (!(x_120.2 == x_88.2))) ?_
                  obtain rfl := Option.some.inj H160
                  refine va (.bool (!(x_120.2 == x_88.2))) ?_
                  rcases Bool.eq_false_or_eq_true (!(x_120.2 == x_88.2)) with h189 | h189
                  · skip
                    obtain rfl := orT h189 h133
                    refine vb h189 ?_
                    refine ps ?_
                    refine ps ?_
                    refine ps ?_
                    refine ps ?_
                    refine va (.bool true) ?_
                    refine wln ?_
                    exact ⟨c187, _, G183, rfl, (l141.trans (l156.trans (l163.trans (l167.trans l187)))), O184, ups_self ⟨rfl, rfl, rfl, rfl, rfl, trivial⟩, R185⟩
                  · skip
                    have H190 := orF h189 h133
                    refine vb h189 ?_
                    refine wn ?_
                    refine va (.pointer (some ⟨b72, 0, none⟩)) ?_
                    refine wn ?_
                    refine WL.val0 (v := .agg #[.slice a124 a125 a126, .int .i64 x_88.1.At.Row, .int .i64 x_88.1.At.Col, .bool x_88.1.At.Pending, .bool x_88.1.Auto]) rfl (rx (by kernel_rfl) (ldEN (T := 122) (j := 0) (l := [.slice a124 a125 a126, .int .i64 x_88.1.At.Row, .int .i64 x_88.1.At.Col, .bool x_88.1.At.Pending, .bool x_88.1.Auto]) (by kernel_rfl) (by kernel_rfl) (O184.on 0 rfl) rfl rfl)) ?_
                    refine wn ?_
                    obtain ⟨x_127, h191, H190⟩ := bs H190
                    refine WL.callP rfl (by kernel_rfl) (c_linotypelaw34_Alike O184 R185 (some x_42.1.place_Pen.length) x_88.1 (h88.mono (l91.trans (l94.trans (l99.trans (l107.trans (l121.trans (l128.trans (l141.trans (l156.trans (l163.trans (l167.trans l187))))))))))) (h116.mono (l128.trans (l141.trans (l156.trans (l163.trans (l167.trans l187)))))) h191) ?_
                    rintro v197 c196 l196 ⟨O193, rfl⟩
                    refine wn ?_
                    refine va (.bool (!x_127)) ?_
                    obtain rfl := Option.some.inj H190
                    refine va (.bool (!x_127)) ?_
                    refine wln ?_
                    exact ⟨c196, _, G183, rfl, (l141.trans (l156.trans (l163.trans (l167.trans (l187.trans l196))))), O193, ups_self ⟨rfl, rfl, rfl, rfl, rfl, trivial⟩, (R185.mono l196)⟩
            · skip
              rintro e_ w_ ⟨c198, g199, G201, rfl, l198, O200, rfl, R202⟩
              refine nrm ?_
              refine W.cond (t := d_123) (by kernel_rfl) (fun h204 => ?_) (fun h204 => ?_)
              · have H := it h204 H
                refine sr ?_
                refine va (.bool false) ?_
                refine wln ?_
                refine W.ret ?_
                refine bkr ?_
                refine thr ?_
                obtain rfl := Option.some.inj H
                refine ⟨_, rfl, ?_⟩
                refine ⟨rfl, ?_⟩
                have O205 := O200.selD 1 [] (by kernel_rfl) (by kernel_rfl)
                exact ⟨c198, _, G201, rfl, (l99.trans (l107.trans (l121.trans (l128.trans l198)))), O205, ups_self ⟨rfl, trivial⟩, R202⟩
              · have H := ie h204 H
                refine W.skip ?_
                refine bkn ?_
                refine nrm ?_
                refine W.region ?_
                refine va (.int .i64 s_75.1) ?_
                refine va (.int .i64 (w64 (s_75.1 + 1))) ?_
                refine va (.int .i64 (w64 (s_75.1 + 1))) ?_
                refine WL.nil ?_
                obtain rfl := Option.some.inj H
                refine ⟨_, rfl, ?_⟩
                exact ⟨c198, _, (.slice a124 a125 a126), G201, rfl, (l99.trans (l107.trans (l121.trans (l128.trans l198)))), O200, ups_self ⟨rfl, rfl, rfl, rfl, trivial⟩, R202, (h116.mono (l128.trans l198))⟩
          · have H := ie h106 H
            refine W.exit ?_
            refine thx ?_
            obtain rfl := Option.some.inj H
            refine ⟨_, rfl, rfl, ?_⟩
            exact ⟨c99, _, v97, G103, rfl, l99, O101, ups_self trivial, R104, h102⟩
        · skip
          exact ⟨c94, _, (.slice a5 a6 a7), G86, rfl, (Cx.le.refl _), O93, ups_self ⟨rfl, rfl, rfl, rfl, trivial⟩, (R82.mono (l91.trans l94)), (h2.mono (l11.trans (l18.trans (l45.trans (l68.trans (l74.trans (l78.trans (l91.trans l94))))))))⟩
        · skip
          rcases o_75 with o_75 | o_75
          · skip
            intro ex_; revert ex_
            rintro _ e_ w_ ⟨rfl, c206, g207, G209, rfl, l206, O208, rfl, R210⟩
            refine bkr ?_
            refine thr ?_
            obtain rfl := Option.some.inj H96
            exact ret1 (v := .bool o_75.2) rfl (by kernel_rfl) ⟨_, c206, rfl, rfl, (l11.trans (l18.trans (l45.trans (l68.trans (l74.trans (l78.trans (l91.trans (l94.trans l206)))))))), G209, O208, R210, rfl⟩
          · skip
            rintro _ e_ w_ ⟨rfl, c212, g213, v98, G216, rfl, l212, O214, rfl, R217, h215⟩
            refine bke ?_
            refine nrm ?_
            refine sr ?_
            refine va (.bool true) ?_
            refine wln ?_
            refine W.ret ?_
            obtain rfl := Option.some.inj H96
            have O219 := O214.selD 1 [] (by kernel_rfl) (by kernel_rfl)
            exact ret1 (v := .bool true) rfl (by kernel_rfl) ⟨_, c212, rfl, rfl, (l11.trans (l18.trans (l45.trans (l68.trans (l74.trans (l78.trans (l91.trans (l94.trans l212)))))))), G216, O219, R217, rfl⟩

end Go.Proofs.YtohpkblleihmaaaDoor
