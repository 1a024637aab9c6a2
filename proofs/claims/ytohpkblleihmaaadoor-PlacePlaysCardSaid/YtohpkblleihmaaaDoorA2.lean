import Derived.Test.YtohpkblleihmaaaDoorMx
import Derived.Test.YtohpkblleihmaaaDoorProg
import Derived.Test.YtohpkblleihmaaaDoorMy
import Derived.Test.YtohpkblleihmaaaDoorMz
import Derived.Test.YtohpkblleihmaaaDoorA1
namespace Go.Proofs.YtohpkblleihmaaaDoor
open Go Go.Lt
set_option maxRecDepth 10000
set_option linter.unusedVariables false
attribute [local irreducible] W WL AC
def f_erase_held (p0 : Int) (p1 : Int) (p2 : Int) : Option (Int) :=
  some (imax p1 (imin p0 p2))
theorem c_erase_held {c0 : Cx} {G : Gm} {F : List En} (O0 : Own c0 G F) (p0 : Int) (p1 : Int) (p2 : Int) {r : Int} (H : f_erase_held p0 p1 p2 = some r) :
    Calls Tryd.prog 101 #[.int .i64 p0, .int .i64 p1, .int .i64 p2] c0.w (Post c0 fun c v => Own c G (F) ∧ v = .int .i64 r) := by
  unfold f_erase_held at H
  refine enter (l := [.int .i64 p0, .int .i64 p1, .int .i64 p2]) Tryd.func101 rfl rfl rfl ?_
  refine sr ?_
  refine va (.int .i64 0) ?_
  refine wln ?_
  refine sr ?_
  refine va (.int .i64 p1) ?_
  refine va (.int .i64 p0) ?_
  refine va (.int .i64 p2) ?_
  refine va (.int .i64 (imin p0 p2)) ?_
  refine va (.int .i64 (imax p1 (imin p0 p2))) ?_
  refine va (.int .i64 (imax p1 (imin p0 p2))) ?_
  refine wln ?_
  refine W.ret ?_
  obtain rfl := Option.some.inj H
  exact ret1 (v := .int .i64 (imax p1 (imin p0 p2))) rfl (by kernel_rfl) ⟨_, c0, rfl, rfl, Cx.le.refl _, O0, rfl⟩

def f_erase_Range (sg : Sto) (p0 : Option Nat) (p1 : Int) (p2 : Int) : Option (Sto) :=
  (f_row_Row_Wide sg p0).bind fun x_3 =>
  (f_erase_held p1 0 x_3).bind fun x_4 =>
  (f_row_Row_Wide sg p0).bind fun x_7 =>
  (f_erase_held p2 0 x_7).bind fun x_8 =>
  if (decide (x_4 < x_8)) = true then
  (f_cell_Blanks (w64 (x_8 - x_4))).bind fun x_21 =>
  (f_row_Row_Paint sg p0 x_4 x_21).bind fun x_22 =>
  some x_22.1
  else
  some sg
theorem c_erase_Range {c0 : Cx} {G : Gm} {F : List En} {sg : Sto} {v1 : Value} (O0 : Own c0 G F) (R0 : Rel c0 sg G) (hG : Gl [0, 1] c0) (p0 : Option Nat) (p1 : Int) (p2 : Int) {r : Sto} (h2 : Pt 0 c0 v1 p0) (H : f_erase_Range sg p0 p1 p2 = some r) :
    Calls Tryd.prog 29 #[v1, .int .i64 p1, .int .i64 p2] c0.w (Post c0 fun c v => ∃ G_ : Gm, Own c G_ (F) ∧ Rel c r G_ ∧ v = .tuple #[]) := by
  unfold f_erase_Range at H
  refine enter (l := [v1, .int .i64 p1, .int .i64 p2]) Tryd.func29 rfl rfl rfl ?_
  refine sr ?_
  refine va (.int .i64 p1) ?_
  refine va (v1) ?_
  obtain ⟨x_3, h3, H⟩ := bs H
  refine WL.callP rfl (by kernel_rfl) (c_row_Row_Wide O0 R0 p0 h2 h3) ?_
  rintro v9 c8 l8 ⟨O5, rfl⟩
  obtain ⟨x_4, h10, H⟩ := bs H
  refine WL.callP rfl (by kernel_rfl) (c_erase_held O5 p1 0 x_3 h10) ?_
  rintro v16 c15 l15 ⟨O12, rfl⟩
  refine va (.int .i64 p2) ?_
  refine va (v1) ?_
  obtain ⟨x_7, h17, H⟩ := bs H
  refine WL.callP rfl (by kernel_rfl) (c_row_Row_Wide O12 (R0.mono (l8.trans l15)) p0 (h2.mono (l8.trans l15)) h17) ?_
  rintro v23 c22 l22 ⟨O19, rfl⟩
  obtain ⟨x_8, h24, H⟩ := bs H
  refine WL.callP rfl (by kernel_rfl) (c_erase_held O19 p2 0 x_7 h24) ?_
  rintro v30 c29 l29 ⟨O26, rfl⟩
  refine va (.int .i64 x_4) ?_
  refine va (.int .i64 x_8) ?_
  refine wln ?_
  refine sr ?_
  refine va (.int .i64 x_4) ?_
  refine va (.int .i64 x_8) ?_
  refine va (.bool (decide (x_4 < x_8))) ?_
  refine wln ?_
  refine W.cond (t := decide (x_4 < x_8)) (by kernel_rfl) (fun h31 => ?_) (fun h31 => ?_)
  · have H := it h31 H
    refine W.region ?_
    refine va (v1) ?_
    refine va (.int .i64 x_4) ?_
    refine va (.int .i64 x_8) ?_
    refine va (.int .i64 x_4) ?_
    refine va (.int .i64 (w64 (x_8 - x_4))) ?_
    obtain ⟨x_21, h32, H⟩ := bs H
    refine WL.callP rfl (by kernel_rfl) (c_cell_Blanks O26 (w64 (x_8 - x_4)) h32) ?_
    rintro v33 c40 l40 ⟨_, u34, O37, rfl, h35⟩
    obtain ⟨c44, h45, l44, O42, h43⟩ := O37.frz 0 rfl h35
    refine WL.gh h45 ?_
    obtain ⟨x_22, h46, H⟩ := bs H
    refine WL.callP rfl (by kernel_rfl) (c_row_Row_Paint O42 (R0.mono (l8.trans (l15.trans (l22.trans (l29.trans (l40.trans l44)))))) ((hG.mono (l8.trans (l15.trans (l22.trans (l29.trans (l40.trans l44)))))).le (by decide)) p0 x_4 x_21 (h2.mono (l8.trans (l15.trans (l22.trans (l29.trans (l40.trans l44)))))) h43 h46) ?_
    rintro v47 c53 l53 ⟨_, G49, O50, R51, rfl, h48⟩
    refine WL.nil ?_
    obtain rfl := Option.some.inj H
    have O55 := O50.selD 1 [] (by kernel_rfl) (by kernel_rfl)
    exact end0 rfl ⟨_, c53, rfl, rfl, (l8.trans (l15.trans (l22.trans (l29.trans (l40.trans (l44.trans l53)))))), G49, O55, R51, rfl⟩
  · have H := ie h31 H
    refine W.skip ?_
    obtain rfl := Option.some.inj H
    exact end0 rfl ⟨_, c29, rfl, rfl, (l8.trans (l15.trans (l22.trans l29))), G, O26, (R0.mono (l8.trans (l15.trans (l22.trans l29)))), rfl⟩

def f_erase_Cells (sg : Sto) (p0 : Option Nat) (p1 : Int) (p2 : Int) : Option (Sto) :=
  (andE (decide (p1 ≥ 0)) (some (decide (p2 > 0)))).bind fun d_3 =>
  if d_3 = true then
  (f_row_Row_Wide sg p0).bind fun x_10 =>
  (f_erase_held p1 0 x_10).bind fun x_11 =>
  (f_row_Row_Wide sg p0).bind fun x_19 =>
  (f_erase_held p2 0 x_19).bind fun x_20 =>
  (f_erase_Range sg p0 x_11 (w64 (x_11 + x_20))).bind fun x_22 =>
  some x_22
  else
  some sg
theorem c_erase_Cells {c0 : Cx} {G : Gm} {F : List En} {sg : Sto} {v1 : Value} (O0 : Own c0 G F) (R0 : Rel c0 sg G) (hG : Gl [0, 1] c0) (p0 : Option Nat) (p1 : Int) (p2 : Int) {r : Sto} (h2 : Pt 0 c0 v1 p0) (H : f_erase_Cells sg p0 p1 p2 = some r) :
    Calls Tryd.prog 100 #[v1, .int .i64 p1, .int .i64 p2] c0.w (Post c0 fun c v => ∃ G_ : Gm, Own c G_ (F) ∧ Rel c r G_ ∧ v = .tuple #[]) := by
  unfold f_erase_Cells at H
  refine enter (l := [v1, .int .i64 p1, .int .i64 p2]) Tryd.func100 rfl rfl rfl ?_
  refine W.seq ?_
  obtain ⟨d_3, h3, H⟩ := bs H
  refine W.join (fun e w => ∃ (c : Cx) (g : Nat → Value), w = c.w ∧ c0.le c ∧ Own c G (F) ∧ e = ups g [(0, v1), (1, .int .i64 p1), (2, .int .i64 p2), (11, .bool d_3)]) ?_ ?_
  · clear H
    refine W.region ?_
    refine va (.int .i64 p1) ?_
    refine va (.bool (decide (p1 ≥ 0))) ?_
    rcases Bool.eq_false_or_eq_true (decide (p1 ≥ 0)) with h4 | h4
    · skip
      have H5 := anT h4 h3
      refine vb h4 ?_
      refine wn ?_
      refine va (.int .i64 p2) ?_
      refine wn ?_
      refine va (.bool (decide (p2 > 0))) ?_
      obtain rfl := Option.some.inj H5
      refine va (.bool (decide (p2 > 0))) ?_
      refine wln ?_
      exact ⟨c0, _, rfl, (Cx.le.refl _), O0, ups_self ⟨rfl, rfl, rfl, rfl, trivial⟩⟩
    · skip
      obtain rfl := anF h4 h3
      refine vb h4 ?_
      refine ps ?_
      refine ps ?_
      refine va (.bool false) ?_
      refine wln ?_
      exact ⟨c0, _, rfl, (Cx.le.refl _), O0, ups_self ⟨rfl, rfl, rfl, rfl, trivial⟩⟩
  · skip
    rintro e_ w_ ⟨c6, g7, rfl, l6, O8, rfl⟩
    refine nrm ?_
    refine W.cond (t := d_3) (by kernel_rfl) (fun h12 => ?_) (fun h12 => ?_)
    · have H := it h12 H
      refine sr ?_
      refine va (.int .i64 p1) ?_
      refine va (v1) ?_
      obtain ⟨x_10, h13, H⟩ := bs H
      refine WL.callP rfl (by kernel_rfl) (c_row_Row_Wide O8 (R0.mono l6) p0 (h2.mono l6) h13) ?_
      rintro v19 c18 l18 ⟨O15, rfl⟩
      obtain ⟨x_11, h20, H⟩ := bs H
      refine WL.callP rfl (by kernel_rfl) (c_erase_held O15 p1 0 x_10 h20) ?_
      rintro v26 c25 l25 ⟨O22, rfl⟩
      refine va (.int .i64 x_11) ?_
      refine wln ?_
      refine W.region ?_
      refine va (v1) ?_
      refine va (.int .i64 x_11) ?_
      refine va (.int .i64 x_11) ?_
      refine va (.int .i64 p2) ?_
      refine va (v1) ?_
      obtain ⟨x_19, h27, H⟩ := bs H
      refine WL.callP rfl (by kernel_rfl) (c_row_Row_Wide O22 (R0.mono (l6.trans (l18.trans l25))) p0 (h2.mono (l6.trans (l18.trans l25))) h27) ?_
      rintro v33 c32 l32 ⟨O29, rfl⟩
      obtain ⟨x_20, h34, H⟩ := bs H
      refine WL.callP rfl (by kernel_rfl) (c_erase_held O29 p2 0 x_19 h34) ?_
      rintro v40 c39 l39 ⟨O36, rfl⟩
      refine va (.int .i64 (w64 (x_11 + x_20))) ?_
      obtain ⟨x_22, h41, H⟩ := bs H
      refine WL.callP rfl (by kernel_rfl) (c_erase_Range O36 (R0.mono (l6.trans (l18.trans (l25.trans (l32.trans l39))))) ((hG.mono (l6.trans (l18.trans (l25.trans (l32.trans l39))))).le (by decide)) p0 x_11 (w64 (x_11 + x_20)) (h2.mono (l6.trans (l18.trans (l25.trans (l32.trans l39))))) h41) ?_
      rintro v47 c46 l46 ⟨G42, O43, R44, rfl⟩
      refine WL.nil ?_
      obtain rfl := Option.some.inj H
      exact end0 rfl ⟨_, c46, rfl, rfl, (l6.trans (l18.trans (l25.trans (l32.trans (l39.trans l46))))), G42, O43, R44, rfl⟩
    · have H := ie h12 H
      refine W.skip ?_
      obtain rfl := Option.some.inj H
      exact end0 rfl ⟨_, c6, rfl, rfl, l6, G, O8, (R0.mono l6), rfl⟩

def f_linotypelaw26_works (sg : Sto) : Option (Sto × Bool) :=
  (f_linotyperef23_Of 2 ([19968] : List Int)).bind fun x_4 =>
  (f_row_Of sg x_4).bind fun x_5 =>
  (orE (!x_5.2.2.isNil) (some x_5.2.1.isNone)).bind fun d_14 =>
  if d_14 = true then
  some (x_5.1, false)
  else
  (f_erase_Cells x_5.1 x_5.2.1 0 1).bind fun x_22 =>
  (f_row_Row_Cells x_22 x_5.2.1).bind fun x_25 =>
  (rep 2 (⟨0, ([] : List Int)⟩ : G_api_Cell)).bind fun x_26 =>
  (f_linotyperef23_Same x_25 x_26).bind fun x_27 =>
  some (x_22, x_27)
theorem c_linotypelaw26_works {c0 : Cx} {G : Gm} {F : List En} {sg : Sto} (O0 : Own c0 G F) (R0 : Rel c0 sg G) (hG : Gl [0, 1] c0) {r : Sto × Bool} (H : f_linotypelaw26_works sg = some r) :
    Calls Tryd.prog 28 #[] c0.w (Post c0 fun c v => ∃ G_ : Gm, Own c G_ (F) ∧ Rel c r.1 G_ ∧ v = .bool r.2) := by
  unfold f_linotypelaw26_works at H
  refine enter (l := []) Tryd.func28 rfl rfl rfl ?_
  refine sr ?_
  refine va (.bool false) ?_
  refine wln ?_
  refine sr ?_
  refine WL.mem rfl (Own.sl (R := (RI .i32)) (E := 21) (ls := [[.int .i32 19968]]) (vs := [.int .i32 19968]) (xs := ([19968] : List Int)) true O0 (Nat.succ_pos _) rfl ⟨rfl, trivial⟩ (by kernel_rfl) (by kernel_rfl)) ?_
  rintro v5 c4 l4 ⟨u2, O1, h3⟩
  obtain ⟨c8, h9, l8, O6, h7⟩ := O1.frz 0 rfl h3
  refine WL.gh h9 ?_
  obtain ⟨x_4, h10, H⟩ := bs H
  refine WL.callP rfl (by kernel_rfl) (c_linotyperef23_Of O6 2 ([19968] : List Int) h7 h10) ?_
  rintro v11 c18 l18 ⟨_, u12, O15, rfl, h13⟩
  obtain ⟨c22, h23, l22, O20, h21⟩ := O15.frz 0 rfl h13
  refine WL.gh h23 ?_
  obtain ⟨x_5, h24, H⟩ := bs H
  refine WL.callP rfl (by kernel_rfl) (c_row_Of O20 (R0.mono (l4.trans (l8.trans (l18.trans l22)))) ((hG.mono (l4.trans (l8.trans (l18.trans l22)))).le (by decide)) x_4 h21 h24) ?_
  rintro v34 c33 l33 ⟨v25, v27, G29, O30, R31, rfl, h26, h28⟩
  refine va (.tuple #[v25, v27]) ?_
  refine va (v25) ?_
  refine va (v27) ?_
  refine va (v25) ?_
  refine va (v27) ?_
  refine wln ?_
  refine W.seq ?_
  refine W.seq ?_
  obtain ⟨d_14, h35, H⟩ := bs H
  refine W.join (fun e w => ∃ (c : Cx) (g : Nat → Value), w = c.w ∧ c33.le c ∧ Own c G29 (es false R_api_Cell v11 27 u12 x_4 :: es false (RI .i32) v5 21 u2 ([19968] : List Int) :: F) ∧ e = ups g [(1, v25), (14, .bool d_14)]) ?_ ?_
  · clear H
    refine W.region ?_
    refine va (v27) ?_
    refine WL.val0 (v := .bool (!x_5.2.2.isNil)) rfl (by rcases (h28).cs with ⟨h1_, h2_⟩ | ⟨b_, h1_, h2_⟩ | ⟨b_, h1_, h2_⟩ <;> (subst h1_; rw [h2_]; kernel_rfl)) ?_
    rcases Bool.eq_false_or_eq_true (!x_5.2.2.isNil) with h36 | h36
    · skip
      obtain rfl := orT h36 h35
      refine vb h36 ?_
      refine ps ?_
      refine ps ?_
      refine va (.bool true) ?_
      refine wln ?_
      exact ⟨c33, _, rfl, (Cx.le.refl _), O30, ups_self ⟨rfl, rfl, trivial⟩⟩
    · skip
      have H37 := orF h36 h35
      refine vb h36 ?_
      refine wn ?_
      refine va (v25) ?_
      refine wn ?_
      refine WL.val0 (v := .bool x_5.2.1.isNone) rfl (by rcases (h26).cs with ⟨h1_, h2_⟩ | ⟨b_, h1_, h2_⟩ <;> (subst h1_; rw [h2_]; kernel_rfl)) ?_
      obtain rfl := Option.some.inj H37
      refine va (.bool x_5.2.1.isNone) ?_
      refine wln ?_
      exact ⟨c33, _, rfl, (Cx.le.refl _), O30, ups_self ⟨rfl, rfl, trivial⟩⟩
  · skip
    rintro e_ w_ ⟨c38, g39, rfl, l38, O40, rfl⟩
    refine nrm ?_
    refine W.cond (t := d_14) (by kernel_rfl) (fun h44 => ?_) (fun h44 => ?_)
    · have H := it h44 H
      refine sr ?_
      refine va (.bool false) ?_
      refine wln ?_
      refine W.ret ?_
      refine thr ?_
      obtain rfl := Option.some.inj H
      have O45 := O40.selD 2 [] (by kernel_rfl) (by kernel_rfl)
      exact ret1 (v := .bool false) rfl (by kernel_rfl) ⟨_, c38, rfl, rfl, (l4.trans (l8.trans (l18.trans (l22.trans (l33.trans l38))))), G29, O45, (R31.mono l38), rfl⟩
    · have H := ie h44 H
      refine W.skip ?_
      refine nrm ?_
      refine sr ?_
      refine va (v25) ?_
      obtain ⟨x_22, h46, H⟩ := bs H
      refine WL.callP rfl (by kernel_rfl) (c_erase_Cells O40 (R31.mono l38) ((hG.mono (l4.trans (l8.trans (l18.trans (l22.trans (l33.trans l38)))))).le (by decide)) x_5.2.1 0 1 (h26.mono l38) h46) ?_
      rintro v52 c51 l51 ⟨G47, O48, R49, rfl⟩
      refine wln ?_
      refine W.seq ?_
      obtain ⟨x_25, h53, H⟩ := bs H
      obtain ⟨x_26, h54, H⟩ := bs H
      obtain ⟨x_27, h55, H⟩ := bs H
      refine W.join (fun e w => ∃ (c : Cx) (g : Nat → Value) (v56 : Value) (u57 : List Value) (v58 : Value) (u59 : List Value), w = c.w ∧ c51.le c ∧ Own c G47 (es false R_api_Cell v56 27 u57 x_26 :: es false R_api_Cell v58 27 u59 x_25 :: es false R_api_Cell v11 27 u12 x_4 :: es false (RI .i32) v5 21 u2 ([19968] : List Int) :: F) ∧ e = ups g [(0, .bool x_27)] ∧ OA R_api_Cell c v56 u57 x_26 ∧ OA R_api_Cell c v58 u59 x_25) ?_ ?_
      · clear H
        refine W.regionD [] (Kp G0 []) O48 (by kernel_rfl) ?_
        intro c60 l60 O61
        have p62 : Kp G0 [] c60 := Kp.nil0
        refine ta 0 (v25) ?_
        refine AC.many [1, 2] (by simp) (by kernel_rfl) ⟨?_, ?_, trivial⟩
        · skip
          refine (Go1.callP 1 rfl (by kernel_rfl) (by kernel_rfl) (by kernel_rfl) (c_row_Row_Cells O61 (R49.mono l60) x_5.2.1 (h26.mono (l38.trans (l51.trans l60))) h53) ?_)
          rintro v63 c70 l70 ⟨_, u64, O67, rfl, h65⟩
          have p72 : Kp G0 [] c70 := Kp.nil0
          refine ⟨.inr p72, ?_⟩
          refine AC.one 2 (by kernel_rfl) (Go1.mem 2 rfl (by kernel_rfl) (by kernel_rfl) (Own.mkS (kl := .i64) (kc := .i64) (R := R_api_Cell) (z := .agg #[.int .i64 0, .slice none 0 0]) (lz := [.int .i64 0, .slice none 0 0]) (x := (⟨0, ([] : List Int)⟩ : G_api_Cell)) (by_ := 32) (i := 2) (j := 2) true O67 (Nat.succ_pos _) h54 (Int.le_refl _) (rep_le h54) Tryd.underlying22 (by kernel_rfl) rfl rfl (fun _ => ⟨(.slice none 0 0), rfl, (Sl.nl _ _)⟩) (by kernel_rfl) (by kernel_rfl)) ?_)
          rintro v77 c76 l76 ⟨u74, O73, h75⟩
          have p78 : Kp G0 [] c76 := Kp.nil0
          refine ⟨.inr p78, ?_⟩
          obtain ⟨c81, h82, l81, O79, h80⟩ := O73.frz 1 rfl (h65.mono l76)
          have p83 : Kp G0 [] c81 := Kp.nil0
          refine AC.gh h82 l81 (fun _ => p83) ?_
          obtain ⟨c86, h87, l86, O84, h85⟩ := O79.frz 0 rfl (h75.mono l81)
          have p88 : Kp G0 [] c86 := Kp.nil0
          refine AC.gh h87 l86 (fun _ => p88) ?_
          refine AC.one 3 (by kernel_rfl) (Go1.callP 3 rfl (by kernel_rfl) (by kernel_rfl) (by kernel_rfl) (c_linotyperef23_Same O84 x_25 x_26 (h80.mono l86) h85 h55) ?_)
          rintro v94 c93 l93 ⟨O90, rfl⟩
          have p95 : Kp G0 [] c93 := Kp.nil0
          refine ⟨.inr p95, ?_⟩
          refine ta 4 (.bool x_27) ?_
          refine AC.done (by kernel_rfl) ?_
          refine nrm ?_
          exact ⟨c93, _, v77, u74, v63, u64, rfl, (l60.trans (l70.trans (l76.trans (l81.trans (l86.trans l93))))), O90, ups_self ⟨rfl, trivial⟩, (h75.mono (l81.trans (l86.trans l93))), (h65.mono (l76.trans (l81.trans (l86.trans l93))))⟩
        · skip
          refine (Go1.mem 2 rfl (by kernel_rfl) (by kernel_rfl) (Own.mkS (kl := .i64) (kc := .i64) (R := R_api_Cell) (z := .agg #[.int .i64 0, .slice none 0 0]) (lz := [.int .i64 0, .slice none 0 0]) (x := (⟨0, ([] : List Int)⟩ : G_api_Cell)) (by_ := 32) (i := 2) (j := 2) true O61 (Nat.succ_pos _) h54 (Int.le_refl _) (rep_le h54) Tryd.underlying22 (by kernel_rfl) rfl rfl (fun _ => ⟨(.slice none 0 0), rfl, (Sl.nl _ _)⟩) (by kernel_rfl) (by kernel_rfl)) ?_)
          rintro v100 c99 l99 ⟨u97, O96, h98⟩
          have p101 : Kp G0 [] c99 := Kp.nil0
          refine ⟨.inr p101, ?_⟩
          refine AC.one 1 (by kernel_rfl) (Go1.callP 1 rfl (by kernel_rfl) (by kernel_rfl) (by kernel_rfl) (c_row_Row_Cells O96 (R49.mono (l60.trans l99)) x_5.2.1 (h26.mono (l38.trans (l51.trans (l60.trans l99)))) h53) ?_)
          rintro v102 c109 l109 ⟨_, u103, O106, rfl, h104⟩
          have p111 : Kp G0 [] c109 := Kp.nil0
          refine ⟨.inr p111, ?_⟩
          obtain ⟨c114, h115, l114, O112, h113⟩ := O106.frz 0 rfl h104
          have p116 : Kp G0 [] c114 := Kp.nil0
          refine AC.gh h115 l114 (fun _ => p116) ?_
          obtain ⟨c119, h120, l119, O117, h118⟩ := O112.frz 1 rfl (h98.mono (l109.trans l114))
          have p121 : Kp G0 [] c119 := Kp.nil0
          refine AC.gh h120 l119 (fun _ => p121) ?_
          refine AC.one 3 (by kernel_rfl) (Go1.callP 3 rfl (by kernel_rfl) (by kernel_rfl) (by kernel_rfl) (c_linotyperef23_Same O117 x_25 x_26 (h113.mono l119) h118 h55) ?_)
          rintro v127 c126 l126 ⟨O123, rfl⟩
          have p128 : Kp G0 [] c126 := Kp.nil0
          refine ⟨.inr p128, ?_⟩
          refine ta 4 (.bool x_27) ?_
          refine AC.done (by kernel_rfl) ?_
          refine nrm ?_
          have O129 := O123.selD 4 [1, 0, 2, 3] (by kernel_rfl) (by kernel_rfl)
          exact ⟨c126, _, v100, u97, v102, u103, rfl, (l60.trans (l99.trans (l109.trans (l114.trans (l119.trans l126))))), O129, ups_self ⟨rfl, trivial⟩, (h98.mono (l109.trans (l114.trans (l119.trans l126)))), (h104.mono (l114.trans (l119.trans l126)))⟩
      · skip
        rintro e_ w_ ⟨c130, g131, v56, u57, v58, u59, rfl, l130, O132, rfl, h133, h134⟩
        refine nrm ?_
        refine W.ret ?_
        obtain rfl := Option.some.inj H
        have O138 := O132.selD 4 [] (by kernel_rfl) (by kernel_rfl)
        exact ret1 (v := .bool x_27) rfl (by kernel_rfl) ⟨_, c130, rfl, rfl, (l4.trans (l8.trans (l18.trans (l22.trans (l33.trans (l38.trans (l51.trans l130))))))), G47, O138, (R49.mono l130), rfl⟩

def f_linotypelaw26_EraseFar (sg : Sto) (p0 : List G_api_Cell) (p1 : Int) (p2 : Int) : Option (Sto × Bool) :=
  (f_linotypelaw26_works sg).bind fun x_3 =>
  (orE (!x_3.2) (some (decide ((p0.length : Int) > 100)))).bind fun d_5 =>
  (orE d_5 (some ((p0.length : Int) == 0))).bind fun d_10 =>
  (orE d_10 ((f_linotyperef23_Sound p0).bind fun x_18 =>
  some (!x_18))).bind fun d_15 =>
  if d_15 = true then
  (f_linotypelaw26_works x_3.1).bind fun x_21 =>
  some (x_21.1, x_21.2)
  else
  (f_row_Of x_3.1 p0).bind fun x_25 =>
  if (!x_25.2.2.isNil) = true then
  some (x_25.1, false)
  else
  (f_erase_Range x_25.1 x_25.2.1 p1 p2).bind fun x_40 =>
  (iter (σ := Int) (τ := (Sto × Bool) ⊕ Unit) (((p0.length : Int) - 0).toNat + 1) (fun s_57 =>
  if (decide (s_57 < (p0.length : Int))) = true then
  (f_row_Row_Cell x_40 x_25.2.1 s_57).bind fun x_65 =>
  (andE (decide ((imax 0 (imin p1 (p0.length : Int))) < (imax 0 (imin p2 (p0.length : Int))))) (some (decide (s_57 ≥ (imax 0 (imin p1 (p0.length : Int))))))).bind fun d_76 =>
  (andE d_76 (some (decide (s_57 < (imax 0 (imin p2 (p0.length : Int))))))).bind fun d_81 =>
  (andE d_81 (some (x_65.1.Kind != 0))).bind fun d_86 =>
  if d_86 = true then
  some (.inr (.inl (x_40, false)))
  else
  (orE (decide ((imax 0 (imin p1 (p0.length : Int))) ≥ (imax 0 (imin p2 (p0.length : Int))))) (some (decide ((w64 (s_57 + 1)) < (imax 0 (imin p1 (p0.length : Int))))))).bind fun d_97 =>
  (orE d_97 (some (decide (s_57 > (imax 0 (imin p2 (p0.length : Int))))))).bind fun d_103 =>
  (andE d_103 ((slc p0 s_57 (w64 (s_57 + 1))).bind fun x_115 =>
  (f_linotyperef23_Same ([x_65.1] : List G_api_Cell) x_115).bind fun x_117 =>
  some (!x_117))).bind fun d_108 =>
  if d_108 = true then
  some (.inr (.inl (x_40, false)))
  else
  some (.inl ((w64 (s_57 + 1))))
  else
  some (.inr (.inr ()))) (0)).bind fun o_57 =>
  match o_57 with
  | .inl o_57 =>
  some o_57
  | .inr o_57 =>
  some (x_40, true)
theorem c_linotypelaw26_EraseFar {c0 : Cx} {G : Gm} {F : List En} {sg : Sto} {v1 : Value} (O0 : Own c0 G F) (R0 : Rel c0 sg G) (hG : Gl [0, 1] c0) (p0 : List G_api_Cell) (p1 : Int) (p2 : Int) {r : Sto × Bool} (h2 : Sl R_api_Cell c0 v1 p0) (H : f_linotypelaw26_EraseFar sg p0 p1 p2 = some r) :
    Calls Tryd.prog 4 #[v1, .int .i64 p1, .int .i64 p2] c0.w (Post c0 fun c v => ∃ G_ : Gm, Own c G_ (F) ∧ Rel c r.1 G_ ∧ v = .bool r.2) := by
  unfold f_linotypelaw26_EraseFar at H
  refine enter (l := [v1, .int .i64 p1, .int .i64 p2]) Tryd.func4 rfl rfl rfl ?_
  refine sr ?_
  refine va (.bool false) ?_
  refine wln ?_
  refine W.seq ?_
  refine W.seq ?_
  obtain ⟨x_3, h3, H⟩ := bs H
  obtain ⟨d_5, h4, H⟩ := bs H
  obtain ⟨d_10, h5, H⟩ := bs H
  obtain ⟨d_15, h6, H⟩ := bs H
  refine W.join (fun e w => ∃ (c : Cx) (g : Nat → Value) (G_ : Gm), w = c.w ∧ c0.le c ∧ Own c G_ (F) ∧ e = ups g [(0, v1), (1, .int .i64 p1), (2, .int .i64 p2), (28, .bool d_15)] ∧ Rel c x_3.1 G_) ?_ ?_
  · clear H
    refine W.region ?_
    refine WL.callP rfl (by kernel_rfl) (c_linotypelaw26_works O0 R0 (hG.le (by decide)) h3) ?_
    rintro v12 c11 l11 ⟨G7, O8, R9, rfl⟩
    refine va (.bool (!x_3.2)) ?_
    rcases Bool.eq_false_or_eq_true (!x_3.2) with h13 | h13
    · skip
      obtain rfl := orT h13 h4
      refine vb h13 ?_
      refine ps ?_
      refine ps ?_
      refine ps ?_
      refine va (.bool true) ?_
      have h14 : true = true := rfl
      obtain rfl := orT h14 h5
      refine vb h14 ?_
      refine ps ?_
      refine ps ?_
      refine ps ?_
      refine va (.bool true) ?_
      have h15 : true = true := rfl
      obtain rfl := orT h15 h6
      refine vb h15 ?_
      refine ps ?_
      refine ps ?_
      refine ps ?_
      refine va (.bool true) ?_
      refine wln ?_
      exact ⟨c11, _, G7, rfl, l11, O8, ups_self ⟨rfl, rfl, rfl, rfl, trivial⟩, R9⟩
    · skip
      have H16 := orF h13 h4
      refine vb h13 ?_
      refine wn ?_
      refine va (v1) ?_
      refine wn ?_
      refine WL.val0 (v := .int .i64 (p0.length : Int)) rfl (rx (by kernel_rfl) (run_len (ty := 3) Tryd.underlying22 (h2.mono l11) _)) ?_
      refine wn ?_
      refine va (.bool (decide ((p0.length : Int) > 100))) ?_
      obtain rfl := Option.some.inj H16
      refine va (.bool (decide ((p0.length : Int) > 100))) ?_
      rcases Bool.eq_false_or_eq_true (decide ((p0.length : Int) > 100)) with h17 | h17
      · skip
        obtain rfl := orT h17 h5
        refine vb h17 ?_
        refine ps ?_
        refine ps ?_
        refine ps ?_
        refine va (.bool true) ?_
        have h18 : true = true := rfl
        obtain rfl := orT h18 h6
        refine vb h18 ?_
        refine ps ?_
        refine ps ?_
        refine ps ?_
        refine va (.bool true) ?_
        refine wln ?_
        exact ⟨c11, _, G7, rfl, l11, O8, ups_self ⟨rfl, rfl, rfl, rfl, trivial⟩, R9⟩
      · skip
        have H19 := orF h17 h5
        refine vb h17 ?_
        refine wn ?_
        refine va (v1) ?_
        refine wn ?_
        refine WL.val0 (v := .int .i64 (p0.length : Int)) rfl (rx (by kernel_rfl) (run_len (ty := 3) Tryd.underlying22 (h2.mono l11) _)) ?_
        refine wn ?_
        refine va (.bool ((p0.length : Int) == 0)) ?_
        obtain rfl := Option.some.inj H19
        refine va (.bool ((p0.length : Int) == 0)) ?_
        rcases Bool.eq_false_or_eq_true ((p0.length : Int) == 0) with h20 | h20
        · skip
          obtain rfl := orT h20 h6
          refine vb h20 ?_
          refine ps ?_
          refine ps ?_
          refine ps ?_
          refine va (.bool true) ?_
          refine wln ?_
          exact ⟨c11, _, G7, rfl, l11, O8, ups_self ⟨rfl, rfl, rfl, rfl, trivial⟩, R9⟩
        · skip
          have H21 := orF h20 h6
          refine vb h20 ?_
          refine wn ?_
          refine va (v1) ?_
          refine wn ?_
          obtain ⟨x_18, h22, H21⟩ := bs H21
          refine WL.callP rfl (by kernel_rfl) (c_linotyperef23_Sound O8 p0 (h2.mono l11) h22) ?_
          rintro v28 c27 l27 ⟨O24, rfl⟩
          refine wn ?_
          refine va (.bool (!x_18)) ?_
          obtain rfl := Option.some.inj H21
          refine va (.bool (!x_18)) ?_
          refine wln ?_
          exact ⟨c27, _, G7, rfl, (l11.trans l27), O24, ups_self ⟨rfl, rfl, rfl, rfl, trivial⟩, (R9.mono l27)⟩
  · skip
    rintro e_ w_ ⟨c29, g30, G32, rfl, l29, O31, rfl, R33⟩
    refine nrm ?_
    refine W.cond (t := d_15) (by kernel_rfl) (fun h35 => ?_) (fun h35 => ?_)
    · have H := it h35 H
      refine sr ?_
      obtain ⟨x_21, h36, H⟩ := bs H
      refine WL.callP rfl (by kernel_rfl) (c_linotypelaw26_works O31 R33 ((hG.mono l29).le (by decide)) h36) ?_
      rintro v42 c41 l41 ⟨G37, O38, R39, rfl⟩
      refine va (.bool x_21.2) ?_
      refine wln ?_
      refine W.ret ?_
      refine thr ?_
      obtain rfl := Option.some.inj H
      exact ret1 (v := .bool x_21.2) rfl (by kernel_rfl) ⟨_, c41, rfl, rfl, (l29.trans l41), G37, O38, R39, rfl⟩
    · have H := ie h35 H
      refine W.skip ?_
      refine nrm ?_
      refine sr ?_
      refine va (v1) ?_
      obtain ⟨x_25, h43, H⟩ := bs H
      refine WL.callP rfl (by kernel_rfl) (c_row_Of O31 R33 ((hG.mono l29).le (by decide)) p0 (h2.mono l29) h43) ?_
      rintro v53 c52 l52 ⟨v44, v46, G48, O49, R50, rfl, h45, h47⟩
      refine va (.tuple #[v44, v46]) ?_
      refine va (v44) ?_
      refine va (v46) ?_
      refine va (v44) ?_
      refine va (v46) ?_
      refine wln ?_
      refine W.seq ?_
      refine sr ?_
      refine va (v46) ?_
      refine WL.val0 (v := .bool (!x_25.2.2.isNil)) rfl (by rcases (h47).cs with ⟨h1_, h2_⟩ | ⟨b_, h1_, h2_⟩ | ⟨b_, h1_, h2_⟩ <;> (subst h1_; rw [h2_]; kernel_rfl)) ?_
      refine wln ?_
      refine W.cond (t := !x_25.2.2.isNil) (by kernel_rfl) (fun h54 => ?_) (fun h54 => ?_)
      · have H := it h54 H
        refine sr ?_
        refine va (.bool false) ?_
        refine wln ?_
        refine W.ret ?_
        refine thr ?_
        obtain rfl := Option.some.inj H
        exact ret1 (v := .bool false) rfl (by kernel_rfl) ⟨_, c52, rfl, rfl, (l29.trans l52), G48, O49, R50, rfl⟩
      · have H := ie h54 H
        refine W.skip ?_
        refine nrm ?_
        refine sr ?_
        refine va (v44) ?_
        refine va (.int .i64 p1) ?_
        refine va (.int .i64 p2) ?_
        obtain ⟨x_40, h55, H⟩ := bs H
        refine WL.callP rfl (by kernel_rfl) (c_erase_Range O49 R50 ((hG.mono (l29.trans l52)).le (by decide)) x_25.2.1 p1 p2 h45 h55) ?_
        rintro v61 c60 l60 ⟨G56, O57, R58, rfl⟩
        refine wln ?_
        refine sr ?_
        refine va (.int .i64 p1) ?_
        refine va (v1) ?_
        refine WL.val0 (v := .int .i64 (p0.length : Int)) rfl (rx (by kernel_rfl) (run_len (ty := 3) Tryd.underlying22 (h2.mono (l29.trans (l52.trans l60))) _)) ?_
        refine va (.int .i64 (imin p1 (p0.length : Int))) ?_
        refine va (.int .i64 (imax 0 (imin p1 (p0.length : Int)))) ?_
        refine va (.int .i64 p2) ?_
        refine va (v1) ?_
        refine WL.val0 (v := .int .i64 (p0.length : Int)) rfl (rx (by kernel_rfl) (run_len (ty := 3) Tryd.underlying22 (h2.mono (l29.trans (l52.trans l60))) _)) ?_
        refine va (.int .i64 (imin p2 (p0.length : Int))) ?_
        refine va (.int .i64 (imax 0 (imin p2 (p0.length : Int)))) ?_
        refine va (.int .i64 (imax 0 (imin p1 (p0.length : Int)))) ?_
        refine va (.int .i64 (imax 0 (imin p2 (p0.length : Int)))) ?_
        refine wln ?_
        refine W.seq ?_
        refine sr ?_
        refine va (.int .i64 0) ?_
        refine wln ?_
        refine W.block ?_
        obtain ⟨o_57, h62, H63⟩ := bs H
        refine W.loop (σ := Int) (τ := (Sto × Bool) ⊕ Unit) (fun s_57 => fun e w => ∃ (c : Cx) (g : Nat → Value), w = c.w ∧ c60.le c ∧ Own c G56 (F) ∧ e = ups g [(0, v1), (1, .int .i64 (imax 0 (imin p1 (p0.length : Int)))), (2, .int .i64 (imax 0 (imin p2 (p0.length : Int)))), (7, v44), (9, .int .i64 s_57)]) (fun t => match t with | .inl x_ => (fun rr_ ex e w => ex = .ret ∧ (fun e w => ∃ (c : Cx) (g : Nat → Value) (G_ : Gm), w = c.w ∧ c60.le c ∧ Own c G_ (F) ∧ e = ups g [(6, .bool rr_.2)] ∧ Rel c rr_.1 G_) e w) x_ | .inr x_ => (fun o_57_ ex e w => ex = .exit 0 ∧ (fun e w => ∃ (c : Cx) (g : Nat → Value), w = c.w ∧ c60.le c ∧ Own c G56 (F) ∧ e = ups g []) e w) x_) ?_ h62 ?_ ?_
        · clear H63 h62
          intro s_57 xx_ ee_ ww_ H
          revert ee_ ww_
          rintro e_ w_ ⟨c64, g65, rfl, l64, O66, rfl⟩
          refine W.seq ?_
          refine sr ?_
          refine va (.int .i64 s_57) ?_
          refine va (v1) ?_
          refine WL.val0 (v := .int .i64 (p0.length : Int)) rfl (rx (by kernel_rfl) (run_len (ty := 3) Tryd.underlying22 (h2.mono (l29.trans (l52.trans (l60.trans l64)))) _)) ?_
          refine va (.bool (decide (s_57 < (p0.length : Int)))) ?_
          refine wln ?_
          refine W.cond (t := decide (s_57 < (p0.length : Int))) (by kernel_rfl) (fun h70 => ?_) (fun h70 => ?_)
          · have H := it h70 H
            refine W.skip ?_
            refine nrm ?_
            refine W.seq ?_
            refine W.block ?_
            refine sr ?_
            refine va (v44) ?_
            refine va (.int .i64 s_57) ?_
            obtain ⟨x_65, h71, H⟩ := bs H
            refine WL.callP rfl (by kernel_rfl) (c_row_Row_Cell O66 (R58.mono l64) x_25.2.1 s_57 (h45.mono (l60.trans l64)) h71) ?_
            rintro v80 c79 l79 ⟨v72, u73, O76, rfl, h74⟩
            refine va (.tuple #[.agg #[.int .i64 x_65.1.Kind, v72], .bool x_65.2]) ?_
            refine va (.agg #[.int .i64 x_65.1.Kind, v72]) ?_
            refine va (.bool x_65.2) ?_
            refine WL.mem rfl (Own.al (T := 27) (vs := [.int .i64 0, .slice none 0 0]) O76 (by kernel_rfl)) ?_
            rintro v84 c83 l83 ⟨b81, rfl, O82⟩
            obtain ⟨a85, a86, a87, rfl⟩ := ((h74.mono l83)).form
            refine WL.memD rfl (Own.st (T := 27) (j := 0) (us := [.int .i64 x_65.1.Kind, .slice a85 a86 a87]) (nw := [.int .i64 x_65.1.Kind, .slice a85 a86 a87]) (v := .agg #[.int .i64 x_65.1.Kind, .slice a85 a86 a87]) 0 O82 (by kernel_rfl) rfl rfl rfl rfl (by kernel_rfl) ⟨rfl, ((h74.mono l83)).one, trivial⟩ rfl rfl) ?_
            rintro c89 l89 O88
            refine va (.bool x_65.2) ?_
            refine wln ?_
            refine W.seq ?_
            refine W.seq ?_
            obtain ⟨d_76, h90, H⟩ := bs H
            obtain ⟨d_81, h91, H⟩ := bs H
            obtain ⟨d_86, h92, H⟩ := bs H
            refine W.join (fun e w => ∃ (c : Cx) (g : Nat → Value), w = c.w ∧ c89.le c ∧ Own c G56 (⟨.pointer (some ⟨b81, 0, none⟩), 27, [.int .i64 x_65.1.Kind, .slice a85 a86 a87], 0⟩ :: es true (RI .i32) (.slice a85 a86 a87) 21 u73 x_65.1.Text :: F) ∧ e = ups g [(0, v1), (1, .int .i64 (imax 0 (imin p1 (p0.length : Int)))), (2, .int .i64 (imax 0 (imin p2 (p0.length : Int)))), (7, v44), (9, .int .i64 s_57), (10, .pointer (some ⟨b81, 0, none⟩)), (80, .bool d_86)]) ?_ ?_
            · clear H
              refine W.region ?_
              refine va (.int .i64 (imax 0 (imin p1 (p0.length : Int)))) ?_
              refine va (.int .i64 (imax 0 (imin p2 (p0.length : Int)))) ?_
              refine va (.bool (decide ((imax 0 (imin p1 (p0.length : Int))) < (imax 0 (imin p2 (p0.length : Int)))))) ?_
              rcases Bool.eq_false_or_eq_true (decide ((imax 0 (imin p1 (p0.length : Int))) < (imax 0 (imin p2 (p0.length : Int))))) with h93 | h93
              · skip
                have H94 := anT h93 h90
                refine vb h93 ?_
                refine wn ?_
                refine va (.int .i64 s_57) ?_
                refine wn ?_
                refine va (.int .i64 (imax 0 (imin p1 (p0.length : Int)))) ?_
                refine wn ?_
                refine va (.bool (decide (s_57 ≥ (imax 0 (imin p1 (p0.length : Int)))))) ?_
                obtain rfl := Option.some.inj H94
                refine va (.bool (decide (s_57 ≥ (imax 0 (imin p1 (p0.length : Int)))))) ?_
                rcases Bool.eq_false_or_eq_true (decide (s_57 ≥ (imax 0 (imin p1 (p0.length : Int))))) with h95 | h95
                · skip
                  have H96 := anT h95 h91
                  refine vb h95 ?_
                  refine wn ?_
                  refine va (.int .i64 s_57) ?_
                  refine wn ?_
                  refine va (.int .i64 (imax 0 (imin p2 (p0.length : Int)))) ?_
                  refine wn ?_
                  refine va (.bool (decide (s_57 < (imax 0 (imin p2 (p0.length : Int)))))) ?_
                  obtain rfl := Option.some.inj H96
                  refine va (.bool (decide (s_57 < (imax 0 (imin p2 (p0.length : Int)))))) ?_
                  rcases Bool.eq_false_or_eq_true (decide (s_57 < (imax 0 (imin p2 (p0.length : Int))))) with h97 | h97
                  · skip
                    have H98 := anT h97 h92
                    refine vb h97 ?_
                    refine wn ?_
                    refine va (.pointer (some ⟨b81, 0, none⟩)) ?_
                    refine wn ?_
                    refine WL.val0 (v := .int .i64 x_65.1.Kind) rfl (rx (by kernel_rfl) (ldE1 (j := 0) Tryd.underlying3 rfl (O88.on 0 rfl) rfl rfl)) ?_
                    refine wn ?_
                    refine va (.bool (x_65.1.Kind != 0)) ?_
                    obtain rfl := Option.some.inj H98
                    refine va (.bool (x_65.1.Kind != 0)) ?_
                    refine wln ?_
                    exact ⟨c89, _, rfl, (Cx.le.refl _), O88, ups_self ⟨rfl, rfl, rfl, rfl, rfl, rfl, rfl, trivial⟩⟩
                  · skip
                    obtain rfl := anF h97 h92
                    refine vb h97 ?_
                    refine ps ?_
                    refine ps ?_
                    refine ps ?_
                    refine va (.bool false) ?_
                    refine wln ?_
                    exact ⟨c89, _, rfl, (Cx.le.refl _), O88, ups_self ⟨rfl, rfl, rfl, rfl, rfl, rfl, rfl, trivial⟩⟩
                · skip
                  obtain rfl := anF h95 h91
                  refine vb h95 ?_
                  refine ps ?_
                  refine ps ?_
                  refine ps ?_
                  refine va (.bool false) ?_
                  have h99 : false = false := rfl
                  obtain rfl := anF h99 h92
                  refine vb h99 ?_
                  refine ps ?_
                  refine ps ?_
                  refine ps ?_
                  refine va (.bool false) ?_
                  refine wln ?_
                  exact ⟨c89, _, rfl, (Cx.le.refl _), O88, ups_self ⟨rfl, rfl, rfl, rfl, rfl, rfl, rfl, trivial⟩⟩
              · skip
                obtain rfl := anF h93 h90
                refine vb h93 ?_
                refine ps ?_
                refine ps ?_
                refine ps ?_
                refine va (.bool false) ?_
                have h100 : false = false := rfl
                obtain rfl := anF h100 h91
                refine vb h100 ?_
                refine ps ?_
                refine ps ?_
                refine ps ?_
                refine va (.bool false) ?_
                have h101 : false = false := rfl
                obtain rfl := anF h101 h92
                refine vb h101 ?_
                refine ps ?_
                refine ps ?_
                refine ps ?_
                refine va (.bool false) ?_
                refine wln ?_
                exact ⟨c89, _, rfl, (Cx.le.refl _), O88, ups_self ⟨rfl, rfl, rfl, rfl, rfl, rfl, rfl, trivial⟩⟩
            · skip
              rintro e_ w_ ⟨c102, g103, rfl, l102, O104, rfl⟩
              refine nrm ?_
              refine W.cond (t := d_86) (by kernel_rfl) (fun h108 => ?_) (fun h108 => ?_)
              · have H := it h108 H
                refine sr ?_
                refine va (.bool false) ?_
                refine wln ?_
                refine W.ret ?_
                refine thr ?_
                refine bkr ?_
                refine thr ?_
                obtain rfl := Option.some.inj H
                refine ⟨_, rfl, ?_⟩
                refine ⟨rfl, ?_⟩
                have O109 := O104.selD 2 [] (by kernel_rfl) (by kernel_rfl)
                exact ⟨c102, _, G56, rfl, (l64.trans (l79.trans (l83.trans (l89.trans l102)))), O109, ups_self ⟨rfl, trivial⟩, (R58.mono (l64.trans (l79.trans (l83.trans (l89.trans l102)))))⟩
              · have H := ie h108 H
                refine W.skip ?_
                refine nrm ?_
                refine W.seq ?_
                obtain ⟨d_97, h110, H⟩ := bs H
                obtain ⟨d_103, h111, H⟩ := bs H
                obtain ⟨d_108, h112, H⟩ := bs H
                refine W.join (fun e w => ∃ (c : Cx) (g : Nat → Value), w = c.w ∧ c102.le c ∧ Own c G56 (⟨.pointer (some ⟨b81, 0, none⟩), 27, [.int .i64 x_65.1.Kind, .slice a85 a86 a87], 0⟩ :: es false (RI .i32) (.slice a85 a86 a87) 21 u73 x_65.1.Text :: F) ∧ e = ups g [(0, v1), (1, .int .i64 (imax 0 (imin p1 (p0.length : Int)))), (2, .int .i64 (imax 0 (imin p2 (p0.length : Int)))), (7, v44), (9, .int .i64 s_57), (105, .bool d_108)]) ?_ ?_
                · clear H
                  refine W.regionD [] (Kp G0 [⟨.pointer (some ⟨b81, 0, none⟩), 27, [.int .i64 x_65.1.Kind, .slice a85 a86 a87], 0⟩]) O104 (by kernel_rfl) ?_
                  intro c113 l113 O114
                  have p115 : Kp G0 [⟨.pointer (some ⟨b81, 0, none⟩), 27, [.int .i64 x_65.1.Kind, .slice a85 a86 a87], 0⟩] c113 := (Kp.cons (O114.on 0 rfl) Kp.nil0)
                  refine ta 0 (.int .i64 (imax 0 (imin p1 (p0.length : Int)))) ?_
                  refine ta 1 (.int .i64 (imax 0 (imin p2 (p0.length : Int)))) ?_
                  refine ta 2 (.bool (decide ((imax 0 (imin p1 (p0.length : Int))) ≥ (imax 0 (imin p2 (p0.length : Int)))))) ?_
                  rcases Bool.eq_false_or_eq_true (decide ((imax 0 (imin p1 (p0.length : Int))) ≥ (imax 0 (imin p2 (p0.length : Int))))) with h116 | h116
                  · skip
                    obtain rfl := orT h116 h110
                    refine AC.takeb 3 h116 rfl (by kernel_rfl) (by kernel_rfl) (fun c' hle => (by kernel_rfl)) ?_
                    refine AC.pass 4 rfl (by kernel_rfl) (by kernel_rfl) ?_
                    refine AC.pass 5 rfl (by kernel_rfl) (by kernel_rfl) ?_
                    refine AC.pass 6 rfl (by kernel_rfl) (by kernel_rfl) ?_
                    refine AC.pass 7 rfl (by kernel_rfl) (by kernel_rfl) ?_
                    refine ta 8 (.bool true) ?_
                    have h117 : true = true := rfl
                    obtain rfl := orT h117 h111
                    refine AC.takeb 9 h117 rfl (by kernel_rfl) (by kernel_rfl) (fun c' hle => (by kernel_rfl)) ?_
                    refine AC.pass 10 rfl (by kernel_rfl) (by kernel_rfl) ?_
                    refine AC.pass 11 rfl (by kernel_rfl) (by kernel_rfl) ?_
                    refine AC.pass 12 rfl (by kernel_rfl) (by kernel_rfl) ?_
                    refine ta 13 (.bool true) ?_
                    have h118 : true = true := rfl
                    have H119 := anT h118 h112
                    refine AC.takeb 14 h118 rfl (by kernel_rfl) (by kernel_rfl) (fun c' hle => (by kernel_rfl)) ?_
                    refine AC.takeK 15 (.agg #[.int .i64 x_65.1.Kind, .slice a85 a86 a87]) p115 rfl (by kernel_rfl) (by kernel_rfl) (by kernel_rfl) (fun c' hle hk => (rx (by kernel_rfl) (ldEN (T := 27) (j := 0) (l := [.int .i64 x_65.1.Kind, .slice a85 a86 a87]) (by kernel_rfl) (by kernel_rfl) (hk.on 0 rfl) rfl rfl))) ?_
                    refine ta 17 (v1) ?_
                    refine ta 18 (.int .i64 s_57) ?_
                    refine ta 19 (.int .i64 s_57) ?_
                    refine ta 20 (.int .i64 (w64 (s_57 + 1))) ?_
                    obtain ⟨x_115, h120, H119⟩ := bs H119
                    obtain ⟨v121, h122, h123⟩ := run_cut (k := .i64) (k' := .i64) Tryd.underlying22 (by kernel_rfl) (h2.mono (l29.trans (l52.trans (l60.trans (l64.trans (l79.trans (l83.trans (l89.trans (l102.trans l113))))))))) h120
                    refine AC.take 21 (v121) rfl (by kernel_rfl) (by kernel_rfl) (fun c' hle => (rx (by kernel_rfl) (h122 _))) ?_
                    obtain ⟨c126, h127, l126, O124, h125⟩ := O114.frz 1 rfl (h74.mono (l83.trans (l89.trans (l102.trans l113))))
                    have p128 : Kp G0 [⟨.pointer (some ⟨b81, 0, none⟩), 27, [.int .i64 x_65.1.Kind, .slice a85 a86 a87], 0⟩] c126 := (Kp.cons (O124.on 0 rfl) Kp.nil0)
                    refine AC.gh h127 l126 (fun _ => p128) ?_
                    refine AC.one 16 (by kernel_rfl) (Go1.mem 16 rfl (by kernel_rfl) (by kernel_rfl) (Own.sl (R := R_api_Cell) (E := 27) (ls := [[.int .i64 x_65.1.Kind, .slice a85 a86 a87]]) (vs := [.int .i64 x_65.1.Kind, .slice a85 a86 a87]) (xs := ([x_65.1] : List G_api_Cell)) true O124 (Nat.succ_pos _) rfl ⟨⟨(.slice a85 a86 a87), rfl, h125⟩, trivial⟩ (by kernel_rfl) (by kernel_rfl)) ?_)
                    rintro v133 c132 l132 ⟨u130, O129, h131⟩
                    have p134 : Kp G0 [⟨.pointer (some ⟨b81, 0, none⟩), 27, [.int .i64 x_65.1.Kind, .slice a85 a86 a87], 0⟩] c132 := (Kp.cons (O129.on 1 rfl) Kp.nil0)
                    refine ⟨.inr p134, ?_⟩
                    obtain ⟨c137, h138, l137, O135, h136⟩ := O129.frz 0 rfl h131
                    have p139 : Kp G0 [⟨.pointer (some ⟨b81, 0, none⟩), 27, [.int .i64 x_65.1.Kind, .slice a85 a86 a87], 0⟩] c137 := (Kp.cons (O135.on 1 rfl) Kp.nil0)
                    refine AC.gh h138 l137 (fun _ => p139) ?_
                    obtain ⟨x_117, h140, H119⟩ := bs H119
                    refine AC.one 22 (by kernel_rfl) (Go1.callP 22 rfl (by kernel_rfl) (by kernel_rfl) (by kernel_rfl) (c_linotyperef23_Same O135 ([x_65.1] : List G_api_Cell) x_115 h136 (h123.mono (l126.trans (l132.trans l137))) h140) ?_)
                    rintro v146 c145 l145 ⟨O142, rfl⟩
                    have p147 : Kp G0 [⟨.pointer (some ⟨b81, 0, none⟩), 27, [.int .i64 x_65.1.Kind, .slice a85 a86 a87], 0⟩] c145 := (Kp.cons (O142.on 1 rfl) Kp.nil0)
                    refine ⟨.inr p147, ?_⟩
                    refine ta 23 (.bool (!x_117)) ?_
                    obtain rfl := Option.some.inj H119
                    refine ta 24 (.bool (!x_117)) ?_
                    refine AC.done (by kernel_rfl) ?_
                    refine nrm ?_
                    have O148 := O142.selD 3 [1, 2] (by kernel_rfl) (by kernel_rfl)
                    exact ⟨c145, _, rfl, (l113.trans (l126.trans (l132.trans (l137.trans l145)))), O148, ups_self ⟨rfl, rfl, rfl, rfl, rfl, rfl, trivial⟩⟩
                  · skip
                    have H149 := orF h116 h110
                    refine AC.takeb 3 h116 rfl (by kernel_rfl) (by kernel_rfl) (fun c' hle => (by kernel_rfl)) ?_
                    refine ta 4 (.int .i64 s_57) ?_
                    refine ta 5 (.int .i64 (w64 (s_57 + 1))) ?_
                    refine ta 6 (.int .i64 (imax 0 (imin p1 (p0.length : Int)))) ?_
                    refine ta 7 (.bool (decide ((w64 (s_57 + 1)) < (imax 0 (imin p1 (p0.length : Int)))))) ?_
                    obtain rfl := Option.some.inj H149
                    refine ta 8 (.bool (decide ((w64 (s_57 + 1)) < (imax 0 (imin p1 (p0.length : Int)))))) ?_
                    rcases Bool.eq_false_or_eq_true (decide ((w64 (s_57 + 1)) < (imax 0 (imin p1 (p0.length : Int))))) with h150 | h150
                    · skip
                      obtain rfl := orT h150 h111
                      refine AC.takeb 9 h150 rfl (by kernel_rfl) (by kernel_rfl) (fun c' hle => (by kernel_rfl)) ?_
                      refine AC.pass 10 rfl (by kernel_rfl) (by kernel_rfl) ?_
                      refine AC.pass 11 rfl (by kernel_rfl) (by kernel_rfl) ?_
                      refine AC.pass 12 rfl (by kernel_rfl) (by kernel_rfl) ?_
                      refine ta 13 (.bool true) ?_
                      have h151 : true = true := rfl
                      have H152 := anT h151 h112
                      refine AC.takeb 14 h151 rfl (by kernel_rfl) (by kernel_rfl) (fun c' hle => (by kernel_rfl)) ?_
                      refine AC.takeK 15 (.agg #[.int .i64 x_65.1.Kind, .slice a85 a86 a87]) p115 rfl (by kernel_rfl) (by kernel_rfl) (by kernel_rfl) (fun c' hle hk => (rx (by kernel_rfl) (ldEN (T := 27) (j := 0) (l := [.int .i64 x_65.1.Kind, .slice a85 a86 a87]) (by kernel_rfl) (by kernel_rfl) (hk.on 0 rfl) rfl rfl))) ?_
                      refine ta 17 (v1) ?_
                      refine ta 18 (.int .i64 s_57) ?_
                      refine ta 19 (.int .i64 s_57) ?_
                      refine ta 20 (.int .i64 (w64 (s_57 + 1))) ?_
                      obtain ⟨x_115, h153, H152⟩ := bs H152
                      obtain ⟨v154, h155, h156⟩ := run_cut (k := .i64) (k' := .i64) Tryd.underlying22 (by kernel_rfl) (h2.mono (l29.trans (l52.trans (l60.trans (l64.trans (l79.trans (l83.trans (l89.trans (l102.trans l113))))))))) h153
                      refine AC.take 21 (v154) rfl (by kernel_rfl) (by kernel_rfl) (fun c' hle => (rx (by kernel_rfl) (h155 _))) ?_
                      obtain ⟨c159, h160, l159, O157, h158⟩ := O114.frz 1 rfl (h74.mono (l83.trans (l89.trans (l102.trans l113))))
                      have p161 : Kp G0 [⟨.pointer (some ⟨b81, 0, none⟩), 27, [.int .i64 x_65.1.Kind, .slice a85 a86 a87], 0⟩] c159 := (Kp.cons (O157.on 0 rfl) Kp.nil0)
                      refine AC.gh h160 l159 (fun _ => p161) ?_
                      refine AC.one 16 (by kernel_rfl) (Go1.mem 16 rfl (by kernel_rfl) (by kernel_rfl) (Own.sl (R := R_api_Cell) (E := 27) (ls := [[.int .i64 x_65.1.Kind, .slice a85 a86 a87]]) (vs := [.int .i64 x_65.1.Kind, .slice a85 a86 a87]) (xs := ([x_65.1] : List G_api_Cell)) true O157 (Nat.succ_pos _) rfl ⟨⟨(.slice a85 a86 a87), rfl, h158⟩, trivial⟩ (by kernel_rfl) (by kernel_rfl)) ?_)
                      rintro v166 c165 l165 ⟨u163, O162, h164⟩
                      have p167 : Kp G0 [⟨.pointer (some ⟨b81, 0, none⟩), 27, [.int .i64 x_65.1.Kind, .slice a85 a86 a87], 0⟩] c165 := (Kp.cons (O162.on 1 rfl) Kp.nil0)
                      refine ⟨.inr p167, ?_⟩
                      obtain ⟨c170, h171, l170, O168, h169⟩ := O162.frz 0 rfl h164
                      have p172 : Kp G0 [⟨.pointer (some ⟨b81, 0, none⟩), 27, [.int .i64 x_65.1.Kind, .slice a85 a86 a87], 0⟩] c170 := (Kp.cons (O168.on 1 rfl) Kp.nil0)
                      refine AC.gh h171 l170 (fun _ => p172) ?_
                      obtain ⟨x_117, h173, H152⟩ := bs H152
                      refine AC.one 22 (by kernel_rfl) (Go1.callP 22 rfl (by kernel_rfl) (by kernel_rfl) (by kernel_rfl) (c_linotyperef23_Same O168 ([x_65.1] : List G_api_Cell) x_115 h169 (h156.mono (l159.trans (l165.trans l170))) h173) ?_)
                      rintro v179 c178 l178 ⟨O175, rfl⟩
                      have p180 : Kp G0 [⟨.pointer (some ⟨b81, 0, none⟩), 27, [.int .i64 x_65.1.Kind, .slice a85 a86 a87], 0⟩] c178 := (Kp.cons (O175.on 1 rfl) Kp.nil0)
                      refine ⟨.inr p180, ?_⟩
                      refine ta 23 (.bool (!x_117)) ?_
                      obtain rfl := Option.some.inj H152
                      refine ta 24 (.bool (!x_117)) ?_
                      refine AC.done (by kernel_rfl) ?_
                      refine nrm ?_
                      have O181 := O175.selD 3 [1, 2] (by kernel_rfl) (by kernel_rfl)
                      exact ⟨c178, _, rfl, (l113.trans (l159.trans (l165.trans (l170.trans l178)))), O181, ups_self ⟨rfl, rfl, rfl, rfl, rfl, rfl, trivial⟩⟩
                    · skip
                      have H182 := orF h150 h111
                      refine AC.takeb 9 h150 rfl (by kernel_rfl) (by kernel_rfl) (fun c' hle => (by kernel_rfl)) ?_
                      refine ta 10 (.int .i64 s_57) ?_
                      refine ta 11 (.int .i64 (imax 0 (imin p2 (p0.length : Int)))) ?_
                      refine ta 12 (.bool (decide (s_57 > (imax 0 (imin p2 (p0.length : Int)))))) ?_
                      obtain rfl := Option.some.inj H182
                      refine ta 13 (.bool (decide (s_57 > (imax 0 (imin p2 (p0.length : Int)))))) ?_
                      rcases Bool.eq_false_or_eq_true (decide (s_57 > (imax 0 (imin p2 (p0.length : Int))))) with h183 | h183
                      · skip
                        have H184 := anT h183 h112
                        refine AC.takeb 14 h183 rfl (by kernel_rfl) (by kernel_rfl) (fun c' hle => (by kernel_rfl)) ?_
                        refine AC.takeK 15 (.agg #[.int .i64 x_65.1.Kind, .slice a85 a86 a87]) p115 rfl (by kernel_rfl) (by kernel_rfl) (by kernel_rfl) (fun c' hle hk => (rx (by kernel_rfl) (ldEN (T := 27) (j := 0) (l := [.int .i64 x_65.1.Kind, .slice a85 a86 a87]) (by kernel_rfl) (by kernel_rfl) (hk.on 0 rfl) rfl rfl))) ?_
                        refine ta 17 (v1) ?_
                        refine ta 18 (.int .i64 s_57) ?_
                        refine ta 19 (.int .i64 s_57) ?_
                        refine ta 20 (.int .i64 (w64 (s_57 + 1))) ?_
                        obtain ⟨x_115, h185, H184⟩ := bs H184
                        obtain ⟨v186, h187, h188⟩ := run_cut (k := .i64) (k' := .i64) Tryd.underlying22 (by kernel_rfl) (h2.mono (l29.trans (l52.trans (l60.trans (l64.trans (l79.trans (l83.trans (l89.trans (l102.trans l113))))))))) h185
                        refine AC.take 21 (v186) rfl (by kernel_rfl) (by kernel_rfl) (fun c' hle => (rx (by kernel_rfl) (h187 _))) ?_
                        obtain ⟨c191, h192, l191, O189, h190⟩ := O114.frz 1 rfl (h74.mono (l83.trans (l89.trans (l102.trans l113))))
                        have p193 : Kp G0 [⟨.pointer (some ⟨b81, 0, none⟩), 27, [.int .i64 x_65.1.Kind, .slice a85 a86 a87], 0⟩] c191 := (Kp.cons (O189.on 0 rfl) Kp.nil0)
                        refine AC.gh h192 l191 (fun _ => p193) ?_
                        refine AC.one 16 (by kernel_rfl) (Go1.mem 16 rfl (by kernel_rfl) (by kernel_rfl) (Own.sl (R := R_api_Cell) (E := 27) (ls := [[.int .i64 x_65.1.Kind, .slice a85 a86 a87]]) (vs := [.int .i64 x_65.1.Kind, .slice a85 a86 a87]) (xs := ([x_65.1] : List G_api_Cell)) true O189 (Nat.succ_pos _) rfl ⟨⟨(.slice a85 a86 a87), rfl, h190⟩, trivial⟩ (by kernel_rfl) (by kernel_rfl)) ?_)
                        rintro v198 c197 l197 ⟨u195, O194, h196⟩
                        have p199 : Kp G0 [⟨.pointer (some ⟨b81, 0, none⟩), 27, [.int .i64 x_65.1.Kind, .slice a85 a86 a87], 0⟩] c197 := (Kp.cons (O194.on 1 rfl) Kp.nil0)
                        refine ⟨.inr p199, ?_⟩
                        obtain ⟨c202, h203, l202, O200, h201⟩ := O194.frz 0 rfl h196
                        have p204 : Kp G0 [⟨.pointer (some ⟨b81, 0, none⟩), 27, [.int .i64 x_65.1.Kind, .slice a85 a86 a87], 0⟩] c202 := (Kp.cons (O200.on 1 rfl) Kp.nil0)
                        refine AC.gh h203 l202 (fun _ => p204) ?_
                        obtain ⟨x_117, h205, H184⟩ := bs H184
                        refine AC.one 22 (by kernel_rfl) (Go1.callP 22 rfl (by kernel_rfl) (by kernel_rfl) (by kernel_rfl) (c_linotyperef23_Same O200 ([x_65.1] : List G_api_Cell) x_115 h201 (h188.mono (l191.trans (l197.trans l202))) h205) ?_)
                        rintro v211 c210 l210 ⟨O207, rfl⟩
                        have p212 : Kp G0 [⟨.pointer (some ⟨b81, 0, none⟩), 27, [.int .i64 x_65.1.Kind, .slice a85 a86 a87], 0⟩] c210 := (Kp.cons (O207.on 1 rfl) Kp.nil0)
                        refine ⟨.inr p212, ?_⟩
                        refine ta 23 (.bool (!x_117)) ?_
                        obtain rfl := Option.some.inj H184
                        refine ta 24 (.bool (!x_117)) ?_
                        refine AC.done (by kernel_rfl) ?_
                        refine nrm ?_
                        have O213 := O207.selD 3 [1, 2] (by kernel_rfl) (by kernel_rfl)
                        exact ⟨c210, _, rfl, (l113.trans (l191.trans (l197.trans (l202.trans l210)))), O213, ups_self ⟨rfl, rfl, rfl, rfl, rfl, rfl, trivial⟩⟩
                      · skip
                        obtain rfl := anF h183 h112
                        refine AC.takeb 14 h183 rfl (by kernel_rfl) (by kernel_rfl) (fun c' hle => (by kernel_rfl)) ?_
                        refine AC.pass 15 rfl (by kernel_rfl) (by kernel_rfl) ?_
                        refine AC.pass 17 rfl (by kernel_rfl) (by kernel_rfl) ?_
                        refine AC.pass 18 rfl (by kernel_rfl) (by kernel_rfl) ?_
                        refine AC.pass 19 rfl (by kernel_rfl) (by kernel_rfl) ?_
                        refine AC.pass 20 rfl (by kernel_rfl) (by kernel_rfl) ?_
                        refine AC.pass 21 rfl (by kernel_rfl) (by kernel_rfl) ?_
                        refine AC.pass 16 rfl (by kernel_rfl) (by kernel_rfl) ?_
                        refine AC.pass 22 rfl (by kernel_rfl) (by kernel_rfl) ?_
                        refine AC.pass 23 rfl (by kernel_rfl) (by kernel_rfl) ?_
                        refine ta 24 (.bool false) ?_
                        refine AC.done (by kernel_rfl) ?_
                        refine nrm ?_
                        obtain ⟨c216, h217, l216, O214, h215⟩ := O114.frz 1 rfl (h74.mono (l83.trans (l89.trans (l102.trans l113))))
                        exact ⟨c216, _, h217.symm, (l113.trans l216), O214, ups_self ⟨rfl, rfl, rfl, rfl, rfl, rfl, trivial⟩⟩
                · skip
                  rintro e_ w_ ⟨c218, g219, rfl, l218, O220, rfl⟩
                  refine nrm ?_
                  refine W.cond (t := d_108) (by kernel_rfl) (fun h224 => ?_) (fun h224 => ?_)
                  · have H := it h224 H
                    refine sr ?_
                    refine va (.bool false) ?_
                    refine wln ?_
                    refine W.ret ?_
                    refine bkr ?_
                    refine thr ?_
                    obtain rfl := Option.some.inj H
                    refine ⟨_, rfl, ?_⟩
                    refine ⟨rfl, ?_⟩
                    have O225 := O220.selD 2 [] (by kernel_rfl) (by kernel_rfl)
                    exact ⟨c218, _, G56, rfl, (l64.trans (l79.trans (l83.trans (l89.trans (l102.trans l218))))), O225, ups_self ⟨rfl, trivial⟩, (R58.mono (l64.trans (l79.trans (l83.trans (l89.trans (l102.trans l218))))))⟩
                  · have H := ie h224 H
                    refine W.skip ?_
                    refine bkn ?_
                    refine nrm ?_
                    refine W.region ?_
                    refine va (.int .i64 s_57) ?_
                    refine va (.int .i64 (w64 (s_57 + 1))) ?_
                    refine va (.int .i64 (w64 (s_57 + 1))) ?_
                    refine WL.nil ?_
                    obtain rfl := Option.some.inj H
                    refine ⟨_, rfl, ?_⟩
                    have O226 := O220.selD 2 [] (by kernel_rfl) (by kernel_rfl)
                    exact ⟨c218, _, rfl, (l64.trans (l79.trans (l83.trans (l89.trans (l102.trans l218))))), O226, ups_self ⟨rfl, rfl, rfl, rfl, rfl, trivial⟩⟩
          · have H := ie h70 H
            refine W.exit ?_
            refine thx ?_
            obtain rfl := Option.some.inj H
            refine ⟨_, rfl, rfl, ?_⟩
            exact ⟨c64, _, rfl, l64, O66, ups_self trivial⟩
        · skip
          exact ⟨c60, _, rfl, (Cx.le.refl _), O57, ups_self ⟨rfl, rfl, rfl, rfl, rfl, trivial⟩⟩
        · skip
          rcases o_57 with o_57 | o_57
          · skip
            intro ex_; revert ex_
            rintro _ e_ w_ ⟨rfl, c227, g228, G230, rfl, l227, O229, rfl, R231⟩
            refine bkr ?_
            refine thr ?_
            obtain rfl := Option.some.inj H63
            exact ret1 (v := .bool o_57.2) rfl (by kernel_rfl) ⟨_, c227, rfl, rfl, (l29.trans (l52.trans (l60.trans l227))), G230, O229, R231, rfl⟩
          · skip
            rintro _ e_ w_ ⟨rfl, c233, g234, rfl, l233, O235, rfl⟩
            refine bke ?_
            refine nrm ?_
            refine sr ?_
            refine va (.bool true) ?_
            refine wln ?_
            refine W.ret ?_
            obtain rfl := Option.some.inj H63
            exact ret1 (v := .bool true) rfl (by kernel_rfl) ⟨_, c233, rfl, rfl, (l29.trans (l52.trans (l60.trans l233))), G56, O235, (R58.mono l233), rfl⟩

def f_erase_Left (sg : Sto) (p0 : Option Nat) (p1 : Int) : Option (Sto) :=
  (f_row_Row_Wide sg p0).bind fun x_4 =>
  (f_erase_held p1 (-1) x_4).bind fun x_5 =>
  (f_erase_Range sg p0 0 (w64 (x_5 + 1))).bind fun x_7 =>
  some x_7
theorem c_erase_Left {c0 : Cx} {G : Gm} {F : List En} {sg : Sto} {v1 : Value} (O0 : Own c0 G F) (R0 : Rel c0 sg G) (hG : Gl [0, 1] c0) (p0 : Option Nat) (p1 : Int) {r : Sto} (h2 : Pt 0 c0 v1 p0) (H : f_erase_Left sg p0 p1 = some r) :
    Calls Tryd.prog 103 #[v1, .int .i64 p1] c0.w (Post c0 fun c v => ∃ G_ : Gm, Own c G_ (F) ∧ Rel c r G_ ∧ v = .tuple #[]) := by
  unfold f_erase_Left at H
  refine enter (l := [v1, .int .i64 p1]) Tryd.func103 rfl rfl rfl ?_
  refine W.region ?_
  refine va (v1) ?_
  refine va (.int .i64 p1) ?_
  refine va (v1) ?_
  obtain ⟨x_4, h3, H⟩ := bs H
  refine WL.callP rfl (by kernel_rfl) (c_row_Row_Wide O0 R0 p0 h2 h3) ?_
  rintro v9 c8 l8 ⟨O5, rfl⟩
  obtain ⟨x_5, h10, H⟩ := bs H
  refine WL.callP rfl (by kernel_rfl) (c_erase_held O5 p1 (-1) x_4 h10) ?_
  rintro v16 c15 l15 ⟨O12, rfl⟩
  refine va (.int .i64 (w64 (x_5 + 1))) ?_
  obtain ⟨x_7, h17, H⟩ := bs H
  refine WL.callP rfl (by kernel_rfl) (c_erase_Range O12 (R0.mono (l8.trans l15)) ((hG.mono (l8.trans l15)).le (by decide)) p0 0 (w64 (x_5 + 1)) (h2.mono (l8.trans l15)) h17) ?_
  rintro v23 c22 l22 ⟨G18, O19, R20, rfl⟩
  refine WL.nil ?_
  obtain rfl := Option.some.inj H
  exact end0 rfl ⟨_, c22, rfl, rfl, (l8.trans (l15.trans l22)), G18, O19, R20, rfl⟩

def f_erase_Right (sg : Sto) (p0 : Option Nat) (p1 : Int) : Option (Sto) :=
  (f_row_Row_Wide sg p0).bind fun x_4 =>
  (f_erase_Range sg p0 p1 x_4).bind fun x_5 =>
  some x_5
theorem c_erase_Right {c0 : Cx} {G : Gm} {F : List En} {sg : Sto} {v1 : Value} (O0 : Own c0 G F) (R0 : Rel c0 sg G) (hG : Gl [0, 1] c0) (p0 : Option Nat) (p1 : Int) {r : Sto} (h2 : Pt 0 c0 v1 p0) (H : f_erase_Right sg p0 p1 = some r) :
    Calls Tryd.prog 104 #[v1, .int .i64 p1] c0.w (Post c0 fun c v => ∃ G_ : Gm, Own c G_ (F) ∧ Rel c r G_ ∧ v = .tuple #[]) := by
  unfold f_erase_Right at H
  refine enter (l := [v1, .int .i64 p1]) Tryd.func104 rfl rfl rfl ?_
  refine W.region ?_
  refine va (v1) ?_
  refine va (.int .i64 p1) ?_
  refine va (v1) ?_
  obtain ⟨x_4, h3, H⟩ := bs H
  refine WL.callP rfl (by kernel_rfl) (c_row_Row_Wide O0 R0 p0 h2 h3) ?_
  rintro v9 c8 l8 ⟨O5, rfl⟩
  obtain ⟨x_5, h10, H⟩ := bs H
  refine WL.callP rfl (by kernel_rfl) (c_erase_Range O5 (R0.mono l8) ((hG.mono l8).le (by decide)) p0 p1 x_4 (h2.mono l8) h10) ?_
  rintro v16 c15 l15 ⟨G11, O12, R13, rfl⟩
  refine WL.nil ?_
  obtain rfl := Option.some.inj H
  exact end0 rfl ⟨_, c15, rfl, rfl, (l8.trans l15), G11, O12, R13, rfl⟩

def f_erase_All (sg : Sto) (p0 : Option Nat) : Option (Sto) :=
  (f_row_Row_Wide sg p0).bind fun x_3 =>
  (f_erase_Range sg p0 0 x_3).bind fun x_4 =>
  (f_row_Row_GoOn x_4 p0 false).bind fun x_7 =>
  some x_7
theorem c_erase_All {c0 : Cx} {G : Gm} {F : List En} {sg : Sto} {v1 : Value} (O0 : Own c0 G F) (R0 : Rel c0 sg G) (hG : Gl [0, 1] c0) (p0 : Option Nat) {r : Sto} (h2 : Pt 0 c0 v1 p0) (H : f_erase_All sg p0 = some r) :
    Calls Tryd.prog 105 #[v1] c0.w (Post c0 fun c v => ∃ G_ : Gm, Own c G_ (F) ∧ Rel c r G_ ∧ v = .tuple #[]) := by
  unfold f_erase_All at H
  refine enter (l := [v1]) Tryd.func105 rfl rfl rfl ?_
  refine sr ?_
  refine va (v1) ?_
  refine va (v1) ?_
  obtain ⟨x_3, h3, H⟩ := bs H
  refine WL.callP rfl (by kernel_rfl) (c_row_Row_Wide O0 R0 p0 h2 h3) ?_
  rintro v9 c8 l8 ⟨O5, rfl⟩
  obtain ⟨x_4, h10, H⟩ := bs H
  refine WL.callP rfl (by kernel_rfl) (c_erase_Range O5 (R0.mono l8) ((hG.mono l8).le (by decide)) p0 0 x_3 (h2.mono l8) h10) ?_
  rintro v16 c15 l15 ⟨G11, O12, R13, rfl⟩
  refine wln ?_
  refine W.region ?_
  refine va (v1) ?_
  obtain ⟨x_7, h17, H⟩ := bs H
  refine WL.callP rfl (by kernel_rfl) (c_row_Row_GoOn O12 R13 p0 false (h2.mono (l8.trans l15)) h17) ?_
  rintro v23 c22 l22 ⟨G18, O19, R20, rfl⟩
  refine WL.nil ?_
  obtain rfl := Option.some.inj H
  exact end0 rfl ⟨_, c22, rfl, rfl, (l8.trans (l15.trans l22)), G18, O19, R20, rfl⟩

def f_linotypelaw26_do (sg : Sto) (p0 : Option Nat) (p1 : G_linotypelaw26_Act) : Option (Sto) :=
  if (p1.Kind == 0) = true then
  (f_erase_Range sg p0 p1.A p1.B).bind fun x_14 =>
  some x_14
  else
  if (p1.Kind == 1) = true then
  (f_erase_Left sg p0 p1.A).bind fun x_22 =>
  some x_22
  else
  if (p1.Kind == 2) = true then
  (f_erase_Right sg p0 p1.A).bind fun x_30 =>
  some x_30
  else
  if (p1.Kind == 3) = true then
  (f_erase_All sg p0).bind fun x_36 =>
  some x_36
  else
  (f_erase_Cells sg p0 p1.A p1.B).bind fun x_43 =>
  some x_43
theorem c_linotypelaw26_do {c0 : Cx} {G : Gm} {F : List En} {sg : Sto} {v1 : Value} (O0 : Own c0 G F) (R0 : Rel c0 sg G) (hG : Gl [0, 1] c0) (p0 : Option Nat) (p1 : G_linotypelaw26_Act) {r : Sto} (h2 : Pt 0 c0 v1 p0) (H : f_linotypelaw26_do sg p0 p1 = some r) :
    Calls Tryd.prog 31 #[v1, .agg #[.int .i64 p1.Kind, .int .i64 p1.A, .int .i64 p1.B]] c0.w (Post c0 fun c v => ∃ G_ : Gm, Own c G_ (F) ∧ Rel c r G_ ∧ v = .tuple #[]) := by
  unfold f_linotypelaw26_do at H
  refine enter (l := [v1, .agg #[.int .i64 p1.Kind, .int .i64 p1.A, .int .i64 p1.B]]) Tryd.func31 rfl rfl rfl ?_
  refine sr ?_
  refine WL.mem rfl (Own.bx (T := 43) (vs := [.int .i64 p1.Kind, .int .i64 p1.A, .int .i64 p1.B]) O0 (by kernel_rfl)) ?_
  rintro v7 c6 l6 ⟨b3, rfl, O4, m5⟩
  refine wln ?_
  refine sr ?_
  refine va (.pointer (some ⟨b3, 0, none⟩)) ?_
  refine WL.val0 (v := .int .i64 p1.Kind) rfl (rx (by kernel_rfl) (run_load1 Tryd.underlying3 rfl (m5 0 _ rfl))) ?_
  refine wln ?_
  refine W.block ?_
  refine sr ?_
  refine va (.bool (p1.Kind == 0)) ?_
  refine va (.bool (p1.Kind == 0)) ?_
  refine wln ?_
  refine W.cond (t := p1.Kind == 0) (by kernel_rfl) (fun h8 => ?_) (fun h8 => ?_)
  · have H := it h8 H
    refine W.region ?_
    refine va (v1) ?_
    refine va (.pointer (some ⟨b3, 0 + 1, none⟩)) ?_
    refine WL.val0 (v := .int .i64 p1.A) rfl (rx (by kernel_rfl) (run_load1 Tryd.underlying3 rfl (m5 1 _ rfl))) ?_
    refine va (.pointer (some ⟨b3, 0 + 2, none⟩)) ?_
    refine WL.val0 (v := .int .i64 p1.B) rfl (rx (by kernel_rfl) (run_load1 Tryd.underlying3 rfl (m5 2 _ rfl))) ?_
    obtain ⟨x_14, h9, H⟩ := bs H
    refine WL.callP rfl (by kernel_rfl) (c_erase_Range O4 (R0.mono l6) ((hG.mono l6).le (by decide)) p0 p1.A p1.B (h2.mono l6) h9) ?_
    rintro v15 c14 l14 ⟨G10, O11, R12, rfl⟩
    refine WL.nil ?_
    refine bkn ?_
    obtain rfl := Option.some.inj H
    exact end0 rfl ⟨_, c14, rfl, rfl, (l6.trans l14), G10, O11, R12, rfl⟩
  · have H := ie h8 H
    refine sr ?_
    refine va (.bool (p1.Kind == 1)) ?_
    refine va (.bool (p1.Kind == 1)) ?_
    refine wln ?_
    refine W.cond (t := p1.Kind == 1) (by kernel_rfl) (fun h16 => ?_) (fun h16 => ?_)
    · have H := it h16 H
      refine W.region ?_
      refine va (v1) ?_
      refine va (.pointer (some ⟨b3, 0 + 1, none⟩)) ?_
      refine WL.val0 (v := .int .i64 p1.A) rfl (rx (by kernel_rfl) (run_load1 Tryd.underlying3 rfl (m5 1 _ rfl))) ?_
      obtain ⟨x_22, h17, H⟩ := bs H
      refine WL.callP rfl (by kernel_rfl) (c_erase_Left O4 (R0.mono l6) ((hG.mono l6).le (by decide)) p0 p1.A (h2.mono l6) h17) ?_
      rintro v23 c22 l22 ⟨G18, O19, R20, rfl⟩
      refine WL.nil ?_
      refine bkn ?_
      obtain rfl := Option.some.inj H
      exact end0 rfl ⟨_, c22, rfl, rfl, (l6.trans l22), G18, O19, R20, rfl⟩
    · have H := ie h16 H
      refine sr ?_
      refine va (.bool (p1.Kind == 2)) ?_
      refine va (.bool (p1.Kind == 2)) ?_
      refine wln ?_
      refine W.cond (t := p1.Kind == 2) (by kernel_rfl) (fun h24 => ?_) (fun h24 => ?_)
      · have H := it h24 H
        refine W.region ?_
        refine va (v1) ?_
        refine va (.pointer (some ⟨b3, 0 + 1, none⟩)) ?_
        refine WL.val0 (v := .int .i64 p1.A) rfl (rx (by kernel_rfl) (run_load1 Tryd.underlying3 rfl (m5 1 _ rfl))) ?_
        obtain ⟨x_30, h25, H⟩ := bs H
        refine WL.callP rfl (by kernel_rfl) (c_erase_Right O4 (R0.mono l6) ((hG.mono l6).le (by decide)) p0 p1.A (h2.mono l6) h25) ?_
        rintro v31 c30 l30 ⟨G26, O27, R28, rfl⟩
        refine WL.nil ?_
        refine bkn ?_
        obtain rfl := Option.some.inj H
        exact end0 rfl ⟨_, c30, rfl, rfl, (l6.trans l30), G26, O27, R28, rfl⟩
      · have H := ie h24 H
        refine sr ?_
        refine va (.bool (p1.Kind == 3)) ?_
        refine va (.bool (p1.Kind == 3)) ?_
        refine wln ?_
        refine W.cond (t := p1.Kind == 3) (by kernel_rfl) (fun h32 => ?_) (fun h32 => ?_)
        · have H := it h32 H
          refine W.region ?_
          refine va (v1) ?_
          obtain ⟨x_36, h33, H⟩ := bs H
          refine WL.callP rfl (by kernel_rfl) (c_erase_All O4 (R0.mono l6) ((hG.mono l6).le (by decide)) p0 (h2.mono l6) h33) ?_
          rintro v39 c38 l38 ⟨G34, O35, R36, rfl⟩
          refine WL.nil ?_
          refine bkn ?_
          obtain rfl := Option.some.inj H
          exact end0 rfl ⟨_, c38, rfl, rfl, (l6.trans l38), G34, O35, R36, rfl⟩
        · have H := ie h32 H
          refine W.region ?_
          refine va (v1) ?_
          refine va (.pointer (some ⟨b3, 0 + 1, none⟩)) ?_
          refine WL.val0 (v := .int .i64 p1.A) rfl (rx (by kernel_rfl) (run_load1 Tryd.underlying3 rfl (m5 1 _ rfl))) ?_
          refine va (.pointer (some ⟨b3, 0 + 2, none⟩)) ?_
          refine WL.val0 (v := .int .i64 p1.B) rfl (rx (by kernel_rfl) (run_load1 Tryd.underlying3 rfl (m5 2 _ rfl))) ?_
          obtain ⟨x_43, h40, H⟩ := bs H
          refine WL.callP rfl (by kernel_rfl) (c_erase_Cells O4 (R0.mono l6) ((hG.mono l6).le (by decide)) p0 p1.A p1.B (h2.mono l6) h40) ?_
          rintro v46 c45 l45 ⟨G41, O42, R43, rfl⟩
          refine WL.nil ?_
          refine bkn ?_
          obtain rfl := Option.some.inj H
          exact end0 rfl ⟨_, c45, rfl, rfl, (l6.trans l45), G41, O42, R43, rfl⟩

def f_linotyperef26_Range (p0 : List G_api_Cell) (p1 : Bool) (p2 : Int) (p3 : Int) : Option ((List G_api_Cell) × Bool) :=
  if (decide ((imax 0 (imin p2 (p0.length : Int))) ≥ (imax 0 (imin p3 (p0.length : Int))))) = true then
  some (p0, p1)
  else
  (rep (w64 ((imax 0 (imin p3 (p0.length : Int))) - (imax 0 (imin p2 (p0.length : Int))))) (⟨0, ([] : List Int)⟩ : G_api_Cell)).bind fun x_33 =>
  (f_linotyperef24_Paint p0 p1 (imax 0 (imin p2 (p0.length : Int))) x_33).bind fun x_34 =>
  some (x_34.1, x_34.2)
theorem c_linotyperef26_Range {c0 : Cx} {G : Gm} {F : List En} {v1 : Value} (O0 : Own c0 G F) (p0 : List G_api_Cell) (p1 : Bool) (p2 : Int) (p3 : Int) {r : (List G_api_Cell) × Bool} (h2 : Sl R_api_Cell c0 v1 p0) (H : f_linotyperef26_Range p0 p1 p2 p3 = some r) :
    Calls Tryd.prog 106 #[v1, .bool p1, .int .i64 p2, .int .i64 p3] c0.w (Post c0 fun c v => ∃ y1 : Value, Own c G (F) ∧ v = .tuple #[y1, .bool r.2] ∧ Sl R_api_Cell c y1 r.1) := by
  unfold f_linotyperef26_Range at H
  refine enter (l := [v1, .bool p1, .int .i64 p2, .int .i64 p3]) Tryd.func106 rfl rfl rfl ?_
  refine sr ?_
  refine va (.slice none 0 0) ?_
  refine va (.bool false) ?_
  refine wln ?_
  refine sr ?_
  refine va (.int .i64 p2) ?_
  refine va (v1) ?_
  refine WL.val0 (v := .int .i64 (p0.length : Int)) rfl (rx (by kernel_rfl) (run_len (ty := 3) Tryd.underlying22 h2 _)) ?_
  refine va (.int .i64 (imin p2 (p0.length : Int))) ?_
  refine va (.int .i64 (imax 0 (imin p2 (p0.length : Int)))) ?_
  refine va (.int .i64 (imax 0 (imin p2 (p0.length : Int)))) ?_
  refine wln ?_
  refine sr ?_
  refine va (.int .i64 p3) ?_
  refine va (v1) ?_
  refine WL.val0 (v := .int .i64 (p0.length : Int)) rfl (rx (by kernel_rfl) (run_len (ty := 3) Tryd.underlying22 h2 _)) ?_
  refine va (.int .i64 (imin p3 (p0.length : Int))) ?_
  refine va (.int .i64 (imax 0 (imin p3 (p0.length : Int)))) ?_
  refine va (.int .i64 (imax 0 (imin p3 (p0.length : Int)))) ?_
  refine wln ?_
  refine W.seq ?_
  refine sr ?_
  refine va (.int .i64 (imax 0 (imin p2 (p0.length : Int)))) ?_
  refine va (.int .i64 (imax 0 (imin p3 (p0.length : Int)))) ?_
  refine va (.bool (decide ((imax 0 (imin p2 (p0.length : Int))) ≥ (imax 0 (imin p3 (p0.length : Int)))))) ?_
  refine wln ?_
  refine W.cond (t := decide ((imax 0 (imin p2 (p0.length : Int))) ≥ (imax 0 (imin p3 (p0.length : Int))))) (by kernel_rfl) (fun h3 => ?_) (fun h3 => ?_)
  · have H := it h3 H
    refine sr ?_
    refine va (v1) ?_
    refine va (.bool p1) ?_
    refine va (v1) ?_
    refine va (.bool p1) ?_
    refine wln ?_
    refine W.ret ?_
    refine thr ?_
    obtain rfl := Option.some.inj H
    exact ret2 (v := v1) (v' := .bool p1) rfl (by kernel_rfl) (by kernel_rfl) ⟨_, c0, rfl, rfl, Cx.le.refl _, v1, O0, rfl, h2⟩
  · have H := ie h3 H
    refine W.skip ?_
    refine nrm ?_
    refine sr ?_
    refine va (v1) ?_
    refine va (.bool p1) ?_
    refine va (.int .i64 (imax 0 (imin p2 (p0.length : Int)))) ?_
    refine va (.int .i64 (imax 0 (imin p3 (p0.length : Int)))) ?_
    refine va (.int .i64 (imax 0 (imin p2 (p0.length : Int)))) ?_
    refine va (.int .i64 (w64 ((imax 0 (imin p3 (p0.length : Int))) - (imax 0 (imin p2 (p0.length : Int)))))) ?_
    obtain ⟨x_33, h4, H⟩ := bs H
    refine WL.mem rfl (Own.mkS (kl := .i64) (kc := .i64) (R := R_api_Cell) (z := .agg #[.int .i64 0, .slice none 0 0]) (lz := [.int .i64 0, .slice none 0 0]) (x := (⟨0, ([] : List Int)⟩ : G_api_Cell)) (by_ := 32) (i := (w64 ((imax 0 (imin p3 (p0.length : Int))) - (imax 0 (imin p2 (p0.length : Int)))))) (j := (w64 ((imax 0 (imin p3 (p0.length : Int))) - (imax 0 (imin p2 (p0.length : Int)))))) true O0 (Nat.succ_pos _) h4 (Int.le_refl _) (rep_le h4) Tryd.underlying22 (by kernel_rfl) rfl rfl (fun _ => ⟨(.slice none 0 0), rfl, (Sl.nl _ _)⟩) (by kernel_rfl) (by kernel_rfl)) ?_
    rintro v9 c8 l8 ⟨u6, O5, h7⟩
    obtain ⟨c12, h13, l12, O10, h11⟩ := O5.frz 0 rfl h7
    refine WL.gh h13 ?_
    obtain ⟨x_34, h14, H⟩ := bs H
    refine WL.callP rfl (by kernel_rfl) (c_linotyperef24_Paint O10 p0 p1 (imax 0 (imin p2 (p0.length : Int))) x_33 (h2.mono (l8.trans l12)) h11 h14) ?_
    rintro v23 c22 l22 ⟨v15, u16, O19, rfl, h17⟩
    refine va (v15) ?_
    refine va (.bool x_34.2) ?_
    refine va (v15) ?_
    refine va (.bool x_34.2) ?_
    refine wln ?_
    refine W.ret ?_
    obtain rfl := Option.some.inj H
    obtain ⟨c26, h27, l26, O24, h25⟩ := O19.frz 0 rfl h17
    have O28 := O24.selD 2 [] (by kernel_rfl) (by kernel_rfl)
    refine bqgh h27 ?_
    exact ret2 (v := v15) (v' := .bool x_34.2) rfl (by kernel_rfl) (by kernel_rfl) ⟨_, c26, rfl, rfl, (l8.trans (l12.trans (l22.trans l26))), v15, O28, rfl, h25⟩

def f_linotyperef26_Act (p0 : List G_api_Cell) (p1 : Bool) (p2 : Int) (p3 : Int) (p4 : Int) : Option ((List G_api_Cell) × Bool) :=
  if (p2 == 0) = true then
  (f_linotyperef26_Range p0 p1 p3 p4).bind fun x_17 =>
  some (x_17.1, x_17.2)
  else
  if (p2 == 1) = true then
  if (decide (p3 < 0)) = true then
  some (p0, p1)
  else
  (f_linotyperef26_Range p0 p1 0 (w64 ((imin p3 (p0.length : Int)) + 1))).bind fun x_40 =>
  some (x_40.1, x_40.2)
  else
  if (p2 == 2) = true then
  (f_linotyperef26_Range p0 p1 p3 (p0.length : Int)).bind fun x_53 =>
  some (x_53.1, x_53.2)
  else
  if (p2 == 3) = true then
  (f_linotyperef26_Range p0 p1 0 (p0.length : Int)).bind fun x_65 =>
  some (x_65.1, false)
  else
  (orE (decide (p3 < 0)) (some (decide (p4 < 1)))).bind fun d_78 =>
  (orE d_78 (some (decide (p3 ≥ (p0.length : Int))))).bind fun d_82 =>
  if d_82 = true then
  some (p0, p1)
  else
  (f_linotyperef26_Range p0 p1 p3 (w64 (p3 + (imin p4 (p0.length : Int))))).bind fun x_101 =>
  some (x_101.1, x_101.2)
theorem c_linotyperef26_Act {c0 : Cx} {G : Gm} {F : List En} {v1 : Value} (O0 : Own c0 G F) (p0 : List G_api_Cell) (p1 : Bool) (p2 : Int) (p3 : Int) (p4 : Int) {r : (List G_api_Cell) × Bool} (h2 : Sl R_api_Cell c0 v1 p0) (H : f_linotyperef26_Act p0 p1 p2 p3 p4 = some r) :
    Calls Tryd.prog 32 #[v1, .bool p1, .int .i64 p2, .int .i64 p3, .int .i64 p4] c0.w (Post c0 fun c v => ∃ y1 : Value, Own c G (F) ∧ v = .tuple #[y1, .bool r.2] ∧ Sl R_api_Cell c y1 r.1) := by
  unfold f_linotyperef26_Act at H
  refine enter (l := [v1, .bool p1, .int .i64 p2, .int .i64 p3, .int .i64 p4]) Tryd.func32 rfl rfl rfl ?_
  refine sr ?_
  refine va (.slice none 0 0) ?_
  refine va (.bool false) ?_
  refine wln ?_
  refine sr ?_
  refine va (v1) ?_
  refine WL.val0 (v := .int .i64 (p0.length : Int)) rfl (rx (by kernel_rfl) (run_len (ty := 3) Tryd.underlying22 h2 _)) ?_
  refine va (.int .i64 (p0.length : Int)) ?_
  refine wln ?_
  refine W.seq ?_
  refine sr ?_
  refine va (.int .i64 p2) ?_
  refine wln ?_
  refine W.block ?_
  refine sr ?_
  refine va (.bool (p2 == 0)) ?_
  refine va (.bool (p2 == 0)) ?_
  refine wln ?_
  refine W.cond (t := p2 == 0) (by kernel_rfl) (fun h3 => ?_) (fun h3 => ?_)
  · have H := it h3 H
    refine sr ?_
    refine va (v1) ?_
    refine va (.bool p1) ?_
    refine va (.int .i64 p3) ?_
    refine va (.int .i64 p4) ?_
    obtain ⟨x_17, h4, H⟩ := bs H
    refine WL.callP rfl (by kernel_rfl) (c_linotyperef26_Range O0 p0 p1 p3 p4 h2 h4) ?_
    rintro v12 c11 l11 ⟨v5, O8, rfl, h6⟩
    refine va (v5) ?_
    refine va (.bool x_17.2) ?_
    refine va (v5) ?_
    refine va (.bool x_17.2) ?_
    refine wln ?_
    refine W.ret ?_
    refine bkr ?_
    refine thr ?_
    obtain rfl := Option.some.inj H
    exact ret2 (v := v5) (v' := .bool x_17.2) rfl (by kernel_rfl) (by kernel_rfl) ⟨_, c11, rfl, rfl, l11, v5, O8, rfl, h6⟩
  · have H := ie h3 H
    refine sr ?_
    refine va (.bool (p2 == 1)) ?_
    refine va (.bool (p2 == 1)) ?_
    refine wln ?_
    refine W.cond (t := p2 == 1) (by kernel_rfl) (fun h13 => ?_) (fun h13 => ?_)
    · have H := it h13 H
      refine W.seq ?_
      refine sr ?_
      refine va (.int .i64 p3) ?_
      refine va (.bool (decide (p3 < 0))) ?_
      refine wln ?_
      refine W.cond (t := decide (p3 < 0)) (by kernel_rfl) (fun h14 => ?_) (fun h14 => ?_)
      · have H := it h14 H
        refine sr ?_
        refine va (v1) ?_
        refine va (.bool p1) ?_
        refine va (v1) ?_
        refine va (.bool p1) ?_
        refine wln ?_
        refine W.ret ?_
        refine thr ?_
        refine bkr ?_
        refine thr ?_
        obtain rfl := Option.some.inj H
        exact ret2 (v := v1) (v' := .bool p1) rfl (by kernel_rfl) (by kernel_rfl) ⟨_, c0, rfl, rfl, Cx.le.refl _, v1, O0, rfl, h2⟩
      · have H := ie h14 H
        refine W.skip ?_
        refine nrm ?_
        refine sr ?_
        refine va (v1) ?_
        refine va (.bool p1) ?_
        refine va (.int .i64 p3) ?_
        refine va (.int .i64 (p0.length : Int)) ?_
        refine va (.int .i64 (imin p3 (p0.length : Int))) ?_
        refine va (.int .i64 (w64 ((imin p3 (p0.length : Int)) + 1))) ?_
        obtain ⟨x_40, h15, H⟩ := bs H
        refine WL.callP rfl (by kernel_rfl) (c_linotyperef26_Range O0 p0 p1 0 (w64 ((imin p3 (p0.length : Int)) + 1)) h2 h15) ?_
        rintro v23 c22 l22 ⟨v16, O19, rfl, h17⟩
        refine va (v16) ?_
        refine va (.bool x_40.2) ?_
        refine va (v16) ?_
        refine va (.bool x_40.2) ?_
        refine wln ?_
        refine W.ret ?_
        refine bkr ?_
        refine thr ?_
        obtain rfl := Option.some.inj H
        exact ret2 (v := v16) (v' := .bool x_40.2) rfl (by kernel_rfl) (by kernel_rfl) ⟨_, c22, rfl, rfl, l22, v16, O19, rfl, h17⟩
    · have H := ie h13 H
      refine sr ?_
      refine va (.bool (p2 == 2)) ?_
      refine va (.bool (p2 == 2)) ?_
      refine wln ?_
      refine W.cond (t := p2 == 2) (by kernel_rfl) (fun h24 => ?_) (fun h24 => ?_)
      · have H := it h24 H
        refine sr ?_
        refine va (v1) ?_
        refine va (.bool p1) ?_
        refine va (.int .i64 p3) ?_
        refine va (.int .i64 (p0.length : Int)) ?_
        obtain ⟨x_53, h25, H⟩ := bs H
        refine WL.callP rfl (by kernel_rfl) (c_linotyperef26_Range O0 p0 p1 p3 (p0.length : Int) h2 h25) ?_
        rintro v33 c32 l32 ⟨v26, O29, rfl, h27⟩
        refine va (v26) ?_
        refine va (.bool x_53.2) ?_
        refine va (v26) ?_
        refine va (.bool x_53.2) ?_
        refine wln ?_
        refine W.ret ?_
        refine bkr ?_
        refine thr ?_
        obtain rfl := Option.some.inj H
        exact ret2 (v := v26) (v' := .bool x_53.2) rfl (by kernel_rfl) (by kernel_rfl) ⟨_, c32, rfl, rfl, l32, v26, O29, rfl, h27⟩
      · have H := ie h24 H
        refine sr ?_
        refine va (.bool (p2 == 3)) ?_
        refine va (.bool (p2 == 3)) ?_
        refine wln ?_
        refine W.cond (t := p2 == 3) (by kernel_rfl) (fun h34 => ?_) (fun h34 => ?_)
        · have H := it h34 H
          refine sr ?_
          refine va (v1) ?_
          refine va (.bool p1) ?_
          refine va (.int .i64 (p0.length : Int)) ?_
          obtain ⟨x_65, h35, H⟩ := bs H
          refine WL.callP rfl (by kernel_rfl) (c_linotyperef26_Range O0 p0 p1 0 (p0.length : Int) h2 h35) ?_
          rintro v43 c42 l42 ⟨v36, O39, rfl, h37⟩
          refine va (.tuple #[v36, .bool x_65.2]) ?_
          refine va (v36) ?_
          refine va (.bool x_65.2) ?_
          refine va (v36) ?_
          refine va (.bool x_65.2) ?_
          refine wln ?_
          refine sr ?_
          refine va (v36) ?_
          refine va (v36) ?_
          refine va (.bool false) ?_
          refine wln ?_
          refine W.ret ?_
          refine bkr ?_
          refine thr ?_
          obtain rfl := Option.some.inj H
          exact ret2 (v := v36) (v' := .bool false) rfl (by kernel_rfl) (by kernel_rfl) ⟨_, c42, rfl, rfl, l42, v36, O39, rfl, h37⟩
        · have H := ie h34 H
          refine W.skip ?_
          refine bkn ?_
          refine nrm ?_
          refine W.seq ?_
          refine W.seq ?_
          obtain ⟨d_78, h44, H⟩ := bs H
          obtain ⟨d_82, h45, H⟩ := bs H
          refine W.join (fun e w => ∃ (c : Cx) (g : Nat → Value), w = c.w ∧ c0.le c ∧ Own c G (F) ∧ e = ups g [(0, v1), (1, .bool p1), (3, .int .i64 p3), (4, .int .i64 p4), (12, .int .i64 (p0.length : Int)), (71, .bool d_82)]) ?_ ?_
          · clear H
            refine W.region ?_
            refine va (.int .i64 p3) ?_
            refine va (.bool (decide (p3 < 0))) ?_
            rcases Bool.eq_false_or_eq_true (decide (p3 < 0)) with h46 | h46
            · skip
              obtain rfl := orT h46 h44
              refine vb h46 ?_
              refine ps ?_
              refine ps ?_
              refine va (.bool true) ?_
              have h47 : true = true := rfl
              obtain rfl := orT h47 h45
              refine vb h47 ?_
              refine ps ?_
              refine ps ?_
              refine ps ?_
              refine va (.bool true) ?_
              refine wln ?_
              exact ⟨c0, _, rfl, (Cx.le.refl _), O0, ups_self ⟨rfl, rfl, rfl, rfl, rfl, rfl, trivial⟩⟩
            · skip
              have H48 := orF h46 h44
              refine vb h46 ?_
              refine wn ?_
              refine va (.int .i64 p4) ?_
              refine wn ?_
              refine va (.bool (decide (p4 < 1))) ?_
              obtain rfl := Option.some.inj H48
              refine va (.bool (decide (p4 < 1))) ?_
              rcases Bool.eq_false_or_eq_true (decide (p4 < 1)) with h49 | h49
              · skip
                obtain rfl := orT h49 h45
                refine vb h49 ?_
                refine ps ?_
                refine ps ?_
                refine ps ?_
                refine va (.bool true) ?_
                refine wln ?_
                exact ⟨c0, _, rfl, (Cx.le.refl _), O0, ups_self ⟨rfl, rfl, rfl, rfl, rfl, rfl, trivial⟩⟩
              · skip
                have H50 := orF h49 h45
                refine vb h49 ?_
                refine wn ?_
                refine va (.int .i64 p3) ?_
                refine wn ?_
                refine va (.int .i64 (p0.length : Int)) ?_
                refine wn ?_
                refine va (.bool (decide (p3 ≥ (p0.length : Int)))) ?_
                obtain rfl := Option.some.inj H50
                refine va (.bool (decide (p3 ≥ (p0.length : Int)))) ?_
                refine wln ?_
                exact ⟨c0, _, rfl, (Cx.le.refl _), O0, ups_self ⟨rfl, rfl, rfl, rfl, rfl, rfl, trivial⟩⟩
          · skip
            rintro e_ w_ ⟨c51, g52, rfl, l51, O53, rfl⟩
            refine nrm ?_
            refine W.cond (t := d_82) (by kernel_rfl) (fun h57 => ?_) (fun h57 => ?_)
            · have H := it h57 H
              refine sr ?_
              refine va (v1) ?_
              refine va (.bool p1) ?_
              refine va (v1) ?_
              refine va (.bool p1) ?_
              refine wln ?_
              refine W.ret ?_
              refine thr ?_
              obtain rfl := Option.some.inj H
              exact ret2 (v := v1) (v' := .bool p1) rfl (by kernel_rfl) (by kernel_rfl) ⟨_, c51, rfl, rfl, l51, v1, O53, rfl, (h2.mono l51)⟩
            · have H := ie h57 H
              refine W.skip ?_
              refine nrm ?_
              refine sr ?_
              refine va (v1) ?_
              refine va (.bool p1) ?_
              refine va (.int .i64 p3) ?_
              refine va (.int .i64 p3) ?_
              refine va (.int .i64 p4) ?_
              refine va (.int .i64 (p0.length : Int)) ?_
              refine va (.int .i64 (imin p4 (p0.length : Int))) ?_
              refine va (.int .i64 (w64 (p3 + (imin p4 (p0.length : Int))))) ?_
              obtain ⟨x_101, h58, H⟩ := bs H
              refine WL.callP rfl (by kernel_rfl) (c_linotyperef26_Range O53 p0 p1 p3 (w64 (p3 + (imin p4 (p0.length : Int)))) (h2.mono l51) h58) ?_
              rintro v66 c65 l65 ⟨v59, O62, rfl, h60⟩
              refine va (v59) ?_
              refine va (.bool x_101.2) ?_
              refine va (v59) ?_
              refine va (.bool x_101.2) ?_
              refine wln ?_
              refine W.ret ?_
              obtain rfl := Option.some.inj H
              exact ret2 (v := v59) (v' := .bool x_101.2) rfl (by kernel_rfl) (by kernel_rfl) ⟨_, c65, rfl, rfl, (l51.trans l65), v59, O62, rfl, h60⟩

def f_linotypelaw26_ErasePlays (sg : Sto) (p0 : List G_api_Cell) (p1 : Bool) (p2 : List G_linotypelaw26_Act) : Option (Sto × Bool) :=
  (f_linotypelaw26_works sg).bind fun x_3 =>
  (orE (!x_3.2) (some (decide ((p0.length : Int) > 60)))).bind fun d_5 =>
  (orE d_5 (some ((p0.length : Int) == 0))).bind fun d_10 =>
  (orE d_10 ((f_linotyperef23_Sound p0).bind fun x_18 =>
  some (!x_18))).bind fun d_15 =>
  (orE d_15 (some (decide ((p2.length : Int) > 60)))).bind fun d_20 =>
  if d_20 = true then
  (f_linotypelaw26_works x_3.1).bind fun x_26 =>
  some (x_26.1, x_26.2)
  else
  (f_row_Of x_3.1 p0).bind fun x_30 =>
  if (!x_30.2.2.isNil) = true then
  some (x_30.1, false)
  else
  (f_row_Row_GoOn x_30.1 x_30.2.1 p1).bind fun x_44 =>
  (iter (σ := (List G_api_Cell) × Bool × Int × Sto) (τ := (Sto × Bool) ⊕ Sto) (((p2.length : Int) - 0).toNat + 1) (fun s_51 =>
  if (decide (s_51.2.2.1 < (p2.length : Int))) = true then
  (idx p2 s_51.2.2.1).bind fun x_60 =>
  (f_linotypelaw26_do s_51.2.2.2 x_30.2.1 x_60).bind fun x_62 =>
  (idx p2 s_51.2.2.1).bind fun x_68 =>
  (idx p2 s_51.2.2.1).bind fun x_73 =>
  (idx p2 s_51.2.2.1).bind fun x_78 =>
  (f_linotyperef26_Act s_51.1 s_51.2.1 x_68.Kind x_73.A x_78.B).bind fun x_81 =>
  (f_row_Row_Cells x_62 x_30.2.1).bind fun x_89 =>
  (f_linotyperef23_Same x_89 x_81.1).bind fun x_91 =>
  (orE (!x_91) ((f_row_Row_Wrap x_62 x_30.2.1).bind fun x_96 =>
  some (!(x_96 == x_81.2)))).bind fun d_93 =>
  if d_93 = true then
  some (.inr (.inl (x_62, false)))
  else
  (idx p2 s_51.2.2.1).bind fun x_104 =>
  (f_linotypelaw26_do x_62 (none : Option Nat) x_104).bind fun x_106 =>
  some (.inl (x_81.1, x_81.2, (w64 (s_51.2.2.1 + 1)), x_106))
  else
  some (.inr (.inr (s_51.2.2.2)))) (p0, p1, 0, x_44)).bind fun o_51 =>
  match o_51 with
  | .inl o_51 =>
  some o_51
  | .inr o_51 =>
  some (o_51, true)
theorem c_linotypelaw26_ErasePlays {c0 : Cx} {G : Gm} {F : List En} {sg : Sto} {v1 : Value} {v3 : Value} (O0 : Own c0 G F) (R0 : Rel c0 sg G) (hG : Gl [0, 1] c0) (p0 : List G_api_Cell) (p1 : Bool) (p2 : List G_linotypelaw26_Act) {r : Sto × Bool} (h2 : Sl R_api_Cell c0 v1 p0) (h4 : Sl R_linotypelaw26_Act c0 v3 p2) (H : f_linotypelaw26_ErasePlays sg p0 p1 p2 = some r) :
    Calls Tryd.prog 5 #[v1, .bool p1, v3] c0.w (Post c0 fun c v => ∃ G_ : Gm, Own c G_ (F) ∧ Rel c r.1 G_ ∧ v = .bool r.2) := by
  unfold f_linotypelaw26_ErasePlays at H
  refine enter (l := [v1, .bool p1, v3]) Tryd.func5 rfl rfl rfl ?_
  refine sr ?_
  refine va (.bool false) ?_
  refine wln ?_
  refine W.seq ?_
  refine W.seq ?_
  obtain ⟨x_3, h5, H⟩ := bs H
  obtain ⟨d_5, h6, H⟩ := bs H
  obtain ⟨d_10, h7, H⟩ := bs H
  obtain ⟨d_15, h8, H⟩ := bs H
  obtain ⟨d_20, h9, H⟩ := bs H
  refine W.join (fun e w => ∃ (c : Cx) (g : Nat → Value) (G_ : Gm), w = c.w ∧ c0.le c ∧ Own c G_ (F) ∧ e = ups g [(0, v1), (1, .bool p1), (2, v3), (32, .bool d_20)] ∧ Rel c x_3.1 G_) ?_ ?_
  · clear H
    refine W.region ?_
    refine WL.callP rfl (by kernel_rfl) (c_linotypelaw26_works O0 R0 (hG.le (by decide)) h5) ?_
    rintro v15 c14 l14 ⟨G10, O11, R12, rfl⟩
    refine va (.bool (!x_3.2)) ?_
    rcases Bool.eq_false_or_eq_true (!x_3.2) with h16 | h16
    · skip
      obtain rfl := orT h16 h6
      refine vb h16 ?_
      refine ps ?_
      refine ps ?_
      refine ps ?_
      refine va (.bool true) ?_
      have h17 : true = true := rfl
      obtain rfl := orT h17 h7
      refine vb h17 ?_
      refine ps ?_
      refine ps ?_
      refine ps ?_
      refine va (.bool true) ?_
      have h18 : true = true := rfl
      obtain rfl := orT h18 h8
      refine vb h18 ?_
      refine ps ?_
      refine ps ?_
      refine ps ?_
      refine va (.bool true) ?_
      have h19 : true = true := rfl
      obtain rfl := orT h19 h9
      refine vb h19 ?_
      refine ps ?_
      refine ps ?_
      refine ps ?_
      refine va (.bool true) ?_
      refine wln ?_
      exact ⟨c14, _, G10, rfl, l14, O11, ups_self ⟨rfl, rfl, rfl, rfl, trivial⟩, R12⟩
    · skip
      have H20 := orF h16 h6
      refine vb h16 ?_
      refine wn ?_
      refine va (v1) ?_
      refine wn ?_
      refine WL.val0 (v := .int .i64 (p0.length : Int)) rfl (rx (by kernel_rfl) (run_len (ty := 3) Tryd.underlying22 (h2.mono l14) _)) ?_
      refine wn ?_
      refine va (.bool (decide ((p0.length : Int) > 60))) ?_
      obtain rfl := Option.some.inj H20
      refine va (.bool (decide ((p0.length : Int) > 60))) ?_
      rcases Bool.eq_false_or_eq_true (decide ((p0.length : Int) > 60)) with h21 | h21
      · skip
        obtain rfl := orT h21 h7
        refine vb h21 ?_
        refine ps ?_
        refine ps ?_
        refine ps ?_
        refine va (.bool true) ?_
        have h22 : true = true := rfl
        obtain rfl := orT h22 h8
        refine vb h22 ?_
        refine ps ?_
        refine ps ?_
        refine ps ?_
        refine va (.bool true) ?_
        have h23 : true = true := rfl
        obtain rfl := orT h23 h9
        refine vb h23 ?_
        refine ps ?_
        refine ps ?_
        refine ps ?_
        refine va (.bool true) ?_
        refine wln ?_
        exact ⟨c14, _, G10, rfl, l14, O11, ups_self ⟨rfl, rfl, rfl, rfl, trivial⟩, R12⟩
      · skip
        have H24 := orF h21 h7
        refine vb h21 ?_
        refine wn ?_
        refine va (v1) ?_
        refine wn ?_
        refine WL.val0 (v := .int .i64 (p0.length : Int)) rfl (rx (by kernel_rfl) (run_len (ty := 3) Tryd.underlying22 (h2.mono l14) _)) ?_
        refine wn ?_
        refine va (.bool ((p0.length : Int) == 0)) ?_
        obtain rfl := Option.some.inj H24
        refine va (.bool ((p0.length : Int) == 0)) ?_
        rcases Bool.eq_false_or_eq_true ((p0.length : Int) == 0) with h25 | h25
        · skip
          obtain rfl := orT h25 h8
          refine vb h25 ?_
          refine ps ?_
          refine ps ?_
          refine ps ?_
          refine va (.bool true) ?_
          have h26 : true = true := rfl
          obtain rfl := orT h26 h9
          refine vb h26 ?_
          refine ps ?_
          refine ps ?_
          refine ps ?_
          refine va (.bool true) ?_
          refine wln ?_
          exact ⟨c14, _, G10, rfl, l14, O11, ups_self ⟨rfl, rfl, rfl, rfl, trivial⟩, R12⟩
        · skip
          have H27 := orF h25 h8
          refine vb h25 ?_
          refine wn ?_
          refine va (v1) ?_
          refine wn ?_
          obtain ⟨x_18, h28, H27⟩ := bs H27
          refine WL.callP rfl (by kernel_rfl) (c_linotyperef23_Sound O11 p0 (h2.mono l14) h28) ?_
          rintro v34 c33 l33 ⟨O30, rfl⟩
          refine wn ?_
          refine va (.bool (!x_18)) ?_
          obtain rfl := Option.some.inj H27
          refine va (.bool (!x_18)) ?_
          rcases Bool.eq_false_or_eq_true (!x_18) with h35 | h35
          · skip
            obtain rfl := orT h35 h9
            refine vb h35 ?_
            refine ps ?_
            refine ps ?_
            refine ps ?_
            refine va (.bool true) ?_
            refine wln ?_
            exact ⟨c33, _, G10, rfl, (l14.trans l33), O30, ups_self ⟨rfl, rfl, rfl, rfl, trivial⟩, (R12.mono l33)⟩
          · skip
            have H36 := orF h35 h9
            refine vb h35 ?_
            refine wn ?_
            refine va (v3) ?_
            refine wn ?_
            refine WL.val0 (v := .int .i64 (p2.length : Int)) rfl (rx (by kernel_rfl) (run_len (ty := 3) Tryd.underlying39 (h4.mono (l14.trans l33)) _)) ?_
            refine wn ?_
            refine va (.bool (decide ((p2.length : Int) > 60))) ?_
            obtain rfl := Option.some.inj H36
            refine va (.bool (decide ((p2.length : Int) > 60))) ?_
            refine wln ?_
            exact ⟨c33, _, G10, rfl, (l14.trans l33), O30, ups_self ⟨rfl, rfl, rfl, rfl, trivial⟩, (R12.mono l33)⟩
  · skip
    rintro e_ w_ ⟨c37, g38, G40, rfl, l37, O39, rfl, R41⟩
    refine nrm ?_
    refine W.cond (t := d_20) (by kernel_rfl) (fun h43 => ?_) (fun h43 => ?_)
    · have H := it h43 H
      refine sr ?_
      obtain ⟨x_26, h44, H⟩ := bs H
      refine WL.callP rfl (by kernel_rfl) (c_linotypelaw26_works O39 R41 ((hG.mono l37).le (by decide)) h44) ?_
      rintro v50 c49 l49 ⟨G45, O46, R47, rfl⟩
      refine va (.bool x_26.2) ?_
      refine wln ?_
      refine W.ret ?_
      refine thr ?_
      obtain rfl := Option.some.inj H
      exact ret1 (v := .bool x_26.2) rfl (by kernel_rfl) ⟨_, c49, rfl, rfl, (l37.trans l49), G45, O46, R47, rfl⟩
    · have H := ie h43 H
      refine W.skip ?_
      refine nrm ?_
      refine sr ?_
      refine va (v1) ?_
      obtain ⟨x_30, h51, H⟩ := bs H
      refine WL.callP rfl (by kernel_rfl) (c_row_Of O39 R41 ((hG.mono l37).le (by decide)) p0 (h2.mono l37) h51) ?_
      rintro v61 c60 l60 ⟨v52, v54, G56, O57, R58, rfl, h53, h55⟩
      refine va (.tuple #[v52, v54]) ?_
      refine va (v52) ?_
      refine va (v54) ?_
      refine va (v52) ?_
      refine va (v54) ?_
      refine wln ?_
      refine W.seq ?_
      refine sr ?_
      refine va (v54) ?_
      refine WL.val0 (v := .bool (!x_30.2.2.isNil)) rfl (by rcases (h55).cs with ⟨h1_, h2_⟩ | ⟨b_, h1_, h2_⟩ | ⟨b_, h1_, h2_⟩ <;> (subst h1_; rw [h2_]; kernel_rfl)) ?_
      refine wln ?_
      refine W.cond (t := !x_30.2.2.isNil) (by kernel_rfl) (fun h62 => ?_) (fun h62 => ?_)
      · have H := it h62 H
        refine sr ?_
        refine va (.bool false) ?_
        refine wln ?_
        refine W.ret ?_
        refine thr ?_
        obtain rfl := Option.some.inj H
        exact ret1 (v := .bool false) rfl (by kernel_rfl) ⟨_, c60, rfl, rfl, (l37.trans l60), G56, O57, R58, rfl⟩
      · have H := ie h62 H
        refine W.skip ?_
        refine nrm ?_
        refine sr ?_
        refine va (v52) ?_
        refine va (.bool p1) ?_
        obtain ⟨x_44, h63, H⟩ := bs H
        refine WL.callP rfl (by kernel_rfl) (c_row_Row_GoOn O57 R58 x_30.2.1 p1 h53 h63) ?_
        rintro v69 c68 l68 ⟨G64, O65, R66, rfl⟩
        refine wln ?_
        refine sr ?_
        refine va (.bool p1) ?_
        refine va (.bool p1) ?_
        refine wln ?_
        refine W.seq ?_
        refine sr ?_
        refine va (.int .i64 0) ?_
        refine wln ?_
        refine W.block ?_
        obtain ⟨o_51, h70, H71⟩ := bs H
        refine W.loop (σ := (List G_api_Cell) × Bool × Int × Sto) (τ := (Sto × Bool) ⊕ Sto) (fun s_51 => fun e w => ∃ (c : Cx) (g : Nat → Value) (v72 : Value) (G_ : Gm), w = c.w ∧ c68.le c ∧ Own c G_ (F) ∧ e = ups g [(0, v72), (2, v3), (7, v52), (9, .bool s_51.2.1), (10, .int .i64 s_51.2.2.1)] ∧ Rel c s_51.2.2.2 G_ ∧ Sl R_api_Cell c v72 s_51.1) (fun t => match t with | .inl x_ => (fun rr_ ex e w => ex = .ret ∧ (fun e w => ∃ (c : Cx) (g : Nat → Value) (G_ : Gm), w = c.w ∧ c68.le c ∧ Own c G_ (F) ∧ e = ups g [(6, .bool rr_.2)] ∧ Rel c rr_.1 G_) e w) x_ | .inr x_ => (fun o_51_ ex e w => ex = .exit 0 ∧ (fun e w => ∃ (c : Cx) (g : Nat → Value) (G_ : Gm), w = c.w ∧ c68.le c ∧ Own c G_ (F) ∧ e = ups g [] ∧ Rel c o_51_ G_) e w) x_) ?_ h70 ?_ ?_
        · clear H71 h70
          intro s_51 xx_ ee_ ww_ H
          revert ee_ ww_
          rintro e_ w_ ⟨c73, g74, v72, G77, rfl, l73, O75, rfl, R78, h76⟩
          refine W.seq ?_
          refine sr ?_
          refine va (.int .i64 s_51.2.2.1) ?_
          refine va (v3) ?_
          refine WL.val0 (v := .int .i64 (p2.length : Int)) rfl (rx (by kernel_rfl) (run_len (ty := 3) Tryd.underlying39 (h4.mono (l37.trans (l60.trans (l68.trans l73)))) _)) ?_
          refine va (.bool (decide (s_51.2.2.1 < (p2.length : Int)))) ?_
          refine wln ?_
          refine W.cond (t := decide (s_51.2.2.1 < (p2.length : Int))) (by kernel_rfl) (fun h80 => ?_) (fun h80 => ?_)
          · have H := it h80 H
            refine W.skip ?_
            refine nrm ?_
            refine W.seq ?_
            refine W.block ?_
            refine sr ?_
            refine va (v52) ?_
            refine va (v3) ?_
            refine va (.int .i64 s_51.2.2.1) ?_
            obtain ⟨x_60, h81, H⟩ := bs H
            obtain ⟨l_82, h83, m84⟩ := Sl.at (h4.mono (l37.trans (l60.trans (l68.trans l73)))) (idx_get h81)
            obtain rfl := h83
            refine WL.val0 (v := .pointer (some ⟨sb v3, so v3 + s_51.2.2.1.toNat * 3, none⟩)) rfl (rx (by kernel_rfl) (run_index (k := .i64) Tryd.underlying39 (by kernel_rfl) (h4.mono (l37.trans (l60.trans (l68.trans l73)))) h81 _)) ?_
            refine WL.val0 (v := .agg #[.int .i64 x_60.Kind, .int .i64 x_60.A, .int .i64 x_60.B]) rfl (rx (by kernel_rfl) (run_loadN (T := 43) (by kernel_rfl) (by kernel_rfl) m84)) ?_
            obtain ⟨x_62, h85, H⟩ := bs H
            refine WL.callP rfl (by kernel_rfl) (c_linotypelaw26_do O75 R78 ((hG.mono (l37.trans (l60.trans (l68.trans l73)))).le (by decide)) x_30.2.1 x_60 (h53.mono (l68.trans l73)) h85) ?_
            rintro v91 c90 l90 ⟨G86, O87, R88, rfl⟩
            refine wln ?_
            refine W.seq ?_
            refine W.regionD [] (Kp G0 []) O87 (by kernel_rfl) ?_
            intro c92 l92 O93
            have p94 : Kp G0 [] c92 := Kp.nil0
            refine ta 0 (v72) ?_
            refine ta 1 (.bool s_51.2.1) ?_
            refine ta 2 (v3) ?_
            refine ta 3 (.int .i64 s_51.2.2.1) ?_
            obtain ⟨x_68, h95, H⟩ := bs H
            obtain ⟨l_96, h97, m98⟩ := Sl.at (h4.mono (l37.trans (l60.trans (l68.trans (l73.trans (l90.trans l92)))))) (idx_get h95)
            obtain rfl := h97
            refine AC.take 4 (.pointer (some ⟨sb v3, so v3 + s_51.2.2.1.toNat * 3, none⟩)) rfl (by kernel_rfl) (by kernel_rfl) (fun c' hle => (rx (by kernel_rfl) (run_index (k := .i64) Tryd.underlying39 (by kernel_rfl) (h4.mono (l37.trans (l60.trans (l68.trans (l73.trans (l90.trans l92)))))) h95 _))) ?_
            refine ta 5 (.pointer (some ⟨sb v3, so v3 + s_51.2.2.1.toNat * 3, none⟩)) ?_
            refine AC.take 6 (.int .i64 x_68.Kind) rfl (by kernel_rfl) (by kernel_rfl) (fun c' hle => (rx (by kernel_rfl) (run_load1 Tryd.underlying3 rfl ((fun j u hu => (m98 j u hu).mono hle) 0 _ rfl)))) ?_
            refine ta 7 (v3) ?_
            refine ta 8 (.int .i64 s_51.2.2.1) ?_
            obtain ⟨x_73, h99, H⟩ := bs H
            obtain ⟨l_100, h101, m102⟩ := Sl.at (h4.mono (l37.trans (l60.trans (l68.trans (l73.trans (l90.trans l92)))))) (idx_get h99)
            obtain rfl := h101
            refine AC.take 9 (.pointer (some ⟨sb v3, so v3 + s_51.2.2.1.toNat * 3, none⟩)) rfl (by kernel_rfl) (by kernel_rfl) (fun c' hle => (rx (by kernel_rfl) (run_index (k := .i64) Tryd.underlying39 (by kernel_rfl) (h4.mono (l37.trans (l60.trans (l68.trans (l73.trans (l90.trans l92)))))) h99 _))) ?_
            refine ta 10 (.pointer (some ⟨sb v3, so v3 + s_51.2.2.1.toNat * 3 + 1, none⟩)) ?_
            refine AC.take 11 (.int .i64 x_73.A) rfl (by kernel_rfl) (by kernel_rfl) (fun c' hle => (rx (by kernel_rfl) (run_load1 Tryd.underlying3 rfl ((fun j u hu => (m102 j u hu).mono hle) 1 _ rfl)))) ?_
            refine ta 12 (v3) ?_
            refine ta 13 (.int .i64 s_51.2.2.1) ?_
            obtain ⟨x_78, h103, H⟩ := bs H
            obtain ⟨l_104, h105, m106⟩ := Sl.at (h4.mono (l37.trans (l60.trans (l68.trans (l73.trans (l90.trans l92)))))) (idx_get h103)
            obtain rfl := h105
            refine AC.take 14 (.pointer (some ⟨sb v3, so v3 + s_51.2.2.1.toNat * 3, none⟩)) rfl (by kernel_rfl) (by kernel_rfl) (fun c' hle => (rx (by kernel_rfl) (run_index (k := .i64) Tryd.underlying39 (by kernel_rfl) (h4.mono (l37.trans (l60.trans (l68.trans (l73.trans (l90.trans l92)))))) h103 _))) ?_
            refine ta 15 (.pointer (some ⟨sb v3, so v3 + s_51.2.2.1.toNat * 3 + 2, none⟩)) ?_
            refine AC.take 16 (.int .i64 x_78.B) rfl (by kernel_rfl) (by kernel_rfl) (fun c' hle => (rx (by kernel_rfl) (run_load1 Tryd.underlying3 rfl ((fun j u hu => (m106 j u hu).mono hle) 2 _ rfl)))) ?_
            obtain ⟨x_81, h107, H⟩ := bs H
            refine AC.one 17 (by kernel_rfl) (Go1.callP 17 rfl (by kernel_rfl) (by kernel_rfl) (by kernel_rfl) (c_linotyperef26_Act O93 s_51.1 s_51.2.1 x_68.Kind x_73.A x_78.B (h76.mono (l90.trans l92)) h107) ?_)
            rintro v115 c114 l114 ⟨v108, O111, rfl, h109⟩
            have p116 : Kp G0 [] c114 := Kp.nil0
            refine ⟨.inr p116, ?_⟩
            refine ta 18 (.tuple #[v108, .bool x_81.2]) ?_
            refine ta 19 (v108) ?_
            refine ta 20 (.bool x_81.2) ?_
            refine ta 21 (v108) ?_
            refine ta 22 (.bool x_81.2) ?_
            refine AC.done (by kernel_rfl) ?_
            refine nrm ?_
            refine W.seq ?_
            refine W.seq ?_
            obtain ⟨x_89, h117, H⟩ := bs H
            obtain ⟨x_91, h118, H⟩ := bs H
            obtain ⟨d_93, h119, H⟩ := bs H
            refine W.join (fun e w => ∃ (c : Cx) (g : Nat → Value) (v120 : Value) (u121 : List Value), w = c.w ∧ c114.le c ∧ Own c G86 (es false R_api_Cell v120 27 u121 x_89 :: F) ∧ e = ups g [(0, v108), (2, v3), (7, v52), (9, .bool x_81.2), (10, .int .i64 s_51.2.2.1), (88, .bool d_93)] ∧ OA R_api_Cell c v120 u121 x_89) ?_ ?_
            · clear H
              refine W.region ?_
              refine va (v52) ?_
              refine WL.callP rfl (by kernel_rfl) (c_row_Row_Cells O111 (R88.mono (l92.trans l114)) x_30.2.1 (h53.mono (l68.trans (l73.trans (l90.trans (l92.trans l114))))) h117) ?_
              rintro v122 c129 l129 ⟨_, u123, O126, rfl, h124⟩
              refine va (v108) ?_
              obtain ⟨c133, h134, l133, O131, h132⟩ := O126.frz 0 rfl h124
              refine WL.gh h134 ?_
              refine WL.callP rfl (by kernel_rfl) (c_linotyperef23_Same O131 x_89 x_81.1 h132 (h109.mono (l129.trans l133)) h118) ?_
              rintro v140 c139 l139 ⟨O136, rfl⟩
              refine va (.bool (!x_91)) ?_
              rcases Bool.eq_false_or_eq_true (!x_91) with h141 | h141
              · skip
                obtain rfl := orT h141 h119
                refine vb h141 ?_
                refine ps ?_
                refine ps ?_
                refine ps ?_
                refine ps ?_
                refine va (.bool true) ?_
                refine wln ?_
                exact ⟨c139, _, v122, u123, rfl, (l129.trans (l133.trans l139)), O136, ups_self ⟨rfl, rfl, rfl, rfl, rfl, rfl, trivial⟩, (h124.mono (l133.trans l139))⟩
              · skip
                have H142 := orF h141 h119
                refine vb h141 ?_
                refine wn ?_
                refine va (v52) ?_
                refine wn ?_
                obtain ⟨x_96, h143, H142⟩ := bs H142
                refine WL.callP rfl (by kernel_rfl) (c_row_Row_Wrap O136 (R88.mono (l92.trans (l114.trans (l129.trans (l133.trans l139))))) x_30.2.1 (h53.mono (l68.trans (l73.trans (l90.trans (l92.trans (l114.trans (l129.trans (l133.trans l139)))))))) h143) ?_
                rintro v149 c148 l148 ⟨O145, rfl⟩
                refine wn ?_
                refine va (.bool x_81.2) ?_
                refine wn ?_
                refine va (.bool (!(x_96 == x_81.2))) ?_
                obtain rfl := Option.some.inj H142
                refine va (.bool (!(x_96 == x_81.2))) ?_
                refine wln ?_
                exact ⟨c148, _, v122, u123, rfl, (l129.trans (l133.trans (l139.trans l148))), O145, ups_self ⟨rfl, rfl, rfl, rfl, rfl, rfl, trivial⟩, (h124.mono (l133.trans (l139.trans l148)))⟩
            · skip
              rintro e_ w_ ⟨c150, g151, v120, u121, rfl, l150, O152, rfl, h153⟩
              refine nrm ?_
              refine W.cond (t := d_93) (by kernel_rfl) (fun h157 => ?_) (fun h157 => ?_)
              · have H := it h157 H
                refine sr ?_
                refine va (.bool false) ?_
                refine wln ?_
                refine W.ret ?_
                refine thr ?_
                refine bkr ?_
                refine thr ?_
                obtain rfl := Option.some.inj H
                refine ⟨_, rfl, ?_⟩
                refine ⟨rfl, ?_⟩
                have O158 := O152.selD 1 [] (by kernel_rfl) (by kernel_rfl)
                exact ⟨c150, _, G86, rfl, (l73.trans (l90.trans (l92.trans (l114.trans l150)))), O158, ups_self ⟨rfl, trivial⟩, (R88.mono (l92.trans (l114.trans l150)))⟩
              · have H := ie h157 H
                refine W.skip ?_
                refine nrm ?_
                refine W.region ?_
                refine va (v3) ?_
                refine va (.int .i64 s_51.2.2.1) ?_
                obtain ⟨x_104, h159, H⟩ := bs H
                obtain ⟨l_160, h161, m162⟩ := Sl.at (h4.mono (l37.trans (l60.trans (l68.trans (l73.trans (l90.trans (l92.trans (l114.trans l150)))))))) (idx_get h159)
                obtain rfl := h161
                refine WL.val0 (v := .pointer (some ⟨sb v3, so v3 + s_51.2.2.1.toNat * 3, none⟩)) rfl (rx (by kernel_rfl) (run_index (k := .i64) Tryd.underlying39 (by kernel_rfl) (h4.mono (l37.trans (l60.trans (l68.trans (l73.trans (l90.trans (l92.trans (l114.trans l150)))))))) h159 _)) ?_
                refine WL.val0 (v := .agg #[.int .i64 x_104.Kind, .int .i64 x_104.A, .int .i64 x_104.B]) rfl (rx (by kernel_rfl) (run_loadN (T := 43) (by kernel_rfl) (by kernel_rfl) m162)) ?_
                obtain ⟨x_106, h163, H⟩ := bs H
                refine WL.callP rfl (by kernel_rfl) (c_linotypelaw26_do O152 (R88.mono (l92.trans (l114.trans l150))) ((hG.mono (l37.trans (l60.trans (l68.trans (l73.trans (l90.trans (l92.trans (l114.trans l150)))))))).le (by decide)) (none : Option Nat) x_104 rfl h163) ?_
                rintro v169 c168 l168 ⟨G164, O165, R166, rfl⟩
                refine WL.nil ?_
                refine bkn ?_
                refine nrm ?_
                refine W.region ?_
                refine va (.int .i64 s_51.2.2.1) ?_
                refine va (.int .i64 (w64 (s_51.2.2.1 + 1))) ?_
                refine va (.int .i64 (w64 (s_51.2.2.1 + 1))) ?_
                refine WL.nil ?_
                obtain rfl := Option.some.inj H
                refine ⟨_, rfl, ?_⟩
                have O170 := O165.selD 1 [] (by kernel_rfl) (by kernel_rfl)
                exact ⟨c168, _, v108, G164, rfl, (l73.trans (l90.trans (l92.trans (l114.trans (l150.trans l168))))), O170, ups_self ⟨rfl, rfl, rfl, rfl, rfl, trivial⟩, R166, (h109.mono (l150.trans l168))⟩
          · have H := ie h80 H
            refine W.exit ?_
            refine thx ?_
            obtain rfl := Option.some.inj H
            refine ⟨_, rfl, rfl, ?_⟩
            exact ⟨c73, _, G77, rfl, l73, O75, ups_self trivial, R78⟩
        · skip
          exact ⟨c68, _, v1, G64, rfl, (Cx.le.refl _), O65, ups_self ⟨rfl, rfl, rfl, rfl, rfl, trivial⟩, R66, (h2.mono (l37.trans (l60.trans l68)))⟩
        · skip
          rcases o_51 with o_51 | o_51
          · skip
            intro ex_; revert ex_
            rintro _ e_ w_ ⟨rfl, c171, g172, G174, rfl, l171, O173, rfl, R175⟩
            refine bkr ?_
            refine thr ?_
            obtain rfl := Option.some.inj H71
            exact ret1 (v := .bool o_51.2) rfl (by kernel_rfl) ⟨_, c171, rfl, rfl, (l37.trans (l60.trans (l68.trans l171))), G174, O173, R175, rfl⟩
          · skip
            rintro _ e_ w_ ⟨rfl, c177, g178, G180, rfl, l177, O179, rfl, R181⟩
            refine bke ?_
            refine nrm ?_
            refine sr ?_
            refine va (.bool true) ?_
            refine wln ?_
            refine W.ret ?_
            obtain rfl := Option.some.inj H71
            exact ret1 (v := .bool true) rfl (by kernel_rfl) ⟨_, c177, rfl, rfl, (l37.trans (l60.trans (l68.trans l177))), G180, O179, R181, rfl⟩

end Go.Proofs.YtohpkblleihmaaaDoor
