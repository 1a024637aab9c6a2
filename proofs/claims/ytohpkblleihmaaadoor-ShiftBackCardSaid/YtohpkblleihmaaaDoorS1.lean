import Derived.Test.YtohpkblleihmaaaDoorMo
import Derived.Test.YtohpkblleihmaaaDoorProg
import Derived.Test.YtohpkblleihmaaaDoorMy
import Derived.Test.YtohpkblleihmaaaDoorMz
import Derived.Test.YtohpkblleihmaaaDoorMs
import Derived.Test.YtohpkblleihmaaaDoorA1
namespace Go.Proofs.YtohpkblleihmaaaDoor
open Go Go.Lt
set_option maxRecDepth 10000
set_option linter.unusedVariables false
attribute [local irreducible] W WL AC
def f_shift_Insert_1 (p0 : List G_api_Cell) (p1 : Int) (q0_0 : Int) : Option (List G_api_Cell) :=
  (f_cell_Blanks p1).bind fun x_11 =>
  (f_slices_Insert p0 q0_0 x_11).bind fun x_12 =>
  (slc x_12 0 (p0.length : Int)).bind fun x_13 =>
  ((idx x_13 (w64 ((p0.length : Int) - 1))).bind fun x_20 =>
  if (x_20.Kind == 2) = true then
  (idx x_13 (w64 ((p0.length : Int) - 1))).bind fun x_29 =>
  (sets x_13 (w64 ((p0.length : Int) - 1)) (⟨0, ([] : List Int)⟩ : G_api_Cell)).bind fun w_30 =>
  (some (w_30) : Option ((List G_api_Cell)))
  else
  (some (x_13) : Option ((List G_api_Cell)))).bind fun z_16 =>
  some z_16
theorem c_shift_Insert_1 {c0 : Cx} {G : Gm} {F : List En} {v0_ : Value} {u0_ : List Value} {bc0 : Nat} (p0 : List G_api_Cell) (p1 : Int) (q0_0 : Int) (O0 : Own c0 G (es true R_api_Cell v0_ 27 u0_ p0 :: F)) {r : List G_api_Cell} (h1 : OA R_api_Cell c0 v0_ u0_ p0) (m2 : ∀ j u, ([.int .i64 q0_0] : List Value)[j]? = some u → Im c0 bc0 (0 + j) u) (H : f_shift_Insert_1 p0 p1 q0_0 = some r) :
    Calls Tryd.prog 126 #[v0_, .int .i64 p1, .pointer (some ⟨bc0, 0, none⟩)] c0.w (Post c0 fun c v => ∃ y1 : Value, ∃ y2 : List Value, Own c G (es true R_api_Cell y1 27 y2 r :: F) ∧ v = y1 ∧ OA R_api_Cell c y1 y2 r) := by
  unfold f_shift_Insert_1 at H
  refine enter (l := [v0_, .int .i64 p1, .pointer (some ⟨bc0, 0, none⟩)]) Tryd.func126 rfl rfl rfl ?_
  refine sr ?_
  refine va (.slice none 0 0) ?_
  refine wln ?_
  refine sr ?_
  refine va (v0_) ?_
  refine WL.val0 (v := .int .i64 (p0.length : Int)) rfl (rx (by kernel_rfl) (run_lenO (ty := 3) Tryd.underlying22 h1 _)) ?_
  refine va (.int .i64 (p0.length : Int)) ?_
  refine wln ?_
  refine W.seq ?_
  refine W.regionD [] (Kp G0 []) O0 (by kernel_rfl) ?_
  intro c3 l3 O4
  have p5 : Kp G0 [] c3 := Kp.nil0
  refine ta 0 (v0_) ?_
  refine AC.take 1 (.int .i64 q0_0) rfl (by kernel_rfl) (by kernel_rfl) (fun c' hle => (rx (by kernel_rfl) (run_load1 Tryd.underlying3 rfl ((fun j u hu => (m2 j u hu).mono (l3.trans hle)) 0 _ rfl)))) ?_
  refine ta 2 (.int .i64 p1) ?_
  refine ta 5 (.int .i64 (p0.length : Int)) ?_
  obtain ⟨x_11, h6, H⟩ := bs H
  refine AC.one 3 (by kernel_rfl) (Go1.callP 3 rfl (by kernel_rfl) (by kernel_rfl) (by kernel_rfl) (c_cell_Blanks O4 p1 h6) ?_)
  rintro v7 c14 l14 ⟨_, u8, O11, rfl, h9⟩
  have p16 : Kp G0 [] c14 := Kp.nil0
  refine ⟨.inr p16, ?_⟩
  have O17 := O11.selD 2 [1, 0] (by kernel_rfl) (by kernel_rfl)
  obtain ⟨x_12, h18, H⟩ := bs H
  refine AC.one 4 (by kernel_rfl) (Go1.callP 4 rfl (by kernel_rfl) (by kernel_rfl) (by kernel_rfl) (c_slices_Insert p0 q0_0 x_11 O17 (h1.mono (l3.trans l14)) h9 h18) ?_)
  rintro v19 c26 l26 ⟨_, u20, O23, rfl, h21⟩
  have p28 : Kp G0 [] c26 := Kp.nil0
  refine ⟨.inr p28, ?_⟩
  obtain ⟨x_13, h29, H⟩ := bs H
  obtain ⟨v30, h31, O32, h33⟩ := Own.cutH (k' := .i64) 0 O23 rfl Tryd.underlying22 h21 (by kernel_rfl) h29
  refine AC.take 6 (v30) rfl (by kernel_rfl) (by kernel_rfl) (fun c' hle => (rx (by kernel_rfl) (h31 _))) ?_
  refine ta 7 (v30) ?_
  refine AC.done (by kernel_rfl) ?_
  refine nrm ?_
  obtain ⟨z_16, H34, H35⟩ := bs H
  refine W.seqJ (fun e w => ∃ (c : Cx) (g : Nat → Value) (v36 : Value) (u37 : List Value), w = c.w ∧ c26.le c ∧ Own c G (es true R_api_Cell v36 27 u37 z_16 :: F) ∧ e = ups g [(0, v36)] ∧ OA R_api_Cell c v36 u37 z_16) ?_ ?_
  · skip
    refine sr ?_
    refine va (v30) ?_
    refine va (.int .i64 (p0.length : Int)) ?_
    refine va (.int .i64 (w64 ((p0.length : Int) - 1))) ?_
    obtain ⟨x_20, h38, H34⟩ := bs H34
    refine WL.val0 (v := .pointer (some ⟨sb v30, (w64 ((p0.length : Int) - 1)).toNat * 2, none⟩)) rfl (rx (by kernel_rfl) (run_indexO (k := .i64) Tryd.underlying22 (by kernel_rfl) h33 h38 _)) ?_
    refine va (.pointer (some ⟨sb v30, (w64 ((p0.length : Int) - 1)).toNat * 2, none⟩)) ?_
    obtain ⟨l_39, h40, m41⟩ := OA.at h33 h38
    obtain ⟨v42, rfl, h43⟩ := h40
    refine WL.val0 (v := .int .i64 x_20.Kind) rfl (rx (by kernel_rfl) (ldE1 Tryd.underlying3 rfl (O32.on 0 rfl) (h33.blk h38) (at1 (j := 0) m41 rfl))) ?_
    refine va (.bool (x_20.Kind == 2)) ?_
    refine wln ?_
    refine W.cond (t := x_20.Kind == 2) (by kernel_rfl) (fun h44 => ?_) (fun h44 => ?_)
    · have H34 := it h44 H34
      refine W.region ?_
      refine va (v30) ?_
      refine va (.int .i64 (p0.length : Int)) ?_
      refine va (.int .i64 (w64 ((p0.length : Int) - 1))) ?_
      refine va (.agg #[.int .i64 0, .slice none 0 0]) ?_
      obtain ⟨x_29, h45, H34⟩ := bs H34
      refine WL.val0 (v := .pointer (some ⟨sb v30, (w64 ((p0.length : Int) - 1)).toNat * 2, none⟩)) rfl (rx (by kernel_rfl) (run_indexO (k := .i64) Tryd.underlying22 (by kernel_rfl) h33 h45 _)) ?_
      obtain ⟨w_30, h46, H34⟩ := bs H34
      refine WL.memD rfl (Own.stW (R := R_api_Cell) (T := 27) (us := [.int .i64 0, .slice none 0 0]) (x' := (⟨0, ([] : List Int)⟩ : G_api_Cell)) (u := .agg #[.int .i64 0, .slice none 0 0]) 0 O32 (by kernel_rfl) rfl h33 h46 rfl (by kernel_rfl) ⟨rfl, rfl, trivial⟩ rfl ⟨(.slice none 0 0), rfl, (Sl.nl _ _)⟩) ?_
      rintro c50 l50 ⟨u48, O47, h49⟩
      refine wln ?_
      obtain rfl := Option.some.inj H34
      exact ⟨c50, _, v30, u48, rfl, l50, O47, ups_self ⟨rfl, trivial⟩, h49⟩
    · have H34 := ie h44 H34
      refine W.skip ?_
      refine nrm ?_
      obtain rfl := Option.some.inj H34
      exact ⟨c26, _, v30, u20, rfl, (Cx.le.refl _), O32, ups_self ⟨rfl, trivial⟩, h33⟩
  · skip
    rintro e_ w_ ⟨c51, g52, v36, u37, rfl, l51, O53, rfl, h54⟩
    refine sr ?_
    refine va (v36) ?_
    refine va (v36) ?_
    refine wln ?_
    refine W.ret ?_
    obtain rfl := Option.some.inj H35
    exact ret1 (v := v36) rfl (by kernel_rfl) ⟨_, c51, rfl, rfl, (l3.trans (l14.trans (l26.trans l51))), v36, u37, O53, rfl, h54⟩

def f_shift_tear (p0 : List G_api_Cell) (p1 : Int) : Option (List G_api_Cell) :=
  (andE (decide (p1 < (p0.length : Int))) ((idx p0 p1).bind fun x_9 =>
  some (x_9.Kind == 3))).bind fun d_5 =>
  if d_5 = true then
  (idx p0 (w64 (p1 - 1))).bind fun x_21 =>
  (sets p0 (w64 (p1 - 1)) (⟨0, ([] : List Int)⟩ : G_api_Cell)).bind fun w_22 =>
  (idx w_22 p1).bind fun x_23 =>
  (sets w_22 p1 (⟨0, ([] : List Int)⟩ : G_api_Cell)).bind fun w_24 =>
  some w_24
  else
  some p0
theorem c_shift_tear {c0 : Cx} {G : Gm} {F : List En} {v0_ : Value} {u0_ : List Value} (p0 : List G_api_Cell) (p1 : Int) (O0 : Own c0 G (es true R_api_Cell v0_ 27 u0_ p0 :: F)) {r : List G_api_Cell} (h1 : OA R_api_Cell c0 v0_ u0_ p0) (H : f_shift_tear p0 p1 = some r) :
    Calls Tryd.prog 129 #[v0_, .int .i64 p1] c0.w (Post c0 fun c v => ∃ y1 : List Value, Own c G (es true R_api_Cell v0_ 27 y1 r :: F) ∧ v = .tuple #[] ∧ OA R_api_Cell c v0_ y1 r) := by
  unfold f_shift_tear at H
  refine enter (l := [v0_, .int .i64 p1]) Tryd.func129 rfl rfl rfl ?_
  refine W.seq ?_
  obtain ⟨d_5, h2, H⟩ := bs H
  refine W.join (fun e w => ∃ (c : Cx) (g : Nat → Value), w = c.w ∧ c0.le c ∧ Own c G (es true R_api_Cell v0_ 27 u0_ p0 :: F) ∧ e = ups g [(0, v0_), (1, .int .i64 p1), (15, .bool d_5)]) ?_ ?_
  · clear H
    refine W.region ?_
    refine va (.int .i64 p1) ?_
    refine va (v0_) ?_
    refine WL.val0 (v := .int .i64 (p0.length : Int)) rfl (rx (by kernel_rfl) (run_lenO (ty := 3) Tryd.underlying22 h1 _)) ?_
    refine va (.bool (decide (p1 < (p0.length : Int)))) ?_
    rcases Bool.eq_false_or_eq_true (decide (p1 < (p0.length : Int))) with h3 | h3
    · skip
      have H4 := anT h3 h2
      refine vb h3 ?_
      refine wn ?_
      refine va (v0_) ?_
      refine wn ?_
      refine va (.int .i64 p1) ?_
      refine wn ?_
      obtain ⟨x_9, h5, H4⟩ := bs H4
      refine WL.val0 (v := .pointer (some ⟨sb v0_, p1.toNat * 2, none⟩)) rfl (rx (by kernel_rfl) (run_indexO (k := .i64) Tryd.underlying22 (by kernel_rfl) h1 h5 _)) ?_
      refine wn ?_
      refine va (.pointer (some ⟨sb v0_, p1.toNat * 2, none⟩)) ?_
      refine wn ?_
      obtain ⟨l_6, h7, m8⟩ := OA.at h1 h5
      obtain ⟨v9, rfl, h10⟩ := h7
      refine WL.val0 (v := .int .i64 x_9.Kind) rfl (rx (by kernel_rfl) (ldE1 Tryd.underlying3 rfl (O0.on 0 rfl) (h1.blk h5) (at1 (j := 0) m8 rfl))) ?_
      refine wn ?_
      refine va (.bool (x_9.Kind == 3)) ?_
      obtain rfl := Option.some.inj H4
      refine va (.bool (x_9.Kind == 3)) ?_
      refine wln ?_
      exact ⟨c0, _, rfl, (Cx.le.refl _), O0, ups_self ⟨rfl, rfl, rfl, trivial⟩⟩
    · skip
      obtain rfl := anF h3 h2
      refine vb h3 ?_
      refine ps ?_
      refine ps ?_
      refine ps ?_
      refine ps ?_
      refine ps ?_
      refine ps ?_
      refine va (.bool false) ?_
      refine wln ?_
      exact ⟨c0, _, rfl, (Cx.le.refl _), O0, ups_self ⟨rfl, rfl, rfl, trivial⟩⟩
  · skip
    rintro e_ w_ ⟨c11, g12, rfl, l11, O13, rfl⟩
    refine nrm ?_
    refine W.cond (t := d_5) (by kernel_rfl) (fun h17 => ?_) (fun h17 => ?_)
    · have H := it h17 H
      refine W.region ?_
      refine va (v0_) ?_
      refine va (.int .i64 p1) ?_
      refine va (.int .i64 (w64 (p1 - 1))) ?_
      refine va (v0_) ?_
      refine va (.int .i64 p1) ?_
      refine va (.agg #[.int .i64 0, .slice none 0 0]) ?_
      refine va (.agg #[.int .i64 0, .slice none 0 0]) ?_
      obtain ⟨x_21, h18, H⟩ := bs H
      refine WL.val0 (v := .pointer (some ⟨sb v0_, (w64 (p1 - 1)).toNat * 2, none⟩)) rfl (rx (by kernel_rfl) (run_indexO (k := .i64) Tryd.underlying22 (by kernel_rfl) (h1.mono l11) h18 _)) ?_
      obtain ⟨w_22, h19, H⟩ := bs H
      refine WL.memD rfl (Own.stW (R := R_api_Cell) (T := 27) (us := [.int .i64 0, .slice none 0 0]) (x' := (⟨0, ([] : List Int)⟩ : G_api_Cell)) (u := .agg #[.int .i64 0, .slice none 0 0]) 0 O13 (by kernel_rfl) rfl (h1.mono l11) h19 rfl (by kernel_rfl) ⟨rfl, rfl, trivial⟩ rfl ⟨(.slice none 0 0), rfl, (Sl.nl _ _)⟩) ?_
      rintro c23 l23 ⟨u21, O20, h22⟩
      obtain ⟨x_23, h24, H⟩ := bs H
      refine WL.val0 (v := .pointer (some ⟨sb v0_, p1.toNat * 2, none⟩)) rfl (rx (by kernel_rfl) (run_indexO (k := .i64) Tryd.underlying22 (by kernel_rfl) h22 h24 _)) ?_
      obtain ⟨w_24, h25, H⟩ := bs H
      refine WL.memD rfl (Own.stW (R := R_api_Cell) (T := 27) (us := [.int .i64 0, .slice none 0 0]) (x' := (⟨0, ([] : List Int)⟩ : G_api_Cell)) (u := .agg #[.int .i64 0, .slice none 0 0]) 0 O20 (by kernel_rfl) rfl h22 h25 rfl (by kernel_rfl) ⟨rfl, rfl, trivial⟩ rfl ⟨(.slice none 0 0), rfl, (Sl.nl _ _)⟩) ?_
      rintro c29 l29 ⟨u27, O26, h28⟩
      refine WL.nil ?_
      obtain rfl := Option.some.inj H
      exact end0 rfl ⟨_, c29, rfl, rfl, (l11.trans (l23.trans l29)), u27, O26, rfl, h28⟩
    · have H := ie h17 H
      refine W.skip ?_
      obtain rfl := Option.some.inj H
      exact end0 rfl ⟨_, c11, rfl, rfl, l11, u0_, O13, rfl, (h1.mono l11)⟩

def f_shift_turns__shift_Insert_1 (sg : Sto) (p0 : Option Nat) (p1 : Int) (p2 : Int) (p3_0_0 : Int) : Option (Sto) :=
  (f_row_Row_Wide sg p0).bind fun x_2 =>
  (orE (decide (p1 < 0)) (some (decide (p1 ≥ x_2)))).bind fun d_7 =>
  (orE d_7 (some (decide (p2 < 1)))).bind fun d_12 =>
  if d_12 = true then
  some sg
  else
  (f_row_Row_Cells sg p0).bind fun x_18 =>
  (f_shift_tear x_18 p1).bind fun x_23 =>
  (f_shift_Insert_1 x_23 (imin p2 (w64 (x_2 - p1))) p3_0_0).bind fun x_33 =>
  (f_row_Row_Paint sg p0 0 x_33).bind fun x_34 =>
  some x_34.1
theorem c_shift_turns__shift_Insert_1 {c0 : Cx} {G : Gm} {F : List En} {sg : Sto} {v1 : Value} {b3_0 : Nat} (O0 : Own c0 G F) (R0 : Rel c0 sg G) (hG : Gl [0, 1] c0) (p0 : Option Nat) (p1 : Int) (p2 : Int) (p3_0_0 : Int) {r : Sto} (h2 : Pt 0 c0 v1 p0) (m3 : ∀ j u, ([.int .i64 p3_0_0] : List Value)[j]? = some u → Im c0 b3_0 (0 + j) u) (H : f_shift_turns__shift_Insert_1 sg p0 p1 p2 p3_0_0 = some r) :
    Calls Tryd.prog 125 #[v1, .int .i64 p1, .int .i64 p2, .func (.func 126) #[] #[.pointer (some ⟨b3_0, 0, none⟩)]] c0.w (Post c0 fun c v => ∃ G_ : Gm, Own c G_ (F) ∧ Rel c r G_ ∧ v = .tuple #[]) := by
  unfold f_shift_turns__shift_Insert_1 at H
  refine enter (l := [v1, .int .i64 p1, .int .i64 p2, .func (.func 126) #[] #[.pointer (some ⟨b3_0, 0, none⟩)]]) Tryd.func125 rfl rfl rfl ?_
  refine sr ?_
  refine va (v1) ?_
  obtain ⟨x_2, h4, H⟩ := bs H
  refine WL.callP rfl (by kernel_rfl) (c_row_Row_Wide O0 R0 p0 h2 h4) ?_
  rintro v10 c9 l9 ⟨O6, rfl⟩
  refine va (.int .i64 x_2) ?_
  refine wln ?_
  refine W.seq ?_
  refine W.seq ?_
  obtain ⟨d_7, h11, H⟩ := bs H
  obtain ⟨d_12, h12, H⟩ := bs H
  refine W.join (fun e w => ∃ (c : Cx) (g : Nat → Value), w = c.w ∧ c9.le c ∧ Own c G (F) ∧ e = ups g [(0, v1), (1, .int .i64 p1), (2, .int .i64 p2), (3, .func (.func 126) #[] #[.pointer (some ⟨b3_0, 0, none⟩)]), (8, .int .i64 x_2), (22, .bool d_12)]) ?_ ?_
  · clear H
    refine W.region ?_
    refine va (.int .i64 p1) ?_
    refine va (.bool (decide (p1 < 0))) ?_
    rcases Bool.eq_false_or_eq_true (decide (p1 < 0)) with h13 | h13
    · skip
      obtain rfl := orT h13 h11
      refine vb h13 ?_
      refine ps ?_
      refine ps ?_
      refine ps ?_
      refine va (.bool true) ?_
      have h14 : true = true := rfl
      obtain rfl := orT h14 h12
      refine vb h14 ?_
      refine ps ?_
      refine ps ?_
      refine va (.bool true) ?_
      refine wln ?_
      exact ⟨c9, _, rfl, (Cx.le.refl _), O6, ups_self ⟨rfl, rfl, rfl, rfl, rfl, rfl, trivial⟩⟩
    · skip
      have H15 := orF h13 h11
      refine vb h13 ?_
      refine wn ?_
      refine va (.int .i64 p1) ?_
      refine wn ?_
      refine va (.int .i64 x_2) ?_
      refine wn ?_
      refine va (.bool (decide (p1 ≥ x_2))) ?_
      obtain rfl := Option.some.inj H15
      refine va (.bool (decide (p1 ≥ x_2))) ?_
      rcases Bool.eq_false_or_eq_true (decide (p1 ≥ x_2)) with h16 | h16
      · skip
        obtain rfl := orT h16 h12
        refine vb h16 ?_
        refine ps ?_
        refine ps ?_
        refine va (.bool true) ?_
        refine wln ?_
        exact ⟨c9, _, rfl, (Cx.le.refl _), O6, ups_self ⟨rfl, rfl, rfl, rfl, rfl, rfl, trivial⟩⟩
      · skip
        have H17 := orF h16 h12
        refine vb h16 ?_
        refine wn ?_
        refine va (.int .i64 p2) ?_
        refine wn ?_
        refine va (.bool (decide (p2 < 1))) ?_
        obtain rfl := Option.some.inj H17
        refine va (.bool (decide (p2 < 1))) ?_
        refine wln ?_
        exact ⟨c9, _, rfl, (Cx.le.refl _), O6, ups_self ⟨rfl, rfl, rfl, rfl, rfl, rfl, trivial⟩⟩
  · skip
    rintro e_ w_ ⟨c18, g19, rfl, l18, O20, rfl⟩
    refine nrm ?_
    refine W.cond (t := d_12) (by kernel_rfl) (fun h24 => ?_) (fun h24 => ?_)
    · have H := it h24 H
      refine W.ret ?_
      refine thr ?_
      obtain rfl := Option.some.inj H
      exact ret0 rfl ⟨_, c18, rfl, rfl, (l9.trans l18), G, O20, (R0.mono (l9.trans l18)), rfl⟩
    · have H := ie h24 H
      refine W.skip ?_
      refine nrm ?_
      refine sr ?_
      refine va (v1) ?_
      obtain ⟨x_18, h25, H⟩ := bs H
      refine WL.callP rfl (by kernel_rfl) (c_row_Row_Cells O20 (R0.mono (l9.trans l18)) p0 (h2.mono (l9.trans l18)) h25) ?_
      rintro v26 c33 l33 ⟨_, u27, O30, rfl, h28⟩
      refine va (v26) ?_
      refine wln ?_
      refine sr ?_
      refine va (v26) ?_
      refine va (.int .i64 p1) ?_
      obtain ⟨x_23, h36, H⟩ := bs H
      refine WL.callP rfl (by kernel_rfl) (c_shift_tear x_18 p1 O30 h28 h36) ?_
      rintro v44 c43 l43 ⟨u37, O40, rfl, h38⟩
      refine wln ?_
      refine W.region ?_
      refine va (v1) ?_
      refine va (.func (.func 126) #[] #[.pointer (some ⟨b3_0, 0, none⟩)]) ?_
      refine va (v26) ?_
      refine va (.int .i64 p2) ?_
      refine va (.int .i64 x_2) ?_
      refine va (.int .i64 p1) ?_
      refine va (.int .i64 (w64 (x_2 - p1))) ?_
      refine va (.int .i64 (imin p2 (w64 (x_2 - p1)))) ?_
      obtain ⟨x_33, h46, H⟩ := bs H
      refine WL.callP rfl (by kernel_rfl) (c_shift_Insert_1 x_23 (imin p2 (w64 (x_2 - p1))) p3_0_0 O40 h38 (fun j u hu => (m3 j u hu).mono (l9.trans (l18.trans (l33.trans l43)))) h46) ?_
      rintro v47 c54 l54 ⟨_, u48, O51, rfl, h49⟩
      obtain ⟨c58, h59, l58, O56, h57⟩ := O51.frz 0 rfl h49
      refine WL.gh h59 ?_
      obtain ⟨x_34, h60, H⟩ := bs H
      refine WL.callP rfl (by kernel_rfl) (c_row_Row_Paint O56 (R0.mono (l9.trans (l18.trans (l33.trans (l43.trans (l54.trans l58)))))) ((hG.mono (l9.trans (l18.trans (l33.trans (l43.trans (l54.trans l58)))))).le (by decide)) p0 0 x_33 (h2.mono (l9.trans (l18.trans (l33.trans (l43.trans (l54.trans l58)))))) h57 h60) ?_
      rintro v61 c67 l67 ⟨_, G63, O64, R65, rfl, h62⟩
      refine WL.nil ?_
      obtain rfl := Option.some.inj H
      have O69 := O64.selD 1 [] (by kernel_rfl) (by kernel_rfl)
      exact end0 rfl ⟨_, c67, rfl, rfl, (l9.trans (l18.trans (l33.trans (l43.trans (l54.trans (l58.trans l67)))))), G63, O69, R65, rfl⟩

def f_shift_Insert (sg : Sto) (p0 : Option Nat) (p1 : Int) (p2 : Int) : Option (Sto) :=
  (f_shift_turns__shift_Insert_1 sg p0 p1 p2 p1).bind fun x_7 =>
  some x_7
theorem c_shift_Insert {c0 : Cx} {G : Gm} {F : List En} {sg : Sto} {v1 : Value} (O0 : Own c0 G F) (R0 : Rel c0 sg G) (hG : Gl [0, 1] c0) (p0 : Option Nat) (p1 : Int) (p2 : Int) {r : Sto} (h2 : Pt 0 c0 v1 p0) (H : f_shift_Insert sg p0 p1 p2 = some r) :
    Calls Tryd.prog 70 #[v1, .int .i64 p1, .int .i64 p2] c0.w (Post c0 fun c v => ∃ G_ : Gm, Own c G_ (F) ∧ Rel c r G_ ∧ v = .tuple #[]) := by
  unfold f_shift_Insert at H
  refine enter (l := [v1, .int .i64 p1, .int .i64 p2]) Tryd.func70 rfl rfl rfl ?_
  refine sr ?_
  refine WL.mem rfl (Own.bx (T := 3) (vs := [.int .i64 p1]) O0 (by kernel_rfl)) ?_
  rintro v7 c6 l6 ⟨b3, rfl, O4, m5⟩
  refine wln ?_
  refine W.region ?_
  refine va (v1) ?_
  refine WL.val0 (v := .int .i64 p1) rfl (rx (by kernel_rfl) (run_load1 Tryd.underlying3 rfl (m5 0 _ rfl))) ?_
  refine va (.int .i64 p2) ?_
  refine va (.func (.func 126) #[] #[.pointer (some ⟨b3, 0, none⟩)]) ?_
  obtain ⟨x_7, h8, H⟩ := bs H
  refine WL.callP rfl (by kernel_rfl) (c_shift_turns__shift_Insert_1 O4 (R0.mono l6) ((hG.mono l6).le (by decide)) p0 p1 p2 p1 (h2.mono l6) m5 h8) ?_
  rintro v14 c13 l13 ⟨G9, O10, R11, rfl⟩
  refine WL.nil ?_
  obtain rfl := Option.some.inj H
  exact end0 rfl ⟨_, c13, rfl, rfl, (l6.trans l13), G9, O10, R11, rfl⟩

def f_shift_Delete_1 (p0 : List G_api_Cell) (p1 : Int) (q0_0 : Int) : Option (List G_api_Cell) :=
  (f_shift_tear p0 (w64 (q0_0 + p1))).bind fun x_7 =>
  (f_slices_Delete x_7 q0_0 (w64 (q0_0 + p1))).bind fun x_14 =>
  (f_cell_Blanks p1).bind fun x_16 =>
  (app x_14 x_16).bind fun x_17 =>
  some x_17
theorem c_shift_Delete_1 {c0 : Cx} {G : Gm} {F : List En} {v0_ : Value} {u0_ : List Value} {bc0 : Nat} (p0 : List G_api_Cell) (p1 : Int) (q0_0 : Int) (O0 : Own c0 G (es true R_api_Cell v0_ 27 u0_ p0 :: F)) {r : List G_api_Cell} (h1 : OA R_api_Cell c0 v0_ u0_ p0) (m2 : ∀ j u, ([.int .i64 q0_0] : List Value)[j]? = some u → Im c0 bc0 (0 + j) u) (H : f_shift_Delete_1 p0 p1 q0_0 = some r) :
    Calls Tryd.prog 128 #[v0_, .int .i64 p1, .pointer (some ⟨bc0, 0, none⟩)] c0.w (Post c0 fun c v => ∃ y1 : Value, ∃ y2 : List Value, Own c G (es true R_api_Cell y1 27 y2 r :: F) ∧ v = y1 ∧ OA R_api_Cell c y1 y2 r) := by
  unfold f_shift_Delete_1 at H
  refine enter (l := [v0_, .int .i64 p1, .pointer (some ⟨bc0, 0, none⟩)]) Tryd.func128 rfl rfl rfl ?_
  refine sr ?_
  refine va (.slice none 0 0) ?_
  refine wln ?_
  refine sr ?_
  refine va (v0_) ?_
  refine WL.val0 (v := .int .i64 q0_0) rfl (rx (by kernel_rfl) (run_load1 Tryd.underlying3 rfl (m2 0 _ rfl))) ?_
  refine va (.int .i64 p1) ?_
  refine va (.int .i64 (w64 (q0_0 + p1))) ?_
  obtain ⟨x_7, h4, H⟩ := bs H
  refine WL.callP rfl (by kernel_rfl) (c_shift_tear p0 (w64 (q0_0 + p1)) O0 h1 h4) ?_
  rintro v12 c11 l11 ⟨u5, O8, rfl, h6⟩
  refine wln ?_
  refine sr ?_
  refine va (v0_) ?_
  refine WL.val0 (v := .int .i64 q0_0) rfl (rx (by kernel_rfl) (run_load1 Tryd.underlying3 rfl ((fun j u hu => (m2 j u hu).mono l11) 0 _ rfl))) ?_
  refine WL.val0 (v := .int .i64 q0_0) rfl (rx (by kernel_rfl) (run_load1 Tryd.underlying3 rfl ((fun j u hu => (m2 j u hu).mono l11) 0 _ rfl))) ?_
  refine va (.int .i64 p1) ?_
  refine va (.int .i64 (w64 (q0_0 + p1))) ?_
  obtain ⟨x_14, h14, H⟩ := bs H
  refine WL.callP rfl (by kernel_rfl) (c_slices_Delete x_7 q0_0 (w64 (q0_0 + p1)) O8 h6 h14) ?_
  rintro v15 c22 l22 ⟨_, u16, O19, rfl, h17⟩
  refine va (.int .i64 p1) ?_
  obtain ⟨x_16, h24, H⟩ := bs H
  refine WL.callP rfl (by kernel_rfl) (c_cell_Blanks O19 p1 h24) ?_
  rintro v25 c32 l32 ⟨_, u26, O29, rfl, h27⟩
  obtain ⟨c36, h37, l36, O34, h35⟩ := O29.frz 0 rfl h27
  refine WL.gh h37 ?_
  obtain ⟨x_17, h38, H⟩ := bs H
  refine WL.mem rfl (Own.app (R := R_api_Cell) (z := .agg #[.int .i64 0, .slice none 0 0]) (by_ := 32) (ty := 22) 1 O34 rfl (h17.mono (l32.trans l36)) h35 h38 Tryd.underlying22 (by kernel_rfl) rfl (by kernel_rfl) (by kernel_rfl)) ?_
  rintro v43 c42 l42 ⟨u40, O39, h41⟩
  refine va (v43) ?_
  refine wln ?_
  refine W.ret ?_
  obtain rfl := Option.some.inj H
  have O44 := O39.selD 2 [1] (by kernel_rfl) (by kernel_rfl)
  exact ret1 (v := v43) rfl (by kernel_rfl) ⟨_, c42, rfl, rfl, (l11.trans (l22.trans (l32.trans (l36.trans l42)))), v43, u40, O44, rfl, h41⟩

def f_shift_turns__shift_Delete_1 (sg : Sto) (p0 : Option Nat) (p1 : Int) (p2 : Int) (p3_0_0 : Int) : Option (Sto) :=
  (f_row_Row_Wide sg p0).bind fun x_2 =>
  (orE (decide (p1 < 0)) (some (decide (p1 ≥ x_2)))).bind fun d_7 =>
  (orE d_7 (some (decide (p2 < 1)))).bind fun d_12 =>
  if d_12 = true then
  some sg
  else
  (f_row_Row_Cells sg p0).bind fun x_18 =>
  (f_shift_tear x_18 p1).bind fun x_23 =>
  (f_shift_Delete_1 x_23 (imin p2 (w64 (x_2 - p1))) p3_0_0).bind fun x_33 =>
  (f_row_Row_Paint sg p0 0 x_33).bind fun x_34 =>
  some x_34.1
theorem c_shift_turns__shift_Delete_1 {c0 : Cx} {G : Gm} {F : List En} {sg : Sto} {v1 : Value} {b3_0 : Nat} (O0 : Own c0 G F) (R0 : Rel c0 sg G) (hG : Gl [0, 1] c0) (p0 : Option Nat) (p1 : Int) (p2 : Int) (p3_0_0 : Int) {r : Sto} (h2 : Pt 0 c0 v1 p0) (m3 : ∀ j u, ([.int .i64 p3_0_0] : List Value)[j]? = some u → Im c0 b3_0 (0 + j) u) (H : f_shift_turns__shift_Delete_1 sg p0 p1 p2 p3_0_0 = some r) :
    Calls Tryd.prog 125 #[v1, .int .i64 p1, .int .i64 p2, .func (.func 128) #[] #[.pointer (some ⟨b3_0, 0, none⟩)]] c0.w (Post c0 fun c v => ∃ G_ : Gm, Own c G_ (F) ∧ Rel c r G_ ∧ v = .tuple #[]) := by
  unfold f_shift_turns__shift_Delete_1 at H
  refine enter (l := [v1, .int .i64 p1, .int .i64 p2, .func (.func 128) #[] #[.pointer (some ⟨b3_0, 0, none⟩)]]) Tryd.func125 rfl rfl rfl ?_
  refine sr ?_
  refine va (v1) ?_
  obtain ⟨x_2, h4, H⟩ := bs H
  refine WL.callP rfl (by kernel_rfl) (c_row_Row_Wide O0 R0 p0 h2 h4) ?_
  rintro v10 c9 l9 ⟨O6, rfl⟩
  refine va (.int .i64 x_2) ?_
  refine wln ?_
  refine W.seq ?_
  refine W.seq ?_
  obtain ⟨d_7, h11, H⟩ := bs H
  obtain ⟨d_12, h12, H⟩ := bs H
  refine W.join (fun e w => ∃ (c : Cx) (g : Nat → Value), w = c.w ∧ c9.le c ∧ Own c G (F) ∧ e = ups g [(0, v1), (1, .int .i64 p1), (2, .int .i64 p2), (3, .func (.func 128) #[] #[.pointer (some ⟨b3_0, 0, none⟩)]), (8, .int .i64 x_2), (22, .bool d_12)]) ?_ ?_
  · clear H
    refine W.region ?_
    refine va (.int .i64 p1) ?_
    refine va (.bool (decide (p1 < 0))) ?_
    rcases Bool.eq_false_or_eq_true (decide (p1 < 0)) with h13 | h13
    · skip
      obtain rfl := orT h13 h11
      refine vb h13 ?_
      refine ps ?_
      refine ps ?_
      refine ps ?_
      refine va (.bool true) ?_
      have h14 : true = true := rfl
      obtain rfl := orT h14 h12
      refine vb h14 ?_
      refine ps ?_
      refine ps ?_
      refine va (.bool true) ?_
      refine wln ?_
      exact ⟨c9, _, rfl, (Cx.le.refl _), O6, ups_self ⟨rfl, rfl, rfl, rfl, rfl, rfl, trivial⟩⟩
    · skip
      have H15 := orF h13 h11
      refine vb h13 ?_
      refine wn ?_
      refine va (.int .i64 p1) ?_
      refine wn ?_
      refine va (.int .i64 x_2) ?_
      refine wn ?_
      refine va (.bool (decide (p1 ≥ x_2))) ?_
      obtain rfl := Option.some.inj H15
      refine va (.bool (decide (p1 ≥ x_2))) ?_
      rcases Bool.eq_false_or_eq_true (decide (p1 ≥ x_2)) with h16 | h16
      · skip
        obtain rfl := orT h16 h12
        refine vb h16 ?_
        refine ps ?_
        refine ps ?_
        refine va (.bool true) ?_
        refine wln ?_
        exact ⟨c9, _, rfl, (Cx.le.refl _), O6, ups_self ⟨rfl, rfl, rfl, rfl, rfl, rfl, trivial⟩⟩
      · skip
        have H17 := orF h16 h12
        refine vb h16 ?_
        refine wn ?_
        refine va (.int .i64 p2) ?_
        refine wn ?_
        refine va (.bool (decide (p2 < 1))) ?_
        obtain rfl := Option.some.inj H17
        refine va (.bool (decide (p2 < 1))) ?_
        refine wln ?_
        exact ⟨c9, _, rfl, (Cx.le.refl _), O6, ups_self ⟨rfl, rfl, rfl, rfl, rfl, rfl, trivial⟩⟩
  · skip
    rintro e_ w_ ⟨c18, g19, rfl, l18, O20, rfl⟩
    refine nrm ?_
    refine W.cond (t := d_12) (by kernel_rfl) (fun h24 => ?_) (fun h24 => ?_)
    · have H := it h24 H
      refine W.ret ?_
      refine thr ?_
      obtain rfl := Option.some.inj H
      exact ret0 rfl ⟨_, c18, rfl, rfl, (l9.trans l18), G, O20, (R0.mono (l9.trans l18)), rfl⟩
    · have H := ie h24 H
      refine W.skip ?_
      refine nrm ?_
      refine sr ?_
      refine va (v1) ?_
      obtain ⟨x_18, h25, H⟩ := bs H
      refine WL.callP rfl (by kernel_rfl) (c_row_Row_Cells O20 (R0.mono (l9.trans l18)) p0 (h2.mono (l9.trans l18)) h25) ?_
      rintro v26 c33 l33 ⟨_, u27, O30, rfl, h28⟩
      refine va (v26) ?_
      refine wln ?_
      refine sr ?_
      refine va (v26) ?_
      refine va (.int .i64 p1) ?_
      obtain ⟨x_23, h36, H⟩ := bs H
      refine WL.callP rfl (by kernel_rfl) (c_shift_tear x_18 p1 O30 h28 h36) ?_
      rintro v44 c43 l43 ⟨u37, O40, rfl, h38⟩
      refine wln ?_
      refine W.region ?_
      refine va (v1) ?_
      refine va (.func (.func 128) #[] #[.pointer (some ⟨b3_0, 0, none⟩)]) ?_
      refine va (v26) ?_
      refine va (.int .i64 p2) ?_
      refine va (.int .i64 x_2) ?_
      refine va (.int .i64 p1) ?_
      refine va (.int .i64 (w64 (x_2 - p1))) ?_
      refine va (.int .i64 (imin p2 (w64 (x_2 - p1)))) ?_
      obtain ⟨x_33, h46, H⟩ := bs H
      refine WL.callP rfl (by kernel_rfl) (c_shift_Delete_1 x_23 (imin p2 (w64 (x_2 - p1))) p3_0_0 O40 h38 (fun j u hu => (m3 j u hu).mono (l9.trans (l18.trans (l33.trans l43)))) h46) ?_
      rintro v47 c54 l54 ⟨_, u48, O51, rfl, h49⟩
      obtain ⟨c58, h59, l58, O56, h57⟩ := O51.frz 0 rfl h49
      refine WL.gh h59 ?_
      obtain ⟨x_34, h60, H⟩ := bs H
      refine WL.callP rfl (by kernel_rfl) (c_row_Row_Paint O56 (R0.mono (l9.trans (l18.trans (l33.trans (l43.trans (l54.trans l58)))))) ((hG.mono (l9.trans (l18.trans (l33.trans (l43.trans (l54.trans l58)))))).le (by decide)) p0 0 x_33 (h2.mono (l9.trans (l18.trans (l33.trans (l43.trans (l54.trans l58)))))) h57 h60) ?_
      rintro v61 c67 l67 ⟨_, G63, O64, R65, rfl, h62⟩
      refine WL.nil ?_
      obtain rfl := Option.some.inj H
      have O69 := O64.selD 1 [] (by kernel_rfl) (by kernel_rfl)
      exact end0 rfl ⟨_, c67, rfl, rfl, (l9.trans (l18.trans (l33.trans (l43.trans (l54.trans (l58.trans l67)))))), G63, O69, R65, rfl⟩

def f_shift_Delete (sg : Sto) (p0 : Option Nat) (p1 : Int) (p2 : Int) : Option (Sto) :=
  (f_shift_turns__shift_Delete_1 sg p0 p1 p2 p1).bind fun x_7 =>
  some x_7
theorem c_shift_Delete {c0 : Cx} {G : Gm} {F : List En} {sg : Sto} {v1 : Value} (O0 : Own c0 G F) (R0 : Rel c0 sg G) (hG : Gl [0, 1] c0) (p0 : Option Nat) (p1 : Int) (p2 : Int) {r : Sto} (h2 : Pt 0 c0 v1 p0) (H : f_shift_Delete sg p0 p1 p2 = some r) :
    Calls Tryd.prog 71 #[v1, .int .i64 p1, .int .i64 p2] c0.w (Post c0 fun c v => ∃ G_ : Gm, Own c G_ (F) ∧ Rel c r G_ ∧ v = .tuple #[]) := by
  unfold f_shift_Delete at H
  refine enter (l := [v1, .int .i64 p1, .int .i64 p2]) Tryd.func71 rfl rfl rfl ?_
  refine sr ?_
  refine WL.mem rfl (Own.bx (T := 3) (vs := [.int .i64 p1]) O0 (by kernel_rfl)) ?_
  rintro v7 c6 l6 ⟨b3, rfl, O4, m5⟩
  refine wln ?_
  refine W.region ?_
  refine va (v1) ?_
  refine WL.val0 (v := .int .i64 p1) rfl (rx (by kernel_rfl) (run_load1 Tryd.underlying3 rfl (m5 0 _ rfl))) ?_
  refine va (.int .i64 p2) ?_
  refine va (.func (.func 128) #[] #[.pointer (some ⟨b3, 0, none⟩)]) ?_
  obtain ⟨x_7, h8, H⟩ := bs H
  refine WL.callP rfl (by kernel_rfl) (c_shift_turns__shift_Delete_1 O4 (R0.mono l6) ((hG.mono l6).le (by decide)) p0 p1 p2 p1 (h2.mono l6) m5 h8) ?_
  rintro v14 c13 l13 ⟨G9, O10, R11, rfl⟩
  refine WL.nil ?_
  obtain rfl := Option.some.inj H
  exact end0 rfl ⟨_, c13, rfl, rfl, (l6.trans l13), G9, O10, R11, rfl⟩

def f_linotypelaw27_works (sg : Sto) : Option (Sto × Bool) :=
  (f_linotyperef23_Of 2 ([19968] : List Int)).bind fun x_7 =>
  (app ([(⟨1, ([97] : List Int)⟩ : G_api_Cell)] : List G_api_Cell) x_7).bind fun x_8 =>
  (f_row_Of sg x_8).bind fun x_9 =>
  (orE (!x_9.2.2.isNil) (some x_9.2.1.isNone)).bind fun d_18 =>
  if d_18 = true then
  some (x_9.1, false)
  else
  (f_shift_Insert x_9.1 x_9.2.1 0 1).bind fun x_26 =>
  (f_row_Row_Cells x_26 x_9.2.1).bind fun x_29 =>
  (f_linotyperef23_Same x_29 ([(⟨0, ([] : List Int)⟩ : G_api_Cell), (⟨1, ([97] : List Int)⟩ : G_api_Cell), (⟨0, ([] : List Int)⟩ : G_api_Cell)] : List G_api_Cell)).bind fun x_35 =>
  some (x_26, x_35)
theorem c_linotypelaw27_works {c0 : Cx} {G : Gm} {F : List En} {sg : Sto} (O0 : Own c0 G F) (R0 : Rel c0 sg G) (hG : Gl [0, 1] c0) {r : Sto × Bool} (H : f_linotypelaw27_works sg = some r) :
    Calls Tryd.prog 66 #[] c0.w (Post c0 fun c v => ∃ G_ : Gm, Own c G_ (F) ∧ Rel c r.1 G_ ∧ v = .bool r.2) := by
  unfold f_linotypelaw27_works at H
  refine enter (l := []) Tryd.func66 rfl rfl rfl ?_
  refine sr ?_
  refine va (.bool false) ?_
  refine wln ?_
  refine sr ?_
  refine WL.mem rfl (Own.sl (R := (RI .i32)) (E := 21) (ls := [[.int .i32 97]]) (vs := [.int .i32 97]) (xs := ([97] : List Int)) true O0 (Nat.succ_pos _) rfl ⟨rfl, trivial⟩ (by kernel_rfl) (by kernel_rfl)) ?_
  rintro v5 c4 l4 ⟨u2, O1, h3⟩
  obtain ⟨a6, a7, a8, rfl⟩ := (h3).form
  refine va (.agg #[.int .i64 1, .slice a6 a7 a8]) ?_
  obtain ⟨c11, h12, l11, O9, h10⟩ := O1.frz 0 rfl h3
  refine WL.gh h12 ?_
  refine WL.mem rfl (Own.sl (R := R_api_Cell) (E := 27) (ls := [[.int .i64 1, .slice a6 a7 a8]]) (vs := [.int .i64 1, .slice a6 a7 a8]) (xs := ([(⟨1, ([97] : List Int)⟩ : G_api_Cell)] : List G_api_Cell)) true O9 (Nat.succ_pos _) rfl ⟨⟨(.slice a6 a7 a8), rfl, h10⟩, trivial⟩ (by kernel_rfl) (by kernel_rfl)) ?_
  rintro v17 c16 l16 ⟨u14, O13, h15⟩
  refine WL.mem rfl (Own.sl (R := (RI .i32)) (E := 21) (ls := [[.int .i32 19968]]) (vs := [.int .i32 19968]) (xs := ([19968] : List Int)) true O13 (Nat.succ_pos _) rfl ⟨rfl, trivial⟩ (by kernel_rfl) (by kernel_rfl)) ?_
  rintro v22 c21 l21 ⟨u19, O18, h20⟩
  obtain ⟨c25, h26, l25, O23, h24⟩ := O18.frz 0 rfl h20
  refine WL.gh h26 ?_
  obtain ⟨x_7, h27, H⟩ := bs H
  refine WL.callP rfl (by kernel_rfl) (c_linotyperef23_Of O23 2 ([19968] : List Int) h24 h27) ?_
  rintro v28 c35 l35 ⟨_, u29, O32, rfl, h30⟩
  obtain ⟨c39, h40, l39, O37, h38⟩ := O32.frz 0 rfl h30
  refine WL.gh h40 ?_
  obtain ⟨x_8, h41, H⟩ := bs H
  refine WL.mem rfl (Own.app (R := R_api_Cell) (z := .agg #[.int .i64 0, .slice none 0 0]) (by_ := 32) (ty := 22) 2 O37 rfl (h15.mono (l21.trans (l25.trans (l35.trans l39)))) h38 h41 Tryd.underlying22 (by kernel_rfl) rfl (by kernel_rfl) (by kernel_rfl)) ?_
  rintro v46 c45 l45 ⟨u43, O42, h44⟩
  obtain ⟨c49, h50, l49, O47, h48⟩ := O42.frz 2 rfl h44
  refine WL.gh h50 ?_
  obtain ⟨x_9, h51, H⟩ := bs H
  refine WL.callP rfl (by kernel_rfl) (c_row_Of O47 (R0.mono (l4.trans (l11.trans (l16.trans (l21.trans (l25.trans (l35.trans (l39.trans (l45.trans l49))))))))) ((hG.mono (l4.trans (l11.trans (l16.trans (l21.trans (l25.trans (l35.trans (l39.trans (l45.trans l49))))))))).le (by decide)) x_8 h48 h51) ?_
  rintro v61 c60 l60 ⟨v52, v54, G56, O57, R58, rfl, h53, h55⟩
  refine va (.tuple #[v52, v54]) ?_
  refine va (v52) ?_
  refine va (v54) ?_
  refine va (v52) ?_
  refine va (v54) ?_
  refine wln ?_
  refine W.seq ?_
  refine W.seq ?_
  obtain ⟨d_18, h62, H⟩ := bs H
  refine W.join (fun e w => ∃ (c : Cx) (g : Nat → Value), w = c.w ∧ c60.le c ∧ Own c G56 (es false R_api_Cell v28 27 u29 x_7 :: es false (RI .i32) v22 21 u19 ([19968] : List Int) :: es false R_api_Cell v46 27 u43 x_8 :: es false (RI .i32) (.slice a6 a7 a8) 21 u2 ([97] : List Int) :: F) ∧ e = ups g [(1, v52), (18, .bool d_18)]) ?_ ?_
  · clear H
    refine W.region ?_
    refine va (v54) ?_
    refine WL.val0 (v := .bool (!x_9.2.2.isNil)) rfl (by rcases (h55).cs with ⟨h1_, h2_⟩ | ⟨b_, h1_, h2_⟩ | ⟨b_, h1_, h2_⟩ <;> (subst h1_; rw [h2_]; kernel_rfl)) ?_
    rcases Bool.eq_false_or_eq_true (!x_9.2.2.isNil) with h63 | h63
    · skip
      obtain rfl := orT h63 h62
      refine vb h63 ?_
      refine ps ?_
      refine ps ?_
      refine va (.bool true) ?_
      refine wln ?_
      exact ⟨c60, _, rfl, (Cx.le.refl _), O57, ups_self ⟨rfl, rfl, trivial⟩⟩
    · skip
      have H64 := orF h63 h62
      refine vb h63 ?_
      refine wn ?_
      refine va (v52) ?_
      refine wn ?_
      refine WL.val0 (v := .bool x_9.2.1.isNone) rfl (by rcases (h53).cs with ⟨h1_, h2_⟩ | ⟨b_, h1_, h2_⟩ <;> (subst h1_; rw [h2_]; kernel_rfl)) ?_
      obtain rfl := Option.some.inj H64
      refine va (.bool x_9.2.1.isNone) ?_
      refine wln ?_
      exact ⟨c60, _, rfl, (Cx.le.refl _), O57, ups_self ⟨rfl, rfl, trivial⟩⟩
  · skip
    rintro e_ w_ ⟨c65, g66, rfl, l65, O67, rfl⟩
    refine nrm ?_
    refine W.cond (t := d_18) (by kernel_rfl) (fun h71 => ?_) (fun h71 => ?_)
    · have H := it h71 H
      refine sr ?_
      refine va (.bool false) ?_
      refine wln ?_
      refine W.ret ?_
      refine thr ?_
      obtain rfl := Option.some.inj H
      have O72 := O67.selD 4 [] (by kernel_rfl) (by kernel_rfl)
      exact ret1 (v := .bool false) rfl (by kernel_rfl) ⟨_, c65, rfl, rfl, (l4.trans (l11.trans (l16.trans (l21.trans (l25.trans (l35.trans (l39.trans (l45.trans (l49.trans (l60.trans l65)))))))))), G56, O72, (R58.mono l65), rfl⟩
    · have H := ie h71 H
      refine W.skip ?_
      refine nrm ?_
      refine sr ?_
      refine va (v52) ?_
      obtain ⟨x_26, h73, H⟩ := bs H
      refine WL.callP rfl (by kernel_rfl) (c_shift_Insert O67 (R58.mono l65) ((hG.mono (l4.trans (l11.trans (l16.trans (l21.trans (l25.trans (l35.trans (l39.trans (l45.trans (l49.trans (l60.trans l65))))))))))).le (by decide)) x_9.2.1 0 1 (h53.mono l65) h73) ?_
      rintro v79 c78 l78 ⟨G74, O75, R76, rfl⟩
      refine wln ?_
      refine sr ?_
      refine va (v52) ?_
      obtain ⟨x_29, h80, H⟩ := bs H
      refine WL.callP rfl (by kernel_rfl) (c_row_Row_Cells O75 R76 x_9.2.1 (h53.mono (l65.trans l78)) h80) ?_
      rintro v81 c88 l88 ⟨_, u82, O85, rfl, h83⟩
      refine va (.agg #[.int .i64 0, .slice none 0 0]) ?_
      refine WL.mem rfl (Own.sl (R := (RI .i32)) (E := 21) (ls := [[.int .i32 97]]) (vs := [.int .i32 97]) (xs := ([97] : List Int)) true O85 (Nat.succ_pos _) rfl ⟨rfl, trivial⟩ (by kernel_rfl) (by kernel_rfl)) ?_
      rintro v94 c93 l93 ⟨u91, O90, h92⟩
      obtain ⟨a95, a96, a97, rfl⟩ := (h92).form
      refine va (.agg #[.int .i64 1, .slice a95 a96 a97]) ?_
      refine va (.agg #[.int .i64 0, .slice none 0 0]) ?_
      obtain ⟨c100, h101, l100, O98, h99⟩ := O90.frz 0 rfl h92
      refine WL.gh h101 ?_
      refine WL.mem rfl (Own.sl (R := R_api_Cell) (E := 27) (ls := [[.int .i64 0, .slice none 0 0], [.int .i64 1, .slice a95 a96 a97], [.int .i64 0, .slice none 0 0]]) (vs := [.int .i64 0, .slice none 0 0, .int .i64 1, .slice a95 a96 a97, .int .i64 0, .slice none 0 0]) (xs := ([(⟨0, ([] : List Int)⟩ : G_api_Cell), (⟨1, ([97] : List Int)⟩ : G_api_Cell), (⟨0, ([] : List Int)⟩ : G_api_Cell)] : List G_api_Cell)) true O98 (Nat.succ_pos _) rfl ⟨⟨(.slice none 0 0), rfl, (Sl.nl _ _)⟩, ⟨(.slice a95 a96 a97), rfl, h99⟩, ⟨(.slice none 0 0), rfl, (Sl.nl _ _)⟩, trivial⟩ (by kernel_rfl) (by kernel_rfl)) ?_
      rintro v106 c105 l105 ⟨u103, O102, h104⟩
      obtain ⟨c109, h110, l109, O107, h108⟩ := O102.frz 2 rfl (h83.mono (l93.trans (l100.trans l105)))
      refine WL.gh h110 ?_
      obtain ⟨c113, h114, l113, O111, h112⟩ := O107.frz 0 rfl (h104.mono l109)
      refine WL.gh h114 ?_
      obtain ⟨x_35, h115, H⟩ := bs H
      refine WL.callP rfl (by kernel_rfl) (c_linotyperef23_Same O111 x_29 ([(⟨0, ([] : List Int)⟩ : G_api_Cell), (⟨1, ([97] : List Int)⟩ : G_api_Cell), (⟨0, ([] : List Int)⟩ : G_api_Cell)] : List G_api_Cell) (h108.mono l113) h112 h115) ?_
      rintro v121 c120 l120 ⟨O117, rfl⟩
      refine va (.bool x_35) ?_
      refine wln ?_
      refine W.ret ?_
      obtain rfl := Option.some.inj H
      have O122 := O117.selD 7 [] (by kernel_rfl) (by kernel_rfl)
      exact ret1 (v := .bool x_35) rfl (by kernel_rfl) ⟨_, c120, rfl, rfl, (l4.trans (l11.trans (l16.trans (l21.trans (l25.trans (l35.trans (l39.trans (l45.trans (l49.trans (l60.trans (l65.trans (l78.trans (l88.trans (l93.trans (l100.trans (l105.trans (l109.trans (l113.trans l120)))))))))))))))))), G74, O122, (R76.mono (l88.trans (l93.trans (l100.trans (l105.trans (l109.trans (l113.trans l120))))))), rfl⟩

def f_linotypelaw27_do (sg : Sto) (p0 : Option Nat) (p1 : G_linotypelaw27_Act) : Option (Sto) :=
  if p1.Delete = true then
  (f_shift_Delete sg p0 p1.Col p1.N).bind fun x_11 =>
  some x_11
  else
  (f_shift_Insert sg p0 p1.Col p1.N).bind fun x_18 =>
  some x_18
theorem c_linotypelaw27_do {c0 : Cx} {G : Gm} {F : List En} {sg : Sto} {v1 : Value} (O0 : Own c0 G F) (R0 : Rel c0 sg G) (hG : Gl [0, 1] c0) (p0 : Option Nat) (p1 : G_linotypelaw27_Act) {r : Sto} (h2 : Pt 0 c0 v1 p0) (H : f_linotypelaw27_do sg p0 p1 = some r) :
    Calls Tryd.prog 69 #[v1, .agg #[.bool p1.Delete, .int .i64 p1.Col, .int .i64 p1.N]] c0.w (Post c0 fun c v => ∃ G_ : Gm, Own c G_ (F) ∧ Rel c r G_ ∧ v = .tuple #[]) := by
  unfold f_linotypelaw27_do at H
  refine enter (l := [v1, .agg #[.bool p1.Delete, .int .i64 p1.Col, .int .i64 p1.N]]) Tryd.func69 rfl rfl rfl ?_
  refine sr ?_
  refine WL.mem rfl (Own.bx (T := 112) (vs := [.bool p1.Delete, .int .i64 p1.Col, .int .i64 p1.N]) O0 (by kernel_rfl)) ?_
  rintro v7 c6 l6 ⟨b3, rfl, O4, m5⟩
  refine wln ?_
  refine sr ?_
  refine va (.pointer (some ⟨b3, 0, none⟩)) ?_
  refine WL.val0 (v := .bool p1.Delete) rfl (rx (by kernel_rfl) (run_load1 Tryd.underlying4 rfl (m5 0 _ rfl))) ?_
  refine wln ?_
  refine W.cond (t := p1.Delete) (by kernel_rfl) (fun h8 => ?_) (fun h8 => ?_)
  · have H := it h8 H
    refine W.region ?_
    refine va (v1) ?_
    refine va (.pointer (some ⟨b3, 0 + 1, none⟩)) ?_
    refine WL.val0 (v := .int .i64 p1.Col) rfl (rx (by kernel_rfl) (run_load1 Tryd.underlying3 rfl (m5 1 _ rfl))) ?_
    refine va (.pointer (some ⟨b3, 0 + 2, none⟩)) ?_
    refine WL.val0 (v := .int .i64 p1.N) rfl (rx (by kernel_rfl) (run_load1 Tryd.underlying3 rfl (m5 2 _ rfl))) ?_
    obtain ⟨x_11, h9, H⟩ := bs H
    refine WL.callP rfl (by kernel_rfl) (c_shift_Delete O4 (R0.mono l6) ((hG.mono l6).le (by decide)) p0 p1.Col p1.N (h2.mono l6) h9) ?_
    rintro v15 c14 l14 ⟨G10, O11, R12, rfl⟩
    refine WL.nil ?_
    obtain rfl := Option.some.inj H
    exact end0 rfl ⟨_, c14, rfl, rfl, (l6.trans l14), G10, O11, R12, rfl⟩
  · have H := ie h8 H
    refine W.region ?_
    refine va (v1) ?_
    refine va (.pointer (some ⟨b3, 0 + 1, none⟩)) ?_
    refine WL.val0 (v := .int .i64 p1.Col) rfl (rx (by kernel_rfl) (run_load1 Tryd.underlying3 rfl (m5 1 _ rfl))) ?_
    refine va (.pointer (some ⟨b3, 0 + 2, none⟩)) ?_
    refine WL.val0 (v := .int .i64 p1.N) rfl (rx (by kernel_rfl) (run_load1 Tryd.underlying3 rfl (m5 2 _ rfl))) ?_
    obtain ⟨x_18, h16, H⟩ := bs H
    refine WL.callP rfl (by kernel_rfl) (c_shift_Insert O4 (R0.mono l6) ((hG.mono l6).le (by decide)) p0 p1.Col p1.N (h2.mono l6) h16) ?_
    rintro v22 c21 l21 ⟨G17, O18, R19, rfl⟩
    refine WL.nil ?_
    obtain rfl := Option.some.inj H
    exact end0 rfl ⟨_, c21, rfl, rfl, (l6.trans l21), G17, O18, R19, rfl⟩

def f_linotyperef27_torn (p0 : List G_api_Cell) (p1 : Int) : Option (List G_api_Cell) :=
  (iter (σ := (List G_api_Cell) × Int) (τ := (List G_api_Cell)) (((p0.length : Int) - 0).toNat + 1) (fun s_7 =>
  if (decide (s_7.2 < (p0.length : Int))) = true then
  (idx p0 s_7.2).bind fun x_15 =>
  ((andE (decide (p1 < (p0.length : Int))) ((idx p0 p1).bind fun x_29 =>
  some (x_29.Kind == 3))).bind fun d_25 =>
  (andE d_25 ((orE (s_7.2 == p1) (some ((w64 (s_7.2 + 1)) == p1))).bind fun d_38 =>
  some d_38)).bind fun d_33 =>
  if d_33 = true then
  (some (0, ([] : List Int)) : Option (Int × (List Int)))
  else
  (some (x_15.Kind, x_15.Text) : Option (Int × (List Int)))).bind fun z_20 =>
  (app s_7.1 ([(⟨z_20.1, z_20.2⟩ : G_api_Cell)] : List G_api_Cell)).bind fun x_51 =>
  some (.inl (x_51, (w64 (s_7.2 + 1))))
  else
  some (.inr (s_7.1))) (([] : List G_api_Cell), 0)).bind fun o_7 =>
  some o_7
theorem c_linotyperef27_torn {c0 : Cx} {G : Gm} {F : List En} {v1 : Value} (O0 : Own c0 G F) (p0 : List G_api_Cell) (p1 : Int) {r : List G_api_Cell} (h2 : Sl R_api_Cell c0 v1 p0) (H : f_linotyperef27_torn p0 p1 = some r) :
    Calls Tryd.prog 124 #[v1, .int .i64 p1] c0.w (Post c0 fun c v => ∃ y1 : Value, ∃ y2 : List Value, Own c G (es true R_api_Cell y1 27 y2 r :: F) ∧ v = y1 ∧ OA R_api_Cell c y1 y2 r) := by
  unfold f_linotyperef27_torn at H
  refine enter (l := [v1, .int .i64 p1]) Tryd.func124 rfl rfl rfl ?_
  refine sr ?_
  refine va (.slice none 0 0) ?_
  refine wln ?_
  refine sr ?_
  refine va (.slice none 0 0) ?_
  refine wln ?_
  refine W.seq ?_
  refine sr ?_
  refine va (.int .i64 0) ?_
  refine wln ?_
  refine W.block ?_
  obtain ⟨o_7, h3, H4⟩ := bs H
  refine W.loop (σ := (List G_api_Cell) × Int) (τ := (List G_api_Cell)) (fun s_7 => fun e w => ∃ (c : Cx) (g : Nat → Value) (v5 : Value) (u6 : List Value), w = c.w ∧ c0.le c ∧ Own c G (es true R_api_Cell v5 27 u6 s_7.1 :: F) ∧ e = ups g [(0, v1), (1, .int .i64 p1), (5, v5), (6, .int .i64 s_7.2)] ∧ OA R_api_Cell c v5 u6 s_7.1) (fun o_7_ ex e w => ex = .exit 0 ∧ (fun e w => ∃ (c : Cx) (g : Nat → Value) (v7 : Value) (u8 : List Value), w = c.w ∧ c0.le c ∧ Own c G (es true R_api_Cell v7 27 u8 o_7_ :: F) ∧ e = ups g [(5, v7)] ∧ OA R_api_Cell c v7 u8 o_7_) e w) ?_ h3 ?_ ?_
  · clear H4 h3
    intro s_7 xx_ ee_ ww_ H
    revert ee_ ww_
    rintro e_ w_ ⟨c9, g10, v5, u6, rfl, l9, O11, rfl, h12⟩
    refine W.seq ?_
    refine sr ?_
    refine va (.int .i64 s_7.2) ?_
    refine va (v1) ?_
    refine WL.val0 (v := .int .i64 (p0.length : Int)) rfl (rx (by kernel_rfl) (run_len (ty := 3) Tryd.underlying22 (h2.mono l9) _)) ?_
    refine va (.bool (decide (s_7.2 < (p0.length : Int)))) ?_
    refine wln ?_
    refine W.cond (t := decide (s_7.2 < (p0.length : Int))) (by kernel_rfl) (fun h16 => ?_) (fun h16 => ?_)
    · have H := it h16 H
      refine W.skip ?_
      refine nrm ?_
      refine W.seq ?_
      refine W.block ?_
      refine sr ?_
      refine va (v1) ?_
      refine va (.int .i64 s_7.2) ?_
      obtain ⟨x_15, h17, H⟩ := bs H
      obtain ⟨l_18, h19, m20⟩ := Sl.at (h2.mono l9) (idx_get h17)
      obtain ⟨v21, rfl, h22⟩ := h19
      refine WL.val0 (v := .pointer (some ⟨sb v1, so v1 + s_7.2.toNat * 2, none⟩)) rfl (rx (by kernel_rfl) (run_index (k := .i64) Tryd.underlying22 (by kernel_rfl) (h2.mono l9) h17 _)) ?_
      refine WL.val0 (v := .agg #[.int .i64 x_15.Kind, v21]) rfl (rx (by kernel_rfl) (run_loadN (T := 27) (by kernel_rfl) (by kernel_rfl) m20)) ?_
      refine WL.mem rfl (Own.al (T := 27) (vs := [.int .i64 0, .slice none 0 0]) O11 (by kernel_rfl)) ?_
      rintro v26 c25 l25 ⟨b23, rfl, O24⟩
      obtain ⟨a27, a28, a29, rfl⟩ := ((h22.mono l25)).form
      refine WL.memD rfl (Own.st (T := 27) (j := 0) (us := [.int .i64 x_15.Kind, .slice a27 a28 a29]) (nw := [.int .i64 x_15.Kind, .slice a27 a28 a29]) (v := .agg #[.int .i64 x_15.Kind, .slice a27 a28 a29]) 0 O24 (by kernel_rfl) rfl rfl rfl rfl (by kernel_rfl) ⟨rfl, (h22.mono l25).one, trivial⟩ rfl rfl) ?_
      rintro c31 l31 O30
      refine wln ?_
      obtain ⟨z_20, H32, H33⟩ := bs H
      refine W.seqJ (fun e w => ∃ (c : Cx) (g : Nat → Value) (v34 : Value), w = c.w ∧ c31.le c ∧ Own c G (⟨.pointer (some ⟨b23, 0, none⟩), 27, [.int .i64 z_20.1, v34], 0⟩ :: es true R_api_Cell v5 27 u6 s_7.1 :: F) ∧ e = ups g [(0, v1), (1, .int .i64 p1), (5, v5), (6, .int .i64 s_7.2), (7, .pointer (some ⟨b23, 0, none⟩))] ∧ Sl (RI .i32) c v34 z_20.2) ?_ ?_
      · skip
        refine W.seq ?_
        obtain ⟨d_25, h35, H32⟩ := bs H32
        obtain ⟨d_33, h36, H32⟩ := bs H32
        refine W.join (fun e w => ∃ (c : Cx) (g : Nat → Value), w = c.w ∧ c31.le c ∧ Own c G (⟨.pointer (some ⟨b23, 0, none⟩), 27, [.int .i64 x_15.Kind, .slice a27 a28 a29], 0⟩ :: es true R_api_Cell v5 27 u6 s_7.1 :: F) ∧ e = ups g [(0, v1), (1, .int .i64 p1), (5, v5), (6, .int .i64 s_7.2), (7, .pointer (some ⟨b23, 0, none⟩)), (40, .bool d_33)]) ?_ ?_
        · clear H32
          refine W.region ?_
          refine va (.int .i64 p1) ?_
          refine va (v1) ?_
          refine WL.val0 (v := .int .i64 (p0.length : Int)) rfl (rx (by kernel_rfl) (run_len (ty := 3) Tryd.underlying22 (h2.mono (l9.trans (l25.trans l31))) _)) ?_
          refine va (.bool (decide (p1 < (p0.length : Int)))) ?_
          rcases Bool.eq_false_or_eq_true (decide (p1 < (p0.length : Int))) with h37 | h37
          · skip
            have H38 := anT h37 h35
            refine vb h37 ?_
            refine wn ?_
            refine va (v1) ?_
            refine wn ?_
            refine va (.int .i64 p1) ?_
            refine wn ?_
            obtain ⟨x_29, h39, H38⟩ := bs H38
            obtain ⟨l_40, h41, m42⟩ := Sl.at (h2.mono (l9.trans (l25.trans l31))) (idx_get h39)
            obtain ⟨v43, rfl, h44⟩ := h41
            refine WL.val0 (v := .pointer (some ⟨sb v1, so v1 + p1.toNat * 2, none⟩)) rfl (rx (by kernel_rfl) (run_index (k := .i64) Tryd.underlying22 (by kernel_rfl) (h2.mono (l9.trans (l25.trans l31))) h39 _)) ?_
            refine wn ?_
            refine va (.pointer (some ⟨sb v1, so v1 + p1.toNat * 2, none⟩)) ?_
            refine wn ?_
            refine WL.val0 (v := .int .i64 x_29.Kind) rfl (rx (by kernel_rfl) (run_load1 Tryd.underlying3 rfl (m42 0 _ rfl))) ?_
            refine wn ?_
            refine va (.bool (x_29.Kind == 3)) ?_
            obtain rfl := Option.some.inj H38
            refine va (.bool (x_29.Kind == 3)) ?_
            rcases Bool.eq_false_or_eq_true (x_29.Kind == 3) with h45 | h45
            · skip
              have H46 := anT h45 h36
              refine vb h45 ?_
              refine wn ?_
              refine va (.int .i64 s_7.2) ?_
              refine wn ?_
              refine va (.int .i64 p1) ?_
              refine wn ?_
              refine va (.bool (s_7.2 == p1)) ?_
              refine wn ?_
              obtain ⟨d_38, h47, H46⟩ := bs H46
              rcases Bool.eq_false_or_eq_true (s_7.2 == p1) with h48 | h48
              · skip
                obtain rfl := orT h48 h47
                refine vb h48 ?_
                refine ps ?_
                refine ps ?_
                refine ps ?_
                refine ps ?_
                refine wn ?_
                refine va (.bool true) ?_
                obtain rfl := Option.some.inj H46
                refine va (.bool true) ?_
                refine wln ?_
                exact ⟨c31, _, rfl, (Cx.le.refl _), O30, ups_self ⟨rfl, rfl, rfl, rfl, rfl, rfl, trivial⟩⟩
              · skip
                have H49 := orF h48 h47
                refine vb h48 ?_
                refine wn ?_
                refine va (.int .i64 s_7.2) ?_
                refine wn ?_
                refine va (.int .i64 (w64 (s_7.2 + 1))) ?_
                refine wn ?_
                refine va (.int .i64 p1) ?_
                refine wn ?_
                refine va (.bool ((w64 (s_7.2 + 1)) == p1)) ?_
                refine wn ?_
                obtain rfl := Option.some.inj H49
                refine va (.bool ((w64 (s_7.2 + 1)) == p1)) ?_
                obtain rfl := Option.some.inj H46
                refine va (.bool ((w64 (s_7.2 + 1)) == p1)) ?_
                refine wln ?_
                exact ⟨c31, _, rfl, (Cx.le.refl _), O30, ups_self ⟨rfl, rfl, rfl, rfl, rfl, rfl, trivial⟩⟩
            · skip
              obtain rfl := anF h45 h36
              refine vb h45 ?_
              refine ps ?_
              refine ps ?_
              refine ps ?_
              refine ps ?_
              refine ps ?_
              refine ps ?_
              refine ps ?_
              refine ps ?_
              refine ps ?_
              refine va (.bool false) ?_
              refine wln ?_
              exact ⟨c31, _, rfl, (Cx.le.refl _), O30, ups_self ⟨rfl, rfl, rfl, rfl, rfl, rfl, trivial⟩⟩
          · skip
            obtain rfl := anF h37 h35
            refine vb h37 ?_
            refine ps ?_
            refine ps ?_
            refine ps ?_
            refine ps ?_
            refine ps ?_
            refine ps ?_
            refine va (.bool false) ?_
            have h50 : false = false := rfl
            obtain rfl := anF h50 h36
            refine vb h50 ?_
            refine ps ?_
            refine ps ?_
            refine ps ?_
            refine ps ?_
            refine ps ?_
            refine ps ?_
            refine ps ?_
            refine ps ?_
            refine ps ?_
            refine va (.bool false) ?_
            refine wln ?_
            exact ⟨c31, _, rfl, (Cx.le.refl _), O30, ups_self ⟨rfl, rfl, rfl, rfl, rfl, rfl, trivial⟩⟩
        · skip
          rintro e_ w_ ⟨c51, g52, rfl, l51, O53, rfl⟩
          refine nrm ?_
          refine W.cond (t := d_33) (by kernel_rfl) (fun h57 => ?_) (fun h57 => ?_)
          · have H32 := it h57 H32
            refine W.region ?_
            refine va (.agg #[.int .i64 0, .slice none 0 0]) ?_
            refine WL.memD rfl (Own.st (T := 27) (j := 0) (us := [.int .i64 0, .slice none 0 0]) (nw := [.int .i64 0, .slice none 0 0]) (v := .agg #[.int .i64 0, .slice none 0 0]) 0 O53 (by kernel_rfl) rfl rfl rfl rfl (by kernel_rfl) ⟨rfl, rfl, trivial⟩ rfl rfl) ?_
            rintro c59 l59 O58
            refine wln ?_
            obtain rfl := Option.some.inj H32
            exact ⟨c59, _, (.slice none 0 0), rfl, (l51.trans l59), O58, ups_self ⟨rfl, rfl, rfl, rfl, rfl, trivial⟩, (Sl.nl _ _)⟩
          · have H32 := ie h57 H32
            refine W.skip ?_
            refine nrm ?_
            obtain rfl := Option.some.inj H32
            exact ⟨c51, _, (.slice a27 a28 a29), rfl, l51, O53, ups_self ⟨rfl, rfl, rfl, rfl, rfl, trivial⟩, (h22.mono (l25.trans (l31.trans l51)))⟩
      · skip
        rintro e_ w_ ⟨c60, g61, v34, rfl, l60, O62, rfl, h63⟩
        refine W.region ?_
        refine va (v5) ?_
        refine WL.val0 (v := .agg #[.int .i64 z_20.1, v34]) rfl (rx (by kernel_rfl) (ldEN (T := 27) (j := 0) (l := [.int .i64 z_20.1, v34]) (by kernel_rfl) (by kernel_rfl) (O62.on 0 rfl) rfl rfl)) ?_
        obtain ⟨a67, a68, a69, rfl⟩ := (h63).form
        refine WL.mem rfl (Own.sl (R := R_api_Cell) (E := 27) (ls := [[.int .i64 z_20.1, .slice a67 a68 a69]]) (vs := [.int .i64 z_20.1, .slice a67 a68 a69]) (xs := ([(⟨z_20.1, z_20.2⟩ : G_api_Cell)] : List G_api_Cell)) true O62 (Nat.succ_pos _) rfl ⟨⟨(.slice a67 a68 a69), rfl, h63⟩, trivial⟩ (by kernel_rfl) (by kernel_rfl)) ?_
        rintro v74 c73 l73 ⟨u71, O70, h72⟩
        obtain ⟨c77, h78, l77, O75, h76⟩ := O70.frz 0 rfl h72
        refine WL.gh h78 ?_
        obtain ⟨x_51, h79, H33⟩ := bs H33
        refine WL.mem rfl (Own.app (R := R_api_Cell) (z := .agg #[.int .i64 0, .slice none 0 0]) (by_ := 32) (ty := 22) 2 O75 rfl (h12.mono (l25.trans (l31.trans (l60.trans (l73.trans l77))))) h76 h79 Tryd.underlying22 (by kernel_rfl) rfl (by kernel_rfl) (by kernel_rfl)) ?_
        rintro v84 c83 l83 ⟨u81, O80, h82⟩
        refine va (v84) ?_
        refine WL.nil ?_
        refine bkn ?_
        refine nrm ?_
        refine W.region ?_
        refine va (.int .i64 s_7.2) ?_
        refine va (.int .i64 (w64 (s_7.2 + 1))) ?_
        refine va (.int .i64 (w64 (s_7.2 + 1))) ?_
        refine WL.nil ?_
        obtain rfl := Option.some.inj H33
        refine ⟨_, rfl, ?_⟩
        have O85 := O80.selD 3 [2] (by kernel_rfl) (by kernel_rfl)
        exact ⟨c83, _, v84, u81, rfl, (l9.trans (l25.trans (l31.trans (l60.trans (l73.trans (l77.trans l83)))))), O85, ups_self ⟨rfl, rfl, rfl, rfl, trivial⟩, h82⟩
    · have H := ie h16 H
      refine W.exit ?_
      refine thx ?_
      obtain rfl := Option.some.inj H
      refine ⟨_, rfl, rfl, ?_⟩
      exact ⟨c9, _, v5, u6, rfl, l9, O11, ups_self ⟨rfl, trivial⟩, h12⟩
  · skip
    have h87 : OA R_api_Cell c0 (.slice none 0 0) [] [] := OA.nil (Nat.succ_pos _)
    have O86 := O0.addHole (e := es true R_api_Cell (.slice none 0 0) 27 [] ([] : List G_api_Cell)) rfl
    exact ⟨c0, _, (.slice none 0 0), [], rfl, (Cx.le.refl _), O86, ups_self ⟨rfl, rfl, rfl, rfl, trivial⟩, h87⟩
  · skip
    rintro _ e_ w_ ⟨rfl, c88, g89, v7, u8, rfl, l88, O90, rfl, h91⟩
    refine bke ?_
    refine nrm ?_
    refine sr ?_
    refine va (v7) ?_
    refine va (v7) ?_
    refine wln ?_
    refine W.ret ?_
    obtain rfl := Option.some.inj H4
    exact ret1 (v := v7) rfl (by kernel_rfl) ⟨_, c88, rfl, rfl, l88, v7, u8, O90, rfl, h91⟩

def f_linotyperef27_Insert (p0 : List G_api_Cell) (p1 : Int) (p2 : Int) : Option ((List G_api_Cell) × Bool) :=
  (orE (decide (p1 < 0)) (some (decide (p1 ≥ (p0.length : Int))))).bind fun d_6 =>
  (orE d_6 (some (decide (p2 < 1)))).bind fun d_12 =>
  if d_12 = true then
  some (p0, false)
  else
  (f_linotyperef27_torn p0 p1).bind fun x_31 =>
  (iter (σ := (List G_api_Cell) × Int) (τ := (List G_api_Cell)) (((p0.length : Int) - 0).toNat + 1) (fun s_38 =>
  if (decide (s_38.2 < (p0.length : Int))) = true then
  (if (decide (s_38.2 < p1)) = true then
  (idx x_31 s_38.2).bind fun x_55 =>
  (some (x_55.Kind, x_55.Text) : Option (Int × (List Int)))
  else
  (some (0, ([] : List Int)) : Option (Int × (List Int)))).bind fun z_48 =>
  (if (decide (s_38.2 ≥ (w64 (p1 + (imin p2 (w64 ((p0.length : Int) - p1))))))) = true then
  (idx x_31 (w64 (s_38.2 - (imin p2 (w64 ((p0.length : Int) - p1)))))).bind fun x_70 =>
  (some (x_70.Kind, x_70.Text) : Option (Int × (List Int)))
  else
  (some (z_48.1, z_48.2) : Option (Int × (List Int)))).bind fun z_59 =>
  ((andE ((w64 (s_38.2 + 1)) == (p0.length : Int)) (some (z_59.1 == 2))).bind fun d_80 =>
  if d_80 = true then
  (some (0, ([] : List Int)) : Option (Int × (List Int)))
  else
  (some (z_59.1, z_59.2) : Option (Int × (List Int)))).bind fun z_74 =>
  (app s_38.1 ([(⟨z_74.1, z_74.2⟩ : G_api_Cell)] : List G_api_Cell)).bind fun x_92 =>
  some (.inl (x_92, (w64 (s_38.2 + 1))))
  else
  some (.inr (s_38.1))) (([] : List G_api_Cell), 0)).bind fun o_38 =>
  some (o_38, true)
theorem c_linotyperef27_Insert {c0 : Cx} {G : Gm} {F : List En} {v1 : Value} (O0 : Own c0 G F) (p0 : List G_api_Cell) (p1 : Int) (p2 : Int) {r : (List G_api_Cell) × Bool} (h2 : Sl R_api_Cell c0 v1 p0) (H : f_linotyperef27_Insert p0 p1 p2 = some r) :
    Calls Tryd.prog 68 #[v1, .int .i64 p1, .int .i64 p2] c0.w (Post c0 fun c v => ∃ y1 : Value, Own c G (F) ∧ v = .tuple #[y1, .bool r.2] ∧ Sl R_api_Cell c y1 r.1) := by
  unfold f_linotyperef27_Insert at H
  refine enter (l := [v1, .int .i64 p1, .int .i64 p2]) Tryd.func68 rfl rfl rfl ?_
  refine sr ?_
  refine va (.slice none 0 0) ?_
  refine va (.bool false) ?_
  refine wln ?_
  refine W.seq ?_
  refine W.seq ?_
  obtain ⟨d_6, h3, H⟩ := bs H
  obtain ⟨d_12, h4, H⟩ := bs H
  refine W.join (fun e w => ∃ (c : Cx) (g : Nat → Value), w = c.w ∧ c0.le c ∧ Own c G (F) ∧ e = ups g [(0, v1), (1, .int .i64 p1), (2, .int .i64 p2), (23, .bool d_12)]) ?_ ?_
  · clear H
    refine W.region ?_
    refine va (.int .i64 p1) ?_
    refine va (.bool (decide (p1 < 0))) ?_
    rcases Bool.eq_false_or_eq_true (decide (p1 < 0)) with h5 | h5
    · skip
      obtain rfl := orT h5 h3
      refine vb h5 ?_
      refine ps ?_
      refine ps ?_
      refine ps ?_
      refine ps ?_
      refine va (.bool true) ?_
      have h6 : true = true := rfl
      obtain rfl := orT h6 h4
      refine vb h6 ?_
      refine ps ?_
      refine ps ?_
      refine va (.bool true) ?_
      refine wln ?_
      exact ⟨c0, _, rfl, (Cx.le.refl _), O0, ups_self ⟨rfl, rfl, rfl, rfl, trivial⟩⟩
    · skip
      have H7 := orF h5 h3
      refine vb h5 ?_
      refine wn ?_
      refine va (.int .i64 p1) ?_
      refine wn ?_
      refine va (v1) ?_
      refine wn ?_
      refine WL.val0 (v := .int .i64 (p0.length : Int)) rfl (rx (by kernel_rfl) (run_len (ty := 3) Tryd.underlying22 h2 _)) ?_
      refine wn ?_
      refine va (.bool (decide (p1 ≥ (p0.length : Int)))) ?_
      obtain rfl := Option.some.inj H7
      refine va (.bool (decide (p1 ≥ (p0.length : Int)))) ?_
      rcases Bool.eq_false_or_eq_true (decide (p1 ≥ (p0.length : Int))) with h8 | h8
      · skip
        obtain rfl := orT h8 h4
        refine vb h8 ?_
        refine ps ?_
        refine ps ?_
        refine va (.bool true) ?_
        refine wln ?_
        exact ⟨c0, _, rfl, (Cx.le.refl _), O0, ups_self ⟨rfl, rfl, rfl, rfl, trivial⟩⟩
      · skip
        have H9 := orF h8 h4
        refine vb h8 ?_
        refine wn ?_
        refine va (.int .i64 p2) ?_
        refine wn ?_
        refine va (.bool (decide (p2 < 1))) ?_
        obtain rfl := Option.some.inj H9
        refine va (.bool (decide (p2 < 1))) ?_
        refine wln ?_
        exact ⟨c0, _, rfl, (Cx.le.refl _), O0, ups_self ⟨rfl, rfl, rfl, rfl, trivial⟩⟩
  · skip
    rintro e_ w_ ⟨c10, g11, rfl, l10, O12, rfl⟩
    refine nrm ?_
    refine W.cond (t := d_12) (by kernel_rfl) (fun h16 => ?_) (fun h16 => ?_)
    · have H := it h16 H
      refine sr ?_
      refine va (v1) ?_
      refine va (v1) ?_
      refine va (.bool false) ?_
      refine wln ?_
      refine W.ret ?_
      refine thr ?_
      obtain rfl := Option.some.inj H
      exact ret2 (v := v1) (v' := .bool false) rfl (by kernel_rfl) (by kernel_rfl) ⟨_, c10, rfl, rfl, l10, v1, O12, rfl, (h2.mono l10)⟩
    · have H := ie h16 H
      refine W.skip ?_
      refine nrm ?_
      refine sr ?_
      refine va (.int .i64 p2) ?_
      refine va (v1) ?_
      refine WL.val0 (v := .int .i64 (p0.length : Int)) rfl (rx (by kernel_rfl) (run_len (ty := 3) Tryd.underlying22 (h2.mono l10) _)) ?_
      refine va (.int .i64 p1) ?_
      refine va (.int .i64 (w64 ((p0.length : Int) - p1))) ?_
      refine va (.int .i64 (imin p2 (w64 ((p0.length : Int) - p1)))) ?_
      refine va (.int .i64 (imin p2 (w64 ((p0.length : Int) - p1)))) ?_
      refine wln ?_
      refine sr ?_
      refine va (v1) ?_
      refine va (.int .i64 p1) ?_
      obtain ⟨x_31, h17, H⟩ := bs H
      refine WL.callP rfl (by kernel_rfl) (c_linotyperef27_torn O12 p0 p1 (h2.mono l10) h17) ?_
      rintro v18 c25 l25 ⟨_, u19, O22, rfl, h20⟩
      refine va (v18) ?_
      refine wln ?_
      refine sr ?_
      refine va (.slice none 0 0) ?_
      refine wln ?_
      refine W.seq ?_
      refine sr ?_
      refine va (.int .i64 0) ?_
      refine wln ?_
      refine W.block ?_
      obtain ⟨o_38, h27, H28⟩ := bs H
      refine W.loop (σ := (List G_api_Cell) × Int) (τ := (List G_api_Cell)) (fun s_38 => fun e w => ∃ (c : Cx) (g : Nat → Value) (v29 : Value) (u30 : List Value), w = c.w ∧ c25.le c ∧ Own c G (es true R_api_Cell v29 27 u30 s_38.1 :: es true R_api_Cell v18 27 u19 x_31 :: F) ∧ e = ups g [(0, v1), (1, .int .i64 p1), (2, .int .i64 (imin p2 (w64 ((p0.length : Int) - p1)))), (8, v18), (9, v29), (10, .int .i64 s_38.2)] ∧ OA R_api_Cell c v29 u30 s_38.1) (fun o_38_ ex e w => ex = .exit 0 ∧ (fun e w => ∃ (c : Cx) (g : Nat → Value) (v31 : Value) (u32 : List Value), w = c.w ∧ c25.le c ∧ Own c G (es true R_api_Cell v31 27 u32 o_38_ :: es true R_api_Cell v18 27 u19 x_31 :: F) ∧ e = ups g [(9, v31)] ∧ OA R_api_Cell c v31 u32 o_38_) e w) ?_ h27 ?_ ?_
      · clear H28 h27
        intro s_38 xx_ ee_ ww_ H
        revert ee_ ww_
        rintro e_ w_ ⟨c33, g34, v29, u30, rfl, l33, O35, rfl, h36⟩
        refine W.seq ?_
        refine sr ?_
        refine va (.int .i64 s_38.2) ?_
        refine va (v1) ?_
        refine WL.val0 (v := .int .i64 (p0.length : Int)) rfl (rx (by kernel_rfl) (run_len (ty := 3) Tryd.underlying22 (h2.mono (l10.trans (l25.trans l33))) _)) ?_
        refine va (.bool (decide (s_38.2 < (p0.length : Int)))) ?_
        refine wln ?_
        refine W.cond (t := decide (s_38.2 < (p0.length : Int))) (by kernel_rfl) (fun h40 => ?_) (fun h40 => ?_)
        · have H := it h40 H
          refine W.skip ?_
          refine nrm ?_
          refine W.seq ?_
          refine W.block ?_
          refine sr ?_
          refine va (.agg #[.int .i64 0, .slice none 0 0]) ?_
          refine WL.mem rfl (Own.al (T := 27) (vs := [.int .i64 0, .slice none 0 0]) O35 (by kernel_rfl)) ?_
          rintro v44 c43 l43 ⟨b41, rfl, O42⟩
          refine WL.memD rfl (Own.st (T := 27) (j := 0) (us := [.int .i64 0, .slice none 0 0]) (nw := [.int .i64 0, .slice none 0 0]) (v := .agg #[.int .i64 0, .slice none 0 0]) 0 O42 (by kernel_rfl) rfl rfl rfl rfl (by kernel_rfl) ⟨rfl, rfl, trivial⟩ rfl rfl) ?_
          rintro c46 l46 O45
          refine wln ?_
          obtain ⟨z_48, H47, H48⟩ := bs H
          refine W.seqJ (fun e w => ∃ (c : Cx) (g : Nat → Value) (v49 : Value), w = c.w ∧ c46.le c ∧ Own c G (⟨.pointer (some ⟨b41, 0, none⟩), 27, [.int .i64 z_48.1, v49], 0⟩ :: es true R_api_Cell v29 27 u30 s_38.1 :: es true R_api_Cell v18 27 u19 x_31 :: F) ∧ e = ups g [(0, v1), (1, .int .i64 p1), (2, .int .i64 (imin p2 (w64 ((p0.length : Int) - p1)))), (8, v18), (9, v29), (10, .int .i64 s_38.2), (11, .pointer (some ⟨b41, 0, none⟩))] ∧ Sl (RI .i32) c v49 z_48.2) ?_ ?_
          · skip
            refine sr ?_
            refine va (.int .i64 s_38.2) ?_
            refine va (.int .i64 p1) ?_
            refine va (.bool (decide (s_38.2 < p1))) ?_
            refine wln ?_
            refine W.cond (t := decide (s_38.2 < p1)) (by kernel_rfl) (fun h50 => ?_) (fun h50 => ?_)
            · have H47 := it h50 H47
              refine W.region ?_
              refine va (v18) ?_
              refine va (.int .i64 s_38.2) ?_
              obtain ⟨x_55, h51, H47⟩ := bs H47
              refine WL.val0 (v := .pointer (some ⟨sb v18, s_38.2.toNat * 2, none⟩)) rfl (rx (by kernel_rfl) (run_indexO (k := .i64) Tryd.underlying22 (by kernel_rfl) (h20.mono (l33.trans (l43.trans l46))) h51 _)) ?_
              obtain ⟨l_52, h53, m54⟩ := OA.at (h20.mono (l33.trans (l43.trans l46))) h51
              obtain ⟨v55, rfl, h56⟩ := h53
              refine WL.val0 (v := .agg #[.int .i64 x_55.Kind, v55]) rfl (rx (by kernel_rfl) (ldEN (T := 27) (l := [.int .i64 x_55.Kind, v55]) (by kernel_rfl) (by kernel_rfl) (O45.on 2 rfl) ((h20.mono (l33.trans (l43.trans l46))).blk h51) (at2 (j := 0) m54 rfl))) ?_
              obtain ⟨a57, a58, a59, rfl⟩ := (h56).form
              refine WL.memD rfl (Own.st (T := 27) (j := 0) (us := [.int .i64 x_55.Kind, .slice a57 a58 a59]) (nw := [.int .i64 x_55.Kind, .slice a57 a58 a59]) (v := .agg #[.int .i64 x_55.Kind, .slice a57 a58 a59]) 0 O45 (by kernel_rfl) rfl rfl rfl rfl (by kernel_rfl) ⟨rfl, h56.one, trivial⟩ rfl rfl) ?_
              rintro c61 l61 O60
              refine wln ?_
              obtain rfl := Option.some.inj H47
              exact ⟨c61, _, (.slice a57 a58 a59), rfl, l61, O60, ups_self ⟨rfl, rfl, rfl, rfl, rfl, rfl, rfl, trivial⟩, (h56.mono l61)⟩
            · have H47 := ie h50 H47
              refine W.skip ?_
              refine nrm ?_
              obtain rfl := Option.some.inj H47
              exact ⟨c46, _, (.slice none 0 0), rfl, (Cx.le.refl _), O45, ups_self ⟨rfl, rfl, rfl, rfl, rfl, rfl, rfl, trivial⟩, (Sl.nl _ _)⟩
          · skip
            rintro e_ w_ ⟨c62, g63, v49, rfl, l62, O64, rfl, h65⟩
            obtain ⟨z_59, H69, H70⟩ := bs H48
            refine W.seqJ (fun e w => ∃ (c : Cx) (g : Nat → Value) (v71 : Value), w = c.w ∧ c62.le c ∧ Own c G (⟨.pointer (some ⟨b41, 0, none⟩), 27, [.int .i64 z_59.1, v71], 0⟩ :: es true R_api_Cell v29 27 u30 s_38.1 :: es true R_api_Cell v18 27 u19 x_31 :: F) ∧ e = ups g [(0, v1), (1, .int .i64 p1), (2, .int .i64 (imin p2 (w64 ((p0.length : Int) - p1)))), (8, v18), (9, v29), (10, .int .i64 s_38.2), (11, .pointer (some ⟨b41, 0, none⟩))] ∧ Sl (RI .i32) c v71 z_59.2) ?_ ?_
            · skip
              refine sr ?_
              refine va (.int .i64 s_38.2) ?_
              refine va (.int .i64 p1) ?_
              refine va (.int .i64 (imin p2 (w64 ((p0.length : Int) - p1)))) ?_
              refine va (.int .i64 (w64 (p1 + (imin p2 (w64 ((p0.length : Int) - p1)))))) ?_
              refine va (.bool (decide (s_38.2 ≥ (w64 (p1 + (imin p2 (w64 ((p0.length : Int) - p1)))))))) ?_
              refine wln ?_
              refine W.cond (t := decide (s_38.2 ≥ (w64 (p1 + (imin p2 (w64 ((p0.length : Int) - p1))))))) (by kernel_rfl) (fun h72 => ?_) (fun h72 => ?_)
              · have H69 := it h72 H69
                refine W.region ?_
                refine va (v18) ?_
                refine va (.int .i64 s_38.2) ?_
                refine va (.int .i64 (imin p2 (w64 ((p0.length : Int) - p1)))) ?_
                refine va (.int .i64 (w64 (s_38.2 - (imin p2 (w64 ((p0.length : Int) - p1)))))) ?_
                obtain ⟨x_70, h73, H69⟩ := bs H69
                refine WL.val0 (v := .pointer (some ⟨sb v18, (w64 (s_38.2 - (imin p2 (w64 ((p0.length : Int) - p1))))).toNat * 2, none⟩)) rfl (rx (by kernel_rfl) (run_indexO (k := .i64) Tryd.underlying22 (by kernel_rfl) (h20.mono (l33.trans (l43.trans (l46.trans l62)))) h73 _)) ?_
                obtain ⟨l_74, h75, m76⟩ := OA.at (h20.mono (l33.trans (l43.trans (l46.trans l62)))) h73
                obtain ⟨v77, rfl, h78⟩ := h75
                refine WL.val0 (v := .agg #[.int .i64 x_70.Kind, v77]) rfl (rx (by kernel_rfl) (ldEN (T := 27) (l := [.int .i64 x_70.Kind, v77]) (by kernel_rfl) (by kernel_rfl) (O64.on 2 rfl) ((h20.mono (l33.trans (l43.trans (l46.trans l62)))).blk h73) (at2 (j := 0) m76 rfl))) ?_
                obtain ⟨a79, a80, a81, rfl⟩ := (h78).form
                refine WL.memD rfl (Own.st (T := 27) (j := 0) (us := [.int .i64 x_70.Kind, .slice a79 a80 a81]) (nw := [.int .i64 x_70.Kind, .slice a79 a80 a81]) (v := .agg #[.int .i64 x_70.Kind, .slice a79 a80 a81]) 0 O64 (by kernel_rfl) rfl rfl rfl rfl (by kernel_rfl) ⟨rfl, h78.one, trivial⟩ rfl rfl) ?_
                rintro c83 l83 O82
                refine wln ?_
                obtain rfl := Option.some.inj H69
                exact ⟨c83, _, (.slice a79 a80 a81), rfl, l83, O82, ups_self ⟨rfl, rfl, rfl, rfl, rfl, rfl, rfl, trivial⟩, (h78.mono l83)⟩
              · have H69 := ie h72 H69
                refine W.skip ?_
                refine nrm ?_
                obtain rfl := Option.some.inj H69
                exact ⟨c62, _, v49, rfl, (Cx.le.refl _), O64, ups_self ⟨rfl, rfl, rfl, rfl, rfl, rfl, rfl, trivial⟩, h65⟩
            · skip
              rintro e_ w_ ⟨c84, g85, v71, rfl, l84, O86, rfl, h87⟩
              obtain ⟨z_74, H91, H92⟩ := bs H70
              refine W.seqJ (fun e w => ∃ (c : Cx) (g : Nat → Value) (v93 : Value), w = c.w ∧ c84.le c ∧ Own c G (⟨.pointer (some ⟨b41, 0, none⟩), 27, [.int .i64 z_74.1, v93], 0⟩ :: es true R_api_Cell v29 27 u30 s_38.1 :: es true R_api_Cell v18 27 u19 x_31 :: F) ∧ e = ups g [(0, v1), (1, .int .i64 p1), (2, .int .i64 (imin p2 (w64 ((p0.length : Int) - p1)))), (8, v18), (9, v29), (10, .int .i64 s_38.2), (11, .pointer (some ⟨b41, 0, none⟩))] ∧ Sl (RI .i32) c v93 z_74.2) ?_ ?_
              · skip
                refine W.seq ?_
                obtain ⟨d_80, h94, H91⟩ := bs H91
                refine W.join (fun e w => ∃ (c : Cx) (g : Nat → Value), w = c.w ∧ c84.le c ∧ Own c G (⟨.pointer (some ⟨b41, 0, none⟩), 27, [.int .i64 z_59.1, v71], 0⟩ :: es true R_api_Cell v29 27 u30 s_38.1 :: es true R_api_Cell v18 27 u19 x_31 :: F) ∧ e = ups g [(0, v1), (1, .int .i64 p1), (2, .int .i64 (imin p2 (w64 ((p0.length : Int) - p1)))), (8, v18), (9, v29), (10, .int .i64 s_38.2), (11, .pointer (some ⟨b41, 0, none⟩)), (68, .bool d_80)]) ?_ ?_
                · clear H91
                  refine W.region ?_
                  refine va (.int .i64 s_38.2) ?_
                  refine va (.int .i64 (w64 (s_38.2 + 1))) ?_
                  refine va (v1) ?_
                  refine WL.val0 (v := .int .i64 (p0.length : Int)) rfl (rx (by kernel_rfl) (run_len (ty := 3) Tryd.underlying22 (h2.mono (l10.trans (l25.trans (l33.trans (l43.trans (l46.trans (l62.trans l84))))))) _)) ?_
                  refine va (.bool ((w64 (s_38.2 + 1)) == (p0.length : Int))) ?_
                  rcases Bool.eq_false_or_eq_true ((w64 (s_38.2 + 1)) == (p0.length : Int)) with h95 | h95
                  · skip
                    have H96 := anT h95 h94
                    refine vb h95 ?_
                    refine wn ?_
                    refine va (.pointer (some ⟨b41, 0, none⟩)) ?_
                    refine wn ?_
                    refine WL.val0 (v := .int .i64 z_59.1) rfl (rx (by kernel_rfl) (ldE1 (j := 0) Tryd.underlying3 rfl (O86.on 0 rfl) rfl rfl)) ?_
                    refine wn ?_
                    refine va (.bool (z_59.1 == 2)) ?_
                    obtain rfl := Option.some.inj H96
                    refine va (.bool (z_59.1 == 2)) ?_
                    refine wln ?_
                    exact ⟨c84, _, rfl, (Cx.le.refl _), O86, ups_self ⟨rfl, rfl, rfl, rfl, rfl, rfl, rfl, rfl, trivial⟩⟩
                  · skip
                    obtain rfl := anF h95 h94
                    refine vb h95 ?_
                    refine ps ?_
                    refine ps ?_
                    refine ps ?_
                    refine va (.bool false) ?_
                    refine wln ?_
                    exact ⟨c84, _, rfl, (Cx.le.refl _), O86, ups_self ⟨rfl, rfl, rfl, rfl, rfl, rfl, rfl, rfl, trivial⟩⟩
                · skip
                  rintro e_ w_ ⟨c97, g98, rfl, l97, O99, rfl⟩
                  refine nrm ?_
                  refine W.cond (t := d_80) (by kernel_rfl) (fun h103 => ?_) (fun h103 => ?_)
                  · have H91 := it h103 H91
                    refine W.region ?_
                    refine va (.agg #[.int .i64 0, .slice none 0 0]) ?_
                    refine WL.memD rfl (Own.st (T := 27) (j := 0) (us := [.int .i64 0, .slice none 0 0]) (nw := [.int .i64 0, .slice none 0 0]) (v := .agg #[.int .i64 0, .slice none 0 0]) 0 O99 (by kernel_rfl) rfl rfl rfl rfl (by kernel_rfl) ⟨rfl, rfl, trivial⟩ rfl rfl) ?_
                    rintro c105 l105 O104
                    refine wln ?_
                    obtain rfl := Option.some.inj H91
                    exact ⟨c105, _, (.slice none 0 0), rfl, (l97.trans l105), O104, ups_self ⟨rfl, rfl, rfl, rfl, rfl, rfl, rfl, trivial⟩, (Sl.nl _ _)⟩
                  · have H91 := ie h103 H91
                    refine W.skip ?_
                    refine nrm ?_
                    obtain rfl := Option.some.inj H91
                    exact ⟨c97, _, v71, rfl, l97, O99, ups_self ⟨rfl, rfl, rfl, rfl, rfl, rfl, rfl, trivial⟩, (h87.mono l97)⟩
              · skip
                rintro e_ w_ ⟨c106, g107, v93, rfl, l106, O108, rfl, h109⟩
                refine W.region ?_
                refine va (v29) ?_
                refine WL.val0 (v := .agg #[.int .i64 z_74.1, v93]) rfl (rx (by kernel_rfl) (ldEN (T := 27) (j := 0) (l := [.int .i64 z_74.1, v93]) (by kernel_rfl) (by kernel_rfl) (O108.on 0 rfl) rfl rfl)) ?_
                obtain ⟨a113, a114, a115, rfl⟩ := (h109).form
                refine WL.mem rfl (Own.sl (R := R_api_Cell) (E := 27) (ls := [[.int .i64 z_74.1, .slice a113 a114 a115]]) (vs := [.int .i64 z_74.1, .slice a113 a114 a115]) (xs := ([(⟨z_74.1, z_74.2⟩ : G_api_Cell)] : List G_api_Cell)) true O108 (Nat.succ_pos _) rfl ⟨⟨(.slice a113 a114 a115), rfl, h109⟩, trivial⟩ (by kernel_rfl) (by kernel_rfl)) ?_
                rintro v120 c119 l119 ⟨u117, O116, h118⟩
                obtain ⟨c123, h124, l123, O121, h122⟩ := O116.frz 0 rfl h118
                refine WL.gh h124 ?_
                obtain ⟨x_92, h125, H92⟩ := bs H92
                refine WL.mem rfl (Own.app (R := R_api_Cell) (z := .agg #[.int .i64 0, .slice none 0 0]) (by_ := 32) (ty := 22) 2 O121 rfl (h36.mono (l43.trans (l46.trans (l62.trans (l84.trans (l106.trans (l119.trans l123))))))) h122 h125 Tryd.underlying22 (by kernel_rfl) rfl (by kernel_rfl) (by kernel_rfl)) ?_
                rintro v130 c129 l129 ⟨u127, O126, h128⟩
                refine va (v130) ?_
                refine WL.nil ?_
                refine bkn ?_
                refine nrm ?_
                refine W.region ?_
                refine va (.int .i64 s_38.2) ?_
                refine va (.int .i64 (w64 (s_38.2 + 1))) ?_
                refine va (.int .i64 (w64 (s_38.2 + 1))) ?_
                refine WL.nil ?_
                obtain rfl := Option.some.inj H92
                refine ⟨_, rfl, ?_⟩
                have O131 := O126.selD 4 [2, 3] (by kernel_rfl) (by kernel_rfl)
                exact ⟨c129, _, v130, u127, rfl, (l33.trans (l43.trans (l46.trans (l62.trans (l84.trans (l106.trans (l119.trans (l123.trans l129)))))))), O131, ups_self ⟨rfl, rfl, rfl, rfl, rfl, rfl, trivial⟩, h128⟩
        · have H := ie h40 H
          refine W.exit ?_
          refine thx ?_
          obtain rfl := Option.some.inj H
          refine ⟨_, rfl, rfl, ?_⟩
          exact ⟨c33, _, v29, u30, rfl, l33, O35, ups_self ⟨rfl, trivial⟩, h36⟩
      · skip
        have h133 : OA R_api_Cell c25 (.slice none 0 0) [] [] := OA.nil (Nat.succ_pos _)
        have O132 := O22.addHole (e := es true R_api_Cell (.slice none 0 0) 27 [] ([] : List G_api_Cell)) rfl
        exact ⟨c25, _, (.slice none 0 0), [], rfl, (Cx.le.refl _), O132, ups_self ⟨rfl, rfl, rfl, rfl, rfl, rfl, trivial⟩, h133⟩
      · skip
        rintro _ e_ w_ ⟨rfl, c134, g135, v31, u32, rfl, l134, O136, rfl, h137⟩
        refine bke ?_
        refine nrm ?_
        refine sr ?_
        refine va (v31) ?_
        refine va (v31) ?_
        refine va (.bool true) ?_
        refine wln ?_
        refine W.ret ?_
        obtain rfl := Option.some.inj H28
        obtain ⟨c143, h144, l143, O141, h142⟩ := O136.frz 0 rfl h137
        have O145 := O141.selD 2 [] (by kernel_rfl) (by kernel_rfl)
        refine bqgh h144 ?_
        exact ret2 (v := v31) (v' := .bool true) rfl (by kernel_rfl) (by kernel_rfl) ⟨_, c143, rfl, rfl, (l10.trans (l25.trans (l134.trans l143))), v31, O145, rfl, h142⟩

def f_linotyperef27_Delete (p0 : List G_api_Cell) (p1 : Int) (p2 : Int) : Option ((List G_api_Cell) × Bool) :=
  (orE (decide (p1 < 0)) (some (decide (p1 ≥ (p0.length : Int))))).bind fun d_6 =>
  (orE d_6 (some (decide (p2 < 1)))).bind fun d_12 =>
  if d_12 = true then
  some (p0, false)
  else
  (f_linotyperef27_torn p0 p1).bind fun x_31 =>
  (f_linotyperef27_torn x_31 (w64 (p1 + (imin p2 (w64 ((p0.length : Int) - p1)))))).bind fun x_35 =>
  (iter (σ := (List G_api_Cell) × Int) (τ := (List G_api_Cell)) (((p0.length : Int) - 0).toNat + 1) (fun s_42 =>
  if (decide (s_42.2 < (p0.length : Int))) = true then
  (if (decide (s_42.2 < p1)) = true then
  (idx x_35 s_42.2).bind fun x_59 =>
  (some (x_59.Kind, x_59.Text) : Option (Int × (List Int)))
  else
  if (decide ((w64 (s_42.2 + (imin p2 (w64 ((p0.length : Int) - p1))))) < (p0.length : Int))) = true then
  (idx x_35 (w64 (s_42.2 + (imin p2 (w64 ((p0.length : Int) - p1)))))).bind fun x_74 =>
  (some (x_74.Kind, x_74.Text) : Option (Int × (List Int)))
  else
  (some (0, ([] : List Int)) : Option (Int × (List Int)))).bind fun z_52 =>
  (app s_42.1 ([(⟨z_52.1, z_52.2⟩ : G_api_Cell)] : List G_api_Cell)).bind fun x_81 =>
  some (.inl (x_81, (w64 (s_42.2 + 1))))
  else
  some (.inr (s_42.1))) (([] : List G_api_Cell), 0)).bind fun o_42 =>
  some (o_42, true)
theorem c_linotyperef27_Delete {c0 : Cx} {G : Gm} {F : List En} {v1 : Value} (O0 : Own c0 G F) (p0 : List G_api_Cell) (p1 : Int) (p2 : Int) {r : (List G_api_Cell) × Bool} (h2 : Sl R_api_Cell c0 v1 p0) (H : f_linotyperef27_Delete p0 p1 p2 = some r) :
    Calls Tryd.prog 67 #[v1, .int .i64 p1, .int .i64 p2] c0.w (Post c0 fun c v => ∃ y1 : Value, Own c G (F) ∧ v = .tuple #[y1, .bool r.2] ∧ Sl R_api_Cell c y1 r.1) := by
  unfold f_linotyperef27_Delete at H
  refine enter (l := [v1, .int .i64 p1, .int .i64 p2]) Tryd.func67 rfl rfl rfl ?_
  refine sr ?_
  refine va (.slice none 0 0) ?_
  refine va (.bool false) ?_
  refine wln ?_
  refine W.seq ?_
  refine W.seq ?_
  obtain ⟨d_6, h3, H⟩ := bs H
  obtain ⟨d_12, h4, H⟩ := bs H
  refine W.join (fun e w => ∃ (c : Cx) (g : Nat → Value), w = c.w ∧ c0.le c ∧ Own c G (F) ∧ e = ups g [(0, v1), (1, .int .i64 p1), (2, .int .i64 p2), (23, .bool d_12)]) ?_ ?_
  · clear H
    refine W.region ?_
    refine va (.int .i64 p1) ?_
    refine va (.bool (decide (p1 < 0))) ?_
    rcases Bool.eq_false_or_eq_true (decide (p1 < 0)) with h5 | h5
    · skip
      obtain rfl := orT h5 h3
      refine vb h5 ?_
      refine ps ?_
      refine ps ?_
      refine ps ?_
      refine ps ?_
      refine va (.bool true) ?_
      have h6 : true = true := rfl
      obtain rfl := orT h6 h4
      refine vb h6 ?_
      refine ps ?_
      refine ps ?_
      refine va (.bool true) ?_
      refine wln ?_
      exact ⟨c0, _, rfl, (Cx.le.refl _), O0, ups_self ⟨rfl, rfl, rfl, rfl, trivial⟩⟩
    · skip
      have H7 := orF h5 h3
      refine vb h5 ?_
      refine wn ?_
      refine va (.int .i64 p1) ?_
      refine wn ?_
      refine va (v1) ?_
      refine wn ?_
      refine WL.val0 (v := .int .i64 (p0.length : Int)) rfl (rx (by kernel_rfl) (run_len (ty := 3) Tryd.underlying22 h2 _)) ?_
      refine wn ?_
      refine va (.bool (decide (p1 ≥ (p0.length : Int)))) ?_
      obtain rfl := Option.some.inj H7
      refine va (.bool (decide (p1 ≥ (p0.length : Int)))) ?_
      rcases Bool.eq_false_or_eq_true (decide (p1 ≥ (p0.length : Int))) with h8 | h8
      · skip
        obtain rfl := orT h8 h4
        refine vb h8 ?_
        refine ps ?_
        refine ps ?_
        refine va (.bool true) ?_
        refine wln ?_
        exact ⟨c0, _, rfl, (Cx.le.refl _), O0, ups_self ⟨rfl, rfl, rfl, rfl, trivial⟩⟩
      · skip
        have H9 := orF h8 h4
        refine vb h8 ?_
        refine wn ?_
        refine va (.int .i64 p2) ?_
        refine wn ?_
        refine va (.bool (decide (p2 < 1))) ?_
        obtain rfl := Option.some.inj H9
        refine va (.bool (decide (p2 < 1))) ?_
        refine wln ?_
        exact ⟨c0, _, rfl, (Cx.le.refl _), O0, ups_self ⟨rfl, rfl, rfl, rfl, trivial⟩⟩
  · skip
    rintro e_ w_ ⟨c10, g11, rfl, l10, O12, rfl⟩
    refine nrm ?_
    refine W.cond (t := d_12) (by kernel_rfl) (fun h16 => ?_) (fun h16 => ?_)
    · have H := it h16 H
      refine sr ?_
      refine va (v1) ?_
      refine va (v1) ?_
      refine va (.bool false) ?_
      refine wln ?_
      refine W.ret ?_
      refine thr ?_
      obtain rfl := Option.some.inj H
      exact ret2 (v := v1) (v' := .bool false) rfl (by kernel_rfl) (by kernel_rfl) ⟨_, c10, rfl, rfl, l10, v1, O12, rfl, (h2.mono l10)⟩
    · have H := ie h16 H
      refine W.skip ?_
      refine nrm ?_
      refine sr ?_
      refine va (.int .i64 p2) ?_
      refine va (v1) ?_
      refine WL.val0 (v := .int .i64 (p0.length : Int)) rfl (rx (by kernel_rfl) (run_len (ty := 3) Tryd.underlying22 (h2.mono l10) _)) ?_
      refine va (.int .i64 p1) ?_
      refine va (.int .i64 (w64 ((p0.length : Int) - p1))) ?_
      refine va (.int .i64 (imin p2 (w64 ((p0.length : Int) - p1)))) ?_
      refine va (.int .i64 (imin p2 (w64 ((p0.length : Int) - p1)))) ?_
      refine wln ?_
      refine sr ?_
      refine va (v1) ?_
      refine va (.int .i64 p1) ?_
      obtain ⟨x_31, h17, H⟩ := bs H
      refine WL.callP rfl (by kernel_rfl) (c_linotyperef27_torn O12 p0 p1 (h2.mono l10) h17) ?_
      rintro v18 c25 l25 ⟨_, u19, O22, rfl, h20⟩
      refine va (.int .i64 p1) ?_
      refine va (.int .i64 (imin p2 (w64 ((p0.length : Int) - p1)))) ?_
      refine va (.int .i64 (w64 (p1 + (imin p2 (w64 ((p0.length : Int) - p1)))))) ?_
      obtain ⟨c29, h30, l29, O27, h28⟩ := O22.frz 0 rfl h20
      refine WL.gh h30 ?_
      obtain ⟨x_35, h31, H⟩ := bs H
      refine WL.callP rfl (by kernel_rfl) (c_linotyperef27_torn O27 x_31 (w64 (p1 + (imin p2 (w64 ((p0.length : Int) - p1))))) h28 h31) ?_
      rintro v32 c39 l39 ⟨_, u33, O36, rfl, h34⟩
      refine va (v32) ?_
      refine wln ?_
      refine sr ?_
      refine va (.slice none 0 0) ?_
      refine wln ?_
      refine W.seq ?_
      refine sr ?_
      refine va (.int .i64 0) ?_
      refine wln ?_
      refine W.block ?_
      obtain ⟨o_42, h41, H42⟩ := bs H
      refine W.loop (σ := (List G_api_Cell) × Int) (τ := (List G_api_Cell)) (fun s_42 => fun e w => ∃ (c : Cx) (g : Nat → Value) (v43 : Value) (u44 : List Value), w = c.w ∧ c39.le c ∧ Own c G (es true R_api_Cell v43 27 u44 s_42.1 :: es true R_api_Cell v32 27 u33 x_35 :: es false R_api_Cell v18 27 u19 x_31 :: F) ∧ e = ups g [(0, v1), (1, .int .i64 p1), (2, .int .i64 (imin p2 (w64 ((p0.length : Int) - p1)))), (8, v32), (9, v43), (10, .int .i64 s_42.2)] ∧ OA R_api_Cell c v43 u44 s_42.1) (fun o_42_ ex e w => ex = .exit 0 ∧ (fun e w => ∃ (c : Cx) (g : Nat → Value) (v45 : Value) (u46 : List Value), w = c.w ∧ c39.le c ∧ Own c G (es true R_api_Cell v45 27 u46 o_42_ :: es true R_api_Cell v32 27 u33 x_35 :: es false R_api_Cell v18 27 u19 x_31 :: F) ∧ e = ups g [(9, v45)] ∧ OA R_api_Cell c v45 u46 o_42_) e w) ?_ h41 ?_ ?_
      · clear H42 h41
        intro s_42 xx_ ee_ ww_ H
        revert ee_ ww_
        rintro e_ w_ ⟨c47, g48, v43, u44, rfl, l47, O49, rfl, h50⟩
        refine W.seq ?_
        refine sr ?_
        refine va (.int .i64 s_42.2) ?_
        refine va (v1) ?_
        refine WL.val0 (v := .int .i64 (p0.length : Int)) rfl (rx (by kernel_rfl) (run_len (ty := 3) Tryd.underlying22 (h2.mono (l10.trans (l25.trans (l29.trans (l39.trans l47))))) _)) ?_
        refine va (.bool (decide (s_42.2 < (p0.length : Int)))) ?_
        refine wln ?_
        refine W.cond (t := decide (s_42.2 < (p0.length : Int))) (by kernel_rfl) (fun h54 => ?_) (fun h54 => ?_)
        · have H := it h54 H
          refine W.skip ?_
          refine nrm ?_
          refine W.seq ?_
          refine W.block ?_
          refine sr ?_
          refine va (.agg #[.int .i64 0, .slice none 0 0]) ?_
          refine WL.mem rfl (Own.al (T := 27) (vs := [.int .i64 0, .slice none 0 0]) O49 (by kernel_rfl)) ?_
          rintro v58 c57 l57 ⟨b55, rfl, O56⟩
          refine WL.memD rfl (Own.st (T := 27) (j := 0) (us := [.int .i64 0, .slice none 0 0]) (nw := [.int .i64 0, .slice none 0 0]) (v := .agg #[.int .i64 0, .slice none 0 0]) 0 O56 (by kernel_rfl) rfl rfl rfl rfl (by kernel_rfl) ⟨rfl, rfl, trivial⟩ rfl rfl) ?_
          rintro c60 l60 O59
          refine wln ?_
          obtain ⟨z_52, H61, H62⟩ := bs H
          refine W.seqJ (fun e w => ∃ (c : Cx) (g : Nat → Value) (v63 : Value), w = c.w ∧ c60.le c ∧ Own c G (⟨.pointer (some ⟨b55, 0, none⟩), 27, [.int .i64 z_52.1, v63], 0⟩ :: es true R_api_Cell v43 27 u44 s_42.1 :: es true R_api_Cell v32 27 u33 x_35 :: es false R_api_Cell v18 27 u19 x_31 :: F) ∧ e = ups g [(0, v1), (1, .int .i64 p1), (2, .int .i64 (imin p2 (w64 ((p0.length : Int) - p1)))), (8, v32), (9, v43), (10, .int .i64 s_42.2), (11, .pointer (some ⟨b55, 0, none⟩))] ∧ Sl (RI .i32) c v63 z_52.2) ?_ ?_
          · skip
            refine sr ?_
            refine va (.int .i64 s_42.2) ?_
            refine va (.int .i64 p1) ?_
            refine va (.bool (decide (s_42.2 < p1))) ?_
            refine wln ?_
            refine W.cond (t := decide (s_42.2 < p1)) (by kernel_rfl) (fun h64 => ?_) (fun h64 => ?_)
            · have H61 := it h64 H61
              refine W.region ?_
              refine va (v32) ?_
              refine va (.int .i64 s_42.2) ?_
              obtain ⟨x_59, h65, H61⟩ := bs H61
              refine WL.val0 (v := .pointer (some ⟨sb v32, s_42.2.toNat * 2, none⟩)) rfl (rx (by kernel_rfl) (run_indexO (k := .i64) Tryd.underlying22 (by kernel_rfl) (h34.mono (l47.trans (l57.trans l60))) h65 _)) ?_
              obtain ⟨l_66, h67, m68⟩ := OA.at (h34.mono (l47.trans (l57.trans l60))) h65
              obtain ⟨v69, rfl, h70⟩ := h67
              refine WL.val0 (v := .agg #[.int .i64 x_59.Kind, v69]) rfl (rx (by kernel_rfl) (ldEN (T := 27) (l := [.int .i64 x_59.Kind, v69]) (by kernel_rfl) (by kernel_rfl) (O59.on 2 rfl) ((h34.mono (l47.trans (l57.trans l60))).blk h65) (at2 (j := 0) m68 rfl))) ?_
              obtain ⟨a71, a72, a73, rfl⟩ := (h70).form
              refine WL.memD rfl (Own.st (T := 27) (j := 0) (us := [.int .i64 x_59.Kind, .slice a71 a72 a73]) (nw := [.int .i64 x_59.Kind, .slice a71 a72 a73]) (v := .agg #[.int .i64 x_59.Kind, .slice a71 a72 a73]) 0 O59 (by kernel_rfl) rfl rfl rfl rfl (by kernel_rfl) ⟨rfl, h70.one, trivial⟩ rfl rfl) ?_
              rintro c75 l75 O74
              refine wln ?_
              obtain rfl := Option.some.inj H61
              exact ⟨c75, _, (.slice a71 a72 a73), rfl, l75, O74, ups_self ⟨rfl, rfl, rfl, rfl, rfl, rfl, rfl, trivial⟩, (h70.mono l75)⟩
            · have H61 := ie h64 H61
              refine sr ?_
              refine va (.int .i64 s_42.2) ?_
              refine va (.int .i64 (imin p2 (w64 ((p0.length : Int) - p1)))) ?_
              refine va (.int .i64 (w64 (s_42.2 + (imin p2 (w64 ((p0.length : Int) - p1)))))) ?_
              refine va (v1) ?_
              refine WL.val0 (v := .int .i64 (p0.length : Int)) rfl (rx (by kernel_rfl) (run_len (ty := 3) Tryd.underlying22 (h2.mono (l10.trans (l25.trans (l29.trans (l39.trans (l47.trans (l57.trans l60))))))) _)) ?_
              refine va (.bool (decide ((w64 (s_42.2 + (imin p2 (w64 ((p0.length : Int) - p1))))) < (p0.length : Int)))) ?_
              refine wln ?_
              refine W.cond (t := decide ((w64 (s_42.2 + (imin p2 (w64 ((p0.length : Int) - p1))))) < (p0.length : Int))) (by kernel_rfl) (fun h76 => ?_) (fun h76 => ?_)
              · have H61 := it h76 H61
                refine W.region ?_
                refine va (v32) ?_
                refine va (.int .i64 s_42.2) ?_
                refine va (.int .i64 (imin p2 (w64 ((p0.length : Int) - p1)))) ?_
                refine va (.int .i64 (w64 (s_42.2 + (imin p2 (w64 ((p0.length : Int) - p1)))))) ?_
                obtain ⟨x_74, h77, H61⟩ := bs H61
                refine WL.val0 (v := .pointer (some ⟨sb v32, (w64 (s_42.2 + (imin p2 (w64 ((p0.length : Int) - p1))))).toNat * 2, none⟩)) rfl (rx (by kernel_rfl) (run_indexO (k := .i64) Tryd.underlying22 (by kernel_rfl) (h34.mono (l47.trans (l57.trans l60))) h77 _)) ?_
                obtain ⟨l_78, h79, m80⟩ := OA.at (h34.mono (l47.trans (l57.trans l60))) h77
                obtain ⟨v81, rfl, h82⟩ := h79
                refine WL.val0 (v := .agg #[.int .i64 x_74.Kind, v81]) rfl (rx (by kernel_rfl) (ldEN (T := 27) (l := [.int .i64 x_74.Kind, v81]) (by kernel_rfl) (by kernel_rfl) (O59.on 2 rfl) ((h34.mono (l47.trans (l57.trans l60))).blk h77) (at2 (j := 0) m80 rfl))) ?_
                obtain ⟨a83, a84, a85, rfl⟩ := (h82).form
                refine WL.memD rfl (Own.st (T := 27) (j := 0) (us := [.int .i64 x_74.Kind, .slice a83 a84 a85]) (nw := [.int .i64 x_74.Kind, .slice a83 a84 a85]) (v := .agg #[.int .i64 x_74.Kind, .slice a83 a84 a85]) 0 O59 (by kernel_rfl) rfl rfl rfl rfl (by kernel_rfl) ⟨rfl, h82.one, trivial⟩ rfl rfl) ?_
                rintro c87 l87 O86
                refine wln ?_
                obtain rfl := Option.some.inj H61
                exact ⟨c87, _, (.slice a83 a84 a85), rfl, l87, O86, ups_self ⟨rfl, rfl, rfl, rfl, rfl, rfl, rfl, trivial⟩, (h82.mono l87)⟩
              · have H61 := ie h76 H61
                refine W.skip ?_
                refine nrm ?_
                obtain rfl := Option.some.inj H61
                exact ⟨c60, _, (.slice none 0 0), rfl, (Cx.le.refl _), O59, ups_self ⟨rfl, rfl, rfl, rfl, rfl, rfl, rfl, trivial⟩, (Sl.nl _ _)⟩
          · skip
            rintro e_ w_ ⟨c88, g89, v63, rfl, l88, O90, rfl, h91⟩
            refine W.region ?_
            refine va (v43) ?_
            refine WL.val0 (v := .agg #[.int .i64 z_52.1, v63]) rfl (rx (by kernel_rfl) (ldEN (T := 27) (j := 0) (l := [.int .i64 z_52.1, v63]) (by kernel_rfl) (by kernel_rfl) (O90.on 0 rfl) rfl rfl)) ?_
            obtain ⟨a95, a96, a97, rfl⟩ := (h91).form
            refine WL.mem rfl (Own.sl (R := R_api_Cell) (E := 27) (ls := [[.int .i64 z_52.1, .slice a95 a96 a97]]) (vs := [.int .i64 z_52.1, .slice a95 a96 a97]) (xs := ([(⟨z_52.1, z_52.2⟩ : G_api_Cell)] : List G_api_Cell)) true O90 (Nat.succ_pos _) rfl ⟨⟨(.slice a95 a96 a97), rfl, h91⟩, trivial⟩ (by kernel_rfl) (by kernel_rfl)) ?_
            rintro v102 c101 l101 ⟨u99, O98, h100⟩
            obtain ⟨c105, h106, l105, O103, h104⟩ := O98.frz 0 rfl h100
            refine WL.gh h106 ?_
            obtain ⟨x_81, h107, H62⟩ := bs H62
            refine WL.mem rfl (Own.app (R := R_api_Cell) (z := .agg #[.int .i64 0, .slice none 0 0]) (by_ := 32) (ty := 22) 2 O103 rfl (h50.mono (l57.trans (l60.trans (l88.trans (l101.trans l105))))) h104 h107 Tryd.underlying22 (by kernel_rfl) rfl (by kernel_rfl) (by kernel_rfl)) ?_
            rintro v112 c111 l111 ⟨u109, O108, h110⟩
            refine va (v112) ?_
            refine WL.nil ?_
            refine bkn ?_
            refine nrm ?_
            refine W.region ?_
            refine va (.int .i64 s_42.2) ?_
            refine va (.int .i64 (w64 (s_42.2 + 1))) ?_
            refine va (.int .i64 (w64 (s_42.2 + 1))) ?_
            refine WL.nil ?_
            obtain rfl := Option.some.inj H62
            refine ⟨_, rfl, ?_⟩
            have O113 := O108.selD 5 [2, 3, 4] (by kernel_rfl) (by kernel_rfl)
            exact ⟨c111, _, v112, u109, rfl, (l47.trans (l57.trans (l60.trans (l88.trans (l101.trans (l105.trans l111)))))), O113, ups_self ⟨rfl, rfl, rfl, rfl, rfl, rfl, trivial⟩, h110⟩
        · have H := ie h54 H
          refine W.exit ?_
          refine thx ?_
          obtain rfl := Option.some.inj H
          refine ⟨_, rfl, rfl, ?_⟩
          exact ⟨c47, _, v43, u44, rfl, l47, O49, ups_self ⟨rfl, trivial⟩, h50⟩
      · skip
        have h115 : OA R_api_Cell c39 (.slice none 0 0) [] [] := OA.nil (Nat.succ_pos _)
        have O114 := O36.addHole (e := es true R_api_Cell (.slice none 0 0) 27 [] ([] : List G_api_Cell)) rfl
        exact ⟨c39, _, (.slice none 0 0), [], rfl, (Cx.le.refl _), O114, ups_self ⟨rfl, rfl, rfl, rfl, rfl, rfl, trivial⟩, h115⟩
      · skip
        rintro _ e_ w_ ⟨rfl, c116, g117, v45, u46, rfl, l116, O118, rfl, h119⟩
        refine bke ?_
        refine nrm ?_
        refine sr ?_
        refine va (v45) ?_
        refine va (v45) ?_
        refine va (.bool true) ?_
        refine wln ?_
        refine W.ret ?_
        obtain rfl := Option.some.inj H42
        obtain ⟨c125, h126, l125, O123, h124⟩ := O118.frz 0 rfl h119
        have O127 := O123.selD 3 [] (by kernel_rfl) (by kernel_rfl)
        refine bqgh h126 ?_
        exact ret2 (v := v45) (v' := .bool true) rfl (by kernel_rfl) (by kernel_rfl) ⟨_, c125, rfl, rfl, (l10.trans (l25.trans (l29.trans (l39.trans (l116.trans l125))))), v45, O127, rfl, h124⟩

end Go.Proofs.YtohpkblleihmaaaDoor
