import Derived.Test.YthokmpbbkpjhbaaGreatDoorMq
import Derived.Test.YthokmpbbkpjhbaaGreatDoorProg
import Derived.Test.YthokmpbbkpjhbaaGreatDoorMy
import Derived.Test.YthokmpbbkpjhbaaGreatDoorMz
import Derived.Test.YthokmpbbkpjhbaaGreatDoorMs
import Derived.Test.YthokmpbbkpjhbaaGreatDoorA1
namespace Go.Proofs.YthokmpbbkpjhbaaGreatDoor
open Go Go.Lt
set_option maxRecDepth 10000
set_option linter.unusedVariables false
attribute [local irreducible] W WL AC
open Tryz
variable {c0 : Cx} {G : Gm} {F : List En} {sg : Sto} {v1 v2 v3 v4 v5 v6 v7 v8 v9 v10 v11 v12 v13 v14 v15 v16 v17 v18 v19 v20 v21 v22 v23 v24 v25 v26 v27 v28 v29 v30 v31 v32 v33 v34 v35 v36 v37 v38 v39 v40 v41 v42 v43 v44 v45 v46 v47 v48 v49 v50 v51 v52 v53 v54 v55 v56 v57 v58 v59 v60 : Value}
def f_shift_Insert_1 (p0 : List G_api_Cell) (p1 : Int) (q0_0 : Int) : Option (List G_api_Cell) :=
 (f_cell_Blanks p1).bind fun x_11 =>
 (f_slices_Insert p0 q0_0 x_11).bind fun x_12 =>
 (slc x_12 0 (p0.length : Int)).bind fun x_13 =>
 ((idx x_13 (w64 ((p0.length : Int) - 1))).bind fun x_20 =>
 if (x_20.Kind == 2) = true then
 (idx x_13 (w64 ((p0.length : Int) - 1))).bind fun x_29 =>
 (sets x_13 (w64 ((p0.length : Int) - 1)) (⟨0, ([] : List Int)⟩ : G_api_Cell)).bind fun w_30 =>
 (some (w_30) : Option ((List G_api_Cell)))
 else
 (some (x_13) : Option ((List G_api_Cell)))).bind fun z_16 =>
 some z_16
theorem c_shift_Insert_1 {v0_ : Value} {u0_ : List Value} {bc0 : Nat} (p0 : List G_api_Cell) (p1 : Int) (q0_0 : Int) (O0 : Own c0 G (es true R_api_Cell v0_ 101 u0_ p0 :: F)) {r : List G_api_Cell} (h1 : OA R_api_Cell c0 v0_ u0_ p0) (m2 : ∀ j u, ([.int .i64 q0_0] : List Value)[j]? = some u → Im c0 bc0 (0 + j) u) (H : f_shift_Insert_1 p0 p1 q0_0 = some r) :
    Calls Tryz.prog 217 #[v0_, .int .i64 p1, .pointer (some ⟨bc0, 0, none⟩)] c0.w (Post c0 fun c v => ∃ y1 y2, Own c G (es true R_api_Cell y1 101 y2 r :: F) ∧ v = y1 ∧ OA R_api_Cell c y1 y2 r) := by
 unfold f_shift_Insert_1 at H
 refine en func217 rfl rfl (sr (va (.slice none 0 0) (wln (sr (va (v0_) (vx (lnO 3 underlying69 h1) (va (.int .i64 (p0.length : Int)) (wln (W.seq (rD [] (Kp G0 []) O0 ?_))))))))))
 intro c3 l3 O4
 have p5 : Kp G0 [] c3 := Kp.nil0
 refine ta 0 (v0_) (tx 1 (fun c' hle => l1 underlying3 ((mm m2) 0 _ rfl)) (ta 2 (.int .i64 p1) (ta 5 (.int .i64 (p0.length : Int)) (bn H fun x_11 h6 H => o1 3 (gc 3 (c_cell_Blanks O4 p1 h6) ?_)))))
 rintro v7 c14 l14 ⟨_, u8, O11, rfl, h9⟩
 have p16 : Kp G0 [] c14 := Kp.nil0
 refine ⟨.inr p16, ?_⟩
 have O17 := O11.sD 2 [1, 0]
 refine bn H fun x_12 h18 H => o1 4 (gc 4 (c_slices_Insert p0 q0_0 x_11 O17 h1.m h9 h18) ?_)
 rintro v19 c26 l26 ⟨_, u20, O23, rfl, h21⟩
 have p28 : Kp G0 [] c26 := Kp.nil0
 refine ⟨.inr p28, bn H fun x_13 h29 H => ?_⟩
 obtain ⟨v30, h31, O32, h33⟩ := Own.cutH (k' := .i64) 0 O23 rfl underlying69 h21 (by kernel_rfl) h29
 refine AC.take 6 (v30) rfl (by kernel_rfl) (by kernel_rfl) (fun c' hle => (rx (by kernel_rfl) (h31 _))) (ta 7 (v30) (dn (nrm (bn H fun z_16 H34 H35 => W.seqJ (Jn c26 fun c l => ∃ v36 u37, Own c G (es true R_api_Cell v36 101 u37 z_16 :: F) ∧ l = [(0, v36)] ∧ OA R_api_Cell c v36 u37 z_16) ?_ ?_))))
 ·refine sr (va (v30) (va (.int .i64 (p0.length : Int)) (va (.int .i64 (w64 ((p0.length : Int) - 1))) (bn H34 fun x_20 h38 H34 => vx (ixO underlying69 h33 h38) (va (.pointer (some ⟨sb v30, (w64 ((p0.length : Int) - 1)).toNat * 2, none⟩)) ?_)))))
  obtain ⟨l_39, h40, m41⟩ := OA.at h33 h38
  obtain ⟨v42, rfl, h43⟩ := h40
  refine vr (.int .i64 x_20.Kind) (rx (by kernel_rfl) (ldE1 underlying3 rfl (O32.on 0 rfl) (h33.blk h38) (at1 (j := 0) m41 rfl))) (va (.bool (x_20.Kind == 2)) (wln (cn H34 (fun h44 H34 => ?_) (fun h44 H34 => ?_))))
  ·refine W.region (va (v30) (va (.int .i64 (p0.length : Int)) (va (.int .i64 (w64 ((p0.length : Int) - 1))) (va (.agg #[.int .i64 0, .slice none 0 0]) (bn H34 fun x_29 h45 H34 => vx (ixO underlying69 h33 h45) (bn H34 fun w_30 h46 H34 => md (Own.stW (R := R_api_Cell) (T := 101) (us := [.int .i64 0, .slice none 0 0]) (x' := (⟨0, ([] : List Int)⟩ : G_api_Cell)) (u := .agg #[.int .i64 0, .slice none 0 0]) 0 O32 (by kernel_rfl) rfl h33 h46 rfl (by kernel_rfl) ⟨rfl, rfl, trivial⟩ rfl ⟨(.slice none 0 0), rfl, (Sl.nl _ _)⟩) ?_))))))
   rintro c50 l50 ⟨u48, O47, h49⟩
   refine wln ?_
   obtain rfl := si H34
   exact ⟨c50, _, _, rfl, pt, us, v30, u48, O47, rfl, h49⟩
  refine W.skip (nrm ?_)
  obtain rfl := si H34
  exact ⟨c26, _, _, rfl, pt, us, v30, u20, O32, rfl, h33⟩
 rintro e_ w_ ⟨c51, g52, _, rfl, l51, rfl, v36, u37, O53, rfl, h54⟩
 refine sr (va (v36) (va (v36) (wln (W.ret ?_))))
 obtain rfl := si H35
 exact r1 ⟨_, c51, rfl, rfl, pt, v36, u37, O53, rfl, h54⟩
def f_shift_tear (p0 : List G_api_Cell) (p1 : Int) : Option (List G_api_Cell) :=
 (andE (decide (p1 < (p0.length : Int))) ((idx p0 p1).bind fun x_9 =>
 some (x_9.Kind == 3))).bind fun d_5 =>
 if d_5 = true then
 (idx p0 (w64 (p1 - 1))).bind fun x_21 =>
 (sets p0 (w64 (p1 - 1)) (⟨0, ([] : List Int)⟩ : G_api_Cell)).bind fun w_22 =>
 (idx w_22 p1).bind fun x_23 =>
 (sets w_22 p1 (⟨0, ([] : List Int)⟩ : G_api_Cell)).bind fun w_24 =>
 some w_24
 else
 some p0
theorem c_shift_tear {v0_ : Value} {u0_ : List Value} (p0 : List G_api_Cell) (p1 : Int) (O0 : Own c0 G (es true R_api_Cell v0_ 101 u0_ p0 :: F)) {r : List G_api_Cell} (h1 : OA R_api_Cell c0 v0_ u0_ p0) (H : f_shift_tear p0 p1 = some r) :
    Calls Tryz.prog 220 #[v0_, .int .i64 p1] c0.w (Post c0 fun c v => ∃ y1, Own c G (es true R_api_Cell v0_ 101 y1 r :: F) ∧ v = .tuple #[] ∧ OA R_api_Cell c v0_ y1 r) := by
 unfold f_shift_tear at H
 refine en func220 rfl rfl (W.seq (bn H fun d_5 h2 H => W.join (Jn c0 fun c l => Own c G (es true R_api_Cell v0_ 101 u0_ p0 :: F) ∧ l = [(0, v0_), (1, .int .i64 p1), (15, .bool d_5)]) ?_ ?_))
 ·clear H
  refine W.region (va (.int .i64 p1) (va (v0_) (vx (lnO 3 underlying69 h1) (va (.bool (decide (p1 < (p0.length : Int)))) ?_))))
  rcases bo (decide (p1 < (p0.length : Int))) with h3 | h3
  ·have H4 := anT h3 h2
   refine vb h3 (wn (va (v0_) (wn (va (.int .i64 p1) (wn (bn H4 fun x_9 h5 H4 => vx (ixO underlying69 h1 h5) (wn (va (.pointer (some ⟨sb v0_, p1.toNat * 2, none⟩)) (wn ?_)))))))))
   obtain ⟨l_6, h7, m8⟩ := OA.at h1 h5
   obtain ⟨v9, rfl, h10⟩ := h7
   refine vr (.int .i64 x_9.Kind) (rx (by kernel_rfl) (ldE1 underlying3 rfl (O0.on 0 rfl) (h1.blk h5) (at1 (j := 0) m8 rfl))) (wn (va (.bool (x_9.Kind == 3)) ?_))
   obtain rfl := si H4
   exact va (.bool (x_9.Kind == 3)) (wln ⟨c0, _, _, rfl, pt, us, O0, rfl⟩)
  obtain rfl := anF h3 h2
  exact vb h3 (ps (ps (ps (ps (ps (ps (va (.bool false) (wln ⟨c0, _, _, rfl, pt, us, O0, rfl⟩))))))))
 rintro e_ w_ ⟨c11, g12, _, rfl, l11, rfl, O13, rfl⟩
 refine nrm (cn H (fun h17 H => ?_) (fun h17 H => ?_))
 ·refine W.region (va (v0_) (va (.int .i64 p1) (va (.int .i64 (w64 (p1 - 1))) (va (v0_) (va (.int .i64 p1) (va (.agg #[.int .i64 0, .slice none 0 0]) (va (.agg #[.int .i64 0, .slice none 0 0]) (bn H fun x_21 h18 H => vx (ixO underlying69 h1.m h18) (bn H fun w_22 h19 H => md (Own.stW (R := R_api_Cell) (T := 101) (us := [.int .i64 0, .slice none 0 0]) (x' := (⟨0, ([] : List Int)⟩ : G_api_Cell)) (u := .agg #[.int .i64 0, .slice none 0 0]) 0 O13 (by kernel_rfl) rfl h1.m h19 rfl (by kernel_rfl) ⟨rfl, rfl, trivial⟩ rfl ⟨(.slice none 0 0), rfl, (Sl.nl _ _)⟩) ?_)))))))))
  rintro c23 l23 ⟨u21, O20, h22⟩
  refine bn H fun x_23 h24 H => vx (ixO underlying69 h22 h24) (bn H fun w_24 h25 H => md (Own.stW (R := R_api_Cell) (T := 101) (us := [.int .i64 0, .slice none 0 0]) (x' := (⟨0, ([] : List Int)⟩ : G_api_Cell)) (u := .agg #[.int .i64 0, .slice none 0 0]) 0 O20 (by kernel_rfl) rfl h22 h25 rfl (by kernel_rfl) ⟨rfl, rfl, trivial⟩ rfl ⟨(.slice none 0 0), rfl, (Sl.nl _ _)⟩) ?_)
  rintro c29 l29 ⟨u27, O26, h28⟩
  refine WL.nil ?_
  obtain rfl := si H
  exact n0 ⟨_, c29, rfl, rfl, pt, u27, O26, rfl, h28⟩
 refine W.skip ?_
 obtain rfl := si H
 exact n0 ⟨_, c11, rfl, rfl, pt, u0_, O13, rfl, h1.m⟩
def f_shift_turns__shift_Insert_1 (sg : Sto) (p0 : Option Nat) (p1 : Int) (p2 : Int) (p3_0_0 : Int) : Option (Sto) :=
 (f_row_Row_Wide sg p0).bind fun x_2 =>
 (orE (decide (p1 < 0)) (some (decide (p1 ≥ x_2)))).bind fun d_7 =>
 (orE d_7 (some (decide (p2 < 1)))).bind fun d_12 =>
 if d_12 = true then
 some sg
 else
 (f_row_Row_Cells sg p0).bind fun x_18 =>
 (f_shift_tear x_18 p1).bind fun x_23 =>
 (f_shift_Insert_1 x_23 (imin p2 (w64 (x_2 - p1))) p3_0_0).bind fun x_33 =>
 (f_row_Row_Paint sg p0 0 x_33).bind fun x_34 =>
 some x_34.1
theorem c_shift_turns__shift_Insert_1 {b3_0 : Nat} (O0 : Own c0 G F) (R0 : Rel c0 sg G) (hG : Gl [0, 4] c0) (p0 : Option Nat) (p1 : Int) (p2 : Int) (p3_0_0 : Int) {r : Sto} (h2 : Pt 0 c0 v1 p0) (m3 : ∀ j u, ([.int .i64 p3_0_0] : List Value)[j]? = some u → Im c0 b3_0 (0 + j) u) (H : f_shift_turns__shift_Insert_1 sg p0 p1 p2 p3_0_0 = some r) :
    Calls Tryz.prog 216 #[v1, .int .i64 p1, .int .i64 p2, .func (.func 217) #[] #[.pointer (some ⟨b3_0, 0, none⟩)]] c0.w (Post c0 fun c v => ∃ G_ : Gm, Own c G_ (F) ∧ Rel c r G_ ∧ v = .tuple #[]) := by
 unfold f_shift_turns__shift_Insert_1 at H
 refine en func216 rfl rfl (sr (va (v1) (bn H fun x_2 h4 H => cl (c_row_Row_Wide O0 R0 p0 h2 h4) ?_)))
 rintro v10 c9 l9 ⟨O6, rfl⟩
 refine va (.int .i64 x_2) (wln (W.seq (W.seq (bn H fun d_7 h11 H => bn H fun d_12 h12 H => W.join (Jn c9 fun c l => Own c G (F) ∧ l = [(0, v1), (1, .int .i64 p1), (2, .int .i64 p2), (3, .func (.func 217) #[] #[.pointer (some ⟨b3_0, 0, none⟩)]), (8, .int .i64 x_2), (22, .bool d_12)]) ?_ ?_))))
 ·clear H
  refine W.region (va (.int .i64 p1) (va (.bool (decide (p1 < 0))) ?_))
  rcases bo (decide (p1 < 0)) with h13 | h13
  ·obtain rfl := orT h13 h11
   refine vb h13 (ps (ps (ps (va (.bool true) ?_))))
   have h14 : true = true := rfl
   obtain rfl := orT h14 h12
   exact vb h14 (ps (ps (va (.bool true) (wln ⟨c9, _, _, rfl, pt, us, O6, rfl⟩))))
  have H15 := orF h13 h11
  refine vb h13 (wn (va (.int .i64 p1) (wn (va (.int .i64 x_2) (wn (va (.bool (decide (p1 ≥ x_2))) ?_))))))
  obtain rfl := si H15
  refine va (.bool (decide (p1 ≥ x_2))) ?_
  rcases bo (decide (p1 ≥ x_2)) with h16 | h16
  ·obtain rfl := orT h16 h12
   exact vb h16 (ps (ps (va (.bool true) (wln ⟨c9, _, _, rfl, pt, us, O6, rfl⟩))))
  have H17 := orF h16 h12
  refine vb h16 (wn (va (.int .i64 p2) (wn (va (.bool (decide (p2 < 1))) ?_))))
  obtain rfl := si H17
  exact va (.bool (decide (p2 < 1))) (wln ⟨c9, _, _, rfl, pt, us, O6, rfl⟩)
 rintro e_ w_ ⟨c18, g19, _, rfl, l18, rfl, O20, rfl⟩
 refine nrm (cn H (fun h24 H => ?_) (fun h24 H => ?_))
 ·refine W.ret (thr ?_)
  obtain rfl := si H
  exact r0 ⟨_, c18, rfl, rfl, pt, G, O20, R0.m, rfl⟩
 refine W.skip (nrm (sr (va (v1) (bn H fun x_18 h25 H => cl (c_row_Row_Cells O20 R0.m p0 h2.m h25) ?_))))
 rintro v26 c33 l33 ⟨_, u27, O30, rfl, h28⟩
 refine va (v26) (wln (sr (va (v26) (va (.int .i64 p1) (bn H fun x_23 h36 H => cl (c_shift_tear x_18 p1 O30 h28 h36) ?_)))))
 rintro v44 c43 l43 ⟨u37, O40, rfl, h38⟩
 refine wln (W.region (va (v1) (va (.func (.func 217) #[] #[.pointer (some ⟨b3_0, 0, none⟩)]) (va (v26) (va (.int .i64 p2) (va (.int .i64 x_2) (va (.int .i64 p1) (va (.int .i64 (w64 (x_2 - p1))) (va (.int .i64 (imin p2 (w64 (x_2 - p1)))) (bn H fun x_33 h46 H => cl (c_shift_Insert_1 x_23 (imin p2 (w64 (x_2 - p1))) p3_0_0 O40 h38 (mm m3) h46) ?_))))))))))
 rintro v47 c54 l54 ⟨_, u48, O51, rfl, h49⟩
 obtain ⟨c58, h59, l58, O56, h57⟩ := O51.frz 0 rfl h49
 refine WL.gh h59 (bn H fun x_34 h60 H => cl (c_row_Row_Paint O56 R0.m (hG.m.le (by decide)) p0 0 x_33 h2.m h57 h60) ?_)
 rintro v61 c67 l67 ⟨_, G63, O64, R65, rfl, h62⟩
 refine WL.nil ?_
 obtain rfl := si H
 have O69 := O64.sD 1 []
 exact n0 ⟨_, c67, rfl, rfl, pt, G63, O69, R65, rfl⟩
def f_shift_Insert (sg : Sto) (p0 : Option Nat) (p1 : Int) (p2 : Int) : Option (Sto) :=
 (f_shift_turns__shift_Insert_1 sg p0 p1 p2 p1).bind fun x_7 =>
 some x_7
theorem c_shift_Insert (O0 : Own c0 G F) (R0 : Rel c0 sg G) (hG : Gl [0, 4] c0) (p0 : Option Nat) (p1 : Int) (p2 : Int) {r : Sto} (h2 : Pt 0 c0 v1 p0) (H : f_shift_Insert sg p0 p1 p2 = some r) :
    Calls Tryz.prog 177 #[v1, .int .i64 p1, .int .i64 p2] c0.w (Post c0 fun c v => ∃ G_ : Gm, Own c G_ (F) ∧ Rel c r G_ ∧ v = .tuple #[]) := by
 unfold f_shift_Insert at H
 refine en func177 rfl rfl (sr (me (bx 3 [.int .i64 p1] O0) ?_))
 rintro v7 c6 l6 ⟨b3, rfl, O4, m5⟩
 refine wln (W.region (va (v1) (vx (l1 underlying3 (m5 0 _ rfl)) (va (.int .i64 p2) (va (.func (.func 217) #[] #[.pointer (some ⟨b3, 0, none⟩)]) (bn H fun x_7 h8 H => cl (c_shift_turns__shift_Insert_1 O4 R0.m (hG.m.le (by decide)) p0 p1 p2 p1 h2.m m5 h8) ?_))))))
 rintro v14 c13 l13 ⟨G9, O10, R11, rfl⟩
 refine WL.nil ?_
 obtain rfl := si H
 exact n0 ⟨_, c13, rfl, rfl, pt, G9, O10, R11, rfl⟩
def f_shift_Delete_1 (p0 : List G_api_Cell) (p1 : Int) (q0_0 : Int) : Option (List G_api_Cell) :=
 (f_shift_tear p0 (w64 (q0_0 + p1))).bind fun x_7 =>
 (f_slices_Delete x_7 q0_0 (w64 (q0_0 + p1))).bind fun x_14 =>
 (f_cell_Blanks p1).bind fun x_16 =>
 (app x_14 x_16).bind fun x_17 =>
 some x_17
theorem c_shift_Delete_1 {v0_ : Value} {u0_ : List Value} {bc0 : Nat} (p0 : List G_api_Cell) (p1 : Int) (q0_0 : Int) (O0 : Own c0 G (es true R_api_Cell v0_ 101 u0_ p0 :: F)) {r : List G_api_Cell} (h1 : OA R_api_Cell c0 v0_ u0_ p0) (m2 : ∀ j u, ([.int .i64 q0_0] : List Value)[j]? = some u → Im c0 bc0 (0 + j) u) (H : f_shift_Delete_1 p0 p1 q0_0 = some r) :
    Calls Tryz.prog 219 #[v0_, .int .i64 p1, .pointer (some ⟨bc0, 0, none⟩)] c0.w (Post c0 fun c v => ∃ y1 y2, Own c G (es true R_api_Cell y1 101 y2 r :: F) ∧ v = y1 ∧ OA R_api_Cell c y1 y2 r) := by
 unfold f_shift_Delete_1 at H
 refine en func219 rfl rfl (sr (va (.slice none 0 0) (wln (sr (va (v0_) (vx (l1 underlying3 (m2 0 _ rfl)) (va (.int .i64 p1) (va (.int .i64 (w64 (q0_0 + p1))) (bn H fun x_7 h4 H => cl (c_shift_tear p0 (w64 (q0_0 + p1)) O0 h1 h4) ?_)))))))))
 rintro v12 c11 l11 ⟨u5, O8, rfl, h6⟩
 refine wln (sr (va (v0_) (vx (l1 underlying3 ((mm m2) 0 _ rfl)) (vx (l1 underlying3 ((mm m2) 0 _ rfl)) (va (.int .i64 p1) (va (.int .i64 (w64 (q0_0 + p1))) (bn H fun x_14 h14 H => cl (c_slices_Delete x_7 q0_0 (w64 (q0_0 + p1)) O8 h6 h14) ?_)))))))
 rintro v15 c22 l22 ⟨_, u16, O19, rfl, h17⟩
 refine va (.int .i64 p1) (bn H fun x_16 h24 H => cl (c_cell_Blanks O19 p1 h24) ?_)
 rintro v25 c32 l32 ⟨_, u26, O29, rfl, h27⟩
 obtain ⟨c36, h37, l36, O34, h35⟩ := O29.frz 0 rfl h27
 refine WL.gh h37 (bn H fun x_17 h38 H => me (ap R_api_Cell (.agg #[.int .i64 0, .slice none 0 0]) 32 69 1 O34 h17.m h35 h38 underlying69) ?_)
 rintro v43 c42 l42 ⟨u40, O39, h41⟩
 refine va (v43) (wln (W.ret ?_))
 obtain rfl := si H
 have O44 := O39.sD 2 [1]
 exact r1 ⟨_, c42, rfl, rfl, pt, v43, u40, O44, rfl, h41⟩
def f_shift_turns__shift_Delete_1 (sg : Sto) (p0 : Option Nat) (p1 : Int) (p2 : Int) (p3_0_0 : Int) : Option (Sto) :=
 (f_row_Row_Wide sg p0).bind fun x_2 =>
 (orE (decide (p1 < 0)) (some (decide (p1 ≥ x_2)))).bind fun d_7 =>
 (orE d_7 (some (decide (p2 < 1)))).bind fun d_12 =>
 if d_12 = true then
 some sg
 else
 (f_row_Row_Cells sg p0).bind fun x_18 =>
 (f_shift_tear x_18 p1).bind fun x_23 =>
 (f_shift_Delete_1 x_23 (imin p2 (w64 (x_2 - p1))) p3_0_0).bind fun x_33 =>
 (f_row_Row_Paint sg p0 0 x_33).bind fun x_34 =>
 some x_34.1
theorem c_shift_turns__shift_Delete_1 {b3_0 : Nat} (O0 : Own c0 G F) (R0 : Rel c0 sg G) (hG : Gl [0, 4] c0) (p0 : Option Nat) (p1 : Int) (p2 : Int) (p3_0_0 : Int) {r : Sto} (h2 : Pt 0 c0 v1 p0) (m3 : ∀ j u, ([.int .i64 p3_0_0] : List Value)[j]? = some u → Im c0 b3_0 (0 + j) u) (H : f_shift_turns__shift_Delete_1 sg p0 p1 p2 p3_0_0 = some r) :
    Calls Tryz.prog 216 #[v1, .int .i64 p1, .int .i64 p2, .func (.func 219) #[] #[.pointer (some ⟨b3_0, 0, none⟩)]] c0.w (Post c0 fun c v => ∃ G_ : Gm, Own c G_ (F) ∧ Rel c r G_ ∧ v = .tuple #[]) := by
 unfold f_shift_turns__shift_Delete_1 at H
 refine en func216 rfl rfl (sr (va (v1) (bn H fun x_2 h4 H => cl (c_row_Row_Wide O0 R0 p0 h2 h4) ?_)))
 rintro v10 c9 l9 ⟨O6, rfl⟩
 refine va (.int .i64 x_2) (wln (W.seq (W.seq (bn H fun d_7 h11 H => bn H fun d_12 h12 H => W.join (Jn c9 fun c l => Own c G (F) ∧ l = [(0, v1), (1, .int .i64 p1), (2, .int .i64 p2), (3, .func (.func 219) #[] #[.pointer (some ⟨b3_0, 0, none⟩)]), (8, .int .i64 x_2), (22, .bool d_12)]) ?_ ?_))))
 ·clear H
  refine W.region (va (.int .i64 p1) (va (.bool (decide (p1 < 0))) ?_))
  rcases bo (decide (p1 < 0)) with h13 | h13
  ·obtain rfl := orT h13 h11
   refine vb h13 (ps (ps (ps (va (.bool true) ?_))))
   have h14 : true = true := rfl
   obtain rfl := orT h14 h12
   exact vb h14 (ps (ps (va (.bool true) (wln ⟨c9, _, _, rfl, pt, us, O6, rfl⟩))))
  have H15 := orF h13 h11
  refine vb h13 (wn (va (.int .i64 p1) (wn (va (.int .i64 x_2) (wn (va (.bool (decide (p1 ≥ x_2))) ?_))))))
  obtain rfl := si H15
  refine va (.bool (decide (p1 ≥ x_2))) ?_
  rcases bo (decide (p1 ≥ x_2)) with h16 | h16
  ·obtain rfl := orT h16 h12
   exact vb h16 (ps (ps (va (.bool true) (wln ⟨c9, _, _, rfl, pt, us, O6, rfl⟩))))
  have H17 := orF h16 h12
  refine vb h16 (wn (va (.int .i64 p2) (wn (va (.bool (decide (p2 < 1))) ?_))))
  obtain rfl := si H17
  exact va (.bool (decide (p2 < 1))) (wln ⟨c9, _, _, rfl, pt, us, O6, rfl⟩)
 rintro e_ w_ ⟨c18, g19, _, rfl, l18, rfl, O20, rfl⟩
 refine nrm (cn H (fun h24 H => ?_) (fun h24 H => ?_))
 ·refine W.ret (thr ?_)
  obtain rfl := si H
  exact r0 ⟨_, c18, rfl, rfl, pt, G, O20, R0.m, rfl⟩
 refine W.skip (nrm (sr (va (v1) (bn H fun x_18 h25 H => cl (c_row_Row_Cells O20 R0.m p0 h2.m h25) ?_))))
 rintro v26 c33 l33 ⟨_, u27, O30, rfl, h28⟩
 refine va (v26) (wln (sr (va (v26) (va (.int .i64 p1) (bn H fun x_23 h36 H => cl (c_shift_tear x_18 p1 O30 h28 h36) ?_)))))
 rintro v44 c43 l43 ⟨u37, O40, rfl, h38⟩
 refine wln (W.region (va (v1) (va (.func (.func 219) #[] #[.pointer (some ⟨b3_0, 0, none⟩)]) (va (v26) (va (.int .i64 p2) (va (.int .i64 x_2) (va (.int .i64 p1) (va (.int .i64 (w64 (x_2 - p1))) (va (.int .i64 (imin p2 (w64 (x_2 - p1)))) (bn H fun x_33 h46 H => cl (c_shift_Delete_1 x_23 (imin p2 (w64 (x_2 - p1))) p3_0_0 O40 h38 (mm m3) h46) ?_))))))))))
 rintro v47 c54 l54 ⟨_, u48, O51, rfl, h49⟩
 obtain ⟨c58, h59, l58, O56, h57⟩ := O51.frz 0 rfl h49
 refine WL.gh h59 (bn H fun x_34 h60 H => cl (c_row_Row_Paint O56 R0.m (hG.m.le (by decide)) p0 0 x_33 h2.m h57 h60) ?_)
 rintro v61 c67 l67 ⟨_, G63, O64, R65, rfl, h62⟩
 refine WL.nil ?_
 obtain rfl := si H
 have O69 := O64.sD 1 []
 exact n0 ⟨_, c67, rfl, rfl, pt, G63, O69, R65, rfl⟩
def f_shift_Delete (sg : Sto) (p0 : Option Nat) (p1 : Int) (p2 : Int) : Option (Sto) :=
 (f_shift_turns__shift_Delete_1 sg p0 p1 p2 p1).bind fun x_7 =>
 some x_7
theorem c_shift_Delete (O0 : Own c0 G F) (R0 : Rel c0 sg G) (hG : Gl [0, 4] c0) (p0 : Option Nat) (p1 : Int) (p2 : Int) {r : Sto} (h2 : Pt 0 c0 v1 p0) (H : f_shift_Delete sg p0 p1 p2 = some r) :
    Calls Tryz.prog 178 #[v1, .int .i64 p1, .int .i64 p2] c0.w (Post c0 fun c v => ∃ G_ : Gm, Own c G_ (F) ∧ Rel c r G_ ∧ v = .tuple #[]) := by
 unfold f_shift_Delete at H
 refine en func178 rfl rfl (sr (me (bx 3 [.int .i64 p1] O0) ?_))
 rintro v7 c6 l6 ⟨b3, rfl, O4, m5⟩
 refine wln (W.region (va (v1) (vx (l1 underlying3 (m5 0 _ rfl)) (va (.int .i64 p2) (va (.func (.func 219) #[] #[.pointer (some ⟨b3, 0, none⟩)]) (bn H fun x_7 h8 H => cl (c_shift_turns__shift_Delete_1 O4 R0.m (hG.m.le (by decide)) p0 p1 p2 p1 h2.m m5 h8) ?_))))))
 rintro v14 c13 l13 ⟨G9, O10, R11, rfl⟩
 refine WL.nil ?_
 obtain rfl := si H
 exact n0 ⟨_, c13, rfl, rfl, pt, G9, O10, R11, rfl⟩
def f_linotyperef27_torn (p0 : List G_api_Cell) (p1 : Int) : Option (List G_api_Cell) :=
 (iter (σ := (List G_api_Cell) × Int) (τ := (List G_api_Cell)) (((p0.length : Int) - 0).toNat + 1) (fun s_7 =>
 if (decide (s_7.2 < (p0.length : Int))) = true then
 (idx p0 s_7.2).bind fun x_15 =>
 ((andE (decide (p1 < (p0.length : Int))) ((idx p0 p1).bind fun x_29 =>
 some (x_29.Kind == 3))).bind fun d_25 =>
 (andE d_25 ((orE (s_7.2 == p1) (some ((w64 (s_7.2 + 1)) == p1))).bind fun d_38 =>
 some d_38)).bind fun d_33 =>
 if d_33 = true then
 (some (0, ([] : List Int)) : Option (Int × (List Int)))
 else
 (some (x_15.Kind, x_15.Text) : Option (Int × (List Int)))).bind fun z_20 =>
 (app s_7.1 ([(⟨z_20.1, z_20.2⟩ : G_api_Cell)] : List G_api_Cell)).bind fun x_51 =>
 some (.inl (x_51, (w64 (s_7.2 + 1))))
 else
 some (.inr (s_7.1))) (([] : List G_api_Cell), 0)).bind fun o_7 =>
 some o_7
theorem c_linotyperef27_torn (O0 : Own c0 G F) (p0 : List G_api_Cell) (p1 : Int) {r : List G_api_Cell} (h2 : Sl R_api_Cell c0 v1 p0) (H : f_linotyperef27_torn p0 p1 = some r) :
    Calls Tryz.prog 165 #[v1, .int .i64 p1] c0.w (Post c0 fun c v => ∃ y1 y2, Own c G (es true R_api_Cell y1 101 y2 r :: F) ∧ v = y1 ∧ OA R_api_Cell c y1 y2 r) := by
 unfold f_linotyperef27_torn at H
 refine en func165 rfl rfl (sr (va (.slice none 0 0) (wln (sr (va (.slice none 0 0) (wln (W.seq (sr (va (.int .i64 0) (wln (W.block (bn H fun o_7 h3 H4 => lp h3 (fun s_7 => Jn c0 fun c l => ∃ v5 u6, Own c G (es true R_api_Cell v5 101 u6 s_7.1 :: F) ∧ l = [(0, v1), (1, .int .i64 p1), (5, v5), (6, .int .i64 s_7.2)] ∧ OA R_api_Cell c v5 u6 s_7.1) (fun o_7_ ex e w => ex = .exit 0 ∧ (Jn c0 fun c l => ∃ v7 u8, Own c G (es true R_api_Cell v7 101 u8 o_7_ :: F) ∧ l = [(5, v7)] ∧ OA R_api_Cell c v7 u8 o_7_) e w) ?_ ?_ ?_))))))))))))
 ·clear H4 h3
  intro s_7 xx_ ee_ ww_ H
  revert ee_ ww_
  rintro e_ w_ ⟨c9, g10, _, rfl, l9, rfl, v5, u6, O11, rfl, h12⟩
  refine W.seq (sr (va (.int .i64 s_7.2) (va (v1) (vx (ln 3 underlying69 h2.m) (va (.bool (decide (s_7.2 < (p0.length : Int)))) (wln (cn H (fun h16 H => ?_) (fun h16 H => ?_))))))))
  ·refine W.skip (nrm (W.seq (W.block (sr (va (v1) (va (.int .i64 s_7.2) (bn H fun x_15 h17 H => ?_)))))))
   obtain ⟨l_18, h19, m20⟩ := Sl.at (h2.mono l9) (idx_get h17)
   obtain ⟨v21, rfl, h22⟩ := h19
   refine vx (ix underlying69 h2.m h17) (vx (lN 101 m20) (me (al 101 [.int .i64 0, .slice none 0 0] O11) ?_))
   rintro v26 c25 l25 ⟨b23, rfl, O24⟩
   obtain ⟨a27, a28, a29, rfl⟩ := ((h22.mono l25)).form
   refine md (sA 101 [.int .i64 x_15.Kind, .slice a27 a28 a29] 0 O24 ⟨rfl, h22.m.one, trivial⟩) ?_
   rintro c31 l31 O30
   refine wln (bn H fun z_20 H32 H33 => W.seqJ (Jn c31 fun c l => ∃ v34, Own c G (⟨.pointer (some ⟨b23, 0, none⟩), 101, [.int .i64 z_20.1, v34], 0⟩ :: es true R_api_Cell v5 101 u6 s_7.1 :: F) ∧ l = [(0, v1), (1, .int .i64 p1), (5, v5), (6, .int .i64 s_7.2), (7, .pointer (some ⟨b23, 0, none⟩))] ∧ Sl (RI .i32) c v34 z_20.2) ?_ ?_)
   ·refine W.seq (bn H32 fun d_25 h35 H32 => bn H32 fun d_33 h36 H32 => W.join (Jn c31 fun c l => Own c G (⟨.pointer (some ⟨b23, 0, none⟩), 101, [.int .i64 x_15.Kind, .slice a27 a28 a29], 0⟩ :: es true R_api_Cell v5 101 u6 s_7.1 :: F) ∧ l = [(0, v1), (1, .int .i64 p1), (5, v5), (6, .int .i64 s_7.2), (7, .pointer (some ⟨b23, 0, none⟩)), (40, .bool d_33)]) ?_ ?_)
    ·clear H32
     refine W.region (va (.int .i64 p1) (va (v1) (vx (ln 3 underlying69 h2.m) (va (.bool (decide (p1 < (p0.length : Int)))) ?_))))
     rcases bo (decide (p1 < (p0.length : Int))) with h37 | h37
     ·have H38 := anT h37 h35
      refine vb h37 (wn (va (v1) (wn (va (.int .i64 p1) (wn (bn H38 fun x_29 h39 H38 => ?_))))))
      obtain ⟨l_40, h41, m42⟩ := Sl.at (h2.mono (l9.trans (l25.trans l31))) (idx_get h39)
      obtain ⟨v43, rfl, h44⟩ := h41
      refine vx (ix underlying69 h2.m h39) (wn (va (.pointer (some ⟨sb v1, so v1 + p1.toNat * 2, none⟩)) (wn (vx (l1 underlying3 (m42 0 _ rfl)) (wn (va (.bool (x_29.Kind == 3)) ?_))))))
      obtain rfl := si H38
      refine va (.bool (x_29.Kind == 3)) ?_
      rcases bo (x_29.Kind == 3) with h45 | h45
      ·have H46 := anT h45 h36
       refine vb h45 (wn (va (.int .i64 s_7.2) (wn (va (.int .i64 p1) (wn (va (.bool (s_7.2 == p1)) (wn (bn H46 fun d_38 h47 H46 => ?_))))))))
       rcases bo (s_7.2 == p1) with h48 | h48
       ·obtain rfl := orT h48 h47
        refine vb h48 (ps (ps (ps (ps (wn (va (.bool true) ?_))))))
        obtain rfl := si H46
        exact va (.bool true) (wln ⟨c31, _, _, rfl, pt, us, O30, rfl⟩)
       have H49 := orF h48 h47
       refine vb h48 (wn (va (.int .i64 s_7.2) (wn (va (.int .i64 (w64 (s_7.2 + 1))) (wn (va (.int .i64 p1) (wn (va (.bool ((w64 (s_7.2 + 1)) == p1)) (wn ?_)))))))))
       obtain rfl := si H49
       refine va (.bool ((w64 (s_7.2 + 1)) == p1)) ?_
       obtain rfl := si H46
       exact va (.bool ((w64 (s_7.2 + 1)) == p1)) (wln ⟨c31, _, _, rfl, pt, us, O30, rfl⟩)
      obtain rfl := anF h45 h36
      exact vb h45 (ps (ps (ps (ps (ps (ps (ps (ps (ps (va (.bool false) (wln ⟨c31, _, _, rfl, pt, us, O30, rfl⟩)))))))))))
     obtain rfl := anF h37 h35
     refine vb h37 (ps (ps (ps (ps (ps (ps (va (.bool false) ?_)))))))
     have h50 : false = false := rfl
     obtain rfl := anF h50 h36
     exact vb h50 (ps (ps (ps (ps (ps (ps (ps (ps (ps (va (.bool false) (wln ⟨c31, _, _, rfl, pt, us, O30, rfl⟩)))))))))))
    rintro e_ w_ ⟨c51, g52, _, rfl, l51, rfl, O53, rfl⟩
    refine nrm (cn H32 (fun h57 H32 => ?_) (fun h57 H32 => ?_))
    ·refine W.region (va (.agg #[.int .i64 0, .slice none 0 0]) (md (sA 101 [.int .i64 0, .slice none 0 0] 0 O53 ⟨rfl, rfl, trivial⟩) ?_))
     rintro c59 l59 O58
     refine wln ?_
     obtain rfl := si H32
     exact ⟨c59, _, _, rfl, pt, us, (.slice none 0 0), O58, rfl, (Sl.nl _ _)⟩
    refine W.skip (nrm ?_)
    obtain rfl := si H32
    exact ⟨c51, _, _, rfl, pt, us, (.slice a27 a28 a29), O53, rfl, h22.m⟩
   rintro e_ w_ ⟨c60, g61, _, rfl, l60, rfl, v34, O62, rfl, h63⟩
   refine W.region (va (v5) (vx (leN 101 0 [.int .i64 z_20.1, v34] (O62.on 0 rfl)) ?_))
   obtain ⟨a67, a68, a69, rfl⟩ := (h63).form
   refine me (sl R_api_Cell 101 [[.int .i64 z_20.1, .slice a67 a68 a69]] ([(⟨z_20.1, z_20.2⟩ : G_api_Cell)] : List G_api_Cell) O62 ⟨⟨(.slice a67 a68 a69), rfl, h63⟩, trivial⟩) ?_
   rintro v74 c73 l73 ⟨u71, O70, h72⟩
   obtain ⟨c77, h78, l77, O75, h76⟩ := O70.frz 0 rfl h72
   refine WL.gh h78 (bn H33 fun x_51 h79 H33 => me (ap R_api_Cell (.agg #[.int .i64 0, .slice none 0 0]) 32 69 2 O75 h12.m h76 h79 underlying69) ?_)
   rintro v84 c83 l83 ⟨u81, O80, h82⟩
   refine va (v84) (WL.nil (bkn (nrm (W.region (va (.int .i64 s_7.2) (va (.int .i64 (w64 (s_7.2 + 1))) (va (.int .i64 (w64 (s_7.2 + 1))) (WL.nil ?_))))))))
   obtain rfl := si H33
   refine ⟨_, rfl, ?_⟩
   have O85 := O80.sD 3 [2]
   exact ⟨c83, _, _, rfl, pt, us, v84, u81, O85, rfl, h82⟩
  refine W.exit (thx ?_)
  obtain rfl := si H
  exact ⟨_, rfl, rfl, ⟨c9, _, _, rfl, pt, us, v5, u6, O11, rfl, h12⟩⟩
 ·have h87 : OA R_api_Cell c0 (.slice none 0 0) [] [] := OA.nil (Nat.succ_pos _)
  have O86 := O0.addHole (e := es true R_api_Cell (.slice none 0 0) 101 [] ([] : List G_api_Cell)) rfl
  exact ⟨c0, _, _, rfl, pt, us, (.slice none 0 0), [], O86, rfl, h87⟩
 rintro _ e_ w_ ⟨rfl, c88, g89, _, rfl, l88, rfl, v7, u8, O90, rfl, h91⟩
 refine bke (nrm (sr (va (v7) (va (v7) (wln (W.ret ?_))))))
 obtain rfl := si H4
 exact r1 ⟨_, c88, rfl, rfl, pt, v7, u8, O90, rfl, h91⟩
def f_linotyperef27_Insert (p0 : List G_api_Cell) (p1 : Int) (p2 : Int) : Option ((List G_api_Cell) × Bool) :=
 (orE (decide (p1 < 0)) (some (decide (p1 ≥ (p0.length : Int))))).bind fun d_6 =>
 (orE d_6 (some (decide (p2 < 1)))).bind fun d_12 =>
 if d_12 = true then
 some (p0, false)
 else
 (f_linotyperef27_torn p0 p1).bind fun x_31 =>
 (iter (σ := (List G_api_Cell) × Int) (τ := (List G_api_Cell)) (((p0.length : Int) - 0).toNat + 1) (fun s_38 =>
 if (decide (s_38.2 < (p0.length : Int))) = true then
 (if (decide (s_38.2 < p1)) = true then
 (idx x_31 s_38.2).bind fun x_55 =>
 (some (x_55.Kind, x_55.Text) : Option (Int × (List Int)))
 else
 (some (0, ([] : List Int)) : Option (Int × (List Int)))).bind fun z_48 =>
 (if (decide (s_38.2 ≥ (w64 (p1 + (imin p2 (w64 ((p0.length : Int) - p1))))))) = true then
 (idx x_31 (w64 (s_38.2 - (imin p2 (w64 ((p0.length : Int) - p1)))))).bind fun x_70 =>
 (some (x_70.Kind, x_70.Text) : Option (Int × (List Int)))
 else
 (some (z_48.1, z_48.2) : Option (Int × (List Int)))).bind fun z_59 =>
 ((andE ((w64 (s_38.2 + 1)) == (p0.length : Int)) (some (z_59.1 == 2))).bind fun d_80 =>
 if d_80 = true then
 (some (0, ([] : List Int)) : Option (Int × (List Int)))
 else
 (some (z_59.1, z_59.2) : Option (Int × (List Int)))).bind fun z_74 =>
 (app s_38.1 ([(⟨z_74.1, z_74.2⟩ : G_api_Cell)] : List G_api_Cell)).bind fun x_92 =>
 some (.inl (x_92, (w64 (s_38.2 + 1))))
 else
 some (.inr (s_38.1))) (([] : List G_api_Cell), 0)).bind fun o_38 =>
 some (o_38, true)
theorem c_linotyperef27_Insert (O0 : Own c0 G F) (p0 : List G_api_Cell) (p1 : Int) (p2 : Int) {r : (List G_api_Cell) × Bool} (h2 : Sl R_api_Cell c0 v1 p0) (H : f_linotyperef27_Insert p0 p1 p2 = some r) :
    Calls Tryz.prog 95 #[v1, .int .i64 p1, .int .i64 p2] c0.w (Post c0 fun c v => ∃ y1, Own c G (F) ∧ v = .tuple #[y1, .bool r.2] ∧ Sl R_api_Cell c y1 r.1) := by
 unfold f_linotyperef27_Insert at H
 refine en func95 rfl rfl (sr (va (.slice none 0 0) (va (.bool false) (wln (W.seq (W.seq (bn H fun d_6 h3 H => bn H fun d_12 h4 H => W.join (Jn c0 fun c l => Own c G (F) ∧ l = [(0, v1), (1, .int .i64 p1), (2, .int .i64 p2), (23, .bool d_12)]) ?_ ?_)))))))
 ·clear H
  refine W.region (va (.int .i64 p1) (va (.bool (decide (p1 < 0))) ?_))
  rcases bo (decide (p1 < 0)) with h5 | h5
  ·obtain rfl := orT h5 h3
   refine vb h5 (ps (ps (ps (ps (va (.bool true) ?_)))))
   have h6 : true = true := rfl
   obtain rfl := orT h6 h4
   exact vb h6 (ps (ps (va (.bool true) (wln ⟨c0, _, _, rfl, pt, us, O0, rfl⟩))))
  have H7 := orF h5 h3
  refine vb h5 (wn (va (.int .i64 p1) (wn (va (v1) (wn (vx (ln 3 underlying69 h2) (wn (va (.bool (decide (p1 ≥ (p0.length : Int)))) ?_))))))))
  obtain rfl := si H7
  refine va (.bool (decide (p1 ≥ (p0.length : Int)))) ?_
  rcases bo (decide (p1 ≥ (p0.length : Int))) with h8 | h8
  ·obtain rfl := orT h8 h4
   exact vb h8 (ps (ps (va (.bool true) (wln ⟨c0, _, _, rfl, pt, us, O0, rfl⟩))))
  have H9 := orF h8 h4
  refine vb h8 (wn (va (.int .i64 p2) (wn (va (.bool (decide (p2 < 1))) ?_))))
  obtain rfl := si H9
  exact va (.bool (decide (p2 < 1))) (wln ⟨c0, _, _, rfl, pt, us, O0, rfl⟩)
 rintro e_ w_ ⟨c10, g11, _, rfl, l10, rfl, O12, rfl⟩
 refine nrm (cn H (fun h16 H => ?_) (fun h16 H => ?_))
 ·refine sr (va (v1) (va (v1) (va (.bool false) (wln (W.ret (thr ?_))))))
  obtain rfl := si H
  exact r2 ⟨_, c10, rfl, rfl, pt, v1, O12, rfl, h2.m⟩
 refine W.skip (nrm (sr (va (.int .i64 p2) (va (v1) (vx (ln 3 underlying69 h2.m) (va (.int .i64 p1) (va (.int .i64 (w64 ((p0.length : Int) - p1))) (va (.int .i64 (imin p2 (w64 ((p0.length : Int) - p1)))) (va (.int .i64 (imin p2 (w64 ((p0.length : Int) - p1)))) (wln (sr (va (v1) (va (.int .i64 p1) (bn H fun x_31 h17 H => cl (c_linotyperef27_torn O12 p0 p1 h2.m h17) ?_))))))))))))))
 rintro v18 c25 l25 ⟨_, u19, O22, rfl, h20⟩
 refine va (v18) (wln (sr (va (.slice none 0 0) (wln (W.seq (sr (va (.int .i64 0) (wln (W.block (bn H fun o_38 h27 H28 => lp h27 (fun s_38 => Jn c25 fun c l => ∃ v29 u30, Own c G (es true R_api_Cell v29 101 u30 s_38.1 :: es true R_api_Cell v18 101 u19 x_31 :: F) ∧ l = [(0, v1), (1, .int .i64 p1), (2, .int .i64 (imin p2 (w64 ((p0.length : Int) - p1)))), (8, v18), (9, v29), (10, .int .i64 s_38.2)] ∧ OA R_api_Cell c v29 u30 s_38.1) (fun o_38_ ex e w => ex = .exit 0 ∧ (Jn c25 fun c l => ∃ v31 u32, Own c G (es true R_api_Cell v31 101 u32 o_38_ :: es true R_api_Cell v18 101 u19 x_31 :: F) ∧ l = [(9, v31)] ∧ OA R_api_Cell c v31 u32 o_38_) e w) ?_ ?_ ?_))))))))))
 ·clear H28 h27
  intro s_38 xx_ ee_ ww_ H
  revert ee_ ww_
  rintro e_ w_ ⟨c33, g34, _, rfl, l33, rfl, v29, u30, O35, rfl, h36⟩
  refine W.seq (sr (va (.int .i64 s_38.2) (va (v1) (vx (ln 3 underlying69 h2.m) (va (.bool (decide (s_38.2 < (p0.length : Int)))) (wln (cn H (fun h40 H => ?_) (fun h40 H => ?_))))))))
  ·refine W.skip (nrm (W.seq (W.block (sr (va (.agg #[.int .i64 0, .slice none 0 0]) (me (al 101 [.int .i64 0, .slice none 0 0] O35) ?_))))))
   rintro v44 c43 l43 ⟨b41, rfl, O42⟩
   refine md (sA 101 [.int .i64 0, .slice none 0 0] 0 O42 ⟨rfl, rfl, trivial⟩) ?_
   rintro c46 l46 O45
   refine wln (bn H fun z_48 H47 H48 => W.seqJ (Jn c46 fun c l => ∃ v49, Own c G (⟨.pointer (some ⟨b41, 0, none⟩), 101, [.int .i64 z_48.1, v49], 0⟩ :: es true R_api_Cell v29 101 u30 s_38.1 :: es true R_api_Cell v18 101 u19 x_31 :: F) ∧ l = [(0, v1), (1, .int .i64 p1), (2, .int .i64 (imin p2 (w64 ((p0.length : Int) - p1)))), (8, v18), (9, v29), (10, .int .i64 s_38.2), (11, .pointer (some ⟨b41, 0, none⟩))] ∧ Sl (RI .i32) c v49 z_48.2) ?_ ?_)
   ·refine sr (va (.int .i64 s_38.2) (va (.int .i64 p1) (va (.bool (decide (s_38.2 < p1))) (wln (cn H47 (fun h50 H47 => ?_) (fun h50 H47 => ?_))))))
    ·refine W.region (va (v18) (va (.int .i64 s_38.2) (bn H47 fun x_55 h51 H47 => vx (ixO underlying69 h20.m h51) ?_)))
     obtain ⟨l_52, h53, m54⟩ := OA.at (h20.mono (l33.trans (l43.trans l46))) h51
     obtain ⟨v55, rfl, h56⟩ := h53
     refine vr (.agg #[.int .i64 x_55.Kind, v55]) (rx (by kernel_rfl) (ldEN (T := 101) (l := [.int .i64 x_55.Kind, v55]) (by kernel_rfl) (by kernel_rfl) (O45.on 2 rfl) (h20.m.blk h51) (at2 (j := 0) m54 rfl))) ?_
     obtain ⟨a57, a58, a59, rfl⟩ := (h56).form
     refine md (sA 101 [.int .i64 x_55.Kind, .slice a57 a58 a59] 0 O45 ⟨rfl, h56.one, trivial⟩) ?_
     rintro c61 l61 O60
     refine wln ?_
     obtain rfl := si H47
     exact ⟨c61, _, _, rfl, pt, us, (.slice a57 a58 a59), O60, rfl, h56.m⟩
    refine W.skip (nrm ?_)
    obtain rfl := si H47
    exact ⟨c46, _, _, rfl, pt, us, (.slice none 0 0), O45, rfl, (Sl.nl _ _)⟩
   rintro e_ w_ ⟨c62, g63, _, rfl, l62, rfl, v49, O64, rfl, h65⟩
   refine bn H48 fun z_59 H69 H70 => W.seqJ (Jn c62 fun c l => ∃ v71, Own c G (⟨.pointer (some ⟨b41, 0, none⟩), 101, [.int .i64 z_59.1, v71], 0⟩ :: es true R_api_Cell v29 101 u30 s_38.1 :: es true R_api_Cell v18 101 u19 x_31 :: F) ∧ l = [(0, v1), (1, .int .i64 p1), (2, .int .i64 (imin p2 (w64 ((p0.length : Int) - p1)))), (8, v18), (9, v29), (10, .int .i64 s_38.2), (11, .pointer (some ⟨b41, 0, none⟩))] ∧ Sl (RI .i32) c v71 z_59.2) ?_ ?_
   ·refine sr (va (.int .i64 s_38.2) (va (.int .i64 p1) (va (.int .i64 (imin p2 (w64 ((p0.length : Int) - p1)))) (va (.int .i64 (w64 (p1 + (imin p2 (w64 ((p0.length : Int) - p1)))))) (va (.bool (decide (s_38.2 ≥ (w64 (p1 + (imin p2 (w64 ((p0.length : Int) - p1)))))))) (wln (cn H69 (fun h72 H69 => ?_) (fun h72 H69 => ?_))))))))
    ·refine W.region (va (v18) (va (.int .i64 s_38.2) (va (.int .i64 (imin p2 (w64 ((p0.length : Int) - p1)))) (va (.int .i64 (w64 (s_38.2 - (imin p2 (w64 ((p0.length : Int) - p1)))))) (bn H69 fun x_70 h73 H69 => vx (ixO underlying69 h20.m h73) ?_)))))
     obtain ⟨l_74, h75, m76⟩ := OA.at (h20.mono (l33.trans (l43.trans (l46.trans l62)))) h73
     obtain ⟨v77, rfl, h78⟩ := h75
     refine vr (.agg #[.int .i64 x_70.Kind, v77]) (rx (by kernel_rfl) (ldEN (T := 101) (l := [.int .i64 x_70.Kind, v77]) (by kernel_rfl) (by kernel_rfl) (O64.on 2 rfl) (h20.m.blk h73) (at2 (j := 0) m76 rfl))) ?_
     obtain ⟨a79, a80, a81, rfl⟩ := (h78).form
     refine md (sA 101 [.int .i64 x_70.Kind, .slice a79 a80 a81] 0 O64 ⟨rfl, h78.one, trivial⟩) ?_
     rintro c83 l83 O82
     refine wln ?_
     obtain rfl := si H69
     exact ⟨c83, _, _, rfl, pt, us, (.slice a79 a80 a81), O82, rfl, h78.m⟩
    refine W.skip (nrm ?_)
    obtain rfl := si H69
    exact ⟨c62, _, _, rfl, pt, us, v49, O64, rfl, h65⟩
   rintro e_ w_ ⟨c84, g85, _, rfl, l84, rfl, v71, O86, rfl, h87⟩
   refine bn H70 fun z_74 H91 H92 => W.seqJ (Jn c84 fun c l => ∃ v93, Own c G (⟨.pointer (some ⟨b41, 0, none⟩), 101, [.int .i64 z_74.1, v93], 0⟩ :: es true R_api_Cell v29 101 u30 s_38.1 :: es true R_api_Cell v18 101 u19 x_31 :: F) ∧ l = [(0, v1), (1, .int .i64 p1), (2, .int .i64 (imin p2 (w64 ((p0.length : Int) - p1)))), (8, v18), (9, v29), (10, .int .i64 s_38.2), (11, .pointer (some ⟨b41, 0, none⟩))] ∧ Sl (RI .i32) c v93 z_74.2) ?_ ?_
   ·refine W.seq (bn H91 fun d_80 h94 H91 => W.join (Jn c84 fun c l => Own c G (⟨.pointer (some ⟨b41, 0, none⟩), 101, [.int .i64 z_59.1, v71], 0⟩ :: es true R_api_Cell v29 101 u30 s_38.1 :: es true R_api_Cell v18 101 u19 x_31 :: F) ∧ l = [(0, v1), (1, .int .i64 p1), (2, .int .i64 (imin p2 (w64 ((p0.length : Int) - p1)))), (8, v18), (9, v29), (10, .int .i64 s_38.2), (11, .pointer (some ⟨b41, 0, none⟩)), (68, .bool d_80)]) ?_ ?_)
    ·clear H91
     refine W.region (va (.int .i64 s_38.2) (va (.int .i64 (w64 (s_38.2 + 1))) (va (v1) (vx (ln 3 underlying69 h2.m) (va (.bool ((w64 (s_38.2 + 1)) == (p0.length : Int))) ?_)))))
     rcases bo ((w64 (s_38.2 + 1)) == (p0.length : Int)) with h95 | h95
     ·have H96 := anT h95 h94
      refine vb h95 (wn (va (.pointer (some ⟨b41, 0, none⟩)) (wn (vx (le1 0 underlying3 (O86.on 0 rfl)) (wn (va (.bool (z_59.1 == 2)) ?_))))))
      obtain rfl := si H96
      exact va (.bool (z_59.1 == 2)) (wln ⟨c84, _, _, rfl, pt, us, O86, rfl⟩)
     obtain rfl := anF h95 h94
     exact vb h95 (ps (ps (ps (va (.bool false) (wln ⟨c84, _, _, rfl, pt, us, O86, rfl⟩)))))
    rintro e_ w_ ⟨c97, g98, _, rfl, l97, rfl, O99, rfl⟩
    refine nrm (cn H91 (fun h103 H91 => ?_) (fun h103 H91 => ?_))
    ·refine W.region (va (.agg #[.int .i64 0, .slice none 0 0]) (md (sA 101 [.int .i64 0, .slice none 0 0] 0 O99 ⟨rfl, rfl, trivial⟩) ?_))
     rintro c105 l105 O104
     refine wln ?_
     obtain rfl := si H91
     exact ⟨c105, _, _, rfl, pt, us, (.slice none 0 0), O104, rfl, (Sl.nl _ _)⟩
    refine W.skip (nrm ?_)
    obtain rfl := si H91
    exact ⟨c97, _, _, rfl, pt, us, v71, O99, rfl, h87.m⟩
   rintro e_ w_ ⟨c106, g107, _, rfl, l106, rfl, v93, O108, rfl, h109⟩
   refine W.region (va (v29) (vx (leN 101 0 [.int .i64 z_74.1, v93] (O108.on 0 rfl)) ?_))
   obtain ⟨a113, a114, a115, rfl⟩ := (h109).form
   refine me (sl R_api_Cell 101 [[.int .i64 z_74.1, .slice a113 a114 a115]] ([(⟨z_74.1, z_74.2⟩ : G_api_Cell)] : List G_api_Cell) O108 ⟨⟨(.slice a113 a114 a115), rfl, h109⟩, trivial⟩) ?_
   rintro v120 c119 l119 ⟨u117, O116, h118⟩
   obtain ⟨c123, h124, l123, O121, h122⟩ := O116.frz 0 rfl h118
   refine WL.gh h124 (bn H92 fun x_92 h125 H92 => me (ap R_api_Cell (.agg #[.int .i64 0, .slice none 0 0]) 32 69 2 O121 h36.m h122 h125 underlying69) ?_)
   rintro v130 c129 l129 ⟨u127, O126, h128⟩
   refine va (v130) (WL.nil (bkn (nrm (W.region (va (.int .i64 s_38.2) (va (.int .i64 (w64 (s_38.2 + 1))) (va (.int .i64 (w64 (s_38.2 + 1))) (WL.nil ?_))))))))
   obtain rfl := si H92
   refine ⟨_, rfl, ?_⟩
   have O131 := O126.sD 4 [2, 3]
   exact ⟨c129, _, _, rfl, pt, us, v130, u127, O131, rfl, h128⟩
  refine W.exit (thx ?_)
  obtain rfl := si H
  exact ⟨_, rfl, rfl, ⟨c33, _, _, rfl, pt, us, v29, u30, O35, rfl, h36⟩⟩
 ·have h133 : OA R_api_Cell c25 (.slice none 0 0) [] [] := OA.nil (Nat.succ_pos _)
  have O132 := O22.addHole (e := es true R_api_Cell (.slice none 0 0) 101 [] ([] : List G_api_Cell)) rfl
  exact ⟨c25, _, _, rfl, pt, us, (.slice none 0 0), [], O132, rfl, h133⟩
 rintro _ e_ w_ ⟨rfl, c134, g135, _, rfl, l134, rfl, v31, u32, O136, rfl, h137⟩
 refine bke (nrm (sr (va (v31) (va (v31) (va (.bool true) (wln (W.ret ?_)))))))
 obtain rfl := si H28
 obtain ⟨c143, h144, l143, O141, h142⟩ := O136.frz 0 rfl h137
 have O145 := O141.sD 2 []
 exact bqgh h144 (r2 ⟨_, c143, rfl, rfl, pt, v31, O145, rfl, h142⟩)
def f_linotyperef27_Delete (p0 : List G_api_Cell) (p1 : Int) (p2 : Int) : Option ((List G_api_Cell) × Bool) :=
 (orE (decide (p1 < 0)) (some (decide (p1 ≥ (p0.length : Int))))).bind fun d_6 =>
 (orE d_6 (some (decide (p2 < 1)))).bind fun d_12 =>
 if d_12 = true then
 some (p0, false)
 else
 (f_linotyperef27_torn p0 p1).bind fun x_31 =>
 (f_linotyperef27_torn x_31 (w64 (p1 + (imin p2 (w64 ((p0.length : Int) - p1)))))).bind fun x_35 =>
 (iter (σ := (List G_api_Cell) × Int) (τ := (List G_api_Cell)) (((p0.length : Int) - 0).toNat + 1) (fun s_42 =>
 if (decide (s_42.2 < (p0.length : Int))) = true then
 (if (decide (s_42.2 < p1)) = true then
 (idx x_35 s_42.2).bind fun x_59 =>
 (some (x_59.Kind, x_59.Text) : Option (Int × (List Int)))
 else
 if (decide ((w64 (s_42.2 + (imin p2 (w64 ((p0.length : Int) - p1))))) < (p0.length : Int))) = true then
 (idx x_35 (w64 (s_42.2 + (imin p2 (w64 ((p0.length : Int) - p1)))))).bind fun x_74 =>
 (some (x_74.Kind, x_74.Text) : Option (Int × (List Int)))
 else
 (some (0, ([] : List Int)) : Option (Int × (List Int)))).bind fun z_52 =>
 (app s_42.1 ([(⟨z_52.1, z_52.2⟩ : G_api_Cell)] : List G_api_Cell)).bind fun x_81 =>
 some (.inl (x_81, (w64 (s_42.2 + 1))))
 else
 some (.inr (s_42.1))) (([] : List G_api_Cell), 0)).bind fun o_42 =>
 some (o_42, true)
theorem c_linotyperef27_Delete (O0 : Own c0 G F) (p0 : List G_api_Cell) (p1 : Int) (p2 : Int) {r : (List G_api_Cell) × Bool} (h2 : Sl R_api_Cell c0 v1 p0) (H : f_linotyperef27_Delete p0 p1 p2 = some r) :
    Calls Tryz.prog 96 #[v1, .int .i64 p1, .int .i64 p2] c0.w (Post c0 fun c v => ∃ y1, Own c G (F) ∧ v = .tuple #[y1, .bool r.2] ∧ Sl R_api_Cell c y1 r.1) := by
 unfold f_linotyperef27_Delete at H
 refine en func96 rfl rfl (sr (va (.slice none 0 0) (va (.bool false) (wln (W.seq (W.seq (bn H fun d_6 h3 H => bn H fun d_12 h4 H => W.join (Jn c0 fun c l => Own c G (F) ∧ l = [(0, v1), (1, .int .i64 p1), (2, .int .i64 p2), (23, .bool d_12)]) ?_ ?_)))))))
 ·clear H
  refine W.region (va (.int .i64 p1) (va (.bool (decide (p1 < 0))) ?_))
  rcases bo (decide (p1 < 0)) with h5 | h5
  ·obtain rfl := orT h5 h3
   refine vb h5 (ps (ps (ps (ps (va (.bool true) ?_)))))
   have h6 : true = true := rfl
   obtain rfl := orT h6 h4
   exact vb h6 (ps (ps (va (.bool true) (wln ⟨c0, _, _, rfl, pt, us, O0, rfl⟩))))
  have H7 := orF h5 h3
  refine vb h5 (wn (va (.int .i64 p1) (wn (va (v1) (wn (vx (ln 3 underlying69 h2) (wn (va (.bool (decide (p1 ≥ (p0.length : Int)))) ?_))))))))
  obtain rfl := si H7
  refine va (.bool (decide (p1 ≥ (p0.length : Int)))) ?_
  rcases bo (decide (p1 ≥ (p0.length : Int))) with h8 | h8
  ·obtain rfl := orT h8 h4
   exact vb h8 (ps (ps (va (.bool true) (wln ⟨c0, _, _, rfl, pt, us, O0, rfl⟩))))
  have H9 := orF h8 h4
  refine vb h8 (wn (va (.int .i64 p2) (wn (va (.bool (decide (p2 < 1))) ?_))))
  obtain rfl := si H9
  exact va (.bool (decide (p2 < 1))) (wln ⟨c0, _, _, rfl, pt, us, O0, rfl⟩)
 rintro e_ w_ ⟨c10, g11, _, rfl, l10, rfl, O12, rfl⟩
 refine nrm (cn H (fun h16 H => ?_) (fun h16 H => ?_))
 ·refine sr (va (v1) (va (v1) (va (.bool false) (wln (W.ret (thr ?_))))))
  obtain rfl := si H
  exact r2 ⟨_, c10, rfl, rfl, pt, v1, O12, rfl, h2.m⟩
 refine W.skip (nrm (sr (va (.int .i64 p2) (va (v1) (vx (ln 3 underlying69 h2.m) (va (.int .i64 p1) (va (.int .i64 (w64 ((p0.length : Int) - p1))) (va (.int .i64 (imin p2 (w64 ((p0.length : Int) - p1)))) (va (.int .i64 (imin p2 (w64 ((p0.length : Int) - p1)))) (wln (sr (va (v1) (va (.int .i64 p1) (bn H fun x_31 h17 H => cl (c_linotyperef27_torn O12 p0 p1 h2.m h17) ?_))))))))))))))
 rintro v18 c25 l25 ⟨_, u19, O22, rfl, h20⟩
 refine va (.int .i64 p1) (va (.int .i64 (imin p2 (w64 ((p0.length : Int) - p1)))) (va (.int .i64 (w64 (p1 + (imin p2 (w64 ((p0.length : Int) - p1)))))) ?_))
 obtain ⟨c29, h30, l29, O27, h28⟩ := O22.frz 0 rfl h20
 refine WL.gh h30 (bn H fun x_35 h31 H => cl (c_linotyperef27_torn O27 x_31 (w64 (p1 + (imin p2 (w64 ((p0.length : Int) - p1))))) h28 h31) ?_)
 rintro v32 c39 l39 ⟨_, u33, O36, rfl, h34⟩
 refine va (v32) (wln (sr (va (.slice none 0 0) (wln (W.seq (sr (va (.int .i64 0) (wln (W.block (bn H fun o_42 h41 H42 => lp h41 (fun s_42 => Jn c39 fun c l => ∃ v43 u44, Own c G (es true R_api_Cell v43 101 u44 s_42.1 :: es true R_api_Cell v32 101 u33 x_35 :: es false R_api_Cell v18 101 u19 x_31 :: F) ∧ l = [(0, v1), (1, .int .i64 p1), (2, .int .i64 (imin p2 (w64 ((p0.length : Int) - p1)))), (8, v32), (9, v43), (10, .int .i64 s_42.2)] ∧ OA R_api_Cell c v43 u44 s_42.1) (fun o_42_ ex e w => ex = .exit 0 ∧ (Jn c39 fun c l => ∃ v45 u46, Own c G (es true R_api_Cell v45 101 u46 o_42_ :: es true R_api_Cell v32 101 u33 x_35 :: es false R_api_Cell v18 101 u19 x_31 :: F) ∧ l = [(9, v45)] ∧ OA R_api_Cell c v45 u46 o_42_) e w) ?_ ?_ ?_))))))))))
 ·clear H42 h41
  intro s_42 xx_ ee_ ww_ H
  revert ee_ ww_
  rintro e_ w_ ⟨c47, g48, _, rfl, l47, rfl, v43, u44, O49, rfl, h50⟩
  refine W.seq (sr (va (.int .i64 s_42.2) (va (v1) (vx (ln 3 underlying69 h2.m) (va (.bool (decide (s_42.2 < (p0.length : Int)))) (wln (cn H (fun h54 H => ?_) (fun h54 H => ?_))))))))
  ·refine W.skip (nrm (W.seq (W.block (sr (va (.agg #[.int .i64 0, .slice none 0 0]) (me (al 101 [.int .i64 0, .slice none 0 0] O49) ?_))))))
   rintro v58 c57 l57 ⟨b55, rfl, O56⟩
   refine md (sA 101 [.int .i64 0, .slice none 0 0] 0 O56 ⟨rfl, rfl, trivial⟩) ?_
   rintro c60 l60 O59
   refine wln (bn H fun z_52 H61 H62 => W.seqJ (Jn c60 fun c l => ∃ v63, Own c G (⟨.pointer (some ⟨b55, 0, none⟩), 101, [.int .i64 z_52.1, v63], 0⟩ :: es true R_api_Cell v43 101 u44 s_42.1 :: es true R_api_Cell v32 101 u33 x_35 :: es false R_api_Cell v18 101 u19 x_31 :: F) ∧ l = [(0, v1), (1, .int .i64 p1), (2, .int .i64 (imin p2 (w64 ((p0.length : Int) - p1)))), (8, v32), (9, v43), (10, .int .i64 s_42.2), (11, .pointer (some ⟨b55, 0, none⟩))] ∧ Sl (RI .i32) c v63 z_52.2) ?_ ?_)
   ·refine sr (va (.int .i64 s_42.2) (va (.int .i64 p1) (va (.bool (decide (s_42.2 < p1))) (wln (cn H61 (fun h64 H61 => ?_) (fun h64 H61 => ?_))))))
    ·refine W.region (va (v32) (va (.int .i64 s_42.2) (bn H61 fun x_59 h65 H61 => vx (ixO underlying69 h34.m h65) ?_)))
     obtain ⟨l_66, h67, m68⟩ := OA.at (h34.mono (l47.trans (l57.trans l60))) h65
     obtain ⟨v69, rfl, h70⟩ := h67
     refine vr (.agg #[.int .i64 x_59.Kind, v69]) (rx (by kernel_rfl) (ldEN (T := 101) (l := [.int .i64 x_59.Kind, v69]) (by kernel_rfl) (by kernel_rfl) (O59.on 2 rfl) (h34.m.blk h65) (at2 (j := 0) m68 rfl))) ?_
     obtain ⟨a71, a72, a73, rfl⟩ := (h70).form
     refine md (sA 101 [.int .i64 x_59.Kind, .slice a71 a72 a73] 0 O59 ⟨rfl, h70.one, trivial⟩) ?_
     rintro c75 l75 O74
     refine wln ?_
     obtain rfl := si H61
     exact ⟨c75, _, _, rfl, pt, us, (.slice a71 a72 a73), O74, rfl, h70.m⟩
    refine sr (va (.int .i64 s_42.2) (va (.int .i64 (imin p2 (w64 ((p0.length : Int) - p1)))) (va (.int .i64 (w64 (s_42.2 + (imin p2 (w64 ((p0.length : Int) - p1)))))) (va (v1) (vx (ln 3 underlying69 h2.m) (va (.bool (decide ((w64 (s_42.2 + (imin p2 (w64 ((p0.length : Int) - p1))))) < (p0.length : Int)))) (wln (cn H61 (fun h76 H61 => ?_) (fun h76 H61 => ?_)))))))))
    ·refine W.region (va (v32) (va (.int .i64 s_42.2) (va (.int .i64 (imin p2 (w64 ((p0.length : Int) - p1)))) (va (.int .i64 (w64 (s_42.2 + (imin p2 (w64 ((p0.length : Int) - p1)))))) (bn H61 fun x_74 h77 H61 => vx (ixO underlying69 h34.m h77) ?_)))))
     obtain ⟨l_78, h79, m80⟩ := OA.at (h34.mono (l47.trans (l57.trans l60))) h77
     obtain ⟨v81, rfl, h82⟩ := h79
     refine vr (.agg #[.int .i64 x_74.Kind, v81]) (rx (by kernel_rfl) (ldEN (T := 101) (l := [.int .i64 x_74.Kind, v81]) (by kernel_rfl) (by kernel_rfl) (O59.on 2 rfl) (h34.m.blk h77) (at2 (j := 0) m80 rfl))) ?_
     obtain ⟨a83, a84, a85, rfl⟩ := (h82).form
     refine md (sA 101 [.int .i64 x_74.Kind, .slice a83 a84 a85] 0 O59 ⟨rfl, h82.one, trivial⟩) ?_
     rintro c87 l87 O86
     refine wln ?_
     obtain rfl := si H61
     exact ⟨c87, _, _, rfl, pt, us, (.slice a83 a84 a85), O86, rfl, h82.m⟩
    refine W.skip (nrm ?_)
    obtain rfl := si H61
    exact ⟨c60, _, _, rfl, pt, us, (.slice none 0 0), O59, rfl, (Sl.nl _ _)⟩
   rintro e_ w_ ⟨c88, g89, _, rfl, l88, rfl, v63, O90, rfl, h91⟩
   refine W.region (va (v43) (vx (leN 101 0 [.int .i64 z_52.1, v63] (O90.on 0 rfl)) ?_))
   obtain ⟨a95, a96, a97, rfl⟩ := (h91).form
   refine me (sl R_api_Cell 101 [[.int .i64 z_52.1, .slice a95 a96 a97]] ([(⟨z_52.1, z_52.2⟩ : G_api_Cell)] : List G_api_Cell) O90 ⟨⟨(.slice a95 a96 a97), rfl, h91⟩, trivial⟩) ?_
   rintro v102 c101 l101 ⟨u99, O98, h100⟩
   obtain ⟨c105, h106, l105, O103, h104⟩ := O98.frz 0 rfl h100
   refine WL.gh h106 (bn H62 fun x_81 h107 H62 => me (ap R_api_Cell (.agg #[.int .i64 0, .slice none 0 0]) 32 69 2 O103 h50.m h104 h107 underlying69) ?_)
   rintro v112 c111 l111 ⟨u109, O108, h110⟩
   refine va (v112) (WL.nil (bkn (nrm (W.region (va (.int .i64 s_42.2) (va (.int .i64 (w64 (s_42.2 + 1))) (va (.int .i64 (w64 (s_42.2 + 1))) (WL.nil ?_))))))))
   obtain rfl := si H62
   refine ⟨_, rfl, ?_⟩
   have O113 := O108.sD 5 [2, 3, 4]
   exact ⟨c111, _, _, rfl, pt, us, v112, u109, O113, rfl, h110⟩
  refine W.exit (thx ?_)
  obtain rfl := si H
  exact ⟨_, rfl, rfl, ⟨c47, _, _, rfl, pt, us, v43, u44, O49, rfl, h50⟩⟩
 ·have h115 : OA R_api_Cell c39 (.slice none 0 0) [] [] := OA.nil (Nat.succ_pos _)
  have O114 := O36.addHole (e := es true R_api_Cell (.slice none 0 0) 101 [] ([] : List G_api_Cell)) rfl
  exact ⟨c39, _, _, rfl, pt, us, (.slice none 0 0), [], O114, rfl, h115⟩
 rintro _ e_ w_ ⟨rfl, c116, g117, _, rfl, l116, rfl, v45, u46, O118, rfl, h119⟩
 refine bke (nrm (sr (va (v45) (va (v45) (va (.bool true) (wln (W.ret ?_)))))))
 obtain rfl := si H42
 obtain ⟨c125, h126, l125, O123, h124⟩ := O118.frz 0 rfl h119
 have O127 := O123.sD 3 []
 exact bqgh h126 (r2 ⟨_, c125, rfl, rfl, pt, v45, O127, rfl, h124⟩)

end Go.Proofs.YthokmpbbkpjhbaaGreatDoor
