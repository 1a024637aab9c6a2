import Derived.Test.YthokmpbbkpjhbaaGreatDoorMq
import Derived.Test.YthokmpbbkpjhbaaGreatDoorProg
import Derived.Test.YthokmpbbkpjhbaaGreatDoorMy
import Derived.Test.YthokmpbbkpjhbaaGreatDoorMz
import Derived.Test.YthokmpbbkpjhbaaGreatDoorA1
namespace Go.Proofs.YthokmpbbkpjhbaaGreatDoor
open Go Go.Lt
set_option maxRecDepth 10000
set_option linter.unusedVariables false
attribute [local irreducible] W WL AC
open Tryz
variable {c0 : Cx} {G : Gm} {F : List En} {sg : Sto} {v1 v2 v3 v4 v5 v6 v7 v8 v9 v10 v11 v12 v13 v14 v15 v16 v17 v18 v19 v20 v21 v22 v23 v24 v25 v26 v27 v28 v29 v30 v31 v32 v33 v34 v35 v36 v37 v38 v39 v40 v41 v42 v43 v44 v45 v46 v47 v48 v49 v50 v51 v52 v53 v54 v55 v56 v57 v58 v59 v60 : Value}
def f_erase_held (p0 : Int) (p1 : Int) (p2 : Int) : Option (Int) :=
 some (imax p1 (imin p0 p2))
theorem c_erase_held (O0 : Own c0 G F) (p0 : Int) (p1 : Int) (p2 : Int) {r : Int} (H : f_erase_held p0 p1 p2 = some r) :
    Calls Tryz.prog 214 #[.int .i64 p0, .int .i64 p1, .int .i64 p2] c0.w (Post c0 fun c v => Own c G (F) ∧ v = .int .i64 r) := by
 unfold f_erase_held at H
 refine en func214 rfl rfl (sr (va (.int .i64 0) (wln (sr (va (.int .i64 p1) (va (.int .i64 p0) (va (.int .i64 p2) (va (.int .i64 (imin p0 p2)) (va (.int .i64 (imax p1 (imin p0 p2))) (va (.int .i64 (imax p1 (imin p0 p2))) (wln (W.ret ?_))))))))))))
 obtain rfl := si H
 exact r1 ⟨_, c0, rfl, rfl, pt, O0, rfl⟩
def f_erase_Range (sg : Sto) (p0 : Option Nat) (p1 : Int) (p2 : Int) : Option (Sto) :=
 (f_row_Row_Wide sg p0).bind fun x_3 =>
 (f_erase_held p1 0 x_3).bind fun x_4 =>
 (f_row_Row_Wide sg p0).bind fun x_7 =>
 (f_erase_held p2 0 x_7).bind fun x_8 =>
 if (decide (x_4 < x_8)) = true then
 (f_cell_Blanks (w64 (x_8 - x_4))).bind fun x_21 =>
 (f_row_Row_Paint sg p0 x_4 x_21).bind fun x_22 =>
 some x_22.1
 else
 some sg
theorem c_erase_Range (O0 : Own c0 G F) (R0 : Rel c0 sg G) (hG : Gl [0, 4] c0) (p0 : Option Nat) (p1 : Int) (p2 : Int) {r : Sto} (h2 : Pt 0 c0 v1 p0) (H : f_erase_Range sg p0 p1 p2 = some r) :
    Calls Tryz.prog 215 #[v1, .int .i64 p1, .int .i64 p2] c0.w (Post c0 fun c v => ∃ G_ : Gm, Own c G_ (F) ∧ Rel c r G_ ∧ v = .tuple #[]) := by
 unfold f_erase_Range at H
 refine en func215 rfl rfl (sr (va (.int .i64 p1) (va (v1) (bn H fun x_3 h3 H => cl (c_row_Row_Wide O0 R0 p0 h2 h3) ?_))))
 rintro v9 c8 l8 ⟨O5, rfl⟩
 refine bn H fun x_4 h10 H => cl (c_erase_held O5 p1 0 x_3 h10) ?_
 rintro v16 c15 l15 ⟨O12, rfl⟩
 refine va (.int .i64 p2) (va (v1) (bn H fun x_7 h17 H => cl (c_row_Row_Wide O12 R0.m p0 h2.m h17) ?_))
 rintro v23 c22 l22 ⟨O19, rfl⟩
 refine bn H fun x_8 h24 H => cl (c_erase_held O19 p2 0 x_7 h24) ?_
 rintro v30 c29 l29 ⟨O26, rfl⟩
 refine va (.int .i64 x_4) (va (.int .i64 x_8) (wln (sr (va (.int .i64 x_4) (va (.int .i64 x_8) (va (.bool (decide (x_4 < x_8))) (wln (cn H (fun h31 H => ?_) (fun h31 H => ?_)))))))))
 ·refine W.region (va (v1) (va (.int .i64 x_4) (va (.int .i64 x_8) (va (.int .i64 x_4) (va (.int .i64 (w64 (x_8 - x_4))) (bn H fun x_21 h32 H => cl (c_cell_Blanks O26 (w64 (x_8 - x_4)) h32) ?_))))))
  rintro v33 c40 l40 ⟨_, u34, O37, rfl, h35⟩
  obtain ⟨c44, h45, l44, O42, h43⟩ := O37.frz 0 rfl h35
  refine WL.gh h45 (bn H fun x_22 h46 H => cl (c_row_Row_Paint O42 R0.m (hG.m.le (by decide)) p0 x_4 x_21 h2.m h43 h46) ?_)
  rintro v47 c53 l53 ⟨_, G49, O50, R51, rfl, h48⟩
  refine WL.nil ?_
  obtain rfl := si H
  have O55 := O50.sD 1 []
  exact n0 ⟨_, c53, rfl, rfl, pt, G49, O55, R51, rfl⟩
 refine W.skip ?_
 obtain rfl := si H
 exact n0 ⟨_, c29, rfl, rfl, pt, G, O26, R0.m, rfl⟩
def f_erase_Cells (sg : Sto) (p0 : Option Nat) (p1 : Int) (p2 : Int) : Option (Sto) :=
 (andE (decide (p1 ≥ 0)) (some (decide (p2 > 0)))).bind fun d_3 =>
 if d_3 = true then
 (f_row_Row_Wide sg p0).bind fun x_10 =>
 (f_erase_held p1 0 x_10).bind fun x_11 =>
 (f_row_Row_Wide sg p0).bind fun x_19 =>
 (f_erase_held p2 0 x_19).bind fun x_20 =>
 (f_erase_Range sg p0 x_11 (w64 (x_11 + x_20))).bind fun x_22 =>
 some x_22
 else
 some sg
theorem c_erase_Cells (O0 : Own c0 G F) (R0 : Rel c0 sg G) (hG : Gl [0, 4] c0) (p0 : Option Nat) (p1 : Int) (p2 : Int) {r : Sto} (h2 : Pt 0 c0 v1 p0) (H : f_erase_Cells sg p0 p1 p2 = some r) :
    Calls Tryz.prog 176 #[v1, .int .i64 p1, .int .i64 p2] c0.w (Post c0 fun c v => ∃ G_ : Gm, Own c G_ (F) ∧ Rel c r G_ ∧ v = .tuple #[]) := by
 unfold f_erase_Cells at H
 refine en func176 rfl rfl (W.seq (bn H fun d_3 h3 H => W.join (Jn c0 fun c l => Own c G (F) ∧ l = [(0, v1), (1, .int .i64 p1), (2, .int .i64 p2), (11, .bool d_3)]) ?_ ?_))
 ·clear H
  refine W.region (va (.int .i64 p1) (va (.bool (decide (p1 ≥ 0))) ?_))
  rcases bo (decide (p1 ≥ 0)) with h4 | h4
  ·have H5 := anT h4 h3
   refine vb h4 (wn (va (.int .i64 p2) (wn (va (.bool (decide (p2 > 0))) ?_))))
   obtain rfl := si H5
   exact va (.bool (decide (p2 > 0))) (wln ⟨c0, _, _, rfl, pt, us, O0, rfl⟩)
  obtain rfl := anF h4 h3
  exact vb h4 (ps (ps (va (.bool false) (wln ⟨c0, _, _, rfl, pt, us, O0, rfl⟩))))
 rintro e_ w_ ⟨c6, g7, _, rfl, l6, rfl, O8, rfl⟩
 refine nrm (cn H (fun h12 H => ?_) (fun h12 H => ?_))
 ·refine sr (va (.int .i64 p1) (va (v1) (bn H fun x_10 h13 H => cl (c_row_Row_Wide O8 R0.m p0 h2.m h13) ?_)))
  rintro v19 c18 l18 ⟨O15, rfl⟩
  refine bn H fun x_11 h20 H => cl (c_erase_held O15 p1 0 x_10 h20) ?_
  rintro v26 c25 l25 ⟨O22, rfl⟩
  refine va (.int .i64 x_11) (wln (W.region (va (v1) (va (.int .i64 x_11) (va (.int .i64 x_11) (va (.int .i64 p2) (va (v1) (bn H fun x_19 h27 H => cl (c_row_Row_Wide O22 R0.m p0 h2.m h27) ?_))))))))
  rintro v33 c32 l32 ⟨O29, rfl⟩
  refine bn H fun x_20 h34 H => cl (c_erase_held O29 p2 0 x_19 h34) ?_
  rintro v40 c39 l39 ⟨O36, rfl⟩
  refine va (.int .i64 (w64 (x_11 + x_20))) (bn H fun x_22 h41 H => cl (c_erase_Range O36 R0.m (hG.m.le (by decide)) p0 x_11 (w64 (x_11 + x_20)) h2.m h41) ?_)
  rintro v47 c46 l46 ⟨G42, O43, R44, rfl⟩
  refine WL.nil ?_
  obtain rfl := si H
  exact n0 ⟨_, c46, rfl, rfl, pt, G42, O43, R44, rfl⟩
 refine W.skip ?_
 obtain rfl := si H
 exact n0 ⟨_, c6, rfl, rfl, pt, G, O8, R0.m, rfl⟩
def f_erase_Right (sg : Sto) (p0 : Option Nat) (p1 : Int) : Option (Sto) :=
 (f_row_Row_Wide sg p0).bind fun x_4 =>
 (f_erase_Range sg p0 p1 x_4).bind fun x_5 =>
 some x_5
theorem c_erase_Right (O0 : Own c0 G F) (R0 : Rel c0 sg G) (hG : Gl [0, 4] c0) (p0 : Option Nat) (p1 : Int) {r : Sto} (h2 : Pt 0 c0 v1 p0) (H : f_erase_Right sg p0 p1 = some r) :
    Calls Tryz.prog 211 #[v1, .int .i64 p1] c0.w (Post c0 fun c v => ∃ G_ : Gm, Own c G_ (F) ∧ Rel c r G_ ∧ v = .tuple #[]) := by
 unfold f_erase_Right at H
 refine en func211 rfl rfl (W.region (va (v1) (va (.int .i64 p1) (va (v1) (bn H fun x_4 h3 H => cl (c_row_Row_Wide O0 R0 p0 h2 h3) ?_)))))
 rintro v9 c8 l8 ⟨O5, rfl⟩
 refine bn H fun x_5 h10 H => cl (c_erase_Range O5 R0.m (hG.m.le (by decide)) p0 p1 x_4 h2.m h10) ?_
 rintro v16 c15 l15 ⟨G11, O12, R13, rfl⟩
 refine WL.nil ?_
 obtain rfl := si H
 exact n0 ⟨_, c15, rfl, rfl, pt, G11, O12, R13, rfl⟩
def f_erase_Left (sg : Sto) (p0 : Option Nat) (p1 : Int) : Option (Sto) :=
 (f_row_Row_Wide sg p0).bind fun x_4 =>
 (f_erase_held p1 (-1) x_4).bind fun x_5 =>
 (f_erase_Range sg p0 0 (w64 (x_5 + 1))).bind fun x_7 =>
 some x_7
theorem c_erase_Left (O0 : Own c0 G F) (R0 : Rel c0 sg G) (hG : Gl [0, 4] c0) (p0 : Option Nat) (p1 : Int) {r : Sto} (h2 : Pt 0 c0 v1 p0) (H : f_erase_Left sg p0 p1 = some r) :
    Calls Tryz.prog 212 #[v1, .int .i64 p1] c0.w (Post c0 fun c v => ∃ G_ : Gm, Own c G_ (F) ∧ Rel c r G_ ∧ v = .tuple #[]) := by
 unfold f_erase_Left at H
 refine en func212 rfl rfl (W.region (va (v1) (va (.int .i64 p1) (va (v1) (bn H fun x_4 h3 H => cl (c_row_Row_Wide O0 R0 p0 h2 h3) ?_)))))
 rintro v9 c8 l8 ⟨O5, rfl⟩
 refine bn H fun x_5 h10 H => cl (c_erase_held O5 p1 (-1) x_4 h10) ?_
 rintro v16 c15 l15 ⟨O12, rfl⟩
 refine va (.int .i64 (w64 (x_5 + 1))) (bn H fun x_7 h17 H => cl (c_erase_Range O12 R0.m (hG.m.le (by decide)) p0 0 (w64 (x_5 + 1)) h2.m h17) ?_)
 rintro v23 c22 l22 ⟨G18, O19, R20, rfl⟩
 refine WL.nil ?_
 obtain rfl := si H
 exact n0 ⟨_, c22, rfl, rfl, pt, G18, O19, R20, rfl⟩
def f_erase_All (sg : Sto) (p0 : Option Nat) : Option (Sto) :=
 (f_row_Row_Wide sg p0).bind fun x_3 =>
 (f_erase_Range sg p0 0 x_3).bind fun x_4 =>
 (f_row_Row_GoOn x_4 p0 false).bind fun x_7 =>
 some x_7
theorem c_erase_All (O0 : Own c0 G F) (R0 : Rel c0 sg G) (hG : Gl [0, 4] c0) (p0 : Option Nat) {r : Sto} (h2 : Pt 0 c0 v1 p0) (H : f_erase_All sg p0 = some r) :
    Calls Tryz.prog 213 #[v1] c0.w (Post c0 fun c v => ∃ G_ : Gm, Own c G_ (F) ∧ Rel c r G_ ∧ v = .tuple #[]) := by
 unfold f_erase_All at H
 refine en func213 rfl rfl (sr (va (v1) (va (v1) (bn H fun x_3 h3 H => cl (c_row_Row_Wide O0 R0 p0 h2 h3) ?_))))
 rintro v9 c8 l8 ⟨O5, rfl⟩
 refine bn H fun x_4 h10 H => cl (c_erase_Range O5 R0.m (hG.m.le (by decide)) p0 0 x_3 h2.m h10) ?_
 rintro v16 c15 l15 ⟨G11, O12, R13, rfl⟩
 refine wln (W.region (va (v1) (bn H fun x_7 h17 H => cl (c_row_Row_GoOn O12 R13 p0 false h2.m h17) ?_)))
 rintro v23 c22 l22 ⟨G18, O19, R20, rfl⟩
 refine WL.nil ?_
 obtain rfl := si H
 exact n0 ⟨_, c22, rfl, rfl, pt, G18, O19, R20, rfl⟩
def f_linotyperef26_Range (p0 : List G_api_Cell) (p1 : Bool) (p2 : Int) (p3 : Int) : Option ((List G_api_Cell) × Bool) :=
 if (decide ((imax 0 (imin p2 (p0.length : Int))) ≥ (imax 0 (imin p3 (p0.length : Int))))) = true then
 some (p0, p1)
 else
 (rep (w64 ((imax 0 (imin p3 (p0.length : Int))) - (imax 0 (imin p2 (p0.length : Int))))) (⟨0, ([] : List Int)⟩ : G_api_Cell)).bind fun x_33 =>
 (f_linotyperef24_Paint p0 p1 (imax 0 (imin p2 (p0.length : Int))) x_33).bind fun x_34 =>
 some (x_34.1, x_34.2)
theorem c_linotyperef26_Range (O0 : Own c0 G F) (p0 : List G_api_Cell) (p1 : Bool) (p2 : Int) (p3 : Int) {r : (List G_api_Cell) × Bool} (h2 : Sl R_api_Cell c0 v1 p0) (H : f_linotyperef26_Range p0 p1 p2 p3 = some r) :
    Calls Tryz.prog 206 #[v1, .bool p1, .int .i64 p2, .int .i64 p3] c0.w (Post c0 fun c v => ∃ y1, Own c G (F) ∧ v = .tuple #[y1, .bool r.2] ∧ Sl R_api_Cell c y1 r.1) := by
 unfold f_linotyperef26_Range at H
 refine en func206 rfl rfl (sr (va (.slice none 0 0) (va (.bool false) (wln (sr (va (.int .i64 p2) (va (v1) (vx (ln 3 underlying69 h2) (va (.int .i64 (imin p2 (p0.length : Int))) (va (.int .i64 (imax 0 (imin p2 (p0.length : Int)))) (va (.int .i64 (imax 0 (imin p2 (p0.length : Int)))) (wln (sr (va (.int .i64 p3) (va (v1) (vx (ln 3 underlying69 h2) (va (.int .i64 (imin p3 (p0.length : Int))) (va (.int .i64 (imax 0 (imin p3 (p0.length : Int)))) (va (.int .i64 (imax 0 (imin p3 (p0.length : Int)))) (wln (W.seq (sr (va (.int .i64 (imax 0 (imin p2 (p0.length : Int)))) (va (.int .i64 (imax 0 (imin p3 (p0.length : Int)))) (va (.bool (decide ((imax 0 (imin p2 (p0.length : Int))) ≥ (imax 0 (imin p3 (p0.length : Int)))))) (wln (cn H (fun h3 H => ?_) (fun h3 H => ?_))))))))))))))))))))))))))))
 ·refine sr (va (v1) (va (.bool p1) (va (v1) (va (.bool p1) (wln (W.ret (thr ?_)))))))
  obtain rfl := si H
  exact r2 ⟨_, c0, rfl, rfl, pt, v1, O0, rfl, h2⟩
 refine W.skip (nrm (sr (va (v1) (va (.bool p1) (va (.int .i64 (imax 0 (imin p2 (p0.length : Int)))) (va (.int .i64 (imax 0 (imin p3 (p0.length : Int)))) (va (.int .i64 (imax 0 (imin p2 (p0.length : Int)))) (va (.int .i64 (w64 ((imax 0 (imin p3 (p0.length : Int))) - (imax 0 (imin p2 (p0.length : Int)))))) (bn H fun x_33 h4 H => me (Own.mkS (kl := .i64) (kc := .i64) (R := R_api_Cell) (z := .agg #[.int .i64 0, .slice none 0 0]) (lz := [.int .i64 0, .slice none 0 0]) (x := (⟨0, ([] : List Int)⟩ : G_api_Cell)) (by_ := 32) (i := (w64 ((imax 0 (imin p3 (p0.length : Int))) - (imax 0 (imin p2 (p0.length : Int)))))) (j := (w64 ((imax 0 (imin p3 (p0.length : Int))) - (imax 0 (imin p2 (p0.length : Int)))))) true O0 (Nat.succ_pos _) h4 (Int.le_refl _) (rep_le h4) underlying69 (by kernel_rfl) rfl rfl (fun _ => ⟨(.slice none 0 0), rfl, (Sl.nl _ _)⟩) (by kernel_rfl) (by kernel_rfl)) ?_)))))))))
 rintro v9 c8 l8 ⟨u6, O5, h7⟩
 obtain ⟨c12, h13, l12, O10, h11⟩ := O5.frz 0 rfl h7
 refine WL.gh h13 (bn H fun x_34 h14 H => cl (c_linotyperef24_Paint O10 p0 p1 (imax 0 (imin p2 (p0.length : Int))) x_33 h2.m h11 h14) ?_)
 rintro v23 c22 l22 ⟨v15, u16, O19, rfl, h17⟩
 refine va (v15) (va (.bool x_34.2) (va (v15) (va (.bool x_34.2) (wln (W.ret ?_)))))
 obtain rfl := si H
 obtain ⟨c26, h27, l26, O24, h25⟩ := O19.frz 0 rfl h17
 have O28 := O24.sD 2 []
 exact bqgh h27 (r2 ⟨_, c26, rfl, rfl, pt, v15, O28, rfl, h25⟩)
def f_linotyperef26_Act (p0 : List G_api_Cell) (p1 : Bool) (p2 : Int) (p3 : Int) (p4 : Int) : Option ((List G_api_Cell) × Bool) :=
 if (p2 == 0) = true then
 (f_linotyperef26_Range p0 p1 p3 p4).bind fun x_17 =>
 some (x_17.1, x_17.2)
 else
 if (p2 == 1) = true then
 if (decide (p3 < 0)) = true then
 some (p0, p1)
 else
 (f_linotyperef26_Range p0 p1 0 (w64 ((imin p3 (p0.length : Int)) + 1))).bind fun x_40 =>
 some (x_40.1, x_40.2)
 else
 if (p2 == 2) = true then
 (f_linotyperef26_Range p0 p1 p3 (p0.length : Int)).bind fun x_53 =>
 some (x_53.1, x_53.2)
 else
 if (p2 == 3) = true then
 (f_linotyperef26_Range p0 p1 0 (p0.length : Int)).bind fun x_65 =>
 some (x_65.1, false)
 else
 (orE (decide (p3 < 0)) (some (decide (p4 < 1)))).bind fun d_78 =>
 (orE d_78 (some (decide (p3 ≥ (p0.length : Int))))).bind fun d_82 =>
 if d_82 = true then
 some (p0, p1)
 else
 (f_linotyperef26_Range p0 p1 p3 (w64 (p3 + (imin p4 (p0.length : Int))))).bind fun x_101 =>
 some (x_101.1, x_101.2)
theorem c_linotyperef26_Act (O0 : Own c0 G F) (p0 : List G_api_Cell) (p1 : Bool) (p2 : Int) (p3 : Int) (p4 : Int) {r : (List G_api_Cell) × Bool} (h2 : Sl R_api_Cell c0 v1 p0) (H : f_linotyperef26_Act p0 p1 p2 p3 p4 = some r) :
    Calls Tryz.prog 164 #[v1, .bool p1, .int .i64 p2, .int .i64 p3, .int .i64 p4] c0.w (Post c0 fun c v => ∃ y1, Own c G (F) ∧ v = .tuple #[y1, .bool r.2] ∧ Sl R_api_Cell c y1 r.1) := by
 unfold f_linotyperef26_Act at H
 refine en func164 rfl rfl (sr (va (.slice none 0 0) (va (.bool false) (wln (sr (va (v1) (vx (ln 3 underlying69 h2) (va (.int .i64 (p0.length : Int)) (wln (W.seq (sr (va (.int .i64 p2) (wln (W.block (sr (va (.bool (p2 == 0)) (va (.bool (p2 == 0)) (wln (cn H (fun h3 H => ?_) (fun h3 H => ?_))))))))))))))))))))
 ·refine sr (va (v1) (va (.bool p1) (va (.int .i64 p3) (va (.int .i64 p4) (bn H fun x_17 h4 H => cl (c_linotyperef26_Range O0 p0 p1 p3 p4 h2 h4) ?_)))))
  rintro v12 c11 l11 ⟨v5, O8, rfl, h6⟩
  refine va (v5) (va (.bool x_17.2) (va (v5) (va (.bool x_17.2) (wln (W.ret (bkr (thr ?_)))))))
  obtain rfl := si H
  exact r2 ⟨_, c11, rfl, rfl, pt, v5, O8, rfl, h6⟩
 refine sr (va (.bool (p2 == 1)) (va (.bool (p2 == 1)) (wln (cn H (fun h13 H => ?_) (fun h13 H => ?_)))))
 ·refine W.seq (sr (va (.int .i64 p3) (va (.bool (decide (p3 < 0))) (wln (cn H (fun h14 H => ?_) (fun h14 H => ?_))))))
  ·refine sr (va (v1) (va (.bool p1) (va (v1) (va (.bool p1) (wln (W.ret (thr (bkr (thr ?_)))))))))
   obtain rfl := si H
   exact r2 ⟨_, c0, rfl, rfl, pt, v1, O0, rfl, h2⟩
  refine W.skip (nrm (sr (va (v1) (va (.bool p1) (va (.int .i64 p3) (va (.int .i64 (p0.length : Int)) (va (.int .i64 (imin p3 (p0.length : Int))) (va (.int .i64 (w64 ((imin p3 (p0.length : Int)) + 1))) (bn H fun x_40 h15 H => cl (c_linotyperef26_Range O0 p0 p1 0 (w64 ((imin p3 (p0.length : Int)) + 1)) h2 h15) ?_)))))))))
  rintro v23 c22 l22 ⟨v16, O19, rfl, h17⟩
  refine va (v16) (va (.bool x_40.2) (va (v16) (va (.bool x_40.2) (wln (W.ret (bkr (thr ?_)))))))
  obtain rfl := si H
  exact r2 ⟨_, c22, rfl, rfl, pt, v16, O19, rfl, h17⟩
 refine sr (va (.bool (p2 == 2)) (va (.bool (p2 == 2)) (wln (cn H (fun h24 H => ?_) (fun h24 H => ?_)))))
 ·refine sr (va (v1) (va (.bool p1) (va (.int .i64 p3) (va (.int .i64 (p0.length : Int)) (bn H fun x_53 h25 H => cl (c_linotyperef26_Range O0 p0 p1 p3 (p0.length : Int) h2 h25) ?_)))))
  rintro v33 c32 l32 ⟨v26, O29, rfl, h27⟩
  refine va (v26) (va (.bool x_53.2) (va (v26) (va (.bool x_53.2) (wln (W.ret (bkr (thr ?_)))))))
  obtain rfl := si H
  exact r2 ⟨_, c32, rfl, rfl, pt, v26, O29, rfl, h27⟩
 refine sr (va (.bool (p2 == 3)) (va (.bool (p2 == 3)) (wln (cn H (fun h34 H => ?_) (fun h34 H => ?_)))))
 ·refine sr (va (v1) (va (.bool p1) (va (.int .i64 (p0.length : Int)) (bn H fun x_65 h35 H => cl (c_linotyperef26_Range O0 p0 p1 0 (p0.length : Int) h2 h35) ?_))))
  rintro v43 c42 l42 ⟨v36, O39, rfl, h37⟩
  refine va (.tuple #[v36, .bool x_65.2]) (va (v36) (va (.bool x_65.2) (va (v36) (va (.bool x_65.2) (wln (sr (va (v36) (va (v36) (va (.bool false) (wln (W.ret (bkr (thr ?_)))))))))))))
  obtain rfl := si H
  exact r2 ⟨_, c42, rfl, rfl, pt, v36, O39, rfl, h37⟩
 refine W.skip (bkn (nrm (W.seq (W.seq (bn H fun d_78 h44 H => bn H fun d_82 h45 H => W.join (Jn c0 fun c l => Own c G (F) ∧ l = [(0, v1), (1, .bool p1), (3, .int .i64 p3), (4, .int .i64 p4), (12, .int .i64 (p0.length : Int)), (71, .bool d_82)]) ?_ ?_)))))
 ·clear H
  refine W.region (va (.int .i64 p3) (va (.bool (decide (p3 < 0))) ?_))
  rcases bo (decide (p3 < 0)) with h46 | h46
  ·obtain rfl := orT h46 h44
   refine vb h46 (ps (ps (va (.bool true) ?_)))
   have h47 : true = true := rfl
   obtain rfl := orT h47 h45
   exact vb h47 (ps (ps (ps (va (.bool true) (wln ⟨c0, _, _, rfl, pt, us, O0, rfl⟩)))))
  have H48 := orF h46 h44
  refine vb h46 (wn (va (.int .i64 p4) (wn (va (.bool (decide (p4 < 1))) ?_))))
  obtain rfl := si H48
  refine va (.bool (decide (p4 < 1))) ?_
  rcases bo (decide (p4 < 1)) with h49 | h49
  ·obtain rfl := orT h49 h45
   exact vb h49 (ps (ps (ps (va (.bool true) (wln ⟨c0, _, _, rfl, pt, us, O0, rfl⟩)))))
  have H50 := orF h49 h45
  refine vb h49 (wn (va (.int .i64 p3) (wn (va (.int .i64 (p0.length : Int)) (wn (va (.bool (decide (p3 ≥ (p0.length : Int)))) ?_))))))
  obtain rfl := si H50
  exact va (.bool (decide (p3 ≥ (p0.length : Int)))) (wln ⟨c0, _, _, rfl, pt, us, O0, rfl⟩)
 rintro e_ w_ ⟨c51, g52, _, rfl, l51, rfl, O53, rfl⟩
 refine nrm (cn H (fun h57 H => ?_) (fun h57 H => ?_))
 ·refine sr (va (v1) (va (.bool p1) (va (v1) (va (.bool p1) (wln (W.ret (thr ?_)))))))
  obtain rfl := si H
  exact r2 ⟨_, c51, rfl, rfl, pt, v1, O53, rfl, h2.m⟩
 refine W.skip (nrm (sr (va (v1) (va (.bool p1) (va (.int .i64 p3) (va (.int .i64 p3) (va (.int .i64 p4) (va (.int .i64 (p0.length : Int)) (va (.int .i64 (imin p4 (p0.length : Int))) (va (.int .i64 (w64 (p3 + (imin p4 (p0.length : Int))))) (bn H fun x_101 h58 H => cl (c_linotyperef26_Range O53 p0 p1 p3 (w64 (p3 + (imin p4 (p0.length : Int)))) h2.m h58) ?_)))))))))))
 rintro v66 c65 l65 ⟨v59, O62, rfl, h60⟩
 refine va (v59) (va (.bool x_101.2) (va (v59) (va (.bool x_101.2) (wln (W.ret ?_)))))
 obtain rfl := si H
 exact r2 ⟨_, c65, rfl, rfl, pt, v59, O62, rfl, h60⟩

end Go.Proofs.YthokmpbbkpjhbaaGreatDoor
