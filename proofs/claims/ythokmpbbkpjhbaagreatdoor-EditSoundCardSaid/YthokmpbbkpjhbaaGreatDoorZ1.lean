import Derived.Test.YthokmpbbkpjhbaaGreatDoorMq
import Derived.Test.YthokmpbbkpjhbaaGreatDoorProg
import Derived.Test.YthokmpbbkpjhbaaGreatDoorMy
import Derived.Test.YthokmpbbkpjhbaaGreatDoorMz
import Derived.Test.YthokmpbbkpjhbaaGreatDoorA1
import Derived.Test.YthokmpbbkpjhbaaGreatDoorG1
import Derived.Test.YthokmpbbkpjhbaaGreatDoorN1
namespace Go.Proofs.YthokmpbbkpjhbaaGreatDoor
open Go Go.Lt
set_option maxRecDepth 10000
set_option linter.unusedVariables false
attribute [local irreducible] W WL AC
open Tryz
variable {c0 : Cx} {G : Gm} {F : List En} {sg : Sto} {v1 v2 v3 v4 v5 v6 v7 v8 v9 v10 v11 v12 v13 v14 v15 v16 v17 v18 v19 v20 v21 v22 v23 v24 v25 v26 v27 v28 v29 v30 v31 v32 v33 v34 v35 v36 v37 v38 v39 v40 v41 v42 v43 v44 v45 v46 v47 v48 v49 v50 v51 v52 v53 v54 v55 v56 v57 v58 v59 v60 : Value}
def f_cursor_Move (p0 : Int) (p1 : Int) (p2 : Int) (p3 : Int) : Option (G_api_Cursor) :=
 (f_cursor_Hold (⟨p0, p1, false⟩ : G_api_Cursor) p2 p3).bind fun x_8 =>
 some x_8
theorem c_cursor_Move (O0 : Own c0 G F) (p0 : Int) (p1 : Int) (p2 : Int) (p3 : Int) {r : G_api_Cursor} (H : f_cursor_Move p0 p1 p2 p3 = some r) :
    Calls Tryz.prog 173 #[.int .i64 p0, .int .i64 p1, .int .i64 p2, .int .i64 p3] c0.w (Post c0 fun c v => Own c G (F) ∧ v = .agg #[.int .i64 r.Row, .int .i64 r.Col, .bool r.Pending]) := by
 unfold f_cursor_Move at H
 refine en func173 rfl rfl (sr (me (al 24 [.int .i64 0, .int .i64 0, .bool false] O0) ?_))
 rintro v4 c3 l3 ⟨b1, rfl, O2⟩
 refine wln (sr (va (.int .i64 p0) (va (.int .i64 p1) (va (.agg #[.int .i64 p0, .int .i64 p1, .bool false]) (va (.int .i64 p2) (va (.int .i64 p3) (bn H fun x_8 h5 H => cl (c_cursor_Hold O2 (⟨p0, p1, false⟩ : G_api_Cursor) p2 p3 h5) ?_)))))))
 rintro v11 c10 l10 ⟨O7, rfl⟩
 refine md (sA 24 [.int .i64 x_8.Row, .int .i64 x_8.Col, .bool x_8.Pending] 0 O7 ⟨rfl, rfl, rfl, trivial⟩) ?_
 rintro c13 l13 O12
 refine wln (W.ret ?_)
 obtain rfl := si H
 have O14 := O12.sD 1 []
 exact retC (c := c13) (vs := [.int .i64 x_8.Row, .int .i64 x_8.Col, .bool x_8.Pending]) rfl (by kernel_rfl) (by kernel_rfl) (by kernel_rfl) (O12.on 0 rfl _ rfl).1 ⟨_, c13, rfl, rfl, pt, O14, rfl⟩
def f_fit_cut (p0 : List G_api_Cell) (p1 : Int) : Option (List G_api_Cell) :=
 (slc p0 0 p1).bind fun x_6 =>
 ((andE (decide (p1 > 0)) ((idx x_6 (w64 (p1 - 1))).bind fun x_17 =>
 some (x_17.Kind == 2))).bind fun d_12 =>
 if d_12 = true then
 (idx x_6 (w64 (p1 - 1))).bind fun x_26 =>
 (sets x_6 (w64 (p1 - 1)) (⟨0, ([] : List Int)⟩ : G_api_Cell)).bind fun w_27 =>
 (some (w_27) : Option ((List G_api_Cell)))
 else
 (some (x_6) : Option ((List G_api_Cell)))).bind fun z_9 =>
 some z_9
theorem c_fit_cut {v0_ : Value} {u0_ : List Value} (p0 : List G_api_Cell) (p1 : Int) (O0 : Own c0 G (es true R_api_Cell v0_ 101 u0_ p0 :: F)) {r : List G_api_Cell} (h1 : OA R_api_Cell c0 v0_ u0_ p0) (H : f_fit_cut p0 p1 = some r) :
    Calls Tryz.prog 239 #[v0_, .int .i64 p1] c0.w (Post c0 fun c v => ∃ y1 y2, Own c G (es true R_api_Cell y1 101 y2 r :: F) ∧ v = y1 ∧ OA R_api_Cell c y1 y2 r) := by
 unfold f_fit_cut at H
 refine en func239 rfl rfl (sr (va (.slice none 0 0) (wln (sr (va (v0_) (va (.int .i64 p1) (va (.int .i64 p1) (bn H fun x_6 h2 H => ?_))))))))
 obtain ⟨v3, h4, O5, h6⟩ := Own.cutHM (k2 := .i64) (k' := .i64) 0 O0 rfl underlying69 h1 (by kernel_rfl) h2
 refine vr v3 (rx (by kernel_rfl) (h4 _)) (va (v3) (wln (bn H fun z_9 H7 H8 => W.seqJ (Jn c0 fun c l => ∃ v9 u10, Own c G (es true R_api_Cell v9 101 u10 z_9 :: F) ∧ l = [(0, v9)] ∧ OA R_api_Cell c v9 u10 z_9) ?_ ?_)))
 ·refine W.seq (bn H7 fun d_12 h11 H7 => W.join (Jn c0 fun c l => Own c G (es true R_api_Cell v3 101 u0_ x_6 :: F) ∧ l = [(0, v3), (1, .int .i64 p1), (19, .bool d_12)]) ?_ ?_)
  ·clear H7
   refine W.region (va (.int .i64 p1) (va (.bool (decide (p1 > 0))) ?_))
   rcases bo (decide (p1 > 0)) with h12 | h12
   ·have H13 := anT h12 h11
    refine vb h12 (wn (va (v3) (wn (va (.int .i64 p1) (wn (va (.int .i64 (w64 (p1 - 1))) (wn (bn H13 fun x_17 h14 H13 => vx (ixO underlying69 h6 h14) (wn (va (.pointer (some ⟨sb v3, (w64 (p1 - 1)).toNat * 2, none⟩)) (wn ?_)))))))))))
    obtain ⟨l_15, h16, m17⟩ := OA.at h6 h14
    obtain ⟨v18, rfl, h19⟩ := h16
    refine vr (.int .i64 x_17.Kind) (rx (by kernel_rfl) (ldE1 underlying3 rfl (O5.on 0 rfl) (h6.blk h14) (at1 (j := 0) m17 rfl))) (wn (va (.bool (x_17.Kind == 2)) ?_))
    obtain rfl := si H13
    exact va (.bool (x_17.Kind == 2)) (wln ⟨c0, _, _, rfl, pt, us, O5, rfl⟩)
   obtain rfl := anF h12 h11
   exact vb h12 (ps (ps (ps (ps (ps (ps (ps (va (.bool false) (wln ⟨c0, _, _, rfl, pt, us, O5, rfl⟩)))))))))
  rintro e_ w_ ⟨c20, g21, _, rfl, l20, rfl, O22, rfl⟩
  refine nrm (cn H7 (fun h26 H7 => ?_) (fun h26 H7 => ?_))
  ·refine W.region (va (v3) (va (.int .i64 p1) (va (.int .i64 (w64 (p1 - 1))) (va (.agg #[.int .i64 0, .slice none 0 0]) (bn H7 fun x_26 h27 H7 => vx (ixO underlying69 h6.m h27) (bn H7 fun w_27 h28 H7 => md (Own.stW (R := R_api_Cell) (T := 101) (us := [.int .i64 0, .slice none 0 0]) (x' := (⟨0, ([] : List Int)⟩ : G_api_Cell)) (u := .agg #[.int .i64 0, .slice none 0 0]) 0 O22 (by kernel_rfl) rfl h6.m h28 rfl (by kernel_rfl) ⟨rfl, rfl, trivial⟩ rfl ⟨(.slice none 0 0), rfl, (Sl.nl _ _)⟩) ?_))))))
   rintro c32 l32 ⟨u30, O29, h31⟩
   refine wln ?_
   obtain rfl := si H7
   exact ⟨c32, _, _, rfl, pt, us, v3, u30, O29, rfl, h31⟩
  refine W.skip (nrm ?_)
  obtain rfl := si H7
  exact ⟨c20, _, _, rfl, pt, us, v3, u0_, O22, rfl, h6.m⟩
 rintro e_ w_ ⟨c33, g34, _, rfl, l33, rfl, v9, u10, O35, rfl, h36⟩
 refine sr (va (v9) (va (v9) (wln (W.ret ?_))))
 obtain rfl := si H8
 exact r1 ⟨_, c33, rfl, rfl, pt, v9, u10, O35, rfl, h36⟩
def f_fit_of (sg : Sto) (p0 : List G_api_Cell) : Option (Sto × (Option Nat)) :=
 (f_row_Of sg p0).bind fun x_4 =>
 if (!x_4.2.2.isNil) = true then
 some (x_4.1, (none : Option Nat))
 else
 some (x_4.1, x_4.2.1)
theorem c_fit_of (O0 : Own c0 G F) (R0 : Rel c0 sg G) (hG : Gl [0, 4] c0) (p0 : List G_api_Cell) {r : Sto × (Option Nat)} (h2 : Sl R_api_Cell c0 v1 p0) (H : f_fit_of sg p0 = some r) :
    Calls Tryz.prog 240 #[v1] c0.w (Post c0 fun c v => ∃ y1, ∃ G_ : Gm, Own c G_ (F) ∧ Rel c r.1 G_ ∧ v = y1 ∧ Pt 0 c y1 r.2) := by
 unfold f_fit_of at H
 refine en func240 rfl rfl (sr (va (.pointer none) (wln (sr (va (v1) (bn H fun x_4 h3 H => cl (c_row_Of O0 R0 (hG.le (by decide)) p0 h2 h3) ?_))))))
 rintro v13 c12 l12 ⟨v4, v6, G8, O9, R10, rfl, h5, h7⟩
 refine va (.tuple #[v4, v6]) (va (v4) (va (v6) (va (v4) (va (v6) (wln (W.seq (sr (va (v6) (vr (.bool (!x_4.2.2.isNil)) (by rcases (h7).cs with ⟨h1_, h2_⟩ | ⟨b_, h1_, h2_⟩ | ⟨b_, h1_, h2_⟩ <;> (subst h1_; rw [h2_]; kernel_rfl)) (wln (cn H (fun h14 H => ?_) (fun h14 H => ?_))))))))))))
 ·refine sr (va (.pointer none) (wln (W.ret (thr ?_))))
  obtain rfl := si H
  exact r1 ⟨_, c12, rfl, rfl, pt, (.pointer none), G8, O9, R10, rfl, rfl⟩
 refine W.skip (nrm (sr (va (v4) (va (v4) (wln (W.ret ?_))))))
 obtain rfl := si H
 exact r1 ⟨_, c12, rfl, rfl, pt, v4, G8, O9, R10, rfl, h5⟩
def f_fit_Resize (sg : Sto) (p0 : Option Nat) (p1 : Int) : Option (Sto × (Option Nat)) :=
 if p0.isNone = true then
 some (sg, (none : Option Nat))
 else
 (f_row_Row_Cells sg p0).bind fun x_14 =>
 (f_row_Row_Wide sg p0).bind fun x_17 =>
 (f_fit_cut x_14 (imin (imax 1 (imin p1 1024)) x_17)).bind fun x_19 =>
 (f_cell_Blanks (w64 ((imax 1 (imin p1 1024)) - (x_19.length : Int)))).bind fun x_27 =>
 (app x_19 x_27).bind fun x_28 =>
 (f_fit_of sg x_28).bind fun x_29 =>
 some (x_29.1, x_29.2)
theorem c_fit_Resize (O0 : Own c0 G F) (R0 : Rel c0 sg G) (hG : Gl [0, 4] c0) (p0 : Option Nat) (p1 : Int) {r : Sto × (Option Nat)} (h2 : Pt 0 c0 v1 p0) (H : f_fit_Resize sg p0 p1 = some r) :
    Calls Tryz.prog 190 #[v1, .int .i64 p1] c0.w (Post c0 fun c v => ∃ y1, ∃ G_ : Gm, Own c G_ (F) ∧ Rel c r.1 G_ ∧ v = y1 ∧ Pt 0 c y1 r.2) := by
 unfold f_fit_Resize at H
 refine en func190 rfl rfl (sr (va (.pointer none) (wln (W.seq (sr (va (v1) (vr (.bool p0.isNone) (by rcases (h2).cs with ⟨h1_, h2_⟩ | ⟨b_, h1_, h2_⟩ <;> (subst h1_; rw [h2_]; kernel_rfl)) (wln (cn H (fun h3 H => ?_) (fun h3 H => ?_))))))))))
 ·refine sr (va (.pointer none) (wln (W.ret (thr ?_))))
  obtain rfl := si H
  exact r1 ⟨_, c0, rfl, rfl, pt, (.pointer none), G, O0, R0, rfl, rfl⟩
 refine W.skip (nrm (sr (va (.int .i64 p1) (va (.int .i64 (imin p1 1024)) (va (.int .i64 (imax 1 (imin p1 1024))) (va (.int .i64 (imax 1 (imin p1 1024))) (wln (sr (va (v1) (bn H fun x_14 h4 H => cl (c_row_Row_Cells O0 R0 p0 h2 h4) ?_))))))))))
 rintro v5 c12 l12 ⟨_, u6, O9, rfl, h7⟩
 refine va (.int .i64 (imax 1 (imin p1 1024))) (va (v1) (bn H fun x_17 h14 H => cl (c_row_Row_Wide O9 R0.m p0 h2.m h14) ?_))
 rintro v20 c19 l19 ⟨O16, rfl⟩
 refine va (.int .i64 (imin (imax 1 (imin p1 1024)) x_17)) (bn H fun x_19 h22 H => cl (c_fit_cut x_14 (imin (imax 1 (imin p1 1024)) x_17) O16 h7.m h22) ?_)
 rintro v23 c30 l30 ⟨_, u24, O27, rfl, h25⟩
 refine va (v23) (wln (sr (va (v23) (va (.int .i64 (imax 1 (imin p1 1024))) (va (v23) (vx (lnO 3 underlying69 h25) (va (.int .i64 (w64 ((imax 1 (imin p1 1024)) - (x_19.length : Int)))) (bn H fun x_27 h32 H => cl (c_cell_Blanks O27 (w64 ((imax 1 (imin p1 1024)) - (x_19.length : Int))) h32) ?_))))))))
 rintro v33 c40 l40 ⟨_, u34, O37, rfl, h35⟩
 obtain ⟨c44, h45, l44, O42, h43⟩ := O37.frz 0 rfl h35
 refine WL.gh h45 (bn H fun x_28 h46 H => me (ap R_api_Cell (.agg #[.int .i64 0, .slice none 0 0]) 32 69 1 O42 h25.m h43 h46 underlying69) ?_)
 rintro v51 c50 l50 ⟨u48, O47, h49⟩
 obtain ⟨c54, h55, l54, O52, h53⟩ := O47.frz 1 rfl h49
 refine WL.gh h55 (bn H fun x_29 h56 H => cl (c_fit_of O52 R0.m (hG.m.le (by decide)) x_28 h53 h56) ?_)
 rintro v57 c63 l63 ⟨_, G59, O60, R61, rfl, h58⟩
 refine va (v57) (wln (W.ret ?_))
 obtain rfl := si H
 have O65 := O60.sD 2 []
 exact r1 ⟨_, c63, rfl, rfl, pt, v57, G59, O65, R61, rfl, h58⟩
def f_size_Resize (sg : Sto) (p0 : Option Nat) (p1 : Int) (p2 : Int) : Option (Sto) :=
 (orE p0.isNone ((p0).bind fun k_6 =>
 (sg.place_Pen[k_6]?).bind fun o_8 =>
 some o_8.G.isNone)).bind fun d_3 =>
 if d_3 = true then
 some sg
 else
 (p0).bind fun k_21 =>
 (sg.place_Pen[k_21]?).bind fun o_23 =>
 (f_grid_Grid_Wide sg o_23.G).bind fun x_32 =>
 (f_grid_Grid_High sg o_23.G).bind fun x_33 =>
 (f_cursor_Hold o_23.At x_32 x_33).bind fun x_34 =>
 (f_grid_New sg (imax 1 (imin p1 1024)) (imax 1 (imin p2 1024))).bind fun x_48 =>
 (iter (σ := Int × Sto) (τ := Sto) (((imax 1 (imin p2 1024)) - 0).toNat + 1) (fun s_54 =>
 if (decide (s_54.1 < (imax 1 (imin p2 1024)))) = true then
 ((p0).bind fun k_62 =>
 (s_54.2.place_Pen[k_62]?).bind fun o_64 =>
 (f_grid_Grid_Row s_54.2 o_64.G (w64 ((imax 0 (w64 ((w64 (x_34.Row - (imax 1 (imin p2 1024)))) + 1))) + s_54.1))).bind fun x_68 =>
 if (!x_68.isNone) = true then
 (f_fit_Resize s_54.2 x_68 (imax 1 (imin p1 1024))).bind fun x_78 =>
 (f_grid_Grid_Set x_78.1 x_48.2 s_54.1 x_78.2).bind fun x_79 =>
 (some (x_79.1) : Option (Sto))
 else
 (some (s_54.2) : Option (Sto))).bind fun z_57 =>
 some (.inl ((w64 (s_54.1 + 1)), z_57))
 else
 some (.inr (s_54.2))) (0, x_48.1)).bind fun o_54 =>
 (p0).bind fun k_86 =>
 (o_54.place_Pen[k_86]?).bind fun o_88 =>
 (o_54.set_place_Pen k_86 (⟨x_48.2, o_88.At, o_88.Auto⟩ : G_place_Pen)).bind fun s_88001 =>
 (f_cursor_Move (w64 (x_34.Row - (imax 0 (w64 ((w64 (x_34.Row - (imax 1 (imin p2 1024)))) + 1))))) x_34.Col (imax 1 (imin p1 1024)) (imax 1 (imin p2 1024))).bind fun x_99 =>
 (s_88001.set_place_Pen k_86 (⟨x_48.2, x_99, o_88.Auto⟩ : G_place_Pen)).bind fun s_102001 =>
 some s_102001
theorem c_size_Resize (O0 : Own c0 G F) (R0 : Rel c0 sg G) (hG : Gl [0, 4] c0) (p0 : Option Nat) (p1 : Int) (p2 : Int) {r : Sto} (h2 : Pt 2 c0 v1 p0) (H : f_size_Resize sg p0 p1 p2 = some r) :
    Calls Tryz.prog 122 #[v1, .int .i64 p1, .int .i64 p2] c0.w (Post c0 fun c v => ∃ G_ : Gm, Own c G_ (F) ∧ Rel c r G_ ∧ v = .tuple #[]) := by
 unfold f_size_Resize at H
 refine en func122 rfl rfl (W.seq (W.seq (bn H fun d_3 h3 H => W.join (Jn c0 fun c l => Own c G (F) ∧ l = [(0, v1), (1, .int .i64 p1), (2, .int .i64 p2), (19, .bool d_3)]) ?_ ?_)))
 ·clear H
  refine W.region (va (v1) (vr (.bool p0.isNone) (by rcases (h2).cs with ⟨h1_, h2_⟩ | ⟨b_, h1_, h2_⟩ <;> (subst h1_; rw [h2_]; kernel_rfl)) ?_))
  rcases bo (p0.isNone) with h4 | h4
  ·obtain rfl := orT h4 h3
   exact vb h4 (ps (ps (ps (ps (ps (va (.bool true) (wln ⟨c0, _, _, rfl, pt, us, O0, rfl⟩)))))))
  have H5 := orF h4 h3
  refine vb h4 (wn (va (v1) (wn (bn H5 fun k_6 h8 H5 => ?_))))
  obtain ⟨b6, rfl, h7⟩ := (h2).get h8
  refine va (.pointer (some ⟨b6, 0, none⟩)) (wn (va (.pointer (some ⟨b6, 0, none⟩)) (wn (bn H5 fun o_8 h9 H5 => ?_))))
  obtain ⟨v10, h12, h11⟩ := Rel.open_place_Pen R0 h9 h7
  refine vx (le1 0 underlying35 (O0.gon h12 0 rfl)) (wn (vr (.bool o_8.G.isNone) (by rcases (h11).cs with ⟨h1_, h2_⟩ | ⟨b_, h1_, h2_⟩ <;> (subst h1_; rw [h2_]; kernel_rfl)) ?_))
  obtain rfl := si H5
  exact va (.bool o_8.G.isNone) (wln ⟨c0, _, _, rfl, pt, us, O0, rfl⟩)
 rintro e_ w_ ⟨c13, g14, _, rfl, l13, rfl, O15, rfl⟩
 refine nrm (cn H (fun h19 H => ?_) (fun h19 H => ?_))
 ·refine W.ret (thr ?_)
  obtain rfl := si H
  exact r0 ⟨_, c13, rfl, rfl, pt, G, O15, R0.m, rfl⟩
 refine W.skip (nrm (sr (va (.int .i64 p1) (va (.int .i64 (imin p1 1024)) (va (.int .i64 (imax 1 (imin p1 1024))) (va (.int .i64 p2) (va (.int .i64 (imin p2 1024)) (va (.int .i64 (imax 1 (imin p2 1024))) (va (.int .i64 (imax 1 (imin p1 1024))) (va (.int .i64 (imax 1 (imin p2 1024))) (wln (W.seq (bn H fun k_21 h20 H => bn H fun o_23 h21 H => bn H fun x_32 h22 H => bn H fun x_33 h23 H => bn H fun x_34 h24 H => W.join (Jn c13 fun c l => ∃ b25, Own c G (⟨.pointer (some ⟨b25, 0, none⟩), 24, [.int .i64 x_34.Row, .int .i64 x_34.Col, .bool x_34.Pending], 0⟩ :: F) ∧ l = [(0, v1), (1, .int .i64 (imax 1 (imin p1 1024))), (2, .int .i64 (imax 1 (imin p2 1024))), (6, .pointer (some ⟨b25, 0, none⟩))]) ?_ ?_)))))))))))))
 ·clear H
  refine rD [] (Kp G []) O15 ?_
  intro c26 l26 O27
  have p28 : Kp G [] c26 := (Kp.nil O27)
  refine ta 0 (v1) ?_
  obtain ⟨b29, rfl, h30⟩ := ((h2.mono (l13.trans l26))).get h20
  refine ta 1 (.pointer (some ⟨b29, 0, none⟩)) (ta 2 (.pointer (some ⟨b29, 1, none⟩)) ?_)
  obtain ⟨v31, h33, h32⟩ := Rel.open_place_Pen (R0.mono (l13.trans l26)) h21 h30
  refine tkx 3 p28 (fun c' hle hk => leN 24 1 [.int .i64 o_23.At.Row, .int .i64 o_23.At.Col, .bool o_23.At.Pending] (hk.gon h33 0 rfl)) (ta 4 (.pointer (some ⟨b29, 0, none⟩)) (ta 5 (.pointer (some ⟨b29, 0, none⟩)) (ta 6 (.pointer (some ⟨b29, 0, none⟩)) (tkx 7 p28 (fun c' hle hk => le1 0 underlying35 (hk.gon h33 0 rfl)) (ta 9 (.pointer (some ⟨b29, 0, none⟩)) (ta 10 (.pointer (some ⟨b29, 0, none⟩)) (ta 11 (.pointer (some ⟨b29, 0, none⟩)) (tkx 12 p28 (fun c' hle hk => le1 0 underlying35 (hk.gon h33 0 rfl)) (mn2 8 15 ?_ ?_)))))))))
  ·refine gc 8 (c_grid_Grid_Wide O27 R0.m o_23.G h32 h22) ?_
   rintro v39 c38 l38 ⟨O35, rfl⟩
   have p40 : Kp G [] c38 := (Kp.nil O35)
   refine ⟨.inr p40, mn2 13 15 ?_ ?_⟩
   ·refine gc 13 (c_grid_Grid_High O35 R0.m o_23.G h32.m h23) ?_
    rintro v46 c45 l45 ⟨O42, rfl⟩
    have p47 : Kp G [] c45 := (Kp.nil O42)
    refine ⟨.inr p47, mn2 14 15 ?_ ?_⟩
    ·refine gc 14 (c_cursor_Hold O42 o_23.At x_32 x_33 h24) ?_
     rintro v53 c52 l52 ⟨O49, rfl⟩
     have p54 : Kp G [] c52 := (Kp.nil O49)
     refine ⟨.inr p54, o1 15 (gm 15 (al 24 [.int .i64 0, .int .i64 0, .bool false] O49) ?_)⟩
     rintro v58 c57 l57 ⟨b55, rfl, O56⟩
     have p59 : Kp G [] c57 := (Kp.nil O56)
     refine ⟨.inr p59, o1 16 (gD 16 (sA 24 [.int .i64 x_34.Row, .int .i64 x_34.Col, .bool x_34.Pending] 0 O56 ⟨rfl, rfl, rfl, trivial⟩) ?_)⟩
     rintro c61 l61 O60
     have p62 : Kp G [] c61 := (Kp.nil O60)
     exact ⟨.inr p62, dn (nrm ⟨c61, _, _, rfl, pt, us, b55, O60, rfl⟩)⟩
    refine gm 15 (al 24 [.int .i64 0, .int .i64 0, .bool false] O42) ?_
    rintro v66 c65 l65 ⟨b63, rfl, O64⟩
    have p67 : Kp G [] c65 := (Kp.nil O64)
    refine ⟨.inr p67, o1 14 (gc 14 (c_cursor_Hold O64 o_23.At x_32 x_33 h24) ?_)⟩
    rintro v73 c72 l72 ⟨O69, rfl⟩
    have p74 : Kp G [] c72 := (Kp.nil O69)
    refine ⟨.inr p74, o1 16 (gD 16 (sA 24 [.int .i64 x_34.Row, .int .i64 x_34.Col, .bool x_34.Pending] 0 O69 ⟨rfl, rfl, rfl, trivial⟩) ?_)⟩
    rintro c76 l76 O75
    have p77 : Kp G [] c76 := (Kp.nil O75)
    exact ⟨.inr p77, dn (nrm ⟨c76, _, _, rfl, pt, us, b63, O75, rfl⟩)⟩
   refine gm 15 (al 24 [.int .i64 0, .int .i64 0, .bool false] O35) ?_
   rintro v81 c80 l80 ⟨b78, rfl, O79⟩
   have p82 : Kp G [] c80 := (Kp.nil O79)
   refine ⟨.inr p82, o1 13 (gc 13 (c_grid_Grid_High O79 R0.m o_23.G h32.m h23) ?_)⟩
   rintro v88 c87 l87 ⟨O84, rfl⟩
   have p89 : Kp G [] c87 := (Kp.nil O84)
   refine ⟨.inr p89, o1 14 (gc 14 (c_cursor_Hold O84 o_23.At x_32 x_33 h24) ?_)⟩
   rintro v95 c94 l94 ⟨O91, rfl⟩
   have p96 : Kp G [] c94 := (Kp.nil O91)
   refine ⟨.inr p96, o1 16 (gD 16 (sA 24 [.int .i64 x_34.Row, .int .i64 x_34.Col, .bool x_34.Pending] 0 O91 ⟨rfl, rfl, rfl, trivial⟩) ?_)⟩
   rintro c98 l98 O97
   have p99 : Kp G [] c98 := (Kp.nil O97)
   exact ⟨.inr p99, dn (nrm ⟨c98, _, _, rfl, pt, us, b78, O97, rfl⟩)⟩
  refine gm 15 (al 24 [.int .i64 0, .int .i64 0, .bool false] O27) ?_
  rintro v103 c102 l102 ⟨b100, rfl, O101⟩
  have p104 : Kp G [] c102 := (Kp.nil O101)
  refine ⟨.inr p104, o1 8 (gc 8 (c_grid_Grid_Wide O101 R0.m o_23.G h32.m h22) ?_)⟩
  rintro v110 c109 l109 ⟨O106, rfl⟩
  have p111 : Kp G [] c109 := (Kp.nil O106)
  refine ⟨.inr p111, o1 13 (gc 13 (c_grid_Grid_High O106 R0.m o_23.G h32.m h23) ?_)⟩
  rintro v117 c116 l116 ⟨O113, rfl⟩
  have p118 : Kp G [] c116 := (Kp.nil O113)
  refine ⟨.inr p118, o1 14 (gc 14 (c_cursor_Hold O113 o_23.At x_32 x_33 h24) ?_)⟩
  rintro v124 c123 l123 ⟨O120, rfl⟩
  have p125 : Kp G [] c123 := (Kp.nil O120)
  refine ⟨.inr p125, o1 16 (gD 16 (sA 24 [.int .i64 x_34.Row, .int .i64 x_34.Col, .bool x_34.Pending] 0 O120 ⟨rfl, rfl, rfl, trivial⟩) ?_)⟩
  rintro c127 l127 O126
  have p128 : Kp G [] c127 := (Kp.nil O126)
  exact ⟨.inr p128, dn (nrm ⟨c127, _, _, rfl, pt, us, b100, O126, rfl⟩)⟩
 rintro e_ w_ ⟨c129, g130, _, rfl, l129, rfl, b25, O131, rfl⟩
 refine nrm (sr (va (.pointer (some ⟨b25, 0, none⟩)) (vx (le1 0 underlying3 (O131.on 0 rfl)) (va (.int .i64 (imax 1 (imin p2 1024))) (va (.int .i64 (w64 (x_34.Row - (imax 1 (imin p2 1024))))) (va (.int .i64 (w64 ((w64 (x_34.Row - (imax 1 (imin p2 1024)))) + 1))) (va (.int .i64 (imax 0 (w64 ((w64 (x_34.Row - (imax 1 (imin p2 1024)))) + 1)))) (va (.int .i64 (imax 0 (w64 ((w64 (x_34.Row - (imax 1 (imin p2 1024)))) + 1)))) (wln (sr (va (.int .i64 (imax 1 (imin p1 1024))) (va (.int .i64 (imax 1 (imin p2 1024))) (bn H fun x_48 h135 H => cl (c_grid_New O131 R0.m (imax 1 (imin p1 1024)) (imax 1 (imin p2 1024)) h135) ?_)))))))))))))
 rintro v136 c142 l142 ⟨_, G138, O139, R140, a141, rfl, h137⟩
 refine va (v136) (wln (W.seq (sr (va (.int .i64 (imax 1 (imin p2 1024))) (va (.int .i64 0) (wln (W.block (bn H fun o_54 h144 H145 => lp h144 (fun s_54 => Jn c142 fun c l => ∃ G_, Own c G_ (⟨.pointer (some ⟨b25, 0, none⟩), 24, [.int .i64 x_34.Row, .int .i64 x_34.Col, .bool x_34.Pending], 0⟩ :: F) ∧ l = [(0, v1), (1, .int .i64 (imax 1 (imin p1 1024))), (2, .int .i64 (imax 1 (imin p2 1024))), (6, .pointer (some ⟨b25, 0, none⟩)), (7, .int .i64 (imax 0 (w64 ((w64 (x_34.Row - (imax 1 (imin p2 1024)))) + 1)))), (8, v136), (50, .int .i64 (imax 1 (imin p2 1024))), (51, .int .i64 s_54.1)] ∧ Rel c s_54.2 G_) (fun o_54_ ex e w => ex = .exit 0 ∧ (Jn c142 fun c l => ∃ G_, Own c G_ (⟨.pointer (some ⟨b25, 0, none⟩), 24, [.int .i64 x_34.Row, .int .i64 x_34.Col, .bool x_34.Pending], 0⟩ :: F) ∧ l = [(0, v1), (1, .int .i64 (imax 1 (imin p1 1024))), (2, .int .i64 (imax 1 (imin p2 1024))), (6, .pointer (some ⟨b25, 0, none⟩)), (7, .int .i64 (imax 0 (w64 ((w64 (x_34.Row - (imax 1 (imin p2 1024)))) + 1)))), (8, v136)] ∧ Rel c o_54_ G_) e w) ?_ ?_ ?_))))))))
 ·clear H145 h144
  intro s_54 xx_ ee_ ww_ H
  revert ee_ ww_
  rintro e_ w_ ⟨c146, g147, _, rfl, l146, rfl, G149, O148, rfl, R150⟩
  refine sr (va (.bool (decide (s_54.1 < (imax 1 (imin p2 1024))))) (wln (W.seq (cn H (fun h152 H => ?_) (fun h152 H => ?_)))))
  ·refine W.skip (nrm (bn H fun z_57 H153 H154 => W.seqJ (Jn c146 fun c l => ∃ G_, Own c G_ (⟨.pointer (some ⟨b25, 0, none⟩), 24, [.int .i64 x_34.Row, .int .i64 x_34.Col, .bool x_34.Pending], 0⟩ :: F) ∧ l = [(0, v1), (1, .int .i64 (imax 1 (imin p1 1024))), (2, .int .i64 (imax 1 (imin p2 1024))), (6, .pointer (some ⟨b25, 0, none⟩)), (7, .int .i64 (imax 0 (w64 ((w64 (x_34.Row - (imax 1 (imin p2 1024)))) + 1)))), (8, v136), (50, .int .i64 (imax 1 (imin p2 1024))), (51, .int .i64 s_54.1)] ∧ Rel c z_57 G_) ?_ ?_))
   ·refine W.block (sr (va (.int .i64 s_54.1) (va (.int .i64 s_54.1) (wln (sr (va (v1) (bn H153 fun k_62 h157 H153 => ?_)))))))
    obtain ⟨b155, rfl, h156⟩ := ((h2.mono (l13.trans (l129.trans (l142.trans l146))))).get h157
    refine va (.pointer (some ⟨b155, 0, none⟩)) (va (.pointer (some ⟨b155, 0, none⟩)) (bn H153 fun o_64 h158 H153 => ?_))
    obtain ⟨v159, h161, h160⟩ := Rel.open_place_Pen R150 h158 h156
    refine vx (le1 0 underlying35 (O148.gon h161 0 rfl)) (va (.int .i64 (imax 0 (w64 ((w64 (x_34.Row - (imax 1 (imin p2 1024)))) + 1)))) (va (.int .i64 s_54.1) (va (.int .i64 (w64 ((imax 0 (w64 ((w64 (x_34.Row - (imax 1 (imin p2 1024)))) + 1))) + s_54.1))) (bn H153 fun x_68 h162 H153 => cl (c_grid_Grid_Row O148 R150 o_64.G (w64 ((imax 0 (w64 ((w64 (x_34.Row - (imax 1 (imin p2 1024)))) + 1))) + s_54.1)) h160 h162) ?_))))
    rintro v163 c169 l169 ⟨_, O166, rfl, h164⟩
    refine va (v163) (wln (sr (va (v163) (vr (.bool (!x_68.isNone)) (by rcases (h164).cs with ⟨h1_, h2_⟩ | ⟨b_, h1_, h2_⟩ <;> (subst h1_; rw [h2_]; kernel_rfl)) (wln (cn H153 (fun h171 H153 => ?_) (fun h171 H153 => ?_)))))))
    ·refine W.region (va (v136) (va (.int .i64 s_54.1) (va (v163) (va (.int .i64 (imax 1 (imin p1 1024))) (bn H153 fun x_78 h172 H153 => cl (c_fit_Resize O166 R150.m (hG.m.le (by decide)) x_68 (imax 1 (imin p1 1024)) h164 h172) ?_)))))
     rintro v173 c179 l179 ⟨_, G175, O176, R177, rfl, h174⟩
     refine bn H153 fun x_79 h181 H153 => cl (c_grid_Grid_Set O176 R177 x_48.2 s_54.1 x_78.2 h137.m h174 h181) ?_
     rintro v187 c186 l186 ⟨G182, O183, R184, rfl⟩
     refine WL.nil (bkn (nrm ?_))
     obtain rfl := si H153
     exact ⟨c186, _, _, rfl, pt, us, G182, O183, rfl, R184⟩
    refine W.skip (bkn (nrm ?_))
    obtain rfl := si H153
    exact ⟨c169, _, _, rfl, pt, us, G149, O166, rfl, R150.m⟩
   rintro e_ w_ ⟨c188, g189, _, rfl, l188, rfl, G191, O190, rfl, R192⟩
   refine W.region (va (.int .i64 (w64 (s_54.1 + 1))) (va (.int .i64 (w64 (s_54.1 + 1))) (WL.nil ?_)))
   obtain rfl := si H154
   exact ⟨_, rfl, ⟨c188, _, _, rfl, pt, us, G191, O190, rfl, R192⟩⟩
  refine W.exit (thx ?_)
  obtain rfl := si H
  exact ⟨_, rfl, rfl, ⟨c146, _, _, rfl, pt, us, G149, O148, rfl, R150⟩⟩
 ·exact ⟨c142, _, _, rfl, pt, us, G138, O139, rfl, R140⟩
 rintro _ e_ w_ ⟨rfl, c194, g195, _, rfl, l194, rfl, G197, O196, rfl, R198⟩
 refine bke (nrm (sr (va (v1) (va (v136) (bn H145 fun k_86 h202 H145 => ?_)))))
 obtain ⟨b200, rfl, h201⟩ := ((h2.mono (l13.trans (l129.trans (l142.trans l194))))).get h202
 refine va (.pointer (some ⟨b200, 0, none⟩)) (va (.pointer (some ⟨b200, 0, none⟩)) ?_)
 obtain ⟨a203, rfl⟩ := ((h137.mono l194)).form
 refine bn H145 fun o_88 h204 H145 => ?_
 obtain ⟨v205, h207, h206⟩ := Rel.open_place_Pen R198 h204 h201
 refine md (gC 35 0 (.pointer a203) [.pointer a203, .int .i64 o_88.At.Row, .int .i64 o_88.At.Col, .bool o_88.At.Pending, .bool o_88.Auto] 0 O196 h207 ⟨h137.m.one, trivial⟩) ?_
 rintro c209 l209 O208
 refine bn H145 fun s_88001 h214 H145 => ?_
 obtain ⟨G210, O211, R212, h213, a215⟩ := Rel.put_place_Pen O208 (R198.mono l209) (E' := [⟨.pointer (some ⟨b200, 0, none⟩), 42, [.pointer a203, .int .i64 o_88.At.Row, .int .i64 o_88.At.Col, .bool o_88.At.Pending, .bool o_88.Auto], 0⟩]) h214 ⟨b200, (.pointer a203), (tm h201), rfl, (h137.mono (l194.trans l209))⟩
 refine wln (W.region (va (.pointer (some ⟨b200, 0, none⟩)) (va (.pointer (some ⟨b25, 0, none⟩)) (vx (le1 0 underlying3 (O211.on 0 rfl)) (va (.int .i64 (imax 0 (w64 ((w64 (x_34.Row - (imax 1 (imin p2 1024)))) + 1)))) (va (.int .i64 (w64 (x_34.Row - (imax 0 (w64 ((w64 (x_34.Row - (imax 1 (imin p2 1024)))) + 1)))))) (va (.pointer (some ⟨b25, 1, none⟩)) (vx (le1 1 underlying3 (O211.on 0 rfl)) (va (.int .i64 (imax 1 (imin p1 1024))) (va (.int .i64 (imax 1 (imin p2 1024))) (bn H145 fun x_99 h216 H145 => cl (c_cursor_Move O211 (w64 (x_34.Row - (imax 0 (w64 ((w64 (x_34.Row - (imax 1 (imin p2 1024)))) + 1))))) x_34.Col (imax 1 (imin p1 1024)) (imax 1 (imin p2 1024)) h216) ?_)))))))))))
 rintro v222 c221 l221 ⟨O218, rfl⟩
 refine va (.pointer (some ⟨b200, 0, none⟩)) (va (.pointer (some ⟨b200, 1, none⟩)) (md (gB 24 1 [.int .i64 x_99.Row, .int .i64 x_99.Col, .bool x_99.Pending] [.pointer a203, .int .i64 x_99.Row, .int .i64 x_99.Col, .bool x_99.Pending, .bool o_88.Auto] 0 O218 h213 ⟨rfl, rfl, rfl, trivial⟩) ?_))
 rintro c224 l224 O223
 refine bn H145 fun s_102001 h229 H145 => ?_
 obtain ⟨G225, O226, R227, h228, a230⟩ := Rel.put_place_Pen O223 (R212.mono (l221.trans l224)) (E' := [⟨.pointer (some ⟨b200, 0, none⟩), 42, [.pointer a203, .int .i64 x_99.Row, .int .i64 x_99.Col, .bool x_99.Pending, .bool o_88.Auto], 0⟩]) h229 ⟨b200, (.pointer a203), (tm h201), rfl, (h137.mono (l194.trans (l209.trans (l221.trans l224))))⟩
 refine WL.nil ?_
 obtain rfl := si H145
 have O231 := O226.sD 1 []
 exact n0 ⟨_, c224, rfl, rfl, pt, G225, O231, R227, rfl⟩
def f_linotyperef28_Resize (p0 : List G_api_Cell) (p1 : Int) : Option (List G_api_Cell) :=
 (rep (imax 1 (imin p1 1024)) (⟨0, ([] : List Int)⟩ : G_api_Cell)).bind fun x_9 =>
 (iter (σ := (List G_api_Cell) × Int) (τ := (List G_api_Cell)) (((imax 1 (imin p1 1024)) - 0).toNat + 1) (fun s_14 =>
 (andE (decide (s_14.2 < (imax 1 (imin p1 1024)))) (some (decide (s_14.2 < (p0.length : Int))))).bind fun d_18 =>
 if d_18 = true then
 ((orE (decide ((w64 (s_14.2 + 1)) < (imax 1 (imin p1 1024)))) ((idx p0 s_14.2).bind fun x_34 =>
 some (x_34.Kind != 2))).bind fun d_30 =>
 if d_30 = true then
 (idx p0 s_14.2).bind fun x_43 =>
 (idx s_14.1 s_14.2).bind fun x_45 =>
 (sets s_14.1 s_14.2 x_43).bind fun w_46 =>
 (some (w_46) : Option ((List G_api_Cell)))
 else
 (some (s_14.1) : Option ((List G_api_Cell)))).bind fun z_25 =>
 some (.inl (z_25, (w64 (s_14.2 + 1))))
 else
 some (.inr (s_14.1))) (x_9, 0)).bind fun o_14 =>
 some o_14
theorem c_linotyperef28_Resize (O0 : Own c0 G F) (p0 : List G_api_Cell) (p1 : Int) {r : List G_api_Cell} (h2 : Sl R_api_Cell c0 v1 p0) (H : f_linotyperef28_Resize p0 p1 = some r) :
    Calls Tryz.prog 192 #[v1, .int .i64 p1] c0.w (Post c0 fun c v => ∃ y1 y2, Own c G (es true R_api_Cell y1 101 y2 r :: F) ∧ v = y1 ∧ OA R_api_Cell c y1 y2 r) := by
 unfold f_linotyperef28_Resize at H
 refine en func192 rfl rfl (sr (va (.slice none 0 0) (wln (sr (va (.int .i64 p1) (va (.int .i64 (imin p1 1024)) (va (.int .i64 (imax 1 (imin p1 1024))) (va (.int .i64 (imax 1 (imin p1 1024))) (wln (sr (va (.int .i64 (imax 1 (imin p1 1024))) (bn H fun x_9 h3 H => me (Own.mkS (kl := .i64) (kc := .i64) (R := R_api_Cell) (z := .agg #[.int .i64 0, .slice none 0 0]) (lz := [.int .i64 0, .slice none 0 0]) (x := (⟨0, ([] : List Int)⟩ : G_api_Cell)) (by_ := 32) (i := (imax 1 (imin p1 1024))) (j := (imax 1 (imin p1 1024))) true O0 (Nat.succ_pos _) h3 (Int.le_refl _) (rep_le h3) underlying69 (by kernel_rfl) rfl rfl (fun _ => ⟨(.slice none 0 0), rfl, (Sl.nl _ _)⟩) (by kernel_rfl) (by kernel_rfl)) ?_))))))))))))
 rintro v8 c7 l7 ⟨u5, O4, h6⟩
 refine va (v8) (wln (W.seq (sr (va (.int .i64 0) (wln (W.block (bn H fun o_14 h9 H10 => lp h9 (fun s_14 => Jn c7 fun c l => ∃ v11 u12, Own c G (es true R_api_Cell v11 101 u12 s_14.1 :: F) ∧ l = [(0, v1), (1, .int .i64 (imax 1 (imin p1 1024))), (5, v11), (6, .int .i64 s_14.2)] ∧ OA R_api_Cell c v11 u12 s_14.1) (fun o_14_ ex e w => ex = .exit 0 ∧ (Jn c7 fun c l => ∃ v13 u14, Own c G (es true R_api_Cell v13 101 u14 o_14_ :: F) ∧ l = [(5, v13)] ∧ OA R_api_Cell c v13 u14 o_14_) e w) ?_ ?_ ?_)))))))
 ·clear H10 h9
  intro s_14 xx_ ee_ ww_ H
  revert ee_ ww_
  rintro e_ w_ ⟨c15, g16, _, rfl, l15, rfl, v11, u12, O17, rfl, h18⟩
  refine W.seq (W.seq (bn H fun d_18 h22 H => W.join (Jn c15 fun c l => Own c G (es true R_api_Cell v11 101 u12 s_14.1 :: F) ∧ l = [(0, v1), (1, .int .i64 (imax 1 (imin p1 1024))), (5, v11), (6, .int .i64 s_14.2), (20, .bool d_18)]) ?_ ?_))
  ·clear H
   refine W.region (va (.int .i64 s_14.2) (va (.int .i64 (imax 1 (imin p1 1024))) (va (.bool (decide (s_14.2 < (imax 1 (imin p1 1024))))) ?_)))
   rcases bo (decide (s_14.2 < (imax 1 (imin p1 1024)))) with h23 | h23
   ·have H24 := anT h23 h22
    refine vb h23 (wn (va (.int .i64 s_14.2) (wn (va (v1) (wn (vx (ln 3 underlying69 h2.m) (wn (va (.bool (decide (s_14.2 < (p0.length : Int)))) ?_))))))))
    obtain rfl := si H24
    exact va (.bool (decide (s_14.2 < (p0.length : Int)))) (wln ⟨c15, _, _, rfl, pt, us, O17, rfl⟩)
   obtain rfl := anF h23 h22
   exact vb h23 (ps (ps (ps (ps (va (.bool false) (wln ⟨c15, _, _, rfl, pt, us, O17, rfl⟩))))))
  rintro e_ w_ ⟨c25, g26, _, rfl, l25, rfl, O27, rfl⟩
  refine nrm (cn H (fun h31 H => ?_) (fun h31 H => ?_))
  ·refine W.skip (nrm (bn H fun z_25 H32 H33 => W.seqJ (Jn c25 fun c l => ∃ v34 u35, Own c G (es true R_api_Cell v34 101 u35 z_25 :: F) ∧ l = [(0, v1), (1, .int .i64 (imax 1 (imin p1 1024))), (5, v34), (6, .int .i64 s_14.2)] ∧ OA R_api_Cell c v34 u35 z_25) ?_ ?_))
   ·refine W.block (W.seq (bn H32 fun d_30 h36 H32 => W.join (Jn c25 fun c l => Own c G (es true R_api_Cell v11 101 u12 s_14.1 :: F) ∧ l = [(0, v1), (1, .int .i64 (imax 1 (imin p1 1024))), (5, v11), (6, .int .i64 s_14.2), (34, .bool d_30)]) ?_ ?_))
    ·clear H32
     refine W.region (va (.int .i64 s_14.2) (va (.int .i64 (w64 (s_14.2 + 1))) (va (.int .i64 (imax 1 (imin p1 1024))) (va (.bool (decide ((w64 (s_14.2 + 1)) < (imax 1 (imin p1 1024))))) ?_))))
     rcases bo (decide ((w64 (s_14.2 + 1)) < (imax 1 (imin p1 1024)))) with h37 | h37
     ·obtain rfl := orT h37 h36
      exact vb h37 (ps (ps (ps (ps (ps (ps (va (.bool true) (wln ⟨c25, _, _, rfl, pt, us, O27, rfl⟩))))))))
     have H38 := orF h37 h36
     refine vb h37 (wn (va (v1) (wn (va (.int .i64 s_14.2) (wn (bn H38 fun x_34 h39 H38 => ?_))))))
     obtain ⟨l_40, h41, m42⟩ := Sl.at (h2.mono (l7.trans (l15.trans l25))) (idx_get h39)
     obtain ⟨v43, rfl, h44⟩ := h41
     refine vx (ix underlying69 h2.m h39) (wn (va (.pointer (some ⟨sb v1, so v1 + s_14.2.toNat * 2, none⟩)) (wn (vx (l1 underlying3 (m42 0 _ rfl)) (wn (va (.bool (x_34.Kind != 2)) ?_))))))
     obtain rfl := si H38
     exact va (.bool (x_34.Kind != 2)) (wln ⟨c25, _, _, rfl, pt, us, O27, rfl⟩)
    rintro e_ w_ ⟨c45, g46, _, rfl, l45, rfl, O47, rfl⟩
    refine nrm (cn H32 (fun h51 H32 => ?_) (fun h51 H32 => ?_))
    ·refine W.region (va (v11) (va (.int .i64 s_14.2) (va (v1) (va (.int .i64 s_14.2) (bn H32 fun x_43 h52 H32 => ?_)))))
     obtain ⟨l_53, h54, m55⟩ := Sl.at (h2.mono (l7.trans (l15.trans (l25.trans l45)))) (idx_get h52)
     obtain ⟨v56, rfl, h57⟩ := h54
     refine vx (ix underlying69 h2.m h52) (vx (lN 101 m55) (bn H32 fun x_45 h58 H32 => vx (ixO underlying69 h18.m h58) ?_))
     obtain ⟨a59, a60, a61, rfl⟩ := (h57).form
     refine bn H32 fun w_46 h62 H32 => md (Own.stW (R := R_api_Cell) (T := 101) (us := [.int .i64 x_43.Kind, .slice a59 a60 a61]) (x' := x_43) (u := .agg #[.int .i64 x_43.Kind, .slice a59 a60 a61]) 0 O47 (by kernel_rfl) rfl h18.m h62 rfl (by kernel_rfl) ⟨rfl, h57.one, trivial⟩ rfl ⟨(.slice a59 a60 a61), rfl, h57⟩) ?_
     rintro c66 l66 ⟨u64, O63, h65⟩
     refine WL.nil (bkn (nrm ?_))
     obtain rfl := si H32
     exact ⟨c66, _, _, rfl, pt, us, v11, u64, O63, rfl, h65⟩
    refine W.skip (bkn (nrm ?_))
    obtain rfl := si H32
    exact ⟨c45, _, _, rfl, pt, us, v11, u12, O47, rfl, h18.m⟩
   rintro e_ w_ ⟨c67, g68, _, rfl, l67, rfl, v34, u35, O69, rfl, h70⟩
   refine W.region (va (.int .i64 s_14.2) (va (.int .i64 (w64 (s_14.2 + 1))) (va (.int .i64 (w64 (s_14.2 + 1))) (WL.nil ?_))))
   obtain rfl := si H33
   exact ⟨_, rfl, ⟨c67, _, _, rfl, pt, us, v34, u35, O69, rfl, h70⟩⟩
  refine W.exit (thx ?_)
  obtain rfl := si H
  exact ⟨_, rfl, rfl, ⟨c25, _, _, rfl, pt, us, v11, u12, O27, rfl, h18.m⟩⟩
 ·exact ⟨c7, _, _, rfl, pt, us, v8, u5, O4, rfl, h6⟩
 rintro _ e_ w_ ⟨rfl, c74, g75, _, rfl, l74, rfl, v13, u14, O76, rfl, h77⟩
 refine bke (nrm (sr (va (v13) (va (v13) (wln (W.ret ?_))))))
 obtain rfl := si H10
 exact r1 ⟨_, c74, rfl, rfl, pt, v13, u14, O76, rfl, h77⟩
def f_linotyperef39_Resize (p0 : G_linotyperef34_Pen) (p1 : Int) (p2 : Int) : Option (G_linotyperef34_Pen) :=
 (f_linotyperef34_Pen_Hold p0).bind fun x_5 =>
 (f_linotyperef31_Side p1).bind fun x_9 =>
 (f_linotyperef31_Side p2).bind fun x_13 =>
 (iter (σ := (List G_api_Line) × Int) (τ := ((List G_api_Line) × Int)) ((x_5.At.Row - x_13).toNat + 2) (fun s_25 =>
 if (decide (s_25.2 ≥ x_13)) = true then
 (slc s_25.1 1 s_25.1.length).bind fun x_32 =>
 some (.inl (x_32, (w64 (s_25.2 - 1))))
 else
 some (.inr (s_25.1, s_25.2))) (x_5.L, x_5.At.Row)).bind fun o_25 =>
 (iter (σ := (List G_api_Line) × Int) (τ := (List G_api_Line)) ((x_13 - 0).toNat + 1) (fun s_45 =>
 if (decide (s_45.2 < x_13)) = true then
 (if (decide (s_45.2 < (o_25.1.length : Int))) = true then
 (idx o_25.1 s_45.2).bind fun x_60 =>
 (some (x_60.Cells) : Option ((List G_api_Cell)))
 else
 (some (([] : List G_api_Cell)) : Option ((List G_api_Cell)))).bind fun z_52 =>
 (f_linotyperef28_Resize z_52 x_9).bind fun x_68 =>
 (app s_45.1 ([(⟨x_68, false⟩ : G_api_Line)] : List G_api_Line)).bind fun x_71 =>
 some (.inl (x_71, (w64 (s_45.2 + 1))))
 else
 some (.inr (s_45.1))) (([] : List G_api_Line), 0)).bind fun o_45 =>
 some (⟨o_45, (⟨o_25.2, (imin x_5.At.Col (w64 (x_9 - 1))), false⟩ : G_api_Cursor), x_5.Auto⟩ : G_linotyperef34_Pen)
theorem c_linotyperef39_Resize (O0 : Own c0 G F) (p0 : G_linotyperef34_Pen) (p1 : Int) (p2 : Int) {r : G_linotyperef34_Pen} (h2 : Sl R_api_Line c0 v1 p0.L) (H : f_linotyperef39_Resize p0 p1 p2 = some r) :
    Calls Tryz.prog 125 #[.agg #[v1, .int .i64 p0.At.Row, .int .i64 p0.At.Col, .bool p0.At.Pending, .bool p0.Auto], .int .i64 p1, .int .i64 p2] c0.w (Post c0 fun c v => ∃ y1 y2, Own c G (es true R_api_Line y1 71 y2 r.L :: F) ∧ v = .agg #[y1, .int .i64 r.At.Row, .int .i64 r.At.Col, .bool r.At.Pending, .bool r.Auto] ∧ OA R_api_Line c y1 y2 r.L) := by
 unfold f_linotyperef39_Resize at H
 refine en func125 rfl rfl (sr ?_)
 obtain ⟨a3, a4, a5, rfl⟩ := (h2).form
 refine me (al 43 [.slice a3 a4 a5, .int .i64 p0.At.Row, .int .i64 p0.At.Col, .bool p0.At.Pending, .bool p0.Auto] O0) ?_
 rintro v9 c8 l8 ⟨b6, rfl, O7⟩
 refine me (al 43 [.slice none 0 0, .int .i64 0, .int .i64 0, .bool false, .bool false] O7) ?_
 rintro v13 c12 l12 ⟨b10, rfl, O11⟩
 refine wln (sr (vx (leN 43 0 [.slice a3 a4 a5, .int .i64 p0.At.Row, .int .i64 p0.At.Col, .bool p0.At.Pending, .bool p0.Auto] (O11.on 1 rfl)) (bn H fun x_5 h14 H => cl (c_linotyperef34_Pen_Hold O11 p0 h2.m h14) ?_)))
 rintro v22 c21 l21 ⟨v15, O18, rfl, h16⟩
 obtain ⟨a23, a24, a25, rfl⟩ := (h16).form
 refine md (sA 43 [.slice a23 a24 a25, .int .i64 x_5.At.Row, .int .i64 x_5.At.Col, .bool x_5.At.Pending, .bool x_5.Auto] 1 O18 ⟨h16.one, rfl, rfl, rfl, rfl, trivial⟩) ?_
 rintro c27 l27 O26
 refine wln (sr (va (.int .i64 p1) (bn H fun x_9 h28 H => cl (c_linotyperef31_Side O26 p1 h28) ?_)))
 rintro v34 c33 l33 ⟨O30, rfl⟩
 refine va (.int .i64 x_9) (wln (sr (va (.int .i64 p2) (bn H fun x_13 h35 H => cl (c_linotyperef31_Side O30 p2 h35) ?_))))
 rintro v41 c40 l40 ⟨O37, rfl⟩
 refine va (.int .i64 x_13) (wln (sr (va (.pointer (some ⟨b6, 0, none⟩)) (vx (le1 0 underlying22 (O37.on 1 rfl)) (va (.slice a23 a24 a25) (wln (sr (va (.pointer (some ⟨b6, 1, none⟩)) (vx (leN 24 1 [.int .i64 x_5.At.Row, .int .i64 x_5.At.Col, .bool x_5.At.Pending] (O37.on 1 rfl)) (me (al 24 [.int .i64 0, .int .i64 0, .bool false] O37) ?_))))))))))
 rintro v45 c44 l44 ⟨b42, rfl, O43⟩
 refine md (sA 24 [.int .i64 x_5.At.Row, .int .i64 x_5.At.Col, .bool x_5.At.Pending] 0 O43 ⟨rfl, rfl, rfl, trivial⟩) ?_
 rintro c47 l47 O46
 refine wln (W.seq (W.block (bn H fun o_25 h48 H49 => lp h48 (fun s_25 => Jn c47 fun c l => ∃ v50, Own c G (⟨.pointer (some ⟨b42, 0, none⟩), 24, [.int .i64 s_25.2, .int .i64 x_5.At.Col, .bool x_5.At.Pending], 0⟩ :: ⟨.pointer (some ⟨b10, 0, none⟩), 43, [.slice none 0 0, .int .i64 0, .int .i64 0, .bool false, .bool false], 0⟩ :: ⟨.pointer (some ⟨b6, 0, none⟩), 43, [.slice a23 a24 a25, .int .i64 x_5.At.Row, .int .i64 x_5.At.Col, .bool x_5.At.Pending, .bool x_5.Auto], 0⟩ :: F) ∧ l = [(1, .int .i64 x_9), (2, .int .i64 x_13), (3, .pointer (some ⟨b6, 0, none⟩)), (6, .pointer (some ⟨b10, 0, none⟩)), (7, v50), (8, .pointer (some ⟨b42, 0, none⟩))] ∧ Sl R_api_Line c v50 s_25.1) (fun o_25_ ex e w => ex = .exit 0 ∧ (Jn c47 fun c l => ∃ v51, Own c G (⟨.pointer (some ⟨b42, 0, none⟩), 24, [.int .i64 o_25_.2, .int .i64 x_5.At.Col, .bool x_5.At.Pending], 0⟩ :: ⟨.pointer (some ⟨b10, 0, none⟩), 43, [.slice none 0 0, .int .i64 0, .int .i64 0, .bool false, .bool false], 0⟩ :: ⟨.pointer (some ⟨b6, 0, none⟩), 43, [.slice a23 a24 a25, .int .i64 x_5.At.Row, .int .i64 x_5.At.Col, .bool x_5.At.Pending, .bool x_5.Auto], 0⟩ :: F) ∧ l = [(1, .int .i64 x_9), (2, .int .i64 x_13), (3, .pointer (some ⟨b6, 0, none⟩)), (6, .pointer (some ⟨b10, 0, none⟩)), (7, v51), (8, .pointer (some ⟨b42, 0, none⟩))] ∧ Sl R_api_Line c v51 o_25_.1) e w) ?_ ?_ ?_)))
 ·clear H49 h48
  intro s_25 xx_ ee_ ww_ H
  revert ee_ ww_
  rintro e_ w_ ⟨c52, g53, _, rfl, l52, rfl, v50, O54, rfl, h55⟩
  refine W.seq (sr (va (.pointer (some ⟨b42, 0, none⟩)) (vx (le1 0 underlying3 (O54.on 0 rfl)) (va (.int .i64 x_13) (va (.bool (decide (s_25.2 ≥ x_13))) (wln (cn H (fun h59 H => ?_) (fun h59 H => ?_))))))))
  ·refine W.skip (nrm (W.block (sr (va (v50) (bn H fun x_32 h60 H => ?_)))))
   obtain ⟨v61, h62, h63⟩ := run_cutL (k := .i64) underlying22 (by kernel_rfl) h55 h60
   refine vr v61 (rx (by kernel_rfl) (h62 _)) (va (v61) (wln (W.region (va (.pointer (some ⟨b42, 0, none⟩)) (vx (le1 0 underlying3 (O54.on 0 rfl)) (va (.int .i64 (w64 (s_25.2 - 1))) (va (.pointer (some ⟨b42, 0, none⟩)) (md (sC 3 0 (.int .i64 (w64 (s_25.2 - 1))) [.int .i64 (w64 (s_25.2 - 1)), .int .i64 x_5.At.Col, .bool x_5.At.Pending] 0 O54 ⟨rfl, trivial⟩) ?_))))))))
   rintro c65 l65 O64
   refine WL.nil (bkn ?_)
   obtain rfl := si H
   exact ⟨_, rfl, ⟨c65, _, _, rfl, pt, us, v61, O64, rfl, h63.m⟩⟩
  refine W.exit (thx ?_)
  obtain rfl := si H
  exact ⟨_, rfl, rfl, ⟨c52, _, _, rfl, pt, us, v50, O54, rfl, h55⟩⟩
 ·exact ⟨c47, _, _, rfl, pt, us, (.slice a23 a24 a25), O46, rfl, h16.m⟩
 rintro _ e_ w_ ⟨rfl, c66, g67, _, rfl, l66, rfl, v51, O68, rfl, h69⟩
 refine bke (nrm (sr (va (.slice none 0 0) (wln (W.seq (sr (va (.int .i64 0) (wln (W.block (bn H49 fun o_45 h73 H74 => lp h73 (fun s_45 => Jn c66 fun c l => ∃ v75 u76, Own c G (es true R_api_Line v75 71 u76 s_45.1 :: ⟨.pointer (some ⟨b42, 0, none⟩), 24, [.int .i64 o_25.2, .int .i64 x_5.At.Col, .bool x_5.At.Pending], 0⟩ :: ⟨.pointer (some ⟨b10, 0, none⟩), 43, [.slice none 0 0, .int .i64 0, .int .i64 0, .bool false, .bool false], 0⟩ :: ⟨.pointer (some ⟨b6, 0, none⟩), 43, [.slice a23 a24 a25, .int .i64 x_5.At.Row, .int .i64 x_5.At.Col, .bool x_5.At.Pending, .bool x_5.Auto], 0⟩ :: F) ∧ l = [(1, .int .i64 x_9), (2, .int .i64 x_13), (3, .pointer (some ⟨b6, 0, none⟩)), (6, .pointer (some ⟨b10, 0, none⟩)), (7, v51), (8, .pointer (some ⟨b42, 0, none⟩)), (9, v75), (10, .int .i64 s_45.2)] ∧ OA R_api_Line c v75 u76 s_45.1) (fun o_45_ ex e w => ex = .exit 2 ∧ (Jn c66 fun c l => ∃ v77 u78, Own c G (es true R_api_Line v77 71 u78 o_45_ :: ⟨.pointer (some ⟨b42, 0, none⟩), 24, [.int .i64 o_25.2, .int .i64 x_5.At.Col, .bool x_5.At.Pending], 0⟩ :: ⟨.pointer (some ⟨b10, 0, none⟩), 43, [.slice none 0 0, .int .i64 0, .int .i64 0, .bool false, .bool false], 0⟩ :: ⟨.pointer (some ⟨b6, 0, none⟩), 43, [.slice a23 a24 a25, .int .i64 x_5.At.Row, .int .i64 x_5.At.Col, .bool x_5.At.Pending, .bool x_5.Auto], 0⟩ :: F) ∧ l = [(1, .int .i64 x_9), (3, .pointer (some ⟨b6, 0, none⟩)), (6, .pointer (some ⟨b10, 0, none⟩)), (8, .pointer (some ⟨b42, 0, none⟩)), (9, v77)] ∧ OA R_api_Line c v77 u78 o_45_) e w) ?_ ?_ ?_))))))))))
 ·clear H74 h73
  intro s_45 xx_ ee_ ww_ H49
  revert ee_ ww_
  rintro e_ w_ ⟨c79, g80, _, rfl, l79, rfl, v75, u76, O81, rfl, h82⟩
  refine W.seq (sr (va (.int .i64 s_45.2) (va (.int .i64 x_13) (va (.bool (decide (s_45.2 < x_13))) (wln (cn H49 (fun h86 H49 => ?_) (fun h86 H49 => ?_)))))))
  ·refine W.skip (nrm (W.seq (W.block (sr (va (.slice none 0 0) (wln (bn H49 fun z_52 H87 H88 => W.seqJ (Jn c79 fun c l => ∃ v89, Own c G (es true R_api_Line v75 71 u76 s_45.1 :: ⟨.pointer (some ⟨b42, 0, none⟩), 24, [.int .i64 o_25.2, .int .i64 x_5.At.Col, .bool x_5.At.Pending], 0⟩ :: ⟨.pointer (some ⟨b10, 0, none⟩), 43, [.slice none 0 0, .int .i64 0, .int .i64 0, .bool false, .bool false], 0⟩ :: ⟨.pointer (some ⟨b6, 0, none⟩), 43, [.slice a23 a24 a25, .int .i64 x_5.At.Row, .int .i64 x_5.At.Col, .bool x_5.At.Pending, .bool x_5.Auto], 0⟩ :: F) ∧ l = [(1, .int .i64 x_9), (2, .int .i64 x_13), (3, .pointer (some ⟨b6, 0, none⟩)), (6, .pointer (some ⟨b10, 0, none⟩)), (7, v51), (8, .pointer (some ⟨b42, 0, none⟩)), (9, v75), (10, .int .i64 s_45.2), (11, v89)] ∧ Sl R_api_Cell c v89 z_52) ?_ ?_)))))))
   ·refine sr (va (.int .i64 s_45.2) (va (v51) (vx (ln 3 underlying22 h69.m) (va (.bool (decide (s_45.2 < (o_25.1.length : Int)))) (wln (cn H87 (fun h90 H87 => ?_) (fun h90 H87 => ?_)))))))
    ·refine W.region (va (v51) (va (.int .i64 s_45.2) (bn H87 fun x_60 h91 H87 => ?_)))
     obtain ⟨l_92, h93, m94⟩ := Sl.at (h69.mono l79) (idx_get h91)
     obtain ⟨v95, rfl, h96⟩ := h93
     refine vx (ix underlying22 h69.m h91) (va (.pointer (some ⟨sb v51, so v51 + s_45.2.toNat * 2, none⟩)) (vx (l1 underlying69 (m94 0 _ rfl)) (va (v95) (wln ?_))))
     obtain rfl := si H87
     exact ⟨c79, _, _, rfl, pt, us, v95, O81, rfl, h96⟩
    refine W.skip (nrm ?_)
    obtain rfl := si H87
    exact ⟨c79, _, _, rfl, pt, us, (.slice none 0 0), O81, rfl, (Sl.nl _ _)⟩
   rintro e_ w_ ⟨c97, g98, _, rfl, l97, rfl, v89, O99, rfl, h100⟩
   refine W.region (va (v75) (va (v89) (va (.int .i64 x_9) (bn H88 fun x_68 h104 H88 => cl (c_linotyperef28_Resize O99 z_52 x_9 h100 h104) ?_))))
   rintro v105 c112 l112 ⟨_, u106, O109, rfl, h107⟩
   obtain ⟨a114, a115, a116, rfl⟩ := (h107).form
   refine va (.agg #[.slice a114 a115 a116, .bool false]) ?_
   obtain ⟨c119, h120, l119, O117, h118⟩ := O109.frz 0 rfl h107
   refine WL.gh h120 (me (sl R_api_Line 71 [[.slice a114 a115 a116, .bool false]] ([(⟨x_68, false⟩ : G_api_Line)] : List G_api_Line) O117 ⟨⟨(.slice a114 a115 a116), rfl, h118⟩, trivial⟩) ?_)
   rintro v125 c124 l124 ⟨u122, O121, h123⟩
   obtain ⟨c128, h129, l128, O126, h127⟩ := O121.frz 0 rfl h123
   refine WL.gh h129 (bn H88 fun x_71 h130 H88 => me (ap R_api_Line (.agg #[.slice none 0 0, .bool false]) 32 22 2 O126 h82.m h127 h130 underlying22) ?_)
   rintro v135 c134 l134 ⟨u132, O131, h133⟩
   refine va (v135) (WL.nil (bkn (nrm (W.region (va (.int .i64 s_45.2) (va (.int .i64 (w64 (s_45.2 + 1))) (va (.int .i64 (w64 (s_45.2 + 1))) (WL.nil ?_))))))))
   obtain rfl := si H88
   refine ⟨_, rfl, ?_⟩
   have O136 := O131.sD 6 [2, 3, 4, 5]
   exact ⟨c134, _, _, rfl, pt, us, v135, u132, O136, rfl, h133⟩
  refine W.exit (thx ?_)
  obtain rfl := si H49
  exact ⟨_, rfl, rfl, ⟨c79, _, _, rfl, pt, us, v75, u76, O81, rfl, h82⟩⟩
 ·have h138 : OA R_api_Line c66 (.slice none 0 0) [] [] := OA.nil (Nat.succ_pos _)
  have O137 := O68.addHole (e := es true R_api_Line (.slice none 0 0) 71 [] ([] : List G_api_Line)) rfl
  exact ⟨c66, _, _, rfl, pt, us, (.slice none 0 0), [], O137, rfl, h138⟩
 rintro _ e_ w_ ⟨rfl, c139, g140, _, rfl, l139, rfl, v77, u78, O141, rfl, h142⟩
 refine bke (nrm (sr (va (v77) (va (.pointer (some ⟨b42, 0, none⟩)) (vx (le1 0 underlying3 (O141.on 1 rfl)) (va (.pointer (some ⟨b42, 1, none⟩)) (vx (le1 1 underlying3 (O141.on 1 rfl)) (va (.int .i64 x_9) (va (.int .i64 (w64 (x_9 - 1))) (va (.int .i64 (imin x_5.At.Col (w64 (x_9 - 1)))) (va (.agg #[.int .i64 o_25.2, .int .i64 (imin x_5.At.Col (w64 (x_9 - 1))), .bool false]) (va (.pointer (some ⟨b6, 4, none⟩)) (vx (le1 4 underlying4 (O141.on 3 rfl)) ?_)))))))))))))
 obtain ⟨a146, a147, a148, rfl⟩ := (h142).form
 refine va (.agg #[.slice a146 a147 a148, .int .i64 o_25.2, .int .i64 (imin x_5.At.Col (w64 (x_9 - 1))), .bool false, .bool x_5.Auto]) (md (sA 43 [.slice a146 a147 a148, .int .i64 o_25.2, .int .i64 (imin x_5.At.Col (w64 (x_9 - 1))), .bool false, .bool x_5.Auto] 2 O141 ⟨(h142).one, rfl, rfl, rfl, rfl, trivial⟩) ?_)
 rintro c150 l150 O149
 refine wln (W.ret ?_)
 obtain rfl := si H74
 have O151 := O149.sD 4 [0]
 exact retC (c := c150) (vs := [.slice a146 a147 a148, .int .i64 o_25.2, .int .i64 (imin x_5.At.Col (w64 (x_9 - 1))), .bool false, .bool x_5.Auto]) rfl (by kernel_rfl) (by kernel_rfl) (by kernel_rfl) (O149.on 2 rfl _ rfl).1 ⟨_, c150, rfl, rfl, pt, (.slice a146 a147 a148), u78, O151, rfl, h142.m⟩

end Go.Proofs.YthokmpbbkpjhbaaGreatDoor
