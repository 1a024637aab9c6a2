import Derived.Test.YthokmpbbkpjhbaaGreatDoorMq
import Derived.Test.YthokmpbbkpjhbaaGreatDoorProg
import Derived.Test.YthokmpbbkpjhbaaGreatDoorMy
import Derived.Test.YthokmpbbkpjhbaaGreatDoorMz
import Derived.Test.YthokmpbbkpjhbaaGreatDoorA1
namespace Go.Proofs.YthokmpbbkpjhbaaGreatDoor
open Go Go.Lt
set_option maxRecDepth 10000
set_option linter.unusedVariables false
attribute [local irreducible] W WL AC
open Tryz
variable {c0 : Cx} {G : Gm} {F : List En} {sg : Sto} {v1 v2 v3 v4 v5 v6 v7 v8 v9 v10 v11 v12 v13 v14 v15 v16 v17 v18 v19 v20 v21 v22 v23 v24 v25 v26 v27 v28 v29 v30 v31 v32 v33 v34 v35 v36 v37 v38 v39 v40 v41 v42 v43 v44 v45 v46 v47 v48 v49 v50 v51 v52 v53 v54 v55 v56 v57 v58 v59 v60 : Value}
def f_scalar_Replace (p0 : List Int) : Option (List Int) :=
 (rep 0 0).bind fun x_5 =>
 (rep (p0.length : Int) 0).bind fun y_5 =>
 (iter (σ := (List Int) × Int) (τ := (List Int)) (((p0.length : Int) - 0).toNat + 1) (fun s_12 =>
 if (decide (s_12.2 < (p0.length : Int))) = true then
 (idx p0 s_12.2).bind fun x_15 =>
 ((f_scalar_Valid x_15).bind fun x_21 =>
 if (!x_21) = true then
 (some (65533) : Option (Int))
 else
 (some (x_15) : Option (Int))).bind fun z_19 =>
 (app s_12.1 ([z_19] : List Int)).bind fun x_29 =>
 some (.inl (x_29, (w64 (s_12.2 + 1))))
 else
 some (.inr (s_12.1))) (x_5, 0)).bind fun o_12 =>
 some o_12
theorem c_scalar_Replace (O0 : Own c0 G F) (p0 : List Int) {r : List Int} (h2 : Sl (RI .i32) c0 v1 p0) (H : f_scalar_Replace p0 = some r) :
    Calls Tryz.prog 245 #[v1] c0.w (Post c0 fun c v => ∃ y1 y2, Own c G (es true (RI .i32) y1 21 y2 r :: F) ∧ v = y1 ∧ OA (RI .i32) c y1 y2 r) := by
 unfold f_scalar_Replace at H
 refine en func245 rfl rfl (sr (va (.slice none 0 0) (wln (sr (va (v1) (vx (ln 3 underlying27 h2) (bn H fun x_5 h3 H => bn H fun y_5 h4 H => me (Own.mkS (kl := .i64) (kc := .i64) (R := (RI .i32)) (z := .int .i32 0) (lz := [.int .i32 0]) (x := 0) (by_ := 4) (i := 0) (j := (p0.length : Int)) true O0 (Nat.succ_pos _) h3 (rep_nn h4) (rep_le h4) underlying27 (by kernel_rfl) rfl rfl (fun _ => rfl) (by kernel_rfl) (by kernel_rfl)) ?_)))))))
 rintro v9 c8 l8 ⟨u6, O5, h7⟩
 refine va (v9) (wln (W.seq (sr (va (v1) (vx (ln 3 underlying27 h2.m) (va (.int .i64 0) (wln (W.block (bn H fun o_12 h10 H11 => lp h10 (fun s_12 => Jn c8 fun c l => ∃ v12 u13, Own c G (es true (RI .i32) v12 21 u13 s_12.1 :: F) ∧ l = [(3, v12), (9, v1), (10, .int .i64 (p0.length : Int)), (11, .int .i64 s_12.2)] ∧ OA (RI .i32) c v12 u13 s_12.1) (fun o_12_ ex e w => ex = .exit 0 ∧ (Jn c8 fun c l => ∃ v14 u15, Own c G (es true (RI .i32) v14 21 u15 o_12_ :: F) ∧ l = [(3, v14)] ∧ OA (RI .i32) c v14 u15 o_12_) e w) ?_ ?_ ?_)))))))))
 ·clear H11 h10
  intro s_12 xx_ ee_ ww_ H
  revert ee_ ww_
  rintro e_ w_ ⟨c16, g17, _, rfl, l16, rfl, v12, u13, O18, rfl, h19⟩
  refine sr (va (.bool (decide (s_12.2 < (p0.length : Int)))) (wln (W.seq (cn H (fun h23 H => ?_) (fun h23 H => ?_)))))
  ·refine W.skip (nrm (W.seq (W.block (sr (bn H fun x_15 h24 H => ?_)))))
   obtain ⟨l_25, h26, m27⟩ := Sl.at (h2.mono (l8.trans l16)) (idx_get h24)
   obtain rfl := h26
   refine vx (ix underlying27 h2.m h24) (vx (l1 underlying21 (m27 0 _ rfl)) (va (.int .i32 x_15) (wln (bn H fun z_19 H28 H29 => W.seqJ (Jn c16 fun c l => Own c G (es true (RI .i32) v12 21 u13 s_12.1 :: F) ∧ l = [(3, v12), (5, .int .i32 z_19), (9, v1), (10, .int .i64 (p0.length : Int)), (11, .int .i64 s_12.2)]) ?_ ?_))))
   ·refine sr (va (.int .i32 x_15) (bn H28 fun x_21 h30 H28 => cl (c_scalar_Valid O18 x_15 h30) ?_))
    rintro v36 c35 l35 ⟨O32, rfl⟩
    refine va (.bool (!x_21)) (wln (cn H28 (fun h37 H28 => ?_) (fun h37 H28 => ?_)))
    ·refine W.region (va (.int .i32 65533) (wln ?_))
     obtain rfl := si H28
     exact ⟨c35, _, _, rfl, pt, us, O32, rfl⟩
    refine W.skip (nrm ?_)
    obtain rfl := si H28
    exact ⟨c35, _, _, rfl, pt, us, O32, rfl⟩
   rintro e_ w_ ⟨c38, g39, _, rfl, l38, rfl, O40, rfl⟩
   refine W.region (va (v12) (va (.int .i32 z_19) (me (sl (RI .i32) 21 [[.int .i32 z_19]] ([z_19] : List Int) O40 ⟨rfl, trivial⟩) ?_)))
   rintro v48 c47 l47 ⟨u45, O44, h46⟩
   obtain ⟨c51, h52, l51, O49, h50⟩ := O44.frz 0 rfl h46
   refine WL.gh h52 (bn H29 fun x_29 h53 H29 => me (ap (RI .i32) (.int .i32 0) 4 27 1 O49 h19.m h50 h53 underlying27) ?_)
   rintro v58 c57 l57 ⟨u55, O54, h56⟩
   refine va (v58) (WL.nil (bkn (nrm (W.region (va (.int .i64 (w64 (s_12.2 + 1))) (va (.int .i64 (w64 (s_12.2 + 1))) (WL.nil ?_)))))))
   obtain rfl := si H29
   refine ⟨_, rfl, ?_⟩
   have O59 := O54.sD 2 [1]
   exact ⟨c57, _, _, rfl, pt, us, v58, u55, O59, rfl, h56⟩
  refine W.exit (thx ?_)
  obtain rfl := si H
  exact ⟨_, rfl, rfl, ⟨c16, _, _, rfl, pt, us, v12, u13, O18, rfl, h19⟩⟩
 ·exact ⟨c8, _, _, rfl, pt, us, v9, u6, O5, rfl, h7⟩
 rintro _ e_ w_ ⟨rfl, c60, g61, _, rfl, l60, rfl, v14, u15, O62, rfl, h63⟩
 refine bke (nrm (sr (va (v14) (va (v14) (wln (W.ret ?_))))))
 obtain rfl := si H11
 exact r1 ⟨_, c60, rfl, rfl, pt, v14, u15, O62, rfl, h63⟩
def f_cell_Of (p0 : Int) (p1 : List Int) : Option (List G_api_Cell) :=
 (if (decide (p0 ≥ 2)) = true then
 (app ([(⟨0, ([] : List Int)⟩ : G_api_Cell)] : List G_api_Cell) ([(⟨0, ([] : List Int)⟩ : G_api_Cell)] : List G_api_Cell)).bind fun x_14 =>
 (some (x_14) : Option ((List G_api_Cell)))
 else
 (some (([(⟨0, ([] : List Int)⟩ : G_api_Cell)] : List G_api_Cell)) : Option ((List G_api_Cell)))).bind fun z_7 =>
 if ((p1.length : Int) == 0) = true then
 some z_7
 else
 (slc p1 0 (imin (p1.length : Int) 16)).bind fun x_29 =>
 (f_scalar_Replace x_29).bind fun x_30 =>
 (idx z_7 0).bind fun x_32 =>
 (sets z_7 0 (⟨1, x_30⟩ : G_api_Cell)).bind fun w_33 =>
 (if (decide (p0 ≥ 2)) = true then
 (idx w_33 0).bind fun x_41 =>
 (sets w_33 0 (⟨2, x_41.Text⟩ : G_api_Cell)).bind fun w_43 =>
 (idx w_43 1).bind fun x_44 =>
 (sets w_43 1 (⟨3, x_44.Text⟩ : G_api_Cell)).bind fun w_46 =>
 (some (w_46) : Option ((List G_api_Cell)))
 else
 (some (w_33) : Option ((List G_api_Cell)))).bind fun z_35 =>
 some z_35
theorem c_cell_Of (O0 : Own c0 G F) (p0 : Int) (p1 : List Int) {r : List G_api_Cell} (h2 : Sl (RI .i32) c0 v1 p1) (H : f_cell_Of p0 p1 = some r) :
    Calls Tryz.prog 200 #[.int .i64 p0, v1] c0.w (Post c0 fun c v => ∃ y1 y2, Own c G (es true R_api_Cell y1 101 y2 r :: F) ∧ v = y1 ∧ OA R_api_Cell c y1 y2 r) := by
 unfold f_cell_Of at H
 refine en func200 rfl rfl (sr (va (.slice none 0 0) (wln (sr (va (.agg #[.int .i64 0, .slice none 0 0]) (me (sl R_api_Cell 101 [[.int .i64 0, .slice none 0 0]] ([(⟨0, ([] : List Int)⟩ : G_api_Cell)] : List G_api_Cell) O0 ⟨⟨(.slice none 0 0), rfl, (Sl.nl _ _)⟩, trivial⟩) ?_))))))
 rintro v7 c6 l6 ⟨u4, O3, h5⟩
 refine va (v7) (wln (bn H fun z_7 H8 H9 => W.seqJ (Jn c6 fun c l => ∃ v10 u11, Own c G (es true R_api_Cell v10 101 u11 z_7 :: F) ∧ l = [(0, .int .i64 p0), (1, v1), (5, v10)] ∧ OA R_api_Cell c v10 u11 z_7) ?_ ?_))
 ·refine sr (va (.int .i64 p0) (va (.bool (decide (p0 ≥ 2))) (wln (cn H8 (fun h12 H8 => ?_) (fun h12 H8 => ?_)))))
  ·refine W.region (va (v7) (va (.agg #[.int .i64 0, .slice none 0 0]) (me (sl R_api_Cell 101 [[.int .i64 0, .slice none 0 0]] ([(⟨0, ([] : List Int)⟩ : G_api_Cell)] : List G_api_Cell) O3 ⟨⟨(.slice none 0 0), rfl, (Sl.nl _ _)⟩, trivial⟩) ?_)))
   rintro v17 c16 l16 ⟨u14, O13, h15⟩
   obtain ⟨c20, h21, l20, O18, h19⟩ := O13.frz 0 rfl h15
   refine WL.gh h21 (bn H8 fun x_14 h22 H8 => me (ap R_api_Cell (.agg #[.int .i64 0, .slice none 0 0]) 32 69 1 O18 h5.m h19 h22 underlying69) ?_)
   rintro v27 c26 l26 ⟨u24, O23, h25⟩
   refine va (v27) (wln ?_)
   obtain rfl := si H8
   have O28 := O23.sD 2 [1]
   exact ⟨c26, _, _, rfl, pt, us, v27, u24, O28, rfl, h25⟩
  refine W.skip (nrm ?_)
  obtain rfl := si H8
  exact ⟨c6, _, _, rfl, pt, us, v7, u4, O3, rfl, h5⟩
 rintro e_ w_ ⟨c29, g30, _, rfl, l29, rfl, v10, u11, O31, rfl, h32⟩
 refine W.seq (sr (va (v1) (vx (ln 3 underlying27 h2.m) (va (.bool ((p1.length : Int) == 0)) (wln (cn H9 (fun h36 H9 => ?_) (fun h36 H9 => ?_)))))))
 ·refine sr (va (v10) (va (v10) (wln (W.ret (thr ?_)))))
  obtain rfl := si H9
  exact r1 ⟨_, c29, rfl, rfl, pt, v10, u11, O31, rfl, h32⟩
 refine W.skip (nrm (sr (va (v10) (va (v1) (va (v1) (vx (ln 3 underlying27 h2.m) (va (.int .i64 (imin (p1.length : Int) 16)) (bn H9 fun x_29 h37 H9 => ?_))))))))
 obtain ⟨v38, h39, h40⟩ := run_cutH (k' := .i64) underlying27 (by kernel_rfl) (h2.mono (l6.trans l29)) h37
 refine vr v38 (rx (by kernel_rfl) (h39 _)) (bn H9 fun x_30 h41 H9 => cl (c_scalar_Replace O31 x_29 h40 h41) ?_)
 rintro v42 c49 l49 ⟨_, u43, O46, rfl, h44⟩
 obtain ⟨a51, a52, a53, rfl⟩ := (h44).form
 refine va (.agg #[.int .i64 1, .slice a51 a52 a53]) (bn H9 fun x_32 h54 H9 => vx (ixO underlying69 h32.m h54) ?_)
 obtain ⟨c57, h58, l57, O55, h56⟩ := O46.frz 0 rfl h44
 refine WL.gh h58 (bn H9 fun w_33 h59 H9 => md (Own.stW (R := R_api_Cell) (T := 101) (us := [.int .i64 1, .slice a51 a52 a53]) (x' := (⟨1, x_30⟩ : G_api_Cell)) (u := .agg #[.int .i64 1, .slice a51 a52 a53]) 1 O55 (by kernel_rfl) rfl h32.m h59 rfl (by kernel_rfl) ⟨rfl, h56.one, trivial⟩ rfl ⟨(.slice a51 a52 a53), rfl, h56⟩) ?_)
 rintro c63 l63 ⟨u61, O60, h62⟩
 refine wln (bn H9 fun z_35 H64 H65 => W.seqJ (Jn c63 fun c l => ∃ v66 u67, Own c G (es true R_api_Cell v66 101 u67 z_35 :: es false (RI .i32) (.slice a51 a52 a53) 21 u43 x_30 :: F) ∧ l = [(5, v66)] ∧ OA R_api_Cell c v66 u67 z_35) ?_ ?_)
 ·refine sr (va (.int .i64 p0) (va (.bool (decide (p0 ≥ 2))) (wln (cn H64 (fun h68 H64 => ?_) (fun h68 H64 => ?_)))))
  ·refine W.region (va (v10) (va (v10) (bn H64 fun x_41 h69 H64 => vx (ixO underlying69 h62 h69) (va (.pointer (some ⟨sb v10, (0 : Int).toNat * 2, none⟩)) ?_))))
   obtain ⟨l_70, h71, m72⟩ := OA.at h62 h69
   obtain ⟨v73, rfl, h74⟩ := h71
   refine bn H64 fun w_43 h75 H64 => md (Own.stO (R := R_api_Cell) (T := 3) (us := [.int .i64 2]) (x' := (⟨2, x_41.Text⟩ : G_api_Cell)) (u := .int .i64 2) (x := (⟨2, x_41.Text⟩ : G_api_Cell)) (j := 0) (l' := [.int .i64 2, v73]) 1 O60 (by kernel_rfl) rfl h62 h75 m72 rfl (by kernel_rfl) ⟨rfl, trivial⟩ (by kernel_rfl) rfl ⟨v73, rfl, h74⟩) ?_
   rintro c79 l79 ⟨u77, O76, h78⟩
   refine bn H64 fun x_44 h80 H64 => vx (ixO underlying69 h78 h80) (va (.pointer (some ⟨sb v10, (1 : Int).toNat * 2, none⟩)) ?_)
   obtain ⟨l_81, h82, m83⟩ := OA.at h78 h80
   obtain ⟨v84, rfl, h85⟩ := h82
   refine bn H64 fun w_46 h86 H64 => md (Own.stO (R := R_api_Cell) (T := 3) (us := [.int .i64 3]) (x' := (⟨3, x_44.Text⟩ : G_api_Cell)) (u := .int .i64 3) (x := (⟨3, x_44.Text⟩ : G_api_Cell)) (j := 0) (l' := [.int .i64 3, v84]) 1 O76 (by kernel_rfl) rfl h78 h86 m83 rfl (by kernel_rfl) ⟨rfl, trivial⟩ (by kernel_rfl) rfl ⟨v84, rfl, h85⟩) ?_
   rintro c90 l90 ⟨u88, O87, h89⟩
   refine wln ?_
   obtain rfl := si H64
   have O91 := O87.sD 2 [1, 0]
   exact ⟨c90, _, _, rfl, pt, us, v10, u88, O91, rfl, h89⟩
  refine W.skip (nrm ?_)
  obtain rfl := si H64
  have O92 := O60.sD 2 [1, 0]
  exact ⟨c63, _, _, rfl, pt, us, v10, u61, O92, rfl, h62⟩
 rintro e_ w_ ⟨c93, g94, _, rfl, l93, rfl, v66, u67, O95, rfl, h96⟩
 refine sr (va (v66) (va (v66) (wln (W.ret ?_))))
 obtain rfl := si H65
 have O100 := O95.sD 2 [0]
 exact r1 ⟨_, c93, rfl, rfl, pt, v66, u67, O100, rfl, h96⟩
def f_mark_Put (sg : Sto) (p0 : Option Nat) (p1 : Int) (p2 : Int) (p3 : List Int) : Option (Sto × Er) :=
 (f_cell_Of p2 p3).bind fun x_7 =>
 (f_row_Row_Paint sg p0 p1 x_7).bind fun x_8 =>
 some (x_8.1, x_8.2)
theorem c_mark_Put (O0 : Own c0 G F) (R0 : Rel c0 sg G) (hG : Gl [0, 4] c0) (p0 : Option Nat) (p1 : Int) (p2 : Int) (p3 : List Int) {r : Sto × Er} (h2 : Pt 0 c0 v1 p0) (h4 : Sl (RI .i32) c0 v3 p3) (H : f_mark_Put sg p0 p1 p2 p3 = some r) :
    Calls Tryz.prog 129 #[v1, .int .i64 p1, .int .i64 p2, v3] c0.w (Post c0 fun c v => ∃ y1, ∃ G_ : Gm, Own c G_ (F) ∧ Rel c r.1 G_ ∧ v = y1 ∧ RE 305 179 c y1 r.2) := by
 unfold f_mark_Put at H
 refine en func129 rfl rfl (sr (va (.nilIface) (wln (sr (va (v1) (va (.int .i64 p1) (va (.int .i64 p2) (va (v3) (bn H fun x_7 h5 H => cl (c_cell_Of O0 p2 p3 h4 h5) ?_)))))))))
 rintro v6 c13 l13 ⟨_, u7, O10, rfl, h8⟩
 obtain ⟨c17, h18, l17, O15, h16⟩ := O10.frz 0 rfl h8
 refine WL.gh h18 (bn H fun x_8 h19 H => cl (c_row_Row_Paint O15 R0.m (hG.m.le (by decide)) p0 p1 x_7 h2.m h16 h19) ?_)
 rintro v20 c26 l26 ⟨_, G22, O23, R24, rfl, h21⟩
 refine va (v20) (wln (W.ret ?_))
 obtain rfl := si H
 have O28 := O23.sD 1 []
 exact r1 ⟨_, c26, rfl, rfl, pt, v20, G22, O28, R24, rfl, h21⟩
def f_mark_At (sg : Sto) (p0 : Option Nat) (p1 : Int) : Option (Int × G_api_Item × Bool) :=
 (f_row_Row_Cell sg p0 p1).bind fun x_7 =>
 ((andE x_7.2 (some (x_7.1.Kind == 3))).bind fun d_17 =>
 if d_17 = true then
 (f_row_Row_Cell sg p0 (w64 (p1 - 1))).bind fun x_29 =>
 (some ((w64 (p1 - 1)), x_29.2, x_29.1.Kind, x_29.1.Text) : Option (Int × Bool × Int × (List Int)))
 else
 (some (p1, x_7.2, x_7.1.Kind, x_7.1.Text) : Option (Int × Bool × Int × (List Int)))).bind fun z_15 =>
 (andE z_15.2.1 (some (z_15.2.2.1 == 1))).bind fun d_37 =>
 if d_37 = true then
 some (z_15.1, (⟨1, z_15.2.2.2⟩ : G_api_Item), true)
 else
 (andE z_15.2.1 (some (z_15.2.2.1 == 2))).bind fun d_53 =>
 if d_53 = true then
 some (z_15.1, (⟨2, z_15.2.2.2⟩ : G_api_Item), true)
 else
 some (0, (⟨0, ([] : List Int)⟩ : G_api_Item), false)
theorem c_mark_At (O0 : Own c0 G F) (R0 : Rel c0 sg G) (p0 : Option Nat) (p1 : Int) {r : Int × G_api_Item × Bool} (h2 : Pt 0 c0 v1 p0) (H : f_mark_At sg p0 p1 = some r) :
    Calls Tryz.prog 155 #[v1, .int .i64 p1] c0.w (Post c0 fun c v => ∃ y1 y2, Own c G (es true (RI .i32) y1 21 y2 r.2.1.Text :: F) ∧ v = .tuple #[.int .i64 r.1, .agg #[.int .i64 r.2.1.Wide, y1], .bool r.2.2] ∧ OA (RI .i32) c y1 y2 r.2.1.Text) := by
 unfold f_mark_At at H
 refine en func155 rfl rfl (sr (va (.int .i64 0) (me (al 197 [.int .i64 0, .slice none 0 0] O0) ?_)))
 rintro v6 c5 l5 ⟨b3, rfl, O4⟩
 refine va (.bool false) (wln (sr (va (v1) (va (.int .i64 p1) (bn H fun x_7 h7 H => cl (c_row_Row_Cell O4 R0.m p0 p1 h2.m h7) ?_)))))
 rintro v16 c15 l15 ⟨v8, u9, O12, rfl, h10⟩
 refine va (.tuple #[.agg #[.int .i64 x_7.1.Kind, v8], .bool x_7.2]) (va (.agg #[.int .i64 x_7.1.Kind, v8]) (va (.bool x_7.2) (me (al 101 [.int .i64 0, .slice none 0 0] O12) ?_)))
 rintro v20 c19 l19 ⟨b17, rfl, O18⟩
 obtain ⟨a21, a22, a23, rfl⟩ := ((h10.mono l19)).form
 refine md (sA 101 [.int .i64 x_7.1.Kind, .slice a21 a22 a23] 0 O18 ⟨rfl, h10.m.one, trivial⟩) ?_
 rintro c25 l25 O24
 refine va (.bool x_7.2) (wln (bn H fun z_15 H26 H27 => W.seqJ (Jn c25 fun c l => ∃ v28 u29, Own c G (es true (RI .i32) v28 21 u29 z_15.2.2.2 :: ⟨.pointer (some ⟨b17, 0, none⟩), 101, [.int .i64 z_15.2.2.1, v28], 0⟩ :: ⟨.pointer (some ⟨b3, 0, none⟩), 197, [.int .i64 0, .slice none 0 0], 0⟩ :: F) ∧ l = [(1, .int .i64 z_15.1), (5, .pointer (some ⟨b3, 0, none⟩)), (6, .bool z_15.2.1), (7, .pointer (some ⟨b17, 0, none⟩))] ∧ OA (RI .i32) c v28 u29 z_15.2.2.2) ?_ ?_))
 ·refine W.seq (bn H26 fun d_17 h30 H26 => W.join (Jn c25 fun c l => Own c G (⟨.pointer (some ⟨b17, 0, none⟩), 101, [.int .i64 x_7.1.Kind, .slice a21 a22 a23], 0⟩ :: es true (RI .i32) (.slice a21 a22 a23) 21 u9 x_7.1.Text :: ⟨.pointer (some ⟨b3, 0, none⟩), 197, [.int .i64 0, .slice none 0 0], 0⟩ :: F) ∧ l = [(0, v1), (1, .int .i64 p1), (5, .pointer (some ⟨b3, 0, none⟩)), (6, .bool x_7.2), (7, .pointer (some ⟨b17, 0, none⟩)), (19, .bool d_17)]) ?_ ?_)
  ·clear H26
   refine W.region (va (.bool x_7.2) ?_)
   rcases bo (x_7.2) with h31 | h31
   ·have H32 := anT h31 h30
    refine vb h31 (wn (va (.pointer (some ⟨b17, 0, none⟩)) (wn (vx (le1 0 underlying3 (O24.on 0 rfl)) (wn (va (.bool (x_7.1.Kind == 3)) ?_))))))
    obtain rfl := si H32
    exact va (.bool (x_7.1.Kind == 3)) (wln ⟨c25, _, _, rfl, pt, us, O24, rfl⟩)
   obtain rfl := anF h31 h30
   exact vb h31 (ps (ps (ps (va (.bool false) (wln ⟨c25, _, _, rfl, pt, us, O24, rfl⟩)))))
  rintro e_ w_ ⟨c33, g34, _, rfl, l33, rfl, O35, rfl⟩
  refine nrm (cn H26 (fun h39 H26 => ?_) (fun h39 H26 => ?_))
  ·refine sr (va (.int .i64 p1) (va (.int .i64 (w64 (p1 - 1))) (va (.int .i64 (w64 (p1 - 1))) (wln (W.region (va (v1) (va (.int .i64 (w64 (p1 - 1))) (bn H26 fun x_29 h40 H26 => cl (c_row_Row_Cell O35 R0.m p0 (w64 (p1 - 1)) h2.m h40) ?_))))))))
   rintro v49 c48 l48 ⟨v41, u42, O45, rfl, h43⟩
   refine va (.tuple #[.agg #[.int .i64 x_29.1.Kind, v41], .bool x_29.2]) (va (.agg #[.int .i64 x_29.1.Kind, v41]) (va (.bool x_29.2) ?_))
   obtain ⟨a50, a51, a52, rfl⟩ := (h43).form
   refine md (sA 101 [.int .i64 x_29.1.Kind, .slice a50 a51 a52] 1 O45 ⟨rfl, (h43).one, trivial⟩) ?_
   rintro c54 l54 O53
   refine va (.bool x_29.2) (wln ?_)
   obtain rfl := si H26
   have O55 := O53.sD 4 [0, 1, 3]
   exact ⟨c54, _, _, rfl, pt, us, (.slice a50 a51 a52), u42, O55, rfl, h43.m⟩
  refine W.skip (nrm ?_)
  obtain rfl := si H26
  have O56 := O35.sD 3 [1, 0, 2]
  exact ⟨c33, _, _, rfl, pt, us, (.slice a21 a22 a23), u9, O56, rfl, h10.m⟩
 rintro e_ w_ ⟨c57, g58, _, rfl, l57, rfl, v28, u29, O59, rfl, h60⟩
 refine W.seq (W.block (W.seq (bn H27 fun d_37 h64 H27 => W.join (Jn c57 fun c l => Own c G (es true (RI .i32) v28 21 u29 z_15.2.2.2 :: ⟨.pointer (some ⟨b17, 0, none⟩), 101, [.int .i64 z_15.2.2.1, v28], 0⟩ :: ⟨.pointer (some ⟨b3, 0, none⟩), 197, [.int .i64 0, .slice none 0 0], 0⟩ :: F) ∧ l = [(1, .int .i64 z_15.1), (5, .pointer (some ⟨b3, 0, none⟩)), (6, .bool z_15.2.1), (7, .pointer (some ⟨b17, 0, none⟩)), (28, .bool d_37)]) ?_ ?_)))
 ·clear H27
  refine W.region (va (.bool z_15.2.1) ?_)
  rcases bo (z_15.2.1) with h65 | h65
  ·have H66 := anT h65 h64
   refine vb h65 (wn (va (.pointer (some ⟨b17, 0, none⟩)) (wn (vx (le1 0 underlying3 (O59.on 1 rfl)) (wn (va (.bool (z_15.2.2.1 == 1)) ?_))))))
   obtain rfl := si H66
   exact va (.bool (z_15.2.2.1 == 1)) (va (.bool (z_15.2.2.1 == 1)) (wln ⟨c57, _, _, rfl, pt, us, O59, rfl⟩))
  obtain rfl := anF h65 h64
  exact vb h65 (ps (ps (ps (va (.bool false) (va (.bool false) (wln ⟨c57, _, _, rfl, pt, us, O59, rfl⟩))))))
 rintro e_ w_ ⟨c67, g68, _, rfl, l67, rfl, O69, rfl⟩
 refine nrm (cn H27 (fun h73 H27 => ?_) (fun h73 H27 => ?_))
 ·refine W.seq (rD [] (Kp G0 [⟨.pointer (some ⟨b17, 0, none⟩), 101, [.int .i64 z_15.2.2.1, v28], 0⟩]) O69 ?_)
  intro c74 l74 O75
  have p76 : Kp G0 [⟨.pointer (some ⟨b17, 0, none⟩), 101, [.int .i64 z_15.2.2.1, v28], 0⟩] c74 := (Kp.cons (O75.on 1 rfl) Kp.nil0)
  refine ta 0 (.int .i64 z_15.1) (ta 1 (.pointer (some ⟨b17, 1, none⟩)) (tkx 2 p76 (fun c' hle hk => le1 1 underlying27 (hk.on 0 rfl)) ?_))
  obtain ⟨a77, a78, a79, rfl⟩ := ((h60.mono (l67.trans l74))).form
  refine ta 3 (.agg #[.int .i64 1, .slice a77 a78 a79]) (ta 4 (.int .i64 z_15.1) (o1 5 (gD 5 (sA 197 [.int .i64 1, .slice a77 a78 a79] 2 O75 ⟨rfl, h60.m.one, trivial⟩) ?_)))
  rintro c81 l81 O80
  have p82 : Kp G0 [⟨.pointer (some ⟨b17, 0, none⟩), 101, [.int .i64 z_15.2.2.1, (.slice a77 a78 a79)], 0⟩] c81 := (Kp.cons (O80.on 1 rfl) Kp.nil0)
  refine ⟨.inr p82, ta 6 (.bool true) (dn (nrm (W.ret (bkr (thr ?_)))))⟩
  obtain rfl := si H27
  have O83 := O80.sD 3 [0]
  exact retTCT (c := c81) (vs := [.int .i64 1, .slice a77 a78 a79]) (v := .bool true) (v' := .int .i64 z_15.1) rfl (by kernel_rfl) (by kernel_rfl) (by kernel_rfl) (by kernel_rfl) (by kernel_rfl) (O80.on 2 rfl _ rfl).1 ⟨_, c81, rfl, rfl, pt, (.slice a77 a78 a79), u29, O83, rfl, h60.m⟩
 refine W.seq (bn H27 fun d_53 h84 H27 => W.join (Jn c67 fun c l => Own c G (es true (RI .i32) v28 21 u29 z_15.2.2.2 :: ⟨.pointer (some ⟨b17, 0, none⟩), 101, [.int .i64 z_15.2.2.1, v28], 0⟩ :: ⟨.pointer (some ⟨b3, 0, none⟩), 197, [.int .i64 0, .slice none 0 0], 0⟩ :: F) ∧ l = [(1, .int .i64 z_15.1), (5, .pointer (some ⟨b3, 0, none⟩)), (7, .pointer (some ⟨b17, 0, none⟩)), (39, .bool d_53)]) ?_ ?_)
 ·clear H27
  refine W.region (va (.bool z_15.2.1) ?_)
  rcases bo (z_15.2.1) with h85 | h85
  ·have H86 := anT h85 h84
   refine vb h85 (wn (va (.pointer (some ⟨b17, 0, none⟩)) (wn (vx (le1 0 underlying3 (O69.on 1 rfl)) (wn (va (.bool (z_15.2.2.1 == 2)) ?_))))))
   obtain rfl := si H86
   exact va (.bool (z_15.2.2.1 == 2)) (va (.bool (z_15.2.2.1 == 2)) (wln ⟨c67, _, _, rfl, pt, us, O69, rfl⟩))
  obtain rfl := anF h85 h84
  exact vb h85 (ps (ps (ps (va (.bool false) (va (.bool false) (wln ⟨c67, _, _, rfl, pt, us, O69, rfl⟩))))))
 rintro e_ w_ ⟨c87, g88, _, rfl, l87, rfl, O89, rfl⟩
 refine nrm (cn H27 (fun h93 H27 => ?_) (fun h93 H27 => ?_))
 ·refine W.seq (rD [] (Kp G0 [⟨.pointer (some ⟨b17, 0, none⟩), 101, [.int .i64 z_15.2.2.1, v28], 0⟩]) O89 ?_)
  intro c94 l94 O95
  have p96 : Kp G0 [⟨.pointer (some ⟨b17, 0, none⟩), 101, [.int .i64 z_15.2.2.1, v28], 0⟩] c94 := (Kp.cons (O95.on 1 rfl) Kp.nil0)
  refine ta 0 (.int .i64 z_15.1) (ta 1 (.pointer (some ⟨b17, 1, none⟩)) (tkx 2 p96 (fun c' hle hk => le1 1 underlying27 (hk.on 0 rfl)) ?_))
  obtain ⟨a97, a98, a99, rfl⟩ := ((h60.mono (l67.trans (l87.trans l94)))).form
  refine ta 3 (.agg #[.int .i64 2, .slice a97 a98 a99]) (ta 4 (.int .i64 z_15.1) (o1 5 (gD 5 (sA 197 [.int .i64 2, .slice a97 a98 a99] 2 O95 ⟨rfl, h60.m.one, trivial⟩) ?_)))
  rintro c101 l101 O100
  have p102 : Kp G0 [⟨.pointer (some ⟨b17, 0, none⟩), 101, [.int .i64 z_15.2.2.1, (.slice a97 a98 a99)], 0⟩] c101 := (Kp.cons (O100.on 1 rfl) Kp.nil0)
  refine ⟨.inr p102, ta 6 (.bool true) (dn (nrm (W.ret (bkr (thr ?_)))))⟩
  obtain rfl := si H27
  have O103 := O100.sD 3 [0]
  exact retTCT (c := c101) (vs := [.int .i64 2, .slice a97 a98 a99]) (v := .bool true) (v' := .int .i64 z_15.1) rfl (by kernel_rfl) (by kernel_rfl) (by kernel_rfl) (by kernel_rfl) (by kernel_rfl) (O100.on 2 rfl _ rfl).1 ⟨_, c101, rfl, rfl, pt, (.slice a97 a98 a99), u29, O103, rfl, h60.m⟩
 refine W.skip (bkn (nrm (sr (va (.agg #[.int .i64 0, .slice none 0 0]) (va (.int .i64 0) (md (sA 197 [.int .i64 0, .slice none 0 0] 2 O89 ⟨rfl, rfl, trivial⟩) ?_))))))
 rintro c105 l105 O104
 refine va (.bool false) (wln (W.ret ?_))
 obtain rfl := si H27
 have h107 : OA (RI .i32) c105 (.slice none 0 0) [] [] := OA.nil (Nat.succ_pos _)
 have O106 := O104.addHole (e := es true (RI .i32) (.slice none 0 0) 21 [] ([] : List Int)) rfl
 have O108 := O106.sD 4 [0]
 exact retTCT (c := c105) (vs := [.int .i64 0, .slice none 0 0]) (v := .bool false) (v' := .int .i64 0) rfl (by kernel_rfl) (by kernel_rfl) (by kernel_rfl) (by kernel_rfl) (by kernel_rfl) (O106.on 3 rfl _ rfl).1 ⟨_, c105, rfl, rfl, pt, (.slice none 0 0), [], O108, rfl, h107⟩
def f_mark_Add (sg : Sto) (p0 : Option Nat) (p1 : Int) (p2 : Int) : Option (Sto × Bool) :=
 (f_mark_At sg p0 p1).bind fun x_5 =>
 (orE (!x_5.2.2) (some (decide ((x_5.2.1.Text.length : Int) ≥ 16)))).bind fun d_17 =>
 if d_17 = true then
 some (sg, false)
 else
 (app x_5.2.1.Text ([p2] : List Int)).bind fun x_34 =>
 (f_mark_Put sg p0 x_5.1 x_5.2.1.Wide x_34).bind fun x_35 =>
 some (x_35.1, x_35.2.isNil)
theorem c_mark_Add (O0 : Own c0 G F) (R0 : Rel c0 sg G) (hG : Gl [0, 4] c0) (p0 : Option Nat) (p1 : Int) (p2 : Int) {r : Sto × Bool} (h2 : Pt 0 c0 v1 p0) (H : f_mark_Add sg p0 p1 p2 = some r) :
    Calls Tryz.prog 85 #[v1, .int .i64 p1, .int .i32 p2] c0.w (Post c0 fun c v => ∃ G_ : Gm, Own c G_ (F) ∧ Rel c r.1 G_ ∧ v = .bool r.2) := by
 unfold f_mark_Add at H
 refine en func85 rfl rfl (sr (va (.bool false) (wln (sr (va (v1) (va (.int .i64 p1) (bn H fun x_5 h3 H => cl (c_mark_At O0 R0 p0 p1 h2 h3) ?_)))))))
 rintro v12 c11 l11 ⟨v4, u5, O8, rfl, h6⟩
 refine va (.tuple #[.int .i64 x_5.1, .agg #[.int .i64 x_5.2.1.Wide, v4], .bool x_5.2.2]) (va (.int .i64 x_5.1) (va (.agg #[.int .i64 x_5.2.1.Wide, v4]) (va (.bool x_5.2.2) (me (al 197 [.int .i64 0, .slice none 0 0] O8) ?_))))
 rintro v16 c15 l15 ⟨b13, rfl, O14⟩
 refine va (.int .i64 x_5.1) ?_
 obtain ⟨a17, a18, a19, rfl⟩ := ((h6.mono l15)).form
 refine md (sA 197 [.int .i64 x_5.2.1.Wide, .slice a17 a18 a19] 0 O14 ⟨rfl, h6.m.one, trivial⟩) ?_
 rintro c21 l21 O20
 refine va (.bool x_5.2.2) (wln (W.seq (W.seq (bn H fun d_17 h22 H => W.join (Jn c21 fun c l => Own c G (⟨.pointer (some ⟨b13, 0, none⟩), 197, [.int .i64 x_5.2.1.Wide, .slice a17 a18 a19], 0⟩ :: es true (RI .i32) (.slice a17 a18 a19) 21 u5 x_5.2.1.Text :: F) ∧ l = [(0, v1), (2, .int .i32 p2), (7, .int .i64 x_5.1), (8, .pointer (some ⟨b13, 0, none⟩)), (24, .bool d_17)]) ?_ ?_))))
 ·clear H
  refine W.region (va (.bool x_5.2.2) (va (.bool (!x_5.2.2)) ?_))
  rcases bo (!x_5.2.2) with h23 | h23
  ·obtain rfl := orT h23 h22
   exact vb h23 (ps (ps (ps (ps (va (.bool true) (wln ⟨c21, _, _, rfl, pt, us, O20, rfl⟩))))))
  have H24 := orF h23 h22
  refine vb h23 (wn (va (.pointer (some ⟨b13, 1, none⟩)) (wn (vx (le1 1 underlying27 (O20.on 0 rfl)) (wn (vx (lnO 3 underlying27 h6.m) (wn (va (.bool (decide ((x_5.2.1.Text.length : Int) ≥ 16))) ?_))))))))
  obtain rfl := si H24
  exact va (.bool (decide ((x_5.2.1.Text.length : Int) ≥ 16))) (wln ⟨c21, _, _, rfl, pt, us, O20, rfl⟩)
 rintro e_ w_ ⟨c25, g26, _, rfl, l25, rfl, O27, rfl⟩
 refine nrm (cn H (fun h31 H => ?_) (fun h31 H => ?_))
 ·refine sr (va (.bool false) (wln (W.ret (thr ?_))))
  obtain rfl := si H
  have O32 := O27.sD 2 []
  exact r1 ⟨_, c25, rfl, rfl, pt, G, O32, R0.m, rfl⟩
 refine W.skip (nrm (W.seq (rD [] (Kp G0 [⟨.pointer (some ⟨b13, 0, none⟩), 197, [.int .i64 x_5.2.1.Wide, .slice a17 a18 a19], 0⟩]) O27 ?_)))
 intro c33 l33 O34
 have p35 : Kp G0 [⟨.pointer (some ⟨b13, 0, none⟩), 197, [.int .i64 x_5.2.1.Wide, .slice a17 a18 a19], 0⟩] c33 := (Kp.cons (O34.on 0 rfl) Kp.nil0)
 refine ta 0 (v1) (ta 1 (.int .i64 x_5.1) (ta 2 (.pointer (some ⟨b13, 0, none⟩)) (tkx 3 p35 (fun c' hle hk => le1 0 underlying3 (hk.on 0 rfl)) (ta 4 (.pointer (some ⟨b13, 1, none⟩)) (tkx 5 p35 (fun c' hle hk => le1 1 underlying27 (hk.on 0 rfl)) (ta 6 (.int .i32 p2) (o1 7 (gm 7 (sl (RI .i32) 21 [[.int .i32 p2]] ([p2] : List Int) O34 ⟨rfl, trivial⟩) ?_))))))))
 rintro v40 c39 l39 ⟨u37, O36, h38⟩
 have p41 : Kp G0 [⟨.pointer (some ⟨b13, 0, none⟩), 197, [.int .i64 x_5.2.1.Wide, .slice a17 a18 a19], 0⟩] c39 := (Kp.cons (O36.on 1 rfl) Kp.nil0)
 refine ⟨.inr p41, ?_⟩
 obtain ⟨c44, h45, l44, O42, h43⟩ := O36.frz 0 rfl h38
 have p46 : Kp G0 [⟨.pointer (some ⟨b13, 0, none⟩), 197, [.int .i64 x_5.2.1.Wide, .slice a17 a18 a19], 0⟩] c44 := (Kp.cons (O42.on 1 rfl) Kp.nil0)
 refine AC.gh h45 l44 (fun _ => p46) (bn H fun x_34 h47 H => o1 8 (gm 8 (ap (RI .i32) (.int .i32 0) 4 27 2 O42 h6.m h43 h47 underlying27) ?_))
 rintro v52 c51 l51 ⟨u49, O48, h50⟩
 have p53 : Kp G0 [⟨.pointer (some ⟨b13, 0, none⟩), 197, [.int .i64 x_5.2.1.Wide, .slice a17 a18 a19], 0⟩] c51 := (Kp.cons (O48.on 1 rfl) Kp.nil0)
 refine ⟨.inr p53, ?_⟩
 obtain ⟨c56, h57, l56, O54, h55⟩ := O48.frz 2 rfl h50
 have p58 : Kp G0 [⟨.pointer (some ⟨b13, 0, none⟩), 197, [.int .i64 x_5.2.1.Wide, .slice a17 a18 a19], 0⟩] c56 := (Kp.cons (O54.on 1 rfl) Kp.nil0)
 refine AC.gh h57 l56 (fun _ => p58) (bn H fun x_35 h59 H => o1 9 (gc 9 (c_mark_Put O54 R0.m (hG.m.le (by decide)) p0 x_5.1 x_5.2.1.Wide x_34 h2.m h55 h59) ?_))
 rintro v60 c66 l66 ⟨_, G62, O63, R64, rfl, h61⟩
 have p68 : Kp G0 [⟨.pointer (some ⟨b13, 0, none⟩), 197, [.int .i64 x_5.2.1.Wide, .slice a17 a18 a19], 0⟩] c66 := (Kp.cons (O63.on 1 rfl) Kp.nil0)
 refine ⟨.inr p68, AC.take 10 (.bool x_35.2.isNil) rfl (by kernel_rfl) (by kernel_rfl) (fun c' hle => (by rcases (h61).cs with ⟨h1_, h2_⟩ | ⟨b_, h1_, h2_⟩ | ⟨b_, h1_, h2_⟩ <;> (subst h1_; rw [h2_]; kernel_rfl))) (ta 11 (.bool x_35.2.isNil) (dn (nrm (W.ret ?_))))⟩
 obtain rfl := si H
 have O69 := O63.sD 3 []
 exact r1 ⟨_, c66, rfl, rfl, pt, G62, O69, R64, rfl⟩

end Go.Proofs.YthokmpbbkpjhbaaGreatDoor
