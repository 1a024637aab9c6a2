import Derived.Test.YtohpkblleihmaaaDoorMo
import Derived.Test.YtohpkblleihmaaaDoorProg
import Derived.Test.YtohpkblleihmaaaDoorMy
import Derived.Test.YtohpkblleihmaaaDoorMz
import Derived.Test.YtohpkblleihmaaaDoorA1
namespace Go.Proofs.YtohpkblleihmaaaDoor
open Go Go.Lt
set_option maxRecDepth 10000
set_option linter.unusedVariables false
attribute [local irreducible] W WL AC
def f_scalar_Replace (p0 : List Int) : Option (List Int) :=
  (rep 0 0).bind fun x_5 =>
  (rep (p0.length : Int) 0).bind fun y_5 =>
  (iter (σ := (List Int) × Int) (τ := (List Int)) (((p0.length : Int) - 0).toNat + 1) (fun s_12 =>
  if (decide (s_12.2 < (p0.length : Int))) = true then
  (idx p0 s_12.2).bind fun x_15 =>
  ((f_scalar_Valid x_15).bind fun x_21 =>
  if (!x_21) = true then
  (some (65533) : Option (Int))
  else
  (some (x_15) : Option (Int))).bind fun z_19 =>
  (app s_12.1 ([z_19] : List Int)).bind fun x_29 =>
  some (.inl (x_29, (w64 (s_12.2 + 1))))
  else
  some (.inr (s_12.1))) (x_5, 0)).bind fun o_12 =>
  some o_12
theorem c_scalar_Replace {c0 : Cx} {G : Gm} {F : List En} {v1 : Value} (O0 : Own c0 G F) (p0 : List Int) {r : List Int} (h2 : Sl (RI .i32) c0 v1 p0) (H : f_scalar_Replace p0 = some r) :
    Calls Tryd.prog 162 #[v1] c0.w (Post c0 fun c v => ∃ y1 : Value, ∃ y2 : List Value, Own c G (es true (RI .i32) y1 21 y2 r :: F) ∧ v = y1 ∧ OA (RI .i32) c y1 y2 r) := by
  unfold f_scalar_Replace at H
  refine enter (l := [v1]) Tryd.func162 rfl rfl rfl ?_
  refine sr ?_
  refine va (.slice none 0 0) ?_
  refine wln ?_
  refine sr ?_
  refine va (v1) ?_
  refine WL.val0 (v := .int .i64 (p0.length : Int)) rfl (rx (by kernel_rfl) (run_len (ty := 3) Tryd.underlying25 h2 _)) ?_
  obtain ⟨x_5, h3, H⟩ := bs H
  obtain ⟨y_5, h4, H⟩ := bs H
  refine WL.mem rfl (Own.mkS (kl := .i64) (kc := .i64) (R := (RI .i32)) (z := .int .i32 0) (lz := [.int .i32 0]) (x := 0) (by_ := 4) (i := 0) (j := (p0.length : Int)) true O0 (Nat.succ_pos _) h3 (rep_nn h4) (rep_le h4) Tryd.underlying25 (by kernel_rfl) rfl rfl (fun _ => rfl) (by kernel_rfl) (by kernel_rfl)) ?_
  rintro v9 c8 l8 ⟨u6, O5, h7⟩
  refine va (v9) ?_
  refine wln ?_
  refine W.seq ?_
  refine sr ?_
  refine va (v1) ?_
  refine WL.val0 (v := .int .i64 (p0.length : Int)) rfl (rx (by kernel_rfl) (run_len (ty := 3) Tryd.underlying25 (h2.mono l8) _)) ?_
  refine va (.int .i64 0) ?_
  refine wln ?_
  refine W.block ?_
  obtain ⟨o_12, h10, H11⟩ := bs H
  refine W.loop (σ := (List Int) × Int) (τ := (List Int)) (fun s_12 => fun e w => ∃ (c : Cx) (g : Nat → Value) (v12 : Value) (u13 : List Value), w = c.w ∧ c8.le c ∧ Own c G (es true (RI .i32) v12 21 u13 s_12.1 :: F) ∧ e = ups g [(3, v12), (9, v1), (10, .int .i64 (p0.length : Int)), (11, .int .i64 s_12.2)] ∧ OA (RI .i32) c v12 u13 s_12.1) (fun o_12_ ex e w => ex = .exit 0 ∧ (fun e w => ∃ (c : Cx) (g : Nat → Value) (v14 : Value) (u15 : List Value), w = c.w ∧ c8.le c ∧ Own c G (es true (RI .i32) v14 21 u15 o_12_ :: F) ∧ e = ups g [(3, v14)] ∧ OA (RI .i32) c v14 u15 o_12_) e w) ?_ h10 ?_ ?_
  · clear H11 h10
    intro s_12 xx_ ee_ ww_ H
    revert ee_ ww_
    rintro e_ w_ ⟨c16, g17, v12, u13, rfl, l16, O18, rfl, h19⟩
    refine sr ?_
    refine va (.bool (decide (s_12.2 < (p0.length : Int)))) ?_
    refine wln ?_
    refine W.seq ?_
    refine W.cond (t := decide (s_12.2 < (p0.length : Int))) (by kernel_rfl) (fun h23 => ?_) (fun h23 => ?_)
    · have H := it h23 H
      refine W.skip ?_
      refine nrm ?_
      refine W.seq ?_
      refine W.block ?_
      refine sr ?_
      obtain ⟨x_15, h24, H⟩ := bs H
      obtain ⟨l_25, h26, m27⟩ := Sl.at (h2.mono (l8.trans l16)) (idx_get h24)
      obtain rfl := h26
      refine WL.val0 (v := .pointer (some ⟨sb v1, so v1 + s_12.2.toNat * 1, none⟩)) rfl (rx (by kernel_rfl) (run_index (k := .i64) Tryd.underlying25 (by kernel_rfl) (h2.mono (l8.trans l16)) h24 _)) ?_
      refine WL.val0 (v := .int .i32 x_15) rfl (rx (by kernel_rfl) (run_load1 Tryd.underlying21 rfl (m27 0 _ rfl))) ?_
      refine va (.int .i32 x_15) ?_
      refine wln ?_
      obtain ⟨z_19, H28, H29⟩ := bs H
      refine W.seqJ (fun e w => ∃ (c : Cx) (g : Nat → Value), w = c.w ∧ c16.le c ∧ Own c G (es true (RI .i32) v12 21 u13 s_12.1 :: F) ∧ e = ups g [(3, v12), (5, .int .i32 z_19), (9, v1), (10, .int .i64 (p0.length : Int)), (11, .int .i64 s_12.2)]) ?_ ?_
      · skip
        refine sr ?_
        refine va (.int .i32 x_15) ?_
        obtain ⟨x_21, h30, H28⟩ := bs H28
        refine WL.callP rfl (by kernel_rfl) (c_scalar_Valid O18 x_15 h30) ?_
        rintro v36 c35 l35 ⟨O32, rfl⟩
        refine va (.bool (!x_21)) ?_
        refine wln ?_
        refine W.cond (t := !x_21) (by kernel_rfl) (fun h37 => ?_) (fun h37 => ?_)
        · have H28 := it h37 H28
          refine W.region ?_
          refine va (.int .i32 65533) ?_
          refine wln ?_
          obtain rfl := Option.some.inj H28
          exact ⟨c35, _, rfl, l35, O32, ups_self ⟨rfl, rfl, rfl, rfl, rfl, trivial⟩⟩
        · have H28 := ie h37 H28
          refine W.skip ?_
          refine nrm ?_
          obtain rfl := Option.some.inj H28
          exact ⟨c35, _, rfl, l35, O32, ups_self ⟨rfl, rfl, rfl, rfl, rfl, trivial⟩⟩
      · skip
        rintro e_ w_ ⟨c38, g39, rfl, l38, O40, rfl⟩
        refine W.region ?_
        refine va (v12) ?_
        refine va (.int .i32 z_19) ?_
        refine WL.mem rfl (Own.sl (R := (RI .i32)) (E := 21) (ls := [[.int .i32 z_19]]) (vs := [.int .i32 z_19]) (xs := ([z_19] : List Int)) true O40 (Nat.succ_pos _) rfl ⟨rfl, trivial⟩ (by kernel_rfl) (by kernel_rfl)) ?_
        rintro v48 c47 l47 ⟨u45, O44, h46⟩
        obtain ⟨c51, h52, l51, O49, h50⟩ := O44.frz 0 rfl h46
        refine WL.gh h52 ?_
        obtain ⟨x_29, h53, H29⟩ := bs H29
        refine WL.mem rfl (Own.app (R := (RI .i32)) (z := .int .i32 0) (by_ := 4) (ty := 25) 1 O49 rfl (h19.mono (l38.trans (l47.trans l51))) h50 h53 Tryd.underlying25 (by kernel_rfl) rfl (by kernel_rfl) (by kernel_rfl)) ?_
        rintro v58 c57 l57 ⟨u55, O54, h56⟩
        refine va (v58) ?_
        refine WL.nil ?_
        refine bkn ?_
        refine nrm ?_
        refine W.region ?_
        refine va (.int .i64 (w64 (s_12.2 + 1))) ?_
        refine va (.int .i64 (w64 (s_12.2 + 1))) ?_
        refine WL.nil ?_
        obtain rfl := Option.some.inj H29
        refine ⟨_, rfl, ?_⟩
        have O59 := O54.selD 2 [1] (by kernel_rfl) (by kernel_rfl)
        exact ⟨c57, _, v58, u55, rfl, (l16.trans (l38.trans (l47.trans (l51.trans l57)))), O59, ups_self ⟨rfl, rfl, rfl, rfl, trivial⟩, h56⟩
    · have H := ie h23 H
      refine W.exit ?_
      refine thx ?_
      obtain rfl := Option.some.inj H
      refine ⟨_, rfl, rfl, ?_⟩
      exact ⟨c16, _, v12, u13, rfl, l16, O18, ups_self ⟨rfl, trivial⟩, h19⟩
  · skip
    exact ⟨c8, _, v9, u6, rfl, (Cx.le.refl _), O5, ups_self ⟨rfl, rfl, rfl, rfl, trivial⟩, h7⟩
  · skip
    rintro _ e_ w_ ⟨rfl, c60, g61, v14, u15, rfl, l60, O62, rfl, h63⟩
    refine bke ?_
    refine nrm ?_
    refine sr ?_
    refine va (v14) ?_
    refine va (v14) ?_
    refine wln ?_
    refine W.ret ?_
    obtain rfl := Option.some.inj H11
    exact ret1 (v := v14) rfl (by kernel_rfl) ⟨_, c60, rfl, rfl, (l8.trans l60), v14, u15, O62, rfl, h63⟩

def f_cell_Of (p0 : Int) (p1 : List Int) : Option (List G_api_Cell) :=
  (if (decide (p0 ≥ 2)) = true then
  (app ([(⟨0, ([] : List Int)⟩ : G_api_Cell)] : List G_api_Cell) ([(⟨0, ([] : List Int)⟩ : G_api_Cell)] : List G_api_Cell)).bind fun x_14 =>
  (some (x_14) : Option ((List G_api_Cell)))
  else
  (some (([(⟨0, ([] : List Int)⟩ : G_api_Cell)] : List G_api_Cell)) : Option ((List G_api_Cell)))).bind fun z_7 =>
  if ((p1.length : Int) == 0) = true then
  some z_7
  else
  (slc p1 0 (imin (p1.length : Int) 16)).bind fun x_29 =>
  (f_scalar_Replace x_29).bind fun x_30 =>
  (idx z_7 0).bind fun x_32 =>
  (sets z_7 0 (⟨1, x_30⟩ : G_api_Cell)).bind fun w_33 =>
  (if (decide (p0 ≥ 2)) = true then
  (idx w_33 0).bind fun x_41 =>
  (sets w_33 0 (⟨2, x_41.Text⟩ : G_api_Cell)).bind fun w_43 =>
  (idx w_43 1).bind fun x_44 =>
  (sets w_43 1 (⟨3, x_44.Text⟩ : G_api_Cell)).bind fun w_46 =>
  (some (w_46) : Option ((List G_api_Cell)))
  else
  (some (w_33) : Option ((List G_api_Cell)))).bind fun z_35 =>
  some z_35
theorem c_cell_Of {c0 : Cx} {G : Gm} {F : List En} {v1 : Value} (O0 : Own c0 G F) (p0 : Int) (p1 : List Int) {r : List G_api_Cell} (h2 : Sl (RI .i32) c0 v1 p1) (H : f_cell_Of p0 p1 = some r) :
    Calls Tryd.prog 110 #[.int .i64 p0, v1] c0.w (Post c0 fun c v => ∃ y1 : Value, ∃ y2 : List Value, Own c G (es true R_api_Cell y1 27 y2 r :: F) ∧ v = y1 ∧ OA R_api_Cell c y1 y2 r) := by
  unfold f_cell_Of at H
  refine enter (l := [.int .i64 p0, v1]) Tryd.func110 rfl rfl rfl ?_
  refine sr ?_
  refine va (.slice none 0 0) ?_
  refine wln ?_
  refine sr ?_
  refine va (.agg #[.int .i64 0, .slice none 0 0]) ?_
  refine WL.mem rfl (Own.sl (R := R_api_Cell) (E := 27) (ls := [[.int .i64 0, .slice none 0 0]]) (vs := [.int .i64 0, .slice none 0 0]) (xs := ([(⟨0, ([] : List Int)⟩ : G_api_Cell)] : List G_api_Cell)) true O0 (Nat.succ_pos _) rfl ⟨⟨(.slice none 0 0), rfl, (Sl.nl _ _)⟩, trivial⟩ (by kernel_rfl) (by kernel_rfl)) ?_
  rintro v7 c6 l6 ⟨u4, O3, h5⟩
  refine va (v7) ?_
  refine wln ?_
  obtain ⟨z_7, H8, H9⟩ := bs H
  refine W.seqJ (fun e w => ∃ (c : Cx) (g : Nat → Value) (v10 : Value) (u11 : List Value), w = c.w ∧ c6.le c ∧ Own c G (es true R_api_Cell v10 27 u11 z_7 :: F) ∧ e = ups g [(0, .int .i64 p0), (1, v1), (5, v10)] ∧ OA R_api_Cell c v10 u11 z_7) ?_ ?_
  · skip
    refine sr ?_
    refine va (.int .i64 p0) ?_
    refine va (.bool (decide (p0 ≥ 2))) ?_
    refine wln ?_
    refine W.cond (t := decide (p0 ≥ 2)) (by kernel_rfl) (fun h12 => ?_) (fun h12 => ?_)
    · have H8 := it h12 H8
      refine W.region ?_
      refine va (v7) ?_
      refine va (.agg #[.int .i64 0, .slice none 0 0]) ?_
      refine WL.mem rfl (Own.sl (R := R_api_Cell) (E := 27) (ls := [[.int .i64 0, .slice none 0 0]]) (vs := [.int .i64 0, .slice none 0 0]) (xs := ([(⟨0, ([] : List Int)⟩ : G_api_Cell)] : List G_api_Cell)) true O3 (Nat.succ_pos _) rfl ⟨⟨(.slice none 0 0), rfl, (Sl.nl _ _)⟩, trivial⟩ (by kernel_rfl) (by kernel_rfl)) ?_
      rintro v17 c16 l16 ⟨u14, O13, h15⟩
      obtain ⟨c20, h21, l20, O18, h19⟩ := O13.frz 0 rfl h15
      refine WL.gh h21 ?_
      obtain ⟨x_14, h22, H8⟩ := bs H8
      refine WL.mem rfl (Own.app (R := R_api_Cell) (z := .agg #[.int .i64 0, .slice none 0 0]) (by_ := 32) (ty := 22) 1 O18 rfl (h5.mono (l16.trans l20)) h19 h22 Tryd.underlying22 (by kernel_rfl) rfl (by kernel_rfl) (by kernel_rfl)) ?_
      rintro v27 c26 l26 ⟨u24, O23, h25⟩
      refine va (v27) ?_
      refine wln ?_
      obtain rfl := Option.some.inj H8
      have O28 := O23.selD 2 [1] (by kernel_rfl) (by kernel_rfl)
      exact ⟨c26, _, v27, u24, rfl, (l16.trans (l20.trans l26)), O28, ups_self ⟨rfl, rfl, rfl, trivial⟩, h25⟩
    · have H8 := ie h12 H8
      refine W.skip ?_
      refine nrm ?_
      obtain rfl := Option.some.inj H8
      exact ⟨c6, _, v7, u4, rfl, (Cx.le.refl _), O3, ups_self ⟨rfl, rfl, rfl, trivial⟩, h5⟩
  · skip
    rintro e_ w_ ⟨c29, g30, v10, u11, rfl, l29, O31, rfl, h32⟩
    refine W.seq ?_
    refine sr ?_
    refine va (v1) ?_
    refine WL.val0 (v := .int .i64 (p1.length : Int)) rfl (rx (by kernel_rfl) (run_len (ty := 3) Tryd.underlying25 (h2.mono (l6.trans l29)) _)) ?_
    refine va (.bool ((p1.length : Int) == 0)) ?_
    refine wln ?_
    refine W.cond (t := (p1.length : Int) == 0) (by kernel_rfl) (fun h36 => ?_) (fun h36 => ?_)
    · have H9 := it h36 H9
      refine sr ?_
      refine va (v10) ?_
      refine va (v10) ?_
      refine wln ?_
      refine W.ret ?_
      refine thr ?_
      obtain rfl := Option.some.inj H9
      exact ret1 (v := v10) rfl (by kernel_rfl) ⟨_, c29, rfl, rfl, (l6.trans l29), v10, u11, O31, rfl, h32⟩
    · have H9 := ie h36 H9
      refine W.skip ?_
      refine nrm ?_
      refine sr ?_
      refine va (v10) ?_
      refine va (v1) ?_
      refine va (v1) ?_
      refine WL.val0 (v := .int .i64 (p1.length : Int)) rfl (rx (by kernel_rfl) (run_len (ty := 3) Tryd.underlying25 (h2.mono (l6.trans l29)) _)) ?_
      refine va (.int .i64 (imin (p1.length : Int) 16)) ?_
      obtain ⟨x_29, h37, H9⟩ := bs H9
      obtain ⟨v38, h39, h40⟩ := run_cutH (k' := .i64) Tryd.underlying25 (by kernel_rfl) (h2.mono (l6.trans l29)) h37
      refine WL.val0 (v := v38) rfl (rx (by kernel_rfl) (h39 _)) ?_
      obtain ⟨x_30, h41, H9⟩ := bs H9
      refine WL.callP rfl (by kernel_rfl) (c_scalar_Replace O31 x_29 h40 h41) ?_
      rintro v42 c49 l49 ⟨_, u43, O46, rfl, h44⟩
      obtain ⟨a51, a52, a53, rfl⟩ := (h44).form
      refine va (.agg #[.int .i64 1, .slice a51 a52 a53]) ?_
      obtain ⟨x_32, h54, H9⟩ := bs H9
      refine WL.val0 (v := .pointer (some ⟨sb v10, (0 : Int).toNat * 2, none⟩)) rfl (rx (by kernel_rfl) (run_indexO (k := .i64) Tryd.underlying22 (by kernel_rfl) (h32.mono l49) h54 _)) ?_
      obtain ⟨c57, h58, l57, O55, h56⟩ := O46.frz 0 rfl h44
      refine WL.gh h58 ?_
      obtain ⟨w_33, h59, H9⟩ := bs H9
      refine WL.memD rfl (Own.stW (R := R_api_Cell) (T := 27) (us := [.int .i64 1, .slice a51 a52 a53]) (x' := (⟨1, x_30⟩ : G_api_Cell)) (u := .agg #[.int .i64 1, .slice a51 a52 a53]) 1 O55 (by kernel_rfl) rfl (h32.mono (l49.trans l57)) h59 rfl (by kernel_rfl) ⟨rfl, h56.one, trivial⟩ rfl ⟨(.slice a51 a52 a53), rfl, h56⟩) ?_
      rintro c63 l63 ⟨u61, O60, h62⟩
      refine wln ?_
      obtain ⟨z_35, H64, H65⟩ := bs H9
      refine W.seqJ (fun e w => ∃ (c : Cx) (g : Nat → Value) (v66 : Value) (u67 : List Value), w = c.w ∧ c63.le c ∧ Own c G (es true R_api_Cell v66 27 u67 z_35 :: es false (RI .i32) (.slice a51 a52 a53) 21 u43 x_30 :: F) ∧ e = ups g [(5, v66)] ∧ OA R_api_Cell c v66 u67 z_35) ?_ ?_
      · skip
        refine sr ?_
        refine va (.int .i64 p0) ?_
        refine va (.bool (decide (p0 ≥ 2))) ?_
        refine wln ?_
        refine W.cond (t := decide (p0 ≥ 2)) (by kernel_rfl) (fun h68 => ?_) (fun h68 => ?_)
        · have H64 := it h68 H64
          refine W.region ?_
          refine va (v10) ?_
          refine va (v10) ?_
          obtain ⟨x_41, h69, H64⟩ := bs H64
          refine WL.val0 (v := .pointer (some ⟨sb v10, (0 : Int).toNat * 2, none⟩)) rfl (rx (by kernel_rfl) (run_indexO (k := .i64) Tryd.underlying22 (by kernel_rfl) h62 h69 _)) ?_
          refine va (.pointer (some ⟨sb v10, (0 : Int).toNat * 2, none⟩)) ?_
          obtain ⟨l_70, h71, m72⟩ := OA.at h62 h69
          obtain ⟨v73, rfl, h74⟩ := h71
          obtain ⟨w_43, h75, H64⟩ := bs H64
          refine WL.memD rfl (Own.stO (R := R_api_Cell) (T := 3) (us := [.int .i64 2]) (x' := (⟨2, x_41.Text⟩ : G_api_Cell)) (u := .int .i64 2) (x := (⟨2, x_41.Text⟩ : G_api_Cell)) (j := 0) (l' := [.int .i64 2, v73]) 1 O60 (by kernel_rfl) rfl h62 h75 m72 rfl (by kernel_rfl) ⟨rfl, trivial⟩ (by kernel_rfl) rfl ⟨v73, rfl, h74⟩) ?_
          rintro c79 l79 ⟨u77, O76, h78⟩
          obtain ⟨x_44, h80, H64⟩ := bs H64
          refine WL.val0 (v := .pointer (some ⟨sb v10, (1 : Int).toNat * 2, none⟩)) rfl (rx (by kernel_rfl) (run_indexO (k := .i64) Tryd.underlying22 (by kernel_rfl) h78 h80 _)) ?_
          refine va (.pointer (some ⟨sb v10, (1 : Int).toNat * 2, none⟩)) ?_
          obtain ⟨l_81, h82, m83⟩ := OA.at h78 h80
          obtain ⟨v84, rfl, h85⟩ := h82
          obtain ⟨w_46, h86, H64⟩ := bs H64
          refine WL.memD rfl (Own.stO (R := R_api_Cell) (T := 3) (us := [.int .i64 3]) (x' := (⟨3, x_44.Text⟩ : G_api_Cell)) (u := .int .i64 3) (x := (⟨3, x_44.Text⟩ : G_api_Cell)) (j := 0) (l' := [.int .i64 3, v84]) 1 O76 (by kernel_rfl) rfl h78 h86 m83 rfl (by kernel_rfl) ⟨rfl, trivial⟩ (by kernel_rfl) rfl ⟨v84, rfl, h85⟩) ?_
          rintro c90 l90 ⟨u88, O87, h89⟩
          refine wln ?_
          obtain rfl := Option.some.inj H64
          have O91 := O87.selD 2 [1, 0] (by kernel_rfl) (by kernel_rfl)
          exact ⟨c90, _, v10, u88, rfl, (l79.trans l90), O91, ups_self ⟨rfl, trivial⟩, h89⟩
        · have H64 := ie h68 H64
          refine W.skip ?_
          refine nrm ?_
          obtain rfl := Option.some.inj H64
          have O92 := O60.selD 2 [1, 0] (by kernel_rfl) (by kernel_rfl)
          exact ⟨c63, _, v10, u61, rfl, (Cx.le.refl _), O92, ups_self ⟨rfl, trivial⟩, h62⟩
      · skip
        rintro e_ w_ ⟨c93, g94, v66, u67, rfl, l93, O95, rfl, h96⟩
        refine sr ?_
        refine va (v66) ?_
        refine va (v66) ?_
        refine wln ?_
        refine W.ret ?_
        obtain rfl := Option.some.inj H65
        have O100 := O95.selD 2 [0] (by kernel_rfl) (by kernel_rfl)
        exact ret1 (v := v66) rfl (by kernel_rfl) ⟨_, c93, rfl, rfl, (l6.trans (l29.trans (l49.trans (l57.trans (l63.trans l93))))), v66, u67, O100, rfl, h96⟩

def f_mark_Put (sg : Sto) (p0 : Option Nat) (p1 : Int) (p2 : Int) (p3 : List Int) : Option (Sto × Er) :=
  (f_cell_Of p2 p3).bind fun x_7 =>
  (f_row_Row_Paint sg p0 p1 x_7).bind fun x_8 =>
  some (x_8.1, x_8.2)
theorem c_mark_Put {c0 : Cx} {G : Gm} {F : List En} {sg : Sto} {v1 : Value} {v3 : Value} (O0 : Own c0 G F) (R0 : Rel c0 sg G) (hG : Gl [0, 1] c0) (p0 : Option Nat) (p1 : Int) (p2 : Int) (p3 : List Int) {r : Sto × Er} (h2 : Pt 0 c0 v1 p0) (h4 : Sl (RI .i32) c0 v3 p3) (H : f_mark_Put sg p0 p1 p2 p3 = some r) :
    Calls Tryd.prog 42 #[v1, .int .i64 p1, .int .i64 p2, v3] c0.w (Post c0 fun c v => ∃ y1 : Value, ∃ G_ : Gm, Own c G_ (F) ∧ Rel c r.1 G_ ∧ v = y1 ∧ RE 252 217 c y1 r.2) := by
  unfold f_mark_Put at H
  refine enter (l := [v1, .int .i64 p1, .int .i64 p2, v3]) Tryd.func42 rfl rfl rfl ?_
  refine sr ?_
  refine va (.nilIface) ?_
  refine wln ?_
  refine sr ?_
  refine va (v1) ?_
  refine va (.int .i64 p1) ?_
  refine va (.int .i64 p2) ?_
  refine va (v3) ?_
  obtain ⟨x_7, h5, H⟩ := bs H
  refine WL.callP rfl (by kernel_rfl) (c_cell_Of O0 p2 p3 h4 h5) ?_
  rintro v6 c13 l13 ⟨_, u7, O10, rfl, h8⟩
  obtain ⟨c17, h18, l17, O15, h16⟩ := O10.frz 0 rfl h8
  refine WL.gh h18 ?_
  obtain ⟨x_8, h19, H⟩ := bs H
  refine WL.callP rfl (by kernel_rfl) (c_row_Row_Paint O15 (R0.mono (l13.trans l17)) ((hG.mono (l13.trans l17)).le (by decide)) p0 p1 x_7 (h2.mono (l13.trans l17)) h16 h19) ?_
  rintro v20 c26 l26 ⟨_, G22, O23, R24, rfl, h21⟩
  refine va (v20) ?_
  refine wln ?_
  refine W.ret ?_
  obtain rfl := Option.some.inj H
  have O28 := O23.selD 1 [] (by kernel_rfl) (by kernel_rfl)
  exact ret1 (v := v20) rfl (by kernel_rfl) ⟨_, c26, rfl, rfl, (l13.trans (l17.trans l26)), v20, G22, O28, R24, rfl, h21⟩

def f_mark_At (sg : Sto) (p0 : Option Nat) (p1 : Int) : Option (Int × G_api_Item × Bool) :=
  (f_row_Row_Cell sg p0 p1).bind fun x_7 =>
  ((andE x_7.2 (some (x_7.1.Kind == 3))).bind fun d_17 =>
  if d_17 = true then
  (f_row_Row_Cell sg p0 (w64 (p1 - 1))).bind fun x_29 =>
  (some ((w64 (p1 - 1)), x_29.2, x_29.1.Kind, x_29.1.Text) : Option (Int × Bool × Int × (List Int)))
  else
  (some (p1, x_7.2, x_7.1.Kind, x_7.1.Text) : Option (Int × Bool × Int × (List Int)))).bind fun z_15 =>
  (andE z_15.2.1 (some (z_15.2.2.1 == 1))).bind fun d_37 =>
  if d_37 = true then
  some (z_15.1, (⟨1, z_15.2.2.2⟩ : G_api_Item), true)
  else
  (andE z_15.2.1 (some (z_15.2.2.1 == 2))).bind fun d_53 =>
  if d_53 = true then
  some (z_15.1, (⟨2, z_15.2.2.2⟩ : G_api_Item), true)
  else
  some (0, (⟨0, ([] : List Int)⟩ : G_api_Item), false)
theorem c_mark_At {c0 : Cx} {G : Gm} {F : List En} {sg : Sto} {v1 : Value} (O0 : Own c0 G F) (R0 : Rel c0 sg G) (p0 : Option Nat) (p1 : Int) {r : Int × G_api_Item × Bool} (h2 : Pt 0 c0 v1 p0) (H : f_mark_At sg p0 p1 = some r) :
    Calls Tryd.prog 111 #[v1, .int .i64 p1] c0.w (Post c0 fun c v => ∃ y1 : Value, ∃ y2 : List Value, Own c G (es true (RI .i32) y1 21 y2 r.2.1.Text :: F) ∧ v = .tuple #[.int .i64 r.1, .agg #[.int .i64 r.2.1.Wide, y1], .bool r.2.2] ∧ OA (RI .i32) c y1 y2 r.2.1.Text) := by
  unfold f_mark_At at H
  refine enter (l := [v1, .int .i64 p1]) Tryd.func111 rfl rfl rfl ?_
  refine sr ?_
  refine va (.int .i64 0) ?_
  refine WL.mem rfl (Own.al (T := 95) (vs := [.int .i64 0, .slice none 0 0]) O0 (by kernel_rfl)) ?_
  rintro v6 c5 l5 ⟨b3, rfl, O4⟩
  refine va (.bool false) ?_
  refine wln ?_
  refine sr ?_
  refine va (v1) ?_
  refine va (.int .i64 p1) ?_
  obtain ⟨x_7, h7, H⟩ := bs H
  refine WL.callP rfl (by kernel_rfl) (c_row_Row_Cell O4 (R0.mono l5) p0 p1 (h2.mono l5) h7) ?_
  rintro v16 c15 l15 ⟨v8, u9, O12, rfl, h10⟩
  refine va (.tuple #[.agg #[.int .i64 x_7.1.Kind, v8], .bool x_7.2]) ?_
  refine va (.agg #[.int .i64 x_7.1.Kind, v8]) ?_
  refine va (.bool x_7.2) ?_
  refine WL.mem rfl (Own.al (T := 27) (vs := [.int .i64 0, .slice none 0 0]) O12 (by kernel_rfl)) ?_
  rintro v20 c19 l19 ⟨b17, rfl, O18⟩
  obtain ⟨a21, a22, a23, rfl⟩ := ((h10.mono l19)).form
  refine WL.memD rfl (Own.st (T := 27) (j := 0) (us := [.int .i64 x_7.1.Kind, .slice a21 a22 a23]) (nw := [.int .i64 x_7.1.Kind, .slice a21 a22 a23]) (v := .agg #[.int .i64 x_7.1.Kind, .slice a21 a22 a23]) 0 O18 (by kernel_rfl) rfl rfl rfl rfl (by kernel_rfl) ⟨rfl, ((h10.mono l19)).one, trivial⟩ rfl rfl) ?_
  rintro c25 l25 O24
  refine va (.bool x_7.2) ?_
  refine wln ?_
  obtain ⟨z_15, H26, H27⟩ := bs H
  refine W.seqJ (fun e w => ∃ (c : Cx) (g : Nat → Value) (v28 : Value) (u29 : List Value), w = c.w ∧ c25.le c ∧ Own c G (es true (RI .i32) v28 21 u29 z_15.2.2.2 :: ⟨.pointer (some ⟨b17, 0, none⟩), 27, [.int .i64 z_15.2.2.1, v28], 0⟩ :: ⟨.pointer (some ⟨b3, 0, none⟩), 95, [.int .i64 0, .slice none 0 0], 0⟩ :: F) ∧ e = ups g [(1, .int .i64 z_15.1), (5, .pointer (some ⟨b3, 0, none⟩)), (6, .bool z_15.2.1), (7, .pointer (some ⟨b17, 0, none⟩))] ∧ OA (RI .i32) c v28 u29 z_15.2.2.2) ?_ ?_
  · skip
    refine W.seq ?_
    obtain ⟨d_17, h30, H26⟩ := bs H26
    refine W.join (fun e w => ∃ (c : Cx) (g : Nat → Value), w = c.w ∧ c25.le c ∧ Own c G (⟨.pointer (some ⟨b17, 0, none⟩), 27, [.int .i64 x_7.1.Kind, .slice a21 a22 a23], 0⟩ :: es true (RI .i32) (.slice a21 a22 a23) 21 u9 x_7.1.Text :: ⟨.pointer (some ⟨b3, 0, none⟩), 95, [.int .i64 0, .slice none 0 0], 0⟩ :: F) ∧ e = ups g [(0, v1), (1, .int .i64 p1), (5, .pointer (some ⟨b3, 0, none⟩)), (6, .bool x_7.2), (7, .pointer (some ⟨b17, 0, none⟩)), (19, .bool d_17)]) ?_ ?_
    · clear H26
      refine W.region ?_
      refine va (.bool x_7.2) ?_
      rcases Bool.eq_false_or_eq_true (x_7.2) with h31 | h31
      · skip
        have H32 := anT h31 h30
        refine vb h31 ?_
        refine wn ?_
        refine va (.pointer (some ⟨b17, 0, none⟩)) ?_
        refine wn ?_
        refine WL.val0 (v := .int .i64 x_7.1.Kind) rfl (rx (by kernel_rfl) (ldE1 (j := 0) Tryd.underlying3 rfl (O24.on 0 rfl) rfl rfl)) ?_
        refine wn ?_
        refine va (.bool (x_7.1.Kind == 3)) ?_
        obtain rfl := Option.some.inj H32
        refine va (.bool (x_7.1.Kind == 3)) ?_
        refine wln ?_
        exact ⟨c25, _, rfl, (Cx.le.refl _), O24, ups_self ⟨rfl, rfl, rfl, rfl, rfl, rfl, trivial⟩⟩
      · skip
        obtain rfl := anF h31 h30
        refine vb h31 ?_
        refine ps ?_
        refine ps ?_
        refine ps ?_
        refine va (.bool false) ?_
        refine wln ?_
        exact ⟨c25, _, rfl, (Cx.le.refl _), O24, ups_self ⟨rfl, rfl, rfl, rfl, rfl, rfl, trivial⟩⟩
    · skip
      rintro e_ w_ ⟨c33, g34, rfl, l33, O35, rfl⟩
      refine nrm ?_
      refine W.cond (t := d_17) (by kernel_rfl) (fun h39 => ?_) (fun h39 => ?_)
      · have H26 := it h39 H26
        refine sr ?_
        refine va (.int .i64 p1) ?_
        refine va (.int .i64 (w64 (p1 - 1))) ?_
        refine va (.int .i64 (w64 (p1 - 1))) ?_
        refine wln ?_
        refine W.region ?_
        refine va (v1) ?_
        refine va (.int .i64 (w64 (p1 - 1))) ?_
        obtain ⟨x_29, h40, H26⟩ := bs H26
        refine WL.callP rfl (by kernel_rfl) (c_row_Row_Cell O35 (R0.mono (l5.trans (l15.trans (l19.trans (l25.trans l33))))) p0 (w64 (p1 - 1)) (h2.mono (l5.trans (l15.trans (l19.trans (l25.trans l33))))) h40) ?_
        rintro v49 c48 l48 ⟨v41, u42, O45, rfl, h43⟩
        refine va (.tuple #[.agg #[.int .i64 x_29.1.Kind, v41], .bool x_29.2]) ?_
        refine va (.agg #[.int .i64 x_29.1.Kind, v41]) ?_
        refine va (.bool x_29.2) ?_
        obtain ⟨a50, a51, a52, rfl⟩ := (h43).form
        refine WL.memD rfl (Own.st (T := 27) (j := 0) (us := [.int .i64 x_29.1.Kind, .slice a50 a51 a52]) (nw := [.int .i64 x_29.1.Kind, .slice a50 a51 a52]) (v := .agg #[.int .i64 x_29.1.Kind, .slice a50 a51 a52]) 1 O45 (by kernel_rfl) rfl rfl rfl rfl (by kernel_rfl) ⟨rfl, (h43).one, trivial⟩ rfl rfl) ?_
        rintro c54 l54 O53
        refine va (.bool x_29.2) ?_
        refine wln ?_
        obtain rfl := Option.some.inj H26
        have O55 := O53.selD 4 [0, 1, 3] (by kernel_rfl) (by kernel_rfl)
        exact ⟨c54, _, (.slice a50 a51 a52), u42, rfl, (l33.trans (l48.trans l54)), O55, ups_self ⟨rfl, rfl, rfl, rfl, trivial⟩, (h43.mono l54)⟩
      · have H26 := ie h39 H26
        refine W.skip ?_
        refine nrm ?_
        obtain rfl := Option.some.inj H26
        have O56 := O35.selD 3 [1, 0, 2] (by kernel_rfl) (by kernel_rfl)
        exact ⟨c33, _, (.slice a21 a22 a23), u9, rfl, l33, O56, ups_self ⟨rfl, rfl, rfl, rfl, trivial⟩, (h10.mono (l19.trans (l25.trans l33)))⟩
  · skip
    rintro e_ w_ ⟨c57, g58, v28, u29, rfl, l57, O59, rfl, h60⟩
    refine W.seq ?_
    refine W.block ?_
    refine W.seq ?_
    obtain ⟨d_37, h64, H27⟩ := bs H27
    refine W.join (fun e w => ∃ (c : Cx) (g : Nat → Value), w = c.w ∧ c57.le c ∧ Own c G (es true (RI .i32) v28 21 u29 z_15.2.2.2 :: ⟨.pointer (some ⟨b17, 0, none⟩), 27, [.int .i64 z_15.2.2.1, v28], 0⟩ :: ⟨.pointer (some ⟨b3, 0, none⟩), 95, [.int .i64 0, .slice none 0 0], 0⟩ :: F) ∧ e = ups g [(1, .int .i64 z_15.1), (5, .pointer (some ⟨b3, 0, none⟩)), (6, .bool z_15.2.1), (7, .pointer (some ⟨b17, 0, none⟩)), (28, .bool d_37)]) ?_ ?_
    · clear H27
      refine W.region ?_
      refine va (.bool z_15.2.1) ?_
      rcases Bool.eq_false_or_eq_true (z_15.2.1) with h65 | h65
      · skip
        have H66 := anT h65 h64
        refine vb h65 ?_
        refine wn ?_
        refine va (.pointer (some ⟨b17, 0, none⟩)) ?_
        refine wn ?_
        refine WL.val0 (v := .int .i64 z_15.2.2.1) rfl (rx (by kernel_rfl) (ldE1 (j := 0) Tryd.underlying3 rfl (O59.on 1 rfl) rfl rfl)) ?_
        refine wn ?_
        refine va (.bool (z_15.2.2.1 == 1)) ?_
        obtain rfl := Option.some.inj H66
        refine va (.bool (z_15.2.2.1 == 1)) ?_
        refine va (.bool (z_15.2.2.1 == 1)) ?_
        refine wln ?_
        exact ⟨c57, _, rfl, (Cx.le.refl _), O59, ups_self ⟨rfl, rfl, rfl, rfl, rfl, trivial⟩⟩
      · skip
        obtain rfl := anF h65 h64
        refine vb h65 ?_
        refine ps ?_
        refine ps ?_
        refine ps ?_
        refine va (.bool false) ?_
        refine va (.bool false) ?_
        refine wln ?_
        exact ⟨c57, _, rfl, (Cx.le.refl _), O59, ups_self ⟨rfl, rfl, rfl, rfl, rfl, trivial⟩⟩
    · skip
      rintro e_ w_ ⟨c67, g68, rfl, l67, O69, rfl⟩
      refine nrm ?_
      refine W.cond (t := d_37) (by kernel_rfl) (fun h73 => ?_) (fun h73 => ?_)
      · have H27 := it h73 H27
        refine W.seq ?_
        refine W.regionD [] (Kp G0 [⟨.pointer (some ⟨b17, 0, none⟩), 27, [.int .i64 z_15.2.2.1, v28], 0⟩]) O69 (by kernel_rfl) ?_
        intro c74 l74 O75
        have p76 : Kp G0 [⟨.pointer (some ⟨b17, 0, none⟩), 27, [.int .i64 z_15.2.2.1, v28], 0⟩] c74 := (Kp.cons (O75.on 1 rfl) Kp.nil0)
        refine ta 0 (.int .i64 z_15.1) ?_
        refine ta 1 (.pointer (some ⟨b17, 1, none⟩)) ?_
        refine AC.takeK 2 (v28) p76 rfl (by kernel_rfl) (by kernel_rfl) (by kernel_rfl) (fun c' hle hk => (rx (by kernel_rfl) (ldE1 (j := 1) Tryd.underlying25 rfl (hk.on 0 rfl) rfl rfl))) ?_
        obtain ⟨a77, a78, a79, rfl⟩ := ((h60.mono (l67.trans l74))).form
        refine ta 3 (.agg #[.int .i64 1, .slice a77 a78 a79]) ?_
        refine ta 4 (.int .i64 z_15.1) ?_
        refine AC.one 5 (by kernel_rfl) (Go1.memD 5 rfl (by kernel_rfl) (by kernel_rfl) (Own.st (T := 95) (j := 0) (us := [.int .i64 1, .slice a77 a78 a79]) (nw := [.int .i64 1, .slice a77 a78 a79]) (v := .agg #[.int .i64 1, .slice a77 a78 a79]) 2 O75 (by kernel_rfl) rfl rfl rfl rfl (by kernel_rfl) ⟨rfl, ((h60.mono (l67.trans l74))).one, trivial⟩ rfl rfl) ?_)
        rintro c81 l81 O80
        have p82 : Kp G0 [⟨.pointer (some ⟨b17, 0, none⟩), 27, [.int .i64 z_15.2.2.1, (.slice a77 a78 a79)], 0⟩] c81 := (Kp.cons (O80.on 1 rfl) Kp.nil0)
        refine ⟨.inr p82, ?_⟩
        refine ta 6 (.bool true) ?_
        refine AC.done (by kernel_rfl) ?_
        refine nrm ?_
        refine W.ret ?_
        refine bkr ?_
        refine thr ?_
        obtain rfl := Option.some.inj H27
        have O83 := O80.selD 3 [0] (by kernel_rfl) (by kernel_rfl)
        exact retTCT (c := c81) (vs := [.int .i64 1, .slice a77 a78 a79]) (v := .bool true) (v' := .int .i64 z_15.1) rfl (by kernel_rfl) (by kernel_rfl) (by kernel_rfl) (by kernel_rfl) (by kernel_rfl) (O80.on 2 rfl _ rfl).1 ⟨_, c81, rfl, rfl, (l5.trans (l15.trans (l19.trans (l25.trans (l57.trans (l67.trans (l74.trans l81))))))), (.slice a77 a78 a79), u29, O83, rfl, (h60.mono (l67.trans (l74.trans l81)))⟩
      · have H27 := ie h73 H27
        refine W.seq ?_
        obtain ⟨d_53, h84, H27⟩ := bs H27
        refine W.join (fun e w => ∃ (c : Cx) (g : Nat → Value), w = c.w ∧ c67.le c ∧ Own c G (es true (RI .i32) v28 21 u29 z_15.2.2.2 :: ⟨.pointer (some ⟨b17, 0, none⟩), 27, [.int .i64 z_15.2.2.1, v28], 0⟩ :: ⟨.pointer (some ⟨b3, 0, none⟩), 95, [.int .i64 0, .slice none 0 0], 0⟩ :: F) ∧ e = ups g [(1, .int .i64 z_15.1), (5, .pointer (some ⟨b3, 0, none⟩)), (7, .pointer (some ⟨b17, 0, none⟩)), (39, .bool d_53)]) ?_ ?_
        · clear H27
          refine W.region ?_
          refine va (.bool z_15.2.1) ?_
          rcases Bool.eq_false_or_eq_true (z_15.2.1) with h85 | h85
          · skip
            have H86 := anT h85 h84
            refine vb h85 ?_
            refine wn ?_
            refine va (.pointer (some ⟨b17, 0, none⟩)) ?_
            refine wn ?_
            refine WL.val0 (v := .int .i64 z_15.2.2.1) rfl (rx (by kernel_rfl) (ldE1 (j := 0) Tryd.underlying3 rfl (O69.on 1 rfl) rfl rfl)) ?_
            refine wn ?_
            refine va (.bool (z_15.2.2.1 == 2)) ?_
            obtain rfl := Option.some.inj H86
            refine va (.bool (z_15.2.2.1 == 2)) ?_
            refine va (.bool (z_15.2.2.1 == 2)) ?_
            refine wln ?_
            exact ⟨c67, _, rfl, (Cx.le.refl _), O69, ups_self ⟨rfl, rfl, rfl, rfl, trivial⟩⟩
          · skip
            obtain rfl := anF h85 h84
            refine vb h85 ?_
            refine ps ?_
            refine ps ?_
            refine ps ?_
            refine va (.bool false) ?_
            refine va (.bool false) ?_
            refine wln ?_
            exact ⟨c67, _, rfl, (Cx.le.refl _), O69, ups_self ⟨rfl, rfl, rfl, rfl, trivial⟩⟩
        · skip
          rintro e_ w_ ⟨c87, g88, rfl, l87, O89, rfl⟩
          refine nrm ?_
          refine W.cond (t := d_53) (by kernel_rfl) (fun h93 => ?_) (fun h93 => ?_)
          · have H27 := it h93 H27
            refine W.seq ?_
            refine W.regionD [] (Kp G0 [⟨.pointer (some ⟨b17, 0, none⟩), 27, [.int .i64 z_15.2.2.1, v28], 0⟩]) O89 (by kernel_rfl) ?_
            intro c94 l94 O95
            have p96 : Kp G0 [⟨.pointer (some ⟨b17, 0, none⟩), 27, [.int .i64 z_15.2.2.1, v28], 0⟩] c94 := (Kp.cons (O95.on 1 rfl) Kp.nil0)
            refine ta 0 (.int .i64 z_15.1) ?_
            refine ta 1 (.pointer (some ⟨b17, 1, none⟩)) ?_
            refine AC.takeK 2 (v28) p96 rfl (by kernel_rfl) (by kernel_rfl) (by kernel_rfl) (fun c' hle hk => (rx (by kernel_rfl) (ldE1 (j := 1) Tryd.underlying25 rfl (hk.on 0 rfl) rfl rfl))) ?_
            obtain ⟨a97, a98, a99, rfl⟩ := ((h60.mono (l67.trans (l87.trans l94)))).form
            refine ta 3 (.agg #[.int .i64 2, .slice a97 a98 a99]) ?_
            refine ta 4 (.int .i64 z_15.1) ?_
            refine AC.one 5 (by kernel_rfl) (Go1.memD 5 rfl (by kernel_rfl) (by kernel_rfl) (Own.st (T := 95) (j := 0) (us := [.int .i64 2, .slice a97 a98 a99]) (nw := [.int .i64 2, .slice a97 a98 a99]) (v := .agg #[.int .i64 2, .slice a97 a98 a99]) 2 O95 (by kernel_rfl) rfl rfl rfl rfl (by kernel_rfl) ⟨rfl, ((h60.mono (l67.trans (l87.trans l94)))).one, trivial⟩ rfl rfl) ?_)
            rintro c101 l101 O100
            have p102 : Kp G0 [⟨.pointer (some ⟨b17, 0, none⟩), 27, [.int .i64 z_15.2.2.1, (.slice a97 a98 a99)], 0⟩] c101 := (Kp.cons (O100.on 1 rfl) Kp.nil0)
            refine ⟨.inr p102, ?_⟩
            refine ta 6 (.bool true) ?_
            refine AC.done (by kernel_rfl) ?_
            refine nrm ?_
            refine W.ret ?_
            refine bkr ?_
            refine thr ?_
            obtain rfl := Option.some.inj H27
            have O103 := O100.selD 3 [0] (by kernel_rfl) (by kernel_rfl)
            exact retTCT (c := c101) (vs := [.int .i64 2, .slice a97 a98 a99]) (v := .bool true) (v' := .int .i64 z_15.1) rfl (by kernel_rfl) (by kernel_rfl) (by kernel_rfl) (by kernel_rfl) (by kernel_rfl) (O100.on 2 rfl _ rfl).1 ⟨_, c101, rfl, rfl, (l5.trans (l15.trans (l19.trans (l25.trans (l57.trans (l67.trans (l87.trans (l94.trans l101)))))))), (.slice a97 a98 a99), u29, O103, rfl, (h60.mono (l67.trans (l87.trans (l94.trans l101))))⟩
          · have H27 := ie h93 H27
            refine W.skip ?_
            refine bkn ?_
            refine nrm ?_
            refine sr ?_
            refine va (.agg #[.int .i64 0, .slice none 0 0]) ?_
            refine va (.int .i64 0) ?_
            refine WL.memD rfl (Own.st (T := 95) (j := 0) (us := [.int .i64 0, .slice none 0 0]) (nw := [.int .i64 0, .slice none 0 0]) (v := .agg #[.int .i64 0, .slice none 0 0]) 2 O89 (by kernel_rfl) rfl rfl rfl rfl (by kernel_rfl) ⟨rfl, rfl, trivial⟩ rfl rfl) ?_
            rintro c105 l105 O104
            refine va (.bool false) ?_
            refine wln ?_
            refine W.ret ?_
            obtain rfl := Option.some.inj H27
            have h107 : OA (RI .i32) c105 (.slice none 0 0) [] [] := OA.nil (Nat.succ_pos _)
            have O106 := O104.addHole (e := es true (RI .i32) (.slice none 0 0) 21 [] ([] : List Int)) rfl
            have O108 := O106.selD 4 [0] (by kernel_rfl) (by kernel_rfl)
            exact retTCT (c := c105) (vs := [.int .i64 0, .slice none 0 0]) (v := .bool false) (v' := .int .i64 0) rfl (by kernel_rfl) (by kernel_rfl) (by kernel_rfl) (by kernel_rfl) (by kernel_rfl) (O106.on 3 rfl _ rfl).1 ⟨_, c105, rfl, rfl, (l5.trans (l15.trans (l19.trans (l25.trans (l57.trans (l67.trans (l87.trans l105))))))), (.slice none 0 0), [], O108, rfl, h107⟩

def f_mark_Add (sg : Sto) (p0 : Option Nat) (p1 : Int) (p2 : Int) : Option (Sto × Bool) :=
  (f_mark_At sg p0 p1).bind fun x_5 =>
  (orE (!x_5.2.2) (some (decide ((x_5.2.1.Text.length : Int) ≥ 16)))).bind fun d_17 =>
  if d_17 = true then
  some (sg, false)
  else
  (app x_5.2.1.Text ([p2] : List Int)).bind fun x_34 =>
  (f_mark_Put sg p0 x_5.1 x_5.2.1.Wide x_34).bind fun x_35 =>
  some (x_35.1, x_35.2.isNil)
theorem c_mark_Add {c0 : Cx} {G : Gm} {F : List En} {sg : Sto} {v1 : Value} (O0 : Own c0 G F) (R0 : Rel c0 sg G) (hG : Gl [0, 1] c0) (p0 : Option Nat) (p1 : Int) (p2 : Int) {r : Sto × Bool} (h2 : Pt 0 c0 v1 p0) (H : f_mark_Add sg p0 p1 p2 = some r) :
    Calls Tryd.prog 53 #[v1, .int .i64 p1, .int .i32 p2] c0.w (Post c0 fun c v => ∃ G_ : Gm, Own c G_ (F) ∧ Rel c r.1 G_ ∧ v = .bool r.2) := by
  unfold f_mark_Add at H
  refine enter (l := [v1, .int .i64 p1, .int .i32 p2]) Tryd.func53 rfl rfl rfl ?_
  refine sr ?_
  refine va (.bool false) ?_
  refine wln ?_
  refine sr ?_
  refine va (v1) ?_
  refine va (.int .i64 p1) ?_
  obtain ⟨x_5, h3, H⟩ := bs H
  refine WL.callP rfl (by kernel_rfl) (c_mark_At O0 R0 p0 p1 h2 h3) ?_
  rintro v12 c11 l11 ⟨v4, u5, O8, rfl, h6⟩
  refine va (.tuple #[.int .i64 x_5.1, .agg #[.int .i64 x_5.2.1.Wide, v4], .bool x_5.2.2]) ?_
  refine va (.int .i64 x_5.1) ?_
  refine va (.agg #[.int .i64 x_5.2.1.Wide, v4]) ?_
  refine va (.bool x_5.2.2) ?_
  refine WL.mem rfl (Own.al (T := 95) (vs := [.int .i64 0, .slice none 0 0]) O8 (by kernel_rfl)) ?_
  rintro v16 c15 l15 ⟨b13, rfl, O14⟩
  refine va (.int .i64 x_5.1) ?_
  obtain ⟨a17, a18, a19, rfl⟩ := ((h6.mono l15)).form
  refine WL.memD rfl (Own.st (T := 95) (j := 0) (us := [.int .i64 x_5.2.1.Wide, .slice a17 a18 a19]) (nw := [.int .i64 x_5.2.1.Wide, .slice a17 a18 a19]) (v := .agg #[.int .i64 x_5.2.1.Wide, .slice a17 a18 a19]) 0 O14 (by kernel_rfl) rfl rfl rfl rfl (by kernel_rfl) ⟨rfl, ((h6.mono l15)).one, trivial⟩ rfl rfl) ?_
  rintro c21 l21 O20
  refine va (.bool x_5.2.2) ?_
  refine wln ?_
  refine W.seq ?_
  refine W.seq ?_
  obtain ⟨d_17, h22, H⟩ := bs H
  refine W.join (fun e w => ∃ (c : Cx) (g : Nat → Value), w = c.w ∧ c21.le c ∧ Own c G (⟨.pointer (some ⟨b13, 0, none⟩), 95, [.int .i64 x_5.2.1.Wide, .slice a17 a18 a19], 0⟩ :: es true (RI .i32) (.slice a17 a18 a19) 21 u5 x_5.2.1.Text :: F) ∧ e = ups g [(0, v1), (2, .int .i32 p2), (7, .int .i64 x_5.1), (8, .pointer (some ⟨b13, 0, none⟩)), (24, .bool d_17)]) ?_ ?_
  · clear H
    refine W.region ?_
    refine va (.bool x_5.2.2) ?_
    refine va (.bool (!x_5.2.2)) ?_
    rcases Bool.eq_false_or_eq_true (!x_5.2.2) with h23 | h23
    · skip
      obtain rfl := orT h23 h22
      refine vb h23 ?_
      refine ps ?_
      refine ps ?_
      refine ps ?_
      refine ps ?_
      refine va (.bool true) ?_
      refine wln ?_
      exact ⟨c21, _, rfl, (Cx.le.refl _), O20, ups_self ⟨rfl, rfl, rfl, rfl, rfl, trivial⟩⟩
    · skip
      have H24 := orF h23 h22
      refine vb h23 ?_
      refine wn ?_
      refine va (.pointer (some ⟨b13, 1, none⟩)) ?_
      refine wn ?_
      refine WL.val0 (v := .slice a17 a18 a19) rfl (rx (by kernel_rfl) (ldE1 (j := 1) Tryd.underlying25 rfl (O20.on 0 rfl) rfl rfl)) ?_
      refine wn ?_
      refine WL.val0 (v := .int .i64 (x_5.2.1.Text.length : Int)) rfl (rx (by kernel_rfl) (run_lenO (ty := 3) Tryd.underlying25 (h6.mono (l15.trans l21)) _)) ?_
      refine wn ?_
      refine va (.bool (decide ((x_5.2.1.Text.length : Int) ≥ 16))) ?_
      obtain rfl := Option.some.inj H24
      refine va (.bool (decide ((x_5.2.1.Text.length : Int) ≥ 16))) ?_
      refine wln ?_
      exact ⟨c21, _, rfl, (Cx.le.refl _), O20, ups_self ⟨rfl, rfl, rfl, rfl, rfl, trivial⟩⟩
  · skip
    rintro e_ w_ ⟨c25, g26, rfl, l25, O27, rfl⟩
    refine nrm ?_
    refine W.cond (t := d_17) (by kernel_rfl) (fun h31 => ?_) (fun h31 => ?_)
    · have H := it h31 H
      refine sr ?_
      refine va (.bool false) ?_
      refine wln ?_
      refine W.ret ?_
      refine thr ?_
      obtain rfl := Option.some.inj H
      have O32 := O27.selD 2 [] (by kernel_rfl) (by kernel_rfl)
      exact ret1 (v := .bool false) rfl (by kernel_rfl) ⟨_, c25, rfl, rfl, (l11.trans (l15.trans (l21.trans l25))), G, O32, (R0.mono (l11.trans (l15.trans (l21.trans l25)))), rfl⟩
    · have H := ie h31 H
      refine W.skip ?_
      refine nrm ?_
      refine W.seq ?_
      refine W.regionD [] (Kp G0 [⟨.pointer (some ⟨b13, 0, none⟩), 95, [.int .i64 x_5.2.1.Wide, .slice a17 a18 a19], 0⟩]) O27 (by kernel_rfl) ?_
      intro c33 l33 O34
      have p35 : Kp G0 [⟨.pointer (some ⟨b13, 0, none⟩), 95, [.int .i64 x_5.2.1.Wide, .slice a17 a18 a19], 0⟩] c33 := (Kp.cons (O34.on 0 rfl) Kp.nil0)
      refine ta 0 (v1) ?_
      refine ta 1 (.int .i64 x_5.1) ?_
      refine ta 2 (.pointer (some ⟨b13, 0, none⟩)) ?_
      refine AC.takeK 3 (.int .i64 x_5.2.1.Wide) p35 rfl (by kernel_rfl) (by kernel_rfl) (by kernel_rfl) (fun c' hle hk => (rx (by kernel_rfl) (ldE1 (j := 0) Tryd.underlying3 rfl (hk.on 0 rfl) rfl rfl))) ?_
      refine ta 4 (.pointer (some ⟨b13, 1, none⟩)) ?_
      refine AC.takeK 5 (.slice a17 a18 a19) p35 rfl (by kernel_rfl) (by kernel_rfl) (by kernel_rfl) (fun c' hle hk => (rx (by kernel_rfl) (ldE1 (j := 1) Tryd.underlying25 rfl (hk.on 0 rfl) rfl rfl))) ?_
      refine ta 6 (.int .i32 p2) ?_
      refine AC.one 7 (by kernel_rfl) (Go1.mem 7 rfl (by kernel_rfl) (by kernel_rfl) (Own.sl (R := (RI .i32)) (E := 21) (ls := [[.int .i32 p2]]) (vs := [.int .i32 p2]) (xs := ([p2] : List Int)) true O34 (Nat.succ_pos _) rfl ⟨rfl, trivial⟩ (by kernel_rfl) (by kernel_rfl)) ?_)
      rintro v40 c39 l39 ⟨u37, O36, h38⟩
      have p41 : Kp G0 [⟨.pointer (some ⟨b13, 0, none⟩), 95, [.int .i64 x_5.2.1.Wide, .slice a17 a18 a19], 0⟩] c39 := (Kp.cons (O36.on 1 rfl) Kp.nil0)
      refine ⟨.inr p41, ?_⟩
      obtain ⟨c44, h45, l44, O42, h43⟩ := O36.frz 0 rfl h38
      have p46 : Kp G0 [⟨.pointer (some ⟨b13, 0, none⟩), 95, [.int .i64 x_5.2.1.Wide, .slice a17 a18 a19], 0⟩] c44 := (Kp.cons (O42.on 1 rfl) Kp.nil0)
      refine AC.gh h45 l44 (fun _ => p46) ?_
      obtain ⟨x_34, h47, H⟩ := bs H
      refine AC.one 8 (by kernel_rfl) (Go1.mem 8 rfl (by kernel_rfl) (by kernel_rfl) (Own.app (R := (RI .i32)) (z := .int .i32 0) (by_ := 4) (ty := 25) 2 O42 rfl (h6.mono (l15.trans (l21.trans (l25.trans (l33.trans (l39.trans l44)))))) h43 h47 Tryd.underlying25 (by kernel_rfl) rfl (by kernel_rfl) (by kernel_rfl)) ?_)
      rintro v52 c51 l51 ⟨u49, O48, h50⟩
      have p53 : Kp G0 [⟨.pointer (some ⟨b13, 0, none⟩), 95, [.int .i64 x_5.2.1.Wide, .slice a17 a18 a19], 0⟩] c51 := (Kp.cons (O48.on 1 rfl) Kp.nil0)
      refine ⟨.inr p53, ?_⟩
      obtain ⟨c56, h57, l56, O54, h55⟩ := O48.frz 2 rfl h50
      have p58 : Kp G0 [⟨.pointer (some ⟨b13, 0, none⟩), 95, [.int .i64 x_5.2.1.Wide, .slice a17 a18 a19], 0⟩] c56 := (Kp.cons (O54.on 1 rfl) Kp.nil0)
      refine AC.gh h57 l56 (fun _ => p58) ?_
      obtain ⟨x_35, h59, H⟩ := bs H
      refine AC.one 9 (by kernel_rfl) (Go1.callP 9 rfl (by kernel_rfl) (by kernel_rfl) (by kernel_rfl) (c_mark_Put O54 (R0.mono (l11.trans (l15.trans (l21.trans (l25.trans (l33.trans (l39.trans (l44.trans (l51.trans l56))))))))) ((hG.mono (l11.trans (l15.trans (l21.trans (l25.trans (l33.trans (l39.trans (l44.trans (l51.trans l56))))))))).le (by decide)) p0 x_5.1 x_5.2.1.Wide x_34 (h2.mono (l11.trans (l15.trans (l21.trans (l25.trans (l33.trans (l39.trans (l44.trans (l51.trans l56))))))))) h55 h59) ?_)
      rintro v60 c66 l66 ⟨_, G62, O63, R64, rfl, h61⟩
      have p68 : Kp G0 [⟨.pointer (some ⟨b13, 0, none⟩), 95, [.int .i64 x_5.2.1.Wide, .slice a17 a18 a19], 0⟩] c66 := (Kp.cons (O63.on 1 rfl) Kp.nil0)
      refine ⟨.inr p68, ?_⟩
      refine AC.take 10 (.bool x_35.2.isNil) rfl (by kernel_rfl) (by kernel_rfl) (fun c' hle => (by rcases (h61).cs with ⟨h1_, h2_⟩ | ⟨b_, h1_, h2_⟩ | ⟨b_, h1_, h2_⟩ <;> (subst h1_; rw [h2_]; kernel_rfl))) ?_
      refine ta 11 (.bool x_35.2.isNil) ?_
      refine AC.done (by kernel_rfl) ?_
      refine nrm ?_
      refine W.ret ?_
      obtain rfl := Option.some.inj H
      have O69 := O63.selD 3 [] (by kernel_rfl) (by kernel_rfl)
      exact ret1 (v := .bool x_35.2.isNil) rfl (by kernel_rfl) ⟨_, c66, rfl, rfl, (l11.trans (l15.trans (l21.trans (l25.trans (l33.trans (l39.trans (l44.trans (l51.trans (l56.trans l66))))))))), G62, O69, R64, rfl⟩

def f_mark_Widen (sg : Sto) (p0 : Option Nat) (p1 : Int) : Option (Sto × Bool) :=
  (f_mark_At sg p0 p1).bind fun x_5 =>
  (orE (!x_5.2.2) (some (x_5.2.1.Wide != 1))).bind fun d_17 =>
  (orE d_17 ((f_row_Row_Wide sg p0).bind fun x_26 =>
  some (x_5.1 == (w64 (x_26 - 1))))).bind fun d_22 =>
  if d_22 = true then
  some (sg, false)
  else
  (f_mark_Put sg p0 x_5.1 2 x_5.2.1.Text).bind fun x_36 =>
  some (x_36.1, x_36.2.isNil)
theorem c_mark_Widen {c0 : Cx} {G : Gm} {F : List En} {sg : Sto} {v1 : Value} (O0 : Own c0 G F) (R0 : Rel c0 sg G) (hG : Gl [0, 1] c0) (p0 : Option Nat) (p1 : Int) {r : Sto × Bool} (h2 : Pt 0 c0 v1 p0) (H : f_mark_Widen sg p0 p1 = some r) :
    Calls Tryd.prog 43 #[v1, .int .i64 p1] c0.w (Post c0 fun c v => ∃ G_ : Gm, Own c G_ (F) ∧ Rel c r.1 G_ ∧ v = .bool r.2) := by
  unfold f_mark_Widen at H
  refine enter (l := [v1, .int .i64 p1]) Tryd.func43 rfl rfl rfl ?_
  refine sr ?_
  refine va (.bool false) ?_
  refine wln ?_
  refine sr ?_
  refine va (v1) ?_
  refine va (.int .i64 p1) ?_
  obtain ⟨x_5, h3, H⟩ := bs H
  refine WL.callP rfl (by kernel_rfl) (c_mark_At O0 R0 p0 p1 h2 h3) ?_
  rintro v12 c11 l11 ⟨v4, u5, O8, rfl, h6⟩
  refine va (.tuple #[.int .i64 x_5.1, .agg #[.int .i64 x_5.2.1.Wide, v4], .bool x_5.2.2]) ?_
  refine va (.int .i64 x_5.1) ?_
  refine va (.agg #[.int .i64 x_5.2.1.Wide, v4]) ?_
  refine va (.bool x_5.2.2) ?_
  refine WL.mem rfl (Own.al (T := 95) (vs := [.int .i64 0, .slice none 0 0]) O8 (by kernel_rfl)) ?_
  rintro v16 c15 l15 ⟨b13, rfl, O14⟩
  refine va (.int .i64 x_5.1) ?_
  obtain ⟨a17, a18, a19, rfl⟩ := ((h6.mono l15)).form
  refine WL.memD rfl (Own.st (T := 95) (j := 0) (us := [.int .i64 x_5.2.1.Wide, .slice a17 a18 a19]) (nw := [.int .i64 x_5.2.1.Wide, .slice a17 a18 a19]) (v := .agg #[.int .i64 x_5.2.1.Wide, .slice a17 a18 a19]) 0 O14 (by kernel_rfl) rfl rfl rfl rfl (by kernel_rfl) ⟨rfl, ((h6.mono l15)).one, trivial⟩ rfl rfl) ?_
  rintro c21 l21 O20
  refine va (.bool x_5.2.2) ?_
  refine wln ?_
  refine W.seq ?_
  refine W.seq ?_
  obtain ⟨d_17, h22, H⟩ := bs H
  obtain ⟨d_22, h23, H⟩ := bs H
  refine W.join (fun e w => ∃ (c : Cx) (g : Nat → Value), w = c.w ∧ c21.le c ∧ Own c G (⟨.pointer (some ⟨b13, 0, none⟩), 95, [.int .i64 x_5.2.1.Wide, .slice a17 a18 a19], 0⟩ :: es true (RI .i32) (.slice a17 a18 a19) 21 u5 x_5.2.1.Text :: F) ∧ e = ups g [(0, v1), (5, .int .i64 x_5.1), (6, .pointer (some ⟨b13, 0, none⟩)), (28, .bool d_22)]) ?_ ?_
  · clear H
    refine W.region ?_
    refine va (.bool x_5.2.2) ?_
    refine va (.bool (!x_5.2.2)) ?_
    rcases Bool.eq_false_or_eq_true (!x_5.2.2) with h24 | h24
    · skip
      obtain rfl := orT h24 h22
      refine vb h24 ?_
      refine ps ?_
      refine ps ?_
      refine ps ?_
      refine va (.bool true) ?_
      have h25 : true = true := rfl
      obtain rfl := orT h25 h23
      refine vb h25 ?_
      refine ps ?_
      refine ps ?_
      refine ps ?_
      refine ps ?_
      refine ps ?_
      refine va (.bool true) ?_
      refine wln ?_
      exact ⟨c21, _, rfl, (Cx.le.refl _), O20, ups_self ⟨rfl, rfl, rfl, rfl, trivial⟩⟩
    · skip
      have H26 := orF h24 h22
      refine vb h24 ?_
      refine wn ?_
      refine va (.pointer (some ⟨b13, 0, none⟩)) ?_
      refine wn ?_
      refine WL.val0 (v := .int .i64 x_5.2.1.Wide) rfl (rx (by kernel_rfl) (ldE1 (j := 0) Tryd.underlying3 rfl (O20.on 0 rfl) rfl rfl)) ?_
      refine wn ?_
      refine va (.bool (x_5.2.1.Wide != 1)) ?_
      obtain rfl := Option.some.inj H26
      refine va (.bool (x_5.2.1.Wide != 1)) ?_
      rcases Bool.eq_false_or_eq_true (x_5.2.1.Wide != 1) with h27 | h27
      · skip
        obtain rfl := orT h27 h23
        refine vb h27 ?_
        refine ps ?_
        refine ps ?_
        refine ps ?_
        refine ps ?_
        refine ps ?_
        refine va (.bool true) ?_
        refine wln ?_
        exact ⟨c21, _, rfl, (Cx.le.refl _), O20, ups_self ⟨rfl, rfl, rfl, rfl, trivial⟩⟩
      · skip
        have H28 := orF h27 h23
        refine vb h27 ?_
        refine wn ?_
        refine va (.int .i64 x_5.1) ?_
        refine wn ?_
        refine va (v1) ?_
        refine wn ?_
        obtain ⟨x_26, h29, H28⟩ := bs H28
        refine WL.callP rfl (by kernel_rfl) (c_row_Row_Wide O20 (R0.mono (l11.trans (l15.trans l21))) p0 (h2.mono (l11.trans (l15.trans l21))) h29) ?_
        rintro v35 c34 l34 ⟨O31, rfl⟩
        refine wn ?_
        refine va (.int .i64 (w64 (x_26 - 1))) ?_
        refine wn ?_
        refine va (.bool (x_5.1 == (w64 (x_26 - 1)))) ?_
        obtain rfl := Option.some.inj H28
        refine va (.bool (x_5.1 == (w64 (x_26 - 1)))) ?_
        refine wln ?_
        exact ⟨c34, _, rfl, l34, O31, ups_self ⟨rfl, rfl, rfl, rfl, trivial⟩⟩
  · skip
    rintro e_ w_ ⟨c36, g37, rfl, l36, O38, rfl⟩
    refine nrm ?_
    refine W.cond (t := d_22) (by kernel_rfl) (fun h42 => ?_) (fun h42 => ?_)
    · have H := it h42 H
      refine sr ?_
      refine va (.bool false) ?_
      refine wln ?_
      refine W.ret ?_
      refine thr ?_
      obtain rfl := Option.some.inj H
      have O43 := O38.selD 2 [] (by kernel_rfl) (by kernel_rfl)
      exact ret1 (v := .bool false) rfl (by kernel_rfl) ⟨_, c36, rfl, rfl, (l11.trans (l15.trans (l21.trans l36))), G, O43, (R0.mono (l11.trans (l15.trans (l21.trans l36)))), rfl⟩
    · have H := ie h42 H
      refine W.skip ?_
      refine nrm ?_
      refine sr ?_
      refine va (v1) ?_
      refine va (.int .i64 x_5.1) ?_
      refine va (.pointer (some ⟨b13, 1, none⟩)) ?_
      refine WL.val0 (v := .slice a17 a18 a19) rfl (rx (by kernel_rfl) (ldE1 (j := 1) Tryd.underlying25 rfl (O38.on 0 rfl) rfl rfl)) ?_
      obtain ⟨c46, h47, l46, O44, h45⟩ := O38.frz 1 rfl (h6.mono (l15.trans (l21.trans l36)))
      refine WL.gh h47 ?_
      obtain ⟨x_36, h48, H⟩ := bs H
      refine WL.callP rfl (by kernel_rfl) (c_mark_Put O44 (R0.mono (l11.trans (l15.trans (l21.trans (l36.trans l46))))) ((hG.mono (l11.trans (l15.trans (l21.trans (l36.trans l46))))).le (by decide)) p0 x_5.1 2 x_5.2.1.Text (h2.mono (l11.trans (l15.trans (l21.trans (l36.trans l46))))) h45 h48) ?_
      rintro v49 c55 l55 ⟨_, G51, O52, R53, rfl, h50⟩
      refine WL.val0 (v := .bool x_36.2.isNil) rfl (by rcases (h50).cs with ⟨h1_, h2_⟩ | ⟨b_, h1_, h2_⟩ | ⟨b_, h1_, h2_⟩ <;> (subst h1_; rw [h2_]; kernel_rfl)) ?_
      refine va (.bool x_36.2.isNil) ?_
      refine wln ?_
      refine W.ret ?_
      obtain rfl := Option.some.inj H
      have O57 := O52.selD 2 [] (by kernel_rfl) (by kernel_rfl)
      exact ret1 (v := .bool x_36.2.isNil) rfl (by kernel_rfl) ⟨_, c55, rfl, rfl, (l11.trans (l15.trans (l21.trans (l36.trans (l46.trans l55))))), G51, O57, R53, rfl⟩

end Go.Proofs.YtohpkblleihmaaaDoor
