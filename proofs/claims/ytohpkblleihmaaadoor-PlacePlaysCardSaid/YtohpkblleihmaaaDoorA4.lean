import Derived.Test.YtohpkblleihmaaaDoorMx
import Derived.Test.YtohpkblleihmaaaDoorProg
import Derived.Test.YtohpkblleihmaaaDoorMy
import Derived.Test.YtohpkblleihmaaaDoorMz
import Derived.Test.YtohpkblleihmaaaDoorA1
import Derived.Test.YtohpkblleihmaaaDoorA2
import Derived.Test.YtohpkblleihmaaaDoorA3
namespace Go.Proofs.YtohpkblleihmaaaDoor
open Go Go.Lt
set_option maxRecDepth 10000
set_option linter.unusedVariables false
attribute [local irreducible] W WL AC
def f_scalar_Replace (p0 : List Int) : Option (List Int) :=
  (rep 0 0).bind fun x_5 =>
  (rep (p0.length : Int) 0).bind fun y_5 =>
  (iter (σ := (List Int) × Int) (τ := (List Int)) (((p0.length : Int) - 0).toNat + 1) (fun s_12 =>
  if (decide (s_12.2 < (p0.length : Int))) = true then
  (idx p0 s_12.2).bind fun x_15 =>
  ((f_scalar_Valid x_15).bind fun x_21 =>
  if (!x_21) = true then
  (some (65533) : Option (Int))
  else
  (some (x_15) : Option (Int))).bind fun z_19 =>
  (app s_12.1 ([z_19] : List Int)).bind fun x_29 =>
  some (.inl (x_29, (w64 (s_12.2 + 1))))
  else
  some (.inr (s_12.1))) (x_5, 0)).bind fun o_12 =>
  some o_12
theorem c_scalar_Replace {c0 : Cx} {G : Gm} {F : List En} {v1 : Value} (O0 : Own c0 G F) (p0 : List Int) {r : List Int} (h2 : Sl (RI .i32) c0 v1 p0) (H : f_scalar_Replace p0 = some r) :
    Calls Tryd.prog 162 #[v1] c0.w (Post c0 fun c v => ∃ y1 : Value, ∃ y2 : List Value, Own c G (es true (RI .i32) y1 21 y2 r :: F) ∧ v = y1 ∧ OA (RI .i32) c y1 y2 r) := by
  unfold f_scalar_Replace at H
  refine enter (l := [v1]) Tryd.func162 rfl rfl rfl ?_
  refine sr ?_
  refine va (.slice none 0 0) ?_
  refine wln ?_
  refine sr ?_
  refine va (v1) ?_
  refine WL.val0 (v := .int .i64 (p0.length : Int)) rfl (rx (by kernel_rfl) (run_len (ty := 3) Tryd.underlying25 h2 _)) ?_
  obtain ⟨x_5, h3, H⟩ := bs H
  obtain ⟨y_5, h4, H⟩ := bs H
  refine WL.mem rfl (Own.mkS (kl := .i64) (kc := .i64) (R := (RI .i32)) (z := .int .i32 0) (lz := [.int .i32 0]) (x := 0) (by_ := 4) (i := 0) (j := (p0.length : Int)) true O0 (Nat.succ_pos _) h3 (rep_nn h4) (rep_le h4) Tryd.underlying25 (by kernel_rfl) rfl rfl (fun _ => rfl) (by kernel_rfl) (by kernel_rfl)) ?_
  rintro v9 c8 l8 ⟨u6, O5, h7⟩
  refine va (v9) ?_
  refine wln ?_
  refine W.seq ?_
  refine sr ?_
  refine va (v1) ?_
  refine WL.val0 (v := .int .i64 (p0.length : Int)) rfl (rx (by kernel_rfl) (run_len (ty := 3) Tryd.underlying25 (h2.mono l8) _)) ?_
  refine va (.int .i64 0) ?_
  refine wln ?_
  refine W.block ?_
  obtain ⟨o_12, h10, H11⟩ := bs H
  refine W.loop (σ := (List Int) × Int) (τ := (List Int)) (fun s_12 => fun e w => ∃ (c : Cx) (g : Nat → Value) (v12 : Value) (u13 : List Value), w = c.w ∧ c8.le c ∧ Own c G (es true (RI .i32) v12 21 u13 s_12.1 :: F) ∧ e = ups g [(3, v12), (9, v1), (10, .int .i64 (p0.length : Int)), (11, .int .i64 s_12.2)] ∧ OA (RI .i32) c v12 u13 s_12.1) (fun o_12_ ex e w => ex = .exit 0 ∧ (fun e w => ∃ (c : Cx) (g : Nat → Value) (v14 : Value) (u15 : List Value), w = c.w ∧ c8.le c ∧ Own c G (es true (RI .i32) v14 21 u15 o_12_ :: F) ∧ e = ups g [(3, v14)] ∧ OA (RI .i32) c v14 u15 o_12_) e w) ?_ h10 ?_ ?_
  · clear H11 h10
    intro s_12 xx_ ee_ ww_ H
    revert ee_ ww_
    rintro e_ w_ ⟨c16, g17, v12, u13, rfl, l16, O18, rfl, h19⟩
    refine sr ?_
    refine va (.bool (decide (s_12.2 < (p0.length : Int)))) ?_
    refine wln ?_
    refine W.seq ?_
    refine W.cond (t := decide (s_12.2 < (p0.length : Int))) (by kernel_rfl) (fun h23 => ?_) (fun h23 => ?_)
    · have H := it h23 H
      refine W.skip ?_
      refine nrm ?_
      refine W.seq ?_
      refine W.block ?_
      refine sr ?_
      obtain ⟨x_15, h24, H⟩ := bs H
      obtain ⟨l_25, h26, m27⟩ := Sl.at (h2.mono (l8.trans l16)) (idx_get h24)
      obtain rfl := h26
      refine WL.val0 (v := .pointer (some ⟨sb v1, so v1 + s_12.2.toNat * 1, none⟩)) rfl (rx (by kernel_rfl) (run_index (k := .i64) Tryd.underlying25 (by kernel_rfl) (h2.mono (l8.trans l16)) h24 _)) ?_
      refine WL.val0 (v := .int .i32 x_15) rfl (rx (by kernel_rfl) (run_load1 Tryd.underlying21 rfl (m27 0 _ rfl))) ?_
      refine va (.int .i32 x_15) ?_
      refine wln ?_
      obtain ⟨z_19, H28, H29⟩ := bs H
      refine W.seqJ (fun e w => ∃ (c : Cx) (g : Nat → Value), w = c.w ∧ c16.le c ∧ Own c G (es true (RI .i32) v12 21 u13 s_12.1 :: F) ∧ e = ups g [(3, v12), (5, .int .i32 z_19), (9, v1), (10, .int .i64 (p0.length : Int)), (11, .int .i64 s_12.2)]) ?_ ?_
      · skip
        refine sr ?_
        refine va (.int .i32 x_15) ?_
        obtain ⟨x_21, h30, H28⟩ := bs H28
        refine WL.callP rfl (by kernel_rfl) (c_scalar_Valid O18 x_15 h30) ?_
        rintro v36 c35 l35 ⟨O32, rfl⟩
        refine va (.bool (!x_21)) ?_
        refine wln ?_
        refine W.cond (t := !x_21) (by kernel_rfl) (fun h37 => ?_) (fun h37 => ?_)
        · have H28 := it h37 H28
          refine W.region ?_
          refine va (.int .i32 65533) ?_
          refine wln ?_
          obtain rfl := Option.some.inj H28
          exact ⟨c35, _, rfl, l35, O32, ups_self ⟨rfl, rfl, rfl, rfl, rfl, trivial⟩⟩
        · have H28 := ie h37 H28
          refine W.skip ?_
          refine nrm ?_
          obtain rfl := Option.some.inj H28
          exact ⟨c35, _, rfl, l35, O32, ups_self ⟨rfl, rfl, rfl, rfl, rfl, trivial⟩⟩
      · skip
        rintro e_ w_ ⟨c38, g39, rfl, l38, O40, rfl⟩
        refine W.region ?_
        refine va (v12) ?_
        refine va (.int .i32 z_19) ?_
        refine WL.mem rfl (Own.sl (R := (RI .i32)) (E := 21) (ls := [[.int .i32 z_19]]) (vs := [.int .i32 z_19]) (xs := ([z_19] : List Int)) true O40 (Nat.succ_pos _) rfl ⟨rfl, trivial⟩ (by kernel_rfl) (by kernel_rfl)) ?_
        rintro v48 c47 l47 ⟨u45, O44, h46⟩
        obtain ⟨c51, h52, l51, O49, h50⟩ := O44.frz 0 rfl h46
        refine WL.gh h52 ?_
        obtain ⟨x_29, h53, H29⟩ := bs H29
        refine WL.mem rfl (Own.app (R := (RI .i32)) (z := .int .i32 0) (by_ := 4) (ty := 25) 1 O49 rfl (h19.mono (l38.trans (l47.trans l51))) h50 h53 Tryd.underlying25 (by kernel_rfl) rfl (by kernel_rfl) (by kernel_rfl)) ?_
        rintro v58 c57 l57 ⟨u55, O54, h56⟩
        refine va (v58) ?_
        refine WL.nil ?_
        refine bkn ?_
        refine nrm ?_
        refine W.region ?_
        refine va (.int .i64 (w64 (s_12.2 + 1))) ?_
        refine va (.int .i64 (w64 (s_12.2 + 1))) ?_
        refine WL.nil ?_
        obtain rfl := Option.some.inj H29
        refine ⟨_, rfl, ?_⟩
        have O59 := O54.selD 2 [1] (by kernel_rfl) (by kernel_rfl)
        exact ⟨c57, _, v58, u55, rfl, (l16.trans (l38.trans (l47.trans (l51.trans l57)))), O59, ups_self ⟨rfl, rfl, rfl, rfl, trivial⟩, h56⟩
    · have H := ie h23 H
      refine W.exit ?_
      refine thx ?_
      obtain rfl := Option.some.inj H
      refine ⟨_, rfl, rfl, ?_⟩
      exact ⟨c16, _, v12, u13, rfl, l16, O18, ups_self ⟨rfl, trivial⟩, h19⟩
  · skip
    exact ⟨c8, _, v9, u6, rfl, (Cx.le.refl _), O5, ups_self ⟨rfl, rfl, rfl, rfl, trivial⟩, h7⟩
  · skip
    rintro _ e_ w_ ⟨rfl, c60, g61, v14, u15, rfl, l60, O62, rfl, h63⟩
    refine bke ?_
    refine nrm ?_
    refine sr ?_
    refine va (v14) ?_
    refine va (v14) ?_
    refine wln ?_
    refine W.ret ?_
    obtain rfl := Option.some.inj H11
    exact ret1 (v := v14) rfl (by kernel_rfl) ⟨_, c60, rfl, rfl, (l8.trans l60), v14, u15, O62, rfl, h63⟩

def f_cell_Of (p0 : Int) (p1 : List Int) : Option (List G_api_Cell) :=
  (if (decide (p0 ≥ 2)) = true then
  (app ([(⟨0, ([] : List Int)⟩ : G_api_Cell)] : List G_api_Cell) ([(⟨0, ([] : List Int)⟩ : G_api_Cell)] : List G_api_Cell)).bind fun x_14 =>
  (some (x_14) : Option ((List G_api_Cell)))
  else
  (some (([(⟨0, ([] : List Int)⟩ : G_api_Cell)] : List G_api_Cell)) : Option ((List G_api_Cell)))).bind fun z_7 =>
  if ((p1.length : Int) == 0) = true then
  some z_7
  else
  (slc p1 0 (imin (p1.length : Int) 16)).bind fun x_29 =>
  (f_scalar_Replace x_29).bind fun x_30 =>
  (idx z_7 0).bind fun x_32 =>
  (sets z_7 0 (⟨1, x_30⟩ : G_api_Cell)).bind fun w_33 =>
  (if (decide (p0 ≥ 2)) = true then
  (idx w_33 0).bind fun x_41 =>
  (sets w_33 0 (⟨2, x_41.Text⟩ : G_api_Cell)).bind fun w_43 =>
  (idx w_43 1).bind fun x_44 =>
  (sets w_43 1 (⟨3, x_44.Text⟩ : G_api_Cell)).bind fun w_46 =>
  (some (w_46) : Option ((List G_api_Cell)))
  else
  (some (w_33) : Option ((List G_api_Cell)))).bind fun z_35 =>
  some z_35
theorem c_cell_Of {c0 : Cx} {G : Gm} {F : List En} {v1 : Value} (O0 : Own c0 G F) (p0 : Int) (p1 : List Int) {r : List G_api_Cell} (h2 : Sl (RI .i32) c0 v1 p1) (H : f_cell_Of p0 p1 = some r) :
    Calls Tryd.prog 110 #[.int .i64 p0, v1] c0.w (Post c0 fun c v => ∃ y1 : Value, ∃ y2 : List Value, Own c G (es true R_api_Cell y1 27 y2 r :: F) ∧ v = y1 ∧ OA R_api_Cell c y1 y2 r) := by
  unfold f_cell_Of at H
  refine enter (l := [.int .i64 p0, v1]) Tryd.func110 rfl rfl rfl ?_
  refine sr ?_
  refine va (.slice none 0 0) ?_
  refine wln ?_
  refine sr ?_
  refine va (.agg #[.int .i64 0, .slice none 0 0]) ?_
  refine WL.mem rfl (Own.sl (R := R_api_Cell) (E := 27) (ls := [[.int .i64 0, .slice none 0 0]]) (vs := [.int .i64 0, .slice none 0 0]) (xs := ([(⟨0, ([] : List Int)⟩ : G_api_Cell)] : List G_api_Cell)) true O0 (Nat.succ_pos _) rfl ⟨⟨(.slice none 0 0), rfl, (Sl.nl _ _)⟩, trivial⟩ (by kernel_rfl) (by kernel_rfl)) ?_
  rintro v7 c6 l6 ⟨u4, O3, h5⟩
  refine va (v7) ?_
  refine wln ?_
  obtain ⟨z_7, H8, H9⟩ := bs H
  refine W.seqJ (fun e w => ∃ (c : Cx) (g : Nat → Value) (v10 : Value) (u11 : List Value), w = c.w ∧ c6.le c ∧ Own c G (es true R_api_Cell v10 27 u11 z_7 :: F) ∧ e = ups g [(0, .int .i64 p0), (1, v1), (5, v10)] ∧ OA R_api_Cell c v10 u11 z_7) ?_ ?_
  · skip
    refine sr ?_
    refine va (.int .i64 p0) ?_
    refine va (.bool (decide (p0 ≥ 2))) ?_
    refine wln ?_
    refine W.cond (t := decide (p0 ≥ 2)) (by kernel_rfl) (fun h12 => ?_) (fun h12 => ?_)
    · have H8 := it h12 H8
      refine W.region ?_
      refine va (v7) ?_
      refine va (.agg #[.int .i64 0, .slice none 0 0]) ?_
      refine WL.mem rfl (Own.sl (R := R_api_Cell) (E := 27) (ls := [[.int .i64 0, .slice none 0 0]]) (vs := [.int .i64 0, .slice none 0 0]) (xs := ([(⟨0, ([] : List Int)⟩ : G_api_Cell)] : List G_api_Cell)) true O3 (Nat.succ_pos _) rfl ⟨⟨(.slice none 0 0), rfl, (Sl.nl _ _)⟩, trivial⟩ (by kernel_rfl) (by kernel_rfl)) ?_
      rintro v17 c16 l16 ⟨u14, O13, h15⟩
      obtain ⟨c20, h21, l20, O18, h19⟩ := O13.frz 0 rfl h15
      refine WL.gh h21 ?_
      obtain ⟨x_14, h22, H8⟩ := bs H8
      refine WL.mem rfl (Own.app (R := R_api_Cell) (z := .agg #[.int .i64 0, .slice none 0 0]) (by_ := 32) (ty := 22) 1 O18 rfl (h5.mono (l16.trans l20)) h19 h22 Tryd.underlying22 (by kernel_rfl) rfl (by kernel_rfl) (by kernel_rfl)) ?_
      rintro v27 c26 l26 ⟨u24, O23, h25⟩
      refine va (v27) ?_
      refine wln ?_
      obtain rfl := Option.some.inj H8
      have O28 := O23.selD 2 [1] (by kernel_rfl) (by kernel_rfl)
      exact ⟨c26, _, v27, u24, rfl, (l16.trans (l20.trans l26)), O28, ups_self ⟨rfl, rfl, rfl, trivial⟩, h25⟩
    · have H8 := ie h12 H8
      refine W.skip ?_
      refine nrm ?_
      obtain rfl := Option.some.inj H8
      exact ⟨c6, _, v7, u4, rfl, (Cx.le.refl _), O3, ups_self ⟨rfl, rfl, rfl, trivial⟩, h5⟩
  · skip
    rintro e_ w_ ⟨c29, g30, v10, u11, rfl, l29, O31, rfl, h32⟩
    refine W.seq ?_
    refine sr ?_
    refine va (v1) ?_
    refine WL.val0 (v := .int .i64 (p1.length : Int)) rfl (rx (by kernel_rfl) (run_len (ty := 3) Tryd.underlying25 (h2.mono (l6.trans l29)) _)) ?_
    refine va (.bool ((p1.length : Int) == 0)) ?_
    refine wln ?_
    refine W.cond (t := (p1.length : Int) == 0) (by kernel_rfl) (fun h36 => ?_) (fun h36 => ?_)
    · have H9 := it h36 H9
      refine sr ?_
      refine va (v10) ?_
      refine va (v10) ?_
      refine wln ?_
      refine W.ret ?_
      refine thr ?_
      obtain rfl := Option.some.inj H9
      exact ret1 (v := v10) rfl (by kernel_rfl) ⟨_, c29, rfl, rfl, (l6.trans l29), v10, u11, O31, rfl, h32⟩
    · have H9 := ie h36 H9
      refine W.skip ?_
      refine nrm ?_
      refine sr ?_
      refine va (v10) ?_
      refine va (v1) ?_
      refine va (v1) ?_
      refine WL.val0 (v := .int .i64 (p1.length : Int)) rfl (rx (by kernel_rfl) (run_len (ty := 3) Tryd.underlying25 (h2.mono (l6.trans l29)) _)) ?_
      refine va (.int .i64 (imin (p1.length : Int) 16)) ?_
      obtain ⟨x_29, h37, H9⟩ := bs H9
      obtain ⟨v38, h39, h40⟩ := run_cutH (k' := .i64) Tryd.underlying25 (by kernel_rfl) (h2.mono (l6.trans l29)) h37
      refine WL.val0 (v := v38) rfl (rx (by kernel_rfl) (h39 _)) ?_
      obtain ⟨x_30, h41, H9⟩ := bs H9
      refine WL.callP rfl (by kernel_rfl) (c_scalar_Replace O31 x_29 h40 h41) ?_
      rintro v42 c49 l49 ⟨_, u43, O46, rfl, h44⟩
      obtain ⟨a51, a52, a53, rfl⟩ := (h44).form
      refine va (.agg #[.int .i64 1, .slice a51 a52 a53]) ?_
      obtain ⟨x_32, h54, H9⟩ := bs H9
      refine WL.val0 (v := .pointer (some ⟨sb v10, (0 : Int).toNat * 2, none⟩)) rfl (rx (by kernel_rfl) (run_indexO (k := .i64) Tryd.underlying22 (by kernel_rfl) (h32.mono l49) h54 _)) ?_
      obtain ⟨c57, h58, l57, O55, h56⟩ := O46.frz 0 rfl h44
      refine WL.gh h58 ?_
      obtain ⟨w_33, h59, H9⟩ := bs H9
      refine WL.memD rfl (Own.stW (R := R_api_Cell) (T := 27) (us := [.int .i64 1, .slice a51 a52 a53]) (x' := (⟨1, x_30⟩ : G_api_Cell)) (u := .agg #[.int .i64 1, .slice a51 a52 a53]) 1 O55 (by kernel_rfl) rfl (h32.mono (l49.trans l57)) h59 rfl (by kernel_rfl) ⟨rfl, h56.one, trivial⟩ rfl ⟨(.slice a51 a52 a53), rfl, h56⟩) ?_
      rintro c63 l63 ⟨u61, O60, h62⟩
      refine wln ?_
      obtain ⟨z_35, H64, H65⟩ := bs H9
      refine W.seqJ (fun e w => ∃ (c : Cx) (g : Nat → Value) (v66 : Value) (u67 : List Value), w = c.w ∧ c63.le c ∧ Own c G (es true R_api_Cell v66 27 u67 z_35 :: es false (RI .i32) (.slice a51 a52 a53) 21 u43 x_30 :: F) ∧ e = ups g [(5, v66)] ∧ OA R_api_Cell c v66 u67 z_35) ?_ ?_
      · skip
        refine sr ?_
        refine va (.int .i64 p0) ?_
        refine va (.bool (decide (p0 ≥ 2))) ?_
        refine wln ?_
        refine W.cond (t := decide (p0 ≥ 2)) (by kernel_rfl) (fun h68 => ?_) (fun h68 => ?_)
        · have H64 := it h68 H64
          refine W.region ?_
          refine va (v10) ?_
          refine va (v10) ?_
          obtain ⟨x_41, h69, H64⟩ := bs H64
          refine WL.val0 (v := .pointer (some ⟨sb v10, (0 : Int).toNat * 2, none⟩)) rfl (rx (by kernel_rfl) (run_indexO (k := .i64) Tryd.underlying22 (by kernel_rfl) h62 h69 _)) ?_
          refine va (.pointer (some ⟨sb v10, (0 : Int).toNat * 2, none⟩)) ?_
          obtain ⟨l_70, h71, m72⟩ := OA.at h62 h69
          obtain ⟨v73, rfl, h74⟩ := h71
          obtain ⟨w_43, h75, H64⟩ := bs H64
          refine WL.memD rfl (Own.stO (R := R_api_Cell) (T := 3) (us := [.int .i64 2]) (x' := (⟨2, x_41.Text⟩ : G_api_Cell)) (u := .int .i64 2) (x := (⟨2, x_41.Text⟩ : G_api_Cell)) (j := 0) (l' := [.int .i64 2, v73]) 1 O60 (by kernel_rfl) rfl h62 h75 m72 rfl (by kernel_rfl) ⟨rfl, trivial⟩ (by kernel_rfl) rfl ⟨v73, rfl, h74⟩) ?_
          rintro c79 l79 ⟨u77, O76, h78⟩
          obtain ⟨x_44, h80, H64⟩ := bs H64
          refine WL.val0 (v := .pointer (some ⟨sb v10, (1 : Int).toNat * 2, none⟩)) rfl (rx (by kernel_rfl) (run_indexO (k := .i64) Tryd.underlying22 (by kernel_rfl) h78 h80 _)) ?_
          refine va (.pointer (some ⟨sb v10, (1 : Int).toNat * 2, none⟩)) ?_
          obtain ⟨l_81, h82, m83⟩ := OA.at h78 h80
          obtain ⟨v84, rfl, h85⟩ := h82
          obtain ⟨w_46, h86, H64⟩ := bs H64
          refine WL.memD rfl (Own.stO (R := R_api_Cell) (T := 3) (us := [.int .i64 3]) (x' := (⟨3, x_44.Text⟩ : G_api_Cell)) (u := .int .i64 3) (x := (⟨3, x_44.Text⟩ : G_api_Cell)) (j := 0) (l' := [.int .i64 3, v84]) 1 O76 (by kernel_rfl) rfl h78 h86 m83 rfl (by kernel_rfl) ⟨rfl, trivial⟩ (by kernel_rfl) rfl ⟨v84, rfl, h85⟩) ?_
          rintro c90 l90 ⟨u88, O87, h89⟩
          refine wln ?_
          obtain rfl := Option.some.inj H64
          have O91 := O87.selD 2 [1, 0] (by kernel_rfl) (by kernel_rfl)
          exact ⟨c90, _, v10, u88, rfl, (l79.trans l90), O91, ups_self ⟨rfl, trivial⟩, h89⟩
        · have H64 := ie h68 H64
          refine W.skip ?_
          refine nrm ?_
          obtain rfl := Option.some.inj H64
          have O92 := O60.selD 2 [1, 0] (by kernel_rfl) (by kernel_rfl)
          exact ⟨c63, _, v10, u61, rfl, (Cx.le.refl _), O92, ups_self ⟨rfl, trivial⟩, h62⟩
      · skip
        rintro e_ w_ ⟨c93, g94, v66, u67, rfl, l93, O95, rfl, h96⟩
        refine sr ?_
        refine va (v66) ?_
        refine va (v66) ?_
        refine wln ?_
        refine W.ret ?_
        obtain rfl := Option.some.inj H65
        have O100 := O95.selD 2 [0] (by kernel_rfl) (by kernel_rfl)
        exact ret1 (v := v66) rfl (by kernel_rfl) ⟨_, c93, rfl, rfl, (l6.trans (l29.trans (l49.trans (l57.trans (l63.trans l93))))), v66, u67, O100, rfl, h96⟩

def f_mark_Put (sg : Sto) (p0 : Option Nat) (p1 : Int) (p2 : Int) (p3 : List Int) : Option (Sto × Er) :=
  (f_cell_Of p2 p3).bind fun x_7 =>
  (f_row_Row_Paint sg p0 p1 x_7).bind fun x_8 =>
  some (x_8.1, x_8.2)
theorem c_mark_Put {c0 : Cx} {G : Gm} {F : List En} {sg : Sto} {v1 : Value} {v3 : Value} (O0 : Own c0 G F) (R0 : Rel c0 sg G) (hG : Gl [0, 1] c0) (p0 : Option Nat) (p1 : Int) (p2 : Int) (p3 : List Int) {r : Sto × Er} (h2 : Pt 0 c0 v1 p0) (h4 : Sl (RI .i32) c0 v3 p3) (H : f_mark_Put sg p0 p1 p2 p3 = some r) :
    Calls Tryd.prog 42 #[v1, .int .i64 p1, .int .i64 p2, v3] c0.w (Post c0 fun c v => ∃ y1 : Value, ∃ G_ : Gm, Own c G_ (F) ∧ Rel c r.1 G_ ∧ v = y1 ∧ RE 252 217 c y1 r.2) := by
  unfold f_mark_Put at H
  refine enter (l := [v1, .int .i64 p1, .int .i64 p2, v3]) Tryd.func42 rfl rfl rfl ?_
  refine sr ?_
  refine va (.nilIface) ?_
  refine wln ?_
  refine sr ?_
  refine va (v1) ?_
  refine va (.int .i64 p1) ?_
  refine va (.int .i64 p2) ?_
  refine va (v3) ?_
  obtain ⟨x_7, h5, H⟩ := bs H
  refine WL.callP rfl (by kernel_rfl) (c_cell_Of O0 p2 p3 h4 h5) ?_
  rintro v6 c13 l13 ⟨_, u7, O10, rfl, h8⟩
  obtain ⟨c17, h18, l17, O15, h16⟩ := O10.frz 0 rfl h8
  refine WL.gh h18 ?_
  obtain ⟨x_8, h19, H⟩ := bs H
  refine WL.callP rfl (by kernel_rfl) (c_row_Row_Paint O15 (R0.mono (l13.trans l17)) ((hG.mono (l13.trans l17)).le (by decide)) p0 p1 x_7 (h2.mono (l13.trans l17)) h16 h19) ?_
  rintro v20 c26 l26 ⟨_, G22, O23, R24, rfl, h21⟩
  refine va (v20) ?_
  refine wln ?_
  refine W.ret ?_
  obtain rfl := Option.some.inj H
  have O28 := O23.selD 1 [] (by kernel_rfl) (by kernel_rfl)
  exact ret1 (v := v20) rfl (by kernel_rfl) ⟨_, c26, rfl, rfl, (l13.trans (l17.trans l26)), v20, G22, O28, R24, rfl, h21⟩

def f_mark_At (sg : Sto) (p0 : Option Nat) (p1 : Int) : Option (Int × G_api_Item × Bool) :=
  (f_row_Row_Cell sg p0 p1).bind fun x_7 =>
  ((andE x_7.2 (some (x_7.1.Kind == 3))).bind fun d_17 =>
  if d_17 = true then
  (f_row_Row_Cell sg p0 (w64 (p1 - 1))).bind fun x_29 =>
  (some ((w64 (p1 - 1)), x_29.2, x_29.1.Kind, x_29.1.Text) : Option (Int × Bool × Int × (List Int)))
  else
  (some (p1, x_7.2, x_7.1.Kind, x_7.1.Text) : Option (Int × Bool × Int × (List Int)))).bind fun z_15 =>
  (andE z_15.2.1 (some (z_15.2.2.1 == 1))).bind fun d_37 =>
  if d_37 = true then
  some (z_15.1, (⟨1, z_15.2.2.2⟩ : G_api_Item), true)
  else
  (andE z_15.2.1 (some (z_15.2.2.1 == 2))).bind fun d_53 =>
  if d_53 = true then
  some (z_15.1, (⟨2, z_15.2.2.2⟩ : G_api_Item), true)
  else
  some (0, (⟨0, ([] : List Int)⟩ : G_api_Item), false)
theorem c_mark_At {c0 : Cx} {G : Gm} {F : List En} {sg : Sto} {v1 : Value} (O0 : Own c0 G F) (R0 : Rel c0 sg G) (p0 : Option Nat) (p1 : Int) {r : Int × G_api_Item × Bool} (h2 : Pt 0 c0 v1 p0) (H : f_mark_At sg p0 p1 = some r) :
    Calls Tryd.prog 111 #[v1, .int .i64 p1] c0.w (Post c0 fun c v => ∃ y1 : Value, ∃ y2 : List Value, Own c G (es true (RI .i32) y1 21 y2 r.2.1.Text :: F) ∧ v = .tuple #[.int .i64 r.1, .agg #[.int .i64 r.2.1.Wide, y1], .bool r.2.2] ∧ OA (RI .i32) c y1 y2 r.2.1.Text) := by
  unfold f_mark_At at H
  refine enter (l := [v1, .int .i64 p1]) Tryd.func111 rfl rfl rfl ?_
  refine sr ?_
  refine va (.int .i64 0) ?_
  refine WL.mem rfl (Own.al (T := 95) (vs := [.int .i64 0, .slice none 0 0]) O0 (by kernel_rfl)) ?_
  rintro v6 c5 l5 ⟨b3, rfl, O4⟩
  refine va (.bool false) ?_
  refine wln ?_
  refine sr ?_
  refine va (v1) ?_
  refine va (.int .i64 p1) ?_
  obtain ⟨x_7, h7, H⟩ := bs H
  refine WL.callP rfl (by kernel_rfl) (c_row_Row_Cell O4 (R0.mono l5) p0 p1 (h2.mono l5) h7) ?_
  rintro v16 c15 l15 ⟨v8, u9, O12, rfl, h10⟩
  refine va (.tuple #[.agg #[.int .i64 x_7.1.Kind, v8], .bool x_7.2]) ?_
  refine va (.agg #[.int .i64 x_7.1.Kind, v8]) ?_
  refine va (.bool x_7.2) ?_
  refine WL.mem rfl (Own.al (T := 27) (vs := [.int .i64 0, .slice none 0 0]) O12 (by kernel_rfl)) ?_
  rintro v20 c19 l19 ⟨b17, rfl, O18⟩
  obtain ⟨a21, a22, a23, rfl⟩ := ((h10.mono l19)).form
  refine WL.memD rfl (Own.st (T := 27) (j := 0) (us := [.int .i64 x_7.1.Kind, .slice a21 a22 a23]) (nw := [.int .i64 x_7.1.Kind, .slice a21 a22 a23]) (v := .agg #[.int .i64 x_7.1.Kind, .slice a21 a22 a23]) 0 O18 (by kernel_rfl) rfl rfl rfl rfl (by kernel_rfl) ⟨rfl, ((h10.mono l19)).one, trivial⟩ rfl rfl) ?_
  rintro c25 l25 O24
  refine va (.bool x_7.2) ?_
  refine wln ?_
  obtain ⟨z_15, H26, H27⟩ := bs H
  refine W.seqJ (fun e w => ∃ (c : Cx) (g : Nat → Value) (v28 : Value) (u29 : List Value), w = c.w ∧ c25.le c ∧ Own c G (es true (RI .i32) v28 21 u29 z_15.2.2.2 :: ⟨.pointer (some ⟨b17, 0, none⟩), 27, [.int .i64 z_15.2.2.1, v28], 0⟩ :: ⟨.pointer (some ⟨b3, 0, none⟩), 95, [.int .i64 0, .slice none 0 0], 0⟩ :: F) ∧ e = ups g [(1, .int .i64 z_15.1), (5, .pointer (some ⟨b3, 0, none⟩)), (6, .bool z_15.2.1), (7, .pointer (some ⟨b17, 0, none⟩))] ∧ OA (RI .i32) c v28 u29 z_15.2.2.2) ?_ ?_
  · skip
    refine W.seq ?_
    obtain ⟨d_17, h30, H26⟩ := bs H26
    refine W.join (fun e w => ∃ (c : Cx) (g : Nat → Value), w = c.w ∧ c25.le c ∧ Own c G (⟨.pointer (some ⟨b17, 0, none⟩), 27, [.int .i64 x_7.1.Kind, .slice a21 a22 a23], 0⟩ :: es true (RI .i32) (.slice a21 a22 a23) 21 u9 x_7.1.Text :: ⟨.pointer (some ⟨b3, 0, none⟩), 95, [.int .i64 0, .slice none 0 0], 0⟩ :: F) ∧ e = ups g [(0, v1), (1, .int .i64 p1), (5, .pointer (some ⟨b3, 0, none⟩)), (6, .bool x_7.2), (7, .pointer (some ⟨b17, 0, none⟩)), (19, .bool d_17)]) ?_ ?_
    · clear H26
      refine W.region ?_
      refine va (.bool x_7.2) ?_
      rcases Bool.eq_false_or_eq_true (x_7.2) with h31 | h31
      · skip
        have H32 := anT h31 h30
        refine vb h31 ?_
        refine wn ?_
        refine va (.pointer (some ⟨b17, 0, none⟩)) ?_
        refine wn ?_
        refine WL.val0 (v := .int .i64 x_7.1.Kind) rfl (rx (by kernel_rfl) (ldE1 (j := 0) Tryd.underlying3 rfl (O24.on 0 rfl) rfl rfl)) ?_
        refine wn ?_
        refine va (.bool (x_7.1.Kind == 3)) ?_
        obtain rfl := Option.some.inj H32
        refine va (.bool (x_7.1.Kind == 3)) ?_
        refine wln ?_
        exact ⟨c25, _, rfl, (Cx.le.refl _), O24, ups_self ⟨rfl, rfl, rfl, rfl, rfl, rfl, trivial⟩⟩
      · skip
        obtain rfl := anF h31 h30
        refine vb h31 ?_
        refine ps ?_
        refine ps ?_
        refine ps ?_
        refine va (.bool false) ?_
        refine wln ?_
        exact ⟨c25, _, rfl, (Cx.le.refl _), O24, ups_self ⟨rfl, rfl, rfl, rfl, rfl, rfl, trivial⟩⟩
    · skip
      rintro e_ w_ ⟨c33, g34, rfl, l33, O35, rfl⟩
      refine nrm ?_
      refine W.cond (t := d_17) (by kernel_rfl) (fun h39 => ?_) (fun h39 => ?_)
      · have H26 := it h39 H26
        refine sr ?_
        refine va (.int .i64 p1) ?_
        refine va (.int .i64 (w64 (p1 - 1))) ?_
        refine va (.int .i64 (w64 (p1 - 1))) ?_
        refine wln ?_
        refine W.region ?_
        refine va (v1) ?_
        refine va (.int .i64 (w64 (p1 - 1))) ?_
        obtain ⟨x_29, h40, H26⟩ := bs H26
        refine WL.callP rfl (by kernel_rfl) (c_row_Row_Cell O35 (R0.mono (l5.trans (l15.trans (l19.trans (l25.trans l33))))) p0 (w64 (p1 - 1)) (h2.mono (l5.trans (l15.trans (l19.trans (l25.trans l33))))) h40) ?_
        rintro v49 c48 l48 ⟨v41, u42, O45, rfl, h43⟩
        refine va (.tuple #[.agg #[.int .i64 x_29.1.Kind, v41], .bool x_29.2]) ?_
        refine va (.agg #[.int .i64 x_29.1.Kind, v41]) ?_
        refine va (.bool x_29.2) ?_
        obtain ⟨a50, a51, a52, rfl⟩ := (h43).form
        refine WL.memD rfl (Own.st (T := 27) (j := 0) (us := [.int .i64 x_29.1.Kind, .slice a50 a51 a52]) (nw := [.int .i64 x_29.1.Kind, .slice a50 a51 a52]) (v := .agg #[.int .i64 x_29.1.Kind, .slice a50 a51 a52]) 1 O45 (by kernel_rfl) rfl rfl rfl rfl (by kernel_rfl) ⟨rfl, (h43).one, trivial⟩ rfl rfl) ?_
        rintro c54 l54 O53
        refine va (.bool x_29.2) ?_
        refine wln ?_
        obtain rfl := Option.some.inj H26
        have O55 := O53.selD 4 [0, 1, 3] (by kernel_rfl) (by kernel_rfl)
        exact ⟨c54, _, (.slice a50 a51 a52), u42, rfl, (l33.trans (l48.trans l54)), O55, ups_self ⟨rfl, rfl, rfl, rfl, trivial⟩, (h43.mono l54)⟩
      · have H26 := ie h39 H26
        refine W.skip ?_
        refine nrm ?_
        obtain rfl := Option.some.inj H26
        have O56 := O35.selD 3 [1, 0, 2] (by kernel_rfl) (by kernel_rfl)
        exact ⟨c33, _, (.slice a21 a22 a23), u9, rfl, l33, O56, ups_self ⟨rfl, rfl, rfl, rfl, trivial⟩, (h10.mono (l19.trans (l25.trans l33)))⟩
  · skip
    rintro e_ w_ ⟨c57, g58, v28, u29, rfl, l57, O59, rfl, h60⟩
    refine W.seq ?_
    refine W.block ?_
    refine W.seq ?_
    obtain ⟨d_37, h64, H27⟩ := bs H27
    refine W.join (fun e w => ∃ (c : Cx) (g : Nat → Value), w = c.w ∧ c57.le c ∧ Own c G (es true (RI .i32) v28 21 u29 z_15.2.2.2 :: ⟨.pointer (some ⟨b17, 0, none⟩), 27, [.int .i64 z_15.2.2.1, v28], 0⟩ :: ⟨.pointer (some ⟨b3, 0, none⟩), 95, [.int .i64 0, .slice none 0 0], 0⟩ :: F) ∧ e = ups g [(1, .int .i64 z_15.1), (5, .pointer (some ⟨b3, 0, none⟩)), (6, .bool z_15.2.1), (7, .pointer (some ⟨b17, 0, none⟩)), (28, .bool d_37)]) ?_ ?_
    · clear H27
      refine W.region ?_
      refine va (.bool z_15.2.1) ?_
      rcases Bool.eq_false_or_eq_true (z_15.2.1) with h65 | h65
      · skip
        have H66 := anT h65 h64
        refine vb h65 ?_
        refine wn ?_
        refine va (.pointer (some ⟨b17, 0, none⟩)) ?_
        refine wn ?_
        refine WL.val0 (v := .int .i64 z_15.2.2.1) rfl (rx (by kernel_rfl) (ldE1 (j := 0) Tryd.underlying3 rfl (O59.on 1 rfl) rfl rfl)) ?_
        refine wn ?_
        refine va (.bool (z_15.2.2.1 == 1)) ?_
        obtain rfl := Option.some.inj H66
        refine va (.bool (z_15.2.2.1 == 1)) ?_
        refine va (.bool (z_15.2.2.1 == 1)) ?_
        refine wln ?_
        exact ⟨c57, _, rfl, (Cx.le.refl _), O59, ups_self ⟨rfl, rfl, rfl, rfl, rfl, trivial⟩⟩
      · skip
        obtain rfl := anF h65 h64
        refine vb h65 ?_
        refine ps ?_
        refine ps ?_
        refine ps ?_
        refine va (.bool false) ?_
        refine va (.bool false) ?_
        refine wln ?_
        exact ⟨c57, _, rfl, (Cx.le.refl _), O59, ups_self ⟨rfl, rfl, rfl, rfl, rfl, trivial⟩⟩
    · skip
      rintro e_ w_ ⟨c67, g68, rfl, l67, O69, rfl⟩
      refine nrm ?_
      refine W.cond (t := d_37) (by kernel_rfl) (fun h73 => ?_) (fun h73 => ?_)
      · have H27 := it h73 H27
        refine W.seq ?_
        refine W.regionD [] (Kp G0 [⟨.pointer (some ⟨b17, 0, none⟩), 27, [.int .i64 z_15.2.2.1, v28], 0⟩]) O69 (by kernel_rfl) ?_
        intro c74 l74 O75
        have p76 : Kp G0 [⟨.pointer (some ⟨b17, 0, none⟩), 27, [.int .i64 z_15.2.2.1, v28], 0⟩] c74 := (Kp.cons (O75.on 1 rfl) Kp.nil0)
        refine ta 0 (.int .i64 z_15.1) ?_
        refine ta 1 (.pointer (some ⟨b17, 1, none⟩)) ?_
        refine AC.takeK 2 (v28) p76 rfl (by kernel_rfl) (by kernel_rfl) (by kernel_rfl) (fun c' hle hk => (rx (by kernel_rfl) (ldE1 (j := 1) Tryd.underlying25 rfl (hk.on 0 rfl) rfl rfl))) ?_
        obtain ⟨a77, a78, a79, rfl⟩ := ((h60.mono (l67.trans l74))).form
        refine ta 3 (.agg #[.int .i64 1, .slice a77 a78 a79]) ?_
        refine ta 4 (.int .i64 z_15.1) ?_
        refine AC.one 5 (by kernel_rfl) (Go1.memD 5 rfl (by kernel_rfl) (by kernel_rfl) (Own.st (T := 95) (j := 0) (us := [.int .i64 1, .slice a77 a78 a79]) (nw := [.int .i64 1, .slice a77 a78 a79]) (v := .agg #[.int .i64 1, .slice a77 a78 a79]) 2 O75 (by kernel_rfl) rfl rfl rfl rfl (by kernel_rfl) ⟨rfl, ((h60.mono (l67.trans l74))).one, trivial⟩ rfl rfl) ?_)
        rintro c81 l81 O80
        have p82 : Kp G0 [⟨.pointer (some ⟨b17, 0, none⟩), 27, [.int .i64 z_15.2.2.1, (.slice a77 a78 a79)], 0⟩] c81 := (Kp.cons (O80.on 1 rfl) Kp.nil0)
        refine ⟨.inr p82, ?_⟩
        refine ta 6 (.bool true) ?_
        refine AC.done (by kernel_rfl) ?_
        refine nrm ?_
        refine W.ret ?_
        refine bkr ?_
        refine thr ?_
        obtain rfl := Option.some.inj H27
        have O83 := O80.selD 3 [0] (by kernel_rfl) (by kernel_rfl)
        exact retTCT (c := c81) (vs := [.int .i64 1, .slice a77 a78 a79]) (v := .bool true) (v' := .int .i64 z_15.1) rfl (by kernel_rfl) (by kernel_rfl) (by kernel_rfl) (by kernel_rfl) (by kernel_rfl) (O80.on 2 rfl _ rfl).1 ⟨_, c81, rfl, rfl, (l5.trans (l15.trans (l19.trans (l25.trans (l57.trans (l67.trans (l74.trans l81))))))), (.slice a77 a78 a79), u29, O83, rfl, (h60.mono (l67.trans (l74.trans l81)))⟩
      · have H27 := ie h73 H27
        refine W.seq ?_
        obtain ⟨d_53, h84, H27⟩ := bs H27
        refine W.join (fun e w => ∃ (c : Cx) (g : Nat → Value), w = c.w ∧ c67.le c ∧ Own c G (es true (RI .i32) v28 21 u29 z_15.2.2.2 :: ⟨.pointer (some ⟨b17, 0, none⟩), 27, [.int .i64 z_15.2.2.1, v28], 0⟩ :: ⟨.pointer (some ⟨b3, 0, none⟩), 95, [.int .i64 0, .slice none 0 0], 0⟩ :: F) ∧ e = ups g [(1, .int .i64 z_15.1), (5, .pointer (some ⟨b3, 0, none⟩)), (7, .pointer (some ⟨b17, 0, none⟩)), (39, .bool d_53)]) ?_ ?_
        · clear H27
          refine W.region ?_
          refine va (.bool z_15.2.1) ?_
          rcases Bool.eq_false_or_eq_true (z_15.2.1) with h85 | h85
          · skip
            have H86 := anT h85 h84
            refine vb h85 ?_
            refine wn ?_
            refine va (.pointer (some ⟨b17, 0, none⟩)) ?_
            refine wn ?_
            refine WL.val0 (v := .int .i64 z_15.2.2.1) rfl (rx (by kernel_rfl) (ldE1 (j := 0) Tryd.underlying3 rfl (O69.on 1 rfl) rfl rfl)) ?_
            refine wn ?_
            refine va (.bool (z_15.2.2.1 == 2)) ?_
            obtain rfl := Option.some.inj H86
            refine va (.bool (z_15.2.2.1 == 2)) ?_
            refine va (.bool (z_15.2.2.1 == 2)) ?_
            refine wln ?_
            exact ⟨c67, _, rfl, (Cx.le.refl _), O69, ups_self ⟨rfl, rfl, rfl, rfl, trivial⟩⟩
          · skip
            obtain rfl := anF h85 h84
            refine vb h85 ?_
            refine ps ?_
            refine ps ?_
            refine ps ?_
            refine va (.bool false) ?_
            refine va (.bool false) ?_
            refine wln ?_
            exact ⟨c67, _, rfl, (Cx.le.refl _), O69, ups_self ⟨rfl, rfl, rfl, rfl, trivial⟩⟩
        · skip
          rintro e_ w_ ⟨c87, g88, rfl, l87, O89, rfl⟩
          refine nrm ?_
          refine W.cond (t := d_53) (by kernel_rfl) (fun h93 => ?_) (fun h93 => ?_)
          · have H27 := it h93 H27
            refine W.seq ?_
            refine W.regionD [] (Kp G0 [⟨.pointer (some ⟨b17, 0, none⟩), 27, [.int .i64 z_15.2.2.1, v28], 0⟩]) O89 (by kernel_rfl) ?_
            intro c94 l94 O95
            have p96 : Kp G0 [⟨.pointer (some ⟨b17, 0, none⟩), 27, [.int .i64 z_15.2.2.1, v28], 0⟩] c94 := (Kp.cons (O95.on 1 rfl) Kp.nil0)
            refine ta 0 (.int .i64 z_15.1) ?_
            refine ta 1 (.pointer (some ⟨b17, 1, none⟩)) ?_
            refine AC.takeK 2 (v28) p96 rfl (by kernel_rfl) (by kernel_rfl) (by kernel_rfl) (fun c' hle hk => (rx (by kernel_rfl) (ldE1 (j := 1) Tryd.underlying25 rfl (hk.on 0 rfl) rfl rfl))) ?_
            obtain ⟨a97, a98, a99, rfl⟩ := ((h60.mono (l67.trans (l87.trans l94)))).form
            refine ta 3 (.agg #[.int .i64 2, .slice a97 a98 a99]) ?_
            refine ta 4 (.int .i64 z_15.1) ?_
            refine AC.one 5 (by kernel_rfl) (Go1.memD 5 rfl (by kernel_rfl) (by kernel_rfl) (Own.st (T := 95) (j := 0) (us := [.int .i64 2, .slice a97 a98 a99]) (nw := [.int .i64 2, .slice a97 a98 a99]) (v := .agg #[.int .i64 2, .slice a97 a98 a99]) 2 O95 (by kernel_rfl) rfl rfl rfl rfl (by kernel_rfl) ⟨rfl, ((h60.mono (l67.trans (l87.trans l94)))).one, trivial⟩ rfl rfl) ?_)
            rintro c101 l101 O100
            have p102 : Kp G0 [⟨.pointer (some ⟨b17, 0, none⟩), 27, [.int .i64 z_15.2.2.1, (.slice a97 a98 a99)], 0⟩] c101 := (Kp.cons (O100.on 1 rfl) Kp.nil0)
            refine ⟨.inr p102, ?_⟩
            refine ta 6 (.bool true) ?_
            refine AC.done (by kernel_rfl) ?_
            refine nrm ?_
            refine W.ret ?_
            refine bkr ?_
            refine thr ?_
            obtain rfl := Option.some.inj H27
            have O103 := O100.selD 3 [0] (by kernel_rfl) (by kernel_rfl)
            exact retTCT (c := c101) (vs := [.int .i64 2, .slice a97 a98 a99]) (v := .bool true) (v' := .int .i64 z_15.1) rfl (by kernel_rfl) (by kernel_rfl) (by kernel_rfl) (by kernel_rfl) (by kernel_rfl) (O100.on 2 rfl _ rfl).1 ⟨_, c101, rfl, rfl, (l5.trans (l15.trans (l19.trans (l25.trans (l57.trans (l67.trans (l87.trans (l94.trans l101)))))))), (.slice a97 a98 a99), u29, O103, rfl, (h60.mono (l67.trans (l87.trans (l94.trans l101))))⟩
          · have H27 := ie h93 H27
            refine W.skip ?_
            refine bkn ?_
            refine nrm ?_
            refine sr ?_
            refine va (.agg #[.int .i64 0, .slice none 0 0]) ?_
            refine va (.int .i64 0) ?_
            refine WL.memD rfl (Own.st (T := 95) (j := 0) (us := [.int .i64 0, .slice none 0 0]) (nw := [.int .i64 0, .slice none 0 0]) (v := .agg #[.int .i64 0, .slice none 0 0]) 2 O89 (by kernel_rfl) rfl rfl rfl rfl (by kernel_rfl) ⟨rfl, rfl, trivial⟩ rfl rfl) ?_
            rintro c105 l105 O104
            refine va (.bool false) ?_
            refine wln ?_
            refine W.ret ?_
            obtain rfl := Option.some.inj H27
            have h107 : OA (RI .i32) c105 (.slice none 0 0) [] [] := OA.nil (Nat.succ_pos _)
            have O106 := O104.addHole (e := es true (RI .i32) (.slice none 0 0) 21 [] ([] : List Int)) rfl
            have O108 := O106.selD 4 [0] (by kernel_rfl) (by kernel_rfl)
            exact retTCT (c := c105) (vs := [.int .i64 0, .slice none 0 0]) (v := .bool false) (v' := .int .i64 0) rfl (by kernel_rfl) (by kernel_rfl) (by kernel_rfl) (by kernel_rfl) (by kernel_rfl) (O106.on 3 rfl _ rfl).1 ⟨_, c105, rfl, rfl, (l5.trans (l15.trans (l19.trans (l25.trans (l57.trans (l67.trans (l87.trans l105))))))), (.slice none 0 0), [], O108, rfl, h107⟩

def f_mark_Widen (sg : Sto) (p0 : Option Nat) (p1 : Int) : Option (Sto × Bool) :=
  (f_mark_At sg p0 p1).bind fun x_5 =>
  (orE (!x_5.2.2) (some (x_5.2.1.Wide != 1))).bind fun d_17 =>
  (orE d_17 ((f_row_Row_Wide sg p0).bind fun x_26 =>
  some (x_5.1 == (w64 (x_26 - 1))))).bind fun d_22 =>
  if d_22 = true then
  some (sg, false)
  else
  (f_mark_Put sg p0 x_5.1 2 x_5.2.1.Text).bind fun x_36 =>
  some (x_36.1, x_36.2.isNil)
theorem c_mark_Widen {c0 : Cx} {G : Gm} {F : List En} {sg : Sto} {v1 : Value} (O0 : Own c0 G F) (R0 : Rel c0 sg G) (hG : Gl [0, 1] c0) (p0 : Option Nat) (p1 : Int) {r : Sto × Bool} (h2 : Pt 0 c0 v1 p0) (H : f_mark_Widen sg p0 p1 = some r) :
    Calls Tryd.prog 43 #[v1, .int .i64 p1] c0.w (Post c0 fun c v => ∃ G_ : Gm, Own c G_ (F) ∧ Rel c r.1 G_ ∧ v = .bool r.2) := by
  unfold f_mark_Widen at H
  refine enter (l := [v1, .int .i64 p1]) Tryd.func43 rfl rfl rfl ?_
  refine sr ?_
  refine va (.bool false) ?_
  refine wln ?_
  refine sr ?_
  refine va (v1) ?_
  refine va (.int .i64 p1) ?_
  obtain ⟨x_5, h3, H⟩ := bs H
  refine WL.callP rfl (by kernel_rfl) (c_mark_At O0 R0 p0 p1 h2 h3) ?_
  rintro v12 c11 l11 ⟨v4, u5, O8, rfl, h6⟩
  refine va (.tuple #[.int .i64 x_5.1, .agg #[.int .i64 x_5.2.1.Wide, v4], .bool x_5.2.2]) ?_
  refine va (.int .i64 x_5.1) ?_
  refine va (.agg #[.int .i64 x_5.2.1.Wide, v4]) ?_
  refine va (.bool x_5.2.2) ?_
  refine WL.mem rfl (Own.al (T := 95) (vs := [.int .i64 0, .slice none 0 0]) O8 (by kernel_rfl)) ?_
  rintro v16 c15 l15 ⟨b13, rfl, O14⟩
  refine va (.int .i64 x_5.1) ?_
  obtain ⟨a17, a18, a19, rfl⟩ := ((h6.mono l15)).form
  refine WL.memD rfl (Own.st (T := 95) (j := 0) (us := [.int .i64 x_5.2.1.Wide, .slice a17 a18 a19]) (nw := [.int .i64 x_5.2.1.Wide, .slice a17 a18 a19]) (v := .agg #[.int .i64 x_5.2.1.Wide, .slice a17 a18 a19]) 0 O14 (by kernel_rfl) rfl rfl rfl rfl (by kernel_rfl) ⟨rfl, ((h6.mono l15)).one, trivial⟩ rfl rfl) ?_
  rintro c21 l21 O20
  refine va (.bool x_5.2.2) ?_
  refine wln ?_
  refine W.seq ?_
  refine W.seq ?_
  obtain ⟨d_17, h22, H⟩ := bs H
  obtain ⟨d_22, h23, H⟩ := bs H
  refine W.join (fun e w => ∃ (c : Cx) (g : Nat → Value), w = c.w ∧ c21.le c ∧ Own c G (⟨.pointer (some ⟨b13, 0, none⟩), 95, [.int .i64 x_5.2.1.Wide, .slice a17 a18 a19], 0⟩ :: es true (RI .i32) (.slice a17 a18 a19) 21 u5 x_5.2.1.Text :: F) ∧ e = ups g [(0, v1), (5, .int .i64 x_5.1), (6, .pointer (some ⟨b13, 0, none⟩)), (28, .bool d_22)]) ?_ ?_
  · clear H
    refine W.region ?_
    refine va (.bool x_5.2.2) ?_
    refine va (.bool (!x_5.2.2)) ?_
    rcases Bool.eq_false_or_eq_true (!x_5.2.2) with h24 | h24
    · skip
      obtain rfl := orT h24 h22
      refine vb h24 ?_
      refine ps ?_
      refine ps ?_
      refine ps ?_
      refine va (.bool true) ?_
      have h25 : true = true := rfl
      obtain rfl := orT h25 h23
      refine vb h25 ?_
      refine ps ?_
      refine ps ?_
      refine ps ?_
      refine ps ?_
      refine ps ?_
      refine va (.bool true) ?_
      refine wln ?_
      exact ⟨c21, _, rfl, (Cx.le.refl _), O20, ups_self ⟨rfl, rfl, rfl, rfl, trivial⟩⟩
    · skip
      have H26 := orF h24 h22
      refine vb h24 ?_
      refine wn ?_
      refine va (.pointer (some ⟨b13, 0, none⟩)) ?_
      refine wn ?_
      refine WL.val0 (v := .int .i64 x_5.2.1.Wide) rfl (rx (by kernel_rfl) (ldE1 (j := 0) Tryd.underlying3 rfl (O20.on 0 rfl) rfl rfl)) ?_
      refine wn ?_
      refine va (.bool (x_5.2.1.Wide != 1)) ?_
      obtain rfl := Option.some.inj H26
      refine va (.bool (x_5.2.1.Wide != 1)) ?_
      rcases Bool.eq_false_or_eq_true (x_5.2.1.Wide != 1) with h27 | h27
      · skip
        obtain rfl := orT h27 h23
        refine vb h27 ?_
        refine ps ?_
        refine ps ?_
        refine ps ?_
        refine ps ?_
        refine ps ?_
        refine va (.bool true) ?_
        refine wln ?_
        exact ⟨c21, _, rfl, (Cx.le.refl _), O20, ups_self ⟨rfl, rfl, rfl, rfl, trivial⟩⟩
      · skip
        have H28 := orF h27 h23
        refine vb h27 ?_
        refine wn ?_
        refine va (.int .i64 x_5.1) ?_
        refine wn ?_
        refine va (v1) ?_
        refine wn ?_
        obtain ⟨x_26, h29, H28⟩ := bs H28
        refine WL.callP rfl (by kernel_rfl) (c_row_Row_Wide O20 (R0.mono (l11.trans (l15.trans l21))) p0 (h2.mono (l11.trans (l15.trans l21))) h29) ?_
        rintro v35 c34 l34 ⟨O31, rfl⟩
        refine wn ?_
        refine va (.int .i64 (w64 (x_26 - 1))) ?_
        refine wn ?_
        refine va (.bool (x_5.1 == (w64 (x_26 - 1)))) ?_
        obtain rfl := Option.some.inj H28
        refine va (.bool (x_5.1 == (w64 (x_26 - 1)))) ?_
        refine wln ?_
        exact ⟨c34, _, rfl, l34, O31, ups_self ⟨rfl, rfl, rfl, rfl, trivial⟩⟩
  · skip
    rintro e_ w_ ⟨c36, g37, rfl, l36, O38, rfl⟩
    refine nrm ?_
    refine W.cond (t := d_22) (by kernel_rfl) (fun h42 => ?_) (fun h42 => ?_)
    · have H := it h42 H
      refine sr ?_
      refine va (.bool false) ?_
      refine wln ?_
      refine W.ret ?_
      refine thr ?_
      obtain rfl := Option.some.inj H
      have O43 := O38.selD 2 [] (by kernel_rfl) (by kernel_rfl)
      exact ret1 (v := .bool false) rfl (by kernel_rfl) ⟨_, c36, rfl, rfl, (l11.trans (l15.trans (l21.trans l36))), G, O43, (R0.mono (l11.trans (l15.trans (l21.trans l36)))), rfl⟩
    · have H := ie h42 H
      refine W.skip ?_
      refine nrm ?_
      refine sr ?_
      refine va (v1) ?_
      refine va (.int .i64 x_5.1) ?_
      refine va (.pointer (some ⟨b13, 1, none⟩)) ?_
      refine WL.val0 (v := .slice a17 a18 a19) rfl (rx (by kernel_rfl) (ldE1 (j := 1) Tryd.underlying25 rfl (O38.on 0 rfl) rfl rfl)) ?_
      obtain ⟨c46, h47, l46, O44, h45⟩ := O38.frz 1 rfl (h6.mono (l15.trans (l21.trans l36)))
      refine WL.gh h47 ?_
      obtain ⟨x_36, h48, H⟩ := bs H
      refine WL.callP rfl (by kernel_rfl) (c_mark_Put O44 (R0.mono (l11.trans (l15.trans (l21.trans (l36.trans l46))))) ((hG.mono (l11.trans (l15.trans (l21.trans (l36.trans l46))))).le (by decide)) p0 x_5.1 2 x_5.2.1.Text (h2.mono (l11.trans (l15.trans (l21.trans (l36.trans l46))))) h45 h48) ?_
      rintro v49 c55 l55 ⟨_, G51, O52, R53, rfl, h50⟩
      refine WL.val0 (v := .bool x_36.2.isNil) rfl (by rcases (h50).cs with ⟨h1_, h2_⟩ | ⟨b_, h1_, h2_⟩ | ⟨b_, h1_, h2_⟩ <;> (subst h1_; rw [h2_]; kernel_rfl)) ?_
      refine va (.bool x_36.2.isNil) ?_
      refine wln ?_
      refine W.ret ?_
      obtain rfl := Option.some.inj H
      have O57 := O52.selD 2 [] (by kernel_rfl) (by kernel_rfl)
      exact ret1 (v := .bool x_36.2.isNil) rfl (by kernel_rfl) ⟨_, c55, rfl, rfl, (l11.trans (l15.trans (l21.trans (l36.trans (l46.trans l55))))), G51, O57, R53, rfl⟩

def f_mark_Add (sg : Sto) (p0 : Option Nat) (p1 : Int) (p2 : Int) : Option (Sto × Bool) :=
  (f_mark_At sg p0 p1).bind fun x_5 =>
  (orE (!x_5.2.2) (some (decide ((x_5.2.1.Text.length : Int) ≥ 16)))).bind fun d_17 =>
  if d_17 = true then
  some (sg, false)
  else
  (app x_5.2.1.Text ([p2] : List Int)).bind fun x_34 =>
  (f_mark_Put sg p0 x_5.1 x_5.2.1.Wide x_34).bind fun x_35 =>
  some (x_35.1, x_35.2.isNil)
theorem c_mark_Add {c0 : Cx} {G : Gm} {F : List En} {sg : Sto} {v1 : Value} (O0 : Own c0 G F) (R0 : Rel c0 sg G) (hG : Gl [0, 1] c0) (p0 : Option Nat) (p1 : Int) (p2 : Int) {r : Sto × Bool} (h2 : Pt 0 c0 v1 p0) (H : f_mark_Add sg p0 p1 p2 = some r) :
    Calls Tryd.prog 53 #[v1, .int .i64 p1, .int .i32 p2] c0.w (Post c0 fun c v => ∃ G_ : Gm, Own c G_ (F) ∧ Rel c r.1 G_ ∧ v = .bool r.2) := by
  unfold f_mark_Add at H
  refine enter (l := [v1, .int .i64 p1, .int .i32 p2]) Tryd.func53 rfl rfl rfl ?_
  refine sr ?_
  refine va (.bool false) ?_
  refine wln ?_
  refine sr ?_
  refine va (v1) ?_
  refine va (.int .i64 p1) ?_
  obtain ⟨x_5, h3, H⟩ := bs H
  refine WL.callP rfl (by kernel_rfl) (c_mark_At O0 R0 p0 p1 h2 h3) ?_
  rintro v12 c11 l11 ⟨v4, u5, O8, rfl, h6⟩
  refine va (.tuple #[.int .i64 x_5.1, .agg #[.int .i64 x_5.2.1.Wide, v4], .bool x_5.2.2]) ?_
  refine va (.int .i64 x_5.1) ?_
  refine va (.agg #[.int .i64 x_5.2.1.Wide, v4]) ?_
  refine va (.bool x_5.2.2) ?_
  refine WL.mem rfl (Own.al (T := 95) (vs := [.int .i64 0, .slice none 0 0]) O8 (by kernel_rfl)) ?_
  rintro v16 c15 l15 ⟨b13, rfl, O14⟩
  refine va (.int .i64 x_5.1) ?_
  obtain ⟨a17, a18, a19, rfl⟩ := ((h6.mono l15)).form
  refine WL.memD rfl (Own.st (T := 95) (j := 0) (us := [.int .i64 x_5.2.1.Wide, .slice a17 a18 a19]) (nw := [.int .i64 x_5.2.1.Wide, .slice a17 a18 a19]) (v := .agg #[.int .i64 x_5.2.1.Wide, .slice a17 a18 a19]) 0 O14 (by kernel_rfl) rfl rfl rfl rfl (by kernel_rfl) ⟨rfl, ((h6.mono l15)).one, trivial⟩ rfl rfl) ?_
  rintro c21 l21 O20
  refine va (.bool x_5.2.2) ?_
  refine wln ?_
  refine W.seq ?_
  refine W.seq ?_
  obtain ⟨d_17, h22, H⟩ := bs H
  refine W.join (fun e w => ∃ (c : Cx) (g : Nat → Value), w = c.w ∧ c21.le c ∧ Own c G (⟨.pointer (some ⟨b13, 0, none⟩), 95, [.int .i64 x_5.2.1.Wide, .slice a17 a18 a19], 0⟩ :: es true (RI .i32) (.slice a17 a18 a19) 21 u5 x_5.2.1.Text :: F) ∧ e = ups g [(0, v1), (2, .int .i32 p2), (7, .int .i64 x_5.1), (8, .pointer (some ⟨b13, 0, none⟩)), (24, .bool d_17)]) ?_ ?_
  · clear H
    refine W.region ?_
    refine va (.bool x_5.2.2) ?_
    refine va (.bool (!x_5.2.2)) ?_
    rcases Bool.eq_false_or_eq_true (!x_5.2.2) with h23 | h23
    · skip
      obtain rfl := orT h23 h22
      refine vb h23 ?_
      refine ps ?_
      refine ps ?_
      refine ps ?_
      refine ps ?_
      refine va (.bool true) ?_
      refine wln ?_
      exact ⟨c21, _, rfl, (Cx.le.refl _), O20, ups_self ⟨rfl, rfl, rfl, rfl, rfl, trivial⟩⟩
    · skip
      have H24 := orF h23 h22
      refine vb h23 ?_
      refine wn ?_
      refine va (.pointer (some ⟨b13, 1, none⟩)) ?_
      refine wn ?_
      refine WL.val0 (v := .slice a17 a18 a19) rfl (rx (by kernel_rfl) (ldE1 (j := 1) Tryd.underlying25 rfl (O20.on 0 rfl) rfl rfl)) ?_
      refine wn ?_
      refine WL.val0 (v := .int .i64 (x_5.2.1.Text.length : Int)) rfl (rx (by kernel_rfl) (run_lenO (ty := 3) Tryd.underlying25 (h6.mono (l15.trans l21)) _)) ?_
      refine wn ?_
      refine va (.bool (decide ((x_5.2.1.Text.length : Int) ≥ 16))) ?_
      obtain rfl := Option.some.inj H24
      refine va (.bool (decide ((x_5.2.1.Text.length : Int) ≥ 16))) ?_
      refine wln ?_
      exact ⟨c21, _, rfl, (Cx.le.refl _), O20, ups_self ⟨rfl, rfl, rfl, rfl, rfl, trivial⟩⟩
  · skip
    rintro e_ w_ ⟨c25, g26, rfl, l25, O27, rfl⟩
    refine nrm ?_
    refine W.cond (t := d_17) (by kernel_rfl) (fun h31 => ?_) (fun h31 => ?_)
    · have H := it h31 H
      refine sr ?_
      refine va (.bool false) ?_
      refine wln ?_
      refine W.ret ?_
      refine thr ?_
      obtain rfl := Option.some.inj H
      have O32 := O27.selD 2 [] (by kernel_rfl) (by kernel_rfl)
      exact ret1 (v := .bool false) rfl (by kernel_rfl) ⟨_, c25, rfl, rfl, (l11.trans (l15.trans (l21.trans l25))), G, O32, (R0.mono (l11.trans (l15.trans (l21.trans l25)))), rfl⟩
    · have H := ie h31 H
      refine W.skip ?_
      refine nrm ?_
      refine W.seq ?_
      refine W.regionD [] (Kp G0 [⟨.pointer (some ⟨b13, 0, none⟩), 95, [.int .i64 x_5.2.1.Wide, .slice a17 a18 a19], 0⟩]) O27 (by kernel_rfl) ?_
      intro c33 l33 O34
      have p35 : Kp G0 [⟨.pointer (some ⟨b13, 0, none⟩), 95, [.int .i64 x_5.2.1.Wide, .slice a17 a18 a19], 0⟩] c33 := (Kp.cons (O34.on 0 rfl) Kp.nil0)
      refine ta 0 (v1) ?_
      refine ta 1 (.int .i64 x_5.1) ?_
      refine ta 2 (.pointer (some ⟨b13, 0, none⟩)) ?_
      refine AC.takeK 3 (.int .i64 x_5.2.1.Wide) p35 rfl (by kernel_rfl) (by kernel_rfl) (by kernel_rfl) (fun c' hle hk => (rx (by kernel_rfl) (ldE1 (j := 0) Tryd.underlying3 rfl (hk.on 0 rfl) rfl rfl))) ?_
      refine ta 4 (.pointer (some ⟨b13, 1, none⟩)) ?_
      refine AC.takeK 5 (.slice a17 a18 a19) p35 rfl (by kernel_rfl) (by kernel_rfl) (by kernel_rfl) (fun c' hle hk => (rx (by kernel_rfl) (ldE1 (j := 1) Tryd.underlying25 rfl (hk.on 0 rfl) rfl rfl))) ?_
      refine ta 6 (.int .i32 p2) ?_
      refine AC.one 7 (by kernel_rfl) (Go1.mem 7 rfl (by kernel_rfl) (by kernel_rfl) (Own.sl (R := (RI .i32)) (E := 21) (ls := [[.int .i32 p2]]) (vs := [.int .i32 p2]) (xs := ([p2] : List Int)) true O34 (Nat.succ_pos _) rfl ⟨rfl, trivial⟩ (by kernel_rfl) (by kernel_rfl)) ?_)
      rintro v40 c39 l39 ⟨u37, O36, h38⟩
      have p41 : Kp G0 [⟨.pointer (some ⟨b13, 0, none⟩), 95, [.int .i64 x_5.2.1.Wide, .slice a17 a18 a19], 0⟩] c39 := (Kp.cons (O36.on 1 rfl) Kp.nil0)
      refine ⟨.inr p41, ?_⟩
      obtain ⟨c44, h45, l44, O42, h43⟩ := O36.frz 0 rfl h38
      have p46 : Kp G0 [⟨.pointer (some ⟨b13, 0, none⟩), 95, [.int .i64 x_5.2.1.Wide, .slice a17 a18 a19], 0⟩] c44 := (Kp.cons (O42.on 1 rfl) Kp.nil0)
      refine AC.gh h45 l44 (fun _ => p46) ?_
      obtain ⟨x_34, h47, H⟩ := bs H
      refine AC.one 8 (by kernel_rfl) (Go1.mem 8 rfl (by kernel_rfl) (by kernel_rfl) (Own.app (R := (RI .i32)) (z := .int .i32 0) (by_ := 4) (ty := 25) 2 O42 rfl (h6.mono (l15.trans (l21.trans (l25.trans (l33.trans (l39.trans l44)))))) h43 h47 Tryd.underlying25 (by kernel_rfl) rfl (by kernel_rfl) (by kernel_rfl)) ?_)
      rintro v52 c51 l51 ⟨u49, O48, h50⟩
      have p53 : Kp G0 [⟨.pointer (some ⟨b13, 0, none⟩), 95, [.int .i64 x_5.2.1.Wide, .slice a17 a18 a19], 0⟩] c51 := (Kp.cons (O48.on 1 rfl) Kp.nil0)
      refine ⟨.inr p53, ?_⟩
      obtain ⟨c56, h57, l56, O54, h55⟩ := O48.frz 2 rfl h50
      have p58 : Kp G0 [⟨.pointer (some ⟨b13, 0, none⟩), 95, [.int .i64 x_5.2.1.Wide, .slice a17 a18 a19], 0⟩] c56 := (Kp.cons (O54.on 1 rfl) Kp.nil0)
      refine AC.gh h57 l56 (fun _ => p58) ?_
      obtain ⟨x_35, h59, H⟩ := bs H
      refine AC.one 9 (by kernel_rfl) (Go1.callP 9 rfl (by kernel_rfl) (by kernel_rfl) (by kernel_rfl) (c_mark_Put O54 (R0.mono (l11.trans (l15.trans (l21.trans (l25.trans (l33.trans (l39.trans (l44.trans (l51.trans l56))))))))) ((hG.mono (l11.trans (l15.trans (l21.trans (l25.trans (l33.trans (l39.trans (l44.trans (l51.trans l56))))))))).le (by decide)) p0 x_5.1 x_5.2.1.Wide x_34 (h2.mono (l11.trans (l15.trans (l21.trans (l25.trans (l33.trans (l39.trans (l44.trans (l51.trans l56))))))))) h55 h59) ?_)
      rintro v60 c66 l66 ⟨_, G62, O63, R64, rfl, h61⟩
      have p68 : Kp G0 [⟨.pointer (some ⟨b13, 0, none⟩), 95, [.int .i64 x_5.2.1.Wide, .slice a17 a18 a19], 0⟩] c66 := (Kp.cons (O63.on 1 rfl) Kp.nil0)
      refine ⟨.inr p68, ?_⟩
      refine AC.take 10 (.bool x_35.2.isNil) rfl (by kernel_rfl) (by kernel_rfl) (fun c' hle => (by rcases (h61).cs with ⟨h1_, h2_⟩ | ⟨b_, h1_, h2_⟩ | ⟨b_, h1_, h2_⟩ <;> (subst h1_; rw [h2_]; kernel_rfl))) ?_
      refine ta 11 (.bool x_35.2.isNil) ?_
      refine AC.done (by kernel_rfl) ?_
      refine nrm ?_
      refine W.ret ?_
      obtain rfl := Option.some.inj H
      have O69 := O63.selD 3 [] (by kernel_rfl) (by kernel_rfl)
      exact ret1 (v := .bool x_35.2.isNil) rfl (by kernel_rfl) ⟨_, c66, rfl, rfl, (l11.trans (l15.trans (l21.trans (l25.trans (l33.trans (l39.trans (l44.trans (l51.trans (l56.trans l66))))))))), G62, O69, R64, rfl⟩

def f_linotypelaw25_works (sg : Sto) : Option (Sto × Bool) :=
  (f_row_New sg 4).bind fun x_3 =>
  (if (!x_3.2.isNone) = true then (f_mark_Put x_3.1 x_3.2 0 1 ([10084] : List Int)).bind fun x_12 =>
  some (x_12.2.isNil, x_12.1) else some (false, x_3.1)).bind fun d_8 =>
  (if d_8.1 = true then (f_mark_Widen d_8.2 x_3.2 0).bind fun x_17 =>
  some (x_17.2, x_17.1) else some (false, d_8.2)).bind fun d_14 =>
  (if d_14.1 = true then (f_mark_Add d_14.2 x_3.2 1 65039).bind fun x_21 =>
  some (x_21.2, x_21.1) else some (false, d_14.2)).bind fun d_18 =>
  (andE d_18.1 ((f_row_Row_Cells d_18.2 x_3.2).bind fun x_25 =>
  (f_linotyperef23_Same x_25 ([(⟨2, ([10084, 65039] : List Int)⟩ : G_api_Cell), (⟨3, ([] : List Int)⟩ : G_api_Cell), (⟨0, ([] : List Int)⟩ : G_api_Cell), (⟨0, ([] : List Int)⟩ : G_api_Cell)] : List G_api_Cell)).bind fun x_32 =>
  some x_32)).bind fun d_22 =>
  some (d_18.2, d_22)
theorem c_linotypelaw25_works {c0 : Cx} {G : Gm} {F : List En} {sg : Sto} (O0 : Own c0 G F) (R0 : Rel c0 sg G) (hG : Gl [0, 1] c0) {r : Sto × Bool} (H : f_linotypelaw25_works sg = some r) :
    Calls Tryd.prog 41 #[] c0.w (Post c0 fun c v => ∃ G_ : Gm, Own c G_ (F) ∧ Rel c r.1 G_ ∧ v = .bool r.2) := by
  unfold f_linotypelaw25_works at H
  refine enter (l := []) Tryd.func41 rfl rfl rfl ?_
  refine sr ?_
  refine va (.bool false) ?_
  refine wln ?_
  refine sr ?_
  obtain ⟨x_3, h1, H⟩ := bs H
  refine WL.callP rfl (by kernel_rfl) (c_row_New O0 R0 4 h1) ?_
  rintro v2 c8 l8 ⟨_, G4, O5, R6, a7, rfl, h3⟩
  refine va (v2) ?_
  refine wln ?_
  refine W.seq ?_
  obtain ⟨d_8, h10, H⟩ := bs H
  obtain ⟨d_14, h11, H⟩ := bs H
  obtain ⟨d_18, h12, H⟩ := bs H
  obtain ⟨d_22, h13, H⟩ := bs H
  refine W.join (fun e w => ∃ (c : Cx) (g : Nat → Value) (G_ : Gm), w = c.w ∧ c8.le c ∧ Own c G_ (F) ∧ e = ups g [(0, .bool d_22)] ∧ Rel c d_18.2 G_) ?_ ?_
  · clear H
    refine W.region ?_
    refine va (v2) ?_
    refine WL.val0 (v := .bool (!x_3.2.isNone)) rfl (by rcases (h3).cs with ⟨h1_, h2_⟩ | ⟨b_, h1_, h2_⟩ <;> (subst h1_; rw [h2_]; kernel_rfl)) ?_
    rcases Bool.eq_false_or_eq_true (!x_3.2.isNone) with h14 | h14
    · skip
      have H15 := it h14 h10
      refine vb h14 ?_
      refine wn ?_
      refine va (v2) ?_
      refine wn ?_
      refine WL.mem rfl (Own.sl (R := (RI .i32)) (E := 21) (ls := [[.int .i32 10084]]) (vs := [.int .i32 10084]) (xs := ([10084] : List Int)) true O5 (Nat.succ_pos _) rfl ⟨rfl, trivial⟩ (by kernel_rfl) (by kernel_rfl)) ?_
      rintro v20 c19 l19 ⟨u17, O16, h18⟩
      refine wn ?_
      obtain ⟨c23, h24, l23, O21, h22⟩ := O16.frz 0 rfl h18
      refine WL.gh h24 ?_
      obtain ⟨x_12, h25, H15⟩ := bs H15
      refine WL.callP rfl (by kernel_rfl) (c_mark_Put O21 (R6.mono (l19.trans l23)) ((hG.mono (l8.trans (l19.trans l23))).le (by decide)) x_3.2 0 1 ([10084] : List Int) (h3.mono (l19.trans l23)) h22 h25) ?_
      rintro v26 c32 l32 ⟨_, G28, O29, R30, rfl, h27⟩
      refine wn ?_
      refine WL.val0 (v := .bool x_12.2.isNil) rfl (by rcases (h27).cs with ⟨h1_, h2_⟩ | ⟨b_, h1_, h2_⟩ | ⟨b_, h1_, h2_⟩ <;> (subst h1_; rw [h2_]; kernel_rfl)) ?_
      obtain rfl := Option.some.inj H15
      refine va (.bool x_12.2.isNil) ?_
      rcases Bool.eq_false_or_eq_true (x_12.2.isNil) with h34 | h34
      · skip
        have H35 := it h34 h11
        refine vb h34 ?_
        refine wn ?_
        refine va (v2) ?_
        refine wn ?_
        obtain ⟨x_17, h36, H35⟩ := bs H35
        refine WL.callP rfl (by kernel_rfl) (c_mark_Widen O29 R30 ((hG.mono (l8.trans (l19.trans (l23.trans l32)))).le (by decide)) x_3.2 0 (h3.mono (l19.trans (l23.trans l32))) h36) ?_
        rintro v42 c41 l41 ⟨G37, O38, R39, rfl⟩
        obtain rfl := Option.some.inj H35
        refine va (.bool x_17.2) ?_
        rcases Bool.eq_false_or_eq_true (x_17.2) with h43 | h43
        · skip
          have H44 := it h43 h12
          refine vb h43 ?_
          refine wn ?_
          refine va (v2) ?_
          refine wn ?_
          obtain ⟨x_21, h45, H44⟩ := bs H44
          refine WL.callP rfl (by kernel_rfl) (c_mark_Add O38 R39 ((hG.mono (l8.trans (l19.trans (l23.trans (l32.trans l41))))).le (by decide)) x_3.2 1 65039 (h3.mono (l19.trans (l23.trans (l32.trans l41)))) h45) ?_
          rintro v51 c50 l50 ⟨G46, O47, R48, rfl⟩
          obtain rfl := Option.some.inj H44
          refine va (.bool x_21.2) ?_
          rcases Bool.eq_false_or_eq_true (x_21.2) with h52 | h52
          · skip
            have H53 := anT h52 h13
            refine vb h52 ?_
            refine wn ?_
            refine va (v2) ?_
            refine wn ?_
            obtain ⟨x_25, h54, H53⟩ := bs H53
            refine WL.callP rfl (by kernel_rfl) (c_row_Row_Cells O47 R48 x_3.2 (h3.mono (l19.trans (l23.trans (l32.trans (l41.trans l50))))) h54) ?_
            rintro v55 c62 l62 ⟨_, u56, O59, rfl, h57⟩
            refine wn ?_
            refine WL.mem rfl (Own.sl (R := (RI .i32)) (E := 21) (ls := [[.int .i32 10084], [.int .i32 65039]]) (vs := [.int .i32 10084, .int .i32 65039]) (xs := ([10084, 65039] : List Int)) true O59 (Nat.succ_pos _) rfl ⟨rfl, rfl, trivial⟩ (by kernel_rfl) (by kernel_rfl)) ?_
            rintro v68 c67 l67 ⟨u65, O64, h66⟩
            refine wn ?_
            obtain ⟨a69, a70, a71, rfl⟩ := (h66).form
            refine va (.agg #[.int .i64 2, .slice a69 a70 a71]) ?_
            refine wn ?_
            refine va (.agg #[.int .i64 3, .slice none 0 0]) ?_
            refine wn ?_
            refine va (.agg #[.int .i64 0, .slice none 0 0]) ?_
            refine wn ?_
            refine va (.agg #[.int .i64 0, .slice none 0 0]) ?_
            refine wn ?_
            obtain ⟨c74, h75, l74, O72, h73⟩ := O64.frz 0 rfl h66
            refine WL.gh h75 ?_
            refine WL.mem rfl (Own.sl (R := R_api_Cell) (E := 27) (ls := [[.int .i64 2, .slice a69 a70 a71], [.int .i64 3, .slice none 0 0], [.int .i64 0, .slice none 0 0], [.int .i64 0, .slice none 0 0]]) (vs := [.int .i64 2, .slice a69 a70 a71, .int .i64 3, .slice none 0 0, .int .i64 0, .slice none 0 0, .int .i64 0, .slice none 0 0]) (xs := ([(⟨2, ([10084, 65039] : List Int)⟩ : G_api_Cell), (⟨3, ([] : List Int)⟩ : G_api_Cell), (⟨0, ([] : List Int)⟩ : G_api_Cell), (⟨0, ([] : List Int)⟩ : G_api_Cell)] : List G_api_Cell)) true O72 (Nat.succ_pos _) rfl ⟨⟨(.slice a69 a70 a71), rfl, h73⟩, ⟨(.slice none 0 0), rfl, (Sl.nl _ _)⟩, ⟨(.slice none 0 0), rfl, (Sl.nl _ _)⟩, ⟨(.slice none 0 0), rfl, (Sl.nl _ _)⟩, trivial⟩ (by kernel_rfl) (by kernel_rfl)) ?_
            rintro v80 c79 l79 ⟨u77, O76, h78⟩
            refine wn ?_
            obtain ⟨c83, h84, l83, O81, h82⟩ := O76.frz 2 rfl (h57.mono (l67.trans (l74.trans l79)))
            refine WL.gh h84 ?_
            obtain ⟨c87, h88, l87, O85, h86⟩ := O81.frz 0 rfl (h78.mono l83)
            refine WL.gh h88 ?_
            obtain ⟨x_32, h89, H53⟩ := bs H53
            refine WL.callP rfl (by kernel_rfl) (c_linotyperef23_Same O85 x_25 ([(⟨2, ([10084, 65039] : List Int)⟩ : G_api_Cell), (⟨3, ([] : List Int)⟩ : G_api_Cell), (⟨0, ([] : List Int)⟩ : G_api_Cell), (⟨0, ([] : List Int)⟩ : G_api_Cell)] : List G_api_Cell) (h82.mono l87) h86 h89) ?_
            rintro v95 c94 l94 ⟨O91, rfl⟩
            obtain rfl := Option.some.inj H53
            refine va (.bool x_32) ?_
            refine va (.bool x_32) ?_
            refine wln ?_
            have O96 := O91.selD 4 [] (by kernel_rfl) (by kernel_rfl)
            exact ⟨c94, _, G46, rfl, (l19.trans (l23.trans (l32.trans (l41.trans (l50.trans (l62.trans (l67.trans (l74.trans (l79.trans (l83.trans (l87.trans l94))))))))))), O96, ups_self ⟨rfl, trivial⟩, (R48.mono (l62.trans (l67.trans (l74.trans (l79.trans (l83.trans (l87.trans l94)))))))⟩
          · skip
            obtain rfl := anF h52 h13
            refine vb h52 ?_
            refine ps ?_
            refine ps ?_
            refine ps ?_
            refine ps ?_
            refine ps ?_
            refine ps ?_
            refine ps ?_
            refine ps ?_
            refine ps ?_
            refine va (.bool false) ?_
            refine va (.bool false) ?_
            refine wln ?_
            have O97 := O47.selD 1 [] (by kernel_rfl) (by kernel_rfl)
            exact ⟨c50, _, G46, rfl, (l19.trans (l23.trans (l32.trans (l41.trans l50)))), O97, ups_self ⟨rfl, trivial⟩, R48⟩
        · skip
          obtain rfl := Option.some.inj (ie h43 h12)
          refine vb h43 ?_
          refine ps ?_
          refine ps ?_
          refine va (.bool false) ?_
          have h98 : false = false := rfl
          obtain rfl := anF h98 h13
          refine vb h98 ?_
          refine ps ?_
          refine ps ?_
          refine ps ?_
          refine ps ?_
          refine ps ?_
          refine ps ?_
          refine ps ?_
          refine ps ?_
          refine ps ?_
          refine va (.bool false) ?_
          refine va (.bool false) ?_
          refine wln ?_
          have O99 := O38.selD 1 [] (by kernel_rfl) (by kernel_rfl)
          exact ⟨c41, _, G37, rfl, (l19.trans (l23.trans (l32.trans l41))), O99, ups_self ⟨rfl, trivial⟩, R39⟩
      · skip
        obtain rfl := Option.some.inj (ie h34 h11)
        refine vb h34 ?_
        refine ps ?_
        refine ps ?_
        refine va (.bool false) ?_
        have h100 : false = false := rfl
        obtain rfl := Option.some.inj (ie h100 h12)
        refine vb h100 ?_
        refine ps ?_
        refine ps ?_
        refine va (.bool false) ?_
        have h101 : false = false := rfl
        obtain rfl := anF h101 h13
        refine vb h101 ?_
        refine ps ?_
        refine ps ?_
        refine ps ?_
        refine ps ?_
        refine ps ?_
        refine ps ?_
        refine ps ?_
        refine ps ?_
        refine ps ?_
        refine va (.bool false) ?_
        refine va (.bool false) ?_
        refine wln ?_
        have O102 := O29.selD 1 [] (by kernel_rfl) (by kernel_rfl)
        exact ⟨c32, _, G28, rfl, (l19.trans (l23.trans l32)), O102, ups_self ⟨rfl, trivial⟩, R30⟩
    · skip
      obtain rfl := Option.some.inj (ie h14 h10)
      refine vb h14 ?_
      refine ps ?_
      refine ps ?_
      refine ps ?_
      refine ps ?_
      refine va (.bool false) ?_
      have h103 : false = false := rfl
      obtain rfl := Option.some.inj (ie h103 h11)
      refine vb h103 ?_
      refine ps ?_
      refine ps ?_
      refine va (.bool false) ?_
      have h104 : false = false := rfl
      obtain rfl := Option.some.inj (ie h104 h12)
      refine vb h104 ?_
      refine ps ?_
      refine ps ?_
      refine va (.bool false) ?_
      have h105 : false = false := rfl
      obtain rfl := anF h105 h13
      refine vb h105 ?_
      refine ps ?_
      refine ps ?_
      refine ps ?_
      refine ps ?_
      refine ps ?_
      refine ps ?_
      refine ps ?_
      refine ps ?_
      refine ps ?_
      refine va (.bool false) ?_
      refine va (.bool false) ?_
      refine wln ?_
      exact ⟨c8, _, G4, rfl, (Cx.le.refl _), O5, ups_self ⟨rfl, trivial⟩, R6⟩
  · skip
    rintro e_ w_ ⟨c106, g107, G109, rfl, l106, O108, rfl, R110⟩
    refine nrm ?_
    refine W.ret ?_
    obtain rfl := Option.some.inj H
    exact ret1 (v := .bool d_22) rfl (by kernel_rfl) ⟨_, c106, rfl, rfl, (l8.trans l106), G109, O108, R110, rfl⟩

def f_linotypelaw25_MarkWidens (sg : Sto) (p0 : List G_api_Cell) (p1 : Int) (p2 : List Int) : Option (Sto × Bool) :=
  (f_linotypelaw25_works sg).bind fun x_3 =>
  (orE (!x_3.2) (some (decide ((p0.length : Int) > 60)))).bind fun d_5 =>
  (orE d_5 (some (decide ((p0.length : Int) < 2)))).bind fun d_10 =>
  (orE d_10 ((f_linotyperef23_Sound p0).bind fun x_18 =>
  some (!x_18))).bind fun d_15 =>
  (orE d_15 (some ((p2.length : Int) == 0))).bind fun d_20 =>
  (orE d_20 (some (decide ((p2.length : Int) > 40)))).bind fun d_25 =>
  if d_25 = true then
  (f_linotypelaw25_works x_3.1).bind fun x_31 =>
  some (x_31.1, x_31.2)
  else
  (dvg (IntKind.u64.wrap (w64 ((p0.length : Int) - 1)))).bind fun x_40 =>
  (f_row_Of x_3.1 p0).bind fun x_45 =>
  (f_row_Of x_45.1 p0).bind fun x_53 =>
  (orE (!x_45.2.2.isNil) (some (!x_53.2.2.isNil))).bind fun d_62 =>
  (if d_62 = true then some (true, x_53.1) else (f_mark_Put x_53.1 x_45.2.1 (w64 ((IntKind.u64.wrap p1).tmod (IntKind.u64.wrap (w64 ((p0.length : Int) - 1))))) 1 p2).bind fun x_71 =>
  some (!x_71.2.isNil, x_71.1)).bind fun d_66 =>
  (if d_66.1 = true then some (true, d_66.2) else (f_mark_Widen d_66.2 x_45.2.1 (w64 ((IntKind.u64.wrap p1).tmod (IntKind.u64.wrap (w64 ((p0.length : Int) - 1)))))).bind fun x_77 =>
  some (!x_77.2, x_77.1)).bind fun d_73 =>
  (if d_73.1 = true then some (true, d_73.2) else (f_mark_Put d_73.2 x_53.2.1 (w64 ((IntKind.u64.wrap p1).tmod (IntKind.u64.wrap (w64 ((p0.length : Int) - 1))))) 2 p2).bind fun x_84 =>
  some (!x_84.2.isNil, x_84.1)).bind fun d_79 =>
  if d_79.1 = true then
  some (d_79.2, false)
  else
  (f_row_Row_Cells d_79.2 x_45.2.1).bind fun x_90 =>
  (f_row_Row_Cells d_79.2 x_53.2.1).bind fun x_92 =>
  (f_linotyperef23_Same x_90 x_92).bind fun x_93 =>
  some (d_79.2, x_93)
theorem c_linotypelaw25_MarkWidens {c0 : Cx} {G : Gm} {F : List En} {sg : Sto} {v1 : Value} {v3 : Value} (O0 : Own c0 G F) (R0 : Rel c0 sg G) (hG : Gl [0, 1] c0) (p0 : List G_api_Cell) (p1 : Int) (p2 : List Int) {r : Sto × Bool} (h2 : Sl R_api_Cell c0 v1 p0) (h4 : Sl (RI .i32) c0 v3 p2) (H : f_linotypelaw25_MarkWidens sg p0 p1 p2 = some r) :
    Calls Tryd.prog 8 #[v1, .int .i64 p1, v3] c0.w (Post c0 fun c v => ∃ G_ : Gm, Own c G_ (F) ∧ Rel c r.1 G_ ∧ v = .bool r.2) := by
  unfold f_linotypelaw25_MarkWidens at H
  refine enter (l := [v1, .int .i64 p1, v3]) Tryd.func8 rfl rfl rfl ?_
  refine sr ?_
  refine va (.bool false) ?_
  refine wln ?_
  refine W.seq ?_
  refine W.seq ?_
  obtain ⟨x_3, h5, H⟩ := bs H
  obtain ⟨d_5, h6, H⟩ := bs H
  obtain ⟨d_10, h7, H⟩ := bs H
  obtain ⟨d_15, h8, H⟩ := bs H
  obtain ⟨d_20, h9, H⟩ := bs H
  obtain ⟨d_25, h10, H⟩ := bs H
  refine W.join (fun e w => ∃ (c : Cx) (g : Nat → Value) (G_ : Gm), w = c.w ∧ c0.le c ∧ Own c G_ (F) ∧ e = ups g [(0, v1), (1, .int .i64 p1), (2, v3), (37, .bool d_25)] ∧ Rel c x_3.1 G_) ?_ ?_
  · clear H
    refine W.region ?_
    refine WL.callP rfl (by kernel_rfl) (c_linotypelaw25_works O0 R0 (hG.le (by decide)) h5) ?_
    rintro v16 c15 l15 ⟨G11, O12, R13, rfl⟩
    refine va (.bool (!x_3.2)) ?_
    rcases Bool.eq_false_or_eq_true (!x_3.2) with h17 | h17
    · skip
      obtain rfl := orT h17 h6
      refine vb h17 ?_
      refine ps ?_
      refine ps ?_
      refine ps ?_
      refine va (.bool true) ?_
      have h18 : true = true := rfl
      obtain rfl := orT h18 h7
      refine vb h18 ?_
      refine ps ?_
      refine ps ?_
      refine ps ?_
      refine va (.bool true) ?_
      have h19 : true = true := rfl
      obtain rfl := orT h19 h8
      refine vb h19 ?_
      refine ps ?_
      refine ps ?_
      refine ps ?_
      refine va (.bool true) ?_
      have h20 : true = true := rfl
      obtain rfl := orT h20 h9
      refine vb h20 ?_
      refine ps ?_
      refine ps ?_
      refine ps ?_
      refine va (.bool true) ?_
      have h21 : true = true := rfl
      obtain rfl := orT h21 h10
      refine vb h21 ?_
      refine ps ?_
      refine ps ?_
      refine ps ?_
      refine va (.bool true) ?_
      refine wln ?_
      exact ⟨c15, _, G11, rfl, l15, O12, ups_self ⟨rfl, rfl, rfl, rfl, trivial⟩, R13⟩
    · skip
      have H22 := orF h17 h6
      refine vb h17 ?_
      refine wn ?_
      refine va (v1) ?_
      refine wn ?_
      refine WL.val0 (v := .int .i64 (p0.length : Int)) rfl (rx (by kernel_rfl) (run_len (ty := 3) Tryd.underlying22 (h2.mono l15) _)) ?_
      refine wn ?_
      refine va (.bool (decide ((p0.length : Int) > 60))) ?_
      obtain rfl := Option.some.inj H22
      refine va (.bool (decide ((p0.length : Int) > 60))) ?_
      rcases Bool.eq_false_or_eq_true (decide ((p0.length : Int) > 60)) with h23 | h23
      · skip
        obtain rfl := orT h23 h7
        refine vb h23 ?_
        refine ps ?_
        refine ps ?_
        refine ps ?_
        refine va (.bool true) ?_
        have h24 : true = true := rfl
        obtain rfl := orT h24 h8
        refine vb h24 ?_
        refine ps ?_
        refine ps ?_
        refine ps ?_
        refine va (.bool true) ?_
        have h25 : true = true := rfl
        obtain rfl := orT h25 h9
        refine vb h25 ?_
        refine ps ?_
        refine ps ?_
        refine ps ?_
        refine va (.bool true) ?_
        have h26 : true = true := rfl
        obtain rfl := orT h26 h10
        refine vb h26 ?_
        refine ps ?_
        refine ps ?_
        refine ps ?_
        refine va (.bool true) ?_
        refine wln ?_
        exact ⟨c15, _, G11, rfl, l15, O12, ups_self ⟨rfl, rfl, rfl, rfl, trivial⟩, R13⟩
      · skip
        have H27 := orF h23 h7
        refine vb h23 ?_
        refine wn ?_
        refine va (v1) ?_
        refine wn ?_
        refine WL.val0 (v := .int .i64 (p0.length : Int)) rfl (rx (by kernel_rfl) (run_len (ty := 3) Tryd.underlying22 (h2.mono l15) _)) ?_
        refine wn ?_
        refine va (.bool (decide ((p0.length : Int) < 2))) ?_
        obtain rfl := Option.some.inj H27
        refine va (.bool (decide ((p0.length : Int) < 2))) ?_
        rcases Bool.eq_false_or_eq_true (decide ((p0.length : Int) < 2)) with h28 | h28
        · skip
          obtain rfl := orT h28 h8
          refine vb h28 ?_
          refine ps ?_
          refine ps ?_
          refine ps ?_
          refine va (.bool true) ?_
          have h29 : true = true := rfl
          obtain rfl := orT h29 h9
          refine vb h29 ?_
          refine ps ?_
          refine ps ?_
          refine ps ?_
          refine va (.bool true) ?_
          have h30 : true = true := rfl
          obtain rfl := orT h30 h10
          refine vb h30 ?_
          refine ps ?_
          refine ps ?_
          refine ps ?_
          refine va (.bool true) ?_
          refine wln ?_
          exact ⟨c15, _, G11, rfl, l15, O12, ups_self ⟨rfl, rfl, rfl, rfl, trivial⟩, R13⟩
        · skip
          have H31 := orF h28 h8
          refine vb h28 ?_
          refine wn ?_
          refine va (v1) ?_
          refine wn ?_
          obtain ⟨x_18, h32, H31⟩ := bs H31
          refine WL.callP rfl (by kernel_rfl) (c_linotyperef23_Sound O12 p0 (h2.mono l15) h32) ?_
          rintro v38 c37 l37 ⟨O34, rfl⟩
          refine wn ?_
          refine va (.bool (!x_18)) ?_
          obtain rfl := Option.some.inj H31
          refine va (.bool (!x_18)) ?_
          rcases Bool.eq_false_or_eq_true (!x_18) with h39 | h39
          · skip
            obtain rfl := orT h39 h9
            refine vb h39 ?_
            refine ps ?_
            refine ps ?_
            refine ps ?_
            refine va (.bool true) ?_
            have h40 : true = true := rfl
            obtain rfl := orT h40 h10
            refine vb h40 ?_
            refine ps ?_
            refine ps ?_
            refine ps ?_
            refine va (.bool true) ?_
            refine wln ?_
            exact ⟨c37, _, G11, rfl, (l15.trans l37), O34, ups_self ⟨rfl, rfl, rfl, rfl, trivial⟩, (R13.mono l37)⟩
          · skip
            have H41 := orF h39 h9
            refine vb h39 ?_
            refine wn ?_
            refine va (v3) ?_
            refine wn ?_
            refine WL.val0 (v := .int .i64 (p2.length : Int)) rfl (rx (by kernel_rfl) (run_len (ty := 3) Tryd.underlying25 (h4.mono (l15.trans l37)) _)) ?_
            refine wn ?_
            refine va (.bool ((p2.length : Int) == 0)) ?_
            obtain rfl := Option.some.inj H41
            refine va (.bool ((p2.length : Int) == 0)) ?_
            rcases Bool.eq_false_or_eq_true ((p2.length : Int) == 0) with h42 | h42
            · skip
              obtain rfl := orT h42 h10
              refine vb h42 ?_
              refine ps ?_
              refine ps ?_
              refine ps ?_
              refine va (.bool true) ?_
              refine wln ?_
              exact ⟨c37, _, G11, rfl, (l15.trans l37), O34, ups_self ⟨rfl, rfl, rfl, rfl, trivial⟩, (R13.mono l37)⟩
            · skip
              have H43 := orF h42 h10
              refine vb h42 ?_
              refine wn ?_
              refine va (v3) ?_
              refine wn ?_
              refine WL.val0 (v := .int .i64 (p2.length : Int)) rfl (rx (by kernel_rfl) (run_len (ty := 3) Tryd.underlying25 (h4.mono (l15.trans l37)) _)) ?_
              refine wn ?_
              refine va (.bool (decide ((p2.length : Int) > 40))) ?_
              obtain rfl := Option.some.inj H43
              refine va (.bool (decide ((p2.length : Int) > 40))) ?_
              refine wln ?_
              exact ⟨c37, _, G11, rfl, (l15.trans l37), O34, ups_self ⟨rfl, rfl, rfl, rfl, trivial⟩, (R13.mono l37)⟩
  · skip
    rintro e_ w_ ⟨c44, g45, G47, rfl, l44, O46, rfl, R48⟩
    refine nrm ?_
    refine W.cond (t := d_25) (by kernel_rfl) (fun h50 => ?_) (fun h50 => ?_)
    · have H := it h50 H
      refine sr ?_
      obtain ⟨x_31, h51, H⟩ := bs H
      refine WL.callP rfl (by kernel_rfl) (c_linotypelaw25_works O46 R48 ((hG.mono l44).le (by decide)) h51) ?_
      rintro v57 c56 l56 ⟨G52, O53, R54, rfl⟩
      refine va (.bool x_31.2) ?_
      refine wln ?_
      refine W.ret ?_
      refine thr ?_
      obtain rfl := Option.some.inj H
      exact ret1 (v := .bool x_31.2) rfl (by kernel_rfl) ⟨_, c56, rfl, rfl, (l44.trans l56), G52, O53, R54, rfl⟩
    · have H := ie h50 H
      refine W.skip ?_
      refine nrm ?_
      refine sr ?_
      refine va (.int .i64 p1) ?_
      refine va (.int .u64 (IntKind.u64.wrap p1)) ?_
      refine va (v1) ?_
      refine WL.val0 (v := .int .i64 (p0.length : Int)) rfl (rx (by kernel_rfl) (run_len (ty := 3) Tryd.underlying22 (h2.mono l44) _)) ?_
      refine va (.int .i64 (w64 ((p0.length : Int) - 1))) ?_
      refine va (.int .u64 (IntKind.u64.wrap (w64 ((p0.length : Int) - 1)))) ?_
      obtain ⟨x_40, h58, H⟩ := bs H
      refine WL.val0 (v := .int .u64 ((IntKind.u64.wrap p1).tmod (IntKind.u64.wrap (w64 ((p0.length : Int) - 1))))) rfl (run_rem (a := (IntKind.u64.wrap p1)) (b := (IntKind.u64.wrap (w64 ((p0.length : Int) - 1)))) h58 (by kernel_rfl) _) ?_
      refine va (.int .i64 (w64 ((IntKind.u64.wrap p1).tmod (IntKind.u64.wrap (w64 ((p0.length : Int) - 1)))))) ?_
      refine va (.int .i64 (w64 ((IntKind.u64.wrap p1).tmod (IntKind.u64.wrap (w64 ((p0.length : Int) - 1)))))) ?_
      refine wln ?_
      refine sr ?_
      refine va (v1) ?_
      obtain ⟨x_45, h59, H⟩ := bs H
      refine WL.callP rfl (by kernel_rfl) (c_row_Of O46 R48 ((hG.mono l44).le (by decide)) p0 (h2.mono l44) h59) ?_
      rintro v69 c68 l68 ⟨v60, v62, G64, O65, R66, rfl, h61, h63⟩
      refine va (.tuple #[v60, v62]) ?_
      refine va (v60) ?_
      refine va (v62) ?_
      refine va (v60) ?_
      refine va (v62) ?_
      refine wln ?_
      refine sr ?_
      refine va (v1) ?_
      obtain ⟨x_53, h70, H⟩ := bs H
      refine WL.callP rfl (by kernel_rfl) (c_row_Of O65 R66 ((hG.mono (l44.trans l68)).le (by decide)) p0 (h2.mono (l44.trans l68)) h70) ?_
      rintro v80 c79 l79 ⟨v71, v73, G75, O76, R77, rfl, h72, h74⟩
      refine va (.tuple #[v71, v73]) ?_
      refine va (v71) ?_
      refine va (v73) ?_
      refine va (v71) ?_
      refine va (v73) ?_
      refine wln ?_
      refine W.seq ?_
      refine W.seq ?_
      obtain ⟨d_62, h81, H⟩ := bs H
      obtain ⟨d_66, h82, H⟩ := bs H
      obtain ⟨d_73, h83, H⟩ := bs H
      obtain ⟨d_79, h84, H⟩ := bs H
      refine W.join (fun e w => ∃ (c : Cx) (g : Nat → Value) (G_ : Gm), w = c.w ∧ c79.le c ∧ Own c G_ (F) ∧ e = ups g [(7, v60), (9, v71), (82, .bool d_79.1)] ∧ Rel c d_79.2 G_) ?_ ?_
      · clear H
        refine W.region ?_
        refine va (v62) ?_
        refine WL.val0 (v := .bool (!x_45.2.2.isNil)) rfl (by rcases ((h63.mono l79)).cs with ⟨h1_, h2_⟩ | ⟨b_, h1_, h2_⟩ | ⟨b_, h1_, h2_⟩ <;> (subst h1_; rw [h2_]; kernel_rfl)) ?_
        rcases Bool.eq_false_or_eq_true (!x_45.2.2.isNil) with h85 | h85
        · skip
          obtain rfl := orT h85 h81
          refine vb h85 ?_
          refine ps ?_
          refine ps ?_
          refine va (.bool true) ?_
          have h86 : true = true := rfl
          obtain rfl := Option.some.inj (it h86 h82)
          refine vb h86 ?_
          refine ps ?_
          refine ps ?_
          refine ps ?_
          refine ps ?_
          refine ps ?_
          refine va (.bool true) ?_
          have h87 : true = true := rfl
          obtain rfl := Option.some.inj (it h87 h83)
          refine vb h87 ?_
          refine ps ?_
          refine ps ?_
          refine ps ?_
          refine ps ?_
          refine va (.bool true) ?_
          have h88 : true = true := rfl
          obtain rfl := Option.some.inj (it h88 h84)
          refine vb h88 ?_
          refine ps ?_
          refine ps ?_
          refine ps ?_
          refine ps ?_
          refine ps ?_
          refine va (.bool true) ?_
          refine wln ?_
          exact ⟨c79, _, G75, rfl, (Cx.le.refl _), O76, ups_self ⟨rfl, rfl, rfl, trivial⟩, R77⟩
        · skip
          have H89 := orF h85 h81
          refine vb h85 ?_
          refine wn ?_
          refine va (v73) ?_
          refine wn ?_
          refine WL.val0 (v := .bool (!x_53.2.2.isNil)) rfl (by rcases (h74).cs with ⟨h1_, h2_⟩ | ⟨b_, h1_, h2_⟩ | ⟨b_, h1_, h2_⟩ <;> (subst h1_; rw [h2_]; kernel_rfl)) ?_
          obtain rfl := Option.some.inj H89
          refine va (.bool (!x_53.2.2.isNil)) ?_
          rcases Bool.eq_false_or_eq_true (!x_53.2.2.isNil) with h90 | h90
          · skip
            obtain rfl := Option.some.inj (it h90 h82)
            refine vb h90 ?_
            refine ps ?_
            refine ps ?_
            refine ps ?_
            refine ps ?_
            refine ps ?_
            refine va (.bool true) ?_
            have h91 : true = true := rfl
            obtain rfl := Option.some.inj (it h91 h83)
            refine vb h91 ?_
            refine ps ?_
            refine ps ?_
            refine ps ?_
            refine ps ?_
            refine va (.bool true) ?_
            have h92 : true = true := rfl
            obtain rfl := Option.some.inj (it h92 h84)
            refine vb h92 ?_
            refine ps ?_
            refine ps ?_
            refine ps ?_
            refine ps ?_
            refine ps ?_
            refine va (.bool true) ?_
            refine wln ?_
            exact ⟨c79, _, G75, rfl, (Cx.le.refl _), O76, ups_self ⟨rfl, rfl, rfl, trivial⟩, R77⟩
          · skip
            have H93 := ie h90 h82
            refine vb h90 ?_
            refine wn ?_
            refine va (v60) ?_
            refine wn ?_
            refine va (.int .i64 (w64 ((IntKind.u64.wrap p1).tmod (IntKind.u64.wrap (w64 ((p0.length : Int) - 1)))))) ?_
            refine wn ?_
            refine va (v3) ?_
            refine wn ?_
            obtain ⟨x_71, h94, H93⟩ := bs H93
            refine WL.callP rfl (by kernel_rfl) (c_mark_Put O76 R77 ((hG.mono (l44.trans (l68.trans l79))).le (by decide)) x_45.2.1 (w64 ((IntKind.u64.wrap p1).tmod (IntKind.u64.wrap (w64 ((p0.length : Int) - 1))))) 1 p2 (h61.mono l79) (h4.mono (l44.trans (l68.trans l79))) h94) ?_
            rintro v95 c101 l101 ⟨_, G97, O98, R99, rfl, h96⟩
            refine wn ?_
            refine WL.val0 (v := .bool (!x_71.2.isNil)) rfl (by rcases (h96).cs with ⟨h1_, h2_⟩ | ⟨b_, h1_, h2_⟩ | ⟨b_, h1_, h2_⟩ <;> (subst h1_; rw [h2_]; kernel_rfl)) ?_
            obtain rfl := Option.some.inj H93
            refine va (.bool (!x_71.2.isNil)) ?_
            rcases Bool.eq_false_or_eq_true (!x_71.2.isNil) with h103 | h103
            · skip
              obtain rfl := Option.some.inj (it h103 h83)
              refine vb h103 ?_
              refine ps ?_
              refine ps ?_
              refine ps ?_
              refine ps ?_
              refine va (.bool true) ?_
              have h104 : true = true := rfl
              obtain rfl := Option.some.inj (it h104 h84)
              refine vb h104 ?_
              refine ps ?_
              refine ps ?_
              refine ps ?_
              refine ps ?_
              refine ps ?_
              refine va (.bool true) ?_
              refine wln ?_
              exact ⟨c101, _, G97, rfl, l101, O98, ups_self ⟨rfl, rfl, rfl, trivial⟩, R99⟩
            · skip
              have H105 := ie h103 h83
              refine vb h103 ?_
              refine wn ?_
              refine va (v60) ?_
              refine wn ?_
              refine va (.int .i64 (w64 ((IntKind.u64.wrap p1).tmod (IntKind.u64.wrap (w64 ((p0.length : Int) - 1)))))) ?_
              refine wn ?_
              obtain ⟨x_77, h106, H105⟩ := bs H105
              refine WL.callP rfl (by kernel_rfl) (c_mark_Widen O98 R99 ((hG.mono (l44.trans (l68.trans (l79.trans l101)))).le (by decide)) x_45.2.1 (w64 ((IntKind.u64.wrap p1).tmod (IntKind.u64.wrap (w64 ((p0.length : Int) - 1))))) (h61.mono (l79.trans l101)) h106) ?_
              rintro v112 c111 l111 ⟨G107, O108, R109, rfl⟩
              refine wn ?_
              refine va (.bool (!x_77.2)) ?_
              obtain rfl := Option.some.inj H105
              refine va (.bool (!x_77.2)) ?_
              rcases Bool.eq_false_or_eq_true (!x_77.2) with h113 | h113
              · skip
                obtain rfl := Option.some.inj (it h113 h84)
                refine vb h113 ?_
                refine ps ?_
                refine ps ?_
                refine ps ?_
                refine ps ?_
                refine ps ?_
                refine va (.bool true) ?_
                refine wln ?_
                exact ⟨c111, _, G107, rfl, (l101.trans l111), O108, ups_self ⟨rfl, rfl, rfl, trivial⟩, R109⟩
              · skip
                have H114 := ie h113 h84
                refine vb h113 ?_
                refine wn ?_
                refine va (v71) ?_
                refine wn ?_
                refine va (.int .i64 (w64 ((IntKind.u64.wrap p1).tmod (IntKind.u64.wrap (w64 ((p0.length : Int) - 1)))))) ?_
                refine wn ?_
                refine va (v3) ?_
                refine wn ?_
                obtain ⟨x_84, h115, H114⟩ := bs H114
                refine WL.callP rfl (by kernel_rfl) (c_mark_Put O108 R109 ((hG.mono (l44.trans (l68.trans (l79.trans (l101.trans l111))))).le (by decide)) x_53.2.1 (w64 ((IntKind.u64.wrap p1).tmod (IntKind.u64.wrap (w64 ((p0.length : Int) - 1))))) 2 p2 (h72.mono (l101.trans l111)) (h4.mono (l44.trans (l68.trans (l79.trans (l101.trans l111))))) h115) ?_
                rintro v116 c122 l122 ⟨_, G118, O119, R120, rfl, h117⟩
                refine wn ?_
                refine WL.val0 (v := .bool (!x_84.2.isNil)) rfl (by rcases (h117).cs with ⟨h1_, h2_⟩ | ⟨b_, h1_, h2_⟩ | ⟨b_, h1_, h2_⟩ <;> (subst h1_; rw [h2_]; kernel_rfl)) ?_
                obtain rfl := Option.some.inj H114
                refine va (.bool (!x_84.2.isNil)) ?_
                refine wln ?_
                exact ⟨c122, _, G118, rfl, (l101.trans (l111.trans l122)), O119, ups_self ⟨rfl, rfl, rfl, trivial⟩, R120⟩
      · skip
        rintro e_ w_ ⟨c124, g125, G127, rfl, l124, O126, rfl, R128⟩
        refine nrm ?_
        refine W.cond (t := d_79.1) (by kernel_rfl) (fun h130 => ?_) (fun h130 => ?_)
        · have H := it h130 H
          refine sr ?_
          refine va (.bool false) ?_
          refine wln ?_
          refine W.ret ?_
          refine thr ?_
          obtain rfl := Option.some.inj H
          exact ret1 (v := .bool false) rfl (by kernel_rfl) ⟨_, c124, rfl, rfl, (l44.trans (l68.trans (l79.trans l124))), G127, O126, R128, rfl⟩
        · have H := ie h130 H
          refine W.skip ?_
          refine nrm ?_
          refine sr ?_
          refine va (v60) ?_
          obtain ⟨x_90, h131, H⟩ := bs H
          refine WL.callP rfl (by kernel_rfl) (c_row_Row_Cells O126 R128 x_45.2.1 (h61.mono (l79.trans l124)) h131) ?_
          rintro v132 c139 l139 ⟨_, u133, O136, rfl, h134⟩
          refine va (v71) ?_
          obtain ⟨x_92, h141, H⟩ := bs H
          refine WL.callP rfl (by kernel_rfl) (c_row_Row_Cells O136 (R128.mono l139) x_53.2.1 (h72.mono (l124.trans l139)) h141) ?_
          rintro v142 c149 l149 ⟨_, u143, O146, rfl, h144⟩
          obtain ⟨c153, h154, l153, O151, h152⟩ := O146.frz 1 rfl (h134.mono l149)
          refine WL.gh h154 ?_
          obtain ⟨c157, h158, l157, O155, h156⟩ := O151.frz 0 rfl (h144.mono l153)
          refine WL.gh h158 ?_
          obtain ⟨x_93, h159, H⟩ := bs H
          refine WL.callP rfl (by kernel_rfl) (c_linotyperef23_Same O155 x_90 x_92 (h152.mono l157) h156 h159) ?_
          rintro v165 c164 l164 ⟨O161, rfl⟩
          refine va (.bool x_93) ?_
          refine wln ?_
          refine W.ret ?_
          obtain rfl := Option.some.inj H
          have O166 := O161.selD 2 [] (by kernel_rfl) (by kernel_rfl)
          exact ret1 (v := .bool x_93) rfl (by kernel_rfl) ⟨_, c164, rfl, rfl, (l44.trans (l68.trans (l79.trans (l124.trans (l139.trans (l149.trans (l153.trans (l157.trans l164)))))))), G127, O166, (R128.mono (l139.trans (l149.trans (l153.trans (l157.trans l164))))), rfl⟩

end Go.Proofs.YtohpkblleihmaaaDoor
