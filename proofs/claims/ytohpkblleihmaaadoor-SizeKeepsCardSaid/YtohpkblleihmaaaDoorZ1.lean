import Derived.Test.YtohpkblleihmaaaDoorMx
import Derived.Test.YtohpkblleihmaaaDoorProg
import Derived.Test.YtohpkblleihmaaaDoorMy
import Derived.Test.YtohpkblleihmaaaDoorMz
import Derived.Test.YtohpkblleihmaaaDoorA1
import Derived.Test.YtohpkblleihmaaaDoorG1
import Derived.Test.YtohpkblleihmaaaDoorM1
import Derived.Test.YtohpkblleihmaaaDoorN1
namespace Go.Proofs.YtohpkblleihmaaaDoor
open Go Go.Lt
set_option maxRecDepth 10000
set_option linter.unusedVariables false
attribute [local irreducible] W WL AC
def f_fit_cut (p0 : List G_api_Cell) (p1 : Int) : Option (List G_api_Cell) :=
  (slc p0 0 p1).bind fun x_6 =>
  ((andE (decide (p1 > 0)) ((idx x_6 (w64 (p1 - 1))).bind fun x_17 =>
  some (x_17.Kind == 2))).bind fun d_12 =>
  if d_12 = true then
  (idx x_6 (w64 (p1 - 1))).bind fun x_26 =>
  (sets x_6 (w64 (p1 - 1)) (⟨0, ([] : List Int)⟩ : G_api_Cell)).bind fun w_27 =>
  (some (w_27) : Option ((List G_api_Cell)))
  else
  (some (x_6) : Option ((List G_api_Cell)))).bind fun z_9 =>
  some z_9
theorem c_fit_cut {c0 : Cx} {G : Gm} {F : List En} {v0_ : Value} {u0_ : List Value} (p0 : List G_api_Cell) (p1 : Int) (O0 : Own c0 G (es true R_api_Cell v0_ 27 u0_ p0 :: F)) {r : List G_api_Cell} (h1 : OA R_api_Cell c0 v0_ u0_ p0) (H : f_fit_cut p0 p1 = some r) :
    Calls Tryd.prog 172 #[v0_, .int .i64 p1] c0.w (Post c0 fun c v => ∃ y1 : Value, ∃ y2 : List Value, Own c G (es true R_api_Cell y1 27 y2 r :: F) ∧ v = y1 ∧ OA R_api_Cell c y1 y2 r) := by
  unfold f_fit_cut at H
  refine enter (l := [v0_, .int .i64 p1]) Tryd.func172 rfl rfl rfl ?_
  refine sr ?_
  refine va (.slice none 0 0) ?_
  refine wln ?_
  refine sr ?_
  refine va (v0_) ?_
  refine va (.int .i64 p1) ?_
  refine va (.int .i64 p1) ?_
  obtain ⟨x_6, h2, H⟩ := bs H
  obtain ⟨v3, h4, O5, h6⟩ := Own.cutHM (k2 := .i64) (k' := .i64) 0 O0 rfl Tryd.underlying22 h1 (by kernel_rfl) h2
  refine WL.val0 (v := v3) rfl (rx (by kernel_rfl) (h4 _)) ?_
  refine va (v3) ?_
  refine wln ?_
  obtain ⟨z_9, H7, H8⟩ := bs H
  refine W.seqJ (fun e w => ∃ (c : Cx) (g : Nat → Value) (v9 : Value) (u10 : List Value), w = c.w ∧ c0.le c ∧ Own c G (es true R_api_Cell v9 27 u10 z_9 :: F) ∧ e = ups g [(0, v9)] ∧ OA R_api_Cell c v9 u10 z_9) ?_ ?_
  · skip
    refine W.seq ?_
    obtain ⟨d_12, h11, H7⟩ := bs H7
    refine W.join (fun e w => ∃ (c : Cx) (g : Nat → Value), w = c.w ∧ c0.le c ∧ Own c G (es true R_api_Cell v3 27 u0_ x_6 :: F) ∧ e = ups g [(0, v3), (1, .int .i64 p1), (19, .bool d_12)]) ?_ ?_
    · clear H7
      refine W.region ?_
      refine va (.int .i64 p1) ?_
      refine va (.bool (decide (p1 > 0))) ?_
      rcases Bool.eq_false_or_eq_true (decide (p1 > 0)) with h12 | h12
      · skip
        have H13 := anT h12 h11
        refine vb h12 ?_
        refine wn ?_
        refine va (v3) ?_
        refine wn ?_
        refine va (.int .i64 p1) ?_
        refine wn ?_
        refine va (.int .i64 (w64 (p1 - 1))) ?_
        refine wn ?_
        obtain ⟨x_17, h14, H13⟩ := bs H13
        refine WL.val0 (v := .pointer (some ⟨sb v3, (w64 (p1 - 1)).toNat * 2, none⟩)) rfl (rx (by kernel_rfl) (run_indexO (k := .i64) Tryd.underlying22 (by kernel_rfl) h6 h14 _)) ?_
        refine wn ?_
        refine va (.pointer (some ⟨sb v3, (w64 (p1 - 1)).toNat * 2, none⟩)) ?_
        refine wn ?_
        obtain ⟨l_15, h16, m17⟩ := OA.at h6 h14
        obtain ⟨v18, rfl, h19⟩ := h16
        refine WL.val0 (v := .int .i64 x_17.Kind) rfl (rx (by kernel_rfl) (ldE1 Tryd.underlying3 rfl (O5.on 0 rfl) (h6.blk h14) (at1 (j := 0) m17 rfl))) ?_
        refine wn ?_
        refine va (.bool (x_17.Kind == 2)) ?_
        obtain rfl := Option.some.inj H13
        refine va (.bool (x_17.Kind == 2)) ?_
        refine wln ?_
        exact ⟨c0, _, rfl, (Cx.le.refl _), O5, ups_self ⟨rfl, rfl, rfl, trivial⟩⟩
      · skip
        obtain rfl := anF h12 h11
        refine vb h12 ?_
        refine ps ?_
        refine ps ?_
        refine ps ?_
        refine ps ?_
        refine ps ?_
        refine ps ?_
        refine ps ?_
        refine va (.bool false) ?_
        refine wln ?_
        exact ⟨c0, _, rfl, (Cx.le.refl _), O5, ups_self ⟨rfl, rfl, rfl, trivial⟩⟩
    · skip
      rintro e_ w_ ⟨c20, g21, rfl, l20, O22, rfl⟩
      refine nrm ?_
      refine W.cond (t := d_12) (by kernel_rfl) (fun h26 => ?_) (fun h26 => ?_)
      · have H7 := it h26 H7
        refine W.region ?_
        refine va (v3) ?_
        refine va (.int .i64 p1) ?_
        refine va (.int .i64 (w64 (p1 - 1))) ?_
        refine va (.agg #[.int .i64 0, .slice none 0 0]) ?_
        obtain ⟨x_26, h27, H7⟩ := bs H7
        refine WL.val0 (v := .pointer (some ⟨sb v3, (w64 (p1 - 1)).toNat * 2, none⟩)) rfl (rx (by kernel_rfl) (run_indexO (k := .i64) Tryd.underlying22 (by kernel_rfl) (h6.mono l20) h27 _)) ?_
        obtain ⟨w_27, h28, H7⟩ := bs H7
        refine WL.memD rfl (Own.stW (R := R_api_Cell) (T := 27) (us := [.int .i64 0, .slice none 0 0]) (x' := (⟨0, ([] : List Int)⟩ : G_api_Cell)) (u := .agg #[.int .i64 0, .slice none 0 0]) 0 O22 (by kernel_rfl) rfl (h6.mono l20) h28 rfl (by kernel_rfl) ⟨rfl, rfl, trivial⟩ rfl ⟨(.slice none 0 0), rfl, (Sl.nl _ _)⟩) ?_
        rintro c32 l32 ⟨u30, O29, h31⟩
        refine wln ?_
        obtain rfl := Option.some.inj H7
        exact ⟨c32, _, v3, u30, rfl, (l20.trans l32), O29, ups_self ⟨rfl, trivial⟩, h31⟩
      · have H7 := ie h26 H7
        refine W.skip ?_
        refine nrm ?_
        obtain rfl := Option.some.inj H7
        exact ⟨c20, _, v3, u0_, rfl, l20, O22, ups_self ⟨rfl, trivial⟩, (h6.mono l20)⟩
  · skip
    rintro e_ w_ ⟨c33, g34, v9, u10, rfl, l33, O35, rfl, h36⟩
    refine sr ?_
    refine va (v9) ?_
    refine va (v9) ?_
    refine wln ?_
    refine W.ret ?_
    obtain rfl := Option.some.inj H8
    exact ret1 (v := v9) rfl (by kernel_rfl) ⟨_, c33, rfl, rfl, l33, v9, u10, O35, rfl, h36⟩

def f_fit_of (sg : Sto) (p0 : List G_api_Cell) : Option (Sto × (Option Nat)) :=
  (f_row_Of sg p0).bind fun x_4 =>
  if (!x_4.2.2.isNil) = true then
  some (x_4.1, (none : Option Nat))
  else
  some (x_4.1, x_4.2.1)
theorem c_fit_of {c0 : Cx} {G : Gm} {F : List En} {sg : Sto} {v1 : Value} (O0 : Own c0 G F) (R0 : Rel c0 sg G) (hG : Gl [0, 1] c0) (p0 : List G_api_Cell) {r : Sto × (Option Nat)} (h2 : Sl R_api_Cell c0 v1 p0) (H : f_fit_of sg p0 = some r) :
    Calls Tryd.prog 173 #[v1] c0.w (Post c0 fun c v => ∃ y1 : Value, ∃ G_ : Gm, Own c G_ (F) ∧ Rel c r.1 G_ ∧ v = y1 ∧ Pt 0 c y1 r.2) := by
  unfold f_fit_of at H
  refine enter (l := [v1]) Tryd.func173 rfl rfl rfl ?_
  refine sr ?_
  refine va (.pointer none) ?_
  refine wln ?_
  refine sr ?_
  refine va (v1) ?_
  obtain ⟨x_4, h3, H⟩ := bs H
  refine WL.callP rfl (by kernel_rfl) (c_row_Of O0 R0 (hG.le (by decide)) p0 h2 h3) ?_
  rintro v13 c12 l12 ⟨v4, v6, G8, O9, R10, rfl, h5, h7⟩
  refine va (.tuple #[v4, v6]) ?_
  refine va (v4) ?_
  refine va (v6) ?_
  refine va (v4) ?_
  refine va (v6) ?_
  refine wln ?_
  refine W.seq ?_
  refine sr ?_
  refine va (v6) ?_
  refine WL.val0 (v := .bool (!x_4.2.2.isNil)) rfl (by rcases (h7).cs with ⟨h1_, h2_⟩ | ⟨b_, h1_, h2_⟩ | ⟨b_, h1_, h2_⟩ <;> (subst h1_; rw [h2_]; kernel_rfl)) ?_
  refine wln ?_
  refine W.cond (t := !x_4.2.2.isNil) (by kernel_rfl) (fun h14 => ?_) (fun h14 => ?_)
  · have H := it h14 H
    refine sr ?_
    refine va (.pointer none) ?_
    refine wln ?_
    refine W.ret ?_
    refine thr ?_
    obtain rfl := Option.some.inj H
    exact ret1 (v := .pointer none) rfl (by kernel_rfl) ⟨_, c12, rfl, rfl, l12, (.pointer none), G8, O9, R10, rfl, rfl⟩
  · have H := ie h14 H
    refine W.skip ?_
    refine nrm ?_
    refine sr ?_
    refine va (v4) ?_
    refine va (v4) ?_
    refine wln ?_
    refine W.ret ?_
    obtain rfl := Option.some.inj H
    exact ret1 (v := v4) rfl (by kernel_rfl) ⟨_, c12, rfl, rfl, l12, v4, G8, O9, R10, rfl, h5⟩

def f_fit_Resize (sg : Sto) (p0 : Option Nat) (p1 : Int) : Option (Sto × (Option Nat)) :=
  if p0.isNone = true then
  some (sg, (none : Option Nat))
  else
  (f_row_Row_Cells sg p0).bind fun x_14 =>
  (f_row_Row_Wide sg p0).bind fun x_17 =>
  (f_fit_cut x_14 (imin (imax 1 (imin p1 1024)) x_17)).bind fun x_19 =>
  (f_cell_Blanks (w64 ((imax 1 (imin p1 1024)) - (x_19.length : Int)))).bind fun x_27 =>
  (app x_19 x_27).bind fun x_28 =>
  (f_fit_of sg x_28).bind fun x_29 =>
  some (x_29.1, x_29.2)
theorem c_fit_Resize {c0 : Cx} {G : Gm} {F : List En} {sg : Sto} {v1 : Value} (O0 : Own c0 G F) (R0 : Rel c0 sg G) (hG : Gl [0, 1] c0) (p0 : Option Nat) (p1 : Int) {r : Sto × (Option Nat)} (h2 : Pt 0 c0 v1 p0) (H : f_fit_Resize sg p0 p1 = some r) :
    Calls Tryd.prog 148 #[v1, .int .i64 p1] c0.w (Post c0 fun c v => ∃ y1 : Value, ∃ G_ : Gm, Own c G_ (F) ∧ Rel c r.1 G_ ∧ v = y1 ∧ Pt 0 c y1 r.2) := by
  unfold f_fit_Resize at H
  refine enter (l := [v1, .int .i64 p1]) Tryd.func148 rfl rfl rfl ?_
  refine sr ?_
  refine va (.pointer none) ?_
  refine wln ?_
  refine W.seq ?_
  refine sr ?_
  refine va (v1) ?_
  refine WL.val0 (v := .bool p0.isNone) rfl (by rcases (h2).cs with ⟨h1_, h2_⟩ | ⟨b_, h1_, h2_⟩ <;> (subst h1_; rw [h2_]; kernel_rfl)) ?_
  refine wln ?_
  refine W.cond (t := p0.isNone) (by kernel_rfl) (fun h3 => ?_) (fun h3 => ?_)
  · have H := it h3 H
    refine sr ?_
    refine va (.pointer none) ?_
    refine wln ?_
    refine W.ret ?_
    refine thr ?_
    obtain rfl := Option.some.inj H
    exact ret1 (v := .pointer none) rfl (by kernel_rfl) ⟨_, c0, rfl, rfl, Cx.le.refl _, (.pointer none), G, O0, R0, rfl, rfl⟩
  · have H := ie h3 H
    refine W.skip ?_
    refine nrm ?_
    refine sr ?_
    refine va (.int .i64 p1) ?_
    refine va (.int .i64 (imin p1 1024)) ?_
    refine va (.int .i64 (imax 1 (imin p1 1024))) ?_
    refine va (.int .i64 (imax 1 (imin p1 1024))) ?_
    refine wln ?_
    refine sr ?_
    refine va (v1) ?_
    obtain ⟨x_14, h4, H⟩ := bs H
    refine WL.callP rfl (by kernel_rfl) (c_row_Row_Cells O0 R0 p0 h2 h4) ?_
    rintro v5 c12 l12 ⟨_, u6, O9, rfl, h7⟩
    refine va (.int .i64 (imax 1 (imin p1 1024))) ?_
    refine va (v1) ?_
    obtain ⟨x_17, h14, H⟩ := bs H
    refine WL.callP rfl (by kernel_rfl) (c_row_Row_Wide O9 (R0.mono l12) p0 (h2.mono l12) h14) ?_
    rintro v20 c19 l19 ⟨O16, rfl⟩
    refine va (.int .i64 (imin (imax 1 (imin p1 1024)) x_17)) ?_
    obtain ⟨x_19, h22, H⟩ := bs H
    refine WL.callP rfl (by kernel_rfl) (c_fit_cut x_14 (imin (imax 1 (imin p1 1024)) x_17) O16 (h7.mono l19) h22) ?_
    rintro v23 c30 l30 ⟨_, u24, O27, rfl, h25⟩
    refine va (v23) ?_
    refine wln ?_
    refine sr ?_
    refine va (v23) ?_
    refine va (.int .i64 (imax 1 (imin p1 1024))) ?_
    refine va (v23) ?_
    refine WL.val0 (v := .int .i64 (x_19.length : Int)) rfl (rx (by kernel_rfl) (run_lenO (ty := 3) Tryd.underlying22 h25 _)) ?_
    refine va (.int .i64 (w64 ((imax 1 (imin p1 1024)) - (x_19.length : Int)))) ?_
    obtain ⟨x_27, h32, H⟩ := bs H
    refine WL.callP rfl (by kernel_rfl) (c_cell_Blanks O27 (w64 ((imax 1 (imin p1 1024)) - (x_19.length : Int))) h32) ?_
    rintro v33 c40 l40 ⟨_, u34, O37, rfl, h35⟩
    obtain ⟨c44, h45, l44, O42, h43⟩ := O37.frz 0 rfl h35
    refine WL.gh h45 ?_
    obtain ⟨x_28, h46, H⟩ := bs H
    refine WL.mem rfl (Own.app (R := R_api_Cell) (z := .agg #[.int .i64 0, .slice none 0 0]) (by_ := 32) (ty := 22) 1 O42 rfl (h25.mono (l40.trans l44)) h43 h46 Tryd.underlying22 (by kernel_rfl) rfl (by kernel_rfl) (by kernel_rfl)) ?_
    rintro v51 c50 l50 ⟨u48, O47, h49⟩
    obtain ⟨c54, h55, l54, O52, h53⟩ := O47.frz 1 rfl h49
    refine WL.gh h55 ?_
    obtain ⟨x_29, h56, H⟩ := bs H
    refine WL.callP rfl (by kernel_rfl) (c_fit_of O52 (R0.mono (l12.trans (l19.trans (l30.trans (l40.trans (l44.trans (l50.trans l54))))))) ((hG.mono (l12.trans (l19.trans (l30.trans (l40.trans (l44.trans (l50.trans l54))))))).le (by decide)) x_28 h53 h56) ?_
    rintro v57 c63 l63 ⟨_, G59, O60, R61, rfl, h58⟩
    refine va (v57) ?_
    refine wln ?_
    refine W.ret ?_
    obtain rfl := Option.some.inj H
    have O65 := O60.selD 2 [] (by kernel_rfl) (by kernel_rfl)
    exact ret1 (v := v57) rfl (by kernel_rfl) ⟨_, c63, rfl, rfl, (l12.trans (l19.trans (l30.trans (l40.trans (l44.trans (l50.trans (l54.trans l63))))))), v57, G59, O65, R61, rfl, h58⟩

def f_cursor_Move (p0 : Int) (p1 : Int) (p2 : Int) (p3 : Int) : Option (G_api_Cursor) :=
  (f_cursor_Hold (⟨p0, p1, false⟩ : G_api_Cursor) p2 p3).bind fun x_8 =>
  some x_8
theorem c_cursor_Move {c0 : Cx} {G : Gm} {F : List En} (O0 : Own c0 G F) (p0 : Int) (p1 : Int) (p2 : Int) (p3 : Int) {r : G_api_Cursor} (H : f_cursor_Move p0 p1 p2 p3 = some r) :
    Calls Tryd.prog 149 #[.int .i64 p0, .int .i64 p1, .int .i64 p2, .int .i64 p3] c0.w (Post c0 fun c v => Own c G (F) ∧ v = .agg #[.int .i64 r.Row, .int .i64 r.Col, .bool r.Pending]) := by
  unfold f_cursor_Move at H
  refine enter (l := [.int .i64 p0, .int .i64 p1, .int .i64 p2, .int .i64 p3]) Tryd.func149 rfl rfl rfl ?_
  refine sr ?_
  refine WL.mem rfl (Own.al (T := 120) (vs := [.int .i64 0, .int .i64 0, .bool false]) O0 (by kernel_rfl)) ?_
  rintro v4 c3 l3 ⟨b1, rfl, O2⟩
  refine wln ?_
  refine sr ?_
  refine va (.int .i64 p0) ?_
  refine va (.int .i64 p1) ?_
  refine va (.agg #[.int .i64 p0, .int .i64 p1, .bool false]) ?_
  refine va (.int .i64 p2) ?_
  refine va (.int .i64 p3) ?_
  obtain ⟨x_8, h5, H⟩ := bs H
  refine WL.callP rfl (by kernel_rfl) (c_cursor_Hold O2 (⟨p0, p1, false⟩ : G_api_Cursor) p2 p3 h5) ?_
  rintro v11 c10 l10 ⟨O7, rfl⟩
  refine WL.memD rfl (Own.st (T := 120) (j := 0) (us := [.int .i64 x_8.Row, .int .i64 x_8.Col, .bool x_8.Pending]) (nw := [.int .i64 x_8.Row, .int .i64 x_8.Col, .bool x_8.Pending]) (v := .agg #[.int .i64 x_8.Row, .int .i64 x_8.Col, .bool x_8.Pending]) 0 O7 (by kernel_rfl) rfl rfl rfl rfl (by kernel_rfl) ⟨rfl, rfl, rfl, trivial⟩ rfl rfl) ?_
  rintro c13 l13 O12
  refine wln ?_
  refine W.ret ?_
  obtain rfl := Option.some.inj H
  have O14 := O12.selD 1 [] (by kernel_rfl) (by kernel_rfl)
  exact retC (c := c13) (vs := [.int .i64 x_8.Row, .int .i64 x_8.Col, .bool x_8.Pending]) rfl (by kernel_rfl) (by kernel_rfl) (by kernel_rfl) (O12.on 0 rfl _ rfl).1 ⟨_, c13, rfl, rfl, (l3.trans (l10.trans l13)), O14, rfl⟩

def f_size_Resize (sg : Sto) (p0 : Option Nat) (p1 : Int) (p2 : Int) : Option (Sto) :=
  (orE p0.isNone ((p0).bind fun k_6 =>
  (sg.place_Pen[k_6]?).bind fun o_8 =>
  some o_8.G.isNone)).bind fun d_3 =>
  if d_3 = true then
  some sg
  else
  (p0).bind fun k_21 =>
  (sg.place_Pen[k_21]?).bind fun o_23 =>
  (f_grid_Grid_Wide sg o_23.G).bind fun x_32 =>
  (f_grid_Grid_High sg o_23.G).bind fun x_33 =>
  (f_cursor_Hold (⟨o_23.At.Row, o_23.At.Col, o_23.At.Pending⟩ : G_api_Cursor) x_32 x_33).bind fun x_34 =>
  (f_grid_New sg (imax 1 (imin p1 1024)) (imax 1 (imin p2 1024))).bind fun x_48 =>
  (iter (σ := Int × Sto) (τ := Sto) (((imax 1 (imin p2 1024)) - 0).toNat + 1) (fun s_54 =>
  if (decide (s_54.1 < (imax 1 (imin p2 1024)))) = true then
  ((p0).bind fun k_62 =>
  (s_54.2.place_Pen[k_62]?).bind fun o_64 =>
  (f_grid_Grid_Row s_54.2 o_64.G (w64 ((imax 0 (w64 ((w64 (x_34.Row - (imax 1 (imin p2 1024)))) + 1))) + s_54.1))).bind fun x_68 =>
  if (!x_68.isNone) = true then
  (f_fit_Resize s_54.2 x_68 (imax 1 (imin p1 1024))).bind fun x_78 =>
  (f_grid_Grid_Set x_78.1 x_48.2 s_54.1 x_78.2).bind fun x_79 =>
  (some (x_79.1) : Option (Sto))
  else
  (some (s_54.2) : Option (Sto))).bind fun z_57 =>
  some (.inl ((w64 (s_54.1 + 1)), z_57))
  else
  some (.inr (s_54.2))) (0, x_48.1)).bind fun o_54 =>
  (p0).bind fun k_86 =>
  (o_54.place_Pen[k_86]?).bind fun o_88 =>
  (o_54.set_place_Pen k_86 (⟨x_48.2, (⟨o_88.At.Row, o_88.At.Col, o_88.At.Pending⟩ : G_api_Cursor), o_88.Auto⟩ : G_place_Pen)).bind fun s_88001 =>
  (f_cursor_Move (w64 (x_34.Row - (imax 0 (w64 ((w64 (x_34.Row - (imax 1 (imin p2 1024)))) + 1))))) x_34.Col (imax 1 (imin p1 1024)) (imax 1 (imin p2 1024))).bind fun x_99 =>
  (s_88001.set_place_Pen k_86 (⟨x_48.2, (⟨x_99.Row, x_99.Col, x_99.Pending⟩ : G_api_Cursor), o_88.Auto⟩ : G_place_Pen)).bind fun s_102001 =>
  some s_102001
theorem c_size_Resize {c0 : Cx} {G : Gm} {F : List En} {sg : Sto} {v1 : Value} (O0 : Own c0 G F) (R0 : Rel c0 sg G) (hG : Gl [0, 1] c0) (p0 : Option Nat) (p1 : Int) (p2 : Int) {r : Sto} (h2 : Pt 2 c0 v1 p0) (H : f_size_Resize sg p0 p1 p2 = some r) :
    Calls Tryd.prog 87 #[v1, .int .i64 p1, .int .i64 p2] c0.w (Post c0 fun c v => ∃ G_ : Gm, Own c G_ (F) ∧ Rel c r G_ ∧ v = .tuple #[]) := by
  unfold f_size_Resize at H
  refine enter (l := [v1, .int .i64 p1, .int .i64 p2]) Tryd.func87 rfl rfl rfl ?_
  refine W.seq ?_
  refine W.seq ?_
  obtain ⟨d_3, h3, H⟩ := bs H
  refine W.join (fun e w => ∃ (c : Cx) (g : Nat → Value), w = c.w ∧ c0.le c ∧ Own c G (F) ∧ e = ups g [(0, v1), (1, .int .i64 p1), (2, .int .i64 p2), (19, .bool d_3)]) ?_ ?_
  · clear H
    refine W.region ?_
    refine va (v1) ?_
    refine WL.val0 (v := .bool p0.isNone) rfl (by rcases (h2).cs with ⟨h1_, h2_⟩ | ⟨b_, h1_, h2_⟩ <;> (subst h1_; rw [h2_]; kernel_rfl)) ?_
    rcases Bool.eq_false_or_eq_true (p0.isNone) with h4 | h4
    · skip
      obtain rfl := orT h4 h3
      refine vb h4 ?_
      refine ps ?_
      refine ps ?_
      refine ps ?_
      refine ps ?_
      refine ps ?_
      refine va (.bool true) ?_
      refine wln ?_
      exact ⟨c0, _, rfl, (Cx.le.refl _), O0, ups_self ⟨rfl, rfl, rfl, rfl, trivial⟩⟩
    · skip
      have H5 := orF h4 h3
      refine vb h4 ?_
      refine wn ?_
      refine va (v1) ?_
      refine wn ?_
      obtain ⟨k_6, h8, H5⟩ := bs H5
      obtain ⟨b6, rfl, h7⟩ := (h2).get h8
      refine va (.pointer (some ⟨b6, 0, none⟩)) ?_
      refine wn ?_
      refine va (.pointer (some ⟨b6, 0, none⟩)) ?_
      refine wn ?_
      obtain ⟨o_8, h9, H5⟩ := bs H5
      obtain ⟨v10, h12, h11⟩ := Rel.open_place_Pen R0 h9 h7
      refine WL.val0 (v := v10) rfl (rx (by kernel_rfl) (ldE1 (j := 0) Tryd.underlying51 rfl (O0.gon h12 0 rfl) rfl rfl)) ?_
      refine wn ?_
      refine WL.val0 (v := .bool o_8.G.isNone) rfl (by rcases (h11).cs with ⟨h1_, h2_⟩ | ⟨b_, h1_, h2_⟩ <;> (subst h1_; rw [h2_]; kernel_rfl)) ?_
      obtain rfl := Option.some.inj H5
      refine va (.bool o_8.G.isNone) ?_
      refine wln ?_
      exact ⟨c0, _, rfl, (Cx.le.refl _), O0, ups_self ⟨rfl, rfl, rfl, rfl, trivial⟩⟩
  · skip
    rintro e_ w_ ⟨c13, g14, rfl, l13, O15, rfl⟩
    refine nrm ?_
    refine W.cond (t := d_3) (by kernel_rfl) (fun h19 => ?_) (fun h19 => ?_)
    · have H := it h19 H
      refine W.ret ?_
      refine thr ?_
      obtain rfl := Option.some.inj H
      exact ret0 rfl ⟨_, c13, rfl, rfl, l13, G, O15, (R0.mono l13), rfl⟩
    · have H := ie h19 H
      refine W.skip ?_
      refine nrm ?_
      refine sr ?_
      refine va (.int .i64 p1) ?_
      refine va (.int .i64 (imin p1 1024)) ?_
      refine va (.int .i64 (imax 1 (imin p1 1024))) ?_
      refine va (.int .i64 p2) ?_
      refine va (.int .i64 (imin p2 1024)) ?_
      refine va (.int .i64 (imax 1 (imin p2 1024))) ?_
      refine va (.int .i64 (imax 1 (imin p1 1024))) ?_
      refine va (.int .i64 (imax 1 (imin p2 1024))) ?_
      refine wln ?_
      refine W.seq ?_
      obtain ⟨k_21, h20, H⟩ := bs H
      obtain ⟨o_23, h21, H⟩ := bs H
      obtain ⟨x_32, h22, H⟩ := bs H
      obtain ⟨x_33, h23, H⟩ := bs H
      obtain ⟨x_34, h24, H⟩ := bs H
      refine W.join (fun e w => ∃ (c : Cx) (g : Nat → Value) (b25 : Nat), w = c.w ∧ c13.le c ∧ Own c G (⟨.pointer (some ⟨b25, 0, none⟩), 120, [.int .i64 x_34.Row, .int .i64 x_34.Col, .bool x_34.Pending], 0⟩ :: F) ∧ e = ups g [(0, v1), (1, .int .i64 (imax 1 (imin p1 1024))), (2, .int .i64 (imax 1 (imin p2 1024))), (6, .pointer (some ⟨b25, 0, none⟩))]) ?_ ?_
      · clear H
        refine W.regionD [] (Kp G []) O15 (by kernel_rfl) ?_
        intro c26 l26 O27
        have p28 : Kp G [] c26 := (Kp.nil O27)
        refine ta 0 (v1) ?_
        obtain ⟨b29, rfl, h30⟩ := ((h2.mono (l13.trans l26))).get h20
        refine ta 1 (.pointer (some ⟨b29, 0, none⟩)) ?_
        refine ta 2 (.pointer (some ⟨b29, 1, none⟩)) ?_
        obtain ⟨v31, h33, h32⟩ := Rel.open_place_Pen (R0.mono (l13.trans l26)) h21 h30
        refine AC.takeK 3 (.agg #[.int .i64 o_23.At.Row, .int .i64 o_23.At.Col, .bool o_23.At.Pending]) p28 rfl (by kernel_rfl) (by kernel_rfl) (by kernel_rfl) (fun c' hle hk => (rx (by kernel_rfl) (ldEN (T := 120) (j := 1) (l := [.int .i64 o_23.At.Row, .int .i64 o_23.At.Col, .bool o_23.At.Pending]) (by kernel_rfl) (by kernel_rfl) (hk.gon h33 0 rfl) rfl rfl))) ?_
        refine ta 4 (.pointer (some ⟨b29, 0, none⟩)) ?_
        refine ta 5 (.pointer (some ⟨b29, 0, none⟩)) ?_
        refine ta 6 (.pointer (some ⟨b29, 0, none⟩)) ?_
        refine AC.takeK 7 (v31) p28 rfl (by kernel_rfl) (by kernel_rfl) (by kernel_rfl) (fun c' hle hk => (rx (by kernel_rfl) (ldE1 (j := 0) Tryd.underlying51 rfl (hk.gon h33 0 rfl) rfl rfl))) ?_
        refine ta 9 (.pointer (some ⟨b29, 0, none⟩)) ?_
        refine ta 10 (.pointer (some ⟨b29, 0, none⟩)) ?_
        refine ta 11 (.pointer (some ⟨b29, 0, none⟩)) ?_
        refine AC.takeK 12 (v31) p28 rfl (by kernel_rfl) (by kernel_rfl) (by kernel_rfl) (fun c' hle hk => (rx (by kernel_rfl) (ldE1 (j := 0) Tryd.underlying51 rfl (hk.gon h33 0 rfl) rfl rfl))) ?_
        refine AC.many [8, 15] (by simp) (by kernel_rfl) ⟨?_, ?_, trivial⟩
        · skip
          refine (Go1.callP 8 rfl (by kernel_rfl) (by kernel_rfl) (by kernel_rfl) (c_grid_Grid_Wide O27 (R0.mono (l13.trans l26)) o_23.G h32 h22) ?_)
          rintro v39 c38 l38 ⟨O35, rfl⟩
          have p40 : Kp G [] c38 := (Kp.nil O35)
          refine ⟨.inr p40, ?_⟩
          refine AC.many [13, 15] (by simp) (by kernel_rfl) ⟨?_, ?_, trivial⟩
          · skip
            refine (Go1.callP 13 rfl (by kernel_rfl) (by kernel_rfl) (by kernel_rfl) (c_grid_Grid_High O35 (R0.mono (l13.trans (l26.trans l38))) o_23.G (h32.mono l38) h23) ?_)
            rintro v46 c45 l45 ⟨O42, rfl⟩
            have p47 : Kp G [] c45 := (Kp.nil O42)
            refine ⟨.inr p47, ?_⟩
            refine AC.many [14, 15] (by simp) (by kernel_rfl) ⟨?_, ?_, trivial⟩
            · skip
              refine (Go1.callP 14 rfl (by kernel_rfl) (by kernel_rfl) (by kernel_rfl) (c_cursor_Hold O42 (⟨o_23.At.Row, o_23.At.Col, o_23.At.Pending⟩ : G_api_Cursor) x_32 x_33 h24) ?_)
              rintro v53 c52 l52 ⟨O49, rfl⟩
              have p54 : Kp G [] c52 := (Kp.nil O49)
              refine ⟨.inr p54, ?_⟩
              refine AC.one 15 (by kernel_rfl) (Go1.mem 15 rfl (by kernel_rfl) (by kernel_rfl) (Own.al (T := 120) (vs := [.int .i64 0, .int .i64 0, .bool false]) O49 (by kernel_rfl)) ?_)
              rintro v58 c57 l57 ⟨b55, rfl, O56⟩
              have p59 : Kp G [] c57 := (Kp.nil O56)
              refine ⟨.inr p59, ?_⟩
              refine AC.one 16 (by kernel_rfl) (Go1.memD 16 rfl (by kernel_rfl) (by kernel_rfl) (Own.st (T := 120) (j := 0) (us := [.int .i64 x_34.Row, .int .i64 x_34.Col, .bool x_34.Pending]) (nw := [.int .i64 x_34.Row, .int .i64 x_34.Col, .bool x_34.Pending]) (v := .agg #[.int .i64 x_34.Row, .int .i64 x_34.Col, .bool x_34.Pending]) 0 O56 (by kernel_rfl) rfl rfl rfl rfl (by kernel_rfl) ⟨rfl, rfl, rfl, trivial⟩ rfl rfl) ?_)
              rintro c61 l61 O60
              have p62 : Kp G [] c61 := (Kp.nil O60)
              refine ⟨.inr p62, ?_⟩
              refine AC.done (by kernel_rfl) ?_
              refine nrm ?_
              exact ⟨c61, _, b55, rfl, (l26.trans (l38.trans (l45.trans (l52.trans (l57.trans l61))))), O60, ups_self ⟨rfl, rfl, rfl, rfl, trivial⟩⟩
            · skip
              refine (Go1.mem 15 rfl (by kernel_rfl) (by kernel_rfl) (Own.al (T := 120) (vs := [.int .i64 0, .int .i64 0, .bool false]) O42 (by kernel_rfl)) ?_)
              rintro v66 c65 l65 ⟨b63, rfl, O64⟩
              have p67 : Kp G [] c65 := (Kp.nil O64)
              refine ⟨.inr p67, ?_⟩
              refine AC.one 14 (by kernel_rfl) (Go1.callP 14 rfl (by kernel_rfl) (by kernel_rfl) (by kernel_rfl) (c_cursor_Hold O64 (⟨o_23.At.Row, o_23.At.Col, o_23.At.Pending⟩ : G_api_Cursor) x_32 x_33 h24) ?_)
              rintro v73 c72 l72 ⟨O69, rfl⟩
              have p74 : Kp G [] c72 := (Kp.nil O69)
              refine ⟨.inr p74, ?_⟩
              refine AC.one 16 (by kernel_rfl) (Go1.memD 16 rfl (by kernel_rfl) (by kernel_rfl) (Own.st (T := 120) (j := 0) (us := [.int .i64 x_34.Row, .int .i64 x_34.Col, .bool x_34.Pending]) (nw := [.int .i64 x_34.Row, .int .i64 x_34.Col, .bool x_34.Pending]) (v := .agg #[.int .i64 x_34.Row, .int .i64 x_34.Col, .bool x_34.Pending]) 0 O69 (by kernel_rfl) rfl rfl rfl rfl (by kernel_rfl) ⟨rfl, rfl, rfl, trivial⟩ rfl rfl) ?_)
              rintro c76 l76 O75
              have p77 : Kp G [] c76 := (Kp.nil O75)
              refine ⟨.inr p77, ?_⟩
              refine AC.done (by kernel_rfl) ?_
              refine nrm ?_
              exact ⟨c76, _, b63, rfl, (l26.trans (l38.trans (l45.trans (l65.trans (l72.trans l76))))), O75, ups_self ⟨rfl, rfl, rfl, rfl, trivial⟩⟩
          · skip
            refine (Go1.mem 15 rfl (by kernel_rfl) (by kernel_rfl) (Own.al (T := 120) (vs := [.int .i64 0, .int .i64 0, .bool false]) O35 (by kernel_rfl)) ?_)
            rintro v81 c80 l80 ⟨b78, rfl, O79⟩
            have p82 : Kp G [] c80 := (Kp.nil O79)
            refine ⟨.inr p82, ?_⟩
            refine AC.one 13 (by kernel_rfl) (Go1.callP 13 rfl (by kernel_rfl) (by kernel_rfl) (by kernel_rfl) (c_grid_Grid_High O79 (R0.mono (l13.trans (l26.trans (l38.trans l80)))) o_23.G (h32.mono (l38.trans l80)) h23) ?_)
            rintro v88 c87 l87 ⟨O84, rfl⟩
            have p89 : Kp G [] c87 := (Kp.nil O84)
            refine ⟨.inr p89, ?_⟩
            refine AC.one 14 (by kernel_rfl) (Go1.callP 14 rfl (by kernel_rfl) (by kernel_rfl) (by kernel_rfl) (c_cursor_Hold O84 (⟨o_23.At.Row, o_23.At.Col, o_23.At.Pending⟩ : G_api_Cursor) x_32 x_33 h24) ?_)
            rintro v95 c94 l94 ⟨O91, rfl⟩
            have p96 : Kp G [] c94 := (Kp.nil O91)
            refine ⟨.inr p96, ?_⟩
            refine AC.one 16 (by kernel_rfl) (Go1.memD 16 rfl (by kernel_rfl) (by kernel_rfl) (Own.st (T := 120) (j := 0) (us := [.int .i64 x_34.Row, .int .i64 x_34.Col, .bool x_34.Pending]) (nw := [.int .i64 x_34.Row, .int .i64 x_34.Col, .bool x_34.Pending]) (v := .agg #[.int .i64 x_34.Row, .int .i64 x_34.Col, .bool x_34.Pending]) 0 O91 (by kernel_rfl) rfl rfl rfl rfl (by kernel_rfl) ⟨rfl, rfl, rfl, trivial⟩ rfl rfl) ?_)
            rintro c98 l98 O97
            have p99 : Kp G [] c98 := (Kp.nil O97)
            refine ⟨.inr p99, ?_⟩
            refine AC.done (by kernel_rfl) ?_
            refine nrm ?_
            exact ⟨c98, _, b78, rfl, (l26.trans (l38.trans (l80.trans (l87.trans (l94.trans l98))))), O97, ups_self ⟨rfl, rfl, rfl, rfl, trivial⟩⟩
        · skip
          refine (Go1.mem 15 rfl (by kernel_rfl) (by kernel_rfl) (Own.al (T := 120) (vs := [.int .i64 0, .int .i64 0, .bool false]) O27 (by kernel_rfl)) ?_)
          rintro v103 c102 l102 ⟨b100, rfl, O101⟩
          have p104 : Kp G [] c102 := (Kp.nil O101)
          refine ⟨.inr p104, ?_⟩
          refine AC.one 8 (by kernel_rfl) (Go1.callP 8 rfl (by kernel_rfl) (by kernel_rfl) (by kernel_rfl) (c_grid_Grid_Wide O101 (R0.mono (l13.trans (l26.trans l102))) o_23.G (h32.mono l102) h22) ?_)
          rintro v110 c109 l109 ⟨O106, rfl⟩
          have p111 : Kp G [] c109 := (Kp.nil O106)
          refine ⟨.inr p111, ?_⟩
          refine AC.one 13 (by kernel_rfl) (Go1.callP 13 rfl (by kernel_rfl) (by kernel_rfl) (by kernel_rfl) (c_grid_Grid_High O106 (R0.mono (l13.trans (l26.trans (l102.trans l109)))) o_23.G (h32.mono (l102.trans l109)) h23) ?_)
          rintro v117 c116 l116 ⟨O113, rfl⟩
          have p118 : Kp G [] c116 := (Kp.nil O113)
          refine ⟨.inr p118, ?_⟩
          refine AC.one 14 (by kernel_rfl) (Go1.callP 14 rfl (by kernel_rfl) (by kernel_rfl) (by kernel_rfl) (c_cursor_Hold O113 (⟨o_23.At.Row, o_23.At.Col, o_23.At.Pending⟩ : G_api_Cursor) x_32 x_33 h24) ?_)
          rintro v124 c123 l123 ⟨O120, rfl⟩
          have p125 : Kp G [] c123 := (Kp.nil O120)
          refine ⟨.inr p125, ?_⟩
          refine AC.one 16 (by kernel_rfl) (Go1.memD 16 rfl (by kernel_rfl) (by kernel_rfl) (Own.st (T := 120) (j := 0) (us := [.int .i64 x_34.Row, .int .i64 x_34.Col, .bool x_34.Pending]) (nw := [.int .i64 x_34.Row, .int .i64 x_34.Col, .bool x_34.Pending]) (v := .agg #[.int .i64 x_34.Row, .int .i64 x_34.Col, .bool x_34.Pending]) 0 O120 (by kernel_rfl) rfl rfl rfl rfl (by kernel_rfl) ⟨rfl, rfl, rfl, trivial⟩ rfl rfl) ?_)
          rintro c127 l127 O126
          have p128 : Kp G [] c127 := (Kp.nil O126)
          refine ⟨.inr p128, ?_⟩
          refine AC.done (by kernel_rfl) ?_
          refine nrm ?_
          exact ⟨c127, _, b100, rfl, (l26.trans (l102.trans (l109.trans (l116.trans (l123.trans l127))))), O126, ups_self ⟨rfl, rfl, rfl, rfl, trivial⟩⟩
      · skip
        rintro e_ w_ ⟨c129, g130, b25, rfl, l129, O131, rfl⟩
        refine nrm ?_
        refine sr ?_
        refine va (.pointer (some ⟨b25, 0, none⟩)) ?_
        refine WL.val0 (v := .int .i64 x_34.Row) rfl (rx (by kernel_rfl) (ldE1 (j := 0) Tryd.underlying3 rfl (O131.on 0 rfl) rfl rfl)) ?_
        refine va (.int .i64 (imax 1 (imin p2 1024))) ?_
        refine va (.int .i64 (w64 (x_34.Row - (imax 1 (imin p2 1024))))) ?_
        refine va (.int .i64 (w64 ((w64 (x_34.Row - (imax 1 (imin p2 1024)))) + 1))) ?_
        refine va (.int .i64 (imax 0 (w64 ((w64 (x_34.Row - (imax 1 (imin p2 1024)))) + 1)))) ?_
        refine va (.int .i64 (imax 0 (w64 ((w64 (x_34.Row - (imax 1 (imin p2 1024)))) + 1)))) ?_
        refine wln ?_
        refine sr ?_
        refine va (.int .i64 (imax 1 (imin p1 1024))) ?_
        refine va (.int .i64 (imax 1 (imin p2 1024))) ?_
        obtain ⟨x_48, h135, H⟩ := bs H
        refine WL.callP rfl (by kernel_rfl) (c_grid_New O131 (R0.mono (l13.trans l129)) (imax 1 (imin p1 1024)) (imax 1 (imin p2 1024)) h135) ?_
        rintro v136 c142 l142 ⟨_, G138, O139, R140, a141, rfl, h137⟩
        refine va (v136) ?_
        refine wln ?_
        refine W.seq ?_
        refine sr ?_
        refine va (.int .i64 (imax 1 (imin p2 1024))) ?_
        refine va (.int .i64 0) ?_
        refine wln ?_
        refine W.block ?_
        obtain ⟨o_54, h144, H145⟩ := bs H
        refine W.loop (σ := Int × Sto) (τ := Sto) (fun s_54 => fun e w => ∃ (c : Cx) (g : Nat → Value) (G_ : Gm), w = c.w ∧ c142.le c ∧ Own c G_ (⟨.pointer (some ⟨b25, 0, none⟩), 120, [.int .i64 x_34.Row, .int .i64 x_34.Col, .bool x_34.Pending], 0⟩ :: F) ∧ e = ups g [(0, v1), (1, .int .i64 (imax 1 (imin p1 1024))), (2, .int .i64 (imax 1 (imin p2 1024))), (6, .pointer (some ⟨b25, 0, none⟩)), (7, .int .i64 (imax 0 (w64 ((w64 (x_34.Row - (imax 1 (imin p2 1024)))) + 1)))), (8, v136), (50, .int .i64 (imax 1 (imin p2 1024))), (51, .int .i64 s_54.1)] ∧ Rel c s_54.2 G_) (fun o_54_ ex e w => ex = .exit 0 ∧ (fun e w => ∃ (c : Cx) (g : Nat → Value) (G_ : Gm), w = c.w ∧ c142.le c ∧ Own c G_ (⟨.pointer (some ⟨b25, 0, none⟩), 120, [.int .i64 x_34.Row, .int .i64 x_34.Col, .bool x_34.Pending], 0⟩ :: F) ∧ e = ups g [(0, v1), (1, .int .i64 (imax 1 (imin p1 1024))), (2, .int .i64 (imax 1 (imin p2 1024))), (6, .pointer (some ⟨b25, 0, none⟩)), (7, .int .i64 (imax 0 (w64 ((w64 (x_34.Row - (imax 1 (imin p2 1024)))) + 1)))), (8, v136)] ∧ Rel c o_54_ G_) e w) ?_ h144 ?_ ?_
        · clear H145 h144
          intro s_54 xx_ ee_ ww_ H
          revert ee_ ww_
          rintro e_ w_ ⟨c146, g147, G149, rfl, l146, O148, rfl, R150⟩
          refine sr ?_
          refine va (.bool (decide (s_54.1 < (imax 1 (imin p2 1024))))) ?_
          refine wln ?_
          refine W.seq ?_
          refine W.cond (t := decide (s_54.1 < (imax 1 (imin p2 1024)))) (by kernel_rfl) (fun h152 => ?_) (fun h152 => ?_)
          · have H := it h152 H
            refine W.skip ?_
            refine nrm ?_
            obtain ⟨z_57, H153, H154⟩ := bs H
            refine W.seqJ (fun e w => ∃ (c : Cx) (g : Nat → Value) (G_ : Gm), w = c.w ∧ c146.le c ∧ Own c G_ (⟨.pointer (some ⟨b25, 0, none⟩), 120, [.int .i64 x_34.Row, .int .i64 x_34.Col, .bool x_34.Pending], 0⟩ :: F) ∧ e = ups g [(0, v1), (1, .int .i64 (imax 1 (imin p1 1024))), (2, .int .i64 (imax 1 (imin p2 1024))), (6, .pointer (some ⟨b25, 0, none⟩)), (7, .int .i64 (imax 0 (w64 ((w64 (x_34.Row - (imax 1 (imin p2 1024)))) + 1)))), (8, v136), (50, .int .i64 (imax 1 (imin p2 1024))), (51, .int .i64 s_54.1)] ∧ Rel c z_57 G_) ?_ ?_
            · skip
              refine W.block ?_
              refine sr ?_
              refine va (.int .i64 s_54.1) ?_
              refine va (.int .i64 s_54.1) ?_
              refine wln ?_
              refine sr ?_
              refine va (v1) ?_
              obtain ⟨k_62, h157, H153⟩ := bs H153
              obtain ⟨b155, rfl, h156⟩ := ((h2.mono (l13.trans (l129.trans (l142.trans l146))))).get h157
              refine va (.pointer (some ⟨b155, 0, none⟩)) ?_
              refine va (.pointer (some ⟨b155, 0, none⟩)) ?_
              obtain ⟨o_64, h158, H153⟩ := bs H153
              obtain ⟨v159, h161, h160⟩ := Rel.open_place_Pen R150 h158 h156
              refine WL.val0 (v := v159) rfl (rx (by kernel_rfl) (ldE1 (j := 0) Tryd.underlying51 rfl (O148.gon h161 0 rfl) rfl rfl)) ?_
              refine va (.int .i64 (imax 0 (w64 ((w64 (x_34.Row - (imax 1 (imin p2 1024)))) + 1)))) ?_
              refine va (.int .i64 s_54.1) ?_
              refine va (.int .i64 (w64 ((imax 0 (w64 ((w64 (x_34.Row - (imax 1 (imin p2 1024)))) + 1))) + s_54.1))) ?_
              obtain ⟨x_68, h162, H153⟩ := bs H153
              refine WL.callP rfl (by kernel_rfl) (c_grid_Grid_Row O148 R150 o_64.G (w64 ((imax 0 (w64 ((w64 (x_34.Row - (imax 1 (imin p2 1024)))) + 1))) + s_54.1)) h160 h162) ?_
              rintro v163 c169 l169 ⟨_, O166, rfl, h164⟩
              refine va (v163) ?_
              refine wln ?_
              refine sr ?_
              refine va (v163) ?_
              refine WL.val0 (v := .bool (!x_68.isNone)) rfl (by rcases (h164).cs with ⟨h1_, h2_⟩ | ⟨b_, h1_, h2_⟩ <;> (subst h1_; rw [h2_]; kernel_rfl)) ?_
              refine wln ?_
              refine W.cond (t := !x_68.isNone) (by kernel_rfl) (fun h171 => ?_) (fun h171 => ?_)
              · have H153 := it h171 H153
                refine W.region ?_
                refine va (v136) ?_
                refine va (.int .i64 s_54.1) ?_
                refine va (v163) ?_
                refine va (.int .i64 (imax 1 (imin p1 1024))) ?_
                obtain ⟨x_78, h172, H153⟩ := bs H153
                refine WL.callP rfl (by kernel_rfl) (c_fit_Resize O166 (R150.mono l169) ((hG.mono (l13.trans (l129.trans (l142.trans (l146.trans l169))))).le (by decide)) x_68 (imax 1 (imin p1 1024)) h164 h172) ?_
                rintro v173 c179 l179 ⟨_, G175, O176, R177, rfl, h174⟩
                obtain ⟨x_79, h181, H153⟩ := bs H153
                refine WL.callP rfl (by kernel_rfl) (c_grid_Grid_Set O176 R177 x_48.2 s_54.1 x_78.2 (h137.mono (l146.trans (l169.trans l179))) h174 h181) ?_
                rintro v187 c186 l186 ⟨G182, O183, R184, rfl⟩
                refine WL.nil ?_
                refine bkn ?_
                refine nrm ?_
                obtain rfl := Option.some.inj H153
                exact ⟨c186, _, G182, rfl, (l169.trans (l179.trans l186)), O183, ups_self ⟨rfl, rfl, rfl, rfl, rfl, rfl, rfl, rfl, trivial⟩, R184⟩
              · have H153 := ie h171 H153
                refine W.skip ?_
                refine bkn ?_
                refine nrm ?_
                obtain rfl := Option.some.inj H153
                exact ⟨c169, _, G149, rfl, l169, O166, ups_self ⟨rfl, rfl, rfl, rfl, rfl, rfl, rfl, rfl, trivial⟩, (R150.mono l169)⟩
            · skip
              rintro e_ w_ ⟨c188, g189, G191, rfl, l188, O190, rfl, R192⟩
              refine W.region ?_
              refine va (.int .i64 (w64 (s_54.1 + 1))) ?_
              refine va (.int .i64 (w64 (s_54.1 + 1))) ?_
              refine WL.nil ?_
              obtain rfl := Option.some.inj H154
              refine ⟨_, rfl, ?_⟩
              exact ⟨c188, _, G191, rfl, (l146.trans l188), O190, ups_self ⟨rfl, rfl, rfl, rfl, rfl, rfl, rfl, rfl, trivial⟩, R192⟩
          · have H := ie h152 H
            refine W.exit ?_
            refine thx ?_
            obtain rfl := Option.some.inj H
            refine ⟨_, rfl, rfl, ?_⟩
            exact ⟨c146, _, G149, rfl, l146, O148, ups_self ⟨rfl, rfl, rfl, rfl, rfl, rfl, trivial⟩, R150⟩
        · skip
          exact ⟨c142, _, G138, rfl, (Cx.le.refl _), O139, ups_self ⟨rfl, rfl, rfl, rfl, rfl, rfl, rfl, rfl, trivial⟩, R140⟩
        · skip
          rintro _ e_ w_ ⟨rfl, c194, g195, G197, rfl, l194, O196, rfl, R198⟩
          refine bke ?_
          refine nrm ?_
          refine sr ?_
          refine va (v1) ?_
          refine va (v136) ?_
          obtain ⟨k_86, h202, H145⟩ := bs H145
          obtain ⟨b200, rfl, h201⟩ := ((h2.mono (l13.trans (l129.trans (l142.trans l194))))).get h202
          refine va (.pointer (some ⟨b200, 0, none⟩)) ?_
          refine va (.pointer (some ⟨b200, 0, none⟩)) ?_
          obtain ⟨a203, rfl⟩ := ((h137.mono l194)).form
          obtain ⟨o_88, h204, H145⟩ := bs H145
          obtain ⟨v205, h207, h206⟩ := Rel.open_place_Pen R198 h204 h201
          refine WL.memD rfl (Own.stG (T := 51) (j := 0) (us := [.pointer a203]) (nw := [.pointer a203, .int .i64 o_88.At.Row, .int .i64 o_88.At.Col, .bool o_88.At.Pending, .bool o_88.Auto]) (v := .pointer a203) 0 O196 (by kernel_rfl) h207 rfl rfl rfl rfl (by kernel_rfl) ⟨(h137.mono l194).one, trivial⟩ rfl rfl) ?_
          rintro c209 l209 O208
          obtain ⟨s_88001, h214, H145⟩ := bs H145
          obtain ⟨G210, O211, R212, h213, a215⟩ := Rel.put_place_Pen O208 (R198.mono l209) (E' := [⟨.pointer (some ⟨b200, 0, none⟩), 131, [.pointer a203, .int .i64 o_88.At.Row, .int .i64 o_88.At.Col, .bool o_88.At.Pending, .bool o_88.Auto], 0⟩]) h214 ⟨b200, (.pointer a203), (l209.t _ _ _ h201), rfl, (h137.mono (l194.trans l209))⟩
          refine wln ?_
          refine W.region ?_
          refine va (.pointer (some ⟨b200, 0, none⟩)) ?_
          refine va (.pointer (some ⟨b25, 0, none⟩)) ?_
          refine WL.val0 (v := .int .i64 x_34.Row) rfl (rx (by kernel_rfl) (ldE1 (j := 0) Tryd.underlying3 rfl (O211.on 0 rfl) rfl rfl)) ?_
          refine va (.int .i64 (imax 0 (w64 ((w64 (x_34.Row - (imax 1 (imin p2 1024)))) + 1)))) ?_
          refine va (.int .i64 (w64 (x_34.Row - (imax 0 (w64 ((w64 (x_34.Row - (imax 1 (imin p2 1024)))) + 1)))))) ?_
          refine va (.pointer (some ⟨b25, 1, none⟩)) ?_
          refine WL.val0 (v := .int .i64 x_34.Col) rfl (rx (by kernel_rfl) (ldE1 (j := 1) Tryd.underlying3 rfl (O211.on 0 rfl) rfl rfl)) ?_
          refine va (.int .i64 (imax 1 (imin p1 1024))) ?_
          refine va (.int .i64 (imax 1 (imin p2 1024))) ?_
          obtain ⟨x_99, h216, H145⟩ := bs H145
          refine WL.callP rfl (by kernel_rfl) (c_cursor_Move O211 (w64 (x_34.Row - (imax 0 (w64 ((w64 (x_34.Row - (imax 1 (imin p2 1024)))) + 1))))) x_34.Col (imax 1 (imin p1 1024)) (imax 1 (imin p2 1024)) h216) ?_
          rintro v222 c221 l221 ⟨O218, rfl⟩
          refine va (.pointer (some ⟨b200, 0, none⟩)) ?_
          refine va (.pointer (some ⟨b200, 1, none⟩)) ?_
          refine WL.memD rfl (Own.stG (T := 120) (j := 1) (us := [.int .i64 x_99.Row, .int .i64 x_99.Col, .bool x_99.Pending]) (nw := [.pointer a203, .int .i64 x_99.Row, .int .i64 x_99.Col, .bool x_99.Pending, .bool o_88.Auto]) (v := .agg #[.int .i64 x_99.Row, .int .i64 x_99.Col, .bool x_99.Pending]) 0 O218 (by kernel_rfl) h213 rfl rfl rfl rfl (by kernel_rfl) ⟨rfl, rfl, rfl, trivial⟩ rfl rfl) ?_
          rintro c224 l224 O223
          obtain ⟨s_102001, h229, H145⟩ := bs H145
          obtain ⟨G225, O226, R227, h228, a230⟩ := Rel.put_place_Pen O223 (R212.mono (l221.trans l224)) (E' := [⟨.pointer (some ⟨b200, 0, none⟩), 131, [.pointer a203, .int .i64 x_99.Row, .int .i64 x_99.Col, .bool x_99.Pending, .bool o_88.Auto], 0⟩]) h229 ⟨b200, (.pointer a203), ((l209.trans (l221.trans l224)).t _ _ _ h201), rfl, (h137.mono (l194.trans (l209.trans (l221.trans l224))))⟩
          refine WL.nil ?_
          obtain rfl := Option.some.inj H145
          have O231 := O226.selD 1 [] (by kernel_rfl) (by kernel_rfl)
          exact end0 rfl ⟨_, c224, rfl, rfl, (l13.trans (l129.trans (l142.trans (l194.trans (l209.trans (l221.trans l224)))))), G225, O231, R227, rfl⟩

def f_linotypelaw39_works (sg : Sto) : Option (Sto × Bool) :=
  (f_place_New sg 1 3).bind fun x_3 =>
  if x_3.2.isNone = true then
  some (x_3.1, false)
  else
  (x_3.2).bind fun k_12 =>
  (x_3.1.place_Pen[k_12]?).bind fun o_15 =>
  (x_3.1.set_place_Pen k_12 (⟨o_15.G, (⟨2, o_15.At.Col, o_15.At.Pending⟩ : G_api_Cursor), o_15.Auto⟩ : G_place_Pen)).bind fun s_15001 =>
  (f_place_Pen_Put s_15001 x_3.2 1 ([99] : List Int)).bind fun x_19 =>
  (f_size_Resize x_19.1 x_3.2 2 2).bind fun x_22 =>
  (x_22.place_Pen[k_12]?).bind fun o_27 =>
  (f_grid_Grid_Row x_22 o_27.G 1).bind fun x_28 =>
  (f_row_Row_Cell x_22 x_28 0).bind fun x_29 =>
  (andE x_29.2 (some ((x_29.1.Text.length : Int) == 1))).bind fun d_38 =>
  (andE d_38 (some (o_27.At.Row == 1 && (o_27.At.Col == 0 && (o_27.At.Pending == false && true))))).bind fun d_44 =>
  (andE d_44 ((f_grid_Grid_Wide x_22 o_27.G).bind fun x_58 =>
  some (x_58 == 2))).bind fun d_52 =>
  some (x_22, d_52)
theorem c_linotypelaw39_works {c0 : Cx} {G : Gm} {F : List En} {sg : Sto} (O0 : Own c0 G F) (R0 : Rel c0 sg G) (hG : Gl [0, 1] c0) {r : Sto × Bool} (H : f_linotypelaw39_works sg = some r) :
    Calls Tryd.prog 86 #[] c0.w (Post c0 fun c v => ∃ G_ : Gm, Own c G_ (F) ∧ Rel c r.1 G_ ∧ v = .bool r.2) := by
  unfold f_linotypelaw39_works at H
  refine enter (l := []) Tryd.func86 rfl rfl rfl ?_
  refine sr ?_
  refine va (.bool false) ?_
  refine wln ?_
  refine sr ?_
  obtain ⟨x_3, h1, H⟩ := bs H
  refine WL.callP rfl (by kernel_rfl) (c_place_New O0 R0 1 3 h1) ?_
  rintro v2 c8 l8 ⟨_, G4, O5, R6, a7, rfl, h3⟩
  refine va (v2) ?_
  refine wln ?_
  refine W.seq ?_
  refine sr ?_
  refine va (v2) ?_
  refine WL.val0 (v := .bool x_3.2.isNone) rfl (by rcases (h3).cs with ⟨h1_, h2_⟩ | ⟨b_, h1_, h2_⟩ <;> (subst h1_; rw [h2_]; kernel_rfl)) ?_
  refine wln ?_
  refine W.cond (t := x_3.2.isNone) (by kernel_rfl) (fun h10 => ?_) (fun h10 => ?_)
  · have H := it h10 H
    refine sr ?_
    refine va (.bool false) ?_
    refine wln ?_
    refine W.ret ?_
    refine thr ?_
    obtain rfl := Option.some.inj H
    exact ret1 (v := .bool false) rfl (by kernel_rfl) ⟨_, c8, rfl, rfl, l8, G4, O5, R6, rfl⟩
  · have H := ie h10 H
    refine W.skip ?_
    refine nrm ?_
    refine sr ?_
    refine va (v2) ?_
    obtain ⟨k_12, h13, H⟩ := bs H
    obtain ⟨b11, rfl, h12⟩ := (h3).get h13
    refine va (.pointer (some ⟨b11, 0, none⟩)) ?_
    refine va (.pointer (some ⟨b11, 1, none⟩)) ?_
    refine va (.pointer (some ⟨b11, 1, none⟩)) ?_
    obtain ⟨o_15, h14, H⟩ := bs H
    obtain ⟨v15, h17, h16⟩ := Rel.open_place_Pen R6 h14 h12
    refine WL.memD rfl (Own.stG (T := 3) (j := 1) (us := [.int .i64 2]) (nw := [v15, .int .i64 2, .int .i64 o_15.At.Col, .bool o_15.At.Pending, .bool o_15.Auto]) (v := .int .i64 2) 0 O5 (by kernel_rfl) h17 rfl rfl rfl rfl (by kernel_rfl) ⟨rfl, trivial⟩ rfl rfl) ?_
    rintro c19 l19 O18
    obtain ⟨s_15001, h24, H⟩ := bs H
    obtain ⟨G20, O21, R22, h23, a25⟩ := Rel.put_place_Pen O18 (R6.mono l19) (E' := [⟨.pointer (some ⟨b11, 0, none⟩), 131, [v15, .int .i64 2, .int .i64 o_15.At.Col, .bool o_15.At.Pending, .bool o_15.Auto], 0⟩]) h24 ⟨b11, v15, (l19.t _ _ _ h12), rfl, (h16.mono l19)⟩
    refine wln ?_
    refine sr ?_
    refine va (.pointer (some ⟨b11, 0, none⟩)) ?_
    refine WL.mem rfl (Own.sl (R := (RI .i32)) (E := 21) (ls := [[.int .i32 99]]) (vs := [.int .i32 99]) (xs := ([99] : List Int)) true O21 (Nat.succ_pos _) rfl ⟨rfl, trivial⟩ (by kernel_rfl) (by kernel_rfl)) ?_
    rintro v30 c29 l29 ⟨u27, O26, h28⟩
    obtain ⟨c33, h34, l33, O31, h32⟩ := O26.frz 0 rfl h28
    refine WL.gh h34 ?_
    obtain ⟨x_19, h35, H⟩ := bs H
    refine WL.callP rfl (by kernel_rfl) (c_place_Pen_Put O31 (R22.mono (l29.trans l33)) ((hG.mono (l8.trans (l19.trans (l29.trans l33)))).le (by decide)) x_3.2 1 ([99] : List Int) (h3.mono (l19.trans (l29.trans l33))) h32 h35) ?_
    rintro v41 c40 l40 ⟨G36, O37, R38, rfl⟩
    refine wln ?_
    refine sr ?_
    refine va (.pointer (some ⟨b11, 0, none⟩)) ?_
    obtain ⟨x_22, h42, H⟩ := bs H
    refine WL.callP rfl (by kernel_rfl) (c_size_Resize O37 R38 ((hG.mono (l8.trans (l19.trans (l29.trans (l33.trans l40))))).le (by decide)) x_3.2 2 2 (h3.mono (l19.trans (l29.trans (l33.trans l40)))) h42) ?_
    rintro v48 c47 l47 ⟨G43, O44, R45, rfl⟩
    refine wln ?_
    refine sr ?_
    refine va (.pointer (some ⟨b11, 0, none⟩)) ?_
    refine va (.pointer (some ⟨b11, 0, none⟩)) ?_
    refine va (.pointer (some ⟨b11, 0, none⟩)) ?_
    obtain ⟨o_27, h49, H⟩ := bs H
    obtain ⟨v50, h52, h51⟩ := Rel.open_place_Pen R45 h49 ((l19.trans (l29.trans (l33.trans (l40.trans l47)))).t _ _ _ h12)
    refine WL.val0 (v := v50) rfl (rx (by kernel_rfl) (ldE1 (j := 0) Tryd.underlying51 rfl (O44.gon h52 0 rfl) rfl rfl)) ?_
    obtain ⟨x_28, h53, H⟩ := bs H
    refine WL.callP rfl (by kernel_rfl) (c_grid_Grid_Row O44 R45 o_27.G 1 h51 h53) ?_
    rintro v54 c60 l60 ⟨_, O57, rfl, h55⟩
    obtain ⟨x_29, h62, H⟩ := bs H
    refine WL.callP rfl (by kernel_rfl) (c_row_Row_Cell O57 (R45.mono l60) x_28 0 h55 h62) ?_
    rintro v71 c70 l70 ⟨v63, u64, O67, rfl, h65⟩
    refine va (.tuple #[.agg #[.int .i64 x_29.1.Kind, v63], .bool x_29.2]) ?_
    refine va (.agg #[.int .i64 x_29.1.Kind, v63]) ?_
    refine va (.bool x_29.2) ?_
    refine WL.mem rfl (Own.al (T := 27) (vs := [.int .i64 0, .slice none 0 0]) O67 (by kernel_rfl)) ?_
    rintro v75 c74 l74 ⟨b72, rfl, O73⟩
    obtain ⟨a76, a77, a78, rfl⟩ := ((h65.mono l74)).form
    refine WL.memD rfl (Own.st (T := 27) (j := 0) (us := [.int .i64 x_29.1.Kind, .slice a76 a77 a78]) (nw := [.int .i64 x_29.1.Kind, .slice a76 a77 a78]) (v := .agg #[.int .i64 x_29.1.Kind, .slice a76 a77 a78]) 0 O73 (by kernel_rfl) rfl rfl rfl rfl (by kernel_rfl) ⟨rfl, ((h65.mono l74)).one, trivial⟩ rfl rfl) ?_
    rintro c80 l80 O79
    refine va (.bool x_29.2) ?_
    refine wln ?_
    refine W.seq ?_
    obtain ⟨d_38, h81, H⟩ := bs H
    obtain ⟨d_44, h82, H⟩ := bs H
    obtain ⟨d_52, h83, H⟩ := bs H
    refine W.join (fun e w => ∃ (c : Cx) (g : Nat → Value), w = c.w ∧ c80.le c ∧ Own c G43 (⟨.pointer (some ⟨b72, 0, none⟩), 27, [.int .i64 x_29.1.Kind, .slice a76 a77 a78], 0⟩ :: es true (RI .i32) (.slice a76 a77 a78) 21 u64 x_29.1.Text :: es false (RI .i32) v30 21 u27 ([99] : List Int) :: F) ∧ e = ups g [(0, .bool d_52)]) ?_ ?_
    · clear H
      refine W.region ?_
      refine va (.bool x_29.2) ?_
      rcases Bool.eq_false_or_eq_true (x_29.2) with h84 | h84
      · skip
        have H85 := anT h84 h81
        refine vb h84 ?_
        refine wn ?_
        refine va (.pointer (some ⟨b72, 1, none⟩)) ?_
        refine wn ?_
        refine WL.val0 (v := .slice a76 a77 a78) rfl (rx (by kernel_rfl) (ldE1 (j := 1) Tryd.underlying25 rfl (O79.on 0 rfl) rfl rfl)) ?_
        refine wn ?_
        refine WL.val0 (v := .int .i64 (x_29.1.Text.length : Int)) rfl (rx (by kernel_rfl) (run_lenO (ty := 3) Tryd.underlying25 (h65.mono (l74.trans l80)) _)) ?_
        refine wn ?_
        refine va (.bool ((x_29.1.Text.length : Int) == 1)) ?_
        obtain rfl := Option.some.inj H85
        refine va (.bool ((x_29.1.Text.length : Int) == 1)) ?_
        rcases Bool.eq_false_or_eq_true ((x_29.1.Text.length : Int) == 1) with h86 | h86
        · skip
          have H87 := anT h86 h82
          refine vb h86 ?_
          refine wn ?_
          refine va (.pointer (some ⟨b11, 0, none⟩)) ?_
          refine wn ?_
          refine va (.pointer (some ⟨b11, 0, none⟩)) ?_
          refine wn ?_
          refine va (.pointer (some ⟨b11, 1, none⟩)) ?_
          refine wn ?_
          refine WL.val0 (v := .agg #[.int .i64 o_27.At.Row, .int .i64 o_27.At.Col, .bool o_27.At.Pending]) rfl (rx (by kernel_rfl) (ldEN (T := 120) (j := 1) (l := [.int .i64 o_27.At.Row, .int .i64 o_27.At.Col, .bool o_27.At.Pending]) (by kernel_rfl) (by kernel_rfl) (O79.gon h52 0 rfl) rfl rfl)) ?_
          refine wn ?_
          refine va (.agg #[.int .i64 1, .int .i64 0, .bool false]) ?_
          refine wn ?_
          refine WL.val0 (v := .bool (o_27.At.Row == 1 && (o_27.At.Col == 0 && (o_27.At.Pending == false && true)))) rfl (run_eqlA (T := 120) (xs := #[.int .i64 o_27.At.Row, .int .i64 o_27.At.Col, .bool o_27.At.Pending]) (ys := #[.int .i64 1, .int .i64 0, .bool false]) (r := (o_27.At.Row == 1 && (o_27.At.Col == 0 && (o_27.At.Pending == false && true)))) Tryd.underlying120 (by kernel_rfl) (by kernel_rfl) (EqP.int (by kernel_rfl) Tryd.underlying3 rfl rfl (EqP.int (by kernel_rfl) Tryd.underlying3 rfl rfl (EqP.bool (by kernel_rfl) Tryd.underlying4 rfl rfl EqP.nil))) (by kernel_rfl) _) ?_
          obtain rfl := Option.some.inj H87
          refine va (.bool (o_27.At.Row == 1 && (o_27.At.Col == 0 && (o_27.At.Pending == false && true)))) ?_
          rcases Bool.eq_false_or_eq_true ((o_27.At.Row == 1 && (o_27.At.Col == 0 && (o_27.At.Pending == false && true)))) with h88 | h88
          · skip
            have H89 := anT h88 h83
            refine vb h88 ?_
            refine wn ?_
            refine va (.pointer (some ⟨b11, 0, none⟩)) ?_
            refine wn ?_
            refine va (.pointer (some ⟨b11, 0, none⟩)) ?_
            refine wn ?_
            refine va (.pointer (some ⟨b11, 0, none⟩)) ?_
            refine wn ?_
            refine WL.val0 (v := v50) rfl (rx (by kernel_rfl) (ldE1 (j := 0) Tryd.underlying51 rfl (O79.gon h52 0 rfl) rfl rfl)) ?_
            refine wn ?_
            obtain ⟨x_58, h90, H89⟩ := bs H89
            refine WL.callP rfl (by kernel_rfl) (c_grid_Grid_Wide O79 (R45.mono (l60.trans (l70.trans (l74.trans l80)))) o_27.G (h51.mono (l60.trans (l70.trans (l74.trans l80)))) h90) ?_
            rintro v96 c95 l95 ⟨O92, rfl⟩
            refine wn ?_
            refine va (.bool (x_58 == 2)) ?_
            obtain rfl := Option.some.inj H89
            refine va (.bool (x_58 == 2)) ?_
            refine va (.bool (x_58 == 2)) ?_
            refine wln ?_
            exact ⟨c95, _, rfl, l95, O92, ups_self ⟨rfl, trivial⟩⟩
          · skip
            obtain rfl := anF h88 h83
            refine vb h88 ?_
            refine ps ?_
            refine ps ?_
            refine ps ?_
            refine ps ?_
            refine ps ?_
            refine ps ?_
            refine va (.bool false) ?_
            refine va (.bool false) ?_
            refine wln ?_
            exact ⟨c80, _, rfl, (Cx.le.refl _), O79, ups_self ⟨rfl, trivial⟩⟩
        · skip
          obtain rfl := anF h86 h82
          refine vb h86 ?_
          refine ps ?_
          refine ps ?_
          refine ps ?_
          refine ps ?_
          refine ps ?_
          refine ps ?_
          refine va (.bool false) ?_
          have h97 : false = false := rfl
          obtain rfl := anF h97 h83
          refine vb h97 ?_
          refine ps ?_
          refine ps ?_
          refine ps ?_
          refine ps ?_
          refine ps ?_
          refine ps ?_
          refine va (.bool false) ?_
          refine va (.bool false) ?_
          refine wln ?_
          exact ⟨c80, _, rfl, (Cx.le.refl _), O79, ups_self ⟨rfl, trivial⟩⟩
      · skip
        obtain rfl := anF h84 h81
        refine vb h84 ?_
        refine ps ?_
        refine ps ?_
        refine ps ?_
        refine ps ?_
        refine va (.bool false) ?_
        have h98 : false = false := rfl
        obtain rfl := anF h98 h82
        refine vb h98 ?_
        refine ps ?_
        refine ps ?_
        refine ps ?_
        refine ps ?_
        refine ps ?_
        refine ps ?_
        refine va (.bool false) ?_
        have h99 : false = false := rfl
        obtain rfl := anF h99 h83
        refine vb h99 ?_
        refine ps ?_
        refine ps ?_
        refine ps ?_
        refine ps ?_
        refine ps ?_
        refine ps ?_
        refine va (.bool false) ?_
        refine va (.bool false) ?_
        refine wln ?_
        exact ⟨c80, _, rfl, (Cx.le.refl _), O79, ups_self ⟨rfl, trivial⟩⟩
    · skip
      rintro e_ w_ ⟨c100, g101, rfl, l100, O102, rfl⟩
      refine nrm ?_
      refine W.ret ?_
      obtain rfl := Option.some.inj H
      have O106 := O102.selD 3 [] (by kernel_rfl) (by kernel_rfl)
      exact ret1 (v := .bool d_52) rfl (by kernel_rfl) ⟨_, c100, rfl, rfl, (l8.trans (l19.trans (l29.trans (l33.trans (l40.trans (l47.trans (l60.trans (l70.trans (l74.trans (l80.trans l100)))))))))), G43, O106, (R45.mono (l60.trans (l70.trans (l74.trans (l80.trans l100))))), rfl⟩

def f_linotyperef28_Resize (p0 : List G_api_Cell) (p1 : Int) : Option (List G_api_Cell) :=
  (rep (imax 1 (imin p1 1024)) (⟨0, ([] : List Int)⟩ : G_api_Cell)).bind fun x_9 =>
  (iter (σ := (List G_api_Cell) × Int) (τ := (List G_api_Cell)) (((imax 1 (imin p1 1024)) - 0).toNat + 1) (fun s_14 =>
  (andE (decide (s_14.2 < (imax 1 (imin p1 1024)))) (some (decide (s_14.2 < (p0.length : Int))))).bind fun d_18 =>
  if d_18 = true then
  ((orE (decide ((w64 (s_14.2 + 1)) < (imax 1 (imin p1 1024)))) ((idx p0 s_14.2).bind fun x_34 =>
  some (x_34.Kind != 2))).bind fun d_30 =>
  if d_30 = true then
  (idx p0 s_14.2).bind fun x_43 =>
  (idx s_14.1 s_14.2).bind fun x_45 =>
  (sets s_14.1 s_14.2 x_43).bind fun w_46 =>
  (some (w_46) : Option ((List G_api_Cell)))
  else
  (some (s_14.1) : Option ((List G_api_Cell)))).bind fun z_25 =>
  some (.inl (z_25, (w64 (s_14.2 + 1))))
  else
  some (.inr (s_14.1))) (x_9, 0)).bind fun o_14 =>
  some o_14
theorem c_linotyperef28_Resize {c0 : Cx} {G : Gm} {F : List En} {v1 : Value} (O0 : Own c0 G F) (p0 : List G_api_Cell) (p1 : Int) {r : List G_api_Cell} (h2 : Sl R_api_Cell c0 v1 p0) (H : f_linotyperef28_Resize p0 p1 = some r) :
    Calls Tryd.prog 151 #[v1, .int .i64 p1] c0.w (Post c0 fun c v => ∃ y1 : Value, ∃ y2 : List Value, Own c G (es true R_api_Cell y1 27 y2 r :: F) ∧ v = y1 ∧ OA R_api_Cell c y1 y2 r) := by
  unfold f_linotyperef28_Resize at H
  refine enter (l := [v1, .int .i64 p1]) Tryd.func151 rfl rfl rfl ?_
  refine sr ?_
  refine va (.slice none 0 0) ?_
  refine wln ?_
  refine sr ?_
  refine va (.int .i64 p1) ?_
  refine va (.int .i64 (imin p1 1024)) ?_
  refine va (.int .i64 (imax 1 (imin p1 1024))) ?_
  refine va (.int .i64 (imax 1 (imin p1 1024))) ?_
  refine wln ?_
  refine sr ?_
  refine va (.int .i64 (imax 1 (imin p1 1024))) ?_
  obtain ⟨x_9, h3, H⟩ := bs H
  refine WL.mem rfl (Own.mkS (kl := .i64) (kc := .i64) (R := R_api_Cell) (z := .agg #[.int .i64 0, .slice none 0 0]) (lz := [.int .i64 0, .slice none 0 0]) (x := (⟨0, ([] : List Int)⟩ : G_api_Cell)) (by_ := 32) (i := (imax 1 (imin p1 1024))) (j := (imax 1 (imin p1 1024))) true O0 (Nat.succ_pos _) h3 (Int.le_refl _) (rep_le h3) Tryd.underlying22 (by kernel_rfl) rfl rfl (fun _ => ⟨(.slice none 0 0), rfl, (Sl.nl _ _)⟩) (by kernel_rfl) (by kernel_rfl)) ?_
  rintro v8 c7 l7 ⟨u5, O4, h6⟩
  refine va (v8) ?_
  refine wln ?_
  refine W.seq ?_
  refine sr ?_
  refine va (.int .i64 0) ?_
  refine wln ?_
  refine W.block ?_
  obtain ⟨o_14, h9, H10⟩ := bs H
  refine W.loop (σ := (List G_api_Cell) × Int) (τ := (List G_api_Cell)) (fun s_14 => fun e w => ∃ (c : Cx) (g : Nat → Value) (v11 : Value) (u12 : List Value), w = c.w ∧ c7.le c ∧ Own c G (es true R_api_Cell v11 27 u12 s_14.1 :: F) ∧ e = ups g [(0, v1), (1, .int .i64 (imax 1 (imin p1 1024))), (5, v11), (6, .int .i64 s_14.2)] ∧ OA R_api_Cell c v11 u12 s_14.1) (fun o_14_ ex e w => ex = .exit 0 ∧ (fun e w => ∃ (c : Cx) (g : Nat → Value) (v13 : Value) (u14 : List Value), w = c.w ∧ c7.le c ∧ Own c G (es true R_api_Cell v13 27 u14 o_14_ :: F) ∧ e = ups g [(5, v13)] ∧ OA R_api_Cell c v13 u14 o_14_) e w) ?_ h9 ?_ ?_
  · clear H10 h9
    intro s_14 xx_ ee_ ww_ H
    revert ee_ ww_
    rintro e_ w_ ⟨c15, g16, v11, u12, rfl, l15, O17, rfl, h18⟩
    refine W.seq ?_
    refine W.seq ?_
    obtain ⟨d_18, h22, H⟩ := bs H
    refine W.join (fun e w => ∃ (c : Cx) (g : Nat → Value), w = c.w ∧ c15.le c ∧ Own c G (es true R_api_Cell v11 27 u12 s_14.1 :: F) ∧ e = ups g [(0, v1), (1, .int .i64 (imax 1 (imin p1 1024))), (5, v11), (6, .int .i64 s_14.2), (20, .bool d_18)]) ?_ ?_
    · clear H
      refine W.region ?_
      refine va (.int .i64 s_14.2) ?_
      refine va (.int .i64 (imax 1 (imin p1 1024))) ?_
      refine va (.bool (decide (s_14.2 < (imax 1 (imin p1 1024))))) ?_
      rcases Bool.eq_false_or_eq_true (decide (s_14.2 < (imax 1 (imin p1 1024)))) with h23 | h23
      · skip
        have H24 := anT h23 h22
        refine vb h23 ?_
        refine wn ?_
        refine va (.int .i64 s_14.2) ?_
        refine wn ?_
        refine va (v1) ?_
        refine wn ?_
        refine WL.val0 (v := .int .i64 (p0.length : Int)) rfl (rx (by kernel_rfl) (run_len (ty := 3) Tryd.underlying22 (h2.mono (l7.trans l15)) _)) ?_
        refine wn ?_
        refine va (.bool (decide (s_14.2 < (p0.length : Int)))) ?_
        obtain rfl := Option.some.inj H24
        refine va (.bool (decide (s_14.2 < (p0.length : Int)))) ?_
        refine wln ?_
        exact ⟨c15, _, rfl, (Cx.le.refl _), O17, ups_self ⟨rfl, rfl, rfl, rfl, rfl, trivial⟩⟩
      · skip
        obtain rfl := anF h23 h22
        refine vb h23 ?_
        refine ps ?_
        refine ps ?_
        refine ps ?_
        refine ps ?_
        refine va (.bool false) ?_
        refine wln ?_
        exact ⟨c15, _, rfl, (Cx.le.refl _), O17, ups_self ⟨rfl, rfl, rfl, rfl, rfl, trivial⟩⟩
    · skip
      rintro e_ w_ ⟨c25, g26, rfl, l25, O27, rfl⟩
      refine nrm ?_
      refine W.cond (t := d_18) (by kernel_rfl) (fun h31 => ?_) (fun h31 => ?_)
      · have H := it h31 H
        refine W.skip ?_
        refine nrm ?_
        obtain ⟨z_25, H32, H33⟩ := bs H
        refine W.seqJ (fun e w => ∃ (c : Cx) (g : Nat → Value) (v34 : Value) (u35 : List Value), w = c.w ∧ c25.le c ∧ Own c G (es true R_api_Cell v34 27 u35 z_25 :: F) ∧ e = ups g [(0, v1), (1, .int .i64 (imax 1 (imin p1 1024))), (5, v34), (6, .int .i64 s_14.2)] ∧ OA R_api_Cell c v34 u35 z_25) ?_ ?_
        · skip
          refine W.block ?_
          refine W.seq ?_
          obtain ⟨d_30, h36, H32⟩ := bs H32
          refine W.join (fun e w => ∃ (c : Cx) (g : Nat → Value), w = c.w ∧ c25.le c ∧ Own c G (es true R_api_Cell v11 27 u12 s_14.1 :: F) ∧ e = ups g [(0, v1), (1, .int .i64 (imax 1 (imin p1 1024))), (5, v11), (6, .int .i64 s_14.2), (34, .bool d_30)]) ?_ ?_
          · clear H32
            refine W.region ?_
            refine va (.int .i64 s_14.2) ?_
            refine va (.int .i64 (w64 (s_14.2 + 1))) ?_
            refine va (.int .i64 (imax 1 (imin p1 1024))) ?_
            refine va (.bool (decide ((w64 (s_14.2 + 1)) < (imax 1 (imin p1 1024))))) ?_
            rcases Bool.eq_false_or_eq_true (decide ((w64 (s_14.2 + 1)) < (imax 1 (imin p1 1024)))) with h37 | h37
            · skip
              obtain rfl := orT h37 h36
              refine vb h37 ?_
              refine ps ?_
              refine ps ?_
              refine ps ?_
              refine ps ?_
              refine ps ?_
              refine ps ?_
              refine va (.bool true) ?_
              refine wln ?_
              exact ⟨c25, _, rfl, (Cx.le.refl _), O27, ups_self ⟨rfl, rfl, rfl, rfl, rfl, trivial⟩⟩
            · skip
              have H38 := orF h37 h36
              refine vb h37 ?_
              refine wn ?_
              refine va (v1) ?_
              refine wn ?_
              refine va (.int .i64 s_14.2) ?_
              refine wn ?_
              obtain ⟨x_34, h39, H38⟩ := bs H38
              obtain ⟨l_40, h41, m42⟩ := Sl.at (h2.mono (l7.trans (l15.trans l25))) (idx_get h39)
              obtain ⟨v43, rfl, h44⟩ := h41
              refine WL.val0 (v := .pointer (some ⟨sb v1, so v1 + s_14.2.toNat * 2, none⟩)) rfl (rx (by kernel_rfl) (run_index (k := .i64) Tryd.underlying22 (by kernel_rfl) (h2.mono (l7.trans (l15.trans l25))) h39 _)) ?_
              refine wn ?_
              refine va (.pointer (some ⟨sb v1, so v1 + s_14.2.toNat * 2, none⟩)) ?_
              refine wn ?_
              refine WL.val0 (v := .int .i64 x_34.Kind) rfl (rx (by kernel_rfl) (run_load1 Tryd.underlying3 rfl (m42 0 _ rfl))) ?_
              refine wn ?_
              refine va (.bool (x_34.Kind != 2)) ?_
              obtain rfl := Option.some.inj H38
              refine va (.bool (x_34.Kind != 2)) ?_
              refine wln ?_
              exact ⟨c25, _, rfl, (Cx.le.refl _), O27, ups_self ⟨rfl, rfl, rfl, rfl, rfl, trivial⟩⟩
          · skip
            rintro e_ w_ ⟨c45, g46, rfl, l45, O47, rfl⟩
            refine nrm ?_
            refine W.cond (t := d_30) (by kernel_rfl) (fun h51 => ?_) (fun h51 => ?_)
            · have H32 := it h51 H32
              refine W.region ?_
              refine va (v11) ?_
              refine va (.int .i64 s_14.2) ?_
              refine va (v1) ?_
              refine va (.int .i64 s_14.2) ?_
              obtain ⟨x_43, h52, H32⟩ := bs H32
              obtain ⟨l_53, h54, m55⟩ := Sl.at (h2.mono (l7.trans (l15.trans (l25.trans l45)))) (idx_get h52)
              obtain ⟨v56, rfl, h57⟩ := h54
              refine WL.val0 (v := .pointer (some ⟨sb v1, so v1 + s_14.2.toNat * 2, none⟩)) rfl (rx (by kernel_rfl) (run_index (k := .i64) Tryd.underlying22 (by kernel_rfl) (h2.mono (l7.trans (l15.trans (l25.trans l45)))) h52 _)) ?_
              refine WL.val0 (v := .agg #[.int .i64 x_43.Kind, v56]) rfl (rx (by kernel_rfl) (run_loadN (T := 27) (by kernel_rfl) (by kernel_rfl) m55)) ?_
              obtain ⟨x_45, h58, H32⟩ := bs H32
              refine WL.val0 (v := .pointer (some ⟨sb v11, s_14.2.toNat * 2, none⟩)) rfl (rx (by kernel_rfl) (run_indexO (k := .i64) Tryd.underlying22 (by kernel_rfl) (h18.mono (l25.trans l45)) h58 _)) ?_
              obtain ⟨a59, a60, a61, rfl⟩ := (h57).form
              obtain ⟨w_46, h62, H32⟩ := bs H32
              refine WL.memD rfl (Own.stW (R := R_api_Cell) (T := 27) (us := [.int .i64 x_43.Kind, .slice a59 a60 a61]) (x' := x_43) (u := .agg #[.int .i64 x_43.Kind, .slice a59 a60 a61]) 0 O47 (by kernel_rfl) rfl (h18.mono (l25.trans l45)) h62 rfl (by kernel_rfl) ⟨rfl, h57.one, trivial⟩ rfl ⟨(.slice a59 a60 a61), rfl, h57⟩) ?_
              rintro c66 l66 ⟨u64, O63, h65⟩
              refine WL.nil ?_
              refine bkn ?_
              refine nrm ?_
              obtain rfl := Option.some.inj H32
              exact ⟨c66, _, v11, u64, rfl, (l45.trans l66), O63, ups_self ⟨rfl, rfl, rfl, rfl, trivial⟩, h65⟩
            · have H32 := ie h51 H32
              refine W.skip ?_
              refine bkn ?_
              refine nrm ?_
              obtain rfl := Option.some.inj H32
              exact ⟨c45, _, v11, u12, rfl, l45, O47, ups_self ⟨rfl, rfl, rfl, rfl, trivial⟩, (h18.mono (l25.trans l45))⟩
        · skip
          rintro e_ w_ ⟨c67, g68, v34, u35, rfl, l67, O69, rfl, h70⟩
          refine W.region ?_
          refine va (.int .i64 s_14.2) ?_
          refine va (.int .i64 (w64 (s_14.2 + 1))) ?_
          refine va (.int .i64 (w64 (s_14.2 + 1))) ?_
          refine WL.nil ?_
          obtain rfl := Option.some.inj H33
          refine ⟨_, rfl, ?_⟩
          exact ⟨c67, _, v34, u35, rfl, (l15.trans (l25.trans l67)), O69, ups_self ⟨rfl, rfl, rfl, rfl, trivial⟩, h70⟩
      · have H := ie h31 H
        refine W.exit ?_
        refine thx ?_
        obtain rfl := Option.some.inj H
        refine ⟨_, rfl, rfl, ?_⟩
        exact ⟨c25, _, v11, u12, rfl, (l15.trans l25), O27, ups_self ⟨rfl, trivial⟩, (h18.mono l25)⟩
  · skip
    exact ⟨c7, _, v8, u5, rfl, (Cx.le.refl _), O4, ups_self ⟨rfl, rfl, rfl, rfl, trivial⟩, h6⟩
  · skip
    rintro _ e_ w_ ⟨rfl, c74, g75, v13, u14, rfl, l74, O76, rfl, h77⟩
    refine bke ?_
    refine nrm ?_
    refine sr ?_
    refine va (v13) ?_
    refine va (v13) ?_
    refine wln ?_
    refine W.ret ?_
    obtain rfl := Option.some.inj H10
    exact ret1 (v := v13) rfl (by kernel_rfl) ⟨_, c74, rfl, rfl, (l7.trans l74), v13, u14, O76, rfl, h77⟩

def f_linotyperef39_Resize (p0 : G_linotyperef34_Pen) (p1 : Int) (p2 : Int) : Option (G_linotyperef34_Pen) :=
  (f_linotyperef34_Pen_Hold p0).bind fun x_5 =>
  (f_linotyperef31_Side p1).bind fun x_9 =>
  (f_linotyperef31_Side p2).bind fun x_13 =>
  (iter (σ := (List G_api_Line) × Int) (τ := ((List G_api_Line) × Int)) ((x_5.At.Row - x_13).toNat + 2) (fun s_25 =>
  if (decide (s_25.2 ≥ x_13)) = true then
  (slc s_25.1 1 s_25.1.length).bind fun x_32 =>
  some (.inl (x_32, (w64 (s_25.2 - 1))))
  else
  some (.inr (s_25.1, s_25.2))) (x_5.L, x_5.At.Row)).bind fun o_25 =>
  (iter (σ := (List G_api_Line) × Int) (τ := (List G_api_Line)) ((x_13 - 0).toNat + 1) (fun s_45 =>
  if (decide (s_45.2 < x_13)) = true then
  (if (decide (s_45.2 < (o_25.1.length : Int))) = true then
  (idx o_25.1 s_45.2).bind fun x_60 =>
  (some (x_60.Cells) : Option ((List G_api_Cell)))
  else
  (some (([] : List G_api_Cell)) : Option ((List G_api_Cell)))).bind fun z_52 =>
  (f_linotyperef28_Resize z_52 x_9).bind fun x_68 =>
  (app s_45.1 ([(⟨x_68, false⟩ : G_api_Line)] : List G_api_Line)).bind fun x_71 =>
  some (.inl (x_71, (w64 (s_45.2 + 1))))
  else
  some (.inr (s_45.1))) (([] : List G_api_Line), 0)).bind fun o_45 =>
  some (⟨o_45, (⟨o_25.2, (imin x_5.At.Col (w64 (x_9 - 1))), false⟩ : G_api_Cursor), x_5.Auto⟩ : G_linotyperef34_Pen)
theorem c_linotyperef39_Resize {c0 : Cx} {G : Gm} {F : List En} {v1 : Value} (O0 : Own c0 G F) (p0 : G_linotyperef34_Pen) (p1 : Int) (p2 : Int) {r : G_linotyperef34_Pen} (h2 : Sl R_api_Line c0 v1 p0.L) (H : f_linotyperef39_Resize p0 p1 p2 = some r) :
    Calls Tryd.prog 88 #[.agg #[v1, .int .i64 p0.At.Row, .int .i64 p0.At.Col, .bool p0.At.Pending, .bool p0.Auto], .int .i64 p1, .int .i64 p2] c0.w (Post c0 fun c v => ∃ y1 : Value, ∃ y2 : List Value, Own c G (es true R_api_Line y1 62 y2 r.L :: F) ∧ v = .agg #[y1, .int .i64 r.At.Row, .int .i64 r.At.Col, .bool r.At.Pending, .bool r.Auto] ∧ OA R_api_Line c y1 y2 r.L) := by
  unfold f_linotyperef39_Resize at H
  refine enter (l := [.agg #[v1, .int .i64 p0.At.Row, .int .i64 p0.At.Col, .bool p0.At.Pending, .bool p0.Auto], .int .i64 p1, .int .i64 p2]) Tryd.func88 rfl rfl rfl ?_
  refine sr ?_
  obtain ⟨a3, a4, a5, rfl⟩ := (h2).form
  refine WL.mem rfl (Own.al (T := 122) (vs := [.slice a3 a4 a5, .int .i64 p0.At.Row, .int .i64 p0.At.Col, .bool p0.At.Pending, .bool p0.Auto]) O0 (by kernel_rfl)) ?_
  rintro v9 c8 l8 ⟨b6, rfl, O7⟩
  refine WL.mem rfl (Own.al (T := 122) (vs := [.slice none 0 0, .int .i64 0, .int .i64 0, .bool false, .bool false]) O7 (by kernel_rfl)) ?_
  rintro v13 c12 l12 ⟨b10, rfl, O11⟩
  refine wln ?_
  refine sr ?_
  refine WL.val0 (v := .agg #[.slice a3 a4 a5, .int .i64 p0.At.Row, .int .i64 p0.At.Col, .bool p0.At.Pending, .bool p0.Auto]) rfl (rx (by kernel_rfl) (ldEN (T := 122) (j := 0) (l := [.slice a3 a4 a5, .int .i64 p0.At.Row, .int .i64 p0.At.Col, .bool p0.At.Pending, .bool p0.Auto]) (by kernel_rfl) (by kernel_rfl) (O11.on 1 rfl) rfl rfl)) ?_
  obtain ⟨x_5, h14, H⟩ := bs H
  refine WL.callP rfl (by kernel_rfl) (c_linotyperef34_Pen_Hold O11 p0 (h2.mono (l8.trans l12)) h14) ?_
  rintro v22 c21 l21 ⟨v15, O18, rfl, h16⟩
  obtain ⟨a23, a24, a25, rfl⟩ := (h16).form
  refine WL.memD rfl (Own.st (T := 122) (j := 0) (us := [.slice a23 a24 a25, .int .i64 x_5.At.Row, .int .i64 x_5.At.Col, .bool x_5.At.Pending, .bool x_5.Auto]) (nw := [.slice a23 a24 a25, .int .i64 x_5.At.Row, .int .i64 x_5.At.Col, .bool x_5.At.Pending, .bool x_5.Auto]) (v := .agg #[.slice a23 a24 a25, .int .i64 x_5.At.Row, .int .i64 x_5.At.Col, .bool x_5.At.Pending, .bool x_5.Auto]) 1 O18 (by kernel_rfl) rfl rfl rfl rfl (by kernel_rfl) ⟨h16.one, rfl, rfl, rfl, rfl, trivial⟩ rfl rfl) ?_
  rintro c27 l27 O26
  refine wln ?_
  refine sr ?_
  refine va (.int .i64 p1) ?_
  obtain ⟨x_9, h28, H⟩ := bs H
  refine WL.callP rfl (by kernel_rfl) (c_linotyperef31_Side O26 p1 h28) ?_
  rintro v34 c33 l33 ⟨O30, rfl⟩
  refine va (.int .i64 x_9) ?_
  refine wln ?_
  refine sr ?_
  refine va (.int .i64 p2) ?_
  obtain ⟨x_13, h35, H⟩ := bs H
  refine WL.callP rfl (by kernel_rfl) (c_linotyperef31_Side O30 p2 h35) ?_
  rintro v41 c40 l40 ⟨O37, rfl⟩
  refine va (.int .i64 x_13) ?_
  refine wln ?_
  refine sr ?_
  refine va (.pointer (some ⟨b6, 0, none⟩)) ?_
  refine WL.val0 (v := .slice a23 a24 a25) rfl (rx (by kernel_rfl) (ldE1 (j := 0) Tryd.underlying47 rfl (O37.on 1 rfl) rfl rfl)) ?_
  refine va (.slice a23 a24 a25) ?_
  refine wln ?_
  refine sr ?_
  refine va (.pointer (some ⟨b6, 1, none⟩)) ?_
  refine WL.val0 (v := .agg #[.int .i64 x_5.At.Row, .int .i64 x_5.At.Col, .bool x_5.At.Pending]) rfl (rx (by kernel_rfl) (ldEN (T := 120) (j := 1) (l := [.int .i64 x_5.At.Row, .int .i64 x_5.At.Col, .bool x_5.At.Pending]) (by kernel_rfl) (by kernel_rfl) (O37.on 1 rfl) rfl rfl)) ?_
  refine WL.mem rfl (Own.al (T := 120) (vs := [.int .i64 0, .int .i64 0, .bool false]) O37 (by kernel_rfl)) ?_
  rintro v45 c44 l44 ⟨b42, rfl, O43⟩
  refine WL.memD rfl (Own.st (T := 120) (j := 0) (us := [.int .i64 x_5.At.Row, .int .i64 x_5.At.Col, .bool x_5.At.Pending]) (nw := [.int .i64 x_5.At.Row, .int .i64 x_5.At.Col, .bool x_5.At.Pending]) (v := .agg #[.int .i64 x_5.At.Row, .int .i64 x_5.At.Col, .bool x_5.At.Pending]) 0 O43 (by kernel_rfl) rfl rfl rfl rfl (by kernel_rfl) ⟨rfl, rfl, rfl, trivial⟩ rfl rfl) ?_
  rintro c47 l47 O46
  refine wln ?_
  refine W.seq ?_
  refine W.block ?_
  obtain ⟨o_25, h48, H49⟩ := bs H
  refine W.loop (σ := (List G_api_Line) × Int) (τ := ((List G_api_Line) × Int)) (fun s_25 => fun e w => ∃ (c : Cx) (g : Nat → Value) (v50 : Value), w = c.w ∧ c47.le c ∧ Own c G (⟨.pointer (some ⟨b42, 0, none⟩), 120, [.int .i64 s_25.2, .int .i64 x_5.At.Col, .bool x_5.At.Pending], 0⟩ :: ⟨.pointer (some ⟨b10, 0, none⟩), 122, [.slice none 0 0, .int .i64 0, .int .i64 0, .bool false, .bool false], 0⟩ :: ⟨.pointer (some ⟨b6, 0, none⟩), 122, [.slice a23 a24 a25, .int .i64 x_5.At.Row, .int .i64 x_5.At.Col, .bool x_5.At.Pending, .bool x_5.Auto], 0⟩ :: F) ∧ e = ups g [(1, .int .i64 x_9), (2, .int .i64 x_13), (3, .pointer (some ⟨b6, 0, none⟩)), (6, .pointer (some ⟨b10, 0, none⟩)), (7, v50), (8, .pointer (some ⟨b42, 0, none⟩))] ∧ Sl R_api_Line c v50 s_25.1) (fun o_25_ ex e w => ex = .exit 0 ∧ (fun e w => ∃ (c : Cx) (g : Nat → Value) (v51 : Value), w = c.w ∧ c47.le c ∧ Own c G (⟨.pointer (some ⟨b42, 0, none⟩), 120, [.int .i64 o_25_.2, .int .i64 x_5.At.Col, .bool x_5.At.Pending], 0⟩ :: ⟨.pointer (some ⟨b10, 0, none⟩), 122, [.slice none 0 0, .int .i64 0, .int .i64 0, .bool false, .bool false], 0⟩ :: ⟨.pointer (some ⟨b6, 0, none⟩), 122, [.slice a23 a24 a25, .int .i64 x_5.At.Row, .int .i64 x_5.At.Col, .bool x_5.At.Pending, .bool x_5.Auto], 0⟩ :: F) ∧ e = ups g [(1, .int .i64 x_9), (2, .int .i64 x_13), (3, .pointer (some ⟨b6, 0, none⟩)), (6, .pointer (some ⟨b10, 0, none⟩)), (7, v51), (8, .pointer (some ⟨b42, 0, none⟩))] ∧ Sl R_api_Line c v51 o_25_.1) e w) ?_ h48 ?_ ?_
  · clear H49 h48
    intro s_25 xx_ ee_ ww_ H
    revert ee_ ww_
    rintro e_ w_ ⟨c52, g53, v50, rfl, l52, O54, rfl, h55⟩
    refine W.seq ?_
    refine sr ?_
    refine va (.pointer (some ⟨b42, 0, none⟩)) ?_
    refine WL.val0 (v := .int .i64 s_25.2) rfl (rx (by kernel_rfl) (ldE1 (j := 0) Tryd.underlying3 rfl (O54.on 0 rfl) rfl rfl)) ?_
    refine va (.int .i64 x_13) ?_
    refine va (.bool (decide (s_25.2 ≥ x_13))) ?_
    refine wln ?_
    refine W.cond (t := decide (s_25.2 ≥ x_13)) (by kernel_rfl) (fun h59 => ?_) (fun h59 => ?_)
    · have H := it h59 H
      refine W.skip ?_
      refine nrm ?_
      refine W.block ?_
      refine sr ?_
      refine va (v50) ?_
      obtain ⟨x_32, h60, H⟩ := bs H
      obtain ⟨v61, h62, h63⟩ := run_cutL (k := .i64) Tryd.underlying47 (by kernel_rfl) h55 h60
      refine WL.val0 (v := v61) rfl (rx (by kernel_rfl) (h62 _)) ?_
      refine va (v61) ?_
      refine wln ?_
      refine W.region ?_
      refine va (.pointer (some ⟨b42, 0, none⟩)) ?_
      refine WL.val0 (v := .int .i64 s_25.2) rfl (rx (by kernel_rfl) (ldE1 (j := 0) Tryd.underlying3 rfl (O54.on 0 rfl) rfl rfl)) ?_
      refine va (.int .i64 (w64 (s_25.2 - 1))) ?_
      refine va (.pointer (some ⟨b42, 0, none⟩)) ?_
      refine WL.memD rfl (Own.st (T := 3) (j := 0) (us := [.int .i64 (w64 (s_25.2 - 1))]) (nw := [.int .i64 (w64 (s_25.2 - 1)), .int .i64 x_5.At.Col, .bool x_5.At.Pending]) (v := .int .i64 (w64 (s_25.2 - 1))) 0 O54 (by kernel_rfl) rfl rfl rfl rfl (by kernel_rfl) ⟨rfl, trivial⟩ rfl rfl) ?_
      rintro c65 l65 O64
      refine WL.nil ?_
      refine bkn ?_
      obtain rfl := Option.some.inj H
      refine ⟨_, rfl, ?_⟩
      exact ⟨c65, _, v61, rfl, (l52.trans l65), O64, ups_self ⟨rfl, rfl, rfl, rfl, rfl, rfl, trivial⟩, (h63.mono l65)⟩
    · have H := ie h59 H
      refine W.exit ?_
      refine thx ?_
      obtain rfl := Option.some.inj H
      refine ⟨_, rfl, rfl, ?_⟩
      exact ⟨c52, _, v50, rfl, l52, O54, ups_self ⟨rfl, rfl, rfl, rfl, rfl, rfl, trivial⟩, h55⟩
  · skip
    exact ⟨c47, _, (.slice a23 a24 a25), rfl, (Cx.le.refl _), O46, ups_self ⟨rfl, rfl, rfl, rfl, rfl, rfl, trivial⟩, (h16.mono (l27.trans (l33.trans (l40.trans (l44.trans l47)))))⟩
  · skip
    rintro _ e_ w_ ⟨rfl, c66, g67, v51, rfl, l66, O68, rfl, h69⟩
    refine bke ?_
    refine nrm ?_
    refine sr ?_
    refine va (.slice none 0 0) ?_
    refine wln ?_
    refine W.seq ?_
    refine sr ?_
    refine va (.int .i64 0) ?_
    refine wln ?_
    refine W.block ?_
    obtain ⟨o_45, h73, H74⟩ := bs H49
    refine W.loop (σ := (List G_api_Line) × Int) (τ := (List G_api_Line)) (fun s_45 => fun e w => ∃ (c : Cx) (g : Nat → Value) (v75 : Value) (u76 : List Value), w = c.w ∧ c66.le c ∧ Own c G (es true R_api_Line v75 62 u76 s_45.1 :: ⟨.pointer (some ⟨b42, 0, none⟩), 120, [.int .i64 o_25.2, .int .i64 x_5.At.Col, .bool x_5.At.Pending], 0⟩ :: ⟨.pointer (some ⟨b10, 0, none⟩), 122, [.slice none 0 0, .int .i64 0, .int .i64 0, .bool false, .bool false], 0⟩ :: ⟨.pointer (some ⟨b6, 0, none⟩), 122, [.slice a23 a24 a25, .int .i64 x_5.At.Row, .int .i64 x_5.At.Col, .bool x_5.At.Pending, .bool x_5.Auto], 0⟩ :: F) ∧ e = ups g [(1, .int .i64 x_9), (2, .int .i64 x_13), (3, .pointer (some ⟨b6, 0, none⟩)), (6, .pointer (some ⟨b10, 0, none⟩)), (7, v51), (8, .pointer (some ⟨b42, 0, none⟩)), (9, v75), (10, .int .i64 s_45.2)] ∧ OA R_api_Line c v75 u76 s_45.1) (fun o_45_ ex e w => ex = .exit 2 ∧ (fun e w => ∃ (c : Cx) (g : Nat → Value) (v77 : Value) (u78 : List Value), w = c.w ∧ c66.le c ∧ Own c G (es true R_api_Line v77 62 u78 o_45_ :: ⟨.pointer (some ⟨b42, 0, none⟩), 120, [.int .i64 o_25.2, .int .i64 x_5.At.Col, .bool x_5.At.Pending], 0⟩ :: ⟨.pointer (some ⟨b10, 0, none⟩), 122, [.slice none 0 0, .int .i64 0, .int .i64 0, .bool false, .bool false], 0⟩ :: ⟨.pointer (some ⟨b6, 0, none⟩), 122, [.slice a23 a24 a25, .int .i64 x_5.At.Row, .int .i64 x_5.At.Col, .bool x_5.At.Pending, .bool x_5.Auto], 0⟩ :: F) ∧ e = ups g [(1, .int .i64 x_9), (3, .pointer (some ⟨b6, 0, none⟩)), (6, .pointer (some ⟨b10, 0, none⟩)), (8, .pointer (some ⟨b42, 0, none⟩)), (9, v77)] ∧ OA R_api_Line c v77 u78 o_45_) e w) ?_ h73 ?_ ?_
    · clear H74 h73
      intro s_45 xx_ ee_ ww_ H49
      revert ee_ ww_
      rintro e_ w_ ⟨c79, g80, v75, u76, rfl, l79, O81, rfl, h82⟩
      refine W.seq ?_
      refine sr ?_
      refine va (.int .i64 s_45.2) ?_
      refine va (.int .i64 x_13) ?_
      refine va (.bool (decide (s_45.2 < x_13))) ?_
      refine wln ?_
      refine W.cond (t := decide (s_45.2 < x_13)) (by kernel_rfl) (fun h86 => ?_) (fun h86 => ?_)
      · have H49 := it h86 H49
        refine W.skip ?_
        refine nrm ?_
        refine W.seq ?_
        refine W.block ?_
        refine sr ?_
        refine va (.slice none 0 0) ?_
        refine wln ?_
        obtain ⟨z_52, H87, H88⟩ := bs H49
        refine W.seqJ (fun e w => ∃ (c : Cx) (g : Nat → Value) (v89 : Value), w = c.w ∧ c79.le c ∧ Own c G (es true R_api_Line v75 62 u76 s_45.1 :: ⟨.pointer (some ⟨b42, 0, none⟩), 120, [.int .i64 o_25.2, .int .i64 x_5.At.Col, .bool x_5.At.Pending], 0⟩ :: ⟨.pointer (some ⟨b10, 0, none⟩), 122, [.slice none 0 0, .int .i64 0, .int .i64 0, .bool false, .bool false], 0⟩ :: ⟨.pointer (some ⟨b6, 0, none⟩), 122, [.slice a23 a24 a25, .int .i64 x_5.At.Row, .int .i64 x_5.At.Col, .bool x_5.At.Pending, .bool x_5.Auto], 0⟩ :: F) ∧ e = ups g [(1, .int .i64 x_9), (2, .int .i64 x_13), (3, .pointer (some ⟨b6, 0, none⟩)), (6, .pointer (some ⟨b10, 0, none⟩)), (7, v51), (8, .pointer (some ⟨b42, 0, none⟩)), (9, v75), (10, .int .i64 s_45.2), (11, v89)] ∧ Sl R_api_Cell c v89 z_52) ?_ ?_
        · skip
          refine sr ?_
          refine va (.int .i64 s_45.2) ?_
          refine va (v51) ?_
          refine WL.val0 (v := .int .i64 (o_25.1.length : Int)) rfl (rx (by kernel_rfl) (run_len (ty := 3) Tryd.underlying47 (h69.mono l79) _)) ?_
          refine va (.bool (decide (s_45.2 < (o_25.1.length : Int)))) ?_
          refine wln ?_
          refine W.cond (t := decide (s_45.2 < (o_25.1.length : Int))) (by kernel_rfl) (fun h90 => ?_) (fun h90 => ?_)
          · have H87 := it h90 H87
            refine W.region ?_
            refine va (v51) ?_
            refine va (.int .i64 s_45.2) ?_
            obtain ⟨x_60, h91, H87⟩ := bs H87
            obtain ⟨l_92, h93, m94⟩ := Sl.at (h69.mono l79) (idx_get h91)
            obtain ⟨v95, rfl, h96⟩ := h93
            refine WL.val0 (v := .pointer (some ⟨sb v51, so v51 + s_45.2.toNat * 2, none⟩)) rfl (rx (by kernel_rfl) (run_index (k := .i64) Tryd.underlying47 (by kernel_rfl) (h69.mono l79) h91 _)) ?_
            refine va (.pointer (some ⟨sb v51, so v51 + s_45.2.toNat * 2, none⟩)) ?_
            refine WL.val0 (v := v95) rfl (rx (by kernel_rfl) (run_load1 Tryd.underlying22 rfl (m94 0 _ rfl))) ?_
            refine va (v95) ?_
            refine wln ?_
            obtain rfl := Option.some.inj H87
            exact ⟨c79, _, v95, rfl, (Cx.le.refl _), O81, ups_self ⟨rfl, rfl, rfl, rfl, rfl, rfl, rfl, rfl, rfl, trivial⟩, h96⟩
          · have H87 := ie h90 H87
            refine W.skip ?_
            refine nrm ?_
            obtain rfl := Option.some.inj H87
            exact ⟨c79, _, (.slice none 0 0), rfl, (Cx.le.refl _), O81, ups_self ⟨rfl, rfl, rfl, rfl, rfl, rfl, rfl, rfl, rfl, trivial⟩, (Sl.nl _ _)⟩
        · skip
          rintro e_ w_ ⟨c97, g98, v89, rfl, l97, O99, rfl, h100⟩
          refine W.region ?_
          refine va (v75) ?_
          refine va (v89) ?_
          refine va (.int .i64 x_9) ?_
          obtain ⟨x_68, h104, H88⟩ := bs H88
          refine WL.callP rfl (by kernel_rfl) (c_linotyperef28_Resize O99 z_52 x_9 h100 h104) ?_
          rintro v105 c112 l112 ⟨_, u106, O109, rfl, h107⟩
          obtain ⟨a114, a115, a116, rfl⟩ := (h107).form
          refine va (.agg #[.slice a114 a115 a116, .bool false]) ?_
          obtain ⟨c119, h120, l119, O117, h118⟩ := O109.frz 0 rfl h107
          refine WL.gh h120 ?_
          refine WL.mem rfl (Own.sl (R := R_api_Line) (E := 62) (ls := [[.slice a114 a115 a116, .bool false]]) (vs := [.slice a114 a115 a116, .bool false]) (xs := ([(⟨x_68, false⟩ : G_api_Line)] : List G_api_Line)) true O117 (Nat.succ_pos _) rfl ⟨⟨(.slice a114 a115 a116), rfl, h118⟩, trivial⟩ (by kernel_rfl) (by kernel_rfl)) ?_
          rintro v125 c124 l124 ⟨u122, O121, h123⟩
          obtain ⟨c128, h129, l128, O126, h127⟩ := O121.frz 0 rfl h123
          refine WL.gh h129 ?_
          obtain ⟨x_71, h130, H88⟩ := bs H88
          refine WL.mem rfl (Own.app (R := R_api_Line) (z := .agg #[.slice none 0 0, .bool false]) (by_ := 32) (ty := 47) 2 O126 rfl (h82.mono (l97.trans (l112.trans (l119.trans (l124.trans l128))))) h127 h130 Tryd.underlying47 (by kernel_rfl) rfl (by kernel_rfl) (by kernel_rfl)) ?_
          rintro v135 c134 l134 ⟨u132, O131, h133⟩
          refine va (v135) ?_
          refine WL.nil ?_
          refine bkn ?_
          refine nrm ?_
          refine W.region ?_
          refine va (.int .i64 s_45.2) ?_
          refine va (.int .i64 (w64 (s_45.2 + 1))) ?_
          refine va (.int .i64 (w64 (s_45.2 + 1))) ?_
          refine WL.nil ?_
          obtain rfl := Option.some.inj H88
          refine ⟨_, rfl, ?_⟩
          have O136 := O131.selD 6 [2, 3, 4, 5] (by kernel_rfl) (by kernel_rfl)
          exact ⟨c134, _, v135, u132, rfl, (l79.trans (l97.trans (l112.trans (l119.trans (l124.trans (l128.trans l134)))))), O136, ups_self ⟨rfl, rfl, rfl, rfl, rfl, rfl, rfl, rfl, trivial⟩, h133⟩
      · have H49 := ie h86 H49
        refine W.exit ?_
        refine thx ?_
        obtain rfl := Option.some.inj H49
        refine ⟨_, rfl, rfl, ?_⟩
        exact ⟨c79, _, v75, u76, rfl, l79, O81, ups_self ⟨rfl, rfl, rfl, rfl, rfl, trivial⟩, h82⟩
    · skip
      have h138 : OA R_api_Line c66 (.slice none 0 0) [] [] := OA.nil (Nat.succ_pos _)
      have O137 := O68.addHole (e := es true R_api_Line (.slice none 0 0) 62 [] ([] : List G_api_Line)) rfl
      exact ⟨c66, _, (.slice none 0 0), [], rfl, (Cx.le.refl _), O137, ups_self ⟨rfl, rfl, rfl, rfl, rfl, rfl, rfl, rfl, trivial⟩, h138⟩
    · skip
      rintro _ e_ w_ ⟨rfl, c139, g140, v77, u78, rfl, l139, O141, rfl, h142⟩
      refine bke ?_
      refine nrm ?_
      refine sr ?_
      refine va (v77) ?_
      refine va (.pointer (some ⟨b42, 0, none⟩)) ?_
      refine WL.val0 (v := .int .i64 o_25.2) rfl (rx (by kernel_rfl) (ldE1 (j := 0) Tryd.underlying3 rfl (O141.on 1 rfl) rfl rfl)) ?_
      refine va (.pointer (some ⟨b42, 1, none⟩)) ?_
      refine WL.val0 (v := .int .i64 x_5.At.Col) rfl (rx (by kernel_rfl) (ldE1 (j := 1) Tryd.underlying3 rfl (O141.on 1 rfl) rfl rfl)) ?_
      refine va (.int .i64 x_9) ?_
      refine va (.int .i64 (w64 (x_9 - 1))) ?_
      refine va (.int .i64 (imin x_5.At.Col (w64 (x_9 - 1)))) ?_
      refine va (.agg #[.int .i64 o_25.2, .int .i64 (imin x_5.At.Col (w64 (x_9 - 1))), .bool false]) ?_
      refine va (.pointer (some ⟨b6, 4, none⟩)) ?_
      refine WL.val0 (v := .bool x_5.Auto) rfl (rx (by kernel_rfl) (ldE1 (j := 4) Tryd.underlying4 rfl (O141.on 3 rfl) rfl rfl)) ?_
      obtain ⟨a146, a147, a148, rfl⟩ := (h142).form
      refine va (.agg #[.slice a146 a147 a148, .int .i64 o_25.2, .int .i64 (imin x_5.At.Col (w64 (x_9 - 1))), .bool false, .bool x_5.Auto]) ?_
      refine WL.memD rfl (Own.st (T := 122) (j := 0) (us := [.slice a146 a147 a148, .int .i64 o_25.2, .int .i64 (imin x_5.At.Col (w64 (x_9 - 1))), .bool false, .bool x_5.Auto]) (nw := [.slice a146 a147 a148, .int .i64 o_25.2, .int .i64 (imin x_5.At.Col (w64 (x_9 - 1))), .bool false, .bool x_5.Auto]) (v := .agg #[.slice a146 a147 a148, .int .i64 o_25.2, .int .i64 (imin x_5.At.Col (w64 (x_9 - 1))), .bool false, .bool x_5.Auto]) 2 O141 (by kernel_rfl) rfl rfl rfl rfl (by kernel_rfl) ⟨(h142).one, rfl, rfl, rfl, rfl, trivial⟩ rfl rfl) ?_
      rintro c150 l150 O149
      refine wln ?_
      refine W.ret ?_
      obtain rfl := Option.some.inj H74
      have O151 := O149.selD 4 [0] (by kernel_rfl) (by kernel_rfl)
      exact retC (c := c150) (vs := [.slice a146 a147 a148, .int .i64 o_25.2, .int .i64 (imin x_5.At.Col (w64 (x_9 - 1))), .bool false, .bool x_5.Auto]) rfl (by kernel_rfl) (by kernel_rfl) (by kernel_rfl) (O149.on 2 rfl _ rfl).1 ⟨_, c150, rfl, rfl, (l8.trans (l12.trans (l21.trans (l27.trans (l33.trans (l40.trans (l44.trans (l47.trans (l66.trans (l139.trans l150)))))))))), (.slice a146 a147 a148), u78, O151, rfl, (h142.mono l150)⟩

end Go.Proofs.YtohpkblleihmaaaDoor
