import Derived.Test.YtohpkblleihmaaaDoorMo
import Derived.Test.YtohpkblleihmaaaDoorProg
import Derived.Test.YtohpkblleihmaaaDoorMy
import Derived.Test.YtohpkblleihmaaaDoorMz
import Derived.Test.YtohpkblleihmaaaDoorA1
import Derived.Test.YtohpkblleihmaaaDoorS1
namespace Go.Proofs.YtohpkblleihmaaaDoor
open Go Go.Lt
set_option maxRecDepth 10000
set_option linter.unusedVariables false
attribute [local irreducible] W WL AC
def f_linotypelaw27_ShiftPlays (sg : Sto) (p0 : List G_api_Cell) (p1 : Bool) (p2 : List G_linotypelaw27_Act) : Option (Sto × Bool) :=
  (f_linotypelaw27_works sg).bind fun x_3 =>
  (orE (!x_3.2) (some (decide ((p0.length : Int) > 60)))).bind fun d_5 =>
  (orE d_5 (some ((p0.length : Int) == 0))).bind fun d_10 =>
  (orE d_10 ((f_linotyperef23_Sound p0).bind fun x_18 =>
  some (!x_18))).bind fun d_15 =>
  (orE d_15 (some (decide ((p2.length : Int) > 60)))).bind fun d_20 =>
  if d_20 = true then
  (f_linotypelaw27_works x_3.1).bind fun x_26 =>
  some (x_26.1, x_26.2)
  else
  (f_row_Of x_3.1 p0).bind fun x_30 =>
  if (!x_30.2.2.isNil) = true then
  some (x_30.1, false)
  else
  (f_row_Row_GoOn x_30.1 x_30.2.1 p1).bind fun x_44 =>
  (iter (σ := (List G_api_Cell) × Bool × Int × Sto) (τ := (Sto × Bool) ⊕ Sto) (((p2.length : Int) - 0).toNat + 1) (fun s_48 =>
  if (decide (s_48.2.2.1 < (p2.length : Int))) = true then
  (idx p2 s_48.2.2.1).bind fun x_56 =>
  (if x_56.Delete = true then
  (f_linotyperef27_Delete s_48.1 x_56.Col x_56.N).bind fun x_72 =>
  (some (x_72.1, x_72.2) : Option ((List G_api_Cell) × Bool))
  else
  (f_linotyperef27_Insert s_48.1 x_56.Col x_56.N).bind fun x_84 =>
  (some (x_84.1, x_84.2) : Option ((List G_api_Cell) × Bool))).bind fun z_63 =>
  (andE s_48.2.1 (some (!z_63.2))).bind fun d_92 =>
  (f_linotypelaw27_do s_48.2.2.2 x_30.2.1 x_56).bind fun x_100 =>
  (f_linotypelaw27_do x_100 (none : Option Nat) x_56).bind fun x_103 =>
  (f_row_Row_Cells x_103 x_30.2.1).bind fun x_106 =>
  (f_linotyperef23_Same x_106 z_63.1).bind fun x_108 =>
  (orE (!x_108) ((f_row_Row_Wrap x_103 x_30.2.1).bind fun x_113 =>
  some (!(x_113 == d_92)))).bind fun d_110 =>
  (orE d_110 ((f_row_Row_Cells x_103 x_30.2.1).bind fun x_119 =>
  (f_linotyperef23_Sound x_119).bind fun x_120 =>
  some (!x_120))).bind fun d_116 =>
  if d_116 = true then
  some (.inr (.inl (x_103, false)))
  else
  some (.inl (z_63.1, d_92, (w64 (s_48.2.2.1 + 1)), x_103))
  else
  some (.inr (.inr (s_48.2.2.2)))) (p0, p1, 0, x_44)).bind fun o_48 =>
  match o_48 with
  | .inl o_48 =>
  some o_48
  | .inr o_48 =>
  some (o_48, true)
theorem c_linotypelaw27_ShiftPlays {c0 : Cx} {G : Gm} {F : List En} {sg : Sto} {v1 : Value} {v3 : Value} (O0 : Own c0 G F) (R0 : Rel c0 sg G) (hG : Gl [0, 1] c0) (p0 : List G_api_Cell) (p1 : Bool) (p2 : List G_linotypelaw27_Act) {r : Sto × Bool} (h2 : Sl R_api_Cell c0 v1 p0) (h4 : Sl R_linotypelaw27_Act c0 v3 p2) (H : f_linotypelaw27_ShiftPlays sg p0 p1 p2 = some r) :
    Calls Tryd.prog 14 #[v1, .bool p1, v3] c0.w (Post c0 fun c v => ∃ G_ : Gm, Own c G_ (F) ∧ Rel c r.1 G_ ∧ v = .bool r.2) := by
  unfold f_linotypelaw27_ShiftPlays at H
  refine enter (l := [v1, .bool p1, v3]) Tryd.func14 rfl rfl rfl ?_
  refine sr ?_
  refine va (.bool false) ?_
  refine wln ?_
  refine W.seq ?_
  refine W.seq ?_
  obtain ⟨x_3, h5, H⟩ := bs H
  obtain ⟨d_5, h6, H⟩ := bs H
  obtain ⟨d_10, h7, H⟩ := bs H
  obtain ⟨d_15, h8, H⟩ := bs H
  obtain ⟨d_20, h9, H⟩ := bs H
  refine W.join (fun e w => ∃ (c : Cx) (g : Nat → Value) (G_ : Gm), w = c.w ∧ c0.le c ∧ Own c G_ (F) ∧ e = ups g [(0, v1), (1, .bool p1), (2, v3), (33, .bool d_20)] ∧ Rel c x_3.1 G_) ?_ ?_
  · clear H
    refine W.region ?_
    refine WL.callP rfl (by kernel_rfl) (c_linotypelaw27_works O0 R0 (hG.le (by decide)) h5) ?_
    rintro v15 c14 l14 ⟨G10, O11, R12, rfl⟩
    refine va (.bool (!x_3.2)) ?_
    rcases Bool.eq_false_or_eq_true (!x_3.2) with h16 | h16
    · skip
      obtain rfl := orT h16 h6
      refine vb h16 ?_
      refine ps ?_
      refine ps ?_
      refine ps ?_
      refine va (.bool true) ?_
      have h17 : true = true := rfl
      obtain rfl := orT h17 h7
      refine vb h17 ?_
      refine ps ?_
      refine ps ?_
      refine ps ?_
      refine va (.bool true) ?_
      have h18 : true = true := rfl
      obtain rfl := orT h18 h8
      refine vb h18 ?_
      refine ps ?_
      refine ps ?_
      refine ps ?_
      refine va (.bool true) ?_
      have h19 : true = true := rfl
      obtain rfl := orT h19 h9
      refine vb h19 ?_
      refine ps ?_
      refine ps ?_
      refine ps ?_
      refine va (.bool true) ?_
      refine wln ?_
      exact ⟨c14, _, G10, rfl, l14, O11, ups_self ⟨rfl, rfl, rfl, rfl, trivial⟩, R12⟩
    · skip
      have H20 := orF h16 h6
      refine vb h16 ?_
      refine wn ?_
      refine va (v1) ?_
      refine wn ?_
      refine WL.val0 (v := .int .i64 (p0.length : Int)) rfl (rx (by kernel_rfl) (run_len (ty := 3) Tryd.underlying22 (h2.mono l14) _)) ?_
      refine wn ?_
      refine va (.bool (decide ((p0.length : Int) > 60))) ?_
      obtain rfl := Option.some.inj H20
      refine va (.bool (decide ((p0.length : Int) > 60))) ?_
      rcases Bool.eq_false_or_eq_true (decide ((p0.length : Int) > 60)) with h21 | h21
      · skip
        obtain rfl := orT h21 h7
        refine vb h21 ?_
        refine ps ?_
        refine ps ?_
        refine ps ?_
        refine va (.bool true) ?_
        have h22 : true = true := rfl
        obtain rfl := orT h22 h8
        refine vb h22 ?_
        refine ps ?_
        refine ps ?_
        refine ps ?_
        refine va (.bool true) ?_
        have h23 : true = true := rfl
        obtain rfl := orT h23 h9
        refine vb h23 ?_
        refine ps ?_
        refine ps ?_
        refine ps ?_
        refine va (.bool true) ?_
        refine wln ?_
        exact ⟨c14, _, G10, rfl, l14, O11, ups_self ⟨rfl, rfl, rfl, rfl, trivial⟩, R12⟩
      · skip
        have H24 := orF h21 h7
        refine vb h21 ?_
        refine wn ?_
        refine va (v1) ?_
        refine wn ?_
        refine WL.val0 (v := .int .i64 (p0.length : Int)) rfl (rx (by kernel_rfl) (run_len (ty := 3) Tryd.underlying22 (h2.mono l14) _)) ?_
        refine wn ?_
        refine va (.bool ((p0.length : Int) == 0)) ?_
        obtain rfl := Option.some.inj H24
        refine va (.bool ((p0.length : Int) == 0)) ?_
        rcases Bool.eq_false_or_eq_true ((p0.length : Int) == 0) with h25 | h25
        · skip
          obtain rfl := orT h25 h8
          refine vb h25 ?_
          refine ps ?_
          refine ps ?_
          refine ps ?_
          refine va (.bool true) ?_
          have h26 : true = true := rfl
          obtain rfl := orT h26 h9
          refine vb h26 ?_
          refine ps ?_
          refine ps ?_
          refine ps ?_
          refine va (.bool true) ?_
          refine wln ?_
          exact ⟨c14, _, G10, rfl, l14, O11, ups_self ⟨rfl, rfl, rfl, rfl, trivial⟩, R12⟩
        · skip
          have H27 := orF h25 h8
          refine vb h25 ?_
          refine wn ?_
          refine va (v1) ?_
          refine wn ?_
          obtain ⟨x_18, h28, H27⟩ := bs H27
          refine WL.callP rfl (by kernel_rfl) (c_linotyperef23_Sound O11 p0 (h2.mono l14) h28) ?_
          rintro v34 c33 l33 ⟨O30, rfl⟩
          refine wn ?_
          refine va (.bool (!x_18)) ?_
          obtain rfl := Option.some.inj H27
          refine va (.bool (!x_18)) ?_
          rcases Bool.eq_false_or_eq_true (!x_18) with h35 | h35
          · skip
            obtain rfl := orT h35 h9
            refine vb h35 ?_
            refine ps ?_
            refine ps ?_
            refine ps ?_
            refine va (.bool true) ?_
            refine wln ?_
            exact ⟨c33, _, G10, rfl, (l14.trans l33), O30, ups_self ⟨rfl, rfl, rfl, rfl, trivial⟩, (R12.mono l33)⟩
          · skip
            have H36 := orF h35 h9
            refine vb h35 ?_
            refine wn ?_
            refine va (v3) ?_
            refine wn ?_
            refine WL.val0 (v := .int .i64 (p2.length : Int)) rfl (rx (by kernel_rfl) (run_len (ty := 3) Tryd.underlying110 (h4.mono (l14.trans l33)) _)) ?_
            refine wn ?_
            refine va (.bool (decide ((p2.length : Int) > 60))) ?_
            obtain rfl := Option.some.inj H36
            refine va (.bool (decide ((p2.length : Int) > 60))) ?_
            refine wln ?_
            exact ⟨c33, _, G10, rfl, (l14.trans l33), O30, ups_self ⟨rfl, rfl, rfl, rfl, trivial⟩, (R12.mono l33)⟩
  · skip
    rintro e_ w_ ⟨c37, g38, G40, rfl, l37, O39, rfl, R41⟩
    refine nrm ?_
    refine W.cond (t := d_20) (by kernel_rfl) (fun h43 => ?_) (fun h43 => ?_)
    · have H := it h43 H
      refine sr ?_
      obtain ⟨x_26, h44, H⟩ := bs H
      refine WL.callP rfl (by kernel_rfl) (c_linotypelaw27_works O39 R41 ((hG.mono l37).le (by decide)) h44) ?_
      rintro v50 c49 l49 ⟨G45, O46, R47, rfl⟩
      refine va (.bool x_26.2) ?_
      refine wln ?_
      refine W.ret ?_
      refine thr ?_
      obtain rfl := Option.some.inj H
      exact ret1 (v := .bool x_26.2) rfl (by kernel_rfl) ⟨_, c49, rfl, rfl, (l37.trans l49), G45, O46, R47, rfl⟩
    · have H := ie h43 H
      refine W.skip ?_
      refine nrm ?_
      refine sr ?_
      refine va (v1) ?_
      obtain ⟨x_30, h51, H⟩ := bs H
      refine WL.callP rfl (by kernel_rfl) (c_row_Of O39 R41 ((hG.mono l37).le (by decide)) p0 (h2.mono l37) h51) ?_
      rintro v61 c60 l60 ⟨v52, v54, G56, O57, R58, rfl, h53, h55⟩
      refine va (.tuple #[v52, v54]) ?_
      refine va (v52) ?_
      refine va (v54) ?_
      refine va (v52) ?_
      refine va (v54) ?_
      refine wln ?_
      refine W.seq ?_
      refine sr ?_
      refine va (v54) ?_
      refine WL.val0 (v := .bool (!x_30.2.2.isNil)) rfl (by rcases (h55).cs with ⟨h1_, h2_⟩ | ⟨b_, h1_, h2_⟩ | ⟨b_, h1_, h2_⟩ <;> (subst h1_; rw [h2_]; kernel_rfl)) ?_
      refine wln ?_
      refine W.cond (t := !x_30.2.2.isNil) (by kernel_rfl) (fun h62 => ?_) (fun h62 => ?_)
      · have H := it h62 H
        refine sr ?_
        refine va (.bool false) ?_
        refine wln ?_
        refine W.ret ?_
        refine thr ?_
        obtain rfl := Option.some.inj H
        exact ret1 (v := .bool false) rfl (by kernel_rfl) ⟨_, c60, rfl, rfl, (l37.trans l60), G56, O57, R58, rfl⟩
      · have H := ie h62 H
        refine W.skip ?_
        refine nrm ?_
        refine sr ?_
        refine va (v52) ?_
        refine va (.bool p1) ?_
        obtain ⟨x_44, h63, H⟩ := bs H
        refine WL.callP rfl (by kernel_rfl) (c_row_Row_GoOn O57 R58 x_30.2.1 p1 h53 h63) ?_
        rintro v69 c68 l68 ⟨G64, O65, R66, rfl⟩
        refine wln ?_
        refine W.seq ?_
        refine sr ?_
        refine va (.int .i64 0) ?_
        refine wln ?_
        refine W.block ?_
        obtain ⟨o_48, h70, H71⟩ := bs H
        refine W.loop (σ := (List G_api_Cell) × Bool × Int × Sto) (τ := (Sto × Bool) ⊕ Sto) (fun s_48 => fun e w => ∃ (c : Cx) (g : Nat → Value) (v72 : Value) (G_ : Gm), w = c.w ∧ c68.le c ∧ Own c G_ (F) ∧ e = ups g [(0, v72), (1, .bool s_48.2.1), (2, v3), (7, v52), (9, .int .i64 s_48.2.2.1)] ∧ Rel c s_48.2.2.2 G_ ∧ Sl R_api_Cell c v72 s_48.1) (fun t => match t with | .inl x_ => (fun rr_ ex e w => ex = .ret ∧ (fun e w => ∃ (c : Cx) (g : Nat → Value) (G_ : Gm), w = c.w ∧ c68.le c ∧ Own c G_ (F) ∧ e = ups g [(6, .bool rr_.2)] ∧ Rel c rr_.1 G_) e w) x_ | .inr x_ => (fun o_48_ ex e w => ex = .exit 0 ∧ (fun e w => ∃ (c : Cx) (g : Nat → Value) (G_ : Gm), w = c.w ∧ c68.le c ∧ Own c G_ (F) ∧ e = ups g [] ∧ Rel c o_48_ G_) e w) x_) ?_ h70 ?_ ?_
        · clear H71 h70
          intro s_48 xx_ ee_ ww_ H
          revert ee_ ww_
          rintro e_ w_ ⟨c73, g74, v72, G77, rfl, l73, O75, rfl, R78, h76⟩
          refine W.seq ?_
          refine sr ?_
          refine va (.int .i64 s_48.2.2.1) ?_
          refine va (v3) ?_
          refine WL.val0 (v := .int .i64 (p2.length : Int)) rfl (rx (by kernel_rfl) (run_len (ty := 3) Tryd.underlying110 (h4.mono (l37.trans (l60.trans (l68.trans l73)))) _)) ?_
          refine va (.bool (decide (s_48.2.2.1 < (p2.length : Int)))) ?_
          refine wln ?_
          refine W.cond (t := decide (s_48.2.2.1 < (p2.length : Int))) (by kernel_rfl) (fun h80 => ?_) (fun h80 => ?_)
          · have H := it h80 H
            refine W.skip ?_
            refine nrm ?_
            refine W.seq ?_
            refine W.block ?_
            refine sr ?_
            refine va (v3) ?_
            refine va (.int .i64 s_48.2.2.1) ?_
            obtain ⟨x_56, h81, H⟩ := bs H
            obtain ⟨l_82, h83, m84⟩ := Sl.at (h4.mono (l37.trans (l60.trans (l68.trans l73)))) (idx_get h81)
            obtain rfl := h83
            refine WL.val0 (v := .pointer (some ⟨sb v3, so v3 + s_48.2.2.1.toNat * 3, none⟩)) rfl (rx (by kernel_rfl) (run_index (k := .i64) Tryd.underlying110 (by kernel_rfl) (h4.mono (l37.trans (l60.trans (l68.trans l73)))) h81 _)) ?_
            refine WL.val0 (v := .agg #[.bool x_56.Delete, .int .i64 x_56.Col, .int .i64 x_56.N]) rfl (rx (by kernel_rfl) (run_loadN (T := 112) (by kernel_rfl) (by kernel_rfl) m84)) ?_
            refine WL.mem rfl (Own.al (T := 112) (vs := [.bool false, .int .i64 0, .int .i64 0]) O75 (by kernel_rfl)) ?_
            rintro v88 c87 l87 ⟨b85, rfl, O86⟩
            refine WL.memD rfl (Own.st (T := 112) (j := 0) (us := [.bool x_56.Delete, .int .i64 x_56.Col, .int .i64 x_56.N]) (nw := [.bool x_56.Delete, .int .i64 x_56.Col, .int .i64 x_56.N]) (v := .agg #[.bool x_56.Delete, .int .i64 x_56.Col, .int .i64 x_56.N]) 0 O86 (by kernel_rfl) rfl rfl rfl rfl (by kernel_rfl) ⟨rfl, rfl, rfl, trivial⟩ rfl rfl) ?_
            rintro c90 l90 O89
            refine wln ?_
            refine sr ?_
            refine va (.bool false) ?_
            refine wln ?_
            obtain ⟨z_63, H91, H92⟩ := bs H
            refine W.seqJ (fun e w => ∃ (c : Cx) (g : Nat → Value) (v93 : Value), w = c.w ∧ c90.le c ∧ Own c G77 (⟨.pointer (some ⟨b85, 0, none⟩), 112, [.bool x_56.Delete, .int .i64 x_56.Col, .int .i64 x_56.N], 0⟩ :: F) ∧ e = ups g [(0, v93), (1, .bool s_48.2.1), (2, v3), (7, v52), (9, .int .i64 s_48.2.2.1), (10, .pointer (some ⟨b85, 0, none⟩)), (11, .bool z_63.2)] ∧ Sl R_api_Cell c v93 z_63.1) ?_ ?_
            · skip
              refine sr ?_
              refine va (.pointer (some ⟨b85, 0, none⟩)) ?_
              refine WL.val0 (v := .bool x_56.Delete) rfl (rx (by kernel_rfl) (ldE1 (j := 0) Tryd.underlying4 rfl (O89.on 0 rfl) rfl rfl)) ?_
              refine wln ?_
              refine W.cond (t := x_56.Delete) (by kernel_rfl) (fun h94 => ?_) (fun h94 => ?_)
              · have H91 := it h94 H91
                refine W.region ?_
                refine va (v72) ?_
                refine va (.pointer (some ⟨b85, 1, none⟩)) ?_
                refine WL.val0 (v := .int .i64 x_56.Col) rfl (rx (by kernel_rfl) (ldE1 (j := 1) Tryd.underlying3 rfl (O89.on 0 rfl) rfl rfl)) ?_
                refine va (.pointer (some ⟨b85, 2, none⟩)) ?_
                refine WL.val0 (v := .int .i64 x_56.N) rfl (rx (by kernel_rfl) (ldE1 (j := 2) Tryd.underlying3 rfl (O89.on 0 rfl) rfl rfl)) ?_
                obtain ⟨x_72, h95, H91⟩ := bs H91
                refine WL.callP rfl (by kernel_rfl) (c_linotyperef27_Delete O89 s_48.1 x_56.Col x_56.N (h76.mono (l87.trans l90)) h95) ?_
                rintro v103 c102 l102 ⟨v96, O99, rfl, h97⟩
                refine va (.tuple #[v96, .bool x_72.2]) ?_
                refine va (v96) ?_
                refine va (.bool x_72.2) ?_
                refine va (v96) ?_
                refine va (.bool x_72.2) ?_
                refine wln ?_
                obtain rfl := Option.some.inj H91
                exact ⟨c102, _, v96, rfl, l102, O99, ups_self ⟨rfl, rfl, rfl, rfl, rfl, rfl, rfl, trivial⟩, h97⟩
              · have H91 := ie h94 H91
                refine W.region ?_
                refine va (v72) ?_
                refine va (.pointer (some ⟨b85, 1, none⟩)) ?_
                refine WL.val0 (v := .int .i64 x_56.Col) rfl (rx (by kernel_rfl) (ldE1 (j := 1) Tryd.underlying3 rfl (O89.on 0 rfl) rfl rfl)) ?_
                refine va (.pointer (some ⟨b85, 2, none⟩)) ?_
                refine WL.val0 (v := .int .i64 x_56.N) rfl (rx (by kernel_rfl) (ldE1 (j := 2) Tryd.underlying3 rfl (O89.on 0 rfl) rfl rfl)) ?_
                obtain ⟨x_84, h104, H91⟩ := bs H91
                refine WL.callP rfl (by kernel_rfl) (c_linotyperef27_Insert O89 s_48.1 x_56.Col x_56.N (h76.mono (l87.trans l90)) h104) ?_
                rintro v112 c111 l111 ⟨v105, O108, rfl, h106⟩
                refine va (.tuple #[v105, .bool x_84.2]) ?_
                refine va (v105) ?_
                refine va (.bool x_84.2) ?_
                refine va (v105) ?_
                refine va (.bool x_84.2) ?_
                refine wln ?_
                obtain rfl := Option.some.inj H91
                exact ⟨c111, _, v105, rfl, l111, O108, ups_self ⟨rfl, rfl, rfl, rfl, rfl, rfl, rfl, trivial⟩, h106⟩
            · skip
              rintro e_ w_ ⟨c113, g114, v93, rfl, l113, O115, rfl, h116⟩
              refine W.seq ?_
              obtain ⟨d_92, h120, H92⟩ := bs H92
              refine W.join (fun e w => ∃ (c : Cx) (g : Nat → Value), w = c.w ∧ c113.le c ∧ Own c G77 (⟨.pointer (some ⟨b85, 0, none⟩), 112, [.bool x_56.Delete, .int .i64 x_56.Col, .int .i64 x_56.N], 0⟩ :: F) ∧ e = ups g [(0, v93), (1, .bool d_92), (2, v3), (7, v52), (9, .int .i64 s_48.2.2.1), (10, .pointer (some ⟨b85, 0, none⟩))]) ?_ ?_
              · clear H92
                refine W.region ?_
                refine va (.bool s_48.2.1) ?_
                rcases Bool.eq_false_or_eq_true (s_48.2.1) with h121 | h121
                · skip
                  have H122 := anT h121 h120
                  refine vb h121 ?_
                  refine wn ?_
                  refine va (.bool z_63.2) ?_
                  refine wn ?_
                  refine va (.bool (!z_63.2)) ?_
                  obtain rfl := Option.some.inj H122
                  refine va (.bool (!z_63.2)) ?_
                  refine va (.bool (!z_63.2)) ?_
                  refine wln ?_
                  exact ⟨c113, _, rfl, (Cx.le.refl _), O115, ups_self ⟨rfl, rfl, rfl, rfl, rfl, rfl, trivial⟩⟩
                · skip
                  obtain rfl := anF h121 h120
                  refine vb h121 ?_
                  refine ps ?_
                  refine ps ?_
                  refine va (.bool false) ?_
                  refine va (.bool false) ?_
                  refine wln ?_
                  exact ⟨c113, _, rfl, (Cx.le.refl _), O115, ups_self ⟨rfl, rfl, rfl, rfl, rfl, rfl, trivial⟩⟩
              · skip
                rintro e_ w_ ⟨c123, g124, rfl, l123, O125, rfl⟩
                refine nrm ?_
                refine sr ?_
                refine va (v52) ?_
                refine WL.val0 (v := .agg #[.bool x_56.Delete, .int .i64 x_56.Col, .int .i64 x_56.N]) rfl (rx (by kernel_rfl) (ldEN (T := 112) (j := 0) (l := [.bool x_56.Delete, .int .i64 x_56.Col, .int .i64 x_56.N]) (by kernel_rfl) (by kernel_rfl) (O125.on 0 rfl) rfl rfl)) ?_
                obtain ⟨x_100, h129, H92⟩ := bs H92
                refine WL.callP rfl (by kernel_rfl) (c_linotypelaw27_do O125 (R78.mono (l87.trans (l90.trans (l113.trans l123)))) ((hG.mono (l37.trans (l60.trans (l68.trans (l73.trans (l87.trans (l90.trans (l113.trans l123)))))))).le (by decide)) x_30.2.1 x_56 (h53.mono (l68.trans (l73.trans (l87.trans (l90.trans (l113.trans l123)))))) h129) ?_
                rintro v135 c134 l134 ⟨G130, O131, R132, rfl⟩
                refine wln ?_
                refine sr ?_
                refine WL.val0 (v := .agg #[.bool x_56.Delete, .int .i64 x_56.Col, .int .i64 x_56.N]) rfl (rx (by kernel_rfl) (ldEN (T := 112) (j := 0) (l := [.bool x_56.Delete, .int .i64 x_56.Col, .int .i64 x_56.N]) (by kernel_rfl) (by kernel_rfl) (O131.on 0 rfl) rfl rfl)) ?_
                obtain ⟨x_103, h136, H92⟩ := bs H92
                refine WL.callP rfl (by kernel_rfl) (c_linotypelaw27_do O131 R132 ((hG.mono (l37.trans (l60.trans (l68.trans (l73.trans (l87.trans (l90.trans (l113.trans (l123.trans l134))))))))).le (by decide)) (none : Option Nat) x_56 rfl h136) ?_
                rintro v142 c141 l141 ⟨G137, O138, R139, rfl⟩
                refine wln ?_
                refine W.seq ?_
                obtain ⟨x_106, h143, H92⟩ := bs H92
                obtain ⟨x_108, h144, H92⟩ := bs H92
                obtain ⟨d_110, h145, H92⟩ := bs H92
                obtain ⟨d_116, h146, H92⟩ := bs H92
                refine W.join (fun e w => ∃ (c : Cx) (g : Nat → Value) (v147 : Value) (u148 : List Value), w = c.w ∧ c141.le c ∧ Own c G137 (es false R_api_Cell v147 27 u148 x_106 :: ⟨.pointer (some ⟨b85, 0, none⟩), 112, [.bool x_56.Delete, .int .i64 x_56.Col, .int .i64 x_56.N], 0⟩ :: F) ∧ e = ups g [(0, v93), (1, .bool d_92), (2, v3), (7, v52), (9, .int .i64 s_48.2.2.1), (101, .bool d_116)] ∧ OA R_api_Cell c v147 u148 x_106) ?_ ?_
                · clear H92
                  refine W.region ?_
                  refine va (v52) ?_
                  refine WL.callP rfl (by kernel_rfl) (c_row_Row_Cells O138 R139 x_30.2.1 (h53.mono (l68.trans (l73.trans (l87.trans (l90.trans (l113.trans (l123.trans (l134.trans l141)))))))) h143) ?_
                  rintro v149 c156 l156 ⟨_, u150, O153, rfl, h151⟩
                  refine va (v93) ?_
                  obtain ⟨c160, h161, l160, O158, h159⟩ := O153.frz 0 rfl h151
                  refine WL.gh h161 ?_
                  refine WL.callP rfl (by kernel_rfl) (c_linotyperef23_Same O158 x_106 z_63.1 h159 (h116.mono (l123.trans (l134.trans (l141.trans (l156.trans l160))))) h144) ?_
                  rintro v167 c166 l166 ⟨O163, rfl⟩
                  refine va (.bool (!x_108)) ?_
                  rcases Bool.eq_false_or_eq_true (!x_108) with h168 | h168
                  · skip
                    obtain rfl := orT h168 h145
                    refine vb h168 ?_
                    refine ps ?_
                    refine ps ?_
                    refine ps ?_
                    refine ps ?_
                    refine va (.bool true) ?_
                    have h169 : true = true := rfl
                    obtain rfl := orT h169 h146
                    refine vb h169 ?_
                    refine ps ?_
                    refine ps ?_
                    refine ps ?_
                    refine ps ?_
                    refine va (.bool true) ?_
                    refine wln ?_
                    exact ⟨c166, _, v149, u150, rfl, (l156.trans (l160.trans l166)), O163, ups_self ⟨rfl, rfl, rfl, rfl, rfl, rfl, trivial⟩, (h151.mono (l160.trans l166))⟩
                  · skip
                    have H170 := orF h168 h145
                    refine vb h168 ?_
                    refine wn ?_
                    refine va (v52) ?_
                    refine wn ?_
                    obtain ⟨x_113, h171, H170⟩ := bs H170
                    refine WL.callP rfl (by kernel_rfl) (c_row_Row_Wrap O163 (R139.mono (l156.trans (l160.trans l166))) x_30.2.1 (h53.mono (l68.trans (l73.trans (l87.trans (l90.trans (l113.trans (l123.trans (l134.trans (l141.trans (l156.trans (l160.trans l166))))))))))) h171) ?_
                    rintro v177 c176 l176 ⟨O173, rfl⟩
                    refine wn ?_
                    refine va (.bool d_92) ?_
                    refine wn ?_
                    refine va (.bool (!(x_113 == d_92))) ?_
                    obtain rfl := Option.some.inj H170
                    refine va (.bool (!(x_113 == d_92))) ?_
                    rcases Bool.eq_false_or_eq_true (!(x_113 == d_92)) with h178 | h178
                    · skip
                      obtain rfl := orT h178 h146
                      refine vb h178 ?_
                      refine ps ?_
                      refine ps ?_
                      refine ps ?_
                      refine ps ?_
                      refine va (.bool true) ?_
                      refine wln ?_
                      exact ⟨c176, _, v149, u150, rfl, (l156.trans (l160.trans (l166.trans l176))), O173, ups_self ⟨rfl, rfl, rfl, rfl, rfl, rfl, trivial⟩, (h151.mono (l160.trans (l166.trans l176)))⟩
                    · skip
                      have H179 := orF h178 h146
                      refine vb h178 ?_
                      refine wn ?_
                      refine va (v52) ?_
                      refine wn ?_
                      obtain ⟨x_119, h180, H179⟩ := bs H179
                      refine WL.callP rfl (by kernel_rfl) (c_row_Row_Cells O173 (R139.mono (l156.trans (l160.trans (l166.trans l176)))) x_30.2.1 (h53.mono (l68.trans (l73.trans (l87.trans (l90.trans (l113.trans (l123.trans (l134.trans (l141.trans (l156.trans (l160.trans (l166.trans l176)))))))))))) h180) ?_
                      rintro v181 c188 l188 ⟨_, u182, O185, rfl, h183⟩
                      refine wn ?_
                      obtain ⟨c192, h193, l192, O190, h191⟩ := O185.frz 0 rfl h183
                      refine WL.gh h193 ?_
                      obtain ⟨x_120, h194, H179⟩ := bs H179
                      refine WL.callP rfl (by kernel_rfl) (c_linotyperef23_Sound O190 x_119 h191 h194) ?_
                      rintro v200 c199 l199 ⟨O196, rfl⟩
                      refine wn ?_
                      refine va (.bool (!x_120)) ?_
                      obtain rfl := Option.some.inj H179
                      refine va (.bool (!x_120)) ?_
                      refine wln ?_
                      have O201 := O196.selD 3 [1, 2] (by kernel_rfl) (by kernel_rfl)
                      exact ⟨c199, _, v149, u150, rfl, (l156.trans (l160.trans (l166.trans (l176.trans (l188.trans (l192.trans l199)))))), O201, ups_self ⟨rfl, rfl, rfl, rfl, rfl, rfl, trivial⟩, (h151.mono (l160.trans (l166.trans (l176.trans (l188.trans (l192.trans l199))))))⟩
                · skip
                  rintro e_ w_ ⟨c202, g203, v147, u148, rfl, l202, O204, rfl, h205⟩
                  refine nrm ?_
                  refine W.cond (t := d_116) (by kernel_rfl) (fun h209 => ?_) (fun h209 => ?_)
                  · have H92 := it h209 H92
                    refine sr ?_
                    refine va (.bool false) ?_
                    refine wln ?_
                    refine W.ret ?_
                    refine bkr ?_
                    refine thr ?_
                    obtain rfl := Option.some.inj H92
                    refine ⟨_, rfl, ?_⟩
                    refine ⟨rfl, ?_⟩
                    have O210 := O204.selD 2 [] (by kernel_rfl) (by kernel_rfl)
                    exact ⟨c202, _, G137, rfl, (l73.trans (l87.trans (l90.trans (l113.trans (l123.trans (l134.trans (l141.trans l202))))))), O210, ups_self ⟨rfl, trivial⟩, (R139.mono l202)⟩
                  · have H92 := ie h209 H92
                    refine W.skip ?_
                    refine bkn ?_
                    refine nrm ?_
                    refine W.region ?_
                    refine va (.int .i64 s_48.2.2.1) ?_
                    refine va (.int .i64 (w64 (s_48.2.2.1 + 1))) ?_
                    refine va (.int .i64 (w64 (s_48.2.2.1 + 1))) ?_
                    refine WL.nil ?_
                    obtain rfl := Option.some.inj H92
                    refine ⟨_, rfl, ?_⟩
                    have O211 := O204.selD 2 [] (by kernel_rfl) (by kernel_rfl)
                    exact ⟨c202, _, v93, G137, rfl, (l73.trans (l87.trans (l90.trans (l113.trans (l123.trans (l134.trans (l141.trans l202))))))), O211, ups_self ⟨rfl, rfl, rfl, rfl, rfl, trivial⟩, (R139.mono l202), (h116.mono (l123.trans (l134.trans (l141.trans l202))))⟩
          · have H := ie h80 H
            refine W.exit ?_
            refine thx ?_
            obtain rfl := Option.some.inj H
            refine ⟨_, rfl, rfl, ?_⟩
            exact ⟨c73, _, G77, rfl, l73, O75, ups_self trivial, R78⟩
        · skip
          exact ⟨c68, _, v1, G64, rfl, (Cx.le.refl _), O65, ups_self ⟨rfl, rfl, rfl, rfl, rfl, trivial⟩, R66, (h2.mono (l37.trans (l60.trans l68)))⟩
        · skip
          rcases o_48 with o_48 | o_48
          · skip
            intro ex_; revert ex_
            rintro _ e_ w_ ⟨rfl, c212, g213, G215, rfl, l212, O214, rfl, R216⟩
            refine bkr ?_
            refine thr ?_
            obtain rfl := Option.some.inj H71
            exact ret1 (v := .bool o_48.2) rfl (by kernel_rfl) ⟨_, c212, rfl, rfl, (l37.trans (l60.trans (l68.trans l212))), G215, O214, R216, rfl⟩
          · skip
            rintro _ e_ w_ ⟨rfl, c218, g219, G221, rfl, l218, O220, rfl, R222⟩
            refine bke ?_
            refine nrm ?_
            refine sr ?_
            refine va (.bool true) ?_
            refine wln ?_
            refine W.ret ?_
            obtain rfl := Option.some.inj H71
            exact ret1 (v := .bool true) rfl (by kernel_rfl) ⟨_, c218, rfl, rfl, (l37.trans (l60.trans (l68.trans l218))), G221, O220, R222, rfl⟩

end Go.Proofs.YtohpkblleihmaaaDoor
