import Derived.Test.YtohpkblleihmaaaDoorMo
import Derived.Test.YtohpkblleihmaaaDoorProg
import Derived.Test.YtohpkblleihmaaaDoorMy
import Derived.Test.YtohpkblleihmaaaDoorMz
import Derived.Test.YtohpkblleihmaaaDoorA1
import Derived.Test.YtohpkblleihmaaaDoorS1
namespace Go.Proofs.YtohpkblleihmaaaDoor
open Go Go.Lt
set_option maxRecDepth 10000
set_option linter.unusedVariables false
attribute [local irreducible] W WL AC
def f_linotypelaw27_ShiftBack (sg : Sto) (p0 : List G_api_Cell) (p1 : Int) (p2 : Int) : Option (Sto × Bool) :=
  (f_linotypelaw27_works sg).bind fun x_3 =>
  (orE (!x_3.2) (some (decide ((p0.length : Int) > 100)))).bind fun d_5 =>
  (orE d_5 (some ((p0.length : Int) == 0))).bind fun d_10 =>
  (orE d_10 ((f_linotyperef23_Sound p0).bind fun x_18 =>
  some (!x_18))).bind fun d_15 =>
  (orE d_15 (some (decide (p1 < 0)))).bind fun d_20 =>
  (orE d_20 (some (decide (p1 ≥ (p0.length : Int))))).bind fun d_24 =>
  (orE d_24 (some (decide (p2 < 1)))).bind fun d_30 =>
  if d_30 = true then
  (f_linotypelaw27_works x_3.1).bind fun x_35 =>
  some (x_35.1, x_35.2)
  else
  (idx p0 p1).bind fun x_48 =>
  if (x_48.Kind == 3) = true then
  some (x_3.1, true)
  else
  (f_row_Of x_3.1 p0).bind fun x_56 =>
  if (!x_56.2.2.isNil) = true then
  some (x_56.1, false)
  else
  (f_shift_Insert x_56.1 x_56.2.1 p1 (imin p2 (w64 ((p0.length : Int) - p1)))).bind fun x_71 =>
  (iter (σ := Int) (τ := (Sto × Bool) ⊕ Unit) (((w64 (p1 + (imin p2 (w64 ((p0.length : Int) - p1))))) - p1).toNat + 1) (fun s_76 =>
  if (decide (s_76 < (w64 (p1 + (imin p2 (w64 ((p0.length : Int) - p1))))))) = true then
  (f_row_Row_Cell x_71 x_56.2.1 s_76).bind fun x_85 =>
  if (x_85.1.Kind != 0) = true then
  some (.inr (.inl (x_71, false)))
  else
  some (.inl ((w64 (s_76 + 1))))
  else
  some (.inr (.inr ()))) (p1)).bind fun o_76 =>
  match o_76 with
  | .inl o_76 =>
  some o_76
  | .inr o_76 =>
  (f_shift_Delete x_71 x_56.2.1 p1 (imin p2 (w64 ((p0.length : Int) - p1)))).bind fun x_106 =>
  (iter (σ := Int) (τ := (Sto × Bool) ⊕ Unit) (((p0.length : Int) - 0).toNat + 1) (fun s_110 =>
  if (decide (s_110 < (p0.length : Int))) = true then
  (f_row_Row_Cell x_106 x_56.2.1 s_110).bind fun x_118 =>
  (idx p0 s_110).bind fun x_128 =>
  ((orE (decide (s_110 ≥ (w64 ((p0.length : Int) - (imin p2 (w64 ((p0.length : Int) - p1))))))) ((andE ((w64 (s_110 + 1)) == (w64 ((p0.length : Int) - (imin p2 (w64 ((p0.length : Int) - p1)))))) ((idx p0 s_110).bind fun x_153 =>
  some (x_153.Kind == 2))).bind fun d_149 =>
  some d_149)).bind fun d_140 =>
  if d_140 = true then
  (some (0, ([] : List Int)) : Option (Int × (List Int)))
  else
  (some (x_128.Kind, x_128.Text) : Option (Int × (List Int)))).bind fun z_133 =>
  (f_linotyperef23_Same ([x_118.1] : List G_api_Cell) ([(⟨z_133.1, z_133.2⟩ : G_api_Cell)] : List G_api_Cell)).bind fun x_165 =>
  if (!x_165) = true then
  some (.inr (.inl (x_106, false)))
  else
  some (.inl ((w64 (s_110 + 1))))
  else
  some (.inr (.inr ()))) (0)).bind fun o_110 =>
  match o_110 with
  | .inl o_110 =>
  some o_110
  | .inr o_110 =>
  some (x_106, true)
theorem c_linotypelaw27_ShiftBack {c0 : Cx} {G : Gm} {F : List En} {sg : Sto} {v1 : Value} (O0 : Own c0 G F) (R0 : Rel c0 sg G) (hG : Gl [0, 1] c0) (p0 : List G_api_Cell) (p1 : Int) (p2 : Int) {r : Sto × Bool} (h2 : Sl R_api_Cell c0 v1 p0) (H : f_linotypelaw27_ShiftBack sg p0 p1 p2 = some r) :
    Calls Tryd.prog 15 #[v1, .int .i64 p1, .int .i64 p2] c0.w (Post c0 fun c v => ∃ G_ : Gm, Own c G_ (F) ∧ Rel c r.1 G_ ∧ v = .bool r.2) := by
  unfold f_linotypelaw27_ShiftBack at H
  refine enter (l := [v1, .int .i64 p1, .int .i64 p2]) Tryd.func15 rfl rfl rfl ?_
  refine sr ?_
  refine va (.bool false) ?_
  refine wln ?_
  refine W.seq ?_
  refine W.seq ?_
  obtain ⟨x_3, h3, H⟩ := bs H
  obtain ⟨d_5, h4, H⟩ := bs H
  obtain ⟨d_10, h5, H⟩ := bs H
  obtain ⟨d_15, h6, H⟩ := bs H
  obtain ⟨d_20, h7, H⟩ := bs H
  obtain ⟨d_24, h8, H⟩ := bs H
  obtain ⟨d_30, h9, H⟩ := bs H
  refine W.join (fun e w => ∃ (c : Cx) (g : Nat → Value) (G_ : Gm), w = c.w ∧ c0.le c ∧ Own c G_ (F) ∧ e = ups g [(0, v1), (1, .int .i64 p1), (2, .int .i64 p2), (46, .bool d_30)] ∧ Rel c x_3.1 G_) ?_ ?_
  · clear H
    refine W.region ?_
    refine WL.callP rfl (by kernel_rfl) (c_linotypelaw27_works O0 R0 (hG.le (by decide)) h3) ?_
    rintro v15 c14 l14 ⟨G10, O11, R12, rfl⟩
    refine va (.bool (!x_3.2)) ?_
    rcases Bool.eq_false_or_eq_true (!x_3.2) with h16 | h16
    · skip
      obtain rfl := orT h16 h4
      refine vb h16 ?_
      refine ps ?_
      refine ps ?_
      refine ps ?_
      refine va (.bool true) ?_
      have h17 : true = true := rfl
      obtain rfl := orT h17 h5
      refine vb h17 ?_
      refine ps ?_
      refine ps ?_
      refine ps ?_
      refine va (.bool true) ?_
      have h18 : true = true := rfl
      obtain rfl := orT h18 h6
      refine vb h18 ?_
      refine ps ?_
      refine ps ?_
      refine ps ?_
      refine va (.bool true) ?_
      have h19 : true = true := rfl
      obtain rfl := orT h19 h7
      refine vb h19 ?_
      refine ps ?_
      refine ps ?_
      refine va (.bool true) ?_
      have h20 : true = true := rfl
      obtain rfl := orT h20 h8
      refine vb h20 ?_
      refine ps ?_
      refine ps ?_
      refine ps ?_
      refine ps ?_
      refine va (.bool true) ?_
      have h21 : true = true := rfl
      obtain rfl := orT h21 h9
      refine vb h21 ?_
      refine ps ?_
      refine ps ?_
      refine va (.bool true) ?_
      refine wln ?_
      exact ⟨c14, _, G10, rfl, l14, O11, ups_self ⟨rfl, rfl, rfl, rfl, trivial⟩, R12⟩
    · skip
      have H22 := orF h16 h4
      refine vb h16 ?_
      refine wn ?_
      refine va (v1) ?_
      refine wn ?_
      refine WL.val0 (v := .int .i64 (p0.length : Int)) rfl (rx (by kernel_rfl) (run_len (ty := 3) Tryd.underlying22 (h2.mono l14) _)) ?_
      refine wn ?_
      refine va (.bool (decide ((p0.length : Int) > 100))) ?_
      obtain rfl := Option.some.inj H22
      refine va (.bool (decide ((p0.length : Int) > 100))) ?_
      rcases Bool.eq_false_or_eq_true (decide ((p0.length : Int) > 100)) with h23 | h23
      · skip
        obtain rfl := orT h23 h5
        refine vb h23 ?_
        refine ps ?_
        refine ps ?_
        refine ps ?_
        refine va (.bool true) ?_
        have h24 : true = true := rfl
        obtain rfl := orT h24 h6
        refine vb h24 ?_
        refine ps ?_
        refine ps ?_
        refine ps ?_
        refine va (.bool true) ?_
        have h25 : true = true := rfl
        obtain rfl := orT h25 h7
        refine vb h25 ?_
        refine ps ?_
        refine ps ?_
        refine va (.bool true) ?_
        have h26 : true = true := rfl
        obtain rfl := orT h26 h8
        refine vb h26 ?_
        refine ps ?_
        refine ps ?_
        refine ps ?_
        refine ps ?_
        refine va (.bool true) ?_
        have h27 : true = true := rfl
        obtain rfl := orT h27 h9
        refine vb h27 ?_
        refine ps ?_
        refine ps ?_
        refine va (.bool true) ?_
        refine wln ?_
        exact ⟨c14, _, G10, rfl, l14, O11, ups_self ⟨rfl, rfl, rfl, rfl, trivial⟩, R12⟩
      · skip
        have H28 := orF h23 h5
        refine vb h23 ?_
        refine wn ?_
        refine va (v1) ?_
        refine wn ?_
        refine WL.val0 (v := .int .i64 (p0.length : Int)) rfl (rx (by kernel_rfl) (run_len (ty := 3) Tryd.underlying22 (h2.mono l14) _)) ?_
        refine wn ?_
        refine va (.bool ((p0.length : Int) == 0)) ?_
        obtain rfl := Option.some.inj H28
        refine va (.bool ((p0.length : Int) == 0)) ?_
        rcases Bool.eq_false_or_eq_true ((p0.length : Int) == 0) with h29 | h29
        · skip
          obtain rfl := orT h29 h6
          refine vb h29 ?_
          refine ps ?_
          refine ps ?_
          refine ps ?_
          refine va (.bool true) ?_
          have h30 : true = true := rfl
          obtain rfl := orT h30 h7
          refine vb h30 ?_
          refine ps ?_
          refine ps ?_
          refine va (.bool true) ?_
          have h31 : true = true := rfl
          obtain rfl := orT h31 h8
          refine vb h31 ?_
          refine ps ?_
          refine ps ?_
          refine ps ?_
          refine ps ?_
          refine va (.bool true) ?_
          have h32 : true = true := rfl
          obtain rfl := orT h32 h9
          refine vb h32 ?_
          refine ps ?_
          refine ps ?_
          refine va (.bool true) ?_
          refine wln ?_
          exact ⟨c14, _, G10, rfl, l14, O11, ups_self ⟨rfl, rfl, rfl, rfl, trivial⟩, R12⟩
        · skip
          have H33 := orF h29 h6
          refine vb h29 ?_
          refine wn ?_
          refine va (v1) ?_
          refine wn ?_
          obtain ⟨x_18, h34, H33⟩ := bs H33
          refine WL.callP rfl (by kernel_rfl) (c_linotyperef23_Sound O11 p0 (h2.mono l14) h34) ?_
          rintro v40 c39 l39 ⟨O36, rfl⟩
          refine wn ?_
          refine va (.bool (!x_18)) ?_
          obtain rfl := Option.some.inj H33
          refine va (.bool (!x_18)) ?_
          rcases Bool.eq_false_or_eq_true (!x_18) with h41 | h41
          · skip
            obtain rfl := orT h41 h7
            refine vb h41 ?_
            refine ps ?_
            refine ps ?_
            refine va (.bool true) ?_
            have h42 : true = true := rfl
            obtain rfl := orT h42 h8
            refine vb h42 ?_
            refine ps ?_
            refine ps ?_
            refine ps ?_
            refine ps ?_
            refine va (.bool true) ?_
            have h43 : true = true := rfl
            obtain rfl := orT h43 h9
            refine vb h43 ?_
            refine ps ?_
            refine ps ?_
            refine va (.bool true) ?_
            refine wln ?_
            exact ⟨c39, _, G10, rfl, (l14.trans l39), O36, ups_self ⟨rfl, rfl, rfl, rfl, trivial⟩, (R12.mono l39)⟩
          · skip
            have H44 := orF h41 h7
            refine vb h41 ?_
            refine wn ?_
            refine va (.int .i64 p1) ?_
            refine wn ?_
            refine va (.bool (decide (p1 < 0))) ?_
            obtain rfl := Option.some.inj H44
            refine va (.bool (decide (p1 < 0))) ?_
            rcases Bool.eq_false_or_eq_true (decide (p1 < 0)) with h45 | h45
            · skip
              obtain rfl := orT h45 h8
              refine vb h45 ?_
              refine ps ?_
              refine ps ?_
              refine ps ?_
              refine ps ?_
              refine va (.bool true) ?_
              have h46 : true = true := rfl
              obtain rfl := orT h46 h9
              refine vb h46 ?_
              refine ps ?_
              refine ps ?_
              refine va (.bool true) ?_
              refine wln ?_
              exact ⟨c39, _, G10, rfl, (l14.trans l39), O36, ups_self ⟨rfl, rfl, rfl, rfl, trivial⟩, (R12.mono l39)⟩
            · skip
              have H47 := orF h45 h8
              refine vb h45 ?_
              refine wn ?_
              refine va (.int .i64 p1) ?_
              refine wn ?_
              refine va (v1) ?_
              refine wn ?_
              refine WL.val0 (v := .int .i64 (p0.length : Int)) rfl (rx (by kernel_rfl) (run_len (ty := 3) Tryd.underlying22 (h2.mono (l14.trans l39)) _)) ?_
              refine wn ?_
              refine va (.bool (decide (p1 ≥ (p0.length : Int)))) ?_
              obtain rfl := Option.some.inj H47
              refine va (.bool (decide (p1 ≥ (p0.length : Int)))) ?_
              rcases Bool.eq_false_or_eq_true (decide (p1 ≥ (p0.length : Int))) with h48 | h48
              · skip
                obtain rfl := orT h48 h9
                refine vb h48 ?_
                refine ps ?_
                refine ps ?_
                refine va (.bool true) ?_
                refine wln ?_
                exact ⟨c39, _, G10, rfl, (l14.trans l39), O36, ups_self ⟨rfl, rfl, rfl, rfl, trivial⟩, (R12.mono l39)⟩
              · skip
                have H49 := orF h48 h9
                refine vb h48 ?_
                refine wn ?_
                refine va (.int .i64 p2) ?_
                refine wn ?_
                refine va (.bool (decide (p2 < 1))) ?_
                obtain rfl := Option.some.inj H49
                refine va (.bool (decide (p2 < 1))) ?_
                refine wln ?_
                exact ⟨c39, _, G10, rfl, (l14.trans l39), O36, ups_self ⟨rfl, rfl, rfl, rfl, trivial⟩, (R12.mono l39)⟩
  · skip
    rintro e_ w_ ⟨c50, g51, G53, rfl, l50, O52, rfl, R54⟩
    refine nrm ?_
    refine W.cond (t := d_30) (by kernel_rfl) (fun h56 => ?_) (fun h56 => ?_)
    · have H := it h56 H
      refine sr ?_
      obtain ⟨x_35, h57, H⟩ := bs H
      refine WL.callP rfl (by kernel_rfl) (c_linotypelaw27_works O52 R54 ((hG.mono l50).le (by decide)) h57) ?_
      rintro v63 c62 l62 ⟨G58, O59, R60, rfl⟩
      refine va (.bool x_35.2) ?_
      refine wln ?_
      refine W.ret ?_
      refine thr ?_
      obtain rfl := Option.some.inj H
      exact ret1 (v := .bool x_35.2) rfl (by kernel_rfl) ⟨_, c62, rfl, rfl, (l50.trans l62), G58, O59, R60, rfl⟩
    · have H := ie h56 H
      refine W.skip ?_
      refine nrm ?_
      refine sr ?_
      refine va (.int .i64 p2) ?_
      refine va (v1) ?_
      refine WL.val0 (v := .int .i64 (p0.length : Int)) rfl (rx (by kernel_rfl) (run_len (ty := 3) Tryd.underlying22 (h2.mono l50) _)) ?_
      refine va (.int .i64 p1) ?_
      refine va (.int .i64 (w64 ((p0.length : Int) - p1))) ?_
      refine va (.int .i64 (imin p2 (w64 ((p0.length : Int) - p1)))) ?_
      refine va (.int .i64 (imin p2 (w64 ((p0.length : Int) - p1)))) ?_
      refine wln ?_
      refine W.seq ?_
      refine sr ?_
      refine va (v1) ?_
      refine va (.int .i64 p1) ?_
      obtain ⟨x_48, h64, H⟩ := bs H
      obtain ⟨l_65, h66, m67⟩ := Sl.at (h2.mono l50) (idx_get h64)
      obtain ⟨v68, rfl, h69⟩ := h66
      refine WL.val0 (v := .pointer (some ⟨sb v1, so v1 + p1.toNat * 2, none⟩)) rfl (rx (by kernel_rfl) (run_index (k := .i64) Tryd.underlying22 (by kernel_rfl) (h2.mono l50) h64 _)) ?_
      refine va (.pointer (some ⟨sb v1, so v1 + p1.toNat * 2, none⟩)) ?_
      refine WL.val0 (v := .int .i64 x_48.Kind) rfl (rx (by kernel_rfl) (run_load1 Tryd.underlying3 rfl (m67 0 _ rfl))) ?_
      refine va (.bool (x_48.Kind == 3)) ?_
      refine wln ?_
      refine W.cond (t := x_48.Kind == 3) (by kernel_rfl) (fun h70 => ?_) (fun h70 => ?_)
      · have H := it h70 H
        refine sr ?_
        refine va (.bool true) ?_
        refine wln ?_
        refine W.ret ?_
        refine thr ?_
        obtain rfl := Option.some.inj H
        exact ret1 (v := .bool true) rfl (by kernel_rfl) ⟨_, c50, rfl, rfl, l50, G53, O52, R54, rfl⟩
      · have H := ie h70 H
        refine W.skip ?_
        refine nrm ?_
        refine sr ?_
        refine va (v1) ?_
        obtain ⟨x_56, h71, H⟩ := bs H
        refine WL.callP rfl (by kernel_rfl) (c_row_Of O52 R54 ((hG.mono l50).le (by decide)) p0 (h2.mono l50) h71) ?_
        rintro v81 c80 l80 ⟨v72, v74, G76, O77, R78, rfl, h73, h75⟩
        refine va (.tuple #[v72, v74]) ?_
        refine va (v72) ?_
        refine va (v74) ?_
        refine va (v72) ?_
        refine va (v74) ?_
        refine wln ?_
        refine W.seq ?_
        refine sr ?_
        refine va (v74) ?_
        refine WL.val0 (v := .bool (!x_56.2.2.isNil)) rfl (by rcases (h75).cs with ⟨h1_, h2_⟩ | ⟨b_, h1_, h2_⟩ | ⟨b_, h1_, h2_⟩ <;> (subst h1_; rw [h2_]; kernel_rfl)) ?_
        refine wln ?_
        refine W.cond (t := !x_56.2.2.isNil) (by kernel_rfl) (fun h82 => ?_) (fun h82 => ?_)
        · have H := it h82 H
          refine sr ?_
          refine va (.bool false) ?_
          refine wln ?_
          refine W.ret ?_
          refine thr ?_
          obtain rfl := Option.some.inj H
          exact ret1 (v := .bool false) rfl (by kernel_rfl) ⟨_, c80, rfl, rfl, (l50.trans l80), G76, O77, R78, rfl⟩
        · have H := ie h82 H
          refine W.skip ?_
          refine nrm ?_
          refine sr ?_
          refine va (v72) ?_
          refine va (.int .i64 p1) ?_
          refine va (.int .i64 (imin p2 (w64 ((p0.length : Int) - p1)))) ?_
          obtain ⟨x_71, h83, H⟩ := bs H
          refine WL.callP rfl (by kernel_rfl) (c_shift_Insert O77 R78 ((hG.mono (l50.trans l80)).le (by decide)) x_56.2.1 p1 (imin p2 (w64 ((p0.length : Int) - p1))) h73 h83) ?_
          rintro v89 c88 l88 ⟨G84, O85, R86, rfl⟩
          refine wln ?_
          refine W.seq ?_
          refine sr ?_
          refine va (.int .i64 p1) ?_
          refine va (.int .i64 p1) ?_
          refine wln ?_
          refine W.block ?_
          obtain ⟨o_76, h90, H91⟩ := bs H
          refine W.loop (σ := Int) (τ := (Sto × Bool) ⊕ Unit) (fun s_76 => fun e w => ∃ (c : Cx) (g : Nat → Value), w = c.w ∧ c88.le c ∧ Own c G84 (F) ∧ e = ups g [(0, v1), (1, .int .i64 p1), (2, .int .i64 (imin p2 (w64 ((p0.length : Int) - p1)))), (7, v72), (9, .int .i64 s_76)]) (fun t => match t with | .inl x_ => (fun rr_ ex e w => ex = .ret ∧ (fun e w => ∃ (c : Cx) (g : Nat → Value) (G_ : Gm), w = c.w ∧ c88.le c ∧ Own c G_ (F) ∧ e = ups g [(6, .bool rr_.2)] ∧ Rel c rr_.1 G_) e w) x_ | .inr x_ => (fun o_76_ ex e w => ex = .exit 0 ∧ (fun e w => ∃ (c : Cx) (g : Nat → Value), w = c.w ∧ c88.le c ∧ Own c G84 (F) ∧ e = ups g [(0, v1), (1, .int .i64 p1), (2, .int .i64 (imin p2 (w64 ((p0.length : Int) - p1)))), (7, v72)]) e w) x_) ?_ h90 ?_ ?_
          · clear H91 h90
            intro s_76 xx_ ee_ ww_ H
            revert ee_ ww_
            rintro e_ w_ ⟨c92, g93, rfl, l92, O94, rfl⟩
            refine W.seq ?_
            refine sr ?_
            refine va (.int .i64 s_76) ?_
            refine va (.int .i64 p1) ?_
            refine va (.int .i64 (imin p2 (w64 ((p0.length : Int) - p1)))) ?_
            refine va (.int .i64 (w64 (p1 + (imin p2 (w64 ((p0.length : Int) - p1)))))) ?_
            refine va (.bool (decide (s_76 < (w64 (p1 + (imin p2 (w64 ((p0.length : Int) - p1)))))))) ?_
            refine wln ?_
            refine W.cond (t := decide (s_76 < (w64 (p1 + (imin p2 (w64 ((p0.length : Int) - p1))))))) (by kernel_rfl) (fun h98 => ?_) (fun h98 => ?_)
            · have H := it h98 H
              refine W.skip ?_
              refine nrm ?_
              refine W.seq ?_
              refine W.block ?_
              refine sr ?_
              refine va (v72) ?_
              refine va (.int .i64 s_76) ?_
              obtain ⟨x_85, h99, H⟩ := bs H
              refine WL.callP rfl (by kernel_rfl) (c_row_Row_Cell O94 (R86.mono l92) x_56.2.1 s_76 (h73.mono (l88.trans l92)) h99) ?_
              rintro v108 c107 l107 ⟨v100, u101, O104, rfl, h102⟩
              refine va (.tuple #[.agg #[.int .i64 x_85.1.Kind, v100], .bool x_85.2]) ?_
              refine va (.agg #[.int .i64 x_85.1.Kind, v100]) ?_
              refine va (.bool x_85.2) ?_
              refine WL.mem rfl (Own.al (T := 27) (vs := [.int .i64 0, .slice none 0 0]) O104 (by kernel_rfl)) ?_
              rintro v112 c111 l111 ⟨b109, rfl, O110⟩
              obtain ⟨a113, a114, a115, rfl⟩ := ((h102.mono l111)).form
              refine WL.memD rfl (Own.st (T := 27) (j := 0) (us := [.int .i64 x_85.1.Kind, .slice a113 a114 a115]) (nw := [.int .i64 x_85.1.Kind, .slice a113 a114 a115]) (v := .agg #[.int .i64 x_85.1.Kind, .slice a113 a114 a115]) 0 O110 (by kernel_rfl) rfl rfl rfl rfl (by kernel_rfl) ⟨rfl, ((h102.mono l111)).one, trivial⟩ rfl rfl) ?_
              rintro c117 l117 O116
              refine va (.bool x_85.2) ?_
              refine wln ?_
              refine sr ?_
              refine va (.pointer (some ⟨b109, 0, none⟩)) ?_
              refine WL.val0 (v := .int .i64 x_85.1.Kind) rfl (rx (by kernel_rfl) (ldE1 (j := 0) Tryd.underlying3 rfl (O116.on 0 rfl) rfl rfl)) ?_
              refine va (.bool (x_85.1.Kind != 0)) ?_
              refine wln ?_
              refine W.cond (t := x_85.1.Kind != 0) (by kernel_rfl) (fun h118 => ?_) (fun h118 => ?_)
              · have H := it h118 H
                refine sr ?_
                refine va (.bool false) ?_
                refine wln ?_
                refine W.ret ?_
                refine bkr ?_
                refine thr ?_
                obtain rfl := Option.some.inj H
                refine ⟨_, rfl, ?_⟩
                refine ⟨rfl, ?_⟩
                have O119 := O116.selD 2 [] (by kernel_rfl) (by kernel_rfl)
                exact ⟨c117, _, G84, rfl, (l92.trans (l107.trans (l111.trans l117))), O119, ups_self ⟨rfl, trivial⟩, (R86.mono (l92.trans (l107.trans (l111.trans l117))))⟩
              · have H := ie h118 H
                refine W.skip ?_
                refine bkn ?_
                refine nrm ?_
                refine W.region ?_
                refine va (.int .i64 s_76) ?_
                refine va (.int .i64 (w64 (s_76 + 1))) ?_
                refine va (.int .i64 (w64 (s_76 + 1))) ?_
                refine WL.nil ?_
                obtain rfl := Option.some.inj H
                refine ⟨_, rfl, ?_⟩
                have O120 := O116.selD 2 [] (by kernel_rfl) (by kernel_rfl)
                exact ⟨c117, _, rfl, (l92.trans (l107.trans (l111.trans l117))), O120, ups_self ⟨rfl, rfl, rfl, rfl, rfl, trivial⟩⟩
            · have H := ie h98 H
              refine W.exit ?_
              refine thx ?_
              obtain rfl := Option.some.inj H
              refine ⟨_, rfl, rfl, ?_⟩
              exact ⟨c92, _, rfl, l92, O94, ups_self ⟨rfl, rfl, rfl, rfl, trivial⟩⟩
          · skip
            exact ⟨c88, _, rfl, (Cx.le.refl _), O85, ups_self ⟨rfl, rfl, rfl, rfl, rfl, trivial⟩⟩
          · skip
            rcases o_76 with o_76 | o_76
            · skip
              intro ex_; revert ex_
              rintro _ e_ w_ ⟨rfl, c121, g122, G124, rfl, l121, O123, rfl, R125⟩
              refine bkr ?_
              refine thr ?_
              obtain rfl := Option.some.inj H91
              exact ret1 (v := .bool o_76.2) rfl (by kernel_rfl) ⟨_, c121, rfl, rfl, (l50.trans (l80.trans (l88.trans l121))), G124, O123, R125, rfl⟩
            · skip
              rintro _ e_ w_ ⟨rfl, c127, g128, rfl, l127, O129, rfl⟩
              refine bke ?_
              refine nrm ?_
              refine sr ?_
              refine va (v72) ?_
              refine va (.int .i64 p1) ?_
              refine va (.int .i64 (imin p2 (w64 ((p0.length : Int) - p1)))) ?_
              obtain ⟨x_106, h133, H91⟩ := bs H91
              refine WL.callP rfl (by kernel_rfl) (c_shift_Delete O129 (R86.mono l127) ((hG.mono (l50.trans (l80.trans (l88.trans l127)))).le (by decide)) x_56.2.1 p1 (imin p2 (w64 ((p0.length : Int) - p1))) (h73.mono (l88.trans l127)) h133) ?_
              rintro v139 c138 l138 ⟨G134, O135, R136, rfl⟩
              refine wln ?_
              refine W.seq ?_
              refine sr ?_
              refine va (.int .i64 0) ?_
              refine wln ?_
              refine W.block ?_
              obtain ⟨o_110, h140, H141⟩ := bs H91
              refine W.loop (σ := Int) (τ := (Sto × Bool) ⊕ Unit) (fun s_110 => fun e w => ∃ (c : Cx) (g : Nat → Value), w = c.w ∧ c138.le c ∧ Own c G134 (F) ∧ e = ups g [(0, v1), (2, .int .i64 (imin p2 (w64 ((p0.length : Int) - p1)))), (7, v72), (12, .int .i64 s_110)]) (fun t => match t with | .inl x_ => (fun rr_ ex e w => ex = .ret ∧ (fun e w => ∃ (c : Cx) (g : Nat → Value) (G_ : Gm), w = c.w ∧ c138.le c ∧ Own c G_ (F) ∧ e = ups g [(6, .bool rr_.2)] ∧ Rel c rr_.1 G_) e w) x_ | .inr x_ => (fun o_110_ ex e w => ex = .exit 2 ∧ (fun e w => ∃ (c : Cx) (g : Nat → Value), w = c.w ∧ c138.le c ∧ Own c G134 (F) ∧ e = ups g []) e w) x_) ?_ h140 ?_ ?_
              · clear H141 h140
                intro s_110 xx_ ee_ ww_ H91
                revert ee_ ww_
                rintro e_ w_ ⟨c142, g143, rfl, l142, O144, rfl⟩
                refine W.seq ?_
                refine sr ?_
                refine va (.int .i64 s_110) ?_
                refine va (v1) ?_
                refine WL.val0 (v := .int .i64 (p0.length : Int)) rfl (rx (by kernel_rfl) (run_len (ty := 3) Tryd.underlying22 (h2.mono (l50.trans (l80.trans (l88.trans (l127.trans (l138.trans l142)))))) _)) ?_
                refine va (.bool (decide (s_110 < (p0.length : Int)))) ?_
                refine wln ?_
                refine W.cond (t := decide (s_110 < (p0.length : Int))) (by kernel_rfl) (fun h148 => ?_) (fun h148 => ?_)
                · have H91 := it h148 H91
                  refine W.skip ?_
                  refine nrm ?_
                  refine W.seq ?_
                  refine W.block ?_
                  refine sr ?_
                  refine va (v72) ?_
                  refine va (.int .i64 s_110) ?_
                  obtain ⟨x_118, h149, H91⟩ := bs H91
                  refine WL.callP rfl (by kernel_rfl) (c_row_Row_Cell O144 (R136.mono l142) x_56.2.1 s_110 (h73.mono (l88.trans (l127.trans (l138.trans l142)))) h149) ?_
                  rintro v158 c157 l157 ⟨v150, u151, O154, rfl, h152⟩
                  refine va (.tuple #[.agg #[.int .i64 x_118.1.Kind, v150], .bool x_118.2]) ?_
                  refine va (.agg #[.int .i64 x_118.1.Kind, v150]) ?_
                  refine va (.bool x_118.2) ?_
                  refine WL.mem rfl (Own.al (T := 27) (vs := [.int .i64 0, .slice none 0 0]) O154 (by kernel_rfl)) ?_
                  rintro v162 c161 l161 ⟨b159, rfl, O160⟩
                  obtain ⟨a163, a164, a165, rfl⟩ := ((h152.mono l161)).form
                  refine WL.memD rfl (Own.st (T := 27) (j := 0) (us := [.int .i64 x_118.1.Kind, .slice a163 a164 a165]) (nw := [.int .i64 x_118.1.Kind, .slice a163 a164 a165]) (v := .agg #[.int .i64 x_118.1.Kind, .slice a163 a164 a165]) 0 O160 (by kernel_rfl) rfl rfl rfl rfl (by kernel_rfl) ⟨rfl, ((h152.mono l161)).one, trivial⟩ rfl rfl) ?_
                  rintro c167 l167 O166
                  refine va (.bool x_118.2) ?_
                  refine wln ?_
                  refine sr ?_
                  refine va (v1) ?_
                  refine va (.int .i64 s_110) ?_
                  obtain ⟨x_128, h168, H91⟩ := bs H91
                  obtain ⟨l_169, h170, m171⟩ := Sl.at (h2.mono (l50.trans (l80.trans (l88.trans (l127.trans (l138.trans (l142.trans (l157.trans (l161.trans l167))))))))) (idx_get h168)
                  obtain ⟨v172, rfl, h173⟩ := h170
                  refine WL.val0 (v := .pointer (some ⟨sb v1, so v1 + s_110.toNat * 2, none⟩)) rfl (rx (by kernel_rfl) (run_index (k := .i64) Tryd.underlying22 (by kernel_rfl) (h2.mono (l50.trans (l80.trans (l88.trans (l127.trans (l138.trans (l142.trans (l157.trans (l161.trans l167))))))))) h168 _)) ?_
                  refine WL.val0 (v := .agg #[.int .i64 x_128.Kind, v172]) rfl (rx (by kernel_rfl) (run_loadN (T := 27) (by kernel_rfl) (by kernel_rfl) m171)) ?_
                  refine WL.mem rfl (Own.al (T := 27) (vs := [.int .i64 0, .slice none 0 0]) O166 (by kernel_rfl)) ?_
                  rintro v177 c176 l176 ⟨b174, rfl, O175⟩
                  obtain ⟨a178, a179, a180, rfl⟩ := ((h173.mono l176)).form
                  refine WL.memD rfl (Own.st (T := 27) (j := 0) (us := [.int .i64 x_128.Kind, .slice a178 a179 a180]) (nw := [.int .i64 x_128.Kind, .slice a178 a179 a180]) (v := .agg #[.int .i64 x_128.Kind, .slice a178 a179 a180]) 0 O175 (by kernel_rfl) rfl rfl rfl rfl (by kernel_rfl) ⟨rfl, (h173.mono l176).one, trivial⟩ rfl rfl) ?_
                  rintro c182 l182 O181
                  refine wln ?_
                  obtain ⟨z_133, H183, H184⟩ := bs H91
                  refine W.seqJ (fun e w => ∃ (c : Cx) (g : Nat → Value) (v185 : Value), w = c.w ∧ c182.le c ∧ Own c G134 (⟨.pointer (some ⟨b174, 0, none⟩), 27, [.int .i64 z_133.1, v185], 0⟩ :: ⟨.pointer (some ⟨b159, 0, none⟩), 27, [.int .i64 x_118.1.Kind, .slice a163 a164 a165], 0⟩ :: es true (RI .i32) (.slice a163 a164 a165) 21 u151 x_118.1.Text :: F) ∧ e = ups g [(0, v1), (2, .int .i64 (imin p2 (w64 ((p0.length : Int) - p1)))), (7, v72), (12, .int .i64 s_110), (13, .pointer (some ⟨b159, 0, none⟩)), (15, .pointer (some ⟨b174, 0, none⟩))] ∧ Sl (RI .i32) c v185 z_133.2) ?_ ?_
                  · skip
                    refine W.seq ?_
                    obtain ⟨d_140, h186, H183⟩ := bs H183
                    refine W.join (fun e w => ∃ (c : Cx) (g : Nat → Value), w = c.w ∧ c182.le c ∧ Own c G134 (⟨.pointer (some ⟨b174, 0, none⟩), 27, [.int .i64 x_128.Kind, .slice a178 a179 a180], 0⟩ :: ⟨.pointer (some ⟨b159, 0, none⟩), 27, [.int .i64 x_118.1.Kind, .slice a163 a164 a165], 0⟩ :: es true (RI .i32) (.slice a163 a164 a165) 21 u151 x_118.1.Text :: F) ∧ e = ups g [(0, v1), (2, .int .i64 (imin p2 (w64 ((p0.length : Int) - p1)))), (7, v72), (12, .int .i64 s_110), (13, .pointer (some ⟨b159, 0, none⟩)), (15, .pointer (some ⟨b174, 0, none⟩)), (130, .bool d_140)]) ?_ ?_
                    · clear H183
                      refine W.region ?_
                      refine va (.int .i64 s_110) ?_
                      refine va (v1) ?_
                      refine WL.val0 (v := .int .i64 (p0.length : Int)) rfl (rx (by kernel_rfl) (run_len (ty := 3) Tryd.underlying22 (h2.mono (l50.trans (l80.trans (l88.trans (l127.trans (l138.trans (l142.trans (l157.trans (l161.trans (l167.trans (l176.trans l182))))))))))) _)) ?_
                      refine va (.int .i64 (imin p2 (w64 ((p0.length : Int) - p1)))) ?_
                      refine va (.int .i64 (w64 ((p0.length : Int) - (imin p2 (w64 ((p0.length : Int) - p1)))))) ?_
                      refine va (.bool (decide (s_110 ≥ (w64 ((p0.length : Int) - (imin p2 (w64 ((p0.length : Int) - p1)))))))) ?_
                      rcases Bool.eq_false_or_eq_true (decide (s_110 ≥ (w64 ((p0.length : Int) - (imin p2 (w64 ((p0.length : Int) - p1))))))) with h187 | h187
                      · skip
                        obtain rfl := orT h187 h186
                        refine vb h187 ?_
                        refine ps ?_
                        refine ps ?_
                        refine ps ?_
                        refine ps ?_
                        refine ps ?_
                        refine ps ?_
                        refine ps ?_
                        refine ps ?_
                        refine ps ?_
                        refine ps ?_
                        refine ps ?_
                        refine ps ?_
                        refine ps ?_
                        refine ps ?_
                        refine ps ?_
                        refine va (.bool true) ?_
                        refine wln ?_
                        exact ⟨c182, _, rfl, (Cx.le.refl _), O181, ups_self ⟨rfl, rfl, rfl, rfl, rfl, rfl, rfl, trivial⟩⟩
                      · skip
                        have H188 := orF h187 h186
                        refine vb h187 ?_
                        refine wn ?_
                        refine va (.int .i64 s_110) ?_
                        refine wn ?_
                        refine va (.int .i64 (w64 (s_110 + 1))) ?_
                        refine wn ?_
                        refine va (v1) ?_
                        refine wn ?_
                        refine WL.val0 (v := .int .i64 (p0.length : Int)) rfl (rx (by kernel_rfl) (run_len (ty := 3) Tryd.underlying22 (h2.mono (l50.trans (l80.trans (l88.trans (l127.trans (l138.trans (l142.trans (l157.trans (l161.trans (l167.trans (l176.trans l182))))))))))) _)) ?_
                        refine wn ?_
                        refine va (.int .i64 (imin p2 (w64 ((p0.length : Int) - p1)))) ?_
                        refine wn ?_
                        refine va (.int .i64 (w64 ((p0.length : Int) - (imin p2 (w64 ((p0.length : Int) - p1)))))) ?_
                        refine wn ?_
                        refine va (.bool ((w64 (s_110 + 1)) == (w64 ((p0.length : Int) - (imin p2 (w64 ((p0.length : Int) - p1))))))) ?_
                        refine wn ?_
                        obtain ⟨d_149, h189, H188⟩ := bs H188
                        rcases Bool.eq_false_or_eq_true ((w64 (s_110 + 1)) == (w64 ((p0.length : Int) - (imin p2 (w64 ((p0.length : Int) - p1)))))) with h190 | h190
                        · skip
                          have H191 := anT h190 h189
                          refine vb h190 ?_
                          refine wn ?_
                          refine va (v1) ?_
                          refine wn ?_
                          refine va (.int .i64 s_110) ?_
                          refine wn ?_
                          obtain ⟨x_153, h192, H191⟩ := bs H191
                          obtain ⟨l_193, h194, m195⟩ := Sl.at (h2.mono (l50.trans (l80.trans (l88.trans (l127.trans (l138.trans (l142.trans (l157.trans (l161.trans (l167.trans (l176.trans l182))))))))))) (idx_get h192)
                          obtain ⟨v196, rfl, h197⟩ := h194
                          refine WL.val0 (v := .pointer (some ⟨sb v1, so v1 + s_110.toNat * 2, none⟩)) rfl (rx (by kernel_rfl) (run_index (k := .i64) Tryd.underlying22 (by kernel_rfl) (h2.mono (l50.trans (l80.trans (l88.trans (l127.trans (l138.trans (l142.trans (l157.trans (l161.trans (l167.trans (l176.trans l182))))))))))) h192 _)) ?_
                          refine wn ?_
                          refine va (.pointer (some ⟨sb v1, so v1 + s_110.toNat * 2, none⟩)) ?_
                          refine wn ?_
                          refine WL.val0 (v := .int .i64 x_153.Kind) rfl (rx (by kernel_rfl) (run_load1 Tryd.underlying3 rfl (m195 0 _ rfl))) ?_
                          refine wn ?_
                          refine va (.bool (x_153.Kind == 2)) ?_
                          refine wn ?_
                          obtain rfl := Option.some.inj H191
                          refine va (.bool (x_153.Kind == 2)) ?_
                          obtain rfl := Option.some.inj H188
                          refine va (.bool (x_153.Kind == 2)) ?_
                          refine wln ?_
                          exact ⟨c182, _, rfl, (Cx.le.refl _), O181, ups_self ⟨rfl, rfl, rfl, rfl, rfl, rfl, rfl, trivial⟩⟩
                        · skip
                          obtain rfl := anF h190 h189
                          refine vb h190 ?_
                          refine ps ?_
                          refine ps ?_
                          refine ps ?_
                          refine ps ?_
                          refine ps ?_
                          refine ps ?_
                          refine wn ?_
                          refine va (.bool false) ?_
                          obtain rfl := Option.some.inj H188
                          refine va (.bool false) ?_
                          refine wln ?_
                          exact ⟨c182, _, rfl, (Cx.le.refl _), O181, ups_self ⟨rfl, rfl, rfl, rfl, rfl, rfl, rfl, trivial⟩⟩
                    · skip
                      rintro e_ w_ ⟨c198, g199, rfl, l198, O200, rfl⟩
                      refine nrm ?_
                      refine W.cond (t := d_140) (by kernel_rfl) (fun h204 => ?_) (fun h204 => ?_)
                      · have H183 := it h204 H183
                        refine W.region ?_
                        refine va (.agg #[.int .i64 0, .slice none 0 0]) ?_
                        refine WL.memD rfl (Own.st (T := 27) (j := 0) (us := [.int .i64 0, .slice none 0 0]) (nw := [.int .i64 0, .slice none 0 0]) (v := .agg #[.int .i64 0, .slice none 0 0]) 0 O200 (by kernel_rfl) rfl rfl rfl rfl (by kernel_rfl) ⟨rfl, rfl, trivial⟩ rfl rfl) ?_
                        rintro c206 l206 O205
                        refine wln ?_
                        obtain rfl := Option.some.inj H183
                        exact ⟨c206, _, (.slice none 0 0), rfl, (l198.trans l206), O205, ups_self ⟨rfl, rfl, rfl, rfl, rfl, rfl, trivial⟩, (Sl.nl _ _)⟩
                      · have H183 := ie h204 H183
                        refine W.skip ?_
                        refine nrm ?_
                        obtain rfl := Option.some.inj H183
                        exact ⟨c198, _, (.slice a178 a179 a180), rfl, l198, O200, ups_self ⟨rfl, rfl, rfl, rfl, rfl, rfl, trivial⟩, (h173.mono (l176.trans (l182.trans l198)))⟩
                  · skip
                    rintro e_ w_ ⟨c207, g208, v185, rfl, l207, O209, rfl, h210⟩
                    refine sr ?_
                    refine WL.val0 (v := .agg #[.int .i64 x_118.1.Kind, .slice a163 a164 a165]) rfl (rx (by kernel_rfl) (ldEN (T := 27) (j := 0) (l := [.int .i64 x_118.1.Kind, .slice a163 a164 a165]) (by kernel_rfl) (by kernel_rfl) (O209.on 1 rfl) rfl rfl)) ?_
                    obtain ⟨c216, h217, l216, O214, h215⟩ := O209.frz 2 rfl (h152.mono (l161.trans (l167.trans (l176.trans (l182.trans l207)))))
                    refine WL.gh h217 ?_
                    refine WL.mem rfl (Own.sl (R := R_api_Cell) (E := 27) (ls := [[.int .i64 x_118.1.Kind, .slice a163 a164 a165]]) (vs := [.int .i64 x_118.1.Kind, .slice a163 a164 a165]) (xs := ([x_118.1] : List G_api_Cell)) true O214 (Nat.succ_pos _) rfl ⟨⟨(.slice a163 a164 a165), rfl, h215⟩, trivial⟩ (by kernel_rfl) (by kernel_rfl)) ?_
                    rintro v222 c221 l221 ⟨u219, O218, h220⟩
                    refine WL.val0 (v := .agg #[.int .i64 z_133.1, v185]) rfl (rx (by kernel_rfl) (ldEN (T := 27) (j := 0) (l := [.int .i64 z_133.1, v185]) (by kernel_rfl) (by kernel_rfl) (O218.on 1 rfl) rfl rfl)) ?_
                    obtain ⟨a223, a224, a225, rfl⟩ := ((h210.mono (l216.trans l221))).form
                    refine WL.mem rfl (Own.sl (R := R_api_Cell) (E := 27) (ls := [[.int .i64 z_133.1, .slice a223 a224 a225]]) (vs := [.int .i64 z_133.1, .slice a223 a224 a225]) (xs := ([(⟨z_133.1, z_133.2⟩ : G_api_Cell)] : List G_api_Cell)) true O218 (Nat.succ_pos _) rfl ⟨⟨(.slice a223 a224 a225), rfl, (h210.mono (l216.trans l221))⟩, trivial⟩ (by kernel_rfl) (by kernel_rfl)) ?_
                    rintro v230 c229 l229 ⟨u227, O226, h228⟩
                    obtain ⟨c233, h234, l233, O231, h232⟩ := O226.frz 1 rfl (h220.mono l229)
                    refine WL.gh h234 ?_
                    obtain ⟨c237, h238, l237, O235, h236⟩ := O231.frz 0 rfl (h228.mono l233)
                    refine WL.gh h238 ?_
                    obtain ⟨x_165, h239, H184⟩ := bs H184
                    refine WL.callP rfl (by kernel_rfl) (c_linotyperef23_Same O235 ([x_118.1] : List G_api_Cell) ([(⟨z_133.1, z_133.2⟩ : G_api_Cell)] : List G_api_Cell) (h232.mono l237) h236 h239) ?_
                    rintro v245 c244 l244 ⟨O241, rfl⟩
                    refine va (.bool (!x_165)) ?_
                    refine wln ?_
                    refine W.cond (t := !x_165) (by kernel_rfl) (fun h246 => ?_) (fun h246 => ?_)
                    · have H184 := it h246 H184
                      refine sr ?_
                      refine va (.bool false) ?_
                      refine wln ?_
                      refine W.ret ?_
                      refine bkr ?_
                      refine thr ?_
                      obtain rfl := Option.some.inj H184
                      refine ⟨_, rfl, ?_⟩
                      refine ⟨rfl, ?_⟩
                      have O247 := O241.selD 5 [] (by kernel_rfl) (by kernel_rfl)
                      exact ⟨c244, _, G134, rfl, (l142.trans (l157.trans (l161.trans (l167.trans (l176.trans (l182.trans (l207.trans (l216.trans (l221.trans (l229.trans (l233.trans (l237.trans l244)))))))))))), O247, ups_self ⟨rfl, trivial⟩, (R136.mono (l142.trans (l157.trans (l161.trans (l167.trans (l176.trans (l182.trans (l207.trans (l216.trans (l221.trans (l229.trans (l233.trans (l237.trans l244)))))))))))))⟩
                    · have H184 := ie h246 H184
                      refine W.skip ?_
                      refine bkn ?_
                      refine nrm ?_
                      refine W.region ?_
                      refine va (.int .i64 s_110) ?_
                      refine va (.int .i64 (w64 (s_110 + 1))) ?_
                      refine va (.int .i64 (w64 (s_110 + 1))) ?_
                      refine WL.nil ?_
                      obtain rfl := Option.some.inj H184
                      refine ⟨_, rfl, ?_⟩
                      have O248 := O241.selD 5 [] (by kernel_rfl) (by kernel_rfl)
                      exact ⟨c244, _, rfl, (l142.trans (l157.trans (l161.trans (l167.trans (l176.trans (l182.trans (l207.trans (l216.trans (l221.trans (l229.trans (l233.trans (l237.trans l244)))))))))))), O248, ups_self ⟨rfl, rfl, rfl, rfl, trivial⟩⟩
                · have H91 := ie h148 H91
                  refine W.exit ?_
                  refine thx ?_
                  obtain rfl := Option.some.inj H91
                  refine ⟨_, rfl, rfl, ?_⟩
                  exact ⟨c142, _, rfl, l142, O144, ups_self trivial⟩
              · skip
                exact ⟨c138, _, rfl, (Cx.le.refl _), O135, ups_self ⟨rfl, rfl, rfl, rfl, trivial⟩⟩
              · skip
                rcases o_110 with o_110 | o_110
                · skip
                  intro ex_; revert ex_
                  rintro _ e_ w_ ⟨rfl, c249, g250, G252, rfl, l249, O251, rfl, R253⟩
                  refine bkr ?_
                  refine thr ?_
                  obtain rfl := Option.some.inj H141
                  exact ret1 (v := .bool o_110.2) rfl (by kernel_rfl) ⟨_, c249, rfl, rfl, (l50.trans (l80.trans (l88.trans (l127.trans (l138.trans l249))))), G252, O251, R253, rfl⟩
                · skip
                  rintro _ e_ w_ ⟨rfl, c255, g256, rfl, l255, O257, rfl⟩
                  refine bke ?_
                  refine nrm ?_
                  refine sr ?_
                  refine va (.bool true) ?_
                  refine wln ?_
                  refine W.ret ?_
                  obtain rfl := Option.some.inj H141
                  exact ret1 (v := .bool true) rfl (by kernel_rfl) ⟨_, c255, rfl, rfl, (l50.trans (l80.trans (l88.trans (l127.trans (l138.trans l255))))), G134, O257, (R136.mono l255), rfl⟩

end Go.Proofs.YtohpkblleihmaaaDoor
