import Derived.Test.YthokmpbbkpjhbaaGreatDoorMq
import Derived.Test.YthokmpbbkpjhbaaGreatDoorProg
import Derived.Test.YthokmpbbkpjhbaaGreatDoorMy
import Derived.Test.YthokmpbbkpjhbaaGreatDoorMz
import Derived.Test.YthokmpbbkpjhbaaGreatDoorA1
import Derived.Test.YthokmpbbkpjhbaaGreatDoorG1
import Derived.Test.YthokmpbbkpjhbaaGreatDoorM1
namespace Go.Proofs.YthokmpbbkpjhbaaGreatDoor
open Go Go.Lt
set_option maxRecDepth 10000
set_option linter.unusedVariables false
attribute [local irreducible] W WL AC
open Tryz
variable {c0 : Cx} {G : Gm} {F : List En} {sg : Sto} {v1 v2 v3 v4 v5 v6 v7 v8 v9 v10 v11 v12 v13 v14 v15 v16 v17 v18 v19 v20 v21 v22 v23 v24 v25 v26 v27 v28 v29 v30 v31 v32 v33 v34 v35 v36 v37 v38 v39 v40 v41 v42 v43 v44 v45 v46 v47 v48 v49 v50 v51 v52 v53 v54 v55 v56 v57 v58 v59 v60 : Value}
def f_grid_New (sg : Sto) (p0 : Int) (p1 : Int) : Option (Sto × (Option Nat)) :=
 (some (sg.add_grid_Grid (⟨([] : List (Option Nat))⟩ : G_grid_Grid))).bind fun s_4001 =>
 (iter (σ := Int × Sto) (τ := Sto) (((imax 1 (imin p1 1024)) - 0).toNat + 1) (fun s_12 =>
 if (decide (s_12.1 < (imax 1 (imin p1 1024)))) = true then
 (s_12.2.grid_Grid[sg.grid_Grid.length]?).bind fun o_19 =>
 (f_row_New s_12.2 p0).bind fun x_21 =>
 (app o_19.rows ([x_21.2] : List (Option Nat))).bind fun x_23 =>
 (x_21.1.set_grid_Grid sg.grid_Grid.length (⟨x_23⟩ : G_grid_Grid)).bind fun s_26001 =>
 some (.inl ((w64 (s_12.1 + 1)), s_26001))
 else
 some (.inr (s_12.2))) (0, s_4001)).bind fun o_12 =>
 some (o_12, (some sg.grid_Grid.length))
theorem c_grid_New (O0 : Own c0 G F) (R0 : Rel c0 sg G) (p0 : Int) (p1 : Int) {r : Sto × (Option Nat)} (H : f_grid_New sg p0 p1 = some r) :
    Calls Tryz.prog 114 #[.int .i64 p0, .int .i64 p1] c0.w (Post c0 fun c v => ∃ y1, ∃ G_ : Gm, Own c G_ (F) ∧ Rel c r.1 G_ ∧ Adds G G_ ∧ v = y1 ∧ Pt 1 c y1 r.2) := by
 unfold f_grid_New at H
 refine en func114 rfl rfl (sr (va (.pointer none) (wln (sr (va (.agg #[.slice none 0 0]) ?_)))))
 have h2 : OA (RP 0) c0 (.slice none 0 0) [] [] := OA.nil (Nat.succ_pos _)
 have O1 := O0.addHole (e := es true (RP 0) (.slice none 0 0) 116 [] ([] : List (Option Nat))) rfl
 refine me (al 122 [(.slice none 0 0)] O1) ?_
 rintro v6 c5 l5 ⟨b3, rfl, O4⟩
 have O7 := O4.sD 2 [0, 1]
 refine bn H fun s_4001 h8 H => ?_
 obtain ⟨c9, G17, h10, l9, h11, O12, R13, h14, h15, a16⟩ := Rel.new_grid_Grid (E := [⟨.pointer (some ⟨b3, 0, none⟩), 122, [(.slice none 0 0)], 0⟩, es true (RP 0) (.slice none 0 0) 116 [] ([] : List (Option Nat))]) (F := F) (x := (⟨([] : List (Option Nat))⟩ : G_grid_Grid)) (b := b3) O7 (R0.mono l5) (fun c_ hle_ => ⟨b3, (.slice none 0 0), [], rfl, rfl, ((h2.mono l5).mono hle_)⟩)
 rw [Option.some.inj h8] at R13
 refine WL.gh h10.1 ?_
 have h18 := Adds.nil (Adds.refl _) h15
 have a19 := (Adds.refl _).trans a16
 have h21 : Pt 1 c9 (.pointer (some ⟨b3, 0, none⟩)) (some sg.grid_Grid.length) := ⟨b3, rfl, h11⟩
 refine va (.pointer (some ⟨b3, 0, none⟩)) (wln (W.seq (sr (va (.int .i64 p1) (va (.int .i64 (imin p1 1024)) (va (.int .i64 (imax 1 (imin p1 1024))) (va (.int .i64 0) (wln (W.block (bn H fun o_12 h22 H23 => lp h22 (fun s_12 => Jn c9 fun c l => ∃ G_, Own c G_ (F) ∧ l = [(0, .int .i64 p0), (5, .pointer (some ⟨b3, 0, none⟩)), (10, .int .i64 (imax 1 (imin p1 1024))), (11, .int .i64 s_12.1)] ∧ Rel c s_12.2 G_ ∧ Adds G G_) (fun o_12_ ex e w => ex = .exit 0 ∧ (Jn c9 fun c l => ∃ G_, Own c G_ (F) ∧ l = [(5, .pointer (some ⟨b3, 0, none⟩))] ∧ Rel c o_12_ G_ ∧ Adds G G_) e w) ?_ ?_ ?_))))))))))
 ·clear H23 h22
  intro s_12 xx_ ee_ ww_ H
  revert ee_ ww_
  rintro e_ w_ ⟨c24, g25, _, rfl, l24, rfl, G27, O26, rfl, R28, a29⟩
  refine sr (va (.bool (decide (s_12.1 < (imax 1 (imin p1 1024))))) (wln (W.seq (cn H (fun h30 H => ?_) (fun h30 H => ?_)))))
  ·refine W.skip (nrm (W.seq (W.block (rD [8, 11] (Kp G27 []) O26 ?_))))
   intro c31 l31 O32
   have p33 : Kp G27 [] c31 := (Kp.nil O32)
   refine ta 0 (.pointer (some ⟨b3, 0, none⟩)) (ta 1 (.pointer (some ⟨b3, 0, none⟩)) (ta 2 (.pointer (some ⟨b3, 0, none⟩)) (ta 3 (.pointer (some ⟨b3, 0, none⟩)) (bn H fun o_19 h34 H => ?_))))
   obtain ⟨v35, u36, h38, h37⟩ := Rel.open_grid_Grid (R28.mono l31) h34 (tm h11)
   refine tkx 4 p33 (fun c' hle hk => le1 0 underlying120 (hk.gon h38 0 rfl)) (ta 5 (.int .i64 p0) (bn H fun x_21 h39 H => o1 6 (gc 6 (c_row_New O32 R28.m p0 h39) ?_)))
   rintro v40 c46 l46 ⟨_, G42, O43, R44, a45, rfl, h41⟩
   have a48 := a29.trans a45
   have p49 : Kp G27 [] c46 := (Kp.adds O43 a45)
   refine ⟨.inr p49, ?_⟩
   obtain ⟨a50, rfl⟩ := (h41).form
   refine o1 7 (gm 7 (sl (RP 0) 116 [[.pointer a50]] ([x_21.2] : List (Option Nat)) O43 ⟨⟨(.pointer a50), rfl, h41⟩, trivial⟩) ?_)
   rintro v55 c54 l54 ⟨u52, O51, h53⟩
   have p56 : Kp G27 [] c54 := (Kp.adds O51 a45)
   refine ⟨.inr p56, ?_⟩
   obtain ⟨c59, h60, l59, O57, h58⟩ := O51.frz 0 rfl h53
   have p61 : Kp G27 [] c59 := (Kp.adds O57 a45)
   refine AC.gh h60 l59 (fun _ => p61) (bn H fun x_23 h62 H => ?_)
   have O63 := O57.borrow 1 (a45.get h38) rfl
   refine o1 8 (gm 8 (ap (RP 0) (.pointer none) 8 120 0 O63 h37.m h58 h62 underlying120) ?_)
   rintro v68 c67 l67 ⟨u65, O64, h66⟩
   have O69 := O64.giveB 1 rfl
   refine ⟨.inl rfl, ta 9 (.pointer (some ⟨b3, 0, none⟩)) (ta 10 (.pointer (some ⟨b3, 0, none⟩)) ?_)⟩
   obtain ⟨a70, a71, a72, rfl⟩ := (h66).form
   refine o1 11 (gD 11 (Own.stGB (T := 120) (j := 0) (us := [.slice a70 a71 a72]) (nw := [.slice a70 a71 a72]) (v := .slice a70 a71 a72) 0 O69 (by kernel_rfl) rfl rfl rfl rfl (by kernel_rfl) ⟨(h66).one, trivial⟩ (by kernel_rfl) rfl) ?_)
   rintro c75 l75 O74
   refine bn H fun s_26001 h80 H => ?_
   obtain ⟨G76, O77, R78, h79, a81⟩ := Rel.put_grid_Grid O74 (R44.mono (l54.trans (l59.trans (l67.trans l75)))) (E' := [⟨.pointer (some ⟨b3, 0, none⟩), 122, [.slice a70 a71 a72], 0⟩, es true (RP 0) (.slice a70 a71 a72) 116 u65 x_23]) h80 ⟨b3, (.slice a70 a71 a72), u65, ((l24.trans (l31.trans (l46.trans (l54.trans (l59.trans (l67.trans l75)))))).t _ _ _ h11), rfl, (h66.mono l75)⟩
   have a82 := a81 _ a48 h18
   refine ⟨.inl rfl, dn (bkn (nrm (W.region (va (.int .i64 (w64 (s_12.1 + 1))) (va (.int .i64 (w64 (s_12.1 + 1))) (WL.nil ?_))))))⟩
   obtain rfl := si H
   refine ⟨_, rfl, ?_⟩
   have O83 := O77.sD 1 []
   exact ⟨c75, _, _, rfl, pt, us, G76, O83, rfl, R78, a82⟩
  refine W.exit (thx ?_)
  obtain rfl := si H
  exact ⟨_, rfl, rfl, ⟨c24, _, _, rfl, pt, us, G27, O26, rfl, R28, a29⟩⟩
 ·exact ⟨c9, _, _, rfl, pt, us, G17, O12, rfl, R13, a19⟩
 rintro _ e_ w_ ⟨rfl, c84, g85, _, rfl, l84, rfl, G87, O86, rfl, R88, a89⟩
 refine bke (nrm (sr (va (.pointer (some ⟨b3, 0, none⟩)) (va (.pointer (some ⟨b3, 0, none⟩)) (wln (W.ret ?_))))))
 obtain rfl := si H23
 exact r1 ⟨_, c84, rfl, rfl, pt, (.pointer (some ⟨b3, 0, none⟩)), G87, O86, R88, a89, rfl, h21.m⟩
def f_place_New (sg : Sto) (p0 : Int) (p1 : Int) : Option (Sto × (Option Nat)) :=
 (f_grid_New sg p0 p1).bind fun x_5 =>
 (some (x_5.1.add_place_Pen (⟨x_5.2, (⟨0, 0, false⟩ : G_api_Cursor), true⟩ : G_place_Pen))).bind fun s_7001 =>
 some (s_7001, (some x_5.1.place_Pen.length))
theorem c_place_New (O0 : Own c0 G F) (R0 : Rel c0 sg G) (p0 : Int) (p1 : Int) {r : Sto × (Option Nat)} (H : f_place_New sg p0 p1 = some r) :
    Calls Tryz.prog 45 #[.int .i64 p0, .int .i64 p1] c0.w (Post c0 fun c v => ∃ y1, ∃ G_ : Gm, Own c G_ (F) ∧ Rel c r.1 G_ ∧ Adds G G_ ∧ v = y1 ∧ Pt 2 c y1 r.2) := by
 unfold f_place_New at H
 refine en func45 rfl rfl (sr (va (.pointer none) (wln (sr (va (.int .i64 p0) (va (.int .i64 p1) (bn H fun x_5 h1 H => cl (c_grid_New O0 R0 p0 p1 h1) ?_)))))))
 rintro v2 c8 l8 ⟨_, G4, O5, R6, a7, rfl, h3⟩
 have a10 := (Adds.refl _).trans a7
 obtain ⟨a11, rfl⟩ := (h3).form
 refine va (.agg #[.pointer a11, .int .i64 0, .int .i64 0, .bool false, .bool true]) (me (al 42 [.pointer a11, .int .i64 0, .int .i64 0, .bool false, .bool true] O5) ?_)
 rintro v15 c14 l14 ⟨b12, rfl, O13⟩
 have O16 := O13.sD 1 [0]
 refine bn H fun s_7001 h17 H => ?_
 obtain ⟨c18, G26, h19, l18, h20, O21, R22, h23, h24, a25⟩ := Rel.new_place_Pen (E := [⟨.pointer (some ⟨b12, 0, none⟩), 42, [.pointer a11, .int .i64 0, .int .i64 0, .bool false, .bool true], 0⟩]) (F := F) (x := (⟨x_5.2, (⟨0, 0, false⟩ : G_api_Cursor), true⟩ : G_place_Pen)) (b := b12) O16 (R6.mono l14) (fun c_ hle_ => ⟨b12, (.pointer a11), rfl, rfl, (h3.mono (l14.trans hle_))⟩)
 rw [Option.some.inj h17] at R22
 refine WL.gh h19.1 ?_
 have h27 := Adds.nil a10 h24
 have a28 := a10.trans a25
 have h30 : Pt 2 c18 (.pointer (some ⟨b12, 0, none⟩)) (some x_5.1.place_Pen.length) := ⟨b12, rfl, h20⟩
 refine va (.pointer (some ⟨b12, 0, none⟩)) (wln (W.ret ?_))
 obtain rfl := si H
 exact r1 ⟨_, c18, rfl, rfl, pt, (.pointer (some ⟨b12, 0, none⟩)), G26, O21, R22, a28, rfl, h30⟩
def f_linotyperef32_New (p0 : Int) (p1 : Int) : Option (List G_api_Line) :=
 (iter (σ := (List G_api_Line) × Int) (τ := (List G_api_Line)) ((p1 - 0).toNat + 1) (fun s_7 =>
 if (decide (s_7.2 < p1)) = true then
 (rep p0 (⟨0, ([] : List Int)⟩ : G_api_Cell)).bind fun x_14 =>
 (app s_7.1 ([(⟨x_14, false⟩ : G_api_Line)] : List G_api_Line)).bind fun x_17 =>
 some (.inl (x_17, (w64 (s_7.2 + 1))))
 else
 some (.inr (s_7.1))) (([] : List G_api_Line), 0)).bind fun o_7 =>
 some o_7
theorem c_linotyperef32_New (O0 : Own c0 G F) (p0 : Int) (p1 : Int) {r : List G_api_Line} (H : f_linotyperef32_New p0 p1 = some r) :
    Calls Tryz.prog 115 #[.int .i64 p0, .int .i64 p1] c0.w (Post c0 fun c v => ∃ y1 y2, Own c G (es true R_api_Line y1 71 y2 r :: F) ∧ v = y1 ∧ OA R_api_Line c y1 y2 r) := by
 unfold f_linotyperef32_New at H
 refine en func115 rfl rfl (sr (va (.slice none 0 0) (wln (sr (va (.slice none 0 0) (wln (W.seq (sr (va (.int .i64 0) (wln (W.block (bn H fun o_7 h1 H2 => lp h1 (fun s_7 => Jn c0 fun c l => ∃ v3 u4, Own c G (es true R_api_Line v3 71 u4 s_7.1 :: F) ∧ l = [(0, .int .i64 p0), (1, .int .i64 p1), (5, v3), (6, .int .i64 s_7.2)] ∧ OA R_api_Line c v3 u4 s_7.1) (fun o_7_ ex e w => ex = .exit 0 ∧ (Jn c0 fun c l => ∃ v5 u6, Own c G (es true R_api_Line v5 71 u6 o_7_ :: F) ∧ l = [(5, v5)] ∧ OA R_api_Line c v5 u6 o_7_) e w) ?_ ?_ ?_))))))))))))
 ·clear H2 h1
  intro s_7 xx_ ee_ ww_ H
  revert ee_ ww_
  rintro e_ w_ ⟨c7, g8, _, rfl, l7, rfl, v3, u4, O9, rfl, h10⟩
  refine W.seq (sr (va (.int .i64 s_7.2) (va (.int .i64 p1) (va (.bool (decide (s_7.2 < p1))) (wln (cn H (fun h14 H => ?_) (fun h14 H => ?_)))))))
  ·refine W.skip (nrm (W.seq (W.block (W.region (va (v3) (va (.int .i64 p0) (bn H fun x_14 h15 H => me (Own.mkS (kl := .i64) (kc := .i64) (R := R_api_Cell) (z := .agg #[.int .i64 0, .slice none 0 0]) (lz := [.int .i64 0, .slice none 0 0]) (x := (⟨0, ([] : List Int)⟩ : G_api_Cell)) (by_ := 32) (i := p0) (j := p0) true O9 (Nat.succ_pos _) h15 (Int.le_refl _) (rep_le h15) underlying69 (by kernel_rfl) rfl rfl (fun _ => ⟨(.slice none 0 0), rfl, (Sl.nl _ _)⟩) (by kernel_rfl) (by kernel_rfl)) ?_)))))))
   rintro v20 c19 l19 ⟨u17, O16, h18⟩
   obtain ⟨a21, a22, a23, rfl⟩ := (h18).form
   refine va (.agg #[.slice a21 a22 a23, .bool false]) ?_
   obtain ⟨c26, h27, l26, O24, h25⟩ := O16.frz 0 rfl h18
   refine WL.gh h27 (me (sl R_api_Line 71 [[.slice a21 a22 a23, .bool false]] ([(⟨x_14, false⟩ : G_api_Line)] : List G_api_Line) O24 ⟨⟨(.slice a21 a22 a23), rfl, h25⟩, trivial⟩) ?_)
   rintro v32 c31 l31 ⟨u29, O28, h30⟩
   obtain ⟨c35, h36, l35, O33, h34⟩ := O28.frz 0 rfl h30
   refine WL.gh h36 (bn H fun x_17 h37 H => me (ap R_api_Line (.agg #[.slice none 0 0, .bool false]) 32 22 2 O33 h10.m h34 h37 underlying22) ?_)
   rintro v42 c41 l41 ⟨u39, O38, h40⟩
   refine va (v42) (WL.nil (bkn (nrm (W.region (va (.int .i64 s_7.2) (va (.int .i64 (w64 (s_7.2 + 1))) (va (.int .i64 (w64 (s_7.2 + 1))) (WL.nil ?_))))))))
   obtain rfl := si H
   refine ⟨_, rfl, ?_⟩
   have O43 := O38.sD 3 [2]
   exact ⟨c41, _, _, rfl, pt, us, v42, u39, O43, rfl, h40⟩
  refine W.exit (thx ?_)
  obtain rfl := si H
  exact ⟨_, rfl, rfl, ⟨c7, _, _, rfl, pt, us, v3, u4, O9, rfl, h10⟩⟩
 ·have h45 : OA R_api_Line c0 (.slice none 0 0) [] [] := OA.nil (Nat.succ_pos _)
  have O44 := O0.addHole (e := es true R_api_Line (.slice none 0 0) 71 [] ([] : List G_api_Line)) rfl
  exact ⟨c0, _, _, rfl, pt, us, (.slice none 0 0), [], O44, rfl, h45⟩
 rintro _ e_ w_ ⟨rfl, c46, g47, _, rfl, l46, rfl, v5, u6, O48, rfl, h49⟩
 refine bke (nrm (sr (va (v5) (va (v5) (wln (W.ret ?_))))))
 obtain rfl := si H2
 exact r1 ⟨_, c46, rfl, rfl, pt, v5, u6, O48, rfl, h49⟩
def f_linotyperef34_New (p0 : Int) (p1 : Int) : Option (G_linotyperef34_Pen) :=
 (f_linotyperef32_New p0 p1).bind fun x_5 =>
 some (⟨x_5, (⟨0, 0, false⟩ : G_api_Cursor), true⟩ : G_linotyperef34_Pen)
theorem c_linotyperef34_New (O0 : Own c0 G F) (p0 : Int) (p1 : Int) {r : G_linotyperef34_Pen} (H : f_linotyperef34_New p0 p1 = some r) :
    Calls Tryz.prog 46 #[.int .i64 p0, .int .i64 p1] c0.w (Post c0 fun c v => ∃ y1 y2, Own c G (es true R_api_Line y1 71 y2 r.L :: F) ∧ v = .agg #[y1, .int .i64 r.At.Row, .int .i64 r.At.Col, .bool r.At.Pending, .bool r.Auto] ∧ OA R_api_Line c y1 y2 r.L) := by
 unfold f_linotyperef34_New at H
 refine en func46 rfl rfl (sr (me (al 43 [.slice none 0 0, .int .i64 0, .int .i64 0, .bool false, .bool false] O0) ?_))
 rintro v4 c3 l3 ⟨b1, rfl, O2⟩
 refine wln (sr (va (.int .i64 p0) (va (.int .i64 p1) (bn H fun x_5 h5 H => cl (c_linotyperef32_New O2 p0 p1 h5) ?_))))
 rintro v6 c13 l13 ⟨_, u7, O10, rfl, h8⟩
 obtain ⟨a15, a16, a17, rfl⟩ := (h8).form
 refine va (.agg #[.slice a15 a16 a17, .int .i64 0, .int .i64 0, .bool false, .bool true]) (md (sA 43 [.slice a15 a16 a17, .int .i64 0, .int .i64 0, .bool false, .bool true] 1 O10 ⟨(h8).one, rfl, rfl, rfl, rfl, trivial⟩) ?_)
 rintro c19 l19 O18
 refine wln (W.ret ?_)
 obtain rfl := si H
 have O20 := O18.sD 2 [0]
 exact retC (c := c19) (vs := [.slice a15 a16 a17, .int .i64 0, .int .i64 0, .bool false, .bool true]) rfl (by kernel_rfl) (by kernel_rfl) (by kernel_rfl) (O18.on 1 rfl _ rfl).1 ⟨_, c19, rfl, rfl, pt, (.slice a15 a16 a17), u7, O20, rfl, h8.m⟩
def f_cursor_side (p0 : Int) : Option (Int) :=
 some (imax 1 (imin p0 1024))
theorem c_cursor_side (O0 : Own c0 G F) (p0 : Int) {r : Int} (H : f_cursor_side p0 = some r) :
    Calls Tryz.prog 168 #[.int .i64 p0] c0.w (Post c0 fun c v => Own c G (F) ∧ v = .int .i64 r) := by
 unfold f_cursor_side at H
 refine en func168 rfl rfl (sr (va (.int .i64 0) (wln (sr (va (.int .i64 p0) (va (.int .i64 (imin p0 1024)) (va (.int .i64 (imax 1 (imin p0 1024))) (va (.int .i64 (imax 1 (imin p0 1024))) (wln (W.ret ?_))))))))))
 obtain rfl := si H
 exact r1 ⟨_, c0, rfl, rfl, pt, O0, rfl⟩
def f_cursor_held (p0 : Int) (p1 : Int) : Option (Int) :=
 some (imax 0 (imin p0 (w64 (p1 - 1))))
theorem c_cursor_held (O0 : Own c0 G F) (p0 : Int) (p1 : Int) {r : Int} (H : f_cursor_held p0 p1 = some r) :
    Calls Tryz.prog 169 #[.int .i64 p0, .int .i64 p1] c0.w (Post c0 fun c v => Own c G (F) ∧ v = .int .i64 r) := by
 unfold f_cursor_held at H
 refine en func169 rfl rfl (sr (va (.int .i64 0) (wln (sr (va (.int .i64 p0) (va (.int .i64 p1) (va (.int .i64 (w64 (p1 - 1))) (va (.int .i64 (imin p0 (w64 (p1 - 1)))) (va (.int .i64 (imax 0 (imin p0 (w64 (p1 - 1))))) (va (.int .i64 (imax 0 (imin p0 (w64 (p1 - 1))))) (wln (W.ret ?_))))))))))))
 obtain rfl := si H
 exact r1 ⟨_, c0, rfl, rfl, pt, O0, rfl⟩
def f_cursor_Hold (p0 : G_api_Cursor) (p1 : Int) (p2 : Int) : Option (G_api_Cursor) :=
 (f_cursor_side p1).bind fun x_5 =>
 (f_cursor_side p2).bind fun x_7 =>
 (f_cursor_held p0.Row x_7).bind fun x_19 =>
 (f_cursor_held p0.Col x_5).bind fun x_20 =>
 (andE p0.Pending (some (p0.Col == (w64 (x_5 - 1))))).bind fun d_21 =>
 some (⟨x_19, x_20, d_21⟩ : G_api_Cursor)
theorem c_cursor_Hold (O0 : Own c0 G F) (p0 : G_api_Cursor) (p1 : Int) (p2 : Int) {r : G_api_Cursor} (H : f_cursor_Hold p0 p1 p2 = some r) :
    Calls Tryz.prog 100 #[.agg #[.int .i64 p0.Row, .int .i64 p0.Col, .bool p0.Pending], .int .i64 p1, .int .i64 p2] c0.w (Post c0 fun c v => Own c G (F) ∧ v = .agg #[.int .i64 r.Row, .int .i64 r.Col, .bool r.Pending]) := by
 unfold f_cursor_Hold at H
 refine en func100 rfl rfl (sr (me (bx 24 [.int .i64 p0.Row, .int .i64 p0.Col, .bool p0.Pending] O0) ?_))
 rintro v5 c4 l4 ⟨b1, rfl, O2, m3⟩
 refine me (al 24 [.int .i64 0, .int .i64 0, .bool false] O2) ?_
 rintro v9 c8 l8 ⟨b6, rfl, O7⟩
 refine wln (sr (va (.int .i64 p1) (bn H fun x_5 h10 H => cl (c_cursor_side O7 p1 h10) ?_)))
 rintro v16 c15 l15 ⟨O12, rfl⟩
 refine va (.int .i64 p2) (bn H fun x_7 h17 H => cl (c_cursor_side O12 p2 h17) ?_)
 rintro v23 c22 l22 ⟨O19, rfl⟩
 refine va (.int .i64 x_5) (va (.int .i64 x_7) (wln (W.seq (bn H fun x_19 h24 H => bn H fun x_20 h25 H => bn H fun d_21 h26 H => W.join (Jn c22 fun c l => Own c G (⟨.pointer (some ⟨b6, 0, none⟩), 24, [.int .i64 x_19, .int .i64 x_20, .bool d_21], 0⟩ :: F) ∧ l = [(6, .pointer (some ⟨b6, 0, none⟩))]) ?_ ?_))))
 ·clear H
  refine rD [] (Kp G0 []) O19 ?_
  intro c27 l27 O28
  have p29 : Kp G0 [] c27 := Kp.nil0
  refine ta 0 (.pointer (some ⟨b1, 0, none⟩)) (tx 1 (fun c' hle => l1 underlying3 ((mm m3) 0 _ rfl)) (ta 2 (.int .i64 x_7) (ta 4 (.pointer (some ⟨b1, 0 + 1, none⟩)) (tx 5 (fun c' hle => l1 underlying3 ((mm m3) 1 _ rfl)) (ta 6 (.int .i64 x_5) (ta 8 (.pointer (some ⟨b1, 0 + 2, none⟩)) (tx 9 (fun c' hle => l1 underlying4 ((mm m3) 2 _ rfl)) (o1 3 (gc 3 (c_cursor_held O28 p0.Row x_7 h24) ?_)))))))))
  rintro v35 c34 l34 ⟨O31, rfl⟩
  have p36 : Kp G0 [] c34 := Kp.nil0
  refine ⟨.inr p36, o1 7 (gc 7 (c_cursor_held O31 p0.Col x_5 h25) ?_)⟩
  rintro v42 c41 l41 ⟨O38, rfl⟩
  have p43 : Kp G0 [] c41 := Kp.nil0
  refine ⟨.inr p43, ?_⟩
  rcases bo (p0.Pending) with h44 | h44
  ·have H45 := anT h44 h26
   refine AC.takeb 10 h44 rfl (by kernel_rfl) (by kernel_rfl) (fun c' hle => (by kernel_rfl)) (ta 11 (.pointer (some ⟨b1, 0 + 1, none⟩)) (tx 12 (fun c' hle => l1 underlying3 ((mm m3) 1 _ rfl)) (ta 13 (.int .i64 x_5) (ta 14 (.int .i64 (w64 (x_5 - 1))) (ta 15 (.bool (p0.Col == (w64 (x_5 - 1)))) ?_)))))
   obtain rfl := si H45
   refine ta 16 (.bool (p0.Col == (w64 (x_5 - 1)))) (ta 17 (.agg #[.int .i64 x_19, .int .i64 x_20, .bool (p0.Col == (w64 (x_5 - 1)))]) (o1 18 (gD 18 (sA 24 [.int .i64 x_19, .int .i64 x_20, .bool (p0.Col == (w64 (x_5 - 1)))] 0 O38 ⟨rfl, rfl, rfl, trivial⟩) ?_)))
   rintro c47 l47 O46
   have p48 : Kp G0 [] c47 := Kp.nil0
   exact ⟨.inr p48, dn (nrm ⟨c47, _, _, rfl, pt, us, O46, rfl⟩)⟩
  obtain rfl := anF h44 h26
  refine AC.takeb 10 h44 rfl (by kernel_rfl) (by kernel_rfl) (fun c' hle => (by kernel_rfl)) (tp 11 (tp 12 (tp 13 (tp 14 (tp 15 (ta 16 (.bool false) (ta 17 (.agg #[.int .i64 x_19, .int .i64 x_20, .bool false]) (o1 18 (gD 18 (sA 24 [.int .i64 x_19, .int .i64 x_20, .bool false] 0 O38 ⟨rfl, rfl, rfl, trivial⟩) ?_)))))))))
  rintro c50 l50 O49
  have p51 : Kp G0 [] c50 := Kp.nil0
  exact ⟨.inr p51, dn (nrm ⟨c50, _, _, rfl, pt, us, O49, rfl⟩)⟩
 rintro e_ w_ ⟨c52, g53, _, rfl, l52, rfl, O54, rfl⟩
 refine nrm (W.ret ?_)
 obtain rfl := si H
 have O58 := O54.sD 1 []
 exact retC (c := c52) (vs := [.int .i64 x_19, .int .i64 x_20, .bool d_21]) rfl (by kernel_rfl) (by kernel_rfl) (by kernel_rfl) (O54.on 0 rfl _ rfl).1 ⟨_, c52, rfl, rfl, pt, O58, rfl⟩
def f_place_Pen_ready (sg : Sto) (p0 : Option Nat) : Option (Sto × Bool) :=
 (orE p0.isNone ((p0).bind fun k_8 =>
 (sg.place_Pen[k_8]?).bind fun o_10 =>
 some o_10.G.isNone)).bind fun d_5 =>
 if d_5 = true then
 some (sg, false)
 else
 (p0).bind fun k_17 =>
 (sg.place_Pen[k_17]?).bind fun o_19 =>
 (f_grid_Grid_Wide sg o_19.G).bind fun x_28 =>
 (f_grid_Grid_High sg o_19.G).bind fun x_29 =>
 (f_cursor_Hold o_19.At x_28 x_29).bind fun x_30 =>
 (sg.set_place_Pen k_17 (⟨o_19.G, x_30, o_19.Auto⟩ : G_place_Pen)).bind fun s_33001 =>
 some (s_33001, true)
theorem c_place_Pen_ready (O0 : Own c0 G F) (R0 : Rel c0 sg G) (p0 : Option Nat) {r : Sto × Bool} (h2 : Pt 2 c0 v1 p0) (H : f_place_Pen_ready sg p0 = some r) :
    Calls Tryz.prog 127 #[v1] c0.w (Post c0 fun c v => ∃ G_ : Gm, Own c G_ (F) ∧ Rel c r.1 G_ ∧ v = .bool r.2) := by
 unfold f_place_Pen_ready at H
 refine en func127 rfl rfl (sr (va (.bool false) (wln (W.seq (W.seq (bn H fun d_5 h3 H => W.join (Jn c0 fun c l => Own c G (F) ∧ l = [(0, v1), (11, .bool d_5)]) ?_ ?_))))))
 ·clear H
  refine W.region (va (v1) (vr (.bool p0.isNone) (by rcases (h2).cs with ⟨h1_, h2_⟩ | ⟨b_, h1_, h2_⟩ <;> (subst h1_; rw [h2_]; kernel_rfl)) ?_))
  rcases bo (p0.isNone) with h4 | h4
  ·obtain rfl := orT h4 h3
   exact vb h4 (ps (ps (ps (ps (ps (va (.bool true) (wln ⟨c0, _, _, rfl, pt, us, O0, rfl⟩)))))))
  have H5 := orF h4 h3
  refine vb h4 (wn (va (v1) (wn (bn H5 fun k_8 h8 H5 => ?_))))
  obtain ⟨b6, rfl, h7⟩ := (h2).get h8
  refine va (.pointer (some ⟨b6, 0, none⟩)) (wn (va (.pointer (some ⟨b6, 0, none⟩)) (wn (bn H5 fun o_10 h9 H5 => ?_))))
  obtain ⟨v10, h12, h11⟩ := Rel.open_place_Pen R0 h9 h7
  refine vx (le1 0 underlying35 (O0.gon h12 0 rfl)) (wn (vr (.bool o_10.G.isNone) (by rcases (h11).cs with ⟨h1_, h2_⟩ | ⟨b_, h1_, h2_⟩ <;> (subst h1_; rw [h2_]; kernel_rfl)) ?_))
  obtain rfl := si H5
  exact va (.bool o_10.G.isNone) (wln ⟨c0, _, _, rfl, pt, us, O0, rfl⟩)
 rintro e_ w_ ⟨c13, g14, _, rfl, l13, rfl, O15, rfl⟩
 refine nrm (cn H (fun h19 H => ?_) (fun h19 H => ?_))
 ·refine sr (va (.bool false) (wln (W.ret (thr ?_))))
  obtain rfl := si H
  exact r1 ⟨_, c13, rfl, rfl, pt, G, O15, R0.m, rfl⟩
 refine W.skip (nrm (W.seq (rD [18] (Kp G []) O15 ?_)))
 intro c20 l20 O21
 have p22 : Kp G [] c20 := (Kp.nil O21)
 refine ta 0 (v1) (ta 1 (v1) (bn H fun k_17 h25 H => ?_))
 obtain ⟨b23, rfl, h24⟩ := ((h2.mono (l13.trans l20))).get h25
 refine ta 2 (.pointer (some ⟨b23, 0, none⟩)) (ta 3 (.pointer (some ⟨b23, 1, none⟩)) (bn H fun o_19 h26 H => ?_))
 obtain ⟨v27, h29, h28⟩ := Rel.open_place_Pen (R0.mono (l13.trans l20)) h26 h24
 refine tkx 4 p22 (fun c' hle hk => leN 24 1 [.int .i64 o_19.At.Row, .int .i64 o_19.At.Col, .bool o_19.At.Pending] (hk.gon h29 0 rfl)) (ta 5 (.pointer (some ⟨b23, 0, none⟩)) (ta 6 (.pointer (some ⟨b23, 0, none⟩)) (ta 7 (.pointer (some ⟨b23, 0, none⟩)) (tkx 8 p22 (fun c' hle hk => le1 0 underlying35 (hk.gon h29 0 rfl)) (ta 10 (.pointer (some ⟨b23, 0, none⟩)) (ta 11 (.pointer (some ⟨b23, 0, none⟩)) (ta 12 (.pointer (some ⟨b23, 0, none⟩)) (tkx 13 p22 (fun c' hle hk => le1 0 underlying35 (hk.gon h29 0 rfl)) (bn H fun x_28 h30 H => o1 9 (gc 9 (c_grid_Grid_Wide O21 R0.m o_19.G h28 h30) ?_))))))))))
 rintro v36 c35 l35 ⟨O32, rfl⟩
 have p37 : Kp G [] c35 := (Kp.nil O32)
 refine ⟨.inr p37, bn H fun x_29 h38 H => o1 14 (gc 14 (c_grid_Grid_High O32 R0.m o_19.G h28.m h38) ?_)⟩
 rintro v44 c43 l43 ⟨O40, rfl⟩
 have p45 : Kp G [] c43 := (Kp.nil O40)
 refine ⟨.inr p45, bn H fun x_30 h46 H => o1 15 (gc 15 (c_cursor_Hold O40 o_19.At x_28 x_29 h46) ?_)⟩
 rintro v52 c51 l51 ⟨O48, rfl⟩
 have p53 : Kp G [] c51 := (Kp.nil O48)
 refine ⟨.inr p53, ta 16 (.pointer (some ⟨b23, 0, none⟩)) (ta 17 (.pointer (some ⟨b23, 1, none⟩)) (o1 18 (gD 18 (gB 24 1 [.int .i64 x_30.Row, .int .i64 x_30.Col, .bool x_30.Pending] [v27, .int .i64 x_30.Row, .int .i64 x_30.Col, .bool x_30.Pending, .bool o_19.Auto] 0 O48 h29 ⟨rfl, rfl, rfl, trivial⟩) ?_)))⟩
 rintro c55 l55 O54
 refine bn H fun s_33001 h60 H => ?_
 obtain ⟨G56, O57, R58, h59, a61⟩ := Rel.put_place_Pen O54 (R0.mono (l13.trans (l20.trans (l35.trans (l43.trans (l51.trans l55)))))) (E' := [⟨.pointer (some ⟨b23, 0, none⟩), 42, [v27, .int .i64 x_30.Row, .int .i64 x_30.Col, .bool x_30.Pending, .bool o_19.Auto], 0⟩]) h60 ⟨b23, v27, (tm h24), rfl, (h28.mono (l35.trans (l43.trans (l51.trans l55))))⟩
 refine ⟨.inl rfl, dn (nrm (sr (va (.bool true) (wln (W.ret ?_)))))⟩
 obtain rfl := si H
 exact r1 ⟨_, c55, rfl, rfl, pt, G56, O57, R58, rfl⟩
def f_cursor_Return (p0 : G_api_Cursor) : Option (G_api_Cursor) :=
 some (⟨p0.Row, 0, false⟩ : G_api_Cursor)
theorem c_cursor_Return (O0 : Own c0 G F) (p0 : G_api_Cursor) {r : G_api_Cursor} (H : f_cursor_Return p0 = some r) :
    Calls Tryz.prog 172 #[.agg #[.int .i64 p0.Row, .int .i64 p0.Col, .bool p0.Pending]] c0.w (Post c0 fun c v => Own c G (F) ∧ v = .agg #[.int .i64 r.Row, .int .i64 r.Col, .bool r.Pending]) := by
 unfold f_cursor_Return at H
 refine en func172 rfl rfl (sr (me (bx 24 [.int .i64 p0.Row, .int .i64 p0.Col, .bool p0.Pending] O0) ?_))
 rintro v5 c4 l4 ⟨b1, rfl, O2, m3⟩
 refine me (al 24 [.int .i64 0, .int .i64 0, .bool false] O2) ?_
 rintro v9 c8 l8 ⟨b6, rfl, O7⟩
 refine wln (sr (va (.pointer (some ⟨b1, 0, none⟩)) (vx (l1 underlying3 ((mm m3) 0 _ rfl)) (va (.agg #[.int .i64 p0.Row, .int .i64 0, .bool false]) (md (sA 24 [.int .i64 p0.Row, .int .i64 0, .bool false] 0 O7 ⟨rfl, rfl, rfl, trivial⟩) ?_)))))
 rintro c11 l11 O10
 refine wln (W.ret ?_)
 obtain rfl := si H
 have O12 := O10.sD 1 []
 exact retC (c := c11) (vs := [.int .i64 p0.Row, .int .i64 0, .bool false]) rfl (by kernel_rfl) (by kernel_rfl) (by kernel_rfl) (O10.on 0 rfl _ rfl).1 ⟨_, c11, rfl, rfl, pt, O12, rfl⟩
def f_cursor_Down (p0 : G_api_Cursor) (p1 : Int) : Option (G_api_Cursor × Bool) :=
 (f_cursor_side p1).bind fun x_11 =>
 if (decide (p0.Row ≥ (w64 (x_11 - 1)))) = true then
 some ((⟨p0.Row, p0.Col, false⟩ : G_api_Cursor), true)
 else
 some ((⟨(w64 (p0.Row + 1)), p0.Col, false⟩ : G_api_Cursor), false)
theorem c_cursor_Down (O0 : Own c0 G F) (p0 : G_api_Cursor) (p1 : Int) {r : G_api_Cursor × Bool} (H : f_cursor_Down p0 p1 = some r) :
    Calls Tryz.prog 251 #[.agg #[.int .i64 p0.Row, .int .i64 p0.Col, .bool p0.Pending], .int .i64 p1] c0.w (Post c0 fun c v => Own c G (F) ∧ v = .tuple #[.agg #[.int .i64 r.1.Row, .int .i64 r.1.Col, .bool r.1.Pending], .bool r.2]) := by
 unfold f_cursor_Down at H
 refine en func251 rfl rfl (sr (me (al 24 [.int .i64 p0.Row, .int .i64 p0.Col, .bool p0.Pending] O0) ?_))
 rintro v4 c3 l3 ⟨b1, rfl, O2⟩
 refine me (al 24 [.int .i64 0, .int .i64 0, .bool false] O2) ?_
 rintro v8 c7 l7 ⟨b5, rfl, O6⟩
 refine va (.bool false) (wln (sr (va (.pointer (some ⟨b1, 2, none⟩)) (md (sC 4 2 (.bool false) [.int .i64 p0.Row, .int .i64 p0.Col, .bool false] 1 O6 ⟨rfl, trivial⟩) ?_))))
 rintro c10 l10 O9
 refine wln (W.seq (W.seq (rD [] (Kp G0 [⟨.pointer (some ⟨b1, 0, none⟩), 24, [.int .i64 p0.Row, .int .i64 p0.Col, .bool false], 0⟩]) O9 ?_)))
 intro c11 l11 O12
 have p13 : Kp G0 [⟨.pointer (some ⟨b1, 0, none⟩), 24, [.int .i64 p0.Row, .int .i64 p0.Col, .bool false], 0⟩] c11 := (Kp.cons (O12.on 1 rfl) Kp.nil0)
 refine ta 0 (.pointer (some ⟨b1, 0, none⟩)) (tkx 1 p13 (fun c' hle hk => le1 0 underlying3 (hk.on 0 rfl)) (ta 2 (.int .i64 p1) (bn H fun x_11 h14 H => o1 3 (gc 3 (c_cursor_side O12 p1 h14) ?_))))
 rintro v20 c19 l19 ⟨O16, rfl⟩
 have p21 : Kp G0 [⟨.pointer (some ⟨b1, 0, none⟩), 24, [.int .i64 p0.Row, .int .i64 p0.Col, .bool false], 0⟩] c19 := (Kp.cons (O16.on 1 rfl) Kp.nil0)
 refine ⟨.inr p21, ta 4 (.int .i64 (w64 (x_11 - 1))) (ta 5 (.bool (decide (p0.Row ≥ (w64 (x_11 - 1))))) (dn (nrm (cn H (fun h22 H => ?_) (fun h22 H => ?_)))))⟩
 ·refine sr (vx (leN 24 0 [.int .i64 p0.Row, .int .i64 p0.Col, .bool false] (O16.on 1 rfl)) (md (sA 24 [.int .i64 p0.Row, .int .i64 p0.Col, .bool false] 0 O16 ⟨rfl, rfl, rfl, trivial⟩) ?_))
  rintro c24 l24 O23
  refine va (.bool true) (wln (W.ret (thr ?_)))
  obtain rfl := si H
  have O25 := O23.sD 2 []
  exact retCT (c := c24) (vs := [.int .i64 p0.Row, .int .i64 p0.Col, .bool false]) (v := .bool true) rfl (by kernel_rfl) (by kernel_rfl) (by kernel_rfl) (by kernel_rfl) (O23.on 0 rfl _ rfl).1 ⟨_, c24, rfl, rfl, pt, O25, rfl⟩
 refine W.skip (nrm (sr (va (.pointer (some ⟨b1, 0, none⟩)) (vx (le1 0 underlying3 (O16.on 1 rfl)) (va (.int .i64 (w64 (p0.Row + 1))) (va (.pointer (some ⟨b1, 0, none⟩)) (md (sC 3 0 (.int .i64 (w64 (p0.Row + 1))) [.int .i64 (w64 (p0.Row + 1)), .int .i64 p0.Col, .bool false] 1 O16 ⟨rfl, trivial⟩) ?_)))))))
 rintro c27 l27 O26
 refine wln (sr (vx (leN 24 0 [.int .i64 (w64 (p0.Row + 1)), .int .i64 p0.Col, .bool false] (O26.on 1 rfl)) (md (sA 24 [.int .i64 (w64 (p0.Row + 1)), .int .i64 p0.Col, .bool false] 0 O26 ⟨rfl, rfl, rfl, trivial⟩) ?_)))
 rintro c29 l29 O28
 refine va (.bool false) (wln (W.ret ?_))
 obtain rfl := si H
 have O30 := O28.sD 2 []
 exact retCT (c := c29) (vs := [.int .i64 (w64 (p0.Row + 1)), .int .i64 p0.Col, .bool false]) (v := .bool false) rfl (by kernel_rfl) (by kernel_rfl) (by kernel_rfl) (by kernel_rfl) (O28.on 0 rfl _ rfl).1 ⟨_, c29, rfl, rfl, pt, O30, rfl⟩
def f_place_Pen_NewLine (sg : Sto) (p0 : Option Nat) : Option (Sto) :=
 (f_place_Pen_ready sg p0).bind fun x_2 =>
 if (!x_2.2) = true then
 some x_2.1
 else
 (p0).bind fun k_6 =>
 (x_2.1.place_Pen[k_6]?).bind fun o_8 =>
 (f_grid_Grid_High x_2.1 o_8.G).bind fun x_13 =>
 (f_cursor_Down o_8.At x_13).bind fun x_14 =>
 (p0).bind fun k_24 =>
 (x_2.1.place_Pen[k_24]?).bind fun o_26 =>
 (x_2.1.set_place_Pen k_24 (⟨o_26.G, x_14.1, o_26.Auto⟩ : G_place_Pen)).bind fun s_26001 =>
 if x_14.2 = true then
 (f_grid_Grid_High s_26001 o_26.G).bind fun x_38 =>
 (f_scroll_Up s_26001 o_26.G 0 x_38 1).bind fun x_39 =>
 some x_39
 else
 some s_26001
theorem c_place_Pen_NewLine (O0 : Own c0 G F) (R0 : Rel c0 sg G) (p0 : Option Nat) {r : Sto} (h2 : Pt 2 c0 v1 p0) (H : f_place_Pen_NewLine sg p0 = some r) :
    Calls Tryz.prog 225 #[v1] c0.w (Post c0 fun c v => ∃ G_ : Gm, Own c G_ (F) ∧ Rel c r G_ ∧ v = .tuple #[]) := by
 unfold f_place_Pen_NewLine at H
 refine en func225 rfl rfl (W.seq (sr (va (v1) (bn H fun x_2 h3 H => cl (c_place_Pen_ready O0 R0 p0 h2 h3) ?_))))
 rintro v9 c8 l8 ⟨G4, O5, R6, rfl⟩
 refine va (.bool (!x_2.2)) (wln (cn H (fun h10 H => ?_) (fun h10 H => ?_)))
 ·refine W.ret (thr ?_)
  obtain rfl := si H
  exact r0 ⟨_, c8, rfl, rfl, pt, G4, O5, R6, rfl⟩
 refine W.skip (nrm (W.seq (bn H fun k_6 h11 H => bn H fun o_8 h12 H => bn H fun x_13 h13 H => bn H fun x_14 h14 H => W.join (Jn c8 fun c l => ∃ b15, Own c G4 (⟨.pointer (some ⟨b15, 0, none⟩), 24, [.int .i64 x_14.1.Row, .int .i64 x_14.1.Col, .bool x_14.1.Pending], 0⟩ :: F) ∧ l = [(0, v1), (2, .pointer (some ⟨b15, 0, none⟩)), (3, .bool x_14.2)]) ?_ ?_)))
 ·clear H
  refine rD [] (Kp G4 []) O5 ?_
  intro c16 l16 O17
  have p18 : Kp G4 [] c16 := (Kp.nil O17)
  refine ta 0 (v1) ?_
  obtain ⟨b19, rfl, h20⟩ := ((h2.mono (l8.trans l16))).get h11
  refine ta 1 (.pointer (some ⟨b19, 0, none⟩)) (ta 2 (.pointer (some ⟨b19, 1, none⟩)) ?_)
  obtain ⟨v21, h23, h22⟩ := Rel.open_place_Pen (R6.mono l16) h12 h20
  refine tkx 3 p18 (fun c' hle hk => leN 24 1 [.int .i64 o_8.At.Row, .int .i64 o_8.At.Col, .bool o_8.At.Pending] (hk.gon h23 0 rfl)) (ta 4 (.pointer (some ⟨b19, 0, none⟩)) (ta 5 (.pointer (some ⟨b19, 0, none⟩)) (ta 6 (.pointer (some ⟨b19, 0, none⟩)) (tkx 7 p18 (fun c' hle hk => le1 0 underlying35 (hk.gon h23 0 rfl)) (mn2 8 13 ?_ ?_)))))
  ·refine gc 8 (c_grid_Grid_High O17 R6.m o_8.G h22 h13) ?_
   rintro v29 c28 l28 ⟨O25, rfl⟩
   have p30 : Kp G4 [] c28 := (Kp.nil O25)
   refine ⟨.inr p30, mn2 9 13 ?_ ?_⟩
   ·refine gc 9 (c_cursor_Down O25 o_8.At x_13 h14) ?_
    rintro v36 c35 l35 ⟨O32, rfl⟩
    have p37 : Kp G4 [] c35 := (Kp.nil O32)
    refine ⟨.inr p37, ta 10 (.tuple #[.agg #[.int .i64 x_14.1.Row, .int .i64 x_14.1.Col, .bool x_14.1.Pending], .bool x_14.2]) (ta 11 (.agg #[.int .i64 x_14.1.Row, .int .i64 x_14.1.Col, .bool x_14.1.Pending]) (ta 12 (.bool x_14.2) (o1 13 (gm 13 (al 24 [.int .i64 0, .int .i64 0, .bool false] O32) ?_))))⟩
    rintro v41 c40 l40 ⟨b38, rfl, O39⟩
    have p42 : Kp G4 [] c40 := (Kp.nil O39)
    refine ⟨.inr p42, o1 14 (gD 14 (sA 24 [.int .i64 x_14.1.Row, .int .i64 x_14.1.Col, .bool x_14.1.Pending] 0 O39 ⟨rfl, rfl, rfl, trivial⟩) ?_)⟩
    rintro c44 l44 O43
    have p45 : Kp G4 [] c44 := (Kp.nil O43)
    exact ⟨.inr p45, ta 15 (.bool x_14.2) (dn (nrm ⟨c44, _, _, rfl, pt, us, b38, O43, rfl⟩))⟩
   refine gm 13 (al 24 [.int .i64 0, .int .i64 0, .bool false] O25) ?_
   rintro v49 c48 l48 ⟨b46, rfl, O47⟩
   have p50 : Kp G4 [] c48 := (Kp.nil O47)
   refine ⟨.inr p50, o1 9 (gc 9 (c_cursor_Down O47 o_8.At x_13 h14) ?_)⟩
   rintro v56 c55 l55 ⟨O52, rfl⟩
   have p57 : Kp G4 [] c55 := (Kp.nil O52)
   refine ⟨.inr p57, ta 10 (.tuple #[.agg #[.int .i64 x_14.1.Row, .int .i64 x_14.1.Col, .bool x_14.1.Pending], .bool x_14.2]) (ta 11 (.agg #[.int .i64 x_14.1.Row, .int .i64 x_14.1.Col, .bool x_14.1.Pending]) (ta 12 (.bool x_14.2) (o1 14 (gD 14 (sA 24 [.int .i64 x_14.1.Row, .int .i64 x_14.1.Col, .bool x_14.1.Pending] 0 O52 ⟨rfl, rfl, rfl, trivial⟩) ?_))))⟩
   rintro c59 l59 O58
   have p60 : Kp G4 [] c59 := (Kp.nil O58)
   exact ⟨.inr p60, ta 15 (.bool x_14.2) (dn (nrm ⟨c59, _, _, rfl, pt, us, b46, O58, rfl⟩))⟩
  refine gm 13 (al 24 [.int .i64 0, .int .i64 0, .bool false] O17) ?_
  rintro v64 c63 l63 ⟨b61, rfl, O62⟩
  have p65 : Kp G4 [] c63 := (Kp.nil O62)
  refine ⟨.inr p65, o1 8 (gc 8 (c_grid_Grid_High O62 R6.m o_8.G h22.m h13) ?_)⟩
  rintro v71 c70 l70 ⟨O67, rfl⟩
  have p72 : Kp G4 [] c70 := (Kp.nil O67)
  refine ⟨.inr p72, o1 9 (gc 9 (c_cursor_Down O67 o_8.At x_13 h14) ?_)⟩
  rintro v78 c77 l77 ⟨O74, rfl⟩
  have p79 : Kp G4 [] c77 := (Kp.nil O74)
  refine ⟨.inr p79, ta 10 (.tuple #[.agg #[.int .i64 x_14.1.Row, .int .i64 x_14.1.Col, .bool x_14.1.Pending], .bool x_14.2]) (ta 11 (.agg #[.int .i64 x_14.1.Row, .int .i64 x_14.1.Col, .bool x_14.1.Pending]) (ta 12 (.bool x_14.2) (o1 14 (gD 14 (sA 24 [.int .i64 x_14.1.Row, .int .i64 x_14.1.Col, .bool x_14.1.Pending] 0 O74 ⟨rfl, rfl, rfl, trivial⟩) ?_))))⟩
  rintro c81 l81 O80
  have p82 : Kp G4 [] c81 := (Kp.nil O80)
  exact ⟨.inr p82, ta 15 (.bool x_14.2) (dn (nrm ⟨c81, _, _, rfl, pt, us, b61, O80, rfl⟩))⟩
 rintro e_ w_ ⟨c83, g84, _, rfl, l83, rfl, b15, O85, rfl⟩
 refine nrm (sr (va (v1) (vx (leN 24 0 [.int .i64 x_14.1.Row, .int .i64 x_14.1.Col, .bool x_14.1.Pending] (O85.on 0 rfl)) (bn H fun k_24 h91 H => ?_))))
 obtain ⟨b89, rfl, h90⟩ := ((h2.mono (l8.trans l83))).get h91
 refine va (.pointer (some ⟨b89, 0, none⟩)) (va (.pointer (some ⟨b89, 1, none⟩)) (bn H fun o_26 h92 H => ?_))
 obtain ⟨v93, h95, h94⟩ := Rel.open_place_Pen (R6.mono l83) h92 h90
 refine md (gB 24 1 [.int .i64 x_14.1.Row, .int .i64 x_14.1.Col, .bool x_14.1.Pending] [v93, .int .i64 x_14.1.Row, .int .i64 x_14.1.Col, .bool x_14.1.Pending, .bool o_26.Auto] 0 O85 h95 ⟨rfl, rfl, rfl, trivial⟩) ?_
 rintro c97 l97 O96
 refine bn H fun s_26001 h102 H => ?_
 obtain ⟨G98, O99, R100, h101, a103⟩ := Rel.put_place_Pen O96 (R6.mono (l83.trans l97)) (E' := [⟨.pointer (some ⟨b89, 0, none⟩), 42, [v93, .int .i64 x_14.1.Row, .int .i64 x_14.1.Col, .bool x_14.1.Pending, .bool o_26.Auto], 0⟩]) h102 ⟨b89, v93, (tm h90), rfl, (h94.mono l97)⟩
 refine wln (sr (va (.bool x_14.2) (wln (cn H (fun h104 H => ?_) (fun h104 H => ?_)))))
 ·refine rD [9] (Kp G98 []) O99 ?_
  intro c105 l105 O106
  have p107 : Kp G98 [] c105 := (Kp.nil O106)
  refine ta 0 (.pointer (some ⟨b89, 0, none⟩)) (ta 1 (.pointer (some ⟨b89, 0, none⟩)) (ta 2 (.pointer (some ⟨b89, 0, none⟩)) (tkx 3 p107 (fun c' hle hk => le1 0 underlying35 (hk.gon h101 0 rfl)) (ta 4 (.pointer (some ⟨b89, 0, none⟩)) (ta 5 (.pointer (some ⟨b89, 0, none⟩)) (ta 6 (.pointer (some ⟨b89, 0, none⟩)) (tkx 7 p107 (fun c' hle hk => le1 0 underlying35 (hk.gon h101 0 rfl)) (bn H fun x_38 h108 H => o1 8 (gc 8 (c_grid_Grid_High O106 R100.m o_26.G h94.m h108) ?_)))))))))
  rintro v114 c113 l113 ⟨O110, rfl⟩
  have p115 : Kp G98 [] c113 := (Kp.nil O110)
  refine ⟨.inr p115, bn H fun x_39 h116 H => o1 9 (gc 9 (c_scroll_Up O110 R100.m o_26.G 0 x_38 1 h94.m h116) ?_)⟩
  rintro v122 c121 l121 ⟨G117, O118, R119, rfl⟩
  refine ⟨.inl rfl, dn ?_⟩
  obtain rfl := si H
  have O123 := O118.sD 1 []
  exact n0 ⟨_, c121, rfl, rfl, pt, G117, O123, R119, rfl⟩
 refine W.skip ?_
 obtain rfl := si H
 have O124 := O99.sD 1 []
 exact n0 ⟨_, c97, rfl, rfl, pt, G98, O124, R100, rfl⟩
def f_place_Pen_goOn (sg : Sto) (p0 : Option Nat) : Option (Sto) :=
 (p0).bind fun k_2 =>
 (sg.place_Pen[k_2]?).bind fun o_4 =>
 (f_grid_Grid_Row sg o_4.G o_4.At.Row).bind fun x_10 =>
 (f_row_Row_GoOn sg x_10 true).bind fun x_11 =>
 (x_11.place_Pen[k_2]?).bind fun o_17 =>
 (f_cursor_Return o_17.At).bind fun x_18 =>
 (x_11.set_place_Pen k_2 (⟨o_17.G, x_18, o_17.Auto⟩ : G_place_Pen)).bind fun s_21001 =>
 (f_place_Pen_NewLine s_21001 p0).bind fun x_24 =>
 some x_24
theorem c_place_Pen_goOn (O0 : Own c0 G F) (R0 : Rel c0 sg G) (p0 : Option Nat) {r : Sto} (h2 : Pt 2 c0 v1 p0) (H : f_place_Pen_goOn sg p0 = some r) :
    Calls Tryz.prog 197 #[v1] c0.w (Post c0 fun c v => ∃ G_ : Gm, Own c G_ (F) ∧ Rel c r G_ ∧ v = .tuple #[]) := by
 unfold f_place_Pen_goOn at H
 refine en func197 rfl rfl (W.seq (rD [10] (Kp G []) O0 ?_))
 intro c3 l3 O4
 have p5 : Kp G [] c3 := (Kp.nil O4)
 refine ta 0 (v1) (bn H fun k_2 h8 H => ?_)
 obtain ⟨b6, rfl, h7⟩ := ((h2.mono l3)).get h8
 refine ta 1 (.pointer (some ⟨b6, 0, none⟩)) (ta 2 (.pointer (some ⟨b6, 0, none⟩)) (bn H fun o_4 h9 H => ?_))
 obtain ⟨v10, h12, h11⟩ := Rel.open_place_Pen (R0.mono l3) h9 h7
 refine tkx 3 p5 (fun c' hle hk => le1 0 underlying35 (hk.gon h12 0 rfl)) (ta 4 (.pointer (some ⟨b6, 0, none⟩)) (ta 5 (.pointer (some ⟨b6, 0, none⟩)) (ta 6 (.pointer (some ⟨b6, 1, none⟩)) (ta 7 (.pointer (some ⟨b6, 1, none⟩)) (tkx 8 p5 (fun c' hle hk => le1 1 underlying3 (hk.gon h12 0 rfl)) (bn H fun x_10 h13 H => o1 9 (gc 9 (c_grid_Grid_Row O4 R0.m o_4.G o_4.At.Row h11 h13) ?_)))))))
 rintro v14 c20 l20 ⟨_, O17, rfl, h15⟩
 have p22 : Kp G [] c20 := (Kp.nil O17)
 refine ⟨.inr p22, bn H fun x_11 h23 H => o1 10 (gc 10 (c_row_Row_GoOn O17 R0.m x_10 true h15 h23) ?_)⟩
 rintro v29 c28 l28 ⟨G24, O25, R26, rfl⟩
 refine ⟨.inl rfl, dn (nrm (sr (va (.pointer (some ⟨b6, 0, none⟩)) (va (.pointer (some ⟨b6, 0, none⟩)) (va (.pointer (some ⟨b6, 0, none⟩)) (va (.pointer (some ⟨b6, 1, none⟩)) (bn H fun o_17 h30 H => ?_)))))))⟩
 obtain ⟨v31, h33, h32⟩ := Rel.open_place_Pen R26 h30 (tm h7)
 refine vx (leN 24 1 [.int .i64 o_17.At.Row, .int .i64 o_17.At.Col, .bool o_17.At.Pending] (O25.gon h33 0 rfl)) (bn H fun x_18 h34 H => cl (c_cursor_Return O25 o_17.At h34) ?_)
 rintro v40 c39 l39 ⟨O36, rfl⟩
 refine va (.pointer (some ⟨b6, 0, none⟩)) (va (.pointer (some ⟨b6, 1, none⟩)) (md (gB 24 1 [.int .i64 x_18.Row, .int .i64 x_18.Col, .bool x_18.Pending] [v31, .int .i64 x_18.Row, .int .i64 x_18.Col, .bool x_18.Pending, .bool o_17.Auto] 0 O36 h33 ⟨rfl, rfl, rfl, trivial⟩) ?_))
 rintro c42 l42 O41
 refine bn H fun s_21001 h47 H => ?_
 obtain ⟨G43, O44, R45, h46, a48⟩ := Rel.put_place_Pen O41 (R26.mono (l39.trans l42)) (E' := [⟨.pointer (some ⟨b6, 0, none⟩), 42, [v31, .int .i64 x_18.Row, .int .i64 x_18.Col, .bool x_18.Pending, .bool o_17.Auto], 0⟩]) h47 ⟨b6, v31, (tm h7), rfl, (h32.mono (l39.trans l42))⟩
 refine wln (W.region (va (.pointer (some ⟨b6, 0, none⟩)) (bn H fun x_24 h49 H => cl (c_place_Pen_NewLine O44 R45 p0 h2.m h49) ?_)))
 rintro v55 c54 l54 ⟨G50, O51, R52, rfl⟩
 refine WL.nil ?_
 obtain rfl := si H
 exact n0 ⟨_, c54, rfl, rfl, pt, G50, O51, R52, rfl⟩
def f_place_Pen_room (sg : Sto) (p0 : Option Nat) (p1 : Int) : Option (Sto) :=
 ((p0).bind fun k_3 =>
 (sg.place_Pen[k_3]?).bind fun o_6 =>
 if o_6.At.Pending = true then
 (f_place_Pen_goOn sg p0).bind fun x_9 =>
 (some (x_9) : Option (Sto))
 else
 (some (sg) : Option (Sto))).bind fun z_1 =>
 (p0).bind fun k_12 =>
 (z_1.place_Pen[k_12]?).bind fun o_14 =>
 (f_grid_Grid_Wide z_1 o_14.G).bind fun x_15 =>
 (orE (p1 == 1) (some (decide (o_14.At.Col < (w64 (x_15 - 1)))))).bind fun d_21 =>
 if d_21 = true then
 some z_1
 else
 if o_14.Auto = true then
 (f_grid_Grid_Row z_1 o_14.G o_14.At.Row).bind fun x_48 =>
 (f_cell_Blanks 1).bind fun x_49 =>
 (f_row_Row_Paint z_1 x_48 (w64 (x_15 - 1)) x_49).bind fun x_50 =>
 (f_place_Pen_goOn x_50.1 p0).bind fun x_53 =>
 some x_53
 else
 (z_1.set_place_Pen k_12 (⟨o_14.G, (⟨o_14.At.Row, (w64 (o_14.At.Col - 1)), o_14.At.Pending⟩ : G_api_Cursor), o_14.Auto⟩ : G_place_Pen)).bind fun s_64001 =>
 some s_64001
theorem c_place_Pen_room (O0 : Own c0 G F) (R0 : Rel c0 sg G) (hG : Gl [0, 4] c0) (p0 : Option Nat) (p1 : Int) {r : Sto} (h2 : Pt 2 c0 v1 p0) (H : f_place_Pen_room sg p0 p1 = some r) :
    Calls Tryz.prog 128 #[v1, .int .i64 p1] c0.w (Post c0 fun c v => ∃ G_ : Gm, Own c G_ (F) ∧ Rel c r G_ ∧ v = .tuple #[]) := by
 unfold f_place_Pen_room at H
 refine en func128 rfl rfl (bn H fun z_1 H3 H4 => W.seqJ (Jn c0 fun c l => ∃ G_, Own c G_ (F) ∧ l = [(0, v1), (1, .int .i64 p1)] ∧ Rel c z_1 G_) ?_ ?_)
 ·refine sr (va (v1) (bn H3 fun k_3 h7 H3 => ?_))
  obtain ⟨b5, rfl, h6⟩ := (h2).get h7
  refine va (.pointer (some ⟨b5, 0, none⟩)) (va (.pointer (some ⟨b5, 1, none⟩)) (va (.pointer (some ⟨b5, 3, none⟩)) (bn H3 fun o_6 h8 H3 => ?_)))
  obtain ⟨v9, h11, h10⟩ := Rel.open_place_Pen R0 h8 h6
  refine vx (le1 3 underlying4 (O0.gon h11 0 rfl)) (wln (cn H3 (fun h12 H3 => ?_) (fun h12 H3 => ?_)))
  ·refine W.region (va (.pointer (some ⟨b5, 0, none⟩)) (bn H3 fun x_9 h13 H3 => cl (c_place_Pen_goOn O0 R0 p0 h2 h13) ?_))
   rintro v19 c18 l18 ⟨G14, O15, R16, rfl⟩
   refine wln ?_
   obtain rfl := si H3
   exact ⟨c18, _, _, rfl, pt, us, G14, O15, rfl, R16⟩
  refine W.skip (nrm ?_)
  obtain rfl := si H3
  exact ⟨c0, _, _, rfl, pt, us, G, O0, rfl, R0⟩
 rintro e_ w_ ⟨c20, g21, _, rfl, l20, rfl, G23, O22, rfl, R24⟩
 refine sr (va (v1) (bn H4 fun k_12 h28 H4 => ?_))
 obtain ⟨b26, rfl, h27⟩ := ((h2.mono l20)).get h28
 refine va (.pointer (some ⟨b26, 0, none⟩)) (va (.pointer (some ⟨b26, 0, none⟩)) (bn H4 fun o_14 h29 H4 => ?_))
 obtain ⟨v30, h32, h31⟩ := Rel.open_place_Pen R24 h29 h27
 refine vx (le1 0 underlying35 (O22.gon h32 0 rfl)) (bn H4 fun x_15 h33 H4 => cl (c_grid_Grid_Wide O22 R24 o_14.G h31 h33) ?_)
 rintro v39 c38 l38 ⟨O35, rfl⟩
 refine va (.int .i64 (w64 (x_15 - 1))) (va (.int .i64 (w64 (x_15 - 1))) (wln (W.block (W.seq (bn H4 fun d_21 h40 H4 => W.join (Jn c38 fun c l => Own c G23 (F) ∧ l = [(0, .pointer (some ⟨b26, 0, none⟩)), (4, .int .i64 (w64 (x_15 - 1))), (27, .bool d_21)]) ?_ ?_)))))
 ·clear H4
  refine W.region (va (.int .i64 p1) (va (.bool (p1 == 1)) ?_))
  rcases bo (p1 == 1) with h41 | h41
  ·obtain rfl := orT h41 h40
   exact vb h41 (ps (ps (ps (ps (ps (ps (ps (va (.bool true) (va (.bool true) (wln ⟨c38, _, _, rfl, pt, us, O35, rfl⟩))))))))))
  have H42 := orF h41 h40
  refine vb h41 (wn (va (.pointer (some ⟨b26, 0, none⟩)) (wn (va (.pointer (some ⟨b26, 0, none⟩)) (wn (va (.pointer (some ⟨b26, 1, none⟩)) (wn (va (.pointer (some ⟨b26, 2, none⟩)) (wn (vx (le1 2 underlying3 (O35.gon h32 0 rfl)) (wn (va (.int .i64 (w64 (x_15 - 1))) (wn (va (.bool (decide (o_14.At.Col < (w64 (x_15 - 1))))) ?_))))))))))))))
  obtain rfl := si H42
  exact va (.bool (decide (o_14.At.Col < (w64 (x_15 - 1))))) (va (.bool (decide (o_14.At.Col < (w64 (x_15 - 1))))) (wln ⟨c38, _, _, rfl, pt, us, O35, rfl⟩))
 rintro e_ w_ ⟨c43, g44, _, rfl, l43, rfl, O45, rfl⟩
 refine nrm (cn H4 (fun h49 H4 => ?_) (fun h49 H4 => ?_))
 ·refine W.ret (bkr ?_)
  obtain rfl := si H4
  exact r0 ⟨_, c43, rfl, rfl, pt, G23, O45, R24.m, rfl⟩
 refine sr (va (.pointer (some ⟨b26, 0, none⟩)) (va (.pointer (some ⟨b26, 0, none⟩)) (va (.pointer (some ⟨b26, 4, none⟩)) (vx (le1 4 underlying4 (O45.gon h32 0 rfl)) (va (.bool o_14.Auto) (wln (cn H4 (fun h50 H4 => ?_) (fun h50 H4 => ?_))))))))
 ·refine W.seq (rD [12] (Kp G23 []) O45 ?_)
  intro c51 l51 O52
  have p53 : Kp G23 [] c51 := (Kp.nil O52)
  refine ta 0 (.pointer (some ⟨b26, 0, none⟩)) (ta 1 (.pointer (some ⟨b26, 0, none⟩)) (ta 2 (.pointer (some ⟨b26, 0, none⟩)) (tkx 3 p53 (fun c' hle hk => le1 0 underlying35 (hk.gon h32 0 rfl)) (ta 4 (.pointer (some ⟨b26, 0, none⟩)) (ta 5 (.pointer (some ⟨b26, 0, none⟩)) (ta 6 (.pointer (some ⟨b26, 1, none⟩)) (ta 7 (.pointer (some ⟨b26, 1, none⟩)) (tkx 8 p53 (fun c' hle hk => le1 1 underlying3 (hk.gon h32 0 rfl)) (ta 10 (.int .i64 (w64 (x_15 - 1))) (bn H4 fun x_48 h54 H4 => o1 9 (gc 9 (c_grid_Grid_Row O52 R24.m o_14.G o_14.At.Row h31.m h54) ?_)))))))))))
  rintro v55 c61 l61 ⟨_, O58, rfl, h56⟩
  have p63 : Kp G23 [] c61 := (Kp.nil O58)
  refine ⟨.inr p63, bn H4 fun x_49 h64 H4 => o1 11 (gc 11 (c_cell_Blanks O58 1 h64) ?_)⟩
  rintro v65 c72 l72 ⟨_, u66, O69, rfl, h67⟩
  have p74 : Kp G23 [] c72 := (Kp.nil O69)
  refine ⟨.inr p74, ?_⟩
  obtain ⟨c77, h78, l77, O75, h76⟩ := O69.frz 0 rfl h67
  have p79 : Kp G23 [] c77 := (Kp.nil O75)
  refine AC.gh h78 l77 (fun _ => p79) (bn H4 fun x_50 h80 H4 => o1 12 (gc 12 (c_row_Row_Paint O75 R24.m (hG.m.le (by decide)) x_48 (w64 (x_15 - 1)) x_49 h56.m h76 h80) ?_))
  rintro v81 c87 l87 ⟨_, G83, O84, R85, rfl, h82⟩
  refine ⟨.inl rfl, dn (nrm (W.region (va (.pointer (some ⟨b26, 0, none⟩)) (bn H4 fun x_53 h89 H4 => cl (c_place_Pen_goOn O84 R85 p0 h2.m h89) ?_))))⟩
  rintro v95 c94 l94 ⟨G90, O91, R92, rfl⟩
  refine WL.nil (bkn ?_)
  obtain rfl := si H4
  have O96 := O91.sD 1 []
  exact n0 ⟨_, c94, rfl, rfl, pt, G90, O96, R92, rfl⟩
 refine W.region (va (.pointer (some ⟨b26, 0, none⟩)) (va (.pointer (some ⟨b26, 0, none⟩)) (va (.pointer (some ⟨b26, 1, none⟩)) (va (.pointer (some ⟨b26, 2, none⟩)) (vx (le1 2 underlying3 (O45.gon h32 0 rfl)) (va (.int .i64 (w64 (o_14.At.Col - 1))) (va (.pointer (some ⟨b26, 0, none⟩)) (va (.pointer (some ⟨b26, 1, none⟩)) (va (.pointer (some ⟨b26, 2, none⟩)) (md (gC 3 2 (.int .i64 (w64 (o_14.At.Col - 1))) [v30, .int .i64 o_14.At.Row, .int .i64 (w64 (o_14.At.Col - 1)), .bool o_14.At.Pending, .bool o_14.Auto] 0 O45 h32 ⟨rfl, trivial⟩) ?_))))))))))
 rintro c98 l98 O97
 refine bn H4 fun s_64001 h103 H4 => ?_
 obtain ⟨G99, O100, R101, h102, a104⟩ := Rel.put_place_Pen O97 (R24.mono (l38.trans (l43.trans l98))) (E' := [⟨.pointer (some ⟨b26, 0, none⟩), 42, [v30, .int .i64 o_14.At.Row, .int .i64 (w64 (o_14.At.Col - 1)), .bool o_14.At.Pending, .bool o_14.Auto], 0⟩]) h103 ⟨b26, v30, (tm h27), rfl, (h31.mono (l38.trans (l43.trans l98)))⟩
 refine WL.nil (bkn ?_)
 obtain rfl := si H4
 exact n0 ⟨_, c98, rfl, rfl, pt, G99, O100, R101, rfl⟩
def f_cursor_After (p0 : G_api_Cursor) (p1 : Int) (p2 : Int) (p3 : Bool) : Option (G_api_Cursor) :=
 (f_cursor_side p2).bind fun x_8 =>
 if (decide (p0.Col < (w64 (x_8 - (imax 1 (imin p1 2)))))) = true then
 some (⟨p0.Row, (w64 (p0.Col + (imax 1 (imin p1 2)))), false⟩ : G_api_Cursor)
 else
 some (⟨p0.Row, (w64 (x_8 - 1)), p3⟩ : G_api_Cursor)
theorem c_cursor_After (O0 : Own c0 G F) (p0 : G_api_Cursor) (p1 : Int) (p2 : Int) (p3 : Bool) {r : G_api_Cursor} (H : f_cursor_After p0 p1 p2 p3 = some r) :
    Calls Tryz.prog 130 #[.agg #[.int .i64 p0.Row, .int .i64 p0.Col, .bool p0.Pending], .int .i64 p1, .int .i64 p2, .bool p3] c0.w (Post c0 fun c v => Own c G (F) ∧ v = .agg #[.int .i64 r.Row, .int .i64 r.Col, .bool r.Pending]) := by
 unfold f_cursor_After at H
 refine en func130 rfl rfl (sr (me (bx 24 [.int .i64 p0.Row, .int .i64 p0.Col, .bool p0.Pending] O0) ?_))
 rintro v5 c4 l4 ⟨b1, rfl, O2, m3⟩
 refine me (al 24 [.int .i64 0, .int .i64 0, .bool false] O2) ?_
 rintro v9 c8 l8 ⟨b6, rfl, O7⟩
 refine wln (sr (va (.int .i64 p1) (va (.int .i64 (imin p1 2)) (va (.int .i64 (imax 1 (imin p1 2))) (va (.int .i64 p2) (bn H fun x_8 h10 H => cl (c_cursor_side O7 p2 h10) ?_))))))
 rintro v16 c15 l15 ⟨O12, rfl⟩
 refine va (.int .i64 (imax 1 (imin p1 2))) (va (.int .i64 x_8) (wln (W.seq (sr (va (.pointer (some ⟨b1, 0 + 1, none⟩)) (vx (l1 underlying3 ((mm m3) 1 _ rfl)) (va (.int .i64 x_8) (va (.int .i64 (imax 1 (imin p1 2))) (va (.int .i64 (w64 (x_8 - (imax 1 (imin p1 2))))) (va (.bool (decide (p0.Col < (w64 (x_8 - (imax 1 (imin p1 2))))))) (wln (cn H (fun h17 H => ?_) (fun h17 H => ?_)))))))))))))
 ·refine sr (va (.pointer (some ⟨b1, 0, none⟩)) (vx (l1 underlying3 ((mm m3) 0 _ rfl)) (va (.pointer (some ⟨b1, 0 + 1, none⟩)) (vx (l1 underlying3 ((mm m3) 1 _ rfl)) (va (.int .i64 (imax 1 (imin p1 2))) (va (.int .i64 (w64 (p0.Col + (imax 1 (imin p1 2))))) (va (.agg #[.int .i64 p0.Row, .int .i64 (w64 (p0.Col + (imax 1 (imin p1 2)))), .bool false]) (md (sA 24 [.int .i64 p0.Row, .int .i64 (w64 (p0.Col + (imax 1 (imin p1 2)))), .bool false] 0 O12 ⟨rfl, rfl, rfl, trivial⟩) ?_))))))))
  rintro c19 l19 O18
  refine wln (W.ret (thr ?_))
  obtain rfl := si H
  have O20 := O18.sD 1 []
  exact retC (c := c19) (vs := [.int .i64 p0.Row, .int .i64 (w64 (p0.Col + (imax 1 (imin p1 2)))), .bool false]) rfl (by kernel_rfl) (by kernel_rfl) (by kernel_rfl) (O18.on 0 rfl _ rfl).1 ⟨_, c19, rfl, rfl, pt, O20, rfl⟩
 refine W.skip (nrm (sr (va (.pointer (some ⟨b1, 0, none⟩)) (vx (l1 underlying3 ((mm m3) 0 _ rfl)) (va (.int .i64 x_8) (va (.int .i64 (w64 (x_8 - 1))) (va (.bool p3) (va (.agg #[.int .i64 p0.Row, .int .i64 (w64 (x_8 - 1)), .bool p3]) (md (sA 24 [.int .i64 p0.Row, .int .i64 (w64 (x_8 - 1)), .bool p3] 0 O12 ⟨rfl, rfl, rfl, trivial⟩) ?_)))))))))
 rintro c22 l22 O21
 refine wln (W.ret ?_)
 obtain rfl := si H
 have O23 := O21.sD 1 []
 exact retC (c := c22) (vs := [.int .i64 p0.Row, .int .i64 (w64 (x_8 - 1)), .bool p3]) rfl (by kernel_rfl) (by kernel_rfl) (by kernel_rfl) (O21.on 0 rfl _ rfl).1 ⟨_, c22, rfl, rfl, pt, O23, rfl⟩
def f_place_Pen_Put (sg : Sto) (p0 : Option Nat) (p1 : Int) (p2 : List Int) : Option (Sto × G_api_Cursor) :=
 (f_place_Pen_ready sg p0).bind fun x_4 =>
 if (!x_4.2) = true then
 some (x_4.1, (⟨0, 0, false⟩ : G_api_Cursor))
 else
 ((p0).bind fun k_18 =>
 (x_4.1.place_Pen[k_18]?).bind fun o_20 =>
 (f_grid_Grid_Wide x_4.1 o_20.G).bind fun x_21 =>
 if (decide ((imax 1 (imin p1 2)) > x_21)) = true then
 (some (1, ([65533] : List Int)) : Option (Int × (List Int)))
 else
 (some ((imax 1 (imin p1 2)), p2) : Option (Int × (List Int)))).bind fun z_15 =>
 (f_place_Pen_room x_4.1 p0 z_15.1).bind fun x_30 =>
 (p0).bind fun k_33 =>
 (x_30.place_Pen[k_33]?).bind fun o_36 =>
 (f_grid_Grid_Row x_30 o_36.G o_36.At.Row).bind fun x_56 =>
 (f_mark_Put x_30 x_56 o_36.At.Col z_15.1 z_15.2).bind fun x_57 =>
 (x_57.1.place_Pen[k_33]?).bind fun o_65 =>
 (f_grid_Grid_Wide x_57.1 o_65.G).bind fun x_70 =>
 (f_cursor_After (⟨o_36.At.Row, o_36.At.Col, false⟩ : G_api_Cursor) z_15.1 x_70 o_65.Auto).bind fun x_71 =>
 (x_57.1.set_place_Pen k_33 (⟨o_65.G, x_71, o_65.Auto⟩ : G_place_Pen)).bind fun s_74001 =>
 some (s_74001, (⟨o_36.At.Row, o_36.At.Col, false⟩ : G_api_Cursor))
theorem c_place_Pen_Put (O0 : Own c0 G F) (R0 : Rel c0 sg G) (hG : Gl [0, 4] c0) (p0 : Option Nat) (p1 : Int) (p2 : List Int) {r : Sto × G_api_Cursor} (h2 : Pt 2 c0 v1 p0) (h4 : Sl (RI .i32) c0 v3 p2) (H : f_place_Pen_Put sg p0 p1 p2 = some r) :
    Calls Tryz.prog 71 #[v1, .int .i64 p1, v3] c0.w (Post c0 fun c v => ∃ G_ : Gm, Own c G_ (F) ∧ Rel c r.1 G_ ∧ v = .agg #[.int .i64 r.2.Row, .int .i64 r.2.Col, .bool r.2.Pending]) := by
 unfold f_place_Pen_Put at H
 refine en func71 rfl rfl (sr (me (al 24 [.int .i64 0, .int .i64 0, .bool false] O0) ?_))
 rintro v8 c7 l7 ⟨b5, rfl, O6⟩
 refine wln (W.seq (sr (va (v1) (bn H fun x_4 h9 H => cl (c_place_Pen_ready O6 R0.m p0 h2.m h9) ?_))))
 rintro v15 c14 l14 ⟨G10, O11, R12, rfl⟩
 refine va (.bool (!x_4.2)) (wln (cn H (fun h16 H => ?_) (fun h16 H => ?_)))
 ·refine sr (va (.agg #[.int .i64 0, .int .i64 0, .bool false]) (md (sA 24 [.int .i64 0, .int .i64 0, .bool false] 0 O11 ⟨rfl, rfl, rfl, trivial⟩) ?_))
  rintro c18 l18 O17
  refine wln (W.ret (thr ?_))
  obtain rfl := si H
  have O19 := O17.sD 1 []
  exact retC (c := c18) (vs := [.int .i64 0, .int .i64 0, .bool false]) rfl (by kernel_rfl) (by kernel_rfl) (by kernel_rfl) (O17.on 0 rfl _ rfl).1 ⟨_, c18, rfl, rfl, pt, G10, O19, R12.m, rfl⟩
 refine W.skip (nrm (sr (va (.int .i64 p1) (va (.int .i64 (imin p1 2)) (va (.int .i64 (imax 1 (imin p1 2))) (va (.int .i64 (imax 1 (imin p1 2))) (wln (bn H fun z_15 H20 H21 => W.seqJ (Jn c14 fun c l => ∃ v22, Own c G10 (⟨.pointer (some ⟨b5, 0, none⟩), 24, [.int .i64 0, .int .i64 0, .bool false], 0⟩ :: F) ∧ l = [(0, v1), (1, .int .i64 z_15.1), (2, v22), (6, .pointer (some ⟨b5, 0, none⟩))] ∧ Sl (RI .i32) c v22 z_15.2) ?_ ?_))))))))
 ·refine sr (va (.int .i64 (imax 1 (imin p1 2))) (va (v1) (bn H20 fun k_18 h25 H20 => ?_)))
  obtain ⟨b23, rfl, h24⟩ := ((h2.mono (l7.trans l14))).get h25
  refine va (.pointer (some ⟨b23, 0, none⟩)) (va (.pointer (some ⟨b23, 0, none⟩)) (bn H20 fun o_20 h26 H20 => ?_))
  obtain ⟨v27, h29, h28⟩ := Rel.open_place_Pen R12 h26 h24
  refine vx (le1 0 underlying35 (O11.gon h29 0 rfl)) (bn H20 fun x_21 h30 H20 => cl (c_grid_Grid_Wide O11 R12 o_20.G h28 h30) ?_)
  rintro v36 c35 l35 ⟨O32, rfl⟩
  refine va (.bool (decide ((imax 1 (imin p1 2)) > x_21))) (wln (cn H20 (fun h37 H20 => ?_) (fun h37 H20 => ?_)))
  ·refine W.region (me (sl (RI .i32) 21 [[.int .i32 65533]] ([65533] : List Int) O32 ⟨rfl, trivial⟩) ?_)
   rintro v42 c41 l41 ⟨u39, O38, h40⟩
   refine va (.int .i64 1) (va (v42) (wln ?_))
   obtain rfl := si H20
   obtain ⟨c45, h46, l45, O43, h44⟩ := O38.frz 0 rfl h40
   have O47 := O43.sD 2 [1]
   exact ⟨c45, _, _, h46.symm, pt, us, v42, O47, rfl, h44⟩
  refine W.skip (nrm ?_)
  obtain rfl := si H20
  exact ⟨c35, _, _, rfl, pt, us, v3, O32, rfl, h4.m⟩
 rintro e_ w_ ⟨c48, g49, _, rfl, l48, rfl, v22, O50, rfl, h51⟩
 refine sr (va (v1) (va (.int .i64 z_15.1) (bn H21 fun x_30 h55 H21 => cl (c_place_Pen_room O50 R12.m (hG.m.le (by decide)) p0 z_15.1 h2.m h55) ?_)))
 rintro v61 c60 l60 ⟨G56, O57, R58, rfl⟩
 refine wln (W.seq (rD [] (Kp G56 []) O57 ?_))
 intro c62 l62 O63
 have p64 : Kp G56 [] c62 := (Kp.nil O63)
 refine ta 0 (v1) (bn H21 fun k_33 h67 H21 => ?_)
 obtain ⟨b65, rfl, h66⟩ := ((h2.mono (l7.trans (l14.trans (l48.trans (l60.trans l62)))))).get h67
 refine ta 1 (.pointer (some ⟨b65, 0, none⟩)) (ta 2 (.pointer (some ⟨b65, 1, none⟩)) (ta 3 (.pointer (some ⟨b65, 1, none⟩)) (bn H21 fun o_36 h68 H21 => ?_)))
 obtain ⟨v69, h71, h70⟩ := Rel.open_place_Pen (R58.mono l62) h68 h66
 refine tkx 4 p64 (fun c' hle hk => le1 1 underlying3 (hk.gon h71 0 rfl)) (ta 5 (.pointer (some ⟨b65, 0, none⟩)) (ta 6 (.pointer (some ⟨b65, 0, none⟩)) (ta 7 (.pointer (some ⟨b65, 1, none⟩)) (ta 8 (.pointer (some ⟨b65, 2, none⟩)) (tkx 9 p64 (fun c' hle hk => le1 2 underlying3 (hk.gon h71 0 rfl)) (ta 10 (.agg #[.int .i64 o_36.At.Row, .int .i64 o_36.At.Col, .bool false]) (o1 11 (gm 11 (al 24 [.int .i64 0, .int .i64 0, .bool false] O63) ?_))))))))
 rintro v75 c74 l74 ⟨b72, rfl, O73⟩
 have p76 : Kp G56 [] c74 := (Kp.nil O73)
 refine ⟨.inr p76, o1 12 (gD 12 (sA 24 [.int .i64 o_36.At.Row, .int .i64 o_36.At.Col, .bool false] 0 O73 ⟨rfl, rfl, rfl, trivial⟩) ?_)⟩
 rintro c78 l78 O77
 have p79 : Kp G56 [] c78 := (Kp.nil O77)
 refine ⟨.inr p79, dn (nrm (W.seq (rD [11] (Kp G56 [⟨.pointer (some ⟨b72, 0, none⟩), 24, [.int .i64 o_36.At.Row, .int .i64 o_36.At.Col, .bool false], 0⟩]) O77 ?_)))⟩
 intro c80 l80 O81
 have p82 : Kp G56 [⟨.pointer (some ⟨b72, 0, none⟩), 24, [.int .i64 o_36.At.Row, .int .i64 o_36.At.Col, .bool false], 0⟩] c80 := (Kp.cons (O81.on 0 rfl) (Kp.nil O81))
 refine ta 0 (.pointer (some ⟨b65, 0, none⟩)) (ta 1 (.pointer (some ⟨b65, 0, none⟩)) (ta 2 (.pointer (some ⟨b65, 0, none⟩)) (tkx 3 p82 (fun c' hle hk => le1 0 underlying35 (hk.gon h71 0 rfl)) (ta 4 (.pointer (some ⟨b72, 0, none⟩)) (tkx 5 p82 (fun c' hle hk => le1 0 underlying3 (hk.on 0 rfl)) (ta 7 (.pointer (some ⟨b72, 1, none⟩)) (tkx 8 p82 (fun c' hle hk => le1 1 underlying3 (hk.on 0 rfl)) (ta 9 (.int .i64 z_15.1) (ta 10 (v22) (bn H21 fun x_56 h83 H21 => o1 6 (gc 6 (c_grid_Grid_Row O81 R58.m o_36.G o_36.At.Row h70.m h83) ?_)))))))))))
 rintro v84 c90 l90 ⟨_, O87, rfl, h85⟩
 have p92 : Kp G56 [⟨.pointer (some ⟨b72, 0, none⟩), 24, [.int .i64 o_36.At.Row, .int .i64 o_36.At.Col, .bool false], 0⟩] c90 := (Kp.cons (O87.on 0 rfl) (Kp.nil O87))
 refine ⟨.inr p92, bn H21 fun x_57 h93 H21 => o1 11 (gc 11 (c_mark_Put O87 R58.m (hG.m.le (by decide)) x_56 o_36.At.Col z_15.1 z_15.2 h85 h51.m h93) ?_)⟩
 rintro v94 c100 l100 ⟨_, G96, O97, R98, rfl, h95⟩
 refine ⟨.inl rfl, dn (nrm (W.seq (rD [15] (Kp G96 [⟨.pointer (some ⟨b72, 0, none⟩), 24, [.int .i64 o_36.At.Row, .int .i64 o_36.At.Col, .bool false], 0⟩]) O97 ?_)))⟩
 intro c102 l102 O103
 have p104 : Kp G96 [⟨.pointer (some ⟨b72, 0, none⟩), 24, [.int .i64 o_36.At.Row, .int .i64 o_36.At.Col, .bool false], 0⟩] c102 := (Kp.cons (O103.on 0 rfl) (Kp.nil O103))
 refine ta 0 (.pointer (some ⟨b65, 0, none⟩)) (tkx 1 p104 (fun c' hle hk => leN 24 0 [.int .i64 o_36.At.Row, .int .i64 o_36.At.Col, .bool false] (hk.on 0 rfl)) (ta 2 (.int .i64 z_15.1) (ta 3 (.pointer (some ⟨b65, 0, none⟩)) (ta 4 (.pointer (some ⟨b65, 0, none⟩)) (ta 5 (.pointer (some ⟨b65, 0, none⟩)) (bn H21 fun o_65 h105 H21 => ?_))))))
 obtain ⟨v106, h108, h107⟩ := Rel.open_place_Pen (R98.mono l102) h105 (tm h66)
 refine tkx 6 p104 (fun c' hle hk => le1 0 underlying35 (hk.gon h108 0 rfl)) (ta 8 (.pointer (some ⟨b65, 0, none⟩)) (ta 9 (.pointer (some ⟨b65, 0, none⟩)) (ta 10 (.pointer (some ⟨b65, 4, none⟩)) (tkx 11 p104 (fun c' hle hk => le1 4 underlying4 (hk.gon h108 0 rfl)) (bn H21 fun x_70 h109 H21 => o1 7 (gc 7 (c_grid_Grid_Wide O103 R98.m o_65.G h107 h109) ?_))))))
 rintro v115 c114 l114 ⟨O111, rfl⟩
 have p116 : Kp G96 [⟨.pointer (some ⟨b72, 0, none⟩), 24, [.int .i64 o_36.At.Row, .int .i64 o_36.At.Col, .bool false], 0⟩] c114 := (Kp.cons (O111.on 0 rfl) (Kp.nil O111))
 refine ⟨.inr p116, bn H21 fun x_71 h117 H21 => o1 12 (gc 12 (c_cursor_After O111 (⟨o_36.At.Row, o_36.At.Col, false⟩ : G_api_Cursor) z_15.1 x_70 o_65.Auto h117) ?_)⟩
 rintro v123 c122 l122 ⟨O119, rfl⟩
 have p124 : Kp G96 [⟨.pointer (some ⟨b72, 0, none⟩), 24, [.int .i64 o_36.At.Row, .int .i64 o_36.At.Col, .bool false], 0⟩] c122 := (Kp.cons (O119.on 0 rfl) (Kp.nil O119))
 refine ⟨.inr p124, ta 13 (.pointer (some ⟨b65, 0, none⟩)) (ta 14 (.pointer (some ⟨b65, 1, none⟩)) (o1 15 (gD 15 (gB 24 1 [.int .i64 x_71.Row, .int .i64 x_71.Col, .bool x_71.Pending] [v106, .int .i64 x_71.Row, .int .i64 x_71.Col, .bool x_71.Pending, .bool o_65.Auto] 0 O119 h108 ⟨rfl, rfl, rfl, trivial⟩) ?_)))⟩
 rintro c126 l126 O125
 refine bn H21 fun s_74001 h131 H21 => ?_
 obtain ⟨G127, O128, R129, h130, a132⟩ := Rel.put_place_Pen O125 (R98.mono (l102.trans (l114.trans (l122.trans l126)))) (E' := [⟨.pointer (some ⟨b65, 0, none⟩), 42, [v106, .int .i64 x_71.Row, .int .i64 x_71.Col, .bool x_71.Pending, .bool o_65.Auto], 0⟩]) h131 ⟨b65, v106, ((l74.trans (l78.trans (l80.trans (l90.trans (l100.trans (l102.trans (l114.trans (l122.trans l126)))))))).t _ _ _ h66), rfl, (h107.mono (l114.trans (l122.trans l126)))⟩
 refine ⟨.inl rfl, dn (nrm (sr (vx (leN 24 0 [.int .i64 o_36.At.Row, .int .i64 o_36.At.Col, .bool false] (O128.on 0 rfl)) (md (sA 24 [.int .i64 o_36.At.Row, .int .i64 o_36.At.Col, .bool false] 1 O128 ⟨rfl, rfl, rfl, trivial⟩) ?_))))⟩
 rintro c134 l134 O133
 refine wln (W.ret ?_)
 obtain rfl := si H21
 have O135 := O133.sD 2 []
 exact retC (c := c134) (vs := [.int .i64 o_36.At.Row, .int .i64 o_36.At.Col, .bool false]) rfl (by kernel_rfl) (by kernel_rfl) (by kernel_rfl) (O133.on 1 rfl _ rfl).1 ⟨_, c134, rfl, rfl, pt, G127, O135, R129.m, rfl⟩
def f_linotyperef31_within (p0 : Int) (p1 : Int) : Option (Int) :=
 if (decide (p0 < 0)) = true then
 some 0
 else
 if (decide (p0 ≥ p1)) = true then
 some (w64 (p1 - 1))
 else
 some p0
theorem c_linotyperef31_within (O0 : Own c0 G F) (p0 : Int) (p1 : Int) {r : Int} (H : f_linotyperef31_within p0 p1 = some r) :
    Calls Tryz.prog 162 #[.int .i64 p0, .int .i64 p1] c0.w (Post c0 fun c v => Own c G (F) ∧ v = .int .i64 r) := by
 unfold f_linotyperef31_within at H
 refine en func162 rfl rfl (sr (va (.int .i64 0) (wln (W.seq (sr (va (.int .i64 p0) (va (.bool (decide (p0 < 0))) (wln (cn H (fun h1 H => ?_) (fun h1 H => ?_))))))))))
 ·refine sr (va (.int .i64 0) (wln (W.ret (thr ?_))))
  obtain rfl := si H
  exact r1 ⟨_, c0, rfl, rfl, pt, O0, rfl⟩
 refine W.skip (nrm (W.seq (sr (va (.int .i64 p0) (va (.int .i64 p1) (va (.bool (decide (p0 ≥ p1))) (wln (cn H (fun h2 H => ?_) (fun h2 H => ?_)))))))))
 ·refine sr (va (.int .i64 p1) (va (.int .i64 (w64 (p1 - 1))) (va (.int .i64 (w64 (p1 - 1))) (wln (W.ret (thr ?_))))))
  obtain rfl := si H
  exact r1 ⟨_, c0, rfl, rfl, pt, O0, rfl⟩
 refine W.skip (nrm (sr (va (.int .i64 p0) (va (.int .i64 p0) (wln (W.ret ?_))))))
 obtain rfl := si H
 exact r1 ⟨_, c0, rfl, rfl, pt, O0, rfl⟩
def f_linotyperef31_Side (p0 : Int) : Option (Int) :=
 if (decide (p0 < 1)) = true then
 some 1
 else
 if (decide (p0 > 1024)) = true then
 some 1024
 else
 some p0
theorem c_linotyperef31_Side (O0 : Own c0 G F) (p0 : Int) {r : Int} (H : f_linotyperef31_Side p0 = some r) :
    Calls Tryz.prog 163 #[.int .i64 p0] c0.w (Post c0 fun c v => Own c G (F) ∧ v = .int .i64 r) := by
 unfold f_linotyperef31_Side at H
 refine en func163 rfl rfl (sr (va (.int .i64 0) (wln (W.seq (sr (va (.int .i64 p0) (va (.bool (decide (p0 < 1))) (wln (cn H (fun h1 H => ?_) (fun h1 H => ?_))))))))))
 ·refine sr (va (.int .i64 1) (wln (W.ret (thr ?_))))
  obtain rfl := si H
  exact r1 ⟨_, c0, rfl, rfl, pt, O0, rfl⟩
 refine W.skip (nrm (W.seq (sr (va (.int .i64 p0) (va (.bool (decide (p0 > 1024))) (wln (cn H (fun h2 H => ?_) (fun h2 H => ?_))))))))
 ·refine sr (va (.int .i64 1024) (wln (W.ret (thr ?_))))
  obtain rfl := si H
  exact r1 ⟨_, c0, rfl, rfl, pt, O0, rfl⟩
 refine W.skip (nrm (sr (va (.int .i64 p0) (va (.int .i64 p0) (wln (W.ret ?_))))))
 obtain rfl := si H
 exact r1 ⟨_, c0, rfl, rfl, pt, O0, rfl⟩
def f_linotyperef31_Hold (p0 : G_api_Cursor) (p1 : Int) (p2 : Int) : Option (G_api_Cursor) :=
 (f_linotyperef31_Side p2).bind fun x_12 =>
 (f_linotyperef31_within p0.Row x_12).bind fun x_13 =>
 (f_linotyperef31_Side p1).bind fun x_14 =>
 (f_linotyperef31_within p0.Col x_14).bind fun x_15 =>
 (andE p0.Pending ((f_linotyperef31_Side p1).bind fun x_21 =>
 some (p0.Col == (w64 (x_21 - 1))))).bind fun d_16 =>
 some (⟨x_13, x_15, d_16⟩ : G_api_Cursor)
theorem c_linotyperef31_Hold (O0 : Own c0 G F) (p0 : G_api_Cursor) (p1 : Int) (p2 : Int) {r : G_api_Cursor} (H : f_linotyperef31_Hold p0 p1 p2 = some r) :
    Calls Tryz.prog 91 #[.agg #[.int .i64 p0.Row, .int .i64 p0.Col, .bool p0.Pending], .int .i64 p1, .int .i64 p2] c0.w (Post c0 fun c v => Own c G (F) ∧ v = .agg #[.int .i64 r.Row, .int .i64 r.Col, .bool r.Pending]) := by
 unfold f_linotyperef31_Hold at H
 refine en func91 rfl rfl (sr (me (bx 24 [.int .i64 p0.Row, .int .i64 p0.Col, .bool p0.Pending] O0) ?_))
 rintro v5 c4 l4 ⟨b1, rfl, O2, m3⟩
 refine me (al 24 [.int .i64 0, .int .i64 0, .bool false] O2) ?_
 rintro v9 c8 l8 ⟨b6, rfl, O7⟩
 refine wln (W.seq (bn H fun x_12 h10 H => bn H fun x_13 h11 H => bn H fun x_14 h12 H => bn H fun x_15 h13 H => bn H fun d_16 h14 H => W.join (Jn c8 fun c l => Own c G (⟨.pointer (some ⟨b6, 0, none⟩), 24, [.int .i64 x_13, .int .i64 x_15, .bool d_16], 0⟩ :: F) ∧ l = [(6, .pointer (some ⟨b6, 0, none⟩))]) ?_ ?_))
 ·clear H
  refine rD [] (Kp G0 []) O7 ?_
  intro c15 l15 O16
  have p17 : Kp G0 [] c15 := Kp.nil0
  refine ta 0 (.pointer (some ⟨b1, 0, none⟩)) (tx 1 (fun c' hle => l1 underlying3 ((mm m3) 0 _ rfl)) (ta 2 (.int .i64 p2) (ta 5 (.pointer (some ⟨b1, 0 + 1, none⟩)) (tx 6 (fun c' hle => l1 underlying3 ((mm m3) 1 _ rfl)) (ta 7 (.int .i64 p1) (ta 10 (.pointer (some ⟨b1, 0 + 2, none⟩)) (tx 11 (fun c' hle => l1 underlying4 ((mm m3) 2 _ rfl)) (o1 3 (gc 3 (c_linotyperef31_Side O16 p2 h10) ?_)))))))))
  rintro v23 c22 l22 ⟨O19, rfl⟩
  have p24 : Kp G0 [] c22 := Kp.nil0
  refine ⟨.inr p24, o1 4 (gc 4 (c_linotyperef31_within O19 p0.Row x_12 h11) ?_)⟩
  rintro v30 c29 l29 ⟨O26, rfl⟩
  have p31 : Kp G0 [] c29 := Kp.nil0
  refine ⟨.inr p31, o1 8 (gc 8 (c_linotyperef31_Side O26 p1 h12) ?_)⟩
  rintro v37 c36 l36 ⟨O33, rfl⟩
  have p38 : Kp G0 [] c36 := Kp.nil0
  refine ⟨.inr p38, o1 9 (gc 9 (c_linotyperef31_within O33 p0.Col x_14 h13) ?_)⟩
  rintro v44 c43 l43 ⟨O40, rfl⟩
  have p45 : Kp G0 [] c43 := Kp.nil0
  refine ⟨.inr p45, ?_⟩
  rcases bo (p0.Pending) with h46 | h46
  ·have H47 := anT h46 h14
   refine bn H47 fun x_21 h48 H47 => AC.takeb 12 h46 rfl (by kernel_rfl) (by kernel_rfl) (fun c' hle => (by kernel_rfl)) (ta 13 (.pointer (some ⟨b1, 0 + 1, none⟩)) (tx 14 (fun c' hle => l1 underlying3 ((mm m3) 1 _ rfl)) (ta 15 (.int .i64 p1) (o1 16 (gc 16 (c_linotyperef31_Side O40 p1 h48) ?_)))))
   rintro v54 c53 l53 ⟨O50, rfl⟩
   have p55 : Kp G0 [] c53 := Kp.nil0
   refine ⟨.inr p55, ta 17 (.int .i64 (w64 (x_21 - 1))) (ta 18 (.bool (p0.Col == (w64 (x_21 - 1)))) ?_)⟩
   obtain rfl := si H47
   refine ta 19 (.bool (p0.Col == (w64 (x_21 - 1)))) (ta 20 (.agg #[.int .i64 x_13, .int .i64 x_15, .bool (p0.Col == (w64 (x_21 - 1)))]) (o1 21 (gD 21 (sA 24 [.int .i64 x_13, .int .i64 x_15, .bool (p0.Col == (w64 (x_21 - 1)))] 0 O50 ⟨rfl, rfl, rfl, trivial⟩) ?_)))
   rintro c57 l57 O56
   have p58 : Kp G0 [] c57 := Kp.nil0
   exact ⟨.inr p58, dn (nrm ⟨c57, _, _, rfl, pt, us, O56, rfl⟩)⟩
  obtain rfl := anF h46 h14
  refine AC.takeb 12 h46 rfl (by kernel_rfl) (by kernel_rfl) (fun c' hle => (by kernel_rfl)) (tp 13 (tp 14 (tp 15 (tp 16 (tp 17 (tp 18 (ta 19 (.bool false) (ta 20 (.agg #[.int .i64 x_13, .int .i64 x_15, .bool false]) (o1 21 (gD 21 (sA 24 [.int .i64 x_13, .int .i64 x_15, .bool false] 0 O40 ⟨rfl, rfl, rfl, trivial⟩) ?_))))))))))
  rintro c60 l60 O59
  have p61 : Kp G0 [] c60 := Kp.nil0
  exact ⟨.inr p61, dn (nrm ⟨c60, _, _, rfl, pt, us, O59, rfl⟩)⟩
 rintro e_ w_ ⟨c62, g63, _, rfl, l62, rfl, O64, rfl⟩
 refine nrm (W.ret ?_)
 obtain rfl := si H
 have O68 := O64.sD 1 []
 exact retC (c := c62) (vs := [.int .i64 x_13, .int .i64 x_15, .bool d_16]) rfl (by kernel_rfl) (by kernel_rfl) (by kernel_rfl) (O64.on 0 rfl _ rfl).1 ⟨_, c62, rfl, rfl, pt, O68, rfl⟩
def f_linotyperef34_Pen_Wide (p0 : G_linotyperef34_Pen) : Option (Int) :=
 (idx p0.L 0).bind fun x_6 =>
 some (x_6.Cells.length : Int)
theorem c_linotyperef34_Pen_Wide (O0 : Own c0 G F) (p0 : G_linotyperef34_Pen) {r : Int} (h2 : Sl R_api_Line c0 v1 p0.L) (H : f_linotyperef34_Pen_Wide p0 = some r) :
    Calls Tryz.prog 92 #[.agg #[v1, .int .i64 p0.At.Row, .int .i64 p0.At.Col, .bool p0.At.Pending, .bool p0.Auto]] c0.w (Post c0 fun c v => Own c G (F) ∧ v = .int .i64 r) := by
 unfold f_linotyperef34_Pen_Wide at H
 refine en func92 rfl rfl (sr ?_)
 obtain ⟨a3, a4, a5, rfl⟩ := (h2).form
 refine me (bx 43 [.slice a3 a4 a5, .int .i64 p0.At.Row, .int .i64 p0.At.Col, .bool p0.At.Pending, .bool p0.Auto] O0) ?_
 rintro v10 c9 l9 ⟨b6, rfl, O7, m8⟩
 refine va (.int .i64 0) (wln (sr (va (.pointer (some ⟨b6, 0, none⟩)) (vx (l1 underlying22 (m8 0 _ rfl)) (bn H fun x_6 h11 H => ?_)))))
 obtain ⟨l_12, h13, m14⟩ := Sl.at (h2.mono l9) (idx_get h11)
 obtain ⟨v15, rfl, h16⟩ := h13
 refine vx (ix underlying22 h2.m h11) (va (.pointer (some ⟨sb (.slice a3 a4 a5), so (.slice a3 a4 a5) + (0 : Int).toNat * 2, none⟩)) (vx (l1 underlying69 (m14 0 _ rfl)) (vx (ln 3 underlying69 h16) (va (.int .i64 (x_6.Cells.length : Int)) (wln (W.ret ?_))))))
 obtain rfl := si H
 exact r1 ⟨_, c9, rfl, rfl, pt, O7, rfl⟩
def f_linotyperef34_Pen_Hold (p0 : G_linotyperef34_Pen) : Option (G_linotyperef34_Pen) :=
 (f_linotyperef34_Pen_Wide p0).bind fun x_10 =>
 (f_linotyperef31_Hold p0.At x_10 (p0.L.length : Int)).bind fun x_11 =>
 some (⟨p0.L, x_11, p0.Auto⟩ : G_linotyperef34_Pen)
theorem c_linotyperef34_Pen_Hold (O0 : Own c0 G F) (p0 : G_linotyperef34_Pen) {r : G_linotyperef34_Pen} (h2 : Sl R_api_Line c0 v1 p0.L) (H : f_linotyperef34_Pen_Hold p0 = some r) :
    Calls Tryz.prog 90 #[.agg #[v1, .int .i64 p0.At.Row, .int .i64 p0.At.Col, .bool p0.At.Pending, .bool p0.Auto]] c0.w (Post c0 fun c v => ∃ y1, Own c G (F) ∧ v = .agg #[y1, .int .i64 r.At.Row, .int .i64 r.At.Col, .bool r.At.Pending, .bool r.Auto] ∧ Sl R_api_Line c y1 r.L) := by
 unfold f_linotyperef34_Pen_Hold at H
 refine en func90 rfl rfl (sr ?_)
 obtain ⟨a3, a4, a5, rfl⟩ := (h2).form
 refine me (al 43 [.slice a3 a4 a5, .int .i64 p0.At.Row, .int .i64 p0.At.Col, .bool p0.At.Pending, .bool p0.Auto] O0) ?_
 rintro v9 c8 l8 ⟨b6, rfl, O7⟩
 refine me (al 43 [.slice none 0 0, .int .i64 0, .int .i64 0, .bool false, .bool false] O7) ?_
 rintro v13 c12 l12 ⟨b10, rfl, O11⟩
 refine wln (W.seq (rD [9] (Kp G0 [⟨.pointer (some ⟨b6, 0, none⟩), 43, [.slice a3 a4 a5, .int .i64 p0.At.Row, .int .i64 p0.At.Col, .bool p0.At.Pending, .bool p0.Auto], 0⟩]) O11 ?_))
 intro c14 l14 O15
 have p16 : Kp G0 [⟨.pointer (some ⟨b6, 0, none⟩), 43, [.slice a3 a4 a5, .int .i64 p0.At.Row, .int .i64 p0.At.Col, .bool p0.At.Pending, .bool p0.Auto], 0⟩] c14 := (Kp.cons (O15.on 1 rfl) Kp.nil0)
 refine ta 0 (.pointer (some ⟨b6, 1, none⟩)) (tkx 1 p16 (fun c' hle hk => leN 24 1 [.int .i64 p0.At.Row, .int .i64 p0.At.Col, .bool p0.At.Pending] (hk.on 0 rfl)) (tkx 2 p16 (fun c' hle hk => leN 43 0 [.slice a3 a4 a5, .int .i64 p0.At.Row, .int .i64 p0.At.Col, .bool p0.At.Pending, .bool p0.Auto] (hk.on 0 rfl)) (ta 4 (.pointer (some ⟨b6, 0, none⟩)) (tkx 5 p16 (fun c' hle hk => le1 0 underlying22 (hk.on 0 rfl)) (tx 6 (fun c' hle => ln 3 underlying22 h2.m) (bn H fun x_10 h17 H => o1 3 (gc 3 (c_linotyperef34_Pen_Wide O15 p0 h2.m h17) ?_)))))))
 rintro v23 c22 l22 ⟨O19, rfl⟩
 have p24 : Kp G0 [⟨.pointer (some ⟨b6, 0, none⟩), 43, [.slice a3 a4 a5, .int .i64 p0.At.Row, .int .i64 p0.At.Col, .bool p0.At.Pending, .bool p0.Auto], 0⟩] c22 := (Kp.cons (O19.on 1 rfl) Kp.nil0)
 refine ⟨.inr p24, bn H fun x_11 h25 H => o1 7 (gc 7 (c_linotyperef31_Hold O19 p0.At x_10 (p0.L.length : Int) h25) ?_)⟩
 rintro v31 c30 l30 ⟨O27, rfl⟩
 have p32 : Kp G0 [⟨.pointer (some ⟨b6, 0, none⟩), 43, [.slice a3 a4 a5, .int .i64 p0.At.Row, .int .i64 p0.At.Col, .bool p0.At.Pending, .bool p0.Auto], 0⟩] c30 := (Kp.cons (O27.on 1 rfl) Kp.nil0)
 refine ⟨.inr p32, ta 8 (.pointer (some ⟨b6, 1, none⟩)) (o1 9 (gD 9 (sB 24 1 [.int .i64 x_11.Row, .int .i64 x_11.Col, .bool x_11.Pending] [.slice a3 a4 a5, .int .i64 x_11.Row, .int .i64 x_11.Col, .bool x_11.Pending, .bool p0.Auto] 1 O27 ⟨rfl, rfl, rfl, trivial⟩) ?_))⟩
 rintro c34 l34 O33
 refine ⟨.inl rfl, dn (nrm (sr (vx (leN 43 0 [.slice a3 a4 a5, .int .i64 x_11.Row, .int .i64 x_11.Col, .bool x_11.Pending, .bool p0.Auto] (O33.on 1 rfl)) (md (sA 43 [.slice a3 a4 a5, .int .i64 x_11.Row, .int .i64 x_11.Col, .bool x_11.Pending, .bool p0.Auto] 0 O33 ⟨h2.m.one, rfl, rfl, rfl, rfl, trivial⟩) ?_))))⟩
 rintro c36 l36 O35
 refine wln (W.ret ?_)
 obtain rfl := si H
 have O37 := O35.sD 2 []
 exact retC (c := c36) (vs := [.slice a3 a4 a5, .int .i64 x_11.Row, .int .i64 x_11.Col, .bool x_11.Pending, .bool p0.Auto]) rfl (by kernel_rfl) (by kernel_rfl) (by kernel_rfl) (O35.on 0 rfl _ rfl).1 ⟨_, c36, rfl, rfl, pt, (.slice a3 a4 a5), O37, rfl, h2.m⟩
def f_linotyperef34_Pen_NewLine (p0 : G_linotyperef34_Pen) : Option (G_linotyperef34_Pen) :=
 (f_linotyperef34_Pen_Hold p0).bind fun x_5 =>
 if (decide ((w64 (x_5.At.Row + 1)) < (x_5.L.length : Int))) = true then
 some (⟨x_5.L, (⟨(w64 (x_5.At.Row + 1)), x_5.At.Col, false⟩ : G_api_Cursor), x_5.Auto⟩ : G_linotyperef34_Pen)
 else
 (f_linotyperef33_Move x_5.L 0 (x_5.L.length : Int) 1 true).bind fun x_37 =>
 some (⟨x_37, (⟨x_5.At.Row, x_5.At.Col, false⟩ : G_api_Cursor), x_5.Auto⟩ : G_linotyperef34_Pen)
theorem c_linotyperef34_Pen_NewLine (O0 : Own c0 G F) (p0 : G_linotyperef34_Pen) {r : G_linotyperef34_Pen} (h2 : Sl R_api_Line c0 v1 p0.L) (H : f_linotyperef34_Pen_NewLine p0 = some r) :
    Calls Tryz.prog 204 #[.agg #[v1, .int .i64 p0.At.Row, .int .i64 p0.At.Col, .bool p0.At.Pending, .bool p0.Auto]] c0.w (Post c0 fun c v => ∃ y1, Own c G (F) ∧ v = .agg #[y1, .int .i64 r.At.Row, .int .i64 r.At.Col, .bool r.At.Pending, .bool r.Auto] ∧ Sl R_api_Line c y1 r.L) := by
 unfold f_linotyperef34_Pen_NewLine at H
 refine en func204 rfl rfl (sr ?_)
 obtain ⟨a3, a4, a5, rfl⟩ := (h2).form
 refine me (al 43 [.slice a3 a4 a5, .int .i64 p0.At.Row, .int .i64 p0.At.Col, .bool p0.At.Pending, .bool p0.Auto] O0) ?_
 rintro v9 c8 l8 ⟨b6, rfl, O7⟩
 refine me (al 43 [.slice none 0 0, .int .i64 0, .int .i64 0, .bool false, .bool false] O7) ?_
 rintro v13 c12 l12 ⟨b10, rfl, O11⟩
 refine wln (sr (vx (leN 43 0 [.slice a3 a4 a5, .int .i64 p0.At.Row, .int .i64 p0.At.Col, .bool p0.At.Pending, .bool p0.Auto] (O11.on 1 rfl)) (bn H fun x_5 h14 H => cl (c_linotyperef34_Pen_Hold O11 p0 h2.m h14) ?_)))
 rintro v22 c21 l21 ⟨v15, O18, rfl, h16⟩
 obtain ⟨a23, a24, a25, rfl⟩ := (h16).form
 refine md (sA 43 [.slice a23 a24 a25, .int .i64 x_5.At.Row, .int .i64 x_5.At.Col, .bool x_5.At.Pending, .bool x_5.Auto] 1 O18 ⟨h16.one, rfl, rfl, rfl, rfl, trivial⟩) ?_
 rintro c27 l27 O26
 refine wln (sr (va (.pointer (some ⟨b6, 1, none⟩)) (va (.pointer (some ⟨b6, 3, none⟩)) (md (sC 4 3 (.bool false) [.slice a23 a24 a25, .int .i64 x_5.At.Row, .int .i64 x_5.At.Col, .bool false, .bool x_5.Auto] 1 O26 ⟨rfl, trivial⟩) ?_))))
 rintro c29 l29 O28
 refine wln (W.seq (sr (va (.pointer (some ⟨b6, 1, none⟩)) (va (.pointer (some ⟨b6, 1, none⟩)) (vx (le1 1 underlying3 (O28.on 1 rfl)) (va (.int .i64 (w64 (x_5.At.Row + 1))) (va (.pointer (some ⟨b6, 0, none⟩)) (vx (le1 0 underlying22 (O28.on 1 rfl)) (vx (ln 3 underlying22 h16.m) (va (.bool (decide ((w64 (x_5.At.Row + 1)) < (x_5.L.length : Int)))) (wln (cn H (fun h30 H => ?_) (fun h30 H => ?_)))))))))))))
 ·refine sr (va (.pointer (some ⟨b6, 1, none⟩)) (va (.pointer (some ⟨b6, 1, none⟩)) (vx (le1 1 underlying3 (O28.on 1 rfl)) (va (.int .i64 (w64 (x_5.At.Row + 1))) (va (.pointer (some ⟨b6, 1, none⟩)) (va (.pointer (some ⟨b6, 1, none⟩)) (md (sC 3 1 (.int .i64 (w64 (x_5.At.Row + 1))) [.slice a23 a24 a25, .int .i64 (w64 (x_5.At.Row + 1)), .int .i64 x_5.At.Col, .bool false, .bool x_5.Auto] 1 O28 ⟨rfl, trivial⟩) ?_)))))))
  rintro c32 l32 O31
  refine wln (sr (vx (leN 43 0 [.slice a23 a24 a25, .int .i64 (w64 (x_5.At.Row + 1)), .int .i64 x_5.At.Col, .bool false, .bool x_5.Auto] (O31.on 1 rfl)) (md (sA 43 [.slice a23 a24 a25, .int .i64 (w64 (x_5.At.Row + 1)), .int .i64 x_5.At.Col, .bool false, .bool x_5.Auto] 0 O31 ⟨h16.m.one, rfl, rfl, rfl, rfl, trivial⟩) ?_)))
  rintro c34 l34 O33
  refine wln (W.ret (thr ?_))
  obtain rfl := si H
  have O35 := O33.sD 2 []
  exact retC (c := c34) (vs := [.slice a23 a24 a25, .int .i64 (w64 (x_5.At.Row + 1)), .int .i64 x_5.At.Col, .bool false, .bool x_5.Auto]) rfl (by kernel_rfl) (by kernel_rfl) (by kernel_rfl) (O33.on 0 rfl _ rfl).1 ⟨_, c34, rfl, rfl, pt, (.slice a23 a24 a25), O35, rfl, h16.m⟩
 refine W.skip (nrm (sr (va (.pointer (some ⟨b6, 0, none⟩)) (vx (le1 0 underlying22 (O28.on 1 rfl)) (va (.pointer (some ⟨b6, 0, none⟩)) (vx (le1 0 underlying22 (O28.on 1 rfl)) (vx (ln 3 underlying22 h16.m) (bn H fun x_37 h36 H => cl (c_linotyperef33_Move O28 x_5.L 0 (x_5.L.length : Int) 1 true h16.m h36) ?_))))))))
 rintro v37 c43 l43 ⟨_, O40, rfl, h38⟩
 refine va (.pointer (some ⟨b6, 0, none⟩)) ?_
 obtain ⟨a45, a46, a47, rfl⟩ := (h38).form
 refine md (sC 22 0 (.slice a45 a46 a47) [.slice a45 a46 a47, .int .i64 x_5.At.Row, .int .i64 x_5.At.Col, .bool false, .bool x_5.Auto] 1 O40 ⟨h38.one, trivial⟩) ?_
 rintro c49 l49 O48
 refine wln (sr (vx (leN 43 0 [.slice a45 a46 a47, .int .i64 x_5.At.Row, .int .i64 x_5.At.Col, .bool false, .bool x_5.Auto] (O48.on 1 rfl)) (md (sA 43 [.slice a45 a46 a47, .int .i64 x_5.At.Row, .int .i64 x_5.At.Col, .bool false, .bool x_5.Auto] 0 O48 ⟨h38.m.one, rfl, rfl, rfl, rfl, trivial⟩) ?_)))
 rintro c51 l51 O50
 refine wln (W.ret ?_)
 obtain rfl := si H
 have O52 := O50.sD 2 []
 exact retC (c := c51) (vs := [.slice a45 a46 a47, .int .i64 x_5.At.Row, .int .i64 x_5.At.Col, .bool false, .bool x_5.Auto]) rfl (by kernel_rfl) (by kernel_rfl) (by kernel_rfl) (O50.on 0 rfl _ rfl).1 ⟨_, c51, rfl, rfl, pt, (.slice a45 a46 a47), O52, rfl, h38.m⟩
def f_linotyperef34_Pen_With (p0 : G_linotyperef34_Pen) (p1 : Int) (p2 : G_api_Line) : Option (G_linotyperef34_Pen) :=
 (app ([] : List G_api_Line) p0.L).bind fun x_8 =>
 (idx x_8 p1).bind fun x_16 =>
 (sets x_8 p1 p2).bind fun w_17 =>
 some (⟨w_17, p0.At, p0.Auto⟩ : G_linotyperef34_Pen)
theorem c_linotyperef34_Pen_With (O0 : Own c0 G F) (p0 : G_linotyperef34_Pen) (p1 : Int) (p2 : G_api_Line) {r : G_linotyperef34_Pen} (h2 : Sl R_api_Line c0 v1 p0.L) (h4 : Sl R_api_Cell c0 v3 p2.Cells) (H : f_linotyperef34_Pen_With p0 p1 p2 = some r) :
    Calls Tryz.prog 98 #[.agg #[v1, .int .i64 p0.At.Row, .int .i64 p0.At.Col, .bool p0.At.Pending, .bool p0.Auto], .int .i64 p1, .agg #[v3, .bool p2.Wrap]] c0.w (Post c0 fun c v => ∃ y1 y2, Own c G (es true R_api_Line y1 71 y2 r.L :: F) ∧ v = .agg #[y1, .int .i64 r.At.Row, .int .i64 r.At.Col, .bool r.At.Pending, .bool r.Auto] ∧ OA R_api_Line c y1 y2 r.L) := by
 unfold f_linotyperef34_Pen_With at H
 refine en func98 rfl rfl (sr ?_)
 obtain ⟨a5, a6, a7, rfl⟩ := (h2).form
 refine me (al 43 [.slice a5 a6 a7, .int .i64 p0.At.Row, .int .i64 p0.At.Col, .bool p0.At.Pending, .bool p0.Auto] O0) ?_
 rintro v11 c10 l10 ⟨b8, rfl, O9⟩
 obtain ⟨a12, a13, a14, rfl⟩ := ((h4.mono l10)).form
 refine me (bx 71 [.slice a12 a13 a14, .bool p2.Wrap] O9) ?_
 rintro v19 c18 l18 ⟨b15, rfl, O16, m17⟩
 refine me (al 43 [.slice none 0 0, .int .i64 0, .int .i64 0, .bool false, .bool false] O16) ?_
 rintro v23 c22 l22 ⟨b20, rfl, O21⟩
 refine wln (sr (me (sl R_api_Line 71 [] ([] : List G_api_Line) O21 trivial) ?_))
 rintro v28 c27 l27 ⟨u25, O24, h26⟩
 refine va (.pointer (some ⟨b8, 0, none⟩)) (vx (le1 0 underlying22 (O24.on 2 rfl)) (bn H fun x_8 h29 H => me (ap R_api_Line (.agg #[.slice none 0 0, .bool false]) 32 22 0 O24 h26 h2.m h29 underlying22) ?_))
 rintro v34 c33 l33 ⟨u31, O30, h32⟩
 refine va (.pointer (some ⟨b8, 0, none⟩)) ?_
 obtain ⟨a35, a36, a37, rfl⟩ := (h32).form
 refine md (sC 22 0 (.slice a35 a36 a37) [.slice a35 a36 a37, .int .i64 p0.At.Row, .int .i64 p0.At.Col, .bool p0.At.Pending, .bool p0.Auto] 2 O30 ⟨(h32).one, trivial⟩) ?_
 rintro c39 l39 O38
 refine wln (sr (va (.pointer (some ⟨b8, 0, none⟩)) (vx (le1 0 underlying22 (O38.on 2 rfl)) (va (.int .i64 p1) (vx (lN 71 (mm m17)) (bn H fun x_16 h40 H => vx (ixO underlying22 h32.m h40) (bn H fun w_17 h41 H => md (Own.stW (R := R_api_Line) (T := 71) (us := [.slice a12 a13 a14, .bool p2.Wrap]) (x' := p2) (u := .agg #[.slice a12 a13 a14, .bool p2.Wrap]) 0 O38 (by kernel_rfl) rfl h32.m h41 rfl (by kernel_rfl) ⟨h4.m.one, rfl, trivial⟩ rfl ⟨(.slice a12 a13 a14), rfl, h4.m⟩) ?_)))))))
 rintro c45 l45 ⟨u43, O42, h44⟩
 refine wln (sr (vx (leN 43 0 [.slice a35 a36 a37, .int .i64 p0.At.Row, .int .i64 p0.At.Col, .bool p0.At.Pending, .bool p0.Auto] (O42.on 2 rfl)) (md (sA 43 [.slice a35 a36 a37, .int .i64 p0.At.Row, .int .i64 p0.At.Col, .bool p0.At.Pending, .bool p0.Auto] 1 O42 ⟨(h44).one, rfl, rfl, rfl, rfl, trivial⟩) ?_)))
 rintro c47 l47 O46
 refine wln (W.ret ?_)
 obtain rfl := si H
 have O48 := O46.sD 3 [0]
 exact retC (c := c47) (vs := [.slice a35 a36 a37, .int .i64 p0.At.Row, .int .i64 p0.At.Col, .bool p0.At.Pending, .bool p0.Auto]) rfl (by kernel_rfl) (by kernel_rfl) (by kernel_rfl) (O46.on 1 rfl _ rfl).1 ⟨_, c47, rfl, rfl, pt, (.slice a35 a36 a37), u43, O48, rfl, h44.m⟩
def f_linotyperef34_Pen_GoOn (p0 : G_linotyperef34_Pen) : Option (G_linotyperef34_Pen) :=
 (idx p0.L p0.At.Row).bind fun x_13 =>
 (f_linotyperef34_Pen_With p0 p0.At.Row (⟨x_13.Cells, true⟩ : G_api_Line)).bind fun x_17 =>
 (f_linotyperef34_Pen_NewLine (⟨x_17.L, (⟨x_17.At.Row, 0, false⟩ : G_api_Cursor), x_17.Auto⟩ : G_linotyperef34_Pen)).bind fun x_28 =>
 some x_28
theorem c_linotyperef34_Pen_GoOn (O0 : Own c0 G F) (p0 : G_linotyperef34_Pen) {r : G_linotyperef34_Pen} (h2 : Sl R_api_Line c0 v1 p0.L) (H : f_linotyperef34_Pen_GoOn p0 = some r) :
    Calls Tryz.prog 157 #[.agg #[v1, .int .i64 p0.At.Row, .int .i64 p0.At.Col, .bool p0.At.Pending, .bool p0.Auto]] c0.w (Post c0 fun c v => ∃ y1, Own c G (F) ∧ v = .agg #[y1, .int .i64 r.At.Row, .int .i64 r.At.Col, .bool r.At.Pending, .bool r.Auto] ∧ Sl R_api_Line c y1 r.L) := by
 unfold f_linotyperef34_Pen_GoOn at H
 refine en func157 rfl rfl (sr ?_)
 obtain ⟨a3, a4, a5, rfl⟩ := (h2).form
 refine me (al 43 [.slice a3 a4 a5, .int .i64 p0.At.Row, .int .i64 p0.At.Col, .bool p0.At.Pending, .bool p0.Auto] O0) ?_
 rintro v9 c8 l8 ⟨b6, rfl, O7⟩
 refine me (al 43 [.slice none 0 0, .int .i64 0, .int .i64 0, .bool false, .bool false] O7) ?_
 rintro v13 c12 l12 ⟨b10, rfl, O11⟩
 refine wln (W.seq (rD [14] (Kp G0 [⟨.pointer (some ⟨b6, 0, none⟩), 43, [.slice a3 a4 a5, .int .i64 p0.At.Row, .int .i64 p0.At.Col, .bool p0.At.Pending, .bool p0.Auto], 0⟩]) O11 ?_))
 intro c14 l14 O15
 have p16 : Kp G0 [⟨.pointer (some ⟨b6, 0, none⟩), 43, [.slice a3 a4 a5, .int .i64 p0.At.Row, .int .i64 p0.At.Col, .bool p0.At.Pending, .bool p0.Auto], 0⟩] c14 := (Kp.cons (O15.on 1 rfl) Kp.nil0)
 refine tkx 0 p16 (fun c' hle hk => leN 43 0 [.slice a3 a4 a5, .int .i64 p0.At.Row, .int .i64 p0.At.Col, .bool p0.At.Pending, .bool p0.Auto] (hk.on 0 rfl)) (ta 1 (.pointer (some ⟨b6, 1, none⟩)) (ta 2 (.pointer (some ⟨b6, 1, none⟩)) (tkx 3 p16 (fun c' hle hk => le1 1 underlying3 (hk.on 0 rfl)) (ta 4 (.pointer (some ⟨b6, 0, none⟩)) (tkx 5 p16 (fun c' hle hk => le1 0 underlying22 (hk.on 0 rfl)) (ta 6 (.pointer (some ⟨b6, 1, none⟩)) (ta 7 (.pointer (some ⟨b6, 1, none⟩)) (tkx 8 p16 (fun c' hle hk => le1 1 underlying3 (hk.on 0 rfl)) (bn H fun x_13 h17 H => ?_)))))))))
 obtain ⟨l_18, h19, m20⟩ := Sl.at (h2.mono (l8.trans (l12.trans l14))) (idx_get h17)
 obtain ⟨v21, rfl, h22⟩ := h19
 refine tx 9 (fun c' hle => ix underlying22 h2.m h17) (ta 10 (.pointer (some ⟨sb (.slice a3 a4 a5), so (.slice a3 a4 a5) + p0.At.Row.toNat * 2, none⟩)) (tx 11 (fun c' hle => l1 underlying69 ((mm m20) 0 _ rfl)) ?_))
 obtain ⟨a23, a24, a25, rfl⟩ := (h22).form
 refine ta 12 (.agg #[.slice a23 a24 a25, .bool true]) (bn H fun x_17 h26 H => o1 13 (gc 13 (c_linotyperef34_Pen_With O15 p0 p0.At.Row (⟨x_13.Cells, true⟩ : G_api_Line) h2.m h22 h26) ?_))
 rintro v35 c34 l34 ⟨v27, u28, O31, rfl, h29⟩
 have p36 : Kp G0 [⟨.pointer (some ⟨b6, 0, none⟩), 43, [.slice a3 a4 a5, .int .i64 p0.At.Row, .int .i64 p0.At.Col, .bool p0.At.Pending, .bool p0.Auto], 0⟩] c34 := (Kp.cons (O31.on 2 rfl) Kp.nil0)
 refine ⟨.inr p36, ?_⟩
 obtain ⟨a37, a38, a39, rfl⟩ := (h29).form
 refine o1 14 (gD 14 (sA 43 [.slice a37 a38 a39, .int .i64 x_17.At.Row, .int .i64 x_17.At.Col, .bool x_17.At.Pending, .bool x_17.Auto] 2 O31 ⟨(h29).one, rfl, rfl, rfl, rfl, trivial⟩) ?_)
 rintro c41 l41 O40
 refine ⟨.inl rfl, dn (nrm (sr (va (.pointer (some ⟨b6, 1, none⟩)) (va (.pointer (some ⟨b6, 1, none⟩)) (vx (le1 1 underlying3 (O40.on 2 rfl)) (va (.agg #[.int .i64 x_17.At.Row, .int .i64 0, .bool false]) (va (.pointer (some ⟨b6, 1, none⟩)) (md (sB 24 1 [.int .i64 x_17.At.Row, .int .i64 0, .bool false] [.slice a37 a38 a39, .int .i64 x_17.At.Row, .int .i64 0, .bool false, .bool x_17.Auto] 2 O40 ⟨rfl, rfl, rfl, trivial⟩) ?_))))))))⟩
 rintro c43 l43 O42
 refine wln (sr (vx (leN 43 0 [.slice a37 a38 a39, .int .i64 x_17.At.Row, .int .i64 0, .bool false, .bool x_17.Auto] (O42.on 2 rfl)) ?_))
 obtain ⟨c46, h47, l46, O44, h45⟩ := O42.frz 0 rfl (h29.mono (l41.trans l43))
 refine WL.gh h47 (bn H fun x_28 h48 H => cl (c_linotyperef34_Pen_NewLine O44 (⟨x_17.L, (⟨x_17.At.Row, 0, false⟩ : G_api_Cursor), x_17.Auto⟩ : G_linotyperef34_Pen) h45 h48) ?_)
 rintro v56 c55 l55 ⟨v49, O52, rfl, h50⟩
 obtain ⟨a57, a58, a59, rfl⟩ := (h50).form
 refine md (sA 43 [.slice a57 a58 a59, .int .i64 x_28.At.Row, .int .i64 x_28.At.Col, .bool x_28.At.Pending, .bool x_28.Auto] 1 O52 ⟨h50.one, rfl, rfl, rfl, rfl, trivial⟩) ?_
 rintro c61 l61 O60
 refine wln (W.ret ?_)
 obtain rfl := si H
 have O62 := O60.sD 3 []
 exact retC (c := c61) (vs := [.slice a57 a58 a59, .int .i64 x_28.At.Row, .int .i64 x_28.At.Col, .bool x_28.At.Pending, .bool x_28.Auto]) rfl (by kernel_rfl) (by kernel_rfl) (by kernel_rfl) (O60.on 1 rfl _ rfl).1 ⟨_, c61, rfl, rfl, pt, (.slice a57 a58 a59), O62, rfl, h50.m⟩
def f_linotyperef34_Pen_Paint (p0 : G_linotyperef34_Pen) (p1 : Int) (p2 : Int) (p3 : List G_api_Cell) : Option (G_linotyperef34_Pen) :=
 (idx p0.L p1).bind fun x_7 =>
 (idx p0.L p1).bind fun x_13 =>
 (f_linotyperef24_Paint x_7.Cells x_13.Wrap p2 p3).bind fun x_18 =>
 (f_linotyperef34_Pen_With p0 p1 (⟨x_18.1, x_18.2⟩ : G_api_Line)).bind fun x_30 =>
 some x_30
theorem c_linotyperef34_Pen_Paint (O0 : Own c0 G F) (p0 : G_linotyperef34_Pen) (p1 : Int) (p2 : Int) (p3 : List G_api_Cell) {r : G_linotyperef34_Pen} (h2 : Sl R_api_Line c0 v1 p0.L) (h4 : Sl R_api_Cell c0 v3 p3) (H : f_linotyperef34_Pen_Paint p0 p1 p2 p3 = some r) :
    Calls Tryz.prog 158 #[.agg #[v1, .int .i64 p0.At.Row, .int .i64 p0.At.Col, .bool p0.At.Pending, .bool p0.Auto], .int .i64 p1, .int .i64 p2, v3] c0.w (Post c0 fun c v => ∃ y1 y2, Own c G (es true R_api_Line y1 71 y2 r.L :: F) ∧ v = .agg #[y1, .int .i64 r.At.Row, .int .i64 r.At.Col, .bool r.At.Pending, .bool r.Auto] ∧ OA R_api_Line c y1 y2 r.L) := by
 unfold f_linotyperef34_Pen_Paint at H
 refine en func158 rfl rfl (sr ?_)
 obtain ⟨a5, a6, a7, rfl⟩ := (h2).form
 refine me (bx 43 [.slice a5 a6 a7, .int .i64 p0.At.Row, .int .i64 p0.At.Col, .bool p0.At.Pending, .bool p0.Auto] O0) ?_
 rintro v12 c11 l11 ⟨b8, rfl, O9, m10⟩
 refine me (al 43 [.slice none 0 0, .int .i64 0, .int .i64 0, .bool false, .bool false] O9) ?_
 rintro v16 c15 l15 ⟨b13, rfl, O14⟩
 refine wln (W.seq (rD [] (Kp G0 []) O14 ?_))
 intro c17 l17 O18
 have p19 : Kp G0 [] c17 := Kp.nil0
 refine ta 0 (.pointer (some ⟨b8, 0, none⟩)) (tx 1 (fun c' hle => l1 underlying22 ((mm m10) 0 _ rfl)) (ta 2 (.int .i64 p1) (bn H fun x_7 h20 H => ?_)))
 obtain ⟨l_21, h22, m23⟩ := Sl.at (h2.mono (l11.trans (l15.trans l17))) (idx_get h20)
 obtain ⟨v24, rfl, h25⟩ := h22
 refine tx 3 (fun c' hle => ix underlying22 h2.m h20) (ta 4 (.pointer (some ⟨sb (.slice a5 a6 a7), so (.slice a5 a6 a7) + p1.toNat * 2, none⟩)) (tx 5 (fun c' hle => l1 underlying69 ((mm m23) 0 _ rfl)) (ta 6 (.pointer (some ⟨b8, 0, none⟩)) (tx 7 (fun c' hle => l1 underlying22 ((mm m10) 0 _ rfl)) (ta 8 (.int .i64 p1) (bn H fun x_13 h26 H => ?_))))))
 obtain ⟨l_27, h28, m29⟩ := Sl.at (h2.mono (l11.trans (l15.trans l17))) (idx_get h26)
 obtain ⟨v30, rfl, h31⟩ := h28
 refine tx 9 (fun c' hle => ix underlying22 h2.m h26) (ta 10 (.pointer (some ⟨sb (.slice a5 a6 a7), so (.slice a5 a6 a7) + p1.toNat * 2 + 1, none⟩)) (tx 11 (fun c' hle => l1 underlying4 ((mm m29) 1 _ rfl)) (ta 12 (.int .i64 p2) (ta 13 (v3) (bn H fun x_18 h32 H => o1 14 (gc 14 (c_linotyperef24_Paint O18 x_7.Cells x_13.Wrap p2 p3 h25 h4.m h32) ?_))))))
 rintro v41 c40 l40 ⟨v33, u34, O37, rfl, h35⟩
 have p42 : Kp G0 [] c40 := Kp.nil0
 refine ⟨.inr p42, ta 15 (.tuple #[v33, .bool x_18.2]) (ta 16 (v33) (ta 17 (.bool x_18.2) (ta 18 (v33) (ta 19 (.bool x_18.2) (dn (nrm (sr (vx (lN 43 (mm m10)) (va (.int .i64 p1) (va (v33) (va (.bool x_18.2) ?_)))))))))))⟩
 obtain ⟨a43, a44, a45, rfl⟩ := (h35).form
 refine va (.agg #[.slice a43 a44 a45, .bool x_18.2]) ?_
 obtain ⟨c48, h49, l48, O46, h47⟩ := O37.frz 0 rfl h35
 refine WL.gh h49 (bn H fun x_30 h50 H => cl (c_linotyperef34_Pen_With O46 p0 p1 (⟨x_18.1, x_18.2⟩ : G_api_Line) h2.m h47 h50) ?_)
 rintro v59 c58 l58 ⟨v51, u52, O55, rfl, h53⟩
 obtain ⟨a60, a61, a62, rfl⟩ := (h53).form
 refine md (sA 43 [.slice a60 a61 a62, .int .i64 x_30.At.Row, .int .i64 x_30.At.Col, .bool x_30.At.Pending, .bool x_30.Auto] 2 O55 ⟨(h53).one, rfl, rfl, rfl, rfl, trivial⟩) ?_
 rintro c64 l64 O63
 refine wln (W.ret ?_)
 obtain rfl := si H
 have O65 := O63.sD 3 [0]
 exact retC (c := c64) (vs := [.slice a60 a61 a62, .int .i64 x_30.At.Row, .int .i64 x_30.At.Col, .bool x_30.At.Pending, .bool x_30.Auto]) rfl (by kernel_rfl) (by kernel_rfl) (by kernel_rfl) (O63.on 2 rfl _ rfl).1 ⟨_, c64, rfl, rfl, pt, (.slice a60 a61 a62), u52, O65, rfl, h53.m⟩
def f_linotyperef31_After (p0 : G_api_Cursor) (p1 : Int) (p2 : Int) (p3 : Bool) : Option (G_api_Cursor) :=
 (if (decide (p1 > 1)) = true then
 (some (2) : Option (Int))
 else
 (some (1) : Option (Int))).bind fun z_6 =>
 (f_linotyperef31_Side p2).bind fun x_16 =>
 if (decide (p0.Col ≥ (w64 (x_16 - z_6)))) = true then
 (f_linotyperef31_Side p2).bind fun x_24 =>
 some (⟨p0.Row, (w64 (x_24 - 1)), p3⟩ : G_api_Cursor)
 else
 some (⟨p0.Row, (w64 (p0.Col + z_6)), false⟩ : G_api_Cursor)
theorem c_linotyperef31_After (O0 : Own c0 G F) (p0 : G_api_Cursor) (p1 : Int) (p2 : Int) (p3 : Bool) {r : G_api_Cursor} (H : f_linotyperef31_After p0 p1 p2 p3 = some r) :
    Calls Tryz.prog 160 #[.agg #[.int .i64 p0.Row, .int .i64 p0.Col, .bool p0.Pending], .int .i64 p1, .int .i64 p2, .bool p3] c0.w (Post c0 fun c v => Own c G (F) ∧ v = .agg #[.int .i64 r.Row, .int .i64 r.Col, .bool r.Pending]) := by
 unfold f_linotyperef31_After at H
 refine en func160 rfl rfl (sr (me (bx 24 [.int .i64 p0.Row, .int .i64 p0.Col, .bool p0.Pending] O0) ?_))
 rintro v5 c4 l4 ⟨b1, rfl, O2, m3⟩
 refine me (al 24 [.int .i64 0, .int .i64 0, .bool false] O2) ?_
 rintro v9 c8 l8 ⟨b6, rfl, O7⟩
 refine wln (sr (va (.int .i64 1) (wln (bn H fun z_6 H10 H11 => W.seqJ (Jn c8 fun c l => Own c G (⟨.pointer (some ⟨b6, 0, none⟩), 24, [.int .i64 0, .int .i64 0, .bool false], 0⟩ :: F) ∧ l = [(2, .int .i64 p2), (3, .bool p3), (4, .pointer (some ⟨b1, 0, none⟩)), (8, .pointer (some ⟨b6, 0, none⟩)), (9, .int .i64 z_6)]) ?_ ?_))))
 ·refine sr (va (.int .i64 p1) (va (.bool (decide (p1 > 1))) (wln (cn H10 (fun h12 H10 => ?_) (fun h12 H10 => ?_)))))
  ·refine W.region (va (.int .i64 2) (wln ?_))
   obtain rfl := si H10
   exact ⟨c8, _, _, rfl, pt, us, O7, rfl⟩
  refine W.skip (nrm ?_)
  obtain rfl := si H10
  exact ⟨c8, _, _, rfl, pt, us, O7, rfl⟩
 rintro e_ w_ ⟨c13, g14, _, rfl, l13, rfl, O15, rfl⟩
 refine W.seq (W.seq (rD [] (Kp G0 []) O15 ?_))
 intro c19 l19 O20
 have p21 : Kp G0 [] c19 := Kp.nil0
 refine ta 0 (.pointer (some ⟨b1, 0 + 1, none⟩)) (tx 1 (fun c' hle => l1 underlying3 ((mm m3) 1 _ rfl)) (ta 2 (.int .i64 p2) (ta 4 (.int .i64 z_6) (bn H11 fun x_16 h22 H11 => o1 3 (gc 3 (c_linotyperef31_Side O20 p2 h22) ?_)))))
 rintro v28 c27 l27 ⟨O24, rfl⟩
 have p29 : Kp G0 [] c27 := Kp.nil0
 refine ⟨.inr p29, ta 5 (.int .i64 (w64 (x_16 - z_6))) (ta 6 (.bool (decide (p0.Col ≥ (w64 (x_16 - z_6))))) (dn (nrm (cn H11 (fun h30 H11 => ?_) (fun h30 H11 => ?_)))))⟩
 ·refine W.seq (rD [] (Kp G0 []) O24 ?_)
  intro c31 l31 O32
  have p33 : Kp G0 [] c31 := Kp.nil0
  refine ta 0 (.pointer (some ⟨b1, 0, none⟩)) (tx 1 (fun c' hle => l1 underlying3 ((mm m3) 0 _ rfl)) (ta 2 (.int .i64 p2) (ta 5 (.bool p3) (bn H11 fun x_24 h34 H11 => o1 3 (gc 3 (c_linotyperef31_Side O32 p2 h34) ?_)))))
  rintro v40 c39 l39 ⟨O36, rfl⟩
  have p41 : Kp G0 [] c39 := Kp.nil0
  refine ⟨.inr p41, ta 4 (.int .i64 (w64 (x_24 - 1))) (ta 6 (.agg #[.int .i64 p0.Row, .int .i64 (w64 (x_24 - 1)), .bool p3]) (o1 7 (gD 7 (sA 24 [.int .i64 p0.Row, .int .i64 (w64 (x_24 - 1)), .bool p3] 0 O36 ⟨rfl, rfl, rfl, trivial⟩) ?_)))⟩
  rintro c43 l43 O42
  have p44 : Kp G0 [] c43 := Kp.nil0
  refine ⟨.inr p44, dn (nrm (W.ret (thr ?_)))⟩
  obtain rfl := si H11
  have O45 := O42.sD 1 []
  exact retC (c := c43) (vs := [.int .i64 p0.Row, .int .i64 (w64 (x_24 - 1)), .bool p3]) rfl (by kernel_rfl) (by kernel_rfl) (by kernel_rfl) (O42.on 0 rfl _ rfl).1 ⟨_, c43, rfl, rfl, pt, O45, rfl⟩
 refine W.skip (nrm (sr (va (.pointer (some ⟨b1, 0, none⟩)) (vx (l1 underlying3 ((mm m3) 0 _ rfl)) (va (.pointer (some ⟨b1, 0 + 1, none⟩)) (vx (l1 underlying3 ((mm m3) 1 _ rfl)) (va (.int .i64 z_6) (va (.int .i64 (w64 (p0.Col + z_6))) (va (.agg #[.int .i64 p0.Row, .int .i64 (w64 (p0.Col + z_6)), .bool false]) (md (sA 24 [.int .i64 p0.Row, .int .i64 (w64 (p0.Col + z_6)), .bool false] 0 O24 ⟨rfl, rfl, rfl, trivial⟩) ?_))))))))))
 rintro c47 l47 O46
 refine wln (W.ret ?_)
 obtain rfl := si H11
 have O48 := O46.sD 1 []
 exact retC (c := c47) (vs := [.int .i64 p0.Row, .int .i64 (w64 (p0.Col + z_6)), .bool false]) rfl (by kernel_rfl) (by kernel_rfl) (by kernel_rfl) (O46.on 0 rfl _ rfl).1 ⟨_, c47, rfl, rfl, pt, O48, rfl⟩
def f_linotyperef34_Pen_Put (p0 : G_linotyperef34_Pen) (p1 : Int) (p2 : List Int) : Option (G_linotyperef34_Pen × G_api_Cursor) :=
 (f_linotyperef34_Pen_Hold p0).bind fun x_6 =>
 (f_linotyperef34_Pen_Wide x_6).bind fun x_15 =>
 (if (decide ((imax 1 (imin p1 2)) > x_15)) = true then
 (some (1, ([65533] : List Int)) : Option (Int × (List Int)))
 else
 (some ((imax 1 (imin p1 2)), p2) : Option (Int × (List Int)))).bind fun z_18 =>
 (if x_6.At.Pending = true then
 (f_linotyperef34_Pen_GoOn x_6).bind fun x_34 =>
 (some (x_34.L, x_34.At.Row, x_34.At.Col, x_34.At.Pending, x_34.Auto) : Option ((List G_api_Line) × Int × Int × Bool × Bool))
 else
 (some (x_6.L, x_6.At.Row, x_6.At.Col, x_6.At.Pending, x_6.Auto) : Option ((List G_api_Line) × Int × Int × Bool × Bool))).bind fun z_28 =>
 ((andE (z_18.1 == 2) (some (z_28.2.2.1 == (w64 (x_15 - 1))))).bind fun d_40 =>
 if d_40 = true then
 if z_28.2.2.2.2 = true then
 (rep 1 (⟨0, ([] : List Int)⟩ : G_api_Cell)).bind fun x_58 =>
 (f_linotyperef34_Pen_Paint (⟨z_28.1, (⟨z_28.2.1, z_28.2.2.1, z_28.2.2.2.1⟩ : G_api_Cursor), z_28.2.2.2.2⟩ : G_linotyperef34_Pen) z_28.2.1 (w64 (x_15 - 1)) x_58).bind fun x_59 =>
 (f_linotyperef34_Pen_GoOn x_59).bind fun x_60 =>
 (some (x_60.L, x_60.At.Row, x_60.At.Col, x_60.At.Pending, x_60.Auto) : Option ((List G_api_Line) × Int × Int × Bool × Bool))
 else
 (some (z_28.1, z_28.2.1, (w64 (x_15 - 2)), z_28.2.2.2.1, z_28.2.2.2.2) : Option ((List G_api_Line) × Int × Int × Bool × Bool))
 else
 (some (z_28.1, z_28.2.1, z_28.2.2.1, z_28.2.2.2.1, z_28.2.2.2.2) : Option ((List G_api_Line) × Int × Int × Bool × Bool))).bind fun z_37 =>
 (f_linotyperef23_Of z_18.1 z_18.2).bind fun x_86 =>
 (f_linotyperef34_Pen_Paint (⟨z_37.1, (⟨z_37.2.1, z_37.2.2.1, z_37.2.2.2.1⟩ : G_api_Cursor), z_37.2.2.2.2⟩ : G_linotyperef34_Pen) z_37.2.1 z_37.2.2.1 x_86).bind fun x_87 =>
 (f_linotyperef31_After (⟨z_37.2.1, z_37.2.2.1, false⟩ : G_api_Cursor) z_18.1 x_15 x_87.Auto).bind fun x_95 =>
 some ((⟨x_87.L, x_95, x_87.Auto⟩ : G_linotyperef34_Pen), (⟨z_37.2.1, z_37.2.2.1, false⟩ : G_api_Cursor))
theorem c_linotyperef34_Pen_Put (O0 : Own c0 G F) (p0 : G_linotyperef34_Pen) (p1 : Int) (p2 : List Int) {r : G_linotyperef34_Pen × G_api_Cursor} (h2 : Sl R_api_Line c0 v1 p0.L) (h4 : Sl (RI .i32) c0 v3 p2) (H : f_linotyperef34_Pen_Put p0 p1 p2 = some r) :
    Calls Tryz.prog 88 #[.agg #[v1, .int .i64 p0.At.Row, .int .i64 p0.At.Col, .bool p0.At.Pending, .bool p0.Auto], .int .i64 p1, v3] c0.w (Post c0 fun c v => ∃ y1 y2, Own c G (es true R_api_Line y1 71 y2 r.1.L :: F) ∧ v = .tuple #[.agg #[y1, .int .i64 r.1.At.Row, .int .i64 r.1.At.Col, .bool r.1.At.Pending, .bool r.1.Auto], .agg #[.int .i64 r.2.Row, .int .i64 r.2.Col, .bool r.2.Pending]] ∧ OA R_api_Line c y1 y2 r.1.L) := by
 unfold f_linotyperef34_Pen_Put at H
 refine en func88 rfl rfl (sr ?_)
 obtain ⟨a5, a6, a7, rfl⟩ := (h2).form
 refine me (al 43 [.slice a5 a6 a7, .int .i64 p0.At.Row, .int .i64 p0.At.Col, .bool p0.At.Pending, .bool p0.Auto] O0) ?_
 rintro v11 c10 l10 ⟨b8, rfl, O9⟩
 refine me (al 43 [.slice none 0 0, .int .i64 0, .int .i64 0, .bool false, .bool false] O9) ?_
 rintro v15 c14 l14 ⟨b12, rfl, O13⟩
 refine me (al 24 [.int .i64 0, .int .i64 0, .bool false] O13) ?_
 rintro v19 c18 l18 ⟨b16, rfl, O17⟩
 refine wln (sr (vx (leN 43 0 [.slice a5 a6 a7, .int .i64 p0.At.Row, .int .i64 p0.At.Col, .bool p0.At.Pending, .bool p0.Auto] (O17.on 2 rfl)) (bn H fun x_6 h20 H => cl (c_linotyperef34_Pen_Hold O17 p0 h2.m h20) ?_)))
 rintro v28 c27 l27 ⟨v21, O24, rfl, h22⟩
 obtain ⟨a29, a30, a31, rfl⟩ := (h22).form
 refine md (sA 43 [.slice a29 a30 a31, .int .i64 x_6.At.Row, .int .i64 x_6.At.Col, .bool x_6.At.Pending, .bool x_6.Auto] 2 O24 ⟨h22.one, rfl, rfl, rfl, rfl, trivial⟩) ?_
 rintro c33 l33 O32
 refine wln (sr (va (.int .i64 p1) (va (.int .i64 (imin p1 2)) (va (.int .i64 (imax 1 (imin p1 2))) (va (.int .i64 (imax 1 (imin p1 2))) (wln (sr (vx (leN 43 0 [.slice a29 a30 a31, .int .i64 x_6.At.Row, .int .i64 x_6.At.Col, .bool x_6.At.Pending, .bool x_6.Auto] (O32.on 2 rfl)) (bn H fun x_15 h34 H => cl (c_linotyperef34_Pen_Wide O32 x_6 h22.m h34) ?_)))))))))
 rintro v40 c39 l39 ⟨O36, rfl⟩
 refine va (.int .i64 x_15) (wln (bn H fun z_18 H41 H42 => W.seqJ (Jn c39 fun c l => ∃ v43, Own c G (⟨.pointer (some ⟨b16, 0, none⟩), 24, [.int .i64 0, .int .i64 0, .bool false], 0⟩ :: ⟨.pointer (some ⟨b12, 0, none⟩), 43, [.slice none 0 0, .int .i64 0, .int .i64 0, .bool false, .bool false], 0⟩ :: ⟨.pointer (some ⟨b8, 0, none⟩), 43, [.slice a29 a30 a31, .int .i64 x_6.At.Row, .int .i64 x_6.At.Col, .bool x_6.At.Pending, .bool x_6.Auto], 0⟩ :: F) ∧ l = [(1, .int .i64 z_18.1), (2, v43), (3, .pointer (some ⟨b8, 0, none⟩)), (6, .pointer (some ⟨b12, 0, none⟩)), (7, .pointer (some ⟨b16, 0, none⟩)), (8, .int .i64 x_15)] ∧ Sl (RI .i32) c v43 z_18.2) ?_ ?_))
 ·refine sr (va (.int .i64 (imax 1 (imin p1 2))) (va (.int .i64 x_15) (va (.bool (decide ((imax 1 (imin p1 2)) > x_15))) (wln (cn H41 (fun h44 H41 => ?_) (fun h44 H41 => ?_))))))
  ·refine sr (va (.int .i64 1) (wln (W.region (me (sl (RI .i32) 21 [[.int .i32 65533]] ([65533] : List Int) O36 ⟨rfl, trivial⟩) ?_))))
   rintro v49 c48 l48 ⟨u46, O45, h47⟩
   refine va (v49) (wln ?_)
   obtain rfl := si H41
   obtain ⟨c52, h53, l52, O50, h51⟩ := O45.frz 0 rfl h47
   have O54 := O50.sD 4 [1, 2, 3]
   exact ⟨c52, _, _, h53.symm, pt, us, v49, O54, rfl, h51⟩
  refine W.skip (nrm ?_)
  obtain rfl := si H41
  exact ⟨c39, _, _, rfl, pt, us, v3, O36, rfl, h4.m⟩
 rintro e_ w_ ⟨c55, g56, _, rfl, l55, rfl, v43, O57, rfl, h58⟩
 refine bn H42 fun z_28 H62 H63 => W.seqJ (Jn c55 fun c l => ∃ v64, Own c G (⟨.pointer (some ⟨b16, 0, none⟩), 24, [.int .i64 0, .int .i64 0, .bool false], 0⟩ :: ⟨.pointer (some ⟨b12, 0, none⟩), 43, [.slice none 0 0, .int .i64 0, .int .i64 0, .bool false, .bool false], 0⟩ :: ⟨.pointer (some ⟨b8, 0, none⟩), 43, [v64, .int .i64 z_28.2.1, .int .i64 z_28.2.2.1, .bool z_28.2.2.2.1, .bool z_28.2.2.2.2], 0⟩ :: F) ∧ l = [(1, .int .i64 z_18.1), (2, v43), (3, .pointer (some ⟨b8, 0, none⟩)), (6, .pointer (some ⟨b12, 0, none⟩)), (7, .pointer (some ⟨b16, 0, none⟩)), (8, .int .i64 x_15)] ∧ Sl R_api_Line c v64 z_28.1) ?_ ?_
 ·refine sr (va (.pointer (some ⟨b8, 1, none⟩)) (va (.pointer (some ⟨b8, 3, none⟩)) (vx (le1 3 underlying4 (O57.on 2 rfl)) (wln (cn H62 (fun h65 H62 => ?_) (fun h65 H62 => ?_))))))
  ·refine W.region (vx (leN 43 0 [.slice a29 a30 a31, .int .i64 x_6.At.Row, .int .i64 x_6.At.Col, .bool x_6.At.Pending, .bool x_6.Auto] (O57.on 2 rfl)) (bn H62 fun x_34 h66 H62 => cl (c_linotyperef34_Pen_GoOn O57 x_6 h22.m h66) ?_))
   rintro v74 c73 l73 ⟨v67, O70, rfl, h68⟩
   obtain ⟨a75, a76, a77, rfl⟩ := (h68).form
   refine md (sA 43 [.slice a75 a76 a77, .int .i64 x_34.At.Row, .int .i64 x_34.At.Col, .bool x_34.At.Pending, .bool x_34.Auto] 2 O70 ⟨h68.one, rfl, rfl, rfl, rfl, trivial⟩) ?_
   rintro c79 l79 O78
   refine wln ?_
   obtain rfl := si H62
   exact ⟨c79, _, _, rfl, pt, us, (.slice a75 a76 a77), O78, rfl, h68.m⟩
  refine W.skip (nrm ?_)
  obtain rfl := si H62
  exact ⟨c55, _, _, rfl, pt, us, (.slice a29 a30 a31), O57, rfl, h22.m⟩
 rintro e_ w_ ⟨c80, g81, _, rfl, l80, rfl, v64, O82, rfl, h83⟩
 refine bn H63 fun z_37 H87 H88 => W.seqJ (Jn c80 fun c l => ∃ v89, Own c G (⟨.pointer (some ⟨b16, 0, none⟩), 24, [.int .i64 0, .int .i64 0, .bool false], 0⟩ :: ⟨.pointer (some ⟨b12, 0, none⟩), 43, [.slice none 0 0, .int .i64 0, .int .i64 0, .bool false, .bool false], 0⟩ :: ⟨.pointer (some ⟨b8, 0, none⟩), 43, [v89, .int .i64 z_37.2.1, .int .i64 z_37.2.2.1, .bool z_37.2.2.2.1, .bool z_37.2.2.2.2], 0⟩ :: F) ∧ l = [(1, .int .i64 z_18.1), (2, v43), (3, .pointer (some ⟨b8, 0, none⟩)), (6, .pointer (some ⟨b12, 0, none⟩)), (7, .pointer (some ⟨b16, 0, none⟩)), (8, .int .i64 x_15)] ∧ Sl R_api_Line c v89 z_37.1) ?_ ?_
 ·refine W.seq (bn H87 fun d_40 h90 H87 => W.join (Jn c80 fun c l => Own c G (⟨.pointer (some ⟨b16, 0, none⟩), 24, [.int .i64 0, .int .i64 0, .bool false], 0⟩ :: ⟨.pointer (some ⟨b12, 0, none⟩), 43, [.slice none 0 0, .int .i64 0, .int .i64 0, .bool false, .bool false], 0⟩ :: ⟨.pointer (some ⟨b8, 0, none⟩), 43, [v64, .int .i64 z_28.2.1, .int .i64 z_28.2.2.1, .bool z_28.2.2.2.1, .bool z_28.2.2.2.2], 0⟩ :: F) ∧ l = [(1, .int .i64 z_18.1), (2, v43), (3, .pointer (some ⟨b8, 0, none⟩)), (6, .pointer (some ⟨b12, 0, none⟩)), (7, .pointer (some ⟨b16, 0, none⟩)), (8, .int .i64 x_15), (35, .bool d_40)]) ?_ ?_)
  ·clear H87
   refine W.region (va (.int .i64 z_18.1) (va (.bool (z_18.1 == 2)) ?_))
   rcases bo (z_18.1 == 2) with h91 | h91
   ·have H92 := anT h91 h90
    refine vb h91 (wn (va (.pointer (some ⟨b8, 1, none⟩)) (wn (va (.pointer (some ⟨b8, 2, none⟩)) (wn (vx (le1 2 underlying3 (O82.on 2 rfl)) (wn (va (.int .i64 x_15) (wn (va (.int .i64 (w64 (x_15 - 1))) (wn (va (.bool (z_28.2.2.1 == (w64 (x_15 - 1)))) ?_))))))))))))
    obtain rfl := si H92
    exact va (.bool (z_28.2.2.1 == (w64 (x_15 - 1)))) (wln ⟨c80, _, _, rfl, pt, us, O82, rfl⟩)
   obtain rfl := anF h91 h90
   exact vb h91 (ps (ps (ps (ps (ps (ps (va (.bool false) (wln ⟨c80, _, _, rfl, pt, us, O82, rfl⟩))))))))
  rintro e_ w_ ⟨c93, g94, _, rfl, l93, rfl, O95, rfl⟩
  refine nrm (cn H87 (fun h99 H87 => ?_) (fun h99 H87 => ?_))
  ·refine sr (va (.pointer (some ⟨b8, 4, none⟩)) (vx (le1 4 underlying4 (O95.on 2 rfl)) (wln (cn H87 (fun h100 H87 => ?_) (fun h100 H87 => ?_)))))
   ·refine rD [9] (Kp G0 [⟨.pointer (some ⟨b8, 0, none⟩), 43, [v64, .int .i64 z_28.2.1, .int .i64 z_28.2.2.1, .bool z_28.2.2.2.1, .bool z_28.2.2.2.2], 0⟩]) O95 ?_
    intro c101 l101 O102
    have p103 : Kp G0 [⟨.pointer (some ⟨b8, 0, none⟩), 43, [v64, .int .i64 z_28.2.1, .int .i64 z_28.2.2.1, .bool z_28.2.2.2.1, .bool z_28.2.2.2.2], 0⟩] c101 := (Kp.cons (O102.on 2 rfl) Kp.nil0)
    refine tkx 0 p103 (fun c' hle hk => leN 43 0 [v64, .int .i64 z_28.2.1, .int .i64 z_28.2.2.1, .bool z_28.2.2.2.1, .bool z_28.2.2.2.2] (hk.on 0 rfl)) (ta 1 (.pointer (some ⟨b8, 1, none⟩)) (ta 2 (.pointer (some ⟨b8, 1, none⟩)) (tkx 3 p103 (fun c' hle hk => le1 1 underlying3 (hk.on 0 rfl)) (ta 4 (.int .i64 x_15) (ta 5 (.int .i64 (w64 (x_15 - 1))) (bn H87 fun x_58 h104 H87 => o1 6 (gm 6 (Own.mkS (kl := .i64) (kc := .i64) (R := R_api_Cell) (z := .agg #[.int .i64 0, .slice none 0 0]) (lz := [.int .i64 0, .slice none 0 0]) (x := (⟨0, ([] : List Int)⟩ : G_api_Cell)) (by_ := 32) (i := 1) (j := 1) true O102 (Nat.succ_pos _) h104 (Int.le_refl _) (rep_le h104) underlying69 (by kernel_rfl) rfl rfl (fun _ => ⟨(.slice none 0 0), rfl, (Sl.nl _ _)⟩) (by kernel_rfl) (by kernel_rfl)) ?_)))))))
    rintro v109 c108 l108 ⟨u106, O105, h107⟩
    have p110 : Kp G0 [⟨.pointer (some ⟨b8, 0, none⟩), 43, [v64, .int .i64 z_28.2.1, .int .i64 z_28.2.2.1, .bool z_28.2.2.2.1, .bool z_28.2.2.2.2], 0⟩] c108 := (Kp.cons (O105.on 3 rfl) Kp.nil0)
    refine ⟨.inr p110, ?_⟩
    obtain ⟨c113, h114, l113, O111, h112⟩ := O105.frz 0 rfl h107
    have p115 : Kp G0 [⟨.pointer (some ⟨b8, 0, none⟩), 43, [v64, .int .i64 z_28.2.1, .int .i64 z_28.2.2.1, .bool z_28.2.2.2.1, .bool z_28.2.2.2.2], 0⟩] c113 := (Kp.cons (O111.on 3 rfl) Kp.nil0)
    refine AC.gh h114 l113 (fun _ => p115) (bn H87 fun x_59 h116 H87 => o1 7 (gc 7 (c_linotyperef34_Pen_Paint O111 (⟨z_28.1, (⟨z_28.2.1, z_28.2.2.1, z_28.2.2.2.1⟩ : G_api_Cursor), z_28.2.2.2.2⟩ : G_linotyperef34_Pen) z_28.2.1 (w64 (x_15 - 1)) x_58 h83.m h112 h116) ?_))
    rintro v125 c124 l124 ⟨v117, u118, O121, rfl, h119⟩
    have p126 : Kp G0 [⟨.pointer (some ⟨b8, 0, none⟩), 43, [v64, .int .i64 z_28.2.1, .int .i64 z_28.2.2.1, .bool z_28.2.2.2.1, .bool z_28.2.2.2.2], 0⟩] c124 := (Kp.cons (O121.on 4 rfl) Kp.nil0)
    refine ⟨.inr p126, ?_⟩
    obtain ⟨c129, h130, l129, O127, h128⟩ := O121.frz 0 rfl h119
    have p131 : Kp G0 [⟨.pointer (some ⟨b8, 0, none⟩), 43, [v64, .int .i64 z_28.2.1, .int .i64 z_28.2.2.1, .bool z_28.2.2.2.1, .bool z_28.2.2.2.2], 0⟩] c129 := (Kp.cons (O127.on 4 rfl) Kp.nil0)
    refine AC.gh h130 l129 (fun _ => p131) (bn H87 fun x_60 h132 H87 => o1 8 (gc 8 (c_linotyperef34_Pen_GoOn O127 x_59 h128 h132) ?_))
    rintro v140 c139 l139 ⟨v133, O136, rfl, h134⟩
    have p141 : Kp G0 [⟨.pointer (some ⟨b8, 0, none⟩), 43, [v64, .int .i64 z_28.2.1, .int .i64 z_28.2.2.1, .bool z_28.2.2.2.1, .bool z_28.2.2.2.2], 0⟩] c139 := (Kp.cons (O136.on 4 rfl) Kp.nil0)
    refine ⟨.inr p141, ?_⟩
    obtain ⟨a142, a143, a144, rfl⟩ := (h134).form
    refine o1 9 (gD 9 (sA 43 [.slice a142 a143 a144, .int .i64 x_60.At.Row, .int .i64 x_60.At.Col, .bool x_60.At.Pending, .bool x_60.Auto] 4 O136 ⟨h134.one, rfl, rfl, rfl, rfl, trivial⟩) ?_)
    rintro c146 l146 O145
    refine ⟨.inl rfl, dn (nrm ?_)⟩
    obtain rfl := si H87
    have O147 := O145.sD 5 [2, 3, 4]
    exact ⟨c146, _, _, rfl, pt, us, (.slice a142 a143 a144), O147, rfl, h134.m⟩
   refine W.region (va (.int .i64 x_15) (va (.int .i64 (w64 (x_15 - 2))) (va (.pointer (some ⟨b8, 1, none⟩)) (va (.pointer (some ⟨b8, 2, none⟩)) (md (sC 3 2 (.int .i64 (w64 (x_15 - 2))) [v64, .int .i64 z_28.2.1, .int .i64 (w64 (x_15 - 2)), .bool z_28.2.2.2.1, .bool z_28.2.2.2.2] 2 O95 ⟨rfl, trivial⟩) ?_)))))
   rintro c149 l149 O148
   refine wln ?_
   obtain rfl := si H87
   exact ⟨c149, _, _, rfl, pt, us, v64, O148, rfl, h83.m⟩
  refine W.skip (nrm ?_)
  obtain rfl := si H87
  exact ⟨c93, _, _, rfl, pt, us, v64, O95, rfl, h83.m⟩
 rintro e_ w_ ⟨c150, g151, _, rfl, l150, rfl, v89, O152, rfl, h153⟩
 refine sr (va (.pointer (some ⟨b8, 1, none⟩)) (va (.pointer (some ⟨b8, 1, none⟩)) (vx (le1 1 underlying3 (O152.on 2 rfl)) (va (.pointer (some ⟨b8, 1, none⟩)) (va (.pointer (some ⟨b8, 2, none⟩)) (vx (le1 2 underlying3 (O152.on 2 rfl)) (va (.agg #[.int .i64 z_37.2.1, .int .i64 z_37.2.2.1, .bool false]) (me (al 24 [.int .i64 0, .int .i64 0, .bool false] O152) ?_))))))))
 rintro v160 c159 l159 ⟨b157, rfl, O158⟩
 refine md (sA 24 [.int .i64 z_37.2.1, .int .i64 z_37.2.2.1, .bool false] 0 O158 ⟨rfl, rfl, rfl, trivial⟩) ?_
 rintro c162 l162 O161
 refine wln (W.seq (rD [9] (Kp G0 [⟨.pointer (some ⟨b8, 0, none⟩), 43, [v89, .int .i64 z_37.2.1, .int .i64 z_37.2.2.1, .bool z_37.2.2.2.1, .bool z_37.2.2.2.2], 0⟩, ⟨.pointer (some ⟨b157, 0, none⟩), 24, [.int .i64 z_37.2.1, .int .i64 z_37.2.2.1, .bool false], 0⟩]) O161 ?_))
 intro c163 l163 O164
 have p165 : Kp G0 [⟨.pointer (some ⟨b8, 0, none⟩), 43, [v89, .int .i64 z_37.2.1, .int .i64 z_37.2.2.1, .bool z_37.2.2.2.1, .bool z_37.2.2.2.2], 0⟩, ⟨.pointer (some ⟨b157, 0, none⟩), 24, [.int .i64 z_37.2.1, .int .i64 z_37.2.2.1, .bool false], 0⟩] c163 := (Kp.cons (O164.on 3 rfl) (Kp.cons (O164.on 0 rfl) Kp.nil0))
 refine tkx 0 p165 (fun c' hle hk => leN 43 0 [v89, .int .i64 z_37.2.1, .int .i64 z_37.2.2.1, .bool z_37.2.2.2.1, .bool z_37.2.2.2.2] (hk.on 0 rfl)) (ta 1 (.pointer (some ⟨b157, 0, none⟩)) (tkx 2 p165 (fun c' hle hk => le1 0 underlying3 (hk.on 1 rfl)) (ta 3 (.pointer (some ⟨b157, 1, none⟩)) (tkx 4 p165 (fun c' hle hk => le1 1 underlying3 (hk.on 1 rfl)) (ta 5 (.int .i64 z_18.1) (ta 6 (v43) (bn H88 fun x_86 h166 H88 => o1 7 (gc 7 (c_linotyperef23_Of O164 z_18.1 z_18.2 h58.m h166) ?_))))))))
 rintro v167 c174 l174 ⟨_, u168, O171, rfl, h169⟩
 have p176 : Kp G0 [⟨.pointer (some ⟨b8, 0, none⟩), 43, [v89, .int .i64 z_37.2.1, .int .i64 z_37.2.2.1, .bool z_37.2.2.2.1, .bool z_37.2.2.2.2], 0⟩, ⟨.pointer (some ⟨b157, 0, none⟩), 24, [.int .i64 z_37.2.1, .int .i64 z_37.2.2.1, .bool false], 0⟩] c174 := (Kp.cons (O171.on 4 rfl) (Kp.cons (O171.on 1 rfl) Kp.nil0))
 refine ⟨.inr p176, ?_⟩
 obtain ⟨c179, h180, l179, O177, h178⟩ := O171.frz 0 rfl h169
 have p181 : Kp G0 [⟨.pointer (some ⟨b8, 0, none⟩), 43, [v89, .int .i64 z_37.2.1, .int .i64 z_37.2.2.1, .bool z_37.2.2.2.1, .bool z_37.2.2.2.2], 0⟩, ⟨.pointer (some ⟨b157, 0, none⟩), 24, [.int .i64 z_37.2.1, .int .i64 z_37.2.2.1, .bool false], 0⟩] c179 := (Kp.cons (O177.on 4 rfl) (Kp.cons (O177.on 1 rfl) Kp.nil0))
 refine AC.gh h180 l179 (fun _ => p181) (bn H88 fun x_87 h182 H88 => o1 8 (gc 8 (c_linotyperef34_Pen_Paint O177 (⟨z_37.1, (⟨z_37.2.1, z_37.2.2.1, z_37.2.2.2.1⟩ : G_api_Cursor), z_37.2.2.2.2⟩ : G_linotyperef34_Pen) z_37.2.1 z_37.2.2.1 x_86 h153.m h178 h182) ?_))
 rintro v191 c190 l190 ⟨v183, u184, O187, rfl, h185⟩
 have p192 : Kp G0 [⟨.pointer (some ⟨b8, 0, none⟩), 43, [v89, .int .i64 z_37.2.1, .int .i64 z_37.2.2.1, .bool z_37.2.2.2.1, .bool z_37.2.2.2.2], 0⟩, ⟨.pointer (some ⟨b157, 0, none⟩), 24, [.int .i64 z_37.2.1, .int .i64 z_37.2.2.1, .bool false], 0⟩] c190 := (Kp.cons (O187.on 5 rfl) (Kp.cons (O187.on 2 rfl) Kp.nil0))
 refine ⟨.inr p192, ?_⟩
 obtain ⟨a193, a194, a195, rfl⟩ := (h185).form
 refine o1 9 (gD 9 (sA 43 [.slice a193 a194 a195, .int .i64 x_87.At.Row, .int .i64 x_87.At.Col, .bool x_87.At.Pending, .bool x_87.Auto] 5 O187 ⟨(h185).one, rfl, rfl, rfl, rfl, trivial⟩) ?_)
 rintro c197 l197 O196
 refine ⟨.inl rfl, dn (nrm (sr (vx (leN 24 0 [.int .i64 z_37.2.1, .int .i64 z_37.2.2.1, .bool false] (O196.on 2 rfl)) (va (.int .i64 z_18.1) (va (.int .i64 x_15) (va (.pointer (some ⟨b8, 4, none⟩)) (vx (le1 4 underlying4 (O196.on 5 rfl)) (bn H88 fun x_95 h198 H88 => cl (c_linotyperef31_After O196 (⟨z_37.2.1, z_37.2.2.1, false⟩ : G_api_Cursor) z_18.1 x_15 x_87.Auto h198) ?_))))))))⟩
 rintro v204 c203 l203 ⟨O200, rfl⟩
 refine va (.pointer (some ⟨b8, 1, none⟩)) (md (sB 24 1 [.int .i64 x_95.Row, .int .i64 x_95.Col, .bool x_95.Pending] [.slice a193 a194 a195, .int .i64 x_95.Row, .int .i64 x_95.Col, .bool x_95.Pending, .bool x_87.Auto] 5 O200 ⟨rfl, rfl, rfl, trivial⟩) ?_)
 rintro c206 l206 O205
 refine wln (W.seq (rD [] (Kp G0 [⟨.pointer (some ⟨b8, 0, none⟩), 43, [.slice a193 a194 a195, .int .i64 x_95.Row, .int .i64 x_95.Col, .bool x_95.Pending, .bool x_87.Auto], 0⟩, ⟨.pointer (some ⟨b157, 0, none⟩), 24, [.int .i64 z_37.2.1, .int .i64 z_37.2.2.1, .bool false], 0⟩]) O205 ?_))
 intro c207 l207 O208
 have p209 : Kp G0 [⟨.pointer (some ⟨b8, 0, none⟩), 43, [.slice a193 a194 a195, .int .i64 x_95.Row, .int .i64 x_95.Col, .bool x_95.Pending, .bool x_87.Auto], 0⟩, ⟨.pointer (some ⟨b157, 0, none⟩), 24, [.int .i64 z_37.2.1, .int .i64 z_37.2.2.1, .bool false], 0⟩] c207 := (Kp.cons (O208.on 5 rfl) (Kp.cons (O208.on 2 rfl) Kp.nil0))
 refine tkx 0 p209 (fun c' hle hk => leN 43 0 [.slice a193 a194 a195, .int .i64 x_95.Row, .int .i64 x_95.Col, .bool x_95.Pending, .bool x_87.Auto] (hk.on 0 rfl)) (tkx 1 p209 (fun c' hle hk => leN 24 0 [.int .i64 z_37.2.1, .int .i64 z_37.2.2.1, .bool false] (hk.on 1 rfl)) (o1 2 (gD 2 (sA 43 [.slice a193 a194 a195, .int .i64 x_95.Row, .int .i64 x_95.Col, .bool x_95.Pending, .bool x_87.Auto] 4 O208 ⟨h185.m.one, rfl, rfl, rfl, rfl, trivial⟩) ?_)))
 rintro c211 l211 O210
 have p212 : Kp G0 [⟨.pointer (some ⟨b8, 0, none⟩), 43, [.slice a193 a194 a195, .int .i64 x_95.Row, .int .i64 x_95.Col, .bool x_95.Pending, .bool x_87.Auto], 0⟩, ⟨.pointer (some ⟨b157, 0, none⟩), 24, [.int .i64 z_37.2.1, .int .i64 z_37.2.2.1, .bool false], 0⟩] c211 := (Kp.cons (O210.on 5 rfl) (Kp.cons (O210.on 2 rfl) Kp.nil0))
 refine ⟨.inr p212, o1 3 (gD 3 (sA 24 [.int .i64 z_37.2.1, .int .i64 z_37.2.2.1, .bool false] 3 O210 ⟨rfl, rfl, rfl, trivial⟩) ?_)⟩
 rintro c214 l214 O213
 have p215 : Kp G0 [⟨.pointer (some ⟨b8, 0, none⟩), 43, [.slice a193 a194 a195, .int .i64 x_95.Row, .int .i64 x_95.Col, .bool x_95.Pending, .bool x_87.Auto], 0⟩, ⟨.pointer (some ⟨b157, 0, none⟩), 24, [.int .i64 z_37.2.1, .int .i64 z_37.2.2.1, .bool false], 0⟩] c214 := (Kp.cons (O213.on 5 rfl) (Kp.cons (O213.on 2 rfl) Kp.nil0))
 refine ⟨.inr p215, dn (nrm (W.ret ?_))⟩
 obtain rfl := si H88
 have O216 := O213.sD 6 [0]
 exact retCC (c := c214) (vs := [.slice a193 a194 a195, .int .i64 x_95.Row, .int .i64 x_95.Col, .bool x_95.Pending, .bool x_87.Auto]) (vs' := [.int .i64 z_37.2.1, .int .i64 z_37.2.2.1, .bool false]) rfl (by kernel_rfl) (by kernel_rfl) (by kernel_rfl) (O213.on 4 rfl _ rfl).1 (by kernel_rfl) (by kernel_rfl) (by kernel_rfl) (O213.on 3 rfl _ rfl).1 ⟨_, c214, rfl, rfl, pt, (.slice a193 a194 a195), u184, O216, rfl, h185.m⟩
def f_linotypelaw34_Alike (sg : Sto) (p0 : Option Nat) (p1 : G_linotyperef34_Pen) : Option (Bool) :=
 (p0).bind fun k_5 =>
 (sg.place_Pen[k_5]?).bind fun o_7 =>
 (andE (o_7.At.Row == p1.At.Row && (o_7.At.Col == p1.At.Col && (o_7.At.Pending == p1.At.Pending && true))) (some (o_7.Auto == p1.Auto))).bind fun d_11 =>
 (andE d_11 ((f_grid_Grid_Lines sg o_7.G).bind fun x_28 =>
 (f_linotyperef32_Same x_28 p1.L).bind fun x_29 =>
 some x_29)).bind fun d_20 =>
 some d_20
theorem c_linotypelaw34_Alike (O0 : Own c0 G F) (R0 : Rel c0 sg G) (p0 : Option Nat) (p1 : G_linotyperef34_Pen) {r : Bool} (h2 : Pt 2 c0 v1 p0) (h4 : Sl R_api_Line c0 v3 p1.L) (H : f_linotypelaw34_Alike sg p0 p1 = some r) :
    Calls Tryz.prog 20 #[v1, .agg #[v3, .int .i64 p1.At.Row, .int .i64 p1.At.Col, .bool p1.At.Pending, .bool p1.Auto]] c0.w (Post c0 fun c v => Own c G (F) ∧ v = .bool r) := by
 unfold f_linotypelaw34_Alike at H
 refine en func20 rfl rfl (sr ?_)
 obtain ⟨a5, a6, a7, rfl⟩ := (h4).form
 refine me (bx 43 [.slice a5 a6 a7, .int .i64 p1.At.Row, .int .i64 p1.At.Col, .bool p1.At.Pending, .bool p1.Auto] O0) ?_
 rintro v12 c11 l11 ⟨b8, rfl, O9, m10⟩
 refine va (.bool false) (wln (W.seq (bn H fun k_5 h13 H => bn H fun o_7 h14 H => bn H fun d_11 h15 H => bn H fun d_20 h16 H => W.join (Jn c11 fun c l => Own c G (F) ∧ l = [(4, .bool d_20)]) ?_ ?_)))
 ·clear H
  refine rD [] (Kp G []) O9 ?_
  intro c17 l17 O18
  have p19 : Kp G [] c17 := (Kp.nil O18)
  refine ta 0 (v1) ?_
  obtain ⟨b20, rfl, h21⟩ := ((h2.mono (l11.trans l17))).get h13
  refine ta 1 (.pointer (some ⟨b20, 0, none⟩)) (ta 2 (.pointer (some ⟨b20, 1, none⟩)) ?_)
  obtain ⟨v22, h24, h23⟩ := Rel.open_place_Pen (R0.mono (l11.trans l17)) h14 h21
  refine tkx 3 p19 (fun c' hle hk => leN 24 1 [.int .i64 o_7.At.Row, .int .i64 o_7.At.Col, .bool o_7.At.Pending] (hk.gon h24 0 rfl)) (ta 4 (.pointer (some ⟨b8, 0 + 1, none⟩)) (tx 5 (fun c' hle => lN 24 (imsub (k := 1) (l := [.int .i64 p1.At.Row, .int .i64 p1.At.Col, .bool p1.At.Pending]) (mm m10) rfl)) (AC.take 6 (.bool (o_7.At.Row == p1.At.Row && (o_7.At.Col == p1.At.Col && (o_7.At.Pending == p1.At.Pending && true)))) rfl (by kernel_rfl) (by kernel_rfl) (fun c' hle => (run_eqlA (T := 24) (xs := #[.int .i64 o_7.At.Row, .int .i64 o_7.At.Col, .bool o_7.At.Pending]) (ys := #[.int .i64 p1.At.Row, .int .i64 p1.At.Col, .bool p1.At.Pending]) (r := (o_7.At.Row == p1.At.Row && (o_7.At.Col == p1.At.Col && (o_7.At.Pending == p1.At.Pending && true)))) underlying24 (by kernel_rfl) (by kernel_rfl) (EqP.int (by kernel_rfl) underlying3 rfl rfl (EqP.int (by kernel_rfl) underlying3 rfl rfl (EqP.bool (by kernel_rfl) underlying4 rfl rfl EqP.nil))) (by kernel_rfl) _)) ?_)))
  rcases bo ((o_7.At.Row == p1.At.Row && (o_7.At.Col == p1.At.Col && (o_7.At.Pending == p1.At.Pending && true)))) with h25 | h25
  ·have H26 := anT h25 h15
   refine AC.takeb 7 h25 rfl (by kernel_rfl) (by kernel_rfl) (fun c' hle => (by kernel_rfl)) (ta 8 (.pointer (some ⟨b20, 0, none⟩)) (ta 9 (.pointer (some ⟨b20, 0, none⟩)) (ta 10 (.pointer (some ⟨b20, 4, none⟩)) (tkx 11 p19 (fun c' hle hk => le1 4 underlying4 (hk.gon h24 0 rfl)) (ta 12 (.pointer (some ⟨b8, 0 + 4, none⟩)) (tx 13 (fun c' hle => l1 underlying4 ((mm m10) 4 _ rfl)) (ta 14 (.bool (o_7.Auto == p1.Auto)) ?_)))))))
   obtain rfl := si H26
   refine ta 15 (.bool (o_7.Auto == p1.Auto)) ?_
   rcases bo (o_7.Auto == p1.Auto) with h27 | h27
   ·have H28 := anT h27 h16
    refine bn H28 fun x_28 h29 H28 => bn H28 fun x_29 h30 H28 => AC.takeb 16 h27 rfl (by kernel_rfl) (by kernel_rfl) (fun c' hle => (by kernel_rfl)) (ta 17 (.pointer (some ⟨b20, 0, none⟩)) (ta 18 (.pointer (some ⟨b20, 0, none⟩)) (ta 19 (.pointer (some ⟨b20, 0, none⟩)) (tkx 20 p19 (fun c' hle hk => le1 0 underlying35 (hk.gon h24 0 rfl)) (ta 22 (.pointer (some ⟨b8, 0, none⟩)) (tx 23 (fun c' hle => l1 underlying22 ((mm m10) 0 _ rfl)) (o1 21 (gc 21 (c_grid_Grid_Lines O18 R0.m o_7.G h23 h29) ?_))))))))
    rintro v31 c38 l38 ⟨_, u32, O35, rfl, h33⟩
    have p40 : Kp G [] c38 := (Kp.nil O35)
    refine ⟨.inr p40, ?_⟩
    obtain ⟨c43, h44, l43, O41, h42⟩ := O35.frz 0 rfl h33
    have p45 : Kp G [] c43 := (Kp.nil O41)
    refine AC.gh h44 l43 (fun _ => p45) (o1 24 (gc 24 (c_linotyperef32_Same O41 x_28 p1.L h42 h4.m h30) ?_))
    rintro v51 c50 l50 ⟨O47, rfl⟩
    have p52 : Kp G [] c50 := (Kp.nil O47)
    refine ⟨.inr p52, ?_⟩
    obtain rfl := si H28
    refine ta 25 (.bool x_29) (ta 26 (.bool x_29) (dn (nrm ?_)))
    have O53 := O47.sD 1 []
    exact ⟨c50, _, _, rfl, pt, us, O53, rfl⟩
   obtain rfl := anF h27 h16
   exact AC.takeb 16 h27 rfl (by kernel_rfl) (by kernel_rfl) (fun c' hle => (by kernel_rfl)) (tp 17 (tp 18 (tp 19 (tp 20 (tp 22 (tp 23 (tp 21 (tp 24 (ta 25 (.bool false) (ta 26 (.bool false) (dn (nrm ⟨c17, _, _, rfl, pt, us, O18, rfl⟩))))))))))))
  obtain rfl := anF h25 h15
  refine AC.takeb 7 h25 rfl (by kernel_rfl) (by kernel_rfl) (fun c' hle => (by kernel_rfl)) (tp 8 (tp 9 (tp 10 (tp 11 (tp 12 (tp 13 (tp 14 (ta 15 (.bool false) ?_))))))))
  have h54 : false = false := rfl
  obtain rfl := anF h54 h16
  exact AC.takeb 16 h54 rfl (by kernel_rfl) (by kernel_rfl) (fun c' hle => (by kernel_rfl)) (tp 17 (tp 18 (tp 19 (tp 20 (tp 22 (tp 23 (tp 21 (tp 24 (ta 25 (.bool false) (ta 26 (.bool false) (dn (nrm ⟨c17, _, _, rfl, pt, us, O18, rfl⟩))))))))))))
 rintro e_ w_ ⟨c55, g56, _, rfl, l55, rfl, O57, rfl⟩
 refine nrm (W.ret ?_)
 obtain rfl := si H
 exact r1 ⟨_, c55, rfl, rfl, pt, O57, rfl⟩

end Go.Proofs.YthokmpbbkpjhbaaGreatDoor
