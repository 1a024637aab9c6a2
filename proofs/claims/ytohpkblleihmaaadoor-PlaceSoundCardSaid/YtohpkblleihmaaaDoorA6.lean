import Derived.Test.YtohpkblleihmaaaDoorMx
import Derived.Test.YtohpkblleihmaaaDoorProg
import Derived.Test.YtohpkblleihmaaaDoorMy
import Derived.Test.YtohpkblleihmaaaDoorMz
import Derived.Test.YtohpkblleihmaaaDoorA1
import Derived.Test.YtohpkblleihmaaaDoorG1
import Derived.Test.YtohpkblleihmaaaDoorM1
import Derived.Test.YtohpkblleihmaaaDoorN1
namespace Go.Proofs.YtohpkblleihmaaaDoor
open Go Go.Lt
set_option maxRecDepth 10000
set_option linter.unusedVariables false
attribute [local irreducible] W WL AC
def f_cursor_Right (p0 : G_api_Cursor) (p1 : Int) (p2 : Int) : Option (Bool) :=
  (f_cursor_Hold p0 p1 p2).bind fun x_8 =>
  some (p0.Row == x_8.Row && (p0.Col == x_8.Col && (p0.Pending == x_8.Pending && true)))
theorem c_cursor_Right {c0 : Cx} {G : Gm} {F : List En} (O0 : Own c0 G F) (p0 : G_api_Cursor) (p1 : Int) (p2 : Int) {r : Bool} (H : f_cursor_Right p0 p1 p2 = some r) :
    Calls Tryd.prog 82 #[.agg #[.int .i64 p0.Row, .int .i64 p0.Col, .bool p0.Pending], .int .i64 p1, .int .i64 p2] c0.w (Post c0 fun c v => Own c G (F) ∧ v = .bool r) := by
  unfold f_cursor_Right at H
  refine enter (l := [.agg #[.int .i64 p0.Row, .int .i64 p0.Col, .bool p0.Pending], .int .i64 p1, .int .i64 p2]) Tryd.func82 rfl rfl rfl ?_
  refine sr ?_
  refine WL.mem rfl (Own.bx (T := 120) (vs := [.int .i64 p0.Row, .int .i64 p0.Col, .bool p0.Pending]) O0 (by kernel_rfl)) ?_
  rintro v5 c4 l4 ⟨b1, rfl, O2, m3⟩
  refine va (.bool false) ?_
  refine wln ?_
  refine W.seq ?_
  refine W.regionD [] (Kp G0 []) O2 (by kernel_rfl) ?_
  intro c6 l6 O7
  have p8 : Kp G0 [] c6 := Kp.nil0
  refine AC.take 0 (.agg #[.int .i64 p0.Row, .int .i64 p0.Col, .bool p0.Pending]) rfl (by kernel_rfl) (by kernel_rfl) (fun c' hle => (rx (by kernel_rfl) (run_loadN (T := 120) (by kernel_rfl) (by kernel_rfl) (fun j u hu => (m3 j u hu).mono (l6.trans hle))))) ?_
  refine AC.take 1 (.agg #[.int .i64 p0.Row, .int .i64 p0.Col, .bool p0.Pending]) rfl (by kernel_rfl) (by kernel_rfl) (fun c' hle => (rx (by kernel_rfl) (run_loadN (T := 120) (by kernel_rfl) (by kernel_rfl) (fun j u hu => (m3 j u hu).mono (l6.trans hle))))) ?_
  refine ta 2 (.int .i64 p1) ?_
  refine ta 3 (.int .i64 p2) ?_
  obtain ⟨x_8, h9, H⟩ := bs H
  refine AC.one 4 (by kernel_rfl) (Go1.callP 4 rfl (by kernel_rfl) (by kernel_rfl) (by kernel_rfl) (c_cursor_Hold O7 p0 p1 p2 h9) ?_)
  rintro v15 c14 l14 ⟨O11, rfl⟩
  have p16 : Kp G0 [] c14 := Kp.nil0
  refine ⟨.inr p16, ?_⟩
  refine AC.take 5 (.bool (p0.Row == x_8.Row && (p0.Col == x_8.Col && (p0.Pending == x_8.Pending && true)))) rfl (by kernel_rfl) (by kernel_rfl) (fun c' hle => (run_eqlA (T := 120) (xs := #[.int .i64 p0.Row, .int .i64 p0.Col, .bool p0.Pending]) (ys := #[.int .i64 x_8.Row, .int .i64 x_8.Col, .bool x_8.Pending]) (r := (p0.Row == x_8.Row && (p0.Col == x_8.Col && (p0.Pending == x_8.Pending && true)))) Tryd.underlying120 (by kernel_rfl) (by kernel_rfl) (EqP.int (by kernel_rfl) Tryd.underlying3 rfl rfl (EqP.int (by kernel_rfl) Tryd.underlying3 rfl rfl (EqP.bool (by kernel_rfl) Tryd.underlying4 rfl rfl EqP.nil))) (by kernel_rfl) _)) ?_
  refine ta 6 (.bool (p0.Row == x_8.Row && (p0.Col == x_8.Col && (p0.Pending == x_8.Pending && true)))) ?_
  refine AC.done (by kernel_rfl) ?_
  refine nrm ?_
  refine W.ret ?_
  obtain rfl := Option.some.inj H
  exact ret1 (v := .bool (p0.Row == x_8.Row && (p0.Col == x_8.Col && (p0.Pending == x_8.Pending && true)))) rfl (by kernel_rfl) ⟨_, c14, rfl, rfl, (l4.trans (l6.trans l14)), O11, rfl⟩

def f_linotypelaw34_PlaceSound (sg : Sto) (p0 : List G_api_Line) (p1 : G_linotypelaw34_Act) (p2 : Bool) : Option (Sto × Bool) :=
  (f_linotyperef32_Wrong p0).bind fun x_17 =>
  (f_linotypelaw34_works sg).bind fun x_24 =>
  (orE (!x_24.2) (some (decide ((p0.length : Int) > 20)))).bind fun d_26 =>
  (orE d_26 (some ((p0.length : Int) == 0))).bind fun d_31 =>
  (orE d_31 (some (decide (x_17.1 ≥ 0)))).bind fun d_36 =>
  (orE d_36 (some ((p1.Text.length : Int) == 0))).bind fun d_40 =>
  (orE d_40 (some (decide ((p1.Text.length : Int) > 100)))).bind fun d_46 =>
  if d_46 = true then
  (f_linotypelaw34_works x_24.1).bind fun x_53 =>
  some (x_53.1, x_53.2)
  else
  (f_grid_Of x_24.1 p0).bind fun x_57 =>
  if (!x_57.2.2.isNil) = true then
  some (x_57.1, false)
  else
  (some (x_57.1.add_place_Pen (⟨x_57.2.1, (⟨p1.At.Row, p1.At.Col, p1.At.Pending⟩ : G_api_Cursor), p2⟩ : G_place_Pen))).bind fun s_73001 =>
  (f_place_Pen_Put s_73001 (some x_57.1.place_Pen.length) p1.Wide p1.Text).bind fun x_81 =>
  (f_grid_Grid_Wide x_81.1 x_57.2.1).bind fun x_86 =>
  (f_grid_Grid_High x_81.1 x_57.2.1).bind fun x_88 =>
  (x_81.1.place_Pen[x_57.1.place_Pen.length]?).bind fun o_95 =>
  (f_cursor_Right (⟨o_95.At.Row, o_95.At.Col, o_95.At.Pending⟩ : G_api_Cursor) x_86 x_88).bind fun x_98 =>
  (orE (!x_98) ((f_cursor_Right x_81.2 x_86 x_88).bind fun x_105 =>
  some (!x_105))).bind fun d_100 =>
  if d_100 = true then
  some (x_81.1, false)
  else
  (f_grid_Grid_Lines x_81.1 x_57.2.1).bind fun x_111 =>
  (iter (σ := Int) (τ := (Sto × Bool) ⊕ Unit) (((x_111.length : Int) - 0).toNat + 1) (fun s_116 =>
  if (decide (s_116 < (x_111.length : Int))) = true then
  (idx x_111 s_116).bind fun x_124 =>
  (f_linotyperef23_Sound x_124.Cells).bind fun x_127 =>
  if (!x_127) = true then
  some (.inr (.inl (x_81.1, false)))
  else
  some (.inl ((w64 (s_116 + 1))))
  else
  some (.inr (.inr ()))) (0)).bind fun o_116 =>
  match o_116 with
  | .inl o_116 =>
  some o_116
  | .inr o_116 =>
  (f_linotyperef23_Of (imax 1 (imin p1.Wide 2)) p1.Text).bind fun x_145 =>
  (if (decide ((imax 1 (imin p1.Wide 2)) > x_86)) = true then
  (f_linotyperef23_Of 1 ([65533] : List Int)).bind fun x_154 =>
  (some (x_154) : Option ((List G_api_Cell)))
  else
  (some (x_145) : Option ((List G_api_Cell)))).bind fun z_148 =>
  (andE (decide ((z_148.length : Int) ≤ (w64 (x_86 - x_81.2.Col)))) ((idx x_111 x_81.2.Row).bind fun x_169 =>
  (slc x_169.Cells x_81.2.Col (w64 (x_81.2.Col + (z_148.length : Int)))).bind fun x_179 =>
  (f_linotyperef23_Same x_179 z_148).bind fun x_181 =>
  some x_181)).bind fun d_164 =>
  some (x_81.1, d_164)
set_option maxHeartbeats 4000000 in
theorem c_linotypelaw34_PlaceSound {c0 : Cx} {G : Gm} {F : List En} {sg : Sto} {v1 : Value} {v3 : Value} (O0 : Own c0 G F) (R0 : Rel c0 sg G) (hG : Gl [0, 1] c0) (p0 : List G_api_Line) (p1 : G_linotypelaw34_Act) (p2 : Bool) {r : Sto × Bool} (h2 : Sl R_api_Line c0 v1 p0) (h4 : Sl (RI .i32) c0 v3 p1.Text) (H : f_linotypelaw34_PlaceSound sg p0 p1 p2 = some r) :
    Calls Tryd.prog 17 #[v1, .agg #[.int .i64 p1.Kind, .int .i64 p1.Wide, v3, .int .i64 p1.At.Row, .int .i64 p1.At.Col, .bool p1.At.Pending], .bool p2] c0.w (Post c0 fun c v => ∃ G_ : Gm, Own c G_ (F) ∧ Rel c r.1 G_ ∧ v = .bool r.2) := by
  unfold f_linotypelaw34_PlaceSound at H
  refine enter (l := [v1, .agg #[.int .i64 p1.Kind, .int .i64 p1.Wide, v3, .int .i64 p1.At.Row, .int .i64 p1.At.Col, .bool p1.At.Pending], .bool p2]) Tryd.func17 rfl rfl rfl ?_
  refine sr ?_
  obtain ⟨a5, a6, a7, rfl⟩ := (h4).form
  refine WL.mem rfl (Own.bx (T := 125) (vs := [.int .i64 p1.Kind, .int .i64 p1.Wide, .slice a5 a6 a7, .int .i64 p1.At.Row, .int .i64 p1.At.Col, .bool p1.At.Pending]) O0 (by kernel_rfl)) ?_
  rintro v12 c11 l11 ⟨b8, rfl, O9, m10⟩
  refine va (.bool false) ?_
  refine wln ?_
  refine W.seq ?_
  refine W.join (fun e w => ∃ (c : Cx) (g : Nat → Value) (b13 : Nat) (b14 : Nat), w = c.w ∧ c11.le c ∧ Own c G (⟨.pointer (some ⟨b13, 0, none⟩), 95, [.int .i64 p1.Wide, .slice a5 a6 a7], 0⟩ :: ⟨.pointer (some ⟨b14, 0, none⟩), 120, [.int .i64 p1.At.Row, .int .i64 p1.At.Col, .bool p1.At.Pending], 0⟩ :: F) ∧ e = ups g [(0, v1), (2, .bool p2), (7, .pointer (some ⟨b14, 0, none⟩)), (8, .pointer (some ⟨b13, 0, none⟩))]) ?_ ?_
  · clear H
    refine W.regionD [] (Kp G0 []) O9 (by kernel_rfl) ?_
    intro c15 l15 O16
    have p17 : Kp G0 [] c15 := Kp.nil0
    refine ta 0 (.pointer (some ⟨b8, 0 + 3, none⟩)) ?_
    refine AC.take 1 (.agg #[.int .i64 p1.At.Row, .int .i64 p1.At.Col, .bool p1.At.Pending]) rfl (by kernel_rfl) (by kernel_rfl) (fun c' hle => (rx (by kernel_rfl) (run_loadN (T := 120) (by kernel_rfl) (by kernel_rfl) (imsub (k := 3) (l := [.int .i64 p1.At.Row, .int .i64 p1.At.Col, .bool p1.At.Pending]) (fun j u hu => (m10 j u hu).mono (l15.trans hle)) rfl)))) ?_
    refine ta 2 (.pointer (some ⟨b8, 0 + 1, none⟩)) ?_
    refine AC.take 3 (.int .i64 p1.Wide) rfl (by kernel_rfl) (by kernel_rfl) (fun c' hle => (rx (by kernel_rfl) (run_load1 Tryd.underlying3 rfl ((fun j u hu => (m10 j u hu).mono (l15.trans hle)) 1 _ rfl)))) ?_
    refine ta 4 (.pointer (some ⟨b8, 0 + 2, none⟩)) ?_
    refine AC.take 5 (.slice a5 a6 a7) rfl (by kernel_rfl) (by kernel_rfl) (fun c' hle => (rx (by kernel_rfl) (run_load1 Tryd.underlying25 rfl ((fun j u hu => (m10 j u hu).mono (l15.trans hle)) 2 _ rfl)))) ?_
    refine ta 6 (.agg #[.int .i64 p1.Wide, .slice a5 a6 a7]) ?_
    refine AC.many [7, 8] (by simp) (by kernel_rfl) ⟨?_, ?_, trivial⟩
    · skip
      refine (Go1.mem 7 rfl (by kernel_rfl) (by kernel_rfl) (Own.al (T := 120) (vs := [.int .i64 0, .int .i64 0, .bool false]) O16 (by kernel_rfl)) ?_)
      rintro v21 c20 l20 ⟨b18, rfl, O19⟩
      have p22 : Kp G0 [] c20 := Kp.nil0
      refine ⟨.inr p22, ?_⟩
      refine AC.one 8 (by kernel_rfl) (Go1.mem 8 rfl (by kernel_rfl) (by kernel_rfl) (Own.al (T := 95) (vs := [.int .i64 0, .slice none 0 0]) O19 (by kernel_rfl)) ?_)
      rintro v26 c25 l25 ⟨b23, rfl, O24⟩
      have p27 : Kp G0 [] c25 := Kp.nil0
      refine ⟨.inr p27, ?_⟩
      refine AC.one 9 (by kernel_rfl) (Go1.memD 9 rfl (by kernel_rfl) (by kernel_rfl) (Own.st (T := 120) (j := 0) (us := [.int .i64 p1.At.Row, .int .i64 p1.At.Col, .bool p1.At.Pending]) (nw := [.int .i64 p1.At.Row, .int .i64 p1.At.Col, .bool p1.At.Pending]) (v := .agg #[.int .i64 p1.At.Row, .int .i64 p1.At.Col, .bool p1.At.Pending]) 1 O24 (by kernel_rfl) rfl rfl rfl rfl (by kernel_rfl) ⟨rfl, rfl, rfl, trivial⟩ rfl rfl) ?_)
      rintro c29 l29 O28
      have p30 : Kp G0 [] c29 := Kp.nil0
      refine ⟨.inr p30, ?_⟩
      refine AC.one 10 (by kernel_rfl) (Go1.memD 10 rfl (by kernel_rfl) (by kernel_rfl) (Own.st (T := 95) (j := 0) (us := [.int .i64 p1.Wide, .slice a5 a6 a7]) (nw := [.int .i64 p1.Wide, .slice a5 a6 a7]) (v := .agg #[.int .i64 p1.Wide, .slice a5 a6 a7]) 0 O28 (by kernel_rfl) rfl rfl rfl rfl (by kernel_rfl) ⟨rfl, (h4.mono (l11.trans (l15.trans (l20.trans (l25.trans l29))))).one, trivial⟩ rfl rfl) ?_)
      rintro c32 l32 O31
      have p33 : Kp G0 [] c32 := Kp.nil0
      refine ⟨.inr p33, ?_⟩
      refine AC.done (by kernel_rfl) ?_
      refine nrm ?_
      exact ⟨c32, _, b23, b18, rfl, (l15.trans (l20.trans (l25.trans (l29.trans l32)))), O31, ups_self ⟨rfl, rfl, rfl, rfl, trivial⟩⟩
    · skip
      refine (Go1.mem 8 rfl (by kernel_rfl) (by kernel_rfl) (Own.al (T := 95) (vs := [.int .i64 0, .slice none 0 0]) O16 (by kernel_rfl)) ?_)
      rintro v37 c36 l36 ⟨b34, rfl, O35⟩
      have p38 : Kp G0 [] c36 := Kp.nil0
      refine ⟨.inr p38, ?_⟩
      refine AC.one 7 (by kernel_rfl) (Go1.mem 7 rfl (by kernel_rfl) (by kernel_rfl) (Own.al (T := 120) (vs := [.int .i64 0, .int .i64 0, .bool false]) O35 (by kernel_rfl)) ?_)
      rintro v42 c41 l41 ⟨b39, rfl, O40⟩
      have p43 : Kp G0 [] c41 := Kp.nil0
      refine ⟨.inr p43, ?_⟩
      refine AC.one 9 (by kernel_rfl) (Go1.memD 9 rfl (by kernel_rfl) (by kernel_rfl) (Own.st (T := 120) (j := 0) (us := [.int .i64 p1.At.Row, .int .i64 p1.At.Col, .bool p1.At.Pending]) (nw := [.int .i64 p1.At.Row, .int .i64 p1.At.Col, .bool p1.At.Pending]) (v := .agg #[.int .i64 p1.At.Row, .int .i64 p1.At.Col, .bool p1.At.Pending]) 0 O40 (by kernel_rfl) rfl rfl rfl rfl (by kernel_rfl) ⟨rfl, rfl, rfl, trivial⟩ rfl rfl) ?_)
      rintro c45 l45 O44
      have p46 : Kp G0 [] c45 := Kp.nil0
      refine ⟨.inr p46, ?_⟩
      refine AC.one 10 (by kernel_rfl) (Go1.memD 10 rfl (by kernel_rfl) (by kernel_rfl) (Own.st (T := 95) (j := 0) (us := [.int .i64 p1.Wide, .slice a5 a6 a7]) (nw := [.int .i64 p1.Wide, .slice a5 a6 a7]) (v := .agg #[.int .i64 p1.Wide, .slice a5 a6 a7]) 1 O44 (by kernel_rfl) rfl rfl rfl rfl (by kernel_rfl) ⟨rfl, (h4.mono (l11.trans (l15.trans (l36.trans (l41.trans l45))))).one, trivial⟩ rfl rfl) ?_)
      rintro c48 l48 O47
      have p49 : Kp G0 [] c48 := Kp.nil0
      refine ⟨.inr p49, ?_⟩
      refine AC.done (by kernel_rfl) ?_
      refine nrm ?_
      have O50 := O47.selD 2 [1, 0] (by kernel_rfl) (by kernel_rfl)
      exact ⟨c48, _, b34, b39, rfl, (l15.trans (l36.trans (l41.trans (l45.trans l48)))), O50, ups_self ⟨rfl, rfl, rfl, rfl, trivial⟩⟩
  · skip
    rintro e_ w_ ⟨c51, g52, b13, b14, rfl, l51, O53, rfl⟩
    refine nrm ?_
    refine sr ?_
    refine va (v1) ?_
    obtain ⟨x_17, h57, H⟩ := bs H
    refine WL.callP rfl (by kernel_rfl) (c_linotyperef32_Wrong O53 p0 (h2.mono (l11.trans l51)) h57) ?_
    rintro v63 c62 l62 ⟨O59, rfl⟩
    refine va (.tuple #[.int .i64 x_17.1, .int .i64 x_17.2]) ?_
    refine va (.int .i64 x_17.1) ?_
    refine va (.int .i64 x_17.2) ?_
    refine va (.int .i64 x_17.1) ?_
    refine va (.int .i64 x_17.2) ?_
    refine wln ?_
    refine W.seq ?_
    refine W.seq ?_
    obtain ⟨x_24, h64, H⟩ := bs H
    obtain ⟨d_26, h65, H⟩ := bs H
    obtain ⟨d_31, h66, H⟩ := bs H
    obtain ⟨d_36, h67, H⟩ := bs H
    obtain ⟨d_40, h68, H⟩ := bs H
    obtain ⟨d_46, h69, H⟩ := bs H
    refine W.join (fun e w => ∃ (c : Cx) (g : Nat → Value) (G_ : Gm), w = c.w ∧ c62.le c ∧ Own c G_ (⟨.pointer (some ⟨b13, 0, none⟩), 95, [.int .i64 p1.Wide, .slice a5 a6 a7], 0⟩ :: ⟨.pointer (some ⟨b14, 0, none⟩), 120, [.int .i64 p1.At.Row, .int .i64 p1.At.Col, .bool p1.At.Pending], 0⟩ :: F) ∧ e = ups g [(0, v1), (2, .bool p2), (7, .pointer (some ⟨b14, 0, none⟩)), (8, .pointer (some ⟨b13, 0, none⟩)), (60, .bool d_46)] ∧ Rel c x_24.1 G_) ?_ ?_
    · clear H
      refine W.region ?_
      refine WL.callP rfl (by kernel_rfl) (c_linotypelaw34_works O59 (R0.mono (l11.trans (l51.trans l62))) ((hG.mono (l11.trans (l51.trans l62))).le (by decide)) h64) ?_
      rintro v75 c74 l74 ⟨G70, O71, R72, rfl⟩
      refine va (.bool (!x_24.2)) ?_
      rcases Bool.eq_false_or_eq_true (!x_24.2) with h76 | h76
      · skip
        obtain rfl := orT h76 h65
        refine vb h76 ?_
        refine ps ?_
        refine ps ?_
        refine ps ?_
        refine va (.bool true) ?_
        have h77 : true = true := rfl
        obtain rfl := orT h77 h66
        refine vb h77 ?_
        refine ps ?_
        refine ps ?_
        refine ps ?_
        refine va (.bool true) ?_
        have h78 : true = true := rfl
        obtain rfl := orT h78 h67
        refine vb h78 ?_
        refine ps ?_
        refine ps ?_
        refine va (.bool true) ?_
        have h79 : true = true := rfl
        obtain rfl := orT h79 h68
        refine vb h79 ?_
        refine ps ?_
        refine ps ?_
        refine ps ?_
        refine ps ?_
        refine va (.bool true) ?_
        have h80 : true = true := rfl
        obtain rfl := orT h80 h69
        refine vb h80 ?_
        refine ps ?_
        refine ps ?_
        refine ps ?_
        refine ps ?_
        refine va (.bool true) ?_
        refine wln ?_
        exact ⟨c74, _, G70, rfl, l74, O71, ups_self ⟨rfl, rfl, rfl, rfl, rfl, trivial⟩, R72⟩
      · skip
        have H81 := orF h76 h65
        refine vb h76 ?_
        refine wn ?_
        refine va (v1) ?_
        refine wn ?_
        refine WL.val0 (v := .int .i64 (p0.length : Int)) rfl (rx (by kernel_rfl) (run_len (ty := 3) Tryd.underlying47 (h2.mono (l11.trans (l51.trans (l62.trans l74)))) _)) ?_
        refine wn ?_
        refine va (.bool (decide ((p0.length : Int) > 20))) ?_
        obtain rfl := Option.some.inj H81
        refine va (.bool (decide ((p0.length : Int) > 20))) ?_
        rcases Bool.eq_false_or_eq_true (decide ((p0.length : Int) > 20)) with h82 | h82
        · skip
          obtain rfl := orT h82 h66
          refine vb h82 ?_
          refine ps ?_
          refine ps ?_
          refine ps ?_
          refine va (.bool true) ?_
          have h83 : true = true := rfl
          obtain rfl := orT h83 h67
          refine vb h83 ?_
          refine ps ?_
          refine ps ?_
          refine va (.bool true) ?_
          have h84 : true = true := rfl
          obtain rfl := orT h84 h68
          refine vb h84 ?_
          refine ps ?_
          refine ps ?_
          refine ps ?_
          refine ps ?_
          refine va (.bool true) ?_
          have h85 : true = true := rfl
          obtain rfl := orT h85 h69
          refine vb h85 ?_
          refine ps ?_
          refine ps ?_
          refine ps ?_
          refine ps ?_
          refine va (.bool true) ?_
          refine wln ?_
          exact ⟨c74, _, G70, rfl, l74, O71, ups_self ⟨rfl, rfl, rfl, rfl, rfl, trivial⟩, R72⟩
        · skip
          have H86 := orF h82 h66
          refine vb h82 ?_
          refine wn ?_
          refine va (v1) ?_
          refine wn ?_
          refine WL.val0 (v := .int .i64 (p0.length : Int)) rfl (rx (by kernel_rfl) (run_len (ty := 3) Tryd.underlying47 (h2.mono (l11.trans (l51.trans (l62.trans l74)))) _)) ?_
          refine wn ?_
          refine va (.bool ((p0.length : Int) == 0)) ?_
          obtain rfl := Option.some.inj H86
          refine va (.bool ((p0.length : Int) == 0)) ?_
          rcases Bool.eq_false_or_eq_true ((p0.length : Int) == 0) with h87 | h87
          · skip
            obtain rfl := orT h87 h67
            refine vb h87 ?_
            refine ps ?_
            refine ps ?_
            refine va (.bool true) ?_
            have h88 : true = true := rfl
            obtain rfl := orT h88 h68
            refine vb h88 ?_
            refine ps ?_
            refine ps ?_
            refine ps ?_
            refine ps ?_
            refine va (.bool true) ?_
            have h89 : true = true := rfl
            obtain rfl := orT h89 h69
            refine vb h89 ?_
            refine ps ?_
            refine ps ?_
            refine ps ?_
            refine ps ?_
            refine va (.bool true) ?_
            refine wln ?_
            exact ⟨c74, _, G70, rfl, l74, O71, ups_self ⟨rfl, rfl, rfl, rfl, rfl, trivial⟩, R72⟩
          · skip
            have H90 := orF h87 h67
            refine vb h87 ?_
            refine wn ?_
            refine va (.int .i64 x_17.1) ?_
            refine wn ?_
            refine va (.bool (decide (x_17.1 ≥ 0))) ?_
            obtain rfl := Option.some.inj H90
            refine va (.bool (decide (x_17.1 ≥ 0))) ?_
            rcases Bool.eq_false_or_eq_true (decide (x_17.1 ≥ 0)) with h91 | h91
            · skip
              obtain rfl := orT h91 h68
              refine vb h91 ?_
              refine ps ?_
              refine ps ?_
              refine ps ?_
              refine ps ?_
              refine va (.bool true) ?_
              have h92 : true = true := rfl
              obtain rfl := orT h92 h69
              refine vb h92 ?_
              refine ps ?_
              refine ps ?_
              refine ps ?_
              refine ps ?_
              refine va (.bool true) ?_
              refine wln ?_
              exact ⟨c74, _, G70, rfl, l74, O71, ups_self ⟨rfl, rfl, rfl, rfl, rfl, trivial⟩, R72⟩
            · skip
              have H93 := orF h91 h68
              refine vb h91 ?_
              refine wn ?_
              refine va (.pointer (some ⟨b13, 1, none⟩)) ?_
              refine wn ?_
              refine WL.val0 (v := .slice a5 a6 a7) rfl (rx (by kernel_rfl) (ldE1 (j := 1) Tryd.underlying25 rfl (O71.on 0 rfl) rfl rfl)) ?_
              refine wn ?_
              refine WL.val0 (v := .int .i64 (p1.Text.length : Int)) rfl (rx (by kernel_rfl) (run_len (ty := 3) Tryd.underlying25 (h4.mono (l11.trans (l51.trans (l62.trans l74)))) _)) ?_
              refine wn ?_
              refine va (.bool ((p1.Text.length : Int) == 0)) ?_
              obtain rfl := Option.some.inj H93
              refine va (.bool ((p1.Text.length : Int) == 0)) ?_
              rcases Bool.eq_false_or_eq_true ((p1.Text.length : Int) == 0) with h94 | h94
              · skip
                obtain rfl := orT h94 h69
                refine vb h94 ?_
                refine ps ?_
                refine ps ?_
                refine ps ?_
                refine ps ?_
                refine va (.bool true) ?_
                refine wln ?_
                exact ⟨c74, _, G70, rfl, l74, O71, ups_self ⟨rfl, rfl, rfl, rfl, rfl, trivial⟩, R72⟩
              · skip
                have H95 := orF h94 h69
                refine vb h94 ?_
                refine wn ?_
                refine va (.pointer (some ⟨b13, 1, none⟩)) ?_
                refine wn ?_
                refine WL.val0 (v := .slice a5 a6 a7) rfl (rx (by kernel_rfl) (ldE1 (j := 1) Tryd.underlying25 rfl (O71.on 0 rfl) rfl rfl)) ?_
                refine wn ?_
                refine WL.val0 (v := .int .i64 (p1.Text.length : Int)) rfl (rx (by kernel_rfl) (run_len (ty := 3) Tryd.underlying25 (h4.mono (l11.trans (l51.trans (l62.trans l74)))) _)) ?_
                refine wn ?_
                refine va (.bool (decide ((p1.Text.length : Int) > 100))) ?_
                obtain rfl := Option.some.inj H95
                refine va (.bool (decide ((p1.Text.length : Int) > 100))) ?_
                refine wln ?_
                exact ⟨c74, _, G70, rfl, l74, O71, ups_self ⟨rfl, rfl, rfl, rfl, rfl, trivial⟩, R72⟩
    · skip
      rintro e_ w_ ⟨c96, g97, G99, rfl, l96, O98, rfl, R100⟩
      refine nrm ?_
      refine W.cond (t := d_46) (by kernel_rfl) (fun h102 => ?_) (fun h102 => ?_)
      · have H := it h102 H
        refine sr ?_
        obtain ⟨x_53, h103, H⟩ := bs H
        refine WL.callP rfl (by kernel_rfl) (c_linotypelaw34_works O98 R100 ((hG.mono (l11.trans (l51.trans (l62.trans l96)))).le (by decide)) h103) ?_
        rintro v109 c108 l108 ⟨G104, O105, R106, rfl⟩
        refine va (.bool x_53.2) ?_
        refine wln ?_
        refine W.ret ?_
        refine thr ?_
        obtain rfl := Option.some.inj H
        have O110 := O105.selD 2 [] (by kernel_rfl) (by kernel_rfl)
        exact ret1 (v := .bool x_53.2) rfl (by kernel_rfl) ⟨_, c108, rfl, rfl, (l11.trans (l51.trans (l62.trans (l96.trans l108)))), G104, O110, R106, rfl⟩
      · have H := ie h102 H
        refine W.skip ?_
        refine nrm ?_
        refine sr ?_
        refine va (v1) ?_
        obtain ⟨x_57, h111, H⟩ := bs H
        refine WL.callP rfl (by kernel_rfl) (c_grid_Of O98 R100 ((hG.mono (l11.trans (l51.trans (l62.trans l96)))).le (by decide)) p0 (h2.mono (l11.trans (l51.trans (l62.trans l96)))) h111) ?_
        rintro v121 c120 l120 ⟨v112, v114, G116, O117, R118, rfl, h113, h115⟩
        refine va (.tuple #[v112, v114]) ?_
        refine va (v112) ?_
        refine va (v114) ?_
        refine va (v112) ?_
        refine va (v114) ?_
        refine wln ?_
        refine W.seq ?_
        refine sr ?_
        refine va (v114) ?_
        refine WL.val0 (v := .bool (!x_57.2.2.isNil)) rfl (by rcases (h115).cs with ⟨h1_, h2_⟩ | ⟨b_, h1_, h2_⟩ | ⟨b_, h1_, h2_⟩ <;> (subst h1_; rw [h2_]; kernel_rfl)) ?_
        refine wln ?_
        refine W.cond (t := !x_57.2.2.isNil) (by kernel_rfl) (fun h122 => ?_) (fun h122 => ?_)
        · have H := it h122 H
          refine sr ?_
          refine va (.bool false) ?_
          refine wln ?_
          refine W.ret ?_
          refine thr ?_
          obtain rfl := Option.some.inj H
          have O123 := O117.selD 2 [] (by kernel_rfl) (by kernel_rfl)
          exact ret1 (v := .bool false) rfl (by kernel_rfl) ⟨_, c120, rfl, rfl, (l11.trans (l51.trans (l62.trans (l96.trans l120)))), G116, O123, R118, rfl⟩
        · have H := ie h122 H
          refine W.skip ?_
          refine nrm ?_
          refine sr ?_
          refine va (v112) ?_
          refine WL.val0 (v := .agg #[.int .i64 p1.At.Row, .int .i64 p1.At.Col, .bool p1.At.Pending]) rfl (rx (by kernel_rfl) (ldEN (T := 120) (j := 0) (l := [.int .i64 p1.At.Row, .int .i64 p1.At.Col, .bool p1.At.Pending]) (by kernel_rfl) (by kernel_rfl) (O117.on 1 rfl) rfl rfl)) ?_
          refine va (.bool p2) ?_
          obtain ⟨a124, rfl⟩ := (h113).form
          refine va (.agg #[.pointer a124, .int .i64 p1.At.Row, .int .i64 p1.At.Col, .bool p1.At.Pending, .bool p2]) ?_
          refine WL.mem rfl (Own.al (T := 131) (vs := [.pointer a124, .int .i64 p1.At.Row, .int .i64 p1.At.Col, .bool p1.At.Pending, .bool p2]) O117 (by kernel_rfl)) ?_
          rintro v128 c127 l127 ⟨b125, rfl, O126⟩
          have O129 := O126.selD 3 [0, 1, 2] (by kernel_rfl) (by kernel_rfl)
          obtain ⟨s_73001, h130, H⟩ := bs H
          obtain ⟨c131, G139, h132, l131, h133, O134, R135, h136, h137, a138⟩ := Rel.new_place_Pen (E := [⟨.pointer (some ⟨b125, 0, none⟩), 131, [.pointer a124, .int .i64 p1.At.Row, .int .i64 p1.At.Col, .bool p1.At.Pending, .bool p2], 0⟩]) (F := ⟨.pointer (some ⟨b13, 0, none⟩), 95, [.int .i64 p1.Wide, .slice a5 a6 a7], 0⟩ :: ⟨.pointer (some ⟨b14, 0, none⟩), 120, [.int .i64 p1.At.Row, .int .i64 p1.At.Col, .bool p1.At.Pending], 0⟩ :: F) (x := (⟨x_57.2.1, (⟨p1.At.Row, p1.At.Col, p1.At.Pending⟩ : G_api_Cursor), p2⟩ : G_place_Pen)) (b := b125) O129 (R118.mono l127) (fun c_ hle_ => ⟨b125, (.pointer a124), rfl, rfl, (h113.mono (l127.trans hle_))⟩)
          rw [Option.some.inj h130] at R135
          refine WL.gh h132.1 ?_
          have h141 : Pt 2 c131 (.pointer (some ⟨b125, 0, none⟩)) (some x_57.1.place_Pen.length) := ⟨b125, rfl, h133⟩
          refine va (.pointer (some ⟨b125, 0, none⟩)) ?_
          refine wln ?_
          refine sr ?_
          refine va (.pointer (some ⟨b125, 0, none⟩)) ?_
          refine va (.pointer (some ⟨b13, 0, none⟩)) ?_
          refine WL.val0 (v := .int .i64 p1.Wide) rfl (rx (by kernel_rfl) (ldE1 (j := 0) Tryd.underlying3 rfl (O134.on 0 rfl) rfl rfl)) ?_
          refine va (.pointer (some ⟨b13, 1, none⟩)) ?_
          refine WL.val0 (v := .slice a5 a6 a7) rfl (rx (by kernel_rfl) (ldE1 (j := 1) Tryd.underlying25 rfl (O134.on 0 rfl) rfl rfl)) ?_
          obtain ⟨x_81, h142, H⟩ := bs H
          refine WL.callP rfl (by kernel_rfl) (c_place_Pen_Put O134 R135 ((hG.mono (l11.trans (l51.trans (l62.trans (l96.trans (l120.trans (l127.trans l131))))))).le (by decide)) (some x_57.1.place_Pen.length) p1.Wide p1.Text h141 (h4.mono (l11.trans (l51.trans (l62.trans (l96.trans (l120.trans (l127.trans l131))))))) h142) ?_
          rintro v148 c147 l147 ⟨G143, O144, R145, rfl⟩
          refine WL.mem rfl (Own.al (T := 120) (vs := [.int .i64 0, .int .i64 0, .bool false]) O144 (by kernel_rfl)) ?_
          rintro v152 c151 l151 ⟨b149, rfl, O150⟩
          refine WL.memD rfl (Own.st (T := 120) (j := 0) (us := [.int .i64 x_81.2.Row, .int .i64 x_81.2.Col, .bool x_81.2.Pending]) (nw := [.int .i64 x_81.2.Row, .int .i64 x_81.2.Col, .bool x_81.2.Pending]) (v := .agg #[.int .i64 x_81.2.Row, .int .i64 x_81.2.Col, .bool x_81.2.Pending]) 0 O150 (by kernel_rfl) rfl rfl rfl rfl (by kernel_rfl) ⟨rfl, rfl, rfl, trivial⟩ rfl rfl) ?_
          rintro c154 l154 O153
          refine wln ?_
          refine sr ?_
          refine va (.pointer a124) ?_
          obtain ⟨x_86, h155, H⟩ := bs H
          refine WL.callP rfl (by kernel_rfl) (c_grid_Grid_Wide O153 (R145.mono (l151.trans l154)) x_57.2.1 (h113.mono (l127.trans (l131.trans (l147.trans (l151.trans l154))))) h155) ?_
          rintro v161 c160 l160 ⟨O157, rfl⟩
          refine va (.pointer a124) ?_
          obtain ⟨x_88, h162, H⟩ := bs H
          refine WL.callP rfl (by kernel_rfl) (c_grid_Grid_High O157 (R145.mono (l151.trans (l154.trans l160))) x_57.2.1 (h113.mono (l127.trans (l131.trans (l147.trans (l151.trans (l154.trans l160)))))) h162) ?_
          rintro v168 c167 l167 ⟨O164, rfl⟩
          refine va (.int .i64 x_86) ?_
          refine va (.int .i64 x_88) ?_
          refine wln ?_
          refine W.seq ?_
          refine W.seq ?_
          obtain ⟨o_95, h169, H⟩ := bs H
          obtain ⟨x_98, h170, H⟩ := bs H
          obtain ⟨d_100, h171, H⟩ := bs H
          refine W.join (fun e w => ∃ (c : Cx) (g : Nat → Value), w = c.w ∧ c167.le c ∧ Own c G143 (⟨.pointer (some ⟨b149, 0, none⟩), 120, [.int .i64 x_81.2.Row, .int .i64 x_81.2.Col, .bool x_81.2.Pending], 0⟩ :: ⟨.pointer (some ⟨b13, 0, none⟩), 95, [.int .i64 p1.Wide, .slice a5 a6 a7], 0⟩ :: ⟨.pointer (some ⟨b14, 0, none⟩), 120, [.int .i64 p1.At.Row, .int .i64 p1.At.Col, .bool p1.At.Pending], 0⟩ :: F) ∧ e = ups g [(8, .pointer (some ⟨b13, 0, none⟩)), (11, .pointer a124), (14, .pointer (some ⟨b149, 0, none⟩)), (15, .int .i64 x_86), (98, .bool d_100)]) ?_ ?_
          · clear H
            refine W.region ?_
            refine va (.pointer (some ⟨b125, 0, none⟩)) ?_
            refine va (.pointer (some ⟨b125, 0, none⟩)) ?_
            refine va (.pointer (some ⟨b125, 1, none⟩)) ?_
            obtain ⟨v172, h174, h173⟩ := Rel.open_place_Pen (R145.mono (l151.trans (l154.trans (l160.trans l167)))) h169 ((l147.trans (l151.trans (l154.trans (l160.trans l167)))).t _ _ _ h133)
            refine WL.val0 (v := .agg #[.int .i64 o_95.At.Row, .int .i64 o_95.At.Col, .bool o_95.At.Pending]) rfl (rx (by kernel_rfl) (ldEN (T := 120) (j := 1) (l := [.int .i64 o_95.At.Row, .int .i64 o_95.At.Col, .bool o_95.At.Pending]) (by kernel_rfl) (by kernel_rfl) (O164.gon h174 0 rfl) rfl rfl)) ?_
            refine va (.int .i64 x_86) ?_
            refine va (.int .i64 x_88) ?_
            refine WL.callP rfl (by kernel_rfl) (c_cursor_Right O164 (⟨o_95.At.Row, o_95.At.Col, o_95.At.Pending⟩ : G_api_Cursor) x_86 x_88 h170) ?_
            rintro v180 c179 l179 ⟨O176, rfl⟩
            refine va (.bool (!x_98)) ?_
            rcases Bool.eq_false_or_eq_true (!x_98) with h181 | h181
            · skip
              obtain rfl := orT h181 h171
              refine vb h181 ?_
              refine ps ?_
              refine ps ?_
              refine ps ?_
              refine ps ?_
              refine ps ?_
              refine va (.bool true) ?_
              refine wln ?_
              exact ⟨c179, _, rfl, l179, O176, ups_self ⟨rfl, rfl, rfl, rfl, rfl, trivial⟩⟩
            · skip
              have H182 := orF h181 h171
              refine vb h181 ?_
              refine wn ?_
              refine WL.val0 (v := .agg #[.int .i64 x_81.2.Row, .int .i64 x_81.2.Col, .bool x_81.2.Pending]) rfl (rx (by kernel_rfl) (ldEN (T := 120) (j := 0) (l := [.int .i64 x_81.2.Row, .int .i64 x_81.2.Col, .bool x_81.2.Pending]) (by kernel_rfl) (by kernel_rfl) (O176.on 0 rfl) rfl rfl)) ?_
              refine wn ?_
              refine va (.int .i64 x_86) ?_
              refine wn ?_
              refine va (.int .i64 x_88) ?_
              refine wn ?_
              obtain ⟨x_105, h183, H182⟩ := bs H182
              refine WL.callP rfl (by kernel_rfl) (c_cursor_Right O176 x_81.2 x_86 x_88 h183) ?_
              rintro v189 c188 l188 ⟨O185, rfl⟩
              refine wn ?_
              refine va (.bool (!x_105)) ?_
              obtain rfl := Option.some.inj H182
              refine va (.bool (!x_105)) ?_
              refine wln ?_
              exact ⟨c188, _, rfl, (l179.trans l188), O185, ups_self ⟨rfl, rfl, rfl, rfl, rfl, trivial⟩⟩
          · skip
            rintro e_ w_ ⟨c190, g191, rfl, l190, O192, rfl⟩
            refine nrm ?_
            refine W.cond (t := d_100) (by kernel_rfl) (fun h196 => ?_) (fun h196 => ?_)
            · have H := it h196 H
              refine sr ?_
              refine va (.bool false) ?_
              refine wln ?_
              refine W.ret ?_
              refine thr ?_
              obtain rfl := Option.some.inj H
              have O197 := O192.selD 3 [] (by kernel_rfl) (by kernel_rfl)
              exact ret1 (v := .bool false) rfl (by kernel_rfl) ⟨_, c190, rfl, rfl, (l11.trans (l51.trans (l62.trans (l96.trans (l120.trans (l127.trans (l131.trans (l147.trans (l151.trans (l154.trans (l160.trans (l167.trans l190)))))))))))), G143, O197, (R145.mono (l151.trans (l154.trans (l160.trans (l167.trans l190))))), rfl⟩
            · have H := ie h196 H
              refine W.skip ?_
              refine nrm ?_
              refine sr ?_
              refine va (.pointer a124) ?_
              obtain ⟨x_111, h198, H⟩ := bs H
              refine WL.callP rfl (by kernel_rfl) (c_grid_Grid_Lines O192 (R145.mono (l151.trans (l154.trans (l160.trans (l167.trans l190))))) x_57.2.1 (h113.mono (l127.trans (l131.trans (l147.trans (l151.trans (l154.trans (l160.trans (l167.trans l190)))))))) h198) ?_
              rintro v199 c206 l206 ⟨_, u200, O203, rfl, h201⟩
              refine va (v199) ?_
              refine wln ?_
              refine W.seq ?_
              refine sr ?_
              refine va (.int .i64 0) ?_
              refine wln ?_
              refine W.block ?_
              obtain ⟨o_116, h208, H209⟩ := bs H
              refine W.loop (σ := Int) (τ := (Sto × Bool) ⊕ Unit) (fun s_116 => fun e w => ∃ (c : Cx) (g : Nat → Value), w = c.w ∧ c206.le c ∧ Own c G143 (es true R_api_Line v199 62 u200 x_111 :: ⟨.pointer (some ⟨b149, 0, none⟩), 120, [.int .i64 x_81.2.Row, .int .i64 x_81.2.Col, .bool x_81.2.Pending], 0⟩ :: ⟨.pointer (some ⟨b13, 0, none⟩), 95, [.int .i64 p1.Wide, .slice a5 a6 a7], 0⟩ :: ⟨.pointer (some ⟨b14, 0, none⟩), 120, [.int .i64 p1.At.Row, .int .i64 p1.At.Col, .bool p1.At.Pending], 0⟩ :: F) ∧ e = ups g [(8, .pointer (some ⟨b13, 0, none⟩)), (14, .pointer (some ⟨b149, 0, none⟩)), (15, .int .i64 x_86), (17, v199), (18, .int .i64 s_116)]) (fun t => match t with | .inl x_ => (fun rr_ ex e w => ex = .ret ∧ (fun e w => ∃ (c : Cx) (g : Nat → Value) (G_ : Gm), w = c.w ∧ c206.le c ∧ Own c G_ (F) ∧ e = ups g [(6, .bool rr_.2)] ∧ Rel c rr_.1 G_) e w) x_ | .inr x_ => (fun o_116_ ex e w => ex = .exit 0 ∧ (fun e w => ∃ (c : Cx) (g : Nat → Value), w = c.w ∧ c206.le c ∧ Own c G143 (es true R_api_Line v199 62 u200 x_111 :: ⟨.pointer (some ⟨b149, 0, none⟩), 120, [.int .i64 x_81.2.Row, .int .i64 x_81.2.Col, .bool x_81.2.Pending], 0⟩ :: ⟨.pointer (some ⟨b13, 0, none⟩), 95, [.int .i64 p1.Wide, .slice a5 a6 a7], 0⟩ :: ⟨.pointer (some ⟨b14, 0, none⟩), 120, [.int .i64 p1.At.Row, .int .i64 p1.At.Col, .bool p1.At.Pending], 0⟩ :: F) ∧ e = ups g [(8, .pointer (some ⟨b13, 0, none⟩)), (14, .pointer (some ⟨b149, 0, none⟩)), (15, .int .i64 x_86), (17, v199)]) e w) x_) ?_ h208 ?_ ?_
              · clear H209 h208
                intro s_116 xx_ ee_ ww_ H
                revert ee_ ww_
                rintro e_ w_ ⟨c210, g211, rfl, l210, O212, rfl⟩
                refine W.seq ?_
                refine sr ?_
                refine va (.int .i64 s_116) ?_
                refine va (v199) ?_
                refine WL.val0 (v := .int .i64 (x_111.length : Int)) rfl (rx (by kernel_rfl) (run_lenO (ty := 3) Tryd.underlying47 (h201.mono l210) _)) ?_
                refine va (.bool (decide (s_116 < (x_111.length : Int)))) ?_
                refine wln ?_
                refine W.cond (t := decide (s_116 < (x_111.length : Int))) (by kernel_rfl) (fun h216 => ?_) (fun h216 => ?_)
                · have H := it h216 H
                  refine W.skip ?_
                  refine nrm ?_
                  refine W.seq ?_
                  refine W.block ?_
                  refine sr ?_
                  refine va (v199) ?_
                  refine va (.int .i64 s_116) ?_
                  obtain ⟨x_124, h217, H⟩ := bs H
                  refine WL.val0 (v := .pointer (some ⟨sb v199, s_116.toNat * 2, none⟩)) rfl (rx (by kernel_rfl) (run_indexO (k := .i64) Tryd.underlying47 (by kernel_rfl) (h201.mono l210) h217 _)) ?_
                  refine va (.pointer (some ⟨sb v199, s_116.toNat * 2, none⟩)) ?_
                  obtain ⟨l_218, h219, m220⟩ := OA.at (h201.mono l210) h217
                  obtain ⟨v221, rfl, h222⟩ := h219
                  refine WL.val0 (v := v221) rfl (rx (by kernel_rfl) (ldE1 Tryd.underlying22 rfl (O212.on 0 rfl) ((h201.mono l210).blk h217) (at1 (j := 0) m220 rfl))) ?_
                  obtain ⟨x_127, h223, H⟩ := bs H
                  refine WL.callP rfl (by kernel_rfl) (c_linotyperef23_Sound O212 x_124.Cells h222 h223) ?_
                  rintro v229 c228 l228 ⟨O225, rfl⟩
                  refine va (.bool (!x_127)) ?_
                  refine wln ?_
                  refine W.cond (t := !x_127) (by kernel_rfl) (fun h230 => ?_) (fun h230 => ?_)
                  · have H := it h230 H
                    refine sr ?_
                    refine va (.bool false) ?_
                    refine wln ?_
                    refine W.ret ?_
                    refine bkr ?_
                    refine thr ?_
                    obtain rfl := Option.some.inj H
                    refine ⟨_, rfl, ?_⟩
                    refine ⟨rfl, ?_⟩
                    have O231 := O225.selD 4 [] (by kernel_rfl) (by kernel_rfl)
                    exact ⟨c228, _, G143, rfl, (l210.trans l228), O231, ups_self ⟨rfl, trivial⟩, (R145.mono (l151.trans (l154.trans (l160.trans (l167.trans (l190.trans (l206.trans (l210.trans l228))))))))⟩
                  · have H := ie h230 H
                    refine W.skip ?_
                    refine bkn ?_
                    refine nrm ?_
                    refine W.region ?_
                    refine va (.int .i64 s_116) ?_
                    refine va (.int .i64 (w64 (s_116 + 1))) ?_
                    refine va (.int .i64 (w64 (s_116 + 1))) ?_
                    refine WL.nil ?_
                    obtain rfl := Option.some.inj H
                    refine ⟨_, rfl, ?_⟩
                    exact ⟨c228, _, rfl, (l210.trans l228), O225, ups_self ⟨rfl, rfl, rfl, rfl, rfl, trivial⟩⟩
                · have H := ie h216 H
                  refine W.exit ?_
                  refine thx ?_
                  obtain rfl := Option.some.inj H
                  refine ⟨_, rfl, rfl, ?_⟩
                  exact ⟨c210, _, rfl, l210, O212, ups_self ⟨rfl, rfl, rfl, rfl, trivial⟩⟩
              · skip
                exact ⟨c206, _, rfl, (Cx.le.refl _), O203, ups_self ⟨rfl, rfl, rfl, rfl, rfl, trivial⟩⟩
              · skip
                rcases o_116 with o_116 | o_116
                · skip
                  intro ex_; revert ex_
                  rintro _ e_ w_ ⟨rfl, c232, g233, G235, rfl, l232, O234, rfl, R236⟩
                  refine bkr ?_
                  refine thr ?_
                  obtain rfl := Option.some.inj H209
                  exact ret1 (v := .bool o_116.2) rfl (by kernel_rfl) ⟨_, c232, rfl, rfl, (l11.trans (l51.trans (l62.trans (l96.trans (l120.trans (l127.trans (l131.trans (l147.trans (l151.trans (l154.trans (l160.trans (l167.trans (l190.trans (l206.trans l232)))))))))))))), G235, O234, R236, rfl⟩
                · skip
                  rintro _ e_ w_ ⟨rfl, c238, g239, rfl, l238, O240, rfl⟩
                  refine bke ?_
                  refine nrm ?_
                  refine sr ?_
                  refine va (.pointer (some ⟨b13, 0, none⟩)) ?_
                  refine WL.val0 (v := .int .i64 p1.Wide) rfl (rx (by kernel_rfl) (ldE1 (j := 0) Tryd.underlying3 rfl (O240.on 2 rfl) rfl rfl)) ?_
                  refine va (.int .i64 (imin p1.Wide 2)) ?_
                  refine va (.int .i64 (imax 1 (imin p1.Wide 2))) ?_
                  refine va (.int .i64 (imax 1 (imin p1.Wide 2))) ?_
                  refine wln ?_
                  refine sr ?_
                  refine va (.int .i64 (imax 1 (imin p1.Wide 2))) ?_
                  refine va (.pointer (some ⟨b13, 1, none⟩)) ?_
                  refine WL.val0 (v := .slice a5 a6 a7) rfl (rx (by kernel_rfl) (ldE1 (j := 1) Tryd.underlying25 rfl (O240.on 2 rfl) rfl rfl)) ?_
                  obtain ⟨x_145, h244, H209⟩ := bs H209
                  refine WL.callP rfl (by kernel_rfl) (c_linotyperef23_Of O240 (imax 1 (imin p1.Wide 2)) p1.Text (h4.mono (l11.trans (l51.trans (l62.trans (l96.trans (l120.trans (l127.trans (l131.trans (l147.trans (l151.trans (l154.trans (l160.trans (l167.trans (l190.trans (l206.trans l238))))))))))))))) h244) ?_
                  rintro v245 c252 l252 ⟨_, u246, O249, rfl, h247⟩
                  refine va (v245) ?_
                  refine wln ?_
                  obtain ⟨z_148, H254, H255⟩ := bs H209
                  refine W.seqJ (fun e w => ∃ (c : Cx) (g : Nat → Value) (v256 : Value) (u257 : List Value), w = c.w ∧ c252.le c ∧ Own c G143 (es true R_api_Cell v256 27 u257 z_148 :: es true R_api_Line v199 62 u200 x_111 :: ⟨.pointer (some ⟨b149, 0, none⟩), 120, [.int .i64 x_81.2.Row, .int .i64 x_81.2.Col, .bool x_81.2.Pending], 0⟩ :: ⟨.pointer (some ⟨b13, 0, none⟩), 95, [.int .i64 p1.Wide, .slice a5 a6 a7], 0⟩ :: ⟨.pointer (some ⟨b14, 0, none⟩), 120, [.int .i64 p1.At.Row, .int .i64 p1.At.Col, .bool p1.At.Pending], 0⟩ :: F) ∧ e = ups g [(14, .pointer (some ⟨b149, 0, none⟩)), (15, .int .i64 x_86), (17, v199), (20, v256)] ∧ OA R_api_Cell c v256 u257 z_148) ?_ ?_
                  · skip
                    refine sr ?_
                    refine va (.int .i64 (imax 1 (imin p1.Wide 2))) ?_
                    refine va (.int .i64 x_86) ?_
                    refine va (.bool (decide ((imax 1 (imin p1.Wide 2)) > x_86))) ?_
                    refine wln ?_
                    refine W.cond (t := decide ((imax 1 (imin p1.Wide 2)) > x_86)) (by kernel_rfl) (fun h258 => ?_) (fun h258 => ?_)
                    · have H254 := it h258 H254
                      refine W.region ?_
                      refine WL.mem rfl (Own.sl (R := (RI .i32)) (E := 21) (ls := [[.int .i32 65533]]) (vs := [.int .i32 65533]) (xs := ([65533] : List Int)) true O249 (Nat.succ_pos _) rfl ⟨rfl, trivial⟩ (by kernel_rfl) (by kernel_rfl)) ?_
                      rintro v263 c262 l262 ⟨u260, O259, h261⟩
                      obtain ⟨c266, h267, l266, O264, h265⟩ := O259.frz 0 rfl h261
                      refine WL.gh h267 ?_
                      obtain ⟨x_154, h268, H254⟩ := bs H254
                      refine WL.callP rfl (by kernel_rfl) (c_linotyperef23_Of O264 1 ([65533] : List Int) h265 h268) ?_
                      rintro v269 c276 l276 ⟨_, u270, O273, rfl, h271⟩
                      refine va (v269) ?_
                      refine wln ?_
                      obtain rfl := Option.some.inj H254
                      have O278 := O273.selD 7 [0, 3, 4, 5, 6] (by kernel_rfl) (by kernel_rfl)
                      exact ⟨c276, _, v269, u270, rfl, (l262.trans (l266.trans l276)), O278, ups_self ⟨rfl, rfl, rfl, rfl, trivial⟩, h271⟩
                    · have H254 := ie h258 H254
                      refine W.skip ?_
                      refine nrm ?_
                      obtain rfl := Option.some.inj H254
                      exact ⟨c252, _, v245, u246, rfl, (Cx.le.refl _), O249, ups_self ⟨rfl, rfl, rfl, rfl, trivial⟩, h247⟩
                  · skip
                    rintro e_ w_ ⟨c279, g280, v256, u257, rfl, l279, O281, rfl, h282⟩
                    refine W.seq ?_
                    obtain ⟨d_164, h286, H255⟩ := bs H255
                    refine W.join (fun e w => ∃ (c : Cx) (g : Nat → Value), w = c.w ∧ c279.le c ∧ Own c G143 (es false R_api_Cell v256 27 u257 z_148 :: es true R_api_Line v199 62 u200 x_111 :: ⟨.pointer (some ⟨b149, 0, none⟩), 120, [.int .i64 x_81.2.Row, .int .i64 x_81.2.Col, .bool x_81.2.Pending], 0⟩ :: ⟨.pointer (some ⟨b13, 0, none⟩), 95, [.int .i64 p1.Wide, .slice a5 a6 a7], 0⟩ :: ⟨.pointer (some ⟨b14, 0, none⟩), 120, [.int .i64 p1.At.Row, .int .i64 p1.At.Col, .bool p1.At.Pending], 0⟩ :: F) ∧ e = ups g [(6, .bool d_164)]) ?_ ?_
                    · clear H255
                      refine W.regionD [] (Kp G0 [⟨.pointer (some ⟨b149, 0, none⟩), 120, [.int .i64 x_81.2.Row, .int .i64 x_81.2.Col, .bool x_81.2.Pending], 0⟩, es true R_api_Line v199 62 u200 x_111]) O281 (by kernel_rfl) ?_
                      intro c287 l287 O288
                      have p289 : Kp G0 [⟨.pointer (some ⟨b149, 0, none⟩), 120, [.int .i64 x_81.2.Row, .int .i64 x_81.2.Col, .bool x_81.2.Pending], 0⟩, es true R_api_Line v199 62 u200 x_111] c287 := (Kp.cons (O288.on 2 rfl) (Kp.cons (O288.on 1 rfl) Kp.nil0))
                      refine ta 0 (v256) ?_
                      refine AC.take 1 (.int .i64 (z_148.length : Int)) rfl (by kernel_rfl) (by kernel_rfl) (fun c' hle => (rx (by kernel_rfl) (run_lenO (ty := 3) Tryd.underlying22 (h282.mono l287) _))) ?_
                      refine ta 2 (.int .i64 x_86) ?_
                      refine ta 3 (.pointer (some ⟨b149, 1, none⟩)) ?_
                      refine AC.takeK 4 (.int .i64 x_81.2.Col) p289 rfl (by kernel_rfl) (by kernel_rfl) (by kernel_rfl) (fun c' hle hk => (rx (by kernel_rfl) (ldE1 (j := 1) Tryd.underlying3 rfl (hk.on 0 rfl) rfl rfl))) ?_
                      refine ta 5 (.int .i64 (w64 (x_86 - x_81.2.Col))) ?_
                      refine ta 6 (.bool (decide ((z_148.length : Int) ≤ (w64 (x_86 - x_81.2.Col))))) ?_
                      rcases Bool.eq_false_or_eq_true (decide ((z_148.length : Int) ≤ (w64 (x_86 - x_81.2.Col)))) with h290 | h290
                      · skip
                        have H291 := anT h290 h286
                        refine AC.takeb 7 h290 rfl (by kernel_rfl) (by kernel_rfl) (fun c' hle => (by kernel_rfl)) ?_
                        refine ta 8 (v199) ?_
                        refine ta 9 (.pointer (some ⟨b149, 0, none⟩)) ?_
                        refine AC.takeK 10 (.int .i64 x_81.2.Row) p289 rfl (by kernel_rfl) (by kernel_rfl) (by kernel_rfl) (fun c' hle hk => (rx (by kernel_rfl) (ldE1 (j := 0) Tryd.underlying3 rfl (hk.on 0 rfl) rfl rfl))) ?_
                        obtain ⟨x_169, h292, H291⟩ := bs H291
                        refine AC.take 11 (.pointer (some ⟨sb v199, x_81.2.Row.toNat * 2, none⟩)) rfl (by kernel_rfl) (by kernel_rfl) (fun c' hle => (rx (by kernel_rfl) (run_indexO (k := .i64) Tryd.underlying47 (by kernel_rfl) (h201.mono (l238.trans (l252.trans (l279.trans l287)))) h292 _))) ?_
                        refine ta 12 (.pointer (some ⟨sb v199, x_81.2.Row.toNat * 2, none⟩)) ?_
                        obtain ⟨l_293, h294, m295⟩ := OA.at (h201.mono (l238.trans (l252.trans (l279.trans l287)))) h292
                        obtain ⟨v296, rfl, h297⟩ := h294
                        refine AC.takeK 13 (v296) p289 rfl (by kernel_rfl) (by kernel_rfl) (by kernel_rfl) (fun c' hle hk => (rx (by kernel_rfl) (ldE1 Tryd.underlying22 rfl (hk.on 1 rfl) ((h201.mono (l238.trans (l252.trans (l279.trans l287)))).blk h292) (at1 (j := 0) m295 rfl)))) ?_
                        refine ta 14 (.pointer (some ⟨b149, 1, none⟩)) ?_
                        refine AC.takeK 15 (.int .i64 x_81.2.Col) p289 rfl (by kernel_rfl) (by kernel_rfl) (by kernel_rfl) (fun c' hle hk => (rx (by kernel_rfl) (ldE1 (j := 1) Tryd.underlying3 rfl (hk.on 0 rfl) rfl rfl))) ?_
                        refine ta 16 (.pointer (some ⟨b149, 1, none⟩)) ?_
                        refine AC.takeK 17 (.int .i64 x_81.2.Col) p289 rfl (by kernel_rfl) (by kernel_rfl) (by kernel_rfl) (fun c' hle hk => (rx (by kernel_rfl) (ldE1 (j := 1) Tryd.underlying3 rfl (hk.on 0 rfl) rfl rfl))) ?_
                        refine ta 18 (v256) ?_
                        refine AC.take 19 (.int .i64 (z_148.length : Int)) rfl (by kernel_rfl) (by kernel_rfl) (fun c' hle => (rx (by kernel_rfl) (run_lenO (ty := 3) Tryd.underlying22 (h282.mono l287) _))) ?_
                        refine ta 20 (.int .i64 (w64 (x_81.2.Col + (z_148.length : Int)))) ?_
                        obtain ⟨x_179, h298, H291⟩ := bs H291
                        obtain ⟨v299, h300, h301⟩ := run_cut (k := .i64) (k' := .i64) Tryd.underlying22 (by kernel_rfl) h297 h298
                        refine AC.take 21 (v299) rfl (by kernel_rfl) (by kernel_rfl) (fun c' hle => (rx (by kernel_rfl) (h300 _))) ?_
                        refine ta 22 (v256) ?_
                        obtain ⟨c304, h305, l304, O302, h303⟩ := O288.frz 0 rfl (h282.mono l287)
                        have p306 : Kp G0 [⟨.pointer (some ⟨b149, 0, none⟩), 120, [.int .i64 x_81.2.Row, .int .i64 x_81.2.Col, .bool x_81.2.Pending], 0⟩, es true R_api_Line v199 62 u200 x_111] c304 := (Kp.cons (O302.on 2 rfl) (Kp.cons (O302.on 1 rfl) Kp.nil0))
                        refine AC.gh h305 l304 (fun _ => p306) ?_
                        obtain ⟨x_181, h307, H291⟩ := bs H291
                        refine AC.one 23 (by kernel_rfl) (Go1.callP 23 rfl (by kernel_rfl) (by kernel_rfl) (by kernel_rfl) (c_linotyperef23_Same O302 x_179 z_148 (h301.mono l304) h303 h307) ?_)
                        rintro v313 c312 l312 ⟨O309, rfl⟩
                        have p314 : Kp G0 [⟨.pointer (some ⟨b149, 0, none⟩), 120, [.int .i64 x_81.2.Row, .int .i64 x_81.2.Col, .bool x_81.2.Pending], 0⟩, es true R_api_Line v199 62 u200 x_111] c312 := (Kp.cons (O309.on 2 rfl) (Kp.cons (O309.on 1 rfl) Kp.nil0))
                        refine ⟨.inr p314, ?_⟩
                        obtain rfl := Option.some.inj H291
                        refine ta 24 (.bool x_181) ?_
                        refine ta 25 (.bool x_181) ?_
                        refine AC.done (by kernel_rfl) ?_
                        refine nrm ?_
                        exact ⟨c312, _, rfl, (l287.trans (l304.trans l312)), O309, ups_self ⟨rfl, trivial⟩⟩
                      · skip
                        obtain rfl := anF h290 h286
                        refine AC.takeb 7 h290 rfl (by kernel_rfl) (by kernel_rfl) (fun c' hle => (by kernel_rfl)) ?_
                        refine AC.pass 8 rfl (by kernel_rfl) (by kernel_rfl) ?_
                        refine AC.pass 9 rfl (by kernel_rfl) (by kernel_rfl) ?_
                        refine AC.pass 10 rfl (by kernel_rfl) (by kernel_rfl) ?_
                        refine AC.pass 11 rfl (by kernel_rfl) (by kernel_rfl) ?_
                        refine AC.pass 12 rfl (by kernel_rfl) (by kernel_rfl) ?_
                        refine AC.pass 13 rfl (by kernel_rfl) (by kernel_rfl) ?_
                        refine AC.pass 14 rfl (by kernel_rfl) (by kernel_rfl) ?_
                        refine AC.pass 15 rfl (by kernel_rfl) (by kernel_rfl) ?_
                        refine AC.pass 16 rfl (by kernel_rfl) (by kernel_rfl) ?_
                        refine AC.pass 17 rfl (by kernel_rfl) (by kernel_rfl) ?_
                        refine AC.pass 18 rfl (by kernel_rfl) (by kernel_rfl) ?_
                        refine AC.pass 19 rfl (by kernel_rfl) (by kernel_rfl) ?_
                        refine AC.pass 20 rfl (by kernel_rfl) (by kernel_rfl) ?_
                        refine AC.pass 21 rfl (by kernel_rfl) (by kernel_rfl) ?_
                        refine AC.pass 22 rfl (by kernel_rfl) (by kernel_rfl) ?_
                        refine AC.pass 23 rfl (by kernel_rfl) (by kernel_rfl) ?_
                        refine ta 24 (.bool false) ?_
                        refine ta 25 (.bool false) ?_
                        refine AC.done (by kernel_rfl) ?_
                        refine nrm ?_
                        obtain ⟨c317, h318, l317, O315, h316⟩ := O288.frz 0 rfl (h282.mono l287)
                        exact ⟨c317, _, h318.symm, (l287.trans l317), O315, ups_self ⟨rfl, trivial⟩⟩
                    · skip
                      rintro e_ w_ ⟨c319, g320, rfl, l319, O321, rfl⟩
                      refine nrm ?_
                      refine W.ret ?_
                      obtain rfl := Option.some.inj H255
                      have O325 := O321.selD 5 [] (by kernel_rfl) (by kernel_rfl)
                      exact ret1 (v := .bool d_164) rfl (by kernel_rfl) ⟨_, c319, rfl, rfl, (l11.trans (l51.trans (l62.trans (l96.trans (l120.trans (l127.trans (l131.trans (l147.trans (l151.trans (l154.trans (l160.trans (l167.trans (l190.trans (l206.trans (l238.trans (l252.trans (l279.trans l319))))))))))))))))), G143, O325, (R145.mono (l151.trans (l154.trans (l160.trans (l167.trans (l190.trans (l206.trans (l238.trans (l252.trans (l279.trans l319)))))))))), rfl⟩

end Go.Proofs.YtohpkblleihmaaaDoor
