import Derived.Test.YthokmpbbkpjhbaaGreatDoorMq
import Derived.Test.YthokmpbbkpjhbaaGreatDoorProg
import Derived.Test.YthokmpbbkpjhbaaGreatDoorMy
import Derived.Test.YthokmpbbkpjhbaaGreatDoorMz
import Derived.Test.YthokmpbbkpjhbaaGreatDoorMi
import Derived.Test.YthokmpbbkpjhbaaGreatDoorA1
import Derived.Test.YthokmpbbkpjhbaaGreatDoorE1
import Derived.Test.YthokmpbbkpjhbaaGreatDoorG1
import Derived.Test.YthokmpbbkpjhbaaGreatDoorM1
import Derived.Test.YthokmpbbkpjhbaaGreatDoorN1
import Derived.Test.YthokmpbbkpjhbaaGreatDoorS1
import Derived.Test.YthokmpbbkpjhbaaGreatDoorZ1
namespace Go.Proofs.YthokmpbbkpjhbaaGreatDoor
open Go Go.Lt
set_option maxRecDepth 10000
set_option linter.unusedVariables false
attribute [local irreducible] W WL AC
open Tryz
variable {c0 : Cx} {G : Gm} {F : List En} {sg : Sto} {v1 v2 v3 v4 v5 v6 v7 v8 v9 v10 v11 v12 v13 v14 v15 v16 v17 v18 v19 v20 v21 v22 v23 v24 v25 v26 v27 v28 v29 v30 v31 v32 v33 v34 v35 v36 v37 v38 v39 v40 v41 v42 v43 v44 v45 v46 v47 v48 v49 v50 v51 v52 v53 v54 v55 v56 v57 v58 v59 v60 : Value}
def f_edit_Does (p0 : Int) : Option (Bool) :=
 (andE (decide (p0 ≥ 2)) (some (decide (p0 ≤ 12)))).bind fun d_5 =>
 some d_5
theorem c_edit_Does (O0 : Own c0 G F) (p0 : Int) {r : Bool} (H : f_edit_Does p0 = some r) :
    Calls Tryz.prog 31 #[.int .i64 p0] c0.w (Post c0 fun c v => Own c G (F) ∧ v = .bool r) := by
 unfold f_edit_Does at H
 refine en func31 rfl rfl (sr (va (.bool false) (wln (W.seq (bn H fun d_5 h1 H => W.join (Jn c0 fun c l => Own c G (F) ∧ l = [(2, .bool d_5)]) ?_ ?_)))))
 ·clear H
  refine W.region (va (.int .i64 p0) (va (.bool (decide (p0 ≥ 2))) ?_))
  rcases bo (decide (p0 ≥ 2)) with h2 | h2
  ·have H3 := anT h2 h1
   refine vb h2 (wn (va (.int .i64 p0) (wn (va (.bool (decide (p0 ≤ 12))) ?_))))
   obtain rfl := si H3
   exact va (.bool (decide (p0 ≤ 12))) (va (.bool (decide (p0 ≤ 12))) (wln ⟨c0, _, _, rfl, pt, us, O0, rfl⟩))
  obtain rfl := anF h2 h1
  exact vb h2 (ps (ps (va (.bool false) (va (.bool false) (wln ⟨c0, _, _, rfl, pt, us, O0, rfl⟩)))))
 rintro e_ w_ ⟨c4, g5, _, rfl, l4, rfl, O6, rfl⟩
 refine nrm (W.ret ?_)
 obtain rfl := si H
 exact r1 ⟨_, c4, rfl, rfl, pt, O6, rfl⟩
def f_edit_Wrong (p0 : G_api_Op) : Option (Er) :=
 (f_edit_Does p0.Kind).bind fun x_6 =>
 if (!x_6) = true then
 some (Er.sent 4)
 else
 (andE (decide (p0.Kind ≤ 4)) (some (p0.Kind != 2))).bind fun d_16 =>
 (andE d_16 ((orE (decide (p0.A < 0)) (some (decide (p0.A > 2)))).bind fun d_26 =>
 some d_26)).bind fun d_21 =>
 if d_21 = true then
 some (Er.sent 0)
 else
 some Er.nil
theorem c_edit_Wrong (O0 : Own c0 G F) (hG : Gl [0, 4] c0) (p0 : G_api_Op) {r : Er} (h2 : Sl (RI .u8) c0 v1 p0.Bytes) (H : f_edit_Wrong p0 = some r) :
    Calls Tryz.prog 29 #[.agg #[.int .i64 p0.Kind, .int .i64 p0.A, .int .i64 p0.B, v1]] c0.w (Post c0 fun c v => ∃ y1, Own c G (F) ∧ v = y1 ∧ RE 305 179 c y1 r) := by
 unfold f_edit_Wrong at H
 refine en func29 rfl rfl (sr ?_)
 obtain ⟨a3, a4, a5, rfl⟩ := (h2).form
 refine me (bx 59 [.int .i64 p0.Kind, .int .i64 p0.A, .int .i64 p0.B, .slice a3 a4 a5] O0) ?_
 rintro v10 c9 l9 ⟨b6, rfl, O7, m8⟩
 refine va (.nilIface) (wln (W.seq (W.block (sr (va (.pointer (some ⟨b6, 0, none⟩)) (vx (l1 underlying3 (m8 0 _ rfl)) (bn H fun x_6 h11 H => cl (c_edit_Does O7 p0.Kind h11) ?_)))))))
 rintro v17 c16 l16 ⟨O13, rfl⟩
 refine va (.bool (!x_6)) (va (.bool (!x_6)) (wln (cn H (fun h18 H => ?_) (fun h18 H => ?_))))
 ·refine sr ?_
  obtain ⟨v19, h20⟩ := (hG.mono (l9.trans l16)).get 4 (by decide)
  refine vx (l1 underlying37 h20.im) (va (v19) (wln (W.ret (bkr (thr ?_)))))
  obtain rfl := si H
  exact r1 ⟨_, c16, rfl, rfl, pt, v19, O13, rfl, h20⟩
 refine W.seq (bn H fun d_16 h21 H => bn H fun d_21 h22 H => W.join (Jn c16 fun c l => Own c G (F) ∧ l = [(9, .bool d_21)]) ?_ ?_)
 ·clear H
  refine W.region (va (.pointer (some ⟨b6, 0, none⟩)) (vx (l1 underlying3 ((mm m8) 0 _ rfl)) (va (.bool (decide (p0.Kind ≤ 4))) ?_)))
  rcases bo (decide (p0.Kind ≤ 4)) with h23 | h23
  ·have H24 := anT h23 h21
   refine vb h23 (wn (va (.pointer (some ⟨b6, 0, none⟩)) (wn (vx (l1 underlying3 ((mm m8) 0 _ rfl)) (wn (va (.bool (p0.Kind != 2)) ?_))))))
   obtain rfl := si H24
   refine va (.bool (p0.Kind != 2)) ?_
   rcases bo (p0.Kind != 2) with h25 | h25
   ·have H26 := anT h25 h22
    refine vb h25 (wn (va (.pointer (some ⟨b6, 0 + 1, none⟩)) (wn (vx (l1 underlying3 ((mm m8) 1 _ rfl)) (wn (va (.bool (decide (p0.A < 0))) (wn (bn H26 fun d_26 h27 H26 => ?_))))))))
    rcases bo (decide (p0.A < 0)) with h28 | h28
    ·obtain rfl := orT h28 h27
     refine vb h28 (ps (ps (ps (wn (va (.bool true) ?_)))))
     obtain rfl := si H26
     exact va (.bool true) (va (.bool true) (wln ⟨c16, _, _, rfl, pt, us, O13, rfl⟩))
    have H29 := orF h28 h27
    refine vb h28 (wn (va (.pointer (some ⟨b6, 0 + 1, none⟩)) (wn (vx (l1 underlying3 ((mm m8) 1 _ rfl)) (wn (va (.bool (decide (p0.A > 2))) (wn ?_)))))))
    obtain rfl := si H29
    refine va (.bool (decide (p0.A > 2))) ?_
    obtain rfl := si H26
    exact va (.bool (decide (p0.A > 2))) (va (.bool (decide (p0.A > 2))) (wln ⟨c16, _, _, rfl, pt, us, O13, rfl⟩))
   obtain rfl := anF h25 h22
   exact vb h25 (ps (ps (ps (ps (ps (ps (ps (ps (va (.bool false) (va (.bool false) (wln ⟨c16, _, _, rfl, pt, us, O13, rfl⟩)))))))))))
  obtain rfl := anF h23 h21
  refine vb h23 (ps (ps (ps (va (.bool false) ?_))))
  have h30 : false = false := rfl
  obtain rfl := anF h30 h22
  exact vb h30 (ps (ps (ps (ps (ps (ps (ps (ps (va (.bool false) (va (.bool false) (wln ⟨c16, _, _, rfl, pt, us, O13, rfl⟩)))))))))))
 rintro e_ w_ ⟨c31, g32, _, rfl, l31, rfl, O33, rfl⟩
 refine nrm (cn H (fun h37 H => ?_) (fun h37 H => ?_))
 ·refine sr ?_
  obtain ⟨v38, h39⟩ := (hG.mono (l9.trans (l16.trans l31))).get 0 (by decide)
  refine vx (l1 underlying37 h39.im) (va (v38) (wln (W.ret (bkr (thr ?_)))))
  obtain rfl := si H
  exact r1 ⟨_, c31, rfl, rfl, pt, v38, O33, rfl, h39⟩
 refine W.skip (bkn (nrm (sr (va (.nilIface) (wln (W.ret ?_))))))
 obtain rfl := si H
 exact r1 ⟨_, c31, rfl, rfl, pt, .nilIface, O33, rfl, rfl⟩
def f_edit_rows (sg : Sto) (p0 : Option Nat) (p1 : G_api_Op) : Option (Sto) :=
 (p0).bind fun k_4 =>
 (sg.place_Pen[k_4]?).bind fun o_6 =>
 (f_grid_Grid_High sg o_6.G).bind fun x_7 =>
 if (p1.Kind == 10) = true then
 (f_scroll_Up sg o_6.G 0 x_7 p1.A).bind fun x_24 =>
 some x_24
 else
 if (p1.Kind == 11) = true then
 (f_scroll_Down sg o_6.G 0 x_7 p1.A).bind fun x_36 =>
 some x_36
 else
 if (p1.Kind == 8) = true then
 (f_scroll_Down sg o_6.G o_6.At.Row x_7 p1.A).bind fun x_53 =>
 (x_53.place_Pen[k_4]?).bind fun o_76 =>
 (f_cursor_Return o_76.At).bind fun x_77 =>
 (x_53.set_place_Pen k_4 (⟨o_76.G, x_77, o_76.Auto⟩ : G_place_Pen)).bind fun s_80001 =>
 some s_80001
 else
 if (p1.Kind == 9) = true then
 (f_scroll_Up sg o_6.G o_6.At.Row x_7 p1.A).bind fun x_70 =>
 (x_70.place_Pen[k_4]?).bind fun o_76 =>
 (f_cursor_Return o_76.At).bind fun x_77 =>
 (x_70.set_place_Pen k_4 (⟨o_76.G, x_77, o_76.Auto⟩ : G_place_Pen)).bind fun s_80001 =>
 some s_80001
 else
 (f_cursor_Return o_6.At).bind fun x_77 =>
 (sg.set_place_Pen k_4 (⟨o_6.G, x_77, o_6.Auto⟩ : G_place_Pen)).bind fun s_80001 =>
 some s_80001
theorem c_edit_rows (O0 : Own c0 G F) (R0 : Rel c0 sg G) (p0 : Option Nat) (p1 : G_api_Op) {r : Sto} (h2 : Pt 2 c0 v1 p0) (h4 : Sl (RI .u8) c0 v3 p1.Bytes) (H : f_edit_rows sg p0 p1 = some r) :
    Calls Tryz.prog 101 #[v1, .agg #[.int .i64 p1.Kind, .int .i64 p1.A, .int .i64 p1.B, v3]] c0.w (Post c0 fun c v => ∃ G_ : Gm, Own c G_ (F) ∧ Rel c r G_ ∧ v = .tuple #[]) := by
 unfold f_edit_rows at H
 refine en func101 rfl rfl (sr ?_)
 obtain ⟨a5, a6, a7, rfl⟩ := (h4).form
 refine me (bx 59 [.int .i64 p1.Kind, .int .i64 p1.A, .int .i64 p1.B, .slice a5 a6 a7] O0) ?_
 rintro v12 c11 l11 ⟨b8, rfl, O9, m10⟩
 refine wln (sr (va (v1) (bn H fun k_4 h15 H => ?_)))
 obtain ⟨b13, rfl, h14⟩ := ((h2.mono l11)).get h15
 refine va (.pointer (some ⟨b13, 0, none⟩)) (va (.pointer (some ⟨b13, 0, none⟩)) (bn H fun o_6 h16 H => ?_))
 obtain ⟨v17, h19, h18⟩ := Rel.open_place_Pen (R0.mono l11) h16 h14
 refine vx (le1 0 underlying35 (O9.gon h19 0 rfl)) (bn H fun x_7 h20 H => cl (c_grid_Grid_High O9 R0.m o_6.G h18 h20) ?_)
 rintro v26 c25 l25 ⟨O22, rfl⟩
 refine va (.int .i64 x_7) (wln (W.seq (sr (va (.pointer (some ⟨b8, 0, none⟩)) (vx (l1 underlying3 ((mm m10) 0 _ rfl)) (wln (W.block (sr (va (.bool (p1.Kind == 10)) (va (.bool (p1.Kind == 10)) (wln (cn H (fun h27 H => ?_) (fun h27 H => ?_)))))))))))))
 ·refine W.seq (rD [7] (Kp G []) O22 ?_)
  intro c28 l28 O29
  have p30 : Kp G [] c28 := (Kp.nil O29)
  refine ta 0 (.pointer (some ⟨b13, 0, none⟩)) (ta 1 (.pointer (some ⟨b13, 0, none⟩)) (ta 2 (.pointer (some ⟨b13, 0, none⟩)) (tkx 3 p30 (fun c' hle hk => le1 0 underlying35 (hk.gon h19 0 rfl)) (ta 4 (.int .i64 x_7) (ta 5 (.pointer (some ⟨b8, 0 + 1, none⟩)) (tx 6 (fun c' hle => l1 underlying3 ((mm m10) 1 _ rfl)) (bn H fun x_24 h31 H => o1 7 (gc 7 (c_scroll_Up O29 R0.m o_6.G 0 x_7 p1.A h18.m h31) ?_))))))))
  rintro v37 c36 l36 ⟨G32, O33, R34, rfl⟩
  refine ⟨.inl rfl, dn (nrm (W.ret (bkr (thr ?_))))⟩
  obtain rfl := si H
  exact r0 ⟨_, c36, rfl, rfl, pt, G32, O33, R34, rfl⟩
 refine sr (va (.bool (p1.Kind == 11)) (va (.bool (p1.Kind == 11)) (wln (cn H (fun h38 H => ?_) (fun h38 H => ?_)))))
 ·refine W.seq (rD [7] (Kp G []) O22 ?_)
  intro c39 l39 O40
  have p41 : Kp G [] c39 := (Kp.nil O40)
  refine ta 0 (.pointer (some ⟨b13, 0, none⟩)) (ta 1 (.pointer (some ⟨b13, 0, none⟩)) (ta 2 (.pointer (some ⟨b13, 0, none⟩)) (tkx 3 p41 (fun c' hle hk => le1 0 underlying35 (hk.gon h19 0 rfl)) (ta 4 (.int .i64 x_7) (ta 5 (.pointer (some ⟨b8, 0 + 1, none⟩)) (tx 6 (fun c' hle => l1 underlying3 ((mm m10) 1 _ rfl)) (bn H fun x_36 h42 H => o1 7 (gc 7 (c_scroll_Down O40 R0.m o_6.G 0 x_7 p1.A h18.m h42) ?_))))))))
  rintro v48 c47 l47 ⟨G43, O44, R45, rfl⟩
  refine ⟨.inl rfl, dn (nrm (W.ret (bkr (thr ?_))))⟩
  obtain rfl := si H
  exact r0 ⟨_, c47, rfl, rfl, pt, G43, O44, R45, rfl⟩
 refine sr (va (.bool (p1.Kind == 8)) (va (.bool (p1.Kind == 8)) (wln (cn H (fun h49 H => ?_) (fun h49 H => ?_)))))
 ·refine rD [12] (Kp G []) O22 ?_
  intro c50 l50 O51
  have p52 : Kp G [] c50 := (Kp.nil O51)
  refine ta 0 (.pointer (some ⟨b13, 0, none⟩)) (ta 1 (.pointer (some ⟨b13, 0, none⟩)) (ta 2 (.pointer (some ⟨b13, 0, none⟩)) (tkx 3 p52 (fun c' hle hk => le1 0 underlying35 (hk.gon h19 0 rfl)) (ta 4 (.pointer (some ⟨b13, 0, none⟩)) (ta 5 (.pointer (some ⟨b13, 0, none⟩)) (ta 6 (.pointer (some ⟨b13, 1, none⟩)) (ta 7 (.pointer (some ⟨b13, 1, none⟩)) (tkx 8 p52 (fun c' hle hk => le1 1 underlying3 (hk.gon h19 0 rfl)) (ta 9 (.int .i64 x_7) (ta 10 (.pointer (some ⟨b8, 0 + 1, none⟩)) (tx 11 (fun c' hle => l1 underlying3 ((mm m10) 1 _ rfl)) (bn H fun x_53 h53 H => o1 12 (gc 12 (c_scroll_Down O51 R0.m o_6.G o_6.At.Row x_7 p1.A h18.m h53) ?_)))))))))))))
  rintro v59 c58 l58 ⟨G54, O55, R56, rfl⟩
  refine ⟨.inl rfl, dn (bkn (nrm (W.region (va (.pointer (some ⟨b13, 0, none⟩)) (va (.pointer (some ⟨b13, 0, none⟩)) (va (.pointer (some ⟨b13, 0, none⟩)) (va (.pointer (some ⟨b13, 1, none⟩)) (bn H fun o_76 h60 H => ?_))))))))⟩
  obtain ⟨v61, h63, h62⟩ := Rel.open_place_Pen R56 h60 (tm h14)
  refine vx (leN 24 1 [.int .i64 o_76.At.Row, .int .i64 o_76.At.Col, .bool o_76.At.Pending] (O55.gon h63 0 rfl)) (bn H fun x_77 h64 H => cl (c_cursor_Return O55 o_76.At h64) ?_)
  rintro v70 c69 l69 ⟨O66, rfl⟩
  refine va (.pointer (some ⟨b13, 0, none⟩)) (va (.pointer (some ⟨b13, 1, none⟩)) (md (gB 24 1 [.int .i64 x_77.Row, .int .i64 x_77.Col, .bool x_77.Pending] [v61, .int .i64 x_77.Row, .int .i64 x_77.Col, .bool x_77.Pending, .bool o_76.Auto] 0 O66 h63 ⟨rfl, rfl, rfl, trivial⟩) ?_))
  rintro c72 l72 O71
  refine bn H fun s_80001 h77 H => ?_
  obtain ⟨G73, O74, R75, h76, a78⟩ := Rel.put_place_Pen O71 (R56.mono (l69.trans l72)) (E' := [⟨.pointer (some ⟨b13, 0, none⟩), 42, [v61, .int .i64 x_77.Row, .int .i64 x_77.Col, .bool x_77.Pending, .bool o_76.Auto], 0⟩]) h77 ⟨b13, v61, (tm h14), rfl, (h62.mono (l69.trans l72))⟩
  refine WL.nil ?_
  obtain rfl := si H
  exact n0 ⟨_, c72, rfl, rfl, pt, G73, O74, R75, rfl⟩
 refine sr (va (.bool (p1.Kind == 9)) (va (.bool (p1.Kind == 9)) (wln (cn H (fun h79 H => ?_) (fun h79 H => ?_)))))
 ·refine rD [12] (Kp G []) O22 ?_
  intro c80 l80 O81
  have p82 : Kp G [] c80 := (Kp.nil O81)
  refine ta 0 (.pointer (some ⟨b13, 0, none⟩)) (ta 1 (.pointer (some ⟨b13, 0, none⟩)) (ta 2 (.pointer (some ⟨b13, 0, none⟩)) (tkx 3 p82 (fun c' hle hk => le1 0 underlying35 (hk.gon h19 0 rfl)) (ta 4 (.pointer (some ⟨b13, 0, none⟩)) (ta 5 (.pointer (some ⟨b13, 0, none⟩)) (ta 6 (.pointer (some ⟨b13, 1, none⟩)) (ta 7 (.pointer (some ⟨b13, 1, none⟩)) (tkx 8 p82 (fun c' hle hk => le1 1 underlying3 (hk.gon h19 0 rfl)) (ta 9 (.int .i64 x_7) (ta 10 (.pointer (some ⟨b8, 0 + 1, none⟩)) (tx 11 (fun c' hle => l1 underlying3 ((mm m10) 1 _ rfl)) (bn H fun x_70 h83 H => o1 12 (gc 12 (c_scroll_Up O81 R0.m o_6.G o_6.At.Row x_7 p1.A h18.m h83) ?_)))))))))))))
  rintro v89 c88 l88 ⟨G84, O85, R86, rfl⟩
  refine ⟨.inl rfl, dn (bkn (nrm (W.region (va (.pointer (some ⟨b13, 0, none⟩)) (va (.pointer (some ⟨b13, 0, none⟩)) (va (.pointer (some ⟨b13, 0, none⟩)) (va (.pointer (some ⟨b13, 1, none⟩)) (bn H fun o_76 h90 H => ?_))))))))⟩
  obtain ⟨v91, h93, h92⟩ := Rel.open_place_Pen R86 h90 (tm h14)
  refine vx (leN 24 1 [.int .i64 o_76.At.Row, .int .i64 o_76.At.Col, .bool o_76.At.Pending] (O85.gon h93 0 rfl)) (bn H fun x_77 h94 H => cl (c_cursor_Return O85 o_76.At h94) ?_)
  rintro v100 c99 l99 ⟨O96, rfl⟩
  refine va (.pointer (some ⟨b13, 0, none⟩)) (va (.pointer (some ⟨b13, 1, none⟩)) (md (gB 24 1 [.int .i64 x_77.Row, .int .i64 x_77.Col, .bool x_77.Pending] [v91, .int .i64 x_77.Row, .int .i64 x_77.Col, .bool x_77.Pending, .bool o_76.Auto] 0 O96 h93 ⟨rfl, rfl, rfl, trivial⟩) ?_))
  rintro c102 l102 O101
  refine bn H fun s_80001 h107 H => ?_
  obtain ⟨G103, O104, R105, h106, a108⟩ := Rel.put_place_Pen O101 (R86.mono (l99.trans l102)) (E' := [⟨.pointer (some ⟨b13, 0, none⟩), 42, [v91, .int .i64 x_77.Row, .int .i64 x_77.Col, .bool x_77.Pending, .bool o_76.Auto], 0⟩]) h107 ⟨b13, v91, (tm h14), rfl, (h92.mono (l99.trans l102))⟩
  refine WL.nil ?_
  obtain rfl := si H
  exact n0 ⟨_, c102, rfl, rfl, pt, G103, O104, R105, rfl⟩
 refine W.skip (bkn (nrm (W.region (va (.pointer (some ⟨b13, 0, none⟩)) (va (.pointer (some ⟨b13, 0, none⟩)) (va (.pointer (some ⟨b13, 0, none⟩)) (va (.pointer (some ⟨b13, 1, none⟩)) (vx (leN 24 1 [.int .i64 o_6.At.Row, .int .i64 o_6.At.Col, .bool o_6.At.Pending] (O22.gon h19 0 rfl)) (bn H fun x_77 h109 H => cl (c_cursor_Return O22 o_6.At h109) ?_)))))))))
 rintro v115 c114 l114 ⟨O111, rfl⟩
 refine va (.pointer (some ⟨b13, 0, none⟩)) (va (.pointer (some ⟨b13, 1, none⟩)) (md (gB 24 1 [.int .i64 x_77.Row, .int .i64 x_77.Col, .bool x_77.Pending] [v17, .int .i64 x_77.Row, .int .i64 x_77.Col, .bool x_77.Pending, .bool o_6.Auto] 0 O111 h19 ⟨rfl, rfl, rfl, trivial⟩) ?_))
 rintro c117 l117 O116
 refine bn H fun s_80001 h122 H => ?_
 obtain ⟨G118, O119, R120, h121, a123⟩ := Rel.put_place_Pen O116 (R0.mono (l11.trans (l25.trans (l114.trans l117)))) (E' := [⟨.pointer (some ⟨b13, 0, none⟩), 42, [v17, .int .i64 x_77.Row, .int .i64 x_77.Col, .bool x_77.Pending, .bool o_6.Auto], 0⟩]) h122 ⟨b13, v17, (tm h14), rfl, (h18.mono (l25.trans (l114.trans l117)))⟩
 refine WL.nil ?_
 obtain rfl := si H
 exact n0 ⟨_, c117, rfl, rfl, pt, G118, O119, R120, rfl⟩
def f_edit_line (sg : Sto) (p0 : Option Nat) (p1 : Int) : Option (Sto) :=
 (p0).bind fun k_2 =>
 (sg.place_Pen[k_2]?).bind fun o_4 =>
 (f_grid_Grid_Row sg o_4.G o_4.At.Row).bind fun x_10 =>
 if (p1 == 0) = true then
 (f_erase_Right sg x_10 o_4.At.Col).bind fun x_24 =>
 some x_24
 else
 if (p1 == 1) = true then
 (f_erase_Left sg x_10 o_4.At.Col).bind fun x_35 =>
 some x_35
 else
 (f_erase_All sg x_10).bind fun x_38 =>
 some x_38
theorem c_edit_line (O0 : Own c0 G F) (R0 : Rel c0 sg G) (hG : Gl [0, 4] c0) (p0 : Option Nat) (p1 : Int) {r : Sto} (h2 : Pt 2 c0 v1 p0) (H : f_edit_line sg p0 p1 = some r) :
    Calls Tryz.prog 174 #[v1, .int .i64 p1] c0.w (Post c0 fun c v => ∃ G_ : Gm, Own c G_ (F) ∧ Rel c r G_ ∧ v = .tuple #[]) := by
 unfold f_edit_line at H
 refine en func174 rfl rfl (W.seq (rD [] (Kp G []) O0 ?_))
 intro c3 l3 O4
 have p5 : Kp G [] c3 := (Kp.nil O4)
 refine ta 0 (v1) (bn H fun k_2 h8 H => ?_)
 obtain ⟨b6, rfl, h7⟩ := ((h2.mono l3)).get h8
 refine ta 1 (.pointer (some ⟨b6, 0, none⟩)) (ta 2 (.pointer (some ⟨b6, 0, none⟩)) (bn H fun o_4 h9 H => ?_))
 obtain ⟨v10, h12, h11⟩ := Rel.open_place_Pen (R0.mono l3) h9 h7
 refine tkx 3 p5 (fun c' hle hk => le1 0 underlying35 (hk.gon h12 0 rfl)) (ta 4 (.pointer (some ⟨b6, 0, none⟩)) (ta 5 (.pointer (some ⟨b6, 0, none⟩)) (ta 6 (.pointer (some ⟨b6, 1, none⟩)) (ta 7 (.pointer (some ⟨b6, 1, none⟩)) (tkx 8 p5 (fun c' hle hk => le1 1 underlying3 (hk.gon h12 0 rfl)) (bn H fun x_10 h13 H => o1 9 (gc 9 (c_grid_Grid_Row O4 R0.m o_4.G o_4.At.Row h11 h13) ?_)))))))
 rintro v14 c20 l20 ⟨_, O17, rfl, h15⟩
 have p22 : Kp G [] c20 := (Kp.nil O17)
 refine ⟨.inr p22, ta 10 (v14) (dn (nrm (sr (va (.int .i64 p1) (wln (W.block (sr (va (.bool (p1 == 0)) (va (.bool (p1 == 0)) (wln (cn H (fun h23 H => ?_) (fun h23 H => ?_))))))))))))⟩
 ·refine W.region (va (v14) (va (.pointer (some ⟨b6, 0, none⟩)) (va (.pointer (some ⟨b6, 0, none⟩)) (va (.pointer (some ⟨b6, 1, none⟩)) (va (.pointer (some ⟨b6, 2, none⟩)) (vx (le1 2 underlying3 (O17.gon h12 0 rfl)) (bn H fun x_24 h24 H => cl (c_erase_Right O17 R0.m (hG.m.le (by decide)) x_10 o_4.At.Col h15 h24) ?_)))))))
  rintro v30 c29 l29 ⟨G25, O26, R27, rfl⟩
  refine WL.nil (bkn ?_)
  obtain rfl := si H
  exact n0 ⟨_, c29, rfl, rfl, pt, G25, O26, R27, rfl⟩
 refine sr (va (.bool (p1 == 1)) (va (.bool (p1 == 1)) (wln (cn H (fun h31 H => ?_) (fun h31 H => ?_)))))
 ·refine W.region (va (v14) (va (.pointer (some ⟨b6, 0, none⟩)) (va (.pointer (some ⟨b6, 0, none⟩)) (va (.pointer (some ⟨b6, 1, none⟩)) (va (.pointer (some ⟨b6, 2, none⟩)) (vx (le1 2 underlying3 (O17.gon h12 0 rfl)) (bn H fun x_35 h32 H => cl (c_erase_Left O17 R0.m (hG.m.le (by decide)) x_10 o_4.At.Col h15 h32) ?_)))))))
  rintro v38 c37 l37 ⟨G33, O34, R35, rfl⟩
  refine WL.nil (bkn ?_)
  obtain rfl := si H
  exact n0 ⟨_, c37, rfl, rfl, pt, G33, O34, R35, rfl⟩
 refine W.region (va (v14) (bn H fun x_38 h39 H => cl (c_erase_All O17 R0.m (hG.m.le (by decide)) x_10 h15 h39) ?_))
 rintro v45 c44 l44 ⟨G40, O41, R42, rfl⟩
 refine WL.nil (bkn ?_)
 obtain rfl := si H
 exact n0 ⟨_, c44, rfl, rfl, pt, G40, O41, R42, rfl⟩
def f_edit_screen (sg : Sto) (p0 : Option Nat) (p1 : Int) : Option (Sto) :=
 (f_edit_line sg p0 p1).bind fun x_3 =>
 (p0).bind fun k_6 =>
 (x_3.place_Pen[k_6]?).bind fun o_8 =>
 (f_grid_Grid_High x_3 o_8.G).bind fun x_9 =>
 (iter (σ := Int × Sto) (τ := Sto) ((x_9 - 0).toNat + 1) (fun s_12 =>
 if (decide (s_12.1 < x_9)) = true then
 ((orE (p1 == 2) ((andE (p1 == 0) ((s_12.2.place_Pen[k_6]?).bind fun o_32 =>
 some (decide (s_12.1 > o_32.At.Row)))).bind fun d_25 =>
 some d_25)).bind fun d_21 =>
 (orE d_21 ((andE (p1 == 1) ((s_12.2.place_Pen[k_6]?).bind fun o_45 =>
 some (decide (s_12.1 < o_45.At.Row)))).bind fun d_38 =>
 some d_38)).bind fun d_34 =>
 if d_34 = true then
 (s_12.2.place_Pen[k_6]?).bind fun o_51 =>
 (f_grid_Grid_Row s_12.2 o_51.G s_12.1).bind fun x_53 =>
 (f_erase_All s_12.2 x_53).bind fun x_54 =>
 (some (x_54) : Option (Sto))
 else
 (some (s_12.2) : Option (Sto))).bind fun z_15 =>
 some (.inl ((w64 (s_12.1 + 1)), z_15))
 else
 some (.inr (s_12.2))) (0, x_3)).bind fun o_12 =>
 some o_12
theorem c_edit_screen (O0 : Own c0 G F) (R0 : Rel c0 sg G) (hG : Gl [0, 4] c0) (p0 : Option Nat) (p1 : Int) {r : Sto} (h2 : Pt 2 c0 v1 p0) (H : f_edit_screen sg p0 p1 = some r) :
    Calls Tryz.prog 175 #[v1, .int .i64 p1] c0.w (Post c0 fun c v => ∃ G_ : Gm, Own c G_ (F) ∧ Rel c r G_ ∧ v = .tuple #[]) := by
 unfold f_edit_screen at H
 refine en func175 rfl rfl (sr (va (v1) (va (.int .i64 p1) (bn H fun x_3 h3 H => cl (c_edit_line O0 R0 (hG.le (by decide)) p0 p1 h2 h3) ?_))))
 rintro v9 c8 l8 ⟨G4, O5, R6, rfl⟩
 refine wln (sr (va (v1) (bn H fun k_6 h12 H => ?_)))
 obtain ⟨b10, rfl, h11⟩ := ((h2.mono l8)).get h12
 refine va (.pointer (some ⟨b10, 0, none⟩)) (va (.pointer (some ⟨b10, 0, none⟩)) (bn H fun o_8 h13 H => ?_))
 obtain ⟨v14, h16, h15⟩ := Rel.open_place_Pen R6 h13 h11
 refine vx (le1 0 underlying35 (O5.gon h16 0 rfl)) (bn H fun x_9 h17 H => cl (c_grid_Grid_High O5 R6 o_8.G h15 h17) ?_)
 rintro v23 c22 l22 ⟨O19, rfl⟩
 refine va (.int .i64 0) (wln (W.block (bn H fun o_12 h24 H25 => lp h24 (fun s_12 => Jn c22 fun c l => ∃ G_, Own c G_ (F) ∧ l = [(0, .pointer (some ⟨b10, 0, none⟩)), (1, .int .i64 p1), (12, .int .i64 x_9), (13, .int .i64 s_12.1)] ∧ Rel c s_12.2 G_) (fun o_12_ ex e w => ex = .exit 0 ∧ (Jn c22 fun c l => ∃ G_, Own c G_ (F) ∧ l = [] ∧ Rel c o_12_ G_) e w) ?_ ?_ ?_)))
 ·clear H25 h24
  intro s_12 xx_ ee_ ww_ H
  revert ee_ ww_
  rintro e_ w_ ⟨c26, g27, _, rfl, l26, rfl, G29, O28, rfl, R30⟩
  refine sr (va (.bool (decide (s_12.1 < x_9))) (wln (W.seq (cn H (fun h32 H => ?_) (fun h32 H => ?_)))))
  ·refine W.skip (nrm (bn H fun z_15 H33 H34 => W.seqJ (Jn c26 fun c l => ∃ G_, Own c G_ (F) ∧ l = [(0, .pointer (some ⟨b10, 0, none⟩)), (1, .int .i64 p1), (12, .int .i64 x_9), (13, .int .i64 s_12.1)] ∧ Rel c z_15 G_) ?_ ?_))
   ·refine W.block (sr (va (.int .i64 s_12.1) (va (.int .i64 s_12.1) (wln (W.seq (bn H33 fun d_21 h35 H33 => bn H33 fun d_34 h36 H33 => W.join (Jn c26 fun c l => Own c G29 (F) ∧ l = [(0, .pointer (some ⟨b10, 0, none⟩)), (1, .int .i64 p1), (4, .int .i64 s_12.1), (12, .int .i64 x_9), (13, .int .i64 s_12.1), (43, .bool d_34)]) ?_ ?_))))))
    ·clear H33
     refine W.region (va (.int .i64 p1) (va (.bool (p1 == 2)) ?_))
     rcases bo (p1 == 2) with h37 | h37
     ·obtain rfl := orT h37 h35
      refine vb h37 (ps (ps (ps (ps (ps (ps (ps (ps (ps (ps (ps (va (.bool true) ?_))))))))))))
      have h38 : true = true := rfl
      obtain rfl := orT h38 h36
      exact vb h38 (ps (ps (ps (ps (ps (ps (ps (ps (ps (ps (ps (va (.bool true) (wln ⟨c26, _, _, rfl, pt, us, O28, rfl⟩)))))))))))))
     have H39 := orF h37 h35
     refine vb h37 (wn (va (.int .i64 p1) (wn (va (.bool (p1 == 0)) (wn (bn H39 fun d_25 h40 H39 => ?_))))))
     rcases bo (p1 == 0) with h41 | h41
     ·have H42 := anT h41 h40
      refine vb h41 (wn (va (.int .i64 s_12.1) (wn (va (.pointer (some ⟨b10, 0, none⟩)) (wn (va (.pointer (some ⟨b10, 0, none⟩)) (wn (va (.pointer (some ⟨b10, 1, none⟩)) (wn (va (.pointer (some ⟨b10, 1, none⟩)) (wn (bn H42 fun o_32 h43 H42 => ?_))))))))))))
      obtain ⟨v44, h46, h45⟩ := Rel.open_place_Pen R30 h43 (tm h11)
      refine vx (le1 1 underlying3 (O28.gon h46 0 rfl)) (wn (va (.bool (decide (s_12.1 > o_32.At.Row))) (wn ?_)))
      obtain rfl := si H42
      refine va (.bool (decide (s_12.1 > o_32.At.Row))) ?_
      obtain rfl := si H39
      refine va (.bool (decide (s_12.1 > o_32.At.Row))) ?_
      rcases bo (decide (s_12.1 > o_32.At.Row)) with h47 | h47
      ·obtain rfl := orT h47 h36
       exact vb h47 (ps (ps (ps (ps (ps (ps (ps (ps (ps (ps (ps (va (.bool true) (wln ⟨c26, _, _, rfl, pt, us, O28, rfl⟩)))))))))))))
      have H48 := orF h47 h36
      refine vb h47 (wn (va (.int .i64 p1) (wn (va (.bool (p1 == 1)) (wn (bn H48 fun d_38 h49 H48 => ?_))))))
      rcases bo (p1 == 1) with h50 | h50
      ·have H51 := anT h50 h49
       refine vb h50 (wn (va (.int .i64 s_12.1) (wn (va (.pointer (some ⟨b10, 0, none⟩)) (wn (va (.pointer (some ⟨b10, 0, none⟩)) (wn (va (.pointer (some ⟨b10, 1, none⟩)) (wn (va (.pointer (some ⟨b10, 1, none⟩)) (wn (bn H51 fun o_45 h52 H51 => ?_))))))))))))
       obtain ⟨v53, h55, h54⟩ := Rel.open_place_Pen R30 h52 (tm h11)
       refine vx (le1 1 underlying3 (O28.gon h55 0 rfl)) (wn (va (.bool (decide (s_12.1 < o_45.At.Row))) (wn ?_)))
       obtain rfl := si H51
       refine va (.bool (decide (s_12.1 < o_45.At.Row))) ?_
       obtain rfl := si H48
       exact va (.bool (decide (s_12.1 < o_45.At.Row))) (wln ⟨c26, _, _, rfl, pt, us, O28, rfl⟩)
      obtain rfl := anF h50 h49
      refine vb h50 (ps (ps (ps (ps (ps (ps (ps (wn (va (.bool false) ?_)))))))))
      obtain rfl := si H48
      exact va (.bool false) (wln ⟨c26, _, _, rfl, pt, us, O28, rfl⟩)
     obtain rfl := anF h41 h40
     refine vb h41 (ps (ps (ps (ps (ps (ps (ps (wn (va (.bool false) ?_)))))))))
     obtain rfl := si H39
     refine va (.bool false) ?_
     have h56 : false = false := rfl
     have H57 := orF h56 h36
     refine vb h56 (wn (va (.int .i64 p1) (wn (va (.bool (p1 == 1)) (wn (bn H57 fun d_38 h58 H57 => ?_))))))
     rcases bo (p1 == 1) with h59 | h59
     ·have H60 := anT h59 h58
      refine vb h59 (wn (va (.int .i64 s_12.1) (wn (va (.pointer (some ⟨b10, 0, none⟩)) (wn (va (.pointer (some ⟨b10, 0, none⟩)) (wn (va (.pointer (some ⟨b10, 1, none⟩)) (wn (va (.pointer (some ⟨b10, 1, none⟩)) (wn (bn H60 fun o_45 h61 H60 => ?_))))))))))))
      obtain ⟨v62, h64, h63⟩ := Rel.open_place_Pen R30 h61 (tm h11)
      refine vx (le1 1 underlying3 (O28.gon h64 0 rfl)) (wn (va (.bool (decide (s_12.1 < o_45.At.Row))) (wn ?_)))
      obtain rfl := si H60
      refine va (.bool (decide (s_12.1 < o_45.At.Row))) ?_
      obtain rfl := si H57
      exact va (.bool (decide (s_12.1 < o_45.At.Row))) (wln ⟨c26, _, _, rfl, pt, us, O28, rfl⟩)
     obtain rfl := anF h59 h58
     refine vb h59 (ps (ps (ps (ps (ps (ps (ps (wn (va (.bool false) ?_)))))))))
     obtain rfl := si H57
     exact va (.bool false) (wln ⟨c26, _, _, rfl, pt, us, O28, rfl⟩)
    rintro e_ w_ ⟨c65, g66, _, rfl, l65, rfl, O67, rfl⟩
    refine nrm (cn H33 (fun h71 H33 => ?_) (fun h71 H33 => ?_))
    ·refine W.region (va (.pointer (some ⟨b10, 0, none⟩)) (va (.pointer (some ⟨b10, 0, none⟩)) (va (.pointer (some ⟨b10, 0, none⟩)) (bn H33 fun o_51 h72 H33 => ?_))))
     obtain ⟨v73, h75, h74⟩ := Rel.open_place_Pen (R30.mono l65) h72 (tm h11)
     refine vx (le1 0 underlying35 (O67.gon h75 0 rfl)) (va (.int .i64 s_12.1) (bn H33 fun x_53 h76 H33 => cl (c_grid_Grid_Row O67 R30.m o_51.G s_12.1 h74 h76) ?_))
     rintro v77 c83 l83 ⟨_, O80, rfl, h78⟩
     refine bn H33 fun x_54 h85 H33 => cl (c_erase_All O80 R30.m (hG.m.le (by decide)) x_53 h78 h85) ?_
     rintro v91 c90 l90 ⟨G86, O87, R88, rfl⟩
     refine WL.nil (bkn (nrm ?_))
     obtain rfl := si H33
     exact ⟨c90, _, _, rfl, pt, us, G86, O87, rfl, R88⟩
    refine W.skip (bkn (nrm ?_))
    obtain rfl := si H33
    exact ⟨c65, _, _, rfl, pt, us, G29, O67, rfl, R30.m⟩
   rintro e_ w_ ⟨c92, g93, _, rfl, l92, rfl, G95, O94, rfl, R96⟩
   refine W.region (va (.int .i64 (w64 (s_12.1 + 1))) (va (.int .i64 (w64 (s_12.1 + 1))) (WL.nil ?_)))
   obtain rfl := si H34
   exact ⟨_, rfl, ⟨c92, _, _, rfl, pt, us, G95, O94, rfl, R96⟩⟩
  refine W.exit (thx ?_)
  obtain rfl := si H
  exact ⟨_, rfl, rfl, ⟨c26, _, _, rfl, pt, us, G29, O28, rfl, R30⟩⟩
 ·exact ⟨c22, _, _, rfl, pt, us, G4, O19, rfl, R6.m⟩
 rintro _ e_ w_ ⟨rfl, c98, g99, _, rfl, l98, rfl, G101, O100, rfl, R102⟩
 refine bke ?_
 obtain rfl := si H25
 exact n0 ⟨_, c98, rfl, rfl, pt, G101, O100, R102, rfl⟩
def f_edit_cells (sg : Sto) (p0 : Option Nat) (p1 : G_api_Op) : Option (Sto) :=
 (p0).bind fun k_4 =>
 (sg.place_Pen[k_4]?).bind fun o_6 =>
 (f_grid_Grid_Row sg o_6.G o_6.At.Row).bind fun x_12 =>
 if (p1.Kind == 2) = true then
 (f_grid_Grid_Wide sg o_6.G).bind fun x_34 =>
 (f_grid_Grid_High sg o_6.G).bind fun x_35 =>
 (f_cursor_Move p1.A p1.B x_34 x_35).bind fun x_36 =>
 (sg.set_place_Pen k_4 (⟨o_6.G, x_36, o_6.Auto⟩ : G_place_Pen)).bind fun s_39001 =>
 some s_39001
 else
 if (p1.Kind == 3) = true then
 (f_edit_line sg p0 p1.A).bind fun x_47 =>
 some x_47
 else
 if (p1.Kind == 4) = true then
 (f_edit_screen sg p0 p1.A).bind fun x_55 =>
 some x_55
 else
 if (p1.Kind == 5) = true then
 (f_erase_Cells sg x_12 o_6.At.Col p1.A).bind fun x_68 =>
 some x_68
 else
 if (p1.Kind == 6) = true then
 (f_shift_Insert sg x_12 o_6.At.Col p1.A).bind fun x_81 =>
 some x_81
 else
 if (p1.Kind == 7) = true then
 (f_shift_Delete sg x_12 o_6.At.Col p1.A).bind fun x_94 =>
 some x_94
 else
 if (p1.Kind == 12) = true then
 (sg.set_place_Pen k_4 (⟨o_6.G, o_6.At, p1.A != 0⟩ : G_place_Pen)).bind fun s_105001 =>
 some s_105001
 else
 some sg
theorem c_edit_cells (O0 : Own c0 G F) (R0 : Rel c0 sg G) (hG : Gl [0, 4] c0) (p0 : Option Nat) (p1 : G_api_Op) {r : Sto} (h2 : Pt 2 c0 v1 p0) (h4 : Sl (RI .u8) c0 v3 p1.Bytes) (H : f_edit_cells sg p0 p1 = some r) :
    Calls Tryz.prog 102 #[v1, .agg #[.int .i64 p1.Kind, .int .i64 p1.A, .int .i64 p1.B, v3]] c0.w (Post c0 fun c v => ∃ G_ : Gm, Own c G_ (F) ∧ Rel c r G_ ∧ v = .tuple #[]) := by
 unfold f_edit_cells at H
 refine en func102 rfl rfl (sr ?_)
 obtain ⟨a5, a6, a7, rfl⟩ := (h4).form
 refine me (bx 59 [.int .i64 p1.Kind, .int .i64 p1.A, .int .i64 p1.B, .slice a5 a6 a7] O0) ?_
 rintro v12 c11 l11 ⟨b8, rfl, O9, m10⟩
 refine wln (W.seq (rD [] (Kp G []) O9 ?_))
 intro c13 l13 O14
 have p15 : Kp G [] c13 := (Kp.nil O14)
 refine ta 0 (v1) (bn H fun k_4 h18 H => ?_)
 obtain ⟨b16, rfl, h17⟩ := ((h2.mono (l11.trans l13))).get h18
 refine ta 1 (.pointer (some ⟨b16, 0, none⟩)) (ta 2 (.pointer (some ⟨b16, 0, none⟩)) (bn H fun o_6 h19 H => ?_))
 obtain ⟨v20, h22, h21⟩ := Rel.open_place_Pen (R0.mono (l11.trans l13)) h19 h17
 refine tkx 3 p15 (fun c' hle hk => le1 0 underlying35 (hk.gon h22 0 rfl)) (ta 4 (.pointer (some ⟨b16, 0, none⟩)) (ta 5 (.pointer (some ⟨b16, 0, none⟩)) (ta 6 (.pointer (some ⟨b16, 1, none⟩)) (ta 7 (.pointer (some ⟨b16, 1, none⟩)) (tkx 8 p15 (fun c' hle hk => le1 1 underlying3 (hk.gon h22 0 rfl)) (bn H fun x_12 h23 H => o1 9 (gc 9 (c_grid_Grid_Row O14 R0.m o_6.G o_6.At.Row h21 h23) ?_)))))))
 rintro v24 c30 l30 ⟨_, O27, rfl, h25⟩
 have p32 : Kp G [] c30 := (Kp.nil O27)
 refine ⟨.inr p32, ta 10 (v24) (dn (nrm (sr (va (.pointer (some ⟨b8, 0, none⟩)) (vx (l1 underlying3 ((mm m10) 0 _ rfl)) (wln (W.block (sr (va (.bool (p1.Kind == 2)) (va (.bool (p1.Kind == 2)) (wln (cn H (fun h33 H => ?_) (fun h33 H => ?_)))))))))))))⟩
 ·refine rD [18] (Kp G []) O27 ?_
  intro c34 l34 O35
  have p36 : Kp G [] c34 := (Kp.nil O35)
  refine ta 0 (.pointer (some ⟨b16, 0, none⟩)) (ta 1 (.pointer (some ⟨b8, 0 + 1, none⟩)) (tx 2 (fun c' hle => l1 underlying3 ((mm m10) 1 _ rfl)) (ta 3 (.pointer (some ⟨b8, 0 + 2, none⟩)) (tx 4 (fun c' hle => l1 underlying3 ((mm m10) 2 _ rfl)) (ta 5 (.pointer (some ⟨b16, 0, none⟩)) (ta 6 (.pointer (some ⟨b16, 0, none⟩)) (ta 7 (.pointer (some ⟨b16, 0, none⟩)) (tkx 8 p36 (fun c' hle hk => le1 0 underlying35 (hk.gon h22 0 rfl)) (ta 10 (.pointer (some ⟨b16, 0, none⟩)) (ta 11 (.pointer (some ⟨b16, 0, none⟩)) (ta 12 (.pointer (some ⟨b16, 0, none⟩)) (tkx 13 p36 (fun c' hle hk => le1 0 underlying35 (hk.gon h22 0 rfl)) (bn H fun x_34 h37 H => o1 9 (gc 9 (c_grid_Grid_Wide O35 R0.m o_6.G h21.m h37) ?_))))))))))))))
  rintro v43 c42 l42 ⟨O39, rfl⟩
  have p44 : Kp G [] c42 := (Kp.nil O39)
  refine ⟨.inr p44, bn H fun x_35 h45 H => o1 14 (gc 14 (c_grid_Grid_High O39 R0.m o_6.G h21.m h45) ?_)⟩
  rintro v51 c50 l50 ⟨O47, rfl⟩
  have p52 : Kp G [] c50 := (Kp.nil O47)
  refine ⟨.inr p52, bn H fun x_36 h53 H => o1 15 (gc 15 (c_cursor_Move O47 p1.A p1.B x_34 x_35 h53) ?_)⟩
  rintro v59 c58 l58 ⟨O55, rfl⟩
  have p60 : Kp G [] c58 := (Kp.nil O55)
  refine ⟨.inr p60, ta 16 (.pointer (some ⟨b16, 0, none⟩)) (ta 17 (.pointer (some ⟨b16, 1, none⟩)) (o1 18 (gD 18 (gB 24 1 [.int .i64 x_36.Row, .int .i64 x_36.Col, .bool x_36.Pending] [v20, .int .i64 x_36.Row, .int .i64 x_36.Col, .bool x_36.Pending, .bool o_6.Auto] 0 O55 h22 ⟨rfl, rfl, rfl, trivial⟩) ?_)))⟩
  rintro c62 l62 O61
  refine bn H fun s_39001 h67 H => ?_
  obtain ⟨G63, O64, R65, h66, a68⟩ := Rel.put_place_Pen O61 (R0.mono (l11.trans (l13.trans (l30.trans (l34.trans (l42.trans (l50.trans (l58.trans l62)))))))) (E' := [⟨.pointer (some ⟨b16, 0, none⟩), 42, [v20, .int .i64 x_36.Row, .int .i64 x_36.Col, .bool x_36.Pending, .bool o_6.Auto], 0⟩]) h67 ⟨b16, v20, (tm h17), rfl, (h21.mono (l30.trans (l34.trans (l42.trans (l50.trans (l58.trans l62))))))⟩
  refine ⟨.inl rfl, dn (bkn ?_)⟩
  obtain rfl := si H
  exact n0 ⟨_, c62, rfl, rfl, pt, G63, O64, R65, rfl⟩
 refine sr (va (.bool (p1.Kind == 3)) (va (.bool (p1.Kind == 3)) (wln (cn H (fun h69 H => ?_) (fun h69 H => ?_)))))
 ·refine W.region (va (.pointer (some ⟨b16, 0, none⟩)) (va (.pointer (some ⟨b8, 0 + 1, none⟩)) (vx (l1 underlying3 ((mm m10) 1 _ rfl)) (bn H fun x_47 h70 H => cl (c_edit_line O27 R0.m (hG.m.le (by decide)) p0 p1.A h2.m h70) ?_))))
  rintro v76 c75 l75 ⟨G71, O72, R73, rfl⟩
  refine WL.nil (bkn ?_)
  obtain rfl := si H
  exact n0 ⟨_, c75, rfl, rfl, pt, G71, O72, R73, rfl⟩
 refine sr (va (.bool (p1.Kind == 4)) (va (.bool (p1.Kind == 4)) (wln (cn H (fun h77 H => ?_) (fun h77 H => ?_)))))
 ·refine W.region (va (.pointer (some ⟨b16, 0, none⟩)) (va (.pointer (some ⟨b8, 0 + 1, none⟩)) (vx (l1 underlying3 ((mm m10) 1 _ rfl)) (bn H fun x_55 h78 H => cl (c_edit_screen O27 R0.m (hG.m.le (by decide)) p0 p1.A h2.m h78) ?_))))
  rintro v84 c83 l83 ⟨G79, O80, R81, rfl⟩
  refine WL.nil (bkn ?_)
  obtain rfl := si H
  exact n0 ⟨_, c83, rfl, rfl, pt, G79, O80, R81, rfl⟩
 refine sr (va (.bool (p1.Kind == 5)) (va (.bool (p1.Kind == 5)) (wln (cn H (fun h85 H => ?_) (fun h85 H => ?_)))))
 ·refine rD [8] (Kp G []) O27 ?_
  intro c86 l86 O87
  have p88 : Kp G [] c86 := (Kp.nil O87)
  refine ta 0 (v24) (ta 1 (.pointer (some ⟨b16, 0, none⟩)) (ta 2 (.pointer (some ⟨b16, 0, none⟩)) (ta 3 (.pointer (some ⟨b16, 1, none⟩)) (ta 4 (.pointer (some ⟨b16, 2, none⟩)) (tkx 5 p88 (fun c' hle hk => le1 2 underlying3 (hk.gon h22 0 rfl)) (ta 6 (.pointer (some ⟨b8, 0 + 1, none⟩)) (tx 7 (fun c' hle => l1 underlying3 ((mm m10) 1 _ rfl)) (bn H fun x_68 h89 H => o1 8 (gc 8 (c_erase_Cells O87 R0.m (hG.m.le (by decide)) x_12 o_6.At.Col p1.A h25.m h89) ?_)))))))))
  rintro v95 c94 l94 ⟨G90, O91, R92, rfl⟩
  refine ⟨.inl rfl, dn (bkn ?_)⟩
  obtain rfl := si H
  exact n0 ⟨_, c94, rfl, rfl, pt, G90, O91, R92, rfl⟩
 refine sr (va (.bool (p1.Kind == 6)) (va (.bool (p1.Kind == 6)) (wln (cn H (fun h96 H => ?_) (fun h96 H => ?_)))))
 ·refine rD [8] (Kp G []) O27 ?_
  intro c97 l97 O98
  have p99 : Kp G [] c97 := (Kp.nil O98)
  refine ta 0 (v24) (ta 1 (.pointer (some ⟨b16, 0, none⟩)) (ta 2 (.pointer (some ⟨b16, 0, none⟩)) (ta 3 (.pointer (some ⟨b16, 1, none⟩)) (ta 4 (.pointer (some ⟨b16, 2, none⟩)) (tkx 5 p99 (fun c' hle hk => le1 2 underlying3 (hk.gon h22 0 rfl)) (ta 6 (.pointer (some ⟨b8, 0 + 1, none⟩)) (tx 7 (fun c' hle => l1 underlying3 ((mm m10) 1 _ rfl)) (bn H fun x_81 h100 H => o1 8 (gc 8 (c_shift_Insert O98 R0.m (hG.m.le (by decide)) x_12 o_6.At.Col p1.A h25.m h100) ?_)))))))))
  rintro v106 c105 l105 ⟨G101, O102, R103, rfl⟩
  refine ⟨.inl rfl, dn (bkn ?_)⟩
  obtain rfl := si H
  exact n0 ⟨_, c105, rfl, rfl, pt, G101, O102, R103, rfl⟩
 refine sr (va (.bool (p1.Kind == 7)) (va (.bool (p1.Kind == 7)) (wln (cn H (fun h107 H => ?_) (fun h107 H => ?_)))))
 ·refine rD [8] (Kp G []) O27 ?_
  intro c108 l108 O109
  have p110 : Kp G [] c108 := (Kp.nil O109)
  refine ta 0 (v24) (ta 1 (.pointer (some ⟨b16, 0, none⟩)) (ta 2 (.pointer (some ⟨b16, 0, none⟩)) (ta 3 (.pointer (some ⟨b16, 1, none⟩)) (ta 4 (.pointer (some ⟨b16, 2, none⟩)) (tkx 5 p110 (fun c' hle hk => le1 2 underlying3 (hk.gon h22 0 rfl)) (ta 6 (.pointer (some ⟨b8, 0 + 1, none⟩)) (tx 7 (fun c' hle => l1 underlying3 ((mm m10) 1 _ rfl)) (bn H fun x_94 h111 H => o1 8 (gc 8 (c_shift_Delete O109 R0.m (hG.m.le (by decide)) x_12 o_6.At.Col p1.A h25.m h111) ?_)))))))))
  rintro v117 c116 l116 ⟨G112, O113, R114, rfl⟩
  refine ⟨.inl rfl, dn (bkn ?_)⟩
  obtain rfl := si H
  exact n0 ⟨_, c116, rfl, rfl, pt, G112, O113, R114, rfl⟩
 refine sr (va (.bool (p1.Kind == 12)) (va (.bool (p1.Kind == 12)) (wln (cn H (fun h118 H => ?_) (fun h118 H => ?_)))))
 ·refine W.region (va (.pointer (some ⟨b16, 0, none⟩)) (va (.pointer (some ⟨b8, 0 + 1, none⟩)) (vx (l1 underlying3 ((mm m10) 1 _ rfl)) (va (.bool (p1.A != 0)) (va (.pointer (some ⟨b16, 0, none⟩)) (va (.pointer (some ⟨b16, 4, none⟩)) (md (gC 4 4 (.bool (p1.A != 0)) [v20, .int .i64 o_6.At.Row, .int .i64 o_6.At.Col, .bool o_6.At.Pending, .bool (p1.A != 0)] 0 O27 h22 ⟨rfl, trivial⟩) ?_)))))))
  rintro c120 l120 O119
  refine bn H fun s_105001 h125 H => ?_
  obtain ⟨G121, O122, R123, h124, a126⟩ := Rel.put_place_Pen O119 (R0.mono (l11.trans (l13.trans (l30.trans l120)))) (E' := [⟨.pointer (some ⟨b16, 0, none⟩), 42, [v20, .int .i64 o_6.At.Row, .int .i64 o_6.At.Col, .bool o_6.At.Pending, .bool (p1.A != 0)], 0⟩]) h125 ⟨b16, v20, (tm h17), rfl, (h21.mono (l30.trans l120))⟩
  refine WL.nil (bkn ?_)
  obtain rfl := si H
  exact n0 ⟨_, c120, rfl, rfl, pt, G121, O122, R123, rfl⟩
 refine W.skip (bkn ?_)
 obtain rfl := si H
 exact n0 ⟨_, c30, rfl, rfl, pt, G, O27, R0.m, rfl⟩
def f_edit_Do (sg : Sto) (p0 : Option Nat) (p1 : G_api_Op) : Option (Sto × Er) :=
 (f_edit_Wrong p1).bind fun x_5 =>
 if (!x_5.isNil) = true then
 some (sg, x_5)
 else
 (orE p0.isNone ((p0).bind fun k_19 =>
 (sg.place_Pen[k_19]?).bind fun o_21 =>
 some o_21.G.isNone)).bind fun d_16 =>
 if d_16 = true then
 some (sg, Er.nil)
 else
 (p0).bind fun k_28 =>
 (sg.place_Pen[k_28]?).bind fun o_30 =>
 (f_grid_Grid_Wide sg o_30.G).bind fun x_39 =>
 (f_grid_Grid_High sg o_30.G).bind fun x_40 =>
 (f_cursor_Hold o_30.At x_39 x_40).bind fun x_41 =>
 (sg.set_place_Pen k_28 (⟨o_30.G, x_41, o_30.Auto⟩ : G_place_Pen)).bind fun s_44001 =>
 (s_44001.set_place_Pen k_28 (⟨o_30.G, (⟨x_41.Row, x_41.Col, false⟩ : G_api_Cursor), o_30.Auto⟩ : G_place_Pen)).bind fun s_50001 =>
 (if (p1.Kind == 8) = true then
 (f_edit_rows s_50001 p0 p1).bind fun x_72 =>
 (some (x_72) : Option (Sto))
 else
 if (p1.Kind == 9) = true then
 (f_edit_rows s_50001 p0 p1).bind fun x_72 =>
 (some (x_72) : Option (Sto))
 else
 (if (p1.Kind == 10) = true then
 (some (p1.Kind == 10) : Option (Bool))
 else
 (some (p1.Kind == 11) : Option (Bool))).bind fun z_63 =>
 if z_63 = true then
 (f_edit_rows s_50001 p0 p1).bind fun x_72 =>
 (some (x_72) : Option (Sto))
 else
 (f_edit_cells s_50001 p0 p1).bind fun x_76 =>
 (some (x_76) : Option (Sto))).bind fun z_52 =>
 some (z_52, Er.nil)
theorem c_edit_Do (O0 : Own c0 G F) (R0 : Rel c0 sg G) (hG : Gl [0, 4] c0) (p0 : Option Nat) (p1 : G_api_Op) {r : Sto × Er} (h2 : Pt 2 c0 v1 p0) (h4 : Sl (RI .u8) c0 v3 p1.Bytes) (H : f_edit_Do sg p0 p1 = some r) :
    Calls Tryz.prog 30 #[v1, .agg #[.int .i64 p1.Kind, .int .i64 p1.A, .int .i64 p1.B, v3]] c0.w (Post c0 fun c v => ∃ y1, ∃ G_ : Gm, Own c G_ (F) ∧ Rel c r.1 G_ ∧ v = y1 ∧ RE 305 179 c y1 r.2) := by
 unfold f_edit_Do at H
 refine en func30 rfl rfl (sr ?_)
 obtain ⟨a5, a6, a7, rfl⟩ := (h4).form
 refine me (bx 59 [.int .i64 p1.Kind, .int .i64 p1.A, .int .i64 p1.B, .slice a5 a6 a7] O0) ?_
 rintro v12 c11 l11 ⟨b8, rfl, O9, m10⟩
 refine va (.nilIface) (wln (W.seq (sr (vx (lN 59 m10) (bn H fun x_5 h13 H => cl (c_edit_Wrong O9 (hG.m.le (by decide)) p1 h4.m h13) ?_)))))
 rintro v14 c20 l20 ⟨_, O17, rfl, h15⟩
 refine va (v14) (wln (sr (va (v14) (vr (.bool (!x_5.isNil)) (by rcases (h15).cs with ⟨h1_, h2_⟩ | ⟨b_, h1_, h2_⟩ | ⟨b_, h1_, h2_⟩ <;> (subst h1_; rw [h2_]; kernel_rfl)) (wln (cn H (fun h22 H => ?_) (fun h22 H => ?_)))))))
 ·refine sr (va (v14) (va (v14) (wln (W.ret (thr ?_)))))
  obtain rfl := si H
  exact r1 ⟨_, c20, rfl, rfl, pt, v14, G, O17, R0.m, rfl, h15⟩
 refine W.skip (nrm (W.seq (W.seq (bn H fun d_16 h23 H => W.join (Jn c20 fun c l => Own c G (F) ∧ l = [(0, v1), (3, .pointer (some ⟨b8, 0, none⟩)), (19, .bool d_16)]) ?_ ?_))))
 ·clear H
  refine W.region (va (v1) (vr (.bool p0.isNone) (by rcases h2.m.cs with ⟨h1_, h2_⟩ | ⟨b_, h1_, h2_⟩ <;> (subst h1_; rw [h2_]; kernel_rfl)) ?_))
  rcases bo (p0.isNone) with h24 | h24
  ·obtain rfl := orT h24 h23
   exact vb h24 (ps (ps (ps (ps (ps (va (.bool true) (wln ⟨c20, _, _, rfl, pt, us, O17, rfl⟩)))))))
  have H25 := orF h24 h23
  refine vb h24 (wn (va (v1) (wn (bn H25 fun k_19 h28 H25 => ?_))))
  obtain ⟨b26, rfl, h27⟩ := ((h2.mono (l11.trans l20))).get h28
  refine va (.pointer (some ⟨b26, 0, none⟩)) (wn (va (.pointer (some ⟨b26, 0, none⟩)) (wn (bn H25 fun o_21 h29 H25 => ?_))))
  obtain ⟨v30, h32, h31⟩ := Rel.open_place_Pen (R0.mono (l11.trans l20)) h29 h27
  refine vx (le1 0 underlying35 (O17.gon h32 0 rfl)) (wn (vr (.bool o_21.G.isNone) (by rcases (h31).cs with ⟨h1_, h2_⟩ | ⟨b_, h1_, h2_⟩ <;> (subst h1_; rw [h2_]; kernel_rfl)) ?_))
  obtain rfl := si H25
  exact va (.bool o_21.G.isNone) (wln ⟨c20, _, _, rfl, pt, us, O17, rfl⟩)
 rintro e_ w_ ⟨c33, g34, _, rfl, l33, rfl, O35, rfl⟩
 refine nrm (cn H (fun h39 H => ?_) (fun h39 H => ?_))
 ·refine sr (va (.nilIface) (wln (W.ret (thr ?_))))
  obtain rfl := si H
  exact r1 ⟨_, c33, rfl, rfl, pt, .nilIface, G, O35, R0.m, rfl, rfl⟩
 refine W.skip (nrm (W.seq (rD [18] (Kp G []) O35 ?_)))
 intro c40 l40 O41
 have p42 : Kp G [] c40 := (Kp.nil O41)
 refine ta 0 (v1) (ta 1 (v1) (bn H fun k_28 h45 H => ?_))
 obtain ⟨b43, rfl, h44⟩ := ((h2.mono (l11.trans (l20.trans (l33.trans l40))))).get h45
 refine ta 2 (.pointer (some ⟨b43, 0, none⟩)) (ta 3 (.pointer (some ⟨b43, 1, none⟩)) (bn H fun o_30 h46 H => ?_))
 obtain ⟨v47, h49, h48⟩ := Rel.open_place_Pen (R0.mono (l11.trans (l20.trans (l33.trans l40)))) h46 h44
 refine tkx 4 p42 (fun c' hle hk => leN 24 1 [.int .i64 o_30.At.Row, .int .i64 o_30.At.Col, .bool o_30.At.Pending] (hk.gon h49 0 rfl)) (ta 5 (.pointer (some ⟨b43, 0, none⟩)) (ta 6 (.pointer (some ⟨b43, 0, none⟩)) (ta 7 (.pointer (some ⟨b43, 0, none⟩)) (tkx 8 p42 (fun c' hle hk => le1 0 underlying35 (hk.gon h49 0 rfl)) (ta 10 (.pointer (some ⟨b43, 0, none⟩)) (ta 11 (.pointer (some ⟨b43, 0, none⟩)) (ta 12 (.pointer (some ⟨b43, 0, none⟩)) (tkx 13 p42 (fun c' hle hk => le1 0 underlying35 (hk.gon h49 0 rfl)) (bn H fun x_39 h50 H => o1 9 (gc 9 (c_grid_Grid_Wide O41 R0.m o_30.G h48 h50) ?_))))))))))
 rintro v56 c55 l55 ⟨O52, rfl⟩
 have p57 : Kp G [] c55 := (Kp.nil O52)
 refine ⟨.inr p57, bn H fun x_40 h58 H => o1 14 (gc 14 (c_grid_Grid_High O52 R0.m o_30.G h48.m h58) ?_)⟩
 rintro v64 c63 l63 ⟨O60, rfl⟩
 have p65 : Kp G [] c63 := (Kp.nil O60)
 refine ⟨.inr p65, bn H fun x_41 h66 H => o1 15 (gc 15 (c_cursor_Hold O60 o_30.At x_39 x_40 h66) ?_)⟩
 rintro v72 c71 l71 ⟨O68, rfl⟩
 have p73 : Kp G [] c71 := (Kp.nil O68)
 refine ⟨.inr p73, ta 16 (.pointer (some ⟨b43, 0, none⟩)) (ta 17 (.pointer (some ⟨b43, 1, none⟩)) (o1 18 (gD 18 (gB 24 1 [.int .i64 x_41.Row, .int .i64 x_41.Col, .bool x_41.Pending] [v47, .int .i64 x_41.Row, .int .i64 x_41.Col, .bool x_41.Pending, .bool o_30.Auto] 0 O68 h49 ⟨rfl, rfl, rfl, trivial⟩) ?_)))⟩
 rintro c75 l75 O74
 refine bn H fun s_44001 h80 H => ?_
 obtain ⟨G76, O77, R78, h79, a81⟩ := Rel.put_place_Pen O74 (R0.mono (l11.trans (l20.trans (l33.trans (l40.trans (l55.trans (l63.trans (l71.trans l75)))))))) (E' := [⟨.pointer (some ⟨b43, 0, none⟩), 42, [v47, .int .i64 x_41.Row, .int .i64 x_41.Col, .bool x_41.Pending, .bool o_30.Auto], 0⟩]) h80 ⟨b43, v47, (tm h44), rfl, (h48.mono (l55.trans (l63.trans (l71.trans l75))))⟩
 refine ⟨.inl rfl, dn (nrm (sr (va (.pointer (some ⟨b43, 0, none⟩)) (va (.pointer (some ⟨b43, 0, none⟩)) (va (.pointer (some ⟨b43, 1, none⟩)) (va (.pointer (some ⟨b43, 3, none⟩)) (md (gC 4 3 (.bool false) [v47, .int .i64 x_41.Row, .int .i64 x_41.Col, .bool false, .bool o_30.Auto] 0 O77 h79 ⟨rfl, trivial⟩) ?_)))))))⟩
 rintro c83 l83 O82
 refine bn H fun s_50001 h88 H => ?_
 obtain ⟨G84, O85, R86, h87, a89⟩ := Rel.put_place_Pen O82 (R78.mono l83) (E' := [⟨.pointer (some ⟨b43, 0, none⟩), 42, [v47, .int .i64 x_41.Row, .int .i64 x_41.Col, .bool false, .bool o_30.Auto], 0⟩]) h88 ⟨b43, v47, (tm h44), rfl, (h48.mono (l55.trans (l63.trans (l71.trans (l75.trans l83)))))⟩
 refine wln (bn H fun z_52 H90 H91 => W.seqJ (Jn c83 fun c l => ∃ G_, Own c G_ (F) ∧ l = [] ∧ Rel c z_52 G_) ?_ ?_)
 ·refine sr (va (.pointer (some ⟨b8, 0, none⟩)) (vx (l1 underlying3 ((mm m10) 0 _ rfl)) (wln (W.block (W.seq (W.block (W.seq (W.block (W.block (W.block (W.seq (W.seq (sr (va (.bool (p1.Kind == 8)) (va (.bool (p1.Kind == 8)) (wln (cn H90 (fun h92 H90 => ?_) (fun h92 H90 => ?_))))))))))))))))))
  ·refine W.exit (thx (thx (bke (bkn (bkn (nrm (sr (va (.pointer (some ⟨b43, 0, none⟩)) (vx (lN 59 (mm m10)) (bn H90 fun x_72 h93 H90 => cl (c_edit_rows O85 R86 p0 p1 h2.m h4.m h93) ?_))))))))))
   rintro v99 c98 l98 ⟨G94, O95, R96, rfl⟩
   refine wln (W.exit (bko rfl (thx (bke (nrm ?_)))))
   obtain rfl := si H90
   exact ⟨c98, _, _, rfl, pt, us, G94, O95, rfl, R96⟩
  refine W.skip (nrm (W.seq (sr (va (.bool (p1.Kind == 9)) (va (.bool (p1.Kind == 9)) (wln (cn H90 (fun h100 H90 => ?_) (fun h100 H90 => ?_))))))))
  ·refine W.exit (thx (thx (bko rfl (bke (bkn (nrm (sr (va (.pointer (some ⟨b43, 0, none⟩)) (vx (lN 59 (mm m10)) (bn H90 fun x_72 h101 H90 => cl (c_edit_rows O85 R86 p0 p1 h2.m h4.m h101) ?_))))))))))
   rintro v107 c106 l106 ⟨G102, O103, R104, rfl⟩
   refine wln (W.exit (bko rfl (thx (bke (nrm ?_)))))
   obtain rfl := si H90
   exact ⟨c106, _, _, rfl, pt, us, G102, O103, rfl, R104⟩
  refine W.skip (nrm (bn H90 fun z_63 H108 H109 => W.seqJ (Jn c83 fun c l => Own c G84 (F) ∧ l = [(0, .pointer (some ⟨b43, 0, none⟩)), (3, .pointer (some ⟨b8, 0, none⟩)), (48, .bool z_63)]) ?_ ?_))
  ·refine sr (va (.bool (p1.Kind == 10)) (va (.bool (p1.Kind == 10)) (wln (cn H108 (fun h110 H108 => ?_) (fun h110 H108 => ?_)))))
   ·refine W.skip (nrm ?_)
    obtain rfl := si H108
    exact ⟨c83, _, _, rfl, pt, us, O85, rfl⟩
   refine W.region (va (.bool (p1.Kind == 11)) (va (.bool (p1.Kind == 11)) (wln ?_)))
   obtain rfl := si H108
   exact ⟨c83, _, _, rfl, pt, us, O85, rfl⟩
  rintro e_ w_ ⟨c111, g112, _, rfl, l111, rfl, O113, rfl⟩
  refine cn H109 (fun h117 H109 => ?_) (fun h117 H109 => ?_)
  ·refine W.exit (thx (bko rfl (bko rfl (bke (nrm (sr (va (.pointer (some ⟨b43, 0, none⟩)) (vx (lN 59 (mm m10)) (bn H109 fun x_72 h118 H109 => cl (c_edit_rows O113 R86.m p0 p1 h2.m h4.m h118) ?_)))))))))
   rintro v124 c123 l123 ⟨G119, O120, R121, rfl⟩
   refine wln (W.exit (bko rfl (thx (bke (nrm ?_)))))
   obtain rfl := si H109
   exact ⟨c123, _, _, rfl, pt, us, G119, O120, rfl, R121⟩
  refine W.skip (nrm (W.exit (bko rfl (bko rfl (bko rfl (thx (bke (nrm (sr (va (.pointer (some ⟨b43, 0, none⟩)) (vx (lN 59 (mm m10)) (bn H109 fun x_76 h125 H109 => cl (c_edit_cells O113 R86.m (hG.m.le (by decide)) p0 p1 h2.m h4.m h125) ?_))))))))))))
  rintro v131 c130 l130 ⟨G126, O127, R128, rfl⟩
  refine wln (W.exit (bke (nrm ?_)))
  obtain rfl := si H109
  exact ⟨c130, _, _, rfl, pt, us, G126, O127, rfl, R128⟩
 rintro e_ w_ ⟨c132, g133, _, rfl, l132, rfl, G135, O134, rfl, R136⟩
 refine sr (va (.nilIface) (wln (W.ret ?_)))
 obtain rfl := si H91
 exact r1 ⟨_, c132, rfl, rfl, pt, .nilIface, G135, O134, R136, rfl, rfl⟩
def f_linotyperef38_Wrong (p0 : G_api_Op) : Option (Int) :=
 (orE (decide (p0.Kind < 2)) (some (decide (p0.Kind > 12)))).bind fun d_7 =>
 if d_7 = true then
 some 5
 else
 (orE (p0.Kind == 3) (some (p0.Kind == 4))).bind fun d_18 =>
 (andE d_18 ((orE (decide (p0.A < 0)) (some (decide (p0.A > 2)))).bind fun d_28 =>
 some d_28)).bind fun d_23 =>
 if d_23 = true then
 some 3
 else
 some 0
theorem c_linotyperef38_Wrong (O0 : Own c0 G F) (p0 : G_api_Op) {r : Int} (h2 : Sl (RI .u8) c0 v1 p0.Bytes) (H : f_linotyperef38_Wrong p0 = some r) :
    Calls Tryz.prog 26 #[.agg #[.int .i64 p0.Kind, .int .i64 p0.A, .int .i64 p0.B, v1]] c0.w (Post c0 fun c v => Own c G (F) ∧ v = .int .i64 r) := by
 unfold f_linotyperef38_Wrong at H
 refine en func26 rfl rfl (sr ?_)
 obtain ⟨a3, a4, a5, rfl⟩ := (h2).form
 refine me (bx 59 [.int .i64 p0.Kind, .int .i64 p0.A, .int .i64 p0.B, .slice a3 a4 a5] O0) ?_
 rintro v10 c9 l9 ⟨b6, rfl, O7, m8⟩
 refine va (.int .i64 0) (wln (W.seq (W.seq (bn H fun d_7 h11 H => W.join (Jn c9 fun c l => Own c G (F) ∧ l = [(1, .pointer (some ⟨b6, 0, none⟩)), (10, .bool d_7)]) ?_ ?_))))
 ·clear H
  refine W.region (va (.pointer (some ⟨b6, 0, none⟩)) (vx (l1 underlying3 (m8 0 _ rfl)) (va (.bool (decide (p0.Kind < 2))) ?_)))
  rcases bo (decide (p0.Kind < 2)) with h12 | h12
  ·obtain rfl := orT h12 h11
   exact vb h12 (ps (ps (ps (va (.bool true) (wln ⟨c9, _, _, rfl, pt, us, O7, rfl⟩)))))
  have H13 := orF h12 h11
  refine vb h12 (wn (va (.pointer (some ⟨b6, 0, none⟩)) (wn (vx (l1 underlying3 (m8 0 _ rfl)) (wn (va (.bool (decide (p0.Kind > 12))) ?_))))))
  obtain rfl := si H13
  exact va (.bool (decide (p0.Kind > 12))) (wln ⟨c9, _, _, rfl, pt, us, O7, rfl⟩)
 rintro e_ w_ ⟨c14, g15, _, rfl, l14, rfl, O16, rfl⟩
 refine nrm (cn H (fun h20 H => ?_) (fun h20 H => ?_))
 ·refine sr (va (.int .i64 5) (wln (W.ret (thr ?_))))
  obtain rfl := si H
  exact r1 ⟨_, c14, rfl, rfl, pt, O16, rfl⟩
 refine W.skip (nrm (W.seq (W.seq (bn H fun d_18 h21 H => bn H fun d_23 h22 H => W.join (Jn c14 fun c l => Own c G (F) ∧ l = [(28, .bool d_23)]) ?_ ?_))))
 ·clear H
  refine W.region (va (.pointer (some ⟨b6, 0, none⟩)) (vx (l1 underlying3 ((mm m8) 0 _ rfl)) (va (.bool (p0.Kind == 3)) ?_)))
  rcases bo (p0.Kind == 3) with h23 | h23
  ·obtain rfl := orT h23 h21
   refine vb h23 (ps (ps (ps (va (.bool true) ?_))))
   have h24 : true = true := rfl
   have H25 := anT h24 h22
   refine vb h24 (wn (va (.pointer (some ⟨b6, 0 + 1, none⟩)) (wn (vx (l1 underlying3 ((mm m8) 1 _ rfl)) (wn (va (.bool (decide (p0.A < 0))) (wn (bn H25 fun d_28 h26 H25 => ?_))))))))
   rcases bo (decide (p0.A < 0)) with h27 | h27
   ·obtain rfl := orT h27 h26
    refine vb h27 (ps (ps (ps (wn (va (.bool true) ?_)))))
    obtain rfl := si H25
    exact va (.bool true) (wln ⟨c14, _, _, rfl, pt, us, O16, rfl⟩)
   have H28 := orF h27 h26
   refine vb h27 (wn (va (.pointer (some ⟨b6, 0 + 1, none⟩)) (wn (vx (l1 underlying3 ((mm m8) 1 _ rfl)) (wn (va (.bool (decide (p0.A > 2))) (wn ?_)))))))
   obtain rfl := si H28
   refine va (.bool (decide (p0.A > 2))) ?_
   obtain rfl := si H25
   exact va (.bool (decide (p0.A > 2))) (wln ⟨c14, _, _, rfl, pt, us, O16, rfl⟩)
  have H29 := orF h23 h21
  refine vb h23 (wn (va (.pointer (some ⟨b6, 0, none⟩)) (wn (vx (l1 underlying3 ((mm m8) 0 _ rfl)) (wn (va (.bool (p0.Kind == 4)) ?_))))))
  obtain rfl := si H29
  refine va (.bool (p0.Kind == 4)) ?_
  rcases bo (p0.Kind == 4) with h30 | h30
  ·have H31 := anT h30 h22
   refine vb h30 (wn (va (.pointer (some ⟨b6, 0 + 1, none⟩)) (wn (vx (l1 underlying3 ((mm m8) 1 _ rfl)) (wn (va (.bool (decide (p0.A < 0))) (wn (bn H31 fun d_28 h32 H31 => ?_))))))))
   rcases bo (decide (p0.A < 0)) with h33 | h33
   ·obtain rfl := orT h33 h32
    refine vb h33 (ps (ps (ps (wn (va (.bool true) ?_)))))
    obtain rfl := si H31
    exact va (.bool true) (wln ⟨c14, _, _, rfl, pt, us, O16, rfl⟩)
   have H34 := orF h33 h32
   refine vb h33 (wn (va (.pointer (some ⟨b6, 0 + 1, none⟩)) (wn (vx (l1 underlying3 ((mm m8) 1 _ rfl)) (wn (va (.bool (decide (p0.A > 2))) (wn ?_)))))))
   obtain rfl := si H34
   refine va (.bool (decide (p0.A > 2))) ?_
   obtain rfl := si H31
   exact va (.bool (decide (p0.A > 2))) (wln ⟨c14, _, _, rfl, pt, us, O16, rfl⟩)
  obtain rfl := anF h30 h22
  exact vb h30 (ps (ps (ps (ps (ps (ps (ps (ps (va (.bool false) (wln ⟨c14, _, _, rfl, pt, us, O16, rfl⟩))))))))))
 rintro e_ w_ ⟨c35, g36, _, rfl, l35, rfl, O37, rfl⟩
 refine nrm (cn H (fun h41 H => ?_) (fun h41 H => ?_))
 ·refine sr (va (.int .i64 3) (wln (W.ret (thr ?_))))
  obtain rfl := si H
  exact r1 ⟨_, c35, rfl, rfl, pt, O37, rfl⟩
 refine W.skip (nrm (sr (va (.int .i64 0) (wln (W.ret ?_)))))
 obtain rfl := si H
 exact r1 ⟨_, c35, rfl, rfl, pt, O37, rfl⟩
def f_linotyperef38_act (p0 : G_linotyperef34_Pen) (p1 : Int) (p2 : Int) (p3 : Int) (p4 : Int) : Option (G_linotyperef34_Pen) :=
 (idx p0.L p1).bind fun x_7 =>
 (idx p0.L p1).bind fun x_13 =>
 (f_linotyperef26_Act x_7.Cells x_13.Wrap p2 p3 p4).bind fun x_19 =>
 (f_linotyperef34_Pen_With p0 p1 (⟨x_19.1, x_19.2⟩ : G_api_Line)).bind fun x_31 =>
 some x_31
theorem c_linotyperef38_act (O0 : Own c0 G F) (p0 : G_linotyperef34_Pen) (p1 : Int) (p2 : Int) (p3 : Int) (p4 : Int) {r : G_linotyperef34_Pen} (h2 : Sl R_api_Line c0 v1 p0.L) (H : f_linotyperef38_act p0 p1 p2 p3 p4 = some r) :
    Calls Tryz.prog 94 #[.agg #[v1, .int .i64 p0.At.Row, .int .i64 p0.At.Col, .bool p0.At.Pending, .bool p0.Auto], .int .i64 p1, .int .i64 p2, .int .i64 p3, .int .i64 p4] c0.w (Post c0 fun c v => ∃ y1 y2, Own c G (es true R_api_Line y1 71 y2 r.L :: F) ∧ v = .agg #[y1, .int .i64 r.At.Row, .int .i64 r.At.Col, .bool r.At.Pending, .bool r.Auto] ∧ OA R_api_Line c y1 y2 r.L) := by
 unfold f_linotyperef38_act at H
 refine en func94 rfl rfl (sr ?_)
 obtain ⟨a3, a4, a5, rfl⟩ := (h2).form
 refine me (bx 43 [.slice a3 a4 a5, .int .i64 p0.At.Row, .int .i64 p0.At.Col, .bool p0.At.Pending, .bool p0.Auto] O0) ?_
 rintro v10 c9 l9 ⟨b6, rfl, O7, m8⟩
 refine me (al 43 [.slice none 0 0, .int .i64 0, .int .i64 0, .bool false, .bool false] O7) ?_
 rintro v14 c13 l13 ⟨b11, rfl, O12⟩
 refine wln (W.seq (rD [] (Kp G0 []) O12 ?_))
 intro c15 l15 O16
 have p17 : Kp G0 [] c15 := Kp.nil0
 refine ta 0 (.pointer (some ⟨b6, 0, none⟩)) (tx 1 (fun c' hle => l1 underlying22 ((mm m8) 0 _ rfl)) (ta 2 (.int .i64 p1) (bn H fun x_7 h18 H => ?_)))
 obtain ⟨l_19, h20, m21⟩ := Sl.at (h2.mono (l9.trans (l13.trans l15))) (idx_get h18)
 obtain ⟨v22, rfl, h23⟩ := h20
 refine tx 3 (fun c' hle => ix underlying22 h2.m h18) (ta 4 (.pointer (some ⟨sb (.slice a3 a4 a5), so (.slice a3 a4 a5) + p1.toNat * 2, none⟩)) (tx 5 (fun c' hle => l1 underlying69 ((mm m21) 0 _ rfl)) (ta 6 (.pointer (some ⟨b6, 0, none⟩)) (tx 7 (fun c' hle => l1 underlying22 ((mm m8) 0 _ rfl)) (ta 8 (.int .i64 p1) (bn H fun x_13 h24 H => ?_))))))
 obtain ⟨l_25, h26, m27⟩ := Sl.at (h2.mono (l9.trans (l13.trans l15))) (idx_get h24)
 obtain ⟨v28, rfl, h29⟩ := h26
 refine tx 9 (fun c' hle => ix underlying22 h2.m h24) (ta 10 (.pointer (some ⟨sb (.slice a3 a4 a5), so (.slice a3 a4 a5) + p1.toNat * 2 + 1, none⟩)) (tx 11 (fun c' hle => l1 underlying4 ((mm m27) 1 _ rfl)) (ta 12 (.int .i64 p2) (ta 13 (.int .i64 p3) (ta 14 (.int .i64 p4) (bn H fun x_19 h30 H => o1 15 (gc 15 (c_linotyperef26_Act O16 x_7.Cells x_13.Wrap p2 p3 p4 h23 h30) ?_)))))))
 rintro v38 c37 l37 ⟨v31, O34, rfl, h32⟩
 have p39 : Kp G0 [] c37 := Kp.nil0
 refine ⟨.inr p39, ta 16 (.tuple #[v31, .bool x_19.2]) (ta 17 (v31) (ta 18 (.bool x_19.2) (ta 19 (v31) (ta 20 (.bool x_19.2) (dn (nrm (sr (vx (lN 43 (mm m8)) (va (.int .i64 p1) (va (v31) (va (.bool x_19.2) ?_)))))))))))⟩
 obtain ⟨a40, a41, a42, rfl⟩ := (h32).form
 refine va (.agg #[.slice a40 a41 a42, .bool x_19.2]) (bn H fun x_31 h43 H => cl (c_linotyperef34_Pen_With O34 p0 p1 (⟨x_19.1, x_19.2⟩ : G_api_Line) h2.m h32 h43) ?_)
 rintro v52 c51 l51 ⟨v44, u45, O48, rfl, h46⟩
 obtain ⟨a53, a54, a55, rfl⟩ := (h46).form
 refine md (sA 43 [.slice a53 a54 a55, .int .i64 x_31.At.Row, .int .i64 x_31.At.Col, .bool x_31.At.Pending, .bool x_31.Auto] 1 O48 ⟨(h46).one, rfl, rfl, rfl, rfl, trivial⟩) ?_
 rintro c57 l57 O56
 refine wln (W.ret ?_)
 obtain rfl := si H
 have O58 := O56.sD 2 [0]
 exact retC (c := c57) (vs := [.slice a53 a54 a55, .int .i64 x_31.At.Row, .int .i64 x_31.At.Col, .bool x_31.At.Pending, .bool x_31.Auto]) rfl (by kernel_rfl) (by kernel_rfl) (by kernel_rfl) (O56.on 1 rfl _ rfl).1 ⟨_, c57, rfl, rfl, pt, (.slice a53 a54 a55), u45, O58, rfl, h46.m⟩
def f_linotyperef38_lines (p0 : G_linotyperef34_Pen) (p1 : Int) (p2 : Int) : Option (G_linotyperef34_Pen) :=
 (idx ([2, 1, 3] : List Int) p2).bind fun x_13 =>
 (f_linotyperef38_act p0 p0.At.Row x_13 p0.At.Col 0).bind fun x_18 =>
 (iter (σ := Int × (List G_api_Line) × Int × Int × Bool × Bool) (τ := ((List G_api_Line) × Int × Int × Bool × Bool)) (((x_18.L.length : Int) - 0).toNat + 1) (fun s_23 =>
 (andE (decide (s_23.1 < (s_23.2.1.length : Int))) (some (p1 == 4))).bind fun d_29 =>
 if d_29 = true then
 ((orE (p2 == 2) ((andE (p2 == 0) (some (decide (s_23.1 > s_23.2.2.1)))).bind fun d_41 =>
 some d_41)).bind fun d_37 =>
 (orE d_37 ((andE (p2 == 1) (some (decide (s_23.1 < s_23.2.2.1)))).bind fun d_52 =>
 some d_52)).bind fun d_48 =>
 if d_48 = true then
 (f_linotyperef38_act (⟨s_23.2.1, (⟨s_23.2.2.1, s_23.2.2.2.1, s_23.2.2.2.2.1⟩ : G_api_Cursor), s_23.2.2.2.2.2⟩ : G_linotyperef34_Pen) s_23.1 3 0 0).bind fun x_62 =>
 (some (x_62.L, x_62.At.Row, x_62.At.Col, x_62.At.Pending, x_62.Auto) : Option ((List G_api_Line) × Int × Int × Bool × Bool))
 else
 (some (s_23.2.1, s_23.2.2.1, s_23.2.2.2.1, s_23.2.2.2.2.1, s_23.2.2.2.2.2) : Option ((List G_api_Line) × Int × Int × Bool × Bool))).bind fun z_34 =>
 some (.inl ((w64 (s_23.1 + 1)), z_34.1, z_34.2.1, z_34.2.2.1, z_34.2.2.2.1, z_34.2.2.2.2))
 else
 some (.inr (s_23.2.1, s_23.2.2.1, s_23.2.2.2.1, s_23.2.2.2.2.1, s_23.2.2.2.2.2))) (0, x_18.L, x_18.At.Row, x_18.At.Col, x_18.At.Pending, x_18.Auto)).bind fun o_23 =>
 some (⟨o_23.1, (⟨o_23.2.1, o_23.2.2.1, o_23.2.2.2.1⟩ : G_api_Cursor), o_23.2.2.2.2⟩ : G_linotyperef34_Pen)
theorem c_linotyperef38_lines (O0 : Own c0 G F) (p0 : G_linotyperef34_Pen) (p1 : Int) (p2 : Int) {r : G_linotyperef34_Pen} (h2 : Sl R_api_Line c0 v1 p0.L) (H : f_linotyperef38_lines p0 p1 p2 = some r) :
    Calls Tryz.prog 93 #[.agg #[v1, .int .i64 p0.At.Row, .int .i64 p0.At.Col, .bool p0.At.Pending, .bool p0.Auto], .int .i64 p1, .int .i64 p2] c0.w (Post c0 fun c v => ∃ y1 y2, Own c G (es true R_api_Line y1 71 y2 r.L :: F) ∧ v = .agg #[y1, .int .i64 r.At.Row, .int .i64 r.At.Col, .bool r.At.Pending, .bool r.Auto] ∧ OA R_api_Line c y1 y2 r.L) := by
 unfold f_linotyperef38_lines at H
 refine en func93 rfl rfl (sr ?_)
 obtain ⟨a3, a4, a5, rfl⟩ := (h2).form
 refine me (al 43 [.slice a3 a4 a5, .int .i64 p0.At.Row, .int .i64 p0.At.Col, .bool p0.At.Pending, .bool p0.Auto] O0) ?_
 rintro v9 c8 l8 ⟨b6, rfl, O7⟩
 refine me (al 43 [.slice none 0 0, .int .i64 0, .int .i64 0, .bool false, .bool false] O7) ?_
 rintro v13 c12 l12 ⟨b10, rfl, O11⟩
 refine wln (sr (me (sl (RI .i64) 3 [[.int .i64 2], [.int .i64 1], [.int .i64 3]] ([2, 1, 3] : List Int) O11 ⟨rfl, rfl, rfl, trivial⟩) ?_))
 rintro v18 c17 l17 ⟨u15, O14, h16⟩
 refine va (v18) (wln (W.seq (rD [12] (Kp G0 [⟨.pointer (some ⟨b6, 0, none⟩), 43, [.slice a3 a4 a5, .int .i64 p0.At.Row, .int .i64 p0.At.Col, .bool p0.At.Pending, .bool p0.Auto], 0⟩, es true (RI .i64) v18 3 u15 ([2, 1, 3] : List Int)]) O14 ?_)))
 intro c19 l19 O20
 have p21 : Kp G0 [⟨.pointer (some ⟨b6, 0, none⟩), 43, [.slice a3 a4 a5, .int .i64 p0.At.Row, .int .i64 p0.At.Col, .bool p0.At.Pending, .bool p0.Auto], 0⟩, es true (RI .i64) v18 3 u15 ([2, 1, 3] : List Int)] c19 := (Kp.cons (O20.on 2 rfl) (Kp.cons (O20.on 0 rfl) Kp.nil0))
 refine tkx 0 p21 (fun c' hle hk => leN 43 0 [.slice a3 a4 a5, .int .i64 p0.At.Row, .int .i64 p0.At.Col, .bool p0.At.Pending, .bool p0.Auto] (hk.on 0 rfl)) (ta 1 (.pointer (some ⟨b6, 1, none⟩)) (ta 2 (.pointer (some ⟨b6, 1, none⟩)) (tkx 3 p21 (fun c' hle hk => le1 1 underlying3 (hk.on 0 rfl)) (ta 4 (v18) (ta 5 (.int .i64 p2) (bn H fun x_13 h22 H => tx 6 (fun c' hle => ixO underlying204 h16.m h22) ?_))))))
 obtain ⟨l_23, h24, m25⟩ := OA.at (h16.mono l19) h22
 obtain rfl := h24
 refine AC.takeK 7 (.int .i64 x_13) p21 rfl (by kernel_rfl) (by kernel_rfl) (by kernel_rfl) (fun c' hle hk => (rx (by kernel_rfl) (ldE1 underlying3 rfl (hk.on 1 rfl) (h16.m.blk h22) (at1 (j := 0) m25 rfl)))) (ta 8 (.pointer (some ⟨b6, 1, none⟩)) (ta 9 (.pointer (some ⟨b6, 2, none⟩)) (tkx 10 p21 (fun c' hle hk => le1 2 underlying3 (hk.on 0 rfl)) (bn H fun x_18 h26 H => o1 11 (gc 11 (c_linotyperef38_act O20 p0 p0.At.Row x_13 p0.At.Col 0 h2.m h26) ?_)))))
 rintro v35 c34 l34 ⟨v27, u28, O31, rfl, h29⟩
 have p36 : Kp G0 [⟨.pointer (some ⟨b6, 0, none⟩), 43, [.slice a3 a4 a5, .int .i64 p0.At.Row, .int .i64 p0.At.Col, .bool p0.At.Pending, .bool p0.Auto], 0⟩, es true (RI .i64) v18 3 u15 ([2, 1, 3] : List Int)] c34 := (Kp.cons (O31.on 3 rfl) (Kp.cons (O31.on 1 rfl) Kp.nil0))
 refine ⟨.inr p36, ?_⟩
 obtain ⟨a37, a38, a39, rfl⟩ := (h29).form
 refine o1 12 (gD 12 (sA 43 [.slice a37 a38 a39, .int .i64 x_18.At.Row, .int .i64 x_18.At.Col, .bool x_18.At.Pending, .bool x_18.Auto] 3 O31 ⟨(h29).one, rfl, rfl, rfl, rfl, trivial⟩) ?_)
 rintro c41 l41 O40
 refine ⟨.inl rfl, dn (nrm (W.seq (sr (va (.int .i64 0) (wln (W.block (bn H fun o_23 h42 H43 => lp h42 (fun s_23 => Jn c41 fun c l => ∃ v44 u45, Own c G (es true R_api_Line v44 71 u45 s_23.2.1 :: es true (RI .i64) v18 3 u15 ([2, 1, 3] : List Int) :: ⟨.pointer (some ⟨b10, 0, none⟩), 43, [.slice none 0 0, .int .i64 0, .int .i64 0, .bool false, .bool false], 0⟩ :: ⟨.pointer (some ⟨b6, 0, none⟩), 43, [v44, .int .i64 s_23.2.2.1, .int .i64 s_23.2.2.2.1, .bool s_23.2.2.2.2.1, .bool s_23.2.2.2.2.2], 0⟩ :: F) ∧ l = [(1, .int .i64 p1), (2, .int .i64 p2), (3, .pointer (some ⟨b6, 0, none⟩)), (6, .pointer (some ⟨b10, 0, none⟩)), (8, .int .i64 s_23.1)] ∧ OA R_api_Line c v44 u45 s_23.2.1) (fun o_23_ ex e w => ex = .exit 0 ∧ (Jn c41 fun c l => ∃ v46 u47, Own c G (es true R_api_Line v46 71 u47 o_23_.1 :: es true (RI .i64) v18 3 u15 ([2, 1, 3] : List Int) :: ⟨.pointer (some ⟨b10, 0, none⟩), 43, [.slice none 0 0, .int .i64 0, .int .i64 0, .bool false, .bool false], 0⟩ :: ⟨.pointer (some ⟨b6, 0, none⟩), 43, [v46, .int .i64 o_23_.2.1, .int .i64 o_23_.2.2.1, .bool o_23_.2.2.2.1, .bool o_23_.2.2.2.2], 0⟩ :: F) ∧ l = [(3, .pointer (some ⟨b6, 0, none⟩)), (6, .pointer (some ⟨b10, 0, none⟩))] ∧ OA R_api_Line c v46 u47 o_23_.1) e w) ?_ ?_ ?_)))))))⟩
 ·clear H43 h42
  intro s_23 xx_ ee_ ww_ H
  revert ee_ ww_
  rintro e_ w_ ⟨c48, g49, _, rfl, l48, rfl, v44, u45, O50, rfl, h51⟩
  refine W.seq (W.seq (bn H fun d_29 h55 H => W.join (Jn c48 fun c l => Own c G (es true R_api_Line v44 71 u45 s_23.2.1 :: es true (RI .i64) v18 3 u15 ([2, 1, 3] : List Int) :: ⟨.pointer (some ⟨b10, 0, none⟩), 43, [.slice none 0 0, .int .i64 0, .int .i64 0, .bool false, .bool false], 0⟩ :: ⟨.pointer (some ⟨b6, 0, none⟩), 43, [v44, .int .i64 s_23.2.2.1, .int .i64 s_23.2.2.2.1, .bool s_23.2.2.2.2.1, .bool s_23.2.2.2.2.2], 0⟩ :: F) ∧ l = [(1, .int .i64 p1), (2, .int .i64 p2), (3, .pointer (some ⟨b6, 0, none⟩)), (6, .pointer (some ⟨b10, 0, none⟩)), (8, .int .i64 s_23.1), (30, .bool d_29)]) ?_ ?_))
  ·clear H
   refine W.region (va (.int .i64 s_23.1) (va (.pointer (some ⟨b6, 0, none⟩)) (vx (le1 0 underlying22 (O50.on 3 rfl)) (vx (lnO 3 underlying22 h51) (va (.bool (decide (s_23.1 < (s_23.2.1.length : Int)))) ?_)))))
   rcases bo (decide (s_23.1 < (s_23.2.1.length : Int))) with h56 | h56
   ·have H57 := anT h56 h55
    refine vb h56 (wn (va (.int .i64 p1) (wn (va (.bool (p1 == 4)) ?_))))
    obtain rfl := si H57
    exact va (.bool (p1 == 4)) (wln ⟨c48, _, _, rfl, pt, us, O50, rfl⟩)
   obtain rfl := anF h56 h55
   exact vb h56 (ps (ps (va (.bool false) (wln ⟨c48, _, _, rfl, pt, us, O50, rfl⟩))))
  rintro e_ w_ ⟨c58, g59, _, rfl, l58, rfl, O60, rfl⟩
  refine nrm (cn H (fun h64 H => ?_) (fun h64 H => ?_))
  ·refine W.skip (nrm (bn H fun z_34 H65 H66 => W.seqJ (Jn c58 fun c l => ∃ v67 u68, Own c G (es true R_api_Line v67 71 u68 z_34.1 :: es true (RI .i64) v18 3 u15 ([2, 1, 3] : List Int) :: ⟨.pointer (some ⟨b10, 0, none⟩), 43, [.slice none 0 0, .int .i64 0, .int .i64 0, .bool false, .bool false], 0⟩ :: ⟨.pointer (some ⟨b6, 0, none⟩), 43, [v67, .int .i64 z_34.2.1, .int .i64 z_34.2.2.1, .bool z_34.2.2.2.1, .bool z_34.2.2.2.2], 0⟩ :: F) ∧ l = [(1, .int .i64 p1), (2, .int .i64 p2), (3, .pointer (some ⟨b6, 0, none⟩)), (6, .pointer (some ⟨b10, 0, none⟩)), (8, .int .i64 s_23.1)] ∧ OA R_api_Line c v67 u68 z_34.1) ?_ ?_))
   ·refine W.block (W.seq (bn H65 fun d_37 h69 H65 => bn H65 fun d_48 h70 H65 => W.join (Jn c58 fun c l => Own c G (es true R_api_Line v44 71 u45 s_23.2.1 :: es true (RI .i64) v18 3 u15 ([2, 1, 3] : List Int) :: ⟨.pointer (some ⟨b10, 0, none⟩), 43, [.slice none 0 0, .int .i64 0, .int .i64 0, .bool false, .bool false], 0⟩ :: ⟨.pointer (some ⟨b6, 0, none⟩), 43, [v44, .int .i64 s_23.2.2.1, .int .i64 s_23.2.2.2.1, .bool s_23.2.2.2.2.1, .bool s_23.2.2.2.2.2], 0⟩ :: F) ∧ l = [(1, .int .i64 p1), (2, .int .i64 p2), (3, .pointer (some ⟨b6, 0, none⟩)), (6, .pointer (some ⟨b10, 0, none⟩)), (8, .int .i64 s_23.1), (56, .bool d_48)]) ?_ ?_))
    ·clear H65
     refine W.region (va (.int .i64 p2) (va (.bool (p2 == 2)) ?_))
     rcases bo (p2 == 2) with h71 | h71
     ·obtain rfl := orT h71 h69
      refine vb h71 (ps (ps (ps (ps (ps (ps (ps (ps (ps (va (.bool true) ?_))))))))))
      have h72 : true = true := rfl
      obtain rfl := orT h72 h70
      exact vb h72 (ps (ps (ps (ps (ps (ps (ps (ps (ps (va (.bool true) (wln ⟨c58, _, _, rfl, pt, us, O60, rfl⟩)))))))))))
     have H73 := orF h71 h69
     refine vb h71 (wn (va (.int .i64 p2) (wn (va (.bool (p2 == 0)) (wn (bn H73 fun d_41 h74 H73 => ?_))))))
     rcases bo (p2 == 0) with h75 | h75
     ·have H76 := anT h75 h74
      refine vb h75 (wn (va (.int .i64 s_23.1) (wn (va (.pointer (some ⟨b6, 1, none⟩)) (wn (va (.pointer (some ⟨b6, 1, none⟩)) (wn (vx (le1 1 underlying3 (O60.on 3 rfl)) (wn (va (.bool (decide (s_23.1 > s_23.2.2.1))) (wn ?_)))))))))))
      obtain rfl := si H76
      refine va (.bool (decide (s_23.1 > s_23.2.2.1))) ?_
      obtain rfl := si H73
      refine va (.bool (decide (s_23.1 > s_23.2.2.1))) ?_
      rcases bo (decide (s_23.1 > s_23.2.2.1)) with h77 | h77
      ·obtain rfl := orT h77 h70
       exact vb h77 (ps (ps (ps (ps (ps (ps (ps (ps (ps (va (.bool true) (wln ⟨c58, _, _, rfl, pt, us, O60, rfl⟩)))))))))))
      have H78 := orF h77 h70
      refine vb h77 (wn (va (.int .i64 p2) (wn (va (.bool (p2 == 1)) (wn (bn H78 fun d_52 h79 H78 => ?_))))))
      rcases bo (p2 == 1) with h80 | h80
      ·have H81 := anT h80 h79
       refine vb h80 (wn (va (.int .i64 s_23.1) (wn (va (.pointer (some ⟨b6, 1, none⟩)) (wn (va (.pointer (some ⟨b6, 1, none⟩)) (wn (vx (le1 1 underlying3 (O60.on 3 rfl)) (wn (va (.bool (decide (s_23.1 < s_23.2.2.1))) (wn ?_)))))))))))
       obtain rfl := si H81
       refine va (.bool (decide (s_23.1 < s_23.2.2.1))) ?_
       obtain rfl := si H78
       exact va (.bool (decide (s_23.1 < s_23.2.2.1))) (wln ⟨c58, _, _, rfl, pt, us, O60, rfl⟩)
      obtain rfl := anF h80 h79
      refine vb h80 (ps (ps (ps (ps (ps (wn (va (.bool false) ?_)))))))
      obtain rfl := si H78
      exact va (.bool false) (wln ⟨c58, _, _, rfl, pt, us, O60, rfl⟩)
     obtain rfl := anF h75 h74
     refine vb h75 (ps (ps (ps (ps (ps (wn (va (.bool false) ?_)))))))
     obtain rfl := si H73
     refine va (.bool false) ?_
     have h82 : false = false := rfl
     have H83 := orF h82 h70
     refine vb h82 (wn (va (.int .i64 p2) (wn (va (.bool (p2 == 1)) (wn (bn H83 fun d_52 h84 H83 => ?_))))))
     rcases bo (p2 == 1) with h85 | h85
     ·have H86 := anT h85 h84
      refine vb h85 (wn (va (.int .i64 s_23.1) (wn (va (.pointer (some ⟨b6, 1, none⟩)) (wn (va (.pointer (some ⟨b6, 1, none⟩)) (wn (vx (le1 1 underlying3 (O60.on 3 rfl)) (wn (va (.bool (decide (s_23.1 < s_23.2.2.1))) (wn ?_)))))))))))
      obtain rfl := si H86
      refine va (.bool (decide (s_23.1 < s_23.2.2.1))) ?_
      obtain rfl := si H83
      exact va (.bool (decide (s_23.1 < s_23.2.2.1))) (wln ⟨c58, _, _, rfl, pt, us, O60, rfl⟩)
     obtain rfl := anF h85 h84
     refine vb h85 (ps (ps (ps (ps (ps (wn (va (.bool false) ?_)))))))
     obtain rfl := si H83
     exact va (.bool false) (wln ⟨c58, _, _, rfl, pt, us, O60, rfl⟩)
    rintro e_ w_ ⟨c87, g88, _, rfl, l87, rfl, O89, rfl⟩
    refine nrm (cn H65 (fun h93 H65 => ?_) (fun h93 H65 => ?_))
    ·refine W.region (vx (leN 43 0 [v44, .int .i64 s_23.2.2.1, .int .i64 s_23.2.2.2.1, .bool s_23.2.2.2.2.1, .bool s_23.2.2.2.2.2] (O89.on 3 rfl)) (va (.int .i64 s_23.1) ?_))
     obtain ⟨c96, h97, l96, O94, h95⟩ := O89.frz 0 rfl (h51.mono (l58.trans l87))
     refine WL.gh h97 (bn H65 fun x_62 h98 H65 => cl (c_linotyperef38_act O94 (⟨s_23.2.1, (⟨s_23.2.2.1, s_23.2.2.2.1, s_23.2.2.2.2.1⟩ : G_api_Cursor), s_23.2.2.2.2.2⟩ : G_linotyperef34_Pen) s_23.1 3 0 0 h95 h98) ?_)
     rintro v107 c106 l106 ⟨v99, u100, O103, rfl, h101⟩
     obtain ⟨a108, a109, a110, rfl⟩ := (h101).form
     refine md (sA 43 [.slice a108 a109 a110, .int .i64 x_62.At.Row, .int .i64 x_62.At.Col, .bool x_62.At.Pending, .bool x_62.Auto] 4 O103 ⟨(h101).one, rfl, rfl, rfl, rfl, trivial⟩) ?_
     rintro c112 l112 O111
     refine WL.nil (bkn (nrm ?_))
     obtain rfl := si H65
     have O113 := O111.sD 5 [0, 2, 3, 4]
     exact ⟨c112, _, _, rfl, pt, us, (.slice a108 a109 a110), u100, O113, rfl, h101.m⟩
    refine W.skip (bkn (nrm ?_))
    obtain rfl := si H65
    exact ⟨c87, _, _, rfl, pt, us, v44, u45, O89, rfl, h51.m⟩
   rintro e_ w_ ⟨c114, g115, _, rfl, l114, rfl, v67, u68, O116, rfl, h117⟩
   refine W.region (va (.int .i64 s_23.1) (va (.int .i64 (w64 (s_23.1 + 1))) (va (.int .i64 (w64 (s_23.1 + 1))) (WL.nil ?_))))
   obtain rfl := si H66
   exact ⟨_, rfl, ⟨c114, _, _, rfl, pt, us, v67, u68, O116, rfl, h117⟩⟩
  refine W.exit (thx ?_)
  obtain rfl := si H
  exact ⟨_, rfl, rfl, ⟨c58, _, _, rfl, pt, us, v44, u45, O60, rfl, h51.m⟩⟩
 ·exact ⟨c41, _, _, rfl, pt, us, (.slice a37 a38 a39), u28, O40, rfl, h29.m⟩
 rintro _ e_ w_ ⟨rfl, c121, g122, _, rfl, l121, rfl, v46, u47, O123, rfl, h124⟩
 refine bke (nrm (sr (vx (leN 43 0 [v46, .int .i64 o_23.2.1, .int .i64 o_23.2.2.1, .bool o_23.2.2.2.1, .bool o_23.2.2.2.2] (O123.on 3 rfl)) ?_)))
 obtain ⟨a128, a129, a130, rfl⟩ := (h124).form
 refine md (sA 43 [.slice a128 a129 a130, .int .i64 o_23.2.1, .int .i64 o_23.2.2.1, .bool o_23.2.2.2.1, .bool o_23.2.2.2.2] 2 O123 ⟨(h124).one, rfl, rfl, rfl, rfl, trivial⟩) ?_
 rintro c132 l132 O131
 refine wln (W.ret ?_)
 obtain rfl := si H43
 have O133 := O131.sD 4 [0]
 exact retC (c := c132) (vs := [.slice a128 a129 a130, .int .i64 o_23.2.1, .int .i64 o_23.2.2.1, .bool o_23.2.2.2.1, .bool o_23.2.2.2.2]) rfl (by kernel_rfl) (by kernel_rfl) (by kernel_rfl) (O131.on 2 rfl _ rfl).1 ⟨_, c132, rfl, rfl, pt, (.slice a128 a129 a130), u47, O133, rfl, h124.m⟩
def f_linotyperef38_Do (p0 : G_linotyperef34_Pen) (p1 : G_api_Op) : Option (G_linotyperef34_Pen) :=
 (f_linotyperef34_Pen_Hold p0).bind fun x_6 =>
 (idx x_6.L x_6.At.Row).bind fun x_21 =>
 (if (p1.Kind == 2) = true then
 (f_linotyperef34_Pen_Wide (⟨x_6.L, (⟨x_6.At.Row, x_6.At.Col, false⟩ : G_api_Cursor), x_6.Auto⟩ : G_linotyperef34_Pen)).bind fun x_44 =>
 (f_linotyperef31_Hold (⟨p1.A, p1.B, false⟩ : G_api_Cursor) x_44 (x_6.L.length : Int)).bind fun x_45 =>
 (some (x_21.Cells, false, x_6.L, x_45.Row, x_45.Col, x_45.Pending, x_6.Auto) : Option ((List G_api_Cell) × Bool × (List G_api_Line) × Int × Int × Bool × Bool))
 else
 (if (p1.Kind == 3) = true then
 (some (p1.Kind == 3) : Option (Bool))
 else
 (some (p1.Kind == 4) : Option (Bool))).bind fun z_49 =>
 if z_49 = true then
 (f_linotyperef38_lines (⟨x_6.L, (⟨x_6.At.Row, x_6.At.Col, false⟩ : G_api_Cursor), x_6.Auto⟩ : G_linotyperef34_Pen) p1.Kind p1.A).bind fun x_61 =>
 (some (x_21.Cells, false, x_61.L, x_61.At.Row, x_61.At.Col, x_61.At.Pending, x_61.Auto) : Option ((List G_api_Cell) × Bool × (List G_api_Line) × Int × Int × Bool × Bool))
 else
 if (p1.Kind == 5) = true then
 (f_linotyperef38_act (⟨x_6.L, (⟨x_6.At.Row, x_6.At.Col, false⟩ : G_api_Cursor), x_6.Auto⟩ : G_linotyperef34_Pen) x_6.At.Row 4 x_6.At.Col p1.A).bind fun x_74 =>
 (some (x_21.Cells, false, x_74.L, x_74.At.Row, x_74.At.Col, x_74.At.Pending, x_74.Auto) : Option ((List G_api_Cell) × Bool × (List G_api_Line) × Int × Int × Bool × Bool))
 else
 if (p1.Kind == 6) = true then
 (f_linotyperef27_Insert x_21.Cells x_6.At.Col p1.A).bind fun x_86 =>
 (some (x_86.1, x_86.2, x_6.L, x_6.At.Row, x_6.At.Col, false, x_6.Auto) : Option ((List G_api_Cell) × Bool × (List G_api_Line) × Int × Int × Bool × Bool))
 else
 if (p1.Kind == 7) = true then
 (f_linotyperef27_Delete x_21.Cells x_6.At.Col p1.A).bind fun x_102 =>
 (some (x_102.1, x_102.2, x_6.L, x_6.At.Row, x_6.At.Col, false, x_6.Auto) : Option ((List G_api_Cell) × Bool × (List G_api_Line) × Int × Int × Bool × Bool))
 else
 (if (p1.Kind == 8) = true then
 (some (p1.Kind == 8) : Option (Bool))
 else
 (some (p1.Kind == 9) : Option (Bool))).bind fun z_109 =>
 if z_109 = true then
 (f_linotyperef33_Move x_6.L x_6.At.Row (x_6.L.length : Int) p1.A (p1.Kind == 9)).bind fun x_127 =>
 (some (x_21.Cells, false, x_127, x_6.At.Row, 0, false, x_6.Auto) : Option ((List G_api_Cell) × Bool × (List G_api_Line) × Int × Int × Bool × Bool))
 else
 (if (p1.Kind == 10) = true then
 (some (p1.Kind == 10) : Option (Bool))
 else
 (some (p1.Kind == 11) : Option (Bool))).bind fun z_135 =>
 if z_135 = true then
 (f_linotyperef33_Move x_6.L 0 (x_6.L.length : Int) p1.A (p1.Kind == 10)).bind fun x_152 =>
 (some (x_21.Cells, false, x_152, x_6.At.Row, x_6.At.Col, false, x_6.Auto) : Option ((List G_api_Cell) × Bool × (List G_api_Line) × Int × Int × Bool × Bool))
 else
 if (p1.Kind == 12) = true then
 (some (x_21.Cells, false, x_6.L, x_6.At.Row, x_6.At.Col, false, p1.A != 0) : Option ((List G_api_Cell) × Bool × (List G_api_Line) × Int × Int × Bool × Bool))
 else
 (some (x_21.Cells, false, x_6.L, x_6.At.Row, x_6.At.Col, false, x_6.Auto) : Option ((List G_api_Cell) × Bool × (List G_api_Line) × Int × Int × Bool × Bool))).bind fun z_28 =>
 (if z_28.2.1 = true then
 (f_linotyperef34_Pen_With (⟨z_28.2.2.1, (⟨z_28.2.2.2.1, z_28.2.2.2.2.1, z_28.2.2.2.2.2.1⟩ : G_api_Cursor), z_28.2.2.2.2.2.2⟩ : G_linotyperef34_Pen) x_6.At.Row (⟨z_28.1, false⟩ : G_api_Line)).bind fun x_172 =>
 (some (x_172.L, x_172.At.Row, x_172.At.Col, x_172.At.Pending, x_172.Auto) : Option ((List G_api_Line) × Int × Int × Bool × Bool))
 else
 (some (z_28.2.2.1, z_28.2.2.2.1, z_28.2.2.2.2.1, z_28.2.2.2.2.2.1, z_28.2.2.2.2.2.2) : Option ((List G_api_Line) × Int × Int × Bool × Bool))).bind fun z_165 =>
 some (⟨z_165.1, (⟨z_165.2.1, z_165.2.2.1, z_165.2.2.2.1⟩ : G_api_Cursor), z_165.2.2.2.2⟩ : G_linotyperef34_Pen)
theorem c_linotyperef38_Do (O0 : Own c0 G F) (p0 : G_linotyperef34_Pen) (p1 : G_api_Op) {r : G_linotyperef34_Pen} (h2 : Sl R_api_Line c0 v1 p0.L) (h4 : Sl (RI .u8) c0 v3 p1.Bytes) (H : f_linotyperef38_Do p0 p1 = some r) :
    Calls Tryz.prog 27 #[.agg #[v1, .int .i64 p0.At.Row, .int .i64 p0.At.Col, .bool p0.At.Pending, .bool p0.Auto], .agg #[.int .i64 p1.Kind, .int .i64 p1.A, .int .i64 p1.B, v3]] c0.w (Post c0 fun c v => ∃ y1, Own c G (F) ∧ v = .agg #[y1, .int .i64 r.At.Row, .int .i64 r.At.Col, .bool r.At.Pending, .bool r.Auto] ∧ Sl R_api_Line c y1 r.L) := by
 unfold f_linotyperef38_Do at H
 refine en func27 rfl rfl (sr ?_)
 obtain ⟨a5, a6, a7, rfl⟩ := (h2).form
 refine me (al 43 [.slice a5 a6 a7, .int .i64 p0.At.Row, .int .i64 p0.At.Col, .bool p0.At.Pending, .bool p0.Auto] O0) ?_
 rintro v11 c10 l10 ⟨b8, rfl, O9⟩
 obtain ⟨a12, a13, a14, rfl⟩ := ((h4.mono l10)).form
 refine me (bx 59 [.int .i64 p1.Kind, .int .i64 p1.A, .int .i64 p1.B, .slice a12 a13 a14] O9) ?_
 rintro v19 c18 l18 ⟨b15, rfl, O16, m17⟩
 refine me (al 43 [.slice none 0 0, .int .i64 0, .int .i64 0, .bool false, .bool false] O16) ?_
 rintro v23 c22 l22 ⟨b20, rfl, O21⟩
 refine wln (sr (vx (leN 43 0 [.slice a5 a6 a7, .int .i64 p0.At.Row, .int .i64 p0.At.Col, .bool p0.At.Pending, .bool p0.Auto] (O21.on 1 rfl)) (bn H fun x_6 h24 H => cl (c_linotyperef34_Pen_Hold O21 p0 h2.m h24) ?_)))
 rintro v32 c31 l31 ⟨v25, O28, rfl, h26⟩
 obtain ⟨a33, a34, a35, rfl⟩ := (h26).form
 refine md (sA 43 [.slice a33 a34 a35, .int .i64 x_6.At.Row, .int .i64 x_6.At.Col, .bool x_6.At.Pending, .bool x_6.Auto] 1 O28 ⟨h26.one, rfl, rfl, rfl, rfl, trivial⟩) ?_
 rintro c37 l37 O36
 refine wln (sr (va (.pointer (some ⟨b8, 1, none⟩)) (va (.pointer (some ⟨b8, 3, none⟩)) (md (sC 4 3 (.bool false) [.slice a33 a34 a35, .int .i64 x_6.At.Row, .int .i64 x_6.At.Col, .bool false, .bool x_6.Auto] 1 O36 ⟨rfl, trivial⟩) ?_))))
 rintro c39 l39 O38
 refine wln (sr (va (.pointer (some ⟨b8, 1, none⟩)) (va (.pointer (some ⟨b8, 1, none⟩)) (vx (le1 1 underlying3 (O38.on 1 rfl)) (va (.int .i64 x_6.At.Row) (wln (sr (va (.pointer (some ⟨b8, 0, none⟩)) (vx (le1 0 underlying22 (O38.on 1 rfl)) (va (.int .i64 x_6.At.Row) (bn H fun x_21 h40 H => ?_)))))))))))
 obtain ⟨l_41, h42, m43⟩ := Sl.at (h26.mono (l37.trans l39)) (idx_get h40)
 obtain ⟨v44, rfl, h45⟩ := h42
 refine vx (ix underlying22 h26.m h40) (va (.pointer (some ⟨sb (.slice a33 a34 a35), so (.slice a33 a34 a35) + x_6.At.Row.toNat * 2, none⟩)) (vx (l1 underlying69 (m43 0 _ rfl)) (va (v44) (wln (sr (va (.bool false) (wln (bn H fun z_28 H46 H47 => W.seqJ (Jn c39 fun c l => ∃ v48 v49, Own c G (⟨.pointer (some ⟨b20, 0, none⟩), 43, [.slice none 0 0, .int .i64 0, .int .i64 0, .bool false, .bool false], 0⟩ :: ⟨.pointer (some ⟨b8, 0, none⟩), 43, [v48, .int .i64 z_28.2.2.2.1, .int .i64 z_28.2.2.2.2.1, .bool z_28.2.2.2.2.2.1, .bool z_28.2.2.2.2.2.2], 0⟩ :: F) ∧ l = [(2, .pointer (some ⟨b8, 0, none⟩)), (4, .pointer (some ⟨b20, 0, none⟩)), (5, .int .i64 x_6.At.Row), (6, v49), (7, .bool z_28.2.1)] ∧ Sl R_api_Line c v48 z_28.2.2.1 ∧ Sl R_api_Cell c v49 z_28.1) ?_ ?_))))))))
 ·refine sr (va (.pointer (some ⟨b15, 0, none⟩)) (vx (l1 underlying3 ((mm m17) 0 _ rfl)) (wln (W.block (sr (va (.bool (p1.Kind == 2)) (va (.bool (p1.Kind == 2)) (wln (cn H46 (fun h50 H46 => ?_) (fun h50 H46 => ?_))))))))))
  ·refine rD [12] (Kp G0 [⟨.pointer (some ⟨b8, 0, none⟩), 43, [.slice a33 a34 a35, .int .i64 x_6.At.Row, .int .i64 x_6.At.Col, .bool false, .bool x_6.Auto], 0⟩]) O38 ?_
   intro c51 l51 O52
   have p53 : Kp G0 [⟨.pointer (some ⟨b8, 0, none⟩), 43, [.slice a33 a34 a35, .int .i64 x_6.At.Row, .int .i64 x_6.At.Col, .bool false, .bool x_6.Auto], 0⟩] c51 := (Kp.cons (O52.on 1 rfl) Kp.nil0)
   refine ta 0 (.pointer (some ⟨b15, 0 + 1, none⟩)) (tx 1 (fun c' hle => l1 underlying3 ((mm m17) 1 _ rfl)) (ta 2 (.pointer (some ⟨b15, 0 + 2, none⟩)) (tx 3 (fun c' hle => l1 underlying3 ((mm m17) 2 _ rfl)) (ta 4 (.agg #[.int .i64 p1.A, .int .i64 p1.B, .bool false]) (tkx 5 p53 (fun c' hle hk => leN 43 0 [.slice a33 a34 a35, .int .i64 x_6.At.Row, .int .i64 x_6.At.Col, .bool false, .bool x_6.Auto] (hk.on 0 rfl)) (ta 7 (.pointer (some ⟨b8, 0, none⟩)) (tkx 8 p53 (fun c' hle hk => le1 0 underlying22 (hk.on 0 rfl)) (tx 9 (fun c' hle => ln 3 underlying22 h26.m) (bn H46 fun x_44 h54 H46 => o1 6 (gc 6 (c_linotyperef34_Pen_Wide O52 (⟨x_6.L, (⟨x_6.At.Row, x_6.At.Col, false⟩ : G_api_Cursor), x_6.Auto⟩ : G_linotyperef34_Pen) h26.m h54) ?_))))))))))
   rintro v60 c59 l59 ⟨O56, rfl⟩
   have p61 : Kp G0 [⟨.pointer (some ⟨b8, 0, none⟩), 43, [.slice a33 a34 a35, .int .i64 x_6.At.Row, .int .i64 x_6.At.Col, .bool false, .bool x_6.Auto], 0⟩] c59 := (Kp.cons (O56.on 1 rfl) Kp.nil0)
   refine ⟨.inr p61, bn H46 fun x_45 h62 H46 => o1 10 (gc 10 (c_linotyperef31_Hold O56 (⟨p1.A, p1.B, false⟩ : G_api_Cursor) x_44 (x_6.L.length : Int) h62) ?_)⟩
   rintro v68 c67 l67 ⟨O64, rfl⟩
   have p69 : Kp G0 [⟨.pointer (some ⟨b8, 0, none⟩), 43, [.slice a33 a34 a35, .int .i64 x_6.At.Row, .int .i64 x_6.At.Col, .bool false, .bool x_6.Auto], 0⟩] c67 := (Kp.cons (O64.on 1 rfl) Kp.nil0)
   refine ⟨.inr p69, ta 11 (.pointer (some ⟨b8, 1, none⟩)) (o1 12 (gD 12 (sB 24 1 [.int .i64 x_45.Row, .int .i64 x_45.Col, .bool x_45.Pending] [.slice a33 a34 a35, .int .i64 x_45.Row, .int .i64 x_45.Col, .bool x_45.Pending, .bool x_6.Auto] 1 O64 ⟨rfl, rfl, rfl, trivial⟩) ?_))⟩
   rintro c71 l71 O70
   refine ⟨.inl rfl, dn (bkn (nrm ?_))⟩
   obtain rfl := si H46
   exact ⟨c71, _, _, rfl, pt, us, (.slice a33 a34 a35), v44, O70, rfl, h26.m, h45.m⟩
  refine bn H46 fun z_49 H72 H73 => W.seqJ (Jn c39 fun c l => Own c G (⟨.pointer (some ⟨b20, 0, none⟩), 43, [.slice none 0 0, .int .i64 0, .int .i64 0, .bool false, .bool false], 0⟩ :: ⟨.pointer (some ⟨b8, 0, none⟩), 43, [.slice a33 a34 a35, .int .i64 x_6.At.Row, .int .i64 x_6.At.Col, .bool false, .bool x_6.Auto], 0⟩ :: F) ∧ l = [(2, .pointer (some ⟨b8, 0, none⟩)), (3, .pointer (some ⟨b15, 0, none⟩)), (4, .pointer (some ⟨b20, 0, none⟩)), (5, .int .i64 x_6.At.Row), (6, v44), (7, .bool false), (22, .int .i64 p1.Kind), (37, .bool z_49)]) ?_ ?_
  ·refine sr (va (.bool (p1.Kind == 3)) (va (.bool (p1.Kind == 3)) (wln (cn H72 (fun h74 H72 => ?_) (fun h74 H72 => ?_)))))
   ·refine W.skip (nrm ?_)
    obtain rfl := si H72
    exact ⟨c39, _, _, rfl, pt, us, O38, rfl⟩
   refine W.region (va (.bool (p1.Kind == 4)) (va (.bool (p1.Kind == 4)) (wln ?_)))
   obtain rfl := si H72
   exact ⟨c39, _, _, rfl, pt, us, O38, rfl⟩
  rintro e_ w_ ⟨c75, g76, _, rfl, l75, rfl, O77, rfl⟩
  refine cn H73 (fun h81 H73 => ?_) (fun h81 H73 => ?_)
  ·refine W.region (vx (leN 43 0 [.slice a33 a34 a35, .int .i64 x_6.At.Row, .int .i64 x_6.At.Col, .bool false, .bool x_6.Auto] (O77.on 1 rfl)) (va (.pointer (some ⟨b15, 0, none⟩)) (vx (l1 underlying3 ((mm m17) 0 _ rfl)) (va (.pointer (some ⟨b15, 0 + 1, none⟩)) (vx (l1 underlying3 ((mm m17) 1 _ rfl)) (bn H73 fun x_61 h82 H73 => cl (c_linotyperef38_lines O77 (⟨x_6.L, (⟨x_6.At.Row, x_6.At.Col, false⟩ : G_api_Cursor), x_6.Auto⟩ : G_linotyperef34_Pen) p1.Kind p1.A h26.m h82) ?_))))))
   rintro v91 c90 l90 ⟨v83, u84, O87, rfl, h85⟩
   obtain ⟨a92, a93, a94, rfl⟩ := (h85).form
   refine md (sA 43 [.slice a92 a93 a94, .int .i64 x_61.At.Row, .int .i64 x_61.At.Col, .bool x_61.At.Pending, .bool x_61.Auto] 2 O87 ⟨(h85).one, rfl, rfl, rfl, rfl, trivial⟩) ?_
   rintro c96 l96 O95
   refine WL.nil (bkn (nrm ?_))
   obtain rfl := si H73
   obtain ⟨c99, h100, l99, O97, h98⟩ := O95.frz 0 rfl (h85.mono l96)
   have O101 := O97.sD 3 [1, 2]
   exact ⟨c99, _, _, h100.symm, pt, us, (.slice a92 a93 a94), v44, O101, rfl, h98, h45.m⟩
  refine sr (va (.bool (p1.Kind == 5)) (va (.bool (p1.Kind == 5)) (wln (cn H73 (fun h102 H73 => ?_) (fun h102 H73 => ?_)))))
  ·refine W.region (vx (leN 43 0 [.slice a33 a34 a35, .int .i64 x_6.At.Row, .int .i64 x_6.At.Col, .bool false, .bool x_6.Auto] (O77.on 1 rfl)) (va (.int .i64 x_6.At.Row) (va (.pointer (some ⟨b8, 1, none⟩)) (va (.pointer (some ⟨b8, 2, none⟩)) (vx (le1 2 underlying3 (O77.on 1 rfl)) (va (.pointer (some ⟨b15, 0 + 1, none⟩)) (vx (l1 underlying3 ((mm m17) 1 _ rfl)) (bn H73 fun x_74 h103 H73 => cl (c_linotyperef38_act O77 (⟨x_6.L, (⟨x_6.At.Row, x_6.At.Col, false⟩ : G_api_Cursor), x_6.Auto⟩ : G_linotyperef34_Pen) x_6.At.Row 4 x_6.At.Col p1.A h26.m h103) ?_))))))))
   rintro v112 c111 l111 ⟨v104, u105, O108, rfl, h106⟩
   obtain ⟨a113, a114, a115, rfl⟩ := (h106).form
   refine md (sA 43 [.slice a113 a114 a115, .int .i64 x_74.At.Row, .int .i64 x_74.At.Col, .bool x_74.At.Pending, .bool x_74.Auto] 2 O108 ⟨(h106).one, rfl, rfl, rfl, rfl, trivial⟩) ?_
   rintro c117 l117 O116
   refine WL.nil (bkn (nrm ?_))
   obtain rfl := si H73
   obtain ⟨c120, h121, l120, O118, h119⟩ := O116.frz 0 rfl (h106.mono l117)
   have O122 := O118.sD 3 [1, 2]
   exact ⟨c120, _, _, h121.symm, pt, us, (.slice a113 a114 a115), v44, O122, rfl, h119, h45.m⟩
  refine sr (va (.bool (p1.Kind == 6)) (va (.bool (p1.Kind == 6)) (wln (cn H73 (fun h123 H73 => ?_) (fun h123 H73 => ?_)))))
  ·refine W.region (va (v44) (va (.pointer (some ⟨b8, 1, none⟩)) (va (.pointer (some ⟨b8, 2, none⟩)) (vx (le1 2 underlying3 (O77.on 1 rfl)) (va (.pointer (some ⟨b15, 0 + 1, none⟩)) (vx (l1 underlying3 ((mm m17) 1 _ rfl)) (bn H73 fun x_86 h124 H73 => cl (c_linotyperef27_Insert O77 x_21.Cells x_6.At.Col p1.A h45.m h124) ?_)))))))
   rintro v132 c131 l131 ⟨v125, O128, rfl, h126⟩
   refine va (.tuple #[v125, .bool x_86.2]) (va (v125) (va (.bool x_86.2) (va (v125) (va (.bool x_86.2) (WL.nil (bkn (nrm ?_)))))))
   obtain rfl := si H73
   exact ⟨c131, _, _, rfl, pt, us, (.slice a33 a34 a35), v125, O128, rfl, h26.m, h126⟩
  refine sr (va (.bool (p1.Kind == 7)) (va (.bool (p1.Kind == 7)) (wln (cn H73 (fun h133 H73 => ?_) (fun h133 H73 => ?_)))))
  ·refine W.region (va (v44) (va (.pointer (some ⟨b8, 1, none⟩)) (va (.pointer (some ⟨b8, 2, none⟩)) (vx (le1 2 underlying3 (O77.on 1 rfl)) (va (.pointer (some ⟨b15, 0 + 1, none⟩)) (vx (l1 underlying3 ((mm m17) 1 _ rfl)) (bn H73 fun x_102 h134 H73 => cl (c_linotyperef27_Delete O77 x_21.Cells x_6.At.Col p1.A h45.m h134) ?_)))))))
   rintro v142 c141 l141 ⟨v135, O138, rfl, h136⟩
   refine va (.tuple #[v135, .bool x_102.2]) (va (v135) (va (.bool x_102.2) (va (v135) (va (.bool x_102.2) (WL.nil (bkn (nrm ?_)))))))
   obtain rfl := si H73
   exact ⟨c141, _, _, rfl, pt, us, (.slice a33 a34 a35), v135, O138, rfl, h26.m, h136⟩
  refine bn H73 fun z_109 H143 H144 => W.seqJ (Jn c75 fun c l => Own c G (⟨.pointer (some ⟨b20, 0, none⟩), 43, [.slice none 0 0, .int .i64 0, .int .i64 0, .bool false, .bool false], 0⟩ :: ⟨.pointer (some ⟨b8, 0, none⟩), 43, [.slice a33 a34 a35, .int .i64 x_6.At.Row, .int .i64 x_6.At.Col, .bool false, .bool x_6.Auto], 0⟩ :: F) ∧ l = [(2, .pointer (some ⟨b8, 0, none⟩)), (3, .pointer (some ⟨b15, 0, none⟩)), (4, .pointer (some ⟨b20, 0, none⟩)), (5, .int .i64 x_6.At.Row), (6, v44), (7, .bool false), (22, .int .i64 p1.Kind), (80, .bool z_109)]) ?_ ?_
  ·refine sr (va (.bool (p1.Kind == 8)) (va (.bool (p1.Kind == 8)) (wln (cn H143 (fun h145 H143 => ?_) (fun h145 H143 => ?_)))))
   ·refine W.skip (nrm ?_)
    obtain rfl := si H143
    exact ⟨c75, _, _, rfl, pt, us, O77, rfl⟩
   refine W.region (va (.bool (p1.Kind == 9)) (va (.bool (p1.Kind == 9)) (wln ?_)))
   obtain rfl := si H143
   exact ⟨c75, _, _, rfl, pt, us, O77, rfl⟩
  rintro e_ w_ ⟨c146, g147, _, rfl, l146, rfl, O148, rfl⟩
  refine cn H144 (fun h152 H144 => ?_) (fun h152 H144 => ?_)
  ·refine sr (va (.pointer (some ⟨b8, 0, none⟩)) (vx (le1 0 underlying22 (O148.on 1 rfl)) (va (.int .i64 x_6.At.Row) (va (.pointer (some ⟨b8, 0, none⟩)) (vx (le1 0 underlying22 (O148.on 1 rfl)) (vx (ln 3 underlying22 h26.m) (va (.pointer (some ⟨b15, 0 + 1, none⟩)) (vx (l1 underlying3 ((mm m17) 1 _ rfl)) (va (.pointer (some ⟨b15, 0, none⟩)) (vx (l1 underlying3 ((mm m17) 0 _ rfl)) (va (.bool (p1.Kind == 9)) (bn H144 fun x_127 h153 H144 => cl (c_linotyperef33_Move O148 x_6.L x_6.At.Row (x_6.L.length : Int) p1.A (p1.Kind == 9) h26.m h153) ?_))))))))))))
   rintro v154 c160 l160 ⟨_, O157, rfl, h155⟩
   refine va (.pointer (some ⟨b8, 0, none⟩)) ?_
   obtain ⟨a162, a163, a164, rfl⟩ := (h155).form
   refine md (sC 22 0 (.slice a162 a163 a164) [.slice a162 a163 a164, .int .i64 x_6.At.Row, .int .i64 x_6.At.Col, .bool false, .bool x_6.Auto] 1 O157 ⟨h155.one, trivial⟩) ?_
   rintro c166 l166 O165
   refine wln (W.region (va (.pointer (some ⟨b8, 1, none⟩)) (va (.pointer (some ⟨b8, 2, none⟩)) (md (sC 3 2 (.int .i64 0) [.slice a162 a163 a164, .int .i64 x_6.At.Row, .int .i64 0, .bool false, .bool x_6.Auto] 1 O165 ⟨rfl, trivial⟩) ?_))))
   rintro c168 l168 O167
   refine WL.nil (bkn (nrm ?_))
   obtain rfl := si H144
   exact ⟨c168, _, _, rfl, pt, us, (.slice a162 a163 a164), v44, O167, rfl, h155.m, h45.m⟩
  refine bn H144 fun z_135 H169 H170 => W.seqJ (Jn c146 fun c l => Own c G (⟨.pointer (some ⟨b20, 0, none⟩), 43, [.slice none 0 0, .int .i64 0, .int .i64 0, .bool false, .bool false], 0⟩ :: ⟨.pointer (some ⟨b8, 0, none⟩), 43, [.slice a33 a34 a35, .int .i64 x_6.At.Row, .int .i64 x_6.At.Col, .bool false, .bool x_6.Auto], 0⟩ :: F) ∧ l = [(2, .pointer (some ⟨b8, 0, none⟩)), (3, .pointer (some ⟨b15, 0, none⟩)), (4, .pointer (some ⟨b20, 0, none⟩)), (5, .int .i64 x_6.At.Row), (6, v44), (7, .bool false), (22, .int .i64 p1.Kind), (98, .bool z_135)]) ?_ ?_
  ·refine sr (va (.bool (p1.Kind == 10)) (va (.bool (p1.Kind == 10)) (wln (cn H169 (fun h171 H169 => ?_) (fun h171 H169 => ?_)))))
   ·refine W.skip (nrm ?_)
    obtain rfl := si H169
    exact ⟨c146, _, _, rfl, pt, us, O148, rfl⟩
   refine W.region (va (.bool (p1.Kind == 11)) (va (.bool (p1.Kind == 11)) (wln ?_)))
   obtain rfl := si H169
   exact ⟨c146, _, _, rfl, pt, us, O148, rfl⟩
  rintro e_ w_ ⟨c172, g173, _, rfl, l172, rfl, O174, rfl⟩
  refine cn H170 (fun h178 H170 => ?_) (fun h178 H170 => ?_)
  ·refine W.region (va (.pointer (some ⟨b8, 0, none⟩)) (vx (le1 0 underlying22 (O174.on 1 rfl)) (va (.pointer (some ⟨b8, 0, none⟩)) (vx (le1 0 underlying22 (O174.on 1 rfl)) (vx (ln 3 underlying22 h26.m) (va (.pointer (some ⟨b15, 0 + 1, none⟩)) (vx (l1 underlying3 ((mm m17) 1 _ rfl)) (va (.pointer (some ⟨b15, 0, none⟩)) (vx (l1 underlying3 ((mm m17) 0 _ rfl)) (va (.bool (p1.Kind == 10)) (bn H170 fun x_152 h179 H170 => cl (c_linotyperef33_Move O174 x_6.L 0 (x_6.L.length : Int) p1.A (p1.Kind == 10) h26.m h179) ?_)))))))))))
   rintro v180 c186 l186 ⟨_, O183, rfl, h181⟩
   refine va (.pointer (some ⟨b8, 0, none⟩)) ?_
   obtain ⟨a188, a189, a190, rfl⟩ := (h181).form
   refine md (sC 22 0 (.slice a188 a189 a190) [.slice a188 a189 a190, .int .i64 x_6.At.Row, .int .i64 x_6.At.Col, .bool false, .bool x_6.Auto] 1 O183 ⟨h181.one, trivial⟩) ?_
   rintro c192 l192 O191
   refine WL.nil (bkn (nrm ?_))
   obtain rfl := si H170
   exact ⟨c192, _, _, rfl, pt, us, (.slice a188 a189 a190), v44, O191, rfl, h181.m, h45.m⟩
  refine sr (va (.bool (p1.Kind == 12)) (va (.bool (p1.Kind == 12)) (wln (cn H170 (fun h193 H170 => ?_) (fun h193 H170 => ?_)))))
  ·refine W.region (va (.pointer (some ⟨b15, 0 + 1, none⟩)) (vx (l1 underlying3 ((mm m17) 1 _ rfl)) (va (.bool (p1.A != 0)) (va (.pointer (some ⟨b8, 4, none⟩)) (md (sC 4 4 (.bool (p1.A != 0)) [.slice a33 a34 a35, .int .i64 x_6.At.Row, .int .i64 x_6.At.Col, .bool false, .bool (p1.A != 0)] 1 O174 ⟨rfl, trivial⟩) ?_)))))
   rintro c195 l195 O194
   refine WL.nil (bkn (nrm ?_))
   obtain rfl := si H170
   exact ⟨c195, _, _, rfl, pt, us, (.slice a33 a34 a35), v44, O194, rfl, h26.m, h45.m⟩
  refine W.skip (bkn (nrm ?_))
  obtain rfl := si H170
  exact ⟨c172, _, _, rfl, pt, us, (.slice a33 a34 a35), v44, O174, rfl, h26.m, h45.m⟩
 rintro e_ w_ ⟨c196, g197, _, rfl, l196, rfl, v48, v49, O198, rfl, h199, h200⟩
 refine bn H47 fun z_165 H204 H205 => W.seqJ (Jn c196 fun c l => ∃ v206, Own c G (⟨.pointer (some ⟨b20, 0, none⟩), 43, [.slice none 0 0, .int .i64 0, .int .i64 0, .bool false, .bool false], 0⟩ :: ⟨.pointer (some ⟨b8, 0, none⟩), 43, [v206, .int .i64 z_165.2.1, .int .i64 z_165.2.2.1, .bool z_165.2.2.2.1, .bool z_165.2.2.2.2], 0⟩ :: F) ∧ l = [(2, .pointer (some ⟨b8, 0, none⟩)), (4, .pointer (some ⟨b20, 0, none⟩))] ∧ Sl R_api_Line c v206 z_165.1) ?_ ?_
 ·refine sr (va (.bool z_28.2.1) (wln (cn H204 (fun h207 H204 => ?_) (fun h207 H204 => ?_))))
  ·refine W.region (vx (leN 43 0 [v48, .int .i64 z_28.2.2.2.1, .int .i64 z_28.2.2.2.2.1, .bool z_28.2.2.2.2.2.1, .bool z_28.2.2.2.2.2.2] (O198.on 1 rfl)) (va (.int .i64 x_6.At.Row) (va (v49) ?_)))
   obtain ⟨a208, a209, a210, rfl⟩ := (h200).form
   refine va (.agg #[.slice a208 a209 a210, .bool false]) (bn H204 fun x_172 h211 H204 => cl (c_linotyperef34_Pen_With O198 (⟨z_28.2.2.1, (⟨z_28.2.2.2.1, z_28.2.2.2.2.1, z_28.2.2.2.2.2.1⟩ : G_api_Cursor), z_28.2.2.2.2.2.2⟩ : G_linotyperef34_Pen) x_6.At.Row (⟨z_28.1, false⟩ : G_api_Line) h199 h200 h211) ?_)
   rintro v220 c219 l219 ⟨v212, u213, O216, rfl, h214⟩
   obtain ⟨a221, a222, a223, rfl⟩ := (h214).form
   refine md (sA 43 [.slice a221 a222 a223, .int .i64 x_172.At.Row, .int .i64 x_172.At.Col, .bool x_172.At.Pending, .bool x_172.Auto] 2 O216 ⟨(h214).one, rfl, rfl, rfl, rfl, trivial⟩) ?_
   rintro c225 l225 O224
   refine wln ?_
   obtain rfl := si H204
   obtain ⟨c228, h229, l228, O226, h227⟩ := O224.frz 0 rfl (h214.mono l225)
   have O230 := O226.sD 3 [1, 2]
   exact ⟨c228, _, _, h229.symm, pt, us, (.slice a221 a222 a223), O230, rfl, h227⟩
  refine W.skip (nrm ?_)
  obtain rfl := si H204
  exact ⟨c196, _, _, rfl, pt, us, v48, O198, rfl, h199⟩
 rintro e_ w_ ⟨c231, g232, _, rfl, l231, rfl, v206, O233, rfl, h234⟩
 refine sr (vx (leN 43 0 [v206, .int .i64 z_165.2.1, .int .i64 z_165.2.2.1, .bool z_165.2.2.2.1, .bool z_165.2.2.2.2] (O233.on 1 rfl)) ?_)
 obtain ⟨a238, a239, a240, rfl⟩ := (h234).form
 refine md (sA 43 [.slice a238 a239 a240, .int .i64 z_165.2.1, .int .i64 z_165.2.2.1, .bool z_165.2.2.2.1, .bool z_165.2.2.2.2] 0 O233 ⟨h234.one, rfl, rfl, rfl, rfl, trivial⟩) ?_
 rintro c242 l242 O241
 refine wln (W.ret ?_)
 obtain rfl := si H205
 have O243 := O241.sD 2 []
 exact retC (c := c242) (vs := [.slice a238 a239 a240, .int .i64 z_165.2.1, .int .i64 z_165.2.2.1, .bool z_165.2.2.2.1, .bool z_165.2.2.2.2]) rfl (by kernel_rfl) (by kernel_rfl) (by kernel_rfl) (O241.on 0 rfl _ rfl).1 ⟨_, c242, rfl, rfl, pt, (.slice a238 a239 a240), O243, rfl, h234.m⟩
def f_api_Code (p0 : Er) : Option (Int) :=
 if p0.isNil = true then
 some 0
 else
 (f_errors_Is p0 (Er.sent 1)).bind fun x_11 =>
 if x_11 = true then
 some 1
 else
 (f_errors_Is p0 (Er.sent 2)).bind fun x_18 =>
 if x_18 = true then
 some 2
 else
 (f_errors_Is p0 (Er.sent 0)).bind fun x_25 =>
 if x_25 = true then
 some 3
 else
 (f_errors_Is p0 (Er.sent 3)).bind fun x_32 =>
 if x_32 = true then
 some 4
 else
 (f_errors_Is p0 (Er.sent 4)).bind fun x_39 =>
 if x_39 = true then
 some 5
 else
 (f_errors_Is p0 (Er.sent 5)).bind fun x_46 =>
 if x_46 = true then
 some 6
 else
 (f_errors_Is p0 (Er.sent 6)).bind fun x_53 =>
 if x_53 = true then
 some 7
 else
 (f_errors_Is p0 (Er.sent 7)).bind fun x_60 =>
 if x_60 = true then
 some 8
 else
 some 9
theorem c_api_Code (O0 : Own c0 G F) (hG : Gl [0, 1, 2, 3, 4, 5, 6, 7] c0) (p0 : Er) {r : Int} (h2 : RE 305 179 c0 v1 p0) (H : f_api_Code p0 = some r) :
    Calls Tryz.prog 28 #[v1] c0.w (Post c0 fun c v => Own c G (F) ∧ v = .int .i64 r) := by
 unfold f_api_Code at H
 refine en func28 rfl rfl (sr (va (.int .i64 0) (wln (W.seq (W.block (sr (va (v1) (vr (.bool p0.isNil) (by rcases (h2).cs with ⟨h1_, h2_⟩ | ⟨b_, h1_, h2_⟩ | ⟨b_, h1_, h2_⟩ <;> (subst h1_; rw [h2_]; kernel_rfl)) (va (.bool p0.isNil) (wln (cn H (fun h3 H => ?_) (fun h3 H => ?_))))))))))))
 ·refine sr (va (.int .i64 0) (wln (W.ret (bkr (thr ?_)))))
  obtain rfl := si H
  exact r1 ⟨_, c0, rfl, rfl, pt, O0, rfl⟩
 refine sr (va (v1) ?_)
 obtain ⟨v4, h5⟩ := hG.get 1 (by decide)
 refine vx (l1 underlying37 h5.im) (bn H fun x_11 h6 H => cl (c_errors_Is O0 (hG.le (by decide)) p0 (Er.sent 1) h2 h5 h6) ?_)
 rintro v12 c11 l11 ⟨O8, rfl⟩
 refine va (.bool x_11) (wln (cn H (fun h13 H => ?_) (fun h13 H => ?_)))
 ·refine sr (va (.int .i64 1) (wln (W.ret (bkr (thr ?_)))))
  obtain rfl := si H
  exact r1 ⟨_, c11, rfl, rfl, pt, O8, rfl⟩
 refine sr (va (v1) ?_)
 obtain ⟨v14, h15⟩ := (hG.mono l11).get 2 (by decide)
 refine vx (l1 underlying37 h15.im) (bn H fun x_18 h16 H => cl (c_errors_Is O8 (hG.m.le (by decide)) p0 (Er.sent 2) h2.m h15 h16) ?_)
 rintro v22 c21 l21 ⟨O18, rfl⟩
 refine va (.bool x_18) (wln (cn H (fun h23 H => ?_) (fun h23 H => ?_)))
 ·refine sr (va (.int .i64 2) (wln (W.ret (bkr (thr ?_)))))
  obtain rfl := si H
  exact r1 ⟨_, c21, rfl, rfl, pt, O18, rfl⟩
 refine sr (va (v1) ?_)
 obtain ⟨v24, h25⟩ := (hG.mono (l11.trans l21)).get 0 (by decide)
 refine vx (l1 underlying37 h25.im) (bn H fun x_25 h26 H => cl (c_errors_Is O18 (hG.m.le (by decide)) p0 (Er.sent 0) h2.m h25 h26) ?_)
 rintro v32 c31 l31 ⟨O28, rfl⟩
 refine va (.bool x_25) (wln (cn H (fun h33 H => ?_) (fun h33 H => ?_)))
 ·refine sr (va (.int .i64 3) (wln (W.ret (bkr (thr ?_)))))
  obtain rfl := si H
  exact r1 ⟨_, c31, rfl, rfl, pt, O28, rfl⟩
 refine sr (va (v1) ?_)
 obtain ⟨v34, h35⟩ := (hG.mono (l11.trans (l21.trans l31))).get 3 (by decide)
 refine vx (l1 underlying37 h35.im) (bn H fun x_32 h36 H => cl (c_errors_Is O28 (hG.m.le (by decide)) p0 (Er.sent 3) h2.m h35 h36) ?_)
 rintro v42 c41 l41 ⟨O38, rfl⟩
 refine va (.bool x_32) (wln (cn H (fun h43 H => ?_) (fun h43 H => ?_)))
 ·refine sr (va (.int .i64 4) (wln (W.ret (bkr (thr ?_)))))
  obtain rfl := si H
  exact r1 ⟨_, c41, rfl, rfl, pt, O38, rfl⟩
 refine sr (va (v1) ?_)
 obtain ⟨v44, h45⟩ := (hG.mono (l11.trans (l21.trans (l31.trans l41)))).get 4 (by decide)
 refine vx (l1 underlying37 h45.im) (bn H fun x_39 h46 H => cl (c_errors_Is O38 (hG.m.le (by decide)) p0 (Er.sent 4) h2.m h45 h46) ?_)
 rintro v52 c51 l51 ⟨O48, rfl⟩
 refine va (.bool x_39) (wln (cn H (fun h53 H => ?_) (fun h53 H => ?_)))
 ·refine sr (va (.int .i64 5) (wln (W.ret (bkr (thr ?_)))))
  obtain rfl := si H
  exact r1 ⟨_, c51, rfl, rfl, pt, O48, rfl⟩
 refine sr (va (v1) ?_)
 obtain ⟨v54, h55⟩ := (hG.mono (l11.trans (l21.trans (l31.trans (l41.trans l51))))).get 5 (by decide)
 refine vx (l1 underlying37 h55.im) (bn H fun x_46 h56 H => cl (c_errors_Is O48 (hG.m.le (by decide)) p0 (Er.sent 5) h2.m h55 h56) ?_)
 rintro v62 c61 l61 ⟨O58, rfl⟩
 refine va (.bool x_46) (wln (cn H (fun h63 H => ?_) (fun h63 H => ?_)))
 ·refine sr (va (.int .i64 6) (wln (W.ret (bkr (thr ?_)))))
  obtain rfl := si H
  exact r1 ⟨_, c61, rfl, rfl, pt, O58, rfl⟩
 refine sr (va (v1) ?_)
 obtain ⟨v64, h65⟩ := (hG.mono (l11.trans (l21.trans (l31.trans (l41.trans (l51.trans l61)))))).get 6 (by decide)
 refine vx (l1 underlying37 h65.im) (bn H fun x_53 h66 H => cl (c_errors_Is O58 (hG.m.le (by decide)) p0 (Er.sent 6) h2.m h65 h66) ?_)
 rintro v72 c71 l71 ⟨O68, rfl⟩
 refine va (.bool x_53) (wln (cn H (fun h73 H => ?_) (fun h73 H => ?_)))
 ·refine sr (va (.int .i64 7) (wln (W.ret (bkr (thr ?_)))))
  obtain rfl := si H
  exact r1 ⟨_, c71, rfl, rfl, pt, O68, rfl⟩
 refine sr (va (v1) ?_)
 obtain ⟨v74, h75⟩ := (hG.mono (l11.trans (l21.trans (l31.trans (l41.trans (l51.trans (l61.trans l71))))))).get 7 (by decide)
 refine vx (l1 underlying37 h75.im) (bn H fun x_60 h76 H => cl (c_errors_Is O68 (hG.m.le (by decide)) p0 (Er.sent 7) h2.m h75 h76) ?_)
 rintro v82 c81 l81 ⟨O78, rfl⟩
 refine va (.bool x_60) (wln (cn H (fun h83 H => ?_) (fun h83 H => ?_)))
 ·refine sr (va (.int .i64 8) (wln (W.ret (bkr (thr ?_)))))
  obtain rfl := si H
  exact r1 ⟨_, c81, rfl, rfl, pt, O78, rfl⟩
 refine W.skip (bkn (nrm (sr (va (.int .i64 9) (wln (W.ret ?_))))))
 obtain rfl := si H
 exact r1 ⟨_, c81, rfl, rfl, pt, O78, rfl⟩
def f_cursor_Right (p0 : G_api_Cursor) (p1 : Int) (p2 : Int) : Option (Bool) :=
 (f_cursor_Hold p0 p1 p2).bind fun x_8 =>
 some (p0.Row == x_8.Row && (p0.Col == x_8.Col && (p0.Pending == x_8.Pending && true)))
theorem c_cursor_Right (O0 : Own c0 G F) (p0 : G_api_Cursor) (p1 : Int) (p2 : Int) {r : Bool} (H : f_cursor_Right p0 p1 p2 = some r) :
    Calls Tryz.prog 32 #[.agg #[.int .i64 p0.Row, .int .i64 p0.Col, .bool p0.Pending], .int .i64 p1, .int .i64 p2] c0.w (Post c0 fun c v => Own c G (F) ∧ v = .bool r) := by
 unfold f_cursor_Right at H
 refine en func32 rfl rfl (sr (me (bx 24 [.int .i64 p0.Row, .int .i64 p0.Col, .bool p0.Pending] O0) ?_))
 rintro v5 c4 l4 ⟨b1, rfl, O2, m3⟩
 refine va (.bool false) (wln (W.seq (rD [] (Kp G0 []) O2 ?_)))
 intro c6 l6 O7
 have p8 : Kp G0 [] c6 := Kp.nil0
 refine tx 0 (fun c' hle => lN 24 (mm m3)) (tx 1 (fun c' hle => lN 24 (mm m3)) (ta 2 (.int .i64 p1) (ta 3 (.int .i64 p2) (bn H fun x_8 h9 H => o1 4 (gc 4 (c_cursor_Hold O7 p0 p1 p2 h9) ?_)))))
 rintro v15 c14 l14 ⟨O11, rfl⟩
 have p16 : Kp G0 [] c14 := Kp.nil0
 refine ⟨.inr p16, AC.take 5 (.bool (p0.Row == x_8.Row && (p0.Col == x_8.Col && (p0.Pending == x_8.Pending && true)))) rfl (by kernel_rfl) (by kernel_rfl) (fun c' hle => (run_eqlA (T := 24) (xs := #[.int .i64 p0.Row, .int .i64 p0.Col, .bool p0.Pending]) (ys := #[.int .i64 x_8.Row, .int .i64 x_8.Col, .bool x_8.Pending]) (r := (p0.Row == x_8.Row && (p0.Col == x_8.Col && (p0.Pending == x_8.Pending && true)))) underlying24 (by kernel_rfl) (by kernel_rfl) (EqP.int (by kernel_rfl) underlying3 rfl rfl (EqP.int (by kernel_rfl) underlying3 rfl rfl (EqP.bool (by kernel_rfl) underlying4 rfl rfl EqP.nil))) (by kernel_rfl) _)) (ta 6 (.bool (p0.Row == x_8.Row && (p0.Col == x_8.Col && (p0.Pending == x_8.Pending && true)))) (dn (nrm (W.ret ?_))))⟩
 obtain rfl := si H
 exact r1 ⟨_, c14, rfl, rfl, pt, O11, rfl⟩
def f_linotypelaw38_works (sg : Sto) : Option (Sto × Bool) :=
 (f_place_New sg 3 2).bind fun x_3 =>
 if x_3.2.isNone = true then
 some (x_3.1, false)
 else
 (f_place_Pen_Put x_3.1 x_3.2 1 ([97] : List Int)).bind fun x_13 =>
 (f_edit_Do x_13.1 x_3.2 (⟨2, 9, 9, ([] : List Int)⟩ : G_api_Op)).bind fun x_17 =>
 (andE x_17.2.isNil ((x_3.2).bind fun k_22 =>
 (x_17.1.place_Pen[k_22]?).bind fun o_24 =>
 some (o_24.At.Row == 1 && (o_24.At.Col == 2 && (o_24.At.Pending == false && true))))).bind fun d_19 =>
 (andE d_19 ((f_edit_Wrong (⟨3, 3, 0, ([] : List Int)⟩ : G_api_Op)).bind fun x_30 =>
 (f_api_Code x_30).bind fun x_31 =>
 some (x_31 == 3))).bind fun d_27 =>
 (andE d_27 ((f_edit_Does 13).bind fun x_35 =>
 some (!x_35))).bind fun d_33 =>
 some (x_17.1, d_33)
theorem c_linotypelaw38_works (O0 : Own c0 G F) (R0 : Rel c0 sg G) (hG : Gl [0, 1, 2, 3, 4, 5, 6, 7] c0) {r : Sto × Bool} (H : f_linotypelaw38_works sg = some r) :
    Calls Tryz.prog 25 #[] c0.w (Post c0 fun c v => ∃ G_ : Gm, Own c G_ (F) ∧ Rel c r.1 G_ ∧ v = .bool r.2) := by
 unfold f_linotypelaw38_works at H
 refine en func25 rfl rfl (sr (va (.bool false) (wln (sr (bn H fun x_3 h1 H => cl (c_place_New O0 R0 3 2 h1) ?_)))))
 rintro v2 c8 l8 ⟨_, G4, O5, R6, a7, rfl, h3⟩
 refine va (v2) (wln (W.seq (sr (va (v2) (vr (.bool x_3.2.isNone) (by rcases (h3).cs with ⟨h1_, h2_⟩ | ⟨b_, h1_, h2_⟩ <;> (subst h1_; rw [h2_]; kernel_rfl)) (wln (cn H (fun h10 H => ?_) (fun h10 H => ?_))))))))
 ·refine sr (va (.bool false) (wln (W.ret (thr ?_))))
  obtain rfl := si H
  exact r1 ⟨_, c8, rfl, rfl, pt, G4, O5, R6, rfl⟩
 refine W.skip (nrm (sr (va (v2) (me (sl (RI .i32) 21 [[.int .i32 97]] ([97] : List Int) O5 ⟨rfl, trivial⟩) ?_))))
 rintro v15 c14 l14 ⟨u12, O11, h13⟩
 obtain ⟨c18, h19, l18, O16, h17⟩ := O11.frz 0 rfl h13
 refine WL.gh h19 (bn H fun x_13 h20 H => cl (c_place_Pen_Put O16 R6.m (hG.m.le (by decide)) x_3.2 1 ([97] : List Int) h3.m h17 h20) ?_)
 rintro v26 c25 l25 ⟨G21, O22, R23, rfl⟩
 refine wln (W.seq (bn H fun x_17 h27 H => bn H fun d_19 h28 H => bn H fun d_27 h29 H => bn H fun d_33 h30 H => W.join (Jn c25 fun c l => ∃ G_, Own c G_ (es false (RI .i32) v15 21 u12 ([97] : List Int) :: F) ∧ l = [(0, .bool d_33)] ∧ Rel c x_17.1 G_) ?_ ?_))
 ·clear H
  refine W.region (va (v2) (va (.agg #[.int .i64 2, .int .i64 9, .int .i64 9, .slice none 0 0]) (cl (c_edit_Do O22 R23 (hG.m.le (by decide)) x_3.2 (⟨2, 9, 9, ([] : List Int)⟩ : G_api_Op) h3.m (Sl.nl _ _) h27) ?_)))
  rintro v31 c37 l37 ⟨_, G33, O34, R35, rfl, h32⟩
  refine vr (.bool x_17.2.isNil) (by rcases (h32).cs with ⟨h1_, h2_⟩ | ⟨b_, h1_, h2_⟩ | ⟨b_, h1_, h2_⟩ <;> (subst h1_; rw [h2_]; kernel_rfl)) ?_
  rcases bo (x_17.2.isNil) with h39 | h39
  ·have H40 := anT h39 h28
   refine vb h39 (wn (va (v2) (wn (bn H40 fun k_22 h43 H40 => ?_))))
   obtain ⟨b41, rfl, h42⟩ := ((h3.mono (l14.trans (l18.trans (l25.trans l37))))).get h43
   refine va (.pointer (some ⟨b41, 0, none⟩)) (wn (va (.pointer (some ⟨b41, 1, none⟩)) (wn (bn H40 fun o_24 h44 H40 => ?_))))
   obtain ⟨v45, h47, h46⟩ := Rel.open_place_Pen R35 h44 h42
   refine vx (leN 24 1 [.int .i64 o_24.At.Row, .int .i64 o_24.At.Col, .bool o_24.At.Pending] (O34.gon h47 0 rfl)) (wn (va (.agg #[.int .i64 1, .int .i64 2, .bool false]) (wn (vr (.bool (o_24.At.Row == 1 && (o_24.At.Col == 2 && (o_24.At.Pending == false && true)))) (run_eqlA (T := 24) (xs := #[.int .i64 o_24.At.Row, .int .i64 o_24.At.Col, .bool o_24.At.Pending]) (ys := #[.int .i64 1, .int .i64 2, .bool false]) (r := (o_24.At.Row == 1 && (o_24.At.Col == 2 && (o_24.At.Pending == false && true)))) underlying24 (by kernel_rfl) (by kernel_rfl) (EqP.int (by kernel_rfl) underlying3 rfl rfl (EqP.int (by kernel_rfl) underlying3 rfl rfl (EqP.bool (by kernel_rfl) underlying4 rfl rfl EqP.nil))) (by kernel_rfl) _) ?_))))
   obtain rfl := si H40
   refine va (.bool (o_24.At.Row == 1 && (o_24.At.Col == 2 && (o_24.At.Pending == false && true)))) ?_
   rcases bo ((o_24.At.Row == 1 && (o_24.At.Col == 2 && (o_24.At.Pending == false && true)))) with h48 | h48
   ·have H49 := anT h48 h29
    refine vb h48 (wn (va (.agg #[.int .i64 3, .int .i64 3, .int .i64 0, .slice none 0 0]) (wn (bn H49 fun x_30 h50 H49 => cl (c_edit_Wrong O34 (hG.m.le (by decide)) (⟨3, 3, 0, ([] : List Int)⟩ : G_api_Op) (Sl.nl _ _) h50) ?_))))
    rintro v51 c57 l57 ⟨_, O54, rfl, h52⟩
    refine wn (bn H49 fun x_31 h59 H49 => cl (c_api_Code O54 (hG.m.le (by decide)) x_30 h52 h59) ?_)
    rintro v65 c64 l64 ⟨O61, rfl⟩
    refine wn (va (.bool (x_31 == 3)) ?_)
    obtain rfl := si H49
    refine va (.bool (x_31 == 3)) ?_
    rcases bo (x_31 == 3) with h66 | h66
    ·have H67 := anT h66 h30
     refine vb h66 (wn (bn H67 fun x_35 h68 H67 => cl (c_edit_Does O61 13 h68) ?_))
     rintro v74 c73 l73 ⟨O70, rfl⟩
     refine wn (va (.bool (!x_35)) ?_)
     obtain rfl := si H67
     exact va (.bool (!x_35)) (va (.bool (!x_35)) (wln ⟨c73, _, _, rfl, pt, us, G33, O70, rfl, R35.m⟩))
    obtain rfl := anF h66 h30
    exact vb h66 (ps (ps (va (.bool false) (va (.bool false) (wln ⟨c64, _, _, rfl, pt, us, G33, O61, rfl, R35.m⟩)))))
   obtain rfl := anF h48 h29
   refine vb h48 (ps (ps (ps (ps (va (.bool false) ?_)))))
   have h75 : false = false := rfl
   obtain rfl := anF h75 h30
   exact vb h75 (ps (ps (va (.bool false) (va (.bool false) (wln ⟨c37, _, _, rfl, pt, us, G33, O34, rfl, R35⟩)))))
  obtain rfl := anF h39 h28
  refine vb h39 (ps (ps (ps (ps (ps (ps (va (.bool false) ?_)))))))
  have h76 : false = false := rfl
  obtain rfl := anF h76 h29
  refine vb h76 (ps (ps (ps (ps (va (.bool false) ?_)))))
  have h77 : false = false := rfl
  obtain rfl := anF h77 h30
  exact vb h77 (ps (ps (va (.bool false) (va (.bool false) (wln ⟨c37, _, _, rfl, pt, us, G33, O34, rfl, R35⟩)))))
 rintro e_ w_ ⟨c78, g79, _, rfl, l78, rfl, G81, O80, rfl, R82⟩
 refine nrm (W.ret ?_)
 obtain rfl := si H
 have O84 := O80.sD 1 []
 exact r1 ⟨_, c78, rfl, rfl, pt, G81, O84, R82, rfl⟩

end Go.Proofs.YthokmpbbkpjhbaaGreatDoor
