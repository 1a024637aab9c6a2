import Derived.Test.YthokmpbbkpjhbaaGreatDoorMq
import Derived.Test.YthokmpbbkpjhbaaGreatDoorProg
import Derived.Test.YthokmpbbkpjhbaaGreatDoorMy
import Derived.Test.YthokmpbbkpjhbaaGreatDoorMz
namespace Go.Proofs.YthokmpbbkpjhbaaGreatDoor
open Go Go.Lt
set_option maxRecDepth 10000
set_option linter.unusedVariables false
attribute [local irreducible] W WL AC
open Tryz
variable {c0 : Cx} {G : Gm} {F : List En} {sg : Sto} {v1 v2 v3 v4 v5 v6 v7 v8 v9 v10 v11 v12 v13 v14 v15 v16 v17 v18 v19 v20 v21 v22 v23 v24 v25 v26 v27 v28 v29 v30 v31 v32 v33 v34 v35 v36 v37 v38 v39 v40 v41 v42 v43 v44 v45 v46 v47 v48 v49 v50 v51 v52 v53 v54 v55 v56 v57 v58 v59 v60 : Value}
def f_scalar_Valid (p0 : Int) : Option (Bool) :=
 (andE (decide (p0 ≥ 0)) (some (decide (p0 < 55296)))).bind fun d_5 =>
 (orE d_5 ((andE (decide (p0 > 57343)) (some (decide (p0 ≤ 1114111)))).bind fun d_13 =>
 some d_13)).bind fun d_9 =>
 some d_9
theorem c_scalar_Valid (O0 : Own c0 G F) (p0 : Int) {r : Bool} (H : f_scalar_Valid p0 = some r) :
    Calls Tryz.prog 108 #[.int .i32 p0] c0.w (Post c0 fun c v => Own c G (F) ∧ v = .bool r) := by
 unfold f_scalar_Valid at H
 refine en func108 rfl rfl (sr (va (.bool false) (wln (W.seq (bn H fun d_5 h1 H => bn H fun d_9 h2 H => W.join (Jn c0 fun c l => Own c G (F) ∧ l = [(2, .bool d_9)]) ?_ ?_)))))
 ·clear H
  refine W.region (va (.int .i32 p0) (va (.bool (decide (p0 ≥ 0))) ?_))
  rcases bo (decide (p0 ≥ 0)) with h3 | h3
  ·have H4 := anT h3 h1
   refine vb h3 (wn (va (.int .i32 p0) (wn (va (.bool (decide (p0 < 55296))) ?_))))
   obtain rfl := si H4
   refine va (.bool (decide (p0 < 55296))) ?_
   rcases bo (decide (p0 < 55296)) with h5 | h5
   ·obtain rfl := orT h5 h2
    exact vb h5 (ps (ps (ps (ps (ps (ps (va (.bool true) (va (.bool true) (wln ⟨c0, _, _, rfl, pt, us, O0, rfl⟩)))))))))
   have H6 := orF h5 h2
   refine vb h5 (wn (va (.int .i32 p0) (wn (va (.bool (decide (p0 > 57343))) (wn (bn H6 fun d_13 h7 H6 => ?_))))))
   rcases bo (decide (p0 > 57343)) with h8 | h8
   ·have H9 := anT h8 h7
    refine vb h8 (wn (va (.int .i32 p0) (wn (va (.bool (decide (p0 ≤ 1114111))) (wn ?_)))))
    obtain rfl := si H9
    refine va (.bool (decide (p0 ≤ 1114111))) ?_
    obtain rfl := si H6
    exact va (.bool (decide (p0 ≤ 1114111))) (va (.bool (decide (p0 ≤ 1114111))) (wln ⟨c0, _, _, rfl, pt, us, O0, rfl⟩))
   obtain rfl := anF h8 h7
   refine vb h8 (ps (ps (wn (va (.bool false) ?_))))
   obtain rfl := si H6
   exact va (.bool false) (va (.bool false) (wln ⟨c0, _, _, rfl, pt, us, O0, rfl⟩))
  obtain rfl := anF h3 h1
  refine vb h3 (ps (ps (va (.bool false) ?_)))
  have h10 : false = false := rfl
  have H11 := orF h10 h2
  refine vb h10 (wn (va (.int .i32 p0) (wn (va (.bool (decide (p0 > 57343))) (wn (bn H11 fun d_13 h12 H11 => ?_))))))
  rcases bo (decide (p0 > 57343)) with h13 | h13
  ·have H14 := anT h13 h12
   refine vb h13 (wn (va (.int .i32 p0) (wn (va (.bool (decide (p0 ≤ 1114111))) (wn ?_)))))
   obtain rfl := si H14
   refine va (.bool (decide (p0 ≤ 1114111))) ?_
   obtain rfl := si H11
   exact va (.bool (decide (p0 ≤ 1114111))) (va (.bool (decide (p0 ≤ 1114111))) (wln ⟨c0, _, _, rfl, pt, us, O0, rfl⟩))
  obtain rfl := anF h13 h12
  refine vb h13 (ps (ps (wn (va (.bool false) ?_))))
  obtain rfl := si H11
  exact va (.bool false) (va (.bool false) (wln ⟨c0, _, _, rfl, pt, us, O0, rfl⟩))
 rintro e_ w_ ⟨c15, g16, _, rfl, l15, rfl, O17, rfl⟩
 refine nrm (W.ret ?_)
 obtain rfl := si H
 exact r1 ⟨_, c15, rfl, rfl, pt, O17, rfl⟩
def f_linotyperef01_Valid (p0 : Int) : Option (Bool) :=
 (andE (decide (p0 ≥ 0)) (some (decide (p0 ≤ 1114111)))).bind fun d_5 =>
 (andE d_5 ((orE (decide (p0 < 55296)) (some (decide (p0 > 57343)))).bind fun d_13 =>
 some d_13)).bind fun d_9 =>
 some d_9
theorem c_linotyperef01_Valid (O0 : Own c0 G F) (p0 : Int) {r : Bool} (H : f_linotyperef01_Valid p0 = some r) :
    Calls Tryz.prog 86 #[.int .i32 p0] c0.w (Post c0 fun c v => Own c G (F) ∧ v = .bool r) := by
 unfold f_linotyperef01_Valid at H
 refine en func86 rfl rfl (sr (va (.bool false) (wln (W.seq (bn H fun d_5 h1 H => bn H fun d_9 h2 H => W.join (Jn c0 fun c l => Own c G (F) ∧ l = [(2, .bool d_9)]) ?_ ?_)))))
 ·clear H
  refine W.region (va (.int .i32 p0) (va (.bool (decide (p0 ≥ 0))) ?_))
  rcases bo (decide (p0 ≥ 0)) with h3 | h3
  ·have H4 := anT h3 h1
   refine vb h3 (wn (va (.int .i32 p0) (wn (va (.bool (decide (p0 ≤ 1114111))) ?_))))
   obtain rfl := si H4
   refine va (.bool (decide (p0 ≤ 1114111))) ?_
   rcases bo (decide (p0 ≤ 1114111)) with h5 | h5
   ·have H6 := anT h5 h2
    refine vb h5 (wn (va (.int .i32 p0) (wn (va (.bool (decide (p0 < 55296))) (wn (bn H6 fun d_13 h7 H6 => ?_))))))
    rcases bo (decide (p0 < 55296)) with h8 | h8
    ·obtain rfl := orT h8 h7
     refine vb h8 (ps (ps (wn (va (.bool true) ?_))))
     obtain rfl := si H6
     exact va (.bool true) (va (.bool true) (wln ⟨c0, _, _, rfl, pt, us, O0, rfl⟩))
    have H9 := orF h8 h7
    refine vb h8 (wn (va (.int .i32 p0) (wn (va (.bool (decide (p0 > 57343))) (wn ?_)))))
    obtain rfl := si H9
    refine va (.bool (decide (p0 > 57343))) ?_
    obtain rfl := si H6
    exact va (.bool (decide (p0 > 57343))) (va (.bool (decide (p0 > 57343))) (wln ⟨c0, _, _, rfl, pt, us, O0, rfl⟩))
   obtain rfl := anF h5 h2
   exact vb h5 (ps (ps (ps (ps (ps (ps (va (.bool false) (va (.bool false) (wln ⟨c0, _, _, rfl, pt, us, O0, rfl⟩)))))))))
  obtain rfl := anF h3 h1
  refine vb h3 (ps (ps (va (.bool false) ?_)))
  have h10 : false = false := rfl
  obtain rfl := anF h10 h2
  exact vb h10 (ps (ps (ps (ps (ps (ps (va (.bool false) (va (.bool false) (wln ⟨c0, _, _, rfl, pt, us, O0, rfl⟩)))))))))
 rintro e_ w_ ⟨c11, g12, _, rfl, l11, rfl, O13, rfl⟩
 refine nrm (W.ret ?_)
 obtain rfl := si H
 exact r1 ⟨_, c11, rfl, rfl, pt, O13, rfl⟩
def f_linotyperef01_Same (p0 : List Int) (p1 : List Int) : Option (Bool) :=
 if ((p0.length : Int) != (p1.length : Int)) = true then
 some false
 else
 (iter (σ := Int) (τ := Bool ⊕ Unit) (((p0.length : Int) - 0).toNat + 1) (fun s_13 =>
 if (decide (s_13 < (p0.length : Int))) = true then
 (idx p0 s_13).bind fun x_21 =>
 (idx p1 s_13).bind fun x_25 =>
 if (x_21 != x_25) = true then
 some (.inr (.inl false))
 else
 some (.inl ((w64 (s_13 + 1))))
 else
 some (.inr (.inr ()))) (0)).bind fun o_13 =>
 match o_13 with
 | .inl o_13 =>
 some o_13
 | .inr o_13 =>
 some true
theorem c_linotyperef01_Same (O0 : Own c0 G F) (p0 : List Int) (p1 : List Int) {r : Bool} (h2 : Sl (RI .i32) c0 v1 p0) (h4 : Sl (RI .i32) c0 v3 p1) (H : f_linotyperef01_Same p0 p1 = some r) :
    Calls Tryz.prog 23 #[v1, v3] c0.w (Post c0 fun c v => Own c G (F) ∧ v = .bool r) := by
 unfold f_linotyperef01_Same at H
 refine en func23 rfl rfl (sr (va (.bool false) (wln (W.seq (sr (va (v1) (vx (ln 3 underlying27 h2) (va (v3) (vx (ln 3 underlying27 h4) (va (.bool ((p0.length : Int) != (p1.length : Int))) (wln (cn H (fun h5 H => ?_) (fun h5 H => ?_)))))))))))))
 ·refine sr (va (.bool false) (wln (W.ret (thr ?_))))
  obtain rfl := si H
  exact r1 ⟨_, c0, rfl, rfl, pt, O0, rfl⟩
 refine W.skip (nrm (W.seq (sr (va (.int .i64 0) (wln (W.block (bn H fun o_13 h6 H7 => lp h6 (fun s_13 => Jn c0 fun c l => Own c G (F) ∧ l = [(0, v1), (1, v3), (5, .int .i64 s_13)]) (fun t => match t with | .inl x_ => (fun rr_ ex e w => ex = .ret ∧ (Jn c0 fun c l => Own c G (F) ∧ l = [(4, .bool rr_)]) e w) x_ | .inr x_ => (fun o_13_ ex e w => ex = .exit 0 ∧ (Jn c0 fun c l => Own c G (F) ∧ l = []) e w) x_) ?_ ?_ ?_)))))))
 ·clear H7 h6
  intro s_13 xx_ ee_ ww_ H
  revert ee_ ww_
  rintro e_ w_ ⟨c8, g9, _, rfl, l8, rfl, O10, rfl⟩
  refine W.seq (sr (va (.int .i64 s_13) (va (v1) (vx (ln 3 underlying27 h2.m) (va (.bool (decide (s_13 < (p0.length : Int)))) (wln (cn H (fun h14 H => ?_) (fun h14 H => ?_))))))))
  ·refine W.skip (nrm (W.seq (W.block (W.seq (rD [] (Kp G0 []) O10 ?_)))))
   intro c15 l15 O16
   have p17 : Kp G0 [] c15 := Kp.nil0
   refine ta 0 (v1) (ta 1 (.int .i64 s_13) (bn H fun x_21 h18 H => ?_))
   obtain ⟨l_19, h20, m21⟩ := Sl.at (h2.mono (l8.trans l15)) (idx_get h18)
   obtain rfl := h20
   refine tx 2 (fun c' hle => ix underlying27 h2.m h18) (tx 3 (fun c' hle => l1 underlying21 ((mm m21) 0 _ rfl)) (ta 4 (v3) (ta 5 (.int .i64 s_13) (bn H fun x_25 h22 H => ?_))))
   obtain ⟨l_23, h24, m25⟩ := Sl.at (h4.mono (l8.trans l15)) (idx_get h22)
   obtain rfl := h24
   refine tx 6 (fun c' hle => ix underlying27 h4.m h22) (tx 7 (fun c' hle => l1 underlying21 ((mm m25) 0 _ rfl)) (ta 8 (.bool (x_21 != x_25)) (dn (nrm (cn H (fun h26 H => ?_) (fun h26 H => ?_))))))
   ·refine sr (va (.bool false) (wln (W.ret (bkr (thr ?_)))))
    obtain rfl := si H
    exact ⟨_, rfl, ⟨rfl, ⟨c15, _, _, rfl, pt, us, O16, rfl⟩⟩⟩
   refine W.skip (bkn (nrm (W.region (va (.int .i64 s_13) (va (.int .i64 (w64 (s_13 + 1))) (va (.int .i64 (w64 (s_13 + 1))) (WL.nil ?_)))))))
   obtain rfl := si H
   exact ⟨_, rfl, ⟨c15, _, _, rfl, pt, us, O16, rfl⟩⟩
  refine W.exit (thx ?_)
  obtain rfl := si H
  exact ⟨_, rfl, rfl, ⟨c8, _, _, rfl, pt, us, O10, rfl⟩⟩
 ·exact ⟨c0, _, _, rfl, pt, us, O0, rfl⟩
 rcases o_13 with o_13 | o_13
 ·intro ex_; revert ex_
  rintro _ e_ w_ ⟨rfl, c27, g28, _, rfl, l27, rfl, O29, rfl⟩
  refine bkr (thr ?_)
  obtain rfl := si H7
  exact r1 ⟨_, c27, rfl, rfl, pt, O29, rfl⟩
 rintro _ e_ w_ ⟨rfl, c33, g34, _, rfl, l33, rfl, O35, rfl⟩
 refine bke (nrm (sr (va (.bool true) (wln (W.ret ?_)))))
 obtain rfl := si H7
 exact r1 ⟨_, c33, rfl, rfl, pt, O35, rfl⟩
def f_linotyperef23_Right (p0 : G_api_Cell) : Option (Bool) :=
 (orE (p0.Kind == 0) (some (p0.Kind == 3))).bind fun d_7 =>
 if d_7 = true then
 some ((p0.Text.length : Int) == 0)
 else
 (andE (p0.Kind != 1) (some (p0.Kind != 2))).bind fun d_22 =>
 (orE d_22 (some (decide ((p0.Text.length : Int) < 1)))).bind fun d_27 =>
 (orE d_27 (some (decide ((p0.Text.length : Int) > 16)))).bind fun d_33 =>
 if d_33 = true then
 some false
 else
 (iter (σ := Int) (τ := Bool ⊕ Unit) (((p0.Text.length : Int) - 0).toNat + 1) (fun s_44 =>
 if (decide (s_44 < (p0.Text.length : Int))) = true then
 (idx p0.Text s_44).bind fun x_54 =>
 (f_linotyperef01_Valid x_54).bind fun x_56 =>
 if (!x_56) = true then
 some (.inr (.inl false))
 else
 some (.inl ((w64 (s_44 + 1))))
 else
 some (.inr (.inr ()))) (0)).bind fun o_44 =>
 match o_44 with
 | .inl o_44 =>
 some o_44
 | .inr o_44 =>
 some true
theorem c_linotyperef23_Right (O0 : Own c0 G F) (p0 : G_api_Cell) {r : Bool} (h2 : Sl (RI .i32) c0 v1 p0.Text) (H : f_linotyperef23_Right p0 = some r) :
    Calls Tryz.prog 104 #[.agg #[.int .i64 p0.Kind, v1]] c0.w (Post c0 fun c v => Own c G (F) ∧ v = .bool r) := by
 unfold f_linotyperef23_Right at H
 refine en func104 rfl rfl (sr ?_)
 obtain ⟨a3, a4, a5, rfl⟩ := (h2).form
 refine me (bx 101 [.int .i64 p0.Kind, .slice a3 a4 a5] O0) ?_
 rintro v10 c9 l9 ⟨b6, rfl, O7, m8⟩
 refine va (.bool false) (wln (W.seq (W.seq (bn H fun d_7 h11 H => W.join (Jn c9 fun c l => Own c G (F) ∧ l = [(1, .pointer (some ⟨b6, 0, none⟩)), (11, .bool d_7)]) ?_ ?_))))
 ·clear H
  refine W.region (va (.pointer (some ⟨b6, 0, none⟩)) (vx (l1 underlying3 (m8 0 _ rfl)) (va (.bool (p0.Kind == 0)) ?_)))
  rcases bo (p0.Kind == 0) with h12 | h12
  ·obtain rfl := orT h12 h11
   exact vb h12 (ps (ps (ps (va (.bool true) (wln ⟨c9, _, _, rfl, pt, us, O7, rfl⟩)))))
  have H13 := orF h12 h11
  refine vb h12 (wn (va (.pointer (some ⟨b6, 0, none⟩)) (wn (vx (l1 underlying3 (m8 0 _ rfl)) (wn (va (.bool (p0.Kind == 3)) ?_))))))
  obtain rfl := si H13
  exact va (.bool (p0.Kind == 3)) (wln ⟨c9, _, _, rfl, pt, us, O7, rfl⟩)
 rintro e_ w_ ⟨c14, g15, _, rfl, l14, rfl, O16, rfl⟩
 refine nrm (cn H (fun h20 H => ?_) (fun h20 H => ?_))
 ·refine sr (va (.pointer (some ⟨b6, 0 + 1, none⟩)) (vx (l1 underlying27 ((mm m8) 1 _ rfl)) (vx (ln 3 underlying27 h2.m) (va (.bool ((p0.Text.length : Int) == 0)) (va (.bool ((p0.Text.length : Int) == 0)) (wln (W.ret (thr ?_))))))))
  obtain rfl := si H
  exact r1 ⟨_, c14, rfl, rfl, pt, O16, rfl⟩
 refine W.skip (nrm (W.seq (W.seq (bn H fun d_22 h21 H => bn H fun d_27 h22 H => bn H fun d_33 h23 H => W.join (Jn c14 fun c l => Own c G (F) ∧ l = [(1, .pointer (some ⟨b6, 0, none⟩)), (35, .bool d_33)]) ?_ ?_))))
 ·clear H
  refine W.region (va (.pointer (some ⟨b6, 0, none⟩)) (vx (l1 underlying3 ((mm m8) 0 _ rfl)) (va (.bool (p0.Kind != 1)) ?_)))
  rcases bo (p0.Kind != 1) with h24 | h24
  ·have H25 := anT h24 h21
   refine vb h24 (wn (va (.pointer (some ⟨b6, 0, none⟩)) (wn (vx (l1 underlying3 ((mm m8) 0 _ rfl)) (wn (va (.bool (p0.Kind != 2)) ?_))))))
   obtain rfl := si H25
   refine va (.bool (p0.Kind != 2)) ?_
   rcases bo (p0.Kind != 2) with h26 | h26
   ·obtain rfl := orT h26 h22
    refine vb h26 (ps (ps (ps (ps (va (.bool true) ?_)))))
    have h27 : true = true := rfl
    obtain rfl := orT h27 h23
    exact vb h27 (ps (ps (ps (ps (va (.bool true) (wln ⟨c14, _, _, rfl, pt, us, O16, rfl⟩))))))
   have H28 := orF h26 h22
   refine vb h26 (wn (va (.pointer (some ⟨b6, 0 + 1, none⟩)) (wn (vx (l1 underlying27 ((mm m8) 1 _ rfl)) (wn (vx (ln 3 underlying27 h2.m) (wn (va (.bool (decide ((p0.Text.length : Int) < 1))) ?_))))))))
   obtain rfl := si H28
   refine va (.bool (decide ((p0.Text.length : Int) < 1))) ?_
   rcases bo (decide ((p0.Text.length : Int) < 1)) with h29 | h29
   ·obtain rfl := orT h29 h23
    exact vb h29 (ps (ps (ps (ps (va (.bool true) (wln ⟨c14, _, _, rfl, pt, us, O16, rfl⟩))))))
   have H30 := orF h29 h23
   refine vb h29 (wn (va (.pointer (some ⟨b6, 0 + 1, none⟩)) (wn (vx (l1 underlying27 ((mm m8) 1 _ rfl)) (wn (vx (ln 3 underlying27 h2.m) (wn (va (.bool (decide ((p0.Text.length : Int) > 16))) ?_))))))))
   obtain rfl := si H30
   exact va (.bool (decide ((p0.Text.length : Int) > 16))) (wln ⟨c14, _, _, rfl, pt, us, O16, rfl⟩)
  obtain rfl := anF h24 h21
  refine vb h24 (ps (ps (ps (va (.bool false) ?_))))
  have h31 : false = false := rfl
  have H32 := orF h31 h22
  refine vb h31 (wn (va (.pointer (some ⟨b6, 0 + 1, none⟩)) (wn (vx (l1 underlying27 ((mm m8) 1 _ rfl)) (wn (vx (ln 3 underlying27 h2.m) (wn (va (.bool (decide ((p0.Text.length : Int) < 1))) ?_))))))))
  obtain rfl := si H32
  refine va (.bool (decide ((p0.Text.length : Int) < 1))) ?_
  rcases bo (decide ((p0.Text.length : Int) < 1)) with h33 | h33
  ·obtain rfl := orT h33 h23
   exact vb h33 (ps (ps (ps (ps (va (.bool true) (wln ⟨c14, _, _, rfl, pt, us, O16, rfl⟩))))))
  have H34 := orF h33 h23
  refine vb h33 (wn (va (.pointer (some ⟨b6, 0 + 1, none⟩)) (wn (vx (l1 underlying27 ((mm m8) 1 _ rfl)) (wn (vx (ln 3 underlying27 h2.m) (wn (va (.bool (decide ((p0.Text.length : Int) > 16))) ?_))))))))
  obtain rfl := si H34
  exact va (.bool (decide ((p0.Text.length : Int) > 16))) (wln ⟨c14, _, _, rfl, pt, us, O16, rfl⟩)
 rintro e_ w_ ⟨c35, g36, _, rfl, l35, rfl, O37, rfl⟩
 refine nrm (cn H (fun h41 H => ?_) (fun h41 H => ?_))
 ·refine sr (va (.bool false) (wln (W.ret (thr ?_))))
  obtain rfl := si H
  exact r1 ⟨_, c35, rfl, rfl, pt, O37, rfl⟩
 refine W.skip (nrm (W.seq (sr (va (.int .i64 0) (wln (W.block (bn H fun o_44 h42 H43 => lp h42 (fun s_44 => Jn c35 fun c l => Own c G (F) ∧ l = [(1, .pointer (some ⟨b6, 0, none⟩)), (3, .int .i64 s_44)]) (fun t => match t with | .inl x_ => (fun rr_ ex e w => ex = .ret ∧ (Jn c35 fun c l => Own c G (F) ∧ l = [(2, .bool rr_)]) e w) x_ | .inr x_ => (fun o_44_ ex e w => ex = .exit 0 ∧ (Jn c35 fun c l => Own c G (F) ∧ l = []) e w) x_) ?_ ?_ ?_)))))))
 ·clear H43 h42
  intro s_44 xx_ ee_ ww_ H
  revert ee_ ww_
  rintro e_ w_ ⟨c44, g45, _, rfl, l44, rfl, O46, rfl⟩
  refine W.seq (sr (va (.int .i64 s_44) (va (.pointer (some ⟨b6, 0 + 1, none⟩)) (vx (l1 underlying27 ((mm m8) 1 _ rfl)) (vx (ln 3 underlying27 h2.m) (va (.bool (decide (s_44 < (p0.Text.length : Int)))) (wln (cn H (fun h50 H => ?_) (fun h50 H => ?_)))))))))
  ·refine W.skip (nrm (W.seq (W.block (sr (va (.pointer (some ⟨b6, 0 + 1, none⟩)) (vx (l1 underlying27 ((mm m8) 1 _ rfl)) (va (.int .i64 s_44) (bn H fun x_54 h51 H => ?_))))))))
   obtain ⟨l_52, h53, m54⟩ := Sl.at (h2.mono (l9.trans (l14.trans (l35.trans l44)))) (idx_get h51)
   obtain rfl := h53
   refine vx (ix underlying27 h2.m h51) (vx (l1 underlying21 (m54 0 _ rfl)) (bn H fun x_56 h55 H => cl (c_linotyperef01_Valid O46 x_54 h55) ?_))
   rintro v61 c60 l60 ⟨O57, rfl⟩
   refine va (.bool (!x_56)) (wln (cn H (fun h62 H => ?_) (fun h62 H => ?_)))
   ·refine sr (va (.bool false) (wln (W.ret (bkr (thr ?_)))))
    obtain rfl := si H
    exact ⟨_, rfl, ⟨rfl, ⟨c60, _, _, rfl, pt, us, O57, rfl⟩⟩⟩
   refine W.skip (bkn (nrm (W.region (va (.int .i64 s_44) (va (.int .i64 (w64 (s_44 + 1))) (va (.int .i64 (w64 (s_44 + 1))) (WL.nil ?_)))))))
   obtain rfl := si H
   exact ⟨_, rfl, ⟨c60, _, _, rfl, pt, us, O57, rfl⟩⟩
  refine W.exit (thx ?_)
  obtain rfl := si H
  exact ⟨_, rfl, rfl, ⟨c44, _, _, rfl, pt, us, O46, rfl⟩⟩
 ·exact ⟨c35, _, _, rfl, pt, us, O37, rfl⟩
 rcases o_44 with o_44 | o_44
 ·intro ex_; revert ex_
  rintro _ e_ w_ ⟨rfl, c63, g64, _, rfl, l63, rfl, O65, rfl⟩
  refine bkr (thr ?_)
  obtain rfl := si H43
  exact r1 ⟨_, c63, rfl, rfl, pt, O65, rfl⟩
 rintro _ e_ w_ ⟨rfl, c69, g70, _, rfl, l69, rfl, O71, rfl⟩
 refine bke (nrm (sr (va (.bool true) (wln (W.ret ?_)))))
 obtain rfl := si H43
 exact r1 ⟨_, c69, rfl, rfl, pt, O71, rfl⟩
def f_linotyperef23_Kind (p0 : List G_api_Cell) (p1 : Int) : Option (Int) :=
 (orE (decide (p1 < 0)) (some (decide (p1 ≥ (p0.length : Int))))).bind fun d_5 =>
 if d_5 = true then
 some 0
 else
 (idx p0 p1).bind fun x_16 =>
 some x_16.Kind
theorem c_linotyperef23_Kind (O0 : Own c0 G F) (p0 : List G_api_Cell) (p1 : Int) {r : Int} (h2 : Sl R_api_Cell c0 v1 p0) (H : f_linotyperef23_Kind p0 p1 = some r) :
    Calls Tryz.prog 105 #[v1, .int .i64 p1] c0.w (Post c0 fun c v => Own c G (F) ∧ v = .int .i64 r) := by
 unfold f_linotyperef23_Kind at H
 refine en func105 rfl rfl (sr (va (.int .i64 0) (wln (W.seq (W.seq (bn H fun d_5 h3 H => W.join (Jn c0 fun c l => Own c G (F) ∧ l = [(0, v1), (1, .int .i64 p1), (12, .bool d_5)]) ?_ ?_))))))
 ·clear H
  refine W.region (va (.int .i64 p1) (va (.bool (decide (p1 < 0))) ?_))
  rcases bo (decide (p1 < 0)) with h4 | h4
  ·obtain rfl := orT h4 h3
   exact vb h4 (ps (ps (ps (ps (va (.bool true) (wln ⟨c0, _, _, rfl, pt, us, O0, rfl⟩))))))
  have H5 := orF h4 h3
  refine vb h4 (wn (va (.int .i64 p1) (wn (va (v1) (wn (vx (ln 3 underlying69 h2) (wn (va (.bool (decide (p1 ≥ (p0.length : Int)))) ?_))))))))
  obtain rfl := si H5
  exact va (.bool (decide (p1 ≥ (p0.length : Int)))) (wln ⟨c0, _, _, rfl, pt, us, O0, rfl⟩)
 rintro e_ w_ ⟨c6, g7, _, rfl, l6, rfl, O8, rfl⟩
 refine nrm (cn H (fun h12 H => ?_) (fun h12 H => ?_))
 ·refine sr (va (.int .i64 0) (wln (W.ret (thr ?_))))
  obtain rfl := si H
  exact r1 ⟨_, c6, rfl, rfl, pt, O8, rfl⟩
 refine W.skip (nrm (sr (va (v1) (va (.int .i64 p1) (bn H fun x_16 h13 H => ?_)))))
 obtain ⟨l_14, h15, m16⟩ := Sl.at (h2.mono l6) (idx_get h13)
 obtain ⟨v17, rfl, h18⟩ := h15
 refine vx (ix underlying69 h2.m h13) (va (.pointer (some ⟨sb v1, so v1 + p1.toNat * 2, none⟩)) (vx (l1 underlying3 (m16 0 _ rfl)) (va (.int .i64 x_16.Kind) (wln (W.ret ?_)))))
 obtain rfl := si H
 exact r1 ⟨_, c6, rfl, rfl, pt, O8, rfl⟩
def f_linotyperef23_Sound (p0 : List G_api_Cell) : Option (Bool) :=
 (iter (σ := Int) (τ := Bool ⊕ Unit) (((p0.length : Int) - 0).toNat + 1) (fun s_5 =>
 if (decide (s_5 < (p0.length : Int))) = true then
 (idx p0 s_5).bind fun x_13 =>
 (f_linotyperef23_Right x_13).bind fun x_15 =>
 (orE (!x_15) ((idx p0 s_5).bind fun x_21 =>
 (andE (x_21.Kind == 2) ((f_linotyperef23_Kind p0 (w64 (s_5 + 1))).bind fun x_30 =>
 some (x_30 != 3))).bind fun d_25 =>
 some d_25)).bind fun d_17 =>
 (orE d_17 ((idx p0 s_5).bind fun x_36 =>
 (andE (x_36.Kind == 3) ((f_linotyperef23_Kind p0 (w64 (s_5 - 1))).bind fun x_45 =>
 some (x_45 != 2))).bind fun d_40 =>
 some d_40)).bind fun d_32 =>
 if d_32 = true then
 some (.inr (.inl false))
 else
 some (.inl ((w64 (s_5 + 1))))
 else
 some (.inr (.inr ()))) (0)).bind fun o_5 =>
 match o_5 with
 | .inl o_5 =>
 some o_5
 | .inr o_5 =>
 some true
theorem c_linotyperef23_Sound (O0 : Own c0 G F) (p0 : List G_api_Cell) {r : Bool} (h2 : Sl R_api_Cell c0 v1 p0) (H : f_linotyperef23_Sound p0 = some r) :
    Calls Tryz.prog 36 #[v1] c0.w (Post c0 fun c v => Own c G (F) ∧ v = .bool r) := by
 unfold f_linotyperef23_Sound at H
 refine en func36 rfl rfl (sr (va (.bool false) (wln (W.seq (sr (va (.int .i64 0) (wln (W.block (bn H fun o_5 h3 H4 => lp h3 (fun s_5 => Jn c0 fun c l => Own c G (F) ∧ l = [(0, v1), (3, .int .i64 s_5)]) (fun t => match t with | .inl x_ => (fun rr_ ex e w => ex = .ret ∧ (Jn c0 fun c l => Own c G (F) ∧ l = [(2, .bool rr_)]) e w) x_ | .inr x_ => (fun o_5_ ex e w => ex = .exit 0 ∧ (Jn c0 fun c l => Own c G (F) ∧ l = []) e w) x_) ?_ ?_ ?_)))))))))
 ·clear H4 h3
  intro s_5 xx_ ee_ ww_ H
  revert ee_ ww_
  rintro e_ w_ ⟨c5, g6, _, rfl, l5, rfl, O7, rfl⟩
  refine W.seq (sr (va (.int .i64 s_5) (va (v1) (vx (ln 3 underlying69 h2.m) (va (.bool (decide (s_5 < (p0.length : Int)))) (wln (cn H (fun h11 H => ?_) (fun h11 H => ?_))))))))
  ·refine W.skip (nrm (W.seq (W.block (W.seq (bn H fun x_13 h12 H => bn H fun x_15 h13 H => bn H fun d_17 h14 H => bn H fun d_32 h15 H => W.join (Jn c5 fun c l => Own c G (F) ∧ l = [(0, v1), (3, .int .i64 s_5), (45, .bool d_32)]) ?_ ?_)))))
   ·clear H
    refine W.region (va (v1) (va (.int .i64 s_5) ?_))
    obtain ⟨l_16, h17, m18⟩ := Sl.at (h2.mono l5) (idx_get h12)
    obtain ⟨v19, rfl, h20⟩ := h17
    refine vx (ix underlying69 h2.m h12) (vx (lN 101 m18) (cl (c_linotyperef23_Right O7 x_13 h20 h13) ?_))
    rintro v26 c25 l25 ⟨O22, rfl⟩
    refine va (.bool (!x_15)) ?_
    rcases bo (!x_15) with h27 | h27
    ·obtain rfl := orT h27 h14
     refine vb h27 (ps (ps (ps (ps (ps (ps (ps (ps (ps (ps (ps (ps (ps (va (.bool true) ?_))))))))))))))
     have h28 : true = true := rfl
     obtain rfl := orT h28 h15
     exact vb h28 (ps (ps (ps (ps (ps (ps (ps (ps (ps (ps (ps (ps (ps (va (.bool true) (wln ⟨c25, _, _, rfl, pt, us, O22, rfl⟩)))))))))))))))
    have H29 := orF h27 h14
    refine vb h27 (wn (va (v1) (wn (va (.int .i64 s_5) (wn (bn H29 fun x_21 h30 H29 => ?_))))))
    obtain ⟨l_31, h32, m33⟩ := Sl.at (h2.mono (l5.trans l25)) (idx_get h30)
    obtain ⟨v34, rfl, h35⟩ := h32
    refine vx (ix underlying69 h2.m h30) (wn (va (.pointer (some ⟨sb v1, so v1 + s_5.toNat * 2, none⟩)) (wn (vx (l1 underlying3 (m33 0 _ rfl)) (wn (va (.bool (x_21.Kind == 2)) (wn (bn H29 fun d_25 h36 H29 => ?_))))))))
    rcases bo (x_21.Kind == 2) with h37 | h37
    ·have H38 := anT h37 h36
     refine vb h37 (wn (va (v1) (wn (va (.int .i64 s_5) (wn (va (.int .i64 (w64 (s_5 + 1))) (wn (bn H38 fun x_30 h39 H38 => cl (c_linotyperef23_Kind O22 p0 (w64 (s_5 + 1)) h2.m h39) ?_))))))))
     rintro v45 c44 l44 ⟨O41, rfl⟩
     refine wn (va (.bool (x_30 != 3)) (wn ?_))
     obtain rfl := si H38
     refine va (.bool (x_30 != 3)) ?_
     obtain rfl := si H29
     refine va (.bool (x_30 != 3)) ?_
     rcases bo (x_30 != 3) with h46 | h46
     ·obtain rfl := orT h46 h15
      exact vb h46 (ps (ps (ps (ps (ps (ps (ps (ps (ps (ps (ps (ps (ps (va (.bool true) (wln ⟨c44, _, _, rfl, pt, us, O41, rfl⟩)))))))))))))))
     have H47 := orF h46 h15
     refine vb h46 (wn (va (v1) (wn (va (.int .i64 s_5) (wn (bn H47 fun x_36 h48 H47 => ?_))))))
     obtain ⟨l_49, h50, m51⟩ := Sl.at (h2.mono (l5.trans (l25.trans l44))) (idx_get h48)
     obtain ⟨v52, rfl, h53⟩ := h50
     refine vx (ix underlying69 h2.m h48) (wn (va (.pointer (some ⟨sb v1, so v1 + s_5.toNat * 2, none⟩)) (wn (vx (l1 underlying3 (m51 0 _ rfl)) (wn (va (.bool (x_36.Kind == 3)) (wn (bn H47 fun d_40 h54 H47 => ?_))))))))
     rcases bo (x_36.Kind == 3) with h55 | h55
     ·have H56 := anT h55 h54
      refine vb h55 (wn (va (v1) (wn (va (.int .i64 s_5) (wn (va (.int .i64 (w64 (s_5 - 1))) (wn (bn H56 fun x_45 h57 H56 => cl (c_linotyperef23_Kind O41 p0 (w64 (s_5 - 1)) h2.m h57) ?_))))))))
      rintro v63 c62 l62 ⟨O59, rfl⟩
      refine wn (va (.bool (x_45 != 2)) (wn ?_))
      obtain rfl := si H56
      refine va (.bool (x_45 != 2)) ?_
      obtain rfl := si H47
      exact va (.bool (x_45 != 2)) (wln ⟨c62, _, _, rfl, pt, us, O59, rfl⟩)
     obtain rfl := anF h55 h54
     refine vb h55 (ps (ps (ps (ps (ps (wn (va (.bool false) ?_)))))))
     obtain rfl := si H47
     exact va (.bool false) (wln ⟨c44, _, _, rfl, pt, us, O41, rfl⟩)
    obtain rfl := anF h37 h36
    refine vb h37 (ps (ps (ps (ps (ps (wn (va (.bool false) ?_)))))))
    obtain rfl := si H29
    refine va (.bool false) ?_
    have h64 : false = false := rfl
    have H65 := orF h64 h15
    refine vb h64 (wn (va (v1) (wn (va (.int .i64 s_5) (wn (bn H65 fun x_36 h66 H65 => ?_))))))
    obtain ⟨l_67, h68, m69⟩ := Sl.at (h2.mono (l5.trans l25)) (idx_get h66)
    obtain ⟨v70, rfl, h71⟩ := h68
    refine vx (ix underlying69 h2.m h66) (wn (va (.pointer (some ⟨sb v1, so v1 + s_5.toNat * 2, none⟩)) (wn (vx (l1 underlying3 (m69 0 _ rfl)) (wn (va (.bool (x_36.Kind == 3)) (wn (bn H65 fun d_40 h72 H65 => ?_))))))))
    rcases bo (x_36.Kind == 3) with h73 | h73
    ·have H74 := anT h73 h72
     refine vb h73 (wn (va (v1) (wn (va (.int .i64 s_5) (wn (va (.int .i64 (w64 (s_5 - 1))) (wn (bn H74 fun x_45 h75 H74 => cl (c_linotyperef23_Kind O22 p0 (w64 (s_5 - 1)) h2.m h75) ?_))))))))
     rintro v81 c80 l80 ⟨O77, rfl⟩
     refine wn (va (.bool (x_45 != 2)) (wn ?_))
     obtain rfl := si H74
     refine va (.bool (x_45 != 2)) ?_
     obtain rfl := si H65
     exact va (.bool (x_45 != 2)) (wln ⟨c80, _, _, rfl, pt, us, O77, rfl⟩)
    obtain rfl := anF h73 h72
    refine vb h73 (ps (ps (ps (ps (ps (wn (va (.bool false) ?_)))))))
    obtain rfl := si H65
    exact va (.bool false) (wln ⟨c25, _, _, rfl, pt, us, O22, rfl⟩)
   rintro e_ w_ ⟨c82, g83, _, rfl, l82, rfl, O84, rfl⟩
   refine nrm (cn H (fun h88 H => ?_) (fun h88 H => ?_))
   ·refine sr (va (.bool false) (wln (W.ret (bkr (thr ?_)))))
    obtain rfl := si H
    exact ⟨_, rfl, ⟨rfl, ⟨c82, _, _, rfl, pt, us, O84, rfl⟩⟩⟩
   refine W.skip (bkn (nrm (W.region (va (.int .i64 s_5) (va (.int .i64 (w64 (s_5 + 1))) (va (.int .i64 (w64 (s_5 + 1))) (WL.nil ?_)))))))
   obtain rfl := si H
   exact ⟨_, rfl, ⟨c82, _, _, rfl, pt, us, O84, rfl⟩⟩
  refine W.exit (thx ?_)
  obtain rfl := si H
  exact ⟨_, rfl, rfl, ⟨c5, _, _, rfl, pt, us, O7, rfl⟩⟩
 ·exact ⟨c0, _, _, rfl, pt, us, O0, rfl⟩
 rcases o_5 with o_5 | o_5
 ·intro ex_; revert ex_
  rintro _ e_ w_ ⟨rfl, c89, g90, _, rfl, l89, rfl, O91, rfl⟩
  refine bkr (thr ?_)
  obtain rfl := si H4
  exact r1 ⟨_, c89, rfl, rfl, pt, O91, rfl⟩
 rintro _ e_ w_ ⟨rfl, c95, g96, _, rfl, l95, rfl, O97, rfl⟩
 refine bke (nrm (sr (va (.bool true) (wln (W.ret ?_)))))
 obtain rfl := si H4
 exact r1 ⟨_, c95, rfl, rfl, pt, O97, rfl⟩
def f_linotyperef23_Of (p0 : Int) (p1 : List Int) : Option (List G_api_Cell) :=
 (iter (σ := (List Int) × Int) (τ := (List Int)) (((p1.length : Int) - 0).toNat + 1) (fun s_7 =>
 (andE (decide (s_7.2 < (p1.length : Int))) (some (decide (s_7.2 < 16)))).bind fun d_12 =>
 if d_12 = true then
 ((idx p1 s_7.2).bind fun x_20 =>
 (f_linotyperef01_Valid x_20).bind fun x_22 =>
 if x_22 = true then
 (idx p1 s_7.2).bind fun x_27 =>
 (app s_7.1 ([x_27] : List Int)).bind fun x_30 =>
 (some (x_30) : Option ((List Int)))
 else
 (app s_7.1 ([65533] : List Int)).bind fun x_35 =>
 (some (x_35) : Option ((List Int)))).bind fun z_17 =>
 some (.inl (z_17, (w64 (s_7.2 + 1))))
 else
 some (.inr (s_7.1))) (([] : List Int), 0)).bind fun o_7 =>
 (andE ((o_7.length : Int) == 0) (some (decide (p0 > 1)))).bind fun d_49 =>
 if d_49 = true then
 some ([(⟨0, ([] : List Int)⟩ : G_api_Cell), (⟨0, ([] : List Int)⟩ : G_api_Cell)] : List G_api_Cell)
 else
 if ((o_7.length : Int) == 0) = true then
 some ([(⟨0, ([] : List Int)⟩ : G_api_Cell)] : List G_api_Cell)
 else
 if (decide (p0 > 1)) = true then
 some ([(⟨2, o_7⟩ : G_api_Cell), (⟨3, ([] : List Int)⟩ : G_api_Cell)] : List G_api_Cell)
 else
 some ([(⟨1, o_7⟩ : G_api_Cell)] : List G_api_Cell)
theorem c_linotyperef23_Of (O0 : Own c0 G F) (p0 : Int) (p1 : List Int) {r : List G_api_Cell} (h2 : Sl (RI .i32) c0 v1 p1) (H : f_linotyperef23_Of p0 p1 = some r) :
    Calls Tryz.prog 159 #[.int .i64 p0, v1] c0.w (Post c0 fun c v => ∃ y1 y2, Own c G (es true R_api_Cell y1 101 y2 r :: F) ∧ v = y1 ∧ OA R_api_Cell c y1 y2 r) := by
 unfold f_linotyperef23_Of at H
 refine en func159 rfl rfl (sr (va (.slice none 0 0) (wln (sr (va (.slice none 0 0) (wln (W.seq (sr (va (.int .i64 0) (wln (W.block (bn H fun o_7 h3 H4 => lp h3 (fun s_7 => Jn c0 fun c l => ∃ v5 u6, Own c G (es true (RI .i32) v5 21 u6 s_7.1 :: F) ∧ l = [(0, .int .i64 p0), (1, v1), (5, v5), (6, .int .i64 s_7.2)] ∧ OA (RI .i32) c v5 u6 s_7.1) (fun o_7_ ex e w => ex = .exit 0 ∧ (Jn c0 fun c l => ∃ v7 u8, Own c G (es true (RI .i32) v7 21 u8 o_7_ :: F) ∧ l = [(0, .int .i64 p0), (5, v7)] ∧ OA (RI .i32) c v7 u8 o_7_) e w) ?_ ?_ ?_))))))))))))
 ·clear H4 h3
  intro s_7 xx_ ee_ ww_ H
  revert ee_ ww_
  rintro e_ w_ ⟨c9, g10, _, rfl, l9, rfl, v5, u6, O11, rfl, h12⟩
  refine W.seq (W.seq (bn H fun d_12 h16 H => W.join (Jn c9 fun c l => Own c G (es true (RI .i32) v5 21 u6 s_7.1 :: F) ∧ l = [(0, .int .i64 p0), (1, v1), (5, v5), (6, .int .i64 s_7.2), (15, .bool d_12)]) ?_ ?_))
  ·clear H
   refine W.region (va (.int .i64 s_7.2) (va (v1) (vx (ln 3 underlying27 h2.m) (va (.bool (decide (s_7.2 < (p1.length : Int)))) ?_))))
   rcases bo (decide (s_7.2 < (p1.length : Int))) with h17 | h17
   ·have H18 := anT h17 h16
    refine vb h17 (wn (va (.int .i64 s_7.2) (wn (va (.bool (decide (s_7.2 < 16))) ?_))))
    obtain rfl := si H18
    exact va (.bool (decide (s_7.2 < 16))) (wln ⟨c9, _, _, rfl, pt, us, O11, rfl⟩)
   obtain rfl := anF h17 h16
   exact vb h17 (ps (ps (va (.bool false) (wln ⟨c9, _, _, rfl, pt, us, O11, rfl⟩))))
  rintro e_ w_ ⟨c19, g20, _, rfl, l19, rfl, O21, rfl⟩
  refine nrm (cn H (fun h25 H => ?_) (fun h25 H => ?_))
  ·refine W.skip (nrm (bn H fun z_17 H26 H27 => W.seqJ (Jn c19 fun c l => ∃ v28 u29, Own c G (es true (RI .i32) v28 21 u29 z_17 :: F) ∧ l = [(0, .int .i64 p0), (1, v1), (5, v28), (6, .int .i64 s_7.2)] ∧ OA (RI .i32) c v28 u29 z_17) ?_ ?_))
   ·refine W.block (sr (va (v1) (va (.int .i64 s_7.2) (bn H26 fun x_20 h30 H26 => ?_))))
    obtain ⟨l_31, h32, m33⟩ := Sl.at (h2.mono (l9.trans l19)) (idx_get h30)
    obtain rfl := h32
    refine vx (ix underlying27 h2.m h30) (vx (l1 underlying21 (m33 0 _ rfl)) (bn H26 fun x_22 h34 H26 => cl (c_linotyperef01_Valid O21 x_20 h34) ?_))
    rintro v40 c39 l39 ⟨O36, rfl⟩
    refine wln (cn H26 (fun h41 H26 => ?_) (fun h41 H26 => ?_))
    ·refine W.region (va (v5) (va (v1) (va (.int .i64 s_7.2) (bn H26 fun x_27 h42 H26 => ?_))))
     obtain ⟨l_43, h44, m45⟩ := Sl.at (h2.mono (l9.trans (l19.trans l39))) (idx_get h42)
     obtain rfl := h44
     refine vx (ix underlying27 h2.m h42) (vx (l1 underlying21 (m45 0 _ rfl)) (me (sl (RI .i32) 21 [[.int .i32 x_27]] ([x_27] : List Int) O36 ⟨rfl, trivial⟩) ?_))
     rintro v50 c49 l49 ⟨u47, O46, h48⟩
     obtain ⟨c53, h54, l53, O51, h52⟩ := O46.frz 0 rfl h48
     refine WL.gh h54 (bn H26 fun x_30 h55 H26 => me (ap (RI .i32) (.int .i32 0) 4 27 1 O51 h12.m h52 h55 underlying27) ?_)
     rintro v60 c59 l59 ⟨u57, O56, h58⟩
     refine va (v60) (WL.nil (bkn (nrm ?_)))
     obtain rfl := si H26
     have O61 := O56.sD 2 [1]
     exact ⟨c59, _, _, rfl, pt, us, v60, u57, O61, rfl, h58⟩
    refine W.region (va (v5) (me (sl (RI .i32) 21 [[.int .i32 65533]] ([65533] : List Int) O36 ⟨rfl, trivial⟩) ?_))
    rintro v66 c65 l65 ⟨u63, O62, h64⟩
    obtain ⟨c69, h70, l69, O67, h68⟩ := O62.frz 0 rfl h64
    refine WL.gh h70 (bn H26 fun x_35 h71 H26 => me (ap (RI .i32) (.int .i32 0) 4 27 1 O67 h12.m h68 h71 underlying27) ?_)
    rintro v76 c75 l75 ⟨u73, O72, h74⟩
    refine va (v76) (WL.nil (bkn (nrm ?_)))
    obtain rfl := si H26
    have O77 := O72.sD 2 [1]
    exact ⟨c75, _, _, rfl, pt, us, v76, u73, O77, rfl, h74⟩
   rintro e_ w_ ⟨c78, g79, _, rfl, l78, rfl, v28, u29, O80, rfl, h81⟩
   refine W.region (va (.int .i64 s_7.2) (va (.int .i64 (w64 (s_7.2 + 1))) (va (.int .i64 (w64 (s_7.2 + 1))) (WL.nil ?_))))
   obtain rfl := si H27
   exact ⟨_, rfl, ⟨c78, _, _, rfl, pt, us, v28, u29, O80, rfl, h81⟩⟩
  refine W.exit (thx ?_)
  obtain rfl := si H
  exact ⟨_, rfl, rfl, ⟨c19, _, _, rfl, pt, us, v5, u6, O21, rfl, h12.m⟩⟩
 ·have h86 : OA (RI .i32) c0 (.slice none 0 0) [] [] := OA.nil (Nat.succ_pos _)
  have O85 := O0.addHole (e := es true (RI .i32) (.slice none 0 0) 21 [] ([] : List Int)) rfl
  exact ⟨c0, _, _, rfl, pt, us, (.slice none 0 0), [], O85, rfl, h86⟩
 rintro _ e_ w_ ⟨rfl, c87, g88, _, rfl, l87, rfl, v7, u8, O89, rfl, h90⟩
 refine bke (nrm (sr (va (.int .i64 p0) (va (.bool (decide (p0 > 1))) (va (.bool (decide (p0 > 1))) (wln (W.seq (W.seq (bn H4 fun d_49 h94 H4 => W.join (Jn c87 fun c l => Own c G (es true (RI .i32) v7 21 u8 o_7 :: F) ∧ l = [(5, v7), (7, .bool (decide (p0 > 1))), (40, .bool d_49)]) ?_ ?_)))))))))
 ·clear H4
  refine W.region (va (v7) (vx (lnO 3 underlying27 h90) (va (.bool ((o_7.length : Int) == 0)) ?_)))
  rcases bo ((o_7.length : Int) == 0) with h95 | h95
  ·have H96 := anT h95 h94
   refine vb h95 (wn (va (.bool (decide (p0 > 1))) ?_))
   obtain rfl := si H96
   exact va (.bool (decide (p0 > 1))) (wln ⟨c87, _, _, rfl, pt, us, O89, rfl⟩)
  obtain rfl := anF h95 h94
  exact vb h95 (ps (va (.bool false) (wln ⟨c87, _, _, rfl, pt, us, O89, rfl⟩)))
 rintro e_ w_ ⟨c97, g98, _, rfl, l97, rfl, O99, rfl⟩
 refine nrm (cn H4 (fun h103 H4 => ?_) (fun h103 H4 => ?_))
 ·refine sr (va (.agg #[.int .i64 0, .slice none 0 0]) (va (.agg #[.int .i64 0, .slice none 0 0]) (me (sl R_api_Cell 101 [[.int .i64 0, .slice none 0 0], [.int .i64 0, .slice none 0 0]] ([(⟨0, ([] : List Int)⟩ : G_api_Cell), (⟨0, ([] : List Int)⟩ : G_api_Cell)] : List G_api_Cell) O99 ⟨⟨(.slice none 0 0), rfl, (Sl.nl _ _)⟩, ⟨(.slice none 0 0), rfl, (Sl.nl _ _)⟩, trivial⟩) ?_)))
  rintro v108 c107 l107 ⟨u105, O104, h106⟩
  refine va (v108) (wln (W.ret (thr ?_)))
  obtain rfl := si H4
  have O109 := O104.sD 2 [0]
  exact r1 ⟨_, c107, rfl, rfl, pt, v108, u105, O109, rfl, h106⟩
 refine W.skip (nrm (W.seq (sr (va (v7) (vx (lnO 3 underlying27 h90.m) (va (.bool ((o_7.length : Int) == 0)) (wln (cn H4 (fun h110 H4 => ?_) (fun h110 H4 => ?_)))))))))
 ·refine sr (va (.agg #[.int .i64 0, .slice none 0 0]) (me (sl R_api_Cell 101 [[.int .i64 0, .slice none 0 0]] ([(⟨0, ([] : List Int)⟩ : G_api_Cell)] : List G_api_Cell) O99 ⟨⟨(.slice none 0 0), rfl, (Sl.nl _ _)⟩, trivial⟩) ?_))
  rintro v115 c114 l114 ⟨u112, O111, h113⟩
  refine va (v115) (wln (W.ret (thr ?_)))
  obtain rfl := si H4
  have O116 := O111.sD 2 [0]
  exact r1 ⟨_, c114, rfl, rfl, pt, v115, u112, O116, rfl, h113⟩
 refine W.skip (nrm (W.seq (sr (va (.bool (decide (p0 > 1))) (wln (cn H4 (fun h117 H4 => ?_) (fun h117 H4 => ?_)))))))
 ·refine sr (va (v7) ?_)
  obtain ⟨a118, a119, a120, rfl⟩ := ((h90.mono l97)).form
  refine va (.agg #[.int .i64 2, .slice a118 a119 a120]) (va (.agg #[.int .i64 3, .slice none 0 0]) ?_)
  obtain ⟨c123, h124, l123, O121, h122⟩ := O99.frz 0 rfl (h90.mono l97)
  refine WL.gh h124 (me (sl R_api_Cell 101 [[.int .i64 2, .slice a118 a119 a120], [.int .i64 3, .slice none 0 0]] ([(⟨2, o_7⟩ : G_api_Cell), (⟨3, ([] : List Int)⟩ : G_api_Cell)] : List G_api_Cell) O121 ⟨⟨(.slice a118 a119 a120), rfl, h122⟩, ⟨(.slice none 0 0), rfl, (Sl.nl _ _)⟩, trivial⟩) ?_)
  rintro v129 c128 l128 ⟨u126, O125, h127⟩
  refine va (v129) (wln (W.ret (thr ?_)))
  obtain rfl := si H4
  have O130 := O125.sD 2 [0]
  exact r1 ⟨_, c128, rfl, rfl, pt, v129, u126, O130, rfl, h127⟩
 refine W.skip (nrm (sr (va (v7) ?_)))
 obtain ⟨a131, a132, a133, rfl⟩ := ((h90.mono l97)).form
 refine va (.agg #[.int .i64 1, .slice a131 a132 a133]) ?_
 obtain ⟨c136, h137, l136, O134, h135⟩ := O99.frz 0 rfl (h90.mono l97)
 refine WL.gh h137 (me (sl R_api_Cell 101 [[.int .i64 1, .slice a131 a132 a133]] ([(⟨1, o_7⟩ : G_api_Cell)] : List G_api_Cell) O134 ⟨⟨(.slice a131 a132 a133), rfl, h135⟩, trivial⟩) ?_)
 rintro v142 c141 l141 ⟨u139, O138, h140⟩
 refine va (v142) (wln (W.ret ?_))
 obtain rfl := si H4
 have O143 := O138.sD 2 [0]
 exact r1 ⟨_, c141, rfl, rfl, pt, v142, u139, O143, rfl, h140⟩
def f_linotyperef23_Same (p0 : List G_api_Cell) (p1 : List G_api_Cell) : Option (Bool) :=
 if ((p0.length : Int) != (p1.length : Int)) = true then
 some false
 else
 (iter (σ := Int) (τ := Bool ⊕ Unit) (((p0.length : Int) - 0).toNat + 1) (fun s_13 =>
 if (decide (s_13 < (p0.length : Int))) = true then
 (idx p0 s_13).bind fun x_21 =>
 (idx p1 s_13).bind fun x_26 =>
 (orE (x_21.Kind != x_26.Kind) ((idx p0 s_13).bind fun x_34 =>
 (idx p1 s_13).bind fun x_39 =>
 (f_linotyperef01_Same x_34.Text x_39.Text).bind fun x_42 =>
 some (!x_42))).bind fun d_30 =>
 if d_30 = true then
 some (.inr (.inl false))
 else
 some (.inl ((w64 (s_13 + 1))))
 else
 some (.inr (.inr ()))) (0)).bind fun o_13 =>
 match o_13 with
 | .inl o_13 =>
 some o_13
 | .inr o_13 =>
 some true
theorem c_linotyperef23_Same (O0 : Own c0 G F) (p0 : List G_api_Cell) (p1 : List G_api_Cell) {r : Bool} (h2 : Sl R_api_Cell c0 v1 p0) (h4 : Sl R_api_Cell c0 v3 p1) (H : f_linotyperef23_Same p0 p1 = some r) :
    Calls Tryz.prog 161 #[v1, v3] c0.w (Post c0 fun c v => Own c G (F) ∧ v = .bool r) := by
 unfold f_linotyperef23_Same at H
 refine en func161 rfl rfl (sr (va (.bool false) (wln (W.seq (sr (va (v1) (vx (ln 3 underlying69 h2) (va (v3) (vx (ln 3 underlying69 h4) (va (.bool ((p0.length : Int) != (p1.length : Int))) (wln (cn H (fun h5 H => ?_) (fun h5 H => ?_)))))))))))))
 ·refine sr (va (.bool false) (wln (W.ret (thr ?_))))
  obtain rfl := si H
  exact r1 ⟨_, c0, rfl, rfl, pt, O0, rfl⟩
 refine W.skip (nrm (W.seq (sr (va (.int .i64 0) (wln (W.block (bn H fun o_13 h6 H7 => lp h6 (fun s_13 => Jn c0 fun c l => Own c G (F) ∧ l = [(0, v1), (1, v3), (5, .int .i64 s_13)]) (fun t => match t with | .inl x_ => (fun rr_ ex e w => ex = .ret ∧ (Jn c0 fun c l => Own c G (F) ∧ l = [(4, .bool rr_)]) e w) x_ | .inr x_ => (fun o_13_ ex e w => ex = .exit 0 ∧ (Jn c0 fun c l => Own c G (F) ∧ l = []) e w) x_) ?_ ?_ ?_)))))))
 ·clear H7 h6
  intro s_13 xx_ ee_ ww_ H
  revert ee_ ww_
  rintro e_ w_ ⟨c8, g9, _, rfl, l8, rfl, O10, rfl⟩
  refine W.seq (sr (va (.int .i64 s_13) (va (v1) (vx (ln 3 underlying69 h2.m) (va (.bool (decide (s_13 < (p0.length : Int)))) (wln (cn H (fun h14 H => ?_) (fun h14 H => ?_))))))))
  ·refine W.skip (nrm (W.seq (W.block (W.seq (bn H fun x_21 h15 H => bn H fun x_26 h16 H => bn H fun d_30 h17 H => W.join (Jn c8 fun c l => Own c G (F) ∧ l = [(0, v1), (1, v3), (5, .int .i64 s_13), (41, .bool d_30)]) ?_ ?_)))))
   ·clear H
    refine rD [] (Kp G0 []) O10 ?_
    intro c18 l18 O19
    have p20 : Kp G0 [] c18 := Kp.nil0
    refine ta 0 (v1) (ta 1 (.int .i64 s_13) ?_)
    obtain ⟨l_21, h22, m23⟩ := Sl.at (h2.mono (l8.trans l18)) (idx_get h15)
    obtain ⟨v24, rfl, h25⟩ := h22
    refine tx 2 (fun c' hle => ix underlying69 h2.m h15) (ta 3 (.pointer (some ⟨sb v1, so v1 + s_13.toNat * 2, none⟩)) (tx 4 (fun c' hle => l1 underlying3 ((mm m23) 0 _ rfl)) (ta 5 (v3) (ta 6 (.int .i64 s_13) ?_))))
    obtain ⟨l_26, h27, m28⟩ := Sl.at (h4.mono (l8.trans l18)) (idx_get h16)
    obtain ⟨v29, rfl, h30⟩ := h27
    refine tx 7 (fun c' hle => ix underlying69 h4.m h16) (ta 8 (.pointer (some ⟨sb v3, so v3 + s_13.toNat * 2, none⟩)) (tx 9 (fun c' hle => l1 underlying3 ((mm m28) 0 _ rfl)) (ta 10 (.bool (x_21.Kind != x_26.Kind)) ?_)))
    rcases bo (x_21.Kind != x_26.Kind) with h31 | h31
    ·obtain rfl := orT h31 h17
     exact AC.takeb 11 h31 rfl (by kernel_rfl) (by kernel_rfl) (fun c' hle => (by kernel_rfl)) (tp 12 (tp 13 (tp 14 (tp 15 (tp 16 (tp 17 (tp 18 (tp 19 (tp 20 (tp 21 (tp 22 (tp 23 (ta 24 (.bool true) (dn (nrm ⟨c18, _, _, rfl, pt, us, O19, rfl⟩)))))))))))))))
    have H32 := orF h31 h17
    refine bn H32 fun x_34 h33 H32 => bn H32 fun x_39 h34 H32 => bn H32 fun x_42 h35 H32 => AC.takeb 11 h31 rfl (by kernel_rfl) (by kernel_rfl) (fun c' hle => (by kernel_rfl)) (ta 12 (v1) (ta 13 (.int .i64 s_13) ?_))
    obtain ⟨l_36, h37, m38⟩ := Sl.at (h2.mono (l8.trans l18)) (idx_get h33)
    obtain ⟨v39, rfl, h40⟩ := h37
    refine tx 14 (fun c' hle => ix underlying69 h2.m h33) (ta 15 (.pointer (some ⟨sb v1, so v1 + s_13.toNat * 2 + 1, none⟩)) (tx 16 (fun c' hle => l1 underlying27 ((mm m38) 1 _ rfl)) (ta 17 (v3) (ta 18 (.int .i64 s_13) ?_))))
    obtain ⟨l_41, h42, m43⟩ := Sl.at (h4.mono (l8.trans l18)) (idx_get h34)
    obtain ⟨v44, rfl, h45⟩ := h42
    refine tx 19 (fun c' hle => ix underlying69 h4.m h34) (ta 20 (.pointer (some ⟨sb v3, so v3 + s_13.toNat * 2 + 1, none⟩)) (tx 21 (fun c' hle => l1 underlying27 ((mm m43) 1 _ rfl)) (o1 22 (gc 22 (c_linotyperef01_Same O19 x_34.Text x_39.Text h40 h45 h35) ?_))))
    rintro v51 c50 l50 ⟨O47, rfl⟩
    have p52 : Kp G0 [] c50 := Kp.nil0
    refine ⟨.inr p52, ta 23 (.bool (!x_42)) ?_⟩
    obtain rfl := si H32
    exact ta 24 (.bool (!x_42)) (dn (nrm ⟨c50, _, _, rfl, pt, us, O47, rfl⟩))
   rintro e_ w_ ⟨c53, g54, _, rfl, l53, rfl, O55, rfl⟩
   refine nrm (cn H (fun h59 H => ?_) (fun h59 H => ?_))
   ·refine sr (va (.bool false) (wln (W.ret (bkr (thr ?_)))))
    obtain rfl := si H
    exact ⟨_, rfl, ⟨rfl, ⟨c53, _, _, rfl, pt, us, O55, rfl⟩⟩⟩
   refine W.skip (bkn (nrm (W.region (va (.int .i64 s_13) (va (.int .i64 (w64 (s_13 + 1))) (va (.int .i64 (w64 (s_13 + 1))) (WL.nil ?_)))))))
   obtain rfl := si H
   exact ⟨_, rfl, ⟨c53, _, _, rfl, pt, us, O55, rfl⟩⟩
  refine W.exit (thx ?_)
  obtain rfl := si H
  exact ⟨_, rfl, rfl, ⟨c8, _, _, rfl, pt, us, O10, rfl⟩⟩
 ·exact ⟨c0, _, _, rfl, pt, us, O0, rfl⟩
 rcases o_13 with o_13 | o_13
 ·intro ex_; revert ex_
  rintro _ e_ w_ ⟨rfl, c60, g61, _, rfl, l60, rfl, O62, rfl⟩
  refine bkr (thr ?_)
  obtain rfl := si H7
  exact r1 ⟨_, c60, rfl, rfl, pt, O62, rfl⟩
 rintro _ e_ w_ ⟨rfl, c66, g67, _, rfl, l66, rfl, O68, rfl⟩
 refine bke (nrm (sr (va (.bool true) (wln (W.ret ?_)))))
 obtain rfl := si H7
 exact r1 ⟨_, c66, rfl, rfl, pt, O68, rfl⟩
def f_cell_Right_1 (p0 : Int) : Option (Bool) :=
 (f_scalar_Valid p0).bind fun x_4 =>
 some (!x_4)
theorem c_cell_Right_1 (O0 : Own c0 G F) (p0 : Int) {r : Bool} (H : f_cell_Right_1 p0 = some r) :
    Calls Tryz.prog 247 #[.int .i32 p0] c0.w (Post c0 fun c v => Own c G (F) ∧ v = .bool r) := by
 unfold f_cell_Right_1 at H
 refine en func247 rfl rfl (sr (va (.bool false) (wln (sr (va (.int .i32 p0) (bn H fun x_4 h1 H => cl (c_scalar_Valid O0 p0 h1) ?_))))))
 rintro v7 c6 l6 ⟨O3, rfl⟩
 refine va (.bool (!x_4)) (va (.bool (!x_4)) (wln (W.ret ?_)))
 obtain rfl := si H
 exact r1 ⟨_, c6, rfl, rfl, pt, O3, rfl⟩
def f_slices_IndexFunc_rune_rune__cell_Right_1 (p0 : List Int) : Option (Int) :=
 (iter (σ := Int) (τ := Int ⊕ Unit) (((p0.length : Int) - 0).toNat + 1) (fun s_7 =>
 if (decide (s_7 < (p0.length : Int))) = true then
 (idx p0 s_7).bind fun x_16 =>
 (f_cell_Right_1 x_16).bind fun x_18 =>
 if x_18 = true then
 some (.inr (.inl s_7))
 else
 some (.inl ((w64 (s_7 + 1))))
 else
 some (.inr (.inr ()))) (0)).bind fun o_7 =>
 match o_7 with
 | .inl o_7 =>
 some o_7
 | .inr o_7 =>
 some (-1)
theorem c_slices_IndexFunc_rune_rune__cell_Right_1 (O0 : Own c0 G F) (p0 : List Int) {r : Int} (h2 : Sl (RI .i32) c0 v1 p0) (H : f_slices_IndexFunc_rune_rune__cell_Right_1 p0 = some r) :
    Calls Tryz.prog 266 #[v1, .func (.func 247) #[] #[]] c0.w (Post c0 fun c v => Own c G (F) ∧ v = .int .i64 r) := by
 unfold f_slices_IndexFunc_rune_rune__cell_Right_1 at H
 refine en func266 rfl rfl (sr (va (.int .i64 0) (wln (W.seq (sr (va (v1) (vx (ln 3 underlying27 h2) (va (.int .i64 0) (wln (W.block (bn H fun o_7 h3 H4 => lp h3 (fun s_7 => Jn c0 fun c l => Own c G (F) ∧ l = [(0, v1), (1, .func (.func 247) #[] #[]), (7, .int .i64 (p0.length : Int)), (8, .int .i64 s_7)]) (fun t => match t with | .inl x_ => (fun rr_ ex e w => ex = .ret ∧ (Jn c0 fun c l => Own c G (F) ∧ l = [(4, .int .i64 rr_)]) e w) x_ | .inr x_ => (fun o_7_ ex e w => ex = .exit 0 ∧ (Jn c0 fun c l => Own c G (F) ∧ l = []) e w) x_) ?_ ?_ ?_)))))))))))
 ·clear H4 h3
  intro s_7 xx_ ee_ ww_ H
  revert ee_ ww_
  rintro e_ w_ ⟨c5, g6, _, rfl, l5, rfl, O7, rfl⟩
  refine sr (va (.bool (decide (s_7 < (p0.length : Int)))) (wln (W.seq (cn H (fun h11 H => ?_) (fun h11 H => ?_)))))
  ·refine W.skip (nrm (W.seq (W.block (sr (va (.int .i64 s_7) (va (.int .i64 s_7) (wln (sr (va (.func (.func 247) #[] #[]) (va (v1) (va (.int .i64 s_7) (bn H fun x_16 h12 H => ?_))))))))))))
   obtain ⟨l_13, h14, m15⟩ := Sl.at (h2.mono l5) (idx_get h12)
   obtain rfl := h14
   refine vx (ix underlying27 h2.m h12) (vx (l1 underlying21 (m15 0 _ rfl)) (bn H fun x_18 h16 H => cl (c_cell_Right_1 O7 x_16 h16) ?_))
   rintro v22 c21 l21 ⟨O18, rfl⟩
   refine wln (cn H (fun h23 H => ?_) (fun h23 H => ?_))
   ·refine sr (va (.int .i64 s_7) (va (.int .i64 s_7) (wln (W.ret (bkr (thr ?_))))))
    obtain rfl := si H
    exact ⟨_, rfl, ⟨rfl, ⟨c21, _, _, rfl, pt, us, O18, rfl⟩⟩⟩
   refine W.skip (bkn (nrm (W.region (va (.int .i64 (w64 (s_7 + 1))) (va (.int .i64 (w64 (s_7 + 1))) (WL.nil ?_))))))
   obtain rfl := si H
   exact ⟨_, rfl, ⟨c21, _, _, rfl, pt, us, O18, rfl⟩⟩
  refine W.exit (thx ?_)
  obtain rfl := si H
  exact ⟨_, rfl, rfl, ⟨c5, _, _, rfl, pt, us, O7, rfl⟩⟩
 ·exact ⟨c0, _, _, rfl, pt, us, O0, rfl⟩
 rcases o_7 with o_7 | o_7
 ·intro ex_; revert ex_
  rintro _ e_ w_ ⟨rfl, c24, g25, _, rfl, l24, rfl, O26, rfl⟩
  refine bkr (thr ?_)
  obtain rfl := si H4
  exact r1 ⟨_, c24, rfl, rfl, pt, O26, rfl⟩
 rintro _ e_ w_ ⟨rfl, c30, g31, _, rfl, l30, rfl, O32, rfl⟩
 refine bke (nrm (sr (va (.int .i64 (-1)) (wln (W.ret ?_)))))
 obtain rfl := si H4
 exact r1 ⟨_, c30, rfl, rfl, pt, O32, rfl⟩
def f_slices_ContainsFunc_rune_rune__cell_Right_1 (p0 : List Int) : Option (Bool) :=
 (f_slices_IndexFunc_rune_rune__cell_Right_1 p0).bind fun x_5 =>
 some (decide (x_5 ≥ 0))
theorem c_slices_ContainsFunc_rune_rune__cell_Right_1 (O0 : Own c0 G F) (p0 : List Int) {r : Bool} (h2 : Sl (RI .i32) c0 v1 p0) (H : f_slices_ContainsFunc_rune_rune__cell_Right_1 p0 = some r) :
    Calls Tryz.prog 246 #[v1, .func (.func 247) #[] #[]] c0.w (Post c0 fun c v => Own c G (F) ∧ v = .bool r) := by
 unfold f_slices_ContainsFunc_rune_rune__cell_Right_1 at H
 refine en func246 rfl rfl (sr (va (.bool false) (wln (sr (va (v1) (va (.func (.func 247) #[] #[]) (bn H fun x_5 h3 H => cl (c_slices_IndexFunc_rune_rune__cell_Right_1 O0 p0 h2 h3) ?_)))))))
 rintro v9 c8 l8 ⟨O5, rfl⟩
 refine va (.bool (decide (x_5 ≥ 0))) (va (.bool (decide (x_5 ≥ 0))) (wln (W.ret ?_)))
 obtain rfl := si H
 exact r1 ⟨_, c8, rfl, rfl, pt, O5, rfl⟩
def f_cell_Right (p0 : G_api_Cell) : Option (Bool) :=
 (if (p0.Kind == 0) = true then
 (some (p0.Kind == 0) : Option (Bool))
 else
 (some (p0.Kind == 3) : Option (Bool))).bind fun z_7 =>
 if z_7 = true then
 some ((p0.Text.length : Int) == 0)
 else
 (if (p0.Kind == 1) = true then
 (some (p0.Kind == 1) : Option (Bool))
 else
 (some (p0.Kind == 2) : Option (Bool))).bind fun z_20 =>
 if z_20 = true then
 (andE (decide ((p0.Text.length : Int) > 0)) (some (decide ((p0.Text.length : Int) ≤ 16)))).bind fun d_31 =>
 (andE d_31 ((f_slices_ContainsFunc_rune_rune__cell_Right_1 p0.Text).bind fun x_41 =>
 some (!x_41))).bind fun d_37 =>
 some d_37
 else
 some false
theorem c_cell_Right (O0 : Own c0 G F) (p0 : G_api_Cell) {r : Bool} (h2 : Sl (RI .i32) c0 v1 p0.Text) (H : f_cell_Right p0 = some r) :
    Calls Tryz.prog 202 #[.agg #[.int .i64 p0.Kind, v1]] c0.w (Post c0 fun c v => Own c G (F) ∧ v = .bool r) := by
 unfold f_cell_Right at H
 refine en func202 rfl rfl (sr ?_)
 obtain ⟨a3, a4, a5, rfl⟩ := (h2).form
 refine me (bx 101 [.int .i64 p0.Kind, .slice a3 a4 a5] O0) ?_
 rintro v10 c9 l9 ⟨b6, rfl, O7, m8⟩
 refine va (.bool false) (wln (W.seq (sr (va (.pointer (some ⟨b6, 0, none⟩)) (vx (l1 underlying3 (m8 0 _ rfl)) (wln (W.block (bn H fun z_7 H11 H12 => W.seqJ (Jn c9 fun c l => Own c G (F) ∧ l = [(1, .pointer (some ⟨b6, 0, none⟩)), (4, .int .i64 p0.Kind), (5, .bool z_7)]) ?_ ?_))))))))
 ·refine sr (va (.bool (p0.Kind == 0)) (va (.bool (p0.Kind == 0)) (wln (cn H11 (fun h13 H11 => ?_) (fun h13 H11 => ?_)))))
  ·refine W.skip (nrm ?_)
   obtain rfl := si H11
   exact ⟨c9, _, _, rfl, pt, us, O7, rfl⟩
  refine W.region (va (.bool (p0.Kind == 3)) (va (.bool (p0.Kind == 3)) (wln ?_)))
  obtain rfl := si H11
  exact ⟨c9, _, _, rfl, pt, us, O7, rfl⟩
 rintro e_ w_ ⟨c14, g15, _, rfl, l14, rfl, O16, rfl⟩
 refine cn H12 (fun h20 H12 => ?_) (fun h20 H12 => ?_)
 ·refine sr (va (.pointer (some ⟨b6, 0 + 1, none⟩)) (vx (l1 underlying27 ((mm m8) 1 _ rfl)) (vx (ln 3 underlying27 h2.m) (va (.bool ((p0.Text.length : Int) == 0)) (va (.bool ((p0.Text.length : Int) == 0)) (wln (W.ret (bkr (thr ?_)))))))))
  obtain rfl := si H12
  exact r1 ⟨_, c14, rfl, rfl, pt, O16, rfl⟩
 refine bn H12 fun z_20 H21 H22 => W.seqJ (Jn c14 fun c l => Own c G (F) ∧ l = [(1, .pointer (some ⟨b6, 0, none⟩)), (12, .bool z_20)]) ?_ ?_
 ·refine sr (va (.bool (p0.Kind == 1)) (va (.bool (p0.Kind == 1)) (wln (cn H21 (fun h23 H21 => ?_) (fun h23 H21 => ?_)))))
  ·refine W.skip (nrm ?_)
   obtain rfl := si H21
   exact ⟨c14, _, _, rfl, pt, us, O16, rfl⟩
  refine W.region (va (.bool (p0.Kind == 2)) (va (.bool (p0.Kind == 2)) (wln ?_)))
  obtain rfl := si H21
  exact ⟨c14, _, _, rfl, pt, us, O16, rfl⟩
 rintro e_ w_ ⟨c24, g25, _, rfl, l24, rfl, O26, rfl⟩
 refine cn H22 (fun h30 H22 => ?_) (fun h30 H22 => ?_)
 ·refine W.seq (bn H22 fun d_31 h31 H22 => bn H22 fun d_37 h32 H22 => W.join (Jn c24 fun c l => Own c G (F) ∧ l = [(2, .bool d_37)]) ?_ ?_)
  ·clear H22
   refine W.region (va (.pointer (some ⟨b6, 0 + 1, none⟩)) (vx (l1 underlying27 ((mm m8) 1 _ rfl)) (vx (ln 3 underlying27 h2.m) (va (.bool (decide ((p0.Text.length : Int) > 0))) ?_))))
   rcases bo (decide ((p0.Text.length : Int) > 0)) with h33 | h33
   ·have H34 := anT h33 h31
    refine vb h33 (wn (va (.pointer (some ⟨b6, 0 + 1, none⟩)) (wn (vx (l1 underlying27 ((mm m8) 1 _ rfl)) (wn (vx (ln 3 underlying27 h2.m) (wn (va (.bool (decide ((p0.Text.length : Int) ≤ 16))) ?_))))))))
    obtain rfl := si H34
    refine va (.bool (decide ((p0.Text.length : Int) ≤ 16))) ?_
    rcases bo (decide ((p0.Text.length : Int) ≤ 16)) with h35 | h35
    ·have H36 := anT h35 h32
     refine vb h35 (wn (va (.pointer (some ⟨b6, 0 + 1, none⟩)) (wn (vx (l1 underlying27 ((mm m8) 1 _ rfl)) (wn (bn H36 fun x_41 h37 H36 => cl (c_slices_ContainsFunc_rune_rune__cell_Right_1 O26 p0.Text h2.m h37) ?_))))))
     rintro v43 c42 l42 ⟨O39, rfl⟩
     refine wn (va (.bool (!x_41)) ?_)
     obtain rfl := si H36
     exact va (.bool (!x_41)) (va (.bool (!x_41)) (wln ⟨c42, _, _, rfl, pt, us, O39, rfl⟩))
    obtain rfl := anF h35 h32
    exact vb h35 (ps (ps (ps (ps (va (.bool false) (va (.bool false) (wln ⟨c24, _, _, rfl, pt, us, O26, rfl⟩)))))))
   obtain rfl := anF h33 h31
   refine vb h33 (ps (ps (ps (ps (va (.bool false) ?_)))))
   have h44 : false = false := rfl
   obtain rfl := anF h44 h32
   exact vb h44 (ps (ps (ps (ps (va (.bool false) (va (.bool false) (wln ⟨c24, _, _, rfl, pt, us, O26, rfl⟩)))))))
  rintro e_ w_ ⟨c45, g46, _, rfl, l45, rfl, O47, rfl⟩
  refine nrm (W.ret (bkr (thr ?_)))
  obtain rfl := si H22
  exact r1 ⟨_, c45, rfl, rfl, pt, O47, rfl⟩
 refine W.skip (bkn (nrm (sr (va (.bool false) (wln (W.ret ?_))))))
 obtain rfl := si H22
 exact r1 ⟨_, c24, rfl, rfl, pt, O26, rfl⟩
def f_cell_Sound (p0 : List G_api_Cell) : Option (Bool) :=
 (iter (σ := Bool × Int) (τ := Bool ⊕ Bool) (((p0.length : Int) - 0).toNat + 1) (fun s_9 =>
 if (decide (s_9.2 < (p0.length : Int))) = true then
 (idx p0 s_9.2).bind fun x_12 =>
 (f_cell_Right x_12).bind fun x_18 =>
 (orE (!x_18) (some (!(s_9.1 == (x_12.Kind == 3))))).bind fun d_20 =>
 if d_20 = true then
 some (.inr (.inl false))
 else
 some (.inl (x_12.Kind == 2, (w64 (s_9.2 + 1))))
 else
 some (.inr (.inr (s_9.1)))) (false, 0)).bind fun o_9 =>
 match o_9 with
 | .inl o_9 =>
 some o_9
 | .inr o_9 =>
 some (!o_9)
theorem c_cell_Sound (O0 : Own c0 G F) (p0 : List G_api_Cell) {r : Bool} (h2 : Sl R_api_Cell c0 v1 p0) (H : f_cell_Sound p0 = some r) :
    Calls Tryz.prog 148 #[v1] c0.w (Post c0 fun c v => Own c G (F) ∧ v = .bool r) := by
 unfold f_cell_Sound at H
 refine en func148 rfl rfl (sr (va (.bool false) (wln (sr (va (.bool false) (wln (W.seq (sr (va (v1) (vx (ln 3 underlying69 h2) (va (.int .i64 0) (wln (W.block (bn H fun o_9 h3 H4 => lp h3 (fun s_9 => Jn c0 fun c l => Own c G (F) ∧ l = [(3, .bool s_9.1), (6, v1), (7, .int .i64 (p0.length : Int)), (8, .int .i64 s_9.2)]) (fun t => match t with | .inl x_ => (fun rr_ ex e w => ex = .ret ∧ (Jn c0 fun c l => Own c G (F) ∧ l = [(2, .bool rr_)]) e w) x_ | .inr x_ => (fun o_9_ ex e w => ex = .exit 0 ∧ (Jn c0 fun c l => Own c G (F) ∧ l = [(3, .bool o_9_)]) e w) x_) ?_ ?_ ?_))))))))))))))
 ·clear H4 h3
  intro s_9 xx_ ee_ ww_ H
  revert ee_ ww_
  rintro e_ w_ ⟨c5, g6, _, rfl, l5, rfl, O7, rfl⟩
  refine sr (va (.bool (decide (s_9.2 < (p0.length : Int)))) (wln (W.seq (cn H (fun h11 H => ?_) (fun h11 H => ?_)))))
  ·refine W.skip (nrm (W.seq (W.block (sr (bn H fun x_12 h12 H => ?_)))))
   obtain ⟨l_13, h14, m15⟩ := Sl.at (h2.mono l5) (idx_get h12)
   obtain ⟨v16, rfl, h17⟩ := h14
   refine vx (ix underlying69 h2.m h12) (vx (lN 101 m15) (me (al 101 [.int .i64 0, .slice none 0 0] O7) ?_))
   rintro v21 c20 l20 ⟨b18, rfl, O19⟩
   obtain ⟨a22, a23, a24, rfl⟩ := ((h17.mono l20)).form
   refine md (sA 101 [.int .i64 x_12.Kind, .slice a22 a23 a24] 0 O19 ⟨rfl, h17.m.one, trivial⟩) ?_
   rintro c26 l26 O25
   refine wln (W.seq (W.seq (bn H fun x_18 h27 H => bn H fun d_20 h28 H => W.join (Jn c26 fun c l => Own c G (⟨.pointer (some ⟨b18, 0, none⟩), 101, [.int .i64 x_12.Kind, .slice a22 a23 a24], 0⟩ :: F) ∧ l = [(5, .pointer (some ⟨b18, 0, none⟩)), (6, v1), (7, .int .i64 (p0.length : Int)), (8, .int .i64 s_9.2), (21, .bool d_20)]) ?_ ?_)))
   ·clear H
    refine W.region (vx (leN 101 0 [.int .i64 x_12.Kind, .slice a22 a23 a24] (O25.on 0 rfl)) (cl (c_cell_Right O25 x_12 h17.m h27) ?_))
    rintro v34 c33 l33 ⟨O30, rfl⟩
    refine va (.bool (!x_18)) ?_
    rcases bo (!x_18) with h35 | h35
    ·obtain rfl := orT h35 h28
     exact vb h35 (ps (ps (ps (ps (ps (va (.bool true) (wln ⟨c33, _, _, rfl, pt, us, O30, rfl⟩)))))))
    have H36 := orF h35 h28
    refine vb h35 (wn (va (.bool s_9.1) (wn (va (.pointer (some ⟨b18, 0, none⟩)) (wn (vx (le1 0 underlying3 (O30.on 0 rfl)) (wn (va (.bool (x_12.Kind == 3)) (wn (va (.bool (!(s_9.1 == (x_12.Kind == 3)))) ?_))))))))))
    obtain rfl := si H36
    exact va (.bool (!(s_9.1 == (x_12.Kind == 3)))) (wln ⟨c33, _, _, rfl, pt, us, O30, rfl⟩)
   rintro e_ w_ ⟨c37, g38, _, rfl, l37, rfl, O39, rfl⟩
   refine nrm (cn H (fun h43 H => ?_) (fun h43 H => ?_))
   ·refine sr (va (.bool false) (wln (W.ret (thr (bkr (thr ?_))))))
    obtain rfl := si H
    refine ⟨_, rfl, ⟨rfl, ?_⟩⟩
    have O44 := O39.sD 1 []
    exact ⟨c37, _, _, rfl, pt, us, O44, rfl⟩
   refine W.skip (nrm (W.region (va (.pointer (some ⟨b18, 0, none⟩)) (vx (le1 0 underlying3 (O39.on 0 rfl)) (va (.bool (x_12.Kind == 2)) (va (.bool (x_12.Kind == 2)) (WL.nil (bkn (nrm (W.region (va (.int .i64 (w64 (s_9.2 + 1))) (va (.int .i64 (w64 (s_9.2 + 1))) (WL.nil ?_)))))))))))))
   obtain rfl := si H
   refine ⟨_, rfl, ?_⟩
   have O45 := O39.sD 1 []
   exact ⟨c37, _, _, rfl, pt, us, O45, rfl⟩
  refine W.exit (thx ?_)
  obtain rfl := si H
  exact ⟨_, rfl, rfl, ⟨c5, _, _, rfl, pt, us, O7, rfl⟩⟩
 ·exact ⟨c0, _, _, rfl, pt, us, O0, rfl⟩
 rcases o_9 with o_9 | o_9
 ·intro ex_; revert ex_
  rintro _ e_ w_ ⟨rfl, c46, g47, _, rfl, l46, rfl, O48, rfl⟩
  refine bkr (thr ?_)
  obtain rfl := si H4
  exact r1 ⟨_, c46, rfl, rfl, pt, O48, rfl⟩
 rintro _ e_ w_ ⟨rfl, c52, g53, _, rfl, l52, rfl, O54, rfl⟩
 refine bke (nrm (sr (va (.bool o_9) (va (.bool (!o_9)) (va (.bool (!o_9)) (wln (W.ret ?_)))))))
 obtain rfl := si H4
 exact r1 ⟨_, c52, rfl, rfl, pt, O54, rfl⟩
def f_cell_Blanks (p0 : Int) : Option (List G_api_Cell) :=
 (rep (imax 0 (imin p0 1024)) (⟨0, ([] : List Int)⟩ : G_api_Cell)).bind fun x_6 =>
 some x_6
theorem c_cell_Blanks (O0 : Own c0 G F) (p0 : Int) {r : List G_api_Cell} (H : f_cell_Blanks p0 = some r) :
    Calls Tryz.prog 199 #[.int .i64 p0] c0.w (Post c0 fun c v => ∃ y1 y2, Own c G (es true R_api_Cell y1 101 y2 r :: F) ∧ v = y1 ∧ OA R_api_Cell c y1 y2 r) := by
 unfold f_cell_Blanks at H
 refine en func199 rfl rfl (sr (va (.slice none 0 0) (wln (sr (va (.int .i64 p0) (va (.int .i64 (imin p0 1024)) (va (.int .i64 (imax 0 (imin p0 1024))) (bn H fun x_6 h1 H => me (Own.mkS (kl := .i64) (kc := .i64) (R := R_api_Cell) (z := .agg #[.int .i64 0, .slice none 0 0]) (lz := [.int .i64 0, .slice none 0 0]) (x := (⟨0, ([] : List Int)⟩ : G_api_Cell)) (by_ := 32) (i := (imax 0 (imin p0 1024))) (j := (imax 0 (imin p0 1024))) true O0 (Nat.succ_pos _) h1 (Int.le_refl _) (rep_le h1) underlying69 (by kernel_rfl) rfl rfl (fun _ => ⟨(.slice none 0 0), rfl, (Sl.nl _ _)⟩) (by kernel_rfl) (by kernel_rfl)) ?_))))))))
 rintro v6 c5 l5 ⟨u3, O2, h4⟩
 refine va (v6) (wln (W.ret ?_))
 obtain rfl := si H
 exact r1 ⟨_, c5, rfl, rfl, pt, v6, u3, O2, rfl, h4⟩
def f_row_New (sg : Sto) (p0 : Int) : Option (Sto × (Option Nat)) :=
 (f_cell_Blanks (imax 1 p0)).bind fun x_5 =>
 (some (sg.add_row_Row (⟨x_5, false⟩ : G_row_Row))).bind fun s_7001 =>
 some (s_7001, (some sg.row_Row.length))
theorem c_row_New (O0 : Own c0 G F) (R0 : Rel c0 sg G) (p0 : Int) {r : Sto × (Option Nat)} (H : f_row_New sg p0 = some r) :
    Calls Tryz.prog 149 #[.int .i64 p0] c0.w (Post c0 fun c v => ∃ y1, ∃ G_ : Gm, Own c G_ (F) ∧ Rel c r.1 G_ ∧ Adds G G_ ∧ v = y1 ∧ Pt 0 c y1 r.2) := by
 unfold f_row_New at H
 refine en func149 rfl rfl (sr (va (.pointer none) (wln (sr (va (.int .i64 p0) (va (.int .i64 (imax 1 p0)) (bn H fun x_5 h1 H => cl (c_cell_Blanks O0 (imax 1 p0) h1) ?_)))))))
 rintro v2 c9 l9 ⟨_, u3, O6, rfl, h4⟩
 obtain ⟨a11, a12, a13, rfl⟩ := (h4).form
 refine va (.agg #[.slice a11 a12 a13, .bool false]) (me (al 188 [.slice a11 a12 a13, .bool false] O6) ?_)
 rintro v17 c16 l16 ⟨b14, rfl, O15⟩
 have O18 := O15.sD 2 [0, 1]
 refine bn H fun s_7001 h19 H => ?_
 obtain ⟨c20, G28, h21, l20, h22, O23, R24, h25, h26, a27⟩ := Rel.new_row_Row (E := [⟨.pointer (some ⟨b14, 0, none⟩), 188, [.slice a11 a12 a13, .bool false], 0⟩, es true R_api_Cell (.slice a11 a12 a13) 101 u3 x_5]) (F := F) (x := (⟨x_5, false⟩ : G_row_Row)) (b := b14) O18 (R0.mono (l9.trans l16)) (fun c_ hle_ => ⟨b14, (.slice a11 a12 a13), u3, rfl, rfl, ((h4.mono l16).mono hle_)⟩)
 rw [Option.some.inj h19] at R24
 refine WL.gh h21.1 ?_
 have h29 := Adds.nil (Adds.refl _) h26
 have a30 := (Adds.refl _).trans a27
 have h32 : Pt 0 c20 (.pointer (some ⟨b14, 0, none⟩)) (some sg.row_Row.length) := ⟨b14, rfl, h22⟩
 refine va (.pointer (some ⟨b14, 0, none⟩)) (wln (W.ret ?_))
 obtain rfl := si H
 exact r1 ⟨_, c20, rfl, rfl, pt, (.pointer (some ⟨b14, 0, none⟩)), G28, O23, R24, a30, rfl, h32⟩
def f_row_own (p0 : G_api_Cell) : Option (G_api_Cell) :=
 (f_slices_Clone p0.Text).bind fun x_8 =>
 some (⟨p0.Kind, x_8⟩ : G_api_Cell)
theorem c_row_own (O0 : Own c0 G F) (p0 : G_api_Cell) {r : G_api_Cell} (h2 : Sl (RI .i32) c0 v1 p0.Text) (H : f_row_own p0 = some r) :
    Calls Tryz.prog 150 #[.agg #[.int .i64 p0.Kind, v1]] c0.w (Post c0 fun c v => ∃ y1 y2, Own c G (es true (RI .i32) y1 21 y2 r.Text :: F) ∧ v = .agg #[.int .i64 r.Kind, y1] ∧ OA (RI .i32) c y1 y2 r.Text) := by
 unfold f_row_own at H
 refine en func150 rfl rfl (sr ?_)
 obtain ⟨a3, a4, a5, rfl⟩ := (h2).form
 refine me (bx 101 [.int .i64 p0.Kind, .slice a3 a4 a5] O0) ?_
 rintro v10 c9 l9 ⟨b6, rfl, O7, m8⟩
 refine me (al 101 [.int .i64 0, .slice none 0 0] O7) ?_
 rintro v14 c13 l13 ⟨b11, rfl, O12⟩
 refine wln (W.seq (rD [] (Kp G0 []) O12 ?_))
 intro c15 l15 O16
 have p17 : Kp G0 [] c15 := Kp.nil0
 refine ta 0 (.pointer (some ⟨b6, 0, none⟩)) (tx 1 (fun c' hle => l1 underlying3 ((mm m8) 0 _ rfl)) (ta 2 (.pointer (some ⟨b6, 0 + 1, none⟩)) (tx 3 (fun c' hle => l1 underlying27 ((mm m8) 1 _ rfl)) (bn H fun x_8 h18 H => o1 4 (gc 4 (c_slices_Clone O16 p0.Text h2.m h18) ?_)))))
 rintro v19 c26 l26 ⟨_, u20, O23, rfl, h21⟩
 have p28 : Kp G0 [] c26 := Kp.nil0
 refine ⟨.inr p28, ?_⟩
 obtain ⟨a29, a30, a31, rfl⟩ := (h21).form
 refine ta 5 (.agg #[.int .i64 p0.Kind, .slice a29 a30 a31]) (o1 6 (gD 6 (sA 101 [.int .i64 p0.Kind, .slice a29 a30 a31] 1 O23 ⟨rfl, (h21).one, trivial⟩) ?_))
 rintro c33 l33 O32
 have p34 : Kp G0 [] c33 := Kp.nil0
 refine ⟨.inr p34, dn (nrm (W.ret ?_))⟩
 obtain rfl := si H
 have O35 := O32.sD 2 [0]
 exact retC (c := c33) (vs := [.int .i64 p0.Kind, .slice a29 a30 a31]) rfl (by kernel_rfl) (by kernel_rfl) (by kernel_rfl) (O32.on 1 rfl _ rfl).1 ⟨_, c33, rfl, rfl, pt, (.slice a29 a30 a31), u20, O35, rfl, h21.m⟩
def f_row_Of (sg : Sto) (p0 : List G_api_Cell) : Option (Sto × (Option Nat) × Er) :=
 (orE ((p0.length : Int) == 0) (some (decide ((p0.length : Int) > 1024)))).bind fun d_7 =>
 if d_7 = true then
 some (sg, (none : Option Nat), (Er.sent 0))
 else
 (f_cell_Sound p0).bind fun x_19 =>
 if (!x_19) = true then
 some (sg, (none : Option Nat), (Er.sent 4))
 else
 (f_row_New sg (p0.length : Int)).bind fun x_29 =>
 (iter (σ := Int × Sto) (τ := Sto) (((p0.length : Int) - 0).toNat + 1) (fun s_36 =>
 if (decide (s_36.1 < (p0.length : Int))) = true then
 (idx p0 s_36.1).bind fun x_40 =>
 (x_29.2).bind fun k_47 =>
 (s_36.2.row_Row[k_47]?).bind fun o_49 =>
 (f_row_own x_40).bind fun x_52 =>
 (idx o_49.cells s_36.1).bind fun x_53 =>
 (sets o_49.cells s_36.1 x_52).bind fun w_54 =>
 (s_36.2.set_row_Row k_47 (⟨w_54, o_49.wrap⟩ : G_row_Row)).bind fun s_54001 =>
 some (.inl ((w64 (s_36.1 + 1)), s_54001))
 else
 some (.inr (s_36.2))) (0, x_29.1)).bind fun o_36 =>
 some (o_36, x_29.2, Er.nil)
theorem c_row_Of (O0 : Own c0 G F) (R0 : Rel c0 sg G) (hG : Gl [0, 4] c0) (p0 : List G_api_Cell) {r : Sto × (Option Nat) × Er} (h2 : Sl R_api_Cell c0 v1 p0) (H : f_row_Of sg p0 = some r) :
    Calls Tryz.prog 78 #[v1] c0.w (Post c0 fun c v => ∃ y1 y2, ∃ G_ : Gm, Own c G_ (F) ∧ Rel c r.1 G_ ∧ v = .tuple #[y1, y2] ∧ Pt 0 c y1 r.2.1 ∧ RE 305 179 c y2 r.2.2) := by
 unfold f_row_Of at H
 refine en func78 rfl rfl (sr (va (.pointer none) (va (.nilIface) (wln (W.seq (W.block (W.seq (bn H fun d_7 h3 H => W.join (Jn c0 fun c l => Own c G (F) ∧ l = [(0, v1), (7, .bool d_7)]) ?_ ?_))))))))
 ·clear H
  refine W.region (va (v1) (vx (ln 3 underlying69 h2) (va (.bool ((p0.length : Int) == 0)) ?_)))
  rcases bo ((p0.length : Int) == 0) with h4 | h4
  ·obtain rfl := orT h4 h3
   exact vb h4 (ps (ps (ps (va (.bool true) (va (.bool true) (wln ⟨c0, _, _, rfl, pt, us, O0, rfl⟩))))))
  have H5 := orF h4 h3
  refine vb h4 (wn (va (v1) (wn (vx (ln 3 underlying69 h2) (wn (va (.bool (decide ((p0.length : Int) > 1024))) ?_))))))
  obtain rfl := si H5
  exact va (.bool (decide ((p0.length : Int) > 1024))) (va (.bool (decide ((p0.length : Int) > 1024))) (wln ⟨c0, _, _, rfl, pt, us, O0, rfl⟩))
 rintro e_ w_ ⟨c6, g7, _, rfl, l6, rfl, O8, rfl⟩
 refine nrm (cn H (fun h12 H => ?_) (fun h12 H => ?_))
 ·refine W.seq (rD [] (Kp G0 []) O8 ?_)
  intro c13 l13 O14
  have p15 : Kp G0 [] c13 := Kp.nil0
  obtain ⟨v16, h17⟩ := (hG.mono (l6.trans l13)).get 0 (by decide)
  refine tx 0 (fun c' hle => l1 underlying37 h17.m.im) (ta 1 (.pointer none) (ta 2 (v16) (dn (nrm (W.ret (bkr (thr ?_)))))))
  obtain rfl := si H
  exact r2 ⟨_, c13, rfl, rfl, pt, (.pointer none), v16, G, O14, R0.m, rfl, rfl, h17⟩
 refine sr (va (v1) (bn H fun x_19 h18 H => cl (c_cell_Sound O8 p0 h2.m h18) ?_))
 rintro v24 c23 l23 ⟨O20, rfl⟩
 refine va (.bool (!x_19)) (va (.bool (!x_19)) (wln (cn H (fun h25 H => ?_) (fun h25 H => ?_))))
 ·refine W.seq (rD [] (Kp G0 []) O20 ?_)
  intro c26 l26 O27
  have p28 : Kp G0 [] c26 := Kp.nil0
  obtain ⟨v29, h30⟩ := (hG.mono (l6.trans (l23.trans l26))).get 4 (by decide)
  refine tx 0 (fun c' hle => l1 underlying37 h30.m.im) (ta 1 (.pointer none) (ta 2 (v29) (dn (nrm (W.ret (bkr (thr ?_)))))))
  obtain rfl := si H
  exact r2 ⟨_, c26, rfl, rfl, pt, (.pointer none), v29, G, O27, R0.m, rfl, rfl, h30⟩
 refine W.skip (bkn (nrm (sr (va (v1) (vx (ln 3 underlying69 h2.m) (bn H fun x_29 h31 H => cl (c_row_New O20 R0.m (p0.length : Int) h31) ?_))))))
 rintro v32 c38 l38 ⟨_, G34, O35, R36, a37, rfl, h33⟩
 refine va (v32) (wln (W.seq (sr (va (v1) (vx (ln 3 underlying69 h2.m) (va (.int .i64 0) (wln (W.block (bn H fun o_36 h40 H41 => lp h40 (fun s_36 => Jn c38 fun c l => ∃ G_, Own c G_ (F) ∧ l = [(4, v32), (25, v1), (26, .int .i64 (p0.length : Int)), (27, .int .i64 s_36.1)] ∧ Rel c s_36.2 G_) (fun o_36_ ex e w => ex = .exit 1 ∧ (Jn c38 fun c l => ∃ G_, Own c G_ (F) ∧ l = [(4, v32)] ∧ Rel c o_36_ G_) e w) ?_ ?_ ?_)))))))))
 ·clear H41 h40
  intro s_36 xx_ ee_ ww_ H
  revert ee_ ww_
  rintro e_ w_ ⟨c42, g43, _, rfl, l42, rfl, G45, O44, rfl, R46⟩
  refine sr (va (.bool (decide (s_36.1 < (p0.length : Int)))) (wln (W.seq (cn H (fun h48 H => ?_) (fun h48 H => ?_)))))
  ·refine W.skip (nrm (W.seq (W.block (sr (va (.int .i64 s_36.1) (bn H fun x_40 h49 H => ?_))))))
   obtain ⟨l_50, h51, m52⟩ := Sl.at (h2.mono (l6.trans (l23.trans (l38.trans l42)))) (idx_get h49)
   obtain ⟨v53, rfl, h54⟩ := h51
   refine vx (ix underlying69 h2.m h49) (vx (lN 101 m52) (me (al 101 [.int .i64 0, .slice none 0 0] O44) ?_))
   rintro v58 c57 l57 ⟨b55, rfl, O56⟩
   refine va (.int .i64 s_36.1) ?_
   obtain ⟨a59, a60, a61, rfl⟩ := ((h54.mono l57)).form
   refine md (sA 101 [.int .i64 x_40.Kind, .slice a59 a60 a61] 0 O56 ⟨rfl, h54.m.one, trivial⟩) ?_
   rintro c63 l63 O62
   refine wln (rD [8] (Kp G45 [⟨.pointer (some ⟨b55, 0, none⟩), 101, [.int .i64 x_40.Kind, .slice a59 a60 a61], 0⟩]) O62 ?_)
   intro c64 l64 O65
   have p66 : Kp G45 [⟨.pointer (some ⟨b55, 0, none⟩), 101, [.int .i64 x_40.Kind, .slice a59 a60 a61], 0⟩] c64 := (Kp.cons (O65.on 0 rfl) (Kp.nil O65))
   refine ta 0 (v32) (bn H fun k_47 h69 H => ?_)
   obtain ⟨b67, rfl, h68⟩ := ((h33.mono (l42.trans (l57.trans (l63.trans l64))))).get h69
   refine ta 1 (.pointer (some ⟨b67, 0, none⟩)) (ta 2 (.pointer (some ⟨b67, 0, none⟩)) (bn H fun o_49 h70 H => ?_))
   obtain ⟨v71, u72, h74, h73⟩ := Rel.open_row_Row (R46.mono (l57.trans (l63.trans l64))) h70 h68
   refine tkx 3 p66 (fun c' hle hk => le1 0 underlying69 (hk.gon h74 0 rfl)) (ta 4 (.int .i64 s_36.1) (tkx 5 p66 (fun c' hle hk => leN 101 0 [.int .i64 x_40.Kind, .slice a59 a60 a61] (hk.on 0 rfl)) (bn H fun x_52 h75 H => o1 6 (gc 6 (c_row_own O65 x_40 h54.m h75) ?_))))
   rintro v84 c83 l83 ⟨v76, u77, O80, rfl, h78⟩
   have p85 : Kp G45 [⟨.pointer (some ⟨b55, 0, none⟩), 101, [.int .i64 x_40.Kind, .slice a59 a60 a61], 0⟩] c83 := (Kp.cons (O80.on 1 rfl) (Kp.nil O80))
   refine ⟨.inr p85, bn H fun x_53 h86 H => tx 7 (fun c' hle => ixO underlying69 h73.m h86) ?_⟩
   obtain ⟨c89, h90, l89, O87, h88⟩ := O80.frz 0 rfl h78
   have p91 : Kp G45 [⟨.pointer (some ⟨b55, 0, none⟩), 101, [.int .i64 x_40.Kind, .slice a59 a60 a61], 0⟩] c89 := (Kp.cons (O87.on 1 rfl) (Kp.nil O87))
   refine AC.gh h90 l89 (fun _ => p91) ?_
   obtain ⟨a92, a93, a94, rfl⟩ := (h88).form
   have O95 := O87.borrow 1 h74 rfl
   refine bn H fun w_54 h96 H => o1 8 (gD 8 (Own.stW (R := R_api_Cell) (T := 101) (us := [.int .i64 x_52.Kind, .slice a92 a93 a94]) (x' := x_52) (u := .agg #[.int .i64 x_52.Kind, .slice a92 a93 a94]) 0 O95 (by kernel_rfl) rfl h73.m h96 rfl (by kernel_rfl) ⟨rfl, h88.one, trivial⟩ rfl ⟨(.slice a92 a93 a94), rfl, h88⟩) ?_)
   rintro c100 l100 ⟨u98, O97, h99⟩
   have O101 := O97.giveB 1 rfl
   refine bn H fun s_54001 h106 H => ?_
   obtain ⟨G102, O103, R104, h105, a107⟩ := Rel.put_row_Row O101 (R46.mono (l57.trans (l63.trans (l64.trans (l83.trans (l89.trans l100)))))) (E' := [⟨.pointer (some ⟨b67, 0, none⟩), 188, [v71, .bool o_49.wrap], 0⟩, es true R_api_Cell v71 101 u98 w_54]) h106 ⟨b67, v71, u98, (tm h68), rfl, h99⟩
   refine ⟨.inl rfl, dn (bkn (nrm (W.region (va (.int .i64 (w64 (s_36.1 + 1))) (va (.int .i64 (w64 (s_36.1 + 1))) (WL.nil ?_))))))⟩
   obtain rfl := si H
   refine ⟨_, rfl, ?_⟩
   have O108 := O103.sD 2 []
   exact ⟨c100, _, _, rfl, pt, us, G102, O108, rfl, R104⟩
  refine W.exit (thx ?_)
  obtain rfl := si H
  exact ⟨_, rfl, rfl, ⟨c42, _, _, rfl, pt, us, G45, O44, rfl, R46⟩⟩
 ·exact ⟨c38, _, _, rfl, pt, us, G34, O35, rfl, R36⟩
 rintro _ e_ w_ ⟨rfl, c109, g110, _, rfl, l109, rfl, G112, O111, rfl, R113⟩
 refine bke (nrm (sr (va (v32) (va (v32) (va (.nilIface) (wln (W.ret ?_)))))))
 obtain rfl := si H41
 exact r2 ⟨_, c109, rfl, rfl, pt, v32, .nilIface, G112, O111, R113, rfl, h33.m, rfl⟩
def f_row_Row_Wide (sg : Sto) (p0 : Option Nat) : Option (Int) :=
 if p0.isNone = true then
 some 0
 else
 (p0).bind fun k_9 =>
 (sg.row_Row[k_9]?).bind fun o_11 =>
 some (o_11.cells.length : Int)
theorem c_row_Row_Wide (O0 : Own c0 G F) (R0 : Rel c0 sg G) (p0 : Option Nat) {r : Int} (h2 : Pt 0 c0 v1 p0) (H : f_row_Row_Wide sg p0 = some r) :
    Calls Tryz.prog 79 #[v1] c0.w (Post c0 fun c v => Own c G (F) ∧ v = .int .i64 r) := by
 unfold f_row_Row_Wide at H
 refine en func79 rfl rfl (sr (va (.int .i64 0) (wln (W.seq (sr (va (v1) (vr (.bool p0.isNone) (by rcases (h2).cs with ⟨h1_, h2_⟩ | ⟨b_, h1_, h2_⟩ <;> (subst h1_; rw [h2_]; kernel_rfl)) (wln (cn H (fun h3 H => ?_) (fun h3 H => ?_))))))))))
 ·refine sr (va (.int .i64 0) (wln (W.ret (thr ?_))))
  obtain rfl := si H
  exact r1 ⟨_, c0, rfl, rfl, pt, O0, rfl⟩
 refine W.skip (nrm (sr (va (v1) (bn H fun k_9 h6 H => ?_))))
 obtain ⟨b4, rfl, h5⟩ := (h2).get h6
 refine va (.pointer (some ⟨b4, 0, none⟩)) (va (.pointer (some ⟨b4, 0, none⟩)) (bn H fun o_11 h7 H => ?_))
 obtain ⟨v8, u9, h11, h10⟩ := Rel.open_row_Row R0 h7 h5
 refine vx (le1 0 underlying69 (O0.gon h11 0 rfl)) (vx (lnO 3 underlying69 h10) (va (.int .i64 (o_11.cells.length : Int)) (wln (W.ret ?_))))
 obtain rfl := si H
 exact r1 ⟨_, c0, rfl, rfl, pt, O0, rfl⟩
def f_row_Row_Cells (sg : Sto) (p0 : Option Nat) : Option (List G_api_Cell) :=
 (f_row_Row_Wide sg p0).bind fun x_6 =>
 (iter (σ := (List G_api_Cell) × Int) (τ := (List G_api_Cell)) ((x_6 - 0).toNat + 1) (fun s_9 =>
 if (decide (s_9.2 < x_6)) = true then
 (p0).bind fun k_17 =>
 (sg.row_Row[k_17]?).bind fun o_19 =>
 (idx o_19.cells s_9.2).bind fun x_21 =>
 (f_row_own x_21).bind fun x_23 =>
 (app s_9.1 ([x_23] : List G_api_Cell)).bind fun x_25 =>
 some (.inl (x_25, (w64 (s_9.2 + 1))))
 else
 some (.inr (s_9.1))) (([] : List G_api_Cell), 0)).bind fun o_9 =>
 some o_9
theorem c_row_Row_Cells (O0 : Own c0 G F) (R0 : Rel c0 sg G) (p0 : Option Nat) {r : List G_api_Cell} (h2 : Pt 0 c0 v1 p0) (H : f_row_Row_Cells sg p0 = some r) :
    Calls Tryz.prog 103 #[v1] c0.w (Post c0 fun c v => ∃ y1 y2, Own c G (es true R_api_Cell y1 101 y2 r :: F) ∧ v = y1 ∧ OA R_api_Cell c y1 y2 r) := by
 unfold f_row_Row_Cells at H
 refine en func103 rfl rfl (sr (va (.slice none 0 0) (wln (sr (va (.slice none 0 0) (wln (W.seq (sr (va (v1) (bn H fun x_6 h3 H => cl (c_row_Row_Wide O0 R0 p0 h2 h3) ?_))))))))))
 rintro v9 c8 l8 ⟨O5, rfl⟩
 refine va (.int .i64 0) (wln (W.block (bn H fun o_9 h10 H11 => lp h10 (fun s_9 => Jn c8 fun c l => ∃ v12 u13, Own c G (es true R_api_Cell v12 101 u13 s_9.1 :: F) ∧ l = [(0, v1), (3, v12), (6, .int .i64 x_6), (7, .int .i64 s_9.2)] ∧ OA R_api_Cell c v12 u13 s_9.1) (fun o_9_ ex e w => ex = .exit 0 ∧ (Jn c8 fun c l => ∃ v14 u15, Own c G (es true R_api_Cell v14 101 u15 o_9_ :: F) ∧ l = [(3, v14)] ∧ OA R_api_Cell c v14 u15 o_9_) e w) ?_ ?_ ?_)))
 ·clear H11 h10
  intro s_9 xx_ ee_ ww_ H
  revert ee_ ww_
  rintro e_ w_ ⟨c16, g17, _, rfl, l16, rfl, v12, u13, O18, rfl, h19⟩
  refine sr (va (.bool (decide (s_9.2 < x_6))) (wln (W.seq (cn H (fun h23 H => ?_) (fun h23 H => ?_)))))
  ·refine W.skip (nrm (W.seq (W.block (sr (va (.int .i64 s_9.2) (va (.int .i64 s_9.2) (wln (W.region (va (v12) (va (v1) (bn H fun k_17 h26 H => ?_)))))))))))
   obtain ⟨b24, rfl, h25⟩ := ((h2.mono (l8.trans l16))).get h26
   refine va (.pointer (some ⟨b24, 0, none⟩)) (va (.pointer (some ⟨b24, 0, none⟩)) (bn H fun o_19 h27 H => ?_))
   obtain ⟨v28, u29, h31, h30⟩ := Rel.open_row_Row (R0.mono (l8.trans l16)) h27 h25
   refine vx (le1 0 underlying69 (O18.gon h31 0 rfl)) (va (.int .i64 s_9.2) (bn H fun x_21 h32 H => vx (ixO underlying69 h30 h32) ?_))
   obtain ⟨l_33, h34, m35⟩ := OA.at h30 h32
   obtain ⟨v36, rfl, h37⟩ := h34
   refine vr (.agg #[.int .i64 x_21.Kind, v36]) (rx (by kernel_rfl) (ldEN (T := 101) (l := [.int .i64 x_21.Kind, v36]) (by kernel_rfl) (by kernel_rfl) (O18.gon h31 1 rfl) (h30.blk h32) (at2 (j := 0) m35 rfl))) (bn H fun x_23 h38 H => cl (c_row_own O18 x_21 h37 h38) ?_)
   rintro v47 c46 l46 ⟨v39, u40, O43, rfl, h41⟩
   obtain ⟨c50, h51, l50, O48, h49⟩ := O43.frz 0 rfl h41
   refine WL.gh h51 ?_
   obtain ⟨a52, a53, a54, rfl⟩ := (h49).form
   refine me (sl R_api_Cell 101 [[.int .i64 x_23.Kind, .slice a52 a53 a54]] ([x_23] : List G_api_Cell) O48 ⟨⟨(.slice a52 a53 a54), rfl, h49⟩, trivial⟩) ?_
   rintro v59 c58 l58 ⟨u56, O55, h57⟩
   obtain ⟨c62, h63, l62, O60, h61⟩ := O55.frz 0 rfl h57
   refine WL.gh h63 (bn H fun x_25 h64 H => me (ap R_api_Cell (.agg #[.int .i64 0, .slice none 0 0]) 32 69 2 O60 h19.m h61 h64 underlying69) ?_)
   rintro v69 c68 l68 ⟨u66, O65, h67⟩
   refine va (v69) (WL.nil (bkn (nrm (W.region (va (.int .i64 (w64 (s_9.2 + 1))) (va (.int .i64 (w64 (s_9.2 + 1))) (WL.nil ?_)))))))
   obtain rfl := si H
   refine ⟨_, rfl, ?_⟩
   have O70 := O65.sD 3 [2]
   exact ⟨c68, _, _, rfl, pt, us, v69, u66, O70, rfl, h67⟩
  refine W.exit (thx ?_)
  obtain rfl := si H
  exact ⟨_, rfl, rfl, ⟨c16, _, _, rfl, pt, us, v12, u13, O18, rfl, h19⟩⟩
 ·have h72 : OA R_api_Cell c8 (.slice none 0 0) [] [] := OA.nil (Nat.succ_pos _)
  have O71 := O5.addHole (e := es true R_api_Cell (.slice none 0 0) 101 [] ([] : List G_api_Cell)) rfl
  exact ⟨c8, _, _, rfl, pt, us, (.slice none 0 0), [], O71, rfl, h72⟩
 rintro _ e_ w_ ⟨rfl, c73, g74, _, rfl, l73, rfl, v14, u15, O75, rfl, h76⟩
 refine bke (nrm (sr (va (v14) (va (v14) (wln (W.ret ?_))))))
 obtain rfl := si H11
 exact r1 ⟨_, c73, rfl, rfl, pt, v14, u15, O75, rfl, h76⟩
def f_row_Row_Cell (sg : Sto) (p0 : Option Nat) (p1 : Int) : Option (G_api_Cell × Bool) :=
 (orE (decide (p1 < 0)) ((f_row_Row_Wide sg p0).bind fun x_10 =>
 some (decide (p1 ≥ x_10)))).bind fun d_6 =>
 if d_6 = true then
 some ((⟨0, ([] : List Int)⟩ : G_api_Cell), false)
 else
 (p0).bind fun k_18 =>
 (sg.row_Row[k_18]?).bind fun o_20 =>
 (idx o_20.cells p1).bind fun x_22 =>
 (f_row_own x_22).bind fun x_24 =>
 some (x_24, true)
theorem c_row_Row_Cell (O0 : Own c0 G F) (R0 : Rel c0 sg G) (p0 : Option Nat) (p1 : Int) {r : G_api_Cell × Bool} (h2 : Pt 0 c0 v1 p0) (H : f_row_Row_Cell sg p0 p1 = some r) :
    Calls Tryz.prog 113 #[v1, .int .i64 p1] c0.w (Post c0 fun c v => ∃ y1 y2, Own c G (es true (RI .i32) y1 21 y2 r.1.Text :: F) ∧ v = .tuple #[.agg #[.int .i64 r.1.Kind, y1], .bool r.2] ∧ OA (RI .i32) c y1 y2 r.1.Text) := by
 unfold f_row_Row_Cell at H
 refine en func113 rfl rfl (sr (me (al 101 [.int .i64 0, .slice none 0 0] O0) ?_))
 rintro v6 c5 l5 ⟨b3, rfl, O4⟩
 refine va (.bool false) (wln (W.seq (W.seq (bn H fun d_6 h7 H => W.join (Jn c5 fun c l => Own c G (⟨.pointer (some ⟨b3, 0, none⟩), 101, [.int .i64 0, .slice none 0 0], 0⟩ :: F) ∧ l = [(0, v1), (1, .int .i64 p1), (4, .pointer (some ⟨b3, 0, none⟩)), (13, .bool d_6)]) ?_ ?_))))
 ·clear H
  refine W.region (va (.int .i64 p1) (va (.bool (decide (p1 < 0))) ?_))
  rcases bo (decide (p1 < 0)) with h8 | h8
  ·obtain rfl := orT h8 h7
   exact vb h8 (ps (ps (ps (ps (va (.bool true) (wln ⟨c5, _, _, rfl, pt, us, O4, rfl⟩))))))
  have H9 := orF h8 h7
  refine vb h8 (wn (va (.int .i64 p1) (wn (va (v1) (wn (bn H9 fun x_10 h10 H9 => cl (c_row_Row_Wide O4 R0.m p0 h2.m h10) ?_))))))
  rintro v16 c15 l15 ⟨O12, rfl⟩
  refine wn (va (.bool (decide (p1 ≥ x_10))) ?_)
  obtain rfl := si H9
  exact va (.bool (decide (p1 ≥ x_10))) (wln ⟨c15, _, _, rfl, pt, us, O12, rfl⟩)
 rintro e_ w_ ⟨c17, g18, _, rfl, l17, rfl, O19, rfl⟩
 refine nrm (cn H (fun h23 H => ?_) (fun h23 H => ?_))
 ·refine sr (va (.agg #[.int .i64 0, .slice none 0 0]) (md (sA 101 [.int .i64 0, .slice none 0 0] 0 O19 ⟨rfl, rfl, trivial⟩) ?_))
  rintro c25 l25 O24
  refine va (.bool false) (wln (W.ret (thr ?_)))
  obtain rfl := si H
  have h27 : OA (RI .i32) c25 (.slice none 0 0) [] [] := OA.nil (Nat.succ_pos _)
  have O26 := O24.addHole (e := es true (RI .i32) (.slice none 0 0) 21 [] ([] : List Int)) rfl
  have O28 := O26.sD 2 [0]
  exact retCT (c := c25) (vs := [.int .i64 0, .slice none 0 0]) (v := .bool false) rfl (by kernel_rfl) (by kernel_rfl) (by kernel_rfl) (by kernel_rfl) (O26.on 1 rfl _ rfl).1 ⟨_, c25, rfl, rfl, pt, (.slice none 0 0), [], O28, rfl, h27⟩
 refine W.skip (nrm (sr (va (v1) (bn H fun k_18 h31 H => ?_))))
 obtain ⟨b29, rfl, h30⟩ := ((h2.mono (l5.trans l17))).get h31
 refine va (.pointer (some ⟨b29, 0, none⟩)) (va (.pointer (some ⟨b29, 0, none⟩)) (bn H fun o_20 h32 H => ?_))
 obtain ⟨v33, u34, h36, h35⟩ := Rel.open_row_Row (R0.mono (l5.trans l17)) h32 h30
 refine vx (le1 0 underlying69 (O19.gon h36 0 rfl)) (va (.int .i64 p1) (bn H fun x_22 h37 H => vx (ixO underlying69 h35 h37) ?_))
 obtain ⟨l_38, h39, m40⟩ := OA.at h35 h37
 obtain ⟨v41, rfl, h42⟩ := h39
 refine vr (.agg #[.int .i64 x_22.Kind, v41]) (rx (by kernel_rfl) (ldEN (T := 101) (l := [.int .i64 x_22.Kind, v41]) (by kernel_rfl) (by kernel_rfl) (O19.gon h36 1 rfl) (h35.blk h37) (at2 (j := 0) m40 rfl))) (bn H fun x_24 h43 H => cl (c_row_own O19 x_22 h42 h43) ?_)
 rintro v52 c51 l51 ⟨v44, u45, O48, rfl, h46⟩
 obtain ⟨a53, a54, a55, rfl⟩ := (h46).form
 refine md (sA 101 [.int .i64 x_24.Kind, .slice a53 a54 a55] 1 O48 ⟨rfl, (h46).one, trivial⟩) ?_
 rintro c57 l57 O56
 refine va (.bool true) (wln (W.ret ?_))
 obtain rfl := si H
 have O58 := O56.sD 2 [0]
 exact retCT (c := c57) (vs := [.int .i64 x_24.Kind, .slice a53 a54 a55]) (v := .bool true) rfl (by kernel_rfl) (by kernel_rfl) (by kernel_rfl) (by kernel_rfl) (O56.on 1 rfl _ rfl).1 ⟨_, c57, rfl, rfl, pt, (.slice a53 a54 a55), u45, O58, rfl, h46.m⟩
def f_row_Row_kind (sg : Sto) (p0 : Option Nat) (p1 : Int) : Option (Int) :=
 (orE (decide (p1 < 0)) ((f_row_Row_Wide sg p0).bind fun x_9 =>
 some (decide (p1 ≥ x_9)))).bind fun d_5 =>
 if d_5 = true then
 some 0
 else
 (p0).bind fun k_15 =>
 (sg.row_Row[k_15]?).bind fun o_17 =>
 (idx o_17.cells p1).bind fun x_19 =>
 some x_19.Kind
theorem c_row_Row_kind (O0 : Own c0 G F) (R0 : Rel c0 sg G) (p0 : Option Nat) (p1 : Int) {r : Int} (h2 : Pt 0 c0 v1 p0) (H : f_row_Row_kind sg p0 p1 = some r) :
    Calls Tryz.prog 243 #[v1, .int .i64 p1] c0.w (Post c0 fun c v => Own c G (F) ∧ v = .int .i64 r) := by
 unfold f_row_Row_kind at H
 refine en func243 rfl rfl (sr (va (.int .i64 0) (wln (W.seq (W.seq (bn H fun d_5 h3 H => W.join (Jn c0 fun c l => Own c G (F) ∧ l = [(0, v1), (1, .int .i64 p1), (12, .bool d_5)]) ?_ ?_))))))
 ·clear H
  refine W.region (va (.int .i64 p1) (va (.bool (decide (p1 < 0))) ?_))
  rcases bo (decide (p1 < 0)) with h4 | h4
  ·obtain rfl := orT h4 h3
   exact vb h4 (ps (ps (ps (ps (va (.bool true) (wln ⟨c0, _, _, rfl, pt, us, O0, rfl⟩))))))
  have H5 := orF h4 h3
  refine vb h4 (wn (va (.int .i64 p1) (wn (va (v1) (wn (bn H5 fun x_9 h6 H5 => cl (c_row_Row_Wide O0 R0 p0 h2 h6) ?_))))))
  rintro v12 c11 l11 ⟨O8, rfl⟩
  refine wn (va (.bool (decide (p1 ≥ x_9))) ?_)
  obtain rfl := si H5
  exact va (.bool (decide (p1 ≥ x_9))) (wln ⟨c11, _, _, rfl, pt, us, O8, rfl⟩)
 rintro e_ w_ ⟨c13, g14, _, rfl, l13, rfl, O15, rfl⟩
 refine nrm (cn H (fun h19 H => ?_) (fun h19 H => ?_))
 ·refine sr (va (.int .i64 0) (wln (W.ret (thr ?_))))
  obtain rfl := si H
  exact r1 ⟨_, c13, rfl, rfl, pt, O15, rfl⟩
 refine W.skip (nrm (sr (va (v1) (bn H fun k_15 h22 H => ?_))))
 obtain ⟨b20, rfl, h21⟩ := ((h2.mono l13)).get h22
 refine va (.pointer (some ⟨b20, 0, none⟩)) (va (.pointer (some ⟨b20, 0, none⟩)) (bn H fun o_17 h23 H => ?_))
 obtain ⟨v24, u25, h27, h26⟩ := Rel.open_row_Row (R0.mono l13) h23 h21
 refine vx (le1 0 underlying69 (O15.gon h27 0 rfl)) (va (.int .i64 p1) (bn H fun x_19 h28 H => vx (ixO underlying69 h26 h28) (va (.pointer (some ⟨sb v24, p1.toNat * 2, none⟩)) ?_)))
 obtain ⟨l_29, h30, m31⟩ := OA.at h26 h28
 obtain ⟨v32, rfl, h33⟩ := h30
 refine vr (.int .i64 x_19.Kind) (rx (by kernel_rfl) (ldE1 underlying3 rfl (O15.gon h27 1 rfl) (h26.blk h28) (at1 (j := 0) m31 rfl))) (va (.int .i64 x_19.Kind) (wln (W.ret ?_)))
 obtain rfl := si H
 exact r1 ⟨_, c13, rfl, rfl, pt, O15, rfl⟩
def f_row_Row_put (sg : Sto) (p0 : Option Nat) (p1 : Int) (p2 : G_api_Cell) : Option (Sto) :=
 (p0).bind fun k_4 =>
 (sg.row_Row[k_4]?).bind fun o_6 =>
 (f_row_own p2).bind fun x_9 =>
 (idx o_6.cells p1).bind fun x_10 =>
 (sets o_6.cells p1 x_9).bind fun w_11 =>
 (sg.set_row_Row k_4 (⟨w_11, o_6.wrap⟩ : G_row_Row)).bind fun s_11001 =>
 if (p1 == (w64 ((w_11.length : Int) - 1))) = true then
 (s_11001.set_row_Row k_4 (⟨w_11, false⟩ : G_row_Row)).bind fun s_25001 =>
 some s_25001
 else
 some s_11001
theorem c_row_Row_put (O0 : Own c0 G F) (R0 : Rel c0 sg G) (p0 : Option Nat) (p1 : Int) (p2 : G_api_Cell) {r : Sto} (h2 : Pt 0 c0 v1 p0) (h4 : Sl (RI .i32) c0 v3 p2.Text) (H : f_row_Row_put sg p0 p1 p2 = some r) :
    Calls Tryz.prog 244 #[v1, .int .i64 p1, .agg #[.int .i64 p2.Kind, v3]] c0.w (Post c0 fun c v => ∃ G_ : Gm, Own c G_ (F) ∧ Rel c r G_ ∧ v = .tuple #[]) := by
 unfold f_row_Row_put at H
 refine en func244 rfl rfl (sr ?_)
 obtain ⟨a5, a6, a7, rfl⟩ := (h4).form
 refine me (bx 101 [.int .i64 p2.Kind, .slice a5 a6 a7] O0) ?_
 rintro v12 c11 l11 ⟨b8, rfl, O9, m10⟩
 refine wln (W.seq (rD [8] (Kp G []) O9 ?_))
 intro c13 l13 O14
 have p15 : Kp G [] c13 := (Kp.nil O14)
 refine ta 0 (v1) (bn H fun k_4 h18 H => ?_)
 obtain ⟨b16, rfl, h17⟩ := ((h2.mono (l11.trans l13))).get h18
 refine ta 1 (.pointer (some ⟨b16, 0, none⟩)) (ta 2 (.pointer (some ⟨b16, 0, none⟩)) (bn H fun o_6 h19 H => ?_))
 obtain ⟨v20, u21, h23, h22⟩ := Rel.open_row_Row (R0.mono (l11.trans l13)) h19 h17
 refine tkx 3 p15 (fun c' hle hk => le1 0 underlying69 (hk.gon h23 0 rfl)) (ta 4 (.int .i64 p1) (tx 5 (fun c' hle => lN 101 (mm m10)) (bn H fun x_9 h24 H => o1 6 (gc 6 (c_row_own O14 p2 h4.m h24) ?_))))
 rintro v33 c32 l32 ⟨v25, u26, O29, rfl, h27⟩
 have p34 : Kp G [] c32 := (Kp.nil O29)
 refine ⟨.inr p34, bn H fun x_10 h35 H => tx 7 (fun c' hle => ixO underlying69 h22.m h35) ?_⟩
 obtain ⟨c38, h39, l38, O36, h37⟩ := O29.frz 0 rfl h27
 have p40 : Kp G [] c38 := (Kp.nil O36)
 refine AC.gh h39 l38 (fun _ => p40) ?_
 obtain ⟨a41, a42, a43, rfl⟩ := (h37).form
 have O44 := O36.borrow 1 h23 rfl
 refine bn H fun w_11 h45 H => o1 8 (gD 8 (Own.stW (R := R_api_Cell) (T := 101) (us := [.int .i64 x_9.Kind, .slice a41 a42 a43]) (x' := x_9) (u := .agg #[.int .i64 x_9.Kind, .slice a41 a42 a43]) 0 O44 (by kernel_rfl) rfl h22.m h45 rfl (by kernel_rfl) ⟨rfl, h37.one, trivial⟩ rfl ⟨(.slice a41 a42 a43), rfl, h37⟩) ?_)
 rintro c49 l49 ⟨u47, O46, h48⟩
 have O50 := O46.giveB 1 rfl
 refine bn H fun s_11001 h55 H => ?_
 obtain ⟨G51, O52, R53, h54, a56⟩ := Rel.put_row_Row O50 (R0.mono (l11.trans (l13.trans (l32.trans (l38.trans l49))))) (E' := [⟨.pointer (some ⟨b16, 0, none⟩), 188, [v20, .bool o_6.wrap], 0⟩, es true R_api_Cell v20 101 u47 w_11]) h55 ⟨b16, v20, u47, (tm h17), rfl, h48⟩
 refine ⟨.inl rfl, dn (nrm (sr (va (.int .i64 p1) (va (.pointer (some ⟨b16, 0, none⟩)) (va (.pointer (some ⟨b16, 0, none⟩)) (va (.pointer (some ⟨b16, 0, none⟩)) (vx (le1 0 underlying69 (O52.gon h54 0 rfl)) (vx (lnO 3 underlying69 h48) (va (.int .i64 (w64 ((w_11.length : Int) - 1))) (va (.bool (p1 == (w64 ((w_11.length : Int) - 1)))) (wln (cn H (fun h57 H => ?_) (fun h57 H => ?_)))))))))))))⟩
 ·refine W.region (va (.pointer (some ⟨b16, 0, none⟩)) (va (.pointer (some ⟨b16, 0, none⟩)) (va (.pointer (some ⟨b16, 1, none⟩)) (md (gC 4 1 (.bool false) [v20, .bool false] 0 O52 h54 ⟨rfl, trivial⟩) ?_))))
  rintro c59 l59 O58
  refine bn H fun s_25001 h64 H => ?_
  obtain ⟨G60, O61, R62, h63, a65⟩ := Rel.put_row_Row O58 (R53.mono l59) (E' := [⟨.pointer (some ⟨b16, 0, none⟩), 188, [v20, .bool false], 0⟩, es true R_api_Cell v20 101 u47 w_11]) h64 ⟨b16, v20, u47, (tm h17), rfl, (h48.mono l59)⟩
  refine WL.nil ?_
  obtain rfl := si H
  have O66 := O61.sD 1 []
  exact n0 ⟨_, c59, rfl, rfl, pt, G60, O66, R62, rfl⟩
 refine W.skip ?_
 obtain rfl := si H
 have O67 := O52.sD 1 []
 exact n0 ⟨_, c49, rfl, rfl, pt, G51, O67, R53, rfl⟩
def f_row_Row_Paint (sg : Sto) (p0 : Option Nat) (p1 : Int) (p2 : List G_api_Cell) : Option (Sto × Er) :=
 (orE p0.isNone (some (decide (p1 < 0)))).bind fun d_5 =>
 (orE d_5 ((p0).bind fun k_13 =>
 (sg.row_Row[k_13]?).bind fun o_15 =>
 some (decide (p1 > (o_15.cells.length : Int))))).bind fun d_9 =>
 (orE d_9 ((p0).bind fun k_23 =>
 (sg.row_Row[k_23]?).bind fun o_25 =>
 some (decide ((p2.length : Int) > (w64 ((o_25.cells.length : Int) - p1)))))).bind fun d_18 =>
 if d_18 = true then
 some (sg, (Er.sent 0))
 else
 (f_cell_Sound p2).bind fun x_36 =>
 if (!x_36) = true then
 some (sg, (Er.sent 4))
 else
 if ((p2.length : Int) == 0) = true then
 some (sg, Er.nil)
 else
 ((f_row_Row_kind sg p0 p1).bind fun x_53 =>
 if (x_53 == 3) = true then
 (f_row_Row_put sg p0 (w64 (p1 - 1)) (⟨0, ([] : List Int)⟩ : G_api_Cell)).bind fun x_60 =>
 (some (x_60) : Option (Sto))
 else
 (some (sg) : Option (Sto))).bind fun z_50 =>
 ((f_row_Row_kind z_50 p0 (w64 (p1 + (p2.length : Int)))).bind fun x_71 =>
 if (x_71 == 3) = true then
 (f_row_Row_put z_50 p0 (w64 (p1 + (p2.length : Int))) (⟨0, ([] : List Int)⟩ : G_api_Cell)).bind fun x_77 =>
 (some (x_77) : Option (Sto))
 else
 (some (z_50) : Option (Sto))).bind fun z_62 =>
 (iter (σ := Int × Sto) (τ := Sto) (((p2.length : Int) - 0).toNat + 1) (fun s_83 =>
 if (decide (s_83.1 < (p2.length : Int))) = true then
 (idx p2 s_83.1).bind fun x_87 =>
 (f_row_Row_put s_83.2 p0 (w64 (p1 + s_83.1)) x_87).bind fun x_98 =>
 some (.inl ((w64 (s_83.1 + 1)), x_98))
 else
 some (.inr (s_83.2))) (0, z_62)).bind fun o_83 =>
 some (o_83, Er.nil)
theorem c_row_Row_Paint (O0 : Own c0 G F) (R0 : Rel c0 sg G) (hG : Gl [0, 4] c0) (p0 : Option Nat) (p1 : Int) (p2 : List G_api_Cell) {r : Sto × Er} (h2 : Pt 0 c0 v1 p0) (h4 : Sl R_api_Cell c0 v3 p2) (H : f_row_Row_Paint sg p0 p1 p2 = some r) :
    Calls Tryz.prog 198 #[v1, .int .i64 p1, v3] c0.w (Post c0 fun c v => ∃ y1, ∃ G_ : Gm, Own c G_ (F) ∧ Rel c r.1 G_ ∧ v = y1 ∧ RE 305 179 c y1 r.2) := by
 unfold f_row_Row_Paint at H
 refine en func198 rfl rfl (sr (va (.nilIface) (wln (W.seq (W.block (W.seq (bn H fun d_5 h5 H => bn H fun d_9 h6 H => bn H fun d_18 h7 H => W.join (Jn c0 fun c l => Own c G (F) ∧ l = [(0, v1), (1, .int .i64 p1), (2, v3), (10, .bool d_18)]) ?_ ?_)))))))
 ·clear H
  refine W.region (va (v1) (vr (.bool p0.isNone) (by rcases (h2).cs with ⟨h1_, h2_⟩ | ⟨b_, h1_, h2_⟩ <;> (subst h1_; rw [h2_]; kernel_rfl)) ?_))
  rcases bo (p0.isNone) with h8 | h8
  ·obtain rfl := orT h8 h5
   refine vb h8 (ps (ps (va (.bool true) ?_)))
   have h9 : true = true := rfl
   obtain rfl := orT h9 h6
   refine vb h9 (ps (ps (ps (ps (ps (ps (ps (va (.bool true) ?_))))))))
   have h10 : true = true := rfl
   obtain rfl := orT h10 h7
   exact vb h10 (ps (ps (ps (ps (ps (ps (ps (ps (ps (ps (va (.bool true) (va (.bool true) (wln ⟨c0, _, _, rfl, pt, us, O0, rfl⟩)))))))))))))
  have H11 := orF h8 h5
  refine vb h8 (wn (va (.int .i64 p1) (wn (va (.bool (decide (p1 < 0))) ?_))))
  obtain rfl := si H11
  refine va (.bool (decide (p1 < 0))) ?_
  rcases bo (decide (p1 < 0)) with h12 | h12
  ·obtain rfl := orT h12 h6
   refine vb h12 (ps (ps (ps (ps (ps (ps (ps (va (.bool true) ?_))))))))
   have h13 : true = true := rfl
   obtain rfl := orT h13 h7
   exact vb h13 (ps (ps (ps (ps (ps (ps (ps (ps (ps (ps (va (.bool true) (va (.bool true) (wln ⟨c0, _, _, rfl, pt, us, O0, rfl⟩)))))))))))))
  have H14 := orF h12 h6
  refine vb h12 (wn (va (.int .i64 p1) (wn (va (v1) (wn (bn H14 fun k_13 h17 H14 => ?_))))))
  obtain ⟨b15, rfl, h16⟩ := (h2).get h17
  refine va (.pointer (some ⟨b15, 0, none⟩)) (wn (va (.pointer (some ⟨b15, 0, none⟩)) (wn (bn H14 fun o_15 h18 H14 => ?_))))
  obtain ⟨v19, u20, h22, h21⟩ := Rel.open_row_Row R0 h18 h16
  refine vx (le1 0 underlying69 (O0.gon h22 0 rfl)) (wn (vx (lnO 3 underlying69 h21) (wn (va (.bool (decide (p1 > (o_15.cells.length : Int)))) ?_))))
  obtain rfl := si H14
  refine va (.bool (decide (p1 > (o_15.cells.length : Int)))) ?_
  rcases bo (decide (p1 > (o_15.cells.length : Int))) with h23 | h23
  ·obtain rfl := orT h23 h7
   exact vb h23 (ps (ps (ps (ps (ps (ps (ps (ps (ps (ps (va (.bool true) (va (.bool true) (wln ⟨c0, _, _, rfl, pt, us, O0, rfl⟩)))))))))))))
  have H24 := orF h23 h7
  refine vb h23 (wn (va (v3) (wn (vx (ln 3 underlying69 h4) (wn (va (.pointer (some ⟨b15, 0, none⟩)) (wn (bn H24 fun k_23 h27 H24 => ?_))))))))
  have h26 := (h2).get2 h27
  refine va (.pointer (some ⟨b15, 0, none⟩)) (wn (va (.pointer (some ⟨b15, 0, none⟩)) (wn (bn H24 fun o_25 h28 H24 => ?_))))
  obtain ⟨v29, u30, h32, h31⟩ := Rel.open_row_Row R0 h28 h26
  refine vx (le1 0 underlying69 (O0.gon h32 0 rfl)) (wn (vx (lnO 3 underlying69 h31) (wn (va (.int .i64 p1) (wn (va (.int .i64 (w64 ((o_25.cells.length : Int) - p1))) (wn (va (.bool (decide ((p2.length : Int) > (w64 ((o_25.cells.length : Int) - p1))))) ?_))))))))
  obtain rfl := si H24
  exact va (.bool (decide ((p2.length : Int) > (w64 ((o_25.cells.length : Int) - p1))))) (va (.bool (decide ((p2.length : Int) > (w64 ((o_25.cells.length : Int) - p1))))) (wln ⟨c0, _, _, rfl, pt, us, O0, rfl⟩))
 rintro e_ w_ ⟨c33, g34, _, rfl, l33, rfl, O35, rfl⟩
 refine nrm (cn H (fun h39 H => ?_) (fun h39 H => ?_))
 ·refine sr ?_
  obtain ⟨v40, h41⟩ := (hG.mono l33).get 0 (by decide)
  refine vx (l1 underlying37 h41.im) (va (v40) (wln (W.ret (bkr (thr ?_)))))
  obtain rfl := si H
  exact r1 ⟨_, c33, rfl, rfl, pt, v40, G, O35, R0.m, rfl, h41⟩
 refine sr (va (v3) (bn H fun x_36 h42 H => cl (c_cell_Sound O35 p2 h4.m h42) ?_))
 rintro v48 c47 l47 ⟨O44, rfl⟩
 refine va (.bool (!x_36)) (va (.bool (!x_36)) (wln (cn H (fun h49 H => ?_) (fun h49 H => ?_))))
 ·refine sr ?_
  obtain ⟨v50, h51⟩ := (hG.mono (l33.trans l47)).get 4 (by decide)
  refine vx (l1 underlying37 h51.im) (va (v50) (wln (W.ret (bkr (thr ?_)))))
  obtain rfl := si H
  exact r1 ⟨_, c47, rfl, rfl, pt, v50, G, O44, R0.m, rfl, h51⟩
 refine sr (va (v3) (vx (ln 3 underlying69 h4.m) (va (.bool ((p2.length : Int) == 0)) (va (.bool ((p2.length : Int) == 0)) (wln (cn H (fun h52 H => ?_) (fun h52 H => ?_)))))))
 ·refine sr (va (.nilIface) (wln (W.ret (bkr (thr ?_)))))
  obtain rfl := si H
  exact r1 ⟨_, c47, rfl, rfl, pt, .nilIface, G, O44, R0.m, rfl, rfl⟩
 refine W.skip (bkn (nrm (bn H fun z_50 H53 H54 => W.seqJ (Jn c47 fun c l => ∃ G_, Own c G_ (F) ∧ l = [(0, v1), (1, .int .i64 p1), (2, v3)] ∧ Rel c z_50 G_) ?_ ?_)))
 ·refine sr (va (v1) (va (.int .i64 p1) (bn H53 fun x_53 h55 H53 => cl (c_row_Row_kind O44 R0.m p0 p1 h2.m h55) ?_)))
  rintro v61 c60 l60 ⟨O57, rfl⟩
  refine va (.bool (x_53 == 3)) (wln (cn H53 (fun h62 H53 => ?_) (fun h62 H53 => ?_)))
  ·refine W.region (va (v1) (va (.int .i64 p1) (va (.int .i64 (w64 (p1 - 1))) (va (.agg #[.int .i64 0, .slice none 0 0]) (bn H53 fun x_60 h63 H53 => cl (c_row_Row_put O57 R0.m p0 (w64 (p1 - 1)) (⟨0, ([] : List Int)⟩ : G_api_Cell) h2.m (Sl.nl _ _) h63) ?_)))))
   rintro v69 c68 l68 ⟨G64, O65, R66, rfl⟩
   refine wln ?_
   obtain rfl := si H53
   exact ⟨c68, _, _, rfl, pt, us, G64, O65, rfl, R66⟩
  refine W.skip (nrm ?_)
  obtain rfl := si H53
  exact ⟨c60, _, _, rfl, pt, us, G, O57, rfl, R0.m⟩
 rintro e_ w_ ⟨c70, g71, _, rfl, l70, rfl, G73, O72, rfl, R74⟩
 refine bn H54 fun z_62 H76 H77 => W.seqJ (Jn c70 fun c l => ∃ G_, Own c G_ (F) ∧ l = [(0, v1), (1, .int .i64 p1), (2, v3)] ∧ Rel c z_62 G_) ?_ ?_
 ·refine sr (va (.int .i64 p1) (va (v3) (vx (ln 3 underlying69 h4.m) (va (.int .i64 (w64 (p1 + (p2.length : Int)))) (va (.int .i64 (w64 (p1 + (p2.length : Int)))) (wln (sr (va (v1) (va (.int .i64 (w64 (p1 + (p2.length : Int)))) (bn H76 fun x_71 h78 H76 => cl (c_row_Row_kind O72 R74 p0 (w64 (p1 + (p2.length : Int))) h2.m h78) ?_))))))))))
  rintro v84 c83 l83 ⟨O80, rfl⟩
  refine va (.bool (x_71 == 3)) (wln (cn H76 (fun h85 H76 => ?_) (fun h85 H76 => ?_)))
  ·refine W.region (va (v1) (va (.int .i64 (w64 (p1 + (p2.length : Int)))) (va (.agg #[.int .i64 0, .slice none 0 0]) (bn H76 fun x_77 h86 H76 => cl (c_row_Row_put O80 R74.m p0 (w64 (p1 + (p2.length : Int))) (⟨0, ([] : List Int)⟩ : G_api_Cell) h2.m (Sl.nl _ _) h86) ?_))))
   rintro v92 c91 l91 ⟨G87, O88, R89, rfl⟩
   refine wln ?_
   obtain rfl := si H76
   exact ⟨c91, _, _, rfl, pt, us, G87, O88, rfl, R89⟩
  refine W.skip (nrm ?_)
  obtain rfl := si H76
  exact ⟨c83, _, _, rfl, pt, us, G73, O80, rfl, R74.m⟩
 rintro e_ w_ ⟨c93, g94, _, rfl, l93, rfl, G96, O95, rfl, R97⟩
 refine W.seq (sr (va (v3) (vx (ln 3 underlying69 h4.m) (va (.int .i64 0) (wln (W.block (bn H77 fun o_83 h99 H100 => lp h99 (fun s_83 => Jn c93 fun c l => ∃ G_, Own c G_ (F) ∧ l = [(0, v1), (1, .int .i64 p1), (69, v3), (70, .int .i64 (p2.length : Int)), (71, .int .i64 s_83.1)] ∧ Rel c s_83.2 G_) (fun o_83_ ex e w => ex = .exit 1 ∧ (Jn c93 fun c l => ∃ G_, Own c G_ (F) ∧ l = [] ∧ Rel c o_83_ G_) e w) ?_ ?_ ?_)))))))
 ·clear H100 h99
  intro s_83 xx_ ee_ ww_ H77
  revert ee_ ww_
  rintro e_ w_ ⟨c101, g102, _, rfl, l101, rfl, G104, O103, rfl, R105⟩
  refine sr (va (.bool (decide (s_83.1 < (p2.length : Int)))) (wln (W.seq (cn H77 (fun h107 H77 => ?_) (fun h107 H77 => ?_)))))
  ·refine W.skip (nrm (W.seq (W.block (sr (va (.int .i64 s_83.1) (bn H77 fun x_87 h108 H77 => ?_))))))
   obtain ⟨l_109, h110, m111⟩ := Sl.at (h4.mono (l33.trans (l47.trans (l70.trans (l93.trans l101))))) (idx_get h108)
   obtain ⟨v112, rfl, h113⟩ := h110
   refine vx (ix underlying69 h4.m h108) (vx (lN 101 m111) (me (al 101 [.int .i64 0, .slice none 0 0] O103) ?_))
   rintro v117 c116 l116 ⟨b114, rfl, O115⟩
   refine va (.int .i64 s_83.1) ?_
   obtain ⟨a118, a119, a120, rfl⟩ := ((h113.mono l116)).form
   refine md (sA 101 [.int .i64 x_87.Kind, .slice a118 a119 a120] 0 O115 ⟨rfl, h113.m.one, trivial⟩) ?_
   rintro c122 l122 O121
   refine wln (W.region (va (v1) (va (.int .i64 p1) (va (.int .i64 s_83.1) (va (.int .i64 (w64 (p1 + s_83.1))) (vx (leN 101 0 [.int .i64 x_87.Kind, .slice a118 a119 a120] (O121.on 0 rfl)) (bn H77 fun x_98 h123 H77 => cl (c_row_Row_put O121 R105.m p0 (w64 (p1 + s_83.1)) x_87 h2.m h113.m h123) ?_)))))))
   rintro v129 c128 l128 ⟨G124, O125, R126, rfl⟩
   refine WL.nil (bkn (nrm (W.region (va (.int .i64 (w64 (s_83.1 + 1))) (va (.int .i64 (w64 (s_83.1 + 1))) (WL.nil ?_))))))
   obtain rfl := si H77
   refine ⟨_, rfl, ?_⟩
   have O130 := O125.sD 1 []
   exact ⟨c128, _, _, rfl, pt, us, G124, O130, rfl, R126⟩
  refine W.exit (thx ?_)
  obtain rfl := si H77
  exact ⟨_, rfl, rfl, ⟨c101, _, _, rfl, pt, us, G104, O103, rfl, R105⟩⟩
 ·exact ⟨c93, _, _, rfl, pt, us, G96, O95, rfl, R97⟩
 rintro _ e_ w_ ⟨rfl, c131, g132, _, rfl, l131, rfl, G134, O133, rfl, R135⟩
 refine bke (nrm (sr (va (.nilIface) (wln (W.ret ?_)))))
 obtain rfl := si H100
 exact r1 ⟨_, c131, rfl, rfl, pt, .nilIface, G134, O133, R135, rfl, rfl⟩
def f_row_Row_GoOn (sg : Sto) (p0 : Option Nat) (p1 : Bool) : Option (Sto) :=
 if (!p0.isNone) = true then
 (p0).bind fun k_6 =>
 (sg.row_Row[k_6]?).bind fun o_8 =>
 (sg.set_row_Row k_6 (⟨o_8.cells, p1⟩ : G_row_Row)).bind fun s_8001 =>
 some s_8001
 else
 some sg
theorem c_row_Row_GoOn (O0 : Own c0 G F) (R0 : Rel c0 sg G) (p0 : Option Nat) (p1 : Bool) {r : Sto} (h2 : Pt 0 c0 v1 p0) (H : f_row_Row_GoOn sg p0 p1 = some r) :
    Calls Tryz.prog 81 #[v1, .bool p1] c0.w (Post c0 fun c v => ∃ G_ : Gm, Own c G_ (F) ∧ Rel c r G_ ∧ v = .tuple #[]) := by
 unfold f_row_Row_GoOn at H
 refine en func81 rfl rfl (sr (va (v1) (vr (.bool (!p0.isNone)) (by rcases (h2).cs with ⟨h1_, h2_⟩ | ⟨b_, h1_, h2_⟩ <;> (subst h1_; rw [h2_]; kernel_rfl)) (wln (cn H (fun h3 H => ?_) (fun h3 H => ?_))))))
 ·refine W.region (va (v1) (va (.bool p1) (bn H fun k_6 h6 H => ?_)))
  obtain ⟨b4, rfl, h5⟩ := (h2).get h6
  refine va (.pointer (some ⟨b4, 0, none⟩)) (va (.pointer (some ⟨b4, 1, none⟩)) (bn H fun o_8 h7 H => ?_))
  obtain ⟨v8, u9, h11, h10⟩ := Rel.open_row_Row R0 h7 h5
  refine md (gC 4 1 (.bool p1) [v8, .bool p1] 0 O0 h11 ⟨rfl, trivial⟩) ?_
  rintro c13 l13 O12
  refine bn H fun s_8001 h18 H => ?_
  obtain ⟨G14, O15, R16, h17, a19⟩ := Rel.put_row_Row O12 (R0.mono l13) (E' := [⟨.pointer (some ⟨b4, 0, none⟩), 188, [v8, .bool p1], 0⟩, es true R_api_Cell v8 101 u9 o_8.cells]) h18 ⟨b4, v8, u9, (tm h5), rfl, (h10.mono l13)⟩
  refine WL.nil ?_
  obtain rfl := si H
  exact n0 ⟨_, c13, rfl, rfl, pt, G14, O15, R16, rfl⟩
 refine W.skip ?_
 obtain rfl := si H
 exact n0 ⟨_, c0, rfl, rfl, pt, G, O0, R0, rfl⟩
def f_row_Row_Wrap (sg : Sto) (p0 : Option Nat) : Option (Bool) :=
 (andE (!p0.isNone) ((p0).bind fun k_8 =>
 (sg.row_Row[k_8]?).bind fun o_10 =>
 some o_10.wrap)).bind fun d_5 =>
 some d_5
theorem c_row_Row_Wrap (O0 : Own c0 G F) (R0 : Rel c0 sg G) (p0 : Option Nat) {r : Bool} (h2 : Pt 0 c0 v1 p0) (H : f_row_Row_Wrap sg p0 = some r) :
    Calls Tryz.prog 73 #[v1] c0.w (Post c0 fun c v => Own c G (F) ∧ v = .bool r) := by
 unfold f_row_Row_Wrap at H
 refine en func73 rfl rfl (sr (va (.bool false) (wln (W.seq (bn H fun d_5 h3 H => W.join (Jn c0 fun c l => Own c G (F) ∧ l = [(2, .bool d_5)]) ?_ ?_)))))
 ·clear H
  refine W.region (va (v1) (vr (.bool (!p0.isNone)) (by rcases (h2).cs with ⟨h1_, h2_⟩ | ⟨b_, h1_, h2_⟩ <;> (subst h1_; rw [h2_]; kernel_rfl)) ?_))
  rcases bo (!p0.isNone) with h4 | h4
  ·have H5 := anT h4 h3
   refine vb h4 (wn (va (v1) (wn (bn H5 fun k_8 h8 H5 => ?_))))
   obtain ⟨b6, rfl, h7⟩ := (h2).get h8
   refine va (.pointer (some ⟨b6, 0, none⟩)) (wn (va (.pointer (some ⟨b6, 1, none⟩)) (wn (bn H5 fun o_10 h9 H5 => ?_))))
   obtain ⟨v10, u11, h13, h12⟩ := Rel.open_row_Row R0 h9 h7
   refine vx (le1 1 underlying4 (O0.gon h13 0 rfl)) ?_
   obtain rfl := si H5
   exact va (.bool o_10.wrap) (va (.bool o_10.wrap) (wln ⟨c0, _, _, rfl, pt, us, O0, rfl⟩))
  obtain rfl := anF h4 h3
  exact vb h4 (ps (ps (ps (ps (va (.bool false) (va (.bool false) (wln ⟨c0, _, _, rfl, pt, us, O0, rfl⟩)))))))
 rintro e_ w_ ⟨c14, g15, _, rfl, l14, rfl, O16, rfl⟩
 refine nrm (W.ret ?_)
 obtain rfl := si H
 exact r1 ⟨_, c14, rfl, rfl, pt, O16, rfl⟩
def f_linotyperef24_Paint (p0 : List G_api_Cell) (p1 : Bool) (p2 : Int) (p3 : List G_api_Cell) : Option ((List G_api_Cell) × Bool) :=
 (iter (σ := Bool × (List G_api_Cell) × Int) (τ := (Bool × (List G_api_Cell))) (((p0.length : Int) - 0).toNat + 1) (fun s_8 =>
 if (decide (s_8.2.2 < (p0.length : Int))) = true then
 (andE (decide (s_8.2.2 ≥ p2)) (some (decide (s_8.2.2 < (w64 (p2 + (p3.length : Int))))))).bind fun d_17 =>
 (idx p0 s_8.2.2).bind fun x_29 =>
 (if d_17 = true then
 (idx p3 (w64 (s_8.2.2 - p2))).bind fun x_41 =>
 (some (x_41.Kind, x_41.Text) : Option (Int × (List Int)))
 else
 (some (x_29.Kind, x_29.Text) : Option (Int × (List Int)))).bind fun z_34 =>
 (andE (!d_17) ((andE (z_34.1 == 2) (some (decide ((w64 (s_8.2.2 + 1)) ≥ p2)))).bind fun d_52 =>
 (andE d_52 (some (decide ((w64 (s_8.2.2 + 1)) < (w64 (p2 + (p3.length : Int))))))).bind fun d_58 =>
 (orE d_58 ((andE (z_34.1 == 3) (some (decide ((w64 (s_8.2.2 - 1)) ≥ p2)))).bind fun d_72 =>
 (andE d_72 (some (decide ((w64 (s_8.2.2 - 1)) < (w64 (p2 + (p3.length : Int))))))).bind fun d_78 =>
 some d_78)).bind fun d_67 =>
 some d_67)).bind fun d_47 =>
 (if d_47 = true then
 (some (0, ([] : List Int)) : Option (Int × (List Int)))
 else
 (some (z_34.1, z_34.2) : Option (Int × (List Int)))).bind fun z_89 =>
 ((andE ((w64 (s_8.2.2 + 1)) == (p0.length : Int)) ((orE d_17 (some d_47)).bind fun d_104 =>
 some d_104)).bind fun d_101 =>
 if d_101 = true then
 (some (false) : Option (Bool))
 else
 (some (s_8.1) : Option (Bool))).bind fun z_95 =>
 (app s_8.2.1 ([(⟨z_89.1, z_89.2⟩ : G_api_Cell)] : List G_api_Cell)).bind fun x_113 =>
 some (.inl (z_95, x_113, (w64 (s_8.2.2 + 1))))
 else
 some (.inr (s_8.1, s_8.2.1))) (p1, ([] : List G_api_Cell), 0)).bind fun o_8 =>
 some (o_8.2, o_8.1)
set_option maxHeartbeats 4000000 in
theorem c_linotyperef24_Paint (O0 : Own c0 G F) (p0 : List G_api_Cell) (p1 : Bool) (p2 : Int) (p3 : List G_api_Cell) {r : (List G_api_Cell) × Bool} (h2 : Sl R_api_Cell c0 v1 p0) (h4 : Sl R_api_Cell c0 v3 p3) (H : f_linotyperef24_Paint p0 p1 p2 p3 = some r) :
    Calls Tryz.prog 205 #[v1, .bool p1, .int .i64 p2, v3] c0.w (Post c0 fun c v => ∃ y1 y2, Own c G (es true R_api_Cell y1 101 y2 r.1 :: F) ∧ v = .tuple #[y1, .bool r.2] ∧ OA R_api_Cell c y1 y2 r.1) := by
 unfold f_linotyperef24_Paint at H
 refine en func205 rfl rfl (sr (va (.slice none 0 0) (va (.bool false) (wln (sr (va (.slice none 0 0) (wln (W.seq (sr (va (.int .i64 0) (wln (W.block (bn H fun o_8 h5 H6 => lp h5 (fun s_8 => Jn c0 fun c l => ∃ v7 u8, Own c G (es true R_api_Cell v7 101 u8 s_8.2.1 :: F) ∧ l = [(0, v1), (1, .bool s_8.1), (2, .int .i64 p2), (3, v3), (10, v7), (11, .int .i64 s_8.2.2)] ∧ OA R_api_Cell c v7 u8 s_8.2.1) (fun o_8_ ex e w => ex = .exit 0 ∧ (Jn c0 fun c l => ∃ v9 u10, Own c G (es true R_api_Cell v9 101 u10 o_8_.2 :: F) ∧ l = [(1, .bool o_8_.1), (10, v9)] ∧ OA R_api_Cell c v9 u10 o_8_.2) e w) ?_ ?_ ?_)))))))))))))
 ·clear H6 h5
  intro s_8 xx_ ee_ ww_ H
  revert ee_ ww_
  rintro e_ w_ ⟨c11, g12, _, rfl, l11, rfl, v7, u8, O13, rfl, h14⟩
  refine W.seq (sr (va (.int .i64 s_8.2.2) (va (v1) (vx (ln 3 underlying69 h2.m) (va (.bool (decide (s_8.2.2 < (p0.length : Int)))) (wln (cn H (fun h18 H => ?_) (fun h18 H => ?_))))))))
  ·refine W.skip (nrm (W.seq (W.block (W.seq (bn H fun d_17 h19 H => W.join (Jn c11 fun c l => Own c G (es true R_api_Cell v7 101 u8 s_8.2.1 :: F) ∧ l = [(0, v1), (1, .bool s_8.1), (2, .int .i64 p2), (3, v3), (10, v7), (11, .int .i64 s_8.2.2), (12, .bool d_17)]) ?_ ?_)))))
   ·clear H
    refine W.region (va (.int .i64 s_8.2.2) (va (.int .i64 p2) (va (.bool (decide (s_8.2.2 ≥ p2))) ?_)))
    rcases bo (decide (s_8.2.2 ≥ p2)) with h20 | h20
    ·have H21 := anT h20 h19
     refine vb h20 (wn (va (.int .i64 s_8.2.2) (wn (va (.int .i64 p2) (wn (va (v3) (wn (vx (ln 3 underlying69 h4.m) (wn (va (.int .i64 (w64 (p2 + (p3.length : Int)))) (wn (va (.bool (decide (s_8.2.2 < (w64 (p2 + (p3.length : Int)))))) ?_))))))))))))
     obtain rfl := si H21
     exact va (.bool (decide (s_8.2.2 < (w64 (p2 + (p3.length : Int)))))) (va (.bool (decide (s_8.2.2 < (w64 (p2 + (p3.length : Int)))))) (wln ⟨c11, _, _, rfl, pt, us, O13, rfl⟩))
    obtain rfl := anF h20 h19
    exact vb h20 (ps (ps (ps (ps (ps (ps (va (.bool false) (va (.bool false) (wln ⟨c11, _, _, rfl, pt, us, O13, rfl⟩)))))))))
   rintro e_ w_ ⟨c22, g23, _, rfl, l22, rfl, O24, rfl⟩
   refine nrm (sr (va (v1) (va (.int .i64 s_8.2.2) (bn H fun x_29 h28 H => ?_))))
   obtain ⟨l_29, h30, m31⟩ := Sl.at (h2.mono (l11.trans l22)) (idx_get h28)
   obtain ⟨v32, rfl, h33⟩ := h30
   refine vx (ix underlying69 h2.m h28) (vx (lN 101 m31) (me (al 101 [.int .i64 0, .slice none 0 0] O24) ?_))
   rintro v37 c36 l36 ⟨b34, rfl, O35⟩
   obtain ⟨a38, a39, a40, rfl⟩ := ((h33.mono l36)).form
   refine md (sA 101 [.int .i64 x_29.Kind, .slice a38 a39 a40] 0 O35 ⟨rfl, h33.m.one, trivial⟩) ?_
   rintro c42 l42 O41
   refine wln (bn H fun z_34 H43 H44 => W.seqJ (Jn c42 fun c l => ∃ v45, Own c G (⟨.pointer (some ⟨b34, 0, none⟩), 101, [.int .i64 z_34.1, v45], 0⟩ :: es true R_api_Cell v7 101 u8 s_8.2.1 :: F) ∧ l = [(0, v1), (1, .bool s_8.1), (2, .int .i64 p2), (3, v3), (10, v7), (11, .int .i64 s_8.2.2), (12, .bool d_17), (13, .pointer (some ⟨b34, 0, none⟩))] ∧ Sl (RI .i32) c v45 z_34.2) ?_ ?_)
   ·refine sr (va (.bool d_17) (wln (cn H43 (fun h46 H43 => ?_) (fun h46 H43 => ?_))))
    ·refine W.region (va (v3) (va (.int .i64 s_8.2.2) (va (.int .i64 p2) (va (.int .i64 (w64 (s_8.2.2 - p2))) (bn H43 fun x_41 h47 H43 => ?_)))))
     obtain ⟨l_48, h49, m50⟩ := Sl.at (h4.mono (l11.trans (l22.trans (l36.trans l42)))) (idx_get h47)
     obtain ⟨v51, rfl, h52⟩ := h49
     refine vx (ix underlying69 h4.m h47) (vx (lN 101 m50) ?_)
     obtain ⟨a53, a54, a55, rfl⟩ := (h52).form
     refine md (sA 101 [.int .i64 x_41.Kind, .slice a53 a54 a55] 0 O41 ⟨rfl, h52.one, trivial⟩) ?_
     rintro c57 l57 O56
     refine wln ?_
     obtain rfl := si H43
     exact ⟨c57, _, _, rfl, pt, us, (.slice a53 a54 a55), O56, rfl, h52.m⟩
    refine W.skip (nrm ?_)
    obtain rfl := si H43
    exact ⟨c42, _, _, rfl, pt, us, (.slice a38 a39 a40), O41, rfl, h33.m⟩
   rintro e_ w_ ⟨c58, g59, _, rfl, l58, rfl, v45, O60, rfl, h61⟩
   refine W.seq (bn H44 fun d_47 h65 H44 => W.join (Jn c58 fun c l => Own c G (⟨.pointer (some ⟨b34, 0, none⟩), 101, [.int .i64 z_34.1, v45], 0⟩ :: es true R_api_Cell v7 101 u8 s_8.2.1 :: F) ∧ l = [(0, v1), (1, .bool s_8.1), (2, .int .i64 p2), (3, v3), (10, v7), (11, .int .i64 s_8.2.2), (12, .bool d_17), (13, .pointer (some ⟨b34, 0, none⟩)), (14, .bool d_47)]) ?_ ?_)
   ·clear H44
    refine W.region (va (.bool d_17) (va (.bool (!d_17)) ?_))
    rcases bo (!d_17) with h66 | h66
    ·have H67 := anT h66 h65
     refine vb h66 (wn (va (.pointer (some ⟨b34, 0, none⟩)) (wn (vx (le1 0 underlying3 (O60.on 0 rfl)) (wn (va (.bool (z_34.1 == 2)) (wn (bn H67 fun d_52 h68 H67 => ?_))))))))
     rcases bo (z_34.1 == 2) with h69 | h69
     ·have H70 := anT h69 h68
      refine vb h69 (wn (va (.int .i64 s_8.2.2) (wn (va (.int .i64 (w64 (s_8.2.2 + 1))) (wn (va (.int .i64 p2) (wn (va (.bool (decide ((w64 (s_8.2.2 + 1)) ≥ p2))) (wn ?_)))))))))
      obtain rfl := si H70
      refine va (.bool (decide ((w64 (s_8.2.2 + 1)) ≥ p2))) (wn (bn H67 fun d_58 h71 H67 => ?_))
      rcases bo (decide ((w64 (s_8.2.2 + 1)) ≥ p2)) with h72 | h72
      ·have H73 := anT h72 h71
       refine vb h72 (wn (va (.int .i64 s_8.2.2) (wn (va (.int .i64 (w64 (s_8.2.2 + 1))) (wn (va (.int .i64 p2) (wn (va (v3) (wn (vx (ln 3 underlying69 h4.m) (wn (va (.int .i64 (w64 (p2 + (p3.length : Int)))) (wn (va (.bool (decide ((w64 (s_8.2.2 + 1)) < (w64 (p2 + (p3.length : Int)))))) (wn ?_)))))))))))))))
       obtain rfl := si H73
       refine va (.bool (decide ((w64 (s_8.2.2 + 1)) < (w64 (p2 + (p3.length : Int)))))) (wn (bn H67 fun d_67 h74 H67 => ?_))
       rcases bo (decide ((w64 (s_8.2.2 + 1)) < (w64 (p2 + (p3.length : Int))))) with h75 | h75
       ·obtain rfl := orT h75 h74
        refine vb h75 (ps (ps (ps (ps (ps (ps (ps (ps (ps (ps (ps (ps (ps (ps (ps (ps (ps (ps (wn (va (.bool true) ?_))))))))))))))))))))
        obtain rfl := si H67
        exact va (.bool true) (va (.bool true) (wln ⟨c58, _, _, rfl, pt, us, O60, rfl⟩))
       have H76 := orF h75 h74
       refine vb h75 (wn (va (.pointer (some ⟨b34, 0, none⟩)) (wn (vx (le1 0 underlying3 (O60.on 0 rfl)) (wn (va (.bool (z_34.1 == 3)) (wn (bn H76 fun d_72 h77 H76 => ?_))))))))
       rcases bo (z_34.1 == 3) with h78 | h78
       ·have H79 := anT h78 h77
        refine vb h78 (wn (va (.int .i64 s_8.2.2) (wn (va (.int .i64 (w64 (s_8.2.2 - 1))) (wn (va (.int .i64 p2) (wn (va (.bool (decide ((w64 (s_8.2.2 - 1)) ≥ p2))) (wn ?_)))))))))
        obtain rfl := si H79
        refine va (.bool (decide ((w64 (s_8.2.2 - 1)) ≥ p2))) (wn (bn H76 fun d_78 h80 H76 => ?_))
        rcases bo (decide ((w64 (s_8.2.2 - 1)) ≥ p2)) with h81 | h81
        ·have H82 := anT h81 h80
         refine vb h81 (wn (va (.int .i64 s_8.2.2) (wn (va (.int .i64 (w64 (s_8.2.2 - 1))) (wn (va (.int .i64 p2) (wn (va (v3) (wn (vx (ln 3 underlying69 h4.m) (wn (va (.int .i64 (w64 (p2 + (p3.length : Int)))) (wn (va (.bool (decide ((w64 (s_8.2.2 - 1)) < (w64 (p2 + (p3.length : Int)))))) (wn ?_)))))))))))))))
         obtain rfl := si H82
         refine va (.bool (decide ((w64 (s_8.2.2 - 1)) < (w64 (p2 + (p3.length : Int)))))) (wn ?_)
         obtain rfl := si H76
         refine va (.bool (decide ((w64 (s_8.2.2 - 1)) < (w64 (p2 + (p3.length : Int)))))) ?_
         obtain rfl := si H67
         exact va (.bool (decide ((w64 (s_8.2.2 - 1)) < (w64 (p2 + (p3.length : Int)))))) (va (.bool (decide ((w64 (s_8.2.2 - 1)) < (w64 (p2 + (p3.length : Int)))))) (wln ⟨c58, _, _, rfl, pt, us, O60, rfl⟩))
        obtain rfl := anF h81 h80
        refine vb h81 (ps (ps (ps (ps (ps (ps (ps (wn (va (.bool false) (wn ?_))))))))))
        obtain rfl := si H76
        refine va (.bool false) ?_
        obtain rfl := si H67
        exact va (.bool false) (va (.bool false) (wln ⟨c58, _, _, rfl, pt, us, O60, rfl⟩))
       obtain rfl := anF h78 h77
       refine vb h78 (ps (ps (ps (ps (wn (va (.bool false) (wn (bn H76 fun d_78 h83 H76 => ?_))))))))
       have h84 : false = false := rfl
       obtain rfl := anF h84 h83
       refine vb h84 (ps (ps (ps (ps (ps (ps (ps (wn (va (.bool false) (wn ?_))))))))))
       obtain rfl := si H76
       refine va (.bool false) ?_
       obtain rfl := si H67
       exact va (.bool false) (va (.bool false) (wln ⟨c58, _, _, rfl, pt, us, O60, rfl⟩))
      obtain rfl := anF h72 h71
      refine vb h72 (ps (ps (ps (ps (ps (ps (ps (wn (va (.bool false) (wn (bn H67 fun d_67 h85 H67 => ?_)))))))))))
      have h86 : false = false := rfl
      have H87 := orF h86 h85
      refine vb h86 (wn (va (.pointer (some ⟨b34, 0, none⟩)) (wn (vx (le1 0 underlying3 (O60.on 0 rfl)) (wn (va (.bool (z_34.1 == 3)) (wn (bn H87 fun d_72 h88 H87 => ?_))))))))
      rcases bo (z_34.1 == 3) with h89 | h89
      ·have H90 := anT h89 h88
       refine vb h89 (wn (va (.int .i64 s_8.2.2) (wn (va (.int .i64 (w64 (s_8.2.2 - 1))) (wn (va (.int .i64 p2) (wn (va (.bool (decide ((w64 (s_8.2.2 - 1)) ≥ p2))) (wn ?_)))))))))
       obtain rfl := si H90
       refine va (.bool (decide ((w64 (s_8.2.2 - 1)) ≥ p2))) (wn (bn H87 fun d_78 h91 H87 => ?_))
       rcases bo (decide ((w64 (s_8.2.2 - 1)) ≥ p2)) with h92 | h92
       ·have H93 := anT h92 h91
        refine vb h92 (wn (va (.int .i64 s_8.2.2) (wn (va (.int .i64 (w64 (s_8.2.2 - 1))) (wn (va (.int .i64 p2) (wn (va (v3) (wn (vx (ln 3 underlying69 h4.m) (wn (va (.int .i64 (w64 (p2 + (p3.length : Int)))) (wn (va (.bool (decide ((w64 (s_8.2.2 - 1)) < (w64 (p2 + (p3.length : Int)))))) (wn ?_)))))))))))))))
        obtain rfl := si H93
        refine va (.bool (decide ((w64 (s_8.2.2 - 1)) < (w64 (p2 + (p3.length : Int)))))) (wn ?_)
        obtain rfl := si H87
        refine va (.bool (decide ((w64 (s_8.2.2 - 1)) < (w64 (p2 + (p3.length : Int)))))) ?_
        obtain rfl := si H67
        exact va (.bool (decide ((w64 (s_8.2.2 - 1)) < (w64 (p2 + (p3.length : Int)))))) (va (.bool (decide ((w64 (s_8.2.2 - 1)) < (w64 (p2 + (p3.length : Int)))))) (wln ⟨c58, _, _, rfl, pt, us, O60, rfl⟩))
       obtain rfl := anF h92 h91
       refine vb h92 (ps (ps (ps (ps (ps (ps (ps (wn (va (.bool false) (wn ?_))))))))))
       obtain rfl := si H87
       refine va (.bool false) ?_
       obtain rfl := si H67
       exact va (.bool false) (va (.bool false) (wln ⟨c58, _, _, rfl, pt, us, O60, rfl⟩))
      obtain rfl := anF h89 h88
      refine vb h89 (ps (ps (ps (ps (wn (va (.bool false) (wn (bn H87 fun d_78 h94 H87 => ?_))))))))
      have h95 : false = false := rfl
      obtain rfl := anF h95 h94
      refine vb h95 (ps (ps (ps (ps (ps (ps (ps (wn (va (.bool false) (wn ?_))))))))))
      obtain rfl := si H87
      refine va (.bool false) ?_
      obtain rfl := si H67
      exact va (.bool false) (va (.bool false) (wln ⟨c58, _, _, rfl, pt, us, O60, rfl⟩))
     obtain rfl := anF h69 h68
     refine vb h69 (ps (ps (ps (ps (wn (va (.bool false) (wn (bn H67 fun d_58 h96 H67 => ?_))))))))
     have h97 : false = false := rfl
     obtain rfl := anF h97 h96
     refine vb h97 (ps (ps (ps (ps (ps (ps (ps (wn (va (.bool false) (wn (bn H67 fun d_67 h98 H67 => ?_)))))))))))
     have h99 : false = false := rfl
     have H100 := orF h99 h98
     refine vb h99 (wn (va (.pointer (some ⟨b34, 0, none⟩)) (wn (vx (le1 0 underlying3 (O60.on 0 rfl)) (wn (va (.bool (z_34.1 == 3)) (wn (bn H100 fun d_72 h101 H100 => ?_))))))))
     rcases bo (z_34.1 == 3) with h102 | h102
     ·have H103 := anT h102 h101
      refine vb h102 (wn (va (.int .i64 s_8.2.2) (wn (va (.int .i64 (w64 (s_8.2.2 - 1))) (wn (va (.int .i64 p2) (wn (va (.bool (decide ((w64 (s_8.2.2 - 1)) ≥ p2))) (wn ?_)))))))))
      obtain rfl := si H103
      refine va (.bool (decide ((w64 (s_8.2.2 - 1)) ≥ p2))) (wn (bn H100 fun d_78 h104 H100 => ?_))
      rcases bo (decide ((w64 (s_8.2.2 - 1)) ≥ p2)) with h105 | h105
      ·have H106 := anT h105 h104
       refine vb h105 (wn (va (.int .i64 s_8.2.2) (wn (va (.int .i64 (w64 (s_8.2.2 - 1))) (wn (va (.int .i64 p2) (wn (va (v3) (wn (vx (ln 3 underlying69 h4.m) (wn (va (.int .i64 (w64 (p2 + (p3.length : Int)))) (wn (va (.bool (decide ((w64 (s_8.2.2 - 1)) < (w64 (p2 + (p3.length : Int)))))) (wn ?_)))))))))))))))
       obtain rfl := si H106
       refine va (.bool (decide ((w64 (s_8.2.2 - 1)) < (w64 (p2 + (p3.length : Int)))))) (wn ?_)
       obtain rfl := si H100
       refine va (.bool (decide ((w64 (s_8.2.2 - 1)) < (w64 (p2 + (p3.length : Int)))))) ?_
       obtain rfl := si H67
       exact va (.bool (decide ((w64 (s_8.2.2 - 1)) < (w64 (p2 + (p3.length : Int)))))) (va (.bool (decide ((w64 (s_8.2.2 - 1)) < (w64 (p2 + (p3.length : Int)))))) (wln ⟨c58, _, _, rfl, pt, us, O60, rfl⟩))
      obtain rfl := anF h105 h104
      refine vb h105 (ps (ps (ps (ps (ps (ps (ps (wn (va (.bool false) (wn ?_))))))))))
      obtain rfl := si H100
      refine va (.bool false) ?_
      obtain rfl := si H67
      exact va (.bool false) (va (.bool false) (wln ⟨c58, _, _, rfl, pt, us, O60, rfl⟩))
     obtain rfl := anF h102 h101
     refine vb h102 (ps (ps (ps (ps (wn (va (.bool false) (wn (bn H100 fun d_78 h107 H100 => ?_))))))))
     have h108 : false = false := rfl
     obtain rfl := anF h108 h107
     refine vb h108 (ps (ps (ps (ps (ps (ps (ps (wn (va (.bool false) (wn ?_))))))))))
     obtain rfl := si H100
     refine va (.bool false) ?_
     obtain rfl := si H67
     exact va (.bool false) (va (.bool false) (wln ⟨c58, _, _, rfl, pt, us, O60, rfl⟩))
    obtain rfl := anF h66 h65
    exact vb h66 (ps (ps (ps (ps (ps (ps (ps (ps (ps (ps (ps (ps (ps (ps (ps (ps (ps (ps (ps (ps (ps (ps (ps (ps (ps (ps (ps (ps (ps (ps (ps (ps (ps (ps (ps (ps (ps (ps (va (.bool false) (va (.bool false) (wln ⟨c58, _, _, rfl, pt, us, O60, rfl⟩)))))))))))))))))))))))))))))))))))))))))
   rintro e_ w_ ⟨c109, g110, _, rfl, l109, rfl, O111, rfl⟩
   refine nrm (bn H44 fun z_89 H115 H116 => W.seqJ (Jn c109 fun c l => ∃ v117, Own c G (⟨.pointer (some ⟨b34, 0, none⟩), 101, [.int .i64 z_89.1, v117], 0⟩ :: es true R_api_Cell v7 101 u8 s_8.2.1 :: F) ∧ l = [(0, v1), (1, .bool s_8.1), (2, .int .i64 p2), (3, v3), (10, v7), (11, .int .i64 s_8.2.2), (12, .bool d_17), (13, .pointer (some ⟨b34, 0, none⟩)), (14, .bool d_47)] ∧ Sl (RI .i32) c v117 z_89.2) ?_ ?_)
   ·refine sr (va (.bool d_47) (wln (cn H115 (fun h118 H115 => ?_) (fun h118 H115 => ?_))))
    ·refine W.region (va (.agg #[.int .i64 0, .slice none 0 0]) (md (sA 101 [.int .i64 0, .slice none 0 0] 0 O111 ⟨rfl, rfl, trivial⟩) ?_))
     rintro c120 l120 O119
     refine wln ?_
     obtain rfl := si H115
     exact ⟨c120, _, _, rfl, pt, us, (.slice none 0 0), O119, rfl, (Sl.nl _ _)⟩
    refine W.skip (nrm ?_)
    obtain rfl := si H115
    exact ⟨c109, _, _, rfl, pt, us, v45, O111, rfl, h61.m⟩
   rintro e_ w_ ⟨c121, g122, _, rfl, l121, rfl, v117, O123, rfl, h124⟩
   refine bn H116 fun z_95 H128 H129 => W.seqJ (Jn c121 fun c l => Own c G (⟨.pointer (some ⟨b34, 0, none⟩), 101, [.int .i64 z_89.1, v117], 0⟩ :: es true R_api_Cell v7 101 u8 s_8.2.1 :: F) ∧ l = [(0, v1), (1, .bool z_95), (2, .int .i64 p2), (3, v3), (10, v7), (11, .int .i64 s_8.2.2), (13, .pointer (some ⟨b34, 0, none⟩))]) ?_ ?_
   ·refine W.seq (bn H128 fun d_101 h130 H128 => W.join (Jn c121 fun c l => Own c G (⟨.pointer (some ⟨b34, 0, none⟩), 101, [.int .i64 z_89.1, v117], 0⟩ :: es true R_api_Cell v7 101 u8 s_8.2.1 :: F) ∧ l = [(0, v1), (1, .bool s_8.1), (2, .int .i64 p2), (3, v3), (10, v7), (11, .int .i64 s_8.2.2), (13, .pointer (some ⟨b34, 0, none⟩)), (97, .bool d_101)]) ?_ ?_)
    ·clear H128
     refine W.region (va (.int .i64 s_8.2.2) (va (.int .i64 (w64 (s_8.2.2 + 1))) (va (v1) (vx (ln 3 underlying69 h2.m) (va (.bool ((w64 (s_8.2.2 + 1)) == (p0.length : Int))) ?_)))))
     rcases bo ((w64 (s_8.2.2 + 1)) == (p0.length : Int)) with h131 | h131
     ·have H132 := anT h131 h130
      refine vb h131 (wn (va (.bool d_17) (wn (bn H132 fun d_104 h133 H132 => ?_))))
      rcases bo (d_17) with h134 | h134
      ·obtain rfl := orT h134 h133
       refine vb h134 (ps (wn (va (.bool true) ?_)))
       obtain rfl := si H132
       exact va (.bool true) (wln ⟨c121, _, _, rfl, pt, us, O123, rfl⟩)
      have H135 := orF h134 h133
      refine vb h134 (wn (va (.bool d_47) (wn ?_)))
      obtain rfl := si H135
      refine va (.bool d_47) ?_
      obtain rfl := si H132
      exact va (.bool d_47) (wln ⟨c121, _, _, rfl, pt, us, O123, rfl⟩)
     obtain rfl := anF h131 h130
     exact vb h131 (ps (ps (ps (ps (va (.bool false) (wln ⟨c121, _, _, rfl, pt, us, O123, rfl⟩))))))
    rintro e_ w_ ⟨c136, g137, _, rfl, l136, rfl, O138, rfl⟩
    refine nrm (cn H128 (fun h142 H128 => ?_) (fun h142 H128 => ?_))
    ·refine W.region (va (.bool false) (wln ?_))
     obtain rfl := si H128
     exact ⟨c136, _, _, rfl, pt, us, O138, rfl⟩
    refine W.skip (nrm ?_)
    obtain rfl := si H128
    exact ⟨c136, _, _, rfl, pt, us, O138, rfl⟩
   rintro e_ w_ ⟨c143, g144, _, rfl, l143, rfl, O145, rfl⟩
   refine W.region (va (v7) (vx (leN 101 0 [.int .i64 z_89.1, v117] (O145.on 0 rfl)) ?_))
   obtain ⟨a149, a150, a151, rfl⟩ := ((h124.mono l143)).form
   refine me (sl R_api_Cell 101 [[.int .i64 z_89.1, .slice a149 a150 a151]] ([(⟨z_89.1, z_89.2⟩ : G_api_Cell)] : List G_api_Cell) O145 ⟨⟨(.slice a149 a150 a151), rfl, h124.m⟩, trivial⟩) ?_
   rintro v156 c155 l155 ⟨u153, O152, h154⟩
   obtain ⟨c159, h160, l159, O157, h158⟩ := O152.frz 0 rfl h154
   refine WL.gh h160 (bn H129 fun x_113 h161 H129 => me (ap R_api_Cell (.agg #[.int .i64 0, .slice none 0 0]) 32 69 2 O157 h14.m h158 h161 underlying69) ?_)
   rintro v166 c165 l165 ⟨u163, O162, h164⟩
   refine va (v166) (WL.nil (bkn (nrm (W.region (va (.int .i64 s_8.2.2) (va (.int .i64 (w64 (s_8.2.2 + 1))) (va (.int .i64 (w64 (s_8.2.2 + 1))) (WL.nil ?_))))))))
   obtain rfl := si H129
   refine ⟨_, rfl, ?_⟩
   have O167 := O162.sD 3 [2]
   exact ⟨c165, _, _, rfl, pt, us, v166, u163, O167, rfl, h164⟩
  refine W.exit (thx ?_)
  obtain rfl := si H
  exact ⟨_, rfl, rfl, ⟨c11, _, _, rfl, pt, us, v7, u8, O13, rfl, h14⟩⟩
 ·have h169 : OA R_api_Cell c0 (.slice none 0 0) [] [] := OA.nil (Nat.succ_pos _)
  have O168 := O0.addHole (e := es true R_api_Cell (.slice none 0 0) 101 [] ([] : List G_api_Cell)) rfl
  exact ⟨c0, _, _, rfl, pt, us, (.slice none 0 0), [], O168, rfl, h169⟩
 rintro _ e_ w_ ⟨rfl, c170, g171, _, rfl, l170, rfl, v9, u10, O172, rfl, h173⟩
 refine bke (nrm (sr (va (v9) (va (.bool o_8.1) (va (v9) (va (.bool o_8.1) (wln (W.ret ?_))))))))
 obtain rfl := si H6
 exact r2 ⟨_, c170, rfl, rfl, pt, v9, u10, O172, rfl, h173⟩

end Go.Proofs.YthokmpbbkpjhbaaGreatDoor
