import Derived.Test.YthokmpbbkpjhbaaGreatDoorMq
import Derived.Test.YthokmpbbkpjhbaaGreatDoorProg
import Derived.Test.YthokmpbbkpjhbaaGreatDoorMy
import Derived.Test.YthokmpbbkpjhbaaGreatDoorMz
import Derived.Test.YthokmpbbkpjhbaaGreatDoorA1
import Derived.Test.YthokmpbbkpjhbaaGreatDoorE1
import Derived.Test.YthokmpbbkpjhbaaGreatDoorG1
import Derived.Test.YthokmpbbkpjhbaaGreatDoorM1
import Derived.Test.YthokmpbbkpjhbaaGreatDoorN1
import Derived.Test.YthokmpbbkpjhbaaGreatDoorS1
import Derived.Test.YthokmpbbkpjhbaaGreatDoorZ1
import Derived.Test.YthokmpbbkpjhbaaGreatDoorX1
namespace Go.Proofs.YthokmpbbkpjhbaaGreatDoor
open Go Go.Lt
set_option maxRecDepth 10000
set_option linter.unusedVariables false
attribute [local irreducible] W WL AC
open Tryz
variable {c0 : Cx} {G : Gm} {F : List En} {sg : Sto} {v1 v2 v3 v4 v5 v6 v7 v8 v9 v10 v11 v12 v13 v14 v15 v16 v17 v18 v19 v20 v21 v22 v23 v24 v25 v26 v27 v28 v29 v30 v31 v32 v33 v34 v35 v36 v37 v38 v39 v40 v41 v42 v43 v44 v45 v46 v47 v48 v49 v50 v51 v52 v53 v54 v55 v56 v57 v58 v59 v60 : Value}
def f_linotypelaw38_EditPlays (sg : Sto) (p0 : G_linotypelaw35_Start) (p1 : List G_api_Op) : Option (Sto × Bool) :=
 (f_linotyperef32_Wrong p0.L).bind fun x_6 =>
 (f_linotypelaw38_works sg).bind fun x_13 =>
 (orE (!x_13.2) (some (decide ((p0.L.length : Int) > 20)))).bind fun d_15 =>
 (orE d_15 (some ((p0.L.length : Int) == 0))).bind fun d_21 =>
 (orE d_21 (some (decide (x_6.1 ≥ 0)))).bind fun d_27 =>
 (orE d_27 (some (decide ((p1.length : Int) > 60)))).bind fun d_31 =>
 if d_31 = true then
 (f_linotypelaw38_works x_13.1).bind fun x_37 =>
 some (x_37.1, x_37.2)
 else
 (f_grid_Of x_13.1 p0.L).bind fun x_42 =>
 if (!x_42.2.2.isNil) = true then
 some (x_42.1, false)
 else
 (some (x_42.1.add_place_Pen (⟨x_42.2.1, p0.At, p0.Auto⟩ : G_place_Pen))).bind fun s_60001 =>
 (iter (σ := Int × (List G_api_Line) × Int × Int × Bool × Bool × Sto) (τ := (Sto × Bool) ⊕ ((List G_api_Line) × Int × Int × Bool × Bool × Sto)) (((p1.length : Int) - 0).toNat + 1) (fun s_75 =>
 if (decide (s_75.1 < (p1.length : Int))) = true then
 (idx p1 s_75.1).bind fun x_83 =>
 (f_linotyperef38_Wrong x_83).bind fun x_85 =>
 (if (x_85 == 0) = true then
 (idx p1 s_75.1).bind fun x_95 =>
 (f_linotyperef38_Do (⟨s_75.2.1, (⟨s_75.2.2.1, s_75.2.2.2.1, s_75.2.2.2.2.1⟩ : G_api_Cursor), s_75.2.2.2.2.2.1⟩ : G_linotyperef34_Pen) x_95).bind fun x_97 =>
 (some (x_97.L, x_97.At.Row, x_97.At.Col, x_97.At.Pending, x_97.Auto) : Option ((List G_api_Line) × Int × Int × Bool × Bool))
 else
 (some (s_75.2.1, s_75.2.2.1, s_75.2.2.2.1, s_75.2.2.2.2.1, s_75.2.2.2.2.2.1) : Option ((List G_api_Line) × Int × Int × Bool × Bool))).bind fun z_88 =>
 (idx p1 s_75.1).bind fun x_102 =>
 (f_edit_Wrong x_102).bind fun x_104 =>
 (f_api_Code x_104).bind fun x_105 =>
 (if (x_105 != x_85) = true then some (true, s_75.2.2.2.2.2.2) else (idx p1 s_75.1).bind fun x_113 =>
 (f_edit_Do s_75.2.2.2.2.2.2 (some x_42.1.place_Pen.length) x_113).bind fun x_115 =>
 (f_api_Code x_115.2).bind fun x_116 =>
 some (x_116 != x_85, x_115.1)).bind fun d_108 =>
 (if d_108.1 = true then some (true, d_108.2) else (idx p1 s_75.1).bind fun x_123 =>
 (f_edit_Do d_108.2 (none : Option Nat) x_123).bind fun x_125 =>
 (f_api_Code x_125.2).bind fun x_126 =>
 some (x_126 != x_85, x_125.1)).bind fun d_119 =>
 (orE d_119.1 ((idx p1 s_75.1).bind fun x_133 =>
 (f_edit_Does x_133.Kind).bind fun x_136 =>
 some (!(x_136 == (x_85 != 5))))).bind fun d_129 =>
 (orE d_129 ((f_linotypelaw34_Alike d_119.2 (some x_42.1.place_Pen.length) (⟨z_88.1, (⟨z_88.2.1, z_88.2.2.1, z_88.2.2.2.1⟩ : G_api_Cursor), z_88.2.2.2.2⟩ : G_linotyperef34_Pen)).bind fun x_144 =>
 some (!x_144))).bind fun d_140 =>
 if d_140 = true then
 some (.inr (.inl (d_119.2, false)))
 else
 some (.inl ((w64 (s_75.1 + 1)), z_88.1, z_88.2.1, z_88.2.2.1, z_88.2.2.2.1, z_88.2.2.2.2, d_119.2))
 else
 some (.inr (.inr (s_75.2.1, s_75.2.2.1, s_75.2.2.2.1, s_75.2.2.2.2.1, s_75.2.2.2.2.2.1, s_75.2.2.2.2.2.2)))) (0, p0.L, p0.At.Row, p0.At.Col, p0.At.Pending, p0.Auto, s_60001)).bind fun o_75 =>
 match o_75 with
 | .inl o_75 =>
 some o_75
 | .inr o_75 =>
 some (o_75.2.2.2.2.2, true)
set_option maxHeartbeats 4000000 in
theorem c_linotypelaw38_EditPlays (O0 : Own c0 G F) (R0 : Rel c0 sg G) (hG : Gl [0, 1, 2, 3, 4, 5, 6, 7] c0) (p0 : G_linotypelaw35_Start) (p1 : List G_api_Op) {r : Sto × Bool} (h2 : Sl R_api_Line c0 v1 p0.L) (h4 : Sl R_api_Op c0 v3 p1) (H : f_linotypelaw38_EditPlays sg p0 p1 = some r) :
    Calls Tryz.prog 4 #[.agg #[v1, .int .i64 p0.At.Row, .int .i64 p0.At.Col, .bool p0.At.Pending, .bool p0.Auto], v3] c0.w (Post c0 fun c v => ∃ G_ : Gm, Own c G_ (F) ∧ Rel c r.1 G_ ∧ v = .bool r.2) := by
 unfold f_linotypelaw38_EditPlays at H
 refine en func4 rfl rfl (sr ?_)
 obtain ⟨a5, a6, a7, rfl⟩ := (h2).form
 refine me (bx 26 [.slice a5 a6 a7, .int .i64 p0.At.Row, .int .i64 p0.At.Col, .bool p0.At.Pending, .bool p0.Auto] O0) ?_
 rintro v12 c11 l11 ⟨b8, rfl, O9, m10⟩
 refine va (.bool false) (wln (sr (va (.pointer (some ⟨b8, 0, none⟩)) (vx (l1 underlying22 (m10 0 _ rfl)) (bn H fun x_6 h13 H => cl (c_linotyperef32_Wrong O9 p0.L h2.m h13) ?_)))))
 rintro v19 c18 l18 ⟨O15, rfl⟩
 refine va (.tuple #[.int .i64 x_6.1, .int .i64 x_6.2]) (va (.int .i64 x_6.1) (va (.int .i64 x_6.2) (va (.int .i64 x_6.1) (va (.int .i64 x_6.2) (wln (W.seq (W.seq (bn H fun x_13 h20 H => bn H fun d_15 h21 H => bn H fun d_21 h22 H => bn H fun d_27 h23 H => bn H fun d_31 h24 H => W.join (Jn c18 fun c l => ∃ G_, Own c G_ (F) ∧ l = [(1, v3), (2, .pointer (some ⟨b8, 0, none⟩)), (41, .bool d_31)] ∧ Rel c x_13.1 G_) ?_ ?_))))))))
 ·clear H
  refine W.region (cl (c_linotypelaw38_works O15 R0.m (hG.m.le (by decide)) h20) ?_)
  rintro v30 c29 l29 ⟨G25, O26, R27, rfl⟩
  refine va (.bool (!x_13.2)) ?_
  rcases bo (!x_13.2) with h31 | h31
  ·obtain rfl := orT h31 h21
   refine vb h31 (ps (ps (ps (ps (va (.bool true) ?_)))))
   have h32 : true = true := rfl
   obtain rfl := orT h32 h22
   refine vb h32 (ps (ps (ps (ps (va (.bool true) ?_)))))
   have h33 : true = true := rfl
   obtain rfl := orT h33 h23
   refine vb h33 (ps (ps (va (.bool true) ?_)))
   have h34 : true = true := rfl
   obtain rfl := orT h34 h24
   exact vb h34 (ps (ps (ps (va (.bool true) (wln ⟨c29, _, _, rfl, pt, us, G25, O26, rfl, R27⟩)))))
  have H35 := orF h31 h21
  refine vb h31 (wn (va (.pointer (some ⟨b8, 0, none⟩)) (wn (vx (l1 underlying22 ((mm m10) 0 _ rfl)) (wn (vx (ln 3 underlying22 h2.m) (wn (va (.bool (decide ((p0.L.length : Int) > 20))) ?_))))))))
  obtain rfl := si H35
  refine va (.bool (decide ((p0.L.length : Int) > 20))) ?_
  rcases bo (decide ((p0.L.length : Int) > 20)) with h36 | h36
  ·obtain rfl := orT h36 h22
   refine vb h36 (ps (ps (ps (ps (va (.bool true) ?_)))))
   have h37 : true = true := rfl
   obtain rfl := orT h37 h23
   refine vb h37 (ps (ps (va (.bool true) ?_)))
   have h38 : true = true := rfl
   obtain rfl := orT h38 h24
   exact vb h38 (ps (ps (ps (va (.bool true) (wln ⟨c29, _, _, rfl, pt, us, G25, O26, rfl, R27⟩)))))
  have H39 := orF h36 h22
  refine vb h36 (wn (va (.pointer (some ⟨b8, 0, none⟩)) (wn (vx (l1 underlying22 ((mm m10) 0 _ rfl)) (wn (vx (ln 3 underlying22 h2.m) (wn (va (.bool ((p0.L.length : Int) == 0)) ?_))))))))
  obtain rfl := si H39
  refine va (.bool ((p0.L.length : Int) == 0)) ?_
  rcases bo ((p0.L.length : Int) == 0) with h40 | h40
  ·obtain rfl := orT h40 h23
   refine vb h40 (ps (ps (va (.bool true) ?_)))
   have h41 : true = true := rfl
   obtain rfl := orT h41 h24
   exact vb h41 (ps (ps (ps (va (.bool true) (wln ⟨c29, _, _, rfl, pt, us, G25, O26, rfl, R27⟩)))))
  have H42 := orF h40 h23
  refine vb h40 (wn (va (.int .i64 x_6.1) (wn (va (.bool (decide (x_6.1 ≥ 0))) ?_))))
  obtain rfl := si H42
  refine va (.bool (decide (x_6.1 ≥ 0))) ?_
  rcases bo (decide (x_6.1 ≥ 0)) with h43 | h43
  ·obtain rfl := orT h43 h24
   exact vb h43 (ps (ps (ps (va (.bool true) (wln ⟨c29, _, _, rfl, pt, us, G25, O26, rfl, R27⟩)))))
  have H44 := orF h43 h24
  refine vb h43 (wn (va (v3) (wn (vx (ln 3 underlying55 h4.m) (wn (va (.bool (decide ((p1.length : Int) > 60))) ?_))))))
  obtain rfl := si H44
  exact va (.bool (decide ((p1.length : Int) > 60))) (wln ⟨c29, _, _, rfl, pt, us, G25, O26, rfl, R27⟩)
 rintro e_ w_ ⟨c45, g46, _, rfl, l45, rfl, G48, O47, rfl, R49⟩
 refine nrm (cn H (fun h51 H => ?_) (fun h51 H => ?_))
 ·refine sr (bn H fun x_37 h52 H => cl (c_linotypelaw38_works O47 R49 (hG.m.le (by decide)) h52) ?_)
  rintro v58 c57 l57 ⟨G53, O54, R55, rfl⟩
  refine va (.bool x_37.2) (wln (W.ret (thr ?_)))
  obtain rfl := si H
  exact r1 ⟨_, c57, rfl, rfl, pt, G53, O54, R55, rfl⟩
 refine W.skip (nrm (sr (va (.pointer (some ⟨b8, 0, none⟩)) (vx (l1 underlying22 ((mm m10) 0 _ rfl)) (bn H fun x_42 h59 H => cl (c_grid_Of O47 R49 (hG.m.le (by decide)) p0.L h2.m h59) ?_)))))
 rintro v69 c68 l68 ⟨v60, v62, G64, O65, R66, rfl, h61, h63⟩
 refine va (.tuple #[v60, v62]) (va (v60) (va (v62) (va (v60) (va (v62) (wln (W.seq (sr (va (v62) (vr (.bool (!x_42.2.2.isNil)) (by rcases (h63).cs with ⟨h1_, h2_⟩ | ⟨b_, h1_, h2_⟩ | ⟨b_, h1_, h2_⟩ <;> (subst h1_; rw [h2_]; kernel_rfl)) (wln (cn H (fun h70 H => ?_) (fun h70 H => ?_))))))))))))
 ·refine sr (va (.bool false) (wln (W.ret (thr ?_))))
  obtain rfl := si H
  exact r1 ⟨_, c68, rfl, rfl, pt, G64, O65, R66, rfl⟩
 refine W.skip (nrm (sr (va (v60) (va (.pointer (some ⟨b8, 0 + 1, none⟩)) (vx (lN 24 (imsub (k := 1) (l := [.int .i64 p0.At.Row, .int .i64 p0.At.Col, .bool p0.At.Pending]) (mm m10) rfl)) (va (.pointer (some ⟨b8, 0 + 4, none⟩)) (vx (l1 underlying4 ((mm m10) 4 _ rfl)) ?_)))))))
 obtain ⟨a71, rfl⟩ := (h61).form
 refine va (.agg #[.pointer a71, .int .i64 p0.At.Row, .int .i64 p0.At.Col, .bool p0.At.Pending, .bool p0.Auto]) (me (al 42 [.pointer a71, .int .i64 p0.At.Row, .int .i64 p0.At.Col, .bool p0.At.Pending, .bool p0.Auto] O65) ?_)
 rintro v75 c74 l74 ⟨b72, rfl, O73⟩
 have O76 := O73.sD 1 [0]
 refine bn H fun s_60001 h77 H => ?_
 obtain ⟨c78, G86, h79, l78, h80, O81, R82, h83, h84, a85⟩ := Rel.new_place_Pen (E := [⟨.pointer (some ⟨b72, 0, none⟩), 42, [.pointer a71, .int .i64 p0.At.Row, .int .i64 p0.At.Col, .bool p0.At.Pending, .bool p0.Auto], 0⟩]) (F := F) (x := (⟨x_42.2.1, p0.At, p0.Auto⟩ : G_place_Pen)) (b := b72) O76 (R66.mono l74) (fun c_ hle_ => ⟨b72, (.pointer a71), rfl, rfl, (h61.mono (l74.trans hle_))⟩)
 rw [Option.some.inj h77] at R82
 refine WL.gh h79.1 ?_
 have h88 : Pt 2 c78 (.pointer (some ⟨b72, 0, none⟩)) (some x_42.1.place_Pen.length) := ⟨b72, rfl, h80⟩
 refine va (.pointer (some ⟨b72, 0, none⟩)) (wln (sr (va (.pointer (some ⟨b8, 0, none⟩)) (vx (l1 underlying22 ((mm m10) 0 _ rfl)) (va (.pointer (some ⟨b8, 0 + 1, none⟩)) (vx (lN 24 (imsub (k := 1) (l := [.int .i64 p0.At.Row, .int .i64 p0.At.Col, .bool p0.At.Pending]) (mm m10) rfl)) (va (.pointer (some ⟨b8, 0 + 4, none⟩)) (vx (l1 underlying4 ((mm m10) 4 _ rfl)) (va (.agg #[.slice a5 a6 a7, .int .i64 p0.At.Row, .int .i64 p0.At.Col, .bool p0.At.Pending, .bool p0.Auto]) (me (al 43 [.slice none 0 0, .int .i64 0, .int .i64 0, .bool false, .bool false] O81) ?_))))))))))
 rintro v92 c91 l91 ⟨b89, rfl, O90⟩
 refine md (sA 43 [.slice a5 a6 a7, .int .i64 p0.At.Row, .int .i64 p0.At.Col, .bool p0.At.Pending, .bool p0.Auto] 0 O90 ⟨h2.m.one, rfl, rfl, rfl, rfl, trivial⟩) ?_
 rintro c94 l94 O93
 refine wln (W.seq (sr (va (.int .i64 0) (wln (W.block (bn H fun o_75 h95 H96 => lp h95 (fun s_75 => Jn c94 fun c l => ∃ v97 G_, Own c G_ (⟨.pointer (some ⟨b89, 0, none⟩), 43, [v97, .int .i64 s_75.2.2.1, .int .i64 s_75.2.2.2.1, .bool s_75.2.2.2.2.1, .bool s_75.2.2.2.2.2.1], 0⟩ :: F) ∧ l = [(1, v3), (9, .pointer (some ⟨b72, 0, none⟩)), (10, .pointer (some ⟨b89, 0, none⟩)), (11, .int .i64 s_75.1)] ∧ Rel c s_75.2.2.2.2.2.2 G_ ∧ Sl R_api_Line c v97 s_75.2.1) (fun t => match t with | .inl x_ => (fun rr_ ex e w => ex = .ret ∧ (Jn c94 fun c l => ∃ G_, Own c G_ (F) ∧ l = [(4, .bool rr_.2)] ∧ Rel c rr_.1 G_) e w) x_ | .inr x_ => (fun o_75_ ex e w => ex = .exit 0 ∧ (Jn c94 fun c l => ∃ v98 G_, Own c G_ (⟨.pointer (some ⟨b89, 0, none⟩), 43, [v98, .int .i64 o_75_.2.1, .int .i64 o_75_.2.2.1, .bool o_75_.2.2.2.1, .bool o_75_.2.2.2.2.1], 0⟩ :: F) ∧ l = [] ∧ Rel c o_75_.2.2.2.2.2 G_ ∧ Sl R_api_Line c v98 o_75_.1) e w) x_) ?_ ?_ ?_))))))
 ·clear H96 h95
  intro s_75 xx_ ee_ ww_ H
  revert ee_ ww_
  rintro e_ w_ ⟨c99, g100, _, rfl, l99, rfl, v97, G103, O101, rfl, R104, h102⟩
  refine W.seq (sr (va (.int .i64 s_75.1) (va (v3) (vx (ln 3 underlying55 h4.m) (va (.bool (decide (s_75.1 < (p1.length : Int)))) (wln (cn H (fun h106 H => ?_) (fun h106 H => ?_))))))))
  ·refine W.skip (nrm (W.seq (W.block (sr (va (v3) (va (.int .i64 s_75.1) (bn H fun x_83 h107 H => ?_)))))))
   obtain ⟨l_108, h109, m110⟩ := Sl.at (h4.mono (l11.trans (l18.trans (l45.trans (l68.trans (l74.trans (l78.trans (l91.trans (l94.trans l99))))))))) (idx_get h107)
   obtain ⟨v111, rfl, h112⟩ := h109
   refine vx (ix underlying55 h4.m h107) (vx (lN 59 m110) (bn H fun x_85 h113 H => cl (c_linotyperef38_Wrong O101 x_83 h112 h113) ?_))
   rintro v119 c118 l118 ⟨O115, rfl⟩
   refine va (.int .i64 x_85) (wln (bn H fun z_88 H120 H121 => W.seqJ (Jn c118 fun c l => ∃ v122, Own c G103 (⟨.pointer (some ⟨b89, 0, none⟩), 43, [v122, .int .i64 z_88.2.1, .int .i64 z_88.2.2.1, .bool z_88.2.2.2.1, .bool z_88.2.2.2.2], 0⟩ :: F) ∧ l = [(1, v3), (9, .pointer (some ⟨b72, 0, none⟩)), (10, .pointer (some ⟨b89, 0, none⟩)), (11, .int .i64 s_75.1), (12, .int .i64 x_85)] ∧ Sl R_api_Line c v122 z_88.1) ?_ ?_))
   ·refine sr (va (.int .i64 x_85) (va (.bool (x_85 == 0)) (wln (cn H120 (fun h123 H120 => ?_) (fun h123 H120 => ?_)))))
    ·refine rD [6] (Kp G0 [⟨.pointer (some ⟨b89, 0, none⟩), 43, [v97, .int .i64 s_75.2.2.1, .int .i64 s_75.2.2.2.1, .bool s_75.2.2.2.2.1, .bool s_75.2.2.2.2.2.1], 0⟩]) O115 ?_
     intro c124 l124 O125
     have p126 : Kp G0 [⟨.pointer (some ⟨b89, 0, none⟩), 43, [v97, .int .i64 s_75.2.2.1, .int .i64 s_75.2.2.2.1, .bool s_75.2.2.2.2.1, .bool s_75.2.2.2.2.2.1], 0⟩] c124 := (Kp.cons (O125.on 0 rfl) Kp.nil0)
     refine tkx 0 p126 (fun c' hle hk => leN 43 0 [v97, .int .i64 s_75.2.2.1, .int .i64 s_75.2.2.2.1, .bool s_75.2.2.2.2.1, .bool s_75.2.2.2.2.2.1] (hk.on 0 rfl)) (ta 1 (v3) (ta 2 (.int .i64 s_75.1) (bn H120 fun x_95 h127 H120 => ?_)))
     obtain ⟨l_128, h129, m130⟩ := Sl.at (h4.mono (l11.trans (l18.trans (l45.trans (l68.trans (l74.trans (l78.trans (l91.trans (l94.trans (l99.trans (l118.trans l124))))))))))) (idx_get h127)
     obtain ⟨v131, rfl, h132⟩ := h129
     refine tx 3 (fun c' hle => ix underlying55 h4.m h127) (tx 4 (fun c' hle => lN 59 (mm m130)) (bn H120 fun x_97 h133 H120 => o1 5 (gc 5 (c_linotyperef38_Do O125 (⟨s_75.2.1, (⟨s_75.2.2.1, s_75.2.2.2.1, s_75.2.2.2.2.1⟩ : G_api_Cursor), s_75.2.2.2.2.2.1⟩ : G_linotyperef34_Pen) x_95 h102.m h132 h133) ?_)))
     rintro v141 c140 l140 ⟨v134, O137, rfl, h135⟩
     have p142 : Kp G0 [⟨.pointer (some ⟨b89, 0, none⟩), 43, [v97, .int .i64 s_75.2.2.1, .int .i64 s_75.2.2.2.1, .bool s_75.2.2.2.2.1, .bool s_75.2.2.2.2.2.1], 0⟩] c140 := (Kp.cons (O137.on 0 rfl) Kp.nil0)
     refine ⟨.inr p142, ?_⟩
     obtain ⟨a143, a144, a145, rfl⟩ := (h135).form
     refine o1 6 (gD 6 (sA 43 [.slice a143 a144 a145, .int .i64 x_97.At.Row, .int .i64 x_97.At.Col, .bool x_97.At.Pending, .bool x_97.Auto] 0 O137 ⟨h135.one, rfl, rfl, rfl, rfl, trivial⟩) ?_)
     rintro c147 l147 O146
     refine ⟨.inl rfl, dn (nrm ?_)⟩
     obtain rfl := si H120
     exact ⟨c147, _, _, rfl, pt, us, (.slice a143 a144 a145), O146, rfl, h135.m⟩
    refine W.skip (nrm ?_)
    obtain rfl := si H120
    exact ⟨c118, _, _, rfl, pt, us, v97, O115, rfl, h102.m⟩
   rintro e_ w_ ⟨c148, g149, _, rfl, l148, rfl, v122, O150, rfl, h151⟩
   refine W.seq (bn H121 fun x_102 h155 H121 => bn H121 fun x_104 h156 H121 => bn H121 fun x_105 h157 H121 => bn H121 fun d_108 h158 H121 => bn H121 fun d_119 h159 H121 => bn H121 fun d_129 h160 H121 => bn H121 fun d_140 h161 H121 => W.join (Jn c148 fun c l => ∃ G_, Own c G_ (⟨.pointer (some ⟨b89, 0, none⟩), 43, [v122, .int .i64 z_88.2.1, .int .i64 z_88.2.2.1, .bool z_88.2.2.2.1, .bool z_88.2.2.2.2], 0⟩ :: F) ∧ l = [(1, v3), (9, .pointer (some ⟨b72, 0, none⟩)), (10, .pointer (some ⟨b89, 0, none⟩)), (11, .int .i64 s_75.1), (129, .bool d_140)] ∧ Rel c d_119.2 G_) ?_ ?_)
   ·clear H121
    refine W.region (va (v3) (va (.int .i64 s_75.1) ?_))
    obtain ⟨l_162, h163, m164⟩ := Sl.at (h4.mono (l11.trans (l18.trans (l45.trans (l68.trans (l74.trans (l78.trans (l91.trans (l94.trans (l99.trans (l118.trans l148))))))))))) (idx_get h155)
    obtain ⟨v165, rfl, h166⟩ := h163
    refine vx (ix underlying55 h4.m h155) (vx (lN 59 m164) (cl (c_edit_Wrong O150 (hG.m.le (by decide)) x_102 h166 h156) ?_))
    rintro v167 c173 l173 ⟨_, O170, rfl, h168⟩
    refine cl (c_api_Code O170 (hG.m.le (by decide)) x_104 h168 h157) ?_
    rintro v180 c179 l179 ⟨O176, rfl⟩
    refine va (.int .i64 x_85) (va (.bool (x_105 != x_85)) ?_)
    rcases bo (x_105 != x_85) with h181 | h181
    ·obtain rfl := Option.some.inj (it h181 h158)
     refine vb h181 (ps (ps (ps (ps (ps (ps (ps (ps (ps (va (.bool true) ?_))))))))))
     have h182 : true = true := rfl
     obtain rfl := Option.some.inj (it h182 h159)
     refine vb h182 (ps (ps (ps (ps (ps (ps (ps (ps (va (.bool true) ?_)))))))))
     have h183 : true = true := rfl
     obtain rfl := orT h183 h160
     refine vb h183 (ps (ps (ps (ps (ps (ps (ps (ps (ps (va (.bool true) ?_))))))))))
     have h184 : true = true := rfl
     obtain rfl := orT h184 h161
     exact vb h184 (ps (ps (ps (ps (va (.bool true) (wln ⟨c179, _, _, rfl, pt, us, G103, O176, rfl, R104.m⟩))))))
    have H185 := ie h181 h158
    refine vb h181 (wn (va (.pointer (some ⟨b72, 0, none⟩)) (wn (va (v3) (wn (va (.int .i64 s_75.1) (wn (bn H185 fun x_113 h186 H185 => ?_))))))))
    obtain ⟨l_187, h188, m189⟩ := Sl.at (h4.mono (l11.trans (l18.trans (l45.trans (l68.trans (l74.trans (l78.trans (l91.trans (l94.trans (l99.trans (l118.trans (l148.trans (l173.trans l179))))))))))))) (idx_get h186)
    obtain ⟨v190, rfl, h191⟩ := h188
    refine vx (ix underlying55 h4.m h186) (wn (vx (lN 59 m189) (wn (bn H185 fun x_115 h192 H185 => cl (c_edit_Do O176 R104.m (hG.m.le (by decide)) (some x_42.1.place_Pen.length) x_113 h88.m h191 h192) ?_))))
    rintro v193 c199 l199 ⟨_, G195, O196, R197, rfl, h194⟩
    refine wn (bn H185 fun x_116 h201 H185 => cl (c_api_Code O196 (hG.m.le (by decide)) x_115.2 h194 h201) ?_)
    rintro v207 c206 l206 ⟨O203, rfl⟩
    refine wn (va (.int .i64 x_85) (wn (va (.bool (x_116 != x_85)) ?_)))
    obtain rfl := si H185
    refine va (.bool (x_116 != x_85)) ?_
    rcases bo (x_116 != x_85) with h208 | h208
    ·obtain rfl := Option.some.inj (it h208 h159)
     refine vb h208 (ps (ps (ps (ps (ps (ps (ps (ps (va (.bool true) ?_)))))))))
     have h209 : true = true := rfl
     obtain rfl := orT h209 h160
     refine vb h209 (ps (ps (ps (ps (ps (ps (ps (ps (ps (va (.bool true) ?_))))))))))
     have h210 : true = true := rfl
     obtain rfl := orT h210 h161
     exact vb h210 (ps (ps (ps (ps (va (.bool true) (wln ⟨c206, _, _, rfl, pt, us, G195, O203, rfl, R197.m⟩))))))
    have H211 := ie h208 h159
    refine vb h208 (wn (va (v3) (wn (va (.int .i64 s_75.1) (wn (bn H211 fun x_123 h212 H211 => ?_))))))
    obtain ⟨l_213, h214, m215⟩ := Sl.at (h4.mono (l11.trans (l18.trans (l45.trans (l68.trans (l74.trans (l78.trans (l91.trans (l94.trans (l99.trans (l118.trans (l148.trans (l173.trans (l179.trans (l199.trans l206))))))))))))))) (idx_get h212)
    obtain ⟨v216, rfl, h217⟩ := h214
    refine vx (ix underlying55 h4.m h212) (wn (vx (lN 59 m215) (wn (bn H211 fun x_125 h218 H211 => cl (c_edit_Do O203 R197.m (hG.m.le (by decide)) (none : Option Nat) x_123 rfl h217 h218) ?_))))
    rintro v219 c225 l225 ⟨_, G221, O222, R223, rfl, h220⟩
    refine wn (bn H211 fun x_126 h227 H211 => cl (c_api_Code O222 (hG.m.le (by decide)) x_125.2 h220 h227) ?_)
    rintro v233 c232 l232 ⟨O229, rfl⟩
    refine wn (va (.int .i64 x_85) (wn (va (.bool (x_126 != x_85)) ?_)))
    obtain rfl := si H211
    refine va (.bool (x_126 != x_85)) ?_
    rcases bo (x_126 != x_85) with h234 | h234
    ·obtain rfl := orT h234 h160
     refine vb h234 (ps (ps (ps (ps (ps (ps (ps (ps (ps (va (.bool true) ?_))))))))))
     have h235 : true = true := rfl
     obtain rfl := orT h235 h161
     exact vb h235 (ps (ps (ps (ps (va (.bool true) (wln ⟨c232, _, _, rfl, pt, us, G221, O229, rfl, R223.m⟩))))))
    have H236 := orF h234 h160
    refine vb h234 (wn (va (v3) (wn (va (.int .i64 s_75.1) (wn (bn H236 fun x_133 h237 H236 => ?_))))))
    obtain ⟨l_238, h239, m240⟩ := Sl.at (h4.mono (l11.trans (l18.trans (l45.trans (l68.trans (l74.trans (l78.trans (l91.trans (l94.trans (l99.trans (l118.trans (l148.trans (l173.trans (l179.trans (l199.trans (l206.trans (l225.trans l232))))))))))))))))) (idx_get h237)
    obtain ⟨v241, rfl, h242⟩ := h239
    refine vx (ix underlying55 h4.m h237) (wn (va (.pointer (some ⟨sb v3, so v3 + s_75.1.toNat * 4, none⟩)) (wn (vx (l1 underlying3 (m240 0 _ rfl)) (wn (bn H236 fun x_136 h243 H236 => cl (c_edit_Does O229 x_133.Kind h243) ?_))))))
    rintro v249 c248 l248 ⟨O245, rfl⟩
    refine wn (va (.int .i64 x_85) (wn (va (.bool (x_85 != 5)) (wn (va (.bool (!(x_136 == (x_85 != 5)))) ?_)))))
    obtain rfl := si H236
    refine va (.bool (!(x_136 == (x_85 != 5)))) ?_
    rcases bo (!(x_136 == (x_85 != 5))) with h250 | h250
    ·obtain rfl := orT h250 h161
     exact vb h250 (ps (ps (ps (ps (va (.bool true) (wln ⟨c248, _, _, rfl, pt, us, G221, O245, rfl, R223.m⟩))))))
    have H251 := orF h250 h161
    refine vb h250 (wn (va (.pointer (some ⟨b72, 0, none⟩)) (wn (vx (leN 43 0 [v122, .int .i64 z_88.2.1, .int .i64 z_88.2.2.1, .bool z_88.2.2.2.1, .bool z_88.2.2.2.2] (O245.on 0 rfl)) (wn (bn H251 fun x_144 h252 H251 => cl (c_linotypelaw34_Alike O245 R223.m (some x_42.1.place_Pen.length) (⟨z_88.1, (⟨z_88.2.1, z_88.2.2.1, z_88.2.2.2.1⟩ : G_api_Cursor), z_88.2.2.2.2⟩ : G_linotyperef34_Pen) h88.m h151.m h252) ?_))))))
    rintro v258 c257 l257 ⟨O254, rfl⟩
    refine wn (va (.bool (!x_144)) ?_)
    obtain rfl := si H251
    exact va (.bool (!x_144)) (wln ⟨c257, _, _, rfl, pt, us, G221, O254, rfl, R223.m⟩)
   rintro e_ w_ ⟨c259, g260, _, rfl, l259, rfl, G262, O261, rfl, R263⟩
   refine nrm (cn H121 (fun h265 H121 => ?_) (fun h265 H121 => ?_))
   ·refine sr (va (.bool false) (wln (W.ret (bkr (thr ?_)))))
    obtain rfl := si H121
    refine ⟨_, rfl, ⟨rfl, ?_⟩⟩
    have O266 := O261.sD 1 []
    exact ⟨c259, _, _, rfl, pt, us, G262, O266, rfl, R263⟩
   refine W.skip (bkn (nrm (W.region (va (.int .i64 s_75.1) (va (.int .i64 (w64 (s_75.1 + 1))) (va (.int .i64 (w64 (s_75.1 + 1))) (WL.nil ?_)))))))
   obtain rfl := si H121
   exact ⟨_, rfl, ⟨c259, _, _, rfl, pt, us, v122, G262, O261, rfl, R263, h151.m⟩⟩
  refine W.exit (thx ?_)
  obtain rfl := si H
  exact ⟨_, rfl, rfl, ⟨c99, _, _, rfl, pt, us, v97, G103, O101, rfl, R104, h102⟩⟩
 ·exact ⟨c94, _, _, rfl, pt, us, (.slice a5 a6 a7), G86, O93, rfl, R82.m, h2.m⟩
 rcases o_75 with o_75 | o_75
 ·intro ex_; revert ex_
  rintro _ e_ w_ ⟨rfl, c267, g268, _, rfl, l267, rfl, G270, O269, rfl, R271⟩
  refine bkr (thr ?_)
  obtain rfl := si H96
  exact r1 ⟨_, c267, rfl, rfl, pt, G270, O269, R271, rfl⟩
 rintro _ e_ w_ ⟨rfl, c273, g274, _, rfl, l273, rfl, v98, G277, O275, rfl, R278, h276⟩
 refine bke (nrm (sr (va (.bool true) (wln (W.ret ?_)))))
 obtain rfl := si H96
 have O280 := O275.sD 1 []
 exact r1 ⟨_, c273, rfl, rfl, pt, G277, O280, R278, rfl⟩
def f_linotypelaw38_EditSound (sg : Sto) (p0 : G_linotypelaw35_Start) (p1 : G_api_Op) : Option (Sto × Bool) :=
 (f_linotyperef32_Wrong p0.L).bind fun x_7 =>
 (f_linotypelaw38_works sg).bind fun x_14 =>
 (orE (!x_14.2) (some (decide ((p0.L.length : Int) > 40)))).bind fun d_16 =>
 (orE d_16 (some ((p0.L.length : Int) == 0))).bind fun d_22 =>
 (orE d_22 (some (decide (x_7.1 ≥ 0)))).bind fun d_28 =>
 (orE d_28 ((f_linotyperef38_Wrong p1).bind fun x_35 =>
 some (x_35 != 0))).bind fun d_32 =>
 if d_32 = true then
 (f_linotypelaw38_works x_14.1).bind fun x_38 =>
 some (x_38.1, x_38.2)
 else
 (f_grid_Of x_14.1 p0.L).bind fun x_43 =>
 if (!x_43.2.2.isNil) = true then
 some (x_43.1, false)
 else
 (some (x_43.1.add_place_Pen (⟨x_43.2.1, p0.At, p0.Auto⟩ : G_place_Pen))).bind fun s_61001 =>
 (f_edit_Do s_61001 (some x_43.1.place_Pen.length) p1).bind fun x_66 =>
 (orE (!x_66.2.isNil) ((x_66.1.place_Pen[x_43.1.place_Pen.length]?).bind fun o_74 =>
 some o_74.At.Pending)).bind fun d_68 =>
 (orE d_68 ((x_66.1.place_Pen[x_43.1.place_Pen.length]?).bind fun o_80 =>
 (f_grid_Grid_Wide x_66.1 x_43.2.1).bind fun x_83 =>
 (f_grid_Grid_High x_66.1 x_43.2.1).bind fun x_84 =>
 (f_cursor_Right o_80.At x_83 x_84).bind fun x_85 =>
 some (!x_85))).bind fun d_75 =>
 if d_75 = true then
 some (x_66.1, false)
 else
 (x_66.1.place_Pen[x_43.1.place_Pen.length]?).bind fun o_93 =>
 (f_grid_Grid_Lines x_66.1 o_93.G).bind fun x_94 =>
 (iter (σ := Int) (τ := (Sto × Bool) ⊕ Unit) (((x_94.length : Int) - 0).toNat + 1) (fun s_99 =>
 if (decide (s_99 < (x_94.length : Int))) = true then
 (idx x_94 s_99).bind fun x_107 =>
 (f_linotyperef23_Sound x_107.Cells).bind fun x_110 =>
 (orE (!x_110) ((idx x_94 s_99).bind fun x_116 =>
 (idx p0.L 0).bind fun x_122 =>
 some ((x_116.Cells.length : Int) != (x_122.Cells.length : Int)))).bind fun d_112 =>
 if d_112 = true then
 some (.inr (.inl (x_66.1, false)))
 else
 some (.inl ((w64 (s_99 + 1))))
 else
 some (.inr (.inr ()))) (0)).bind fun o_99 =>
 match o_99 with
 | .inl o_99 =>
 some o_99
 | .inr o_99 =>
 some (x_66.1, (x_94.length : Int) == (p0.L.length : Int))
theorem c_linotypelaw38_EditSound (O0 : Own c0 G F) (R0 : Rel c0 sg G) (hG : Gl [0, 1, 2, 3, 4, 5, 6, 7] c0) (p0 : G_linotypelaw35_Start) (p1 : G_api_Op) {r : Sto × Bool} (h2 : Sl R_api_Line c0 v1 p0.L) (h4 : Sl (RI .u8) c0 v3 p1.Bytes) (H : f_linotypelaw38_EditSound sg p0 p1 = some r) :
    Calls Tryz.prog 5 #[.agg #[v1, .int .i64 p0.At.Row, .int .i64 p0.At.Col, .bool p0.At.Pending, .bool p0.Auto], .agg #[.int .i64 p1.Kind, .int .i64 p1.A, .int .i64 p1.B, v3]] c0.w (Post c0 fun c v => ∃ G_ : Gm, Own c G_ (F) ∧ Rel c r.1 G_ ∧ v = .bool r.2) := by
 unfold f_linotypelaw38_EditSound at H
 refine en func5 rfl rfl (sr ?_)
 obtain ⟨a5, a6, a7, rfl⟩ := (h2).form
 refine me (bx 26 [.slice a5 a6 a7, .int .i64 p0.At.Row, .int .i64 p0.At.Col, .bool p0.At.Pending, .bool p0.Auto] O0) ?_
 rintro v12 c11 l11 ⟨b8, rfl, O9, m10⟩
 obtain ⟨a13, a14, a15, rfl⟩ := ((h4.mono l11)).form
 refine me (bx 59 [.int .i64 p1.Kind, .int .i64 p1.A, .int .i64 p1.B, .slice a13 a14 a15] O9) ?_
 rintro v20 c19 l19 ⟨b16, rfl, O17, m18⟩
 refine va (.bool false) (wln (sr (va (.pointer (some ⟨b8, 0, none⟩)) (vx (l1 underlying22 ((mm m10) 0 _ rfl)) (bn H fun x_7 h21 H => cl (c_linotyperef32_Wrong O17 p0.L h2.m h21) ?_)))))
 rintro v27 c26 l26 ⟨O23, rfl⟩
 refine va (.tuple #[.int .i64 x_7.1, .int .i64 x_7.2]) (va (.int .i64 x_7.1) (va (.int .i64 x_7.2) (va (.int .i64 x_7.1) (va (.int .i64 x_7.2) (wln (W.seq (W.seq (bn H fun x_14 h28 H => bn H fun d_16 h29 H => bn H fun d_22 h30 H => bn H fun d_28 h31 H => bn H fun d_32 h32 H => W.join (Jn c26 fun c l => ∃ G_, Own c G_ (F) ∧ l = [(2, .pointer (some ⟨b8, 0, none⟩)), (3, .pointer (some ⟨b16, 0, none⟩)), (40, .bool d_32)] ∧ Rel c x_14.1 G_) ?_ ?_))))))))
 ·clear H
  refine W.region (cl (c_linotypelaw38_works O23 R0.m (hG.m.le (by decide)) h28) ?_)
  rintro v38 c37 l37 ⟨G33, O34, R35, rfl⟩
  refine va (.bool (!x_14.2)) ?_
  rcases bo (!x_14.2) with h39 | h39
  ·obtain rfl := orT h39 h29
   refine vb h39 (ps (ps (ps (ps (va (.bool true) ?_)))))
   have h40 : true = true := rfl
   obtain rfl := orT h40 h30
   refine vb h40 (ps (ps (ps (ps (va (.bool true) ?_)))))
   have h41 : true = true := rfl
   obtain rfl := orT h41 h31
   refine vb h41 (ps (ps (va (.bool true) ?_)))
   have h42 : true = true := rfl
   obtain rfl := orT h42 h32
   exact vb h42 (ps (ps (ps (va (.bool true) (wln ⟨c37, _, _, rfl, pt, us, G33, O34, rfl, R35⟩)))))
  have H43 := orF h39 h29
  refine vb h39 (wn (va (.pointer (some ⟨b8, 0, none⟩)) (wn (vx (l1 underlying22 ((mm m10) 0 _ rfl)) (wn (vx (ln 3 underlying22 h2.m) (wn (va (.bool (decide ((p0.L.length : Int) > 40))) ?_))))))))
  obtain rfl := si H43
  refine va (.bool (decide ((p0.L.length : Int) > 40))) ?_
  rcases bo (decide ((p0.L.length : Int) > 40)) with h44 | h44
  ·obtain rfl := orT h44 h30
   refine vb h44 (ps (ps (ps (ps (va (.bool true) ?_)))))
   have h45 : true = true := rfl
   obtain rfl := orT h45 h31
   refine vb h45 (ps (ps (va (.bool true) ?_)))
   have h46 : true = true := rfl
   obtain rfl := orT h46 h32
   exact vb h46 (ps (ps (ps (va (.bool true) (wln ⟨c37, _, _, rfl, pt, us, G33, O34, rfl, R35⟩)))))
  have H47 := orF h44 h30
  refine vb h44 (wn (va (.pointer (some ⟨b8, 0, none⟩)) (wn (vx (l1 underlying22 ((mm m10) 0 _ rfl)) (wn (vx (ln 3 underlying22 h2.m) (wn (va (.bool ((p0.L.length : Int) == 0)) ?_))))))))
  obtain rfl := si H47
  refine va (.bool ((p0.L.length : Int) == 0)) ?_
  rcases bo ((p0.L.length : Int) == 0) with h48 | h48
  ·obtain rfl := orT h48 h31
   refine vb h48 (ps (ps (va (.bool true) ?_)))
   have h49 : true = true := rfl
   obtain rfl := orT h49 h32
   exact vb h49 (ps (ps (ps (va (.bool true) (wln ⟨c37, _, _, rfl, pt, us, G33, O34, rfl, R35⟩)))))
  have H50 := orF h48 h31
  refine vb h48 (wn (va (.int .i64 x_7.1) (wn (va (.bool (decide (x_7.1 ≥ 0))) ?_))))
  obtain rfl := si H50
  refine va (.bool (decide (x_7.1 ≥ 0))) ?_
  rcases bo (decide (x_7.1 ≥ 0)) with h51 | h51
  ·obtain rfl := orT h51 h32
   exact vb h51 (ps (ps (ps (va (.bool true) (wln ⟨c37, _, _, rfl, pt, us, G33, O34, rfl, R35⟩)))))
  have H52 := orF h51 h32
  refine vb h51 (wn (vx (lN 59 (mm m18)) (wn (bn H52 fun x_35 h53 H52 => cl (c_linotyperef38_Wrong O34 p1 h4.m h53) ?_))))
  rintro v59 c58 l58 ⟨O55, rfl⟩
  refine wn (va (.bool (x_35 != 0)) ?_)
  obtain rfl := si H52
  exact va (.bool (x_35 != 0)) (wln ⟨c58, _, _, rfl, pt, us, G33, O55, rfl, R35.m⟩)
 rintro e_ w_ ⟨c60, g61, _, rfl, l60, rfl, G63, O62, rfl, R64⟩
 refine nrm (cn H (fun h66 H => ?_) (fun h66 H => ?_))
 ·refine sr (bn H fun x_38 h67 H => cl (c_linotypelaw38_works O62 R64 (hG.m.le (by decide)) h67) ?_)
  rintro v73 c72 l72 ⟨G68, O69, R70, rfl⟩
  refine va (.bool x_38.2) (wln (W.ret (thr ?_)))
  obtain rfl := si H
  exact r1 ⟨_, c72, rfl, rfl, pt, G68, O69, R70, rfl⟩
 refine W.skip (nrm (sr (va (.pointer (some ⟨b8, 0, none⟩)) (vx (l1 underlying22 ((mm m10) 0 _ rfl)) (bn H fun x_43 h74 H => cl (c_grid_Of O62 R64 (hG.m.le (by decide)) p0.L h2.m h74) ?_)))))
 rintro v84 c83 l83 ⟨v75, v77, G79, O80, R81, rfl, h76, h78⟩
 refine va (.tuple #[v75, v77]) (va (v75) (va (v77) (va (v75) (va (v77) (wln (W.seq (sr (va (v77) (vr (.bool (!x_43.2.2.isNil)) (by rcases (h78).cs with ⟨h1_, h2_⟩ | ⟨b_, h1_, h2_⟩ | ⟨b_, h1_, h2_⟩ <;> (subst h1_; rw [h2_]; kernel_rfl)) (wln (cn H (fun h85 H => ?_) (fun h85 H => ?_))))))))))))
 ·refine sr (va (.bool false) (wln (W.ret (thr ?_))))
  obtain rfl := si H
  exact r1 ⟨_, c83, rfl, rfl, pt, G79, O80, R81, rfl⟩
 refine W.skip (nrm (sr (va (v75) (va (.pointer (some ⟨b8, 0 + 1, none⟩)) (vx (lN 24 (imsub (k := 1) (l := [.int .i64 p0.At.Row, .int .i64 p0.At.Col, .bool p0.At.Pending]) (mm m10) rfl)) (va (.pointer (some ⟨b8, 0 + 4, none⟩)) (vx (l1 underlying4 ((mm m10) 4 _ rfl)) ?_)))))))
 obtain ⟨a86, rfl⟩ := (h76).form
 refine va (.agg #[.pointer a86, .int .i64 p0.At.Row, .int .i64 p0.At.Col, .bool p0.At.Pending, .bool p0.Auto]) (me (al 42 [.pointer a86, .int .i64 p0.At.Row, .int .i64 p0.At.Col, .bool p0.At.Pending, .bool p0.Auto] O80) ?_)
 rintro v90 c89 l89 ⟨b87, rfl, O88⟩
 have O91 := O88.sD 1 [0]
 refine bn H fun s_61001 h92 H => ?_
 obtain ⟨c93, G101, h94, l93, h95, O96, R97, h98, h99, a100⟩ := Rel.new_place_Pen (E := [⟨.pointer (some ⟨b87, 0, none⟩), 42, [.pointer a86, .int .i64 p0.At.Row, .int .i64 p0.At.Col, .bool p0.At.Pending, .bool p0.Auto], 0⟩]) (F := F) (x := (⟨x_43.2.1, p0.At, p0.Auto⟩ : G_place_Pen)) (b := b87) O91 (R81.mono l89) (fun c_ hle_ => ⟨b87, (.pointer a86), rfl, rfl, (h76.mono (l89.trans hle_))⟩)
 rw [Option.some.inj h92] at R97
 refine WL.gh h94.1 ?_
 have h103 : Pt 2 c93 (.pointer (some ⟨b87, 0, none⟩)) (some x_43.1.place_Pen.length) := ⟨b87, rfl, h95⟩
 refine va (.pointer (some ⟨b87, 0, none⟩)) (wln (W.seq (W.seq (bn H fun x_66 h104 H => bn H fun d_68 h105 H => bn H fun d_75 h106 H => W.join (Jn c93 fun c l => ∃ G_, Own c G_ (F) ∧ l = [(2, .pointer (some ⟨b8, 0, none⟩)), (9, .pointer (some ⟨b87, 0, none⟩)), (79, .bool d_75)] ∧ Rel c x_66.1 G_) ?_ ?_))))
 ·clear H
  refine rD [2, 9, 15, 17, 19, 20] (Kp G0 []) O96 ?_
  intro c107 l107 O108
  have p109 : Kp G0 [] c107 := Kp.nil0
  refine ta 0 (.pointer (some ⟨b87, 0, none⟩)) (tx 1 (fun c' hle => lN 59 (mm m18)) (o1 2 (gc 2 (c_edit_Do O108 R97.m (hG.m.le (by decide)) (some x_43.1.place_Pen.length) p1 h103.m h4.m h104) ?_)))
  rintro v110 c116 l116 ⟨_, G112, O113, R114, rfl, h111⟩
  refine ⟨.inl rfl, AC.take 3 (.bool (!x_66.2.isNil)) rfl (by kernel_rfl) (by kernel_rfl) (fun c' hle => (by rcases (h111).cs with ⟨h1_, h2_⟩ | ⟨b_, h1_, h2_⟩ | ⟨b_, h1_, h2_⟩ <;> (subst h1_; rw [h2_]; kernel_rfl))) ?_⟩
  rcases bo (!x_66.2.isNil) with h118 | h118
  ·obtain rfl := orT h118 h105
   refine AC.takeb 4 h118 rfl (by kernel_rfl) (by kernel_rfl) (fun c' hle => (by kernel_rfl)) (tp 5 (tp 6 (tp 7 (tp 8 (tp 9 (ta 10 (.bool true) ?_))))))
   have h119 : true = true := rfl
   obtain rfl := orT h119 h106
   exact AC.takeb 11 h119 rfl (by kernel_rfl) (by kernel_rfl) (fun c' hle => (by kernel_rfl)) (tp 12 (tp 13 (tp 14 (tp 16 (tp 18 (tp 15 (tp 17 (tp 19 (tp 20 (tp 21 (ta 22 (.bool true) (dn (nrm ⟨c116, _, _, rfl, pt, us, G112, O113, rfl, R114⟩)))))))))))))
  have H120 := orF h118 h105
  refine bn H120 fun o_74 h121 H120 => AC.takeb 4 h118 rfl (by kernel_rfl) (by kernel_rfl) (fun c' hle => (by kernel_rfl)) (ta 5 (.pointer (some ⟨b87, 0, none⟩)) (ta 6 (.pointer (some ⟨b87, 0, none⟩)) (ta 7 (.pointer (some ⟨b87, 1, none⟩)) (ta 8 (.pointer (some ⟨b87, 3, none⟩)) ?_))))
  obtain ⟨v122, h124, h123⟩ := Rel.open_place_Pen R114 h121 (tm h95)
  refine o1 9 (gl 9 (le1 3 underlying4 (O113.gon h124 0 rfl)) ?_)
  obtain rfl := si H120
  refine ta 10 (.bool o_74.At.Pending) ?_
  rcases bo (o_74.At.Pending) with h125 | h125
  ·obtain rfl := orT h125 h106
   exact AC.takeb 11 h125 rfl (by kernel_rfl) (by kernel_rfl) (fun c' hle => (by kernel_rfl)) (tp 12 (tp 13 (tp 14 (tp 16 (tp 18 (tp 15 (tp 17 (tp 19 (tp 20 (tp 21 (ta 22 (.bool true) (dn (nrm ⟨c116, _, _, rfl, pt, us, G112, O113, rfl, R114⟩)))))))))))))
  have H126 := orF h125 h106
  refine bn H126 fun o_80 h127 H126 => bn H126 fun x_83 h128 H126 => bn H126 fun x_84 h129 H126 => bn H126 fun x_85 h130 H126 => AC.takeb 11 h125 rfl (by kernel_rfl) (by kernel_rfl) (fun c' hle => (by kernel_rfl)) (ta 12 (.pointer (some ⟨b87, 0, none⟩)) (ta 13 (.pointer (some ⟨b87, 0, none⟩)) (ta 14 (.pointer (some ⟨b87, 1, none⟩)) (ta 16 (.pointer a86) (ta 18 (.pointer a86) (mn2 15 17 ?_ ?_))))))
  ·obtain ⟨v131, h133, h132⟩ := Rel.open_place_Pen R114 h127 (tm h95)
   refine gl 15 (leN 24 1 [.int .i64 o_80.At.Row, .int .i64 o_80.At.Col, .bool o_80.At.Pending] (O113.gon h133 0 rfl)) (o1 17 (gc 17 (c_grid_Grid_Wide O113 R114 x_43.2.1 h76.m h128) ?_))
   rintro v139 c138 l138 ⟨O135, rfl⟩
   refine ⟨.inl rfl, o1 19 (gc 19 (c_grid_Grid_High O135 R114.m x_43.2.1 h76.m h129) ?_)⟩
   rintro v145 c144 l144 ⟨O141, rfl⟩
   refine ⟨.inl rfl, o1 20 (gc 20 (c_cursor_Right O141 o_80.At x_83 x_84 h130) ?_)⟩
   rintro v151 c150 l150 ⟨O147, rfl⟩
   refine ⟨.inl rfl, ta 21 (.bool (!x_85)) ?_⟩
   obtain rfl := si H126
   exact ta 22 (.bool (!x_85)) (dn (nrm ⟨c150, _, _, rfl, pt, us, G112, O147, rfl, R114.m⟩))
  refine gc 17 (c_grid_Grid_Wide O113 R114 x_43.2.1 h76.m h128) ?_
  rintro v157 c156 l156 ⟨O153, rfl⟩
  refine ⟨.inl rfl, mn2 15 19 ?_ ?_⟩
  ·obtain ⟨v158, h160, h159⟩ := Rel.open_place_Pen (R114.mono l156) h127 (tm h95)
   refine gl 15 (leN 24 1 [.int .i64 o_80.At.Row, .int .i64 o_80.At.Col, .bool o_80.At.Pending] (O153.gon h160 0 rfl)) (o1 19 (gc 19 (c_grid_Grid_High O153 R114.m x_43.2.1 h76.m h129) ?_))
   rintro v166 c165 l165 ⟨O162, rfl⟩
   refine ⟨.inl rfl, o1 20 (gc 20 (c_cursor_Right O162 o_80.At x_83 x_84 h130) ?_)⟩
   rintro v172 c171 l171 ⟨O168, rfl⟩
   refine ⟨.inl rfl, ta 21 (.bool (!x_85)) ?_⟩
   obtain rfl := si H126
   exact ta 22 (.bool (!x_85)) (dn (nrm ⟨c171, _, _, rfl, pt, us, G112, O168, rfl, R114.m⟩))
  refine gc 19 (c_grid_Grid_High O153 R114.m x_43.2.1 h76.m h129) ?_
  rintro v178 c177 l177 ⟨O174, rfl⟩
  refine ⟨.inl rfl, ?_⟩
  obtain ⟨v179, h181, h180⟩ := Rel.open_place_Pen (R114.mono (l156.trans l177)) h127 (tm h95)
  refine o1 15 (gl 15 (leN 24 1 [.int .i64 o_80.At.Row, .int .i64 o_80.At.Col, .bool o_80.At.Pending] (O174.gon h181 0 rfl)) (o1 20 (gc 20 (c_cursor_Right O174 o_80.At x_83 x_84 h130) ?_)))
  rintro v187 c186 l186 ⟨O183, rfl⟩
  refine ⟨.inl rfl, ta 21 (.bool (!x_85)) ?_⟩
  obtain rfl := si H126
  exact ta 22 (.bool (!x_85)) (dn (nrm ⟨c186, _, _, rfl, pt, us, G112, O183, rfl, R114.m⟩))
 rintro e_ w_ ⟨c188, g189, _, rfl, l188, rfl, G191, O190, rfl, R192⟩
 refine nrm (cn H (fun h194 H => ?_) (fun h194 H => ?_))
 ·refine sr (va (.bool false) (wln (W.ret (thr ?_))))
  obtain rfl := si H
  exact r1 ⟨_, c188, rfl, rfl, pt, G191, O190, R192, rfl⟩
 refine W.skip (nrm (sr (va (.pointer (some ⟨b87, 0, none⟩)) (va (.pointer (some ⟨b87, 0, none⟩)) (va (.pointer (some ⟨b87, 0, none⟩)) (bn H fun o_93 h195 H => ?_))))))
 obtain ⟨v196, h198, h197⟩ := Rel.open_place_Pen R192 h195 (tm h95)
 refine vx (le1 0 underlying35 (O190.gon h198 0 rfl)) (bn H fun x_94 h199 H => cl (c_grid_Grid_Lines O190 R192 o_93.G h197 h199) ?_)
 rintro v200 c207 l207 ⟨_, u201, O204, rfl, h202⟩
 refine va (v200) (wln (W.seq (sr (va (.int .i64 0) (wln (W.block (bn H fun o_99 h209 H210 => lp h209 (fun s_99 => Jn c207 fun c l => Own c G191 (es true R_api_Line v200 71 u201 x_94 :: F) ∧ l = [(2, .pointer (some ⟨b8, 0, none⟩)), (10, v200), (11, .int .i64 s_99)]) (fun t => match t with | .inl x_ => (fun rr_ ex e w => ex = .ret ∧ (Jn c207 fun c l => ∃ G_, Own c G_ (F) ∧ l = [(4, .bool rr_.2)] ∧ Rel c rr_.1 G_) e w) x_ | .inr x_ => (fun o_99_ ex e w => ex = .exit 0 ∧ (Jn c207 fun c l => Own c G191 (es true R_api_Line v200 71 u201 x_94 :: F) ∧ l = [(2, .pointer (some ⟨b8, 0, none⟩)), (10, v200)]) e w) x_) ?_ ?_ ?_)))))))
 ·clear H210 h209
  intro s_99 xx_ ee_ ww_ H
  revert ee_ ww_
  rintro e_ w_ ⟨c211, g212, _, rfl, l211, rfl, O213, rfl⟩
  refine W.seq (sr (va (.int .i64 s_99) (va (v200) (vx (lnO 3 underlying22 h202.m) (va (.bool (decide (s_99 < (x_94.length : Int)))) (wln (cn H (fun h217 H => ?_) (fun h217 H => ?_))))))))
  ·refine W.skip (nrm (W.seq (W.block (W.seq (bn H fun x_107 h218 H => bn H fun x_110 h219 H => bn H fun d_112 h220 H => W.join (Jn c211 fun c l => Own c G191 (es true R_api_Line v200 71 u201 x_94 :: F) ∧ l = [(2, .pointer (some ⟨b8, 0, none⟩)), (10, v200), (11, .int .i64 s_99), (112, .bool d_112)]) ?_ ?_)))))
   ·clear H
    refine rD [] (Kp G0 [es true R_api_Line v200 71 u201 x_94]) O213 ?_
    intro c221 l221 O222
    have p223 : Kp G0 [es true R_api_Line v200 71 u201 x_94] c221 := (Kp.cons (O222.on 0 rfl) Kp.nil0)
    refine ta 0 (v200) (ta 1 (.int .i64 s_99) (tx 2 (fun c' hle => ixO underlying22 h202.m h218) (ta 3 (.pointer (some ⟨sb v200, s_99.toNat * 2, none⟩)) ?_)))
    obtain ⟨l_224, h225, m226⟩ := OA.at (h202.mono (l211.trans l221)) h218
    obtain ⟨v227, rfl, h228⟩ := h225
    refine AC.takeK 4 (v227) p223 rfl (by kernel_rfl) (by kernel_rfl) (by kernel_rfl) (fun c' hle hk => (rx (by kernel_rfl) (ldE1 underlying69 rfl (hk.on 0 rfl) (h202.m.blk h218) (at1 (j := 0) m226 rfl)))) (o1 5 (gc 5 (c_linotyperef23_Sound O222 x_107.Cells h228 h219) ?_))
    rintro v234 c233 l233 ⟨O230, rfl⟩
    have p235 : Kp G0 [es true R_api_Line v200 71 u201 x_94] c233 := (Kp.cons (O230.on 0 rfl) Kp.nil0)
    refine ⟨.inr p235, ta 6 (.bool (!x_110)) ?_⟩
    rcases bo (!x_110) with h236 | h236
    ·obtain rfl := orT h236 h220
     exact AC.takeb 7 h236 rfl (by kernel_rfl) (by kernel_rfl) (fun c' hle => (by kernel_rfl)) (tp 8 (tp 9 (tp 10 (tp 11 (tp 12 (tp 13 (tp 14 (tp 15 (tp 16 (tp 17 (tp 18 (tp 19 (tp 20 (ta 21 (.bool true) (dn (nrm ⟨c233, _, _, rfl, pt, us, O230, rfl⟩))))))))))))))))
    have H237 := orF h236 h220
    refine bn H237 fun x_116 h238 H237 => bn H237 fun x_122 h239 H237 => AC.takeb 7 h236 rfl (by kernel_rfl) (by kernel_rfl) (fun c' hle => (by kernel_rfl)) (ta 8 (v200) (ta 9 (.int .i64 s_99) (tx 10 (fun c' hle => ixO underlying22 h202.m h238) (ta 11 (.pointer (some ⟨sb v200, s_99.toNat * 2, none⟩)) ?_))))
    obtain ⟨l_240, h241, m242⟩ := OA.at (h202.mono (l211.trans (l221.trans l233))) h238
    obtain ⟨v243, rfl, h244⟩ := h241
    refine AC.takeK 12 (v243) p235 rfl (by kernel_rfl) (by kernel_rfl) (by kernel_rfl) (fun c' hle hk => (rx (by kernel_rfl) (ldE1 underlying69 rfl (hk.on 0 rfl) (h202.m.blk h238) (at1 (j := 0) m242 rfl)))) (tx 13 (fun c' hle => ln 3 underlying69 h244) (ta 14 (.pointer (some ⟨b8, 0, none⟩)) (tx 15 (fun c' hle => l1 underlying22 ((mm m10) 0 _ rfl)) ?_)))
    obtain ⟨l_245, h246, m247⟩ := Sl.at (h2.mono (l11.trans (l19.trans (l26.trans (l60.trans (l83.trans (l89.trans (l93.trans (l188.trans (l207.trans (l211.trans (l221.trans l233)))))))))))) (idx_get h239)
    obtain ⟨v248, rfl, h249⟩ := h246
    refine tx 16 (fun c' hle => ix underlying22 h2.m h239) (ta 17 (.pointer (some ⟨sb (.slice a5 a6 a7), so (.slice a5 a6 a7) + (0 : Int).toNat * 2, none⟩)) (tx 18 (fun c' hle => l1 underlying69 ((mm m247) 0 _ rfl)) (tx 19 (fun c' hle => ln 3 underlying69 h249) (ta 20 (.bool ((x_116.Cells.length : Int) != (x_122.Cells.length : Int))) ?_))))
    obtain rfl := si H237
    exact ta 21 (.bool ((x_116.Cells.length : Int) != (x_122.Cells.length : Int))) (dn (nrm ⟨c233, _, _, rfl, pt, us, O230, rfl⟩))
   rintro e_ w_ ⟨c250, g251, _, rfl, l250, rfl, O252, rfl⟩
   refine nrm (cn H (fun h256 H => ?_) (fun h256 H => ?_))
   ·refine sr (va (.bool false) (wln (W.ret (bkr (thr ?_)))))
    obtain rfl := si H
    refine ⟨_, rfl, ⟨rfl, ?_⟩⟩
    have O257 := O252.sD 1 []
    exact ⟨c250, _, _, rfl, pt, us, G191, O257, rfl, R192.m⟩
   refine W.skip (bkn (nrm (W.region (va (.int .i64 s_99) (va (.int .i64 (w64 (s_99 + 1))) (va (.int .i64 (w64 (s_99 + 1))) (WL.nil ?_)))))))
   obtain rfl := si H
   exact ⟨_, rfl, ⟨c250, _, _, rfl, pt, us, O252, rfl⟩⟩
  refine W.exit (thx ?_)
  obtain rfl := si H
  exact ⟨_, rfl, rfl, ⟨c211, _, _, rfl, pt, us, O213, rfl⟩⟩
 ·exact ⟨c207, _, _, rfl, pt, us, O204, rfl⟩
 rcases o_99 with o_99 | o_99
 ·intro ex_; revert ex_
  rintro _ e_ w_ ⟨rfl, c258, g259, _, rfl, l258, rfl, G261, O260, rfl, R262⟩
  refine bkr (thr ?_)
  obtain rfl := si H210
  exact r1 ⟨_, c258, rfl, rfl, pt, G261, O260, R262, rfl⟩
 rintro _ e_ w_ ⟨rfl, c264, g265, _, rfl, l264, rfl, O266, rfl⟩
 refine bke (nrm (sr (va (v200) (vx (lnO 3 underlying22 h202.m) (va (.pointer (some ⟨b8, 0, none⟩)) (vx (l1 underlying22 ((mm m10) 0 _ rfl)) (vx (ln 3 underlying22 h2.m) (va (.bool ((x_94.length : Int) == (p0.L.length : Int))) (va (.bool ((x_94.length : Int) == (p0.L.length : Int))) (wln (W.ret ?_)))))))))))
 obtain rfl := si H210
 have O270 := O266.sD 1 []
 exact r1 ⟨_, c264, rfl, rfl, pt, G191, O270, R192.m, rfl⟩

end Go.Proofs.YthokmpbbkpjhbaaGreatDoor
