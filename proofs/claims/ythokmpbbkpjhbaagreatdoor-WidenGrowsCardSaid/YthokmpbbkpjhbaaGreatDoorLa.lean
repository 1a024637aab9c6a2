import Derived.Test.YthokmpbbkpjhbaaGreatDoorMq
import Derived.Test.YthokmpbbkpjhbaaGreatDoorProg
import Derived.Test.YthokmpbbkpjhbaaGreatDoorMy
import Derived.Test.YthokmpbbkpjhbaaGreatDoorMz
import Derived.Test.YthokmpbbkpjhbaaGreatDoorA1
import Derived.Test.YthokmpbbkpjhbaaGreatDoorG1
import Derived.Test.YthokmpbbkpjhbaaGreatDoorM1
import Derived.Test.YthokmpbbkpjhbaaGreatDoorN1
import Derived.Test.YthokmpbbkpjhbaaGreatDoorW0
import Derived.Test.YthokmpbbkpjhbaaGreatDoorW1
namespace Go.Proofs.YthokmpbbkpjhbaaGreatDoor
open Go Go.Lt
set_option maxRecDepth 10000
set_option linter.unusedVariables false
attribute [local irreducible] W WL AC
open Tryz
variable {c0 : Cx} {G : Gm} {F : List En} {sg : Sto} {v1 v2 v3 v4 v5 v6 v7 v8 v9 v10 v11 v12 v13 v14 v15 v16 v17 v18 v19 v20 v21 v22 v23 v24 v25 v26 v27 v28 v29 v30 v31 v32 v33 v34 v35 v36 v37 v38 v39 v40 v41 v42 v43 v44 v45 v46 v47 v48 v49 v50 v51 v52 v53 v54 v55 v56 v57 v58 v59 v60 : Value}
def f_linotypelaw35_WidenGrows (sg : Sto) (p0 : G_linotypelaw35_Start) (p1 : List Int) (p2 : List G_api_Prop) : Option (Sto × Bool) :=
 (f_linotyperef32_Wrong p0.L).bind fun x_6 =>
 (f_linotypelaw35_works sg).bind fun x_13 =>
 (orE (!x_13.2) (some (decide ((p0.L.length : Int) > 20)))).bind fun d_15 =>
 (orE d_15 (some ((p0.L.length : Int) == 0))).bind fun d_21 =>
 (orE d_21 (some (decide (x_6.1 ≥ 0)))).bind fun d_27 =>
 (orE d_27 (some (decide ((p1.length : Int) > 40)))).bind fun d_31 =>
 (orE d_31 (some ((p1.length : Int) == 0))).bind fun d_36 =>
 if d_36 = true then
 (f_linotypelaw35_works x_13.1).bind fun x_42 =>
 some (x_42.1, x_42.2)
 else
 (iter (σ := (List G_api_Prop)) (τ := (List G_api_Prop)) (((p1.length : Int) - (p2.length : Int)).toNat + 1) (fun s_45 =>
 if (decide ((s_45.length : Int) < (p1.length : Int))) = true then
 (idx p1 (s_45.length : Int)).bind fun x_56 =>
 (app ([] : List G_api_Prop) s_45).bind fun x_59 =>
 (f_linotyperef13_Of x_56).bind fun x_60 =>
 (app x_59 ([x_60] : List G_api_Prop)).bind fun x_62 =>
 some (.inl (x_62))
 else
 some (.inr (s_45))) (p2)).bind fun o_45 =>
 (f_grid_Of x_13.1 p0.L).bind fun x_67 =>
 if (!x_67.2.2.isNil) = true then
 some (x_67.1, false)
 else
 (some (x_67.1.add_place_Pen (⟨x_67.2.1, p0.At, p0.Auto⟩ : G_place_Pen))).bind fun s_85001 =>
 (idx p1 0).bind fun x_100 =>
 (idx o_45 0).bind fun x_103 =>
 (f_widen_Begin s_85001 (some x_67.1.place_Pen.length) x_100 x_103).bind fun x_105 =>
 (iter (σ := Int × Sto) (τ := (Sto × Bool) ⊕ Sto) (((p1.length : Int) - 0).toNat + 1) (fun s_110 =>
 if (decide (s_110.1 < (p1.length : Int))) = true then
 (if (decide (s_110.1 > 0)) = true then (idx p1 s_110.1).bind fun x_124 =>
 (idx o_45 s_110.1).bind fun x_128 =>
 (f_widen_Cluster_Join s_110.2 x_105.2 (some x_67.1.place_Pen.length) x_124 x_128).bind fun x_132 =>
 some (!(x_132.2 == (decide (s_110.1 < 16))), x_132.1) else some (false, s_110.2)).bind fun d_118 =>
 if d_118.1 = true then
 some (.inr (.inl (d_118.2, false)))
 else
 (slc p1 0 (w64 (s_110.1 + 1))).bind fun x_141 =>
 (slc o_45 0 (w64 (s_110.1 + 1))).bind fun x_145 =>
 (f_linotyperef35_Put (⟨p0.L, p0.At, p0.Auto⟩ : G_linotyperef34_Pen) x_141 x_145).bind fun x_146 =>
 (f_linotypelaw34_Alike d_118.2 (some x_67.1.place_Pen.length) x_146.1).bind fun x_161 =>
 (orE (!x_161) ((f_widen_Cluster_At d_118.2 x_105.2).bind fun x_167 =>
 some (!(x_167.Row == x_146.2.1.Row && (x_167.Col == x_146.2.1.Col && (x_167.Pending == x_146.2.1.Pending && true)))))).bind fun d_163 =>
 (orE d_163 ((f_widen_Cluster_Wide d_118.2 x_105.2).bind fun x_173 =>
 some (x_173 != x_146.2.2.1))).bind fun d_169 =>
 (orE d_169 ((f_widen_Cluster_Text d_118.2 x_105.2).bind fun x_179 =>
 (f_linotyperef01_Same x_179 x_146.2.2.2).bind fun x_180 =>
 some (!x_180))).bind fun d_175 =>
 if d_175 = true then
 some (.inr (.inl (d_118.2, false)))
 else
 some (.inl ((w64 (s_110.1 + 1)), d_118.2))
 else
 some (.inr (.inr (s_110.2)))) (0, x_105.1)).bind fun o_110 =>
 match o_110 with
 | .inl o_110 =>
 some o_110
 | .inr o_110 =>
 some (o_110, true)
set_option maxHeartbeats 4000000 in
theorem c_linotypelaw35_WidenGrows (O0 : Own c0 G F) (R0 : Rel c0 sg G) (hG : Gl [0, 4] c0) (p0 : G_linotypelaw35_Start) (p1 : List Int) (p2 : List G_api_Prop) {r : Sto × Bool} (h2 : Sl R_api_Line c0 v1 p0.L) (h4 : Sl (RI .i32) c0 v3 p1) (h6 : Sl R_api_Prop c0 v5 p2) (H : f_linotypelaw35_WidenGrows sg p0 p1 p2 = some r) :
    Calls Tryz.prog 3 #[.agg #[v1, .int .i64 p0.At.Row, .int .i64 p0.At.Col, .bool p0.At.Pending, .bool p0.Auto], v3, v5] c0.w (Post c0 fun c v => ∃ G_ : Gm, Own c G_ (F) ∧ Rel c r.1 G_ ∧ v = .bool r.2) := by
 unfold f_linotypelaw35_WidenGrows at H
 refine en func3 rfl rfl (sr ?_)
 obtain ⟨a7, a8, a9, rfl⟩ := (h2).form
 refine me (bx 26 [.slice a7 a8 a9, .int .i64 p0.At.Row, .int .i64 p0.At.Col, .bool p0.At.Pending, .bool p0.Auto] O0) ?_
 rintro v14 c13 l13 ⟨b10, rfl, O11, m12⟩
 refine va (.bool false) (wln (sr (va (.pointer (some ⟨b10, 0, none⟩)) (vx (l1 underlying22 (m12 0 _ rfl)) (bn H fun x_6 h15 H => cl (c_linotyperef32_Wrong O11 p0.L h2.m h15) ?_)))))
 rintro v21 c20 l20 ⟨O17, rfl⟩
 refine va (.tuple #[.int .i64 x_6.1, .int .i64 x_6.2]) (va (.int .i64 x_6.1) (va (.int .i64 x_6.2) (va (.int .i64 x_6.1) (va (.int .i64 x_6.2) (wln (W.seq (W.seq (bn H fun x_13 h22 H => bn H fun d_15 h23 H => bn H fun d_21 h24 H => bn H fun d_27 h25 H => bn H fun d_31 h26 H => bn H fun d_36 h27 H => W.join (Jn c20 fun c l => ∃ G_, Own c G_ (F) ∧ l = [(1, v3), (2, v5), (3, .pointer (some ⟨b10, 0, none⟩)), (52, .bool d_36)] ∧ Rel c x_13.1 G_) ?_ ?_))))))))
 ·clear H
  refine W.region (cl (c_linotypelaw35_works O17 R0.m (hG.m.le (by decide)) h22) ?_)
  rintro v33 c32 l32 ⟨G28, O29, R30, rfl⟩
  refine va (.bool (!x_13.2)) ?_
  rcases bo (!x_13.2) with h34 | h34
  ·obtain rfl := orT h34 h23
   refine vb h34 (ps (ps (ps (ps (va (.bool true) ?_)))))
   have h35 : true = true := rfl
   obtain rfl := orT h35 h24
   refine vb h35 (ps (ps (ps (ps (va (.bool true) ?_)))))
   have h36 : true = true := rfl
   obtain rfl := orT h36 h25
   refine vb h36 (ps (ps (va (.bool true) ?_)))
   have h37 : true = true := rfl
   obtain rfl := orT h37 h26
   refine vb h37 (ps (ps (ps (va (.bool true) ?_))))
   have h38 : true = true := rfl
   obtain rfl := orT h38 h27
   exact vb h38 (ps (ps (ps (va (.bool true) (wln ⟨c32, _, _, rfl, pt, us, G28, O29, rfl, R30⟩)))))
  have H39 := orF h34 h23
  refine vb h34 (wn (va (.pointer (some ⟨b10, 0, none⟩)) (wn (vx (l1 underlying22 ((mm m12) 0 _ rfl)) (wn (vx (ln 3 underlying22 h2.m) (wn (va (.bool (decide ((p0.L.length : Int) > 20))) ?_))))))))
  obtain rfl := si H39
  refine va (.bool (decide ((p0.L.length : Int) > 20))) ?_
  rcases bo (decide ((p0.L.length : Int) > 20)) with h40 | h40
  ·obtain rfl := orT h40 h24
   refine vb h40 (ps (ps (ps (ps (va (.bool true) ?_)))))
   have h41 : true = true := rfl
   obtain rfl := orT h41 h25
   refine vb h41 (ps (ps (va (.bool true) ?_)))
   have h42 : true = true := rfl
   obtain rfl := orT h42 h26
   refine vb h42 (ps (ps (ps (va (.bool true) ?_))))
   have h43 : true = true := rfl
   obtain rfl := orT h43 h27
   exact vb h43 (ps (ps (ps (va (.bool true) (wln ⟨c32, _, _, rfl, pt, us, G28, O29, rfl, R30⟩)))))
  have H44 := orF h40 h24
  refine vb h40 (wn (va (.pointer (some ⟨b10, 0, none⟩)) (wn (vx (l1 underlying22 ((mm m12) 0 _ rfl)) (wn (vx (ln 3 underlying22 h2.m) (wn (va (.bool ((p0.L.length : Int) == 0)) ?_))))))))
  obtain rfl := si H44
  refine va (.bool ((p0.L.length : Int) == 0)) ?_
  rcases bo ((p0.L.length : Int) == 0) with h45 | h45
  ·obtain rfl := orT h45 h25
   refine vb h45 (ps (ps (va (.bool true) ?_)))
   have h46 : true = true := rfl
   obtain rfl := orT h46 h26
   refine vb h46 (ps (ps (ps (va (.bool true) ?_))))
   have h47 : true = true := rfl
   obtain rfl := orT h47 h27
   exact vb h47 (ps (ps (ps (va (.bool true) (wln ⟨c32, _, _, rfl, pt, us, G28, O29, rfl, R30⟩)))))
  have H48 := orF h45 h25
  refine vb h45 (wn (va (.int .i64 x_6.1) (wn (va (.bool (decide (x_6.1 ≥ 0))) ?_))))
  obtain rfl := si H48
  refine va (.bool (decide (x_6.1 ≥ 0))) ?_
  rcases bo (decide (x_6.1 ≥ 0)) with h49 | h49
  ·obtain rfl := orT h49 h26
   refine vb h49 (ps (ps (ps (va (.bool true) ?_))))
   have h50 : true = true := rfl
   obtain rfl := orT h50 h27
   exact vb h50 (ps (ps (ps (va (.bool true) (wln ⟨c32, _, _, rfl, pt, us, G28, O29, rfl, R30⟩)))))
  have H51 := orF h49 h26
  refine vb h49 (wn (va (v3) (wn (vx (ln 3 underlying27 h4.m) (wn (va (.bool (decide ((p1.length : Int) > 40))) ?_))))))
  obtain rfl := si H51
  refine va (.bool (decide ((p1.length : Int) > 40))) ?_
  rcases bo (decide ((p1.length : Int) > 40)) with h52 | h52
  ·obtain rfl := orT h52 h27
   exact vb h52 (ps (ps (ps (va (.bool true) (wln ⟨c32, _, _, rfl, pt, us, G28, O29, rfl, R30⟩)))))
  have H53 := orF h52 h27
  refine vb h52 (wn (va (v3) (wn (vx (ln 3 underlying27 h4.m) (wn (va (.bool ((p1.length : Int) == 0)) ?_))))))
  obtain rfl := si H53
  exact va (.bool ((p1.length : Int) == 0)) (wln ⟨c32, _, _, rfl, pt, us, G28, O29, rfl, R30⟩)
 rintro e_ w_ ⟨c54, g55, _, rfl, l54, rfl, G57, O56, rfl, R58⟩
 refine nrm (cn H (fun h60 H => ?_) (fun h60 H => ?_))
 ·refine sr (bn H fun x_42 h61 H => cl (c_linotypelaw35_works O56 R58 (hG.m.le (by decide)) h61) ?_)
  rintro v67 c66 l66 ⟨G62, O63, R64, rfl⟩
  refine va (.bool x_42.2) (wln (W.ret (thr ?_)))
  obtain rfl := si H
  exact r1 ⟨_, c66, rfl, rfl, pt, G62, O63, R64, rfl⟩
 refine W.skip (nrm (W.seq (W.block (bn H fun o_45 h68 H69 => lp h68 (fun s_45 => Jn c54 fun c l => ∃ v70, Own c G57 (F) ∧ l = [(1, v3), (2, v70), (3, .pointer (some ⟨b10, 0, none⟩))] ∧ Sl R_api_Prop c v70 s_45) (fun o_45_ ex e w => ex = .exit 0 ∧ (Jn c54 fun c l => ∃ v71, Own c G57 (F) ∧ l = [(1, v3), (2, v71), (3, .pointer (some ⟨b10, 0, none⟩))] ∧ Sl R_api_Prop c v71 o_45_) e w) ?_ ?_ ?_))))
 ·clear H69 h68
  intro s_45 xx_ ee_ ww_ H
  revert ee_ ww_
  rintro e_ w_ ⟨c72, g73, _, rfl, l72, rfl, v70, O74, rfl, h75⟩
  refine W.seq (sr (va (v70) (vx (ln 3 underlying28 h75) (va (v3) (vx (ln 3 underlying27 h4.m) (va (.bool (decide ((s_45.length : Int) < (p1.length : Int)))) (wln (cn H (fun h79 H => ?_) (fun h79 H => ?_)))))))))
  ·refine W.skip (nrm (W.block (rD [] (Kp G0 []) O74 ?_)))
   intro c80 l80 O81
   have p82 : Kp G0 [] c80 := Kp.nil0
   refine ta 1 (v70) (ta 3 (v3) (ta 4 (v70) (tx 5 (fun c' hle => ln 3 underlying28 h75.m) (bn H fun x_56 h83 H => ?_))))
   obtain ⟨l_84, h85, m86⟩ := Sl.at (h4.mono (l13.trans (l20.trans (l54.trans (l72.trans l80))))) (idx_get h83)
   obtain rfl := h85
   refine tx 6 (fun c' hle => ix underlying27 h4.m h83) (tx 7 (fun c' hle => l1 underlying21 ((mm m86) 0 _ rfl)) (o1 0 (gm 0 (sl R_api_Prop 33 [] ([] : List G_api_Prop) O81 trivial) ?_)))
   rintro v91 c90 l90 ⟨u88, O87, h89⟩
   have p92 : Kp G0 [] c90 := Kp.nil0
   refine ⟨.inr p92, bn H fun x_59 h93 H => o1 2 (gm 2 (ap R_api_Prop (.agg #[.int .i64 0, .bool false, .int .i64 0, .int .i64 0]) 32 28 0 O87 h89 h75.m h93 underlying28) ?_)⟩
   rintro v98 c97 l97 ⟨u95, O94, h96⟩
   have p99 : Kp G0 [] c97 := Kp.nil0
   refine ⟨.inr p99, bn H fun x_60 h100 H => o1 8 (gc 8 (c_linotyperef13_Of O94 x_56 h100) ?_)⟩
   rintro v106 c105 l105 ⟨O102, rfl⟩
   have p107 : Kp G0 [] c105 := Kp.nil0
   refine ⟨.inr p107, o1 9 (gm 9 (sl R_api_Prop 33 [[.int .i64 x_60.Break, .bool x_60.Pict, .int .i64 x_60.Conj, .int .i64 x_60.East]] ([x_60] : List G_api_Prop) O102 ⟨rfl, trivial⟩) ?_)⟩
   rintro v112 c111 l111 ⟨u109, O108, h110⟩
   have p113 : Kp G0 [] c111 := Kp.nil0
   refine ⟨.inr p113, ?_⟩
   obtain ⟨c116, h117, l116, O114, h115⟩ := O108.frz 0 rfl h110
   have p118 : Kp G0 [] c116 := Kp.nil0
   refine AC.gh h117 l116 (fun _ => p118) (bn H fun x_62 h119 H => o1 10 (gm 10 (ap R_api_Prop (.agg #[.int .i64 0, .bool false, .int .i64 0, .int .i64 0]) 32 28 1 O114 h96.m h115 h119 underlying28) ?_))
   rintro v124 c123 l123 ⟨u121, O120, h122⟩
   have p125 : Kp G0 [] c123 := Kp.nil0
   refine ⟨.inr p125, ta 11 (v124) (dn (bkn ?_))⟩
   obtain rfl := si H
   refine ⟨_, rfl, ?_⟩
   obtain ⟨c128, h129, l128, O126, h127⟩ := O120.frz 1 rfl h122
   have O130 := O126.sD 2 []
   exact ⟨c128, _, _, h129.symm, pt, us, v124, O130, rfl, h127⟩
  refine W.exit (thx ?_)
  obtain rfl := si H
  exact ⟨_, rfl, rfl, ⟨c72, _, _, rfl, pt, us, v70, O74, rfl, h75⟩⟩
 ·exact ⟨c54, _, _, rfl, pt, us, v5, O56, rfl, h6.m⟩
 rintro _ e_ w_ ⟨rfl, c131, g132, _, rfl, l131, rfl, v71, O133, rfl, h134⟩
 refine bke (nrm (sr (va (.pointer (some ⟨b10, 0, none⟩)) (vx (l1 underlying22 ((mm m12) 0 _ rfl)) (bn H69 fun x_67 h138 H69 => cl (c_grid_Of O133 R58.m (hG.m.le (by decide)) p0.L h2.m h138) ?_)))))
 rintro v148 c147 l147 ⟨v139, v141, G143, O144, R145, rfl, h140, h142⟩
 refine va (.tuple #[v139, v141]) (va (v139) (va (v141) (va (v139) (va (v141) (wln (W.seq (sr (va (v141) (vr (.bool (!x_67.2.2.isNil)) (by rcases (h142).cs with ⟨h1_, h2_⟩ | ⟨b_, h1_, h2_⟩ | ⟨b_, h1_, h2_⟩ <;> (subst h1_; rw [h2_]; kernel_rfl)) (wln (cn H69 (fun h149 H69 => ?_) (fun h149 H69 => ?_))))))))))))
 ·refine sr (va (.bool false) (wln (W.ret (thr ?_))))
  obtain rfl := si H69
  exact r1 ⟨_, c147, rfl, rfl, pt, G143, O144, R145, rfl⟩
 refine W.skip (nrm (sr (va (v139) (va (.pointer (some ⟨b10, 0 + 1, none⟩)) (vx (lN 24 (imsub (k := 1) (l := [.int .i64 p0.At.Row, .int .i64 p0.At.Col, .bool p0.At.Pending]) (mm m12) rfl)) (va (.pointer (some ⟨b10, 0 + 4, none⟩)) (vx (l1 underlying4 ((mm m12) 4 _ rfl)) ?_)))))))
 obtain ⟨a150, rfl⟩ := (h140).form
 refine va (.agg #[.pointer a150, .int .i64 p0.At.Row, .int .i64 p0.At.Col, .bool p0.At.Pending, .bool p0.Auto]) (me (al 42 [.pointer a150, .int .i64 p0.At.Row, .int .i64 p0.At.Col, .bool p0.At.Pending, .bool p0.Auto] O144) ?_)
 rintro v154 c153 l153 ⟨b151, rfl, O152⟩
 have O155 := O152.sD 1 [0]
 refine bn H69 fun s_85001 h156 H69 => ?_
 obtain ⟨c157, G165, h158, l157, h159, O160, R161, h162, h163, a164⟩ := Rel.new_place_Pen (E := [⟨.pointer (some ⟨b151, 0, none⟩), 42, [.pointer a150, .int .i64 p0.At.Row, .int .i64 p0.At.Col, .bool p0.At.Pending, .bool p0.Auto], 0⟩]) (F := F) (x := (⟨x_67.2.1, p0.At, p0.Auto⟩ : G_place_Pen)) (b := b151) O155 (R145.mono l153) (fun c_ hle_ => ⟨b151, (.pointer a150), rfl, rfl, (h140.mono (l153.trans hle_))⟩)
 rw [Option.some.inj h156] at R161
 refine WL.gh h158.1 ?_
 have h167 : Pt 2 c157 (.pointer (some ⟨b151, 0, none⟩)) (some x_67.1.place_Pen.length) := ⟨b151, rfl, h159⟩
 refine va (.pointer (some ⟨b151, 0, none⟩)) (wln (sr (va (.pointer (some ⟨b10, 0, none⟩)) (vx (l1 underlying22 ((mm m12) 0 _ rfl)) (va (.pointer (some ⟨b10, 0 + 1, none⟩)) (vx (lN 24 (imsub (k := 1) (l := [.int .i64 p0.At.Row, .int .i64 p0.At.Col, .bool p0.At.Pending]) (mm m12) rfl)) (va (.pointer (some ⟨b10, 0 + 4, none⟩)) (vx (l1 underlying4 ((mm m12) 4 _ rfl)) (va (.agg #[.slice a7 a8 a9, .int .i64 p0.At.Row, .int .i64 p0.At.Col, .bool p0.At.Pending, .bool p0.Auto]) (me (al 43 [.slice none 0 0, .int .i64 0, .int .i64 0, .bool false, .bool false] O160) ?_))))))))))
 rintro v171 c170 l170 ⟨b168, rfl, O169⟩
 refine md (sA 43 [.slice a7 a8 a9, .int .i64 p0.At.Row, .int .i64 p0.At.Col, .bool p0.At.Pending, .bool p0.Auto] 0 O169 ⟨h2.m.one, rfl, rfl, rfl, rfl, trivial⟩) ?_
 rintro c173 l173 O172
 refine wln (W.seq (rD [] (Kp G0 []) O172 ?_))
 intro c174 l174 O175
 have p176 : Kp G0 [] c174 := Kp.nil0
 refine ta 0 (.pointer (some ⟨b151, 0, none⟩)) (ta 1 (v3) (bn H69 fun x_100 h177 H69 => ?_))
 obtain ⟨l_178, h179, m180⟩ := Sl.at (h4.mono (l13.trans (l20.trans (l54.trans (l131.trans (l147.trans (l153.trans (l157.trans (l170.trans (l173.trans l174)))))))))) (idx_get h177)
 obtain rfl := h179
 refine tx 2 (fun c' hle => ix underlying27 h4.m h177) (tx 3 (fun c' hle => l1 underlying21 ((mm m180) 0 _ rfl)) (ta 4 (v71) (bn H69 fun x_103 h181 H69 => ?_)))
 obtain ⟨l_182, h183, m184⟩ := Sl.at (h134.mono (l147.trans (l153.trans (l157.trans (l170.trans (l173.trans l174)))))) (idx_get h181)
 obtain rfl := h183
 refine tx 5 (fun c' hle => ix underlying28 h134.m h181) (tx 6 (fun c' hle => lN 33 (mm m184)) (bn H69 fun x_105 h185 H69 => o1 7 (gc 7 (c_widen_Begin O175 R161.m (hG.m.le (by decide)) (some x_67.1.place_Pen.length) x_100 x_103 h167.m h185) ?_)))
 rintro v186 c192 l192 ⟨_, G188, O189, R190, rfl, h187⟩
 have p194 : Kp G0 [] c192 := Kp.nil0
 refine ⟨.inr p194, ta 8 (v186) (dn (nrm (W.seq (sr (va (.int .i64 0) (wln (W.block (bn H69 fun o_110 h195 H196 => lp h195 (fun s_110 => Jn c192 fun c l => ∃ G_, Own c G_ (⟨.pointer (some ⟨b168, 0, none⟩), 43, [.slice a7 a8 a9, .int .i64 p0.At.Row, .int .i64 p0.At.Col, .bool p0.At.Pending, .bool p0.Auto], 0⟩ :: F) ∧ l = [(1, v3), (2, v71), (11, .pointer (some ⟨b151, 0, none⟩)), (12, .pointer (some ⟨b168, 0, none⟩)), (13, v186), (14, .int .i64 s_110.1)] ∧ Rel c s_110.2 G_) (fun t => match t with | .inl x_ => (fun rr_ ex e w => ex = .ret ∧ (Jn c192 fun c l => ∃ G_, Own c G_ (F) ∧ l = [(6, .bool rr_.2)] ∧ Rel c rr_.1 G_) e w) x_ | .inr x_ => (fun o_110_ ex e w => ex = .exit 2 ∧ (Jn c192 fun c l => ∃ G_, Own c G_ (⟨.pointer (some ⟨b168, 0, none⟩), 43, [.slice a7 a8 a9, .int .i64 p0.At.Row, .int .i64 p0.At.Col, .bool p0.At.Pending, .bool p0.Auto], 0⟩ :: F) ∧ l = [] ∧ Rel c o_110_ G_) e w) x_) ?_ ?_ ?_))))))))⟩
 ·clear H196 h195
  intro s_110 xx_ ee_ ww_ H69
  revert ee_ ww_
  rintro e_ w_ ⟨c197, g198, _, rfl, l197, rfl, G200, O199, rfl, R201⟩
  refine W.seq (sr (va (.int .i64 s_110.1) (va (v3) (vx (ln 3 underlying27 h4.m) (va (.bool (decide (s_110.1 < (p1.length : Int)))) (wln (cn H69 (fun h203 H69 => ?_) (fun h203 H69 => ?_))))))))
  ·refine W.skip (nrm (W.seq (W.block (W.seq (W.seq (bn H69 fun d_118 h204 H69 => W.join (Jn c197 fun c l => ∃ G_, Own c G_ (⟨.pointer (some ⟨b168, 0, none⟩), 43, [.slice a7 a8 a9, .int .i64 p0.At.Row, .int .i64 p0.At.Col, .bool p0.At.Pending, .bool p0.Auto], 0⟩ :: F) ∧ l = [(1, v3), (2, v71), (11, .pointer (some ⟨b151, 0, none⟩)), (12, .pointer (some ⟨b168, 0, none⟩)), (13, v186), (14, .int .i64 s_110.1), (123, .bool d_118.1)] ∧ Rel c d_118.2 G_) ?_ ?_))))))
   ·clear H69
    refine rD [] (Kp G0 []) O199 ?_
    intro c205 l205 O206
    have p207 : Kp G0 [] c205 := Kp.nil0
    refine ta 0 (.int .i64 s_110.1) (ta 1 (.bool (decide (s_110.1 > 0))) ?_)
    rcases bo (decide (s_110.1 > 0)) with h208 | h208
    ·have H209 := it h208 h204
     refine bn H209 fun x_124 h210 H209 => bn H209 fun x_128 h211 H209 => bn H209 fun x_132 h212 H209 => AC.takeb 2 h208 rfl (by kernel_rfl) (by kernel_rfl) (fun c' hle => (by kernel_rfl)) (ta 3 (v186) (ta 4 (.pointer (some ⟨b151, 0, none⟩)) (ta 5 (v3) (ta 6 (.int .i64 s_110.1) ?_))))
     obtain ⟨l_213, h214, m215⟩ := Sl.at (h4.mono (l13.trans (l20.trans (l54.trans (l131.trans (l147.trans (l153.trans (l157.trans (l170.trans (l173.trans (l174.trans (l192.trans (l197.trans l205))))))))))))) (idx_get h210)
     obtain rfl := h214
     refine tx 7 (fun c' hle => ix underlying27 h4.m h210) (tx 8 (fun c' hle => l1 underlying21 ((mm m215) 0 _ rfl)) (ta 9 (v71) (ta 10 (.int .i64 s_110.1) ?_)))
     obtain ⟨l_216, h217, m218⟩ := Sl.at (h134.mono (l147.trans (l153.trans (l157.trans (l170.trans (l173.trans (l174.trans (l192.trans (l197.trans l205))))))))) (idx_get h211)
     obtain rfl := h217
     refine tx 11 (fun c' hle => ix underlying28 h134.m h211) (tx 12 (fun c' hle => lN 33 (mm m218)) (ta 14 (.int .i64 s_110.1) (ta 15 (.bool (decide (s_110.1 < 16))) (o1 13 (gc 13 (c_widen_Cluster_Join O206 R201.m (hG.m.le (by decide)) x_105.2 (some x_67.1.place_Pen.length) x_124 x_128 h187.m h167.m h212) ?_)))))
     rintro v224 c223 l223 ⟨G219, O220, R221, rfl⟩
     have p225 : Kp G0 [] c223 := Kp.nil0
     refine ⟨.inr p225, ta 16 (.bool (!(x_132.2 == (decide (s_110.1 < 16))))) ?_⟩
     obtain rfl := si H209
     exact ta 17 (.bool (!(x_132.2 == (decide (s_110.1 < 16))))) (dn (nrm ⟨c223, _, _, rfl, pt, us, G219, O220, rfl, R221⟩))
    obtain rfl := Option.some.inj (ie h208 h204)
    exact AC.takeb 2 h208 rfl (by kernel_rfl) (by kernel_rfl) (fun c' hle => (by kernel_rfl)) (tp 3 (tp 4 (tp 5 (tp 6 (tp 7 (tp 8 (tp 9 (tp 10 (tp 11 (tp 12 (tp 14 (tp 15 (tp 13 (tp 16 (ta 17 (.bool false) (dn (nrm ⟨c205, _, _, rfl, pt, us, G200, O206, rfl, R201.m⟩)))))))))))))))))
   rintro e_ w_ ⟨c226, g227, _, rfl, l226, rfl, G229, O228, rfl, R230⟩
   refine nrm (cn H69 (fun h232 H69 => ?_) (fun h232 H69 => ?_))
   ·refine sr (va (.bool false) (wln (W.ret (thr (bkr (thr ?_))))))
    obtain rfl := si H69
    refine ⟨_, rfl, ⟨rfl, ?_⟩⟩
    have O233 := O228.sD 1 []
    exact ⟨c226, _, _, rfl, pt, us, G229, O233, rfl, R230⟩
   refine W.skip (nrm (W.seq (bn H69 fun x_141 h234 H69 => bn H69 fun x_145 h235 H69 => bn H69 fun x_146 h236 H69 => W.join (Jn c226 fun c l => ∃ b237 b238 v239 u240 v241, Own c G229 (⟨.pointer (some ⟨b237, 0, none⟩), 24, [.int .i64 x_146.2.1.Row, .int .i64 x_146.2.1.Col, .bool x_146.2.1.Pending], 0⟩ :: ⟨.pointer (some ⟨b238, 0, none⟩), 43, [v239, .int .i64 x_146.1.At.Row, .int .i64 x_146.1.At.Col, .bool x_146.1.At.Pending, .bool x_146.1.Auto], 0⟩ :: es true R_api_Line v239 71 u240 x_146.1.L :: ⟨.pointer (some ⟨b168, 0, none⟩), 43, [.slice a7 a8 a9, .int .i64 p0.At.Row, .int .i64 p0.At.Col, .bool p0.At.Pending, .bool p0.Auto], 0⟩ :: F) ∧ l = [(1, v3), (2, v71), (11, .pointer (some ⟨b151, 0, none⟩)), (12, .pointer (some ⟨b168, 0, none⟩)), (13, v186), (14, .int .i64 s_110.1), (15, .pointer (some ⟨b238, 0, none⟩)), (16, .pointer (some ⟨b237, 0, none⟩)), (17, .int .i64 x_146.2.2.1), (18, v241)] ∧ OA R_api_Line c v239 u240 x_146.1.L ∧ Sl (RI .i32) c v241 x_146.2.2.2) ?_ ?_)))
   ·clear H69
    refine rD [] (Kp G0 [⟨.pointer (some ⟨b168, 0, none⟩), 43, [.slice a7 a8 a9, .int .i64 p0.At.Row, .int .i64 p0.At.Col, .bool p0.At.Pending, .bool p0.Auto], 0⟩]) O228 ?_
    intro c242 l242 O243
    have p244 : Kp G0 [⟨.pointer (some ⟨b168, 0, none⟩), 43, [.slice a7 a8 a9, .int .i64 p0.At.Row, .int .i64 p0.At.Col, .bool p0.At.Pending, .bool p0.Auto], 0⟩] c242 := (Kp.cons (O243.on 0 rfl) Kp.nil0)
    refine tkx 0 p244 (fun c' hle hk => leN 43 0 [.slice a7 a8 a9, .int .i64 p0.At.Row, .int .i64 p0.At.Col, .bool p0.At.Pending, .bool p0.Auto] (hk.on 0 rfl)) (ta 1 (v3) (ta 2 (.int .i64 s_110.1) (ta 3 (.int .i64 (w64 (s_110.1 + 1))) ?_)))
    obtain ⟨v245, h246, h247⟩ := run_cutH (k' := .i64) underlying27 (by kernel_rfl) (h4.mono (l13.trans (l20.trans (l54.trans (l131.trans (l147.trans (l153.trans (l157.trans (l170.trans (l173.trans (l174.trans (l192.trans (l197.trans (l226.trans l242)))))))))))))) h234
    refine AC.take 4 (v245) rfl (by kernel_rfl) (by kernel_rfl) (fun c' hle => (rx (by kernel_rfl) (h246 _))) (ta 5 (v71) (ta 6 (.int .i64 s_110.1) (ta 7 (.int .i64 (w64 (s_110.1 + 1))) ?_)))
    obtain ⟨v248, h249, h250⟩ := run_cutH (k' := .i64) underlying28 (by kernel_rfl) (h134.mono (l147.trans (l153.trans (l157.trans (l170.trans (l173.trans (l174.trans (l192.trans (l197.trans (l226.trans l242)))))))))) h235
    refine AC.take 8 (v248) rfl (by kernel_rfl) (by kernel_rfl) (fun c' hle => (rx (by kernel_rfl) (h249 _))) (mn3 9 15 16 ?_ ?_ ?_)
    ·refine gc 9 (c_linotyperef35_Put O243 (⟨p0.L, p0.At, p0.Auto⟩ : G_linotyperef34_Pen) x_141 x_145 h2.m h247 h250 h236) ?_
     rintro v261 c260 l260 ⟨v251, u252, v254, O257, rfl, h253, h255⟩
     have p262 : Kp G0 [⟨.pointer (some ⟨b168, 0, none⟩), 43, [.slice a7 a8 a9, .int .i64 p0.At.Row, .int .i64 p0.At.Col, .bool p0.At.Pending, .bool p0.Auto], 0⟩] c260 := (Kp.cons (O257.on 1 rfl) Kp.nil0)
     refine ⟨.inr p262, ta 10 (.tuple #[.agg #[v251, .int .i64 x_146.1.At.Row, .int .i64 x_146.1.At.Col, .bool x_146.1.At.Pending, .bool x_146.1.Auto], .agg #[.int .i64 x_146.2.1.Row, .int .i64 x_146.2.1.Col, .bool x_146.2.1.Pending], .int .i64 x_146.2.2.1, v254]) (ta 11 (.agg #[v251, .int .i64 x_146.1.At.Row, .int .i64 x_146.1.At.Col, .bool x_146.1.At.Pending, .bool x_146.1.Auto]) (ta 12 (.agg #[.int .i64 x_146.2.1.Row, .int .i64 x_146.2.1.Col, .bool x_146.2.1.Pending]) (ta 13 (.int .i64 x_146.2.2.1) (ta 14 (v254) (mn2 15 16 ?_ ?_)))))⟩
     ·refine gm 15 (al 43 [.slice none 0 0, .int .i64 0, .int .i64 0, .bool false, .bool false] O257) ?_
      rintro v266 c265 l265 ⟨b263, rfl, O264⟩
      have p267 : Kp G0 [⟨.pointer (some ⟨b168, 0, none⟩), 43, [.slice a7 a8 a9, .int .i64 p0.At.Row, .int .i64 p0.At.Col, .bool p0.At.Pending, .bool p0.Auto], 0⟩] c265 := (Kp.cons (O264.on 2 rfl) Kp.nil0)
      refine ⟨.inr p267, o1 16 (gm 16 (al 24 [.int .i64 0, .int .i64 0, .bool false] O264) ?_)⟩
      rintro v271 c270 l270 ⟨b268, rfl, O269⟩
      have p272 : Kp G0 [⟨.pointer (some ⟨b168, 0, none⟩), 43, [.slice a7 a8 a9, .int .i64 p0.At.Row, .int .i64 p0.At.Col, .bool p0.At.Pending, .bool p0.Auto], 0⟩] c270 := (Kp.cons (O269.on 3 rfl) Kp.nil0)
      refine ⟨.inr p272, ?_⟩
      obtain ⟨a273, a274, a275, rfl⟩ := ((h253.mono (l265.trans l270))).form
      refine o1 17 (gD 17 (sA 43 [.slice a273 a274 a275, .int .i64 x_146.1.At.Row, .int .i64 x_146.1.At.Col, .bool x_146.1.At.Pending, .bool x_146.1.Auto] 1 O269 ⟨h253.m.one, rfl, rfl, rfl, rfl, trivial⟩) ?_)
      rintro c277 l277 O276
      have p278 : Kp G0 [⟨.pointer (some ⟨b168, 0, none⟩), 43, [.slice a7 a8 a9, .int .i64 p0.At.Row, .int .i64 p0.At.Col, .bool p0.At.Pending, .bool p0.Auto], 0⟩] c277 := (Kp.cons (O276.on 3 rfl) Kp.nil0)
      refine ⟨.inr p278, o1 18 (gD 18 (sA 24 [.int .i64 x_146.2.1.Row, .int .i64 x_146.2.1.Col, .bool x_146.2.1.Pending] 0 O276 ⟨rfl, rfl, rfl, trivial⟩) ?_)⟩
      rintro c280 l280 O279
      have p281 : Kp G0 [⟨.pointer (some ⟨b168, 0, none⟩), 43, [.slice a7 a8 a9, .int .i64 p0.At.Row, .int .i64 p0.At.Col, .bool p0.At.Pending, .bool p0.Auto], 0⟩] c280 := (Kp.cons (O279.on 3 rfl) Kp.nil0)
      exact ⟨.inr p281, ta 19 (.int .i64 x_146.2.2.1) (ta 20 (v254) (dn (nrm ⟨c280, _, _, rfl, pt, us, b268, b263, (.slice a273 a274 a275), u252, v254, O279, rfl, h253.m, h255.m⟩)))⟩
     refine gm 16 (al 24 [.int .i64 0, .int .i64 0, .bool false] O257) ?_
     rintro v285 c284 l284 ⟨b282, rfl, O283⟩
     have p286 : Kp G0 [⟨.pointer (some ⟨b168, 0, none⟩), 43, [.slice a7 a8 a9, .int .i64 p0.At.Row, .int .i64 p0.At.Col, .bool p0.At.Pending, .bool p0.Auto], 0⟩] c284 := (Kp.cons (O283.on 2 rfl) Kp.nil0)
     refine ⟨.inr p286, o1 15 (gm 15 (al 43 [.slice none 0 0, .int .i64 0, .int .i64 0, .bool false, .bool false] O283) ?_)⟩
     rintro v290 c289 l289 ⟨b287, rfl, O288⟩
     have p291 : Kp G0 [⟨.pointer (some ⟨b168, 0, none⟩), 43, [.slice a7 a8 a9, .int .i64 p0.At.Row, .int .i64 p0.At.Col, .bool p0.At.Pending, .bool p0.Auto], 0⟩] c289 := (Kp.cons (O288.on 3 rfl) Kp.nil0)
     refine ⟨.inr p291, ?_⟩
     obtain ⟨a292, a293, a294, rfl⟩ := ((h253.mono (l284.trans l289))).form
     refine o1 17 (gD 17 (sA 43 [.slice a292 a293 a294, .int .i64 x_146.1.At.Row, .int .i64 x_146.1.At.Col, .bool x_146.1.At.Pending, .bool x_146.1.Auto] 0 O288 ⟨h253.m.one, rfl, rfl, rfl, rfl, trivial⟩) ?_)
     rintro c296 l296 O295
     have p297 : Kp G0 [⟨.pointer (some ⟨b168, 0, none⟩), 43, [.slice a7 a8 a9, .int .i64 p0.At.Row, .int .i64 p0.At.Col, .bool p0.At.Pending, .bool p0.Auto], 0⟩] c296 := (Kp.cons (O295.on 3 rfl) Kp.nil0)
     refine ⟨.inr p297, o1 18 (gD 18 (sA 24 [.int .i64 x_146.2.1.Row, .int .i64 x_146.2.1.Col, .bool x_146.2.1.Pending] 1 O295 ⟨rfl, rfl, rfl, trivial⟩) ?_)⟩
     rintro c299 l299 O298
     have p300 : Kp G0 [⟨.pointer (some ⟨b168, 0, none⟩), 43, [.slice a7 a8 a9, .int .i64 p0.At.Row, .int .i64 p0.At.Col, .bool p0.At.Pending, .bool p0.Auto], 0⟩] c299 := (Kp.cons (O298.on 3 rfl) Kp.nil0)
     refine ⟨.inr p300, ta 19 (.int .i64 x_146.2.2.1) (ta 20 (v254) (dn (nrm ?_)))⟩
     have O301 := O298.sD 4 [1, 0, 2, 3]
     exact ⟨c299, _, _, rfl, pt, us, b282, b287, (.slice a292 a293 a294), u252, v254, O301, rfl, h253.m, h255.m⟩
    ·refine gm 15 (al 43 [.slice none 0 0, .int .i64 0, .int .i64 0, .bool false, .bool false] O243) ?_
     rintro v305 c304 l304 ⟨b302, rfl, O303⟩
     have p306 : Kp G0 [⟨.pointer (some ⟨b168, 0, none⟩), 43, [.slice a7 a8 a9, .int .i64 p0.At.Row, .int .i64 p0.At.Col, .bool p0.At.Pending, .bool p0.Auto], 0⟩] c304 := (Kp.cons (O303.on 1 rfl) Kp.nil0)
     refine ⟨.inr p306, mn2 9 16 ?_ ?_⟩
     ·refine gc 9 (c_linotyperef35_Put O303 (⟨p0.L, p0.At, p0.Auto⟩ : G_linotyperef34_Pen) x_141 x_145 h2.m h247.m h250.m h236) ?_
      rintro v317 c316 l316 ⟨v307, u308, v310, O313, rfl, h309, h311⟩
      have p318 : Kp G0 [⟨.pointer (some ⟨b168, 0, none⟩), 43, [.slice a7 a8 a9, .int .i64 p0.At.Row, .int .i64 p0.At.Col, .bool p0.At.Pending, .bool p0.Auto], 0⟩] c316 := (Kp.cons (O313.on 2 rfl) Kp.nil0)
      refine ⟨.inr p318, ta 10 (.tuple #[.agg #[v307, .int .i64 x_146.1.At.Row, .int .i64 x_146.1.At.Col, .bool x_146.1.At.Pending, .bool x_146.1.Auto], .agg #[.int .i64 x_146.2.1.Row, .int .i64 x_146.2.1.Col, .bool x_146.2.1.Pending], .int .i64 x_146.2.2.1, v310]) (ta 11 (.agg #[v307, .int .i64 x_146.1.At.Row, .int .i64 x_146.1.At.Col, .bool x_146.1.At.Pending, .bool x_146.1.Auto]) (ta 12 (.agg #[.int .i64 x_146.2.1.Row, .int .i64 x_146.2.1.Col, .bool x_146.2.1.Pending]) (ta 13 (.int .i64 x_146.2.2.1) (ta 14 (v310) (o1 16 (gm 16 (al 24 [.int .i64 0, .int .i64 0, .bool false] O313) ?_))))))⟩
      rintro v322 c321 l321 ⟨b319, rfl, O320⟩
      have p323 : Kp G0 [⟨.pointer (some ⟨b168, 0, none⟩), 43, [.slice a7 a8 a9, .int .i64 p0.At.Row, .int .i64 p0.At.Col, .bool p0.At.Pending, .bool p0.Auto], 0⟩] c321 := (Kp.cons (O320.on 3 rfl) Kp.nil0)
      refine ⟨.inr p323, ?_⟩
      obtain ⟨a324, a325, a326, rfl⟩ := ((h309.mono l321)).form
      refine o1 17 (gD 17 (sA 43 [.slice a324 a325 a326, .int .i64 x_146.1.At.Row, .int .i64 x_146.1.At.Col, .bool x_146.1.At.Pending, .bool x_146.1.Auto] 2 O320 ⟨h309.m.one, rfl, rfl, rfl, rfl, trivial⟩) ?_)
      rintro c328 l328 O327
      have p329 : Kp G0 [⟨.pointer (some ⟨b168, 0, none⟩), 43, [.slice a7 a8 a9, .int .i64 p0.At.Row, .int .i64 p0.At.Col, .bool p0.At.Pending, .bool p0.Auto], 0⟩] c328 := (Kp.cons (O327.on 3 rfl) Kp.nil0)
      refine ⟨.inr p329, o1 18 (gD 18 (sA 24 [.int .i64 x_146.2.1.Row, .int .i64 x_146.2.1.Col, .bool x_146.2.1.Pending] 0 O327 ⟨rfl, rfl, rfl, trivial⟩) ?_)⟩
      rintro c331 l331 O330
      have p332 : Kp G0 [⟨.pointer (some ⟨b168, 0, none⟩), 43, [.slice a7 a8 a9, .int .i64 p0.At.Row, .int .i64 p0.At.Col, .bool p0.At.Pending, .bool p0.Auto], 0⟩] c331 := (Kp.cons (O330.on 3 rfl) Kp.nil0)
      refine ⟨.inr p332, ta 19 (.int .i64 x_146.2.2.1) (ta 20 (v310) (dn (nrm ?_)))⟩
      have O333 := O330.sD 4 [0, 2, 1, 3]
      exact ⟨c331, _, _, rfl, pt, us, b319, b302, (.slice a324 a325 a326), u308, v310, O333, rfl, h309.m, h311.m⟩
     refine gm 16 (al 24 [.int .i64 0, .int .i64 0, .bool false] O303) ?_
     rintro v337 c336 l336 ⟨b334, rfl, O335⟩
     have p338 : Kp G0 [⟨.pointer (some ⟨b168, 0, none⟩), 43, [.slice a7 a8 a9, .int .i64 p0.At.Row, .int .i64 p0.At.Col, .bool p0.At.Pending, .bool p0.Auto], 0⟩] c336 := (Kp.cons (O335.on 2 rfl) Kp.nil0)
     refine ⟨.inr p338, o1 9 (gc 9 (c_linotyperef35_Put O335 (⟨p0.L, p0.At, p0.Auto⟩ : G_linotyperef34_Pen) x_141 x_145 h2.m h247.m h250.m h236) ?_)⟩
     rintro v349 c348 l348 ⟨v339, u340, v342, O345, rfl, h341, h343⟩
     have p350 : Kp G0 [⟨.pointer (some ⟨b168, 0, none⟩), 43, [.slice a7 a8 a9, .int .i64 p0.At.Row, .int .i64 p0.At.Col, .bool p0.At.Pending, .bool p0.Auto], 0⟩] c348 := (Kp.cons (O345.on 3 rfl) Kp.nil0)
     refine ⟨.inr p350, ta 10 (.tuple #[.agg #[v339, .int .i64 x_146.1.At.Row, .int .i64 x_146.1.At.Col, .bool x_146.1.At.Pending, .bool x_146.1.Auto], .agg #[.int .i64 x_146.2.1.Row, .int .i64 x_146.2.1.Col, .bool x_146.2.1.Pending], .int .i64 x_146.2.2.1, v342]) (ta 11 (.agg #[v339, .int .i64 x_146.1.At.Row, .int .i64 x_146.1.At.Col, .bool x_146.1.At.Pending, .bool x_146.1.Auto]) (ta 12 (.agg #[.int .i64 x_146.2.1.Row, .int .i64 x_146.2.1.Col, .bool x_146.2.1.Pending]) (ta 13 (.int .i64 x_146.2.2.1) (ta 14 (v342) ?_))))⟩
     obtain ⟨a351, a352, a353, rfl⟩ := (h341).form
     refine o1 17 (gD 17 (sA 43 [.slice a351 a352 a353, .int .i64 x_146.1.At.Row, .int .i64 x_146.1.At.Col, .bool x_146.1.At.Pending, .bool x_146.1.Auto] 2 O345 ⟨(h341).one, rfl, rfl, rfl, rfl, trivial⟩) ?_)
     rintro c355 l355 O354
     have p356 : Kp G0 [⟨.pointer (some ⟨b168, 0, none⟩), 43, [.slice a7 a8 a9, .int .i64 p0.At.Row, .int .i64 p0.At.Col, .bool p0.At.Pending, .bool p0.Auto], 0⟩] c355 := (Kp.cons (O354.on 3 rfl) Kp.nil0)
     refine ⟨.inr p356, o1 18 (gD 18 (sA 24 [.int .i64 x_146.2.1.Row, .int .i64 x_146.2.1.Col, .bool x_146.2.1.Pending] 1 O354 ⟨rfl, rfl, rfl, trivial⟩) ?_)⟩
     rintro c358 l358 O357
     have p359 : Kp G0 [⟨.pointer (some ⟨b168, 0, none⟩), 43, [.slice a7 a8 a9, .int .i64 p0.At.Row, .int .i64 p0.At.Col, .bool p0.At.Pending, .bool p0.Auto], 0⟩] c358 := (Kp.cons (O357.on 3 rfl) Kp.nil0)
     refine ⟨.inr p359, ta 19 (.int .i64 x_146.2.2.1) (ta 20 (v342) (dn (nrm ?_)))⟩
     have O360 := O357.sD 4 [1, 2, 0, 3]
     exact ⟨c358, _, _, rfl, pt, us, b334, b302, (.slice a351 a352 a353), u340, v342, O360, rfl, h341.m, h343.m⟩
    refine gm 16 (al 24 [.int .i64 0, .int .i64 0, .bool false] O243) ?_
    rintro v364 c363 l363 ⟨b361, rfl, O362⟩
    have p365 : Kp G0 [⟨.pointer (some ⟨b168, 0, none⟩), 43, [.slice a7 a8 a9, .int .i64 p0.At.Row, .int .i64 p0.At.Col, .bool p0.At.Pending, .bool p0.Auto], 0⟩] c363 := (Kp.cons (O362.on 1 rfl) Kp.nil0)
    refine ⟨.inr p365, mn2 9 15 ?_ ?_⟩
    ·refine gc 9 (c_linotyperef35_Put O362 (⟨p0.L, p0.At, p0.Auto⟩ : G_linotyperef34_Pen) x_141 x_145 h2.m h247.m h250.m h236) ?_
     rintro v376 c375 l375 ⟨v366, u367, v369, O372, rfl, h368, h370⟩
     have p377 : Kp G0 [⟨.pointer (some ⟨b168, 0, none⟩), 43, [.slice a7 a8 a9, .int .i64 p0.At.Row, .int .i64 p0.At.Col, .bool p0.At.Pending, .bool p0.Auto], 0⟩] c375 := (Kp.cons (O372.on 2 rfl) Kp.nil0)
     refine ⟨.inr p377, ta 10 (.tuple #[.agg #[v366, .int .i64 x_146.1.At.Row, .int .i64 x_146.1.At.Col, .bool x_146.1.At.Pending, .bool x_146.1.Auto], .agg #[.int .i64 x_146.2.1.Row, .int .i64 x_146.2.1.Col, .bool x_146.2.1.Pending], .int .i64 x_146.2.2.1, v369]) (ta 11 (.agg #[v366, .int .i64 x_146.1.At.Row, .int .i64 x_146.1.At.Col, .bool x_146.1.At.Pending, .bool x_146.1.Auto]) (ta 12 (.agg #[.int .i64 x_146.2.1.Row, .int .i64 x_146.2.1.Col, .bool x_146.2.1.Pending]) (ta 13 (.int .i64 x_146.2.2.1) (ta 14 (v369) (o1 15 (gm 15 (al 43 [.slice none 0 0, .int .i64 0, .int .i64 0, .bool false, .bool false] O372) ?_))))))⟩
     rintro v381 c380 l380 ⟨b378, rfl, O379⟩
     have p382 : Kp G0 [⟨.pointer (some ⟨b168, 0, none⟩), 43, [.slice a7 a8 a9, .int .i64 p0.At.Row, .int .i64 p0.At.Col, .bool p0.At.Pending, .bool p0.Auto], 0⟩] c380 := (Kp.cons (O379.on 3 rfl) Kp.nil0)
     refine ⟨.inr p382, ?_⟩
     obtain ⟨a383, a384, a385, rfl⟩ := ((h368.mono l380)).form
     refine o1 17 (gD 17 (sA 43 [.slice a383 a384 a385, .int .i64 x_146.1.At.Row, .int .i64 x_146.1.At.Col, .bool x_146.1.At.Pending, .bool x_146.1.Auto] 0 O379 ⟨h368.m.one, rfl, rfl, rfl, rfl, trivial⟩) ?_)
     rintro c387 l387 O386
     have p388 : Kp G0 [⟨.pointer (some ⟨b168, 0, none⟩), 43, [.slice a7 a8 a9, .int .i64 p0.At.Row, .int .i64 p0.At.Col, .bool p0.At.Pending, .bool p0.Auto], 0⟩] c387 := (Kp.cons (O386.on 3 rfl) Kp.nil0)
     refine ⟨.inr p388, o1 18 (gD 18 (sA 24 [.int .i64 x_146.2.1.Row, .int .i64 x_146.2.1.Col, .bool x_146.2.1.Pending] 2 O386 ⟨rfl, rfl, rfl, trivial⟩) ?_)⟩
     rintro c390 l390 O389
     have p391 : Kp G0 [⟨.pointer (some ⟨b168, 0, none⟩), 43, [.slice a7 a8 a9, .int .i64 p0.At.Row, .int .i64 p0.At.Col, .bool p0.At.Pending, .bool p0.Auto], 0⟩] c390 := (Kp.cons (O389.on 3 rfl) Kp.nil0)
     refine ⟨.inr p391, ta 19 (.int .i64 x_146.2.2.1) (ta 20 (v369) (dn (nrm ?_)))⟩
     have O392 := O389.sD 4 [2, 0, 1, 3]
     exact ⟨c390, _, _, rfl, pt, us, b361, b378, (.slice a383 a384 a385), u367, v369, O392, rfl, h368.m, h370.m⟩
    refine gm 15 (al 43 [.slice none 0 0, .int .i64 0, .int .i64 0, .bool false, .bool false] O362) ?_
    rintro v396 c395 l395 ⟨b393, rfl, O394⟩
    have p397 : Kp G0 [⟨.pointer (some ⟨b168, 0, none⟩), 43, [.slice a7 a8 a9, .int .i64 p0.At.Row, .int .i64 p0.At.Col, .bool p0.At.Pending, .bool p0.Auto], 0⟩] c395 := (Kp.cons (O394.on 2 rfl) Kp.nil0)
    refine ⟨.inr p397, o1 9 (gc 9 (c_linotyperef35_Put O394 (⟨p0.L, p0.At, p0.Auto⟩ : G_linotyperef34_Pen) x_141 x_145 h2.m h247.m h250.m h236) ?_)⟩
    rintro v408 c407 l407 ⟨v398, u399, v401, O404, rfl, h400, h402⟩
    have p409 : Kp G0 [⟨.pointer (some ⟨b168, 0, none⟩), 43, [.slice a7 a8 a9, .int .i64 p0.At.Row, .int .i64 p0.At.Col, .bool p0.At.Pending, .bool p0.Auto], 0⟩] c407 := (Kp.cons (O404.on 3 rfl) Kp.nil0)
    refine ⟨.inr p409, ta 10 (.tuple #[.agg #[v398, .int .i64 x_146.1.At.Row, .int .i64 x_146.1.At.Col, .bool x_146.1.At.Pending, .bool x_146.1.Auto], .agg #[.int .i64 x_146.2.1.Row, .int .i64 x_146.2.1.Col, .bool x_146.2.1.Pending], .int .i64 x_146.2.2.1, v401]) (ta 11 (.agg #[v398, .int .i64 x_146.1.At.Row, .int .i64 x_146.1.At.Col, .bool x_146.1.At.Pending, .bool x_146.1.Auto]) (ta 12 (.agg #[.int .i64 x_146.2.1.Row, .int .i64 x_146.2.1.Col, .bool x_146.2.1.Pending]) (ta 13 (.int .i64 x_146.2.2.1) (ta 14 (v401) ?_))))⟩
    obtain ⟨a410, a411, a412, rfl⟩ := (h400).form
    refine o1 17 (gD 17 (sA 43 [.slice a410 a411 a412, .int .i64 x_146.1.At.Row, .int .i64 x_146.1.At.Col, .bool x_146.1.At.Pending, .bool x_146.1.Auto] 1 O404 ⟨(h400).one, rfl, rfl, rfl, rfl, trivial⟩) ?_)
    rintro c414 l414 O413
    have p415 : Kp G0 [⟨.pointer (some ⟨b168, 0, none⟩), 43, [.slice a7 a8 a9, .int .i64 p0.At.Row, .int .i64 p0.At.Col, .bool p0.At.Pending, .bool p0.Auto], 0⟩] c414 := (Kp.cons (O413.on 3 rfl) Kp.nil0)
    refine ⟨.inr p415, o1 18 (gD 18 (sA 24 [.int .i64 x_146.2.1.Row, .int .i64 x_146.2.1.Col, .bool x_146.2.1.Pending] 2 O413 ⟨rfl, rfl, rfl, trivial⟩) ?_)⟩
    rintro c417 l417 O416
    have p418 : Kp G0 [⟨.pointer (some ⟨b168, 0, none⟩), 43, [.slice a7 a8 a9, .int .i64 p0.At.Row, .int .i64 p0.At.Col, .bool p0.At.Pending, .bool p0.Auto], 0⟩] c417 := (Kp.cons (O416.on 3 rfl) Kp.nil0)
    refine ⟨.inr p418, ta 19 (.int .i64 x_146.2.2.1) (ta 20 (v401) (dn (nrm ?_)))⟩
    have O419 := O416.sD 4 [2, 1, 0, 3]
    exact ⟨c417, _, _, rfl, pt, us, b361, b393, (.slice a410 a411 a412), u399, v401, O419, rfl, h400.m, h402.m⟩
   rintro e_ w_ ⟨c420, g421, _, rfl, l420, rfl, b237, b238, v239, u240, v241, O422, rfl, h423, h424⟩
   refine nrm (W.seq (bn H69 fun x_161 h428 H69 => bn H69 fun d_163 h429 H69 => bn H69 fun d_169 h430 H69 => bn H69 fun d_175 h431 H69 => W.join (Jn c420 fun c l => Own c G229 (⟨.pointer (some ⟨b237, 0, none⟩), 24, [.int .i64 x_146.2.1.Row, .int .i64 x_146.2.1.Col, .bool x_146.2.1.Pending], 0⟩ :: ⟨.pointer (some ⟨b238, 0, none⟩), 43, [v239, .int .i64 x_146.1.At.Row, .int .i64 x_146.1.At.Col, .bool x_146.1.At.Pending, .bool x_146.1.Auto], 0⟩ :: es false R_api_Line v239 71 u240 x_146.1.L :: ⟨.pointer (some ⟨b168, 0, none⟩), 43, [.slice a7 a8 a9, .int .i64 p0.At.Row, .int .i64 p0.At.Col, .bool p0.At.Pending, .bool p0.Auto], 0⟩ :: F) ∧ l = [(1, v3), (2, v71), (11, .pointer (some ⟨b151, 0, none⟩)), (12, .pointer (some ⟨b168, 0, none⟩)), (13, v186), (14, .int .i64 s_110.1), (161, .bool d_175)]) ?_ ?_))
   ·clear H69
    refine rD [] (Kp G0 [⟨.pointer (some ⟨b238, 0, none⟩), 43, [v239, .int .i64 x_146.1.At.Row, .int .i64 x_146.1.At.Col, .bool x_146.1.At.Pending, .bool x_146.1.Auto], 0⟩, ⟨.pointer (some ⟨b237, 0, none⟩), 24, [.int .i64 x_146.2.1.Row, .int .i64 x_146.2.1.Col, .bool x_146.2.1.Pending], 0⟩]) O422 ?_
    intro c432 l432 O433
    have p434 : Kp G0 [⟨.pointer (some ⟨b238, 0, none⟩), 43, [v239, .int .i64 x_146.1.At.Row, .int .i64 x_146.1.At.Col, .bool x_146.1.At.Pending, .bool x_146.1.Auto], 0⟩, ⟨.pointer (some ⟨b237, 0, none⟩), 24, [.int .i64 x_146.2.1.Row, .int .i64 x_146.2.1.Col, .bool x_146.2.1.Pending], 0⟩] c432 := (Kp.cons (O433.on 1 rfl) (Kp.cons (O433.on 0 rfl) Kp.nil0))
    refine ta 0 (.pointer (some ⟨b151, 0, none⟩)) (tkx 1 p434 (fun c' hle hk => leN 43 0 [v239, .int .i64 x_146.1.At.Row, .int .i64 x_146.1.At.Col, .bool x_146.1.At.Pending, .bool x_146.1.Auto] (hk.on 0 rfl)) ?_)
    obtain ⟨c437, h438, l437, O435, h436⟩ := O433.frz 2 rfl (h423.mono l432)
    have p439 : Kp G0 [⟨.pointer (some ⟨b238, 0, none⟩), 43, [v239, .int .i64 x_146.1.At.Row, .int .i64 x_146.1.At.Col, .bool x_146.1.At.Pending, .bool x_146.1.Auto], 0⟩, ⟨.pointer (some ⟨b237, 0, none⟩), 24, [.int .i64 x_146.2.1.Row, .int .i64 x_146.2.1.Col, .bool x_146.2.1.Pending], 0⟩] c437 := (Kp.cons (O435.on 1 rfl) (Kp.cons (O435.on 0 rfl) Kp.nil0))
    refine AC.gh h438 l437 (fun _ => p439) (o1 2 (gc 2 (c_linotypelaw34_Alike O435 R230.m (some x_67.1.place_Pen.length) x_146.1 h167.m h436 h428) ?_))
    rintro v445 c444 l444 ⟨O441, rfl⟩
    have p446 : Kp G0 [⟨.pointer (some ⟨b238, 0, none⟩), 43, [v239, .int .i64 x_146.1.At.Row, .int .i64 x_146.1.At.Col, .bool x_146.1.At.Pending, .bool x_146.1.Auto], 0⟩, ⟨.pointer (some ⟨b237, 0, none⟩), 24, [.int .i64 x_146.2.1.Row, .int .i64 x_146.2.1.Col, .bool x_146.2.1.Pending], 0⟩] c444 := (Kp.cons (O441.on 1 rfl) (Kp.cons (O441.on 0 rfl) Kp.nil0))
    refine ⟨.inr p446, ta 3 (.bool (!x_161)) ?_⟩
    rcases bo (!x_161) with h447 | h447
    ·obtain rfl := orT h447 h429
     refine AC.takeb 4 h447 rfl (by kernel_rfl) (by kernel_rfl) (fun c' hle => (by kernel_rfl)) (tp 5 (tp 7 (tp 6 (tp 8 (ta 9 (.bool true) ?_)))))
     have h448 : true = true := rfl
     obtain rfl := orT h448 h430
     refine AC.takeb 10 h448 rfl (by kernel_rfl) (by kernel_rfl) (fun c' hle => (by kernel_rfl)) (tp 11 (tp 13 (tp 12 (tp 14 (ta 15 (.bool true) ?_)))))
     have h449 : true = true := rfl
     obtain rfl := orT h449 h431
     exact AC.takeb 16 h449 rfl (by kernel_rfl) (by kernel_rfl) (fun c' hle => (by kernel_rfl)) (tp 17 (tp 19 (tp 18 (tp 20 (tp 21 (ta 22 (.bool true) (dn (nrm ⟨c444, _, _, rfl, pt, us, O441, rfl⟩))))))))
    have H450 := orF h447 h429
    refine bn H450 fun x_167 h451 H450 => AC.takeb 4 h447 rfl (by kernel_rfl) (by kernel_rfl) (fun c' hle => (by kernel_rfl)) (ta 5 (v186) (tkx 7 p446 (fun c' hle hk => leN 24 0 [.int .i64 x_146.2.1.Row, .int .i64 x_146.2.1.Col, .bool x_146.2.1.Pending] (hk.on 1 rfl)) (o1 6 (gc 6 (c_widen_Cluster_At O441 R230.m x_105.2 h187.m h451) ?_))))
    rintro v457 c456 l456 ⟨O453, rfl⟩
    have p458 : Kp G0 [⟨.pointer (some ⟨b238, 0, none⟩), 43, [v239, .int .i64 x_146.1.At.Row, .int .i64 x_146.1.At.Col, .bool x_146.1.At.Pending, .bool x_146.1.Auto], 0⟩, ⟨.pointer (some ⟨b237, 0, none⟩), 24, [.int .i64 x_146.2.1.Row, .int .i64 x_146.2.1.Col, .bool x_146.2.1.Pending], 0⟩] c456 := (Kp.cons (O453.on 1 rfl) (Kp.cons (O453.on 0 rfl) Kp.nil0))
    refine ⟨.inr p458, AC.take 8 (.bool (!(x_167.Row == x_146.2.1.Row && (x_167.Col == x_146.2.1.Col && (x_167.Pending == x_146.2.1.Pending && true))))) rfl (by kernel_rfl) (by kernel_rfl) (fun c' hle => (run_neqA (T := 24) (xs := #[.int .i64 x_167.Row, .int .i64 x_167.Col, .bool x_167.Pending]) (ys := #[.int .i64 x_146.2.1.Row, .int .i64 x_146.2.1.Col, .bool x_146.2.1.Pending]) (r := (x_167.Row == x_146.2.1.Row && (x_167.Col == x_146.2.1.Col && (x_167.Pending == x_146.2.1.Pending && true)))) underlying24 (by kernel_rfl) (by kernel_rfl) (EqP.int (by kernel_rfl) underlying3 rfl rfl (EqP.int (by kernel_rfl) underlying3 rfl rfl (EqP.bool (by kernel_rfl) underlying4 rfl rfl EqP.nil))) (by kernel_rfl) _)) ?_⟩
    obtain rfl := si H450
    refine ta 9 (.bool (!(x_167.Row == x_146.2.1.Row && (x_167.Col == x_146.2.1.Col && (x_167.Pending == x_146.2.1.Pending && true))))) ?_
    rcases bo (!(x_167.Row == x_146.2.1.Row && (x_167.Col == x_146.2.1.Col && (x_167.Pending == x_146.2.1.Pending && true)))) with h459 | h459
    ·obtain rfl := orT h459 h430
     refine AC.takeb 10 h459 rfl (by kernel_rfl) (by kernel_rfl) (fun c' hle => (by kernel_rfl)) (tp 11 (tp 13 (tp 12 (tp 14 (ta 15 (.bool true) ?_)))))
     have h460 : true = true := rfl
     obtain rfl := orT h460 h431
     exact AC.takeb 16 h460 rfl (by kernel_rfl) (by kernel_rfl) (fun c' hle => (by kernel_rfl)) (tp 17 (tp 19 (tp 18 (tp 20 (tp 21 (ta 22 (.bool true) (dn (nrm ⟨c456, _, _, rfl, pt, us, O453, rfl⟩))))))))
    have H461 := orF h459 h430
    refine bn H461 fun x_173 h462 H461 => AC.takeb 10 h459 rfl (by kernel_rfl) (by kernel_rfl) (fun c' hle => (by kernel_rfl)) (ta 11 (v186) (ta 13 (.int .i64 x_146.2.2.1) (o1 12 (gc 12 (c_widen_Cluster_Wide O453 R230.m x_105.2 h187.m h462) ?_))))
    rintro v468 c467 l467 ⟨O464, rfl⟩
    have p469 : Kp G0 [⟨.pointer (some ⟨b238, 0, none⟩), 43, [v239, .int .i64 x_146.1.At.Row, .int .i64 x_146.1.At.Col, .bool x_146.1.At.Pending, .bool x_146.1.Auto], 0⟩, ⟨.pointer (some ⟨b237, 0, none⟩), 24, [.int .i64 x_146.2.1.Row, .int .i64 x_146.2.1.Col, .bool x_146.2.1.Pending], 0⟩] c467 := (Kp.cons (O464.on 1 rfl) (Kp.cons (O464.on 0 rfl) Kp.nil0))
    refine ⟨.inr p469, ta 14 (.bool (x_173 != x_146.2.2.1)) ?_⟩
    obtain rfl := si H461
    refine ta 15 (.bool (x_173 != x_146.2.2.1)) ?_
    rcases bo (x_173 != x_146.2.2.1) with h470 | h470
    ·obtain rfl := orT h470 h431
     exact AC.takeb 16 h470 rfl (by kernel_rfl) (by kernel_rfl) (fun c' hle => (by kernel_rfl)) (tp 17 (tp 19 (tp 18 (tp 20 (tp 21 (ta 22 (.bool true) (dn (nrm ⟨c467, _, _, rfl, pt, us, O464, rfl⟩))))))))
    have H471 := orF h470 h431
    refine bn H471 fun x_179 h472 H471 => bn H471 fun x_180 h473 H471 => AC.takeb 16 h470 rfl (by kernel_rfl) (by kernel_rfl) (fun c' hle => (by kernel_rfl)) (ta 17 (v186) (ta 19 (v241) (o1 18 (gc 18 (c_widen_Cluster_Text O464 R230.m x_105.2 h187.m h472) ?_))))
    rintro v474 c481 l481 ⟨_, u475, O478, rfl, h476⟩
    have p483 : Kp G0 [⟨.pointer (some ⟨b238, 0, none⟩), 43, [v239, .int .i64 x_146.1.At.Row, .int .i64 x_146.1.At.Col, .bool x_146.1.At.Pending, .bool x_146.1.Auto], 0⟩, ⟨.pointer (some ⟨b237, 0, none⟩), 24, [.int .i64 x_146.2.1.Row, .int .i64 x_146.2.1.Col, .bool x_146.2.1.Pending], 0⟩] c481 := (Kp.cons (O478.on 2 rfl) (Kp.cons (O478.on 1 rfl) Kp.nil0))
    refine ⟨.inr p483, ?_⟩
    obtain ⟨c486, h487, l486, O484, h485⟩ := O478.frz 0 rfl h476
    have p488 : Kp G0 [⟨.pointer (some ⟨b238, 0, none⟩), 43, [v239, .int .i64 x_146.1.At.Row, .int .i64 x_146.1.At.Col, .bool x_146.1.At.Pending, .bool x_146.1.Auto], 0⟩, ⟨.pointer (some ⟨b237, 0, none⟩), 24, [.int .i64 x_146.2.1.Row, .int .i64 x_146.2.1.Col, .bool x_146.2.1.Pending], 0⟩] c486 := (Kp.cons (O484.on 2 rfl) (Kp.cons (O484.on 1 rfl) Kp.nil0))
    refine AC.gh h487 l486 (fun _ => p488) (o1 20 (gc 20 (c_linotyperef01_Same O484 x_179 x_146.2.2.2 h485 h424.m h473) ?_))
    rintro v494 c493 l493 ⟨O490, rfl⟩
    have p495 : Kp G0 [⟨.pointer (some ⟨b238, 0, none⟩), 43, [v239, .int .i64 x_146.1.At.Row, .int .i64 x_146.1.At.Col, .bool x_146.1.At.Pending, .bool x_146.1.Auto], 0⟩, ⟨.pointer (some ⟨b237, 0, none⟩), 24, [.int .i64 x_146.2.1.Row, .int .i64 x_146.2.1.Col, .bool x_146.2.1.Pending], 0⟩] c493 := (Kp.cons (O490.on 2 rfl) (Kp.cons (O490.on 1 rfl) Kp.nil0))
    refine ⟨.inr p495, ta 21 (.bool (!x_180)) ?_⟩
    obtain rfl := si H471
    refine ta 22 (.bool (!x_180)) (dn (nrm ?_))
    have O496 := O490.sD 5 [1, 2, 3, 4]
    exact ⟨c493, _, _, rfl, pt, us, O496, rfl⟩
   rintro e_ w_ ⟨c497, g498, _, rfl, l497, rfl, O499, rfl⟩
   refine nrm (cn H69 (fun h503 H69 => ?_) (fun h503 H69 => ?_))
   ·refine sr (va (.bool false) (wln (W.ret (bkr (thr ?_)))))
    obtain rfl := si H69
    refine ⟨_, rfl, ⟨rfl, ?_⟩⟩
    have O504 := O499.sD 4 []
    exact ⟨c497, _, _, rfl, pt, us, G229, O504, rfl, R230.m⟩
   refine W.skip (bkn (nrm (W.region (va (.int .i64 s_110.1) (va (.int .i64 (w64 (s_110.1 + 1))) (va (.int .i64 (w64 (s_110.1 + 1))) (WL.nil ?_)))))))
   obtain rfl := si H69
   refine ⟨_, rfl, ?_⟩
   have O505 := O499.sD 4 [3]
   exact ⟨c497, _, _, rfl, pt, us, G229, O505, rfl, R230.m⟩
  refine W.exit (thx ?_)
  obtain rfl := si H69
  exact ⟨_, rfl, rfl, ⟨c197, _, _, rfl, pt, us, G200, O199, rfl, R201⟩⟩
 ·exact ⟨c192, _, _, rfl, pt, us, G188, O189, rfl, R190⟩
 rcases o_110 with o_110 | o_110
 ·intro ex_; revert ex_
  rintro _ e_ w_ ⟨rfl, c506, g507, _, rfl, l506, rfl, G509, O508, rfl, R510⟩
  refine bkr (thr ?_)
  obtain rfl := si H196
  exact r1 ⟨_, c506, rfl, rfl, pt, G509, O508, R510, rfl⟩
 rintro _ e_ w_ ⟨rfl, c512, g513, _, rfl, l512, rfl, G515, O514, rfl, R516⟩
 refine bke (nrm (sr (va (.bool true) (wln (W.ret ?_)))))
 obtain rfl := si H196
 have O518 := O514.sD 1 []
 exact r1 ⟨_, c512, rfl, rfl, pt, G515, O518, R516, rfl⟩

end Go.Proofs.YthokmpbbkpjhbaaGreatDoor
