import Derived.Test.YthokmpbbkpjhbaaGreatDoorMq
import Derived.Test.YthokmpbbkpjhbaaGreatDoorProg
import Derived.Test.YthokmpbbkpjhbaaGreatDoorMy
import Derived.Test.YthokmpbbkpjhbaaGreatDoorMz
import Derived.Test.YthokmpbbkpjhbaaGreatDoorA1
namespace Go.Proofs.YthokmpbbkpjhbaaGreatDoor
open Go Go.Lt
set_option maxRecDepth 10000
set_option linter.unusedVariables false
attribute [local irreducible] W WL AC
open Tryz
variable {c0 : Cx} {G : Gm} {F : List En} {sg : Sto} {v1 v2 v3 v4 v5 v6 v7 v8 v9 v10 v11 v12 v13 v14 v15 v16 v17 v18 v19 v20 v21 v22 v23 v24 v25 v26 v27 v28 v29 v30 v31 v32 v33 v34 v35 v36 v37 v38 v39 v40 v41 v42 v43 v44 v45 v46 v47 v48 v49 v50 v51 v52 v53 v54 v55 v56 v57 v58 v59 v60 : Value}
def f_grid_Grid_High (sg : Sto) (p0 : Option Nat) : Option (Int) :=
 if p0.isNone = true then
 some 0
 else
 (p0).bind fun k_9 =>
 (sg.grid_Grid[k_9]?).bind fun o_11 =>
 some (o_11.rows.length : Int)
theorem c_grid_Grid_High (O0 : Own c0 G F) (R0 : Rel c0 sg G) (p0 : Option Nat) {r : Int} (h2 : Pt 1 c0 v1 p0) (H : f_grid_Grid_High sg p0 = some r) :
    Calls Tryz.prog 34 #[v1] c0.w (Post c0 fun c v => Own c G (F) ∧ v = .int .i64 r) := by
 unfold f_grid_Grid_High at H
 refine en func34 rfl rfl (sr (va (.int .i64 0) (wln (W.seq (sr (va (v1) (vr (.bool p0.isNone) (by rcases (h2).cs with ⟨h1_, h2_⟩ | ⟨b_, h1_, h2_⟩ <;> (subst h1_; rw [h2_]; kernel_rfl)) (wln (cn H (fun h3 H => ?_) (fun h3 H => ?_))))))))))
 ·refine sr (va (.int .i64 0) (wln (W.ret (thr ?_))))
  obtain rfl := si H
  exact r1 ⟨_, c0, rfl, rfl, pt, O0, rfl⟩
 refine W.skip (nrm (sr (va (v1) (bn H fun k_9 h6 H => ?_))))
 obtain ⟨b4, rfl, h5⟩ := (h2).get h6
 refine va (.pointer (some ⟨b4, 0, none⟩)) (va (.pointer (some ⟨b4, 0, none⟩)) (bn H fun o_11 h7 H => ?_))
 obtain ⟨v8, u9, h11, h10⟩ := Rel.open_grid_Grid R0 h7 h5
 refine vx (le1 0 underlying120 (O0.gon h11 0 rfl)) (vx (lnO 3 underlying120 h10) (va (.int .i64 (o_11.rows.length : Int)) (wln (W.ret ?_))))
 obtain rfl := si H
 exact r1 ⟨_, c0, rfl, rfl, pt, O0, rfl⟩
def f_scroll_of (sg : Sto) (p0 : Option Nat) (p1 : Int) (p2 : Int) (p3 : Int) : Option (G_scroll_stretch × Bool) :=
 (f_grid_Grid_High sg p0).bind fun x_6 =>
 (f_grid_Grid_High sg p0).bind fun x_11 =>
 (andE (decide ((imax 0 (imin p1 x_6)) < (imax 0 (imin p2 x_11)))) (some (decide (p3 > 0)))).bind fun d_32 =>
 some ((⟨(imax 0 (imin p1 x_6)), (imax 0 (imin p2 x_11)), (imin p3 (w64 ((imax 0 (imin p2 x_11)) - (imax 0 (imin p1 x_6)))))⟩ : G_scroll_stretch), d_32)
theorem c_scroll_of (O0 : Own c0 G F) (R0 : Rel c0 sg G) (p0 : Option Nat) (p1 : Int) (p2 : Int) (p3 : Int) {r : G_scroll_stretch × Bool} (h2 : Pt 1 c0 v1 p0) (H : f_scroll_of sg p0 p1 p2 p3 = some r) :
    Calls Tryz.prog 207 #[v1, .int .i64 p1, .int .i64 p2, .int .i64 p3] c0.w (Post c0 fun c v => Own c G (F) ∧ v = .tuple #[.agg #[.int .i64 r.1.from_, .int .i64 r.1.to_, .int .i64 r.1.n], .bool r.2]) := by
 unfold f_scroll_of at H
 refine en func207 rfl rfl (sr (me (al 261 [.int .i64 0, .int .i64 0, .int .i64 0] O0) ?_))
 rintro v6 c5 l5 ⟨b3, rfl, O4⟩
 refine va (.bool false) (wln (sr (va (.int .i64 p1) (va (v1) (bn H fun x_6 h7 H => cl (c_grid_Grid_High O4 R0.m p0 h2.m h7) ?_)))))
 rintro v13 c12 l12 ⟨O9, rfl⟩
 refine va (.int .i64 (imin p1 x_6)) (va (.int .i64 (imax 0 (imin p1 x_6))) (va (.int .i64 p2) (va (v1) (bn H fun x_11 h14 H => cl (c_grid_Grid_High O9 R0.m p0 h2.m h14) ?_))))
 rintro v20 c19 l19 ⟨O16, rfl⟩
 refine va (.int .i64 (imin p2 x_11)) (va (.int .i64 (imax 0 (imin p2 x_11))) (va (.int .i64 (imax 0 (imin p1 x_6))) (va (.int .i64 (imax 0 (imin p2 x_11))) (wln (sr (va (.int .i64 (imax 0 (imin p1 x_6))) (va (.int .i64 (imax 0 (imin p2 x_11))) (va (.int .i64 p3) (va (.int .i64 (imax 0 (imin p2 x_11))) (va (.int .i64 (imax 0 (imin p1 x_6))) (va (.int .i64 (w64 ((imax 0 (imin p2 x_11)) - (imax 0 (imin p1 x_6))))) (va (.int .i64 (imin p3 (w64 ((imax 0 (imin p2 x_11)) - (imax 0 (imin p1 x_6)))))) (va (.agg #[.int .i64 (imax 0 (imin p1 x_6)), .int .i64 (imax 0 (imin p2 x_11)), .int .i64 (imin p3 (w64 ((imax 0 (imin p2 x_11)) - (imax 0 (imin p1 x_6)))))]) (me (al 261 [.int .i64 0, .int .i64 0, .int .i64 0] O16) ?_))))))))))))))
 rintro v24 c23 l23 ⟨b21, rfl, O22⟩
 refine md (sA 261 [.int .i64 (imax 0 (imin p1 x_6)), .int .i64 (imax 0 (imin p2 x_11)), .int .i64 (imin p3 (w64 ((imax 0 (imin p2 x_11)) - (imax 0 (imin p1 x_6)))))] 0 O22 ⟨rfl, rfl, rfl, trivial⟩) ?_
 rintro c26 l26 O25
 refine wln (W.seq (bn H fun d_32 h27 H => W.join (Jn c26 fun c l => Own c G (⟨.pointer (some ⟨b21, 0, none⟩), 261, [.int .i64 (imax 0 (imin p1 x_6)), .int .i64 (imax 0 (imin p2 x_11)), .int .i64 (imin p3 (w64 ((imax 0 (imin p2 x_11)) - (imax 0 (imin p1 x_6)))))], 0⟩ :: ⟨.pointer (some ⟨b3, 0, none⟩), 261, [.int .i64 (imax 0 (imin p1 x_6)), .int .i64 (imax 0 (imin p2 x_11)), .int .i64 (imin p3 (w64 ((imax 0 (imin p2 x_11)) - (imax 0 (imin p1 x_6)))))], 0⟩ :: F) ∧ l = [(8, .pointer (some ⟨b3, 0, none⟩)), (9, .bool d_32)]) ?_ ?_))
 ·clear H
  refine W.region (vx (leN 261 0 [.int .i64 (imax 0 (imin p1 x_6)), .int .i64 (imax 0 (imin p2 x_11)), .int .i64 (imin p3 (w64 ((imax 0 (imin p2 x_11)) - (imax 0 (imin p1 x_6)))))] (O25.on 0 rfl)) (va (.int .i64 (imax 0 (imin p1 x_6))) (va (.int .i64 (imax 0 (imin p2 x_11))) (va (.bool (decide ((imax 0 (imin p1 x_6)) < (imax 0 (imin p2 x_11))))) ?_))))
  rcases bo (decide ((imax 0 (imin p1 x_6)) < (imax 0 (imin p2 x_11)))) with h28 | h28
  ·have H29 := anT h28 h27
   refine vb h28 (wn (va (.int .i64 p3) (wn (va (.bool (decide (p3 > 0))) ?_))))
   obtain rfl := si H29
   refine va (.bool (decide (p3 > 0))) (md (sA 261 [.int .i64 (imax 0 (imin p1 x_6)), .int .i64 (imax 0 (imin p2 x_11)), .int .i64 (imin p3 (w64 ((imax 0 (imin p2 x_11)) - (imax 0 (imin p1 x_6)))))] 1 O25 ⟨rfl, rfl, rfl, trivial⟩) ?_)
   rintro c31 l31 O30
   exact va (.bool (decide (p3 > 0))) (wln ⟨c31, _, _, rfl, pt, us, O30, rfl⟩)
  obtain rfl := anF h28 h27
  refine vb h28 (ps (ps (va (.bool false) (md (sA 261 [.int .i64 (imax 0 (imin p1 x_6)), .int .i64 (imax 0 (imin p2 x_11)), .int .i64 (imin p3 (w64 ((imax 0 (imin p2 x_11)) - (imax 0 (imin p1 x_6)))))] 1 O25 ⟨rfl, rfl, rfl, trivial⟩) ?_))))
  rintro c33 l33 O32
  exact va (.bool false) (wln ⟨c33, _, _, rfl, pt, us, O32, rfl⟩)
 rintro e_ w_ ⟨c34, g35, _, rfl, l34, rfl, O36, rfl⟩
 refine nrm (W.ret ?_)
 obtain rfl := si H
 have O40 := O36.sD 2 []
 exact retCT (c := c34) (vs := [.int .i64 (imax 0 (imin p1 x_6)), .int .i64 (imax 0 (imin p2 x_11)), .int .i64 (imin p3 (w64 ((imax 0 (imin p2 x_11)) - (imax 0 (imin p1 x_6)))))]) (v := .bool d_32) rfl (by kernel_rfl) (by kernel_rfl) (by kernel_rfl) (by kernel_rfl) (O36.on 1 rfl _ rfl).1 ⟨_, c34, rfl, rfl, pt, O40, rfl⟩
def f_grid_Grid_Row (sg : Sto) (p0 : Option Nat) (p1 : Int) : Option (Option Nat) :=
 (orE (decide (p1 < 0)) ((f_grid_Grid_High sg p0).bind fun x_9 =>
 some (decide (p1 ≥ x_9)))).bind fun d_5 =>
 if d_5 = true then
 some (none : Option Nat)
 else
 (p0).bind fun k_15 =>
 (sg.grid_Grid[k_15]?).bind fun o_17 =>
 (idx o_17.rows p1).bind fun x_19 =>
 some x_19
theorem c_grid_Grid_Row (O0 : Own c0 G F) (R0 : Rel c0 sg G) (p0 : Option Nat) (p1 : Int) {r : Option Nat} (h2 : Pt 1 c0 v1 p0) (H : f_grid_Grid_Row sg p0 p1 = some r) :
    Calls Tryz.prog 72 #[v1, .int .i64 p1] c0.w (Post c0 fun c v => ∃ y1, Own c G (F) ∧ v = y1 ∧ Pt 0 c y1 r) := by
 unfold f_grid_Grid_Row at H
 refine en func72 rfl rfl (sr (va (.pointer none) (wln (W.seq (W.seq (bn H fun d_5 h3 H => W.join (Jn c0 fun c l => Own c G (F) ∧ l = [(0, v1), (1, .int .i64 p1), (12, .bool d_5)]) ?_ ?_))))))
 ·clear H
  refine W.region (va (.int .i64 p1) (va (.bool (decide (p1 < 0))) ?_))
  rcases bo (decide (p1 < 0)) with h4 | h4
  ·obtain rfl := orT h4 h3
   exact vb h4 (ps (ps (ps (ps (va (.bool true) (wln ⟨c0, _, _, rfl, pt, us, O0, rfl⟩))))))
  have H5 := orF h4 h3
  refine vb h4 (wn (va (.int .i64 p1) (wn (va (v1) (wn (bn H5 fun x_9 h6 H5 => cl (c_grid_Grid_High O0 R0 p0 h2 h6) ?_))))))
  rintro v12 c11 l11 ⟨O8, rfl⟩
  refine wn (va (.bool (decide (p1 ≥ x_9))) ?_)
  obtain rfl := si H5
  exact va (.bool (decide (p1 ≥ x_9))) (wln ⟨c11, _, _, rfl, pt, us, O8, rfl⟩)
 rintro e_ w_ ⟨c13, g14, _, rfl, l13, rfl, O15, rfl⟩
 refine nrm (cn H (fun h19 H => ?_) (fun h19 H => ?_))
 ·refine sr (va (.pointer none) (wln (W.ret (thr ?_))))
  obtain rfl := si H
  exact r1 ⟨_, c13, rfl, rfl, pt, (.pointer none), O15, rfl, rfl⟩
 refine W.skip (nrm (sr (va (v1) (bn H fun k_15 h22 H => ?_))))
 obtain ⟨b20, rfl, h21⟩ := ((h2.mono l13)).get h22
 refine va (.pointer (some ⟨b20, 0, none⟩)) (va (.pointer (some ⟨b20, 0, none⟩)) (bn H fun o_17 h23 H => ?_))
 obtain ⟨v24, u25, h27, h26⟩ := Rel.open_grid_Grid (R0.mono l13) h23 h21
 refine vx (le1 0 underlying120 (O15.gon h27 0 rfl)) (va (.int .i64 p1) (bn H fun x_19 h28 H => vx (ixO underlying120 h26 h28) ?_))
 obtain ⟨l_29, h30, m31⟩ := OA.at h26 h28
 obtain ⟨v32, rfl, h33⟩ := h30
 refine vr v32 (rx (by kernel_rfl) (ldE1 underlying116 rfl (O15.gon h27 1 rfl) (h26.blk h28) (at1 (j := 0) m31 rfl))) (va (v32) (wln (W.ret ?_)))
 obtain rfl := si H
 exact r1 ⟨_, c13, rfl, rfl, pt, v32, O15, rfl, h33⟩
def f_grid_Grid_Set (sg : Sto) (p0 : Option Nat) (p1 : Int) (p2 : Option Nat) : Option (Sto × Bool) :=
 (orE p2.isNone ((f_grid_Grid_Row sg p0 p1).bind fun x_9 =>
 (f_row_Row_Wide sg x_9).bind fun x_10 =>
 (f_row_Row_Wide sg p2).bind fun x_12 =>
 some (x_10 != x_12))).bind fun d_5 =>
 if d_5 = true then
 some (sg, false)
 else
 (p0).bind fun k_18 =>
 (sg.grid_Grid[k_18]?).bind fun o_20 =>
 (idx o_20.rows p1).bind fun x_23 =>
 (sets o_20.rows p1 p2).bind fun w_24 =>
 (sg.set_grid_Grid k_18 (⟨w_24⟩ : G_grid_Grid)).bind fun s_24001 =>
 some (s_24001, true)
theorem c_grid_Grid_Set (O0 : Own c0 G F) (R0 : Rel c0 sg G) (p0 : Option Nat) (p1 : Int) (p2 : Option Nat) {r : Sto × Bool} (h2 : Pt 1 c0 v1 p0) (h4 : Pt 0 c0 v3 p2) (H : f_grid_Grid_Set sg p0 p1 p2 = some r) :
    Calls Tryz.prog 189 #[v1, .int .i64 p1, v3] c0.w (Post c0 fun c v => ∃ G_ : Gm, Own c G_ (F) ∧ Rel c r.1 G_ ∧ v = .bool r.2) := by
 unfold f_grid_Grid_Set at H
 refine en func189 rfl rfl (sr (va (.bool false) (wln (W.seq (W.seq (bn H fun d_5 h5 H => W.join (Jn c0 fun c l => Own c G (F) ∧ l = [(0, v1), (1, .int .i64 p1), (2, v3), (17, .bool d_5)]) ?_ ?_))))))
 ·clear H
  refine W.region (va (v3) (vr (.bool p2.isNone) (by rcases (h4).cs with ⟨h1_, h2_⟩ | ⟨b_, h1_, h2_⟩ <;> (subst h1_; rw [h2_]; kernel_rfl)) ?_))
  rcases bo (p2.isNone) with h6 | h6
  ·obtain rfl := orT h6 h5
   exact vb h6 (ps (ps (ps (ps (ps (ps (ps (va (.bool true) (wln ⟨c0, _, _, rfl, pt, us, O0, rfl⟩)))))))))
  have H7 := orF h6 h5
  refine vb h6 (wn (va (v1) (wn (va (.int .i64 p1) (wn (bn H7 fun x_9 h8 H7 => cl (c_grid_Grid_Row O0 R0 p0 p1 h2 h8) ?_))))))
  rintro v9 c15 l15 ⟨_, O12, rfl, h10⟩
  refine wn (bn H7 fun x_10 h17 H7 => cl (c_row_Row_Wide O12 R0.m x_9 h10 h17) ?_)
  rintro v23 c22 l22 ⟨O19, rfl⟩
  refine wn (va (v3) (wn (bn H7 fun x_12 h24 H7 => cl (c_row_Row_Wide O19 R0.m p2 h4.m h24) ?_)))
  rintro v30 c29 l29 ⟨O26, rfl⟩
  refine wn (va (.bool (x_10 != x_12)) ?_)
  obtain rfl := si H7
  exact va (.bool (x_10 != x_12)) (wln ⟨c29, _, _, rfl, pt, us, O26, rfl⟩)
 rintro e_ w_ ⟨c31, g32, _, rfl, l31, rfl, O33, rfl⟩
 refine nrm (cn H (fun h37 H => ?_) (fun h37 H => ?_))
 ·refine sr (va (.bool false) (wln (W.ret (thr ?_))))
  obtain rfl := si H
  exact r1 ⟨_, c31, rfl, rfl, pt, G, O33, R0.m, rfl⟩
 refine W.skip (nrm (sr (va (v1) (bn H fun k_18 h40 H => ?_))))
 obtain ⟨b38, rfl, h39⟩ := ((h2.mono l31)).get h40
 refine va (.pointer (some ⟨b38, 0, none⟩)) (va (.pointer (some ⟨b38, 0, none⟩)) (bn H fun o_20 h41 H => ?_))
 obtain ⟨v42, u43, h45, h44⟩ := Rel.open_grid_Grid (R0.mono l31) h41 h39
 refine vx (le1 0 underlying120 (O33.gon h45 0 rfl)) (va (.int .i64 p1) (va (v3) (bn H fun x_23 h46 H => vx (ixO underlying120 h44 h46) ?_)))
 obtain ⟨a47, rfl⟩ := ((h4.mono l31)).form
 have O48 := O33.borrow 1 h45 rfl
 refine bn H fun w_24 h49 H => md (Own.stW (R := (RP 0)) (T := 116) (us := [.pointer a47]) (x' := p2) (u := .pointer a47) 0 O48 (by kernel_rfl) rfl h44 h49 rfl (by kernel_rfl) ⟨h4.m.one, trivial⟩ rfl ⟨(.pointer a47), rfl, h4.m⟩) ?_
 rintro c53 l53 ⟨u51, O50, h52⟩
 have O54 := O50.giveB 1 rfl
 refine bn H fun s_24001 h59 H => ?_
 obtain ⟨G55, O56, R57, h58, a60⟩ := Rel.put_grid_Grid O54 (R0.mono (l31.trans l53)) (E' := [⟨.pointer (some ⟨b38, 0, none⟩), 122, [v42], 0⟩, es true (RP 0) v42 116 u51 w_24]) h59 ⟨b38, v42, u51, (tm h39), rfl, h52⟩
 refine wln (sr (va (.bool true) (wln (W.ret ?_))))
 obtain rfl := si H
 exact r1 ⟨_, c53, rfl, rfl, pt, G55, O56, R57, rfl⟩
def f_scroll_stretch_lay (sg : Sto) (p0 : G_scroll_stretch) (p1 : Option Nat) (p2 : List (Option Nat)) : Option (Sto) :=
 (iter (σ := Int × Sto) (τ := Sto) (((p2.length : Int) - 0).toNat + 1) (fun s_7 =>
 if (decide (s_7.1 < (p2.length : Int))) = true then
 (idx p2 s_7.1).bind fun x_11 =>
 (f_grid_Grid_Set s_7.2 p1 (w64 (p0.from_ + s_7.1)) x_11).bind fun x_22 =>
 some (.inl ((w64 (s_7.1 + 1)), x_22.1))
 else
 some (.inr (s_7.2))) (0, sg)).bind fun o_7 =>
 (f_grid_Grid_Row o_7 p1 (w64 (p0.from_ - 1))).bind fun x_31 =>
 (f_row_Row_GoOn o_7 x_31 false).bind fun x_32 =>
 some x_32
theorem c_scroll_stretch_lay (O0 : Own c0 G F) (R0 : Rel c0 sg G) (p0 : G_scroll_stretch) (p1 : Option Nat) (p2 : List (Option Nat)) {r : Sto} (h2 : Pt 1 c0 v1 p1) (h4 : Sl (RP 0) c0 v3 p2) (H : f_scroll_stretch_lay sg p0 p1 p2 = some r) :
    Calls Tryz.prog 208 #[.agg #[.int .i64 p0.from_, .int .i64 p0.to_, .int .i64 p0.n], v1, v3] c0.w (Post c0 fun c v => ∃ G_ : Gm, Own c G_ (F) ∧ Rel c r G_ ∧ v = .tuple #[]) := by
 unfold f_scroll_stretch_lay at H
 refine en func208 rfl rfl (sr (me (bx 261 [.int .i64 p0.from_, .int .i64 p0.to_, .int .i64 p0.n] O0) ?_))
 rintro v9 c8 l8 ⟨b5, rfl, O6, m7⟩
 refine wln (W.seq (sr (va (v3) (vx (ln 3 underlying120 h4.m) (va (.int .i64 0) (wln (W.block (bn H fun o_7 h10 H11 => lp h10 (fun s_7 => Jn c8 fun c l => ∃ G_, Own c G_ (F) ∧ l = [(1, v1), (3, .pointer (some ⟨b5, 0, none⟩)), (8, v3), (9, .int .i64 (p2.length : Int)), (10, .int .i64 s_7.1)] ∧ Rel c s_7.2 G_) (fun o_7_ ex e w => ex = .exit 0 ∧ (Jn c8 fun c l => ∃ G_, Own c G_ (F) ∧ l = [(1, v1), (3, .pointer (some ⟨b5, 0, none⟩))] ∧ Rel c o_7_ G_) e w) ?_ ?_ ?_))))))))
 ·clear H11 h10
  intro s_7 xx_ ee_ ww_ H
  revert ee_ ww_
  rintro e_ w_ ⟨c12, g13, _, rfl, l12, rfl, G15, O14, rfl, R16⟩
  refine sr (va (.bool (decide (s_7.1 < (p2.length : Int)))) (wln (W.seq (cn H (fun h18 H => ?_) (fun h18 H => ?_)))))
  ·refine W.skip (nrm (W.seq (W.block (sr (va (.int .i64 s_7.1) (bn H fun x_11 h19 H => ?_))))))
   obtain ⟨l_20, h21, m22⟩ := Sl.at (h4.mono (l8.trans l12)) (idx_get h19)
   obtain ⟨v23, rfl, h24⟩ := h21
   refine vx (ix underlying120 h4.m h19) (vx (l1 underlying116 (m22 0 _ rfl)) (va (.int .i64 s_7.1) (va (v23) (wln (W.region (va (v1) (va (.pointer (some ⟨b5, 0, none⟩)) (vx (l1 underlying3 ((mm m7) 0 _ rfl)) (va (.int .i64 s_7.1) (va (.int .i64 (w64 (p0.from_ + s_7.1))) (va (v23) (bn H fun x_22 h25 H => cl (c_grid_Grid_Set O14 R16 p1 (w64 (p0.from_ + s_7.1)) x_11 h2.m h24 h25) ?_))))))))))))
   rintro v31 c30 l30 ⟨G26, O27, R28, rfl⟩
   refine WL.nil (bkn (nrm (W.region (va (.int .i64 (w64 (s_7.1 + 1))) (va (.int .i64 (w64 (s_7.1 + 1))) (WL.nil ?_))))))
   obtain rfl := si H
   exact ⟨_, rfl, ⟨c30, _, _, rfl, pt, us, G26, O27, rfl, R28⟩⟩
  refine W.exit (thx ?_)
  obtain rfl := si H
  exact ⟨_, rfl, rfl, ⟨c12, _, _, rfl, pt, us, G15, O14, rfl, R16⟩⟩
 ·exact ⟨c8, _, _, rfl, pt, us, G, O6, rfl, R0.m⟩
 rintro _ e_ w_ ⟨rfl, c32, g33, _, rfl, l32, rfl, G35, O34, rfl, R36⟩
 refine bke (nrm (W.region (va (v1) (va (.pointer (some ⟨b5, 0, none⟩)) (vx (l1 underlying3 ((mm m7) 0 _ rfl)) (va (.int .i64 (w64 (p0.from_ - 1))) (bn H11 fun x_31 h38 H11 => cl (c_grid_Grid_Row O34 R36 p1 (w64 (p0.from_ - 1)) h2.m h38) ?_)))))))
 rintro v39 c45 l45 ⟨_, O42, rfl, h40⟩
 refine bn H11 fun x_32 h47 H11 => cl (c_row_Row_GoOn O42 R36.m x_31 false h40 h47) ?_
 rintro v53 c52 l52 ⟨G48, O49, R50, rfl⟩
 refine WL.nil ?_
 obtain rfl := si H11
 exact n0 ⟨_, c52, rfl, rfl, pt, G48, O49, R50, rfl⟩
def f_scroll_rows (sg : Sto) (p0 : Option Nat) (p1 : Int) (p2 : Int) : Option (List (Option Nat)) :=
 (iter (σ := (List (Option Nat)) × Int) (τ := (List (Option Nat))) ((p2 - p1).toNat + 1) (fun s_8 =>
 if (decide (s_8.2 < p2)) = true then
 (f_grid_Grid_Row sg p0 s_8.2).bind fun x_16 =>
 (app s_8.1 ([x_16] : List (Option Nat))).bind fun x_18 =>
 some (.inl (x_18, (w64 (s_8.2 + 1))))
 else
 some (.inr (s_8.1))) (([] : List (Option Nat)), p1)).bind fun o_8 =>
 some o_8
theorem c_scroll_rows (O0 : Own c0 G F) (R0 : Rel c0 sg G) (p0 : Option Nat) (p1 : Int) (p2 : Int) {r : List (Option Nat)} (h2 : Pt 1 c0 v1 p0) (H : f_scroll_rows sg p0 p1 p2 = some r) :
    Calls Tryz.prog 209 #[v1, .int .i64 p1, .int .i64 p2] c0.w (Post c0 fun c v => ∃ y1 y2, Own c G (es true (RP 0) y1 116 y2 r :: F) ∧ v = y1 ∧ OA (RP 0) c y1 y2 r) := by
 unfold f_scroll_rows at H
 refine en func209 rfl rfl (sr (va (.slice none 0 0) (wln (sr (va (.slice none 0 0) (wln (W.seq (sr (va (.int .i64 p1) (va (.int .i64 p1) (wln (W.block (bn H fun o_8 h3 H4 => lp h3 (fun s_8 => Jn c0 fun c l => ∃ v5 u6, Own c G (es true (RP 0) v5 116 u6 s_8.1 :: F) ∧ l = [(0, v1), (2, .int .i64 p2), (7, v5), (8, .int .i64 s_8.2)] ∧ OA (RP 0) c v5 u6 s_8.1) (fun o_8_ ex e w => ex = .exit 0 ∧ (Jn c0 fun c l => ∃ v7 u8, Own c G (es true (RP 0) v7 116 u8 o_8_ :: F) ∧ l = [(7, v7)] ∧ OA (RP 0) c v7 u8 o_8_) e w) ?_ ?_ ?_)))))))))))))
 ·clear H4 h3
  intro s_8 xx_ ee_ ww_ H
  revert ee_ ww_
  rintro e_ w_ ⟨c9, g10, _, rfl, l9, rfl, v5, u6, O11, rfl, h12⟩
  refine W.seq (sr (va (.int .i64 s_8.2) (va (.int .i64 p2) (va (.bool (decide (s_8.2 < p2))) (wln (cn H (fun h16 H => ?_) (fun h16 H => ?_)))))))
  ·refine W.skip (nrm (W.seq (W.block (W.region (va (v5) (va (v1) (va (.int .i64 s_8.2) (bn H fun x_16 h17 H => cl (c_grid_Grid_Row O11 R0.m p0 s_8.2 h2.m h17) ?_))))))))
   rintro v18 c24 l24 ⟨_, O21, rfl, h19⟩
   obtain ⟨a26, rfl⟩ := (h19).form
   refine me (sl (RP 0) 116 [[.pointer a26]] ([x_16] : List (Option Nat)) O21 ⟨⟨(.pointer a26), rfl, h19⟩, trivial⟩) ?_
   rintro v31 c30 l30 ⟨u28, O27, h29⟩
   obtain ⟨c34, h35, l34, O32, h33⟩ := O27.frz 0 rfl h29
   refine WL.gh h35 (bn H fun x_18 h36 H => me (ap (RP 0) (.pointer none) 8 120 1 O32 h12.m h33 h36 underlying120) ?_)
   rintro v41 c40 l40 ⟨u38, O37, h39⟩
   refine va (v41) (WL.nil (bkn (nrm (W.region (va (.int .i64 s_8.2) (va (.int .i64 (w64 (s_8.2 + 1))) (va (.int .i64 (w64 (s_8.2 + 1))) (WL.nil ?_))))))))
   obtain rfl := si H
   refine ⟨_, rfl, ?_⟩
   have O42 := O37.sD 2 [1]
   exact ⟨c40, _, _, rfl, pt, us, v41, u38, O42, rfl, h39⟩
  refine W.exit (thx ?_)
  obtain rfl := si H
  exact ⟨_, rfl, rfl, ⟨c9, _, _, rfl, pt, us, v5, u6, O11, rfl, h12⟩⟩
 ·have h44 : OA (RP 0) c0 (.slice none 0 0) [] [] := OA.nil (Nat.succ_pos _)
  have O43 := O0.addHole (e := es true (RP 0) (.slice none 0 0) 116 [] ([] : List (Option Nat))) rfl
  exact ⟨c0, _, _, rfl, pt, us, (.slice none 0 0), [], O43, rfl, h44⟩
 rintro _ e_ w_ ⟨rfl, c45, g46, _, rfl, l45, rfl, v7, u8, O47, rfl, h48⟩
 refine bke (nrm (sr (va (v7) (va (v7) (wln (W.ret ?_))))))
 obtain rfl := si H4
 exact r1 ⟨_, c45, rfl, rfl, pt, v7, u8, O47, rfl, h48⟩
def f_grid_Grid_Wide (sg : Sto) (p0 : Option Nat) : Option (Int) :=
 (f_grid_Grid_Row sg p0 0).bind fun x_4 =>
 (f_row_Row_Wide sg x_4).bind fun x_5 =>
 some x_5
theorem c_grid_Grid_Wide (O0 : Own c0 G F) (R0 : Rel c0 sg G) (p0 : Option Nat) {r : Int} (h2 : Pt 1 c0 v1 p0) (H : f_grid_Grid_Wide sg p0 = some r) :
    Calls Tryz.prog 33 #[v1] c0.w (Post c0 fun c v => Own c G (F) ∧ v = .int .i64 r) := by
 unfold f_grid_Grid_Wide at H
 refine en func33 rfl rfl (sr (va (.int .i64 0) (wln (sr (va (v1) (bn H fun x_4 h3 H => cl (c_grid_Grid_Row O0 R0 p0 0 h2 h3) ?_))))))
 rintro v4 c10 l10 ⟨_, O7, rfl, h5⟩
 refine bn H fun x_5 h12 H => cl (c_row_Row_Wide O7 R0.m x_4 h5 h12) ?_
 rintro v18 c17 l17 ⟨O14, rfl⟩
 refine va (.int .i64 x_5) (wln (W.ret ?_))
 obtain rfl := si H
 exact r1 ⟨_, c17, rfl, rfl, pt, O14, rfl⟩
def f_scroll_blanks (sg : Sto) (p0 : Option Nat) (p1 : Int) : Option (Sto × (List (Option Nat))) :=
 (iter (σ := (List (Option Nat)) × Int × Sto) (τ := ((List (Option Nat)) × Sto)) ((p1 - 0).toNat + 1) (fun s_8 =>
 if (decide (s_8.2.1 < p1)) = true then
 (f_grid_Grid_Wide s_8.2.2 p0).bind fun x_13 =>
 (f_row_New s_8.2.2 x_13).bind fun x_14 =>
 (app s_8.1 ([x_14.2] : List (Option Nat))).bind fun x_16 =>
 some (.inl (x_16, (w64 (s_8.2.1 + 1)), x_14.1))
 else
 some (.inr (s_8.1, s_8.2.2))) (([] : List (Option Nat)), 0, sg)).bind fun o_8 =>
 some (o_8.2, o_8.1)
theorem c_scroll_blanks (O0 : Own c0 G F) (R0 : Rel c0 sg G) (p0 : Option Nat) (p1 : Int) {r : Sto × (List (Option Nat))} (h2 : Pt 1 c0 v1 p0) (H : f_scroll_blanks sg p0 p1 = some r) :
    Calls Tryz.prog 210 #[v1, .int .i64 p1] c0.w (Post c0 fun c v => ∃ y1 y2, ∃ G_ : Gm, Own c G_ (es true (RP 0) y1 116 y2 r.2 :: F) ∧ Rel c r.1 G_ ∧ Adds G G_ ∧ v = y1 ∧ OA (RP 0) c y1 y2 r.2) := by
 unfold f_scroll_blanks at H
 refine en func210 rfl rfl (sr (va (.slice none 0 0) (wln (sr (va (.slice none 0 0) (wln (W.seq (sr (va (.int .i64 p1) (va (.int .i64 0) (wln (W.block (bn H fun o_8 h3 H4 => lp h3 (fun s_8 => Jn c0 fun c l => ∃ v5 u6 G_, Own c G_ (es true (RP 0) v5 116 u6 s_8.1 :: F) ∧ l = [(0, v1), (5, v5), (6, .int .i64 p1), (7, .int .i64 s_8.2.1)] ∧ Rel c s_8.2.2 G_ ∧ Adds G G_ ∧ OA (RP 0) c v5 u6 s_8.1) (fun o_8_ ex e w => ex = .exit 0 ∧ (Jn c0 fun c l => ∃ v7 u8 G_, Own c G_ (es true (RP 0) v7 116 u8 o_8_.1 :: F) ∧ l = [(5, v7)] ∧ Rel c o_8_.2 G_ ∧ Adds G G_ ∧ OA (RP 0) c v7 u8 o_8_.1) e w) ?_ ?_ ?_)))))))))))))
 ·clear H4 h3
  intro s_8 xx_ ee_ ww_ H
  revert ee_ ww_
  rintro e_ w_ ⟨c9, g10, _, rfl, l9, rfl, v5, u6, G13, O11, rfl, R14, a15, h12⟩
  refine sr (va (.bool (decide (s_8.2.1 < p1))) (wln (W.seq (cn H (fun h16 H => ?_) (fun h16 H => ?_)))))
  ·refine W.skip (nrm (W.seq (W.block (W.region (va (v5) (va (v1) (bn H fun x_13 h17 H => cl (c_grid_Grid_Wide O11 R14 p0 h2.m h17) ?_)))))))
   rintro v23 c22 l22 ⟨O19, rfl⟩
   refine bn H fun x_14 h24 H => cl (c_row_New O19 R14.m x_13 h24) ?_
   rintro v25 c31 l31 ⟨_, G27, O28, R29, a30, rfl, h26⟩
   have a33 := a15.trans a30
   obtain ⟨a34, rfl⟩ := (h26).form
   refine me (sl (RP 0) 116 [[.pointer a34]] ([x_14.2] : List (Option Nat)) O28 ⟨⟨(.pointer a34), rfl, h26⟩, trivial⟩) ?_
   rintro v39 c38 l38 ⟨u36, O35, h37⟩
   obtain ⟨c42, h43, l42, O40, h41⟩ := O35.frz 0 rfl h37
   refine WL.gh h43 (bn H fun x_16 h44 H => me (ap (RP 0) (.pointer none) 8 120 1 O40 h12.m h41 h44 underlying120) ?_)
   rintro v49 c48 l48 ⟨u46, O45, h47⟩
   refine va (v49) (WL.nil (bkn (nrm (W.region (va (.int .i64 (w64 (s_8.2.1 + 1))) (va (.int .i64 (w64 (s_8.2.1 + 1))) (WL.nil ?_)))))))
   obtain rfl := si H
   refine ⟨_, rfl, ?_⟩
   have O50 := O45.sD 2 [1]
   exact ⟨c48, _, _, rfl, pt, us, v49, u46, G27, O50, rfl, R29.m, a33, h47⟩
  refine W.exit (thx ?_)
  obtain rfl := si H
  exact ⟨_, rfl, rfl, ⟨c9, _, _, rfl, pt, us, v5, u6, G13, O11, rfl, R14, a15, h12⟩⟩
 ·have h52 : OA (RP 0) c0 (.slice none 0 0) [] [] := OA.nil (Nat.succ_pos _)
  have O51 := O0.addHole (e := es true (RP 0) (.slice none 0 0) 116 [] ([] : List (Option Nat))) rfl
  exact ⟨c0, _, _, rfl, pt, us, (.slice none 0 0), [], G, O51, rfl, R0, (Adds.refl _), h52⟩
 rintro _ e_ w_ ⟨rfl, c53, g54, _, rfl, l53, rfl, v7, u8, G57, O55, rfl, R58, a59, h56⟩
 refine bke (nrm (sr (va (v7) (va (v7) (wln (W.ret ?_))))))
 obtain rfl := si H4
 exact r1 ⟨_, c53, rfl, rfl, pt, v7, u8, G57, O55, R58, a59, rfl, h56⟩
def f_scroll_Up (sg : Sto) (p0 : Option Nat) (p1 : Int) (p2 : Int) (p3 : Int) : Option (Sto) :=
 (f_scroll_of sg p0 p1 p2 p3).bind fun x_5 =>
 if x_5.2 = true then
 (f_scroll_rows sg p0 (w64 (x_5.1.from_ + x_5.1.n)) x_5.1.to_).bind fun x_28 =>
 (f_scroll_blanks sg p0 x_5.1.n).bind fun x_29 =>
 (app x_28 x_29.2).bind fun x_30 =>
 (f_scroll_stretch_lay x_29.1 x_5.1 p0 x_30).bind fun x_31 =>
 some x_31
 else
 some sg
theorem c_scroll_Up (O0 : Own c0 G F) (R0 : Rel c0 sg G) (p0 : Option Nat) (p1 : Int) (p2 : Int) (p3 : Int) {r : Sto} (h2 : Pt 1 c0 v1 p0) (H : f_scroll_Up sg p0 p1 p2 p3 = some r) :
    Calls Tryz.prog 170 #[v1, .int .i64 p1, .int .i64 p2, .int .i64 p3] c0.w (Post c0 fun c v => ∃ G_ : Gm, Own c G_ (F) ∧ Rel c r G_ ∧ v = .tuple #[]) := by
 unfold f_scroll_Up at H
 refine en func170 rfl rfl (sr (va (v1) (va (.int .i64 p1) (va (.int .i64 p2) (va (.int .i64 p3) (bn H fun x_5 h3 H => cl (c_scroll_of O0 R0 p0 p1 p2 p3 h2 h3) ?_))))))
 rintro v9 c8 l8 ⟨O5, rfl⟩
 refine va (.tuple #[.agg #[.int .i64 x_5.1.from_, .int .i64 x_5.1.to_, .int .i64 x_5.1.n], .bool x_5.2]) (va (.agg #[.int .i64 x_5.1.from_, .int .i64 x_5.1.to_, .int .i64 x_5.1.n]) (va (.bool x_5.2) (me (al 261 [.int .i64 0, .int .i64 0, .int .i64 0] O5) ?_)))
 rintro v13 c12 l12 ⟨b10, rfl, O11⟩
 refine md (sA 261 [.int .i64 x_5.1.from_, .int .i64 x_5.1.to_, .int .i64 x_5.1.n] 0 O11 ⟨rfl, rfl, rfl, trivial⟩) ?_
 rintro c15 l15 O14
 refine va (.bool x_5.2) (wln (sr (va (.bool x_5.2) (wln (cn H (fun h16 H => ?_) (fun h16 H => ?_))))))
 ·refine rD [] (Kp G0 [⟨.pointer (some ⟨b10, 0, none⟩), 261, [.int .i64 x_5.1.from_, .int .i64 x_5.1.to_, .int .i64 x_5.1.n], 0⟩]) O14 ?_
  intro c17 l17 O18
  have p19 : Kp G0 [⟨.pointer (some ⟨b10, 0, none⟩), 261, [.int .i64 x_5.1.from_, .int .i64 x_5.1.to_, .int .i64 x_5.1.n], 0⟩] c17 := (Kp.cons (O18.on 0 rfl) Kp.nil0)
  refine tkx 0 p19 (fun c' hle hk => leN 261 0 [.int .i64 x_5.1.from_, .int .i64 x_5.1.to_, .int .i64 x_5.1.n] (hk.on 0 rfl)) (ta 1 (v1) (ta 2 (v1) (ta 3 (.pointer (some ⟨b10, 0, none⟩)) (tkx 4 p19 (fun c' hle hk => le1 0 underlying3 (hk.on 0 rfl)) (ta 5 (.pointer (some ⟨b10, 2, none⟩)) (tkx 6 p19 (fun c' hle hk => le1 2 underlying3 (hk.on 0 rfl)) (ta 7 (.int .i64 (w64 (x_5.1.from_ + x_5.1.n))) (ta 8 (.pointer (some ⟨b10, 1, none⟩)) (tkx 9 p19 (fun c' hle hk => le1 1 underlying3 (hk.on 0 rfl)) (ta 11 (v1) (ta 12 (.pointer (some ⟨b10, 2, none⟩)) (tkx 13 p19 (fun c' hle hk => le1 2 underlying3 (hk.on 0 rfl)) (bn H fun x_28 h20 H => o1 10 (gc 10 (c_scroll_rows O18 R0.m p0 (w64 (x_5.1.from_ + x_5.1.n)) x_5.1.to_ h2.m h20) ?_))))))))))))))
  rintro v21 c28 l28 ⟨_, u22, O25, rfl, h23⟩
  have p30 : Kp G0 [⟨.pointer (some ⟨b10, 0, none⟩), 261, [.int .i64 x_5.1.from_, .int .i64 x_5.1.to_, .int .i64 x_5.1.n], 0⟩] c28 := (Kp.cons (O25.on 1 rfl) Kp.nil0)
  refine ⟨.inr p30, bn H fun x_29 h31 H => o1 14 (gc 14 (c_scroll_blanks O25 R0.m p0 x_5.1.n h2.m h31) ?_)⟩
  rintro v32 c39 l39 ⟨_, u33, G35, O36, R37, a38, rfl, h34⟩
  have p41 : Kp G0 [⟨.pointer (some ⟨b10, 0, none⟩), 261, [.int .i64 x_5.1.from_, .int .i64 x_5.1.to_, .int .i64 x_5.1.n], 0⟩] c39 := (Kp.cons (O36.on 2 rfl) Kp.nil0)
  refine ⟨.inr p41, ?_⟩
  obtain ⟨c44, h45, l44, O42, h43⟩ := O36.frz 0 rfl h34
  have p46 : Kp G0 [⟨.pointer (some ⟨b10, 0, none⟩), 261, [.int .i64 x_5.1.from_, .int .i64 x_5.1.to_, .int .i64 x_5.1.n], 0⟩] c44 := (Kp.cons (O42.on 2 rfl) Kp.nil0)
  refine AC.gh h45 l44 (fun _ => p46) (bn H fun x_30 h47 H => o1 15 (gm 15 (ap (RP 0) (.pointer none) 8 120 1 O42 h23.m h43 h47 underlying120) ?_))
  rintro v52 c51 l51 ⟨u49, O48, h50⟩
  have p53 : Kp G0 [⟨.pointer (some ⟨b10, 0, none⟩), 261, [.int .i64 x_5.1.from_, .int .i64 x_5.1.to_, .int .i64 x_5.1.n], 0⟩] c51 := (Kp.cons (O48.on 2 rfl) Kp.nil0)
  refine ⟨.inr p53, ?_⟩
  obtain ⟨c56, h57, l56, O54, h55⟩ := O48.frz 1 rfl h50
  have p58 : Kp G0 [⟨.pointer (some ⟨b10, 0, none⟩), 261, [.int .i64 x_5.1.from_, .int .i64 x_5.1.to_, .int .i64 x_5.1.n], 0⟩] c56 := (Kp.cons (O54.on 2 rfl) Kp.nil0)
  refine AC.gh h57 l56 (fun _ => p58) (bn H fun x_31 h59 H => o1 16 (gc 16 (c_scroll_stretch_lay O54 R37.m x_5.1 p0 x_30 h2.m h55 h59) ?_))
  rintro v65 c64 l64 ⟨G60, O61, R62, rfl⟩
  have p66 : Kp G0 [⟨.pointer (some ⟨b10, 0, none⟩), 261, [.int .i64 x_5.1.from_, .int .i64 x_5.1.to_, .int .i64 x_5.1.n], 0⟩] c64 := (Kp.cons (O61.on 2 rfl) Kp.nil0)
  refine ⟨.inr p66, dn ?_⟩
  obtain rfl := si H
  have O67 := O61.sD 3 []
  exact n0 ⟨_, c64, rfl, rfl, pt, G60, O67, R62, rfl⟩
 refine W.skip ?_
 obtain rfl := si H
 have O68 := O14.sD 1 []
 exact n0 ⟨_, c15, rfl, rfl, pt, G, O68, R0.m, rfl⟩
def f_scroll_Down (sg : Sto) (p0 : Option Nat) (p1 : Int) (p2 : Int) (p3 : Int) : Option (Sto) :=
 (f_scroll_of sg p0 p1 p2 p3).bind fun x_5 =>
 if x_5.2 = true then
 (f_scroll_blanks sg p0 x_5.1.n).bind fun x_28 =>
 (f_scroll_rows x_28.1 p0 x_5.1.from_ (w64 (x_5.1.to_ - x_5.1.n))).bind fun x_29 =>
 (app x_28.2 x_29).bind fun x_30 =>
 (f_scroll_stretch_lay x_28.1 x_5.1 p0 x_30).bind fun x_31 =>
 (f_grid_Grid_Row x_31 p0 (w64 (x_5.1.to_ - 1))).bind fun x_37 =>
 (f_row_Row_GoOn x_31 x_37 false).bind fun x_38 =>
 some x_38
 else
 some sg
theorem c_scroll_Down (O0 : Own c0 G F) (R0 : Rel c0 sg G) (p0 : Option Nat) (p1 : Int) (p2 : Int) (p3 : Int) {r : Sto} (h2 : Pt 1 c0 v1 p0) (H : f_scroll_Down sg p0 p1 p2 p3 = some r) :
    Calls Tryz.prog 171 #[v1, .int .i64 p1, .int .i64 p2, .int .i64 p3] c0.w (Post c0 fun c v => ∃ G_ : Gm, Own c G_ (F) ∧ Rel c r G_ ∧ v = .tuple #[]) := by
 unfold f_scroll_Down at H
 refine en func171 rfl rfl (sr (va (v1) (va (.int .i64 p1) (va (.int .i64 p2) (va (.int .i64 p3) (bn H fun x_5 h3 H => cl (c_scroll_of O0 R0 p0 p1 p2 p3 h2 h3) ?_))))))
 rintro v9 c8 l8 ⟨O5, rfl⟩
 refine va (.tuple #[.agg #[.int .i64 x_5.1.from_, .int .i64 x_5.1.to_, .int .i64 x_5.1.n], .bool x_5.2]) (va (.agg #[.int .i64 x_5.1.from_, .int .i64 x_5.1.to_, .int .i64 x_5.1.n]) (va (.bool x_5.2) (me (al 261 [.int .i64 0, .int .i64 0, .int .i64 0] O5) ?_)))
 rintro v13 c12 l12 ⟨b10, rfl, O11⟩
 refine md (sA 261 [.int .i64 x_5.1.from_, .int .i64 x_5.1.to_, .int .i64 x_5.1.n] 0 O11 ⟨rfl, rfl, rfl, trivial⟩) ?_
 rintro c15 l15 O14
 refine va (.bool x_5.2) (wln (sr (va (.bool x_5.2) (wln (cn H (fun h16 H => ?_) (fun h16 H => ?_))))))
 ·refine W.seq (rD [] (Kp G0 [⟨.pointer (some ⟨b10, 0, none⟩), 261, [.int .i64 x_5.1.from_, .int .i64 x_5.1.to_, .int .i64 x_5.1.n], 0⟩]) O14 ?_)
  intro c17 l17 O18
  have p19 : Kp G0 [⟨.pointer (some ⟨b10, 0, none⟩), 261, [.int .i64 x_5.1.from_, .int .i64 x_5.1.to_, .int .i64 x_5.1.n], 0⟩] c17 := (Kp.cons (O18.on 0 rfl) Kp.nil0)
  refine tkx 0 p19 (fun c' hle hk => leN 261 0 [.int .i64 x_5.1.from_, .int .i64 x_5.1.to_, .int .i64 x_5.1.n] (hk.on 0 rfl)) (ta 1 (v1) (ta 2 (v1) (ta 3 (.pointer (some ⟨b10, 2, none⟩)) (tkx 4 p19 (fun c' hle hk => le1 2 underlying3 (hk.on 0 rfl)) (ta 6 (v1) (ta 7 (.pointer (some ⟨b10, 0, none⟩)) (tkx 8 p19 (fun c' hle hk => le1 0 underlying3 (hk.on 0 rfl)) (ta 9 (.pointer (some ⟨b10, 1, none⟩)) (tkx 10 p19 (fun c' hle hk => le1 1 underlying3 (hk.on 0 rfl)) (ta 11 (.pointer (some ⟨b10, 2, none⟩)) (tkx 12 p19 (fun c' hle hk => le1 2 underlying3 (hk.on 0 rfl)) (ta 13 (.int .i64 (w64 (x_5.1.to_ - x_5.1.n))) (bn H fun x_28 h20 H => o1 5 (gc 5 (c_scroll_blanks O18 R0.m p0 x_5.1.n h2.m h20) ?_))))))))))))))
  rintro v21 c28 l28 ⟨_, u22, G24, O25, R26, a27, rfl, h23⟩
  have p30 : Kp G0 [⟨.pointer (some ⟨b10, 0, none⟩), 261, [.int .i64 x_5.1.from_, .int .i64 x_5.1.to_, .int .i64 x_5.1.n], 0⟩] c28 := (Kp.cons (O25.on 1 rfl) Kp.nil0)
  refine ⟨.inr p30, bn H fun x_29 h31 H => o1 14 (gc 14 (c_scroll_rows O25 R26 p0 x_5.1.from_ (w64 (x_5.1.to_ - x_5.1.n)) h2.m h31) ?_)⟩
  rintro v32 c39 l39 ⟨_, u33, O36, rfl, h34⟩
  have p41 : Kp G0 [⟨.pointer (some ⟨b10, 0, none⟩), 261, [.int .i64 x_5.1.from_, .int .i64 x_5.1.to_, .int .i64 x_5.1.n], 0⟩] c39 := (Kp.cons (O36.on 2 rfl) Kp.nil0)
  refine ⟨.inr p41, ?_⟩
  obtain ⟨c44, h45, l44, O42, h43⟩ := O36.frz 0 rfl h34
  have p46 : Kp G0 [⟨.pointer (some ⟨b10, 0, none⟩), 261, [.int .i64 x_5.1.from_, .int .i64 x_5.1.to_, .int .i64 x_5.1.n], 0⟩] c44 := (Kp.cons (O42.on 2 rfl) Kp.nil0)
  refine AC.gh h45 l44 (fun _ => p46) (bn H fun x_30 h47 H => o1 15 (gm 15 (ap (RP 0) (.pointer none) 8 120 1 O42 h23.m h43 h47 underlying120) ?_))
  rintro v52 c51 l51 ⟨u49, O48, h50⟩
  have p53 : Kp G0 [⟨.pointer (some ⟨b10, 0, none⟩), 261, [.int .i64 x_5.1.from_, .int .i64 x_5.1.to_, .int .i64 x_5.1.n], 0⟩] c51 := (Kp.cons (O48.on 2 rfl) Kp.nil0)
  refine ⟨.inr p53, ?_⟩
  obtain ⟨c56, h57, l56, O54, h55⟩ := O48.frz 1 rfl h50
  have p58 : Kp G0 [⟨.pointer (some ⟨b10, 0, none⟩), 261, [.int .i64 x_5.1.from_, .int .i64 x_5.1.to_, .int .i64 x_5.1.n], 0⟩] c56 := (Kp.cons (O54.on 2 rfl) Kp.nil0)
  refine AC.gh h57 l56 (fun _ => p58) (bn H fun x_31 h59 H => o1 16 (gc 16 (c_scroll_stretch_lay O54 R26.m x_5.1 p0 x_30 h2.m h55 h59) ?_))
  rintro v65 c64 l64 ⟨G60, O61, R62, rfl⟩
  have p66 : Kp G0 [⟨.pointer (some ⟨b10, 0, none⟩), 261, [.int .i64 x_5.1.from_, .int .i64 x_5.1.to_, .int .i64 x_5.1.n], 0⟩] c64 := (Kp.cons (O61.on 2 rfl) Kp.nil0)
  refine ⟨.inr p66, dn (nrm (W.region (va (v1) (va (.pointer (some ⟨b10, 1, none⟩)) (vx (le1 1 underlying3 (O61.on 2 rfl)) (va (.int .i64 (w64 (x_5.1.to_ - 1))) (bn H fun x_37 h67 H => cl (c_grid_Grid_Row O61 R62 p0 (w64 (x_5.1.to_ - 1)) h2.m h67) ?_)))))))⟩
  rintro v68 c74 l74 ⟨_, O71, rfl, h69⟩
  refine bn H fun x_38 h76 H => cl (c_row_Row_GoOn O71 R62.m x_37 false h69 h76) ?_
  rintro v82 c81 l81 ⟨G77, O78, R79, rfl⟩
  refine WL.nil ?_
  obtain rfl := si H
  have O83 := O78.sD 3 []
  exact n0 ⟨_, c81, rfl, rfl, pt, G77, O83, R79, rfl⟩
 refine W.skip ?_
 obtain rfl := si H
 have O84 := O14.sD 1 []
 exact n0 ⟨_, c15, rfl, rfl, pt, G, O84, R0.m, rfl⟩
def f_grid_Of (sg : Sto) (p0 : List G_api_Line) : Option (Sto × (Option Nat) × Er) :=
 (orE ((p0.length : Int) == 0) (some (decide ((p0.length : Int) > 1024)))).bind fun d_7 =>
 if d_7 = true then
 some (sg, (none : Option Nat), (Er.sent 0))
 else
 (some (sg.add_grid_Grid (⟨([] : List (Option Nat))⟩ : G_grid_Grid))).bind fun s_18001 =>
 (iter (σ := Int × Sto) (τ := (Sto × (Option Nat) × Er) ⊕ Sto) (((p0.length : Int) - 0).toNat + 1) (fun s_25 =>
 if (decide (s_25.1 < (p0.length : Int))) = true then
 (idx p0 s_25.1).bind fun x_29 =>
 (f_row_Of s_25.2 x_29.Cells).bind fun x_37 =>
 ((andE x_37.2.2.isNil ((idx p0 0).bind fun x_51 =>
 (f_row_Row_Wide x_37.1 x_37.2.1).bind fun x_55 =>
 some (x_55 != (x_51.Cells.length : Int)))).bind fun d_47 =>
 if d_47 = true then
 (some ((Er.sent 0)) : Option (Er))
 else
 (some (x_37.2.2) : Option (Er))).bind fun z_44 =>
 if (!z_44.isNil) = true then
 (f_api_Wrong s_25.1 z_44).bind fun x_66 =>
 some (.inr (.inl (x_37.1, (none : Option Nat), x_66)))
 else
 (f_row_Row_GoOn x_37.1 x_37.2.1 x_29.Wrap).bind fun x_73 =>
 (x_73.grid_Grid[sg.grid_Grid.length]?).bind fun o_79 =>
 (app o_79.rows ([x_37.2.1] : List (Option Nat))).bind fun x_82 =>
 (x_73.set_grid_Grid sg.grid_Grid.length (⟨x_82⟩ : G_grid_Grid)).bind fun s_85001 =>
 some (.inl ((w64 (s_25.1 + 1)), s_85001))
 else
 some (.inr (.inr (s_25.2)))) (0, s_18001)).bind fun o_25 =>
 match o_25 with
 | .inl o_25 =>
 some o_25
 | .inr o_25 =>
 some (o_25, (some sg.grid_Grid.length), Er.nil)
theorem c_grid_Of (O0 : Own c0 G F) (R0 : Rel c0 sg G) (hG : Gl [0, 4] c0) (p0 : List G_api_Line) {r : Sto × (Option Nat) × Er} (h2 : Sl R_api_Line c0 v1 p0) (H : f_grid_Of sg p0 = some r) :
    Calls Tryz.prog 16 #[v1] c0.w (Post c0 fun c v => ∃ y1 y2, ∃ G_ : Gm, Own c G_ (F) ∧ Rel c r.1 G_ ∧ v = .tuple #[y1, y2] ∧ Pt 1 c y1 r.2.1 ∧ RE 305 179 c y2 r.2.2) := by
 unfold f_grid_Of at H
 refine en func16 rfl rfl (sr (va (.pointer none) (va (.nilIface) (wln (W.seq (W.seq (bn H fun d_7 h3 H => W.join (Jn c0 fun c l => Own c G (F) ∧ l = [(0, v1), (16, .bool d_7)]) ?_ ?_)))))))
 ·clear H
  refine W.region (va (v1) (vx (ln 3 underlying22 h2) (va (.bool ((p0.length : Int) == 0)) ?_)))
  rcases bo ((p0.length : Int) == 0) with h4 | h4
  ·obtain rfl := orT h4 h3
   exact vb h4 (ps (ps (ps (va (.bool true) (wln ⟨c0, _, _, rfl, pt, us, O0, rfl⟩)))))
  have H5 := orF h4 h3
  refine vb h4 (wn (va (v1) (wn (vx (ln 3 underlying22 h2) (wn (va (.bool (decide ((p0.length : Int) > 1024))) ?_))))))
  obtain rfl := si H5
  exact va (.bool (decide ((p0.length : Int) > 1024))) (wln ⟨c0, _, _, rfl, pt, us, O0, rfl⟩)
 rintro e_ w_ ⟨c6, g7, _, rfl, l6, rfl, O8, rfl⟩
 refine nrm (cn H (fun h12 H => ?_) (fun h12 H => ?_))
 ·refine W.seq (rD [] (Kp G0 []) O8 ?_)
  intro c13 l13 O14
  have p15 : Kp G0 [] c13 := Kp.nil0
  obtain ⟨v16, h17⟩ := (hG.mono (l6.trans l13)).get 0 (by decide)
  refine tx 0 (fun c' hle => l1 underlying37 h17.m.im) (ta 1 (.pointer none) (ta 2 (v16) (dn (nrm (W.ret (thr ?_))))))
  obtain rfl := si H
  exact r2 ⟨_, c13, rfl, rfl, pt, (.pointer none), v16, G, O14, R0.m, rfl, rfl, h17⟩
 refine W.skip (nrm (sr (va (.agg #[.slice none 0 0]) ?_)))
 have h19 : OA (RP 0) c6 (.slice none 0 0) [] [] := OA.nil (Nat.succ_pos _)
 have O18 := O8.addHole (e := es true (RP 0) (.slice none 0 0) 116 [] ([] : List (Option Nat))) rfl
 refine me (al 122 [(.slice none 0 0)] O18) ?_
 rintro v23 c22 l22 ⟨b20, rfl, O21⟩
 have O24 := O21.sD 2 [0, 1]
 refine bn H fun s_18001 h25 H => ?_
 obtain ⟨c26, G34, h27, l26, h28, O29, R30, h31, h32, a33⟩ := Rel.new_grid_Grid (E := [⟨.pointer (some ⟨b20, 0, none⟩), 122, [(.slice none 0 0)], 0⟩, es true (RP 0) (.slice none 0 0) 116 [] ([] : List (Option Nat))]) (F := F) (x := (⟨([] : List (Option Nat))⟩ : G_grid_Grid)) (b := b20) O24 (R0.mono (l6.trans l22)) (fun c_ hle_ => ⟨b20, (.slice none 0 0), [], rfl, rfl, ((h19.mono l22).mono hle_)⟩)
 rw [Option.some.inj h25] at R30
 refine WL.gh h27.1 ?_
 have h36 : Pt 1 c26 (.pointer (some ⟨b20, 0, none⟩)) (some sg.grid_Grid.length) := ⟨b20, rfl, h28⟩
 refine va (.pointer (some ⟨b20, 0, none⟩)) (wln (W.seq (sr (va (v1) (vx (ln 3 underlying22 h2.m) (va (.int .i64 0) (wln (W.block (bn H fun o_25 h37 H38 => lp h37 (fun s_25 => Jn c26 fun c l => ∃ G_, Own c G_ (F) ∧ l = [(0, v1), (4, .pointer (some ⟨b20, 0, none⟩)), (20, v1), (21, .int .i64 (p0.length : Int)), (22, .int .i64 s_25.1)] ∧ Rel c s_25.2 G_) (fun t => match t with | .inl x_ => (fun rr_ ex e w => ex = .ret ∧ (Jn c26 fun c l => ∃ v39 v40 G_, Own c G_ (F) ∧ l = [(2, v39), (3, v40)] ∧ Rel c rr_.1 G_ ∧ Pt 1 c v39 rr_.2.1 ∧ RE 305 179 c v40 rr_.2.2) e w) x_ | .inr x_ => (fun o_25_ ex e w => ex = .exit 0 ∧ (Jn c26 fun c l => ∃ G_, Own c G_ (F) ∧ l = [(4, .pointer (some ⟨b20, 0, none⟩))] ∧ Rel c o_25_ G_) e w) x_) ?_ ?_ ?_)))))))))
 ·clear H38 h37
  intro s_25 xx_ ee_ ww_ H
  revert ee_ ww_
  rintro e_ w_ ⟨c41, g42, _, rfl, l41, rfl, G44, O43, rfl, R45⟩
  refine sr (va (.bool (decide (s_25.1 < (p0.length : Int)))) (wln (W.seq (cn H (fun h47 H => ?_) (fun h47 H => ?_)))))
  ·refine W.skip (nrm (W.seq (W.block (sr (va (.int .i64 s_25.1) (bn H fun x_29 h48 H => ?_))))))
   obtain ⟨l_49, h50, m51⟩ := Sl.at (h2.mono (l6.trans (l22.trans (l26.trans l41)))) (idx_get h48)
   obtain ⟨v52, rfl, h53⟩ := h50
   refine vx (ix underlying22 h2.m h48) (vx (lN 71 m51) (me (al 71 [.slice none 0 0, .bool false] O43) ?_))
   rintro v57 c56 l56 ⟨b54, rfl, O55⟩
   refine va (.int .i64 s_25.1) ?_
   obtain ⟨a58, a59, a60, rfl⟩ := ((h53.mono l56)).form
   refine md (sA 71 [.slice a58 a59 a60, .bool x_29.Wrap] 0 O55 ⟨h53.m.one, rfl, trivial⟩) ?_
   rintro c62 l62 O61
   refine wln (sr (va (.pointer (some ⟨b54, 0, none⟩)) (vx (le1 0 underlying69 (O61.on 0 rfl)) (bn H fun x_37 h63 H => cl (c_row_Of O61 R45.m (hG.m.le (by decide)) x_29.Cells h53.m h63) ?_))))
   rintro v73 c72 l72 ⟨v64, v66, G68, O69, R70, rfl, h65, h67⟩
   refine va (.tuple #[v64, v66]) (va (v64) (va (v66) (va (v64) (va (v66) (wln (bn H fun z_44 H74 H75 => W.seqJ (Jn c72 fun c l => ∃ v76, Own c G68 (⟨.pointer (some ⟨b54, 0, none⟩), 71, [.slice a58 a59 a60, .bool x_29.Wrap], 0⟩ :: F) ∧ l = [(0, v1), (4, .pointer (some ⟨b20, 0, none⟩)), (5, .int .i64 s_25.1), (6, .pointer (some ⟨b54, 0, none⟩)), (7, v64), (8, v76), (20, v1), (21, .int .i64 (p0.length : Int)), (22, .int .i64 s_25.1)] ∧ RE 305 179 c v76 z_44) ?_ ?_))))))
   ·refine W.seq (bn H74 fun d_47 h77 H74 => W.join (Jn c72 fun c l => Own c G68 (⟨.pointer (some ⟨b54, 0, none⟩), 71, [.slice a58 a59 a60, .bool x_29.Wrap], 0⟩ :: F) ∧ l = [(0, v1), (4, .pointer (some ⟨b20, 0, none⟩)), (5, .int .i64 s_25.1), (6, .pointer (some ⟨b54, 0, none⟩)), (7, v64), (8, v66), (20, v1), (21, .int .i64 (p0.length : Int)), (22, .int .i64 s_25.1), (44, .bool d_47)]) ?_ ?_)
    ·clear H74
     refine rD [] (Kp G0 []) O69 ?_
     intro c78 l78 O79
     have p80 : Kp G0 [] c78 := Kp.nil0
     refine ta 0 (v66) (AC.take 1 (.bool x_37.2.2.isNil) rfl (by kernel_rfl) (by kernel_rfl) (fun c' hle => (by rcases h67.m.cs with ⟨h1_, h2_⟩ | ⟨b_, h1_, h2_⟩ | ⟨b_, h1_, h2_⟩ <;> (subst h1_; rw [h2_]; kernel_rfl))) ?_)
     rcases bo (x_37.2.2.isNil) with h81 | h81
     ·have H82 := anT h81 h77
      refine bn H82 fun x_51 h83 H82 => bn H82 fun x_55 h84 H82 => AC.takeb 2 h81 rfl (by kernel_rfl) (by kernel_rfl) (fun c' hle => (by kernel_rfl)) (ta 3 (v64) (ta 5 (v1) ?_))
      obtain ⟨l_85, h86, m87⟩ := Sl.at (h2.mono (l6.trans (l22.trans (l26.trans (l41.trans (l56.trans (l62.trans (l72.trans l78)))))))) (idx_get h83)
      obtain ⟨v88, rfl, h89⟩ := h86
      refine tx 6 (fun c' hle => ix underlying22 h2.m h83) (ta 7 (.pointer (some ⟨sb v1, so v1 + (0 : Int).toNat * 2, none⟩)) (tx 8 (fun c' hle => l1 underlying69 ((mm m87) 0 _ rfl)) (tx 9 (fun c' hle => ln 3 underlying69 h89) (o1 4 (gc 4 (c_row_Row_Wide O79 R70.m x_37.2.1 h65.m h84) ?_)))))
      rintro v95 c94 l94 ⟨O91, rfl⟩
      have p96 : Kp G0 [] c94 := Kp.nil0
      refine ⟨.inr p96, ta 10 (.bool (x_55 != (x_51.Cells.length : Int))) ?_⟩
      obtain rfl := si H82
      exact ta 11 (.bool (x_55 != (x_51.Cells.length : Int))) (dn (nrm ⟨c94, _, _, rfl, pt, us, O91, rfl⟩))
     obtain rfl := anF h81 h77
     exact AC.takeb 2 h81 rfl (by kernel_rfl) (by kernel_rfl) (fun c' hle => (by kernel_rfl)) (tp 3 (tp 5 (tp 6 (tp 7 (tp 8 (tp 9 (tp 4 (tp 10 (ta 11 (.bool false) (dn (nrm ⟨c78, _, _, rfl, pt, us, O79, rfl⟩)))))))))))
    rintro e_ w_ ⟨c97, g98, _, rfl, l97, rfl, O99, rfl⟩
    refine nrm (cn H74 (fun h103 H74 => ?_) (fun h103 H74 => ?_))
    ·refine W.region ?_
     obtain ⟨v104, h105⟩ := (hG.mono (l6.trans (l22.trans (l26.trans (l41.trans (l56.trans (l62.trans (l72.trans l97)))))))).get 0 (by decide)
     refine vx (l1 underlying37 h105.im) (va (v104) (wln ?_))
     obtain rfl := si H74
     exact ⟨c97, _, _, rfl, pt, us, v104, O99, rfl, h105⟩
    refine W.skip (nrm ?_)
    obtain rfl := si H74
    exact ⟨c97, _, _, rfl, pt, us, v66, O99, rfl, h67.m⟩
   rintro e_ w_ ⟨c106, g107, _, rfl, l106, rfl, v76, O108, rfl, h109⟩
   refine W.seq (sr (va (v76) (vr (.bool (!z_44.isNil)) (by rcases (h109).cs with ⟨h1_, h2_⟩ | ⟨b_, h1_, h2_⟩ | ⟨b_, h1_, h2_⟩ <;> (subst h1_; rw [h2_]; kernel_rfl)) (wln (cn H75 (fun h113 H75 => ?_) (fun h113 H75 => ?_))))))
   ·refine sr (va (.int .i64 s_25.1) (va (v76) (bn H75 fun x_66 h114 H75 => cl (c_api_Wrong O108 s_25.1 z_44 h109 h114) ?_)))
    rintro v115 c121 l121 ⟨_, O118, rfl, h116⟩
    refine va (.pointer none) (va (v115) (wln (W.ret (thr (bkr (thr ?_))))))
    obtain rfl := si H75
    refine ⟨_, rfl, ⟨rfl, ?_⟩⟩
    have O123 := O118.sD 1 []
    exact ⟨c121, _, _, rfl, pt, us, (.pointer none), v115, G68, O123, rfl, R70.m, rfl, h116⟩
   refine W.skip (nrm (sr (va (v64) (va (.pointer (some ⟨b54, 1, none⟩)) (vx (le1 1 underlying4 (O108.on 0 rfl)) (bn H75 fun x_73 h124 H75 => cl (c_row_Row_GoOn O108 R70.m x_37.2.1 x_29.Wrap h65.m h124) ?_))))))
   rintro v130 c129 l129 ⟨G125, O126, R127, rfl⟩
   refine wln (W.region (va (.pointer (some ⟨b20, 0, none⟩)) (va (.pointer (some ⟨b20, 0, none⟩)) (va (.pointer (some ⟨b20, 0, none⟩)) (va (.pointer (some ⟨b20, 0, none⟩)) (bn H75 fun o_79 h131 H75 => ?_))))))
   obtain ⟨v132, u133, h135, h134⟩ := Rel.open_grid_Grid R127 h131 (tm h28)
   refine vx (le1 0 underlying120 (O126.gon h135 0 rfl)) (va (v64) ?_)
   obtain ⟨a136, rfl⟩ := ((h65.mono (l106.trans l129))).form
   refine me (sl (RP 0) 116 [[.pointer a136]] ([x_37.2.1] : List (Option Nat)) O126 ⟨⟨(.pointer a136), rfl, h65.m⟩, trivial⟩) ?_
   rintro v141 c140 l140 ⟨u138, O137, h139⟩
   obtain ⟨c144, h145, l144, O142, h143⟩ := O137.frz 0 rfl h139
   refine WL.gh h145 (bn H75 fun x_82 h146 H75 => ?_)
   have O147 := O142.borrow 1 h135 rfl
   refine me (ap (RP 0) (.pointer none) 8 120 0 O147 h134.m h143 h146 underlying120) ?_
   rintro v152 c151 l151 ⟨u149, O148, h150⟩
   have O153 := O148.giveB 1 rfl
   refine va (.pointer (some ⟨b20, 0, none⟩)) (va (.pointer (some ⟨b20, 0, none⟩)) ?_)
   obtain ⟨a154, a155, a156, rfl⟩ := (h150).form
   refine md (Own.stGB (T := 120) (j := 0) (us := [.slice a154 a155 a156]) (nw := [.slice a154 a155 a156]) (v := .slice a154 a155 a156) 0 O153 (by kernel_rfl) rfl rfl rfl rfl (by kernel_rfl) ⟨(h150).one, trivial⟩ (by kernel_rfl) rfl) ?_
   rintro c159 l159 O158
   refine bn H75 fun s_85001 h164 H75 => ?_
   obtain ⟨G160, O161, R162, h163, a165⟩ := Rel.put_grid_Grid O158 (R127.mono (l140.trans (l144.trans (l151.trans l159)))) (E' := [⟨.pointer (some ⟨b20, 0, none⟩), 122, [.slice a154 a155 a156], 0⟩, es true (RP 0) (.slice a154 a155 a156) 116 u149 x_82]) h164 ⟨b20, (.slice a154 a155 a156), u149, ((l41.trans (l56.trans (l62.trans (l72.trans (l106.trans (l129.trans (l140.trans (l144.trans (l151.trans l159))))))))).t _ _ _ h28), rfl, (h150.mono l159)⟩
   refine WL.nil (bkn (nrm (W.region (va (.int .i64 (w64 (s_25.1 + 1))) (va (.int .i64 (w64 (s_25.1 + 1))) (WL.nil ?_))))))
   obtain rfl := si H75
   refine ⟨_, rfl, ?_⟩
   have O166 := O161.sD 2 []
   exact ⟨c159, _, _, rfl, pt, us, G160, O166, rfl, R162⟩
  refine W.exit (thx ?_)
  obtain rfl := si H
  exact ⟨_, rfl, rfl, ⟨c41, _, _, rfl, pt, us, G44, O43, rfl, R45⟩⟩
 ·exact ⟨c26, _, _, rfl, pt, us, G34, O29, rfl, R30⟩
 rcases o_25 with o_25 | o_25
 ·intro ex_; revert ex_
  rintro _ e_ w_ ⟨rfl, c167, g168, _, rfl, l167, rfl, v39, v40, G172, O169, rfl, R173, h170, h171⟩
  refine bkr (thr ?_)
  obtain rfl := si H38
  exact r2 ⟨_, c167, rfl, rfl, pt, v39, v40, G172, O169, R173, rfl, h170, h171⟩
 rintro _ e_ w_ ⟨rfl, c175, g176, _, rfl, l175, rfl, G178, O177, rfl, R179⟩
 refine bke (nrm (sr (va (.pointer (some ⟨b20, 0, none⟩)) (va (.pointer (some ⟨b20, 0, none⟩)) (va (.nilIface) (wln (W.ret ?_)))))))
 obtain rfl := si H38
 exact r2 ⟨_, c175, rfl, rfl, pt, (.pointer (some ⟨b20, 0, none⟩)), .nilIface, G178, O177, R179, rfl, h36.m, rfl⟩
def f_grid_Grid_Lines (sg : Sto) (p0 : Option Nat) : Option (List G_api_Line) :=
 (f_grid_Grid_High sg p0).bind fun x_6 =>
 (iter (σ := (List G_api_Line) × Int) (τ := (List G_api_Line)) ((x_6 - 0).toNat + 1) (fun s_9 =>
 if (decide (s_9.2 < x_6)) = true then
 (p0).bind fun k_17 =>
 (sg.grid_Grid[k_17]?).bind fun o_19 =>
 (idx o_19.rows s_9.2).bind fun x_21 =>
 (idx o_19.rows s_9.2).bind fun x_28 =>
 (f_row_Row_Cells sg x_21).bind fun x_30 =>
 (f_row_Row_Wrap sg x_28).bind fun x_31 =>
 (app s_9.1 ([(⟨x_30, x_31⟩ : G_api_Line)] : List G_api_Line)).bind fun x_34 =>
 some (.inl (x_34, (w64 (s_9.2 + 1))))
 else
 some (.inr (s_9.1))) (([] : List G_api_Line), 0)).bind fun o_9 =>
 some o_9
theorem c_grid_Grid_Lines (O0 : Own c0 G F) (R0 : Rel c0 sg G) (p0 : Option Nat) {r : List G_api_Line} (h2 : Pt 1 c0 v1 p0) (H : f_grid_Grid_Lines sg p0 = some r) :
    Calls Tryz.prog 35 #[v1] c0.w (Post c0 fun c v => ∃ y1 y2, Own c G (es true R_api_Line y1 71 y2 r :: F) ∧ v = y1 ∧ OA R_api_Line c y1 y2 r) := by
 unfold f_grid_Grid_Lines at H
 refine en func35 rfl rfl (sr (va (.slice none 0 0) (wln (sr (va (.slice none 0 0) (wln (W.seq (sr (va (v1) (bn H fun x_6 h3 H => cl (c_grid_Grid_High O0 R0 p0 h2 h3) ?_))))))))))
 rintro v9 c8 l8 ⟨O5, rfl⟩
 refine va (.int .i64 0) (wln (W.block (bn H fun o_9 h10 H11 => lp h10 (fun s_9 => Jn c8 fun c l => ∃ v12 u13, Own c G (es true R_api_Line v12 71 u13 s_9.1 :: F) ∧ l = [(0, v1), (3, v12), (6, .int .i64 x_6), (7, .int .i64 s_9.2)] ∧ OA R_api_Line c v12 u13 s_9.1) (fun o_9_ ex e w => ex = .exit 0 ∧ (Jn c8 fun c l => ∃ v14 u15, Own c G (es true R_api_Line v14 71 u15 o_9_ :: F) ∧ l = [(3, v14)] ∧ OA R_api_Line c v14 u15 o_9_) e w) ?_ ?_ ?_)))
 ·clear H11 h10
  intro s_9 xx_ ee_ ww_ H
  revert ee_ ww_
  rintro e_ w_ ⟨c16, g17, _, rfl, l16, rfl, v12, u13, O18, rfl, h19⟩
  refine sr (va (.bool (decide (s_9.2 < x_6))) (wln (W.seq (cn H (fun h23 H => ?_) (fun h23 H => ?_)))))
  ·refine W.skip (nrm (W.seq (W.block (sr (va (.int .i64 s_9.2) (va (.int .i64 s_9.2) (wln (rD [] (Kp G []) O18 ?_))))))))
   intro c24 l24 O25
   have p26 : Kp G [] c24 := (Kp.nil O25)
   refine ta 0 (v12) (ta 1 (v1) (bn H fun k_17 h29 H => ?_))
   obtain ⟨b27, rfl, h28⟩ := ((h2.mono (l8.trans (l16.trans l24)))).get h29
   refine ta 2 (.pointer (some ⟨b27, 0, none⟩)) (ta 3 (.pointer (some ⟨b27, 0, none⟩)) (bn H fun o_19 h30 H => ?_))
   obtain ⟨v31, u32, h34, h33⟩ := Rel.open_grid_Grid (R0.mono (l8.trans (l16.trans l24))) h30 h28
   refine tkx 4 p26 (fun c' hle hk => le1 0 underlying120 (hk.gon h34 0 rfl)) (ta 5 (.int .i64 s_9.2) (bn H fun x_21 h35 H => tx 6 (fun c' hle => ixO underlying120 h33 h35) ?_))
   obtain ⟨l_36, h37, m38⟩ := OA.at h33 h35
   obtain ⟨v39, rfl, h40⟩ := h37
   refine AC.takeK 7 (v39) p26 rfl (by kernel_rfl) (by kernel_rfl) (by kernel_rfl) (fun c' hle hk => (rx (by kernel_rfl) (ldE1 underlying116 rfl (hk.gon h34 1 rfl) (h33.blk h35) (at1 (j := 0) m38 rfl)))) (ta 9 (.pointer (some ⟨b27, 0, none⟩)) (ta 10 (.pointer (some ⟨b27, 0, none⟩)) (ta 11 (.pointer (some ⟨b27, 0, none⟩)) (tkx 12 p26 (fun c' hle hk => le1 0 underlying120 (hk.gon h34 0 rfl)) (ta 13 (.int .i64 s_9.2) (bn H fun x_28 h41 H => tx 14 (fun c' hle => ixO underlying120 h33 h41) ?_))))))
   obtain ⟨l_42, h43, m44⟩ := OA.at h33 h41
   obtain ⟨v45, rfl, h46⟩ := h43
   refine AC.takeK 15 (v45) p26 rfl (by kernel_rfl) (by kernel_rfl) (by kernel_rfl) (fun c' hle hk => (rx (by kernel_rfl) (ldE1 underlying116 rfl (hk.gon h34 1 rfl) (h33.blk h41) (at1 (j := 0) m44 rfl)))) (bn H fun x_30 h47 H => o1 8 (gc 8 (c_row_Row_Cells O25 R0.m x_21 h40 h47) ?_))
   rintro v48 c55 l55 ⟨_, u49, O52, rfl, h50⟩
   have p57 : Kp G [] c55 := (Kp.nil O52)
   refine ⟨.inr p57, bn H fun x_31 h58 H => o1 16 (gc 16 (c_row_Row_Wrap O52 R0.m x_28 h46.m h58) ?_)⟩
   rintro v64 c63 l63 ⟨O60, rfl⟩
   have p65 : Kp G [] c63 := (Kp.nil O60)
   refine ⟨.inr p65, ?_⟩
   obtain ⟨a66, a67, a68, rfl⟩ := ((h50.mono l63)).form
   refine ta 17 (.agg #[.slice a66 a67 a68, .bool x_31]) ?_
   obtain ⟨c71, h72, l71, O69, h70⟩ := O60.frz 0 rfl (h50.mono l63)
   have p73 : Kp G [] c71 := (Kp.nil O69)
   refine AC.gh h72 l71 (fun _ => p73) (o1 18 (gm 18 (sl R_api_Line 71 [[.slice a66 a67 a68, .bool x_31]] ([(⟨x_30, x_31⟩ : G_api_Line)] : List G_api_Line) O69 ⟨⟨(.slice a66 a67 a68), rfl, h70⟩, trivial⟩) ?_))
   rintro v78 c77 l77 ⟨u75, O74, h76⟩
   have p79 : Kp G [] c77 := (Kp.nil O74)
   refine ⟨.inr p79, ?_⟩
   obtain ⟨c82, h83, l82, O80, h81⟩ := O74.frz 0 rfl h76
   have p84 : Kp G [] c82 := (Kp.nil O80)
   refine AC.gh h83 l82 (fun _ => p84) (bn H fun x_34 h85 H => o1 19 (gm 19 (ap R_api_Line (.agg #[.slice none 0 0, .bool false]) 32 22 2 O80 h19.m h81 h85 underlying22) ?_))
   rintro v90 c89 l89 ⟨u87, O86, h88⟩
   have p91 : Kp G [] c89 := (Kp.nil O86)
   refine ⟨.inr p91, ta 20 (v90) (dn (bkn (nrm (W.region (va (.int .i64 (w64 (s_9.2 + 1))) (va (.int .i64 (w64 (s_9.2 + 1))) (WL.nil ?_)))))))⟩
   obtain rfl := si H
   refine ⟨_, rfl, ?_⟩
   have O92 := O86.sD 3 [2]
   exact ⟨c89, _, _, rfl, pt, us, v90, u87, O92, rfl, h88⟩
  refine W.exit (thx ?_)
  obtain rfl := si H
  exact ⟨_, rfl, rfl, ⟨c16, _, _, rfl, pt, us, v12, u13, O18, rfl, h19⟩⟩
 ·have h94 : OA R_api_Line c8 (.slice none 0 0) [] [] := OA.nil (Nat.succ_pos _)
  have O93 := O5.addHole (e := es true R_api_Line (.slice none 0 0) 71 [] ([] : List G_api_Line)) rfl
  exact ⟨c8, _, _, rfl, pt, us, (.slice none 0 0), [], O93, rfl, h94⟩
 rintro _ e_ w_ ⟨rfl, c95, g96, _, rfl, l95, rfl, v14, u15, O97, rfl, h98⟩
 refine bke (nrm (sr (va (v14) (va (v14) (wln (W.ret ?_))))))
 obtain rfl := si H11
 exact r1 ⟨_, c95, rfl, rfl, pt, v14, u15, O97, rfl, h98⟩
def f_linotyperef32_Same (p0 : List G_api_Line) (p1 : List G_api_Line) : Option (Bool) :=
 if ((p0.length : Int) != (p1.length : Int)) = true then
 some false
 else
 (iter (σ := Int) (τ := Bool ⊕ Unit) (((p0.length : Int) - 0).toNat + 1) (fun s_13 =>
 if (decide (s_13 < (p0.length : Int))) = true then
 (idx p0 s_13).bind fun x_21 =>
 (idx p1 s_13).bind fun x_26 =>
 (orE (!(x_21.Wrap == x_26.Wrap)) ((idx p0 s_13).bind fun x_34 =>
 (idx p1 s_13).bind fun x_39 =>
 (f_linotyperef23_Same x_34.Cells x_39.Cells).bind fun x_42 =>
 some (!x_42))).bind fun d_30 =>
 if d_30 = true then
 some (.inr (.inl false))
 else
 some (.inl ((w64 (s_13 + 1))))
 else
 some (.inr (.inr ()))) (0)).bind fun o_13 =>
 match o_13 with
 | .inl o_13 =>
 some o_13
 | .inr o_13 =>
 some true
theorem c_linotyperef32_Same (O0 : Own c0 G F) (p0 : List G_api_Line) (p1 : List G_api_Line) {r : Bool} (h2 : Sl R_api_Line c0 v1 p0) (h4 : Sl R_api_Line c0 v3 p1) (H : f_linotyperef32_Same p0 p1 = some r) :
    Calls Tryz.prog 89 #[v1, v3] c0.w (Post c0 fun c v => Own c G (F) ∧ v = .bool r) := by
 unfold f_linotyperef32_Same at H
 refine en func89 rfl rfl (sr (va (.bool false) (wln (W.seq (sr (va (v1) (vx (ln 3 underlying22 h2) (va (v3) (vx (ln 3 underlying22 h4) (va (.bool ((p0.length : Int) != (p1.length : Int))) (wln (cn H (fun h5 H => ?_) (fun h5 H => ?_)))))))))))))
 ·refine sr (va (.bool false) (wln (W.ret (thr ?_))))
  obtain rfl := si H
  exact r1 ⟨_, c0, rfl, rfl, pt, O0, rfl⟩
 refine W.skip (nrm (W.seq (sr (va (.int .i64 0) (wln (W.block (bn H fun o_13 h6 H7 => lp h6 (fun s_13 => Jn c0 fun c l => Own c G (F) ∧ l = [(0, v1), (1, v3), (5, .int .i64 s_13)]) (fun t => match t with | .inl x_ => (fun rr_ ex e w => ex = .ret ∧ (Jn c0 fun c l => Own c G (F) ∧ l = [(4, .bool rr_)]) e w) x_ | .inr x_ => (fun o_13_ ex e w => ex = .exit 0 ∧ (Jn c0 fun c l => Own c G (F) ∧ l = []) e w) x_) ?_ ?_ ?_)))))))
 ·clear H7 h6
  intro s_13 xx_ ee_ ww_ H
  revert ee_ ww_
  rintro e_ w_ ⟨c8, g9, _, rfl, l8, rfl, O10, rfl⟩
  refine W.seq (sr (va (.int .i64 s_13) (va (v1) (vx (ln 3 underlying22 h2.m) (va (.bool (decide (s_13 < (p0.length : Int)))) (wln (cn H (fun h14 H => ?_) (fun h14 H => ?_))))))))
  ·refine W.skip (nrm (W.seq (W.block (W.seq (bn H fun x_21 h15 H => bn H fun x_26 h16 H => bn H fun d_30 h17 H => W.join (Jn c8 fun c l => Own c G (F) ∧ l = [(0, v1), (1, v3), (5, .int .i64 s_13), (41, .bool d_30)]) ?_ ?_)))))
   ·clear H
    refine rD [] (Kp G0 []) O10 ?_
    intro c18 l18 O19
    have p20 : Kp G0 [] c18 := Kp.nil0
    refine ta 0 (v1) (ta 1 (.int .i64 s_13) ?_)
    obtain ⟨l_21, h22, m23⟩ := Sl.at (h2.mono (l8.trans l18)) (idx_get h15)
    obtain ⟨v24, rfl, h25⟩ := h22
    refine tx 2 (fun c' hle => ix underlying22 h2.m h15) (ta 3 (.pointer (some ⟨sb v1, so v1 + s_13.toNat * 2 + 1, none⟩)) (tx 4 (fun c' hle => l1 underlying4 ((mm m23) 1 _ rfl)) (ta 5 (v3) (ta 6 (.int .i64 s_13) ?_))))
    obtain ⟨l_26, h27, m28⟩ := Sl.at (h4.mono (l8.trans l18)) (idx_get h16)
    obtain ⟨v29, rfl, h30⟩ := h27
    refine tx 7 (fun c' hle => ix underlying22 h4.m h16) (ta 8 (.pointer (some ⟨sb v3, so v3 + s_13.toNat * 2 + 1, none⟩)) (tx 9 (fun c' hle => l1 underlying4 ((mm m28) 1 _ rfl)) (ta 10 (.bool (!(x_21.Wrap == x_26.Wrap))) ?_)))
    rcases bo (!(x_21.Wrap == x_26.Wrap)) with h31 | h31
    ·obtain rfl := orT h31 h17
     exact AC.takeb 11 h31 rfl (by kernel_rfl) (by kernel_rfl) (fun c' hle => (by kernel_rfl)) (tp 12 (tp 13 (tp 14 (tp 15 (tp 16 (tp 17 (tp 18 (tp 19 (tp 20 (tp 21 (tp 22 (tp 23 (ta 24 (.bool true) (dn (nrm ⟨c18, _, _, rfl, pt, us, O19, rfl⟩)))))))))))))))
    have H32 := orF h31 h17
    refine bn H32 fun x_34 h33 H32 => bn H32 fun x_39 h34 H32 => bn H32 fun x_42 h35 H32 => AC.takeb 11 h31 rfl (by kernel_rfl) (by kernel_rfl) (fun c' hle => (by kernel_rfl)) (ta 12 (v1) (ta 13 (.int .i64 s_13) ?_))
    obtain ⟨l_36, h37, m38⟩ := Sl.at (h2.mono (l8.trans l18)) (idx_get h33)
    obtain ⟨v39, rfl, h40⟩ := h37
    refine tx 14 (fun c' hle => ix underlying22 h2.m h33) (ta 15 (.pointer (some ⟨sb v1, so v1 + s_13.toNat * 2, none⟩)) (tx 16 (fun c' hle => l1 underlying69 ((mm m38) 0 _ rfl)) (ta 17 (v3) (ta 18 (.int .i64 s_13) ?_))))
    obtain ⟨l_41, h42, m43⟩ := Sl.at (h4.mono (l8.trans l18)) (idx_get h34)
    obtain ⟨v44, rfl, h45⟩ := h42
    refine tx 19 (fun c' hle => ix underlying22 h4.m h34) (ta 20 (.pointer (some ⟨sb v3, so v3 + s_13.toNat * 2, none⟩)) (tx 21 (fun c' hle => l1 underlying69 ((mm m43) 0 _ rfl)) (o1 22 (gc 22 (c_linotyperef23_Same O19 x_34.Cells x_39.Cells h40 h45 h35) ?_))))
    rintro v51 c50 l50 ⟨O47, rfl⟩
    have p52 : Kp G0 [] c50 := Kp.nil0
    refine ⟨.inr p52, ta 23 (.bool (!x_42)) ?_⟩
    obtain rfl := si H32
    exact ta 24 (.bool (!x_42)) (dn (nrm ⟨c50, _, _, rfl, pt, us, O47, rfl⟩))
   rintro e_ w_ ⟨c53, g54, _, rfl, l53, rfl, O55, rfl⟩
   refine nrm (cn H (fun h59 H => ?_) (fun h59 H => ?_))
   ·refine sr (va (.bool false) (wln (W.ret (bkr (thr ?_)))))
    obtain rfl := si H
    exact ⟨_, rfl, ⟨rfl, ⟨c53, _, _, rfl, pt, us, O55, rfl⟩⟩⟩
   refine W.skip (bkn (nrm (W.region (va (.int .i64 s_13) (va (.int .i64 (w64 (s_13 + 1))) (va (.int .i64 (w64 (s_13 + 1))) (WL.nil ?_)))))))
   obtain rfl := si H
   exact ⟨_, rfl, ⟨c53, _, _, rfl, pt, us, O55, rfl⟩⟩
  refine W.exit (thx ?_)
  obtain rfl := si H
  exact ⟨_, rfl, rfl, ⟨c8, _, _, rfl, pt, us, O10, rfl⟩⟩
 ·exact ⟨c0, _, _, rfl, pt, us, O0, rfl⟩
 rcases o_13 with o_13 | o_13
 ·intro ex_; revert ex_
  rintro _ e_ w_ ⟨rfl, c60, g61, _, rfl, l60, rfl, O62, rfl⟩
  refine bkr (thr ?_)
  obtain rfl := si H7
  exact r1 ⟨_, c60, rfl, rfl, pt, O62, rfl⟩
 rintro _ e_ w_ ⟨rfl, c66, g67, _, rfl, l66, rfl, O68, rfl⟩
 refine bke (nrm (sr (va (.bool true) (wln (W.ret ?_)))))
 obtain rfl := si H7
 exact r1 ⟨_, c66, rfl, rfl, pt, O68, rfl⟩
def f_linotyperef32_Wrong (p0 : List G_api_Line) : Option (Int × Int) :=
 (iter (σ := Int) (τ := (Int × Int) ⊕ Unit) (((p0.length : Int) - 0).toNat + 1) (fun s_6 =>
 if (decide (s_6 < (p0.length : Int))) = true then
 (idx p0 s_6).bind fun x_14 =>
 (orE ((x_14.Cells.length : Int) == 0) (some (decide ((x_14.Cells.length : Int) > 1024)))).bind fun d_22 =>
 if d_22 = true then
 some (.inr (.inl (s_6, 3)))
 else
 (idx p0 s_6).bind fun x_33 =>
 (f_linotyperef23_Sound x_33.Cells).bind fun x_36 =>
 if (!x_36) = true then
 some (.inr (.inl (s_6, 5)))
 else
 (idx p0 0).bind fun x_45 =>
 if ((x_14.Cells.length : Int) != (x_45.Cells.length : Int)) = true then
 some (.inr (.inl (s_6, 3)))
 else
 some (.inl ((w64 (s_6 + 1))))
 else
 some (.inr (.inr ()))) (0)).bind fun o_6 =>
 match o_6 with
 | .inl o_6 =>
 some o_6
 | .inr o_6 =>
 some ((-1), 0)
theorem c_linotyperef32_Wrong (O0 : Own c0 G F) (p0 : List G_api_Line) {r : Int × Int} (h2 : Sl R_api_Line c0 v1 p0) (H : f_linotyperef32_Wrong p0 = some r) :
    Calls Tryz.prog 13 #[v1] c0.w (Post c0 fun c v => Own c G (F) ∧ v = .tuple #[.int .i64 r.1, .int .i64 r.2]) := by
 unfold f_linotyperef32_Wrong at H
 refine en func13 rfl rfl (sr (va (.int .i64 0) (va (.int .i64 0) (wln (W.seq (sr (va (.int .i64 0) (wln (W.block (bn H fun o_6 h3 H4 => lp h3 (fun s_6 => Jn c0 fun c l => Own c G (F) ∧ l = [(0, v1), (4, .int .i64 s_6)]) (fun t => match t with | .inl x_ => (fun rr_ ex e w => ex = .ret ∧ (Jn c0 fun c l => Own c G (F) ∧ l = [(2, .int .i64 rr_.1), (3, .int .i64 rr_.2)]) e w) x_ | .inr x_ => (fun o_6_ ex e w => ex = .exit 0 ∧ (Jn c0 fun c l => Own c G (F) ∧ l = []) e w) x_) ?_ ?_ ?_))))))))))
 ·clear H4 h3
  intro s_6 xx_ ee_ ww_ H
  revert ee_ ww_
  rintro e_ w_ ⟨c5, g6, _, rfl, l5, rfl, O7, rfl⟩
  refine W.seq (sr (va (.int .i64 s_6) (va (v1) (vx (ln 3 underlying22 h2.m) (va (.bool (decide (s_6 < (p0.length : Int)))) (wln (cn H (fun h11 H => ?_) (fun h11 H => ?_))))))))
  ·refine W.skip (nrm (W.seq (W.block (sr (va (v1) (va (.int .i64 s_6) (bn H fun x_14 h12 H => ?_)))))))
   obtain ⟨l_13, h14, m15⟩ := Sl.at (h2.mono l5) (idx_get h12)
   obtain ⟨v16, rfl, h17⟩ := h14
   refine vx (ix underlying22 h2.m h12) (va (.pointer (some ⟨sb v1, so v1 + s_6.toNat * 2, none⟩)) (vx (l1 underlying69 (m15 0 _ rfl)) (vx (ln 3 underlying69 h17) (va (.int .i64 (x_14.Cells.length : Int)) (wln (W.seq (W.seq (bn H fun d_22 h18 H => W.join (Jn c5 fun c l => Own c G (F) ∧ l = [(0, v1), (4, .int .i64 s_6), (5, .int .i64 (x_14.Cells.length : Int)), (23, .bool d_22)]) ?_ ?_))))))))
   ·clear H
    refine W.region (va (.int .i64 (x_14.Cells.length : Int)) (va (.bool ((x_14.Cells.length : Int) == 0)) ?_))
    rcases bo ((x_14.Cells.length : Int) == 0) with h19 | h19
    ·obtain rfl := orT h19 h18
     exact vb h19 (ps (ps (va (.bool true) (wln ⟨c5, _, _, rfl, pt, us, O7, rfl⟩))))
    have H20 := orF h19 h18
    refine vb h19 (wn (va (.int .i64 (x_14.Cells.length : Int)) (wn (va (.bool (decide ((x_14.Cells.length : Int) > 1024))) ?_))))
    obtain rfl := si H20
    exact va (.bool (decide ((x_14.Cells.length : Int) > 1024))) (wln ⟨c5, _, _, rfl, pt, us, O7, rfl⟩)
   rintro e_ w_ ⟨c21, g22, _, rfl, l21, rfl, O23, rfl⟩
   refine nrm (cn H (fun h27 H => ?_) (fun h27 H => ?_))
   ·refine sr (va (.int .i64 s_6) (va (.int .i64 s_6) (va (.int .i64 3) (wln (W.ret (thr (bkr (thr ?_))))))))
    obtain rfl := si H
    exact ⟨_, rfl, ⟨rfl, ⟨c21, _, _, rfl, pt, us, O23, rfl⟩⟩⟩
   refine W.skip (nrm (W.seq (sr (va (v1) (va (.int .i64 s_6) (bn H fun x_33 h28 H => ?_))))))
   obtain ⟨l_29, h30, m31⟩ := Sl.at (h2.mono (l5.trans l21)) (idx_get h28)
   obtain ⟨v32, rfl, h33⟩ := h30
   refine vx (ix underlying22 h2.m h28) (va (.pointer (some ⟨sb v1, so v1 + s_6.toNat * 2, none⟩)) (vx (l1 underlying69 (m31 0 _ rfl)) (bn H fun x_36 h34 H => cl (c_linotyperef23_Sound O23 x_33.Cells h33 h34) ?_)))
   rintro v40 c39 l39 ⟨O36, rfl⟩
   refine va (.bool (!x_36)) (wln (cn H (fun h41 H => ?_) (fun h41 H => ?_)))
   ·refine sr (va (.int .i64 s_6) (va (.int .i64 s_6) (va (.int .i64 5) (wln (W.ret (thr (bkr (thr ?_))))))))
    obtain rfl := si H
    exact ⟨_, rfl, ⟨rfl, ⟨c39, _, _, rfl, pt, us, O36, rfl⟩⟩⟩
   refine W.skip (nrm (sr (va (.int .i64 (x_14.Cells.length : Int)) (va (v1) (bn H fun x_45 h42 H => ?_)))))
   obtain ⟨l_43, h44, m45⟩ := Sl.at (h2.mono (l5.trans (l21.trans l39))) (idx_get h42)
   obtain ⟨v46, rfl, h47⟩ := h44
   refine vx (ix underlying22 h2.m h42) (va (.pointer (some ⟨sb v1, so v1 + (0 : Int).toNat * 2, none⟩)) (vx (l1 underlying69 (m45 0 _ rfl)) (vx (ln 3 underlying69 h47) (va (.bool ((x_14.Cells.length : Int) != (x_45.Cells.length : Int))) (wln (cn H (fun h48 H => ?_) (fun h48 H => ?_)))))))
   ·refine sr (va (.int .i64 s_6) (va (.int .i64 s_6) (va (.int .i64 3) (wln (W.ret (bkr (thr ?_)))))))
    obtain rfl := si H
    exact ⟨_, rfl, ⟨rfl, ⟨c39, _, _, rfl, pt, us, O36, rfl⟩⟩⟩
   refine W.skip (bkn (nrm (W.region (va (.int .i64 s_6) (va (.int .i64 (w64 (s_6 + 1))) (va (.int .i64 (w64 (s_6 + 1))) (WL.nil ?_)))))))
   obtain rfl := si H
   exact ⟨_, rfl, ⟨c39, _, _, rfl, pt, us, O36, rfl⟩⟩
  refine W.exit (thx ?_)
  obtain rfl := si H
  exact ⟨_, rfl, rfl, ⟨c5, _, _, rfl, pt, us, O7, rfl⟩⟩
 ·exact ⟨c0, _, _, rfl, pt, us, O0, rfl⟩
 rcases o_6 with o_6 | o_6
 ·intro ex_; revert ex_
  rintro _ e_ w_ ⟨rfl, c49, g50, _, rfl, l49, rfl, O51, rfl⟩
  refine bkr (thr ?_)
  obtain rfl := si H4
  exact r2 ⟨_, c49, rfl, rfl, pt, O51, rfl⟩
 rintro _ e_ w_ ⟨rfl, c55, g56, _, rfl, l55, rfl, O57, rfl⟩
 refine bke (nrm (sr (va (.int .i64 (-1)) (va (.int .i64 0) (wln (W.ret ?_))))))
 obtain rfl := si H4
 exact r2 ⟨_, c55, rfl, rfl, pt, O57, rfl⟩
def f_linotyperef33_Move (p0 : List G_api_Line) (p1 : Int) (p2 : Int) (p3 : Int) (p4 : Bool) : Option (List G_api_Line) :=
 (orE (decide ((imax 0 (imin p1 (p0.length : Int))) ≥ (imax 0 (imin p2 (p0.length : Int))))) (some (decide (p3 < 1)))).bind fun d_22 =>
 if d_22 = true then
 some p0
 else
 (iter (σ := (List G_api_Line) × Int) (τ := (List G_api_Line)) (((p0.length : Int) - 0).toNat + 1) (fun s_41 =>
 if (decide (s_41.2 < (p0.length : Int))) = true then
 (idx p0 s_41.2).bind fun x_48 =>
 ((andE (decide (s_41.2 ≥ (imax 0 (imin p1 (p0.length : Int))))) (some (decide (s_41.2 < (imax 0 (imin p2 (p0.length : Int))))))).bind fun d_57 =>
 if d_57 = true then
 (if (!p4) = true then
 (some ((w64 (s_41.2 - (imin p3 (w64 ((imax 0 (imin p2 (p0.length : Int))) - (imax 0 (imin p1 (p0.length : Int))))))))) : Option (Int))
 else
 (some ((w64 (s_41.2 + (imin p3 (w64 ((imax 0 (imin p2 (p0.length : Int))) - (imax 0 (imin p1 (p0.length : Int))))))))) : Option (Int))).bind fun z_68 =>
 (idx p0 s_41.2).bind fun x_79 =>
 (rep (x_79.Cells.length : Int) (⟨0, ([] : List Int)⟩ : G_api_Cell)).bind fun x_83 =>
 (andE (decide (z_68 ≥ (imax 0 (imin p1 (p0.length : Int))))) (some (decide (z_68 < (imax 0 (imin p2 (p0.length : Int))))))).bind fun d_90 =>
 if d_90 = true then
 (idx p0 z_68).bind fun x_98 =>
 (some (x_98.Cells, x_98.Wrap) : Option ((List G_api_Cell) × Bool))
 else
 (some (x_83, false) : Option ((List G_api_Cell) × Bool))
 else
 (some (x_48.Cells, x_48.Wrap) : Option ((List G_api_Cell) × Bool))).bind fun z_53 =>
 ((orE ((w64 (s_41.2 + 1)) == (imax 0 (imin p1 (p0.length : Int)))) ((andE (!p4) (some ((w64 (s_41.2 + 1)) == (imax 0 (imin p2 (p0.length : Int)))))).bind fun d_111 =>
 some d_111)).bind fun d_107 =>
 if d_107 = true then
 (some (false) : Option (Bool))
 else
 (some (z_53.2) : Option (Bool))).bind fun z_102 =>
 (app s_41.1 ([(⟨z_53.1, z_102⟩ : G_api_Line)] : List G_api_Line)).bind fun x_124 =>
 some (.inl (x_124, (w64 (s_41.2 + 1))))
 else
 some (.inr (s_41.1))) (([] : List G_api_Line), 0)).bind fun o_41 =>
 some o_41
theorem c_linotyperef33_Move (O0 : Own c0 G F) (p0 : List G_api_Line) (p1 : Int) (p2 : Int) (p3 : Int) (p4 : Bool) {r : List G_api_Line} (h2 : Sl R_api_Line c0 v1 p0) (H : f_linotyperef33_Move p0 p1 p2 p3 p4 = some r) :
    Calls Tryz.prog 97 #[v1, .int .i64 p1, .int .i64 p2, .int .i64 p3, .bool p4] c0.w (Post c0 fun c v => ∃ y1, Own c G (F) ∧ v = y1 ∧ Sl R_api_Line c y1 r) := by
 unfold f_linotyperef33_Move at H
 refine en func97 rfl rfl (sr (va (.slice none 0 0) (wln (sr (va (v1) (vx (ln 3 underlying22 h2) (va (.int .i64 (p0.length : Int)) (wln (sr (va (.int .i64 p1) (va (.int .i64 (p0.length : Int)) (va (.int .i64 (imin p1 (p0.length : Int))) (va (.int .i64 (imax 0 (imin p1 (p0.length : Int)))) (va (.int .i64 (imax 0 (imin p1 (p0.length : Int)))) (wln (sr (va (.int .i64 p2) (va (.int .i64 (p0.length : Int)) (va (.int .i64 (imin p2 (p0.length : Int))) (va (.int .i64 (imax 0 (imin p2 (p0.length : Int)))) (va (.int .i64 (imax 0 (imin p2 (p0.length : Int)))) (wln (W.seq (W.seq (bn H fun d_22 h3 H => W.join (Jn c0 fun c l => Own c G (F) ∧ l = [(0, v1), (1, .int .i64 (imax 0 (imin p1 (p0.length : Int)))), (2, .int .i64 (imax 0 (imin p2 (p0.length : Int)))), (3, .int .i64 p3), (4, .bool p4), (11, .int .i64 (p0.length : Int)), (32, .bool d_22)]) ?_ ?_)))))))))))))))))))))))))
 ·clear H
  refine W.region (va (.int .i64 (imax 0 (imin p1 (p0.length : Int)))) (va (.int .i64 (imax 0 (imin p2 (p0.length : Int)))) (va (.bool (decide ((imax 0 (imin p1 (p0.length : Int))) ≥ (imax 0 (imin p2 (p0.length : Int)))))) ?_)))
  rcases bo (decide ((imax 0 (imin p1 (p0.length : Int))) ≥ (imax 0 (imin p2 (p0.length : Int))))) with h4 | h4
  ·obtain rfl := orT h4 h3
   exact vb h4 (ps (ps (va (.bool true) (wln ⟨c0, _, _, rfl, pt, us, O0, rfl⟩))))
  have H5 := orF h4 h3
  refine vb h4 (wn (va (.int .i64 p3) (wn (va (.bool (decide (p3 < 1))) ?_))))
  obtain rfl := si H5
  exact va (.bool (decide (p3 < 1))) (wln ⟨c0, _, _, rfl, pt, us, O0, rfl⟩)
 rintro e_ w_ ⟨c6, g7, _, rfl, l6, rfl, O8, rfl⟩
 refine nrm (cn H (fun h12 H => ?_) (fun h12 H => ?_))
 ·refine sr (va (v1) (va (v1) (wln (W.ret (thr ?_)))))
  obtain rfl := si H
  exact r1 ⟨_, c6, rfl, rfl, pt, v1, O8, rfl, h2.m⟩
 refine W.skip (nrm (sr (va (.int .i64 p3) (va (.int .i64 (imax 0 (imin p2 (p0.length : Int)))) (va (.int .i64 (imax 0 (imin p1 (p0.length : Int)))) (va (.int .i64 (w64 ((imax 0 (imin p2 (p0.length : Int))) - (imax 0 (imin p1 (p0.length : Int)))))) (va (.int .i64 (imin p3 (w64 ((imax 0 (imin p2 (p0.length : Int))) - (imax 0 (imin p1 (p0.length : Int))))))) (va (.int .i64 (imin p3 (w64 ((imax 0 (imin p2 (p0.length : Int))) - (imax 0 (imin p1 (p0.length : Int))))))) (wln (sr (va (.slice none 0 0) (wln (W.seq (sr (va (.int .i64 0) (wln (W.block (bn H fun o_41 h13 H14 => lp h13 (fun s_41 => Jn c6 fun c l => ∃ v15 u16, Own c G (es true R_api_Line v15 71 u16 s_41.1 :: F) ∧ l = [(0, v1), (1, .int .i64 (imax 0 (imin p1 (p0.length : Int)))), (2, .int .i64 (imax 0 (imin p2 (p0.length : Int)))), (3, .int .i64 (imin p3 (w64 ((imax 0 (imin p2 (p0.length : Int))) - (imax 0 (imin p1 (p0.length : Int))))))), (4, .bool p4), (11, .int .i64 (p0.length : Int)), (12, v15), (13, .int .i64 s_41.2)] ∧ OA R_api_Line c v15 u16 s_41.1) (fun o_41_ ex e w => ex = .exit 0 ∧ (Jn c6 fun c l => ∃ v17 u18, Own c G (es true R_api_Line v17 71 u18 o_41_ :: F) ∧ l = [(12, v17)] ∧ OA R_api_Line c v17 u18 o_41_) e w) ?_ ?_ ?_))))))))))))))))))
 ·clear H14 h13
  intro s_41 xx_ ee_ ww_ H
  revert ee_ ww_
  rintro e_ w_ ⟨c19, g20, _, rfl, l19, rfl, v15, u16, O21, rfl, h22⟩
  refine W.seq (sr (va (.int .i64 s_41.2) (va (.int .i64 (p0.length : Int)) (va (.bool (decide (s_41.2 < (p0.length : Int)))) (wln (cn H (fun h26 H => ?_) (fun h26 H => ?_)))))))
  ·refine W.skip (nrm (W.seq (W.block (sr (va (v1) (va (.int .i64 s_41.2) (bn H fun x_48 h27 H => ?_)))))))
   obtain ⟨l_28, h29, m30⟩ := Sl.at (h2.mono (l6.trans l19)) (idx_get h27)
   obtain ⟨v31, rfl, h32⟩ := h29
   refine vx (ix underlying22 h2.m h27) (vx (lN 71 m30) (me (al 71 [.slice none 0 0, .bool false] O21) ?_))
   rintro v36 c35 l35 ⟨b33, rfl, O34⟩
   obtain ⟨a37, a38, a39, rfl⟩ := ((h32.mono l35)).form
   refine md (sA 71 [.slice a37 a38 a39, .bool x_48.Wrap] 0 O34 ⟨h32.m.one, rfl, trivial⟩) ?_
   rintro c41 l41 O40
   refine wln (bn H fun z_53 H42 H43 => W.seqJ (Jn c41 fun c l => ∃ v44, Own c G (⟨.pointer (some ⟨b33, 0, none⟩), 71, [v44, .bool z_53.2], 0⟩ :: es true R_api_Line v15 71 u16 s_41.1 :: F) ∧ l = [(0, v1), (1, .int .i64 (imax 0 (imin p1 (p0.length : Int)))), (2, .int .i64 (imax 0 (imin p2 (p0.length : Int)))), (3, .int .i64 (imin p3 (w64 ((imax 0 (imin p2 (p0.length : Int))) - (imax 0 (imin p1 (p0.length : Int))))))), (4, .bool p4), (11, .int .i64 (p0.length : Int)), (12, v15), (13, .int .i64 s_41.2), (14, .pointer (some ⟨b33, 0, none⟩))] ∧ Sl R_api_Cell c v44 z_53.1) ?_ ?_)
   ·refine W.seq (bn H42 fun d_57 h45 H42 => W.join (Jn c41 fun c l => Own c G (⟨.pointer (some ⟨b33, 0, none⟩), 71, [.slice a37 a38 a39, .bool x_48.Wrap], 0⟩ :: es true R_api_Line v15 71 u16 s_41.1 :: F) ∧ l = [(0, v1), (1, .int .i64 (imax 0 (imin p1 (p0.length : Int)))), (2, .int .i64 (imax 0 (imin p2 (p0.length : Int)))), (3, .int .i64 (imin p3 (w64 ((imax 0 (imin p2 (p0.length : Int))) - (imax 0 (imin p1 (p0.length : Int))))))), (4, .bool p4), (11, .int .i64 (p0.length : Int)), (12, v15), (13, .int .i64 s_41.2), (14, .pointer (some ⟨b33, 0, none⟩)), (55, .bool d_57)]) ?_ ?_)
    ·clear H42
     refine W.region (va (.int .i64 s_41.2) (va (.int .i64 (imax 0 (imin p1 (p0.length : Int)))) (va (.bool (decide (s_41.2 ≥ (imax 0 (imin p1 (p0.length : Int)))))) ?_)))
     rcases bo (decide (s_41.2 ≥ (imax 0 (imin p1 (p0.length : Int))))) with h46 | h46
     ·have H47 := anT h46 h45
      refine vb h46 (wn (va (.int .i64 s_41.2) (wn (va (.int .i64 (imax 0 (imin p2 (p0.length : Int)))) (wn (va (.bool (decide (s_41.2 < (imax 0 (imin p2 (p0.length : Int)))))) ?_))))))
      obtain rfl := si H47
      exact va (.bool (decide (s_41.2 < (imax 0 (imin p2 (p0.length : Int)))))) (wln ⟨c41, _, _, rfl, pt, us, O40, rfl⟩)
     obtain rfl := anF h46 h45
     exact vb h46 (ps (ps (ps (va (.bool false) (wln ⟨c41, _, _, rfl, pt, us, O40, rfl⟩)))))
    rintro e_ w_ ⟨c48, g49, _, rfl, l48, rfl, O50, rfl⟩
    refine nrm (cn H42 (fun h54 H42 => ?_) (fun h54 H42 => ?_))
    ·refine sr (va (.int .i64 s_41.2) (va (.int .i64 (imin p3 (w64 ((imax 0 (imin p2 (p0.length : Int))) - (imax 0 (imin p1 (p0.length : Int))))))) (va (.int .i64 (w64 (s_41.2 + (imin p3 (w64 ((imax 0 (imin p2 (p0.length : Int))) - (imax 0 (imin p1 (p0.length : Int))))))))) (va (.int .i64 (w64 (s_41.2 + (imin p3 (w64 ((imax 0 (imin p2 (p0.length : Int))) - (imax 0 (imin p1 (p0.length : Int))))))))) (wln (bn H42 fun z_68 H55 H56 => W.seqJ (Jn c48 fun c l => Own c G (⟨.pointer (some ⟨b33, 0, none⟩), 71, [.slice a37 a38 a39, .bool x_48.Wrap], 0⟩ :: es true R_api_Line v15 71 u16 s_41.1 :: F) ∧ l = [(0, v1), (1, .int .i64 (imax 0 (imin p1 (p0.length : Int)))), (2, .int .i64 (imax 0 (imin p2 (p0.length : Int)))), (3, .int .i64 (imin p3 (w64 ((imax 0 (imin p2 (p0.length : Int))) - (imax 0 (imin p1 (p0.length : Int))))))), (4, .bool p4), (11, .int .i64 (p0.length : Int)), (12, v15), (13, .int .i64 s_41.2), (14, .pointer (some ⟨b33, 0, none⟩)), (15, .int .i64 z_68)]) ?_ ?_))))))
     ·refine sr (va (.bool p4) (va (.bool (!p4)) (wln (cn H55 (fun h57 H55 => ?_) (fun h57 H55 => ?_)))))
      ·refine W.region (va (.int .i64 s_41.2) (va (.int .i64 (imin p3 (w64 ((imax 0 (imin p2 (p0.length : Int))) - (imax 0 (imin p1 (p0.length : Int))))))) (va (.int .i64 (w64 (s_41.2 - (imin p3 (w64 ((imax 0 (imin p2 (p0.length : Int))) - (imax 0 (imin p1 (p0.length : Int))))))))) (va (.int .i64 (w64 (s_41.2 - (imin p3 (w64 ((imax 0 (imin p2 (p0.length : Int))) - (imax 0 (imin p1 (p0.length : Int))))))))) (wln ?_)))))
       obtain rfl := si H55
       exact ⟨c48, _, _, rfl, pt, us, O50, rfl⟩
      refine W.skip (nrm ?_)
      obtain rfl := si H55
      exact ⟨c48, _, _, rfl, pt, us, O50, rfl⟩
     rintro e_ w_ ⟨c58, g59, _, rfl, l58, rfl, O60, rfl⟩
     refine sr (va (v1) (va (.int .i64 s_41.2) (bn H56 fun x_79 h64 H56 => ?_)))
     obtain ⟨l_65, h66, m67⟩ := Sl.at (h2.mono (l6.trans (l19.trans (l35.trans (l41.trans (l48.trans l58)))))) (idx_get h64)
     obtain ⟨v68, rfl, h69⟩ := h66
     refine vx (ix underlying22 h2.m h64) (va (.pointer (some ⟨sb v1, so v1 + s_41.2.toNat * 2, none⟩)) (vx (l1 underlying69 (m67 0 _ rfl)) (vx (ln 3 underlying69 h69) (bn H56 fun x_83 h70 H56 => me (Own.mkS (kl := .i64) (kc := .i64) (R := R_api_Cell) (z := .agg #[.int .i64 0, .slice none 0 0]) (lz := [.int .i64 0, .slice none 0 0]) (x := (⟨0, ([] : List Int)⟩ : G_api_Cell)) (by_ := 32) (i := (x_79.Cells.length : Int)) (j := (x_79.Cells.length : Int)) true O60 (Nat.succ_pos _) h70 (Int.le_refl _) (rep_le h70) underlying69 (by kernel_rfl) rfl rfl (fun _ => ⟨(.slice none 0 0), rfl, (Sl.nl _ _)⟩) (by kernel_rfl) (by kernel_rfl)) ?_))))
     rintro v75 c74 l74 ⟨u72, O71, h73⟩
     obtain ⟨a76, a77, a78, rfl⟩ := (h73).form
     refine va (.agg #[.slice a76 a77 a78, .bool false]) (md (sA 71 [.slice a76 a77 a78, .bool false] 1 O71 ⟨(h73).one, rfl, trivial⟩) ?_)
     rintro c80 l80 O79
     refine wln (W.seq (bn H56 fun d_90 h81 H56 => W.join (Jn c80 fun c l => Own c G (es true R_api_Cell (.slice a76 a77 a78) 101 u72 x_83 :: ⟨.pointer (some ⟨b33, 0, none⟩), 71, [.slice a76 a77 a78, .bool false], 0⟩ :: es true R_api_Line v15 71 u16 s_41.1 :: F) ∧ l = [(0, v1), (1, .int .i64 (imax 0 (imin p1 (p0.length : Int)))), (2, .int .i64 (imax 0 (imin p2 (p0.length : Int)))), (3, .int .i64 (imin p3 (w64 ((imax 0 (imin p2 (p0.length : Int))) - (imax 0 (imin p1 (p0.length : Int))))))), (4, .bool p4), (11, .int .i64 (p0.length : Int)), (12, v15), (13, .int .i64 s_41.2), (14, .pointer (some ⟨b33, 0, none⟩)), (15, .int .i64 z_68), (79, .bool d_90)]) ?_ ?_))
     ·clear H56
      refine W.region (va (.int .i64 z_68) (va (.int .i64 (imax 0 (imin p1 (p0.length : Int)))) (va (.bool (decide (z_68 ≥ (imax 0 (imin p1 (p0.length : Int)))))) ?_)))
      rcases bo (decide (z_68 ≥ (imax 0 (imin p1 (p0.length : Int))))) with h82 | h82
      ·have H83 := anT h82 h81
       refine vb h82 (wn (va (.int .i64 z_68) (wn (va (.int .i64 (imax 0 (imin p2 (p0.length : Int)))) (wn (va (.bool (decide (z_68 < (imax 0 (imin p2 (p0.length : Int)))))) ?_))))))
       obtain rfl := si H83
       exact va (.bool (decide (z_68 < (imax 0 (imin p2 (p0.length : Int)))))) (wln ⟨c80, _, _, rfl, pt, us, O79, rfl⟩)
      obtain rfl := anF h82 h81
      exact vb h82 (ps (ps (ps (va (.bool false) (wln ⟨c80, _, _, rfl, pt, us, O79, rfl⟩)))))
     rintro e_ w_ ⟨c84, g85, _, rfl, l84, rfl, O86, rfl⟩
     refine nrm (cn H56 (fun h90 H56 => ?_) (fun h90 H56 => ?_))
     ·refine W.region (va (v1) (va (.int .i64 z_68) (bn H56 fun x_98 h91 H56 => ?_)))
      obtain ⟨l_92, h93, m94⟩ := Sl.at (h2.mono (l6.trans (l19.trans (l35.trans (l41.trans (l48.trans (l58.trans (l74.trans (l80.trans l84))))))))) (idx_get h91)
      obtain ⟨v95, rfl, h96⟩ := h93
      refine vx (ix underlying22 h2.m h91) (vx (lN 71 m94) ?_)
      obtain ⟨a97, a98, a99, rfl⟩ := (h96).form
      refine md (sA 71 [.slice a97 a98 a99, .bool x_98.Wrap] 1 O86 ⟨h96.one, rfl, trivial⟩) ?_
      rintro c101 l101 O100
      refine wln ?_
      obtain rfl := si H56
      have O102 := O100.sD 3 [1, 2]
      exact ⟨c101, _, _, rfl, pt, us, (.slice a97 a98 a99), O102, rfl, h96.m⟩
     refine W.skip (nrm ?_)
     obtain rfl := si H56
     obtain ⟨c105, h106, l105, O103, h104⟩ := O86.frz 0 rfl (h73.mono (l80.trans l84))
     have O107 := O103.sD 3 [1, 2]
     exact ⟨c105, _, _, h106.symm, pt, us, (.slice a76 a77 a78), O107, rfl, h104⟩
    refine W.skip (nrm ?_)
    obtain rfl := si H42
    exact ⟨c48, _, _, rfl, pt, us, (.slice a37 a38 a39), O50, rfl, h32.m⟩
   rintro e_ w_ ⟨c108, g109, _, rfl, l108, rfl, v44, O110, rfl, h111⟩
   refine bn H43 fun z_102 H115 H116 => W.seqJ (Jn c108 fun c l => Own c G (⟨.pointer (some ⟨b33, 0, none⟩), 71, [v44, .bool z_102], 0⟩ :: es true R_api_Line v15 71 u16 s_41.1 :: F) ∧ l = [(0, v1), (1, .int .i64 (imax 0 (imin p1 (p0.length : Int)))), (2, .int .i64 (imax 0 (imin p2 (p0.length : Int)))), (3, .int .i64 (imin p3 (w64 ((imax 0 (imin p2 (p0.length : Int))) - (imax 0 (imin p1 (p0.length : Int))))))), (4, .bool p4), (11, .int .i64 (p0.length : Int)), (12, v15), (13, .int .i64 s_41.2), (14, .pointer (some ⟨b33, 0, none⟩))]) ?_ ?_
   ·refine W.seq (bn H115 fun d_107 h117 H115 => W.join (Jn c108 fun c l => Own c G (⟨.pointer (some ⟨b33, 0, none⟩), 71, [v44, .bool z_53.2], 0⟩ :: es true R_api_Line v15 71 u16 s_41.1 :: F) ∧ l = [(0, v1), (1, .int .i64 (imax 0 (imin p1 (p0.length : Int)))), (2, .int .i64 (imax 0 (imin p2 (p0.length : Int)))), (3, .int .i64 (imin p3 (w64 ((imax 0 (imin p2 (p0.length : Int))) - (imax 0 (imin p1 (p0.length : Int))))))), (4, .bool p4), (11, .int .i64 (p0.length : Int)), (12, v15), (13, .int .i64 s_41.2), (14, .pointer (some ⟨b33, 0, none⟩)), (97, .bool d_107)]) ?_ ?_)
    ·clear H115
     refine W.region (va (.int .i64 s_41.2) (va (.int .i64 (w64 (s_41.2 + 1))) (va (.int .i64 (imax 0 (imin p1 (p0.length : Int)))) (va (.bool ((w64 (s_41.2 + 1)) == (imax 0 (imin p1 (p0.length : Int))))) ?_))))
     rcases bo ((w64 (s_41.2 + 1)) == (imax 0 (imin p1 (p0.length : Int)))) with h118 | h118
     ·obtain rfl := orT h118 h117
      exact vb h118 (ps (ps (ps (ps (ps (ps (ps (ps (va (.bool true) (wln ⟨c108, _, _, rfl, pt, us, O110, rfl⟩))))))))))
     have H119 := orF h118 h117
     refine vb h118 (wn (va (.bool p4) (wn (va (.bool (!p4)) (wn (bn H119 fun d_111 h120 H119 => ?_))))))
     rcases bo (!p4) with h121 | h121
     ·have H122 := anT h121 h120
      refine vb h121 (wn (va (.int .i64 s_41.2) (wn (va (.int .i64 (w64 (s_41.2 + 1))) (wn (va (.int .i64 (imax 0 (imin p2 (p0.length : Int)))) (wn (va (.bool ((w64 (s_41.2 + 1)) == (imax 0 (imin p2 (p0.length : Int))))) (wn ?_)))))))))
      obtain rfl := si H122
      refine va (.bool ((w64 (s_41.2 + 1)) == (imax 0 (imin p2 (p0.length : Int))))) ?_
      obtain rfl := si H119
      exact va (.bool ((w64 (s_41.2 + 1)) == (imax 0 (imin p2 (p0.length : Int))))) (wln ⟨c108, _, _, rfl, pt, us, O110, rfl⟩)
     obtain rfl := anF h121 h120
     refine vb h121 (ps (ps (ps (ps (wn (va (.bool false) ?_))))))
     obtain rfl := si H119
     exact va (.bool false) (wln ⟨c108, _, _, rfl, pt, us, O110, rfl⟩)
    rintro e_ w_ ⟨c123, g124, _, rfl, l123, rfl, O125, rfl⟩
    refine nrm (cn H115 (fun h129 H115 => ?_) (fun h129 H115 => ?_))
    ·refine W.region (va (.pointer (some ⟨b33, 1, none⟩)) (md (sC 4 1 (.bool false) [v44, .bool false] 0 O125 ⟨rfl, trivial⟩) ?_))
     rintro c131 l131 O130
     refine wln ?_
     obtain rfl := si H115
     exact ⟨c131, _, _, rfl, pt, us, O130, rfl⟩
    refine W.skip (nrm ?_)
    obtain rfl := si H115
    exact ⟨c123, _, _, rfl, pt, us, O125, rfl⟩
   rintro e_ w_ ⟨c132, g133, _, rfl, l132, rfl, O134, rfl⟩
   refine W.region (va (v15) (vx (leN 71 0 [v44, .bool z_102] (O134.on 0 rfl)) ?_))
   obtain ⟨a138, a139, a140, rfl⟩ := ((h111.mono l132)).form
   refine me (sl R_api_Line 71 [[.slice a138 a139 a140, .bool z_102]] ([(⟨z_53.1, z_102⟩ : G_api_Line)] : List G_api_Line) O134 ⟨⟨(.slice a138 a139 a140), rfl, h111.m⟩, trivial⟩) ?_
   rintro v145 c144 l144 ⟨u142, O141, h143⟩
   obtain ⟨c148, h149, l148, O146, h147⟩ := O141.frz 0 rfl h143
   refine WL.gh h149 (bn H116 fun x_124 h150 H116 => me (ap R_api_Line (.agg #[.slice none 0 0, .bool false]) 32 22 2 O146 h22.m h147 h150 underlying22) ?_)
   rintro v155 c154 l154 ⟨u152, O151, h153⟩
   refine va (v155) (WL.nil (bkn (nrm (W.region (va (.int .i64 s_41.2) (va (.int .i64 (w64 (s_41.2 + 1))) (va (.int .i64 (w64 (s_41.2 + 1))) (WL.nil ?_))))))))
   obtain rfl := si H116
   refine ⟨_, rfl, ?_⟩
   have O156 := O151.sD 3 [2]
   exact ⟨c154, _, _, rfl, pt, us, v155, u152, O156, rfl, h153⟩
  refine W.exit (thx ?_)
  obtain rfl := si H
  exact ⟨_, rfl, rfl, ⟨c19, _, _, rfl, pt, us, v15, u16, O21, rfl, h22⟩⟩
 ·have h158 : OA R_api_Line c6 (.slice none 0 0) [] [] := OA.nil (Nat.succ_pos _)
  have O157 := O8.addHole (e := es true R_api_Line (.slice none 0 0) 71 [] ([] : List G_api_Line)) rfl
  exact ⟨c6, _, _, rfl, pt, us, (.slice none 0 0), [], O157, rfl, h158⟩
 rintro _ e_ w_ ⟨rfl, c159, g160, _, rfl, l159, rfl, v17, u18, O161, rfl, h162⟩
 refine bke (nrm (sr (va (v17) (va (v17) (wln (W.ret ?_))))))
 obtain rfl := si H14
 obtain ⟨c168, h169, l168, O166, h167⟩ := O161.frz 0 rfl h162
 have O170 := O166.sD 1 []
 exact bqgh h169 (r1 ⟨_, c168, rfl, rfl, pt, v17, O170, rfl, h167⟩)

end Go.Proofs.YthokmpbbkpjhbaaGreatDoor
