import Derived.Test.YtohpkblleihmaaaDoorMx
import Derived.Test.YtohpkblleihmaaaDoorProg
import Derived.Test.YtohpkblleihmaaaDoorMy
import Derived.Test.YtohpkblleihmaaaDoorMz
import Derived.Test.YtohpkblleihmaaaDoorA1
import Derived.Test.YtohpkblleihmaaaDoorG1
import Derived.Test.YtohpkblleihmaaaDoorM1
import Derived.Test.YtohpkblleihmaaaDoorN1
import Derived.Test.YtohpkblleihmaaaDoorZ1
namespace Go.Proofs.YtohpkblleihmaaaDoor
open Go Go.Lt
set_option maxRecDepth 10000
set_option linter.unusedVariables false
attribute [local irreducible] W WL AC
def f_linotypelaw39_SizeKeeps (sg : Sto) (p0 : G_linotypelaw35_Start) (p1 : Int) (p2 : Int) : Option (Sto × Bool) :=
  (f_linotyperef32_Wrong p0.L).bind fun x_6 =>
  (f_linotypelaw39_works sg).bind fun x_13 =>
  (orE (!x_13.2) (some (decide ((p0.L.length : Int) > 20)))).bind fun d_15 =>
  (orE d_15 (some ((p0.L.length : Int) == 0))).bind fun d_21 =>
  (orE d_21 (some (decide (x_6.1 ≥ 0)))).bind fun d_27 =>
  if d_27 = true then
  (f_linotypelaw39_works x_13.1).bind fun x_32 =>
  some (x_32.1, x_32.2)
  else
  (f_grid_Of x_13.1 p0.L).bind fun x_37 =>
  if (!x_37.2.2.isNil) = true then
  some (x_37.1, false)
  else
  (some (x_37.1.add_place_Pen (⟨x_37.2.1, (⟨p0.At.Row, p0.At.Col, p0.At.Pending⟩ : G_api_Cursor), p0.Auto⟩ : G_place_Pen))).bind fun s_55001 =>
  (idx p0.L 0).bind fun x_60 =>
  (f_size_Resize s_55001 (some x_37.1.place_Pen.length) (w64 ((x_60.Cells.length : Int) + (w64 ((IntKind.u64.wrap p1).tmod 10)))) (w64 ((p0.L.length : Int) + (w64 ((IntKind.u64.wrap p2).tmod 10))))).bind fun x_81 =>
  (x_81.place_Pen[x_37.1.place_Pen.length]?).bind fun o_86 =>
  (f_grid_Grid_Lines x_81 o_86.G).bind fun x_87 =>
  (iter (σ := Int) (τ := (Sto × Bool) ⊕ Unit) (((x_87.length : Int) - 0).toNat + 1) (fun s_92 =>
  if (decide (s_92 < (x_87.length : Int))) = true then
  (idx x_87 s_92).bind fun x_100 =>
  (orE x_100.Wrap ((andE (decide (s_92 < (p0.L.length : Int))) ((idx x_87 s_92).bind fun x_114 =>
  (slc x_114.Cells 0 (x_60.Cells.length : Int)).bind fun x_118 =>
  (idx p0.L s_92).bind fun x_122 =>
  (f_linotyperef23_Same x_118 x_122.Cells).bind fun x_125 =>
  some (!x_125))).bind fun d_110 =>
  some d_110)).bind fun d_103 =>
  if d_103 = true then
  some (.inr (.inl (x_81, false)))
  else
  some (.inl ((w64 (s_92 + 1))))
  else
  some (.inr (.inr ()))) (0)).bind fun o_92 =>
  match o_92 with
  | .inl o_92 =>
  some o_92
  | .inr o_92 =>
  some (x_81, decide ((x_87.length : Int) ≥ (p0.L.length : Int)))
theorem c_linotypelaw39_SizeKeeps {c0 : Cx} {G : Gm} {F : List En} {sg : Sto} {v1 : Value} (O0 : Own c0 G F) (R0 : Rel c0 sg G) (hG : Gl [0, 1] c0) (p0 : G_linotypelaw35_Start) (p1 : Int) (p2 : Int) {r : Sto × Bool} (h2 : Sl R_api_Line c0 v1 p0.L) (H : f_linotypelaw39_SizeKeeps sg p0 p1 p2 = some r) :
    Calls Tryd.prog 20 #[.agg #[v1, .int .i64 p0.At.Row, .int .i64 p0.At.Col, .bool p0.At.Pending, .bool p0.Auto], .int .i64 p1, .int .i64 p2] c0.w (Post c0 fun c v => ∃ G_ : Gm, Own c G_ (F) ∧ Rel c r.1 G_ ∧ v = .bool r.2) := by
  unfold f_linotypelaw39_SizeKeeps at H
  refine enter (l := [.agg #[v1, .int .i64 p0.At.Row, .int .i64 p0.At.Col, .bool p0.At.Pending, .bool p0.Auto], .int .i64 p1, .int .i64 p2]) Tryd.func20 rfl rfl rfl ?_
  refine sr ?_
  obtain ⟨a3, a4, a5, rfl⟩ := (h2).form
  refine WL.mem rfl (Own.bx (T := 136) (vs := [.slice a3 a4 a5, .int .i64 p0.At.Row, .int .i64 p0.At.Col, .bool p0.At.Pending, .bool p0.Auto]) O0 (by kernel_rfl)) ?_
  rintro v10 c9 l9 ⟨b6, rfl, O7, m8⟩
  refine va (.bool false) ?_
  refine wln ?_
  refine sr ?_
  refine va (.pointer (some ⟨b6, 0, none⟩)) ?_
  refine WL.val0 (v := .slice a3 a4 a5) rfl (rx (by kernel_rfl) (run_load1 Tryd.underlying47 rfl (m8 0 _ rfl))) ?_
  obtain ⟨x_6, h11, H⟩ := bs H
  refine WL.callP rfl (by kernel_rfl) (c_linotyperef32_Wrong O7 p0.L (h2.mono l9) h11) ?_
  rintro v17 c16 l16 ⟨O13, rfl⟩
  refine va (.tuple #[.int .i64 x_6.1, .int .i64 x_6.2]) ?_
  refine va (.int .i64 x_6.1) ?_
  refine va (.int .i64 x_6.2) ?_
  refine va (.int .i64 x_6.1) ?_
  refine va (.int .i64 x_6.2) ?_
  refine wln ?_
  refine W.seq ?_
  refine W.seq ?_
  obtain ⟨x_13, h18, H⟩ := bs H
  obtain ⟨d_15, h19, H⟩ := bs H
  obtain ⟨d_21, h20, H⟩ := bs H
  obtain ⟨d_27, h21, H⟩ := bs H
  refine W.join (fun e w => ∃ (c : Cx) (g : Nat → Value) (G_ : Gm), w = c.w ∧ c16.le c ∧ Own c G_ (F) ∧ e = ups g [(1, .int .i64 p1), (2, .int .i64 p2), (3, .pointer (some ⟨b6, 0, none⟩)), (38, .bool d_27)] ∧ Rel c x_13.1 G_) ?_ ?_
  · clear H
    refine W.region ?_
    refine WL.callP rfl (by kernel_rfl) (c_linotypelaw39_works O13 (R0.mono (l9.trans l16)) ((hG.mono (l9.trans l16)).le (by decide)) h18) ?_
    rintro v27 c26 l26 ⟨G22, O23, R24, rfl⟩
    refine va (.bool (!x_13.2)) ?_
    rcases Bool.eq_false_or_eq_true (!x_13.2) with h28 | h28
    · skip
      obtain rfl := orT h28 h19
      refine vb h28 ?_
      refine ps ?_
      refine ps ?_
      refine ps ?_
      refine ps ?_
      refine va (.bool true) ?_
      have h29 : true = true := rfl
      obtain rfl := orT h29 h20
      refine vb h29 ?_
      refine ps ?_
      refine ps ?_
      refine ps ?_
      refine ps ?_
      refine va (.bool true) ?_
      have h30 : true = true := rfl
      obtain rfl := orT h30 h21
      refine vb h30 ?_
      refine ps ?_
      refine ps ?_
      refine va (.bool true) ?_
      refine wln ?_
      exact ⟨c26, _, G22, rfl, l26, O23, ups_self ⟨rfl, rfl, rfl, rfl, trivial⟩, R24⟩
    · skip
      have H31 := orF h28 h19
      refine vb h28 ?_
      refine wn ?_
      refine va (.pointer (some ⟨b6, 0, none⟩)) ?_
      refine wn ?_
      refine WL.val0 (v := .slice a3 a4 a5) rfl (rx (by kernel_rfl) (run_load1 Tryd.underlying47 rfl ((fun j u hu => (m8 j u hu).mono (l16.trans l26)) 0 _ rfl))) ?_
      refine wn ?_
      refine WL.val0 (v := .int .i64 (p0.L.length : Int)) rfl (rx (by kernel_rfl) (run_len (ty := 3) Tryd.underlying47 (h2.mono (l9.trans (l16.trans l26))) _)) ?_
      refine wn ?_
      refine va (.bool (decide ((p0.L.length : Int) > 20))) ?_
      obtain rfl := Option.some.inj H31
      refine va (.bool (decide ((p0.L.length : Int) > 20))) ?_
      rcases Bool.eq_false_or_eq_true (decide ((p0.L.length : Int) > 20)) with h32 | h32
      · skip
        obtain rfl := orT h32 h20
        refine vb h32 ?_
        refine ps ?_
        refine ps ?_
        refine ps ?_
        refine ps ?_
        refine va (.bool true) ?_
        have h33 : true = true := rfl
        obtain rfl := orT h33 h21
        refine vb h33 ?_
        refine ps ?_
        refine ps ?_
        refine va (.bool true) ?_
        refine wln ?_
        exact ⟨c26, _, G22, rfl, l26, O23, ups_self ⟨rfl, rfl, rfl, rfl, trivial⟩, R24⟩
      · skip
        have H34 := orF h32 h20
        refine vb h32 ?_
        refine wn ?_
        refine va (.pointer (some ⟨b6, 0, none⟩)) ?_
        refine wn ?_
        refine WL.val0 (v := .slice a3 a4 a5) rfl (rx (by kernel_rfl) (run_load1 Tryd.underlying47 rfl ((fun j u hu => (m8 j u hu).mono (l16.trans l26)) 0 _ rfl))) ?_
        refine wn ?_
        refine WL.val0 (v := .int .i64 (p0.L.length : Int)) rfl (rx (by kernel_rfl) (run_len (ty := 3) Tryd.underlying47 (h2.mono (l9.trans (l16.trans l26))) _)) ?_
        refine wn ?_
        refine va (.bool ((p0.L.length : Int) == 0)) ?_
        obtain rfl := Option.some.inj H34
        refine va (.bool ((p0.L.length : Int) == 0)) ?_
        rcases Bool.eq_false_or_eq_true ((p0.L.length : Int) == 0) with h35 | h35
        · skip
          obtain rfl := orT h35 h21
          refine vb h35 ?_
          refine ps ?_
          refine ps ?_
          refine va (.bool true) ?_
          refine wln ?_
          exact ⟨c26, _, G22, rfl, l26, O23, ups_self ⟨rfl, rfl, rfl, rfl, trivial⟩, R24⟩
        · skip
          have H36 := orF h35 h21
          refine vb h35 ?_
          refine wn ?_
          refine va (.int .i64 x_6.1) ?_
          refine wn ?_
          refine va (.bool (decide (x_6.1 ≥ 0))) ?_
          obtain rfl := Option.some.inj H36
          refine va (.bool (decide (x_6.1 ≥ 0))) ?_
          refine wln ?_
          exact ⟨c26, _, G22, rfl, l26, O23, ups_self ⟨rfl, rfl, rfl, rfl, trivial⟩, R24⟩
  · skip
    rintro e_ w_ ⟨c37, g38, G40, rfl, l37, O39, rfl, R41⟩
    refine nrm ?_
    refine W.cond (t := d_27) (by kernel_rfl) (fun h43 => ?_) (fun h43 => ?_)
    · have H := it h43 H
      refine sr ?_
      obtain ⟨x_32, h44, H⟩ := bs H
      refine WL.callP rfl (by kernel_rfl) (c_linotypelaw39_works O39 R41 ((hG.mono (l9.trans (l16.trans l37))).le (by decide)) h44) ?_
      rintro v50 c49 l49 ⟨G45, O46, R47, rfl⟩
      refine va (.bool x_32.2) ?_
      refine wln ?_
      refine W.ret ?_
      refine thr ?_
      obtain rfl := Option.some.inj H
      exact ret1 (v := .bool x_32.2) rfl (by kernel_rfl) ⟨_, c49, rfl, rfl, (l9.trans (l16.trans (l37.trans l49))), G45, O46, R47, rfl⟩
    · have H := ie h43 H
      refine W.skip ?_
      refine nrm ?_
      refine sr ?_
      refine va (.pointer (some ⟨b6, 0, none⟩)) ?_
      refine WL.val0 (v := .slice a3 a4 a5) rfl (rx (by kernel_rfl) (run_load1 Tryd.underlying47 rfl ((fun j u hu => (m8 j u hu).mono (l16.trans l37)) 0 _ rfl))) ?_
      obtain ⟨x_37, h51, H⟩ := bs H
      refine WL.callP rfl (by kernel_rfl) (c_grid_Of O39 R41 ((hG.mono (l9.trans (l16.trans l37))).le (by decide)) p0.L (h2.mono (l9.trans (l16.trans l37))) h51) ?_
      rintro v61 c60 l60 ⟨v52, v54, G56, O57, R58, rfl, h53, h55⟩
      refine va (.tuple #[v52, v54]) ?_
      refine va (v52) ?_
      refine va (v54) ?_
      refine va (v52) ?_
      refine va (v54) ?_
      refine wln ?_
      refine W.seq ?_
      refine sr ?_
      refine va (v54) ?_
      refine WL.val0 (v := .bool (!x_37.2.2.isNil)) rfl (by rcases (h55).cs with ⟨h1_, h2_⟩ | ⟨b_, h1_, h2_⟩ | ⟨b_, h1_, h2_⟩ <;> (subst h1_; rw [h2_]; kernel_rfl)) ?_
      refine wln ?_
      refine W.cond (t := !x_37.2.2.isNil) (by kernel_rfl) (fun h62 => ?_) (fun h62 => ?_)
      · have H := it h62 H
        refine sr ?_
        refine va (.bool false) ?_
        refine wln ?_
        refine W.ret ?_
        refine thr ?_
        obtain rfl := Option.some.inj H
        exact ret1 (v := .bool false) rfl (by kernel_rfl) ⟨_, c60, rfl, rfl, (l9.trans (l16.trans (l37.trans l60))), G56, O57, R58, rfl⟩
      · have H := ie h62 H
        refine W.skip ?_
        refine nrm ?_
        refine sr ?_
        refine va (v52) ?_
        refine va (.pointer (some ⟨b6, 0 + 1, none⟩)) ?_
        refine WL.val0 (v := .agg #[.int .i64 p0.At.Row, .int .i64 p0.At.Col, .bool p0.At.Pending]) rfl (rx (by kernel_rfl) (run_loadN (T := 120) (by kernel_rfl) (by kernel_rfl) (imsub (k := 1) (l := [.int .i64 p0.At.Row, .int .i64 p0.At.Col, .bool p0.At.Pending]) (fun j u hu => (m8 j u hu).mono (l16.trans (l37.trans l60))) rfl))) ?_
        refine va (.pointer (some ⟨b6, 0 + 4, none⟩)) ?_
        refine WL.val0 (v := .bool p0.Auto) rfl (rx (by kernel_rfl) (run_load1 Tryd.underlying4 rfl ((fun j u hu => (m8 j u hu).mono (l16.trans (l37.trans l60))) 4 _ rfl))) ?_
        obtain ⟨a63, rfl⟩ := (h53).form
        refine va (.agg #[.pointer a63, .int .i64 p0.At.Row, .int .i64 p0.At.Col, .bool p0.At.Pending, .bool p0.Auto]) ?_
        refine WL.mem rfl (Own.al (T := 131) (vs := [.pointer a63, .int .i64 p0.At.Row, .int .i64 p0.At.Col, .bool p0.At.Pending, .bool p0.Auto]) O57 (by kernel_rfl)) ?_
        rintro v67 c66 l66 ⟨b64, rfl, O65⟩
        have O68 := O65.selD 1 [0] (by kernel_rfl) (by kernel_rfl)
        obtain ⟨s_55001, h69, H⟩ := bs H
        obtain ⟨c70, G78, h71, l70, h72, O73, R74, h75, h76, a77⟩ := Rel.new_place_Pen (E := [⟨.pointer (some ⟨b64, 0, none⟩), 131, [.pointer a63, .int .i64 p0.At.Row, .int .i64 p0.At.Col, .bool p0.At.Pending, .bool p0.Auto], 0⟩]) (F := F) (x := (⟨x_37.2.1, (⟨p0.At.Row, p0.At.Col, p0.At.Pending⟩ : G_api_Cursor), p0.Auto⟩ : G_place_Pen)) (b := b64) O68 (R58.mono l66) (fun c_ hle_ => ⟨b64, (.pointer a63), rfl, rfl, (h53.mono (l66.trans hle_))⟩)
        rw [Option.some.inj h69] at R74
        refine WL.gh h71.1 ?_
        have h80 : Pt 2 c70 (.pointer (some ⟨b64, 0, none⟩)) (some x_37.1.place_Pen.length) := ⟨b64, rfl, h72⟩
        refine va (.pointer (some ⟨b64, 0, none⟩)) ?_
        refine wln ?_
        refine sr ?_
        refine va (.pointer (some ⟨b6, 0, none⟩)) ?_
        refine WL.val0 (v := .slice a3 a4 a5) rfl (rx (by kernel_rfl) (run_load1 Tryd.underlying47 rfl ((fun j u hu => (m8 j u hu).mono (l16.trans (l37.trans (l60.trans (l66.trans l70))))) 0 _ rfl))) ?_
        obtain ⟨x_60, h81, H⟩ := bs H
        obtain ⟨l_82, h83, m84⟩ := Sl.at (h2.mono (l9.trans (l16.trans (l37.trans (l60.trans (l66.trans l70)))))) (idx_get h81)
        obtain ⟨v85, rfl, h86⟩ := h83
        refine WL.val0 (v := .pointer (some ⟨sb (.slice a3 a4 a5), so (.slice a3 a4 a5) + (0 : Int).toNat * 2, none⟩)) rfl (rx (by kernel_rfl) (run_index (k := .i64) Tryd.underlying47 (by kernel_rfl) (h2.mono (l9.trans (l16.trans (l37.trans (l60.trans (l66.trans l70)))))) h81 _)) ?_
        refine va (.pointer (some ⟨sb (.slice a3 a4 a5), so (.slice a3 a4 a5) + (0 : Int).toNat * 2, none⟩)) ?_
        refine WL.val0 (v := v85) rfl (rx (by kernel_rfl) (run_load1 Tryd.underlying22 rfl (m84 0 _ rfl))) ?_
        refine WL.val0 (v := .int .i64 (x_60.Cells.length : Int)) rfl (rx (by kernel_rfl) (run_len (ty := 3) Tryd.underlying22 h86 _)) ?_
        refine va (.int .i64 (x_60.Cells.length : Int)) ?_
        refine wln ?_
        refine sr ?_
        refine va (.pointer (some ⟨b64, 0, none⟩)) ?_
        refine va (.int .i64 (x_60.Cells.length : Int)) ?_
        refine va (.int .i64 p1) ?_
        refine va (.int .u64 (IntKind.u64.wrap p1)) ?_
        refine va (.int .u64 ((IntKind.u64.wrap p1).tmod 10)) ?_
        refine va (.int .i64 (w64 ((IntKind.u64.wrap p1).tmod 10))) ?_
        refine va (.int .i64 (w64 ((x_60.Cells.length : Int) + (w64 ((IntKind.u64.wrap p1).tmod 10))))) ?_
        refine va (.pointer (some ⟨b6, 0, none⟩)) ?_
        refine WL.val0 (v := .slice a3 a4 a5) rfl (rx (by kernel_rfl) (run_load1 Tryd.underlying47 rfl ((fun j u hu => (m8 j u hu).mono (l16.trans (l37.trans (l60.trans (l66.trans l70))))) 0 _ rfl))) ?_
        refine WL.val0 (v := .int .i64 (p0.L.length : Int)) rfl (rx (by kernel_rfl) (run_len (ty := 3) Tryd.underlying47 (h2.mono (l9.trans (l16.trans (l37.trans (l60.trans (l66.trans l70)))))) _)) ?_
        refine va (.int .i64 p2) ?_
        refine va (.int .u64 (IntKind.u64.wrap p2)) ?_
        refine va (.int .u64 ((IntKind.u64.wrap p2).tmod 10)) ?_
        refine va (.int .i64 (w64 ((IntKind.u64.wrap p2).tmod 10))) ?_
        refine va (.int .i64 (w64 ((p0.L.length : Int) + (w64 ((IntKind.u64.wrap p2).tmod 10))))) ?_
        obtain ⟨x_81, h87, H⟩ := bs H
        refine WL.callP rfl (by kernel_rfl) (c_size_Resize O73 R74 ((hG.mono (l9.trans (l16.trans (l37.trans (l60.trans (l66.trans l70)))))).le (by decide)) (some x_37.1.place_Pen.length) (w64 ((x_60.Cells.length : Int) + (w64 ((IntKind.u64.wrap p1).tmod 10)))) (w64 ((p0.L.length : Int) + (w64 ((IntKind.u64.wrap p2).tmod 10)))) h80 h87) ?_
        rintro v93 c92 l92 ⟨G88, O89, R90, rfl⟩
        refine wln ?_
        refine sr ?_
        refine va (.pointer (some ⟨b64, 0, none⟩)) ?_
        refine va (.pointer (some ⟨b64, 0, none⟩)) ?_
        refine va (.pointer (some ⟨b64, 0, none⟩)) ?_
        obtain ⟨o_86, h94, H⟩ := bs H
        obtain ⟨v95, h97, h96⟩ := Rel.open_place_Pen R90 h94 (l92.t _ _ _ h72)
        refine WL.val0 (v := v95) rfl (rx (by kernel_rfl) (ldE1 (j := 0) Tryd.underlying51 rfl (O89.gon h97 0 rfl) rfl rfl)) ?_
        obtain ⟨x_87, h98, H⟩ := bs H
        refine WL.callP rfl (by kernel_rfl) (c_grid_Grid_Lines O89 R90 o_86.G h96 h98) ?_
        rintro v99 c106 l106 ⟨_, u100, O103, rfl, h101⟩
        refine va (v99) ?_
        refine wln ?_
        refine W.seq ?_
        refine sr ?_
        refine va (.int .i64 0) ?_
        refine wln ?_
        refine W.block ?_
        obtain ⟨o_92, h108, H109⟩ := bs H
        refine W.loop (σ := Int) (τ := (Sto × Bool) ⊕ Unit) (fun s_92 => fun e w => ∃ (c : Cx) (g : Nat → Value), w = c.w ∧ c106.le c ∧ Own c G88 (es true R_api_Line v99 62 u100 x_87 :: F) ∧ e = ups g [(3, .pointer (some ⟨b6, 0, none⟩)), (12, .int .i64 (x_60.Cells.length : Int)), (13, v99), (14, .int .i64 s_92)]) (fun t => match t with | .inl x_ => (fun rr_ ex e w => ex = .ret ∧ (fun e w => ∃ (c : Cx) (g : Nat → Value) (G_ : Gm), w = c.w ∧ c106.le c ∧ Own c G_ (F) ∧ e = ups g [(6, .bool rr_.2)] ∧ Rel c rr_.1 G_) e w) x_ | .inr x_ => (fun o_92_ ex e w => ex = .exit 0 ∧ (fun e w => ∃ (c : Cx) (g : Nat → Value), w = c.w ∧ c106.le c ∧ Own c G88 (es true R_api_Line v99 62 u100 x_87 :: F) ∧ e = ups g [(3, .pointer (some ⟨b6, 0, none⟩)), (13, v99)]) e w) x_) ?_ h108 ?_ ?_
        · clear H109 h108
          intro s_92 xx_ ee_ ww_ H
          revert ee_ ww_
          rintro e_ w_ ⟨c110, g111, rfl, l110, O112, rfl⟩
          refine W.seq ?_
          refine sr ?_
          refine va (.int .i64 s_92) ?_
          refine va (v99) ?_
          refine WL.val0 (v := .int .i64 (x_87.length : Int)) rfl (rx (by kernel_rfl) (run_lenO (ty := 3) Tryd.underlying47 (h101.mono l110) _)) ?_
          refine va (.bool (decide (s_92 < (x_87.length : Int)))) ?_
          refine wln ?_
          refine W.cond (t := decide (s_92 < (x_87.length : Int))) (by kernel_rfl) (fun h116 => ?_) (fun h116 => ?_)
          · have H := it h116 H
            refine W.skip ?_
            refine nrm ?_
            refine W.seq ?_
            refine W.block ?_
            refine W.seq ?_
            obtain ⟨x_100, h117, H⟩ := bs H
            obtain ⟨d_103, h118, H⟩ := bs H
            refine W.join (fun e w => ∃ (c : Cx) (g : Nat → Value), w = c.w ∧ c110.le c ∧ Own c G88 (es true R_api_Line v99 62 u100 x_87 :: F) ∧ e = ups g [(3, .pointer (some ⟨b6, 0, none⟩)), (12, .int .i64 (x_60.Cells.length : Int)), (13, v99), (14, .int .i64 s_92), (116, .bool d_103)]) ?_ ?_
            · clear H
              refine W.regionD [] (Kp G0 [es true R_api_Line v99 62 u100 x_87]) O112 (by kernel_rfl) ?_
              intro c119 l119 O120
              have p121 : Kp G0 [es true R_api_Line v99 62 u100 x_87] c119 := (Kp.cons (O120.on 0 rfl) Kp.nil0)
              refine ta 0 (v99) ?_
              refine ta 1 (.int .i64 s_92) ?_
              refine AC.take 2 (.pointer (some ⟨sb v99, s_92.toNat * 2, none⟩)) rfl (by kernel_rfl) (by kernel_rfl) (fun c' hle => (rx (by kernel_rfl) (run_indexO (k := .i64) Tryd.underlying47 (by kernel_rfl) (h101.mono (l110.trans l119)) h117 _))) ?_
              refine ta 3 (.pointer (some ⟨sb v99, s_92.toNat * 2 + 1, none⟩)) ?_
              obtain ⟨l_122, h123, m124⟩ := OA.at (h101.mono (l110.trans l119)) h117
              obtain ⟨v125, rfl, h126⟩ := h123
              refine AC.takeK 4 (.bool x_100.Wrap) p121 rfl (by kernel_rfl) (by kernel_rfl) (by kernel_rfl) (fun c' hle hk => (rx (by kernel_rfl) (ldE1 Tryd.underlying4 rfl (hk.on 0 rfl) ((h101.mono (l110.trans l119)).blk h117) (at1 (j := 1) m124 rfl)))) ?_
              rcases Bool.eq_false_or_eq_true (x_100.Wrap) with h127 | h127
              · skip
                obtain rfl := orT h127 h118
                refine AC.takeb 5 h127 rfl (by kernel_rfl) (by kernel_rfl) (fun c' hle => (by kernel_rfl)) ?_
                refine AC.pass 6 rfl (by kernel_rfl) (by kernel_rfl) ?_
                refine AC.pass 7 rfl (by kernel_rfl) (by kernel_rfl) ?_
                refine AC.pass 8 rfl (by kernel_rfl) (by kernel_rfl) ?_
                refine AC.pass 9 rfl (by kernel_rfl) (by kernel_rfl) ?_
                refine AC.pass 10 rfl (by kernel_rfl) (by kernel_rfl) ?_
                refine AC.pass 11 rfl (by kernel_rfl) (by kernel_rfl) ?_
                refine AC.pass 12 rfl (by kernel_rfl) (by kernel_rfl) ?_
                refine AC.pass 13 rfl (by kernel_rfl) (by kernel_rfl) ?_
                refine AC.pass 14 rfl (by kernel_rfl) (by kernel_rfl) ?_
                refine AC.pass 15 rfl (by kernel_rfl) (by kernel_rfl) ?_
                refine AC.pass 16 rfl (by kernel_rfl) (by kernel_rfl) ?_
                refine AC.pass 17 rfl (by kernel_rfl) (by kernel_rfl) ?_
                refine AC.pass 18 rfl (by kernel_rfl) (by kernel_rfl) ?_
                refine AC.pass 19 rfl (by kernel_rfl) (by kernel_rfl) ?_
                refine AC.pass 20 rfl (by kernel_rfl) (by kernel_rfl) ?_
                refine AC.pass 21 rfl (by kernel_rfl) (by kernel_rfl) ?_
                refine AC.pass 22 rfl (by kernel_rfl) (by kernel_rfl) ?_
                refine AC.pass 23 rfl (by kernel_rfl) (by kernel_rfl) ?_
                refine AC.pass 24 rfl (by kernel_rfl) (by kernel_rfl) ?_
                refine AC.pass 25 rfl (by kernel_rfl) (by kernel_rfl) ?_
                refine AC.pass 26 rfl (by kernel_rfl) (by kernel_rfl) ?_
                refine AC.pass 27 rfl (by kernel_rfl) (by kernel_rfl) ?_
                refine ta 28 (.bool true) ?_
                refine AC.done (by kernel_rfl) ?_
                refine nrm ?_
                exact ⟨c119, _, rfl, l119, O120, ups_self ⟨rfl, rfl, rfl, rfl, rfl, trivial⟩⟩
              · skip
                have H128 := orF h127 h118
                refine AC.takeb 5 h127 rfl (by kernel_rfl) (by kernel_rfl) (fun c' hle => (by kernel_rfl)) ?_
                refine ta 6 (.int .i64 s_92) ?_
                refine ta 7 (.pointer (some ⟨b6, 0, none⟩)) ?_
                refine AC.take 8 (.slice a3 a4 a5) rfl (by kernel_rfl) (by kernel_rfl) (fun c' hle => (rx (by kernel_rfl) (run_load1 Tryd.underlying47 rfl ((fun j u hu => (m8 j u hu).mono ((l16.trans (l37.trans (l60.trans (l66.trans (l70.trans (l92.trans (l106.trans (l110.trans l119)))))))).trans hle)) 0 _ rfl)))) ?_
                refine AC.take 9 (.int .i64 (p0.L.length : Int)) rfl (by kernel_rfl) (by kernel_rfl) (fun c' hle => (rx (by kernel_rfl) (run_len (ty := 3) Tryd.underlying47 (h2.mono (l9.trans (l16.trans (l37.trans (l60.trans (l66.trans (l70.trans (l92.trans (l106.trans (l110.trans l119)))))))))) _))) ?_
                refine ta 10 (.bool (decide (s_92 < (p0.L.length : Int)))) ?_
                obtain ⟨d_110, h129, H128⟩ := bs H128
                rcases Bool.eq_false_or_eq_true (decide (s_92 < (p0.L.length : Int))) with h130 | h130
                · skip
                  have H131 := anT h130 h129
                  refine AC.takeb 11 h130 rfl (by kernel_rfl) (by kernel_rfl) (fun c' hle => (by kernel_rfl)) ?_
                  refine ta 12 (v99) ?_
                  refine ta 13 (.int .i64 s_92) ?_
                  obtain ⟨x_114, h132, H131⟩ := bs H131
                  refine AC.take 14 (.pointer (some ⟨sb v99, s_92.toNat * 2, none⟩)) rfl (by kernel_rfl) (by kernel_rfl) (fun c' hle => (rx (by kernel_rfl) (run_indexO (k := .i64) Tryd.underlying47 (by kernel_rfl) (h101.mono (l110.trans l119)) h132 _))) ?_
                  refine ta 15 (.pointer (some ⟨sb v99, s_92.toNat * 2, none⟩)) ?_
                  obtain ⟨l_133, h134, m135⟩ := OA.at (h101.mono (l110.trans l119)) h132
                  obtain ⟨v136, rfl, h137⟩ := h134
                  refine AC.takeK 16 (v136) p121 rfl (by kernel_rfl) (by kernel_rfl) (by kernel_rfl) (fun c' hle hk => (rx (by kernel_rfl) (ldE1 Tryd.underlying22 rfl (hk.on 0 rfl) ((h101.mono (l110.trans l119)).blk h132) (at1 (j := 0) m135 rfl)))) ?_
                  refine ta 17 (.int .i64 (x_60.Cells.length : Int)) ?_
                  obtain ⟨x_118, h138, H131⟩ := bs H131
                  obtain ⟨v139, h140, h141⟩ := run_cutH (k' := .i64) Tryd.underlying22 (by kernel_rfl) h137 h138
                  refine AC.take 18 (v139) rfl (by kernel_rfl) (by kernel_rfl) (fun c' hle => (rx (by kernel_rfl) (h140 _))) ?_
                  refine ta 19 (.pointer (some ⟨b6, 0, none⟩)) ?_
                  refine AC.take 20 (.slice a3 a4 a5) rfl (by kernel_rfl) (by kernel_rfl) (fun c' hle => (rx (by kernel_rfl) (run_load1 Tryd.underlying47 rfl ((fun j u hu => (m8 j u hu).mono ((l16.trans (l37.trans (l60.trans (l66.trans (l70.trans (l92.trans (l106.trans (l110.trans l119)))))))).trans hle)) 0 _ rfl)))) ?_
                  refine ta 21 (.int .i64 s_92) ?_
                  obtain ⟨x_122, h142, H131⟩ := bs H131
                  obtain ⟨l_143, h144, m145⟩ := Sl.at (h2.mono (l9.trans (l16.trans (l37.trans (l60.trans (l66.trans (l70.trans (l92.trans (l106.trans (l110.trans l119)))))))))) (idx_get h142)
                  obtain ⟨v146, rfl, h147⟩ := h144
                  refine AC.take 22 (.pointer (some ⟨sb (.slice a3 a4 a5), so (.slice a3 a4 a5) + s_92.toNat * 2, none⟩)) rfl (by kernel_rfl) (by kernel_rfl) (fun c' hle => (rx (by kernel_rfl) (run_index (k := .i64) Tryd.underlying47 (by kernel_rfl) (h2.mono (l9.trans (l16.trans (l37.trans (l60.trans (l66.trans (l70.trans (l92.trans (l106.trans (l110.trans l119)))))))))) h142 _))) ?_
                  refine ta 23 (.pointer (some ⟨sb (.slice a3 a4 a5), so (.slice a3 a4 a5) + s_92.toNat * 2, none⟩)) ?_
                  refine AC.take 24 (v146) rfl (by kernel_rfl) (by kernel_rfl) (fun c' hle => (rx (by kernel_rfl) (run_load1 Tryd.underlying22 rfl ((fun j u hu => (m145 j u hu).mono hle) 0 _ rfl)))) ?_
                  obtain ⟨x_125, h148, H131⟩ := bs H131
                  refine AC.one 25 (by kernel_rfl) (Go1.callP 25 rfl (by kernel_rfl) (by kernel_rfl) (by kernel_rfl) (c_linotyperef23_Same O120 x_118 x_122.Cells h141 h147 h148) ?_)
                  rintro v154 c153 l153 ⟨O150, rfl⟩
                  have p155 : Kp G0 [es true R_api_Line v99 62 u100 x_87] c153 := (Kp.cons (O150.on 0 rfl) Kp.nil0)
                  refine ⟨.inr p155, ?_⟩
                  refine ta 26 (.bool (!x_125)) ?_
                  obtain rfl := Option.some.inj H131
                  refine ta 27 (.bool (!x_125)) ?_
                  obtain rfl := Option.some.inj H128
                  refine ta 28 (.bool (!x_125)) ?_
                  refine AC.done (by kernel_rfl) ?_
                  refine nrm ?_
                  exact ⟨c153, _, rfl, (l119.trans l153), O150, ups_self ⟨rfl, rfl, rfl, rfl, rfl, trivial⟩⟩
                · skip
                  obtain rfl := anF h130 h129
                  refine AC.takeb 11 h130 rfl (by kernel_rfl) (by kernel_rfl) (fun c' hle => (by kernel_rfl)) ?_
                  refine AC.pass 12 rfl (by kernel_rfl) (by kernel_rfl) ?_
                  refine AC.pass 13 rfl (by kernel_rfl) (by kernel_rfl) ?_
                  refine AC.pass 14 rfl (by kernel_rfl) (by kernel_rfl) ?_
                  refine AC.pass 15 rfl (by kernel_rfl) (by kernel_rfl) ?_
                  refine AC.pass 16 rfl (by kernel_rfl) (by kernel_rfl) ?_
                  refine AC.pass 17 rfl (by kernel_rfl) (by kernel_rfl) ?_
                  refine AC.pass 18 rfl (by kernel_rfl) (by kernel_rfl) ?_
                  refine AC.pass 19 rfl (by kernel_rfl) (by kernel_rfl) ?_
                  refine AC.pass 20 rfl (by kernel_rfl) (by kernel_rfl) ?_
                  refine AC.pass 21 rfl (by kernel_rfl) (by kernel_rfl) ?_
                  refine AC.pass 22 rfl (by kernel_rfl) (by kernel_rfl) ?_
                  refine AC.pass 23 rfl (by kernel_rfl) (by kernel_rfl) ?_
                  refine AC.pass 24 rfl (by kernel_rfl) (by kernel_rfl) ?_
                  refine AC.pass 25 rfl (by kernel_rfl) (by kernel_rfl) ?_
                  refine AC.pass 26 rfl (by kernel_rfl) (by kernel_rfl) ?_
                  refine ta 27 (.bool false) ?_
                  obtain rfl := Option.some.inj H128
                  refine ta 28 (.bool false) ?_
                  refine AC.done (by kernel_rfl) ?_
                  refine nrm ?_
                  exact ⟨c119, _, rfl, l119, O120, ups_self ⟨rfl, rfl, rfl, rfl, rfl, trivial⟩⟩
            · skip
              rintro e_ w_ ⟨c156, g157, rfl, l156, O158, rfl⟩
              refine nrm ?_
              refine W.cond (t := d_103) (by kernel_rfl) (fun h162 => ?_) (fun h162 => ?_)
              · have H := it h162 H
                refine sr ?_
                refine va (.bool false) ?_
                refine wln ?_
                refine W.ret ?_
                refine bkr ?_
                refine thr ?_
                obtain rfl := Option.some.inj H
                refine ⟨_, rfl, ?_⟩
                refine ⟨rfl, ?_⟩
                have O163 := O158.selD 1 [] (by kernel_rfl) (by kernel_rfl)
                exact ⟨c156, _, G88, rfl, (l110.trans l156), O163, ups_self ⟨rfl, trivial⟩, (R90.mono (l106.trans (l110.trans l156)))⟩
              · have H := ie h162 H
                refine W.skip ?_
                refine bkn ?_
                refine nrm ?_
                refine W.region ?_
                refine va (.int .i64 s_92) ?_
                refine va (.int .i64 (w64 (s_92 + 1))) ?_
                refine va (.int .i64 (w64 (s_92 + 1))) ?_
                refine WL.nil ?_
                obtain rfl := Option.some.inj H
                refine ⟨_, rfl, ?_⟩
                exact ⟨c156, _, rfl, (l110.trans l156), O158, ups_self ⟨rfl, rfl, rfl, rfl, trivial⟩⟩
          · have H := ie h116 H
            refine W.exit ?_
            refine thx ?_
            obtain rfl := Option.some.inj H
            refine ⟨_, rfl, rfl, ?_⟩
            exact ⟨c110, _, rfl, l110, O112, ups_self ⟨rfl, rfl, trivial⟩⟩
        · skip
          exact ⟨c106, _, rfl, (Cx.le.refl _), O103, ups_self ⟨rfl, rfl, rfl, rfl, trivial⟩⟩
        · skip
          rcases o_92 with o_92 | o_92
          · skip
            intro ex_; revert ex_
            rintro _ e_ w_ ⟨rfl, c164, g165, G167, rfl, l164, O166, rfl, R168⟩
            refine bkr ?_
            refine thr ?_
            obtain rfl := Option.some.inj H109
            exact ret1 (v := .bool o_92.2) rfl (by kernel_rfl) ⟨_, c164, rfl, rfl, (l9.trans (l16.trans (l37.trans (l60.trans (l66.trans (l70.trans (l92.trans (l106.trans l164)))))))), G167, O166, R168, rfl⟩
          · skip
            rintro _ e_ w_ ⟨rfl, c170, g171, rfl, l170, O172, rfl⟩
            refine bke ?_
            refine nrm ?_
            refine sr ?_
            refine va (v99) ?_
            refine WL.val0 (v := .int .i64 (x_87.length : Int)) rfl (rx (by kernel_rfl) (run_lenO (ty := 3) Tryd.underlying47 (h101.mono l170) _)) ?_
            refine va (.pointer (some ⟨b6, 0, none⟩)) ?_
            refine WL.val0 (v := .slice a3 a4 a5) rfl (rx (by kernel_rfl) (run_load1 Tryd.underlying47 rfl ((fun j u hu => (m8 j u hu).mono (l16.trans (l37.trans (l60.trans (l66.trans (l70.trans (l92.trans (l106.trans l170)))))))) 0 _ rfl))) ?_
            refine WL.val0 (v := .int .i64 (p0.L.length : Int)) rfl (rx (by kernel_rfl) (run_len (ty := 3) Tryd.underlying47 (h2.mono (l9.trans (l16.trans (l37.trans (l60.trans (l66.trans (l70.trans (l92.trans (l106.trans l170))))))))) _)) ?_
            refine va (.bool (decide ((x_87.length : Int) ≥ (p0.L.length : Int)))) ?_
            refine va (.bool (decide ((x_87.length : Int) ≥ (p0.L.length : Int)))) ?_
            refine wln ?_
            refine W.ret ?_
            obtain rfl := Option.some.inj H109
            have O176 := O172.selD 1 [] (by kernel_rfl) (by kernel_rfl)
            exact ret1 (v := .bool (decide ((x_87.length : Int) ≥ (p0.L.length : Int)))) rfl (by kernel_rfl) ⟨_, c170, rfl, rfl, (l9.trans (l16.trans (l37.trans (l60.trans (l66.trans (l70.trans (l92.trans (l106.trans l170)))))))), G88, O176, (R90.mono (l106.trans l170)), rfl⟩

end Go.Proofs.YtohpkblleihmaaaDoor
