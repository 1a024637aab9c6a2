import Derived.Test.YtohpkblleihmaaaDoorMx
import Derived.Test.YtohpkblleihmaaaDoorProg
import Derived.Test.YtohpkblleihmaaaDoorMy
import Derived.Test.YtohpkblleihmaaaDoorMz
import Derived.Test.YtohpkblleihmaaaDoorA1
import Derived.Test.YtohpkblleihmaaaDoorG1
import Derived.Test.YtohpkblleihmaaaDoorM1
import Derived.Test.YtohpkblleihmaaaDoorN1
import Derived.Test.YtohpkblleihmaaaDoorZ1
namespace Go.Proofs.YtohpkblleihmaaaDoor
open Go Go.Lt
set_option maxRecDepth 10000
set_option linter.unusedVariables false
attribute [local irreducible] W WL AC
def f_linotypelaw39_SizeTurns (sg : Sto) (p0 : G_linotypelaw35_Start) (p1 : List (Int × Int)) : Option (Sto × Bool) :=
  (f_linotyperef32_Wrong p0.L).bind fun x_6 =>
  (f_linotypelaw39_works sg).bind fun x_13 =>
  (orE (!x_13.2) (some (decide ((p0.L.length : Int) > 20)))).bind fun d_15 =>
  (orE d_15 (some ((p0.L.length : Int) == 0))).bind fun d_21 =>
  (orE d_21 (some (decide (x_6.1 ≥ 0)))).bind fun d_27 =>
  (orE d_27 (some (decide ((p1.length : Int) > 8)))).bind fun d_31 =>
  if d_31 = true then
  (f_linotypelaw39_works x_13.1).bind fun x_37 =>
  some (x_37.1, x_37.2)
  else
  (f_grid_Of x_13.1 p0.L).bind fun x_42 =>
  if (!x_42.2.2.isNil) = true then
  some (x_42.1, false)
  else
  (some (x_42.1.add_place_Pen (⟨x_42.2.1, (⟨p0.At.Row, p0.At.Col, p0.At.Pending⟩ : G_api_Cursor), p0.Auto⟩ : G_place_Pen))).bind fun s_60001 =>
  (iter (σ := Int × (List G_api_Line) × Int × Int × Bool × Bool × Sto) (τ := (Sto × Bool) ⊕ ((List G_api_Line) × Int × Int × Bool × Bool × Sto)) (((p1.length : Int) - 0).toNat + 1) (fun s_75 =>
  if (decide (s_75.1 < (p1.length : Int))) = true then
  (idx p1 s_75.1).bind fun x_83 =>
  (andE (decide (x_83.1 > 200)) ((idx p1 s_75.1).bind fun x_91 =>
  some (decide (x_91.2 > 200)))).bind fun d_87 =>
  if d_87 = true then
  some (.inr (.inl (s_75.2.2.2.2.2.2, true)))
  else
  (idx p1 s_75.1).bind fun x_101 =>
  (idx p1 s_75.1).bind fun x_106 =>
  (f_size_Resize s_75.2.2.2.2.2.2 (some x_42.1.place_Pen.length) x_101.1 x_106.2).bind fun x_109 =>
  (idx p1 s_75.1).bind fun x_113 =>
  (idx p1 s_75.1).bind fun x_118 =>
  (f_size_Resize x_109 (none : Option Nat) x_113.1 x_118.2).bind fun x_121 =>
  (idx p1 s_75.1).bind fun x_126 =>
  (idx p1 s_75.1).bind fun x_131 =>
  (f_linotyperef39_Resize (⟨s_75.2.1, (⟨s_75.2.2.1, s_75.2.2.2.1, s_75.2.2.2.2.1⟩ : G_api_Cursor), s_75.2.2.2.2.2.1⟩ : G_linotyperef34_Pen) x_126.1 x_131.2).bind fun x_134 =>
  (f_linotypelaw34_Alike x_121 (some x_42.1.place_Pen.length) x_134).bind fun x_139 =>
  if (!x_139) = true then
  some (.inr (.inl (x_121, false)))
  else
  some (.inl ((w64 (s_75.1 + 1)), x_134.L, x_134.At.Row, x_134.At.Col, x_134.At.Pending, x_134.Auto, x_121))
  else
  some (.inr (.inr (s_75.2.1, s_75.2.2.1, s_75.2.2.2.1, s_75.2.2.2.2.1, s_75.2.2.2.2.2.1, s_75.2.2.2.2.2.2)))) (0, p0.L, p0.At.Row, p0.At.Col, p0.At.Pending, p0.Auto, s_60001)).bind fun o_75 =>
  match o_75 with
  | .inl o_75 =>
  some o_75
  | .inr o_75 =>
  some (o_75.2.2.2.2.2, true)
theorem c_linotypelaw39_SizeTurns {c0 : Cx} {G : Gm} {F : List En} {sg : Sto} {v1 : Value} {v3 : Value} (O0 : Own c0 G F) (R0 : Rel c0 sg G) (hG : Gl [0, 1] c0) (p0 : G_linotypelaw35_Start) (p1 : List (Int × Int)) {r : Sto × Bool} (h2 : Sl R_api_Line c0 v1 p0.L) (h4 : Sl RA2_i64 c0 v3 p1) (H : f_linotypelaw39_SizeTurns sg p0 p1 = some r) :
    Calls Tryd.prog 19 #[.agg #[v1, .int .i64 p0.At.Row, .int .i64 p0.At.Col, .bool p0.At.Pending, .bool p0.Auto], v3] c0.w (Post c0 fun c v => ∃ G_ : Gm, Own c G_ (F) ∧ Rel c r.1 G_ ∧ v = .bool r.2) := by
  unfold f_linotypelaw39_SizeTurns at H
  refine enter (l := [.agg #[v1, .int .i64 p0.At.Row, .int .i64 p0.At.Col, .bool p0.At.Pending, .bool p0.Auto], v3]) Tryd.func19 rfl rfl rfl ?_
  refine sr ?_
  obtain ⟨a5, a6, a7, rfl⟩ := (h2).form
  refine WL.mem rfl (Own.bx (T := 136) (vs := [.slice a5 a6 a7, .int .i64 p0.At.Row, .int .i64 p0.At.Col, .bool p0.At.Pending, .bool p0.Auto]) O0 (by kernel_rfl)) ?_
  rintro v12 c11 l11 ⟨b8, rfl, O9, m10⟩
  refine va (.bool false) ?_
  refine wln ?_
  refine sr ?_
  refine va (.pointer (some ⟨b8, 0, none⟩)) ?_
  refine WL.val0 (v := .slice a5 a6 a7) rfl (rx (by kernel_rfl) (run_load1 Tryd.underlying47 rfl (m10 0 _ rfl))) ?_
  obtain ⟨x_6, h13, H⟩ := bs H
  refine WL.callP rfl (by kernel_rfl) (c_linotyperef32_Wrong O9 p0.L (h2.mono l11) h13) ?_
  rintro v19 c18 l18 ⟨O15, rfl⟩
  refine va (.tuple #[.int .i64 x_6.1, .int .i64 x_6.2]) ?_
  refine va (.int .i64 x_6.1) ?_
  refine va (.int .i64 x_6.2) ?_
  refine va (.int .i64 x_6.1) ?_
  refine va (.int .i64 x_6.2) ?_
  refine wln ?_
  refine W.seq ?_
  refine W.seq ?_
  obtain ⟨x_13, h20, H⟩ := bs H
  obtain ⟨d_15, h21, H⟩ := bs H
  obtain ⟨d_21, h22, H⟩ := bs H
  obtain ⟨d_27, h23, H⟩ := bs H
  obtain ⟨d_31, h24, H⟩ := bs H
  refine W.join (fun e w => ∃ (c : Cx) (g : Nat → Value) (G_ : Gm), w = c.w ∧ c18.le c ∧ Own c G_ (F) ∧ e = ups g [(1, v3), (2, .pointer (some ⟨b8, 0, none⟩)), (40, .bool d_31)] ∧ Rel c x_13.1 G_) ?_ ?_
  · clear H
    refine W.region ?_
    refine WL.callP rfl (by kernel_rfl) (c_linotypelaw39_works O15 (R0.mono (l11.trans l18)) ((hG.mono (l11.trans l18)).le (by decide)) h20) ?_
    rintro v30 c29 l29 ⟨G25, O26, R27, rfl⟩
    refine va (.bool (!x_13.2)) ?_
    rcases Bool.eq_false_or_eq_true (!x_13.2) with h31 | h31
    · skip
      obtain rfl := orT h31 h21
      refine vb h31 ?_
      refine ps ?_
      refine ps ?_
      refine ps ?_
      refine ps ?_
      refine va (.bool true) ?_
      have h32 : true = true := rfl
      obtain rfl := orT h32 h22
      refine vb h32 ?_
      refine ps ?_
      refine ps ?_
      refine ps ?_
      refine ps ?_
      refine va (.bool true) ?_
      have h33 : true = true := rfl
      obtain rfl := orT h33 h23
      refine vb h33 ?_
      refine ps ?_
      refine ps ?_
      refine va (.bool true) ?_
      have h34 : true = true := rfl
      obtain rfl := orT h34 h24
      refine vb h34 ?_
      refine ps ?_
      refine ps ?_
      refine ps ?_
      refine va (.bool true) ?_
      refine wln ?_
      exact ⟨c29, _, G25, rfl, l29, O26, ups_self ⟨rfl, rfl, rfl, trivial⟩, R27⟩
    · skip
      have H35 := orF h31 h21
      refine vb h31 ?_
      refine wn ?_
      refine va (.pointer (some ⟨b8, 0, none⟩)) ?_
      refine wn ?_
      refine WL.val0 (v := .slice a5 a6 a7) rfl (rx (by kernel_rfl) (run_load1 Tryd.underlying47 rfl ((fun j u hu => (m10 j u hu).mono (l18.trans l29)) 0 _ rfl))) ?_
      refine wn ?_
      refine WL.val0 (v := .int .i64 (p0.L.length : Int)) rfl (rx (by kernel_rfl) (run_len (ty := 3) Tryd.underlying47 (h2.mono (l11.trans (l18.trans l29))) _)) ?_
      refine wn ?_
      refine va (.bool (decide ((p0.L.length : Int) > 20))) ?_
      obtain rfl := Option.some.inj H35
      refine va (.bool (decide ((p0.L.length : Int) > 20))) ?_
      rcases Bool.eq_false_or_eq_true (decide ((p0.L.length : Int) > 20)) with h36 | h36
      · skip
        obtain rfl := orT h36 h22
        refine vb h36 ?_
        refine ps ?_
        refine ps ?_
        refine ps ?_
        refine ps ?_
        refine va (.bool true) ?_
        have h37 : true = true := rfl
        obtain rfl := orT h37 h23
        refine vb h37 ?_
        refine ps ?_
        refine ps ?_
        refine va (.bool true) ?_
        have h38 : true = true := rfl
        obtain rfl := orT h38 h24
        refine vb h38 ?_
        refine ps ?_
        refine ps ?_
        refine ps ?_
        refine va (.bool true) ?_
        refine wln ?_
        exact ⟨c29, _, G25, rfl, l29, O26, ups_self ⟨rfl, rfl, rfl, trivial⟩, R27⟩
      · skip
        have H39 := orF h36 h22
        refine vb h36 ?_
        refine wn ?_
        refine va (.pointer (some ⟨b8, 0, none⟩)) ?_
        refine wn ?_
        refine WL.val0 (v := .slice a5 a6 a7) rfl (rx (by kernel_rfl) (run_load1 Tryd.underlying47 rfl ((fun j u hu => (m10 j u hu).mono (l18.trans l29)) 0 _ rfl))) ?_
        refine wn ?_
        refine WL.val0 (v := .int .i64 (p0.L.length : Int)) rfl (rx (by kernel_rfl) (run_len (ty := 3) Tryd.underlying47 (h2.mono (l11.trans (l18.trans l29))) _)) ?_
        refine wn ?_
        refine va (.bool ((p0.L.length : Int) == 0)) ?_
        obtain rfl := Option.some.inj H39
        refine va (.bool ((p0.L.length : Int) == 0)) ?_
        rcases Bool.eq_false_or_eq_true ((p0.L.length : Int) == 0) with h40 | h40
        · skip
          obtain rfl := orT h40 h23
          refine vb h40 ?_
          refine ps ?_
          refine ps ?_
          refine va (.bool true) ?_
          have h41 : true = true := rfl
          obtain rfl := orT h41 h24
          refine vb h41 ?_
          refine ps ?_
          refine ps ?_
          refine ps ?_
          refine va (.bool true) ?_
          refine wln ?_
          exact ⟨c29, _, G25, rfl, l29, O26, ups_self ⟨rfl, rfl, rfl, trivial⟩, R27⟩
        · skip
          have H42 := orF h40 h23
          refine vb h40 ?_
          refine wn ?_
          refine va (.int .i64 x_6.1) ?_
          refine wn ?_
          refine va (.bool (decide (x_6.1 ≥ 0))) ?_
          obtain rfl := Option.some.inj H42
          refine va (.bool (decide (x_6.1 ≥ 0))) ?_
          rcases Bool.eq_false_or_eq_true (decide (x_6.1 ≥ 0)) with h43 | h43
          · skip
            obtain rfl := orT h43 h24
            refine vb h43 ?_
            refine ps ?_
            refine ps ?_
            refine ps ?_
            refine va (.bool true) ?_
            refine wln ?_
            exact ⟨c29, _, G25, rfl, l29, O26, ups_self ⟨rfl, rfl, rfl, trivial⟩, R27⟩
          · skip
            have H44 := orF h43 h24
            refine vb h43 ?_
            refine wn ?_
            refine va (v3) ?_
            refine wn ?_
            refine WL.val0 (v := .int .i64 (p1.length : Int)) rfl (rx (by kernel_rfl) (run_len (ty := 3) Tryd.underlying141 (h4.mono (l11.trans (l18.trans l29))) _)) ?_
            refine wn ?_
            refine va (.bool (decide ((p1.length : Int) > 8))) ?_
            obtain rfl := Option.some.inj H44
            refine va (.bool (decide ((p1.length : Int) > 8))) ?_
            refine wln ?_
            exact ⟨c29, _, G25, rfl, l29, O26, ups_self ⟨rfl, rfl, rfl, trivial⟩, R27⟩
  · skip
    rintro e_ w_ ⟨c45, g46, G48, rfl, l45, O47, rfl, R49⟩
    refine nrm ?_
    refine W.cond (t := d_31) (by kernel_rfl) (fun h51 => ?_) (fun h51 => ?_)
    · have H := it h51 H
      refine sr ?_
      obtain ⟨x_37, h52, H⟩ := bs H
      refine WL.callP rfl (by kernel_rfl) (c_linotypelaw39_works O47 R49 ((hG.mono (l11.trans (l18.trans l45))).le (by decide)) h52) ?_
      rintro v58 c57 l57 ⟨G53, O54, R55, rfl⟩
      refine va (.bool x_37.2) ?_
      refine wln ?_
      refine W.ret ?_
      refine thr ?_
      obtain rfl := Option.some.inj H
      exact ret1 (v := .bool x_37.2) rfl (by kernel_rfl) ⟨_, c57, rfl, rfl, (l11.trans (l18.trans (l45.trans l57))), G53, O54, R55, rfl⟩
    · have H := ie h51 H
      refine W.skip ?_
      refine nrm ?_
      refine sr ?_
      refine va (.pointer (some ⟨b8, 0, none⟩)) ?_
      refine WL.val0 (v := .slice a5 a6 a7) rfl (rx (by kernel_rfl) (run_load1 Tryd.underlying47 rfl ((fun j u hu => (m10 j u hu).mono (l18.trans l45)) 0 _ rfl))) ?_
      obtain ⟨x_42, h59, H⟩ := bs H
      refine WL.callP rfl (by kernel_rfl) (c_grid_Of O47 R49 ((hG.mono (l11.trans (l18.trans l45))).le (by decide)) p0.L (h2.mono (l11.trans (l18.trans l45))) h59) ?_
      rintro v69 c68 l68 ⟨v60, v62, G64, O65, R66, rfl, h61, h63⟩
      refine va (.tuple #[v60, v62]) ?_
      refine va (v60) ?_
      refine va (v62) ?_
      refine va (v60) ?_
      refine va (v62) ?_
      refine wln ?_
      refine W.seq ?_
      refine sr ?_
      refine va (v62) ?_
      refine WL.val0 (v := .bool (!x_42.2.2.isNil)) rfl (by rcases (h63).cs with ⟨h1_, h2_⟩ | ⟨b_, h1_, h2_⟩ | ⟨b_, h1_, h2_⟩ <;> (subst h1_; rw [h2_]; kernel_rfl)) ?_
      refine wln ?_
      refine W.cond (t := !x_42.2.2.isNil) (by kernel_rfl) (fun h70 => ?_) (fun h70 => ?_)
      · have H := it h70 H
        refine sr ?_
        refine va (.bool false) ?_
        refine wln ?_
        refine W.ret ?_
        refine thr ?_
        obtain rfl := Option.some.inj H
        exact ret1 (v := .bool false) rfl (by kernel_rfl) ⟨_, c68, rfl, rfl, (l11.trans (l18.trans (l45.trans l68))), G64, O65, R66, rfl⟩
      · have H := ie h70 H
        refine W.skip ?_
        refine nrm ?_
        refine sr ?_
        refine va (v60) ?_
        refine va (.pointer (some ⟨b8, 0 + 1, none⟩)) ?_
        refine WL.val0 (v := .agg #[.int .i64 p0.At.Row, .int .i64 p0.At.Col, .bool p0.At.Pending]) rfl (rx (by kernel_rfl) (run_loadN (T := 120) (by kernel_rfl) (by kernel_rfl) (imsub (k := 1) (l := [.int .i64 p0.At.Row, .int .i64 p0.At.Col, .bool p0.At.Pending]) (fun j u hu => (m10 j u hu).mono (l18.trans (l45.trans l68))) rfl))) ?_
        refine va (.pointer (some ⟨b8, 0 + 4, none⟩)) ?_
        refine WL.val0 (v := .bool p0.Auto) rfl (rx (by kernel_rfl) (run_load1 Tryd.underlying4 rfl ((fun j u hu => (m10 j u hu).mono (l18.trans (l45.trans l68))) 4 _ rfl))) ?_
        obtain ⟨a71, rfl⟩ := (h61).form
        refine va (.agg #[.pointer a71, .int .i64 p0.At.Row, .int .i64 p0.At.Col, .bool p0.At.Pending, .bool p0.Auto]) ?_
        refine WL.mem rfl (Own.al (T := 131) (vs := [.pointer a71, .int .i64 p0.At.Row, .int .i64 p0.At.Col, .bool p0.At.Pending, .bool p0.Auto]) O65 (by kernel_rfl)) ?_
        rintro v75 c74 l74 ⟨b72, rfl, O73⟩
        have O76 := O73.selD 1 [0] (by kernel_rfl) (by kernel_rfl)
        obtain ⟨s_60001, h77, H⟩ := bs H
        obtain ⟨c78, G86, h79, l78, h80, O81, R82, h83, h84, a85⟩ := Rel.new_place_Pen (E := [⟨.pointer (some ⟨b72, 0, none⟩), 131, [.pointer a71, .int .i64 p0.At.Row, .int .i64 p0.At.Col, .bool p0.At.Pending, .bool p0.Auto], 0⟩]) (F := F) (x := (⟨x_42.2.1, (⟨p0.At.Row, p0.At.Col, p0.At.Pending⟩ : G_api_Cursor), p0.Auto⟩ : G_place_Pen)) (b := b72) O76 (R66.mono l74) (fun c_ hle_ => ⟨b72, (.pointer a71), rfl, rfl, (h61.mono (l74.trans hle_))⟩)
        rw [Option.some.inj h77] at R82
        refine WL.gh h79.1 ?_
        have h88 : Pt 2 c78 (.pointer (some ⟨b72, 0, none⟩)) (some x_42.1.place_Pen.length) := ⟨b72, rfl, h80⟩
        refine va (.pointer (some ⟨b72, 0, none⟩)) ?_
        refine wln ?_
        refine sr ?_
        refine va (.pointer (some ⟨b8, 0, none⟩)) ?_
        refine WL.val0 (v := .slice a5 a6 a7) rfl (rx (by kernel_rfl) (run_load1 Tryd.underlying47 rfl ((fun j u hu => (m10 j u hu).mono (l18.trans (l45.trans (l68.trans (l74.trans l78))))) 0 _ rfl))) ?_
        refine va (.pointer (some ⟨b8, 0 + 1, none⟩)) ?_
        refine WL.val0 (v := .agg #[.int .i64 p0.At.Row, .int .i64 p0.At.Col, .bool p0.At.Pending]) rfl (rx (by kernel_rfl) (run_loadN (T := 120) (by kernel_rfl) (by kernel_rfl) (imsub (k := 1) (l := [.int .i64 p0.At.Row, .int .i64 p0.At.Col, .bool p0.At.Pending]) (fun j u hu => (m10 j u hu).mono (l18.trans (l45.trans (l68.trans (l74.trans l78))))) rfl))) ?_
        refine va (.pointer (some ⟨b8, 0 + 4, none⟩)) ?_
        refine WL.val0 (v := .bool p0.Auto) rfl (rx (by kernel_rfl) (run_load1 Tryd.underlying4 rfl ((fun j u hu => (m10 j u hu).mono (l18.trans (l45.trans (l68.trans (l74.trans l78))))) 4 _ rfl))) ?_
        refine va (.agg #[.slice a5 a6 a7, .int .i64 p0.At.Row, .int .i64 p0.At.Col, .bool p0.At.Pending, .bool p0.Auto]) ?_
        refine WL.mem rfl (Own.al (T := 122) (vs := [.slice none 0 0, .int .i64 0, .int .i64 0, .bool false, .bool false]) O81 (by kernel_rfl)) ?_
        rintro v92 c91 l91 ⟨b89, rfl, O90⟩
        refine WL.memD rfl (Own.st (T := 122) (j := 0) (us := [.slice a5 a6 a7, .int .i64 p0.At.Row, .int .i64 p0.At.Col, .bool p0.At.Pending, .bool p0.Auto]) (nw := [.slice a5 a6 a7, .int .i64 p0.At.Row, .int .i64 p0.At.Col, .bool p0.At.Pending, .bool p0.Auto]) (v := .agg #[.slice a5 a6 a7, .int .i64 p0.At.Row, .int .i64 p0.At.Col, .bool p0.At.Pending, .bool p0.Auto]) 0 O90 (by kernel_rfl) rfl rfl rfl rfl (by kernel_rfl) ⟨(h2.mono (l11.trans (l18.trans (l45.trans (l68.trans (l74.trans (l78.trans l91))))))).one, rfl, rfl, rfl, rfl, trivial⟩ rfl rfl) ?_
        rintro c94 l94 O93
        refine wln ?_
        refine W.seq ?_
        refine sr ?_
        refine va (.int .i64 0) ?_
        refine wln ?_
        refine W.block ?_
        obtain ⟨o_75, h95, H96⟩ := bs H
        refine W.loop (σ := Int × (List G_api_Line) × Int × Int × Bool × Bool × Sto) (τ := (Sto × Bool) ⊕ ((List G_api_Line) × Int × Int × Bool × Bool × Sto)) (fun s_75 => fun e w => ∃ (c : Cx) (g : Nat → Value) (v97 : Value) (G_ : Gm), w = c.w ∧ c94.le c ∧ Own c G_ (⟨.pointer (some ⟨b89, 0, none⟩), 122, [v97, .int .i64 s_75.2.2.1, .int .i64 s_75.2.2.2.1, .bool s_75.2.2.2.2.1, .bool s_75.2.2.2.2.2.1], 0⟩ :: F) ∧ e = ups g [(1, v3), (9, .pointer (some ⟨b72, 0, none⟩)), (10, .pointer (some ⟨b89, 0, none⟩)), (11, .int .i64 s_75.1)] ∧ Rel c s_75.2.2.2.2.2.2 G_ ∧ Sl R_api_Line c v97 s_75.2.1) (fun t => match t with | .inl x_ => (fun rr_ ex e w => ex = .ret ∧ (fun e w => ∃ (c : Cx) (g : Nat → Value) (G_ : Gm), w = c.w ∧ c94.le c ∧ Own c G_ (F) ∧ e = ups g [(4, .bool rr_.2)] ∧ Rel c rr_.1 G_) e w) x_ | .inr x_ => (fun o_75_ ex e w => ex = .exit 0 ∧ (fun e w => ∃ (c : Cx) (g : Nat → Value) (v98 : Value) (G_ : Gm), w = c.w ∧ c94.le c ∧ Own c G_ (⟨.pointer (some ⟨b89, 0, none⟩), 122, [v98, .int .i64 o_75_.2.1, .int .i64 o_75_.2.2.1, .bool o_75_.2.2.2.1, .bool o_75_.2.2.2.2.1], 0⟩ :: F) ∧ e = ups g [] ∧ Rel c o_75_.2.2.2.2.2 G_ ∧ Sl R_api_Line c v98 o_75_.1) e w) x_) ?_ h95 ?_ ?_
        · clear H96 h95
          intro s_75 xx_ ee_ ww_ H
          revert ee_ ww_
          rintro e_ w_ ⟨c99, g100, v97, G103, rfl, l99, O101, rfl, R104, h102⟩
          refine W.seq ?_
          refine sr ?_
          refine va (.int .i64 s_75.1) ?_
          refine va (v3) ?_
          refine WL.val0 (v := .int .i64 (p1.length : Int)) rfl (rx (by kernel_rfl) (run_len (ty := 3) Tryd.underlying141 (h4.mono (l11.trans (l18.trans (l45.trans (l68.trans (l74.trans (l78.trans (l91.trans (l94.trans l99))))))))) _)) ?_
          refine va (.bool (decide (s_75.1 < (p1.length : Int)))) ?_
          refine wln ?_
          refine W.cond (t := decide (s_75.1 < (p1.length : Int))) (by kernel_rfl) (fun h106 => ?_) (fun h106 => ?_)
          · have H := it h106 H
            refine W.skip ?_
            refine nrm ?_
            refine W.seq ?_
            refine W.block ?_
            refine W.seq ?_
            refine W.seq ?_
            obtain ⟨x_83, h107, H⟩ := bs H
            obtain ⟨d_87, h108, H⟩ := bs H
            refine W.join (fun e w => ∃ (c : Cx) (g : Nat → Value), w = c.w ∧ c99.le c ∧ Own c G103 (⟨.pointer (some ⟨b89, 0, none⟩), 122, [v97, .int .i64 s_75.2.2.1, .int .i64 s_75.2.2.2.1, .bool s_75.2.2.2.2.1, .bool s_75.2.2.2.2.2.1], 0⟩ :: F) ∧ e = ups g [(1, v3), (9, .pointer (some ⟨b72, 0, none⟩)), (10, .pointer (some ⟨b89, 0, none⟩)), (11, .int .i64 s_75.1), (83, .bool d_87)]) ?_ ?_
            · clear H
              refine W.region ?_
              refine va (v3) ?_
              refine va (.int .i64 s_75.1) ?_
              obtain ⟨l_109, h110, m111⟩ := Sl.at (h4.mono (l11.trans (l18.trans (l45.trans (l68.trans (l74.trans (l78.trans (l91.trans (l94.trans l99))))))))) (idx_get h107)
              obtain rfl := h110
              refine WL.val0 (v := .pointer (some ⟨sb v3, so v3 + s_75.1.toNat * 2, none⟩)) rfl (rx (by kernel_rfl) (run_index (k := .i64) Tryd.underlying141 (by kernel_rfl) (h4.mono (l11.trans (l18.trans (l45.trans (l68.trans (l74.trans (l78.trans (l91.trans (l94.trans l99))))))))) h107 _)) ?_
              refine va (.pointer (some ⟨sb v3, so v3 + s_75.1.toNat * 2, none⟩)) ?_
              refine WL.val0 (v := .int .i64 x_83.1) rfl (rx (by kernel_rfl) (run_load1 Tryd.underlying3 rfl (m111 0 _ rfl))) ?_
              refine va (.bool (decide (x_83.1 > 200))) ?_
              rcases Bool.eq_false_or_eq_true (decide (x_83.1 > 200)) with h112 | h112
              · skip
                have H113 := anT h112 h108
                refine vb h112 ?_
                refine wn ?_
                refine va (v3) ?_
                refine wn ?_
                refine va (.int .i64 s_75.1) ?_
                refine wn ?_
                obtain ⟨x_91, h114, H113⟩ := bs H113
                obtain ⟨l_115, h116, m117⟩ := Sl.at (h4.mono (l11.trans (l18.trans (l45.trans (l68.trans (l74.trans (l78.trans (l91.trans (l94.trans l99))))))))) (idx_get h114)
                obtain rfl := h116
                refine WL.val0 (v := .pointer (some ⟨sb v3, so v3 + s_75.1.toNat * 2, none⟩)) rfl (rx (by kernel_rfl) (run_index (k := .i64) Tryd.underlying141 (by kernel_rfl) (h4.mono (l11.trans (l18.trans (l45.trans (l68.trans (l74.trans (l78.trans (l91.trans (l94.trans l99))))))))) h114 _)) ?_
                refine wn ?_
                refine va (.pointer (some ⟨sb v3, so v3 + s_75.1.toNat * 2 + 1, none⟩)) ?_
                refine wn ?_
                refine WL.val0 (v := .int .i64 x_91.2) rfl (rx (by kernel_rfl) (run_load1 Tryd.underlying3 rfl (m117 1 _ rfl))) ?_
                refine wn ?_
                refine va (.bool (decide (x_91.2 > 200))) ?_
                obtain rfl := Option.some.inj H113
                refine va (.bool (decide (x_91.2 > 200))) ?_
                refine wln ?_
                exact ⟨c99, _, rfl, (Cx.le.refl _), O101, ups_self ⟨rfl, rfl, rfl, rfl, rfl, trivial⟩⟩
              · skip
                obtain rfl := anF h112 h108
                refine vb h112 ?_
                refine ps ?_
                refine ps ?_
                refine ps ?_
                refine ps ?_
                refine ps ?_
                refine ps ?_
                refine va (.bool false) ?_
                refine wln ?_
                exact ⟨c99, _, rfl, (Cx.le.refl _), O101, ups_self ⟨rfl, rfl, rfl, rfl, rfl, trivial⟩⟩
            · skip
              rintro e_ w_ ⟨c118, g119, rfl, l118, O120, rfl⟩
              refine nrm ?_
              refine W.cond (t := d_87) (by kernel_rfl) (fun h124 => ?_) (fun h124 => ?_)
              · have H := it h124 H
                refine sr ?_
                refine va (.bool true) ?_
                refine wln ?_
                refine W.ret ?_
                refine thr ?_
                refine bkr ?_
                refine thr ?_
                obtain rfl := Option.some.inj H
                refine ⟨_, rfl, ?_⟩
                refine ⟨rfl, ?_⟩
                have O125 := O120.selD 1 [] (by kernel_rfl) (by kernel_rfl)
                exact ⟨c118, _, G103, rfl, (l99.trans l118), O125, ups_self ⟨rfl, trivial⟩, (R104.mono l118)⟩
              · have H := ie h124 H
                refine W.skip ?_
                refine nrm ?_
                refine W.seq ?_
                refine W.regionD [] (Kp G0 []) O120 (by kernel_rfl) ?_
                intro c126 l126 O127
                have p128 : Kp G0 [] c126 := Kp.nil0
                refine ta 0 (.pointer (some ⟨b72, 0, none⟩)) ?_
                refine ta 1 (v3) ?_
                refine ta 2 (.int .i64 s_75.1) ?_
                obtain ⟨x_101, h129, H⟩ := bs H
                obtain ⟨l_130, h131, m132⟩ := Sl.at (h4.mono (l11.trans (l18.trans (l45.trans (l68.trans (l74.trans (l78.trans (l91.trans (l94.trans (l99.trans (l118.trans l126))))))))))) (idx_get h129)
                obtain rfl := h131
                refine AC.take 3 (.pointer (some ⟨sb v3, so v3 + s_75.1.toNat * 2, none⟩)) rfl (by kernel_rfl) (by kernel_rfl) (fun c' hle => (rx (by kernel_rfl) (run_index (k := .i64) Tryd.underlying141 (by kernel_rfl) (h4.mono (l11.trans (l18.trans (l45.trans (l68.trans (l74.trans (l78.trans (l91.trans (l94.trans (l99.trans (l118.trans l126))))))))))) h129 _))) ?_
                refine ta 4 (.pointer (some ⟨sb v3, so v3 + s_75.1.toNat * 2, none⟩)) ?_
                refine AC.take 5 (.int .i64 x_101.1) rfl (by kernel_rfl) (by kernel_rfl) (fun c' hle => (rx (by kernel_rfl) (run_load1 Tryd.underlying3 rfl ((fun j u hu => (m132 j u hu).mono hle) 0 _ rfl)))) ?_
                refine ta 6 (v3) ?_
                refine ta 7 (.int .i64 s_75.1) ?_
                obtain ⟨x_106, h133, H⟩ := bs H
                obtain ⟨l_134, h135, m136⟩ := Sl.at (h4.mono (l11.trans (l18.trans (l45.trans (l68.trans (l74.trans (l78.trans (l91.trans (l94.trans (l99.trans (l118.trans l126))))))))))) (idx_get h133)
                obtain rfl := h135
                refine AC.take 8 (.pointer (some ⟨sb v3, so v3 + s_75.1.toNat * 2, none⟩)) rfl (by kernel_rfl) (by kernel_rfl) (fun c' hle => (rx (by kernel_rfl) (run_index (k := .i64) Tryd.underlying141 (by kernel_rfl) (h4.mono (l11.trans (l18.trans (l45.trans (l68.trans (l74.trans (l78.trans (l91.trans (l94.trans (l99.trans (l118.trans l126))))))))))) h133 _))) ?_
                refine ta 9 (.pointer (some ⟨sb v3, so v3 + s_75.1.toNat * 2 + 1, none⟩)) ?_
                refine AC.take 10 (.int .i64 x_106.2) rfl (by kernel_rfl) (by kernel_rfl) (fun c' hle => (rx (by kernel_rfl) (run_load1 Tryd.underlying3 rfl ((fun j u hu => (m136 j u hu).mono hle) 1 _ rfl)))) ?_
                obtain ⟨x_109, h137, H⟩ := bs H
                refine AC.one 11 (by kernel_rfl) (Go1.callP 11 rfl (by kernel_rfl) (by kernel_rfl) (by kernel_rfl) (c_size_Resize O127 (R104.mono (l118.trans l126)) ((hG.mono (l11.trans (l18.trans (l45.trans (l68.trans (l74.trans (l78.trans (l91.trans (l94.trans (l99.trans (l118.trans l126))))))))))).le (by decide)) (some x_42.1.place_Pen.length) x_101.1 x_106.2 (h88.mono (l91.trans (l94.trans (l99.trans (l118.trans l126))))) h137) ?_)
                rintro v143 c142 l142 ⟨G138, O139, R140, rfl⟩
                have p144 : Kp G0 [] c142 := Kp.nil0
                refine ⟨.inr p144, ?_⟩
                refine AC.done (by kernel_rfl) ?_
                refine nrm ?_
                refine W.seq ?_
                refine W.regionD [] (Kp G0 []) O139 (by kernel_rfl) ?_
                intro c145 l145 O146
                have p147 : Kp G0 [] c145 := Kp.nil0
                refine ta 0 (v3) ?_
                refine ta 1 (.int .i64 s_75.1) ?_
                obtain ⟨x_113, h148, H⟩ := bs H
                obtain ⟨l_149, h150, m151⟩ := Sl.at (h4.mono (l11.trans (l18.trans (l45.trans (l68.trans (l74.trans (l78.trans (l91.trans (l94.trans (l99.trans (l118.trans (l126.trans (l142.trans l145))))))))))))) (idx_get h148)
                obtain rfl := h150
                refine AC.take 2 (.pointer (some ⟨sb v3, so v3 + s_75.1.toNat * 2, none⟩)) rfl (by kernel_rfl) (by kernel_rfl) (fun c' hle => (rx (by kernel_rfl) (run_index (k := .i64) Tryd.underlying141 (by kernel_rfl) (h4.mono (l11.trans (l18.trans (l45.trans (l68.trans (l74.trans (l78.trans (l91.trans (l94.trans (l99.trans (l118.trans (l126.trans (l142.trans l145))))))))))))) h148 _))) ?_
                refine ta 3 (.pointer (some ⟨sb v3, so v3 + s_75.1.toNat * 2, none⟩)) ?_
                refine AC.take 4 (.int .i64 x_113.1) rfl (by kernel_rfl) (by kernel_rfl) (fun c' hle => (rx (by kernel_rfl) (run_load1 Tryd.underlying3 rfl ((fun j u hu => (m151 j u hu).mono hle) 0 _ rfl)))) ?_
                refine ta 5 (v3) ?_
                refine ta 6 (.int .i64 s_75.1) ?_
                obtain ⟨x_118, h152, H⟩ := bs H
                obtain ⟨l_153, h154, m155⟩ := Sl.at (h4.mono (l11.trans (l18.trans (l45.trans (l68.trans (l74.trans (l78.trans (l91.trans (l94.trans (l99.trans (l118.trans (l126.trans (l142.trans l145))))))))))))) (idx_get h152)
                obtain rfl := h154
                refine AC.take 7 (.pointer (some ⟨sb v3, so v3 + s_75.1.toNat * 2, none⟩)) rfl (by kernel_rfl) (by kernel_rfl) (fun c' hle => (rx (by kernel_rfl) (run_index (k := .i64) Tryd.underlying141 (by kernel_rfl) (h4.mono (l11.trans (l18.trans (l45.trans (l68.trans (l74.trans (l78.trans (l91.trans (l94.trans (l99.trans (l118.trans (l126.trans (l142.trans l145))))))))))))) h152 _))) ?_
                refine ta 8 (.pointer (some ⟨sb v3, so v3 + s_75.1.toNat * 2 + 1, none⟩)) ?_
                refine AC.take 9 (.int .i64 x_118.2) rfl (by kernel_rfl) (by kernel_rfl) (fun c' hle => (rx (by kernel_rfl) (run_load1 Tryd.underlying3 rfl ((fun j u hu => (m155 j u hu).mono hle) 1 _ rfl)))) ?_
                obtain ⟨x_121, h156, H⟩ := bs H
                refine AC.one 10 (by kernel_rfl) (Go1.callP 10 rfl (by kernel_rfl) (by kernel_rfl) (by kernel_rfl) (c_size_Resize O146 (R140.mono l145) ((hG.mono (l11.trans (l18.trans (l45.trans (l68.trans (l74.trans (l78.trans (l91.trans (l94.trans (l99.trans (l118.trans (l126.trans (l142.trans l145))))))))))))).le (by decide)) (none : Option Nat) x_113.1 x_118.2 rfl h156) ?_)
                rintro v162 c161 l161 ⟨G157, O158, R159, rfl⟩
                have p163 : Kp G0 [] c161 := Kp.nil0
                refine ⟨.inr p163, ?_⟩
                refine AC.done (by kernel_rfl) ?_
                refine nrm ?_
                refine W.seq ?_
                refine W.regionD [12] (Kp G0 [⟨.pointer (some ⟨b89, 0, none⟩), 122, [v97, .int .i64 s_75.2.2.1, .int .i64 s_75.2.2.2.1, .bool s_75.2.2.2.2.1, .bool s_75.2.2.2.2.2.1], 0⟩]) O158 (by kernel_rfl) ?_
                intro c164 l164 O165
                have p166 : Kp G0 [⟨.pointer (some ⟨b89, 0, none⟩), 122, [v97, .int .i64 s_75.2.2.1, .int .i64 s_75.2.2.2.1, .bool s_75.2.2.2.2.1, .bool s_75.2.2.2.2.2.1], 0⟩] c164 := (Kp.cons (O165.on 0 rfl) Kp.nil0)
                refine AC.takeK 0 (.agg #[v97, .int .i64 s_75.2.2.1, .int .i64 s_75.2.2.2.1, .bool s_75.2.2.2.2.1, .bool s_75.2.2.2.2.2.1]) p166 rfl (by kernel_rfl) (by kernel_rfl) (by kernel_rfl) (fun c' hle hk => (rx (by kernel_rfl) (ldEN (T := 122) (j := 0) (l := [v97, .int .i64 s_75.2.2.1, .int .i64 s_75.2.2.2.1, .bool s_75.2.2.2.2.1, .bool s_75.2.2.2.2.2.1]) (by kernel_rfl) (by kernel_rfl) (hk.on 0 rfl) rfl rfl))) ?_
                refine ta 1 (v3) ?_
                refine ta 2 (.int .i64 s_75.1) ?_
                obtain ⟨x_126, h167, H⟩ := bs H
                obtain ⟨l_168, h169, m170⟩ := Sl.at (h4.mono (l11.trans (l18.trans (l45.trans (l68.trans (l74.trans (l78.trans (l91.trans (l94.trans (l99.trans (l118.trans (l126.trans (l142.trans (l145.trans (l161.trans l164))))))))))))))) (idx_get h167)
                obtain rfl := h169
                refine AC.take 3 (.pointer (some ⟨sb v3, so v3 + s_75.1.toNat * 2, none⟩)) rfl (by kernel_rfl) (by kernel_rfl) (fun c' hle => (rx (by kernel_rfl) (run_index (k := .i64) Tryd.underlying141 (by kernel_rfl) (h4.mono (l11.trans (l18.trans (l45.trans (l68.trans (l74.trans (l78.trans (l91.trans (l94.trans (l99.trans (l118.trans (l126.trans (l142.trans (l145.trans (l161.trans l164))))))))))))))) h167 _))) ?_
                refine ta 4 (.pointer (some ⟨sb v3, so v3 + s_75.1.toNat * 2, none⟩)) ?_
                refine AC.take 5 (.int .i64 x_126.1) rfl (by kernel_rfl) (by kernel_rfl) (fun c' hle => (rx (by kernel_rfl) (run_load1 Tryd.underlying3 rfl ((fun j u hu => (m170 j u hu).mono hle) 0 _ rfl)))) ?_
                refine ta 6 (v3) ?_
                refine ta 7 (.int .i64 s_75.1) ?_
                obtain ⟨x_131, h171, H⟩ := bs H
                obtain ⟨l_172, h173, m174⟩ := Sl.at (h4.mono (l11.trans (l18.trans (l45.trans (l68.trans (l74.trans (l78.trans (l91.trans (l94.trans (l99.trans (l118.trans (l126.trans (l142.trans (l145.trans (l161.trans l164))))))))))))))) (idx_get h171)
                obtain rfl := h173
                refine AC.take 8 (.pointer (some ⟨sb v3, so v3 + s_75.1.toNat * 2, none⟩)) rfl (by kernel_rfl) (by kernel_rfl) (fun c' hle => (rx (by kernel_rfl) (run_index (k := .i64) Tryd.underlying141 (by kernel_rfl) (h4.mono (l11.trans (l18.trans (l45.trans (l68.trans (l74.trans (l78.trans (l91.trans (l94.trans (l99.trans (l118.trans (l126.trans (l142.trans (l145.trans (l161.trans l164))))))))))))))) h171 _))) ?_
                refine ta 9 (.pointer (some ⟨sb v3, so v3 + s_75.1.toNat * 2 + 1, none⟩)) ?_
                refine AC.take 10 (.int .i64 x_131.2) rfl (by kernel_rfl) (by kernel_rfl) (fun c' hle => (rx (by kernel_rfl) (run_load1 Tryd.underlying3 rfl ((fun j u hu => (m174 j u hu).mono hle) 1 _ rfl)))) ?_
                obtain ⟨x_134, h175, H⟩ := bs H
                refine AC.one 11 (by kernel_rfl) (Go1.callP 11 rfl (by kernel_rfl) (by kernel_rfl) (by kernel_rfl) (c_linotyperef39_Resize O165 (⟨s_75.2.1, (⟨s_75.2.2.1, s_75.2.2.2.1, s_75.2.2.2.2.1⟩ : G_api_Cursor), s_75.2.2.2.2.2.1⟩ : G_linotyperef34_Pen) x_126.1 x_131.2 (h102.mono (l118.trans (l126.trans (l142.trans (l145.trans (l161.trans l164)))))) h175) ?_)
                rintro v184 c183 l183 ⟨v176, u177, O180, rfl, h178⟩
                have p185 : Kp G0 [⟨.pointer (some ⟨b89, 0, none⟩), 122, [v97, .int .i64 s_75.2.2.1, .int .i64 s_75.2.2.2.1, .bool s_75.2.2.2.2.1, .bool s_75.2.2.2.2.2.1], 0⟩] c183 := (Kp.cons (O180.on 1 rfl) Kp.nil0)
                refine ⟨.inr p185, ?_⟩
                obtain ⟨a186, a187, a188, rfl⟩ := (h178).form
                refine AC.one 12 (by kernel_rfl) (Go1.memD 12 rfl (by kernel_rfl) (by kernel_rfl) (Own.st (T := 122) (j := 0) (us := [.slice a186 a187 a188, .int .i64 x_134.At.Row, .int .i64 x_134.At.Col, .bool x_134.At.Pending, .bool x_134.Auto]) (nw := [.slice a186 a187 a188, .int .i64 x_134.At.Row, .int .i64 x_134.At.Col, .bool x_134.At.Pending, .bool x_134.Auto]) (v := .agg #[.slice a186 a187 a188, .int .i64 x_134.At.Row, .int .i64 x_134.At.Col, .bool x_134.At.Pending, .bool x_134.Auto]) 1 O180 (by kernel_rfl) rfl rfl rfl rfl (by kernel_rfl) ⟨(h178).one, rfl, rfl, rfl, rfl, trivial⟩ rfl rfl) ?_)
                rintro c190 l190 O189
                refine ⟨.inl rfl, ?_⟩
                refine AC.done (by kernel_rfl) ?_
                refine nrm ?_
                refine sr ?_
                refine va (.pointer (some ⟨b72, 0, none⟩)) ?_
                refine WL.val0 (v := .agg #[.slice a186 a187 a188, .int .i64 x_134.At.Row, .int .i64 x_134.At.Col, .bool x_134.At.Pending, .bool x_134.Auto]) rfl (rx (by kernel_rfl) (ldEN (T := 122) (j := 0) (l := [.slice a186 a187 a188, .int .i64 x_134.At.Row, .int .i64 x_134.At.Col, .bool x_134.At.Pending, .bool x_134.Auto]) (by kernel_rfl) (by kernel_rfl) (O189.on 1 rfl) rfl rfl)) ?_
                obtain ⟨c193, h194, l193, O191, h192⟩ := O189.frz 0 rfl (h178.mono l190)
                refine WL.gh h194 ?_
                obtain ⟨x_139, h195, H⟩ := bs H
                refine WL.callP rfl (by kernel_rfl) (c_linotypelaw34_Alike O191 (R159.mono (l164.trans (l183.trans (l190.trans l193)))) (some x_42.1.place_Pen.length) x_134 (h88.mono (l91.trans (l94.trans (l99.trans (l118.trans (l126.trans (l142.trans (l145.trans (l161.trans (l164.trans (l183.trans (l190.trans l193)))))))))))) h192 h195) ?_
                rintro v201 c200 l200 ⟨O197, rfl⟩
                refine va (.bool (!x_139)) ?_
                refine wln ?_
                refine W.cond (t := !x_139) (by kernel_rfl) (fun h202 => ?_) (fun h202 => ?_)
                · have H := it h202 H
                  refine sr ?_
                  refine va (.bool false) ?_
                  refine wln ?_
                  refine W.ret ?_
                  refine bkr ?_
                  refine thr ?_
                  obtain rfl := Option.some.inj H
                  refine ⟨_, rfl, ?_⟩
                  refine ⟨rfl, ?_⟩
                  have O203 := O197.selD 2 [] (by kernel_rfl) (by kernel_rfl)
                  exact ⟨c200, _, G157, rfl, (l99.trans (l118.trans (l126.trans (l142.trans (l145.trans (l161.trans (l164.trans (l183.trans (l190.trans (l193.trans l200)))))))))), O203, ups_self ⟨rfl, trivial⟩, (R159.mono (l164.trans (l183.trans (l190.trans (l193.trans l200)))))⟩
                · have H := ie h202 H
                  refine W.skip ?_
                  refine bkn ?_
                  refine nrm ?_
                  refine W.region ?_
                  refine va (.int .i64 s_75.1) ?_
                  refine va (.int .i64 (w64 (s_75.1 + 1))) ?_
                  refine va (.int .i64 (w64 (s_75.1 + 1))) ?_
                  refine WL.nil ?_
                  obtain rfl := Option.some.inj H
                  refine ⟨_, rfl, ?_⟩
                  have h204 := O197.slf 0 rfl (h178.mono (l190.trans (l193.trans l200)))
                  have O205 := O197.selD 2 [1] (by kernel_rfl) (by kernel_rfl)
                  exact ⟨c200, _, (.slice a186 a187 a188), G157, rfl, (l99.trans (l118.trans (l126.trans (l142.trans (l145.trans (l161.trans (l164.trans (l183.trans (l190.trans (l193.trans l200)))))))))), O205, ups_self ⟨rfl, rfl, rfl, rfl, trivial⟩, (R159.mono (l164.trans (l183.trans (l190.trans (l193.trans l200))))), h204⟩
          · have H := ie h106 H
            refine W.exit ?_
            refine thx ?_
            obtain rfl := Option.some.inj H
            refine ⟨_, rfl, rfl, ?_⟩
            exact ⟨c99, _, v97, G103, rfl, l99, O101, ups_self trivial, R104, h102⟩
        · skip
          exact ⟨c94, _, (.slice a5 a6 a7), G86, rfl, (Cx.le.refl _), O93, ups_self ⟨rfl, rfl, rfl, rfl, trivial⟩, (R82.mono (l91.trans l94)), (h2.mono (l11.trans (l18.trans (l45.trans (l68.trans (l74.trans (l78.trans (l91.trans l94))))))))⟩
        · skip
          rcases o_75 with o_75 | o_75
          · skip
            intro ex_; revert ex_
            rintro _ e_ w_ ⟨rfl, c206, g207, G209, rfl, l206, O208, rfl, R210⟩
            refine bkr ?_
            refine thr ?_
            obtain rfl := Option.some.inj H96
            exact ret1 (v := .bool o_75.2) rfl (by kernel_rfl) ⟨_, c206, rfl, rfl, (l11.trans (l18.trans (l45.trans (l68.trans (l74.trans (l78.trans (l91.trans (l94.trans l206)))))))), G209, O208, R210, rfl⟩
          · skip
            rintro _ e_ w_ ⟨rfl, c212, g213, v98, G216, rfl, l212, O214, rfl, R217, h215⟩
            refine bke ?_
            refine nrm ?_
            refine sr ?_
            refine va (.bool true) ?_
            refine wln ?_
            refine W.ret ?_
            obtain rfl := Option.some.inj H96
            have O219 := O214.selD 1 [] (by kernel_rfl) (by kernel_rfl)
            exact ret1 (v := .bool true) rfl (by kernel_rfl) ⟨_, c212, rfl, rfl, (l11.trans (l18.trans (l45.trans (l68.trans (l74.trans (l78.trans (l91.trans (l94.trans l212)))))))), G216, O219, R217, rfl⟩

end Go.Proofs.YtohpkblleihmaaaDoor
