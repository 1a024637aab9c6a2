import Derived.Test.YtohpkblleihmaaaDoorMx
import Derived.Test.YtohpkblleihmaaaDoorProg
import Derived.Test.YtohpkblleihmaaaDoorMy
import Derived.Test.YtohpkblleihmaaaDoorMz
import Derived.Test.YtohpkblleihmaaaDoorA1
import Derived.Test.YtohpkblleihmaaaDoorA4
import Derived.Test.YtohpkblleihmaaaDoorA8
namespace Go.Proofs.YtohpkblleihmaaaDoor
open Go Go.Lt
set_option maxRecDepth 10000
set_option linter.unusedVariables false
attribute [local irreducible] W WL AC
def f_linotyperef25_At (p0 : List G_api_Cell) (p1 : Int) : Option (Int) :=
  (orE (decide (p1 < 0)) (some (decide (p1 ≥ (p0.length : Int))))).bind fun d_5 =>
  (orE d_5 ((idx p0 p1).bind fun x_15 =>
  some (x_15.Kind == 0))).bind fun d_11 =>
  if d_11 = true then
  some (-1)
  else
  (idx p0 p1).bind fun x_24 =>
  if (x_24.Kind == 3) = true then
  some (w64 (p1 - 1))
  else
  some p1
theorem c_linotyperef25_At {c0 : Cx} {G : Gm} {F : List En} {v1 : Value} (O0 : Own c0 G F) (p0 : List G_api_Cell) (p1 : Int) {r : Int} (h2 : Sl R_api_Cell c0 v1 p0) (H : f_linotyperef25_At p0 p1 = some r) :
    Calls Tryd.prog 116 #[v1, .int .i64 p1] c0.w (Post c0 fun c v => Own c G (F) ∧ v = .int .i64 r) := by
  unfold f_linotyperef25_At at H
  refine enter (l := [v1, .int .i64 p1]) Tryd.func116 rfl rfl rfl ?_
  refine sr ?_
  refine va (.int .i64 0) ?_
  refine wln ?_
  refine W.seq ?_
  refine W.seq ?_
  obtain ⟨d_5, h3, H⟩ := bs H
  obtain ⟨d_11, h4, H⟩ := bs H
  refine W.join (fun e w => ∃ (c : Cx) (g : Nat → Value), w = c.w ∧ c0.le c ∧ Own c G (F) ∧ e = ups g [(0, v1), (1, .int .i64 p1), (20, .bool d_11)]) ?_ ?_
  · clear H
    refine W.region ?_
    refine va (.int .i64 p1) ?_
    refine va (.bool (decide (p1 < 0))) ?_
    rcases Bool.eq_false_or_eq_true (decide (p1 < 0)) with h5 | h5
    · skip
      obtain rfl := orT h5 h3
      refine vb h5 ?_
      refine ps ?_
      refine ps ?_
      refine ps ?_
      refine ps ?_
      refine va (.bool true) ?_
      have h6 : true = true := rfl
      obtain rfl := orT h6 h4
      refine vb h6 ?_
      refine ps ?_
      refine ps ?_
      refine ps ?_
      refine ps ?_
      refine ps ?_
      refine ps ?_
      refine va (.bool true) ?_
      refine wln ?_
      exact ⟨c0, _, rfl, (Cx.le.refl _), O0, ups_self ⟨rfl, rfl, rfl, trivial⟩⟩
    · skip
      have H7 := orF h5 h3
      refine vb h5 ?_
      refine wn ?_
      refine va (.int .i64 p1) ?_
      refine wn ?_
      refine va (v1) ?_
      refine wn ?_
      refine WL.val0 (v := .int .i64 (p0.length : Int)) rfl (rx (by kernel_rfl) (run_len (ty := 3) Tryd.underlying22 h2 _)) ?_
      refine wn ?_
      refine va (.bool (decide (p1 ≥ (p0.length : Int)))) ?_
      obtain rfl := Option.some.inj H7
      refine va (.bool (decide (p1 ≥ (p0.length : Int)))) ?_
      rcases Bool.eq_false_or_eq_true (decide (p1 ≥ (p0.length : Int))) with h8 | h8
      · skip
        obtain rfl := orT h8 h4
        refine vb h8 ?_
        refine ps ?_
        refine ps ?_
        refine ps ?_
        refine ps ?_
        refine ps ?_
        refine ps ?_
        refine va (.bool true) ?_
        refine wln ?_
        exact ⟨c0, _, rfl, (Cx.le.refl _), O0, ups_self ⟨rfl, rfl, rfl, trivial⟩⟩
      · skip
        have H9 := orF h8 h4
        refine vb h8 ?_
        refine wn ?_
        refine va (v1) ?_
        refine wn ?_
        refine va (.int .i64 p1) ?_
        refine wn ?_
        obtain ⟨x_15, h10, H9⟩ := bs H9
        obtain ⟨l_11, h12, m13⟩ := Sl.at h2 (idx_get h10)
        obtain ⟨v14, rfl, h15⟩ := h12
        refine WL.val0 (v := .pointer (some ⟨sb v1, so v1 + p1.toNat * 2, none⟩)) rfl (rx (by kernel_rfl) (run_index (k := .i64) Tryd.underlying22 (by kernel_rfl) h2 h10 _)) ?_
        refine wn ?_
        refine va (.pointer (some ⟨sb v1, so v1 + p1.toNat * 2, none⟩)) ?_
        refine wn ?_
        refine WL.val0 (v := .int .i64 x_15.Kind) rfl (rx (by kernel_rfl) (run_load1 Tryd.underlying3 rfl (m13 0 _ rfl))) ?_
        refine wn ?_
        refine va (.bool (x_15.Kind == 0)) ?_
        obtain rfl := Option.some.inj H9
        refine va (.bool (x_15.Kind == 0)) ?_
        refine wln ?_
        exact ⟨c0, _, rfl, (Cx.le.refl _), O0, ups_self ⟨rfl, rfl, rfl, trivial⟩⟩
  · skip
    rintro e_ w_ ⟨c16, g17, rfl, l16, O18, rfl⟩
    refine nrm ?_
    refine W.cond (t := d_11) (by kernel_rfl) (fun h22 => ?_) (fun h22 => ?_)
    · have H := it h22 H
      refine sr ?_
      refine va (.int .i64 (-1)) ?_
      refine wln ?_
      refine W.ret ?_
      refine thr ?_
      obtain rfl := Option.some.inj H
      exact ret1 (v := .int .i64 (-1)) rfl (by kernel_rfl) ⟨_, c16, rfl, rfl, l16, O18, rfl⟩
    · have H := ie h22 H
      refine W.skip ?_
      refine nrm ?_
      refine W.seq ?_
      refine sr ?_
      refine va (v1) ?_
      refine va (.int .i64 p1) ?_
      obtain ⟨x_24, h23, H⟩ := bs H
      obtain ⟨l_24, h25, m26⟩ := Sl.at (h2.mono l16) (idx_get h23)
      obtain ⟨v27, rfl, h28⟩ := h25
      refine WL.val0 (v := .pointer (some ⟨sb v1, so v1 + p1.toNat * 2, none⟩)) rfl (rx (by kernel_rfl) (run_index (k := .i64) Tryd.underlying22 (by kernel_rfl) (h2.mono l16) h23 _)) ?_
      refine va (.pointer (some ⟨sb v1, so v1 + p1.toNat * 2, none⟩)) ?_
      refine WL.val0 (v := .int .i64 x_24.Kind) rfl (rx (by kernel_rfl) (run_load1 Tryd.underlying3 rfl (m26 0 _ rfl))) ?_
      refine va (.bool (x_24.Kind == 3)) ?_
      refine wln ?_
      refine W.cond (t := x_24.Kind == 3) (by kernel_rfl) (fun h29 => ?_) (fun h29 => ?_)
      · have H := it h29 H
        refine sr ?_
        refine va (.int .i64 p1) ?_
        refine va (.int .i64 (w64 (p1 - 1))) ?_
        refine va (.int .i64 (w64 (p1 - 1))) ?_
        refine wln ?_
        refine W.ret ?_
        refine thr ?_
        obtain rfl := Option.some.inj H
        exact ret1 (v := .int .i64 (w64 (p1 - 1))) rfl (by kernel_rfl) ⟨_, c16, rfl, rfl, l16, O18, rfl⟩
      · have H := ie h29 H
        refine W.skip ?_
        refine nrm ?_
        refine sr ?_
        refine va (.int .i64 p1) ?_
        refine va (.int .i64 p1) ?_
        refine wln ?_
        refine W.ret ?_
        obtain rfl := Option.some.inj H
        exact ret1 (v := .int .i64 p1) rfl (by kernel_rfl) ⟨_, c16, rfl, rfl, l16, O18, rfl⟩

def f_linotyperef25_Add (p0 : List G_api_Cell) (p1 : Bool) (p2 : Int) (p3 : Int) : Option ((List G_api_Cell) × Bool × Bool) :=
  (f_linotyperef25_At p0 p2).bind fun x_7 =>
  (orE (decide (x_7 < 0)) ((idx p0 x_7).bind fun x_16 =>
  some (decide ((x_16.Text.length : Int) > 15)))).bind fun d_12 =>
  if d_12 = true then
  some (p0, p1, false)
  else
  ((f_linotyperef01_Valid p3).bind fun x_30 =>
  if (!x_30) = true then
  (some (65533) : Option (Int))
  else
  (some (p3) : Option (Int))).bind fun z_28 =>
  (idx p0 x_7).bind fun x_40 =>
  (idx p0 x_7).bind fun x_45 =>
  (app ([] : List Int) x_45.Text).bind fun x_50 =>
  (app x_50 ([z_28] : List Int)).bind fun x_52 =>
  (f_linotyperef23_Of x_40.Kind x_52).bind fun x_53 =>
  (f_linotyperef24_Paint p0 p1 x_7 x_53).bind fun x_54 =>
  some (x_54.1, x_54.2, true)
theorem c_linotyperef25_Add {c0 : Cx} {G : Gm} {F : List En} {v1 : Value} (O0 : Own c0 G F) (p0 : List G_api_Cell) (p1 : Bool) (p2 : Int) (p3 : Int) {r : (List G_api_Cell) × Bool × Bool} (h2 : Sl R_api_Cell c0 v1 p0) (H : f_linotyperef25_Add p0 p1 p2 p3 = some r) :
    Calls Tryd.prog 52 #[v1, .bool p1, .int .i64 p2, .int .i32 p3] c0.w (Post c0 fun c v => ∃ y1 : Value, Own c G (F) ∧ v = .tuple #[y1, .bool r.2.1, .bool r.2.2] ∧ Sl R_api_Cell c y1 r.1) := by
  unfold f_linotyperef25_Add at H
  refine enter (l := [v1, .bool p1, .int .i64 p2, .int .i32 p3]) Tryd.func52 rfl rfl rfl ?_
  refine sr ?_
  refine va (.slice none 0 0) ?_
  refine va (.bool false) ?_
  refine va (.bool false) ?_
  refine wln ?_
  refine sr ?_
  refine va (v1) ?_
  refine va (.int .i64 p2) ?_
  obtain ⟨x_7, h3, H⟩ := bs H
  refine WL.callP rfl (by kernel_rfl) (c_linotyperef25_At O0 p0 p2 h2 h3) ?_
  rintro v9 c8 l8 ⟨O5, rfl⟩
  refine va (.int .i64 x_7) ?_
  refine wln ?_
  refine W.seq ?_
  refine W.seq ?_
  obtain ⟨d_12, h10, H⟩ := bs H
  refine W.join (fun e w => ∃ (c : Cx) (g : Nat → Value), w = c.w ∧ c8.le c ∧ Own c G (F) ∧ e = ups g [(0, v1), (1, .bool p1), (3, .int .i32 p3), (11, .int .i64 x_7), (27, .bool d_12)]) ?_ ?_
  · clear H
    refine W.region ?_
    refine va (.int .i64 x_7) ?_
    refine va (.bool (decide (x_7 < 0))) ?_
    rcases Bool.eq_false_or_eq_true (decide (x_7 < 0)) with h11 | h11
    · skip
      obtain rfl := orT h11 h10
      refine vb h11 ?_
      refine ps ?_
      refine ps ?_
      refine ps ?_
      refine ps ?_
      refine ps ?_
      refine ps ?_
      refine ps ?_
      refine va (.bool true) ?_
      refine wln ?_
      exact ⟨c8, _, rfl, (Cx.le.refl _), O5, ups_self ⟨rfl, rfl, rfl, rfl, rfl, trivial⟩⟩
    · skip
      have H12 := orF h11 h10
      refine vb h11 ?_
      refine wn ?_
      refine va (v1) ?_
      refine wn ?_
      refine va (.int .i64 x_7) ?_
      refine wn ?_
      obtain ⟨x_16, h13, H12⟩ := bs H12
      obtain ⟨l_14, h15, m16⟩ := Sl.at (h2.mono l8) (idx_get h13)
      obtain ⟨v17, rfl, h18⟩ := h15
      refine WL.val0 (v := .pointer (some ⟨sb v1, so v1 + x_7.toNat * 2, none⟩)) rfl (rx (by kernel_rfl) (run_index (k := .i64) Tryd.underlying22 (by kernel_rfl) (h2.mono l8) h13 _)) ?_
      refine wn ?_
      refine va (.pointer (some ⟨sb v1, so v1 + x_7.toNat * 2 + 1, none⟩)) ?_
      refine wn ?_
      refine WL.val0 (v := v17) rfl (rx (by kernel_rfl) (run_load1 Tryd.underlying25 rfl (m16 1 _ rfl))) ?_
      refine wn ?_
      refine WL.val0 (v := .int .i64 (x_16.Text.length : Int)) rfl (rx (by kernel_rfl) (run_len (ty := 3) Tryd.underlying25 h18 _)) ?_
      refine wn ?_
      refine va (.bool (decide ((x_16.Text.length : Int) > 15))) ?_
      obtain rfl := Option.some.inj H12
      refine va (.bool (decide ((x_16.Text.length : Int) > 15))) ?_
      refine wln ?_
      exact ⟨c8, _, rfl, (Cx.le.refl _), O5, ups_self ⟨rfl, rfl, rfl, rfl, rfl, trivial⟩⟩
  · skip
    rintro e_ w_ ⟨c19, g20, rfl, l19, O21, rfl⟩
    refine nrm ?_
    refine W.cond (t := d_12) (by kernel_rfl) (fun h25 => ?_) (fun h25 => ?_)
    · have H := it h25 H
      refine sr ?_
      refine va (v1) ?_
      refine va (.bool p1) ?_
      refine va (v1) ?_
      refine va (.bool p1) ?_
      refine va (.bool false) ?_
      refine wln ?_
      refine W.ret ?_
      refine thr ?_
      obtain rfl := Option.some.inj H
      exact ret3 (v := v1) (v' := .bool p1) (v'' := .bool false) rfl (by kernel_rfl) (by kernel_rfl) (by kernel_rfl) ⟨_, c19, rfl, rfl, (l8.trans l19), v1, O21, rfl, (h2.mono (l8.trans l19))⟩
    · have H := ie h25 H
      refine W.skip ?_
      refine nrm ?_
      obtain ⟨z_28, H26, H27⟩ := bs H
      refine W.seqJ (fun e w => ∃ (c : Cx) (g : Nat → Value), w = c.w ∧ c19.le c ∧ Own c G (F) ∧ e = ups g [(0, v1), (1, .bool p1), (3, .int .i32 z_28), (11, .int .i64 x_7)]) ?_ ?_
      · skip
        refine sr ?_
        refine va (.int .i32 p3) ?_
        obtain ⟨x_30, h28, H26⟩ := bs H26
        refine WL.callP rfl (by kernel_rfl) (c_linotyperef01_Valid O21 p3 h28) ?_
        rintro v34 c33 l33 ⟨O30, rfl⟩
        refine va (.bool (!x_30)) ?_
        refine wln ?_
        refine W.cond (t := !x_30) (by kernel_rfl) (fun h35 => ?_) (fun h35 => ?_)
        · have H26 := it h35 H26
          refine W.region ?_
          refine va (.int .i32 65533) ?_
          refine wln ?_
          obtain rfl := Option.some.inj H26
          exact ⟨c33, _, rfl, l33, O30, ups_self ⟨rfl, rfl, rfl, rfl, trivial⟩⟩
        · have H26 := ie h35 H26
          refine W.skip ?_
          refine nrm ?_
          obtain rfl := Option.some.inj H26
          exact ⟨c33, _, rfl, l33, O30, ups_self ⟨rfl, rfl, rfl, rfl, trivial⟩⟩
      · skip
        rintro e_ w_ ⟨c36, g37, rfl, l36, O38, rfl⟩
        refine W.seq ?_
        obtain ⟨x_40, h42, H27⟩ := bs H27
        obtain ⟨x_45, h43, H27⟩ := bs H27
        obtain ⟨x_50, h44, H27⟩ := bs H27
        obtain ⟨x_52, h45, H27⟩ := bs H27
        obtain ⟨x_53, h46, H27⟩ := bs H27
        obtain ⟨x_54, h47, H27⟩ := bs H27
        refine W.join (fun e w => ∃ (c : Cx) (g : Nat → Value) (v48 : Value) (u49 : List Value) (v50 : Value) (u51 : List Value) (v52 : Value) (u53 : List Value) (v54 : Value) (u55 : List Value), w = c.w ∧ c36.le c ∧ Own c G (es true R_api_Cell v48 27 u49 x_54.1 :: es false R_api_Cell v50 27 u51 x_53 :: es false (RI .i32) v52 21 u53 ([z_28] : List Int) :: es false (RI .i32) v54 21 u55 x_52 :: F) ∧ e = ups g [(12, v48), (13, .bool x_54.2)] ∧ OA R_api_Cell c v48 u49 x_54.1 ∧ OA R_api_Cell c v50 u51 x_53 ∧ OA (RI .i32) c v52 u53 ([z_28] : List Int) ∧ OA (RI .i32) c v54 u55 x_52) ?_ ?_
        · clear H27
          refine W.regionD [] (Kp G0 []) O38 (by kernel_rfl) ?_
          intro c56 l56 O57
          have p58 : Kp G0 [] c56 := Kp.nil0
          refine ta 0 (v1) ?_
          refine ta 1 (.bool p1) ?_
          refine ta 2 (.int .i64 x_7) ?_
          refine ta 3 (v1) ?_
          refine ta 4 (.int .i64 x_7) ?_
          obtain ⟨l_59, h60, m61⟩ := Sl.at (h2.mono (l8.trans (l19.trans (l36.trans l56)))) (idx_get h42)
          obtain ⟨v62, rfl, h63⟩ := h60
          refine AC.take 5 (.pointer (some ⟨sb v1, so v1 + x_7.toNat * 2, none⟩)) rfl (by kernel_rfl) (by kernel_rfl) (fun c' hle => (rx (by kernel_rfl) (run_index (k := .i64) Tryd.underlying22 (by kernel_rfl) (h2.mono (l8.trans (l19.trans (l36.trans l56)))) h42 _))) ?_
          refine ta 6 (.pointer (some ⟨sb v1, so v1 + x_7.toNat * 2, none⟩)) ?_
          refine AC.take 7 (.int .i64 x_40.Kind) rfl (by kernel_rfl) (by kernel_rfl) (fun c' hle => (rx (by kernel_rfl) (run_load1 Tryd.underlying3 rfl ((fun j u hu => (m61 j u hu).mono hle) 0 _ rfl)))) ?_
          refine ta 9 (v1) ?_
          refine ta 10 (.int .i64 x_7) ?_
          obtain ⟨l_64, h65, m66⟩ := Sl.at (h2.mono (l8.trans (l19.trans (l36.trans l56)))) (idx_get h43)
          obtain ⟨v67, rfl, h68⟩ := h65
          refine AC.take 11 (.pointer (some ⟨sb v1, so v1 + x_7.toNat * 2, none⟩)) rfl (by kernel_rfl) (by kernel_rfl) (fun c' hle => (rx (by kernel_rfl) (run_index (k := .i64) Tryd.underlying22 (by kernel_rfl) (h2.mono (l8.trans (l19.trans (l36.trans l56)))) h43 _))) ?_
          refine ta 12 (.pointer (some ⟨sb v1, so v1 + x_7.toNat * 2 + 1, none⟩)) ?_
          refine AC.take 13 (v67) rfl (by kernel_rfl) (by kernel_rfl) (fun c' hle => (rx (by kernel_rfl) (run_load1 Tryd.underlying25 rfl ((fun j u hu => (m66 j u hu).mono hle) 1 _ rfl)))) ?_
          refine ta 15 (.int .i32 z_28) ?_
          refine AC.many [8, 16] (by simp) (by kernel_rfl) ⟨?_, ?_, trivial⟩
          · skip
            refine (Go1.mem 8 rfl (by kernel_rfl) (by kernel_rfl) (Own.sl (R := (RI .i32)) (E := 21) (ls := []) (vs := []) (xs := ([] : List Int)) true O57 (Nat.succ_pos _) rfl trivial (by kernel_rfl) (by kernel_rfl)) ?_)
            rintro v73 c72 l72 ⟨u70, O69, h71⟩
            have p74 : Kp G0 [] c72 := Kp.nil0
            refine ⟨.inr p74, ?_⟩
            refine AC.many [14, 16] (by simp) (by kernel_rfl) ⟨?_, ?_, trivial⟩
            · skip
              refine (Go1.mem 14 rfl (by kernel_rfl) (by kernel_rfl) (Own.app (R := (RI .i32)) (z := .int .i32 0) (by_ := 4) (ty := 25) 0 O69 rfl h71 (h68.mono l72) h44 Tryd.underlying25 (by kernel_rfl) rfl (by kernel_rfl) (by kernel_rfl)) ?_)
              rintro v79 c78 l78 ⟨u76, O75, h77⟩
              have p80 : Kp G0 [] c78 := Kp.nil0
              refine ⟨.inr p80, ?_⟩
              refine AC.one 16 (by kernel_rfl) (Go1.mem 16 rfl (by kernel_rfl) (by kernel_rfl) (Own.sl (R := (RI .i32)) (E := 21) (ls := [[.int .i32 z_28]]) (vs := [.int .i32 z_28]) (xs := ([z_28] : List Int)) true O75 (Nat.succ_pos _) rfl ⟨rfl, trivial⟩ (by kernel_rfl) (by kernel_rfl)) ?_)
              rintro v85 c84 l84 ⟨u82, O81, h83⟩
              have p86 : Kp G0 [] c84 := Kp.nil0
              refine ⟨.inr p86, ?_⟩
              obtain ⟨c89, h90, l89, O87, h88⟩ := O81.frz 0 rfl h83
              have p91 : Kp G0 [] c89 := Kp.nil0
              refine AC.gh h90 l89 (fun _ => p91) ?_
              refine AC.one 17 (by kernel_rfl) (Go1.mem 17 rfl (by kernel_rfl) (by kernel_rfl) (Own.app (R := (RI .i32)) (z := .int .i32 0) (by_ := 4) (ty := 25) 1 O87 rfl (h77.mono (l84.trans l89)) h88 h45 Tryd.underlying25 (by kernel_rfl) rfl (by kernel_rfl) (by kernel_rfl)) ?_)
              rintro v96 c95 l95 ⟨u93, O92, h94⟩
              have p97 : Kp G0 [] c95 := Kp.nil0
              refine ⟨.inr p97, ?_⟩
              obtain ⟨c100, h101, l100, O98, h99⟩ := O92.frz 1 rfl h94
              have p102 : Kp G0 [] c100 := Kp.nil0
              refine AC.gh h101 l100 (fun _ => p102) ?_
              refine AC.one 18 (by kernel_rfl) (Go1.callP 18 rfl (by kernel_rfl) (by kernel_rfl) (by kernel_rfl) (c_linotyperef23_Of O98 x_40.Kind x_52 h99 h46) ?_)
              rintro v103 c110 l110 ⟨_, u104, O107, rfl, h105⟩
              have p112 : Kp G0 [] c110 := Kp.nil0
              refine ⟨.inr p112, ?_⟩
              obtain ⟨c115, h116, l115, O113, h114⟩ := O107.frz 0 rfl h105
              have p117 : Kp G0 [] c115 := Kp.nil0
              refine AC.gh h116 l115 (fun _ => p117) ?_
              refine AC.one 19 (by kernel_rfl) (Go1.callP 19 rfl (by kernel_rfl) (by kernel_rfl) (by kernel_rfl) (c_linotyperef24_Paint O113 p0 p1 x_7 x_53 (h2.mono (l8.trans (l19.trans (l36.trans (l56.trans (l72.trans (l78.trans (l84.trans (l89.trans (l95.trans (l100.trans (l110.trans l115)))))))))))) h114 h47) ?_)
              rintro v126 c125 l125 ⟨v118, u119, O122, rfl, h120⟩
              have p127 : Kp G0 [] c125 := Kp.nil0
              refine ⟨.inr p127, ?_⟩
              refine ta 20 (.tuple #[v118, .bool x_54.2]) ?_
              refine ta 21 (v118) ?_
              refine ta 22 (.bool x_54.2) ?_
              refine ta 23 (v118) ?_
              refine ta 24 (.bool x_54.2) ?_
              refine AC.done (by kernel_rfl) ?_
              refine nrm ?_
              exact ⟨c125, _, v118, u119, v103, u104, v85, u82, v96, u93, rfl, (l56.trans (l72.trans (l78.trans (l84.trans (l89.trans (l95.trans (l100.trans (l110.trans (l115.trans l125))))))))), O122, ups_self ⟨rfl, rfl, trivial⟩, h120, (h105.mono (l115.trans l125)), (h83.mono (l89.trans (l95.trans (l100.trans (l110.trans (l115.trans l125)))))), (h94.mono (l100.trans (l110.trans (l115.trans l125))))⟩
            · skip
              refine (Go1.mem 16 rfl (by kernel_rfl) (by kernel_rfl) (Own.sl (R := (RI .i32)) (E := 21) (ls := [[.int .i32 z_28]]) (vs := [.int .i32 z_28]) (xs := ([z_28] : List Int)) true O69 (Nat.succ_pos _) rfl ⟨rfl, trivial⟩ (by kernel_rfl) (by kernel_rfl)) ?_)
              rintro v132 c131 l131 ⟨u129, O128, h130⟩
              have p133 : Kp G0 [] c131 := Kp.nil0
              refine ⟨.inr p133, ?_⟩
              refine AC.one 14 (by kernel_rfl) (Go1.mem 14 rfl (by kernel_rfl) (by kernel_rfl) (Own.app (R := (RI .i32)) (z := .int .i32 0) (by_ := 4) (ty := 25) 1 O128 rfl (h71.mono l131) (h68.mono (l72.trans l131)) h44 Tryd.underlying25 (by kernel_rfl) rfl (by kernel_rfl) (by kernel_rfl)) ?_)
              rintro v138 c137 l137 ⟨u135, O134, h136⟩
              have p139 : Kp G0 [] c137 := Kp.nil0
              refine ⟨.inr p139, ?_⟩
              obtain ⟨c142, h143, l142, O140, h141⟩ := O134.frz 0 rfl (h130.mono l137)
              have p144 : Kp G0 [] c142 := Kp.nil0
              refine AC.gh h143 l142 (fun _ => p144) ?_
              refine AC.one 17 (by kernel_rfl) (Go1.mem 17 rfl (by kernel_rfl) (by kernel_rfl) (Own.app (R := (RI .i32)) (z := .int .i32 0) (by_ := 4) (ty := 25) 1 O140 rfl (h136.mono l142) h141 h45 Tryd.underlying25 (by kernel_rfl) rfl (by kernel_rfl) (by kernel_rfl)) ?_)
              rintro v149 c148 l148 ⟨u146, O145, h147⟩
              have p150 : Kp G0 [] c148 := Kp.nil0
              refine ⟨.inr p150, ?_⟩
              obtain ⟨c153, h154, l153, O151, h152⟩ := O145.frz 1 rfl h147
              have p155 : Kp G0 [] c153 := Kp.nil0
              refine AC.gh h154 l153 (fun _ => p155) ?_
              refine AC.one 18 (by kernel_rfl) (Go1.callP 18 rfl (by kernel_rfl) (by kernel_rfl) (by kernel_rfl) (c_linotyperef23_Of O151 x_40.Kind x_52 h152 h46) ?_)
              rintro v156 c163 l163 ⟨_, u157, O160, rfl, h158⟩
              have p165 : Kp G0 [] c163 := Kp.nil0
              refine ⟨.inr p165, ?_⟩
              obtain ⟨c168, h169, l168, O166, h167⟩ := O160.frz 0 rfl h158
              have p170 : Kp G0 [] c168 := Kp.nil0
              refine AC.gh h169 l168 (fun _ => p170) ?_
              refine AC.one 19 (by kernel_rfl) (Go1.callP 19 rfl (by kernel_rfl) (by kernel_rfl) (by kernel_rfl) (c_linotyperef24_Paint O166 p0 p1 x_7 x_53 (h2.mono (l8.trans (l19.trans (l36.trans (l56.trans (l72.trans (l131.trans (l137.trans (l142.trans (l148.trans (l153.trans (l163.trans l168)))))))))))) h167 h47) ?_)
              rintro v179 c178 l178 ⟨v171, u172, O175, rfl, h173⟩
              have p180 : Kp G0 [] c178 := Kp.nil0
              refine ⟨.inr p180, ?_⟩
              refine ta 20 (.tuple #[v171, .bool x_54.2]) ?_
              refine ta 21 (v171) ?_
              refine ta 22 (.bool x_54.2) ?_
              refine ta 23 (v171) ?_
              refine ta 24 (.bool x_54.2) ?_
              refine AC.done (by kernel_rfl) ?_
              refine nrm ?_
              exact ⟨c178, _, v171, u172, v156, u157, v132, u129, v149, u146, rfl, (l56.trans (l72.trans (l131.trans (l137.trans (l142.trans (l148.trans (l153.trans (l163.trans (l168.trans l178))))))))), O175, ups_self ⟨rfl, rfl, trivial⟩, h173, (h158.mono (l168.trans l178)), (h130.mono (l137.trans (l142.trans (l148.trans (l153.trans (l163.trans (l168.trans l178))))))), (h147.mono (l153.trans (l163.trans (l168.trans l178))))⟩
          · skip
            refine (Go1.mem 16 rfl (by kernel_rfl) (by kernel_rfl) (Own.sl (R := (RI .i32)) (E := 21) (ls := [[.int .i32 z_28]]) (vs := [.int .i32 z_28]) (xs := ([z_28] : List Int)) true O57 (Nat.succ_pos _) rfl ⟨rfl, trivial⟩ (by kernel_rfl) (by kernel_rfl)) ?_)
            rintro v185 c184 l184 ⟨u182, O181, h183⟩
            have p186 : Kp G0 [] c184 := Kp.nil0
            refine ⟨.inr p186, ?_⟩
            refine AC.one 8 (by kernel_rfl) (Go1.mem 8 rfl (by kernel_rfl) (by kernel_rfl) (Own.sl (R := (RI .i32)) (E := 21) (ls := []) (vs := []) (xs := ([] : List Int)) true O181 (Nat.succ_pos _) rfl trivial (by kernel_rfl) (by kernel_rfl)) ?_)
            rintro v191 c190 l190 ⟨u188, O187, h189⟩
            have p192 : Kp G0 [] c190 := Kp.nil0
            refine ⟨.inr p192, ?_⟩
            refine AC.one 14 (by kernel_rfl) (Go1.mem 14 rfl (by kernel_rfl) (by kernel_rfl) (Own.app (R := (RI .i32)) (z := .int .i32 0) (by_ := 4) (ty := 25) 0 O187 rfl h189 (h68.mono (l184.trans l190)) h44 Tryd.underlying25 (by kernel_rfl) rfl (by kernel_rfl) (by kernel_rfl)) ?_)
            rintro v197 c196 l196 ⟨u194, O193, h195⟩
            have p198 : Kp G0 [] c196 := Kp.nil0
            refine ⟨.inr p198, ?_⟩
            obtain ⟨c201, h202, l201, O199, h200⟩ := O193.frz 1 rfl (h183.mono (l190.trans l196))
            have p203 : Kp G0 [] c201 := Kp.nil0
            refine AC.gh h202 l201 (fun _ => p203) ?_
            refine AC.one 17 (by kernel_rfl) (Go1.mem 17 rfl (by kernel_rfl) (by kernel_rfl) (Own.app (R := (RI .i32)) (z := .int .i32 0) (by_ := 4) (ty := 25) 0 O199 rfl (h195.mono l201) h200 h45 Tryd.underlying25 (by kernel_rfl) rfl (by kernel_rfl) (by kernel_rfl)) ?_)
            rintro v208 c207 l207 ⟨u205, O204, h206⟩
            have p209 : Kp G0 [] c207 := Kp.nil0
            refine ⟨.inr p209, ?_⟩
            obtain ⟨c212, h213, l212, O210, h211⟩ := O204.frz 0 rfl h206
            have p214 : Kp G0 [] c212 := Kp.nil0
            refine AC.gh h213 l212 (fun _ => p214) ?_
            refine AC.one 18 (by kernel_rfl) (Go1.callP 18 rfl (by kernel_rfl) (by kernel_rfl) (by kernel_rfl) (c_linotyperef23_Of O210 x_40.Kind x_52 h211 h46) ?_)
            rintro v215 c222 l222 ⟨_, u216, O219, rfl, h217⟩
            have p224 : Kp G0 [] c222 := Kp.nil0
            refine ⟨.inr p224, ?_⟩
            obtain ⟨c227, h228, l227, O225, h226⟩ := O219.frz 0 rfl h217
            have p229 : Kp G0 [] c227 := Kp.nil0
            refine AC.gh h228 l227 (fun _ => p229) ?_
            refine AC.one 19 (by kernel_rfl) (Go1.callP 19 rfl (by kernel_rfl) (by kernel_rfl) (by kernel_rfl) (c_linotyperef24_Paint O225 p0 p1 x_7 x_53 (h2.mono (l8.trans (l19.trans (l36.trans (l56.trans (l184.trans (l190.trans (l196.trans (l201.trans (l207.trans (l212.trans (l222.trans l227)))))))))))) h226 h47) ?_)
            rintro v238 c237 l237 ⟨v230, u231, O234, rfl, h232⟩
            have p239 : Kp G0 [] c237 := Kp.nil0
            refine ⟨.inr p239, ?_⟩
            refine ta 20 (.tuple #[v230, .bool x_54.2]) ?_
            refine ta 21 (v230) ?_
            refine ta 22 (.bool x_54.2) ?_
            refine ta 23 (v230) ?_
            refine ta 24 (.bool x_54.2) ?_
            refine AC.done (by kernel_rfl) ?_
            refine nrm ?_
            have O240 := O234.selD 4 [0, 1, 3, 2] (by kernel_rfl) (by kernel_rfl)
            exact ⟨c237, _, v230, u231, v215, u216, v185, u182, v208, u205, rfl, (l56.trans (l184.trans (l190.trans (l196.trans (l201.trans (l207.trans (l212.trans (l222.trans (l227.trans l237))))))))), O240, ups_self ⟨rfl, rfl, trivial⟩, h232, (h217.mono (l227.trans l237)), (h183.mono (l190.trans (l196.trans (l201.trans (l207.trans (l212.trans (l222.trans (l227.trans l237)))))))), (h206.mono (l212.trans (l222.trans (l227.trans l237))))⟩
        · skip
          rintro e_ w_ ⟨c241, g242, v48, u49, v50, u51, v52, u53, v54, u55, rfl, l241, O243, rfl, h244, h245, h246, h247⟩
          refine nrm ?_
          refine sr ?_
          refine va (v48) ?_
          refine va (.bool x_54.2) ?_
          refine va (v48) ?_
          refine va (.bool x_54.2) ?_
          refine va (.bool true) ?_
          refine wln ?_
          refine W.ret ?_
          obtain rfl := Option.some.inj H27
          obtain ⟨c253, h254, l253, O251, h252⟩ := O243.frz 0 rfl h244
          have O255 := O251.selD 4 [] (by kernel_rfl) (by kernel_rfl)
          refine bqgh h254 ?_
          exact ret3 (v := v48) (v' := .bool x_54.2) (v'' := .bool true) rfl (by kernel_rfl) (by kernel_rfl) (by kernel_rfl) ⟨_, c253, rfl, rfl, (l8.trans (l19.trans (l36.trans (l241.trans l253)))), v48, O255, rfl, h252⟩

def f_linotyperef25_Widen (p0 : List G_api_Cell) (p1 : Bool) (p2 : Int) : Option ((List G_api_Cell) × Bool × Bool) :=
  (orE (decide (p2 < 0)) (some (decide (p2 ≥ (w64 ((p0.length : Int) - 1)))))).bind fun d_7 =>
  (orE d_7 ((idx p0 p2).bind fun x_18 =>
  some (x_18.Kind != 1))).bind fun d_14 =>
  if d_14 = true then
  some (p0, p1, false)
  else
  (idx p0 p2).bind fun x_34 =>
  (f_linotyperef23_Of 2 x_34.Text).bind fun x_37 =>
  (f_linotyperef24_Paint p0 p1 p2 x_37).bind fun x_38 =>
  some (x_38.1, x_38.2, true)
theorem c_linotyperef25_Widen {c0 : Cx} {G : Gm} {F : List En} {v1 : Value} (O0 : Own c0 G F) (p0 : List G_api_Cell) (p1 : Bool) (p2 : Int) {r : (List G_api_Cell) × Bool × Bool} (h2 : Sl R_api_Cell c0 v1 p0) (H : f_linotyperef25_Widen p0 p1 p2 = some r) :
    Calls Tryd.prog 54 #[v1, .bool p1, .int .i64 p2] c0.w (Post c0 fun c v => ∃ y1 : Value, Own c G (F) ∧ v = .tuple #[y1, .bool r.2.1, .bool r.2.2] ∧ Sl R_api_Cell c y1 r.1) := by
  unfold f_linotyperef25_Widen at H
  refine enter (l := [v1, .bool p1, .int .i64 p2]) Tryd.func54 rfl rfl rfl ?_
  refine sr ?_
  refine va (.slice none 0 0) ?_
  refine va (.bool false) ?_
  refine va (.bool false) ?_
  refine wln ?_
  refine W.seq ?_
  refine W.seq ?_
  obtain ⟨d_7, h3, H⟩ := bs H
  obtain ⟨d_14, h4, H⟩ := bs H
  refine W.join (fun e w => ∃ (c : Cx) (g : Nat → Value), w = c.w ∧ c0.le c ∧ Own c G (F) ∧ e = ups g [(0, v1), (1, .bool p1), (2, .int .i64 p2), (27, .bool d_14)]) ?_ ?_
  · clear H
    refine W.region ?_
    refine va (.int .i64 p2) ?_
    refine va (.bool (decide (p2 < 0))) ?_
    rcases Bool.eq_false_or_eq_true (decide (p2 < 0)) with h5 | h5
    · skip
      obtain rfl := orT h5 h3
      refine vb h5 ?_
      refine ps ?_
      refine ps ?_
      refine ps ?_
      refine ps ?_
      refine ps ?_
      refine va (.bool true) ?_
      have h6 : true = true := rfl
      obtain rfl := orT h6 h4
      refine vb h6 ?_
      refine ps ?_
      refine ps ?_
      refine ps ?_
      refine ps ?_
      refine ps ?_
      refine ps ?_
      refine va (.bool true) ?_
      refine wln ?_
      exact ⟨c0, _, rfl, (Cx.le.refl _), O0, ups_self ⟨rfl, rfl, rfl, rfl, trivial⟩⟩
    · skip
      have H7 := orF h5 h3
      refine vb h5 ?_
      refine wn ?_
      refine va (.int .i64 p2) ?_
      refine wn ?_
      refine va (v1) ?_
      refine wn ?_
      refine WL.val0 (v := .int .i64 (p0.length : Int)) rfl (rx (by kernel_rfl) (run_len (ty := 3) Tryd.underlying22 h2 _)) ?_
      refine wn ?_
      refine va (.int .i64 (w64 ((p0.length : Int) - 1))) ?_
      refine wn ?_
      refine va (.bool (decide (p2 ≥ (w64 ((p0.length : Int) - 1))))) ?_
      obtain rfl := Option.some.inj H7
      refine va (.bool (decide (p2 ≥ (w64 ((p0.length : Int) - 1))))) ?_
      rcases Bool.eq_false_or_eq_true (decide (p2 ≥ (w64 ((p0.length : Int) - 1)))) with h8 | h8
      · skip
        obtain rfl := orT h8 h4
        refine vb h8 ?_
        refine ps ?_
        refine ps ?_
        refine ps ?_
        refine ps ?_
        refine ps ?_
        refine ps ?_
        refine va (.bool true) ?_
        refine wln ?_
        exact ⟨c0, _, rfl, (Cx.le.refl _), O0, ups_self ⟨rfl, rfl, rfl, rfl, trivial⟩⟩
      · skip
        have H9 := orF h8 h4
        refine vb h8 ?_
        refine wn ?_
        refine va (v1) ?_
        refine wn ?_
        refine va (.int .i64 p2) ?_
        refine wn ?_
        obtain ⟨x_18, h10, H9⟩ := bs H9
        obtain ⟨l_11, h12, m13⟩ := Sl.at h2 (idx_get h10)
        obtain ⟨v14, rfl, h15⟩ := h12
        refine WL.val0 (v := .pointer (some ⟨sb v1, so v1 + p2.toNat * 2, none⟩)) rfl (rx (by kernel_rfl) (run_index (k := .i64) Tryd.underlying22 (by kernel_rfl) h2 h10 _)) ?_
        refine wn ?_
        refine va (.pointer (some ⟨sb v1, so v1 + p2.toNat * 2, none⟩)) ?_
        refine wn ?_
        refine WL.val0 (v := .int .i64 x_18.Kind) rfl (rx (by kernel_rfl) (run_load1 Tryd.underlying3 rfl (m13 0 _ rfl))) ?_
        refine wn ?_
        refine va (.bool (x_18.Kind != 1)) ?_
        obtain rfl := Option.some.inj H9
        refine va (.bool (x_18.Kind != 1)) ?_
        refine wln ?_
        exact ⟨c0, _, rfl, (Cx.le.refl _), O0, ups_self ⟨rfl, rfl, rfl, rfl, trivial⟩⟩
  · skip
    rintro e_ w_ ⟨c16, g17, rfl, l16, O18, rfl⟩
    refine nrm ?_
    refine W.cond (t := d_14) (by kernel_rfl) (fun h22 => ?_) (fun h22 => ?_)
    · have H := it h22 H
      refine sr ?_
      refine va (v1) ?_
      refine va (.bool p1) ?_
      refine va (v1) ?_
      refine va (.bool p1) ?_
      refine va (.bool false) ?_
      refine wln ?_
      refine W.ret ?_
      refine thr ?_
      obtain rfl := Option.some.inj H
      exact ret3 (v := v1) (v' := .bool p1) (v'' := .bool false) rfl (by kernel_rfl) (by kernel_rfl) (by kernel_rfl) ⟨_, c16, rfl, rfl, l16, v1, O18, rfl, (h2.mono l16)⟩
    · have H := ie h22 H
      refine W.skip ?_
      refine nrm ?_
      refine sr ?_
      refine va (v1) ?_
      refine va (.bool p1) ?_
      refine va (.int .i64 p2) ?_
      refine va (v1) ?_
      refine va (.int .i64 p2) ?_
      obtain ⟨x_34, h23, H⟩ := bs H
      obtain ⟨l_24, h25, m26⟩ := Sl.at (h2.mono l16) (idx_get h23)
      obtain ⟨v27, rfl, h28⟩ := h25
      refine WL.val0 (v := .pointer (some ⟨sb v1, so v1 + p2.toNat * 2, none⟩)) rfl (rx (by kernel_rfl) (run_index (k := .i64) Tryd.underlying22 (by kernel_rfl) (h2.mono l16) h23 _)) ?_
      refine va (.pointer (some ⟨sb v1, so v1 + p2.toNat * 2 + 1, none⟩)) ?_
      refine WL.val0 (v := v27) rfl (rx (by kernel_rfl) (run_load1 Tryd.underlying25 rfl (m26 1 _ rfl))) ?_
      obtain ⟨x_37, h29, H⟩ := bs H
      refine WL.callP rfl (by kernel_rfl) (c_linotyperef23_Of O18 2 x_34.Text h28 h29) ?_
      rintro v30 c37 l37 ⟨_, u31, O34, rfl, h32⟩
      obtain ⟨c41, h42, l41, O39, h40⟩ := O34.frz 0 rfl h32
      refine WL.gh h42 ?_
      obtain ⟨x_38, h43, H⟩ := bs H
      refine WL.callP rfl (by kernel_rfl) (c_linotyperef24_Paint O39 p0 p1 p2 x_37 (h2.mono (l16.trans (l37.trans l41))) h40 h43) ?_
      rintro v52 c51 l51 ⟨v44, u45, O48, rfl, h46⟩
      refine va (.tuple #[v44, .bool x_38.2]) ?_
      refine va (v44) ?_
      refine va (.bool x_38.2) ?_
      refine va (v44) ?_
      refine va (.bool x_38.2) ?_
      refine wln ?_
      refine sr ?_
      refine va (v44) ?_
      refine va (.bool x_38.2) ?_
      refine va (v44) ?_
      refine va (.bool x_38.2) ?_
      refine va (.bool true) ?_
      refine wln ?_
      refine W.ret ?_
      obtain rfl := Option.some.inj H
      obtain ⟨c55, h56, l55, O53, h54⟩ := O48.frz 0 rfl h46
      have O57 := O53.selD 2 [] (by kernel_rfl) (by kernel_rfl)
      refine bqgh h56 ?_
      exact ret3 (v := v44) (v' := .bool x_38.2) (v'' := .bool true) rfl (by kernel_rfl) (by kernel_rfl) (by kernel_rfl) ⟨_, c55, rfl, rfl, (l16.trans (l37.trans (l41.trans (l51.trans l55)))), v44, O57, rfl, h54⟩

def f_linotypelaw25_at (sg : Sto) (p0 : Option Nat) (p1 : List G_api_Cell) (p2 : Int) : Option (Bool) :=
  (f_mark_At sg p0 p2).bind fun x_5 =>
  (f_linotyperef25_At p1 p2).bind fun x_17 =>
  if (decide (x_17 < 0)) = true then
  (andE (x_5.1 == 0) (some (x_5.2.1.Wide == 0))).bind fun d_25 =>
  (andE d_25 (some ((x_5.2.1.Text.length : Int) == 0))).bind fun d_30 =>
  (andE d_30 (some (!x_5.2.2))).bind fun d_36 =>
  some d_36
  else
  (andE (x_5.1 == x_17) (some x_5.2.2)).bind fun d_45 =>
  (andE d_45 ((idx p1 x_17).bind fun x_54 =>
  some (x_5.2.1.Wide == x_54.Kind))).bind fun d_48 =>
  (andE d_48 ((idx p1 x_17).bind fun x_64 =>
  (f_linotyperef01_Same x_5.2.1.Text x_64.Text).bind fun x_67 =>
  some x_67)).bind fun d_58 =>
  some d_58
theorem c_linotypelaw25_at {c0 : Cx} {G : Gm} {F : List En} {sg : Sto} {v1 : Value} {v3 : Value} (O0 : Own c0 G F) (R0 : Rel c0 sg G) (p0 : Option Nat) (p1 : List G_api_Cell) (p2 : Int) {r : Bool} (h2 : Pt 0 c0 v1 p0) (h4 : Sl R_api_Cell c0 v3 p1) (H : f_linotypelaw25_at sg p0 p1 p2 = some r) :
    Calls Tryd.prog 55 #[v1, v3, .int .i64 p2] c0.w (Post c0 fun c v => Own c G (F) ∧ v = .bool r) := by
  unfold f_linotypelaw25_at at H
  refine enter (l := [v1, v3, .int .i64 p2]) Tryd.func55 rfl rfl rfl ?_
  refine sr ?_
  refine va (.bool false) ?_
  refine wln ?_
  refine sr ?_
  refine va (v1) ?_
  refine va (.int .i64 p2) ?_
  obtain ⟨x_5, h5, H⟩ := bs H
  refine WL.callP rfl (by kernel_rfl) (c_mark_At O0 R0 p0 p2 h2 h5) ?_
  rintro v14 c13 l13 ⟨v6, u7, O10, rfl, h8⟩
  refine va (.tuple #[.int .i64 x_5.1, .agg #[.int .i64 x_5.2.1.Wide, v6], .bool x_5.2.2]) ?_
  refine va (.int .i64 x_5.1) ?_
  refine va (.agg #[.int .i64 x_5.2.1.Wide, v6]) ?_
  refine va (.bool x_5.2.2) ?_
  refine WL.mem rfl (Own.al (T := 95) (vs := [.int .i64 0, .slice none 0 0]) O10 (by kernel_rfl)) ?_
  rintro v18 c17 l17 ⟨b15, rfl, O16⟩
  refine va (.int .i64 x_5.1) ?_
  obtain ⟨a19, a20, a21, rfl⟩ := ((h8.mono l17)).form
  refine WL.memD rfl (Own.st (T := 95) (j := 0) (us := [.int .i64 x_5.2.1.Wide, .slice a19 a20 a21]) (nw := [.int .i64 x_5.2.1.Wide, .slice a19 a20 a21]) (v := .agg #[.int .i64 x_5.2.1.Wide, .slice a19 a20 a21]) 0 O16 (by kernel_rfl) rfl rfl rfl rfl (by kernel_rfl) ⟨rfl, ((h8.mono l17)).one, trivial⟩ rfl rfl) ?_
  rintro c23 l23 O22
  refine va (.bool x_5.2.2) ?_
  refine wln ?_
  refine sr ?_
  refine va (v3) ?_
  refine va (.int .i64 p2) ?_
  obtain ⟨x_17, h24, H⟩ := bs H
  refine WL.callP rfl (by kernel_rfl) (c_linotyperef25_At O22 p1 p2 (h4.mono (l13.trans (l17.trans l23))) h24) ?_
  rintro v30 c29 l29 ⟨O26, rfl⟩
  refine va (.int .i64 x_17) ?_
  refine wln ?_
  refine W.seq ?_
  refine sr ?_
  refine va (.int .i64 x_17) ?_
  refine va (.bool (decide (x_17 < 0))) ?_
  refine wln ?_
  refine W.cond (t := decide (x_17 < 0)) (by kernel_rfl) (fun h31 => ?_) (fun h31 => ?_)
  · have H := it h31 H
    refine W.seq ?_
    obtain ⟨d_25, h32, H⟩ := bs H
    obtain ⟨d_30, h33, H⟩ := bs H
    obtain ⟨d_36, h34, H⟩ := bs H
    refine W.join (fun e w => ∃ (c : Cx) (g : Nat → Value), w = c.w ∧ c29.le c ∧ Own c G (⟨.pointer (some ⟨b15, 0, none⟩), 95, [.int .i64 x_5.2.1.Wide, .slice a19 a20 a21], 0⟩ :: es true (RI .i32) (.slice a19 a20 a21) 21 u7 x_5.2.1.Text :: F) ∧ e = ups g [(6, .bool d_36)]) ?_ ?_
    · clear H
      refine W.region ?_
      refine va (.int .i64 x_5.1) ?_
      refine va (.bool (x_5.1 == 0)) ?_
      rcases Bool.eq_false_or_eq_true (x_5.1 == 0) with h35 | h35
      · skip
        have H36 := anT h35 h32
        refine vb h35 ?_
        refine wn ?_
        refine va (.pointer (some ⟨b15, 0, none⟩)) ?_
        refine wn ?_
        refine WL.val0 (v := .int .i64 x_5.2.1.Wide) rfl (rx (by kernel_rfl) (ldE1 (j := 0) Tryd.underlying3 rfl (O26.on 0 rfl) rfl rfl)) ?_
        refine wn ?_
        refine va (.bool (x_5.2.1.Wide == 0)) ?_
        obtain rfl := Option.some.inj H36
        refine va (.bool (x_5.2.1.Wide == 0)) ?_
        rcases Bool.eq_false_or_eq_true (x_5.2.1.Wide == 0) with h37 | h37
        · skip
          have H38 := anT h37 h33
          refine vb h37 ?_
          refine wn ?_
          refine va (.pointer (some ⟨b15, 1, none⟩)) ?_
          refine wn ?_
          refine WL.val0 (v := .slice a19 a20 a21) rfl (rx (by kernel_rfl) (ldE1 (j := 1) Tryd.underlying25 rfl (O26.on 0 rfl) rfl rfl)) ?_
          refine wn ?_
          refine WL.val0 (v := .int .i64 (x_5.2.1.Text.length : Int)) rfl (rx (by kernel_rfl) (run_lenO (ty := 3) Tryd.underlying25 (h8.mono (l17.trans (l23.trans l29))) _)) ?_
          refine wn ?_
          refine va (.bool ((x_5.2.1.Text.length : Int) == 0)) ?_
          obtain rfl := Option.some.inj H38
          refine va (.bool ((x_5.2.1.Text.length : Int) == 0)) ?_
          rcases Bool.eq_false_or_eq_true ((x_5.2.1.Text.length : Int) == 0) with h39 | h39
          · skip
            have H40 := anT h39 h34
            refine vb h39 ?_
            refine wn ?_
            refine va (.bool x_5.2.2) ?_
            refine wn ?_
            refine va (.bool (!x_5.2.2)) ?_
            obtain rfl := Option.some.inj H40
            refine va (.bool (!x_5.2.2)) ?_
            refine va (.bool (!x_5.2.2)) ?_
            refine wln ?_
            exact ⟨c29, _, rfl, (Cx.le.refl _), O26, ups_self ⟨rfl, trivial⟩⟩
          · skip
            obtain rfl := anF h39 h34
            refine vb h39 ?_
            refine ps ?_
            refine ps ?_
            refine va (.bool false) ?_
            refine va (.bool false) ?_
            refine wln ?_
            exact ⟨c29, _, rfl, (Cx.le.refl _), O26, ups_self ⟨rfl, trivial⟩⟩
        · skip
          obtain rfl := anF h37 h33
          refine vb h37 ?_
          refine ps ?_
          refine ps ?_
          refine ps ?_
          refine ps ?_
          refine va (.bool false) ?_
          have h41 : false = false := rfl
          obtain rfl := anF h41 h34
          refine vb h41 ?_
          refine ps ?_
          refine ps ?_
          refine va (.bool false) ?_
          refine va (.bool false) ?_
          refine wln ?_
          exact ⟨c29, _, rfl, (Cx.le.refl _), O26, ups_self ⟨rfl, trivial⟩⟩
      · skip
        obtain rfl := anF h35 h32
        refine vb h35 ?_
        refine ps ?_
        refine ps ?_
        refine ps ?_
        refine va (.bool false) ?_
        have h42 : false = false := rfl
        obtain rfl := anF h42 h33
        refine vb h42 ?_
        refine ps ?_
        refine ps ?_
        refine ps ?_
        refine ps ?_
        refine va (.bool false) ?_
        have h43 : false = false := rfl
        obtain rfl := anF h43 h34
        refine vb h43 ?_
        refine ps ?_
        refine ps ?_
        refine va (.bool false) ?_
        refine va (.bool false) ?_
        refine wln ?_
        exact ⟨c29, _, rfl, (Cx.le.refl _), O26, ups_self ⟨rfl, trivial⟩⟩
    · skip
      rintro e_ w_ ⟨c44, g45, rfl, l44, O46, rfl⟩
      refine nrm ?_
      refine W.ret ?_
      refine thr ?_
      obtain rfl := Option.some.inj H
      have O50 := O46.selD 2 [] (by kernel_rfl) (by kernel_rfl)
      exact ret1 (v := .bool d_36) rfl (by kernel_rfl) ⟨_, c44, rfl, rfl, (l13.trans (l17.trans (l23.trans (l29.trans l44)))), O50, rfl⟩
  · have H := ie h31 H
    refine W.skip ?_
    refine nrm ?_
    refine W.seq ?_
    obtain ⟨d_45, h51, H⟩ := bs H
    obtain ⟨d_48, h52, H⟩ := bs H
    obtain ⟨d_58, h53, H⟩ := bs H
    refine W.join (fun e w => ∃ (c : Cx) (g : Nat → Value), w = c.w ∧ c29.le c ∧ Own c G (⟨.pointer (some ⟨b15, 0, none⟩), 95, [.int .i64 x_5.2.1.Wide, .slice a19 a20 a21], 0⟩ :: es false (RI .i32) (.slice a19 a20 a21) 21 u7 x_5.2.1.Text :: F) ∧ e = ups g [(6, .bool d_58)]) ?_ ?_
    · clear H
      refine W.regionD [] (Kp G0 [⟨.pointer (some ⟨b15, 0, none⟩), 95, [.int .i64 x_5.2.1.Wide, .slice a19 a20 a21], 0⟩]) O26 (by kernel_rfl) ?_
      intro c54 l54 O55
      have p56 : Kp G0 [⟨.pointer (some ⟨b15, 0, none⟩), 95, [.int .i64 x_5.2.1.Wide, .slice a19 a20 a21], 0⟩] c54 := (Kp.cons (O55.on 0 rfl) Kp.nil0)
      refine ta 0 (.int .i64 x_5.1) ?_
      refine ta 1 (.int .i64 x_17) ?_
      refine ta 2 (.bool (x_5.1 == x_17)) ?_
      rcases Bool.eq_false_or_eq_true (x_5.1 == x_17) with h57 | h57
      · skip
        have H58 := anT h57 h51
        refine AC.takeb 3 h57 rfl (by kernel_rfl) (by kernel_rfl) (fun c' hle => (by kernel_rfl)) ?_
        refine ta 4 (.bool x_5.2.2) ?_
        obtain rfl := Option.some.inj H58
        refine ta 5 (.bool x_5.2.2) ?_
        rcases Bool.eq_false_or_eq_true (x_5.2.2) with h59 | h59
        · skip
          have H60 := anT h59 h52
          refine AC.takeb 6 h59 rfl (by kernel_rfl) (by kernel_rfl) (fun c' hle => (by kernel_rfl)) ?_
          refine ta 7 (.pointer (some ⟨b15, 0, none⟩)) ?_
          refine AC.takeK 8 (.int .i64 x_5.2.1.Wide) p56 rfl (by kernel_rfl) (by kernel_rfl) (by kernel_rfl) (fun c' hle hk => (rx (by kernel_rfl) (ldE1 (j := 0) Tryd.underlying3 rfl (hk.on 0 rfl) rfl rfl))) ?_
          refine ta 9 (v3) ?_
          refine ta 10 (.int .i64 x_17) ?_
          obtain ⟨x_54, h61, H60⟩ := bs H60
          obtain ⟨l_62, h63, m64⟩ := Sl.at (h4.mono (l13.trans (l17.trans (l23.trans (l29.trans l54))))) (idx_get h61)
          obtain ⟨v65, rfl, h66⟩ := h63
          refine AC.take 11 (.pointer (some ⟨sb v3, so v3 + x_17.toNat * 2, none⟩)) rfl (by kernel_rfl) (by kernel_rfl) (fun c' hle => (rx (by kernel_rfl) (run_index (k := .i64) Tryd.underlying22 (by kernel_rfl) (h4.mono (l13.trans (l17.trans (l23.trans (l29.trans l54))))) h61 _))) ?_
          refine ta 12 (.pointer (some ⟨sb v3, so v3 + x_17.toNat * 2, none⟩)) ?_
          refine AC.take 13 (.int .i64 x_54.Kind) rfl (by kernel_rfl) (by kernel_rfl) (fun c' hle => (rx (by kernel_rfl) (run_load1 Tryd.underlying3 rfl ((fun j u hu => (m64 j u hu).mono hle) 0 _ rfl)))) ?_
          refine ta 14 (.bool (x_5.2.1.Wide == x_54.Kind)) ?_
          obtain rfl := Option.some.inj H60
          refine ta 15 (.bool (x_5.2.1.Wide == x_54.Kind)) ?_
          rcases Bool.eq_false_or_eq_true (x_5.2.1.Wide == x_54.Kind) with h67 | h67
          · skip
            have H68 := anT h67 h53
            refine AC.takeb 16 h67 rfl (by kernel_rfl) (by kernel_rfl) (fun c' hle => (by kernel_rfl)) ?_
            refine ta 17 (.pointer (some ⟨b15, 1, none⟩)) ?_
            refine AC.takeK 18 (.slice a19 a20 a21) p56 rfl (by kernel_rfl) (by kernel_rfl) (by kernel_rfl) (fun c' hle hk => (rx (by kernel_rfl) (ldE1 (j := 1) Tryd.underlying25 rfl (hk.on 0 rfl) rfl rfl))) ?_
            refine ta 19 (v3) ?_
            refine ta 20 (.int .i64 x_17) ?_
            obtain ⟨x_64, h69, H68⟩ := bs H68
            obtain ⟨l_70, h71, m72⟩ := Sl.at (h4.mono (l13.trans (l17.trans (l23.trans (l29.trans l54))))) (idx_get h69)
            obtain ⟨v73, rfl, h74⟩ := h71
            refine AC.take 21 (.pointer (some ⟨sb v3, so v3 + x_17.toNat * 2, none⟩)) rfl (by kernel_rfl) (by kernel_rfl) (fun c' hle => (rx (by kernel_rfl) (run_index (k := .i64) Tryd.underlying22 (by kernel_rfl) (h4.mono (l13.trans (l17.trans (l23.trans (l29.trans l54))))) h69 _))) ?_
            refine ta 22 (.pointer (some ⟨sb v3, so v3 + x_17.toNat * 2 + 1, none⟩)) ?_
            refine AC.take 23 (v73) rfl (by kernel_rfl) (by kernel_rfl) (fun c' hle => (rx (by kernel_rfl) (run_load1 Tryd.underlying25 rfl ((fun j u hu => (m72 j u hu).mono hle) 1 _ rfl)))) ?_
            obtain ⟨c77, h78, l77, O75, h76⟩ := O55.frz 1 rfl (h8.mono (l17.trans (l23.trans (l29.trans l54))))
            have p79 : Kp G0 [⟨.pointer (some ⟨b15, 0, none⟩), 95, [.int .i64 x_5.2.1.Wide, .slice a19 a20 a21], 0⟩] c77 := (Kp.cons (O75.on 0 rfl) Kp.nil0)
            refine AC.gh h78 l77 (fun _ => p79) ?_
            obtain ⟨x_67, h80, H68⟩ := bs H68
            refine AC.one 24 (by kernel_rfl) (Go1.callP 24 rfl (by kernel_rfl) (by kernel_rfl) (by kernel_rfl) (c_linotyperef01_Same O75 x_5.2.1.Text x_64.Text h76 (h74.mono l77) h80) ?_)
            rintro v86 c85 l85 ⟨O82, rfl⟩
            have p87 : Kp G0 [⟨.pointer (some ⟨b15, 0, none⟩), 95, [.int .i64 x_5.2.1.Wide, .slice a19 a20 a21], 0⟩] c85 := (Kp.cons (O82.on 0 rfl) Kp.nil0)
            refine ⟨.inr p87, ?_⟩
            obtain rfl := Option.some.inj H68
            refine ta 25 (.bool x_67) ?_
            refine ta 26 (.bool x_67) ?_
            refine AC.done (by kernel_rfl) ?_
            refine nrm ?_
            exact ⟨c85, _, rfl, (l54.trans (l77.trans l85)), O82, ups_self ⟨rfl, trivial⟩⟩
          · skip
            obtain rfl := anF h67 h53
            refine AC.takeb 16 h67 rfl (by kernel_rfl) (by kernel_rfl) (fun c' hle => (by kernel_rfl)) ?_
            refine AC.pass 17 rfl (by kernel_rfl) (by kernel_rfl) ?_
            refine AC.pass 18 rfl (by kernel_rfl) (by kernel_rfl) ?_
            refine AC.pass 19 rfl (by kernel_rfl) (by kernel_rfl) ?_
            refine AC.pass 20 rfl (by kernel_rfl) (by kernel_rfl) ?_
            refine AC.pass 21 rfl (by kernel_rfl) (by kernel_rfl) ?_
            refine AC.pass 22 rfl (by kernel_rfl) (by kernel_rfl) ?_
            refine AC.pass 23 rfl (by kernel_rfl) (by kernel_rfl) ?_
            refine AC.pass 24 rfl (by kernel_rfl) (by kernel_rfl) ?_
            refine ta 25 (.bool false) ?_
            refine ta 26 (.bool false) ?_
            refine AC.done (by kernel_rfl) ?_
            refine nrm ?_
            obtain ⟨c90, h91, l90, O88, h89⟩ := O55.frz 1 rfl (h8.mono (l17.trans (l23.trans (l29.trans l54))))
            exact ⟨c90, _, h91.symm, (l54.trans l90), O88, ups_self ⟨rfl, trivial⟩⟩
        · skip
          obtain rfl := anF h59 h52
          refine AC.takeb 6 h59 rfl (by kernel_rfl) (by kernel_rfl) (fun c' hle => (by kernel_rfl)) ?_
          refine AC.pass 7 rfl (by kernel_rfl) (by kernel_rfl) ?_
          refine AC.pass 8 rfl (by kernel_rfl) (by kernel_rfl) ?_
          refine AC.pass 9 rfl (by kernel_rfl) (by kernel_rfl) ?_
          refine AC.pass 10 rfl (by kernel_rfl) (by kernel_rfl) ?_
          refine AC.pass 11 rfl (by kernel_rfl) (by kernel_rfl) ?_
          refine AC.pass 12 rfl (by kernel_rfl) (by kernel_rfl) ?_
          refine AC.pass 13 rfl (by kernel_rfl) (by kernel_rfl) ?_
          refine AC.pass 14 rfl (by kernel_rfl) (by kernel_rfl) ?_
          refine ta 15 (.bool false) ?_
          have h92 : false = false := rfl
          obtain rfl := anF h92 h53
          refine AC.takeb 16 h92 rfl (by kernel_rfl) (by kernel_rfl) (fun c' hle => (by kernel_rfl)) ?_
          refine AC.pass 17 rfl (by kernel_rfl) (by kernel_rfl) ?_
          refine AC.pass 18 rfl (by kernel_rfl) (by kernel_rfl) ?_
          refine AC.pass 19 rfl (by kernel_rfl) (by kernel_rfl) ?_
          refine AC.pass 20 rfl (by kernel_rfl) (by kernel_rfl) ?_
          refine AC.pass 21 rfl (by kernel_rfl) (by kernel_rfl) ?_
          refine AC.pass 22 rfl (by kernel_rfl) (by kernel_rfl) ?_
          refine AC.pass 23 rfl (by kernel_rfl) (by kernel_rfl) ?_
          refine AC.pass 24 rfl (by kernel_rfl) (by kernel_rfl) ?_
          refine ta 25 (.bool false) ?_
          refine ta 26 (.bool false) ?_
          refine AC.done (by kernel_rfl) ?_
          refine nrm ?_
          obtain ⟨c95, h96, l95, O93, h94⟩ := O55.frz 1 rfl (h8.mono (l17.trans (l23.trans (l29.trans l54))))
          exact ⟨c95, _, h96.symm, (l54.trans l95), O93, ups_self ⟨rfl, trivial⟩⟩
      · skip
        obtain rfl := anF h57 h51
        refine AC.takeb 3 h57 rfl (by kernel_rfl) (by kernel_rfl) (fun c' hle => (by kernel_rfl)) ?_
        refine AC.pass 4 rfl (by kernel_rfl) (by kernel_rfl) ?_
        refine ta 5 (.bool false) ?_
        have h97 : false = false := rfl
        obtain rfl := anF h97 h52
        refine AC.takeb 6 h97 rfl (by kernel_rfl) (by kernel_rfl) (fun c' hle => (by kernel_rfl)) ?_
        refine AC.pass 7 rfl (by kernel_rfl) (by kernel_rfl) ?_
        refine AC.pass 8 rfl (by kernel_rfl) (by kernel_rfl) ?_
        refine AC.pass 9 rfl (by kernel_rfl) (by kernel_rfl) ?_
        refine AC.pass 10 rfl (by kernel_rfl) (by kernel_rfl) ?_
        refine AC.pass 11 rfl (by kernel_rfl) (by kernel_rfl) ?_
        refine AC.pass 12 rfl (by kernel_rfl) (by kernel_rfl) ?_
        refine AC.pass 13 rfl (by kernel_rfl) (by kernel_rfl) ?_
        refine AC.pass 14 rfl (by kernel_rfl) (by kernel_rfl) ?_
        refine ta 15 (.bool false) ?_
        have h98 : false = false := rfl
        obtain rfl := anF h98 h53
        refine AC.takeb 16 h98 rfl (by kernel_rfl) (by kernel_rfl) (fun c' hle => (by kernel_rfl)) ?_
        refine AC.pass 17 rfl (by kernel_rfl) (by kernel_rfl) ?_
        refine AC.pass 18 rfl (by kernel_rfl) (by kernel_rfl) ?_
        refine AC.pass 19 rfl (by kernel_rfl) (by kernel_rfl) ?_
        refine AC.pass 20 rfl (by kernel_rfl) (by kernel_rfl) ?_
        refine AC.pass 21 rfl (by kernel_rfl) (by kernel_rfl) ?_
        refine AC.pass 22 rfl (by kernel_rfl) (by kernel_rfl) ?_
        refine AC.pass 23 rfl (by kernel_rfl) (by kernel_rfl) ?_
        refine AC.pass 24 rfl (by kernel_rfl) (by kernel_rfl) ?_
        refine ta 25 (.bool false) ?_
        refine ta 26 (.bool false) ?_
        refine AC.done (by kernel_rfl) ?_
        refine nrm ?_
        obtain ⟨c101, h102, l101, O99, h100⟩ := O55.frz 1 rfl (h8.mono (l17.trans (l23.trans (l29.trans l54))))
        exact ⟨c101, _, h102.symm, (l54.trans l101), O99, ups_self ⟨rfl, trivial⟩⟩
    · skip
      rintro e_ w_ ⟨c103, g104, rfl, l103, O105, rfl⟩
      refine nrm ?_
      refine W.ret ?_
      obtain rfl := Option.some.inj H
      have O109 := O105.selD 2 [] (by kernel_rfl) (by kernel_rfl)
      exact ret1 (v := .bool d_58) rfl (by kernel_rfl) ⟨_, c103, rfl, rfl, (l13.trans (l17.trans (l23.trans (l29.trans l103)))), O109, rfl⟩

def f_linotypelaw25_MarkPlays (sg : Sto) (p0 : Int) (p1 : List G_linotypelaw25_Act) (p2 : Int) : Option (Sto × Bool) :=
  (f_linotypelaw25_works sg).bind fun x_3 =>
  (orE (!x_3.2) (some (decide ((p1.length : Int) > 60)))).bind fun d_5 =>
  if d_5 = true then
  (f_linotypelaw25_works x_3.1).bind fun x_11 =>
  some (x_11.1, x_11.2)
  else
  (f_row_New x_3.1 (w64 (1 + (w64 ((IntKind.u64.wrap p0).tmod 16))))).bind fun x_22 =>
  (rep (w64 (1 + (w64 ((IntKind.u64.wrap p0).tmod 16)))) (⟨0, ([] : List Int)⟩ : G_api_Cell)).bind fun x_26 =>
  (iter (σ := (List G_api_Cell) × Bool × Int × Sto) (τ := (Sto × Bool) ⊕ Sto) (((p1.length : Int) - 0).toNat + 1) (fun s_33 =>
  if (decide (s_33.2.2.1 < (p1.length : Int))) = true then
  (idx p1 s_33.2.2.1).bind fun x_41 =>
  if (decide ((x_41.Text.length : Int) > 40)) = true then
  some (.inr (.inl (s_33.2.2.2, true)))
  else
  (if x_41.On = true then
  (f_row_Row_GoOn s_33.2.2.2 x_22.2 true).bind fun x_58 =>
  (some (true, x_58) : Option (Bool × Sto))
  else
  (some (s_33.2.1, s_33.2.2.2) : Option (Bool × Sto))).bind fun z_53 =>
  (if (x_41.Kind == 0) = true then
  (f_linotyperef23_Of x_41.Wide x_41.Text).bind fun x_75 =>
  (f_linotyperef24_Wrong (w64 (1 + (w64 ((IntKind.u64.wrap p0).tmod 16)))) x_41.Col x_75).bind fun x_82 =>
  (if (x_82 == 0) = true then
  (f_linotyperef24_Paint s_33.1 z_53.1 x_41.Col x_75).bind fun x_94 =>
  (some (x_94.1, x_94.2) : Option ((List G_api_Cell) × Bool))
  else
  (some (s_33.1, z_53.1) : Option ((List G_api_Cell) × Bool))).bind fun z_85 =>
  (f_mark_Put z_53.2 x_22.2 x_41.Col x_41.Wide x_41.Text).bind fun x_108 =>
  (f_api_Code x_108.2).bind fun x_109 =>
  (some (z_85.1, z_85.2, x_109 == x_82, x_108.1) : Option ((List G_api_Cell) × Bool × Bool × Sto))
  else
  (andE (x_41.Kind == 1) (some (decide ((x_41.Text.length : Int) > 0)))).bind fun d_117 =>
  if d_117 = true then
  (idx x_41.Text 0).bind fun x_131 =>
  (f_linotyperef25_Add s_33.1 z_53.1 x_41.Col x_131).bind fun x_133 =>
  (idx x_41.Text 0).bind fun x_147 =>
  (f_mark_Add z_53.2 x_22.2 x_41.Col x_147).bind fun x_150 =>
  (some (x_133.1, x_133.2.1, x_150.2 == x_133.2.2, x_150.1) : Option ((List G_api_Cell) × Bool × Bool × Sto))
  else
  (f_linotyperef25_Widen s_33.1 z_53.1 x_41.Col).bind fun x_158 =>
  (f_mark_Widen z_53.2 x_22.2 x_41.Col).bind fun x_170 =>
  (some (x_158.1, x_158.2.1, x_170.2 == x_158.2.2, x_170.1) : Option ((List G_api_Cell) × Bool × Bool × Sto))).bind fun z_65 =>
  (orE (!z_65.2.2.1) ((f_row_Row_Cells z_65.2.2.2 x_22.2).bind fun x_180 =>
  (f_linotyperef23_Same x_180 z_65.1).bind fun x_182 =>
  some (!x_182))).bind fun d_177 =>
  (orE d_177 ((f_row_Row_Wrap z_65.2.2.2 x_22.2).bind fun x_187 =>
  some (!(x_187 == z_65.2.1)))).bind fun d_184 =>
  (orE d_184 ((f_linotypelaw25_at z_65.2.2.2 x_22.2 z_65.1 x_41.Col).bind fun x_196 =>
  some (!x_196))).bind fun d_190 =>
  (orE d_190 ((f_linotypelaw25_at z_65.2.2.2 x_22.2 z_65.1 p2).bind fun x_203 =>
  some (!x_203))).bind fun d_198 =>
  if d_198 = true then
  some (.inr (.inl (z_65.2.2.2, false)))
  else
  some (.inl (z_65.1, z_65.2.1, (w64 (s_33.2.2.1 + 1)), z_65.2.2.2))
  else
  some (.inr (.inr (s_33.2.2.2)))) (x_26, false, 0, x_22.1)).bind fun o_33 =>
  match o_33 with
  | .inl o_33 =>
  some o_33
  | .inr o_33 =>
  (f_mark_Add o_33 (none : Option Nat) 0 65).bind fun x_212 =>
  (if (!x_212.2) = true then (f_mark_Widen x_212.1 (none : Option Nat) 0).bind fun x_216 =>
  some (!x_216.2, x_216.1) else some (false, x_212.1)).bind fun d_214 =>
  (if d_214.1 = true then (f_mark_Put d_214.2 (none : Option Nat) 0 1 ([65] : List Int)).bind fun x_221 =>
  (f_api_Code x_221.2).bind fun x_222 =>
  some (x_222 == 3, x_221.1) else some (false, d_214.2)).bind fun d_218 =>
  some (d_218.2, d_218.1)
set_option maxHeartbeats 4000000 in
theorem c_linotypelaw25_MarkPlays {c0 : Cx} {G : Gm} {F : List En} {sg : Sto} {v1 : Value} (O0 : Own c0 G F) (R0 : Rel c0 sg G) (hG : Gl [0, 1, 2, 3, 4, 5, 6, 7] c0) (p0 : Int) (p1 : List G_linotypelaw25_Act) (p2 : Int) {r : Sto × Bool} (h2 : Sl R_linotypelaw25_Act c0 v1 p1) (H : f_linotypelaw25_MarkPlays sg p0 p1 p2 = some r) :
    Calls Tryd.prog 11 #[.int .i64 p0, v1, .int .i64 p2] c0.w (Post c0 fun c v => ∃ G_ : Gm, Own c G_ (F) ∧ Rel c r.1 G_ ∧ v = .bool r.2) := by
  unfold f_linotypelaw25_MarkPlays at H
  refine enter (l := [.int .i64 p0, v1, .int .i64 p2]) Tryd.func11 rfl rfl rfl ?_
  refine sr ?_
  refine va (.bool false) ?_
  refine wln ?_
  refine W.seq ?_
  refine W.seq ?_
  obtain ⟨x_3, h3, H⟩ := bs H
  obtain ⟨d_5, h4, H⟩ := bs H
  refine W.join (fun e w => ∃ (c : Cx) (g : Nat → Value) (G_ : Gm), w = c.w ∧ c0.le c ∧ Own c G_ (F) ∧ e = ups g [(0, .int .i64 p0), (1, v1), (2, .int .i64 p2), (22, .bool d_5)] ∧ Rel c x_3.1 G_) ?_ ?_
  · clear H
    refine W.region ?_
    refine WL.callP rfl (by kernel_rfl) (c_linotypelaw25_works O0 R0 (hG.le (by decide)) h3) ?_
    rintro v10 c9 l9 ⟨G5, O6, R7, rfl⟩
    refine va (.bool (!x_3.2)) ?_
    rcases Bool.eq_false_or_eq_true (!x_3.2) with h11 | h11
    · skip
      obtain rfl := orT h11 h4
      refine vb h11 ?_
      refine ps ?_
      refine ps ?_
      refine ps ?_
      refine va (.bool true) ?_
      refine wln ?_
      exact ⟨c9, _, G5, rfl, l9, O6, ups_self ⟨rfl, rfl, rfl, rfl, trivial⟩, R7⟩
    · skip
      have H12 := orF h11 h4
      refine vb h11 ?_
      refine wn ?_
      refine va (v1) ?_
      refine wn ?_
      refine WL.val0 (v := .int .i64 (p1.length : Int)) rfl (rx (by kernel_rfl) (run_len (ty := 3) Tryd.underlying80 (h2.mono l9) _)) ?_
      refine wn ?_
      refine va (.bool (decide ((p1.length : Int) > 60))) ?_
      obtain rfl := Option.some.inj H12
      refine va (.bool (decide ((p1.length : Int) > 60))) ?_
      refine wln ?_
      exact ⟨c9, _, G5, rfl, l9, O6, ups_self ⟨rfl, rfl, rfl, rfl, trivial⟩, R7⟩
  · skip
    rintro e_ w_ ⟨c13, g14, G16, rfl, l13, O15, rfl, R17⟩
    refine nrm ?_
    refine W.cond (t := d_5) (by kernel_rfl) (fun h19 => ?_) (fun h19 => ?_)
    · have H := it h19 H
      refine sr ?_
      obtain ⟨x_11, h20, H⟩ := bs H
      refine WL.callP rfl (by kernel_rfl) (c_linotypelaw25_works O15 R17 ((hG.mono l13).le (by decide)) h20) ?_
      rintro v26 c25 l25 ⟨G21, O22, R23, rfl⟩
      refine va (.bool x_11.2) ?_
      refine wln ?_
      refine W.ret ?_
      refine thr ?_
      obtain rfl := Option.some.inj H
      exact ret1 (v := .bool x_11.2) rfl (by kernel_rfl) ⟨_, c25, rfl, rfl, (l13.trans l25), G21, O22, R23, rfl⟩
    · have H := ie h19 H
      refine W.skip ?_
      refine nrm ?_
      refine sr ?_
      refine va (.int .i64 p0) ?_
      refine va (.int .u64 (IntKind.u64.wrap p0)) ?_
      refine va (.int .u64 ((IntKind.u64.wrap p0).tmod 16)) ?_
      refine va (.int .i64 (w64 ((IntKind.u64.wrap p0).tmod 16))) ?_
      refine va (.int .i64 (w64 (1 + (w64 ((IntKind.u64.wrap p0).tmod 16))))) ?_
      refine va (.int .i64 (w64 (1 + (w64 ((IntKind.u64.wrap p0).tmod 16))))) ?_
      refine wln ?_
      refine sr ?_
      refine va (.int .i64 (w64 (1 + (w64 ((IntKind.u64.wrap p0).tmod 16))))) ?_
      obtain ⟨x_22, h27, H⟩ := bs H
      refine WL.callP rfl (by kernel_rfl) (c_row_New O15 R17 (w64 (1 + (w64 ((IntKind.u64.wrap p0).tmod 16)))) h27) ?_
      rintro v28 c34 l34 ⟨_, G30, O31, R32, a33, rfl, h29⟩
      refine va (v28) ?_
      refine wln ?_
      refine sr ?_
      refine va (.int .i64 (w64 (1 + (w64 ((IntKind.u64.wrap p0).tmod 16))))) ?_
      obtain ⟨x_26, h36, H⟩ := bs H
      refine WL.mem rfl (Own.mkS (kl := .i64) (kc := .i64) (R := R_api_Cell) (z := .agg #[.int .i64 0, .slice none 0 0]) (lz := [.int .i64 0, .slice none 0 0]) (x := (⟨0, ([] : List Int)⟩ : G_api_Cell)) (by_ := 32) (i := (w64 (1 + (w64 ((IntKind.u64.wrap p0).tmod 16))))) (j := (w64 (1 + (w64 ((IntKind.u64.wrap p0).tmod 16))))) true O31 (Nat.succ_pos _) h36 (Int.le_refl _) (rep_le h36) Tryd.underlying22 (by kernel_rfl) rfl rfl (fun _ => ⟨(.slice none 0 0), rfl, (Sl.nl _ _)⟩) (by kernel_rfl) (by kernel_rfl)) ?_
      rintro v41 c40 l40 ⟨u38, O37, h39⟩
      refine va (v41) ?_
      refine wln ?_
      refine sr ?_
      refine va (.bool false) ?_
      refine wln ?_
      refine W.seq ?_
      refine sr ?_
      refine va (.int .i64 0) ?_
      refine wln ?_
      refine W.block ?_
      obtain ⟨o_33, h42, H43⟩ := bs H
      refine W.loop (σ := (List G_api_Cell) × Bool × Int × Sto) (τ := (Sto × Bool) ⊕ Sto) (fun s_33 => fun e w => ∃ (c : Cx) (g : Nat → Value) (v44 : Value) (G_ : Gm), w = c.w ∧ c40.le c ∧ Own c G_ (F) ∧ e = ups g [(0, .int .i64 (w64 (1 + (w64 ((IntKind.u64.wrap p0).tmod 16))))), (1, v1), (2, .int .i64 p2), (7, v28), (8, v44), (9, .bool s_33.2.1), (10, .int .i64 s_33.2.2.1)] ∧ Rel c s_33.2.2.2 G_ ∧ Sl R_api_Cell c v44 s_33.1) (fun t => match t with | .inl x_ => (fun rr_ ex e w => ex = .ret ∧ (fun e w => ∃ (c : Cx) (g : Nat → Value) (G_ : Gm), w = c.w ∧ c40.le c ∧ Own c G_ (F) ∧ e = ups g [(6, .bool rr_.2)] ∧ Rel c rr_.1 G_) e w) x_ | .inr x_ => (fun o_33_ ex e w => ex = .exit 0 ∧ (fun e w => ∃ (c : Cx) (g : Nat → Value) (G_ : Gm), w = c.w ∧ c40.le c ∧ Own c G_ (F) ∧ e = ups g [] ∧ Rel c o_33_ G_) e w) x_) ?_ h42 ?_ ?_
      · clear H43 h42
        intro s_33 xx_ ee_ ww_ H
        revert ee_ ww_
        rintro e_ w_ ⟨c45, g46, v44, G49, rfl, l45, O47, rfl, R50, h48⟩
        refine W.seq ?_
        refine sr ?_
        refine va (.int .i64 s_33.2.2.1) ?_
        refine va (v1) ?_
        refine WL.val0 (v := .int .i64 (p1.length : Int)) rfl (rx (by kernel_rfl) (run_len (ty := 3) Tryd.underlying80 (h2.mono (l13.trans (l34.trans (l40.trans l45)))) _)) ?_
        refine va (.bool (decide (s_33.2.2.1 < (p1.length : Int)))) ?_
        refine wln ?_
        refine W.cond (t := decide (s_33.2.2.1 < (p1.length : Int))) (by kernel_rfl) (fun h52 => ?_) (fun h52 => ?_)
        · have H := it h52 H
          refine W.skip ?_
          refine nrm ?_
          refine W.seq ?_
          refine W.block ?_
          refine sr ?_
          refine va (v1) ?_
          refine va (.int .i64 s_33.2.2.1) ?_
          obtain ⟨x_41, h53, H⟩ := bs H
          obtain ⟨l_54, h55, m56⟩ := Sl.at (h2.mono (l13.trans (l34.trans (l40.trans l45)))) (idx_get h53)
          obtain ⟨v57, rfl, h58⟩ := h55
          refine WL.val0 (v := .pointer (some ⟨sb v1, so v1 + s_33.2.2.1.toNat * 5, none⟩)) rfl (rx (by kernel_rfl) (run_index (k := .i64) Tryd.underlying80 (by kernel_rfl) (h2.mono (l13.trans (l34.trans (l40.trans l45)))) h53 _)) ?_
          refine WL.val0 (v := .agg #[.int .i64 x_41.Kind, .int .i64 x_41.Col, .int .i64 x_41.Wide, v57, .bool x_41.On]) rfl (rx (by kernel_rfl) (run_loadN (T := 82) (by kernel_rfl) (by kernel_rfl) m56)) ?_
          refine WL.mem rfl (Own.al (T := 82) (vs := [.int .i64 0, .int .i64 0, .int .i64 0, .slice none 0 0, .bool false]) O47 (by kernel_rfl)) ?_
          rintro v62 c61 l61 ⟨b59, rfl, O60⟩
          obtain ⟨a63, a64, a65, rfl⟩ := ((h58.mono l61)).form
          refine WL.memD rfl (Own.st (T := 82) (j := 0) (us := [.int .i64 x_41.Kind, .int .i64 x_41.Col, .int .i64 x_41.Wide, .slice a63 a64 a65, .bool x_41.On]) (nw := [.int .i64 x_41.Kind, .int .i64 x_41.Col, .int .i64 x_41.Wide, .slice a63 a64 a65, .bool x_41.On]) (v := .agg #[.int .i64 x_41.Kind, .int .i64 x_41.Col, .int .i64 x_41.Wide, .slice a63 a64 a65, .bool x_41.On]) 0 O60 (by kernel_rfl) rfl rfl rfl rfl (by kernel_rfl) ⟨rfl, rfl, rfl, (h58.mono l61).one, rfl, trivial⟩ rfl rfl) ?_
          rintro c67 l67 O66
          refine wln ?_
          refine W.seq ?_
          refine sr ?_
          refine va (.pointer (some ⟨b59, 3, none⟩)) ?_
          refine WL.val0 (v := .slice a63 a64 a65) rfl (rx (by kernel_rfl) (ldE1 (j := 3) Tryd.underlying25 rfl (O66.on 0 rfl) rfl rfl)) ?_
          refine WL.val0 (v := .int .i64 (x_41.Text.length : Int)) rfl (rx (by kernel_rfl) (run_len (ty := 3) Tryd.underlying25 (h58.mono (l61.trans l67)) _)) ?_
          refine va (.bool (decide ((x_41.Text.length : Int) > 40))) ?_
          refine wln ?_
          refine W.cond (t := decide ((x_41.Text.length : Int) > 40)) (by kernel_rfl) (fun h68 => ?_) (fun h68 => ?_)
          · have H := it h68 H
            refine sr ?_
            refine va (.bool true) ?_
            refine wln ?_
            refine W.ret ?_
            refine thr ?_
            refine bkr ?_
            refine thr ?_
            obtain rfl := Option.some.inj H
            refine ⟨_, rfl, ?_⟩
            refine ⟨rfl, ?_⟩
            have O69 := O66.selD 1 [] (by kernel_rfl) (by kernel_rfl)
            exact ⟨c67, _, G49, rfl, (l45.trans (l61.trans l67)), O69, ups_self ⟨rfl, trivial⟩, (R50.mono (l61.trans l67))⟩
          · have H := ie h68 H
            refine W.skip ?_
            refine nrm ?_
            obtain ⟨z_53, H70, H71⟩ := bs H
            refine W.seqJ (fun e w => ∃ (c : Cx) (g : Nat → Value) (G_ : Gm), w = c.w ∧ c67.le c ∧ Own c G_ (⟨.pointer (some ⟨b59, 0, none⟩), 82, [.int .i64 x_41.Kind, .int .i64 x_41.Col, .int .i64 x_41.Wide, .slice a63 a64 a65, .bool x_41.On], 0⟩ :: F) ∧ e = ups g [(0, .int .i64 (w64 (1 + (w64 ((IntKind.u64.wrap p0).tmod 16))))), (1, v1), (2, .int .i64 p2), (7, v28), (8, v44), (9, .bool z_53.1), (10, .int .i64 s_33.2.2.1), (11, .pointer (some ⟨b59, 0, none⟩))] ∧ Rel c z_53.2 G_) ?_ ?_
            · skip
              refine sr ?_
              refine va (.pointer (some ⟨b59, 4, none⟩)) ?_
              refine WL.val0 (v := .bool x_41.On) rfl (rx (by kernel_rfl) (ldE1 (j := 4) Tryd.underlying4 rfl (O66.on 0 rfl) rfl rfl)) ?_
              refine wln ?_
              refine W.cond (t := x_41.On) (by kernel_rfl) (fun h72 => ?_) (fun h72 => ?_)
              · have H70 := it h72 H70
                refine sr ?_
                refine va (v28) ?_
                obtain ⟨x_58, h73, H70⟩ := bs H70
                refine WL.callP rfl (by kernel_rfl) (c_row_Row_GoOn O66 (R50.mono (l61.trans l67)) x_22.2 true (h29.mono (l40.trans (l45.trans (l61.trans l67)))) h73) ?_
                rintro v79 c78 l78 ⟨G74, O75, R76, rfl⟩
                refine wln ?_
                refine W.region ?_
                refine va (.bool true) ?_
                refine wln ?_
                obtain rfl := Option.some.inj H70
                exact ⟨c78, _, G74, rfl, l78, O75, ups_self ⟨rfl, rfl, rfl, rfl, rfl, rfl, rfl, rfl, trivial⟩, R76⟩
              · have H70 := ie h72 H70
                refine W.skip ?_
                refine nrm ?_
                obtain rfl := Option.some.inj H70
                exact ⟨c67, _, G49, rfl, (Cx.le.refl _), O66, ups_self ⟨rfl, rfl, rfl, rfl, rfl, rfl, rfl, rfl, trivial⟩, (R50.mono (l61.trans l67))⟩
            · skip
              rintro e_ w_ ⟨c80, g81, G83, rfl, l80, O82, rfl, R84⟩
              refine sr ?_
              refine va (.bool false) ?_
              refine va (.bool false) ?_
              refine wln ?_
              obtain ⟨z_65, H86, H87⟩ := bs H71
              refine W.seqJ (fun e w => ∃ (c : Cx) (g : Nat → Value) (v88 : Value) (G_ : Gm), w = c.w ∧ c80.le c ∧ Own c G_ (⟨.pointer (some ⟨b59, 0, none⟩), 82, [.int .i64 x_41.Kind, .int .i64 x_41.Col, .int .i64 x_41.Wide, .slice a63 a64 a65, .bool x_41.On], 0⟩ :: F) ∧ e = ups g [(0, .int .i64 (w64 (1 + (w64 ((IntKind.u64.wrap p0).tmod 16))))), (1, v1), (2, .int .i64 p2), (7, v28), (8, v88), (9, .bool z_65.2.1), (10, .int .i64 s_33.2.2.1), (11, .pointer (some ⟨b59, 0, none⟩)), (13, .bool z_65.2.2.1)] ∧ Rel c z_65.2.2.2 G_ ∧ Sl R_api_Cell c v88 z_65.1) ?_ ?_
              · skip
                refine W.block ?_
                refine sr ?_
                refine va (.pointer (some ⟨b59, 0, none⟩)) ?_
                refine WL.val0 (v := .int .i64 x_41.Kind) rfl (rx (by kernel_rfl) (ldE1 (j := 0) Tryd.underlying3 rfl (O82.on 0 rfl) rfl rfl)) ?_
                refine va (.bool (x_41.Kind == 0)) ?_
                refine va (.bool (x_41.Kind == 0)) ?_
                refine wln ?_
                refine W.cond (t := x_41.Kind == 0) (by kernel_rfl) (fun h89 => ?_) (fun h89 => ?_)
                · have H86 := it h89 H86
                  refine sr ?_
                  refine va (.pointer (some ⟨b59, 2, none⟩)) ?_
                  refine WL.val0 (v := .int .i64 x_41.Wide) rfl (rx (by kernel_rfl) (ldE1 (j := 2) Tryd.underlying3 rfl (O82.on 0 rfl) rfl rfl)) ?_
                  refine va (.pointer (some ⟨b59, 3, none⟩)) ?_
                  refine WL.val0 (v := .slice a63 a64 a65) rfl (rx (by kernel_rfl) (ldE1 (j := 3) Tryd.underlying25 rfl (O82.on 0 rfl) rfl rfl)) ?_
                  obtain ⟨x_75, h90, H86⟩ := bs H86
                  refine WL.callP rfl (by kernel_rfl) (c_linotyperef23_Of O82 x_41.Wide x_41.Text (h58.mono (l61.trans (l67.trans l80))) h90) ?_
                  rintro v91 c98 l98 ⟨_, u92, O95, rfl, h93⟩
                  refine va (v91) ?_
                  refine wln ?_
                  refine sr ?_
                  refine va (.int .i64 (w64 (1 + (w64 ((IntKind.u64.wrap p0).tmod 16))))) ?_
                  refine va (.pointer (some ⟨b59, 1, none⟩)) ?_
                  refine WL.val0 (v := .int .i64 x_41.Col) rfl (rx (by kernel_rfl) (ldE1 (j := 1) Tryd.underlying3 rfl (O95.on 1 rfl) rfl rfl)) ?_
                  refine va (v91) ?_
                  obtain ⟨c102, h103, l102, O100, h101⟩ := O95.frz 0 rfl h93
                  refine WL.gh h103 ?_
                  obtain ⟨x_82, h104, H86⟩ := bs H86
                  refine WL.callP rfl (by kernel_rfl) (c_linotyperef24_Wrong O100 (w64 (1 + (w64 ((IntKind.u64.wrap p0).tmod 16)))) x_41.Col x_75 h101 h104) ?_
                  rintro v110 c109 l109 ⟨O106, rfl⟩
                  refine va (.int .i64 x_82) ?_
                  refine wln ?_
                  obtain ⟨z_85, H111, H112⟩ := bs H86
                  refine W.seqJ (fun e w => ∃ (c : Cx) (g : Nat → Value) (v113 : Value), w = c.w ∧ c109.le c ∧ Own c G83 (es false R_api_Cell v91 27 u92 x_75 :: ⟨.pointer (some ⟨b59, 0, none⟩), 82, [.int .i64 x_41.Kind, .int .i64 x_41.Col, .int .i64 x_41.Wide, .slice a63 a64 a65, .bool x_41.On], 0⟩ :: F) ∧ e = ups g [(0, .int .i64 (w64 (1 + (w64 ((IntKind.u64.wrap p0).tmod 16))))), (1, v1), (2, .int .i64 p2), (7, v28), (8, v113), (9, .bool z_85.2), (10, .int .i64 s_33.2.2.1), (11, .pointer (some ⟨b59, 0, none⟩)), (15, .int .i64 x_82)] ∧ Sl R_api_Cell c v113 z_85.1) ?_ ?_
                  · skip
                    refine sr ?_
                    refine va (.int .i64 x_82) ?_
                    refine va (.bool (x_82 == 0)) ?_
                    refine wln ?_
                    refine W.cond (t := x_82 == 0) (by kernel_rfl) (fun h114 => ?_) (fun h114 => ?_)
                    · have H111 := it h114 H111
                      refine W.region ?_
                      refine va (v44) ?_
                      refine va (.bool z_53.1) ?_
                      refine va (.pointer (some ⟨b59, 1, none⟩)) ?_
                      refine WL.val0 (v := .int .i64 x_41.Col) rfl (rx (by kernel_rfl) (ldE1 (j := 1) Tryd.underlying3 rfl (O106.on 1 rfl) rfl rfl)) ?_
                      refine va (v91) ?_
                      have h115 := O106.slf 0 rfl (h93.mono (l102.trans l109))
                      obtain ⟨x_94, h116, H111⟩ := bs H111
                      refine WL.callP rfl (by kernel_rfl) (c_linotyperef24_Paint O106 s_33.1 z_53.1 x_41.Col x_75 (h48.mono (l61.trans (l67.trans (l80.trans (l98.trans (l102.trans l109)))))) h115 h116) ?_
                      rintro v125 c124 l124 ⟨v117, u118, O121, rfl, h119⟩
                      refine va (.tuple #[v117, .bool x_94.2]) ?_
                      refine va (v117) ?_
                      refine va (.bool x_94.2) ?_
                      refine va (v117) ?_
                      refine va (.bool x_94.2) ?_
                      refine wln ?_
                      obtain rfl := Option.some.inj H111
                      obtain ⟨c128, h129, l128, O126, h127⟩ := O121.frz 0 rfl h119
                      have O130 := O126.selD 3 [1, 2] (by kernel_rfl) (by kernel_rfl)
                      exact ⟨c128, _, v117, h129.symm, (l124.trans l128), O130, ups_self ⟨rfl, rfl, rfl, rfl, rfl, rfl, rfl, rfl, rfl, trivial⟩, h127⟩
                    · have H111 := ie h114 H111
                      refine W.skip ?_
                      refine nrm ?_
                      obtain rfl := Option.some.inj H111
                      exact ⟨c109, _, v44, rfl, (Cx.le.refl _), O106, ups_self ⟨rfl, rfl, rfl, rfl, rfl, rfl, rfl, rfl, rfl, trivial⟩, (h48.mono (l61.trans (l67.trans (l80.trans (l98.trans (l102.trans l109))))))⟩
                  · skip
                    rintro e_ w_ ⟨c131, g132, v113, rfl, l131, O133, rfl, h134⟩
                    refine W.region ?_
                    refine va (v28) ?_
                    refine va (.pointer (some ⟨b59, 1, none⟩)) ?_
                    refine WL.val0 (v := .int .i64 x_41.Col) rfl (rx (by kernel_rfl) (ldE1 (j := 1) Tryd.underlying3 rfl (O133.on 1 rfl) rfl rfl)) ?_
                    refine va (.pointer (some ⟨b59, 2, none⟩)) ?_
                    refine WL.val0 (v := .int .i64 x_41.Wide) rfl (rx (by kernel_rfl) (ldE1 (j := 2) Tryd.underlying3 rfl (O133.on 1 rfl) rfl rfl)) ?_
                    refine va (.pointer (some ⟨b59, 3, none⟩)) ?_
                    refine WL.val0 (v := .slice a63 a64 a65) rfl (rx (by kernel_rfl) (ldE1 (j := 3) Tryd.underlying25 rfl (O133.on 1 rfl) rfl rfl)) ?_
                    obtain ⟨x_108, h138, H112⟩ := bs H112
                    refine WL.callP rfl (by kernel_rfl) (c_mark_Put O133 (R84.mono (l98.trans (l102.trans (l109.trans l131)))) ((hG.mono (l13.trans (l34.trans (l40.trans (l45.trans (l61.trans (l67.trans (l80.trans (l98.trans (l102.trans (l109.trans l131))))))))))).le (by decide)) x_22.2 x_41.Col x_41.Wide x_41.Text (h29.mono (l40.trans (l45.trans (l61.trans (l67.trans (l80.trans (l98.trans (l102.trans (l109.trans l131))))))))) (h58.mono (l61.trans (l67.trans (l80.trans (l98.trans (l102.trans (l109.trans l131))))))) h138) ?_
                    rintro v139 c145 l145 ⟨_, G141, O142, R143, rfl, h140⟩
                    obtain ⟨x_109, h147, H112⟩ := bs H112
                    refine WL.callP rfl (by kernel_rfl) (c_api_Code O142 ((hG.mono (l13.trans (l34.trans (l40.trans (l45.trans (l61.trans (l67.trans (l80.trans (l98.trans (l102.trans (l109.trans (l131.trans l145)))))))))))).le (by decide)) x_108.2 h140 h147) ?_
                    rintro v153 c152 l152 ⟨O149, rfl⟩
                    refine va (.int .i64 x_82) ?_
                    refine va (.bool (x_109 == x_82)) ?_
                    refine va (.bool (x_109 == x_82)) ?_
                    refine WL.nil ?_
                    refine bkn ?_
                    refine nrm ?_
                    obtain rfl := Option.some.inj H112
                    have O154 := O149.selD 2 [1] (by kernel_rfl) (by kernel_rfl)
                    exact ⟨c152, _, v113, G141, rfl, (l98.trans (l102.trans (l109.trans (l131.trans (l145.trans l152))))), O154, ups_self ⟨rfl, rfl, rfl, rfl, rfl, rfl, rfl, rfl, rfl, trivial⟩, (R143.mono l152), (h134.mono (l145.trans l152))⟩
                · have H86 := ie h89 H86
                  refine W.seq ?_
                  obtain ⟨d_117, h155, H86⟩ := bs H86
                  refine W.join (fun e w => ∃ (c : Cx) (g : Nat → Value), w = c.w ∧ c80.le c ∧ Own c G83 (⟨.pointer (some ⟨b59, 0, none⟩), 82, [.int .i64 x_41.Kind, .int .i64 x_41.Col, .int .i64 x_41.Wide, .slice a63 a64 a65, .bool x_41.On], 0⟩ :: F) ∧ e = ups g [(0, .int .i64 (w64 (1 + (w64 ((IntKind.u64.wrap p0).tmod 16))))), (1, v1), (2, .int .i64 p2), (7, v28), (8, v44), (9, .bool z_53.1), (10, .int .i64 s_33.2.2.1), (11, .pointer (some ⟨b59, 0, none⟩)), (102, .bool d_117)]) ?_ ?_
                  · clear H86
                    refine W.region ?_
                    refine va (.pointer (some ⟨b59, 0, none⟩)) ?_
                    refine WL.val0 (v := .int .i64 x_41.Kind) rfl (rx (by kernel_rfl) (ldE1 (j := 0) Tryd.underlying3 rfl (O82.on 0 rfl) rfl rfl)) ?_
                    refine va (.bool (x_41.Kind == 1)) ?_
                    rcases Bool.eq_false_or_eq_true (x_41.Kind == 1) with h156 | h156
                    · skip
                      have H157 := anT h156 h155
                      refine vb h156 ?_
                      refine wn ?_
                      refine va (.pointer (some ⟨b59, 3, none⟩)) ?_
                      refine wn ?_
                      refine WL.val0 (v := .slice a63 a64 a65) rfl (rx (by kernel_rfl) (ldE1 (j := 3) Tryd.underlying25 rfl (O82.on 0 rfl) rfl rfl)) ?_
                      refine wn ?_
                      refine WL.val0 (v := .int .i64 (x_41.Text.length : Int)) rfl (rx (by kernel_rfl) (run_len (ty := 3) Tryd.underlying25 (h58.mono (l61.trans (l67.trans l80))) _)) ?_
                      refine wn ?_
                      refine va (.bool (decide ((x_41.Text.length : Int) > 0))) ?_
                      obtain rfl := Option.some.inj H157
                      refine va (.bool (decide ((x_41.Text.length : Int) > 0))) ?_
                      refine va (.bool (decide ((x_41.Text.length : Int) > 0))) ?_
                      refine wln ?_
                      exact ⟨c80, _, rfl, (Cx.le.refl _), O82, ups_self ⟨rfl, rfl, rfl, rfl, rfl, rfl, rfl, rfl, rfl, trivial⟩⟩
                    · skip
                      obtain rfl := anF h156 h155
                      refine vb h156 ?_
                      refine ps ?_
                      refine ps ?_
                      refine ps ?_
                      refine ps ?_
                      refine va (.bool false) ?_
                      refine va (.bool false) ?_
                      refine wln ?_
                      exact ⟨c80, _, rfl, (Cx.le.refl _), O82, ups_self ⟨rfl, rfl, rfl, rfl, rfl, rfl, rfl, rfl, rfl, trivial⟩⟩
                  · skip
                    rintro e_ w_ ⟨c158, g159, rfl, l158, O160, rfl⟩
                    refine nrm ?_
                    refine W.cond (t := d_117) (by kernel_rfl) (fun h164 => ?_) (fun h164 => ?_)
                    · have H86 := it h164 H86
                      refine W.seq ?_
                      refine W.regionD [] (Kp G0 [⟨.pointer (some ⟨b59, 0, none⟩), 82, [.int .i64 x_41.Kind, .int .i64 x_41.Col, .int .i64 x_41.Wide, .slice a63 a64 a65, .bool x_41.On], 0⟩]) O160 (by kernel_rfl) ?_
                      intro c165 l165 O166
                      have p167 : Kp G0 [⟨.pointer (some ⟨b59, 0, none⟩), 82, [.int .i64 x_41.Kind, .int .i64 x_41.Col, .int .i64 x_41.Wide, .slice a63 a64 a65, .bool x_41.On], 0⟩] c165 := (Kp.cons (O166.on 0 rfl) Kp.nil0)
                      refine ta 0 (v44) ?_
                      refine ta 1 (.bool z_53.1) ?_
                      refine ta 2 (.pointer (some ⟨b59, 1, none⟩)) ?_
                      refine AC.takeK 3 (.int .i64 x_41.Col) p167 rfl (by kernel_rfl) (by kernel_rfl) (by kernel_rfl) (fun c' hle hk => (rx (by kernel_rfl) (ldE1 (j := 1) Tryd.underlying3 rfl (hk.on 0 rfl) rfl rfl))) ?_
                      refine ta 4 (.pointer (some ⟨b59, 3, none⟩)) ?_
                      refine AC.takeK 5 (.slice a63 a64 a65) p167 rfl (by kernel_rfl) (by kernel_rfl) (by kernel_rfl) (fun c' hle hk => (rx (by kernel_rfl) (ldE1 (j := 3) Tryd.underlying25 rfl (hk.on 0 rfl) rfl rfl))) ?_
                      obtain ⟨x_131, h168, H86⟩ := bs H86
                      obtain ⟨l_169, h170, m171⟩ := Sl.at (h58.mono (l61.trans (l67.trans (l80.trans (l158.trans l165))))) (idx_get h168)
                      obtain rfl := h170
                      refine AC.take 6 (.pointer (some ⟨sb (.slice a63 a64 a65), so (.slice a63 a64 a65) + (0 : Int).toNat * 1, none⟩)) rfl (by kernel_rfl) (by kernel_rfl) (fun c' hle => (rx (by kernel_rfl) (run_index (k := .i64) Tryd.underlying25 (by kernel_rfl) (h58.mono (l61.trans (l67.trans (l80.trans (l158.trans l165))))) h168 _))) ?_
                      refine AC.take 7 (.int .i32 x_131) rfl (by kernel_rfl) (by kernel_rfl) (fun c' hle => (rx (by kernel_rfl) (run_load1 Tryd.underlying21 rfl ((fun j u hu => (m171 j u hu).mono hle) 0 _ rfl)))) ?_
                      obtain ⟨x_133, h172, H86⟩ := bs H86
                      refine AC.one 8 (by kernel_rfl) (Go1.callP 8 rfl (by kernel_rfl) (by kernel_rfl) (by kernel_rfl) (c_linotyperef25_Add O166 s_33.1 z_53.1 x_41.Col x_131 (h48.mono (l61.trans (l67.trans (l80.trans (l158.trans l165))))) h172) ?_)
                      rintro v180 c179 l179 ⟨v173, O176, rfl, h174⟩
                      have p181 : Kp G0 [⟨.pointer (some ⟨b59, 0, none⟩), 82, [.int .i64 x_41.Kind, .int .i64 x_41.Col, .int .i64 x_41.Wide, .slice a63 a64 a65, .bool x_41.On], 0⟩] c179 := (Kp.cons (O176.on 0 rfl) Kp.nil0)
                      refine ⟨.inr p181, ?_⟩
                      refine ta 9 (.tuple #[v173, .bool x_133.2.1, .bool x_133.2.2]) ?_
                      refine ta 10 (v173) ?_
                      refine ta 11 (.bool x_133.2.1) ?_
                      refine ta 12 (.bool x_133.2.2) ?_
                      refine ta 13 (v173) ?_
                      refine ta 14 (.bool x_133.2.1) ?_
                      refine ta 15 (.bool x_133.2.2) ?_
                      refine AC.done (by kernel_rfl) ?_
                      refine nrm ?_
                      refine W.regionD [] (Kp G0 [⟨.pointer (some ⟨b59, 0, none⟩), 82, [.int .i64 x_41.Kind, .int .i64 x_41.Col, .int .i64 x_41.Wide, .slice a63 a64 a65, .bool x_41.On], 0⟩]) O176 (by kernel_rfl) ?_
                      intro c182 l182 O183
                      have p184 : Kp G0 [⟨.pointer (some ⟨b59, 0, none⟩), 82, [.int .i64 x_41.Kind, .int .i64 x_41.Col, .int .i64 x_41.Wide, .slice a63 a64 a65, .bool x_41.On], 0⟩] c182 := (Kp.cons (O183.on 0 rfl) Kp.nil0)
                      refine ta 0 (v28) ?_
                      refine ta 1 (.pointer (some ⟨b59, 1, none⟩)) ?_
                      refine AC.takeK 2 (.int .i64 x_41.Col) p184 rfl (by kernel_rfl) (by kernel_rfl) (by kernel_rfl) (fun c' hle hk => (rx (by kernel_rfl) (ldE1 (j := 1) Tryd.underlying3 rfl (hk.on 0 rfl) rfl rfl))) ?_
                      refine ta 3 (.pointer (some ⟨b59, 3, none⟩)) ?_
                      refine AC.takeK 4 (.slice a63 a64 a65) p184 rfl (by kernel_rfl) (by kernel_rfl) (by kernel_rfl) (fun c' hle hk => (rx (by kernel_rfl) (ldE1 (j := 3) Tryd.underlying25 rfl (hk.on 0 rfl) rfl rfl))) ?_
                      obtain ⟨x_147, h185, H86⟩ := bs H86
                      obtain ⟨l_186, h187, m188⟩ := Sl.at (h58.mono (l61.trans (l67.trans (l80.trans (l158.trans (l165.trans (l179.trans l182))))))) (idx_get h185)
                      obtain rfl := h187
                      refine AC.take 5 (.pointer (some ⟨sb (.slice a63 a64 a65), so (.slice a63 a64 a65) + (0 : Int).toNat * 1, none⟩)) rfl (by kernel_rfl) (by kernel_rfl) (fun c' hle => (rx (by kernel_rfl) (run_index (k := .i64) Tryd.underlying25 (by kernel_rfl) (h58.mono (l61.trans (l67.trans (l80.trans (l158.trans (l165.trans (l179.trans l182))))))) h185 _))) ?_
                      refine AC.take 6 (.int .i32 x_147) rfl (by kernel_rfl) (by kernel_rfl) (fun c' hle => (rx (by kernel_rfl) (run_load1 Tryd.underlying21 rfl ((fun j u hu => (m188 j u hu).mono hle) 0 _ rfl)))) ?_
                      refine ta 8 (.bool x_133.2.2) ?_
                      obtain ⟨x_150, h189, H86⟩ := bs H86
                      refine AC.one 7 (by kernel_rfl) (Go1.callP 7 rfl (by kernel_rfl) (by kernel_rfl) (by kernel_rfl) (c_mark_Add O183 (R84.mono (l158.trans (l165.trans (l179.trans l182)))) ((hG.mono (l13.trans (l34.trans (l40.trans (l45.trans (l61.trans (l67.trans (l80.trans (l158.trans (l165.trans (l179.trans l182))))))))))).le (by decide)) x_22.2 x_41.Col x_147 (h29.mono (l40.trans (l45.trans (l61.trans (l67.trans (l80.trans (l158.trans (l165.trans (l179.trans l182))))))))) h189) ?_)
                      rintro v195 c194 l194 ⟨G190, O191, R192, rfl⟩
                      have p196 : Kp G0 [⟨.pointer (some ⟨b59, 0, none⟩), 82, [.int .i64 x_41.Kind, .int .i64 x_41.Col, .int .i64 x_41.Wide, .slice a63 a64 a65, .bool x_41.On], 0⟩] c194 := (Kp.cons (O191.on 0 rfl) Kp.nil0)
                      refine ⟨.inr p196, ?_⟩
                      refine ta 9 (.bool (x_150.2 == x_133.2.2)) ?_
                      refine ta 10 (.bool (x_150.2 == x_133.2.2)) ?_
                      refine AC.done (by kernel_rfl) ?_
                      refine bkn ?_
                      refine nrm ?_
                      obtain rfl := Option.some.inj H86
                      exact ⟨c194, _, v173, G190, rfl, (l158.trans (l165.trans (l179.trans (l182.trans l194)))), O191, ups_self ⟨rfl, rfl, rfl, rfl, rfl, rfl, rfl, rfl, rfl, trivial⟩, R192, (h174.mono (l182.trans l194))⟩
                    · have H86 := ie h164 H86
                      refine sr ?_
                      refine va (v44) ?_
                      refine va (.bool z_53.1) ?_
                      refine va (.pointer (some ⟨b59, 1, none⟩)) ?_
                      refine WL.val0 (v := .int .i64 x_41.Col) rfl (rx (by kernel_rfl) (ldE1 (j := 1) Tryd.underlying3 rfl (O160.on 0 rfl) rfl rfl)) ?_
                      obtain ⟨x_158, h197, H86⟩ := bs H86
                      refine WL.callP rfl (by kernel_rfl) (c_linotyperef25_Widen O160 s_33.1 z_53.1 x_41.Col (h48.mono (l61.trans (l67.trans (l80.trans l158)))) h197) ?_
                      rintro v205 c204 l204 ⟨v198, O201, rfl, h199⟩
                      refine va (.tuple #[v198, .bool x_158.2.1, .bool x_158.2.2]) ?_
                      refine va (v198) ?_
                      refine va (.bool x_158.2.1) ?_
                      refine va (.bool x_158.2.2) ?_
                      refine va (v198) ?_
                      refine va (.bool x_158.2.1) ?_
                      refine va (.bool x_158.2.2) ?_
                      refine wln ?_
                      refine W.region ?_
                      refine va (v28) ?_
                      refine va (.pointer (some ⟨b59, 1, none⟩)) ?_
                      refine WL.val0 (v := .int .i64 x_41.Col) rfl (rx (by kernel_rfl) (ldE1 (j := 1) Tryd.underlying3 rfl (O201.on 0 rfl) rfl rfl)) ?_
                      obtain ⟨x_170, h206, H86⟩ := bs H86
                      refine WL.callP rfl (by kernel_rfl) (c_mark_Widen O201 (R84.mono (l158.trans l204)) ((hG.mono (l13.trans (l34.trans (l40.trans (l45.trans (l61.trans (l67.trans (l80.trans (l158.trans l204))))))))).le (by decide)) x_22.2 x_41.Col (h29.mono (l40.trans (l45.trans (l61.trans (l67.trans (l80.trans (l158.trans l204))))))) h206) ?_
                      rintro v212 c211 l211 ⟨G207, O208, R209, rfl⟩
                      refine va (.bool x_158.2.2) ?_
                      refine va (.bool (x_170.2 == x_158.2.2)) ?_
                      refine va (.bool (x_170.2 == x_158.2.2)) ?_
                      refine WL.nil ?_
                      refine bkn ?_
                      refine nrm ?_
                      obtain rfl := Option.some.inj H86
                      exact ⟨c211, _, v198, G207, rfl, (l158.trans (l204.trans l211)), O208, ups_self ⟨rfl, rfl, rfl, rfl, rfl, rfl, rfl, rfl, rfl, trivial⟩, R209, (h199.mono l211)⟩
              · skip
                rintro e_ w_ ⟨c213, g214, v88, G217, rfl, l213, O215, rfl, R218, h216⟩
                refine W.seq ?_
                obtain ⟨d_177, h220, H87⟩ := bs H87
                obtain ⟨d_184, h221, H87⟩ := bs H87
                obtain ⟨d_190, h222, H87⟩ := bs H87
                obtain ⟨d_198, h223, H87⟩ := bs H87
                refine W.join (fun e w => ∃ (c : Cx) (g : Nat → Value), w = c.w ∧ c213.le c ∧ Own c G217 (⟨.pointer (some ⟨b59, 0, none⟩), 82, [.int .i64 x_41.Kind, .int .i64 x_41.Col, .int .i64 x_41.Wide, .slice a63 a64 a65, .bool x_41.On], 0⟩ :: F) ∧ e = ups g [(0, .int .i64 (w64 (1 + (w64 ((IntKind.u64.wrap p0).tmod 16))))), (1, v1), (2, .int .i64 p2), (7, v28), (8, v88), (9, .bool z_65.2.1), (10, .int .i64 s_33.2.2.1), (164, .bool d_198)]) ?_ ?_
                · clear H87
                  refine W.region ?_
                  refine va (.bool z_65.2.2.1) ?_
                  refine va (.bool (!z_65.2.2.1)) ?_
                  rcases Bool.eq_false_or_eq_true (!z_65.2.2.1) with h224 | h224
                  · skip
                    obtain rfl := orT h224 h220
                    refine vb h224 ?_
                    refine ps ?_
                    refine ps ?_
                    refine ps ?_
                    refine ps ?_
                    refine ps ?_
                    refine va (.bool true) ?_
                    have h225 : true = true := rfl
                    obtain rfl := orT h225 h221
                    refine vb h225 ?_
                    refine ps ?_
                    refine ps ?_
                    refine ps ?_
                    refine ps ?_
                    refine va (.bool true) ?_
                    have h226 : true = true := rfl
                    obtain rfl := orT h226 h222
                    refine vb h226 ?_
                    refine ps ?_
                    refine ps ?_
                    refine ps ?_
                    refine ps ?_
                    refine ps ?_
                    refine ps ?_
                    refine va (.bool true) ?_
                    have h227 : true = true := rfl
                    obtain rfl := orT h227 h223
                    refine vb h227 ?_
                    refine ps ?_
                    refine ps ?_
                    refine ps ?_
                    refine ps ?_
                    refine ps ?_
                    refine va (.bool true) ?_
                    refine wln ?_
                    exact ⟨c213, _, rfl, (Cx.le.refl _), O215, ups_self ⟨rfl, rfl, rfl, rfl, rfl, rfl, rfl, rfl, trivial⟩⟩
                  · skip
                    have H228 := orF h224 h220
                    refine vb h224 ?_
                    refine wn ?_
                    refine va (v28) ?_
                    refine wn ?_
                    obtain ⟨x_180, h229, H228⟩ := bs H228
                    refine WL.callP rfl (by kernel_rfl) (c_row_Row_Cells O215 R218 x_22.2 (h29.mono (l40.trans (l45.trans (l61.trans (l67.trans (l80.trans l213)))))) h229) ?_
                    rintro v230 c237 l237 ⟨_, u231, O234, rfl, h232⟩
                    refine wn ?_
                    refine va (v88) ?_
                    refine wn ?_
                    obtain ⟨c241, h242, l241, O239, h240⟩ := O234.frz 0 rfl h232
                    refine WL.gh h242 ?_
                    obtain ⟨x_182, h243, H228⟩ := bs H228
                    refine WL.callP rfl (by kernel_rfl) (c_linotyperef23_Same O239 x_180 z_65.1 h240 (h216.mono (l237.trans l241)) h243) ?_
                    rintro v249 c248 l248 ⟨O245, rfl⟩
                    refine wn ?_
                    refine va (.bool (!x_182)) ?_
                    obtain rfl := Option.some.inj H228
                    refine va (.bool (!x_182)) ?_
                    rcases Bool.eq_false_or_eq_true (!x_182) with h250 | h250
                    · skip
                      obtain rfl := orT h250 h221
                      refine vb h250 ?_
                      refine ps ?_
                      refine ps ?_
                      refine ps ?_
                      refine ps ?_
                      refine va (.bool true) ?_
                      have h251 : true = true := rfl
                      obtain rfl := orT h251 h222
                      refine vb h251 ?_
                      refine ps ?_
                      refine ps ?_
                      refine ps ?_
                      refine ps ?_
                      refine ps ?_
                      refine ps ?_
                      refine va (.bool true) ?_
                      have h252 : true = true := rfl
                      obtain rfl := orT h252 h223
                      refine vb h252 ?_
                      refine ps ?_
                      refine ps ?_
                      refine ps ?_
                      refine ps ?_
                      refine ps ?_
                      refine va (.bool true) ?_
                      refine wln ?_
                      have O253 := O245.selD 2 [1] (by kernel_rfl) (by kernel_rfl)
                      exact ⟨c248, _, rfl, (l237.trans (l241.trans l248)), O253, ups_self ⟨rfl, rfl, rfl, rfl, rfl, rfl, rfl, rfl, trivial⟩⟩
                    · skip
                      have H254 := orF h250 h221
                      refine vb h250 ?_
                      refine wn ?_
                      refine va (v28) ?_
                      refine wn ?_
                      obtain ⟨x_187, h255, H254⟩ := bs H254
                      refine WL.callP rfl (by kernel_rfl) (c_row_Row_Wrap O245 (R218.mono (l237.trans (l241.trans l248))) x_22.2 (h29.mono (l40.trans (l45.trans (l61.trans (l67.trans (l80.trans (l213.trans (l237.trans (l241.trans l248))))))))) h255) ?_
                      rintro v261 c260 l260 ⟨O257, rfl⟩
                      refine wn ?_
                      refine va (.bool z_65.2.1) ?_
                      refine wn ?_
                      refine va (.bool (!(x_187 == z_65.2.1))) ?_
                      obtain rfl := Option.some.inj H254
                      refine va (.bool (!(x_187 == z_65.2.1))) ?_
                      rcases Bool.eq_false_or_eq_true (!(x_187 == z_65.2.1)) with h262 | h262
                      · skip
                        obtain rfl := orT h262 h222
                        refine vb h262 ?_
                        refine ps ?_
                        refine ps ?_
                        refine ps ?_
                        refine ps ?_
                        refine ps ?_
                        refine ps ?_
                        refine va (.bool true) ?_
                        have h263 : true = true := rfl
                        obtain rfl := orT h263 h223
                        refine vb h263 ?_
                        refine ps ?_
                        refine ps ?_
                        refine ps ?_
                        refine ps ?_
                        refine ps ?_
                        refine va (.bool true) ?_
                        refine wln ?_
                        have O264 := O257.selD 2 [1] (by kernel_rfl) (by kernel_rfl)
                        exact ⟨c260, _, rfl, (l237.trans (l241.trans (l248.trans l260))), O264, ups_self ⟨rfl, rfl, rfl, rfl, rfl, rfl, rfl, rfl, trivial⟩⟩
                      · skip
                        have H265 := orF h262 h222
                        refine vb h262 ?_
                        refine wn ?_
                        refine va (v28) ?_
                        refine wn ?_
                        refine va (v88) ?_
                        refine wn ?_
                        refine va (.pointer (some ⟨b59, 1, none⟩)) ?_
                        refine wn ?_
                        refine WL.val0 (v := .int .i64 x_41.Col) rfl (rx (by kernel_rfl) (ldE1 (j := 1) Tryd.underlying3 rfl (O257.on 1 rfl) rfl rfl)) ?_
                        refine wn ?_
                        obtain ⟨x_196, h266, H265⟩ := bs H265
                        refine WL.callP rfl (by kernel_rfl) (c_linotypelaw25_at O257 (R218.mono (l237.trans (l241.trans (l248.trans l260)))) x_22.2 z_65.1 x_41.Col (h29.mono (l40.trans (l45.trans (l61.trans (l67.trans (l80.trans (l213.trans (l237.trans (l241.trans (l248.trans l260)))))))))) (h216.mono (l237.trans (l241.trans (l248.trans l260)))) h266) ?_
                        rintro v272 c271 l271 ⟨O268, rfl⟩
                        refine wn ?_
                        refine va (.bool (!x_196)) ?_
                        obtain rfl := Option.some.inj H265
                        refine va (.bool (!x_196)) ?_
                        rcases Bool.eq_false_or_eq_true (!x_196) with h273 | h273
                        · skip
                          obtain rfl := orT h273 h223
                          refine vb h273 ?_
                          refine ps ?_
                          refine ps ?_
                          refine ps ?_
                          refine ps ?_
                          refine ps ?_
                          refine va (.bool true) ?_
                          refine wln ?_
                          have O274 := O268.selD 2 [1] (by kernel_rfl) (by kernel_rfl)
                          exact ⟨c271, _, rfl, (l237.trans (l241.trans (l248.trans (l260.trans l271)))), O274, ups_self ⟨rfl, rfl, rfl, rfl, rfl, rfl, rfl, rfl, trivial⟩⟩
                        · skip
                          have H275 := orF h273 h223
                          refine vb h273 ?_
                          refine wn ?_
                          refine va (v28) ?_
                          refine wn ?_
                          refine va (v88) ?_
                          refine wn ?_
                          refine va (.int .i64 p2) ?_
                          refine wn ?_
                          obtain ⟨x_203, h276, H275⟩ := bs H275
                          refine WL.callP rfl (by kernel_rfl) (c_linotypelaw25_at O268 (R218.mono (l237.trans (l241.trans (l248.trans (l260.trans l271))))) x_22.2 z_65.1 p2 (h29.mono (l40.trans (l45.trans (l61.trans (l67.trans (l80.trans (l213.trans (l237.trans (l241.trans (l248.trans (l260.trans l271))))))))))) (h216.mono (l237.trans (l241.trans (l248.trans (l260.trans l271))))) h276) ?_
                          rintro v282 c281 l281 ⟨O278, rfl⟩
                          refine wn ?_
                          refine va (.bool (!x_203)) ?_
                          obtain rfl := Option.some.inj H275
                          refine va (.bool (!x_203)) ?_
                          refine wln ?_
                          have O283 := O278.selD 2 [1] (by kernel_rfl) (by kernel_rfl)
                          exact ⟨c281, _, rfl, (l237.trans (l241.trans (l248.trans (l260.trans (l271.trans l281))))), O283, ups_self ⟨rfl, rfl, rfl, rfl, rfl, rfl, rfl, rfl, trivial⟩⟩
                · skip
                  rintro e_ w_ ⟨c284, g285, rfl, l284, O286, rfl⟩
                  refine nrm ?_
                  refine W.cond (t := d_198) (by kernel_rfl) (fun h290 => ?_) (fun h290 => ?_)
                  · have H87 := it h290 H87
                    refine sr ?_
                    refine va (.bool false) ?_
                    refine wln ?_
                    refine W.ret ?_
                    refine bkr ?_
                    refine thr ?_
                    obtain rfl := Option.some.inj H87
                    refine ⟨_, rfl, ?_⟩
                    refine ⟨rfl, ?_⟩
                    have O291 := O286.selD 1 [] (by kernel_rfl) (by kernel_rfl)
                    exact ⟨c284, _, G217, rfl, (l45.trans (l61.trans (l67.trans (l80.trans (l213.trans l284))))), O291, ups_self ⟨rfl, trivial⟩, (R218.mono l284)⟩
                  · have H87 := ie h290 H87
                    refine W.skip ?_
                    refine bkn ?_
                    refine nrm ?_
                    refine W.region ?_
                    refine va (.int .i64 s_33.2.2.1) ?_
                    refine va (.int .i64 (w64 (s_33.2.2.1 + 1))) ?_
                    refine va (.int .i64 (w64 (s_33.2.2.1 + 1))) ?_
                    refine WL.nil ?_
                    obtain rfl := Option.some.inj H87
                    refine ⟨_, rfl, ?_⟩
                    have O292 := O286.selD 1 [] (by kernel_rfl) (by kernel_rfl)
                    exact ⟨c284, _, v88, G217, rfl, (l45.trans (l61.trans (l67.trans (l80.trans (l213.trans l284))))), O292, ups_self ⟨rfl, rfl, rfl, rfl, rfl, rfl, rfl, trivial⟩, (R218.mono l284), (h216.mono l284)⟩
        · have H := ie h52 H
          refine W.exit ?_
          refine thx ?_
          obtain rfl := Option.some.inj H
          refine ⟨_, rfl, rfl, ?_⟩
          exact ⟨c45, _, G49, rfl, l45, O47, ups_self trivial, R50⟩
      · skip
        obtain ⟨c295, h296, l295, O293, h294⟩ := O37.frz 0 rfl h39
        have O297 := O293.selD 1 [] (by kernel_rfl) (by kernel_rfl)
        exact ⟨c295, _, v41, G30, h296.symm, l295, O297, ups_self ⟨rfl, rfl, rfl, rfl, rfl, rfl, rfl, trivial⟩, (R32.mono (l40.trans l295)), h294⟩
      · skip
        rcases o_33 with o_33 | o_33
        · skip
          intro ex_; revert ex_
          rintro _ e_ w_ ⟨rfl, c298, g299, G301, rfl, l298, O300, rfl, R302⟩
          refine bkr ?_
          refine thr ?_
          obtain rfl := Option.some.inj H43
          exact ret1 (v := .bool o_33.2) rfl (by kernel_rfl) ⟨_, c298, rfl, rfl, (l13.trans (l34.trans (l40.trans l298))), G301, O300, R302, rfl⟩
        · skip
          rintro _ e_ w_ ⟨rfl, c304, g305, G307, rfl, l304, O306, rfl, R308⟩
          refine bke ?_
          refine nrm ?_
          refine W.seq ?_
          obtain ⟨x_212, h310, H43⟩ := bs H43
          obtain ⟨d_214, h311, H43⟩ := bs H43
          obtain ⟨d_218, h312, H43⟩ := bs H43
          refine W.join (fun e w => ∃ (c : Cx) (g : Nat → Value) (G_ : Gm), w = c.w ∧ c304.le c ∧ Own c G_ (F) ∧ e = ups g [(6, .bool d_218.1)] ∧ Rel c d_218.2 G_) ?_ ?_
          · clear H43
            refine W.region ?_
            refine WL.callP rfl (by kernel_rfl) (c_mark_Add O306 R308 ((hG.mono (l13.trans (l34.trans (l40.trans l304)))).le (by decide)) (none : Option Nat) 0 65 rfl h310) ?_
            rintro v318 c317 l317 ⟨G313, O314, R315, rfl⟩
            refine va (.bool (!x_212.2)) ?_
            rcases Bool.eq_false_or_eq_true (!x_212.2) with h319 | h319
            · skip
              have H320 := it h319 h311
              refine vb h319 ?_
              refine wn ?_
              obtain ⟨x_216, h321, H320⟩ := bs H320
              refine WL.callP rfl (by kernel_rfl) (c_mark_Widen O314 R315 ((hG.mono (l13.trans (l34.trans (l40.trans (l304.trans l317))))).le (by decide)) (none : Option Nat) 0 rfl h321) ?_
              rintro v327 c326 l326 ⟨G322, O323, R324, rfl⟩
              refine wn ?_
              refine va (.bool (!x_216.2)) ?_
              obtain rfl := Option.some.inj H320
              refine va (.bool (!x_216.2)) ?_
              rcases Bool.eq_false_or_eq_true (!x_216.2) with h328 | h328
              · skip
                have H329 := it h328 h312
                refine vb h328 ?_
                refine wn ?_
                refine WL.mem rfl (Own.sl (R := (RI .i32)) (E := 21) (ls := [[.int .i32 65]]) (vs := [.int .i32 65]) (xs := ([65] : List Int)) true O323 (Nat.succ_pos _) rfl ⟨rfl, trivial⟩ (by kernel_rfl) (by kernel_rfl)) ?_
                rintro v334 c333 l333 ⟨u331, O330, h332⟩
                refine wn ?_
                obtain ⟨c337, h338, l337, O335, h336⟩ := O330.frz 0 rfl h332
                refine WL.gh h338 ?_
                obtain ⟨x_221, h339, H329⟩ := bs H329
                refine WL.callP rfl (by kernel_rfl) (c_mark_Put O335 (R324.mono (l333.trans l337)) ((hG.mono (l13.trans (l34.trans (l40.trans (l304.trans (l317.trans (l326.trans (l333.trans l337)))))))).le (by decide)) (none : Option Nat) 0 1 ([65] : List Int) rfl h336 h339) ?_
                rintro v340 c346 l346 ⟨_, G342, O343, R344, rfl, h341⟩
                refine wn ?_
                obtain ⟨x_222, h348, H329⟩ := bs H329
                refine WL.callP rfl (by kernel_rfl) (c_api_Code O343 ((hG.mono (l13.trans (l34.trans (l40.trans (l304.trans (l317.trans (l326.trans (l333.trans (l337.trans l346))))))))).le (by decide)) x_221.2 h341 h348) ?_
                rintro v354 c353 l353 ⟨O350, rfl⟩
                refine wn ?_
                refine va (.bool (x_222 == 3)) ?_
                obtain rfl := Option.some.inj H329
                refine va (.bool (x_222 == 3)) ?_
                refine va (.bool (x_222 == 3)) ?_
                refine wln ?_
                have O355 := O350.selD 1 [] (by kernel_rfl) (by kernel_rfl)
                exact ⟨c353, _, G342, rfl, (l317.trans (l326.trans (l333.trans (l337.trans (l346.trans l353))))), O355, ups_self ⟨rfl, trivial⟩, (R344.mono l353)⟩
              · skip
                obtain rfl := Option.some.inj (ie h328 h312)
                refine vb h328 ?_
                refine ps ?_
                refine ps ?_
                refine ps ?_
                refine ps ?_
                refine va (.bool false) ?_
                refine va (.bool false) ?_
                refine wln ?_
                exact ⟨c326, _, G322, rfl, (l317.trans l326), O323, ups_self ⟨rfl, trivial⟩, R324⟩
            · skip
              obtain rfl := Option.some.inj (ie h319 h311)
              refine vb h319 ?_
              refine ps ?_
              refine ps ?_
              refine va (.bool false) ?_
              have h356 : false = false := rfl
              obtain rfl := Option.some.inj (ie h356 h312)
              refine vb h356 ?_
              refine ps ?_
              refine ps ?_
              refine ps ?_
              refine ps ?_
              refine va (.bool false) ?_
              refine va (.bool false) ?_
              refine wln ?_
              exact ⟨c317, _, G313, rfl, l317, O314, ups_self ⟨rfl, trivial⟩, R315⟩
          · skip
            rintro e_ w_ ⟨c357, g358, G360, rfl, l357, O359, rfl, R361⟩
            refine nrm ?_
            refine W.ret ?_
            obtain rfl := Option.some.inj H43
            exact ret1 (v := .bool d_218.1) rfl (by kernel_rfl) ⟨_, c357, rfl, rfl, (l13.trans (l34.trans (l40.trans (l304.trans l357)))), G360, O359, R361, rfl⟩

end Go.Proofs.YtohpkblleihmaaaDoor
