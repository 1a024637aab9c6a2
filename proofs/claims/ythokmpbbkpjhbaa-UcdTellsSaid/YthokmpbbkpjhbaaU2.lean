import Derived.Test.YthokmpbbkpjhbaaMp
import Derived.Test.YthokmpbbkpjhbaaProg
import Derived.Test.YthokmpbbkpjhbaaMy
import Derived.Test.YthokmpbbkpjhbaaMz
import Derived.Test.YthokmpbbkpjhbaaW0
import Derived.Test.YthokmpbbkpjhbaaU1
namespace Go.Proofs.Ythokmpbbkpjhbaa
open Go Go.Lt
set_option maxRecDepth 10000
set_option linter.unusedVariables false
attribute [local irreducible] W WL AC
def f_ucd_Prop (p0 : Int) : Option (G_api_Prop) :=
  (orE (decide (p0 < 0)) (some (decide (p0 ≥ 512)))).bind fun d_5 =>
  (orE d_5 (some (decide ((p0.tmod 16) > 13)))).bind fun d_9 =>
  if d_9 = true then
  some (⟨0, false, 0, 0⟩ : G_api_Prop)
  else
  some (⟨(p0.tmod 16), ((w64 (p0.tdiv 16)).tmod 2) == 1, ((w64 (p0.tdiv 32)).tmod 4), (w64 (p0.tdiv 128))⟩ : G_api_Prop)
theorem c_ucd_Prop {c0 : Cx} {G : Gm} {F : List En} (O0 : Own c0 G F) (p0 : Int) {r : G_api_Prop} (H : f_ucd_Prop p0 = some r) :
    Calls Try.prog 10 #[.int .i64 p0] c0.w (Post c0 fun c v => Own c G (F) ∧ v = .agg #[.int .i64 r.Break, .bool r.Pict, .int .i64 r.Conj, .int .i64 r.East]) := by
  unfold f_ucd_Prop at H
  refine enter (l := [.int .i64 p0]) Try.func10 rfl rfl rfl ?_
  refine sr ?_
  refine WL.mem rfl (Own.al (T := 23) (vs := [.int .i64 0, .bool false, .int .i64 0, .int .i64 0]) O0 (by kernel_rfl)) ?_
  rintro v4 c3 l3 ⟨b1, rfl, O2⟩
  refine wln ?_
  refine W.seq ?_
  refine W.seq ?_
  obtain ⟨d_5, h5, H⟩ := bs H
  obtain ⟨d_9, h6, H⟩ := bs H
  refine W.join (fun e w => ∃ (c : Cx) (g : Nat → Value), w = c.w ∧ c3.le c ∧ Own c G (⟨.pointer (some ⟨b1, 0, none⟩), 23, [.int .i64 0, .bool false, .int .i64 0, .int .i64 0], 0⟩ :: F) ∧ e = ups g [(0, .int .i64 p0), (2, .pointer (some ⟨b1, 0, none⟩)), (13, .bool d_9)]) ?_ ?_
  · clear H
    refine W.region ?_
    refine va (.int .i64 p0) ?_
    refine va (.bool (decide (p0 < 0))) ?_
    rcases Bool.eq_false_or_eq_true (decide (p0 < 0)) with h7 | h7
    · skip
      obtain rfl := orT h7 h5
      refine vb h7 ?_
      refine ps ?_
      refine ps ?_
      refine va (.bool true) ?_
      have h8 : true = true := rfl
      obtain rfl := orT h8 h6
      refine vb h8 ?_
      refine ps ?_
      refine ps ?_
      refine ps ?_
      refine va (.bool true) ?_
      refine wln ?_
      exact ⟨c3, _, rfl, (Cx.le.refl _), O2, ups_self ⟨rfl, rfl, rfl, trivial⟩⟩
    · skip
      have H9 := orF h7 h5
      refine vb h7 ?_
      refine wn ?_
      refine va (.int .i64 p0) ?_
      refine wn ?_
      refine va (.bool (decide (p0 ≥ 512))) ?_
      obtain rfl := Option.some.inj H9
      refine va (.bool (decide (p0 ≥ 512))) ?_
      rcases Bool.eq_false_or_eq_true (decide (p0 ≥ 512)) with h10 | h10
      · skip
        obtain rfl := orT h10 h6
        refine vb h10 ?_
        refine ps ?_
        refine ps ?_
        refine ps ?_
        refine va (.bool true) ?_
        refine wln ?_
        exact ⟨c3, _, rfl, (Cx.le.refl _), O2, ups_self ⟨rfl, rfl, rfl, trivial⟩⟩
      · skip
        have H11 := orF h10 h6
        refine vb h10 ?_
        refine wn ?_
        refine va (.int .i64 p0) ?_
        refine wn ?_
        refine va (.int .i64 (p0.tmod 16)) ?_
        refine wn ?_
        refine va (.bool (decide ((p0.tmod 16) > 13))) ?_
        obtain rfl := Option.some.inj H11
        refine va (.bool (decide ((p0.tmod 16) > 13))) ?_
        refine wln ?_
        exact ⟨c3, _, rfl, (Cx.le.refl _), O2, ups_self ⟨rfl, rfl, rfl, trivial⟩⟩
  · skip
    rintro e_ w_ ⟨c12, g13, rfl, l12, O14, rfl⟩
    refine nrm ?_
    refine W.cond (t := d_9) (by kernel_rfl) (fun h18 => ?_) (fun h18 => ?_)
    · have H := it h18 H
      refine sr ?_
      refine va (.agg #[.int .i64 0, .bool false, .int .i64 0, .int .i64 0]) ?_
      refine WL.memD rfl (Own.st (T := 23) (j := 0) (us := [.int .i64 0, .bool false, .int .i64 0, .int .i64 0]) (nw := [.int .i64 0, .bool false, .int .i64 0, .int .i64 0]) (v := .agg #[.int .i64 0, .bool false, .int .i64 0, .int .i64 0]) 0 O14 (by kernel_rfl) rfl rfl rfl rfl (by kernel_rfl) ⟨rfl, rfl, rfl, rfl, trivial⟩ rfl rfl) ?_
      rintro c20 l20 O19
      refine wln ?_
      refine W.ret ?_
      refine thr ?_
      obtain rfl := Option.some.inj H
      have O21 := O19.selD 1 [] (by kernel_rfl) (by kernel_rfl)
      exact retC (c := c20) (vs := [.int .i64 0, .bool false, .int .i64 0, .int .i64 0]) rfl (by kernel_rfl) (by kernel_rfl) (by kernel_rfl) (O19.on 0 rfl _ rfl).1 ⟨_, c20, rfl, rfl, (l3.trans (l12.trans l20)), O21, rfl⟩
    · have H := ie h18 H
      refine W.skip ?_
      refine nrm ?_
      refine sr ?_
      refine va (.int .i64 p0) ?_
      refine va (.int .i64 (p0.tmod 16)) ?_
      refine va (.int .i64 p0) ?_
      refine va (.int .i64 (w64 (p0.tdiv 16))) ?_
      refine va (.int .i64 ((w64 (p0.tdiv 16)).tmod 2)) ?_
      refine va (.bool (((w64 (p0.tdiv 16)).tmod 2) == 1)) ?_
      refine va (.int .i64 p0) ?_
      refine va (.int .i64 (w64 (p0.tdiv 32))) ?_
      refine va (.int .i64 ((w64 (p0.tdiv 32)).tmod 4)) ?_
      refine va (.int .i64 p0) ?_
      refine va (.int .i64 (w64 (p0.tdiv 128))) ?_
      refine va (.agg #[.int .i64 (p0.tmod 16), .bool (((w64 (p0.tdiv 16)).tmod 2) == 1), .int .i64 ((w64 (p0.tdiv 32)).tmod 4), .int .i64 (w64 (p0.tdiv 128))]) ?_
      refine WL.memD rfl (Own.st (T := 23) (j := 0) (us := [.int .i64 (p0.tmod 16), .bool (((w64 (p0.tdiv 16)).tmod 2) == 1), .int .i64 ((w64 (p0.tdiv 32)).tmod 4), .int .i64 (w64 (p0.tdiv 128))]) (nw := [.int .i64 (p0.tmod 16), .bool (((w64 (p0.tdiv 16)).tmod 2) == 1), .int .i64 ((w64 (p0.tdiv 32)).tmod 4), .int .i64 (w64 (p0.tdiv 128))]) (v := .agg #[.int .i64 (p0.tmod 16), .bool (((w64 (p0.tdiv 16)).tmod 2) == 1), .int .i64 ((w64 (p0.tdiv 32)).tmod 4), .int .i64 (w64 (p0.tdiv 128))]) 0 O14 (by kernel_rfl) rfl rfl rfl rfl (by kernel_rfl) ⟨rfl, rfl, rfl, rfl, trivial⟩ rfl rfl) ?_
      rintro c23 l23 O22
      refine wln ?_
      refine W.ret ?_
      obtain rfl := Option.some.inj H
      have O24 := O22.selD 1 [] (by kernel_rfl) (by kernel_rfl)
      exact retC (c := c23) (vs := [.int .i64 (p0.tmod 16), .bool (((w64 (p0.tdiv 16)).tmod 2) == 1), .int .i64 ((w64 (p0.tdiv 32)).tmod 4), .int .i64 (w64 (p0.tdiv 128))]) rfl (by kernel_rfl) (by kernel_rfl) (by kernel_rfl) (O22.on 0 rfl _ rfl).1 ⟨_, c23, rfl, rfl, (l3.trans (l12.trans l23)), O24, rfl⟩

def f_ucd_Code (p0 : G_api_Prop) : Option (Int) :=
  (orE (decide (p0.Break < 0)) (some (decide (p0.Break > 13)))).bind fun d_7 =>
  (orE d_7 (some (decide (p0.Conj < 0)))).bind fun d_12 =>
  (orE d_12 (some (decide (p0.Conj > 3)))).bind fun d_17 =>
  (orE d_17 (some (decide (p0.East < 0)))).bind fun d_22 =>
  (orE d_22 (some (decide (p0.East > 3)))).bind fun d_27 =>
  if d_27 = true then
  some (-1)
  else
  (if p0.Pict = true then
  (some ((w64 ((w64 ((w64 (p0.Break + (w64 (32 * p0.Conj)))) + (w64 (128 * p0.East)))) + 16))) : Option (Int))
  else
  (some ((w64 ((w64 (p0.Break + (w64 (32 * p0.Conj)))) + (w64 (128 * p0.East))))) : Option (Int))).bind fun z_47 =>
  some z_47
theorem c_ucd_Code {c0 : Cx} {G : Gm} {F : List En} (O0 : Own c0 G F) (p0 : G_api_Prop) {r : Int} (H : f_ucd_Code p0 = some r) :
    Calls Try.prog 8 #[.agg #[.int .i64 p0.Break, .bool p0.Pict, .int .i64 p0.Conj, .int .i64 p0.East]] c0.w (Post c0 fun c v => Own c G (F) ∧ v = .int .i64 r) := by
  unfold f_ucd_Code at H
  refine enter (l := [.agg #[.int .i64 p0.Break, .bool p0.Pict, .int .i64 p0.Conj, .int .i64 p0.East]]) Try.func8 rfl rfl rfl ?_
  refine sr ?_
  refine WL.mem rfl (Own.bx (T := 23) (vs := [.int .i64 p0.Break, .bool p0.Pict, .int .i64 p0.Conj, .int .i64 p0.East]) O0 (by kernel_rfl)) ?_
  rintro v5 c4 l4 ⟨b1, rfl, O2, m3⟩
  refine va (.int .i64 0) ?_
  refine wln ?_
  refine W.seq ?_
  refine W.seq ?_
  obtain ⟨d_7, h6, H⟩ := bs H
  obtain ⟨d_12, h7, H⟩ := bs H
  obtain ⟨d_17, h8, H⟩ := bs H
  obtain ⟨d_22, h9, H⟩ := bs H
  obtain ⟨d_27, h10, H⟩ := bs H
  refine W.join (fun e w => ∃ (c : Cx) (g : Nat → Value), w = c.w ∧ c4.le c ∧ Own c G (F) ∧ e = ups g [(1, .pointer (some ⟨b1, 0, none⟩)), (31, .bool d_27)]) ?_ ?_
  · clear H
    refine W.region ?_
    refine va (.pointer (some ⟨b1, 0, none⟩)) ?_
    refine WL.val0 (v := .int .i64 p0.Break) rfl (rx (by kernel_rfl) (run_load1 Try.underlying3 rfl (m3 0 _ rfl))) ?_
    refine va (.bool (decide (p0.Break < 0))) ?_
    rcases Bool.eq_false_or_eq_true (decide (p0.Break < 0)) with h11 | h11
    · skip
      obtain rfl := orT h11 h6
      refine vb h11 ?_
      refine ps ?_
      refine ps ?_
      refine ps ?_
      refine va (.bool true) ?_
      have h12 : true = true := rfl
      obtain rfl := orT h12 h7
      refine vb h12 ?_
      refine ps ?_
      refine ps ?_
      refine ps ?_
      refine va (.bool true) ?_
      have h13 : true = true := rfl
      obtain rfl := orT h13 h8
      refine vb h13 ?_
      refine ps ?_
      refine ps ?_
      refine ps ?_
      refine va (.bool true) ?_
      have h14 : true = true := rfl
      obtain rfl := orT h14 h9
      refine vb h14 ?_
      refine ps ?_
      refine ps ?_
      refine ps ?_
      refine va (.bool true) ?_
      have h15 : true = true := rfl
      obtain rfl := orT h15 h10
      refine vb h15 ?_
      refine ps ?_
      refine ps ?_
      refine ps ?_
      refine va (.bool true) ?_
      refine wln ?_
      exact ⟨c4, _, rfl, (Cx.le.refl _), O2, ups_self ⟨rfl, rfl, trivial⟩⟩
    · skip
      have H16 := orF h11 h6
      refine vb h11 ?_
      refine wn ?_
      refine va (.pointer (some ⟨b1, 0, none⟩)) ?_
      refine wn ?_
      refine WL.val0 (v := .int .i64 p0.Break) rfl (rx (by kernel_rfl) (run_load1 Try.underlying3 rfl (m3 0 _ rfl))) ?_
      refine wn ?_
      refine va (.bool (decide (p0.Break > 13))) ?_
      obtain rfl := Option.some.inj H16
      refine va (.bool (decide (p0.Break > 13))) ?_
      rcases Bool.eq_false_or_eq_true (decide (p0.Break > 13)) with h17 | h17
      · skip
        obtain rfl := orT h17 h7
        refine vb h17 ?_
        refine ps ?_
        refine ps ?_
        refine ps ?_
        refine va (.bool true) ?_
        have h18 : true = true := rfl
        obtain rfl := orT h18 h8
        refine vb h18 ?_
        refine ps ?_
        refine ps ?_
        refine ps ?_
        refine va (.bool true) ?_
        have h19 : true = true := rfl
        obtain rfl := orT h19 h9
        refine vb h19 ?_
        refine ps ?_
        refine ps ?_
        refine ps ?_
        refine va (.bool true) ?_
        have h20 : true = true := rfl
        obtain rfl := orT h20 h10
        refine vb h20 ?_
        refine ps ?_
        refine ps ?_
        refine ps ?_
        refine va (.bool true) ?_
        refine wln ?_
        exact ⟨c4, _, rfl, (Cx.le.refl _), O2, ups_self ⟨rfl, rfl, trivial⟩⟩
      · skip
        have H21 := orF h17 h7
        refine vb h17 ?_
        refine wn ?_
        refine va (.pointer (some ⟨b1, 0 + 2, none⟩)) ?_
        refine wn ?_
        refine WL.val0 (v := .int .i64 p0.Conj) rfl (rx (by kernel_rfl) (run_load1 Try.underlying3 rfl (m3 2 _ rfl))) ?_
        refine wn ?_
        refine va (.bool (decide (p0.Conj < 0))) ?_
        obtain rfl := Option.some.inj H21
        refine va (.bool (decide (p0.Conj < 0))) ?_
        rcases Bool.eq_false_or_eq_true (decide (p0.Conj < 0)) with h22 | h22
        · skip
          obtain rfl := orT h22 h8
          refine vb h22 ?_
          refine ps ?_
          refine ps ?_
          refine ps ?_
          refine va (.bool true) ?_
          have h23 : true = true := rfl
          obtain rfl := orT h23 h9
          refine vb h23 ?_
          refine ps ?_
          refine ps ?_
          refine ps ?_
          refine va (.bool true) ?_
          have h24 : true = true := rfl
          obtain rfl := orT h24 h10
          refine vb h24 ?_
          refine ps ?_
          refine ps ?_
          refine ps ?_
          refine va (.bool true) ?_
          refine wln ?_
          exact ⟨c4, _, rfl, (Cx.le.refl _), O2, ups_self ⟨rfl, rfl, trivial⟩⟩
        · skip
          have H25 := orF h22 h8
          refine vb h22 ?_
          refine wn ?_
          refine va (.pointer (some ⟨b1, 0 + 2, none⟩)) ?_
          refine wn ?_
          refine WL.val0 (v := .int .i64 p0.Conj) rfl (rx (by kernel_rfl) (run_load1 Try.underlying3 rfl (m3 2 _ rfl))) ?_
          refine wn ?_
          refine va (.bool (decide (p0.Conj > 3))) ?_
          obtain rfl := Option.some.inj H25
          refine va (.bool (decide (p0.Conj > 3))) ?_
          rcases Bool.eq_false_or_eq_true (decide (p0.Conj > 3)) with h26 | h26
          · skip
            obtain rfl := orT h26 h9
            refine vb h26 ?_
            refine ps ?_
            refine ps ?_
            refine ps ?_
            refine va (.bool true) ?_
            have h27 : true = true := rfl
            obtain rfl := orT h27 h10
            refine vb h27 ?_
            refine ps ?_
            refine ps ?_
            refine ps ?_
            refine va (.bool true) ?_
            refine wln ?_
            exact ⟨c4, _, rfl, (Cx.le.refl _), O2, ups_self ⟨rfl, rfl, trivial⟩⟩
          · skip
            have H28 := orF h26 h9
            refine vb h26 ?_
            refine wn ?_
            refine va (.pointer (some ⟨b1, 0 + 3, none⟩)) ?_
            refine wn ?_
            refine WL.val0 (v := .int .i64 p0.East) rfl (rx (by kernel_rfl) (run_load1 Try.underlying3 rfl (m3 3 _ rfl))) ?_
            refine wn ?_
            refine va (.bool (decide (p0.East < 0))) ?_
            obtain rfl := Option.some.inj H28
            refine va (.bool (decide (p0.East < 0))) ?_
            rcases Bool.eq_false_or_eq_true (decide (p0.East < 0)) with h29 | h29
            · skip
              obtain rfl := orT h29 h10
              refine vb h29 ?_
              refine ps ?_
              refine ps ?_
              refine ps ?_
              refine va (.bool true) ?_
              refine wln ?_
              exact ⟨c4, _, rfl, (Cx.le.refl _), O2, ups_self ⟨rfl, rfl, trivial⟩⟩
            · skip
              have H30 := orF h29 h10
              refine vb h29 ?_
              refine wn ?_
              refine va (.pointer (some ⟨b1, 0 + 3, none⟩)) ?_
              refine wn ?_
              refine WL.val0 (v := .int .i64 p0.East) rfl (rx (by kernel_rfl) (run_load1 Try.underlying3 rfl (m3 3 _ rfl))) ?_
              refine wn ?_
              refine va (.bool (decide (p0.East > 3))) ?_
              obtain rfl := Option.some.inj H30
              refine va (.bool (decide (p0.East > 3))) ?_
              refine wln ?_
              exact ⟨c4, _, rfl, (Cx.le.refl _), O2, ups_self ⟨rfl, rfl, trivial⟩⟩
  · skip
    rintro e_ w_ ⟨c31, g32, rfl, l31, O33, rfl⟩
    refine nrm ?_
    refine W.cond (t := d_27) (by kernel_rfl) (fun h37 => ?_) (fun h37 => ?_)
    · have H := it h37 H
      refine sr ?_
      refine va (.int .i64 (-1)) ?_
      refine wln ?_
      refine W.ret ?_
      refine thr ?_
      obtain rfl := Option.some.inj H
      exact ret1 (v := .int .i64 (-1)) rfl (by kernel_rfl) ⟨_, c31, rfl, rfl, (l4.trans l31), O33, rfl⟩
    · have H := ie h37 H
      refine W.skip ?_
      refine nrm ?_
      refine sr ?_
      refine va (.pointer (some ⟨b1, 0, none⟩)) ?_
      refine WL.val0 (v := .int .i64 p0.Break) rfl (rx (by kernel_rfl) (run_load1 Try.underlying3 rfl ((fun j u hu => (m3 j u hu).mono l31) 0 _ rfl))) ?_
      refine va (.pointer (some ⟨b1, 0 + 2, none⟩)) ?_
      refine WL.val0 (v := .int .i64 p0.Conj) rfl (rx (by kernel_rfl) (run_load1 Try.underlying3 rfl ((fun j u hu => (m3 j u hu).mono l31) 2 _ rfl))) ?_
      refine va (.int .i64 (w64 (32 * p0.Conj))) ?_
      refine va (.int .i64 (w64 (p0.Break + (w64 (32 * p0.Conj))))) ?_
      refine va (.pointer (some ⟨b1, 0 + 3, none⟩)) ?_
      refine WL.val0 (v := .int .i64 p0.East) rfl (rx (by kernel_rfl) (run_load1 Try.underlying3 rfl ((fun j u hu => (m3 j u hu).mono l31) 3 _ rfl))) ?_
      refine va (.int .i64 (w64 (128 * p0.East))) ?_
      refine va (.int .i64 (w64 ((w64 (p0.Break + (w64 (32 * p0.Conj)))) + (w64 (128 * p0.East))))) ?_
      refine va (.int .i64 (w64 ((w64 (p0.Break + (w64 (32 * p0.Conj)))) + (w64 (128 * p0.East))))) ?_
      refine wln ?_
      obtain ⟨z_47, H38, H39⟩ := bs H
      refine W.seqJ (fun e w => ∃ (c : Cx) (g : Nat → Value), w = c.w ∧ c31.le c ∧ Own c G (F) ∧ e = ups g [(3, .int .i64 z_47)]) ?_ ?_
      · skip
        refine sr ?_
        refine va (.pointer (some ⟨b1, 0 + 1, none⟩)) ?_
        refine WL.val0 (v := .bool p0.Pict) rfl (rx (by kernel_rfl) (run_load1 Try.underlying4 rfl ((fun j u hu => (m3 j u hu).mono l31) 1 _ rfl))) ?_
        refine wln ?_
        refine W.cond (t := p0.Pict) (by kernel_rfl) (fun h40 => ?_) (fun h40 => ?_)
        · have H38 := it h40 H38
          refine W.region ?_
          refine va (.int .i64 (w64 ((w64 (p0.Break + (w64 (32 * p0.Conj)))) + (w64 (128 * p0.East))))) ?_
          refine va (.int .i64 (w64 ((w64 ((w64 (p0.Break + (w64 (32 * p0.Conj)))) + (w64 (128 * p0.East)))) + 16))) ?_
          refine va (.int .i64 (w64 ((w64 ((w64 (p0.Break + (w64 (32 * p0.Conj)))) + (w64 (128 * p0.East)))) + 16))) ?_
          refine wln ?_
          obtain rfl := Option.some.inj H38
          exact ⟨c31, _, rfl, (Cx.le.refl _), O33, ups_self ⟨rfl, trivial⟩⟩
        · have H38 := ie h40 H38
          refine W.skip ?_
          refine nrm ?_
          obtain rfl := Option.some.inj H38
          exact ⟨c31, _, rfl, (Cx.le.refl _), O33, ups_self ⟨rfl, trivial⟩⟩
      · skip
        rintro e_ w_ ⟨c41, g42, rfl, l41, O43, rfl⟩
        refine sr ?_
        refine va (.int .i64 z_47) ?_
        refine va (.int .i64 z_47) ?_
        refine wln ?_
        refine W.ret ?_
        obtain rfl := Option.some.inj H39
        exact ret1 (v := .int .i64 z_47) rfl (by kernel_rfl) ⟨_, c41, rfl, rfl, (l4.trans (l31.trans l41)), O43, rfl⟩

def f_linotypelaw13_works  : Option (Bool) :=
  (f_ucd_Of 128512).bind fun x_3 =>
  (f_ucd_Code x_3).bind fun x_4 =>
  (andE (x_4 == 144) ((f_ucd_Of 2381).bind fun x_8 =>
  (f_ucd_Code x_8).bind fun x_9 =>
  some (x_9 == 68))).bind fun d_6 =>
  (andE d_6 ((f_ucd_Prop 68).bind fun x_13 =>
  some (x_13.Break == 4 && (x_13.Pict == false && (x_13.Conj == 2 && (x_13.East == 0 && true)))))).bind fun d_11 =>
  some d_11
theorem c_linotypelaw13_works {c0 : Cx} {G : Gm} {F : List En} (O0 : Own c0 G F) {r : Bool} (H : f_linotypelaw13_works  = some r) :
    Calls Try.prog 7 #[] c0.w (Post c0 fun c v => Own c G (F) ∧ v = .bool r) := by
  unfold f_linotypelaw13_works at H
  refine enter (l := []) Try.func7 rfl rfl rfl ?_
  refine sr ?_
  refine va (.bool false) ?_
  refine wln ?_
  refine W.seq ?_
  obtain ⟨x_3, h1, H⟩ := bs H
  obtain ⟨x_4, h2, H⟩ := bs H
  obtain ⟨d_6, h3, H⟩ := bs H
  obtain ⟨d_11, h4, H⟩ := bs H
  refine W.join (fun e w => ∃ (c : Cx) (g : Nat → Value), w = c.w ∧ c0.le c ∧ Own c G (F) ∧ e = ups g [(0, .bool d_11)]) ?_ ?_
  · clear H
    refine W.region ?_
    refine WL.callP rfl (by kernel_rfl) (c_ucd_Of O0 128512 h1) ?_
    rintro v10 c9 l9 ⟨O6, rfl⟩
    refine WL.callP rfl (by kernel_rfl) (c_ucd_Code O6 x_3 h2) ?_
    rintro v16 c15 l15 ⟨O12, rfl⟩
    refine va (.bool (x_4 == 144)) ?_
    rcases Bool.eq_false_or_eq_true (x_4 == 144) with h17 | h17
    · skip
      have H18 := anT h17 h3
      refine vb h17 ?_
      refine wn ?_
      obtain ⟨x_8, h19, H18⟩ := bs H18
      refine WL.callP rfl (by kernel_rfl) (c_ucd_Of O12 2381 h19) ?_
      rintro v25 c24 l24 ⟨O21, rfl⟩
      refine wn ?_
      obtain ⟨x_9, h26, H18⟩ := bs H18
      refine WL.callP rfl (by kernel_rfl) (c_ucd_Code O21 x_8 h26) ?_
      rintro v32 c31 l31 ⟨O28, rfl⟩
      refine wn ?_
      refine va (.bool (x_9 == 68)) ?_
      obtain rfl := Option.some.inj H18
      refine va (.bool (x_9 == 68)) ?_
      rcases Bool.eq_false_or_eq_true (x_9 == 68) with h33 | h33
      · skip
        have H34 := anT h33 h4
        refine vb h33 ?_
        refine wn ?_
        obtain ⟨x_13, h35, H34⟩ := bs H34
        refine WL.callP rfl (by kernel_rfl) (c_ucd_Prop O28 68 h35) ?_
        rintro v41 c40 l40 ⟨O37, rfl⟩
        refine wn ?_
        refine va (.agg #[.int .i64 4, .bool false, .int .i64 2, .int .i64 0]) ?_
        refine wn ?_
        refine WL.val0 (v := .bool (x_13.Break == 4 && (x_13.Pict == false && (x_13.Conj == 2 && (x_13.East == 0 && true))))) rfl (run_eqlA (T := 23) (xs := #[.int .i64 x_13.Break, .bool x_13.Pict, .int .i64 x_13.Conj, .int .i64 x_13.East]) (ys := #[.int .i64 4, .bool false, .int .i64 2, .int .i64 0]) (r := (x_13.Break == 4 && (x_13.Pict == false && (x_13.Conj == 2 && (x_13.East == 0 && true))))) Try.underlying23 (by kernel_rfl) (by kernel_rfl) (EqP.int (by kernel_rfl) Try.underlying3 rfl rfl (EqP.bool (by kernel_rfl) Try.underlying4 rfl rfl (EqP.int (by kernel_rfl) Try.underlying3 rfl rfl (EqP.int (by kernel_rfl) Try.underlying3 rfl rfl EqP.nil)))) (by kernel_rfl) _) ?_
        obtain rfl := Option.some.inj H34
        refine va (.bool (x_13.Break == 4 && (x_13.Pict == false && (x_13.Conj == 2 && (x_13.East == 0 && true))))) ?_
        refine va (.bool (x_13.Break == 4 && (x_13.Pict == false && (x_13.Conj == 2 && (x_13.East == 0 && true))))) ?_
        refine wln ?_
        exact ⟨c40, _, rfl, (l9.trans (l15.trans (l24.trans (l31.trans l40)))), O37, ups_self ⟨rfl, trivial⟩⟩
      · skip
        obtain rfl := anF h33 h4
        refine vb h33 ?_
        refine ps ?_
        refine ps ?_
        refine ps ?_
        refine va (.bool false) ?_
        refine va (.bool false) ?_
        refine wln ?_
        exact ⟨c31, _, rfl, (l9.trans (l15.trans (l24.trans l31))), O28, ups_self ⟨rfl, trivial⟩⟩
    · skip
      obtain rfl := anF h17 h3
      refine vb h17 ?_
      refine ps ?_
      refine ps ?_
      refine ps ?_
      refine va (.bool false) ?_
      have h42 : false = false := rfl
      obtain rfl := anF h42 h4
      refine vb h42 ?_
      refine ps ?_
      refine ps ?_
      refine ps ?_
      refine va (.bool false) ?_
      refine va (.bool false) ?_
      refine wln ?_
      exact ⟨c15, _, rfl, (l9.trans l15), O12, ups_self ⟨rfl, trivial⟩⟩
  · skip
    rintro e_ w_ ⟨c43, g44, rfl, l43, O45, rfl⟩
    refine nrm ?_
    refine W.ret ?_
    obtain rfl := Option.some.inj H
    exact ret1 (v := .bool d_11) rfl (by kernel_rfl) ⟨_, c43, rfl, rfl, l43, O45, rfl⟩

def f_linotypelaw13_UcdTells (p0 : Int) : Option (Bool) :=
  (f_ucd_Of p0).bind fun x_4 =>
  (f_linotyperef13_Of p0).bind fun x_6 =>
  (andE (x_4.Break == x_6.Break && (x_4.Pict == x_6.Pict && (x_4.Conj == x_6.Conj && (x_4.East == x_6.East && true)))) ((f_linotypelaw13_works).bind fun x_10 =>
  some x_10)).bind fun d_8 =>
  some d_8
theorem c_linotypelaw13_UcdTells {c0 : Cx} {G : Gm} {F : List En} (O0 : Own c0 G F) (p0 : Int) {r : Bool} (H : f_linotypelaw13_UcdTells p0 = some r) :
    Calls Try.prog 3 #[.int .i32 p0] c0.w (Post c0 fun c v => Own c G (F) ∧ v = .bool r) := by
  unfold f_linotypelaw13_UcdTells at H
  refine enter (l := [.int .i32 p0]) Try.func3 rfl rfl rfl ?_
  refine sr ?_
  refine va (.bool false) ?_
  refine wln ?_
  refine W.seq ?_
  obtain ⟨x_4, h1, H⟩ := bs H
  obtain ⟨x_6, h2, H⟩ := bs H
  obtain ⟨d_8, h3, H⟩ := bs H
  refine W.join (fun e w => ∃ (c : Cx) (g : Nat → Value), w = c.w ∧ c0.le c ∧ Own c G (F) ∧ e = ups g [(2, .bool d_8)]) ?_ ?_
  · clear H
    refine W.region ?_
    refine va (.int .i32 p0) ?_
    refine WL.callP rfl (by kernel_rfl) (c_ucd_Of O0 p0 h1) ?_
    rintro v9 c8 l8 ⟨O5, rfl⟩
    refine va (.int .i32 p0) ?_
    refine WL.callP rfl (by kernel_rfl) (c_linotyperef13_Of O5 p0 h2) ?_
    rintro v15 c14 l14 ⟨O11, rfl⟩
    refine WL.val0 (v := .bool (x_4.Break == x_6.Break && (x_4.Pict == x_6.Pict && (x_4.Conj == x_6.Conj && (x_4.East == x_6.East && true))))) rfl (run_eqlA (T := 23) (xs := #[.int .i64 x_4.Break, .bool x_4.Pict, .int .i64 x_4.Conj, .int .i64 x_4.East]) (ys := #[.int .i64 x_6.Break, .bool x_6.Pict, .int .i64 x_6.Conj, .int .i64 x_6.East]) (r := (x_4.Break == x_6.Break && (x_4.Pict == x_6.Pict && (x_4.Conj == x_6.Conj && (x_4.East == x_6.East && true))))) Try.underlying23 (by kernel_rfl) (by kernel_rfl) (EqP.int (by kernel_rfl) Try.underlying3 rfl rfl (EqP.bool (by kernel_rfl) Try.underlying4 rfl rfl (EqP.int (by kernel_rfl) Try.underlying3 rfl rfl (EqP.int (by kernel_rfl) Try.underlying3 rfl rfl EqP.nil)))) (by kernel_rfl) _) ?_
    rcases Bool.eq_false_or_eq_true ((x_4.Break == x_6.Break && (x_4.Pict == x_6.Pict && (x_4.Conj == x_6.Conj && (x_4.East == x_6.East && true))))) with h16 | h16
    · skip
      have H17 := anT h16 h3
      refine vb h16 ?_
      refine wn ?_
      obtain ⟨x_10, h18, H17⟩ := bs H17
      refine WL.callP rfl (by kernel_rfl) (c_linotypelaw13_works O11 h18) ?_
      rintro v24 c23 l23 ⟨O20, rfl⟩
      obtain rfl := Option.some.inj H17
      refine va (.bool x_10) ?_
      refine va (.bool x_10) ?_
      refine wln ?_
      exact ⟨c23, _, rfl, (l8.trans (l14.trans l23)), O20, ups_self ⟨rfl, trivial⟩⟩
    · skip
      obtain rfl := anF h16 h3
      refine vb h16 ?_
      refine ps ?_
      refine va (.bool false) ?_
      refine va (.bool false) ?_
      refine wln ?_
      exact ⟨c14, _, rfl, (l8.trans l14), O11, ups_self ⟨rfl, trivial⟩⟩
  · skip
    rintro e_ w_ ⟨c25, g26, rfl, l25, O27, rfl⟩
    refine nrm ?_
    refine W.ret ?_
    obtain rfl := Option.some.inj H
    exact ret1 (v := .bool d_8) rfl (by kernel_rfl) ⟨_, c25, rfl, rfl, l25, O27, rfl⟩

def f_linotyperef13_Code (p0 : G_api_Prop) : Option (Int) :=
  (orE (decide (p0.Break < 0)) (some (decide (p0.Break > 13)))).bind fun d_7 =>
  (orE d_7 (some (decide (p0.Conj < 0)))).bind fun d_12 =>
  (orE d_12 (some (decide (p0.Conj > 3)))).bind fun d_17 =>
  (orE d_17 (some (decide (p0.East < 0)))).bind fun d_22 =>
  (orE d_22 (some (decide (p0.East > 3)))).bind fun d_27 =>
  if d_27 = true then
  some (-1)
  else
  (if p0.Pict = true then
  (some (1) : Option (Int))
  else
  (some (0) : Option (Int))).bind fun z_37 =>
  some (w64 ((w64 ((w64 ((w64 ((w64 ((w64 (p0.East * 4)) + p0.Conj)) * 2)) + z_37)) * 16)) + p0.Break))
theorem c_linotyperef13_Code {c0 : Cx} {G : Gm} {F : List En} (O0 : Own c0 G F) (p0 : G_api_Prop) {r : Int} (H : f_linotyperef13_Code p0 = some r) :
    Calls Try.prog 9 #[.agg #[.int .i64 p0.Break, .bool p0.Pict, .int .i64 p0.Conj, .int .i64 p0.East]] c0.w (Post c0 fun c v => Own c G (F) ∧ v = .int .i64 r) := by
  unfold f_linotyperef13_Code at H
  refine enter (l := [.agg #[.int .i64 p0.Break, .bool p0.Pict, .int .i64 p0.Conj, .int .i64 p0.East]]) Try.func9 rfl rfl rfl ?_
  refine sr ?_
  refine WL.mem rfl (Own.bx (T := 23) (vs := [.int .i64 p0.Break, .bool p0.Pict, .int .i64 p0.Conj, .int .i64 p0.East]) O0 (by kernel_rfl)) ?_
  rintro v5 c4 l4 ⟨b1, rfl, O2, m3⟩
  refine va (.int .i64 0) ?_
  refine wln ?_
  refine W.seq ?_
  refine W.seq ?_
  obtain ⟨d_7, h6, H⟩ := bs H
  obtain ⟨d_12, h7, H⟩ := bs H
  obtain ⟨d_17, h8, H⟩ := bs H
  obtain ⟨d_22, h9, H⟩ := bs H
  obtain ⟨d_27, h10, H⟩ := bs H
  refine W.join (fun e w => ∃ (c : Cx) (g : Nat → Value), w = c.w ∧ c4.le c ∧ Own c G (F) ∧ e = ups g [(1, .pointer (some ⟨b1, 0, none⟩)), (31, .bool d_27)]) ?_ ?_
  · clear H
    refine W.region ?_
    refine va (.pointer (some ⟨b1, 0, none⟩)) ?_
    refine WL.val0 (v := .int .i64 p0.Break) rfl (rx (by kernel_rfl) (run_load1 Try.underlying3 rfl (m3 0 _ rfl))) ?_
    refine va (.bool (decide (p0.Break < 0))) ?_
    rcases Bool.eq_false_or_eq_true (decide (p0.Break < 0)) with h11 | h11
    · skip
      obtain rfl := orT h11 h6
      refine vb h11 ?_
      refine ps ?_
      refine ps ?_
      refine ps ?_
      refine va (.bool true) ?_
      have h12 : true = true := rfl
      obtain rfl := orT h12 h7
      refine vb h12 ?_
      refine ps ?_
      refine ps ?_
      refine ps ?_
      refine va (.bool true) ?_
      have h13 : true = true := rfl
      obtain rfl := orT h13 h8
      refine vb h13 ?_
      refine ps ?_
      refine ps ?_
      refine ps ?_
      refine va (.bool true) ?_
      have h14 : true = true := rfl
      obtain rfl := orT h14 h9
      refine vb h14 ?_
      refine ps ?_
      refine ps ?_
      refine ps ?_
      refine va (.bool true) ?_
      have h15 : true = true := rfl
      obtain rfl := orT h15 h10
      refine vb h15 ?_
      refine ps ?_
      refine ps ?_
      refine ps ?_
      refine va (.bool true) ?_
      refine wln ?_
      exact ⟨c4, _, rfl, (Cx.le.refl _), O2, ups_self ⟨rfl, rfl, trivial⟩⟩
    · skip
      have H16 := orF h11 h6
      refine vb h11 ?_
      refine wn ?_
      refine va (.pointer (some ⟨b1, 0, none⟩)) ?_
      refine wn ?_
      refine WL.val0 (v := .int .i64 p0.Break) rfl (rx (by kernel_rfl) (run_load1 Try.underlying3 rfl (m3 0 _ rfl))) ?_
      refine wn ?_
      refine va (.bool (decide (p0.Break > 13))) ?_
      obtain rfl := Option.some.inj H16
      refine va (.bool (decide (p0.Break > 13))) ?_
      rcases Bool.eq_false_or_eq_true (decide (p0.Break > 13)) with h17 | h17
      · skip
        obtain rfl := orT h17 h7
        refine vb h17 ?_
        refine ps ?_
        refine ps ?_
        refine ps ?_
        refine va (.bool true) ?_
        have h18 : true = true := rfl
        obtain rfl := orT h18 h8
        refine vb h18 ?_
        refine ps ?_
        refine ps ?_
        refine ps ?_
        refine va (.bool true) ?_
        have h19 : true = true := rfl
        obtain rfl := orT h19 h9
        refine vb h19 ?_
        refine ps ?_
        refine ps ?_
        refine ps ?_
        refine va (.bool true) ?_
        have h20 : true = true := rfl
        obtain rfl := orT h20 h10
        refine vb h20 ?_
        refine ps ?_
        refine ps ?_
        refine ps ?_
        refine va (.bool true) ?_
        refine wln ?_
        exact ⟨c4, _, rfl, (Cx.le.refl _), O2, ups_self ⟨rfl, rfl, trivial⟩⟩
      · skip
        have H21 := orF h17 h7
        refine vb h17 ?_
        refine wn ?_
        refine va (.pointer (some ⟨b1, 0 + 2, none⟩)) ?_
        refine wn ?_
        refine WL.val0 (v := .int .i64 p0.Conj) rfl (rx (by kernel_rfl) (run_load1 Try.underlying3 rfl (m3 2 _ rfl))) ?_
        refine wn ?_
        refine va (.bool (decide (p0.Conj < 0))) ?_
        obtain rfl := Option.some.inj H21
        refine va (.bool (decide (p0.Conj < 0))) ?_
        rcases Bool.eq_false_or_eq_true (decide (p0.Conj < 0)) with h22 | h22
        · skip
          obtain rfl := orT h22 h8
          refine vb h22 ?_
          refine ps ?_
          refine ps ?_
          refine ps ?_
          refine va (.bool true) ?_
          have h23 : true = true := rfl
          obtain rfl := orT h23 h9
          refine vb h23 ?_
          refine ps ?_
          refine ps ?_
          refine ps ?_
          refine va (.bool true) ?_
          have h24 : true = true := rfl
          obtain rfl := orT h24 h10
          refine vb h24 ?_
          refine ps ?_
          refine ps ?_
          refine ps ?_
          refine va (.bool true) ?_
          refine wln ?_
          exact ⟨c4, _, rfl, (Cx.le.refl _), O2, ups_self ⟨rfl, rfl, trivial⟩⟩
        · skip
          have H25 := orF h22 h8
          refine vb h22 ?_
          refine wn ?_
          refine va (.pointer (some ⟨b1, 0 + 2, none⟩)) ?_
          refine wn ?_
          refine WL.val0 (v := .int .i64 p0.Conj) rfl (rx (by kernel_rfl) (run_load1 Try.underlying3 rfl (m3 2 _ rfl))) ?_
          refine wn ?_
          refine va (.bool (decide (p0.Conj > 3))) ?_
          obtain rfl := Option.some.inj H25
          refine va (.bool (decide (p0.Conj > 3))) ?_
          rcases Bool.eq_false_or_eq_true (decide (p0.Conj > 3)) with h26 | h26
          · skip
            obtain rfl := orT h26 h9
            refine vb h26 ?_
            refine ps ?_
            refine ps ?_
            refine ps ?_
            refine va (.bool true) ?_
            have h27 : true = true := rfl
            obtain rfl := orT h27 h10
            refine vb h27 ?_
            refine ps ?_
            refine ps ?_
            refine ps ?_
            refine va (.bool true) ?_
            refine wln ?_
            exact ⟨c4, _, rfl, (Cx.le.refl _), O2, ups_self ⟨rfl, rfl, trivial⟩⟩
          · skip
            have H28 := orF h26 h9
            refine vb h26 ?_
            refine wn ?_
            refine va (.pointer (some ⟨b1, 0 + 3, none⟩)) ?_
            refine wn ?_
            refine WL.val0 (v := .int .i64 p0.East) rfl (rx (by kernel_rfl) (run_load1 Try.underlying3 rfl (m3 3 _ rfl))) ?_
            refine wn ?_
            refine va (.bool (decide (p0.East < 0))) ?_
            obtain rfl := Option.some.inj H28
            refine va (.bool (decide (p0.East < 0))) ?_
            rcases Bool.eq_false_or_eq_true (decide (p0.East < 0)) with h29 | h29
            · skip
              obtain rfl := orT h29 h10
              refine vb h29 ?_
              refine ps ?_
              refine ps ?_
              refine ps ?_
              refine va (.bool true) ?_
              refine wln ?_
              exact ⟨c4, _, rfl, (Cx.le.refl _), O2, ups_self ⟨rfl, rfl, trivial⟩⟩
            · skip
              have H30 := orF h29 h10
              refine vb h29 ?_
              refine wn ?_
              refine va (.pointer (some ⟨b1, 0 + 3, none⟩)) ?_
              refine wn ?_
              refine WL.val0 (v := .int .i64 p0.East) rfl (rx (by kernel_rfl) (run_load1 Try.underlying3 rfl (m3 3 _ rfl))) ?_
              refine wn ?_
              refine va (.bool (decide (p0.East > 3))) ?_
              obtain rfl := Option.some.inj H30
              refine va (.bool (decide (p0.East > 3))) ?_
              refine wln ?_
              exact ⟨c4, _, rfl, (Cx.le.refl _), O2, ups_self ⟨rfl, rfl, trivial⟩⟩
  · skip
    rintro e_ w_ ⟨c31, g32, rfl, l31, O33, rfl⟩
    refine nrm ?_
    refine W.cond (t := d_27) (by kernel_rfl) (fun h37 => ?_) (fun h37 => ?_)
    · have H := it h37 H
      refine sr ?_
      refine va (.int .i64 (-1)) ?_
      refine wln ?_
      refine W.ret ?_
      refine thr ?_
      obtain rfl := Option.some.inj H
      exact ret1 (v := .int .i64 (-1)) rfl (by kernel_rfl) ⟨_, c31, rfl, rfl, (l4.trans l31), O33, rfl⟩
    · have H := ie h37 H
      refine W.skip ?_
      refine nrm ?_
      refine sr ?_
      refine va (.int .i64 0) ?_
      refine wln ?_
      obtain ⟨z_37, H38, H39⟩ := bs H
      refine W.seqJ (fun e w => ∃ (c : Cx) (g : Nat → Value), w = c.w ∧ c31.le c ∧ Own c G (F) ∧ e = ups g [(1, .pointer (some ⟨b1, 0, none⟩)), (3, .int .i64 z_37)]) ?_ ?_
      · skip
        refine sr ?_
        refine va (.pointer (some ⟨b1, 0 + 1, none⟩)) ?_
        refine WL.val0 (v := .bool p0.Pict) rfl (rx (by kernel_rfl) (run_load1 Try.underlying4 rfl ((fun j u hu => (m3 j u hu).mono l31) 1 _ rfl))) ?_
        refine wln ?_
        refine W.cond (t := p0.Pict) (by kernel_rfl) (fun h40 => ?_) (fun h40 => ?_)
        · have H38 := it h40 H38
          refine W.region ?_
          refine va (.int .i64 1) ?_
          refine wln ?_
          obtain rfl := Option.some.inj H38
          exact ⟨c31, _, rfl, (Cx.le.refl _), O33, ups_self ⟨rfl, rfl, trivial⟩⟩
        · have H38 := ie h40 H38
          refine W.skip ?_
          refine nrm ?_
          obtain rfl := Option.some.inj H38
          exact ⟨c31, _, rfl, (Cx.le.refl _), O33, ups_self ⟨rfl, rfl, trivial⟩⟩
      · skip
        rintro e_ w_ ⟨c41, g42, rfl, l41, O43, rfl⟩
        refine sr ?_
        refine va (.pointer (some ⟨b1, 0 + 3, none⟩)) ?_
        refine WL.val0 (v := .int .i64 p0.East) rfl (rx (by kernel_rfl) (run_load1 Try.underlying3 rfl ((fun j u hu => (m3 j u hu).mono (l31.trans l41)) 3 _ rfl))) ?_
        refine va (.int .i64 (w64 (p0.East * 4))) ?_
        refine va (.pointer (some ⟨b1, 0 + 2, none⟩)) ?_
        refine WL.val0 (v := .int .i64 p0.Conj) rfl (rx (by kernel_rfl) (run_load1 Try.underlying3 rfl ((fun j u hu => (m3 j u hu).mono (l31.trans l41)) 2 _ rfl))) ?_
        refine va (.int .i64 (w64 ((w64 (p0.East * 4)) + p0.Conj))) ?_
        refine va (.int .i64 (w64 ((w64 ((w64 (p0.East * 4)) + p0.Conj)) * 2))) ?_
        refine va (.int .i64 z_37) ?_
        refine va (.int .i64 (w64 ((w64 ((w64 ((w64 (p0.East * 4)) + p0.Conj)) * 2)) + z_37))) ?_
        refine va (.int .i64 (w64 ((w64 ((w64 ((w64 ((w64 (p0.East * 4)) + p0.Conj)) * 2)) + z_37)) * 16))) ?_
        refine va (.pointer (some ⟨b1, 0, none⟩)) ?_
        refine WL.val0 (v := .int .i64 p0.Break) rfl (rx (by kernel_rfl) (run_load1 Try.underlying3 rfl ((fun j u hu => (m3 j u hu).mono (l31.trans l41)) 0 _ rfl))) ?_
        refine va (.int .i64 (w64 ((w64 ((w64 ((w64 ((w64 ((w64 (p0.East * 4)) + p0.Conj)) * 2)) + z_37)) * 16)) + p0.Break))) ?_
        refine va (.int .i64 (w64 ((w64 ((w64 ((w64 ((w64 ((w64 (p0.East * 4)) + p0.Conj)) * 2)) + z_37)) * 16)) + p0.Break))) ?_
        refine wln ?_
        refine W.ret ?_
        obtain rfl := Option.some.inj H39
        exact ret1 (v := .int .i64 (w64 ((w64 ((w64 ((w64 ((w64 ((w64 (p0.East * 4)) + p0.Conj)) * 2)) + z_37)) * 16)) + p0.Break))) rfl (by kernel_rfl) ⟨_, c41, rfl, rfl, (l4.trans (l31.trans l41)), O43, rfl⟩

def f_linotypelaw13_UcdCodes (p0 : G_api_Prop) (p1 : Int) : Option (Bool) :=
  (f_linotypelaw13_works).bind fun x_4 =>
  (orE (!x_4) ((f_ucd_Code p0).bind fun x_10 =>
  (f_linotyperef13_Code p0).bind fun x_11 =>
  some (x_10 != x_11))).bind fun d_6 =>
  if d_6 = true then
  some false
  else
  (f_linotyperef13_Code p0).bind fun x_17 =>
  (andE (decide (x_17 ≥ 0)) ((f_ucd_Code p0).bind fun x_23 =>
  (f_ucd_Prop x_23).bind fun x_24 =>
  some (!(x_24.Break == p0.Break && (x_24.Pict == p0.Pict && (x_24.Conj == p0.Conj && (x_24.East == p0.East && true))))))).bind fun d_19 =>
  if d_19 = true then
  some false
  else
  (f_ucd_Prop p1).bind fun x_30 =>
  (orE (decide (p1 < 0)) (some (decide (p1 > 511)))).bind fun d_36 =>
  (orE d_36 (some (decide ((p1.tmod 16) > 13)))).bind fun d_40 =>
  if d_40 = true then
  some (x_30.Break == 0 && (x_30.Pict == false && (x_30.Conj == 0 && (x_30.East == 0 && true))))
  else
  (f_linotyperef13_Code x_30).bind fun x_52 =>
  some (x_52 == p1)
theorem c_linotypelaw13_UcdCodes {c0 : Cx} {G : Gm} {F : List En} (O0 : Own c0 G F) (p0 : G_api_Prop) (p1 : Int) {r : Bool} (H : f_linotypelaw13_UcdCodes p0 p1 = some r) :
    Calls Try.prog 4 #[.agg #[.int .i64 p0.Break, .bool p0.Pict, .int .i64 p0.Conj, .int .i64 p0.East], .int .i64 p1] c0.w (Post c0 fun c v => Own c G (F) ∧ v = .bool r) := by
  unfold f_linotypelaw13_UcdCodes at H
  refine enter (l := [.agg #[.int .i64 p0.Break, .bool p0.Pict, .int .i64 p0.Conj, .int .i64 p0.East], .int .i64 p1]) Try.func4 rfl rfl rfl ?_
  refine sr ?_
  refine WL.mem rfl (Own.bx (T := 23) (vs := [.int .i64 p0.Break, .bool p0.Pict, .int .i64 p0.Conj, .int .i64 p0.East]) O0 (by kernel_rfl)) ?_
  rintro v5 c4 l4 ⟨b1, rfl, O2, m3⟩
  refine va (.bool false) ?_
  refine wln ?_
  refine W.seq ?_
  refine W.seq ?_
  obtain ⟨x_4, h6, H⟩ := bs H
  obtain ⟨d_6, h7, H⟩ := bs H
  refine W.join (fun e w => ∃ (c : Cx) (g : Nat → Value), w = c.w ∧ c4.le c ∧ Own c G (F) ∧ e = ups g [(1, .int .i64 p1), (2, .pointer (some ⟨b1, 0, none⟩)), (14, .bool d_6)]) ?_ ?_
  · clear H
    refine W.regionD [] (Kp G0 []) O2 (by kernel_rfl) ?_
    intro c8 l8 O9
    have p10 : Kp G0 [] c8 := Kp.nil0
    refine AC.one 0 (by kernel_rfl) (Go1.callP 0 rfl (by kernel_rfl) (by kernel_rfl) (by kernel_rfl) (c_linotypelaw13_works O9 h6) ?_)
    rintro v16 c15 l15 ⟨O12, rfl⟩
    have p17 : Kp G0 [] c15 := Kp.nil0
    refine ⟨.inr p17, ?_⟩
    refine ta 1 (.bool (!x_4)) ?_
    rcases Bool.eq_false_or_eq_true (!x_4) with h18 | h18
    · skip
      obtain rfl := orT h18 h7
      refine AC.takeb 2 h18 rfl (by kernel_rfl) (by kernel_rfl) (fun c' hle => (by kernel_rfl)) ?_
      refine AC.pass 3 rfl (by kernel_rfl) (by kernel_rfl) ?_
      refine AC.pass 5 rfl (by kernel_rfl) (by kernel_rfl) ?_
      refine AC.pass 4 rfl (by kernel_rfl) (by kernel_rfl) ?_
      refine AC.pass 6 rfl (by kernel_rfl) (by kernel_rfl) ?_
      refine AC.pass 7 rfl (by kernel_rfl) (by kernel_rfl) ?_
      refine ta 8 (.bool true) ?_
      refine AC.done (by kernel_rfl) ?_
      refine nrm ?_
      exact ⟨c15, _, rfl, (l8.trans l15), O12, ups_self ⟨rfl, rfl, rfl, trivial⟩⟩
    · skip
      have H19 := orF h18 h7
      obtain ⟨x_10, h20, H19⟩ := bs H19
      obtain ⟨x_11, h21, H19⟩ := bs H19
      refine AC.takeb 2 h18 rfl (by kernel_rfl) (by kernel_rfl) (fun c' hle => (by kernel_rfl)) ?_
      refine AC.take 3 (.agg #[.int .i64 p0.Break, .bool p0.Pict, .int .i64 p0.Conj, .int .i64 p0.East]) rfl (by kernel_rfl) (by kernel_rfl) (fun c' hle => (rx (by kernel_rfl) (run_loadN (T := 23) (by kernel_rfl) (by kernel_rfl) (fun j u hu => (m3 j u hu).mono ((l8.trans l15).trans hle))))) ?_
      refine AC.take 5 (.agg #[.int .i64 p0.Break, .bool p0.Pict, .int .i64 p0.Conj, .int .i64 p0.East]) rfl (by kernel_rfl) (by kernel_rfl) (fun c' hle => (rx (by kernel_rfl) (run_loadN (T := 23) (by kernel_rfl) (by kernel_rfl) (fun j u hu => (m3 j u hu).mono ((l8.trans l15).trans hle))))) ?_
      refine AC.one 4 (by kernel_rfl) (Go1.callP 4 rfl (by kernel_rfl) (by kernel_rfl) (by kernel_rfl) (c_ucd_Code O12 p0 h20) ?_)
      rintro v27 c26 l26 ⟨O23, rfl⟩
      have p28 : Kp G0 [] c26 := Kp.nil0
      refine ⟨.inr p28, ?_⟩
      refine AC.one 6 (by kernel_rfl) (Go1.callP 6 rfl (by kernel_rfl) (by kernel_rfl) (by kernel_rfl) (c_linotyperef13_Code O23 p0 h21) ?_)
      rintro v34 c33 l33 ⟨O30, rfl⟩
      have p35 : Kp G0 [] c33 := Kp.nil0
      refine ⟨.inr p35, ?_⟩
      refine ta 7 (.bool (x_10 != x_11)) ?_
      obtain rfl := Option.some.inj H19
      refine ta 8 (.bool (x_10 != x_11)) ?_
      refine AC.done (by kernel_rfl) ?_
      refine nrm ?_
      exact ⟨c33, _, rfl, (l8.trans (l15.trans (l26.trans l33))), O30, ups_self ⟨rfl, rfl, rfl, trivial⟩⟩
  · skip
    rintro e_ w_ ⟨c36, g37, rfl, l36, O38, rfl⟩
    refine nrm ?_
    refine W.cond (t := d_6) (by kernel_rfl) (fun h42 => ?_) (fun h42 => ?_)
    · have H := it h42 H
      refine sr ?_
      refine va (.bool false) ?_
      refine wln ?_
      refine W.ret ?_
      refine thr ?_
      obtain rfl := Option.some.inj H
      exact ret1 (v := .bool false) rfl (by kernel_rfl) ⟨_, c36, rfl, rfl, (l4.trans l36), O38, rfl⟩
    · have H := ie h42 H
      refine W.skip ?_
      refine nrm ?_
      refine W.seq ?_
      refine W.seq ?_
      obtain ⟨x_17, h43, H⟩ := bs H
      obtain ⟨d_19, h44, H⟩ := bs H
      refine W.join (fun e w => ∃ (c : Cx) (g : Nat → Value), w = c.w ∧ c36.le c ∧ Own c G (F) ∧ e = ups g [(1, .int .i64 p1), (24, .bool d_19)]) ?_ ?_
      · clear H
        refine W.regionD [] (Kp G0 []) O38 (by kernel_rfl) ?_
        intro c45 l45 O46
        have p47 : Kp G0 [] c45 := Kp.nil0
        refine AC.take 0 (.agg #[.int .i64 p0.Break, .bool p0.Pict, .int .i64 p0.Conj, .int .i64 p0.East]) rfl (by kernel_rfl) (by kernel_rfl) (fun c' hle => (rx (by kernel_rfl) (run_loadN (T := 23) (by kernel_rfl) (by kernel_rfl) (fun j u hu => (m3 j u hu).mono ((l36.trans l45).trans hle))))) ?_
        refine AC.one 1 (by kernel_rfl) (Go1.callP 1 rfl (by kernel_rfl) (by kernel_rfl) (by kernel_rfl) (c_linotyperef13_Code O46 p0 h43) ?_)
        rintro v53 c52 l52 ⟨O49, rfl⟩
        have p54 : Kp G0 [] c52 := Kp.nil0
        refine ⟨.inr p54, ?_⟩
        refine ta 2 (.bool (decide (x_17 ≥ 0))) ?_
        rcases Bool.eq_false_or_eq_true (decide (x_17 ≥ 0)) with h55 | h55
        · skip
          have H56 := anT h55 h44
          obtain ⟨x_23, h57, H56⟩ := bs H56
          obtain ⟨x_24, h58, H56⟩ := bs H56
          refine AC.takeb 3 h55 rfl (by kernel_rfl) (by kernel_rfl) (fun c' hle => (by kernel_rfl)) ?_
          refine AC.take 4 (.agg #[.int .i64 p0.Break, .bool p0.Pict, .int .i64 p0.Conj, .int .i64 p0.East]) rfl (by kernel_rfl) (by kernel_rfl) (fun c' hle => (rx (by kernel_rfl) (run_loadN (T := 23) (by kernel_rfl) (by kernel_rfl) (fun j u hu => (m3 j u hu).mono ((l36.trans (l45.trans l52)).trans hle))))) ?_
          refine AC.take 7 (.agg #[.int .i64 p0.Break, .bool p0.Pict, .int .i64 p0.Conj, .int .i64 p0.East]) rfl (by kernel_rfl) (by kernel_rfl) (fun c' hle => (rx (by kernel_rfl) (run_loadN (T := 23) (by kernel_rfl) (by kernel_rfl) (fun j u hu => (m3 j u hu).mono ((l36.trans (l45.trans l52)).trans hle))))) ?_
          refine AC.one 5 (by kernel_rfl) (Go1.callP 5 rfl (by kernel_rfl) (by kernel_rfl) (by kernel_rfl) (c_ucd_Code O49 p0 h57) ?_)
          rintro v64 c63 l63 ⟨O60, rfl⟩
          have p65 : Kp G0 [] c63 := Kp.nil0
          refine ⟨.inr p65, ?_⟩
          refine AC.one 6 (by kernel_rfl) (Go1.callP 6 rfl (by kernel_rfl) (by kernel_rfl) (by kernel_rfl) (c_ucd_Prop O60 x_23 h58) ?_)
          rintro v71 c70 l70 ⟨O67, rfl⟩
          have p72 : Kp G0 [] c70 := Kp.nil0
          refine ⟨.inr p72, ?_⟩
          refine AC.take 8 (.bool (!(x_24.Break == p0.Break && (x_24.Pict == p0.Pict && (x_24.Conj == p0.Conj && (x_24.East == p0.East && true)))))) rfl (by kernel_rfl) (by kernel_rfl) (fun c' hle => (run_neqA (T := 23) (xs := #[.int .i64 x_24.Break, .bool x_24.Pict, .int .i64 x_24.Conj, .int .i64 x_24.East]) (ys := #[.int .i64 p0.Break, .bool p0.Pict, .int .i64 p0.Conj, .int .i64 p0.East]) (r := (x_24.Break == p0.Break && (x_24.Pict == p0.Pict && (x_24.Conj == p0.Conj && (x_24.East == p0.East && true))))) Try.underlying23 (by kernel_rfl) (by kernel_rfl) (EqP.int (by kernel_rfl) Try.underlying3 rfl rfl (EqP.bool (by kernel_rfl) Try.underlying4 rfl rfl (EqP.int (by kernel_rfl) Try.underlying3 rfl rfl (EqP.int (by kernel_rfl) Try.underlying3 rfl rfl EqP.nil)))) (by kernel_rfl) _)) ?_
          obtain rfl := Option.some.inj H56
          refine ta 9 (.bool (!(x_24.Break == p0.Break && (x_24.Pict == p0.Pict && (x_24.Conj == p0.Conj && (x_24.East == p0.East && true)))))) ?_
          refine AC.done (by kernel_rfl) ?_
          refine nrm ?_
          exact ⟨c70, _, rfl, (l45.trans (l52.trans (l63.trans l70))), O67, ups_self ⟨rfl, rfl, trivial⟩⟩
        · skip
          obtain rfl := anF h55 h44
          refine AC.takeb 3 h55 rfl (by kernel_rfl) (by kernel_rfl) (fun c' hle => (by kernel_rfl)) ?_
          refine AC.pass 4 rfl (by kernel_rfl) (by kernel_rfl) ?_
          refine AC.pass 7 rfl (by kernel_rfl) (by kernel_rfl) ?_
          refine AC.pass 5 rfl (by kernel_rfl) (by kernel_rfl) ?_
          refine AC.pass 6 rfl (by kernel_rfl) (by kernel_rfl) ?_
          refine AC.pass 8 rfl (by kernel_rfl) (by kernel_rfl) ?_
          refine ta 9 (.bool false) ?_
          refine AC.done (by kernel_rfl) ?_
          refine nrm ?_
          exact ⟨c52, _, rfl, (l45.trans l52), O49, ups_self ⟨rfl, rfl, trivial⟩⟩
      · skip
        rintro e_ w_ ⟨c73, g74, rfl, l73, O75, rfl⟩
        refine nrm ?_
        refine W.cond (t := d_19) (by kernel_rfl) (fun h79 => ?_) (fun h79 => ?_)
        · have H := it h79 H
          refine sr ?_
          refine va (.bool false) ?_
          refine wln ?_
          refine W.ret ?_
          refine thr ?_
          obtain rfl := Option.some.inj H
          exact ret1 (v := .bool false) rfl (by kernel_rfl) ⟨_, c73, rfl, rfl, (l4.trans (l36.trans l73)), O75, rfl⟩
        · have H := ie h79 H
          refine W.skip ?_
          refine nrm ?_
          refine sr ?_
          refine va (.int .i64 p1) ?_
          obtain ⟨x_30, h80, H⟩ := bs H
          refine WL.callP rfl (by kernel_rfl) (c_ucd_Prop O75 p1 h80) ?_
          rintro v86 c85 l85 ⟨O82, rfl⟩
          refine WL.mem rfl (Own.al (T := 23) (vs := [.int .i64 0, .bool false, .int .i64 0, .int .i64 0]) O82 (by kernel_rfl)) ?_
          rintro v90 c89 l89 ⟨b87, rfl, O88⟩
          refine WL.memD rfl (Own.st (T := 23) (j := 0) (us := [.int .i64 x_30.Break, .bool x_30.Pict, .int .i64 x_30.Conj, .int .i64 x_30.East]) (nw := [.int .i64 x_30.Break, .bool x_30.Pict, .int .i64 x_30.Conj, .int .i64 x_30.East]) (v := .agg #[.int .i64 x_30.Break, .bool x_30.Pict, .int .i64 x_30.Conj, .int .i64 x_30.East]) 0 O88 (by kernel_rfl) rfl rfl rfl rfl (by kernel_rfl) ⟨rfl, rfl, rfl, rfl, trivial⟩ rfl rfl) ?_
          rintro c92 l92 O91
          refine wln ?_
          refine W.seq ?_
          refine W.seq ?_
          obtain ⟨d_36, h93, H⟩ := bs H
          obtain ⟨d_40, h94, H⟩ := bs H
          refine W.join (fun e w => ∃ (c : Cx) (g : Nat → Value), w = c.w ∧ c92.le c ∧ Own c G (⟨.pointer (some ⟨b87, 0, none⟩), 23, [.int .i64 x_30.Break, .bool x_30.Pict, .int .i64 x_30.Conj, .int .i64 x_30.East], 0⟩ :: F) ∧ e = ups g [(1, .int .i64 p1), (5, .pointer (some ⟨b87, 0, none⟩)), (37, .bool d_40)]) ?_ ?_
          · clear H
            refine W.region ?_
            refine va (.int .i64 p1) ?_
            refine va (.bool (decide (p1 < 0))) ?_
            rcases Bool.eq_false_or_eq_true (decide (p1 < 0)) with h95 | h95
            · skip
              obtain rfl := orT h95 h93
              refine vb h95 ?_
              refine ps ?_
              refine ps ?_
              refine va (.bool true) ?_
              have h96 : true = true := rfl
              obtain rfl := orT h96 h94
              refine vb h96 ?_
              refine ps ?_
              refine ps ?_
              refine ps ?_
              refine va (.bool true) ?_
              refine wln ?_
              exact ⟨c92, _, rfl, (Cx.le.refl _), O91, ups_self ⟨rfl, rfl, rfl, trivial⟩⟩
            · skip
              have H97 := orF h95 h93
              refine vb h95 ?_
              refine wn ?_
              refine va (.int .i64 p1) ?_
              refine wn ?_
              refine va (.bool (decide (p1 > 511))) ?_
              obtain rfl := Option.some.inj H97
              refine va (.bool (decide (p1 > 511))) ?_
              rcases Bool.eq_false_or_eq_true (decide (p1 > 511)) with h98 | h98
              · skip
                obtain rfl := orT h98 h94
                refine vb h98 ?_
                refine ps ?_
                refine ps ?_
                refine ps ?_
                refine va (.bool true) ?_
                refine wln ?_
                exact ⟨c92, _, rfl, (Cx.le.refl _), O91, ups_self ⟨rfl, rfl, rfl, trivial⟩⟩
              · skip
                have H99 := orF h98 h94
                refine vb h98 ?_
                refine wn ?_
                refine va (.int .i64 p1) ?_
                refine wn ?_
                refine va (.int .i64 (p1.tmod 16)) ?_
                refine wn ?_
                refine va (.bool (decide ((p1.tmod 16) > 13))) ?_
                obtain rfl := Option.some.inj H99
                refine va (.bool (decide ((p1.tmod 16) > 13))) ?_
                refine wln ?_
                exact ⟨c92, _, rfl, (Cx.le.refl _), O91, ups_self ⟨rfl, rfl, rfl, trivial⟩⟩
          · skip
            rintro e_ w_ ⟨c100, g101, rfl, l100, O102, rfl⟩
            refine nrm ?_
            refine W.cond (t := d_40) (by kernel_rfl) (fun h106 => ?_) (fun h106 => ?_)
            · have H := it h106 H
              refine sr ?_
              refine WL.val0 (v := .agg #[.int .i64 x_30.Break, .bool x_30.Pict, .int .i64 x_30.Conj, .int .i64 x_30.East]) rfl (rx (by kernel_rfl) (ldEN (T := 23) (j := 0) (l := [.int .i64 x_30.Break, .bool x_30.Pict, .int .i64 x_30.Conj, .int .i64 x_30.East]) (by kernel_rfl) (by kernel_rfl) (O102.on 0 rfl) rfl rfl)) ?_
              refine va (.agg #[.int .i64 0, .bool false, .int .i64 0, .int .i64 0]) ?_
              refine WL.val0 (v := .bool (x_30.Break == 0 && (x_30.Pict == false && (x_30.Conj == 0 && (x_30.East == 0 && true))))) rfl (run_eqlA (T := 23) (xs := #[.int .i64 x_30.Break, .bool x_30.Pict, .int .i64 x_30.Conj, .int .i64 x_30.East]) (ys := #[.int .i64 0, .bool false, .int .i64 0, .int .i64 0]) (r := (x_30.Break == 0 && (x_30.Pict == false && (x_30.Conj == 0 && (x_30.East == 0 && true))))) Try.underlying23 (by kernel_rfl) (by kernel_rfl) (EqP.int (by kernel_rfl) Try.underlying3 rfl rfl (EqP.bool (by kernel_rfl) Try.underlying4 rfl rfl (EqP.int (by kernel_rfl) Try.underlying3 rfl rfl (EqP.int (by kernel_rfl) Try.underlying3 rfl rfl EqP.nil)))) (by kernel_rfl) _) ?_
              refine va (.bool (x_30.Break == 0 && (x_30.Pict == false && (x_30.Conj == 0 && (x_30.East == 0 && true))))) ?_
              refine wln ?_
              refine W.ret ?_
              refine thr ?_
              obtain rfl := Option.some.inj H
              have O107 := O102.selD 1 [] (by kernel_rfl) (by kernel_rfl)
              exact ret1 (v := .bool (x_30.Break == 0 && (x_30.Pict == false && (x_30.Conj == 0 && (x_30.East == 0 && true))))) rfl (by kernel_rfl) ⟨_, c100, rfl, rfl, (l4.trans (l36.trans (l73.trans (l85.trans (l89.trans (l92.trans l100)))))), O107, rfl⟩
            · have H := ie h106 H
              refine W.skip ?_
              refine nrm ?_
              refine sr ?_
              refine WL.val0 (v := .agg #[.int .i64 x_30.Break, .bool x_30.Pict, .int .i64 x_30.Conj, .int .i64 x_30.East]) rfl (rx (by kernel_rfl) (ldEN (T := 23) (j := 0) (l := [.int .i64 x_30.Break, .bool x_30.Pict, .int .i64 x_30.Conj, .int .i64 x_30.East]) (by kernel_rfl) (by kernel_rfl) (O102.on 0 rfl) rfl rfl)) ?_
              obtain ⟨x_52, h108, H⟩ := bs H
              refine WL.callP rfl (by kernel_rfl) (c_linotyperef13_Code O102 x_30 h108) ?_
              rintro v114 c113 l113 ⟨O110, rfl⟩
              refine va (.int .i64 p1) ?_
              refine va (.bool (x_52 == p1)) ?_
              refine va (.bool (x_52 == p1)) ?_
              refine wln ?_
              refine W.ret ?_
              obtain rfl := Option.some.inj H
              have O115 := O110.selD 1 [] (by kernel_rfl) (by kernel_rfl)
              exact ret1 (v := .bool (x_52 == p1)) rfl (by kernel_rfl) ⟨_, c113, rfl, rfl, (l4.trans (l36.trans (l73.trans (l85.trans (l89.trans (l92.trans (l100.trans l113))))))), O115, rfl⟩

end Go.Proofs.Ythokmpbbkpjhbaa
