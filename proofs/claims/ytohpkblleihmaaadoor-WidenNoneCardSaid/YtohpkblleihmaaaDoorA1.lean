import Derived.Test.YtohpkblleihmaaaDoorMo
import Derived.Test.YtohpkblleihmaaaDoorProg
import Derived.Test.YtohpkblleihmaaaDoorMy
import Derived.Test.YtohpkblleihmaaaDoorMz
namespace Go.Proofs.YtohpkblleihmaaaDoor
open Go Go.Lt
set_option maxRecDepth 10000
set_option linter.unusedVariables false
attribute [local irreducible] W WL AC
def f_scalar_Valid (p0 : Int) : Option (Bool) :=
  (andE (decide (p0 ≥ 0)) (some (decide (p0 < 55296)))).bind fun d_5 =>
  (orE d_5 ((andE (decide (p0 > 57343)) (some (decide (p0 ≤ 1114111)))).bind fun d_13 =>
  some d_13)).bind fun d_9 =>
  some d_9
theorem c_scalar_Valid {c0 : Cx} {G : Gm} {F : List En} (O0 : Own c0 G F) (p0 : Int) {r : Bool} (H : f_scalar_Valid p0 = some r) :
    Calls Tryd.prog 174 #[.int .i32 p0] c0.w (Post c0 fun c v => Own c G (F) ∧ v = .bool r) := by
  unfold f_scalar_Valid at H
  refine enter (l := [.int .i32 p0]) Tryd.func174 rfl rfl rfl ?_
  refine sr ?_
  refine va (.bool false) ?_
  refine wln ?_
  refine W.seq ?_
  obtain ⟨d_5, h1, H⟩ := bs H
  obtain ⟨d_9, h2, H⟩ := bs H
  refine W.join (fun e w => ∃ (c : Cx) (g : Nat → Value), w = c.w ∧ c0.le c ∧ Own c G (F) ∧ e = ups g [(2, .bool d_9)]) ?_ ?_
  · clear H
    refine W.region ?_
    refine va (.int .i32 p0) ?_
    refine va (.bool (decide (p0 ≥ 0))) ?_
    rcases Bool.eq_false_or_eq_true (decide (p0 ≥ 0)) with h3 | h3
    · skip
      have H4 := anT h3 h1
      refine vb h3 ?_
      refine wn ?_
      refine va (.int .i32 p0) ?_
      refine wn ?_
      refine va (.bool (decide (p0 < 55296))) ?_
      obtain rfl := Option.some.inj H4
      refine va (.bool (decide (p0 < 55296))) ?_
      rcases Bool.eq_false_or_eq_true (decide (p0 < 55296)) with h5 | h5
      · skip
        obtain rfl := orT h5 h2
        refine vb h5 ?_
        refine ps ?_
        refine ps ?_
        refine ps ?_
        refine ps ?_
        refine ps ?_
        refine ps ?_
        refine va (.bool true) ?_
        refine va (.bool true) ?_
        refine wln ?_
        exact ⟨c0, _, rfl, (Cx.le.refl _), O0, ups_self ⟨rfl, trivial⟩⟩
      · skip
        have H6 := orF h5 h2
        refine vb h5 ?_
        refine wn ?_
        refine va (.int .i32 p0) ?_
        refine wn ?_
        refine va (.bool (decide (p0 > 57343))) ?_
        refine wn ?_
        obtain ⟨d_13, h7, H6⟩ := bs H6
        rcases Bool.eq_false_or_eq_true (decide (p0 > 57343)) with h8 | h8
        · skip
          have H9 := anT h8 h7
          refine vb h8 ?_
          refine wn ?_
          refine va (.int .i32 p0) ?_
          refine wn ?_
          refine va (.bool (decide (p0 ≤ 1114111))) ?_
          refine wn ?_
          obtain rfl := Option.some.inj H9
          refine va (.bool (decide (p0 ≤ 1114111))) ?_
          obtain rfl := Option.some.inj H6
          refine va (.bool (decide (p0 ≤ 1114111))) ?_
          refine va (.bool (decide (p0 ≤ 1114111))) ?_
          refine wln ?_
          exact ⟨c0, _, rfl, (Cx.le.refl _), O0, ups_self ⟨rfl, trivial⟩⟩
        · skip
          obtain rfl := anF h8 h7
          refine vb h8 ?_
          refine ps ?_
          refine ps ?_
          refine wn ?_
          refine va (.bool false) ?_
          obtain rfl := Option.some.inj H6
          refine va (.bool false) ?_
          refine va (.bool false) ?_
          refine wln ?_
          exact ⟨c0, _, rfl, (Cx.le.refl _), O0, ups_self ⟨rfl, trivial⟩⟩
    · skip
      obtain rfl := anF h3 h1
      refine vb h3 ?_
      refine ps ?_
      refine ps ?_
      refine va (.bool false) ?_
      have h10 : false = false := rfl
      have H11 := orF h10 h2
      refine vb h10 ?_
      refine wn ?_
      refine va (.int .i32 p0) ?_
      refine wn ?_
      refine va (.bool (decide (p0 > 57343))) ?_
      refine wn ?_
      obtain ⟨d_13, h12, H11⟩ := bs H11
      rcases Bool.eq_false_or_eq_true (decide (p0 > 57343)) with h13 | h13
      · skip
        have H14 := anT h13 h12
        refine vb h13 ?_
        refine wn ?_
        refine va (.int .i32 p0) ?_
        refine wn ?_
        refine va (.bool (decide (p0 ≤ 1114111))) ?_
        refine wn ?_
        obtain rfl := Option.some.inj H14
        refine va (.bool (decide (p0 ≤ 1114111))) ?_
        obtain rfl := Option.some.inj H11
        refine va (.bool (decide (p0 ≤ 1114111))) ?_
        refine va (.bool (decide (p0 ≤ 1114111))) ?_
        refine wln ?_
        exact ⟨c0, _, rfl, (Cx.le.refl _), O0, ups_self ⟨rfl, trivial⟩⟩
      · skip
        obtain rfl := anF h13 h12
        refine vb h13 ?_
        refine ps ?_
        refine ps ?_
        refine wn ?_
        refine va (.bool false) ?_
        obtain rfl := Option.some.inj H11
        refine va (.bool false) ?_
        refine va (.bool false) ?_
        refine wln ?_
        exact ⟨c0, _, rfl, (Cx.le.refl _), O0, ups_self ⟨rfl, trivial⟩⟩
  · skip
    rintro e_ w_ ⟨c15, g16, rfl, l15, O17, rfl⟩
    refine nrm ?_
    refine W.ret ?_
    obtain rfl := Option.some.inj H
    exact ret1 (v := .bool d_9) rfl (by kernel_rfl) ⟨_, c15, rfl, rfl, l15, O17, rfl⟩

def f_linotyperef01_Valid (p0 : Int) : Option (Bool) :=
  (andE (decide (p0 ≥ 0)) (some (decide (p0 ≤ 1114111)))).bind fun d_5 =>
  (andE d_5 ((orE (decide (p0 < 55296)) (some (decide (p0 > 57343)))).bind fun d_13 =>
  some d_13)).bind fun d_9 =>
  some d_9
theorem c_linotyperef01_Valid {c0 : Cx} {G : Gm} {F : List En} (O0 : Own c0 G F) (p0 : Int) {r : Bool} (H : f_linotyperef01_Valid p0 = some r) :
    Calls Tryd.prog 115 #[.int .i32 p0] c0.w (Post c0 fun c v => Own c G (F) ∧ v = .bool r) := by
  unfold f_linotyperef01_Valid at H
  refine enter (l := [.int .i32 p0]) Tryd.func115 rfl rfl rfl ?_
  refine sr ?_
  refine va (.bool false) ?_
  refine wln ?_
  refine W.seq ?_
  obtain ⟨d_5, h1, H⟩ := bs H
  obtain ⟨d_9, h2, H⟩ := bs H
  refine W.join (fun e w => ∃ (c : Cx) (g : Nat → Value), w = c.w ∧ c0.le c ∧ Own c G (F) ∧ e = ups g [(2, .bool d_9)]) ?_ ?_
  · clear H
    refine W.region ?_
    refine va (.int .i32 p0) ?_
    refine va (.bool (decide (p0 ≥ 0))) ?_
    rcases Bool.eq_false_or_eq_true (decide (p0 ≥ 0)) with h3 | h3
    · skip
      have H4 := anT h3 h1
      refine vb h3 ?_
      refine wn ?_
      refine va (.int .i32 p0) ?_
      refine wn ?_
      refine va (.bool (decide (p0 ≤ 1114111))) ?_
      obtain rfl := Option.some.inj H4
      refine va (.bool (decide (p0 ≤ 1114111))) ?_
      rcases Bool.eq_false_or_eq_true (decide (p0 ≤ 1114111)) with h5 | h5
      · skip
        have H6 := anT h5 h2
        refine vb h5 ?_
        refine wn ?_
        refine va (.int .i32 p0) ?_
        refine wn ?_
        refine va (.bool (decide (p0 < 55296))) ?_
        refine wn ?_
        obtain ⟨d_13, h7, H6⟩ := bs H6
        rcases Bool.eq_false_or_eq_true (decide (p0 < 55296)) with h8 | h8
        · skip
          obtain rfl := orT h8 h7
          refine vb h8 ?_
          refine ps ?_
          refine ps ?_
          refine wn ?_
          refine va (.bool true) ?_
          obtain rfl := Option.some.inj H6
          refine va (.bool true) ?_
          refine va (.bool true) ?_
          refine wln ?_
          exact ⟨c0, _, rfl, (Cx.le.refl _), O0, ups_self ⟨rfl, trivial⟩⟩
        · skip
          have H9 := orF h8 h7
          refine vb h8 ?_
          refine wn ?_
          refine va (.int .i32 p0) ?_
          refine wn ?_
          refine va (.bool (decide (p0 > 57343))) ?_
          refine wn ?_
          obtain rfl := Option.some.inj H9
          refine va (.bool (decide (p0 > 57343))) ?_
          obtain rfl := Option.some.inj H6
          refine va (.bool (decide (p0 > 57343))) ?_
          refine va (.bool (decide (p0 > 57343))) ?_
          refine wln ?_
          exact ⟨c0, _, rfl, (Cx.le.refl _), O0, ups_self ⟨rfl, trivial⟩⟩
      · skip
        obtain rfl := anF h5 h2
        refine vb h5 ?_
        refine ps ?_
        refine ps ?_
        refine ps ?_
        refine ps ?_
        refine ps ?_
        refine ps ?_
        refine va (.bool false) ?_
        refine va (.bool false) ?_
        refine wln ?_
        exact ⟨c0, _, rfl, (Cx.le.refl _), O0, ups_self ⟨rfl, trivial⟩⟩
    · skip
      obtain rfl := anF h3 h1
      refine vb h3 ?_
      refine ps ?_
      refine ps ?_
      refine va (.bool false) ?_
      have h10 : false = false := rfl
      obtain rfl := anF h10 h2
      refine vb h10 ?_
      refine ps ?_
      refine ps ?_
      refine ps ?_
      refine ps ?_
      refine ps ?_
      refine ps ?_
      refine va (.bool false) ?_
      refine va (.bool false) ?_
      refine wln ?_
      exact ⟨c0, _, rfl, (Cx.le.refl _), O0, ups_self ⟨rfl, trivial⟩⟩
  · skip
    rintro e_ w_ ⟨c11, g12, rfl, l11, O13, rfl⟩
    refine nrm ?_
    refine W.ret ?_
    obtain rfl := Option.some.inj H
    exact ret1 (v := .bool d_9) rfl (by kernel_rfl) ⟨_, c11, rfl, rfl, l11, O13, rfl⟩

def f_linotyperef01_Same (p0 : List Int) (p1 : List Int) : Option (Bool) :=
  if ((p0.length : Int) != (p1.length : Int)) = true then
  some false
  else
  (iter (σ := Int) (τ := Bool ⊕ Unit) (((p0.length : Int) - 0).toNat + 1) (fun s_13 =>
  if (decide (s_13 < (p0.length : Int))) = true then
  (idx p0 s_13).bind fun x_21 =>
  (idx p1 s_13).bind fun x_25 =>
  if (x_21 != x_25) = true then
  some (.inr (.inl false))
  else
  some (.inl ((w64 (s_13 + 1))))
  else
  some (.inr (.inr ()))) (0)).bind fun o_13 =>
  match o_13 with
  | .inl o_13 =>
  some o_13
  | .inr o_13 =>
  some true
theorem c_linotyperef01_Same {c0 : Cx} {G : Gm} {F : List En} {v1 : Value} {v3 : Value} (O0 : Own c0 G F) (p0 : List Int) (p1 : List Int) {r : Bool} (h2 : Sl (RI .i32) c0 v1 p0) (h4 : Sl (RI .i32) c0 v3 p1) (H : f_linotyperef01_Same p0 p1 = some r) :
    Calls Tryd.prog 99 #[v1, v3] c0.w (Post c0 fun c v => Own c G (F) ∧ v = .bool r) := by
  unfold f_linotyperef01_Same at H
  refine enter (l := [v1, v3]) Tryd.func99 rfl rfl rfl ?_
  refine sr ?_
  refine va (.bool false) ?_
  refine wln ?_
  refine W.seq ?_
  refine sr ?_
  refine va (v1) ?_
  refine WL.val0 (v := .int .i64 (p0.length : Int)) rfl (rx (by kernel_rfl) (run_len (ty := 3) Tryd.underlying25 h2 _)) ?_
  refine va (v3) ?_
  refine WL.val0 (v := .int .i64 (p1.length : Int)) rfl (rx (by kernel_rfl) (run_len (ty := 3) Tryd.underlying25 h4 _)) ?_
  refine va (.bool ((p0.length : Int) != (p1.length : Int))) ?_
  refine wln ?_
  refine W.cond (t := (p0.length : Int) != (p1.length : Int)) (by kernel_rfl) (fun h5 => ?_) (fun h5 => ?_)
  · have H := it h5 H
    refine sr ?_
    refine va (.bool false) ?_
    refine wln ?_
    refine W.ret ?_
    refine thr ?_
    obtain rfl := Option.some.inj H
    exact ret1 (v := .bool false) rfl (by kernel_rfl) ⟨_, c0, rfl, rfl, Cx.le.refl _, O0, rfl⟩
  · have H := ie h5 H
    refine W.skip ?_
    refine nrm ?_
    refine W.seq ?_
    refine sr ?_
    refine va (.int .i64 0) ?_
    refine wln ?_
    refine W.block ?_
    obtain ⟨o_13, h6, H7⟩ := bs H
    refine W.loop (σ := Int) (τ := Bool ⊕ Unit) (fun s_13 => fun e w => ∃ (c : Cx) (g : Nat → Value), w = c.w ∧ c0.le c ∧ Own c G (F) ∧ e = ups g [(0, v1), (1, v3), (5, .int .i64 s_13)]) (fun t => match t with | .inl x_ => (fun rr_ ex e w => ex = .ret ∧ (fun e w => ∃ (c : Cx) (g : Nat → Value), w = c.w ∧ c0.le c ∧ Own c G (F) ∧ e = ups g [(4, .bool rr_)]) e w) x_ | .inr x_ => (fun o_13_ ex e w => ex = .exit 0 ∧ (fun e w => ∃ (c : Cx) (g : Nat → Value), w = c.w ∧ c0.le c ∧ Own c G (F) ∧ e = ups g []) e w) x_) ?_ h6 ?_ ?_
    · clear H7 h6
      intro s_13 xx_ ee_ ww_ H
      revert ee_ ww_
      rintro e_ w_ ⟨c8, g9, rfl, l8, O10, rfl⟩
      refine W.seq ?_
      refine sr ?_
      refine va (.int .i64 s_13) ?_
      refine va (v1) ?_
      refine WL.val0 (v := .int .i64 (p0.length : Int)) rfl (rx (by kernel_rfl) (run_len (ty := 3) Tryd.underlying25 (h2.mono l8) _)) ?_
      refine va (.bool (decide (s_13 < (p0.length : Int)))) ?_
      refine wln ?_
      refine W.cond (t := decide (s_13 < (p0.length : Int))) (by kernel_rfl) (fun h14 => ?_) (fun h14 => ?_)
      · have H := it h14 H
        refine W.skip ?_
        refine nrm ?_
        refine W.seq ?_
        refine W.block ?_
        refine W.seq ?_
        refine W.regionD [] (Kp G0 []) O10 (by kernel_rfl) ?_
        intro c15 l15 O16
        have p17 : Kp G0 [] c15 := Kp.nil0
        refine ta 0 (v1) ?_
        refine ta 1 (.int .i64 s_13) ?_
        obtain ⟨x_21, h18, H⟩ := bs H
        obtain ⟨l_19, h20, m21⟩ := Sl.at (h2.mono (l8.trans l15)) (idx_get h18)
        obtain rfl := h20
        refine AC.take 2 (.pointer (some ⟨sb v1, so v1 + s_13.toNat * 1, none⟩)) rfl (by kernel_rfl) (by kernel_rfl) (fun c' hle => (rx (by kernel_rfl) (run_index (k := .i64) Tryd.underlying25 (by kernel_rfl) (h2.mono (l8.trans l15)) h18 _))) ?_
        refine AC.take 3 (.int .i32 x_21) rfl (by kernel_rfl) (by kernel_rfl) (fun c' hle => (rx (by kernel_rfl) (run_load1 Tryd.underlying21 rfl ((fun j u hu => (m21 j u hu).mono hle) 0 _ rfl)))) ?_
        refine ta 4 (v3) ?_
        refine ta 5 (.int .i64 s_13) ?_
        obtain ⟨x_25, h22, H⟩ := bs H
        obtain ⟨l_23, h24, m25⟩ := Sl.at (h4.mono (l8.trans l15)) (idx_get h22)
        obtain rfl := h24
        refine AC.take 6 (.pointer (some ⟨sb v3, so v3 + s_13.toNat * 1, none⟩)) rfl (by kernel_rfl) (by kernel_rfl) (fun c' hle => (rx (by kernel_rfl) (run_index (k := .i64) Tryd.underlying25 (by kernel_rfl) (h4.mono (l8.trans l15)) h22 _))) ?_
        refine AC.take 7 (.int .i32 x_25) rfl (by kernel_rfl) (by kernel_rfl) (fun c' hle => (rx (by kernel_rfl) (run_load1 Tryd.underlying21 rfl ((fun j u hu => (m25 j u hu).mono hle) 0 _ rfl)))) ?_
        refine ta 8 (.bool (x_21 != x_25)) ?_
        refine AC.done (by kernel_rfl) ?_
        refine nrm ?_
        refine W.cond (t := x_21 != x_25) (by kernel_rfl) (fun h26 => ?_) (fun h26 => ?_)
        · have H := it h26 H
          refine sr ?_
          refine va (.bool false) ?_
          refine wln ?_
          refine W.ret ?_
          refine bkr ?_
          refine thr ?_
          obtain rfl := Option.some.inj H
          refine ⟨_, rfl, ?_⟩
          refine ⟨rfl, ?_⟩
          exact ⟨c15, _, rfl, (l8.trans l15), O16, ups_self ⟨rfl, trivial⟩⟩
        · have H := ie h26 H
          refine W.skip ?_
          refine bkn ?_
          refine nrm ?_
          refine W.region ?_
          refine va (.int .i64 s_13) ?_
          refine va (.int .i64 (w64 (s_13 + 1))) ?_
          refine va (.int .i64 (w64 (s_13 + 1))) ?_
          refine WL.nil ?_
          obtain rfl := Option.some.inj H
          refine ⟨_, rfl, ?_⟩
          exact ⟨c15, _, rfl, (l8.trans l15), O16, ups_self ⟨rfl, rfl, rfl, trivial⟩⟩
      · have H := ie h14 H
        refine W.exit ?_
        refine thx ?_
        obtain rfl := Option.some.inj H
        refine ⟨_, rfl, rfl, ?_⟩
        exact ⟨c8, _, rfl, l8, O10, ups_self trivial⟩
    · skip
      exact ⟨c0, _, rfl, (Cx.le.refl _), O0, ups_self ⟨rfl, rfl, rfl, trivial⟩⟩
    · skip
      rcases o_13 with o_13 | o_13
      · skip
        intro ex_; revert ex_
        rintro _ e_ w_ ⟨rfl, c27, g28, rfl, l27, O29, rfl⟩
        refine bkr ?_
        refine thr ?_
        obtain rfl := Option.some.inj H7
        exact ret1 (v := .bool o_13) rfl (by kernel_rfl) ⟨_, c27, rfl, rfl, l27, O29, rfl⟩
      · skip
        rintro _ e_ w_ ⟨rfl, c33, g34, rfl, l33, O35, rfl⟩
        refine bke ?_
        refine nrm ?_
        refine sr ?_
        refine va (.bool true) ?_
        refine wln ?_
        refine W.ret ?_
        obtain rfl := Option.some.inj H7
        exact ret1 (v := .bool true) rfl (by kernel_rfl) ⟨_, c33, rfl, rfl, l33, O35, rfl⟩

def f_linotyperef23_Right (p0 : G_api_Cell) : Option (Bool) :=
  (orE (p0.Kind == 0) (some (p0.Kind == 3))).bind fun d_7 =>
  if d_7 = true then
  some ((p0.Text.length : Int) == 0)
  else
  (andE (p0.Kind != 1) (some (p0.Kind != 2))).bind fun d_22 =>
  (orE d_22 (some (decide ((p0.Text.length : Int) < 1)))).bind fun d_27 =>
  (orE d_27 (some (decide ((p0.Text.length : Int) > 16)))).bind fun d_33 =>
  if d_33 = true then
  some false
  else
  (iter (σ := Int) (τ := Bool ⊕ Unit) (((p0.Text.length : Int) - 0).toNat + 1) (fun s_44 =>
  if (decide (s_44 < (p0.Text.length : Int))) = true then
  (idx p0.Text s_44).bind fun x_54 =>
  (f_linotyperef01_Valid x_54).bind fun x_56 =>
  if (!x_56) = true then
  some (.inr (.inl false))
  else
  some (.inl ((w64 (s_44 + 1))))
  else
  some (.inr (.inr ()))) (0)).bind fun o_44 =>
  match o_44 with
  | .inl o_44 =>
  some o_44
  | .inr o_44 =>
  some true
theorem c_linotyperef23_Right {c0 : Cx} {G : Gm} {F : List En} {v1 : Value} (O0 : Own c0 G F) (p0 : G_api_Cell) {r : Bool} (h2 : Sl (RI .i32) c0 v1 p0.Text) (H : f_linotyperef23_Right p0 = some r) :
    Calls Tryd.prog 95 #[.agg #[.int .i64 p0.Kind, v1]] c0.w (Post c0 fun c v => Own c G (F) ∧ v = .bool r) := by
  unfold f_linotyperef23_Right at H
  refine enter (l := [.agg #[.int .i64 p0.Kind, v1]]) Tryd.func95 rfl rfl rfl ?_
  refine sr ?_
  obtain ⟨a3, a4, a5, rfl⟩ := (h2).form
  refine WL.mem rfl (Own.bx (T := 27) (vs := [.int .i64 p0.Kind, .slice a3 a4 a5]) O0 (by kernel_rfl)) ?_
  rintro v10 c9 l9 ⟨b6, rfl, O7, m8⟩
  refine va (.bool false) ?_
  refine wln ?_
  refine W.seq ?_
  refine W.seq ?_
  obtain ⟨d_7, h11, H⟩ := bs H
  refine W.join (fun e w => ∃ (c : Cx) (g : Nat → Value), w = c.w ∧ c9.le c ∧ Own c G (F) ∧ e = ups g [(1, .pointer (some ⟨b6, 0, none⟩)), (11, .bool d_7)]) ?_ ?_
  · clear H
    refine W.region ?_
    refine va (.pointer (some ⟨b6, 0, none⟩)) ?_
    refine WL.val0 (v := .int .i64 p0.Kind) rfl (rx (by kernel_rfl) (run_load1 Tryd.underlying3 rfl (m8 0 _ rfl))) ?_
    refine va (.bool (p0.Kind == 0)) ?_
    rcases Bool.eq_false_or_eq_true (p0.Kind == 0) with h12 | h12
    · skip
      obtain rfl := orT h12 h11
      refine vb h12 ?_
      refine ps ?_
      refine ps ?_
      refine ps ?_
      refine va (.bool true) ?_
      refine wln ?_
      exact ⟨c9, _, rfl, (Cx.le.refl _), O7, ups_self ⟨rfl, rfl, trivial⟩⟩
    · skip
      have H13 := orF h12 h11
      refine vb h12 ?_
      refine wn ?_
      refine va (.pointer (some ⟨b6, 0, none⟩)) ?_
      refine wn ?_
      refine WL.val0 (v := .int .i64 p0.Kind) rfl (rx (by kernel_rfl) (run_load1 Tryd.underlying3 rfl (m8 0 _ rfl))) ?_
      refine wn ?_
      refine va (.bool (p0.Kind == 3)) ?_
      obtain rfl := Option.some.inj H13
      refine va (.bool (p0.Kind == 3)) ?_
      refine wln ?_
      exact ⟨c9, _, rfl, (Cx.le.refl _), O7, ups_self ⟨rfl, rfl, trivial⟩⟩
  · skip
    rintro e_ w_ ⟨c14, g15, rfl, l14, O16, rfl⟩
    refine nrm ?_
    refine W.cond (t := d_7) (by kernel_rfl) (fun h20 => ?_) (fun h20 => ?_)
    · have H := it h20 H
      refine sr ?_
      refine va (.pointer (some ⟨b6, 0 + 1, none⟩)) ?_
      refine WL.val0 (v := .slice a3 a4 a5) rfl (rx (by kernel_rfl) (run_load1 Tryd.underlying25 rfl ((fun j u hu => (m8 j u hu).mono l14) 1 _ rfl))) ?_
      refine WL.val0 (v := .int .i64 (p0.Text.length : Int)) rfl (rx (by kernel_rfl) (run_len (ty := 3) Tryd.underlying25 (h2.mono (l9.trans l14)) _)) ?_
      refine va (.bool ((p0.Text.length : Int) == 0)) ?_
      refine va (.bool ((p0.Text.length : Int) == 0)) ?_
      refine wln ?_
      refine W.ret ?_
      refine thr ?_
      obtain rfl := Option.some.inj H
      exact ret1 (v := .bool ((p0.Text.length : Int) == 0)) rfl (by kernel_rfl) ⟨_, c14, rfl, rfl, (l9.trans l14), O16, rfl⟩
    · have H := ie h20 H
      refine W.skip ?_
      refine nrm ?_
      refine W.seq ?_
      refine W.seq ?_
      obtain ⟨d_22, h21, H⟩ := bs H
      obtain ⟨d_27, h22, H⟩ := bs H
      obtain ⟨d_33, h23, H⟩ := bs H
      refine W.join (fun e w => ∃ (c : Cx) (g : Nat → Value), w = c.w ∧ c14.le c ∧ Own c G (F) ∧ e = ups g [(1, .pointer (some ⟨b6, 0, none⟩)), (35, .bool d_33)]) ?_ ?_
      · clear H
        refine W.region ?_
        refine va (.pointer (some ⟨b6, 0, none⟩)) ?_
        refine WL.val0 (v := .int .i64 p0.Kind) rfl (rx (by kernel_rfl) (run_load1 Tryd.underlying3 rfl ((fun j u hu => (m8 j u hu).mono l14) 0 _ rfl))) ?_
        refine va (.bool (p0.Kind != 1)) ?_
        rcases Bool.eq_false_or_eq_true (p0.Kind != 1) with h24 | h24
        · skip
          have H25 := anT h24 h21
          refine vb h24 ?_
          refine wn ?_
          refine va (.pointer (some ⟨b6, 0, none⟩)) ?_
          refine wn ?_
          refine WL.val0 (v := .int .i64 p0.Kind) rfl (rx (by kernel_rfl) (run_load1 Tryd.underlying3 rfl ((fun j u hu => (m8 j u hu).mono l14) 0 _ rfl))) ?_
          refine wn ?_
          refine va (.bool (p0.Kind != 2)) ?_
          obtain rfl := Option.some.inj H25
          refine va (.bool (p0.Kind != 2)) ?_
          rcases Bool.eq_false_or_eq_true (p0.Kind != 2) with h26 | h26
          · skip
            obtain rfl := orT h26 h22
            refine vb h26 ?_
            refine ps ?_
            refine ps ?_
            refine ps ?_
            refine ps ?_
            refine va (.bool true) ?_
            have h27 : true = true := rfl
            obtain rfl := orT h27 h23
            refine vb h27 ?_
            refine ps ?_
            refine ps ?_
            refine ps ?_
            refine ps ?_
            refine va (.bool true) ?_
            refine wln ?_
            exact ⟨c14, _, rfl, (Cx.le.refl _), O16, ups_self ⟨rfl, rfl, trivial⟩⟩
          · skip
            have H28 := orF h26 h22
            refine vb h26 ?_
            refine wn ?_
            refine va (.pointer (some ⟨b6, 0 + 1, none⟩)) ?_
            refine wn ?_
            refine WL.val0 (v := .slice a3 a4 a5) rfl (rx (by kernel_rfl) (run_load1 Tryd.underlying25 rfl ((fun j u hu => (m8 j u hu).mono l14) 1 _ rfl))) ?_
            refine wn ?_
            refine WL.val0 (v := .int .i64 (p0.Text.length : Int)) rfl (rx (by kernel_rfl) (run_len (ty := 3) Tryd.underlying25 (h2.mono (l9.trans l14)) _)) ?_
            refine wn ?_
            refine va (.bool (decide ((p0.Text.length : Int) < 1))) ?_
            obtain rfl := Option.some.inj H28
            refine va (.bool (decide ((p0.Text.length : Int) < 1))) ?_
            rcases Bool.eq_false_or_eq_true (decide ((p0.Text.length : Int) < 1)) with h29 | h29
            · skip
              obtain rfl := orT h29 h23
              refine vb h29 ?_
              refine ps ?_
              refine ps ?_
              refine ps ?_
              refine ps ?_
              refine va (.bool true) ?_
              refine wln ?_
              exact ⟨c14, _, rfl, (Cx.le.refl _), O16, ups_self ⟨rfl, rfl, trivial⟩⟩
            · skip
              have H30 := orF h29 h23
              refine vb h29 ?_
              refine wn ?_
              refine va (.pointer (some ⟨b6, 0 + 1, none⟩)) ?_
              refine wn ?_
              refine WL.val0 (v := .slice a3 a4 a5) rfl (rx (by kernel_rfl) (run_load1 Tryd.underlying25 rfl ((fun j u hu => (m8 j u hu).mono l14) 1 _ rfl))) ?_
              refine wn ?_
              refine WL.val0 (v := .int .i64 (p0.Text.length : Int)) rfl (rx (by kernel_rfl) (run_len (ty := 3) Tryd.underlying25 (h2.mono (l9.trans l14)) _)) ?_
              refine wn ?_
              refine va (.bool (decide ((p0.Text.length : Int) > 16))) ?_
              obtain rfl := Option.some.inj H30
              refine va (.bool (decide ((p0.Text.length : Int) > 16))) ?_
              refine wln ?_
              exact ⟨c14, _, rfl, (Cx.le.refl _), O16, ups_self ⟨rfl, rfl, trivial⟩⟩
        · skip
          obtain rfl := anF h24 h21
          refine vb h24 ?_
          refine ps ?_
          refine ps ?_
          refine ps ?_
          refine va (.bool false) ?_
          have h31 : false = false := rfl
          have H32 := orF h31 h22
          refine vb h31 ?_
          refine wn ?_
          refine va (.pointer (some ⟨b6, 0 + 1, none⟩)) ?_
          refine wn ?_
          refine WL.val0 (v := .slice a3 a4 a5) rfl (rx (by kernel_rfl) (run_load1 Tryd.underlying25 rfl ((fun j u hu => (m8 j u hu).mono l14) 1 _ rfl))) ?_
          refine wn ?_
          refine WL.val0 (v := .int .i64 (p0.Text.length : Int)) rfl (rx (by kernel_rfl) (run_len (ty := 3) Tryd.underlying25 (h2.mono (l9.trans l14)) _)) ?_
          refine wn ?_
          refine va (.bool (decide ((p0.Text.length : Int) < 1))) ?_
          obtain rfl := Option.some.inj H32
          refine va (.bool (decide ((p0.Text.length : Int) < 1))) ?_
          rcases Bool.eq_false_or_eq_true (decide ((p0.Text.length : Int) < 1)) with h33 | h33
          · skip
            obtain rfl := orT h33 h23
            refine vb h33 ?_
            refine ps ?_
            refine ps ?_
            refine ps ?_
            refine ps ?_
            refine va (.bool true) ?_
            refine wln ?_
            exact ⟨c14, _, rfl, (Cx.le.refl _), O16, ups_self ⟨rfl, rfl, trivial⟩⟩
          · skip
            have H34 := orF h33 h23
            refine vb h33 ?_
            refine wn ?_
            refine va (.pointer (some ⟨b6, 0 + 1, none⟩)) ?_
            refine wn ?_
            refine WL.val0 (v := .slice a3 a4 a5) rfl (rx (by kernel_rfl) (run_load1 Tryd.underlying25 rfl ((fun j u hu => (m8 j u hu).mono l14) 1 _ rfl))) ?_
            refine wn ?_
            refine WL.val0 (v := .int .i64 (p0.Text.length : Int)) rfl (rx (by kernel_rfl) (run_len (ty := 3) Tryd.underlying25 (h2.mono (l9.trans l14)) _)) ?_
            refine wn ?_
            refine va (.bool (decide ((p0.Text.length : Int) > 16))) ?_
            obtain rfl := Option.some.inj H34
            refine va (.bool (decide ((p0.Text.length : Int) > 16))) ?_
            refine wln ?_
            exact ⟨c14, _, rfl, (Cx.le.refl _), O16, ups_self ⟨rfl, rfl, trivial⟩⟩
      · skip
        rintro e_ w_ ⟨c35, g36, rfl, l35, O37, rfl⟩
        refine nrm ?_
        refine W.cond (t := d_33) (by kernel_rfl) (fun h41 => ?_) (fun h41 => ?_)
        · have H := it h41 H
          refine sr ?_
          refine va (.bool false) ?_
          refine wln ?_
          refine W.ret ?_
          refine thr ?_
          obtain rfl := Option.some.inj H
          exact ret1 (v := .bool false) rfl (by kernel_rfl) ⟨_, c35, rfl, rfl, (l9.trans (l14.trans l35)), O37, rfl⟩
        · have H := ie h41 H
          refine W.skip ?_
          refine nrm ?_
          refine W.seq ?_
          refine sr ?_
          refine va (.int .i64 0) ?_
          refine wln ?_
          refine W.block ?_
          obtain ⟨o_44, h42, H43⟩ := bs H
          refine W.loop (σ := Int) (τ := Bool ⊕ Unit) (fun s_44 => fun e w => ∃ (c : Cx) (g : Nat → Value), w = c.w ∧ c35.le c ∧ Own c G (F) ∧ e = ups g [(1, .pointer (some ⟨b6, 0, none⟩)), (3, .int .i64 s_44)]) (fun t => match t with | .inl x_ => (fun rr_ ex e w => ex = .ret ∧ (fun e w => ∃ (c : Cx) (g : Nat → Value), w = c.w ∧ c35.le c ∧ Own c G (F) ∧ e = ups g [(2, .bool rr_)]) e w) x_ | .inr x_ => (fun o_44_ ex e w => ex = .exit 0 ∧ (fun e w => ∃ (c : Cx) (g : Nat → Value), w = c.w ∧ c35.le c ∧ Own c G (F) ∧ e = ups g []) e w) x_) ?_ h42 ?_ ?_
          · clear H43 h42
            intro s_44 xx_ ee_ ww_ H
            revert ee_ ww_
            rintro e_ w_ ⟨c44, g45, rfl, l44, O46, rfl⟩
            refine W.seq ?_
            refine sr ?_
            refine va (.int .i64 s_44) ?_
            refine va (.pointer (some ⟨b6, 0 + 1, none⟩)) ?_
            refine WL.val0 (v := .slice a3 a4 a5) rfl (rx (by kernel_rfl) (run_load1 Tryd.underlying25 rfl ((fun j u hu => (m8 j u hu).mono (l14.trans (l35.trans l44))) 1 _ rfl))) ?_
            refine WL.val0 (v := .int .i64 (p0.Text.length : Int)) rfl (rx (by kernel_rfl) (run_len (ty := 3) Tryd.underlying25 (h2.mono (l9.trans (l14.trans (l35.trans l44)))) _)) ?_
            refine va (.bool (decide (s_44 < (p0.Text.length : Int)))) ?_
            refine wln ?_
            refine W.cond (t := decide (s_44 < (p0.Text.length : Int))) (by kernel_rfl) (fun h50 => ?_) (fun h50 => ?_)
            · have H := it h50 H
              refine W.skip ?_
              refine nrm ?_
              refine W.seq ?_
              refine W.block ?_
              refine sr ?_
              refine va (.pointer (some ⟨b6, 0 + 1, none⟩)) ?_
              refine WL.val0 (v := .slice a3 a4 a5) rfl (rx (by kernel_rfl) (run_load1 Tryd.underlying25 rfl ((fun j u hu => (m8 j u hu).mono (l14.trans (l35.trans l44))) 1 _ rfl))) ?_
              refine va (.int .i64 s_44) ?_
              obtain ⟨x_54, h51, H⟩ := bs H
              obtain ⟨l_52, h53, m54⟩ := Sl.at (h2.mono (l9.trans (l14.trans (l35.trans l44)))) (idx_get h51)
              obtain rfl := h53
              refine WL.val0 (v := .pointer (some ⟨sb (.slice a3 a4 a5), so (.slice a3 a4 a5) + s_44.toNat * 1, none⟩)) rfl (rx (by kernel_rfl) (run_index (k := .i64) Tryd.underlying25 (by kernel_rfl) (h2.mono (l9.trans (l14.trans (l35.trans l44)))) h51 _)) ?_
              refine WL.val0 (v := .int .i32 x_54) rfl (rx (by kernel_rfl) (run_load1 Tryd.underlying21 rfl (m54 0 _ rfl))) ?_
              obtain ⟨x_56, h55, H⟩ := bs H
              refine WL.callP rfl (by kernel_rfl) (c_linotyperef01_Valid O46 x_54 h55) ?_
              rintro v61 c60 l60 ⟨O57, rfl⟩
              refine va (.bool (!x_56)) ?_
              refine wln ?_
              refine W.cond (t := !x_56) (by kernel_rfl) (fun h62 => ?_) (fun h62 => ?_)
              · have H := it h62 H
                refine sr ?_
                refine va (.bool false) ?_
                refine wln ?_
                refine W.ret ?_
                refine bkr ?_
                refine thr ?_
                obtain rfl := Option.some.inj H
                refine ⟨_, rfl, ?_⟩
                refine ⟨rfl, ?_⟩
                exact ⟨c60, _, rfl, (l44.trans l60), O57, ups_self ⟨rfl, trivial⟩⟩
              · have H := ie h62 H
                refine W.skip ?_
                refine bkn ?_
                refine nrm ?_
                refine W.region ?_
                refine va (.int .i64 s_44) ?_
                refine va (.int .i64 (w64 (s_44 + 1))) ?_
                refine va (.int .i64 (w64 (s_44 + 1))) ?_
                refine WL.nil ?_
                obtain rfl := Option.some.inj H
                refine ⟨_, rfl, ?_⟩
                exact ⟨c60, _, rfl, (l44.trans l60), O57, ups_self ⟨rfl, rfl, trivial⟩⟩
            · have H := ie h50 H
              refine W.exit ?_
              refine thx ?_
              obtain rfl := Option.some.inj H
              refine ⟨_, rfl, rfl, ?_⟩
              exact ⟨c44, _, rfl, l44, O46, ups_self trivial⟩
          · skip
            exact ⟨c35, _, rfl, (Cx.le.refl _), O37, ups_self ⟨rfl, rfl, trivial⟩⟩
          · skip
            rcases o_44 with o_44 | o_44
            · skip
              intro ex_; revert ex_
              rintro _ e_ w_ ⟨rfl, c63, g64, rfl, l63, O65, rfl⟩
              refine bkr ?_
              refine thr ?_
              obtain rfl := Option.some.inj H43
              exact ret1 (v := .bool o_44) rfl (by kernel_rfl) ⟨_, c63, rfl, rfl, (l9.trans (l14.trans (l35.trans l63))), O65, rfl⟩
            · skip
              rintro _ e_ w_ ⟨rfl, c69, g70, rfl, l69, O71, rfl⟩
              refine bke ?_
              refine nrm ?_
              refine sr ?_
              refine va (.bool true) ?_
              refine wln ?_
              refine W.ret ?_
              obtain rfl := Option.some.inj H43
              exact ret1 (v := .bool true) rfl (by kernel_rfl) ⟨_, c69, rfl, rfl, (l9.trans (l14.trans (l35.trans l69))), O71, rfl⟩

def f_linotyperef23_Kind (p0 : List G_api_Cell) (p1 : Int) : Option (Int) :=
  (orE (decide (p1 < 0)) (some (decide (p1 ≥ (p0.length : Int))))).bind fun d_5 =>
  if d_5 = true then
  some 0
  else
  (idx p0 p1).bind fun x_16 =>
  some x_16.Kind
theorem c_linotyperef23_Kind {c0 : Cx} {G : Gm} {F : List En} {v1 : Value} (O0 : Own c0 G F) (p0 : List G_api_Cell) (p1 : Int) {r : Int} (h2 : Sl R_api_Cell c0 v1 p0) (H : f_linotyperef23_Kind p0 p1 = some r) :
    Calls Tryd.prog 96 #[v1, .int .i64 p1] c0.w (Post c0 fun c v => Own c G (F) ∧ v = .int .i64 r) := by
  unfold f_linotyperef23_Kind at H
  refine enter (l := [v1, .int .i64 p1]) Tryd.func96 rfl rfl rfl ?_
  refine sr ?_
  refine va (.int .i64 0) ?_
  refine wln ?_
  refine W.seq ?_
  refine W.seq ?_
  obtain ⟨d_5, h3, H⟩ := bs H
  refine W.join (fun e w => ∃ (c : Cx) (g : Nat → Value), w = c.w ∧ c0.le c ∧ Own c G (F) ∧ e = ups g [(0, v1), (1, .int .i64 p1), (12, .bool d_5)]) ?_ ?_
  · clear H
    refine W.region ?_
    refine va (.int .i64 p1) ?_
    refine va (.bool (decide (p1 < 0))) ?_
    rcases Bool.eq_false_or_eq_true (decide (p1 < 0)) with h4 | h4
    · skip
      obtain rfl := orT h4 h3
      refine vb h4 ?_
      refine ps ?_
      refine ps ?_
      refine ps ?_
      refine ps ?_
      refine va (.bool true) ?_
      refine wln ?_
      exact ⟨c0, _, rfl, (Cx.le.refl _), O0, ups_self ⟨rfl, rfl, rfl, trivial⟩⟩
    · skip
      have H5 := orF h4 h3
      refine vb h4 ?_
      refine wn ?_
      refine va (.int .i64 p1) ?_
      refine wn ?_
      refine va (v1) ?_
      refine wn ?_
      refine WL.val0 (v := .int .i64 (p0.length : Int)) rfl (rx (by kernel_rfl) (run_len (ty := 3) Tryd.underlying22 h2 _)) ?_
      refine wn ?_
      refine va (.bool (decide (p1 ≥ (p0.length : Int)))) ?_
      obtain rfl := Option.some.inj H5
      refine va (.bool (decide (p1 ≥ (p0.length : Int)))) ?_
      refine wln ?_
      exact ⟨c0, _, rfl, (Cx.le.refl _), O0, ups_self ⟨rfl, rfl, rfl, trivial⟩⟩
  · skip
    rintro e_ w_ ⟨c6, g7, rfl, l6, O8, rfl⟩
    refine nrm ?_
    refine W.cond (t := d_5) (by kernel_rfl) (fun h12 => ?_) (fun h12 => ?_)
    · have H := it h12 H
      refine sr ?_
      refine va (.int .i64 0) ?_
      refine wln ?_
      refine W.ret ?_
      refine thr ?_
      obtain rfl := Option.some.inj H
      exact ret1 (v := .int .i64 0) rfl (by kernel_rfl) ⟨_, c6, rfl, rfl, l6, O8, rfl⟩
    · have H := ie h12 H
      refine W.skip ?_
      refine nrm ?_
      refine sr ?_
      refine va (v1) ?_
      refine va (.int .i64 p1) ?_
      obtain ⟨x_16, h13, H⟩ := bs H
      obtain ⟨l_14, h15, m16⟩ := Sl.at (h2.mono l6) (idx_get h13)
      obtain ⟨v17, rfl, h18⟩ := h15
      refine WL.val0 (v := .pointer (some ⟨sb v1, so v1 + p1.toNat * 2, none⟩)) rfl (rx (by kernel_rfl) (run_index (k := .i64) Tryd.underlying22 (by kernel_rfl) (h2.mono l6) h13 _)) ?_
      refine va (.pointer (some ⟨sb v1, so v1 + p1.toNat * 2, none⟩)) ?_
      refine WL.val0 (v := .int .i64 x_16.Kind) rfl (rx (by kernel_rfl) (run_load1 Tryd.underlying3 rfl (m16 0 _ rfl))) ?_
      refine va (.int .i64 x_16.Kind) ?_
      refine wln ?_
      refine W.ret ?_
      obtain rfl := Option.some.inj H
      exact ret1 (v := .int .i64 x_16.Kind) rfl (by kernel_rfl) ⟨_, c6, rfl, rfl, l6, O8, rfl⟩

def f_linotyperef23_Sound (p0 : List G_api_Cell) : Option (Bool) :=
  (iter (σ := Int) (τ := Bool ⊕ Unit) (((p0.length : Int) - 0).toNat + 1) (fun s_5 =>
  if (decide (s_5 < (p0.length : Int))) = true then
  (idx p0 s_5).bind fun x_13 =>
  (f_linotyperef23_Right x_13).bind fun x_15 =>
  (orE (!x_15) ((idx p0 s_5).bind fun x_21 =>
  (andE (x_21.Kind == 2) ((f_linotyperef23_Kind p0 (w64 (s_5 + 1))).bind fun x_30 =>
  some (x_30 != 3))).bind fun d_25 =>
  some d_25)).bind fun d_17 =>
  (orE d_17 ((idx p0 s_5).bind fun x_36 =>
  (andE (x_36.Kind == 3) ((f_linotyperef23_Kind p0 (w64 (s_5 - 1))).bind fun x_45 =>
  some (x_45 != 2))).bind fun d_40 =>
  some d_40)).bind fun d_32 =>
  if d_32 = true then
  some (.inr (.inl false))
  else
  some (.inl ((w64 (s_5 + 1))))
  else
  some (.inr (.inr ()))) (0)).bind fun o_5 =>
  match o_5 with
  | .inl o_5 =>
  some o_5
  | .inr o_5 =>
  some true
theorem c_linotyperef23_Sound {c0 : Cx} {G : Gm} {F : List En} {v1 : Value} (O0 : Own c0 G F) (p0 : List G_api_Cell) {r : Bool} (h2 : Sl R_api_Cell c0 v1 p0) (H : f_linotyperef23_Sound p0 = some r) :
    Calls Tryd.prog 23 #[v1] c0.w (Post c0 fun c v => Own c G (F) ∧ v = .bool r) := by
  unfold f_linotyperef23_Sound at H
  refine enter (l := [v1]) Tryd.func23 rfl rfl rfl ?_
  refine sr ?_
  refine va (.bool false) ?_
  refine wln ?_
  refine W.seq ?_
  refine sr ?_
  refine va (.int .i64 0) ?_
  refine wln ?_
  refine W.block ?_
  obtain ⟨o_5, h3, H4⟩ := bs H
  refine W.loop (σ := Int) (τ := Bool ⊕ Unit) (fun s_5 => fun e w => ∃ (c : Cx) (g : Nat → Value), w = c.w ∧ c0.le c ∧ Own c G (F) ∧ e = ups g [(0, v1), (3, .int .i64 s_5)]) (fun t => match t with | .inl x_ => (fun rr_ ex e w => ex = .ret ∧ (fun e w => ∃ (c : Cx) (g : Nat → Value), w = c.w ∧ c0.le c ∧ Own c G (F) ∧ e = ups g [(2, .bool rr_)]) e w) x_ | .inr x_ => (fun o_5_ ex e w => ex = .exit 0 ∧ (fun e w => ∃ (c : Cx) (g : Nat → Value), w = c.w ∧ c0.le c ∧ Own c G (F) ∧ e = ups g []) e w) x_) ?_ h3 ?_ ?_
  · clear H4 h3
    intro s_5 xx_ ee_ ww_ H
    revert ee_ ww_
    rintro e_ w_ ⟨c5, g6, rfl, l5, O7, rfl⟩
    refine W.seq ?_
    refine sr ?_
    refine va (.int .i64 s_5) ?_
    refine va (v1) ?_
    refine WL.val0 (v := .int .i64 (p0.length : Int)) rfl (rx (by kernel_rfl) (run_len (ty := 3) Tryd.underlying22 (h2.mono l5) _)) ?_
    refine va (.bool (decide (s_5 < (p0.length : Int)))) ?_
    refine wln ?_
    refine W.cond (t := decide (s_5 < (p0.length : Int))) (by kernel_rfl) (fun h11 => ?_) (fun h11 => ?_)
    · have H := it h11 H
      refine W.skip ?_
      refine nrm ?_
      refine W.seq ?_
      refine W.block ?_
      refine W.seq ?_
      obtain ⟨x_13, h12, H⟩ := bs H
      obtain ⟨x_15, h13, H⟩ := bs H
      obtain ⟨d_17, h14, H⟩ := bs H
      obtain ⟨d_32, h15, H⟩ := bs H
      refine W.join (fun e w => ∃ (c : Cx) (g : Nat → Value), w = c.w ∧ c5.le c ∧ Own c G (F) ∧ e = ups g [(0, v1), (3, .int .i64 s_5), (45, .bool d_32)]) ?_ ?_
      · clear H
        refine W.region ?_
        refine va (v1) ?_
        refine va (.int .i64 s_5) ?_
        obtain ⟨l_16, h17, m18⟩ := Sl.at (h2.mono l5) (idx_get h12)
        obtain ⟨v19, rfl, h20⟩ := h17
        refine WL.val0 (v := .pointer (some ⟨sb v1, so v1 + s_5.toNat * 2, none⟩)) rfl (rx (by kernel_rfl) (run_index (k := .i64) Tryd.underlying22 (by kernel_rfl) (h2.mono l5) h12 _)) ?_
        refine WL.val0 (v := .agg #[.int .i64 x_13.Kind, v19]) rfl (rx (by kernel_rfl) (run_loadN (T := 27) (by kernel_rfl) (by kernel_rfl) m18)) ?_
        refine WL.callP rfl (by kernel_rfl) (c_linotyperef23_Right O7 x_13 h20 h13) ?_
        rintro v26 c25 l25 ⟨O22, rfl⟩
        refine va (.bool (!x_15)) ?_
        rcases Bool.eq_false_or_eq_true (!x_15) with h27 | h27
        · skip
          obtain rfl := orT h27 h14
          refine vb h27 ?_
          refine ps ?_
          refine ps ?_
          refine ps ?_
          refine ps ?_
          refine ps ?_
          refine ps ?_
          refine ps ?_
          refine ps ?_
          refine ps ?_
          refine ps ?_
          refine ps ?_
          refine ps ?_
          refine ps ?_
          refine va (.bool true) ?_
          have h28 : true = true := rfl
          obtain rfl := orT h28 h15
          refine vb h28 ?_
          refine ps ?_
          refine ps ?_
          refine ps ?_
          refine ps ?_
          refine ps ?_
          refine ps ?_
          refine ps ?_
          refine ps ?_
          refine ps ?_
          refine ps ?_
          refine ps ?_
          refine ps ?_
          refine ps ?_
          refine va (.bool true) ?_
          refine wln ?_
          exact ⟨c25, _, rfl, l25, O22, ups_self ⟨rfl, rfl, rfl, trivial⟩⟩
        · skip
          have H29 := orF h27 h14
          refine vb h27 ?_
          refine wn ?_
          refine va (v1) ?_
          refine wn ?_
          refine va (.int .i64 s_5) ?_
          refine wn ?_
          obtain ⟨x_21, h30, H29⟩ := bs H29
          obtain ⟨l_31, h32, m33⟩ := Sl.at (h2.mono (l5.trans l25)) (idx_get h30)
          obtain ⟨v34, rfl, h35⟩ := h32
          refine WL.val0 (v := .pointer (some ⟨sb v1, so v1 + s_5.toNat * 2, none⟩)) rfl (rx (by kernel_rfl) (run_index (k := .i64) Tryd.underlying22 (by kernel_rfl) (h2.mono (l5.trans l25)) h30 _)) ?_
          refine wn ?_
          refine va (.pointer (some ⟨sb v1, so v1 + s_5.toNat * 2, none⟩)) ?_
          refine wn ?_
          refine WL.val0 (v := .int .i64 x_21.Kind) rfl (rx (by kernel_rfl) (run_load1 Tryd.underlying3 rfl (m33 0 _ rfl))) ?_
          refine wn ?_
          refine va (.bool (x_21.Kind == 2)) ?_
          refine wn ?_
          obtain ⟨d_25, h36, H29⟩ := bs H29
          rcases Bool.eq_false_or_eq_true (x_21.Kind == 2) with h37 | h37
          · skip
            have H38 := anT h37 h36
            refine vb h37 ?_
            refine wn ?_
            refine va (v1) ?_
            refine wn ?_
            refine va (.int .i64 s_5) ?_
            refine wn ?_
            refine va (.int .i64 (w64 (s_5 + 1))) ?_
            refine wn ?_
            obtain ⟨x_30, h39, H38⟩ := bs H38
            refine WL.callP rfl (by kernel_rfl) (c_linotyperef23_Kind O22 p0 (w64 (s_5 + 1)) (h2.mono (l5.trans l25)) h39) ?_
            rintro v45 c44 l44 ⟨O41, rfl⟩
            refine wn ?_
            refine va (.bool (x_30 != 3)) ?_
            refine wn ?_
            obtain rfl := Option.some.inj H38
            refine va (.bool (x_30 != 3)) ?_
            obtain rfl := Option.some.inj H29
            refine va (.bool (x_30 != 3)) ?_
            rcases Bool.eq_false_or_eq_true (x_30 != 3) with h46 | h46
            · skip
              obtain rfl := orT h46 h15
              refine vb h46 ?_
              refine ps ?_
              refine ps ?_
              refine ps ?_
              refine ps ?_
              refine ps ?_
              refine ps ?_
              refine ps ?_
              refine ps ?_
              refine ps ?_
              refine ps ?_
              refine ps ?_
              refine ps ?_
              refine ps ?_
              refine va (.bool true) ?_
              refine wln ?_
              exact ⟨c44, _, rfl, (l25.trans l44), O41, ups_self ⟨rfl, rfl, rfl, trivial⟩⟩
            · skip
              have H47 := orF h46 h15
              refine vb h46 ?_
              refine wn ?_
              refine va (v1) ?_
              refine wn ?_
              refine va (.int .i64 s_5) ?_
              refine wn ?_
              obtain ⟨x_36, h48, H47⟩ := bs H47
              obtain ⟨l_49, h50, m51⟩ := Sl.at (h2.mono (l5.trans (l25.trans l44))) (idx_get h48)
              obtain ⟨v52, rfl, h53⟩ := h50
              refine WL.val0 (v := .pointer (some ⟨sb v1, so v1 + s_5.toNat * 2, none⟩)) rfl (rx (by kernel_rfl) (run_index (k := .i64) Tryd.underlying22 (by kernel_rfl) (h2.mono (l5.trans (l25.trans l44))) h48 _)) ?_
              refine wn ?_
              refine va (.pointer (some ⟨sb v1, so v1 + s_5.toNat * 2, none⟩)) ?_
              refine wn ?_
              refine WL.val0 (v := .int .i64 x_36.Kind) rfl (rx (by kernel_rfl) (run_load1 Tryd.underlying3 rfl (m51 0 _ rfl))) ?_
              refine wn ?_
              refine va (.bool (x_36.Kind == 3)) ?_
              refine wn ?_
              obtain ⟨d_40, h54, H47⟩ := bs H47
              rcases Bool.eq_false_or_eq_true (x_36.Kind == 3) with h55 | h55
              · skip
                have H56 := anT h55 h54
                refine vb h55 ?_
                refine wn ?_
                refine va (v1) ?_
                refine wn ?_
                refine va (.int .i64 s_5) ?_
                refine wn ?_
                refine va (.int .i64 (w64 (s_5 - 1))) ?_
                refine wn ?_
                obtain ⟨x_45, h57, H56⟩ := bs H56
                refine WL.callP rfl (by kernel_rfl) (c_linotyperef23_Kind O41 p0 (w64 (s_5 - 1)) (h2.mono (l5.trans (l25.trans l44))) h57) ?_
                rintro v63 c62 l62 ⟨O59, rfl⟩
                refine wn ?_
                refine va (.bool (x_45 != 2)) ?_
                refine wn ?_
                obtain rfl := Option.some.inj H56
                refine va (.bool (x_45 != 2)) ?_
                obtain rfl := Option.some.inj H47
                refine va (.bool (x_45 != 2)) ?_
                refine wln ?_
                exact ⟨c62, _, rfl, (l25.trans (l44.trans l62)), O59, ups_self ⟨rfl, rfl, rfl, trivial⟩⟩
              · skip
                obtain rfl := anF h55 h54
                refine vb h55 ?_
                refine ps ?_
                refine ps ?_
                refine ps ?_
                refine ps ?_
                refine ps ?_
                refine wn ?_
                refine va (.bool false) ?_
                obtain rfl := Option.some.inj H47
                refine va (.bool false) ?_
                refine wln ?_
                exact ⟨c44, _, rfl, (l25.trans l44), O41, ups_self ⟨rfl, rfl, rfl, trivial⟩⟩
          · skip
            obtain rfl := anF h37 h36
            refine vb h37 ?_
            refine ps ?_
            refine ps ?_
            refine ps ?_
            refine ps ?_
            refine ps ?_
            refine wn ?_
            refine va (.bool false) ?_
            obtain rfl := Option.some.inj H29
            refine va (.bool false) ?_
            have h64 : false = false := rfl
            have H65 := orF h64 h15
            refine vb h64 ?_
            refine wn ?_
            refine va (v1) ?_
            refine wn ?_
            refine va (.int .i64 s_5) ?_
            refine wn ?_
            obtain ⟨x_36, h66, H65⟩ := bs H65
            obtain ⟨l_67, h68, m69⟩ := Sl.at (h2.mono (l5.trans l25)) (idx_get h66)
            obtain ⟨v70, rfl, h71⟩ := h68
            refine WL.val0 (v := .pointer (some ⟨sb v1, so v1 + s_5.toNat * 2, none⟩)) rfl (rx (by kernel_rfl) (run_index (k := .i64) Tryd.underlying22 (by kernel_rfl) (h2.mono (l5.trans l25)) h66 _)) ?_
            refine wn ?_
            refine va (.pointer (some ⟨sb v1, so v1 + s_5.toNat * 2, none⟩)) ?_
            refine wn ?_
            refine WL.val0 (v := .int .i64 x_36.Kind) rfl (rx (by kernel_rfl) (run_load1 Tryd.underlying3 rfl (m69 0 _ rfl))) ?_
            refine wn ?_
            refine va (.bool (x_36.Kind == 3)) ?_
            refine wn ?_
            obtain ⟨d_40, h72, H65⟩ := bs H65
            rcases Bool.eq_false_or_eq_true (x_36.Kind == 3) with h73 | h73
            · skip
              have H74 := anT h73 h72
              refine vb h73 ?_
              refine wn ?_
              refine va (v1) ?_
              refine wn ?_
              refine va (.int .i64 s_5) ?_
              refine wn ?_
              refine va (.int .i64 (w64 (s_5 - 1))) ?_
              refine wn ?_
              obtain ⟨x_45, h75, H74⟩ := bs H74
              refine WL.callP rfl (by kernel_rfl) (c_linotyperef23_Kind O22 p0 (w64 (s_5 - 1)) (h2.mono (l5.trans l25)) h75) ?_
              rintro v81 c80 l80 ⟨O77, rfl⟩
              refine wn ?_
              refine va (.bool (x_45 != 2)) ?_
              refine wn ?_
              obtain rfl := Option.some.inj H74
              refine va (.bool (x_45 != 2)) ?_
              obtain rfl := Option.some.inj H65
              refine va (.bool (x_45 != 2)) ?_
              refine wln ?_
              exact ⟨c80, _, rfl, (l25.trans l80), O77, ups_self ⟨rfl, rfl, rfl, trivial⟩⟩
            · skip
              obtain rfl := anF h73 h72
              refine vb h73 ?_
              refine ps ?_
              refine ps ?_
              refine ps ?_
              refine ps ?_
              refine ps ?_
              refine wn ?_
              refine va (.bool false) ?_
              obtain rfl := Option.some.inj H65
              refine va (.bool false) ?_
              refine wln ?_
              exact ⟨c25, _, rfl, l25, O22, ups_self ⟨rfl, rfl, rfl, trivial⟩⟩
      · skip
        rintro e_ w_ ⟨c82, g83, rfl, l82, O84, rfl⟩
        refine nrm ?_
        refine W.cond (t := d_32) (by kernel_rfl) (fun h88 => ?_) (fun h88 => ?_)
        · have H := it h88 H
          refine sr ?_
          refine va (.bool false) ?_
          refine wln ?_
          refine W.ret ?_
          refine bkr ?_
          refine thr ?_
          obtain rfl := Option.some.inj H
          refine ⟨_, rfl, ?_⟩
          refine ⟨rfl, ?_⟩
          exact ⟨c82, _, rfl, (l5.trans l82), O84, ups_self ⟨rfl, trivial⟩⟩
        · have H := ie h88 H
          refine W.skip ?_
          refine bkn ?_
          refine nrm ?_
          refine W.region ?_
          refine va (.int .i64 s_5) ?_
          refine va (.int .i64 (w64 (s_5 + 1))) ?_
          refine va (.int .i64 (w64 (s_5 + 1))) ?_
          refine WL.nil ?_
          obtain rfl := Option.some.inj H
          refine ⟨_, rfl, ?_⟩
          exact ⟨c82, _, rfl, (l5.trans l82), O84, ups_self ⟨rfl, rfl, trivial⟩⟩
    · have H := ie h11 H
      refine W.exit ?_
      refine thx ?_
      obtain rfl := Option.some.inj H
      refine ⟨_, rfl, rfl, ?_⟩
      exact ⟨c5, _, rfl, l5, O7, ups_self trivial⟩
  · skip
    exact ⟨c0, _, rfl, (Cx.le.refl _), O0, ups_self ⟨rfl, rfl, trivial⟩⟩
  · skip
    rcases o_5 with o_5 | o_5
    · skip
      intro ex_; revert ex_
      rintro _ e_ w_ ⟨rfl, c89, g90, rfl, l89, O91, rfl⟩
      refine bkr ?_
      refine thr ?_
      obtain rfl := Option.some.inj H4
      exact ret1 (v := .bool o_5) rfl (by kernel_rfl) ⟨_, c89, rfl, rfl, l89, O91, rfl⟩
    · skip
      rintro _ e_ w_ ⟨rfl, c95, g96, rfl, l95, O97, rfl⟩
      refine bke ?_
      refine nrm ?_
      refine sr ?_
      refine va (.bool true) ?_
      refine wln ?_
      refine W.ret ?_
      obtain rfl := Option.some.inj H4
      exact ret1 (v := .bool true) rfl (by kernel_rfl) ⟨_, c95, rfl, rfl, l95, O97, rfl⟩

def f_linotyperef23_Of (p0 : Int) (p1 : List Int) : Option (List G_api_Cell) :=
  (iter (σ := (List Int) × Int) (τ := (List Int)) (((p1.length : Int) - 0).toNat + 1) (fun s_7 =>
  (andE (decide (s_7.2 < (p1.length : Int))) (some (decide (s_7.2 < 16)))).bind fun d_12 =>
  if d_12 = true then
  ((idx p1 s_7.2).bind fun x_20 =>
  (f_linotyperef01_Valid x_20).bind fun x_22 =>
  if x_22 = true then
  (idx p1 s_7.2).bind fun x_27 =>
  (app s_7.1 ([x_27] : List Int)).bind fun x_30 =>
  (some (x_30) : Option ((List Int)))
  else
  (app s_7.1 ([65533] : List Int)).bind fun x_35 =>
  (some (x_35) : Option ((List Int)))).bind fun z_17 =>
  some (.inl (z_17, (w64 (s_7.2 + 1))))
  else
  some (.inr (s_7.1))) (([] : List Int), 0)).bind fun o_7 =>
  (andE ((o_7.length : Int) == 0) (some (decide (p0 > 1)))).bind fun d_49 =>
  if d_49 = true then
  some ([(⟨0, ([] : List Int)⟩ : G_api_Cell), (⟨0, ([] : List Int)⟩ : G_api_Cell)] : List G_api_Cell)
  else
  if ((o_7.length : Int) == 0) = true then
  some ([(⟨0, ([] : List Int)⟩ : G_api_Cell)] : List G_api_Cell)
  else
  if (decide (p0 > 1)) = true then
  some ([(⟨2, o_7⟩ : G_api_Cell), (⟨3, ([] : List Int)⟩ : G_api_Cell)] : List G_api_Cell)
  else
  some ([(⟨1, o_7⟩ : G_api_Cell)] : List G_api_Cell)
theorem c_linotyperef23_Of {c0 : Cx} {G : Gm} {F : List En} {v1 : Value} (O0 : Own c0 G F) (p0 : Int) (p1 : List Int) {r : List G_api_Cell} (h2 : Sl (RI .i32) c0 v1 p1) (H : f_linotyperef23_Of p0 p1 = some r) :
    Calls Tryd.prog 51 #[.int .i64 p0, v1] c0.w (Post c0 fun c v => ∃ y1 : Value, ∃ y2 : List Value, Own c G (es true R_api_Cell y1 27 y2 r :: F) ∧ v = y1 ∧ OA R_api_Cell c y1 y2 r) := by
  unfold f_linotyperef23_Of at H
  refine enter (l := [.int .i64 p0, v1]) Tryd.func51 rfl rfl rfl ?_
  refine sr ?_
  refine va (.slice none 0 0) ?_
  refine wln ?_
  refine sr ?_
  refine va (.slice none 0 0) ?_
  refine wln ?_
  refine W.seq ?_
  refine sr ?_
  refine va (.int .i64 0) ?_
  refine wln ?_
  refine W.block ?_
  obtain ⟨o_7, h3, H4⟩ := bs H
  refine W.loop (σ := (List Int) × Int) (τ := (List Int)) (fun s_7 => fun e w => ∃ (c : Cx) (g : Nat → Value) (v5 : Value) (u6 : List Value), w = c.w ∧ c0.le c ∧ Own c G (es true (RI .i32) v5 21 u6 s_7.1 :: F) ∧ e = ups g [(0, .int .i64 p0), (1, v1), (5, v5), (6, .int .i64 s_7.2)] ∧ OA (RI .i32) c v5 u6 s_7.1) (fun o_7_ ex e w => ex = .exit 0 ∧ (fun e w => ∃ (c : Cx) (g : Nat → Value) (v7 : Value) (u8 : List Value), w = c.w ∧ c0.le c ∧ Own c G (es true (RI .i32) v7 21 u8 o_7_ :: F) ∧ e = ups g [(0, .int .i64 p0), (5, v7)] ∧ OA (RI .i32) c v7 u8 o_7_) e w) ?_ h3 ?_ ?_
  · clear H4 h3
    intro s_7 xx_ ee_ ww_ H
    revert ee_ ww_
    rintro e_ w_ ⟨c9, g10, v5, u6, rfl, l9, O11, rfl, h12⟩
    refine W.seq ?_
    refine W.seq ?_
    obtain ⟨d_12, h16, H⟩ := bs H
    refine W.join (fun e w => ∃ (c : Cx) (g : Nat → Value), w = c.w ∧ c9.le c ∧ Own c G (es true (RI .i32) v5 21 u6 s_7.1 :: F) ∧ e = ups g [(0, .int .i64 p0), (1, v1), (5, v5), (6, .int .i64 s_7.2), (15, .bool d_12)]) ?_ ?_
    · clear H
      refine W.region ?_
      refine va (.int .i64 s_7.2) ?_
      refine va (v1) ?_
      refine WL.val0 (v := .int .i64 (p1.length : Int)) rfl (rx (by kernel_rfl) (run_len (ty := 3) Tryd.underlying25 (h2.mono l9) _)) ?_
      refine va (.bool (decide (s_7.2 < (p1.length : Int)))) ?_
      rcases Bool.eq_false_or_eq_true (decide (s_7.2 < (p1.length : Int))) with h17 | h17
      · skip
        have H18 := anT h17 h16
        refine vb h17 ?_
        refine wn ?_
        refine va (.int .i64 s_7.2) ?_
        refine wn ?_
        refine va (.bool (decide (s_7.2 < 16))) ?_
        obtain rfl := Option.some.inj H18
        refine va (.bool (decide (s_7.2 < 16))) ?_
        refine wln ?_
        exact ⟨c9, _, rfl, (Cx.le.refl _), O11, ups_self ⟨rfl, rfl, rfl, rfl, rfl, trivial⟩⟩
      · skip
        obtain rfl := anF h17 h16
        refine vb h17 ?_
        refine ps ?_
        refine ps ?_
        refine va (.bool false) ?_
        refine wln ?_
        exact ⟨c9, _, rfl, (Cx.le.refl _), O11, ups_self ⟨rfl, rfl, rfl, rfl, rfl, trivial⟩⟩
    · skip
      rintro e_ w_ ⟨c19, g20, rfl, l19, O21, rfl⟩
      refine nrm ?_
      refine W.cond (t := d_12) (by kernel_rfl) (fun h25 => ?_) (fun h25 => ?_)
      · have H := it h25 H
        refine W.skip ?_
        refine nrm ?_
        obtain ⟨z_17, H26, H27⟩ := bs H
        refine W.seqJ (fun e w => ∃ (c : Cx) (g : Nat → Value) (v28 : Value) (u29 : List Value), w = c.w ∧ c19.le c ∧ Own c G (es true (RI .i32) v28 21 u29 z_17 :: F) ∧ e = ups g [(0, .int .i64 p0), (1, v1), (5, v28), (6, .int .i64 s_7.2)] ∧ OA (RI .i32) c v28 u29 z_17) ?_ ?_
        · skip
          refine W.block ?_
          refine sr ?_
          refine va (v1) ?_
          refine va (.int .i64 s_7.2) ?_
          obtain ⟨x_20, h30, H26⟩ := bs H26
          obtain ⟨l_31, h32, m33⟩ := Sl.at (h2.mono (l9.trans l19)) (idx_get h30)
          obtain rfl := h32
          refine WL.val0 (v := .pointer (some ⟨sb v1, so v1 + s_7.2.toNat * 1, none⟩)) rfl (rx (by kernel_rfl) (run_index (k := .i64) Tryd.underlying25 (by kernel_rfl) (h2.mono (l9.trans l19)) h30 _)) ?_
          refine WL.val0 (v := .int .i32 x_20) rfl (rx (by kernel_rfl) (run_load1 Tryd.underlying21 rfl (m33 0 _ rfl))) ?_
          obtain ⟨x_22, h34, H26⟩ := bs H26
          refine WL.callP rfl (by kernel_rfl) (c_linotyperef01_Valid O21 x_20 h34) ?_
          rintro v40 c39 l39 ⟨O36, rfl⟩
          refine wln ?_
          refine W.cond (t := x_22) (by kernel_rfl) (fun h41 => ?_) (fun h41 => ?_)
          · have H26 := it h41 H26
            refine W.region ?_
            refine va (v5) ?_
            refine va (v1) ?_
            refine va (.int .i64 s_7.2) ?_
            obtain ⟨x_27, h42, H26⟩ := bs H26
            obtain ⟨l_43, h44, m45⟩ := Sl.at (h2.mono (l9.trans (l19.trans l39))) (idx_get h42)
            obtain rfl := h44
            refine WL.val0 (v := .pointer (some ⟨sb v1, so v1 + s_7.2.toNat * 1, none⟩)) rfl (rx (by kernel_rfl) (run_index (k := .i64) Tryd.underlying25 (by kernel_rfl) (h2.mono (l9.trans (l19.trans l39))) h42 _)) ?_
            refine WL.val0 (v := .int .i32 x_27) rfl (rx (by kernel_rfl) (run_load1 Tryd.underlying21 rfl (m45 0 _ rfl))) ?_
            refine WL.mem rfl (Own.sl (R := (RI .i32)) (E := 21) (ls := [[.int .i32 x_27]]) (vs := [.int .i32 x_27]) (xs := ([x_27] : List Int)) true O36 (Nat.succ_pos _) rfl ⟨rfl, trivial⟩ (by kernel_rfl) (by kernel_rfl)) ?_
            rintro v50 c49 l49 ⟨u47, O46, h48⟩
            obtain ⟨c53, h54, l53, O51, h52⟩ := O46.frz 0 rfl h48
            refine WL.gh h54 ?_
            obtain ⟨x_30, h55, H26⟩ := bs H26
            refine WL.mem rfl (Own.app (R := (RI .i32)) (z := .int .i32 0) (by_ := 4) (ty := 25) 1 O51 rfl (h12.mono (l19.trans (l39.trans (l49.trans l53)))) h52 h55 Tryd.underlying25 (by kernel_rfl) rfl (by kernel_rfl) (by kernel_rfl)) ?_
            rintro v60 c59 l59 ⟨u57, O56, h58⟩
            refine va (v60) ?_
            refine WL.nil ?_
            refine bkn ?_
            refine nrm ?_
            obtain rfl := Option.some.inj H26
            have O61 := O56.selD 2 [1] (by kernel_rfl) (by kernel_rfl)
            exact ⟨c59, _, v60, u57, rfl, (l39.trans (l49.trans (l53.trans l59))), O61, ups_self ⟨rfl, rfl, rfl, rfl, trivial⟩, h58⟩
          · have H26 := ie h41 H26
            refine W.region ?_
            refine va (v5) ?_
            refine WL.mem rfl (Own.sl (R := (RI .i32)) (E := 21) (ls := [[.int .i32 65533]]) (vs := [.int .i32 65533]) (xs := ([65533] : List Int)) true O36 (Nat.succ_pos _) rfl ⟨rfl, trivial⟩ (by kernel_rfl) (by kernel_rfl)) ?_
            rintro v66 c65 l65 ⟨u63, O62, h64⟩
            obtain ⟨c69, h70, l69, O67, h68⟩ := O62.frz 0 rfl h64
            refine WL.gh h70 ?_
            obtain ⟨x_35, h71, H26⟩ := bs H26
            refine WL.mem rfl (Own.app (R := (RI .i32)) (z := .int .i32 0) (by_ := 4) (ty := 25) 1 O67 rfl (h12.mono (l19.trans (l39.trans (l65.trans l69)))) h68 h71 Tryd.underlying25 (by kernel_rfl) rfl (by kernel_rfl) (by kernel_rfl)) ?_
            rintro v76 c75 l75 ⟨u73, O72, h74⟩
            refine va (v76) ?_
            refine WL.nil ?_
            refine bkn ?_
            refine nrm ?_
            obtain rfl := Option.some.inj H26
            have O77 := O72.selD 2 [1] (by kernel_rfl) (by kernel_rfl)
            exact ⟨c75, _, v76, u73, rfl, (l39.trans (l65.trans (l69.trans l75))), O77, ups_self ⟨rfl, rfl, rfl, rfl, trivial⟩, h74⟩
        · skip
          rintro e_ w_ ⟨c78, g79, v28, u29, rfl, l78, O80, rfl, h81⟩
          refine W.region ?_
          refine va (.int .i64 s_7.2) ?_
          refine va (.int .i64 (w64 (s_7.2 + 1))) ?_
          refine va (.int .i64 (w64 (s_7.2 + 1))) ?_
          refine WL.nil ?_
          obtain rfl := Option.some.inj H27
          refine ⟨_, rfl, ?_⟩
          exact ⟨c78, _, v28, u29, rfl, (l9.trans (l19.trans l78)), O80, ups_self ⟨rfl, rfl, rfl, rfl, trivial⟩, h81⟩
      · have H := ie h25 H
        refine W.exit ?_
        refine thx ?_
        obtain rfl := Option.some.inj H
        refine ⟨_, rfl, rfl, ?_⟩
        exact ⟨c19, _, v5, u6, rfl, (l9.trans l19), O21, ups_self ⟨rfl, rfl, trivial⟩, (h12.mono l19)⟩
  · skip
    have h86 : OA (RI .i32) c0 (.slice none 0 0) [] [] := OA.nil (Nat.succ_pos _)
    have O85 := O0.addHole (e := es true (RI .i32) (.slice none 0 0) 21 [] ([] : List Int)) rfl
    exact ⟨c0, _, (.slice none 0 0), [], rfl, (Cx.le.refl _), O85, ups_self ⟨rfl, rfl, rfl, rfl, trivial⟩, h86⟩
  · skip
    rintro _ e_ w_ ⟨rfl, c87, g88, v7, u8, rfl, l87, O89, rfl, h90⟩
    refine bke ?_
    refine nrm ?_
    refine sr ?_
    refine va (.int .i64 p0) ?_
    refine va (.bool (decide (p0 > 1))) ?_
    refine va (.bool (decide (p0 > 1))) ?_
    refine wln ?_
    refine W.seq ?_
    refine W.seq ?_
    obtain ⟨d_49, h94, H4⟩ := bs H4
    refine W.join (fun e w => ∃ (c : Cx) (g : Nat → Value), w = c.w ∧ c87.le c ∧ Own c G (es true (RI .i32) v7 21 u8 o_7 :: F) ∧ e = ups g [(5, v7), (7, .bool (decide (p0 > 1))), (40, .bool d_49)]) ?_ ?_
    · clear H4
      refine W.region ?_
      refine va (v7) ?_
      refine WL.val0 (v := .int .i64 (o_7.length : Int)) rfl (rx (by kernel_rfl) (run_lenO (ty := 3) Tryd.underlying25 h90 _)) ?_
      refine va (.bool ((o_7.length : Int) == 0)) ?_
      rcases Bool.eq_false_or_eq_true ((o_7.length : Int) == 0) with h95 | h95
      · skip
        have H96 := anT h95 h94
        refine vb h95 ?_
        refine wn ?_
        refine va (.bool (decide (p0 > 1))) ?_
        obtain rfl := Option.some.inj H96
        refine va (.bool (decide (p0 > 1))) ?_
        refine wln ?_
        exact ⟨c87, _, rfl, (Cx.le.refl _), O89, ups_self ⟨rfl, rfl, rfl, trivial⟩⟩
      · skip
        obtain rfl := anF h95 h94
        refine vb h95 ?_
        refine ps ?_
        refine va (.bool false) ?_
        refine wln ?_
        exact ⟨c87, _, rfl, (Cx.le.refl _), O89, ups_self ⟨rfl, rfl, rfl, trivial⟩⟩
    · skip
      rintro e_ w_ ⟨c97, g98, rfl, l97, O99, rfl⟩
      refine nrm ?_
      refine W.cond (t := d_49) (by kernel_rfl) (fun h103 => ?_) (fun h103 => ?_)
      · have H4 := it h103 H4
        refine sr ?_
        refine va (.agg #[.int .i64 0, .slice none 0 0]) ?_
        refine va (.agg #[.int .i64 0, .slice none 0 0]) ?_
        refine WL.mem rfl (Own.sl (R := R_api_Cell) (E := 27) (ls := [[.int .i64 0, .slice none 0 0], [.int .i64 0, .slice none 0 0]]) (vs := [.int .i64 0, .slice none 0 0, .int .i64 0, .slice none 0 0]) (xs := ([(⟨0, ([] : List Int)⟩ : G_api_Cell), (⟨0, ([] : List Int)⟩ : G_api_Cell)] : List G_api_Cell)) true O99 (Nat.succ_pos _) rfl ⟨⟨(.slice none 0 0), rfl, (Sl.nl _ _)⟩, ⟨(.slice none 0 0), rfl, (Sl.nl _ _)⟩, trivial⟩ (by kernel_rfl) (by kernel_rfl)) ?_
        rintro v108 c107 l107 ⟨u105, O104, h106⟩
        refine va (v108) ?_
        refine wln ?_
        refine W.ret ?_
        refine thr ?_
        obtain rfl := Option.some.inj H4
        have O109 := O104.selD 2 [0] (by kernel_rfl) (by kernel_rfl)
        exact ret1 (v := v108) rfl (by kernel_rfl) ⟨_, c107, rfl, rfl, (l87.trans (l97.trans l107)), v108, u105, O109, rfl, h106⟩
      · have H4 := ie h103 H4
        refine W.skip ?_
        refine nrm ?_
        refine W.seq ?_
        refine sr ?_
        refine va (v7) ?_
        refine WL.val0 (v := .int .i64 (o_7.length : Int)) rfl (rx (by kernel_rfl) (run_lenO (ty := 3) Tryd.underlying25 (h90.mono l97) _)) ?_
        refine va (.bool ((o_7.length : Int) == 0)) ?_
        refine wln ?_
        refine W.cond (t := (o_7.length : Int) == 0) (by kernel_rfl) (fun h110 => ?_) (fun h110 => ?_)
        · have H4 := it h110 H4
          refine sr ?_
          refine va (.agg #[.int .i64 0, .slice none 0 0]) ?_
          refine WL.mem rfl (Own.sl (R := R_api_Cell) (E := 27) (ls := [[.int .i64 0, .slice none 0 0]]) (vs := [.int .i64 0, .slice none 0 0]) (xs := ([(⟨0, ([] : List Int)⟩ : G_api_Cell)] : List G_api_Cell)) true O99 (Nat.succ_pos _) rfl ⟨⟨(.slice none 0 0), rfl, (Sl.nl _ _)⟩, trivial⟩ (by kernel_rfl) (by kernel_rfl)) ?_
          rintro v115 c114 l114 ⟨u112, O111, h113⟩
          refine va (v115) ?_
          refine wln ?_
          refine W.ret ?_
          refine thr ?_
          obtain rfl := Option.some.inj H4
          have O116 := O111.selD 2 [0] (by kernel_rfl) (by kernel_rfl)
          exact ret1 (v := v115) rfl (by kernel_rfl) ⟨_, c114, rfl, rfl, (l87.trans (l97.trans l114)), v115, u112, O116, rfl, h113⟩
        · have H4 := ie h110 H4
          refine W.skip ?_
          refine nrm ?_
          refine W.seq ?_
          refine sr ?_
          refine va (.bool (decide (p0 > 1))) ?_
          refine wln ?_
          refine W.cond (t := decide (p0 > 1)) (by kernel_rfl) (fun h117 => ?_) (fun h117 => ?_)
          · have H4 := it h117 H4
            refine sr ?_
            refine va (v7) ?_
            obtain ⟨a118, a119, a120, rfl⟩ := ((h90.mono l97)).form
            refine va (.agg #[.int .i64 2, .slice a118 a119 a120]) ?_
            refine va (.agg #[.int .i64 3, .slice none 0 0]) ?_
            obtain ⟨c123, h124, l123, O121, h122⟩ := O99.frz 0 rfl (h90.mono l97)
            refine WL.gh h124 ?_
            refine WL.mem rfl (Own.sl (R := R_api_Cell) (E := 27) (ls := [[.int .i64 2, .slice a118 a119 a120], [.int .i64 3, .slice none 0 0]]) (vs := [.int .i64 2, .slice a118 a119 a120, .int .i64 3, .slice none 0 0]) (xs := ([(⟨2, o_7⟩ : G_api_Cell), (⟨3, ([] : List Int)⟩ : G_api_Cell)] : List G_api_Cell)) true O121 (Nat.succ_pos _) rfl ⟨⟨(.slice a118 a119 a120), rfl, h122⟩, ⟨(.slice none 0 0), rfl, (Sl.nl _ _)⟩, trivial⟩ (by kernel_rfl) (by kernel_rfl)) ?_
            rintro v129 c128 l128 ⟨u126, O125, h127⟩
            refine va (v129) ?_
            refine wln ?_
            refine W.ret ?_
            refine thr ?_
            obtain rfl := Option.some.inj H4
            have O130 := O125.selD 2 [0] (by kernel_rfl) (by kernel_rfl)
            exact ret1 (v := v129) rfl (by kernel_rfl) ⟨_, c128, rfl, rfl, (l87.trans (l97.trans (l123.trans l128))), v129, u126, O130, rfl, h127⟩
          · have H4 := ie h117 H4
            refine W.skip ?_
            refine nrm ?_
            refine sr ?_
            refine va (v7) ?_
            obtain ⟨a131, a132, a133, rfl⟩ := ((h90.mono l97)).form
            refine va (.agg #[.int .i64 1, .slice a131 a132 a133]) ?_
            obtain ⟨c136, h137, l136, O134, h135⟩ := O99.frz 0 rfl (h90.mono l97)
            refine WL.gh h137 ?_
            refine WL.mem rfl (Own.sl (R := R_api_Cell) (E := 27) (ls := [[.int .i64 1, .slice a131 a132 a133]]) (vs := [.int .i64 1, .slice a131 a132 a133]) (xs := ([(⟨1, o_7⟩ : G_api_Cell)] : List G_api_Cell)) true O134 (Nat.succ_pos _) rfl ⟨⟨(.slice a131 a132 a133), rfl, h135⟩, trivial⟩ (by kernel_rfl) (by kernel_rfl)) ?_
            rintro v142 c141 l141 ⟨u139, O138, h140⟩
            refine va (v142) ?_
            refine wln ?_
            refine W.ret ?_
            obtain rfl := Option.some.inj H4
            have O143 := O138.selD 2 [0] (by kernel_rfl) (by kernel_rfl)
            exact ret1 (v := v142) rfl (by kernel_rfl) ⟨_, c141, rfl, rfl, (l87.trans (l97.trans (l136.trans l141))), v142, u139, O143, rfl, h140⟩

def f_linotyperef23_Same (p0 : List G_api_Cell) (p1 : List G_api_Cell) : Option (Bool) :=
  if ((p0.length : Int) != (p1.length : Int)) = true then
  some false
  else
  (iter (σ := Int) (τ := Bool ⊕ Unit) (((p0.length : Int) - 0).toNat + 1) (fun s_13 =>
  if (decide (s_13 < (p0.length : Int))) = true then
  (idx p0 s_13).bind fun x_21 =>
  (idx p1 s_13).bind fun x_26 =>
  (orE (x_21.Kind != x_26.Kind) ((idx p0 s_13).bind fun x_34 =>
  (idx p1 s_13).bind fun x_39 =>
  (f_linotyperef01_Same x_34.Text x_39.Text).bind fun x_42 =>
  some (!x_42))).bind fun d_30 =>
  if d_30 = true then
  some (.inr (.inl false))
  else
  some (.inl ((w64 (s_13 + 1))))
  else
  some (.inr (.inr ()))) (0)).bind fun o_13 =>
  match o_13 with
  | .inl o_13 =>
  some o_13
  | .inr o_13 =>
  some true
theorem c_linotyperef23_Same {c0 : Cx} {G : Gm} {F : List En} {v1 : Value} {v3 : Value} (O0 : Own c0 G F) (p0 : List G_api_Cell) (p1 : List G_api_Cell) {r : Bool} (h2 : Sl R_api_Cell c0 v1 p0) (h4 : Sl R_api_Cell c0 v3 p1) (H : f_linotyperef23_Same p0 p1 = some r) :
    Calls Tryd.prog 27 #[v1, v3] c0.w (Post c0 fun c v => Own c G (F) ∧ v = .bool r) := by
  unfold f_linotyperef23_Same at H
  refine enter (l := [v1, v3]) Tryd.func27 rfl rfl rfl ?_
  refine sr ?_
  refine va (.bool false) ?_
  refine wln ?_
  refine W.seq ?_
  refine sr ?_
  refine va (v1) ?_
  refine WL.val0 (v := .int .i64 (p0.length : Int)) rfl (rx (by kernel_rfl) (run_len (ty := 3) Tryd.underlying22 h2 _)) ?_
  refine va (v3) ?_
  refine WL.val0 (v := .int .i64 (p1.length : Int)) rfl (rx (by kernel_rfl) (run_len (ty := 3) Tryd.underlying22 h4 _)) ?_
  refine va (.bool ((p0.length : Int) != (p1.length : Int))) ?_
  refine wln ?_
  refine W.cond (t := (p0.length : Int) != (p1.length : Int)) (by kernel_rfl) (fun h5 => ?_) (fun h5 => ?_)
  · have H := it h5 H
    refine sr ?_
    refine va (.bool false) ?_
    refine wln ?_
    refine W.ret ?_
    refine thr ?_
    obtain rfl := Option.some.inj H
    exact ret1 (v := .bool false) rfl (by kernel_rfl) ⟨_, c0, rfl, rfl, Cx.le.refl _, O0, rfl⟩
  · have H := ie h5 H
    refine W.skip ?_
    refine nrm ?_
    refine W.seq ?_
    refine sr ?_
    refine va (.int .i64 0) ?_
    refine wln ?_
    refine W.block ?_
    obtain ⟨o_13, h6, H7⟩ := bs H
    refine W.loop (σ := Int) (τ := Bool ⊕ Unit) (fun s_13 => fun e w => ∃ (c : Cx) (g : Nat → Value), w = c.w ∧ c0.le c ∧ Own c G (F) ∧ e = ups g [(0, v1), (1, v3), (5, .int .i64 s_13)]) (fun t => match t with | .inl x_ => (fun rr_ ex e w => ex = .ret ∧ (fun e w => ∃ (c : Cx) (g : Nat → Value), w = c.w ∧ c0.le c ∧ Own c G (F) ∧ e = ups g [(4, .bool rr_)]) e w) x_ | .inr x_ => (fun o_13_ ex e w => ex = .exit 0 ∧ (fun e w => ∃ (c : Cx) (g : Nat → Value), w = c.w ∧ c0.le c ∧ Own c G (F) ∧ e = ups g []) e w) x_) ?_ h6 ?_ ?_
    · clear H7 h6
      intro s_13 xx_ ee_ ww_ H
      revert ee_ ww_
      rintro e_ w_ ⟨c8, g9, rfl, l8, O10, rfl⟩
      refine W.seq ?_
      refine sr ?_
      refine va (.int .i64 s_13) ?_
      refine va (v1) ?_
      refine WL.val0 (v := .int .i64 (p0.length : Int)) rfl (rx (by kernel_rfl) (run_len (ty := 3) Tryd.underlying22 (h2.mono l8) _)) ?_
      refine va (.bool (decide (s_13 < (p0.length : Int)))) ?_
      refine wln ?_
      refine W.cond (t := decide (s_13 < (p0.length : Int))) (by kernel_rfl) (fun h14 => ?_) (fun h14 => ?_)
      · have H := it h14 H
        refine W.skip ?_
        refine nrm ?_
        refine W.seq ?_
        refine W.block ?_
        refine W.seq ?_
        obtain ⟨x_21, h15, H⟩ := bs H
        obtain ⟨x_26, h16, H⟩ := bs H
        obtain ⟨d_30, h17, H⟩ := bs H
        refine W.join (fun e w => ∃ (c : Cx) (g : Nat → Value), w = c.w ∧ c8.le c ∧ Own c G (F) ∧ e = ups g [(0, v1), (1, v3), (5, .int .i64 s_13), (41, .bool d_30)]) ?_ ?_
        · clear H
          refine W.regionD [] (Kp G0 []) O10 (by kernel_rfl) ?_
          intro c18 l18 O19
          have p20 : Kp G0 [] c18 := Kp.nil0
          refine ta 0 (v1) ?_
          refine ta 1 (.int .i64 s_13) ?_
          obtain ⟨l_21, h22, m23⟩ := Sl.at (h2.mono (l8.trans l18)) (idx_get h15)
          obtain ⟨v24, rfl, h25⟩ := h22
          refine AC.take 2 (.pointer (some ⟨sb v1, so v1 + s_13.toNat * 2, none⟩)) rfl (by kernel_rfl) (by kernel_rfl) (fun c' hle => (rx (by kernel_rfl) (run_index (k := .i64) Tryd.underlying22 (by kernel_rfl) (h2.mono (l8.trans l18)) h15 _))) ?_
          refine ta 3 (.pointer (some ⟨sb v1, so v1 + s_13.toNat * 2, none⟩)) ?_
          refine AC.take 4 (.int .i64 x_21.Kind) rfl (by kernel_rfl) (by kernel_rfl) (fun c' hle => (rx (by kernel_rfl) (run_load1 Tryd.underlying3 rfl ((fun j u hu => (m23 j u hu).mono hle) 0 _ rfl)))) ?_
          refine ta 5 (v3) ?_
          refine ta 6 (.int .i64 s_13) ?_
          obtain ⟨l_26, h27, m28⟩ := Sl.at (h4.mono (l8.trans l18)) (idx_get h16)
          obtain ⟨v29, rfl, h30⟩ := h27
          refine AC.take 7 (.pointer (some ⟨sb v3, so v3 + s_13.toNat * 2, none⟩)) rfl (by kernel_rfl) (by kernel_rfl) (fun c' hle => (rx (by kernel_rfl) (run_index (k := .i64) Tryd.underlying22 (by kernel_rfl) (h4.mono (l8.trans l18)) h16 _))) ?_
          refine ta 8 (.pointer (some ⟨sb v3, so v3 + s_13.toNat * 2, none⟩)) ?_
          refine AC.take 9 (.int .i64 x_26.Kind) rfl (by kernel_rfl) (by kernel_rfl) (fun c' hle => (rx (by kernel_rfl) (run_load1 Tryd.underlying3 rfl ((fun j u hu => (m28 j u hu).mono hle) 0 _ rfl)))) ?_
          refine ta 10 (.bool (x_21.Kind != x_26.Kind)) ?_
          rcases Bool.eq_false_or_eq_true (x_21.Kind != x_26.Kind) with h31 | h31
          · skip
            obtain rfl := orT h31 h17
            refine AC.takeb 11 h31 rfl (by kernel_rfl) (by kernel_rfl) (fun c' hle => (by kernel_rfl)) ?_
            refine AC.pass 12 rfl (by kernel_rfl) (by kernel_rfl) ?_
            refine AC.pass 13 rfl (by kernel_rfl) (by kernel_rfl) ?_
            refine AC.pass 14 rfl (by kernel_rfl) (by kernel_rfl) ?_
            refine AC.pass 15 rfl (by kernel_rfl) (by kernel_rfl) ?_
            refine AC.pass 16 rfl (by kernel_rfl) (by kernel_rfl) ?_
            refine AC.pass 17 rfl (by kernel_rfl) (by kernel_rfl) ?_
            refine AC.pass 18 rfl (by kernel_rfl) (by kernel_rfl) ?_
            refine AC.pass 19 rfl (by kernel_rfl) (by kernel_rfl) ?_
            refine AC.pass 20 rfl (by kernel_rfl) (by kernel_rfl) ?_
            refine AC.pass 21 rfl (by kernel_rfl) (by kernel_rfl) ?_
            refine AC.pass 22 rfl (by kernel_rfl) (by kernel_rfl) ?_
            refine AC.pass 23 rfl (by kernel_rfl) (by kernel_rfl) ?_
            refine ta 24 (.bool true) ?_
            refine AC.done (by kernel_rfl) ?_
            refine nrm ?_
            exact ⟨c18, _, rfl, l18, O19, ups_self ⟨rfl, rfl, rfl, rfl, trivial⟩⟩
          · skip
            have H32 := orF h31 h17
            refine AC.takeb 11 h31 rfl (by kernel_rfl) (by kernel_rfl) (fun c' hle => (by kernel_rfl)) ?_
            refine ta 12 (v1) ?_
            refine ta 13 (.int .i64 s_13) ?_
            obtain ⟨x_34, h33, H32⟩ := bs H32
            obtain ⟨l_34, h35, m36⟩ := Sl.at (h2.mono (l8.trans l18)) (idx_get h33)
            obtain ⟨v37, rfl, h38⟩ := h35
            refine AC.take 14 (.pointer (some ⟨sb v1, so v1 + s_13.toNat * 2, none⟩)) rfl (by kernel_rfl) (by kernel_rfl) (fun c' hle => (rx (by kernel_rfl) (run_index (k := .i64) Tryd.underlying22 (by kernel_rfl) (h2.mono (l8.trans l18)) h33 _))) ?_
            refine ta 15 (.pointer (some ⟨sb v1, so v1 + s_13.toNat * 2 + 1, none⟩)) ?_
            refine AC.take 16 (v37) rfl (by kernel_rfl) (by kernel_rfl) (fun c' hle => (rx (by kernel_rfl) (run_load1 Tryd.underlying25 rfl ((fun j u hu => (m36 j u hu).mono hle) 1 _ rfl)))) ?_
            refine ta 17 (v3) ?_
            refine ta 18 (.int .i64 s_13) ?_
            obtain ⟨x_39, h39, H32⟩ := bs H32
            obtain ⟨l_40, h41, m42⟩ := Sl.at (h4.mono (l8.trans l18)) (idx_get h39)
            obtain ⟨v43, rfl, h44⟩ := h41
            refine AC.take 19 (.pointer (some ⟨sb v3, so v3 + s_13.toNat * 2, none⟩)) rfl (by kernel_rfl) (by kernel_rfl) (fun c' hle => (rx (by kernel_rfl) (run_index (k := .i64) Tryd.underlying22 (by kernel_rfl) (h4.mono (l8.trans l18)) h39 _))) ?_
            refine ta 20 (.pointer (some ⟨sb v3, so v3 + s_13.toNat * 2 + 1, none⟩)) ?_
            refine AC.take 21 (v43) rfl (by kernel_rfl) (by kernel_rfl) (fun c' hle => (rx (by kernel_rfl) (run_load1 Tryd.underlying25 rfl ((fun j u hu => (m42 j u hu).mono hle) 1 _ rfl)))) ?_
            obtain ⟨x_42, h45, H32⟩ := bs H32
            refine AC.one 22 (by kernel_rfl) (Go1.callP 22 rfl (by kernel_rfl) (by kernel_rfl) (by kernel_rfl) (c_linotyperef01_Same O19 x_34.Text x_39.Text h38 h44 h45) ?_)
            rintro v51 c50 l50 ⟨O47, rfl⟩
            have p52 : Kp G0 [] c50 := Kp.nil0
            refine ⟨.inr p52, ?_⟩
            refine ta 23 (.bool (!x_42)) ?_
            obtain rfl := Option.some.inj H32
            refine ta 24 (.bool (!x_42)) ?_
            refine AC.done (by kernel_rfl) ?_
            refine nrm ?_
            exact ⟨c50, _, rfl, (l18.trans l50), O47, ups_self ⟨rfl, rfl, rfl, rfl, trivial⟩⟩
        · skip
          rintro e_ w_ ⟨c53, g54, rfl, l53, O55, rfl⟩
          refine nrm ?_
          refine W.cond (t := d_30) (by kernel_rfl) (fun h59 => ?_) (fun h59 => ?_)
          · have H := it h59 H
            refine sr ?_
            refine va (.bool false) ?_
            refine wln ?_
            refine W.ret ?_
            refine bkr ?_
            refine thr ?_
            obtain rfl := Option.some.inj H
            refine ⟨_, rfl, ?_⟩
            refine ⟨rfl, ?_⟩
            exact ⟨c53, _, rfl, (l8.trans l53), O55, ups_self ⟨rfl, trivial⟩⟩
          · have H := ie h59 H
            refine W.skip ?_
            refine bkn ?_
            refine nrm ?_
            refine W.region ?_
            refine va (.int .i64 s_13) ?_
            refine va (.int .i64 (w64 (s_13 + 1))) ?_
            refine va (.int .i64 (w64 (s_13 + 1))) ?_
            refine WL.nil ?_
            obtain rfl := Option.some.inj H
            refine ⟨_, rfl, ?_⟩
            exact ⟨c53, _, rfl, (l8.trans l53), O55, ups_self ⟨rfl, rfl, rfl, trivial⟩⟩
      · have H := ie h14 H
        refine W.exit ?_
        refine thx ?_
        obtain rfl := Option.some.inj H
        refine ⟨_, rfl, rfl, ?_⟩
        exact ⟨c8, _, rfl, l8, O10, ups_self trivial⟩
    · skip
      exact ⟨c0, _, rfl, (Cx.le.refl _), O0, ups_self ⟨rfl, rfl, rfl, trivial⟩⟩
    · skip
      rcases o_13 with o_13 | o_13
      · skip
        intro ex_; revert ex_
        rintro _ e_ w_ ⟨rfl, c60, g61, rfl, l60, O62, rfl⟩
        refine bkr ?_
        refine thr ?_
        obtain rfl := Option.some.inj H7
        exact ret1 (v := .bool o_13) rfl (by kernel_rfl) ⟨_, c60, rfl, rfl, l60, O62, rfl⟩
      · skip
        rintro _ e_ w_ ⟨rfl, c66, g67, rfl, l66, O68, rfl⟩
        refine bke ?_
        refine nrm ?_
        refine sr ?_
        refine va (.bool true) ?_
        refine wln ?_
        refine W.ret ?_
        obtain rfl := Option.some.inj H7
        exact ret1 (v := .bool true) rfl (by kernel_rfl) ⟨_, c66, rfl, rfl, l66, O68, rfl⟩

def f_cell_Right_1 (p0 : Int) : Option (Bool) :=
  (f_scalar_Valid p0).bind fun x_4 =>
  some (!x_4)
theorem c_cell_Right_1 {c0 : Cx} {G : Gm} {F : List En} (O0 : Own c0 G F) (p0 : Int) {r : Bool} (H : f_cell_Right_1 p0 = some r) :
    Calls Tryd.prog 183 #[.int .i32 p0] c0.w (Post c0 fun c v => Own c G (F) ∧ v = .bool r) := by
  unfold f_cell_Right_1 at H
  refine enter (l := [.int .i32 p0]) Tryd.func183 rfl rfl rfl ?_
  refine sr ?_
  refine va (.bool false) ?_
  refine wln ?_
  refine sr ?_
  refine va (.int .i32 p0) ?_
  obtain ⟨x_4, h1, H⟩ := bs H
  refine WL.callP rfl (by kernel_rfl) (c_scalar_Valid O0 p0 h1) ?_
  rintro v7 c6 l6 ⟨O3, rfl⟩
  refine va (.bool (!x_4)) ?_
  refine va (.bool (!x_4)) ?_
  refine wln ?_
  refine W.ret ?_
  obtain rfl := Option.some.inj H
  exact ret1 (v := .bool (!x_4)) rfl (by kernel_rfl) ⟨_, c6, rfl, rfl, l6, O3, rfl⟩

def f_slices_IndexFunc_rune_rune__cell_Right_1 (p0 : List Int) : Option (Int) :=
  (iter (σ := Int) (τ := Int ⊕ Unit) (((p0.length : Int) - 0).toNat + 1) (fun s_7 =>
  if (decide (s_7 < (p0.length : Int))) = true then
  (idx p0 s_7).bind fun x_16 =>
  (f_cell_Right_1 x_16).bind fun x_18 =>
  if x_18 = true then
  some (.inr (.inl s_7))
  else
  some (.inl ((w64 (s_7 + 1))))
  else
  some (.inr (.inr ()))) (0)).bind fun o_7 =>
  match o_7 with
  | .inl o_7 =>
  some o_7
  | .inr o_7 =>
  some (-1)
theorem c_slices_IndexFunc_rune_rune__cell_Right_1 {c0 : Cx} {G : Gm} {F : List En} {v1 : Value} (O0 : Own c0 G F) (p0 : List Int) {r : Int} (h2 : Sl (RI .i32) c0 v1 p0) (H : f_slices_IndexFunc_rune_rune__cell_Right_1 p0 = some r) :
    Calls Tryd.prog 204 #[v1, .func (.func 183) #[] #[]] c0.w (Post c0 fun c v => Own c G (F) ∧ v = .int .i64 r) := by
  unfold f_slices_IndexFunc_rune_rune__cell_Right_1 at H
  refine enter (l := [v1, .func (.func 183) #[] #[]]) Tryd.func204 rfl rfl rfl ?_
  refine sr ?_
  refine va (.int .i64 0) ?_
  refine wln ?_
  refine W.seq ?_
  refine sr ?_
  refine va (v1) ?_
  refine WL.val0 (v := .int .i64 (p0.length : Int)) rfl (rx (by kernel_rfl) (run_len (ty := 3) Tryd.underlying25 h2 _)) ?_
  refine va (.int .i64 0) ?_
  refine wln ?_
  refine W.block ?_
  obtain ⟨o_7, h3, H4⟩ := bs H
  refine W.loop (σ := Int) (τ := Int ⊕ Unit) (fun s_7 => fun e w => ∃ (c : Cx) (g : Nat → Value), w = c.w ∧ c0.le c ∧ Own c G (F) ∧ e = ups g [(0, v1), (1, .func (.func 183) #[] #[]), (7, .int .i64 (p0.length : Int)), (8, .int .i64 s_7)]) (fun t => match t with | .inl x_ => (fun rr_ ex e w => ex = .ret ∧ (fun e w => ∃ (c : Cx) (g : Nat → Value), w = c.w ∧ c0.le c ∧ Own c G (F) ∧ e = ups g [(4, .int .i64 rr_)]) e w) x_ | .inr x_ => (fun o_7_ ex e w => ex = .exit 0 ∧ (fun e w => ∃ (c : Cx) (g : Nat → Value), w = c.w ∧ c0.le c ∧ Own c G (F) ∧ e = ups g []) e w) x_) ?_ h3 ?_ ?_
  · clear H4 h3
    intro s_7 xx_ ee_ ww_ H
    revert ee_ ww_
    rintro e_ w_ ⟨c5, g6, rfl, l5, O7, rfl⟩
    refine sr ?_
    refine va (.bool (decide (s_7 < (p0.length : Int)))) ?_
    refine wln ?_
    refine W.seq ?_
    refine W.cond (t := decide (s_7 < (p0.length : Int))) (by kernel_rfl) (fun h11 => ?_) (fun h11 => ?_)
    · have H := it h11 H
      refine W.skip ?_
      refine nrm ?_
      refine W.seq ?_
      refine W.block ?_
      refine sr ?_
      refine va (.int .i64 s_7) ?_
      refine va (.int .i64 s_7) ?_
      refine wln ?_
      refine sr ?_
      refine va (.func (.func 183) #[] #[]) ?_
      refine va (v1) ?_
      refine va (.int .i64 s_7) ?_
      obtain ⟨x_16, h12, H⟩ := bs H
      obtain ⟨l_13, h14, m15⟩ := Sl.at (h2.mono l5) (idx_get h12)
      obtain rfl := h14
      refine WL.val0 (v := .pointer (some ⟨sb v1, so v1 + s_7.toNat * 1, none⟩)) rfl (rx (by kernel_rfl) (run_index (k := .i64) Tryd.underlying25 (by kernel_rfl) (h2.mono l5) h12 _)) ?_
      refine WL.val0 (v := .int .i32 x_16) rfl (rx (by kernel_rfl) (run_load1 Tryd.underlying21 rfl (m15 0 _ rfl))) ?_
      obtain ⟨x_18, h16, H⟩ := bs H
      refine WL.callP rfl (by kernel_rfl) (c_cell_Right_1 O7 x_16 h16) ?_
      rintro v22 c21 l21 ⟨O18, rfl⟩
      refine wln ?_
      refine W.cond (t := x_18) (by kernel_rfl) (fun h23 => ?_) (fun h23 => ?_)
      · have H := it h23 H
        refine sr ?_
        refine va (.int .i64 s_7) ?_
        refine va (.int .i64 s_7) ?_
        refine wln ?_
        refine W.ret ?_
        refine bkr ?_
        refine thr ?_
        obtain rfl := Option.some.inj H
        refine ⟨_, rfl, ?_⟩
        refine ⟨rfl, ?_⟩
        exact ⟨c21, _, rfl, (l5.trans l21), O18, ups_self ⟨rfl, trivial⟩⟩
      · have H := ie h23 H
        refine W.skip ?_
        refine bkn ?_
        refine nrm ?_
        refine W.region ?_
        refine va (.int .i64 (w64 (s_7 + 1))) ?_
        refine va (.int .i64 (w64 (s_7 + 1))) ?_
        refine WL.nil ?_
        obtain rfl := Option.some.inj H
        refine ⟨_, rfl, ?_⟩
        exact ⟨c21, _, rfl, (l5.trans l21), O18, ups_self ⟨rfl, rfl, rfl, rfl, trivial⟩⟩
    · have H := ie h11 H
      refine W.exit ?_
      refine thx ?_
      obtain rfl := Option.some.inj H
      refine ⟨_, rfl, rfl, ?_⟩
      exact ⟨c5, _, rfl, l5, O7, ups_self trivial⟩
  · skip
    exact ⟨c0, _, rfl, (Cx.le.refl _), O0, ups_self ⟨rfl, rfl, rfl, rfl, trivial⟩⟩
  · skip
    rcases o_7 with o_7 | o_7
    · skip
      intro ex_; revert ex_
      rintro _ e_ w_ ⟨rfl, c24, g25, rfl, l24, O26, rfl⟩
      refine bkr ?_
      refine thr ?_
      obtain rfl := Option.some.inj H4
      exact ret1 (v := .int .i64 o_7) rfl (by kernel_rfl) ⟨_, c24, rfl, rfl, l24, O26, rfl⟩
    · skip
      rintro _ e_ w_ ⟨rfl, c30, g31, rfl, l30, O32, rfl⟩
      refine bke ?_
      refine nrm ?_
      refine sr ?_
      refine va (.int .i64 (-1)) ?_
      refine wln ?_
      refine W.ret ?_
      obtain rfl := Option.some.inj H4
      exact ret1 (v := .int .i64 (-1)) rfl (by kernel_rfl) ⟨_, c30, rfl, rfl, l30, O32, rfl⟩

def f_slices_ContainsFunc_rune_rune__cell_Right_1 (p0 : List Int) : Option (Bool) :=
  (f_slices_IndexFunc_rune_rune__cell_Right_1 p0).bind fun x_5 =>
  some (decide (x_5 ≥ 0))
theorem c_slices_ContainsFunc_rune_rune__cell_Right_1 {c0 : Cx} {G : Gm} {F : List En} {v1 : Value} (O0 : Own c0 G F) (p0 : List Int) {r : Bool} (h2 : Sl (RI .i32) c0 v1 p0) (H : f_slices_ContainsFunc_rune_rune__cell_Right_1 p0 = some r) :
    Calls Tryd.prog 182 #[v1, .func (.func 183) #[] #[]] c0.w (Post c0 fun c v => Own c G (F) ∧ v = .bool r) := by
  unfold f_slices_ContainsFunc_rune_rune__cell_Right_1 at H
  refine enter (l := [v1, .func (.func 183) #[] #[]]) Tryd.func182 rfl rfl rfl ?_
  refine sr ?_
  refine va (.bool false) ?_
  refine wln ?_
  refine sr ?_
  refine va (v1) ?_
  refine va (.func (.func 183) #[] #[]) ?_
  obtain ⟨x_5, h3, H⟩ := bs H
  refine WL.callP rfl (by kernel_rfl) (c_slices_IndexFunc_rune_rune__cell_Right_1 O0 p0 h2 h3) ?_
  rintro v9 c8 l8 ⟨O5, rfl⟩
  refine va (.bool (decide (x_5 ≥ 0))) ?_
  refine va (.bool (decide (x_5 ≥ 0))) ?_
  refine wln ?_
  refine W.ret ?_
  obtain rfl := Option.some.inj H
  exact ret1 (v := .bool (decide (x_5 ≥ 0))) rfl (by kernel_rfl) ⟨_, c8, rfl, rfl, l8, O5, rfl⟩

def f_cell_Right (p0 : G_api_Cell) : Option (Bool) :=
  (if (p0.Kind == 0) = true then
  (some (p0.Kind == 0) : Option (Bool))
  else
  (some (p0.Kind == 3) : Option (Bool))).bind fun z_7 =>
  if z_7 = true then
  some ((p0.Text.length : Int) == 0)
  else
  (if (p0.Kind == 1) = true then
  (some (p0.Kind == 1) : Option (Bool))
  else
  (some (p0.Kind == 2) : Option (Bool))).bind fun z_20 =>
  if z_20 = true then
  (andE (decide ((p0.Text.length : Int) > 0)) (some (decide ((p0.Text.length : Int) ≤ 16)))).bind fun d_31 =>
  (andE d_31 ((f_slices_ContainsFunc_rune_rune__cell_Right_1 p0.Text).bind fun x_41 =>
  some (!x_41))).bind fun d_37 =>
  some d_37
  else
  some false
theorem c_cell_Right {c0 : Cx} {G : Gm} {F : List En} {v1 : Value} (O0 : Own c0 G F) (p0 : G_api_Cell) {r : Bool} (h2 : Sl (RI .i32) c0 v1 p0.Text) (H : f_cell_Right p0 = some r) :
    Calls Tryd.prog 156 #[.agg #[.int .i64 p0.Kind, v1]] c0.w (Post c0 fun c v => Own c G (F) ∧ v = .bool r) := by
  unfold f_cell_Right at H
  refine enter (l := [.agg #[.int .i64 p0.Kind, v1]]) Tryd.func156 rfl rfl rfl ?_
  refine sr ?_
  obtain ⟨a3, a4, a5, rfl⟩ := (h2).form
  refine WL.mem rfl (Own.bx (T := 27) (vs := [.int .i64 p0.Kind, .slice a3 a4 a5]) O0 (by kernel_rfl)) ?_
  rintro v10 c9 l9 ⟨b6, rfl, O7, m8⟩
  refine va (.bool false) ?_
  refine wln ?_
  refine W.seq ?_
  refine sr ?_
  refine va (.pointer (some ⟨b6, 0, none⟩)) ?_
  refine WL.val0 (v := .int .i64 p0.Kind) rfl (rx (by kernel_rfl) (run_load1 Tryd.underlying3 rfl (m8 0 _ rfl))) ?_
  refine wln ?_
  refine W.block ?_
  obtain ⟨z_7, H11, H12⟩ := bs H
  refine W.seqJ (fun e w => ∃ (c : Cx) (g : Nat → Value), w = c.w ∧ c9.le c ∧ Own c G (F) ∧ e = ups g [(1, .pointer (some ⟨b6, 0, none⟩)), (4, .int .i64 p0.Kind), (5, .bool z_7)]) ?_ ?_
  · skip
    refine sr ?_
    refine va (.bool (p0.Kind == 0)) ?_
    refine va (.bool (p0.Kind == 0)) ?_
    refine wln ?_
    refine W.cond (t := p0.Kind == 0) (by kernel_rfl) (fun h13 => ?_) (fun h13 => ?_)
    · have H11 := it h13 H11
      refine W.skip ?_
      refine nrm ?_
      obtain rfl := Option.some.inj H11
      exact ⟨c9, _, rfl, (Cx.le.refl _), O7, ups_self ⟨rfl, rfl, rfl, trivial⟩⟩
    · have H11 := ie h13 H11
      refine W.region ?_
      refine va (.bool (p0.Kind == 3)) ?_
      refine va (.bool (p0.Kind == 3)) ?_
      refine wln ?_
      obtain rfl := Option.some.inj H11
      exact ⟨c9, _, rfl, (Cx.le.refl _), O7, ups_self ⟨rfl, rfl, rfl, trivial⟩⟩
  · skip
    rintro e_ w_ ⟨c14, g15, rfl, l14, O16, rfl⟩
    refine W.cond (t := z_7) (by kernel_rfl) (fun h20 => ?_) (fun h20 => ?_)
    · have H12 := it h20 H12
      refine sr ?_
      refine va (.pointer (some ⟨b6, 0 + 1, none⟩)) ?_
      refine WL.val0 (v := .slice a3 a4 a5) rfl (rx (by kernel_rfl) (run_load1 Tryd.underlying25 rfl ((fun j u hu => (m8 j u hu).mono l14) 1 _ rfl))) ?_
      refine WL.val0 (v := .int .i64 (p0.Text.length : Int)) rfl (rx (by kernel_rfl) (run_len (ty := 3) Tryd.underlying25 (h2.mono (l9.trans l14)) _)) ?_
      refine va (.bool ((p0.Text.length : Int) == 0)) ?_
      refine va (.bool ((p0.Text.length : Int) == 0)) ?_
      refine wln ?_
      refine W.ret ?_
      refine bkr ?_
      refine thr ?_
      obtain rfl := Option.some.inj H12
      exact ret1 (v := .bool ((p0.Text.length : Int) == 0)) rfl (by kernel_rfl) ⟨_, c14, rfl, rfl, (l9.trans l14), O16, rfl⟩
    · have H12 := ie h20 H12
      obtain ⟨z_20, H21, H22⟩ := bs H12
      refine W.seqJ (fun e w => ∃ (c : Cx) (g : Nat → Value), w = c.w ∧ c14.le c ∧ Own c G (F) ∧ e = ups g [(1, .pointer (some ⟨b6, 0, none⟩)), (12, .bool z_20)]) ?_ ?_
      · skip
        refine sr ?_
        refine va (.bool (p0.Kind == 1)) ?_
        refine va (.bool (p0.Kind == 1)) ?_
        refine wln ?_
        refine W.cond (t := p0.Kind == 1) (by kernel_rfl) (fun h23 => ?_) (fun h23 => ?_)
        · have H21 := it h23 H21
          refine W.skip ?_
          refine nrm ?_
          obtain rfl := Option.some.inj H21
          exact ⟨c14, _, rfl, (Cx.le.refl _), O16, ups_self ⟨rfl, rfl, trivial⟩⟩
        · have H21 := ie h23 H21
          refine W.region ?_
          refine va (.bool (p0.Kind == 2)) ?_
          refine va (.bool (p0.Kind == 2)) ?_
          refine wln ?_
          obtain rfl := Option.some.inj H21
          exact ⟨c14, _, rfl, (Cx.le.refl _), O16, ups_self ⟨rfl, rfl, trivial⟩⟩
      · skip
        rintro e_ w_ ⟨c24, g25, rfl, l24, O26, rfl⟩
        refine W.cond (t := z_20) (by kernel_rfl) (fun h30 => ?_) (fun h30 => ?_)
        · have H22 := it h30 H22
          refine W.seq ?_
          obtain ⟨d_31, h31, H22⟩ := bs H22
          obtain ⟨d_37, h32, H22⟩ := bs H22
          refine W.join (fun e w => ∃ (c : Cx) (g : Nat → Value), w = c.w ∧ c24.le c ∧ Own c G (F) ∧ e = ups g [(2, .bool d_37)]) ?_ ?_
          · clear H22
            refine W.region ?_
            refine va (.pointer (some ⟨b6, 0 + 1, none⟩)) ?_
            refine WL.val0 (v := .slice a3 a4 a5) rfl (rx (by kernel_rfl) (run_load1 Tryd.underlying25 rfl ((fun j u hu => (m8 j u hu).mono (l14.trans l24)) 1 _ rfl))) ?_
            refine WL.val0 (v := .int .i64 (p0.Text.length : Int)) rfl (rx (by kernel_rfl) (run_len (ty := 3) Tryd.underlying25 (h2.mono (l9.trans (l14.trans l24))) _)) ?_
            refine va (.bool (decide ((p0.Text.length : Int) > 0))) ?_
            rcases Bool.eq_false_or_eq_true (decide ((p0.Text.length : Int) > 0)) with h33 | h33
            · skip
              have H34 := anT h33 h31
              refine vb h33 ?_
              refine wn ?_
              refine va (.pointer (some ⟨b6, 0 + 1, none⟩)) ?_
              refine wn ?_
              refine WL.val0 (v := .slice a3 a4 a5) rfl (rx (by kernel_rfl) (run_load1 Tryd.underlying25 rfl ((fun j u hu => (m8 j u hu).mono (l14.trans l24)) 1 _ rfl))) ?_
              refine wn ?_
              refine WL.val0 (v := .int .i64 (p0.Text.length : Int)) rfl (rx (by kernel_rfl) (run_len (ty := 3) Tryd.underlying25 (h2.mono (l9.trans (l14.trans l24))) _)) ?_
              refine wn ?_
              refine va (.bool (decide ((p0.Text.length : Int) ≤ 16))) ?_
              obtain rfl := Option.some.inj H34
              refine va (.bool (decide ((p0.Text.length : Int) ≤ 16))) ?_
              rcases Bool.eq_false_or_eq_true (decide ((p0.Text.length : Int) ≤ 16)) with h35 | h35
              · skip
                have H36 := anT h35 h32
                refine vb h35 ?_
                refine wn ?_
                refine va (.pointer (some ⟨b6, 0 + 1, none⟩)) ?_
                refine wn ?_
                refine WL.val0 (v := .slice a3 a4 a5) rfl (rx (by kernel_rfl) (run_load1 Tryd.underlying25 rfl ((fun j u hu => (m8 j u hu).mono (l14.trans l24)) 1 _ rfl))) ?_
                refine wn ?_
                obtain ⟨x_41, h37, H36⟩ := bs H36
                refine WL.callP rfl (by kernel_rfl) (c_slices_ContainsFunc_rune_rune__cell_Right_1 O26 p0.Text (h2.mono (l9.trans (l14.trans l24))) h37) ?_
                rintro v43 c42 l42 ⟨O39, rfl⟩
                refine wn ?_
                refine va (.bool (!x_41)) ?_
                obtain rfl := Option.some.inj H36
                refine va (.bool (!x_41)) ?_
                refine va (.bool (!x_41)) ?_
                refine wln ?_
                exact ⟨c42, _, rfl, l42, O39, ups_self ⟨rfl, trivial⟩⟩
              · skip
                obtain rfl := anF h35 h32
                refine vb h35 ?_
                refine ps ?_
                refine ps ?_
                refine ps ?_
                refine ps ?_
                refine va (.bool false) ?_
                refine va (.bool false) ?_
                refine wln ?_
                exact ⟨c24, _, rfl, (Cx.le.refl _), O26, ups_self ⟨rfl, trivial⟩⟩
            · skip
              obtain rfl := anF h33 h31
              refine vb h33 ?_
              refine ps ?_
              refine ps ?_
              refine ps ?_
              refine ps ?_
              refine va (.bool false) ?_
              have h44 : false = false := rfl
              obtain rfl := anF h44 h32
              refine vb h44 ?_
              refine ps ?_
              refine ps ?_
              refine ps ?_
              refine ps ?_
              refine va (.bool false) ?_
              refine va (.bool false) ?_
              refine wln ?_
              exact ⟨c24, _, rfl, (Cx.le.refl _), O26, ups_self ⟨rfl, trivial⟩⟩
          · skip
            rintro e_ w_ ⟨c45, g46, rfl, l45, O47, rfl⟩
            refine nrm ?_
            refine W.ret ?_
            refine bkr ?_
            refine thr ?_
            obtain rfl := Option.some.inj H22
            exact ret1 (v := .bool d_37) rfl (by kernel_rfl) ⟨_, c45, rfl, rfl, (l9.trans (l14.trans (l24.trans l45))), O47, rfl⟩
        · have H22 := ie h30 H22
          refine W.skip ?_
          refine bkn ?_
          refine nrm ?_
          refine sr ?_
          refine va (.bool false) ?_
          refine wln ?_
          refine W.ret ?_
          obtain rfl := Option.some.inj H22
          exact ret1 (v := .bool false) rfl (by kernel_rfl) ⟨_, c24, rfl, rfl, (l9.trans (l14.trans l24)), O26, rfl⟩

def f_cell_Sound (p0 : List G_api_Cell) : Option (Bool) :=
  (iter (σ := Bool × Int) (τ := Bool ⊕ Bool) (((p0.length : Int) - 0).toNat + 1) (fun s_9 =>
  if (decide (s_9.2 < (p0.length : Int))) = true then
  (idx p0 s_9.2).bind fun x_12 =>
  (f_cell_Right x_12).bind fun x_18 =>
  (orE (!x_18) (some (!(s_9.1 == (x_12.Kind == 3))))).bind fun d_20 =>
  if d_20 = true then
  some (.inr (.inl false))
  else
  some (.inl (x_12.Kind == 2, (w64 (s_9.2 + 1))))
  else
  some (.inr (.inr (s_9.1)))) (false, 0)).bind fun o_9 =>
  match o_9 with
  | .inl o_9 =>
  some o_9
  | .inr o_9 =>
  some (!o_9)
theorem c_cell_Sound {c0 : Cx} {G : Gm} {F : List En} {v1 : Value} (O0 : Own c0 G F) (p0 : List G_api_Cell) {r : Bool} (h2 : Sl R_api_Cell c0 v1 p0) (H : f_cell_Sound p0 = some r) :
    Calls Tryd.prog 97 #[v1] c0.w (Post c0 fun c v => Own c G (F) ∧ v = .bool r) := by
  unfold f_cell_Sound at H
  refine enter (l := [v1]) Tryd.func97 rfl rfl rfl ?_
  refine sr ?_
  refine va (.bool false) ?_
  refine wln ?_
  refine sr ?_
  refine va (.bool false) ?_
  refine wln ?_
  refine W.seq ?_
  refine sr ?_
  refine va (v1) ?_
  refine WL.val0 (v := .int .i64 (p0.length : Int)) rfl (rx (by kernel_rfl) (run_len (ty := 3) Tryd.underlying22 h2 _)) ?_
  refine va (.int .i64 0) ?_
  refine wln ?_
  refine W.block ?_
  obtain ⟨o_9, h3, H4⟩ := bs H
  refine W.loop (σ := Bool × Int) (τ := Bool ⊕ Bool) (fun s_9 => fun e w => ∃ (c : Cx) (g : Nat → Value), w = c.w ∧ c0.le c ∧ Own c G (F) ∧ e = ups g [(3, .bool s_9.1), (6, v1), (7, .int .i64 (p0.length : Int)), (8, .int .i64 s_9.2)]) (fun t => match t with | .inl x_ => (fun rr_ ex e w => ex = .ret ∧ (fun e w => ∃ (c : Cx) (g : Nat → Value), w = c.w ∧ c0.le c ∧ Own c G (F) ∧ e = ups g [(2, .bool rr_)]) e w) x_ | .inr x_ => (fun o_9_ ex e w => ex = .exit 0 ∧ (fun e w => ∃ (c : Cx) (g : Nat → Value), w = c.w ∧ c0.le c ∧ Own c G (F) ∧ e = ups g [(3, .bool o_9_)]) e w) x_) ?_ h3 ?_ ?_
  · clear H4 h3
    intro s_9 xx_ ee_ ww_ H
    revert ee_ ww_
    rintro e_ w_ ⟨c5, g6, rfl, l5, O7, rfl⟩
    refine sr ?_
    refine va (.bool (decide (s_9.2 < (p0.length : Int)))) ?_
    refine wln ?_
    refine W.seq ?_
    refine W.cond (t := decide (s_9.2 < (p0.length : Int))) (by kernel_rfl) (fun h11 => ?_) (fun h11 => ?_)
    · have H := it h11 H
      refine W.skip ?_
      refine nrm ?_
      refine W.seq ?_
      refine W.block ?_
      refine sr ?_
      obtain ⟨x_12, h12, H⟩ := bs H
      obtain ⟨l_13, h14, m15⟩ := Sl.at (h2.mono l5) (idx_get h12)
      obtain ⟨v16, rfl, h17⟩ := h14
      refine WL.val0 (v := .pointer (some ⟨sb v1, so v1 + s_9.2.toNat * 2, none⟩)) rfl (rx (by kernel_rfl) (run_index (k := .i64) Tryd.underlying22 (by kernel_rfl) (h2.mono l5) h12 _)) ?_
      refine WL.val0 (v := .agg #[.int .i64 x_12.Kind, v16]) rfl (rx (by kernel_rfl) (run_loadN (T := 27) (by kernel_rfl) (by kernel_rfl) m15)) ?_
      refine WL.mem rfl (Own.al (T := 27) (vs := [.int .i64 0, .slice none 0 0]) O7 (by kernel_rfl)) ?_
      rintro v21 c20 l20 ⟨b18, rfl, O19⟩
      obtain ⟨a22, a23, a24, rfl⟩ := ((h17.mono l20)).form
      refine WL.memD rfl (Own.st (T := 27) (j := 0) (us := [.int .i64 x_12.Kind, .slice a22 a23 a24]) (nw := [.int .i64 x_12.Kind, .slice a22 a23 a24]) (v := .agg #[.int .i64 x_12.Kind, .slice a22 a23 a24]) 0 O19 (by kernel_rfl) rfl rfl rfl rfl (by kernel_rfl) ⟨rfl, (h17.mono l20).one, trivial⟩ rfl rfl) ?_
      rintro c26 l26 O25
      refine wln ?_
      refine W.seq ?_
      refine W.seq ?_
      obtain ⟨x_18, h27, H⟩ := bs H
      obtain ⟨d_20, h28, H⟩ := bs H
      refine W.join (fun e w => ∃ (c : Cx) (g : Nat → Value), w = c.w ∧ c26.le c ∧ Own c G (⟨.pointer (some ⟨b18, 0, none⟩), 27, [.int .i64 x_12.Kind, .slice a22 a23 a24], 0⟩ :: F) ∧ e = ups g [(5, .pointer (some ⟨b18, 0, none⟩)), (6, v1), (7, .int .i64 (p0.length : Int)), (8, .int .i64 s_9.2), (21, .bool d_20)]) ?_ ?_
      · clear H
        refine W.region ?_
        refine WL.val0 (v := .agg #[.int .i64 x_12.Kind, .slice a22 a23 a24]) rfl (rx (by kernel_rfl) (ldEN (T := 27) (j := 0) (l := [.int .i64 x_12.Kind, .slice a22 a23 a24]) (by kernel_rfl) (by kernel_rfl) (O25.on 0 rfl) rfl rfl)) ?_
        refine WL.callP rfl (by kernel_rfl) (c_cell_Right O25 x_12 (h17.mono (l20.trans l26)) h27) ?_
        rintro v34 c33 l33 ⟨O30, rfl⟩
        refine va (.bool (!x_18)) ?_
        rcases Bool.eq_false_or_eq_true (!x_18) with h35 | h35
        · skip
          obtain rfl := orT h35 h28
          refine vb h35 ?_
          refine ps ?_
          refine ps ?_
          refine ps ?_
          refine ps ?_
          refine ps ?_
          refine va (.bool true) ?_
          refine wln ?_
          exact ⟨c33, _, rfl, l33, O30, ups_self ⟨rfl, rfl, rfl, rfl, rfl, trivial⟩⟩
        · skip
          have H36 := orF h35 h28
          refine vb h35 ?_
          refine wn ?_
          refine va (.bool s_9.1) ?_
          refine wn ?_
          refine va (.pointer (some ⟨b18, 0, none⟩)) ?_
          refine wn ?_
          refine WL.val0 (v := .int .i64 x_12.Kind) rfl (rx (by kernel_rfl) (ldE1 (j := 0) Tryd.underlying3 rfl (O30.on 0 rfl) rfl rfl)) ?_
          refine wn ?_
          refine va (.bool (x_12.Kind == 3)) ?_
          refine wn ?_
          refine va (.bool (!(s_9.1 == (x_12.Kind == 3)))) ?_
          obtain rfl := Option.some.inj H36
          refine va (.bool (!(s_9.1 == (x_12.Kind == 3)))) ?_
          refine wln ?_
          exact ⟨c33, _, rfl, l33, O30, ups_self ⟨rfl, rfl, rfl, rfl, rfl, trivial⟩⟩
      · skip
        rintro e_ w_ ⟨c37, g38, rfl, l37, O39, rfl⟩
        refine nrm ?_
        refine W.cond (t := d_20) (by kernel_rfl) (fun h43 => ?_) (fun h43 => ?_)
        · have H := it h43 H
          refine sr ?_
          refine va (.bool false) ?_
          refine wln ?_
          refine W.ret ?_
          refine thr ?_
          refine bkr ?_
          refine thr ?_
          obtain rfl := Option.some.inj H
          refine ⟨_, rfl, ?_⟩
          refine ⟨rfl, ?_⟩
          have O44 := O39.selD 1 [] (by kernel_rfl) (by kernel_rfl)
          exact ⟨c37, _, rfl, (l5.trans (l20.trans (l26.trans l37))), O44, ups_self ⟨rfl, trivial⟩⟩
        · have H := ie h43 H
          refine W.skip ?_
          refine nrm ?_
          refine W.region ?_
          refine va (.pointer (some ⟨b18, 0, none⟩)) ?_
          refine WL.val0 (v := .int .i64 x_12.Kind) rfl (rx (by kernel_rfl) (ldE1 (j := 0) Tryd.underlying3 rfl (O39.on 0 rfl) rfl rfl)) ?_
          refine va (.bool (x_12.Kind == 2)) ?_
          refine va (.bool (x_12.Kind == 2)) ?_
          refine WL.nil ?_
          refine bkn ?_
          refine nrm ?_
          refine W.region ?_
          refine va (.int .i64 (w64 (s_9.2 + 1))) ?_
          refine va (.int .i64 (w64 (s_9.2 + 1))) ?_
          refine WL.nil ?_
          obtain rfl := Option.some.inj H
          refine ⟨_, rfl, ?_⟩
          have O45 := O39.selD 1 [] (by kernel_rfl) (by kernel_rfl)
          exact ⟨c37, _, rfl, (l5.trans (l20.trans (l26.trans l37))), O45, ups_self ⟨rfl, rfl, rfl, rfl, trivial⟩⟩
    · have H := ie h11 H
      refine W.exit ?_
      refine thx ?_
      obtain rfl := Option.some.inj H
      refine ⟨_, rfl, rfl, ?_⟩
      exact ⟨c5, _, rfl, l5, O7, ups_self ⟨rfl, trivial⟩⟩
  · skip
    exact ⟨c0, _, rfl, (Cx.le.refl _), O0, ups_self ⟨rfl, rfl, rfl, rfl, trivial⟩⟩
  · skip
    rcases o_9 with o_9 | o_9
    · skip
      intro ex_; revert ex_
      rintro _ e_ w_ ⟨rfl, c46, g47, rfl, l46, O48, rfl⟩
      refine bkr ?_
      refine thr ?_
      obtain rfl := Option.some.inj H4
      exact ret1 (v := .bool o_9) rfl (by kernel_rfl) ⟨_, c46, rfl, rfl, l46, O48, rfl⟩
    · skip
      rintro _ e_ w_ ⟨rfl, c52, g53, rfl, l52, O54, rfl⟩
      refine bke ?_
      refine nrm ?_
      refine sr ?_
      refine va (.bool o_9) ?_
      refine va (.bool (!o_9)) ?_
      refine va (.bool (!o_9)) ?_
      refine wln ?_
      refine W.ret ?_
      obtain rfl := Option.some.inj H4
      exact ret1 (v := .bool (!o_9)) rfl (by kernel_rfl) ⟨_, c52, rfl, rfl, l52, O54, rfl⟩

def f_cell_Blanks (p0 : Int) : Option (List G_api_Cell) :=
  (rep (imax 0 (imin p0 1024)) (⟨0, ([] : List Int)⟩ : G_api_Cell)).bind fun x_6 =>
  some x_6
theorem c_cell_Blanks {c0 : Cx} {G : Gm} {F : List En} (O0 : Own c0 G F) (p0 : Int) {r : List G_api_Cell} (H : f_cell_Blanks p0 = some r) :
    Calls Tryd.prog 102 #[.int .i64 p0] c0.w (Post c0 fun c v => ∃ y1 : Value, ∃ y2 : List Value, Own c G (es true R_api_Cell y1 27 y2 r :: F) ∧ v = y1 ∧ OA R_api_Cell c y1 y2 r) := by
  unfold f_cell_Blanks at H
  refine enter (l := [.int .i64 p0]) Tryd.func102 rfl rfl rfl ?_
  refine sr ?_
  refine va (.slice none 0 0) ?_
  refine wln ?_
  refine sr ?_
  refine va (.int .i64 p0) ?_
  refine va (.int .i64 (imin p0 1024)) ?_
  refine va (.int .i64 (imax 0 (imin p0 1024))) ?_
  obtain ⟨x_6, h1, H⟩ := bs H
  refine WL.mem rfl (Own.mkS (kl := .i64) (kc := .i64) (R := R_api_Cell) (z := .agg #[.int .i64 0, .slice none 0 0]) (lz := [.int .i64 0, .slice none 0 0]) (x := (⟨0, ([] : List Int)⟩ : G_api_Cell)) (by_ := 32) (i := (imax 0 (imin p0 1024))) (j := (imax 0 (imin p0 1024))) true O0 (Nat.succ_pos _) h1 (Int.le_refl _) (rep_le h1) Tryd.underlying22 (by kernel_rfl) rfl rfl (fun _ => ⟨(.slice none 0 0), rfl, (Sl.nl _ _)⟩) (by kernel_rfl) (by kernel_rfl)) ?_
  rintro v6 c5 l5 ⟨u3, O2, h4⟩
  refine va (v6) ?_
  refine wln ?_
  refine W.ret ?_
  obtain rfl := Option.some.inj H
  exact ret1 (v := v6) rfl (by kernel_rfl) ⟨_, c5, rfl, rfl, l5, v6, u3, O2, rfl, h4⟩

def f_row_New (sg : Sto) (p0 : Int) : Option (Sto × (Option Nat)) :=
  (f_cell_Blanks (imax 1 p0)).bind fun x_5 =>
  (some (sg.add_row_Row (⟨x_5, false⟩ : G_row_Row))).bind fun s_7001 =>
  some (s_7001, (some sg.row_Row.length))
theorem c_row_New {c0 : Cx} {G : Gm} {F : List En} {sg : Sto} (O0 : Own c0 G F) (R0 : Rel c0 sg G) (p0 : Int) {r : Sto × (Option Nat)} (H : f_row_New sg p0 = some r) :
    Calls Tryd.prog 44 #[.int .i64 p0] c0.w (Post c0 fun c v => ∃ y1 : Value, ∃ G_ : Gm, Own c G_ (F) ∧ Rel c r.1 G_ ∧ Adds G G_ ∧ v = y1 ∧ Pt 0 c y1 r.2) := by
  unfold f_row_New at H
  refine enter (l := [.int .i64 p0]) Tryd.func44 rfl rfl rfl ?_
  refine sr ?_
  refine va (.pointer none) ?_
  refine wln ?_
  refine sr ?_
  refine va (.int .i64 p0) ?_
  refine va (.int .i64 (imax 1 p0)) ?_
  obtain ⟨x_5, h1, H⟩ := bs H
  refine WL.callP rfl (by kernel_rfl) (c_cell_Blanks O0 (imax 1 p0) h1) ?_
  rintro v2 c9 l9 ⟨_, u3, O6, rfl, h4⟩
  obtain ⟨a11, a12, a13, rfl⟩ := (h4).form
  refine va (.agg #[.slice a11 a12 a13, .bool false]) ?_
  refine WL.mem rfl (Own.al (T := 160) (vs := [.slice a11 a12 a13, .bool false]) O6 (by kernel_rfl)) ?_
  rintro v17 c16 l16 ⟨b14, rfl, O15⟩
  have O18 := O15.selD 2 [0, 1] (by kernel_rfl) (by kernel_rfl)
  obtain ⟨s_7001, h19, H⟩ := bs H
  obtain ⟨c20, G28, h21, l20, h22, O23, R24, h25, h26, a27⟩ := Rel.new_row_Row (E := [⟨.pointer (some ⟨b14, 0, none⟩), 160, [.slice a11 a12 a13, .bool false], 0⟩, es true R_api_Cell (.slice a11 a12 a13) 27 u3 x_5]) (F := F) (x := (⟨x_5, false⟩ : G_row_Row)) (b := b14) O18 (R0.mono (l9.trans l16)) (fun c_ hle_ => ⟨b14, (.slice a11 a12 a13), u3, rfl, rfl, ((h4.mono l16).mono hle_)⟩)
  rw [Option.some.inj h19] at R24
  refine WL.gh h21.1 ?_
  have h29 := Adds.nil (Adds.refl _) h26
  have a30 := (Adds.refl _).trans a27
  have h32 : Pt 0 c20 (.pointer (some ⟨b14, 0, none⟩)) (some sg.row_Row.length) := ⟨b14, rfl, h22⟩
  refine va (.pointer (some ⟨b14, 0, none⟩)) ?_
  refine wln ?_
  refine W.ret ?_
  obtain rfl := Option.some.inj H
  exact ret1 (v := .pointer (some ⟨b14, 0, none⟩)) rfl (by kernel_rfl) ⟨_, c20, rfl, rfl, (l9.trans (l16.trans l20)), (.pointer (some ⟨b14, 0, none⟩)), G28, O23, R24, a30, rfl, h32⟩

def f_row_own (p0 : G_api_Cell) : Option (G_api_Cell) :=
  (f_slices_Clone p0.Text).bind fun x_8 =>
  some (⟨p0.Kind, x_8⟩ : G_api_Cell)
theorem c_row_own {c0 : Cx} {G : Gm} {F : List En} {v1 : Value} (O0 : Own c0 G F) (p0 : G_api_Cell) {r : G_api_Cell} (h2 : Sl (RI .i32) c0 v1 p0.Text) (H : f_row_own p0 = some r) :
    Calls Tryd.prog 98 #[.agg #[.int .i64 p0.Kind, v1]] c0.w (Post c0 fun c v => ∃ y1 : Value, ∃ y2 : List Value, Own c G (es true (RI .i32) y1 21 y2 r.Text :: F) ∧ v = .agg #[.int .i64 r.Kind, y1] ∧ OA (RI .i32) c y1 y2 r.Text) := by
  unfold f_row_own at H
  refine enter (l := [.agg #[.int .i64 p0.Kind, v1]]) Tryd.func98 rfl rfl rfl ?_
  refine sr ?_
  obtain ⟨a3, a4, a5, rfl⟩ := (h2).form
  refine WL.mem rfl (Own.bx (T := 27) (vs := [.int .i64 p0.Kind, .slice a3 a4 a5]) O0 (by kernel_rfl)) ?_
  rintro v10 c9 l9 ⟨b6, rfl, O7, m8⟩
  refine WL.mem rfl (Own.al (T := 27) (vs := [.int .i64 0, .slice none 0 0]) O7 (by kernel_rfl)) ?_
  rintro v14 c13 l13 ⟨b11, rfl, O12⟩
  refine wln ?_
  refine W.seq ?_
  refine W.regionD [] (Kp G0 []) O12 (by kernel_rfl) ?_
  intro c15 l15 O16
  have p17 : Kp G0 [] c15 := Kp.nil0
  refine ta 0 (.pointer (some ⟨b6, 0, none⟩)) ?_
  refine AC.take 1 (.int .i64 p0.Kind) rfl (by kernel_rfl) (by kernel_rfl) (fun c' hle => (rx (by kernel_rfl) (run_load1 Tryd.underlying3 rfl ((fun j u hu => (m8 j u hu).mono ((l13.trans l15).trans hle)) 0 _ rfl)))) ?_
  refine ta 2 (.pointer (some ⟨b6, 0 + 1, none⟩)) ?_
  refine AC.take 3 (.slice a3 a4 a5) rfl (by kernel_rfl) (by kernel_rfl) (fun c' hle => (rx (by kernel_rfl) (run_load1 Tryd.underlying25 rfl ((fun j u hu => (m8 j u hu).mono ((l13.trans l15).trans hle)) 1 _ rfl)))) ?_
  obtain ⟨x_8, h18, H⟩ := bs H
  refine AC.one 4 (by kernel_rfl) (Go1.callP 4 rfl (by kernel_rfl) (by kernel_rfl) (by kernel_rfl) (c_slices_Clone O16 p0.Text (h2.mono (l9.trans (l13.trans l15))) h18) ?_)
  rintro v19 c26 l26 ⟨_, u20, O23, rfl, h21⟩
  have p28 : Kp G0 [] c26 := Kp.nil0
  refine ⟨.inr p28, ?_⟩
  obtain ⟨a29, a30, a31, rfl⟩ := (h21).form
  refine ta 5 (.agg #[.int .i64 p0.Kind, .slice a29 a30 a31]) ?_
  refine AC.one 6 (by kernel_rfl) (Go1.memD 6 rfl (by kernel_rfl) (by kernel_rfl) (Own.st (T := 27) (j := 0) (us := [.int .i64 p0.Kind, .slice a29 a30 a31]) (nw := [.int .i64 p0.Kind, .slice a29 a30 a31]) (v := .agg #[.int .i64 p0.Kind, .slice a29 a30 a31]) 1 O23 (by kernel_rfl) rfl rfl rfl rfl (by kernel_rfl) ⟨rfl, (h21).one, trivial⟩ rfl rfl) ?_)
  rintro c33 l33 O32
  have p34 : Kp G0 [] c33 := Kp.nil0
  refine ⟨.inr p34, ?_⟩
  refine AC.done (by kernel_rfl) ?_
  refine nrm ?_
  refine W.ret ?_
  obtain rfl := Option.some.inj H
  have O35 := O32.selD 2 [0] (by kernel_rfl) (by kernel_rfl)
  exact retC (c := c33) (vs := [.int .i64 p0.Kind, .slice a29 a30 a31]) rfl (by kernel_rfl) (by kernel_rfl) (by kernel_rfl) (O32.on 1 rfl _ rfl).1 ⟨_, c33, rfl, rfl, (l9.trans (l13.trans (l15.trans (l26.trans l33)))), (.slice a29 a30 a31), u20, O35, rfl, (h21.mono l33)⟩

def f_row_Of (sg : Sto) (p0 : List G_api_Cell) : Option (Sto × (Option Nat) × Er) :=
  (orE ((p0.length : Int) == 0) (some (decide ((p0.length : Int) > 1024)))).bind fun d_7 =>
  if d_7 = true then
  some (sg, (none : Option Nat), (Er.sent 0))
  else
  (f_cell_Sound p0).bind fun x_19 =>
  if (!x_19) = true then
  some (sg, (none : Option Nat), (Er.sent 1))
  else
  (f_row_New sg (p0.length : Int)).bind fun x_29 =>
  (iter (σ := Int × Sto) (τ := Sto) (((p0.length : Int) - 0).toNat + 1) (fun s_36 =>
  if (decide (s_36.1 < (p0.length : Int))) = true then
  (idx p0 s_36.1).bind fun x_40 =>
  (x_29.2).bind fun k_47 =>
  (s_36.2.row_Row[k_47]?).bind fun o_49 =>
  (f_row_own x_40).bind fun x_52 =>
  (idx o_49.cells s_36.1).bind fun x_53 =>
  (sets o_49.cells s_36.1 x_52).bind fun w_54 =>
  (s_36.2.set_row_Row k_47 (⟨w_54, o_49.wrap⟩ : G_row_Row)).bind fun s_54001 =>
  some (.inl ((w64 (s_36.1 + 1)), s_54001))
  else
  some (.inr (s_36.2))) (0, x_29.1)).bind fun o_36 =>
  some (o_36, x_29.2, Er.nil)
theorem c_row_Of {c0 : Cx} {G : Gm} {F : List En} {sg : Sto} {v1 : Value} (O0 : Own c0 G F) (R0 : Rel c0 sg G) (hG : Gl [0, 1] c0) (p0 : List G_api_Cell) {r : Sto × (Option Nat) × Er} (h2 : Sl R_api_Cell c0 v1 p0) (H : f_row_Of sg p0 = some r) :
    Calls Tryd.prog 24 #[v1] c0.w (Post c0 fun c v => ∃ y1 : Value, ∃ y2 : Value, ∃ G_ : Gm, Own c G_ (F) ∧ Rel c r.1 G_ ∧ v = .tuple #[y1, y2] ∧ Pt 0 c y1 r.2.1 ∧ RE 252 217 c y2 r.2.2) := by
  unfold f_row_Of at H
  refine enter (l := [v1]) Tryd.func24 rfl rfl rfl ?_
  refine sr ?_
  refine va (.pointer none) ?_
  refine va (.nilIface) ?_
  refine wln ?_
  refine W.seq ?_
  refine W.block ?_
  refine W.seq ?_
  obtain ⟨d_7, h3, H⟩ := bs H
  refine W.join (fun e w => ∃ (c : Cx) (g : Nat → Value), w = c.w ∧ c0.le c ∧ Own c G (F) ∧ e = ups g [(0, v1), (7, .bool d_7)]) ?_ ?_
  · clear H
    refine W.region ?_
    refine va (v1) ?_
    refine WL.val0 (v := .int .i64 (p0.length : Int)) rfl (rx (by kernel_rfl) (run_len (ty := 3) Tryd.underlying22 h2 _)) ?_
    refine va (.bool ((p0.length : Int) == 0)) ?_
    rcases Bool.eq_false_or_eq_true ((p0.length : Int) == 0) with h4 | h4
    · skip
      obtain rfl := orT h4 h3
      refine vb h4 ?_
      refine ps ?_
      refine ps ?_
      refine ps ?_
      refine va (.bool true) ?_
      refine va (.bool true) ?_
      refine wln ?_
      exact ⟨c0, _, rfl, (Cx.le.refl _), O0, ups_self ⟨rfl, rfl, trivial⟩⟩
    · skip
      have H5 := orF h4 h3
      refine vb h4 ?_
      refine wn ?_
      refine va (v1) ?_
      refine wn ?_
      refine WL.val0 (v := .int .i64 (p0.length : Int)) rfl (rx (by kernel_rfl) (run_len (ty := 3) Tryd.underlying22 h2 _)) ?_
      refine wn ?_
      refine va (.bool (decide ((p0.length : Int) > 1024))) ?_
      obtain rfl := Option.some.inj H5
      refine va (.bool (decide ((p0.length : Int) > 1024))) ?_
      refine va (.bool (decide ((p0.length : Int) > 1024))) ?_
      refine wln ?_
      exact ⟨c0, _, rfl, (Cx.le.refl _), O0, ups_self ⟨rfl, rfl, trivial⟩⟩
  · skip
    rintro e_ w_ ⟨c6, g7, rfl, l6, O8, rfl⟩
    refine nrm ?_
    refine W.cond (t := d_7) (by kernel_rfl) (fun h12 => ?_) (fun h12 => ?_)
    · have H := it h12 H
      refine W.seq ?_
      refine W.regionD [] (Kp G0 []) O8 (by kernel_rfl) ?_
      intro c13 l13 O14
      have p15 : Kp G0 [] c13 := Kp.nil0
      obtain ⟨v16, h17⟩ := (hG.mono (l6.trans l13)).get 0 (by decide)
      refine AC.take 0 (v16) rfl (by kernel_rfl) (by kernel_rfl) (fun c' hle => (rx (by kernel_rfl) (run_load1 Tryd.underlying30 rfl (h17.mono hle).im))) ?_
      refine ta 1 (.pointer none) ?_
      refine ta 2 (v16) ?_
      refine AC.done (by kernel_rfl) ?_
      refine nrm ?_
      refine W.ret ?_
      refine bkr ?_
      refine thr ?_
      obtain rfl := Option.some.inj H
      exact ret2 (v := .pointer none) (v' := v16) rfl (by kernel_rfl) (by kernel_rfl) ⟨_, c13, rfl, rfl, (l6.trans l13), (.pointer none), v16, G, O14, (R0.mono (l6.trans l13)), rfl, rfl, h17⟩
    · have H := ie h12 H
      refine sr ?_
      refine va (v1) ?_
      obtain ⟨x_19, h18, H⟩ := bs H
      refine WL.callP rfl (by kernel_rfl) (c_cell_Sound O8 p0 (h2.mono l6) h18) ?_
      rintro v24 c23 l23 ⟨O20, rfl⟩
      refine va (.bool (!x_19)) ?_
      refine va (.bool (!x_19)) ?_
      refine wln ?_
      refine W.cond (t := !x_19) (by kernel_rfl) (fun h25 => ?_) (fun h25 => ?_)
      · have H := it h25 H
        refine W.seq ?_
        refine W.regionD [] (Kp G0 []) O20 (by kernel_rfl) ?_
        intro c26 l26 O27
        have p28 : Kp G0 [] c26 := Kp.nil0
        obtain ⟨v29, h30⟩ := (hG.mono (l6.trans (l23.trans l26))).get 1 (by decide)
        refine AC.take 0 (v29) rfl (by kernel_rfl) (by kernel_rfl) (fun c' hle => (rx (by kernel_rfl) (run_load1 Tryd.underlying30 rfl (h30.mono hle).im))) ?_
        refine ta 1 (.pointer none) ?_
        refine ta 2 (v29) ?_
        refine AC.done (by kernel_rfl) ?_
        refine nrm ?_
        refine W.ret ?_
        refine bkr ?_
        refine thr ?_
        obtain rfl := Option.some.inj H
        exact ret2 (v := .pointer none) (v' := v29) rfl (by kernel_rfl) (by kernel_rfl) ⟨_, c26, rfl, rfl, (l6.trans (l23.trans l26)), (.pointer none), v29, G, O27, (R0.mono (l6.trans (l23.trans l26))), rfl, rfl, h30⟩
      · have H := ie h25 H
        refine W.skip ?_
        refine bkn ?_
        refine nrm ?_
        refine sr ?_
        refine va (v1) ?_
        refine WL.val0 (v := .int .i64 (p0.length : Int)) rfl (rx (by kernel_rfl) (run_len (ty := 3) Tryd.underlying22 (h2.mono (l6.trans l23)) _)) ?_
        obtain ⟨x_29, h31, H⟩ := bs H
        refine WL.callP rfl (by kernel_rfl) (c_row_New O20 (R0.mono (l6.trans l23)) (p0.length : Int) h31) ?_
        rintro v32 c38 l38 ⟨_, G34, O35, R36, a37, rfl, h33⟩
        refine va (v32) ?_
        refine wln ?_
        refine W.seq ?_
        refine sr ?_
        refine va (v1) ?_
        refine WL.val0 (v := .int .i64 (p0.length : Int)) rfl (rx (by kernel_rfl) (run_len (ty := 3) Tryd.underlying22 (h2.mono (l6.trans (l23.trans l38))) _)) ?_
        refine va (.int .i64 0) ?_
        refine wln ?_
        refine W.block ?_
        obtain ⟨o_36, h40, H41⟩ := bs H
        refine W.loop (σ := Int × Sto) (τ := Sto) (fun s_36 => fun e w => ∃ (c : Cx) (g : Nat → Value) (G_ : Gm), w = c.w ∧ c38.le c ∧ Own c G_ (F) ∧ e = ups g [(4, v32), (25, v1), (26, .int .i64 (p0.length : Int)), (27, .int .i64 s_36.1)] ∧ Rel c s_36.2 G_) (fun o_36_ ex e w => ex = .exit 1 ∧ (fun e w => ∃ (c : Cx) (g : Nat → Value) (G_ : Gm), w = c.w ∧ c38.le c ∧ Own c G_ (F) ∧ e = ups g [(4, v32)] ∧ Rel c o_36_ G_) e w) ?_ h40 ?_ ?_
        · clear H41 h40
          intro s_36 xx_ ee_ ww_ H
          revert ee_ ww_
          rintro e_ w_ ⟨c42, g43, G45, rfl, l42, O44, rfl, R46⟩
          refine sr ?_
          refine va (.bool (decide (s_36.1 < (p0.length : Int)))) ?_
          refine wln ?_
          refine W.seq ?_
          refine W.cond (t := decide (s_36.1 < (p0.length : Int))) (by kernel_rfl) (fun h48 => ?_) (fun h48 => ?_)
          · have H := it h48 H
            refine W.skip ?_
            refine nrm ?_
            refine W.seq ?_
            refine W.block ?_
            refine sr ?_
            refine va (.int .i64 s_36.1) ?_
            obtain ⟨x_40, h49, H⟩ := bs H
            obtain ⟨l_50, h51, m52⟩ := Sl.at (h2.mono (l6.trans (l23.trans (l38.trans l42)))) (idx_get h49)
            obtain ⟨v53, rfl, h54⟩ := h51
            refine WL.val0 (v := .pointer (some ⟨sb v1, so v1 + s_36.1.toNat * 2, none⟩)) rfl (rx (by kernel_rfl) (run_index (k := .i64) Tryd.underlying22 (by kernel_rfl) (h2.mono (l6.trans (l23.trans (l38.trans l42)))) h49 _)) ?_
            refine WL.val0 (v := .agg #[.int .i64 x_40.Kind, v53]) rfl (rx (by kernel_rfl) (run_loadN (T := 27) (by kernel_rfl) (by kernel_rfl) m52)) ?_
            refine WL.mem rfl (Own.al (T := 27) (vs := [.int .i64 0, .slice none 0 0]) O44 (by kernel_rfl)) ?_
            rintro v58 c57 l57 ⟨b55, rfl, O56⟩
            refine va (.int .i64 s_36.1) ?_
            obtain ⟨a59, a60, a61, rfl⟩ := ((h54.mono l57)).form
            refine WL.memD rfl (Own.st (T := 27) (j := 0) (us := [.int .i64 x_40.Kind, .slice a59 a60 a61]) (nw := [.int .i64 x_40.Kind, .slice a59 a60 a61]) (v := .agg #[.int .i64 x_40.Kind, .slice a59 a60 a61]) 0 O56 (by kernel_rfl) rfl rfl rfl rfl (by kernel_rfl) ⟨rfl, (h54.mono l57).one, trivial⟩ rfl rfl) ?_
            rintro c63 l63 O62
            refine wln ?_
            refine W.regionD [8] (Kp G45 [⟨.pointer (some ⟨b55, 0, none⟩), 27, [.int .i64 x_40.Kind, .slice a59 a60 a61], 0⟩]) O62 (by kernel_rfl) ?_
            intro c64 l64 O65
            have p66 : Kp G45 [⟨.pointer (some ⟨b55, 0, none⟩), 27, [.int .i64 x_40.Kind, .slice a59 a60 a61], 0⟩] c64 := (Kp.cons (O65.on 0 rfl) (Kp.nil O65))
            refine ta 0 (v32) ?_
            obtain ⟨k_47, h69, H⟩ := bs H
            obtain ⟨b67, rfl, h68⟩ := ((h33.mono (l42.trans (l57.trans (l63.trans l64))))).get h69
            refine ta 1 (.pointer (some ⟨b67, 0, none⟩)) ?_
            refine ta 2 (.pointer (some ⟨b67, 0, none⟩)) ?_
            obtain ⟨o_49, h70, H⟩ := bs H
            obtain ⟨v71, u72, h74, h73⟩ := Rel.open_row_Row (R46.mono (l57.trans (l63.trans l64))) h70 h68
            refine AC.takeK 3 (v71) p66 rfl (by kernel_rfl) (by kernel_rfl) (by kernel_rfl) (fun c' hle hk => (rx (by kernel_rfl) (ldE1 (j := 0) Tryd.underlying22 rfl (hk.gon h74 0 rfl) rfl rfl))) ?_
            refine ta 4 (.int .i64 s_36.1) ?_
            refine AC.takeK 5 (.agg #[.int .i64 x_40.Kind, .slice a59 a60 a61]) p66 rfl (by kernel_rfl) (by kernel_rfl) (by kernel_rfl) (fun c' hle hk => (rx (by kernel_rfl) (ldEN (T := 27) (j := 0) (l := [.int .i64 x_40.Kind, .slice a59 a60 a61]) (by kernel_rfl) (by kernel_rfl) (hk.on 0 rfl) rfl rfl))) ?_
            obtain ⟨x_52, h75, H⟩ := bs H
            refine AC.one 6 (by kernel_rfl) (Go1.callP 6 rfl (by kernel_rfl) (by kernel_rfl) (by kernel_rfl) (c_row_own O65 x_40 (h54.mono (l57.trans (l63.trans l64))) h75) ?_)
            rintro v84 c83 l83 ⟨v76, u77, O80, rfl, h78⟩
            have p85 : Kp G45 [⟨.pointer (some ⟨b55, 0, none⟩), 27, [.int .i64 x_40.Kind, .slice a59 a60 a61], 0⟩] c83 := (Kp.cons (O80.on 1 rfl) (Kp.nil O80))
            refine ⟨.inr p85, ?_⟩
            obtain ⟨x_53, h86, H⟩ := bs H
            refine AC.take 7 (.pointer (some ⟨sb v71, s_36.1.toNat * 2, none⟩)) rfl (by kernel_rfl) (by kernel_rfl) (fun c' hle => (rx (by kernel_rfl) (run_indexO (k := .i64) Tryd.underlying22 (by kernel_rfl) (h73.mono l83) h86 _))) ?_
            obtain ⟨c89, h90, l89, O87, h88⟩ := O80.frz 0 rfl h78
            have p91 : Kp G45 [⟨.pointer (some ⟨b55, 0, none⟩), 27, [.int .i64 x_40.Kind, .slice a59 a60 a61], 0⟩] c89 := (Kp.cons (O87.on 1 rfl) (Kp.nil O87))
            refine AC.gh h90 l89 (fun _ => p91) ?_
            obtain ⟨a92, a93, a94, rfl⟩ := (h88).form
            have O95 := O87.borrow 1 h74 rfl
            obtain ⟨w_54, h96, H⟩ := bs H
            refine AC.one 8 (by kernel_rfl) (Go1.memD 8 rfl (by kernel_rfl) (by kernel_rfl) (Own.stW (R := R_api_Cell) (T := 27) (us := [.int .i64 x_52.Kind, .slice a92 a93 a94]) (x' := x_52) (u := .agg #[.int .i64 x_52.Kind, .slice a92 a93 a94]) 0 O95 (by kernel_rfl) rfl (h73.mono (l83.trans l89)) h96 rfl (by kernel_rfl) ⟨rfl, h88.one, trivial⟩ rfl ⟨(.slice a92 a93 a94), rfl, h88⟩) ?_)
            rintro c100 l100 ⟨u98, O97, h99⟩
            have O101 := O97.giveB 1 rfl
            obtain ⟨s_54001, h106, H⟩ := bs H
            obtain ⟨G102, O103, R104, h105, a107⟩ := Rel.put_row_Row O101 (R46.mono (l57.trans (l63.trans (l64.trans (l83.trans (l89.trans l100)))))) (E' := [⟨.pointer (some ⟨b67, 0, none⟩), 160, [v71, .bool o_49.wrap], 0⟩, es true R_api_Cell v71 27 u98 w_54]) h106 ⟨b67, v71, u98, ((l83.trans (l89.trans l100)).t _ _ _ h68), rfl, h99⟩
            refine ⟨.inl rfl, ?_⟩
            refine AC.done (by kernel_rfl) ?_
            refine bkn ?_
            refine nrm ?_
            refine W.region ?_
            refine va (.int .i64 (w64 (s_36.1 + 1))) ?_
            refine va (.int .i64 (w64 (s_36.1 + 1))) ?_
            refine WL.nil ?_
            obtain rfl := Option.some.inj H
            refine ⟨_, rfl, ?_⟩
            have O108 := O103.selD 2 [] (by kernel_rfl) (by kernel_rfl)
            exact ⟨c100, _, G102, rfl, (l42.trans (l57.trans (l63.trans (l64.trans (l83.trans (l89.trans l100)))))), O108, ups_self ⟨rfl, rfl, rfl, rfl, trivial⟩, R104⟩
          · have H := ie h48 H
            refine W.exit ?_
            refine thx ?_
            obtain rfl := Option.some.inj H
            refine ⟨_, rfl, rfl, ?_⟩
            exact ⟨c42, _, G45, rfl, l42, O44, ups_self ⟨rfl, trivial⟩, R46⟩
        · skip
          exact ⟨c38, _, G34, rfl, (Cx.le.refl _), O35, ups_self ⟨rfl, rfl, rfl, rfl, trivial⟩, R36⟩
        · skip
          rintro _ e_ w_ ⟨rfl, c109, g110, G112, rfl, l109, O111, rfl, R113⟩
          refine bke ?_
          refine nrm ?_
          refine sr ?_
          refine va (v32) ?_
          refine va (v32) ?_
          refine va (.nilIface) ?_
          refine wln ?_
          refine W.ret ?_
          obtain rfl := Option.some.inj H41
          exact ret2 (v := v32) (v' := .nilIface) rfl (by kernel_rfl) (by kernel_rfl) ⟨_, c109, rfl, rfl, (l6.trans (l23.trans (l38.trans l109))), v32, .nilIface, G112, O111, R113, rfl, (h33.mono l109), rfl⟩

def f_row_Row_Wide (sg : Sto) (p0 : Option Nat) : Option (Int) :=
  if p0.isNone = true then
  some 0
  else
  (p0).bind fun k_9 =>
  (sg.row_Row[k_9]?).bind fun o_11 =>
  some (o_11.cells.length : Int)
theorem c_row_Row_Wide {c0 : Cx} {G : Gm} {F : List En} {sg : Sto} {v1 : Value} (O0 : Own c0 G F) (R0 : Rel c0 sg G) (p0 : Option Nat) {r : Int} (h2 : Pt 0 c0 v1 p0) (H : f_row_Row_Wide sg p0 = some r) :
    Calls Tryd.prog 50 #[v1] c0.w (Post c0 fun c v => Own c G (F) ∧ v = .int .i64 r) := by
  unfold f_row_Row_Wide at H
  refine enter (l := [v1]) Tryd.func50 rfl rfl rfl ?_
  refine sr ?_
  refine va (.int .i64 0) ?_
  refine wln ?_
  refine W.seq ?_
  refine sr ?_
  refine va (v1) ?_
  refine WL.val0 (v := .bool p0.isNone) rfl (by rcases (h2).cs with ⟨h1_, h2_⟩ | ⟨b_, h1_, h2_⟩ <;> (subst h1_; rw [h2_]; kernel_rfl)) ?_
  refine wln ?_
  refine W.cond (t := p0.isNone) (by kernel_rfl) (fun h3 => ?_) (fun h3 => ?_)
  · have H := it h3 H
    refine sr ?_
    refine va (.int .i64 0) ?_
    refine wln ?_
    refine W.ret ?_
    refine thr ?_
    obtain rfl := Option.some.inj H
    exact ret1 (v := .int .i64 0) rfl (by kernel_rfl) ⟨_, c0, rfl, rfl, Cx.le.refl _, O0, rfl⟩
  · have H := ie h3 H
    refine W.skip ?_
    refine nrm ?_
    refine sr ?_
    refine va (v1) ?_
    obtain ⟨k_9, h6, H⟩ := bs H
    obtain ⟨b4, rfl, h5⟩ := (h2).get h6
    refine va (.pointer (some ⟨b4, 0, none⟩)) ?_
    refine va (.pointer (some ⟨b4, 0, none⟩)) ?_
    obtain ⟨o_11, h7, H⟩ := bs H
    obtain ⟨v8, u9, h11, h10⟩ := Rel.open_row_Row R0 h7 h5
    refine WL.val0 (v := v8) rfl (rx (by kernel_rfl) (ldE1 (j := 0) Tryd.underlying22 rfl (O0.gon h11 0 rfl) rfl rfl)) ?_
    refine WL.val0 (v := .int .i64 (o_11.cells.length : Int)) rfl (rx (by kernel_rfl) (run_lenO (ty := 3) Tryd.underlying22 h10 _)) ?_
    refine va (.int .i64 (o_11.cells.length : Int)) ?_
    refine wln ?_
    refine W.ret ?_
    obtain rfl := Option.some.inj H
    exact ret1 (v := .int .i64 (o_11.cells.length : Int)) rfl (by kernel_rfl) ⟨_, c0, rfl, rfl, Cx.le.refl _, O0, rfl⟩

def f_row_Row_Cells (sg : Sto) (p0 : Option Nat) : Option (List G_api_Cell) :=
  (f_row_Row_Wide sg p0).bind fun x_6 =>
  (iter (σ := (List G_api_Cell) × Int) (τ := (List G_api_Cell)) ((x_6 - 0).toNat + 1) (fun s_9 =>
  if (decide (s_9.2 < x_6)) = true then
  (p0).bind fun k_17 =>
  (sg.row_Row[k_17]?).bind fun o_19 =>
  (idx o_19.cells s_9.2).bind fun x_21 =>
  (f_row_own x_21).bind fun x_23 =>
  (app s_9.1 ([x_23] : List G_api_Cell)).bind fun x_25 =>
  some (.inl (x_25, (w64 (s_9.2 + 1))))
  else
  some (.inr (s_9.1))) (([] : List G_api_Cell), 0)).bind fun o_9 =>
  some o_9
theorem c_row_Row_Cells {c0 : Cx} {G : Gm} {F : List En} {sg : Sto} {v1 : Value} (O0 : Own c0 G F) (R0 : Rel c0 sg G) (p0 : Option Nat) {r : List G_api_Cell} (h2 : Pt 0 c0 v1 p0) (H : f_row_Row_Cells sg p0 = some r) :
    Calls Tryd.prog 25 #[v1] c0.w (Post c0 fun c v => ∃ y1 : Value, ∃ y2 : List Value, Own c G (es true R_api_Cell y1 27 y2 r :: F) ∧ v = y1 ∧ OA R_api_Cell c y1 y2 r) := by
  unfold f_row_Row_Cells at H
  refine enter (l := [v1]) Tryd.func25 rfl rfl rfl ?_
  refine sr ?_
  refine va (.slice none 0 0) ?_
  refine wln ?_
  refine sr ?_
  refine va (.slice none 0 0) ?_
  refine wln ?_
  refine W.seq ?_
  refine sr ?_
  refine va (v1) ?_
  obtain ⟨x_6, h3, H⟩ := bs H
  refine WL.callP rfl (by kernel_rfl) (c_row_Row_Wide O0 R0 p0 h2 h3) ?_
  rintro v9 c8 l8 ⟨O5, rfl⟩
  refine va (.int .i64 0) ?_
  refine wln ?_
  refine W.block ?_
  obtain ⟨o_9, h10, H11⟩ := bs H
  refine W.loop (σ := (List G_api_Cell) × Int) (τ := (List G_api_Cell)) (fun s_9 => fun e w => ∃ (c : Cx) (g : Nat → Value) (v12 : Value) (u13 : List Value), w = c.w ∧ c8.le c ∧ Own c G (es true R_api_Cell v12 27 u13 s_9.1 :: F) ∧ e = ups g [(0, v1), (3, v12), (6, .int .i64 x_6), (7, .int .i64 s_9.2)] ∧ OA R_api_Cell c v12 u13 s_9.1) (fun o_9_ ex e w => ex = .exit 0 ∧ (fun e w => ∃ (c : Cx) (g : Nat → Value) (v14 : Value) (u15 : List Value), w = c.w ∧ c8.le c ∧ Own c G (es true R_api_Cell v14 27 u15 o_9_ :: F) ∧ e = ups g [(3, v14)] ∧ OA R_api_Cell c v14 u15 o_9_) e w) ?_ h10 ?_ ?_
  · clear H11 h10
    intro s_9 xx_ ee_ ww_ H
    revert ee_ ww_
    rintro e_ w_ ⟨c16, g17, v12, u13, rfl, l16, O18, rfl, h19⟩
    refine sr ?_
    refine va (.bool (decide (s_9.2 < x_6))) ?_
    refine wln ?_
    refine W.seq ?_
    refine W.cond (t := decide (s_9.2 < x_6)) (by kernel_rfl) (fun h23 => ?_) (fun h23 => ?_)
    · have H := it h23 H
      refine W.skip ?_
      refine nrm ?_
      refine W.seq ?_
      refine W.block ?_
      refine sr ?_
      refine va (.int .i64 s_9.2) ?_
      refine va (.int .i64 s_9.2) ?_
      refine wln ?_
      refine W.region ?_
      refine va (v12) ?_
      refine va (v1) ?_
      obtain ⟨k_17, h26, H⟩ := bs H
      obtain ⟨b24, rfl, h25⟩ := ((h2.mono (l8.trans l16))).get h26
      refine va (.pointer (some ⟨b24, 0, none⟩)) ?_
      refine va (.pointer (some ⟨b24, 0, none⟩)) ?_
      obtain ⟨o_19, h27, H⟩ := bs H
      obtain ⟨v28, u29, h31, h30⟩ := Rel.open_row_Row (R0.mono (l8.trans l16)) h27 h25
      refine WL.val0 (v := v28) rfl (rx (by kernel_rfl) (ldE1 (j := 0) Tryd.underlying22 rfl (O18.gon h31 0 rfl) rfl rfl)) ?_
      refine va (.int .i64 s_9.2) ?_
      obtain ⟨x_21, h32, H⟩ := bs H
      refine WL.val0 (v := .pointer (some ⟨sb v28, s_9.2.toNat * 2, none⟩)) rfl (rx (by kernel_rfl) (run_indexO (k := .i64) Tryd.underlying22 (by kernel_rfl) h30 h32 _)) ?_
      obtain ⟨l_33, h34, m35⟩ := OA.at h30 h32
      obtain ⟨v36, rfl, h37⟩ := h34
      refine WL.val0 (v := .agg #[.int .i64 x_21.Kind, v36]) rfl (rx (by kernel_rfl) (ldEN (T := 27) (l := [.int .i64 x_21.Kind, v36]) (by kernel_rfl) (by kernel_rfl) (O18.gon h31 1 rfl) (h30.blk h32) (at2 (j := 0) m35 rfl))) ?_
      obtain ⟨x_23, h38, H⟩ := bs H
      refine WL.callP rfl (by kernel_rfl) (c_row_own O18 x_21 h37 h38) ?_
      rintro v47 c46 l46 ⟨v39, u40, O43, rfl, h41⟩
      obtain ⟨c50, h51, l50, O48, h49⟩ := O43.frz 0 rfl h41
      refine WL.gh h51 ?_
      obtain ⟨a52, a53, a54, rfl⟩ := (h49).form
      refine WL.mem rfl (Own.sl (R := R_api_Cell) (E := 27) (ls := [[.int .i64 x_23.Kind, .slice a52 a53 a54]]) (vs := [.int .i64 x_23.Kind, .slice a52 a53 a54]) (xs := ([x_23] : List G_api_Cell)) true O48 (Nat.succ_pos _) rfl ⟨⟨(.slice a52 a53 a54), rfl, h49⟩, trivial⟩ (by kernel_rfl) (by kernel_rfl)) ?_
      rintro v59 c58 l58 ⟨u56, O55, h57⟩
      obtain ⟨c62, h63, l62, O60, h61⟩ := O55.frz 0 rfl h57
      refine WL.gh h63 ?_
      obtain ⟨x_25, h64, H⟩ := bs H
      refine WL.mem rfl (Own.app (R := R_api_Cell) (z := .agg #[.int .i64 0, .slice none 0 0]) (by_ := 32) (ty := 22) 2 O60 rfl (h19.mono (l46.trans (l50.trans (l58.trans l62)))) h61 h64 Tryd.underlying22 (by kernel_rfl) rfl (by kernel_rfl) (by kernel_rfl)) ?_
      rintro v69 c68 l68 ⟨u66, O65, h67⟩
      refine va (v69) ?_
      refine WL.nil ?_
      refine bkn ?_
      refine nrm ?_
      refine W.region ?_
      refine va (.int .i64 (w64 (s_9.2 + 1))) ?_
      refine va (.int .i64 (w64 (s_9.2 + 1))) ?_
      refine WL.nil ?_
      obtain rfl := Option.some.inj H
      refine ⟨_, rfl, ?_⟩
      have O70 := O65.selD 3 [2] (by kernel_rfl) (by kernel_rfl)
      exact ⟨c68, _, v69, u66, rfl, (l16.trans (l46.trans (l50.trans (l58.trans (l62.trans l68))))), O70, ups_self ⟨rfl, rfl, rfl, rfl, trivial⟩, h67⟩
    · have H := ie h23 H
      refine W.exit ?_
      refine thx ?_
      obtain rfl := Option.some.inj H
      refine ⟨_, rfl, rfl, ?_⟩
      exact ⟨c16, _, v12, u13, rfl, l16, O18, ups_self ⟨rfl, trivial⟩, h19⟩
  · skip
    have h72 : OA R_api_Cell c8 (.slice none 0 0) [] [] := OA.nil (Nat.succ_pos _)
    have O71 := O5.addHole (e := es true R_api_Cell (.slice none 0 0) 27 [] ([] : List G_api_Cell)) rfl
    exact ⟨c8, _, (.slice none 0 0), [], rfl, (Cx.le.refl _), O71, ups_self ⟨rfl, rfl, rfl, rfl, trivial⟩, h72⟩
  · skip
    rintro _ e_ w_ ⟨rfl, c73, g74, v14, u15, rfl, l73, O75, rfl, h76⟩
    refine bke ?_
    refine nrm ?_
    refine sr ?_
    refine va (v14) ?_
    refine va (v14) ?_
    refine wln ?_
    refine W.ret ?_
    obtain rfl := Option.some.inj H11
    exact ret1 (v := v14) rfl (by kernel_rfl) ⟨_, c73, rfl, rfl, (l8.trans l73), v14, u15, O75, rfl, h76⟩

def f_row_Row_Cell (sg : Sto) (p0 : Option Nat) (p1 : Int) : Option (G_api_Cell × Bool) :=
  (orE (decide (p1 < 0)) ((f_row_Row_Wide sg p0).bind fun x_10 =>
  some (decide (p1 ≥ x_10)))).bind fun d_6 =>
  if d_6 = true then
  some ((⟨0, ([] : List Int)⟩ : G_api_Cell), false)
  else
  (p0).bind fun k_18 =>
  (sg.row_Row[k_18]?).bind fun o_20 =>
  (idx o_20.cells p1).bind fun x_22 =>
  (f_row_own x_22).bind fun x_24 =>
  some (x_24, true)
theorem c_row_Row_Cell {c0 : Cx} {G : Gm} {F : List En} {sg : Sto} {v1 : Value} (O0 : Own c0 G F) (R0 : Rel c0 sg G) (p0 : Option Nat) (p1 : Int) {r : G_api_Cell × Bool} (h2 : Pt 0 c0 v1 p0) (H : f_row_Row_Cell sg p0 p1 = some r) :
    Calls Tryd.prog 26 #[v1, .int .i64 p1] c0.w (Post c0 fun c v => ∃ y1 : Value, ∃ y2 : List Value, Own c G (es true (RI .i32) y1 21 y2 r.1.Text :: F) ∧ v = .tuple #[.agg #[.int .i64 r.1.Kind, y1], .bool r.2] ∧ OA (RI .i32) c y1 y2 r.1.Text) := by
  unfold f_row_Row_Cell at H
  refine enter (l := [v1, .int .i64 p1]) Tryd.func26 rfl rfl rfl ?_
  refine sr ?_
  refine WL.mem rfl (Own.al (T := 27) (vs := [.int .i64 0, .slice none 0 0]) O0 (by kernel_rfl)) ?_
  rintro v6 c5 l5 ⟨b3, rfl, O4⟩
  refine va (.bool false) ?_
  refine wln ?_
  refine W.seq ?_
  refine W.seq ?_
  obtain ⟨d_6, h7, H⟩ := bs H
  refine W.join (fun e w => ∃ (c : Cx) (g : Nat → Value), w = c.w ∧ c5.le c ∧ Own c G (⟨.pointer (some ⟨b3, 0, none⟩), 27, [.int .i64 0, .slice none 0 0], 0⟩ :: F) ∧ e = ups g [(0, v1), (1, .int .i64 p1), (4, .pointer (some ⟨b3, 0, none⟩)), (13, .bool d_6)]) ?_ ?_
  · clear H
    refine W.region ?_
    refine va (.int .i64 p1) ?_
    refine va (.bool (decide (p1 < 0))) ?_
    rcases Bool.eq_false_or_eq_true (decide (p1 < 0)) with h8 | h8
    · skip
      obtain rfl := orT h8 h7
      refine vb h8 ?_
      refine ps ?_
      refine ps ?_
      refine ps ?_
      refine ps ?_
      refine va (.bool true) ?_
      refine wln ?_
      exact ⟨c5, _, rfl, (Cx.le.refl _), O4, ups_self ⟨rfl, rfl, rfl, rfl, trivial⟩⟩
    · skip
      have H9 := orF h8 h7
      refine vb h8 ?_
      refine wn ?_
      refine va (.int .i64 p1) ?_
      refine wn ?_
      refine va (v1) ?_
      refine wn ?_
      obtain ⟨x_10, h10, H9⟩ := bs H9
      refine WL.callP rfl (by kernel_rfl) (c_row_Row_Wide O4 (R0.mono l5) p0 (h2.mono l5) h10) ?_
      rintro v16 c15 l15 ⟨O12, rfl⟩
      refine wn ?_
      refine va (.bool (decide (p1 ≥ x_10))) ?_
      obtain rfl := Option.some.inj H9
      refine va (.bool (decide (p1 ≥ x_10))) ?_
      refine wln ?_
      exact ⟨c15, _, rfl, l15, O12, ups_self ⟨rfl, rfl, rfl, rfl, trivial⟩⟩
  · skip
    rintro e_ w_ ⟨c17, g18, rfl, l17, O19, rfl⟩
    refine nrm ?_
    refine W.cond (t := d_6) (by kernel_rfl) (fun h23 => ?_) (fun h23 => ?_)
    · have H := it h23 H
      refine sr ?_
      refine va (.agg #[.int .i64 0, .slice none 0 0]) ?_
      refine WL.memD rfl (Own.st (T := 27) (j := 0) (us := [.int .i64 0, .slice none 0 0]) (nw := [.int .i64 0, .slice none 0 0]) (v := .agg #[.int .i64 0, .slice none 0 0]) 0 O19 (by kernel_rfl) rfl rfl rfl rfl (by kernel_rfl) ⟨rfl, rfl, trivial⟩ rfl rfl) ?_
      rintro c25 l25 O24
      refine va (.bool false) ?_
      refine wln ?_
      refine W.ret ?_
      refine thr ?_
      obtain rfl := Option.some.inj H
      have h27 : OA (RI .i32) c25 (.slice none 0 0) [] [] := OA.nil (Nat.succ_pos _)
      have O26 := O24.addHole (e := es true (RI .i32) (.slice none 0 0) 21 [] ([] : List Int)) rfl
      have O28 := O26.selD 2 [0] (by kernel_rfl) (by kernel_rfl)
      exact retCT (c := c25) (vs := [.int .i64 0, .slice none 0 0]) (v := .bool false) rfl (by kernel_rfl) (by kernel_rfl) (by kernel_rfl) (by kernel_rfl) (O26.on 1 rfl _ rfl).1 ⟨_, c25, rfl, rfl, (l5.trans (l17.trans l25)), (.slice none 0 0), [], O28, rfl, h27⟩
    · have H := ie h23 H
      refine W.skip ?_
      refine nrm ?_
      refine sr ?_
      refine va (v1) ?_
      obtain ⟨k_18, h31, H⟩ := bs H
      obtain ⟨b29, rfl, h30⟩ := ((h2.mono (l5.trans l17))).get h31
      refine va (.pointer (some ⟨b29, 0, none⟩)) ?_
      refine va (.pointer (some ⟨b29, 0, none⟩)) ?_
      obtain ⟨o_20, h32, H⟩ := bs H
      obtain ⟨v33, u34, h36, h35⟩ := Rel.open_row_Row (R0.mono (l5.trans l17)) h32 h30
      refine WL.val0 (v := v33) rfl (rx (by kernel_rfl) (ldE1 (j := 0) Tryd.underlying22 rfl (O19.gon h36 0 rfl) rfl rfl)) ?_
      refine va (.int .i64 p1) ?_
      obtain ⟨x_22, h37, H⟩ := bs H
      refine WL.val0 (v := .pointer (some ⟨sb v33, p1.toNat * 2, none⟩)) rfl (rx (by kernel_rfl) (run_indexO (k := .i64) Tryd.underlying22 (by kernel_rfl) h35 h37 _)) ?_
      obtain ⟨l_38, h39, m40⟩ := OA.at h35 h37
      obtain ⟨v41, rfl, h42⟩ := h39
      refine WL.val0 (v := .agg #[.int .i64 x_22.Kind, v41]) rfl (rx (by kernel_rfl) (ldEN (T := 27) (l := [.int .i64 x_22.Kind, v41]) (by kernel_rfl) (by kernel_rfl) (O19.gon h36 1 rfl) (h35.blk h37) (at2 (j := 0) m40 rfl))) ?_
      obtain ⟨x_24, h43, H⟩ := bs H
      refine WL.callP rfl (by kernel_rfl) (c_row_own O19 x_22 h42 h43) ?_
      rintro v52 c51 l51 ⟨v44, u45, O48, rfl, h46⟩
      obtain ⟨a53, a54, a55, rfl⟩ := (h46).form
      refine WL.memD rfl (Own.st (T := 27) (j := 0) (us := [.int .i64 x_24.Kind, .slice a53 a54 a55]) (nw := [.int .i64 x_24.Kind, .slice a53 a54 a55]) (v := .agg #[.int .i64 x_24.Kind, .slice a53 a54 a55]) 1 O48 (by kernel_rfl) rfl rfl rfl rfl (by kernel_rfl) ⟨rfl, (h46).one, trivial⟩ rfl rfl) ?_
      rintro c57 l57 O56
      refine va (.bool true) ?_
      refine wln ?_
      refine W.ret ?_
      obtain rfl := Option.some.inj H
      have O58 := O56.selD 2 [0] (by kernel_rfl) (by kernel_rfl)
      exact retCT (c := c57) (vs := [.int .i64 x_24.Kind, .slice a53 a54 a55]) (v := .bool true) rfl (by kernel_rfl) (by kernel_rfl) (by kernel_rfl) (by kernel_rfl) (O56.on 1 rfl _ rfl).1 ⟨_, c57, rfl, rfl, (l5.trans (l17.trans (l51.trans l57))), (.slice a53 a54 a55), u45, O58, rfl, (h46.mono l57)⟩

def f_row_Row_kind (sg : Sto) (p0 : Option Nat) (p1 : Int) : Option (Int) :=
  (orE (decide (p1 < 0)) ((f_row_Row_Wide sg p0).bind fun x_9 =>
  some (decide (p1 ≥ x_9)))).bind fun d_5 =>
  if d_5 = true then
  some 0
  else
  (p0).bind fun k_15 =>
  (sg.row_Row[k_15]?).bind fun o_17 =>
  (idx o_17.cells p1).bind fun x_19 =>
  some x_19.Kind
theorem c_row_Row_kind {c0 : Cx} {G : Gm} {F : List En} {sg : Sto} {v1 : Value} (O0 : Own c0 G F) (R0 : Rel c0 sg G) (p0 : Option Nat) (p1 : Int) {r : Int} (h2 : Pt 0 c0 v1 p0) (H : f_row_Row_kind sg p0 p1 = some r) :
    Calls Tryd.prog 112 #[v1, .int .i64 p1] c0.w (Post c0 fun c v => Own c G (F) ∧ v = .int .i64 r) := by
  unfold f_row_Row_kind at H
  refine enter (l := [v1, .int .i64 p1]) Tryd.func112 rfl rfl rfl ?_
  refine sr ?_
  refine va (.int .i64 0) ?_
  refine wln ?_
  refine W.seq ?_
  refine W.seq ?_
  obtain ⟨d_5, h3, H⟩ := bs H
  refine W.join (fun e w => ∃ (c : Cx) (g : Nat → Value), w = c.w ∧ c0.le c ∧ Own c G (F) ∧ e = ups g [(0, v1), (1, .int .i64 p1), (12, .bool d_5)]) ?_ ?_
  · clear H
    refine W.region ?_
    refine va (.int .i64 p1) ?_
    refine va (.bool (decide (p1 < 0))) ?_
    rcases Bool.eq_false_or_eq_true (decide (p1 < 0)) with h4 | h4
    · skip
      obtain rfl := orT h4 h3
      refine vb h4 ?_
      refine ps ?_
      refine ps ?_
      refine ps ?_
      refine ps ?_
      refine va (.bool true) ?_
      refine wln ?_
      exact ⟨c0, _, rfl, (Cx.le.refl _), O0, ups_self ⟨rfl, rfl, rfl, trivial⟩⟩
    · skip
      have H5 := orF h4 h3
      refine vb h4 ?_
      refine wn ?_
      refine va (.int .i64 p1) ?_
      refine wn ?_
      refine va (v1) ?_
      refine wn ?_
      obtain ⟨x_9, h6, H5⟩ := bs H5
      refine WL.callP rfl (by kernel_rfl) (c_row_Row_Wide O0 R0 p0 h2 h6) ?_
      rintro v12 c11 l11 ⟨O8, rfl⟩
      refine wn ?_
      refine va (.bool (decide (p1 ≥ x_9))) ?_
      obtain rfl := Option.some.inj H5
      refine va (.bool (decide (p1 ≥ x_9))) ?_
      refine wln ?_
      exact ⟨c11, _, rfl, l11, O8, ups_self ⟨rfl, rfl, rfl, trivial⟩⟩
  · skip
    rintro e_ w_ ⟨c13, g14, rfl, l13, O15, rfl⟩
    refine nrm ?_
    refine W.cond (t := d_5) (by kernel_rfl) (fun h19 => ?_) (fun h19 => ?_)
    · have H := it h19 H
      refine sr ?_
      refine va (.int .i64 0) ?_
      refine wln ?_
      refine W.ret ?_
      refine thr ?_
      obtain rfl := Option.some.inj H
      exact ret1 (v := .int .i64 0) rfl (by kernel_rfl) ⟨_, c13, rfl, rfl, l13, O15, rfl⟩
    · have H := ie h19 H
      refine W.skip ?_
      refine nrm ?_
      refine sr ?_
      refine va (v1) ?_
      obtain ⟨k_15, h22, H⟩ := bs H
      obtain ⟨b20, rfl, h21⟩ := ((h2.mono l13)).get h22
      refine va (.pointer (some ⟨b20, 0, none⟩)) ?_
      refine va (.pointer (some ⟨b20, 0, none⟩)) ?_
      obtain ⟨o_17, h23, H⟩ := bs H
      obtain ⟨v24, u25, h27, h26⟩ := Rel.open_row_Row (R0.mono l13) h23 h21
      refine WL.val0 (v := v24) rfl (rx (by kernel_rfl) (ldE1 (j := 0) Tryd.underlying22 rfl (O15.gon h27 0 rfl) rfl rfl)) ?_
      refine va (.int .i64 p1) ?_
      obtain ⟨x_19, h28, H⟩ := bs H
      refine WL.val0 (v := .pointer (some ⟨sb v24, p1.toNat * 2, none⟩)) rfl (rx (by kernel_rfl) (run_indexO (k := .i64) Tryd.underlying22 (by kernel_rfl) h26 h28 _)) ?_
      refine va (.pointer (some ⟨sb v24, p1.toNat * 2, none⟩)) ?_
      obtain ⟨l_29, h30, m31⟩ := OA.at h26 h28
      obtain ⟨v32, rfl, h33⟩ := h30
      refine WL.val0 (v := .int .i64 x_19.Kind) rfl (rx (by kernel_rfl) (ldE1 Tryd.underlying3 rfl (O15.gon h27 1 rfl) (h26.blk h28) (at1 (j := 0) m31 rfl))) ?_
      refine va (.int .i64 x_19.Kind) ?_
      refine wln ?_
      refine W.ret ?_
      obtain rfl := Option.some.inj H
      exact ret1 (v := .int .i64 x_19.Kind) rfl (by kernel_rfl) ⟨_, c13, rfl, rfl, l13, O15, rfl⟩

def f_row_Row_put (sg : Sto) (p0 : Option Nat) (p1 : Int) (p2 : G_api_Cell) : Option (Sto) :=
  (p0).bind fun k_4 =>
  (sg.row_Row[k_4]?).bind fun o_6 =>
  (f_row_own p2).bind fun x_9 =>
  (idx o_6.cells p1).bind fun x_10 =>
  (sets o_6.cells p1 x_9).bind fun w_11 =>
  (sg.set_row_Row k_4 (⟨w_11, o_6.wrap⟩ : G_row_Row)).bind fun s_11001 =>
  if (p1 == (w64 ((w_11.length : Int) - 1))) = true then
  (s_11001.set_row_Row k_4 (⟨w_11, false⟩ : G_row_Row)).bind fun s_25001 =>
  some s_25001
  else
  some s_11001
theorem c_row_Row_put {c0 : Cx} {G : Gm} {F : List En} {sg : Sto} {v1 : Value} {v3 : Value} (O0 : Own c0 G F) (R0 : Rel c0 sg G) (p0 : Option Nat) (p1 : Int) (p2 : G_api_Cell) {r : Sto} (h2 : Pt 0 c0 v1 p0) (h4 : Sl (RI .i32) c0 v3 p2.Text) (H : f_row_Row_put sg p0 p1 p2 = some r) :
    Calls Tryd.prog 113 #[v1, .int .i64 p1, .agg #[.int .i64 p2.Kind, v3]] c0.w (Post c0 fun c v => ∃ G_ : Gm, Own c G_ (F) ∧ Rel c r G_ ∧ v = .tuple #[]) := by
  unfold f_row_Row_put at H
  refine enter (l := [v1, .int .i64 p1, .agg #[.int .i64 p2.Kind, v3]]) Tryd.func113 rfl rfl rfl ?_
  refine sr ?_
  obtain ⟨a5, a6, a7, rfl⟩ := (h4).form
  refine WL.mem rfl (Own.bx (T := 27) (vs := [.int .i64 p2.Kind, .slice a5 a6 a7]) O0 (by kernel_rfl)) ?_
  rintro v12 c11 l11 ⟨b8, rfl, O9, m10⟩
  refine wln ?_
  refine W.seq ?_
  refine W.regionD [8] (Kp G []) O9 (by kernel_rfl) ?_
  intro c13 l13 O14
  have p15 : Kp G [] c13 := (Kp.nil O14)
  refine ta 0 (v1) ?_
  obtain ⟨k_4, h18, H⟩ := bs H
  obtain ⟨b16, rfl, h17⟩ := ((h2.mono (l11.trans l13))).get h18
  refine ta 1 (.pointer (some ⟨b16, 0, none⟩)) ?_
  refine ta 2 (.pointer (some ⟨b16, 0, none⟩)) ?_
  obtain ⟨o_6, h19, H⟩ := bs H
  obtain ⟨v20, u21, h23, h22⟩ := Rel.open_row_Row (R0.mono (l11.trans l13)) h19 h17
  refine AC.takeK 3 (v20) p15 rfl (by kernel_rfl) (by kernel_rfl) (by kernel_rfl) (fun c' hle hk => (rx (by kernel_rfl) (ldE1 (j := 0) Tryd.underlying22 rfl (hk.gon h23 0 rfl) rfl rfl))) ?_
  refine ta 4 (.int .i64 p1) ?_
  refine AC.take 5 (.agg #[.int .i64 p2.Kind, .slice a5 a6 a7]) rfl (by kernel_rfl) (by kernel_rfl) (fun c' hle => (rx (by kernel_rfl) (run_loadN (T := 27) (by kernel_rfl) (by kernel_rfl) (fun j u hu => (m10 j u hu).mono (l13.trans hle))))) ?_
  obtain ⟨x_9, h24, H⟩ := bs H
  refine AC.one 6 (by kernel_rfl) (Go1.callP 6 rfl (by kernel_rfl) (by kernel_rfl) (by kernel_rfl) (c_row_own O14 p2 (h4.mono (l11.trans l13)) h24) ?_)
  rintro v33 c32 l32 ⟨v25, u26, O29, rfl, h27⟩
  have p34 : Kp G [] c32 := (Kp.nil O29)
  refine ⟨.inr p34, ?_⟩
  obtain ⟨x_10, h35, H⟩ := bs H
  refine AC.take 7 (.pointer (some ⟨sb v20, p1.toNat * 2, none⟩)) rfl (by kernel_rfl) (by kernel_rfl) (fun c' hle => (rx (by kernel_rfl) (run_indexO (k := .i64) Tryd.underlying22 (by kernel_rfl) (h22.mono l32) h35 _))) ?_
  obtain ⟨c38, h39, l38, O36, h37⟩ := O29.frz 0 rfl h27
  have p40 : Kp G [] c38 := (Kp.nil O36)
  refine AC.gh h39 l38 (fun _ => p40) ?_
  obtain ⟨a41, a42, a43, rfl⟩ := (h37).form
  have O44 := O36.borrow 1 h23 rfl
  obtain ⟨w_11, h45, H⟩ := bs H
  refine AC.one 8 (by kernel_rfl) (Go1.memD 8 rfl (by kernel_rfl) (by kernel_rfl) (Own.stW (R := R_api_Cell) (T := 27) (us := [.int .i64 x_9.Kind, .slice a41 a42 a43]) (x' := x_9) (u := .agg #[.int .i64 x_9.Kind, .slice a41 a42 a43]) 0 O44 (by kernel_rfl) rfl (h22.mono (l32.trans l38)) h45 rfl (by kernel_rfl) ⟨rfl, h37.one, trivial⟩ rfl ⟨(.slice a41 a42 a43), rfl, h37⟩) ?_)
  rintro c49 l49 ⟨u47, O46, h48⟩
  have O50 := O46.giveB 1 rfl
  obtain ⟨s_11001, h55, H⟩ := bs H
  obtain ⟨G51, O52, R53, h54, a56⟩ := Rel.put_row_Row O50 (R0.mono (l11.trans (l13.trans (l32.trans (l38.trans l49))))) (E' := [⟨.pointer (some ⟨b16, 0, none⟩), 160, [v20, .bool o_6.wrap], 0⟩, es true R_api_Cell v20 27 u47 w_11]) h55 ⟨b16, v20, u47, ((l32.trans (l38.trans l49)).t _ _ _ h17), rfl, h48⟩
  refine ⟨.inl rfl, ?_⟩
  refine AC.done (by kernel_rfl) ?_
  refine nrm ?_
  refine sr ?_
  refine va (.int .i64 p1) ?_
  refine va (.pointer (some ⟨b16, 0, none⟩)) ?_
  refine va (.pointer (some ⟨b16, 0, none⟩)) ?_
  refine va (.pointer (some ⟨b16, 0, none⟩)) ?_
  refine WL.val0 (v := v20) rfl (rx (by kernel_rfl) (ldE1 (j := 0) Tryd.underlying22 rfl (O52.gon h54 0 rfl) rfl rfl)) ?_
  refine WL.val0 (v := .int .i64 (w_11.length : Int)) rfl (rx (by kernel_rfl) (run_lenO (ty := 3) Tryd.underlying22 h48 _)) ?_
  refine va (.int .i64 (w64 ((w_11.length : Int) - 1))) ?_
  refine va (.bool (p1 == (w64 ((w_11.length : Int) - 1)))) ?_
  refine wln ?_
  refine W.cond (t := p1 == (w64 ((w_11.length : Int) - 1))) (by kernel_rfl) (fun h57 => ?_) (fun h57 => ?_)
  · have H := it h57 H
    refine W.region ?_
    refine va (.pointer (some ⟨b16, 0, none⟩)) ?_
    refine va (.pointer (some ⟨b16, 0, none⟩)) ?_
    refine va (.pointer (some ⟨b16, 1, none⟩)) ?_
    refine WL.memD rfl (Own.stG (T := 4) (j := 1) (us := [.bool false]) (nw := [v20, .bool false]) (v := .bool false) 0 O52 (by kernel_rfl) h54 rfl rfl rfl rfl (by kernel_rfl) ⟨rfl, trivial⟩ rfl rfl) ?_
    rintro c59 l59 O58
    obtain ⟨s_25001, h64, H⟩ := bs H
    obtain ⟨G60, O61, R62, h63, a65⟩ := Rel.put_row_Row O58 (R53.mono l59) (E' := [⟨.pointer (some ⟨b16, 0, none⟩), 160, [v20, .bool false], 0⟩, es true R_api_Cell v20 27 u47 w_11]) h64 ⟨b16, v20, u47, ((l32.trans (l38.trans (l49.trans l59))).t _ _ _ h17), rfl, (h48.mono l59)⟩
    refine WL.nil ?_
    obtain rfl := Option.some.inj H
    have O66 := O61.selD 1 [] (by kernel_rfl) (by kernel_rfl)
    exact end0 rfl ⟨_, c59, rfl, rfl, (l11.trans (l13.trans (l32.trans (l38.trans (l49.trans l59))))), G60, O66, R62, rfl⟩
  · have H := ie h57 H
    refine W.skip ?_
    obtain rfl := Option.some.inj H
    have O67 := O52.selD 1 [] (by kernel_rfl) (by kernel_rfl)
    exact end0 rfl ⟨_, c49, rfl, rfl, (l11.trans (l13.trans (l32.trans (l38.trans l49)))), G51, O67, R53, rfl⟩

def f_row_Row_Paint (sg : Sto) (p0 : Option Nat) (p1 : Int) (p2 : List G_api_Cell) : Option (Sto × Er) :=
  (orE p0.isNone (some (decide (p1 < 0)))).bind fun d_5 =>
  (orE d_5 ((p0).bind fun k_13 =>
  (sg.row_Row[k_13]?).bind fun o_15 =>
  some (decide (p1 > (o_15.cells.length : Int))))).bind fun d_9 =>
  (orE d_9 ((p0).bind fun k_23 =>
  (sg.row_Row[k_23]?).bind fun o_25 =>
  some (decide ((p2.length : Int) > (w64 ((o_25.cells.length : Int) - p1)))))).bind fun d_18 =>
  if d_18 = true then
  some (sg, (Er.sent 0))
  else
  (f_cell_Sound p2).bind fun x_36 =>
  if (!x_36) = true then
  some (sg, (Er.sent 1))
  else
  if ((p2.length : Int) == 0) = true then
  some (sg, Er.nil)
  else
  ((f_row_Row_kind sg p0 p1).bind fun x_53 =>
  if (x_53 == 3) = true then
  (f_row_Row_put sg p0 (w64 (p1 - 1)) (⟨0, ([] : List Int)⟩ : G_api_Cell)).bind fun x_60 =>
  (some (x_60) : Option (Sto))
  else
  (some (sg) : Option (Sto))).bind fun z_50 =>
  ((f_row_Row_kind z_50 p0 (w64 (p1 + (p2.length : Int)))).bind fun x_71 =>
  if (x_71 == 3) = true then
  (f_row_Row_put z_50 p0 (w64 (p1 + (p2.length : Int))) (⟨0, ([] : List Int)⟩ : G_api_Cell)).bind fun x_77 =>
  (some (x_77) : Option (Sto))
  else
  (some (z_50) : Option (Sto))).bind fun z_62 =>
  (iter (σ := Int × Sto) (τ := Sto) (((p2.length : Int) - 0).toNat + 1) (fun s_83 =>
  if (decide (s_83.1 < (p2.length : Int))) = true then
  (idx p2 s_83.1).bind fun x_87 =>
  (f_row_Row_put s_83.2 p0 (w64 (p1 + s_83.1)) x_87).bind fun x_98 =>
  some (.inl ((w64 (s_83.1 + 1)), x_98))
  else
  some (.inr (s_83.2))) (0, z_62)).bind fun o_83 =>
  some (o_83, Er.nil)
theorem c_row_Row_Paint {c0 : Cx} {G : Gm} {F : List En} {sg : Sto} {v1 : Value} {v3 : Value} (O0 : Own c0 G F) (R0 : Rel c0 sg G) (hG : Gl [0, 1] c0) (p0 : Option Nat) (p1 : Int) (p2 : List G_api_Cell) {r : Sto × Er} (h2 : Pt 0 c0 v1 p0) (h4 : Sl R_api_Cell c0 v3 p2) (H : f_row_Row_Paint sg p0 p1 p2 = some r) :
    Calls Tryd.prog 46 #[v1, .int .i64 p1, v3] c0.w (Post c0 fun c v => ∃ y1 : Value, ∃ G_ : Gm, Own c G_ (F) ∧ Rel c r.1 G_ ∧ v = y1 ∧ RE 252 217 c y1 r.2) := by
  unfold f_row_Row_Paint at H
  refine enter (l := [v1, .int .i64 p1, v3]) Tryd.func46 rfl rfl rfl ?_
  refine sr ?_
  refine va (.nilIface) ?_
  refine wln ?_
  refine W.seq ?_
  refine W.block ?_
  refine W.seq ?_
  obtain ⟨d_5, h5, H⟩ := bs H
  obtain ⟨d_9, h6, H⟩ := bs H
  obtain ⟨d_18, h7, H⟩ := bs H
  refine W.join (fun e w => ∃ (c : Cx) (g : Nat → Value), w = c.w ∧ c0.le c ∧ Own c G (F) ∧ e = ups g [(0, v1), (1, .int .i64 p1), (2, v3), (10, .bool d_18)]) ?_ ?_
  · clear H
    refine W.region ?_
    refine va (v1) ?_
    refine WL.val0 (v := .bool p0.isNone) rfl (by rcases (h2).cs with ⟨h1_, h2_⟩ | ⟨b_, h1_, h2_⟩ <;> (subst h1_; rw [h2_]; kernel_rfl)) ?_
    rcases Bool.eq_false_or_eq_true (p0.isNone) with h8 | h8
    · skip
      obtain rfl := orT h8 h5
      refine vb h8 ?_
      refine ps ?_
      refine ps ?_
      refine va (.bool true) ?_
      have h9 : true = true := rfl
      obtain rfl := orT h9 h6
      refine vb h9 ?_
      refine ps ?_
      refine ps ?_
      refine ps ?_
      refine ps ?_
      refine ps ?_
      refine ps ?_
      refine ps ?_
      refine va (.bool true) ?_
      have h10 : true = true := rfl
      obtain rfl := orT h10 h7
      refine vb h10 ?_
      refine ps ?_
      refine ps ?_
      refine ps ?_
      refine ps ?_
      refine ps ?_
      refine ps ?_
      refine ps ?_
      refine ps ?_
      refine ps ?_
      refine ps ?_
      refine va (.bool true) ?_
      refine va (.bool true) ?_
      refine wln ?_
      exact ⟨c0, _, rfl, (Cx.le.refl _), O0, ups_self ⟨rfl, rfl, rfl, rfl, trivial⟩⟩
    · skip
      have H11 := orF h8 h5
      refine vb h8 ?_
      refine wn ?_
      refine va (.int .i64 p1) ?_
      refine wn ?_
      refine va (.bool (decide (p1 < 0))) ?_
      obtain rfl := Option.some.inj H11
      refine va (.bool (decide (p1 < 0))) ?_
      rcases Bool.eq_false_or_eq_true (decide (p1 < 0)) with h12 | h12
      · skip
        obtain rfl := orT h12 h6
        refine vb h12 ?_
        refine ps ?_
        refine ps ?_
        refine ps ?_
        refine ps ?_
        refine ps ?_
        refine ps ?_
        refine ps ?_
        refine va (.bool true) ?_
        have h13 : true = true := rfl
        obtain rfl := orT h13 h7
        refine vb h13 ?_
        refine ps ?_
        refine ps ?_
        refine ps ?_
        refine ps ?_
        refine ps ?_
        refine ps ?_
        refine ps ?_
        refine ps ?_
        refine ps ?_
        refine ps ?_
        refine va (.bool true) ?_
        refine va (.bool true) ?_
        refine wln ?_
        exact ⟨c0, _, rfl, (Cx.le.refl _), O0, ups_self ⟨rfl, rfl, rfl, rfl, trivial⟩⟩
      · skip
        have H14 := orF h12 h6
        refine vb h12 ?_
        refine wn ?_
        refine va (.int .i64 p1) ?_
        refine wn ?_
        refine va (v1) ?_
        refine wn ?_
        obtain ⟨k_13, h17, H14⟩ := bs H14
        obtain ⟨b15, rfl, h16⟩ := (h2).get h17
        refine va (.pointer (some ⟨b15, 0, none⟩)) ?_
        refine wn ?_
        refine va (.pointer (some ⟨b15, 0, none⟩)) ?_
        refine wn ?_
        obtain ⟨o_15, h18, H14⟩ := bs H14
        obtain ⟨v19, u20, h22, h21⟩ := Rel.open_row_Row R0 h18 h16
        refine WL.val0 (v := v19) rfl (rx (by kernel_rfl) (ldE1 (j := 0) Tryd.underlying22 rfl (O0.gon h22 0 rfl) rfl rfl)) ?_
        refine wn ?_
        refine WL.val0 (v := .int .i64 (o_15.cells.length : Int)) rfl (rx (by kernel_rfl) (run_lenO (ty := 3) Tryd.underlying22 h21 _)) ?_
        refine wn ?_
        refine va (.bool (decide (p1 > (o_15.cells.length : Int)))) ?_
        obtain rfl := Option.some.inj H14
        refine va (.bool (decide (p1 > (o_15.cells.length : Int)))) ?_
        rcases Bool.eq_false_or_eq_true (decide (p1 > (o_15.cells.length : Int))) with h23 | h23
        · skip
          obtain rfl := orT h23 h7
          refine vb h23 ?_
          refine ps ?_
          refine ps ?_
          refine ps ?_
          refine ps ?_
          refine ps ?_
          refine ps ?_
          refine ps ?_
          refine ps ?_
          refine ps ?_
          refine ps ?_
          refine va (.bool true) ?_
          refine va (.bool true) ?_
          refine wln ?_
          exact ⟨c0, _, rfl, (Cx.le.refl _), O0, ups_self ⟨rfl, rfl, rfl, rfl, trivial⟩⟩
        · skip
          have H24 := orF h23 h7
          refine vb h23 ?_
          refine wn ?_
          refine va (v3) ?_
          refine wn ?_
          refine WL.val0 (v := .int .i64 (p2.length : Int)) rfl (rx (by kernel_rfl) (run_len (ty := 3) Tryd.underlying22 h4 _)) ?_
          refine wn ?_
          refine va (.pointer (some ⟨b15, 0, none⟩)) ?_
          refine wn ?_
          obtain ⟨k_23, h27, H24⟩ := bs H24
          have h26 := (h2).get2 h27
          refine va (.pointer (some ⟨b15, 0, none⟩)) ?_
          refine wn ?_
          refine va (.pointer (some ⟨b15, 0, none⟩)) ?_
          refine wn ?_
          obtain ⟨o_25, h28, H24⟩ := bs H24
          obtain ⟨v29, u30, h32, h31⟩ := Rel.open_row_Row R0 h28 h26
          refine WL.val0 (v := v29) rfl (rx (by kernel_rfl) (ldE1 (j := 0) Tryd.underlying22 rfl (O0.gon h32 0 rfl) rfl rfl)) ?_
          refine wn ?_
          refine WL.val0 (v := .int .i64 (o_25.cells.length : Int)) rfl (rx (by kernel_rfl) (run_lenO (ty := 3) Tryd.underlying22 h31 _)) ?_
          refine wn ?_
          refine va (.int .i64 p1) ?_
          refine wn ?_
          refine va (.int .i64 (w64 ((o_25.cells.length : Int) - p1))) ?_
          refine wn ?_
          refine va (.bool (decide ((p2.length : Int) > (w64 ((o_25.cells.length : Int) - p1))))) ?_
          obtain rfl := Option.some.inj H24
          refine va (.bool (decide ((p2.length : Int) > (w64 ((o_25.cells.length : Int) - p1))))) ?_
          refine va (.bool (decide ((p2.length : Int) > (w64 ((o_25.cells.length : Int) - p1))))) ?_
          refine wln ?_
          exact ⟨c0, _, rfl, (Cx.le.refl _), O0, ups_self ⟨rfl, rfl, rfl, rfl, trivial⟩⟩
  · skip
    rintro e_ w_ ⟨c33, g34, rfl, l33, O35, rfl⟩
    refine nrm ?_
    refine W.cond (t := d_18) (by kernel_rfl) (fun h39 => ?_) (fun h39 => ?_)
    · have H := it h39 H
      refine sr ?_
      obtain ⟨v40, h41⟩ := (hG.mono l33).get 0 (by decide)
      refine WL.val0 (v := v40) rfl (rx (by kernel_rfl) (run_load1 Tryd.underlying30 rfl h41.im)) ?_
      refine va (v40) ?_
      refine wln ?_
      refine W.ret ?_
      refine bkr ?_
      refine thr ?_
      obtain rfl := Option.some.inj H
      exact ret1 (v := v40) rfl (by kernel_rfl) ⟨_, c33, rfl, rfl, l33, v40, G, O35, (R0.mono l33), rfl, h41⟩
    · have H := ie h39 H
      refine sr ?_
      refine va (v3) ?_
      obtain ⟨x_36, h42, H⟩ := bs H
      refine WL.callP rfl (by kernel_rfl) (c_cell_Sound O35 p2 (h4.mono l33) h42) ?_
      rintro v48 c47 l47 ⟨O44, rfl⟩
      refine va (.bool (!x_36)) ?_
      refine va (.bool (!x_36)) ?_
      refine wln ?_
      refine W.cond (t := !x_36) (by kernel_rfl) (fun h49 => ?_) (fun h49 => ?_)
      · have H := it h49 H
        refine sr ?_
        obtain ⟨v50, h51⟩ := (hG.mono (l33.trans l47)).get 1 (by decide)
        refine WL.val0 (v := v50) rfl (rx (by kernel_rfl) (run_load1 Tryd.underlying30 rfl h51.im)) ?_
        refine va (v50) ?_
        refine wln ?_
        refine W.ret ?_
        refine bkr ?_
        refine thr ?_
        obtain rfl := Option.some.inj H
        exact ret1 (v := v50) rfl (by kernel_rfl) ⟨_, c47, rfl, rfl, (l33.trans l47), v50, G, O44, (R0.mono (l33.trans l47)), rfl, h51⟩
      · have H := ie h49 H
        refine sr ?_
        refine va (v3) ?_
        refine WL.val0 (v := .int .i64 (p2.length : Int)) rfl (rx (by kernel_rfl) (run_len (ty := 3) Tryd.underlying22 (h4.mono (l33.trans l47)) _)) ?_
        refine va (.bool ((p2.length : Int) == 0)) ?_
        refine va (.bool ((p2.length : Int) == 0)) ?_
        refine wln ?_
        refine W.cond (t := (p2.length : Int) == 0) (by kernel_rfl) (fun h52 => ?_) (fun h52 => ?_)
        · have H := it h52 H
          refine sr ?_
          refine va (.nilIface) ?_
          refine wln ?_
          refine W.ret ?_
          refine bkr ?_
          refine thr ?_
          obtain rfl := Option.some.inj H
          exact ret1 (v := .nilIface) rfl (by kernel_rfl) ⟨_, c47, rfl, rfl, (l33.trans l47), .nilIface, G, O44, (R0.mono (l33.trans l47)), rfl, rfl⟩
        · have H := ie h52 H
          refine W.skip ?_
          refine bkn ?_
          refine nrm ?_
          obtain ⟨z_50, H53, H54⟩ := bs H
          refine W.seqJ (fun e w => ∃ (c : Cx) (g : Nat → Value) (G_ : Gm), w = c.w ∧ c47.le c ∧ Own c G_ (F) ∧ e = ups g [(0, v1), (1, .int .i64 p1), (2, v3)] ∧ Rel c z_50 G_) ?_ ?_
          · skip
            refine sr ?_
            refine va (v1) ?_
            refine va (.int .i64 p1) ?_
            obtain ⟨x_53, h55, H53⟩ := bs H53
            refine WL.callP rfl (by kernel_rfl) (c_row_Row_kind O44 (R0.mono (l33.trans l47)) p0 p1 (h2.mono (l33.trans l47)) h55) ?_
            rintro v61 c60 l60 ⟨O57, rfl⟩
            refine va (.bool (x_53 == 3)) ?_
            refine wln ?_
            refine W.cond (t := x_53 == 3) (by kernel_rfl) (fun h62 => ?_) (fun h62 => ?_)
            · have H53 := it h62 H53
              refine W.region ?_
              refine va (v1) ?_
              refine va (.int .i64 p1) ?_
              refine va (.int .i64 (w64 (p1 - 1))) ?_
              refine va (.agg #[.int .i64 0, .slice none 0 0]) ?_
              obtain ⟨x_60, h63, H53⟩ := bs H53
              refine WL.callP rfl (by kernel_rfl) (c_row_Row_put O57 (R0.mono (l33.trans (l47.trans l60))) p0 (w64 (p1 - 1)) (⟨0, ([] : List Int)⟩ : G_api_Cell) (h2.mono (l33.trans (l47.trans l60))) (Sl.nl _ _) h63) ?_
              rintro v69 c68 l68 ⟨G64, O65, R66, rfl⟩
              refine wln ?_
              obtain rfl := Option.some.inj H53
              exact ⟨c68, _, G64, rfl, (l60.trans l68), O65, ups_self ⟨rfl, rfl, rfl, trivial⟩, R66⟩
            · have H53 := ie h62 H53
              refine W.skip ?_
              refine nrm ?_
              obtain rfl := Option.some.inj H53
              exact ⟨c60, _, G, rfl, l60, O57, ups_self ⟨rfl, rfl, rfl, trivial⟩, (R0.mono (l33.trans (l47.trans l60)))⟩
          · skip
            rintro e_ w_ ⟨c70, g71, G73, rfl, l70, O72, rfl, R74⟩
            obtain ⟨z_62, H76, H77⟩ := bs H54
            refine W.seqJ (fun e w => ∃ (c : Cx) (g : Nat → Value) (G_ : Gm), w = c.w ∧ c70.le c ∧ Own c G_ (F) ∧ e = ups g [(0, v1), (1, .int .i64 p1), (2, v3)] ∧ Rel c z_62 G_) ?_ ?_
            · skip
              refine sr ?_
              refine va (.int .i64 p1) ?_
              refine va (v3) ?_
              refine WL.val0 (v := .int .i64 (p2.length : Int)) rfl (rx (by kernel_rfl) (run_len (ty := 3) Tryd.underlying22 (h4.mono (l33.trans (l47.trans l70))) _)) ?_
              refine va (.int .i64 (w64 (p1 + (p2.length : Int)))) ?_
              refine va (.int .i64 (w64 (p1 + (p2.length : Int)))) ?_
              refine wln ?_
              refine sr ?_
              refine va (v1) ?_
              refine va (.int .i64 (w64 (p1 + (p2.length : Int)))) ?_
              obtain ⟨x_71, h78, H76⟩ := bs H76
              refine WL.callP rfl (by kernel_rfl) (c_row_Row_kind O72 R74 p0 (w64 (p1 + (p2.length : Int))) (h2.mono (l33.trans (l47.trans l70))) h78) ?_
              rintro v84 c83 l83 ⟨O80, rfl⟩
              refine va (.bool (x_71 == 3)) ?_
              refine wln ?_
              refine W.cond (t := x_71 == 3) (by kernel_rfl) (fun h85 => ?_) (fun h85 => ?_)
              · have H76 := it h85 H76
                refine W.region ?_
                refine va (v1) ?_
                refine va (.int .i64 (w64 (p1 + (p2.length : Int)))) ?_
                refine va (.agg #[.int .i64 0, .slice none 0 0]) ?_
                obtain ⟨x_77, h86, H76⟩ := bs H76
                refine WL.callP rfl (by kernel_rfl) (c_row_Row_put O80 (R74.mono l83) p0 (w64 (p1 + (p2.length : Int))) (⟨0, ([] : List Int)⟩ : G_api_Cell) (h2.mono (l33.trans (l47.trans (l70.trans l83)))) (Sl.nl _ _) h86) ?_
                rintro v92 c91 l91 ⟨G87, O88, R89, rfl⟩
                refine wln ?_
                obtain rfl := Option.some.inj H76
                exact ⟨c91, _, G87, rfl, (l83.trans l91), O88, ups_self ⟨rfl, rfl, rfl, trivial⟩, R89⟩
              · have H76 := ie h85 H76
                refine W.skip ?_
                refine nrm ?_
                obtain rfl := Option.some.inj H76
                exact ⟨c83, _, G73, rfl, l83, O80, ups_self ⟨rfl, rfl, rfl, trivial⟩, (R74.mono l83)⟩
            · skip
              rintro e_ w_ ⟨c93, g94, G96, rfl, l93, O95, rfl, R97⟩
              refine W.seq ?_
              refine sr ?_
              refine va (v3) ?_
              refine WL.val0 (v := .int .i64 (p2.length : Int)) rfl (rx (by kernel_rfl) (run_len (ty := 3) Tryd.underlying22 (h4.mono (l33.trans (l47.trans (l70.trans l93)))) _)) ?_
              refine va (.int .i64 0) ?_
              refine wln ?_
              refine W.block ?_
              obtain ⟨o_83, h99, H100⟩ := bs H77
              refine W.loop (σ := Int × Sto) (τ := Sto) (fun s_83 => fun e w => ∃ (c : Cx) (g : Nat → Value) (G_ : Gm), w = c.w ∧ c93.le c ∧ Own c G_ (F) ∧ e = ups g [(0, v1), (1, .int .i64 p1), (69, v3), (70, .int .i64 (p2.length : Int)), (71, .int .i64 s_83.1)] ∧ Rel c s_83.2 G_) (fun o_83_ ex e w => ex = .exit 1 ∧ (fun e w => ∃ (c : Cx) (g : Nat → Value) (G_ : Gm), w = c.w ∧ c93.le c ∧ Own c G_ (F) ∧ e = ups g [] ∧ Rel c o_83_ G_) e w) ?_ h99 ?_ ?_
              · clear H100 h99
                intro s_83 xx_ ee_ ww_ H77
                revert ee_ ww_
                rintro e_ w_ ⟨c101, g102, G104, rfl, l101, O103, rfl, R105⟩
                refine sr ?_
                refine va (.bool (decide (s_83.1 < (p2.length : Int)))) ?_
                refine wln ?_
                refine W.seq ?_
                refine W.cond (t := decide (s_83.1 < (p2.length : Int))) (by kernel_rfl) (fun h107 => ?_) (fun h107 => ?_)
                · have H77 := it h107 H77
                  refine W.skip ?_
                  refine nrm ?_
                  refine W.seq ?_
                  refine W.block ?_
                  refine sr ?_
                  refine va (.int .i64 s_83.1) ?_
                  obtain ⟨x_87, h108, H77⟩ := bs H77
                  obtain ⟨l_109, h110, m111⟩ := Sl.at (h4.mono (l33.trans (l47.trans (l70.trans (l93.trans l101))))) (idx_get h108)
                  obtain ⟨v112, rfl, h113⟩ := h110
                  refine WL.val0 (v := .pointer (some ⟨sb v3, so v3 + s_83.1.toNat * 2, none⟩)) rfl (rx (by kernel_rfl) (run_index (k := .i64) Tryd.underlying22 (by kernel_rfl) (h4.mono (l33.trans (l47.trans (l70.trans (l93.trans l101))))) h108 _)) ?_
                  refine WL.val0 (v := .agg #[.int .i64 x_87.Kind, v112]) rfl (rx (by kernel_rfl) (run_loadN (T := 27) (by kernel_rfl) (by kernel_rfl) m111)) ?_
                  refine WL.mem rfl (Own.al (T := 27) (vs := [.int .i64 0, .slice none 0 0]) O103 (by kernel_rfl)) ?_
                  rintro v117 c116 l116 ⟨b114, rfl, O115⟩
                  refine va (.int .i64 s_83.1) ?_
                  obtain ⟨a118, a119, a120, rfl⟩ := ((h113.mono l116)).form
                  refine WL.memD rfl (Own.st (T := 27) (j := 0) (us := [.int .i64 x_87.Kind, .slice a118 a119 a120]) (nw := [.int .i64 x_87.Kind, .slice a118 a119 a120]) (v := .agg #[.int .i64 x_87.Kind, .slice a118 a119 a120]) 0 O115 (by kernel_rfl) rfl rfl rfl rfl (by kernel_rfl) ⟨rfl, (h113.mono l116).one, trivial⟩ rfl rfl) ?_
                  rintro c122 l122 O121
                  refine wln ?_
                  refine W.region ?_
                  refine va (v1) ?_
                  refine va (.int .i64 p1) ?_
                  refine va (.int .i64 s_83.1) ?_
                  refine va (.int .i64 (w64 (p1 + s_83.1))) ?_
                  refine WL.val0 (v := .agg #[.int .i64 x_87.Kind, .slice a118 a119 a120]) rfl (rx (by kernel_rfl) (ldEN (T := 27) (j := 0) (l := [.int .i64 x_87.Kind, .slice a118 a119 a120]) (by kernel_rfl) (by kernel_rfl) (O121.on 0 rfl) rfl rfl)) ?_
                  obtain ⟨x_98, h123, H77⟩ := bs H77
                  refine WL.callP rfl (by kernel_rfl) (c_row_Row_put O121 (R105.mono (l116.trans l122)) p0 (w64 (p1 + s_83.1)) x_87 (h2.mono (l33.trans (l47.trans (l70.trans (l93.trans (l101.trans (l116.trans l122))))))) (h113.mono (l116.trans l122)) h123) ?_
                  rintro v129 c128 l128 ⟨G124, O125, R126, rfl⟩
                  refine WL.nil ?_
                  refine bkn ?_
                  refine nrm ?_
                  refine W.region ?_
                  refine va (.int .i64 (w64 (s_83.1 + 1))) ?_
                  refine va (.int .i64 (w64 (s_83.1 + 1))) ?_
                  refine WL.nil ?_
                  obtain rfl := Option.some.inj H77
                  refine ⟨_, rfl, ?_⟩
                  have O130 := O125.selD 1 [] (by kernel_rfl) (by kernel_rfl)
                  exact ⟨c128, _, G124, rfl, (l101.trans (l116.trans (l122.trans l128))), O130, ups_self ⟨rfl, rfl, rfl, rfl, rfl, trivial⟩, R126⟩
                · have H77 := ie h107 H77
                  refine W.exit ?_
                  refine thx ?_
                  obtain rfl := Option.some.inj H77
                  refine ⟨_, rfl, rfl, ?_⟩
                  exact ⟨c101, _, G104, rfl, l101, O103, ups_self trivial, R105⟩
              · skip
                exact ⟨c93, _, G96, rfl, (Cx.le.refl _), O95, ups_self ⟨rfl, rfl, rfl, rfl, rfl, trivial⟩, R97⟩
              · skip
                rintro _ e_ w_ ⟨rfl, c131, g132, G134, rfl, l131, O133, rfl, R135⟩
                refine bke ?_
                refine nrm ?_
                refine sr ?_
                refine va (.nilIface) ?_
                refine wln ?_
                refine W.ret ?_
                obtain rfl := Option.some.inj H100
                exact ret1 (v := .nilIface) rfl (by kernel_rfl) ⟨_, c131, rfl, rfl, (l33.trans (l47.trans (l70.trans (l93.trans l131)))), .nilIface, G134, O133, R135, rfl, rfl⟩

def f_row_Row_GoOn (sg : Sto) (p0 : Option Nat) (p1 : Bool) : Option (Sto) :=
  if (!p0.isNone) = true then
  (p0).bind fun k_6 =>
  (sg.row_Row[k_6]?).bind fun o_8 =>
  (sg.set_row_Row k_6 (⟨o_8.cells, p1⟩ : G_row_Row)).bind fun s_8001 =>
  some s_8001
  else
  some sg
theorem c_row_Row_GoOn {c0 : Cx} {G : Gm} {F : List En} {sg : Sto} {v1 : Value} (O0 : Own c0 G F) (R0 : Rel c0 sg G) (p0 : Option Nat) (p1 : Bool) {r : Sto} (h2 : Pt 0 c0 v1 p0) (H : f_row_Row_GoOn sg p0 p1 = some r) :
    Calls Tryd.prog 30 #[v1, .bool p1] c0.w (Post c0 fun c v => ∃ G_ : Gm, Own c G_ (F) ∧ Rel c r G_ ∧ v = .tuple #[]) := by
  unfold f_row_Row_GoOn at H
  refine enter (l := [v1, .bool p1]) Tryd.func30 rfl rfl rfl ?_
  refine sr ?_
  refine va (v1) ?_
  refine WL.val0 (v := .bool (!p0.isNone)) rfl (by rcases (h2).cs with ⟨h1_, h2_⟩ | ⟨b_, h1_, h2_⟩ <;> (subst h1_; rw [h2_]; kernel_rfl)) ?_
  refine wln ?_
  refine W.cond (t := !p0.isNone) (by kernel_rfl) (fun h3 => ?_) (fun h3 => ?_)
  · have H := it h3 H
    refine W.region ?_
    refine va (v1) ?_
    refine va (.bool p1) ?_
    obtain ⟨k_6, h6, H⟩ := bs H
    obtain ⟨b4, rfl, h5⟩ := (h2).get h6
    refine va (.pointer (some ⟨b4, 0, none⟩)) ?_
    refine va (.pointer (some ⟨b4, 1, none⟩)) ?_
    obtain ⟨o_8, h7, H⟩ := bs H
    obtain ⟨v8, u9, h11, h10⟩ := Rel.open_row_Row R0 h7 h5
    refine WL.memD rfl (Own.stG (T := 4) (j := 1) (us := [.bool p1]) (nw := [v8, .bool p1]) (v := .bool p1) 0 O0 (by kernel_rfl) h11 rfl rfl rfl rfl (by kernel_rfl) ⟨rfl, trivial⟩ rfl rfl) ?_
    rintro c13 l13 O12
    obtain ⟨s_8001, h18, H⟩ := bs H
    obtain ⟨G14, O15, R16, h17, a19⟩ := Rel.put_row_Row O12 (R0.mono l13) (E' := [⟨.pointer (some ⟨b4, 0, none⟩), 160, [v8, .bool p1], 0⟩, es true R_api_Cell v8 27 u9 o_8.cells]) h18 ⟨b4, v8, u9, (l13.t _ _ _ h5), rfl, (h10.mono l13)⟩
    refine WL.nil ?_
    obtain rfl := Option.some.inj H
    exact end0 rfl ⟨_, c13, rfl, rfl, l13, G14, O15, R16, rfl⟩
  · have H := ie h3 H
    refine W.skip ?_
    obtain rfl := Option.some.inj H
    exact end0 rfl ⟨_, c0, rfl, rfl, Cx.le.refl _, G, O0, R0, rfl⟩

def f_row_Row_Wrap (sg : Sto) (p0 : Option Nat) : Option (Bool) :=
  (andE (!p0.isNone) ((p0).bind fun k_8 =>
  (sg.row_Row[k_8]?).bind fun o_10 =>
  some o_10.wrap)).bind fun d_5 =>
  some d_5
theorem c_row_Row_Wrap {c0 : Cx} {G : Gm} {F : List En} {sg : Sto} {v1 : Value} (O0 : Own c0 G F) (R0 : Rel c0 sg G) (p0 : Option Nat) {r : Bool} (h2 : Pt 0 c0 v1 p0) (H : f_row_Row_Wrap sg p0 = some r) :
    Calls Tryd.prog 33 #[v1] c0.w (Post c0 fun c v => Own c G (F) ∧ v = .bool r) := by
  unfold f_row_Row_Wrap at H
  refine enter (l := [v1]) Tryd.func33 rfl rfl rfl ?_
  refine sr ?_
  refine va (.bool false) ?_
  refine wln ?_
  refine W.seq ?_
  obtain ⟨d_5, h3, H⟩ := bs H
  refine W.join (fun e w => ∃ (c : Cx) (g : Nat → Value), w = c.w ∧ c0.le c ∧ Own c G (F) ∧ e = ups g [(2, .bool d_5)]) ?_ ?_
  · clear H
    refine W.region ?_
    refine va (v1) ?_
    refine WL.val0 (v := .bool (!p0.isNone)) rfl (by rcases (h2).cs with ⟨h1_, h2_⟩ | ⟨b_, h1_, h2_⟩ <;> (subst h1_; rw [h2_]; kernel_rfl)) ?_
    rcases Bool.eq_false_or_eq_true (!p0.isNone) with h4 | h4
    · skip
      have H5 := anT h4 h3
      refine vb h4 ?_
      refine wn ?_
      refine va (v1) ?_
      refine wn ?_
      obtain ⟨k_8, h8, H5⟩ := bs H5
      obtain ⟨b6, rfl, h7⟩ := (h2).get h8
      refine va (.pointer (some ⟨b6, 0, none⟩)) ?_
      refine wn ?_
      refine va (.pointer (some ⟨b6, 1, none⟩)) ?_
      refine wn ?_
      obtain ⟨o_10, h9, H5⟩ := bs H5
      obtain ⟨v10, u11, h13, h12⟩ := Rel.open_row_Row R0 h9 h7
      refine WL.val0 (v := .bool o_10.wrap) rfl (rx (by kernel_rfl) (ldE1 (j := 1) Tryd.underlying4 rfl (O0.gon h13 0 rfl) rfl rfl)) ?_
      obtain rfl := Option.some.inj H5
      refine va (.bool o_10.wrap) ?_
      refine va (.bool o_10.wrap) ?_
      refine wln ?_
      exact ⟨c0, _, rfl, (Cx.le.refl _), O0, ups_self ⟨rfl, trivial⟩⟩
    · skip
      obtain rfl := anF h4 h3
      refine vb h4 ?_
      refine ps ?_
      refine ps ?_
      refine ps ?_
      refine ps ?_
      refine va (.bool false) ?_
      refine va (.bool false) ?_
      refine wln ?_
      exact ⟨c0, _, rfl, (Cx.le.refl _), O0, ups_self ⟨rfl, trivial⟩⟩
  · skip
    rintro e_ w_ ⟨c14, g15, rfl, l14, O16, rfl⟩
    refine nrm ?_
    refine W.ret ?_
    obtain rfl := Option.some.inj H
    exact ret1 (v := .bool d_5) rfl (by kernel_rfl) ⟨_, c14, rfl, rfl, l14, O16, rfl⟩

def f_row_Row_Copy (sg : Sto) (p0 : Option Nat) : Option (Sto × (Option Nat)) :=
  if p0.isNone = true then
  some (sg, (none : Option Nat))
  else
  (p0).bind fun k_10 =>
  (sg.row_Row[k_10]?).bind fun o_12 =>
  (f_row_Row_Cells sg p0).bind fun x_13 =>
  (some (sg.add_row_Row (⟨x_13, o_12.wrap⟩ : G_row_Row))).bind fun s_15001 =>
  some (s_15001, (some sg.row_Row.length))
theorem c_row_Row_Copy {c0 : Cx} {G : Gm} {F : List En} {sg : Sto} {v1 : Value} (O0 : Own c0 G F) (R0 : Rel c0 sg G) (p0 : Option Nat) {r : Sto × (Option Nat)} (h2 : Pt 0 c0 v1 p0) (H : f_row_Row_Copy sg p0 = some r) :
    Calls Tryd.prog 45 #[v1] c0.w (Post c0 fun c v => ∃ y1 : Value, ∃ G_ : Gm, Own c G_ (F) ∧ Rel c r.1 G_ ∧ Adds G G_ ∧ v = y1 ∧ Pt 0 c y1 r.2) := by
  unfold f_row_Row_Copy at H
  refine enter (l := [v1]) Tryd.func45 rfl rfl rfl ?_
  refine sr ?_
  refine va (.pointer none) ?_
  refine wln ?_
  refine W.seq ?_
  refine sr ?_
  refine va (v1) ?_
  refine WL.val0 (v := .bool p0.isNone) rfl (by rcases (h2).cs with ⟨h1_, h2_⟩ | ⟨b_, h1_, h2_⟩ <;> (subst h1_; rw [h2_]; kernel_rfl)) ?_
  refine wln ?_
  refine W.cond (t := p0.isNone) (by kernel_rfl) (fun h3 => ?_) (fun h3 => ?_)
  · have H := it h3 H
    refine sr ?_
    refine va (.pointer none) ?_
    refine wln ?_
    refine W.ret ?_
    refine thr ?_
    obtain rfl := Option.some.inj H
    exact ret1 (v := .pointer none) rfl (by kernel_rfl) ⟨_, c0, rfl, rfl, Cx.le.refl _, (.pointer none), G, O0, R0, (Adds.refl _), rfl, rfl⟩
  · have H := ie h3 H
    refine W.skip ?_
    refine nrm ?_
    refine W.seq ?_
    refine W.regionD [] (Kp G []) O0 (by kernel_rfl) ?_
    intro c4 l4 O5
    have p6 : Kp G [] c4 := (Kp.nil O5)
    refine ta 0 (v1) ?_
    refine ta 2 (v1) ?_
    obtain ⟨k_10, h9, H⟩ := bs H
    obtain ⟨b7, rfl, h8⟩ := ((h2.mono l4)).get h9
    refine ta 3 (.pointer (some ⟨b7, 0, none⟩)) ?_
    refine ta 4 (.pointer (some ⟨b7, 1, none⟩)) ?_
    obtain ⟨o_12, h10, H⟩ := bs H
    obtain ⟨v11, u12, h14, h13⟩ := Rel.open_row_Row (R0.mono l4) h10 h8
    refine AC.takeK 5 (.bool o_12.wrap) p6 rfl (by kernel_rfl) (by kernel_rfl) (by kernel_rfl) (fun c' hle hk => (rx (by kernel_rfl) (ldE1 (j := 1) Tryd.underlying4 rfl (hk.gon h14 0 rfl) rfl rfl))) ?_
    obtain ⟨x_13, h15, H⟩ := bs H
    refine AC.one 1 (by kernel_rfl) (Go1.callP 1 rfl (by kernel_rfl) (by kernel_rfl) (by kernel_rfl) (c_row_Row_Cells O5 (R0.mono l4) p0 (h2.mono l4) h15) ?_)
    rintro v16 c23 l23 ⟨_, u17, O20, rfl, h18⟩
    have p25 : Kp G [] c23 := (Kp.nil O20)
    refine ⟨.inr p25, ?_⟩
    obtain ⟨a26, a27, a28, rfl⟩ := (h18).form
    refine ta 6 (.agg #[.slice a26 a27 a28, .bool o_12.wrap]) ?_
    refine AC.one 7 (by kernel_rfl) (Go1.mem 7 rfl (by kernel_rfl) (by kernel_rfl) (Own.al (T := 160) (vs := [.slice a26 a27 a28, .bool o_12.wrap]) O20 (by kernel_rfl)) ?_)
    rintro v32 c31 l31 ⟨b29, rfl, O30⟩
    have p33 : Kp G [] c31 := (Kp.nil O30)
    refine ⟨.inr p33, ?_⟩
    have O34 := O30.selD 2 [0, 1] (by kernel_rfl) (by kernel_rfl)
    obtain ⟨s_15001, h35, H⟩ := bs H
    obtain ⟨c36, G44, h37, l36, h38, O39, R40, h41, h42, a43⟩ := Rel.new_row_Row (E := [⟨.pointer (some ⟨b29, 0, none⟩), 160, [.slice a26 a27 a28, .bool o_12.wrap], 0⟩, es true R_api_Cell (.slice a26 a27 a28) 27 u17 x_13]) (F := F) (x := (⟨x_13, o_12.wrap⟩ : G_row_Row)) (b := b29) O34 (R0.mono (l4.trans (l23.trans l31))) (fun c_ hle_ => ⟨b29, (.slice a26 a27 a28), u17, rfl, rfl, ((h18.mono l31).mono hle_)⟩)
    rw [Option.some.inj h35] at R40
    refine AC.gh2 h37 l36 ?_
    have p45 := Kp.gh p33 h37
    have h46 := Adds.nil (Adds.refl _) h42
    have a47 := (Adds.refl _).trans a43
    have h49 : Pt 0 c36 (.pointer (some ⟨b29, 0, none⟩)) (some sg.row_Row.length) := ⟨b29, rfl, h38⟩
    refine ta 8 (.pointer (some ⟨b29, 0, none⟩)) ?_
    refine AC.done (by kernel_rfl) ?_
    refine nrm ?_
    refine W.ret ?_
    obtain rfl := Option.some.inj H
    exact ret1 (v := .pointer (some ⟨b29, 0, none⟩)) rfl (by kernel_rfl) ⟨_, c36, rfl, rfl, (l4.trans (l23.trans (l31.trans l36))), (.pointer (some ⟨b29, 0, none⟩)), G44, O39, R40, a47, rfl, h49⟩

def f_linotyperef24_Paint (p0 : List G_api_Cell) (p1 : Bool) (p2 : Int) (p3 : List G_api_Cell) : Option ((List G_api_Cell) × Bool) :=
  (iter (σ := Bool × (List G_api_Cell) × Int) (τ := (Bool × (List G_api_Cell))) (((p0.length : Int) - 0).toNat + 1) (fun s_8 =>
  if (decide (s_8.2.2 < (p0.length : Int))) = true then
  (andE (decide (s_8.2.2 ≥ p2)) (some (decide (s_8.2.2 < (w64 (p2 + (p3.length : Int))))))).bind fun d_17 =>
  (idx p0 s_8.2.2).bind fun x_29 =>
  (if d_17 = true then
  (idx p3 (w64 (s_8.2.2 - p2))).bind fun x_41 =>
  (some (x_41.Kind, x_41.Text) : Option (Int × (List Int)))
  else
  (some (x_29.Kind, x_29.Text) : Option (Int × (List Int)))).bind fun z_34 =>
  (andE (!d_17) ((andE (z_34.1 == 2) (some (decide ((w64 (s_8.2.2 + 1)) ≥ p2)))).bind fun d_52 =>
  (andE d_52 (some (decide ((w64 (s_8.2.2 + 1)) < (w64 (p2 + (p3.length : Int))))))).bind fun d_58 =>
  (orE d_58 ((andE (z_34.1 == 3) (some (decide ((w64 (s_8.2.2 - 1)) ≥ p2)))).bind fun d_72 =>
  (andE d_72 (some (decide ((w64 (s_8.2.2 - 1)) < (w64 (p2 + (p3.length : Int))))))).bind fun d_78 =>
  some d_78)).bind fun d_67 =>
  some d_67)).bind fun d_47 =>
  (if d_47 = true then
  (some (0, ([] : List Int)) : Option (Int × (List Int)))
  else
  (some (z_34.1, z_34.2) : Option (Int × (List Int)))).bind fun z_89 =>
  ((andE ((w64 (s_8.2.2 + 1)) == (p0.length : Int)) ((orE d_17 (some d_47)).bind fun d_104 =>
  some d_104)).bind fun d_101 =>
  if d_101 = true then
  (some (false) : Option (Bool))
  else
  (some (s_8.1) : Option (Bool))).bind fun z_95 =>
  (app s_8.2.1 ([(⟨z_89.1, z_89.2⟩ : G_api_Cell)] : List G_api_Cell)).bind fun x_113 =>
  some (.inl (z_95, x_113, (w64 (s_8.2.2 + 1))))
  else
  some (.inr (s_8.1, s_8.2.1))) (p1, ([] : List G_api_Cell), 0)).bind fun o_8 =>
  some (o_8.2, o_8.1)
set_option maxHeartbeats 4000000 in
theorem c_linotyperef24_Paint {c0 : Cx} {G : Gm} {F : List En} {v1 : Value} {v3 : Value} (O0 : Own c0 G F) (p0 : List G_api_Cell) (p1 : Bool) (p2 : Int) (p3 : List G_api_Cell) {r : (List G_api_Cell) × Bool} (h2 : Sl R_api_Cell c0 v1 p0) (h4 : Sl R_api_Cell c0 v3 p3) (H : f_linotyperef24_Paint p0 p1 p2 p3 = some r) :
    Calls Tryd.prog 49 #[v1, .bool p1, .int .i64 p2, v3] c0.w (Post c0 fun c v => ∃ y1 : Value, ∃ y2 : List Value, Own c G (es true R_api_Cell y1 27 y2 r.1 :: F) ∧ v = .tuple #[y1, .bool r.2] ∧ OA R_api_Cell c y1 y2 r.1) := by
  unfold f_linotyperef24_Paint at H
  refine enter (l := [v1, .bool p1, .int .i64 p2, v3]) Tryd.func49 rfl rfl rfl ?_
  refine sr ?_
  refine va (.slice none 0 0) ?_
  refine va (.bool false) ?_
  refine wln ?_
  refine sr ?_
  refine va (.slice none 0 0) ?_
  refine wln ?_
  refine W.seq ?_
  refine sr ?_
  refine va (.int .i64 0) ?_
  refine wln ?_
  refine W.block ?_
  obtain ⟨o_8, h5, H6⟩ := bs H
  refine W.loop (σ := Bool × (List G_api_Cell) × Int) (τ := (Bool × (List G_api_Cell))) (fun s_8 => fun e w => ∃ (c : Cx) (g : Nat → Value) (v7 : Value) (u8 : List Value), w = c.w ∧ c0.le c ∧ Own c G (es true R_api_Cell v7 27 u8 s_8.2.1 :: F) ∧ e = ups g [(0, v1), (1, .bool s_8.1), (2, .int .i64 p2), (3, v3), (10, v7), (11, .int .i64 s_8.2.2)] ∧ OA R_api_Cell c v7 u8 s_8.2.1) (fun o_8_ ex e w => ex = .exit 0 ∧ (fun e w => ∃ (c : Cx) (g : Nat → Value) (v9 : Value) (u10 : List Value), w = c.w ∧ c0.le c ∧ Own c G (es true R_api_Cell v9 27 u10 o_8_.2 :: F) ∧ e = ups g [(1, .bool o_8_.1), (10, v9)] ∧ OA R_api_Cell c v9 u10 o_8_.2) e w) ?_ h5 ?_ ?_
  · clear H6 h5
    intro s_8 xx_ ee_ ww_ H
    revert ee_ ww_
    rintro e_ w_ ⟨c11, g12, v7, u8, rfl, l11, O13, rfl, h14⟩
    refine W.seq ?_
    refine sr ?_
    refine va (.int .i64 s_8.2.2) ?_
    refine va (v1) ?_
    refine WL.val0 (v := .int .i64 (p0.length : Int)) rfl (rx (by kernel_rfl) (run_len (ty := 3) Tryd.underlying22 (h2.mono l11) _)) ?_
    refine va (.bool (decide (s_8.2.2 < (p0.length : Int)))) ?_
    refine wln ?_
    refine W.cond (t := decide (s_8.2.2 < (p0.length : Int))) (by kernel_rfl) (fun h18 => ?_) (fun h18 => ?_)
    · have H := it h18 H
      refine W.skip ?_
      refine nrm ?_
      refine W.seq ?_
      refine W.block ?_
      refine W.seq ?_
      obtain ⟨d_17, h19, H⟩ := bs H
      refine W.join (fun e w => ∃ (c : Cx) (g : Nat → Value), w = c.w ∧ c11.le c ∧ Own c G (es true R_api_Cell v7 27 u8 s_8.2.1 :: F) ∧ e = ups g [(0, v1), (1, .bool s_8.1), (2, .int .i64 p2), (3, v3), (10, v7), (11, .int .i64 s_8.2.2), (12, .bool d_17)]) ?_ ?_
      · clear H
        refine W.region ?_
        refine va (.int .i64 s_8.2.2) ?_
        refine va (.int .i64 p2) ?_
        refine va (.bool (decide (s_8.2.2 ≥ p2))) ?_
        rcases Bool.eq_false_or_eq_true (decide (s_8.2.2 ≥ p2)) with h20 | h20
        · skip
          have H21 := anT h20 h19
          refine vb h20 ?_
          refine wn ?_
          refine va (.int .i64 s_8.2.2) ?_
          refine wn ?_
          refine va (.int .i64 p2) ?_
          refine wn ?_
          refine va (v3) ?_
          refine wn ?_
          refine WL.val0 (v := .int .i64 (p3.length : Int)) rfl (rx (by kernel_rfl) (run_len (ty := 3) Tryd.underlying22 (h4.mono l11) _)) ?_
          refine wn ?_
          refine va (.int .i64 (w64 (p2 + (p3.length : Int)))) ?_
          refine wn ?_
          refine va (.bool (decide (s_8.2.2 < (w64 (p2 + (p3.length : Int)))))) ?_
          obtain rfl := Option.some.inj H21
          refine va (.bool (decide (s_8.2.2 < (w64 (p2 + (p3.length : Int)))))) ?_
          refine va (.bool (decide (s_8.2.2 < (w64 (p2 + (p3.length : Int)))))) ?_
          refine wln ?_
          exact ⟨c11, _, rfl, (Cx.le.refl _), O13, ups_self ⟨rfl, rfl, rfl, rfl, rfl, rfl, rfl, trivial⟩⟩
        · skip
          obtain rfl := anF h20 h19
          refine vb h20 ?_
          refine ps ?_
          refine ps ?_
          refine ps ?_
          refine ps ?_
          refine ps ?_
          refine ps ?_
          refine va (.bool false) ?_
          refine va (.bool false) ?_
          refine wln ?_
          exact ⟨c11, _, rfl, (Cx.le.refl _), O13, ups_self ⟨rfl, rfl, rfl, rfl, rfl, rfl, rfl, trivial⟩⟩
      · skip
        rintro e_ w_ ⟨c22, g23, rfl, l22, O24, rfl⟩
        refine nrm ?_
        refine sr ?_
        refine va (v1) ?_
        refine va (.int .i64 s_8.2.2) ?_
        obtain ⟨x_29, h28, H⟩ := bs H
        obtain ⟨l_29, h30, m31⟩ := Sl.at (h2.mono (l11.trans l22)) (idx_get h28)
        obtain ⟨v32, rfl, h33⟩ := h30
        refine WL.val0 (v := .pointer (some ⟨sb v1, so v1 + s_8.2.2.toNat * 2, none⟩)) rfl (rx (by kernel_rfl) (run_index (k := .i64) Tryd.underlying22 (by kernel_rfl) (h2.mono (l11.trans l22)) h28 _)) ?_
        refine WL.val0 (v := .agg #[.int .i64 x_29.Kind, v32]) rfl (rx (by kernel_rfl) (run_loadN (T := 27) (by kernel_rfl) (by kernel_rfl) m31)) ?_
        refine WL.mem rfl (Own.al (T := 27) (vs := [.int .i64 0, .slice none 0 0]) O24 (by kernel_rfl)) ?_
        rintro v37 c36 l36 ⟨b34, rfl, O35⟩
        obtain ⟨a38, a39, a40, rfl⟩ := ((h33.mono l36)).form
        refine WL.memD rfl (Own.st (T := 27) (j := 0) (us := [.int .i64 x_29.Kind, .slice a38 a39 a40]) (nw := [.int .i64 x_29.Kind, .slice a38 a39 a40]) (v := .agg #[.int .i64 x_29.Kind, .slice a38 a39 a40]) 0 O35 (by kernel_rfl) rfl rfl rfl rfl (by kernel_rfl) ⟨rfl, (h33.mono l36).one, trivial⟩ rfl rfl) ?_
        rintro c42 l42 O41
        refine wln ?_
        obtain ⟨z_34, H43, H44⟩ := bs H
        refine W.seqJ (fun e w => ∃ (c : Cx) (g : Nat → Value) (v45 : Value), w = c.w ∧ c42.le c ∧ Own c G (⟨.pointer (some ⟨b34, 0, none⟩), 27, [.int .i64 z_34.1, v45], 0⟩ :: es true R_api_Cell v7 27 u8 s_8.2.1 :: F) ∧ e = ups g [(0, v1), (1, .bool s_8.1), (2, .int .i64 p2), (3, v3), (10, v7), (11, .int .i64 s_8.2.2), (12, .bool d_17), (13, .pointer (some ⟨b34, 0, none⟩))] ∧ Sl (RI .i32) c v45 z_34.2) ?_ ?_
        · skip
          refine sr ?_
          refine va (.bool d_17) ?_
          refine wln ?_
          refine W.cond (t := d_17) (by kernel_rfl) (fun h46 => ?_) (fun h46 => ?_)
          · have H43 := it h46 H43
            refine W.region ?_
            refine va (v3) ?_
            refine va (.int .i64 s_8.2.2) ?_
            refine va (.int .i64 p2) ?_
            refine va (.int .i64 (w64 (s_8.2.2 - p2))) ?_
            obtain ⟨x_41, h47, H43⟩ := bs H43
            obtain ⟨l_48, h49, m50⟩ := Sl.at (h4.mono (l11.trans (l22.trans (l36.trans l42)))) (idx_get h47)
            obtain ⟨v51, rfl, h52⟩ := h49
            refine WL.val0 (v := .pointer (some ⟨sb v3, so v3 + (w64 (s_8.2.2 - p2)).toNat * 2, none⟩)) rfl (rx (by kernel_rfl) (run_index (k := .i64) Tryd.underlying22 (by kernel_rfl) (h4.mono (l11.trans (l22.trans (l36.trans l42)))) h47 _)) ?_
            refine WL.val0 (v := .agg #[.int .i64 x_41.Kind, v51]) rfl (rx (by kernel_rfl) (run_loadN (T := 27) (by kernel_rfl) (by kernel_rfl) m50)) ?_
            obtain ⟨a53, a54, a55, rfl⟩ := (h52).form
            refine WL.memD rfl (Own.st (T := 27) (j := 0) (us := [.int .i64 x_41.Kind, .slice a53 a54 a55]) (nw := [.int .i64 x_41.Kind, .slice a53 a54 a55]) (v := .agg #[.int .i64 x_41.Kind, .slice a53 a54 a55]) 0 O41 (by kernel_rfl) rfl rfl rfl rfl (by kernel_rfl) ⟨rfl, h52.one, trivial⟩ rfl rfl) ?_
            rintro c57 l57 O56
            refine wln ?_
            obtain rfl := Option.some.inj H43
            exact ⟨c57, _, (.slice a53 a54 a55), rfl, l57, O56, ups_self ⟨rfl, rfl, rfl, rfl, rfl, rfl, rfl, rfl, trivial⟩, (h52.mono l57)⟩
          · have H43 := ie h46 H43
            refine W.skip ?_
            refine nrm ?_
            obtain rfl := Option.some.inj H43
            exact ⟨c42, _, (.slice a38 a39 a40), rfl, (Cx.le.refl _), O41, ups_self ⟨rfl, rfl, rfl, rfl, rfl, rfl, rfl, rfl, trivial⟩, (h33.mono (l36.trans l42))⟩
        · skip
          rintro e_ w_ ⟨c58, g59, v45, rfl, l58, O60, rfl, h61⟩
          refine W.seq ?_
          obtain ⟨d_47, h65, H44⟩ := bs H44
          refine W.join (fun e w => ∃ (c : Cx) (g : Nat → Value), w = c.w ∧ c58.le c ∧ Own c G (⟨.pointer (some ⟨b34, 0, none⟩), 27, [.int .i64 z_34.1, v45], 0⟩ :: es true R_api_Cell v7 27 u8 s_8.2.1 :: F) ∧ e = ups g [(0, v1), (1, .bool s_8.1), (2, .int .i64 p2), (3, v3), (10, v7), (11, .int .i64 s_8.2.2), (12, .bool d_17), (13, .pointer (some ⟨b34, 0, none⟩)), (14, .bool d_47)]) ?_ ?_
          · clear H44
            refine W.region ?_
            refine va (.bool d_17) ?_
            refine va (.bool (!d_17)) ?_
            rcases Bool.eq_false_or_eq_true (!d_17) with h66 | h66
            · skip
              have H67 := anT h66 h65
              refine vb h66 ?_
              refine wn ?_
              refine va (.pointer (some ⟨b34, 0, none⟩)) ?_
              refine wn ?_
              refine WL.val0 (v := .int .i64 z_34.1) rfl (rx (by kernel_rfl) (ldE1 (j := 0) Tryd.underlying3 rfl (O60.on 0 rfl) rfl rfl)) ?_
              refine wn ?_
              refine va (.bool (z_34.1 == 2)) ?_
              refine wn ?_
              obtain ⟨d_52, h68, H67⟩ := bs H67
              rcases Bool.eq_false_or_eq_true (z_34.1 == 2) with h69 | h69
              · skip
                have H70 := anT h69 h68
                refine vb h69 ?_
                refine wn ?_
                refine va (.int .i64 s_8.2.2) ?_
                refine wn ?_
                refine va (.int .i64 (w64 (s_8.2.2 + 1))) ?_
                refine wn ?_
                refine va (.int .i64 p2) ?_
                refine wn ?_
                refine va (.bool (decide ((w64 (s_8.2.2 + 1)) ≥ p2))) ?_
                refine wn ?_
                obtain rfl := Option.some.inj H70
                refine va (.bool (decide ((w64 (s_8.2.2 + 1)) ≥ p2))) ?_
                refine wn ?_
                obtain ⟨d_58, h71, H67⟩ := bs H67
                rcases Bool.eq_false_or_eq_true (decide ((w64 (s_8.2.2 + 1)) ≥ p2)) with h72 | h72
                · skip
                  have H73 := anT h72 h71
                  refine vb h72 ?_
                  refine wn ?_
                  refine va (.int .i64 s_8.2.2) ?_
                  refine wn ?_
                  refine va (.int .i64 (w64 (s_8.2.2 + 1))) ?_
                  refine wn ?_
                  refine va (.int .i64 p2) ?_
                  refine wn ?_
                  refine va (v3) ?_
                  refine wn ?_
                  refine WL.val0 (v := .int .i64 (p3.length : Int)) rfl (rx (by kernel_rfl) (run_len (ty := 3) Tryd.underlying22 (h4.mono (l11.trans (l22.trans (l36.trans (l42.trans l58))))) _)) ?_
                  refine wn ?_
                  refine va (.int .i64 (w64 (p2 + (p3.length : Int)))) ?_
                  refine wn ?_
                  refine va (.bool (decide ((w64 (s_8.2.2 + 1)) < (w64 (p2 + (p3.length : Int)))))) ?_
                  refine wn ?_
                  obtain rfl := Option.some.inj H73
                  refine va (.bool (decide ((w64 (s_8.2.2 + 1)) < (w64 (p2 + (p3.length : Int)))))) ?_
                  refine wn ?_
                  obtain ⟨d_67, h74, H67⟩ := bs H67
                  rcases Bool.eq_false_or_eq_true (decide ((w64 (s_8.2.2 + 1)) < (w64 (p2 + (p3.length : Int))))) with h75 | h75
                  · skip
                    obtain rfl := orT h75 h74
                    refine vb h75 ?_
                    refine ps ?_
                    refine ps ?_
                    refine ps ?_
                    refine ps ?_
                    refine ps ?_
                    refine ps ?_
                    refine ps ?_
                    refine ps ?_
                    refine ps ?_
                    refine ps ?_
                    refine ps ?_
                    refine ps ?_
                    refine ps ?_
                    refine ps ?_
                    refine ps ?_
                    refine ps ?_
                    refine ps ?_
                    refine ps ?_
                    refine wn ?_
                    refine va (.bool true) ?_
                    obtain rfl := Option.some.inj H67
                    refine va (.bool true) ?_
                    refine va (.bool true) ?_
                    refine wln ?_
                    exact ⟨c58, _, rfl, (Cx.le.refl _), O60, ups_self ⟨rfl, rfl, rfl, rfl, rfl, rfl, rfl, rfl, rfl, trivial⟩⟩
                  · skip
                    have H76 := orF h75 h74
                    refine vb h75 ?_
                    refine wn ?_
                    refine va (.pointer (some ⟨b34, 0, none⟩)) ?_
                    refine wn ?_
                    refine WL.val0 (v := .int .i64 z_34.1) rfl (rx (by kernel_rfl) (ldE1 (j := 0) Tryd.underlying3 rfl (O60.on 0 rfl) rfl rfl)) ?_
                    refine wn ?_
                    refine va (.bool (z_34.1 == 3)) ?_
                    refine wn ?_
                    obtain ⟨d_72, h77, H76⟩ := bs H76
                    rcases Bool.eq_false_or_eq_true (z_34.1 == 3) with h78 | h78
                    · skip
                      have H79 := anT h78 h77
                      refine vb h78 ?_
                      refine wn ?_
                      refine va (.int .i64 s_8.2.2) ?_
                      refine wn ?_
                      refine va (.int .i64 (w64 (s_8.2.2 - 1))) ?_
                      refine wn ?_
                      refine va (.int .i64 p2) ?_
                      refine wn ?_
                      refine va (.bool (decide ((w64 (s_8.2.2 - 1)) ≥ p2))) ?_
                      refine wn ?_
                      obtain rfl := Option.some.inj H79
                      refine va (.bool (decide ((w64 (s_8.2.2 - 1)) ≥ p2))) ?_
                      refine wn ?_
                      obtain ⟨d_78, h80, H76⟩ := bs H76
                      rcases Bool.eq_false_or_eq_true (decide ((w64 (s_8.2.2 - 1)) ≥ p2)) with h81 | h81
                      · skip
                        have H82 := anT h81 h80
                        refine vb h81 ?_
                        refine wn ?_
                        refine va (.int .i64 s_8.2.2) ?_
                        refine wn ?_
                        refine va (.int .i64 (w64 (s_8.2.2 - 1))) ?_
                        refine wn ?_
                        refine va (.int .i64 p2) ?_
                        refine wn ?_
                        refine va (v3) ?_
                        refine wn ?_
                        refine WL.val0 (v := .int .i64 (p3.length : Int)) rfl (rx (by kernel_rfl) (run_len (ty := 3) Tryd.underlying22 (h4.mono (l11.trans (l22.trans (l36.trans (l42.trans l58))))) _)) ?_
                        refine wn ?_
                        refine va (.int .i64 (w64 (p2 + (p3.length : Int)))) ?_
                        refine wn ?_
                        refine va (.bool (decide ((w64 (s_8.2.2 - 1)) < (w64 (p2 + (p3.length : Int)))))) ?_
                        refine wn ?_
                        obtain rfl := Option.some.inj H82
                        refine va (.bool (decide ((w64 (s_8.2.2 - 1)) < (w64 (p2 + (p3.length : Int)))))) ?_
                        refine wn ?_
                        obtain rfl := Option.some.inj H76
                        refine va (.bool (decide ((w64 (s_8.2.2 - 1)) < (w64 (p2 + (p3.length : Int)))))) ?_
                        obtain rfl := Option.some.inj H67
                        refine va (.bool (decide ((w64 (s_8.2.2 - 1)) < (w64 (p2 + (p3.length : Int)))))) ?_
                        refine va (.bool (decide ((w64 (s_8.2.2 - 1)) < (w64 (p2 + (p3.length : Int)))))) ?_
                        refine wln ?_
                        exact ⟨c58, _, rfl, (Cx.le.refl _), O60, ups_self ⟨rfl, rfl, rfl, rfl, rfl, rfl, rfl, rfl, rfl, trivial⟩⟩
                      · skip
                        obtain rfl := anF h81 h80
                        refine vb h81 ?_
                        refine ps ?_
                        refine ps ?_
                        refine ps ?_
                        refine ps ?_
                        refine ps ?_
                        refine ps ?_
                        refine ps ?_
                        refine wn ?_
                        refine va (.bool false) ?_
                        refine wn ?_
                        obtain rfl := Option.some.inj H76
                        refine va (.bool false) ?_
                        obtain rfl := Option.some.inj H67
                        refine va (.bool false) ?_
                        refine va (.bool false) ?_
                        refine wln ?_
                        exact ⟨c58, _, rfl, (Cx.le.refl _), O60, ups_self ⟨rfl, rfl, rfl, rfl, rfl, rfl, rfl, rfl, rfl, trivial⟩⟩
                    · skip
                      obtain rfl := anF h78 h77
                      refine vb h78 ?_
                      refine ps ?_
                      refine ps ?_
                      refine ps ?_
                      refine ps ?_
                      refine wn ?_
                      refine va (.bool false) ?_
                      refine wn ?_
                      obtain ⟨d_78, h83, H76⟩ := bs H76
                      have h84 : false = false := rfl
                      obtain rfl := anF h84 h83
                      refine vb h84 ?_
                      refine ps ?_
                      refine ps ?_
                      refine ps ?_
                      refine ps ?_
                      refine ps ?_
                      refine ps ?_
                      refine ps ?_
                      refine wn ?_
                      refine va (.bool false) ?_
                      refine wn ?_
                      obtain rfl := Option.some.inj H76
                      refine va (.bool false) ?_
                      obtain rfl := Option.some.inj H67
                      refine va (.bool false) ?_
                      refine va (.bool false) ?_
                      refine wln ?_
                      exact ⟨c58, _, rfl, (Cx.le.refl _), O60, ups_self ⟨rfl, rfl, rfl, rfl, rfl, rfl, rfl, rfl, rfl, trivial⟩⟩
                · skip
                  obtain rfl := anF h72 h71
                  refine vb h72 ?_
                  refine ps ?_
                  refine ps ?_
                  refine ps ?_
                  refine ps ?_
                  refine ps ?_
                  refine ps ?_
                  refine ps ?_
                  refine wn ?_
                  refine va (.bool false) ?_
                  refine wn ?_
                  obtain ⟨d_67, h85, H67⟩ := bs H67
                  have h86 : false = false := rfl
                  have H87 := orF h86 h85
                  refine vb h86 ?_
                  refine wn ?_
                  refine va (.pointer (some ⟨b34, 0, none⟩)) ?_
                  refine wn ?_
                  refine WL.val0 (v := .int .i64 z_34.1) rfl (rx (by kernel_rfl) (ldE1 (j := 0) Tryd.underlying3 rfl (O60.on 0 rfl) rfl rfl)) ?_
                  refine wn ?_
                  refine va (.bool (z_34.1 == 3)) ?_
                  refine wn ?_
                  obtain ⟨d_72, h88, H87⟩ := bs H87
                  rcases Bool.eq_false_or_eq_true (z_34.1 == 3) with h89 | h89
                  · skip
                    have H90 := anT h89 h88
                    refine vb h89 ?_
                    refine wn ?_
                    refine va (.int .i64 s_8.2.2) ?_
                    refine wn ?_
                    refine va (.int .i64 (w64 (s_8.2.2 - 1))) ?_
                    refine wn ?_
                    refine va (.int .i64 p2) ?_
                    refine wn ?_
                    refine va (.bool (decide ((w64 (s_8.2.2 - 1)) ≥ p2))) ?_
                    refine wn ?_
                    obtain rfl := Option.some.inj H90
                    refine va (.bool (decide ((w64 (s_8.2.2 - 1)) ≥ p2))) ?_
                    refine wn ?_
                    obtain ⟨d_78, h91, H87⟩ := bs H87
                    rcases Bool.eq_false_or_eq_true (decide ((w64 (s_8.2.2 - 1)) ≥ p2)) with h92 | h92
                    · skip
                      have H93 := anT h92 h91
                      refine vb h92 ?_
                      refine wn ?_
                      refine va (.int .i64 s_8.2.2) ?_
                      refine wn ?_
                      refine va (.int .i64 (w64 (s_8.2.2 - 1))) ?_
                      refine wn ?_
                      refine va (.int .i64 p2) ?_
                      refine wn ?_
                      refine va (v3) ?_
                      refine wn ?_
                      refine WL.val0 (v := .int .i64 (p3.length : Int)) rfl (rx (by kernel_rfl) (run_len (ty := 3) Tryd.underlying22 (h4.mono (l11.trans (l22.trans (l36.trans (l42.trans l58))))) _)) ?_
                      refine wn ?_
                      refine va (.int .i64 (w64 (p2 + (p3.length : Int)))) ?_
                      refine wn ?_
                      refine va (.bool (decide ((w64 (s_8.2.2 - 1)) < (w64 (p2 + (p3.length : Int)))))) ?_
                      refine wn ?_
                      obtain rfl := Option.some.inj H93
                      refine va (.bool (decide ((w64 (s_8.2.2 - 1)) < (w64 (p2 + (p3.length : Int)))))) ?_
                      refine wn ?_
                      obtain rfl := Option.some.inj H87
                      refine va (.bool (decide ((w64 (s_8.2.2 - 1)) < (w64 (p2 + (p3.length : Int)))))) ?_
                      obtain rfl := Option.some.inj H67
                      refine va (.bool (decide ((w64 (s_8.2.2 - 1)) < (w64 (p2 + (p3.length : Int)))))) ?_
                      refine va (.bool (decide ((w64 (s_8.2.2 - 1)) < (w64 (p2 + (p3.length : Int)))))) ?_
                      refine wln ?_
                      exact ⟨c58, _, rfl, (Cx.le.refl _), O60, ups_self ⟨rfl, rfl, rfl, rfl, rfl, rfl, rfl, rfl, rfl, trivial⟩⟩
                    · skip
                      obtain rfl := anF h92 h91
                      refine vb h92 ?_
                      refine ps ?_
                      refine ps ?_
                      refine ps ?_
                      refine ps ?_
                      refine ps ?_
                      refine ps ?_
                      refine ps ?_
                      refine wn ?_
                      refine va (.bool false) ?_
                      refine wn ?_
                      obtain rfl := Option.some.inj H87
                      refine va (.bool false) ?_
                      obtain rfl := Option.some.inj H67
                      refine va (.bool false) ?_
                      refine va (.bool false) ?_
                      refine wln ?_
                      exact ⟨c58, _, rfl, (Cx.le.refl _), O60, ups_self ⟨rfl, rfl, rfl, rfl, rfl, rfl, rfl, rfl, rfl, trivial⟩⟩
                  · skip
                    obtain rfl := anF h89 h88
                    refine vb h89 ?_
                    refine ps ?_
                    refine ps ?_
                    refine ps ?_
                    refine ps ?_
                    refine wn ?_
                    refine va (.bool false) ?_
                    refine wn ?_
                    obtain ⟨d_78, h94, H87⟩ := bs H87
                    have h95 : false = false := rfl
                    obtain rfl := anF h95 h94
                    refine vb h95 ?_
                    refine ps ?_
                    refine ps ?_
                    refine ps ?_
                    refine ps ?_
                    refine ps ?_
                    refine ps ?_
                    refine ps ?_
                    refine wn ?_
                    refine va (.bool false) ?_
                    refine wn ?_
                    obtain rfl := Option.some.inj H87
                    refine va (.bool false) ?_
                    obtain rfl := Option.some.inj H67
                    refine va (.bool false) ?_
                    refine va (.bool false) ?_
                    refine wln ?_
                    exact ⟨c58, _, rfl, (Cx.le.refl _), O60, ups_self ⟨rfl, rfl, rfl, rfl, rfl, rfl, rfl, rfl, rfl, trivial⟩⟩
              · skip
                obtain rfl := anF h69 h68
                refine vb h69 ?_
                refine ps ?_
                refine ps ?_
                refine ps ?_
                refine ps ?_
                refine wn ?_
                refine va (.bool false) ?_
                refine wn ?_
                obtain ⟨d_58, h96, H67⟩ := bs H67
                have h97 : false = false := rfl
                obtain rfl := anF h97 h96
                refine vb h97 ?_
                refine ps ?_
                refine ps ?_
                refine ps ?_
                refine ps ?_
                refine ps ?_
                refine ps ?_
                refine ps ?_
                refine wn ?_
                refine va (.bool false) ?_
                refine wn ?_
                obtain ⟨d_67, h98, H67⟩ := bs H67
                have h99 : false = false := rfl
                have H100 := orF h99 h98
                refine vb h99 ?_
                refine wn ?_
                refine va (.pointer (some ⟨b34, 0, none⟩)) ?_
                refine wn ?_
                refine WL.val0 (v := .int .i64 z_34.1) rfl (rx (by kernel_rfl) (ldE1 (j := 0) Tryd.underlying3 rfl (O60.on 0 rfl) rfl rfl)) ?_
                refine wn ?_
                refine va (.bool (z_34.1 == 3)) ?_
                refine wn ?_
                obtain ⟨d_72, h101, H100⟩ := bs H100
                rcases Bool.eq_false_or_eq_true (z_34.1 == 3) with h102 | h102
                · skip
                  have H103 := anT h102 h101
                  refine vb h102 ?_
                  refine wn ?_
                  refine va (.int .i64 s_8.2.2) ?_
                  refine wn ?_
                  refine va (.int .i64 (w64 (s_8.2.2 - 1))) ?_
                  refine wn ?_
                  refine va (.int .i64 p2) ?_
                  refine wn ?_
                  refine va (.bool (decide ((w64 (s_8.2.2 - 1)) ≥ p2))) ?_
                  refine wn ?_
                  obtain rfl := Option.some.inj H103
                  refine va (.bool (decide ((w64 (s_8.2.2 - 1)) ≥ p2))) ?_
                  refine wn ?_
                  obtain ⟨d_78, h104, H100⟩ := bs H100
                  rcases Bool.eq_false_or_eq_true (decide ((w64 (s_8.2.2 - 1)) ≥ p2)) with h105 | h105
                  · skip
                    have H106 := anT h105 h104
                    refine vb h105 ?_
                    refine wn ?_
                    refine va (.int .i64 s_8.2.2) ?_
                    refine wn ?_
                    refine va (.int .i64 (w64 (s_8.2.2 - 1))) ?_
                    refine wn ?_
                    refine va (.int .i64 p2) ?_
                    refine wn ?_
                    refine va (v3) ?_
                    refine wn ?_
                    refine WL.val0 (v := .int .i64 (p3.length : Int)) rfl (rx (by kernel_rfl) (run_len (ty := 3) Tryd.underlying22 (h4.mono (l11.trans (l22.trans (l36.trans (l42.trans l58))))) _)) ?_
                    refine wn ?_
                    refine va (.int .i64 (w64 (p2 + (p3.length : Int)))) ?_
                    refine wn ?_
                    refine va (.bool (decide ((w64 (s_8.2.2 - 1)) < (w64 (p2 + (p3.length : Int)))))) ?_
                    refine wn ?_
                    obtain rfl := Option.some.inj H106
                    refine va (.bool (decide ((w64 (s_8.2.2 - 1)) < (w64 (p2 + (p3.length : Int)))))) ?_
                    refine wn ?_
                    obtain rfl := Option.some.inj H100
                    refine va (.bool (decide ((w64 (s_8.2.2 - 1)) < (w64 (p2 + (p3.length : Int)))))) ?_
                    obtain rfl := Option.some.inj H67
                    refine va (.bool (decide ((w64 (s_8.2.2 - 1)) < (w64 (p2 + (p3.length : Int)))))) ?_
                    refine va (.bool (decide ((w64 (s_8.2.2 - 1)) < (w64 (p2 + (p3.length : Int)))))) ?_
                    refine wln ?_
                    exact ⟨c58, _, rfl, (Cx.le.refl _), O60, ups_self ⟨rfl, rfl, rfl, rfl, rfl, rfl, rfl, rfl, rfl, trivial⟩⟩
                  · skip
                    obtain rfl := anF h105 h104
                    refine vb h105 ?_
                    refine ps ?_
                    refine ps ?_
                    refine ps ?_
                    refine ps ?_
                    refine ps ?_
                    refine ps ?_
                    refine ps ?_
                    refine wn ?_
                    refine va (.bool false) ?_
                    refine wn ?_
                    obtain rfl := Option.some.inj H100
                    refine va (.bool false) ?_
                    obtain rfl := Option.some.inj H67
                    refine va (.bool false) ?_
                    refine va (.bool false) ?_
                    refine wln ?_
                    exact ⟨c58, _, rfl, (Cx.le.refl _), O60, ups_self ⟨rfl, rfl, rfl, rfl, rfl, rfl, rfl, rfl, rfl, trivial⟩⟩
                · skip
                  obtain rfl := anF h102 h101
                  refine vb h102 ?_
                  refine ps ?_
                  refine ps ?_
                  refine ps ?_
                  refine ps ?_
                  refine wn ?_
                  refine va (.bool false) ?_
                  refine wn ?_
                  obtain ⟨d_78, h107, H100⟩ := bs H100
                  have h108 : false = false := rfl
                  obtain rfl := anF h108 h107
                  refine vb h108 ?_
                  refine ps ?_
                  refine ps ?_
                  refine ps ?_
                  refine ps ?_
                  refine ps ?_
                  refine ps ?_
                  refine ps ?_
                  refine wn ?_
                  refine va (.bool false) ?_
                  refine wn ?_
                  obtain rfl := Option.some.inj H100
                  refine va (.bool false) ?_
                  obtain rfl := Option.some.inj H67
                  refine va (.bool false) ?_
                  refine va (.bool false) ?_
                  refine wln ?_
                  exact ⟨c58, _, rfl, (Cx.le.refl _), O60, ups_self ⟨rfl, rfl, rfl, rfl, rfl, rfl, rfl, rfl, rfl, trivial⟩⟩
            · skip
              obtain rfl := anF h66 h65
              refine vb h66 ?_
              refine ps ?_
              refine ps ?_
              refine ps ?_
              refine ps ?_
              refine ps ?_
              refine ps ?_
              refine ps ?_
              refine ps ?_
              refine ps ?_
              refine ps ?_
              refine ps ?_
              refine ps ?_
              refine ps ?_
              refine ps ?_
              refine ps ?_
              refine ps ?_
              refine ps ?_
              refine ps ?_
              refine ps ?_
              refine ps ?_
              refine ps ?_
              refine ps ?_
              refine ps ?_
              refine ps ?_
              refine ps ?_
              refine ps ?_
              refine ps ?_
              refine ps ?_
              refine ps ?_
              refine ps ?_
              refine ps ?_
              refine ps ?_
              refine ps ?_
              refine ps ?_
              refine ps ?_
              refine ps ?_
              refine ps ?_
              refine ps ?_
              refine va (.bool false) ?_
              refine va (.bool false) ?_
              refine wln ?_
              exact ⟨c58, _, rfl, (Cx.le.refl _), O60, ups_self ⟨rfl, rfl, rfl, rfl, rfl, rfl, rfl, rfl, rfl, trivial⟩⟩
          · skip
            rintro e_ w_ ⟨c109, g110, rfl, l109, O111, rfl⟩
            refine nrm ?_
            obtain ⟨z_89, H115, H116⟩ := bs H44
            refine W.seqJ (fun e w => ∃ (c : Cx) (g : Nat → Value) (v117 : Value), w = c.w ∧ c109.le c ∧ Own c G (⟨.pointer (some ⟨b34, 0, none⟩), 27, [.int .i64 z_89.1, v117], 0⟩ :: es true R_api_Cell v7 27 u8 s_8.2.1 :: F) ∧ e = ups g [(0, v1), (1, .bool s_8.1), (2, .int .i64 p2), (3, v3), (10, v7), (11, .int .i64 s_8.2.2), (12, .bool d_17), (13, .pointer (some ⟨b34, 0, none⟩)), (14, .bool d_47)] ∧ Sl (RI .i32) c v117 z_89.2) ?_ ?_
            · skip
              refine sr ?_
              refine va (.bool d_47) ?_
              refine wln ?_
              refine W.cond (t := d_47) (by kernel_rfl) (fun h118 => ?_) (fun h118 => ?_)
              · have H115 := it h118 H115
                refine W.region ?_
                refine va (.agg #[.int .i64 0, .slice none 0 0]) ?_
                refine WL.memD rfl (Own.st (T := 27) (j := 0) (us := [.int .i64 0, .slice none 0 0]) (nw := [.int .i64 0, .slice none 0 0]) (v := .agg #[.int .i64 0, .slice none 0 0]) 0 O111 (by kernel_rfl) rfl rfl rfl rfl (by kernel_rfl) ⟨rfl, rfl, trivial⟩ rfl rfl) ?_
                rintro c120 l120 O119
                refine wln ?_
                obtain rfl := Option.some.inj H115
                exact ⟨c120, _, (.slice none 0 0), rfl, l120, O119, ups_self ⟨rfl, rfl, rfl, rfl, rfl, rfl, rfl, rfl, rfl, trivial⟩, (Sl.nl _ _)⟩
              · have H115 := ie h118 H115
                refine W.skip ?_
                refine nrm ?_
                obtain rfl := Option.some.inj H115
                exact ⟨c109, _, v45, rfl, (Cx.le.refl _), O111, ups_self ⟨rfl, rfl, rfl, rfl, rfl, rfl, rfl, rfl, rfl, trivial⟩, (h61.mono l109)⟩
            · skip
              rintro e_ w_ ⟨c121, g122, v117, rfl, l121, O123, rfl, h124⟩
              obtain ⟨z_95, H128, H129⟩ := bs H116
              refine W.seqJ (fun e w => ∃ (c : Cx) (g : Nat → Value), w = c.w ∧ c121.le c ∧ Own c G (⟨.pointer (some ⟨b34, 0, none⟩), 27, [.int .i64 z_89.1, v117], 0⟩ :: es true R_api_Cell v7 27 u8 s_8.2.1 :: F) ∧ e = ups g [(0, v1), (1, .bool z_95), (2, .int .i64 p2), (3, v3), (10, v7), (11, .int .i64 s_8.2.2), (13, .pointer (some ⟨b34, 0, none⟩))]) ?_ ?_
              · skip
                refine W.seq ?_
                obtain ⟨d_101, h130, H128⟩ := bs H128
                refine W.join (fun e w => ∃ (c : Cx) (g : Nat → Value), w = c.w ∧ c121.le c ∧ Own c G (⟨.pointer (some ⟨b34, 0, none⟩), 27, [.int .i64 z_89.1, v117], 0⟩ :: es true R_api_Cell v7 27 u8 s_8.2.1 :: F) ∧ e = ups g [(0, v1), (1, .bool s_8.1), (2, .int .i64 p2), (3, v3), (10, v7), (11, .int .i64 s_8.2.2), (13, .pointer (some ⟨b34, 0, none⟩)), (97, .bool d_101)]) ?_ ?_
                · clear H128
                  refine W.region ?_
                  refine va (.int .i64 s_8.2.2) ?_
                  refine va (.int .i64 (w64 (s_8.2.2 + 1))) ?_
                  refine va (v1) ?_
                  refine WL.val0 (v := .int .i64 (p0.length : Int)) rfl (rx (by kernel_rfl) (run_len (ty := 3) Tryd.underlying22 (h2.mono (l11.trans (l22.trans (l36.trans (l42.trans (l58.trans (l109.trans l121))))))) _)) ?_
                  refine va (.bool ((w64 (s_8.2.2 + 1)) == (p0.length : Int))) ?_
                  rcases Bool.eq_false_or_eq_true ((w64 (s_8.2.2 + 1)) == (p0.length : Int)) with h131 | h131
                  · skip
                    have H132 := anT h131 h130
                    refine vb h131 ?_
                    refine wn ?_
                    refine va (.bool d_17) ?_
                    refine wn ?_
                    obtain ⟨d_104, h133, H132⟩ := bs H132
                    rcases Bool.eq_false_or_eq_true (d_17) with h134 | h134
                    · skip
                      obtain rfl := orT h134 h133
                      refine vb h134 ?_
                      refine ps ?_
                      refine wn ?_
                      refine va (.bool true) ?_
                      obtain rfl := Option.some.inj H132
                      refine va (.bool true) ?_
                      refine wln ?_
                      exact ⟨c121, _, rfl, (Cx.le.refl _), O123, ups_self ⟨rfl, rfl, rfl, rfl, rfl, rfl, rfl, rfl, trivial⟩⟩
                    · skip
                      have H135 := orF h134 h133
                      refine vb h134 ?_
                      refine wn ?_
                      refine va (.bool d_47) ?_
                      refine wn ?_
                      obtain rfl := Option.some.inj H135
                      refine va (.bool d_47) ?_
                      obtain rfl := Option.some.inj H132
                      refine va (.bool d_47) ?_
                      refine wln ?_
                      exact ⟨c121, _, rfl, (Cx.le.refl _), O123, ups_self ⟨rfl, rfl, rfl, rfl, rfl, rfl, rfl, rfl, trivial⟩⟩
                  · skip
                    obtain rfl := anF h131 h130
                    refine vb h131 ?_
                    refine ps ?_
                    refine ps ?_
                    refine ps ?_
                    refine ps ?_
                    refine va (.bool false) ?_
                    refine wln ?_
                    exact ⟨c121, _, rfl, (Cx.le.refl _), O123, ups_self ⟨rfl, rfl, rfl, rfl, rfl, rfl, rfl, rfl, trivial⟩⟩
                · skip
                  rintro e_ w_ ⟨c136, g137, rfl, l136, O138, rfl⟩
                  refine nrm ?_
                  refine W.cond (t := d_101) (by kernel_rfl) (fun h142 => ?_) (fun h142 => ?_)
                  · have H128 := it h142 H128
                    refine W.region ?_
                    refine va (.bool false) ?_
                    refine wln ?_
                    obtain rfl := Option.some.inj H128
                    exact ⟨c136, _, rfl, l136, O138, ups_self ⟨rfl, rfl, rfl, rfl, rfl, rfl, rfl, trivial⟩⟩
                  · have H128 := ie h142 H128
                    refine W.skip ?_
                    refine nrm ?_
                    obtain rfl := Option.some.inj H128
                    exact ⟨c136, _, rfl, l136, O138, ups_self ⟨rfl, rfl, rfl, rfl, rfl, rfl, rfl, trivial⟩⟩
              · skip
                rintro e_ w_ ⟨c143, g144, rfl, l143, O145, rfl⟩
                refine W.region ?_
                refine va (v7) ?_
                refine WL.val0 (v := .agg #[.int .i64 z_89.1, v117]) rfl (rx (by kernel_rfl) (ldEN (T := 27) (j := 0) (l := [.int .i64 z_89.1, v117]) (by kernel_rfl) (by kernel_rfl) (O145.on 0 rfl) rfl rfl)) ?_
                obtain ⟨a149, a150, a151, rfl⟩ := ((h124.mono l143)).form
                refine WL.mem rfl (Own.sl (R := R_api_Cell) (E := 27) (ls := [[.int .i64 z_89.1, .slice a149 a150 a151]]) (vs := [.int .i64 z_89.1, .slice a149 a150 a151]) (xs := ([(⟨z_89.1, z_89.2⟩ : G_api_Cell)] : List G_api_Cell)) true O145 (Nat.succ_pos _) rfl ⟨⟨(.slice a149 a150 a151), rfl, (h124.mono l143)⟩, trivial⟩ (by kernel_rfl) (by kernel_rfl)) ?_
                rintro v156 c155 l155 ⟨u153, O152, h154⟩
                obtain ⟨c159, h160, l159, O157, h158⟩ := O152.frz 0 rfl h154
                refine WL.gh h160 ?_
                obtain ⟨x_113, h161, H129⟩ := bs H129
                refine WL.mem rfl (Own.app (R := R_api_Cell) (z := .agg #[.int .i64 0, .slice none 0 0]) (by_ := 32) (ty := 22) 2 O157 rfl (h14.mono (l22.trans (l36.trans (l42.trans (l58.trans (l109.trans (l121.trans (l143.trans (l155.trans l159))))))))) h158 h161 Tryd.underlying22 (by kernel_rfl) rfl (by kernel_rfl) (by kernel_rfl)) ?_
                rintro v166 c165 l165 ⟨u163, O162, h164⟩
                refine va (v166) ?_
                refine WL.nil ?_
                refine bkn ?_
                refine nrm ?_
                refine W.region ?_
                refine va (.int .i64 s_8.2.2) ?_
                refine va (.int .i64 (w64 (s_8.2.2 + 1))) ?_
                refine va (.int .i64 (w64 (s_8.2.2 + 1))) ?_
                refine WL.nil ?_
                obtain rfl := Option.some.inj H129
                refine ⟨_, rfl, ?_⟩
                have O167 := O162.selD 3 [2] (by kernel_rfl) (by kernel_rfl)
                exact ⟨c165, _, v166, u163, rfl, (l11.trans (l22.trans (l36.trans (l42.trans (l58.trans (l109.trans (l121.trans (l143.trans (l155.trans (l159.trans l165)))))))))), O167, ups_self ⟨rfl, rfl, rfl, rfl, rfl, rfl, trivial⟩, h164⟩
    · have H := ie h18 H
      refine W.exit ?_
      refine thx ?_
      obtain rfl := Option.some.inj H
      refine ⟨_, rfl, rfl, ?_⟩
      exact ⟨c11, _, v7, u8, rfl, l11, O13, ups_self ⟨rfl, rfl, trivial⟩, h14⟩
  · skip
    have h169 : OA R_api_Cell c0 (.slice none 0 0) [] [] := OA.nil (Nat.succ_pos _)
    have O168 := O0.addHole (e := es true R_api_Cell (.slice none 0 0) 27 [] ([] : List G_api_Cell)) rfl
    exact ⟨c0, _, (.slice none 0 0), [], rfl, (Cx.le.refl _), O168, ups_self ⟨rfl, rfl, rfl, rfl, rfl, rfl, trivial⟩, h169⟩
  · skip
    rintro _ e_ w_ ⟨rfl, c170, g171, v9, u10, rfl, l170, O172, rfl, h173⟩
    refine bke ?_
    refine nrm ?_
    refine sr ?_
    refine va (v9) ?_
    refine va (.bool o_8.1) ?_
    refine va (v9) ?_
    refine va (.bool o_8.1) ?_
    refine wln ?_
    refine W.ret ?_
    obtain rfl := Option.some.inj H6
    exact ret2 (v := v9) (v' := .bool o_8.1) rfl (by kernel_rfl) (by kernel_rfl) ⟨_, c170, rfl, rfl, l170, v9, u10, O172, rfl, h173⟩

def f_linotyperef24_Wrong (p0 : Int) (p1 : Int) (p2 : List G_api_Cell) : Option (Int) :=
  (orE (decide (p1 < 0)) (some (decide (p1 > p0)))).bind fun d_5 =>
  (orE d_5 (some (decide ((p2.length : Int) > (w64 (p0 - p1)))))).bind fun d_10 =>
  if d_10 = true then
  some 3
  else
  (f_linotyperef23_Sound p2).bind fun x_22 =>
  if (!x_22) = true then
  some 5
  else
  some 0
theorem c_linotyperef24_Wrong {c0 : Cx} {G : Gm} {F : List En} {v1 : Value} (O0 : Own c0 G F) (p0 : Int) (p1 : Int) (p2 : List G_api_Cell) {r : Int} (h2 : Sl R_api_Cell c0 v1 p2) (H : f_linotyperef24_Wrong p0 p1 p2 = some r) :
    Calls Tryd.prog 47 #[.int .i64 p0, .int .i64 p1, v1] c0.w (Post c0 fun c v => Own c G (F) ∧ v = .int .i64 r) := by
  unfold f_linotyperef24_Wrong at H
  refine enter (l := [.int .i64 p0, .int .i64 p1, v1]) Tryd.func47 rfl rfl rfl ?_
  refine sr ?_
  refine va (.int .i64 0) ?_
  refine wln ?_
  refine W.seq ?_
  refine W.seq ?_
  obtain ⟨d_5, h3, H⟩ := bs H
  obtain ⟨d_10, h4, H⟩ := bs H
  refine W.join (fun e w => ∃ (c : Cx) (g : Nat → Value), w = c.w ∧ c0.le c ∧ Own c G (F) ∧ e = ups g [(2, v1), (21, .bool d_10)]) ?_ ?_
  · clear H
    refine W.region ?_
    refine va (.int .i64 p1) ?_
    refine va (.bool (decide (p1 < 0))) ?_
    rcases Bool.eq_false_or_eq_true (decide (p1 < 0)) with h5 | h5
    · skip
      obtain rfl := orT h5 h3
      refine vb h5 ?_
      refine ps ?_
      refine ps ?_
      refine ps ?_
      refine va (.bool true) ?_
      have h6 : true = true := rfl
      obtain rfl := orT h6 h4
      refine vb h6 ?_
      refine ps ?_
      refine ps ?_
      refine ps ?_
      refine ps ?_
      refine ps ?_
      refine ps ?_
      refine va (.bool true) ?_
      refine wln ?_
      exact ⟨c0, _, rfl, (Cx.le.refl _), O0, ups_self ⟨rfl, rfl, trivial⟩⟩
    · skip
      have H7 := orF h5 h3
      refine vb h5 ?_
      refine wn ?_
      refine va (.int .i64 p1) ?_
      refine wn ?_
      refine va (.int .i64 p0) ?_
      refine wn ?_
      refine va (.bool (decide (p1 > p0))) ?_
      obtain rfl := Option.some.inj H7
      refine va (.bool (decide (p1 > p0))) ?_
      rcases Bool.eq_false_or_eq_true (decide (p1 > p0)) with h8 | h8
      · skip
        obtain rfl := orT h8 h4
        refine vb h8 ?_
        refine ps ?_
        refine ps ?_
        refine ps ?_
        refine ps ?_
        refine ps ?_
        refine ps ?_
        refine va (.bool true) ?_
        refine wln ?_
        exact ⟨c0, _, rfl, (Cx.le.refl _), O0, ups_self ⟨rfl, rfl, trivial⟩⟩
      · skip
        have H9 := orF h8 h4
        refine vb h8 ?_
        refine wn ?_
        refine va (v1) ?_
        refine wn ?_
        refine WL.val0 (v := .int .i64 (p2.length : Int)) rfl (rx (by kernel_rfl) (run_len (ty := 3) Tryd.underlying22 h2 _)) ?_
        refine wn ?_
        refine va (.int .i64 p0) ?_
        refine wn ?_
        refine va (.int .i64 p1) ?_
        refine wn ?_
        refine va (.int .i64 (w64 (p0 - p1))) ?_
        refine wn ?_
        refine va (.bool (decide ((p2.length : Int) > (w64 (p0 - p1))))) ?_
        obtain rfl := Option.some.inj H9
        refine va (.bool (decide ((p2.length : Int) > (w64 (p0 - p1))))) ?_
        refine wln ?_
        exact ⟨c0, _, rfl, (Cx.le.refl _), O0, ups_self ⟨rfl, rfl, trivial⟩⟩
  · skip
    rintro e_ w_ ⟨c10, g11, rfl, l10, O12, rfl⟩
    refine nrm ?_
    refine W.cond (t := d_10) (by kernel_rfl) (fun h16 => ?_) (fun h16 => ?_)
    · have H := it h16 H
      refine sr ?_
      refine va (.int .i64 3) ?_
      refine wln ?_
      refine W.ret ?_
      refine thr ?_
      obtain rfl := Option.some.inj H
      exact ret1 (v := .int .i64 3) rfl (by kernel_rfl) ⟨_, c10, rfl, rfl, l10, O12, rfl⟩
    · have H := ie h16 H
      refine W.skip ?_
      refine nrm ?_
      refine W.seq ?_
      refine sr ?_
      refine va (v1) ?_
      obtain ⟨x_22, h17, H⟩ := bs H
      refine WL.callP rfl (by kernel_rfl) (c_linotyperef23_Sound O12 p2 (h2.mono l10) h17) ?_
      rintro v23 c22 l22 ⟨O19, rfl⟩
      refine va (.bool (!x_22)) ?_
      refine wln ?_
      refine W.cond (t := !x_22) (by kernel_rfl) (fun h24 => ?_) (fun h24 => ?_)
      · have H := it h24 H
        refine sr ?_
        refine va (.int .i64 5) ?_
        refine wln ?_
        refine W.ret ?_
        refine thr ?_
        obtain rfl := Option.some.inj H
        exact ret1 (v := .int .i64 5) rfl (by kernel_rfl) ⟨_, c22, rfl, rfl, (l10.trans l22), O19, rfl⟩
      · have H := ie h24 H
        refine W.skip ?_
        refine nrm ?_
        refine sr ?_
        refine va (.int .i64 0) ?_
        refine wln ?_
        refine W.ret ?_
        obtain rfl := Option.some.inj H
        exact ret1 (v := .int .i64 0) rfl (by kernel_rfl) ⟨_, c22, rfl, rfl, (l10.trans l22), O19, rfl⟩

end Go.Proofs.YtohpkblleihmaaaDoor
