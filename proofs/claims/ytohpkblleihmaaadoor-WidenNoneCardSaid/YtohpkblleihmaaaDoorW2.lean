import Derived.Test.YtohpkblleihmaaaDoorMo
import Derived.Test.YtohpkblleihmaaaDoorProg
import Derived.Test.YtohpkblleihmaaaDoorMy
import Derived.Test.YtohpkblleihmaaaDoorMz
import Derived.Test.YtohpkblleihmaaaDoorA1
import Derived.Test.YtohpkblleihmaaaDoorG1
import Derived.Test.YtohpkblleihmaaaDoorM1
import Derived.Test.YtohpkblleihmaaaDoorN1
import Derived.Test.YtohpkblleihmaaaDoorW0
import Derived.Test.YtohpkblleihmaaaDoorW1
namespace Go.Proofs.YtohpkblleihmaaaDoor
open Go Go.Lt
set_option maxRecDepth 10000
set_option linter.unusedVariables false
attribute [local irreducible] W WL AC
def f_linotypelaw35_WidenNone (sg : Sto) (p0 : Int) (p1 : G_api_Prop) : Option (Sto × Bool) :=
  (f_place_New sg 2 2).bind fun x_6 =>
  (f_widen_Begin x_6.1 (none : Option Nat) p0 p1).bind fun x_11 =>
  (if x_11.2.isNone = true then (some (x_11.1.add_place_Pen (⟨(none : Option Nat), (⟨0, 0, false⟩ : G_api_Cursor), false⟩ : G_place_Pen))).bind fun s_16001 =>
  (f_widen_Begin s_16001 (some x_11.1.place_Pen.length) p0 p1).bind fun x_19 =>
  some (x_19.2.isNone, x_19.1) else some (false, x_11.1)).bind fun d_13 =>
  (if d_13.1 = true then (f_widen_Cluster_Join d_13.2 (none : Option Nat) x_6.2 p0 p1).bind fun x_27 =>
  some (!x_27.2, x_27.1) else some (false, d_13.2)).bind fun d_21 =>
  (andE d_21.1 ((f_widen_Cluster_At d_21.2 (none : Option Nat)).bind fun x_32 =>
  some (x_32.Row == 0 && (x_32.Col == 0 && (x_32.Pending == false && true))))).bind fun d_29 =>
  (andE d_29 ((f_widen_Cluster_Wide d_21.2 (none : Option Nat)).bind fun x_38 =>
  some (x_38 == 0))).bind fun d_35 =>
  (andE d_35 ((f_widen_Cluster_Text d_21.2 (none : Option Nat)).bind fun x_43 =>
  some ((x_43.length : Int) == 0))).bind fun d_40 =>
  (if d_40 = true then (f_linotypelaw35_works d_21.2).bind fun x_48 =>
  some (x_48.2, x_48.1) else some (false, d_21.2)).bind fun d_46 =>
  some (d_46.2, d_46.1)
theorem c_linotypelaw35_WidenNone {c0 : Cx} {G : Gm} {F : List En} {sg : Sto} (O0 : Own c0 G F) (R0 : Rel c0 sg G) (hG : Gl [0, 1] c0) (p0 : Int) (p1 : G_api_Prop) {r : Sto × Bool} (H : f_linotypelaw35_WidenNone sg p0 p1 = some r) :
    Calls Tryd.prog 21 #[.int .i32 p0, .agg #[.int .i64 p1.Break, .bool p1.Pict, .int .i64 p1.Conj, .int .i64 p1.East]] c0.w (Post c0 fun c v => ∃ G_ : Gm, Own c G_ (F) ∧ Rel c r.1 G_ ∧ v = .bool r.2) := by
  unfold f_linotypelaw35_WidenNone at H
  refine enter (l := [.int .i32 p0, .agg #[.int .i64 p1.Break, .bool p1.Pict, .int .i64 p1.Conj, .int .i64 p1.East]]) Tryd.func21 rfl rfl rfl ?_
  refine sr ?_
  refine WL.mem rfl (Own.bx (T := 148) (vs := [.int .i64 p1.Break, .bool p1.Pict, .int .i64 p1.Conj, .int .i64 p1.East]) O0 (by kernel_rfl)) ?_
  rintro v5 c4 l4 ⟨b1, rfl, O2, m3⟩
  refine va (.bool false) ?_
  refine wln ?_
  refine sr ?_
  refine va (.pointer none) ?_
  refine wln ?_
  refine sr ?_
  obtain ⟨x_6, h6, H⟩ := bs H
  refine WL.callP rfl (by kernel_rfl) (c_place_New O2 (R0.mono l4) 2 2 h6) ?_
  rintro v7 c13 l13 ⟨_, G9, O10, R11, a12, rfl, h8⟩
  refine va (v7) ?_
  refine wln ?_
  refine W.seq ?_
  obtain ⟨x_11, h15, H⟩ := bs H
  obtain ⟨d_13, h16, H⟩ := bs H
  obtain ⟨d_21, h17, H⟩ := bs H
  obtain ⟨d_29, h18, H⟩ := bs H
  obtain ⟨d_35, h19, H⟩ := bs H
  obtain ⟨d_40, h20, H⟩ := bs H
  obtain ⟨d_46, h21, H⟩ := bs H
  refine W.join (fun e w => ∃ (c : Cx) (g : Nat → Value) (G_ : Gm), w = c.w ∧ c13.le c ∧ Own c G_ (F) ∧ e = ups g [(4, .bool d_46.1)] ∧ Rel c d_46.2 G_) ?_ ?_
  · clear H
    refine W.region ?_
    refine va (.int .i32 p0) ?_
    refine WL.val0 (v := .agg #[.int .i64 p1.Break, .bool p1.Pict, .int .i64 p1.Conj, .int .i64 p1.East]) rfl (rx (by kernel_rfl) (run_loadN (T := 148) (by kernel_rfl) (by kernel_rfl) (fun j u hu => (m3 j u hu).mono l13))) ?_
    refine WL.callP rfl (by kernel_rfl) (c_widen_Begin O10 R11 ((hG.mono (l4.trans l13)).le (by decide)) (none : Option Nat) p0 p1 rfl h15) ?_
    rintro v22 c28 l28 ⟨_, G24, O25, R26, rfl, h23⟩
    refine WL.val0 (v := .bool x_11.2.isNone) rfl (by rcases (h23).cs with ⟨h1_, h2_⟩ | ⟨b_, h1_, h2_⟩ <;> (subst h1_; rw [h2_]; kernel_rfl)) ?_
    rcases Bool.eq_false_or_eq_true (x_11.2.isNone) with h30 | h30
    · skip
      have H31 := it h30 h16
      refine vb h30 ?_
      refine wn ?_
      refine va (.agg #[.pointer none, .int .i64 0, .int .i64 0, .bool false, .bool false]) ?_
      refine wn ?_
      refine WL.mem rfl (Own.al (T := 131) (vs := [.pointer none, .int .i64 0, .int .i64 0, .bool false, .bool false]) O25 (by kernel_rfl)) ?_
      rintro v35 c34 l34 ⟨b32, rfl, O33⟩
      have O36 := O33.selD 1 [0] (by kernel_rfl) (by kernel_rfl)
      obtain ⟨s_16001, h37, H31⟩ := bs H31
      obtain ⟨c38, G46, h39, l38, h40, O41, R42, h43, h44, a45⟩ := Rel.new_place_Pen (E := [⟨.pointer (some ⟨b32, 0, none⟩), 131, [.pointer none, .int .i64 0, .int .i64 0, .bool false, .bool false], 0⟩]) (F := F) (x := (⟨(none : Option Nat), (⟨0, 0, false⟩ : G_api_Cursor), false⟩ : G_place_Pen)) (b := b32) O36 (R26.mono l34) (fun c_ hle_ => ⟨b32, (.pointer none), rfl, rfl, rfl⟩)
      rw [Option.some.inj h37] at R42
      refine WL.gh h39.1 ?_
      have h48 : Pt 2 c38 (.pointer (some ⟨b32, 0, none⟩)) (some x_11.1.place_Pen.length) := ⟨b32, rfl, h40⟩
      refine wn ?_
      refine va (.int .i32 p0) ?_
      refine wn ?_
      refine WL.val0 (v := .agg #[.int .i64 p1.Break, .bool p1.Pict, .int .i64 p1.Conj, .int .i64 p1.East]) rfl (rx (by kernel_rfl) (run_loadN (T := 148) (by kernel_rfl) (by kernel_rfl) (fun j u hu => (m3 j u hu).mono (l13.trans (l28.trans (l34.trans l38)))))) ?_
      refine wn ?_
      obtain ⟨x_19, h49, H31⟩ := bs H31
      refine WL.callP rfl (by kernel_rfl) (c_widen_Begin O41 R42 ((hG.mono (l4.trans (l13.trans (l28.trans (l34.trans l38))))).le (by decide)) (some x_11.1.place_Pen.length) p0 p1 h48 h49) ?_
      rintro v50 c56 l56 ⟨_, G52, O53, R54, rfl, h51⟩
      refine wn ?_
      refine WL.val0 (v := .bool x_19.2.isNone) rfl (by rcases (h51).cs with ⟨h1_, h2_⟩ | ⟨b_, h1_, h2_⟩ <;> (subst h1_; rw [h2_]; kernel_rfl)) ?_
      obtain rfl := Option.some.inj H31
      refine va (.bool x_19.2.isNone) ?_
      rcases Bool.eq_false_or_eq_true (x_19.2.isNone) with h58 | h58
      · skip
        have H59 := it h58 h17
        refine vb h58 ?_
        refine wn ?_
        refine va (.pointer none) ?_
        refine wn ?_
        refine va (v7) ?_
        refine wn ?_
        refine va (.int .i32 p0) ?_
        refine wn ?_
        refine WL.val0 (v := .agg #[.int .i64 p1.Break, .bool p1.Pict, .int .i64 p1.Conj, .int .i64 p1.East]) rfl (rx (by kernel_rfl) (run_loadN (T := 148) (by kernel_rfl) (by kernel_rfl) (fun j u hu => (m3 j u hu).mono (l13.trans (l28.trans (l34.trans (l38.trans l56))))))) ?_
        refine wn ?_
        obtain ⟨x_27, h60, H59⟩ := bs H59
        refine WL.callP rfl (by kernel_rfl) (c_widen_Cluster_Join O53 R54 ((hG.mono (l4.trans (l13.trans (l28.trans (l34.trans (l38.trans l56)))))).le (by decide)) (none : Option Nat) x_6.2 p0 p1 rfl (h8.mono (l28.trans (l34.trans (l38.trans l56)))) h60) ?_
        rintro v66 c65 l65 ⟨G61, O62, R63, rfl⟩
        refine wn ?_
        refine va (.bool (!x_27.2)) ?_
        obtain rfl := Option.some.inj H59
        refine va (.bool (!x_27.2)) ?_
        rcases Bool.eq_false_or_eq_true (!x_27.2) with h67 | h67
        · skip
          have H68 := anT h67 h18
          refine vb h67 ?_
          refine wn ?_
          refine va (.pointer none) ?_
          refine wn ?_
          obtain ⟨x_32, h69, H68⟩ := bs H68
          refine WL.callP rfl (by kernel_rfl) (c_widen_Cluster_At O62 R63 (none : Option Nat) rfl h69) ?_
          rintro v75 c74 l74 ⟨O71, rfl⟩
          refine wn ?_
          refine va (.agg #[.int .i64 0, .int .i64 0, .bool false]) ?_
          refine wn ?_
          refine WL.val0 (v := .bool (x_32.Row == 0 && (x_32.Col == 0 && (x_32.Pending == false && true)))) rfl (run_eqlA (T := 120) (xs := #[.int .i64 x_32.Row, .int .i64 x_32.Col, .bool x_32.Pending]) (ys := #[.int .i64 0, .int .i64 0, .bool false]) (r := (x_32.Row == 0 && (x_32.Col == 0 && (x_32.Pending == false && true)))) Tryd.underlying120 (by kernel_rfl) (by kernel_rfl) (EqP.int (by kernel_rfl) Tryd.underlying3 rfl rfl (EqP.int (by kernel_rfl) Tryd.underlying3 rfl rfl (EqP.bool (by kernel_rfl) Tryd.underlying4 rfl rfl EqP.nil))) (by kernel_rfl) _) ?_
          obtain rfl := Option.some.inj H68
          refine va (.bool (x_32.Row == 0 && (x_32.Col == 0 && (x_32.Pending == false && true)))) ?_
          rcases Bool.eq_false_or_eq_true ((x_32.Row == 0 && (x_32.Col == 0 && (x_32.Pending == false && true)))) with h76 | h76
          · skip
            have H77 := anT h76 h19
            refine vb h76 ?_
            refine wn ?_
            refine va (.pointer none) ?_
            refine wn ?_
            obtain ⟨x_38, h78, H77⟩ := bs H77
            refine WL.callP rfl (by kernel_rfl) (c_widen_Cluster_Wide O71 (R63.mono l74) (none : Option Nat) rfl h78) ?_
            rintro v84 c83 l83 ⟨O80, rfl⟩
            refine wn ?_
            refine va (.bool (x_38 == 0)) ?_
            obtain rfl := Option.some.inj H77
            refine va (.bool (x_38 == 0)) ?_
            rcases Bool.eq_false_or_eq_true (x_38 == 0) with h85 | h85
            · skip
              have H86 := anT h85 h20
              refine vb h85 ?_
              refine wn ?_
              refine va (.pointer none) ?_
              refine wn ?_
              obtain ⟨x_43, h87, H86⟩ := bs H86
              refine WL.callP rfl (by kernel_rfl) (c_widen_Cluster_Text O80 (R63.mono (l74.trans l83)) (none : Option Nat) rfl h87) ?_
              rintro v88 c95 l95 ⟨_, u89, O92, rfl, h90⟩
              refine wn ?_
              refine WL.val0 (v := .int .i64 (x_43.length : Int)) rfl (rx (by kernel_rfl) (run_lenO (ty := 3) Tryd.underlying25 h90 _)) ?_
              refine wn ?_
              refine va (.bool ((x_43.length : Int) == 0)) ?_
              obtain rfl := Option.some.inj H86
              refine va (.bool ((x_43.length : Int) == 0)) ?_
              rcases Bool.eq_false_or_eq_true ((x_43.length : Int) == 0) with h97 | h97
              · skip
                have H98 := it h97 h21
                refine vb h97 ?_
                refine wn ?_
                obtain ⟨x_48, h99, H98⟩ := bs H98
                refine WL.callP rfl (by kernel_rfl) (c_linotypelaw35_works O92 (R63.mono (l74.trans (l83.trans l95))) ((hG.mono (l4.trans (l13.trans (l28.trans (l34.trans (l38.trans (l56.trans (l65.trans (l74.trans (l83.trans l95)))))))))).le (by decide)) h99) ?_
                rintro v105 c104 l104 ⟨G100, O101, R102, rfl⟩
                obtain rfl := Option.some.inj H98
                refine va (.bool x_48.2) ?_
                refine va (.bool x_48.2) ?_
                refine wln ?_
                have O106 := O101.selD 1 [] (by kernel_rfl) (by kernel_rfl)
                exact ⟨c104, _, G100, rfl, (l28.trans (l34.trans (l38.trans (l56.trans (l65.trans (l74.trans (l83.trans (l95.trans l104)))))))), O106, ups_self ⟨rfl, trivial⟩, R102⟩
              · skip
                obtain rfl := Option.some.inj (ie h97 h21)
                refine vb h97 ?_
                refine ps ?_
                refine va (.bool false) ?_
                refine va (.bool false) ?_
                refine wln ?_
                have O107 := O92.selD 1 [] (by kernel_rfl) (by kernel_rfl)
                exact ⟨c95, _, G61, rfl, (l28.trans (l34.trans (l38.trans (l56.trans (l65.trans (l74.trans (l83.trans l95))))))), O107, ups_self ⟨rfl, trivial⟩, (R63.mono (l74.trans (l83.trans l95)))⟩
            · skip
              obtain rfl := anF h85 h20
              refine vb h85 ?_
              refine ps ?_
              refine ps ?_
              refine ps ?_
              refine ps ?_
              refine va (.bool false) ?_
              have h108 : false = false := rfl
              obtain rfl := Option.some.inj (ie h108 h21)
              refine vb h108 ?_
              refine ps ?_
              refine va (.bool false) ?_
              refine va (.bool false) ?_
              refine wln ?_
              exact ⟨c83, _, G61, rfl, (l28.trans (l34.trans (l38.trans (l56.trans (l65.trans (l74.trans l83)))))), O80, ups_self ⟨rfl, trivial⟩, (R63.mono (l74.trans l83))⟩
          · skip
            obtain rfl := anF h76 h19
            refine vb h76 ?_
            refine ps ?_
            refine ps ?_
            refine ps ?_
            refine va (.bool false) ?_
            have h109 : false = false := rfl
            obtain rfl := anF h109 h20
            refine vb h109 ?_
            refine ps ?_
            refine ps ?_
            refine ps ?_
            refine ps ?_
            refine va (.bool false) ?_
            have h110 : false = false := rfl
            obtain rfl := Option.some.inj (ie h110 h21)
            refine vb h110 ?_
            refine ps ?_
            refine va (.bool false) ?_
            refine va (.bool false) ?_
            refine wln ?_
            exact ⟨c74, _, G61, rfl, (l28.trans (l34.trans (l38.trans (l56.trans (l65.trans l74))))), O71, ups_self ⟨rfl, trivial⟩, (R63.mono l74)⟩
        · skip
          obtain rfl := anF h67 h18
          refine vb h67 ?_
          refine ps ?_
          refine ps ?_
          refine ps ?_
          refine ps ?_
          refine va (.bool false) ?_
          have h111 : false = false := rfl
          obtain rfl := anF h111 h19
          refine vb h111 ?_
          refine ps ?_
          refine ps ?_
          refine ps ?_
          refine va (.bool false) ?_
          have h112 : false = false := rfl
          obtain rfl := anF h112 h20
          refine vb h112 ?_
          refine ps ?_
          refine ps ?_
          refine ps ?_
          refine ps ?_
          refine va (.bool false) ?_
          have h113 : false = false := rfl
          obtain rfl := Option.some.inj (ie h113 h21)
          refine vb h113 ?_
          refine ps ?_
          refine va (.bool false) ?_
          refine va (.bool false) ?_
          refine wln ?_
          exact ⟨c65, _, G61, rfl, (l28.trans (l34.trans (l38.trans (l56.trans l65)))), O62, ups_self ⟨rfl, trivial⟩, R63⟩
      · skip
        obtain rfl := Option.some.inj (ie h58 h17)
        refine vb h58 ?_
        refine ps ?_
        refine ps ?_
        refine ps ?_
        refine ps ?_
        refine ps ?_
        refine ps ?_
        refine va (.bool false) ?_
        have h114 : false = false := rfl
        obtain rfl := anF h114 h18
        refine vb h114 ?_
        refine ps ?_
        refine ps ?_
        refine ps ?_
        refine ps ?_
        refine va (.bool false) ?_
        have h115 : false = false := rfl
        obtain rfl := anF h115 h19
        refine vb h115 ?_
        refine ps ?_
        refine ps ?_
        refine ps ?_
        refine va (.bool false) ?_
        have h116 : false = false := rfl
        obtain rfl := anF h116 h20
        refine vb h116 ?_
        refine ps ?_
        refine ps ?_
        refine ps ?_
        refine ps ?_
        refine va (.bool false) ?_
        have h117 : false = false := rfl
        obtain rfl := Option.some.inj (ie h117 h21)
        refine vb h117 ?_
        refine ps ?_
        refine va (.bool false) ?_
        refine va (.bool false) ?_
        refine wln ?_
        exact ⟨c56, _, G52, rfl, (l28.trans (l34.trans (l38.trans l56))), O53, ups_self ⟨rfl, trivial⟩, R54⟩
    · skip
      obtain rfl := Option.some.inj (ie h30 h16)
      refine vb h30 ?_
      refine ps ?_
      refine ps ?_
      refine ps ?_
      refine ps ?_
      refine ps ?_
      refine ps ?_
      refine va (.bool false) ?_
      have h118 : false = false := rfl
      obtain rfl := Option.some.inj (ie h118 h17)
      refine vb h118 ?_
      refine ps ?_
      refine ps ?_
      refine ps ?_
      refine ps ?_
      refine ps ?_
      refine ps ?_
      refine va (.bool false) ?_
      have h119 : false = false := rfl
      obtain rfl := anF h119 h18
      refine vb h119 ?_
      refine ps ?_
      refine ps ?_
      refine ps ?_
      refine ps ?_
      refine va (.bool false) ?_
      have h120 : false = false := rfl
      obtain rfl := anF h120 h19
      refine vb h120 ?_
      refine ps ?_
      refine ps ?_
      refine ps ?_
      refine va (.bool false) ?_
      have h121 : false = false := rfl
      obtain rfl := anF h121 h20
      refine vb h121 ?_
      refine ps ?_
      refine ps ?_
      refine ps ?_
      refine ps ?_
      refine va (.bool false) ?_
      have h122 : false = false := rfl
      obtain rfl := Option.some.inj (ie h122 h21)
      refine vb h122 ?_
      refine ps ?_
      refine va (.bool false) ?_
      refine va (.bool false) ?_
      refine wln ?_
      exact ⟨c28, _, G24, rfl, l28, O25, ups_self ⟨rfl, trivial⟩, R26⟩
  · skip
    rintro e_ w_ ⟨c123, g124, G126, rfl, l123, O125, rfl, R127⟩
    refine nrm ?_
    refine W.ret ?_
    obtain rfl := Option.some.inj H
    exact ret1 (v := .bool d_46.1) rfl (by kernel_rfl) ⟨_, c123, rfl, rfl, (l4.trans (l13.trans l123)), G126, O125, R127, rfl⟩

end Go.Proofs.YtohpkblleihmaaaDoor
