import Derived.Test.YtohpkblleihmaaaDoorMo
import Derived.Test.YtohpkblleihmaaaDoorProg
import Derived.Test.YtohpkblleihmaaaDoorMy
import Derived.Test.YtohpkblleihmaaaDoorMz
import Derived.Test.YtohpkblleihmaaaDoorA1
import Derived.Test.YtohpkblleihmaaaDoorG1
import Derived.Test.YtohpkblleihmaaaDoorM1
namespace Go.Proofs.YtohpkblleihmaaaDoor
open Go Go.Lt
set_option maxRecDepth 10000
set_option linter.unusedVariables false
attribute [local irreducible] W WL AC
def f_grid_New (sg : Sto) (p0 : Int) (p1 : Int) : Option (Sto × (Option Nat)) :=
  (some (sg.add_grid_Grid (⟨([] : List (Option Nat))⟩ : G_grid_Grid))).bind fun s_4001 =>
  (iter (σ := Int × Sto) (τ := Sto) (((imax 1 (imin p1 1024)) - 0).toNat + 1) (fun s_12 =>
  if (decide (s_12.1 < (imax 1 (imin p1 1024)))) = true then
  (s_12.2.grid_Grid[sg.grid_Grid.length]?).bind fun o_19 =>
  (f_row_New s_12.2 p0).bind fun x_21 =>
  (app o_19.rows ([x_21.2] : List (Option Nat))).bind fun x_23 =>
  (x_21.1.set_grid_Grid sg.grid_Grid.length (⟨x_23⟩ : G_grid_Grid)).bind fun s_26001 =>
  some (.inl ((w64 (s_12.1 + 1)), s_26001))
  else
  some (.inr (s_12.2))) (0, s_4001)).bind fun o_12 =>
  some (o_12, (some sg.grid_Grid.length))
theorem c_grid_New {c0 : Cx} {G : Gm} {F : List En} {sg : Sto} (O0 : Own c0 G F) (R0 : Rel c0 sg G) (p0 : Int) (p1 : Int) {r : Sto × (Option Nat)} (H : f_grid_New sg p0 p1 = some r) :
    Calls Tryd.prog 131 #[.int .i64 p0, .int .i64 p1] c0.w (Post c0 fun c v => ∃ y1 : Value, ∃ G_ : Gm, Own c G_ (F) ∧ Rel c r.1 G_ ∧ Adds G G_ ∧ v = y1 ∧ Pt 1 c y1 r.2) := by
  unfold f_grid_New at H
  refine enter (l := [.int .i64 p0, .int .i64 p1]) Tryd.func131 rfl rfl rfl ?_
  refine sr ?_
  refine va (.pointer none) ?_
  refine wln ?_
  refine sr ?_
  refine va (.agg #[.slice none 0 0]) ?_
  have h2 : OA (RP 0) c0 (.slice none 0 0) [] [] := OA.nil (Nat.succ_pos _)
  have O1 := O0.addHole (e := es true (RP 0) (.slice none 0 0) 28 [] ([] : List (Option Nat))) rfl
  refine WL.mem rfl (Own.al (T := 170) (vs := [(.slice none 0 0)]) O1 (by kernel_rfl)) ?_
  rintro v6 c5 l5 ⟨b3, rfl, O4⟩
  have O7 := O4.selD 2 [0, 1] (by kernel_rfl) (by kernel_rfl)
  obtain ⟨s_4001, h8, H⟩ := bs H
  obtain ⟨c9, G17, h10, l9, h11, O12, R13, h14, h15, a16⟩ := Rel.new_grid_Grid (E := [⟨.pointer (some ⟨b3, 0, none⟩), 170, [(.slice none 0 0)], 0⟩, es true (RP 0) (.slice none 0 0) 28 [] ([] : List (Option Nat))]) (F := F) (x := (⟨([] : List (Option Nat))⟩ : G_grid_Grid)) (b := b3) O7 (R0.mono l5) (fun c_ hle_ => ⟨b3, (.slice none 0 0), [], rfl, rfl, ((h2.mono l5).mono hle_)⟩)
  rw [Option.some.inj h8] at R13
  refine WL.gh h10.1 ?_
  have h18 := Adds.nil (Adds.refl _) h15
  have a19 := (Adds.refl _).trans a16
  have h21 : Pt 1 c9 (.pointer (some ⟨b3, 0, none⟩)) (some sg.grid_Grid.length) := ⟨b3, rfl, h11⟩
  refine va (.pointer (some ⟨b3, 0, none⟩)) ?_
  refine wln ?_
  refine W.seq ?_
  refine sr ?_
  refine va (.int .i64 p1) ?_
  refine va (.int .i64 (imin p1 1024)) ?_
  refine va (.int .i64 (imax 1 (imin p1 1024))) ?_
  refine va (.int .i64 0) ?_
  refine wln ?_
  refine W.block ?_
  obtain ⟨o_12, h22, H23⟩ := bs H
  refine W.loop (σ := Int × Sto) (τ := Sto) (fun s_12 => fun e w => ∃ (c : Cx) (g : Nat → Value) (G_ : Gm), w = c.w ∧ c9.le c ∧ Own c G_ (F) ∧ e = ups g [(0, .int .i64 p0), (5, .pointer (some ⟨b3, 0, none⟩)), (10, .int .i64 (imax 1 (imin p1 1024))), (11, .int .i64 s_12.1)] ∧ Rel c s_12.2 G_ ∧ Adds G G_) (fun o_12_ ex e w => ex = .exit 0 ∧ (fun e w => ∃ (c : Cx) (g : Nat → Value) (G_ : Gm), w = c.w ∧ c9.le c ∧ Own c G_ (F) ∧ e = ups g [(5, .pointer (some ⟨b3, 0, none⟩))] ∧ Rel c o_12_ G_ ∧ Adds G G_) e w) ?_ h22 ?_ ?_
  · clear H23 h22
    intro s_12 xx_ ee_ ww_ H
    revert ee_ ww_
    rintro e_ w_ ⟨c24, g25, G27, rfl, l24, O26, rfl, R28, a29⟩
    refine sr ?_
    refine va (.bool (decide (s_12.1 < (imax 1 (imin p1 1024))))) ?_
    refine wln ?_
    refine W.seq ?_
    refine W.cond (t := decide (s_12.1 < (imax 1 (imin p1 1024)))) (by kernel_rfl) (fun h30 => ?_) (fun h30 => ?_)
    · have H := it h30 H
      refine W.skip ?_
      refine nrm ?_
      refine W.seq ?_
      refine W.block ?_
      refine W.regionD [8, 11] (Kp G27 []) O26 (by kernel_rfl) ?_
      intro c31 l31 O32
      have p33 : Kp G27 [] c31 := (Kp.nil O32)
      refine ta 0 (.pointer (some ⟨b3, 0, none⟩)) ?_
      refine ta 1 (.pointer (some ⟨b3, 0, none⟩)) ?_
      refine ta 2 (.pointer (some ⟨b3, 0, none⟩)) ?_
      refine ta 3 (.pointer (some ⟨b3, 0, none⟩)) ?_
      obtain ⟨o_19, h34, H⟩ := bs H
      obtain ⟨v35, u36, h38, h37⟩ := Rel.open_grid_Grid (R28.mono l31) h34 ((l24.trans l31).t _ _ _ h11)
      refine AC.takeK 4 (v35) p33 rfl (by kernel_rfl) (by kernel_rfl) (by kernel_rfl) (fun c' hle hk => (rx (by kernel_rfl) (ldE1 (j := 0) Tryd.underlying168 rfl (hk.gon h38 0 rfl) rfl rfl))) ?_
      refine ta 5 (.int .i64 p0) ?_
      obtain ⟨x_21, h39, H⟩ := bs H
      refine AC.one 6 (by kernel_rfl) (Go1.callP 6 rfl (by kernel_rfl) (by kernel_rfl) (by kernel_rfl) (c_row_New O32 (R28.mono l31) p0 h39) ?_)
      rintro v40 c46 l46 ⟨_, G42, O43, R44, a45, rfl, h41⟩
      have a48 := a29.trans a45
      have p49 : Kp G27 [] c46 := (Kp.adds O43 a45)
      refine ⟨.inr p49, ?_⟩
      obtain ⟨a50, rfl⟩ := (h41).form
      refine AC.one 7 (by kernel_rfl) (Go1.mem 7 rfl (by kernel_rfl) (by kernel_rfl) (Own.sl (R := (RP 0)) (E := 28) (ls := [[.pointer a50]]) (vs := [.pointer a50]) (xs := ([x_21.2] : List (Option Nat))) true O43 (Nat.succ_pos _) rfl ⟨⟨(.pointer a50), rfl, h41⟩, trivial⟩ (by kernel_rfl) (by kernel_rfl)) ?_)
      rintro v55 c54 l54 ⟨u52, O51, h53⟩
      have p56 : Kp G27 [] c54 := (Kp.adds O51 a45)
      refine ⟨.inr p56, ?_⟩
      obtain ⟨c59, h60, l59, O57, h58⟩ := O51.frz 0 rfl h53
      have p61 : Kp G27 [] c59 := (Kp.adds O57 a45)
      refine AC.gh h60 l59 (fun _ => p61) ?_
      obtain ⟨x_23, h62, H⟩ := bs H
      have O63 := O57.borrow 1 (a45.get h38) rfl
      refine AC.one 8 (by kernel_rfl) (Go1.mem 8 rfl (by kernel_rfl) (by kernel_rfl) (Own.app (R := (RP 0)) (z := .pointer none) (by_ := 8) (ty := 168) 0 O63 rfl (h37.mono (l46.trans (l54.trans l59))) h58 h62 Tryd.underlying168 (by kernel_rfl) rfl (by kernel_rfl) (by kernel_rfl)) ?_)
      rintro v68 c67 l67 ⟨u65, O64, h66⟩
      have O69 := O64.giveB 1 rfl
      refine ⟨.inl rfl, ?_⟩
      refine ta 9 (.pointer (some ⟨b3, 0, none⟩)) ?_
      refine ta 10 (.pointer (some ⟨b3, 0, none⟩)) ?_
      obtain ⟨a70, a71, a72, rfl⟩ := (h66).form
      refine AC.one 11 (by kernel_rfl) (Go1.memD 11 rfl (by kernel_rfl) (by kernel_rfl) (Own.stGB (T := 168) (j := 0) (us := [.slice a70 a71 a72]) (nw := [.slice a70 a71 a72]) (v := .slice a70 a71 a72) 0 O69 (by kernel_rfl) rfl rfl rfl rfl (by kernel_rfl) ⟨(h66).one, trivial⟩ (by kernel_rfl) rfl) ?_)
      rintro c75 l75 O74
      obtain ⟨s_26001, h80, H⟩ := bs H
      obtain ⟨G76, O77, R78, h79, a81⟩ := Rel.put_grid_Grid O74 (R44.mono (l54.trans (l59.trans (l67.trans l75)))) (E' := [⟨.pointer (some ⟨b3, 0, none⟩), 170, [.slice a70 a71 a72], 0⟩, es true (RP 0) (.slice a70 a71 a72) 28 u65 x_23]) h80 ⟨b3, (.slice a70 a71 a72), u65, ((l24.trans (l31.trans (l46.trans (l54.trans (l59.trans (l67.trans l75)))))).t _ _ _ h11), rfl, (h66.mono l75)⟩
      have a82 := a81 _ a48 h18
      refine ⟨.inl rfl, ?_⟩
      refine AC.done (by kernel_rfl) ?_
      refine bkn ?_
      refine nrm ?_
      refine W.region ?_
      refine va (.int .i64 (w64 (s_12.1 + 1))) ?_
      refine va (.int .i64 (w64 (s_12.1 + 1))) ?_
      refine WL.nil ?_
      obtain rfl := Option.some.inj H
      refine ⟨_, rfl, ?_⟩
      have O83 := O77.selD 1 [] (by kernel_rfl) (by kernel_rfl)
      exact ⟨c75, _, G76, rfl, (l24.trans (l31.trans (l46.trans (l54.trans (l59.trans (l67.trans l75)))))), O83, ups_self ⟨rfl, rfl, rfl, rfl, trivial⟩, R78, a82⟩
    · have H := ie h30 H
      refine W.exit ?_
      refine thx ?_
      obtain rfl := Option.some.inj H
      refine ⟨_, rfl, rfl, ?_⟩
      exact ⟨c24, _, G27, rfl, l24, O26, ups_self ⟨rfl, trivial⟩, R28, a29⟩
  · skip
    exact ⟨c9, _, G17, rfl, (Cx.le.refl _), O12, ups_self ⟨rfl, rfl, rfl, rfl, trivial⟩, R13, a19⟩
  · skip
    rintro _ e_ w_ ⟨rfl, c84, g85, G87, rfl, l84, O86, rfl, R88, a89⟩
    refine bke ?_
    refine nrm ?_
    refine sr ?_
    refine va (.pointer (some ⟨b3, 0, none⟩)) ?_
    refine va (.pointer (some ⟨b3, 0, none⟩)) ?_
    refine wln ?_
    refine W.ret ?_
    obtain rfl := Option.some.inj H23
    exact ret1 (v := .pointer (some ⟨b3, 0, none⟩)) rfl (by kernel_rfl) ⟨_, c84, rfl, rfl, (l5.trans (l9.trans l84)), (.pointer (some ⟨b3, 0, none⟩)), G87, O86, R88, a89, rfl, (h21.mono l84)⟩

def f_place_New (sg : Sto) (p0 : Int) (p1 : Int) : Option (Sto × (Option Nat)) :=
  (f_grid_New sg p0 p1).bind fun x_5 =>
  (some (x_5.1.add_place_Pen (⟨x_5.2, (⟨0, 0, false⟩ : G_api_Cursor), true⟩ : G_place_Pen))).bind fun s_7001 =>
  some (s_7001, (some x_5.1.place_Pen.length))
theorem c_place_New {c0 : Cx} {G : Gm} {F : List En} {sg : Sto} (O0 : Own c0 G F) (R0 : Rel c0 sg G) (p0 : Int) (p1 : Int) {r : Sto × (Option Nat)} (H : f_place_New sg p0 p1 = some r) :
    Calls Tryd.prog 73 #[.int .i64 p0, .int .i64 p1] c0.w (Post c0 fun c v => ∃ y1 : Value, ∃ G_ : Gm, Own c G_ (F) ∧ Rel c r.1 G_ ∧ Adds G G_ ∧ v = y1 ∧ Pt 2 c y1 r.2) := by
  unfold f_place_New at H
  refine enter (l := [.int .i64 p0, .int .i64 p1]) Tryd.func73 rfl rfl rfl ?_
  refine sr ?_
  refine va (.pointer none) ?_
  refine wln ?_
  refine sr ?_
  refine va (.int .i64 p0) ?_
  refine va (.int .i64 p1) ?_
  obtain ⟨x_5, h1, H⟩ := bs H
  refine WL.callP rfl (by kernel_rfl) (c_grid_New O0 R0 p0 p1 h1) ?_
  rintro v2 c8 l8 ⟨_, G4, O5, R6, a7, rfl, h3⟩
  have a10 := (Adds.refl _).trans a7
  obtain ⟨a11, rfl⟩ := (h3).form
  refine va (.agg #[.pointer a11, .int .i64 0, .int .i64 0, .bool false, .bool true]) ?_
  refine WL.mem rfl (Own.al (T := 131) (vs := [.pointer a11, .int .i64 0, .int .i64 0, .bool false, .bool true]) O5 (by kernel_rfl)) ?_
  rintro v15 c14 l14 ⟨b12, rfl, O13⟩
  have O16 := O13.selD 1 [0] (by kernel_rfl) (by kernel_rfl)
  obtain ⟨s_7001, h17, H⟩ := bs H
  obtain ⟨c18, G26, h19, l18, h20, O21, R22, h23, h24, a25⟩ := Rel.new_place_Pen (E := [⟨.pointer (some ⟨b12, 0, none⟩), 131, [.pointer a11, .int .i64 0, .int .i64 0, .bool false, .bool true], 0⟩]) (F := F) (x := (⟨x_5.2, (⟨0, 0, false⟩ : G_api_Cursor), true⟩ : G_place_Pen)) (b := b12) O16 (R6.mono l14) (fun c_ hle_ => ⟨b12, (.pointer a11), rfl, rfl, (h3.mono (l14.trans hle_))⟩)
  rw [Option.some.inj h17] at R22
  refine WL.gh h19.1 ?_
  have h27 := Adds.nil a10 h24
  have a28 := a10.trans a25
  have h30 : Pt 2 c18 (.pointer (some ⟨b12, 0, none⟩)) (some x_5.1.place_Pen.length) := ⟨b12, rfl, h20⟩
  refine va (.pointer (some ⟨b12, 0, none⟩)) ?_
  refine wln ?_
  refine W.ret ?_
  obtain rfl := Option.some.inj H
  exact ret1 (v := .pointer (some ⟨b12, 0, none⟩)) rfl (by kernel_rfl) ⟨_, c18, rfl, rfl, (l8.trans (l14.trans l18)), (.pointer (some ⟨b12, 0, none⟩)), G26, O21, R22, a28, rfl, h30⟩

def f_cursor_side (p0 : Int) : Option (Int) :=
  some (imax 1 (imin p0 1024))
theorem c_cursor_side {c0 : Cx} {G : Gm} {F : List En} (O0 : Own c0 G F) (p0 : Int) {r : Int} (H : f_cursor_side p0 = some r) :
    Calls Tryd.prog 168 #[.int .i64 p0] c0.w (Post c0 fun c v => Own c G (F) ∧ v = .int .i64 r) := by
  unfold f_cursor_side at H
  refine enter (l := [.int .i64 p0]) Tryd.func168 rfl rfl rfl ?_
  refine sr ?_
  refine va (.int .i64 0) ?_
  refine wln ?_
  refine sr ?_
  refine va (.int .i64 p0) ?_
  refine va (.int .i64 (imin p0 1024)) ?_
  refine va (.int .i64 (imax 1 (imin p0 1024))) ?_
  refine va (.int .i64 (imax 1 (imin p0 1024))) ?_
  refine wln ?_
  refine W.ret ?_
  obtain rfl := Option.some.inj H
  exact ret1 (v := .int .i64 (imax 1 (imin p0 1024))) rfl (by kernel_rfl) ⟨_, c0, rfl, rfl, Cx.le.refl _, O0, rfl⟩

def f_cursor_held (p0 : Int) (p1 : Int) : Option (Int) :=
  some (imax 0 (imin p0 (w64 (p1 - 1))))
theorem c_cursor_held {c0 : Cx} {G : Gm} {F : List En} (O0 : Own c0 G F) (p0 : Int) (p1 : Int) {r : Int} (H : f_cursor_held p0 p1 = some r) :
    Calls Tryd.prog 171 #[.int .i64 p0, .int .i64 p1] c0.w (Post c0 fun c v => Own c G (F) ∧ v = .int .i64 r) := by
  unfold f_cursor_held at H
  refine enter (l := [.int .i64 p0, .int .i64 p1]) Tryd.func171 rfl rfl rfl ?_
  refine sr ?_
  refine va (.int .i64 0) ?_
  refine wln ?_
  refine sr ?_
  refine va (.int .i64 p0) ?_
  refine va (.int .i64 p1) ?_
  refine va (.int .i64 (w64 (p1 - 1))) ?_
  refine va (.int .i64 (imin p0 (w64 (p1 - 1)))) ?_
  refine va (.int .i64 (imax 0 (imin p0 (w64 (p1 - 1))))) ?_
  refine va (.int .i64 (imax 0 (imin p0 (w64 (p1 - 1))))) ?_
  refine wln ?_
  refine W.ret ?_
  obtain rfl := Option.some.inj H
  exact ret1 (v := .int .i64 (imax 0 (imin p0 (w64 (p1 - 1))))) rfl (by kernel_rfl) ⟨_, c0, rfl, rfl, Cx.le.refl _, O0, rfl⟩

def f_cursor_Hold (p0 : G_api_Cursor) (p1 : Int) (p2 : Int) : Option (G_api_Cursor) :=
  (f_cursor_side p1).bind fun x_5 =>
  (f_cursor_side p2).bind fun x_7 =>
  (f_cursor_held p0.Row x_7).bind fun x_19 =>
  (f_cursor_held p0.Col x_5).bind fun x_20 =>
  (andE p0.Pending (some (p0.Col == (w64 (x_5 - 1))))).bind fun d_21 =>
  some (⟨x_19, x_20, d_21⟩ : G_api_Cursor)
theorem c_cursor_Hold {c0 : Cx} {G : Gm} {F : List En} (O0 : Own c0 G F) (p0 : G_api_Cursor) (p1 : Int) (p2 : Int) {r : G_api_Cursor} (H : f_cursor_Hold p0 p1 p2 = some r) :
    Calls Tryd.prog 142 #[.agg #[.int .i64 p0.Row, .int .i64 p0.Col, .bool p0.Pending], .int .i64 p1, .int .i64 p2] c0.w (Post c0 fun c v => Own c G (F) ∧ v = .agg #[.int .i64 r.Row, .int .i64 r.Col, .bool r.Pending]) := by
  unfold f_cursor_Hold at H
  refine enter (l := [.agg #[.int .i64 p0.Row, .int .i64 p0.Col, .bool p0.Pending], .int .i64 p1, .int .i64 p2]) Tryd.func142 rfl rfl rfl ?_
  refine sr ?_
  refine WL.mem rfl (Own.bx (T := 120) (vs := [.int .i64 p0.Row, .int .i64 p0.Col, .bool p0.Pending]) O0 (by kernel_rfl)) ?_
  rintro v5 c4 l4 ⟨b1, rfl, O2, m3⟩
  refine WL.mem rfl (Own.al (T := 120) (vs := [.int .i64 0, .int .i64 0, .bool false]) O2 (by kernel_rfl)) ?_
  rintro v9 c8 l8 ⟨b6, rfl, O7⟩
  refine wln ?_
  refine sr ?_
  refine va (.int .i64 p1) ?_
  obtain ⟨x_5, h10, H⟩ := bs H
  refine WL.callP rfl (by kernel_rfl) (c_cursor_side O7 p1 h10) ?_
  rintro v16 c15 l15 ⟨O12, rfl⟩
  refine va (.int .i64 p2) ?_
  obtain ⟨x_7, h17, H⟩ := bs H
  refine WL.callP rfl (by kernel_rfl) (c_cursor_side O12 p2 h17) ?_
  rintro v23 c22 l22 ⟨O19, rfl⟩
  refine va (.int .i64 x_5) ?_
  refine va (.int .i64 x_7) ?_
  refine wln ?_
  refine W.seq ?_
  obtain ⟨x_19, h24, H⟩ := bs H
  obtain ⟨x_20, h25, H⟩ := bs H
  obtain ⟨d_21, h26, H⟩ := bs H
  refine W.join (fun e w => ∃ (c : Cx) (g : Nat → Value), w = c.w ∧ c22.le c ∧ Own c G (⟨.pointer (some ⟨b6, 0, none⟩), 120, [.int .i64 x_19, .int .i64 x_20, .bool d_21], 0⟩ :: F) ∧ e = ups g [(6, .pointer (some ⟨b6, 0, none⟩))]) ?_ ?_
  · clear H
    refine W.regionD [] (Kp G0 []) O19 (by kernel_rfl) ?_
    intro c27 l27 O28
    have p29 : Kp G0 [] c27 := Kp.nil0
    refine ta 0 (.pointer (some ⟨b1, 0, none⟩)) ?_
    refine AC.take 1 (.int .i64 p0.Row) rfl (by kernel_rfl) (by kernel_rfl) (fun c' hle => (rx (by kernel_rfl) (run_load1 Tryd.underlying3 rfl ((fun j u hu => (m3 j u hu).mono ((l8.trans (l15.trans (l22.trans l27))).trans hle)) 0 _ rfl)))) ?_
    refine ta 2 (.int .i64 x_7) ?_
    refine ta 4 (.pointer (some ⟨b1, 0 + 1, none⟩)) ?_
    refine AC.take 5 (.int .i64 p0.Col) rfl (by kernel_rfl) (by kernel_rfl) (fun c' hle => (rx (by kernel_rfl) (run_load1 Tryd.underlying3 rfl ((fun j u hu => (m3 j u hu).mono ((l8.trans (l15.trans (l22.trans l27))).trans hle)) 1 _ rfl)))) ?_
    refine ta 6 (.int .i64 x_5) ?_
    refine ta 8 (.pointer (some ⟨b1, 0 + 2, none⟩)) ?_
    refine AC.take 9 (.bool p0.Pending) rfl (by kernel_rfl) (by kernel_rfl) (fun c' hle => (rx (by kernel_rfl) (run_load1 Tryd.underlying4 rfl ((fun j u hu => (m3 j u hu).mono ((l8.trans (l15.trans (l22.trans l27))).trans hle)) 2 _ rfl)))) ?_
    refine AC.one 3 (by kernel_rfl) (Go1.callP 3 rfl (by kernel_rfl) (by kernel_rfl) (by kernel_rfl) (c_cursor_held O28 p0.Row x_7 h24) ?_)
    rintro v35 c34 l34 ⟨O31, rfl⟩
    have p36 : Kp G0 [] c34 := Kp.nil0
    refine ⟨.inr p36, ?_⟩
    refine AC.one 7 (by kernel_rfl) (Go1.callP 7 rfl (by kernel_rfl) (by kernel_rfl) (by kernel_rfl) (c_cursor_held O31 p0.Col x_5 h25) ?_)
    rintro v42 c41 l41 ⟨O38, rfl⟩
    have p43 : Kp G0 [] c41 := Kp.nil0
    refine ⟨.inr p43, ?_⟩
    rcases Bool.eq_false_or_eq_true (p0.Pending) with h44 | h44
    · skip
      have H45 := anT h44 h26
      refine AC.takeb 10 h44 rfl (by kernel_rfl) (by kernel_rfl) (fun c' hle => (by kernel_rfl)) ?_
      refine ta 11 (.pointer (some ⟨b1, 0 + 1, none⟩)) ?_
      refine AC.take 12 (.int .i64 p0.Col) rfl (by kernel_rfl) (by kernel_rfl) (fun c' hle => (rx (by kernel_rfl) (run_load1 Tryd.underlying3 rfl ((fun j u hu => (m3 j u hu).mono ((l8.trans (l15.trans (l22.trans (l27.trans (l34.trans l41))))).trans hle)) 1 _ rfl)))) ?_
      refine ta 13 (.int .i64 x_5) ?_
      refine ta 14 (.int .i64 (w64 (x_5 - 1))) ?_
      refine ta 15 (.bool (p0.Col == (w64 (x_5 - 1)))) ?_
      obtain rfl := Option.some.inj H45
      refine ta 16 (.bool (p0.Col == (w64 (x_5 - 1)))) ?_
      refine ta 17 (.agg #[.int .i64 x_19, .int .i64 x_20, .bool (p0.Col == (w64 (x_5 - 1)))]) ?_
      refine AC.one 18 (by kernel_rfl) (Go1.memD 18 rfl (by kernel_rfl) (by kernel_rfl) (Own.st (T := 120) (j := 0) (us := [.int .i64 x_19, .int .i64 x_20, .bool (p0.Col == (w64 (x_5 - 1)))]) (nw := [.int .i64 x_19, .int .i64 x_20, .bool (p0.Col == (w64 (x_5 - 1)))]) (v := .agg #[.int .i64 x_19, .int .i64 x_20, .bool (p0.Col == (w64 (x_5 - 1)))]) 0 O38 (by kernel_rfl) rfl rfl rfl rfl (by kernel_rfl) ⟨rfl, rfl, rfl, trivial⟩ rfl rfl) ?_)
      rintro c47 l47 O46
      have p48 : Kp G0 [] c47 := Kp.nil0
      refine ⟨.inr p48, ?_⟩
      refine AC.done (by kernel_rfl) ?_
      refine nrm ?_
      exact ⟨c47, _, rfl, (l27.trans (l34.trans (l41.trans l47))), O46, ups_self ⟨rfl, trivial⟩⟩
    · skip
      obtain rfl := anF h44 h26
      refine AC.takeb 10 h44 rfl (by kernel_rfl) (by kernel_rfl) (fun c' hle => (by kernel_rfl)) ?_
      refine AC.pass 11 rfl (by kernel_rfl) (by kernel_rfl) ?_
      refine AC.pass 12 rfl (by kernel_rfl) (by kernel_rfl) ?_
      refine AC.pass 13 rfl (by kernel_rfl) (by kernel_rfl) ?_
      refine AC.pass 14 rfl (by kernel_rfl) (by kernel_rfl) ?_
      refine AC.pass 15 rfl (by kernel_rfl) (by kernel_rfl) ?_
      refine ta 16 (.bool false) ?_
      refine ta 17 (.agg #[.int .i64 x_19, .int .i64 x_20, .bool false]) ?_
      refine AC.one 18 (by kernel_rfl) (Go1.memD 18 rfl (by kernel_rfl) (by kernel_rfl) (Own.st (T := 120) (j := 0) (us := [.int .i64 x_19, .int .i64 x_20, .bool false]) (nw := [.int .i64 x_19, .int .i64 x_20, .bool false]) (v := .agg #[.int .i64 x_19, .int .i64 x_20, .bool false]) 0 O38 (by kernel_rfl) rfl rfl rfl rfl (by kernel_rfl) ⟨rfl, rfl, rfl, trivial⟩ rfl rfl) ?_)
      rintro c50 l50 O49
      have p51 : Kp G0 [] c50 := Kp.nil0
      refine ⟨.inr p51, ?_⟩
      refine AC.done (by kernel_rfl) ?_
      refine nrm ?_
      exact ⟨c50, _, rfl, (l27.trans (l34.trans (l41.trans l50))), O49, ups_self ⟨rfl, trivial⟩⟩
  · skip
    rintro e_ w_ ⟨c52, g53, rfl, l52, O54, rfl⟩
    refine nrm ?_
    refine W.ret ?_
    obtain rfl := Option.some.inj H
    have O58 := O54.selD 1 [] (by kernel_rfl) (by kernel_rfl)
    exact retC (c := c52) (vs := [.int .i64 x_19, .int .i64 x_20, .bool d_21]) rfl (by kernel_rfl) (by kernel_rfl) (by kernel_rfl) (O54.on 0 rfl _ rfl).1 ⟨_, c52, rfl, rfl, (l4.trans (l8.trans (l15.trans (l22.trans l52)))), O58, rfl⟩

def f_place_Pen_ready (sg : Sto) (p0 : Option Nat) : Option (Sto × Bool) :=
  (orE p0.isNone ((p0).bind fun k_8 =>
  (sg.place_Pen[k_8]?).bind fun o_10 =>
  some o_10.G.isNone)).bind fun d_5 =>
  if d_5 = true then
  some (sg, false)
  else
  (p0).bind fun k_17 =>
  (sg.place_Pen[k_17]?).bind fun o_19 =>
  (f_grid_Grid_Wide sg o_19.G).bind fun x_28 =>
  (f_grid_Grid_High sg o_19.G).bind fun x_29 =>
  (f_cursor_Hold o_19.At x_28 x_29).bind fun x_30 =>
  (sg.set_place_Pen k_17 (⟨o_19.G, x_30, o_19.Auto⟩ : G_place_Pen)).bind fun s_33001 =>
  some (s_33001, true)
theorem c_place_Pen_ready {c0 : Cx} {G : Gm} {F : List En} {sg : Sto} {v1 : Value} (O0 : Own c0 G F) (R0 : Rel c0 sg G) (p0 : Option Nat) {r : Sto × Bool} (h2 : Pt 2 c0 v1 p0) (H : f_place_Pen_ready sg p0 = some r) :
    Calls Tryd.prog 133 #[v1] c0.w (Post c0 fun c v => ∃ G_ : Gm, Own c G_ (F) ∧ Rel c r.1 G_ ∧ v = .bool r.2) := by
  unfold f_place_Pen_ready at H
  refine enter (l := [v1]) Tryd.func133 rfl rfl rfl ?_
  refine sr ?_
  refine va (.bool false) ?_
  refine wln ?_
  refine W.seq ?_
  refine W.seq ?_
  obtain ⟨d_5, h3, H⟩ := bs H
  refine W.join (fun e w => ∃ (c : Cx) (g : Nat → Value), w = c.w ∧ c0.le c ∧ Own c G (F) ∧ e = ups g [(0, v1), (11, .bool d_5)]) ?_ ?_
  · clear H
    refine W.region ?_
    refine va (v1) ?_
    refine WL.val0 (v := .bool p0.isNone) rfl (by rcases (h2).cs with ⟨h1_, h2_⟩ | ⟨b_, h1_, h2_⟩ <;> (subst h1_; rw [h2_]; kernel_rfl)) ?_
    rcases Bool.eq_false_or_eq_true (p0.isNone) with h4 | h4
    · skip
      obtain rfl := orT h4 h3
      refine vb h4 ?_
      refine ps ?_
      refine ps ?_
      refine ps ?_
      refine ps ?_
      refine ps ?_
      refine va (.bool true) ?_
      refine wln ?_
      exact ⟨c0, _, rfl, (Cx.le.refl _), O0, ups_self ⟨rfl, rfl, trivial⟩⟩
    · skip
      have H5 := orF h4 h3
      refine vb h4 ?_
      refine wn ?_
      refine va (v1) ?_
      refine wn ?_
      obtain ⟨k_8, h8, H5⟩ := bs H5
      obtain ⟨b6, rfl, h7⟩ := (h2).get h8
      refine va (.pointer (some ⟨b6, 0, none⟩)) ?_
      refine wn ?_
      refine va (.pointer (some ⟨b6, 0, none⟩)) ?_
      refine wn ?_
      obtain ⟨o_10, h9, H5⟩ := bs H5
      obtain ⟨v10, h12, h11⟩ := Rel.open_place_Pen R0 h9 h7
      refine WL.val0 (v := v10) rfl (rx (by kernel_rfl) (ldE1 (j := 0) Tryd.underlying51 rfl (O0.gon h12 0 rfl) rfl rfl)) ?_
      refine wn ?_
      refine WL.val0 (v := .bool o_10.G.isNone) rfl (by rcases (h11).cs with ⟨h1_, h2_⟩ | ⟨b_, h1_, h2_⟩ <;> (subst h1_; rw [h2_]; kernel_rfl)) ?_
      obtain rfl := Option.some.inj H5
      refine va (.bool o_10.G.isNone) ?_
      refine wln ?_
      exact ⟨c0, _, rfl, (Cx.le.refl _), O0, ups_self ⟨rfl, rfl, trivial⟩⟩
  · skip
    rintro e_ w_ ⟨c13, g14, rfl, l13, O15, rfl⟩
    refine nrm ?_
    refine W.cond (t := d_5) (by kernel_rfl) (fun h19 => ?_) (fun h19 => ?_)
    · have H := it h19 H
      refine sr ?_
      refine va (.bool false) ?_
      refine wln ?_
      refine W.ret ?_
      refine thr ?_
      obtain rfl := Option.some.inj H
      exact ret1 (v := .bool false) rfl (by kernel_rfl) ⟨_, c13, rfl, rfl, l13, G, O15, (R0.mono l13), rfl⟩
    · have H := ie h19 H
      refine W.skip ?_
      refine nrm ?_
      refine W.seq ?_
      refine W.regionD [18] (Kp G []) O15 (by kernel_rfl) ?_
      intro c20 l20 O21
      have p22 : Kp G [] c20 := (Kp.nil O21)
      refine ta 0 (v1) ?_
      refine ta 1 (v1) ?_
      obtain ⟨k_17, h25, H⟩ := bs H
      obtain ⟨b23, rfl, h24⟩ := ((h2.mono (l13.trans l20))).get h25
      refine ta 2 (.pointer (some ⟨b23, 0, none⟩)) ?_
      refine ta 3 (.pointer (some ⟨b23, 1, none⟩)) ?_
      obtain ⟨o_19, h26, H⟩ := bs H
      obtain ⟨v27, h29, h28⟩ := Rel.open_place_Pen (R0.mono (l13.trans l20)) h26 h24
      refine AC.takeK 4 (.agg #[.int .i64 o_19.At.Row, .int .i64 o_19.At.Col, .bool o_19.At.Pending]) p22 rfl (by kernel_rfl) (by kernel_rfl) (by kernel_rfl) (fun c' hle hk => (rx (by kernel_rfl) (ldEN (T := 120) (j := 1) (l := [.int .i64 o_19.At.Row, .int .i64 o_19.At.Col, .bool o_19.At.Pending]) (by kernel_rfl) (by kernel_rfl) (hk.gon h29 0 rfl) rfl rfl))) ?_
      refine ta 5 (.pointer (some ⟨b23, 0, none⟩)) ?_
      refine ta 6 (.pointer (some ⟨b23, 0, none⟩)) ?_
      refine ta 7 (.pointer (some ⟨b23, 0, none⟩)) ?_
      refine AC.takeK 8 (v27) p22 rfl (by kernel_rfl) (by kernel_rfl) (by kernel_rfl) (fun c' hle hk => (rx (by kernel_rfl) (ldE1 (j := 0) Tryd.underlying51 rfl (hk.gon h29 0 rfl) rfl rfl))) ?_
      refine ta 10 (.pointer (some ⟨b23, 0, none⟩)) ?_
      refine ta 11 (.pointer (some ⟨b23, 0, none⟩)) ?_
      refine ta 12 (.pointer (some ⟨b23, 0, none⟩)) ?_
      refine AC.takeK 13 (v27) p22 rfl (by kernel_rfl) (by kernel_rfl) (by kernel_rfl) (fun c' hle hk => (rx (by kernel_rfl) (ldE1 (j := 0) Tryd.underlying51 rfl (hk.gon h29 0 rfl) rfl rfl))) ?_
      obtain ⟨x_28, h30, H⟩ := bs H
      refine AC.one 9 (by kernel_rfl) (Go1.callP 9 rfl (by kernel_rfl) (by kernel_rfl) (by kernel_rfl) (c_grid_Grid_Wide O21 (R0.mono (l13.trans l20)) o_19.G h28 h30) ?_)
      rintro v36 c35 l35 ⟨O32, rfl⟩
      have p37 : Kp G [] c35 := (Kp.nil O32)
      refine ⟨.inr p37, ?_⟩
      obtain ⟨x_29, h38, H⟩ := bs H
      refine AC.one 14 (by kernel_rfl) (Go1.callP 14 rfl (by kernel_rfl) (by kernel_rfl) (by kernel_rfl) (c_grid_Grid_High O32 (R0.mono (l13.trans (l20.trans l35))) o_19.G (h28.mono l35) h38) ?_)
      rintro v44 c43 l43 ⟨O40, rfl⟩
      have p45 : Kp G [] c43 := (Kp.nil O40)
      refine ⟨.inr p45, ?_⟩
      obtain ⟨x_30, h46, H⟩ := bs H
      refine AC.one 15 (by kernel_rfl) (Go1.callP 15 rfl (by kernel_rfl) (by kernel_rfl) (by kernel_rfl) (c_cursor_Hold O40 o_19.At x_28 x_29 h46) ?_)
      rintro v52 c51 l51 ⟨O48, rfl⟩
      have p53 : Kp G [] c51 := (Kp.nil O48)
      refine ⟨.inr p53, ?_⟩
      refine ta 16 (.pointer (some ⟨b23, 0, none⟩)) ?_
      refine ta 17 (.pointer (some ⟨b23, 1, none⟩)) ?_
      refine AC.one 18 (by kernel_rfl) (Go1.memD 18 rfl (by kernel_rfl) (by kernel_rfl) (Own.stG (T := 120) (j := 1) (us := [.int .i64 x_30.Row, .int .i64 x_30.Col, .bool x_30.Pending]) (nw := [v27, .int .i64 x_30.Row, .int .i64 x_30.Col, .bool x_30.Pending, .bool o_19.Auto]) (v := .agg #[.int .i64 x_30.Row, .int .i64 x_30.Col, .bool x_30.Pending]) 0 O48 (by kernel_rfl) h29 rfl rfl rfl rfl (by kernel_rfl) ⟨rfl, rfl, rfl, trivial⟩ rfl rfl) ?_)
      rintro c55 l55 O54
      obtain ⟨s_33001, h60, H⟩ := bs H
      obtain ⟨G56, O57, R58, h59, a61⟩ := Rel.put_place_Pen O54 (R0.mono (l13.trans (l20.trans (l35.trans (l43.trans (l51.trans l55)))))) (E' := [⟨.pointer (some ⟨b23, 0, none⟩), 131, [v27, .int .i64 x_30.Row, .int .i64 x_30.Col, .bool x_30.Pending, .bool o_19.Auto], 0⟩]) h60 ⟨b23, v27, ((l35.trans (l43.trans (l51.trans l55))).t _ _ _ h24), rfl, (h28.mono (l35.trans (l43.trans (l51.trans l55))))⟩
      refine ⟨.inl rfl, ?_⟩
      refine AC.done (by kernel_rfl) ?_
      refine nrm ?_
      refine sr ?_
      refine va (.bool true) ?_
      refine wln ?_
      refine W.ret ?_
      obtain rfl := Option.some.inj H
      exact ret1 (v := .bool true) rfl (by kernel_rfl) ⟨_, c55, rfl, rfl, (l13.trans (l20.trans (l35.trans (l43.trans (l51.trans l55))))), G56, O57, R58, rfl⟩

def f_cursor_Return (p0 : G_api_Cursor) : Option (G_api_Cursor) :=
  some (⟨p0.Row, 0, false⟩ : G_api_Cursor)
theorem c_cursor_Return {c0 : Cx} {G : Gm} {F : List En} (O0 : Own c0 G F) (p0 : G_api_Cursor) {r : G_api_Cursor} (H : f_cursor_Return p0 = some r) :
    Calls Tryd.prog 145 #[.agg #[.int .i64 p0.Row, .int .i64 p0.Col, .bool p0.Pending]] c0.w (Post c0 fun c v => Own c G (F) ∧ v = .agg #[.int .i64 r.Row, .int .i64 r.Col, .bool r.Pending]) := by
  unfold f_cursor_Return at H
  refine enter (l := [.agg #[.int .i64 p0.Row, .int .i64 p0.Col, .bool p0.Pending]]) Tryd.func145 rfl rfl rfl ?_
  refine sr ?_
  refine WL.mem rfl (Own.bx (T := 120) (vs := [.int .i64 p0.Row, .int .i64 p0.Col, .bool p0.Pending]) O0 (by kernel_rfl)) ?_
  rintro v5 c4 l4 ⟨b1, rfl, O2, m3⟩
  refine WL.mem rfl (Own.al (T := 120) (vs := [.int .i64 0, .int .i64 0, .bool false]) O2 (by kernel_rfl)) ?_
  rintro v9 c8 l8 ⟨b6, rfl, O7⟩
  refine wln ?_
  refine sr ?_
  refine va (.pointer (some ⟨b1, 0, none⟩)) ?_
  refine WL.val0 (v := .int .i64 p0.Row) rfl (rx (by kernel_rfl) (run_load1 Tryd.underlying3 rfl ((fun j u hu => (m3 j u hu).mono l8) 0 _ rfl))) ?_
  refine va (.agg #[.int .i64 p0.Row, .int .i64 0, .bool false]) ?_
  refine WL.memD rfl (Own.st (T := 120) (j := 0) (us := [.int .i64 p0.Row, .int .i64 0, .bool false]) (nw := [.int .i64 p0.Row, .int .i64 0, .bool false]) (v := .agg #[.int .i64 p0.Row, .int .i64 0, .bool false]) 0 O7 (by kernel_rfl) rfl rfl rfl rfl (by kernel_rfl) ⟨rfl, rfl, rfl, trivial⟩ rfl rfl) ?_
  rintro c11 l11 O10
  refine wln ?_
  refine W.ret ?_
  obtain rfl := Option.some.inj H
  have O12 := O10.selD 1 [] (by kernel_rfl) (by kernel_rfl)
  exact retC (c := c11) (vs := [.int .i64 p0.Row, .int .i64 0, .bool false]) rfl (by kernel_rfl) (by kernel_rfl) (by kernel_rfl) (O10.on 0 rfl _ rfl).1 ⟨_, c11, rfl, rfl, (l4.trans (l8.trans l11)), O12, rfl⟩

def f_cursor_Down (p0 : G_api_Cursor) (p1 : Int) : Option (G_api_Cursor × Bool) :=
  (f_cursor_side p1).bind fun x_11 =>
  if (decide (p0.Row ≥ (w64 (x_11 - 1)))) = true then
  some ((⟨p0.Row, p0.Col, false⟩ : G_api_Cursor), true)
  else
  some ((⟨(w64 (p0.Row + 1)), p0.Col, false⟩ : G_api_Cursor), false)
theorem c_cursor_Down {c0 : Cx} {G : Gm} {F : List En} (O0 : Own c0 G F) (p0 : G_api_Cursor) (p1 : Int) {r : G_api_Cursor × Bool} (H : f_cursor_Down p0 p1 = some r) :
    Calls Tryd.prog 141 #[.agg #[.int .i64 p0.Row, .int .i64 p0.Col, .bool p0.Pending], .int .i64 p1] c0.w (Post c0 fun c v => Own c G (F) ∧ v = .tuple #[.agg #[.int .i64 r.1.Row, .int .i64 r.1.Col, .bool r.1.Pending], .bool r.2]) := by
  unfold f_cursor_Down at H
  refine enter (l := [.agg #[.int .i64 p0.Row, .int .i64 p0.Col, .bool p0.Pending], .int .i64 p1]) Tryd.func141 rfl rfl rfl ?_
  refine sr ?_
  refine WL.mem rfl (Own.al (T := 120) (vs := [.int .i64 p0.Row, .int .i64 p0.Col, .bool p0.Pending]) O0 (by kernel_rfl)) ?_
  rintro v4 c3 l3 ⟨b1, rfl, O2⟩
  refine WL.mem rfl (Own.al (T := 120) (vs := [.int .i64 0, .int .i64 0, .bool false]) O2 (by kernel_rfl)) ?_
  rintro v8 c7 l7 ⟨b5, rfl, O6⟩
  refine va (.bool false) ?_
  refine wln ?_
  refine sr ?_
  refine va (.pointer (some ⟨b1, 2, none⟩)) ?_
  refine WL.memD rfl (Own.st (T := 4) (j := 2) (us := [.bool false]) (nw := [.int .i64 p0.Row, .int .i64 p0.Col, .bool false]) (v := .bool false) 1 O6 (by kernel_rfl) rfl rfl rfl rfl (by kernel_rfl) ⟨rfl, trivial⟩ rfl rfl) ?_
  rintro c10 l10 O9
  refine wln ?_
  refine W.seq ?_
  refine W.seq ?_
  refine W.regionD [] (Kp G0 [⟨.pointer (some ⟨b1, 0, none⟩), 120, [.int .i64 p0.Row, .int .i64 p0.Col, .bool false], 0⟩]) O9 (by kernel_rfl) ?_
  intro c11 l11 O12
  have p13 : Kp G0 [⟨.pointer (some ⟨b1, 0, none⟩), 120, [.int .i64 p0.Row, .int .i64 p0.Col, .bool false], 0⟩] c11 := (Kp.cons (O12.on 1 rfl) Kp.nil0)
  refine ta 0 (.pointer (some ⟨b1, 0, none⟩)) ?_
  refine AC.takeK 1 (.int .i64 p0.Row) p13 rfl (by kernel_rfl) (by kernel_rfl) (by kernel_rfl) (fun c' hle hk => (rx (by kernel_rfl) (ldE1 (j := 0) Tryd.underlying3 rfl (hk.on 0 rfl) rfl rfl))) ?_
  refine ta 2 (.int .i64 p1) ?_
  obtain ⟨x_11, h14, H⟩ := bs H
  refine AC.one 3 (by kernel_rfl) (Go1.callP 3 rfl (by kernel_rfl) (by kernel_rfl) (by kernel_rfl) (c_cursor_side O12 p1 h14) ?_)
  rintro v20 c19 l19 ⟨O16, rfl⟩
  have p21 : Kp G0 [⟨.pointer (some ⟨b1, 0, none⟩), 120, [.int .i64 p0.Row, .int .i64 p0.Col, .bool false], 0⟩] c19 := (Kp.cons (O16.on 1 rfl) Kp.nil0)
  refine ⟨.inr p21, ?_⟩
  refine ta 4 (.int .i64 (w64 (x_11 - 1))) ?_
  refine ta 5 (.bool (decide (p0.Row ≥ (w64 (x_11 - 1))))) ?_
  refine AC.done (by kernel_rfl) ?_
  refine nrm ?_
  refine W.cond (t := decide (p0.Row ≥ (w64 (x_11 - 1)))) (by kernel_rfl) (fun h22 => ?_) (fun h22 => ?_)
  · have H := it h22 H
    refine sr ?_
    refine WL.val0 (v := .agg #[.int .i64 p0.Row, .int .i64 p0.Col, .bool false]) rfl (rx (by kernel_rfl) (ldEN (T := 120) (j := 0) (l := [.int .i64 p0.Row, .int .i64 p0.Col, .bool false]) (by kernel_rfl) (by kernel_rfl) (O16.on 1 rfl) rfl rfl)) ?_
    refine WL.memD rfl (Own.st (T := 120) (j := 0) (us := [.int .i64 p0.Row, .int .i64 p0.Col, .bool false]) (nw := [.int .i64 p0.Row, .int .i64 p0.Col, .bool false]) (v := .agg #[.int .i64 p0.Row, .int .i64 p0.Col, .bool false]) 0 O16 (by kernel_rfl) rfl rfl rfl rfl (by kernel_rfl) ⟨rfl, rfl, rfl, trivial⟩ rfl rfl) ?_
    rintro c24 l24 O23
    refine va (.bool true) ?_
    refine wln ?_
    refine W.ret ?_
    refine thr ?_
    obtain rfl := Option.some.inj H
    have O25 := O23.selD 2 [] (by kernel_rfl) (by kernel_rfl)
    exact retCT (c := c24) (vs := [.int .i64 p0.Row, .int .i64 p0.Col, .bool false]) (v := .bool true) rfl (by kernel_rfl) (by kernel_rfl) (by kernel_rfl) (by kernel_rfl) (O23.on 0 rfl _ rfl).1 ⟨_, c24, rfl, rfl, (l3.trans (l7.trans (l10.trans (l11.trans (l19.trans l24))))), O25, rfl⟩
  · have H := ie h22 H
    refine W.skip ?_
    refine nrm ?_
    refine sr ?_
    refine va (.pointer (some ⟨b1, 0, none⟩)) ?_
    refine WL.val0 (v := .int .i64 p0.Row) rfl (rx (by kernel_rfl) (ldE1 (j := 0) Tryd.underlying3 rfl (O16.on 1 rfl) rfl rfl)) ?_
    refine va (.int .i64 (w64 (p0.Row + 1))) ?_
    refine va (.pointer (some ⟨b1, 0, none⟩)) ?_
    refine WL.memD rfl (Own.st (T := 3) (j := 0) (us := [.int .i64 (w64 (p0.Row + 1))]) (nw := [.int .i64 (w64 (p0.Row + 1)), .int .i64 p0.Col, .bool false]) (v := .int .i64 (w64 (p0.Row + 1))) 1 O16 (by kernel_rfl) rfl rfl rfl rfl (by kernel_rfl) ⟨rfl, trivial⟩ rfl rfl) ?_
    rintro c27 l27 O26
    refine wln ?_
    refine sr ?_
    refine WL.val0 (v := .agg #[.int .i64 (w64 (p0.Row + 1)), .int .i64 p0.Col, .bool false]) rfl (rx (by kernel_rfl) (ldEN (T := 120) (j := 0) (l := [.int .i64 (w64 (p0.Row + 1)), .int .i64 p0.Col, .bool false]) (by kernel_rfl) (by kernel_rfl) (O26.on 1 rfl) rfl rfl)) ?_
    refine WL.memD rfl (Own.st (T := 120) (j := 0) (us := [.int .i64 (w64 (p0.Row + 1)), .int .i64 p0.Col, .bool false]) (nw := [.int .i64 (w64 (p0.Row + 1)), .int .i64 p0.Col, .bool false]) (v := .agg #[.int .i64 (w64 (p0.Row + 1)), .int .i64 p0.Col, .bool false]) 0 O26 (by kernel_rfl) rfl rfl rfl rfl (by kernel_rfl) ⟨rfl, rfl, rfl, trivial⟩ rfl rfl) ?_
    rintro c29 l29 O28
    refine va (.bool false) ?_
    refine wln ?_
    refine W.ret ?_
    obtain rfl := Option.some.inj H
    have O30 := O28.selD 2 [] (by kernel_rfl) (by kernel_rfl)
    exact retCT (c := c29) (vs := [.int .i64 (w64 (p0.Row + 1)), .int .i64 p0.Col, .bool false]) (v := .bool false) rfl (by kernel_rfl) (by kernel_rfl) (by kernel_rfl) (by kernel_rfl) (O28.on 0 rfl _ rfl).1 ⟨_, c29, rfl, rfl, (l3.trans (l7.trans (l10.trans (l11.trans (l19.trans (l27.trans l29)))))), O30, rfl⟩

def f_place_Pen_NewLine (sg : Sto) (p0 : Option Nat) : Option (Sto) :=
  (f_place_Pen_ready sg p0).bind fun x_2 =>
  if (!x_2.2) = true then
  some x_2.1
  else
  (p0).bind fun k_6 =>
  (x_2.1.place_Pen[k_6]?).bind fun o_8 =>
  (f_grid_Grid_High x_2.1 o_8.G).bind fun x_13 =>
  (f_cursor_Down o_8.At x_13).bind fun x_14 =>
  (p0).bind fun k_24 =>
  (x_2.1.place_Pen[k_24]?).bind fun o_26 =>
  (x_2.1.set_place_Pen k_24 (⟨o_26.G, x_14.1, o_26.Auto⟩ : G_place_Pen)).bind fun s_26001 =>
  if x_14.2 = true then
  (f_grid_Grid_High s_26001 o_26.G).bind fun x_38 =>
  (f_scroll_Up s_26001 o_26.G 0 x_38 1).bind fun x_39 =>
  some x_39
  else
  some s_26001
theorem c_place_Pen_NewLine {c0 : Cx} {G : Gm} {F : List En} {sg : Sto} {v1 : Value} (O0 : Own c0 G F) (R0 : Rel c0 sg G) (p0 : Option Nat) {r : Sto} (h2 : Pt 2 c0 v1 p0) (H : f_place_Pen_NewLine sg p0 = some r) :
    Calls Tryd.prog 77 #[v1] c0.w (Post c0 fun c v => ∃ G_ : Gm, Own c G_ (F) ∧ Rel c r G_ ∧ v = .tuple #[]) := by
  unfold f_place_Pen_NewLine at H
  refine enter (l := [v1]) Tryd.func77 rfl rfl rfl ?_
  refine W.seq ?_
  refine sr ?_
  refine va (v1) ?_
  obtain ⟨x_2, h3, H⟩ := bs H
  refine WL.callP rfl (by kernel_rfl) (c_place_Pen_ready O0 R0 p0 h2 h3) ?_
  rintro v9 c8 l8 ⟨G4, O5, R6, rfl⟩
  refine va (.bool (!x_2.2)) ?_
  refine wln ?_
  refine W.cond (t := !x_2.2) (by kernel_rfl) (fun h10 => ?_) (fun h10 => ?_)
  · have H := it h10 H
    refine W.ret ?_
    refine thr ?_
    obtain rfl := Option.some.inj H
    exact ret0 rfl ⟨_, c8, rfl, rfl, l8, G4, O5, R6, rfl⟩
  · have H := ie h10 H
    refine W.skip ?_
    refine nrm ?_
    refine W.seq ?_
    obtain ⟨k_6, h11, H⟩ := bs H
    obtain ⟨o_8, h12, H⟩ := bs H
    obtain ⟨x_13, h13, H⟩ := bs H
    obtain ⟨x_14, h14, H⟩ := bs H
    refine W.join (fun e w => ∃ (c : Cx) (g : Nat → Value) (b15 : Nat), w = c.w ∧ c8.le c ∧ Own c G4 (⟨.pointer (some ⟨b15, 0, none⟩), 120, [.int .i64 x_14.1.Row, .int .i64 x_14.1.Col, .bool x_14.1.Pending], 0⟩ :: F) ∧ e = ups g [(0, v1), (2, .pointer (some ⟨b15, 0, none⟩)), (3, .bool x_14.2)]) ?_ ?_
    · clear H
      refine W.regionD [] (Kp G4 []) O5 (by kernel_rfl) ?_
      intro c16 l16 O17
      have p18 : Kp G4 [] c16 := (Kp.nil O17)
      refine ta 0 (v1) ?_
      obtain ⟨b19, rfl, h20⟩ := ((h2.mono (l8.trans l16))).get h11
      refine ta 1 (.pointer (some ⟨b19, 0, none⟩)) ?_
      refine ta 2 (.pointer (some ⟨b19, 1, none⟩)) ?_
      obtain ⟨v21, h23, h22⟩ := Rel.open_place_Pen (R6.mono l16) h12 h20
      refine AC.takeK 3 (.agg #[.int .i64 o_8.At.Row, .int .i64 o_8.At.Col, .bool o_8.At.Pending]) p18 rfl (by kernel_rfl) (by kernel_rfl) (by kernel_rfl) (fun c' hle hk => (rx (by kernel_rfl) (ldEN (T := 120) (j := 1) (l := [.int .i64 o_8.At.Row, .int .i64 o_8.At.Col, .bool o_8.At.Pending]) (by kernel_rfl) (by kernel_rfl) (hk.gon h23 0 rfl) rfl rfl))) ?_
      refine ta 4 (.pointer (some ⟨b19, 0, none⟩)) ?_
      refine ta 5 (.pointer (some ⟨b19, 0, none⟩)) ?_
      refine ta 6 (.pointer (some ⟨b19, 0, none⟩)) ?_
      refine AC.takeK 7 (v21) p18 rfl (by kernel_rfl) (by kernel_rfl) (by kernel_rfl) (fun c' hle hk => (rx (by kernel_rfl) (ldE1 (j := 0) Tryd.underlying51 rfl (hk.gon h23 0 rfl) rfl rfl))) ?_
      refine AC.many [8, 13] (by simp) (by kernel_rfl) ⟨?_, ?_, trivial⟩
      · skip
        refine (Go1.callP 8 rfl (by kernel_rfl) (by kernel_rfl) (by kernel_rfl) (c_grid_Grid_High O17 (R6.mono l16) o_8.G h22 h13) ?_)
        rintro v29 c28 l28 ⟨O25, rfl⟩
        have p30 : Kp G4 [] c28 := (Kp.nil O25)
        refine ⟨.inr p30, ?_⟩
        refine AC.many [9, 13] (by simp) (by kernel_rfl) ⟨?_, ?_, trivial⟩
        · skip
          refine (Go1.callP 9 rfl (by kernel_rfl) (by kernel_rfl) (by kernel_rfl) (c_cursor_Down O25 o_8.At x_13 h14) ?_)
          rintro v36 c35 l35 ⟨O32, rfl⟩
          have p37 : Kp G4 [] c35 := (Kp.nil O32)
          refine ⟨.inr p37, ?_⟩
          refine ta 10 (.tuple #[.agg #[.int .i64 x_14.1.Row, .int .i64 x_14.1.Col, .bool x_14.1.Pending], .bool x_14.2]) ?_
          refine ta 11 (.agg #[.int .i64 x_14.1.Row, .int .i64 x_14.1.Col, .bool x_14.1.Pending]) ?_
          refine ta 12 (.bool x_14.2) ?_
          refine AC.one 13 (by kernel_rfl) (Go1.mem 13 rfl (by kernel_rfl) (by kernel_rfl) (Own.al (T := 120) (vs := [.int .i64 0, .int .i64 0, .bool false]) O32 (by kernel_rfl)) ?_)
          rintro v41 c40 l40 ⟨b38, rfl, O39⟩
          have p42 : Kp G4 [] c40 := (Kp.nil O39)
          refine ⟨.inr p42, ?_⟩
          refine AC.one 14 (by kernel_rfl) (Go1.memD 14 rfl (by kernel_rfl) (by kernel_rfl) (Own.st (T := 120) (j := 0) (us := [.int .i64 x_14.1.Row, .int .i64 x_14.1.Col, .bool x_14.1.Pending]) (nw := [.int .i64 x_14.1.Row, .int .i64 x_14.1.Col, .bool x_14.1.Pending]) (v := .agg #[.int .i64 x_14.1.Row, .int .i64 x_14.1.Col, .bool x_14.1.Pending]) 0 O39 (by kernel_rfl) rfl rfl rfl rfl (by kernel_rfl) ⟨rfl, rfl, rfl, trivial⟩ rfl rfl) ?_)
          rintro c44 l44 O43
          have p45 : Kp G4 [] c44 := (Kp.nil O43)
          refine ⟨.inr p45, ?_⟩
          refine ta 15 (.bool x_14.2) ?_
          refine AC.done (by kernel_rfl) ?_
          refine nrm ?_
          exact ⟨c44, _, b38, rfl, (l16.trans (l28.trans (l35.trans (l40.trans l44)))), O43, ups_self ⟨rfl, rfl, rfl, trivial⟩⟩
        · skip
          refine (Go1.mem 13 rfl (by kernel_rfl) (by kernel_rfl) (Own.al (T := 120) (vs := [.int .i64 0, .int .i64 0, .bool false]) O25 (by kernel_rfl)) ?_)
          rintro v49 c48 l48 ⟨b46, rfl, O47⟩
          have p50 : Kp G4 [] c48 := (Kp.nil O47)
          refine ⟨.inr p50, ?_⟩
          refine AC.one 9 (by kernel_rfl) (Go1.callP 9 rfl (by kernel_rfl) (by kernel_rfl) (by kernel_rfl) (c_cursor_Down O47 o_8.At x_13 h14) ?_)
          rintro v56 c55 l55 ⟨O52, rfl⟩
          have p57 : Kp G4 [] c55 := (Kp.nil O52)
          refine ⟨.inr p57, ?_⟩
          refine ta 10 (.tuple #[.agg #[.int .i64 x_14.1.Row, .int .i64 x_14.1.Col, .bool x_14.1.Pending], .bool x_14.2]) ?_
          refine ta 11 (.agg #[.int .i64 x_14.1.Row, .int .i64 x_14.1.Col, .bool x_14.1.Pending]) ?_
          refine ta 12 (.bool x_14.2) ?_
          refine AC.one 14 (by kernel_rfl) (Go1.memD 14 rfl (by kernel_rfl) (by kernel_rfl) (Own.st (T := 120) (j := 0) (us := [.int .i64 x_14.1.Row, .int .i64 x_14.1.Col, .bool x_14.1.Pending]) (nw := [.int .i64 x_14.1.Row, .int .i64 x_14.1.Col, .bool x_14.1.Pending]) (v := .agg #[.int .i64 x_14.1.Row, .int .i64 x_14.1.Col, .bool x_14.1.Pending]) 0 O52 (by kernel_rfl) rfl rfl rfl rfl (by kernel_rfl) ⟨rfl, rfl, rfl, trivial⟩ rfl rfl) ?_)
          rintro c59 l59 O58
          have p60 : Kp G4 [] c59 := (Kp.nil O58)
          refine ⟨.inr p60, ?_⟩
          refine ta 15 (.bool x_14.2) ?_
          refine AC.done (by kernel_rfl) ?_
          refine nrm ?_
          exact ⟨c59, _, b46, rfl, (l16.trans (l28.trans (l48.trans (l55.trans l59)))), O58, ups_self ⟨rfl, rfl, rfl, trivial⟩⟩
      · skip
        refine (Go1.mem 13 rfl (by kernel_rfl) (by kernel_rfl) (Own.al (T := 120) (vs := [.int .i64 0, .int .i64 0, .bool false]) O17 (by kernel_rfl)) ?_)
        rintro v64 c63 l63 ⟨b61, rfl, O62⟩
        have p65 : Kp G4 [] c63 := (Kp.nil O62)
        refine ⟨.inr p65, ?_⟩
        refine AC.one 8 (by kernel_rfl) (Go1.callP 8 rfl (by kernel_rfl) (by kernel_rfl) (by kernel_rfl) (c_grid_Grid_High O62 (R6.mono (l16.trans l63)) o_8.G (h22.mono l63) h13) ?_)
        rintro v71 c70 l70 ⟨O67, rfl⟩
        have p72 : Kp G4 [] c70 := (Kp.nil O67)
        refine ⟨.inr p72, ?_⟩
        refine AC.one 9 (by kernel_rfl) (Go1.callP 9 rfl (by kernel_rfl) (by kernel_rfl) (by kernel_rfl) (c_cursor_Down O67 o_8.At x_13 h14) ?_)
        rintro v78 c77 l77 ⟨O74, rfl⟩
        have p79 : Kp G4 [] c77 := (Kp.nil O74)
        refine ⟨.inr p79, ?_⟩
        refine ta 10 (.tuple #[.agg #[.int .i64 x_14.1.Row, .int .i64 x_14.1.Col, .bool x_14.1.Pending], .bool x_14.2]) ?_
        refine ta 11 (.agg #[.int .i64 x_14.1.Row, .int .i64 x_14.1.Col, .bool x_14.1.Pending]) ?_
        refine ta 12 (.bool x_14.2) ?_
        refine AC.one 14 (by kernel_rfl) (Go1.memD 14 rfl (by kernel_rfl) (by kernel_rfl) (Own.st (T := 120) (j := 0) (us := [.int .i64 x_14.1.Row, .int .i64 x_14.1.Col, .bool x_14.1.Pending]) (nw := [.int .i64 x_14.1.Row, .int .i64 x_14.1.Col, .bool x_14.1.Pending]) (v := .agg #[.int .i64 x_14.1.Row, .int .i64 x_14.1.Col, .bool x_14.1.Pending]) 0 O74 (by kernel_rfl) rfl rfl rfl rfl (by kernel_rfl) ⟨rfl, rfl, rfl, trivial⟩ rfl rfl) ?_)
        rintro c81 l81 O80
        have p82 : Kp G4 [] c81 := (Kp.nil O80)
        refine ⟨.inr p82, ?_⟩
        refine ta 15 (.bool x_14.2) ?_
        refine AC.done (by kernel_rfl) ?_
        refine nrm ?_
        exact ⟨c81, _, b61, rfl, (l16.trans (l63.trans (l70.trans (l77.trans l81)))), O80, ups_self ⟨rfl, rfl, rfl, trivial⟩⟩
    · skip
      rintro e_ w_ ⟨c83, g84, b15, rfl, l83, O85, rfl⟩
      refine nrm ?_
      refine sr ?_
      refine va (v1) ?_
      refine WL.val0 (v := .agg #[.int .i64 x_14.1.Row, .int .i64 x_14.1.Col, .bool x_14.1.Pending]) rfl (rx (by kernel_rfl) (ldEN (T := 120) (j := 0) (l := [.int .i64 x_14.1.Row, .int .i64 x_14.1.Col, .bool x_14.1.Pending]) (by kernel_rfl) (by kernel_rfl) (O85.on 0 rfl) rfl rfl)) ?_
      obtain ⟨k_24, h91, H⟩ := bs H
      obtain ⟨b89, rfl, h90⟩ := ((h2.mono (l8.trans l83))).get h91
      refine va (.pointer (some ⟨b89, 0, none⟩)) ?_
      refine va (.pointer (some ⟨b89, 1, none⟩)) ?_
      obtain ⟨o_26, h92, H⟩ := bs H
      obtain ⟨v93, h95, h94⟩ := Rel.open_place_Pen (R6.mono l83) h92 h90
      refine WL.memD rfl (Own.stG (T := 120) (j := 1) (us := [.int .i64 x_14.1.Row, .int .i64 x_14.1.Col, .bool x_14.1.Pending]) (nw := [v93, .int .i64 x_14.1.Row, .int .i64 x_14.1.Col, .bool x_14.1.Pending, .bool o_26.Auto]) (v := .agg #[.int .i64 x_14.1.Row, .int .i64 x_14.1.Col, .bool x_14.1.Pending]) 0 O85 (by kernel_rfl) h95 rfl rfl rfl rfl (by kernel_rfl) ⟨rfl, rfl, rfl, trivial⟩ rfl rfl) ?_
      rintro c97 l97 O96
      obtain ⟨s_26001, h102, H⟩ := bs H
      obtain ⟨G98, O99, R100, h101, a103⟩ := Rel.put_place_Pen O96 (R6.mono (l83.trans l97)) (E' := [⟨.pointer (some ⟨b89, 0, none⟩), 131, [v93, .int .i64 x_14.1.Row, .int .i64 x_14.1.Col, .bool x_14.1.Pending, .bool o_26.Auto], 0⟩]) h102 ⟨b89, v93, (l97.t _ _ _ h90), rfl, (h94.mono l97)⟩
      refine wln ?_
      refine sr ?_
      refine va (.bool x_14.2) ?_
      refine wln ?_
      refine W.cond (t := x_14.2) (by kernel_rfl) (fun h104 => ?_) (fun h104 => ?_)
      · have H := it h104 H
        refine W.regionD [9] (Kp G98 []) O99 (by kernel_rfl) ?_
        intro c105 l105 O106
        have p107 : Kp G98 [] c105 := (Kp.nil O106)
        refine ta 0 (.pointer (some ⟨b89, 0, none⟩)) ?_
        refine ta 1 (.pointer (some ⟨b89, 0, none⟩)) ?_
        refine ta 2 (.pointer (some ⟨b89, 0, none⟩)) ?_
        refine AC.takeK 3 (v93) p107 rfl (by kernel_rfl) (by kernel_rfl) (by kernel_rfl) (fun c' hle hk => (rx (by kernel_rfl) (ldE1 (j := 0) Tryd.underlying51 rfl (hk.gon h101 0 rfl) rfl rfl))) ?_
        refine ta 4 (.pointer (some ⟨b89, 0, none⟩)) ?_
        refine ta 5 (.pointer (some ⟨b89, 0, none⟩)) ?_
        refine ta 6 (.pointer (some ⟨b89, 0, none⟩)) ?_
        refine AC.takeK 7 (v93) p107 rfl (by kernel_rfl) (by kernel_rfl) (by kernel_rfl) (fun c' hle hk => (rx (by kernel_rfl) (ldE1 (j := 0) Tryd.underlying51 rfl (hk.gon h101 0 rfl) rfl rfl))) ?_
        obtain ⟨x_38, h108, H⟩ := bs H
        refine AC.one 8 (by kernel_rfl) (Go1.callP 8 rfl (by kernel_rfl) (by kernel_rfl) (by kernel_rfl) (c_grid_Grid_High O106 (R100.mono l105) o_26.G (h94.mono (l97.trans l105)) h108) ?_)
        rintro v114 c113 l113 ⟨O110, rfl⟩
        have p115 : Kp G98 [] c113 := (Kp.nil O110)
        refine ⟨.inr p115, ?_⟩
        obtain ⟨x_39, h116, H⟩ := bs H
        refine AC.one 9 (by kernel_rfl) (Go1.callP 9 rfl (by kernel_rfl) (by kernel_rfl) (by kernel_rfl) (c_scroll_Up O110 (R100.mono (l105.trans l113)) o_26.G 0 x_38 1 (h94.mono (l97.trans (l105.trans l113))) h116) ?_)
        rintro v122 c121 l121 ⟨G117, O118, R119, rfl⟩
        refine ⟨.inl rfl, ?_⟩
        refine AC.done (by kernel_rfl) ?_
        obtain rfl := Option.some.inj H
        have O123 := O118.selD 1 [] (by kernel_rfl) (by kernel_rfl)
        exact end0 rfl ⟨_, c121, rfl, rfl, (l8.trans (l83.trans (l97.trans (l105.trans (l113.trans l121))))), G117, O123, R119, rfl⟩
      · have H := ie h104 H
        refine W.skip ?_
        obtain rfl := Option.some.inj H
        have O124 := O99.selD 1 [] (by kernel_rfl) (by kernel_rfl)
        exact end0 rfl ⟨_, c97, rfl, rfl, (l8.trans (l83.trans l97)), G98, O124, R100, rfl⟩

def f_place_Pen_goOn (sg : Sto) (p0 : Option Nat) : Option (Sto) :=
  (p0).bind fun k_2 =>
  (sg.place_Pen[k_2]?).bind fun o_4 =>
  (f_grid_Grid_Row sg o_4.G o_4.At.Row).bind fun x_10 =>
  (f_row_Row_GoOn sg x_10 true).bind fun x_11 =>
  (x_11.place_Pen[k_2]?).bind fun o_17 =>
  (f_cursor_Return o_17.At).bind fun x_18 =>
  (x_11.set_place_Pen k_2 (⟨o_17.G, x_18, o_17.Auto⟩ : G_place_Pen)).bind fun s_21001 =>
  (f_place_Pen_NewLine s_21001 p0).bind fun x_24 =>
  some x_24
theorem c_place_Pen_goOn {c0 : Cx} {G : Gm} {F : List En} {sg : Sto} {v1 : Value} (O0 : Own c0 G F) (R0 : Rel c0 sg G) (p0 : Option Nat) {r : Sto} (h2 : Pt 2 c0 v1 p0) (H : f_place_Pen_goOn sg p0 = some r) :
    Calls Tryd.prog 167 #[v1] c0.w (Post c0 fun c v => ∃ G_ : Gm, Own c G_ (F) ∧ Rel c r G_ ∧ v = .tuple #[]) := by
  unfold f_place_Pen_goOn at H
  refine enter (l := [v1]) Tryd.func167 rfl rfl rfl ?_
  refine W.seq ?_
  refine W.regionD [10] (Kp G []) O0 (by kernel_rfl) ?_
  intro c3 l3 O4
  have p5 : Kp G [] c3 := (Kp.nil O4)
  refine ta 0 (v1) ?_
  obtain ⟨k_2, h8, H⟩ := bs H
  obtain ⟨b6, rfl, h7⟩ := ((h2.mono l3)).get h8
  refine ta 1 (.pointer (some ⟨b6, 0, none⟩)) ?_
  refine ta 2 (.pointer (some ⟨b6, 0, none⟩)) ?_
  obtain ⟨o_4, h9, H⟩ := bs H
  obtain ⟨v10, h12, h11⟩ := Rel.open_place_Pen (R0.mono l3) h9 h7
  refine AC.takeK 3 (v10) p5 rfl (by kernel_rfl) (by kernel_rfl) (by kernel_rfl) (fun c' hle hk => (rx (by kernel_rfl) (ldE1 (j := 0) Tryd.underlying51 rfl (hk.gon h12 0 rfl) rfl rfl))) ?_
  refine ta 4 (.pointer (some ⟨b6, 0, none⟩)) ?_
  refine ta 5 (.pointer (some ⟨b6, 0, none⟩)) ?_
  refine ta 6 (.pointer (some ⟨b6, 1, none⟩)) ?_
  refine ta 7 (.pointer (some ⟨b6, 1, none⟩)) ?_
  refine AC.takeK 8 (.int .i64 o_4.At.Row) p5 rfl (by kernel_rfl) (by kernel_rfl) (by kernel_rfl) (fun c' hle hk => (rx (by kernel_rfl) (ldE1 (j := 1) Tryd.underlying3 rfl (hk.gon h12 0 rfl) rfl rfl))) ?_
  obtain ⟨x_10, h13, H⟩ := bs H
  refine AC.one 9 (by kernel_rfl) (Go1.callP 9 rfl (by kernel_rfl) (by kernel_rfl) (by kernel_rfl) (c_grid_Grid_Row O4 (R0.mono l3) o_4.G o_4.At.Row h11 h13) ?_)
  rintro v14 c20 l20 ⟨_, O17, rfl, h15⟩
  have p22 : Kp G [] c20 := (Kp.nil O17)
  refine ⟨.inr p22, ?_⟩
  obtain ⟨x_11, h23, H⟩ := bs H
  refine AC.one 10 (by kernel_rfl) (Go1.callP 10 rfl (by kernel_rfl) (by kernel_rfl) (by kernel_rfl) (c_row_Row_GoOn O17 (R0.mono (l3.trans l20)) x_10 true h15 h23) ?_)
  rintro v29 c28 l28 ⟨G24, O25, R26, rfl⟩
  refine ⟨.inl rfl, ?_⟩
  refine AC.done (by kernel_rfl) ?_
  refine nrm ?_
  refine sr ?_
  refine va (.pointer (some ⟨b6, 0, none⟩)) ?_
  refine va (.pointer (some ⟨b6, 0, none⟩)) ?_
  refine va (.pointer (some ⟨b6, 0, none⟩)) ?_
  refine va (.pointer (some ⟨b6, 1, none⟩)) ?_
  obtain ⟨o_17, h30, H⟩ := bs H
  obtain ⟨v31, h33, h32⟩ := Rel.open_place_Pen R26 h30 ((l20.trans l28).t _ _ _ h7)
  refine WL.val0 (v := .agg #[.int .i64 o_17.At.Row, .int .i64 o_17.At.Col, .bool o_17.At.Pending]) rfl (rx (by kernel_rfl) (ldEN (T := 120) (j := 1) (l := [.int .i64 o_17.At.Row, .int .i64 o_17.At.Col, .bool o_17.At.Pending]) (by kernel_rfl) (by kernel_rfl) (O25.gon h33 0 rfl) rfl rfl)) ?_
  obtain ⟨x_18, h34, H⟩ := bs H
  refine WL.callP rfl (by kernel_rfl) (c_cursor_Return O25 o_17.At h34) ?_
  rintro v40 c39 l39 ⟨O36, rfl⟩
  refine va (.pointer (some ⟨b6, 0, none⟩)) ?_
  refine va (.pointer (some ⟨b6, 1, none⟩)) ?_
  refine WL.memD rfl (Own.stG (T := 120) (j := 1) (us := [.int .i64 x_18.Row, .int .i64 x_18.Col, .bool x_18.Pending]) (nw := [v31, .int .i64 x_18.Row, .int .i64 x_18.Col, .bool x_18.Pending, .bool o_17.Auto]) (v := .agg #[.int .i64 x_18.Row, .int .i64 x_18.Col, .bool x_18.Pending]) 0 O36 (by kernel_rfl) h33 rfl rfl rfl rfl (by kernel_rfl) ⟨rfl, rfl, rfl, trivial⟩ rfl rfl) ?_
  rintro c42 l42 O41
  obtain ⟨s_21001, h47, H⟩ := bs H
  obtain ⟨G43, O44, R45, h46, a48⟩ := Rel.put_place_Pen O41 (R26.mono (l39.trans l42)) (E' := [⟨.pointer (some ⟨b6, 0, none⟩), 131, [v31, .int .i64 x_18.Row, .int .i64 x_18.Col, .bool x_18.Pending, .bool o_17.Auto], 0⟩]) h47 ⟨b6, v31, ((l20.trans (l28.trans (l39.trans l42))).t _ _ _ h7), rfl, (h32.mono (l39.trans l42))⟩
  refine wln ?_
  refine W.region ?_
  refine va (.pointer (some ⟨b6, 0, none⟩)) ?_
  obtain ⟨x_24, h49, H⟩ := bs H
  refine WL.callP rfl (by kernel_rfl) (c_place_Pen_NewLine O44 R45 p0 (h2.mono (l3.trans (l20.trans (l28.trans (l39.trans l42))))) h49) ?_
  rintro v55 c54 l54 ⟨G50, O51, R52, rfl⟩
  refine WL.nil ?_
  obtain rfl := Option.some.inj H
  exact end0 rfl ⟨_, c54, rfl, rfl, (l3.trans (l20.trans (l28.trans (l39.trans (l42.trans l54))))), G50, O51, R52, rfl⟩

def f_place_Pen_room (sg : Sto) (p0 : Option Nat) (p1 : Int) : Option (Sto) :=
  ((p0).bind fun k_3 =>
  (sg.place_Pen[k_3]?).bind fun o_6 =>
  if o_6.At.Pending = true then
  (f_place_Pen_goOn sg p0).bind fun x_9 =>
  (some (x_9) : Option (Sto))
  else
  (some (sg) : Option (Sto))).bind fun z_1 =>
  (p0).bind fun k_12 =>
  (z_1.place_Pen[k_12]?).bind fun o_14 =>
  (f_grid_Grid_Wide z_1 o_14.G).bind fun x_15 =>
  (orE (p1 == 1) (some (decide (o_14.At.Col < (w64 (x_15 - 1)))))).bind fun d_21 =>
  if d_21 = true then
  some z_1
  else
  if o_14.Auto = true then
  (f_grid_Grid_Row z_1 o_14.G o_14.At.Row).bind fun x_48 =>
  (f_cell_Blanks 1).bind fun x_49 =>
  (f_row_Row_Paint z_1 x_48 (w64 (x_15 - 1)) x_49).bind fun x_50 =>
  (f_place_Pen_goOn x_50.1 p0).bind fun x_53 =>
  some x_53
  else
  (z_1.set_place_Pen k_12 (⟨o_14.G, (⟨o_14.At.Row, (w64 (o_14.At.Col - 1)), o_14.At.Pending⟩ : G_api_Cursor), o_14.Auto⟩ : G_place_Pen)).bind fun s_64001 =>
  some s_64001
theorem c_place_Pen_room {c0 : Cx} {G : Gm} {F : List En} {sg : Sto} {v1 : Value} (O0 : Own c0 G F) (R0 : Rel c0 sg G) (hG : Gl [0, 1] c0) (p0 : Option Nat) (p1 : Int) {r : Sto} (h2 : Pt 2 c0 v1 p0) (H : f_place_Pen_room sg p0 p1 = some r) :
    Calls Tryd.prog 134 #[v1, .int .i64 p1] c0.w (Post c0 fun c v => ∃ G_ : Gm, Own c G_ (F) ∧ Rel c r G_ ∧ v = .tuple #[]) := by
  unfold f_place_Pen_room at H
  refine enter (l := [v1, .int .i64 p1]) Tryd.func134 rfl rfl rfl ?_
  obtain ⟨z_1, H3, H4⟩ := bs H
  refine W.seqJ (fun e w => ∃ (c : Cx) (g : Nat → Value) (G_ : Gm), w = c.w ∧ c0.le c ∧ Own c G_ (F) ∧ e = ups g [(0, v1), (1, .int .i64 p1)] ∧ Rel c z_1 G_) ?_ ?_
  · skip
    refine sr ?_
    refine va (v1) ?_
    obtain ⟨k_3, h7, H3⟩ := bs H3
    obtain ⟨b5, rfl, h6⟩ := (h2).get h7
    refine va (.pointer (some ⟨b5, 0, none⟩)) ?_
    refine va (.pointer (some ⟨b5, 1, none⟩)) ?_
    refine va (.pointer (some ⟨b5, 3, none⟩)) ?_
    obtain ⟨o_6, h8, H3⟩ := bs H3
    obtain ⟨v9, h11, h10⟩ := Rel.open_place_Pen R0 h8 h6
    refine WL.val0 (v := .bool o_6.At.Pending) rfl (rx (by kernel_rfl) (ldE1 (j := 3) Tryd.underlying4 rfl (O0.gon h11 0 rfl) rfl rfl)) ?_
    refine wln ?_
    refine W.cond (t := o_6.At.Pending) (by kernel_rfl) (fun h12 => ?_) (fun h12 => ?_)
    · have H3 := it h12 H3
      refine W.region ?_
      refine va (.pointer (some ⟨b5, 0, none⟩)) ?_
      obtain ⟨x_9, h13, H3⟩ := bs H3
      refine WL.callP rfl (by kernel_rfl) (c_place_Pen_goOn O0 R0 p0 h2 h13) ?_
      rintro v19 c18 l18 ⟨G14, O15, R16, rfl⟩
      refine wln ?_
      obtain rfl := Option.some.inj H3
      exact ⟨c18, _, G14, rfl, l18, O15, ups_self ⟨rfl, rfl, trivial⟩, R16⟩
    · have H3 := ie h12 H3
      refine W.skip ?_
      refine nrm ?_
      obtain rfl := Option.some.inj H3
      exact ⟨c0, _, G, rfl, (Cx.le.refl _), O0, ups_self ⟨rfl, rfl, trivial⟩, R0⟩
  · skip
    rintro e_ w_ ⟨c20, g21, G23, rfl, l20, O22, rfl, R24⟩
    refine sr ?_
    refine va (v1) ?_
    obtain ⟨k_12, h28, H4⟩ := bs H4
    obtain ⟨b26, rfl, h27⟩ := ((h2.mono l20)).get h28
    refine va (.pointer (some ⟨b26, 0, none⟩)) ?_
    refine va (.pointer (some ⟨b26, 0, none⟩)) ?_
    obtain ⟨o_14, h29, H4⟩ := bs H4
    obtain ⟨v30, h32, h31⟩ := Rel.open_place_Pen R24 h29 h27
    refine WL.val0 (v := v30) rfl (rx (by kernel_rfl) (ldE1 (j := 0) Tryd.underlying51 rfl (O22.gon h32 0 rfl) rfl rfl)) ?_
    obtain ⟨x_15, h33, H4⟩ := bs H4
    refine WL.callP rfl (by kernel_rfl) (c_grid_Grid_Wide O22 R24 o_14.G h31 h33) ?_
    rintro v39 c38 l38 ⟨O35, rfl⟩
    refine va (.int .i64 (w64 (x_15 - 1))) ?_
    refine va (.int .i64 (w64 (x_15 - 1))) ?_
    refine wln ?_
    refine W.block ?_
    refine W.seq ?_
    obtain ⟨d_21, h40, H4⟩ := bs H4
    refine W.join (fun e w => ∃ (c : Cx) (g : Nat → Value), w = c.w ∧ c38.le c ∧ Own c G23 (F) ∧ e = ups g [(0, .pointer (some ⟨b26, 0, none⟩)), (4, .int .i64 (w64 (x_15 - 1))), (27, .bool d_21)]) ?_ ?_
    · clear H4
      refine W.region ?_
      refine va (.int .i64 p1) ?_
      refine va (.bool (p1 == 1)) ?_
      rcases Bool.eq_false_or_eq_true (p1 == 1) with h41 | h41
      · skip
        obtain rfl := orT h41 h40
        refine vb h41 ?_
        refine ps ?_
        refine ps ?_
        refine ps ?_
        refine ps ?_
        refine ps ?_
        refine ps ?_
        refine ps ?_
        refine va (.bool true) ?_
        refine va (.bool true) ?_
        refine wln ?_
        exact ⟨c38, _, rfl, (Cx.le.refl _), O35, ups_self ⟨rfl, rfl, rfl, trivial⟩⟩
      · skip
        have H42 := orF h41 h40
        refine vb h41 ?_
        refine wn ?_
        refine va (.pointer (some ⟨b26, 0, none⟩)) ?_
        refine wn ?_
        refine va (.pointer (some ⟨b26, 0, none⟩)) ?_
        refine wn ?_
        refine va (.pointer (some ⟨b26, 1, none⟩)) ?_
        refine wn ?_
        refine va (.pointer (some ⟨b26, 2, none⟩)) ?_
        refine wn ?_
        refine WL.val0 (v := .int .i64 o_14.At.Col) rfl (rx (by kernel_rfl) (ldE1 (j := 2) Tryd.underlying3 rfl (O35.gon h32 0 rfl) rfl rfl)) ?_
        refine wn ?_
        refine va (.int .i64 (w64 (x_15 - 1))) ?_
        refine wn ?_
        refine va (.bool (decide (o_14.At.Col < (w64 (x_15 - 1))))) ?_
        obtain rfl := Option.some.inj H42
        refine va (.bool (decide (o_14.At.Col < (w64 (x_15 - 1))))) ?_
        refine va (.bool (decide (o_14.At.Col < (w64 (x_15 - 1))))) ?_
        refine wln ?_
        exact ⟨c38, _, rfl, (Cx.le.refl _), O35, ups_self ⟨rfl, rfl, rfl, trivial⟩⟩
    · skip
      rintro e_ w_ ⟨c43, g44, rfl, l43, O45, rfl⟩
      refine nrm ?_
      refine W.cond (t := d_21) (by kernel_rfl) (fun h49 => ?_) (fun h49 => ?_)
      · have H4 := it h49 H4
        refine W.ret ?_
        refine bkr ?_
        obtain rfl := Option.some.inj H4
        exact ret0 rfl ⟨_, c43, rfl, rfl, (l20.trans (l38.trans l43)), G23, O45, (R24.mono (l38.trans l43)), rfl⟩
      · have H4 := ie h49 H4
        refine sr ?_
        refine va (.pointer (some ⟨b26, 0, none⟩)) ?_
        refine va (.pointer (some ⟨b26, 0, none⟩)) ?_
        refine va (.pointer (some ⟨b26, 4, none⟩)) ?_
        refine WL.val0 (v := .bool o_14.Auto) rfl (rx (by kernel_rfl) (ldE1 (j := 4) Tryd.underlying4 rfl (O45.gon h32 0 rfl) rfl rfl)) ?_
        refine va (.bool o_14.Auto) ?_
        refine wln ?_
        refine W.cond (t := o_14.Auto) (by kernel_rfl) (fun h50 => ?_) (fun h50 => ?_)
        · have H4 := it h50 H4
          refine W.seq ?_
          refine W.regionD [12] (Kp G23 []) O45 (by kernel_rfl) ?_
          intro c51 l51 O52
          have p53 : Kp G23 [] c51 := (Kp.nil O52)
          refine ta 0 (.pointer (some ⟨b26, 0, none⟩)) ?_
          refine ta 1 (.pointer (some ⟨b26, 0, none⟩)) ?_
          refine ta 2 (.pointer (some ⟨b26, 0, none⟩)) ?_
          refine AC.takeK 3 (v30) p53 rfl (by kernel_rfl) (by kernel_rfl) (by kernel_rfl) (fun c' hle hk => (rx (by kernel_rfl) (ldE1 (j := 0) Tryd.underlying51 rfl (hk.gon h32 0 rfl) rfl rfl))) ?_
          refine ta 4 (.pointer (some ⟨b26, 0, none⟩)) ?_
          refine ta 5 (.pointer (some ⟨b26, 0, none⟩)) ?_
          refine ta 6 (.pointer (some ⟨b26, 1, none⟩)) ?_
          refine ta 7 (.pointer (some ⟨b26, 1, none⟩)) ?_
          refine AC.takeK 8 (.int .i64 o_14.At.Row) p53 rfl (by kernel_rfl) (by kernel_rfl) (by kernel_rfl) (fun c' hle hk => (rx (by kernel_rfl) (ldE1 (j := 1) Tryd.underlying3 rfl (hk.gon h32 0 rfl) rfl rfl))) ?_
          refine ta 10 (.int .i64 (w64 (x_15 - 1))) ?_
          obtain ⟨x_48, h54, H4⟩ := bs H4
          refine AC.one 9 (by kernel_rfl) (Go1.callP 9 rfl (by kernel_rfl) (by kernel_rfl) (by kernel_rfl) (c_grid_Grid_Row O52 (R24.mono (l38.trans (l43.trans l51))) o_14.G o_14.At.Row (h31.mono (l38.trans (l43.trans l51))) h54) ?_)
          rintro v55 c61 l61 ⟨_, O58, rfl, h56⟩
          have p63 : Kp G23 [] c61 := (Kp.nil O58)
          refine ⟨.inr p63, ?_⟩
          obtain ⟨x_49, h64, H4⟩ := bs H4
          refine AC.one 11 (by kernel_rfl) (Go1.callP 11 rfl (by kernel_rfl) (by kernel_rfl) (by kernel_rfl) (c_cell_Blanks O58 1 h64) ?_)
          rintro v65 c72 l72 ⟨_, u66, O69, rfl, h67⟩
          have p74 : Kp G23 [] c72 := (Kp.nil O69)
          refine ⟨.inr p74, ?_⟩
          obtain ⟨c77, h78, l77, O75, h76⟩ := O69.frz 0 rfl h67
          have p79 : Kp G23 [] c77 := (Kp.nil O75)
          refine AC.gh h78 l77 (fun _ => p79) ?_
          obtain ⟨x_50, h80, H4⟩ := bs H4
          refine AC.one 12 (by kernel_rfl) (Go1.callP 12 rfl (by kernel_rfl) (by kernel_rfl) (by kernel_rfl) (c_row_Row_Paint O75 (R24.mono (l38.trans (l43.trans (l51.trans (l61.trans (l72.trans l77)))))) ((hG.mono (l20.trans (l38.trans (l43.trans (l51.trans (l61.trans (l72.trans l77))))))).le (by decide)) x_48 (w64 (x_15 - 1)) x_49 (h56.mono (l72.trans l77)) h76 h80) ?_)
          rintro v81 c87 l87 ⟨_, G83, O84, R85, rfl, h82⟩
          refine ⟨.inl rfl, ?_⟩
          refine AC.done (by kernel_rfl) ?_
          refine nrm ?_
          refine W.region ?_
          refine va (.pointer (some ⟨b26, 0, none⟩)) ?_
          obtain ⟨x_53, h89, H4⟩ := bs H4
          refine WL.callP rfl (by kernel_rfl) (c_place_Pen_goOn O84 R85 p0 (h2.mono (l20.trans (l38.trans (l43.trans (l51.trans (l61.trans (l72.trans (l77.trans l87)))))))) h89) ?_
          rintro v95 c94 l94 ⟨G90, O91, R92, rfl⟩
          refine WL.nil ?_
          refine bkn ?_
          obtain rfl := Option.some.inj H4
          have O96 := O91.selD 1 [] (by kernel_rfl) (by kernel_rfl)
          exact end0 rfl ⟨_, c94, rfl, rfl, (l20.trans (l38.trans (l43.trans (l51.trans (l61.trans (l72.trans (l77.trans (l87.trans l94)))))))), G90, O96, R92, rfl⟩
        · have H4 := ie h50 H4
          refine W.region ?_
          refine va (.pointer (some ⟨b26, 0, none⟩)) ?_
          refine va (.pointer (some ⟨b26, 0, none⟩)) ?_
          refine va (.pointer (some ⟨b26, 1, none⟩)) ?_
          refine va (.pointer (some ⟨b26, 2, none⟩)) ?_
          refine WL.val0 (v := .int .i64 o_14.At.Col) rfl (rx (by kernel_rfl) (ldE1 (j := 2) Tryd.underlying3 rfl (O45.gon h32 0 rfl) rfl rfl)) ?_
          refine va (.int .i64 (w64 (o_14.At.Col - 1))) ?_
          refine va (.pointer (some ⟨b26, 0, none⟩)) ?_
          refine va (.pointer (some ⟨b26, 1, none⟩)) ?_
          refine va (.pointer (some ⟨b26, 2, none⟩)) ?_
          refine WL.memD rfl (Own.stG (T := 3) (j := 2) (us := [.int .i64 (w64 (o_14.At.Col - 1))]) (nw := [v30, .int .i64 o_14.At.Row, .int .i64 (w64 (o_14.At.Col - 1)), .bool o_14.At.Pending, .bool o_14.Auto]) (v := .int .i64 (w64 (o_14.At.Col - 1))) 0 O45 (by kernel_rfl) h32 rfl rfl rfl rfl (by kernel_rfl) ⟨rfl, trivial⟩ rfl rfl) ?_
          rintro c98 l98 O97
          obtain ⟨s_64001, h103, H4⟩ := bs H4
          obtain ⟨G99, O100, R101, h102, a104⟩ := Rel.put_place_Pen O97 (R24.mono (l38.trans (l43.trans l98))) (E' := [⟨.pointer (some ⟨b26, 0, none⟩), 131, [v30, .int .i64 o_14.At.Row, .int .i64 (w64 (o_14.At.Col - 1)), .bool o_14.At.Pending, .bool o_14.Auto], 0⟩]) h103 ⟨b26, v30, ((l38.trans (l43.trans l98)).t _ _ _ h27), rfl, (h31.mono (l38.trans (l43.trans l98)))⟩
          refine WL.nil ?_
          refine bkn ?_
          obtain rfl := Option.some.inj H4
          exact end0 rfl ⟨_, c98, rfl, rfl, (l20.trans (l38.trans (l43.trans l98))), G99, O100, R101, rfl⟩

def f_cursor_After (p0 : G_api_Cursor) (p1 : Int) (p2 : Int) (p3 : Bool) : Option (G_api_Cursor) :=
  (f_cursor_side p2).bind fun x_8 =>
  if (decide (p0.Col < (w64 (x_8 - (imax 1 (imin p1 2)))))) = true then
  some (⟨p0.Row, (w64 (p0.Col + (imax 1 (imin p1 2)))), false⟩ : G_api_Cursor)
  else
  some (⟨p0.Row, (w64 (x_8 - 1)), p3⟩ : G_api_Cursor)
theorem c_cursor_After {c0 : Cx} {G : Gm} {F : List En} (O0 : Own c0 G F) (p0 : G_api_Cursor) (p1 : Int) (p2 : Int) (p3 : Bool) {r : G_api_Cursor} (H : f_cursor_After p0 p1 p2 p3 = some r) :
    Calls Tryd.prog 135 #[.agg #[.int .i64 p0.Row, .int .i64 p0.Col, .bool p0.Pending], .int .i64 p1, .int .i64 p2, .bool p3] c0.w (Post c0 fun c v => Own c G (F) ∧ v = .agg #[.int .i64 r.Row, .int .i64 r.Col, .bool r.Pending]) := by
  unfold f_cursor_After at H
  refine enter (l := [.agg #[.int .i64 p0.Row, .int .i64 p0.Col, .bool p0.Pending], .int .i64 p1, .int .i64 p2, .bool p3]) Tryd.func135 rfl rfl rfl ?_
  refine sr ?_
  refine WL.mem rfl (Own.bx (T := 120) (vs := [.int .i64 p0.Row, .int .i64 p0.Col, .bool p0.Pending]) O0 (by kernel_rfl)) ?_
  rintro v5 c4 l4 ⟨b1, rfl, O2, m3⟩
  refine WL.mem rfl (Own.al (T := 120) (vs := [.int .i64 0, .int .i64 0, .bool false]) O2 (by kernel_rfl)) ?_
  rintro v9 c8 l8 ⟨b6, rfl, O7⟩
  refine wln ?_
  refine sr ?_
  refine va (.int .i64 p1) ?_
  refine va (.int .i64 (imin p1 2)) ?_
  refine va (.int .i64 (imax 1 (imin p1 2))) ?_
  refine va (.int .i64 p2) ?_
  obtain ⟨x_8, h10, H⟩ := bs H
  refine WL.callP rfl (by kernel_rfl) (c_cursor_side O7 p2 h10) ?_
  rintro v16 c15 l15 ⟨O12, rfl⟩
  refine va (.int .i64 (imax 1 (imin p1 2))) ?_
  refine va (.int .i64 x_8) ?_
  refine wln ?_
  refine W.seq ?_
  refine sr ?_
  refine va (.pointer (some ⟨b1, 0 + 1, none⟩)) ?_
  refine WL.val0 (v := .int .i64 p0.Col) rfl (rx (by kernel_rfl) (run_load1 Tryd.underlying3 rfl ((fun j u hu => (m3 j u hu).mono (l8.trans l15)) 1 _ rfl))) ?_
  refine va (.int .i64 x_8) ?_
  refine va (.int .i64 (imax 1 (imin p1 2))) ?_
  refine va (.int .i64 (w64 (x_8 - (imax 1 (imin p1 2))))) ?_
  refine va (.bool (decide (p0.Col < (w64 (x_8 - (imax 1 (imin p1 2))))))) ?_
  refine wln ?_
  refine W.cond (t := decide (p0.Col < (w64 (x_8 - (imax 1 (imin p1 2)))))) (by kernel_rfl) (fun h17 => ?_) (fun h17 => ?_)
  · have H := it h17 H
    refine sr ?_
    refine va (.pointer (some ⟨b1, 0, none⟩)) ?_
    refine WL.val0 (v := .int .i64 p0.Row) rfl (rx (by kernel_rfl) (run_load1 Tryd.underlying3 rfl ((fun j u hu => (m3 j u hu).mono (l8.trans l15)) 0 _ rfl))) ?_
    refine va (.pointer (some ⟨b1, 0 + 1, none⟩)) ?_
    refine WL.val0 (v := .int .i64 p0.Col) rfl (rx (by kernel_rfl) (run_load1 Tryd.underlying3 rfl ((fun j u hu => (m3 j u hu).mono (l8.trans l15)) 1 _ rfl))) ?_
    refine va (.int .i64 (imax 1 (imin p1 2))) ?_
    refine va (.int .i64 (w64 (p0.Col + (imax 1 (imin p1 2))))) ?_
    refine va (.agg #[.int .i64 p0.Row, .int .i64 (w64 (p0.Col + (imax 1 (imin p1 2)))), .bool false]) ?_
    refine WL.memD rfl (Own.st (T := 120) (j := 0) (us := [.int .i64 p0.Row, .int .i64 (w64 (p0.Col + (imax 1 (imin p1 2)))), .bool false]) (nw := [.int .i64 p0.Row, .int .i64 (w64 (p0.Col + (imax 1 (imin p1 2)))), .bool false]) (v := .agg #[.int .i64 p0.Row, .int .i64 (w64 (p0.Col + (imax 1 (imin p1 2)))), .bool false]) 0 O12 (by kernel_rfl) rfl rfl rfl rfl (by kernel_rfl) ⟨rfl, rfl, rfl, trivial⟩ rfl rfl) ?_
    rintro c19 l19 O18
    refine wln ?_
    refine W.ret ?_
    refine thr ?_
    obtain rfl := Option.some.inj H
    have O20 := O18.selD 1 [] (by kernel_rfl) (by kernel_rfl)
    exact retC (c := c19) (vs := [.int .i64 p0.Row, .int .i64 (w64 (p0.Col + (imax 1 (imin p1 2)))), .bool false]) rfl (by kernel_rfl) (by kernel_rfl) (by kernel_rfl) (O18.on 0 rfl _ rfl).1 ⟨_, c19, rfl, rfl, (l4.trans (l8.trans (l15.trans l19))), O20, rfl⟩
  · have H := ie h17 H
    refine W.skip ?_
    refine nrm ?_
    refine sr ?_
    refine va (.pointer (some ⟨b1, 0, none⟩)) ?_
    refine WL.val0 (v := .int .i64 p0.Row) rfl (rx (by kernel_rfl) (run_load1 Tryd.underlying3 rfl ((fun j u hu => (m3 j u hu).mono (l8.trans l15)) 0 _ rfl))) ?_
    refine va (.int .i64 x_8) ?_
    refine va (.int .i64 (w64 (x_8 - 1))) ?_
    refine va (.bool p3) ?_
    refine va (.agg #[.int .i64 p0.Row, .int .i64 (w64 (x_8 - 1)), .bool p3]) ?_
    refine WL.memD rfl (Own.st (T := 120) (j := 0) (us := [.int .i64 p0.Row, .int .i64 (w64 (x_8 - 1)), .bool p3]) (nw := [.int .i64 p0.Row, .int .i64 (w64 (x_8 - 1)), .bool p3]) (v := .agg #[.int .i64 p0.Row, .int .i64 (w64 (x_8 - 1)), .bool p3]) 0 O12 (by kernel_rfl) rfl rfl rfl rfl (by kernel_rfl) ⟨rfl, rfl, rfl, trivial⟩ rfl rfl) ?_
    rintro c22 l22 O21
    refine wln ?_
    refine W.ret ?_
    obtain rfl := Option.some.inj H
    have O23 := O21.selD 1 [] (by kernel_rfl) (by kernel_rfl)
    exact retC (c := c22) (vs := [.int .i64 p0.Row, .int .i64 (w64 (x_8 - 1)), .bool p3]) rfl (by kernel_rfl) (by kernel_rfl) (by kernel_rfl) (O21.on 0 rfl _ rfl).1 ⟨_, c22, rfl, rfl, (l4.trans (l8.trans (l15.trans l22))), O23, rfl⟩

def f_place_Pen_Put (sg : Sto) (p0 : Option Nat) (p1 : Int) (p2 : List Int) : Option (Sto × G_api_Cursor) :=
  (f_place_Pen_ready sg p0).bind fun x_4 =>
  if (!x_4.2) = true then
  some (x_4.1, (⟨0, 0, false⟩ : G_api_Cursor))
  else
  ((p0).bind fun k_18 =>
  (x_4.1.place_Pen[k_18]?).bind fun o_20 =>
  (f_grid_Grid_Wide x_4.1 o_20.G).bind fun x_21 =>
  if (decide ((imax 1 (imin p1 2)) > x_21)) = true then
  (some (1, ([65533] : List Int)) : Option (Int × (List Int)))
  else
  (some ((imax 1 (imin p1 2)), p2) : Option (Int × (List Int)))).bind fun z_15 =>
  (f_place_Pen_room x_4.1 p0 z_15.1).bind fun x_30 =>
  (p0).bind fun k_33 =>
  (x_30.place_Pen[k_33]?).bind fun o_36 =>
  (f_grid_Grid_Row x_30 o_36.G o_36.At.Row).bind fun x_56 =>
  (f_mark_Put x_30 x_56 o_36.At.Col z_15.1 z_15.2).bind fun x_57 =>
  (x_57.1.place_Pen[k_33]?).bind fun o_65 =>
  (f_grid_Grid_Wide x_57.1 o_65.G).bind fun x_70 =>
  (f_cursor_After (⟨o_36.At.Row, o_36.At.Col, false⟩ : G_api_Cursor) z_15.1 x_70 o_65.Auto).bind fun x_71 =>
  (x_57.1.set_place_Pen k_33 (⟨o_65.G, x_71, o_65.Auto⟩ : G_place_Pen)).bind fun s_74001 =>
  some (s_74001, (⟨o_36.At.Row, o_36.At.Col, false⟩ : G_api_Cursor))
theorem c_place_Pen_Put {c0 : Cx} {G : Gm} {F : List En} {sg : Sto} {v1 : Value} {v3 : Value} (O0 : Own c0 G F) (R0 : Rel c0 sg G) (hG : Gl [0, 1] c0) (p0 : Option Nat) (p1 : Int) (p2 : List Int) {r : Sto × G_api_Cursor} (h2 : Pt 2 c0 v1 p0) (h4 : Sl (RI .i32) c0 v3 p2) (H : f_place_Pen_Put sg p0 p1 p2 = some r) :
    Calls Tryd.prog 75 #[v1, .int .i64 p1, v3] c0.w (Post c0 fun c v => ∃ G_ : Gm, Own c G_ (F) ∧ Rel c r.1 G_ ∧ v = .agg #[.int .i64 r.2.Row, .int .i64 r.2.Col, .bool r.2.Pending]) := by
  unfold f_place_Pen_Put at H
  refine enter (l := [v1, .int .i64 p1, v3]) Tryd.func75 rfl rfl rfl ?_
  refine sr ?_
  refine WL.mem rfl (Own.al (T := 120) (vs := [.int .i64 0, .int .i64 0, .bool false]) O0 (by kernel_rfl)) ?_
  rintro v8 c7 l7 ⟨b5, rfl, O6⟩
  refine wln ?_
  refine W.seq ?_
  refine sr ?_
  refine va (v1) ?_
  obtain ⟨x_4, h9, H⟩ := bs H
  refine WL.callP rfl (by kernel_rfl) (c_place_Pen_ready O6 (R0.mono l7) p0 (h2.mono l7) h9) ?_
  rintro v15 c14 l14 ⟨G10, O11, R12, rfl⟩
  refine va (.bool (!x_4.2)) ?_
  refine wln ?_
  refine W.cond (t := !x_4.2) (by kernel_rfl) (fun h16 => ?_) (fun h16 => ?_)
  · have H := it h16 H
    refine sr ?_
    refine va (.agg #[.int .i64 0, .int .i64 0, .bool false]) ?_
    refine WL.memD rfl (Own.st (T := 120) (j := 0) (us := [.int .i64 0, .int .i64 0, .bool false]) (nw := [.int .i64 0, .int .i64 0, .bool false]) (v := .agg #[.int .i64 0, .int .i64 0, .bool false]) 0 O11 (by kernel_rfl) rfl rfl rfl rfl (by kernel_rfl) ⟨rfl, rfl, rfl, trivial⟩ rfl rfl) ?_
    rintro c18 l18 O17
    refine wln ?_
    refine W.ret ?_
    refine thr ?_
    obtain rfl := Option.some.inj H
    have O19 := O17.selD 1 [] (by kernel_rfl) (by kernel_rfl)
    exact retC (c := c18) (vs := [.int .i64 0, .int .i64 0, .bool false]) rfl (by kernel_rfl) (by kernel_rfl) (by kernel_rfl) (O17.on 0 rfl _ rfl).1 ⟨_, c18, rfl, rfl, (l7.trans (l14.trans l18)), G10, O19, (R12.mono l18), rfl⟩
  · have H := ie h16 H
    refine W.skip ?_
    refine nrm ?_
    refine sr ?_
    refine va (.int .i64 p1) ?_
    refine va (.int .i64 (imin p1 2)) ?_
    refine va (.int .i64 (imax 1 (imin p1 2))) ?_
    refine va (.int .i64 (imax 1 (imin p1 2))) ?_
    refine wln ?_
    obtain ⟨z_15, H20, H21⟩ := bs H
    refine W.seqJ (fun e w => ∃ (c : Cx) (g : Nat → Value) (v22 : Value), w = c.w ∧ c14.le c ∧ Own c G10 (⟨.pointer (some ⟨b5, 0, none⟩), 120, [.int .i64 0, .int .i64 0, .bool false], 0⟩ :: F) ∧ e = ups g [(0, v1), (1, .int .i64 z_15.1), (2, v22), (6, .pointer (some ⟨b5, 0, none⟩))] ∧ Sl (RI .i32) c v22 z_15.2) ?_ ?_
    · skip
      refine sr ?_
      refine va (.int .i64 (imax 1 (imin p1 2))) ?_
      refine va (v1) ?_
      obtain ⟨k_18, h25, H20⟩ := bs H20
      obtain ⟨b23, rfl, h24⟩ := ((h2.mono (l7.trans l14))).get h25
      refine va (.pointer (some ⟨b23, 0, none⟩)) ?_
      refine va (.pointer (some ⟨b23, 0, none⟩)) ?_
      obtain ⟨o_20, h26, H20⟩ := bs H20
      obtain ⟨v27, h29, h28⟩ := Rel.open_place_Pen R12 h26 h24
      refine WL.val0 (v := v27) rfl (rx (by kernel_rfl) (ldE1 (j := 0) Tryd.underlying51 rfl (O11.gon h29 0 rfl) rfl rfl)) ?_
      obtain ⟨x_21, h30, H20⟩ := bs H20
      refine WL.callP rfl (by kernel_rfl) (c_grid_Grid_Wide O11 R12 o_20.G h28 h30) ?_
      rintro v36 c35 l35 ⟨O32, rfl⟩
      refine va (.bool (decide ((imax 1 (imin p1 2)) > x_21))) ?_
      refine wln ?_
      refine W.cond (t := decide ((imax 1 (imin p1 2)) > x_21)) (by kernel_rfl) (fun h37 => ?_) (fun h37 => ?_)
      · have H20 := it h37 H20
        refine W.region ?_
        refine WL.mem rfl (Own.sl (R := (RI .i32)) (E := 21) (ls := [[.int .i32 65533]]) (vs := [.int .i32 65533]) (xs := ([65533] : List Int)) true O32 (Nat.succ_pos _) rfl ⟨rfl, trivial⟩ (by kernel_rfl) (by kernel_rfl)) ?_
        rintro v42 c41 l41 ⟨u39, O38, h40⟩
        refine va (.int .i64 1) ?_
        refine va (v42) ?_
        refine wln ?_
        obtain rfl := Option.some.inj H20
        obtain ⟨c45, h46, l45, O43, h44⟩ := O38.frz 0 rfl h40
        have O47 := O43.selD 2 [1] (by kernel_rfl) (by kernel_rfl)
        exact ⟨c45, _, v42, h46.symm, (l35.trans (l41.trans l45)), O47, ups_self ⟨rfl, rfl, rfl, rfl, trivial⟩, h44⟩
      · have H20 := ie h37 H20
        refine W.skip ?_
        refine nrm ?_
        obtain rfl := Option.some.inj H20
        exact ⟨c35, _, v3, rfl, l35, O32, ups_self ⟨rfl, rfl, rfl, rfl, trivial⟩, (h4.mono (l7.trans (l14.trans l35)))⟩
    · skip
      rintro e_ w_ ⟨c48, g49, v22, rfl, l48, O50, rfl, h51⟩
      refine sr ?_
      refine va (v1) ?_
      refine va (.int .i64 z_15.1) ?_
      obtain ⟨x_30, h55, H21⟩ := bs H21
      refine WL.callP rfl (by kernel_rfl) (c_place_Pen_room O50 (R12.mono l48) ((hG.mono (l7.trans (l14.trans l48))).le (by decide)) p0 z_15.1 (h2.mono (l7.trans (l14.trans l48))) h55) ?_
      rintro v61 c60 l60 ⟨G56, O57, R58, rfl⟩
      refine wln ?_
      refine W.seq ?_
      refine W.regionD [] (Kp G56 []) O57 (by kernel_rfl) ?_
      intro c62 l62 O63
      have p64 : Kp G56 [] c62 := (Kp.nil O63)
      refine ta 0 (v1) ?_
      obtain ⟨k_33, h67, H21⟩ := bs H21
      obtain ⟨b65, rfl, h66⟩ := ((h2.mono (l7.trans (l14.trans (l48.trans (l60.trans l62)))))).get h67
      refine ta 1 (.pointer (some ⟨b65, 0, none⟩)) ?_
      refine ta 2 (.pointer (some ⟨b65, 1, none⟩)) ?_
      refine ta 3 (.pointer (some ⟨b65, 1, none⟩)) ?_
      obtain ⟨o_36, h68, H21⟩ := bs H21
      obtain ⟨v69, h71, h70⟩ := Rel.open_place_Pen (R58.mono l62) h68 h66
      refine AC.takeK 4 (.int .i64 o_36.At.Row) p64 rfl (by kernel_rfl) (by kernel_rfl) (by kernel_rfl) (fun c' hle hk => (rx (by kernel_rfl) (ldE1 (j := 1) Tryd.underlying3 rfl (hk.gon h71 0 rfl) rfl rfl))) ?_
      refine ta 5 (.pointer (some ⟨b65, 0, none⟩)) ?_
      refine ta 6 (.pointer (some ⟨b65, 0, none⟩)) ?_
      refine ta 7 (.pointer (some ⟨b65, 1, none⟩)) ?_
      refine ta 8 (.pointer (some ⟨b65, 2, none⟩)) ?_
      refine AC.takeK 9 (.int .i64 o_36.At.Col) p64 rfl (by kernel_rfl) (by kernel_rfl) (by kernel_rfl) (fun c' hle hk => (rx (by kernel_rfl) (ldE1 (j := 2) Tryd.underlying3 rfl (hk.gon h71 0 rfl) rfl rfl))) ?_
      refine ta 10 (.agg #[.int .i64 o_36.At.Row, .int .i64 o_36.At.Col, .bool false]) ?_
      refine AC.one 11 (by kernel_rfl) (Go1.mem 11 rfl (by kernel_rfl) (by kernel_rfl) (Own.al (T := 120) (vs := [.int .i64 0, .int .i64 0, .bool false]) O63 (by kernel_rfl)) ?_)
      rintro v75 c74 l74 ⟨b72, rfl, O73⟩
      have p76 : Kp G56 [] c74 := (Kp.nil O73)
      refine ⟨.inr p76, ?_⟩
      refine AC.one 12 (by kernel_rfl) (Go1.memD 12 rfl (by kernel_rfl) (by kernel_rfl) (Own.st (T := 120) (j := 0) (us := [.int .i64 o_36.At.Row, .int .i64 o_36.At.Col, .bool false]) (nw := [.int .i64 o_36.At.Row, .int .i64 o_36.At.Col, .bool false]) (v := .agg #[.int .i64 o_36.At.Row, .int .i64 o_36.At.Col, .bool false]) 0 O73 (by kernel_rfl) rfl rfl rfl rfl (by kernel_rfl) ⟨rfl, rfl, rfl, trivial⟩ rfl rfl) ?_)
      rintro c78 l78 O77
      have p79 : Kp G56 [] c78 := (Kp.nil O77)
      refine ⟨.inr p79, ?_⟩
      refine AC.done (by kernel_rfl) ?_
      refine nrm ?_
      refine W.seq ?_
      refine W.regionD [11] (Kp G56 [⟨.pointer (some ⟨b72, 0, none⟩), 120, [.int .i64 o_36.At.Row, .int .i64 o_36.At.Col, .bool false], 0⟩]) O77 (by kernel_rfl) ?_
      intro c80 l80 O81
      have p82 : Kp G56 [⟨.pointer (some ⟨b72, 0, none⟩), 120, [.int .i64 o_36.At.Row, .int .i64 o_36.At.Col, .bool false], 0⟩] c80 := (Kp.cons (O81.on 0 rfl) (Kp.nil O81))
      refine ta 0 (.pointer (some ⟨b65, 0, none⟩)) ?_
      refine ta 1 (.pointer (some ⟨b65, 0, none⟩)) ?_
      refine ta 2 (.pointer (some ⟨b65, 0, none⟩)) ?_
      refine AC.takeK 3 (v69) p82 rfl (by kernel_rfl) (by kernel_rfl) (by kernel_rfl) (fun c' hle hk => (rx (by kernel_rfl) (ldE1 (j := 0) Tryd.underlying51 rfl (hk.gon h71 0 rfl) rfl rfl))) ?_
      refine ta 4 (.pointer (some ⟨b72, 0, none⟩)) ?_
      refine AC.takeK 5 (.int .i64 o_36.At.Row) p82 rfl (by kernel_rfl) (by kernel_rfl) (by kernel_rfl) (fun c' hle hk => (rx (by kernel_rfl) (ldE1 (j := 0) Tryd.underlying3 rfl (hk.on 0 rfl) rfl rfl))) ?_
      refine ta 7 (.pointer (some ⟨b72, 1, none⟩)) ?_
      refine AC.takeK 8 (.int .i64 o_36.At.Col) p82 rfl (by kernel_rfl) (by kernel_rfl) (by kernel_rfl) (fun c' hle hk => (rx (by kernel_rfl) (ldE1 (j := 1) Tryd.underlying3 rfl (hk.on 0 rfl) rfl rfl))) ?_
      refine ta 9 (.int .i64 z_15.1) ?_
      refine ta 10 (v22) ?_
      obtain ⟨x_56, h83, H21⟩ := bs H21
      refine AC.one 6 (by kernel_rfl) (Go1.callP 6 rfl (by kernel_rfl) (by kernel_rfl) (by kernel_rfl) (c_grid_Grid_Row O81 (R58.mono (l62.trans (l74.trans (l78.trans l80)))) o_36.G o_36.At.Row (h70.mono (l74.trans (l78.trans l80))) h83) ?_)
      rintro v84 c90 l90 ⟨_, O87, rfl, h85⟩
      have p92 : Kp G56 [⟨.pointer (some ⟨b72, 0, none⟩), 120, [.int .i64 o_36.At.Row, .int .i64 o_36.At.Col, .bool false], 0⟩] c90 := (Kp.cons (O87.on 0 rfl) (Kp.nil O87))
      refine ⟨.inr p92, ?_⟩
      obtain ⟨x_57, h93, H21⟩ := bs H21
      refine AC.one 11 (by kernel_rfl) (Go1.callP 11 rfl (by kernel_rfl) (by kernel_rfl) (by kernel_rfl) (c_mark_Put O87 (R58.mono (l62.trans (l74.trans (l78.trans (l80.trans l90))))) ((hG.mono (l7.trans (l14.trans (l48.trans (l60.trans (l62.trans (l74.trans (l78.trans (l80.trans l90))))))))).le (by decide)) x_56 o_36.At.Col z_15.1 z_15.2 h85 (h51.mono (l60.trans (l62.trans (l74.trans (l78.trans (l80.trans l90)))))) h93) ?_)
      rintro v94 c100 l100 ⟨_, G96, O97, R98, rfl, h95⟩
      refine ⟨.inl rfl, ?_⟩
      refine AC.done (by kernel_rfl) ?_
      refine nrm ?_
      refine W.seq ?_
      refine W.regionD [15] (Kp G96 [⟨.pointer (some ⟨b72, 0, none⟩), 120, [.int .i64 o_36.At.Row, .int .i64 o_36.At.Col, .bool false], 0⟩]) O97 (by kernel_rfl) ?_
      intro c102 l102 O103
      have p104 : Kp G96 [⟨.pointer (some ⟨b72, 0, none⟩), 120, [.int .i64 o_36.At.Row, .int .i64 o_36.At.Col, .bool false], 0⟩] c102 := (Kp.cons (O103.on 0 rfl) (Kp.nil O103))
      refine ta 0 (.pointer (some ⟨b65, 0, none⟩)) ?_
      refine AC.takeK 1 (.agg #[.int .i64 o_36.At.Row, .int .i64 o_36.At.Col, .bool false]) p104 rfl (by kernel_rfl) (by kernel_rfl) (by kernel_rfl) (fun c' hle hk => (rx (by kernel_rfl) (ldEN (T := 120) (j := 0) (l := [.int .i64 o_36.At.Row, .int .i64 o_36.At.Col, .bool false]) (by kernel_rfl) (by kernel_rfl) (hk.on 0 rfl) rfl rfl))) ?_
      refine ta 2 (.int .i64 z_15.1) ?_
      refine ta 3 (.pointer (some ⟨b65, 0, none⟩)) ?_
      refine ta 4 (.pointer (some ⟨b65, 0, none⟩)) ?_
      refine ta 5 (.pointer (some ⟨b65, 0, none⟩)) ?_
      obtain ⟨o_65, h105, H21⟩ := bs H21
      obtain ⟨v106, h108, h107⟩ := Rel.open_place_Pen (R98.mono l102) h105 ((l74.trans (l78.trans (l80.trans (l90.trans (l100.trans l102))))).t _ _ _ h66)
      refine AC.takeK 6 (v106) p104 rfl (by kernel_rfl) (by kernel_rfl) (by kernel_rfl) (fun c' hle hk => (rx (by kernel_rfl) (ldE1 (j := 0) Tryd.underlying51 rfl (hk.gon h108 0 rfl) rfl rfl))) ?_
      refine ta 8 (.pointer (some ⟨b65, 0, none⟩)) ?_
      refine ta 9 (.pointer (some ⟨b65, 0, none⟩)) ?_
      refine ta 10 (.pointer (some ⟨b65, 4, none⟩)) ?_
      refine AC.takeK 11 (.bool o_65.Auto) p104 rfl (by kernel_rfl) (by kernel_rfl) (by kernel_rfl) (fun c' hle hk => (rx (by kernel_rfl) (ldE1 (j := 4) Tryd.underlying4 rfl (hk.gon h108 0 rfl) rfl rfl))) ?_
      obtain ⟨x_70, h109, H21⟩ := bs H21
      refine AC.one 7 (by kernel_rfl) (Go1.callP 7 rfl (by kernel_rfl) (by kernel_rfl) (by kernel_rfl) (c_grid_Grid_Wide O103 (R98.mono l102) o_65.G h107 h109) ?_)
      rintro v115 c114 l114 ⟨O111, rfl⟩
      have p116 : Kp G96 [⟨.pointer (some ⟨b72, 0, none⟩), 120, [.int .i64 o_36.At.Row, .int .i64 o_36.At.Col, .bool false], 0⟩] c114 := (Kp.cons (O111.on 0 rfl) (Kp.nil O111))
      refine ⟨.inr p116, ?_⟩
      obtain ⟨x_71, h117, H21⟩ := bs H21
      refine AC.one 12 (by kernel_rfl) (Go1.callP 12 rfl (by kernel_rfl) (by kernel_rfl) (by kernel_rfl) (c_cursor_After O111 (⟨o_36.At.Row, o_36.At.Col, false⟩ : G_api_Cursor) z_15.1 x_70 o_65.Auto h117) ?_)
      rintro v123 c122 l122 ⟨O119, rfl⟩
      have p124 : Kp G96 [⟨.pointer (some ⟨b72, 0, none⟩), 120, [.int .i64 o_36.At.Row, .int .i64 o_36.At.Col, .bool false], 0⟩] c122 := (Kp.cons (O119.on 0 rfl) (Kp.nil O119))
      refine ⟨.inr p124, ?_⟩
      refine ta 13 (.pointer (some ⟨b65, 0, none⟩)) ?_
      refine ta 14 (.pointer (some ⟨b65, 1, none⟩)) ?_
      refine AC.one 15 (by kernel_rfl) (Go1.memD 15 rfl (by kernel_rfl) (by kernel_rfl) (Own.stG (T := 120) (j := 1) (us := [.int .i64 x_71.Row, .int .i64 x_71.Col, .bool x_71.Pending]) (nw := [v106, .int .i64 x_71.Row, .int .i64 x_71.Col, .bool x_71.Pending, .bool o_65.Auto]) (v := .agg #[.int .i64 x_71.Row, .int .i64 x_71.Col, .bool x_71.Pending]) 0 O119 (by kernel_rfl) h108 rfl rfl rfl rfl (by kernel_rfl) ⟨rfl, rfl, rfl, trivial⟩ rfl rfl) ?_)
      rintro c126 l126 O125
      obtain ⟨s_74001, h131, H21⟩ := bs H21
      obtain ⟨G127, O128, R129, h130, a132⟩ := Rel.put_place_Pen O125 (R98.mono (l102.trans (l114.trans (l122.trans l126)))) (E' := [⟨.pointer (some ⟨b65, 0, none⟩), 131, [v106, .int .i64 x_71.Row, .int .i64 x_71.Col, .bool x_71.Pending, .bool o_65.Auto], 0⟩]) h131 ⟨b65, v106, ((l74.trans (l78.trans (l80.trans (l90.trans (l100.trans (l102.trans (l114.trans (l122.trans l126)))))))).t _ _ _ h66), rfl, (h107.mono (l114.trans (l122.trans l126)))⟩
      refine ⟨.inl rfl, ?_⟩
      refine AC.done (by kernel_rfl) ?_
      refine nrm ?_
      refine sr ?_
      refine WL.val0 (v := .agg #[.int .i64 o_36.At.Row, .int .i64 o_36.At.Col, .bool false]) rfl (rx (by kernel_rfl) (ldEN (T := 120) (j := 0) (l := [.int .i64 o_36.At.Row, .int .i64 o_36.At.Col, .bool false]) (by kernel_rfl) (by kernel_rfl) (O128.on 0 rfl) rfl rfl)) ?_
      refine WL.memD rfl (Own.st (T := 120) (j := 0) (us := [.int .i64 o_36.At.Row, .int .i64 o_36.At.Col, .bool false]) (nw := [.int .i64 o_36.At.Row, .int .i64 o_36.At.Col, .bool false]) (v := .agg #[.int .i64 o_36.At.Row, .int .i64 o_36.At.Col, .bool false]) 1 O128 (by kernel_rfl) rfl rfl rfl rfl (by kernel_rfl) ⟨rfl, rfl, rfl, trivial⟩ rfl rfl) ?_
      rintro c134 l134 O133
      refine wln ?_
      refine W.ret ?_
      obtain rfl := Option.some.inj H21
      have O135 := O133.selD 2 [] (by kernel_rfl) (by kernel_rfl)
      exact retC (c := c134) (vs := [.int .i64 o_36.At.Row, .int .i64 o_36.At.Col, .bool false]) rfl (by kernel_rfl) (by kernel_rfl) (by kernel_rfl) (O133.on 1 rfl _ rfl).1 ⟨_, c134, rfl, rfl, (l7.trans (l14.trans (l48.trans (l60.trans (l62.trans (l74.trans (l78.trans (l80.trans (l90.trans (l100.trans (l102.trans (l114.trans (l122.trans (l126.trans l134)))))))))))))), G127, O135, (R129.mono l134), rfl⟩

def f_linotypelaw34_works (sg : Sto) : Option (Sto × Bool) :=
  (f_place_New sg 3 2).bind fun x_3 =>
  if x_3.2.isNone = true then
  some (x_3.1, false)
  else
  (f_place_Pen_Put x_3.1 x_3.2 1 ([97] : List Int)).bind fun x_13 =>
  (f_place_Pen_Put x_13.1 x_3.2 1 ([98] : List Int)).bind fun x_17 =>
  (f_place_Pen_Put x_17.1 x_3.2 2 ([19968] : List Int)).bind fun x_21 =>
  (andE (x_21.2.Row == 1 && (x_21.2.Col == 0 && (x_21.2.Pending == false && true))) ((x_3.2).bind fun k_31 =>
  (x_21.1.place_Pen[k_31]?).bind fun o_33 =>
  some (o_33.At.Row == 1 && (o_33.At.Col == 2 && (o_33.At.Pending == false && true))))).bind fun d_28 =>
  (andE d_28 ((x_3.2).bind fun k_39 =>
  (x_21.1.place_Pen[k_39]?).bind fun o_41 =>
  (f_grid_Grid_Row x_21.1 o_41.G 0).bind fun x_42 =>
  (f_row_Row_Wrap x_21.1 x_42).bind fun x_43 =>
  some x_43)).bind fun d_36 =>
  some (x_21.1, d_36)
theorem c_linotypelaw34_works {c0 : Cx} {G : Gm} {F : List En} {sg : Sto} (O0 : Own c0 G F) (R0 : Rel c0 sg G) (hG : Gl [0, 1] c0) {r : Sto × Bool} (H : f_linotypelaw34_works sg = some r) :
    Calls Tryd.prog 72 #[] c0.w (Post c0 fun c v => ∃ G_ : Gm, Own c G_ (F) ∧ Rel c r.1 G_ ∧ v = .bool r.2) := by
  unfold f_linotypelaw34_works at H
  refine enter (l := []) Tryd.func72 rfl rfl rfl ?_
  refine sr ?_
  refine va (.bool false) ?_
  refine wln ?_
  refine sr ?_
  obtain ⟨x_3, h1, H⟩ := bs H
  refine WL.callP rfl (by kernel_rfl) (c_place_New O0 R0 3 2 h1) ?_
  rintro v2 c8 l8 ⟨_, G4, O5, R6, a7, rfl, h3⟩
  refine va (v2) ?_
  refine wln ?_
  refine W.seq ?_
  refine sr ?_
  refine va (v2) ?_
  refine WL.val0 (v := .bool x_3.2.isNone) rfl (by rcases (h3).cs with ⟨h1_, h2_⟩ | ⟨b_, h1_, h2_⟩ <;> (subst h1_; rw [h2_]; kernel_rfl)) ?_
  refine wln ?_
  refine W.cond (t := x_3.2.isNone) (by kernel_rfl) (fun h10 => ?_) (fun h10 => ?_)
  · have H := it h10 H
    refine sr ?_
    refine va (.bool false) ?_
    refine wln ?_
    refine W.ret ?_
    refine thr ?_
    obtain rfl := Option.some.inj H
    exact ret1 (v := .bool false) rfl (by kernel_rfl) ⟨_, c8, rfl, rfl, l8, G4, O5, R6, rfl⟩
  · have H := ie h10 H
    refine W.skip ?_
    refine nrm ?_
    refine sr ?_
    refine va (v2) ?_
    refine WL.mem rfl (Own.sl (R := (RI .i32)) (E := 21) (ls := [[.int .i32 97]]) (vs := [.int .i32 97]) (xs := ([97] : List Int)) true O5 (Nat.succ_pos _) rfl ⟨rfl, trivial⟩ (by kernel_rfl) (by kernel_rfl)) ?_
    rintro v15 c14 l14 ⟨u12, O11, h13⟩
    obtain ⟨c18, h19, l18, O16, h17⟩ := O11.frz 0 rfl h13
    refine WL.gh h19 ?_
    obtain ⟨x_13, h20, H⟩ := bs H
    refine WL.callP rfl (by kernel_rfl) (c_place_Pen_Put O16 (R6.mono (l14.trans l18)) ((hG.mono (l8.trans (l14.trans l18))).le (by decide)) x_3.2 1 ([97] : List Int) (h3.mono (l14.trans l18)) h17 h20) ?_
    rintro v26 c25 l25 ⟨G21, O22, R23, rfl⟩
    refine wln ?_
    refine sr ?_
    refine va (v2) ?_
    refine WL.mem rfl (Own.sl (R := (RI .i32)) (E := 21) (ls := [[.int .i32 98]]) (vs := [.int .i32 98]) (xs := ([98] : List Int)) true O22 (Nat.succ_pos _) rfl ⟨rfl, trivial⟩ (by kernel_rfl) (by kernel_rfl)) ?_
    rintro v31 c30 l30 ⟨u28, O27, h29⟩
    obtain ⟨c34, h35, l34, O32, h33⟩ := O27.frz 0 rfl h29
    refine WL.gh h35 ?_
    obtain ⟨x_17, h36, H⟩ := bs H
    refine WL.callP rfl (by kernel_rfl) (c_place_Pen_Put O32 (R23.mono (l30.trans l34)) ((hG.mono (l8.trans (l14.trans (l18.trans (l25.trans (l30.trans l34)))))).le (by decide)) x_3.2 1 ([98] : List Int) (h3.mono (l14.trans (l18.trans (l25.trans (l30.trans l34))))) h33 h36) ?_
    rintro v42 c41 l41 ⟨G37, O38, R39, rfl⟩
    refine wln ?_
    refine sr ?_
    refine va (v2) ?_
    refine WL.mem rfl (Own.sl (R := (RI .i32)) (E := 21) (ls := [[.int .i32 19968]]) (vs := [.int .i32 19968]) (xs := ([19968] : List Int)) true O38 (Nat.succ_pos _) rfl ⟨rfl, trivial⟩ (by kernel_rfl) (by kernel_rfl)) ?_
    rintro v47 c46 l46 ⟨u44, O43, h45⟩
    obtain ⟨c50, h51, l50, O48, h49⟩ := O43.frz 0 rfl h45
    refine WL.gh h51 ?_
    obtain ⟨x_21, h52, H⟩ := bs H
    refine WL.callP rfl (by kernel_rfl) (c_place_Pen_Put O48 (R39.mono (l46.trans l50)) ((hG.mono (l8.trans (l14.trans (l18.trans (l25.trans (l30.trans (l34.trans (l41.trans (l46.trans l50))))))))).le (by decide)) x_3.2 2 ([19968] : List Int) (h3.mono (l14.trans (l18.trans (l25.trans (l30.trans (l34.trans (l41.trans (l46.trans l50)))))))) h49 h52) ?_
    rintro v58 c57 l57 ⟨G53, O54, R55, rfl⟩
    refine WL.mem rfl (Own.al (T := 120) (vs := [.int .i64 0, .int .i64 0, .bool false]) O54 (by kernel_rfl)) ?_
    rintro v62 c61 l61 ⟨b59, rfl, O60⟩
    refine WL.memD rfl (Own.st (T := 120) (j := 0) (us := [.int .i64 x_21.2.Row, .int .i64 x_21.2.Col, .bool x_21.2.Pending]) (nw := [.int .i64 x_21.2.Row, .int .i64 x_21.2.Col, .bool x_21.2.Pending]) (v := .agg #[.int .i64 x_21.2.Row, .int .i64 x_21.2.Col, .bool x_21.2.Pending]) 0 O60 (by kernel_rfl) rfl rfl rfl rfl (by kernel_rfl) ⟨rfl, rfl, rfl, trivial⟩ rfl rfl) ?_
    rintro c64 l64 O63
    refine wln ?_
    refine W.seq ?_
    obtain ⟨d_28, h65, H⟩ := bs H
    obtain ⟨d_36, h66, H⟩ := bs H
    refine W.join (fun e w => ∃ (c : Cx) (g : Nat → Value), w = c.w ∧ c64.le c ∧ Own c G53 (⟨.pointer (some ⟨b59, 0, none⟩), 120, [.int .i64 x_21.2.Row, .int .i64 x_21.2.Col, .bool x_21.2.Pending], 0⟩ :: es false (RI .i32) v47 21 u44 ([19968] : List Int) :: es false (RI .i32) v31 21 u28 ([98] : List Int) :: es false (RI .i32) v15 21 u12 ([97] : List Int) :: F) ∧ e = ups g [(0, .bool d_36)]) ?_ ?_
    · clear H
      refine W.region ?_
      refine WL.val0 (v := .agg #[.int .i64 x_21.2.Row, .int .i64 x_21.2.Col, .bool x_21.2.Pending]) rfl (rx (by kernel_rfl) (ldEN (T := 120) (j := 0) (l := [.int .i64 x_21.2.Row, .int .i64 x_21.2.Col, .bool x_21.2.Pending]) (by kernel_rfl) (by kernel_rfl) (O63.on 0 rfl) rfl rfl)) ?_
      refine va (.agg #[.int .i64 1, .int .i64 0, .bool false]) ?_
      refine WL.val0 (v := .bool (x_21.2.Row == 1 && (x_21.2.Col == 0 && (x_21.2.Pending == false && true)))) rfl (run_eqlA (T := 120) (xs := #[.int .i64 x_21.2.Row, .int .i64 x_21.2.Col, .bool x_21.2.Pending]) (ys := #[.int .i64 1, .int .i64 0, .bool false]) (r := (x_21.2.Row == 1 && (x_21.2.Col == 0 && (x_21.2.Pending == false && true)))) Tryd.underlying120 (by kernel_rfl) (by kernel_rfl) (EqP.int (by kernel_rfl) Tryd.underlying3 rfl rfl (EqP.int (by kernel_rfl) Tryd.underlying3 rfl rfl (EqP.bool (by kernel_rfl) Tryd.underlying4 rfl rfl EqP.nil))) (by kernel_rfl) _) ?_
      rcases Bool.eq_false_or_eq_true ((x_21.2.Row == 1 && (x_21.2.Col == 0 && (x_21.2.Pending == false && true)))) with h67 | h67
      · skip
        have H68 := anT h67 h65
        refine vb h67 ?_
        refine wn ?_
        refine va (v2) ?_
        refine wn ?_
        obtain ⟨k_31, h71, H68⟩ := bs H68
        obtain ⟨b69, rfl, h70⟩ := ((h3.mono (l14.trans (l18.trans (l25.trans (l30.trans (l34.trans (l41.trans (l46.trans (l50.trans (l57.trans (l61.trans l64)))))))))))).get h71
        refine va (.pointer (some ⟨b69, 0, none⟩)) ?_
        refine wn ?_
        refine va (.pointer (some ⟨b69, 1, none⟩)) ?_
        refine wn ?_
        obtain ⟨o_33, h72, H68⟩ := bs H68
        obtain ⟨v73, h75, h74⟩ := Rel.open_place_Pen (R55.mono (l61.trans l64)) h72 h70
        refine WL.val0 (v := .agg #[.int .i64 o_33.At.Row, .int .i64 o_33.At.Col, .bool o_33.At.Pending]) rfl (rx (by kernel_rfl) (ldEN (T := 120) (j := 1) (l := [.int .i64 o_33.At.Row, .int .i64 o_33.At.Col, .bool o_33.At.Pending]) (by kernel_rfl) (by kernel_rfl) (O63.gon h75 0 rfl) rfl rfl)) ?_
        refine wn ?_
        refine va (.agg #[.int .i64 1, .int .i64 2, .bool false]) ?_
        refine wn ?_
        refine WL.val0 (v := .bool (o_33.At.Row == 1 && (o_33.At.Col == 2 && (o_33.At.Pending == false && true)))) rfl (run_eqlA (T := 120) (xs := #[.int .i64 o_33.At.Row, .int .i64 o_33.At.Col, .bool o_33.At.Pending]) (ys := #[.int .i64 1, .int .i64 2, .bool false]) (r := (o_33.At.Row == 1 && (o_33.At.Col == 2 && (o_33.At.Pending == false && true)))) Tryd.underlying120 (by kernel_rfl) (by kernel_rfl) (EqP.int (by kernel_rfl) Tryd.underlying3 rfl rfl (EqP.int (by kernel_rfl) Tryd.underlying3 rfl rfl (EqP.bool (by kernel_rfl) Tryd.underlying4 rfl rfl EqP.nil))) (by kernel_rfl) _) ?_
        obtain rfl := Option.some.inj H68
        refine va (.bool (o_33.At.Row == 1 && (o_33.At.Col == 2 && (o_33.At.Pending == false && true)))) ?_
        rcases Bool.eq_false_or_eq_true ((o_33.At.Row == 1 && (o_33.At.Col == 2 && (o_33.At.Pending == false && true)))) with h76 | h76
        · skip
          have H77 := anT h76 h66
          refine vb h76 ?_
          refine wn ?_
          refine va (.pointer (some ⟨b69, 0, none⟩)) ?_
          refine wn ?_
          obtain ⟨k_39, h80, H77⟩ := bs H77
          have h79 := ((h3.mono (l14.trans (l18.trans (l25.trans (l30.trans (l34.trans (l41.trans (l46.trans (l50.trans (l57.trans (l61.trans l64)))))))))))).get2 h80
          refine va (.pointer (some ⟨b69, 0, none⟩)) ?_
          refine wn ?_
          refine va (.pointer (some ⟨b69, 0, none⟩)) ?_
          refine wn ?_
          obtain ⟨o_41, h81, H77⟩ := bs H77
          obtain ⟨v82, h84, h83⟩ := Rel.open_place_Pen (R55.mono (l61.trans l64)) h81 h79
          refine WL.val0 (v := v82) rfl (rx (by kernel_rfl) (ldE1 (j := 0) Tryd.underlying51 rfl (O63.gon h84 0 rfl) rfl rfl)) ?_
          refine wn ?_
          obtain ⟨x_42, h85, H77⟩ := bs H77
          refine WL.callP rfl (by kernel_rfl) (c_grid_Grid_Row O63 (R55.mono (l61.trans l64)) o_41.G 0 h83 h85) ?_
          rintro v86 c92 l92 ⟨_, O89, rfl, h87⟩
          refine wn ?_
          obtain ⟨x_43, h94, H77⟩ := bs H77
          refine WL.callP rfl (by kernel_rfl) (c_row_Row_Wrap O89 (R55.mono (l61.trans (l64.trans l92))) x_42 h87 h94) ?_
          rintro v100 c99 l99 ⟨O96, rfl⟩
          obtain rfl := Option.some.inj H77
          refine va (.bool x_43) ?_
          refine va (.bool x_43) ?_
          refine wln ?_
          exact ⟨c99, _, rfl, (l92.trans l99), O96, ups_self ⟨rfl, trivial⟩⟩
        · skip
          obtain rfl := anF h76 h66
          refine vb h76 ?_
          refine ps ?_
          refine ps ?_
          refine ps ?_
          refine ps ?_
          refine ps ?_
          refine ps ?_
          refine va (.bool false) ?_
          refine va (.bool false) ?_
          refine wln ?_
          exact ⟨c64, _, rfl, (Cx.le.refl _), O63, ups_self ⟨rfl, trivial⟩⟩
      · skip
        obtain rfl := anF h67 h65
        refine vb h67 ?_
        refine ps ?_
        refine ps ?_
        refine ps ?_
        refine ps ?_
        refine ps ?_
        refine ps ?_
        refine va (.bool false) ?_
        have h101 : false = false := rfl
        obtain rfl := anF h101 h66
        refine vb h101 ?_
        refine ps ?_
        refine ps ?_
        refine ps ?_
        refine ps ?_
        refine ps ?_
        refine ps ?_
        refine va (.bool false) ?_
        refine va (.bool false) ?_
        refine wln ?_
        exact ⟨c64, _, rfl, (Cx.le.refl _), O63, ups_self ⟨rfl, trivial⟩⟩
    · skip
      rintro e_ w_ ⟨c102, g103, rfl, l102, O104, rfl⟩
      refine nrm ?_
      refine W.ret ?_
      obtain rfl := Option.some.inj H
      have O108 := O104.selD 4 [] (by kernel_rfl) (by kernel_rfl)
      exact ret1 (v := .bool d_36) rfl (by kernel_rfl) ⟨_, c102, rfl, rfl, (l8.trans (l14.trans (l18.trans (l25.trans (l30.trans (l34.trans (l41.trans (l46.trans (l50.trans (l57.trans (l61.trans (l64.trans l102)))))))))))), G53, O108, (R55.mono (l61.trans (l64.trans l102))), rfl⟩

def f_linotyperef32_New (p0 : Int) (p1 : Int) : Option (List G_api_Line) :=
  (iter (σ := (List G_api_Line) × Int) (τ := (List G_api_Line)) ((p1 - 0).toNat + 1) (fun s_7 =>
  if (decide (s_7.2 < p1)) = true then
  (rep p0 (⟨0, ([] : List Int)⟩ : G_api_Cell)).bind fun x_14 =>
  (app s_7.1 ([(⟨x_14, false⟩ : G_api_Line)] : List G_api_Line)).bind fun x_17 =>
  some (.inl (x_17, (w64 (s_7.2 + 1))))
  else
  some (.inr (s_7.1))) (([] : List G_api_Line), 0)).bind fun o_7 =>
  some o_7
theorem c_linotyperef32_New {c0 : Cx} {G : Gm} {F : List En} (O0 : Own c0 G F) (p0 : Int) (p1 : Int) {r : List G_api_Line} (H : f_linotyperef32_New p0 p1 = some r) :
    Calls Tryd.prog 132 #[.int .i64 p0, .int .i64 p1] c0.w (Post c0 fun c v => ∃ y1 : Value, ∃ y2 : List Value, Own c G (es true R_api_Line y1 62 y2 r :: F) ∧ v = y1 ∧ OA R_api_Line c y1 y2 r) := by
  unfold f_linotyperef32_New at H
  refine enter (l := [.int .i64 p0, .int .i64 p1]) Tryd.func132 rfl rfl rfl ?_
  refine sr ?_
  refine va (.slice none 0 0) ?_
  refine wln ?_
  refine sr ?_
  refine va (.slice none 0 0) ?_
  refine wln ?_
  refine W.seq ?_
  refine sr ?_
  refine va (.int .i64 0) ?_
  refine wln ?_
  refine W.block ?_
  obtain ⟨o_7, h1, H2⟩ := bs H
  refine W.loop (σ := (List G_api_Line) × Int) (τ := (List G_api_Line)) (fun s_7 => fun e w => ∃ (c : Cx) (g : Nat → Value) (v3 : Value) (u4 : List Value), w = c.w ∧ c0.le c ∧ Own c G (es true R_api_Line v3 62 u4 s_7.1 :: F) ∧ e = ups g [(0, .int .i64 p0), (1, .int .i64 p1), (5, v3), (6, .int .i64 s_7.2)] ∧ OA R_api_Line c v3 u4 s_7.1) (fun o_7_ ex e w => ex = .exit 0 ∧ (fun e w => ∃ (c : Cx) (g : Nat → Value) (v5 : Value) (u6 : List Value), w = c.w ∧ c0.le c ∧ Own c G (es true R_api_Line v5 62 u6 o_7_ :: F) ∧ e = ups g [(5, v5)] ∧ OA R_api_Line c v5 u6 o_7_) e w) ?_ h1 ?_ ?_
  · clear H2 h1
    intro s_7 xx_ ee_ ww_ H
    revert ee_ ww_
    rintro e_ w_ ⟨c7, g8, v3, u4, rfl, l7, O9, rfl, h10⟩
    refine W.seq ?_
    refine sr ?_
    refine va (.int .i64 s_7.2) ?_
    refine va (.int .i64 p1) ?_
    refine va (.bool (decide (s_7.2 < p1))) ?_
    refine wln ?_
    refine W.cond (t := decide (s_7.2 < p1)) (by kernel_rfl) (fun h14 => ?_) (fun h14 => ?_)
    · have H := it h14 H
      refine W.skip ?_
      refine nrm ?_
      refine W.seq ?_
      refine W.block ?_
      refine W.region ?_
      refine va (v3) ?_
      refine va (.int .i64 p0) ?_
      obtain ⟨x_14, h15, H⟩ := bs H
      refine WL.mem rfl (Own.mkS (kl := .i64) (kc := .i64) (R := R_api_Cell) (z := .agg #[.int .i64 0, .slice none 0 0]) (lz := [.int .i64 0, .slice none 0 0]) (x := (⟨0, ([] : List Int)⟩ : G_api_Cell)) (by_ := 32) (i := p0) (j := p0) true O9 (Nat.succ_pos _) h15 (Int.le_refl _) (rep_le h15) Tryd.underlying22 (by kernel_rfl) rfl rfl (fun _ => ⟨(.slice none 0 0), rfl, (Sl.nl _ _)⟩) (by kernel_rfl) (by kernel_rfl)) ?_
      rintro v20 c19 l19 ⟨u17, O16, h18⟩
      obtain ⟨a21, a22, a23, rfl⟩ := (h18).form
      refine va (.agg #[.slice a21 a22 a23, .bool false]) ?_
      obtain ⟨c26, h27, l26, O24, h25⟩ := O16.frz 0 rfl h18
      refine WL.gh h27 ?_
      refine WL.mem rfl (Own.sl (R := R_api_Line) (E := 62) (ls := [[.slice a21 a22 a23, .bool false]]) (vs := [.slice a21 a22 a23, .bool false]) (xs := ([(⟨x_14, false⟩ : G_api_Line)] : List G_api_Line)) true O24 (Nat.succ_pos _) rfl ⟨⟨(.slice a21 a22 a23), rfl, h25⟩, trivial⟩ (by kernel_rfl) (by kernel_rfl)) ?_
      rintro v32 c31 l31 ⟨u29, O28, h30⟩
      obtain ⟨c35, h36, l35, O33, h34⟩ := O28.frz 0 rfl h30
      refine WL.gh h36 ?_
      obtain ⟨x_17, h37, H⟩ := bs H
      refine WL.mem rfl (Own.app (R := R_api_Line) (z := .agg #[.slice none 0 0, .bool false]) (by_ := 32) (ty := 47) 2 O33 rfl (h10.mono (l19.trans (l26.trans (l31.trans l35)))) h34 h37 Tryd.underlying47 (by kernel_rfl) rfl (by kernel_rfl) (by kernel_rfl)) ?_
      rintro v42 c41 l41 ⟨u39, O38, h40⟩
      refine va (v42) ?_
      refine WL.nil ?_
      refine bkn ?_
      refine nrm ?_
      refine W.region ?_
      refine va (.int .i64 s_7.2) ?_
      refine va (.int .i64 (w64 (s_7.2 + 1))) ?_
      refine va (.int .i64 (w64 (s_7.2 + 1))) ?_
      refine WL.nil ?_
      obtain rfl := Option.some.inj H
      refine ⟨_, rfl, ?_⟩
      have O43 := O38.selD 3 [2] (by kernel_rfl) (by kernel_rfl)
      exact ⟨c41, _, v42, u39, rfl, (l7.trans (l19.trans (l26.trans (l31.trans (l35.trans l41))))), O43, ups_self ⟨rfl, rfl, rfl, rfl, trivial⟩, h40⟩
    · have H := ie h14 H
      refine W.exit ?_
      refine thx ?_
      obtain rfl := Option.some.inj H
      refine ⟨_, rfl, rfl, ?_⟩
      exact ⟨c7, _, v3, u4, rfl, l7, O9, ups_self ⟨rfl, trivial⟩, h10⟩
  · skip
    have h45 : OA R_api_Line c0 (.slice none 0 0) [] [] := OA.nil (Nat.succ_pos _)
    have O44 := O0.addHole (e := es true R_api_Line (.slice none 0 0) 62 [] ([] : List G_api_Line)) rfl
    exact ⟨c0, _, (.slice none 0 0), [], rfl, (Cx.le.refl _), O44, ups_self ⟨rfl, rfl, rfl, rfl, trivial⟩, h45⟩
  · skip
    rintro _ e_ w_ ⟨rfl, c46, g47, v5, u6, rfl, l46, O48, rfl, h49⟩
    refine bke ?_
    refine nrm ?_
    refine sr ?_
    refine va (v5) ?_
    refine va (v5) ?_
    refine wln ?_
    refine W.ret ?_
    obtain rfl := Option.some.inj H2
    exact ret1 (v := v5) rfl (by kernel_rfl) ⟨_, c46, rfl, rfl, l46, v5, u6, O48, rfl, h49⟩

def f_linotyperef34_New (p0 : Int) (p1 : Int) : Option (G_linotyperef34_Pen) :=
  (f_linotyperef32_New p0 p1).bind fun x_5 =>
  some (⟨x_5, (⟨0, 0, false⟩ : G_api_Cursor), true⟩ : G_linotyperef34_Pen)
theorem c_linotyperef34_New {c0 : Cx} {G : Gm} {F : List En} (O0 : Own c0 G F) (p0 : Int) (p1 : Int) {r : G_linotyperef34_Pen} (H : f_linotyperef34_New p0 p1 = some r) :
    Calls Tryd.prog 74 #[.int .i64 p0, .int .i64 p1] c0.w (Post c0 fun c v => ∃ y1 : Value, ∃ y2 : List Value, Own c G (es true R_api_Line y1 62 y2 r.L :: F) ∧ v = .agg #[y1, .int .i64 r.At.Row, .int .i64 r.At.Col, .bool r.At.Pending, .bool r.Auto] ∧ OA R_api_Line c y1 y2 r.L) := by
  unfold f_linotyperef34_New at H
  refine enter (l := [.int .i64 p0, .int .i64 p1]) Tryd.func74 rfl rfl rfl ?_
  refine sr ?_
  refine WL.mem rfl (Own.al (T := 122) (vs := [.slice none 0 0, .int .i64 0, .int .i64 0, .bool false, .bool false]) O0 (by kernel_rfl)) ?_
  rintro v4 c3 l3 ⟨b1, rfl, O2⟩
  refine wln ?_
  refine sr ?_
  refine va (.int .i64 p0) ?_
  refine va (.int .i64 p1) ?_
  obtain ⟨x_5, h5, H⟩ := bs H
  refine WL.callP rfl (by kernel_rfl) (c_linotyperef32_New O2 p0 p1 h5) ?_
  rintro v6 c13 l13 ⟨_, u7, O10, rfl, h8⟩
  obtain ⟨a15, a16, a17, rfl⟩ := (h8).form
  refine va (.agg #[.slice a15 a16 a17, .int .i64 0, .int .i64 0, .bool false, .bool true]) ?_
  refine WL.memD rfl (Own.st (T := 122) (j := 0) (us := [.slice a15 a16 a17, .int .i64 0, .int .i64 0, .bool false, .bool true]) (nw := [.slice a15 a16 a17, .int .i64 0, .int .i64 0, .bool false, .bool true]) (v := .agg #[.slice a15 a16 a17, .int .i64 0, .int .i64 0, .bool false, .bool true]) 1 O10 (by kernel_rfl) rfl rfl rfl rfl (by kernel_rfl) ⟨(h8).one, rfl, rfl, rfl, rfl, trivial⟩ rfl rfl) ?_
  rintro c19 l19 O18
  refine wln ?_
  refine W.ret ?_
  obtain rfl := Option.some.inj H
  have O20 := O18.selD 2 [0] (by kernel_rfl) (by kernel_rfl)
  exact retC (c := c19) (vs := [.slice a15 a16 a17, .int .i64 0, .int .i64 0, .bool false, .bool true]) rfl (by kernel_rfl) (by kernel_rfl) (by kernel_rfl) (O18.on 1 rfl _ rfl).1 ⟨_, c19, rfl, rfl, (l3.trans (l13.trans l19)), (.slice a15 a16 a17), u7, O20, rfl, (h8.mono l19)⟩

def f_linotyperef34_Pen_Wide (p0 : G_linotyperef34_Pen) : Option (Int) :=
  (idx p0.L 0).bind fun x_6 =>
  some (x_6.Cells.length : Int)
theorem c_linotyperef34_Pen_Wide {c0 : Cx} {G : Gm} {F : List En} {v1 : Value} (O0 : Own c0 G F) (p0 : G_linotyperef34_Pen) {r : Int} (h2 : Sl R_api_Line c0 v1 p0.L) (H : f_linotyperef34_Pen_Wide p0 = some r) :
    Calls Tryd.prog 137 #[.agg #[v1, .int .i64 p0.At.Row, .int .i64 p0.At.Col, .bool p0.At.Pending, .bool p0.Auto]] c0.w (Post c0 fun c v => Own c G (F) ∧ v = .int .i64 r) := by
  unfold f_linotyperef34_Pen_Wide at H
  refine enter (l := [.agg #[v1, .int .i64 p0.At.Row, .int .i64 p0.At.Col, .bool p0.At.Pending, .bool p0.Auto]]) Tryd.func137 rfl rfl rfl ?_
  refine sr ?_
  obtain ⟨a3, a4, a5, rfl⟩ := (h2).form
  refine WL.mem rfl (Own.bx (T := 122) (vs := [.slice a3 a4 a5, .int .i64 p0.At.Row, .int .i64 p0.At.Col, .bool p0.At.Pending, .bool p0.Auto]) O0 (by kernel_rfl)) ?_
  rintro v10 c9 l9 ⟨b6, rfl, O7, m8⟩
  refine va (.int .i64 0) ?_
  refine wln ?_
  refine sr ?_
  refine va (.pointer (some ⟨b6, 0, none⟩)) ?_
  refine WL.val0 (v := .slice a3 a4 a5) rfl (rx (by kernel_rfl) (run_load1 Tryd.underlying47 rfl (m8 0 _ rfl))) ?_
  obtain ⟨x_6, h11, H⟩ := bs H
  obtain ⟨l_12, h13, m14⟩ := Sl.at (h2.mono l9) (idx_get h11)
  obtain ⟨v15, rfl, h16⟩ := h13
  refine WL.val0 (v := .pointer (some ⟨sb (.slice a3 a4 a5), so (.slice a3 a4 a5) + (0 : Int).toNat * 2, none⟩)) rfl (rx (by kernel_rfl) (run_index (k := .i64) Tryd.underlying47 (by kernel_rfl) (h2.mono l9) h11 _)) ?_
  refine va (.pointer (some ⟨sb (.slice a3 a4 a5), so (.slice a3 a4 a5) + (0 : Int).toNat * 2, none⟩)) ?_
  refine WL.val0 (v := v15) rfl (rx (by kernel_rfl) (run_load1 Tryd.underlying22 rfl (m14 0 _ rfl))) ?_
  refine WL.val0 (v := .int .i64 (x_6.Cells.length : Int)) rfl (rx (by kernel_rfl) (run_len (ty := 3) Tryd.underlying22 h16 _)) ?_
  refine va (.int .i64 (x_6.Cells.length : Int)) ?_
  refine wln ?_
  refine W.ret ?_
  obtain rfl := Option.some.inj H
  exact ret1 (v := .int .i64 (x_6.Cells.length : Int)) rfl (by kernel_rfl) ⟨_, c9, rfl, rfl, l9, O7, rfl⟩

def f_linotyperef31_Side (p0 : Int) : Option (Int) :=
  if (decide (p0 < 1)) = true then
  some 1
  else
  if (decide (p0 > 1024)) = true then
  some 1024
  else
  some p0
theorem c_linotyperef31_Side {c0 : Cx} {G : Gm} {F : List En} (O0 : Own c0 G F) (p0 : Int) {r : Int} (H : f_linotyperef31_Side p0 = some r) :
    Calls Tryd.prog 150 #[.int .i64 p0] c0.w (Post c0 fun c v => Own c G (F) ∧ v = .int .i64 r) := by
  unfold f_linotyperef31_Side at H
  refine enter (l := [.int .i64 p0]) Tryd.func150 rfl rfl rfl ?_
  refine sr ?_
  refine va (.int .i64 0) ?_
  refine wln ?_
  refine W.seq ?_
  refine sr ?_
  refine va (.int .i64 p0) ?_
  refine va (.bool (decide (p0 < 1))) ?_
  refine wln ?_
  refine W.cond (t := decide (p0 < 1)) (by kernel_rfl) (fun h1 => ?_) (fun h1 => ?_)
  · have H := it h1 H
    refine sr ?_
    refine va (.int .i64 1) ?_
    refine wln ?_
    refine W.ret ?_
    refine thr ?_
    obtain rfl := Option.some.inj H
    exact ret1 (v := .int .i64 1) rfl (by kernel_rfl) ⟨_, c0, rfl, rfl, Cx.le.refl _, O0, rfl⟩
  · have H := ie h1 H
    refine W.skip ?_
    refine nrm ?_
    refine W.seq ?_
    refine sr ?_
    refine va (.int .i64 p0) ?_
    refine va (.bool (decide (p0 > 1024))) ?_
    refine wln ?_
    refine W.cond (t := decide (p0 > 1024)) (by kernel_rfl) (fun h2 => ?_) (fun h2 => ?_)
    · have H := it h2 H
      refine sr ?_
      refine va (.int .i64 1024) ?_
      refine wln ?_
      refine W.ret ?_
      refine thr ?_
      obtain rfl := Option.some.inj H
      exact ret1 (v := .int .i64 1024) rfl (by kernel_rfl) ⟨_, c0, rfl, rfl, Cx.le.refl _, O0, rfl⟩
    · have H := ie h2 H
      refine W.skip ?_
      refine nrm ?_
      refine sr ?_
      refine va (.int .i64 p0) ?_
      refine va (.int .i64 p0) ?_
      refine wln ?_
      refine W.ret ?_
      obtain rfl := Option.some.inj H
      exact ret1 (v := .int .i64 p0) rfl (by kernel_rfl) ⟨_, c0, rfl, rfl, Cx.le.refl _, O0, rfl⟩

def f_linotyperef31_within (p0 : Int) (p1 : Int) : Option (Int) :=
  if (decide (p0 < 0)) = true then
  some 0
  else
  if (decide (p0 ≥ p1)) = true then
  some (w64 (p1 - 1))
  else
  some p0
theorem c_linotyperef31_within {c0 : Cx} {G : Gm} {F : List En} (O0 : Own c0 G F) (p0 : Int) (p1 : Int) {r : Int} (H : f_linotyperef31_within p0 p1 = some r) :
    Calls Tryd.prog 185 #[.int .i64 p0, .int .i64 p1] c0.w (Post c0 fun c v => Own c G (F) ∧ v = .int .i64 r) := by
  unfold f_linotyperef31_within at H
  refine enter (l := [.int .i64 p0, .int .i64 p1]) Tryd.func185 rfl rfl rfl ?_
  refine sr ?_
  refine va (.int .i64 0) ?_
  refine wln ?_
  refine W.seq ?_
  refine sr ?_
  refine va (.int .i64 p0) ?_
  refine va (.bool (decide (p0 < 0))) ?_
  refine wln ?_
  refine W.cond (t := decide (p0 < 0)) (by kernel_rfl) (fun h1 => ?_) (fun h1 => ?_)
  · have H := it h1 H
    refine sr ?_
    refine va (.int .i64 0) ?_
    refine wln ?_
    refine W.ret ?_
    refine thr ?_
    obtain rfl := Option.some.inj H
    exact ret1 (v := .int .i64 0) rfl (by kernel_rfl) ⟨_, c0, rfl, rfl, Cx.le.refl _, O0, rfl⟩
  · have H := ie h1 H
    refine W.skip ?_
    refine nrm ?_
    refine W.seq ?_
    refine sr ?_
    refine va (.int .i64 p0) ?_
    refine va (.int .i64 p1) ?_
    refine va (.bool (decide (p0 ≥ p1))) ?_
    refine wln ?_
    refine W.cond (t := decide (p0 ≥ p1)) (by kernel_rfl) (fun h2 => ?_) (fun h2 => ?_)
    · have H := it h2 H
      refine sr ?_
      refine va (.int .i64 p1) ?_
      refine va (.int .i64 (w64 (p1 - 1))) ?_
      refine va (.int .i64 (w64 (p1 - 1))) ?_
      refine wln ?_
      refine W.ret ?_
      refine thr ?_
      obtain rfl := Option.some.inj H
      exact ret1 (v := .int .i64 (w64 (p1 - 1))) rfl (by kernel_rfl) ⟨_, c0, rfl, rfl, Cx.le.refl _, O0, rfl⟩
    · have H := ie h2 H
      refine W.skip ?_
      refine nrm ?_
      refine sr ?_
      refine va (.int .i64 p0) ?_
      refine va (.int .i64 p0) ?_
      refine wln ?_
      refine W.ret ?_
      obtain rfl := Option.some.inj H
      exact ret1 (v := .int .i64 p0) rfl (by kernel_rfl) ⟨_, c0, rfl, rfl, Cx.le.refl _, O0, rfl⟩

def f_linotyperef31_Hold (p0 : G_api_Cursor) (p1 : Int) (p2 : Int) : Option (G_api_Cursor) :=
  (f_linotyperef31_Side p2).bind fun x_12 =>
  (f_linotyperef31_within p0.Row x_12).bind fun x_13 =>
  (f_linotyperef31_Side p1).bind fun x_14 =>
  (f_linotyperef31_within p0.Col x_14).bind fun x_15 =>
  (andE p0.Pending ((f_linotyperef31_Side p1).bind fun x_21 =>
  some (p0.Col == (w64 (x_21 - 1))))).bind fun d_16 =>
  some (⟨x_13, x_15, d_16⟩ : G_api_Cursor)
theorem c_linotyperef31_Hold {c0 : Cx} {G : Gm} {F : List En} (O0 : Own c0 G F) (p0 : G_api_Cursor) (p1 : Int) (p2 : Int) {r : G_api_Cursor} (H : f_linotyperef31_Hold p0 p1 p2 = some r) :
    Calls Tryd.prog 169 #[.agg #[.int .i64 p0.Row, .int .i64 p0.Col, .bool p0.Pending], .int .i64 p1, .int .i64 p2] c0.w (Post c0 fun c v => Own c G (F) ∧ v = .agg #[.int .i64 r.Row, .int .i64 r.Col, .bool r.Pending]) := by
  unfold f_linotyperef31_Hold at H
  refine enter (l := [.agg #[.int .i64 p0.Row, .int .i64 p0.Col, .bool p0.Pending], .int .i64 p1, .int .i64 p2]) Tryd.func169 rfl rfl rfl ?_
  refine sr ?_
  refine WL.mem rfl (Own.bx (T := 120) (vs := [.int .i64 p0.Row, .int .i64 p0.Col, .bool p0.Pending]) O0 (by kernel_rfl)) ?_
  rintro v5 c4 l4 ⟨b1, rfl, O2, m3⟩
  refine WL.mem rfl (Own.al (T := 120) (vs := [.int .i64 0, .int .i64 0, .bool false]) O2 (by kernel_rfl)) ?_
  rintro v9 c8 l8 ⟨b6, rfl, O7⟩
  refine wln ?_
  refine W.seq ?_
  obtain ⟨x_12, h10, H⟩ := bs H
  obtain ⟨x_13, h11, H⟩ := bs H
  obtain ⟨x_14, h12, H⟩ := bs H
  obtain ⟨x_15, h13, H⟩ := bs H
  obtain ⟨d_16, h14, H⟩ := bs H
  refine W.join (fun e w => ∃ (c : Cx) (g : Nat → Value), w = c.w ∧ c8.le c ∧ Own c G (⟨.pointer (some ⟨b6, 0, none⟩), 120, [.int .i64 x_13, .int .i64 x_15, .bool d_16], 0⟩ :: F) ∧ e = ups g [(6, .pointer (some ⟨b6, 0, none⟩))]) ?_ ?_
  · clear H
    refine W.regionD [] (Kp G0 []) O7 (by kernel_rfl) ?_
    intro c15 l15 O16
    have p17 : Kp G0 [] c15 := Kp.nil0
    refine ta 0 (.pointer (some ⟨b1, 0, none⟩)) ?_
    refine AC.take 1 (.int .i64 p0.Row) rfl (by kernel_rfl) (by kernel_rfl) (fun c' hle => (rx (by kernel_rfl) (run_load1 Tryd.underlying3 rfl ((fun j u hu => (m3 j u hu).mono ((l8.trans l15).trans hle)) 0 _ rfl)))) ?_
    refine ta 2 (.int .i64 p2) ?_
    refine ta 5 (.pointer (some ⟨b1, 0 + 1, none⟩)) ?_
    refine AC.take 6 (.int .i64 p0.Col) rfl (by kernel_rfl) (by kernel_rfl) (fun c' hle => (rx (by kernel_rfl) (run_load1 Tryd.underlying3 rfl ((fun j u hu => (m3 j u hu).mono ((l8.trans l15).trans hle)) 1 _ rfl)))) ?_
    refine ta 7 (.int .i64 p1) ?_
    refine ta 10 (.pointer (some ⟨b1, 0 + 2, none⟩)) ?_
    refine AC.take 11 (.bool p0.Pending) rfl (by kernel_rfl) (by kernel_rfl) (fun c' hle => (rx (by kernel_rfl) (run_load1 Tryd.underlying4 rfl ((fun j u hu => (m3 j u hu).mono ((l8.trans l15).trans hle)) 2 _ rfl)))) ?_
    refine AC.one 3 (by kernel_rfl) (Go1.callP 3 rfl (by kernel_rfl) (by kernel_rfl) (by kernel_rfl) (c_linotyperef31_Side O16 p2 h10) ?_)
    rintro v23 c22 l22 ⟨O19, rfl⟩
    have p24 : Kp G0 [] c22 := Kp.nil0
    refine ⟨.inr p24, ?_⟩
    refine AC.one 4 (by kernel_rfl) (Go1.callP 4 rfl (by kernel_rfl) (by kernel_rfl) (by kernel_rfl) (c_linotyperef31_within O19 p0.Row x_12 h11) ?_)
    rintro v30 c29 l29 ⟨O26, rfl⟩
    have p31 : Kp G0 [] c29 := Kp.nil0
    refine ⟨.inr p31, ?_⟩
    refine AC.one 8 (by kernel_rfl) (Go1.callP 8 rfl (by kernel_rfl) (by kernel_rfl) (by kernel_rfl) (c_linotyperef31_Side O26 p1 h12) ?_)
    rintro v37 c36 l36 ⟨O33, rfl⟩
    have p38 : Kp G0 [] c36 := Kp.nil0
    refine ⟨.inr p38, ?_⟩
    refine AC.one 9 (by kernel_rfl) (Go1.callP 9 rfl (by kernel_rfl) (by kernel_rfl) (by kernel_rfl) (c_linotyperef31_within O33 p0.Col x_14 h13) ?_)
    rintro v44 c43 l43 ⟨O40, rfl⟩
    have p45 : Kp G0 [] c43 := Kp.nil0
    refine ⟨.inr p45, ?_⟩
    rcases Bool.eq_false_or_eq_true (p0.Pending) with h46 | h46
    · skip
      have H47 := anT h46 h14
      refine AC.takeb 12 h46 rfl (by kernel_rfl) (by kernel_rfl) (fun c' hle => (by kernel_rfl)) ?_
      refine ta 13 (.pointer (some ⟨b1, 0 + 1, none⟩)) ?_
      refine AC.take 14 (.int .i64 p0.Col) rfl (by kernel_rfl) (by kernel_rfl) (fun c' hle => (rx (by kernel_rfl) (run_load1 Tryd.underlying3 rfl ((fun j u hu => (m3 j u hu).mono ((l8.trans (l15.trans (l22.trans (l29.trans (l36.trans l43))))).trans hle)) 1 _ rfl)))) ?_
      refine ta 15 (.int .i64 p1) ?_
      obtain ⟨x_21, h48, H47⟩ := bs H47
      refine AC.one 16 (by kernel_rfl) (Go1.callP 16 rfl (by kernel_rfl) (by kernel_rfl) (by kernel_rfl) (c_linotyperef31_Side O40 p1 h48) ?_)
      rintro v54 c53 l53 ⟨O50, rfl⟩
      have p55 : Kp G0 [] c53 := Kp.nil0
      refine ⟨.inr p55, ?_⟩
      refine ta 17 (.int .i64 (w64 (x_21 - 1))) ?_
      refine ta 18 (.bool (p0.Col == (w64 (x_21 - 1)))) ?_
      obtain rfl := Option.some.inj H47
      refine ta 19 (.bool (p0.Col == (w64 (x_21 - 1)))) ?_
      refine ta 20 (.agg #[.int .i64 x_13, .int .i64 x_15, .bool (p0.Col == (w64 (x_21 - 1)))]) ?_
      refine AC.one 21 (by kernel_rfl) (Go1.memD 21 rfl (by kernel_rfl) (by kernel_rfl) (Own.st (T := 120) (j := 0) (us := [.int .i64 x_13, .int .i64 x_15, .bool (p0.Col == (w64 (x_21 - 1)))]) (nw := [.int .i64 x_13, .int .i64 x_15, .bool (p0.Col == (w64 (x_21 - 1)))]) (v := .agg #[.int .i64 x_13, .int .i64 x_15, .bool (p0.Col == (w64 (x_21 - 1)))]) 0 O50 (by kernel_rfl) rfl rfl rfl rfl (by kernel_rfl) ⟨rfl, rfl, rfl, trivial⟩ rfl rfl) ?_)
      rintro c57 l57 O56
      have p58 : Kp G0 [] c57 := Kp.nil0
      refine ⟨.inr p58, ?_⟩
      refine AC.done (by kernel_rfl) ?_
      refine nrm ?_
      exact ⟨c57, _, rfl, (l15.trans (l22.trans (l29.trans (l36.trans (l43.trans (l53.trans l57)))))), O56, ups_self ⟨rfl, trivial⟩⟩
    · skip
      obtain rfl := anF h46 h14
      refine AC.takeb 12 h46 rfl (by kernel_rfl) (by kernel_rfl) (fun c' hle => (by kernel_rfl)) ?_
      refine AC.pass 13 rfl (by kernel_rfl) (by kernel_rfl) ?_
      refine AC.pass 14 rfl (by kernel_rfl) (by kernel_rfl) ?_
      refine AC.pass 15 rfl (by kernel_rfl) (by kernel_rfl) ?_
      refine AC.pass 16 rfl (by kernel_rfl) (by kernel_rfl) ?_
      refine AC.pass 17 rfl (by kernel_rfl) (by kernel_rfl) ?_
      refine AC.pass 18 rfl (by kernel_rfl) (by kernel_rfl) ?_
      refine ta 19 (.bool false) ?_
      refine ta 20 (.agg #[.int .i64 x_13, .int .i64 x_15, .bool false]) ?_
      refine AC.one 21 (by kernel_rfl) (Go1.memD 21 rfl (by kernel_rfl) (by kernel_rfl) (Own.st (T := 120) (j := 0) (us := [.int .i64 x_13, .int .i64 x_15, .bool false]) (nw := [.int .i64 x_13, .int .i64 x_15, .bool false]) (v := .agg #[.int .i64 x_13, .int .i64 x_15, .bool false]) 0 O40 (by kernel_rfl) rfl rfl rfl rfl (by kernel_rfl) ⟨rfl, rfl, rfl, trivial⟩ rfl rfl) ?_)
      rintro c60 l60 O59
      have p61 : Kp G0 [] c60 := Kp.nil0
      refine ⟨.inr p61, ?_⟩
      refine AC.done (by kernel_rfl) ?_
      refine nrm ?_
      exact ⟨c60, _, rfl, (l15.trans (l22.trans (l29.trans (l36.trans (l43.trans l60))))), O59, ups_self ⟨rfl, trivial⟩⟩
  · skip
    rintro e_ w_ ⟨c62, g63, rfl, l62, O64, rfl⟩
    refine nrm ?_
    refine W.ret ?_
    obtain rfl := Option.some.inj H
    have O68 := O64.selD 1 [] (by kernel_rfl) (by kernel_rfl)
    exact retC (c := c62) (vs := [.int .i64 x_13, .int .i64 x_15, .bool d_16]) rfl (by kernel_rfl) (by kernel_rfl) (by kernel_rfl) (O64.on 0 rfl _ rfl).1 ⟨_, c62, rfl, rfl, (l4.trans (l8.trans l62)), O68, rfl⟩

def f_linotyperef34_Pen_Hold (p0 : G_linotyperef34_Pen) : Option (G_linotyperef34_Pen) :=
  (f_linotyperef34_Pen_Wide p0).bind fun x_10 =>
  (f_linotyperef31_Hold p0.At x_10 (p0.L.length : Int)).bind fun x_11 =>
  some (⟨p0.L, x_11, p0.Auto⟩ : G_linotyperef34_Pen)
theorem c_linotyperef34_Pen_Hold {c0 : Cx} {G : Gm} {F : List En} {v1 : Value} (O0 : Own c0 G F) (p0 : G_linotyperef34_Pen) {r : G_linotyperef34_Pen} (h2 : Sl R_api_Line c0 v1 p0.L) (H : f_linotyperef34_Pen_Hold p0 = some r) :
    Calls Tryd.prog 136 #[.agg #[v1, .int .i64 p0.At.Row, .int .i64 p0.At.Col, .bool p0.At.Pending, .bool p0.Auto]] c0.w (Post c0 fun c v => ∃ y1 : Value, Own c G (F) ∧ v = .agg #[y1, .int .i64 r.At.Row, .int .i64 r.At.Col, .bool r.At.Pending, .bool r.Auto] ∧ Sl R_api_Line c y1 r.L) := by
  unfold f_linotyperef34_Pen_Hold at H
  refine enter (l := [.agg #[v1, .int .i64 p0.At.Row, .int .i64 p0.At.Col, .bool p0.At.Pending, .bool p0.Auto]]) Tryd.func136 rfl rfl rfl ?_
  refine sr ?_
  obtain ⟨a3, a4, a5, rfl⟩ := (h2).form
  refine WL.mem rfl (Own.al (T := 122) (vs := [.slice a3 a4 a5, .int .i64 p0.At.Row, .int .i64 p0.At.Col, .bool p0.At.Pending, .bool p0.Auto]) O0 (by kernel_rfl)) ?_
  rintro v9 c8 l8 ⟨b6, rfl, O7⟩
  refine WL.mem rfl (Own.al (T := 122) (vs := [.slice none 0 0, .int .i64 0, .int .i64 0, .bool false, .bool false]) O7 (by kernel_rfl)) ?_
  rintro v13 c12 l12 ⟨b10, rfl, O11⟩
  refine wln ?_
  refine W.seq ?_
  refine W.regionD [9] (Kp G0 [⟨.pointer (some ⟨b6, 0, none⟩), 122, [.slice a3 a4 a5, .int .i64 p0.At.Row, .int .i64 p0.At.Col, .bool p0.At.Pending, .bool p0.Auto], 0⟩]) O11 (by kernel_rfl) ?_
  intro c14 l14 O15
  have p16 : Kp G0 [⟨.pointer (some ⟨b6, 0, none⟩), 122, [.slice a3 a4 a5, .int .i64 p0.At.Row, .int .i64 p0.At.Col, .bool p0.At.Pending, .bool p0.Auto], 0⟩] c14 := (Kp.cons (O15.on 1 rfl) Kp.nil0)
  refine ta 0 (.pointer (some ⟨b6, 1, none⟩)) ?_
  refine AC.takeK 1 (.agg #[.int .i64 p0.At.Row, .int .i64 p0.At.Col, .bool p0.At.Pending]) p16 rfl (by kernel_rfl) (by kernel_rfl) (by kernel_rfl) (fun c' hle hk => (rx (by kernel_rfl) (ldEN (T := 120) (j := 1) (l := [.int .i64 p0.At.Row, .int .i64 p0.At.Col, .bool p0.At.Pending]) (by kernel_rfl) (by kernel_rfl) (hk.on 0 rfl) rfl rfl))) ?_
  refine AC.takeK 2 (.agg #[.slice a3 a4 a5, .int .i64 p0.At.Row, .int .i64 p0.At.Col, .bool p0.At.Pending, .bool p0.Auto]) p16 rfl (by kernel_rfl) (by kernel_rfl) (by kernel_rfl) (fun c' hle hk => (rx (by kernel_rfl) (ldEN (T := 122) (j := 0) (l := [.slice a3 a4 a5, .int .i64 p0.At.Row, .int .i64 p0.At.Col, .bool p0.At.Pending, .bool p0.Auto]) (by kernel_rfl) (by kernel_rfl) (hk.on 0 rfl) rfl rfl))) ?_
  refine ta 4 (.pointer (some ⟨b6, 0, none⟩)) ?_
  refine AC.takeK 5 (.slice a3 a4 a5) p16 rfl (by kernel_rfl) (by kernel_rfl) (by kernel_rfl) (fun c' hle hk => (rx (by kernel_rfl) (ldE1 (j := 0) Tryd.underlying47 rfl (hk.on 0 rfl) rfl rfl))) ?_
  refine AC.take 6 (.int .i64 (p0.L.length : Int)) rfl (by kernel_rfl) (by kernel_rfl) (fun c' hle => (rx (by kernel_rfl) (run_len (ty := 3) Tryd.underlying47 (h2.mono (l8.trans (l12.trans l14))) _))) ?_
  obtain ⟨x_10, h17, H⟩ := bs H
  refine AC.one 3 (by kernel_rfl) (Go1.callP 3 rfl (by kernel_rfl) (by kernel_rfl) (by kernel_rfl) (c_linotyperef34_Pen_Wide O15 p0 (h2.mono (l8.trans (l12.trans l14))) h17) ?_)
  rintro v23 c22 l22 ⟨O19, rfl⟩
  have p24 : Kp G0 [⟨.pointer (some ⟨b6, 0, none⟩), 122, [.slice a3 a4 a5, .int .i64 p0.At.Row, .int .i64 p0.At.Col, .bool p0.At.Pending, .bool p0.Auto], 0⟩] c22 := (Kp.cons (O19.on 1 rfl) Kp.nil0)
  refine ⟨.inr p24, ?_⟩
  obtain ⟨x_11, h25, H⟩ := bs H
  refine AC.one 7 (by kernel_rfl) (Go1.callP 7 rfl (by kernel_rfl) (by kernel_rfl) (by kernel_rfl) (c_linotyperef31_Hold O19 p0.At x_10 (p0.L.length : Int) h25) ?_)
  rintro v31 c30 l30 ⟨O27, rfl⟩
  have p32 : Kp G0 [⟨.pointer (some ⟨b6, 0, none⟩), 122, [.slice a3 a4 a5, .int .i64 p0.At.Row, .int .i64 p0.At.Col, .bool p0.At.Pending, .bool p0.Auto], 0⟩] c30 := (Kp.cons (O27.on 1 rfl) Kp.nil0)
  refine ⟨.inr p32, ?_⟩
  refine ta 8 (.pointer (some ⟨b6, 1, none⟩)) ?_
  refine AC.one 9 (by kernel_rfl) (Go1.memD 9 rfl (by kernel_rfl) (by kernel_rfl) (Own.st (T := 120) (j := 1) (us := [.int .i64 x_11.Row, .int .i64 x_11.Col, .bool x_11.Pending]) (nw := [.slice a3 a4 a5, .int .i64 x_11.Row, .int .i64 x_11.Col, .bool x_11.Pending, .bool p0.Auto]) (v := .agg #[.int .i64 x_11.Row, .int .i64 x_11.Col, .bool x_11.Pending]) 1 O27 (by kernel_rfl) rfl rfl rfl rfl (by kernel_rfl) ⟨rfl, rfl, rfl, trivial⟩ rfl rfl) ?_)
  rintro c34 l34 O33
  refine ⟨.inl rfl, ?_⟩
  refine AC.done (by kernel_rfl) ?_
  refine nrm ?_
  refine sr ?_
  refine WL.val0 (v := .agg #[.slice a3 a4 a5, .int .i64 x_11.Row, .int .i64 x_11.Col, .bool x_11.Pending, .bool p0.Auto]) rfl (rx (by kernel_rfl) (ldEN (T := 122) (j := 0) (l := [.slice a3 a4 a5, .int .i64 x_11.Row, .int .i64 x_11.Col, .bool x_11.Pending, .bool p0.Auto]) (by kernel_rfl) (by kernel_rfl) (O33.on 1 rfl) rfl rfl)) ?_
  refine WL.memD rfl (Own.st (T := 122) (j := 0) (us := [.slice a3 a4 a5, .int .i64 x_11.Row, .int .i64 x_11.Col, .bool x_11.Pending, .bool p0.Auto]) (nw := [.slice a3 a4 a5, .int .i64 x_11.Row, .int .i64 x_11.Col, .bool x_11.Pending, .bool p0.Auto]) (v := .agg #[.slice a3 a4 a5, .int .i64 x_11.Row, .int .i64 x_11.Col, .bool x_11.Pending, .bool p0.Auto]) 0 O33 (by kernel_rfl) rfl rfl rfl rfl (by kernel_rfl) ⟨(h2.mono (l8.trans (l12.trans (l14.trans (l22.trans (l30.trans l34)))))).one, rfl, rfl, rfl, rfl, trivial⟩ rfl rfl) ?_
  rintro c36 l36 O35
  refine wln ?_
  refine W.ret ?_
  obtain rfl := Option.some.inj H
  have O37 := O35.selD 2 [] (by kernel_rfl) (by kernel_rfl)
  exact retC (c := c36) (vs := [.slice a3 a4 a5, .int .i64 x_11.Row, .int .i64 x_11.Col, .bool x_11.Pending, .bool p0.Auto]) rfl (by kernel_rfl) (by kernel_rfl) (by kernel_rfl) (O35.on 0 rfl _ rfl).1 ⟨_, c36, rfl, rfl, (l8.trans (l12.trans (l14.trans (l22.trans (l30.trans (l34.trans l36)))))), (.slice a3 a4 a5), O37, rfl, (h2.mono (l8.trans (l12.trans (l14.trans (l22.trans (l30.trans (l34.trans l36)))))))⟩

def f_linotyperef34_Pen_With (p0 : G_linotyperef34_Pen) (p1 : Int) (p2 : G_api_Line) : Option (G_linotyperef34_Pen) :=
  (app ([] : List G_api_Line) p0.L).bind fun x_8 =>
  (idx x_8 p1).bind fun x_16 =>
  (sets x_8 p1 p2).bind fun w_17 =>
  some (⟨w_17, p0.At, p0.Auto⟩ : G_linotyperef34_Pen)
theorem c_linotyperef34_Pen_With {c0 : Cx} {G : Gm} {F : List En} {v1 : Value} {v3 : Value} (O0 : Own c0 G F) (p0 : G_linotyperef34_Pen) (p1 : Int) (p2 : G_api_Line) {r : G_linotyperef34_Pen} (h2 : Sl R_api_Line c0 v1 p0.L) (h4 : Sl R_api_Cell c0 v3 p2.Cells) (H : f_linotyperef34_Pen_With p0 p1 p2 = some r) :
    Calls Tryd.prog 170 #[.agg #[v1, .int .i64 p0.At.Row, .int .i64 p0.At.Col, .bool p0.At.Pending, .bool p0.Auto], .int .i64 p1, .agg #[v3, .bool p2.Wrap]] c0.w (Post c0 fun c v => ∃ y1 : Value, ∃ y2 : List Value, Own c G (es true R_api_Line y1 62 y2 r.L :: F) ∧ v = .agg #[y1, .int .i64 r.At.Row, .int .i64 r.At.Col, .bool r.At.Pending, .bool r.Auto] ∧ OA R_api_Line c y1 y2 r.L) := by
  unfold f_linotyperef34_Pen_With at H
  refine enter (l := [.agg #[v1, .int .i64 p0.At.Row, .int .i64 p0.At.Col, .bool p0.At.Pending, .bool p0.Auto], .int .i64 p1, .agg #[v3, .bool p2.Wrap]]) Tryd.func170 rfl rfl rfl ?_
  refine sr ?_
  obtain ⟨a5, a6, a7, rfl⟩ := (h2).form
  refine WL.mem rfl (Own.al (T := 122) (vs := [.slice a5 a6 a7, .int .i64 p0.At.Row, .int .i64 p0.At.Col, .bool p0.At.Pending, .bool p0.Auto]) O0 (by kernel_rfl)) ?_
  rintro v11 c10 l10 ⟨b8, rfl, O9⟩
  obtain ⟨a12, a13, a14, rfl⟩ := ((h4.mono l10)).form
  refine WL.mem rfl (Own.bx (T := 62) (vs := [.slice a12 a13 a14, .bool p2.Wrap]) O9 (by kernel_rfl)) ?_
  rintro v19 c18 l18 ⟨b15, rfl, O16, m17⟩
  refine WL.mem rfl (Own.al (T := 122) (vs := [.slice none 0 0, .int .i64 0, .int .i64 0, .bool false, .bool false]) O16 (by kernel_rfl)) ?_
  rintro v23 c22 l22 ⟨b20, rfl, O21⟩
  refine wln ?_
  refine sr ?_
  refine WL.mem rfl (Own.sl (R := R_api_Line) (E := 62) (ls := []) (vs := []) (xs := ([] : List G_api_Line)) true O21 (Nat.succ_pos _) rfl trivial (by kernel_rfl) (by kernel_rfl)) ?_
  rintro v28 c27 l27 ⟨u25, O24, h26⟩
  refine va (.pointer (some ⟨b8, 0, none⟩)) ?_
  refine WL.val0 (v := .slice a5 a6 a7) rfl (rx (by kernel_rfl) (ldE1 (j := 0) Tryd.underlying47 rfl (O24.on 2 rfl) rfl rfl)) ?_
  obtain ⟨x_8, h29, H⟩ := bs H
  refine WL.mem rfl (Own.app (R := R_api_Line) (z := .agg #[.slice none 0 0, .bool false]) (by_ := 32) (ty := 47) 0 O24 rfl h26 (h2.mono (l10.trans (l18.trans (l22.trans l27)))) h29 Tryd.underlying47 (by kernel_rfl) rfl (by kernel_rfl) (by kernel_rfl)) ?_
  rintro v34 c33 l33 ⟨u31, O30, h32⟩
  refine va (.pointer (some ⟨b8, 0, none⟩)) ?_
  obtain ⟨a35, a36, a37, rfl⟩ := (h32).form
  refine WL.memD rfl (Own.st (T := 47) (j := 0) (us := [.slice a35 a36 a37]) (nw := [.slice a35 a36 a37, .int .i64 p0.At.Row, .int .i64 p0.At.Col, .bool p0.At.Pending, .bool p0.Auto]) (v := .slice a35 a36 a37) 2 O30 (by kernel_rfl) rfl rfl rfl rfl (by kernel_rfl) ⟨(h32).one, trivial⟩ rfl rfl) ?_
  rintro c39 l39 O38
  refine wln ?_
  refine sr ?_
  refine va (.pointer (some ⟨b8, 0, none⟩)) ?_
  refine WL.val0 (v := .slice a35 a36 a37) rfl (rx (by kernel_rfl) (ldE1 (j := 0) Tryd.underlying47 rfl (O38.on 2 rfl) rfl rfl)) ?_
  refine va (.int .i64 p1) ?_
  refine WL.val0 (v := .agg #[.slice a12 a13 a14, .bool p2.Wrap]) rfl (rx (by kernel_rfl) (run_loadN (T := 62) (by kernel_rfl) (by kernel_rfl) (fun j u hu => (m17 j u hu).mono (l22.trans (l27.trans (l33.trans l39)))))) ?_
  obtain ⟨x_16, h40, H⟩ := bs H
  refine WL.val0 (v := .pointer (some ⟨sb (.slice a35 a36 a37), p1.toNat * 2, none⟩)) rfl (rx (by kernel_rfl) (run_indexO (k := .i64) Tryd.underlying47 (by kernel_rfl) (h32.mono l39) h40 _)) ?_
  obtain ⟨w_17, h41, H⟩ := bs H
  refine WL.memD rfl (Own.stW (R := R_api_Line) (T := 62) (us := [.slice a12 a13 a14, .bool p2.Wrap]) (x' := p2) (u := .agg #[.slice a12 a13 a14, .bool p2.Wrap]) 0 O38 (by kernel_rfl) rfl (h32.mono l39) h41 rfl (by kernel_rfl) ⟨(h4.mono (l10.trans (l18.trans (l22.trans (l27.trans (l33.trans l39)))))).one, rfl, trivial⟩ rfl ⟨(.slice a12 a13 a14), rfl, (h4.mono (l10.trans (l18.trans (l22.trans (l27.trans (l33.trans l39))))))⟩) ?_
  rintro c45 l45 ⟨u43, O42, h44⟩
  refine wln ?_
  refine sr ?_
  refine WL.val0 (v := .agg #[.slice a35 a36 a37, .int .i64 p0.At.Row, .int .i64 p0.At.Col, .bool p0.At.Pending, .bool p0.Auto]) rfl (rx (by kernel_rfl) (ldEN (T := 122) (j := 0) (l := [.slice a35 a36 a37, .int .i64 p0.At.Row, .int .i64 p0.At.Col, .bool p0.At.Pending, .bool p0.Auto]) (by kernel_rfl) (by kernel_rfl) (O42.on 2 rfl) rfl rfl)) ?_
  refine WL.memD rfl (Own.st (T := 122) (j := 0) (us := [.slice a35 a36 a37, .int .i64 p0.At.Row, .int .i64 p0.At.Col, .bool p0.At.Pending, .bool p0.Auto]) (nw := [.slice a35 a36 a37, .int .i64 p0.At.Row, .int .i64 p0.At.Col, .bool p0.At.Pending, .bool p0.Auto]) (v := .agg #[.slice a35 a36 a37, .int .i64 p0.At.Row, .int .i64 p0.At.Col, .bool p0.At.Pending, .bool p0.Auto]) 1 O42 (by kernel_rfl) rfl rfl rfl rfl (by kernel_rfl) ⟨(h44).one, rfl, rfl, rfl, rfl, trivial⟩ rfl rfl) ?_
  rintro c47 l47 O46
  refine wln ?_
  refine W.ret ?_
  obtain rfl := Option.some.inj H
  have O48 := O46.selD 3 [0] (by kernel_rfl) (by kernel_rfl)
  exact retC (c := c47) (vs := [.slice a35 a36 a37, .int .i64 p0.At.Row, .int .i64 p0.At.Col, .bool p0.At.Pending, .bool p0.Auto]) rfl (by kernel_rfl) (by kernel_rfl) (by kernel_rfl) (O46.on 1 rfl _ rfl).1 ⟨_, c47, rfl, rfl, (l10.trans (l18.trans (l22.trans (l27.trans (l33.trans (l39.trans (l45.trans l47))))))), (.slice a35 a36 a37), u43, O48, rfl, (h44.mono l47)⟩

def f_linotyperef34_Pen_NewLine (p0 : G_linotyperef34_Pen) : Option (G_linotyperef34_Pen) :=
  (f_linotyperef34_Pen_Hold p0).bind fun x_5 =>
  if (decide ((w64 (x_5.At.Row + 1)) < (x_5.L.length : Int))) = true then
  some (⟨x_5.L, (⟨(w64 (x_5.At.Row + 1)), x_5.At.Col, false⟩ : G_api_Cursor), x_5.Auto⟩ : G_linotyperef34_Pen)
  else
  (f_linotyperef33_Move x_5.L 0 (x_5.L.length : Int) 1 true).bind fun x_37 =>
  some (⟨x_37, (⟨x_5.At.Row, x_5.At.Col, false⟩ : G_api_Cursor), x_5.Auto⟩ : G_linotyperef34_Pen)
theorem c_linotyperef34_Pen_NewLine {c0 : Cx} {G : Gm} {F : List En} {v1 : Value} (O0 : Own c0 G F) (p0 : G_linotyperef34_Pen) {r : G_linotyperef34_Pen} (h2 : Sl R_api_Line c0 v1 p0.L) (H : f_linotyperef34_Pen_NewLine p0 = some r) :
    Calls Tryd.prog 78 #[.agg #[v1, .int .i64 p0.At.Row, .int .i64 p0.At.Col, .bool p0.At.Pending, .bool p0.Auto]] c0.w (Post c0 fun c v => ∃ y1 : Value, Own c G (F) ∧ v = .agg #[y1, .int .i64 r.At.Row, .int .i64 r.At.Col, .bool r.At.Pending, .bool r.Auto] ∧ Sl R_api_Line c y1 r.L) := by
  unfold f_linotyperef34_Pen_NewLine at H
  refine enter (l := [.agg #[v1, .int .i64 p0.At.Row, .int .i64 p0.At.Col, .bool p0.At.Pending, .bool p0.Auto]]) Tryd.func78 rfl rfl rfl ?_
  refine sr ?_
  obtain ⟨a3, a4, a5, rfl⟩ := (h2).form
  refine WL.mem rfl (Own.al (T := 122) (vs := [.slice a3 a4 a5, .int .i64 p0.At.Row, .int .i64 p0.At.Col, .bool p0.At.Pending, .bool p0.Auto]) O0 (by kernel_rfl)) ?_
  rintro v9 c8 l8 ⟨b6, rfl, O7⟩
  refine WL.mem rfl (Own.al (T := 122) (vs := [.slice none 0 0, .int .i64 0, .int .i64 0, .bool false, .bool false]) O7 (by kernel_rfl)) ?_
  rintro v13 c12 l12 ⟨b10, rfl, O11⟩
  refine wln ?_
  refine sr ?_
  refine WL.val0 (v := .agg #[.slice a3 a4 a5, .int .i64 p0.At.Row, .int .i64 p0.At.Col, .bool p0.At.Pending, .bool p0.Auto]) rfl (rx (by kernel_rfl) (ldEN (T := 122) (j := 0) (l := [.slice a3 a4 a5, .int .i64 p0.At.Row, .int .i64 p0.At.Col, .bool p0.At.Pending, .bool p0.Auto]) (by kernel_rfl) (by kernel_rfl) (O11.on 1 rfl) rfl rfl)) ?_
  obtain ⟨x_5, h14, H⟩ := bs H
  refine WL.callP rfl (by kernel_rfl) (c_linotyperef34_Pen_Hold O11 p0 (h2.mono (l8.trans l12)) h14) ?_
  rintro v22 c21 l21 ⟨v15, O18, rfl, h16⟩
  obtain ⟨a23, a24, a25, rfl⟩ := (h16).form
  refine WL.memD rfl (Own.st (T := 122) (j := 0) (us := [.slice a23 a24 a25, .int .i64 x_5.At.Row, .int .i64 x_5.At.Col, .bool x_5.At.Pending, .bool x_5.Auto]) (nw := [.slice a23 a24 a25, .int .i64 x_5.At.Row, .int .i64 x_5.At.Col, .bool x_5.At.Pending, .bool x_5.Auto]) (v := .agg #[.slice a23 a24 a25, .int .i64 x_5.At.Row, .int .i64 x_5.At.Col, .bool x_5.At.Pending, .bool x_5.Auto]) 1 O18 (by kernel_rfl) rfl rfl rfl rfl (by kernel_rfl) ⟨h16.one, rfl, rfl, rfl, rfl, trivial⟩ rfl rfl) ?_
  rintro c27 l27 O26
  refine wln ?_
  refine sr ?_
  refine va (.pointer (some ⟨b6, 1, none⟩)) ?_
  refine va (.pointer (some ⟨b6, 3, none⟩)) ?_
  refine WL.memD rfl (Own.st (T := 4) (j := 3) (us := [.bool false]) (nw := [.slice a23 a24 a25, .int .i64 x_5.At.Row, .int .i64 x_5.At.Col, .bool false, .bool x_5.Auto]) (v := .bool false) 1 O26 (by kernel_rfl) rfl rfl rfl rfl (by kernel_rfl) ⟨rfl, trivial⟩ rfl rfl) ?_
  rintro c29 l29 O28
  refine wln ?_
  refine W.seq ?_
  refine sr ?_
  refine va (.pointer (some ⟨b6, 1, none⟩)) ?_
  refine va (.pointer (some ⟨b6, 1, none⟩)) ?_
  refine WL.val0 (v := .int .i64 x_5.At.Row) rfl (rx (by kernel_rfl) (ldE1 (j := 1) Tryd.underlying3 rfl (O28.on 1 rfl) rfl rfl)) ?_
  refine va (.int .i64 (w64 (x_5.At.Row + 1))) ?_
  refine va (.pointer (some ⟨b6, 0, none⟩)) ?_
  refine WL.val0 (v := .slice a23 a24 a25) rfl (rx (by kernel_rfl) (ldE1 (j := 0) Tryd.underlying47 rfl (O28.on 1 rfl) rfl rfl)) ?_
  refine WL.val0 (v := .int .i64 (x_5.L.length : Int)) rfl (rx (by kernel_rfl) (run_len (ty := 3) Tryd.underlying47 (h16.mono (l27.trans l29)) _)) ?_
  refine va (.bool (decide ((w64 (x_5.At.Row + 1)) < (x_5.L.length : Int)))) ?_
  refine wln ?_
  refine W.cond (t := decide ((w64 (x_5.At.Row + 1)) < (x_5.L.length : Int))) (by kernel_rfl) (fun h30 => ?_) (fun h30 => ?_)
  · have H := it h30 H
    refine sr ?_
    refine va (.pointer (some ⟨b6, 1, none⟩)) ?_
    refine va (.pointer (some ⟨b6, 1, none⟩)) ?_
    refine WL.val0 (v := .int .i64 x_5.At.Row) rfl (rx (by kernel_rfl) (ldE1 (j := 1) Tryd.underlying3 rfl (O28.on 1 rfl) rfl rfl)) ?_
    refine va (.int .i64 (w64 (x_5.At.Row + 1))) ?_
    refine va (.pointer (some ⟨b6, 1, none⟩)) ?_
    refine va (.pointer (some ⟨b6, 1, none⟩)) ?_
    refine WL.memD rfl (Own.st (T := 3) (j := 1) (us := [.int .i64 (w64 (x_5.At.Row + 1))]) (nw := [.slice a23 a24 a25, .int .i64 (w64 (x_5.At.Row + 1)), .int .i64 x_5.At.Col, .bool false, .bool x_5.Auto]) (v := .int .i64 (w64 (x_5.At.Row + 1))) 1 O28 (by kernel_rfl) rfl rfl rfl rfl (by kernel_rfl) ⟨rfl, trivial⟩ rfl rfl) ?_
    rintro c32 l32 O31
    refine wln ?_
    refine sr ?_
    refine WL.val0 (v := .agg #[.slice a23 a24 a25, .int .i64 (w64 (x_5.At.Row + 1)), .int .i64 x_5.At.Col, .bool false, .bool x_5.Auto]) rfl (rx (by kernel_rfl) (ldEN (T := 122) (j := 0) (l := [.slice a23 a24 a25, .int .i64 (w64 (x_5.At.Row + 1)), .int .i64 x_5.At.Col, .bool false, .bool x_5.Auto]) (by kernel_rfl) (by kernel_rfl) (O31.on 1 rfl) rfl rfl)) ?_
    refine WL.memD rfl (Own.st (T := 122) (j := 0) (us := [.slice a23 a24 a25, .int .i64 (w64 (x_5.At.Row + 1)), .int .i64 x_5.At.Col, .bool false, .bool x_5.Auto]) (nw := [.slice a23 a24 a25, .int .i64 (w64 (x_5.At.Row + 1)), .int .i64 x_5.At.Col, .bool false, .bool x_5.Auto]) (v := .agg #[.slice a23 a24 a25, .int .i64 (w64 (x_5.At.Row + 1)), .int .i64 x_5.At.Col, .bool false, .bool x_5.Auto]) 0 O31 (by kernel_rfl) rfl rfl rfl rfl (by kernel_rfl) ⟨(h16.mono (l27.trans (l29.trans l32))).one, rfl, rfl, rfl, rfl, trivial⟩ rfl rfl) ?_
    rintro c34 l34 O33
    refine wln ?_
    refine W.ret ?_
    refine thr ?_
    obtain rfl := Option.some.inj H
    have O35 := O33.selD 2 [] (by kernel_rfl) (by kernel_rfl)
    exact retC (c := c34) (vs := [.slice a23 a24 a25, .int .i64 (w64 (x_5.At.Row + 1)), .int .i64 x_5.At.Col, .bool false, .bool x_5.Auto]) rfl (by kernel_rfl) (by kernel_rfl) (by kernel_rfl) (O33.on 0 rfl _ rfl).1 ⟨_, c34, rfl, rfl, (l8.trans (l12.trans (l21.trans (l27.trans (l29.trans (l32.trans l34)))))), (.slice a23 a24 a25), O35, rfl, (h16.mono (l27.trans (l29.trans (l32.trans l34))))⟩
  · have H := ie h30 H
    refine W.skip ?_
    refine nrm ?_
    refine sr ?_
    refine va (.pointer (some ⟨b6, 0, none⟩)) ?_
    refine WL.val0 (v := .slice a23 a24 a25) rfl (rx (by kernel_rfl) (ldE1 (j := 0) Tryd.underlying47 rfl (O28.on 1 rfl) rfl rfl)) ?_
    refine va (.pointer (some ⟨b6, 0, none⟩)) ?_
    refine WL.val0 (v := .slice a23 a24 a25) rfl (rx (by kernel_rfl) (ldE1 (j := 0) Tryd.underlying47 rfl (O28.on 1 rfl) rfl rfl)) ?_
    refine WL.val0 (v := .int .i64 (x_5.L.length : Int)) rfl (rx (by kernel_rfl) (run_len (ty := 3) Tryd.underlying47 (h16.mono (l27.trans l29)) _)) ?_
    obtain ⟨x_37, h36, H⟩ := bs H
    refine WL.callP rfl (by kernel_rfl) (c_linotyperef33_Move O28 x_5.L 0 (x_5.L.length : Int) 1 true (h16.mono (l27.trans l29)) h36) ?_
    rintro v37 c43 l43 ⟨_, O40, rfl, h38⟩
    refine va (.pointer (some ⟨b6, 0, none⟩)) ?_
    obtain ⟨a45, a46, a47, rfl⟩ := (h38).form
    refine WL.memD rfl (Own.st (T := 47) (j := 0) (us := [.slice a45 a46 a47]) (nw := [.slice a45 a46 a47, .int .i64 x_5.At.Row, .int .i64 x_5.At.Col, .bool false, .bool x_5.Auto]) (v := .slice a45 a46 a47) 1 O40 (by kernel_rfl) rfl rfl rfl rfl (by kernel_rfl) ⟨h38.one, trivial⟩ rfl rfl) ?_
    rintro c49 l49 O48
    refine wln ?_
    refine sr ?_
    refine WL.val0 (v := .agg #[.slice a45 a46 a47, .int .i64 x_5.At.Row, .int .i64 x_5.At.Col, .bool false, .bool x_5.Auto]) rfl (rx (by kernel_rfl) (ldEN (T := 122) (j := 0) (l := [.slice a45 a46 a47, .int .i64 x_5.At.Row, .int .i64 x_5.At.Col, .bool false, .bool x_5.Auto]) (by kernel_rfl) (by kernel_rfl) (O48.on 1 rfl) rfl rfl)) ?_
    refine WL.memD rfl (Own.st (T := 122) (j := 0) (us := [.slice a45 a46 a47, .int .i64 x_5.At.Row, .int .i64 x_5.At.Col, .bool false, .bool x_5.Auto]) (nw := [.slice a45 a46 a47, .int .i64 x_5.At.Row, .int .i64 x_5.At.Col, .bool false, .bool x_5.Auto]) (v := .agg #[.slice a45 a46 a47, .int .i64 x_5.At.Row, .int .i64 x_5.At.Col, .bool false, .bool x_5.Auto]) 0 O48 (by kernel_rfl) rfl rfl rfl rfl (by kernel_rfl) ⟨(h38.mono l49).one, rfl, rfl, rfl, rfl, trivial⟩ rfl rfl) ?_
    rintro c51 l51 O50
    refine wln ?_
    refine W.ret ?_
    obtain rfl := Option.some.inj H
    have O52 := O50.selD 2 [] (by kernel_rfl) (by kernel_rfl)
    exact retC (c := c51) (vs := [.slice a45 a46 a47, .int .i64 x_5.At.Row, .int .i64 x_5.At.Col, .bool false, .bool x_5.Auto]) rfl (by kernel_rfl) (by kernel_rfl) (by kernel_rfl) (O50.on 0 rfl _ rfl).1 ⟨_, c51, rfl, rfl, (l8.trans (l12.trans (l21.trans (l27.trans (l29.trans (l43.trans (l49.trans l51))))))), (.slice a45 a46 a47), O52, rfl, (h38.mono (l49.trans l51))⟩

def f_linotyperef34_Pen_GoOn (p0 : G_linotyperef34_Pen) : Option (G_linotyperef34_Pen) :=
  (idx p0.L p0.At.Row).bind fun x_13 =>
  (f_linotyperef34_Pen_With p0 p0.At.Row (⟨x_13.Cells, true⟩ : G_api_Line)).bind fun x_17 =>
  (f_linotyperef34_Pen_NewLine (⟨x_17.L, (⟨x_17.At.Row, 0, false⟩ : G_api_Cursor), x_17.Auto⟩ : G_linotyperef34_Pen)).bind fun x_28 =>
  some x_28
theorem c_linotyperef34_Pen_GoOn {c0 : Cx} {G : Gm} {F : List En} {v1 : Value} (O0 : Own c0 G F) (p0 : G_linotyperef34_Pen) {r : G_linotyperef34_Pen} (h2 : Sl R_api_Line c0 v1 p0.L) (H : f_linotyperef34_Pen_GoOn p0 = some r) :
    Calls Tryd.prog 138 #[.agg #[v1, .int .i64 p0.At.Row, .int .i64 p0.At.Col, .bool p0.At.Pending, .bool p0.Auto]] c0.w (Post c0 fun c v => ∃ y1 : Value, Own c G (F) ∧ v = .agg #[y1, .int .i64 r.At.Row, .int .i64 r.At.Col, .bool r.At.Pending, .bool r.Auto] ∧ Sl R_api_Line c y1 r.L) := by
  unfold f_linotyperef34_Pen_GoOn at H
  refine enter (l := [.agg #[v1, .int .i64 p0.At.Row, .int .i64 p0.At.Col, .bool p0.At.Pending, .bool p0.Auto]]) Tryd.func138 rfl rfl rfl ?_
  refine sr ?_
  obtain ⟨a3, a4, a5, rfl⟩ := (h2).form
  refine WL.mem rfl (Own.al (T := 122) (vs := [.slice a3 a4 a5, .int .i64 p0.At.Row, .int .i64 p0.At.Col, .bool p0.At.Pending, .bool p0.Auto]) O0 (by kernel_rfl)) ?_
  rintro v9 c8 l8 ⟨b6, rfl, O7⟩
  refine WL.mem rfl (Own.al (T := 122) (vs := [.slice none 0 0, .int .i64 0, .int .i64 0, .bool false, .bool false]) O7 (by kernel_rfl)) ?_
  rintro v13 c12 l12 ⟨b10, rfl, O11⟩
  refine wln ?_
  refine W.seq ?_
  refine W.regionD [14] (Kp G0 [⟨.pointer (some ⟨b6, 0, none⟩), 122, [.slice a3 a4 a5, .int .i64 p0.At.Row, .int .i64 p0.At.Col, .bool p0.At.Pending, .bool p0.Auto], 0⟩]) O11 (by kernel_rfl) ?_
  intro c14 l14 O15
  have p16 : Kp G0 [⟨.pointer (some ⟨b6, 0, none⟩), 122, [.slice a3 a4 a5, .int .i64 p0.At.Row, .int .i64 p0.At.Col, .bool p0.At.Pending, .bool p0.Auto], 0⟩] c14 := (Kp.cons (O15.on 1 rfl) Kp.nil0)
  refine AC.takeK 0 (.agg #[.slice a3 a4 a5, .int .i64 p0.At.Row, .int .i64 p0.At.Col, .bool p0.At.Pending, .bool p0.Auto]) p16 rfl (by kernel_rfl) (by kernel_rfl) (by kernel_rfl) (fun c' hle hk => (rx (by kernel_rfl) (ldEN (T := 122) (j := 0) (l := [.slice a3 a4 a5, .int .i64 p0.At.Row, .int .i64 p0.At.Col, .bool p0.At.Pending, .bool p0.Auto]) (by kernel_rfl) (by kernel_rfl) (hk.on 0 rfl) rfl rfl))) ?_
  refine ta 1 (.pointer (some ⟨b6, 1, none⟩)) ?_
  refine ta 2 (.pointer (some ⟨b6, 1, none⟩)) ?_
  refine AC.takeK 3 (.int .i64 p0.At.Row) p16 rfl (by kernel_rfl) (by kernel_rfl) (by kernel_rfl) (fun c' hle hk => (rx (by kernel_rfl) (ldE1 (j := 1) Tryd.underlying3 rfl (hk.on 0 rfl) rfl rfl))) ?_
  refine ta 4 (.pointer (some ⟨b6, 0, none⟩)) ?_
  refine AC.takeK 5 (.slice a3 a4 a5) p16 rfl (by kernel_rfl) (by kernel_rfl) (by kernel_rfl) (fun c' hle hk => (rx (by kernel_rfl) (ldE1 (j := 0) Tryd.underlying47 rfl (hk.on 0 rfl) rfl rfl))) ?_
  refine ta 6 (.pointer (some ⟨b6, 1, none⟩)) ?_
  refine ta 7 (.pointer (some ⟨b6, 1, none⟩)) ?_
  refine AC.takeK 8 (.int .i64 p0.At.Row) p16 rfl (by kernel_rfl) (by kernel_rfl) (by kernel_rfl) (fun c' hle hk => (rx (by kernel_rfl) (ldE1 (j := 1) Tryd.underlying3 rfl (hk.on 0 rfl) rfl rfl))) ?_
  obtain ⟨x_13, h17, H⟩ := bs H
  obtain ⟨l_18, h19, m20⟩ := Sl.at (h2.mono (l8.trans (l12.trans l14))) (idx_get h17)
  obtain ⟨v21, rfl, h22⟩ := h19
  refine AC.take 9 (.pointer (some ⟨sb (.slice a3 a4 a5), so (.slice a3 a4 a5) + p0.At.Row.toNat * 2, none⟩)) rfl (by kernel_rfl) (by kernel_rfl) (fun c' hle => (rx (by kernel_rfl) (run_index (k := .i64) Tryd.underlying47 (by kernel_rfl) (h2.mono (l8.trans (l12.trans l14))) h17 _))) ?_
  refine ta 10 (.pointer (some ⟨sb (.slice a3 a4 a5), so (.slice a3 a4 a5) + p0.At.Row.toNat * 2, none⟩)) ?_
  refine AC.take 11 (v21) rfl (by kernel_rfl) (by kernel_rfl) (fun c' hle => (rx (by kernel_rfl) (run_load1 Tryd.underlying22 rfl ((fun j u hu => (m20 j u hu).mono hle) 0 _ rfl)))) ?_
  obtain ⟨a23, a24, a25, rfl⟩ := (h22).form
  refine ta 12 (.agg #[.slice a23 a24 a25, .bool true]) ?_
  obtain ⟨x_17, h26, H⟩ := bs H
  refine AC.one 13 (by kernel_rfl) (Go1.callP 13 rfl (by kernel_rfl) (by kernel_rfl) (by kernel_rfl) (c_linotyperef34_Pen_With O15 p0 p0.At.Row (⟨x_13.Cells, true⟩ : G_api_Line) (h2.mono (l8.trans (l12.trans l14))) h22 h26) ?_)
  rintro v35 c34 l34 ⟨v27, u28, O31, rfl, h29⟩
  have p36 : Kp G0 [⟨.pointer (some ⟨b6, 0, none⟩), 122, [.slice a3 a4 a5, .int .i64 p0.At.Row, .int .i64 p0.At.Col, .bool p0.At.Pending, .bool p0.Auto], 0⟩] c34 := (Kp.cons (O31.on 2 rfl) Kp.nil0)
  refine ⟨.inr p36, ?_⟩
  obtain ⟨a37, a38, a39, rfl⟩ := (h29).form
  refine AC.one 14 (by kernel_rfl) (Go1.memD 14 rfl (by kernel_rfl) (by kernel_rfl) (Own.st (T := 122) (j := 0) (us := [.slice a37 a38 a39, .int .i64 x_17.At.Row, .int .i64 x_17.At.Col, .bool x_17.At.Pending, .bool x_17.Auto]) (nw := [.slice a37 a38 a39, .int .i64 x_17.At.Row, .int .i64 x_17.At.Col, .bool x_17.At.Pending, .bool x_17.Auto]) (v := .agg #[.slice a37 a38 a39, .int .i64 x_17.At.Row, .int .i64 x_17.At.Col, .bool x_17.At.Pending, .bool x_17.Auto]) 2 O31 (by kernel_rfl) rfl rfl rfl rfl (by kernel_rfl) ⟨(h29).one, rfl, rfl, rfl, rfl, trivial⟩ rfl rfl) ?_)
  rintro c41 l41 O40
  refine ⟨.inl rfl, ?_⟩
  refine AC.done (by kernel_rfl) ?_
  refine nrm ?_
  refine sr ?_
  refine va (.pointer (some ⟨b6, 1, none⟩)) ?_
  refine va (.pointer (some ⟨b6, 1, none⟩)) ?_
  refine WL.val0 (v := .int .i64 x_17.At.Row) rfl (rx (by kernel_rfl) (ldE1 (j := 1) Tryd.underlying3 rfl (O40.on 2 rfl) rfl rfl)) ?_
  refine va (.agg #[.int .i64 x_17.At.Row, .int .i64 0, .bool false]) ?_
  refine va (.pointer (some ⟨b6, 1, none⟩)) ?_
  refine WL.memD rfl (Own.st (T := 120) (j := 1) (us := [.int .i64 x_17.At.Row, .int .i64 0, .bool false]) (nw := [.slice a37 a38 a39, .int .i64 x_17.At.Row, .int .i64 0, .bool false, .bool x_17.Auto]) (v := .agg #[.int .i64 x_17.At.Row, .int .i64 0, .bool false]) 2 O40 (by kernel_rfl) rfl rfl rfl rfl (by kernel_rfl) ⟨rfl, rfl, rfl, trivial⟩ rfl rfl) ?_
  rintro c43 l43 O42
  refine wln ?_
  refine sr ?_
  refine WL.val0 (v := .agg #[.slice a37 a38 a39, .int .i64 x_17.At.Row, .int .i64 0, .bool false, .bool x_17.Auto]) rfl (rx (by kernel_rfl) (ldEN (T := 122) (j := 0) (l := [.slice a37 a38 a39, .int .i64 x_17.At.Row, .int .i64 0, .bool false, .bool x_17.Auto]) (by kernel_rfl) (by kernel_rfl) (O42.on 2 rfl) rfl rfl)) ?_
  obtain ⟨c46, h47, l46, O44, h45⟩ := O42.frz 0 rfl (h29.mono (l41.trans l43))
  refine WL.gh h47 ?_
  obtain ⟨x_28, h48, H⟩ := bs H
  refine WL.callP rfl (by kernel_rfl) (c_linotyperef34_Pen_NewLine O44 (⟨x_17.L, (⟨x_17.At.Row, 0, false⟩ : G_api_Cursor), x_17.Auto⟩ : G_linotyperef34_Pen) h45 h48) ?_
  rintro v56 c55 l55 ⟨v49, O52, rfl, h50⟩
  obtain ⟨a57, a58, a59, rfl⟩ := (h50).form
  refine WL.memD rfl (Own.st (T := 122) (j := 0) (us := [.slice a57 a58 a59, .int .i64 x_28.At.Row, .int .i64 x_28.At.Col, .bool x_28.At.Pending, .bool x_28.Auto]) (nw := [.slice a57 a58 a59, .int .i64 x_28.At.Row, .int .i64 x_28.At.Col, .bool x_28.At.Pending, .bool x_28.Auto]) (v := .agg #[.slice a57 a58 a59, .int .i64 x_28.At.Row, .int .i64 x_28.At.Col, .bool x_28.At.Pending, .bool x_28.Auto]) 1 O52 (by kernel_rfl) rfl rfl rfl rfl (by kernel_rfl) ⟨h50.one, rfl, rfl, rfl, rfl, trivial⟩ rfl rfl) ?_
  rintro c61 l61 O60
  refine wln ?_
  refine W.ret ?_
  obtain rfl := Option.some.inj H
  have O62 := O60.selD 3 [] (by kernel_rfl) (by kernel_rfl)
  exact retC (c := c61) (vs := [.slice a57 a58 a59, .int .i64 x_28.At.Row, .int .i64 x_28.At.Col, .bool x_28.At.Pending, .bool x_28.Auto]) rfl (by kernel_rfl) (by kernel_rfl) (by kernel_rfl) (O60.on 1 rfl _ rfl).1 ⟨_, c61, rfl, rfl, (l8.trans (l12.trans (l14.trans (l34.trans (l41.trans (l43.trans (l46.trans (l55.trans l61)))))))), (.slice a57 a58 a59), O62, rfl, (h50.mono l61)⟩

def f_linotyperef34_Pen_Paint (p0 : G_linotyperef34_Pen) (p1 : Int) (p2 : Int) (p3 : List G_api_Cell) : Option (G_linotyperef34_Pen) :=
  (idx p0.L p1).bind fun x_7 =>
  (idx p0.L p1).bind fun x_13 =>
  (f_linotyperef24_Paint x_7.Cells x_13.Wrap p2 p3).bind fun x_18 =>
  (f_linotyperef34_Pen_With p0 p1 (⟨x_18.1, x_18.2⟩ : G_api_Line)).bind fun x_30 =>
  some x_30
theorem c_linotyperef34_Pen_Paint {c0 : Cx} {G : Gm} {F : List En} {v1 : Value} {v3 : Value} (O0 : Own c0 G F) (p0 : G_linotyperef34_Pen) (p1 : Int) (p2 : Int) (p3 : List G_api_Cell) {r : G_linotyperef34_Pen} (h2 : Sl R_api_Line c0 v1 p0.L) (h4 : Sl R_api_Cell c0 v3 p3) (H : f_linotyperef34_Pen_Paint p0 p1 p2 p3 = some r) :
    Calls Tryd.prog 139 #[.agg #[v1, .int .i64 p0.At.Row, .int .i64 p0.At.Col, .bool p0.At.Pending, .bool p0.Auto], .int .i64 p1, .int .i64 p2, v3] c0.w (Post c0 fun c v => ∃ y1 : Value, ∃ y2 : List Value, Own c G (es true R_api_Line y1 62 y2 r.L :: F) ∧ v = .agg #[y1, .int .i64 r.At.Row, .int .i64 r.At.Col, .bool r.At.Pending, .bool r.Auto] ∧ OA R_api_Line c y1 y2 r.L) := by
  unfold f_linotyperef34_Pen_Paint at H
  refine enter (l := [.agg #[v1, .int .i64 p0.At.Row, .int .i64 p0.At.Col, .bool p0.At.Pending, .bool p0.Auto], .int .i64 p1, .int .i64 p2, v3]) Tryd.func139 rfl rfl rfl ?_
  refine sr ?_
  obtain ⟨a5, a6, a7, rfl⟩ := (h2).form
  refine WL.mem rfl (Own.bx (T := 122) (vs := [.slice a5 a6 a7, .int .i64 p0.At.Row, .int .i64 p0.At.Col, .bool p0.At.Pending, .bool p0.Auto]) O0 (by kernel_rfl)) ?_
  rintro v12 c11 l11 ⟨b8, rfl, O9, m10⟩
  refine WL.mem rfl (Own.al (T := 122) (vs := [.slice none 0 0, .int .i64 0, .int .i64 0, .bool false, .bool false]) O9 (by kernel_rfl)) ?_
  rintro v16 c15 l15 ⟨b13, rfl, O14⟩
  refine wln ?_
  refine W.seq ?_
  refine W.regionD [] (Kp G0 []) O14 (by kernel_rfl) ?_
  intro c17 l17 O18
  have p19 : Kp G0 [] c17 := Kp.nil0
  refine ta 0 (.pointer (some ⟨b8, 0, none⟩)) ?_
  refine AC.take 1 (.slice a5 a6 a7) rfl (by kernel_rfl) (by kernel_rfl) (fun c' hle => (rx (by kernel_rfl) (run_load1 Tryd.underlying47 rfl ((fun j u hu => (m10 j u hu).mono ((l15.trans l17).trans hle)) 0 _ rfl)))) ?_
  refine ta 2 (.int .i64 p1) ?_
  obtain ⟨x_7, h20, H⟩ := bs H
  obtain ⟨l_21, h22, m23⟩ := Sl.at (h2.mono (l11.trans (l15.trans l17))) (idx_get h20)
  obtain ⟨v24, rfl, h25⟩ := h22
  refine AC.take 3 (.pointer (some ⟨sb (.slice a5 a6 a7), so (.slice a5 a6 a7) + p1.toNat * 2, none⟩)) rfl (by kernel_rfl) (by kernel_rfl) (fun c' hle => (rx (by kernel_rfl) (run_index (k := .i64) Tryd.underlying47 (by kernel_rfl) (h2.mono (l11.trans (l15.trans l17))) h20 _))) ?_
  refine ta 4 (.pointer (some ⟨sb (.slice a5 a6 a7), so (.slice a5 a6 a7) + p1.toNat * 2, none⟩)) ?_
  refine AC.take 5 (v24) rfl (by kernel_rfl) (by kernel_rfl) (fun c' hle => (rx (by kernel_rfl) (run_load1 Tryd.underlying22 rfl ((fun j u hu => (m23 j u hu).mono hle) 0 _ rfl)))) ?_
  refine ta 6 (.pointer (some ⟨b8, 0, none⟩)) ?_
  refine AC.take 7 (.slice a5 a6 a7) rfl (by kernel_rfl) (by kernel_rfl) (fun c' hle => (rx (by kernel_rfl) (run_load1 Tryd.underlying47 rfl ((fun j u hu => (m10 j u hu).mono ((l15.trans l17).trans hle)) 0 _ rfl)))) ?_
  refine ta 8 (.int .i64 p1) ?_
  obtain ⟨x_13, h26, H⟩ := bs H
  obtain ⟨l_27, h28, m29⟩ := Sl.at (h2.mono (l11.trans (l15.trans l17))) (idx_get h26)
  obtain ⟨v30, rfl, h31⟩ := h28
  refine AC.take 9 (.pointer (some ⟨sb (.slice a5 a6 a7), so (.slice a5 a6 a7) + p1.toNat * 2, none⟩)) rfl (by kernel_rfl) (by kernel_rfl) (fun c' hle => (rx (by kernel_rfl) (run_index (k := .i64) Tryd.underlying47 (by kernel_rfl) (h2.mono (l11.trans (l15.trans l17))) h26 _))) ?_
  refine ta 10 (.pointer (some ⟨sb (.slice a5 a6 a7), so (.slice a5 a6 a7) + p1.toNat * 2 + 1, none⟩)) ?_
  refine AC.take 11 (.bool x_13.Wrap) rfl (by kernel_rfl) (by kernel_rfl) (fun c' hle => (rx (by kernel_rfl) (run_load1 Tryd.underlying4 rfl ((fun j u hu => (m29 j u hu).mono hle) 1 _ rfl)))) ?_
  refine ta 12 (.int .i64 p2) ?_
  refine ta 13 (v3) ?_
  obtain ⟨x_18, h32, H⟩ := bs H
  refine AC.one 14 (by kernel_rfl) (Go1.callP 14 rfl (by kernel_rfl) (by kernel_rfl) (by kernel_rfl) (c_linotyperef24_Paint O18 x_7.Cells x_13.Wrap p2 p3 h25 (h4.mono (l11.trans (l15.trans l17))) h32) ?_)
  rintro v41 c40 l40 ⟨v33, u34, O37, rfl, h35⟩
  have p42 : Kp G0 [] c40 := Kp.nil0
  refine ⟨.inr p42, ?_⟩
  refine ta 15 (.tuple #[v33, .bool x_18.2]) ?_
  refine ta 16 (v33) ?_
  refine ta 17 (.bool x_18.2) ?_
  refine ta 18 (v33) ?_
  refine ta 19 (.bool x_18.2) ?_
  refine AC.done (by kernel_rfl) ?_
  refine nrm ?_
  refine sr ?_
  refine WL.val0 (v := .agg #[.slice a5 a6 a7, .int .i64 p0.At.Row, .int .i64 p0.At.Col, .bool p0.At.Pending, .bool p0.Auto]) rfl (rx (by kernel_rfl) (run_loadN (T := 122) (by kernel_rfl) (by kernel_rfl) (fun j u hu => (m10 j u hu).mono (l15.trans (l17.trans l40))))) ?_
  refine va (.int .i64 p1) ?_
  refine va (v33) ?_
  refine va (.bool x_18.2) ?_
  obtain ⟨a43, a44, a45, rfl⟩ := (h35).form
  refine va (.agg #[.slice a43 a44 a45, .bool x_18.2]) ?_
  obtain ⟨c48, h49, l48, O46, h47⟩ := O37.frz 0 rfl h35
  refine WL.gh h49 ?_
  obtain ⟨x_30, h50, H⟩ := bs H
  refine WL.callP rfl (by kernel_rfl) (c_linotyperef34_Pen_With O46 p0 p1 (⟨x_18.1, x_18.2⟩ : G_api_Line) (h2.mono (l11.trans (l15.trans (l17.trans (l40.trans l48))))) h47 h50) ?_
  rintro v59 c58 l58 ⟨v51, u52, O55, rfl, h53⟩
  obtain ⟨a60, a61, a62, rfl⟩ := (h53).form
  refine WL.memD rfl (Own.st (T := 122) (j := 0) (us := [.slice a60 a61 a62, .int .i64 x_30.At.Row, .int .i64 x_30.At.Col, .bool x_30.At.Pending, .bool x_30.Auto]) (nw := [.slice a60 a61 a62, .int .i64 x_30.At.Row, .int .i64 x_30.At.Col, .bool x_30.At.Pending, .bool x_30.Auto]) (v := .agg #[.slice a60 a61 a62, .int .i64 x_30.At.Row, .int .i64 x_30.At.Col, .bool x_30.At.Pending, .bool x_30.Auto]) 2 O55 (by kernel_rfl) rfl rfl rfl rfl (by kernel_rfl) ⟨(h53).one, rfl, rfl, rfl, rfl, trivial⟩ rfl rfl) ?_
  rintro c64 l64 O63
  refine wln ?_
  refine W.ret ?_
  obtain rfl := Option.some.inj H
  have O65 := O63.selD 3 [0] (by kernel_rfl) (by kernel_rfl)
  exact retC (c := c64) (vs := [.slice a60 a61 a62, .int .i64 x_30.At.Row, .int .i64 x_30.At.Col, .bool x_30.At.Pending, .bool x_30.Auto]) rfl (by kernel_rfl) (by kernel_rfl) (by kernel_rfl) (O63.on 2 rfl _ rfl).1 ⟨_, c64, rfl, rfl, (l11.trans (l15.trans (l17.trans (l40.trans (l48.trans (l58.trans l64)))))), (.slice a60 a61 a62), u52, O65, rfl, (h53.mono l64)⟩

def f_linotyperef31_After (p0 : G_api_Cursor) (p1 : Int) (p2 : Int) (p3 : Bool) : Option (G_api_Cursor) :=
  (if (decide (p1 > 1)) = true then
  (some (2) : Option (Int))
  else
  (some (1) : Option (Int))).bind fun z_6 =>
  (f_linotyperef31_Side p2).bind fun x_16 =>
  if (decide (p0.Col ≥ (w64 (x_16 - z_6)))) = true then
  (f_linotyperef31_Side p2).bind fun x_24 =>
  some (⟨p0.Row, (w64 (x_24 - 1)), p3⟩ : G_api_Cursor)
  else
  some (⟨p0.Row, (w64 (p0.Col + z_6)), false⟩ : G_api_Cursor)
theorem c_linotyperef31_After {c0 : Cx} {G : Gm} {F : List En} (O0 : Own c0 G F) (p0 : G_api_Cursor) (p1 : Int) (p2 : Int) (p3 : Bool) {r : G_api_Cursor} (H : f_linotyperef31_After p0 p1 p2 p3 = some r) :
    Calls Tryd.prog 140 #[.agg #[.int .i64 p0.Row, .int .i64 p0.Col, .bool p0.Pending], .int .i64 p1, .int .i64 p2, .bool p3] c0.w (Post c0 fun c v => Own c G (F) ∧ v = .agg #[.int .i64 r.Row, .int .i64 r.Col, .bool r.Pending]) := by
  unfold f_linotyperef31_After at H
  refine enter (l := [.agg #[.int .i64 p0.Row, .int .i64 p0.Col, .bool p0.Pending], .int .i64 p1, .int .i64 p2, .bool p3]) Tryd.func140 rfl rfl rfl ?_
  refine sr ?_
  refine WL.mem rfl (Own.bx (T := 120) (vs := [.int .i64 p0.Row, .int .i64 p0.Col, .bool p0.Pending]) O0 (by kernel_rfl)) ?_
  rintro v5 c4 l4 ⟨b1, rfl, O2, m3⟩
  refine WL.mem rfl (Own.al (T := 120) (vs := [.int .i64 0, .int .i64 0, .bool false]) O2 (by kernel_rfl)) ?_
  rintro v9 c8 l8 ⟨b6, rfl, O7⟩
  refine wln ?_
  refine sr ?_
  refine va (.int .i64 1) ?_
  refine wln ?_
  obtain ⟨z_6, H10, H11⟩ := bs H
  refine W.seqJ (fun e w => ∃ (c : Cx) (g : Nat → Value), w = c.w ∧ c8.le c ∧ Own c G (⟨.pointer (some ⟨b6, 0, none⟩), 120, [.int .i64 0, .int .i64 0, .bool false], 0⟩ :: F) ∧ e = ups g [(2, .int .i64 p2), (3, .bool p3), (4, .pointer (some ⟨b1, 0, none⟩)), (8, .pointer (some ⟨b6, 0, none⟩)), (9, .int .i64 z_6)]) ?_ ?_
  · skip
    refine sr ?_
    refine va (.int .i64 p1) ?_
    refine va (.bool (decide (p1 > 1))) ?_
    refine wln ?_
    refine W.cond (t := decide (p1 > 1)) (by kernel_rfl) (fun h12 => ?_) (fun h12 => ?_)
    · have H10 := it h12 H10
      refine W.region ?_
      refine va (.int .i64 2) ?_
      refine wln ?_
      obtain rfl := Option.some.inj H10
      exact ⟨c8, _, rfl, (Cx.le.refl _), O7, ups_self ⟨rfl, rfl, rfl, rfl, rfl, trivial⟩⟩
    · have H10 := ie h12 H10
      refine W.skip ?_
      refine nrm ?_
      obtain rfl := Option.some.inj H10
      exact ⟨c8, _, rfl, (Cx.le.refl _), O7, ups_self ⟨rfl, rfl, rfl, rfl, rfl, trivial⟩⟩
  · skip
    rintro e_ w_ ⟨c13, g14, rfl, l13, O15, rfl⟩
    refine W.seq ?_
    refine W.seq ?_
    refine W.regionD [] (Kp G0 []) O15 (by kernel_rfl) ?_
    intro c19 l19 O20
    have p21 : Kp G0 [] c19 := Kp.nil0
    refine ta 0 (.pointer (some ⟨b1, 0 + 1, none⟩)) ?_
    refine AC.take 1 (.int .i64 p0.Col) rfl (by kernel_rfl) (by kernel_rfl) (fun c' hle => (rx (by kernel_rfl) (run_load1 Tryd.underlying3 rfl ((fun j u hu => (m3 j u hu).mono ((l8.trans (l13.trans l19)).trans hle)) 1 _ rfl)))) ?_
    refine ta 2 (.int .i64 p2) ?_
    refine ta 4 (.int .i64 z_6) ?_
    obtain ⟨x_16, h22, H11⟩ := bs H11
    refine AC.one 3 (by kernel_rfl) (Go1.callP 3 rfl (by kernel_rfl) (by kernel_rfl) (by kernel_rfl) (c_linotyperef31_Side O20 p2 h22) ?_)
    rintro v28 c27 l27 ⟨O24, rfl⟩
    have p29 : Kp G0 [] c27 := Kp.nil0
    refine ⟨.inr p29, ?_⟩
    refine ta 5 (.int .i64 (w64 (x_16 - z_6))) ?_
    refine ta 6 (.bool (decide (p0.Col ≥ (w64 (x_16 - z_6))))) ?_
    refine AC.done (by kernel_rfl) ?_
    refine nrm ?_
    refine W.cond (t := decide (p0.Col ≥ (w64 (x_16 - z_6)))) (by kernel_rfl) (fun h30 => ?_) (fun h30 => ?_)
    · have H11 := it h30 H11
      refine W.seq ?_
      refine W.regionD [] (Kp G0 []) O24 (by kernel_rfl) ?_
      intro c31 l31 O32
      have p33 : Kp G0 [] c31 := Kp.nil0
      refine ta 0 (.pointer (some ⟨b1, 0, none⟩)) ?_
      refine AC.take 1 (.int .i64 p0.Row) rfl (by kernel_rfl) (by kernel_rfl) (fun c' hle => (rx (by kernel_rfl) (run_load1 Tryd.underlying3 rfl ((fun j u hu => (m3 j u hu).mono ((l8.trans (l13.trans (l19.trans (l27.trans l31)))).trans hle)) 0 _ rfl)))) ?_
      refine ta 2 (.int .i64 p2) ?_
      refine ta 5 (.bool p3) ?_
      obtain ⟨x_24, h34, H11⟩ := bs H11
      refine AC.one 3 (by kernel_rfl) (Go1.callP 3 rfl (by kernel_rfl) (by kernel_rfl) (by kernel_rfl) (c_linotyperef31_Side O32 p2 h34) ?_)
      rintro v40 c39 l39 ⟨O36, rfl⟩
      have p41 : Kp G0 [] c39 := Kp.nil0
      refine ⟨.inr p41, ?_⟩
      refine ta 4 (.int .i64 (w64 (x_24 - 1))) ?_
      refine ta 6 (.agg #[.int .i64 p0.Row, .int .i64 (w64 (x_24 - 1)), .bool p3]) ?_
      refine AC.one 7 (by kernel_rfl) (Go1.memD 7 rfl (by kernel_rfl) (by kernel_rfl) (Own.st (T := 120) (j := 0) (us := [.int .i64 p0.Row, .int .i64 (w64 (x_24 - 1)), .bool p3]) (nw := [.int .i64 p0.Row, .int .i64 (w64 (x_24 - 1)), .bool p3]) (v := .agg #[.int .i64 p0.Row, .int .i64 (w64 (x_24 - 1)), .bool p3]) 0 O36 (by kernel_rfl) rfl rfl rfl rfl (by kernel_rfl) ⟨rfl, rfl, rfl, trivial⟩ rfl rfl) ?_)
      rintro c43 l43 O42
      have p44 : Kp G0 [] c43 := Kp.nil0
      refine ⟨.inr p44, ?_⟩
      refine AC.done (by kernel_rfl) ?_
      refine nrm ?_
      refine W.ret ?_
      refine thr ?_
      obtain rfl := Option.some.inj H11
      have O45 := O42.selD 1 [] (by kernel_rfl) (by kernel_rfl)
      exact retC (c := c43) (vs := [.int .i64 p0.Row, .int .i64 (w64 (x_24 - 1)), .bool p3]) rfl (by kernel_rfl) (by kernel_rfl) (by kernel_rfl) (O42.on 0 rfl _ rfl).1 ⟨_, c43, rfl, rfl, (l4.trans (l8.trans (l13.trans (l19.trans (l27.trans (l31.trans (l39.trans l43))))))), O45, rfl⟩
    · have H11 := ie h30 H11
      refine W.skip ?_
      refine nrm ?_
      refine sr ?_
      refine va (.pointer (some ⟨b1, 0, none⟩)) ?_
      refine WL.val0 (v := .int .i64 p0.Row) rfl (rx (by kernel_rfl) (run_load1 Tryd.underlying3 rfl ((fun j u hu => (m3 j u hu).mono (l8.trans (l13.trans (l19.trans l27)))) 0 _ rfl))) ?_
      refine va (.pointer (some ⟨b1, 0 + 1, none⟩)) ?_
      refine WL.val0 (v := .int .i64 p0.Col) rfl (rx (by kernel_rfl) (run_load1 Tryd.underlying3 rfl ((fun j u hu => (m3 j u hu).mono (l8.trans (l13.trans (l19.trans l27)))) 1 _ rfl))) ?_
      refine va (.int .i64 z_6) ?_
      refine va (.int .i64 (w64 (p0.Col + z_6))) ?_
      refine va (.agg #[.int .i64 p0.Row, .int .i64 (w64 (p0.Col + z_6)), .bool false]) ?_
      refine WL.memD rfl (Own.st (T := 120) (j := 0) (us := [.int .i64 p0.Row, .int .i64 (w64 (p0.Col + z_6)), .bool false]) (nw := [.int .i64 p0.Row, .int .i64 (w64 (p0.Col + z_6)), .bool false]) (v := .agg #[.int .i64 p0.Row, .int .i64 (w64 (p0.Col + z_6)), .bool false]) 0 O24 (by kernel_rfl) rfl rfl rfl rfl (by kernel_rfl) ⟨rfl, rfl, rfl, trivial⟩ rfl rfl) ?_
      rintro c47 l47 O46
      refine wln ?_
      refine W.ret ?_
      obtain rfl := Option.some.inj H11
      have O48 := O46.selD 1 [] (by kernel_rfl) (by kernel_rfl)
      exact retC (c := c47) (vs := [.int .i64 p0.Row, .int .i64 (w64 (p0.Col + z_6)), .bool false]) rfl (by kernel_rfl) (by kernel_rfl) (by kernel_rfl) (O46.on 0 rfl _ rfl).1 ⟨_, c47, rfl, rfl, (l4.trans (l8.trans (l13.trans (l19.trans (l27.trans l47))))), O48, rfl⟩

def f_linotyperef34_Pen_Put (p0 : G_linotyperef34_Pen) (p1 : Int) (p2 : List Int) : Option (G_linotyperef34_Pen × G_api_Cursor) :=
  (f_linotyperef34_Pen_Hold p0).bind fun x_6 =>
  (f_linotyperef34_Pen_Wide x_6).bind fun x_15 =>
  (if (decide ((imax 1 (imin p1 2)) > x_15)) = true then
  (some (1, ([65533] : List Int)) : Option (Int × (List Int)))
  else
  (some ((imax 1 (imin p1 2)), p2) : Option (Int × (List Int)))).bind fun z_18 =>
  (if x_6.At.Pending = true then
  (f_linotyperef34_Pen_GoOn x_6).bind fun x_34 =>
  (some (x_34.L, x_34.At.Row, x_34.At.Col, x_34.At.Pending, x_34.Auto) : Option ((List G_api_Line) × Int × Int × Bool × Bool))
  else
  (some (x_6.L, x_6.At.Row, x_6.At.Col, x_6.At.Pending, x_6.Auto) : Option ((List G_api_Line) × Int × Int × Bool × Bool))).bind fun z_28 =>
  ((andE (z_18.1 == 2) (some (z_28.2.2.1 == (w64 (x_15 - 1))))).bind fun d_40 =>
  if d_40 = true then
  if z_28.2.2.2.2 = true then
  (rep 1 (⟨0, ([] : List Int)⟩ : G_api_Cell)).bind fun x_58 =>
  (f_linotyperef34_Pen_Paint (⟨z_28.1, (⟨z_28.2.1, z_28.2.2.1, z_28.2.2.2.1⟩ : G_api_Cursor), z_28.2.2.2.2⟩ : G_linotyperef34_Pen) z_28.2.1 (w64 (x_15 - 1)) x_58).bind fun x_59 =>
  (f_linotyperef34_Pen_GoOn x_59).bind fun x_60 =>
  (some (x_60.L, x_60.At.Row, x_60.At.Col, x_60.At.Pending, x_60.Auto) : Option ((List G_api_Line) × Int × Int × Bool × Bool))
  else
  (some (z_28.1, z_28.2.1, (w64 (x_15 - 2)), z_28.2.2.2.1, z_28.2.2.2.2) : Option ((List G_api_Line) × Int × Int × Bool × Bool))
  else
  (some (z_28.1, z_28.2.1, z_28.2.2.1, z_28.2.2.2.1, z_28.2.2.2.2) : Option ((List G_api_Line) × Int × Int × Bool × Bool))).bind fun z_37 =>
  (f_linotyperef23_Of z_18.1 z_18.2).bind fun x_86 =>
  (f_linotyperef34_Pen_Paint (⟨z_37.1, (⟨z_37.2.1, z_37.2.2.1, z_37.2.2.2.1⟩ : G_api_Cursor), z_37.2.2.2.2⟩ : G_linotyperef34_Pen) z_37.2.1 z_37.2.2.1 x_86).bind fun x_87 =>
  (f_linotyperef31_After (⟨z_37.2.1, z_37.2.2.1, false⟩ : G_api_Cursor) z_18.1 x_15 x_87.Auto).bind fun x_95 =>
  some ((⟨x_87.L, x_95, x_87.Auto⟩ : G_linotyperef34_Pen), (⟨z_37.2.1, z_37.2.2.1, false⟩ : G_api_Cursor))
theorem c_linotyperef34_Pen_Put {c0 : Cx} {G : Gm} {F : List En} {v1 : Value} {v3 : Value} (O0 : Own c0 G F) (p0 : G_linotyperef34_Pen) (p1 : Int) (p2 : List Int) {r : G_linotyperef34_Pen × G_api_Cursor} (h2 : Sl R_api_Line c0 v1 p0.L) (h4 : Sl (RI .i32) c0 v3 p2) (H : f_linotyperef34_Pen_Put p0 p1 p2 = some r) :
    Calls Tryd.prog 76 #[.agg #[v1, .int .i64 p0.At.Row, .int .i64 p0.At.Col, .bool p0.At.Pending, .bool p0.Auto], .int .i64 p1, v3] c0.w (Post c0 fun c v => ∃ y1 : Value, ∃ y2 : List Value, Own c G (es true R_api_Line y1 62 y2 r.1.L :: F) ∧ v = .tuple #[.agg #[y1, .int .i64 r.1.At.Row, .int .i64 r.1.At.Col, .bool r.1.At.Pending, .bool r.1.Auto], .agg #[.int .i64 r.2.Row, .int .i64 r.2.Col, .bool r.2.Pending]] ∧ OA R_api_Line c y1 y2 r.1.L) := by
  unfold f_linotyperef34_Pen_Put at H
  refine enter (l := [.agg #[v1, .int .i64 p0.At.Row, .int .i64 p0.At.Col, .bool p0.At.Pending, .bool p0.Auto], .int .i64 p1, v3]) Tryd.func76 rfl rfl rfl ?_
  refine sr ?_
  obtain ⟨a5, a6, a7, rfl⟩ := (h2).form
  refine WL.mem rfl (Own.al (T := 122) (vs := [.slice a5 a6 a7, .int .i64 p0.At.Row, .int .i64 p0.At.Col, .bool p0.At.Pending, .bool p0.Auto]) O0 (by kernel_rfl)) ?_
  rintro v11 c10 l10 ⟨b8, rfl, O9⟩
  refine WL.mem rfl (Own.al (T := 122) (vs := [.slice none 0 0, .int .i64 0, .int .i64 0, .bool false, .bool false]) O9 (by kernel_rfl)) ?_
  rintro v15 c14 l14 ⟨b12, rfl, O13⟩
  refine WL.mem rfl (Own.al (T := 120) (vs := [.int .i64 0, .int .i64 0, .bool false]) O13 (by kernel_rfl)) ?_
  rintro v19 c18 l18 ⟨b16, rfl, O17⟩
  refine wln ?_
  refine sr ?_
  refine WL.val0 (v := .agg #[.slice a5 a6 a7, .int .i64 p0.At.Row, .int .i64 p0.At.Col, .bool p0.At.Pending, .bool p0.Auto]) rfl (rx (by kernel_rfl) (ldEN (T := 122) (j := 0) (l := [.slice a5 a6 a7, .int .i64 p0.At.Row, .int .i64 p0.At.Col, .bool p0.At.Pending, .bool p0.Auto]) (by kernel_rfl) (by kernel_rfl) (O17.on 2 rfl) rfl rfl)) ?_
  obtain ⟨x_6, h20, H⟩ := bs H
  refine WL.callP rfl (by kernel_rfl) (c_linotyperef34_Pen_Hold O17 p0 (h2.mono (l10.trans (l14.trans l18))) h20) ?_
  rintro v28 c27 l27 ⟨v21, O24, rfl, h22⟩
  obtain ⟨a29, a30, a31, rfl⟩ := (h22).form
  refine WL.memD rfl (Own.st (T := 122) (j := 0) (us := [.slice a29 a30 a31, .int .i64 x_6.At.Row, .int .i64 x_6.At.Col, .bool x_6.At.Pending, .bool x_6.Auto]) (nw := [.slice a29 a30 a31, .int .i64 x_6.At.Row, .int .i64 x_6.At.Col, .bool x_6.At.Pending, .bool x_6.Auto]) (v := .agg #[.slice a29 a30 a31, .int .i64 x_6.At.Row, .int .i64 x_6.At.Col, .bool x_6.At.Pending, .bool x_6.Auto]) 2 O24 (by kernel_rfl) rfl rfl rfl rfl (by kernel_rfl) ⟨h22.one, rfl, rfl, rfl, rfl, trivial⟩ rfl rfl) ?_
  rintro c33 l33 O32
  refine wln ?_
  refine sr ?_
  refine va (.int .i64 p1) ?_
  refine va (.int .i64 (imin p1 2)) ?_
  refine va (.int .i64 (imax 1 (imin p1 2))) ?_
  refine va (.int .i64 (imax 1 (imin p1 2))) ?_
  refine wln ?_
  refine sr ?_
  refine WL.val0 (v := .agg #[.slice a29 a30 a31, .int .i64 x_6.At.Row, .int .i64 x_6.At.Col, .bool x_6.At.Pending, .bool x_6.Auto]) rfl (rx (by kernel_rfl) (ldEN (T := 122) (j := 0) (l := [.slice a29 a30 a31, .int .i64 x_6.At.Row, .int .i64 x_6.At.Col, .bool x_6.At.Pending, .bool x_6.Auto]) (by kernel_rfl) (by kernel_rfl) (O32.on 2 rfl) rfl rfl)) ?_
  obtain ⟨x_15, h34, H⟩ := bs H
  refine WL.callP rfl (by kernel_rfl) (c_linotyperef34_Pen_Wide O32 x_6 (h22.mono l33) h34) ?_
  rintro v40 c39 l39 ⟨O36, rfl⟩
  refine va (.int .i64 x_15) ?_
  refine wln ?_
  obtain ⟨z_18, H41, H42⟩ := bs H
  refine W.seqJ (fun e w => ∃ (c : Cx) (g : Nat → Value) (v43 : Value), w = c.w ∧ c39.le c ∧ Own c G (⟨.pointer (some ⟨b16, 0, none⟩), 120, [.int .i64 0, .int .i64 0, .bool false], 0⟩ :: ⟨.pointer (some ⟨b12, 0, none⟩), 122, [.slice none 0 0, .int .i64 0, .int .i64 0, .bool false, .bool false], 0⟩ :: ⟨.pointer (some ⟨b8, 0, none⟩), 122, [.slice a29 a30 a31, .int .i64 x_6.At.Row, .int .i64 x_6.At.Col, .bool x_6.At.Pending, .bool x_6.Auto], 0⟩ :: F) ∧ e = ups g [(1, .int .i64 z_18.1), (2, v43), (3, .pointer (some ⟨b8, 0, none⟩)), (6, .pointer (some ⟨b12, 0, none⟩)), (7, .pointer (some ⟨b16, 0, none⟩)), (8, .int .i64 x_15)] ∧ Sl (RI .i32) c v43 z_18.2) ?_ ?_
  · skip
    refine sr ?_
    refine va (.int .i64 (imax 1 (imin p1 2))) ?_
    refine va (.int .i64 x_15) ?_
    refine va (.bool (decide ((imax 1 (imin p1 2)) > x_15))) ?_
    refine wln ?_
    refine W.cond (t := decide ((imax 1 (imin p1 2)) > x_15)) (by kernel_rfl) (fun h44 => ?_) (fun h44 => ?_)
    · have H41 := it h44 H41
      refine sr ?_
      refine va (.int .i64 1) ?_
      refine wln ?_
      refine W.region ?_
      refine WL.mem rfl (Own.sl (R := (RI .i32)) (E := 21) (ls := [[.int .i32 65533]]) (vs := [.int .i32 65533]) (xs := ([65533] : List Int)) true O36 (Nat.succ_pos _) rfl ⟨rfl, trivial⟩ (by kernel_rfl) (by kernel_rfl)) ?_
      rintro v49 c48 l48 ⟨u46, O45, h47⟩
      refine va (v49) ?_
      refine wln ?_
      obtain rfl := Option.some.inj H41
      obtain ⟨c52, h53, l52, O50, h51⟩ := O45.frz 0 rfl h47
      have O54 := O50.selD 4 [1, 2, 3] (by kernel_rfl) (by kernel_rfl)
      exact ⟨c52, _, v49, h53.symm, (l48.trans l52), O54, ups_self ⟨rfl, rfl, rfl, rfl, rfl, rfl, trivial⟩, h51⟩
    · have H41 := ie h44 H41
      refine W.skip ?_
      refine nrm ?_
      obtain rfl := Option.some.inj H41
      exact ⟨c39, _, v3, rfl, (Cx.le.refl _), O36, ups_self ⟨rfl, rfl, rfl, rfl, rfl, rfl, trivial⟩, (h4.mono (l10.trans (l14.trans (l18.trans (l27.trans (l33.trans l39))))))⟩
  · skip
    rintro e_ w_ ⟨c55, g56, v43, rfl, l55, O57, rfl, h58⟩
    obtain ⟨z_28, H62, H63⟩ := bs H42
    refine W.seqJ (fun e w => ∃ (c : Cx) (g : Nat → Value) (v64 : Value), w = c.w ∧ c55.le c ∧ Own c G (⟨.pointer (some ⟨b16, 0, none⟩), 120, [.int .i64 0, .int .i64 0, .bool false], 0⟩ :: ⟨.pointer (some ⟨b12, 0, none⟩), 122, [.slice none 0 0, .int .i64 0, .int .i64 0, .bool false, .bool false], 0⟩ :: ⟨.pointer (some ⟨b8, 0, none⟩), 122, [v64, .int .i64 z_28.2.1, .int .i64 z_28.2.2.1, .bool z_28.2.2.2.1, .bool z_28.2.2.2.2], 0⟩ :: F) ∧ e = ups g [(1, .int .i64 z_18.1), (2, v43), (3, .pointer (some ⟨b8, 0, none⟩)), (6, .pointer (some ⟨b12, 0, none⟩)), (7, .pointer (some ⟨b16, 0, none⟩)), (8, .int .i64 x_15)] ∧ Sl R_api_Line c v64 z_28.1) ?_ ?_
    · skip
      refine sr ?_
      refine va (.pointer (some ⟨b8, 1, none⟩)) ?_
      refine va (.pointer (some ⟨b8, 3, none⟩)) ?_
      refine WL.val0 (v := .bool x_6.At.Pending) rfl (rx (by kernel_rfl) (ldE1 (j := 3) Tryd.underlying4 rfl (O57.on 2 rfl) rfl rfl)) ?_
      refine wln ?_
      refine W.cond (t := x_6.At.Pending) (by kernel_rfl) (fun h65 => ?_) (fun h65 => ?_)
      · have H62 := it h65 H62
        refine W.region ?_
        refine WL.val0 (v := .agg #[.slice a29 a30 a31, .int .i64 x_6.At.Row, .int .i64 x_6.At.Col, .bool x_6.At.Pending, .bool x_6.Auto]) rfl (rx (by kernel_rfl) (ldEN (T := 122) (j := 0) (l := [.slice a29 a30 a31, .int .i64 x_6.At.Row, .int .i64 x_6.At.Col, .bool x_6.At.Pending, .bool x_6.Auto]) (by kernel_rfl) (by kernel_rfl) (O57.on 2 rfl) rfl rfl)) ?_
        obtain ⟨x_34, h66, H62⟩ := bs H62
        refine WL.callP rfl (by kernel_rfl) (c_linotyperef34_Pen_GoOn O57 x_6 (h22.mono (l33.trans (l39.trans l55))) h66) ?_
        rintro v74 c73 l73 ⟨v67, O70, rfl, h68⟩
        obtain ⟨a75, a76, a77, rfl⟩ := (h68).form
        refine WL.memD rfl (Own.st (T := 122) (j := 0) (us := [.slice a75 a76 a77, .int .i64 x_34.At.Row, .int .i64 x_34.At.Col, .bool x_34.At.Pending, .bool x_34.Auto]) (nw := [.slice a75 a76 a77, .int .i64 x_34.At.Row, .int .i64 x_34.At.Col, .bool x_34.At.Pending, .bool x_34.Auto]) (v := .agg #[.slice a75 a76 a77, .int .i64 x_34.At.Row, .int .i64 x_34.At.Col, .bool x_34.At.Pending, .bool x_34.Auto]) 2 O70 (by kernel_rfl) rfl rfl rfl rfl (by kernel_rfl) ⟨h68.one, rfl, rfl, rfl, rfl, trivial⟩ rfl rfl) ?_
        rintro c79 l79 O78
        refine wln ?_
        obtain rfl := Option.some.inj H62
        exact ⟨c79, _, (.slice a75 a76 a77), rfl, (l73.trans l79), O78, ups_self ⟨rfl, rfl, rfl, rfl, rfl, rfl, trivial⟩, (h68.mono l79)⟩
      · have H62 := ie h65 H62
        refine W.skip ?_
        refine nrm ?_
        obtain rfl := Option.some.inj H62
        exact ⟨c55, _, (.slice a29 a30 a31), rfl, (Cx.le.refl _), O57, ups_self ⟨rfl, rfl, rfl, rfl, rfl, rfl, trivial⟩, (h22.mono (l33.trans (l39.trans l55)))⟩
    · skip
      rintro e_ w_ ⟨c80, g81, v64, rfl, l80, O82, rfl, h83⟩
      obtain ⟨z_37, H87, H88⟩ := bs H63
      refine W.seqJ (fun e w => ∃ (c : Cx) (g : Nat → Value) (v89 : Value), w = c.w ∧ c80.le c ∧ Own c G (⟨.pointer (some ⟨b16, 0, none⟩), 120, [.int .i64 0, .int .i64 0, .bool false], 0⟩ :: ⟨.pointer (some ⟨b12, 0, none⟩), 122, [.slice none 0 0, .int .i64 0, .int .i64 0, .bool false, .bool false], 0⟩ :: ⟨.pointer (some ⟨b8, 0, none⟩), 122, [v89, .int .i64 z_37.2.1, .int .i64 z_37.2.2.1, .bool z_37.2.2.2.1, .bool z_37.2.2.2.2], 0⟩ :: F) ∧ e = ups g [(1, .int .i64 z_18.1), (2, v43), (3, .pointer (some ⟨b8, 0, none⟩)), (6, .pointer (some ⟨b12, 0, none⟩)), (7, .pointer (some ⟨b16, 0, none⟩)), (8, .int .i64 x_15)] ∧ Sl R_api_Line c v89 z_37.1) ?_ ?_
      · skip
        refine W.seq ?_
        obtain ⟨d_40, h90, H87⟩ := bs H87
        refine W.join (fun e w => ∃ (c : Cx) (g : Nat → Value), w = c.w ∧ c80.le c ∧ Own c G (⟨.pointer (some ⟨b16, 0, none⟩), 120, [.int .i64 0, .int .i64 0, .bool false], 0⟩ :: ⟨.pointer (some ⟨b12, 0, none⟩), 122, [.slice none 0 0, .int .i64 0, .int .i64 0, .bool false, .bool false], 0⟩ :: ⟨.pointer (some ⟨b8, 0, none⟩), 122, [v64, .int .i64 z_28.2.1, .int .i64 z_28.2.2.1, .bool z_28.2.2.2.1, .bool z_28.2.2.2.2], 0⟩ :: F) ∧ e = ups g [(1, .int .i64 z_18.1), (2, v43), (3, .pointer (some ⟨b8, 0, none⟩)), (6, .pointer (some ⟨b12, 0, none⟩)), (7, .pointer (some ⟨b16, 0, none⟩)), (8, .int .i64 x_15), (35, .bool d_40)]) ?_ ?_
        · clear H87
          refine W.region ?_
          refine va (.int .i64 z_18.1) ?_
          refine va (.bool (z_18.1 == 2)) ?_
          rcases Bool.eq_false_or_eq_true (z_18.1 == 2) with h91 | h91
          · skip
            have H92 := anT h91 h90
            refine vb h91 ?_
            refine wn ?_
            refine va (.pointer (some ⟨b8, 1, none⟩)) ?_
            refine wn ?_
            refine va (.pointer (some ⟨b8, 2, none⟩)) ?_
            refine wn ?_
            refine WL.val0 (v := .int .i64 z_28.2.2.1) rfl (rx (by kernel_rfl) (ldE1 (j := 2) Tryd.underlying3 rfl (O82.on 2 rfl) rfl rfl)) ?_
            refine wn ?_
            refine va (.int .i64 x_15) ?_
            refine wn ?_
            refine va (.int .i64 (w64 (x_15 - 1))) ?_
            refine wn ?_
            refine va (.bool (z_28.2.2.1 == (w64 (x_15 - 1)))) ?_
            obtain rfl := Option.some.inj H92
            refine va (.bool (z_28.2.2.1 == (w64 (x_15 - 1)))) ?_
            refine wln ?_
            exact ⟨c80, _, rfl, (Cx.le.refl _), O82, ups_self ⟨rfl, rfl, rfl, rfl, rfl, rfl, rfl, trivial⟩⟩
          · skip
            obtain rfl := anF h91 h90
            refine vb h91 ?_
            refine ps ?_
            refine ps ?_
            refine ps ?_
            refine ps ?_
            refine ps ?_
            refine ps ?_
            refine va (.bool false) ?_
            refine wln ?_
            exact ⟨c80, _, rfl, (Cx.le.refl _), O82, ups_self ⟨rfl, rfl, rfl, rfl, rfl, rfl, rfl, trivial⟩⟩
        · skip
          rintro e_ w_ ⟨c93, g94, rfl, l93, O95, rfl⟩
          refine nrm ?_
          refine W.cond (t := d_40) (by kernel_rfl) (fun h99 => ?_) (fun h99 => ?_)
          · have H87 := it h99 H87
            refine sr ?_
            refine va (.pointer (some ⟨b8, 4, none⟩)) ?_
            refine WL.val0 (v := .bool z_28.2.2.2.2) rfl (rx (by kernel_rfl) (ldE1 (j := 4) Tryd.underlying4 rfl (O95.on 2 rfl) rfl rfl)) ?_
            refine wln ?_
            refine W.cond (t := z_28.2.2.2.2) (by kernel_rfl) (fun h100 => ?_) (fun h100 => ?_)
            · have H87 := it h100 H87
              refine W.regionD [9] (Kp G0 [⟨.pointer (some ⟨b8, 0, none⟩), 122, [v64, .int .i64 z_28.2.1, .int .i64 z_28.2.2.1, .bool z_28.2.2.2.1, .bool z_28.2.2.2.2], 0⟩]) O95 (by kernel_rfl) ?_
              intro c101 l101 O102
              have p103 : Kp G0 [⟨.pointer (some ⟨b8, 0, none⟩), 122, [v64, .int .i64 z_28.2.1, .int .i64 z_28.2.2.1, .bool z_28.2.2.2.1, .bool z_28.2.2.2.2], 0⟩] c101 := (Kp.cons (O102.on 2 rfl) Kp.nil0)
              refine AC.takeK 0 (.agg #[v64, .int .i64 z_28.2.1, .int .i64 z_28.2.2.1, .bool z_28.2.2.2.1, .bool z_28.2.2.2.2]) p103 rfl (by kernel_rfl) (by kernel_rfl) (by kernel_rfl) (fun c' hle hk => (rx (by kernel_rfl) (ldEN (T := 122) (j := 0) (l := [v64, .int .i64 z_28.2.1, .int .i64 z_28.2.2.1, .bool z_28.2.2.2.1, .bool z_28.2.2.2.2]) (by kernel_rfl) (by kernel_rfl) (hk.on 0 rfl) rfl rfl))) ?_
              refine ta 1 (.pointer (some ⟨b8, 1, none⟩)) ?_
              refine ta 2 (.pointer (some ⟨b8, 1, none⟩)) ?_
              refine AC.takeK 3 (.int .i64 z_28.2.1) p103 rfl (by kernel_rfl) (by kernel_rfl) (by kernel_rfl) (fun c' hle hk => (rx (by kernel_rfl) (ldE1 (j := 1) Tryd.underlying3 rfl (hk.on 0 rfl) rfl rfl))) ?_
              refine ta 4 (.int .i64 x_15) ?_
              refine ta 5 (.int .i64 (w64 (x_15 - 1))) ?_
              obtain ⟨x_58, h104, H87⟩ := bs H87
              refine AC.one 6 (by kernel_rfl) (Go1.mem 6 rfl (by kernel_rfl) (by kernel_rfl) (Own.mkS (kl := .i64) (kc := .i64) (R := R_api_Cell) (z := .agg #[.int .i64 0, .slice none 0 0]) (lz := [.int .i64 0, .slice none 0 0]) (x := (⟨0, ([] : List Int)⟩ : G_api_Cell)) (by_ := 32) (i := 1) (j := 1) true O102 (Nat.succ_pos _) h104 (Int.le_refl _) (rep_le h104) Tryd.underlying22 (by kernel_rfl) rfl rfl (fun _ => ⟨(.slice none 0 0), rfl, (Sl.nl _ _)⟩) (by kernel_rfl) (by kernel_rfl)) ?_)
              rintro v109 c108 l108 ⟨u106, O105, h107⟩
              have p110 : Kp G0 [⟨.pointer (some ⟨b8, 0, none⟩), 122, [v64, .int .i64 z_28.2.1, .int .i64 z_28.2.2.1, .bool z_28.2.2.2.1, .bool z_28.2.2.2.2], 0⟩] c108 := (Kp.cons (O105.on 3 rfl) Kp.nil0)
              refine ⟨.inr p110, ?_⟩
              obtain ⟨c113, h114, l113, O111, h112⟩ := O105.frz 0 rfl h107
              have p115 : Kp G0 [⟨.pointer (some ⟨b8, 0, none⟩), 122, [v64, .int .i64 z_28.2.1, .int .i64 z_28.2.2.1, .bool z_28.2.2.2.1, .bool z_28.2.2.2.2], 0⟩] c113 := (Kp.cons (O111.on 3 rfl) Kp.nil0)
              refine AC.gh h114 l113 (fun _ => p115) ?_
              obtain ⟨x_59, h116, H87⟩ := bs H87
              refine AC.one 7 (by kernel_rfl) (Go1.callP 7 rfl (by kernel_rfl) (by kernel_rfl) (by kernel_rfl) (c_linotyperef34_Pen_Paint O111 (⟨z_28.1, (⟨z_28.2.1, z_28.2.2.1, z_28.2.2.2.1⟩ : G_api_Cursor), z_28.2.2.2.2⟩ : G_linotyperef34_Pen) z_28.2.1 (w64 (x_15 - 1)) x_58 (h83.mono (l93.trans (l101.trans (l108.trans l113)))) h112 h116) ?_)
              rintro v125 c124 l124 ⟨v117, u118, O121, rfl, h119⟩
              have p126 : Kp G0 [⟨.pointer (some ⟨b8, 0, none⟩), 122, [v64, .int .i64 z_28.2.1, .int .i64 z_28.2.2.1, .bool z_28.2.2.2.1, .bool z_28.2.2.2.2], 0⟩] c124 := (Kp.cons (O121.on 4 rfl) Kp.nil0)
              refine ⟨.inr p126, ?_⟩
              obtain ⟨c129, h130, l129, O127, h128⟩ := O121.frz 0 rfl h119
              have p131 : Kp G0 [⟨.pointer (some ⟨b8, 0, none⟩), 122, [v64, .int .i64 z_28.2.1, .int .i64 z_28.2.2.1, .bool z_28.2.2.2.1, .bool z_28.2.2.2.2], 0⟩] c129 := (Kp.cons (O127.on 4 rfl) Kp.nil0)
              refine AC.gh h130 l129 (fun _ => p131) ?_
              obtain ⟨x_60, h132, H87⟩ := bs H87
              refine AC.one 8 (by kernel_rfl) (Go1.callP 8 rfl (by kernel_rfl) (by kernel_rfl) (by kernel_rfl) (c_linotyperef34_Pen_GoOn O127 x_59 h128 h132) ?_)
              rintro v140 c139 l139 ⟨v133, O136, rfl, h134⟩
              have p141 : Kp G0 [⟨.pointer (some ⟨b8, 0, none⟩), 122, [v64, .int .i64 z_28.2.1, .int .i64 z_28.2.2.1, .bool z_28.2.2.2.1, .bool z_28.2.2.2.2], 0⟩] c139 := (Kp.cons (O136.on 4 rfl) Kp.nil0)
              refine ⟨.inr p141, ?_⟩
              obtain ⟨a142, a143, a144, rfl⟩ := (h134).form
              refine AC.one 9 (by kernel_rfl) (Go1.memD 9 rfl (by kernel_rfl) (by kernel_rfl) (Own.st (T := 122) (j := 0) (us := [.slice a142 a143 a144, .int .i64 x_60.At.Row, .int .i64 x_60.At.Col, .bool x_60.At.Pending, .bool x_60.Auto]) (nw := [.slice a142 a143 a144, .int .i64 x_60.At.Row, .int .i64 x_60.At.Col, .bool x_60.At.Pending, .bool x_60.Auto]) (v := .agg #[.slice a142 a143 a144, .int .i64 x_60.At.Row, .int .i64 x_60.At.Col, .bool x_60.At.Pending, .bool x_60.Auto]) 4 O136 (by kernel_rfl) rfl rfl rfl rfl (by kernel_rfl) ⟨h134.one, rfl, rfl, rfl, rfl, trivial⟩ rfl rfl) ?_)
              rintro c146 l146 O145
              refine ⟨.inl rfl, ?_⟩
              refine AC.done (by kernel_rfl) ?_
              refine nrm ?_
              obtain rfl := Option.some.inj H87
              have O147 := O145.selD 5 [2, 3, 4] (by kernel_rfl) (by kernel_rfl)
              exact ⟨c146, _, (.slice a142 a143 a144), rfl, (l93.trans (l101.trans (l108.trans (l113.trans (l124.trans (l129.trans (l139.trans l146))))))), O147, ups_self ⟨rfl, rfl, rfl, rfl, rfl, rfl, trivial⟩, (h134.mono l146)⟩
            · have H87 := ie h100 H87
              refine W.region ?_
              refine va (.int .i64 x_15) ?_
              refine va (.int .i64 (w64 (x_15 - 2))) ?_
              refine va (.pointer (some ⟨b8, 1, none⟩)) ?_
              refine va (.pointer (some ⟨b8, 2, none⟩)) ?_
              refine WL.memD rfl (Own.st (T := 3) (j := 2) (us := [.int .i64 (w64 (x_15 - 2))]) (nw := [v64, .int .i64 z_28.2.1, .int .i64 (w64 (x_15 - 2)), .bool z_28.2.2.2.1, .bool z_28.2.2.2.2]) (v := .int .i64 (w64 (x_15 - 2))) 2 O95 (by kernel_rfl) rfl rfl rfl rfl (by kernel_rfl) ⟨rfl, trivial⟩ rfl rfl) ?_
              rintro c149 l149 O148
              refine wln ?_
              obtain rfl := Option.some.inj H87
              exact ⟨c149, _, v64, rfl, (l93.trans l149), O148, ups_self ⟨rfl, rfl, rfl, rfl, rfl, rfl, trivial⟩, (h83.mono (l93.trans l149))⟩
          · have H87 := ie h99 H87
            refine W.skip ?_
            refine nrm ?_
            obtain rfl := Option.some.inj H87
            exact ⟨c93, _, v64, rfl, l93, O95, ups_self ⟨rfl, rfl, rfl, rfl, rfl, rfl, trivial⟩, (h83.mono l93)⟩
      · skip
        rintro e_ w_ ⟨c150, g151, v89, rfl, l150, O152, rfl, h153⟩
        refine sr ?_
        refine va (.pointer (some ⟨b8, 1, none⟩)) ?_
        refine va (.pointer (some ⟨b8, 1, none⟩)) ?_
        refine WL.val0 (v := .int .i64 z_37.2.1) rfl (rx (by kernel_rfl) (ldE1 (j := 1) Tryd.underlying3 rfl (O152.on 2 rfl) rfl rfl)) ?_
        refine va (.pointer (some ⟨b8, 1, none⟩)) ?_
        refine va (.pointer (some ⟨b8, 2, none⟩)) ?_
        refine WL.val0 (v := .int .i64 z_37.2.2.1) rfl (rx (by kernel_rfl) (ldE1 (j := 2) Tryd.underlying3 rfl (O152.on 2 rfl) rfl rfl)) ?_
        refine va (.agg #[.int .i64 z_37.2.1, .int .i64 z_37.2.2.1, .bool false]) ?_
        refine WL.mem rfl (Own.al (T := 120) (vs := [.int .i64 0, .int .i64 0, .bool false]) O152 (by kernel_rfl)) ?_
        rintro v160 c159 l159 ⟨b157, rfl, O158⟩
        refine WL.memD rfl (Own.st (T := 120) (j := 0) (us := [.int .i64 z_37.2.1, .int .i64 z_37.2.2.1, .bool false]) (nw := [.int .i64 z_37.2.1, .int .i64 z_37.2.2.1, .bool false]) (v := .agg #[.int .i64 z_37.2.1, .int .i64 z_37.2.2.1, .bool false]) 0 O158 (by kernel_rfl) rfl rfl rfl rfl (by kernel_rfl) ⟨rfl, rfl, rfl, trivial⟩ rfl rfl) ?_
        rintro c162 l162 O161
        refine wln ?_
        refine W.seq ?_
        refine W.regionD [9] (Kp G0 [⟨.pointer (some ⟨b8, 0, none⟩), 122, [v89, .int .i64 z_37.2.1, .int .i64 z_37.2.2.1, .bool z_37.2.2.2.1, .bool z_37.2.2.2.2], 0⟩, ⟨.pointer (some ⟨b157, 0, none⟩), 120, [.int .i64 z_37.2.1, .int .i64 z_37.2.2.1, .bool false], 0⟩]) O161 (by kernel_rfl) ?_
        intro c163 l163 O164
        have p165 : Kp G0 [⟨.pointer (some ⟨b8, 0, none⟩), 122, [v89, .int .i64 z_37.2.1, .int .i64 z_37.2.2.1, .bool z_37.2.2.2.1, .bool z_37.2.2.2.2], 0⟩, ⟨.pointer (some ⟨b157, 0, none⟩), 120, [.int .i64 z_37.2.1, .int .i64 z_37.2.2.1, .bool false], 0⟩] c163 := (Kp.cons (O164.on 3 rfl) (Kp.cons (O164.on 0 rfl) Kp.nil0))
        refine AC.takeK 0 (.agg #[v89, .int .i64 z_37.2.1, .int .i64 z_37.2.2.1, .bool z_37.2.2.2.1, .bool z_37.2.2.2.2]) p165 rfl (by kernel_rfl) (by kernel_rfl) (by kernel_rfl) (fun c' hle hk => (rx (by kernel_rfl) (ldEN (T := 122) (j := 0) (l := [v89, .int .i64 z_37.2.1, .int .i64 z_37.2.2.1, .bool z_37.2.2.2.1, .bool z_37.2.2.2.2]) (by kernel_rfl) (by kernel_rfl) (hk.on 0 rfl) rfl rfl))) ?_
        refine ta 1 (.pointer (some ⟨b157, 0, none⟩)) ?_
        refine AC.takeK 2 (.int .i64 z_37.2.1) p165 rfl (by kernel_rfl) (by kernel_rfl) (by kernel_rfl) (fun c' hle hk => (rx (by kernel_rfl) (ldE1 (j := 0) Tryd.underlying3 rfl (hk.on 1 rfl) rfl rfl))) ?_
        refine ta 3 (.pointer (some ⟨b157, 1, none⟩)) ?_
        refine AC.takeK 4 (.int .i64 z_37.2.2.1) p165 rfl (by kernel_rfl) (by kernel_rfl) (by kernel_rfl) (fun c' hle hk => (rx (by kernel_rfl) (ldE1 (j := 1) Tryd.underlying3 rfl (hk.on 1 rfl) rfl rfl))) ?_
        refine ta 5 (.int .i64 z_18.1) ?_
        refine ta 6 (v43) ?_
        obtain ⟨x_86, h166, H88⟩ := bs H88
        refine AC.one 7 (by kernel_rfl) (Go1.callP 7 rfl (by kernel_rfl) (by kernel_rfl) (by kernel_rfl) (c_linotyperef23_Of O164 z_18.1 z_18.2 (h58.mono (l80.trans (l150.trans (l159.trans (l162.trans l163))))) h166) ?_)
        rintro v167 c174 l174 ⟨_, u168, O171, rfl, h169⟩
        have p176 : Kp G0 [⟨.pointer (some ⟨b8, 0, none⟩), 122, [v89, .int .i64 z_37.2.1, .int .i64 z_37.2.2.1, .bool z_37.2.2.2.1, .bool z_37.2.2.2.2], 0⟩, ⟨.pointer (some ⟨b157, 0, none⟩), 120, [.int .i64 z_37.2.1, .int .i64 z_37.2.2.1, .bool false], 0⟩] c174 := (Kp.cons (O171.on 4 rfl) (Kp.cons (O171.on 1 rfl) Kp.nil0))
        refine ⟨.inr p176, ?_⟩
        obtain ⟨c179, h180, l179, O177, h178⟩ := O171.frz 0 rfl h169
        have p181 : Kp G0 [⟨.pointer (some ⟨b8, 0, none⟩), 122, [v89, .int .i64 z_37.2.1, .int .i64 z_37.2.2.1, .bool z_37.2.2.2.1, .bool z_37.2.2.2.2], 0⟩, ⟨.pointer (some ⟨b157, 0, none⟩), 120, [.int .i64 z_37.2.1, .int .i64 z_37.2.2.1, .bool false], 0⟩] c179 := (Kp.cons (O177.on 4 rfl) (Kp.cons (O177.on 1 rfl) Kp.nil0))
        refine AC.gh h180 l179 (fun _ => p181) ?_
        obtain ⟨x_87, h182, H88⟩ := bs H88
        refine AC.one 8 (by kernel_rfl) (Go1.callP 8 rfl (by kernel_rfl) (by kernel_rfl) (by kernel_rfl) (c_linotyperef34_Pen_Paint O177 (⟨z_37.1, (⟨z_37.2.1, z_37.2.2.1, z_37.2.2.2.1⟩ : G_api_Cursor), z_37.2.2.2.2⟩ : G_linotyperef34_Pen) z_37.2.1 z_37.2.2.1 x_86 (h153.mono (l159.trans (l162.trans (l163.trans (l174.trans l179))))) h178 h182) ?_)
        rintro v191 c190 l190 ⟨v183, u184, O187, rfl, h185⟩
        have p192 : Kp G0 [⟨.pointer (some ⟨b8, 0, none⟩), 122, [v89, .int .i64 z_37.2.1, .int .i64 z_37.2.2.1, .bool z_37.2.2.2.1, .bool z_37.2.2.2.2], 0⟩, ⟨.pointer (some ⟨b157, 0, none⟩), 120, [.int .i64 z_37.2.1, .int .i64 z_37.2.2.1, .bool false], 0⟩] c190 := (Kp.cons (O187.on 5 rfl) (Kp.cons (O187.on 2 rfl) Kp.nil0))
        refine ⟨.inr p192, ?_⟩
        obtain ⟨a193, a194, a195, rfl⟩ := (h185).form
        refine AC.one 9 (by kernel_rfl) (Go1.memD 9 rfl (by kernel_rfl) (by kernel_rfl) (Own.st (T := 122) (j := 0) (us := [.slice a193 a194 a195, .int .i64 x_87.At.Row, .int .i64 x_87.At.Col, .bool x_87.At.Pending, .bool x_87.Auto]) (nw := [.slice a193 a194 a195, .int .i64 x_87.At.Row, .int .i64 x_87.At.Col, .bool x_87.At.Pending, .bool x_87.Auto]) (v := .agg #[.slice a193 a194 a195, .int .i64 x_87.At.Row, .int .i64 x_87.At.Col, .bool x_87.At.Pending, .bool x_87.Auto]) 5 O187 (by kernel_rfl) rfl rfl rfl rfl (by kernel_rfl) ⟨(h185).one, rfl, rfl, rfl, rfl, trivial⟩ rfl rfl) ?_)
        rintro c197 l197 O196
        refine ⟨.inl rfl, ?_⟩
        refine AC.done (by kernel_rfl) ?_
        refine nrm ?_
        refine sr ?_
        refine WL.val0 (v := .agg #[.int .i64 z_37.2.1, .int .i64 z_37.2.2.1, .bool false]) rfl (rx (by kernel_rfl) (ldEN (T := 120) (j := 0) (l := [.int .i64 z_37.2.1, .int .i64 z_37.2.2.1, .bool false]) (by kernel_rfl) (by kernel_rfl) (O196.on 2 rfl) rfl rfl)) ?_
        refine va (.int .i64 z_18.1) ?_
        refine va (.int .i64 x_15) ?_
        refine va (.pointer (some ⟨b8, 4, none⟩)) ?_
        refine WL.val0 (v := .bool x_87.Auto) rfl (rx (by kernel_rfl) (ldE1 (j := 4) Tryd.underlying4 rfl (O196.on 5 rfl) rfl rfl)) ?_
        obtain ⟨x_95, h198, H88⟩ := bs H88
        refine WL.callP rfl (by kernel_rfl) (c_linotyperef31_After O196 (⟨z_37.2.1, z_37.2.2.1, false⟩ : G_api_Cursor) z_18.1 x_15 x_87.Auto h198) ?_
        rintro v204 c203 l203 ⟨O200, rfl⟩
        refine va (.pointer (some ⟨b8, 1, none⟩)) ?_
        refine WL.memD rfl (Own.st (T := 120) (j := 1) (us := [.int .i64 x_95.Row, .int .i64 x_95.Col, .bool x_95.Pending]) (nw := [.slice a193 a194 a195, .int .i64 x_95.Row, .int .i64 x_95.Col, .bool x_95.Pending, .bool x_87.Auto]) (v := .agg #[.int .i64 x_95.Row, .int .i64 x_95.Col, .bool x_95.Pending]) 5 O200 (by kernel_rfl) rfl rfl rfl rfl (by kernel_rfl) ⟨rfl, rfl, rfl, trivial⟩ rfl rfl) ?_
        rintro c206 l206 O205
        refine wln ?_
        refine W.seq ?_
        refine W.regionD [] (Kp G0 [⟨.pointer (some ⟨b8, 0, none⟩), 122, [.slice a193 a194 a195, .int .i64 x_95.Row, .int .i64 x_95.Col, .bool x_95.Pending, .bool x_87.Auto], 0⟩, ⟨.pointer (some ⟨b157, 0, none⟩), 120, [.int .i64 z_37.2.1, .int .i64 z_37.2.2.1, .bool false], 0⟩]) O205 (by kernel_rfl) ?_
        intro c207 l207 O208
        have p209 : Kp G0 [⟨.pointer (some ⟨b8, 0, none⟩), 122, [.slice a193 a194 a195, .int .i64 x_95.Row, .int .i64 x_95.Col, .bool x_95.Pending, .bool x_87.Auto], 0⟩, ⟨.pointer (some ⟨b157, 0, none⟩), 120, [.int .i64 z_37.2.1, .int .i64 z_37.2.2.1, .bool false], 0⟩] c207 := (Kp.cons (O208.on 5 rfl) (Kp.cons (O208.on 2 rfl) Kp.nil0))
        refine AC.takeK 0 (.agg #[.slice a193 a194 a195, .int .i64 x_95.Row, .int .i64 x_95.Col, .bool x_95.Pending, .bool x_87.Auto]) p209 rfl (by kernel_rfl) (by kernel_rfl) (by kernel_rfl) (fun c' hle hk => (rx (by kernel_rfl) (ldEN (T := 122) (j := 0) (l := [.slice a193 a194 a195, .int .i64 x_95.Row, .int .i64 x_95.Col, .bool x_95.Pending, .bool x_87.Auto]) (by kernel_rfl) (by kernel_rfl) (hk.on 0 rfl) rfl rfl))) ?_
        refine AC.takeK 1 (.agg #[.int .i64 z_37.2.1, .int .i64 z_37.2.2.1, .bool false]) p209 rfl (by kernel_rfl) (by kernel_rfl) (by kernel_rfl) (fun c' hle hk => (rx (by kernel_rfl) (ldEN (T := 120) (j := 0) (l := [.int .i64 z_37.2.1, .int .i64 z_37.2.2.1, .bool false]) (by kernel_rfl) (by kernel_rfl) (hk.on 1 rfl) rfl rfl))) ?_
        refine AC.one 2 (by kernel_rfl) (Go1.memD 2 rfl (by kernel_rfl) (by kernel_rfl) (Own.st (T := 122) (j := 0) (us := [.slice a193 a194 a195, .int .i64 x_95.Row, .int .i64 x_95.Col, .bool x_95.Pending, .bool x_87.Auto]) (nw := [.slice a193 a194 a195, .int .i64 x_95.Row, .int .i64 x_95.Col, .bool x_95.Pending, .bool x_87.Auto]) (v := .agg #[.slice a193 a194 a195, .int .i64 x_95.Row, .int .i64 x_95.Col, .bool x_95.Pending, .bool x_87.Auto]) 4 O208 (by kernel_rfl) rfl rfl rfl rfl (by kernel_rfl) ⟨((h185.mono (l197.trans (l203.trans (l206.trans l207))))).one, rfl, rfl, rfl, rfl, trivial⟩ rfl rfl) ?_)
        rintro c211 l211 O210
        have p212 : Kp G0 [⟨.pointer (some ⟨b8, 0, none⟩), 122, [.slice a193 a194 a195, .int .i64 x_95.Row, .int .i64 x_95.Col, .bool x_95.Pending, .bool x_87.Auto], 0⟩, ⟨.pointer (some ⟨b157, 0, none⟩), 120, [.int .i64 z_37.2.1, .int .i64 z_37.2.2.1, .bool false], 0⟩] c211 := (Kp.cons (O210.on 5 rfl) (Kp.cons (O210.on 2 rfl) Kp.nil0))
        refine ⟨.inr p212, ?_⟩
        refine AC.one 3 (by kernel_rfl) (Go1.memD 3 rfl (by kernel_rfl) (by kernel_rfl) (Own.st (T := 120) (j := 0) (us := [.int .i64 z_37.2.1, .int .i64 z_37.2.2.1, .bool false]) (nw := [.int .i64 z_37.2.1, .int .i64 z_37.2.2.1, .bool false]) (v := .agg #[.int .i64 z_37.2.1, .int .i64 z_37.2.2.1, .bool false]) 3 O210 (by kernel_rfl) rfl rfl rfl rfl (by kernel_rfl) ⟨rfl, rfl, rfl, trivial⟩ rfl rfl) ?_)
        rintro c214 l214 O213
        have p215 : Kp G0 [⟨.pointer (some ⟨b8, 0, none⟩), 122, [.slice a193 a194 a195, .int .i64 x_95.Row, .int .i64 x_95.Col, .bool x_95.Pending, .bool x_87.Auto], 0⟩, ⟨.pointer (some ⟨b157, 0, none⟩), 120, [.int .i64 z_37.2.1, .int .i64 z_37.2.2.1, .bool false], 0⟩] c214 := (Kp.cons (O213.on 5 rfl) (Kp.cons (O213.on 2 rfl) Kp.nil0))
        refine ⟨.inr p215, ?_⟩
        refine AC.done (by kernel_rfl) ?_
        refine nrm ?_
        refine W.ret ?_
        obtain rfl := Option.some.inj H88
        have O216 := O213.selD 6 [0] (by kernel_rfl) (by kernel_rfl)
        exact retCC (c := c214) (vs := [.slice a193 a194 a195, .int .i64 x_95.Row, .int .i64 x_95.Col, .bool x_95.Pending, .bool x_87.Auto]) (vs' := [.int .i64 z_37.2.1, .int .i64 z_37.2.2.1, .bool false]) rfl (by kernel_rfl) (by kernel_rfl) (by kernel_rfl) (O213.on 4 rfl _ rfl).1 (by kernel_rfl) (by kernel_rfl) (by kernel_rfl) (O213.on 3 rfl _ rfl).1 ⟨_, c214, rfl, rfl, (l10.trans (l14.trans (l18.trans (l27.trans (l33.trans (l39.trans (l55.trans (l80.trans (l150.trans (l159.trans (l162.trans (l163.trans (l174.trans (l179.trans (l190.trans (l197.trans (l203.trans (l206.trans (l207.trans (l211.trans l214)))))))))))))))))))), (.slice a193 a194 a195), u184, O216, rfl, (h185.mono (l197.trans (l203.trans (l206.trans (l207.trans (l211.trans l214))))))⟩

def f_linotypelaw34_Alike (sg : Sto) (p0 : Option Nat) (p1 : G_linotyperef34_Pen) : Option (Bool) :=
  (p0).bind fun k_5 =>
  (sg.place_Pen[k_5]?).bind fun o_7 =>
  (andE (o_7.At.Row == p1.At.Row && (o_7.At.Col == p1.At.Col && (o_7.At.Pending == p1.At.Pending && true))) (some (o_7.Auto == p1.Auto))).bind fun d_11 =>
  (andE d_11 ((f_grid_Grid_Lines sg o_7.G).bind fun x_28 =>
  (f_linotyperef32_Same x_28 p1.L).bind fun x_29 =>
  some x_29)).bind fun d_20 =>
  some d_20
theorem c_linotypelaw34_Alike {c0 : Cx} {G : Gm} {F : List En} {sg : Sto} {v1 : Value} {v3 : Value} (O0 : Own c0 G F) (R0 : Rel c0 sg G) (p0 : Option Nat) (p1 : G_linotyperef34_Pen) {r : Bool} (h2 : Pt 2 c0 v1 p0) (h4 : Sl R_api_Line c0 v3 p1.L) (H : f_linotypelaw34_Alike sg p0 p1 = some r) :
    Calls Tryd.prog 79 #[v1, .agg #[v3, .int .i64 p1.At.Row, .int .i64 p1.At.Col, .bool p1.At.Pending, .bool p1.Auto]] c0.w (Post c0 fun c v => Own c G (F) ∧ v = .bool r) := by
  unfold f_linotypelaw34_Alike at H
  refine enter (l := [v1, .agg #[v3, .int .i64 p1.At.Row, .int .i64 p1.At.Col, .bool p1.At.Pending, .bool p1.Auto]]) Tryd.func79 rfl rfl rfl ?_
  refine sr ?_
  obtain ⟨a5, a6, a7, rfl⟩ := (h4).form
  refine WL.mem rfl (Own.bx (T := 122) (vs := [.slice a5 a6 a7, .int .i64 p1.At.Row, .int .i64 p1.At.Col, .bool p1.At.Pending, .bool p1.Auto]) O0 (by kernel_rfl)) ?_
  rintro v12 c11 l11 ⟨b8, rfl, O9, m10⟩
  refine va (.bool false) ?_
  refine wln ?_
  refine W.seq ?_
  obtain ⟨k_5, h13, H⟩ := bs H
  obtain ⟨o_7, h14, H⟩ := bs H
  obtain ⟨d_11, h15, H⟩ := bs H
  obtain ⟨d_20, h16, H⟩ := bs H
  refine W.join (fun e w => ∃ (c : Cx) (g : Nat → Value), w = c.w ∧ c11.le c ∧ Own c G (F) ∧ e = ups g [(4, .bool d_20)]) ?_ ?_
  · clear H
    refine W.regionD [] (Kp G []) O9 (by kernel_rfl) ?_
    intro c17 l17 O18
    have p19 : Kp G [] c17 := (Kp.nil O18)
    refine ta 0 (v1) ?_
    obtain ⟨b20, rfl, h21⟩ := ((h2.mono (l11.trans l17))).get h13
    refine ta 1 (.pointer (some ⟨b20, 0, none⟩)) ?_
    refine ta 2 (.pointer (some ⟨b20, 1, none⟩)) ?_
    obtain ⟨v22, h24, h23⟩ := Rel.open_place_Pen (R0.mono (l11.trans l17)) h14 h21
    refine AC.takeK 3 (.agg #[.int .i64 o_7.At.Row, .int .i64 o_7.At.Col, .bool o_7.At.Pending]) p19 rfl (by kernel_rfl) (by kernel_rfl) (by kernel_rfl) (fun c' hle hk => (rx (by kernel_rfl) (ldEN (T := 120) (j := 1) (l := [.int .i64 o_7.At.Row, .int .i64 o_7.At.Col, .bool o_7.At.Pending]) (by kernel_rfl) (by kernel_rfl) (hk.gon h24 0 rfl) rfl rfl))) ?_
    refine ta 4 (.pointer (some ⟨b8, 0 + 1, none⟩)) ?_
    refine AC.take 5 (.agg #[.int .i64 p1.At.Row, .int .i64 p1.At.Col, .bool p1.At.Pending]) rfl (by kernel_rfl) (by kernel_rfl) (fun c' hle => (rx (by kernel_rfl) (run_loadN (T := 120) (by kernel_rfl) (by kernel_rfl) (imsub (k := 1) (l := [.int .i64 p1.At.Row, .int .i64 p1.At.Col, .bool p1.At.Pending]) (fun j u hu => (m10 j u hu).mono (l17.trans hle)) rfl)))) ?_
    refine AC.take 6 (.bool (o_7.At.Row == p1.At.Row && (o_7.At.Col == p1.At.Col && (o_7.At.Pending == p1.At.Pending && true)))) rfl (by kernel_rfl) (by kernel_rfl) (fun c' hle => (run_eqlA (T := 120) (xs := #[.int .i64 o_7.At.Row, .int .i64 o_7.At.Col, .bool o_7.At.Pending]) (ys := #[.int .i64 p1.At.Row, .int .i64 p1.At.Col, .bool p1.At.Pending]) (r := (o_7.At.Row == p1.At.Row && (o_7.At.Col == p1.At.Col && (o_7.At.Pending == p1.At.Pending && true)))) Tryd.underlying120 (by kernel_rfl) (by kernel_rfl) (EqP.int (by kernel_rfl) Tryd.underlying3 rfl rfl (EqP.int (by kernel_rfl) Tryd.underlying3 rfl rfl (EqP.bool (by kernel_rfl) Tryd.underlying4 rfl rfl EqP.nil))) (by kernel_rfl) _)) ?_
    rcases Bool.eq_false_or_eq_true ((o_7.At.Row == p1.At.Row && (o_7.At.Col == p1.At.Col && (o_7.At.Pending == p1.At.Pending && true)))) with h25 | h25
    · skip
      have H26 := anT h25 h15
      refine AC.takeb 7 h25 rfl (by kernel_rfl) (by kernel_rfl) (fun c' hle => (by kernel_rfl)) ?_
      refine ta 8 (.pointer (some ⟨b20, 0, none⟩)) ?_
      refine ta 9 (.pointer (some ⟨b20, 0, none⟩)) ?_
      refine ta 10 (.pointer (some ⟨b20, 4, none⟩)) ?_
      refine AC.takeK 11 (.bool o_7.Auto) p19 rfl (by kernel_rfl) (by kernel_rfl) (by kernel_rfl) (fun c' hle hk => (rx (by kernel_rfl) (ldE1 (j := 4) Tryd.underlying4 rfl (hk.gon h24 0 rfl) rfl rfl))) ?_
      refine ta 12 (.pointer (some ⟨b8, 0 + 4, none⟩)) ?_
      refine AC.take 13 (.bool p1.Auto) rfl (by kernel_rfl) (by kernel_rfl) (fun c' hle => (rx (by kernel_rfl) (run_load1 Tryd.underlying4 rfl ((fun j u hu => (m10 j u hu).mono (l17.trans hle)) 4 _ rfl)))) ?_
      refine ta 14 (.bool (o_7.Auto == p1.Auto)) ?_
      obtain rfl := Option.some.inj H26
      refine ta 15 (.bool (o_7.Auto == p1.Auto)) ?_
      rcases Bool.eq_false_or_eq_true (o_7.Auto == p1.Auto) with h27 | h27
      · skip
        have H28 := anT h27 h16
        refine AC.takeb 16 h27 rfl (by kernel_rfl) (by kernel_rfl) (fun c' hle => (by kernel_rfl)) ?_
        refine ta 17 (.pointer (some ⟨b20, 0, none⟩)) ?_
        refine ta 18 (.pointer (some ⟨b20, 0, none⟩)) ?_
        refine ta 19 (.pointer (some ⟨b20, 0, none⟩)) ?_
        refine AC.takeK 20 (v22) p19 rfl (by kernel_rfl) (by kernel_rfl) (by kernel_rfl) (fun c' hle hk => (rx (by kernel_rfl) (ldE1 (j := 0) Tryd.underlying51 rfl (hk.gon h24 0 rfl) rfl rfl))) ?_
        refine ta 22 (.pointer (some ⟨b8, 0, none⟩)) ?_
        refine AC.take 23 (.slice a5 a6 a7) rfl (by kernel_rfl) (by kernel_rfl) (fun c' hle => (rx (by kernel_rfl) (run_load1 Tryd.underlying47 rfl ((fun j u hu => (m10 j u hu).mono (l17.trans hle)) 0 _ rfl)))) ?_
        obtain ⟨x_28, h29, H28⟩ := bs H28
        refine AC.one 21 (by kernel_rfl) (Go1.callP 21 rfl (by kernel_rfl) (by kernel_rfl) (by kernel_rfl) (c_grid_Grid_Lines O18 (R0.mono (l11.trans l17)) o_7.G h23 h29) ?_)
        rintro v30 c37 l37 ⟨_, u31, O34, rfl, h32⟩
        have p39 : Kp G [] c37 := (Kp.nil O34)
        refine ⟨.inr p39, ?_⟩
        obtain ⟨c42, h43, l42, O40, h41⟩ := O34.frz 0 rfl h32
        have p44 : Kp G [] c42 := (Kp.nil O40)
        refine AC.gh h43 l42 (fun _ => p44) ?_
        obtain ⟨x_29, h45, H28⟩ := bs H28
        refine AC.one 24 (by kernel_rfl) (Go1.callP 24 rfl (by kernel_rfl) (by kernel_rfl) (by kernel_rfl) (c_linotyperef32_Same O40 x_28 p1.L h41 (h4.mono (l11.trans (l17.trans (l37.trans l42)))) h45) ?_)
        rintro v51 c50 l50 ⟨O47, rfl⟩
        have p52 : Kp G [] c50 := (Kp.nil O47)
        refine ⟨.inr p52, ?_⟩
        obtain rfl := Option.some.inj H28
        refine ta 25 (.bool x_29) ?_
        refine ta 26 (.bool x_29) ?_
        refine AC.done (by kernel_rfl) ?_
        refine nrm ?_
        have O53 := O47.selD 1 [] (by kernel_rfl) (by kernel_rfl)
        exact ⟨c50, _, rfl, (l17.trans (l37.trans (l42.trans l50))), O53, ups_self ⟨rfl, trivial⟩⟩
      · skip
        obtain rfl := anF h27 h16
        refine AC.takeb 16 h27 rfl (by kernel_rfl) (by kernel_rfl) (fun c' hle => (by kernel_rfl)) ?_
        refine AC.pass 17 rfl (by kernel_rfl) (by kernel_rfl) ?_
        refine AC.pass 18 rfl (by kernel_rfl) (by kernel_rfl) ?_
        refine AC.pass 19 rfl (by kernel_rfl) (by kernel_rfl) ?_
        refine AC.pass 20 rfl (by kernel_rfl) (by kernel_rfl) ?_
        refine AC.pass 22 rfl (by kernel_rfl) (by kernel_rfl) ?_
        refine AC.pass 23 rfl (by kernel_rfl) (by kernel_rfl) ?_
        refine AC.pass 21 rfl (by kernel_rfl) (by kernel_rfl) ?_
        refine AC.pass 24 rfl (by kernel_rfl) (by kernel_rfl) ?_
        refine ta 25 (.bool false) ?_
        refine ta 26 (.bool false) ?_
        refine AC.done (by kernel_rfl) ?_
        refine nrm ?_
        exact ⟨c17, _, rfl, l17, O18, ups_self ⟨rfl, trivial⟩⟩
    · skip
      obtain rfl := anF h25 h15
      refine AC.takeb 7 h25 rfl (by kernel_rfl) (by kernel_rfl) (fun c' hle => (by kernel_rfl)) ?_
      refine AC.pass 8 rfl (by kernel_rfl) (by kernel_rfl) ?_
      refine AC.pass 9 rfl (by kernel_rfl) (by kernel_rfl) ?_
      refine AC.pass 10 rfl (by kernel_rfl) (by kernel_rfl) ?_
      refine AC.pass 11 rfl (by kernel_rfl) (by kernel_rfl) ?_
      refine AC.pass 12 rfl (by kernel_rfl) (by kernel_rfl) ?_
      refine AC.pass 13 rfl (by kernel_rfl) (by kernel_rfl) ?_
      refine AC.pass 14 rfl (by kernel_rfl) (by kernel_rfl) ?_
      refine ta 15 (.bool false) ?_
      have h54 : false = false := rfl
      obtain rfl := anF h54 h16
      refine AC.takeb 16 h54 rfl (by kernel_rfl) (by kernel_rfl) (fun c' hle => (by kernel_rfl)) ?_
      refine AC.pass 17 rfl (by kernel_rfl) (by kernel_rfl) ?_
      refine AC.pass 18 rfl (by kernel_rfl) (by kernel_rfl) ?_
      refine AC.pass 19 rfl (by kernel_rfl) (by kernel_rfl) ?_
      refine AC.pass 20 rfl (by kernel_rfl) (by kernel_rfl) ?_
      refine AC.pass 22 rfl (by kernel_rfl) (by kernel_rfl) ?_
      refine AC.pass 23 rfl (by kernel_rfl) (by kernel_rfl) ?_
      refine AC.pass 21 rfl (by kernel_rfl) (by kernel_rfl) ?_
      refine AC.pass 24 rfl (by kernel_rfl) (by kernel_rfl) ?_
      refine ta 25 (.bool false) ?_
      refine ta 26 (.bool false) ?_
      refine AC.done (by kernel_rfl) ?_
      refine nrm ?_
      exact ⟨c17, _, rfl, l17, O18, ups_self ⟨rfl, trivial⟩⟩
  · skip
    rintro e_ w_ ⟨c55, g56, rfl, l55, O57, rfl⟩
    refine nrm ?_
    refine W.ret ?_
    obtain rfl := Option.some.inj H
    exact ret1 (v := .bool d_20) rfl (by kernel_rfl) ⟨_, c55, rfl, rfl, (l11.trans l55), O57, rfl⟩

end Go.Proofs.YtohpkblleihmaaaDoor
