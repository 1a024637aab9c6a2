import Derived.Test.YthokmpbbkpjhbaaGreatDoorMq
import Derived.Test.YthokmpbbkpjhbaaGreatDoorProg
import Derived.Test.YthokmpbbkpjhbaaGreatDoorMy
namespace Go.Proofs.YthokmpbbkpjhbaaGreatDoor
open Go Go.Lt
set_option maxRecDepth 10000
set_option linter.unusedVariables false
attribute [local irreducible] W WL AC
def f_slices_Clone (p0 : List Int) : Option (List Int) := app [] p0
theorem c_slices_Clone {c0 : Cx} {G : Gm} {F : List En} {v1 : Value} (O0 : Own c0 G F) (p0 : List Int) (h1 : Sl (RI .i32) c0 v1 p0) {r : List Int} (H : f_slices_Clone p0 = some r) :
    Calls Tryz.prog 153 #[v1] c0.w (Post c0 fun c v => ∃ y1 : Value, ∃ y2 : List Value, Own c G (es true (RI .i32) y1 21 y2 r :: F) ∧ v = y1 ∧ OA (RI .i32) c y1 y2 r) := by
  unfold f_slices_Clone at H
  have hS := h1
  obtain ⟨a, cap, rfl, h2, h3, h4⟩ := h1
  refine enter (l := [.slice a p0.length cap]) Tryz.func153 rfl rfl rfl ?_
  refine W.seq ?_
  refine W.region ?_
  refine WL.val0 (v := .slice none 0 0) rfl (by kernel_rfl) ?_
  refine WL.nil ?_
  refine nrm ?_
  cases a with
  | none =>
    obtain rfl : p0 = [] := by
      cases p0 with
      | nil => rfl
      | cons x t =>
        obtain ⟨b, off, l, e, _⟩ := h4 0 x rfl
        cases e
    obtain rfl : r = [] := by simpa [app] using H.symm
    refine W.seq ?_
    refine W.seq ?_
    refine W.region ?_
    refine WL.val0 (v := .slice none 0 cap) rfl (by kernel_rfl) ?_
    refine WL.val0 (v := .bool true) rfl (by kernel_rfl) ?_
    refine WL.nil ?_
    refine nrm ?_
    refine W.cond (t := true) (by kernel_rfl) (fun _ => ?_) (fun h => by cases h)
    refine W.seq ?_
    refine W.region ?_
    refine WL.val0 (v := .slice none 0 0) rfl (by kernel_rfl) ?_
    refine WL.nil ?_
    refine nrm ?_
    refine W.ret ?_
    refine thr ?_
    have O1 := O0.addHole (e := es true (RI .i32) (.slice none 0 0) 21 [] ([] : List Int)) rfl
    exact ret1 (v := .slice none 0 0) rfl (by kernel_rfl) ⟨_, c0, rfl, rfl, Cx.le.refl _, _, _, O1, rfl, OA.nil (Nat.succ_pos _)⟩
  | some ad =>
    refine W.seq ?_
    refine W.seq ?_
    refine W.region ?_
    refine WL.val0 (v := .slice (some ad) p0.length cap) rfl (by kernel_rfl) ?_
    refine WL.val0 (v := .bool false) rfl (by kernel_rfl) ?_
    refine WL.nil ?_
    refine nrm ?_
    refine W.cond (t := false) (by kernel_rfl) (fun h => by cases h) (fun _ => ?_)
    refine W.skip ?_
    refine nrm ?_
    refine W.seq ?_
    refine W.region ?_
    refine WL.mem rfl (Own.sl (R := RI .i32) (E := 21) (ls := []) (vs := []) (xs := ([] : List Int)) true O0 (Nat.succ_pos _) rfl trivial (by kernel_rfl) (by kernel_rfl)) ?_
    rintro v5 c1 l1 ⟨u1, O1, a1⟩
    refine WL.val0 (v := .slice (some ad) p0.length cap) rfl (by kernel_rfl) ?_
    refine WL.mem rfl (Own.app (R := RI .i32) (z := .int .i32 0) (by_ := 4) (ty := 27) 0 O1 rfl a1 (hS.mono l1) H Tryz.underlying27 (by kernel_rfl) rfl (by kernel_rfl) (by kernel_rfl)) ?_
    rintro v6 c2 l2 ⟨u2, O2, a2⟩
    refine WL.val0 (v := v6) rfl (by kernel_rfl) ?_
    refine WL.nil ?_
    refine nrm ?_
    refine W.ret ?_
    exact ret1 (v := v6) rfl (by kernel_rfl) ⟨_, c2, rfl, rfl, l1.trans l2, _, _, O2, rfl, a2⟩

def f_api_Wrong (p0 : Int) (p1 : Er) : Option Er := some (.fault p0 p1)
theorem c_api_Wrong {c0 : Cx} {G : Gm} {F : List En} {v2 : Value} (O0 : Own c0 G F) (p0 : Int) (p1 : Er) (h1 : RE 305 179 c0 v2 p1) {r : Er} (H : f_api_Wrong p0 p1 = some r) :
    Calls Tryz.prog 80 #[.int .i64 p0, v2] c0.w (Post c0 fun c v => ∃ y1 : Value, Own c G F ∧ v = y1 ∧ RE 305 179 c y1 r) := by
  obtain rfl := Option.some.inj H
  refine enter (l := [.int .i64 p0, v2]) Tryz.func80 rfl rfl rfl ?_
  refine W.seq ?_
  refine W.region ?_
  refine WL.val0 (v := .nilIface) rfl (by kernel_rfl) ?_
  refine WL.nil ?_
  refine nrm ?_
  refine W.seq ?_
  refine W.region ?_
  refine WL.val0 (v := .int .i64 p0) rfl (by kernel_rfl) ?_
  refine WL.val0 (v := v2) rfl (by kernel_rfl) ?_
  refine WL.val0 (v := .agg #[.int .i64 p0, v2]) rfl (by rcases h1.cs3 with rfl | ⟨t, a, rfl⟩ <;> kernel_rfl) ?_
  refine WL.mem rfl (Own.bx (T := 183) (vs := [.int .i64 p0, v2]) O0 (by kernel_rfl)) ?_
  rintro v5 c1 l1 ⟨b, rfl, O1, hm⟩
  refine WL.val0 (v := .iface 179 (.pointer (some ⟨b, 0, none⟩))) rfl (by kernel_rfl) ?_
  refine WL.val0 (v := .iface 179 (.pointer (some ⟨b, 0, none⟩))) rfl (by kernel_rfl) ?_
  refine WL.nil ?_
  refine nrm ?_
  refine W.ret ?_
  exact ret1 (v := .iface 179 (.pointer (some ⟨b, 0, none⟩))) rfl (by kernel_rfl) ⟨_, c1, rfl, rfl, l1, _, O1, rfl, _, _, rfl, hm 0 _ rfl, hm 1 _ rfl, h1.mono l1⟩

theorem c_slices_CloneV {c0 : Cx} {G : Gm} {F : List En} {e0 : En} {b j n : Nat} {p0 : List Int} (O0 : Own c0 G (e0 :: F)) (hb : blk e0.v = some b) (hn : p0.length = n) (hv : ∀ m u, (p0.map (.int .i32))[m]? = some u → e0.vs[j + m]? = some u) {r : List Int} (H : f_slices_Clone p0 = some r) :
    Calls Tryz.prog 153 #[.slice (some ⟨b, j, none⟩) n 16] c0.w (Post c0 fun c v => ∃ y1 : Value, ∃ y2 : List Value, Own c G (es true (RI .i32) y1 21 y2 r :: e0 :: F) ∧ v = y1 ∧ OA (RI .i32) c y1 y2 r) := by
  unfold f_slices_Clone at H
  subst hn
  refine enter (l := [.slice (some ⟨b, j, none⟩) p0.length 16]) Tryz.func153 rfl rfl rfl ?_
  refine W.seq ?_
  refine W.region ?_
  refine WL.val0 (v := .slice none 0 0) rfl (by kernel_rfl) ?_
  refine WL.nil ?_
  refine nrm ?_
  refine W.seq ?_
  refine W.seq ?_
  refine W.region ?_
  refine WL.val0 (v := .slice (some ⟨b, j, none⟩) p0.length 16) rfl (by kernel_rfl) ?_
  refine WL.val0 (v := .bool false) rfl (by kernel_rfl) ?_
  refine WL.nil ?_
  refine nrm ?_
  refine W.cond (t := false) (by kernel_rfl) (fun h => by cases h) (fun _ => ?_)
  refine W.skip ?_
  refine nrm ?_
  refine W.seq ?_
  refine W.region ?_
  refine WL.mem rfl (Own.sl (R := RI .i32) (E := 21) (ls := []) (vs := []) (xs := ([] : List Int)) true O0 (Nat.succ_pos _) rfl trivial (by kernel_rfl) (by kernel_rfl)) ?_
  rintro v5 c1 l1 ⟨u1, O1, a1⟩
  refine WL.val0 (v := .slice (some ⟨b, j, none⟩) p0.length 16) rfl (by kernel_rfl) ?_
  have hon := O1.on 1 rfl
  refine WL.mem rfl (Own.appSrc (R := RI .i32) (nw := p0.map (.int .i32)) (ua := some ⟨b, j, none⟩) (ucap := 16) (z := .int .i32 0) (by_ := 4) (ty := 27) 0 O1 rfl a1 (by rw [List.length_map]; exact (Nat.mul_one _).symm) (fun _ => ⟨b, j, rfl, fun m u hu => (hon.cell hb (j + m)).trans (hv m u hu)⟩) (fun w hw => by
    obtain ⟨x, _, rfl⟩ := List.mem_map.1 hw
    rfl) (fun i x hx => by
    show ((p0.map (Value.int .i32)).drop (i * 1)).take 1 = [.int .i32 x]
    have hlt := (List.getElem?_eq_some_iff.1 hx).1
    have he := (List.getElem?_eq_some_iff.1 hx).2
    rw [Nat.mul_one, List.drop_eq_getElem_cons (by rw [List.length_map]; exact hlt), List.take_succ_cons, List.take_zero, List.getElem_map, he]) H Tryz.underlying27 (by kernel_rfl) rfl (by kernel_rfl) (by kernel_rfl)) ?_
  rintro v6 c2 l2 ⟨u2, O2, a2⟩
  refine WL.val0 (v := v6) rfl (by kernel_rfl) ?_
  refine WL.nil ?_
  refine nrm ?_
  refine W.ret ?_
  exact ret1 (v := v6) rfl (by kernel_rfl) ⟨_, c2, rfl, rfl, l1.trans l2, _, _, O2, rfl, a2⟩

end Go.Proofs.YthokmpbbkpjhbaaGreatDoor
