import Derived.Test.YthokmpbbkpjhbaaGreatDoorMq
import Derived.Test.YthokmpbbkpjhbaaGreatDoorProg
import Derived.Test.YthokmpbbkpjhbaaGreatDoorMy
import Derived.WalkKit
import Derived.LaidEql
import Derived.Stop.Asserts
import Derived.RowKitTokens
import Derived.Elder7
namespace Go.Proofs.YthokmpbbkpjhbaaGreatDoor
open Go Go.Lt
set_option maxRecDepth 10000
set_option linter.unusedVariables false
attribute [local irreducible] W WL AC
open Go.RowKit Go.Extern.Stop Go.Stop Go.Extern
/-- Are an error's variables all below n? -/
def erAll (n : Nat) : Er → Bool
  | .nil => true
  | .sent g => decide (g < n)
  | .fault _ e => erAll n e
/-- Is a variable's error within an error? -/
def erHas (k : Nat) : Er → Bool
  | .nil => false
  | .sent g => g == k
  | .fault _ e => erHas k e
def erDeep : Er → Nat
  | .nil => 0
  | .sent _ => 0
  | .fault _ e => erDeep e + 1
def f_errors_Is (p0 p1 : Er) : Option Bool := match p1 with
  | .sent k => if k < 8 ∧ erAll 8 p0 = true then some (erHas k p0) else none
  | _ => none

theorem is_TypeOf (v : Value) (w : World) : (Extern.ReflectliteType.typeOf #[.iface 305 v]).run Tryz.prog w = .ok (.iface 250 (.agg #[.pointer (some ⟨9, 305, none⟩)])) w := by kernel_rfl
theorem is_Comparable (w : World) : ((Extern.ReflectliteType.method fun t => do Extern.Rtype.noPackHeld "Comparable" t; pure (.bool (← typeInfo t).comparable)) #[.agg #[.pointer (some ⟨9, 305, none⟩)]]).run Tryz.prog w = .ok (.bool true) w := by kernel_rfl
theorem is_methodComparable (v : Value) (w : World) : (Go.method 438 250 v "Comparable").run Tryz.prog w = .ok (301, v) w := by kernel_rfl
theorem is_comp : (Tryz.prog.info? 305).map (·.comparable) = some true := by kernel_rfl
theorem is_size : (Tryz.prog.info? 326).map (·.size) = some 1 := by kernel_rfl
theorem is_noIsE (v : Value) (xT : TypeId) (w : World) : (Instr.typeAssert (.iface 305 v) xT 252 true).run Tryz.prog w = .ok (.tuple #[.nilIface, .bool false]) w := run_typeAssert_lacksB Tryz.underlying252 (by kernel_rfl) (by kernel_rfl) v xT w
theorem is_noUnwrapE (v : Value) (xT : TypeId) (w : World) : (Instr.typeAssert (.iface 305 v) xT 255 true).run Tryz.prog w = .ok (.tuple #[.nilIface, .bool false]) w := run_typeAssert_lacksB Tryz.underlying255 (by kernel_rfl) (by kernel_rfl) v xT w
theorem is_noUnwrapsE (v : Value) (xT : TypeId) (w : World) : (Instr.typeAssert (.iface 305 v) xT 257 true).run Tryz.prog w = .ok (.tuple #[.nilIface, .bool false]) w := run_typeAssert_lacksB Tryz.underlying257 (by kernel_rfl) (by kernel_rfl) v xT w
theorem is_noIsW (v : Value) (xT : TypeId) (w : World) : (Instr.typeAssert (.iface 179 v) xT 252 true).run Tryz.prog w = .ok (.tuple #[.nilIface, .bool false]) w := run_typeAssert_lacksB Tryz.underlying252 (by kernel_rfl) (by kernel_rfl) v xT w
theorem is_hasUnwrapW (v : Value) (xT : TypeId) (w : World) : (Instr.typeAssert (.iface 179 v) xT 255 true).run Tryz.prog w = .ok (.tuple #[.iface 179 v, .bool true]) w := run_typeAssert_hasB Tryz.underlying255 (by kernel_rfl) v xT w
theorem is_methodUnwrap (v : Value) (w : World) : (Go.method 438 179 v "Unwrap").run Tryz.prog w = .ok (294, v) w := by kernel_rfl

open Classical in
/-- How deep what is left is: the loop's measure. -/
noncomputable def isDeep (c : Cx) (E : Value) : Nat := if h : ∃ p, RE 305 179 c E p then erDeep h.choose else 0
theorem isDeep_one {c : Cx} : ∀ {p p' : Er} {E : Value}, RE 305 179 c E p → RE 305 179 c E p' → erDeep p = erDeep p'
  | .nil, .nil, _, _, _ => rfl
  | .nil, .sent _, _, h, h' => rfl
  | .nil, .fault _ _, _, h, h' => by
    obtain rfl := h
    obtain ⟨b, u, e, _⟩ := h'
    cases e
  | .sent _, .nil, _, _, _ => rfl
  | .sent _, .sent _, _, _, _ => rfl
  | .sent _, .fault _ _, _, h, h' => by
    obtain ⟨a, rfl, _⟩ := h
    obtain ⟨b, u, e, _⟩ := h'
    cases e
  | .fault _ _, .nil, _, h, h' => by
    obtain rfl := h'
    obtain ⟨b, u, e, _⟩ := h
    cases e
  | .fault _ _, .sent _, _, h, h' => by
    obtain ⟨a, rfl, _⟩ := h'
    obtain ⟨b, u, e, _⟩ := h
    cases e
  | .fault _ p, .fault _ p', _, h, h' => by
    obtain ⟨b, u, rfl, _, h1, h2⟩ := h
    obtain ⟨b', u', e, _, h1', h2'⟩ := h'
    cases e
    have := h1.cell.symm.trans h1'.cell
    cases this
    show erDeep p + 1 = erDeep p' + 1
    rw [isDeep_one h2 h2']
theorem isDeep_eq {c : Cx} {E : Value} {p : Er} (h : RE 305 179 c E p) : isDeep c E = erDeep p := by
  unfold isDeep
  rw [dif_pos ⟨p, h⟩]
  exact isDeep_one (Exists.choose_spec ⟨p, h⟩) h
set_option maxRecDepth 1000000 in
theorem is_Unwrap {w : World} {b : Nat} {u : Value} (h : w.cell? ⟨b, 1, none⟩ = some u) (hu : u.oneCell' = true) : Calls Tryz.prog 294 #[.pointer (some ⟨b, 0, none⟩)] w fun e w' => e = .returned u ∧ w' = w := by
  go_enter Tryz.func294, Tryz.ntmps294
  go_wp2
  go_ret
  exact ⟨rfl, rfl⟩

set_option maxRecDepth 1000000 in
theorem is_chain {c : Cx} (hG : Gl [0, 1, 2, 3, 4, 5, 6, 7] c) (b : Addr) (k : Nat) (hk : k < 8) (h2 : RE 305 179 c (.iface 305 (.pointer (some b))) (.sent k)) (E : Value) (p0 : Er) (h1 : RE 305 179 c E p0) (hn : p0.isNil = false) (ha : erAll 8 p0 = true) :
    Calls Tryz.prog 167 #[E, .iface 305 (.pointer (some b)), .bool true] c.w fun e w' => e = .returned (.bool (erHas k p0)) ∧ w' = c.w := by
  obtain ⟨i, hi, hcmp⟩ := Option.map_eq_some_iff.1 is_comp
  obtain ⟨j, hj, hjs⟩ := Option.map_eq_some_iff.1 is_size
  have nE := is_noIsE
  have uE := is_noUnwrapE
  have vE := is_noUnwrapsE
  have nW := is_noIsW
  have uW := is_hasUnwrapW
  have mU := is_methodUnwrap
  have hmem : ∀ g, g < 8 → g ∈ [0, 1, 2, 3, 4, 5, 6, 7] := by decide
  obtain ⟨b', eb, hkm, hkf⟩ := h2
  cases eb
  obtain ⟨W, hW⟩ : ∃ W, Hid (W = c.w) := ⟨_, rfl⟩
  rw [← hW.out]
  go_enter Tryz.func167, Tryz.ntmps167
  go_wp2
  go_loopw [0] (fun E' wl => wl = W ∧ ∃ p, RE 305 179 c E' p ∧ p.isNil = false ∧ erAll 8 p = true ∧ erHas k p0 = erHas k p) (fun E' _ => isDeep c E')
  case atStart => exact ⟨rfl, p0, h1, hn, ha, rfl⟩
  case round =>
    obtain ⟨rfl, p, hp, hpn, hpa, hiff⟩ := hrel
    cases p with
    | nil => cases hpn
    | sent g =>
      obtain ⟨a, rfl, hgm, hgf⟩ := hp
      by_cases hab : a = b
      · subst hab
        have hgk : g = k := Classical.byContradiction fun hne => hG.2 g k (hmem g (of_decide_eq_true hpa)) (hmem k hk) hne a hgm hkm
        have heq := run_eql_iface_ptr_same (P := Tryz.prog) wr a Tryz.underlying37 Tryz.underlying305 hi hcmp hj
        go_wp2
        go_ret
        exact ⟨by rw [hiff]; simp [erHas, hgk], rfl⟩
      · obtain ⟨ca, ta, hca⟩ := hgf.blk
        obtain ⟨cb, tb, hcb⟩ := hkf.blk
        rw [← hW.out] at hca hcb
        have hgk : ¬ g = k := fun e => by
          subst e
          have := hgm.cell.symm.trans hkm.cell
          cases this
          exact hab rfl
        have heq := run_eql_iface_ptr_other (P := Tryz.prog) wr Tryz.underlying37 Tryz.underlying305 hi hcmp hj (by rw [hjs]; decide) hab hca hcb
        go_wp2
        go_ret
        exact ⟨by rw [hiff]; simp [erHas, hgk], rfl⟩
    | fault n e1 =>
      obtain ⟨fb, u, rfl, hi0, hi1, hre⟩ := hp
      have hcell := hi1.cell
      rw [← hW.out] at hcell
      have hty := run_eql_iface_types (P := Tryz.prog) 179 305 (.pointer (some ⟨fb, 0, none⟩)) (.pointer (some b)) Tryz.underlying37 (by decide) wr
      have hlen := isDeep_eq hre
      have hlen0 := isDeep_eq (c := c) (E := .iface 179 (.pointer (some ⟨fb, 0, none⟩))) (p := .fault n e1) ⟨fb, u, rfl, hi0, hi1, hre⟩
      have HC : Hid (RE 305 179 c u e1) := hre
      cases e1 with
      | nil =>
        obtain rfl := hre
        go_wp2
        go_ret
        exact ⟨by rw [hiff]; simp [erHas], rfl⟩
      | sent g =>
        obtain ⟨a, rfl, _⟩ := hre
        go_wp2
        go_roundw
        case rel => exact ⟨trivial, _, HC.out, rfl, hpa, hiff⟩
        case measure =>
          show isDeep c (.iface 305 (.pointer (some a))) < _
          rw [hlen, hlen0]; simp [erDeep]
      | fault n2 e2 =>
        obtain ⟨fb2, u2, rfl, _⟩ := hre
        go_wp2
        go_roundw
        case rel => exact ⟨trivial, _, HC.out, rfl, hpa, hiff⟩
        case measure =>
          show isDeep c (.iface 179 (.pointer (some ⟨fb2, 0, none⟩))) < _
          rw [hlen, hlen0]; simp [erDeep]
set_option maxRecDepth 1000000 in
theorem is_is {c : Cx} (hG : Gl [0, 1, 2, 3, 4, 5, 6, 7] c) (b : Addr) (k : Nat) (hk : k < 8) (h2 : RE 305 179 c (.iface 305 (.pointer (some b))) (.sent k)) (E : Value) (p0 : Er) (h1 : RE 305 179 c E p0) (ha : erAll 8 p0 = true) :
    Calls Tryz.prog 99 #[E, .iface 305 (.pointer (some b))] c.w fun e w' => e = .returned (.bool (erHas k p0)) ∧ w' = c.w := by
  have h8 := @run_callFunc_extern Tryz.prog 166 _ Extern.ReflectliteType.typeOf Tryz.func166 (by kernel_rfl) (by kernel_rfl) (by kernel_rfl) (by kernel_rfl)
  have h320 := @run_callFunc_extern Tryz.prog 301 _ (Extern.ReflectliteType.method fun t => do Extern.Rtype.noPackHeld "Comparable" t; pure (.bool (← typeInfo t).comparable)) Tryz.func301 (by kernel_rfl) (by kernel_rfl) (by kernel_rfl) (by kernel_rfl)
  have h32 : ∀ w, (callFunc 301 #[.agg #[.pointer (some ⟨9, 305, none⟩)]]).run Tryz.prog w = .ok (.value (.bool true)) w := fun w => by rw [h320, is_Comparable]; rfl
  clear h320
  have tT := is_TypeOf
  have mR := is_methodComparable
  cases p0 with
  | nil =>
    obtain rfl := h1
    have hn := run_eql_iface_nil_left (P := Tryz.prog) c.w 305 (.pointer (some b)) Tryz.underlying37
    clear h2 hG
    go_enter Tryz.func99, Tryz.ntmps99
    go_wp2
    go_ret
    exact ⟨rfl, rfl⟩
  | sent g =>
    have hcon := is_chain hG b k hk h2 E (.sent g) h1 rfl ha
    obtain ⟨a, rfl, _⟩ := h1
    clear h2 hG
    go_enter Tryz.func99, Tryz.ntmps99
    go_wp2_with (first | (go_at_call 167; refine hcon.mono ?_; rintro e w' ⟨rfl, rfl⟩) | go_in)
    go_ret
    exact ⟨rfl, rfl⟩
  | fault i e =>
    have hcon := is_chain hG b k hk h2 E (.fault i e) h1 rfl ha
    obtain ⟨fb, u, rfl, _⟩ := h1
    clear h2 hG
    go_enter Tryz.func99, Tryz.ntmps99
    go_wp2_with (first | (go_at_call 167; refine hcon.mono ?_; rintro e w' ⟨rfl, rfl⟩) | go_in)
    go_ret
    exact ⟨rfl, rfl⟩
theorem c_errors_Is {c0 : Cx} {G : Gm} {F : List En} {v1 v2 : Value} (O0 : Own c0 G F) (hG : Gl [0, 1, 2, 3, 4, 5, 6, 7] c0) (p0 p1 : Er) (h1 : RE 305 179 c0 v1 p0) (h2 : RE 305 179 c0 v2 p1) {r : Bool} (H : f_errors_Is p0 p1 = some r) :
    Calls Tryz.prog 99 #[v1, v2] c0.w (Post c0 fun c v => Own c G F ∧ v = .bool r) := by
  unfold f_errors_Is at H
  split at H
  · rename_i k
    split at H
    · rename_i hh
      obtain rfl := Option.some.inj H
      obtain ⟨b, rfl, h3⟩ := id h2
      refine (is_is hG b k hh.1 h2 v1 p0 h1 hh.2).mono ?_
      rintro e w' ⟨rfl, rfl⟩
      exact ⟨_, c0, rfl, rfl, Cx.le.refl _, O0, rfl⟩
    · cases H
  · cases H

end Go.Proofs.YthokmpbbkpjhbaaGreatDoor
