import Derived.Test.YthokmpbbkpjhbaaGreatDoorFa
import Derived.Test.YthokmpbbkpjhbaaGreatDoorMy
import Derived.KernelRfl
namespace Go.Proofs.YthokmpbbkpjhbaaGreatDoor
open Go Go.Lt
set_option linter.unusedVariables false

theorem len5 {α : Type} {cs : List α} (h : cs.length = 5) : ∃ a0 a1 a2 a3 a4, cs = [a0, a1, a2, a3, a4] := by
  match cs, h with
  | [a0, a1, a2, a3, a4], _ => exact ⟨_, _, _, _, _, rfl⟩

theorem len4 {α : Type} {cs : List α} (h : cs.length = 4) : ∃ a0 a1 a2 a3, cs = [a0, a1, a2, a3] := by
  match cs, h with
  | [a0, a1, a2, a3], _ => exact ⟨_, _, _, _, rfl⟩

theorem len3 {α : Type} {cs : List α} (h : cs.length = 3) : ∃ a0 a1 a2, cs = [a0, a1, a2] := by
  match cs, h with
  | [a0, a1, a2], _ => exact ⟨_, _, _, rfl⟩

theorem len2 {α : Type} {cs : List α} (h : cs.length = 2) : ∃ a0 a1, cs = [a0, a1] := by
  match cs, h with
  | [a0, a1], _ => exact ⟨_, _, rfl⟩

def K_3 (n : Int) : Prop := (Lit.int .i64 n).wf = true
theorem D_3 : Rd Tryz.prog 3 (RI .i64) K_3 := Rd.int Tryz.underlying3 (by kernel_rfl)

def K_21 (n : Int) : Prop := (Lit.int .i32 n).wf = true
theorem D_21 : Rd Tryz.prog 21 (RI .i32) K_21 := Rd.int Tryz.underlying21 (by kernel_rfl)

def K_27 (xs : List Int) : Prop := xs.length ≤ maxLen ∧ ∀ x ∈ xs, K_21 x
theorem D_27 : Rd Tryz.prog 27 (RL (RI .i32)) K_27 := Rd.slice Tryz.underlying27 (by kernel_rfl) (by decide) D_21

def K_101 (x : G_api_Cell) : Prop := K_3 x.Kind ∧ K_27 x.Text
theorem D_101 : Rd Tryz.prog 101 R_api_Cell K_101 := by
  refine ⟨by kernel_rfl, fun {H enc w sp held fuel cs x} h => ?_⟩
  obtain ⟨xs, n, rfl, rfl, hl, hn, hf⟩ := DataW.trod_struct Tryz.underlying101 h
  replace hl := hl.trans (show Tryz.prog.cellsOf 101 = 2 by kernel_rfl)
  obtain ⟨a0, a1, rfl⟩ := len2 hl
  obtain ⟨y0, e0, k0⟩ := Rd.field hf hn 0 rfl D_3
  have e0 : [a0] = [.int .i64 y0] := e0
  cases e0
  obtain ⟨y1, e1, k1⟩ := Rd.field hf hn 1 rfl D_27
  obtain ⟨v1, e1, s1⟩ := e1
  have e1 : [a1] = [v1] := e1
  cases e1
  exact ⟨⟨y0, y1⟩, ⟨_, rfl, s1⟩, k0, k1⟩

def K_69 (xs : List G_api_Cell) : Prop := xs.length ≤ maxLen ∧ ∀ x ∈ xs, K_101 x
theorem D_69 : Rd Tryz.prog 69 (RL R_api_Cell) K_69 := Rd.slice Tryz.underlying69 (by kernel_rfl) (by decide) D_101

def K_4 (_ : Bool) : Prop := True
theorem D_4 : Rd Tryz.prog 4 RB K_4 := Rd.bool Tryz.underlying4 (by kernel_rfl)

def K_71 (x : G_api_Line) : Prop := K_69 x.Cells ∧ K_4 x.Wrap
theorem D_71 : Rd Tryz.prog 71 R_api_Line K_71 := by
  refine ⟨by kernel_rfl, fun {H enc w sp held fuel cs x} h => ?_⟩
  obtain ⟨xs, n, rfl, rfl, hl, hn, hf⟩ := DataW.trod_struct Tryz.underlying71 h
  replace hl := hl.trans (show Tryz.prog.cellsOf 71 = 2 by kernel_rfl)
  obtain ⟨a0, a1, rfl⟩ := len2 hl
  obtain ⟨y0, e0, k0⟩ := Rd.field hf hn 0 rfl D_69
  obtain ⟨v0, e0, s0⟩ := e0
  have e0 : [a0] = [v0] := e0
  cases e0
  obtain ⟨y1, e1, k1⟩ := Rd.field hf hn 1 rfl D_4
  have e1 : [a1] = [.bool y1] := e1
  cases e1
  exact ⟨⟨y0, y1⟩, ⟨_, rfl, s0⟩, k0, k1⟩

def K_22 (xs : List G_api_Line) : Prop := xs.length ≤ maxLen ∧ ∀ x ∈ xs, K_71 x
theorem D_22 : Rd Tryz.prog 22 (RL R_api_Line) K_22 := Rd.slice Tryz.underlying22 (by kernel_rfl) (by decide) D_71

def K_24 (x : G_api_Cursor) : Prop := K_3 x.Row ∧ K_3 x.Col ∧ K_4 x.Pending
theorem D_24 : Rd Tryz.prog 24 R_api_Cursor K_24 := by
  refine ⟨by kernel_rfl, fun {H enc w sp held fuel cs x} h => ?_⟩
  obtain ⟨xs, n, rfl, rfl, hl, hn, hf⟩ := DataW.trod_struct Tryz.underlying24 h
  replace hl := hl.trans (show Tryz.prog.cellsOf 24 = 3 by kernel_rfl)
  obtain ⟨a0, a1, a2, rfl⟩ := len3 hl
  obtain ⟨y0, e0, k0⟩ := Rd.field hf hn 0 rfl D_3
  have e0 : [a0] = [.int .i64 y0] := e0
  cases e0
  obtain ⟨y1, e1, k1⟩ := Rd.field hf hn 1 rfl D_3
  have e1 : [a1] = [.int .i64 y1] := e1
  cases e1
  obtain ⟨y2, e2, k2⟩ := Rd.field hf hn 2 rfl D_4
  have e2 : [a2] = [.bool y2] := e2
  cases e2
  exact ⟨⟨y0, y1, y2⟩, rfl, k0, k1, k2⟩

def K_26 (x : G_linotypelaw35_Start) : Prop := K_22 x.L ∧ K_24 x.At ∧ K_4 x.Auto
theorem D_26 : Rd Tryz.prog 26 R_linotypelaw35_Start K_26 := by
  refine ⟨by kernel_rfl, fun {H enc w sp held fuel cs x} h => ?_⟩
  obtain ⟨xs, n, rfl, rfl, hl, hn, hf⟩ := DataW.trod_struct Tryz.underlying26 h
  replace hl := hl.trans (show Tryz.prog.cellsOf 26 = 5 by kernel_rfl)
  obtain ⟨a0, a1, a2, a3, a4, rfl⟩ := len5 hl
  obtain ⟨y0, e0, k0⟩ := Rd.field hf hn 0 rfl D_22
  obtain ⟨v0, e0, s0⟩ := e0
  have e0 : [a0] = [v0] := e0
  cases e0
  obtain ⟨y1, e1, k1⟩ := Rd.field hf hn 1 rfl D_24
  have e1 : [a1, a2, a3] = [.int .i64 y1.Row, .int .i64 y1.Col, .bool y1.Pending] := e1
  cases e1
  obtain ⟨y2, e2, k2⟩ := Rd.field hf hn 2 rfl D_4
  have e2 : [a4] = [.bool y2] := e2
  cases e2
  exact ⟨⟨y0, y1, y2⟩, ⟨_, rfl, s0⟩, k0, k1, k2⟩

def K_33 (x : G_api_Prop) : Prop := K_3 x.Break ∧ K_4 x.Pict ∧ K_3 x.Conj ∧ K_3 x.East
theorem D_33 : Rd Tryz.prog 33 R_api_Prop K_33 := by
  refine ⟨by kernel_rfl, fun {H enc w sp held fuel cs x} h => ?_⟩
  obtain ⟨xs, n, rfl, rfl, hl, hn, hf⟩ := DataW.trod_struct Tryz.underlying33 h
  replace hl := hl.trans (show Tryz.prog.cellsOf 33 = 4 by kernel_rfl)
  obtain ⟨a0, a1, a2, a3, rfl⟩ := len4 hl
  obtain ⟨y0, e0, k0⟩ := Rd.field hf hn 0 rfl D_3
  have e0 : [a0] = [.int .i64 y0] := e0
  cases e0
  obtain ⟨y1, e1, k1⟩ := Rd.field hf hn 1 rfl D_4
  have e1 : [a1] = [.bool y1] := e1
  cases e1
  obtain ⟨y2, e2, k2⟩ := Rd.field hf hn 2 rfl D_3
  have e2 : [a2] = [.int .i64 y2] := e2
  cases e2
  obtain ⟨y3, e3, k3⟩ := Rd.field hf hn 3 rfl D_3
  have e3 : [a3] = [.int .i64 y3] := e3
  cases e3
  exact ⟨⟨y0, y1, y2, y3⟩, rfl, k0, k1, k2, k3⟩

def K_28 (xs : List G_api_Prop) : Prop := xs.length ≤ maxLen ∧ ∀ x ∈ xs, K_33 x
theorem D_28 : Rd Tryz.prog 28 (RL R_api_Prop) K_28 := Rd.slice Tryz.underlying28 (by kernel_rfl) (by decide) D_33

def K_5 (n : Int) : Prop := (Lit.int .u8 n).wf = true
theorem D_5 : Rd Tryz.prog 5 (RI .u8) K_5 := Rd.int Tryz.underlying5 (by kernel_rfl)

def K_57 (xs : List Int) : Prop := xs.length ≤ maxLen ∧ ∀ x ∈ xs, K_5 x
theorem D_57 : Rd Tryz.prog 57 (RL (RI .u8)) K_57 := Rd.slice Tryz.underlying57 (by kernel_rfl) (by decide) D_5

def K_59 (x : G_api_Op) : Prop := K_3 x.Kind ∧ K_3 x.A ∧ K_3 x.B ∧ K_57 x.Bytes
theorem D_59 : Rd Tryz.prog 59 R_api_Op K_59 := by
  refine ⟨by kernel_rfl, fun {H enc w sp held fuel cs x} h => ?_⟩
  obtain ⟨xs, n, rfl, rfl, hl, hn, hf⟩ := DataW.trod_struct Tryz.underlying59 h
  replace hl := hl.trans (show Tryz.prog.cellsOf 59 = 4 by kernel_rfl)
  obtain ⟨a0, a1, a2, a3, rfl⟩ := len4 hl
  obtain ⟨y0, e0, k0⟩ := Rd.field hf hn 0 rfl D_3
  have e0 : [a0] = [.int .i64 y0] := e0
  cases e0
  obtain ⟨y1, e1, k1⟩ := Rd.field hf hn 1 rfl D_3
  have e1 : [a1] = [.int .i64 y1] := e1
  cases e1
  obtain ⟨y2, e2, k2⟩ := Rd.field hf hn 2 rfl D_3
  have e2 : [a2] = [.int .i64 y2] := e2
  cases e2
  obtain ⟨y3, e3, k3⟩ := Rd.field hf hn 3 rfl D_57
  obtain ⟨v3, e3, s3⟩ := e3
  have e3 : [a3] = [v3] := e3
  cases e3
  exact ⟨⟨y0, y1, y2, y3⟩, ⟨_, rfl, s3⟩, k0, k1, k2, k3⟩

def K_55 (xs : List G_api_Op) : Prop := xs.length ≤ maxLen ∧ ∀ x ∈ xs, K_59 x
theorem D_55 : Rd Tryz.prog 55 (RL R_api_Op) K_55 := Rd.slice Tryz.underlying55 (by kernel_rfl) (by decide) D_59

def K_85 (x : G_linotypelaw37_Act) : Prop := K_3 x.Kind ∧ K_57 x.B ∧ K_21 x.R
theorem D_85 : Rd Tryz.prog 85 R_linotypelaw37_Act K_85 := by
  refine ⟨by kernel_rfl, fun {H enc w sp held fuel cs x} h => ?_⟩
  obtain ⟨xs, n, rfl, rfl, hl, hn, hf⟩ := DataW.trod_struct Tryz.underlying85 h
  replace hl := hl.trans (show Tryz.prog.cellsOf 85 = 3 by kernel_rfl)
  obtain ⟨a0, a1, a2, rfl⟩ := len3 hl
  obtain ⟨y0, e0, k0⟩ := Rd.field hf hn 0 rfl D_3
  have e0 : [a0] = [.int .i64 y0] := e0
  cases e0
  obtain ⟨y1, e1, k1⟩ := Rd.field hf hn 1 rfl D_57
  obtain ⟨v1, e1, s1⟩ := e1
  have e1 : [a1] = [v1] := e1
  cases e1
  obtain ⟨y2, e2, k2⟩ := Rd.field hf hn 2 rfl D_21
  have e2 : [a2] = [.int .i32 y2] := e2
  cases e2
  exact ⟨⟨y0, y1, y2⟩, ⟨_, rfl, s1⟩, k0, k1, k2⟩

def K_78 (xs : List G_linotypelaw37_Act) : Prop := xs.length ≤ maxLen ∧ ∀ x ∈ xs, K_85 x
theorem D_78 : Rd Tryz.prog 78 (RL R_linotypelaw37_Act) K_78 := Rd.slice Tryz.underlying78 (by kernel_rfl) (by decide) D_85

def K_92 (x : G_linotypelaw40_Side) : Prop := K_3 x.W ∧ K_3 x.H
theorem D_92 : Rd Tryz.prog 92 R_linotypelaw40_Side K_92 := by
  refine ⟨by kernel_rfl, fun {H enc w sp held fuel cs x} h => ?_⟩
  obtain ⟨xs, n, rfl, rfl, hl, hn, hf⟩ := DataW.trod_struct Tryz.underlying92 h
  replace hl := hl.trans (show Tryz.prog.cellsOf 92 = 2 by kernel_rfl)
  obtain ⟨a0, a1, rfl⟩ := len2 hl
  obtain ⟨y0, e0, k0⟩ := Rd.field hf hn 0 rfl D_3
  have e0 : [a0] = [.int .i64 y0] := e0
  cases e0
  obtain ⟨y1, e1, k1⟩ := Rd.field hf hn 1 rfl D_3
  have e1 : [a1] = [.int .i64 y1] := e1
  cases e1
  exact ⟨⟨y0, y1⟩, rfl, k0, k1⟩

def K_105 (x : G_linotypelaw40_Cut) : Prop := K_57 x.B ∧ K_3 x.At
theorem D_105 : Rd Tryz.prog 105 R_linotypelaw40_Cut K_105 := by
  refine ⟨by kernel_rfl, fun {H enc w sp held fuel cs x} h => ?_⟩
  obtain ⟨xs, n, rfl, rfl, hl, hn, hf⟩ := DataW.trod_struct Tryz.underlying105 h
  replace hl := hl.trans (show Tryz.prog.cellsOf 105 = 2 by kernel_rfl)
  obtain ⟨a0, a1, rfl⟩ := len2 hl
  obtain ⟨y0, e0, k0⟩ := Rd.field hf hn 0 rfl D_57
  obtain ⟨v0, e0, s0⟩ := e0
  have e0 : [a0] = [v0] := e0
  cases e0
  obtain ⟨y1, e1, k1⟩ := Rd.field hf hn 1 rfl D_3
  have e1 : [a1] = [.int .i64 y1] := e1
  cases e1
  exact ⟨⟨y0, y1⟩, ⟨_, rfl, s0⟩, k0, k1⟩

theorem rel0 (w : World) : Rel (C0 w) ⟨[], [], [], [], [], []⟩ (fun _ _ => []) :=
  ⟨⟨fun k x h => by simp at h, fun _ _ => rfl⟩, ⟨fun k x h => by simp at h, fun _ _ => rfl⟩, ⟨fun k x h => by simp at h, fun _ _ => rfl⟩, ⟨fun k x h => by simp at h, fun _ _ => rfl⟩, ⟨fun k x h => by simp at h, fun _ _ => rfl⟩, ⟨fun k x h => by simp at h, fun _ _ => rfl⟩⟩

theorem star : "*" ++ "errors.errorString" = "*errors.errorString" := by decide
set_option maxRecDepth 100000 in
theorem sent_row (u : TypeId) (h : Tryz.prog.typeName? 3 u = some "*errors.errorString") : u = 305 :=
  typeName_ptr_named (nm := "errors.errorString") (by rw [star]; kernel_rfl) (by kernel_rfl) (by decide) u (by rw [star]; exact h)

set_option maxRecDepth 100000 in
theorem gl_sent {W : World} {laid : List (String × DataW Unit)} (h : laidMetH Tryz.prog laid W) (hf : (laid.filter fun x => x.2.handleName?.isSome) = []) (n : String) (text : List UInt8) (g : Nat)
    (hm : (n, DataW.iface "*errors.errorString" (.ptr (.agg [.lit (.string text)]))) ∈ laid) (hg : Tryz.prog.globalNamed n = some g) (ht : (Tryz.prog.globals[g]?).map (·.type) = some 37) :
    ∃ a s, Im (C0 W) g 0 (.iface 305 (.pointer (some a))) ∧ W.cell? a = some (.string s) ∧ s.data.toList = text ∧ RE 305 179 (C0 W) (.iface 305 (.pointer (some a))) (.sent g) := by
  rw [metH hf] at h
  obtain ⟨ps, hl, _, hr⟩ := h
  obtain ⟨a, s, h1, h2, h3, cs, t, h4⟩ := laid_sent Tryz.underlying37 sent_row Tryz.underlying305 Tryz.underlying326 rfl rfl Tryz.underlying9 (by kernel_rfl) (by kernel_rfl) hl hr n text g hm hg ht
  exact ⟨a, s, im0 h1, h2, h3, a, rfl, im0 h1, (Array.getElem?_eq_some_iff.1 h4).1, fun _ => id, cs, t, h4⟩
theorem gl_all {W : World} {n : List Nat} (tx : Nat → List UInt8) (h : ∀ g, g ∈ n → ∃ a s, Im (C0 W) g 0 (.iface 305 (.pointer (some a))) ∧ W.cell? a = some (.string s) ∧ s.data.toList = tx g ∧ RE 305 179 (C0 W) (.iface 305 (.pointer (some a))) (.sent g))
    (hd : ∀ g, g ∈ n → ∀ g', g' ∈ n → tx g = tx g' → g = g') : Gl n (C0 W) := by
  refine ⟨fun g hg => ?_, fun g g' hg hg' hne a h1 h2 => ?_⟩
  · obtain ⟨a, _, _, _, _, h4⟩ := h g hg
    exact ⟨_, h4⟩
  · obtain ⟨a1, s1, e1, e2, e3, _⟩ := h g hg
    obtain ⟨a2, s2, f1, f2, f3, _⟩ := h g' hg'
    have q1 := e1.cell.symm.trans h1.cell
    have q2 := f1.cell.symm.trans h2.cell
    cases q1
    cases q2
    have q3 := e2.symm.trans f2
    cases q3
    exact hne (hd g hg g' hg' (e3.symm.trans f3))

end Go.Proofs.YthokmpbbkpjhbaaGreatDoor