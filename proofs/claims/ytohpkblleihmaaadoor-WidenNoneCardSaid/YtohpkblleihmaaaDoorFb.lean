import Derived.Test.YtohpkblleihmaaaDoorFa
import Derived.Test.YtohpkblleihmaaaDoorMy
import Derived.KernelRfl
namespace Go.Proofs.YtohpkblleihmaaaDoor
open Go Go.Lt
set_option linter.unusedVariables false

theorem len10 {α : Type} {cs : List α} (h : cs.length = 10) : ∃ a0 a1 a2 a3 a4 a5 a6 a7 a8 a9, cs = [a0, a1, a2, a3, a4, a5, a6, a7, a8, a9] := by
  match cs, h with
  | [a0, a1, a2, a3, a4, a5, a6, a7, a8, a9], _ => exact ⟨_, _, _, _, _, _, _, _, _, _, rfl⟩

theorem len6 {α : Type} {cs : List α} (h : cs.length = 6) : ∃ a0 a1 a2 a3 a4 a5, cs = [a0, a1, a2, a3, a4, a5] := by
  match cs, h with
  | [a0, a1, a2, a3, a4, a5], _ => exact ⟨_, _, _, _, _, _, rfl⟩

theorem len5 {α : Type} {cs : List α} (h : cs.length = 5) : ∃ a0 a1 a2 a3 a4, cs = [a0, a1, a2, a3, a4] := by
  match cs, h with
  | [a0, a1, a2, a3, a4], _ => exact ⟨_, _, _, _, _, rfl⟩

theorem len4 {α : Type} {cs : List α} (h : cs.length = 4) : ∃ a0 a1 a2 a3, cs = [a0, a1, a2, a3] := by
  match cs, h with
  | [a0, a1, a2, a3], _ => exact ⟨_, _, _, _, rfl⟩

theorem len3 {α : Type} {cs : List α} (h : cs.length = 3) : ∃ a0 a1 a2, cs = [a0, a1, a2] := by
  match cs, h with
  | [a0, a1, a2], _ => exact ⟨_, _, _, rfl⟩

theorem len2 {α : Type} {cs : List α} (h : cs.length = 2) : ∃ a0 a1, cs = [a0, a1] := by
  match cs, h with
  | [a0, a1], _ => exact ⟨_, _, rfl⟩

def K_3 (n : Int) : Prop := (Lit.int .i64 n).wf = true
theorem D_3 : Rd Tryd.prog 3 (RI .i64) K_3 := Rd.int Tryd.underlying3 (by kernel_rfl)

def K_21 (n : Int) : Prop := (Lit.int .i32 n).wf = true
theorem D_21 : Rd Tryd.prog 21 (RI .i32) K_21 := Rd.int Tryd.underlying21 (by kernel_rfl)

def K_25 (xs : List Int) : Prop := xs.length ≤ maxLen ∧ ∀ x ∈ xs, K_21 x
theorem D_25 : Rd Tryd.prog 25 (RL (RI .i32)) K_25 := Rd.slice Tryd.underlying25 (by kernel_rfl) (by decide) D_21

def K_27 (x : G_api_Cell) : Prop := K_3 x.Kind ∧ K_25 x.Text
theorem D_27 : Rd Tryd.prog 27 R_api_Cell K_27 := by
  refine ⟨by kernel_rfl, fun {H enc w sp held fuel cs x} h => ?_⟩
  obtain ⟨xs, n, rfl, rfl, hl, hn, hf⟩ := DataW.trod_struct Tryd.underlying27 h
  replace hl := hl.trans (show Tryd.prog.cellsOf 27 = 2 by kernel_rfl)
  obtain ⟨a0, a1, rfl⟩ := len2 hl
  obtain ⟨y0, e0, k0⟩ := Rd.field hf hn 0 rfl D_3
  have e0 : [a0] = [.int .i64 y0] := e0
  cases e0
  obtain ⟨y1, e1, k1⟩ := Rd.field hf hn 1 rfl D_25
  obtain ⟨v1, e1, s1⟩ := e1
  have e1 : [a1] = [v1] := e1
  cases e1
  exact ⟨⟨y0, y1⟩, ⟨_, rfl, s1⟩, k0, k1⟩

def K_22 (xs : List G_api_Cell) : Prop := xs.length ≤ maxLen ∧ ∀ x ∈ xs, K_27 x
theorem D_22 : Rd Tryd.prog 22 (RL R_api_Cell) K_22 := Rd.slice Tryd.underlying22 (by kernel_rfl) (by decide) D_27

def K_4 (_ : Bool) : Prop := True
theorem D_4 : Rd Tryd.prog 4 RB K_4 := Rd.bool Tryd.underlying4 (by kernel_rfl)

def K_43 (x : G_linotypelaw26_Act) : Prop := K_3 x.Kind ∧ K_3 x.A ∧ K_3 x.B
theorem D_43 : Rd Tryd.prog 43 R_linotypelaw26_Act K_43 := by
  refine ⟨by kernel_rfl, fun {H enc w sp held fuel cs x} h => ?_⟩
  obtain ⟨xs, n, rfl, rfl, hl, hn, hf⟩ := DataW.trod_struct Tryd.underlying43 h
  replace hl := hl.trans (show Tryd.prog.cellsOf 43 = 3 by kernel_rfl)
  obtain ⟨a0, a1, a2, rfl⟩ := len3 hl
  obtain ⟨y0, e0, k0⟩ := Rd.field hf hn 0 rfl D_3
  have e0 : [a0] = [.int .i64 y0] := e0
  cases e0
  obtain ⟨y1, e1, k1⟩ := Rd.field hf hn 1 rfl D_3
  have e1 : [a1] = [.int .i64 y1] := e1
  cases e1
  obtain ⟨y2, e2, k2⟩ := Rd.field hf hn 2 rfl D_3
  have e2 : [a2] = [.int .i64 y2] := e2
  cases e2
  exact ⟨⟨y0, y1, y2⟩, rfl, k0, k1, k2⟩

def K_39 (xs : List G_linotypelaw26_Act) : Prop := xs.length ≤ maxLen ∧ ∀ x ∈ xs, K_43 x
theorem D_39 : Rd Tryd.prog 39 (RL R_linotypelaw26_Act) K_39 := Rd.slice Tryd.underlying39 (by kernel_rfl) (by decide) D_43

def K_62 (x : G_api_Line) : Prop := K_22 x.Cells ∧ K_4 x.Wrap
theorem D_62 : Rd Tryd.prog 62 R_api_Line K_62 := by
  refine ⟨by kernel_rfl, fun {H enc w sp held fuel cs x} h => ?_⟩
  obtain ⟨xs, n, rfl, rfl, hl, hn, hf⟩ := DataW.trod_struct Tryd.underlying62 h
  replace hl := hl.trans (show Tryd.prog.cellsOf 62 = 2 by kernel_rfl)
  obtain ⟨a0, a1, rfl⟩ := len2 hl
  obtain ⟨y0, e0, k0⟩ := Rd.field hf hn 0 rfl D_22
  obtain ⟨v0, e0, s0⟩ := e0
  have e0 : [a0] = [v0] := e0
  cases e0
  obtain ⟨y1, e1, k1⟩ := Rd.field hf hn 1 rfl D_4
  have e1 : [a1] = [.bool y1] := e1
  cases e1
  exact ⟨⟨y0, y1⟩, ⟨_, rfl, s0⟩, k0, k1⟩

def K_47 (xs : List G_api_Line) : Prop := xs.length ≤ maxLen ∧ ∀ x ∈ xs, K_62 x
theorem D_47 : Rd Tryd.prog 47 (RL R_api_Line) K_47 := Rd.slice Tryd.underlying47 (by kernel_rfl) (by decide) D_62

def K_55 (x : G_linotypelaw33_Act) : Prop := K_4 x.Down ∧ K_3 x.From ∧ K_3 x.To ∧ K_3 x.N
theorem D_55 : Rd Tryd.prog 55 R_linotypelaw33_Act K_55 := by
  refine ⟨by kernel_rfl, fun {H enc w sp held fuel cs x} h => ?_⟩
  obtain ⟨xs, n, rfl, rfl, hl, hn, hf⟩ := DataW.trod_struct Tryd.underlying55 h
  replace hl := hl.trans (show Tryd.prog.cellsOf 55 = 4 by kernel_rfl)
  obtain ⟨a0, a1, a2, a3, rfl⟩ := len4 hl
  obtain ⟨y0, e0, k0⟩ := Rd.field hf hn 0 rfl D_4
  have e0 : [a0] = [.bool y0] := e0
  cases e0
  obtain ⟨y1, e1, k1⟩ := Rd.field hf hn 1 rfl D_3
  have e1 : [a1] = [.int .i64 y1] := e1
  cases e1
  obtain ⟨y2, e2, k2⟩ := Rd.field hf hn 2 rfl D_3
  have e2 : [a2] = [.int .i64 y2] := e2
  cases e2
  obtain ⟨y3, e3, k3⟩ := Rd.field hf hn 3 rfl D_3
  have e3 : [a3] = [.int .i64 y3] := e3
  cases e3
  exact ⟨⟨y0, y1, y2, y3⟩, rfl, k0, k1, k2, k3⟩

def K_48 (xs : List G_linotypelaw33_Act) : Prop := xs.length ≤ maxLen ∧ ∀ x ∈ xs, K_55 x
theorem D_48 : Rd Tryd.prog 48 (RL R_linotypelaw33_Act) K_48 := Rd.slice Tryd.underlying48 (by kernel_rfl) (by decide) D_55

def K_71 (x : G_linotypelaw24_Stroke) : Prop := K_3 x.At ∧ K_4 x.On ∧ K_22 x.L
theorem D_71 : Rd Tryd.prog 71 R_linotypelaw24_Stroke K_71 := by
  refine ⟨by kernel_rfl, fun {H enc w sp held fuel cs x} h => ?_⟩
  obtain ⟨xs, n, rfl, rfl, hl, hn, hf⟩ := DataW.trod_struct Tryd.underlying71 h
  replace hl := hl.trans (show Tryd.prog.cellsOf 71 = 3 by kernel_rfl)
  obtain ⟨a0, a1, a2, rfl⟩ := len3 hl
  obtain ⟨y0, e0, k0⟩ := Rd.field hf hn 0 rfl D_3
  have e0 : [a0] = [.int .i64 y0] := e0
  cases e0
  obtain ⟨y1, e1, k1⟩ := Rd.field hf hn 1 rfl D_4
  have e1 : [a1] = [.bool y1] := e1
  cases e1
  obtain ⟨y2, e2, k2⟩ := Rd.field hf hn 2 rfl D_22
  obtain ⟨v2, e2, s2⟩ := e2
  have e2 : [a2] = [v2] := e2
  cases e2
  exact ⟨⟨y0, y1, y2⟩, ⟨_, rfl, s2⟩, k0, k1, k2⟩

def K_68 (xs : List G_linotypelaw24_Stroke) : Prop := xs.length ≤ maxLen ∧ ∀ x ∈ xs, K_71 x
theorem D_68 : Rd Tryd.prog 68 (RL R_linotypelaw24_Stroke) K_68 := Rd.slice Tryd.underlying68 (by kernel_rfl) (by decide) D_71

def K_82 (x : G_linotypelaw25_Act) : Prop := K_3 x.Kind ∧ K_3 x.Col ∧ K_3 x.Wide ∧ K_25 x.Text ∧ K_4 x.On
theorem D_82 : Rd Tryd.prog 82 R_linotypelaw25_Act K_82 := by
  refine ⟨by kernel_rfl, fun {H enc w sp held fuel cs x} h => ?_⟩
  obtain ⟨xs, n, rfl, rfl, hl, hn, hf⟩ := DataW.trod_struct Tryd.underlying82 h
  replace hl := hl.trans (show Tryd.prog.cellsOf 82 = 5 by kernel_rfl)
  obtain ⟨a0, a1, a2, a3, a4, rfl⟩ := len5 hl
  obtain ⟨y0, e0, k0⟩ := Rd.field hf hn 0 rfl D_3
  have e0 : [a0] = [.int .i64 y0] := e0
  cases e0
  obtain ⟨y1, e1, k1⟩ := Rd.field hf hn 1 rfl D_3
  have e1 : [a1] = [.int .i64 y1] := e1
  cases e1
  obtain ⟨y2, e2, k2⟩ := Rd.field hf hn 2 rfl D_3
  have e2 : [a2] = [.int .i64 y2] := e2
  cases e2
  obtain ⟨y3, e3, k3⟩ := Rd.field hf hn 3 rfl D_25
  obtain ⟨v3, e3, s3⟩ := e3
  have e3 : [a3] = [v3] := e3
  cases e3
  obtain ⟨y4, e4, k4⟩ := Rd.field hf hn 4 rfl D_4
  have e4 : [a4] = [.bool y4] := e4
  cases e4
  exact ⟨⟨y0, y1, y2, y3, y4⟩, ⟨_, rfl, s3⟩, k0, k1, k2, k3, k4⟩

def K_80 (xs : List G_linotypelaw25_Act) : Prop := xs.length ≤ maxLen ∧ ∀ x ∈ xs, K_82 x
theorem D_80 : Rd Tryd.prog 80 (RL R_linotypelaw25_Act) K_80 := Rd.slice Tryd.underlying80 (by kernel_rfl) (by decide) D_82

def K_91 (x : G_blit_Rect) : Prop := K_3 x.Row ∧ K_3 x.Col ∧ K_3 x.Wide ∧ K_3 x.High
theorem D_91 : Rd Tryd.prog 91 R_blit_Rect K_91 := by
  refine ⟨by kernel_rfl, fun {H enc w sp held fuel cs x} h => ?_⟩
  obtain ⟨xs, n, rfl, rfl, hl, hn, hf⟩ := DataW.trod_struct Tryd.underlying91 h
  replace hl := hl.trans (show Tryd.prog.cellsOf 91 = 4 by kernel_rfl)
  obtain ⟨a0, a1, a2, a3, rfl⟩ := len4 hl
  obtain ⟨y0, e0, k0⟩ := Rd.field hf hn 0 rfl D_3
  have e0 : [a0] = [.int .i64 y0] := e0
  cases e0
  obtain ⟨y1, e1, k1⟩ := Rd.field hf hn 1 rfl D_3
  have e1 : [a1] = [.int .i64 y1] := e1
  cases e1
  obtain ⟨y2, e2, k2⟩ := Rd.field hf hn 2 rfl D_3
  have e2 : [a2] = [.int .i64 y2] := e2
  cases e2
  obtain ⟨y3, e3, k3⟩ := Rd.field hf hn 3 rfl D_3
  have e3 : [a3] = [.int .i64 y3] := e3
  cases e3
  exact ⟨⟨y0, y1, y2, y3⟩, rfl, k0, k1, k2, k3⟩

def K_95 (x : G_api_Item) : Prop := K_3 x.Wide ∧ K_25 x.Text
theorem D_95 : Rd Tryd.prog 95 R_api_Item K_95 := by
  refine ⟨by kernel_rfl, fun {H enc w sp held fuel cs x} h => ?_⟩
  obtain ⟨xs, n, rfl, rfl, hl, hn, hf⟩ := DataW.trod_struct Tryd.underlying95 h
  replace hl := hl.trans (show Tryd.prog.cellsOf 95 = 2 by kernel_rfl)
  obtain ⟨a0, a1, rfl⟩ := len2 hl
  obtain ⟨y0, e0, k0⟩ := Rd.field hf hn 0 rfl D_3
  have e0 : [a0] = [.int .i64 y0] := e0
  cases e0
  obtain ⟨y1, e1, k1⟩ := Rd.field hf hn 1 rfl D_25
  obtain ⟨v1, e1, s1⟩ := e1
  have e1 : [a1] = [v1] := e1
  cases e1
  exact ⟨⟨y0, y1⟩, ⟨_, rfl, s1⟩, k0, k1⟩

def K_100 (x : G_linotypelaw59_Act) : Prop := K_3 x.Kind ∧ K_3 x.Row ∧ K_3 x.Col ∧ K_91 x.R ∧ K_95 x.X ∧ K_47 x.L
theorem D_100 : Rd Tryd.prog 100 R_linotypelaw59_Act K_100 := by
  refine ⟨by kernel_rfl, fun {H enc w sp held fuel cs x} h => ?_⟩
  obtain ⟨xs, n, rfl, rfl, hl, hn, hf⟩ := DataW.trod_struct Tryd.underlying100 h
  replace hl := hl.trans (show Tryd.prog.cellsOf 100 = 10 by kernel_rfl)
  obtain ⟨a0, a1, a2, a3, a4, a5, a6, a7, a8, a9, rfl⟩ := len10 hl
  obtain ⟨y0, e0, k0⟩ := Rd.field hf hn 0 rfl D_3
  have e0 : [a0] = [.int .i64 y0] := e0
  cases e0
  obtain ⟨y1, e1, k1⟩ := Rd.field hf hn 1 rfl D_3
  have e1 : [a1] = [.int .i64 y1] := e1
  cases e1
  obtain ⟨y2, e2, k2⟩ := Rd.field hf hn 2 rfl D_3
  have e2 : [a2] = [.int .i64 y2] := e2
  cases e2
  obtain ⟨y3, e3, k3⟩ := Rd.field hf hn 3 rfl D_91
  have e3 : [a3, a4, a5, a6] = [.int .i64 y3.Row, .int .i64 y3.Col, .int .i64 y3.Wide, .int .i64 y3.High] := e3
  cases e3
  obtain ⟨y4, e4, k4⟩ := Rd.field hf hn 4 rfl D_95
  obtain ⟨v4_1, e4, s4_1⟩ := e4
  have e4 : [a7, a8] = [.int .i64 y4.Wide, v4_1] := e4
  cases e4
  obtain ⟨y5, e5, k5⟩ := Rd.field hf hn 5 rfl D_47
  obtain ⟨v5, e5, s5⟩ := e5
  have e5 : [a9] = [v5] := e5
  cases e5
  exact ⟨⟨y0, y1, y2, y3, y4, y5⟩, ⟨_, _, rfl, s4_1, s5⟩, k0, k1, k2, k3, k4, k5⟩

def K_98 (xs : List G_linotypelaw59_Act) : Prop := xs.length ≤ maxLen ∧ ∀ x ∈ xs, K_100 x
theorem D_98 : Rd Tryd.prog 98 (RL R_linotypelaw59_Act) K_98 := Rd.slice Tryd.underlying98 (by kernel_rfl) (by decide) D_100

def K_112 (x : G_linotypelaw27_Act) : Prop := K_4 x.Delete ∧ K_3 x.Col ∧ K_3 x.N
theorem D_112 : Rd Tryd.prog 112 R_linotypelaw27_Act K_112 := by
  refine ⟨by kernel_rfl, fun {H enc w sp held fuel cs x} h => ?_⟩
  obtain ⟨xs, n, rfl, rfl, hl, hn, hf⟩ := DataW.trod_struct Tryd.underlying112 h
  replace hl := hl.trans (show Tryd.prog.cellsOf 112 = 3 by kernel_rfl)
  obtain ⟨a0, a1, a2, rfl⟩ := len3 hl
  obtain ⟨y0, e0, k0⟩ := Rd.field hf hn 0 rfl D_4
  have e0 : [a0] = [.bool y0] := e0
  cases e0
  obtain ⟨y1, e1, k1⟩ := Rd.field hf hn 1 rfl D_3
  have e1 : [a1] = [.int .i64 y1] := e1
  cases e1
  obtain ⟨y2, e2, k2⟩ := Rd.field hf hn 2 rfl D_3
  have e2 : [a2] = [.int .i64 y2] := e2
  cases e2
  exact ⟨⟨y0, y1, y2⟩, rfl, k0, k1, k2⟩

def K_110 (xs : List G_linotypelaw27_Act) : Prop := xs.length ≤ maxLen ∧ ∀ x ∈ xs, K_112 x
theorem D_110 : Rd Tryd.prog 110 (RL R_linotypelaw27_Act) K_110 := Rd.slice Tryd.underlying110 (by kernel_rfl) (by decide) D_112

def K_120 (x : G_api_Cursor) : Prop := K_3 x.Row ∧ K_3 x.Col ∧ K_4 x.Pending
theorem D_120 : Rd Tryd.prog 120 R_api_Cursor K_120 := by
  refine ⟨by kernel_rfl, fun {H enc w sp held fuel cs x} h => ?_⟩
  obtain ⟨xs, n, rfl, rfl, hl, hn, hf⟩ := DataW.trod_struct Tryd.underlying120 h
  replace hl := hl.trans (show Tryd.prog.cellsOf 120 = 3 by kernel_rfl)
  obtain ⟨a0, a1, a2, rfl⟩ := len3 hl
  obtain ⟨y0, e0, k0⟩ := Rd.field hf hn 0 rfl D_3
  have e0 : [a0] = [.int .i64 y0] := e0
  cases e0
  obtain ⟨y1, e1, k1⟩ := Rd.field hf hn 1 rfl D_3
  have e1 : [a1] = [.int .i64 y1] := e1
  cases e1
  obtain ⟨y2, e2, k2⟩ := Rd.field hf hn 2 rfl D_4
  have e2 : [a2] = [.bool y2] := e2
  cases e2
  exact ⟨⟨y0, y1, y2⟩, rfl, k0, k1, k2⟩

def K_125 (x : G_linotypelaw34_Act) : Prop := K_3 x.Kind ∧ K_3 x.Wide ∧ K_25 x.Text ∧ K_120 x.At
theorem D_125 : Rd Tryd.prog 125 R_linotypelaw34_Act K_125 := by
  refine ⟨by kernel_rfl, fun {H enc w sp held fuel cs x} h => ?_⟩
  obtain ⟨xs, n, rfl, rfl, hl, hn, hf⟩ := DataW.trod_struct Tryd.underlying125 h
  replace hl := hl.trans (show Tryd.prog.cellsOf 125 = 6 by kernel_rfl)
  obtain ⟨a0, a1, a2, a3, a4, a5, rfl⟩ := len6 hl
  obtain ⟨y0, e0, k0⟩ := Rd.field hf hn 0 rfl D_3
  have e0 : [a0] = [.int .i64 y0] := e0
  cases e0
  obtain ⟨y1, e1, k1⟩ := Rd.field hf hn 1 rfl D_3
  have e1 : [a1] = [.int .i64 y1] := e1
  cases e1
  obtain ⟨y2, e2, k2⟩ := Rd.field hf hn 2 rfl D_25
  obtain ⟨v2, e2, s2⟩ := e2
  have e2 : [a2] = [v2] := e2
  cases e2
  obtain ⟨y3, e3, k3⟩ := Rd.field hf hn 3 rfl D_120
  have e3 : [a3, a4, a5] = [.int .i64 y3.Row, .int .i64 y3.Col, .bool y3.Pending] := e3
  cases e3
  exact ⟨⟨y0, y1, y2, y3⟩, ⟨_, rfl, s2⟩, k0, k1, k2, k3⟩

def K_116 (xs : List G_linotypelaw34_Act) : Prop := xs.length ≤ maxLen ∧ ∀ x ∈ xs, K_125 x
theorem D_116 : Rd Tryd.prog 116 (RL R_linotypelaw34_Act) K_116 := Rd.slice Tryd.underlying116 (by kernel_rfl) (by decide) D_125

def K_136 (x : G_linotypelaw35_Start) : Prop := K_47 x.L ∧ K_120 x.At ∧ K_4 x.Auto
theorem D_136 : Rd Tryd.prog 136 R_linotypelaw35_Start K_136 := by
  refine ⟨by kernel_rfl, fun {H enc w sp held fuel cs x} h => ?_⟩
  obtain ⟨xs, n, rfl, rfl, hl, hn, hf⟩ := DataW.trod_struct Tryd.underlying136 h
  replace hl := hl.trans (show Tryd.prog.cellsOf 136 = 5 by kernel_rfl)
  obtain ⟨a0, a1, a2, a3, a4, rfl⟩ := len5 hl
  obtain ⟨y0, e0, k0⟩ := Rd.field hf hn 0 rfl D_47
  obtain ⟨v0, e0, s0⟩ := e0
  have e0 : [a0] = [v0] := e0
  cases e0
  obtain ⟨y1, e1, k1⟩ := Rd.field hf hn 1 rfl D_120
  have e1 : [a1, a2, a3] = [.int .i64 y1.Row, .int .i64 y1.Col, .bool y1.Pending] := e1
  cases e1
  obtain ⟨y2, e2, k2⟩ := Rd.field hf hn 2 rfl D_4
  have e2 : [a4] = [.bool y2] := e2
  cases e2
  exact ⟨⟨y0, y1, y2⟩, ⟨_, rfl, s0⟩, k0, k1, k2⟩

def K_142 (x : Int × Int) : Prop := K_3 x.1 ∧ K_3 x.2
theorem D_142 : Rd Tryd.prog 142 RA2_i64 K_142 := by
  refine ⟨by kernel_rfl, fun {H enc w sp held fuel cs x} h => ?_⟩
  obtain ⟨xs, n, rfl, rfl, hl, hn, hf⟩ := DataW.trod_array Tryd.underlying142 h
  replace hl := hl.trans (show Tryd.prog.cellsOf 142 = 2 by kernel_rfl)
  obtain ⟨a0, a1, rfl⟩ := len2 hl
  obtain ⟨y0, e0, k0⟩ := Rd.elem hf hn 0 (by decide) D_3
  have e0 : [a0] = [.int .i64 y0] := e0
  cases e0
  obtain ⟨y1, e1, k1⟩ := Rd.elem hf hn 1 (by decide) D_3
  have e1 : [a1] = [.int .i64 y1] := e1
  cases e1
  exact ⟨(y0, y1), rfl, k0, k1⟩

def K_141 (xs : List (Int × Int)) : Prop := xs.length ≤ maxLen ∧ ∀ x ∈ xs, K_142 x
theorem D_141 : Rd Tryd.prog 141 (RL RA2_i64) K_141 := Rd.slice Tryd.underlying141 (by kernel_rfl) (by decide) D_142

def K_148 (x : G_api_Prop) : Prop := K_3 x.Break ∧ K_4 x.Pict ∧ K_3 x.Conj ∧ K_3 x.East
theorem D_148 : Rd Tryd.prog 148 R_api_Prop K_148 := by
  refine ⟨by kernel_rfl, fun {H enc w sp held fuel cs x} h => ?_⟩
  obtain ⟨xs, n, rfl, rfl, hl, hn, hf⟩ := DataW.trod_struct Tryd.underlying148 h
  replace hl := hl.trans (show Tryd.prog.cellsOf 148 = 4 by kernel_rfl)
  obtain ⟨a0, a1, a2, a3, rfl⟩ := len4 hl
  obtain ⟨y0, e0, k0⟩ := Rd.field hf hn 0 rfl D_3
  have e0 : [a0] = [.int .i64 y0] := e0
  cases e0
  obtain ⟨y1, e1, k1⟩ := Rd.field hf hn 1 rfl D_4
  have e1 : [a1] = [.bool y1] := e1
  cases e1
  obtain ⟨y2, e2, k2⟩ := Rd.field hf hn 2 rfl D_3
  have e2 : [a2] = [.int .i64 y2] := e2
  cases e2
  obtain ⟨y3, e3, k3⟩ := Rd.field hf hn 3 rfl D_3
  have e3 : [a3] = [.int .i64 y3] := e3
  cases e3
  exact ⟨⟨y0, y1, y2, y3⟩, rfl, k0, k1, k2, k3⟩

theorem rel0 (w : World) : Rel (C0 w) ⟨[], [], [], []⟩ (fun _ _ => []) :=
  ⟨⟨fun k x h => by simp at h, fun _ _ => rfl⟩, ⟨fun k x h => by simp at h, fun _ _ => rfl⟩, ⟨fun k x h => by simp at h, fun _ _ => rfl⟩, ⟨fun k x h => by simp at h, fun _ _ => rfl⟩⟩

theorem star : "*" ++ "errors.errorString" = "*errors.errorString" := by decide
set_option maxRecDepth 100000 in
theorem sent_row (u : TypeId) (h : Tryd.prog.typeName? 3 u = some "*errors.errorString") : u = 252 :=
  typeName_ptr_named (nm := "errors.errorString") (by rw [star]; kernel_rfl) (by kernel_rfl) (by decide) u (by rw [star]; exact h)

set_option maxRecDepth 100000 in
theorem gl_sent {W : World} {laid : List (String × DataW Unit)} (h : laidMetH Tryd.prog laid W) (hf : (laid.filter fun x => x.2.handleName?.isSome) = []) (n : String) (text : List UInt8) (g : Nat)
    (hm : (n, DataW.iface "*errors.errorString" (.ptr (.agg [.lit (.string text)]))) ∈ laid) (hg : Tryd.prog.globalNamed n = some g) (ht : (Tryd.prog.globals[g]?).map (·.type) = some 30) :
    ∃ a s, Im (C0 W) g 0 (.iface 252 (.pointer (some a))) ∧ W.cell? a = some (.string s) ∧ s.data.toList = text ∧ RE 252 217 (C0 W) (.iface 252 (.pointer (some a))) (.sent g) := by
  rw [metH hf] at h
  obtain ⟨ps, hl, _, hr⟩ := h
  obtain ⟨a, s, h1, h2, h3, cs, t, h4⟩ := laid_sent Tryd.underlying30 sent_row Tryd.underlying252 Tryd.underlying277 rfl rfl Tryd.underlying9 (by kernel_rfl) (by kernel_rfl) hl hr n text g hm hg ht
  exact ⟨a, s, im0 h1, h2, h3, a, rfl, im0 h1, (Array.getElem?_eq_some_iff.1 h4).1, fun _ => id, cs, t, h4⟩
theorem gl_all {W : World} {n : List Nat} (tx : Nat → List UInt8) (h : ∀ g, g ∈ n → ∃ a s, Im (C0 W) g 0 (.iface 252 (.pointer (some a))) ∧ W.cell? a = some (.string s) ∧ s.data.toList = tx g ∧ RE 252 217 (C0 W) (.iface 252 (.pointer (some a))) (.sent g))
    (hd : ∀ g, g ∈ n → ∀ g', g' ∈ n → tx g = tx g' → g = g') : Gl n (C0 W) := by
  refine ⟨fun g hg => ?_, fun g g' hg hg' hne a h1 h2 => ?_⟩
  · obtain ⟨a, _, _, _, _, h4⟩ := h g hg
    exact ⟨_, h4⟩
  · obtain ⟨a1, s1, e1, e2, e3, _⟩ := h g hg
    obtain ⟨a2, s2, f1, f2, f3, _⟩ := h g' hg'
    have q1 := e1.cell.symm.trans h1.cell
    have q2 := f1.cell.symm.trans h2.cell
    cases q1
    cases q2
    have q3 := e2.symm.trans f2
    cases q3
    exact hne (hd g hg g' hg' (e3.symm.trans f3))

end Go.Proofs.YtohpkblleihmaaaDoor