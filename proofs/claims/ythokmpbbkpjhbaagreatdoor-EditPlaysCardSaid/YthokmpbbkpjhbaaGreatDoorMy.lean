import Derived.Test.YthokmpbbkpjhbaaGreatDoorMq
import Derived.Test.YthokmpbbkpjhbaaGreatDoorProg
namespace Go.Proofs.YthokmpbbkpjhbaaGreatDoor
open Go Go.Lt
set_option linter.unusedVariables false
structure G_api_Cursor where
  Row : Int
  Col : Int
  Pending : Bool

def R_api_Cursor : Rp G_api_Cursor where
  size := 3
  cells := fun _ l x => l = [.int .i64 x.Row, .int .i64 x.Col, .bool x.Pending]
  len := by
    intro c l x h
    obtain rfl := h
    rfl
  one := by
    intro c l x h v hv
    obtain rfl := h
    simp only [List.mem_cons, List.not_mem_nil, or_false] at hv
    rcases hv with rfl | rfl | rfl
    · rfl
    · rfl
    · rfl
  mono := by
    intro c c2 l x hc h
    obtain rfl := h
    exact rfl

structure G_api_Cell where
  Kind : Int
  Text : List Int

def R_api_Cell : Rp G_api_Cell where
  size := 2
  cells := fun c l x => ∃ y1 : Value, l = [.int .i64 x.Kind, y1] ∧ Sl (RI .i32) c y1 x.Text
  len := by
    intro c l x h
    obtain ⟨_, rfl, h0⟩ := h
    rfl
  one := by
    intro c l x h v hv
    obtain ⟨_, rfl, h0⟩ := h
    simp only [List.mem_cons, List.not_mem_nil, or_false] at hv
    rcases hv with rfl | rfl
    · rfl
    · exact h0.one
  mono := by
    intro c c2 l x hc h
    obtain ⟨_, rfl, h0⟩ := h
    exact ⟨_, rfl, h0.mono hc⟩

structure G_api_Line where
  Cells : List G_api_Cell
  Wrap : Bool

def R_api_Line : Rp G_api_Line where
  size := 2
  cells := fun c l x => ∃ y1 : Value, l = [y1, .bool x.Wrap] ∧ Sl R_api_Cell c y1 x.Cells
  len := by
    intro c l x h
    obtain ⟨_, rfl, h0⟩ := h
    rfl
  one := by
    intro c l x h v hv
    obtain ⟨_, rfl, h0⟩ := h
    simp only [List.mem_cons, List.not_mem_nil, or_false] at hv
    rcases hv with rfl | rfl
    · exact h0.one
    · rfl
  mono := by
    intro c c2 l x hc h
    obtain ⟨_, rfl, h0⟩ := h
    exact ⟨_, rfl, h0.mono hc⟩

structure G_linotypelaw35_Start where
  L : List G_api_Line
  At : G_api_Cursor
  Auto : Bool

def R_linotypelaw35_Start : Rp G_linotypelaw35_Start where
  size := 5
  cells := fun c l x => ∃ y1 : Value, l = [y1, .int .i64 x.At.Row, .int .i64 x.At.Col, .bool x.At.Pending, .bool x.Auto] ∧ Sl R_api_Line c y1 x.L
  len := by
    intro c l x h
    obtain ⟨_, rfl, h0⟩ := h
    rfl
  one := by
    intro c l x h v hv
    obtain ⟨_, rfl, h0⟩ := h
    simp only [List.mem_cons, List.not_mem_nil, or_false] at hv
    rcases hv with rfl | rfl | rfl | rfl | rfl
    · exact h0.one
    · rfl
    · rfl
    · rfl
    · rfl
  mono := by
    intro c c2 l x hc h
    obtain ⟨_, rfl, h0⟩ := h
    exact ⟨_, rfl, h0.mono hc⟩

structure G_api_Prop where
  Break : Int
  Pict : Bool
  Conj : Int
  East : Int

def R_api_Prop : Rp G_api_Prop where
  size := 4
  cells := fun _ l x => l = [.int .i64 x.Break, .bool x.Pict, .int .i64 x.Conj, .int .i64 x.East]
  len := by
    intro c l x h
    obtain rfl := h
    rfl
  one := by
    intro c l x h v hv
    obtain rfl := h
    simp only [List.mem_cons, List.not_mem_nil, or_false] at hv
    rcases hv with rfl | rfl | rfl | rfl
    · rfl
    · rfl
    · rfl
    · rfl
  mono := by
    intro c c2 l x hc h
    obtain rfl := h
    exact rfl

structure G_linotyperef34_Pen where
  L : List G_api_Line
  At : G_api_Cursor
  Auto : Bool

def R_linotyperef34_Pen : Rp G_linotyperef34_Pen where
  size := 5
  cells := fun c l x => ∃ y1 : Value, l = [y1, .int .i64 x.At.Row, .int .i64 x.At.Col, .bool x.At.Pending, .bool x.Auto] ∧ Sl R_api_Line c y1 x.L
  len := by
    intro c l x h
    obtain ⟨_, rfl, h0⟩ := h
    rfl
  one := by
    intro c l x h v hv
    obtain ⟨_, rfl, h0⟩ := h
    simp only [List.mem_cons, List.not_mem_nil, or_false] at hv
    rcases hv with rfl | rfl | rfl | rfl | rfl
    · exact h0.one
    · rfl
    · rfl
    · rfl
    · rfl
  mono := by
    intro c c2 l x hc h
    obtain ⟨_, rfl, h0⟩ := h
    exact ⟨_, rfl, h0.mono hc⟩

structure G_api_Op where
  Kind : Int
  A : Int
  B : Int
  Bytes : List Int

def R_api_Op : Rp G_api_Op where
  size := 4
  cells := fun c l x => ∃ y1 : Value, l = [.int .i64 x.Kind, .int .i64 x.A, .int .i64 x.B, y1] ∧ Sl (RI .u8) c y1 x.Bytes
  len := by
    intro c l x h
    obtain ⟨_, rfl, h0⟩ := h
    rfl
  one := by
    intro c l x h v hv
    obtain ⟨_, rfl, h0⟩ := h
    simp only [List.mem_cons, List.not_mem_nil, or_false] at hv
    rcases hv with rfl | rfl | rfl | rfl
    · rfl
    · rfl
    · rfl
    · exact h0.one
  mono := by
    intro c c2 l x hc h
    obtain ⟨_, rfl, h0⟩ := h
    exact ⟨_, rfl, h0.mono hc⟩

structure G_linotyperef37_Feed where
  P : G_linotyperef34_Pen
  Group : List Int
  Raw : List Int
  Parts : Int

def R_linotyperef37_Feed : Rp G_linotyperef37_Feed where
  size := 8
  cells := fun c l x => ∃ y1 y2 y3 : Value, l = [y1, .int .i64 x.P.At.Row, .int .i64 x.P.At.Col, .bool x.P.At.Pending, .bool x.P.Auto, y2, y3, .int .i64 x.Parts] ∧ Sl R_api_Line c y1 x.P.L ∧ Sl (RI .i32) c y2 x.Group ∧ Sl (RI .u8) c y3 x.Raw
  len := by
    intro c l x h
    obtain ⟨_, _, _, rfl, h0, h1, h2⟩ := h
    rfl
  one := by
    intro c l x h v hv
    obtain ⟨_, _, _, rfl, h0, h1, h2⟩ := h
    simp only [List.mem_cons, List.not_mem_nil, or_false] at hv
    rcases hv with rfl | rfl | rfl | rfl | rfl | rfl | rfl | rfl
    · exact h0.one
    · rfl
    · rfl
    · rfl
    · rfl
    · exact h1.one
    · exact h2.one
    · rfl
  mono := by
    intro c c2 l x hc h
    obtain ⟨_, _, _, rfl, h0, h1, h2⟩ := h
    exact ⟨_, _, _, rfl, h0.mono hc, h1.mono hc, h2.mono hc⟩

structure G_linotypelaw37_Act where
  Kind : Int
  B : List Int
  R : Int

def R_linotypelaw37_Act : Rp G_linotypelaw37_Act where
  size := 3
  cells := fun c l x => ∃ y1 : Value, l = [.int .i64 x.Kind, y1, .int .i32 x.R] ∧ Sl (RI .u8) c y1 x.B
  len := by
    intro c l x h
    obtain ⟨_, rfl, h0⟩ := h
    rfl
  one := by
    intro c l x h v hv
    obtain ⟨_, rfl, h0⟩ := h
    simp only [List.mem_cons, List.not_mem_nil, or_false] at hv
    rcases hv with rfl | rfl | rfl
    · rfl
    · exact h0.one
    · rfl
  mono := by
    intro c c2 l x hc h
    obtain ⟨_, rfl, h0⟩ := h
    exact ⟨_, rfl, h0.mono hc⟩

structure G_linotypelaw40_Side where
  W : Int
  H : Int

def R_linotypelaw40_Side : Rp G_linotypelaw40_Side where
  size := 2
  cells := fun _ l x => l = [.int .i64 x.W, .int .i64 x.H]
  len := by
    intro c l x h
    obtain rfl := h
    rfl
  one := by
    intro c l x h v hv
    obtain rfl := h
    simp only [List.mem_cons, List.not_mem_nil, or_false] at hv
    rcases hv with rfl | rfl
    · rfl
    · rfl
  mono := by
    intro c c2 l x hc h
    obtain rfl := h
    exact rfl

structure G_api_View where
  Wide : Int
  High : Int
  Lines : List G_api_Line
  At : G_api_Cursor
  Auto : Bool

def R_api_View : Rp G_api_View where
  size := 7
  cells := fun c l x => ∃ y1 : Value, l = [.int .i64 x.Wide, .int .i64 x.High, y1, .int .i64 x.At.Row, .int .i64 x.At.Col, .bool x.At.Pending, .bool x.Auto] ∧ Sl R_api_Line c y1 x.Lines
  len := by
    intro c l x h
    obtain ⟨_, rfl, h0⟩ := h
    rfl
  one := by
    intro c l x h v hv
    obtain ⟨_, rfl, h0⟩ := h
    simp only [List.mem_cons, List.not_mem_nil, or_false] at hv
    rcases hv with rfl | rfl | rfl | rfl | rfl | rfl | rfl
    · rfl
    · rfl
    · exact h0.one
    · rfl
    · rfl
    · rfl
    · rfl
  mono := by
    intro c c2 l x hc h
    obtain ⟨_, rfl, h0⟩ := h
    exact ⟨_, rfl, h0.mono hc⟩

structure G_linotypelaw40_Cut where
  B : List Int
  At : Int

def R_linotypelaw40_Cut : Rp G_linotypelaw40_Cut where
  size := 2
  cells := fun c l x => ∃ y1 : Value, l = [y1, .int .i64 x.At] ∧ Sl (RI .u8) c y1 x.B
  len := by
    intro c l x h
    obtain ⟨_, rfl, h0⟩ := h
    rfl
  one := by
    intro c l x h v hv
    obtain ⟨_, rfl, h0⟩ := h
    simp only [List.mem_cons, List.not_mem_nil, or_false] at hv
    rcases hv with rfl | rfl
    · exact h0.one
    · rfl
  mono := by
    intro c c2 l x hc h
    obtain ⟨_, rfl, h0⟩ := h
    exact ⟨_, rfl, h0.mono hc⟩

structure G_cluster_Cluster where
  text : Int × Int × Int × Int × Int × Int × Int × Int × Int × Int × Int × Int × Int × Int × Int × Int
  n : Int

def R_cluster_Cluster : Rp G_cluster_Cluster where
  size := 17
  cells := fun _ l x => l = [.int .i32 x.text.1, .int .i32 x.text.2.1, .int .i32 x.text.2.2.1, .int .i32 x.text.2.2.2.1, .int .i32 x.text.2.2.2.2.1, .int .i32 x.text.2.2.2.2.2.1, .int .i32 x.text.2.2.2.2.2.2.1, .int .i32 x.text.2.2.2.2.2.2.2.1, .int .i32 x.text.2.2.2.2.2.2.2.2.1, .int .i32 x.text.2.2.2.2.2.2.2.2.2.1, .int .i32 x.text.2.2.2.2.2.2.2.2.2.2.1, .int .i32 x.text.2.2.2.2.2.2.2.2.2.2.2.1, .int .i32 x.text.2.2.2.2.2.2.2.2.2.2.2.2.1, .int .i32 x.text.2.2.2.2.2.2.2.2.2.2.2.2.2.1, .int .i32 x.text.2.2.2.2.2.2.2.2.2.2.2.2.2.2.1, .int .i32 x.text.2.2.2.2.2.2.2.2.2.2.2.2.2.2.2, .int .i64 x.n]
  len := by
    intro c l x h
    obtain rfl := h
    rfl
  one := by
    intro c l x h v hv
    obtain rfl := h
    simp only [List.mem_cons, List.not_mem_nil, or_false] at hv
    rcases hv with rfl | rfl | rfl | rfl | rfl | rfl | rfl | rfl | rfl | rfl | rfl | rfl | rfl | rfl | rfl | rfl | rfl
    · rfl
    · rfl
    · rfl
    · rfl
    · rfl
    · rfl
    · rfl
    · rfl
    · rfl
    · rfl
    · rfl
    · rfl
    · rfl
    · rfl
    · rfl
    · rfl
    · rfl
  mono := by
    intro c c2 l x hc h
    obtain rfl := h
    exact rfl

structure G_cwidth_Gauge where
  some : Bool
  pict : Bool
  wide : Bool

def R_cwidth_Gauge : Rp G_cwidth_Gauge where
  size := 3
  cells := fun _ l x => l = [.bool x.some, .bool x.pict, .bool x.wide]
  len := by
    intro c l x h
    obtain rfl := h
    rfl
  one := by
    intro c l x h v hv
    obtain rfl := h
    simp only [List.mem_cons, List.not_mem_nil, or_false] at hv
    rcases hv with rfl | rfl | rfl
    · rfl
    · rfl
    · rfl
  mono := by
    intro c c2 l x hc h
    obtain rfl := h
    exact rfl

structure G_utfdec_Dec where
  held : Int
  needs : Int
  lo : Int
  hi : Int
  bits : Int

def R_utfdec_Dec : Rp G_utfdec_Dec where
  size := 5
  cells := fun _ l x => l = [.int .i64 x.held, .int .i64 x.needs, .int .u8 x.lo, .int .u8 x.hi, .int .i64 x.bits]
  len := by
    intro c l x h
    obtain rfl := h
    rfl
  one := by
    intro c l x h v hv
    obtain rfl := h
    simp only [List.mem_cons, List.not_mem_nil, or_false] at hv
    rcases hv with rfl | rfl | rfl | rfl | rfl
    · rfl
    · rfl
    · rfl
    · rfl
    · rfl
  mono := by
    intro c c2 l x hc h
    obtain rfl := h
    exact rfl

structure G_seg_State where
  some : Bool
  last : Int
  pict : Int
  conj : Int
  odd : Bool

def R_seg_State : Rp G_seg_State where
  size := 5
  cells := fun _ l x => l = [.bool x.some, .int .i64 x.last, .int .i64 x.pict, .int .i64 x.conj, .bool x.odd]
  len := by
    intro c l x h
    obtain rfl := h
    rfl
  one := by
    intro c l x h v hv
    obtain rfl := h
    simp only [List.mem_cons, List.not_mem_nil, or_false] at hv
    rcases hv with rfl | rfl | rfl | rfl | rfl
    · rfl
    · rfl
    · rfl
    · rfl
    · rfl
  mono := by
    intro c c2 l x hc h
    obtain rfl := h
    exact rfl

structure G_linotyperef04_Got where
  R : Int
  At : Int
  Len : Int
  Known : Int
  Bad : Bool

def R_linotyperef04_Got : Rp G_linotyperef04_Got where
  size := 5
  cells := fun _ l x => l = [.int .i32 x.R, .int .i64 x.At, .int .i64 x.Len, .int .i64 x.Known, .bool x.Bad]
  len := by
    intro c l x h
    obtain rfl := h
    rfl
  one := by
    intro c l x h v hv
    obtain rfl := h
    simp only [List.mem_cons, List.not_mem_nil, or_false] at hv
    rcases hv with rfl | rfl | rfl | rfl | rfl
    · rfl
    · rfl
    · rfl
    · rfl
    · rfl
  mono := by
    intro c c2 l x hc h
    obtain rfl := h
    exact rfl

structure G_api_Fault where
  At : Int
  Err : Er

def R_api_Fault : Rp G_api_Fault where
  size := 2
  cells := fun c l x => ∃ y1 : Value, l = [.int .i64 x.At, y1] ∧ RE 305 179 c y1 x.Err
  len := by
    intro c l x h
    obtain ⟨_, rfl, h0⟩ := h
    rfl
  one := by
    intro c l x h v hv
    obtain ⟨_, rfl, h0⟩ := h
    simp only [List.mem_cons, List.not_mem_nil, or_false] at hv
    rcases hv with rfl | rfl
    · rfl
    · exact h0.one
  mono := by
    intro c c2 l x hc h
    obtain ⟨_, rfl, h0⟩ := h
    exact ⟨_, rfl, h0.mono hc⟩

structure G_api_Item where
  Wide : Int
  Text : List Int

def R_api_Item : Rp G_api_Item where
  size := 2
  cells := fun c l x => ∃ y1 : Value, l = [.int .i64 x.Wide, y1] ∧ Sl (RI .i32) c y1 x.Text
  len := by
    intro c l x h
    obtain ⟨_, rfl, h0⟩ := h
    rfl
  one := by
    intro c l x h v hv
    obtain ⟨_, rfl, h0⟩ := h
    simp only [List.mem_cons, List.not_mem_nil, or_false] at hv
    rcases hv with rfl | rfl
    · rfl
    · exact h0.one
  mono := by
    intro c c2 l x hc h
    obtain ⟨_, rfl, h0⟩ := h
    exact ⟨_, rfl, h0.mono hc⟩

structure G_scroll_stretch where
  from_ : Int
  to_ : Int
  n : Int

def R_scroll_stretch : Rp G_scroll_stretch where
  size := 3
  cells := fun _ l x => l = [.int .i64 x.from_, .int .i64 x.to_, .int .i64 x.n]
  len := by
    intro c l x h
    obtain rfl := h
    rfl
  one := by
    intro c l x h v hv
    obtain rfl := h
    simp only [List.mem_cons, List.not_mem_nil, or_false] at hv
    rcases hv with rfl | rfl | rfl
    · rfl
    · rfl
    · rfl
  mono := by
    intro c c2 l x hc h
    obtain rfl := h
    exact rfl

def RA2_i32 : Rp (Int × Int) where
  size := 2
  cells := fun _ l x => l = [.int .i32 x.1, .int .i32 x.2]
  len := by
    intro c l x h
    obtain rfl := h
    rfl
  one := by
    intro c l x h v hv
    obtain rfl := h
    simp only [List.mem_cons, List.not_mem_nil, or_false] at hv
    rcases hv with rfl | rfl
    · rfl
    · rfl
  mono := fun _ h => h
def RA2_i64 : Rp (Int × Int) where
  size := 2
  cells := fun _ l x => l = [.int .i64 x.1, .int .i64 x.2]
  len := by
    intro c l x h
    obtain rfl := h
    rfl
  one := by
    intro c l x h v hv
    obtain rfl := h
    simp only [List.mem_cons, List.not_mem_nil, or_false] at hv
    rcases hv with rfl | rfl
    · rfl
    · rfl
  mono := fun _ h => h
def RA3_i64 : Rp (Int × Int × Int) where
  size := 3
  cells := fun _ l x => l = [.int .i64 x.1, .int .i64 x.2.1, .int .i64 x.2.2]
  len := by
    intro c l x h
    obtain rfl := h
    rfl
  one := by
    intro c l x h v hv
    obtain rfl := h
    simp only [List.mem_cons, List.not_mem_nil, or_false] at hv
    rcases hv with rfl | rfl | rfl
    · rfl
    · rfl
    · rfl
  mono := fun _ h => h
def RA16_i32 : Rp (Int × Int × Int × Int × Int × Int × Int × Int × Int × Int × Int × Int × Int × Int × Int × Int) where
  size := 16
  cells := fun _ l x => l = [.int .i32 x.1, .int .i32 x.2.1, .int .i32 x.2.2.1, .int .i32 x.2.2.2.1, .int .i32 x.2.2.2.2.1, .int .i32 x.2.2.2.2.2.1, .int .i32 x.2.2.2.2.2.2.1, .int .i32 x.2.2.2.2.2.2.2.1, .int .i32 x.2.2.2.2.2.2.2.2.1, .int .i32 x.2.2.2.2.2.2.2.2.2.1, .int .i32 x.2.2.2.2.2.2.2.2.2.2.1, .int .i32 x.2.2.2.2.2.2.2.2.2.2.2.1, .int .i32 x.2.2.2.2.2.2.2.2.2.2.2.2.1, .int .i32 x.2.2.2.2.2.2.2.2.2.2.2.2.2.1, .int .i32 x.2.2.2.2.2.2.2.2.2.2.2.2.2.2.1, .int .i32 x.2.2.2.2.2.2.2.2.2.2.2.2.2.2.2]
  len := by
    intro c l x h
    obtain rfl := h
    rfl
  one := by
    intro c l x h v hv
    obtain rfl := h
    simp only [List.mem_cons, List.not_mem_nil, or_false] at hv
    rcases hv with rfl | rfl | rfl | rfl | rfl | rfl | rfl | rfl | rfl | rfl | rfl | rfl | rfl | rfl | rfl | rfl
    · rfl
    · rfl
    · rfl
    · rfl
    · rfl
    · rfl
    · rfl
    · rfl
    · rfl
    · rfl
    · rfl
    · rfl
    · rfl
    · rfl
    · rfl
    · rfl
  mono := fun _ h => h
structure G_row_Row where
  cells : List G_api_Cell
  wrap : Bool

structure G_grid_Grid where
  rows : List (Option Nat)

structure G_place_Pen where
  G : Option Nat
  At : G_api_Cursor
  Auto : Bool

structure G_widen_Cluster where
  at_ : G_api_Cursor
  wide : Int
  text : G_cluster_Cluster
  gauge : G_cwidth_Gauge

structure G_feed_Feeder where
  pen : Option Nat
  dec : G_utfdec_Dec
  seg : G_seg_State
  open_ : Option Nat

structure G_screen_Screen where
  Feeder : Option Nat
  pen : Option Nat

def Adds (G G' : Gm) : Prop := ∀ g k, G g k ≠ [] → G' g k = G g k
theorem Adds.refl (G : Gm) : Adds G G := fun _ _ _ => rfl
theorem Adds.trans {a b c : Gm} (h : Adds a b) (k : Adds b c) : Adds a c := fun g i hi => (k g i (by rw [h g i hi]; exact hi)).trans (h g i hi)
theorem Adds.get {G G' : Gm} {g k : Nat} {e : En} {l : List En} (h : Adds G G') (hE : G g k = e :: l) : G' g k = e :: l := (h g k (by rw [hE]; exact List.cons_ne_nil _ _)).trans hE
theorem Adds.nil {G G' : Gm} {g k : Nat} (h : Adds G G') (hE : G' g k = []) : G g k = [] := by
  by_cases hn : G g k = []
  · exact hn
  · rw [h g k hn] at hE; exact hE

structure Sto where
  row_Row : List G_row_Row
  grid_Grid : List G_grid_Grid
  place_Pen : List G_place_Pen
  widen_Cluster : List G_widen_Cluster
  feed_Feeder : List G_feed_Feeder
  screen_Screen : List G_screen_Screen

def Sto.set_row_Row (s : Sto) (k : Nat) (x : G_row_Row) : Option Sto := if k < s.row_Row.length then some { s with row_Row := s.row_Row.set k x } else none
def Sto.add_row_Row (s : Sto) (x : G_row_Row) : Sto := { s with row_Row := s.row_Row ++ [x] }
def Y_row_Row (c : Cx) (t : Option Nat) (E : List En) (x : G_row_Row) : Prop := ∃ (b : Nat) (y1 : Value) (u1 : List Value), t = some b ∧ E = [⟨.pointer (some ⟨b, 0, none⟩), 188, [y1, .bool x.wrap], 0⟩, es true R_api_Cell y1 101 u1 x.cells] ∧ OA R_api_Cell c y1 u1 x.cells
theorem Y_row_Row.mono {c c' : Cx} (k : c.le c') (b : Nat) (E : List En) (x : G_row_Row) : Y_row_Row c (some b) E x → Y_row_Row c' (some b) E x := by
  rintro ⟨b, y1, u1, e1, e2, h0⟩
  exact ⟨b, y1, u1, e1, e2, h0.mono k⟩
theorem Y_row_Row.no {c : Cx} (E : List En) (x : G_row_Row) : ¬ Y_row_Row c none E x := by
  rintro ⟨b, y1, u1, e1, _⟩
  cases e1
def Sto.set_grid_Grid (s : Sto) (k : Nat) (x : G_grid_Grid) : Option Sto := if k < s.grid_Grid.length then some { s with grid_Grid := s.grid_Grid.set k x } else none
def Sto.add_grid_Grid (s : Sto) (x : G_grid_Grid) : Sto := { s with grid_Grid := s.grid_Grid ++ [x] }
def Y_grid_Grid (c : Cx) (t : Option Nat) (E : List En) (x : G_grid_Grid) : Prop := ∃ (b : Nat) (y1 : Value) (u1 : List Value), t = some b ∧ E = [⟨.pointer (some ⟨b, 0, none⟩), 122, [y1], 0⟩, es true (RP 0) y1 116 u1 x.rows] ∧ OA (RP 0) c y1 u1 x.rows
theorem Y_grid_Grid.mono {c c' : Cx} (k : c.le c') (b : Nat) (E : List En) (x : G_grid_Grid) : Y_grid_Grid c (some b) E x → Y_grid_Grid c' (some b) E x := by
  rintro ⟨b, y1, u1, e1, e2, h0⟩
  exact ⟨b, y1, u1, e1, e2, h0.mono k⟩
theorem Y_grid_Grid.no {c : Cx} (E : List En) (x : G_grid_Grid) : ¬ Y_grid_Grid c none E x := by
  rintro ⟨b, y1, u1, e1, _⟩
  cases e1
def Sto.set_place_Pen (s : Sto) (k : Nat) (x : G_place_Pen) : Option Sto := if k < s.place_Pen.length then some { s with place_Pen := s.place_Pen.set k x } else none
def Sto.add_place_Pen (s : Sto) (x : G_place_Pen) : Sto := { s with place_Pen := s.place_Pen ++ [x] }
def Y_place_Pen (c : Cx) (t : Option Nat) (E : List En) (x : G_place_Pen) : Prop := ∃ (b : Nat) (y1 : Value), t = some b ∧ E = [⟨.pointer (some ⟨b, 0, none⟩), 42, [y1, .int .i64 x.At.Row, .int .i64 x.At.Col, .bool x.At.Pending, .bool x.Auto], 0⟩] ∧ Pt 1 c y1 x.G
theorem Y_place_Pen.mono {c c' : Cx} (k : c.le c') (b : Nat) (E : List En) (x : G_place_Pen) : Y_place_Pen c (some b) E x → Y_place_Pen c' (some b) E x := by
  rintro ⟨b, y1, e1, e2, h0⟩
  exact ⟨b, y1, e1, e2, h0.mono k⟩
theorem Y_place_Pen.no {c : Cx} (E : List En) (x : G_place_Pen) : ¬ Y_place_Pen c none E x := by
  rintro ⟨b, y1, e1, _⟩
  cases e1
def Sto.set_widen_Cluster (s : Sto) (k : Nat) (x : G_widen_Cluster) : Option Sto := if k < s.widen_Cluster.length then some { s with widen_Cluster := s.widen_Cluster.set k x } else none
def Sto.add_widen_Cluster (s : Sto) (x : G_widen_Cluster) : Sto := { s with widen_Cluster := s.widen_Cluster ++ [x] }
def Y_widen_Cluster (c : Cx) (t : Option Nat) (E : List En) (x : G_widen_Cluster) : Prop := ∃ (b : Nat), t = some b ∧ E = [⟨.pointer (some ⟨b, 0, none⟩), 133, [.int .i64 x.at_.Row, .int .i64 x.at_.Col, .bool x.at_.Pending, .int .i64 x.wide, .int .i32 x.text.text.1, .int .i32 x.text.text.2.1, .int .i32 x.text.text.2.2.1, .int .i32 x.text.text.2.2.2.1, .int .i32 x.text.text.2.2.2.2.1, .int .i32 x.text.text.2.2.2.2.2.1, .int .i32 x.text.text.2.2.2.2.2.2.1, .int .i32 x.text.text.2.2.2.2.2.2.2.1, .int .i32 x.text.text.2.2.2.2.2.2.2.2.1, .int .i32 x.text.text.2.2.2.2.2.2.2.2.2.1, .int .i32 x.text.text.2.2.2.2.2.2.2.2.2.2.1, .int .i32 x.text.text.2.2.2.2.2.2.2.2.2.2.2.1, .int .i32 x.text.text.2.2.2.2.2.2.2.2.2.2.2.2.1, .int .i32 x.text.text.2.2.2.2.2.2.2.2.2.2.2.2.2.1, .int .i32 x.text.text.2.2.2.2.2.2.2.2.2.2.2.2.2.2.1, .int .i32 x.text.text.2.2.2.2.2.2.2.2.2.2.2.2.2.2.2, .int .i64 x.text.n, .bool x.gauge.some, .bool x.gauge.pict, .bool x.gauge.wide], 0⟩]
theorem Y_widen_Cluster.mono {c c' : Cx} (k : c.le c') (b : Nat) (E : List En) (x : G_widen_Cluster) : Y_widen_Cluster c (some b) E x → Y_widen_Cluster c' (some b) E x := by
  rintro ⟨b, e1, e2⟩
  exact ⟨b, e1, e2⟩
theorem Y_widen_Cluster.no {c : Cx} (E : List En) (x : G_widen_Cluster) : ¬ Y_widen_Cluster c none E x := by
  rintro ⟨b, e1, _⟩
  cases e1
def Sto.set_feed_Feeder (s : Sto) (k : Nat) (x : G_feed_Feeder) : Option Sto := if k < s.feed_Feeder.length then some { s with feed_Feeder := s.feed_Feeder.set k x } else none
def Sto.add_feed_Feeder (s : Sto) (x : G_feed_Feeder) : Sto := { s with feed_Feeder := s.feed_Feeder ++ [x] }
def Y_feed_Feeder (c : Cx) (t : Option Nat) (E : List En) (x : G_feed_Feeder) : Prop := ∃ (b : Nat) (y1 : Value) (y2 : Value), t = some b ∧ E = [⟨.pointer (some ⟨b, 0, none⟩), 158, [y1, .int .i64 x.dec.held, .int .i64 x.dec.needs, .int .u8 x.dec.lo, .int .u8 x.dec.hi, .int .i64 x.dec.bits, .bool x.seg.some, .int .i64 x.seg.last, .int .i64 x.seg.pict, .int .i64 x.seg.conj, .bool x.seg.odd, y2], 0⟩] ∧ Pt 2 c y1 x.pen ∧ Pt 3 c y2 x.open_
theorem Y_feed_Feeder.mono {c c' : Cx} (k : c.le c') (b : Nat) (E : List En) (x : G_feed_Feeder) : Y_feed_Feeder c (some b) E x → Y_feed_Feeder c' (some b) E x := by
  rintro ⟨b, y1, y2, e1, e2, h0, h1⟩
  exact ⟨b, y1, y2, e1, e2, h0.mono k, h1.mono k⟩
theorem Y_feed_Feeder.no {c : Cx} (E : List En) (x : G_feed_Feeder) : ¬ Y_feed_Feeder c none E x := by
  rintro ⟨b, y1, y2, e1, _⟩
  cases e1
def Sto.set_screen_Screen (s : Sto) (k : Nat) (x : G_screen_Screen) : Option Sto := if k < s.screen_Screen.length then some { s with screen_Screen := s.screen_Screen.set k x } else none
def Sto.add_screen_Screen (s : Sto) (x : G_screen_Screen) : Sto := { s with screen_Screen := s.screen_Screen ++ [x] }
def Y_screen_Screen (c : Cx) (t : Option Nat) (E : List En) (x : G_screen_Screen) : Prop := ∃ (b : Nat) (y1 : Value) (y2 : Value), t = some b ∧ E = [⟨.pointer (some ⟨b, 0, none⟩), 176, [y1, y2], 0⟩] ∧ Pt 4 c y1 x.Feeder ∧ Pt 2 c y2 x.pen
theorem Y_screen_Screen.mono {c c' : Cx} (k : c.le c') (b : Nat) (E : List En) (x : G_screen_Screen) : Y_screen_Screen c (some b) E x → Y_screen_Screen c' (some b) E x := by
  rintro ⟨b, y1, y2, e1, e2, h0, h1⟩
  exact ⟨b, y1, y2, e1, e2, h0.mono k, h1.mono k⟩
theorem Y_screen_Screen.no {c : Cx} (E : List En) (x : G_screen_Screen) : ¬ Y_screen_Screen c none E x := by
  rintro ⟨b, y1, y2, e1, _⟩
  cases e1
structure Rel (c : Cx) (s : Sto) (G : Gm) : Prop where
  row_Row : Rl Y_row_Row 0 c G s.row_Row
  grid_Grid : Rl Y_grid_Grid 1 c G s.grid_Grid
  place_Pen : Rl Y_place_Pen 2 c G s.place_Pen
  widen_Cluster : Rl Y_widen_Cluster 3 c G s.widen_Cluster
  feed_Feeder : Rl Y_feed_Feeder 4 c G s.feed_Feeder
  screen_Screen : Rl Y_screen_Screen 5 c G s.screen_Screen

theorem Rel.mono {c c' : Cx} {s : Sto} {G : Gm} (h : Rel c s G) (k : c.le c') : Rel c' s G :=
  ⟨h.row_Row.mono (Y_row_Row.mono k) Y_row_Row.no k, h.grid_Grid.mono (Y_grid_Grid.mono k) Y_grid_Grid.no k, h.place_Pen.mono (Y_place_Pen.mono k) Y_place_Pen.no k, h.widen_Cluster.mono (Y_widen_Cluster.mono k) Y_widen_Cluster.no k, h.feed_Feeder.mono (Y_feed_Feeder.mono k) Y_feed_Feeder.no k, h.screen_Screen.mono (Y_screen_Screen.mono k) Y_screen_Screen.no k⟩
theorem Rel.m {c c' : Cx} {s : Sto} {G : Gm} (h : Rel c s G) (k : c.le c' := by repeat (first | assumption | refine Cx.le.trans ?_ (by assumption))) : Rel c' s G := h.mono k
theorem Rel.open_row_Row {c : Cx} {s : Sto} {G : Gm} {k b : Nat} {x : G_row_Row} (R : Rel c s G) (hx : s.row_Row[k]? = some x) (ht : c.t 0 k = some b) : ∃ (y1 : Value) (u1 : List Value), G 0 k = [⟨.pointer (some ⟨b, 0, none⟩), 188, [y1, .bool x.wrap], 0⟩, es true R_api_Cell y1 101 u1 x.cells] ∧ OA R_api_Cell c y1 u1 x.cells := by
  obtain ⟨b', y1, u1, e1, e2, h0⟩ := R.row_Row.ob k x hx
  rw [ht] at e1
  cases e1
  exact ⟨y1, u1, e2, h0⟩
theorem Rel.put_row_Row {c : Cx} {s s' : Sto} {G : Gm} {F : List En} {k : Nat} {E' : List En} {x' : G_row_Row} (O : Own c (setG G 0 k E') F) (R : Rel c s G) (h : s.set_row_Row k x' = some s') (hY : Y_row_Row c (c.t 0 k) E' x') :
    ∃ G', Own c G' F ∧ Rel c s' G' ∧ G' 0 k = E' ∧ ∀ G0, Adds G0 G → G0 0 k = [] → Adds G0 G' := by
  unfold Sto.set_row_Row at h
  split at h
  · rename_i hk
    cases h
    refine ⟨_, O, ⟨R.row_Row.set hk hY, R.grid_Grid.other (by decide), R.place_Pen.other (by decide), R.widen_Cluster.other (by decide), R.feed_Feeder.other (by decide), R.screen_Screen.other (by decide)⟩, setG_same _ _ _ _, fun G0 h1 h2 g' k' h3 => ?_⟩
    rw [setG_ne (by rintro ⟨rfl, rfl⟩; exact h3 h2)]
    exact h1 g' k' h3
  · cases h
theorem Rel.new_row_Row {c : Cx} {s : Sto} {G : Gm} {F E : List En} {x : G_row_Row} {b : Nat} (O : Own c G (E ++ F)) (R : Rel c s G) (hY : ∀ c', c.le c' → Y_row_Row c' (some b) E x) :
    ∃ c' G', (c'.w = c.w ∧ c'.A = c.A) ∧ c.le c' ∧ c'.t 0 s.row_Row.length = some b ∧ Own c' G' F ∧ Rel c' (s.add_row_Row x) G' ∧ G' 0 s.row_Row.length = E ∧ G 0 s.row_Row.length = [] ∧ Adds G G' := by
  have hE := R.row_Row.no _ (Nat.le_refl _)
  have hne : E ≠ [] := by
    obtain ⟨_, _, _, _, rfl, _⟩ := hY c (Cx.le.refl c)
    simp
  obtain ⟨c', hw, hle, ht, O'⟩ := Own.newObj (b := b) O hE hne
  have R' := R.mono hle
  refine ⟨c', _, hw, hle, ht, O', ⟨R'.row_Row.new (by rw [ht]; exact hY c' hle), R'.grid_Grid.other (by decide), R'.place_Pen.other (by decide), R'.widen_Cluster.other (by decide), R'.feed_Feeder.other (by decide), R'.screen_Screen.other (by decide)⟩, setG_same _ _ _ _, hE, fun g' k' h3 => ?_⟩
  exact setG_ne (by rintro ⟨rfl, rfl⟩; exact h3 hE)
theorem Rel.open_grid_Grid {c : Cx} {s : Sto} {G : Gm} {k b : Nat} {x : G_grid_Grid} (R : Rel c s G) (hx : s.grid_Grid[k]? = some x) (ht : c.t 1 k = some b) : ∃ (y1 : Value) (u1 : List Value), G 1 k = [⟨.pointer (some ⟨b, 0, none⟩), 122, [y1], 0⟩, es true (RP 0) y1 116 u1 x.rows] ∧ OA (RP 0) c y1 u1 x.rows := by
  obtain ⟨b', y1, u1, e1, e2, h0⟩ := R.grid_Grid.ob k x hx
  rw [ht] at e1
  cases e1
  exact ⟨y1, u1, e2, h0⟩
theorem Rel.put_grid_Grid {c : Cx} {s s' : Sto} {G : Gm} {F : List En} {k : Nat} {E' : List En} {x' : G_grid_Grid} (O : Own c (setG G 1 k E') F) (R : Rel c s G) (h : s.set_grid_Grid k x' = some s') (hY : Y_grid_Grid c (c.t 1 k) E' x') :
    ∃ G', Own c G' F ∧ Rel c s' G' ∧ G' 1 k = E' ∧ ∀ G0, Adds G0 G → G0 1 k = [] → Adds G0 G' := by
  unfold Sto.set_grid_Grid at h
  split at h
  · rename_i hk
    cases h
    refine ⟨_, O, ⟨R.row_Row.other (by decide), R.grid_Grid.set hk hY, R.place_Pen.other (by decide), R.widen_Cluster.other (by decide), R.feed_Feeder.other (by decide), R.screen_Screen.other (by decide)⟩, setG_same _ _ _ _, fun G0 h1 h2 g' k' h3 => ?_⟩
    rw [setG_ne (by rintro ⟨rfl, rfl⟩; exact h3 h2)]
    exact h1 g' k' h3
  · cases h
theorem Rel.new_grid_Grid {c : Cx} {s : Sto} {G : Gm} {F E : List En} {x : G_grid_Grid} {b : Nat} (O : Own c G (E ++ F)) (R : Rel c s G) (hY : ∀ c', c.le c' → Y_grid_Grid c' (some b) E x) :
    ∃ c' G', (c'.w = c.w ∧ c'.A = c.A) ∧ c.le c' ∧ c'.t 1 s.grid_Grid.length = some b ∧ Own c' G' F ∧ Rel c' (s.add_grid_Grid x) G' ∧ G' 1 s.grid_Grid.length = E ∧ G 1 s.grid_Grid.length = [] ∧ Adds G G' := by
  have hE := R.grid_Grid.no _ (Nat.le_refl _)
  have hne : E ≠ [] := by
    obtain ⟨_, _, _, _, rfl, _⟩ := hY c (Cx.le.refl c)
    simp
  obtain ⟨c', hw, hle, ht, O'⟩ := Own.newObj (b := b) O hE hne
  have R' := R.mono hle
  refine ⟨c', _, hw, hle, ht, O', ⟨R'.row_Row.other (by decide), R'.grid_Grid.new (by rw [ht]; exact hY c' hle), R'.place_Pen.other (by decide), R'.widen_Cluster.other (by decide), R'.feed_Feeder.other (by decide), R'.screen_Screen.other (by decide)⟩, setG_same _ _ _ _, hE, fun g' k' h3 => ?_⟩
  exact setG_ne (by rintro ⟨rfl, rfl⟩; exact h3 hE)
theorem Rel.open_place_Pen {c : Cx} {s : Sto} {G : Gm} {k b : Nat} {x : G_place_Pen} (R : Rel c s G) (hx : s.place_Pen[k]? = some x) (ht : c.t 2 k = some b) : ∃ (y1 : Value), G 2 k = [⟨.pointer (some ⟨b, 0, none⟩), 42, [y1, .int .i64 x.At.Row, .int .i64 x.At.Col, .bool x.At.Pending, .bool x.Auto], 0⟩] ∧ Pt 1 c y1 x.G := by
  obtain ⟨b', y1, e1, e2, h0⟩ := R.place_Pen.ob k x hx
  rw [ht] at e1
  cases e1
  exact ⟨y1, e2, h0⟩
theorem Rel.put_place_Pen {c : Cx} {s s' : Sto} {G : Gm} {F : List En} {k : Nat} {E' : List En} {x' : G_place_Pen} (O : Own c (setG G 2 k E') F) (R : Rel c s G) (h : s.set_place_Pen k x' = some s') (hY : Y_place_Pen c (c.t 2 k) E' x') :
    ∃ G', Own c G' F ∧ Rel c s' G' ∧ G' 2 k = E' ∧ ∀ G0, Adds G0 G → G0 2 k = [] → Adds G0 G' := by
  unfold Sto.set_place_Pen at h
  split at h
  · rename_i hk
    cases h
    refine ⟨_, O, ⟨R.row_Row.other (by decide), R.grid_Grid.other (by decide), R.place_Pen.set hk hY, R.widen_Cluster.other (by decide), R.feed_Feeder.other (by decide), R.screen_Screen.other (by decide)⟩, setG_same _ _ _ _, fun G0 h1 h2 g' k' h3 => ?_⟩
    rw [setG_ne (by rintro ⟨rfl, rfl⟩; exact h3 h2)]
    exact h1 g' k' h3
  · cases h
theorem Rel.new_place_Pen {c : Cx} {s : Sto} {G : Gm} {F E : List En} {x : G_place_Pen} {b : Nat} (O : Own c G (E ++ F)) (R : Rel c s G) (hY : ∀ c', c.le c' → Y_place_Pen c' (some b) E x) :
    ∃ c' G', (c'.w = c.w ∧ c'.A = c.A) ∧ c.le c' ∧ c'.t 2 s.place_Pen.length = some b ∧ Own c' G' F ∧ Rel c' (s.add_place_Pen x) G' ∧ G' 2 s.place_Pen.length = E ∧ G 2 s.place_Pen.length = [] ∧ Adds G G' := by
  have hE := R.place_Pen.no _ (Nat.le_refl _)
  have hne : E ≠ [] := by
    obtain ⟨_, _, _, rfl, _⟩ := hY c (Cx.le.refl c)
    simp
  obtain ⟨c', hw, hle, ht, O'⟩ := Own.newObj (b := b) O hE hne
  have R' := R.mono hle
  refine ⟨c', _, hw, hle, ht, O', ⟨R'.row_Row.other (by decide), R'.grid_Grid.other (by decide), R'.place_Pen.new (by rw [ht]; exact hY c' hle), R'.widen_Cluster.other (by decide), R'.feed_Feeder.other (by decide), R'.screen_Screen.other (by decide)⟩, setG_same _ _ _ _, hE, fun g' k' h3 => ?_⟩
  exact setG_ne (by rintro ⟨rfl, rfl⟩; exact h3 hE)
theorem Rel.open_widen_Cluster {c : Cx} {s : Sto} {G : Gm} {k b : Nat} {x : G_widen_Cluster} (R : Rel c s G) (hx : s.widen_Cluster[k]? = some x) (ht : c.t 3 k = some b) : G 3 k = [⟨.pointer (some ⟨b, 0, none⟩), 133, [.int .i64 x.at_.Row, .int .i64 x.at_.Col, .bool x.at_.Pending, .int .i64 x.wide, .int .i32 x.text.text.1, .int .i32 x.text.text.2.1, .int .i32 x.text.text.2.2.1, .int .i32 x.text.text.2.2.2.1, .int .i32 x.text.text.2.2.2.2.1, .int .i32 x.text.text.2.2.2.2.2.1, .int .i32 x.text.text.2.2.2.2.2.2.1, .int .i32 x.text.text.2.2.2.2.2.2.2.1, .int .i32 x.text.text.2.2.2.2.2.2.2.2.1, .int .i32 x.text.text.2.2.2.2.2.2.2.2.2.1, .int .i32 x.text.text.2.2.2.2.2.2.2.2.2.2.1, .int .i32 x.text.text.2.2.2.2.2.2.2.2.2.2.2.1, .int .i32 x.text.text.2.2.2.2.2.2.2.2.2.2.2.2.1, .int .i32 x.text.text.2.2.2.2.2.2.2.2.2.2.2.2.2.1, .int .i32 x.text.text.2.2.2.2.2.2.2.2.2.2.2.2.2.2.1, .int .i32 x.text.text.2.2.2.2.2.2.2.2.2.2.2.2.2.2.2, .int .i64 x.text.n, .bool x.gauge.some, .bool x.gauge.pict, .bool x.gauge.wide], 0⟩] := by
  obtain ⟨b', e1, e2⟩ := R.widen_Cluster.ob k x hx
  rw [ht] at e1
  cases e1
  exact e2
theorem Rel.put_widen_Cluster {c : Cx} {s s' : Sto} {G : Gm} {F : List En} {k : Nat} {E' : List En} {x' : G_widen_Cluster} (O : Own c (setG G 3 k E') F) (R : Rel c s G) (h : s.set_widen_Cluster k x' = some s') (hY : Y_widen_Cluster c (c.t 3 k) E' x') :
    ∃ G', Own c G' F ∧ Rel c s' G' ∧ G' 3 k = E' ∧ ∀ G0, Adds G0 G → G0 3 k = [] → Adds G0 G' := by
  unfold Sto.set_widen_Cluster at h
  split at h
  · rename_i hk
    cases h
    refine ⟨_, O, ⟨R.row_Row.other (by decide), R.grid_Grid.other (by decide), R.place_Pen.other (by decide), R.widen_Cluster.set hk hY, R.feed_Feeder.other (by decide), R.screen_Screen.other (by decide)⟩, setG_same _ _ _ _, fun G0 h1 h2 g' k' h3 => ?_⟩
    rw [setG_ne (by rintro ⟨rfl, rfl⟩; exact h3 h2)]
    exact h1 g' k' h3
  · cases h
theorem Rel.new_widen_Cluster {c : Cx} {s : Sto} {G : Gm} {F E : List En} {x : G_widen_Cluster} {b : Nat} (O : Own c G (E ++ F)) (R : Rel c s G) (hY : ∀ c', c.le c' → Y_widen_Cluster c' (some b) E x) :
    ∃ c' G', (c'.w = c.w ∧ c'.A = c.A) ∧ c.le c' ∧ c'.t 3 s.widen_Cluster.length = some b ∧ Own c' G' F ∧ Rel c' (s.add_widen_Cluster x) G' ∧ G' 3 s.widen_Cluster.length = E ∧ G 3 s.widen_Cluster.length = [] ∧ Adds G G' := by
  have hE := R.widen_Cluster.no _ (Nat.le_refl _)
  have hne : E ≠ [] := by
    obtain ⟨_, _, rfl, _⟩ := hY c (Cx.le.refl c)
    simp
  obtain ⟨c', hw, hle, ht, O'⟩ := Own.newObj (b := b) O hE hne
  have R' := R.mono hle
  refine ⟨c', _, hw, hle, ht, O', ⟨R'.row_Row.other (by decide), R'.grid_Grid.other (by decide), R'.place_Pen.other (by decide), R'.widen_Cluster.new (by rw [ht]; exact hY c' hle), R'.feed_Feeder.other (by decide), R'.screen_Screen.other (by decide)⟩, setG_same _ _ _ _, hE, fun g' k' h3 => ?_⟩
  exact setG_ne (by rintro ⟨rfl, rfl⟩; exact h3 hE)
theorem Rel.open_feed_Feeder {c : Cx} {s : Sto} {G : Gm} {k b : Nat} {x : G_feed_Feeder} (R : Rel c s G) (hx : s.feed_Feeder[k]? = some x) (ht : c.t 4 k = some b) : ∃ (y1 : Value) (y2 : Value), G 4 k = [⟨.pointer (some ⟨b, 0, none⟩), 158, [y1, .int .i64 x.dec.held, .int .i64 x.dec.needs, .int .u8 x.dec.lo, .int .u8 x.dec.hi, .int .i64 x.dec.bits, .bool x.seg.some, .int .i64 x.seg.last, .int .i64 x.seg.pict, .int .i64 x.seg.conj, .bool x.seg.odd, y2], 0⟩] ∧ Pt 2 c y1 x.pen ∧ Pt 3 c y2 x.open_ := by
  obtain ⟨b', y1, y2, e1, e2, h0, h1⟩ := R.feed_Feeder.ob k x hx
  rw [ht] at e1
  cases e1
  exact ⟨y1, y2, e2, h0, h1⟩
theorem Rel.put_feed_Feeder {c : Cx} {s s' : Sto} {G : Gm} {F : List En} {k : Nat} {E' : List En} {x' : G_feed_Feeder} (O : Own c (setG G 4 k E') F) (R : Rel c s G) (h : s.set_feed_Feeder k x' = some s') (hY : Y_feed_Feeder c (c.t 4 k) E' x') :
    ∃ G', Own c G' F ∧ Rel c s' G' ∧ G' 4 k = E' ∧ ∀ G0, Adds G0 G → G0 4 k = [] → Adds G0 G' := by
  unfold Sto.set_feed_Feeder at h
  split at h
  · rename_i hk
    cases h
    refine ⟨_, O, ⟨R.row_Row.other (by decide), R.grid_Grid.other (by decide), R.place_Pen.other (by decide), R.widen_Cluster.other (by decide), R.feed_Feeder.set hk hY, R.screen_Screen.other (by decide)⟩, setG_same _ _ _ _, fun G0 h1 h2 g' k' h3 => ?_⟩
    rw [setG_ne (by rintro ⟨rfl, rfl⟩; exact h3 h2)]
    exact h1 g' k' h3
  · cases h
theorem Rel.new_feed_Feeder {c : Cx} {s : Sto} {G : Gm} {F E : List En} {x : G_feed_Feeder} {b : Nat} (O : Own c G (E ++ F)) (R : Rel c s G) (hY : ∀ c', c.le c' → Y_feed_Feeder c' (some b) E x) :
    ∃ c' G', (c'.w = c.w ∧ c'.A = c.A) ∧ c.le c' ∧ c'.t 4 s.feed_Feeder.length = some b ∧ Own c' G' F ∧ Rel c' (s.add_feed_Feeder x) G' ∧ G' 4 s.feed_Feeder.length = E ∧ G 4 s.feed_Feeder.length = [] ∧ Adds G G' := by
  have hE := R.feed_Feeder.no _ (Nat.le_refl _)
  have hne : E ≠ [] := by
    obtain ⟨_, _, _, _, rfl, _⟩ := hY c (Cx.le.refl c)
    simp
  obtain ⟨c', hw, hle, ht, O'⟩ := Own.newObj (b := b) O hE hne
  have R' := R.mono hle
  refine ⟨c', _, hw, hle, ht, O', ⟨R'.row_Row.other (by decide), R'.grid_Grid.other (by decide), R'.place_Pen.other (by decide), R'.widen_Cluster.other (by decide), R'.feed_Feeder.new (by rw [ht]; exact hY c' hle), R'.screen_Screen.other (by decide)⟩, setG_same _ _ _ _, hE, fun g' k' h3 => ?_⟩
  exact setG_ne (by rintro ⟨rfl, rfl⟩; exact h3 hE)
theorem Rel.open_screen_Screen {c : Cx} {s : Sto} {G : Gm} {k b : Nat} {x : G_screen_Screen} (R : Rel c s G) (hx : s.screen_Screen[k]? = some x) (ht : c.t 5 k = some b) : ∃ (y1 : Value) (y2 : Value), G 5 k = [⟨.pointer (some ⟨b, 0, none⟩), 176, [y1, y2], 0⟩] ∧ Pt 4 c y1 x.Feeder ∧ Pt 2 c y2 x.pen := by
  obtain ⟨b', y1, y2, e1, e2, h0, h1⟩ := R.screen_Screen.ob k x hx
  rw [ht] at e1
  cases e1
  exact ⟨y1, y2, e2, h0, h1⟩
theorem Rel.put_screen_Screen {c : Cx} {s s' : Sto} {G : Gm} {F : List En} {k : Nat} {E' : List En} {x' : G_screen_Screen} (O : Own c (setG G 5 k E') F) (R : Rel c s G) (h : s.set_screen_Screen k x' = some s') (hY : Y_screen_Screen c (c.t 5 k) E' x') :
    ∃ G', Own c G' F ∧ Rel c s' G' ∧ G' 5 k = E' ∧ ∀ G0, Adds G0 G → G0 5 k = [] → Adds G0 G' := by
  unfold Sto.set_screen_Screen at h
  split at h
  · rename_i hk
    cases h
    refine ⟨_, O, ⟨R.row_Row.other (by decide), R.grid_Grid.other (by decide), R.place_Pen.other (by decide), R.widen_Cluster.other (by decide), R.feed_Feeder.other (by decide), R.screen_Screen.set hk hY⟩, setG_same _ _ _ _, fun G0 h1 h2 g' k' h3 => ?_⟩
    rw [setG_ne (by rintro ⟨rfl, rfl⟩; exact h3 h2)]
    exact h1 g' k' h3
  · cases h
theorem Rel.new_screen_Screen {c : Cx} {s : Sto} {G : Gm} {F E : List En} {x : G_screen_Screen} {b : Nat} (O : Own c G (E ++ F)) (R : Rel c s G) (hY : ∀ c', c.le c' → Y_screen_Screen c' (some b) E x) :
    ∃ c' G', (c'.w = c.w ∧ c'.A = c.A) ∧ c.le c' ∧ c'.t 5 s.screen_Screen.length = some b ∧ Own c' G' F ∧ Rel c' (s.add_screen_Screen x) G' ∧ G' 5 s.screen_Screen.length = E ∧ G 5 s.screen_Screen.length = [] ∧ Adds G G' := by
  have hE := R.screen_Screen.no _ (Nat.le_refl _)
  have hne : E ≠ [] := by
    obtain ⟨_, _, _, _, rfl, _⟩ := hY c (Cx.le.refl c)
    simp
  obtain ⟨c', hw, hle, ht, O'⟩ := Own.newObj (b := b) O hE hne
  have R' := R.mono hle
  refine ⟨c', _, hw, hle, ht, O', ⟨R'.row_Row.other (by decide), R'.grid_Grid.other (by decide), R'.place_Pen.other (by decide), R'.widen_Cluster.other (by decide), R'.feed_Feeder.other (by decide), R'.screen_Screen.new (by rw [ht]; exact hY c' hle)⟩, setG_same _ _ _ _, hE, fun g' k' h3 => ?_⟩
  exact setG_ne (by rintro ⟨rfl, rfl⟩; exact h3 hE)
def Gl (n : List Nat) (c : Cx) : Prop := (∀ g, g ∈ n → ∃ v, RE 305 179 c v (.sent g)) ∧ ∀ g g', g ∈ n → g' ∈ n → g ≠ g' → ∀ a, Im c g 0 (.iface 305 (.pointer (some a))) → Im c g' 0 (.iface 305 (.pointer (some a))) → False
theorem Gl.mono {n : List Nat} {c c' : Cx} (h : Gl n c) (k : c.le c') : Gl n c' := by
  have key : ∀ g, g ∈ n → ∀ u, Im c' g 0 u → Im c g 0 u := fun g hg u hu => by
    obtain ⟨v, hv⟩ := h.1 g hg
    have h1 := hv.im
    have h2 := h1.mono k
    have h3 := h2.cell.symm.trans hu.cell
    cases h3
    exact h1
  exact ⟨fun g hg => (h.1 g hg).imp fun v hv => hv.mono k, fun g g' hg hg' hne a h1 h2 => h.2 g g' hg hg' hne a (key g hg _ h1) (key g' hg' _ h2)⟩
theorem Gl.m {n : List Nat} {c c' : Cx} (h : Gl n c) (k : c.le c' := by repeat (first | assumption | refine Cx.le.trans ?_ (by assumption))) : Gl n c' := h.mono k
theorem Gl.le {n m : List Nat} {c : Cx} (h : Gl n c) (k : ∀ g ∈ m, g ∈ n) : Gl m c := ⟨fun g hg => h.1 g (k g hg), fun g g' hg hg' => h.2 g g' (k g hg) (k g' hg')⟩
theorem Gl.get {n : List Nat} {c : Cx} (h : Gl n c) (g : Nat) (hg : g ∈ n) : ∃ v, RE 305 179 c v (.sent g) := h.1 g hg
end Go.Proofs.YthokmpbbkpjhbaaGreatDoor
