import Derived.Test.YthokmpbbkpjhbaaMp
import Derived.Test.YthokmpbbkpjhbaaProg
namespace Go.Proofs.Ythokmpbbkpjhbaa
open Go Go.Lt
set_option linter.unusedVariables false
structure G_api_Prop where
  Break : Int
  Pict : Bool
  Conj : Int
  East : Int

def R_api_Prop : Rp G_api_Prop where
  size := 4
  cells := fun _ l x => l = [.int .i64 x.Break, .bool x.Pict, .int .i64 x.Conj, .int .i64 x.East]
  len := by
    intro c l x h
    obtain rfl := h
    rfl
  one := by
    intro c l x h v hv
    obtain rfl := h
    simp only [List.mem_cons, List.not_mem_nil, or_false] at hv
    rcases hv with rfl | rfl | rfl | rfl
    · rfl
    · rfl
    · rfl
    · rfl
  mono := by
    intro c c2 l x hc h
    obtain rfl := h
    exact rfl

def RA2_i32 : Rp (Int × Int) where
  size := 2
  cells := fun _ l x => l = [.int .i32 x.1, .int .i32 x.2]
  len := by
    intro c l x h
    obtain rfl := h
    rfl
  one := by
    intro c l x h v hv
    obtain rfl := h
    simp only [List.mem_cons, List.not_mem_nil, or_false] at hv
    rcases hv with rfl | rfl
    · rfl
    · rfl
  mono := fun _ h => h
def RA2_i64 : Rp (Int × Int) where
  size := 2
  cells := fun _ l x => l = [.int .i64 x.1, .int .i64 x.2]
  len := by
    intro c l x h
    obtain rfl := h
    rfl
  one := by
    intro c l x h v hv
    obtain rfl := h
    simp only [List.mem_cons, List.not_mem_nil, or_false] at hv
    rcases hv with rfl | rfl
    · rfl
    · rfl
  mono := fun _ h => h
def RA3_i64 : Rp (Int × Int × Int) where
  size := 3
  cells := fun _ l x => l = [.int .i64 x.1, .int .i64 x.2.1, .int .i64 x.2.2]
  len := by
    intro c l x h
    obtain rfl := h
    rfl
  one := by
    intro c l x h v hv
    obtain rfl := h
    simp only [List.mem_cons, List.not_mem_nil, or_false] at hv
    rcases hv with rfl | rfl | rfl
    · rfl
    · rfl
    · rfl
  mono := fun _ h => h
def Adds (G G' : Gm) : Prop := ∀ g k, G g k ≠ [] → G' g k = G g k
theorem Adds.refl (G : Gm) : Adds G G := fun _ _ _ => rfl
theorem Adds.trans {a b c : Gm} (h : Adds a b) (k : Adds b c) : Adds a c := fun g i hi => (k g i (by rw [h g i hi]; exact hi)).trans (h g i hi)
theorem Adds.get {G G' : Gm} {g k : Nat} {e : En} {l : List En} (h : Adds G G') (hE : G g k = e :: l) : G' g k = e :: l := (h g k (by rw [hE]; exact List.cons_ne_nil _ _)).trans hE
theorem Adds.nil {G G' : Gm} {g k : Nat} (h : Adds G G') (hE : G' g k = []) : G g k = [] := by
  by_cases hn : G g k = []
  · exact hn
  · rw [h g k hn] at hE; exact hE

end Go.Proofs.Ythokmpbbkpjhbaa
