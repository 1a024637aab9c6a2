import Derived.Test.YtfhhpdggmefcoaaMr
import Derived.Test.YtfhhpdggmefcoaaProg
namespace Go.Proofs.Ytfhhpdggmefcoaa
open Go Go.Lt
set_option linter.unusedVariables false
structure G_api_Span where
  Lo : Int
  Hi : Int
  Val : Int

def R_api_Span : Rp G_api_Span where
  size := 3
  cells := fun _ l x => l = [.int .i64 x.Lo, .int .i64 x.Hi, .int .i64 x.Val]
  len := by
    intro c l x h
    obtain rfl := h
    rfl
  one := by
    intro c l x h v hv
    obtain rfl := h
    simp only [List.mem_cons, List.not_mem_nil, or_false] at hv
    rcases hv with rfl | rfl | rfl
    · rfl
    · rfl
    · rfl
  mono := by
    intro c c2 l x hc h
    obtain rfl := h
    exact rfl

structure G_utfdec_Dec where
  held : Int
  needs : Int
  lo : Int
  hi : Int
  bits : Int

def R_utfdec_Dec : Rp G_utfdec_Dec where
  size := 5
  cells := fun _ l x => l = [.int .i64 x.held, .int .i64 x.needs, .int .u8 x.lo, .int .u8 x.hi, .int .i64 x.bits]
  len := by
    intro c l x h
    obtain rfl := h
    rfl
  one := by
    intro c l x h v hv
    obtain rfl := h
    simp only [List.mem_cons, List.not_mem_nil, or_false] at hv
    rcases hv with rfl | rfl | rfl | rfl | rfl
    · rfl
    · rfl
    · rfl
    · rfl
    · rfl
  mono := by
    intro c c2 l x hc h
    obtain rfl := h
    exact rfl

structure G_linotyperef04_Got where
  R : Int
  At : Int
  Len : Int
  Known : Int
  Bad : Bool

def R_linotyperef04_Got : Rp G_linotyperef04_Got where
  size := 5
  cells := fun _ l x => l = [.int .i32 x.R, .int .i64 x.At, .int .i64 x.Len, .int .i64 x.Known, .bool x.Bad]
  len := by
    intro c l x h
    obtain rfl := h
    rfl
  one := by
    intro c l x h v hv
    obtain rfl := h
    simp only [List.mem_cons, List.not_mem_nil, or_false] at hv
    rcases hv with rfl | rfl | rfl | rfl | rfl
    · rfl
    · rfl
    · rfl
    · rfl
    · rfl
  mono := by
    intro c c2 l x hc h
    obtain rfl := h
    exact rfl

def Adds (G G' : Gm) : Prop := ∀ g k, G g k ≠ [] → G' g k = G g k
theorem Adds.refl (G : Gm) : Adds G G := fun _ _ _ => rfl
theorem Adds.trans {a b c : Gm} (h : Adds a b) (k : Adds b c) : Adds a c := fun g i hi => (k g i (by rw [h g i hi]; exact hi)).trans (h g i hi)
theorem Adds.get {G G' : Gm} {g k : Nat} {e : En} {l : List En} (h : Adds G G') (hE : G g k = e :: l) : G' g k = e :: l := (h g k (by rw [hE]; exact List.cons_ne_nil _ _)).trans hE
theorem Adds.nil {G G' : Gm} {g k : Nat} (h : Adds G G') (hE : G' g k = []) : G g k = [] := by
  by_cases hn : G g k = []
  · exact hn
  · rw [h g k hn] at hE; exact hE

abbrev Sto : Type := Unit

end Go.Proofs.Ytfhhpdggmefcoaa
