/-
  Strings, in our own walk kit: bytes made a string, strings held against one another. No condition; nothing of any program stands here.
-/
import Derived.Test.YtfhhpdggmefcoaaMq
import Derived.Laws.BytesString
namespace Go.Lt
/-- The string of some bytes. -/
def bstr (l : List Int) : ByteArray := ⟨(l.map fun x => UInt8.ofNat x.toNat).toArray⟩
def eqS (a b : ByteArray) : Bool := a.data.toList == b.data.toList
theorem run_eqS {P : Program} {ρ : Operand → Value} {o : Oper} {a b : ByteArray} {w : World} (hr : (execOp ρ o).run P w = .ok (.value (.bool (a.toList == b.toList))) w) : (execOp ρ o).run P w = .ok (.value (.bool (eqS a b))) w := by
  rw [hr, ByteArray.toList_eq, ByteArray.toList_eq]
  rfl
theorem run_neS {P : Program} {ρ : Operand → Value} {o : Oper} {a b : ByteArray} {w : World} (hr : (execOp ρ o).run P w = .ok (.value (.bool (!(a.toList == b.toList)))) w) : (execOp ρ o).run P w = .ok (.value (.bool (!eqS a b))) w := by
  rw [hr, ByteArray.toList_eq, ByteArray.toList_eq]
  rfl
theorem foldl_bstr : ∀ (l : List Int) (r : ByteArray), l.foldl (fun r n => r.push (UInt8.ofNat n.toNat)) r = ⟨r.data ++ (bstr l).data⟩
  | [], r => by simp [bstr]
  | x :: l, r => by
    rw [List.foldl_cons, foldl_bstr l]
    simp [bstr, ByteArray.push]
theorem run_bstr {P : Program} {c : Cx} {src dst e : TypeId} {v : Value} {xs : List Int} (hs : P.underlying src = some (.slice e)) (he : P.underlying e = some (.int .u8)) (hd : P.underlying dst = some .string) (h : Sl (RI .u8) c v xs) :
    (convert src dst v).run P c.w = .ok (.string (bstr xs)) c.w := by
  obtain ⟨a, cap, rfl, _, _, h4⟩ := h
  rw [run_convert_bytes_string c.w src dst e a xs.length cap hs he hd]
  cases xs with
  | nil =>
    cases a with
    | none => rfl
    | some ad =>
      have := run_bytesToString (P := P) c.w ad 0 cap [] (by simp [loadCells, loadCellsFrom])
      exact this
  | cons y t =>
    obtain ⟨b, off, l, rfl, _, _⟩ := h4 0 y rfl
    have hl := run_loadCells_list (P := P) (w := c.w) ⟨b, off, none⟩ ((y :: t).map (Value.int .u8)) (fun j v hj => by
      rw [List.getElem?_map, Option.map_eq_some_iff] at hj
      obtain ⟨x, hx, rfl⟩ := hj
      obtain ⟨b', off', l', e, hl, hc⟩ := h4 j x hx
      cases e
      have := (hc 0 _ (by rw [show l' = [.int .u8 x] from hl]; rfl)).cell
      rw [show off + j * (RI .u8).size + 0 = off + j by show off + j * 1 + 0 = off + j; omega] at this
      rw [Addr.add_lit]
      exact this)
    rw [List.length_map] at hl
    rw [run_bytesToString c.w ⟨b, off, none⟩ (y :: t).length cap (y :: t) hl, foldl_bstr, show ByteArray.empty.data = #[] from rfl, Array.empty_append]
end Go.Lt
