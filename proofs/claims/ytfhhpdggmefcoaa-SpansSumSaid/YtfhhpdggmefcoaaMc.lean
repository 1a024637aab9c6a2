import Derived.Test.YtfhhpdggmefcoaaMr
import Derived.Test.YtfhhpdggmefcoaaProg
import Derived.Test.YtfhhpdggmefcoaaMy
import Derived.Shelf.Sort.Plain
import Derived.Shelf.Slices.In.SortNone
import Derived.Shelf.Slices.CompactI
import Derived.Shelf.Bytes.SlJoin
namespace Go.Proofs.Ytfhhpdggmefcoaa
open Go Go.Lt
set_option maxRecDepth 10000
set_option linter.unusedVariables false
attribute [local irreducible] W WL AC
/-! ### slices.Sort and slices.Compact of ints (the library's contracts) -/
/-- A row of ints of the call's own is laid anew; the world draws, and new blocks lie behind. -/
theorem Own.putRow {c : Cx} {G : Gm} {F : List En} {E : TypeId} {vs : List Value} {xs : List Int} {b cap : Nat} (O : Own c G (es true (RI .i64) (.slice (some ⟨b, 0, none⟩) xs.length cap) E vs xs :: F)) (hc : xs.length ≤ cap ∧ cap ≤ maxLen ∧ cap ≤ vs.length)
    (d ys : List Int) (hd : d.length = xs.length) (hy : ∃ z, d = ys ++ z) (n : Nat) (os : Array Obj) :
    ∃ c' us, c'.w = Sort.grow (Sort.putRow (Value.int .i64) (Sort.ahead c.w n) b 0 d.toArray) os ∧ c.le c' ∧ Own c' G (es true (RI .i64) (.slice (some ⟨b, 0, none⟩) ys.length cap) E us ys :: F) ∧ OA (RI .i64) c' (.slice (some ⟨b, 0, none⟩) ys.length cap) us ys := by
  obtain ⟨hb, hA⟩ := O.on 0 rfl b rfl
  simp only [es, cond_true] at hb hA
  have hlt : b < c.w.heap.size := (Array.getElem?_eq_some_iff.1 hb).1
  obtain ⟨us, hus⟩ : ∃ us, us = (Sort.putCells (Value.int .i64) 0 d.toArray vs.toArray).toList := ⟨_, rfl⟩
  have hul : us.length = vs.length := by rw [hus]; simp [Sort.putCells]
  have hget : ∀ i, i < d.length → us[i]? = some (.int .i64 d[i]!) := fun i hi => by
    have hv : i < vs.length := by omega
    rw [hus]
    simp only [Sort.putCells, Array.getElem?_toList, Array.getElem?_mapIdx, List.getElem?_toArray, List.getElem?_eq_getElem hv, Option.map_some, List.size_toArray, Nat.zero_le, Nat.zero_add, true_and, if_pos hi, Nat.sub_zero]
    simp [hi]
  have hh : ∀ k, k < c.w.heap.size → (Sort.grow (Sort.putRow (Value.int .i64) (Sort.ahead c.w n) b 0 d.toArray) os).heap[k]? = if b = k then some (.cells us.toArray E (0, 0)) else c.w.heap[k]? := fun k hk => by
    simp only [Sort.grow, Sort.putRow, Sort.mapBlock, Sort.ahead]
    rw [Array.getElem?_append_left (by simpa using hk), Array.getElem?_modify]
    split
    · rename_i e
      subst e
      rw [hb]
      simp [Sort.onCells, hus]
    · rfl
  refine ⟨⟨_, fun k o => k < c.w.heap.size ∧ c.A k o, c.t⟩, us, rfl, ?_⟩
  have hbut : c.but (fun k => k = b) ⟨Sort.grow (Sort.putRow (Value.int .i64) (Sort.ahead c.w n) b 0 d.toArray) os, fun k o => k < c.w.heap.size ∧ c.A k o, c.t⟩ := by
    have hne : ∀ k o, ¬ c.A k o → b ≠ k := fun k o h e => h (by subst e; exact (hA o).2 (Nat.zero_le _))
    have hk : ∀ k, k < c.w.heap.size → b ≠ k → (Sort.grow (Sort.putRow (Value.int .i64) (Sort.ahead c.w n) b 0 d.toArray) os).heap[k]? = c.w.heap[k]? := fun k h1 h2 => by rw [hh k h1, if_neg h2]
    refine ⟨⟨rfl, rfl, by simp [Sort.grow, Sort.putRow, Sort.mapBlock, Sort.ahead], fun k o h1 h2 => ⟨World.cell?_of_block (w := c.w) (a := ⟨k, o, none⟩) (hk k h1 (hne k o h2)), fun h => h2 h.2⟩, fun k h1 h2 => hk k h1 (hne k 0 (h2 0)), fun a h1 h2 => ?_, fun _ _ _ h => h⟩, rfl, fun k h1 h2 => ⟨hk k h1 (Ne.symm h2), fun o => ⟨fun h => h.2, fun h => ⟨h1, h⟩⟩⟩⟩
    simp only [World.frozen?, hk _ h1 (hne _ _ h2)]
  refine ⟨hbut.le, Own.set O 0 rfl hbut (fun b' hb' => by rw [hb']; rfl) (e' := es true (RI .i64) (.slice (some ⟨b, 0, none⟩) ys.length cap) E us ys) (fun b' hb' => ?_) (fun b' hb' => .inl hb'), by decide, .inr ⟨b, cap, rfl, ?_, hc.2.1, ?_⟩, fun i x hx => ?_⟩
  · simp only [es, blk, Option.some.injEq] at hb'
    subst hb'
    exact ⟨(hh b hlt).trans (by rw [if_pos rfl]; rfl), fun o => ⟨fun _ => Nat.zero_le _, fun _ => ⟨hlt, (hA o).2 (Nat.zero_le _)⟩⟩⟩
  · obtain ⟨z, rfl⟩ := hy
    rw [List.length_append] at hd
    omega
  · show cap * 1 ≤ us.length
    omega
  · obtain ⟨z, rfl⟩ := hy
    have hi := (List.getElem?_eq_some_iff.1 hx).1
    have h1 := hget i (by rw [List.length_append]; omega)
    have h2 : (ys ++ z)[i]! = x := by
      rw [getElem!_pos _ i (by rw [List.length_append]; omega), List.getElem_append_left hi]
      exact (List.getElem?_eq_some_iff.1 hx).2
    rw [h2] at h1
    show (us.drop (i * 1)).take 1 = [.int .i64 x]
    rw [Nat.mul_one]
    obtain ⟨h3, h4⟩ := List.getElem?_eq_some_iff.1 h1
    rw [List.drop_eq_getElem_cons h3, h4]
    rfl
theorem OA.holds {c : Cx} {G : Gm} {F : List En} {E : TypeId} {vs : List Value} {xs : List Int} {b cap : Nat} (O : Own c G (es true (RI .i64) (.slice (some ⟨b, 0, none⟩) xs.length cap) E vs xs :: F)) (hc : cap ≤ vs.length ∧ xs.length ≤ cap) (h : AR (RI .i64) c vs xs) : Sort.Holds (Value.int .i64) c.w b 0 xs.toArray := fun j hj => by
  obtain ⟨hb, _⟩ := O.on 0 rfl b rfl
  simp only [es, cond_true] at hb
  have hj' : j < xs.length := by simpa using hj
  have h1 : (vs.drop (j * 1)).take 1 = [.int .i64 xs[j]] := h j xs[j] (List.getElem?_eq_getElem hj')
  rw [Nat.mul_one] at h1
  have hv : j < vs.length := by omega
  rw [List.drop_eq_getElem_cons hv] at h1
  simp only [List.take_succ_cons, List.take_zero, List.cons.injEq, and_true] at h1
  refine ⟨?_, ?_⟩
  · rw [Nat.zero_add, cell_of_row _ _ _ _ _ _ hb, List.getElem?_toArray, List.getElem?_eq_getElem hv, h1]
    simp [hj']
  · simp [World.frozen?, hb]
/-- Numbers, rising. -/
def insI (x : Int) : List Int → List Int
  | [] => [x]
  | y :: l => if x ≤ y then x :: y :: l else y :: insI x l
def srt : List Int → List Int
  | [] => []
  | x :: l => insI x (srt l)
theorem insI_perm (x : Int) (l : List Int) : (insI x l).Perm (x :: l) := by
  induction l with
  | nil => exact .refl _
  | cons y l ih =>
    unfold insI
    split
    · exact .refl _
    · exact (ih.cons y).trans (.swap x y l)
theorem srt_perm (l : List Int) : (srt l).Perm l := by
  induction l with
  | nil => exact .refl _
  | cons x l ih => exact (insI_perm x _).trans (ih.cons x)
theorem insI_sorted (x : Int) (l : List Int) (h : l.Pairwise (fun a b => a ≤ b)) : (insI x l).Pairwise (fun a b => a ≤ b) := by
  induction l with
  | nil => simp [insI]
  | cons y l ih =>
    rw [List.pairwise_cons] at h
    unfold insI
    split
    · rename_i hxy
      rw [List.pairwise_cons, List.pairwise_cons]
      refine ⟨fun z hz => ?_, h.1, h.2⟩
      rcases List.mem_cons.1 hz with rfl | hz
      · exact hxy
      · exact Int.le_trans hxy (h.1 z hz)
    · rename_i hxy
      rw [List.pairwise_cons]
      refine ⟨fun z hz => ?_, ih h.2⟩
      rcases List.mem_cons.1 ((insI_perm x l).mem_iff.1 hz) with rfl | hz
      · omega
      · exact h.1 z hz
theorem srt_sorted (l : List Int) : (srt l).Pairwise (fun a b => a ≤ b) := by
  induction l with
  | nil => exact .nil
  | cons x l ih => exact insI_sorted x _ ih
theorem srt_eq (l : List Int) : (l.mergeSort fun x y => decide (x ≤ y)) = srt l := by
  refine List.Perm.eq_of_pairwise (le := fun a b : Int => a ≤ b) (fun a b _ _ h1 h2 => by omega) ?_ (srt_sorted l) ((List.mergeSort_perm l _).trans (srt_perm l).symm)
  refine (List.pairwise_mergeSort (fun a b c h1 h2 => ?_) (fun a b => ?_) l).imp fun h => by simpa using h
  · simp only [decide_eq_true_eq] at h1 h2 ⊢; omega
  · simp only [Bool.or_eq_true, decide_eq_true_eq]; omega
def f_slices_Sort (p0 : List Int) : Option (List Int) := if p0.length ≤ 1099511627776 then some (srt p0) else none
def lay_sort_ren : Go.Shelf.Ren := ⟨fun | 0 => 0 | 1 => 1 | 2 => 2 | 125 => 36 | 128 => 53 | 129 => 54 | 189 => 26 | 215 => 65 | 216 => 50 | 257 => 35 | 277 => 37 | 294 => 44 | 295 => 45 | 296 => 46 | 297 => 47 | 298 => 48 | 299 => 49 | 300 => 51 | 301 => 52 | 328 => 60 | 329 => 61 | 330 => 62 | 331 => 63 | 332 => 64 | 343 => 70 | 347 => 71 | 348 => 72 | 349 => 73 | 350 => 74 | 351 => 75 | 352 => 76 | 353 => 77 | 354 => 78 | 355 => 79 | 356 => 80 | 357 => 81 | 358 => 82 | 359 => 83 | 360 => 84 | 361 => 85 | 366 => 86 | n => n, fun | 0 => 0 | 1 => 1 | 2 => 2 | 3 => 3 | 4 => 4 | 5 => 5 | 6 => 6 | 7 => 7 | 8 => 8 | 9 => 9 | 10 => 10 | 11 => 11 | 12 => 12 | 13 => 13 | 14 => 14 | 15 => 15 | 16 => 16 | 17 => 17 | 18 => 18 | 19 => 19 | 20 => 20 | 21 => 21 | 28 => 23 | 35 => 47 | 37 => 22 | 38 => 28 | 46 => 62 | 47 => 61 | 48 => 95 | 51 => 82 | 52 => 81 | 53 => 84 | 54 => 83 | 80 => 102 | 81 => 66 | 99 => 48 | 111 => 88 | 112 => 77 | 127 => 111 | 131 => 79 | 134 => 60 | 164 => 116 | 166 => 63 | 181 => 72 | 182 => 73 | 183 => 74 | 184 => 75 | 185 => 76 | 186 => 78 | 187 => 80 | 218 => 89 | 219 => 90 | 220 => 91 | 221 => 92 | 222 => 93 | 223 => 94 | 228 => 99 | 229 => 100 | 230 => 101 | 238 => 103 | 239 => 104 | 240 => 105 | 241 => 106 | 242 => 107 | 243 => 108 | 244 => 109 | 245 => 110 | 246 => 112 | 247 => 113 | 248 => 114 | 249 => 115 | n => n, fun n => n⟩
theorem lay_sort : Go.Proofs.Lays.n189 Try.prog lay_sort_ren := by
  constructor <;> first | kernel_rfl | (intro w; kernel_rfl)

theorem c_slices_Sort {c0 : Cx} {G : Gm} {F : List En} {v1 : Value} {u1 : List Value} (p0 : List Int) (O0 : Own c0 G (es true (RI .i64) v1 3 u1 p0 :: F)) (h1 : OA (RI .i64) c0 v1 u1 p0) {r : List Int} (H : f_slices_Sort p0 = some r) :
    Calls Try.prog 26 #[v1] c0.w (Post c0 fun c v => ∃ y1 : List Value, Own c G (es true (RI .i64) v1 3 y1 r :: F) ∧ v = .tuple #[] ∧ OA (RI .i64) c v1 y1 r) := by
  unfold f_slices_Sort at H
  split at H
  case isFalse => cases H
  rename_i hfar
  obtain rfl := Option.some.inj H
  have hlen : (srt p0).length = p0.length := (srt_perm p0).length_eq
  rcases h1.2.1 with ⟨rfl, rfl⟩ | ⟨g, cap, rfl, a1, a2, a3⟩
  · refine (Go.Proofs.Any.slices_Sort_int_none lay_sort none 0 c0.w).mono ?_
    rintro e w' ⟨rfl, rfl⟩
    exact ⟨_, c0, rfl, rfl, Cx.le.refl _, u1, O0, rfl, h1⟩
  · have a3' : cap ≤ u1.length := by have : cap * 1 ≤ u1.length := a3; omega
    refine (Go.Proofs.Any.slices_Sort_int lay_sort g 0 cap p0 c0.w (OA.holds O0 ⟨a3', a1⟩ h1.2.2) (Array.getElem?_eq_some_iff.1 (O0.on 0 rfl g rfl).1).1 (by omega)).mono ?_
    rintro e w' ⟨rfl, n, os, rfl⟩
    rw [srt_eq]
    obtain ⟨c', us, e1, e2, e3, e4⟩ := Own.putRow O0 ⟨a1, a2, a3'⟩ (srt p0) (srt p0) hlen ⟨[], by simp⟩ n os
    rw [hlen] at e3 e4
    exact ⟨_, c', rfl, e1.symm, e2, us, e3, rfl, e4⟩

/-- Of equal numbers beside one another the first. -/
def cmpA (p : Int) : List Int → List Int
  | [] => []
  | y :: l => if y = p then cmpA p l else y :: cmpA y l
def cmpt : List Int → List Int
  | [] => []
  | x :: l => x :: cmpA x l
theorem cmpA_snoc (p : Int) (l : List Int) (x : Int) : cmpA p (l ++ [x]) = cmpA p l ++ (if (p :: l).getLast? = some x then [] else [x]) := by
  induction l generalizing p with
  | nil => by_cases h : x = p <;> simp [cmpA, h, eq_comm]
  | cons y l ih =>
    have h2 : (p :: y :: l).getLast? = (y :: l).getLast? := by simp [List.getLast?_cons_cons]
    rw [List.cons_append]
    by_cases h : y = p
    · subst h
      simp only [cmpA, if_pos]
      rw [ih, h2]
    · simp only [cmpA, if_neg h]
      rw [ih, h2, List.cons_append]
theorem cmpt_snoc (l : List Int) (x : Int) : cmpt (l ++ [x]) = cmpt l ++ (if l.getLast? = some x then [] else [x]) := by
  cases l with
  | nil => simp [cmpt, cmpA]
  | cons y l =>
    rw [List.cons_append]
    simp only [cmpt]
    rw [cmpA_snoc, List.cons_append]
theorem compact_eq (l : List Int) : Lib.compact l = cmpt l := by
  have key : ∀ m, m ≤ l.length → Lib.compactUpTo l.toArray m = cmpt (l.take m) := by
    intro m
    induction m with
    | zero => intro _; rfl
    | succ m ih =>
      intro hm
      have hx : l.toArray[m]! = l[m] := by simp [show m < l.length by omega]
      rw [Lib.compactUpTo_succ, ih (by omega), List.take_succ_eq_append_getElem (show m < l.length by omega), cmpt_snoc, hx]
      congr 1
      cases m with
      | zero => simp [Lib.keeps]
      | succ k =>
        have hy : l.toArray[k]! = l[k] := by simp [show k < l.length by omega]
        have hg : (l.take (k + 1)).getLast? = some l[k] := by
          rw [List.getLast?_eq_getElem?, List.length_take, Nat.min_eq_left (by omega), Nat.add_sub_cancel, List.getElem?_take, if_pos (by omega), List.getElem?_eq_getElem (by omega)]
        rw [hg]
        by_cases h : l[k + 1] = l[k]
        · rw [Lib.keeps_neg (by omega) (by rw [hx, Nat.add_sub_cancel, hy, h])]
          simp [h]
        · rw [Lib.keeps_pos (by rw [hx, Nat.add_sub_cancel, hy]; exact h)]
          simp [Ne.symm h]
  have := key l.length (Nat.le_refl _)
  rw [List.take_length] at this
  exact this
theorem cmpA_len (p : Int) (l : List Int) : (cmpA p l).length ≤ l.length := by
  induction l generalizing p with
  | nil => simp [cmpA]
  | cons y l ih =>
    unfold cmpA
    split
    · have := ih p; simp; omega
    · have := ih y; simp; omega
theorem cmpt_len (l : List Int) : (cmpt l).length ≤ l.length := by
  cases l with
  | nil => simp [cmpt]
  | cons x l => have := cmpA_len x l; simp [cmpt]; omega
def f_slices_Compact (p0 : List Int) : Option (List Int) := some (cmpt p0)
def lay_compact_ren : Go.Shelf.Ren := ⟨fun | 0 => 0 | 1 => 1 | 2 => 2 | 20 => 43 | 31 => 50 | 37 => 65 | 40 => 71 | 41 => 72 | 42 => 73 | 43 => 74 | 44 => 75 | 45 => 76 | 46 => 77 | 47 => 78 | 48 => 79 | 49 => 80 | 50 => 81 | 51 => 82 | 52 => 83 | 53 => 84 | 54 => 85 | 55 => 86 | n => n, fun | 0 => 0 | 1 => 1 | 2 => 2 | 3 => 3 | 4 => 4 | 5 => 5 | 6 => 6 | 7 => 7 | 8 => 8 | 9 => 9 | 10 => 10 | 11 => 11 | 12 => 12 | 13 => 13 | 14 => 14 | 15 => 15 | 16 => 16 | 17 => 17 | 18 => 18 | 19 => 19 | 20 => 20 | 21 => 21 | 22 => 23 | 23 => 71 | 33 => 79 | 40 => 62 | 41 => 77 | 42 => 88 | 45 => 47 | 46 => 102 | 47 => 103 | 48 => 104 | 49 => 105 | 50 => 106 | 51 => 107 | 52 => 66 | 53 => 82 | 54 => 108 | 55 => 109 | 56 => 110 | 57 => 111 | 58 => 112 | 59 => 113 | 60 => 114 | 61 => 115 | 62 => 116 | n => n, fun n => n⟩
theorem lay_compact : Go.Proofs.Lays2.n20 Try.prog lay_compact_ren := by
  constructor <;> first | kernel_rfl | (intro w; kernel_rfl)

theorem c_slices_Compact {c0 : Cx} {G : Gm} {F : List En} {v1 : Value} {u1 : List Value} (p0 : List Int) (O0 : Own c0 G (es true (RI .i64) v1 3 u1 p0 :: F)) (h1 : OA (RI .i64) c0 v1 u1 p0) {r : List Int} (H : f_slices_Compact p0 = some r) :
    Calls Try.prog 43 #[v1] c0.w (Post c0 fun c v => ∃ y1 : Value, ∃ y2 : List Value, Own c G (es true (RI .i64) y1 3 y2 r :: F) ∧ v = y1 ∧ OA (RI .i64) c y1 y2 r) := by
  obtain rfl := Option.some.inj H
  rcases h1.2.1 with ⟨rfl, rfl⟩ | ⟨g, cap, rfl, a1, a2, a3⟩
  · refine (Go.Proofs.Any.slices_Compact_int_empty lay_compact none 0 c0.w).mono ?_
    rintro e w' ⟨rfl, rfl⟩
    exact ⟨_, c0, rfl, rfl, Cx.le.refl _, _, u1, O0, rfl, h1⟩
  · have a3' : cap ≤ u1.length := by have : cap * 1 ≤ u1.length := a3; omega
    have hle := cmpt_len p0
    refine (Go.Proofs.Any.slices_Compact_int lay_compact g 0 cap p0 c0.w (OA.holds O0 ⟨a3', a1⟩ h1.2.2) (by unfold maxLen at a2; omega) a1).mono ?_
    rintro e w' ⟨rfl, n, rfl⟩
    rw [compact_eq]
    obtain ⟨c', us, e1, e2, e3, e4⟩ := Own.putRow O0 ⟨a1, a2, a3'⟩ (cmpt p0 ++ List.replicate (p0.length - (cmpt p0).length) 0) (cmpt p0) (by rw [List.length_append, List.length_replicate]; omega) ⟨_, rfl⟩ n #[]
    rw [Sort.grow_empty] at e1
    exact ⟨_, c', rfl, e1.symm, e2, _, us, e3, rfl, e4⟩

def f_bytes_Clone (p0 : List Int) : Option (List Int) := app [] p0
theorem c_bytes_Clone {c0 : Cx} {G : Gm} {F : List En} {v1 : Value} (O0 : Own c0 G F) (p0 : List Int) (h1 : Sl (RI .u8) c0 v1 p0) {r : List Int} (H : f_bytes_Clone p0 = some r) :
    Calls Try.prog 27 #[v1] c0.w (Post c0 fun c v => ∃ y1 : Value, ∃ y2 : List Value, Own c G (es true (RI .u8) y1 5 y2 r :: F) ∧ v = y1 ∧ OA (RI .u8) c y1 y2 r) := by
  unfold f_bytes_Clone at H
  have hS := h1
  obtain ⟨a, cap, rfl, h2, h3, h4⟩ := h1
  refine enter (l := [.slice a p0.length cap]) Try.func27 rfl rfl rfl ?_
  refine W.seq ?_
  refine W.region ?_
  refine WL.val0 (v := .slice none 0 0) rfl (by kernel_rfl) ?_
  refine WL.nil ?_
  refine nrm ?_
  cases a with
  | none =>
    obtain rfl : p0 = [] := by
      cases p0 with
      | nil => rfl
      | cons x t =>
        obtain ⟨b, off, l, e, _⟩ := h4 0 x rfl
        cases e
    obtain rfl : r = [] := by simpa [app] using H.symm
    refine W.seq ?_
    refine W.seq ?_
    refine W.region ?_
    refine WL.val0 (v := .slice none 0 cap) rfl (by kernel_rfl) ?_
    refine WL.val0 (v := .bool true) rfl (by kernel_rfl) ?_
    refine WL.nil ?_
    refine nrm ?_
    refine W.cond (t := true) (by kernel_rfl) (fun _ => ?_) (fun h => by cases h)
    refine W.seq ?_
    refine W.region ?_
    refine WL.val0 (v := .slice none 0 0) rfl (by kernel_rfl) ?_
    refine WL.nil ?_
    refine nrm ?_
    refine W.ret ?_
    refine thr ?_
    have O1 := O0.addHole (e := es true (RI .u8) (.slice none 0 0) 5 [] ([] : List Int)) rfl
    exact ret1 (v := .slice none 0 0) rfl (by kernel_rfl) ⟨_, c0, rfl, rfl, Cx.le.refl _, _, _, O1, rfl, OA.nil (Nat.succ_pos _)⟩
  | some ad =>
    refine W.seq ?_
    refine W.seq ?_
    refine W.region ?_
    refine WL.val0 (v := .slice (some ad) p0.length cap) rfl (by kernel_rfl) ?_
    refine WL.val0 (v := .bool false) rfl (by kernel_rfl) ?_
    refine WL.nil ?_
    refine nrm ?_
    refine W.cond (t := false) (by kernel_rfl) (fun h => by cases h) (fun _ => ?_)
    refine W.skip ?_
    refine nrm ?_
    refine W.seq ?_
    refine W.region ?_
    refine WL.mem rfl (Own.sl (R := RI .u8) (E := 5) (ls := []) (vs := []) (xs := ([] : List Int)) true O0 (Nat.succ_pos _) rfl trivial (by kernel_rfl) (by kernel_rfl)) ?_
    rintro v5 c1 l1 ⟨u1, O1, a1⟩
    refine WL.val0 (v := .slice (some ad) p0.length cap) rfl (by kernel_rfl) ?_
    refine WL.mem rfl (Own.app (R := RI .u8) (z := .int .u8 0) (by_ := 1) (ty := 22) 0 O1 rfl a1 (hS.mono l1) H Try.underlying22 (by kernel_rfl) rfl (by kernel_rfl) (by kernel_rfl)) ?_
    rintro v6 c2 l2 ⟨u2, O2, a2⟩
    refine WL.val0 (v := v6) rfl (by kernel_rfl) ?_
    refine WL.nil ?_
    refine nrm ?_
    refine W.ret ?_
    exact ret1 (v := v6) rfl (by kernel_rfl) ⟨_, c2, rfl, rfl, l1.trans l2, _, _, O2, rfl, a2⟩

/-! ### bytes.Join without a separator (the library's contract) -/
def bytesI (l : List Int) : Bool := l.all fun x => decide (0 ≤ x) && decide (x < 256)
def f_bytes_Join (p0 : List (List Int)) (p1 : List Int) : Option (List Int) :=
  if p1 = [] ∧ p0.all bytesI = true ∧ p0.length ≤ 1099511627776 ∧ p0.flatten.length ≤ 1099511627776 then some p0.flatten else none
def lay_join_ren : Go.Shelf.Ren := ⟨fun | 0 => 0 | 1 => 1 | 2 => 2 | 14 => 28 | 15 => 37 | 37 => 71 | 38 => 72 | 39 => 73 | 40 => 74 | 41 => 75 | 42 => 76 | 43 => 77 | 44 => 78 | 45 => 79 | 46 => 80 | 47 => 81 | 48 => 82 | 49 => 83 | 50 => 84 | 51 => 85 | 52 => 86 | n => n, fun | 0 => 0 | 1 => 1 | 2 => 2 | 3 => 3 | 4 => 4 | 5 => 5 | 6 => 6 | 7 => 7 | 8 => 8 | 9 => 9 | 10 => 10 | 11 => 11 | 12 => 12 | 13 => 13 | 14 => 14 | 15 => 15 | 16 => 16 | 17 => 17 | 18 => 18 | 19 => 19 | 20 => 20 | 21 => 21 | 22 => 22 | 23 => 48 | 24 => 28 | 26 => 25 | 27 => 49 | 28 => 63 | 33 => 62 | 34 => 67 | 39 => 82 | 57 => 102 | 58 => 103 | 59 => 104 | 60 => 105 | 61 => 106 | 62 => 107 | 63 => 66 | 64 => 108 | 65 => 109 | 66 => 110 | 67 => 111 | 68 => 112 | 69 => 113 | 70 => 114 | 71 => 115 | 72 => 116 | n => n, fun n => n⟩
theorem lay_join : Go.Proofs.SlLaysJ.n14 Try.prog lay_join_ren := by
  constructor <;> first | kernel_rfl | (intro w; kernel_rfl)

def u8s (l : List Int) : List UInt8 := l.map fun x => UInt8.ofNat x.toNat
theorem u8_back {x : Int} (h : 0 ≤ x ∧ x < 256) : ((UInt8.ofNat x.toNat).toNat : Int) = x := by
  rw [UInt8.toNat_ofNat']
  omega
theorem bytesI_mem {l : List Int} (h : bytesI l = true) {x : Int} (hx : x ∈ l) : 0 ≤ x ∧ x < 256 := by
  have := List.all_eq_true.1 h x hx
  simpa using this
theorem u8s_get {l : List Int} (h : bytesI l = true) {i : Nat} {y : UInt8} (hy : (u8s l)[i]? = some y) : l[i]? = some (y.toNat : Int) := by
  unfold u8s at hy
  rw [List.getElem?_map, Option.map_eq_some_iff] at hy
  obtain ⟨x, h1, rfl⟩ := hy
  rw [h1, u8_back (bytesI_mem h (List.mem_of_getElem? h1))]
/-- What lies behind all that was there, with cells that stay. -/
theorem Own.below {c : Cx} {w' : World} {G : Gm} {F : List En} (O : Own c G F) (h : RowKit.Below c.w.heap.size c.w w') : ∃ c' : Cx, c'.w = w' ∧ c.le c' ∧ Own c' G F ∧ ∀ b o v, c.w.heap.size ≤ b → w'.cell? ⟨b, o, none⟩ = some v → Im c' b o v := by
  have hbut : c.but (fun _ => False) ⟨w', fun k o => k < c.w.heap.size ∧ c.A k o, c.t⟩ := by
    refine ⟨⟨h.os, h.output, h.size, fun k o h1 h2 => ⟨World.cell?_of_block (w := c.w) (a := ⟨k, o, none⟩) (h.block k h1), fun q => h2 q.2⟩, fun k h1 _ => h.block k h1, fun a h1 _ => by simp only [World.frozen?, h.block _ h1], fun _ _ _ q => q⟩, rfl, fun k h1 _ => ⟨h.block k h1, fun o => ⟨fun q => q.2, fun q => ⟨h1, q⟩⟩⟩⟩
  refine ⟨_, rfl, hbut.le, O.keep hbut, fun b o v hb hv => ⟨?_, fun q => by omega, hv⟩⟩
  show b < w'.heap.size
  rcases Nat.lt_or_ge b w'.heap.size with q | q
  · exact q
  · simp only [World.cell?, Array.getElem?_eq_none q] at hv
    cases hv
theorem sl_fresh {c c' : Cx} {v : Value} {l : List Int} (hb : bytesI l = true) (hI : ∀ b o v, c.w.heap.size ≤ b → c'.w.cell? ⟨b, o, none⟩ = some v → Im c' b o v) (h : Lib.FreshBytes c.w.heap.size c'.w v (u8s l)) : Sl (RI .u8) c' v l := by
  obtain ⟨g, cap, zs, rfl, h1, h2, h3, h4, h5, h6, h7, _⟩ := h
  have hl : (u8s l).length = l.length := by simp [u8s]
  rw [hl] at h2 h6
  refine ⟨_, cap, by rw [hl], h2, h3, fun i x hx => ⟨g, 0, [.int .u8 x], rfl, rfl, fun j u hu => ?_⟩⟩
  cases j with
  | succ j => simp at hu
  | zero =>
    simp only [List.getElem?_cons_zero, Option.some.injEq] at hu
    subst hu
    have hi := (List.getElem?_eq_some_iff.1 hx).1
    have hic : i < cap := by omega
    refine hI _ _ _ h1 ?_
    rw [show 0 + i * (RI .u8).size + 0 = i by show 0 + i * 1 + 0 = i; omega, h7 i hic]
    -- the number that lies there
    have hz : zs[i]? = some zs[i] := List.getElem?_eq_getElem (by omega)
    have e : (Lib.bytesOf (zs.take l.length))[i]? = (u8s l)[i]? := by rw [h6]
    have e2 : (u8s l)[i]? = some (UInt8.ofNat x.toNat) := by simp [u8s, hx]
    rw [e2] at e
    have e3 : (zs.take l.length)[i]? = some zs[i] := by rw [List.getElem?_take, if_pos hi, hz]
    simp only [Lib.bytesOf, List.getElem?_map, e3, Option.map_some, Option.some.injEq] at e
    have h8 := u8_back (h5 _ (List.getElem_mem (show i < zs.length by omega)))
    have h9 := u8_back (bytesI_mem hb (List.mem_of_getElem? hx))
    rw [e, h9] at h8
    rw [List.getD_eq_getElem?_getD, hz, Option.getD_some, h8]
theorem sl_bytes {c : Cx} {v : Value} {xs : List Int} (h : Sl (RI .u8) c v xs) (hb : bytesI xs = true) : Lib.HoldsBytes c.w v (u8s xs) := by
  obtain ⟨a, cap, rfl, _, _, h4⟩ := h
  refine ⟨a, cap, by simp [u8s], fun e => ?_, fun ad e i x hx => ?_⟩
  · subst e
    cases xs with
    | nil => rfl
    | cons y t =>
      obtain ⟨b, off, l, e, _⟩ := h4 0 y rfl
      cases e
  · subst e
    obtain ⟨b, off, l, e, hl, hc⟩ := h4 i _ (u8s_get hb hx)
    cases e
    have := (hc 0 _ (by rw [show l = [.int .u8 (x.toNat : Int)] from hl]; rfl)).cell
    rw [show off + i * (RI .u8).size + 0 = off + i by show off + i * 1 + 0 = off + i; omega] at this
    rw [Lib.add_plain2]
    exact this
theorem u8s_flat (p : List (List Int)) : (p.map u8s).flatten = u8s p.flatten := by
  induction p with
  | nil => rfl
  | cons x p ih =>
    simp only [List.map_cons, List.flatten_cons, ih]
    simp [u8s]
theorem join_flat (ls : List (List UInt8)) : Lib.join ls [] = ls.flatten := by
  cases ls with
  | nil => rfl
  | cons x r => rw [Lib.join_cons]; simp [Lib.joinTail]
theorem lens_flat (ls : List (List UInt8)) : Lib.lens ls = ls.flatten.length := by simp [Lib.lens, List.length_flatten]
theorem bytesI_flat {p : List (List Int)} (h : p.all bytesI = true) : bytesI p.flatten = true := by
  refine List.all_eq_true.2 fun x hx => ?_
  obtain ⟨l, hl, hx⟩ := List.mem_flatten.1 hx
  exact List.all_eq_true.1 (List.all_eq_true.1 h l hl) x hx
theorem c_bytes_Join {c0 : Cx} {G : Gm} {F : List En} {v1 v2 : Value} (O0 : Own c0 G F) (p0 : List (List Int)) (p1 : List Int) (h1 : Sl (RL (RI .u8)) c0 v1 p0) (h2 : Sl (RI .u8) c0 v2 p1) {r : List Int} (H : f_bytes_Join p0 p1 = some r) :
    Calls Try.prog 28 #[v1, v2] c0.w (Post c0 fun c v => ∃ y1 : Value, Own c G F ∧ v = y1 ∧ Sl (RI .u8) c y1 r) := by
  unfold f_bytes_Join at H
  split at H
  · rename_i hh
    obtain ⟨rfl, hb, hl1, hl2⟩ := hh
    obtain rfl := Option.some.inj H
    have hbf := bytesI_flat hb
    obtain ⟨a, cap, rfl, g1, g2, g4⟩ := h1
    have hfl : (u8s p0.flatten).length = p0.flatten.length := by unfold u8s; rw [List.length_map]
    cases p0 with
    | nil =>
      refine (Go.Proofs.Any.bytes_Join_none lay_join a cap v2 c0.w).mono ?_
      rintro e w' ⟨rfl, rfl⟩
      obtain ⟨c', e1, e2, e3, _⟩ := Own.below O0 ((RowKit.Below.refl _ c0.w).alloc (Nat.le_refl _) (.cells #[] (lay_join_ren.t 5)))
      exact ⟨_, c', rfl, e1.symm, e2, _, e3, rfl, Sl.nil _ _ _ _ (Nat.zero_le _)⟩
    | cons x t =>
      obtain ⟨b, off, _, rfl, _, _⟩ := g4 0 x rfl
      have cell : ∀ i y, (x :: t)[i]? = some y → ∃ v, c0.w.cell? ⟨b, off + i, none⟩ = some v ∧ Sl (RI .u8) c0 v y := fun i y hy => by
        obtain ⟨b', off', l, e, hl, hc⟩ := g4 i y hy
        cases e
        obtain ⟨v, rfl, hv⟩ := hl
        have := (hc 0 v rfl).cell
        exact ⟨v, by rw [← this]; rw [show off + i * (RL (RI .u8)).size + 0 = off + i by show off + i * 1 + 0 = off + i; omega], hv⟩
      have hbi : ∀ y ∈ x :: t, bytesI y = true := fun y hy => List.all_eq_true.1 hb y hy
      obtain ⟨v0, k1, k2⟩ := cell 0 x rfl
      rw [Nat.add_zero] at k1
      cases t with
      | nil =>
        have hxb := hbi x (by simp)
        obtain ⟨a0, cap0, rfl, _, _, k3⟩ := id k2
        have hH := sl_bytes k2 hxb
        cases x with
        | nil =>
          refine (Go.Proofs.Any.bytes_Join_one_empty lay_join b off cap a0 cap0 v2 c0.w k1).mono ?_
          rintro e w' ⟨rfl, rfl⟩
          exact ⟨_, c0, rfl, rfl, Cx.le.refl _, _, O0, rfl, Sl.nil _ _ _ _ (Nat.zero_le _)⟩
        | cons y s =>
          obtain ⟨ad0, rfl⟩ : ∃ ad, a0 = some ad := by
            obtain ⟨b', off', l, e, _⟩ := k3 0 y rfl
            exact ⟨_, e⟩
          obtain ⟨p, cp, e, _, hcc⟩ := hH
          simp only [Value.slice.injEq] at e
          obtain ⟨rfl, e2, _⟩ := e
          rw [e2] at k1
          refine (Go.Proofs.Any.bytes_Join_one lay_join b off cap ad0 cap0 (u8s (y :: s)) v2 c0.w k1 (hcc ad0 rfl) (by simp [u8s]) (by simp only [List.flatten_cons, List.flatten_nil, List.append_nil] at hfl hl2; omega)).mono ?_
          rintro e w' ⟨v', rfl, hf, hB⟩
          obtain ⟨c', rfl, e2, e3, e4⟩ := Own.below O0 hB
          refine ⟨_, c', rfl, rfl, e2, _, e3, rfl, ?_⟩
          rw [show [y :: s].flatten = y :: s by simp]
          exact sl_fresh hxb e4 hf
      | cons x2 t =>
        have hvs : ∃ vs : List Value, vs.length = (x :: x2 :: t).length ∧ ∀ i v, vs[i]? = some v → c0.w.cell? ⟨b, off + i, none⟩ = some v ∧ ∀ y, (x :: x2 :: t)[i]? = some y → Sl (RI .u8) c0 v y := by
          refine ⟨(List.range (x :: x2 :: t).length).map fun i => (c0.w.cell? ⟨b, off + i, none⟩).getD undef, by simp, fun i v hv => ?_⟩
          rw [List.getElem?_map, Option.map_eq_some_iff] at hv
          obtain ⟨j, hj, rfl⟩ := hv
          obtain ⟨hj1, hj2⟩ := List.getElem?_eq_some_iff.1 hj
          rw [List.getElem_range] at hj2
          subst hj2
          rw [List.length_range] at hj1
          obtain ⟨v, q1, q2⟩ := cell i _ (List.getElem?_eq_getElem hj1)
          rw [q1]
          refine ⟨rfl, fun y hy => ?_⟩
          rw [List.getElem?_eq_getElem hj1] at hy
          cases hy
          exact q2
        obtain ⟨vs, q1, q2⟩ := hvs
        have hfl2 : ((x :: x2 :: t).map u8s).flatten.length = (x :: x2 :: t).flatten.length := by rw [u8s_flat, hfl]
        refine (Go.Proofs.Any.bytes_Join_many lay_join b off (x :: x2 :: t).length cap vs ((x :: x2 :: t).map u8s) v2 [] c0.w (by simp) (by simp) ⟨by simp [q1], fun i v hv => by rw [Lib.add_plain2]; exact (q2 i v hv).1, fun i v l hv hl => ?_⟩ g1 ?_ (by omega) ?_).mono ?_
        · rw [List.getElem?_map, Option.map_eq_some_iff] at hl
          obtain ⟨y, hy, rfl⟩ := hl
          exact sl_bytes ((q2 i v hv).2 y hy) (hbi y (List.mem_of_getElem? hy))
        · obtain ⟨a2, cap2, rfl, _⟩ := h2
          exact ⟨a2, cap2, rfl, fun _ => rfl, fun _ _ i y hy => by simp at hy⟩
        · rw [lens_flat, hfl2]
          simp only [List.length_nil, Nat.zero_mul, Nat.add_zero]
          omega
        · rintro e w' ⟨v', rfl, hf, hB⟩
          rw [join_flat, u8s_flat] at hf
          obtain ⟨c', rfl, e2, e3, e4⟩ := Own.below O0 hB
          exact ⟨_, c', rfl, rfl, e2, _, e3, rfl, sl_fresh hbf e4 hf⟩
  · cases H

end Go.Proofs.Ytfhhpdggmefcoaa
