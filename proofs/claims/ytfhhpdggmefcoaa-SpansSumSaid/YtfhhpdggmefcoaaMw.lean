/-
  The operations on memory, in our own walk kit: loads, stores, new blocks, slices of the call's own. No condition; nothing of any program stands here.
-/
import Derived.Test.YtfhhpdggmefcoaaMv
namespace Go.Lt

section
variable {P : Program} {c c' : Cx} {G : Gm} {F : List En} {α : Type} {R : Rp α}

/-! ### values that are computed -/
theorem rv {s : Sem Value} {w w' : World} {v : Value} (h : s.run P w = .ok v w') : (do pure (Next.value (← s)) : Sem Next).run P w = .ok (.value v) w' := by
  simp [h, Result.andThen]
theorem rs {s : Sem Unit} {w w' : World} (h : s.run P w = .ok () w') : (do s; pure Next.skip : Sem Next).run P w = .ok .skip w' := by
  simp [h, Result.andThen]
theorem rx {ρ : Operand → Value} {o : Oper} {s : Sem Value} {w w' : World} {v : Value} (hx : execOp ρ o = (do pure (Next.value (← s)) : Sem Next)) (h : s.run P w = .ok v w') : (execOp ρ o).run P w = .ok (.value v) w' := by
  rw [hx]
  exact rv h

theorem run_index {v : Value} {xs : List α} {T E : TypeId} {k : IntKind} {i : Int} {x : α} (hT : P.underlying T = some (.slice E)) (hE : (P.info? E).map (·.size) = some R.size)
    (h : Sl R c v xs) (hi : idx xs i = some x) (w : World) : (Instr.indexAt T v (.int k i)).run P w = .ok (.pointer (some ⟨sb v, so v + i.toNat * R.size, none⟩)) w := by
  obtain ⟨a, cap, rfl, _, _, h4⟩ := h
  unfold idx at hi
  split at hi
  · rename_i h0
    have hlt : i.toNat < xs.length := by
      rcases Nat.lt_or_ge i.toNat xs.length with h | h
      · exact h
      · rw [List.getElem?_eq_none h] at hi; cases hi
    obtain ⟨b, off, l, rfl, _, _⟩ := h4 _ _ hi
    obtain ⟨ti, hti, hsz⟩ := Option.map_eq_some_iff.1 hE
    have hlt' : i < xs.length := by omega
    simp [Instr.indexAt, asIntOf, run_underlying hT, h0, hlt', sizeOf, typeInfo, hti, hsz, sb, so, Addr.add_lit]
  · cases hi

theorem run_len {v : Value} {xs : List α} {T E ty : TypeId} (hT : P.underlying T = some (.slice E)) (h : Sl R c v xs) (w : World) :
    (Builtin.len_ #[T] ty #[v]).run P w = .ok (.int .i64 (xs.length : Int)) w := by
  obtain ⟨a, cap, rfl, _⟩ := h
  simp [Builtin.len_, run_underlying hT, goInt]

/-! ### loads -/
theorem run_load1 {T : TypeId} {b o : Nat} {v : Value} {d : TypeDesc} (hT : P.underlying T = some d) (hd : (match d with | .struct _ | .array _ _ => false | _ => true) = true)
    (h : Im c b o v) : (Instr.loadAt T (.pointer (some ⟨b, o, none⟩))).run P c.w = .ok v c.w := by
  cases d <;> simp_all [Instr.loadAt, Instr.sureAddr, loadVar, isAgg, run_underlying hT, load, Sem.run, h.cell]

theorem run_loadCellsFrom (b : Nat) {w : World} : ∀ (l : List Value) (o i : Nat) (acc : Array Value), (∀ j u, l[j]? = some u → w.cell? ⟨b, o + i + j, none⟩ = some u) →
    (loadCellsFrom ⟨b, o, none⟩ i l.length acc).run P w = .ok (acc ++ l.toArray) w := by
  intro l
  induction l with
  | nil => intro o i acc h; simp [loadCellsFrom]
  | cons v l ih =>
    intro o i acc h
    have h0 := h 0 v rfl
    simp only [Nat.add_zero] at h0
    simp only [List.length_cons, loadCellsFrom, Addr.add_lit, load, Sem.run_bind, Sem.run, h0, Result.andThen]
    rw [ih o (i + 1) (acc.push v) (fun j u hu => by have := h (j + 1) u hu; rwa [show o + i + (j + 1) = o + (i + 1) + j by omega] at this)]
    simp
theorem run_loadC {w : World} {T : TypeId} {b o : Nat} {l : List Value} (hT : (P.underlying T).map (fun d => match d with | .struct _ | .array _ _ => true | _ => false) = some true) (hs : (P.info? T).map (·.size) = some l.length)
    (h : ∀ j u, l[j]? = some u → w.cell? ⟨b, o + j, none⟩ = some u) : (loadVar T ⟨b, o, none⟩).run P w = .ok (.agg l.toArray) w := by
  obtain ⟨ti, hti, hsz⟩ := Option.map_eq_some_iff.1 hs
  obtain ⟨d, hd, hag⟩ := Option.map_eq_some_iff.1 hT
  have h1 := run_loadCellsFrom (P := P) (w := w) b l o 0 #[] (fun j u hu => h j u hu)
  have h2 : (isAgg T).run P w = .ok true w := by
    cases d <;> simp_all [isAgg, run_underlying hd]
  rw [← hsz] at h1
  simp [loadVar, h2, sizeOf, typeInfo, hti, loadCells, h1, Result.andThen]
theorem run_loadN {T : TypeId} {b o : Nat} {l : List Value} (hT : (P.underlying T).map (fun d => match d with | .struct _ | .array _ _ => true | _ => false) = some true) (hs : (P.info? T).map (·.size) = some l.length)
    (h : ∀ j u, l[j]? = some u → Im c b (o + j) u) : (Instr.loadAt T (.pointer (some ⟨b, o, none⟩))).run P c.w = .ok (.agg l.toArray) c.w := by
  simp only [Instr.loadAt, Instr.sureAddr, Sem.run_bind, Sem.run_pure, Result.andThen]
  exact run_loadC hT hs fun j u hu => (h j u hu).cell

theorem imsub {b o k : Nat} {L l : List Value} (h : ∀ j u, L[j]? = some u → Im c b (o + j) u) (hl : (L.drop k).take l.length = l) : ∀ j u, l[j]? = some u → Im c b (o + k + j) u := fun j u hu => by
  rw [← hl, List.getElem?_take] at hu
  split at hu
  · rw [List.getElem?_drop] at hu
    have := h _ _ hu
    rwa [Nat.add_assoc]
  · cases hu
theorem En.on.cell {e : En} (h : e.on c) {b : Nat} (hb : blk e.v = some b) (j : Nat) : c.w.cell? ⟨b, j, none⟩ = e.vs[j]? := by
  simp [World.cell?, (h b hb).1]
/-- A load from an entry's block. -/
theorem ldE1 {T : TypeId} {e : En} {b j : Nat} {v : Value} {d : TypeDesc} (hT : P.underlying T = some d) (hd : (match d with | .struct _ | .array _ _ => false | _ => true) = true)
    (h : e.on c) (hb : blk e.v = some b) (hj : e.vs[j]? = some v) : (Instr.loadAt T (.pointer (some ⟨b, j, none⟩))).run P c.w = .ok v c.w := by
  have hc : c.w.cell? ⟨b, j, none⟩ = some v := by rw [h.cell hb, hj]
  cases d <;> simp_all [Instr.loadAt, Instr.sureAddr, loadVar, isAgg, run_underlying hT, load, Sem.run]
theorem ldEN {T : TypeId} {e : En} {b j : Nat} {l : List Value} (hT : (P.underlying T).map (fun d => match d with | .struct _ | .array _ _ => true | _ => false) = some true) (hs : (P.info? T).map (·.size) = some l.length)
    (h : e.on c) (hb : blk e.v = some b) (hl : (e.vs.drop j).take l.length = l) : (Instr.loadAt T (.pointer (some ⟨b, j, none⟩))).run P c.w = .ok (.agg l.toArray) c.w := by
  simp only [Instr.loadAt, Instr.sureAddr, Sem.run_bind, Sem.run_pure, Result.andThen]
  refine run_loadC hT hs fun i u hu => ?_
  have : (e.vs.drop j)[i]? = some u := by
    rw [← hl, List.getElem?_take] at hu
    split at hu
    · exact hu
    · cases hu
  rw [List.getElem?_drop] at this
  rw [h.cell hb, this]

/-! ### stores -/
def allOne : List Value → Prop
  | [] => True
  | u :: l => u.oneCell' = true ∧ allOne l
theorem allOne.mem : ∀ {l : List Value}, allOne l → ∀ u ∈ l, u.oneCell' = true
  | [], _, u, hu => by cases hu
  | a :: l, h, u, hu => by
    rcases List.mem_cons.1 hu with rfl | hu
    · exact h.1
    · exact h.2.mem u hu
theorem allOne.of : ∀ {l : List Value}, (∀ u ∈ l, u.oneCell' = true) → allOne l
  | [], _ => trivial
  | a :: l, h => ⟨h a (by simp), allOne.of fun u hu => h u (by simp [hu])⟩

theorem frozen?_row {w w' : World} {b : Nat} {l m : Array Value} {T : TypeId} (h : w.heap[b]? = some (.cells l T (0, 0))) (h' : w'.heap[b]? = some (.cells m T (0, 0))) (ho : ∀ k, k ≠ b → w'.heap[k]? = w.heap[k]?) (a : Addr) : w'.frozen? a = w.frozen? a := by
  by_cases hk : a.block = b
  · simp [World.frozen?, hk, h, h']
  · simp [World.frozen?, ho _ hk]

/-- A block's cells are laid anew, from where they may be written on. -/
theorem Cx.row {b : Nat} {l m : List Value} {T : TypeId} (h : c.w.heap[b]? = some (.cells l.toArray T (0, 0))) (lim : Nat) (hA : ∀ o, c.A b o ↔ lim ≤ o) (hs : ∀ o, o < lim → m[o]? = l[o]?) (lim' : Nat) (hl : lim ≤ lim') :
    ∃ c' : Cx, c'.w = c.w.setRow b m.toArray ∧ c.but (fun k => k = b) c' ∧ c'.w.heap[b]? = some (.cells m.toArray T (0, 0)) ∧ ∀ o, c'.A b o ↔ lim' ≤ o := by
  have hbk := setRow_heap c.w b l.toArray m.toArray T (0, 0) h
  have hoth : ∀ k, k ≠ b → (c.w.setRow b m.toArray).heap[k]? = c.w.heap[k]? := fun k hk => setRow_other c.w b k _ hk
  have hsz : (c.w.setRow b m.toArray).heap.size = c.w.heap.size := by simp [World.setRow]
  refine ⟨⟨c.w.setRow b m.toArray, fun k o => (k ≠ b ∧ c.A k o) ∨ (k = b ∧ lim' ≤ o), c.t⟩, rfl, ⟨⟨rfl, rfl, by rw [hsz]; exact Nat.le_refl _, fun k o hk hnA => ?_, fun k hk hnA => ?_, fun a _ _ => frozen?_row h hbk hoth a, fun _ _ _ h => h⟩, rfl, fun k hk hkb => ⟨hoth k hkb, fun o => ?_⟩⟩, hbk, fun o => ?_⟩
  · by_cases hkb : k = b
    · subst hkb
      have ho : o < lim := by
        rcases Nat.lt_or_ge o lim with h | h
        · exact h
        · exact absurd ((hA o).2 h) hnA
      refine ⟨?_, ?_⟩
      · rw [cell_setRow_same c.w k o l.toArray _ T (0, 0) h, cell_of_row c.w k o l.toArray T (0, 0) h, List.getElem?_toArray, List.getElem?_toArray, hs o ho]
      · rintro (h | h)
        · exact h.1 rfl
        · omega
    · refine ⟨World.cell?_of_block (w := c.w) (a := ⟨k, o, none⟩) (hoth k hkb), ?_⟩
      rintro (h | h)
      · exact hnA h.2
      · exact hkb h.1
  · by_cases hkb : k = b
    · subst hkb
      exact absurd ((hA lim).2 (Nat.le_refl _)) (hnA lim)
    · exact hoth k hkb
  · simp [hkb]
  · simp

theorem stE {T : TypeId} {e : En} {b o : Nat} {us : List Value} {v : Value} (h : e.on c) (hb : blk e.v = some b) (hlim : e.lim = 0) (hv : v.cells.toList = us) (hs : (P.info? T).map (·.size) = some us.length) (h1 : allOne us)
    (hl : o + us.length ≤ e.vs.length) : ∃ c', (Instr.storeAt T (.pointer (some ⟨b, o, none⟩)) v).run P c.w = .ok () c'.w ∧ c.but (fun k => k = b) c' ∧ (⟨e.v, e.T, e.vs.take o ++ us ++ e.vs.drop (o + us.length), 0⟩ : En).on c' := by
  obtain ⟨ti, hti, hsz⟩ := Option.map_eq_some_iff.1 hs
  have hh := h b hb
  have h2 := run_storeCells_at P b o e.T us 0 e.vs.toArray c.w hh.1 (by simpa using hl) h1.mem
  have hz : v.cells.size = us.length := by rw [← hv]; simp
  simp only [Nat.add_zero] at h2
  obtain ⟨c', e1, e2, e3, e4⟩ := Cx.row (m := e.vs.take o ++ us ++ e.vs.drop (o + us.length)) hh.1 e.lim hh.2 (fun o ho => by omega) 0 (by omega)
  refine ⟨c', ?_, e2, fun b' hb' => ?_⟩
  · rw [e1]
    simp [Instr.storeAt, Instr.sureAddr, storeVar, sizeOf, typeInfo, hti, hsz, hz, hv, h2, Result.andThen]
  · simp only at hb'
    rw [hb] at hb'
    cases hb'
    exact ⟨e3, e4⟩

variable {ρ : Operand → Value} {o : Oper}

/-- A store into an entry's block. -/
theorem Own.st {T : TypeId} {e : En} {b j : Nat} {us nw : List Value} {v : Value} (k : Nat) (O : Own c G F) (hx : execOp ρ o = (do Instr.storeAt T (.pointer (some ⟨b, j, none⟩)) v; pure Next.skip : Sem Next)) (hk : F[k]? = some e) (hb : blk e.v = some b) (hlim : e.lim = 0)
    (hv : v.cells.toList = us) (hs : (P.info? T).map (·.size) = some us.length) (h1 : allOne us) (hl : Nat.ble (j + us.length) e.vs.length = true) (hn : e.vs.take j ++ us ++ e.vs.drop (j + us.length) = nw) :
    ∃ c', (execOp ρ o).run P c.w = .ok .skip c'.w ∧ c.le c' ∧ Own c' G (F.set k ⟨e.v, e.T, nw, 0⟩) := by
  subst hn
  obtain ⟨c', h1, h2, h3⟩ := stE (O.on k hk) hb hlim hv hs h1 (Nat.le_of_ble_eq_true hl)
  exact ⟨c', by rw [hx]; exact rs h1, h2.le, O.set k hk h2 (fun b' hb' => by rw [hb, hb']) h3 (fun b h => .inl h)⟩
theorem Own.stG {T : TypeId} {e : En} {b j : Nat} {us nw : List Value} {v : Value} {g k : Nat} {E : List En} (r : Nat) (O : Own c G F) (hx : execOp ρ o = (do Instr.storeAt T (.pointer (some ⟨b, j, none⟩)) v; pure Next.skip : Sem Next)) (hE : G g k = E) (hr : E[r]? = some e) (hb : blk e.v = some b) (hlim : e.lim = 0)
    (hv : v.cells.toList = us) (hs : (P.info? T).map (·.size) = some us.length) (h1 : allOne us) (hl : Nat.ble (j + us.length) e.vs.length = true) (hn : e.vs.take j ++ us ++ e.vs.drop (j + us.length) = nw) :
    ∃ c', (execOp ρ o).run P c.w = .ok .skip c'.w ∧ c.le c' ∧ Own c' (setG G g k (E.set r ⟨e.v, e.T, nw, 0⟩)) F := by
  subst hn
  obtain ⟨c', h1, h2, h3⟩ := stE (O.gon hE r hr) hb hlim hv hs h1 (Nat.le_of_ble_eq_true hl)
  exact ⟨c', by rw [hx]; exact rs h1, h2.le, O.setR r hE hr h2 (fun b' hb' => by rw [hb, hb']) h3 (fun b h => .inl h)⟩

/-! ### new blocks -/
theorem Cx.new (c : Cx) (vs : List Value) (T : TypeId) (lim : Nat) : ∃ c' : Cx, c'.w = c.w.alloc (.cells vs.toArray T) ∧ c.but (fun _ => False) c' ∧ c'.w.heap[c.w.heap.size]? = some (.cells vs.toArray T (0, 0)) ∧ c.w.heap.size < c'.w.heap.size ∧ ∀ o, c'.A c.w.heap.size o ↔ lim ≤ o :=
  ⟨⟨c.w.alloc (.cells vs.toArray T), fun k p => (k < c.w.heap.size ∧ c.A k p) ∨ (k = c.w.heap.size ∧ lim ≤ p), c.t⟩, rfl,
   ⟨⟨rfl, rfl, by simp, fun k p hk hA => ⟨World.cell?_of_block (w := c.w) (a := ⟨k, p, none⟩) (RowKit.Below.heap_alloc _ _ _ hk), by rintro (h | h); exact hA h.2; omega⟩, fun k hk _ => RowKit.Below.heap_alloc _ _ _ hk, fun a _ _ => RowKit.frozen?_alloc_cells _ _ _ _, fun _ _ _ h => h⟩, rfl,
    fun k hk _ => ⟨RowKit.Below.heap_alloc _ _ _ hk, fun p => ⟨by rintro (h | h); exact h.2; omega, fun h => .inl ⟨hk, h⟩⟩⟩⟩, heap_alloc_new c.w _, by simp, fun o => by simp⟩

/-- A new block of the call's own. -/
theorem Own.al {T : TypeId} {vs : List Value} (O : Own c G F) (hr : (execOp ρ o).run P c.w = .ok (.value (.pointer (some ⟨c.w.heap.size, 0, none⟩))) (c.w.alloc (.cells vs.toArray T))) :
    ∃ v c', (execOp ρ o).run P c.w = .ok (.value v) c'.w ∧ c.le c' ∧ ∃ b, v = .pointer (some ⟨b, 0, none⟩) ∧ Own c' G (⟨.pointer (some ⟨b, 0, none⟩), T, vs, 0⟩ :: F) := by
  obtain ⟨c', h1, h2, h3, _, h4⟩ := Cx.new c vs T 0
  refine ⟨_, c', by rw [h1]; exact hr, h2.le, _, rfl, O.cons h2 (fun _ => id) (fun b hb => ?_) (fun b hb => ?_)⟩
  · simp only [blk, Option.some.injEq] at hb; subst hb; exact ⟨h3, h4⟩
  · simp only [blk, Option.some.injEq] at hb; omega
/-- A new block that stays as it is. -/
theorem Own.bx {T : TypeId} {vs : List Value} (O : Own c G F) (hr : (execOp ρ o).run P c.w = .ok (.value (.pointer (some ⟨c.w.heap.size, 0, none⟩))) (c.w.alloc (.cells vs.toArray T))) :
    ∃ v c', (execOp ρ o).run P c.w = .ok (.value v) c'.w ∧ c.le c' ∧ ∃ b, v = .pointer (some ⟨b, 0, none⟩) ∧ Own c' G F ∧ ∀ j u, vs[j]? = some u → Im c' b (0 + j) u := by
  obtain ⟨c', h1, h2, h3, h5, h4⟩ := Cx.new c vs T vs.length
  refine ⟨_, c', by rw [h1]; exact hr, h2.le, _, rfl, O.keep h2, fun j u hu => ⟨h5, fun hA => ?_, ?_⟩⟩
  · have h6 := (h4 _).1 hA
    have := (List.getElem?_eq_some_iff.1 hu).1
    omega
  · rw [cell_of_row _ _ _ _ _ _ h3, List.getElem?_toArray, Nat.zero_add, hu]

/-! ### slices of the call's own -/
/-- Cells that begin with the members of xs. -/
def AR (R : Rp α) (c : Cx) (vs : List Value) (xs : List α) : Prop := ∀ i x, xs[i]? = some x → R.cells c ((vs.drop (i * R.size)).take R.size) x
/-- The slice v, nil or at the head of a block with the cells vs, holds xs. -/
def OA (R : Rp α) (c : Cx) (v : Value) (vs : List Value) (xs : List α) : Prop :=
  0 < R.size ∧ ((v = .slice none 0 0 ∧ xs = []) ∨ ∃ g cap, v = .slice (some ⟨g, 0, none⟩) xs.length cap ∧ xs.length ≤ cap ∧ cap ≤ maxLen ∧ cap * R.size ≤ vs.length) ∧ AR R c vs xs
/-- Its entry; m: may its members still be written? -/
def es (m : Bool) (R : Rp α) (v : Value) (E : TypeId) (vs : List Value) (xs : List α) : En := ⟨v, E, vs, cond m 0 (xs.length * R.size)⟩

theorem AR.mono {vs : List Value} {xs : List α} (h : AR R c vs xs) (k : c.le c') : AR R c' vs xs := fun i x hx => R.mono k (h i x hx)
theorem OA.mono {v : Value} {vs : List Value} {xs : List α} (h : OA R c v vs xs) (k : c.le c') : OA R c' v vs xs := ⟨h.1, h.2.1, h.2.2.mono k⟩
theorem OA.nil (h0 : 0 < R.size) : OA R c (.slice none 0 0) [] [] := ⟨h0, .inl ⟨rfl, rfl⟩, fun i x h => by simp at h⟩
theorem OA.one {v : Value} {vs : List Value} {xs : List α} (h : OA R c v vs xs) : v.oneCell' = true := by
  rcases h.2.1 with ⟨rfl, _⟩ | ⟨g, cap, rfl, _⟩ <;> rfl
theorem OA.len_le {v : Value} {vs : List Value} {xs : List α} (h : OA R c v vs xs) : xs.length ≤ 9223372036854775807 := by
  rcases h.2.1 with ⟨_, rfl⟩ | ⟨g, cap, _, h1, h2, _⟩
  · simp
  · unfold maxLen at h2; omega
theorem run_lenO {v : Value} {vs : List Value} {xs : List α} {T E ty : TypeId} (hT : P.underlying T = some (.slice E)) (h : OA R c v vs xs) (w : World) :
    (Builtin.len_ #[T] ty #[v]).run P w = .ok (.int .i64 (xs.length : Int)) w := by
  rcases h.2.1 with ⟨rfl, rfl⟩ | ⟨g, cap, rfl, _⟩ <;> simp [Builtin.len_, run_underlying hT, goInt]

theorem take_drop_left {β : Type} {a b : List β} {i s : Nat} (h : i + s ≤ a.length) : ((a ++ b).drop i).take s = (a.drop i).take s := by
  rw [List.drop_append_of_le_length (by omega), List.take_append_of_le_length (by rw [List.length_drop]; omega)]
theorem mul_step {i k s : Nat} (h : i < k) : i * s + s ≤ k * s := by
  have := Nat.mul_le_mul_right s (show i + 1 ≤ k by omega)
  rw [Nat.add_mul, Nat.one_mul] at this
  exact this

theorem AR.len {vs : List Value} {xs : List α} (h : AR R c vs xs) (hp : 0 < R.size) : xs.length * R.size ≤ vs.length := by
  rcases Nat.eq_zero_or_pos xs.length with h0 | h0
  · rw [h0, Nat.zero_mul]; exact Nat.zero_le _
  · have hx : xs[xs.length - 1]? = some xs[xs.length - 1] := List.getElem?_eq_getElem (by omega)
    have := R.len (h _ _ hx)
    rw [List.length_take, List.length_drop] at this
    have e : xs.length * R.size = (xs.length - 1) * R.size + R.size := by
      conv => lhs; rw [show xs.length = xs.length - 1 + 1 by omega, Nat.add_mul, Nat.one_mul]
    omega

/-- What may no longer be written is a slice that stays. -/
theorem OA.sl {v : Value} {E : TypeId} {vs : List Value} {xs : List α} (h : OA R c v vs xs) (hon : (es false R v E vs xs).on c) : Sl R c v xs := by
  obtain ⟨hp, h1, h2⟩ := h
  rcases h1 with ⟨rfl, rfl⟩ | ⟨g, cap, rfl, hc, hm, hcs⟩
  · exact Sl.nl R c
  · obtain ⟨h3, h4⟩ := hon g rfl
    refine ⟨_, cap, rfl, hc, hm, fun i x hx => ⟨g, 0, _, rfl, h2 i x hx, fun j u hu => ?_⟩⟩
    have hj : j < R.size ∧ vs[i * R.size + j]? = some u := by
      rw [List.getElem?_take] at hu
      split at hu
      · rename_i hj
        exact ⟨hj, by rwa [List.getElem?_drop] at hu⟩
      · cases hu
    have hi := mul_step (s := R.size) (List.getElem?_eq_some_iff.1 hx).1
    refine ⟨(Array.getElem?_eq_some_iff.1 h3).1, fun hA => ?_, ?_⟩
    · have := (h4 _).1 hA
      simp only [es, cond_false] at this
      omega
    · rw [cell_of_row _ _ _ _ _ _ h3, List.getElem?_toArray, Nat.zero_add]
      exact hj.2
/-- From here on its members stay. -/
theorem Own.frz {v : Value} {E : TypeId} {vs : List Value} {xs : List α} (k : Nat) (O : Own c G F) (hk : F[k]? = some (es true R v E vs xs)) (h : OA R c v vs xs) :
    ∃ c', c'.w = c.w ∧ c.le c' ∧ Own c' G (F.set k (es false R v E vs xs)) ∧ Sl R c' v xs := by
  have hon := O.on k hk
  let c' : Cx := ⟨c.w, fun b o => c.A b o ∧ ¬ (blk v = some b ∧ o < xs.length * R.size), c.t⟩
  have hle : c.le c' := ⟨rfl, rfl, Nat.le_refl _, fun _ _ _ h => ⟨rfl, fun h2 => h h2.1⟩, fun _ _ _ => rfl, fun _ _ _ => rfl, fun _ _ _ h => h⟩
  have hb : c.but (fun b => blk v = some b) c' := ⟨hle, rfl, fun b hb hd => ⟨rfl, fun o => ⟨fun h => h.1, fun h => ⟨h, fun h2 => hd h2.1⟩⟩⟩⟩
  have hon' : (es false R v E vs xs).on c' := fun b hb => by
    obtain ⟨h1, h2⟩ := hon b hb
    refine ⟨h1, fun o => ?_⟩
    have hb' : blk v = some b := hb
    simp only [c', hb', true_and, es, cond_false]
    rw [h2 o]
    simp [es]
  exact ⟨c', rfl, hle, O.set k hk hb (fun b h => h) hon' (fun b h => .inl h), (h.mono hle).sl hon'⟩
theorem Own.slf {v : Value} {E : TypeId} {vs : List Value} {xs : List α} (k : Nat) (O : Own c G F) (hk : F[k]? = some (es false R v E vs xs)) (h : OA R c v vs xs) : Sl R c v xs := h.sl (O.on k hk)

/-- The cells of a slice, one behind the other. -/
theorem Sl.flat {u : Value} {ys : List α} (h : Sl R c u ys) : ∃ nw : List Value, nw.length = ys.length * R.size ∧ (∀ j w, nw[j]? = some w → Im c (sb u) (so u + j) w) ∧ (∀ w ∈ nw, w.oneCell' = true) ∧
    (∀ i x, ys[i]? = some x → R.cells c ((nw.drop (i * R.size)).take R.size) x) := by
  suffices ∀ k, k ≤ ys.length → ∃ nw : List Value, nw.length = k * R.size ∧ (∀ j w, nw[j]? = some w → Im c (sb u) (so u + j) w) ∧ (∀ w ∈ nw, w.oneCell' = true) ∧
      (∀ i x, i < k → ys[i]? = some x → R.cells c ((nw.drop (i * R.size)).take R.size) x) by
    obtain ⟨nw, h1, h2, h3, h4⟩ := this ys.length (Nat.le_refl _)
    exact ⟨nw, h1, h2, h3, fun i x hx => h4 i x (List.getElem?_eq_some_iff.1 hx).1 hx⟩
  intro k
  induction k with
  | zero => exact fun _ => ⟨[], by simp, by simp, by simp, fun i x hi => by omega⟩
  | succ k ih =>
    intro hk
    obtain ⟨nw, h1, h2, h3, h4⟩ := ih (by omega)
    have hx : ys[k]? = some ys[k] := List.getElem?_eq_getElem (by omega)
    obtain ⟨l, hl, hc⟩ := h.at hx
    have hll := R.len hl
    refine ⟨nw ++ l, by rw [List.length_append, h1, hll, Nat.add_mul, Nat.one_mul], fun j w hw => ?_, fun w hw => ?_, fun i x hi hxi => ?_⟩
    · rcases Nat.lt_or_ge j nw.length with hj | hj
      · rw [List.getElem?_append_left hj] at hw
        exact h2 j w hw
      · rw [List.getElem?_append_right hj] at hw
        have := hc _ _ hw
        rw [h1] at this
        rwa [show so u + k * R.size + (j - k * R.size) = so u + j by omega] at this
    · rcases List.mem_append.1 hw with hw | hw
      · exact h3 w hw
      · exact R.one hl w hw
    · rcases Nat.lt_or_ge i k with hik | hik
      · rw [take_drop_left (by rw [h1]; exact mul_step hik)]
        exact h4 i x hik hxi
      · obtain rfl : i = k := by omega
        rw [hx] at hxi
        cases hxi
        rw [← h1, List.drop_left, List.take_of_length_le (by omega)]
        exact hl

theorem size_zeroCells' (z : Array Value) (n : Nat) : (Builtin.zeroCells z n).size = n * z.size := by simp [Builtin.zeroCells]

/-- 'append' to a slice of the call's own. -/
theorem append_src {E t ty : TypeId} {v : Value} {vs : List Value} {xs ys zs : List α} {z : Value} {by_ : Nat} {m : Bool} {ua : Option Addr} {ucap : Nat} {nw : List Value} (k : Nat) (O : Own c G F) (hk : F[k]? = some (es m R v E vs xs)) (h : OA R c v vs xs)
    (n1 : nw.length = ys.length * R.size) (n2 : ys ≠ [] → ∃ ub uo, ua = some ⟨ub, uo, none⟩ ∧ ∀ j w, nw[j]? = some w → c.w.cell? ⟨ub, uo + j, none⟩ = some w) (n3 : ∀ w ∈ nw, w.oneCell' = true) (n4 : ∀ i x, ys[i]? = some x → R.cells c ((nw.drop (i * R.size)).take R.size) x) (happ : app xs ys = some zs)
    (hT : P.underlying t = some (.slice E)) (hi : (P.info? E).map (fun i => (i.zero, i.size, i.bytes)) = some (some z, R.size, by_)) (hz : z.cells.size = R.size) (hby : Nat.ble by_ 128 = true) :
    ∃ v' c', (Builtin.append_ #[t, t] ty #[v, .slice ua ys.length ucap]).run P c.w = .ok v' c'.w ∧ c.le c' ∧ ∃ vs', Own c' G (F.set k (es m R v' E vs' zs)) ∧ OA R c' v' vs' zs := by
  have hby := Nat.le_of_ble_eq_true hby
  have hfar : xs.length + ys.length ≤ far ∧ xs ++ ys = zs := by
    unfold app at happ
    split at happ
    · exact ⟨by assumption, by simpa using happ⟩
    · cases happ
  obtain ⟨hfar, rfl⟩ := hfar
  unfold far at hfar
  obtain ⟨ti, hti, hzz⟩ := Option.map_eq_some_iff.1 hi
  simp only [Prod.mk.injEq] at hzz
  obtain ⟨hz1, hz2, hz3⟩ := hzz
  have hon := O.on k hk
  have hklt := (List.getElem?_eq_some_iff.1 hk).1
  have hh := h
  obtain ⟨hp, h1, h2⟩ := h
  by_cases hys : ys = []
  · subst hys
    refine ⟨v, c, ?_, Cx.le.refl c, vs, ?_, by rw [List.append_nil]; exact hh⟩
    · rcases h1 with ⟨rfl, rfl⟩ | ⟨g, cap, rfl, hcap, _⟩
      · cases ua <;> simp [Builtin.append_, run_underlying hT, sizeOf, typeInfo, hti, Builtin.lenOf, Builtin.firstCells, loadCells, loadCellsFrom, storeCells]
      · cases ua <;> simp [Builtin.append_, run_underlying hT, sizeOf, typeInfo, hti, Builtin.lenOf, Builtin.firstCells, loadCells, loadCellsFrom, storeCells, hcap]
    · rw [List.append_nil]
      have : F.set k (es m R v E vs xs) = F := by
        apply List.ext_getElem?
        intro j
        by_cases hj : k = j
        · subst hj; rw [List.getElem?_set_self hklt, hk]
        · rw [List.getElem?_set_ne hj]
      rw [this]; exact O
  · have hpos : 0 < ys.length := by
      rcases Nat.eq_zero_or_pos ys.length with h | h
      · exact absurd (List.eq_nil_of_length_eq_zero h) hys
      · exact h
    obtain ⟨ub, uo, hua, n5⟩ := n2 hys
    subst hua
    have hcells : ∀ j w, nw[j]? = some w → c.w.cell? ((⟨ub, uo, none⟩ : Addr).add j) = some w := fun j w hw => by
      rw [Addr.add_lit]
      exact n5 j w hw
    have hN : (xs ++ ys).length = xs.length + ys.length := List.length_append
    have hxl := h2.len hp
    have helem : ∀ (c' : Cx) (tail : List Value), c.le c' → AR R c' (vs.take (xs.length * R.size) ++ nw ++ tail) (xs ++ ys) := fun c' tail hcc i x hx => by
      have hlt : (vs.take (xs.length * R.size)).length = xs.length * R.size := by rw [List.length_take]; omega
      rcases Nat.lt_or_ge i xs.length with hi' | hi'
      · have hm := mul_step (s := R.size) hi'
        rw [List.append_assoc, take_drop_left (by rw [hlt]; exact hm)]
        rw [List.getElem?_append_left hi'] at hx
        have := h2 i x hx
        rw [List.drop_take, List.take_take, show min R.size (xs.length * R.size - i * R.size) = R.size by omega]
        exact R.mono hcc this
      · rw [List.getElem?_append_right hi'] at hx
        have h4 := n4 _ _ hx
        have hiy := mul_step (s := R.size) (List.getElem?_eq_some_iff.1 hx).1
        have e : i * R.size = xs.length * R.size + (i - xs.length) * R.size := by rw [← Nat.add_mul]; congr 1; omega
        have e2 : (vs.take (xs.length * R.size) ++ (nw ++ tail)).drop (xs.length * R.size) = nw ++ tail := by
          conv => lhs; arg 1; rw [← hlt]
          exact List.drop_left
        rw [List.append_assoc, e, ← List.drop_drop, e2, take_drop_left (by rw [n1]; omega)]
        exact R.mono hcc h4
    have hbytes : (xs.length + ys.length) * ti.bytes ≤ 140737488355328 := by
      rw [hz3]
      exact Nat.le_trans (Nat.mul_le_mul hfar hby) (by decide)
    have fresh : ∀ old, old < xs.length + ys.length →
        ∃ v' c', Result.ok (α := Value) (.slice (some ⟨c.w.heap.size, 0, none⟩) (xs.length + ys.length) (grownCap c.w (xs.length + ys.length) old E)) (c.w.drew.alloc (.cells ((vs.take (xs.length * R.size)).toArray ++ nw.toArray ++ Builtin.zeroCells z.cells (grownCap c.w (xs.length + ys.length) old E - (xs.length + ys.length))) E)) = .ok v' c'.w ∧ c.le c' ∧
        ∃ vs', Own c' G (F.set k (es m R v' E vs' (xs ++ ys))) ∧ OA R c' v' vs' (xs ++ ys) := by
      intro old ho
      have hge := grownCap_ge c.w (xs.length + ys.length) old E
      have hcm : grownCap c.w (xs.length + ys.length) old E ≤ maxLen := grownCap_le_maxLen c.w _ old E (by unfold maxLen; omega)
      have hd := Cx.drew_le c
      obtain ⟨c', e1, e2, e3, e4, e5⟩ := Cx.new ⟨c.w.drew, c.A, c.t⟩ ((vs.take (xs.length * R.size)) ++ nw ++ (Builtin.zeroCells z.cells (grownCap c.w (xs.length + ys.length) old E - (xs.length + ys.length))).toList) E (cond m 0 ((xs ++ ys).length * R.size))
      have ea : ((vs.take (xs.length * R.size)) ++ nw ++ (Builtin.zeroCells z.cells (grownCap c.w (xs.length + ys.length) old E - (xs.length + ys.length))).toList).toArray = (vs.take (xs.length * R.size)).toArray ++ nw.toArray ++ Builtin.zeroCells z.cells (grownCap c.w (xs.length + ys.length) old E - (xs.length + ys.length)) := by
        apply Array.ext'; simp
      refine ⟨.slice (some ⟨c.w.heap.size, 0, none⟩) (xs.length + ys.length) (grownCap c.w (xs.length + ys.length) old E), c', by rw [e1, ea], hd.le.trans e2.le, (vs.take (xs.length * R.size)) ++ nw ++ (Builtin.zeroCells z.cells (grownCap c.w (xs.length + ys.length) old E - (xs.length + ys.length))).toList, Own.set (O.keep hd) k hk e2 (fun b (h : False) => h.elim) (fun b hb => ?_) (fun b hb => ?_), hp, .inr ⟨c.w.heap.size, _, by rw [hN], by rw [hN]; exact hge, hcm, ?_⟩, ?_⟩
      · simp only [es, blk, Option.some.injEq] at hb; subst hb; exact ⟨e3, e5⟩
      · simp only [es, blk, Option.some.injEq] at hb; subst hb; exact .inr (Nat.le_refl _)
      · simp only [List.length_append, Array.length_toList, size_zeroCells', hz, n1, List.length_take]
        have : grownCap c.w (xs.length + ys.length) old E * R.size = xs.length * R.size + ys.length * R.size + (grownCap c.w (xs.length + ys.length) old E - (xs.length + ys.length)) * R.size := by
          rw [← Nat.add_mul, ← Nat.add_mul]; congr 1; omega
        rw [this, Nat.min_eq_left hxl]
        exact Nat.le_refl _
      · exact helem c' _ (hd.le.trans e2.le)
    rcases h1 with ⟨rfl, rfl⟩ | ⟨g, cap, rfl, hnc, hcm, hcs⟩
    · have hr := run_append_nil (P := P) c.w t ty E ti z hT hti hz1 ⟨ub, uo, none⟩ ys.length ucap nw (by rw [n1, hz2]) hcells hpos (by simp at hfar; omega) (by have := hbytes; simp at this; omega)
      have := fresh 0 (by simpa using hpos)
      simp only [List.length_nil, Nat.zero_add, Nat.zero_mul, List.take_zero, Array.empty_append, List.nil_append] at this hr ⊢
      rw [hr]
      simpa using this
    · obtain ⟨hg, hA⟩ := hon g rfl
      by_cases hroom : xs.length + ys.length ≤ cap
      · have hfit : xs.length * R.size + nw.length ≤ vs.length := by
          rw [n1, ← Nat.add_mul]
          exact Nat.le_trans (Nat.mul_le_mul_right _ hroom) hcs
        have hr := run_append_room (P := P) c.w t ty E ti hT hti g xs.length cap vs.toArray hg ⟨ub, uo, none⟩ ys.length ucap nw (by rw [n1, hz2]) hcells n3 hroom (by rw [hz2]; simpa using hfit)
        rw [hz2] at hr
        simp only at hr
        obtain ⟨c', e1, e2, e3, e4⟩ := Cx.row (m := vs.take (xs.length * R.size) ++ nw ++ vs.drop (xs.length * R.size + nw.length)) hg _ hA (fun o ho => by
          have ho : o < xs.length * R.size := by
            cases m
            · exact ho
            · exact absurd ho (Nat.not_lt_zero _)
          rw [List.append_assoc, List.getElem?_append_left (by rw [List.length_take]; omega), List.getElem?_take, if_pos ho]
          rfl) (cond m 0 ((xs ++ ys).length * R.size)) (by
            cases m
            · simp only [es, cond_false]; exact Nat.mul_le_mul_right _ (by rw [hN]; omega)
            · exact Nat.le_refl _)
        refine ⟨.slice (some ⟨g, 0, none⟩) (xs.length + ys.length) cap, c', by rw [hr, e1], e2.le, vs.take (xs.length * R.size) ++ nw ++ vs.drop (xs.length * R.size + nw.length), Own.set O k hk e2 (fun b h => by subst h; rfl) (fun b hb => ?_) (fun b hb => .inl hb), hp, .inr ⟨g, cap, by rw [hN], by rw [hN]; exact hroom, hcm, ?_⟩, helem c' _ e2.le⟩
        · simp only [es, blk, Option.some.injEq] at hb; subst hb; exact ⟨e3, e4⟩
        · simp only [List.length_append, List.length_drop, List.length_take]
          omega
      · have holds : ∀ j w, (vs.take (xs.length * R.size))[j]? = some w → c.w.cell? ((⟨g, 0, none⟩ : Addr).add j) = some w := fun j w hw => by
          rw [Addr.add_lit, Nat.zero_add, cell_of_row _ _ _ _ _ _ hg, List.getElem?_toArray]
          rw [List.getElem?_take] at hw
          split at hw
          · exact hw
          · cases hw
        have hr := run_append_grow (P := P) c.w t ty E ti z hT hti hz1 ⟨g, 0, none⟩ xs.length cap (vs.take (xs.length * R.size)) (by rw [List.length_take, hz2]; omega) holds ⟨ub, uo, none⟩ ys.length ucap nw (by rw [n1, hz2]) hcells (by omega) (by omega) (growslice_fits (by omega) hbytes)
        rw [hr]
        exact fresh cap (by omega)
theorem append_ow {E t ty : TypeId} {v u : Value} {vs : List Value} {xs ys zs : List α} {z : Value} {by_ : Nat} {m : Bool} (k : Nat) (O : Own c G F) (hk : F[k]? = some (es m R v E vs xs)) (h : OA R c v vs xs) (hS : Sl R c u ys) (happ : app xs ys = some zs)
    (hT : P.underlying t = some (.slice E)) (hi : (P.info? E).map (fun i => (i.zero, i.size, i.bytes)) = some (some z, R.size, by_)) (hz : z.cells.size = R.size) (hby : Nat.ble by_ 128 = true) :
    ∃ v' c', (Builtin.append_ #[t, t] ty #[v, u]).run P c.w = .ok v' c'.w ∧ c.le c' ∧ ∃ vs', Own c' G (F.set k (es m R v' E vs' zs)) ∧ OA R c' v' vs' zs := by
  obtain ⟨nw, n1, n2, n3, n4⟩ := hS.flat
  obtain ⟨ua, ucap, rfl, hu1, hu2, hu3⟩ := hS
  refine append_src k O hk h n1 (fun hys => ?_) n3 n4 happ hT hi hz hby
  have hpos : 0 < ys.length := by
    rcases Nat.eq_zero_or_pos ys.length with h | h
    · exact absurd (List.eq_nil_of_length_eq_zero h) hys
    · exact h
  obtain ⟨ub, uo, _, hua, _⟩ := hu3 0 ys[0] (List.getElem?_eq_getElem hpos)
  subst hua
  exact ⟨ub, uo, rfl, fun j w hw => (n2 j w hw).cell⟩
end
end Go.Lt
