/-
  The memory part of our own walk kit: contexts, what of memory stays, data that slices hold, and the laws of the operations on them. No condition; nothing of any program stands here.
-/
import Derived.Test.YtjclbilkinepmaaLt
namespace Go.Lt

/-! ### contexts: a world, and the cells (block, place) that may still be written -/
structure Cx where
  w : World
  A : Nat → Nat → Prop

/-- What of memory lay outside A stays, and stays outside. -/
structure Cx.le (c c' : Cx) : Prop where
  size : c.w.heap.size ≤ c'.w.heap.size
  cell : ∀ k o, k < c.w.heap.size → ¬ c.A k o → c'.w.cell? ⟨k, o, none⟩ = c.w.cell? ⟨k, o, none⟩ ∧ ¬ c'.A k o

/-- All that was there stays as it was. -/
structure Cx.ext (c c' : Cx) : Prop where
  os : c'.w.os = c.w.os
  tape : c'.w.tape = c.w.tape
  output : c'.w.output = c.w.output
  size : c.w.heap.size ≤ c'.w.heap.size
  block : ∀ k, k < c.w.heap.size → c'.w.heap[k]? = c.w.heap[k]?
  A : ∀ k o, k < c.w.heap.size → (c'.A k o ↔ c.A k o)
  frz : ∀ a, c'.w.frozen? a = c.w.frozen? a

theorem Cx.le.refl (c : Cx) : c.le c := ⟨Nat.le_refl _, fun _ _ _ h => ⟨rfl, h⟩⟩
theorem Cx.le.trans {a b c : Cx} (h : a.le b) (k : b.le c) : a.le c :=
  ⟨Nat.le_trans h.size k.size, fun i o hi hA => by
    obtain ⟨h1, h2⟩ := h.cell i o hi hA
    obtain ⟨k1, k2⟩ := k.cell i o (Nat.lt_of_lt_of_le hi h.size) h2
    exact ⟨k1.trans h1, k2⟩⟩
theorem Cx.ext.refl (c : Cx) : c.ext c := ⟨rfl, rfl, rfl, Nat.le_refl _, fun _ _ => rfl, fun _ _ _ => Iff.rfl, fun _ => rfl⟩
theorem Cx.ext.trans {a b c : Cx} (h : a.ext b) (k : b.ext c) : a.ext c :=
  ⟨k.os.trans h.os, k.tape.trans h.tape, k.output.trans h.output, Nat.le_trans h.size k.size,
   fun i hi => (k.block i (Nat.lt_of_lt_of_le hi h.size)).trans (h.block i hi),
   fun i o hi => (k.A i o (Nat.lt_of_lt_of_le hi h.size)).trans (h.A i o hi), fun a => (k.frz a).trans (h.frz a)⟩
theorem Cx.ext.le {a b : Cx} (h : a.ext b) : a.le b :=
  ⟨h.size, fun k o hk hA => ⟨World.cell?_of_block (w := a.w) (a := ⟨k, o, none⟩) (h.block k hk), fun hb => hA ((h.A k o hk).1 hb)⟩⟩
theorem Cx.ext.below {a b : Cx} (h : a.ext b) : RowKit.Below a.w.heap.size a.w b.w := ⟨h.os, h.tape, h.output, h.size, h.block⟩

/-- A new block; M: which of its places may still be written. -/
def Cx.new (c : Cx) (o : Obj) (M : Nat → Prop) : Cx := ⟨c.w.alloc o, fun k p => (k < c.w.heap.size ∧ c.A k p) ∨ (k = c.w.heap.size ∧ M p)⟩
theorem Cx.ext_new (c : Cx) (l : Array Value) (T : TypeId) (M : Nat → Prop) : c.ext (c.new (.cells l T) M) :=
  ⟨rfl, rfl, rfl, by simp [Cx.new], fun k hk => RowKit.Below.heap_alloc _ _ _ hk, fun k p hk => by
    simp only [Cx.new]
    constructor
    · rintro (h | h)
      · exact h.2
      · omega
    · exact fun h => .inl ⟨hk, h⟩, fun a => RowKit.frozen?_alloc_cells _ _ _ _⟩
def Cx.drew (c : Cx) : Cx := ⟨c.w.drew, c.A⟩
theorem Cx.ext_drew (c : Cx) : c.ext c.drew := ⟨rfl, rfl, rfl, Nat.le_refl _, fun _ _ => rfl, fun _ _ _ => Iff.rfl, fun _ => rfl⟩
theorem Cx.ext.grown {c c' : Cx} (h : c.ext c') : RowKit.Grown c.w c'.w :=
  ⟨⟨h.os, h.output, fun i hi => by
    rw [h.block i hi]
    have := World.keptBut_refl c.w fun _ => False
    exact this.2.2 i hi⟩, h.frz, h.size⟩
theorem frozen?_row {w w' : World} {b : Nat} {l m : Array Value} {T : TypeId} (h : w.heap[b]? = some (.cells l T (0, 0))) (h' : w'.heap[b]? = some (.cells m T (0, 0))) (ho : ∀ k, k ≠ b → w'.heap[k]? = w.heap[k]?) (a : Addr) : w'.frozen? a = w.frozen? a := by
  by_cases hk : a.block = b
  · simp [World.frozen?, hk, h, h']
  · simp [World.frozen?, ho _ hk]

/-! ### a cell that stays -/
structure Im (c : Cx) (b o : Nat) (v : Value) : Prop where
  lt : b < c.w.heap.size
  nA : ¬ c.A b o
  cell : c.w.cell? ⟨b, o, none⟩ = some v
theorem Im.mono {c c' : Cx} {b o : Nat} {v : Value} (h : Im c b o v) (k : c.le c') : Im c' b o v := by
  obtain ⟨h1, h2⟩ := k.cell b o h.lt h.nA
  exact ⟨Nat.lt_of_lt_of_le h.lt k.size, h2, h1.trans h.cell⟩
theorem Im.new {c : Cx} {vs : Array Value} {T : TypeId} {M : Nat → Prop} {o : Nat} {v : Value} (h : vs[o]? = some v) (hM : ¬ M o) : Im (c.new (.cells vs T) M) c.w.heap.size o v :=
  ⟨by simp [Cx.new], by simp [Cx.new, hM], by simp [Cx.new, h]⟩

/-! ### how data lie in cells -/
structure Rp (α : Type) where
  size : Nat
  cells : Cx → List Value → α → Prop
  len : ∀ {c l x}, cells c l x → l.length = size
  one : ∀ {c l x}, cells c l x → ∀ v ∈ l, v.oneCell' = true
  mono : ∀ {c c' l x}, c.le c' → cells c l x → cells c' l x

def RI (k : IntKind) : Rp Int where
  size := 1
  cells := fun _ l n => l = [.int k n]
  len := fun h => by simp [h]
  one := fun h v hv => by rw [h] at hv; simp at hv; subst hv; rfl
  mono := fun _ h => h
def RB : Rp Bool where
  size := 1
  cells := fun _ l n => l = [.bool n]
  len := fun h => by simp [h]
  one := fun h v hv => by rw [h] at hv; simp at hv; subst hv; rfl
  mono := fun _ h => h
def RS : Rp ByteArray where
  size := 1
  cells := fun _ l n => l = [.string n]
  len := fun h => by simp [h]
  one := fun h v hv => by rw [h] at hv; simp at hv; subst hv; rfl
  mono := fun _ h => h

/-- The slice v holds the list xs. -/
def Sl {α : Type} (R : Rp α) (c : Cx) (v : Value) (xs : List α) : Prop :=
  ∃ a cap, v = .slice a xs.length cap ∧ xs.length ≤ cap ∧ cap ≤ maxLen ∧
    ∀ i x, xs[i]? = some x → ∃ b off l, a = some ⟨b, off, none⟩ ∧ R.cells c l x ∧ ∀ j u, l[j]? = some u → Im c b (off + i * R.size + j) u

theorem Sl.mono {α : Type} {R : Rp α} {c c' : Cx} {v : Value} {xs : List α} (h : Sl R c v xs) (k : c.le c') : Sl R c' v xs := by
  obtain ⟨a, cap, h1, h2, h3, h4⟩ := h
  refine ⟨a, cap, h1, h2, h3, fun i x hx => ?_⟩
  obtain ⟨b, off, l, e, hl, hc⟩ := h4 i x hx
  exact ⟨b, off, l, e, R.mono k hl, fun j u hu => (hc j u hu).mono k⟩
theorem Sl.one {α : Type} {R : Rp α} {c : Cx} {v : Value} {xs : List α} (h : Sl R c v xs) : v.oneCell' = true := by
  obtain ⟨a, cap, rfl, _⟩ := h; rfl
theorem Sl.len_le {α : Type} {R : Rp α} {c : Cx} {v : Value} {xs : List α} (h : Sl R c v xs) : xs.length ≤ 9223372036854775807 := by
  obtain ⟨a, cap, _, h1, h2, _⟩ := h
  unfold maxLen at h2
  omega
theorem Sl.nil {α : Type} (R : Rp α) (c : Cx) (a : Option Addr) (cap : Nat) (h : cap ≤ maxLen) : Sl R c (.slice a 0 cap) [] :=
  ⟨a, cap, rfl, Nat.zero_le _, h, fun i x hx => by simp at hx⟩

def RL {α : Type} (R : Rp α) : Rp (List α) where
  size := 1
  cells := fun c l xs => ∃ v, l = [v] ∧ Sl R c v xs
  len := fun ⟨v, h, _⟩ => by simp [h]
  one := fun ⟨v, h, hs⟩ u hu => by rw [h] at hu; simp at hu; subst hu; exact hs.one
  mono := fun k ⟨v, h, hs⟩ => ⟨v, h, hs.mono k⟩

/-- The block and the place at which a slice begins. -/
def sb : Value → Nat
  | .slice (some a) _ _ => a.block
  | _ => 0
def so : Value → Nat
  | .slice (some a) _ _ => a.off
  | _ => 0

theorem Sl.at {α : Type} {R : Rp α} {c : Cx} {v : Value} {xs : List α} (h : Sl R c v xs) {i : Nat} {x : α} (hx : xs[i]? = some x) :
    ∃ l, R.cells c l x ∧ ∀ j u, l[j]? = some u → Im c (sb v) (so v + i * R.size + j) u := by
  obtain ⟨a, cap, rfl, _, _, h4⟩ := h
  obtain ⟨b, off, l, rfl, hl, hc⟩ := h4 i x hx
  exact ⟨l, hl, hc⟩

/-! ### data-level operations that can fail -/
def idx {α : Type} (xs : List α) (i : Int) : Option α := if 0 ≤ i then xs[i.toNat]? else none
def slc {α : Type} (xs : List α) (i j : Int) : Option (List α) := if 0 ≤ i ∧ i ≤ j ∧ j ≤ xs.length then some ((xs.drop i.toNat).take (j - i).toNat) else none
/-- The bound under which lists are made longer. -/
def far : Nat := 1099511627776
def app {α : Type} (xs ys : List α) : Option (List α) := if xs.length + ys.length ≤ far then some (xs ++ ys) else none
def rep {α : Type} (n : Int) (x : α) : Option (List α) := if 0 ≤ n ∧ n ≤ far then some (List.replicate n.toNat x) else none

/-! ### the operations' laws -/
section
variable {P : Program} {c : Cx}

theorem run_index {α : Type} {R : Rp α} {v : Value} {xs : List α} {T E : TypeId} {k : IntKind} {i : Int} {x : α} (hT : P.underlying T = some (.slice E)) (hE : (P.info? E).map (·.size) = some R.size)
    (h : Sl R c v xs) (hi : idx xs i = some x) : (Instr.indexAt T v (.int k i)).run P c.w = .ok (.pointer (some ⟨sb v, so v + i.toNat * R.size, none⟩)) c.w := by
  obtain ⟨a, cap, rfl, _, _, h4⟩ := h
  unfold idx at hi
  split at hi
  · rename_i h0
    have hlt : i.toNat < xs.length := by
      rcases Nat.lt_or_ge i.toNat xs.length with h | h
      · exact h
      · rw [List.getElem?_eq_none h] at hi; cases hi
    obtain ⟨b, off, l, rfl, _, _⟩ := h4 _ _ hi
    obtain ⟨ti, hti, hsz⟩ := Option.map_eq_some_iff.1 hE
    have hlt' : i < xs.length := by omega
    simp [Instr.indexAt, asIntOf, run_underlying hT, h0, hlt', sizeOf, typeInfo, hti, hsz, sb, so, Addr.add_lit]
  · cases hi

theorem run_load1 {T : TypeId} {b o : Nat} {v : Value} {d : TypeDesc} (hT : P.underlying T = some d) (hd : (match d with | .struct _ | .array _ _ => false | _ => true) = true)
    (h : Im c b o v) : (Instr.loadAt T (.pointer (some ⟨b, o, none⟩))).run P c.w = .ok v c.w := by
  cases d <;> simp_all [Instr.loadAt, Instr.sureAddr, loadVar, isAgg, run_underlying hT, load, Sem.run, h.cell]
theorem rv {s : Sem Value} {w w' : World} {v : Value} (h : s.run P w = .ok v w') : (do pure (Next.value (← s)) : Sem Next).run P w = .ok (.value v) w' := by
  simp [h, Result.andThen]

theorem rs {s : Sem Unit} {w w' : World} (h : s.run P w = .ok () w') : (do s; pure Next.skip : Sem Next).run P w = .ok .skip w' := by
  simp [h, Result.andThen]

theorem rx {ρ : Operand → Value} {o : Oper} {s : Sem Value} {w w' : World} {v : Value} (hx : execOp ρ o = (do pure (Next.value (← s)) : Sem Next)) (h : s.run P w = .ok v w') : (execOp ρ o).run P w = .ok (.value v) w' := by
  rw [hx]
  exact rv h

theorem run_len {α : Type} {R : Rp α} {v : Value} {xs : List α} {T E ty : TypeId} (hT : P.underlying T = some (.slice E)) (h : Sl R c v xs) :
    (Builtin.len_ #[T] ty #[v]).run P c.w = .ok (.int .i64 (xs.length : Int)) c.w := by
  obtain ⟨a, cap, rfl, _⟩ := h
  simp [Builtin.len_, run_underlying hT, goInt]

theorem idx_get {α : Type} {xs : List α} {i : Int} {x : α} (h : idx xs i = some x) : xs[i.toNat]? = some x := by
  unfold idx at h
  split at h
  · exact h
  · cases h

theorem run_loadCellsFrom (b : Nat) : ∀ (l : List Value) (o i : Nat) (acc : Array Value), (∀ j u, l[j]? = some u → c.w.cell? ⟨b, o + i + j, none⟩ = some u) →
    (loadCellsFrom ⟨b, o, none⟩ i l.length acc).run P c.w = .ok (acc ++ l.toArray) c.w := by
  intro l
  induction l with
  | nil => intro o i acc h; simp [loadCellsFrom]
  | cons v l ih =>
    intro o i acc h
    have h0 := h 0 v rfl
    simp only [Nat.add_zero] at h0
    simp only [List.length_cons, loadCellsFrom, Addr.add_lit, load, Sem.run_bind, Sem.run, h0, Result.andThen]
    rw [ih o (i + 1) (acc.push v) (fun j u hu => by have := h (j + 1) u hu; rwa [show o + i + (j + 1) = o + (i + 1) + j by omega] at this)]
    simp

theorem run_loadC {T : TypeId} {b o : Nat} {l : List Value} (hT : (P.underlying T).map (fun d => match d with | .struct _ | .array _ _ => true | _ => false) = some true) (hs : (P.info? T).map (·.size) = some l.length)
    (h : ∀ j u, l[j]? = some u → c.w.cell? ⟨b, o + j, none⟩ = some u) : (loadVar T ⟨b, o, none⟩).run P c.w = .ok (.agg l.toArray) c.w := by
  obtain ⟨ti, hti, hsz⟩ := Option.map_eq_some_iff.1 hs
  obtain ⟨d, hd, hag⟩ := Option.map_eq_some_iff.1 hT
  have h1 := run_loadCellsFrom (P := P) (c := c) b l o 0 #[] (fun j u hu => h j u hu)
  have h2 : (isAgg T).run P c.w = .ok true c.w := by
    cases d <;> simp_all [isAgg, run_underlying hd]
  rw [← hsz] at h1
  simp [loadVar, h2, sizeOf, typeInfo, hti, loadCells, h1, Result.andThen]

theorem run_loadN {T : TypeId} {b o : Nat} {l : List Value} (hT : (P.underlying T).map (fun d => match d with | .struct _ | .array _ _ => true | _ => false) = some true) (hs : (P.info? T).map (·.size) = some l.length)
    (h : ∀ j u, l[j]? = some u → Im c b (o + j) u) : (Instr.loadAt T (.pointer (some ⟨b, o, none⟩))).run P c.w = .ok (.agg l.toArray) c.w := by
  simp only [Instr.loadAt, Instr.sureAddr, Sem.run_bind, Sem.run_pure, Result.andThen]
  exact run_loadC hT hs fun j u hu => (h j u hu).cell

theorem WL.box {n : Nat} {ops : Array Oper} {Q : Exit → (Nat → Value) → World → Prop} {rest : List Oper} {o : Oper} {e : Nat → Value} {T : TypeId} {vs : List Value} (hg : o.guard = none)
    (hr : (execOp (ev n e) o).run P c.w = .ok (.value (.pointer (some ⟨c.w.heap.size, 0, none⟩))) (c.w.alloc (.cells vs.toArray T)))
    (h : ∀ b c', c.ext c' → (∀ j u, vs[j]? = some u → Im c' b (0 + j) u) → WL P ops n Q rest (upO e o.dst (.pointer (some ⟨b, 0, none⟩))) c'.w) : WL P ops n Q (o :: rest) e c.w :=
  WL.val hg hr (h _ (c.new (.cells vs.toArray T) fun _ => False) (Cx.ext_new _ _ _ _) fun j u hu => by
    rw [Nat.zero_add]
    exact Im.new (by simpa using hu) id)
/-! ### a box of the call's own, that is written -/
structure Bx (base : Nat) (c : Cx) (b : Nat) (T : TypeId) (vs : List Value) : Prop where
  block : c.w.heap[b]? = some (.cells vs.toArray T (0, 0))
  A : ∀ o, c.A b o
  low : base ≤ b
theorem Bx.lt {base : Nat} {b : Nat} {T : TypeId} {vs : List Value} (h : Bx base c b T vs) : b < c.w.heap.size := (Array.getElem?_eq_some_iff.1 h.block).1
theorem Bx.ext {base : Nat} {c' : Cx} {b : Nat} {T : TypeId} {vs : List Value} (h : Bx base c b T vs) (x : c.ext c') : Bx base c' b T vs :=
  ⟨(x.block b h.lt).trans h.block, fun o => (x.A b o h.lt).2 (h.A o), h.low⟩
theorem Bx.cell {base : Nat} {b : Nat} {T : TypeId} {vs : List Value} (h : Bx base c b T vs) (j : Nat) : c.w.cell? ⟨b, j, none⟩ = vs[j]? := by
  simp [World.cell?, h.block]
theorem Bx.free {base : Nat} {b : Nat} {T : TypeId} {vs : List Value} (h : Bx base c b T vs) (j : Nat) : c.w.frozen? ⟨b, j, none⟩ = false := by
  simp [World.frozen?, h.block]

/-- What a box holds, told of its block alone. -/
theorem run_loadB1 {T : TypeId} {b j : Nat} {v : Value} {vs : List Value} {U : TypeId} {d : TypeDesc} (hT : P.underlying T = some d) (hd : (match d with | .struct _ | .array _ _ => false | _ => true) = true)
    (h : c.w.heap[b]? = some (.cells vs.toArray U (0, 0))) (hj : vs[j]? = some v) : (Instr.loadAt T (.pointer (some ⟨b, j, none⟩))).run P c.w = .ok v c.w := by
  have hc : c.w.cell? ⟨b, j, none⟩ = some v := by simp [World.cell?, h, hj]
  cases d <;> simp_all [Instr.loadAt, Instr.sureAddr, loadVar, isAgg, run_underlying hT, load, Sem.run]

theorem run_loadB {T : TypeId} {b j : Nat} {l vs : List Value} {U : TypeId} (hT : (P.underlying T).map (fun d => match d with | .struct _ | .array _ _ => true | _ => false) = some true) (hs : (P.info? T).map (·.size) = some l.length)
    (h : c.w.heap[b]? = some (.cells vs.toArray U (0, 0))) (hl : (vs.drop j).take l.length = l) : (Instr.loadAt T (.pointer (some ⟨b, j, none⟩))).run P c.w = .ok (.agg l.toArray) c.w := by
  simp only [Instr.loadAt, Instr.sureAddr, Sem.run_bind, Sem.run_pure, Result.andThen]
  refine run_loadC hT hs fun i u hu => ?_
  have : (vs.drop j)[i]? = some u := by
    rw [← hl, List.getElem?_take] at hu
    split at hu
    · exact hu
    · cases hu
  rw [List.getElem?_drop] at this
  simp [World.cell?, h, this]

theorem WL.alloc {n : Nat} {ops : Array Oper} {Q : Exit → (Nat → Value) → World → Prop} {rest : List Oper} {o : Oper} {e : Nat → Value} {T : TypeId} {vs : List Value} {base : Nat} (hb : base ≤ c.w.heap.size) (hg : o.guard = none)
    (hr : (execOp (ev n e) o).run P c.w = .ok (.value (.pointer (some ⟨c.w.heap.size, 0, none⟩))) (c.w.alloc (.cells vs.toArray T)))
    (h : ∀ b c', c.ext c' → Bx base c' b T vs → c.w.heap.size ≤ b → WL P ops n Q rest (upO e o.dst (.pointer (some ⟨b, 0, none⟩))) c'.w) : WL P ops n Q (o :: rest) e c.w :=
  WL.val hg hr (h _ (c.new (.cells vs.toArray T) fun _ => True) (Cx.ext_new _ _ _ _) ⟨heap_alloc_new c.w _, fun _ => .inr ⟨rfl, trivial⟩, hb⟩ (Nat.le_refl _))

def allOne : List Value → Prop
  | [] => True
  | u :: l => u.oneCell' = true ∧ allOne l
theorem allOne.mem : ∀ {l : List Value}, allOne l → ∀ u ∈ l, u.oneCell' = true
  | [], _, u, hu => by cases hu
  | a :: l, h, u, hu => by
    rcases List.mem_cons.1 hu with rfl | hu
    · exact h.1
    · exact h.2.mem u hu

theorem run_storeB {base : Nat} {T U : TypeId} {b o : Nat} {us vs : List Value} {v : Value} (hv : v.cells.toList = us) (hs : (P.info? T).map (·.size) = some us.length) (h1 : allOne us) (h : Bx base c b U vs)
    (hl : o + us.length ≤ vs.length) : (Instr.storeAt T (.pointer (some ⟨b, o, none⟩)) v).run P c.w = .ok () (c.w.setRow b (vs.take o ++ us ++ vs.drop (o + us.length)).toArray) := by
  obtain ⟨ti, hti, hsz⟩ := Option.map_eq_some_iff.1 hs
  have h2 := run_storeCells_at P b o U us 0 vs.toArray c.w h.block (by simpa using hl) h1.mem
  have hz : v.cells.size = us.length := by rw [← hv]; simp
  simp only [Nat.add_zero] at h2
  simp [Instr.storeAt, Instr.sureAddr, storeVar, sizeOf, typeInfo, hti, hsz, hz, hv, h2, Result.andThen]

theorem WL.store {n : Nat} {ops : Array Oper} {Q : Exit → (Nat → Value) → World → Prop} {rest : List Oper} {o : Oper} {e : Nat → Value} {T U : TypeId} {b j : Nat} {us vs nw : List Value} {v : Value} {c0 : Cx} (x0 : c0.ext c)
    (hb : Bx c0.w.heap.size c b U vs) (hg : o.guard = none) (hx : execOp (ev n e) o = (do Instr.storeAt T (.pointer (some ⟨b, j, none⟩)) v; pure Next.skip : Sem Next)) (hv : v.cells.toList = us)
    (hs : (P.info? T).map (·.size) = some us.length) (h1 : allOne us) (hl : Nat.ble (j + us.length) vs.length = true) (hn : vs.take j ++ us ++ vs.drop (j + us.length) = nw)
    (h : ∀ c', c.le c' → c0.ext c' → Bx c0.w.heap.size c' b U nw → (∀ k, k ≠ b → c'.w.heap[k]? = c.w.heap[k]?) → c'.A = c.A → c'.w.heap.size = c.w.heap.size → WL P ops n Q rest (upO e o.dst undef) c'.w) : WL P ops n Q (o :: rest) e c.w := by
  subst hn
  have hr := run_storeB (P := P) (T := T) hv hs h1 hb (Nat.le_of_ble_eq_true hl)
  have hbk := setRow_heap c.w b vs.toArray (vs.take j ++ us ++ vs.drop (j + us.length)).toArray U (0, 0) hb.block
  have hoth : ∀ k, k ≠ b → (c.w.setRow b (vs.take j ++ us ++ vs.drop (j + us.length)).toArray).heap[k]? = c.w.heap[k]? := fun k hk => setRow_other c.w b k _ hk
  have hsz : (c.w.setRow b (vs.take j ++ us ++ vs.drop (j + us.length)).toArray).heap.size = c.w.heap.size := by simp [World.setRow]
  refine WL.do_ hg (by rw [hx]; exact rs hr) ?_
  refine h ⟨c.w.setRow b _, c.A⟩ ⟨by rw [hsz]; exact Nat.le_refl _, fun k p hk hA => ⟨?_, hA⟩⟩ ⟨x0.os, x0.tape, x0.output, by rw [hsz]; exact x0.size, fun k hk => ?_, x0.A, fun a => (frozen?_row hb.block hbk hoth a).trans (x0.frz a)⟩ ⟨hbk, hb.A, hb.low⟩ hoth rfl hsz
  · exact World.cell?_of_block (w := c.w) (a := ⟨k, p, none⟩) (hoth k fun e => hA (e ▸ hb.A p))
  · rw [hoth k (by have := hb.low; omega)]
    exact x0.block k hk

/-! ### results that lie in a box -/
theorem retC {n : Nat} {e : Nat → Value} {fn : Func} {R : Ending → World → Prop} {t b : Nat} {T U : TypeId} {vs : List Value} (hr : fn.results = #[.cell t T]) (hv : ev n e (.tmp t) = .pointer (some ⟨b, 0, none⟩))
    (hT : (P.underlying T).map (fun d => match d with | .struct _ | .array _ _ => true | _ => false) = some true) (hs : (P.info? T).map (·.size) = some vs.length) (h : c.w.heap[b]? = some (.cells vs.toArray U (0, 0)))
    (hR : R (.returned (.agg vs.toArray)) c.w) : bodyQ P fn n R .ret e c.w := by
  have hl := run_loadC (P := P) (c := c) (b := b) (o := 0) (l := vs) hT hs (fun j u hu => by simp [World.cell?, h, hu])
  refine ⟨.agg vs.toArray, ?_, hR⟩
  have ht := tmps_getD n e t
  rw [hv, Array.getD_eq_getD_getElem?] at ht
  simp [results, hr, ht, asAddr, hl]
theorem retCT {n : Nat} {e : Nat → Value} {fn : Func} {R : Ending → World → Prop} {t u b : Nat} {T U : TypeId} {vs : List Value} {v : Value} (hr : fn.results = #[.cell t T, .tmp u]) (hv : ev n e (.tmp t) = .pointer (some ⟨b, 0, none⟩)) (hu : ev n e (.tmp u) = v)
    (hT : (P.underlying T).map (fun d => match d with | .struct _ | .array _ _ => true | _ => false) = some true) (hs : (P.info? T).map (·.size) = some vs.length) (h : c.w.heap[b]? = some (.cells vs.toArray U (0, 0)))
    (hR : R (.returned (.tuple #[.agg vs.toArray, v])) c.w) : bodyQ P fn n R .ret e c.w := by
  have hl := run_loadC (P := P) (c := c) (b := b) (o := 0) (l := vs) hT hs (fun j u hu => by simp [World.cell?, h, hu])
  refine ⟨.tuple #[.agg vs.toArray, v], ?_, hR⟩
  have ht := tmps_getD n e t
  have hu' := tmps_getD n e u
  rw [hv, Array.getD_eq_getD_getElem?] at ht
  rw [hu, Array.getD_eq_getD_getElem?] at hu'
  simp [results, hr, ht, hu', asAddr, hl, Result.andThen]
theorem ret3 {n : Nat} {e : Nat → Value} {w : World} {fn : Func} {R : Ending → World → Prop} {t u s : Nat} {v v' v'' : Value} (hr : fn.results = #[.tmp t, .tmp u, .tmp s]) (hv : ev n e (.tmp t) = v) (hu : ev n e (.tmp u) = v') (hs : ev n e (.tmp s) = v'')
    (h : R (.returned (.tuple #[v, v', v''])) w) : bodyQ P fn n R .ret e w := by
  refine ⟨.tuple #[v, v', v''], ?_, h⟩
  have h1 := tmps_getD n e t
  have h2 := tmps_getD n e u
  have h3 := tmps_getD n e s
  rw [hv, Array.getD_eq_getD_getElem?] at h1
  rw [hu, Array.getD_eq_getD_getElem?] at h2
  rw [hs, Array.getD_eq_getD_getElem?] at h3
  simp [results, hr, h1, h2, h3]
theorem retTCT {n : Nat} {e : Nat → Value} {fn : Func} {R : Ending → World → Prop} {s t u b : Nat} {T U : TypeId} {vs : List Value} {v v' : Value} (hr : fn.results = #[.tmp s, .cell t T, .tmp u]) (hs' : ev n e (.tmp s) = v') (hv : ev n e (.tmp t) = .pointer (some ⟨b, 0, none⟩)) (hu : ev n e (.tmp u) = v)
    (hT : (P.underlying T).map (fun d => match d with | .struct _ | .array _ _ => true | _ => false) = some true) (hs : (P.info? T).map (·.size) = some vs.length) (h : c.w.heap[b]? = some (.cells vs.toArray U (0, 0)))
    (hR : R (.returned (.tuple #[v', .agg vs.toArray, v])) c.w) : bodyQ P fn n R .ret e c.w := by
  have hl := run_loadC (P := P) (c := c) (b := b) (o := 0) (l := vs) hT hs (fun j u hu => by simp [World.cell?, h, hu])
  refine ⟨.tuple #[v', .agg vs.toArray, v], ?_, hR⟩
  have ht := tmps_getD n e t
  have hu' := tmps_getD n e u
  have hs'' := tmps_getD n e s
  rw [hv, Array.getD_eq_getD_getElem?] at ht
  rw [hu, Array.getD_eq_getD_getElem?] at hu'
  rw [hs', Array.getD_eq_getD_getElem?] at hs''
  simp [results, hr, ht, hu', hs'', asAddr, hl, Result.andThen]
end
end Go.Lt
