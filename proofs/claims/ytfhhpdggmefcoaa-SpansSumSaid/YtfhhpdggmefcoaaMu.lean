/-
  Memory in our own walk kit: contexts (a world, the cells that may still be written, the objects' blocks), cells that stay, what is owned. No condition; nothing of any program stands here.
-/
import Derived.Test.YtfhhpdggmefcoaaLt
namespace Go.Lt

/-! ### contexts -/
structure Cx where
  w : World
  A : Nat → Nat → Prop
  t : Nat → Nat → Option Nat

/-- What of memory lay outside A stays, and stays outside. -/
structure Cx.le (c c' : Cx) : Prop where
  os : c'.w.os = c.w.os
  output : c'.w.output = c.w.output
  size : c.w.heap.size ≤ c'.w.heap.size
  cell : ∀ k o, k < c.w.heap.size → ¬ c.A k o → c'.w.cell? ⟨k, o, none⟩ = c.w.cell? ⟨k, o, none⟩ ∧ ¬ c'.A k o
  block : ∀ k, k < c.w.heap.size → (∀ o, ¬ c.A k o) → c'.w.heap[k]? = c.w.heap[k]?
  frz : ∀ a, a.block < c.w.heap.size → ¬ c.A a.block a.off → c'.w.frozen? a = c.w.frozen? a
  t : ∀ g k b, c.t g k = some b → c'.t g k = some b

theorem Cx.le.refl (c : Cx) : c.le c := ⟨rfl, rfl, Nat.le_refl _, fun _ _ _ h => ⟨rfl, h⟩, fun _ _ _ => rfl, fun _ _ _ => rfl, fun _ _ _ h => h⟩
theorem Cx.le.trans {a b c : Cx} (h : a.le b) (k : b.le c) : a.le c :=
  ⟨k.os.trans h.os, k.output.trans h.output, Nat.le_trans h.size k.size, fun i o hi hA => by
    obtain ⟨h1, h2⟩ := h.cell i o hi hA
    obtain ⟨k1, k2⟩ := k.cell i o (Nat.lt_of_lt_of_le hi h.size) h2
    exact ⟨k1.trans h1, k2⟩, fun i hi hA => (k.block i (Nat.lt_of_lt_of_le hi h.size) fun o => (h.cell i o hi (hA o)).2).trans (h.block i hi hA),
    fun a ha hA => (k.frz a (Nat.lt_of_lt_of_le ha h.size) (h.cell _ _ ha hA).2).trans (h.frz a ha hA), fun g i b hb => k.t g i b (h.t g i b hb)⟩

/-- Only blocks of D are touched. -/
structure Cx.but (D : Nat → Prop) (c c' : Cx) : Prop where
  le : c.le c'
  t : c'.t = c.t
  same : ∀ k, k < c.w.heap.size → ¬ D k → c'.w.heap[k]? = c.w.heap[k]? ∧ ∀ o, c'.A k o ↔ c.A k o

/-- What was there stays. -/
def Gr (w w' : World) : Prop := w.keptBut w' (fun _ => False) ∧ (∀ a, a.block < w.heap.size → w'.frozen? a = w.frozen? a) ∧ w.heap.size ≤ w'.heap.size
theorem Gr.frame {w w' : World} (h : Gr w w') (may : MemPlace → Prop) : w.keptBut w' may := World.keptBut_mono (fun _ f => f.elim) h.1
theorem Cx.le.grown {w : World} {c' : Cx} (h : Cx.le ⟨w, fun _ _ => False, fun _ _ => none⟩ c') : Gr w c'.w :=
  ⟨⟨h.os, h.output, fun i hi => by
    rw [h.block i hi fun _ => id]
    have := World.keptBut_refl w fun _ => False
    exact this.2.2 i hi⟩, fun a ha => h.frz a ha id, h.size⟩

/-! ### a cell that stays -/
structure Im (c : Cx) (b o : Nat) (v : Value) : Prop where
  lt : b < c.w.heap.size
  nA : ¬ c.A b o
  cell : c.w.cell? ⟨b, o, none⟩ = some v
theorem Im.mono {c c' : Cx} {b o : Nat} {v : Value} (h : Im c b o v) (k : c.le c') : Im c' b o v := by
  obtain ⟨h1, h2⟩ := k.cell b o h.lt h.nA
  exact ⟨Nat.lt_of_lt_of_le h.lt k.size, h2, h1.trans h.cell⟩

/-! ### how data lie in cells -/
structure Rp (α : Type) where
  size : Nat
  cells : Cx → List Value → α → Prop
  len : ∀ {c l x}, cells c l x → l.length = size
  one : ∀ {c l x}, cells c l x → ∀ v ∈ l, v.oneCell' = true
  mono : ∀ {c c' l x}, c.le c' → cells c l x → cells c' l x

def RI (k : IntKind) : Rp Int where
  size := 1
  cells := fun _ l n => l = [.int k n]
  len := fun h => by simp [h]
  one := fun h v hv => by rw [h] at hv; simp at hv; subst hv; rfl
  mono := fun _ h => h
def RB : Rp Bool where
  size := 1
  cells := fun _ l n => l = [.bool n]
  len := fun h => by simp [h]
  one := fun h v hv => by rw [h] at hv; simp at hv; subst hv; rfl
  mono := fun _ h => h
def RS : Rp ByteArray where
  size := 1
  cells := fun _ l n => l = [.string n]
  len := fun h => by simp [h]
  one := fun h v hv => by rw [h] at hv; simp at hv; subst hv; rfl
  mono := fun _ h => h

/-- The slice v holds the list xs. -/
def Sl {α : Type} (R : Rp α) (c : Cx) (v : Value) (xs : List α) : Prop :=
  ∃ a cap, v = .slice a xs.length cap ∧ xs.length ≤ cap ∧ cap ≤ maxLen ∧
    ∀ i x, xs[i]? = some x → ∃ b off l, a = some ⟨b, off, none⟩ ∧ R.cells c l x ∧ ∀ j u, l[j]? = some u → Im c b (off + i * R.size + j) u

theorem Sl.mono {α : Type} {R : Rp α} {c c' : Cx} {v : Value} {xs : List α} (h : Sl R c v xs) (k : c.le c') : Sl R c' v xs := by
  obtain ⟨a, cap, h1, h2, h3, h4⟩ := h
  refine ⟨a, cap, h1, h2, h3, fun i x hx => ?_⟩
  obtain ⟨b, off, l, e, hl, hc⟩ := h4 i x hx
  exact ⟨b, off, l, e, R.mono k hl, fun j u hu => (hc j u hu).mono k⟩
theorem Sl.one {α : Type} {R : Rp α} {c : Cx} {v : Value} {xs : List α} (h : Sl R c v xs) : v.oneCell' = true := by
  obtain ⟨a, cap, rfl, _⟩ := h; rfl
theorem Sl.len_le {α : Type} {R : Rp α} {c : Cx} {v : Value} {xs : List α} (h : Sl R c v xs) : xs.length ≤ 9223372036854775807 := by
  obtain ⟨a, cap, _, h1, h2, _⟩ := h
  unfold maxLen at h2
  omega
theorem Sl.nil {α : Type} (R : Rp α) (c : Cx) (a : Option Addr) (cap : Nat) (h : cap ≤ maxLen) : Sl R c (.slice a 0 cap) [] :=
  ⟨a, cap, rfl, Nat.zero_le _, h, fun i x hx => by simp at hx⟩
theorem Sl.nl {α : Type} (R : Rp α) (c : Cx) : Sl R c (.slice none 0 0) [] := Sl.nil R c none 0 (Nat.zero_le _)

def RL {α : Type} (R : Rp α) : Rp (List α) where
  size := 1
  cells := fun c l xs => ∃ v, l = [v] ∧ Sl R c v xs
  len := fun ⟨v, h, _⟩ => by simp [h]
  one := fun ⟨v, h, hs⟩ u hu => by rw [h] at hu; simp at hu; subst hu; exact hs.one
  mono := fun k ⟨v, h, hs⟩ => ⟨v, h, hs.mono k⟩

/-- A pointer to object p of kind g, or nil. -/
def Pt (g : Nat) (c : Cx) (v : Value) : Option Nat → Prop
  | none => v = .pointer none
  | some k => ∃ b, v = .pointer (some ⟨b, 0, none⟩) ∧ c.t g k = some b
theorem Pt.mono {g : Nat} {c c' : Cx} {v : Value} {p : Option Nat} (h : Pt g c v p) (k : c.le c') : Pt g c' v p := by
  cases p with
  | none => exact h
  | some p => obtain ⟨b, h1, h2⟩ := h; exact ⟨b, h1, k.t _ _ _ h2⟩
theorem Pt.one {g : Nat} {c : Cx} {v : Value} {p : Option Nat} (h : Pt g c v p) : v.oneCell' = true := by
  cases p with
  | none => obtain rfl := h; rfl
  | some p => obtain ⟨b, rfl, _⟩ := h; rfl
def RP (g : Nat) : Rp (Option Nat) where
  size := 1
  cells := fun c l p => ∃ v, l = [v] ∧ Pt g c v p
  len := fun ⟨v, h, _⟩ => by simp [h]
  one := fun ⟨v, h, hs⟩ u hu => by rw [h] at hu; simp at hu; subst hu; exact hs.one
  mono := fun k ⟨v, h, hs⟩ => ⟨v, h, hs.mono k⟩
theorem Pt.get {g : Nat} {c : Cx} {v : Value} {p : Option Nat} {k : Nat} (h : Pt g c v p) (hp : p = some k) : ∃ b, v = .pointer (some ⟨b, 0, none⟩) ∧ c.t g k = some b := by subst hp; exact h

theorem Pt.get2 {g : Nat} {c : Cx} {b k : Nat} {p : Option Nat} (h : Pt g c (.pointer (some ⟨b, 0, none⟩)) p) (hp : p = some k) : c.t g k = some b := by
  subst hp
  obtain ⟨b', h1, h2⟩ := h
  cases h1
  exact h2

/-- Errors as data: none, a variable's own, a fault. -/
inductive Er where
  | nil
  | sent (g : Nat)
  | fault (i : Int) (e : Er)
/-- A block that stays, whole. -/
structure Fz (c : Cx) (b : Nat) : Prop where
  lt : b < c.w.heap.size
  nA : ∀ o, ¬ c.A b o
  blk : ∃ vs T, c.w.heap[b]? = some (.cells vs T (0, 0))
theorem Fz.mono {c c' : Cx} {b : Nat} (h : Fz c b) (k : c.le c') : Fz c' b := by
  obtain ⟨vs, T, hb⟩ := h.blk
  exact ⟨Nat.lt_of_lt_of_le h.lt k.size, fun o => (k.cell b o h.lt (h.nA o)).2, vs, T, (k.block b h.lt h.nA).trans hb⟩
/-- How an error value lies: the type of the variables' errors, that of faults. -/
def RE (S T : TypeId) (c : Cx) : Value → Er → Prop
  | v, .nil => v = .nilIface
  | v, .sent g => ∃ a, v = .iface S (.pointer (some a)) ∧ Im c g 0 v ∧ Fz c a.block
  | v, .fault i e => ∃ b u, v = .iface T (.pointer (some ⟨b, 0, none⟩)) ∧ Im c b 0 (.int .i64 i) ∧ Im c b 1 u ∧ RE S T c u e
theorem RE.mono {S T : TypeId} {c c' : Cx} {v : Value} {e : Er} (h : RE S T c v e) (k : c.le c') : RE S T c' v e := by
  induction e generalizing v with
  | nil => exact h
  | sent g => obtain ⟨b, h, hi, hf⟩ := h; exact ⟨b, h, hi.mono k, hf.mono k⟩
  | fault i e ih => obtain ⟨b, u, h, h1, h2, h3⟩ := h; exact ⟨b, u, h, h1.mono k, h2.mono k, ih h3⟩
theorem RE.one {S T : TypeId} {c : Cx} {v : Value} {e : Er} (h : RE S T c v e) : v.oneCell' = true := by
  cases e with
  | nil => obtain rfl := h; rfl
  | sent g => obtain ⟨b, rfl, _⟩ := h; rfl
  | fault i e => obtain ⟨b, u, rfl, _⟩ := h; rfl
theorem RE.im {S T : TypeId} {c : Cx} {v : Value} {g : Nat} (h : RE S T c v (.sent g)) : Im c g 0 v := by
  obtain ⟨b, _, h, _⟩ := h; exact h
def Er.isNil : Er → Bool
  | .nil => true
  | _ => false

/-- The block and the place at which a slice begins. -/
def sb : Value → Nat
  | .slice (some a) _ _ => a.block
  | _ => 0
def so : Value → Nat
  | .slice (some a) _ _ => a.off
  | _ => 0

theorem Sl.at {α : Type} {R : Rp α} {c : Cx} {v : Value} {xs : List α} (h : Sl R c v xs) {i : Nat} {x : α} (hx : xs[i]? = some x) :
    ∃ l, R.cells c l x ∧ ∀ j u, l[j]? = some u → Im c (sb v) (so v + i * R.size + j) u := by
  obtain ⟨a, cap, rfl, _, _, h4⟩ := h
  obtain ⟨b, off, l, rfl, hl, hc⟩ := h4 i x hx
  exact ⟨l, hl, hc⟩

/-! ### data-level operations that can fail -/
def idx {α : Type} (xs : List α) (i : Int) : Option α := if 0 ≤ i then xs[i.toNat]? else none
def slc {α : Type} (xs : List α) (i j : Int) : Option (List α) := if 0 ≤ i ∧ i ≤ j ∧ j ≤ xs.length then some ((xs.drop i.toNat).take (j - i).toNat) else none
/-- The bound under which lists are made longer. -/
def far : Nat := 1099511627776
def app {α : Type} (xs ys : List α) : Option (List α) := if xs.length + ys.length ≤ far then some (xs ++ ys) else none
def rep {α : Type} (n : Int) (x : α) : Option (List α) := if 0 ≤ n ∧ n ≤ far then some (List.replicate n.toNat x) else none
/-- A list with another member at a place. -/
def sets {α : Type} (xs : List α) (i : Int) (x : α) : Option (List α) := if 0 ≤ i ∧ i < xs.length then some (xs.set i.toNat x) else none
theorem idx_get {α : Type} {xs : List α} {i : Int} {x : α} (h : idx xs i = some x) : xs[i.toNat]? = some x := by
  unfold idx at h
  split at h
  · exact h
  · cases h
theorem idx_lt {α : Type} {xs : List α} {i : Int} {x : α} (h : idx xs i = some x) : 0 ≤ i ∧ i < xs.length := by
  have := idx_get h
  unfold idx at h
  split at h
  · have := (List.getElem?_eq_some_iff.1 this).1
    omega
  · cases h

/-! ### what is owned -/
/-- An entry: a pointer or a slice, its block's element type, its cells; from 'lim' on they may still be written. -/
structure En where
  v : Value
  T : TypeId
  vs : List Value
  lim : Nat
def blk : Value → Option Nat
  | .pointer (some a) => some a.block
  | .slice (some a) _ _ => some a.block
  | _ => none
def En.on (e : En) (c : Cx) : Prop := ∀ b, blk e.v = some b → c.w.heap[b]? = some (.cells e.vs.toArray e.T (0, 0)) ∧ ∀ o, c.A b o ↔ e.lim ≤ o
def apart (e e' : En) : Prop := ∀ b, blk e.v = some b → blk e'.v = some b → False
def hole : En := ⟨.nilIface, 0, [], 0⟩

abbrev Gm := Nat → Nat → List En
def at_ (G : Gm) (F : List En) : Nat ⊕ (Nat × Nat × Nat) → Option En
  | .inl k => F[k]?
  | .inr (g, k, r) => (G g k)[r]?

def OwnM {ι : Type} (c : Cx) (M : ι → Option En) : Prop := (∀ i e, M i = some e → e.on c) ∧ ∀ i j e e', M i = some e → M j = some e' → i ≠ j → apart e e'

theorem En.on.lt {e : En} {c : Cx} {b : Nat} (h : e.on c) (hb : blk e.v = some b) : b < c.w.heap.size := (Array.getElem?_eq_some_iff.1 (h b hb).1).1
theorem En.on.keep {e : En} {c c' : Cx} (h : e.on c) (k : ∀ b, blk e.v = some b → c'.w.heap[b]? = c.w.heap[b]? ∧ ∀ o, c'.A b o ↔ c.A b o) : e.on c' := fun b hb =>
  ⟨(k b hb).1.trans (h b hb).1, fun o => ((k b hb).2 o).trans ((h b hb).2 o)⟩
theorem hole_on (c : Cx) : hole.on c := fun b hb => by cases hb
theorem hole_apart (e : En) : apart hole e := fun b hb => by cases hb
theorem apart_hole (e : En) : apart e hole := fun b _ hb => by cases hb

theorem OwnM.upd {ι : Type} {c c' : Cx} {M M' : ι → Option En} (h : OwnM c M) (i : ι) {D : Nat → Prop} (hb : c.but D c') (hD : ∀ b, D b → ∃ e, M i = some e ∧ blk e.v = some b) (hM : ∀ j, j ≠ i → M' j = M j)
    {e' : En} (hi : M' i = some e') (hon : e'.on c') (hnew : ∀ b, blk e'.v = some b → (∃ e, M i = some e ∧ blk e.v = some b) ∨ c.w.heap.size ≤ b) : OwnM c' M' := by
  have key : ∀ j e, j ≠ i → M' j = some e → e.on c' := fun j e hj he => by
    rw [hM j hj] at he
    refine (h.1 j e he).keep fun b hbe => hb.same b ((h.1 j e he).lt hbe) fun hd => ?_
    obtain ⟨e2, h2, h3⟩ := hD b hd
    exact h.2 j i e e2 he h2 hj b hbe h3
  have far : ∀ j e, j ≠ i → M' j = some e → apart e e' := fun j e hj he b h1 h2 => by
    rw [hM j hj] at he
    rcases hnew b h2 with ⟨e2, h3, h4⟩ | h3
    · exact h.2 j i e e2 he h3 hj b h1 h4
    · exact absurd ((h.1 j e he).lt h1) (Nat.not_lt.2 h3)
  classical
  refine ⟨fun j e he => ?_, fun j k e e2 he he2 hjk => ?_⟩
  · by_cases hj : j = i
    · subst hj; rw [hi] at he; cases he; exact hon
    · exact key j e hj he
  · by_cases hj : j = i
    · subst hj
      rw [hi] at he; cases he
      exact fun b h1 h2 => far k e2 (Ne.symm hjk) he2 b h2 h1
    · by_cases hk : k = i
      · subst hk; rw [hi] at he2; cases he2; exact far j e hj he
      · rw [hM j hj] at he; rw [hM k hk] at he2; exact h.2 j k e e2 he he2 hjk

theorem OwnM.re {ι κ : Type} {c : Cx} {M : ι → Option En} {M' : κ → Option En} (h : OwnM c M) (f : κ → ι) (hf : ∀ k e, M' k = some e → M (f k) = some e) (inj : ∀ k k' e e', M' k = some e → M' k' = some e' → f k = f k' → k = k') : OwnM c M' :=
  ⟨fun k e he => h.1 _ e (hf k e he), fun k k' e e' he he' hne => h.2 _ _ e e' (hf k e he) (hf k' e' he') fun hh => hne (inj k k' e e' he he' hh)⟩

/-- What is owned: the objects' blocks (G), and a list of entries (F). -/
structure Own (c : Cx) (G : Gm) (F : List En) : Prop where
  m : OwnM c (at_ G F)
  t0 : ∀ g k, G g k = [] → c.t g k = none

section
variable {c c' : Cx} {G : Gm} {F : List En}

theorem Own.on (O : Own c G F) (k : Nat) {e : En} (h : F[k]? = some e) : e.on c := O.m.1 (.inl k) e h
theorem Own.gon (O : Own c G F) {g k : Nat} {E : List En} (hE : G g k = E) (r : Nat) {e : En} (h : E[r]? = some e) : e.on c := O.m.1 (.inr (g, k, r)) e (by subst hE; exact h)
/-- All blocks that are not new are as they were. -/
theorem Own.keep (O : Own c G F) (h : c.but (fun _ => False) c') : Own c' G F :=
  ⟨⟨fun i e he => (O.m.1 i e he).keep fun b hb => h.same b ((O.m.1 i e he).lt hb) id, O.m.2⟩, fun g k hk => by rw [h.t]; exact O.t0 g k hk⟩

theorem Own.set (O : Own c G F) (k : Nat) {e e' : En} {D : Nat → Prop} (hk : F[k]? = some e) (hb : c.but D c') (hD : ∀ b, D b → blk e.v = some b) (hon : e'.on c') (hnew : ∀ b, blk e'.v = some b → blk e.v = some b ∨ c.w.heap.size ≤ b) : Own c' G (F.set k e') :=
  ⟨OwnM.upd O.m (.inl k) hb (fun b h => ⟨e, hk, hD b h⟩) (fun j hj => by
    cases j with
    | inl j => exact List.getElem?_set_ne (fun e => hj (by rw [e]))
    | inr j => rfl) (e' := e') (List.getElem?_set_self (List.getElem?_eq_some_iff.1 hk).1) hon (fun b h => (hnew b h).imp (fun h => ⟨e, hk, h⟩) id), fun g k hk => by rw [hb.t]; exact O.t0 g k hk⟩

/-- Some of the entries, in another order. -/
theorem Own.sel {F0 : List En} {L : List En} (ix : List Nat) (O : Own c G (L ++ F0)) (hn : ix.Nodup) {L' : List En} (hL : ix.map (fun i => L[i]?) = L'.map some) : Own c G (L' ++ F0) := by
  have hlen : ix.length = L'.length := by have := congrArg List.length hL; simpa using this
  have hget : ∀ (i : Nat) (hi : i < ix.length), L[ix[i]]? = some (L'[i]'(hlen ▸ hi)) := fun i hi => by
    have := congrArg (fun l => l[i]?) hL
    simpa [List.getElem?_eq_getElem hi, List.getElem?_eq_getElem (hlen ▸ hi : i < L'.length)] using this
  refine ⟨OwnM.re O.m (fun j => match j with
    | .inl j => if h : j < ix.length then .inl ix[j] else .inl (j - ix.length + L.length)
    | .inr j => .inr j) ?_ ?_, O.t0⟩
  · intro j e he
    cases j with
    | inr j => exact he
    | inl j =>
      by_cases hj : j < ix.length
      · simp only [hj, dif_pos]
        have h2 := hget j hj
        have hlt := (List.getElem?_eq_some_iff.1 h2).1
        simp only [at_] at he ⊢
        rw [List.getElem?_append_left (hlen ▸ hj), List.getElem?_eq_getElem (hlen ▸ hj)] at he
        rw [List.getElem?_append_left hlt, h2, he]
      · simp only [hj, dif_neg, not_false_eq_true]
        simp only [at_] at he ⊢
        rw [List.getElem?_append_right (by omega)] at he
        rw [List.getElem?_append_right (by omega), ← he]
        congr 1
        omega
  · intro j j' e e' he he' hh
    cases j with
    | inr j =>
      cases j' with
      | inr j' => exact hh
      | inl j' => by_cases hj : j' < ix.length <;> simp [hj] at hh
    | inl j =>
      cases j' with
      | inr j' => by_cases hj : j < ix.length <;> simp [hj] at hh
      | inl j' =>
        by_cases hj : j < ix.length
        · have h1 := (List.getElem?_eq_some_iff.1 (hget j hj)).1
          by_cases hj' : j' < ix.length
          · simp only [hj, hj', dif_pos, Sum.inl.injEq] at hh
            rw [(List.getElem_inj hn).1 hh]
          · simp only [hj, hj', dif_pos, dif_neg, not_false_eq_true, Sum.inl.injEq] at hh
            omega
        · by_cases hj' : j' < ix.length
          · have h1 := (List.getElem?_eq_some_iff.1 (hget j' hj')).1
            simp only [hj, hj', dif_pos, dif_neg, not_false_eq_true, Sum.inl.injEq] at hh
            omega
          · simp only [hj, hj', dif_neg, not_false_eq_true, Sum.inl.injEq] at hh
            congr 1
            omega

theorem Own.cons (O : Own c G F) {e : En} {D : Nat → Prop} (hb : c.but D c') (hD : ∀ b, ¬ D b) (hon : e.on c') (hnew : ∀ b, blk e.v = some b → c.w.heap.size ≤ b) : Own c' G (e :: F) := by
  have O1 : OwnM c (at_ G (hole :: F)) := by
    refine ⟨fun i e he => ?_, fun i j e e' he he' hij => ?_⟩
    · cases i with
      | inr i => exact O.m.1 (.inr i) e he
      | inl i => cases i with
        | zero => cases he; exact hole_on c
        | succ i => exact O.m.1 (.inl i) e he
    · have pull : ∀ i, i ≠ .inl 0 → ∀ e, at_ G (hole :: F) i = some e → ∃ i', at_ G F i' = some e ∧ (match i' with | .inl k => i = .inl (k + 1) | .inr k => i = .inr k) := fun i hi e he => by
        cases i with
        | inr i => exact ⟨.inr i, he, rfl⟩
        | inl i => cases i with
          | zero => exact absurd rfl hi
          | succ i => exact ⟨.inl i, he, rfl⟩
      by_cases hi : i = .inl 0
      · subst hi; cases he; exact hole_apart _
      · by_cases hj : j = .inl 0
        · subst hj; cases he'; exact apart_hole _
        · obtain ⟨i', h1, h2⟩ := pull i hi e he
          obtain ⟨j', h3, h4⟩ := pull j hj e' he'
          refine O.m.2 i' j' e e' h1 h3 fun hh => hij ?_
          subst hh
          cases i' <;> simp_all
  exact ⟨OwnM.upd O1 (.inl 0) hb (fun b h => absurd h (hD b)) (fun j hj => by
    cases j with
    | inr j => rfl
    | inl j => cases j with
      | zero => exact absurd rfl hj
      | succ j => rfl) (e' := e) rfl hon (fun b h => .inr (hnew b h)), fun g k hk => by rw [hb.t]; exact O.t0 g k hk⟩

theorem Own.addHole (O : Own c G F) {e : En} (he : blk e.v = none) : Own c G (e :: F) :=
  O.cons (D := fun _ => False) ⟨Cx.le.refl c, rfl, fun _ _ _ => ⟨rfl, fun _ => Iff.rfl⟩⟩ (fun _ => id) (fun b hb => by rw [he] at hb; cases hb) (fun b hb => by rw [he] at hb; cases hb)
theorem Own.tail {e : En} (O : Own c G (e :: F)) : Own c G F :=
  ⟨OwnM.re O.m (fun j => match j with | .inl j => .inl (j + 1) | .inr j => .inr j) (fun j e he => by cases j <;> exact he) (fun j j' _ _ _ _ h => by
    cases j <;> cases j' <;> simp_all), O.t0⟩

/-! ### objects -/
def setG (G : Gm) (g k : Nat) (E : List En) : Gm := fun g' k' => if g' = g ∧ k' = k then E else G g' k'
theorem setG_same (G : Gm) (g k : Nat) (E : List En) : setG G g k E g k = E := by simp [setG]
theorem setG_nil {c : Cx} {G : Gm} {g k : Nat} {E : List En} (h : ∀ g k, G g k = [] → c.t g k = none) (hE : E = [] → G g k = []) : ∀ g' k', setG G g k E g' k' = [] → c.t g' k' = none := fun g' k' h' => by
  simp only [setG] at h'
  split at h'
  · rename_i hh
    obtain ⟨rfl, rfl⟩ := hh
    exact h _ _ (hE h')
  · exact h _ _ h'
theorem set_nil {α : Type} {E : List α} {r : Nat} {e : α} (h : E.set r e = []) : E = [] := by
  have := congrArg List.length h
  rw [List.length_set] at this
  exact List.eq_nil_of_length_eq_zero this
theorem setG_ne {G : Gm} {g k g' k' : Nat} {E : List En} (h : ¬ (g' = g ∧ k' = k)) : setG G g k E g' k' = G g' k' := by simp only [setG, if_neg h]

theorem Own.setR (O : Own c G F) {g k : Nat} {E : List En} (r : Nat) {e e' : En} {D : Nat → Prop} (hE : G g k = E) (hr : E[r]? = some e) (hb : c.but D c') (hD : ∀ b, D b → blk e.v = some b) (hon : e'.on c') (hnew : ∀ b, blk e'.v = some b → blk e.v = some b ∨ c.w.heap.size ≤ b) :
    Own c' (setG G g k (E.set r e')) F := by
  subst hE
  refine ⟨OwnM.upd O.m (.inr (g, k, r)) hb (fun b h => ⟨e, hr, hD b h⟩) (fun j hj => ?_) (e' := e') ?_ hon (fun b h => (hnew b h).imp (fun h => ⟨e, hr, h⟩) id), setG_nil (fun g k hk => by rw [hb.t]; exact O.t0 g k hk) set_nil⟩
  · cases j with
    | inl j => rfl
    | inr j =>
      obtain ⟨g', k', r'⟩ := j
      by_cases h : g' = g ∧ k' = k
      · obtain ⟨rfl, rfl⟩ := h
        simp only [at_, setG_same]
        exact List.getElem?_set_ne (fun e => hj (by rw [e]))
      · simp only [at_, setG_ne h]
  · simp only [at_, setG_same]
    exact List.getElem?_set_self (List.getElem?_eq_some_iff.1 hr).1

/-- An object's part is taken out, into the list. -/
theorem Own.borrow (O : Own c G F) {g k : Nat} {E : List En} (r : Nat) {e : En} (hE : G g k = E) (hr : E[r]? = some e) : Own c (setG G g k (E.set r hole)) (e :: F) := by
  subst hE
  have hlt := (List.getElem?_eq_some_iff.1 hr).1
  have main : ∀ g' k' r' e1, at_ (setG G g k ((G g k).set r hole)) (e :: F) (.inr (g', k', r')) = some e1 → (g', k', r') ≠ (g, k, r) → at_ G F (.inr (g', k', r')) = some e1 := fun g' k' r' e1 h1 hne => by
    simp only [at_] at h1 ⊢
    by_cases h : g' = g ∧ k' = k
    · obtain ⟨rfl, rfl⟩ := h
      rw [setG_same, List.getElem?_set_ne (fun e => hne (by rw [e]))] at h1
      exact h1
    · rwa [setG_ne h] at h1
  have hh : ∀ e1, at_ (setG G g k ((G g k).set r hole)) (e :: F) (.inr (g, k, r)) = some e1 → e1 = hole := fun e1 h1 => by
    simp only [at_, setG_same] at h1
    rw [List.getElem?_set_self hlt] at h1
    cases h1; rfl
  classical
  let f : Nat ⊕ (Nat × Nat × Nat) → Nat ⊕ (Nat × Nat × Nat) := fun j => match j with
    | .inl 0 => .inr (g, k, r)
    | .inl (j + 1) => .inl j
    | .inr j => .inr j
  have hf : ∀ j e1, j ≠ .inr (g, k, r) → at_ (setG G g k ((G g k).set r hole)) (e :: F) j = some e1 → at_ G F (f j) = some e1 := fun j e1 hj he => by
    cases j with
    | inl j => cases j with
      | zero => cases he; exact hr
      | succ j => exact he
    | inr j => exact main j.1 j.2.1 j.2.2 e1 he (fun e => hj (by rw [← e]))
  refine ⟨⟨fun j e1 he => ?_, fun j j' e1 e2 he he2 hne => ?_⟩, setG_nil O.t0 set_nil⟩
  · by_cases hj : j = .inr (g, k, r)
    · subst hj; rw [hh e1 he]; exact hole_on c
    · exact O.m.1 (f j) e1 (hf j e1 hj he)
  · by_cases hj : j = .inr (g, k, r)
    · subst hj; rw [hh e1 he]; exact hole_apart _
    · by_cases hj' : j' = .inr (g, k, r)
      · subst hj'; rw [hh e2 he2]; exact apart_hole _
      · refine O.m.2 (f j) (f j') e1 e2 (hf j e1 hj he) (hf j' e2 hj' he2) fun hff => ?_
        cases j with
        | inl j => cases j with
          | zero => cases j' with
            | inl j' => cases j' with
              | zero => exact hne rfl
              | succ j' => simp [f] at hff
            | inr j' => exact hj' (by simpa [f] using hff.symm)
          | succ j => cases j' with
            | inl j' => cases j' with
              | zero => simp [f] at hff
              | succ j' => exact hne (by simpa [f] using hff)
            | inr j' => simp [f] at hff
        | inr j => cases j' with
          | inl j' => cases j' with
            | zero => exact hj (by simpa [f] using hff)
            | succ j' => simp [f] at hff
          | inr j' => exact hne (by simpa [f] using hff)

/-- The first entry becomes an object's part. -/
theorem Own.give {e : En} (O : Own c G (e :: F)) {g k : Nat} {E : List En} (r : Nat) {e0 : En} (hE : G g k = E) (hr : E[r]? = some e0) : Own c (setG G g k (E.set r e)) F := by
  subst hE
  have hlt := (List.getElem?_eq_some_iff.1 hr).1
  classical
  let f : Nat ⊕ (Nat × Nat × Nat) → Nat ⊕ (Nat × Nat × Nat) := fun j => match j with
    | .inl j => .inl (j + 1)
    | .inr j => if j = (g, k, r) then .inl 0 else .inr j
  refine ⟨OwnM.re O.m f (fun j e1 he => ?_) (fun j j' e1 e2 he he2 hff => ?_), setG_nil O.t0 set_nil⟩
  · cases j with
    | inl j => exact he
    | inr j =>
      obtain ⟨g', k', r'⟩ := j
      by_cases h0 : (g', k', r') = (g, k, r)
      · simp only [Prod.mk.injEq] at h0
        obtain ⟨rfl, rfl, rfl⟩ := h0
        simp only [at_, setG_same] at he
        rw [List.getElem?_set_self hlt] at he
        simp only [f, if_pos]
        exact he
      · simp only [f, if_neg h0]
        simp only [at_] at he ⊢
        by_cases h : g' = g ∧ k' = k
        · obtain ⟨rfl, rfl⟩ := h
          rw [setG_same, List.getElem?_set_ne (fun e => h0 (by rw [e]))] at he
          exact he
        · rwa [setG_ne h] at he
  · cases j with
    | inl j => cases j' with
      | inl j' => simpa [f] using hff
      | inr j' => by_cases h : j' = (g, k, r) <;> simp [f, h] at hff
    | inr j => cases j' with
      | inl j' => by_cases h : j = (g, k, r) <;> simp [f, h] at hff
      | inr j' =>
        by_cases h : j = (g, k, r)
        · by_cases h' : j' = (g, k, r)
          · rw [h, h']
          · simp [f, h, h'] at hff
        · by_cases h' : j' = (g, k, r)
          · simp [f, h, h'] at hff
          · simpa [f, h, h'] using hff

theorem setG_setG (G : Gm) (g k : Nat) (E E' : List En) : setG (setG G g k E) g k E' = setG G g k E' := by
  funext g' k'
  simp only [setG]
  split <;> rfl
theorem Own.giveB {e : En} {g k : Nat} {E : List En} (r : Nat) {e0 : En} (O : Own c (setG G g k E) (e :: F)) (hr : E[r]? = some e0) : Own c (setG G g k (E.set r e)) F := by
  have := Own.give O r (setG_same G g k E) hr
  rwa [setG_setG] at this

/-- The first entries become a new object. -/
theorem OwnM.newObj {E : List En} (O : OwnM c (at_ G (E ++ F))) {g k : Nat} (hE : G g k = []) : OwnM c (at_ (setG G g k E) F) := by
  classical
  let f : Nat ⊕ (Nat × Nat × Nat) → Nat ⊕ (Nat × Nat × Nat) := fun j => match j with
    | .inl j => .inl (j + E.length)
    | .inr j => if j.1 = g ∧ j.2.1 = k then .inl j.2.2 else .inr j
  have hr : ∀ r e, at_ (setG G g k E) F (.inr (g, k, r)) = some e → r < E.length := fun r e he => by
    simp only [at_, setG_same] at he
    exact (List.getElem?_eq_some_iff.1 he).1
  refine OwnM.re O f (fun j e1 he => ?_) (fun j j' e1 e2 he he2 hff => ?_)
  · cases j with
    | inl j =>
      simp only [f, at_] at he ⊢
      rw [List.getElem?_append_right (by omega)]
      rw [← he]; congr 1; omega
    | inr j =>
      obtain ⟨g', k', r'⟩ := j
      by_cases h : g' = g ∧ k' = k
      · simp only [f, if_pos h]
        obtain ⟨rfl, rfl⟩ := h
        have := hr _ _ he
        simp only [at_, setG_same] at he ⊢
        rw [List.getElem?_append_left this]; exact he
      · simp only [f, if_neg h]
        simp only [at_, setG_ne h] at he ⊢
        exact he
  · cases j with
    | inl j => cases j' with
      | inl j' => simpa [f] using hff
      | inr j' =>
        obtain ⟨g', k', r'⟩ := j'
        by_cases h : g' = g ∧ k' = k
        · obtain ⟨rfl, rfl⟩ := h
          have := hr _ _ he2
          simp [f] at hff
          omega
        · simp [f, h] at hff
    | inr j =>
      obtain ⟨g1, k1, r1⟩ := j
      cases j' with
      | inl j' =>
        by_cases h : g1 = g ∧ k1 = k
        · obtain ⟨rfl, rfl⟩ := h
          have := hr _ _ he
          simp [f] at hff
          omega
        · simp [f, h] at hff
      | inr j' =>
        obtain ⟨g', k', r'⟩ := j'
        by_cases h : g1 = g ∧ k1 = k
        · by_cases h' : g' = g ∧ k' = k
          · simp only [f, if_pos h, if_pos h', Sum.inl.injEq] at hff
            obtain ⟨rfl, rfl⟩ := h
            obtain ⟨rfl, rfl⟩ := h'
            rw [hff]
          · simp [f, h, h'] at hff
        · by_cases h' : g' = g ∧ k' = k
          · simp [f, h, h'] at hff
          · simpa [f, h, h'] using hff

theorem Own.newObj {E : List En} (O : Own c G (E ++ F)) {g k b : Nat} (hE : G g k = []) (hne : E ≠ []) : ∃ c', (c'.w = c.w ∧ c'.A = c.A) ∧ c.le c' ∧ c'.t g k = some b ∧ Own c' (setG G g k E) F := by
  have ht : ∀ g' k' b', c.t g' k' = some b' → ¬ (g' = g ∧ k' = k) := fun g' k' b' h hh => by
    obtain ⟨rfl, rfl⟩ := hh
    rw [O.t0 _ _ hE] at h
    cases h
  refine ⟨⟨c.w, c.A, fun g' k' => if g' = g ∧ k' = k then some b else c.t g' k'⟩, ⟨rfl, rfl⟩, ⟨rfl, rfl, Nat.le_refl _, fun _ _ _ h => ⟨rfl, h⟩, fun _ _ _ => rfl, fun _ _ _ => rfl, fun g' k' b' h => ?_⟩, by simp, ⟨OwnM.newObj O.m hE, fun g' k' h => ?_⟩⟩
  · simp only [if_neg (ht g' k' b' h)]
    exact h
  · simp only [setG] at h ⊢
    split at h
    · exact absurd h hne
    · rename_i hh
      simp only [if_neg hh]
      exact O.t0 _ _ h

/-- The objects of a kind are those of a list. -/
structure Rl {α : Type} (Y : Cx → Option Nat → List En → α → Prop) (g : Nat) (c : Cx) (G : Gm) (xs : List α) : Prop where
  ob : ∀ k x, xs[k]? = some x → Y c (c.t g k) (G g k) x
  no : ∀ k, xs.length ≤ k → G g k = []
variable {α : Type} {Y : Cx → Option Nat → List En → α → Prop} {g : Nat} {xs : List α}
theorem Rl.mono (h : Rl Y g c G xs) (hm : ∀ b E x, Y c (some b) E x → Y c' (some b) E x) (hs : ∀ E x, ¬ Y c none E x) (hk : c.le c') : Rl Y g c' G xs :=
  ⟨fun k x hx => by
    have := h.ob k x hx
    cases hb : c.t g k with
    | none => rw [hb] at this; exact absurd this (hs _ _)
    | some b => rw [hb] at this; rw [hk.t g k b hb]; exact hm b _ _ this, h.no⟩
theorem Rl.set (h : Rl Y g c G xs) {k : Nat} {E : List En} {x : α} (hk : k < xs.length) (hY : Y c (c.t g k) E x) : Rl Y g c (setG G g k E) (xs.set k x) :=
  ⟨fun j y hy => by
    by_cases hj : j = k
    · subst hj
      rw [List.getElem?_set_self hk] at hy
      cases hy
      rw [setG_same]; exact hY
    · rw [List.getElem?_set_ne (Ne.symm hj)] at hy
      rw [setG_ne (fun e => hj e.2)]
      exact h.ob j y hy, fun j hj => by
    rw [List.length_set] at hj
    rw [setG_ne (fun e => by omega)]
    exact h.no j hj⟩
theorem Rl.other (h : Rl Y g c G xs) {g' k : Nat} {E : List En} (hne : g ≠ g') : Rl Y g c (setG G g' k E) xs :=
  ⟨fun j y hy => by rw [setG_ne (fun e => hne e.1)]; exact h.ob j y hy, fun j hj => by rw [setG_ne (fun e => hne e.1)]; exact h.no j hj⟩
theorem Rl.new (h : Rl Y g c G xs) {E : List En} {x : α} (hY : Y c (c.t g xs.length) E x) : Rl Y g c (setG G g xs.length E) (xs ++ [x]) :=
  ⟨fun j y hy => by
    by_cases hj : j = xs.length
    · subst hj
      rw [List.getElem?_append_right (Nat.le_refl _)] at hy
      simp at hy
      subst hy
      rw [setG_same]; exact hY
    · have hlt : j < xs.length := by
        have := (List.getElem?_eq_some_iff.1 hy).1
        rw [List.length_append] at this
        simp at this
        omega
      rw [List.getElem?_append_left hlt] at hy
      rw [setG_ne (fun e => hj e.2)]
      exact h.ob j y hy, fun j hj => by
    rw [List.length_append] at hj
    simp at hj
    rw [setG_ne (fun e => by omega)]
    exact h.no j (by omega)⟩
end
end Go.Lt
