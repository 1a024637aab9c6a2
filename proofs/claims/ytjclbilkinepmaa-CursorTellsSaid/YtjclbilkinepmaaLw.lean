/-
  Slices of the call's own in our own walk kit: what is appended to, built, made, cut. No condition; nothing of any program stands here.
-/
import Derived.Test.YtjclbilkinepmaaLv
namespace Go.Lt

section
variable {P : Program} {c c0 : Cx} {α : Type} {R : Rp α}

theorem take_drop_left {β : Type} {a b : List β} {i s : Nat} (h : i + s ≤ a.length) : ((a ++ b).drop i).take s = (a.drop i).take s := by
  rw [List.drop_append_of_le_length (by omega), List.take_append_of_le_length (by rw [List.length_drop]; omega)]
theorem mul_step {i k s : Nat} (h : i < k) : i * s + s ≤ k * s := by
  have := Nat.mul_le_mul_right s (show i + 1 ≤ k by omega)
  rw [Nat.add_mul, Nat.one_mul] at this
  exact this

/-- The cells of a slice, one behind the other. -/
theorem Sl.flat {u : Value} {ys : List α} (h : Sl R c u ys) : ∃ nw : List Value, nw.length = ys.length * R.size ∧ (∀ j w, nw[j]? = some w → Im c (sb u) (so u + j) w) ∧ (∀ w ∈ nw, w.oneCell' = true) ∧
    (∀ i x, ys[i]? = some x → R.cells c ((nw.drop (i * R.size)).take R.size) x) := by
  suffices ∀ k, k ≤ ys.length → ∃ nw : List Value, nw.length = k * R.size ∧ (∀ j w, nw[j]? = some w → Im c (sb u) (so u + j) w) ∧ (∀ w ∈ nw, w.oneCell' = true) ∧
      (∀ i x, i < k → ys[i]? = some x → R.cells c ((nw.drop (i * R.size)).take R.size) x) by
    obtain ⟨nw, h1, h2, h3, h4⟩ := this ys.length (Nat.le_refl _)
    exact ⟨nw, h1, h2, h3, fun i x hx => h4 i x (List.getElem?_eq_some_iff.1 hx).1 hx⟩
  intro k
  induction k with
  | zero => exact fun _ => ⟨[], by simp, by simp, by simp, fun i x hi => by omega⟩
  | succ k ih =>
    intro hk
    obtain ⟨nw, h1, h2, h3, h4⟩ := ih (by omega)
    have hx : ys[k]? = some ys[k] := List.getElem?_eq_getElem (by omega)
    obtain ⟨l, hl, hc⟩ := h.at hx
    have hll := R.len hl
    refine ⟨nw ++ l, by rw [List.length_append, h1, hll, Nat.add_mul, Nat.one_mul], fun j w hw => ?_, fun w hw => ?_, fun i x hi hxi => ?_⟩
    · rcases Nat.lt_or_ge j nw.length with hj | hj
      · rw [List.getElem?_append_left hj] at hw
        exact h2 j w hw
      · rw [List.getElem?_append_right hj] at hw
        have := hc _ _ hw
        rw [h1] at this
        rwa [show so u + k * R.size + (j - k * R.size) = so u + j by omega] at this
    · rcases List.mem_append.1 hw with hw | hw
      · exact h3 w hw
      · exact R.one hl w hw
    · rcases Nat.lt_or_ge i k with hik | hik
      · rw [take_drop_left (by rw [h1]; exact mul_step hik)]
        exact h4 i x hik hxi
      · obtain rfl : i = k := by omega
        rw [hx] at hxi
        cases hxi
        rw [← h1, List.drop_left, List.take_of_length_le (by omega)]
        exact hl

/-- The slice v, nil or at the head of a block of the call's own (from 'base' on), holds xs; what lies behind them in its block is to be written by nobody else. -/
def Ow (base : Nat) (E : TypeId) (R : Rp α) (c : Cx) (v : Value) (xs : List α) : Prop :=
  0 < R.size ∧ ∃ vs : List Value, c.w.ownsRow base E R.size v xs.length vs ∧ (∀ i x, xs[i]? = some x → R.cells c ((vs.drop (i * R.size)).take R.size) x) ∧
    (∀ g, v.ownBlock = some g → ∀ o, c.A g o ↔ vs.length ≤ o)

theorem Ow.nil (base : Nat) (E : TypeId) (R : Rp α) (c : Cx) (h0 : 0 < R.size) : Ow base E R c (.slice none 0 0) [] :=
  ⟨h0, [], World.ownsRow_nil _ _ _ _, fun i x h => by simp at h, fun g h => by simp [Value.ownBlock] at h⟩

theorem Ow.lt {base : Nat} {E : TypeId} {v : Value} {xs : List α} (h : Ow base E R c v xs) {g : Nat} (hg : v.ownBlock = some g) : base ≤ g ∧ g < c.w.heap.size := by
  obtain ⟨_, vs, h1, _⟩ := h
  exact h1.lt g hg

theorem Ow.sl {base : Nat} {E : TypeId} {v : Value} {xs : List α} (h : Ow base E R c v xs) : Sl R c v xs := by
  obtain ⟨hp, vs, ⟨hl, h1⟩, h2, h3⟩ := h
  rcases h1 with ⟨rfl, hnil⟩ | ⟨g, cap, cur, rfl, hb, hg, hnc, hcm, hcs, htake⟩
  · have : xs = [] := by
      cases xs with
      | nil => rfl
      | cons x t =>
        exfalso
        simp at hnil
    subst this
    exact Sl.nil _ _ _ _ (Nat.zero_le _)
  · refine ⟨some ⟨g, 0, none⟩, cap, rfl, hnc, hcm, fun i x hx => ⟨g, 0, (vs.drop (i * R.size)).take R.size, rfl, h2 i x hx, fun j u hu => ?_⟩⟩
    have hj : j < R.size ∧ vs[i * R.size + j]? = some u := by
      rw [List.getElem?_take] at hu
      split at hu
      · rename_i hj
        exact ⟨hj, by rwa [List.getElem?_drop] at hu⟩
      · cases hu
    have hlt : i * R.size + j < vs.length := (List.getElem?_eq_some_iff.1 hj.2).1
    refine ⟨(Array.getElem?_eq_some_iff.1 hg).1, fun hA => ?_, ?_⟩
    · have := (h3 g rfl _).1 hA
      omega
    · have hc : cur[i * R.size + j]? = some u := by
        have := hj.2
        rw [← htake, List.getElem?_take] at this
        split at this
        · simpa using this
        · cases this
      simp [World.cell?, hg, hc]

theorem Ow.keep {base : Nat} {E : TypeId} {v : Value} {xs : List α} {c' : Cx} (h : Ow base E R c v xs) (hle : c.le c')
    (hk : ∀ g, v.ownBlock = some g → c'.w.heap[g]? = c.w.heap[g]? ∧ ∀ o, c'.A g o ↔ c.A g o) : Ow base E R c' v xs := by
  obtain ⟨hp, vs, ⟨hl, h1⟩, h2, h3⟩ := h
  refine ⟨hp, vs, ⟨hl, ?_⟩, fun i x hx => R.mono hle (h2 i x hx), fun g hg o => ((hk g hg).2 o).trans (h3 g hg o)⟩
  rcases h1 with h1 | ⟨g, cap, cur, rfl, hb, hg, r⟩
  · exact .inl h1
  · exact .inr ⟨g, cap, cur, rfl, hb, (hk g rfl).1.trans hg, r⟩
theorem Ow.ext {base : Nat} {E : TypeId} {v : Value} {xs : List α} {c' : Cx} (h : Ow base E R c v xs) (x : c.ext c') : Ow base E R c' v xs :=
  h.keep x.le fun g hg => ⟨x.block g (h.lt hg).2, fun o => x.A g o (h.lt hg).2⟩
theorem Ow.low {base base' : Nat} {E : TypeId} {v : Value} {xs : List α} (h : Ow base E R c v xs) (hb : base' ≤ base) : Ow base' E R c v xs := by
  obtain ⟨hp, vs, ⟨hl, h1⟩, r⟩ := h
  refine ⟨hp, vs, ⟨hl, ?_⟩, r⟩
  rcases h1 with h1 | ⟨g, cap, cur, h, hg, q⟩
  · exact .inl h1
  · exact .inr ⟨g, cap, cur, h, Nat.le_trans hb hg, q⟩

/-- Slice v's own block is not b. -/
def Off (v : Value) (b : Nat) : Prop := ∀ g, v.ownBlock = some g → g ≠ b
theorem Ow.off {base b : Nat} {E : TypeId} {v : Value} {xs : List α} (h : Ow base E R c v xs) (hb : b < base) : Off v b := fun g hg e => by
  have := h.lt hg
  omega
theorem Ow.off2 {base b : Nat} {E : TypeId} {v : Value} {xs : List α} (h : Ow base E R c v xs) (hb : c.w.heap.size ≤ b) : Off v b := fun g hg e => by
  have := h.lt hg
  omega
theorem Off.nil (b : Nat) : Off (.slice none 0 0) b := fun g hg => by simp [Value.ownBlock] at hg

theorem Bx.keep {base : Nat} {b : Nat} {T : TypeId} {vs : List Value} {c' : Cx} (h : Bx base c b T vs) (hk : c'.w.heap[b]? = c.w.heap[b]? ∧ ∀ o, c'.A b o ↔ c.A b o) : Bx base c' b T vs :=
  ⟨hk.1.trans h.block, fun o => (hk.2 o).2 (h.A o), h.low⟩

theorem size_zeroCells' (z : Array Value) (n : Nat) : (Builtin.zeroCells z n).size = n * z.size := by simp [Builtin.zeroCells]

/-- A new block whose first cells are vs. -/
theorem Ow.made {E : TypeId} {c : Cx} {xs : List α} {vs : List Value} {arr : Array Value} {cap base : Nat} (hp : 0 < R.size) (hl : vs.length = xs.length * R.size) (hb : base ≤ c.w.heap.size) (hc : xs.length ≤ cap) (hm : cap ≤ maxLen)
    (ha : arr.size = cap * R.size) (ht : arr.toList.take vs.length = vs) (h2 : ∀ c' : Cx, c.le c' → ∀ i x, xs[i]? = some x → R.cells c' ((vs.drop (i * R.size)).take R.size) x) :
    Ow base E R (c.new (.cells arr E) fun o => vs.length ≤ o) (.slice (some ⟨c.w.heap.size, 0, none⟩) xs.length cap) xs :=
  ⟨hp, vs, ⟨hl, .inr ⟨c.w.heap.size, cap, arr, rfl, hb, heap_alloc_new c.w _, hc, hm, ha, by rw [← hl]; exact ht⟩⟩, h2 _ (Cx.ext_new _ _ _ _).le, fun g hg o => by
    simp only [Value.ownBlock, Option.some.injEq] at hg
    subst hg
    simp [Cx.new]⟩

/-- 'append' to a slice of the call's own. -/
theorem append_ow {E t ty : TypeId} {v u : Value} {xs ys zs : List α} {z : Value} {by_ : Nat} (x0 : c0.ext c) (hO : Ow c0.w.heap.size E R c v xs) (hS : Sl R c u ys) (happ : app xs ys = some zs)
    (hT : P.underlying t = some (.slice E)) (hi : (P.info? E).map (fun i => (i.zero, i.size, i.bytes)) = some (some z, R.size, by_)) (hz : z.cells.size = R.size) (hby : Nat.ble by_ 128 = true) :
    ∃ v' c', (Builtin.append_ #[t, t] ty #[v, u]).run P c.w = .ok v' c'.w ∧ c.le c' ∧ c0.ext c' ∧ Ow c0.w.heap.size E R c' v' zs ∧
      (∀ k, k < c.w.heap.size → v.ownBlock ≠ some k → c'.w.heap[k]? = c.w.heap[k]? ∧ ∀ o, c'.A k o ↔ c.A k o) ∧ (∀ g, v'.ownBlock = some g → v.ownBlock = some g ∨ c.w.heap.size ≤ g) := by
  have hby := Nat.le_of_ble_eq_true hby
  have hfar : xs.length + ys.length ≤ far ∧ xs ++ ys = zs := by
    unfold app at happ
    split at happ
    · exact ⟨by assumption, by simpa using happ⟩
    · cases happ
  obtain ⟨hfar, rfl⟩ := hfar
  unfold far at hfar
  obtain ⟨ti, hti, hzz⟩ := Option.map_eq_some_iff.1 hi
  simp only [Prod.mk.injEq] at hzz
  obtain ⟨hz1, hz2, hz3⟩ := hzz
  obtain ⟨nw, n1, n2, n3, n4⟩ := hS.flat
  have hle := hO.sl
  obtain ⟨hp, vs, ⟨hl, h1⟩, h2, h3⟩ := hO
  obtain ⟨ua, ucap, rfl, hu1, hu2, hu3⟩ := hS
  by_cases hys : ys = []
  · subst hys
    have : nw = [] := by simpa using n1
    subst this
    refine ⟨v, c, ?_, Cx.le.refl c, x0, ?_, fun k _ _ => ⟨rfl, fun _ => Iff.rfl⟩, fun g hg => .inl hg⟩
    · have hcap : ∃ a cap, v = .slice a xs.length cap ∧ xs.length ≤ cap := by
        obtain ⟨a, cap, h, h', _⟩ := hle
        exact ⟨a, cap, h, h'⟩
      obtain ⟨a, cap, rfl, hcap⟩ := hcap
      cases a <;> cases ua <;> simp [Builtin.append_, run_underlying hT, sizeOf, typeInfo, hti, Builtin.lenOf, Builtin.firstCells, loadCells, loadCellsFrom, storeCells, hcap]
    · rw [List.append_nil]
      exact ⟨hp, vs, ⟨hl, h1⟩, h2, h3⟩
  · have hpos : 0 < ys.length := by
      rcases Nat.eq_zero_or_pos ys.length with h | h
      · exact absurd (List.eq_nil_of_length_eq_zero h) hys
      · exact h
    obtain ⟨ub, uo, _, hua, _⟩ := hu3 0 ys[0] (List.getElem?_eq_getElem hpos)
    subst hua
    have hcells : ∀ j w, nw[j]? = some w → c.w.cell? ((⟨ub, uo, none⟩ : Addr).add j) = some w := fun j w hw => by
      rw [Addr.add_lit]
      exact (n2 j w hw).cell
    have hlen : (vs ++ nw).length = (xs ++ ys).length * R.size := by rw [List.length_append, hl, n1, List.length_append, Nat.add_mul]
    have helem : ∀ c' : Cx, c.le c' → ∀ i x, (xs ++ ys)[i]? = some x → R.cells c' (((vs ++ nw).drop (i * R.size)).take R.size) x := fun c' hcc i x hx => by
      rcases Nat.lt_or_ge i xs.length with hi' | hi'
      · rw [take_drop_left (by rw [hl]; exact mul_step hi')]
        rw [List.getElem?_append_left hi'] at hx
        exact R.mono hcc (h2 i x hx)
      · rw [List.getElem?_append_right hi'] at hx
        have := n4 _ _ hx
        rw [show i * R.size = vs.length + (i - xs.length) * R.size by rw [hl, ← Nat.add_mul]; congr 1; omega, ← List.drop_drop, List.drop_left]
        exact R.mono hcc this
    have hN : (xs ++ ys).length = xs.length + ys.length := List.length_append
    have hbytes : (xs.length + ys.length) * ti.bytes ≤ 140737488355328 := by
      rw [hz3]
      exact Nat.le_trans (Nat.mul_le_mul hfar hby) (by decide)
    have fresh : ∀ old, old < xs.length + ys.length →
        ∃ v' c', Result.ok (α := Value) (.slice (some ⟨c.w.heap.size, 0, none⟩) (xs.length + ys.length) (grownCap c.w (xs.length + ys.length) old E)) (c.w.drew.alloc (.cells (vs.toArray ++ nw.toArray ++ Builtin.zeroCells z.cells (grownCap c.w (xs.length + ys.length) old E - (xs.length + ys.length))) E)) = .ok v' c'.w ∧ c.le c' ∧ c0.ext c' ∧ Ow c0.w.heap.size E R c' v' (xs ++ ys) ∧
        (∀ k, k < c.w.heap.size → v.ownBlock ≠ some k → c'.w.heap[k]? = c.w.heap[k]? ∧ ∀ o, c'.A k o ↔ c.A k o) ∧ (∀ g, v'.ownBlock = some g → v.ownBlock = some g ∨ c.w.heap.size ≤ g) := by
      intro old ho
      have hge := grownCap_ge c.w (xs.length + ys.length) old E
      have hcm : grownCap c.w (xs.length + ys.length) old E ≤ maxLen := grownCap_le_maxLen c.w _ old E (by unfold maxLen; omega)
      have hx1 := (Cx.ext_drew c).trans (Cx.ext_new c.drew (vs.toArray ++ nw.toArray ++ Builtin.zeroCells z.cells (grownCap c.w (xs.length + ys.length) old E - (xs.length + ys.length))) E fun o => (vs ++ nw).length ≤ o)
      refine ⟨_, c.drew.new (.cells (vs.toArray ++ nw.toArray ++ Builtin.zeroCells z.cells (grownCap c.w (xs.length + ys.length) old E - (xs.length + ys.length))) E) fun o => (vs ++ nw).length ≤ o, rfl, hx1.le, x0.trans hx1, ?_, fun k hk _ => ⟨hx1.block k hk, fun o => hx1.A k o hk⟩, fun g hg => .inr (by simp only [Value.ownBlock, Option.some.injEq] at hg; omega)⟩
      have := Ow.made (R := R) (E := E) (c := c.drew) (xs := xs ++ ys) (vs := vs ++ nw) (arr := vs.toArray ++ nw.toArray ++ Builtin.zeroCells z.cells (grownCap c.w (xs.length + ys.length) old E - (xs.length + ys.length))) (cap := grownCap c.w (xs.length + ys.length) old E) (base := c0.w.heap.size) hp hlen x0.size (by rw [hN]; exact hge) hcm
        (by simp only [Array.size_append, List.size_toArray, size_zeroCells', hz, hl, n1, ← Nat.add_mul]; congr 1; omega)
        (by simp only [Array.toList_append, List.append_assoc]; rw [← List.append_assoc]; exact List.take_left)
        (fun c' hc' => helem c' ((Cx.ext_drew c).le.trans hc'))
      rw [hN] at this
      exact this
    rcases h1 with ⟨rfl, hnil⟩ | ⟨g, cap, cur, rfl, hb, hg, hnc, hcm, hcs, htake⟩
    · obtain rfl : xs = [] := List.eq_nil_of_length_eq_zero hnil
      have hvs : vs = [] := by simpa using hl
      subst hvs
      have hr := run_append_nil (P := P) c.w t ty E ti z hT hti hz1 ⟨ub, uo, none⟩ ys.length ucap nw (by rw [n1, hz2]) hcells hpos (by simp at hfar; omega) (by have := hbytes; simp at this; omega)
      have := fresh 0 (by simpa using hpos)
      simp only [List.length_nil, Nat.zero_add, Array.empty_append, List.nil_append] at this hr ⊢
      rw [hr]
      exact this
    · by_cases hroom : xs.length + ys.length ≤ cap
      · have hfit : xs.length * ti.size + nw.length ≤ cur.size := by rw [n1, hz2, hcs, ← Nat.add_mul]; exact Nat.mul_le_mul_right _ hroom
        have hr := run_append_room (P := P) c.w t ty E ti hT hti g xs.length cap cur hg ⟨ub, uo, none⟩ ys.length ucap nw (by rw [n1, hz2]) hcells n3 hroom hfit
        rw [hz2, htake] at hr
        have hbk := setRow_heap c.w g cur (vs ++ nw ++ cur.toList.drop (xs.length * R.size + nw.length)).toArray E (0, 0) hg
        have hoth : ∀ k, k ≠ g → (c.w.setRow g (vs ++ nw ++ cur.toList.drop (xs.length * R.size + nw.length)).toArray).heap[k]? = c.w.heap[k]? := fun k hk => setRow_other c.w g k _ hk
        have hsz : (c.w.setRow g (vs ++ nw ++ cur.toList.drop (xs.length * R.size + nw.length)).toArray).heap.size = c.w.heap.size := by simp [World.setRow]
        have hA := h3 g rfl
        have hle' : c.le ⟨c.w.setRow g (vs ++ nw ++ cur.toList.drop (xs.length * R.size + nw.length)).toArray, fun k o => (k ≠ g ∧ c.A k o) ∨ (k = g ∧ (vs ++ nw).length ≤ o)⟩ := by
          refine ⟨by rw [hsz]; exact Nat.le_refl _, fun k o hk hnA => ?_⟩
          by_cases hkg : k = g
          · subst hkg
            have ho : o < vs.length := by
              rcases Nat.lt_or_ge o vs.length with h | h
              · exact h
              · exact absurd ((hA o).2 h) hnA
            refine ⟨?_, ?_⟩
            · have e1 : (vs ++ nw ++ cur.toList.drop (xs.length * R.size + nw.length))[o]? = vs[o]? := by
                rw [List.append_assoc, List.getElem?_append_left ho]
              have e2 : cur[o]? = vs[o]? := by
                rw [← htake, List.getElem?_take, if_pos (by rw [← hl]; exact ho)]
                simp
              rw [cell_setRow_same c.w k o cur _ E (0, 0) hg, cell_of_row c.w k o cur E (0, 0) hg, List.getElem?_toArray, e1, e2]
            · rintro (h | h)
              · exact h.1 rfl
              · have := h.2
                rw [List.length_append] at this
                omega
          · refine ⟨World.cell?_of_block (w := c.w) (a := ⟨k, o, none⟩) (hoth k hkg), ?_⟩
            rintro (h | h)
            · exact hnA h.2
            · exact hkg h.1
        refine ⟨_, ⟨c.w.setRow g (vs ++ nw ++ cur.toList.drop (xs.length * R.size + nw.length)).toArray, fun k o => (k ≠ g ∧ c.A k o) ∨ (k = g ∧ (vs ++ nw).length ≤ o)⟩, hr, hle',
          ⟨x0.os, x0.tape, x0.output, by rw [hsz]; exact x0.size, fun k hk => by rw [hoth k (by omega)]; exact x0.block k hk, fun k o hk => ?_, fun a => (frozen?_row hg hbk hoth a).trans (x0.frz a)⟩, ⟨hp, vs ++ nw, ⟨hlen, .inr ⟨g, cap, _, by rw [hN], hb, hbk, by rw [hN]; exact hroom, hcm, ?_, ?_⟩⟩, helem _ hle', ?_⟩, fun k hk hkg => ⟨hoth k (fun e => hkg (by rw [e]; rfl)), fun o => ?_⟩, fun g' hg' => .inl hg'⟩
        · rw [← x0.A k o hk]
          constructor
          · rintro (h | h)
            · exact h.2
            · omega
          · exact fun h => .inl ⟨by omega, h⟩
        · simp only [List.size_toArray, List.length_append, List.length_drop, Array.length_toList]
          rw [hz2] at hfit
          omega
        · rw [← hlen]
          exact List.take_left
        · intro g' hg' o
          simp only [Value.ownBlock, Option.some.injEq] at hg'
          subst hg'
          simp
        · have hkg' : k ≠ g := fun e => hkg (by rw [e]; rfl)
          constructor
          · rintro (h | h)
            · exact h.2
            · exact absurd h.1 hkg'
          · exact fun h => .inl ⟨hkg', h⟩
      · have holds : ∀ j w, vs[j]? = some w → c.w.cell? ((⟨g, 0, none⟩ : Addr).add j) = some w := fun j w hw => by
          rw [Addr.add_lit, Nat.zero_add]
          have hj := (List.getElem?_eq_some_iff.1 hw).1
          have e2 : cur[j]? = some w := by
            rw [← htake, List.getElem?_take, if_pos (by rw [← hl]; exact hj)] at hw
            simpa using hw
          simp [World.cell?, hg, e2]
        have hr := run_append_grow (P := P) c.w t ty E ti z hT hti hz1 ⟨g, 0, none⟩ xs.length cap vs (by rw [hl, hz2]) holds ⟨ub, uo, none⟩ ys.length ucap nw (by rw [n1, hz2]) hcells (by omega) (by omega) (growslice_fits (by omega) hbytes)
        rw [hr]
        exact fresh cap (by omega)

variable {n : Nat} {ops : Array Oper} {Q : Exit → (Nat → Value) → World → Prop} {rest : List Oper} {o : Oper} {e : Nat → Value}

theorem WL.append {E t ty : TypeId} {v u : Value} {xs ys zs : List α} {z : Value} {by_ : Nat} (x0 : c0.ext c) (hO : Ow c0.w.heap.size E R c v xs) (hS : Sl R c u ys) (happ : app xs ys = some zs)
    (hT : P.underlying t = some (.slice E)) (hi : (P.info? E).map (fun i => (i.zero, i.size, i.bytes)) = some (some z, R.size, by_)) (hz : z.cells.size = R.size) (hby : Nat.ble by_ 128 = true)
    (hg : o.guard = none) (hx : execOp (ev n e) o = (do pure (Next.value (← Builtin.append_ #[t, t] ty #[v, u])) : Sem Next))
    (h : ∀ v' c', c.le c' → c0.ext c' → Ow c0.w.heap.size E R c' v' zs → (∀ k, k < c.w.heap.size → v.ownBlock ≠ some k → c'.w.heap[k]? = c.w.heap[k]? ∧ ∀ o, c'.A k o ↔ c.A k o) →
      (∀ g, v'.ownBlock = some g → v.ownBlock = some g ∨ c.w.heap.size ≤ g) → WL P ops n Q rest (upO e o.dst v') c'.w) : WL P ops n Q (o :: rest) e c.w := by
  obtain ⟨v', c', hr, h1, h2, h3, h4, h5⟩ := append_ow (P := P) (t := t) (ty := ty) x0 hO hS happ hT hi hz hby
  exact WL.val hg (rx hx hr) (h v' c' h1 h2 h3 h4 h5)
theorem AC.append (i : Nat) {Bs : List Nat} {l : List Oper} {fuel : Nat} {li : List Bool} {E t ty : TypeId} {v u : Value} {xs ys zs : List α} {z : Value} {by_ : Nat} (hr0 : Region.ready .any l.toArray li.toArray = [i]) (hi0 : l.toArray[i]? = some o) (hsl : slotsIn n l = true) (hw : wants l.toArray n e o = true)
    (hB : ∀ b ∈ Bs, b < c.w.heap.size ∧ v.ownBlock ≠ some b) (x0 : c0.ext c) (hO : Ow c0.w.heap.size E R c v xs) (hS : Sl R c u ys) (happ : app xs ys = some zs)
    (hT : P.underlying t = some (.slice E)) (hi : (P.info? E).map (fun i => (i.zero, i.size, i.bytes)) = some (some z, R.size, by_)) (hz : z.cells.size = R.size) (hby : Nat.ble by_ 128 = true)
    (hx : execOp (ev n e) o = (do pure (Next.value (← Builtin.append_ #[t, t] ty #[v, u])) : Sem Next))
    (h : ∀ v' c', c.le c' → c0.ext c' → Ow c0.w.heap.size E R c' v' zs → (∀ k, k < c.w.heap.size → v.ownBlock ≠ some k → c'.w.heap[k]? = c.w.heap[k]? ∧ ∀ o, c'.A k o ↔ c.A k o) →
      (∀ g, v'.ownBlock = some g → v.ownBlock = some g ∨ c.w.heap.size ≤ g) → AC Bs P l n Q fuel (li.set i true) (upO e o.dst v') c') : AC Bs P l n Q (fuel + 1) li e c := by
  obtain ⟨v', c', hr, h1, h2, h3, h4, h5⟩ := append_ow (P := P) (t := t) (ty := ty) x0 hO hS happ hT hi hz hby
  exact AC.oneVal i hr0 hi0 hsl hw (rx hx hr) ⟨h1, fun b hb => (h4 b (hB b hb).1 (hB b hb).2).1⟩ (h v' c' h1 h2 h3 h4 h5)

theorem Off.app {v v' : Value} {b : Nat} (h : Off v b) (hb : b < c.w.heap.size) (h5 : ∀ g, v'.ownBlock = some g → v.ownBlock = some g ∨ c.w.heap.size ≤ g) : Off v' b := fun g hg => by
  rcases h5 g hg with h' | h'
  · exact h g h'
  · omega
theorem Off.ne {v : Value} {b : Nat} (h : Off v b) : v.ownBlock ≠ some b := fun hb => h b hb rfl

/-- Elements, each with its cells. -/
def AllR (R : Rp α) (c : Cx) : List (List Value) → List α → Prop
  | [], [] => True
  | l :: ls, x :: xs => R.cells c l x ∧ AllR R c ls xs
  | _, _ => False
theorem AllR.mono {c' : Cx} (hc : c.le c') : ∀ {ls : List (List Value)} {xs : List α}, AllR R c ls xs → AllR R c' ls xs
  | [], [], _ => trivial
  | _ :: _, _ :: _, h => ⟨R.mono hc h.1, AllR.mono hc h.2⟩
  | [], _ :: _, h => h.elim
  | _ :: _, [], h => h.elim
theorem AllR.len : ∀ {ls : List (List Value)} {xs : List α}, AllR R c ls xs → ls.flatten.length = xs.length * R.size
  | [], [], _ => by simp
  | l :: ls, x :: xs, h => by
    simp only [List.flatten_cons, List.length_append, List.length_cons, R.len h.1, AllR.len h.2, Nat.add_mul, Nat.one_mul]
    omega
  | [], _ :: _, h => h.elim
  | _ :: _, [], h => h.elim
theorem AllR.get : ∀ {ls : List (List Value)} {xs : List α}, AllR R c ls xs → ∀ i x, xs[i]? = some x → R.cells c ((ls.flatten.drop (i * R.size)).take R.size) x
  | [], [], _ => fun i x h => by simp at h
  | l :: ls, x :: xs, h => fun i y hy => by
    cases i with
    | zero =>
      simp only [List.getElem?_cons_zero, Option.some.injEq] at hy
      subst hy
      rw [Nat.zero_mul, List.drop_zero, List.flatten_cons, ← R.len h.1, List.take_left]
      exact h.1
    | succ i =>
      simp only [List.getElem?_cons_succ] at hy
      rw [List.flatten_cons, Nat.add_mul, Nat.one_mul, Nat.add_comm (i * R.size), ← R.len h.1, ← List.drop_drop, List.drop_left, R.len h.1]
      exact AllR.get h.2 i y hy
  | [], _ :: _, h => h.elim
  | _ :: _, [], h => h.elim

/-- A slice that is written out. -/
theorem WL.slit {E : TypeId} {ls : List (List Value)} {vs : List Value} {xs : List α} (hp : 0 < R.size) (hv : ls.flatten = vs) (hR : AllR R c ls xs) (hm : Nat.ble xs.length 4294967296 = true) (hg : o.guard = none)
    (hr : (execOp (ev n e) o).run P c.w = .ok (.value (.slice (some ⟨c.w.heap.size, 0, none⟩) xs.length xs.length)) (c.w.alloc (.cells vs.toArray E)))
    (h : ∀ v' c', c.ext c' → Ow c.w.heap.size E R c' v' xs → WL P ops n Q rest (upO e o.dst v') c'.w) : WL P ops n Q (o :: rest) e c.w := by
  subst hv
  have hm := Nat.le_of_ble_eq_true hm
  refine WL.val (w' := (c.new (.cells ls.flatten.toArray E) fun o => ls.flatten.length ≤ o).w) hg hr (h _ _ (Cx.ext_new _ _ _ _) ?_)
  exact Ow.made hp hR.len (Nat.le_refl _) (Nat.le_refl _) (by unfold maxLen; omega) (by simpa using hR.len) (List.take_of_length_le (Nat.le_refl _)) fun c' hc => (hR.mono hc).get
theorem AC.slit (i : Nat) {Bs : List Nat} {l : List Oper} {fuel : Nat} {li : List Bool} {E : TypeId} {ls : List (List Value)} {vs : List Value} {xs : List α} (hr0 : Region.ready .any l.toArray li.toArray = [i]) (hi0 : l.toArray[i]? = some o) (hsl : slotsIn n l = true) (hw : wants l.toArray n e o = true)
    (hB : ∀ b ∈ Bs, b < c.w.heap.size) (hp : 0 < R.size) (hv : ls.flatten = vs) (hR : AllR R c ls xs) (hm : Nat.ble xs.length 4294967296 = true)
    (hr : (execOp (ev n e) o).run P c.w = .ok (.value (.slice (some ⟨c.w.heap.size, 0, none⟩) xs.length xs.length)) (c.w.alloc (.cells vs.toArray E)))
    (h : ∀ v' c', c.ext c' → Ow c.w.heap.size E R c' v' xs → AC Bs P l n Q fuel (li.set i true) (upO e o.dst v') c') : AC Bs P l n Q (fuel + 1) li e c := by
  subst hv
  have hm := Nat.le_of_ble_eq_true hm
  have hx := Cx.ext_new c ls.flatten.toArray E fun o => ls.flatten.length ≤ o
  refine AC.oneVal i (c' := c.new (.cells ls.flatten.toArray E) fun o => ls.flatten.length ≤ o) hr0 hi0 hsl hw hr ⟨hx.le, fun b hb => hx.block b (hB b hb)⟩ (h _ _ hx ?_)
  exact Ow.made hp hR.len (Nat.le_refl _) (Nat.le_refl _) (by unfold maxLen; omega) (by simpa using hR.len) (List.take_of_length_le (Nat.le_refl _)) fun c' hc => (hR.mono hc).get

/-! ### cutting -/
theorem Sl.cut {xs : List α} {l h m : Nat} {a : Option Addr} {cap : Nat} (hS : Sl R c (.slice a xs.length cap) xs) (h1 : l ≤ h) (h2 : h ≤ xs.length) (h3 : h ≤ m) (h4 : m ≤ cap) :
    Sl R c (.slice (if m = l then a else a.map (·.add (l * R.size))) (h - l) (m - l)) ((xs.drop l).take (h - l)) := by
  obtain ⟨a', cap', hv, h5, h6, h7⟩ := hS
  cases hv
  have hlen : ((xs.drop l).take (h - l)).length = h - l := by rw [List.length_take, List.length_drop]; omega
  refine ⟨_, m - l, by rw [hlen], by rw [hlen]; omega, by omega, fun i x hx => ?_⟩
  rw [List.getElem?_take] at hx
  split at hx
  · rename_i hi
    rw [List.getElem?_drop] at hx
    obtain ⟨b, off, q, rfl, hq, hc⟩ := h7 _ _ hx
    have hne : m ≠ l := by omega
    refine ⟨b, off + l * R.size, q, ?_, hq, fun j u hu => ?_⟩
    · rw [if_neg hne]; simp [Addr.add_lit]
    · have := hc j u hu
      rwa [show off + (l + i) * R.size + j = off + l * R.size + i * R.size + j by rw [Nat.add_mul]; omega] at this
  · cases hx

theorem slc_ok {xs zs : List α} {i j : Int} (h : slc xs i j = some zs) : 0 ≤ i ∧ i ≤ j ∧ j ≤ xs.length ∧ zs = (xs.drop i.toNat).take (j - i).toNat := by
  unfold slc at h
  split at h
  · rename_i hh
    exact ⟨hh.1, hh.2.1, hh.2.2, by simpa using h.symm⟩
  · cases h
theorem slc_len {xs zs : List α} {i j : Int} (h : slc xs i j = some zs) : (zs.length : Int) = j - i := by
  obtain ⟨h1, h2, h3, rfl⟩ := slc_ok h
  rw [List.length_take, List.length_drop]
  omega

/-- 'l[i:j]', 'l[:j]', 'l[i:]', 'l[i:j:m]' of a slice that stays. -/
theorem run_cut {v : Value} {xs zs : List α} {T E : TypeId} {i j : Int} {k k' : IntKind} (hT : P.underlying T = some (.slice E)) (hE : (P.info? E).map (·.size) = some R.size) (h : Sl R c v xs) (hz : slc xs i j = some zs) :
    ∃ v', (∀ c' : Cx, (Instr.sliceAt T v (some (.int k i)) (some (.int k' j)) none).run P c'.w = .ok v' c'.w) ∧ Sl R c v' zs := by
  obtain ⟨h1, h2, h3, rfl⟩ := slc_ok hz
  obtain ⟨ti, hti, hsz⟩ := Option.map_eq_some_iff.1 hE
  have hh := h
  obtain ⟨a, cap, rfl, h4, h5, h6⟩ := h
  have hcut := Sl.cut (l := i.toNat) (h := j.toNat) (m := cap) hh (by omega) (by omega) (by omega) (Nat.le_refl _)
  rw [show (j - i).toNat = j.toNat - i.toNat by omega]
  refine ⟨_, fun c' => ?_, hcut⟩
  have e1 : 0 ≤ i ∧ i ≤ j := ⟨h1, h2⟩
  have e2 : 0 ≤ j ∧ j ≤ (cap : Int) := ⟨by omega, by omega⟩
  have e3 : ((j.toNat : Nat) : Int) = j := by omega
  simp [Instr.sliceAt, run_underlying hT, Instr.slice, Instr.sliceBounds, Instr.sliceBound, asIntOf, e1, e2, e3, sizeOf, typeInfo, hti, hsz]
  done
theorem run_cutH {v : Value} {xs zs : List α} {T E : TypeId} {j : Int} {k' : IntKind} (hT : P.underlying T = some (.slice E)) (hE : (P.info? E).map (·.size) = some R.size) (h : Sl R c v xs) (hz : slc xs 0 j = some zs) :
    ∃ v', (∀ c' : Cx, (Instr.sliceAt T v none (some (.int k' j)) none).run P c'.w = .ok v' c'.w) ∧ Sl R c v' zs := by
  obtain ⟨h1, h2, h3, rfl⟩ := slc_ok hz
  obtain ⟨ti, hti, hsz⟩ := Option.map_eq_some_iff.1 hE
  have hh := h
  obtain ⟨a, cap, rfl, h4, h5, h6⟩ := h
  have hcut := Sl.cut (l := 0) (h := j.toNat) (m := cap) hh (by omega) (by omega) (by omega) (Nat.le_refl _)
  rw [show (j - 0).toNat = j.toNat - 0 by omega]
  refine ⟨_, fun c' => ?_, hcut⟩
  have e2 : 0 ≤ j ∧ j ≤ (cap : Int) := ⟨by omega, by omega⟩
  simp [Instr.sliceAt, run_underlying hT, Instr.slice, Instr.sliceBounds, Instr.sliceBound, asIntOf, e2, sizeOf, typeInfo, hti]
  done
theorem run_cutL {v : Value} {xs zs : List α} {T E : TypeId} {i : Int} {k : IntKind} (hT : P.underlying T = some (.slice E)) (hE : (P.info? E).map (·.size) = some R.size) (h : Sl R c v xs) (hz : slc xs i xs.length = some zs) :
    ∃ v', (∀ c' : Cx, (Instr.sliceAt T v (some (.int k i)) none none).run P c'.w = .ok v' c'.w) ∧ Sl R c v' zs := by
  obtain ⟨h1, h2, h3, rfl⟩ := slc_ok hz
  obtain ⟨ti, hti, hsz⟩ := Option.map_eq_some_iff.1 hE
  have hh := h
  obtain ⟨a, cap, rfl, h4, h5, h6⟩ := h
  have hcut := Sl.cut (l := i.toNat) (h := xs.length) (m := cap) hh (by omega) (by omega) (by omega) (Nat.le_refl _)
  rw [show ((xs.length : Int) - i).toNat = xs.length - i.toNat by omega]
  refine ⟨_, fun c' => ?_, hcut⟩
  have e1 : 0 ≤ i ∧ i ≤ (xs.length : Int) := ⟨h1, h2⟩
  simp [Instr.sliceAt, run_underlying hT, Instr.slice, Instr.sliceBounds, Instr.sliceBound, asIntOf, e1, sizeOf, typeInfo, hti, hsz]
  done

theorem AC.store (i : Nat) {Bs : List Nat} {l : List Oper} {fuel : Nat} {li : List Bool} {T U : TypeId} {b j : Nat} {us vs nw : List Value} {v : Value} (hr0 : Region.ready .any l.toArray li.toArray = [i]) (hi0 : l.toArray[i]? = some o) (hsl : slotsIn n l = true) (hw : wants l.toArray n e o = true)
    (hB : ∀ b' ∈ Bs, b' ≠ b) (x0 : c0.ext c)
    (hb : Bx c0.w.heap.size c b U vs) (hx : execOp (ev n e) o = (do Instr.storeAt T (.pointer (some ⟨b, j, none⟩)) v; pure Next.skip : Sem Next)) (hv : v.cells.toList = us)
    (hs : (P.info? T).map (·.size) = some us.length) (h1 : allOne us) (hl : Nat.ble (j + us.length) vs.length = true) (hn : vs.take j ++ us ++ vs.drop (j + us.length) = nw)
    (h : ∀ c', c.le c' → c0.ext c' → Bx c0.w.heap.size c' b U nw → (∀ k, k ≠ b → c'.w.heap[k]? = c.w.heap[k]?) → c'.A = c.A → c'.w.heap.size = c.w.heap.size → AC Bs P l n Q fuel (li.set i true) (upO e o.dst undef) c') : AC Bs P l n Q (fuel + 1) li e c := by
  subst hn
  have hr := run_storeB (P := P) (T := T) hv hs h1 hb (Nat.le_of_ble_eq_true hl)
  have hbk := setRow_heap c.w b vs.toArray (vs.take j ++ us ++ vs.drop (j + us.length)).toArray U (0, 0) hb.block
  have hoth : ∀ k, k ≠ b → (c.w.setRow b (vs.take j ++ us ++ vs.drop (j + us.length)).toArray).heap[k]? = c.w.heap[k]? := fun k hk => setRow_other c.w b k _ hk
  have hsz : (c.w.setRow b (vs.take j ++ us ++ vs.drop (j + us.length)).toArray).heap.size = c.w.heap.size := by simp [World.setRow]
  have hle : c.le ⟨c.w.setRow b (vs.take j ++ us ++ vs.drop (j + us.length)).toArray, c.A⟩ := ⟨by rw [hsz]; exact Nat.le_refl _, fun k p hk hA => ⟨World.cell?_of_block (w := c.w) (a := ⟨k, p, none⟩) (hoth k fun e => hA (e ▸ hb.A p)), hA⟩⟩
  refine AC.oneDo i (c' := ⟨c.w.setRow b _, c.A⟩) hr0 hi0 hsl hw (by rw [hx]; exact rs hr) ⟨hle, fun b' hb' => hoth b' (hB b' hb')⟩ ?_
  refine h _ hle ⟨x0.os, x0.tape, x0.output, by rw [hsz]; exact x0.size, fun k hk => ?_, x0.A, fun a => (frozen?_row hb.block hbk hoth a).trans (x0.frz a)⟩ ⟨hbk, hb.A, hb.low⟩ hoth rfl hsz
  rw [hoth k (by have := hb.low; omega)]
  exact x0.block k hk

/-- What a store into box b leaves of the rest. -/
theorem Bx.other {c' : Cx} {b k : Nat} {T : TypeId} {vs : List Value} {base : Nat} (h : Bx base c k T vs) (hne : k ≠ b) (h1 : ∀ k, k ≠ b → c'.w.heap[k]? = c.w.heap[k]?) (h2 : c'.A = c.A) : Bx base c' k T vs :=
  h.keep ⟨h1 k hne, fun o => by rw [h2]⟩
theorem Ow.other {c' : Cx} {b : Nat} {E : TypeId} {v : Value} {xs : List α} {base : Nat} (h : Ow base E R c v xs) (hle : c.le c') (hoff : Off v b) (h1 : ∀ k, k ≠ b → c'.w.heap[k]? = c.w.heap[k]?) (h2 : c'.A = c.A) : Ow base E R c' v xs :=
  h.keep hle fun g hg => ⟨h1 g (hoff g hg), fun o => by rw [h2]⟩
end
end Go.Lt
