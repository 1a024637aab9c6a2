/-
  Tables of spans, in plain Lean: what a search by halves finds, and what a look through lists finds. Conditions: spans rise, and lie apart.
-/
import Derived.Test.YtfhhpdggmefcoaaPa
namespace Go.Lt
/-! ### loops, read off the goal -/
theorem iter_invB {σ τ β : Type} {step : σ → Option (σ ⊕ τ)} {fuel : Nat} {s : σ} {k : τ → Option β} {r : Option β} (Inv : σ → Prop) (μ : σ → Nat) (post : τ → Prop)
    (h : ∀ s, Inv s → (∃ s', step s = some (.inl s') ∧ Inv s' ∧ μ s' < μ s) ∨ ∃ t, step s = some (.inr t) ∧ post t) (h0 : Inv s) (hf : μ s < fuel) (hk : ∀ t, post t → k t = r) : (iter fuel step s).bind k = r := by
  obtain ⟨t, e1, e2⟩ := iter_inv Inv μ post h fuel s h0 hf
  rw [e1]
  exact hk t e2
theorem iter_invE {σ τ β : Type} {step : σ → Option (σ ⊕ τ)} {fuel : Nat} {s : σ} {k : τ → Option β} {p : β → Prop} (Inv : σ → Prop) (μ : σ → Nat) (post : τ → Prop)
    (h : ∀ s, Inv s → (∃ s', step s = some (.inl s') ∧ Inv s' ∧ μ s' < μ s) ∨ ∃ t, step s = some (.inr t) ∧ post t) (h0 : Inv s) (hf : μ s < fuel) (hk : ∀ t, post t → ∃ r, k t = some r ∧ p r) : ∃ r, (iter fuel step s).bind k = some r ∧ p r := by
  obtain ⟨t, e1, e2⟩ := iter_inv Inv μ post h fuel s h0 hf
  rw [e1]
  exact hk t e2
theorem bind_or {α σ τ : Type} {x : Option α} {k : α → Option (σ ⊕ τ)} {A : σ → Prop} {B : τ → Prop} (post : α → Prop) (hx : ∃ t, x = some t ∧ post t)
    (hk : ∀ t, post t → (∃ s', k t = some (.inl s') ∧ A s') ∨ ∃ u, k t = some (.inr u) ∧ B u) : (∃ s', x.bind k = some (.inl s') ∧ A s') ∨ ∃ t, x.bind k = some (.inr t) ∧ B t := by
  obtain ⟨t, e1, e2⟩ := hx
  rw [e1]
  exact hk t e2
theorem bind_ex {α β : Type} {x : Option α} {k : α → Option β} {p : β → Prop} (post : α → Prop) (hx : ∃ t, x = some t ∧ post t) (hk : ∀ t, post t → ∃ r, k t = some r ∧ p r) : ∃ r, x.bind k = some r ∧ p r := by
  obtain ⟨t, e1, e2⟩ := hx
  rw [e1]
  exact hk t e2
variable {α : Type} {lo hi : α → Int}

/-- Do spans rise, and lie apart? -/
def srtd (lo hi : α → Int) : List α → Bool
  | [] => true
  | x :: l => decide (lo x ≤ hi x) && (match l with | [] => true | y :: _ => decide (hi x < lo y)) && srtd lo hi l
theorem srtd_lo : ∀ {T : List α}, srtd lo hi T = true → ∀ i (h : i < T.length), lo T[i] ≤ hi T[i]
  | [], _, i, h => by simp at h
  | x :: l, hs, i, h => by
    simp only [srtd, Bool.and_eq_true, decide_eq_true_eq] at hs
    cases i with
    | zero => exact hs.1.1
    | succ i => exact srtd_lo hs.2 i (by simpa using h)
theorem srtd_lt : ∀ {T : List α}, srtd lo hi T = true → ∀ i j (h : j < T.length), (hij : i < j) → hi (T[i]'(by omega)) < lo T[j]
  | [], _, i, j, h, _ => by simp at h
  | x :: l, hs, i, j, h, hij => by
    have hs0 := hs
    simp only [srtd, Bool.and_eq_true, decide_eq_true_eq] at hs
    cases j with
    | zero => omega
    | succ j =>
      have hj : j < l.length := by simpa using h
      cases i with
      | succ i => exact srtd_lt hs.2 i j hj (by omega)
      | zero =>
        cases l with
        | nil => simp at hj
        | cons y l' =>
          have h1 : hi x < lo y := by simpa using hs.1.2
          cases j with
          | zero => exact h1
          | succ j =>
            have h2 := srtd_lt hs.2 0 (j + 1) hj (by omega)
            have h3 := srtd_lo hs.2 0 (by simp)
            simp only [List.getElem_cons_zero] at h2 h3
            simp only [List.getElem_cons_zero, List.getElem_cons_succ] at h2 ⊢
            omega
/-- Does a span hold a number? -/
def onn (lo hi : α → Int) (r : Int) (x : α) : Bool := decide (lo x ≤ r) && decide (r ≤ hi x)
theorem onn_iff {r : Int} {x : α} : onn lo hi r x = true ↔ lo x ≤ r ∧ r ≤ hi x := by simp [onn]
theorem onn_uniq {T : List α} (hs : srtd lo hi T = true) {r : Int} {i j : Nat} (hi' : i < T.length) (hj : j < T.length) (h1 : onn lo hi r T[i] = true) (h2 : onn lo hi r T[j] = true) : i = j := by
  rw [onn_iff] at h1 h2
  rcases Nat.lt_trichotomy i j with h | h | h
  · have := srtd_lt hs i j hj h
    omega
  · exact h
  · have := srtd_lt hs j i hi' h
    omega
/-- The span that holds a number. -/
def fnd (lo hi : α → Int) (T : List α) (r : Int) : Option α := T.find? (onn lo hi r)
theorem fnd_of {T : List α} (hs : srtd lo hi T = true) {r : Int} {x : α} (hx : x ∈ T) (h : onn lo hi r x = true) : fnd lo hi T r = some x := by
  unfold fnd
  obtain ⟨i, hi', rfl⟩ := List.mem_iff_getElem.1 hx
  rw [List.find?_eq_some_iff_getElem]
  refine ⟨h, i, hi', rfl, fun j hj => ?_⟩
  cases hb : onn lo hi r (T[j]'(by omega)) with
  | false => rfl
  | true => exact absurd (onn_uniq hs (by omega) hi' hb h) (by omega)
theorem fnd_none {T : List α} {r : Int} (h : ∀ i (h : i < T.length), onn lo hi r T[i] = false) : fnd lo hi T r = none := by
  unfold fnd
  rw [List.find?_eq_none]
  intro x hx
  obtain ⟨i, hi', rfl⟩ := List.mem_iff_getElem.1 hx
  simp [h i hi']
theorem fnd_mem {T : List α} {r : Int} {x : α} (h : fnd lo hi T r = some x) : x ∈ T ∧ onn lo hi r x = true := ⟨List.mem_of_find?_eq_some h, List.find?_some h⟩
/-- What the place of the first span that ends at a number, or behind it, tells. -/
theorem fnd_at {T : List α} (hs : srtd lo hi T = true) {r : Int} {i : Nat} (h1 : ∀ j (h : j < T.length), j < i → hi T[j] < r) (h2 : ∀ j (h : j < T.length), i ≤ j → r ≤ hi T[j]) :
    fnd lo hi T r = if h : i < T.length then (if lo T[i] ≤ r then some T[i] else none) else none := by
  have hno : ∀ j (h : j < T.length), j ≠ i → onn lo hi r T[j] = false := fun j h hne => by
    cases hb : onn lo hi r T[j] with
    | false => rfl
    | true =>
      rw [onn_iff] at hb
      rcases Nat.lt_or_ge j i with hj | hj
      · have := h1 j h hj
        omega
      · have h3 := srtd_lt hs i j h (by omega)
        have h4 := h2 i (by omega) (Nat.le_refl _)
        omega
  split
  · rename_i hi'
    split
    · rename_i hl
      exact fnd_of hs (List.getElem_mem hi') (onn_iff.2 ⟨hl, h2 i hi' (Nat.le_refl _)⟩)
    · rename_i hl
      refine fnd_none fun j h => ?_
      by_cases hj : j = i
      · subst hj
        cases hb : onn lo hi r T[j] with
        | false => rfl
        | true => exact absurd (onn_iff.1 hb).1 hl
      · exact hno j h hj
  · rename_i hi'
    exact fnd_none fun j h => hno j h (by omega)

/-! ### a search by halves -/
theorem half {a b : Nat} (h : a + b ≤ 4611686018427387904) : w64 ((IntKind.u64.wrap (w64 ((a : Int) + (b : Int)))).fdiv (2 ^ 1)) = (((a + b) / 2 : Nat) : Int) := by
  have e0 : w64 ((a : Int) + (b : Int)) = ((a + b : Nat) : Int) := by rw [w64_in (by omega)]; simp
  have h1 : IntKind.u64.wrap ((a + b : Nat) : Int) = ((a + b : Nat) : Int) := by
    have : ((a + b : Nat) : Int) % 18446744073709551616 = ((a + b : Nat) : Int) := Int.emod_eq_of_lt (by omega) (by omega)
    simpa [IntKind.wrap, IntKind.bits, IntKind.signed] using this
  have e2 : (((a + b : Nat) : Int)).fdiv (2 ^ 1) = (((a + b) / 2 : Nat) : Int) := by
    rw [Int.fdiv_eq_ediv_of_nonneg _ (by decide)]
    omega
  rw [e0, h1, e2, w64_in (by omega)]
theorem search_eq {T : List α} (hs : srtd lo hi T = true) (hl : T.length ≤ 1000000) (r : Int) {step : Int × Int → Option (Int × Int ⊕ Int)}
    (h1 : ∀ a b : Nat, (hab : a < b) → (hb : b ≤ T.length) → step ((a : Int), (b : Int)) = some (.inl (if r ≤ hi (T[(a + b) / 2]'(by omega)) then ((a : Int), (((a + b) / 2 : Nat) : Int)) else (((((a + b) / 2 + 1 : Nat) : Int)), (b : Int)))))
    (h2 : ∀ a : Nat, step ((a : Int), (a : Int)) = some (.inr (a : Int))) :
    ∃ i : Nat, iter (((T.length : Int) - 0).toNat + 1) step (0, (T.length : Int)) = some (i : Int) ∧ i ≤ T.length ∧ (∀ j (h : j < T.length), j < i → hi T[j] < r) ∧ (∀ j (h : j < T.length), i ≤ j → r ≤ hi T[j]) := by
  have hmono : ∀ j k (h : k < T.length), (hjk : j ≤ k) → hi (T[j]'(by omega)) ≤ hi T[k] := fun j k h hjk => by
    rcases Nat.lt_or_ge j k with hlt | hge
    · have e1 := srtd_lt hs j k h hlt
      have e2 := srtd_lo hs k h
      omega
    · obtain rfl : j = k := by omega
      exact Int.le_refl _
  obtain ⟨t, e1, i, e2, e3, e4, e5⟩ := iter_inv (step := step) (fun q => ∃ a b : Nat, q = ((a : Int), (b : Int)) ∧ a ≤ b ∧ b ≤ T.length ∧ (∀ j (h : j < T.length), j < a → hi T[j] < r) ∧ (∀ j (h : j < T.length), b ≤ j → r ≤ hi T[j]))
    (fun q => (q.2 - q.1).toNat) (fun t => ∃ i : Nat, t = (i : Int) ∧ i ≤ T.length ∧ (∀ j (h : j < T.length), j < i → hi T[j] < r) ∧ (∀ j (h : j < T.length), i ≤ j → r ≤ hi T[j]))
    (by
      rintro q ⟨a, b, rfl, hab, hb, c1, c2⟩
      rcases Nat.lt_or_ge a b with hlt | hge
      · left
        rw [h1 a b hlt hb]
        refine ⟨_, rfl, ?_⟩
        by_cases hr : r ≤ hi (T[(a + b) / 2]'(by omega))
        · rw [if_pos hr]
          exact ⟨⟨a, (a + b) / 2, rfl, by omega, by omega, c1, fun j h hj => Int.le_trans hr (hmono _ _ h hj)⟩, by simp only; omega⟩
        · rw [if_neg hr]
          refine ⟨⟨(a + b) / 2 + 1, b, rfl, by omega, hb, fun j h hj => ?_, c2⟩, by simp only; omega⟩
          have := hmono j ((a + b) / 2) (by omega) (by omega)
          omega
      · right
        obtain rfl : a = b := by omega
        exact ⟨_, h2 a, a, rfl, hb, c1, c2⟩)
    (((T.length : Int) - 0).toNat + 1) (0, (T.length : Int)) ⟨0, T.length, rfl, Nat.zero_le _, Nat.le_refl _, fun j h hj => by omega, fun j h hj => by omega⟩ (by simp only; omega)
  subst e2
  exact ⟨i, e1, e3, e4, e5⟩

/-! ### a look through lists -/
def osum (v : Option Int) : Int ⊕ Unit := match v with | some x => .inl x | none => .inr ()
theorem lists_eq {n : Nat} (hn : n ≤ 1000000) {v : Option Int} {step : Int → Option (Int ⊕ (Int ⊕ Unit))}
    (h1 : ∀ k : Nat, k < n → step (k : Int) = if v = some ((k : Int) + 1) then some (.inr (.inl ((k : Int) + 1))) else some (.inl ((k + 1 : Nat) : Int)))
    (h2 : step (n : Int) = some (.inr (.inr ()))) (hv : ∀ x, v = some x → 1 ≤ x ∧ x ≤ n) : iter (((n : Int) - 0).toNat + 1) step 0 = some (osum v) := by
  refine iter_eq (fun s => ∃ k : Nat, s = (k : Int) ∧ k ≤ n ∧ ∀ j : Nat, j < k → v ≠ some ((j : Int) + 1)) (fun s => ((n : Int) - s).toNat) ?_ ⟨0, rfl, Nat.zero_le _, fun j hj => by omega⟩ (by omega)
  rintro s ⟨k, rfl, hk, hno⟩
  rcases Nat.lt_or_ge k n with hlt | hge
  · rw [h1 k hlt]
    by_cases he : v = some ((k : Int) + 1)
    · rw [if_pos he]
      right
      subst he
      rfl
    · rw [if_neg he]
      refine .inl ⟨_, rfl, ⟨k + 1, rfl, by omega, fun j hj => ?_⟩, by omega⟩
      by_cases hjk : j = k
      · subst hjk; exact he
      · exact hno j (by omega)
  · obtain rfl : k = n := by omega
    rw [h2]
    right
    cases v with
    | none => rfl
    | some x =>
      obtain ⟨e1, e2⟩ := hv x rfl
      exact absurd (show some x = some (((x - 1).toNat : Int) + 1) by congr 1; omega) (hno (x - 1).toNat (by omega))

theorem lists_eqB {n fuel : Nat} {β : Type} {kk : Int ⊕ Unit → Option β} {rr : Option β} (hn : n ≤ 1000000) {v : Option Int} {step : Int → Option (Int ⊕ (Int ⊕ Unit))}
    (h1 : ∀ k : Nat, k < n → step (k : Int) = if v = some ((k : Int) + 1) then some (.inr (.inl ((k : Int) + 1))) else some (.inl ((k + 1 : Nat) : Int)))
    (h2 : step (n : Int) = some (.inr (.inr ()))) (hv : ∀ x, v = some x → 1 ≤ x ∧ x ≤ n) (hf : fuel = ((n : Int) - 0).toNat + 1) (hk : kk (osum v) = rr) : (iter fuel step 0).bind kk = rr := by
  subst hf
  rw [lists_eq hn h1 h2 hv]
  exact hk
/-- What a table of spans with values tells. -/
def lk (T : List (Int × Int × Int)) (r : Int) : Option Int := (fnd (fun x => x.1) (fun x => x.2.1) T r).map (fun x => x.2.2)
def inl_ (l : List (Int × Int)) (r : Int) : Bool := l.any (onn (fun x => x.1) (fun x => x.2) r)
/-- The spans of a value. -/
def ofv (T : List (Int × Int × Int)) (v : Int) : List (Int × Int) := (T.filter (fun x => x.2.2 == v)).map (fun x => (x.1, x.2.1))
theorem inl_ofv {T : List (Int × Int × Int)} (hs : srtd (fun x => x.1) (fun x => x.2.1) T = true) (v r : Int) : inl_ (ofv T v) r = decide (lk T r = some v) := by
  unfold inl_ ofv lk
  rw [List.any_map, List.any_filter]
  cases hf : fnd (fun x => x.1) (fun x => x.2.1) T r with
  | none =>
    simp only [Option.map_none, reduceCtorEq, decide_false]
    rw [List.any_eq_false]
    intro x hx
    unfold fnd at hf
    have := List.find?_eq_none.1 hf x hx
    simp only [Function.comp, Bool.and_eq_true, not_and]
    intro _
    simpa [onn] using this
  | some x =>
    obtain ⟨h1, h2⟩ := fnd_mem hf
    simp only [Option.map_some, Option.some.injEq]
    by_cases hv : x.2.2 = v
    · rw [decide_eq_true hv, List.any_eq_true]
      exact ⟨x, h1, by simp only [Function.comp, Bool.and_eq_true, beq_iff_eq]; exact ⟨hv, h2⟩⟩
    · rw [decide_eq_false hv, List.any_eq_false]
      intro y hy
      simp only [Function.comp, Bool.and_eq_true, beq_iff_eq, not_and]
      intro e
      cases hb : onn (fun x : Int × Int => x.1) (fun x => x.2) r (y.1, y.2.1) with
      | false => simp
      | true =>
        have := fnd_of hs hy (show onn (fun x : Int × Int × Int => x.1) (fun x => x.2.1) r y = true from hb)
        rw [hf] at this
        cases this
        exact absurd e hv
theorem lk_in {T : List (Int × Int × Int)} {p : Int → Bool} (h : T.all (fun x => p x.2.2) = true) {r v : Int} (hv : lk T r = some v) : p v = true := by
  unfold lk at hv
  obtain ⟨x, hx, rfl⟩ := Option.map_eq_some_iff.1 hv
  exact List.all_eq_true.1 h x (fnd_mem hx).1
end Go.Lt
