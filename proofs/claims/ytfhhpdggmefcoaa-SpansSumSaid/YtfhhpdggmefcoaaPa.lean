/-
  Plain laws on what our walk kit's functions are made of: loops round by round, numbers, lists. No condition; nothing of any program stands here.
-/
import Derived.Test.YtfhhpdggmefcoaaMx
namespace Go.Lt

theorem w64_in {n : Int} (h : -9223372036854775808 ≤ n ∧ n ≤ 9223372036854775807) : w64 n = n := by
  unfold w64
  rw [IntKind.wrap_i64]
  omega
theorem w32_in {n : Int} (h : -2147483648 ≤ n ∧ n ≤ 2147483647) : w32 n = n := by
  unfold w32
  rw [IntKind.wrap_i32]
  omega

/-- What 'bind' does, as a law that is not taken for a reduction (the kernel would compare what is bound). -/
theorem bsm {α β : Type} (a : α) (f : α → Option β) : (some a).bind f = f a := by simp
/-- A loop whose rounds keep Inv and come nearer to its end. -/
theorem iter_inv {σ τ : Type} {step : σ → Option (σ ⊕ τ)} (Inv : σ → Prop) (μ : σ → Nat) (post : τ → Prop)
    (h : ∀ s, Inv s → (∃ s', step s = some (.inl s') ∧ Inv s' ∧ μ s' < μ s) ∨ ∃ t, step s = some (.inr t) ∧ post t) :
    ∀ (fuel : Nat) (s : σ), Inv s → μ s < fuel → ∃ t, iter fuel step s = some t ∧ post t := by
  intro fuel
  induction fuel with
  | zero => intro s _ hm; omega
  | succ k ih =>
    intro s hs hm
    rcases h s hs with ⟨s', h1, h2, h3⟩ | ⟨t, h1, h2⟩
    · obtain ⟨t, h4, h5⟩ := ih s' h2 (by omega)
      exact ⟨t, by simp [iter, h1, h4], h5⟩
    · exact ⟨t, by simp [iter, h1], h2⟩
/-- The same, where the end is known. -/
theorem iter_eq {σ τ : Type} {step : σ → Option (σ ⊕ τ)} (Inv : σ → Prop) (μ : σ → Nat) {t : τ}
    (h : ∀ s, Inv s → (∃ s', step s = some (.inl s') ∧ Inv s' ∧ μ s' < μ s) ∨ step s = some (.inr t)) {fuel : Nat} {s : σ} (h0 : Inv s) (hm : μ s < fuel) : iter fuel step s = some t := by
  obtain ⟨t', h1, h2⟩ := iter_inv Inv μ (fun x => x = t) (fun s hs => (h s hs).imp id fun h => ⟨t, h, rfl⟩) fuel s h0 hm
  rw [h1, h2]

theorem orE_some (a b : Bool) : orE a (some b) = some (a || b) := by cases a <;> rfl
theorem andE_some (a b : Bool) : andE a (some b) = some (a && b) := by cases a <;> rfl
theorem orE_true (x : Option Bool) : orE true x = some true := rfl
theorem orE_false (x : Option Bool) : orE false x = x := rfl
theorem andE_true (x : Option Bool) : andE true x = x := rfl
theorem andE_false (x : Option Bool) : andE false x = some false := rfl
/-- What stands behind 'or' matters only where it is asked. -/
theorem orE_of {a : Bool} {x : Option Bool} {b : Bool} (h : a = false → x = some b) : orE a x = some (a || b) := by
  cases a
  · simp [orE, h rfl]
  · rfl
theorem andE_of {a : Bool} {x : Option Bool} {b : Bool} (h : a = true → x = some b) : andE a x = some (a && b) := by
  cases a
  · rfl
  · simp [andE, h rfl]

theorem idx_nat {α : Type} (xs : List α) (i : Nat) : idx xs (i : Int) = xs[i]? := by
  unfold idx
  rw [if_pos (Int.natCast_nonneg i)]
  rfl
theorem idx_at {α : Type} {xs : List α} {i : Nat} (h : i < xs.length) : idx xs (i : Int) = some xs[i] := by
  rw [idx_nat, List.getElem?_eq_getElem h]
theorem sets_nat {α : Type} {xs : List α} {i : Nat} (h : i < xs.length) (x : α) : sets xs (i : Int) x = some (xs.set i x) := by
  unfold sets
  rw [if_pos ⟨Int.natCast_nonneg i, by omega⟩]
  rfl
theorem app_eq {α : Type} {xs ys : List α} (h : xs.length + ys.length ≤ 1099511627776) : app xs ys = some (xs ++ ys) := by
  unfold app far
  rw [if_pos h]
theorem rep_eq {α : Type} {n : Int} (x : α) (h : 0 ≤ n ∧ n ≤ 1099511627776) : rep n x = some (List.replicate n.toNat x) := by
  unfold rep far
  rw [if_pos (by omega)]
theorem slc_eq {α : Type} {xs : List α} {i j : Nat} (h : i ≤ j) (h2 : j ≤ xs.length) : slc xs i j = some ((xs.drop i).take (j - i)) := by
  unfold slc
  rw [if_pos (by omega)]
  congr 2
  omega
theorem imax_eq (x y : Int) : imax x y = max x y := by unfold imax; split <;> omega
theorem imin_eq (x y : Int) : imin x y = min x y := by unfold imin; split <;> omega
theorem dvg_eq {n : Int} (h : n ≠ 0) : dvg n = some () := by simp [dvg, h]

/-- A loop that counts from 0 to n, in whose rounds nothing but the count changes, and which may be left. -/
theorem iter_count {τ : Type} {step : Int → Option (Int ⊕ τ)} {n : Nat} (hn : n ≤ 9223372036854775807) (post : τ → Prop) (Inv : Nat → Prop) (h0 : Inv 0)
    (h : ∀ i : Nat, i < n → Inv i → (step i = some (.inl ((i + 1 : Nat) : Int)) ∧ Inv (i + 1)) ∨ ∃ t, step i = some (.inr t) ∧ post t)
    (hend : Inv n → ∃ t, step n = some (.inr t) ∧ post t) : ∃ t, iter (((n : Int) - 0).toNat + 1) step 0 = some t ∧ post t := by
  refine iter_inv (fun s : Int => ∃ i : Nat, s = (i : Int) ∧ i ≤ n ∧ Inv i) (fun s : Int => n - s.toNat) post (fun s ⟨i, hs, hi, hI⟩ => ?_) _ _ ⟨0, rfl, Nat.zero_le _, h0⟩ (by simp)
  subst hs
  rcases Nat.lt_or_ge i n with hlt | hge
  · rcases h i hlt hI with ⟨h1, h2⟩ | h1
    · exact .inl ⟨_, h1, ⟨i + 1, rfl, hlt, h2⟩, by simp; omega⟩
    · exact .inr h1
  · obtain rfl : i = n := by omega
    exact .inr (hend hI)
/-- A loop that counts from 0 to n; i is the count at the state s by Inv. -/
theorem iter_for {σ τ : Type} {step : σ → Option (σ ⊕ τ)} {n : Nat} (Inv : Nat → σ → Prop) (post : τ → Prop)
    (h : ∀ i s, i < n → Inv i s → (∃ s', step s = some (.inl s') ∧ Inv (i + 1) s') ∨ ∃ t, step s = some (.inr t) ∧ post t)
    (hend : ∀ s, Inv n s → ∃ t, step s = some (.inr t) ∧ post t) {fuel : Nat} {s : σ} (h0 : Inv 0 s) (hf : n < fuel) : ∃ t, iter fuel step s = some t ∧ post t := by
  have key : ∀ fuel i s, i ≤ n → n - i < fuel → Inv i s → ∃ t, iter fuel step s = some t ∧ post t := by
    intro fuel
    induction fuel with
    | zero => intro i s _ hm; omega
    | succ k ih =>
      intro i s hi hm hs
      rcases Nat.lt_or_ge i n with hlt | hge
      · rcases h i s hlt hs with ⟨s', h1, h2⟩ | ⟨t, h1, h2⟩
        · obtain ⟨t, h4, h5⟩ := ih (i + 1) s' hlt (by omega) h2
          exact ⟨t, by simp [iter, h1, h4], h5⟩
        · exact ⟨t, by simp [iter, h1], h2⟩
      · obtain rfl : i = n := by omega
        obtain ⟨t, h1, h2⟩ := hend s hs
        exact ⟨t, by simp [iter, h1], h2⟩
  exact key fuel 0 s (Nat.zero_le _) (by omega) h0
theorem bind_of {α β : Type} {x : Option α} {k : α → Option β} {a : α} {r : Option β} (h : x = some a) (h2 : k a = r) : x.bind k = r := by rw [h]; exact h2
/-- The same, of a goal: the step is read off it. -/
theorem iter_forB {σ τ β : Type} {step : σ → Option (σ ⊕ τ)} {n : Nat} (Inv : Nat → σ → Prop) (post : τ → Prop) {fuel : Nat} {s : σ} {k : τ → Option β} {r : Option β}
    (h : ∀ i s, i < n → Inv i s → (∃ s', step s = some (.inl s') ∧ Inv (i + 1) s') ∨ ∃ t, step s = some (.inr t) ∧ post t)
    (hend : ∀ s, Inv n s → ∃ t, step s = some (.inr t) ∧ post t) (h0 : Inv 0 s) (hf : n < fuel) (hk : ∀ t, post t → k t = r) : (iter fuel step s).bind k = r := by
  obtain ⟨t, h1, h2⟩ := iter_for Inv post h hend h0 hf
  rw [h1]
  exact hk t h2
theorem iter_forE {σ τ β : Type} {step : σ → Option (σ ⊕ τ)} {n : Nat} (Inv : Nat → σ → Prop) (post : τ → Prop) {fuel : Nat} {s : σ} {k : τ → Option β} {p : β → Prop}
    (h : ∀ i s, i < n → Inv i s → (∃ s', step s = some (.inl s') ∧ Inv (i + 1) s') ∨ ∃ t, step s = some (.inr t) ∧ post t)
    (hend : ∀ s, Inv n s → ∃ t, step s = some (.inr t) ∧ post t) (h0 : Inv 0 s) (hf : n < fuel) (hk : ∀ t, post t → ∃ r, k t = some r ∧ p r) : ∃ r, (iter fuel step s).bind k = some r ∧ p r := by
  obtain ⟨t, h1, h2⟩ := iter_for Inv post h hend h0 hf
  rw [h1]
  exact hk t h2
theorem iter_forL {σ τ γ : Type} {step : σ → Option (σ ⊕ τ)} {n : Nat} (Inv : Nat → σ → Prop) (post : τ → Prop) {fuel : Nat} {s : σ} {k : τ → Option (γ × Bool)}
    (h : ∀ i s, i < n → Inv i s → (∃ s', step s = some (.inl s') ∧ Inv (i + 1) s') ∨ ∃ t, step s = some (.inr t) ∧ post t)
    (hend : ∀ s, Inv n s → ∃ t, step s = some (.inr t) ∧ post t) (h0 : Inv 0 s) (hf : n < fuel) (hk : ∀ t, post t → ∃ r, k t = some (r, true)) : ∃ r, (iter fuel step s).bind k = some (r, true) := by
  obtain ⟨t, h1, h2⟩ := iter_for Inv post h hend h0 hf
  rw [h1]
  exact hk t h2
/-- A loop that lays n members behind each other. -/
theorem iter_map {α τ : Type} {step : List α × Int → Option (List α × Int ⊕ τ)} {n fuel : Nat} (f : Nat → α) {t : τ}
    (h : ∀ i, i < n → step ((List.range i).map f, (i : Int)) = some (.inl ((List.range i).map f ++ [f i], ((i + 1 : Nat) : Int))))
    (hend : step ((List.range n).map f, (n : Int)) = some (.inr t)) (hf : n < fuel) : iter fuel step ([], 0) = some t := by
  obtain ⟨t', h1, h2⟩ := iter_for (step := step) (n := n) (fuel := fuel) (s := ([], 0)) (fun i s => s = ((List.range i).map f, (i : Int))) (fun t' => t' = t)
    (fun i s hi e => by subst e; exact .inl ⟨_, h i hi, by rw [List.range_succ, List.map_append]; rfl⟩) (fun s e => by subst e; exact ⟨t, hend, rfl⟩) rfl hf
  rw [h1, h2]
theorem w64_succ {i n : Nat} (h : i < n) (hn : n ≤ 9223372036854775807) : w64 ((i : Int) + 1) = ((i + 1 : Nat) : Int) := by
  rw [w64_in (by omega)]
  simp
theorem dlt {i n : Nat} (h : i < n) : decide ((i : Int) < (n : Int)) = true := by simp; exact h
theorem dnl (n : Nat) : decide ((n : Int) < (n : Int)) = false := by simp
end Go.Lt
