/- Parts of the proofs of ScreenCuts: the walk through the code, and plain Lean. No condition. -/
import Derived.Test.YthokmpbbkpjhbaaGreatDoorSqC
import Derived.Test.YthokmpbbkpjhbaaGreatDoorSqA
import Derived.Test.YthokmpbbkpjhbaaGreatDoorProg
import Derived.KernelRfl
import Derived.Test.YthokmpbbkpjhbaaGreatDoorSqB
set_option linter.unusedVariables false
set_option linter.unusedSimpArgs false
namespace Go.Proofs.YthokmpbbkpjhbaaGreatDoor
def addL (c : List (List Int)) (r : Int) : List (List Int) := c.dropLast ++ [c.getLast?.getD [] ++ [r]]
theorem addL_snoc (c : List (List Int)) (x : List Int) (r : Int) : addL (c ++ [x]) r = c ++ [x ++ [r]] := by
 unfold addL
 simp
section
variable (pj : Int → Int → Int) (pr : Int → G_api_Prop)
def clS (l : List Int) : List (List Int) × Sg := l.foldl (fun a r => (if sgJ pj a.2 (pr r) = true then addL a.1 r else a.1 ++ [[r]], sgN a.2 (pr r))) ([], sg0)
def cls (l : List Int) : List (List Int) := (clS pj pr l).1
def jn (l : List Int) (r : Int) : Bool := sgJ pj (sgF (l.map pr)) (pr r)
theorem sgF_snoc (l : List G_api_Prop) (x : G_api_Prop) : sgF (l ++ [x]) = sgN (sgF l) x := by
 unfold sgF
 rw [List.foldl_append]
 rfl
theorem clS_2 (l : List Int) : (clS pj pr l).2 = sgF (l.map pr) := by
 have key : ∀ (l : List Int) (a : List (List Int) × Sg), (l.foldl (fun a r => (if sgJ pj a.2 (pr r) = true then addL a.1 r else a.1 ++ [[r]], sgN a.2 (pr r))) a).2 = (l.map pr).foldl sgN a.2 := by
  intro l
  induction l with
  | nil => intro a; rfl
  | cons r l ih => intro a; rw [List.foldl_cons, ih, List.map_cons, List.foldl_cons]
 exact key l _
theorem cls_nil : cls pj pr [] = [] := rfl
theorem cls_snoc (l : List Int) (r : Int) : cls pj pr (l ++ [r]) = if jn pj pr l r = true then addL (cls pj pr l) r else cls pj pr l ++ [[r]] := by
 unfold cls jn
 rw [← clS_2 pj]
 unfold clS
 rw [List.foldl_append]
 rfl
theorem jn_ne {l : List Int} {r : Int} (h : jn pj pr l r = true) : l ≠ [] := by
 rintro rfl
 simp [jn, sgJ, sgF, sg0] at h
end
theorem snoc_ind {P : List Int → Prop} (h0 : P []) (h1 : ∀ l r, P l → P (l ++ [r])) (l : List Int) : P l := by
 have key : ∀ l : List Int, P l.reverse := by
  intro l
  induction l with
  | nil => exact h0
  | cons r l ih => rw [List.reverse_cons]; exact h1 _ _ ih
 have := key l.reverse
 rwa [List.reverse_reverse] at this
theorem snoc_cases {α : Type} {l : List α} (h : l ≠ []) : ∃ l0 x, l = l0 ++ [x] := ⟨l.dropLast, l.getLast h, (List.dropLast_concat_getLast h).symm⟩
variable {pj : Int → Int → Int} {pr : Int → G_api_Prop}
theorem cls_flat (l : List Int) : (cls pj pr l).flatten = l ∧ (∀ c ∈ cls pj pr l, c ≠ []) ∧ (l ≠ [] → cls pj pr l ≠ []) := by
 refine snoc_ind (P := fun l => (cls pj pr l).flatten = l ∧ (∀ c ∈ cls pj pr l, c ≠ []) ∧ (l ≠ [] → cls pj pr l ≠ [])) ⟨rfl, fun c hc => by simp [cls_nil] at hc, fun h => absurd rfl h⟩ (fun l r ih => ?_) l
 obtain ⟨h1, h2, h3⟩ := ih
 rw [cls_snoc]
 split
 ·rename_i hj
  obtain ⟨c0, x, e⟩ := snoc_cases (h3 (jn_ne pj pr hj))
  rw [e] at h1 h2 ⊢
  rw [addL_snoc]
  refine ⟨?_, fun c hc => ?_, fun _ => by simp⟩
  ·rw [← h1]; simp
  ·rcases List.mem_append.1 hc with hc | hc
   ·exact h2 c (List.mem_append_left _ hc)
   ·rw [List.mem_singleton.1 hc]; simp
 ·refine ⟨by rw [List.flatten_append, h1]; simp, fun c hc => ?_, fun _ => by simp⟩
  rcases List.mem_append.1 hc with hc | hc
  ·exact h2 c hc
  ·rw [List.mem_singleton.1 hc]; simp
theorem cls_last {l : List Int} {x : Int} {c0 : List (List Int)} {c : List Int} (h : cls pj pr (l ++ [x]) = c0 ++ [c]) : ∃ c', c = c' ++ [x] := by
 obtain ⟨h1, h2, _⟩ := cls_flat (pj := pj) (pr := pr) (l ++ [x])
 rw [h] at h1 h2
 obtain ⟨c', y, rfl⟩ := snoc_cases (h2 c (by simp))
 refine ⟨c', ?_⟩
 rw [List.flatten_append] at h1
 simp only [List.flatten_cons, List.flatten_nil, List.append_nil] at h1
 rw [← List.append_assoc] at h1
 have := List.append_inj_right' h1 rfl
 rw [List.singleton_inj.1 this]
section
variable (pj : Int → Int → Int) (pr : Int → G_api_Prop)
end
structure Sil (pj : Int → Int → Int) (pr : Int → G_api_Prop) (sil : Int → Bool) : Prop where
 s : ∀ r, sil r = true → ((pr r).Break = 1 ∨ (pr r).Break = 2 ∨ (pr r).Break = 3) ∧ (pr r).Pict = false ∧ (pr r).Conj = 0
 ja : ∀ a b, (a = 1 ∨ a = 2 ∨ a = 3) → pj a b ≠ 0 → a = 1 ∧ b = 2
 jb : ∀ a b, (b = 1 ∨ b = 2 ∨ b = 3) → pj a b ≠ 0 → a = 1 ∧ b = 2
 b : ∀ r, (pr r).Break = 1 ∨ (pr r).Break = 2 → sil r = true
variable {sil : Int → Bool}
theorem Sil.state (h : Sil pj pr sil) (l : List Int) {x : Int} (hx : sil x = true) : sgF ((l ++ [x]).map pr) = ⟨true, (pr x).Break, 0, 0, false⟩ := by
 obtain ⟨h1, h2, h3⟩ := h.s x hx
 rw [List.map_append, List.map_singleton, sgF_snoc]
 unfold sgN nxP nxC
 rw [h2, h3, if_neg (by simp), if_neg (by omega), if_neg (by omega), if_neg (by omega)]
 congr 1
 ·split <;> rfl
 ·have e : ((pr x).Break == 6) = false := by rw [beq_eq_false_iff_ne]; omega
  rw [e, Bool.false_and]
theorem Sil.no (h : Sil pj pr sil) (l : List Int) {x r : Int} (hx : sil x = true) (hr : sil r = false) : jn pj pr (l ++ [x]) r = false := by
 obtain ⟨h1, _, _⟩ := h.s x hx
 unfold jn
 rw [h.state l hx]
 have hz : pj (pr x).Break (pr r).Break = 0 := Classical.byContradiction fun hne => by
  have := h.b r (.inr (h.ja _ _ h1 hne).2)
  rw [hr] at this
  cases this
 simp [sgJ, hz]
theorem Sil.new (h : Sil pj pr sil) (l : List Int) {x : Int} (hx : sil x = true) (p : G_api_Prop) : sgN (sgF ((l ++ [x]).map pr)) p = sgN sg0 p := by
 rw [h.state l hx]
 exact sgN_sq (s := ⟨true, (pr x).Break, 0, 0, false⟩) (t := sg0) ⟨rfl, rfl, rfl⟩ (fun e => by simp at e) (fun e => by simp [sg0] at e) p
theorem Sil.yes (h : Sil pj pr sil) {l : List Int} {r : Int} (hr : sil r = true) (hj : jn pj pr l r = true) : ∃ l0 x, l = l0 ++ [x] ∧ sil x = true := by
 obtain ⟨l0, x, rfl⟩ := snoc_cases (jn_ne pj pr hj)
 refine ⟨l0, x, rfl, ?_⟩
 obtain ⟨h1, h2, h3⟩ := h.s r hr
 unfold jn at hj
 rw [List.map_append, List.map_singleton, sgF_snoc] at hj
 have hl : (sgN (sgF (l0.map pr)) (pr x)).last = (pr x).Break := rfl
 unfold sgJ at hj
 rw [h2, h3, hl] at hj
 have hz : pj (pr x).Break (pr r).Break ≠ 0 := fun e => by
  rw [e] at hj
  simp at hj
 exact h.b x (.inl (h.jb _ _ h1 hz).1)
theorem Sil.all (h : Sil pj pr sil) (l : List Int) : ∀ c ∈ cls pj pr l, (∀ x ∈ c, sil x = true) ∨ ∀ x ∈ c, sil x = false := by
 refine snoc_ind (P := fun l => ∀ c ∈ cls pj pr l, (∀ x ∈ c, sil x = true) ∨ ∀ x ∈ c, sil x = false) (fun c hc => by simp [cls_nil] at hc) (fun l r ih => ?_) l
 rw [cls_snoc]
 split
 ·rename_i hj
  obtain ⟨l0, x, rfl⟩ := snoc_cases (jn_ne pj pr hj)
  obtain ⟨c0, c, e⟩ := snoc_cases ((cls_flat (pj := pj) (pr := pr) (l0 ++ [x])).2.2 (by simp))
  obtain ⟨c', rfl⟩ := cls_last e
  rw [e] at ih ⊢
  rw [addL_snoc]
  intro d hd
  rcases List.mem_append.1 hd with hd | hd
  ·exact ih d (List.mem_append_left _ hd)
  ·rw [List.mem_singleton.1 hd]
   have hc := ih (c' ++ [x]) (by simp)
   cases hr : sil r with
   | true =>
    obtain ⟨l1, y, e1, hy⟩ := h.yes hr hj
    have : x = y := List.singleton_inj.1 (List.append_inj_right' e1 rfl)
    subst this
    left
    rcases hc with hc | hc
    ·intro z hz
     rcases List.mem_append.1 hz with hz | hz
     ·exact hc z hz
     ·rw [List.mem_singleton.1 hz]; exact hr
    ·have := hc x (by simp)
     rw [hy] at this
     cases this
   | false =>
    right
    rcases hc with hc | hc
    ·have := h.no l0 (hc x (by simp)) hr
     rw [this] at hj
     cases hj
    ·intro z hz
     rcases List.mem_append.1 hz with hz | hz
     ·exact hc z hz
     ·rw [List.mem_singleton.1 hz]; exact hr
 ·intro d hd
  rcases List.mem_append.1 hd with hd | hd
  ·exact ih d hd
  ·rw [List.mem_singleton.1 hd]
   cases hr : sil r with
   | true => left; intro z hz; rw [List.mem_singleton.1 hz]; exact hr
   | false => right; intro z hz; rw [List.mem_singleton.1 hz]; exact hr
end Go.Proofs.YthokmpbbkpjhbaaGreatDoor
namespace Go.Lt
theorem w64_in {n : Int} (h : -9223372036854775808 ≤ n ∧ n ≤ 9223372036854775807) : w64 n = n := by
 unfold w64
 rw [IntKind.wrap_i64]
 omega
theorem w32_in {n : Int} (h : -2147483648 ≤ n ∧ n ≤ 2147483647) : w32 n = n := by
 unfold w32
 rw [IntKind.wrap_i32]
 omega
theorem bsm {α β : Type} (a : α) (f : α → Option β) : (some a).bind f = f a := by simp
theorem iter_inv {σ τ : Type} {step : σ → Option (σ ⊕ τ)} (Inv : σ → Prop) (μ : σ → Nat) (post : τ → Prop)
  (h : ∀ s, Inv s → (∃ s', step s = some (.inl s') ∧ Inv s' ∧ μ s' < μ s) ∨ ∃ t, step s = some (.inr t) ∧ post t) :
  ∀ (fuel : Nat) (s : σ), Inv s → μ s < fuel → ∃ t, iter fuel step s = some t ∧ post t := by
 intro fuel
 induction fuel with
 | zero => intro s _ hm; omega
 | succ k ih =>
  intro s hs hm
  rcases h s hs with ⟨s', h1, h2, h3⟩ | ⟨t, h1, h2⟩
  ·obtain ⟨t, h4, h5⟩ := ih s' h2 (by omega)
   exact ⟨t, by simp [iter, h1, h4], h5⟩
  ·exact ⟨t, by simp [iter, h1], h2⟩
theorem iter_eq {σ τ : Type} {step : σ → Option (σ ⊕ τ)} (Inv : σ → Prop) (μ : σ → Nat) {t : τ}
  (h : ∀ s, Inv s → (∃ s', step s = some (.inl s') ∧ Inv s' ∧ μ s' < μ s) ∨ step s = some (.inr t)) {fuel : Nat} {s : σ} (h0 : Inv s) (hm : μ s < fuel) : iter fuel step s = some t := by
 obtain ⟨t', h1, h2⟩ := iter_inv Inv μ (fun x => x = t) (fun s hs => (h s hs).imp id fun h => ⟨t, h, rfl⟩) fuel s h0 hm
 rw [h1, h2]
theorem orE_some (a b : Bool) : orE a (some b) = some (a || b) := by cases a <;> rfl
theorem andE_some (a b : Bool) : andE a (some b) = some (a && b) := by cases a <;> rfl
theorem orE_true (x : Option Bool) : orE true x = some true := rfl
theorem orE_false (x : Option Bool) : orE false x = x := rfl
theorem andE_true (x : Option Bool) : andE true x = x := rfl
theorem andE_false (x : Option Bool) : andE false x = some false := rfl
theorem idx_nat {α : Type} (xs : List α) (i : Nat) : idx xs (i : Int) = xs[i]? := by
 unfold idx
 rw [if_pos (Int.natCast_nonneg i)]
 rfl
theorem idx_at {α : Type} {xs : List α} {i : Nat} (h : i < xs.length) : idx xs (i : Int) = some xs[i] := by
 rw [idx_nat, List.getElem?_eq_getElem h]
theorem sets_nat {α : Type} {xs : List α} {i : Nat} (h : i < xs.length) (x : α) : sets xs (i : Int) x = some (xs.set i x) := by
 unfold sets
 rw [if_pos ⟨Int.natCast_nonneg i, by omega⟩]
 rfl
theorem app_eq {α : Type} {xs ys : List α} (h : xs.length + ys.length ≤ 1099511627776) : app xs ys = some (xs ++ ys) := by
 unfold app far
 rw [if_pos h]
theorem rep_eq {α : Type} {n : Int} (x : α) (h : 0 ≤ n ∧ n ≤ 1099511627776) : rep n x = some (List.replicate n.toNat x) := by
 unfold rep far
 rw [if_pos (by omega)]
theorem slc_eq {α : Type} {xs : List α} {i j : Nat} (h : i ≤ j) (h2 : j ≤ xs.length) : slc xs i j = some ((xs.drop i).take (j - i)) := by
 unfold slc
 rw [if_pos (by omega)]
 congr 2
 omega
theorem imax_eq (x y : Int) : imax x y = max x y := by unfold imax; split <;> omega
theorem imin_eq (x y : Int) : imin x y = min x y := by unfold imin; split <;> omega
theorem dvg_eq {n : Int} (h : n ≠ 0) : dvg n = some () := by simp [dvg, h]
theorem iter_count {τ : Type} {step : Int → Option (Int ⊕ τ)} {n : Nat} (hn : n ≤ 9223372036854775807) (post : τ → Prop) (Inv : Nat → Prop) (h0 : Inv 0)
  (h : ∀ i : Nat, i < n → Inv i → (step i = some (.inl ((i + 1 : Nat) : Int)) ∧ Inv (i + 1)) ∨ ∃ t, step i = some (.inr t) ∧ post t)
  (hend : Inv n → ∃ t, step n = some (.inr t) ∧ post t) : ∃ t, iter (((n : Int) - 0).toNat + 1) step 0 = some t ∧ post t := by
 refine iter_inv (fun s : Int => ∃ i : Nat, s = (i : Int) ∧ i ≤ n ∧ Inv i) (fun s : Int => n - s.toNat) post (fun s ⟨i, hs, hi, hI⟩ => ?_) _ _ ⟨0, rfl, Nat.zero_le _, h0⟩ (by simp)
 subst hs
 rcases Nat.lt_or_ge i n with hlt | hge
 ·rcases h i hlt hI with ⟨h1, h2⟩ | h1
  ·exact .inl ⟨_, h1, ⟨i + 1, rfl, hlt, h2⟩, by simp; omega⟩
  ·exact .inr h1
 ·obtain rfl : i = n := by omega
  exact .inr (hend hI)
theorem iter_for {σ τ : Type} {step : σ → Option (σ ⊕ τ)} {n : Nat} (Inv : Nat → σ → Prop) (post : τ → Prop)
  (h : ∀ i s, i < n → Inv i s → (∃ s', step s = some (.inl s') ∧ Inv (i + 1) s') ∨ ∃ t, step s = some (.inr t) ∧ post t)
  (hend : ∀ s, Inv n s → ∃ t, step s = some (.inr t) ∧ post t) {fuel : Nat} {s : σ} (h0 : Inv 0 s) (hf : n < fuel) : ∃ t, iter fuel step s = some t ∧ post t := by
 have key : ∀ fuel i s, i ≤ n → n - i < fuel → Inv i s → ∃ t, iter fuel step s = some t ∧ post t := by
  intro fuel
  induction fuel with
  | zero => intro i s _ hm; omega
  | succ k ih =>
   intro i s hi hm hs
   rcases Nat.lt_or_ge i n with hlt | hge
   ·rcases h i s hlt hs with ⟨s', h1, h2⟩ | ⟨t, h1, h2⟩
    ·obtain ⟨t, h4, h5⟩ := ih (i + 1) s' hlt (by omega) h2
     exact ⟨t, by simp [iter, h1, h4], h5⟩
    ·exact ⟨t, by simp [iter, h1], h2⟩
   ·obtain rfl : i = n := by omega
    obtain ⟨t, h1, h2⟩ := hend s hs
    exact ⟨t, by simp [iter, h1], h2⟩
 exact key fuel 0 s (Nat.zero_le _) (by omega) h0
theorem bind_of {α β : Type} {x : Option α} {k : α → Option β} {a : α} {r : Option β} (h : x = some a) (h2 : k a = r) : x.bind k = r := by rw [h]; exact h2
theorem iter_forE {σ τ β : Type} {step : σ → Option (σ ⊕ τ)} {n : Nat} (Inv : Nat → σ → Prop) (post : τ → Prop) {fuel : Nat} {s : σ} {k : τ → Option β} {p : β → Prop}
  (h : ∀ i s, i < n → Inv i s → (∃ s', step s = some (.inl s') ∧ Inv (i + 1) s') ∨ ∃ t, step s = some (.inr t) ∧ post t)
  (hend : ∀ s, Inv n s → ∃ t, step s = some (.inr t) ∧ post t) (h0 : Inv 0 s) (hf : n < fuel) (hk : ∀ t, post t → ∃ r, k t = some r ∧ p r) : ∃ r, (iter fuel step s).bind k = some r ∧ p r := by
 obtain ⟨t, h1, h2⟩ := iter_for Inv post h hend h0 hf
 rw [h1]
 exact hk t h2
theorem iter_forL {σ τ γ : Type} {step : σ → Option (σ ⊕ τ)} {n : Nat} (Inv : Nat → σ → Prop) (post : τ → Prop) {fuel : Nat} {s : σ} {k : τ → Option (γ × Bool)}
  (h : ∀ i s, i < n → Inv i s → (∃ s', step s = some (.inl s') ∧ Inv (i + 1) s') ∨ ∃ t, step s = some (.inr t) ∧ post t)
  (hend : ∀ s, Inv n s → ∃ t, step s = some (.inr t) ∧ post t) (h0 : Inv 0 s) (hf : n < fuel) (hk : ∀ t, post t → ∃ r, k t = some (r, true)) : ∃ r, (iter fuel step s).bind k = some (r, true) := by
 obtain ⟨t, h1, h2⟩ := iter_for Inv post h hend h0 hf
 rw [h1]
 exact hk t h2
theorem iter_map {α τ : Type} {step : List α × Int → Option (List α × Int ⊕ τ)} {n fuel : Nat} (f : Nat → α) {t : τ}
  (h : ∀ i, i < n → step ((List.range i).map f, (i : Int)) = some (.inl ((List.range i).map f ++ [f i], ((i + 1 : Nat) : Int))))
  (hend : step ((List.range n).map f, (n : Int)) = some (.inr t)) (hf : n < fuel) : iter fuel step ([], 0) = some t := by
 obtain ⟨t', h1, h2⟩ := iter_for (step := step) (n := n) (fuel := fuel) (s := ([], 0)) (fun i s => s = ((List.range i).map f, (i : Int))) (fun t' => t' = t)
  (fun i s hi e => by subst e; exact .inl ⟨_, h i hi, by rw [List.range_succ, List.map_append]; rfl⟩) (fun s e => by subst e; exact ⟨t, hend, rfl⟩) rfl hf
 rw [h1, h2]
theorem w64_succ {i n : Nat} (h : i < n) (hn : n ≤ 9223372036854775807) : w64 ((i : Int) + 1) = ((i + 1 : Nat) : Int) := by
 rw [w64_in (by omega)]
 simp
theorem dlt {i n : Nat} (h : i < n) : decide ((i : Int) < (n : Int)) = true := by simp; exact h
theorem dnl (n : Nat) : decide ((n : Int) < (n : Int)) = false := by simp
end Go.Lt
namespace Go.Lt
variable {α : Type} {lo hi : α → Int}
def srtd (lo hi : α → Int) : List α → Bool
 | [] => true
 | x :: l => decide (lo x ≤ hi x) && (match l with | [] => true | y :: _ => decide (hi x < lo y)) && srtd lo hi l
theorem srtd_lo : ∀ {T : List α}, srtd lo hi T = true → ∀ i (h : i < T.length), lo T[i] ≤ hi T[i]
 | [], _, i, h => by simp at h
 | x :: l, hs, i, h => by
  simp only [srtd, Bool.and_eq_true, decide_eq_true_eq] at hs
  cases i with
  | zero => exact hs.1.1
  | succ i => exact srtd_lo hs.2 i (by simpa using h)
theorem srtd_lt : ∀ {T : List α}, srtd lo hi T = true → ∀ i j (h : j < T.length), (hij : i < j) → hi (T[i]'(by omega)) < lo T[j]
 | [], _, i, j, h, _ => by simp at h
 | x :: l, hs, i, j, h, hij => by
  have hs0 := hs
  simp only [srtd, Bool.and_eq_true, decide_eq_true_eq] at hs
  cases j with
  | zero => omega
  | succ j =>
   have hj : j < l.length := by simpa using h
   cases i with
   | succ i => exact srtd_lt hs.2 i j hj (by omega)
   | zero =>
    cases l with
    | nil => simp at hj
    | cons y l' =>
     have h1 : hi x < lo y := by simpa using hs.1.2
     cases j with
     | zero => exact h1
     | succ j =>
      have h2 := srtd_lt hs.2 0 (j + 1) hj (by omega)
      have h3 := srtd_lo hs.2 0 (by simp)
      simp only [List.getElem_cons_zero] at h2 h3
      simp only [List.getElem_cons_zero, List.getElem_cons_succ] at h2 ⊢
      omega
def onn (lo hi : α → Int) (r : Int) (x : α) : Bool := decide (lo x ≤ r) && decide (r ≤ hi x)
theorem onn_iff {r : Int} {x : α} : onn lo hi r x = true ↔ lo x ≤ r ∧ r ≤ hi x := by simp [onn]
theorem onn_uniq {T : List α} (hs : srtd lo hi T = true) {r : Int} {i j : Nat} (hi' : i < T.length) (hj : j < T.length) (h1 : onn lo hi r T[i] = true) (h2 : onn lo hi r T[j] = true) : i = j := by
 rw [onn_iff] at h1 h2
 rcases Nat.lt_trichotomy i j with h | h | h
 ·have := srtd_lt hs i j hj h
  omega
 ·exact h
 ·have := srtd_lt hs j i hi' h
  omega
def fnd (lo hi : α → Int) (T : List α) (r : Int) : Option α := T.find? (onn lo hi r)
theorem fnd_of {T : List α} (hs : srtd lo hi T = true) {r : Int} {x : α} (hx : x ∈ T) (h : onn lo hi r x = true) : fnd lo hi T r = some x := by
 unfold fnd
 obtain ⟨i, hi', rfl⟩ := List.mem_iff_getElem.1 hx
 rw [List.find?_eq_some_iff_getElem]
 refine ⟨h, i, hi', rfl, fun j hj => ?_⟩
 cases hb : onn lo hi r (T[j]'(by omega)) with
 | false => rfl
 | true => exact absurd (onn_uniq hs (by omega) hi' hb h) (by omega)
theorem fnd_none {T : List α} {r : Int} (h : ∀ i (h : i < T.length), onn lo hi r T[i] = false) : fnd lo hi T r = none := by
 unfold fnd
 rw [List.find?_eq_none]
 intro x hx
 obtain ⟨i, hi', rfl⟩ := List.mem_iff_getElem.1 hx
 simp [h i hi']
theorem fnd_mem {T : List α} {r : Int} {x : α} (h : fnd lo hi T r = some x) : x ∈ T ∧ onn lo hi r x = true := ⟨List.mem_of_find?_eq_some h, List.find?_some h⟩
theorem fnd_at {T : List α} (hs : srtd lo hi T = true) {r : Int} {i : Nat} (h1 : ∀ j (h : j < T.length), j < i → hi T[j] < r) (h2 : ∀ j (h : j < T.length), i ≤ j → r ≤ hi T[j]) :
  fnd lo hi T r = if h : i < T.length then (if lo T[i] ≤ r then some T[i] else none) else none := by
 have hno : ∀ j (h : j < T.length), j ≠ i → onn lo hi r T[j] = false := fun j h hne => by
  cases hb : onn lo hi r T[j] with
  | false => rfl
  | true =>
   rw [onn_iff] at hb
   rcases Nat.lt_or_ge j i with hj | hj
   ·have := h1 j h hj
    omega
   ·have h3 := srtd_lt hs i j h (by omega)
    have h4 := h2 i (by omega) (Nat.le_refl _)
    omega
 split
 ·rename_i hi'
  split
  ·rename_i hl
   exact fnd_of hs (List.getElem_mem hi') (onn_iff.2 ⟨hl, h2 i hi' (Nat.le_refl _)⟩)
  ·rename_i hl
   refine fnd_none fun j h => ?_
   by_cases hj : j = i
   ·subst hj
    cases hb : onn lo hi r T[j] with
    | false => rfl
    | true => exact absurd (onn_iff.1 hb).1 hl
   ·exact hno j h hj
 ·rename_i hi'
  exact fnd_none fun j h => hno j h (by omega)
theorem half {a b : Nat} (h : a + b ≤ 4611686018427387904) : w64 ((IntKind.u64.wrap (w64 ((a : Int) + (b : Int)))).fdiv (2 ^ 1)) = (((a + b) / 2 : Nat) : Int) := by
 have e0 : w64 ((a : Int) + (b : Int)) = ((a + b : Nat) : Int) := by rw [w64_in (by omega)]; simp
 have h1 : IntKind.u64.wrap ((a + b : Nat) : Int) = ((a + b : Nat) : Int) := by
  have : ((a + b : Nat) : Int) % 18446744073709551616 = ((a + b : Nat) : Int) := Int.emod_eq_of_lt (by omega) (by omega)
  simpa [IntKind.wrap, IntKind.bits, IntKind.signed] using this
 have e2 : (((a + b : Nat) : Int)).fdiv (2 ^ 1) = (((a + b) / 2 : Nat) : Int) := by
  rw [Int.fdiv_eq_ediv_of_nonneg _ (by decide)]
  omega
 rw [e0, h1, e2, w64_in (by omega)]
theorem search_eq {T : List α} (hs : srtd lo hi T = true) (hl : T.length ≤ 1000000) (r : Int) {step : Int × Int → Option (Int × Int ⊕ Int)}
  (h1 : ∀ a b : Nat, (hab : a < b) → (hb : b ≤ T.length) → step ((a : Int), (b : Int)) = some (.inl (if r ≤ hi (T[(a + b) / 2]'(by omega)) then ((a : Int), (((a + b) / 2 : Nat) : Int)) else (((((a + b) / 2 + 1 : Nat) : Int)), (b : Int)))))
  (h2 : ∀ a : Nat, step ((a : Int), (a : Int)) = some (.inr (a : Int))) :
  ∃ i : Nat, iter (((T.length : Int) - 0).toNat + 1) step (0, (T.length : Int)) = some (i : Int) ∧ i ≤ T.length ∧ (∀ j (h : j < T.length), j < i → hi T[j] < r) ∧ (∀ j (h : j < T.length), i ≤ j → r ≤ hi T[j]) := by
 have hmono : ∀ j k (h : k < T.length), (hjk : j ≤ k) → hi (T[j]'(by omega)) ≤ hi T[k] := fun j k h hjk => by
  rcases Nat.lt_or_ge j k with hlt | hge
  ·have e1 := srtd_lt hs j k h hlt
   have e2 := srtd_lo hs k h
   omega
  ·obtain rfl : j = k := by omega
   exact Int.le_refl _
 obtain ⟨t, e1, i, e2, e3, e4, e5⟩ := iter_inv (step := step) (fun q => ∃ a b : Nat, q = ((a : Int), (b : Int)) ∧ a ≤ b ∧ b ≤ T.length ∧ (∀ j (h : j < T.length), j < a → hi T[j] < r) ∧ (∀ j (h : j < T.length), b ≤ j → r ≤ hi T[j]))
  (fun q => (q.2 - q.1).toNat) (fun t => ∃ i : Nat, t = (i : Int) ∧ i ≤ T.length ∧ (∀ j (h : j < T.length), j < i → hi T[j] < r) ∧ (∀ j (h : j < T.length), i ≤ j → r ≤ hi T[j]))
  (by
   rintro q ⟨a, b, rfl, hab, hb, c1, c2⟩
   rcases Nat.lt_or_ge a b with hlt | hge
   ·left
    rw [h1 a b hlt hb]
    refine ⟨_, rfl, ?_⟩
    by_cases hr : r ≤ hi (T[(a + b) / 2]'(by omega))
    ·rw [if_pos hr]
     exact ⟨⟨a, (a + b) / 2, rfl, by omega, by omega, c1, fun j h hj => Int.le_trans hr (hmono _ _ h hj)⟩, by simp only; omega⟩
    ·rw [if_neg hr]
     refine ⟨⟨(a + b) / 2 + 1, b, rfl, by omega, hb, fun j h hj => ?_, c2⟩, by simp only; omega⟩
     have := hmono j ((a + b) / 2) (by omega) (by omega)
     omega
   ·right
    obtain rfl : a = b := by omega
    exact ⟨_, h2 a, a, rfl, hb, c1, c2⟩)
  (((T.length : Int) - 0).toNat + 1) (0, (T.length : Int)) ⟨0, T.length, rfl, Nat.zero_le _, Nat.le_refl _, fun j h hj => by omega, fun j h hj => by omega⟩ (by simp only; omega)
 subst e2
 exact ⟨i, e1, e3, e4, e5⟩
def lk (T : List (Int × Int × Int)) (r : Int) : Option Int := (fnd (fun x => x.1) (fun x => x.2.1) T r).map (fun x => x.2.2)
end Go.Lt
namespace Go.Proofs.YthokmpbbkpjhbaaGreatDoor
open Go Go.Lt
set_option maxRecDepth 100000
def gT : List (Int × Int × Int) := match f_gcb_table with | some t => t | none => []
def pT : List (Int × Int) := match f_pict_table with | some t => t | none => []
def cT : List (Int × Int × Int) := match f_conj_table with | some t => t | none => []
def eT : List (Int × Int × Int) := match f_east_table with | some t => t | none => []
theorem gT_eq : f_gcb_table = some gT := rfl
theorem pT_eq : f_pict_table = some pT := rfl
theorem cT_eq : f_conj_table = some cT := rfl
theorem eT_eq : f_east_table = some eT := rfl
theorem gT_s : srtd (fun x => x.1) (fun x => x.2.1) gT = true := by kernel_rfl
theorem pT_s : srtd (fun x => x.1) (fun x => x.2) pT = true := by kernel_rfl
theorem cT_s : srtd (fun x => x.1) (fun x => x.2.1) cT = true := by kernel_rfl
theorem eT_s : srtd (fun x => x.1) (fun x => x.2.1) eT = true := by kernel_rfl
theorem gT_l : gT.length ≤ 1000000 := by
 have : Nat.ble gT.length 1000000 = true := by kernel_rfl
 exact Nat.le_of_ble_eq_true this
theorem pT_l : pT.length ≤ 1000000 := by
 have : Nat.ble pT.length 1000000 = true := by kernel_rfl
 exact Nat.le_of_ble_eq_true this
theorem cT_l : cT.length ≤ 1000000 := by
 have : Nat.ble cT.length 1000000 = true := by kernel_rfl
 exact Nat.le_of_ble_eq_true this
theorem eT_l : eT.length ≤ 1000000 := by
 have : Nat.ble eT.length 1000000 = true := by kernel_rfl
 exact Nat.le_of_ble_eq_true this
def hcl (r : Int) : Int :=
 if (4352 ≤ r ∧ r ≤ 4447) ∨ (43360 ≤ r ∧ r ≤ 43388) then 9
 else if (4448 ≤ r ∧ r ≤ 4519) ∨ (55216 ≤ r ∧ r ≤ 55238) then 10
 else if (4520 ≤ r ∧ r ≤ 4607) ∨ (55243 ≤ r ∧ r ≤ 55291) then 11
 else if r < 44032 ∨ 55203 < r then 0
 else if (r - 44032) % 28 = 0 then 12 else 13
def r32 (r : Int) : Prop := -2147483648 ≤ r ∧ r ≤ 2147483647
theorem r32.w {r : Int} (h : r32 r) : w64 r = r := by unfold r32 at h; exact w64_in (by omega)
theorem ite_b {α : Type} {b : Bool} {p : Prop} [Decidable p] (h : b = true ↔ p) (x y : α) : (if b = true then x else y) = if p then x else y := by
 by_cases hp : p
 ·rw [if_pos hp, if_pos (h.2 hp)]
 ·rw [if_neg hp, if_neg (fun e => hp (h.1 e))]
theorem some_ite {α : Type} {p : Prop} [Decidable p] (x y : α) : (if p then some x else some y) = some (if p then x else y) := by split <;> rfl
theorem hangul_class (r : Int) (h : r32 r) : f_hangul_Class r = some (hcl r) := by
 unfold r32 at h
 unfold f_hangul_Class f_hangul_Syllable f_hangul_in hcl
 simp only [andE_some, bsm, orE_some]
 have hw : 44032 ≤ r → r ≤ 55203 → (w32 (r - 44032)).tmod 28 = (r - 44032) % 28 := fun h1 h2 => by
  rw [w32_in (by omega), Int.tmod_eq_emod_of_nonneg (by omega)]
 rw [ite_b (p := (4352 ≤ r ∧ r ≤ 4447) ∨ (43360 ≤ r ∧ r ≤ 43388)) (by simp), ite_b (p := (4448 ≤ r ∧ r ≤ 4519) ∨ (55216 ≤ r ∧ r ≤ 55238)) (by simp), ite_b (p := (4520 ≤ r ∧ r ≤ 4607) ∨ (55243 ≤ r ∧ r ≤ 55291)) (by simp)]
 rw [ite_b (p := r < 44032 ∨ 55203 < r) (by simp)]
 by_cases hs : r < 44032 ∨ 55203 < r
 ·simp only [if_pos hs, some_ite]
 ·simp only [if_neg hs]
  rw [hw (by omega) (by omega)]
  rw [ite_b (p := (r - 44032) % 28 = 0) (by simp)]
  simp only [some_ite]
def pic (r : Int) : Bool := (fnd (fun x : Int × Int => x.1) (fun x => x.2) pT r).isSome
def pr (r : Int) : G_api_Prop := ⟨(lk gT r).getD (hcl r), pic r, (lk cT r).getD 0, (lk eT r).getD 0⟩
theorem mid_lt {a b n : Nat} (h : a < b) (hb : b ≤ n) : (a + b) / 2 < n := by omega
theorem gcb_of (r : Int) (h : r32 r) : f_gcb_Of r = some ((lk gT r).getD (hcl r)) := by
 have hw := h.w
 have hlen := gT_l
 unfold f_gcb_Of
 rw [gT_eq]
 simp only [bsm]
 obtain ⟨i, e1, e2, e3, e4⟩ := search_eq gT_s gT_l r (step := fun s_7 =>
  if (decide (s_7.1 < s_7.2)) = true then
  (f_gcb_Of_1 (w64 ((IntKind.u64.wrap (w64 (s_7.1 + s_7.2))).fdiv (2 ^ 1))) gT r).bind fun x_22 =>
  if (!x_22) = true then
  some (.inl ((w64 ((w64 ((IntKind.u64.wrap (w64 (s_7.1 + s_7.2))).fdiv (2 ^ 1))) + 1)), s_7.2))
  else
  some (.inl (s_7.1, (w64 ((IntKind.u64.wrap (w64 (s_7.1 + s_7.2))).fdiv (2 ^ 1)))))
  else
  some (.inr (s_7.1))) (fun a b hab hb => by
   simp only
   rw [if_pos (by simp; omega), half (by omega)]
   unfold f_gcb_Of_1
   rw [idx_at (mid_lt hab hb), hw]
   simp only [bsm]
   by_cases hr : r ≤ (gT[(a + b) / 2]'(mid_lt hab hb)).2.1
   ·rw [if_neg (by simpa using hr), if_pos hr]
   ·rw [if_pos (by simpa using hr), if_neg hr, w64_in (by omega)]
    rfl) (fun a => by simp only; rw [if_neg (by simp)])
 unfold f_sort_Search__gcb_Of_1
 rw [e1]
 simp only [bsm, hw]
 have hf := fnd_at gT_s e3 e4
 unfold lk
 rw [hf]
 by_cases hi : i < gT.length
 ·rw [dif_pos hi, idx_at hi]
  simp only [bsm, andE_some]
  by_cases hlo : gT[i].1 ≤ r
  ·rw [if_pos (by simp; exact ⟨hi, hlo⟩), if_pos hlo]
   rfl
  ·rw [if_neg (by simp; omega), if_neg hlo, hangul_class r h]
   rfl
 ·rw [dif_neg hi, show decide ((i : Int) < (gT.length : Int)) = false by simp; omega, andE_false]
  simp only [bsm]
  rw [if_neg (by decide), hangul_class r h]
  rfl
theorem conj_of (r : Int) (h : r32 r) : f_conj_Of r = some ((lk cT r).getD 0) := by
 have hw := h.w
 have hlen := cT_l
 unfold f_conj_Of
 rw [cT_eq]
 simp only [bsm]
 obtain ⟨i, e1, e2, e3, e4⟩ := search_eq cT_s cT_l r (step := fun s_7 =>
  if (decide (s_7.1 < s_7.2)) = true then
  (f_conj_Of_1 (w64 ((IntKind.u64.wrap (w64 (s_7.1 + s_7.2))).fdiv (2 ^ 1))) cT r).bind fun x_22 =>
  if (!x_22) = true then
  some (.inl ((w64 ((w64 ((IntKind.u64.wrap (w64 (s_7.1 + s_7.2))).fdiv (2 ^ 1))) + 1)), s_7.2))
  else
  some (.inl (s_7.1, (w64 ((IntKind.u64.wrap (w64 (s_7.1 + s_7.2))).fdiv (2 ^ 1)))))
  else
  some (.inr (s_7.1))) (fun a b hab hb => by
   simp only
   rw [if_pos (by simp; omega), half (by omega)]
   unfold f_conj_Of_1
   rw [idx_at (mid_lt hab hb), hw]
   simp only [bsm]
   by_cases hr : r ≤ (cT[(a + b) / 2]'(mid_lt hab hb)).2.1
   ·rw [if_neg (by simpa using hr), if_pos hr]
   ·rw [if_pos (by simpa using hr), if_neg hr, w64_in (by omega)]
    rfl) (fun a => by simp only; rw [if_neg (by simp)])
 unfold f_sort_Search__conj_Of_1
 rw [e1]
 simp only [bsm, hw]
 have hf := fnd_at cT_s e3 e4
 unfold lk
 rw [hf]
 by_cases hi : i < cT.length
 ·rw [dif_pos hi, idx_at hi]
  simp only [bsm, orE_some]
  by_cases hlo : cT[i].1 ≤ r
  ·rw [if_neg (by simp; omega), if_pos hlo]
   rfl
  ·rw [if_pos (by simp; omega), if_neg hlo]
   rfl
 ·rw [dif_neg hi, show ((i : Int) == (cT.length : Int)) = true by simp; omega, orE_true]
  simp only [bsm]
  rw [if_pos trivial]
  rfl
theorem east_of (r : Int) (h : r32 r) : f_east_Of r = some ((lk eT r).getD 0) := by
 have hw := h.w
 have hlen := eT_l
 unfold f_east_Of
 rw [eT_eq]
 simp only [bsm]
 obtain ⟨i, e1, e2, e3, e4⟩ := search_eq eT_s eT_l r (step := fun s_7 =>
  if (decide (s_7.1 < s_7.2)) = true then
  (f_east_Of_1 (w64 ((IntKind.u64.wrap (w64 (s_7.1 + s_7.2))).fdiv (2 ^ 1))) eT r).bind fun x_22 =>
  if (!x_22) = true then
  some (.inl ((w64 ((w64 ((IntKind.u64.wrap (w64 (s_7.1 + s_7.2))).fdiv (2 ^ 1))) + 1)), s_7.2))
  else
  some (.inl (s_7.1, (w64 ((IntKind.u64.wrap (w64 (s_7.1 + s_7.2))).fdiv (2 ^ 1)))))
  else
  some (.inr (s_7.1))) (fun a b hab hb => by
   simp only
   rw [if_pos (by simp; omega), half (by omega)]
   unfold f_east_Of_1
   rw [idx_at (mid_lt hab hb), hw]
   simp only [bsm]
   by_cases hr : r ≤ (eT[(a + b) / 2]'(mid_lt hab hb)).2.1
   ·rw [if_neg (by simpa using hr), if_pos hr]
   ·rw [if_pos (by simpa using hr), if_neg hr, w64_in (by omega)]
    rfl) (fun a => by simp only; rw [if_neg (by simp)])
 unfold f_sort_Search__east_Of_1
 rw [e1]
 simp only [bsm, hw]
 have hf := fnd_at eT_s e3 e4
 unfold lk
 rw [hf]
 by_cases hi : i < eT.length
 ·rw [dif_pos hi, idx_at hi]
  simp only [bsm, orE_some]
  by_cases hlo : eT[i].1 ≤ r
  ·rw [if_neg (by simp; omega), if_pos hlo]
   rfl
  ·rw [if_pos (by simp; omega), if_neg hlo]
   rfl
 ·rw [dif_neg hi, show ((i : Int) == (eT.length : Int)) = true by simp; omega, orE_true]
  simp only [bsm]
  rw [if_pos trivial]
  rfl
theorem pict_is (r : Int) (h : r32 r) : f_pict_Is r = some (pic r) := by
 have hlen := pT_l
 unfold f_pict_Is
 rw [pT_eq]
 simp only [bsm]
 obtain ⟨i, e1, e2, e3, e4⟩ := search_eq pT_s pT_l r (step := fun s_7 =>
  if (decide (s_7.1 < s_7.2)) = true then
  (f_pict_Is_1 (w64 ((IntKind.u64.wrap (w64 (s_7.1 + s_7.2))).fdiv (2 ^ 1))) pT r).bind fun x_22 =>
  if (!x_22) = true then
  some (.inl ((w64 ((w64 ((IntKind.u64.wrap (w64 (s_7.1 + s_7.2))).fdiv (2 ^ 1))) + 1)), s_7.2))
  else
  some (.inl (s_7.1, (w64 ((IntKind.u64.wrap (w64 (s_7.1 + s_7.2))).fdiv (2 ^ 1)))))
  else
  some (.inr (s_7.1))) (fun a b hab hb => by
   simp only
   rw [if_pos (by simp; omega), half (by omega)]
   unfold f_pict_Is_1
   rw [idx_at (mid_lt hab hb)]
   simp only [bsm]
   by_cases hr : r ≤ (pT[(a + b) / 2]'(mid_lt hab hb)).2
   ·rw [if_neg (by simpa using hr), if_pos hr]
   ·rw [if_pos (by simpa using hr), if_neg hr, w64_in (by omega)]
    rfl) (fun a => by simp only; rw [if_neg (by simp)])
 unfold f_sort_Search__pict_Is_1
 rw [e1]
 simp only [bsm]
 have hf := fnd_at pT_s e3 e4
 unfold pic
 rw [hf]
 by_cases hi : i < pT.length
 ·rw [dif_pos hi, idx_at hi]
  simp only [bsm, andE_some]
  by_cases hlo : pT[i].1 ≤ r
  ·rw [if_pos hlo]
   simp [hi, hlo]
  ·rw [if_neg hlo]
   simp [hlo]
 ·rw [dif_neg hi, show decide ((i : Int) < (pT.length : Int)) = false by simp; omega, andE_false]
  rfl
theorem ucd_of (r : Int) (h : r32 r) : f_ucd_Of r = some (pr r) := by
 unfold f_ucd_Of
 rw [gcb_of r h, pict_is r h, conj_of r h, east_of r h]
 rfl
end Go.Proofs.YthokmpbbkpjhbaaGreatDoor
namespace Go.Proofs.YthokmpbbkpjhbaaGreatDoor
open Go Go.Lt
theorem cell_ext {a b : G_api_Cell} (h1 : a.Kind = b.Kind) (h2 : a.Text = b.Text) : a = b := by
 cases a; cases b; simp_all
def bl : G_api_Cell := ⟨0, []⟩
def vld (r : Int) : Bool := decide (0 ≤ r) && decide (r ≤ 1114111) && (decide (r < 55296) || decide (r > 57343))
theorem ref_valid (r : Int) : f_linotyperef01_Valid r = some (vld r) := by
 simp only [f_linotyperef01_Valid, andE_some, orE_some, bsm, vld, ge_iff_le]
theorem sca_valid (r : Int) : f_scalar_Valid r = some (vld r) := by
 simp only [f_scalar_Valid, andE_some, orE_some, bsm, vld, Option.some.injEq]
 rw [Bool.eq_iff_iff]
 simp
 omega
def rgt (c : G_api_Cell) : Bool :=
 if c.Kind = 0 ∨ c.Kind = 3 then c.Text.isEmpty else (decide (c.Kind = 1) || decide (c.Kind = 2)) && decide (1 ≤ c.Text.length) && decide (c.Text.length ≤ 16) && c.Text.all vld
theorem all_take_succ {α : Type} (p : α → Bool) (l : List α) (i : Nat) (h : i < l.length) : (l.take (i + 1)).all p = ((l.take i).all p && p l[i]) := by
 rw [List.take_succ_eq_append_getElem h, List.all_append]
 simp
theorem all_false_of {α : Type} {p : α → Bool} {l : List α} {i : Nat} (h : i < l.length) (hp : p l[i] = false) : l.all p = false := by
 rw [List.all_eq_false]
 exact ⟨_, List.getElem_mem h, by simp [hp]⟩
theorem isEmpty_len {α : Type} (l : List α) : ((l.length : Int) == 0) = l.isEmpty := by
 cases l <;> simp <;> omega
theorem ref_right (c : G_api_Cell) : f_linotyperef23_Right c = some (rgt c) := by
 unfold f_linotyperef23_Right rgt
 simp only [orE_some, andE_some, bsm]
 by_cases h1 : c.Kind = 0 ∨ c.Kind = 3
 ·have e : (c.Kind == 0 || c.Kind == 3) = true := by rcases h1 with h | h <;> simp [h]
  rw [if_pos e, if_pos h1, isEmpty_len]
 ·have e : (c.Kind == 0 || c.Kind == 3) = false := by simp; omega
  rw [if_neg (by rw [e]; simp), if_neg h1]
  by_cases h2 : ((c.Kind = 1 ∨ c.Kind = 2) ∧ 1 ≤ c.Text.length ∧ c.Text.length ≤ 16)
  ·have e2 : (((c.Kind != 1 && c.Kind != 2) || decide ((c.Text.length : Int) < 1)) || decide ((c.Text.length : Int) > 16)) = false := by
    simp; omega
   rw [if_neg (by rw [e2]; simp)]
   obtain ⟨t, h3, h4⟩ := iter_count (τ := Bool ⊕ Unit) (n := c.Text.length) (by omega) (fun t => match t with | .inl b => b = c.Text.all vld | .inr _ => c.Text.all vld = true) (fun i => (c.Text.take i).all vld = true) (by simp)
    (step := fun s_44 =>
     if (decide (s_44 < (c.Text.length : Int))) = true then
     (idx c.Text s_44).bind fun x_54 =>
     (f_linotyperef01_Valid x_54).bind fun x_56 =>
     if (!x_56) = true then
     some (.inr (.inl false))
     else
     some (.inl ((w64 (s_44 + 1))))
     else
     some (.inr (.inr ())))
    (fun i hi hI => by
     have e3 : w64 ((i : Int) + 1) = ((i + 1 : Nat) : Int) := by rw [w64_in (by omega)]; simp
     simp only [Int.ofNat_lt, hi, decide_true, if_true, idx_at hi, bsm, ref_valid, e3]
     cases hv : vld c.Text[i] with
     | true => exact .inl ⟨by simp, by rw [all_take_succ _ _ _ hi, hI, hv]; rfl⟩
     | false => exact .inr ⟨.inl false, by simp, (all_false_of hi hv).symm⟩)
    (fun hI => ⟨.inr (), by simp, by simpa using hI⟩)
   rw [h3]
   simp only [bsm]
   have e4 : (decide (c.Kind = 1) || decide (c.Kind = 2)) = true := by simp; exact h2.1
   rw [e4, decide_eq_true h2.2.1, decide_eq_true h2.2.2]
   cases t with
   | inl b => simp only at h4; simp [h4]
   | inr u => simp only at h4; simp [h4]
  ·have e2 : (((c.Kind != 1 && c.Kind != 2) || decide ((c.Text.length : Int) < 1)) || decide ((c.Text.length : Int) > 16)) = true := by
    simp; omega
   rw [if_pos e2]
   congr 1
   symm
   simp only [Bool.and_eq_false_iff, Bool.or_eq_false_iff, decide_eq_false_iff_not]
   omega
theorem cell_right1 (r : Int) : f_cell_Right_1 r = some (!vld r) := by simp [f_cell_Right_1, sca_valid]
theorem cell_contains (l : List Int) (hl : l.length ≤ 9223372036854775807) : f_slices_ContainsFunc_rune_rune__cell_Right_1 l = some (!l.all vld) := by
 unfold f_slices_ContainsFunc_rune_rune__cell_Right_1 f_slices_IndexFunc_rune_rune__cell_Right_1
 obtain ⟨t, h3, h4⟩ := iter_count (τ := Int ⊕ Unit) (n := l.length) (by omega) (fun t => match t with | .inl i => 0 ≤ i ∧ l.all vld = false | .inr _ => l.all vld = true) (fun i => (l.take i).all vld = true) (by simp)
  (step := fun s_7 =>
   if (decide (s_7 < (l.length : Int))) = true then
   (idx l s_7).bind fun x_16 =>
   (f_cell_Right_1 x_16).bind fun x_18 =>
   if x_18 = true then
   some (.inr (.inl s_7))
   else
   some (.inl ((w64 (s_7 + 1))))
   else
   some (.inr (.inr ())))
  (fun i hi hI => by
   have e3 : w64 ((i : Int) + 1) = ((i + 1 : Nat) : Int) := by rw [w64_in (by omega)]; simp
   simp only [Int.ofNat_lt, hi, decide_true, if_true, idx_at hi, bsm, cell_right1, e3]
   cases hv : vld l[i] with
   | true => exact .inl ⟨by simp, by rw [all_take_succ _ _ _ hi, hI, hv]; rfl⟩
   | false => exact .inr ⟨.inl i, by simp, by omega, all_false_of hi hv⟩)
  (fun hI => ⟨.inr (), by simp, by simpa using hI⟩)
 rw [h3]
 simp only [bsm]
 cases t with
 | inl b => simp only at h4; simp [h4.1, h4.2]
 | inr u => simp only at h4; simp [h4]
theorem cell_right (c : G_api_Cell) : f_cell_Right c = some (rgt c) := by
 unfold f_cell_Right rgt
 by_cases h1 : c.Kind = 0 ∨ c.Kind = 3
 ·rw [if_pos h1]
  rcases h1 with h | h <;> simp [h, isEmpty_len]
 ·have n0 : (c.Kind == 0) = false := by simp; omega
  have n3 : (c.Kind == 3) = false := by simp; omega
  rw [if_neg h1]
  simp only [n0, n3, Bool.false_eq_true, if_false, bsm]
  by_cases h2 : c.Kind = 1 ∨ c.Kind = 2
  ·have e : (if (c.Kind == 1) = true then some (c.Kind == 1) else some (c.Kind == 2) : Option Bool) = some true := by rcases h2 with h | h <;> simp [h]
   have e2 : (decide (c.Kind = 1) || decide (c.Kind = 2)) = true := by simp; exact h2
   rw [e, e2]
   simp only [bsm, if_true, andE_some, Bool.true_and]
   by_cases h3 : 1 ≤ c.Text.length ∧ c.Text.length ≤ 16
   ·rw [cell_contains _ (by omega)]
    have e4 : (decide ((c.Text.length : Int) > 0) && decide ((c.Text.length : Int) ≤ 16)) = true := by simp; omega
    have e5 : (decide (1 ≤ c.Text.length) && decide (c.Text.length ≤ 16)) = true := by simp; exact h3
    rw [e4, e5]
    simp [andE_true]
   ·have e4 : (decide ((c.Text.length : Int) > 0) && decide ((c.Text.length : Int) ≤ 16)) = false := by simp; omega
    have e5 : (decide (1 ≤ c.Text.length) && decide (c.Text.length ≤ 16)) = false := by simp; omega
    rw [e4, e5]
    simp [andE_false]
  ·have n1 : (c.Kind == 1) = false := by simp; omega
   have n2 : (c.Kind == 2) = false := by simp; omega
   have e2 : (decide (c.Kind = 1) || decide (c.Kind = 2)) = false := by simp; omega
   rw [e2]
   simp [n1, n2]
def kd (l : List G_api_Cell) (i : Nat) : Int := match l[i]? with | some c => c.Kind | none => 0
theorem kd_at {l : List G_api_Cell} {i : Nat} (h : i < l.length) : kd l i = l[i].Kind := by simp [kd, List.getElem?_eq_getElem h]
theorem kd_out {l : List G_api_Cell} {i : Nat} (h : l.length ≤ i) : kd l i = 0 := by simp [kd, List.getElem?_eq_none h]
def Snd (l : List G_api_Cell) : Prop := ∀ i (h : i < l.length), rgt l[i] = true ∧ (l[i].Kind = 2 → kd l (i + 1) = 3) ∧ (l[i].Kind = 3 → 0 < i ∧ kd l (i - 1) = 2)
theorem ref_kind (l : List G_api_Cell) (i : Int) : f_linotyperef23_Kind l i = some (if 0 ≤ i then kd l i.toNat else 0) := by
 unfold f_linotyperef23_Kind
 simp only [orE_some, bsm]
 by_cases h0 : i < 0
 ·rw [if_pos (by simp [h0]), if_neg (by omega)]
 ·by_cases h1 : i < l.length
  ·obtain ⟨k, rfl⟩ := Int.eq_ofNat_of_zero_le (show 0 ≤ i by omega)
   have hk : k < l.length := by omega
   rw [if_neg (by simp; omega), if_pos (by omega), idx_at hk]
   simp [kd_at hk]
  ·rw [if_pos (by simp; omega), if_pos (by omega), kd_out (by omega)]
theorem ref_sound (l : List G_api_Cell) (hl : l.length ≤ 9223372036854775807) : ∃ b, f_linotyperef23_Sound l = some b ∧ (b = true ↔ Snd l) := by
 unfold f_linotyperef23_Sound
 obtain ⟨t, h3, h4⟩ := iter_count (τ := Bool ⊕ Unit) (n := l.length) (by omega) (fun t => match t with | .inl b => b = false ∧ ¬ Snd l | .inr _ => Snd l)
  (fun i => ∀ j (h : j < l.length), j < i → rgt l[j] = true ∧ (l[j].Kind = 2 → kd l (j + 1) = 3) ∧ (l[j].Kind = 3 → 0 < j ∧ kd l (j - 1) = 2)) (fun j _ h => by omega)
  (step := fun s_5 =>
   if (decide (s_5 < (l.length : Int))) = true then
   (idx l s_5).bind fun x_13 =>
   (f_linotyperef23_Right x_13).bind fun x_15 =>
   (orE (!x_15) ((idx l s_5).bind fun x_21 =>
   (andE (x_21.Kind == 2) ((f_linotyperef23_Kind l (w64 (s_5 + 1))).bind fun x_30 =>
   some (x_30 != 3))).bind fun d_25 =>
   some d_25)).bind fun d_17 =>
   (orE d_17 ((idx l s_5).bind fun x_36 =>
   (andE (x_36.Kind == 3) ((f_linotyperef23_Kind l (w64 (s_5 - 1))).bind fun x_45 =>
   some (x_45 != 2))).bind fun d_40 =>
   some d_40)).bind fun d_32 =>
   if d_32 = true then
   some (.inr (.inl false))
   else
   some (.inl ((w64 (s_5 + 1))))
   else
   some (.inr (.inr ())))
  (fun i hi hI => by
   have e3 : w64 ((i : Int) + 1) = ((i + 1 : Nat) : Int) := by rw [w64_in (by omega)]; simp
   have e4 : w64 ((i : Int) - 1) = (i : Int) - 1 := w64_in (by omega)
   simp only [Int.ofNat_lt, hi, decide_true, if_true, idx_at hi, bsm, ref_right, ref_kind, e3, e4, andE_some, orE_some]
   by_cases hk : rgt l[i] = true ∧ (l[i].Kind = 2 → kd l (i + 1) = 3) ∧ (l[i].Kind = 3 → 0 < i ∧ kd l (i - 1) = 2)
   ·refine .inl ⟨?_, fun j h hj => ?_⟩
    ·rw [if_neg]
     obtain ⟨h1, h2, h5⟩ := hk
     simp only [h1, Bool.not_true, Bool.false_or, Bool.or_eq_true, Bool.and_eq_true, beq_iff_eq, bne_iff_ne, ne_eq, not_or, not_and, Decidable.not_not]
     refine ⟨fun h => ?_, fun h => ?_⟩
     ·rw [if_pos (by omega)]; simpa using h2 h
     ·obtain ⟨h6, h7⟩ := h5 h
      rw [if_pos (by omega), show ((i : Int) - 1).toNat = i - 1 by omega]; exact h7
    ·by_cases hji : j = i
     ·subst hji; exact hk
     ·exact hI j h (by omega)
   ·refine .inr ⟨.inl false, ?_, rfl, fun hs => hk (hs i hi)⟩
    rw [if_pos]
    cases h1 : rgt l[i] with
    | false => simp
    | true =>
     simp only [h1, true_and] at hk
     have hk : (l[i].Kind = 2 ∧ ¬ kd l (i + 1) = 3) ∨ (l[i].Kind = 3 ∧ ¬ (0 < i ∧ kd l (i - 1) = 2)) := by
      by_cases hA : l[i].Kind = 2 → kd l (i + 1) = 3
      ·exact .inr (Classical.not_imp.1 fun hB => hk ⟨hA, hB⟩)
      ·exact .inl (Classical.not_imp.1 hA)
     simp only [Bool.not_true, Bool.false_or, Bool.or_eq_true, Bool.and_eq_true, beq_iff_eq, bne_iff_ne, ne_eq]
     rcases hk with ⟨h, h2⟩ | ⟨h, h2⟩
     ·refine .inl ⟨h, ?_⟩
      rw [if_pos (by omega)]; simpa using h2
     ·refine .inr ⟨h, ?_⟩
      by_cases h0 : i = 0
      ·subst h0; simp
      ·rw [if_pos (by omega), show ((i : Int) - 1).toNat = i - 1 by omega]
       exact fun h3 => h2 ⟨by omega, h3⟩)
  (fun hI => ⟨.inr (), by simp, fun j h => hI j h h⟩)
 rw [h3]
 simp only [bsm]
 cases t with
 | inl b => exact ⟨b, rfl, by simp only at h4; rw [h4.1]; simp [h4.2]⟩
 | inr u => exact ⟨true, rfl, by simpa using h4⟩
theorem cell_sound (l : List G_api_Cell) (hl : l.length ≤ 9223372036854775807) : ∃ b, f_cell_Sound l = some b ∧ (b = true ↔ Snd l) := by
 unfold f_cell_Sound
 let ld : Nat → Bool := fun i => match i with | 0 => false | k + 1 => decide (kd l k = 2)
 have key : ∀ i (h : i < l.length), ((rgt l[i] = true ∧ (ld i = decide (l[i].Kind = 3))) ↔ rgt l[i] = true ∧ (l[i].Kind = 3 → 0 < i ∧ kd l (i - 1) = 2) ∧ (0 < i → kd l (i - 1) = 2 → l[i].Kind = 3)) := fun i h => by
  cases i with
  | zero => simp [ld]
  | succ k => simp only [ld, Nat.add_sub_cancel, decide_eq_decide]; constructor <;> (rintro ⟨a, b⟩; exact ⟨a, by omega⟩)
 have snd : Snd l ↔ (∀ i (h : i < l.length), rgt l[i] = true ∧ ld i = decide (l[i].Kind = 3)) ∧ ld l.length = false := by
  constructor
  ·intro hs
   refine ⟨fun i h => (key i h).2 ⟨(hs i h).1, (hs i h).2.2, fun h0 h2 => ?_⟩, ?_⟩
   ·have := (hs (i - 1) (by omega)).2.1 (by rw [← kd_at]; exact h2)
    rw [show i - 1 + 1 = i by omega, kd_at h] at this
    exact this
   ·cases hn : l.length with
    | zero => rfl
    | succ k =>
     simp only [ld, decide_eq_false_iff_not]
     intro h2
     have := (hs k (by omega)).2.1 (by rw [← kd_at]; exact h2)
     rw [kd_out (by omega)] at this
     cases this
  ·rintro ⟨h1, h2⟩ i h
   have hk := (key i h).1 (h1 i h)
   refine ⟨hk.1, fun h3 => ?_, hk.2.1⟩
   by_cases hn : i + 1 < l.length
   ·have := ((key (i + 1) hn).1 (h1 (i + 1) hn)).2.2 (by omega) (by rw [Nat.add_sub_cancel, kd_at h]; exact h3)
    rw [kd_at hn]; exact this
   ·exfalso
    have e : l.length = i + 1 := by omega
    rw [e] at h2
    simp only [ld, decide_eq_false_iff_not] at h2
    rw [kd_at h] at h2
    exact h2 h3
 obtain ⟨t, h3, h4⟩ := iter_inv (τ := Bool ⊕ Bool) (fun s : Bool × Int => ∃ i : Nat, s = (ld i, (i : Int)) ∧ i ≤ l.length ∧ ∀ j (h : j < l.length), j < i → rgt l[j] = true ∧ ld j = decide (l[j].Kind = 3)) (fun s => l.length - s.2.toNat)
  (fun t => match t with | .inl b => b = false ∧ ¬ Snd l | .inr b => (b = false ↔ Snd l))
  (step := fun s_9 =>
   if (decide (s_9.2 < (l.length : Int))) = true then
   (idx l s_9.2).bind fun x_12 =>
   (f_cell_Right x_12).bind fun x_18 =>
   (orE (!x_18) (some (!(s_9.1 == (x_12.Kind == 3))))).bind fun d_20 =>
   if d_20 = true then
   some (.inr (.inl false))
   else
   some (.inl (x_12.Kind == 2, (w64 (s_9.2 + 1))))
   else
   some (.inr (.inr (s_9.1))))
  (by
   rintro s ⟨i, rfl, hi, hI⟩
   rcases Nat.lt_or_ge i l.length with hlt | hge
   ·have e3 : w64 ((i : Int) + 1) = ((i + 1 : Nat) : Int) := by rw [w64_in (by omega)]; simp
    simp only [Int.ofNat_lt, hlt, decide_true, if_true, idx_at hlt, bsm, cell_right, orE_some, e3]
    by_cases hk : rgt l[i] = true ∧ ld i = decide (l[i].Kind = 3)
    ·refine .inl ⟨_, ?_, ⟨i + 1, rfl, hlt, fun j h hj => ?_⟩, ?_⟩
     ·rw [if_neg]
      ·simp only [ld, kd_at hlt]; rfl
      ·rw [hk.1, hk.2]; simp; rfl
     ·by_cases hji : j = i
      ·subst hji; exact hk
      ·exact hI j h (by omega)
     ·simp; omega
    ·refine .inr ⟨.inl false, ?_, rfl, fun hs => hk ((snd.1 hs).1 i hlt)⟩
     rw [if_pos]
     cases h1 : rgt l[i] with
     | false => simp
     | true =>
      simp only [h1, true_and] at hk
      simp only [Bool.not_true, Bool.false_or, Bool.not_eq_true', beq_eq_false_iff_ne, ne_eq]
      exact hk
   ·obtain rfl : i = l.length := by omega
    refine .inr ⟨.inr (ld l.length), by simp, ?_⟩
    simp only
    rw [snd]
    exact ⟨fun h => ⟨fun j hj => hI j hj hj, h⟩, fun h => h.2⟩) (((l.length : Int) - 0).toNat + 1) (false, 0) ⟨0, rfl, Nat.zero_le _, fun j _ h => by omega⟩ (by simp)
 rw [h3]
 simp only [bsm]
 cases t with
 | inl b => exact ⟨b, rfl, by simp only at h4; rw [h4.1]; simp [h4.2]⟩
 | inr b => exact ⟨!b, rfl, by simp only at h4; rw [← h4]; cases b <;> simp⟩
theorem same_text (a : List Int) (ha : a.length ≤ 9223372036854775807) (b : List Int) : ∃ t, f_linotyperef01_Same a b = some t ∧ (t = true ↔ a = b) := by
 unfold f_linotyperef01_Same
 by_cases hl : a.length = b.length
 ·rw [if_neg (by simp [hl])]
  obtain ⟨t, h3, h4⟩ := iter_count (τ := Bool ⊕ Unit) (n := a.length) (by omega) (fun t => match t with | .inl b' => b' = false ∧ a ≠ b | .inr _ => a = b) (fun i => ∀ j, j < i → a[j]? = b[j]?) (fun j h => by omega)
   (step := fun s_13 =>
    if (decide (s_13 < (a.length : Int))) = true then
    (idx a s_13).bind fun x_21 =>
    (idx b s_13).bind fun x_25 =>
    if (x_21 != x_25) = true then
    some (.inr (.inl false))
    else
    some (.inl ((w64 (s_13 + 1))))
    else
    some (.inr (.inr ())))
   (fun i hi hI => by
    have e3 : w64 ((i : Int) + 1) = ((i + 1 : Nat) : Int) := by rw [w64_in (by omega)]; simp
    simp only [Int.ofNat_lt, hi, decide_true, if_true, idx_at hi, idx_at (show i < b.length by omega), bsm, e3]
    by_cases hk : a[i] = b[i]
    ·refine .inl ⟨by rw [if_neg (by simp [hk])], fun j hj => ?_⟩
     by_cases hji : j = i
     ·subst hji; rw [List.getElem?_eq_getElem hi, List.getElem?_eq_getElem (show j < b.length by omega), hk]
     ·exact hI j (by omega)
    ·exact .inr ⟨.inl false, by rw [if_pos (by simpa using hk)], rfl, fun e => hk (by subst e; rfl)⟩)
   (fun hI => ⟨.inr (), by simp, by
    apply List.ext_getElem?
    intro j
    rcases Nat.lt_or_ge j a.length with h | h
    ·exact hI j h
    ·rw [List.getElem?_eq_none h, List.getElem?_eq_none (by omega)]⟩)
  rw [h3]
  simp only [bsm]
  cases t with
  | inl b' => exact ⟨b', rfl, by simp only at h4; rw [h4.1]; simp [h4.2]⟩
  | inr u => exact ⟨true, rfl, by simpa using h4⟩
 ·rw [if_pos (by simp; omega)]
  exact ⟨false, rfl, by simp; intro e; subst e; exact hl rfl⟩
def Sht (l : List G_api_Cell) : Prop := ∀ i (h : i < l.length), l[i].Text.length ≤ 1000000
theorem Snd.sht {l : List G_api_Cell} (h : Snd l) : Sht l := fun i hi => by
 have := (h i hi).1
 unfold rgt at this
 split at this
 ·have e : l[i].Text = [] := by simpa using this
  rw [e]; simp
 ·simp at this; omega
theorem same_cells (a : List G_api_Cell) (ha : a.length ≤ 9223372036854775807) (hs : Sht a) (b : List G_api_Cell) : ∃ t, f_linotyperef23_Same a b = some t ∧ (t = true ↔ a = b) := by
 unfold f_linotyperef23_Same
 by_cases hl : a.length = b.length
 ·rw [if_neg (by simp [hl])]
  obtain ⟨t, h3, h4⟩ := iter_count (τ := Bool ⊕ Unit) (n := a.length) (by omega) (fun t => match t with | .inl b' => b' = false ∧ a ≠ b | .inr _ => a = b) (fun i => ∀ j, j < i → a[j]? = b[j]?) (fun j h => by omega)
   (step := fun s_13 =>
    if (decide (s_13 < (a.length : Int))) = true then
    (idx a s_13).bind fun x_21 =>
    (idx b s_13).bind fun x_26 =>
    (orE (x_21.Kind != x_26.Kind) ((idx a s_13).bind fun x_34 =>
    (idx b s_13).bind fun x_39 =>
    (f_linotyperef01_Same x_34.Text x_39.Text).bind fun x_42 =>
    some (!x_42))).bind fun d_30 =>
    if d_30 = true then
    some (.inr (.inl false))
    else
    some (.inl ((w64 (s_13 + 1))))
    else
    some (.inr (.inr ())))
   (fun i hi hI => by
    have e3 : w64 ((i : Int) + 1) = ((i + 1 : Nat) : Int) := by rw [w64_in (by omega)]; simp
    obtain ⟨t, ht, ht2⟩ := same_text a[i].Text (by have := hs i hi; omega) b[i].Text
    simp only [Int.ofNat_lt, hi, decide_true, if_true, idx_at hi, idx_at (show i < b.length by omega), bsm, e3, ht, orE_some]
    by_cases hk : a[i] = b[i]
    ·refine .inl ⟨by rw [if_neg (by rw [ht2.2 (by rw [hk])]; simp [hk])], fun j hj => ?_⟩
     by_cases hji : j = i
     ·subst hji; rw [List.getElem?_eq_getElem hi, List.getElem?_eq_getElem (show j < b.length by omega), hk]
     ·exact hI j (by omega)
    ·refine .inr ⟨.inl false, ?_, rfl, fun e => hk (by subst e; rfl)⟩
     rw [if_pos]
     by_cases hkk : a[i].Kind = b[i].Kind
     ·have : t = false := by
       cases t with
       | false => rfl
       | true => exact absurd (cell_ext hkk (ht2.1 rfl)) hk
      simp [this]
     ·simp [hkk])
   (fun hI => ⟨.inr (), by simp, by
    apply List.ext_getElem?
    intro j
    rcases Nat.lt_or_ge j a.length with h | h
    ·exact hI j h
    ·rw [List.getElem?_eq_none h, List.getElem?_eq_none (by omega)]⟩)
  rw [h3]
  simp only [bsm]
  cases t with
  | inl b' => exact ⟨b', rfl, by simp only at h4; rw [h4.1]; simp [h4.2]⟩
  | inr u => exact ⟨true, rfl, by simpa using h4⟩
 ·rw [if_pos (by simp; omega)]
  exact ⟨false, rfl, by simp; intro e; subst e; exact hl rfl⟩
theorem same_self {a : List G_api_Cell} (ha : a.length ≤ 9223372036854775807) (hs : Sht a) : f_linotyperef23_Same a a = some true := by
 obtain ⟨t, h1, h2⟩ := same_cells a ha hs a
 rw [h1, h2.2 rfl]
def fixv (r : Int) : Int := if vld r = true then r else 65533
def fx (t : List Int) : List Int := (t.take 16).map fixv
def strip (wide : Int) (t : List Int) : List G_api_Cell :=
 if t = [] then (if wide > 1 then [bl, bl] else [bl]) else if wide > 1 then [⟨2, t⟩, ⟨3, []⟩] else [⟨1, t⟩]
theorem vld_fixv (r : Int) : vld (fixv r) = true := by
 unfold fixv
 split
 ·assumption
 ·rfl
theorem fx_vld (t : List Int) : ∀ x ∈ fx t, vld x = true := fun x hx => by
 obtain ⟨y, _, rfl⟩ := List.mem_map.1 hx
 exact vld_fixv y
theorem fx_len (t : List Int) : (fx t).length ≤ 16 := by simp [fx]; omega
theorem fx_len' (t : List Int) : (fx t).length = min 16 t.length := by simp [fx]
theorem rgt_of {k : Int} (hk : k = 1 ∨ k = 2) {t : List Int} (h1 : 1 ≤ t.length) (h2 : t.length ≤ 16) (hv : ∀ x ∈ t, vld x = true) : rgt ⟨k, t⟩ = true := by
 unfold rgt
 rw [if_neg (by simp; omega)]
 simp only [Bool.and_eq_true, Bool.or_eq_true, decide_eq_true_eq, List.all_eq_true]
 exact ⟨⟨⟨hk, h1⟩, h2⟩, hv⟩
theorem snd_strip (wide : Int) {t : List Int} (hv : ∀ x ∈ t, vld x = true) (h2 : t.length ≤ 16) : Snd (strip wide t) := by
 unfold strip
 have hb : rgt bl = true := rfl
 have h3 : rgt ⟨3, []⟩ = true := rfl
 by_cases ht : t = []
 ·rw [if_pos ht]
  split
  ·intro i hi
   match i, hi with
   | 0, _ => exact ⟨hb, fun h => by simp [bl] at h, fun h => by simp [bl] at h⟩
   | 1, _ => exact ⟨hb, fun h => by simp [bl] at h, fun h => by simp [bl] at h⟩
  ·intro i hi
   match i, hi with
   | 0, _ => exact ⟨hb, fun h => by simp [bl] at h, fun h => by simp [bl] at h⟩
 ·rw [if_neg ht]
  have h1 : 1 ≤ t.length := by
   rcases Nat.eq_zero_or_pos t.length with h | h
   ·exact absurd (List.eq_nil_of_length_eq_zero h) ht
   ·exact h
  split
  ·intro i hi
   match i, hi with
   | 0, _ => exact ⟨rgt_of (.inr rfl) h1 h2 hv, fun _ => rfl, fun h => by simp at h⟩
   | 1, _ => exact ⟨h3, fun h => by simp at h, fun _ => ⟨by omega, rfl⟩⟩
  ·intro i hi
   match i, hi with
   | 0, _ => exact ⟨rgt_of (.inl rfl) h1 h2 hv, fun h => by simp at h, fun h => by simp at h⟩
theorem ref_of (wide : Int) (t : List Int) (ht : t.length ≤ 9223372036854775807) : f_linotyperef23_Of wide t = some (strip wide (fx t)) := by
 unfold f_linotyperef23_Of
 rw [iter_eq (s := (([] : List Int), (0 : Int))) (t := fx t) (fun st : List Int × Int => ∃ i : Nat, st = ((fx t).take i, (i : Int)) ∧ i ≤ (fx t).length) (fun st => (fx t).length - st.2.toNat) ?_ ⟨0, rfl, Nat.zero_le _⟩ (by simp [fx]; omega)]
 ·simp only [bsm, andE_some]
  unfold strip
  by_cases h0 : fx t = []
  ·rw [if_pos h0, h0]
   by_cases hw : wide > 1
   ·simp [hw, bl]
   ·simp [hw, bl]
  ·have h1 : (((fx t).length : Int) == 0) = false := by
    rw [beq_eq_false_iff_ne]
    intro e
    exact h0 (List.eq_nil_of_length_eq_zero (by omega))
   rw [if_neg h0]
   simp only [h1, Bool.false_and, Bool.false_eq_true, if_false]
   by_cases hw : wide > 1
   ·simp [hw]
   ·simp [hw]
 ·rintro st ⟨i, rfl, hi⟩
  have hl := fx_len' t
  rcases Nat.lt_or_ge i (fx t).length with hlt | hge
  ·refine .inl ⟨_, ?_, ⟨i + 1, rfl, hlt⟩, by simp; omega⟩
   have e3 : w64 ((i : Int) + 1) = ((i + 1 : Nat) : Int) := by rw [w64_in (by omega)]; simp
   have hit : i < t.length := by omega
   have d1 : (decide ((i : Int) < (t.length : Int)) && decide ((i : Int) < 16)) = true := by simp; omega
   have hx : (fx t)[i] = fixv t[i] := by simp [fx]
   simp only [andE_some, bsm, d1, if_true, idx_at hit, ref_valid, e3]
   have happ : ∀ x, x = fixv t[i] → app ((fx t).take i) [x] = some ((fx t).take (i + 1)) := fun x hxx => by
    rw [app_eq (by rw [List.length_take]; simp; omega), List.take_succ_eq_append_getElem hlt, hx, hxx]
   cases hv : vld t[i] with
   | true =>
    simp only [if_true]
    rw [happ _ (by simp [fixv, hv])]
    rfl
   | false =>
    simp only [Bool.false_eq_true, if_false]
    rw [happ _ (by simp [fixv, hv])]
    rfl
  ·obtain rfl : i = (fx t).length := by omega
   have d1 : (decide (((fx t).length : Int) < (t.length : Int)) && decide (((fx t).length : Int) < 16)) = false := by simp; omega
   exact .inr (by simp only [andE_some, bsm, d1, Bool.false_eq_true, if_false]; simp)
end Go.Proofs.YthokmpbbkpjhbaaGreatDoor
namespace Go.Proofs.YthokmpbbkpjhbaaGreatDoor
open Go Go.Lt
def Sto.sr (s : Sto) (k : Nat) (x : G_row_Row) : Sto := { s with row_Row := s.row_Row.set k x }
theorem get_lt {α : Type} {l : List α} {k : Nat} {x : α} (h : l[k]? = some x) : k < l.length := (List.getElem?_eq_some_iff.1 h).1
theorem set_row {s : Sto} {k : Nat} {x : G_row_Row} (h : k < s.row_Row.length) : s.set_row_Row k x = some (s.sr k x) := by
 unfold Sto.set_row_Row
 rw [if_pos h]
 rfl
theorem sr_len (s : Sto) (k : Nat) (x : G_row_Row) : (s.sr k x).row_Row.length = s.row_Row.length := by simp [Sto.sr]
theorem sr_get {s : Sto} {k : Nat} {x : G_row_Row} (h : k < s.row_Row.length) : (s.sr k x).row_Row[k]? = some x := by simp [Sto.sr, h]
theorem sr_ne {s : Sto} {k j : Nat} {x : G_row_Row} (h : k ≠ j) : (s.sr k x).row_Row[j]? = s.row_Row[j]? := by simp [Sto.sr, h]
theorem sr_sr (s : Sto) (k : Nat) (x y : G_row_Row) : (s.sr k x).sr k y = s.sr k y := by simp [Sto.sr]
theorem sr_id {s : Sto} {k : Nat} {x : G_row_Row} (h : s.row_Row[k]? = some x) : s.sr k x = s := by
 have : s.row_Row.set k x = s.row_Row := by
  apply List.ext_getElem?
  intro j
  by_cases hj : k = j
  ·subst hj; rw [List.getElem?_set_self (get_lt h), h]
  ·rw [List.getElem?_set_ne hj]
 simp [Sto.sr, this]
theorem add_get (s : Sto) (x : G_row_Row) : (s.add_row_Row x).row_Row[s.row_Row.length]? = some x := by simp [Sto.add_row_Row]
theorem add_sr (s : Sto) (x y : G_row_Row) : (s.add_row_Row x).sr s.row_Row.length y = s.add_row_Row y := by simp [Sto.sr, Sto.add_row_Row]
variable {s : Sto} {k : Nat} {l : List G_api_Cell} {w : Bool}
theorem row_wide (h : s.row_Row[k]? = some ⟨l, w⟩) : f_row_Row_Wide s (some k) = some (l.length : Int) := by simp [f_row_Row_Wide, h]
theorem row_own {c : G_api_Cell} (h : c.Text.length ≤ 1000000) : f_row_own c = some c := by
 simp only [f_row_own, f_slices_Clone, app_eq (show ([] : List Int).length + c.Text.length ≤ 1099511627776 by simp; omega), bsm, List.nil_append]
theorem row_wrap (h : s.row_Row[k]? = some ⟨l, w⟩) : f_row_Row_Wrap s (some k) = some w := by simp [f_row_Row_Wrap, h, andE]
theorem row_goon (h : s.row_Row[k]? = some ⟨l, w⟩) (on : Bool) : f_row_Row_GoOn s (some k) on = some (s.sr k ⟨l, on⟩) := by
 simp [f_row_Row_GoOn, h, set_row (get_lt h)]
theorem row_cells (h : s.row_Row[k]? = some ⟨l, w⟩) (hl : l.length ≤ 1000000) (hs : Sht l) : f_row_Row_Cells s (some k) = some l := by
 unfold f_row_Row_Cells
 rw [row_wide h]
 simp only [bsm]
 rw [iter_eq (s := (([] : List G_api_Cell), (0 : Int))) (t := l) (fun st : List G_api_Cell × Int => ∃ i : Nat, st = (l.take i, (i : Int)) ∧ i ≤ l.length) (fun st => l.length - st.2.toNat) ?_ ⟨0, rfl, Nat.zero_le _⟩ (by simp)]
 ·rfl
 ·rintro st ⟨i, rfl, hi⟩
  rcases Nat.lt_or_ge i l.length with hlt | hge
  ·refine .inl ⟨(l.take (i + 1), ((i + 1 : Nat) : Int)), ?_, ⟨i + 1, rfl, hlt⟩, by simp; omega⟩
   have e3 : w64 ((i : Int) + 1) = ((i + 1 : Nat) : Int) := by rw [w64_in (by omega)]; simp
   simp only [Int.ofNat_lt, hlt, decide_true, if_true, bsm, h, idx_at hlt, row_own (hs i hlt), e3]
   rw [app_eq (by rw [List.length_take]; simp; omega), List.take_succ_eq_append_getElem hlt]
   rfl
  ·obtain rfl : i = l.length := by omega
   exact .inr (by simp)
theorem row_cell (h : s.row_Row[k]? = some ⟨l, w⟩) {i : Nat} (hi : i < l.length) (hs : Sht l) : f_row_Row_Cell s (some k) i = some (l[i], true) := by
 unfold f_row_Row_Cell
 rw [row_wide h]
 simp only [bsm, orE_some]
 rw [if_neg (by simp; omega)]
 simp only [h, bsm, idx_at hi, row_own (hs i hi)]
theorem row_kind (h : s.row_Row[k]? = some ⟨l, w⟩) (i : Nat) : f_row_Row_kind s (some k) i = some (kd l i) := by
 unfold f_row_Row_kind
 rw [row_wide h]
 simp only [bsm, orE_some]
 by_cases hi : i < l.length
 ·rw [if_neg (by simp; omega)]
  simp only [h, bsm, idx_at hi, kd_at hi]
 ·rw [if_pos (by simp; omega), kd_out (by omega)]
theorem row_put (h : s.row_Row[k]? = some ⟨l, w⟩) {i : Nat} (hi : i < l.length) (hl : l.length ≤ 1000000) {c : G_api_Cell} (hc : c.Text.length ≤ 1000000) :
  f_row_Row_put s (some k) i c = some (s.sr k ⟨l.set i c, w && !decide (i + 1 = l.length)⟩) := by
 unfold f_row_Row_put
 have e : w64 (((l.set i c).length : Int) - 1) = (l.length : Int) - 1 := by rw [List.length_set, w64_in (by omega)]
 simp only [h, bsm, row_own hc, idx_at hi, sets_nat hi, set_row (get_lt h), e]
 by_cases hn : i + 1 = l.length
 ·rw [if_pos (by simp; omega), set_row (by rw [sr_len]; exact get_lt h), sr_sr]
  simp [hn]
 ·rw [if_neg (by simp; omega)]
  simp [hn]
def sd (n : Int) : Nat := (max 1 (min n 1024)).toNat
theorem sd_in (n : Int) : 1 ≤ sd n ∧ sd n ≤ 1024 := by unfold sd; omega
theorem sd_id {n : Nat} (h : 1 ≤ n) (h2 : n ≤ 1024) : sd n = n := by unfold sd; omega
theorem blanks (n : Int) : f_cell_Blanks n = some (List.replicate (max 0 (min n 1024)).toNat bl) := by
 unfold f_cell_Blanks
 simp only [imax_eq, imin_eq]
 rw [rep_eq _ (by omega)]
 rfl
theorem row_new (n : Int) : f_row_New s n = some (s.add_row_Row ⟨List.replicate (sd n) bl, false⟩, some s.row_Row.length) := by
 unfold f_row_New
 rw [blanks]
 simp only [bsm, imax_eq]
 rw [show (max 0 (min (max 1 n) 1024)).toNat = sd n by unfold sd; omega]
theorem snd_bl (n : Nat) : Snd (List.replicate n bl) := fun i h => by
 rw [List.getElem_replicate]
 exact ⟨rfl, fun h => by simp [bl] at h, fun h => by simp [bl] at h⟩
theorem row_of (hl : 1 ≤ l.length) (hl2 : l.length ≤ 1024) (hs : Snd l) : f_row_Of s l = some (s.add_row_Row ⟨l, false⟩, some s.row_Row.length, Er.nil) := by
 unfold f_row_Of
 obtain ⟨b, h1, h2⟩ := cell_sound l (by omega)
 have hb : b = true := h2.2 hs
 subst hb
 simp only [orE_some, bsm, h1]
 rw [if_neg (by rw [Bool.or_eq_true, beq_iff_eq, decide_eq_true_eq]; omega), if_neg (by simp), row_new, sd_id hl hl2]
 simp only [bsm]
 rw [iter_eq (s := ((0 : Int), s.add_row_Row ⟨List.replicate l.length bl, false⟩)) (t := s.add_row_Row ⟨l, false⟩) (fun st : Int × Sto => ∃ i : Nat, st = ((i : Int), s.add_row_Row ⟨l.take i ++ List.replicate (l.length - i) bl, false⟩) ∧ i ≤ l.length) (fun st => l.length - st.1.toNat) ?_ ⟨0, by simp, Nat.zero_le _⟩ (by simp)]
 ·rfl
 ·rintro st ⟨i, rfl, hi⟩
  rcases Nat.lt_or_ge i l.length with hlt | hge
  ·refine .inl ⟨_, ?_, ⟨i + 1, rfl, hlt⟩, by simp; omega⟩
   have e3 : w64 ((i : Int) + 1) = ((i + 1 : Nat) : Int) := by rw [w64_in (by omega)]; simp
   have hlen : (l.take i ++ List.replicate (l.length - i) bl).length = l.length := by simp; omega
   simp only [Int.ofNat_lt, hlt, decide_true, if_true, idx_at hlt, bsm, add_get, row_own (hs.sht i hlt), e3]
   rw [idx_at (show i < (l.take i ++ List.replicate (l.length - i) bl).length by omega)]
   simp only [bsm]
   rw [sets_nat (show i < (l.take i ++ List.replicate (l.length - i) bl).length by omega)]
   simp only [bsm]
   rw [set_row (get_lt (add_get _ _)), add_sr]
   simp only [bsm]
   have : (l.take i ++ List.replicate (l.length - i) bl).set i l[i] = l.take (i + 1) ++ List.replicate (l.length - (i + 1)) bl := by
    rw [List.set_append_right _ _ (by rw [List.length_take]; omega), List.length_take, Nat.min_eq_left hi, Nat.sub_self, show l.length - i = (l.length - (i + 1)) + 1 by omega, List.replicate_succ, List.set_cons_zero, List.take_succ_eq_append_getElem hlt, List.append_assoc]
    rfl
   rw [this]
  ·obtain rfl : i = l.length := by omega
   exact .inr (by simp)
def tch (l : List G_api_Cell) (a n j : Nat) : Bool := (decide (a ≤ j) && decide (j < a + n)) || (decide (kd l j = 2) && decide (a ≤ j + 1) && decide (j + 1 < a + n)) || (decide (kd l j = 3) && decide (a + 1 ≤ j) && decide (j < a + n + 1))
def pc (l : List G_api_Cell) (a : Nat) (p : List G_api_Cell) (j : Nat) : G_api_Cell :=
 if a ≤ j ∧ j < a + p.length then p.getD (j - a) bl else if tch l a p.length j = true then bl else l.getD j bl
def pl (l : List G_api_Cell) (a : Nat) (p : List G_api_Cell) : List G_api_Cell := (List.range l.length).map (pc l a p)
def pw (l : List G_api_Cell) (w : Bool) (a n : Nat) : Bool := w && !(decide (0 < l.length) && tch l a n (l.length - 1))
theorem pl_len (l : List G_api_Cell) (a : Nat) (p : List G_api_Cell) : (pl l a p).length = l.length := by simp [pl]
theorem pl_get {a : Nat} {p : List G_api_Cell} {j : Nat} (h : j < l.length) : (pl l a p)[j]? = some (pc l a p j) := by simp [pl, h]
theorem pl_at {a : Nat} {p : List G_api_Cell} {j : Nat} (h : j < (pl l a p).length) : (pl l a p)[j] = pc l a p j := by simp [pl]
theorem kd_pl {a : Nat} {p : List G_api_Cell} {j : Nat} (h : j < l.length) : kd (pl l a p) j = (pc l a p j).Kind := by simp [kd, pl_get h]
theorem Snd.two (h : Snd l) {j : Nat} (hj : kd l j = 2) : kd l (j + 1) = 3 := by
 have hlt : j < l.length := by
  rcases Nat.lt_or_ge j l.length with h | h
  ·exact h
  ·rw [kd_out h] at hj; cases hj
 exact (h j hlt).2.1 (by rw [← kd_at hlt]; exact hj)
theorem Snd.three (h : Snd l) {j : Nat} (hj : kd l j = 3) : 0 < j ∧ kd l (j - 1) = 2 := by
 have hlt : j < l.length := by
  rcases Nat.lt_or_ge j l.length with h | h
  ·exact h
  ·rw [kd_out h] at hj; cases hj
 exact (h j hlt).2.2 (by rw [← kd_at hlt]; exact hj)
theorem kd_lt {j : Nat} (h : kd l j ≠ 0) : j < l.length := by
 rcases Nat.lt_or_ge j l.length with h' | h'
 ·exact h'
 ·exact absurd (kd_out h') h
theorem Snd.rg (h : Snd l) {j : Nat} (hj : j < l.length) : rgt (l.getD j bl) = true := by
 rw [List.getD_eq_getElem?_getD, List.getElem?_eq_getElem hj]
 exact (h j hj).1
theorem kd_getD (l : List G_api_Cell) (j : Nat) : (l.getD j bl).Kind = kd l j := by
 rw [List.getD_eq_getElem?_getD, kd]
 cases l[j]? <;> rfl
theorem Snd.paint {a : Nat} {p : List G_api_Cell} (h : Snd l) (hp : Snd p) (ha : a + p.length ≤ l.length) : Snd (pl l a p) := fun j hj => by
 rw [pl_len] at hj
 rw [pl_at]
 have kpc : ∀ i, i < l.length → (pc l a p i).Kind = if a ≤ i ∧ i < a + p.length then kd p (i - a) else if tch l a p.length i = true then 0 else kd l i := fun i hi => by
  unfold pc
  split
  ·exact kd_getD _ _
  ·split
   ·rfl
   ·exact kd_getD _ _
 have kall : ∀ i, kd (pl l a p) i = if i < l.length then (if a ≤ i ∧ i < a + p.length then kd p (i - a) else if tch l a p.length i = true then 0 else kd l i) else 0 := fun i => by
  by_cases hi : i < l.length
  ·rw [if_pos hi, kd_pl hi, kpc i hi]
  ·rw [if_neg hi, kd_out (by rw [pl_len]; omega)]
 refine ⟨?_, fun h2 => ?_, fun h3 => ?_⟩
 ·unfold pc
  split
  ·exact hp.rg (by omega)
  ·split
   ·rfl
   ·exact h.rg hj
 ·rw [kpc j hj] at h2
  rw [kall]
  by_cases hin : a ≤ j ∧ j < a + p.length
  ·rw [if_pos hin] at h2
   have h4 := hp.two h2
   have h5 : j - a + 1 < p.length := kd_lt (by rw [h4]; decide)
   rw [if_pos (by omega), if_pos (by omega), show j + 1 - a = j - a + 1 by omega]; exact h4
  ·rw [if_neg hin] at h2
   split at h2
   ·cases h2
   ·rename_i ht
    have h4 := h.two h2
    have h5 : j + 1 < l.length := kd_lt (by rw [h4]; decide)
    simp only [tch, h2, decide_true, Bool.true_and, Bool.or_eq_true, Bool.and_eq_true, decide_eq_true_eq, not_or, not_and] at ht
    have h6 : ¬ (a ≤ j + 1 ∧ j + 1 < a + p.length) := by omega
    have h7 : ¬ tch l a p.length (j + 1) = true := by
     simp only [tch, h4, Bool.or_eq_true, Bool.and_eq_true, decide_eq_true_eq]
     omega
    rw [if_pos h5, if_neg h6, if_neg h7]; exact h4
 ·rw [kpc j hj] at h3
  by_cases hin : a ≤ j ∧ j < a + p.length
  ·rw [if_pos hin] at h3
   have h4 := hp.three h3
   refine ⟨by omega, ?_⟩
   rw [kall, if_pos (by omega), if_pos (by omega), show j - 1 - a = j - a - 1 by omega]; exact h4.2
  ·rw [if_neg hin] at h3
   split at h3
   ·cases h3
   ·rename_i ht
    have h4 := h.three h3
    refine ⟨h4.1, ?_⟩
    simp only [tch, h3, decide_true, Bool.true_and, Bool.or_eq_true, Bool.and_eq_true, decide_eq_true_eq, not_or, not_and] at ht
    have h6 : ¬ (a ≤ j - 1 ∧ j - 1 < a + p.length) := by omega
    have h7 : ¬ tch l a p.length (j - 1) = true := by
     simp only [tch, h4.2, Bool.or_eq_true, Bool.and_eq_true, decide_eq_true_eq]
     omega
    rw [kall, if_pos (by omega), if_neg h6, if_neg h7]; exact h4.2
theorem ref_paint (l : List G_api_Cell) (w : Bool) (a : Nat) (p : List G_api_Cell) (hl : l.length ≤ 1000000) (ha : a ≤ 1000000) (hp : p.length ≤ 1000000) : f_linotyperef24_Paint l w a p = some (pl l a p, pw l w a p.length) := by
 unfold f_linotyperef24_Paint
 rw [iter_eq (s := (w, ([] : List G_api_Cell), (0 : Int))) (t := (pw l w a p.length, pl l a p)) (fun st : Bool × List G_api_Cell × Int => ∃ i : Nat, st = (if i < l.length then w else pw l w a p.length, (pl l a p).take i, (i : Int)) ∧ i ≤ l.length) (fun st => l.length - st.2.2.toNat) ?_ ⟨0, ?_, Nat.zero_le _⟩ (by simp)]
 ·rfl
 ·rintro st ⟨i, rfl, hi⟩
  rcases Nat.lt_or_ge i l.length with hlt | hge
  ·refine .inl ⟨_, ?_, ⟨i + 1, rfl, hlt⟩, by simp; omega⟩
   have e3 : w64 ((i : Int) + 1) = ((i + 1 : Nat) : Int) := by rw [w64_in (by omega)]; simp
   have e4 : w64 ((a : Int) + (p.length : Int)) = ((a + p.length : Nat) : Int) := by rw [w64_in (by omega)]; simp
   have e5 : w64 ((i : Int) - (a : Int)) = (i : Int) - a := w64_in (by omega)
   have e6 : w64 ((i : Int) - 1) = (i : Int) - 1 := w64_in (by omega)
   have hd : decide ((i : Int) < (l.length : Int)) = true := by simp; exact hlt
   simp only [hd, if_true, if_pos hlt, idx_at hlt, bsm, andE_some, orE_some, e3, e4, e5, e6]
   have happ : ∀ x : G_api_Cell, x = pc l a p i → app ((pl l a p).take i) [x] = some ((pl l a p).take (i + 1)) := fun x hx => by
    subst hx
    rw [app_eq (by rw [List.length_take, pl_len]; simp; omega), List.take_succ_eq_append_getElem (show i < (pl l a p).length by rw [pl_len]; exact hlt), pl_at]
   by_cases hin : a ≤ i ∧ i < a + p.length
   ·have c1 : (decide ((i : Int) ≥ a) && decide ((i : Int) < ((a + p.length : Nat) : Int))) = true := by simp; omega
    obtain ⟨q, hq⟩ : ∃ q : Nat, q = i - a := ⟨_, rfl⟩
    have c2 : (i : Int) - a = (q : Int) := by omega
    have hqp : q < p.length := by omega
    simp only [c1, if_true, c2, idx_at hqp, bsm, Bool.not_true, andE_false, Bool.false_and, Bool.false_eq_true, if_false, Bool.true_or, Bool.and_true]
    rw [happ ⟨p[q].Kind, p[q].Text⟩ (by rw [pc, if_pos hin, ← hq, List.getD_eq_getElem?_getD, List.getElem?_eq_getElem hqp]; rfl)]
    by_cases hn : i + 1 = l.length
    ·have c3 : (((i + 1 : Nat) : Int) == (l.length : Int)) = true := by simp; omega
     have c4 : pw l w a p.length = false := by
      have : tch l a p.length (l.length - 1) = true := by simp [tch]; omega
      simp [pw, this]; omega
     simp only [c3, if_true, bsm, c4]
     rw [if_neg (by omega)]
    ·have c3 : (((i + 1 : Nat) : Int) == (l.length : Int)) = false := by simp; omega
     simp only [c3, Bool.false_eq_true, if_false, bsm]
     rw [if_pos (show i + 1 < l.length by omega)]
   ·have c1 : (decide ((i : Int) ≥ a) && decide ((i : Int) < ((a + p.length : Nat) : Int))) = false := by simp; omega
    have c5 : ((l[i].Kind == 2 && decide (((i + 1 : Nat) : Int) ≥ a) && decide (((i + 1 : Nat) : Int) < ((a + p.length : Nat) : Int))) || (l[i].Kind == 3 && decide ((i : Int) - 1 ≥ a) && decide ((i : Int) - 1 < ((a + p.length : Nat) : Int)))) = tch l a p.length i := by
     rw [Bool.eq_iff_iff]
     simp only [tch, kd_at hlt, Bool.or_eq_true, Bool.and_eq_true, beq_iff_eq, decide_eq_true_eq]
     omega
    simp only [c1, Bool.false_eq_true, if_false, bsm, Bool.not_false, andE_true, Bool.false_or, Bool.true_and]
    simp only [c5]
    cases ht : tch l a p.length i with
    | true =>
     simp only [if_true, bsm, Bool.and_true]
     rw [happ ⟨0, []⟩ (by rw [pc, if_neg hin, if_pos ht]; rfl)]
     by_cases hn : i + 1 = l.length
     ·have c3 : (((i + 1 : Nat) : Int) == (l.length : Int)) = true := by simp; omega
      have c4 : pw l w a p.length = false := by
       have e : l.length - 1 = i := by omega
       simp [pw, e, ht]; omega
      simp only [c3, if_true, bsm, c4]
      rw [if_neg (by omega)]
     ·have c3 : (((i + 1 : Nat) : Int) == (l.length : Int)) = false := by simp; omega
      simp only [c3, Bool.false_eq_true, if_false, bsm]
      rw [if_pos (show i + 1 < l.length by omega)]
    | false =>
     simp only [Bool.false_eq_true, if_false, bsm, Bool.and_false]
     rw [happ ⟨l[i].Kind, l[i].Text⟩ (by rw [pc, if_neg hin, if_neg (by simp [ht]), List.getD_eq_getElem?_getD, List.getElem?_eq_getElem hlt]; rfl)]
     by_cases hn : i + 1 = l.length
     ·have c4 : pw l w a p.length = w := by
       have e : l.length - 1 = i := by omega
       simp [pw, e, ht]
      simp only [bsm, c4, ite_self]
     ·simp only [bsm]
      rw [if_pos (show i + 1 < l.length by omega)]
  ·obtain rfl : i = l.length := by omega
   refine .inr ?_
   have e : (pl l a p).take l.length = pl l a p := List.take_of_length_le (by rw [pl_len]; exact Nat.le_refl _)
   simp [e]
 ·by_cases h0 : 0 < l.length
  ·simp [h0]
  ·simp [h0, pw]
end Go.Proofs.YthokmpbbkpjhbaaGreatDoor
namespace Go.Proofs.YthokmpbbkpjhbaaGreatDoor
open Go Go.Lt
variable {s : Sto} {k : Nat} {l p : List G_api_Cell} {w : Bool}
theorem kd_set_ne {i j : Nat} (h : i ≠ j) (c : G_api_Cell) : kd (l.set i c) j = kd l j := by simp [kd, List.getElem?_set_ne h]
theorem row_paint (h : s.row_Row[k]? = some ⟨l, w⟩) (hs : Snd l) (hl : l.length ≤ 1024) (hp : Snd p) {a : Nat} (hn : 1 ≤ p.length) (ha : a + p.length ≤ l.length) :
  f_row_Row_Paint s (some k) a p = some (s.sr k ⟨pl l a p, pw l w a p.length⟩, Er.nil) := by
 unfold f_row_Row_Paint
 have hk := get_lt h
 obtain ⟨b, hb1, hb2⟩ := cell_sound p (by omega)
 have hb : b = true := hb2.2 hp
 subst hb
 have e1 : w64 ((l.length : Int) - (a : Int)) = (l.length : Int) - a := w64_in (by omega)
 have e2 : w64 ((a : Int) + (p.length : Int)) = ((a + p.length : Nat) : Int) := by rw [w64_in (by omega)]; simp
 have o1 : decide ((a : Int) < 0) = false := by simp
 have o2 : decide ((a : Int) > (l.length : Int)) = false := by simp; omega
 have o3 : decide ((p.length : Int) > (l.length : Int) - (a : Int)) = false := by simp; omega
 have o4 : ((p.length : Int) == 0) = false := by rw [beq_eq_false_iff_ne]; omega
 simp only [Option.isNone_some, orE_false, o1, o2, o3, o4, h, e1, e2, hb1, bsm, Bool.false_eq_true, if_false, Bool.not_true, row_kind h a]
 obtain ⟨l1, hl1⟩ : ∃ l1, l1 = if kd l a = 3 then l.set (a - 1) bl else l := ⟨_, rfl⟩
 have hlen1 : l1.length = l.length := by rw [hl1]; split <;> simp
 have left : (if (kd l a == 3) = true then (f_row_Row_put s (some k) (w64 ((a : Int) - 1)) (⟨0, ([] : List Int)⟩ : G_api_Cell)).bind fun x_60 => (some (x_60) : Option (Sto)) else (some (s) : Option (Sto))) = some (s.sr k ⟨l1, w⟩) := by
  by_cases h3 : kd l a = 3
  ·have h4 := hs.three h3
   have h5 : a < l.length := kd_lt (by rw [h3]; decide)
   rw [if_pos (by simpa using h3), show w64 ((a : Int) - 1) = ((a - 1 : Nat) : Int) by rw [w64_in (by omega)]; omega, row_put h (by omega) (by omega) (by simp)]
   rw [hl1, if_pos h3]
   have : decide (a - 1 + 1 = l.length) = false := by simp; omega
   simp only [bsm, this, Bool.not_false, Bool.and_true]
   rfl
  ·rw [if_neg (by simpa using h3), hl1, if_neg h3, sr_id h]
 rw [left]
 simp only [bsm]
 obtain ⟨l2, hl2⟩ : ∃ l2, l2 = if kd l (a + p.length) = 3 then l1.set (a + p.length) bl else l1 := ⟨_, rfl⟩
 obtain ⟨w2, hw2⟩ : ∃ w2, w2 = (w && !(decide (kd l (a + p.length) = 3) && decide (a + p.length + 1 = l.length))) := ⟨_, rfl⟩
 have hlen2 : l2.length = l.length := by rw [hl2]; split <;> simp [hlen1]
 have hget1 : (s.sr k ⟨l1, w⟩).row_Row[k]? = some ⟨l1, w⟩ := sr_get hk
 have hkd1 : kd l1 (a + p.length) = kd l (a + p.length) := by
  rw [hl1]; split
  ·exact kd_set_ne (by omega) _
  ·rfl
 have right : ((f_row_Row_kind (s.sr k ⟨l1, w⟩) (some k) ((a + p.length : Nat) : Int)).bind fun x_71 =>
   if (x_71 == 3) = true then
   (f_row_Row_put (s.sr k ⟨l1, w⟩) (some k) ((a + p.length : Nat) : Int) (⟨0, ([] : List Int)⟩ : G_api_Cell)).bind fun x_77 =>
   (some (x_77) : Option (Sto))
   else
   (some (s.sr k ⟨l1, w⟩) : Option (Sto))) = some (s.sr k ⟨l2, w2⟩) := by
  rw [row_kind hget1, hkd1]
  simp only [bsm]
  by_cases h3 : kd l (a + p.length) = 3
  ·have h5 : a + p.length < l.length := kd_lt (by rw [h3]; decide)
   rw [if_pos (by simpa using h3), row_put hget1 (by omega) (by omega) (by simp)]
   simp only [bsm, sr_sr]
   rw [hl2, if_pos h3, hw2, hlen1]
   simp only [h3, decide_true, Bool.true_and]
   rfl
  ·rw [if_neg (by simpa using h3), hl2, if_neg h3, hw2]
   simp [h3]
 rw [right]
 simp only [bsm]
 rw [iter_eq (s := ((0 : Int), s.sr k ⟨l2, w2⟩)) (t := s.sr k ⟨l2.take a ++ p ++ l2.drop (a + p.length), w2 && !decide (a + p.length = l.length)⟩)
  (fun st : Int × Sto => ∃ i : Nat, st = ((i : Int), s.sr k ⟨l2.take a ++ p.take i ++ l2.drop (a + i), w2 && !(decide (0 < i) && decide (a + i = l.length))⟩) ∧ i ≤ p.length) (fun st => p.length - st.1.toNat) ?_ ⟨0, ?_, Nat.zero_le _⟩ (by simp)]
 ·simp only [bsm, Option.some.injEq, Prod.mk.injEq, and_true]
  congr 1
  congr 1
  ·
   apply List.ext_getElem?
   intro j
   rcases Nat.lt_or_ge j l.length with hj | hj
   ·rw [pl_get hj]
    have g1 : ∀ j, j < l.length → j ≠ a + p.length → l1[j]? = some (if kd l a = 3 ∧ j = a - 1 then bl else l.getD j bl) := fun j hj _ => by
     rw [hl1]
     split
     ·rename_i h3
      by_cases hja : j = a - 1
      ·subst hja
       rw [List.getElem?_set_self (by omega), if_pos ⟨h3, rfl⟩]
      ·rw [List.getElem?_set_ne (Ne.symm hja), if_neg (fun e => hja e.2), List.getElem?_eq_getElem hj, List.getD_eq_getElem?_getD, List.getElem?_eq_getElem hj]; rfl
     ·rename_i h3
      rw [if_neg (fun e => h3 e.1), List.getElem?_eq_getElem hj, List.getD_eq_getElem?_getD, List.getElem?_eq_getElem hj]; rfl
    have lw : (l2.take a).length = a := by rw [List.length_take]; omega
    rcases Nat.lt_or_ge j a with hja | hja
    ·rw [List.append_assoc, List.getElem?_append_left (by omega), List.getElem?_take, if_pos hja]
     have e : l2[j]? = l1[j]? := by
      rw [hl2]; split
      ·exact List.getElem?_set_ne (by omega)
      ·rfl
     have hp0 : ¬ (a ≤ j ∧ j < a + p.length) := by omega
     rw [e, g1 j hj (by omega), pc, if_neg hp0]
     congr 1
     by_cases hc : kd l a = 3 ∧ j = a - 1
     ·rw [if_pos hc, if_pos]
      have h4 := hs.three hc.1
      simp only [tch, Bool.or_eq_true, Bool.and_eq_true, decide_eq_true_eq]
      refine .inl (.inr ⟨⟨?_, ?_⟩, ?_⟩)
      ·rw [hc.2]; exact h4.2
      ·omega
      ·omega
     ·rw [if_neg hc, if_neg]
      simp only [tch, Bool.or_eq_true, Bool.and_eq_true, decide_eq_true_eq, not_or, not_and]
      refine ⟨⟨fun h => by omega, fun h2 => ?_⟩, fun h => by omega⟩
      have h3 := hs.two h2.1
      have : j + 1 = a := by omega
      rw [this] at h3
      exact absurd ⟨h3, by omega⟩ hc
    ·rcases Nat.lt_or_ge j (a + p.length) with hjn | hjn
     ·rw [List.append_assoc, List.getElem?_append_right (by omega), List.getElem?_append_left (by omega), lw, pc, if_pos ⟨hja, hjn⟩, List.getD_eq_getElem?_getD, List.getElem?_eq_getElem (by omega)]
      rfl
     ·rw [List.getElem?_append_right (by rw [List.length_append]; omega), List.getElem?_drop, List.length_append, lw, show a + p.length + (j - (a + p.length)) = j by omega]
      rw [pc, if_neg (by omega)]
      by_cases hc : kd l (a + p.length) = 3 ∧ j = a + p.length
      ·rw [hl2, if_pos hc.1, hc.2, List.getElem?_set_self (by omega), if_pos]
       simp only [tch, Bool.or_eq_true, Bool.and_eq_true, decide_eq_true_eq]
       exact .inr ⟨⟨hc.1, by omega⟩, by omega⟩
      ·have e : l2[j]? = some (l.getD j bl) := by
        have e2 : l1[j]? = some (l.getD j bl) := by
         rw [hl1]; split
         ·rw [List.getElem?_set_ne (by omega), List.getD_eq_getElem?_getD, List.getElem?_eq_getElem hj]; rfl
         ·rw [List.getD_eq_getElem?_getD, List.getElem?_eq_getElem hj]; rfl
        rw [hl2]; split
        ·rename_i h3
         rw [List.getElem?_set_ne (fun e => hc ⟨h3, e.symm⟩), e2]
        ·exact e2
       rw [e, if_neg]
       simp only [tch, Bool.or_eq_true, Bool.and_eq_true, decide_eq_true_eq, not_or, not_and]
       refine ⟨⟨fun h => by omega, fun h => by omega⟩, fun h2 => ?_⟩
       intro h4
       have : j = a + p.length := by omega
       exact hc ⟨by rw [← this]; exact h2.1, this⟩
   ·rw [List.getElem?_eq_none (l := pl l a p) (by rw [pl_len]; exact hj), List.getElem?_eq_none (by simp only [List.length_append, List.length_take, List.length_drop]; omega)]
  ·
   rw [hw2, pw, Bool.and_assoc]
   congr 1
   rw [← Bool.not_or]
   congr 1
   have h2 : kd l (l.length - 1) ≠ 2 := fun h2 => by
    have := hs.two h2
    rw [show l.length - 1 + 1 = l.length by omega, kd_out (Nat.le_refl _)] at this
    cases this
   rw [Bool.eq_iff_iff]
   simp only [tch, Bool.or_eq_true, Bool.and_eq_true, decide_eq_true_eq]
   constructor
   ·rintro (⟨h3, h4⟩ | h4)
    ·refine ⟨by omega, .inr ⟨⟨?_, by omega⟩, by omega⟩⟩
     rw [show l.length - 1 = a + p.length by omega]; exact h3
    ·exact ⟨by omega, .inl (.inl ⟨by omega, by omega⟩)⟩
   ·rintro ⟨h0, (⟨h3, h4⟩ | ⟨⟨h3, _⟩, _⟩) | ⟨⟨h3, h4⟩, h5⟩⟩
    ·exact .inr (by omega)
    ·exact absurd h3 h2
    ·by_cases hx : a + p.length = l.length
     ·exact .inr hx
     ·have : l.length - 1 = a + p.length := by omega
      exact .inl ⟨by rw [← this]; exact h3, by omega⟩
 ·rintro st ⟨i, rfl, hi⟩
  rcases Nat.lt_or_ge i p.length with hlt | hge
  ·refine .inl ⟨_, ?_, ⟨i + 1, rfl, hlt⟩, by simp; omega⟩
   have e3 : w64 ((i : Int) + 1) = ((i + 1 : Nat) : Int) := by rw [w64_in (by omega)]; simp
   have e4 : w64 ((a : Int) + (i : Int)) = ((a + i : Nat) : Int) := by rw [w64_in (by omega)]; simp
   have hd : decide ((i : Int) < (p.length : Int)) = true := by simp; exact hlt
   have hli : (l2.take a ++ p.take i ++ l2.drop (a + i)).length = l.length := by
    simp only [List.length_append, List.length_take, List.length_drop]; omega
   simp only [hd, if_true, idx_at hlt, bsm, e3, e4]
   rw [row_put (sr_get hk) (by rw [hli]; omega) (by rw [hli]; omega) (hp.sht i hlt)]
   simp only [bsm, sr_sr, hli]
   have hset : (l2.take a ++ p.take i ++ l2.drop (a + i)).set (a + i) p[i] = l2.take a ++ p.take (i + 1) ++ l2.drop (a + (i + 1)) := by
    have hx : (l2.take a ++ p.take i).length = a + i := by simp only [List.length_append, List.length_take]; omega
    rw [List.set_append_right _ _ (by omega), hx, Nat.sub_self, List.drop_eq_getElem_cons (show a + i < l2.length by omega), List.set_cons_zero, List.take_succ_eq_append_getElem hlt]
    simp only [List.append_assoc, List.cons_append, List.nil_append, Nat.add_assoc]
   rw [hset]
   have hwe : ((w2 && !(decide (0 < i) && decide (a + i = l.length))) && !decide (a + i + 1 = l.length)) = (w2 && !(decide (0 < i + 1) && decide (a + (i + 1) = l.length))) := by
    have : decide (a + i = l.length) = false := by simp; omega
    rw [this]
    simp [Nat.add_assoc]
   rw [hwe]
  ·obtain rfl : i = p.length := by omega
   refine .inr ?_
   have : decide (0 < p.length) = true := by simp; omega
   simp [this]
 ·simp
def cl (n : Int) (m : Nat) : Nat := (max 0 (min n m)).toNat
theorem cl_le (n : Int) (m : Nat) : cl n m ≤ m := by unfold cl; omega
end Go.Proofs.YthokmpbbkpjhbaaGreatDoor
namespace Go.Proofs.YthokmpbbkpjhbaaGreatDoor
open Go Go.Lt
variable {s : Sto} {g k W : Nat} {ks : List Nat} {l p : List G_api_Cell} {w : Bool}
def Sto.sg (s : Sto) (g : Nat) (x : G_grid_Grid) : Sto := { s with grid_Grid := s.grid_Grid.set g x }
theorem set_grid {x : G_grid_Grid} (h : g < s.grid_Grid.length) : s.set_grid_Grid g x = some (s.sg g x) := by
 simp only [Sto.set_grid_Grid, h, if_true]
 rfl
theorem sg_get {x : G_grid_Grid} (h : g < s.grid_Grid.length) : (s.sg g x).grid_Grid[g]? = some x := by simp [Sto.sg, h]
theorem sg_sg (s : Sto) (g : Nat) (x y : G_grid_Grid) : (s.sg g x).sg g y = s.sg g y := by simp [Sto.sg]
theorem sg_id {x : G_grid_Grid} (h : s.grid_Grid[g]? = some x) : s.sg g x = s := by
 obtain ⟨h1, h2⟩ := List.getElem?_eq_some_iff.1 h
 unfold Sto.sg
 rw [← h2, List.set_getElem_self]
def ln (s : Sto) (k : Nat) : G_api_Line := match s.row_Row[k]? with | some r => ⟨r.cells, r.wrap⟩ | none => ⟨[], false⟩
theorem ln_eq {r : G_row_Row} (h : s.row_Row[k]? = some r) : ln s k = ⟨r.cells, r.wrap⟩ := by simp [ln, h]
def Rw (s : Sto) (W k : Nat) : Prop := ∃ r, s.row_Row[k]? = some r ∧ Snd r.cells ∧ r.cells.length = W
structure Gw (s : Sto) (g : Nat) (ks : List Nat) (W : Nat) : Prop where
 g : s.grid_Grid[g]? = some ⟨ks.map some⟩
 r : ∀ k ∈ ks, Rw s W k
 h1 : 1 ≤ ks.length
 h2 : ks.length ≤ 1024
 w1 : 1 ≤ W
 w2 : W ≤ 1024
theorem Gw.at (h : Gw s g ks W) {i : Nat} (hi : i < ks.length) : Rw s W ks[i] := h.r _ (List.getElem_mem hi)
theorem grid_high (h : Gw s g ks W) : f_grid_Grid_High s (some g) = some (ks.length : Int) := by simp [f_grid_Grid_High, h.g]
theorem grid_row (h : Gw s g ks W) {i : Nat} (hi : i < ks.length) : f_grid_Grid_Row s (some g) i = some (some ks[i]) := by
 unfold f_grid_Grid_Row
 rw [grid_high h]
 simp only [bsm, orE_some]
 rw [if_neg (by simp; omega)]
 simp only [bsm, h.g]
 rw [idx_at (by simpa using hi)]
 simp
theorem grid_row_out (h : Gw s g ks W) {i : Int} (hi : i < 0 ∨ (ks.length : Int) ≤ i) : f_grid_Grid_Row s (some g) i = some none := by
 unfold f_grid_Grid_Row
 rw [grid_high h]
 simp only [bsm, orE_some]
 rw [if_pos (by simp; omega)]
theorem wide_of (h : Rw s W k) : f_row_Row_Wide s (some k) = some (W : Int) := by
 obtain ⟨r, h1, _, h3⟩ := h
 rw [row_wide (l := r.cells) (w := r.wrap) h1, h3]
theorem grid_wide (h : Gw s g ks W) : f_grid_Grid_Wide s (some g) = some (W : Int) := by
 unfold f_grid_Grid_Wide
 rw [show (0 : Int) = ((0 : Nat) : Int) from rfl, grid_row h (show 0 < ks.length from h.h1)]
 simp only [bsm]
 rw [wide_of (h.at h.h1)]
 rfl
theorem grid_set (h : Gw s g ks W) {i : Nat} (hi : i < ks.length) (hk : Rw s W k) : f_grid_Grid_Set s (some g) i (some k) = some (s.sg g ⟨(ks.set i k).map some⟩, true) := by
 unfold f_grid_Grid_Set
 rw [grid_row h hi]
 simp only [bsm, wide_of (h.at hi), wide_of hk, Option.isNone_some, orE_false]
 rw [if_neg (by simp)]
 simp only [h.g, bsm]
 rw [idx_at (by simpa using hi), sets_nat (by simpa using hi)]
 simp only [bsm]
 rw [set_grid (get_lt h.g)]
 simp
theorem Gw.set (h : Gw s g ks W) {i : Nat} (hk : Rw s W k) : Gw (s.sg g ⟨(ks.set i k).map some⟩) g (ks.set i k) W :=
 ⟨sg_get (get_lt h.g), fun j hj => by
  rcases List.mem_or_eq_of_mem_set hj with hj | rfl
  ·exact h.r j hj
  ·exact hk, by simpa using h.h1, by simpa using h.h2, h.w1, h.w2⟩
theorem grid_lines (h : Gw s g ks W) : f_grid_Grid_Lines s (some g) = some (ks.map (ln s)) := by
 have hh := h.h2
 have hw := h.w2
 unfold f_grid_Grid_Lines
 rw [grid_high h]
 simp only [bsm]
 obtain ⟨t, h1, h2⟩ := iter_for (σ := (List G_api_Line) × Int) (τ := List G_api_Line) (n := ks.length) (fuel := ((ks.length : Int) - 0).toNat + 1) (s := (([] : List G_api_Line), 0))
  (fun i q => q = ((ks.take i).map (ln s), (i : Int))) (fun t => t = ks.map (ln s))
  (step := fun s_9 =>
 if (decide (s_9.2 < (ks.length : Int))) = true then
 (s.grid_Grid[g]?).bind fun o_19 =>
 (idx o_19.rows s_9.2).bind fun x_21 =>
 (idx o_19.rows s_9.2).bind fun x_28 =>
 (f_row_Row_Cells s x_21).bind fun x_30 =>
 (f_row_Row_Wrap s x_28).bind fun x_31 =>
 (app s_9.1 ([(⟨x_30, x_31⟩ : G_api_Line)] : List G_api_Line)).bind fun x_34 =>
 some (.inl (x_34, (w64 (s_9.2 + 1))))
 else
 some (.inr (s_9.1)))
  (fun i q hi e => by
   subst e
   refine .inl ⟨_, ?_, rfl⟩
   obtain ⟨r, r1, r2, r3⟩ := h.at hi
   have e5 : w64 ((i : Int) + 1) = ((i + 1 : Nat) : Int) := by rw [w64_in (by omega)]; simp
   have hd : decide ((i : Int) < (ks.length : Int)) = true := by simp; exact hi
   have hi2 : i < (ks.map some).length := by simpa using hi
   simp only [hd, if_true, bsm, h.g, idx_at hi2, List.getElem_map, e5]
   rw [row_cells (l := r.cells) (w := r.wrap) r1 (by omega) r2.sht, row_wrap (l := r.cells) (w := r.wrap) r1]
   simp only [bsm]
   rw [app_eq (by simp; omega)]
   simp only [bsm]
   rw [List.take_succ_eq_append_getElem hi, List.map_append]
   simp [ln_eq r1])
  (fun q e => ⟨_, by subst e; simp, rfl⟩)
  (by simp) (by omega)
 subst h2
 rw [h1]
 rfl
def Okl (W : Nat) (x : G_api_Line) : Prop := Snd x.Cells ∧ x.Cells.length = W
theorem lines_self {a : List G_api_Line} (ha : a.length ≤ 1000000) (hs : ∀ x ∈ a, x.Cells.length ≤ 1000000 ∧ Sht x.Cells) : f_linotyperef32_Same a a = some true := by
 unfold f_linotyperef32_Same
 rw [if_neg (by simp)]
 obtain ⟨t, h1, h2⟩ := iter_for (σ := Int) (τ := Bool ⊕ Unit) (n := a.length) (fuel := ((a.length : Int) - 0).toNat + 1) (s := 0)
  (fun i q => q = (i : Int)) (fun t => t = .inr ())
  (step := fun s_13 =>
 if (decide (s_13 < (a.length : Int))) = true then
 (idx a s_13).bind fun x_21 =>
 (idx a s_13).bind fun x_26 =>
 (orE (!(x_21.Wrap == x_26.Wrap)) ((idx a s_13).bind fun x_34 =>
 (idx a s_13).bind fun x_39 =>
 (f_linotyperef23_Same x_34.Cells x_39.Cells).bind fun x_42 =>
 some (!x_42))).bind fun d_30 =>
 if d_30 = true then
 some (.inr (.inl false))
 else
 some (.inl ((w64 (s_13 + 1))))
 else
 some (.inr (.inr ())))
  (fun i q hi e => by
   subst e
   refine .inl ⟨_, ?_, rfl⟩
   have hm := hs _ (List.getElem_mem hi)
   have e5 : w64 ((i : Int) + 1) = ((i + 1 : Nat) : Int) := by rw [w64_in (by omega)]; simp
   have hd : decide ((i : Int) < (a.length : Int)) = true := by simp; exact hi
   simp only [hd, if_true, idx_at hi, bsm, e5, same_self (show a[i].Cells.length ≤ 9223372036854775807 by omega) hm.2, beq_self_eq_true, Bool.not_true, orE_false, Bool.false_eq_true, if_false])
  (fun q e => ⟨_, by subst e; simp, rfl⟩)
  rfl (by omega)
 subst h2
 rw [h1]
 rfl
theorem grid_lines_ok (h : Gw s g ks W) : ∀ x ∈ ks.map (ln s), Okl W x := fun x hx => by
 obtain ⟨k, hk, rfl⟩ := List.mem_map.1 hx
 obtain ⟨r, r1, r2, r3⟩ := h.r k hk
 rw [ln_eq r1]
 exact ⟨r2, r3⟩
theorem same_lines {a : List G_api_Line} (ha : a.length ≤ 1024) (hw : W ≤ 1024) (hs : ∀ x ∈ a, Okl W x) : f_linotyperef32_Same a a = some true :=
 lines_self (by omega) fun x hx => ⟨by rw [(hs x hx).2]; omega, (hs x hx).1.sht⟩
theorem sto_eq {a b : Sto} (h1 : a.row_Row = b.row_Row) (h2 : a.grid_Grid = b.grid_Grid) (h3 : { a with row_Row := b.row_Row, grid_Grid := b.grid_Grid } = b) : a = b :=
 Eq.trans (show a = { a with row_Row := b.row_Row, grid_Grid := b.grid_Grid } by rw [← h1, ← h2]) h3
def Sto.rst (s : Sto) : Sto := { s with row_Row := [], grid_Grid := [] }
def Sto.oth (s : Sto) : Sto := { s with row_Row := [], grid_Grid := [], place_Pen := [] }
theorem rst_pen {a b : Sto} (h : a.rst = b.rst) : a.place_Pen = b.place_Pen := by
 have := congrArg Sto.place_Pen h
 exact this
theorem rst_oth {a b : Sto} (h : a.rst = b.rst) : a.oth = b.oth := by
 have := congrArg (fun x : Sto => ({ x with place_Pen := [] } : Sto)) h
 exact this
def Sto.addr (s : Sto) (xs : List G_row_Row) : Sto := { s with row_Row := s.row_Row ++ xs }
theorem addr_len (s : Sto) (xs : List G_row_Row) : (s.addr xs).row_Row.length = s.row_Row.length + xs.length := by simp [Sto.addr]
theorem addr_old {xs : List G_row_Row} (h : k < s.row_Row.length) : (s.addr xs).row_Row[k]? = s.row_Row[k]? := List.getElem?_append_left h
theorem addr_new {xs : List G_row_Row} {i : Nat} (h : i < xs.length) : (s.addr xs).row_Row[s.row_Row.length + i]? = some xs[i] := by
 simp [Sto.addr, List.getElem?_append_right, h]
theorem addr_add (s : Sto) (xs : List G_row_Row) (x : G_row_Row) : (s.addr xs).add_row_Row x = s.addr (xs ++ [x]) := by simp [Sto.addr, Sto.add_row_Row]
theorem addr_nil (s : Sto) : s.addr [] = s := by simp [Sto.addr]
theorem Rw.lt (h : Rw s W k) : k < s.row_Row.length := by obtain ⟨r, h, _⟩ := h; exact get_lt h
theorem Rw.addr {xs : List G_row_Row} (h : Rw s W k) : Rw (s.addr xs) W k := by
 obtain ⟨r, h1, h2⟩ := h
 exact ⟨r, by rw [addr_old (get_lt h1)]; exact h1, h2⟩
theorem Gw.addr {xs : List G_row_Row} (h : Gw s g ks W) : Gw (s.addr xs) g ks W := ⟨h.g, fun k hk => (h.r k hk).addr, h.h1, h.h2, h.w1, h.w2⟩
theorem ln_old {xs : List G_row_Row} (h : k < s.row_Row.length) : ln (s.addr xs) k = ln s k := by unfold ln; rw [addr_old h]
theorem ln_new {xs : List G_row_Row} {i : Nat} (h : i < xs.length) : ln (s.addr xs) (s.row_Row.length + i) = ⟨xs[i].cells, xs[i].wrap⟩ := ln_eq (addr_new h)
def lr (x : G_api_Line) : G_row_Row := ⟨x.Cells, x.Wrap⟩
theorem grid_of {L : List G_api_Line} (h1 : 1 ≤ L.length) (h2 : L.length ≤ 1024)
  (hok : ∀ i (h : i < L.length), 1 ≤ L[i].Cells.length ∧ L[i].Cells.length ≤ 1024 ∧ Snd L[i].Cells ∧ L[i].Cells.length = (L[0]'(by omega)).Cells.length) :
  f_grid_Of s L = some ((s.addr (L.map lr)).add_grid_Grid ⟨(List.range' s.row_Row.length L.length).map some⟩, some s.grid_Grid.length, Er.nil) := by
 unfold f_grid_Of
 simp only [orE_some, bsm]
 rw [if_neg (by rw [Bool.or_eq_true, beq_iff_eq, decide_eq_true_eq]; omega)]
 obtain ⟨t, h3, h4⟩ := iter_for (σ := Int × Sto) (τ := (Sto × (Option Nat) × Er) ⊕ Sto) (n := L.length) (fuel := ((L.length : Int) - 0).toNat + 1) (s := (0, s.add_grid_Grid (⟨([] : List (Option Nat))⟩ : G_grid_Grid)))
  (fun i q => q = ((i : Int), (s.addr ((L.take i).map lr)).add_grid_Grid ⟨(List.range' s.row_Row.length i).map some⟩))
  (fun t => t = .inr ((s.addr (L.map lr)).add_grid_Grid ⟨(List.range' s.row_Row.length L.length).map some⟩))
  (step := fun s_25 =>
 if (decide (s_25.1 < (L.length : Int))) = true then
 (idx L s_25.1).bind fun x_29 =>
 (f_row_Of s_25.2 x_29.Cells).bind fun x_37 =>
 ((andE x_37.2.2.isNil ((idx L 0).bind fun x_51 =>
 (f_row_Row_Wide x_37.1 x_37.2.1).bind fun x_55 =>
 some (x_55 != (x_51.Cells.length : Int)))).bind fun d_47 =>
 if d_47 = true then
 (some ((Er.sent 0)) : Option (Er))
 else
 (some (x_37.2.2) : Option (Er))).bind fun z_44 =>
 if (!z_44.isNil) = true then
 (f_api_Wrong s_25.1 z_44).bind fun x_66 =>
 some (.inr (.inl (x_37.1, (none : Option Nat), x_66)))
 else
 (f_row_Row_GoOn x_37.1 x_37.2.1 x_29.Wrap).bind fun x_73 =>
 (x_73.grid_Grid[s.grid_Grid.length]?).bind fun o_79 =>
 (app o_79.rows ([x_37.2.1] : List (Option Nat))).bind fun x_82 =>
 (x_73.set_grid_Grid s.grid_Grid.length (⟨x_82⟩ : G_grid_Grid)).bind fun s_85001 =>
 some (.inl ((w64 (s_25.1 + 1)), s_85001))
 else
 some (.inr (.inr (s_25.2))))
  (fun i q hi e => by
   subst e
   refine .inl ⟨_, ?_, rfl⟩
   obtain ⟨k1, k2, k3, k4⟩ := hok i hi
   have e5 : w64 ((i : Int) + 1) = ((i + 1 : Nat) : Int) := by rw [w64_in (by omega)]; simp
   have hd : decide ((i : Int) < (L.length : Int)) = true := by simp; exact hi
   have h0 : idx L (0 : Int) = some (L[0]'(by omega)) := idx_at (i := 0) (by omega)
   simp only [hd, if_true, idx_at hi, bsm]
   rw [row_of k1 k2 k3]
   simp only [bsm, Er.isNil, andE_true, h0]
   rw [row_wide (add_get _ _)]
   simp only [bsm, k4, bne_self_eq_false, Bool.false_eq_true, if_false, Bool.not_true]
   rw [row_goon (add_get _ _), add_sr]
   simp only [bsm]
   have hg : (((s.addr ((L.take i).map lr)).add_grid_Grid ⟨(List.range' s.row_Row.length i).map some⟩).add_row_Row ⟨L[i].Cells, L[i].Wrap⟩).grid_Grid[s.grid_Grid.length]? = some ⟨(List.range' s.row_Row.length i).map some⟩ := by
    simp [Sto.add_grid_Grid, Sto.add_row_Row, Sto.addr]
   rw [hg]
   simp only [bsm]
   rw [app_eq (by simp; omega)]
   simp only [bsm]
   rw [set_grid (get_lt hg), e5]
   simp only [bsm]
   congr 4
   refine sto_eq ?_ ?_ rfl
   ·simp only [Sto.sg, Sto.add_grid_Grid, Sto.add_row_Row, Sto.addr]
    rw [List.take_succ_eq_append_getElem hi, List.map_append, List.append_assoc]
    rfl
   ·simp only [Sto.sg, Sto.add_grid_Grid, Sto.add_row_Row, Sto.addr]
    rw [List.set_append_right _ _ (Nat.le_refl _), Nat.sub_self, List.set_cons_zero, List.range'_concat, List.map_append]
    simp [Sto.add_grid_Grid, Sto.add_row_Row, Sto.addr]
    exact Nat.min_eq_left (Nat.le_of_lt hi))
  (fun q e => ⟨_, by subst e; simp, rfl⟩)
  (by simp [addr_nil]) (by omega)
 subst h4
 rw [h3]
 rfl
theorem gw_of {L : List G_api_Line} (h1 : 1 ≤ L.length) (h2 : L.length ≤ 1024)
  (hok : ∀ i (h : i < L.length), 1 ≤ L[i].Cells.length ∧ L[i].Cells.length ≤ 1024 ∧ Snd L[i].Cells ∧ L[i].Cells.length = (L[0]'(by omega)).Cells.length) :
  Gw ((s.addr (L.map lr)).add_grid_Grid ⟨(List.range' s.row_Row.length L.length).map some⟩) s.grid_Grid.length (List.range' s.row_Row.length L.length) (L[0]'(by omega)).Cells.length ∧
   (List.range' s.row_Row.length L.length).map (ln ((s.addr (L.map lr)).add_grid_Grid ⟨(List.range' s.row_Row.length L.length).map some⟩)) = L := by
 have hr : ∀ i (h : i < L.length), ((s.addr (L.map lr)).add_grid_Grid ⟨(List.range' s.row_Row.length L.length).map some⟩).row_Row[s.row_Row.length + i]? = some (lr L[i]) := fun i h => by
  have := addr_new (s := s) (xs := L.map lr) (i := i) (by simpa using h)
  rw [List.getElem_map] at this
  exact this
 refine ⟨⟨by simp [Sto.add_grid_Grid, Sto.addr], fun k hk => ?_, by simpa using h1, by simpa using h2, (hok 0 (by omega)).1, (hok 0 (by omega)).2.1⟩, ?_⟩
 ·rw [List.mem_range'_1] at hk
  have hi : k - s.row_Row.length < L.length := by omega
  have := hr _ hi
  rw [show s.row_Row.length + (k - s.row_Row.length) = k by omega] at this
  exact ⟨_, this, (hok _ hi).2.2.1, (hok _ hi).2.2.2⟩
 ·refine List.ext_getElem (by simp) fun i h1 h2 => ?_
  rw [List.getElem_map, List.getElem_range', Nat.one_mul, ln_eq (hr i h2)]
  rfl
theorem icl (a : Int) (m : Nat) : imax 0 (imin a (m : Int)) = ((cl a m : Nat) : Int) := by simp only [imax_eq, imin_eq, cl]; omega
theorem scroll_of (h : Gw s g ks W) (a b n : Int) : f_scroll_of s (some g) a b n = some (⟨(cl a ks.length : Nat), (cl b ks.length : Nat), min n ((cl b ks.length : Int) - (cl a ks.length : Int))⟩, decide (cl a ks.length < cl b ks.length) && decide (0 < n)) := by
 have h1 := cl_le a ks.length
 have h2 := cl_le b ks.length
 have hh := h.h2
 unfold f_scroll_of
 rw [grid_high h]
 simp only [bsm, icl, andE_some]
 rw [imin_eq, w64_in (by omega)]
 simp
theorem scroll_rows (h : Gw s g ks W) {a b : Nat} (hab : a ≤ b) (hb : b ≤ ks.length) : f_scroll_rows s (some g) a b = some (((ks.drop a).take (b - a)).map some) := by
 have hh := h.h2
 unfold f_scroll_rows
 obtain ⟨t, h1, h2⟩ := iter_for (σ := (List (Option Nat)) × Int) (τ := List (Option Nat)) (n := b - a) (fuel := ((b : Int) - (a : Int)).toNat + 1) (s := (([] : List (Option Nat)), (a : Int)))
  (fun i q => q = (((ks.drop a).take i).map some, ((a + i : Nat) : Int))) (fun t => t = ((ks.drop a).take (b - a)).map some)
  (step := fun s_8 =>
 if (decide (s_8.2 < (b : Int))) = true then
 (f_grid_Grid_Row s (some g) s_8.2).bind fun x_16 =>
 (app s_8.1 ([x_16] : List (Option Nat))).bind fun x_18 =>
 some (.inl (x_18, (w64 (s_8.2 + 1))))
 else
 some (.inr (s_8.1)))
  (fun i q hi e => by
   subst e
   refine .inl ⟨_, ?_, rfl⟩
   have e5 : w64 (((a + i : Nat) : Int) + 1) = ((a + (i + 1) : Nat) : Int) := by rw [w64_in (by omega)]; simp; omega
   have hd : decide (((a + i : Nat) : Int) < (b : Int)) = true := by simp; omega
   simp only [hd, if_true]
   rw [grid_row h (show a + i < ks.length by omega)]
   simp only [bsm, e5]
   rw [app_eq (by simp; omega)]
   simp only [bsm]
   rw [List.take_succ_eq_append_getElem (by simp; omega), List.map_append]
   simp)
  (fun q e => by
   subst e
   have hd : decide (((a + (b - a) : Nat) : Int) < (b : Int)) = false := by simp; omega
   exact ⟨_, by simp only [hd]; rfl, rfl⟩)
  (by simp) (by omega)
 subst h2
 rw [h1]
 rfl
def bk (W : Nat) : G_row_Row := ⟨List.replicate W bl, false⟩
theorem scroll_blanks (h : Gw s g ks W) {n : Nat} (hn : n ≤ 1024) : f_scroll_blanks s (some g) n = some (s.addr (List.replicate n (bk W)), (List.range' s.row_Row.length n).map some) := by
 unfold f_scroll_blanks
 obtain ⟨t, h1, h2⟩ := iter_for (σ := (List (Option Nat)) × Int × Sto) (τ := (List (Option Nat)) × Sto) (n := n) (fuel := ((n : Int) - 0).toNat + 1) (s := (([] : List (Option Nat)), 0, s))
  (fun i q => q = ((List.range' s.row_Row.length i).map some, (i : Int), s.addr (List.replicate i (bk W)))) (fun t => t = ((List.range' s.row_Row.length n).map some, s.addr (List.replicate n (bk W))))
  (step := fun s_8 =>
 if (decide (s_8.2.1 < (n : Int))) = true then
 (f_grid_Grid_Wide s_8.2.2 (some g)).bind fun x_13 =>
 (f_row_New s_8.2.2 x_13).bind fun x_14 =>
 (app s_8.1 ([x_14.2] : List (Option Nat))).bind fun x_16 =>
 some (.inl (x_16, (w64 (s_8.2.1 + 1)), x_14.1))
 else
 some (.inr (s_8.1, s_8.2.2)))
  (fun i q hi e => by
   subst e
   refine .inl ⟨_, ?_, rfl⟩
   have e5 : w64 ((i : Int) + 1) = ((i + 1 : Nat) : Int) := by rw [w64_in (by omega)]; simp
   have hd : decide ((i : Int) < (n : Int)) = true := by simp; exact hi
   simp only [hd, if_true]
   rw [grid_wide (h.addr (xs := List.replicate i (bk W)))]
   simp only [bsm, row_new, sd_id h.w1 h.w2, e5]
   rw [app_eq (by simp; omega)]
   simp only [bsm]
   rw [addr_add, addr_len, List.range'_concat, List.map_append, List.replicate_succ']
   simp [bk])
  (fun q e => ⟨_, by subst e; simp, rfl⟩)
  (by simp [addr_nil]) (by omega)
 subst h2
 rw [h1]
 rfl
def ov (ks : List Nat) (F : Nat) (p : List Nat) : List Nat := ks.take F ++ p ++ ks.drop (F + p.length)
theorem ov_len {F : Nat} {p : List Nat} (h : F + p.length ≤ ks.length) : (ov ks F p).length = ks.length := by simp [ov]; omega
theorem ov_set {F i : Nat} {p : List Nat} (h : F + p.length ≤ ks.length) (hi : i < p.length) : (ov ks F (p.take i)).set (F + i) p[i] = ov ks F (p.take (i + 1)) := by
 unfold ov
 have h1 : (ks.take F ++ p.take i).length = F + i := by simp; omega
 rw [List.set_append_right _ _ (by omega), h1, Nat.sub_self, List.length_take, List.length_take, Nat.min_eq_left (Nat.le_of_lt hi), Nat.min_eq_left (show i + 1 ≤ p.length by omega), List.drop_eq_getElem_cons (show F + i < ks.length by omega), List.set_cons_zero, List.take_succ_eq_append_getElem hi]
 simp only [List.append_assoc, List.cons_append, List.nil_append, Nat.add_assoc]
def off (s : Sto) (k : Nat) : Sto := s.sr k ⟨(ln s k).Cells, false⟩
theorem goon_off (h : Rw s W k) : f_row_Row_GoOn s (some k) false = some (off s k) := by
 obtain ⟨r, h1, _⟩ := h
 rw [row_goon (l := r.cells) (w := r.wrap) h1]
 unfold off
 rw [ln_eq h1]
theorem Rw.off {j : Nat} (h : Rw s W j) (hk : Rw s W k) : Rw (off s k) W j := by
 obtain ⟨r, h1, h2, h3⟩ := h
 obtain ⟨q, k1, k2, k3⟩ := hk
 by_cases e : k = j
 ·subst e
  exact ⟨_, sr_get (get_lt k1), by rw [ln_eq k1]; exact ⟨k2, k3⟩⟩
 ·exact ⟨r, (sr_ne e).trans h1, h2, h3⟩
theorem Gw.off (h : Gw s g ks W) (hk : Rw s W k) : Gw (off s k) g ks W := ⟨h.g, fun j hj => (h.r j hj).off hk, h.h1, h.h2, h.w1, h.w2⟩
theorem ln_off {j : Nat} (hk : Rw s W k) : ln (off s k) j = if j = k then ⟨(ln s k).Cells, false⟩ else ln s j := by
 by_cases e : k = j
 ·subst e
  rw [if_pos rfl]
  exact ln_eq (sr_get hk.lt)
 ·rw [if_neg (Ne.symm e)]
  unfold ln
  rw [show (Go.Proofs.YthokmpbbkpjhbaaGreatDoor.off s k).row_Row[j]? = s.row_Row[j]? from sr_ne e]
theorem ln_sg (x : G_grid_Grid) (j : Nat) : ln (s.sg g x) j = ln s j := rfl
def offa (s : Sto) (ks : List Nat) (F : Nat) : Sto := if F = 0 then s else off s (ks.getD (F - 1) 0)
theorem scroll_lay (h : Gw s g ks W) {F : Nat} {p : List Nat} (hp : F + p.length ≤ ks.length) (hr : ∀ k ∈ p, Rw s W k) (st : G_scroll_stretch) (hF : st.from_ = (F : Int)) :
  f_scroll_stretch_lay s st (some g) (p.map some) = some (offa (s.sg g ⟨(ov ks F p).map some⟩) (ov ks F p) F) ∧ Gw (s.sg g ⟨(ov ks F p).map some⟩) g (ov ks F p) W := by
 have hh := h.h2
 have key : ∀ i, i ≤ p.length → Gw (s.sg g ⟨(ov ks F (p.take i)).map some⟩) g (ov ks F (p.take i)) W := fun i hi =>
  ⟨sg_get (get_lt h.g), fun k hk => by
   unfold ov at hk
   rw [List.mem_append, List.mem_append] at hk
   rcases hk with (hk | hk) | hk
   ·exact h.r k (List.mem_of_mem_take hk)
   ·exact hr k (List.mem_of_mem_take hk)
   ·exact h.r k (List.mem_of_mem_drop hk), by rw [ov_len (by simp; omega)]; exact h.h1, by rw [ov_len (by simp; omega)]; exact h.h2, h.w1, h.w2⟩
 have kend := key p.length (Nat.le_refl _)
 rw [List.take_length] at kend
 refine ⟨?_, kend⟩
 unfold f_scroll_stretch_lay
 rw [hF]
 obtain ⟨t, h1, h2⟩ := iter_for (σ := Int × Sto) (τ := Sto) (n := p.length) (fuel := (((p.map some).length : Int) - 0).toNat + 1) (s := ((0 : Int), s))
  (fun i q => q = ((i : Int), s.sg g ⟨(ov ks F (p.take i)).map some⟩)) (fun t => t = s.sg g ⟨(ov ks F p).map some⟩)
  (step := fun s_7 =>
 if (decide (s_7.1 < ((p.map some).length : Int))) = true then
 (idx (p.map some) s_7.1).bind fun x_11 =>
 (f_grid_Grid_Set s_7.2 (some g) (w64 ((F : Int) + s_7.1)) x_11).bind fun x_22 =>
 some (.inl ((w64 (s_7.1 + 1)), x_22.1))
 else
 some (.inr (s_7.2)))
  (fun i q hi e => by
   subst e
   refine .inl ⟨_, ?_, rfl⟩
   have e5 : w64 ((i : Int) + 1) = ((i + 1 : Nat) : Int) := by rw [w64_in (by omega)]; simp
   have e6 : w64 ((F : Int) + (i : Int)) = ((F + i : Nat) : Int) := by rw [w64_in (by omega)]; simp
   have hd : decide ((i : Int) < ((p.map some).length : Int)) = true := by simp; exact hi
   have hi2 : i < (p.map some).length := by simpa using hi
   have hk := key i (Nat.le_of_lt hi)
   simp only [hd, if_true, idx_at hi2, bsm, List.getElem_map, e5, e6]
   have hl : (ov ks F (p.take i)).length = ks.length := ov_len (by simp; omega)
   rw [grid_set hk (show F + i < (ov ks F (p.take i)).length by omega) (hr _ (List.getElem_mem hi))]
   simp only [bsm]
   rw [ov_set hp hi, sg_sg])
  (fun q e => by
   subst e
   rw [List.take_length]
   exact ⟨_, by simp, rfl⟩)
  (by
   simp only [List.take_zero, Prod.mk.injEq]
   refine ⟨rfl, (sg_id ?_).symm⟩
   rw [h.g]
   simp [ov]) (by simp)
 subst h2
 rw [h1]
 simp only [bsm]
 unfold offa
 by_cases h0 : F = 0
 ·subst h0
  rw [if_pos rfl, grid_row_out kend (by left; rw [w64_in (by omega)]; omega)]
  rfl
 ·have e7 : w64 ((F : Int) - 1) = ((F - 1 : Nat) : Int) := by rw [w64_in (by omega)]; omega
  have hl : (ov ks F p).length = ks.length := ov_len hp
  have hlt : F - 1 < (ov ks F p).length := by omega
  rw [if_neg h0, e7, grid_row kend hlt]
  simp only [bsm]
  rw [goon_off (kend.at hlt), List.getD_eq_getElem?_getD, List.getElem?_eq_getElem hlt]
  rfl
def dl : G_api_Line := ⟨[], false⟩
def mvb (W : Nat) (L : List G_api_Line) (F T m : Nat) (up : Bool) (i : Nat) : G_api_Line :=
 if F ≤ i ∧ i < T then (if up = true then (if i + m < T then L.getD (i + m) dl else ⟨List.replicate W bl, false⟩) else (if F + m ≤ i then L.getD (i - m) dl else ⟨List.replicate W bl, false⟩)) else L.getD i dl
def mvl (W : Nat) (L : List G_api_Line) (F T m : Nat) (up : Bool) (i : Nat) : G_api_Line :=
 if i + 1 = F ∨ (up = false ∧ i + 1 = T) then ⟨(mvb W L F T m up i).Cells, false⟩ else mvb W L F T m up i
def mv (W : Nat) (L : List G_api_Line) (F T : Nat) (n : Int) (up : Bool) : List G_api_Line :=
 if F < T ∧ 0 < n then (List.range L.length).map (mvl W L F T (min n ((T : Int) - (F : Int))).toNat up) else L
theorem gd {i : Nat} (h : i < ks.length) : ks.getD i 0 = ks[i] := by rw [List.getD_eq_getElem?_getD, List.getElem?_eq_getElem h]; rfl
theorem gdl {L : List G_api_Line} {i : Nat} (h : i < L.length) : L.getD i dl = L[i] := by rw [List.getD_eq_getElem?_getD, List.getElem?_eq_getElem h]; rfl
theorem nd_ne (nd : ks.Nodup) {i j : Nat} (hj : j < ks.length) (hij : i < j) : ks.getD i 0 ≠ ks.getD j 0 := by
 rw [gd hj, gd (Nat.lt_trans hij hj)]
 exact List.pairwise_iff_getElem.1 nd i j _ _ hij
theorem nd_map {h : Nat} {f : Nat → Nat} (hf : ∀ i j, i < j → j < h → f i ≠ f j) : ((List.range h).map f).Nodup := by
 rw [List.Nodup, List.pairwise_map]
 exact List.pairwise_lt_range.imp_of_mem fun _ hb hlt => hf _ _ hlt (List.mem_range.1 hb)
def kfu (ks : List Nat) (N F T m i : Nat) : Nat := if i < F ∨ T ≤ i then ks.getD i 0 else if i + m < T then ks.getD (i + m) 0 else N + (i + m - T)
def kfd (ks : List Nat) (N F T m i : Nat) : Nat := if i < F ∨ T ≤ i then ks.getD i 0 else if i < F + m then N + (i - F) else ks.getD (i - m) 0
theorem ov_up {F T m : Nat} (N : Nat) (h1 : F + m ≤ T) (h2 : T ≤ ks.length) : ov ks F ((ks.drop (F + m)).take (T - (F + m)) ++ List.range' N m) = (List.range ks.length).map (kfu ks N F T m) := by
 refine List.ext_getElem? fun i => ?_
 rcases Nat.lt_or_ge i ks.length with hi | hi
 ·rw [List.getElem?_map, List.getElem?_range hi, Option.map_some]
  have e : ((ks.drop (F + m)).take (T - (F + m)) ++ List.range' N m).length = T - F := by simp; omega
  have et : (ks.take F).length = F := by simp; omega
  have ex : ((ks.drop (F + m)).take (T - (F + m))).length = T - (F + m) := by simp; omega
  unfold ov
  rw [e, List.append_assoc, List.getElem?_append, et]
  unfold kfu
  by_cases c1 : i < F
  ·rw [if_pos c1, if_pos (Or.inl c1), List.getElem?_take, if_pos c1, gd hi, List.getElem?_eq_getElem hi]
  ·rw [if_neg c1, List.getElem?_append, e]
   by_cases c2 : T ≤ i
   ·rw [if_neg (by omega), if_pos (Or.inr c2), List.getElem?_drop, show F + (T - F) + (i - F - (T - F)) = i by omega, gd hi, List.getElem?_eq_getElem hi]
   ·rw [if_pos (by omega), if_neg (by omega), List.getElem?_append, ex]
    by_cases c3 : i + m < T
    ·rw [if_pos (by omega), if_pos c3, List.getElem?_take, if_pos (by omega), List.getElem?_drop, show F + m + (i - F) = i + m by omega, gd (by omega), List.getElem?_eq_getElem (by omega)]
    ·rw [if_neg (by omega), if_neg c3, List.getElem?_range' (by omega), Nat.one_mul]
     congr 1
     omega
 ·rw [List.getElem?_eq_none (by rw [ov_len (by simp; omega)]; exact hi), List.getElem?_eq_none (by simpa using hi)]
theorem ov_down {F T m : Nat} (N : Nat) (h1 : F + m ≤ T) (h2 : T ≤ ks.length) : ov ks F (List.range' N m ++ (ks.drop F).take (T - m - F)) = (List.range ks.length).map (kfd ks N F T m) := by
 refine List.ext_getElem? fun i => ?_
 rcases Nat.lt_or_ge i ks.length with hi | hi
 ·rw [List.getElem?_map, List.getElem?_range hi, Option.map_some]
  have e : (List.range' N m ++ (ks.drop F).take (T - m - F)).length = T - F := by simp; omega
  have et : (ks.take F).length = F := by simp; omega
  have ex : (List.range' N m).length = m := by simp
  unfold ov
  rw [e, List.append_assoc, List.getElem?_append, et]
  unfold kfd
  by_cases c1 : i < F
  ·rw [if_pos c1, if_pos (Or.inl c1), List.getElem?_take, if_pos c1, gd hi, List.getElem?_eq_getElem hi]
  ·rw [if_neg c1, List.getElem?_append, e]
   by_cases c2 : T ≤ i
   ·rw [if_neg (by omega), if_pos (Or.inr c2), List.getElem?_drop, show F + (T - F) + (i - F - (T - F)) = i by omega, gd hi, List.getElem?_eq_getElem hi]
   ·rw [if_pos (by omega), if_neg (by omega), List.getElem?_append, ex]
    by_cases c3 : i < F + m
    ·rw [if_pos (by omega), if_pos c3, List.getElem?_range' (by omega), Nat.one_mul]
    ·rw [if_neg (by omega), if_neg c3, List.getElem?_take, if_pos (by omega), List.getElem?_drop, show F + (i - F - m) = i - m by omega, gd (by omega), List.getElem?_eq_getElem (by omega)]
 ·rw [List.getElem?_eq_none (by rw [ov_len (by simp; omega)]; exact hi), List.getElem?_eq_none (by simpa using hi)]
theorem kfu_ne (nd : ks.Nodup) {N F T m : Nat} (hN : ∀ k ∈ ks, k < N) (h1 : F + m ≤ T) (h2 : T ≤ ks.length) (i j : Nat) (hij : i < j) (hj : j < ks.length) : kfu ks N F T m i ≠ kfu ks N F T m j := by
 have lt : ∀ i, i < ks.length → ks.getD i 0 < N := fun i hi => by rw [gd hi]; exact hN _ (List.getElem_mem hi)
 have ne : ∀ a b, a < b → b < ks.length → ks.getD a 0 ≠ ks.getD b 0 := fun a b hab hb => nd_ne nd hb hab
 have ne2 : ∀ a b, b < a → a < ks.length → ks.getD a 0 ≠ ks.getD b 0 := fun a b hab ha => (nd_ne nd ha hab).symm
 unfold kfu
 repeat' split
 all_goals first
  | exact ne _ _ (by omega) (by omega)
  | exact ne2 _ _ (by omega) (by omega)
  | (have := lt i (by omega); omega)
  | (have := lt j (by omega); omega)
  | (have := lt (i + m) (by omega); omega)
  | (have := lt (j + m) (by omega); omega)
  | omega
theorem kfd_ne (nd : ks.Nodup) {N F T m : Nat} (hN : ∀ k ∈ ks, k < N) (h1 : F + m ≤ T) (h2 : T ≤ ks.length) (i j : Nat) (hij : i < j) (hj : j < ks.length) : kfd ks N F T m i ≠ kfd ks N F T m j := by
 have lt : ∀ i, i < ks.length → ks.getD i 0 < N := fun i hi => by rw [gd hi]; exact hN _ (List.getElem_mem hi)
 have ne : ∀ a b, a < b → b < ks.length → ks.getD a 0 ≠ ks.getD b 0 := fun a b hab hb => nd_ne nd hb hab
 have ne2 : ∀ a b, b < a → a < ks.length → ks.getD a 0 ≠ ks.getD b 0 := fun a b hab ha => (nd_ne nd ha hab).symm
 unfold kfd
 repeat' split
 all_goals first
  | exact ne _ _ (by omega) (by omega)
  | exact ne2 _ _ (by omega) (by omega)
  | (have := lt i (by omega); omega)
  | (have := lt j (by omega); omega)
  | (have := lt (i - m) (by omega); omega)
  | (have := lt (j - m) (by omega); omega)
  | omega
theorem ln_offs {h : Nat} {f : Nat → Nat} {B : Nat → G_api_Line} (hf : ∀ i j, i < j → j < h → f i ≠ f j) (hB : ∀ i, i < h → ln s (f i) = B i) {j : Nat} (hj : j < h) (hk : Rw s W (f j)) (i : Nat) (hi : i < h) :
  ln (off s (f j)) (f i) = if i = j then ⟨(B j).Cells, false⟩ else B i := by
 rw [ln_off hk, hB j hj]
 by_cases e : i = j
 ·subst e; rw [if_pos rfl, if_pos rfl]
 ·rw [if_neg, if_neg e, hB i hi]
  rcases Nat.lt_or_gt_of_ne e with h | h
  ·exact hf i j h hj
  ·exact (hf j i h hi).symm
theorem offa_pen (s : Sto) (ks : List Nat) (F : Nat) : (offa s ks F).rst = s.rst := by
 unfold offa
 split <;> rfl
theorem getD_map_range {h i : Nat} {f : Nat → Nat} (hi : i < h) : ((List.range h).map f).getD i 0 = f i := by
 rw [gd (by simpa using hi)]
 simp
structure Rf (s s' : Sto) (g : Nat) (ks : List Nat) (g' : Nat) (ks' : List Nat) : Prop where
 gl : s.grid_Grid.length ≤ s'.grid_Grid.length
 rl : s.row_Row.length ≤ s'.row_Row.length
 gr : ∀ j, j < s.grid_Grid.length → j ≠ g → s'.grid_Grid[j]? = s.grid_Grid[j]?
 rw : ∀ j, j < s.row_Row.length → j ∉ ks → s'.row_Row[j]? = s.row_Row[j]?
 ng : g' = g ∨ s.grid_Grid.length ≤ g'
 nr : ∀ r ∈ ks', r ∈ ks ∨ s.row_Row.length ≤ r
theorem Rf.self (s : Sto) (g : Nat) (ks : List Nat) : Rf s s g ks g ks := ⟨Nat.le_refl _, Nat.le_refl _, fun _ _ _ => rfl, fun _ _ _ => rfl, .inl rfl, fun _ h => .inl h⟩
theorem Rf.rowoff {s' : Sto} {ks' : List Nat} (h : Rf s s' g ks g ks') {i : Nat} (hi : i ∈ ks') : Rf s (off s' i) g ks g ks' := by
 have e : (off s' i).row_Row = s'.row_Row.set i ⟨(ln s' i).Cells, false⟩ := rfl
 refine ⟨h.gl, by rw [e, List.length_set]; exact h.rl, h.gr, fun j h1 h2 => ?_, h.ng, h.nr⟩
 rw [e, List.getElem?_set_ne ?_]
 ·exact h.rw j h1 h2
 ·rintro rfl
  rcases h.nr _ hi with q | q
  ·exact h2 q
  ·omega
theorem Rf.aboff {s' : Sto} {ks' : List Nat} (h : Rf s s' g ks g ks') (F : Nat) (hF : F ≤ ks'.length) : Rf s (offa s' ks' F) g ks g ks' := by
 unfold Go.Proofs.YthokmpbbkpjhbaaGreatDoor.offa
 split
 ·exact h
 ·refine h.rowoff ?_
  rw [gd (by omega)]
  exact List.getElem_mem _
theorem Rf.lay (xs : List G_row_Row) (x : G_grid_Grid) {ks' : List Nat} (h : ∀ r ∈ ks', r ∈ ks ∨ s.row_Row.length ≤ r) : Rf s ((s.addr xs).sg g x) g ks g ks' := by
 have e : ((s.addr xs).sg g x).row_Row = s.row_Row ++ xs := rfl
 have e2 : ((s.addr xs).sg g x).grid_Grid = s.grid_Grid.set g x := rfl
 exact ⟨by rw [e2, List.length_set]; exact Nat.le_refl _, by rw [e, List.length_append]; omega, fun j _ hj => by rw [e2, List.getElem?_set_ne (Ne.symm hj)], fun j hj _ => by rw [e, List.getElem?_append_left hj], .inl rfl, h⟩
theorem kfu_mem {N F T m : Nat} (hm : T ≤ ks.length) {r : Nat} (hr : r ∈ (List.range ks.length).map (kfu ks N F T m)) : r ∈ ks ∨ N ≤ r := by
 obtain ⟨i, hi, rfl⟩ := List.mem_map.1 hr
 have hi := List.mem_range.1 hi
 unfold kfu
 split
 ·rw [gd hi]; exact .inl (List.getElem_mem _)
 ·split
  ·rw [gd (by omega)]; exact .inl (List.getElem_mem _)
  ·exact .inr (by omega)
theorem kfd_mem {N F T m : Nat} (hm : T ≤ ks.length) {r : Nat} (hr : r ∈ (List.range ks.length).map (kfd ks N F T m)) : r ∈ ks ∨ N ≤ r := by
 obtain ⟨i, hi, rfl⟩ := List.mem_map.1 hr
 have hi := List.mem_range.1 hi
 unfold kfd
 split
 ·rw [gd hi]; exact .inl (List.getElem_mem _)
 ·split
  ·exact .inr (by omega)
  ·rw [gd (by omega)]; exact .inl (List.getElem_mem _)
theorem up_eq2 (h : Gw s g ks W) (nd : ks.Nodup) (a b n : Int) : ∃ s' ks', f_scroll_Up s (some g) a b n = some s' ∧ (Gw s' g ks' W ∧ ks'.Nodup ∧ ks'.length = ks.length ∧
  ks'.map (ln s') = mv W (ks.map (ln s)) (cl a ks.length) (cl b ks.length) n true) ∧ s'.rst = s.rst ∧ Rf s s' g ks g ks' := by
 have hF := cl_le a ks.length
 have hT := cl_le b ks.length
 have hh := h.h2
 have hN : ∀ k ∈ ks, k < s.row_Row.length := fun k hk => (h.r k hk).lt
 unfold f_scroll_Up
 rw [scroll_of h]
 simp only [bsm]
 generalize cl a ks.length = F at *
 generalize cl b ks.length = T at *
 unfold mv
 by_cases hc : F < T ∧ 0 < n
 ·obtain ⟨m, hm⟩ : ∃ m : Nat, min n ((T : Int) - (F : Int)) = (m : Int) := ⟨(min n ((T : Int) - (F : Int))).toNat, by omega⟩
  have hm2 : F + m ≤ T ∧ 1 ≤ m := by omega
  rw [if_pos (by simp; omega), if_pos hc, hm, w64_in (by omega), show ((F : Int) + (m : Int)) = ((F + m : Nat) : Int) by simp, scroll_rows h hm2.1 hT]
  simp only [bsm]
  rw [scroll_blanks h (by omega)]
  simp only [bsm]
  rw [app_eq (by simp; omega), ← List.map_append]
  simp only [bsm]
  have h1 := h.addr (xs := List.replicate m (bk W))
  have hlen : ((ks.drop (F + m)).take (T - (F + m)) ++ List.range' s.row_Row.length m).length = T - F := by simp; omega
  obtain ⟨h3, h4⟩ := scroll_lay h1 (F := F) (p := (ks.drop (F + m)).take (T - (F + m)) ++ List.range' s.row_Row.length m) (by rw [hlen]; omega) (fun k hk => by
   rcases List.mem_append.1 hk with hk | hk
   ·exact h1.r k (List.mem_of_mem_drop (List.mem_of_mem_take hk))
   ·rw [List.mem_range'_1] at hk
    have := addr_new (s := s) (xs := List.replicate m (bk W)) (i := k - s.row_Row.length) (by simp; omega)
    rw [show s.row_Row.length + (k - s.row_Row.length) = k by omega, List.getElem_replicate] at this
    exact ⟨_, this, snd_bl W, by simp [bk]⟩) ⟨(F : Int), (T : Int), (m : Int)⟩ rfl
  rw [h3]
  rw [ov_up s.row_Row.length hm2.1 hT] at h4 ⊢
  have ne := kfu_ne nd (N := s.row_Row.length) (F := F) (T := T) (m := m) hN hm2.1 hT
  have hB : ∀ i, i < ks.length → ln ((s.addr (List.replicate m (bk W))).sg g ⟨((List.range ks.length).map (kfu ks s.row_Row.length F T m)).map some⟩) (kfu ks s.row_Row.length F T m i) = mvb W (ks.map (ln s)) F T m true i := by
   intro i hi
   rw [ln_sg]
   have old : ∀ j, j < ks.length → ln (s.addr (List.replicate m (bk W))) (ks.getD j 0) = (ks.map (ln s)).getD j dl := fun j hj => by
    rw [gdl (by simpa using hj), gd hj, ln_old (hN _ (List.getElem_mem hj)), List.getElem_map]
   unfold kfu mvb
   by_cases c1 : i < F ∨ T ≤ i
   ·rw [if_pos c1, if_neg (show ¬(F ≤ i ∧ i < T) by omega), old i hi]
   ·rw [if_neg c1, if_pos (show F ≤ i ∧ i < T by omega), if_pos rfl]
    by_cases c2 : i + m < T
    ·rw [if_pos c2, if_pos c2, old _ (by omega)]
    ·rw [if_neg c2, if_neg c2, ln_new (by simp; omega), List.getElem_replicate]
     rfl
  refine ⟨_, (List.range ks.length).map (kfu ks s.row_Row.length F T m), rfl, ⟨?_, nd_map ne, by simp, ?_⟩, offa_pen _ _ _, (Rf.lay _ _ fun r hr => kfu_mem hT hr).aboff F (by simp; omega)⟩
  ·unfold offa
   split
   ·exact h4
   ·refine h4.off ?_
    rw [getD_map_range (by omega)]
    exact h4.r _ (List.mem_map.2 ⟨F - 1, List.mem_range.2 (by omega), rfl⟩)
  ·rw [List.length_map, List.map_map]
   refine List.map_congr_left fun i hi => ?_
   have hi := List.mem_range.1 hi
   simp only [Function.comp, Int.toNat_natCast]
   unfold offa mvl
   by_cases h0 : F = 0
   ·rw [if_pos h0, if_neg (by simp; omega), hB i hi]
   ·rw [if_neg h0, getD_map_range (by omega), ln_offs ne hB (by omega) (h4.r _ (List.mem_map.2 ⟨F - 1, List.mem_range.2 (by omega), rfl⟩)) i hi]
    by_cases e : i = F - 1
    ·rw [if_pos e, if_pos (by omega), e]
    ·rw [if_neg e, if_neg (by simp; omega)]
 ·rw [if_neg (by simp; omega), if_neg hc]
  exact ⟨s, ks, rfl, ⟨h, nd, rfl, rfl⟩, rfl, Rf.self _ _ _⟩
theorem down_eq2 (h : Gw s g ks W) (nd : ks.Nodup) (a b n : Int) : ∃ s' ks', f_scroll_Down s (some g) a b n = some s' ∧ (Gw s' g ks' W ∧ ks'.Nodup ∧ ks'.length = ks.length ∧
  ks'.map (ln s') = mv W (ks.map (ln s)) (cl a ks.length) (cl b ks.length) n false) ∧ s'.rst = s.rst ∧ Rf s s' g ks g ks' := by
 have hF := cl_le a ks.length
 have hT := cl_le b ks.length
 have hh := h.h2
 have hN : ∀ k ∈ ks, k < s.row_Row.length := fun k hk => (h.r k hk).lt
 unfold f_scroll_Down
 rw [scroll_of h]
 simp only [bsm]
 generalize cl a ks.length = F at *
 generalize cl b ks.length = T at *
 unfold mv
 by_cases hc : F < T ∧ 0 < n
 ·obtain ⟨m, hm⟩ : ∃ m : Nat, min n ((T : Int) - (F : Int)) = (m : Int) := ⟨(min n ((T : Int) - (F : Int))).toNat, by omega⟩
  have hm2 : F + m ≤ T ∧ 1 ≤ m := by omega
  have h1 := h.addr (xs := List.replicate m (bk W))
  rw [if_pos (by simp; omega), if_pos hc, hm, scroll_blanks h (by omega)]
  simp only [bsm]
  rw [w64_in (by omega), show ((T : Int) - (m : Int)) = ((T - m : Nat) : Int) by omega, scroll_rows h1 (by omega) (by omega)]
  simp only [bsm]
  rw [app_eq (by simp; omega), ← List.map_append]
  simp only [bsm]
  have hlen : (List.range' s.row_Row.length m ++ (ks.drop F).take (T - m - F)).length = T - F := by simp; omega
  obtain ⟨h3, h4⟩ := scroll_lay h1 (F := F) (p := List.range' s.row_Row.length m ++ (ks.drop F).take (T - m - F)) (by rw [hlen]; omega) (fun k hk => by
   rcases List.mem_append.1 hk with hk | hk
   ·rw [List.mem_range'_1] at hk
    have := addr_new (s := s) (xs := List.replicate m (bk W)) (i := k - s.row_Row.length) (by simp; omega)
    rw [show s.row_Row.length + (k - s.row_Row.length) = k by omega, List.getElem_replicate] at this
    exact ⟨_, this, snd_bl W, by simp [bk]⟩
   ·exact h1.r k (List.mem_of_mem_drop (List.mem_of_mem_take hk))) ⟨(F : Int), (T : Int), (m : Int)⟩ rfl
  rw [h3]
  rw [ov_down s.row_Row.length hm2.1 hT] at h4 ⊢
  have ne := kfd_ne nd (N := s.row_Row.length) (F := F) (T := T) (m := m) hN hm2.1 hT
  have hB : ∀ i, i < ks.length → ln ((s.addr (List.replicate m (bk W))).sg g ⟨((List.range ks.length).map (kfd ks s.row_Row.length F T m)).map some⟩) (kfd ks s.row_Row.length F T m i) = mvb W (ks.map (ln s)) F T m false i := by
   intro i hi
   rw [ln_sg]
   have old : ∀ j, j < ks.length → ln (s.addr (List.replicate m (bk W))) (ks.getD j 0) = (ks.map (ln s)).getD j dl := fun j hj => by
    rw [gdl (by simpa using hj), gd hj, ln_old (hN _ (List.getElem_mem hj)), List.getElem_map]
   unfold kfd mvb
   by_cases c1 : i < F ∨ T ≤ i
   ·rw [if_pos c1, if_neg (show ¬(F ≤ i ∧ i < T) by omega), old i hi]
   ·rw [if_neg c1, if_pos (show F ≤ i ∧ i < T by omega), if_neg (show ¬(false = true) by simp)]
    by_cases c2 : i < F + m
    ·rw [if_pos c2, if_neg (show ¬(F + m ≤ i) by omega), ln_new (by simp; omega), List.getElem_replicate]
     rfl
    ·rw [if_neg c2, if_pos (show F + m ≤ i by omega), old _ (by omega)]
  have hmem : ∀ j, j < ks.length → kfd ks s.row_Row.length F T m j ∈ (List.range ks.length).map (kfd ks s.row_Row.length F T m) := fun j hj => List.mem_map.2 ⟨j, List.mem_range.2 hj, rfl⟩
  have h5 : Gw (offa ((s.addr (List.replicate m (bk W))).sg g ⟨((List.range ks.length).map (kfd ks s.row_Row.length F T m)).map some⟩) ((List.range ks.length).map (kfd ks s.row_Row.length F T m)) F) g ((List.range ks.length).map (kfd ks s.row_Row.length F T m)) W := by
   unfold offa
   split
   ·exact h4
   ·refine h4.off ?_
    rw [getD_map_range (by omega)]
    exact h4.r _ (hmem _ (by omega))
  have hC : ∀ i, i < ks.length → ln (offa ((s.addr (List.replicate m (bk W))).sg g ⟨((List.range ks.length).map (kfd ks s.row_Row.length F T m)).map some⟩) ((List.range ks.length).map (kfd ks s.row_Row.length F T m)) F) (kfd ks s.row_Row.length F T m i) =
    if i + 1 = F then ⟨(mvb W (ks.map (ln s)) F T m false i).Cells, false⟩ else mvb W (ks.map (ln s)) F T m false i := by
   intro i hi
   unfold offa
   by_cases h0 : F = 0
   ·rw [if_pos h0, if_neg (by omega), hB i hi]
   ·rw [if_neg h0, getD_map_range (by omega), ln_offs ne hB (by omega) (h4.r _ (hmem _ (by omega))) i hi]
    by_cases e : i = F - 1
    ·rw [if_pos e, if_pos (by omega), e]
    ·rw [if_neg e, if_neg (by omega)]
  have hlt : T - 1 < ((List.range ks.length).map (kfd ks s.row_Row.length F T m)).length := by simp; omega
  simp only [bsm]
  rw [w64_in (by omega), show ((T : Int) - 1) = ((T - 1 : Nat) : Int) by omega, grid_row h5 hlt]
  simp only [bsm]
  rw [goon_off (h5.at hlt)]
  simp only [bsm, List.getElem_map, List.getElem_range]
  refine ⟨_, (List.range ks.length).map (kfd ks s.row_Row.length F T m), rfl, ⟨h5.off (h5.r _ (hmem _ (by omega))), nd_map ne, by simp, ?_⟩, offa_pen _ _ _, ((Rf.lay _ _ fun r hr => kfd_mem hT hr).aboff F (by simp; omega)).rowoff (hmem _ (by omega))⟩
  rw [List.length_map, List.map_map]
  refine List.map_congr_left fun i hi => ?_
  have hi := List.mem_range.1 hi
  simp only [Function.comp, Int.toNat_natCast]
  rw [ln_offs ne hC (by omega) (h5.r _ (hmem _ (by omega))) i hi]
  unfold mvl
  by_cases e : i = T - 1
  ·rw [if_pos e, if_neg (show ¬(T - 1 + 1 = F) by omega), if_pos (show i + 1 = F ∨ (false = false ∧ i + 1 = T) from Or.inr ⟨rfl, by omega⟩), e]
  ·rw [if_neg e]
   by_cases e2 : i + 1 = F
   ·rw [if_pos e2, if_pos (Or.inl e2)]
   ·rw [if_neg e2, if_neg (show ¬(i + 1 = F ∨ (false = false ∧ i + 1 = T)) by simp; omega)]
 ·rw [if_neg (by simp; omega), if_neg hc]
  exact ⟨s, ks, rfl, ⟨h, nd, rfl, rfl⟩, rfl, Rf.self _ _ _⟩
theorem ref_move {L : List G_api_Line} (hl : L.length ≤ 1024) (hW : W ≤ 1024) (hL : ∀ x ∈ L, x.Cells.length = W) (a b n : Int) (up : Bool) :
  f_linotyperef33_Move L a b n up = some (mv W L (cl a L.length) (cl b L.length) n up) := by
 have hF := cl_le a L.length
 have hT := cl_le b L.length
 unfold f_linotyperef33_Move
 simp only [icl, orE_some, bsm]
 generalize cl a L.length = F at *
 generalize cl b L.length = T at *
 unfold mv
 by_cases hc : F < T ∧ 0 < n
 ·obtain ⟨m, hm⟩ : ∃ m : Nat, min n ((T : Int) - (F : Int)) = (m : Int) := ⟨(min n ((T : Int) - (F : Int))).toNat, by omega⟩
  have hm2 : F + m ≤ T ∧ 1 ≤ m := by omega
  rw [if_neg (by rw [Bool.or_eq_true, decide_eq_true_eq, decide_eq_true_eq]; omega), if_pos hc, w64_in (by omega), imin_eq, hm, Int.toNat_natCast]
  obtain ⟨t, h1, h2⟩ := iter_for (σ := (List G_api_Line) × Int) (τ := List G_api_Line) (n := L.length) (fuel := ((L.length : Int) - 0).toNat + 1) (s := (([] : List G_api_Line), 0))
   (fun i q => q = ((List.range i).map (mvl W L F T m up), (i : Int))) (fun t => t = (List.range L.length).map (mvl W L F T m up))
   (step := fun s_41 =>
 if (decide (s_41.2 < (L.length : Int))) = true then
 (idx L s_41.2).bind fun x_48 =>
 ((andE (decide (s_41.2 ≥ (F : Int))) (some (decide (s_41.2 < (T : Int))))).bind fun d_57 =>
 if d_57 = true then
 (if (!up) = true then
 (some ((w64 (s_41.2 - (m : Int)))) : Option (Int))
 else
 (some ((w64 (s_41.2 + (m : Int)))) : Option (Int))).bind fun z_68 =>
 (idx L s_41.2).bind fun x_79 =>
 (rep (x_79.Cells.length : Int) (⟨0, ([] : List Int)⟩ : G_api_Cell)).bind fun x_83 =>
 (andE (decide (z_68 ≥ (F : Int))) (some (decide (z_68 < (T : Int))))).bind fun d_90 =>
 if d_90 = true then
 (idx L z_68).bind fun x_98 =>
 (some (x_98.Cells, x_98.Wrap) : Option ((List G_api_Cell) × Bool))
 else
 (some (x_83, false) : Option ((List G_api_Cell) × Bool))
 else
 (some (x_48.Cells, x_48.Wrap) : Option ((List G_api_Cell) × Bool))).bind fun z_53 =>
 ((orE ((w64 (s_41.2 + 1)) == (F : Int)) ((andE (!up) (some ((w64 (s_41.2 + 1)) == (T : Int)))).bind fun d_111 =>
 some d_111)).bind fun d_107 =>
 if d_107 = true then
 (some (false) : Option (Bool))
 else
 (some (z_53.2) : Option (Bool))).bind fun z_102 =>
 (app s_41.1 ([(⟨z_53.1, z_102⟩ : G_api_Line)] : List G_api_Line)).bind fun x_124 =>
 some (.inl (x_124, (w64 (s_41.2 + 1))))
 else
 some (.inr (s_41.1)))
   (fun i q hi e => by
    subst e
    refine .inl ⟨_, ?_, rfl⟩
    have e5 : w64 ((i : Int) + 1) = ((i + 1 : Nat) : Int) := by rw [w64_in (by omega)]; simp
    have hd : decide ((i : Int) < (L.length : Int)) = true := by simp; exact hi
    have hlw := hL _ (List.getElem_mem hi)
    simp only [hd, if_true, idx_at hi, bsm, e5, andE_some]
    have hz : (if (decide ((i : Int) ≥ (F : Int)) && decide ((i : Int) < (T : Int))) = true then
      (if (!up) = true then (some ((w64 ((i : Int) - (m : Int)))) : Option (Int)) else (some ((w64 ((i : Int) + (m : Int)))) : Option (Int))).bind fun z_68 =>
      (rep (L[i].Cells.length : Int) (⟨0, ([] : List Int)⟩ : G_api_Cell)).bind fun x_83 =>
      if (decide (z_68 ≥ (F : Int)) && decide (z_68 < (T : Int))) = true then
      (idx L z_68).bind fun x_98 => (some (x_98.Cells, x_98.Wrap) : Option ((List G_api_Cell) × Bool))
      else (some (x_83, false) : Option ((List G_api_Cell) × Bool))
      else (some (L[i].Cells, L[i].Wrap) : Option ((List G_api_Cell) × Bool))) = some ((mvb W L F T m up i).Cells, (mvb W L F T m up i).Wrap) := by
     unfold mvb
     by_cases c1 : F ≤ i ∧ i < T
     ·rw [if_pos (by simp; omega), if_pos c1]
      cases up with
      | true =>
       rw [if_neg (by simp), if_pos rfl]
       simp only [bsm]
       rw [rep_eq _ (by omega), w64_in (by omega), show ((i : Int) + (m : Int)) = ((i + m : Nat) : Int) by simp]
       simp only [bsm]
       by_cases c2 : i + m < T
       ·rw [if_pos (by simp; omega), if_pos c2, idx_at (show i + m < L.length by omega), gdl (by omega)]
        rfl
       ·rw [if_neg (by simp; omega), if_neg c2, Int.toNat_natCast, hlw]
        rfl
      | false =>
       rw [if_pos (by simp), if_neg (by simp)]
       simp only [bsm]
       rw [rep_eq _ (by omega), w64_in (by omega)]
       simp only [bsm]
       by_cases c2 : F + m ≤ i
       ·rw [show ((i : Int) - (m : Int)) = ((i - m : Nat) : Int) by omega, if_pos (by simp; omega), if_pos c2, idx_at (show i - m < L.length by omega), gdl (by omega)]
        rfl
       ·rw [if_neg (by simp; omega), if_neg c2, Int.toNat_natCast, hlw]
        rfl
     ·rw [if_neg (by simp; omega), if_neg c1, gdl hi]
    rw [hz]
    simp only [bsm]
    have hy : (orE (((i + 1 : Nat) : Int) == (F : Int)) (some (!up && (((i + 1 : Nat) : Int) == (T : Int))))) = some (decide (i + 1 = F ∨ (up = false ∧ i + 1 = T))) := by
     rw [orE_some]
     congr 1
     rw [Bool.eq_iff_iff]
     simp only [Bool.or_eq_true, beq_iff_eq, Bool.and_eq_true, Bool.not_eq_true', decide_eq_true_eq, Int.ofNat_inj]
    rw [hy]
    simp only [bsm]
    have hx : ∀ y : Bool, (if decide (i + 1 = F ∨ (up = false ∧ i + 1 = T)) = true then (some false : Option Bool) else some y) = some (if i + 1 = F ∨ (up = false ∧ i + 1 = T) then false else y) := fun y => by
     by_cases c : i + 1 = F ∨ (up = false ∧ i + 1 = T)
     ·rw [if_pos (by simpa using c), if_pos c]
     ·rw [if_neg (by simpa using c), if_neg c]
    rw [hx]
    simp only [bsm]
    rw [app_eq (by simp; omega)]
    simp only [bsm]
    have hz3 : (⟨(mvb W L F T m up i).Cells, if i + 1 = F ∨ (up = false ∧ i + 1 = T) then false else (mvb W L F T m up i).Wrap⟩ : G_api_Line) = mvl W L F T m up i := by
     unfold mvl
     split <;> rfl
    rw [hz3, List.range_succ, List.map_append]
    rfl)
   (fun q e => ⟨_, by subst e; simp, rfl⟩)
   (by simp) (by omega)
  subst h2
  rw [h1]
  rfl
 ·rw [if_pos (by rw [Bool.or_eq_true, decide_eq_true_eq, decide_eq_true_eq]; omega), if_neg hc]
end Go.Proofs.YthokmpbbkpjhbaaGreatDoor
namespace Go.Proofs.YthokmpbbkpjhbaaGreatDoor
open Go Go.Lt
variable {s : Sto} {k : Nat} {l p : List G_api_Cell} {w : Bool}
theorem sca_replace (p : List Int) (hp : p.length ≤ 1000000) : f_scalar_Replace p = some (p.map fixv) := by
 unfold f_scalar_Replace
 rw [rep_eq _ (by omega), rep_eq _ (by omega)]
 simp only [bsm]
 obtain ⟨t, h1, h2⟩ := iter_for (σ := (List Int) × Int) (τ := List Int) (n := p.length) (fuel := ((p.length : Int) - 0).toNat + 1) (s := (List.replicate (0 : Int).toNat 0, 0))
  (fun i q => q = ((p.take i).map fixv, (i : Int))) (fun t => t = p.map fixv)
  (step := fun s_12 =>
 if (decide (s_12.2 < (p.length : Int))) = true then
 (idx p s_12.2).bind fun x_15 =>
 ((f_scalar_Valid x_15).bind fun x_21 =>
 if (!x_21) = true then
 (some (65533) : Option (Int))
 else
 (some (x_15) : Option (Int))).bind fun z_19 =>
 (app s_12.1 ([z_19] : List Int)).bind fun x_29 =>
 some (.inl (x_29, (w64 (s_12.2 + 1))))
 else
 some (.inr (s_12.1)))
  (fun i q hi e => by
   subst e
   refine .inl ⟨_, ?_, rfl⟩
   have e5 : w64 ((i : Int) + 1) = ((i + 1 : Nat) : Int) := by rw [w64_in (by omega)]; simp
   have hd : decide ((i : Int) < (p.length : Int)) = true := by simp; exact hi
   simp only [hd, if_true, idx_at hi, bsm, sca_valid, e5]
   have hz : (if (!vld p[i]) = true then (some (65533) : Option Int) else some p[i]) = some (fixv p[i]) := by
    unfold fixv
    cases vld p[i] <;> rfl
   rw [hz]
   simp only [bsm]
   rw [app_eq (by simp; omega)]
   simp only [bsm]
   rw [List.take_succ_eq_append_getElem hi, List.map_append]
   rfl)
  (fun q e => ⟨_, by subst e; simp, rfl⟩)
  rfl (by omega)
 subst h2
 rw [h1]
 rfl
theorem cell_of (wide : Int) (t : List Int) (ht : t.length ≤ 9223372036854775807) : f_cell_Of wide t = some (strip wide (fx t)) := by
 unfold f_cell_Of
 have hz : (if (decide (wide ≥ 2)) = true then (app ([(⟨0, ([] : List Int)⟩ : G_api_Cell)] : List G_api_Cell) ([(⟨0, ([] : List Int)⟩ : G_api_Cell)] : List G_api_Cell)).bind fun x_14 => (some (x_14) : Option ((List G_api_Cell))) else
   (some (([(⟨0, ([] : List Int)⟩ : G_api_Cell)] : List G_api_Cell)) : Option ((List G_api_Cell)))) = some (if 2 ≤ wide then [bl, bl] else [bl]) := by
  by_cases h : 2 ≤ wide
  ·rw [if_pos (by simpa using h), if_pos h, app_eq (by simp)]
   rfl
  ·rw [if_neg (by simpa using h), if_neg h]
   rfl
 rw [hz]
 simp only [bsm]
 unfold strip
 by_cases h0 : t = []
 ·subst h0
  rw [if_pos (show ((([] : List Int).length : Int) == 0) = true from rfl), if_pos (show fx [] = [] from rfl)]
  by_cases h : 2 ≤ wide
  ·rw [if_pos h, if_pos (show wide > 1 by omega)]
  ·rw [if_neg h, if_neg (show ¬ (wide > 1) by omega)]
 ·have hl : 0 < t.length := List.length_pos_iff.2 h0
  have hf : fx t ≠ [] := by
   have := fx_len' t
   intro h
   rw [h, List.length_nil] at this
   omega
  rw [if_neg (by rw [beq_iff_eq]; omega), if_neg hf, imin_eq, show (min (t.length : Int) 16) = ((min t.length 16 : Nat) : Int) by omega, show (0 : Int) = ((0 : Nat) : Int) from rfl, slc_eq (Nat.zero_le _) (Nat.min_le_left _ _)]
  simp only [bsm]
  rw [sca_replace _ (by simp; omega)]
  have ef : ((t.drop 0).take (min t.length 16 - 0)).map fixv = fx t := by
   unfold fx
   rw [List.drop_zero, Nat.sub_zero]
   congr 1
   rcases Nat.le_total t.length 16 with h | h
   ·rw [Nat.min_eq_left h, List.take_of_length_le (Nat.le_refl _), List.take_of_length_le h]
   ·rw [Nat.min_eq_right h]
  rw [ef]
  by_cases h : 2 ≤ wide
  ·rw [if_pos h, if_pos (show wide > 1 by omega), show decide (wide ≥ 2) = true by simpa using h]
   rfl
  ·rw [if_neg h, if_neg (show ¬ (wide > 1) by omega), show decide (wide ≥ 2) = false by simpa using h]
   rfl
theorem strip_len (wide : Int) (t : List Int) : 1 ≤ (strip wide t).length ∧ (strip wide t).length ≤ 2 := by
 unfold strip
 repeat' split
 all_goals simp
theorem snd_fx (wide : Int) (t : List Int) : Snd (strip wide (fx t)) := snd_strip wide (fx_vld t) (fx_len t)
theorem fx_id {t : List Int} (h : ∀ x ∈ t, vld x = true) (hl : t.length ≤ 16) : fx t = t := by
 unfold fx
 rw [List.take_of_length_le hl]
 conv => rhs; rw [← List.map_id t]
 refine List.map_congr_left fun x hx => ?_
 unfold fixv
 rw [if_pos (h x hx)]
 rfl
theorem mark_put (h : s.row_Row[k]? = some ⟨l, w⟩) (hs : Snd l) (hl : l.length ≤ 1024) {a : Nat} (wide : Int) {t : List Int} (ht : t.length ≤ 9223372036854775807) (ha : a + (strip wide (fx t)).length ≤ l.length) :
  f_mark_Put s (some k) a wide t = some (s.sr k ⟨pl l a (strip wide (fx t)), pw l w a (strip wide (fx t)).length⟩, Er.nil) := by
 unfold f_mark_Put
 rw [cell_of wide t ht]
 simp only [bsm]
 rw [row_paint h hs hl (snd_fx wide t) (strip_len wide _).1 ha]
 rfl
def mat (l : List G_api_Cell) (i : Int) : Option Nat := if 0 ≤ i ∧ i < l.length then (if kd l i.toNat = 0 then none else if kd l i.toNat = 3 then some (i.toNat - 1) else some i.toNat) else none
theorem row_cell_out (h : s.row_Row[k]? = some ⟨l, w⟩) {i : Int} (hi : ¬ (0 ≤ i ∧ i < l.length)) : f_row_Row_Cell s (some k) i = some (bl, false) := by
 unfold f_row_Row_Cell
 rw [row_wide h]
 simp only [bsm, orE_some]
 rw [if_pos (by simp; omega)]
 rfl
theorem kd_rgt (hs : Snd l) (j : Nat) : kd l j = 0 ∨ kd l j = 1 ∨ kd l j = 2 ∨ kd l j = 3 := by
 rcases Nat.lt_or_ge j l.length with h | h
 ·have := (hs j h).1
  unfold rgt at this
  rw [kd_at h]
  split at this
  ·omega
  ·simp only [Bool.and_eq_true, Bool.or_eq_true, decide_eq_true_eq] at this
   omega
 ·exact .inl (kd_out h)
theorem mark_at (h : s.row_Row[k]? = some ⟨l, w⟩) (hs : Snd l) (i : Int) (hi : -9223372036854775808 ≤ i ∧ i ≤ 9223372036854775807) :
  f_mark_At s (some k) i = some (match mat l i with | some j => ((j : Int), ⟨kd l j, (l.getD j bl).Text⟩, true) | none => (0, ⟨0, []⟩, false)) := by
 unfold f_mark_At mat
 by_cases hin : 0 ≤ i ∧ i < l.length
 ·obtain ⟨j, rfl⟩ : ∃ j : Nat, i = (j : Int) := ⟨i.toNat, by omega⟩
  have hj : j < l.length := by omega
  rw [if_pos hin, row_cell h hj hs.sht, Int.toNat_natCast]
  have hkd := kd_at hj
  have hgd : l.getD j bl = l[j] := by rw [List.getD_eq_getElem?_getD, List.getElem?_eq_getElem hj]; rfl
  simp only [bsm, andE_true]
  by_cases h3 : kd l j = 3
  ·obtain ⟨p1, p2⟩ := hs.three h3
   have hj2 : j - 1 < l.length := by omega
   have hkd2 := kd_at hj2
   rw [if_pos (by rw [beq_iff_eq, ← hkd]; exact h3), w64_in (by omega), show ((j : Int) - 1) = ((j - 1 : Nat) : Int) by omega, row_cell h hj2 hs.sht]
   simp only [bsm, andE_true]
   rw [if_neg (show ¬ kd l j = 0 by omega), if_pos h3, if_neg (by rw [beq_iff_eq, ← hkd2]; omega), if_pos (by rw [beq_iff_eq, ← hkd2]; exact p2)]
   simp only
   rw [p2, List.getD_eq_getElem?_getD, List.getElem?_eq_getElem hj2]
   rfl
  ·rw [if_neg (by rw [beq_iff_eq, ← hkd]; exact h3)]
   simp only [bsm, andE_true]
   rcases kd_rgt hs j with h0 | h1 | h2 | h4
   ·rw [if_neg (by rw [beq_iff_eq, ← hkd]; omega), if_neg (by rw [beq_iff_eq, ← hkd]; omega), if_pos h0]
   ·rw [if_pos (by rw [beq_iff_eq, ← hkd]; exact h1), if_neg (by omega), if_neg h3]
    simp only
    rw [h1, hgd]
   ·rw [if_neg (by rw [beq_iff_eq, ← hkd]; omega), if_pos (by rw [beq_iff_eq, ← hkd]; exact h2), if_neg (by omega), if_neg h3]
    simp only
    rw [h2, hgd]
   ·exact absurd h4 h3
 ·rw [if_neg hin, row_cell_out h hin]
  rfl
theorem wr_u64 (n : Int) : 0 ≤ IntKind.u64.wrap n ∧ IntKind.u64.wrap n < 18446744073709551616 := by
 simp only [IntKind.wrap, IntKind.signed, IntKind.bits, Bool.false_and, Bool.false_eq_true, if_false]
 omega
theorem wr_u64_in {n : Int} (h : 0 ≤ n ∧ n < 18446744073709551616) : IntKind.u64.wrap n = n := by
 simp only [IntKind.wrap, IntKind.signed, IntKind.bits, Bool.false_and, Bool.false_eq_true, if_false]
 omega
theorem pc_in {a j : Nat} (h : a ≤ j ∧ j < a + p.length) : pc l a p j = p.getD (j - a) bl := by unfold pc; rw [if_pos h]
theorem pc_out {a j : Nat} (h : ¬(a ≤ j ∧ j < a + p.length)) : pc l a p j = if tch l a p.length j = true then bl else l.getD j bl := by unfold pc; rw [if_neg h]
end Go.Proofs.YthokmpbbkpjhbaaGreatDoor
namespace Go.Proofs.YthokmpbbkpjhbaaGreatDoor
open Go Go.Lt
variable {s C : Sto} {g k W : Nat} {ks : List Nat} {l p : List G_api_Cell} {w : Bool} {q : G_linotyperef34_Pen}
def Sto.sp (s : Sto) (k : Nat) (x : G_place_Pen) : Sto := { s with place_Pen := s.place_Pen.set k x }
theorem set_pen {x : G_place_Pen} (h : k < s.place_Pen.length) : s.set_place_Pen k x = some (s.sp k x) := by
 simp only [Sto.set_place_Pen, h, if_true]
 rfl
theorem sp_get {x : G_place_Pen} (h : k < s.place_Pen.length) : (s.sp k x).place_Pen[k]? = some x := by simp [Sto.sp, h]
theorem sp_sp (s : Sto) (k : Nat) (x y : G_place_Pen) : (s.sp k x).sp k y = s.sp k y := by simp [Sto.sp]
theorem Gw.sp (h : Gw s g ks W) (k : Nat) (x : G_place_Pen) : Gw (s.sp k x) g ks W := ⟨h.g, h.r, h.h1, h.h2, h.w1, h.w2⟩
def ownG (C : Sto) (k g : Nat) : Prop := ∃ x, C.place_Pen[k]? = some x ∧ x.G = some g
def ownR (C : Sto) (k r : Nat) : Prop := ∃ g y, ownG C k g ∧ C.grid_Grid[g]? = some y ∧ some r ∈ y.rows
structure Fr (C s : Sto) (k g : Nat) (ks : List Nat) : Prop where
 pl : C.place_Pen.length ≤ s.place_Pen.length
 gl : C.grid_Grid.length ≤ s.grid_Grid.length
 rl : C.row_Row.length ≤ s.row_Row.length
 pn : ∀ j, j < C.place_Pen.length → j ≠ k → s.place_Pen[j]? = C.place_Pen[j]?
 gr : ∀ j, j < C.grid_Grid.length → ¬ ownG C k j → s.grid_Grid[j]? = C.grid_Grid[j]?
 rw : ∀ j, j < C.row_Row.length → ¬ ownR C k j → s.row_Row[j]? = C.row_Row[j]?
 ng : ownG C k g ∨ C.grid_Grid.length ≤ g
 nr : ∀ r ∈ ks, ownR C k r ∨ C.row_Row.length ≤ r
theorem Fr.self {p : G_place_Pen} (h : s.place_Pen[k]? = some p) (hg : p.G = some g) (hk : s.grid_Grid[g]? = some ⟨ks.map some⟩) : Fr s s k g ks :=
 ⟨Nat.le_refl _, Nat.le_refl _, Nat.le_refl _, fun _ _ _ => rfl, fun _ _ _ => rfl, fun _ _ _ => rfl, .inl ⟨p, h, hg⟩, fun r hr => .inl ⟨g, _, ⟨p, h, hg⟩, hk, List.mem_map.2 ⟨r, hr, rfl⟩⟩⟩
theorem Fr.new (h1 : C.place_Pen.length ≤ s.place_Pen.length) (h2 : C.grid_Grid.length ≤ s.grid_Grid.length) (h3 : C.row_Row.length ≤ s.row_Row.length) (h4 : ∀ j, j < C.place_Pen.length → s.place_Pen[j]? = C.place_Pen[j]?)
  (h5 : ∀ j, j < C.grid_Grid.length → s.grid_Grid[j]? = C.grid_Grid[j]?) (h6 : ∀ j, j < C.row_Row.length → s.row_Row[j]? = C.row_Row[j]?) (h7 : C.grid_Grid.length ≤ g) (h8 : ∀ r ∈ ks, C.row_Row.length ≤ r) : Fr C s k g ks :=
 ⟨h1, h2, h3, fun j a _ => h4 j a, fun j a _ => h5 j a, fun j a _ => h6 j a, .inr h7, fun r hr => .inr (h8 r hr)⟩
theorem Fr.step {s' : Sto} {g' : Nat} {ks' : List Nat} (h : Fr C s k g ks) (f : Rf s s' g ks g' ks') (hp : s'.place_Pen = s.place_Pen) : Fr C s' k g' ks' := by
 refine ⟨by rw [hp]; exact h.pl, Nat.le_trans h.gl f.gl, Nat.le_trans h.rl f.rl, fun j a b => by rw [hp]; exact h.pn j a b, fun j a b => ?_, fun j a b => ?_, ?_, fun r hr => ?_⟩
 ·have := h.gl
  rw [f.gr j (by omega) ?_, h.gr j a b]
  rintro rfl
  rcases h.ng with q | q
  ·exact b q
  ·omega
 ·have := h.rl
  rw [f.rw j (by omega) ?_, h.rw j a b]
  intro hj
  rcases h.nr j hj with q | q
  ·exact b q
  ·omega
 ·rcases f.ng with rfl | q
  ·exact h.ng
  ·exact .inr (Nat.le_trans h.gl q)
 ·rcases f.nr r hr with q | q
  ·exact h.nr r q
  ·exact .inr (Nat.le_trans h.rl q)
theorem Fr.sp (h : Fr C s k g ks) (x : G_place_Pen) : Fr C (s.sp k x) k g ks :=
 ⟨by simp only [Sto.sp, List.length_set]; exact h.pl, h.gl, h.rl, fun j a b => by simp only [Sto.sp]; rw [List.getElem?_set_ne (Ne.symm b)]; exact h.pn j a b, h.gr, h.rw, h.ng, h.nr⟩
theorem Fr.sr (h : Fr C s k g ks) {i : Nat} (hi : i ∈ ks) (r : G_row_Row) : Fr C (s.sr i r) k g ks := by
 refine h.step (s' := s.sr i r) ⟨Nat.le_refl _, by simp [Sto.sr], fun _ _ _ => rfl, fun j _ b => ?_, .inl rfl, fun r hr => .inl hr⟩ rfl
 exact sr_ne (fun e => b (e ▸ hi))
theorem Fr.addp (h : Fr C s k g ks) (x : G_place_Pen) : Fr C (s.add_place_Pen x) k g ks :=
 ⟨by have := h.pl; simp only [Sto.add_place_Pen, List.length_append]; omega, h.gl, h.rl, fun j a b => by have := h.pl; simp only [Sto.add_place_Pen]; rw [List.getElem?_append_left (by omega)]; exact h.pn j a b, h.gr, h.rw, h.ng, h.nr⟩
structure Rgp (s s' : Sto) : Prop where
 r : s'.row_Row = s.row_Row
 g : s'.grid_Grid = s.grid_Grid
 p : s'.place_Pen = s.place_Pen
theorem Rgp.self (s : Sto) : Rgp s s := ⟨rfl, rfl, rfl⟩
theorem Rgp.symm {s s' : Sto} (h : Rgp s s') : Rgp s' s := ⟨h.r.symm, h.g.symm, h.p.symm⟩
theorem Rgp.ownG {s s' : Sto} (h : Rgp s s') (k g : Nat) : ownG s' k g ↔ ownG s k g := by unfold Go.Proofs.YthokmpbbkpjhbaaGreatDoor.ownG; rw [h.p]
theorem Rgp.ownR {s s' : Sto} (h : Rgp s s') (k r : Nat) : ownR s' k r ↔ ownR s k r := by unfold Go.Proofs.YthokmpbbkpjhbaaGreatDoor.ownR; rw [h.g]; simp only [h.ownG]
theorem Fr.rgp {C' s' : Sto} (h : Fr C s k g ks) (hC : Rgp C C') (hs : Rgp s s') : Fr C' s' k g ks := by
 refine ⟨by rw [hC.p, hs.p]; exact h.pl, by rw [hC.g, hs.g]; exact h.gl, by rw [hC.r, hs.r]; exact h.rl, ?_, ?_, ?_, ?_, ?_⟩
 ·rw [hC.p, hs.p]; exact h.pn
 ·rw [hC.g, hs.g]; simp only [hC.ownG]; exact h.gr
 ·rw [hC.r, hs.r]; simp only [hC.ownR]; exact h.rw
 ·rw [hC.g, hC.ownG]; exact h.ng
 ·rw [hC.r]; simp only [hC.ownR]; exact h.nr
theorem Fr.trans {B : Sto} {g0 : Nat} {ks0 : List Nat} (h : Fr B C k g0 ks0) (hg : ∀ j, ownG C k j → j = g0) (hr : ∀ j, ownR C k j → j ∈ ks0) (h' : Fr C s k g ks) : Fr B s k g ks := by
 have hl := h.gl
 have hl2 := h.rl
 have hl3 := h.pl
 refine ⟨Nat.le_trans h.pl h'.pl, Nat.le_trans h.gl h'.gl, Nat.le_trans h.rl h'.rl, fun j a b => ?_, fun j a b => ?_, fun j a b => ?_, ?_, fun r hr' => ?_⟩
 ·rw [h'.pn j (by omega) b, h.pn j a b]
 ·rw [h'.gr j (by omega) ?_, h.gr j a b]
  intro q
  obtain rfl := hg j q
  rcases h.ng with q | q
  ·exact b q
  ·omega
 ·rw [h'.rw j (by omega) ?_, h.rw j a b]
  intro q
  rcases h.nr j (hr j q) with q | q
  ·exact b q
  ·omega
 ·rcases h'.ng with q | q
  ·obtain rfl := hg g q; exact h.ng
  ·exact .inr (by omega)
 ·rcases h'.nr r hr' with q | q
  ·exact h.nr r (hr r q)
  ·exact .inr (by omega)
structure Pv (C s : Sto) (k g_ W : Nat) (q : G_linotyperef34_Pen) (ks : List Nat) : Prop where
 p : s.place_Pen[k]? = some ⟨some g_, q.At, q.Auto⟩
 g : Gw s g_ ks W
 nd : ks.Nodup
 l : ks.map (ln s) = q.L
 o : s.oth = C.oth
 f : Fr C s k g_ ks
theorem Pv.self (h : Pv C s k g W q ks) : Pv s s k g W q ks := ⟨h.p, h.g, h.nd, h.l, rfl, Fr.self h.p rfl h.g.g⟩
theorem Pv.oG (h : Pv C s k g W q ks) (j : Nat) (hj : ownG s k j) : j = g := by
 obtain ⟨x, h1, h2⟩ := hj
 rw [h.p] at h1
 cases h1
 exact (Option.some.inj h2).symm
theorem Pv.oR (h : Pv C s k g W q ks) (j : Nat) (hj : ownR s k j) : j ∈ ks := by
 obtain ⟨g', y, h1, h2, h3⟩ := hj
 obtain rfl := h.oG g' h1
 rw [h.g.g] at h2
 cases h2
 obtain ⟨r, h4, h5⟩ := List.mem_map.1 h3
 cases h5
 exact h4
theorem Pv.len (h : Pv C s k g W q ks) : q.L.length = ks.length := by rw [← h.l, List.length_map]
theorem Pv.ok (h : Pv C s k g W q ks) : ∀ x ∈ q.L, Okl W x := by rw [← h.l]; exact grid_lines_ok h.g
theorem Pv.at (h : Pv C s k g W q ks) {i : Nat} (hi : i < ks.length) : q.L[i]'(by rw [h.len]; exact hi) = ln s ks[i] := by
 have := h.l
 have e : q.L[i]? = (ks.map (ln s))[i]? := by rw [this]
 rw [List.getElem?_eq_getElem (by rw [h.len]; exact hi), List.getElem?_map, List.getElem?_eq_getElem hi] at e
 exact Option.some.inj e
theorem Pv.set (h : Pv C s k g W q ks) (c : G_api_Cursor) (a : Bool) : Pv C (s.sp k ⟨some g, c, a⟩) k g W ⟨q.L, c, a⟩ ks :=
 ⟨sp_get (get_lt h.p), h.g.sp _ _, h.nd, h.l, h.o, h.f.sp _⟩
theorem Pv.row (h : Pv C s k g W q ks) {i : Nat} (hi : i < ks.length) {r : G_row_Row} (hr : Snd r.cells) (hl : r.cells.length = W) : Pv C (s.sr ks[i] r) k g W ⟨q.L.set i ⟨r.cells, r.wrap⟩, q.At, q.Auto⟩ ks := by
 have hlt := (h.g.at hi).lt
 refine ⟨h.p, ⟨h.g.g, fun j hj => ?_, h.g.h1, h.g.h2, h.g.w1, h.g.w2⟩, h.nd, ?_, h.o, h.f.sr (List.getElem_mem hi) _⟩
 ·by_cases e : ks[i] = j
  ·subst e; exact ⟨r, sr_get hlt, hr, hl⟩
  ·obtain ⟨r0, h1, h2⟩ := h.g.r j hj
   exact ⟨r0, (sr_ne e).trans h1, h2⟩
 ·refine List.ext_getElem? fun j => ?_
  rw [List.getElem?_map, List.getElem?_set]
  rcases Nat.lt_or_ge j ks.length with hj | hj
  ·rw [List.getElem?_eq_getElem hj, Option.map_some]
   by_cases e : i = j
   ·subst e
    rw [if_pos rfl, if_pos (by rw [h.len]; exact hi), ln_eq (sr_get hlt)]
   ·have hne : ks[i] ≠ ks[j] := by
     rcases Nat.lt_or_gt_of_ne e with h1 | h1
     ·exact List.pairwise_iff_getElem.1 h.nd i j _ _ h1
     ·exact (List.pairwise_iff_getElem.1 h.nd j i _ _ h1).symm
    rw [if_neg e, List.getElem?_eq_getElem (by rw [h.len]; exact hj), h.at hj]
    unfold ln
    rw [sr_ne hne]
  ·rw [List.getElem?_eq_none hj, if_neg (by omega), List.getElem?_eq_none (by rw [h.len]; exact hj)]
   rfl
def hc (c : G_api_Cursor) (W h : Nat) : G_api_Cursor := ⟨max 0 (min c.Row ((h : Int) - 1)), max 0 (min c.Col ((W : Int) - 1)), c.Pending && (c.Col == (W : Int) - 1)⟩
theorem cur_side {n : Nat} (h1 : 1 ≤ n) (h2 : n ≤ 1024) : f_cursor_side n = some (n : Int) := by
 unfold f_cursor_side
 rw [imax_eq, imin_eq]
 congr 1
 omega
theorem ref_side {n : Nat} (h1 : 1 ≤ n) (h2 : n ≤ 1024) : f_linotyperef31_Side n = some (n : Int) := by
 unfold f_linotyperef31_Side
 rw [if_neg (by simp; omega), if_neg (by simp; omega)]
theorem cur_hold (c : G_api_Cursor) {W h : Nat} (w1 : 1 ≤ W) (w2 : W ≤ 1024) (h1 : 1 ≤ h) (h2 : h ≤ 1024) : f_cursor_Hold c W h = some (hc c W h) := by
 unfold f_cursor_Hold f_cursor_held
 rw [cur_side w1 w2, cur_side h1 h2]
 simp only [bsm, andE_some]
 rw [w64_in (by omega), w64_in (by omega), imax_eq, imin_eq, imax_eq, imin_eq]
 rfl
theorem ref_within (n : Int) {m : Nat} (h1 : 1 ≤ m) (h2 : m ≤ 1024) : f_linotyperef31_within n m = some (max 0 (min n ((m : Int) - 1))) := by
 unfold f_linotyperef31_within
 rw [w64_in (by omega)]
 by_cases a : n < 0
 ·rw [if_pos (by simpa using a)]
  congr 1
  omega
 ·rw [if_neg (by simpa using a)]
  by_cases b : (m : Int) ≤ n
  ·rw [if_pos (by simpa using b)]
   congr 1
   omega
  ·rw [if_neg (by simpa using b)]
   congr 1
   omega
theorem ref_hold (c : G_api_Cursor) {W h : Nat} (w1 : 1 ≤ W) (w2 : W ≤ 1024) (h1 : 1 ≤ h) (h2 : h ≤ 1024) : f_linotyperef31_Hold c W h = some (hc c W h) := by
 unfold f_linotyperef31_Hold
 rw [ref_side h1 h2, ref_side w1 w2]
 simp only [bsm, andE_some]
 rw [ref_within _ h1 h2, ref_within _ w1 w2, w64_in (by omega)]
 rfl
structure Hd (c : G_api_Cursor) (W h : Nat) : Prop where
 rr : 0 ≤ c.Row ∧ c.Row < (h : Int)
 cc : 0 ≤ c.Col ∧ c.Col < (W : Int)
 pp : c.Pending = true → c.Col = (W : Int) - 1
theorem hc_hd (c : G_api_Cursor) {W h : Nat} (w1 : 1 ≤ W) (h1 : 1 ≤ h) : Hd (hc c W h) W h := by
 refine ⟨by simp only [hc]; omega, by simp only [hc]; omega, fun hp => ?_⟩
 simp only [hc, Bool.and_eq_true, beq_iff_eq] at hp ⊢
 omega
theorem hc_id {c : G_api_Cursor} {W h : Nat} (hd : Hd c W h) : hc c W h = c := by
 obtain ⟨h1, h2, h3⟩ := hd
 obtain ⟨a, b, d⟩ := c
 simp only at h1 h2 h3
 unfold hc
 simp only [G_api_Cursor.mk.injEq]
 refine ⟨by omega, by omega, ?_⟩
 cases d with
 | false => rfl
 | true => rw [h3 rfl]; simp
theorem pen_ready (h : Pv C s k g W q ks) : f_place_Pen_ready s (some k) = some (s.sp k ⟨some g, hc q.At W ks.length, q.Auto⟩, true) := by
 unfold f_place_Pen_ready
 simp only [Option.isNone_some, orE_false, bsm, h.p, Bool.false_eq_true, if_false]
 rw [grid_wide h.g, grid_high h.g]
 simp only [bsm]
 rw [cur_hold _ h.g.w1 h.g.w2 h.g.h1 h.g.h2]
 simp only [bsm]
 rw [set_pen (get_lt h.p)]
 rfl
theorem ref_wide (h : Pv C s k g W q ks) : f_linotyperef34_Pen_Wide q = some (W : Int) := by
 have hl := h.len
 have h1 := h.g.h1
 have h0 : idx q.L (0 : Int) = some (q.L[0]'(by omega)) := idx_at (i := 0) (by omega)
 unfold f_linotyperef34_Pen_Wide
 rw [h0]
 simp only [bsm]
 rw [(h.ok _ (List.getElem_mem _)).2]
theorem ref_Hold (h : Pv C s k g W q ks) : f_linotyperef34_Pen_Hold q = some ⟨q.L, hc q.At W ks.length, q.Auto⟩ := by
 unfold f_linotyperef34_Pen_Hold
 rw [ref_wide h]
 simp only [bsm]
 rw [h.len, ref_hold _ h.g.w1 h.g.w2 h.g.h1 h.g.h2]
 rfl
theorem newline_eq (h : Pv C s k g W q ks) : ∃ s' q' ks', f_place_Pen_NewLine s (some k) = some s' ∧ f_linotyperef34_Pen_NewLine q = some q' ∧ Pv C s' k g W q' ks' ∧ ks'.length = ks.length ∧
  Hd q'.At W ks.length ∧ q'.At.Pending = false ∧ q'.At.Col = (hc q.At W ks.length).Col ∧ q'.Auto = q.Auto := by
 have h1 := h.set (hc q.At W ks.length) q.Auto
 have hd := hc_hd q.At h.g.w1 h.g.h1
 have hh := h.g.h2
 unfold f_place_Pen_NewLine f_linotyperef34_Pen_NewLine
 rw [pen_ready h, ref_Hold h]
 generalize hc q.At W ks.length = c at *
 simp only [bsm, Bool.not_true, Bool.false_eq_true, if_false]
 rw [h1.p]
 simp only [bsm]
 rw [grid_high h1.g]
 simp only [bsm]
 unfold f_cursor_Down
 rw [cur_side h.g.h1 h.g.h2]
 simp only [bsm]
 rw [w64_in (by omega), w64_in (by have := hd.rr; omega), h.len]
 have hr := hd.rr
 by_cases he : (ks.length : Int) - 1 ≤ c.Row
 ·rw [if_pos (by simpa using he), if_neg (by simp; omega)]
  have h2 := h1.set ⟨c.Row, c.Col, false⟩ q.Auto
  rw [sp_sp] at h2
  simp only [bsm]
  rw [set_pen (by rw [show (s.sp k ⟨some g, c, q.Auto⟩).place_Pen.length = s.place_Pen.length by simp [Sto.sp]]; exact get_lt h.p), sp_sp]
  simp only [bsm, if_true]
  rw [grid_high h2.g]
  simp only [bsm]
  obtain ⟨s', ks', u1, ⟨u2, u3, u4, u5⟩, u6, u7⟩ := up_eq2 h2.g h2.nd 0 (ks.length : Int) 1
  have hm := ref_move (W := W) (L := q.L) (by rw [h.len]; exact hh) h.g.w2 (fun x hx => (h.ok x hx).2) 0 (ks.length : Int) 1 true
  rw [h.len] at hm
  rw [u1, hm]
  refine ⟨s', _, ks', rfl, rfl, ⟨?_, u2, u3, ?_, (rst_oth u6).trans h2.o, h2.f.step u7 (rst_pen u6)⟩, u4, ⟨hr, hd.cc, fun e => by cases e⟩, rfl, rfl, rfl⟩
  ·rw [rst_pen u6]; exact h2.p
  ·rw [u5, h2.l]
 ·rw [if_neg (by simpa using he), if_pos (by simp; omega)]
  have h2 := h1.set ⟨c.Row + 1, c.Col, false⟩ q.Auto
  rw [sp_sp] at h2
  simp only [bsm]
  rw [set_pen (by rw [show (s.sp k ⟨some g, c, q.Auto⟩).place_Pen.length = s.place_Pen.length by simp [Sto.sp]]; exact get_lt h.p), sp_sp]
  simp only [bsm, Bool.false_eq_true, if_false]
  exact ⟨_, _, ks, rfl, rfl, h2, rfl, ⟨by simp only; omega, hd.cc, fun e => by cases e⟩, rfl, rfl, rfl⟩
theorem ref_with (h : Pv C s k g W q ks) {i : Nat} (hi : i < ks.length) (x : G_api_Line) : f_linotyperef34_Pen_With q i x = some ⟨q.L.set i x, q.At, q.Auto⟩ := by
 have hl := h.len
 have hh := h.g.h2
 unfold f_linotyperef34_Pen_With
 rw [app_eq (by simp; omega), List.nil_append]
 simp only [bsm]
 rw [idx_at (show i < q.L.length by omega), sets_nat (show i < q.L.length by omega)]
 rfl
theorem goon_eq (h : Pv C s k g W q ks) (hd : 0 ≤ q.At.Row ∧ q.At.Row < (ks.length : Int)) : ∃ s' q' ks', f_place_Pen_goOn s (some k) = some s' ∧ f_linotyperef34_Pen_GoOn q = some q' ∧ Pv C s' k g W q' ks' ∧ ks'.length = ks.length ∧
  Hd q'.At W ks.length ∧ q'.At.Pending = false ∧ q'.At.Col = 0 ∧ q'.Auto = q.Auto := by
 obtain ⟨i, hi⟩ : ∃ i : Nat, q.At.Row = (i : Int) := ⟨q.At.Row.toNat, by omega⟩
 have hik : i < ks.length := by omega
 have hl := h.len
 obtain ⟨r, r1, r2, r3⟩ := h.g.at hik
 have hrow := h.row hik (r := ⟨r.cells, true⟩) r2 r3
 have h2 := hrow.set ⟨q.At.Row, 0, false⟩ q.Auto
 have w1 := h.g.w1
 unfold f_place_Pen_goOn f_linotyperef34_Pen_GoOn
 simp only [bsm, h.p, hi]
 rw [grid_row h.g hik]
 simp only [bsm]
 rw [row_goon (l := r.cells) (w := r.wrap) r1]
 simp only [bsm]
 rw [hrow.p]
 simp only [bsm, f_cursor_Return]
 rw [set_pen (get_lt hrow.p)]
 simp only [bsm]
 rw [idx_at (show i < q.L.length by omega), h.at hik, ln_eq r1]
 simp only [bsm]
 rw [ref_with h hik]
 simp only [bsm, hi]
 obtain ⟨s', q', ks', n1, n2, n3, n4, n5, n6, n7, n8⟩ := newline_eq h2
 rw [hi] at n1 n2
 rw [n1, n2]
 refine ⟨s', q', ks', rfl, rfl, n3, n4, n5, n6, ?_, n8⟩
 rw [n7]
 simp only [hc]
 omega
theorem paint_eq (h : Pv C s k g W q ks) {i a : Nat} (hi : i < ks.length) (hp : Snd p) (hn : 1 ≤ p.length) (ha : a + p.length ≤ W) : ∃ s' q', f_row_Row_Paint s (some ks[i]) a p = some (s', Er.nil) ∧ f_linotyperef34_Pen_Paint q i a p = some q' ∧
  Pv C s' k g W q' ks ∧ q'.At = q.At ∧ q'.Auto = q.Auto ∧ q'.L = q.L.set i ⟨pl (ln s ks[i]).Cells a p, pw (ln s ks[i]).Cells (ln s ks[i]).Wrap a p.length⟩ := by
 obtain ⟨r, r1, r2, r3⟩ := h.g.at hi
 have w2 := h.g.w2
 have hl := h.len
 have hrow := h.row hi (r := ⟨pl r.cells a p, pw r.cells r.wrap a p.length⟩) (r2.paint hp (by rw [r3]; exact ha)) (by rw [pl_len]; exact r3)
 refine ⟨_, _, row_paint (l := r.cells) (w := r.wrap) r1 r2 (by omega) hp hn (by omega), ?_, hrow, rfl, rfl, by rw [ln_eq r1]⟩
 unfold f_linotyperef34_Pen_Paint
 rw [idx_at (show i < q.L.length by omega), h.at hi, ln_eq r1]
 simp only [bsm]
 rw [ref_paint _ _ _ _ (by omega) (by omega) (by omega)]
 simp only [bsm]
 rw [ref_with h hi]
 rfl
end Go.Proofs.YthokmpbbkpjhbaaGreatDoor
namespace Go.Proofs.YthokmpbbkpjhbaaGreatDoor
open Go Go.Lt
def ca (c : G_api_Cursor) (d W : Nat) (au : Bool) : G_api_Cursor := if c.Col < (W : Int) - d then ⟨c.Row, c.Col + d, false⟩ else ⟨c.Row, (W : Int) - 1, au⟩
theorem cur_after (c : G_api_Cursor) {d W : Nat} (hd : d = 1 ∨ d = 2) (w1 : 1 ≤ W) (w2 : W ≤ 1024) (hc : 0 ≤ c.Col ∧ c.Col < (W : Int)) (au : Bool) : f_cursor_After c d W au = some (ca c d W au) := by
 unfold f_cursor_After ca
 rw [cur_side w1 w2]
 simp only [bsm, imax_eq, imin_eq]
 rw [show max (1 : Int) (min (d : Int) 2) = (d : Int) by omega, w64_in (by omega), w64_in (by omega), w64_in (by omega)]
 by_cases h : c.Col < (W : Int) - d
 ·rw [if_pos (by simpa using h), if_pos h]
 ·rw [if_neg (by simpa using h), if_neg h]
theorem ref_after (c : G_api_Cursor) {d W : Nat} (hd : d = 1 ∨ d = 2) (w1 : 1 ≤ W) (w2 : W ≤ 1024) (hc : 0 ≤ c.Col ∧ c.Col < (W : Int)) (au : Bool) : f_linotyperef31_After c d W au = some (ca c d W au) := by
 unfold f_linotyperef31_After ca
 have hz : (if decide ((d : Int) > 1) = true then (some 2 : Option Int) else some 1) = some (d : Int) := by
  rcases hd with rfl | rfl <;> rfl
 rw [hz]
 simp only [bsm]
 rw [ref_side w1 w2]
 simp only [bsm]
 rw [w64_in (by omega), w64_in (by omega), w64_in (by omega)]
 by_cases h : c.Col < (W : Int) - d
 ·rw [if_neg (by simp; omega), if_pos h]
 ·rw [if_pos (by simp; omega), if_neg h]
variable {s C : Sto} {g k W : Nat} {ks : List Nat} {q : G_linotyperef34_Pen}
theorem ca_hd {c : G_api_Cursor} {d h : Nat} (hd : d = 1 ∨ d = 2) (w1 : 1 ≤ W) (hc : 0 ≤ c.Col ∧ c.Col < (W : Int)) (hr : 0 ≤ c.Row ∧ c.Row < (h : Int)) (au : Bool) : Hd (ca c d W au) W h := by
 unfold ca
 by_cases h : c.Col < (W : Int) - d
 ·rw [if_pos h]
  exact ⟨hr, by simp only; omega, fun e => by cases e⟩
 ·rw [if_neg h]
  exact ⟨hr, by simp only; omega, fun _ => rfl⟩
theorem strip_d (d : Nat) (hd : d = 1 ∨ d = 2) (t : List Int) : (strip (d : Int) t).length = d := by
 unfold strip
 rcases hd with rfl | rfl <;> (repeat' split) <;> first | rfl | (exfalso; omega)
def fld (q : G_linotyperef34_Pen) : (List G_api_Line) × Int × Int × Bool × Bool := (q.L, q.At.Row, q.At.Col, q.At.Pending, q.Auto)
def rp1 (q : G_linotyperef34_Pen) : Option ((List G_api_Line) × Int × Int × Bool × Bool) :=
 if q.At.Pending = true then
 (f_linotyperef34_Pen_GoOn q).bind fun x_34 =>
 (some (x_34.L, x_34.At.Row, x_34.At.Col, x_34.At.Pending, x_34.Auto) : Option ((List G_api_Line) × Int × Int × Bool × Bool))
 else
 (some (q.L, q.At.Row, q.At.Col, q.At.Pending, q.Auto) : Option ((List G_api_Line) × Int × Int × Bool × Bool))
def rp2 (d W : Int) (z_28 : (List G_api_Line) × Int × Int × Bool × Bool) : Option ((List G_api_Line) × Int × Int × Bool × Bool) :=
 (andE (d == 2) (some (z_28.2.2.1 == (w64 (W - 1))))).bind fun d_40 =>
 if d_40 = true then
 if z_28.2.2.2.2 = true then
 (rep 1 (⟨0, ([] : List Int)⟩ : G_api_Cell)).bind fun x_58 =>
 (f_linotyperef34_Pen_Paint (⟨z_28.1, (⟨z_28.2.1, z_28.2.2.1, z_28.2.2.2.1⟩ : G_api_Cursor), z_28.2.2.2.2⟩ : G_linotyperef34_Pen) z_28.2.1 (w64 (W - 1)) x_58).bind fun x_59 =>
 (f_linotyperef34_Pen_GoOn x_59).bind fun x_60 =>
 (some (x_60.L, x_60.At.Row, x_60.At.Col, x_60.At.Pending, x_60.Auto) : Option ((List G_api_Line) × Int × Int × Bool × Bool))
 else
 (some (z_28.1, z_28.2.1, (w64 (W - 2)), z_28.2.2.2.1, z_28.2.2.2.2) : Option ((List G_api_Line) × Int × Int × Bool × Bool))
 else
 (some (z_28.1, z_28.2.1, z_28.2.2.1, z_28.2.2.2.1, z_28.2.2.2.2) : Option ((List G_api_Line) × Int × Int × Bool × Bool))
def cp1 (s : Sto) (p0 : Option Nat) : Option Sto :=
 (p0).bind fun k_3 =>
 (s.place_Pen[k_3]?).bind fun o_6 =>
 if o_6.At.Pending = true then
 (f_place_Pen_goOn s p0).bind fun x_9 =>
 (some (x_9) : Option (Sto))
 else
 (some (s) : Option (Sto))
theorem room1 (h : Pv C s k g W q ks) (hd : Hd q.At W ks.length) : ∃ s' q' ks', cp1 s (some k) = some s' ∧ rp1 q = some (fld q') ∧ Pv C s' k g W q' ks' ∧ ks'.length = ks.length ∧ Hd q'.At W ks.length ∧ q'.Auto = q.Auto ∧ q'.At.Pending = false := by
 unfold cp1 rp1
 simp only [bsm, h.p]
 cases hp : q.At.Pending with
 | false =>
  simp only [Bool.false_eq_true, if_false]
  exact ⟨s, q, ks, rfl, by unfold fld; rw [hp], h, rfl, hd, rfl, hp⟩
 | true =>
  simp only [if_true]
  obtain ⟨s', q', ks', a1, a2, a3, a4, a5, a6, a7, a8⟩ := goon_eq h hd.rr
  rw [a1, a2]
  exact ⟨s', q', ks', rfl, rfl, a3, a4, a5, a8, a6⟩
theorem room_eq (h : Pv C s k g W q ks) (hd : Hd q.At W ks.length) {d : Nat} (hdd : d = 1 ∨ d = 2) (hdw : d ≤ W) :
  ∃ s' q' ks' z, f_place_Pen_room s (some k) d = some s' ∧ rp1 q = some z ∧ rp2 d W z = some (fld q') ∧ Pv C s' k g W q' ks' ∧ ks'.length = ks.length ∧ (0 ≤ q'.At.Row ∧ q'.At.Row < (ks.length : Int)) ∧ (0 ≤ q'.At.Col ∧ q'.At.Col + d ≤ (W : Int)) ∧ q'.Auto = q.Auto := by
 obtain ⟨s1, q1, ks1, a1, a2, v1, n1, hd1, au1, pe1⟩ := room1 h hd
 have w1 := h.g.w1
 have w2 := h.g.w2
 have hcc := hd1.cc
 unfold f_place_Pen_room
 change ∃ s' q' ks' z, ((cp1 s (some k)).bind _) = some s' ∧ _
 rw [a1]
 simp only [bsm, v1.p]
 rw [grid_wide v1.g]
 simp only [bsm, orE_some]
 have e1 : w64 ((W : Int) - 1) = ((W - 1 : Nat) : Int) := by rw [w64_in (by omega)]; omega
 have e2 : w64 ((W : Int) - 2) = (W : Int) - 2 := w64_in (by omega)
 rw [e1]
 unfold rp2
 by_cases hA : d = 1 ∨ q1.At.Col < (W : Int) - 1
 ·rw [if_pos (by simp only [Bool.or_eq_true, beq_iff_eq, decide_eq_true_eq]; omega)]
  refine ⟨s1, q1, ks1, _, rfl, a2, ?_, v1, n1, hd1.rr, by omega, au1⟩
  simp only [fld, andE_some, bsm, e1]
  rw [if_neg (by simp only [Bool.and_eq_true, beq_iff_eq]; omega)]
 ·rw [if_neg (by simp only [Bool.or_eq_true, beq_iff_eq, decide_eq_true_eq]; omega)]
  have hd2 : d = 2 := by omega
  have hcol : q1.At.Col = (W : Int) - 1 := by omega
  obtain ⟨i, hi⟩ : ∃ i : Nat, q1.At.Row = (i : Int) := ⟨q1.At.Row.toNat, by have := hd1.rr; omega⟩
  have hik : i < ks1.length := by have := hd1.rr; omega
  cases hau : q1.Auto with
  | true =>
   simp only [if_true]
   rw [hi, grid_row v1.g hik]
   simp only [bsm]
   rw [show f_cell_Blanks 1 = some [bl] from blanks 1]
   simp only [bsm]
   obtain ⟨s2, q2, b1, b2, v2, at2, au2, _⟩ := paint_eq (p := [bl]) (a := W - 1) v1 hik (snd_bl 1) (by decide) (by simp; omega)
   rw [b1]
   simp only [bsm]
   obtain ⟨s3, q3, ks3, c1, c2, v3, n3, hd3, pe3, co3, au3⟩ := goon_eq v2 (by rw [at2, n1]; exact hd1.rr)
   rw [c1]
   refine ⟨s3, q3, ks3, _, rfl, a2, ?_, v3, n3.trans n1, by rw [← n1]; exact hd3.rr, by rw [co3]; omega, by rw [au3, au2, au1]⟩
   simp only [fld, andE_some, bsm, e1]
   rw [if_pos (by simp only [Bool.and_eq_true, beq_iff_eq]; omega)]
   simp only [hau, if_true]
   rw [rep_eq _ (by decide), hi]
   simp only [bsm]
   rw [show (List.replicate (1 : Int).toNat (⟨0, []⟩ : G_api_Cell)) = [bl] from rfl]
   have b2' : f_linotyperef34_Pen_Paint ⟨q1.L, ⟨(i : Int), q1.At.Col, q1.At.Pending⟩, true⟩ i ((W - 1 : Nat) : Int) [bl] = some q2 := by rw [← hi, ← hau]; rw [← hi] at b2; exact b2
   rw [b2']
   simp only [bsm]
   rw [c2]
   rfl
  | false =>
   simp only [Bool.false_eq_true, if_false]
   rw [set_pen (get_lt v1.p)]
   simp only [bsm]
   have e3 : w64 (q1.At.Col - 1) = (W : Int) - 2 := by rw [w64_in (by omega)]; omega
   have v2 := v1.set ⟨q1.At.Row, (W : Int) - 2, q1.At.Pending⟩ q1.Auto
   rw [hau] at v2
   rw [e3]
   refine ⟨_, _, ks1, _, rfl, a2, ?_, v2, n1, hd1.rr, by simp only; omega, by simp only; rw [← hau]; exact au1⟩
   simp only [fld, andE_some, bsm, e1, e2]
   rw [if_pos (by simp only [Bool.and_eq_true, beq_iff_eq]; omega)]
   simp only [hau, Bool.false_eq_true, if_false]
def cl2 (p1 : Int) (t : List Int) (W : Nat) : Nat × List Int := if max 1 (min p1 2) > (W : Int) then (1, [65533]) else ((max 1 (min p1 2)).toNat, t)
theorem cl2_d (p1 : Int) (t : List Int) (w1 : 1 ≤ W) : ((cl2 p1 t W).1 = 1 ∨ (cl2 p1 t W).1 = 2) ∧ (cl2 p1 t W).1 ≤ W := by
 unfold cl2
 split
 ·exact ⟨.inl rfl, w1⟩
 ·simp only
  omega
theorem cl2_eq (p1 : Int) (t : List Int) : (if (decide ((imax 1 (imin p1 2)) > (W : Int))) = true then (some (1, ([65533] : List Int)) : Option (Int × (List Int))) else (some ((imax 1 (imin p1 2)), t) : Option (Int × (List Int)))) = some (((cl2 p1 t W).1 : Int), (cl2 p1 t W).2) := by
 rw [imin_eq, imax_eq]
 unfold cl2
 by_cases h : max 1 (min p1 2) > (W : Int)
 ·rw [if_pos (by simpa using h), if_pos h]
  rfl
 ·rw [if_neg (by simpa using h), if_neg h]
  simp only
  rw [Int.toNat_of_nonneg (by omega)]
theorem put_eq (h : Pv C s k g W q ks) (p1 : Int) (t : List Int) (ht : t.length ≤ 1000000) : ∃ (s' : Sto) (q' : G_linotyperef34_Pen) (ks' : List Nat) (i a : Nat), i < ks.length ∧ f_place_Pen_Put s (some k) p1 t = some (s', ⟨(i : Int), (a : Int), false⟩) ∧ f_linotyperef34_Pen_Put q p1 t = some (q', ⟨(i : Int), (a : Int), false⟩) ∧
  Pv C s' k g W q' ks' ∧ ks'.length = ks.length ∧ Hd q'.At W ks.length ∧ q'.Auto = q.Auto ∧ a + (cl2 p1 t W).1 ≤ W ∧
  ∃ l0 w0, l0.length = W ∧ q'.L[i]? = some ⟨pl l0 a (strip (cl2 p1 t W).1 (fx (cl2 p1 t W).2)), w0⟩ := by
 have hl : (cl2 p1 t W).2.length ≤ 1000000 := by unfold cl2; split <;> simp; exact ht
 obtain ⟨hdd, hdw⟩ := cl2_d p1 t h.g.w1
 have hce := cl2_eq (W := W) p1 t
 have w1 := h.g.w1
 have w2 := h.g.w2
 have h1 := h.set (hc q.At W ks.length) q.Auto
 have hd := hc_hd q.At h.g.w1 h.g.h1
 unfold f_place_Pen_Put f_linotyperef34_Pen_Put
 rw [pen_ready h, ref_Hold h]
 generalize hc q.At W ks.length = c at *
 simp only [bsm, Bool.not_true, Bool.false_eq_true, if_false, h1.p]
 rw [grid_wide h1.g, ref_wide h1]
 simp only [bsm]
 rw [hce]
 generalize (cl2 p1 t W).2 = t2 at *
 generalize (cl2 p1 t W).1 = d at *
 simp only [bsm]
 obtain ⟨s2, q2, ks2, z, a1, a2, a3, v2, n2, hr, hcl, au⟩ := room_eq h1 hd hdd hdw
 rw [a1]
 obtain ⟨i, hi⟩ : ∃ i : Nat, q2.At.Row = (i : Int) := ⟨q2.At.Row.toNat, by omega⟩
 obtain ⟨a, ha⟩ : ∃ a : Nat, q2.At.Col = (a : Int) := ⟨q2.At.Col.toNat, by omega⟩
 have hik : i < ks2.length := by omega
 obtain ⟨L2, ⟨row2, col2, pd2⟩, ua2⟩ := q2
 simp only at hi ha hr hcl au
 subst hi ha
 simp only [bsm, v2.p]
 rw [grid_row v2.g hik]
 simp only [bsm]
 unfold f_mark_Put
 rw [cell_of _ _ (by omega)]
 simp only [bsm]
 have hsl := strip_d d hdd (fx t2)
 obtain ⟨s3, q3, b1, b2, v3, at3, au3, l3⟩ := paint_eq (p := strip d (fx t2)) (a := a) v2 hik (snd_fx _ _) (by rw [hsl]; omega) (by rw [hsl]; omega)
 rw [b1]
 simp only [bsm, v3.p]
 rw [grid_wide v3.g]
 simp only [bsm]
 have hc2 : 0 ≤ (⟨(i : Int), (a : Int), false⟩ : G_api_Cursor).Col ∧ (⟨(i : Int), (a : Int), false⟩ : G_api_Cursor).Col < (W : Int) := by simp only; omega
 rw [cur_after _ hdd w1 w2 hc2]
 simp only [bsm]
 rw [set_pen (get_lt v3.p)]
 simp only [bsm]
 have v4 := v3.set (ca ⟨(i : Int), (a : Int), false⟩ d W q3.Auto) q3.Auto
 change ∃ s' q' ks' i_1 a_1, _ ∧ _ ∧ ((rp1 ⟨q.L, c, q.Auto⟩).bind fun z_28 => (rp2 d W z_28).bind _) = _ ∧ _
 rw [a2]
 simp only [bsm]
 rw [a3]
 simp only [fld, bsm]
 rw [ref_of _ _ (by omega)]
 simp only [bsm]
 rw [b2]
 simp only [bsm]
 rw [ref_after _ hdd w1 w2 hc2]
 simp only [bsm]
 refine ⟨_, _, ks2, i, a, by omega, rfl, rfl, v4, n2, ca_hd hdd w1 hc2 (by simp only; omega) _, by simp only; rw [au3, au], by omega, (ln s2 ks2[i]).Cells, pw (ln s2 ks2[i]).Cells (ln s2 ks2[i]).Wrap a (strip d (fx t2)).length, ?_, ?_⟩
 ·have := v2.ok _ (List.getElem_mem (show i < L2.length by have := v2.len; simp only at this; omega))
  rw [v2.at hik] at this
  exact this.2
 ·simp only
  rw [l3, List.getElem?_set_self (by have := v2.len; simp only at this ⊢; omega)]
end Go.Proofs.YthokmpbbkpjhbaaGreatDoor
namespace Go.Proofs.YthokmpbbkpjhbaaGreatDoor
open Go Go.Lt
variable {s : Sto} {k g W : Nat} {l p p' : List G_api_Cell} {w : Bool} {q : G_linotyperef34_Pen} {ks : List Nat}
theorem tch_iff (l : List G_api_Cell) (a n j : Nat) : tch l a n j = true ↔ (a ≤ j ∧ j < a + n) ∨ (kd l j = 2 ∧ a ≤ j + 1 ∧ j + 1 < a + n) ∨ (kd l j = 3 ∧ a + 1 ≤ j ∧ j < a + n + 1) := by
 simp only [tch, Bool.or_eq_true, Bool.and_eq_true, decide_eq_true_eq]
 omega
theorem pc_off {c j : Nat} (h : ¬ (c ≤ j ∧ j < c + p.length)) : pc l c p j = if (kd l j = 2 ∧ j + 1 = c ∧ 0 < p.length) ∨ (kd l j = 3 ∧ j = c + p.length ∧ 0 < p.length) then bl else l.getD j bl := by
 rw [pc_out h]
 by_cases ht : tch l c p.length j = true
 ·rw [if_pos ht, if_pos]
  rw [tch_iff] at ht
  omega
 ·rw [if_neg ht, if_neg]
  rw [tch_iff] at ht
  omega
theorem kd_off {c j : Nat} (hj : j < l.length) (h : ¬ (c ≤ j ∧ j < c + p.length)) : kd (pl l c p) j = if (kd l j = 2 ∧ j + 1 = c ∧ 0 < p.length) ∨ (kd l j = 3 ∧ j = c + p.length ∧ 0 < p.length) then 0 else kd l j := by
 rw [kd_pl hj, pc_off h]
 split
 ·rfl
 ·exact kd_getD l j
theorem pl_over {a c : Nat} (h1 : a ≤ c) (h2 : c + p.length ≤ a + p'.length) (h3 : a + p'.length ≤ l.length) : pl (pl l c p) a p' = pl l a p' := by
 apply List.ext_getElem?
 intro j
 rcases Nat.lt_or_ge j l.length with hj | hj
 ·rw [pl_get (by rw [pl_len]; exact hj), pl_get hj]
  congr 1
  by_cases hi : a ≤ j ∧ j < a + p'.length
  ·rw [pc_in hi, pc_in hi]
  ·have hc : ¬ (c ≤ j ∧ j < c + p.length) := by omega
   have hg : (pl l c p).getD j bl = pc l c p j := by rw [List.getD_eq_getElem?_getD, pl_get hj]; rfl
   rw [pc_off hi, pc_off hi, kd_off hj hc, hg, pc_off hc]
   by_cases hA : (kd l j = 2 ∧ j + 1 = c ∧ 0 < p.length) ∨ (kd l j = 3 ∧ j = c + p.length ∧ 0 < p.length)
   ·rw [if_pos hA, if_pos hA, if_neg (by omega), if_pos (by omega)]
   ·rw [if_neg hA, if_neg hA]
 ·rw [List.getElem?_eq_none (by rw [pl_len, pl_len]; exact hj), List.getElem?_eq_none (by rw [pl_len]; exact hj)]
theorem pw_over {a c : Nat} (h1 : a ≤ c) (h2 : c + p.length ≤ a + p'.length) (h3 : a + p'.length ≤ l.length) : pw (pl l c p) (pw l w c p.length) a p'.length = pw l w a p'.length := by
 unfold pw
 rw [pl_len]
 by_cases hl : 0 < l.length
 ·have e : (tch l c p.length (l.length - 1) || tch (pl l c p) a p'.length (l.length - 1)) = tch l a p'.length (l.length - 1) := by
   rw [Bool.eq_iff_iff, Bool.or_eq_true, tch_iff, tch_iff, tch_iff]
   by_cases hc : c ≤ l.length - 1 ∧ l.length - 1 < c + p.length
   ·omega
   ·rw [kd_off (by omega) hc]
    split <;> omega
  rw [show decide (0 < l.length) = true by simpa using hl, Bool.true_and, Bool.true_and, Bool.and_assoc, ← Bool.not_or, e, Bool.true_and]
 ·rw [show decide (0 < l.length) = false by simpa using hl]
  simp
end Go.Proofs.YthokmpbbkpjhbaaGreatDoor
namespace Go.Proofs.YthokmpbbkpjhbaaGreatDoor
open Go Go.Lt
variable {s C : Sto} {k g W : Nat} {l p p' : List G_api_Cell} {w : Bool} {q : G_linotyperef34_Pen} {ks : List Nat}
def rdy (q : G_linotyperef34_Pen) (W H d : Nat) : Option ((List G_api_Line) × Int × Int × Bool × Bool) := (rp1 ⟨q.L, hc q.At W H, q.Auto⟩).bind (rp2 d W)
def putq (L : List G_api_Line) (i a d W : Nat) (au : Bool) (t : List Int) : G_linotyperef34_Pen :=
 ⟨L.set i ⟨pl (L.getD i dl).Cells a (strip d (fx t)), pw (L.getD i dl).Cells (L.getD i dl).Wrap a d⟩, ca ⟨(i : Int), (a : Int), false⟩ d W au, au⟩
theorem ref_paint_at {L : List G_api_Line} {c : G_api_Cursor} {au : Bool} {i a : Nat} (hi : i < L.length) (hL : L.length ≤ 1024) (hw : (L.getD i dl).Cells.length ≤ 1024) (hp : p.length ≤ 1000000) (ha : a ≤ 1000000) :
  f_linotyperef34_Pen_Paint ⟨L, c, au⟩ i a p = some ⟨L.set i ⟨pl (L.getD i dl).Cells a p, pw (L.getD i dl).Cells (L.getD i dl).Wrap a p.length⟩, c, au⟩ := by
 unfold f_linotyperef34_Pen_Paint f_linotyperef34_Pen_With
 simp only [gdl hi] at hw ⊢
 simp only [idx_at hi, bsm]
 rw [ref_paint _ _ _ _ (by omega) ha hp]
 simp only [bsm]
 rw [app_eq (by simp; omega), List.nil_append]
 simp only [bsm]
 rw [idx_at hi, sets_nat hi]
 rfl
theorem put_of_room {L2 : List G_api_Line} {i a d : Nat} {pd au : Bool} (hdd : d = 1 ∨ d = 2) (h : Pv C s k g W q ks) (hr : rdy q W ks.length d = some (L2, (i : Int), (a : Int), pd, au)) (hi : i < ks.length) (ha : a + d ≤ W) (hL : L2.length = ks.length) (hok : ∀ x ∈ L2, Okl W x) (p1 : Int) (t : List Int) (ht : t.length ≤ 1000000)
  (hcl : (cl2 p1 t W).1 = d) : f_linotyperef34_Pen_Put q p1 t = some (putq L2 i a d W au (cl2 p1 t W).2, ⟨(i : Int), (a : Int), false⟩) := by
 have hl : (cl2 p1 t W).2.length ≤ 1000000 := by unfold cl2; split <;> simp; exact ht
 have hce := cl2_eq (W := W) p1 t
 have w1 := h.g.w1
 have w2 := h.g.w2
 have h1 := h.set (hc q.At W ks.length) q.Auto
 have h2 := h.g.h2
 unfold f_linotyperef34_Pen_Put
 rw [ref_Hold h]
 unfold rdy at hr
 generalize hc q.At W ks.length = c at *
 simp only [bsm]
 rw [ref_wide h1]
 simp only [bsm]
 rw [hce, hcl]
 generalize (cl2 p1 t W).2 = t2 at *
 simp only [bsm]
 have hsl := strip_d d hdd (fx t2)
 have hc2 : 0 ≤ (⟨(i : Int), (a : Int), false⟩ : G_api_Cursor).Col ∧ (⟨(i : Int), (a : Int), false⟩ : G_api_Cursor).Col < (W : Int) := by simp only; omega
 obtain ⟨z, hz1, hz2⟩ := bs hr
 change ((rp1 ⟨q.L, c, q.Auto⟩).bind fun z_28 => (rp2 d W z_28).bind _) = _
 rw [hz1]
 simp only [bsm]
 rw [hz2]
 simp only [bsm]
 rw [ref_of _ _ (by omega)]
 simp only [bsm]
 have hlt : i < L2.length := by omega
 have hcells : (L2.getD i dl).Cells.length = W := by
  rw [gdl hlt]
  exact (hok _ (List.getElem_mem hlt)).2
 rw [ref_paint_at hlt (by omega) (by omega) (by omega) (by omega)]
 simp only [bsm]
 rw [ref_after _ hdd w1 w2 hc2]
 simp only [bsm, putq, hsl]
theorem rdy_ok (h : Pv C s k g W q ks) {d : Nat} (hdd : d = 1 ∨ d = 2) (hdw : d ≤ W) : ∃ L2 i a pd, rdy q W ks.length d = some (L2, ((i : Nat) : Int), ((a : Nat) : Int), pd, q.Auto) ∧ i < ks.length ∧ a + d ≤ W ∧ L2.length = ks.length ∧ (∀ x ∈ L2, Okl W x) := by
 have h1 := h.set (hc q.At W ks.length) q.Auto
 have hd := hc_hd q.At h.g.w1 h.g.h1
 obtain ⟨s2, q2, ks2, z, _, a2, a3, v2, n2, hr, hcl, au⟩ := room_eq h1 hd hdd hdw
 obtain ⟨i, hi⟩ : ∃ i : Nat, q2.At.Row = (i : Int) := ⟨q2.At.Row.toNat, by omega⟩
 obtain ⟨a, ha⟩ : ∃ a : Nat, q2.At.Col = (a : Int) := ⟨q2.At.Col.toNat, by omega⟩
 refine ⟨q2.L, i, a, q2.At.Pending, ?_, by omega, by omega, by rw [v2.len, n2], v2.ok⟩
 unfold rdy
 rw [a2]
 simp only [bsm]
 rw [a3]
 simp only [fld, hi, ha, au]
theorem rdy_one (h : Pv C s k g W q ks) : ∃ L1 i c, rp1 ⟨q.L, hc q.At W ks.length, q.Auto⟩ = some (L1, ((i : Nat) : Int), ((c : Nat) : Int), false, q.Auto) ∧ i < ks.length ∧ c + 1 ≤ W ∧ L1.length = ks.length ∧ (∀ x ∈ L1, Okl W x) := by
 have h1 := h.set (hc q.At W ks.length) q.Auto
 have hd := hc_hd q.At h.g.w1 h.g.h1
 obtain ⟨s2, q2, ks2, a1, a2, v2, n2, hd2, au, pe⟩ := room1 h1 hd
 have hr := hd2.rr
 have hcc := hd2.cc
 obtain ⟨i, hi⟩ : ∃ i : Nat, q2.At.Row = (i : Int) := ⟨q2.At.Row.toNat, by omega⟩
 obtain ⟨a, ha⟩ : ∃ a : Nat, q2.At.Col = (a : Int) := ⟨q2.At.Col.toNat, by omega⟩
 refine ⟨q2.L, i, a, ?_, by omega, by omega, by rw [v2.len, n2], v2.ok⟩
 rw [a2]
 simp only [fld, hi, ha, au, pe]
theorem rp2_one (W : Int) (z : (List G_api_Line) × Int × Int × Bool × Bool) : rp2 1 W z = some z := by
 unfold rp2
 simp only [andE_some, bsm]
 rw [if_neg (by simp)]
theorem put_again (h : Pv C s k g W q ks) {p1 p2 : Int} {t1 t2 : List Int} (ht1 : t1.length ≤ 1000000) (ht2 : t2.length ≤ 1000000) (hc1 : (cl2 p1 t1 W).1 = 1) {q' : G_linotyperef34_Pen} {at_ : G_api_Cursor} (hp : f_linotyperef34_Pen_Put q p1 t1 = some (q', at_))
  {s' C' : Sto} {ks' : List Nat} (h' : Pv C' s' k g W q' ks') (hk : ks'.length = ks.length) : f_linotyperef34_Pen_Put ⟨q'.L, at_, q'.Auto⟩ p2 t2 = f_linotyperef34_Pen_Put q p2 t2 := by
 obtain ⟨L1, i, c, e1, hi, hcw, hL1, hok1⟩ := rdy_one h
 have w1 := h.g.w1
 have w2 := h.g.w2
 have hh2 := h.g.h2
 have r1 : rdy q W ks.length 1 = some (L1, (i : Int), (c : Int), false, q.Auto) := by
  unfold rdy
  rw [e1]
  exact rp2_one (W : Int) _
 have hq := put_of_room (.inl rfl) h r1 hi hcw hL1 hok1 p1 t1 ht1 hc1
 rw [hp] at hq
 simp only [Option.some.injEq, Prod.mk.injEq] at hq
 obtain ⟨rfl, rfl⟩ := hq
 simp only [putq]
 have hlt : i < L1.length := by omega
 generalize hX : (⟨pl (L1.getD i dl).Cells c (strip (1 : Nat) (fx (cl2 p1 t1 W).2)), pw (L1.getD i dl).Cells (L1.getD i dl).Wrap c 1⟩ : G_api_Line) = X
 have hst := strip_d 1 (.inl rfl) (fx (cl2 p1 t1 W).2)
 have hcells : (L1.getD i dl).Cells.length = W := by
  rw [gdl hlt]
  exact (hok1 _ (List.getElem_mem hlt)).2
 have hXc : X.Cells.length = W := by rw [← hX]; simp only [pl_len]; exact hcells
 have h2 := h'.set ⟨(i : Int), (c : Int), false⟩ q.Auto
 simp only [putq] at h2
 rw [hX] at h2
 have hcid : hc ⟨(i : Int), (c : Int), false⟩ W ks.length = ⟨(i : Int), (c : Int), false⟩ := hc_id ⟨by simp only; omega, by simp only; omega, fun e => by cases e⟩
 have e2 : rp1 ⟨L1.set i X, hc ⟨(i : Int), (c : Int), false⟩ W ks'.length, q.Auto⟩ = some (L1.set i X, (i : Int), (c : Int), false, q.Auto) := by
  rw [hk, hcid]
  unfold rp1
  simp only [Bool.false_eq_true, if_false]
 have hg : (L1.set i X).getD i dl = X := by
  rw [List.getD_eq_getElem?_getD, List.getElem?_set_self hlt]
  rfl
 have hokX : ∀ x ∈ L1.set i X, Okl W x := h2.ok
 obtain ⟨hdd, hdw⟩ := cl2_d p2 t2 w1
 have over : ∀ (a d : Nat), d = 1 ∨ d = 2 → a ≤ c → c + 1 ≤ a + d → a + d ≤ W → ∀ p : List G_api_Cell, p.length = d → (L1.set i X).set i ⟨pl ((L1.set i X).getD i dl).Cells a p, pw ((L1.set i X).getD i dl).Cells ((L1.set i X).getD i dl).Wrap a d⟩ = L1.set i ⟨pl (L1.getD i dl).Cells a p, pw (L1.getD i dl).Cells (L1.getD i dl).Wrap a d⟩ := by
  intro a d _ g1 g2 g3 p hpl
  rw [hg, List.set_set]
  congr 1
  rw [← hX]
  simp only
  have o1 := pl_over (l := (L1.getD i dl).Cells) (p := strip (1 : Nat) (fx (cl2 p1 t1 W).2)) (p' := p) g1 (by omega) (by omega)
  have o2 := pw_over (l := (L1.getD i dl).Cells) (w := (L1.getD i dl).Wrap) (p := strip (1 : Nat) (fx (cl2 p1 t1 W).2)) (p' := p) g1 (by omega) (by omega)
  rw [hst, hpl] at o2
  rw [o1, o2]
 have fin : ∀ (a d : Nat) (pd pd' : Bool), d = 1 ∨ d = 2 → (cl2 p2 t2 W).1 = d → a ≤ c → c + 1 ≤ a + d → a + d ≤ W → rdy q W ks.length d = some (L1, (i : Int), (a : Int), pd, q.Auto) → rdy ⟨L1.set i X, ⟨(i : Int), (c : Int), false⟩, q.Auto⟩ W ks'.length d = some (L1.set i X, (i : Int), (a : Int), pd', q.Auto) →
   f_linotyperef34_Pen_Put ⟨L1.set i X, ⟨(i : Int), (c : Int), false⟩, q.Auto⟩ p2 t2 = f_linotyperef34_Pen_Put q p2 t2 := by
  intro a d pd pd' g0 g1 g2 g3 g4 b1 b2
  rw [put_of_room g0 h b1 hi g4 hL1 hok1 p2 t2 ht2 g1, put_of_room g0 h2 b2 (by omega) g4 (by rw [List.length_set]; omega) hokX p2 t2 ht2 g1]
  have := over a d g0 g2 g3 g4 (strip d (fx (cl2 p2 t2 W).2)) (strip_d d g0 _)
  unfold putq
  rw [this]
 have f1 : ∀ (L : List G_api_Line) (d : Nat), d = 2 → c + 1 < W → rp2 d W (L, (i : Int), (c : Int), false, q.Auto) = some (L, (i : Int), (c : Int), false, q.Auto) := by
  intro L d hd hcn
  unfold rp2
  simp only [andE_some, bsm]
  rw [w64_in (by omega), if_neg (by simp only [Bool.and_eq_true, beq_iff_eq]; omega)]
 rcases hdd with hd1 | hd2
 ·refine fin c 1 false false (.inl rfl) hd1 (Nat.le_refl _) (Nat.le_refl _) hcw r1 ?_
  unfold rdy
  rw [e2]
  exact rp2_one (W : Int) _
 ·by_cases hcn : c + 1 < W
  ·refine fin c 2 false false (.inr rfl) hd2 (Nat.le_refl _) (by omega) (by omega) ?_ ?_
   ·unfold rdy
    rw [e1]
    exact f1 _ 2 rfl hcn
   ·unfold rdy
    rw [e2]
    exact f1 _ 2 rfl hcn
  ·have hcW : (c : Int) = (W : Int) - 1 := by omega
   have ew1 : w64 ((W : Int) - 1) = ((W - 1 : Nat) : Int) := by rw [w64_in (by omega)]; omega
   have ew2 : w64 ((W : Int) - 2) = ((W - 2 : Nat) : Int) := by rw [w64_in (by omega)]; omega
   cases hau : q.Auto with
   | true =>
    have hpa : ∀ L : List G_api_Line, L.length = ks.length → (L.getD i dl).Cells.length = W → rp2 (2 : Nat) W (L, (i : Int), (c : Int), false, true) =
      (f_linotyperef34_Pen_GoOn ⟨L.set i ⟨pl (L.getD i dl).Cells (W - 1) [bl], pw (L.getD i dl).Cells (L.getD i dl).Wrap (W - 1) 1⟩, ⟨(i : Int), (c : Int), false⟩, true⟩).bind fun x_60 => (some (x_60.L, x_60.At.Row, x_60.At.Col, x_60.At.Pending, x_60.Auto) : Option ((List G_api_Line) × Int × Int × Bool × Bool)) := by
     intro L hL hLw
     unfold rp2
     simp only [andE_some, bsm]
     rw [if_pos (by simp only [Bool.and_eq_true, beq_iff_eq]; rw [ew1]; omega)]
     simp only [if_true]
     rw [rep_eq _ (by decide)]
     simp only [bsm]
     rw [show (List.replicate (1 : Int).toNat (⟨0, []⟩ : G_api_Cell)) = [bl] from rfl, ew1, ref_paint_at (by omega) (by omega) (by omega) (by decide) (by omega)]
     simp only [bsm]
     rfl
    obtain ⟨L2, i2, a2, pd2, g1, g2, g3, g4, g5⟩ := rdy_ok h (.inr rfl) (by omega : 2 ≤ W)
    have hsame : rdy ⟨L1.set i X, ⟨(i : Int), (c : Int), false⟩, true⟩ W ks'.length 2 = rdy q W ks.length 2 := by
     rw [hau] at e1 e2
     unfold rdy
     rw [hau, e1, e2]
     simp only [bsm]
     rw [hpa _ (by rw [List.length_set]; omega) (by rw [hg]; exact hXc), hpa _ hL1 hcells]
     rw [over (W - 1) 1 (.inl rfl) (by omega) (by omega) (by omega) [bl] rfl]
    rw [hau] at h2
    rw [put_of_room (.inr rfl) h g1 g2 g3 g4 g5 p2 t2 ht2 hd2, put_of_room (.inr rfl) h2 (hsame.trans g1) (by omega) g3 (by omega) g5 p2 t2 ht2 hd2]
   | false =>
    have hna : ∀ L : List G_api_Line, rp2 (2 : Nat) W (L, (i : Int), (c : Int), false, q.Auto) = some (L, (i : Int), ((W - 2 : Nat) : Int), false, q.Auto) := by
     intro L
     unfold rp2
     simp only [andE_some, bsm]
     rw [if_pos (by simp only [Bool.and_eq_true, beq_iff_eq]; rw [ew1]; omega)]
     simp only [hau, Bool.false_eq_true, if_false]
     rw [ew2]
    have key := fin (W - 2) 2 false false (.inr rfl) hd2 (by omega) (by omega) (by omega) (by unfold rdy; rw [e1]; exact hna _) (by unfold rdy; rw [e2]; exact hna _)
    rw [hau] at key
    exact key
end Go.Proofs.YthokmpbbkpjhbaaGreatDoor
namespace Go.Proofs.YthokmpbbkpjhbaaGreatDoor
open Go Go.Lt
variable {s : Sto} {k g W : Nat} {l p p' : List G_api_Cell} {w : Bool} {q : G_linotyperef34_Pen} {ks : List Nat}
theorem fixv_id {x : Int} (h : vld x = true) : fixv x = x := by unfold fixv; rw [if_pos h]
theorem fixv_fixv' (x : Int) : fixv (fixv x) = fixv x := fixv_id (vld_fixv x)
theorem fx_snoc' {t : List Int} (ht : t.length ≤ 15) (x : Int) : fx (t ++ [fixv x]) = fx (t ++ [x]) := by
 unfold fx
 rw [List.take_of_length_le (by simp; omega), List.take_of_length_le (by simp; omega), List.map_append, List.map_append]
 simp [fixv_fixv']
theorem strip_ne {d : Nat} (hd : d = 1 ∨ d = 2) {t : List Int} (ht : t ≠ []) : strip (d : Int) t = if d = 2 then [⟨2, t⟩, ⟨3, []⟩] else [⟨1, t⟩] := by
 unfold strip
 rw [if_neg ht]
 rcases hd with rfl | rfl <;> rfl
theorem mark_more {l0 : List G_api_Cell} {a d : Nat} {t : List Int} (hdd : d = 1 ∨ d = 2) (h : s.row_Row[k]? = some ⟨pl l0 a (strip d t), w⟩) (hs : Snd (pl l0 a (strip d t))) (hl : l0.length ≤ 1024) (ha : a + d ≤ l0.length) (ht1 : 1 ≤ t.length) (ht2 : t.length ≤ 15) (x : Int) :
  f_mark_Add s (some k) a x = some (s.sr k ⟨pl l0 a (strip d (fx (t ++ [x]))), pw (pl l0 a (strip d t)) w a d⟩, true) := by
 have hne : t ≠ [] := fun e => by rw [e] at ht1; simp at ht1
 have hsl := strip_d d hdd t
 have hc : pc l0 a (strip d t) a = ⟨(d : Int), t⟩ := by
  rw [pc_in ⟨Nat.le_refl _, by rw [hsl]; omega⟩, Nat.sub_self, strip_ne hdd hne]
  rcases hdd with rfl | rfl <;> rfl
 have hkd : kd (pl l0 a (strip d t)) a = (d : Int) := by rw [kd_pl (by omega), hc]
 have hm : mat (pl l0 a (strip d t)) (a : Int) = some a := by
  unfold mat
  rw [if_pos (by rw [pl_len]; omega), Int.toNat_natCast, hkd, if_neg (by omega), if_neg (by omega)]
 unfold f_mark_Add
 rw [mark_at h hs a (by omega), hm]
 have hg : (pl l0 a (strip d t)).getD a bl = ⟨(d : Int), t⟩ := by rw [List.getD_eq_getElem?_getD, pl_get (by omega), hc]; rfl
 simp only [bsm, Bool.not_true, orE_false, hg, hkd]
 rw [if_neg (by simp; omega), app_eq (by simp; omega)]
 simp only [bsm]
 have hsl2 := strip_d d hdd (fx (t ++ [x]))
 rw [mark_put h hs (by rw [pl_len]; exact hl) _ (by simp; omega) (by rw [hsl2, pl_len]; exact ha), pl_over (Nat.le_refl a) (by omega) (by omega), hsl2]
 simp only [bsm, Er.isNil]
def zb (b : Int) : Bool := b == 1 || b == 2 || b == 3 || b == 4 || b == 5 || b == 10 || b == 11
def b2 (x : G_api_Prop) : Bool := !zb x.Break && (x.East == 1 || x.East == 2)
theorem basew_none (b : Int) : f_basew_none b = some (zb b) := by
 unfold f_basew_none zb
 by_cases h1 : b = 1
 ·subst h1; rfl
 by_cases h2 : b = 2
 ·subst h2; rfl
 by_cases h3 : b = 3
 ·subst h3; rfl
 by_cases h4 : b = 4
 ·subst h4; rfl
 by_cases h5 : b = 5
 ·subst h5; rfl
 by_cases h6 : b = 10
 ·subst h6; rfl
 by_cases h7 : b = 11
 ·subst h7; rfl
 simp [h1, h2, h3, h4, h5, h6, h7]
theorem basew_of (x : G_api_Prop) : ∃ n, f_basew_Of x = some n ∧ (n == 2) = b2 x := by
 unfold f_basew_Of b2
 rw [basew_none]
 simp only [bsm, orE_some]
 cases zb x.Break with
 | true => exact ⟨0, rfl, rfl⟩
 | false =>
  cases h : (x.East == 1 || x.East == 2) with
  | true => exact ⟨2, by simp [h], rfl⟩
  | false => exact ⟨1, by simp [h], rfl⟩
def gz (y : G_cwidth_Gauge) (r : Int) (x : G_api_Prop) : G_cwidth_Gauge := ⟨true, x.Pict, y.wide || (b2 x || (y.some && ((r == 65039 && y.pict) || x.Pict || x.Break == 6)))⟩
def wz (y : G_cwidth_Gauge) : Int := if y.wide = true then 2 else 1
theorem gauge_step (y : G_cwidth_Gauge) (r : Int) (x : G_api_Prop) : f_cwidth_Gauge_Step__widen_Cluster_21 y r x = some (gz y r x, wz (gz y r x)) := by
 have hw : f_cwidth_Gauge_widens__widen_Cluster_21 y r x = some (b2 x || (y.some && ((r == 65039 && y.pict) || x.Pict || x.Break == 6))) := by
  unfold f_cwidth_Gauge_widens__widen_Cluster_21
  obtain ⟨n, h1, h2⟩ := basew_of x
  rw [h1]
  simp only [bsm, h2, andE_some, orE_some]
  cases b2 x <;> cases y.some <;> rfl
 unfold f_cwidth_Gauge_Step__widen_Cluster_21
 rw [hw]
 simp only [bsm, orE_some, Bool.false_eq_true, if_false]
 unfold wz gz
 split <;> simp_all
structure Cv (c : G_cluster_Cluster) (t : List Int) : Prop where
 n : c.n = (t.length : Int)
 h : t.length ≤ 16
 t : (a16 c.text).take t.length = t
theorem cl_full {c : G_cluster_Cluster} {t : List Int} (h : Cv c t) : f_cluster_Cluster_Full__widen_Cluster_4 c = some (decide (t.length = 16)) := by
 unfold f_cluster_Cluster_Full__widen_Cluster_4 f_cluster_Cluster_Len__widen_Cluster_4
 simp only [Bool.false_eq_true, if_false, bsm, h.n]
 congr 1
 rw [Bool.eq_iff_iff, beq_iff_eq, decide_eq_true_eq]
 omega
theorem cl_add {c : G_cluster_Cluster} {t : List Int} (h : Cv c t) (h2 : t.length < 16) (x : Int) : ∃ c', f_cluster_Cluster_Add__widen_Cluster_4 c x = some (c', true) ∧ Cv c' (t ++ [x]) := by
 unfold f_cluster_Cluster_Add__widen_Cluster_4
 rw [cl_full h]
 simp only [orE_false, bsm]
 rw [if_neg (by simp; omega), h.n, idx_at (by rw [a16_len]; exact h2)]
 simp only [bsm]
 refine ⟨_, rfl, by simp only; rw [w64_in (by omega)]; simp, by simp; omega, ?_⟩
 simp only
 rw [a16_aset, Int.toNat_natCast, List.length_append]
 simp only [List.length_cons, List.length_nil]
 rw [List.take_succ_eq_append_getElem (by rw [List.length_set, a16_len]; exact h2), List.take_set_of_le (Nat.le_refl _), h.t, List.getElem_set_self]
theorem cl_text {c : G_cluster_Cluster} {t : List Int} (h : Cv c t) : f_cluster_Cluster_Text__widen_Cluster_4 c = some t := by
 unfold f_cluster_Cluster_Text__widen_Cluster_4
 simp only [Bool.false_eq_true, if_false, h.n]
 have := slc_eq (xs := a16 c.text) (i := 0) (j := t.length) (Nat.zero_le _) (by rw [a16_len]; exact h.h)
 rw [show ((0 : Nat) : Int) = 0 by rfl] at this
 rw [this]
 simp only [bsm, List.drop_zero, Nat.sub_zero, h.t]
 unfold f_slices_Clone
 rw [app_eq (by have := h.h; simp; omega)]
 rfl
end Go.Proofs.YthokmpbbkpjhbaaGreatDoor
namespace Go.Proofs.YthokmpbbkpjhbaaGreatDoor
open Go Go.Lt
variable {s C : Sto} {k g W j : Nat} {w : Bool} {q : G_linotyperef34_Pen} {ks : List Nat}
def Sto.sc (s : Sto) (j : Nat) (x : G_widen_Cluster) : Sto := { s with widen_Cluster := s.widen_Cluster.set j x }
theorem set_cl {x : G_widen_Cluster} (h : j < s.widen_Cluster.length) : s.set_widen_Cluster j x = some (s.sc j x) := by
 unfold Sto.set_widen_Cluster
 rw [if_pos h]
 rfl
theorem sc_get {x : G_widen_Cluster} (h : j < s.widen_Cluster.length) : (s.sc j x).widen_Cluster[j]? = some x := by simp [Sto.sc, h]
theorem sc_sc (s : Sto) (j : Nat) (x y : G_widen_Cluster) : (s.sc j x).sc j y = s.sc j y := by simp [Sto.sc]
theorem Gw.sc (h : Gw s g ks W) (j : Nat) (x : G_widen_Cluster) : Gw (s.sc j x) g ks W := ⟨h.g, h.r, h.h1, h.h2, h.w1, h.w2⟩
theorem Gw.addc (h : Gw s g ks W) (x : G_widen_Cluster) : Gw (s.add_widen_Cluster x) g ks W := ⟨h.g, h.r, h.h1, h.h2, h.w1, h.w2⟩
theorem Pv.sc (h : Pv s s k g W q ks) (j : Nat) (x : G_widen_Cluster) : Pv (s.sc j x) (s.sc j x) k g W q ks :=
 ⟨h.p, h.g.sc j x, h.nd, h.l, rfl, h.f.rgp ⟨rfl, rfl, rfl⟩ ⟨rfl, rfl, rfl⟩⟩
theorem Pv.addc (h : Pv s s k g W q ks) (x : G_widen_Cluster) : Pv (s.add_widen_Cluster x) (s.add_widen_Cluster x) k g W q ks :=
 ⟨h.p, h.g.addc x, h.nd, h.l, rfl, h.f.rgp ⟨rfl, rfl, rfl⟩ ⟨rfl, rfl, rfl⟩⟩
theorem oth_cl {a b : Sto} (h : a.oth = b.oth) : a.widen_Cluster = b.widen_Cluster := by
 have := congrArg Sto.widen_Cluster h
 exact this
structure Wc (s : Sto) (j : Nat) (c : G_api_Cursor) (y : G_cwidth_Gauge) (t : List Int) (n : Int) : Prop where
 x : ∃ b, s.widen_Cluster[j]? = some ⟨c, n, b, y⟩ ∧ Cv b t
theorem Wc.lt {c : G_api_Cursor} {y : G_cwidth_Gauge} {t : List Int} {n : Int} (h : Wc s j c y t n) : j < s.widen_Cluster.length := by
 obtain ⟨b, h, _⟩ := h.x
 exact get_lt h
theorem sca_fix (r : Int) : ((f_scalar_Valid r).bind fun x_6 => if (!x_6) = true then (some (65533) : Option (Int)) else (some (r) : Option (Int))) = some (fixv r) := by
 rw [sca_valid]
 unfold fixv
 cases vld r <;> rfl
theorem add_eq {c : G_api_Cursor} {y : G_cwidth_Gauge} {t : List Int} {n : Int} (h : Wc s j c y t n) (ht : t.length < 16) (r : Int) (x : G_api_Prop) :
  ∃ b', f_widen_Cluster_add s (some j) r x = some (s.sc j ⟨c, n, b', gz y (fixv r) x⟩, wz (gz y (fixv r) x)) ∧ Cv b' (t ++ [fixv r]) := by
 have hj := h.lt
 obtain ⟨b, hb, hv⟩ := h.x
 obtain ⟨b', h1, h2⟩ := cl_add hv ht (fixv r)
 refine ⟨b', ?_, h2⟩
 unfold f_widen_Cluster_add
 rw [sca_fix]
 simp only [bsm, hb, h1]
 rw [set_cl hj]
 simp only [bsm, gauge_step]
 rw [set_cl (by simp [Sto.sc]; exact hj), sc_sc]
 rfl
theorem cl2_two (t : List Int) (h : 2 ≤ W) : cl2 2 t W = (2, t) := by
 unfold cl2
 rw [if_neg (by omega)]
 rfl
theorem cl2_one (t : List Int) (h : 1 ≤ W) : cl2 1 t W = (1, t) := by
 unfold cl2
 rw [if_neg (by omega)]
 rfl
theorem cl2_nar (t : List Int) : cl2 2 t 1 = (1, [65533]) := by
 unfold cl2
 rw [if_pos (by decide)]
structure On (C s : Sto) (k g W H j : Nat) (q0 : G_linotyperef34_Pen) (y : G_cwidth_Gauge) (t : List Int) (q : G_linotyperef34_Pen) (c : G_api_Cursor) (ks : List Nat) : Prop where
 v : Pv s s k g W q ks
 f : Fr C s k g ks
 w : Wc s j c y t (wz y)
 n : ks.length = H
 p : f_linotyperef34_Pen_Put q0 (wz y) t = some (q, c)
theorem begin_eq {q0 : G_linotyperef34_Pen} (h : Pv C s k g W q0 ks) (r : Int) (x : G_api_Prop) : ∃ s' q' c ks', f_widen_Begin s (some k) r x = some (s', some s.widen_Cluster.length) ∧
  On C s' k g W ks.length s.widen_Cluster.length q0 (gz ⟨false, false, false⟩ (fixv r) x) [fixv r] q' c ks' ∧ ∃ z, s'.oth = (s.add_widen_Cluster z).oth := by
 unfold f_widen_Begin
 simp only [Option.isNone_some, orE_false, bsm, h.p, Bool.false_eq_true, if_false]
 have h0 : Wc (s.add_widen_Cluster ⟨⟨0, 0, false⟩, 0, ⟨(0, 0, 0, 0, 0, 0, 0, 0, 0, 0, 0, 0, 0, 0, 0, 0), 0⟩, ⟨false, false, false⟩⟩) s.widen_Cluster.length ⟨0, 0, false⟩ ⟨false, false, false⟩ [] 0 :=
  ⟨⟨⟨(0, 0, 0, 0, 0, 0, 0, 0, 0, 0, 0, 0, 0, 0, 0, 0), 0⟩, by simp [Sto.add_widen_Cluster], ⟨rfl, by simp, rfl⟩⟩⟩
 obtain ⟨b, h1, h2⟩ := add_eq h0 (by simp) r x
 have hlt := h0.lt
 rw [h1]
 have hv := (h.self.addc ⟨⟨0, 0, false⟩, 0, ⟨(0, 0, 0, 0, 0, 0, 0, 0, 0, 0, 0, 0, 0, 0, 0, 0), 0⟩, ⟨false, false, false⟩⟩).sc s.widen_Cluster.length ⟨⟨0, 0, false⟩, 0, b, gz ⟨false, false, false⟩ (fixv r) x⟩
 have hR : Rgp s (s.add_widen_Cluster ⟨⟨0, 0, false⟩, 0, ⟨(0, 0, 0, 0, 0, 0, 0, 0, 0, 0, 0, 0, 0, 0, 0, 0), 0⟩, ⟨false, false, false⟩⟩) := ⟨rfl, rfl, rfl⟩
 have hA : ∀ z, ((s.add_widen_Cluster ⟨⟨0, 0, false⟩, 0, ⟨(0, 0, 0, 0, 0, 0, 0, 0, 0, 0, 0, 0, 0, 0, 0, 0), 0⟩, ⟨false, false, false⟩⟩).sc s.widen_Cluster.length z) = s.add_widen_Cluster z := fun z => by
  simp [Sto.sc, Sto.add_widen_Cluster]
 generalize hs1 : s.add_widen_Cluster ⟨⟨0, 0, false⟩, 0, ⟨(0, 0, 0, 0, 0, 0, 0, 0, 0, 0, 0, 0, 0, 0, 0, 0), 0⟩, ⟨false, false, false⟩⟩ = s1 at *
 simp only [bsm]
 rw [sc_get hlt]
 simp only [bsm]
 rw [set_cl (by simp [Sto.sc]; exact hlt), sc_sc]
 simp only [bsm]
 rw [cl_text h2]
 simp only [bsm, List.nil_append]
 have hv2 := hv.sc s.widen_Cluster.length ⟨⟨0, 0, false⟩, wz (gz ⟨false, false, false⟩ (fixv r) x), b, gz ⟨false, false, false⟩ (fixv r) x⟩
 simp only [sc_sc] at hv2
 obtain ⟨s3, q3, ks3, i, a, p1, p2, p3, p4, p5, p6, p7, _⟩ := put_eq hv2 (wz (gz ⟨false, false, false⟩ (fixv r) x)) [fixv r] (by simp)
 rw [p2]
 have hcl : s3.widen_Cluster = (s1.sc s.widen_Cluster.length ⟨⟨0, 0, false⟩, wz (gz ⟨false, false, false⟩ (fixv r) x), b, gz ⟨false, false, false⟩ (fixv r) x⟩).widen_Cluster := oth_cl p4.o
 have hg3 : s3.widen_Cluster[s.widen_Cluster.length]? = some ⟨⟨0, 0, false⟩, wz (gz ⟨false, false, false⟩ (fixv r) x), b, gz ⟨false, false, false⟩ (fixv r) x⟩ := by
  rw [hcl]
  exact sc_get hlt
 simp only [bsm]
 rw [hg3]
 simp only [bsm]
 rw [set_cl (get_lt hg3)]
 refine ⟨_, q3, _, ks3, rfl, ⟨p4.self.sc _ _, ?_, ⟨_, sc_get (get_lt hg3), by simpa using h2⟩, p5, p3⟩, ⟨⟨(i : Int), (a : Int), false⟩, wz (gz ⟨false, false, false⟩ (fixv r) x), b, gz ⟨false, false, false⟩ (fixv r) x⟩, ?_⟩
 ·exact (h.f.trans h.oG h.oR (p4.f.rgp (C' := s) ⟨hR.symm.r, hR.symm.g, hR.symm.p⟩ (Rgp.self _))).rgp (Rgp.self _) ⟨rfl, rfl, rfl⟩
 ·rw [← hA]
  have := congrArg (fun y : Sto => y.sc s.widen_Cluster.length ⟨⟨(i : Int), (a : Int), false⟩, wz (gz ⟨false, false, false⟩ (fixv r) x), b, gz ⟨false, false, false⟩ (fixv r) x⟩) p4.o
  refine this.trans ?_
  show (((s1.sc _ _).sc _ _).oth) = _
  rw [sc_sc]
theorem wz_12 (y : G_cwidth_Gauge) : (y.wide = false ∧ wz y = 1) ∨ (y.wide = true ∧ wz y = 2) := by
 unfold wz
 cases y.wide
 ·exact .inl ⟨rfl, rfl⟩
 ·exact .inr ⟨rfl, rfl⟩
theorem gz_wide {y : G_cwidth_Gauge} (h : y.wide = true) (r : Int) (x : G_api_Prop) : (gz y r x).wide = true := by
 unfold gz
 simp [h]
theorem cl2_fst (p1 : Int) (t t' : List Int) (W : Nat) : (cl2 p1 t W).1 = (cl2 p1 t' W).1 := by
 unfold cl2
 split <;> rfl
theorem join_full {q0 : G_linotyperef34_Pen} {y : G_cwidth_Gauge} {t : List Int} {c : G_api_Cursor} {H : Nat} (h : On C s k g W H j q0 y t q c ks) (ht : t.length = 16) (r : Int) (x : G_api_Prop) :
  f_widen_Cluster_Join s (some j) (some k) r x = some (s, false) := by
 obtain ⟨b, hb, hv⟩ := h.w.x
 unfold f_widen_Cluster_Join
 simp only [Option.isNone_some, orE_false, bsm, h.v.p, hb, cl_full hv, ht]
 rfl
theorem join_eq {C0 s0 : Sto} {ks0 : List Nat} {q0 : G_linotyperef34_Pen} {H : Nat} (h0 : Pv C0 s0 k g W q0 ks0) (hH : ks0.length = H) {y : G_cwidth_Gauge} {t : List Int} {c : G_api_Cursor} (h : On C s k g W H j q0 y t q c ks) (ht1 : 1 ≤ t.length) (ht : t.length < 16) (hvt : ∀ x ∈ t, vld x = true) (r : Int) (x : G_api_Prop) :
  ∃ s' q' c' ks', f_widen_Cluster_Join s (some j) (some k) r x = some (s', true) ∧ On C s' k g W H j q0 (gz y (fixv r) x) (t ++ [fixv r]) q' c' ks' ∧ ∃ z, s'.oth = (s.sc j z).oth := by
 have hj := h.w.lt
 obtain ⟨b', e1, e2⟩ := add_eq h.w ht r x
 obtain ⟨b, hb, hv⟩ := h.w.x
 have w1 := h0.g.w1
 have w2 := h0.g.w2
 unfold f_widen_Cluster_Join
 have hfull : decide (t.length = 16) = false := by simp; omega
 simp only [Option.isNone_some, orE_false, bsm, h.v.p, hb, cl_full hv, hfull, Bool.false_eq_true, if_false, e1]
 have htl : (t ++ [fixv r]).length ≤ 1000000 := by simp; omega
 generalize hy' : gz y (fixv r) x = y' at *
 rw [sc_get hj]
 simp only [bsm]
 rw [set_cl (by simp [Sto.sc]; exact hj), sc_sc]
 simp only [bsm]
 have hv2 := h.v.sc j ⟨c, wz y', b', y'⟩
 have hfr : Fr C (s.sc j ⟨c, wz y', b', y'⟩) k g ks := h.f.rgp (Rgp.self _) ⟨rfl, rfl, rfl⟩
 by_cases hw : wz y' = wz y
 ·rw [if_neg (by simp [hw])]
  simp only [hv2.p, bsm]
  rw [grid_wide hv2.g]
  simp only [bsm]
  obtain ⟨hdd, hdw⟩ := cl2_d (wz y) t w1
  obtain ⟨L2, i, a, pd, r1, r2, r3, r4, r5⟩ := rdy_ok h0 hdd hdw
  have hq := put_of_room hdd h0 r1 r2 r3 r4 r5 (wz y) t (by omega) rfl
  have hq' := put_of_room hdd h0 r1 r2 r3 r4 r5 (wz y) (t ++ [fixv r]) htl (cl2_fst _ _ _ _)
  rw [h.p] at hq
  simp only [Option.some.injEq, Prod.mk.injEq] at hq
  obtain ⟨hq1, rfl⟩ := hq
  by_cases hle : wz y' ≤ (W : Int)
  ·rw [if_pos (by simpa using hle)]
   have hcl : ∀ t2 : List Int, cl2 (wz y) t2 W = ((wz y).toNat, t2) := fun t2 => by
    rw [hw] at hle
    rcases wz_12 y with ⟨_, q1⟩ | ⟨_, q1⟩
    ·rw [q1]; exact cl2_one t2 w1
    ·rw [q1]; exact cl2_two t2 (by omega)
   rw [hcl] at hq1 r3 hdd hdw r1 hq'
   rw [hcl] at hq'
   simp only at hq1 r3 hdd hdw r1 hq'
   generalize (wz y).toNat = d at *
   have hik : i < ks.length := by rw [h.n, ← hH]; exact r2
   rw [grid_row hv2.g hik]
   simp only [bsm]
   have hfx : fx t = t := fx_id hvt (by omega)
   obtain ⟨⟨rc, rw_⟩, hr0, hsn, hlw⟩ := h.v.g.at hik
   simp only at hsn hlw
   have hlt : i < L2.length := by rw [r4]; exact r2
   have hat := h.v.at hik
   rw [ln_eq hr0] at hat
   have hqL : q.L = L2.set i ⟨pl (L2.getD i dl).Cells a (strip d (fx t)), pw (L2.getD i dl).Cells (L2.getD i dl).Wrap a d⟩ := by rw [hq1]; rfl
   have hgi : q.L[i]'(by rw [h.v.len]; exact hik) = ⟨pl (L2.getD i dl).Cells a (strip d (fx t)), pw (L2.getD i dl).Cells (L2.getD i dl).Wrap a d⟩ := by
    have : q.L[i]? = some ⟨pl (L2.getD i dl).Cells a (strip d (fx t)), pw (L2.getD i dl).Cells (L2.getD i dl).Wrap a d⟩ := by rw [hqL, List.getElem?_set_self hlt]
    rw [List.getElem?_eq_getElem (by rw [h.v.len]; exact hik)] at this
    exact Option.some.inj this
   rw [hgi] at hat
   simp only [G_api_Line.mk.injEq] at hat
   obtain ⟨hrc, hrw⟩ := hat
   subst hrc hrw
   have hcells : (L2.getD i dl).Cells.length = W := by
    rw [gdl hlt]
    exact (r5 _ (List.getElem_mem hlt)).2
   have hq1A : q.At = ca ⟨(i : Int), (a : Int), false⟩ d W q0.Auto ∧ q.Auto = q0.Auto := by rw [hq1]; exact ⟨rfl, rfl⟩
   generalize hl0 : (L2.getD i dl).Cells = l0 at *
   generalize hw0 : (L2.getD i dl).Wrap = w0 at *
   rw [hfx] at hr0 hsn hqL hlw hgi
   have hr0' : (s.sc j ⟨⟨(i : Int), (a : Int), false⟩, wz y', b', y'⟩).row_Row[ks[i]]? = some ⟨pl l0 a (strip d t), pw l0 w0 a d⟩ := hr0
   have hst := strip_d d hdd t
   have hst2 := strip_d d hdd (fx (t ++ [r]))
   rw [mark_more hdd hr0' hsn (by omega) (by omega) ht1 (by omega) r]
   simp only [bsm]
   have o1 := pl_over (l := l0) (p := strip d t) (p' := strip d (fx (t ++ [r]))) (Nat.le_refl a) (by omega) (by omega)
   have o2 := pw_over (l := l0) (w := w0) (p := strip d t) (p' := strip d (fx (t ++ [r]))) (Nat.le_refl a) (by omega) (by omega)
   rw [hst, hst2] at o2
   have hsn2 : Snd (pl l0 a (strip d (fx (t ++ [r])))) := by
    rw [← o1]
    exact hsn.paint (snd_fx _ _) (by rw [pl_len]; omega)
   have hv4 := hv2.row hik (r := ⟨pl l0 a (strip d (fx (t ++ [r]))), pw (pl l0 a (strip d t)) (pw l0 w0 a d) a d⟩) hsn2 (by simp only [pl_len]; exact hcells)
   refine ⟨_, _, _, ks, rfl, ⟨hv4.self, hfr.sr (List.getElem_mem hik) _, ⟨b', sc_get hj, e2⟩, h.n, ?_⟩, _, rfl⟩
   rw [hw, hq']
   have hfx2 := fx_snoc' (t := t) (by omega) r
   rw [o2, hqL, hq1A.1, hq1A.2, List.set_set, ← hfx2]
   unfold putq
   rw [hl0, hw0]
  ·rw [if_neg (by simpa using hle)]
   have hW : W = 1 := by
    rcases wz_12 y' with ⟨_, q1⟩ | ⟨_, q1⟩ <;> omega
   refine ⟨_, q, _, ks, rfl, ⟨hv2, hfr, ⟨b', sc_get hj, e2⟩, h.n, ?_⟩, _, rfl⟩
   rw [hw, hq']
   have h2 : wz y = 2 := by
    rcases wz_12 y with ⟨_, q1⟩ | ⟨_, q1⟩
    ·rw [hw, q1] at hle; omega
    ·exact q1
   rw [hq1, h2, hW, cl2_nar, cl2_nar]
 ·rw [if_pos (by simpa using hw)]
  have hy1 : wz y = 1 ∧ wz y' = 2 := by
   rcases wz_12 y with ⟨_, q1⟩ | ⟨q1, q2⟩
   ·rcases wz_12 y' with ⟨_, q3⟩ | ⟨_, q3⟩
    ·rw [q1, q3] at hw; exact absurd rfl hw
    ·exact ⟨q1, q3⟩
   ·have := gz_wide q1 (fixv r) x
    rw [hy'] at this
    unfold wz at hw
    rw [this, q1] at hw
    exact absurd rfl hw
  simp only [hv2.p, bsm]
  rw [set_pen (get_lt hv2.p)]
  simp only [bsm]
  have hv3 := hv2.set c q.Auto
  have hc3 : ((s.sc j ⟨c, wz y', b', y'⟩).sp k ⟨some g, c, q.Auto⟩).widen_Cluster[j]? = some ⟨c, wz y', b', y'⟩ := sc_get hj
  rw [hc3]
  simp only [bsm]
  rw [cl_text e2]
  simp only [bsm]
  obtain ⟨s4, q4, ks4, i, a, p1, p2, p3, p4, p5, p6, p7, _⟩ := put_eq hv3 (wz y') (t ++ [fixv r]) htl
  rw [p2]
  simp only [bsm]
  have hc4 : s4.widen_Cluster[j]? = some ⟨c, wz y', b', y'⟩ := by
   rw [oth_cl p4.o]
   exact hc3
  rw [hc4]
  simp only [bsm]
  rw [set_cl (get_lt hc4)]
  refine ⟨_, q4, _, ks4, rfl, ⟨p4.self.sc _ _, ?_, ⟨b', sc_get (get_lt hc4), e2⟩, p5.trans h.n, ?_⟩, ⟨⟨(i : Int), (a : Int), false⟩, wz y', b', y'⟩, ?_⟩
  ·have h3 := p4.f
   have := h.f.trans h.v.oG h.v.oR (h3.rgp (C' := s) ⟨rfl, rfl, rfl⟩ (Rgp.self _))
   exact this.rgp (Rgp.self _) ⟨rfl, rfl, rfl⟩
  ·rw [← p3]
   exact (put_again h0 (by omega) htl (by rw [hy1.1, cl2_one _ w1]) h.p h.v (h.n.trans hH.symm)).symm
  ·have := congrArg (fun y : Sto => y.sc j ⟨⟨(i : Int), (a : Int), false⟩, wz y', b', y'⟩) p4.o
   refine this.trans ?_
   show (((s.sc _ _).sc _ _).oth) = _
   rw [sc_sc]
def gf (t : List Int) (x : List G_api_Prop) : G_cwidth_Gauge := (t.zip x).foldl (fun y p => gz y p.1 p.2) ⟨false, false, false⟩
theorem zip_snoc {α β : Type} : ∀ (t : List α) (x : List β) (r : α) (h : t.length < x.length), (t ++ [r]).zip x = t.zip x ++ [(r, x[t.length])]
 | [], [], _, h => by simp at h
 | [], b :: x, r, _ => by simp
 | a :: t, [], _, h => by simp at h
 | a :: t, b :: x, r, h => by
  have := zip_snoc t x r (by simpa using h)
  simp only [List.cons_append, List.zip_cons_cons, this, List.length_cons, List.getElem_cons_succ]
theorem gf_snoc {t : List Int} {x : List G_api_Prop} (h : t.length < x.length) (r : Int) : gf (t ++ [r]) x = gz (gf t x) r x[t.length] := by
 unfold gf
 rw [zip_snoc t x r h, List.foldl_append]
 rfl
theorem zip_take {α β : Type} : ∀ (t : List α) (x : List β) (n : Nat), t.length ≤ n → t.zip (x.take n) = t.zip x
 | [], _, _, _ => rfl
 | _ :: _, [], _, _ => by simp
 | _ :: _, _ :: _, 0, h => by simp at h
 | a :: t, b :: x, n + 1, h => by
  rw [List.take_succ_cons, List.zip_cons_cons, List.zip_cons_cons, zip_take t x n (by simpa using h)]
theorem gf_take (t : List Int) (x : List G_api_Prop) {n : Nat} (h : t.length ≤ n) : gf t (x.take n) = gf t x := by
 unfold gf
 rw [zip_take _ _ _ h]
end Go.Proofs.YthokmpbbkpjhbaaGreatDoor
namespace Go.Proofs.YthokmpbbkpjhbaaGreatDoor
open Go Go.Lt
variable {s C : Sto} {g k W : Nat} {ks : List Nat} {q : G_linotyperef34_Pen}
def bls (W H : Nat) : List G_api_Line := List.replicate H ⟨List.replicate W bl, false⟩
theorem bls_ok {W H : Nat} (w1 : 1 ≤ W) (w2 : W ≤ 1024) (h1 : 1 ≤ H) : ∀ i (h : i < (bls W H).length), 1 ≤ (bls W H)[i].Cells.length ∧ (bls W H)[i].Cells.length ≤ 1024 ∧ Snd (bls W H)[i].Cells ∧ (bls W H)[i].Cells.length = ((bls W H)[0]'(by omega)).Cells.length := fun i h => by
 have e : ∀ j (hj : j < (bls W H).length), (bls W H)[j] = ⟨List.replicate W bl, false⟩ := fun j hj => by
  unfold bls
  exact List.getElem_replicate _
 rw [e i h, e 0 (by omega)]
 simp only [List.length_replicate]
 exact ⟨w1, w2, snd_bl W, trivial⟩
theorem grid_new (n m : Int) : f_grid_New s n m = some ((s.addr ((bls (sd n) (sd m)).map lr)).add_grid_Grid ⟨(List.range' s.row_Row.length (sd m)).map some⟩, some s.grid_Grid.length) := by
 have hsd := sd_in m
 have hL : ∀ i, ((bls (sd n) (sd m)).map lr).take i = List.replicate (min i (sd m)) ⟨List.replicate (sd n) bl, false⟩ := fun i => by
  unfold bls
  rw [List.map_replicate, List.take_replicate]
  rfl
 have hlen : ((bls (sd n) (sd m)).map lr).length = sd m := by simp [bls]
 have hH : imax 1 (imin m 1024) = (sd m : Int) := by
  rw [imin_eq, imax_eq]
  unfold sd
  omega
 unfold f_grid_New
 rw [hH]
 simp only [bsm]
 obtain ⟨t, h3, h4⟩ := iter_for (σ := Int × Sto) (τ := Sto) (n := sd m) (fuel := (((sd m : Nat) : Int) - 0).toNat + 1) (s := (0, s.add_grid_Grid (⟨([] : List (Option Nat))⟩ : G_grid_Grid)))
  (fun i q => q = ((i : Int), (s.addr (((bls (sd n) (sd m)).map lr).take i)).add_grid_Grid ⟨(List.range' s.row_Row.length i).map some⟩))
  (fun t => t = (s.addr ((bls (sd n) (sd m)).map lr)).add_grid_Grid ⟨(List.range' s.row_Row.length (sd m)).map some⟩)
  (step := fun s_12 =>
 if (decide (s_12.1 < ((sd m : Nat) : Int))) = true then
 (s_12.2.grid_Grid[s.grid_Grid.length]?).bind fun o_19 =>
 (f_row_New s_12.2 n).bind fun x_21 =>
 (app o_19.rows ([x_21.2] : List (Option Nat))).bind fun x_23 =>
 (x_21.1.set_grid_Grid s.grid_Grid.length (⟨x_23⟩ : G_grid_Grid)).bind fun s_26001 =>
 some (.inl ((w64 (s_12.1 + 1)), s_26001))
 else
 some (.inr (s_12.2)))
  (fun i q hi e => by
   subst e
   refine .inl ⟨_, ?_, rfl⟩
   have e5 : w64 ((i : Int) + 1) = ((i + 1 : Nat) : Int) := by rw [w64_in (by omega)]; simp
   have hd : decide ((i : Int) < ((sd m : Nat) : Int)) = true := by simp; exact hi
   have hg : ((s.addr (((bls (sd n) (sd m)).map lr).take i)).add_grid_Grid ⟨(List.range' s.row_Row.length i).map some⟩).grid_Grid[s.grid_Grid.length]? = some ⟨(List.range' s.row_Row.length i).map some⟩ := by
    simp [Sto.add_grid_Grid, Sto.addr]
   simp only [hd, if_true]
   rw [hg, row_new]
   simp only [bsm]
   rw [app_eq (by simp; omega)]
   simp only [bsm]
   have hlt : s.grid_Grid.length < (((s.addr (((bls (sd n) (sd m)).map lr).take i)).add_grid_Grid ⟨(List.range' s.row_Row.length i).map some⟩).add_row_Row ⟨List.replicate (sd n) bl, false⟩).grid_Grid.length := by
    simp [Sto.add_grid_Grid, Sto.addr, Sto.add_row_Row]
   rw [set_grid hlt, e5]
   simp only [bsm]
   congr 4
   refine sto_eq ?_ ?_ rfl
   ·simp only [Sto.sg, Sto.add_grid_Grid, Sto.add_row_Row, Sto.addr]
    rw [hL, hL, Nat.min_eq_left (by omega), Nat.min_eq_left (by omega), List.replicate_succ', List.append_assoc]
   ·simp only [Sto.sg, Sto.add_grid_Grid, Sto.add_row_Row, Sto.addr]
    rw [List.set_append_right _ _ (Nat.le_refl _), Nat.sub_self, List.set_cons_zero, List.range'_concat, List.map_append, hL, Nat.min_eq_left (by omega)]
    simp)
  (fun q e => ⟨q.2, by subst e; simp, by subst e; simp only; rw [List.take_of_length_le (by omega)]⟩)
  (by simp [addr_nil]) (by omega)
 subst h4
 rw [h3]
 rfl
theorem Fr.of_grid (xs : List G_row_Row) (x : G_grid_Grid) {n : Nat} (hn : n = s.grid_Grid.length) {m : Nat} : Fr s ((s.addr xs).add_grid_Grid x) k n (List.range' s.row_Row.length m) := by
 subst hn
 refine Fr.new (Nat.le_refl _) ?_ ?_ (fun _ _ => rfl) (fun j hj => ?_) (fun j hj => ?_) (Nat.le_refl _) (fun r hr => (List.mem_range'_1.1 hr).1)
 ·simp [Sto.add_grid_Grid, Sto.addr]
 ·simp [Sto.add_grid_Grid, Sto.addr]
 ·simp only [Sto.add_grid_Grid, Sto.addr]; exact List.getElem?_append_left hj
 ·simp only [Sto.add_grid_Grid, Sto.addr]; exact List.getElem?_append_left hj
theorem Gw.addp (h : Gw s g ks W) (x : G_place_Pen) : Gw (s.add_place_Pen x) g ks W := ⟨h.g, h.r, h.h1, h.h2, h.w1, h.w2⟩
theorem place_new (n m : Int) : ∃ s' ks, f_place_New s n m = some (s', some s.place_Pen.length) ∧ Pv s s' s.place_Pen.length s.grid_Grid.length (sd n) ⟨bls (sd n) (sd m), ⟨0, 0, false⟩, true⟩ ks := by
 have h1 := sd_in n
 have h2 := sd_in m
 have hb : (bls (sd n) (sd m)).length = sd m := by simp [bls]
 have h0 : ((bls (sd n) (sd m))[0]'(by omega)).Cells.length = sd n := by simp [bls]
 obtain ⟨g1, g2⟩ := gw_of (s := s) (L := bls (sd n) (sd m)) (by omega) (by omega) (bls_ok h1.1 h1.2 h2.1)
 rw [h0] at g1
 rw [hb] at g1 g2
 unfold f_place_New
 rw [grid_new]
 refine ⟨_, _, rfl, ⟨?_, g1.addp _, ?_, ?_, rfl, (Fr.of_grid _ _ rfl).addp _⟩⟩
 ·simp [Sto.add_place_Pen, Sto.add_grid_Grid, Sto.addr]
 ·exact List.nodup_range'
 ·exact g2
def sil (r : Int) : Bool := (decide (0 ≤ r) && decide (r < 32)) || (decide (127 ≤ r) && decide (r ≤ 159))
theorem silent (r : Int) : f_basew_Silent r = some (sil r) := by
 simp only [f_basew_Silent, andE_some, orE_some, bsm, sil, ge_iff_le]
theorem ref_silent (r : Int) : f_linotyperef18_Silent r = some (sil r) := by
 simp only [f_linotyperef18_Silent, andE_some, orE_some, bsm, sil, ge_iff_le, Option.some.injEq]
 rw [Bool.eq_iff_iff]
 simp
 omega
theorem ref_do_id (r : Int) (h : r ≠ 13 ∧ r ≠ 10 ∧ r ≠ 8) : f_linotyperef36_Do q r = some (q, sil r) := by
 unfold f_linotyperef36_Do
 rw [if_neg (by simpa using h.1)]
 simp only [bsm]
 rw [if_neg (by simpa using h.2.1)]
 simp only [bsm]
 rw [if_neg (by simpa using h.2.2)]
 simp only [bsm]
 rw [ref_silent]
 rfl
theorem ctrl_eq (h : Pv C s k g W q ks) (r : Int) : ∃ s' q' ks', f_ctrl_Do s (some k) r = some (s', sil r) ∧ f_linotyperef36_Do q r = some (q', sil r) ∧ Pv C s' k g W q' ks' ∧ ks'.length = ks.length ∧ (Hd q.At W ks.length → Hd q'.At W ks.length) := by
 have w1 := h.g.w1
 have w2 := h.g.w2
 unfold f_ctrl_Do
 rw [silent]
 simp only [bsm, Option.isNone_some, orE_false, h.p]
 by_cases hs : sil r = true
 ·rw [hs]
  simp only [Bool.not_true, Bool.false_eq_true, if_false]
  rw [grid_wide h.g, grid_high h.g]
  simp only [bsm]
  rw [cur_hold _ h.g.w1 h.g.w2 h.g.h1 h.g.h2]
  have hd := hc_hd q.At h.g.w1 h.g.h1
  have hh := ref_Hold h
  by_cases h13 : r = 13
  ·subst h13
   simp only [bsm, beq_self_eq_true, if_true, f_cursor_Return]
   rw [set_pen (get_lt h.p)]
   refine ⟨_, _, ks, rfl, ?_, h.set ⟨(hc q.At W ks.length).Row, 0, false⟩ q.Auto, rfl, fun _ => ⟨hd.rr, by simp only; omega, fun e => by cases e⟩⟩
   unfold f_linotyperef36_Do
   rw [hh, ref_silent, hs]
   rfl
  by_cases h10 : r = 10
  ·subst h10
   obtain ⟨s', q', ks', a1, a2, v, hn, hnd, _⟩ := newline_eq h
   simp only [bsm]
   rw [if_neg (by decide), if_pos (by decide), a1]
   refine ⟨s', q', ks', rfl, ?_, v, hn, fun _ => hnd⟩
   unfold f_linotyperef36_Do
   rw [if_neg (by decide)]
   simp only [bsm]
   rw [if_pos (by decide), show (⟨q.L, ⟨q.At.Row, q.At.Col, q.At.Pending⟩, q.Auto⟩ : G_linotyperef34_Pen) = q from rfl, a2]
   simp only [bsm]
   rw [if_neg (by decide), ref_silent, hs]
   rfl
  by_cases h8 : r = 8
  ·subst h8
   have hcc := hd.cc
   have hb : f_cursor_Back (hc q.At W ks.length) = some ⟨(hc q.At W ks.length).Row, max 0 ((hc q.At W ks.length).Col - 1), false⟩ := by
    unfold f_cursor_Back
    by_cases h0 : (hc q.At W ks.length).Col > 0
    ·rw [if_pos (by simpa using h0), w64_in (by omega)]
     simp only [bsm, Option.some.injEq, G_api_Cursor.mk.injEq, true_and, and_true]
     omega
    ·rw [if_neg (by simpa using h0)]
     simp only [bsm, Option.some.injEq, G_api_Cursor.mk.injEq, true_and, and_true]
     omega
   simp only [bsm]
   rw [if_neg (by decide), if_neg (by decide), if_pos (by decide), hb]
   simp only [bsm]
   rw [set_pen (get_lt h.p)]
   refine ⟨_, _, ks, rfl, ?_, h.set ⟨(hc q.At W ks.length).Row, max 0 ((hc q.At W ks.length).Col - 1), false⟩ q.Auto, rfl, fun _ => ⟨hd.rr, by simp only; omega, fun e => by cases e⟩⟩
   unfold f_linotyperef36_Do
   rw [if_neg (by decide)]
   simp only [bsm]
   rw [if_neg (by decide)]
   simp only [bsm]
   rw [if_pos (by decide), show (⟨q.L, ⟨q.At.Row, q.At.Col, q.At.Pending⟩, q.Auto⟩ : G_linotyperef34_Pen) = q from rfl, hh]
   simp only [bsm]
   rw [ref_silent, hs, w64_in (by omega), imax_eq]
   rfl
  ·simp only [bsm]
   rw [if_neg (by simpa using h13), if_neg (by simpa using h10), if_neg (by simpa using h8)]
   exact ⟨s, q, ks, rfl, by rw [ref_do_id r ⟨h13, h10, h8⟩, hs], h, rfl, id⟩
 ·have hf : sil r = false := by simpa using hs
  rw [hf]
  simp only [Bool.not_false, if_true]
  have hn : r ≠ 13 ∧ r ≠ 10 ∧ r ≠ 8 := by
   refine ⟨?_, ?_, ?_⟩ <;> (rintro rfl; revert hf; decide)
  exact ⟨s, q, ks, rfl, by rw [ref_do_id r hn, hf], h, rfl, id⟩
end Go.Proofs.YthokmpbbkpjhbaaGreatDoor
namespace Go.Proofs.YthokmpbbkpjhbaaGreatDoor
open Go Go.Lt
def pj (a b : Int) : Int := (f_pairs_Join a b).getD 0
def clz (a : Int) : Int := if a < 0 ∨ 13 < a then 0 else a
def pjT (i j : Nat) : Bool := match f_pairs_Join i j, f_linotyperef14_Join i j with
 | some x, some y => x == y && (x != 2 || ((i == 6) == (j == 6))) && (x == 0 || !(i == 1 || i == 2 || i == 3 || j == 1 || j == 2 || j == 3) || (i == 1 && j == 2))
 | _, _ => false
theorem pj_all : ((List.range 14).all fun i => (List.range 14).all fun j => pjT i j) = true := by kernel_rfl
theorem clz_nat (a : Int) : ∃ i : Nat, clz a = (i : Int) ∧ i < 14 ∧ (0 < i → a = (i : Int)) := by
 unfold clz
 split
 ·exact ⟨0, rfl, by omega, fun h => by omega⟩
 ·exact ⟨a.toNat, by omega, by omega, fun _ => by omega⟩
theorem pairs_class (a : Int) : f_pairs_class a = some (clz a) := by
 unfold f_pairs_class clz
 simp only [orE_some, bsm]
 by_cases h : a < 0 ∨ 13 < a
 ·rw [if_pos (by simp only [Bool.or_eq_true, decide_eq_true_eq]; omega), if_pos h]
 ·rw [if_neg (by simp only [Bool.or_eq_true, decide_eq_true_eq]; omega), if_neg h]
theorem clz_clz (a : Int) : clz (clz a) = clz a := by
 unfold clz
 repeat' split
 all_goals omega
theorem pairs_clz (a b : Int) : f_pairs_Join a b = f_pairs_Join (clz a) (clz b) := by
 unfold f_pairs_Join
 rw [pairs_class, pairs_class, pairs_class, pairs_class, clz_clz, clz_clz]
theorem ref14_clz (a b : Int) : f_linotyperef14_Join a b = f_linotyperef14_Join (clz a) (clz b) := by
 have h : ∀ (a : Int), ((orE (decide (a < 0)) (some (decide (a > 13)))).bind fun d_6 => if d_6 = true then (some (0) : Option (Int)) else (some (a) : Option (Int))) = some (clz a) := fun a => by
  have := pairs_class a
  unfold f_pairs_class at this
  exact this
 unfold f_linotyperef14_Join
 rw [h, h, h, h, clz_clz, clz_clz]
theorem pj_tab (a b : Int) : ∃ x, f_pairs_Join a b = some x ∧ f_linotyperef14_Join a b = some x ∧ pj a b = x ∧ (x = 2 → (a = 6 ↔ b = 6)) ∧ (x ≠ 0 → (a = 1 ∨ a = 2 ∨ a = 3 ∨ b = 1 ∨ b = 2 ∨ b = 3) → a = 1 ∧ b = 2) := by
 obtain ⟨i, hi, i14, i0⟩ := clz_nat a
 obtain ⟨j, hj, j14, j0⟩ := clz_nat b
 have h := List.all_eq_true.1 (List.all_eq_true.1 pj_all i (List.mem_range.2 i14)) j (List.mem_range.2 j14)
 have ia : ∀ n : Nat, 0 < n → n < 14 → (a = (n : Int) ↔ i = n) := fun n h0 h1 => by
  constructor
  ·intro e
   unfold clz at hi
   split at hi <;> omega
  ·intro e; subst e; exact i0 h0
 have jb : ∀ n : Nat, 0 < n → n < 14 → (b = (n : Int) ↔ j = n) := fun n h0 h1 => by
  constructor
  ·intro e
   unfold clz at hj
   split at hj <;> omega
  ·intro e; subst e; exact j0 h0
 have a1 := ia 1 (by omega) (by omega)
 have a2 := ia 2 (by omega) (by omega)
 have a3 := ia 3 (by omega) (by omega)
 have a6 := ia 6 (by omega) (by omega)
 have b1 := jb 1 (by omega) (by omega)
 have b2 := jb 2 (by omega) (by omega)
 have b3 := jb 3 (by omega) (by omega)
 have b6 := jb 6 (by omega) (by omega)
 unfold pj
 rw [pairs_clz, ref14_clz, hi, hj]
 unfold pjT at h
 split at h
 ·rename_i x y e1 e2
  simp only [Bool.and_eq_true, Bool.or_eq_true, beq_iff_eq, bne_iff_ne, ne_eq, Bool.not_eq_true', Bool.or_eq_false_iff, beq_eq_false_iff_ne] at h
  obtain ⟨⟨hxy, h2⟩, h3⟩ := h
  subst hxy
  refine ⟨x, e1, e2, by rw [e1]; rfl, fun hx => ?_, fun hx hc => ?_⟩
  ·rcases h2 with q | q
   ·exact absurd hx q
   ·have q1 : (i == 6) = (j == 6) := q
    rw [Bool.eq_iff_iff, beq_iff_eq, beq_iff_eq] at q1
    omega
  ·rcases h3 with (q | q) | q
   ·exact absurd q hx
   ·exfalso
    omega
   ·omega
 ·cases h
theorem pj_join (a b : Int) : f_pairs_Join a b = some (pj a b) := by
 obtain ⟨x, h1, _, h3, _⟩ := pj_tab a b
 rw [h1, h3]
def sgB (s : Sg) : G_seg_State := ⟨s.some, s.last, s.pict, s.conj, s.odd⟩
theorem seg_step (s : Sg) (p : G_api_Prop) : f_seg_State_Step__feed_Feeder_6 (sgB s) p = some (sgB (sgN s p), sgJ pj s p) := by
 have hj : f_seg_State_joins__feed_Feeder_6 (sgB s) p = some (sgJ pj s p) := by
  unfold f_seg_State_joins__feed_Feeder_6 sgB sgJ
  simp only [andE_some, bsm, pj_join]
  cases s.some with
  | false => rfl
  | true =>
   simp only [Bool.not_true, Bool.false_eq_true, if_false, Bool.true_and]
   cases h1 : (p.Conj == 1 && s.conj == 2) with
   | true => rfl
   | false =>
    simp only [Bool.false_eq_true, if_false, bsm, Bool.false_or]
    cases h2 : (p.Pict && s.pict == 2) with
    | true => rfl
    | false =>
     simp only [Bool.false_eq_true, if_false, Bool.false_or]
     by_cases h3 : pj s.last p.Break = 1
     ·rw [if_pos (by simpa using h3), h3]
      rfl
     ·rw [if_neg (by simpa using h3), show (pj s.last p.Break == 1) = false by simpa using h3, Bool.false_or]
      by_cases h4 : pj s.last p.Break = 2
      ·rw [if_pos (by simpa using h4), h4]
       rfl
      ·rw [if_neg (by simpa using h4), show (pj s.last p.Break == 2) = false by simpa using h4]
       rfl
 have hp : f_seg_State_picture__feed_Feeder_6 (sgB s) p = some (nxP s.pict p) := by
  unfold f_seg_State_picture__feed_Feeder_6 sgB nxP
  simp only [andE_some, bsm]
  by_cases h1 : p.Pict = true
  ·rw [if_pos h1, if_pos h1]
  ·rw [if_neg h1, if_neg h1]
   by_cases h2 : s.pict = 1 ∧ p.Break = 4
   ·rw [if_pos (by simpa using h2), if_pos h2]
   ·rw [if_neg (by simpa using h2), if_neg h2]
    by_cases h3 : s.pict = 1 ∧ p.Break = 5
    ·rw [if_pos (by simpa using h3), if_pos h3]
    ·rw [if_neg (by simpa using h3), if_neg h3]
 have hc : f_seg_State_conjunct__feed_Feeder_6 (sgB s) p = some (nxC s.conj p) := by
  unfold f_seg_State_conjunct__feed_Feeder_6 sgB nxC
  simp only [beq_iff_eq]
  repeat' split
  all_goals rfl
 unfold f_seg_State_Step__feed_Feeder_6
 simp only [Bool.false_eq_true, if_false]
 rw [hj, hp, hc]
 simp only [bsm, andE_some]
 rfl
theorem seg_reset (d : G_seg_State) : f_seg_State_Reset__feed_Feeder_6 d = some (sgB sg0) := rfl
def silT (n : Nat) : Bool := !sil n || (((pr n).Break == 1 || (pr n).Break == 2 || (pr n).Break == 3) && !(pr n).Pict && (pr n).Conj == 0)
theorem sil_all : (List.range 160).all silT = true := by kernel_rfl
theorem gT_sil : gT.all (fun x => !(x.2.2 == 1 || x.2.2 == 2) || (decide (0 ≤ x.1) && decide (x.2.1 ≤ 31))) = true := by kernel_rfl
theorem sil_in {r : Int} (h : sil r = true) : 0 ≤ r ∧ r < 160 := by
 unfold sil at h
 simp only [Bool.or_eq_true, Bool.and_eq_true, decide_eq_true_eq] at h
 omega
theorem silS : Sil pj pr sil := by
 refine ⟨fun r hr => ?_, fun a b ha hne => ?_, fun a b hb hne => ?_, fun r hr => ?_⟩
 ·obtain ⟨h1, h2⟩ := sil_in hr
  have := List.all_eq_true.1 sil_all r.toNat (List.mem_range.2 (by omega))
  unfold silT at this
  rw [Int.toNat_of_nonneg h1, hr] at this
  simp only [Bool.not_true, Bool.false_or, Bool.and_eq_true, Bool.or_eq_true, beq_iff_eq, Bool.not_eq_true'] at this
  obtain ⟨⟨q1, q2⟩, q3⟩ := this
  exact ⟨by rcases q1 with (q | q) | q <;> simp [q], q2, q3⟩
 ·obtain ⟨x, _, _, h3, _, h5⟩ := pj_tab a b
  exact h5 (by omega) (by omega)
 ·obtain ⟨x, _, _, h3, _, h5⟩ := pj_tab a b
  exact h5 (by omega) (by omega)
 ·have e : (pr r).Break = (lk gT r).getD (hcl r) := rfl
  rw [e] at hr
  have hh : hcl r = 9 ∨ hcl r = 10 ∨ hcl r = 11 ∨ hcl r = 0 ∨ hcl r = 12 ∨ hcl r = 13 := by
   unfold hcl
   repeat' split
   all_goals simp
  cases hx : fnd (fun x : Int × Int × Int => x.1) (fun x => x.2.1) gT r with
  | none =>
   unfold lk at hr
   rw [hx] at hr
   simp only [Option.map_none, Option.getD_none] at hr
   omega
  | some x =>
   unfold lk at hr
   rw [hx] at hr
   simp only [Option.map_some, Option.getD_some] at hr
   obtain ⟨m1, m2⟩ := fnd_mem hx
   have := List.all_eq_true.1 gT_sil x m1
   rw [onn_iff] at m2
   simp only [Bool.or_eq_true, Bool.not_eq_true', Bool.or_eq_false_iff, beq_eq_false_iff_ne, Bool.and_eq_true, decide_eq_true_eq] at this
   unfold sil
   simp only [Bool.or_eq_true, Bool.and_eq_true, decide_eq_true_eq]
   omega
def fo {α β : Type} (f : β → α → Option β) : β → List α → Option β
 | b, [] => some b
 | b, a :: l => (f b a).bind fun b' => fo f b' l
theorem fo_app {α β : Type} (f : β → α → Option β) (b : β) (l m : List α) : fo f b (l ++ m) = (fo f b l).bind fun b' => fo f b' m := by
 induction l generalizing b with
 | nil => rfl
 | cons a l ih =>
  show (f b a).bind (fun b' => fo f b' (l ++ m)) = ((f b a).bind fun b' => fo f b' l).bind fun b' => fo f b' m
  rw [Option.bind_assoc]
  congr 1
  funext b'
  exact ih b'
theorem fo_snoc {α β : Type} (f : β → α → Option β) (b : β) (l : List α) (a : α) : fo f b (l ++ [a]) = (fo f b l).bind fun b' => f b' a := by
 rw [fo_app]
 congr 1
 funext b'
 show (f b' a).bind (fun b' => some b') = f b' a
 cases f b' a <;> rfl
def do36 (q : G_linotyperef34_Pen) (r : Int) : Option G_linotyperef34_Pen := (f_linotyperef36_Do q r).map (·.1)
def w16 (c : List Int) : Int := wz (gf (c.take 16) ((c.take 16).map pr))
def layc (q : G_linotyperef34_Pen) (c : List Int) : Option G_linotyperef34_Pen :=
 if sil (c.headD 0) = true then fo do36 q c else (f_linotyperef34_Pen_Put q (w16 c) (c.take 16)).map (·.1)
theorem layc_sil {q : G_linotyperef34_Pen} {a : Int} {t : List Int} (h : sil a = true) : layc q (a :: t) = fo do36 q (a :: t) := by
 unfold layc
 rw [if_pos (show sil ((a :: t).headD 0) = true from h)]
theorem layc_not {q : G_linotyperef34_Pen} {a : Int} {t : List Int} (h : sil a = false) : layc q (a :: t) = (f_linotyperef34_Pen_Put q (w16 (a :: t)) ((a :: t).take 16)).map (·.1) := by
 unfold layc
 rw [if_neg (show ¬ sil ((a :: t).headD 0) = true by rw [List.headD_cons, h]; simp)]
end Go.Proofs.YthokmpbbkpjhbaaGreatDoor
namespace Go.Proofs.YthokmpbbkpjhbaaGreatDoor
def ld (b : Int) : Int := if b < 128 then 1 else if 194 ≤ b ∧ b ≤ 223 then 2 else if 224 ≤ b ∧ b ≤ 239 then 3 else if 240 ≤ b ∧ b ≤ 244 then 4 else 0
def slo (b : Int) : Int := if b = 224 then 160 else if b = 240 then 144 else 128
def shi (b : Int) : Int := if b = 237 then 159 else if b = 244 then 143 else 191
theorem ld_in (b : Int) : 0 ≤ ld b ∧ ld b ≤ 4 := by
 unfold ld
 repeat' split
 all_goals omega
def bg : List Int → Int
 | [a] => ld a
 | [a, b] => if 2 ≤ ld a ∧ slo a ≤ b ∧ b ≤ shi a then ld a else 0
 | [a, b, c] => if 3 ≤ ld a ∧ slo a ≤ b ∧ b ≤ shi a ∧ 128 ≤ c ∧ c ≤ 191 then ld a else 0
 | [a, b, c, d] => if ld a = 4 ∧ slo a ≤ b ∧ b ≤ shi a ∧ 128 ≤ c ∧ c ≤ 191 ∧ 128 ≤ d ∧ d ≤ 191 then 4 else 0
 | _ => 0
def b0 (a : Int) : Int := if ld a = 2 then a - 192 else if ld a = 3 then a - 224 else if ld a = 4 then a - 240 else a
def vl : List Int → Int
 | [] => 0
 | a :: l => l.foldl (fun v x => v * 64 + (x - 128)) (b0 a)
def rs0 (b : Int) : List Int × List Int := if 1 < ld b then ([], [b]) else if ld b = 1 then ([b], []) else ([65533], [])
def rstep (h : List Int) (b : Int) : List Int × List Int :=
 if h = [] then rs0 b else if (h.length : Int) + 1 < bg (h ++ [b]) then ([], h ++ [b]) else if 0 < bg (h ++ [b]) then ([vl (h ++ [b])], []) else (65533 :: (rs0 b).1, (rs0 b).2)
def rfeed : List Int → List Int → List Int × List Int
 | h, [] => ([], h)
 | h, b :: p => ((rstep h b).1 ++ (rfeed (rstep h b).2 p).1, (rfeed (rstep h b).2 p).2)
theorem rfeed_app (h a b : List Int) : rfeed h (a ++ b) = ((rfeed h a).1 ++ (rfeed (rfeed h a).2 b).1, (rfeed (rfeed h a).2 b).2) := by
 induction a generalizing h with
 | nil => simp [rfeed]
 | cons x a ih => simp [rfeed, ih]
theorem rfeed_snoc (h a : List Int) (x : Int) : rfeed h (a ++ [x]) = ((rfeed h a).1 ++ (rstep (rfeed h a).2 x).1, (rstep (rfeed h a).2 x).2) := by
 rw [rfeed_app]
 simp [rfeed]
def Hh (h : List Int) : Prop := h = [] ∨ (h.length : Int) < bg h
theorem Hh.len {h : List Int} (hh : Hh h) : h.length ≤ 3 := by
 rcases hh with rfl | hh
 ·simp
 ·match h, hh with
  | [], _ => simp
  | [_], _ => simp
  | [_, _], _ => simp
  | [_, _, _], _ => simp
  | [a, b, c, d], q => simp only [bg, List.length_cons, List.length_nil] at q; split at q <;> omega
  | _ :: _ :: _ :: _ :: _ :: _, q => simp only [bg, List.length_cons] at q; omega
end Go.Proofs.YthokmpbbkpjhbaaGreatDoor
namespace Go.Proofs.YthokmpbbkpjhbaaGreatDoor
open Go Go.Lt
def Byt (b : Int) : Prop := 0 ≤ b ∧ b ≤ 255
def Bts (l : List Int) : Prop := ∀ x ∈ l, Byt x
theorem oct_lead {b : Int} (h : Byt b) : f_octet_Lead b = some (ld b) := by
 obtain ⟨h1, h2⟩ := h
 unfold f_octet_Lead ld
 simp only [andE_some, bsm, Bool.and_eq_true, decide_eq_true_eq, ge_iff_le]
 have e1 : w64 (0 + 1) = 1 := rfl
 have e2 : w64 (1 + 1) = 2 := rfl
 have e3 : w64 (2 + 1) = 3 := rfl
 have e4 : w64 (3 + 1) = 4 := rfl
 rw [e1, e2, e3, e4]
 repeat' split
 all_goals first | rfl | omega
theorem oct_second {b : Int} (h : Byt b) (hl : 2 ≤ ld b) : f_octet_Second b = some (slo b, shi b) := by
 unfold f_octet_Second slo shi
 rw [oct_lead h]
 simp only [bsm, beq_iff_eq, decide_eq_true_eq]
 rw [if_neg (by omega)]
 have e1 : IntKind.u8.wrap (IntKind.u8.wrap (191 - 16) - 32) = 143 := by decide
 have e2 : IntKind.u8.wrap (191 - 32) = 159 := by decide
 rw [e1, e2]
 by_cases a1 : b = 224
 ·subst a1; rfl
 by_cases a2 : b = 240
 ·subst a2; rfl
 by_cases a3 : b = 244
 ·subst a3; rfl
 by_cases a4 : b = 237
 ·subst a4; rfl
 rw [if_neg a1, if_neg a2, if_neg a3, if_neg a4, if_neg a1, if_neg a2, if_neg a4, if_neg a3]
 rfl
def bitsOk (n : Nat) : Bool := (f_octet_Bits n == if ld n = 0 then some 0 else some (b0 n))
theorem bits_all : (List.range 256).all bitsOk = true := by kernel_rfl
theorem oct_bits {b : Int} (h : Byt b) (hl : 1 ≤ ld b) : f_octet_Bits b = some (b0 b) := by
 obtain ⟨h1, h2⟩ := h
 have := List.all_eq_true.1 bits_all b.toNat (List.mem_range.2 (by omega))
 unfold bitsOk at this
 rw [beq_iff_eq, Int.toNat_of_nonneg h1, if_neg (by omega)] at this
 exact this
def tailOk (n : Nat) : Bool := (ibAnd .u8 n 63 == if 128 ≤ n ∧ n ≤ 191 then (n : Int) - 128 else ibAnd .u8 n 63)
theorem tail_all : (List.range 256).all tailOk = true := by kernel_rfl
theorem tail_and {b : Int} (h1 : 128 ≤ b) (h2 : b ≤ 191) : ibAnd .u8 b 63 = b - 128 := by
 have := List.all_eq_true.1 tail_all b.toNat (List.mem_range.2 (by omega))
 unfold tailOk at this
 rw [beq_iff_eq, Int.toNat_of_nonneg (by omega), if_pos (by omega)] at this
 exact this
theorem or_add {x y : Nat} (hx : x < 1000000000) (hy : y < 64) : ibOr .i64 ((x : Int) * 64) (y : Int) = ((x * 64 + y : Nat) : Int) := by
 have e1 : BitVec.ofInt 64 ((x : Int) * 64) = BitVec.ofNat 64 (x * 64) := by
  rw [show ((x : Int) * 64) = ((x * 64 : Nat) : Int) by simp, BitVec.ofInt_natCast]
 have e2 : BitVec.ofInt 64 (y : Int) = BitVec.ofNat 64 y := BitVec.ofInt_natCast _ _
 have e3 : (x * 64) ||| y = x * 64 + y := by
  have := Nat.shiftLeft_add_eq_or_of_lt (show y < 2 ^ 6 by omega) x
  rw [Nat.shiftLeft_eq] at this
  exact this.symm
 unfold ibOr
 rw [show IntKind.i64.bits = 64 from rfl, e1, e2, BitVec.toNat_or, BitVec.toNat_ofNat, BitVec.toNat_ofNat, Nat.mod_eq_of_lt (by omega), Nat.mod_eq_of_lt (by omega), e3]
 exact w64_in (by omega)
def Dv (d : G_utfdec_Dec) (h : List Int) : Prop :=
 Hh h ∧ Bts h ∧ d = (match h with | [] => ⟨0, 0, 0, 0, 0⟩ | [a] => ⟨1, ld a - 1, slo a, shi a, b0 a⟩ | a :: b :: t => ⟨(h.length : Int), bg h - (h.length : Int), 128, 191, vl h⟩)
theorem dec_begin {b : Int} (h : Byt b) : ∃ d', f_utfdec_Dec_begin__feed_Feeder_1 ⟨0, 0, 0, 0, 0⟩ b = some (d', (rs0 b).1) ∧ Dv d' (rs0 b).2 := by
 have hb := h
 obtain ⟨h1, h2⟩ := hb
 unfold f_utfdec_Dec_begin__feed_Feeder_1 rs0
 rw [oct_lead h]
 simp only [bsm, beq_iff_eq]
 have hin := ld_in b
 by_cases e0 : ld b = 0
 ·rw [if_pos e0, if_neg (by omega), if_neg (by omega)]
  exact ⟨_, rfl, .inl rfl, fun x hx => by simp at hx, rfl⟩
 ·rw [if_neg e0]
  by_cases e1 : ld b = 1
  ·rw [if_pos e1, if_neg (by omega), if_pos e1, w32_in (by omega)]
   exact ⟨_, rfl, .inl rfl, fun x hx => by simp at hx, rfl⟩
  ·rw [if_neg e1, if_pos (by omega), oct_bits h (by omega), oct_second h (by omega)]
   simp only [bsm]
   rw [w64_in (by omega)]
   refine ⟨_, rfl, .inr ?_, fun x hx => ?_, rfl⟩
   ·simp only [List.length_cons, List.length_nil, bg]; omega
   ·rw [List.mem_singleton.1 hx]; exact h
theorem vl_snoc {h : List Int} (hne : h ≠ []) (b : Int) : vl (h ++ [b]) = vl h * 64 + (b - 128) := by
 cases h with
 | nil => exact absurd rfl hne
 | cons a t => simp [vl, List.foldl_append]
theorem b0_in {a : Int} (h : Byt a) (hl : 2 ≤ ld a) : 0 ≤ b0 a ∧ b0 a ≤ 31 := by
 obtain ⟨h1, h2⟩ := h
 unfold b0
 unfold ld at hl
 unfold ld
 repeat' split at hl
 all_goals (repeat' split)
 all_goals omega
theorem vl_in {h : List Int} (hh : Hh h) (hb : Bts h) (hne : h ≠ []) : 0 ≤ vl h ∧ vl h ≤ 131071 := by
 rcases hh with rfl | hh
 ·exact absurd rfl hne
 ·match h, hh with
  | [], _ => exact absurd rfl hne
  | [a], q =>
   have ha := hb a (by simp)
   simp only [bg, List.length_cons, List.length_nil] at q
   have := b0_in ha (by omega)
   simp only [vl, List.foldl]
   omega
  | [a, b], q =>
   have ha := hb a (by simp)
   simp only [bg, List.length_cons, List.length_nil] at q
   split at q
   ·rename_i g
    have := b0_in ha (by omega)
    have hs : 128 ≤ b ∧ b ≤ 191 := by
     have := g.2
     unfold slo shi at this
     repeat' split at this
     all_goals omega
    simp only [vl, List.foldl]
    omega
   ·omega
  | [a, b, c], q =>
   have ha := hb a (by simp)
   simp only [bg, List.length_cons, List.length_nil] at q
   split at q
   ·rename_i g
    have := b0_in ha (by omega)
    have hs : 128 ≤ b ∧ b ≤ 191 := by
     have := g.2
     unfold slo shi at this
     repeat' split at this
     all_goals omega
    simp only [vl, List.foldl]
    omega
   ·omega
  | [a, b, c, d], q => simp only [bg, List.length_cons, List.length_nil] at q; split at q <;> omega
  | _ :: _ :: _ :: _ :: _ :: _, q => simp only [bg, List.length_cons] at q; omega
theorem more_iff {h : List Int} (hh : (h.length : Int) < bg h) (hne : h ≠ []) (b : Int) : ∃ lo hi, (match h with | [a] => (slo a, shi a) | _ => (128, 191)) = (lo, hi) ∧ 128 ≤ lo ∧ hi ≤ 191 ∧
  ((lo ≤ b ∧ b ≤ hi) → bg (h ++ [b]) = bg h) ∧ (¬ (lo ≤ b ∧ b ≤ hi) → bg (h ++ [b]) = 0) := by
 match h, hh with
 | [], _ => exact absurd rfl hne
 | [a], q =>
  simp only [bg, List.length_cons, List.length_nil] at q
  refine ⟨slo a, shi a, rfl, by unfold slo; repeat' split; all_goals omega, by unfold shi; repeat' split; all_goals omega, fun g => ?_, fun g => ?_⟩
  ·simp only [List.cons_append, List.nil_append, bg]
   rw [if_pos ⟨by omega, g.1, g.2⟩]
  ·simp only [List.cons_append, List.nil_append, bg]
   rw [if_neg (fun c => g c.2)]
 | [a, c], q =>
  simp only [bg, List.length_cons, List.length_nil] at q
  refine ⟨128, 191, rfl, by omega, by omega, fun g => ?_, fun g => ?_⟩
  ·simp only [List.cons_append, List.nil_append, bg]
   split at q
   ·rename_i r
    rw [if_pos ⟨by omega, r.2.1, r.2.2, g.1, g.2⟩, if_pos r]
   ·omega
  ·simp only [List.cons_append, List.nil_append, bg]
   rw [if_neg (fun r => g r.2.2.2)]
 | [a, c, d], q =>
  have hl := ld_in a
  simp only [bg, List.length_cons, List.length_nil] at q
  refine ⟨128, 191, rfl, by omega, by omega, fun g => ?_, fun g => ?_⟩
  ·simp only [List.cons_append, List.nil_append, bg]
   split at q
   ·rename_i r
    rw [if_pos ⟨by omega, r.2.1, r.2.2.1, r.2.2.2.1, r.2.2.2.2, g.1, g.2⟩, if_pos r]
    omega
   ·omega
  ·simp only [List.cons_append, List.nil_append, bg]
   rw [if_neg (fun r => g r.2.2.2.2.2)]
 | [a, b, c, d], q => simp only [bg, List.length_cons, List.length_nil] at q; split at q <;> omega
 | _ :: _ :: _ :: _ :: _ :: _, q => simp only [bg, List.length_cons] at q; omega
theorem Dv.shape {d : G_utfdec_Dec} {h : List Int} (v : Dv d h) (hne : h ≠ []) : ∃ lo hi, (match h with | [a] => (slo a, shi a) | _ => (128, 191)) = (lo, hi) ∧ d = ⟨(h.length : Int), bg h - (h.length : Int), lo, hi, vl h⟩ := by
 obtain ⟨_, _, e⟩ := v
 match h, e with
 | [], _ => exact absurd rfl hne
 | [a], e => exact ⟨_, _, rfl, e⟩
 | a :: b :: t, e => exact ⟨_, _, rfl, e⟩
theorem dec_step {d : G_utfdec_Dec} {h : List Int} (v : Dv d h) {b : Int} (hb : Byt b) : ∃ d', f_utfdec_Dec_Step__feed_Feeder_1 d b = some (d', (rstep h b).1) ∧ Dv d' (rstep h b).2 := by
 have v0 := v
 obtain ⟨hh, hbs, e⟩ := v
 unfold f_utfdec_Dec_Step__feed_Feeder_1 rstep
 simp only [Bool.false_eq_true, if_false]
 by_cases hne : h = []
 ·subst hne
  simp only at e
  subst e
  obtain ⟨d', a1, a2⟩ := dec_begin hb
  simp only [beq_self_eq_true, eq_self, if_true, a1, bsm]
  exact ⟨d', rfl, a2⟩
 ·obtain ⟨lo, hi, e1, e2⟩ := v0.shape hne
  have hlt : (h.length : Int) < bg h := by
   rcases hh with q | q
   ·exact absurd q hne
   ·exact q
  obtain ⟨lo', hi', f1, f2, f3, f4, f5⟩ := more_iff hlt hne b
  rw [e1] at f1
  cases f1
  subst e2
  have hlen : 0 < h.length := by
   cases h with
   | nil => exact absurd rfl hne
   | cons _ _ => simp
  have hl3 := hh.len
  rw [if_neg hne]
  simp only [beq_iff_eq]
  rw [if_neg (by omega)]
  simp only [orE_some, bsm, Bool.or_eq_true, decide_eq_true_eq, gt_iff_lt]
  by_cases hr : lo ≤ b ∧ b ≤ hi
  ·have hbg := f4 hr
   have hvl := vl_in hh hbs hne
   have hbgl : bg h ≤ 4 := by
    match h, hlen with
    | [a], _ => simp only [bg]; exact (ld_in a).2
    | [a, b], _ => simp only [bg]; split <;> first | exact (ld_in a).2 | omega
    | [a, b, c], _ => simp only [bg]; split <;> first | exact (ld_in a).2 | omega
    | a :: b :: c :: x :: t, _ => simp at hl3
   have hbits : ibOr .i64 (w64 (vl h * 2 ^ 6)) (w64 (ibAnd .u8 b 63)) = vl h * 64 + (b - 128) := by
    obtain ⟨x, hx⟩ : ∃ x : Nat, vl h = (x : Int) := ⟨(vl h).toNat, by omega⟩
    obtain ⟨y, hy⟩ : ∃ y : Nat, b - 128 = (y : Int) := ⟨(b - 128).toNat, by omega⟩
    rw [tail_and (by omega) (by omega), hx, hy, show ((x : Int) * 2 ^ 6) = (x : Int) * 64 from rfl, w64_in (by omega), w64_in (by omega), or_add (by omega) (by omega)]
    simp
   have hbs' : Bts (h ++ [b]) := fun x hx => by
    rcases List.mem_append.1 hx with hx | hx
    ·exact hbs x hx
    ·rw [List.mem_singleton.1 hx]; exact hb
   have hsn := vl_snoc hne b
   rw [if_neg (by omega), w64_in (by omega), w64_in (by omega), hbits, ← hsn]
   by_cases hm : (h.length : Int) + 1 < bg h
   ·rw [if_pos (by omega), if_pos (by rw [hbg]; omega)]
    refine ⟨_, rfl, .inr (by rw [hbg]; simp; omega), hbs', ?_⟩
    simp only [hbg]
    match h, hlen with
    | a :: t, _ =>
     cases t with
     | nil => simp only [List.cons_append, List.nil_append, List.length_cons, List.length_nil, G_utfdec_Dec.mk.injEq, and_true, true_and]; omega
     | cons b2 t => simp only [List.cons_append, List.length_cons, List.length_append, List.length_nil, G_utfdec_Dec.mk.injEq, and_true, true_and]; omega
   ·rw [if_neg (by omega), if_neg (by rw [hbg]; omega), if_pos (by rw [hbg]; omega), w32_in (by rw [hsn]; omega)]
    exact ⟨_, rfl, .inl rfl, fun x hx => by simp at hx, rfl⟩
  ·have hz := f5 hr
   rw [if_pos (by omega), if_neg (by rw [hz]; omega), if_neg (by rw [hz]; omega)]
   have hfl : f_utfdec_Dec_Flush__feed_Feeder_1 ⟨(h.length : Int), bg h - (h.length : Int), lo, hi, vl h⟩ = some (⟨0, 0, 0, 0, 0⟩, [65533]) := by
    unfold f_utfdec_Dec_Flush__feed_Feeder_1 f_utfdec_Dec_Held__feed_Feeder_1
    simp only [Bool.false_eq_true, if_false, bsm, beq_iff_eq]
    rw [if_neg (by omega)]
   rw [hfl]
   simp only [bsm]
   obtain ⟨d', a1, a2⟩ := dec_begin hb
   rw [a1]
   simp only [bsm]
   have hrl : (rs0 b).1.length ≤ 1 := by
    unfold rs0
    split
    ·simp
    ·split <;> simp
   rw [app_eq (by simp; omega)]
   exact ⟨d', rfl, a2⟩
theorem dec_held {d : G_utfdec_Dec} {h : List Int} (v : Dv d h) : f_utfdec_Dec_Held__feed_Feeder_1 d = some (h.length : Int) := by
 unfold f_utfdec_Dec_Held__feed_Feeder_1
 simp only [Bool.false_eq_true, if_false]
 by_cases hne : h = []
 ·subst hne
  obtain ⟨_, _, e⟩ := v
  simp only at e
  rw [e]
  rfl
 ·obtain ⟨lo, hi, _, e⟩ := v.shape hne
  rw [e]
theorem dec_flush {d : G_utfdec_Dec} {h : List Int} (v : Dv d h) : f_utfdec_Dec_Flush__feed_Feeder_1 d = some (⟨0, 0, 0, 0, 0⟩, if h = [] then [] else [65533]) := by
 unfold f_utfdec_Dec_Flush__feed_Feeder_1
 rw [dec_held v]
 simp only [bsm, beq_iff_eq]
 by_cases hne : h = []
 ·subst hne
  obtain ⟨_, _, e⟩ := v
  simp only at e
  rw [if_pos (by simp), if_pos rfl, e]
 ·rw [if_neg (fun e => hne (List.eq_nil_of_length_eq_zero (by omega))), if_neg hne]
theorem Dv.zero : Dv ⟨0, 0, 0, 0, 0⟩ [] := ⟨.inl rfl, fun x hx => by simp at hx, rfl⟩
def fr (n : Nat) : Int := if n = 2 then 128 else if n = 3 then 2048 else if n = 4 then 65536 else 0
theorem ld_cases (a : Int) : (ld a = 1 ∧ a < 128) ∨ (ld a = 2 ∧ 194 ≤ a ∧ a ≤ 223) ∨ (ld a = 3 ∧ 224 ≤ a ∧ a ≤ 239) ∨ (ld a = 4 ∧ 240 ≤ a ∧ a ≤ 244) ∨ (ld a = 0 ∧ 128 ≤ a ∧ ¬ (194 ≤ a ∧ a ≤ 244)) := by
 unfold ld
 repeat' split
 all_goals omega
theorem bg_ge {p : List Int} (h : 0 < bg p) : (p.length : Int) ≤ bg p := by
 match p, h with
 | [], h => simp [bg] at h
 | [a], h => simp only [bg, List.length_cons, List.length_nil] at h ⊢; omega
 | [a, b], h => simp only [bg, List.length_cons, List.length_nil] at h ⊢; split at h <;> rename_i g; rw [if_pos g]; omega; omega
 | [a, b, c], h => simp only [bg, List.length_cons, List.length_nil] at h ⊢; split at h <;> rename_i g; rw [if_pos g]; omega; omega
 | [a, b, c, d], h => simp only [bg, List.length_cons, List.length_nil] at h ⊢; split at h <;> rename_i g; rw [if_pos g]; omega; omega
 | _ :: _ :: _ :: _ :: _ :: _, h => simp [bg] at h
theorem bg_le (p : List Int) : 0 ≤ bg p ∧ bg p ≤ 4 := by
 match p with
 | [] => simp [bg]
 | [a] => exact ld_in a
 | [a, b] => simp only [bg]; split <;> first | exact ld_in a | omega
 | [a, b, c] => simp only [bg]; split <;> first | exact ld_in a | omega
 | [a, b, c, d] => simp only [bg]; split <;> omega
 | _ :: _ :: _ :: _ :: _ :: _ => simp [bg]
theorem Bts.snoc {h : List Int} (hb : Bts h) {b : Int} (h1 : Byt b) : Bts (h ++ [b]) := fun x hx => by
 rcases List.mem_append.1 hx with hx | hx
 ·exact hb x hx
 ·rw [List.mem_singleton.1 hx]; exact h1
theorem rstep_len (h : List Int) (b : Int) : (rstep h b).1.length ≤ 2 := by
 have hrl : (rs0 b).1.length ≤ 1 := by
  unfold rs0
  split
  ·simp
  ·split <;> simp
 unfold rstep
 split
 ·omega
 ·split
  ·simp
  ·split
   ·simp
   ·simp; omega
theorem rstep_bts {h : List Int} (hb : Bts h) {b : Int} (h1 : Byt b) : Bts (rstep h b).2 := by
 have h0 : Bts (rs0 b).2 := by
  unfold rs0
  split
  ·intro x hx; rw [List.mem_singleton.1 hx]; exact h1
  ·split <;> (intro x hx; simp at hx)
 unfold rstep
 split
 ·exact h0
 ·split
  ·exact hb.snoc h1
  ·split
   ·intro x hx; simp at hx
   ·exact h0
theorem rfeed_bts {h p : List Int} (hb : Bts h) (hp : Bts p) : Bts (rfeed h p).2 := by
 induction p generalizing h with
 | nil => exact hb
 | cons b p ih => exact ih (rstep_bts hb (hp b (by simp))) (fun x hx => hp x (List.mem_cons_of_mem _ hx))
theorem Bts.nil : Bts [] := fun x hx => by simp at hx
end Go.Proofs.YthokmpbbkpjhbaaGreatDoor
namespace Go.Proofs.YthokmpbbkpjhbaaGreatDoor
open Go Go.Lt
variable {s C : Sto} {f k g W H : Nat} {q P : G_linotyperef34_Pen} {ks : List Nat}
def Sto.sf (s : Sto) (f : Nat) (x : G_feed_Feeder) : Sto := { s with feed_Feeder := s.feed_Feeder.set f x }
theorem set_fd {x : G_feed_Feeder} (h : f < s.feed_Feeder.length) : s.set_feed_Feeder f x = some (s.sf f x) := by
 unfold Sto.set_feed_Feeder
 rw [if_pos h]
 rfl
theorem sf_get {x : G_feed_Feeder} (h : f < s.feed_Feeder.length) : (s.sf f x).feed_Feeder[f]? = some x := by simp [Sto.sf, h]
theorem sf_sf (s : Sto) (f : Nat) (x y : G_feed_Feeder) : (s.sf f x).sf f y = s.sf f y := by simp [Sto.sf]
theorem sf_len (s : Sto) (f : Nat) (x : G_feed_Feeder) : (s.sf f x).feed_Feeder.length = s.feed_Feeder.length := by simp [Sto.sf]
theorem Pv.sf (h : Pv s s k g W q ks) (x : G_feed_Feeder) : Pv (s.sf f x) (s.sf f x) k g W q ks :=
 ⟨h.p, ⟨h.g.g, h.g.r, h.g.h1, h.g.h2, h.g.w1, h.g.w2⟩, h.nd, h.l, rfl, h.f.rgp ⟨rfl, rfl, rfl⟩ ⟨rfl, rfl, rfl⟩⟩
theorem Wc.sf {j : Nat} {c : G_api_Cursor} {y : G_cwidth_Gauge} {t : List Int} {n : Int} (h : Wc s j c y t n) (x : G_feed_Feeder) : Wc (s.sf f x) j c y t n := ⟨h.x⟩
def ownC (C : Sto) (f j : Nat) : Prop := ∃ x, C.feed_Feeder[f]? = some x ∧ x.open_ = some j
structure Fz (C s : Sto) (f : Nat) (op : Option Nat) : Prop where
 fl : C.feed_Feeder.length ≤ s.feed_Feeder.length
 ff : ∀ j, j < C.feed_Feeder.length → j ≠ f → s.feed_Feeder[j]? = C.feed_Feeder[j]?
 wl : C.widen_Cluster.length ≤ s.widen_Cluster.length
 wc : ∀ j, j < C.widen_Cluster.length → ¬ ownC C f j → s.widen_Cluster[j]? = C.widen_Cluster[j]?
 oc : ∀ j, op = some j → ownC C f j ∨ C.widen_Cluster.length ≤ j
 sc : s.screen_Screen = C.screen_Screen
theorem oth_fd {a b : Sto} (h : a.oth = b.oth) : a.feed_Feeder = b.feed_Feeder := by
 have := congrArg Sto.feed_Feeder h
 exact this
theorem oth_sc {a b : Sto} (h : a.oth = b.oth) : a.screen_Screen = b.screen_Screen := by
 have := congrArg Sto.screen_Screen h
 exact this
theorem Fz.oth {s' : Sto} {op : Option Nat} (h : Fz C s f op) (e : s'.oth = s.oth) : Fz C s' f op := by
 refine ⟨by rw [oth_fd e]; exact h.fl, by rw [oth_fd e]; exact h.ff, by rw [oth_cl e]; exact h.wl, by rw [oth_cl e]; exact h.wc, h.oc, by rw [oth_sc e]; exact h.sc⟩
theorem Fz.sf {op : Option Nat} (h : Fz C s f op) (x : G_feed_Feeder) (op' : Option Nat) (ho : ∀ j, op' = some j → ownC C f j ∨ C.widen_Cluster.length ≤ j) : Fz C (s.sf f x) f op' :=
 ⟨by rw [sf_len]; exact h.fl, fun j a b => by simp only [Sto.sf]; rw [List.getElem?_set_ne (Ne.symm b)]; exact h.ff j a b, h.wl, h.wc, ho, h.sc⟩
theorem Fz.more {op : Option Nat} (h : Fz C s f op) {s' : Sto} {z : G_widen_Cluster} (e : s'.oth = (s.add_widen_Cluster z).oth) : Fz C s' f op := by
 have e1 : s'.feed_Feeder = s.feed_Feeder := (oth_fd e).trans rfl
 have e2 : s'.widen_Cluster = s.widen_Cluster ++ [z] := (oth_cl e).trans rfl
 have e3 : s'.screen_Screen = s.screen_Screen := (oth_sc e).trans rfl
 have hl := h.wl
 exact ⟨by rw [e1]; exact h.fl, by rw [e1]; exact h.ff, by rw [e2, List.length_append]; omega, fun j a b => by rw [e2, List.getElem?_append_left (by omega)]; exact h.wc j a b, h.oc, by rw [e3]; exact h.sc⟩
theorem Fz.grow {j : Nat} (h : Fz C s f (some j)) {s' : Sto} {z : G_widen_Cluster} (e : s'.oth = (s.sc j z).oth) : Fz C s' f (some j) := by
 have e1 : s'.feed_Feeder = s.feed_Feeder := (oth_fd e).trans rfl
 have e2 : s'.widen_Cluster = s.widen_Cluster.set j z := (oth_cl e).trans rfl
 have e3 : s'.screen_Screen = s.screen_Screen := (oth_sc e).trans rfl
 refine ⟨by rw [e1]; exact h.fl, by rw [e1]; exact h.ff, by rw [e2, List.length_set]; exact h.wl, fun i a b => ?_, h.oc, by rw [e3]; exact h.sc⟩
 rw [e2, List.getElem?_set_ne ?_]
 ·exact h.wc i a b
 ·rintro rfl
  rcases h.oc j rfl with q | q
  ·exact b q
  ·omega
def lsil (G : List Int) : Bool := match G.getLast? with | none => true | some x => sil x
theorem lsil_snoc (G : List Int) (r : Int) : lsil (G ++ [r]) = sil r := by simp [lsil]
def sgOf (G : List Int) : Sg := if lsil G = true then sg0 else sgF (G.map pr)
structure Op (s : Sto) (k g W H : Nat) (P : G_linotyperef34_Pen) (G : List Int) (q : G_linotyperef34_Pen) (j : Nat) : Prop where
 x : ∃ q0 c C0 s0 ks0 cs0 cl, cls pj pr G = cs0 ++ [cl] ∧ cl ≠ [] ∧ sil (cl.headD 0) = false ∧ fo layc P cs0 = some q0 ∧ Pv C0 s0 k g W q0 ks0 ∧ ks0.length = H ∧
  Wc s j c (gf (cl.take 16) ((cl.take 16).map pr)) (cl.take 16) (w16 cl) ∧ f_linotyperef34_Pen_Put q0 (w16 cl) (cl.take 16) = some (q, c)
structure Fd (C s : Sto) (f k g W H : Nat) (P : G_linotyperef34_Pen) (G h : List Int) (q : G_linotyperef34_Pen) (ks : List Nat) (op : Option Nat) : Prop where
 v : Pv s s k g W q ks
 fr : Fr C s k g ks
 fz : Fz C s f op
 n : ks.length = H
 hd : Hd q.At W H
 l : fo layc P (cls pj pr G) = some q
 gv : ∀ x ∈ G, vld x = true
 d : ∃ d, s.feed_Feeder[f]? = some ⟨some k, d, sgB (sgOf G), op⟩ ∧ Dv d h
 o1 : lsil G = true → op = none
 o2 : lsil G = false → ∃ j, op = some j ∧ Op s k g W H P G q j
theorem vld_32 {x : Int} (h : vld x = true) : r32 x := by
 unfold vld at h
 unfold r32
 simp only [Bool.and_eq_true, decide_eq_true_eq] at h
 omega
theorem do36_of {q q' : G_linotyperef34_Pen} {r : Int} {b : Bool} (h : f_linotyperef36_Do q r = some (q', b)) : do36 q r = some q' := by
 unfold do36
 rw [h]
 rfl
theorem w16_len (c : List Int) : (c.take 16).length ≤ 16 := by rw [List.length_take]; omega
theorem gf_map_snoc (t : List Int) (r : Int) : gf (t ++ [r]) ((t ++ [r]).map pr) = gz (gf t (t.map pr)) r (pr r) := by
 rw [gf_snoc (by simp) r]
 have e : ((t ++ [r]).map pr).take t.length = t.map pr := by simp
 rw [← gf_take t ((t ++ [r]).map pr) (Nat.le_refl _), e]
 simp
theorem fixv_vld {r : Int} (h : vld r = true) : fixv r = r := by unfold fixv; rw [if_pos h]
theorem put_hd {C s : Sto} {k g W H : Nat} {q0 q : G_linotyperef34_Pen} {ks : List Nat} (h : Pv C s k g W q0 ks) (hn : ks.length = H) {n : Int} {t : List Int} (ht : t.length ≤ 1000000) {c : G_api_Cursor} (hp : f_linotyperef34_Pen_Put q0 n t = some (q, c)) : Hd q.At W H := by
 obtain ⟨s', q', ks', i, a, _, _, a2, _, _, a5, _⟩ := put_eq h n t ht
 rw [hp] at a2
 cases a2
 rw [← hn]
 exact a5
theorem comes_eq {G h : List Int} {op : Option Nat} (F : Fd C s f k g W H P G h q ks op) {r : Int} (hr : vld r = true) : ∃ s' q' ks' op', f_feed_Feeder_comes s (some f) r = some s' ∧ Fd C s' f k g W H P (G ++ [r]) h q' ks' op' := by
 obtain ⟨d, hd, hdv⟩ := F.d
 have hf := get_lt hd
 have hgv : ∀ x ∈ G ++ [r], vld x = true := fun x hx => by
  rcases List.mem_append.1 hx with hx | hx
  ·exact F.gv x hx
  ·rw [List.mem_singleton.1 hx]; exact hr
 have hcs := cls_snoc pj pr G r
 unfold f_feed_Feeder_comes
 rw [silent]
 simp only [bsm]
 cases hs : sil r with
 | true =>
  simp only [if_true]
  unfold f_feed_Feeder_Close
  simp only [Option.isNone_some, Bool.not_false, if_true, bsm, hd]
  rw [set_fd hf]
  simp only [bsm, seg_reset]
  rw [set_fd (by rw [sf_len]; exact hf), sf_sf]
  simp only [bsm]
  rw [sf_get hf]
  simp only [bsm]
  obtain ⟨s', q', ks', a1, a2, a3, hks, hcd⟩ := ctrl_eq (F.v.sf (f := f) ⟨some k, d, sgB sg0, none⟩) r
  rw [a1]
  have hdo := do36_of a2
  have hf1 : Fr C (s.sf f ⟨some k, d, sgB sg0, none⟩) k g ks := F.fr.rgp (Rgp.self _) ⟨rfl, rfl, rfl⟩
  have hv1 := F.v.sf (f := f) ⟨some k, d, sgB sg0, none⟩
  refine ⟨s', q', ks', none, rfl, ⟨a3.self, hf1.trans hv1.oG hv1.oR a3.f, (F.fz.sf ⟨some k, d, sgB sg0, none⟩ none (fun j e => by cases e)).oth a3.o, by rw [hks]; exact F.n, by rw [← F.n]; exact hcd (by rw [F.n]; exact F.hd), ?_, hgv, ⟨d, ?_, hdv⟩, fun _ => rfl, fun e => ?_⟩⟩
  ·
   rw [hcs]
   split
   ·rename_i hj
    obtain ⟨l0, x, rfl, hx⟩ := silS.yes hs hj
    obtain ⟨cs0, c, ec⟩ := snoc_cases ((cls_flat (pj := pj) (pr := pr) (l0 ++ [x])).2.2 (by simp))
    obtain ⟨c', rfl⟩ := cls_last ec
    rw [ec, addL_snoc]
    have hall := silS.all (l0 ++ [x]) (c' ++ [x]) (by rw [ec]; simp)
    have hal : ∀ y ∈ c' ++ [x], sil y = true := by
     rcases hall with q | q
     ·exact q
     ·have := q x (by simp); rw [hx] at this; cases this
    have hl := F.l
    rw [ec, fo_snoc] at hl
    rw [fo_snoc]
    cases hq0 : fo layc P cs0 with
    | none => rw [hq0] at hl; cases hl
    | some q0 =>
     rw [hq0] at hl
     simp only [bsm] at hl ⊢
     obtain ⟨a, t, ea⟩ : ∃ a t, c' ++ [x] = a :: t := by
      cases h : c' ++ [x] with
      | nil => simp at h
      | cons a t => exact ⟨a, t, rfl⟩
     have ha : sil a = true := hal a (by rw [ea]; simp)
     rw [ea, layc_sil ha] at hl
     rw [ea, List.cons_append, layc_sil ha, ← List.cons_append, fo_snoc, hl]
     exact hdo
   ·rw [fo_snoc, F.l]
    simp only [bsm]
    rw [layc_sil hs]
    show (do36 q r).bind (fun b => some b) = _
    rw [hdo]
    rfl
  ·have : sgOf (G ++ [r]) = sg0 := by unfold sgOf; rw [lsil_snoc, if_pos hs]
   rw [this, oth_fd a3.o]
   exact sf_get hf
  ·rw [lsil_snoc, hs] at e
   cases e
 | false =>
  simp only [Bool.false_eq_true, if_false]
  rw [ucd_of r (vld_32 hr)]
  simp only [bsm, hd]
  rw [seg_step]
  simp only [bsm]
  rw [set_fd hf]
  simp only [bsm]
  have hsj : sgJ pj (sgOf G) (pr r) = jn pj pr G r ∧ sgN (sgOf G) (pr r) = sgF ((G ++ [r]).map pr) := by
   unfold sgOf
   rw [List.map_append, List.map_singleton, sgF_snoc]
   cases hL : lsil G with
   | false => simp only [Bool.false_eq_true, if_false]; exact ⟨rfl, trivial⟩
   | true =>
    simp only [if_true]
    by_cases hG : G = []
    ·subst hG; exact ⟨rfl, rfl⟩
    ·obtain ⟨G0, x, rfl⟩ := snoc_cases hG
     rw [lsil_snoc] at hL
     rw [silS.no G0 hL hs, silS.new G0 hL]
     exact ⟨rfl, rfl⟩
  rw [hsj.1, hsj.2]
  have hsg : sgOf (G ++ [r]) = sgF ((G ++ [r]).map pr) := by unfold sgOf; rw [lsil_snoc, hs]; rfl
  rw [← hsg]
  have hv1 := F.v.sf (f := f) ⟨some k, d, sgB (sgOf (G ++ [r])), op⟩
  have hf1 : Fr C (s.sf f ⟨some k, d, sgB (sgOf (G ++ [r])), op⟩) k g ks := F.fr.rgp (Rgp.self _) ⟨rfl, rfl, rfl⟩
  have hz1 := F.fz.sf ⟨some k, d, sgB (sgOf (G ++ [r])), op⟩ op F.fz.oc
  have hg1 : (s.sf f ⟨some k, d, sgB (sgOf (G ++ [r])), op⟩).feed_Feeder[f]? = some ⟨some k, d, sgB (sgOf (G ++ [r])), op⟩ := sf_get hf
  simp only [andE_some, bsm]
  rw [hg1]
  simp only [bsm]
  have hfix := fixv_vld hr
  cases hj : jn pj pr G r with
  | true =>
   have hL : lsil G = false := by
    cases hL : lsil G with
    | false => rfl
    | true =>
     obtain ⟨G0, x, rfl⟩ := snoc_cases (jn_ne pj pr hj)
     rw [lsil_snoc] at hL
     rw [silS.no G0 hL hs] at hj
     cases hj
   obtain ⟨j, rfl, ⟨q0, c, C0, s0, ks0, cs0, cl, ec, hcne, hcs0, hq0, hp0, hn0, hw, hput⟩⟩ := F.o2 hL
   simp only [Option.isNone_some, Bool.not_false, Bool.and_self, if_true]
   have hcs2 : cls pj pr (G ++ [r]) = cs0 ++ [cl ++ [r]] := by rw [hcs, if_pos hj, ec, addL_snoc]
   have hclv : ∀ x ∈ cl.take 16, vld x = true := fun x hx => F.gv x (by
    rw [← (cls_flat (pj := pj) (pr := pr) G).1, ec]
    exact List.mem_flatten.2 ⟨cl, by simp, List.mem_of_mem_take hx⟩)
   have hhd : sil ((cl ++ [r]).headD 0) = false := by
    cases cl with
    | nil => exact absurd rfl hcne
    | cons a t => exact hcs0
   have hw16 : w16 cl = wz (gf (cl.take 16) ((cl.take 16).map pr)) := rfl
   rw [hw16] at hw hput
   have on : On C (s.sf f ⟨some k, d, sgB (sgOf (G ++ [r])), some j⟩) k g W H j q0 (gf (cl.take 16) ((cl.take 16).map pr)) (cl.take 16) q c ks := ⟨hv1, hf1, hw.sf _, F.n, hput⟩
   have hlayc : ∀ q2 c2, f_linotyperef34_Pen_Put q0 (w16 (cl ++ [r])) ((cl ++ [r]).take 16) = some (q2, c2) → fo layc P (cls pj pr (G ++ [r])) = some q2 := fun q2 c2 e => by
    rw [hcs2, fo_snoc, hq0]
    simp only [bsm]
    cases hcc : cl ++ [r] with
    | nil => simp at hcc
    | cons a t =>
     rw [hcc] at e hhd
     rw [layc_not (by simpa using hhd), e]
     rfl
   have hlen : cl.length < 16 ∨ 16 ≤ cl.length := by omega
   have hcl1 : 1 ≤ cl.length := by
    cases cl with
    | nil => exact absurd rfl hcne
    | cons _ _ => simp
   rcases hlen with hlt | hge
   ·have et : cl.take 16 = cl := List.take_of_length_le (by omega)
    have et2 : (cl ++ [r]).take 16 = cl ++ [r] := List.take_of_length_le (by simp; omega)
    rw [et] at on hclv
    obtain ⟨s', q', c', ks', b1, b2, z, b3⟩ := join_eq hp0 hn0 on hcl1 hlt hclv r (pr r)
    rw [b1]
    simp only [bsm]
    rw [hfix, ← gf_map_snoc] at b2
    have hw2 : w16 (cl ++ [r]) = wz (gf (cl ++ [r]) ((cl ++ [r]).map pr)) := by unfold w16; rw [et2]
    refine ⟨s', q', ks', some j, rfl, ⟨b2.v, b2.f, hz1.grow b3, b2.n, put_hd hp0 hn0 (w16_len cl |> fun _ => by simp; omega) b2.p, hlayc q' c' (by rw [hw2, et2]; exact b2.p), hgv, ⟨d, ?_, hdv⟩, fun e => ?_, fun _ => ⟨j, rfl, ⟨q0, c', C0, s0, ks0, cs0, cl ++ [r], hcs2, by simp, hhd, hq0, hp0, hn0, ?_, by rw [hw2, et2]; exact b2.p⟩⟩⟩⟩
    ·rw [show s'.feed_Feeder = (s.sf f ⟨some k, d, sgB (sgOf (G ++ [r])), some j⟩).feed_Feeder from (oth_fd b3).trans rfl]
     exact hg1
    ·rw [lsil_snoc, hs] at e; cases e
    ·rw [hw2, et2]
     exact b2.w
   ·have hfl : (cl.take 16).length = 16 := by rw [List.length_take]; omega
    have et2 : (cl ++ [r]).take 16 = cl.take 16 := List.take_append_of_le_length hge
    have hw2 : w16 (cl ++ [r]) = w16 cl := by unfold w16; rw [et2]
    rw [join_full on hfl r (pr r)]
    simp only [bsm]
    refine ⟨_, q, ks, some j, rfl, ⟨hv1, hf1, hz1, F.n, F.hd, hlayc q c (by rw [hw2, et2]; exact hput), hgv, ⟨d, hg1, hdv⟩, fun e => ?_, fun _ => ⟨j, rfl, ⟨q0, c, C0, s0, ks0, cs0, cl ++ [r], hcs2, by simp, hhd, hq0, hp0, hn0, ?_, by rw [hw2, et2]; exact hput⟩⟩⟩⟩
    ·rw [lsil_snoc, hs] at e; cases e
    ·rw [hw2, et2]
     exact hw.sf _
  | false =>
   simp only [Bool.false_and, Bool.false_eq_true, if_false]
   obtain ⟨s2, q2, c2, ks2, b1, b2, z, b3⟩ := begin_eq hv1 r (pr r)
   rw [b1]
   simp only [bsm]
   have e1 : s2.feed_Feeder = (s.sf f ⟨some k, d, sgB (sgOf (G ++ [r])), op⟩).feed_Feeder := (oth_fd b3).trans rfl
   rw [e1, hg1]
   simp only [bsm]
   have hf2 : f < s2.feed_Feeder.length := by rw [e1, sf_len]; exact hf
   rw [set_fd hf2]
   rw [hfix] at b2
   have hgf : gz ⟨false, false, false⟩ r (pr r) = gf [r] ([r].map pr) := by
    have := gf_map_snoc [] r
    simp only [List.nil_append] at this
    rw [this]
    rfl
   rw [hgf] at b2
   have hcs2 : cls pj pr (G ++ [r]) = cls pj pr G ++ [[r]] := by rw [hcs, hj]; rfl
   have hlay : fo layc P (cls pj pr (G ++ [r])) = some q2 := by
    rw [hcs2, fo_snoc, F.l]
    simp only [bsm]
    rw [layc_not hs]
    show (f_linotyperef34_Pen_Put q (wz (gf [r] ([r].map pr))) [r]).map (·.1) = some q2
    rw [b2.p]
    rfl
   refine ⟨_, q2, ks2, some (s.sf f ⟨some k, d, sgB (sgOf (G ++ [r])), op⟩).widen_Cluster.length, rfl, ⟨b2.v.sf _, ?_, (hz1.more b3).sf _ _ (fun j e => ?_), b2.n.trans F.n, put_hd F.v F.n (by simp) b2.p, hlay, hgv, ⟨d, sf_get hf2, hdv⟩, fun e => ?_, fun _ => ⟨_, rfl, ⟨q, c2, _, _, ks, cls pj pr G, [r], hcs2, by simp, hs, F.l, F.v, F.n, b2.w.sf _, b2.p⟩⟩⟩⟩
   ·exact (hf1.trans hv1.oG hv1.oR b2.f).rgp (Rgp.self _) ⟨rfl, rfl, rfl⟩
   ·cases e
    exact .inr hz1.wl
   ·rw [lsil_snoc, hs] at e; cases e
end Go.Proofs.YthokmpbbkpjhbaaGreatDoor
namespace Go.Proofs.YthokmpbbkpjhbaaGreatDoor
open Go Go.Lt
variable {s C : Sto} {f k g W H : Nat} {q P : G_linotyperef34_Pen} {ks : List Nat} {op : Option Nat}
theorem vl_vld {p : List Int} (hp : Bts p) (hb : bg p = (p.length : Int)) (hne : p ≠ []) : vld (vl p) = true := by
 have h4 := bg_le p
 unfold vld
 simp only [Bool.and_eq_true, decide_eq_true_eq]
 match p, hne with
 | [a], _ =>
  obtain ⟨a1, a2⟩ := hp a (by simp)
  have hl := ld_cases a
  simp only [bg, List.length_cons, List.length_nil] at hb
  simp only [vl, List.foldl, b0]
  repeat' split
  all_goals simp only [Bool.or_eq_true, decide_eq_true_eq]
  all_goals omega
 | [a, b], _ =>
  obtain ⟨a1, a2⟩ := hp a (by simp)
  have hl := ld_cases a
  simp only [bg, List.length_cons, List.length_nil] at hb
  split at hb
  ·rename_i g
   have hs : 128 ≤ b ∧ b ≤ 191 := by
    have := g.2
    unfold slo shi at this
    repeat' split at this
    all_goals omega
   simp only [vl, List.foldl, b0]
   repeat' split
   all_goals simp only [Bool.or_eq_true, decide_eq_true_eq]
   all_goals omega
  ·omega
 | [a, b, c], _ =>
  obtain ⟨a1, a2⟩ := hp a (by simp)
  have hl := ld_cases a
  simp only [bg, List.length_cons, List.length_nil] at hb
  split at hb
  ·rename_i g
   have hs : 128 ≤ b ∧ b ≤ 191 ∧ (a = 237 → b ≤ 159) := by
    have := g.2
    unfold slo shi at this
    repeat' split at this
    all_goals omega
   simp only [vl, List.foldl, b0]
   repeat' split
   all_goals simp only [Bool.or_eq_true, decide_eq_true_eq]
   all_goals omega
  ·omega
 | [a, b, c, d], _ =>
  obtain ⟨a1, a2⟩ := hp a (by simp)
  have hl := ld_cases a
  simp only [bg, List.length_cons, List.length_nil] at hb
  split at hb
  ·rename_i g
   have hs : 128 ≤ b ∧ b ≤ 191 ∧ (a = 240 → 144 ≤ b) ∧ (a = 244 → b ≤ 143) := by
    have := g.2
    unfold slo shi at this
    repeat' split at this
    all_goals omega
   simp only [vl, List.foldl, b0]
   repeat' split
   all_goals simp only [Bool.or_eq_true, decide_eq_true_eq]
   all_goals omega
  ·omega
 | _ :: _ :: _ :: _ :: _ :: _, _ => simp only [bg, List.length_cons] at hb; omega
theorem rs0_vld {b : Int} (h : Byt b) : ∀ x ∈ (rs0 b).1, vld x = true := fun x hx => by
 obtain ⟨h1, h2⟩ := h
 have hl := ld_cases b
 unfold rs0 at hx
 split at hx
 ·simp at hx
 ·split at hx
  ·rw [List.mem_singleton.1 hx]
   unfold vld
   simp only [Bool.and_eq_true, Bool.or_eq_true, decide_eq_true_eq]
   omega
  ·rw [List.mem_singleton.1 hx]; rfl
theorem rstep_vld {h : List Int} (hb : Bts h) {b : Int} (h1 : Byt b) : ∀ x ∈ (rstep h b).1, vld x = true := fun x hx => by
 unfold rstep at hx
 split at hx
 ·exact rs0_vld h1 x hx
 ·split at hx
  ·simp at hx
  ·split at hx
   ·rename_i g1 g2
    rw [List.mem_singleton.1 hx]
    refine vl_vld (hb.snoc h1) ?_ (by simp)
    have := bg_ge g2
    simp only [List.length_append, List.length_cons, List.length_nil] at this ⊢
    omega
   ·rcases List.mem_cons.1 hx with hx | hx
    ·rw [hx]; rfl
    ·exact rs0_vld h1 x hx
theorem ex4 {α β γ δ : Type} {X : Option α} {Q : α → β → γ → δ → Prop} (h : ∃ a, X = some a ∧ ∃ b c d, Q a b c d) : ∃ a b c d, X = some a ∧ Q a b c d := by
 obtain ⟨a, h1, b, c, d, h2⟩ := h
 exact ⟨a, b, c, d, h1, h2⟩
theorem fall_eq {G h : List Int} (F : Fd C s f k g W H P G h q ks op) {l : List Int} (hl : l.length ≤ 1000000) (hv : ∀ x ∈ l, vld x = true) : ∃ s' q' ks' op', f_feed_Feeder_all s (some f) l = some s' ∧ Fd C s' f k g W H P (G ++ l) h q' ks' op' := by
 unfold f_feed_Feeder_all
 refine ex4 (iter_forE (n := l.length) (fun i (st : Int × Sto) => st.1 = (i : Int) ∧ ∃ q' ks' op', Fd C st.2 f k g W H P (G ++ l.take i) h q' ks' op') (fun u : Sto => ∃ q' ks' op', Fd C u f k g W H P (G ++ l) h q' ks' op') (p := fun s' : Sto => ∃ q' ks' op', Fd C s' f k g W H P (G ++ l) h q' ks' op') (fun i st hi hI => ?_) (fun st hI => ?_) ⟨rfl, q, ks, op, by simpa using F⟩ (by omega) (fun u hu => ⟨u, rfl, hu⟩))
 ·obtain ⟨i', st⟩ := st
  obtain ⟨e, q1, ks1, op1, F1⟩ := hI
  simp only at e F1
  subst e
  simp only
  rw [if_pos (dlt hi), idx_at hi, w64_succ hi (by omega)]
  simp only [bsm]
  obtain ⟨s2, q2, ks2, op2, b1, b2⟩ := comes_eq F1 (hv _ (List.getElem_mem hi))
  rw [b1]
  refine .inl ⟨_, rfl, rfl, q2, ks2, op2, ?_⟩
  rw [List.take_succ_eq_append_getElem hi, ← List.append_assoc]
  exact b2
 ·obtain ⟨i', st⟩ := st
  obtain ⟨e, q1, ks1, op1, F1⟩ := hI
  simp only at e F1
  subst e
  refine ⟨st, by simp only; rw [if_neg (by simp)], q1, ks1, op1, ?_⟩
  rw [List.take_of_length_le (Nat.le_refl _)] at F1
  exact F1
theorem Fd.dec {G h h' : List Int} (F : Fd C s f k g W H P G h q ks op) {d d' : G_utfdec_Dec} (hd : s.feed_Feeder[f]? = some ⟨some k, d, sgB (sgOf G), op⟩) (hv : Dv d' h') : Fd C (s.sf f ⟨some k, d', sgB (sgOf G), op⟩) f k g W H P G h' q ks op := by
 have hf := get_lt hd
 refine ⟨F.v.sf _, F.fr.rgp (Rgp.self _) ⟨rfl, rfl, rfl⟩, F.fz.sf _ _ F.fz.oc, F.n, F.hd, F.l, F.gv, ⟨d', sf_get hf, hv⟩, F.o1, fun e => ?_⟩
 obtain ⟨j, e1, ⟨q0, c, C0, s0, ks0, cs0, cl, a1, a2, a3, a4, a5, a6, a7, a8⟩⟩ := F.o2 e
 exact ⟨j, e1, ⟨q0, c, C0, s0, ks0, cs0, cl, a1, a2, a3, a4, a5, a6, a7.sf _, a8⟩⟩
theorem fbytes_eq {G h : List Int} (F : Fd C s f k g W H P G h q ks op) (hb : Bts h) {b : List Int} (hl : b.length ≤ 9223372036854775807) (hbt : Bts b) : ∃ s' q' ks' op', f_feed_Feeder_Bytes s (some f) b = some s' ∧ Fd C s' f k g W H P (G ++ (rfeed h b).1) (rfeed h b).2 q' ks' op' := by
 unfold f_feed_Feeder_Bytes
 simp only [Option.isNone_some, Bool.false_eq_true, if_false, bsm]
 refine ex4 (iter_forE (n := b.length) (fun i (st : Int × Sto) => st.1 = (i : Int) ∧ ∃ q' ks' op', Fd C st.2 f k g W H P (G ++ (rfeed h (b.take i)).1) (rfeed h (b.take i)).2 q' ks' op') (fun u : Sto => ∃ q' ks' op', Fd C u f k g W H P (G ++ (rfeed h b).1) (rfeed h b).2 q' ks' op') (p := fun s' : Sto => ∃ q' ks' op', Fd C s' f k g W H P (G ++ (rfeed h b).1) (rfeed h b).2 q' ks' op') (fun i st hi hI => ?_) (fun st hI => ?_) ⟨rfl, q, ks, op, by simpa [rfeed] using F⟩ (by omega) (fun u hu => ⟨u, rfl, hu⟩))
 ·obtain ⟨i', st⟩ := st
  obtain ⟨e, q1, ks1, op1, F1⟩ := hI
  simp only at e F1
  subst e
  simp only
  rw [if_pos (dlt hi), idx_at hi, w64_succ hi (by omega)]
  obtain ⟨d, hd, hdv⟩ := F1.d
  simp only [bsm, hd]
  have hx := hbt _ (List.getElem_mem hi)
  obtain ⟨d', c1, c2⟩ := dec_step hdv hx
  rw [c1]
  simp only [bsm]
  rw [set_fd (get_lt hd)]
  simp only [bsm]
  have hbt' : Bts (b.take i) := fun x hx => hbt x (List.mem_of_mem_take hx)
  obtain ⟨s2, q2, ks2, op2, b1, b2⟩ := fall_eq (F1.dec hd c2) (l := (rstep (rfeed h (b.take i)).2 b[i]).1) (by have := rstep_len (rfeed h (b.take i)).2 b[i]; omega) (rstep_vld (rfeed_bts hb hbt') hx)
  rw [b1]
  refine .inl ⟨_, rfl, rfl, q2, ks2, op2, ?_⟩
  rw [List.take_succ_eq_append_getElem hi, rfeed_snoc]
  simp only
  rw [← List.append_assoc]
  exact b2
 ·obtain ⟨i', st⟩ := st
  obtain ⟨e, q1, ks1, op1, F1⟩ := hI
  simp only at e F1
  subst e
  refine ⟨st, by simp only; rw [if_neg (by simp)], q1, ks1, op1, ?_⟩
  rw [List.take_of_length_le (Nat.le_refl _)] at F1
  exact F1
theorem fclose_eq {G h : List Int} (F : Fd C s f k g W H P G h q ks op) : ∃ s', f_feed_Feeder_Close s (some f) = some s' ∧ Fd C s' f k g W H q [] h q ks none := by
 obtain ⟨d, hd, hdv⟩ := F.d
 have hf := get_lt hd
 unfold f_feed_Feeder_Close
 simp only [Option.isNone_some, Bool.not_false, if_true, bsm, hd]
 rw [set_fd hf]
 simp only [bsm, seg_reset]
 rw [set_fd (by rw [sf_len]; exact hf), sf_sf]
 refine ⟨_, rfl, ⟨F.v.sf _, F.fr.rgp (Rgp.self _) ⟨rfl, rfl, rfl⟩, F.fz.sf _ none (fun j e => by cases e), F.n, F.hd, rfl, fun x hx => by simp at hx, ⟨d, sf_get hf, hdv⟩, fun _ => rfl, fun e => by cases e⟩⟩
theorem fflush_eq {G h : List Int} (F : Fd C s f k g W H P G h q ks op) : ∃ s' q' ks', f_feed_Feeder_Flush s (some f) = some s' ∧ Fd C s' f k g W H q' [] [] q' ks' none ∧ fo layc P (cls pj pr (G ++ (if h = [] then [] else [65533]))) = some q' := by
 obtain ⟨d, hd, hdv⟩ := F.d
 have hf := get_lt hd
 unfold f_feed_Feeder_Flush
 simp only [Option.isNone_some, Bool.false_eq_true, if_false, bsm, hd]
 rw [dec_flush hdv]
 simp only [bsm]
 rw [set_fd hf]
 simp only [bsm]
 obtain ⟨s2, q2, ks2, op2, b1, b2⟩ := fall_eq (F.dec hd Dv.zero) (l := if h = [] then [] else [65533]) (by split <;> simp) (fun x hx => by
  split at hx
  ·simp at hx
  ·rw [List.mem_singleton.1 hx]; rfl)
 rw [b1]
 simp only [bsm]
 obtain ⟨s3, c1, c2⟩ := fclose_eq b2
 rw [c1]
 exact ⟨s3, q2, ks2, rfl, c2, b2.l⟩
theorem fheld_eq {G h : List Int} (F : Fd C s f k g W H P G h q ks op) : f_feed_Feeder_Held s (some f) = some (h.length : Int) := by
 obtain ⟨d, hd, hdv⟩ := F.d
 unfold f_feed_Feeder_Held
 simp only [Option.isNone_some, Bool.false_eq_true, if_false, bsm, hd]
 rw [dec_held hdv]
 rfl
def opn (G : List Int) : List Int := if lsil G = true then [] else (((cls pj pr G).getLast?).getD []).take 16
theorem fopen_eq {G h : List Int} (F : Fd C s f k g W H P G h q ks op) : f_feed_Feeder_Open s (some f) = some (opn G) := by
 obtain ⟨d, hd, hdv⟩ := F.d
 unfold f_feed_Feeder_Open opn
 simp only [Option.isNone_some, Bool.false_eq_true, if_false, bsm, hd]
 cases hL : lsil G with
 | true =>
  rw [F.o1 hL]
  rfl
 | false =>
  obtain ⟨j, rfl, ⟨q0, c, C0, s0, ks0, cs0, cl, a1, a2, a3, a4, a5, a6, a7, a8⟩⟩ := F.o2 hL
  obtain ⟨b, hb, hv⟩ := a7.x
  simp only [f_widen_Cluster_Text, Option.isNone_some, Bool.false_eq_true, if_false, bsm, hb, cl_text hv, a1]
  simp
theorem Fz.self (s : Sto) (f : Nat) (op : Option Nat) (h : ∀ x, s.feed_Feeder[f]? = some x → x.open_ = op) (hf : f < s.feed_Feeder.length) : Fz s s f op :=
 ⟨Nat.le_refl _, fun _ _ _ => rfl, Nat.le_refl _, fun _ _ _ => rfl, fun j e => .inl ⟨s.feed_Feeder[f], List.getElem?_eq_getElem hf, by rw [h _ (List.getElem?_eq_getElem hf)]; exact e⟩, rfl⟩
theorem Pv.addf (h : Pv s s k g W q ks) (x : G_feed_Feeder) : Pv (s.add_feed_Feeder x) (s.add_feed_Feeder x) k g W q ks :=
 ⟨h.p, ⟨h.g.g, h.g.r, h.g.h1, h.g.h2, h.g.w1, h.g.w2⟩, h.nd, h.l, rfl, h.f.rgp ⟨rfl, rfl, rfl⟩ ⟨rfl, rfl, rfl⟩⟩
theorem feed_new (h : Pv s s k g W q ks) (hh : Hd q.At W ks.length) : ∃ s', f_feed_New s (some k) = some (s', some s.feed_Feeder.length) ∧ Fd s' s' s.feed_Feeder.length k g W ks.length q [] [] q ks none ∧ s' = s.add_feed_Feeder ⟨some k, ⟨0, 0, 0, 0, 0⟩, ⟨false, 0, 0, 0, false⟩, none⟩ := by
 unfold f_feed_New
 simp only [Option.isNone_some, orE_false, bsm, h.p, Bool.false_eq_true, if_false]
 have hg : (s.add_feed_Feeder ⟨some k, ⟨0, 0, 0, 0, 0⟩, ⟨false, 0, 0, 0, false⟩, none⟩).feed_Feeder[s.feed_Feeder.length]? = some ⟨some k, ⟨0, 0, 0, 0, 0⟩, ⟨false, 0, 0, 0, false⟩, none⟩ := by simp [Sto.add_feed_Feeder]
 refine ⟨_, rfl, ⟨h.addf _, (h.addf _).f, Fz.self _ _ _ (fun x hx => ?_) (get_lt hg), rfl, hh, rfl, fun x hx => by simp at hx, ⟨_, hg, Dv.zero⟩, fun _ => rfl, fun e => by cases e⟩, rfl⟩
 rw [hg] at hx
 cases hx
 rfl
end Go.Proofs.YthokmpbbkpjhbaaGreatDoor
namespace Go.Proofs.YthokmpbbkpjhbaaGreatDoor
open Go Go.Lt
variable {s : Sto} {k : Nat} {l p : List G_api_Cell} {w : Bool}
theorem cl_id {c m : Nat} (h : c ≤ m) : cl (c : Int) m = c := by unfold cl; omega
theorem held_eq (n : Int) (m : Nat) : f_erase_held n 0 m = some ((cl n m : Nat) : Int) := by
 simp only [f_erase_held, imax_eq, imin_eq, cl, Option.some.injEq]
 omega
def rg (l : List G_api_Cell) (w : Bool) (a b : Nat) : G_row_Row := if a < b then ⟨pl l a (List.replicate (b - a) bl), pw l w a (b - a)⟩ else ⟨l, w⟩
theorem rg_snd {a b : Nat} (h : Snd l) (hb : b ≤ l.length) : Snd (rg l w a b).cells := by
 unfold rg
 split
 ·exact h.paint (snd_bl _) (by simp; omega)
 ·exact h
theorem rg_len (a b : Nat) : (rg l w a b).cells.length = l.length := by
 unfold rg
 split
 ·exact pl_len _ _ _
 ·rfl
theorem range_eq (h : s.row_Row[k]? = some ⟨l, w⟩) (hs : Snd l) (hl : l.length ≤ 1024) (a b : Int) :
  f_erase_Range s (some k) a b = some (s.sr k (rg l w (cl a l.length) (cl b l.length))) := by
 unfold f_erase_Range
 simp only [row_wide h, bsm, held_eq]
 have ha := cl_le a l.length
 have hb := cl_le b l.length
 generalize cl a l.length = a' at *
 generalize cl b l.length = b' at *
 unfold rg
 by_cases hab : a' < b'
 ·have e : w64 ((b' : Int) - (a' : Int)) = ((b' - a' : Nat) : Int) := by rw [w64_in (by omega)]; omega
  rw [if_pos (by simp; omega), if_pos hab, e, blanks, show (max 0 (min (((b' - a' : Nat)) : Int) 1024)).toNat = b' - a' by omega]
  simp only [bsm]
  rw [row_paint h hs hl (snd_bl _) (by simp; omega) (by simp; omega)]
  simp
 ·rw [if_neg (by simp; omega), if_neg hab, sr_id h]
theorem ref_range (l : List G_api_Cell) (w : Bool) (hl : l.length ≤ 1024) (a b : Int) : f_linotyperef26_Range l w a b = some ((rg l w (cl a l.length) (cl b l.length)).cells, (rg l w (cl a l.length) (cl b l.length)).wrap) := by
 unfold f_linotyperef26_Range
 have ha := cl_le a l.length
 have hb := cl_le b l.length
 have ea : imax 0 (imin a (l.length : Int)) = ((cl a l.length : Nat) : Int) := by simp only [imax_eq, imin_eq, cl]; omega
 have eb : imax 0 (imin b (l.length : Int)) = ((cl b l.length : Nat) : Int) := by simp only [imax_eq, imin_eq, cl]; omega
 rw [ea, eb]
 generalize cl a l.length = a' at *
 generalize cl b l.length = b' at *
 unfold rg
 by_cases hab : a' < b'
 ·have e : w64 ((b' : Int) - (a' : Int)) = ((b' - a' : Nat) : Int) := by rw [w64_in (by omega)]; omega
  rw [if_neg (by simp; omega), if_pos hab, e, rep_eq _ (by omega)]
  simp only [bsm]
  have := ref_paint l w a' (List.replicate (b' - a') bl) (by omega) (by omega) (by simp; omega)
  rw [List.length_replicate] at this
  rw [show (List.replicate (((b' - a' : Nat) : Int).toNat) (⟨0, ([] : List Int)⟩ : G_api_Cell)) = List.replicate (b' - a') bl by rfl, this]
  rfl
 ·rw [if_pos (by simp; omega), if_neg hab]
theorem cells_eq (h : s.row_Row[k]? = some ⟨l, w⟩) (hs : Snd l) (hl : l.length ≤ 1024) (col n : Int) :
  f_erase_Cells s (some k) col n = some (if 0 ≤ col ∧ 0 < n then s.sr k (rg l w (cl col l.length) (cl (((cl col l.length : Nat) : Int) + ((cl n l.length : Nat) : Int)) l.length)) else s) := by
 unfold f_erase_Cells
 simp only [andE_some, bsm]
 by_cases hc : 0 ≤ col ∧ 0 < n
 ·rw [if_pos (by simp; omega), if_pos hc]
  simp only [row_wide h, bsm, held_eq]
  have h1 := cl_le col l.length
  have h2 := cl_le n l.length
  rw [w64_in (by omega), range_eq h hs hl]
  simp only [bsm, cl_id h1]
 ·rw [if_neg (by simp; omega), if_neg hc]
end Go.Proofs.YthokmpbbkpjhbaaGreatDoor
