/-
  Bytes read one by one, in plain Lean: what a row of bytes begins, what is told behind each byte, what is held. Condition: bytes lie between 0 and 255.
-/
import Derived.Test.YtfhhpdggmefcoaaMy
namespace Go.Proofs.Ytfhhpdggmefcoaa

/-- Of how many bytes is a form that begins so; 0: of none. -/
def ld (b : Int) : Int := if b < 128 then 1 else if 194 ≤ b ∧ b ≤ 223 then 2 else if 224 ≤ b ∧ b ≤ 239 then 3 else if 240 ≤ b ∧ b ≤ 244 then 4 else 0
def slo (b : Int) : Int := if b = 224 then 160 else if b = 240 then 144 else 128
def shi (b : Int) : Int := if b = 237 then 159 else if b = 244 then 143 else 191
theorem ld_in (b : Int) : 0 ≤ ld b ∧ ld b ≤ 4 := by
  unfold ld
  repeat' split
  all_goals omega
def bg : List Int → Int
  | [a] => ld a
  | [a, b] => if 2 ≤ ld a ∧ slo a ≤ b ∧ b ≤ shi a then ld a else 0
  | [a, b, c] => if 3 ≤ ld a ∧ slo a ≤ b ∧ b ≤ shi a ∧ 128 ≤ c ∧ c ≤ 191 then ld a else 0
  | [a, b, c, d] => if ld a = 4 ∧ slo a ≤ b ∧ b ≤ shi a ∧ 128 ≤ c ∧ c ≤ 191 ∧ 128 ≤ d ∧ d ≤ 191 then 4 else 0
  | _ => 0
/-- The bits of a first byte that count. -/
def b0 (a : Int) : Int := if ld a = 2 then a - 192 else if ld a = 3 then a - 224 else if ld a = 4 then a - 240 else a
def vl : List Int → Int
  | [] => 0
  | a :: l => l.foldl (fun v x => v * 64 + (x - 128)) (b0 a)
/-- What is told behind a byte, with h held, and what is held then. -/
def rs0 (b : Int) : List Int × List Int := if 1 < ld b then ([], [b]) else if ld b = 1 then ([b], []) else ([65533], [])
def rstep (h : List Int) (b : Int) : List Int × List Int :=
  if h = [] then rs0 b else if (h.length : Int) + 1 < bg (h ++ [b]) then ([], h ++ [b]) else if 0 < bg (h ++ [b]) then ([vl (h ++ [b])], []) else (65533 :: (rs0 b).1, (rs0 b).2)
def rfeed : List Int → List Int → List Int × List Int
  | h, [] => ([], h)
  | h, b :: p => ((rstep h b).1 ++ (rfeed (rstep h b).2 p).1, (rfeed (rstep h b).2 p).2)
theorem rfeed_app (h a b : List Int) : rfeed h (a ++ b) = ((rfeed h a).1 ++ (rfeed (rfeed h a).2 b).1, (rfeed (rfeed h a).2 b).2) := by
  induction a generalizing h with
  | nil => simp [rfeed]
  | cons x a ih => simp [rfeed, ih]
theorem rfeed_snoc (h a : List Int) (x : Int) : rfeed h (a ++ [x]) = ((rfeed h a).1 ++ (rstep (rfeed h a).2 x).1, (rstep (rfeed h a).2 x).2) := by
  rw [rfeed_app]
  simp [rfeed]
/-- What may be held. -/
def Hh (h : List Int) : Prop := h = [] ∨ (h.length : Int) < bg h
theorem Hh.step {h : List Int} (hh : Hh h) (b : Int) : Hh (rstep h b).2 := by
  unfold rstep
  have h0 : Hh (rs0 b).2 := by
    unfold rs0
    split
    · rename_i q; exact .inr q
    · split <;> exact .inl rfl
  split
  · exact h0
  · split
    · rename_i q; exact .inr (by simp only [List.length_append, List.length_cons, List.length_nil]; omega)
    · split
      · exact .inl rfl
      · exact h0
theorem Hh.feed {h : List Int} (hh : Hh h) (p : List Int) : Hh (rfeed h p).2 := by
  induction p generalizing h with
  | nil => exact hh
  | cons b p ih => exact ih (hh.step b)
theorem Hh.len {h : List Int} (hh : Hh h) : h.length ≤ 3 := by
  rcases hh with rfl | hh
  · simp
  · match h, hh with
    | [], _ => simp
    | [_], _ => simp
    | [_, _], _ => simp
    | [_, _, _], _ => simp
    | [a, b, c, d], q => simp only [bg, List.length_cons, List.length_nil] at q; split at q <;> omega
    | _ :: _ :: _ :: _ :: _ :: _, q => simp only [bg, List.length_cons] at q; omega
theorem bg_long {l : List Int} (h : 5 ≤ l.length) : bg l = 0 := by
  match l, h with
  | [], h => simp at h
  | [_], h => simp at h
  | [_, _], h => simp at h
  | [_, _, _], h => simp at h
  | [_, _, _, _], h => simp at h
  | _ :: _ :: _ :: _ :: _ :: _, _ => rfl
/-- A form's beginnings are the beginnings of a form. -/
theorem bg_pre {h : List Int} {b : Int} (hne : h ≠ []) (hb : 0 < bg (h ++ [b])) : bg h = bg (h ++ [b]) := by
  match h, hne, hb with
  | [a], _, q => simp only [List.cons_append, List.nil_append, bg] at q ⊢; split at q <;> rename_i g; rw [if_pos g]; omega
  | [a, c], _, q =>
    simp only [List.cons_append, List.nil_append, bg] at q ⊢
    split at q
    · rename_i g; rw [if_pos g, if_pos ⟨by omega, g.2.1, g.2.2.1⟩]
    · omega
  | [a, c, d], _, q =>
    simp only [List.cons_append, List.nil_append, bg] at q ⊢
    split at q
    · rename_i g; rw [if_pos g, if_pos ⟨by omega, g.2.1, g.2.2.1, g.2.2.2.1, g.2.2.2.2.1⟩]; exact g.1
    · omega
  | a :: c :: d :: e :: t, _, q => rw [bg_long (by simp)] at q; omega
theorem bg_len {h : List Int} (hb : 0 < bg h) (hle : bg h ≤ h.length) : bg h = h.length := by
  match h, hb, hle with
  | [a], q, r => simp only [bg, List.length_cons, List.length_nil] at q r ⊢; omega
  | [a, c], q, r =>
    simp only [bg, List.length_cons, List.length_nil] at q r ⊢
    split at q
    · rename_i g; rw [if_pos g] at r ⊢; omega
    · omega
  | [a, c, d], q, r =>
    simp only [bg, List.length_cons, List.length_nil] at q r ⊢
    split at q
    · rename_i g; rw [if_pos g] at r ⊢; omega
    · omega
  | [a, c, d, e], q, r =>
    simp only [bg, List.length_cons, List.length_nil] at q r ⊢
    split at q
    · rename_i g; rw [if_pos g]; rfl
    · omega
  | [], q, _ => simp [bg] at q
  | _ :: _ :: _ :: _ :: _ :: _, q, _ => simp only [bg] at q; omega

/-! ### the first part of a row of bytes -/
/-- What is held when a row of bytes is all the beginning of one form. -/
theorem feed_held {c : List Int} (hc : c ≠ []) (h : ∀ k, 0 < k → k ≤ c.length → (k : Int) < bg (c.take k)) : rfeed [] c = ([], c) := by
  have key : ∀ n, n ≤ c.length → rfeed [] (c.take n) = ([], c.take n) := by
    intro n
    induction n with
    | zero => intro _; rfl
    | succ n ih =>
      intro hn
      have h1 := h (n + 1) (by omega) hn
      rw [List.take_succ_eq_append_getElem (by omega)] at h1 ⊢
      rw [rfeed_snoc, ih (by omega)]
      have h2 : rstep (c.take n) c[n] = ([], c.take n ++ [c[n]]) := by
        unfold rstep
        by_cases hz : c.take n = []
        · rw [if_pos hz, hz]
          rw [hz] at h1
          simp only [List.nil_append, bg] at h1
          have hn0 : n = 0 := by
            have := congrArg List.length hz
            rw [List.length_take, List.length_nil] at this
            omega
          subst hn0
          unfold rs0
          rw [if_pos (by simpa using h1)]
          rfl
        · have hl : (c.take n).length = n := by rw [List.length_take]; omega
          rw [if_neg hz, if_pos (by rw [hl]; omega)]
      rw [h2]
      rfl
  have := key c.length (Nat.le_refl _)
  rwa [List.take_of_length_le (Nat.le_refl _)] at this

/-- The first part of a row of bytes is k long (0: no form begins so). -/
structure GK (c : List Int) (k : Nat) : Prop where
  le : k ≤ c.length
  lt : ∀ m, 0 < m → m < k → (m : Int) < bg (c.take m)
  z : k = 0 → bg (c.take 1) = 0
  p : 0 < k → 0 < bg (c.take k)
  e : 0 < k → (k : Int) < bg (c.take k) → k = c.length ∨ bg (c.take (k + 1)) = 0
theorem rstep_nil (b : Int) : rstep [] b = rs0 b := by
  unfold rstep
  rw [if_pos rfl]
theorem rfeed_cons (b : Int) (p : List Int) : rfeed [] (b :: p) = ((rs0 b).1 ++ (rfeed (rs0 b).2 p).1, (rfeed (rs0 b).2 p).2) := by
  rw [rfeed, rstep_nil]
/-- A whole form. -/
theorem part_whole {c : List Int} {k : Nat} (h : GK c k) (hk : 0 < k) (hw : bg (c.take k) = k) : rfeed [] c = (vl (c.take k) :: (rfeed [] (c.drop k)).1, (rfeed [] (c.drop k)).2) := by
  have hle := h.le
  conv => lhs; rw [← List.take_append_drop k c]
  rw [rfeed_app]
  suffices e : rfeed [] (c.take k) = ([vl (c.take k)], []) by
    rw [e]
    rfl
  obtain ⟨m, rfl⟩ : ∃ m, k = m + 1 := ⟨k - 1, by omega⟩
  have ht : c.take (m + 1) = c.take m ++ [c[m]] := List.take_succ_eq_append_getElem (by omega)
  rw [ht] at hw ⊢
  rw [rfeed_snoc]
  have hl : (c.take m).length = m := by rw [List.length_take]; omega
  by_cases hm : m = 0
  · subst hm
    simp only [List.take_zero, List.nil_append] at hw ⊢
    simp only [rfeed, rstep_nil]
    unfold rs0
    simp only [bg] at hw
    rw [if_neg (by omega), if_pos (by omega)]
    simp only [vl, List.foldl, b0]
    rw [if_neg (by omega), if_neg (by omega), if_neg (by omega)]
    rfl
  · have hne : c.take m ≠ [] := fun e => by rw [e] at hl; simp at hl; omega
    rw [feed_held hne (fun n h0 hn => by
      rw [List.take_take, show min n m = n by rw [hl] at hn; omega]
      exact h.lt n h0 (by omega))]
    simp only
    have h2 : rstep (c.take m) c[m] = ([vl (c.take m ++ [c[m]])], []) := by
      unfold rstep
      rw [if_neg hne, if_neg (by rw [hl, hw]; simp), if_pos (by rw [hw]; omega)]
    rw [h2]
    rfl
/-- No form begins so. -/
theorem part_none {c : List Int} (hc : c ≠ []) (h : bg (c.take 1) = 0) : rfeed [] c = (65533 :: (rfeed [] (c.drop 1)).1, (rfeed [] (c.drop 1)).2) := by
  cases c with
  | nil => exact absurd rfl hc
  | cons a c =>
    simp only [List.take_succ_cons, List.take_zero, bg] at h
    rw [rfeed_cons]
    unfold rs0
    rw [if_neg (by omega), if_neg (by omega)]
    rfl
/-- A beginning that ends the row is held. -/
theorem part_end {c : List Int} (h : GK c c.length) (hk : 0 < c.length) (hw : (c.length : Int) < bg c) : rfeed [] c = ([], c) := by
  refine feed_held (fun e => by rw [e] at hk; simp at hk) fun k h0 hn => ?_
  by_cases hkk : k = c.length
  · subst hkk
    rw [List.take_of_length_le (Nat.le_refl _)]
    exact hw
  · exact h.lt k h0 (by omega)
/-- A beginning behind which its form does not go on. -/
theorem part_torn {c : List Int} {k : Nat} (h : GK c k) (hk : 0 < k) (hw : (k : Int) < bg (c.take k)) (hlt : k < c.length) : rfeed [] c = (65533 :: (rfeed [] (c.drop k)).1, (rfeed [] (c.drop k)).2) := by
  have hl : (c.take k).length = k := by rw [List.length_take]; omega
  have hne : c.take k ≠ [] := fun e => by rw [e] at hl; simp at hl; omega
  have hz : bg (c.take (k + 1)) = 0 := by
    rcases h.e hk hw with q | q
    · omega
    · exact q
  conv => lhs; rw [← List.take_append_drop k c]
  rw [rfeed_app, feed_held hne (fun n h0 hn => by
    rw [List.take_take, show min n k = n by rw [hl] at hn; omega]
    by_cases hkk : n = k
    · subst hkk; exact hw
    · exact h.lt n h0 (by rw [hl] at hn; omega))]
  rw [List.drop_eq_getElem_cons hlt]
  simp only [List.nil_append]
  rw [List.take_succ_eq_append_getElem hlt] at hz
  have h2 : rstep (c.take k) c[k] = (65533 :: (rs0 c[k]).1, (rs0 c[k]).2) := by
    unfold rstep
    rw [if_neg hne, if_neg (by rw [hz]; omega), if_neg (by rw [hz]; omega)]
  rw [rfeed_cons, rfeed, h2]
  rfl
end Go.Proofs.Ytfhhpdggmefcoaa
