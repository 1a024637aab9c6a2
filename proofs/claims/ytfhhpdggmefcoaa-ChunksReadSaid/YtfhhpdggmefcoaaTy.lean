/-
  The document's decoder, in plain Lean: beginnings of forms, and what is told behind bytes. Condition: bytes lie between 0 and 255.
-/
import Derived.Test.YtfhhpdggmefcoaaTx
namespace Go.Proofs.Ytfhhpdggmefcoaa
open Go Go.Lt

theorem iter_s {σ τ : Type} (n : Nat) (f : σ → Option (σ ⊕ τ)) (s : σ) : iter (n + 1) f s = (f s).bind fun x => match x with | .inl s' => iter n f s' | .inr t => some t := rfl
/-- The bytes behind the first one, and what they can mean. -/
def lp : List Int → Nat → Int → Int → Bool ⊕ (Int × Int)
  | _, 0, lo, hi => .inr (lo, hi)
  | x :: xs, k + 1, lo, hi => if 128 ≤ x ∧ x ≤ 191 then lp xs k (lo * 64 + (x - 128)) (hi * 64 + (x - 128)) else .inl false
  | [], k + 1, lo, hi => lp [] k (lo * 64) (hi * 64 + 63)
def bd (k : Nat) : Int := if k = 3 then 127 else if k = 2 then 8191 else if k = 1 then 524287 else 33554431
def mk (n : Nat) : Int := if n = 2 then 192 else if n = 3 then 224 else if n = 4 then 240 else 0
def sz (n : Nat) : Int := if n = 1 then 128 else if n = 2 then 32 else if n = 3 then 16 else if n = 4 then 8 else 0
def fr (n : Nat) : Int := if n = 2 then 128 else if n = 3 then 2048 else if n = 4 then 65536 else 0
def to (n : Nat) : Int := if n = 1 then 127 else if n = 2 then 2047 else if n = 3 then 65535 else if n = 4 then 1114111 else 0
theorem mk_at {n : Nat} (h1 : 1 ≤ n) (h2 : n ≤ 4) : idx ([0, 0, 192, 224, 240] : List Int) n = some (mk n) ∧ idx ([0, 128, 32, 16, 8] : List Int) n = some (sz n) ∧ idx ([0, 0, 128, 2048, 65536] : List Int) n = some (fr n) ∧ idx ([0, 127, 2047, 65535, 1114111] : List Int) n = some (to n) := by
  have : n = 1 ∨ n = 2 ∨ n = 3 ∨ n = 4 := by omega
  rcases this with rfl | rfl | rfl | rfl <;> exact ⟨rfl, rfl, rfl, rfl⟩
def sst (p : List Int) (n : Nat) : Int × Int × Int → Option ((Int × Int × Int) ⊕ (Bool ⊕ (Int × Int))) := fun s_40 =>
  if (decide (s_40.2.2 < (n : Int))) = true then
  if (decide (s_40.2.2 < (p.length : Int))) = true then
  (idx p s_40.2.2).bind fun x_62 =>
  (orE (decide ((w64 ((w64 x_62) - 128)) < 0)) (some (decide ((w64 ((w64 x_62) - 128)) > 63)))).bind fun d_70 =>
  if d_70 = true then
  some (.inr (.inl false))
  else
  some (.inl ((w64 ((w64 (s_40.1 * 64)) + (w64 ((w64 x_62) - 128)))), (w64 ((w64 ((w64 ((w64 (s_40.2.1 * 64)) + 63)) - 63)) + (w64 ((w64 x_62) - 128)))), (w64 (s_40.2.2 + 1))))
  else
  some (.inl ((w64 (s_40.1 * 64)), (w64 ((w64 (s_40.2.1 * 64)) + 63)), (w64 (s_40.2.2 + 1))))
  else
  some (.inr (.inr (s_40.1, s_40.2.1)))
theorem some_loop (p : List Int) (hp : Bts p) (n : Nat) (hn : n ≤ 4) : ∀ (k : Nat) (i : Nat) (lo hi : Int), k ≤ 3 → 1 ≤ i → i + k = n → 0 ≤ lo → lo ≤ bd k → 0 ≤ hi → hi ≤ bd k → iter (σ := Int × Int × Int) (τ := Bool ⊕ (Int × Int)) (k + 1) (sst p n) (lo, hi, (i : Int)) = some (lp (p.drop i) k lo hi) := by
  intro k
  induction k with
  | zero =>
    intro i lo hi _ _ hik _ _ _ _
    rw [iter_s]
    have e : sst p n (lo, hi, (i : Int)) = some (.inr (.inr (lo, hi))) := by
      unfold sst
      simp only
      rw [if_neg (by simp; omega)]
    rw [e]
    cases p.drop i <;> rfl
  | succ k ih =>
    intro i lo hi hk h1 hik a1 a2 a3 a4
    have hb : (bd (k + 1) + 1) * 64 ≤ bd k + 1 := by
      have : k = 0 ∨ k = 1 ∨ k = 2 := by omega
      rcases this with rfl | rfl | rfl <;> decide
    have hb2 : bd k ≤ 33554431 := by unfold bd; repeat' split; all_goals omega
    rw [iter_s]
    by_cases hi' : i < p.length
    · rw [List.drop_eq_getElem_cons hi']
      have hx := hp _ (List.getElem_mem hi')
      obtain ⟨x1, x2⟩ := hx
      unfold lp
      have e : sst p n (lo, hi, (i : Int)) = if 128 ≤ p[i] ∧ p[i] ≤ 191 then some (.inl (lo * 64 + (p[i] - 128), hi * 64 + (p[i] - 128), ((i + 1 : Nat) : Int))) else some (.inr (.inl false)) := by
        unfold sst
        simp only
        rw [if_pos (by simp; omega), w64_succ (show i < n by omega) (by omega), if_pos (dlt hi'), idx_at hi']
        simp only [bsm, orE_some, Bool.or_eq_true, decide_eq_true_eq]
        rw [w64_in (n := p[i]) (by omega), w64_in (n := p[i] - 128) (by omega)]
        by_cases hr : 128 ≤ p[i] ∧ p[i] ≤ 191
        · rw [if_neg (by omega), if_pos hr]
          rw [w64_in (n := lo * 64) (by omega), w64_in (n := hi * 64) (by omega), w64_in (n := hi * 64 + 63) (by omega), w64_in (n := hi * 64 + 63 - 63) (by omega), w64_in (n := lo * 64 + (p[i] - 128)) (by omega), w64_in (n := hi * 64 + 63 - 63 + (p[i] - 128)) (by omega), show hi * 64 + 63 - 63 + (p[i] - 128) = hi * 64 + (p[i] - 128) by omega]
        · rw [if_pos (by omega), if_neg hr]
      rw [e]
      by_cases hr : 128 ≤ p[i] ∧ p[i] ≤ 191
      · rw [if_pos hr, if_pos hr]
        exact ih (i + 1) (lo * 64 + (p[i] - 128)) (hi * 64 + (p[i] - 128)) (by omega) (by omega) (by omega) (by omega) (by omega) (by omega) (by omega)
      · rw [if_neg hr, if_neg hr]
        rfl
    · rw [List.drop_of_length_le (by omega)]
      unfold lp
      have e : sst p n (lo, hi, (i : Int)) = some (.inl (lo * 64, hi * 64 + 63, ((i + 1 : Nat) : Int))) := by
        unfold sst
        simp only
        rw [if_pos (by simp; omega), w64_succ (show i < n by omega) (by omega), if_neg (by simp; omega)]
        rw [w64_in (n := lo * 64) (by omega), w64_in (n := hi * 64) (by omega), w64_in (n := hi * 64 + 63) (by omega)]
      rw [e]
      have := ih (i + 1) (lo * 64) (hi * 64 + 63) (by omega) (by omega) (by omega) (by omega) (by omega) (by omega) (by omega)
      rw [List.drop_of_length_le (by omega)] at this
      exact this
def sfin (n : Nat) (z : Bool ⊕ (Int × Int)) : Bool := match z with | .inl b => b | .inr (lo, hi) => decide (max lo (fr n) ≤ min hi (to n)) && (decide (max lo (fr n) < 55296) || decide (min hi (to n) > 57343))
def smf (a : Int) (t : List Int) (n : Nat) : Bool := if a - mk n < 0 ∨ sz n ≤ a - mk n then false else sfin n (lp t (n - 1) (a - mk n) (a - mk n))
theorem some_eq {a : Int} {t : List Int} (hp : Bts (a :: t)) {n : Nat} (h1 : 1 ≤ n) (h2 : n ≤ 4) : f_linotyperef03_some (a :: t) n = some (smf a t n) := by
  obtain ⟨a1, a2⟩ := hp a (by simp)
  obtain ⟨m1, m2, m3, m4⟩ := mk_at h1 h2
  have hm : 0 ≤ mk n ∧ mk n ≤ 240 := by unfold mk; repeat' split; all_goals omega
  have hsz : sz n ≤ bd (n - 1) + 1 := by
    have : n = 1 ∨ n = 2 ∨ n = 3 ∨ n = 4 := by omega
    rcases this with rfl | rfl | rfl | rfl <;> decide
  unfold f_linotyperef03_some smf
  rw [m1, m2, m3, m4, show idx (a :: t) 0 = some a from rfl]
  simp only [bsm]
  rw [w64_in (n := a) (by omega), w64_in (n := a - mk n) (by omega), orE_some]
  simp only [bsm]
  by_cases hA : a - mk n < 0 ∨ sz n ≤ a - mk n
  · rw [if_pos (by simp only [Bool.or_eq_true, decide_eq_true_eq]; omega), if_pos hA]
  · rw [if_neg (by simp only [Bool.or_eq_true, decide_eq_true_eq]; omega), if_neg hA, show ((n : Int) - 1).toNat + 1 = (n - 1) + 1 by omega]
    have := some_loop (a :: t) hp n h2 (n - 1) 1 (a - mk n) (a - mk n) (by omega) (by omega) (by omega) (by omega) (by omega) (by omega) (by omega)
    unfold sst at this
    simp only [Int.natCast_one, List.drop_succ_cons, List.drop_zero] at this
    rw [this]
    simp only [bsm]
    cases lp t (n - 1) (a - mk n) (a - mk n) with
    | inl b => rfl
    | inr z => simp only [imax_eq, imin_eq, andE_some, orE_some, bsm, sfin]
theorem ld_cases (a : Int) : (ld a = 1 ∧ a < 128) ∨ (ld a = 2 ∧ 194 ≤ a ∧ a ≤ 223) ∨ (ld a = 3 ∧ 224 ≤ a ∧ a ≤ 239) ∨ (ld a = 4 ∧ 240 ≤ a ∧ a ≤ 244) ∨ (ld a = 0 ∧ 128 ≤ a ∧ ¬ (194 ≤ a ∧ a ≤ 244)) := by
  unfold ld
  repeat' split
  all_goals omega
/-- A row of bytes begins a form of n bytes. -/
theorem smf_bg {a : Int} {t : List Int} (hp : Bts (a :: t)) {n : Nat} (h1 : 1 ≤ n) (h2 : n ≤ 4) (h3 : t.length + 1 ≤ n) : smf a t n = true ↔ bg (a :: t) = (n : Int) := by
  have hl := ld_cases a
  obtain ⟨a1, a2⟩ := hp a (by simp)
  have : n = 1 ∨ n = 2 ∨ n = 3 ∨ n = 4 := by omega
  match t, hp, h3 with
  | [], _, _ =>
    rcases this with rfl | rfl | rfl | rfl <;>
      simp only [smf, lp, sfin, bg, mk, sz, fr, to, Nat.reduceEqDiff, if_true, if_false, Nat.reduceSub, Bool.and_eq_true, Bool.or_eq_true, decide_eq_true_eq] <;> split <;>
      simp only [Bool.and_eq_true, Bool.or_eq_true, decide_eq_true_eq, Bool.false_eq_true, false_iff] <;> omega
  | [b], hp, h3 =>
    obtain ⟨b1, b2⟩ := hp b (by simp)
    simp only [List.length_cons, List.length_nil] at h3
    have hs : slo a = (if a = 224 then 160 else if a = 240 then 144 else 128) ∧ shi a = (if a = 237 then 159 else if a = 244 then 143 else 191) := ⟨rfl, rfl⟩
    have hs1 : (a = 224 ∧ slo a = 160) ∨ (a = 240 ∧ slo a = 144) ∨ (a ≠ 224 ∧ a ≠ 240 ∧ slo a = 128) := by rw [hs.1]; repeat' split; all_goals omega
    have hs2 : (a = 237 ∧ shi a = 159) ∨ (a = 244 ∧ shi a = 143) ∨ (a ≠ 237 ∧ a ≠ 244 ∧ shi a = 191) := by rw [hs.2]; repeat' split; all_goals omega
    clear hs
    have hbg : bg [a, b] = if 2 ≤ ld a ∧ slo a ≤ b ∧ b ≤ shi a then ld a else 0 := rfl
    rw [hbg]
    rcases this with rfl | rfl | rfl | rfl
    · omega
    all_goals
      simp only [smf, lp, sfin, mk, sz, fr, to, Nat.reduceEqDiff, if_true, if_false, Nat.reduceSub]
      split
      · split <;> simp only [Bool.false_eq_true, false_iff] <;> omega
      · by_cases hb : 128 ≤ b ∧ b ≤ 191
        · simp only [if_pos hb, Bool.and_eq_true, Bool.or_eq_true, decide_eq_true_eq]
          split <;> omega
        · simp only [if_neg hb]
          split <;> simp only [Bool.false_eq_true, false_iff] <;> omega
  | [b, c], hp, h3 =>
    obtain ⟨b1, b2⟩ := hp b (by simp)
    obtain ⟨c1, c2⟩ := hp c (by simp)
    simp only [List.length_cons, List.length_nil] at h3
    have hs : slo a = (if a = 224 then 160 else if a = 240 then 144 else 128) ∧ shi a = (if a = 237 then 159 else if a = 244 then 143 else 191) := ⟨rfl, rfl⟩
    have hs1 : (a = 224 ∧ slo a = 160) ∨ (a = 240 ∧ slo a = 144) ∨ (a ≠ 224 ∧ a ≠ 240 ∧ slo a = 128) := by rw [hs.1]; repeat' split; all_goals omega
    have hs2 : (a = 237 ∧ shi a = 159) ∨ (a = 244 ∧ shi a = 143) ∨ (a ≠ 237 ∧ a ≠ 244 ∧ shi a = 191) := by rw [hs.2]; repeat' split; all_goals omega
    clear hs
    have hbg : bg [a, b, c] = if 3 ≤ ld a ∧ slo a ≤ b ∧ b ≤ shi a ∧ 128 ≤ c ∧ c ≤ 191 then ld a else 0 := rfl
    rw [hbg]
    rcases this with rfl | rfl | rfl | rfl
    · omega
    · omega
    all_goals
      simp only [smf, lp, sfin, mk, sz, fr, to, Nat.reduceEqDiff, if_true, if_false, Nat.reduceSub]
      split
      · split <;> simp only [Bool.false_eq_true, false_iff] <;> omega
      · by_cases hb : 128 ≤ b ∧ b ≤ 191
        · by_cases hc : 128 ≤ c ∧ c ≤ 191
          · simp only [if_pos hb, if_pos hc, Bool.and_eq_true, Bool.or_eq_true, decide_eq_true_eq]
            split <;> omega
          · simp only [if_pos hb, if_neg hc]
            split <;> simp only [Bool.false_eq_true, false_iff] <;> omega
        · simp only [if_neg hb]
          split <;> simp only [Bool.false_eq_true, false_iff] <;> omega
  | [b, c, d], hp, h3 =>
    obtain ⟨b1, b2⟩ := hp b (by simp)
    obtain ⟨c1, c2⟩ := hp c (by simp)
    obtain ⟨d1, d2⟩ := hp d (by simp)
    simp only [List.length_cons, List.length_nil] at h3
    have hs : slo a = (if a = 224 then 160 else if a = 240 then 144 else 128) ∧ shi a = (if a = 237 then 159 else if a = 244 then 143 else 191) := ⟨rfl, rfl⟩
    have hs1 : (a = 224 ∧ slo a = 160) ∨ (a = 240 ∧ slo a = 144) ∨ (a ≠ 224 ∧ a ≠ 240 ∧ slo a = 128) := by rw [hs.1]; repeat' split; all_goals omega
    have hs2 : (a = 237 ∧ shi a = 159) ∨ (a = 244 ∧ shi a = 143) ∨ (a ≠ 237 ∧ a ≠ 244 ∧ shi a = 191) := by rw [hs.2]; repeat' split; all_goals omega
    clear hs
    have hbg : bg [a, b, c, d] = if ld a = 4 ∧ slo a ≤ b ∧ b ≤ shi a ∧ 128 ≤ c ∧ c ≤ 191 ∧ 128 ≤ d ∧ d ≤ 191 then 4 else 0 := rfl
    rw [hbg]
    rcases this with rfl | rfl | rfl | rfl
    · omega
    · omega
    · omega
    · simp only [smf, lp, sfin, mk, sz, fr, to, Nat.reduceEqDiff, if_true, if_false, Nat.reduceSub]
      split
      · split <;> simp only [Bool.false_eq_true, false_iff] <;> omega
      · by_cases hb : 128 ≤ b ∧ b ≤ 191
        · by_cases hc : 128 ≤ c ∧ c ≤ 191
          · by_cases hd : 128 ≤ d ∧ d ≤ 191
            · simp only [if_pos hb, if_pos hc, if_pos hd, Bool.and_eq_true, Bool.or_eq_true, decide_eq_true_eq]
              split <;> omega
            · simp only [if_pos hb, if_pos hc, if_neg hd]
              split <;> simp only [Bool.false_eq_true, false_iff] <;> omega
          · simp only [if_pos hb, if_neg hc]
            split <;> simp only [Bool.false_eq_true, false_iff] <;> omega
        · simp only [if_neg hb]
          split <;> simp only [Bool.false_eq_true, false_iff] <;> omega
  | _ :: _ :: _ :: _ :: _, _, h3 => simp at h3; omega
end Go.Proofs.Ytfhhpdggmefcoaa
