/-
  Decoders, in plain Lean: the program's, and the document's beginnings of forms. Condition: bytes lie between 0 and 255.
-/
import Derived.Test.YtfhhpdggmefcoaaTu
import Derived.Test.YtfhhpdggmefcoaaPa
import Derived.Test.YtfhhpdggmefcoaaR1
import Derived.Test.YtfhhpdggmefcoaaF1
import Derived.KernelRfl
namespace Go.Proofs.Ytfhhpdggmefcoaa
open Go Go.Lt

def Byt (b : Int) : Prop := 0 ≤ b ∧ b ≤ 255
def Bts (l : List Int) : Prop := ∀ x ∈ l, Byt x

/-! ### the program's -/
theorem oct_lead {b : Int} (h : Byt b) : f_octet_Lead b = some (ld b) := by
  obtain ⟨h1, h2⟩ := h
  unfold f_octet_Lead ld
  simp only [andE_some, bsm, Bool.and_eq_true, decide_eq_true_eq, ge_iff_le]
  have e1 : w64 (0 + 1) = 1 := rfl
  have e2 : w64 (1 + 1) = 2 := rfl
  have e3 : w64 (2 + 1) = 3 := rfl
  have e4 : w64 (3 + 1) = 4 := rfl
  rw [e1, e2, e3, e4]
  repeat' split
  all_goals first | rfl | omega
theorem oct_second {b : Int} (h : Byt b) (hl : 2 ≤ ld b) : f_octet_Second b = some (slo b, shi b) := by
  unfold f_octet_Second slo shi
  rw [oct_lead h]
  simp only [bsm, beq_iff_eq, decide_eq_true_eq]
  rw [if_neg (by omega)]
  have e1 : IntKind.u8.wrap (IntKind.u8.wrap (191 - 16) - 32) = 143 := by decide
  have e2 : IntKind.u8.wrap (191 - 32) = 159 := by decide
  rw [e1, e2]
  by_cases a1 : b = 224
  · subst a1; rfl
  by_cases a2 : b = 240
  · subst a2; rfl
  by_cases a3 : b = 244
  · subst a3; rfl
  by_cases a4 : b = 237
  · subst a4; rfl
  rw [if_neg a1, if_neg a2, if_neg a3, if_neg a4, if_neg a1, if_neg a2, if_neg a4, if_neg a3]
  rfl
def bitsOk (n : Nat) : Bool := (f_octet_Bits n == if ld n = 0 then some 0 else some (b0 n))
theorem bits_all : (List.range 256).all bitsOk = true := by kernel_rfl
theorem oct_bits {b : Int} (h : Byt b) (hl : 1 ≤ ld b) : f_octet_Bits b = some (b0 b) := by
  obtain ⟨h1, h2⟩ := h
  have := List.all_eq_true.1 bits_all b.toNat (List.mem_range.2 (by omega))
  unfold bitsOk at this
  rw [beq_iff_eq, Int.toNat_of_nonneg h1, if_neg (by omega)] at this
  exact this
def tailOk (n : Nat) : Bool := (ibAnd .u8 n 63 == if 128 ≤ n ∧ n ≤ 191 then (n : Int) - 128 else ibAnd .u8 n 63)
theorem tail_all : (List.range 256).all tailOk = true := by kernel_rfl
theorem tail_and {b : Int} (h1 : 128 ≤ b) (h2 : b ≤ 191) : ibAnd .u8 b 63 = b - 128 := by
  have := List.all_eq_true.1 tail_all b.toNat (List.mem_range.2 (by omega))
  unfold tailOk at this
  rw [beq_iff_eq, Int.toNat_of_nonneg (by omega), if_pos (by omega)] at this
  exact this
theorem or_add {x y : Nat} (hx : x < 1000000000) (hy : y < 64) : ibOr .i64 ((x : Int) * 64) (y : Int) = ((x * 64 + y : Nat) : Int) := by
  have e1 : BitVec.ofInt 64 ((x : Int) * 64) = BitVec.ofNat 64 (x * 64) := by
    rw [show ((x : Int) * 64) = ((x * 64 : Nat) : Int) by simp, BitVec.ofInt_natCast]
  have e2 : BitVec.ofInt 64 (y : Int) = BitVec.ofNat 64 y := BitVec.ofInt_natCast _ _
  have e3 : (x * 64) ||| y = x * 64 + y := by
    have := Nat.shiftLeft_add_eq_or_of_lt (show y < 2 ^ 6 by omega) x
    rw [Nat.shiftLeft_eq] at this
    exact this.symm
  unfold ibOr
  rw [show IntKind.i64.bits = 64 from rfl, e1, e2, BitVec.toNat_or, BitVec.toNat_ofNat, BitVec.toNat_ofNat, Nat.mod_eq_of_lt (by omega), Nat.mod_eq_of_lt (by omega), e3]
  exact w64_in (by omega)

/-- The decoder holds these bytes. -/
def Dv (d : G_utfdec_Dec) (h : List Int) : Prop :=
  Hh h ∧ Bts h ∧ d = (match h with | [] => ⟨0, 0, 0, 0, 0⟩ | [a] => ⟨1, ld a - 1, slo a, shi a, b0 a⟩ | a :: b :: t => ⟨(h.length : Int), bg h - (h.length : Int), 128, 191, vl h⟩)
theorem ld_byt {b : Int} (h : Byt b) : 0 ≤ ld b ∧ ld b ≤ 4 := ld_in b
theorem dec_begin {b : Int} (h : Byt b) : ∃ d', f_utfdec_Dec_begin__utfdec_Dec_0 ⟨0, 0, 0, 0, 0⟩ b = some (d', (rs0 b).1) ∧ Dv d' (rs0 b).2 := by
  have hb := h
  obtain ⟨h1, h2⟩ := hb
  unfold f_utfdec_Dec_begin__utfdec_Dec_0 rs0
  rw [oct_lead h]
  simp only [bsm, beq_iff_eq]
  have hin := ld_in b
  by_cases e0 : ld b = 0
  · rw [if_pos e0, if_neg (by omega), if_neg (by omega)]
    exact ⟨_, rfl, .inl rfl, fun x hx => by simp at hx, rfl⟩
  · rw [if_neg e0]
    by_cases e1 : ld b = 1
    · rw [if_pos e1, if_neg (by omega), if_pos e1, w32_in (by omega)]
      exact ⟨_, rfl, .inl rfl, fun x hx => by simp at hx, rfl⟩
    · rw [if_neg e1, if_pos (by omega), oct_bits h (by omega), oct_second h (by omega)]
      simp only [bsm]
      rw [w64_in (by omega)]
      refine ⟨_, rfl, .inr ?_, fun x hx => ?_, rfl⟩
      · simp only [List.length_cons, List.length_nil, bg]; omega
      · rw [List.mem_singleton.1 hx]; exact h
theorem vl_snoc {h : List Int} (hne : h ≠ []) (b : Int) : vl (h ++ [b]) = vl h * 64 + (b - 128) := by
  cases h with
  | nil => exact absurd rfl hne
  | cons a t => simp [vl, List.foldl_append]
theorem b0_in {a : Int} (h : Byt a) (hl : 2 ≤ ld a) : 0 ≤ b0 a ∧ b0 a ≤ 31 := by
  obtain ⟨h1, h2⟩ := h
  unfold b0
  unfold ld at hl
  unfold ld
  repeat' split at hl
  all_goals (repeat' split)
  all_goals omega
theorem vl_in {h : List Int} (hh : Hh h) (hb : Bts h) (hne : h ≠ []) : 0 ≤ vl h ∧ vl h ≤ 131071 := by
  rcases hh with rfl | hh
  · exact absurd rfl hne
  · match h, hh with
    | [], _ => exact absurd rfl hne
    | [a], q =>
      have ha := hb a (by simp)
      simp only [bg, List.length_cons, List.length_nil] at q
      have := b0_in ha (by omega)
      simp only [vl, List.foldl]
      omega
    | [a, b], q =>
      have ha := hb a (by simp)
      simp only [bg, List.length_cons, List.length_nil] at q
      split at q
      · rename_i g
        have := b0_in ha (by omega)
        have hs : 128 ≤ b ∧ b ≤ 191 := by
          have := g.2
          unfold slo shi at this
          repeat' split at this
          all_goals omega
        simp only [vl, List.foldl]
        omega
      · omega
    | [a, b, c], q =>
      have ha := hb a (by simp)
      simp only [bg, List.length_cons, List.length_nil] at q
      split at q
      · rename_i g
        have := b0_in ha (by omega)
        have hs : 128 ≤ b ∧ b ≤ 191 := by
          have := g.2
          unfold slo shi at this
          repeat' split at this
          all_goals omega
        simp only [vl, List.foldl]
        omega
      · omega
    | [a, b, c, d], q => simp only [bg, List.length_cons, List.length_nil] at q; split at q <;> omega
    | _ :: _ :: _ :: _ :: _ :: _, q => simp only [bg, List.length_cons] at q; omega
/-- One more byte within a form. -/
theorem more_iff {h : List Int} (hh : (h.length : Int) < bg h) (hne : h ≠ []) (b : Int) : ∃ lo hi, (match h with | [a] => (slo a, shi a) | _ => (128, 191)) = (lo, hi) ∧ 128 ≤ lo ∧ hi ≤ 191 ∧
    ((lo ≤ b ∧ b ≤ hi) → bg (h ++ [b]) = bg h) ∧ (¬ (lo ≤ b ∧ b ≤ hi) → bg (h ++ [b]) = 0) := by
  match h, hh with
  | [], _ => exact absurd rfl hne
  | [a], q =>
    simp only [bg, List.length_cons, List.length_nil] at q
    refine ⟨slo a, shi a, rfl, by unfold slo; repeat' split; all_goals omega, by unfold shi; repeat' split; all_goals omega, fun g => ?_, fun g => ?_⟩
    · simp only [List.cons_append, List.nil_append, bg]
      rw [if_pos ⟨by omega, g.1, g.2⟩]
    · simp only [List.cons_append, List.nil_append, bg]
      rw [if_neg (fun c => g c.2)]
  | [a, c], q =>
    simp only [bg, List.length_cons, List.length_nil] at q
    refine ⟨128, 191, rfl, by omega, by omega, fun g => ?_, fun g => ?_⟩
    · simp only [List.cons_append, List.nil_append, bg]
      split at q
      · rename_i r
        rw [if_pos ⟨by omega, r.2.1, r.2.2, g.1, g.2⟩, if_pos r]
      · omega
    · simp only [List.cons_append, List.nil_append, bg]
      rw [if_neg (fun r => g r.2.2.2)]
  | [a, c, d], q =>
    have hl := ld_in a
    simp only [bg, List.length_cons, List.length_nil] at q
    refine ⟨128, 191, rfl, by omega, by omega, fun g => ?_, fun g => ?_⟩
    · simp only [List.cons_append, List.nil_append, bg]
      split at q
      · rename_i r
        rw [if_pos ⟨by omega, r.2.1, r.2.2.1, r.2.2.2.1, r.2.2.2.2, g.1, g.2⟩, if_pos r]
        omega
      · omega
    · simp only [List.cons_append, List.nil_append, bg]
      rw [if_neg (fun r => g r.2.2.2.2.2)]
  | [a, b, c, d], q => simp only [bg, List.length_cons, List.length_nil] at q; split at q <;> omega
  | _ :: _ :: _ :: _ :: _ :: _, q => simp only [bg, List.length_cons] at q; omega
theorem Dv.shape {d : G_utfdec_Dec} {h : List Int} (v : Dv d h) (hne : h ≠ []) : ∃ lo hi, (match h with | [a] => (slo a, shi a) | _ => (128, 191)) = (lo, hi) ∧ d = ⟨(h.length : Int), bg h - (h.length : Int), lo, hi, vl h⟩ := by
  obtain ⟨_, _, e⟩ := v
  match h, e with
  | [], _ => exact absurd rfl hne
  | [a], e => exact ⟨_, _, rfl, e⟩
  | a :: b :: t, e => exact ⟨_, _, rfl, e⟩
theorem dec_step {d : G_utfdec_Dec} {h : List Int} (v : Dv d h) {b : Int} (hb : Byt b) : ∃ d', f_utfdec_Dec_Step__utfdec_Dec_0 d b = some (d', (rstep h b).1) ∧ Dv d' (rstep h b).2 := by
  have v0 := v
  obtain ⟨hh, hbs, e⟩ := v
  unfold f_utfdec_Dec_Step__utfdec_Dec_0 rstep
  simp only [Bool.false_eq_true, if_false]
  by_cases hne : h = []
  · subst hne
    simp only at e
    subst e
    obtain ⟨d', a1, a2⟩ := dec_begin hb
    simp only [beq_self_eq_true, eq_self, if_true, a1, bsm]
    exact ⟨d', rfl, a2⟩
  · obtain ⟨lo, hi, e1, e2⟩ := v0.shape hne
    have hlt : (h.length : Int) < bg h := by
      rcases hh with q | q
      · exact absurd q hne
      · exact q
    obtain ⟨lo', hi', f1, f2, f3, f4, f5⟩ := more_iff hlt hne b
    rw [e1] at f1
    cases f1
    subst e2
    have hlen : 0 < h.length := by
      cases h with
      | nil => exact absurd rfl hne
      | cons _ _ => simp
    have hl3 := hh.len
    rw [if_neg hne]
    simp only [beq_iff_eq]
    rw [if_neg (by omega)]
    simp only [orE_some, bsm, Bool.or_eq_true, decide_eq_true_eq, gt_iff_lt]
    by_cases hr : lo ≤ b ∧ b ≤ hi
    · have hbg := f4 hr
      have hvl := vl_in hh hbs hne
      have hbgl : bg h ≤ 4 := by
        match h, hlen with
        | [a], _ => simp only [bg]; exact (ld_in a).2
        | [a, b], _ => simp only [bg]; split <;> first | exact (ld_in a).2 | omega
        | [a, b, c], _ => simp only [bg]; split <;> first | exact (ld_in a).2 | omega
        | a :: b :: c :: x :: t, _ => simp at hl3
      have hbits : ibOr .i64 (w64 (vl h * 2 ^ 6)) (w64 (ibAnd .u8 b 63)) = vl h * 64 + (b - 128) := by
        obtain ⟨x, hx⟩ : ∃ x : Nat, vl h = (x : Int) := ⟨(vl h).toNat, by omega⟩
        obtain ⟨y, hy⟩ : ∃ y : Nat, b - 128 = (y : Int) := ⟨(b - 128).toNat, by omega⟩
        rw [tail_and (by omega) (by omega), hx, hy, show ((x : Int) * 2 ^ 6) = (x : Int) * 64 from rfl, w64_in (by omega), w64_in (by omega), or_add (by omega) (by omega)]
        simp
      have hbs' : Bts (h ++ [b]) := fun x hx => by
        rcases List.mem_append.1 hx with hx | hx
        · exact hbs x hx
        · rw [List.mem_singleton.1 hx]; exact hb
      have hsn := vl_snoc hne b
      rw [if_neg (by omega), w64_in (by omega), w64_in (by omega), hbits, ← hsn]
      by_cases hm : (h.length : Int) + 1 < bg h
      · rw [if_pos (by omega), if_pos (by rw [hbg]; omega)]
        refine ⟨_, rfl, .inr (by rw [hbg]; simp; omega), hbs', ?_⟩
        simp only [hbg]
        match h, hlen with
        | a :: t, _ =>
          cases t with
          | nil => simp only [List.cons_append, List.nil_append, List.length_cons, List.length_nil, G_utfdec_Dec.mk.injEq, and_true, true_and]; omega
          | cons b2 t => simp only [List.cons_append, List.length_cons, List.length_append, List.length_nil, G_utfdec_Dec.mk.injEq, and_true, true_and]; omega
      · rw [if_neg (by omega), if_neg (by rw [hbg]; omega), if_pos (by rw [hbg]; omega), w32_in (by rw [hsn]; omega)]
        exact ⟨_, rfl, .inl rfl, fun x hx => by simp at hx, rfl⟩
    · have hz := f5 hr
      rw [if_pos (by omega), if_neg (by rw [hz]; omega), if_neg (by rw [hz]; omega)]
      have hfl : f_utfdec_Dec_Flush__utfdec_Dec_0 ⟨(h.length : Int), bg h - (h.length : Int), lo, hi, vl h⟩ = some (⟨0, 0, 0, 0, 0⟩, [65533]) := by
        unfold f_utfdec_Dec_Flush__utfdec_Dec_0 f_utfdec_Dec_Held__utfdec_Dec_0
        simp only [Bool.false_eq_true, if_false, bsm, beq_iff_eq]
        rw [if_neg (by omega)]
      rw [hfl]
      simp only [bsm]
      obtain ⟨d', a1, a2⟩ := dec_begin hb
      rw [a1]
      simp only [bsm]
      have hrl : (rs0 b).1.length ≤ 1 := by
        unfold rs0
        split
        · simp
        · split <;> simp
      rw [app_eq (by simp; omega)]
      exact ⟨d', rfl, a2⟩
theorem dec_held {d : G_utfdec_Dec} {h : List Int} (v : Dv d h) : f_utfdec_Dec_Held__utfdec_Dec_0 d = some (h.length : Int) := by
  unfold f_utfdec_Dec_Held__utfdec_Dec_0
  simp only [Bool.false_eq_true, if_false]
  by_cases hne : h = []
  · subst hne
    obtain ⟨_, _, e⟩ := v
    simp only at e
    rw [e]
    rfl
  · obtain ⟨lo, hi, _, e⟩ := v.shape hne
    rw [e]
theorem dec_flush {d : G_utfdec_Dec} {h : List Int} (v : Dv d h) : f_utfdec_Dec_Flush__utfdec_Dec_0 d = some (⟨0, 0, 0, 0, 0⟩, if h = [] then [] else [65533]) := by
  unfold f_utfdec_Dec_Flush__utfdec_Dec_0
  rw [dec_held v]
  simp only [bsm, beq_iff_eq]
  by_cases hne : h = []
  · subst hne
    obtain ⟨_, _, e⟩ := v
    simp only at e
    rw [if_pos (by simp), if_pos rfl, e]
  · rw [if_neg (fun e => hne (List.eq_nil_of_length_eq_zero (by omega))), if_neg hne]
theorem Dv.zero : Dv ⟨0, 0, 0, 0, 0⟩ [] := ⟨.inl rfl, fun x hx => by simp at hx, rfl⟩
end Go.Proofs.Ytfhhpdggmefcoaa
