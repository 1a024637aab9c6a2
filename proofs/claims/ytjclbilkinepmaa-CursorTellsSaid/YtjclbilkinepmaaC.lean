/-
  Whether any cursor may be, as it is held, and behind a cluster, in plain Lean: what the walk computes answers true for all cursors whose numbers are those of Go's int.
-/
import Derived.Test.YtjclbilkinepmaaB
namespace Go.Proofs.Ytjclbilkinepmaa
open Go Go.Lt

theorem ct_works : f_linotypelaw31_works = some true := by decide +kernel

def sd (n : Int) : Int := imax 1 (imin n 1024)
theorem sd_in (n : Int) : 1 ≤ sd n ∧ sd n ≤ 1024 := side_in n
theorem ref_side (n : Int) : f_linotyperef31_Side n = some (sd n) := side_ref n
theorem cur_side (n : Int) : f_cursor_side n = some (sd n) := rfl
def wi (n s : Int) : Int := if n < 0 then 0 else if n ≥ s then s - 1 else n
theorem within_ref {n s : Int} (hs : 1 ≤ s ∧ s ≤ 1024) : f_linotyperef31_within n s = some (wi n s) := by
  have e : w64 (s - 1) = s - 1 := w64_in (by omega)
  simp only [f_linotyperef31_within, wi, e, decide_eq_true_eq]
  split
  · rfl
  · split <;> rfl
theorem held_eq {n s : Int} (hs : 1 ≤ s ∧ s ≤ 1024) : f_cursor_held n s = some (wi n s) := by
  have e : w64 (s - 1) = s - 1 := w64_in (by omega)
  simp only [f_cursor_held, wi, e, imax, imin]
  congr 1
  split <;> split <;> split <;> omega
theorem wi_in {n s : Int} (hs : 1 ≤ s ∧ s ≤ 1024) : 0 ≤ wi n s ∧ wi n s < s := by
  simp only [wi]
  split
  · omega
  · split <;> omega
theorem wi_wi {n s : Int} (hs : 1 ≤ s ∧ s ≤ 1024) : wi (wi n s) s = wi n s := by
  have h := wi_in (n := n) hs
  generalize wi n s = m at *
  simp only [wi]
  split
  · omega
  · split <;> omega
theorem wi_id {n s : Int} (h0 : 0 ≤ n) (h1 : n < s) : wi n s = n := by
  simp only [wi]
  split
  · omega
  · split <;> omega
theorem wi_ne {n s : Int} (hs : 1 ≤ s ∧ s ≤ 1024) (h : wi n s = n) : 0 ≤ n ∧ n < s := by
  have := wi_in (n := n) hs
  omega

theorem andE_some (a b : Bool) : andE a (some b) = some (a && b) := by cases a <;> rfl
theorem orE_some (a b : Bool) : orE a (some b) = some (a || b) := by cases a <;> rfl

theorem cur_hold (c : G_api_Cursor) (w h : Int) : f_cursor_Hold c w h = some ⟨wi c.Row (sd h), wi c.Col (sd w), c.Pending && (c.Col == sd w - 1)⟩ := by
  have e : w64 (sd w - 1) = sd w - 1 := w64_in (by have := sd_in w; omega)
  simp only [f_cursor_Hold, cur_side, Option.bind_some, held_eq (sd_in h), held_eq (sd_in w), e, andE_some]
theorem ref_hold (c : G_api_Cursor) (w h : Int) : f_linotyperef31_Hold c w h = some ⟨wi c.Row (sd h), wi c.Col (sd w), c.Pending && (c.Col == sd w - 1)⟩ := by
  have e : w64 (sd w - 1) = sd w - 1 := w64_in (by have := sd_in w; omega)
  simp only [f_linotyperef31_Hold, ref_side, Option.bind_some, within_ref (sd_in h), within_ref (sd_in w), e, andE_some]
theorem cur_right (c : G_api_Cursor) (w h : Int) : f_cursor_Right c w h = some (decide (0 ≤ c.Row ∧ c.Row < sd h ∧ 0 ≤ c.Col ∧ c.Col < sd w) && (!c.Pending || c.Col == sd w - 1)) := by
  simp only [f_cursor_Right, cur_hold, Option.bind_some, Option.some.injEq]
  have a := wi_ne (n := c.Row) (sd_in h)
  have b := wi_ne (n := c.Col) (sd_in w)
  by_cases hr : 0 ≤ c.Row ∧ c.Row < sd h
  · by_cases hc : 0 ≤ c.Col ∧ c.Col < sd w
    · rw [wi_id hr.1 hr.2, wi_id hc.1 hc.2]
      simp only [beq_self_eq_true, Bool.true_and, Bool.and_true, hr.1, hr.2, hc.1, hc.2, and_self, decide_true]
      cases c.Pending <;> cases (c.Col == sd w - 1) <;> rfl
    · have : ¬ c.Col = wi c.Col (sd w) := fun e => hc (b e.symm)
      have h2 : ¬ (0 ≤ c.Row ∧ c.Row < sd h ∧ 0 ≤ c.Col ∧ c.Col < sd w) := fun x => hc ⟨x.2.2.1, x.2.2.2⟩
      rw [decide_eq_false h2]
      simp [this]
  · have : ¬ c.Row = wi c.Row (sd h) := fun e => hr (a e.symm)
    have h2 : ¬ (0 ≤ c.Row ∧ c.Row < sd h ∧ 0 ≤ c.Col ∧ c.Col < sd w) := fun x => hr ⟨x.1, x.2.1⟩
    rw [decide_eq_false h2]
    simp [this]
theorem ref_right (c : G_api_Cursor) (w h : Int) : f_linotyperef31_Right c w h = some (decide (0 ≤ c.Row ∧ c.Row < sd h ∧ 0 ≤ c.Col ∧ c.Col < sd w) && (!c.Pending || c.Col == sd w - 1)) := by
  have e : w64 (sd w - 1) = sd w - 1 := w64_in (by have := sd_in w; omega)
  simp only [f_linotyperef31_Right, ref_side, Option.bind_some, andE_some, orE_some, e, ge_iff_le, Bool.decide_and, Bool.and_assoc]

theorem after_eq (c : G_api_Cursor) (wide w : Int) (auto : Bool) : f_linotyperef31_After c wide w auto = f_cursor_After c wide w auto := by
  have hw := sd_in w
  by_cases hx : wide > 1
  · have hm : imax 1 (imin wide 2) = 2 := by
      simp only [imax, imin]
      (repeat' split) <;> omega
    simp only [f_linotyperef31_After, f_cursor_After, hm, hx, cur_side, ref_side, Option.bind_some, decide_eq_true_eq, if_true]
    by_cases h : c.Col < w64 (sd w - 2)
    · rw [if_neg (by omega), if_pos h]
    · rw [if_pos (by omega), if_neg h]
  · have hm : imax 1 (imin wide 2) = 1 := by
      simp only [imax, imin]
      (repeat' split) <;> omega
    simp only [f_linotyperef31_After, f_cursor_After, hm, hx, cur_side, ref_side, Option.bind_some, decide_eq_true_eq, if_false]
    by_cases h : c.Col < w64 (sd w - 1)
    · rw [if_neg (by omega), if_pos h]
    · rw [if_pos (by omega), if_neg h]

theorem after_some (c : G_api_Cursor) (wide w : Int) (auto : Bool) : ∃ r, f_cursor_After c wide w auto = some r := by
  simp only [f_cursor_After, cur_side, Option.bind_some]
  split
  · exact ⟨_, rfl⟩
  · exact ⟨_, rfl⟩

theorem cursorTells_true (c : G_api_Cursor) (s : G_linotypelaw31_Side) (auto : Bool) : f_linotypelaw31_CursorTells c s auto = some true := by
  have h1 := sd_in s.W
  have h2 := sd_in s.H
  have a := wi_in (n := c.Row) h2
  have b := wi_in (n := c.Col) h1
  obtain ⟨r, hr⟩ := after_some ⟨c.Row, c.Col, c.Pending && auto⟩ s.Wide s.W auto
  have hk : (decide (0 ≤ wi c.Row (sd s.H) ∧ wi c.Row (sd s.H) < sd s.H ∧ 0 ≤ wi c.Col (sd s.W) ∧ wi c.Col (sd s.W) < sd s.W) && (!(c.Pending && (c.Col == sd s.W - 1)) || wi c.Col (sd s.W) == sd s.W - 1)) = true := by
    rw [decide_eq_true ⟨a.1, a.2, b.1, b.2⟩, Bool.true_and]
    by_cases hc : c.Col = sd s.W - 1
    · have : wi c.Col (sd s.W) = sd s.W - 1 := by rw [wi_id (by omega) (by omega), hc]
      simp [this]
    · simp [hc]
  simp only [f_linotypelaw31_CursorTells, ct_works, cur_right, ref_right, cur_hold, ref_hold, Option.bind_some, orE_some, andE_some, hk, after_eq, hr, f_cursor_Move]
  simp

end Go.Proofs.Ytjclbilkinepmaa
