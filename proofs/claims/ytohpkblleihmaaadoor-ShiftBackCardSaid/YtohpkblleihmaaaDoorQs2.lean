/-
  Blanks put into rows and cells taken out, one behind the other, in plain Lean: ShiftPlays answers true. Conditions: lists are shorter than 2^63.
-/
import Derived.Test.YtohpkblleihmaaaDoorQs
import Derived.Test.YtohpkblleihmaaaDoorS2
namespace Go.Proofs.YtohpkblleihmaaaDoor
open Go Go.Lt
variable {s : Sto} {k : Nat} {l p : List G_api_Cell} {w : Bool}

theorem snd_true27 (h : Snd l) (hl : l.length ≤ 1000000) : f_linotyperef23_Sound l = some true := by
  obtain ⟨b, h1, h2⟩ := ref_sound l (by omega)
  rw [h1, h2.2 h]
def three : List G_api_Cell := [⟨1, [97]⟩, ⟨2, [19968]⟩, ⟨3, []⟩]
theorem three_snd : Snd three := by
  obtain ⟨b, h1, h2⟩ := ref_sound three (by decide)
  have : f_linotyperef23_Sound three = some true := by kernel_rfl
  rw [this] at h1
  exact h2.1 (Option.some.inj h1).symm
theorem works27 (s : Sto) : ∃ s', f_linotypelaw27_works s = some (s', true) := by
  unfold f_linotypelaw27_works
  rw [show f_linotyperef23_Of 2 ([19968] : List Int) = some [⟨2, [19968]⟩, ⟨3, []⟩] from ref_of 2 [19968] (by decide)]
  simp only [bsm]
  rw [app_eq (by decide)]
  simp only [bsm]
  rw [show ([(⟨1, ([97] : List Int)⟩ : G_api_Cell)] ++ [⟨2, [19968]⟩, ⟨3, []⟩] : List G_api_Cell) = three by rfl, row_of (by decide) (by decide) three_snd]
  simp only [bsm, Er.isNil, Bool.not_true, orE_false, Option.isNone_some, Bool.false_eq_true, if_false]
  rw [shift_ins (add_get _ _) three_snd (by decide), add_sr]
  simp only [bsm]
  have hr : ish three false 0 1 = ⟨[bl, ⟨1, [97]⟩, bl], false⟩ := by kernel_rfl
  rw [hr, row_cells (l := [bl, ⟨1, [97]⟩, bl]) (add_get _ _) (by decide) (by
    have := ish_snd (w := false) three_snd 0 1
    rw [hr] at this
    exact this.sht)]
  simp only [bsm]
  rw [show f_linotyperef23_Same [bl, ⟨1, [97]⟩, bl] ([(⟨0, ([] : List Int)⟩ : G_api_Cell), (⟨1, ([97] : List Int)⟩ : G_api_Cell), (⟨0, ([] : List Int)⟩ : G_api_Cell)] : List G_api_Cell) = some true by kernel_rfl]
  exact ⟨_, rfl⟩

/-- What an act does to a row. -/
def a27 (l : List G_api_Cell) (w : Bool) (x : G_linotypelaw27_Act) : G_row_Row := if x.Delete = true then dsh l w x.Col x.N else ish l w x.Col x.N
theorem a27_snd (hs : Snd l) (x : G_linotypelaw27_Act) : Snd (a27 l w x).cells := by
  unfold a27
  split
  · exact dsh_snd hs _ _
  · exact ish_snd hs _ _
theorem a27_len (x : G_linotypelaw27_Act) : (a27 l w x).cells.length = l.length := by
  unfold a27
  split
  · exact dsh_len _ _
  · exact ish_len _ _
theorem a27_wrap (x : G_linotypelaw27_Act) : (a27 l w x).wrap = (w && !mvs x.Col x.N l.length) := by
  unfold a27 dsh ish
  split <;> split <;> simp_all
theorem do27 (h : s.row_Row[k]? = some ⟨l, w⟩) (hs : Snd l) (hl : l.length ≤ 1024) (x : G_linotypelaw27_Act) : f_linotypelaw27_do s (some k) x = some (s.sr k (a27 l w x)) := by
  unfold f_linotypelaw27_do a27
  split
  · rw [shift_del h hs hl]; rfl
  · rw [shift_ins h hs hl]; rfl
theorem do27n (x : G_linotypelaw27_Act) : f_linotypelaw27_do s none x = some s := by
  unfold f_linotypelaw27_do
  split
  · rw [shift_del0]; rfl
  · rw [shift_ins0]; rfl
theorem shiftPlays_true (s : Sto) (l : List G_api_Cell) (hl : l.length ≤ 9223372036854775807) (on : Bool) (acts : List G_linotypelaw27_Act) : ∃ s', f_linotypelaw27_ShiftPlays s l on acts = some (s', true) := by
  obtain ⟨s1, h1⟩ := works27 s
  obtain ⟨s2, h2⟩ := works27 s1
  unfold f_linotypelaw27_ShiftPlays
  rw [h1]
  simp only [bsm, Bool.not_true, orE_false]
  by_cases hlen : l.length ≤ 60 ∧ 1 ≤ l.length
  · have c1 : decide ((l.length : Int) > 60) = false := by simp; omega
    have c2 : ((l.length : Int) == 0) = false := by rw [beq_eq_false_iff_ne]; omega
    obtain ⟨t, h3, h4⟩ := ref_sound l (by omega)
    simp only [c1, c2, orE_false, bsm, h3, orE_some]
    by_cases hg : t = false ∨ (acts.length : Int) > 60
    · rw [if_pos (by rcases hg with rfl | hg <;> simp <;> omega)]
      simp only [h2, bsm]
      exact ⟨s2, rfl⟩
    · have ht : t = true := by cases t <;> simp_all
      have ha : acts.length ≤ 60 := by
        rcases Nat.lt_or_ge 60 acts.length with h | h
        · exact absurd (Or.inr (by omega)) hg
        · exact h
      have hs : Snd l := h4.1 ht
      rw [if_neg (by simp [ht]; omega)]
      rw [row_of (by omega) (by omega) hs]
      simp only [bsm, Er.isNil, Bool.not_true, Bool.false_eq_true, if_false]
      rw [row_goon (add_get _ _), add_sr]
      simp only [bsm]
      refine iter_forL (n := acts.length) (fun i q => q.2.2.1 = (i : Int) ∧ Snd q.1 ∧ q.1.length = l.length ∧ q.2.2.2.row_Row[s1.row_Row.length]? = some ⟨q.1, q.2.1⟩) (fun t => ∃ u, t = .inr u) ?_ ?_ ⟨rfl, hs, rfl, add_get _ _⟩ (by omega) ?_
      · rintro i ⟨q1, q2, q3, q4⟩ hi ⟨e1, e2, e3, e4⟩
        simp only at e1 e2 e3 e4
        subst e1
        refine .inl ⟨((a27 q1 q2 acts[i]).cells, (a27 q1 q2 acts[i]).wrap, ((i + 1 : Nat) : Int), q4.sr s1.row_Row.length (a27 q1 q2 acts[i])), ?_, rfl, a27_snd e2 _, by rw [a27_len]; exact e3, sr_get (get_lt e4)⟩
        have hq := sr_get (x := a27 q1 q2 acts[i]) (get_lt e4)
        have hsn := a27_snd (w := q2) e2 acts[i]
        have hz : (if acts[i].Delete = true then (f_linotyperef27_Delete q1 acts[i].Col acts[i].N).bind fun x => (some (x.1, x.2) : Option ((List G_api_Cell) × Bool)) else (f_linotyperef27_Insert q1 acts[i].Col acts[i].N).bind fun x => (some (x.1, x.2) : Option ((List G_api_Cell) × Bool))) = some ((a27 q1 q2 acts[i]).cells, mvs acts[i].Col acts[i].N q1.length) := by
          unfold a27
          split
          · rw [ref_del (by omega) _ _ q2]; rfl
          · rw [ref_ins (by omega) _ _ q2]; rfl
        simp only [dlt hi, if_true, idx_at hi, bsm, hz, do27 e4 e2 (by omega), w64_succ hi (by omega), do27n, andE_some, ← a27_wrap]
        rw [row_cells (l := (a27 q1 q2 acts[i]).cells) (w := (a27 q1 q2 acts[i]).wrap) hq (by rw [a27_len]; omega) hsn.sht]
        simp only [bsm]
        rw [same_self (by rw [a27_len]; omega) hsn.sht, row_wrap (l := (a27 q1 q2 acts[i]).cells) (w := (a27 q1 q2 acts[i]).wrap) hq, snd_true27 hsn (by rw [a27_len]; omega)]
        simp only [bsm, Bool.not_true, orE_false, beq_self_eq_true, Bool.false_eq_true, if_false]
      · rintro ⟨q1, q2, q3, q4⟩ ⟨e1, _⟩
        simp only at e1
        subst e1
        refine ⟨.inr q4, ?_, _, rfl⟩
        simp only [dnl, Bool.false_eq_true, if_false]
      · rintro t ⟨u, rfl⟩
        exact ⟨_, rfl⟩
  · by_cases c1 : (l.length : Int) > 60
    · simp only [c1, decide_true, orE_true, bsm, if_true, h2]
      exact ⟨s2, rfl⟩
    · have c2 : ((l.length : Int) == 0) = true := by rw [beq_iff_eq]; omega
      simp only [c1, c2, decide_false, orE_false, orE_true, bsm, if_true, h2]
      exact ⟨s2, rfl⟩
end Go.Proofs.YtohpkblleihmaaaDoor
