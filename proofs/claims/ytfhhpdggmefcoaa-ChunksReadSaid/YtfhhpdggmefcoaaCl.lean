/-
  Bytes cut and read, in plain Lean: ChunksCut and ChunksRead answer true. Conditions: lists are shorter than 2^63, bytes lie between 0 and 255.
-/
import Derived.Test.YtfhhpdggmefcoaaCk
import Derived.Test.YtfhhpdggmefcoaaTq
import Derived.Test.YtfhhpdggmefcoaaP2
import Derived.KernelRfl
namespace Go.Proofs.Ytfhhpdggmefcoaa
open Go Go.Lt

set_option maxRecDepth 100000 in
theorem works05 : f_linotypelaw05_works = some true := by kernel_rfl
theorem same_self (a : List Int) (ha : a.length ≤ 9223372036854775807) : f_linotyperef01_Same a a = some true := by
  unfold f_linotyperef01_Same
  rw [if_neg (by simp)]
  refine iter_forB (n := a.length) (fun i st => st = (i : Int)) (fun u => u = .inr ()) (fun i st hi e => ?_) (fun st e => ?_) rfl (by omega) (fun u hu => by subst hu; rfl)
  · subst e
    rw [if_pos (dlt hi), idx_at hi]
    simp only [bsm]
    rw [if_neg (by simp), w64_succ hi ha]
    exact .inl ⟨_, rfl, rfl⟩
  · subst e
    exact ⟨_, by rw [if_neg (by simp)], rfl⟩
theorem chunksCut_true (b at_ : List Int) : f_linotypelaw05_ChunksCut b at_ = some true := by
  unfold f_linotypelaw05_ChunksCut
  rw [works05]
  simp only [bsm, Bool.not_true, orE_false]
  by_cases hg : 200 < b.length ∨ 20 < at_.length
  · have e : (orE (decide ((b.length : Int) > 200)) (some (decide ((at_.length : Int) > 20)))) = some true := by
      rw [orE_some]
      simp
      omega
    rw [e]
    rfl
  have e : (orE (decide ((b.length : Int) > 200)) (some (decide ((at_.length : Int) > 20)))) = some false := by
    rw [orE_some]
    simp
    omega
  rw [e]
  simp only [bsm, Bool.false_eq_true, if_false]
  rw [cut_same b at_ (by omega) (by omega), cut_eq b at_ (by omega) (by omega)]
  simp only [bsm]
  rw [if_neg (by simp)]
  generalize hc : pcz b 0 (srt (at_.map (clp b.length)) ++ [(b.length : Int)]) = c
  have hcl : c.length ≤ 1000000 := by
    rw [← hc, pcz_len, List.length_append, srt_len, List.length_map]
    simp
    omega
  refine iter_forB (n := c.length) (fun i st => st = (i : Int)) (fun u => u = .inr ()) (fun i st hi e => ?_) (fun st e => ?_) rfl (by omega) (fun u hu => by subst hu; rfl)
  · subst e
    rw [if_pos (dlt hi), idx_at hi]
    simp only [bsm]
    unfold f_linotyperef01_Bytes
    simp only [bsm]
    rw [eqS_self, if_neg (by simp), w64_succ hi (by omega)]
    exact .inl ⟨_, rfl, rfl⟩
  · subst e
    exact ⟨_, by rw [if_neg (by simp)], rfl⟩

/-! ### pieces read -/
theorem feed_dec {d : G_utfdec_Dec} {h : List Int} (v : Dv d h) {p : List Int} (hp : Bts p) (hl : p.length ≤ 1000000) : ∃ d', f_utfdec_Dec_Feed__utfdec_Dec_0 d p = some (d', (rfeed h p).1) ∧ Dv d' (rfeed h p).2 := by
  suffices key : ∃ r, f_utfdec_Dec_Feed__utfdec_Dec_0 d p = some r ∧ (r.2 = (rfeed h p).1 ∧ Dv r.1 (rfeed h p).2) by
    obtain ⟨r, h1, h2, h3⟩ := key
    exact ⟨r.1, by rw [h1, ← h2], h3⟩
  unfold f_utfdec_Dec_Feed__utfdec_Dec_0
  refine iter_forE (n := p.length) (fun i (st : (List Int) × Int × Int × Int × Int × Int × Int) => st.2.1 = (i : Int) ∧ st.1 = (rfeed h (p.take i)).1 ∧ Dv ⟨st.2.2.1, st.2.2.2.1, st.2.2.2.2.1, st.2.2.2.2.2.1, st.2.2.2.2.2.2⟩ (rfeed h (p.take i)).2)
    (fun (u : (List Int) × Int × Int × Int × Int × Int) => u.1 = (rfeed h p).1 ∧ Dv ⟨u.2.1, u.2.2.1, u.2.2.2.1, u.2.2.2.2.1, u.2.2.2.2.2⟩ (rfeed h p).2) (fun i st hi hI => ?_) (fun st hI => ?_) ⟨rfl, rfl, v⟩ (by omega) (fun u hu => ⟨_, rfl, hu⟩)
  · obtain ⟨out, i', a1, a2, a3, a4, a5⟩ := st
    obtain ⟨e, e2, hv⟩ := hI
    simp only at e e2 hv
    subst e e2
    simp only
    rw [if_pos (dlt hi), idx_at hi]
    simp only [bsm]
    obtain ⟨d', q1, q2⟩ := dec_step hv (hp _ (List.getElem_mem hi))
    rw [q1]
    simp only [bsm]
    have g1 := rfeed_len h (p.take i)
    have g2 := rstep_len (rfeed h (p.take i)).2 p[i]
    rw [List.length_take] at g1
    rw [app_eq (by omega), w64_succ hi (by omega)]
    have hs := rfeed_snoc h (p.take i) p[i]
    rw [← List.take_succ_eq_append_getElem hi] at hs
    exact .inl ⟨_, rfl, rfl, by rw [hs], by rw [hs]; exact q2⟩
  · obtain ⟨out, i', a1, a2, a3, a4, a5⟩ := st
    obtain ⟨e, e2, hv⟩ := hI
    simp only at e e2 hv
    subst e e2
    refine ⟨_, by simp only; rw [if_neg (by simp)], ?_⟩
    rw [List.take_length] at hv ⊢
    exact ⟨rfl, hv⟩
theorem read_eq {l : List (List Int)} (hl : ∀ p ∈ l, Bts p) (hn : l.flatten.length ≤ 100000) (hll : l.length ≤ 100000) : f_chunks_Read l = some (told l.flatten) := by
  unfold f_chunks_Read
  refine iter_forB (n := l.length) (fun i (st : (List Int) × Int × Int × Int × Int × Int × Int) => st.2.1 = (i : Int) ∧ st.1 = (rfeed [] (l.take i).flatten).1 ∧ Dv ⟨st.2.2.1, st.2.2.2.1, st.2.2.2.2.1, st.2.2.2.2.2.1, st.2.2.2.2.2.2⟩ (rfeed [] (l.take i).flatten).2)
    (fun u => u.1 = (rfeed [] l.flatten).1 ∧ Dv ⟨u.2.1, u.2.2.1, u.2.2.2.1, u.2.2.2.2.1, u.2.2.2.2.2⟩ (rfeed [] l.flatten).2) (fun i st hi hI => ?_) (fun st hI => ?_) ⟨rfl, rfl, Dv.zero⟩ (by omega) (fun u hu => ?_)
  · obtain ⟨out, i', a1, a2, a3, a4, a5⟩ := st
    obtain ⟨e, e2, hv⟩ := hI
    simp only at e e2 hv
    subst e e2
    simp only
    rw [if_pos (dlt hi), idx_at hi]
    simp only [bsm]
    have hsplit : (l.take (i + 1)).flatten = (l.take i).flatten ++ l[i] := by
      rw [List.take_succ_eq_append_getElem hi, List.flatten_append]
      simp
    have hlen : (l.take (i + 1)).flatten.length ≤ l.flatten.length := by
      conv => rhs; rw [← List.take_append_drop (i + 1) l, List.flatten_append, List.length_append]
      omega
    rw [hsplit, List.length_append] at hlen
    obtain ⟨d', q1, q2⟩ := feed_dec hv (hl _ (List.getElem_mem hi)) (by omega)
    rw [q1]
    simp only [bsm]
    have g1 := rfeed_len [] (l.take i).flatten
    have g2 := rfeed_len (rfeed [] (l.take i).flatten).2 l[i]
    rw [app_eq (by omega), w64_succ hi (by omega)]
    refine .inl ⟨_, rfl, rfl, ?_, ?_⟩
    · rw [hsplit, rfeed_app]
    · rw [hsplit, rfeed_app]
      exact q2
  · obtain ⟨out, i', a1, a2, a3, a4, a5⟩ := st
    obtain ⟨e, e2, hv⟩ := hI
    simp only at e e2 hv
    subst e e2
    refine ⟨_, by simp only; rw [if_neg (by simp)], ?_⟩
    rw [List.take_length] at hv ⊢
    exact ⟨rfl, hv⟩
  · obtain ⟨h1, h2⟩ := hu
    rw [dec_flush h2, h1]
    simp only [bsm]
    have g1 := rfeed_len [] l.flatten
    rw [app_eq (by split <;> simp <;> omega)]
    rfl
theorem runes_eq {b : List Int} (hb : Bts b) (hl : b.length ≤ 1000000) : f_linotyperef04_Runes b = some (told b) := by
  obtain ⟨l, h1, h2, h3⟩ := all_eq hb hl
  unfold f_linotyperef04_Runes
  rw [h1]
  simp only [bsm]
  refine iter_forB (n := l.length) (fun i st => st = ((l.take i).map (·.R), (i : Int))) (fun u => u = told b) (fun i st hi e => ?_) (fun st e => ?_) rfl (by omega) (fun u hu => by subst hu; rfl)
  · subst e
    simp only
    rw [if_pos (dlt hi), idx_at hi]
    simp only [bsm]
    rw [app_eq (by simp; omega), w64_succ hi (by omega)]
    refine .inl ⟨_, rfl, ?_⟩
    rw [List.take_succ_eq_append_getElem hi, List.map_append]
    rfl
  · subst e
    refine ⟨_, by simp only; rw [if_neg (by simp)], ?_⟩
    rw [List.take_length, h2]
theorem told_len (b : List Int) : (told b).length ≤ 2 * b.length + 1 := by
  have := rfeed_len [] b
  unfold told
  rw [List.length_append]
  split <;> simp <;> omega
theorem chunksRead_true (b at_ : List Int) (hb : Bts b) : f_linotypelaw05_ChunksRead b at_ = some true := by
  unfold f_linotypelaw05_ChunksRead
  rw [works05]
  simp only [bsm, Bool.not_true, orE_false]
  by_cases hg : 1500 < b.length ∨ 200 < at_.length
  · have e : (orE (decide ((b.length : Int) > 1500)) (some (decide ((at_.length : Int) > 200)))) = some true := by
      rw [orE_some]
      simp
      omega
    rw [e]
    rfl
  have e : (orE (decide ((b.length : Int) > 1500)) (some (decide ((at_.length : Int) > 200)))) = some false := by
    rw [orE_some]
    simp
    omega
  rw [e]
  simp only [bsm, Bool.false_eq_true, if_false]
  rw [cut_eq b at_ (by omega) (by omega)]
  simp only [bsm]
  have hm : ∀ x ∈ srt (at_.map (clp b.length)), ((0 : Nat) : Int) ≤ x ∧ x ≤ b.length := fun x hx => by
    obtain ⟨z, _, rfl⟩ := List.mem_map.1 (srt_mem hx)
    exact clp_in _ _
  have hfl := pcz_flat b _ 0 (srt_sorted (at_.map (clp b.length))) hm (Nat.zero_le _)
  rw [List.drop_zero] at hfl
  have hcl : (pcz b 0 (srt (at_.map (clp b.length)) ++ [(b.length : Int)])).length ≤ 201 := by
    rw [pcz_len, List.length_append, srt_len, List.length_map]
    simp
    omega
  generalize pcz b 0 (srt (at_.map (clp b.length)) ++ [(b.length : Int)]) = c at hfl hcl
  have hbc : ∀ p ∈ c, Bts p := fun p hp x hx => hb x (by rw [← hfl]; exact List.mem_flatten.2 ⟨p, hp, hx⟩)
  have hj : f_chunks_Join c = some b := by
    unfold f_chunks_Join f_bytes_Join
    rw [if_pos ⟨rfl, List.all_eq_true.2 fun p hp => List.all_eq_true.2 fun x hx => by
      have := hbc p hp x hx
      unfold Byt at this
      simp
      omega, by omega, by rw [hfl]; omega⟩, hfl]
    rfl
  rw [hj]
  simp only [bsm]
  have ht := told_len b
  have hr1 := read_eq hbc (by rw [hfl]; omega) (by omega)
  have hr2 := read_eq (l := [b]) (fun p hp => by rw [List.mem_singleton.1 hp]; exact hb) (by simp; omega) (by simp)
  rw [hfl] at hr1
  rw [show [b].flatten = b by simp] at hr2
  unfold f_linotyperef01_Bytes
  rw [hr1, hr2, runes_eq hb (by omega)]
  simp only [bsm]
  rw [eqS_self, same_self _ (by omega)]
  rfl
end Go.Proofs.Ytfhhpdggmefcoaa
