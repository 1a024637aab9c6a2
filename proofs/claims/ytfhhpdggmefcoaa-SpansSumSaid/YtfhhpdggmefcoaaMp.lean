/-
  Still more operations, in our own walk kit: boxes that stay from some point on, bytes that a string shares, signs of strings, results of four. No condition; nothing of any program stands here.
-/
import Derived.Test.YtfhhpdggmefcoaaMo
namespace Go.Lt

section
variable {P : Program} {c c' : Cx} {G : Gm} {F : List En} {ρ : Operand → Value} {o : Oper}
/-- A box that stays from here on. -/
theorem Own.frzB {b : Nat} {T : TypeId} {vs : List Value} (k : Nat) (O : Own c G F) (hk : F[k]? = some ⟨.pointer (some ⟨b, 0, none⟩), T, vs, 0⟩) :
    ∃ c', c'.w = c.w ∧ c.le c' ∧ Own c' G (F.set k ⟨.pointer (some ⟨b, 0, none⟩), T, vs, vs.length⟩) ∧ ∀ j u, vs[j]? = some u → Im c' b (0 + j) u := by
  have hon := O.on k hk
  obtain ⟨hh, hA⟩ := hon b rfl
  let c' : Cx := ⟨c.w, fun b' o => c.A b' o ∧ ¬ (b' = b ∧ o < vs.length), c.t⟩
  have hle : c.le c' := ⟨rfl, rfl, Nat.le_refl _, fun _ _ _ h => ⟨rfl, fun h2 => h h2.1⟩, fun _ _ _ => rfl, fun _ _ _ => rfl, fun _ _ _ h => h⟩
  have hb : c.but (fun b' => b' = b) c' := ⟨hle, rfl, fun b' hb' hd => ⟨rfl, fun o => ⟨fun h => h.1, fun h => ⟨h, fun h2 => hd h2.1⟩⟩⟩⟩
  refine ⟨c', rfl, hle, O.set k hk hb (fun b' h => by rw [h]; rfl) (fun b' hb' => ?_) (fun b' h => .inl h), fun j u hu => ⟨hon.lt rfl, fun hA' => ?_, ?_⟩⟩
  · simp only [blk, Option.some.injEq] at hb'
    subst hb'
    refine ⟨hh, fun o => ?_⟩
    show (c.A b o ∧ ¬ (b = b ∧ o < vs.length)) ↔ vs.length ≤ o
    rw [hA o]
    simp
  · have := (List.getElem?_eq_some_iff.1 hu).1
    exact hA'.2 ⟨rfl, by omega⟩
  · show c.w.cell? _ = _
    rw [cell_of_row _ _ _ _ _ _ hh, List.getElem?_toArray, Nat.zero_add, hu]

theorem run_shape {w : World} {b : Nat} {vs : Array Value} {T : TypeId} {z : Nat × Nat} (h : w.heap[b]? = some (.cells vs T z)) : (shape b).run P w = .ok (some (T, vs.size)) w := by
  simp [shape, Sem.run, World.shape?, h]
theorem mark_heap {w : World} {b n : Nat} {vs : Array Value} {T : TypeId} (h : w.heap[b]? = some (.cells vs T (0, 0))) : (w.freeze ⟨b, n, none⟩ 1).heap[b]? = some (.cells vs T (n, n + 1)) := by
  simp [World.freeze, Array.getElem?_modify, h]
theorem mark_other {w : World} {b n k : Nat} (h : k ≠ b) : (w.freeze ⟨b, n, none⟩ 1).heap[k]? = w.heap[k]? := by
  simp [World.freeze, Array.getElem?_modify, Ne.symm h]
theorem mark_size (w : World) (a : Addr) : (w.freeze a 1).heap.size = w.heap.size := by simp [World.freeze]

/-- '[]byte("..")': the bytes are a slice that stays. -/
theorem Own.mark {α : Type} {R : Rp α} {m : Bool} {v : Value} {E T E' : TypeId} {vs : List Value} {xs : List α} (k : Nat) (O : Own c G F) (hk : F[k]? = some (es m R v E vs xs)) (h : OA R c v vs xs) (hne : Nat.ble 1 xs.length = true)
    (hT : P.underlying T = some (.slice E')) (hE : P.underlying E' = some (.int .u8)) (hx : execOp ρ o = (do pure (Next.value (← convert T T v)) : Sem Next)) :
    ∃ v' c', (execOp ρ o).run P c.w = .ok (.value v') c'.w ∧ c.le c' ∧ Own c' G (F.set k hole) ∧ Sl R c' v' xs := by
  have hne := Nat.le_of_ble_eq_true hne
  have hon := O.on k hk
  obtain ⟨hp, h1, h2⟩ := id h
  rcases h1 with ⟨rfl, rfl⟩ | ⟨g, cap, rfl, hc, hm, hcs⟩
  · simp at hne
  have hlt := hon.lt (b := g) rfl
  obtain ⟨h3, h4⟩ := hon g rfl
  simp only [es] at h3 h4
  have hal := AR.len h2 hp
  have hlim : (cond m 0 (xs.length * R.size)) ≤ vs.length := by cases m <;> simp <;> omega
  let w' := c.w.freeze ⟨g, vs.toArray.size, none⟩ 1
  have e1 : w'.heap[g]? = some (.cells vs.toArray E (vs.toArray.size, vs.toArray.size + 1)) := mark_heap h3
  have e2 : ∀ k, k ≠ g → w'.heap[k]? = c.w.heap[k]? := fun k hk => mark_other hk
  let c' : Cx := ⟨w', fun b' o => c.A b' o ∧ b' ≠ g, c.t⟩
  have hcell : ∀ k o, w'.cell? ⟨k, o, none⟩ = c.w.cell? ⟨k, o, none⟩ := fun k o => by
    by_cases hkg : k = g
    · subst hkg
      rw [cell_of_row _ _ _ _ _ _ e1, cell_of_row _ _ _ _ _ _ h3]
    · simp only [World.cell?, e2 k hkg]
  have hle : c.le c' := by
    refine ⟨rfl, rfl, Nat.le_of_eq (mark_size _ _).symm, fun k o _ hA => ⟨hcell k o, fun hA' => hA hA'.1⟩, fun k hk hA => e2 k ?_, fun a ha hA => ?_, fun _ _ _ h => h⟩
    · rintro rfl
      exact hA _ ((h4 _).2 (Nat.le_refl _))
    · by_cases hag : a.block = g
      · have h5 : ¬ (cond m 0 (xs.length * R.size)) ≤ a.off := fun h => hA (by rw [hag]; exact (h4 _).2 h)
        simp only [World.frozen?, hag, h3]
        show (match w'.heap[g]? with | some (.cells _ _ (lo, hi)) => decide (lo ≤ a.off) && decide (a.off < hi) | _ => false) = _
        rw [e1]
        simp
        omega
      · simp only [World.frozen?]
        show (match w'.heap[a.block]? with | some (.cells _ _ (lo, hi)) => decide (lo ≤ a.off) && decide (a.off < hi) | _ => false) = _
        rw [e2 _ hag]
        rfl
  have hb : c.but (fun b' => b' = g) c' := ⟨hle, rfl, fun b' hb' hd => ⟨e2 _ hd, fun o => ⟨fun h => h.1, fun h => ⟨h, hd⟩⟩⟩⟩
  refine ⟨.slice (some ⟨g, 0, none⟩) xs.length cap, c', rx hx ?_, hle, O.set k hk hb (fun b' h => by rw [h]; rfl) (hole_on c') (fun b' h => by cases h), ?_⟩
  · have hsh : (shape g).run P c.w = .ok (some (E, vs.toArray.size)) c.w := run_shape h3
    simp [convert, run_underlying hT, run_underlying hE, markStringish, hsh, freeze, Sem.run, Result.andThen]
    rfl
  · refine ⟨_, cap, rfl, hc, hm, fun i x hx => ⟨g, 0, _, rfl, R.mono hle (h2 i x hx), fun j u hu => ⟨by show g < w'.heap.size; rw [mark_size]; exact hlt, fun hA => hA.2 rfl, ?_⟩⟩⟩
    show w'.cell? _ = _
    rw [hcell, cell_of_row _ _ _ _ _ _ h3, List.getElem?_toArray, Nat.zero_add]
    rw [List.getElem?_take] at hu
    split at hu
    · rwa [List.getElem?_drop] at hu
    · cases hu

/-! ### strings -/
def sidx (s : ByteArray) (i : Int) : Option Int := if 0 ≤ i then (s[i.toNat]?).map (fun b => (b.toNat : Int)) else none
theorem run_indexS {T : TypeId} {s : ByteArray} {k : IntKind} {i x : Int} (hT : P.underlying T = some .string) (h : sidx s i = some x) (w : World) : (Instr.index T (.string s) (.int k i)).run P w = .ok (.int .u8 x) w := by
  unfold sidx at h
  split at h
  · rename_i h0
    obtain ⟨b, hb, rfl⟩ := Option.map_eq_some_iff.1 h
    simp [Instr.index, asIntOf, run_underlying hT, h0, hb]
  · cases h
end

section
variable {P : Program} {c : Cx} {n : Nat} {e : Nat → Value} {fn : Func} {R : Ending → World → Prop}
theorem retCTT {t u s b : Nat} {T U : TypeId} {vs : List Value} {v v' : Value} (hr : fn.results = #[.cell t T, .tmp u, .tmp s]) (hv : ev n e (.tmp t) = .pointer (some ⟨b, 0, none⟩)) (hu : ev n e (.tmp u) = v) (hs' : ev n e (.tmp s) = v')
    (hT : (P.underlying T).map (fun d => match d with | .struct _ | .array _ _ => true | _ => false) = some true) (hs : (P.info? T).map (·.size) = some vs.length) (h : c.w.heap[b]? = some (.cells vs.toArray U (0, 0)))
    (hR : R (.returned (.tuple #[.agg vs.toArray, v, v'])) c.w) : bodyQ P fn n R .ret e c.w := by
  have hl := run_loadC (P := P) (w := c.w) (b := b) (o := 0) (l := vs) hT hs (fun j u hu => by simp [World.cell?, h, hu])
  refine ⟨.tuple #[.agg vs.toArray, v, v'], ?_, hR⟩
  have ht := tmps_getD n e t
  have hu' := tmps_getD n e u
  have hs'' := tmps_getD n e s
  rw [hv, Array.getD_eq_getD_getElem?] at ht
  rw [hu, Array.getD_eq_getD_getElem?] at hu'
  rw [hs', Array.getD_eq_getD_getElem?] at hs''
  simp [results, hr, ht, hu', hs'', asAddr, hl, Result.andThen]
theorem retCCTT {t u b b' t3 t4 : Nat} {T U T' U' : TypeId} {vs vs' : List Value} {v3 v4 : Value} (hr : fn.results = #[.cell t T, .cell u T', .tmp t3, .tmp t4]) (hv : ev n e (.tmp t) = .pointer (some ⟨b, 0, none⟩))
    (hT : (P.underlying T).map (fun d => match d with | .struct _ | .array _ _ => true | _ => false) = some true) (hs : (P.info? T).map (·.size) = some vs.length) (h : c.w.heap[b]? = some (.cells vs.toArray U (0, 0)))
    (hu : ev n e (.tmp u) = .pointer (some ⟨b', 0, none⟩))
    (hT' : (P.underlying T').map (fun d => match d with | .struct _ | .array _ _ => true | _ => false) = some true) (hs' : (P.info? T').map (·.size) = some vs'.length) (h' : c.w.heap[b']? = some (.cells vs'.toArray U' (0, 0)))
    (h3 : ev n e (.tmp t3) = v3) (h4 : ev n e (.tmp t4) = v4)
    (hR : R (.returned (.tuple #[.agg vs.toArray, .agg vs'.toArray, v3, v4])) c.w) : bodyQ P fn n R .ret e c.w := by
  have hl := run_loadC (P := P) (w := c.w) (b := b) (o := 0) (l := vs) hT hs (fun j u hu => by simp [World.cell?, h, hu])
  have hl' := run_loadC (P := P) (w := c.w) (b := b') (o := 0) (l := vs') hT' hs' (fun j u hu => by simp [World.cell?, h', hu])
  refine ⟨.tuple #[.agg vs.toArray, .agg vs'.toArray, v3, v4], ?_, hR⟩
  have ht := tmps_getD n e t
  have hu' := tmps_getD n e u
  have ht3 := tmps_getD n e t3
  have ht4 := tmps_getD n e t4
  rw [hv, Array.getD_eq_getD_getElem?] at ht
  rw [hu, Array.getD_eq_getD_getElem?] at hu'
  rw [h3, Array.getD_eq_getD_getElem?] at ht3
  rw [h4, Array.getD_eq_getD_getElem?] at ht4
  simp [results, hr, ht, hu', ht3, ht4, asAddr, hl, hl', Result.andThen]
end

/-! ### a load behind a change, in a region that draws -/
section
variable {D : List Nat} {K : Cx → Prop} {P : Program} {l : List Oper} {n : Nat} {Q : Exit → (Nat → Value) → World → Prop} {fuel : Nat} {li : List Bool} {e : Nat → Value} {c : Cx} {o : Oper}
theorem Go1.late (i : Nat) (v : Value) (hi : l.toArray[i]? = some o) (hsl : slotsIn n l = true) (hw : wants l.toArray n e o = true) (hr : (execOp (ev n e) o).run P c.w = .ok (.value v) c.w)
    (hk : D.contains i = true) (h : AC D K P l n Q fuel (li.set i true) (upO e o.dst v) c) : Go1 D K P l n Q fuel li e c i := Go1.val hi hsl hw hr (Cx.le.refl c) (.inl hk) h
theorem Go1.lateb (i : Nat) {t b : Bool} (htb : t = b) (hi : l.toArray[i]? = some o) (hsl : slotsIn n l = true) (hw : wants l.toArray n e o = true) (hr : (execOp (ev n e) o).run P c.w = .ok (.value (.bool t)) c.w)
    (hk : D.contains i = true) (h : AC D K P l n Q fuel (li.set i true) (upO e o.dst (.bool b)) c) : Go1 D K P l n Q fuel li e c i := by
  subst htb
  exact Go1.late i _ hi hsl hw hr hk h
end
end Go.Lt
