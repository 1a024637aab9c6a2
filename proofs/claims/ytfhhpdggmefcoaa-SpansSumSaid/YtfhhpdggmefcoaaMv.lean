/-
  Regions that draw their order, in our own walk kit: an operation that yields its value in whatever later context may be taken first. No condition; nothing of any program stands here.
-/
import Derived.Test.YtfhhpdggmefcoaaMu
namespace Go.Lt

/-- What a call of a Go function leaves: its value, in a context behind. -/
def Post (c : Cx) (X : Cx → Value → Prop) : Ending → World → Prop := fun x w => ∃ v c', x = .returned v ∧ w = c'.w ∧ c.le c' ∧ X c' v

/-- What is held on to: entries, and the objects. -/
def Kp (G : Gm) (N : List En) (c : Cx) : Prop := ∀ i e, at_ G N i = some e → e.on c
theorem Kp.nil {c : Cx} {G : Gm} {F : List En} (O : Own c G F) : Kp G [] c := fun i e h => by
  cases i with
  | inl i => simp [at_] at h
  | inr i => exact O.m.1 (.inr i) e h
def G0 : Gm := fun _ _ => []
theorem Kp.nil0 {c : Cx} : Kp G0 [] c := fun i e h => by
  cases i <;> simp [at_, G0] at h
theorem Kp.cons {c : Cx} {G : Gm} {N : List En} {e : En} (h : e.on c) (k : Kp G N c) : Kp G (e :: N) c := fun i e' h' => by
  cases i with
  | inl i => cases i with
    | zero => cases h'; exact h
    | succ i => exact k (.inl i) e' h'
  | inr i => exact k (.inr i) e' h'
theorem Kp.on {c : Cx} {G : Gm} {N : List En} (h : Kp G N c) (k : Nat) {e : En} (hk : N[k]? = some e) : e.on c := h (.inl k) e hk
theorem Kp.gon {c : Cx} {G : Gm} {N : List En} (h : Kp G N c) {g k : Nat} {E : List En} (hE : G g k = E) (r : Nat) {e : En} (hr : E[r]? = some e) : e.on c := h (.inr (g, k, r)) e (by subst hE; exact hr)

/-- The unlisted operations that wait for i. -/
def waitg (ops : Array Oper) (li : List Bool) (i : Nat) (B : List Nat) : List Nat :=
  (List.range ops.size).filter fun j => !li.getD j true && !(j == i) && (ops[j]?).any fun o => o.after.any fun x => Region.binds .any x && ((x.on == i && !li.getD i true) || B.contains x.on)
def waits (ops : Array Oper) (li : List Bool) (i : Nat) : Nat → List Nat
  | 0 => []
  | n + 1 => waitg ops li i (waits ops li i n)
/-- Each of D is listed, or waits for i. -/
def okB (ops : Array Oper) (li : List Bool) (i : Nat) (D : List Nat) : Bool :=
  let B := waits ops li i ops.size
  B.all (fun j => !li.getD j true && !(j == i) && (ops[j]?).any fun o => o.after.any fun x => Region.binds .any x && (x.on == i || B.contains x.on)) && D.all fun j => li.getD j true || B.contains j

section
variable {P : Program} {ops : Array Oper} {n : Nat} {Q : Exit → (Nat → Value) → World → Prop} {D : List Nat} {K : Cx → Prop}

/-- Whatever order is picked from here on: Q at the end; each operation leads to a context behind, and, but for those of D, to one of K. -/
def AnyA (D : List Nat) (K : Cx → Prop) (P : Program) (ops : Array Oper) (Q : Exit → Act → World → Prop) : Nat → Array Bool → Act → Cx → Prop
  | 0, listed, a, c => Region.ready .any ops listed = [] ∧ Q .normal a c.w
  | fuel + 1, listed, a, c => (Region.ready .any ops listed = [] → Q .normal a c.w) ∧
    ∀ i ∈ Region.ready .any ops listed, wpOp P ops Q i (fun a' w => ∃ c', w = c'.w ∧ c.le c' ∧ (i ∈ D ∨ (K c → K c')) ∧ AnyA D K P ops Q fuel (listed.setIfInBounds i true) a' c') a c.w

theorem AnyA.sound {Q : Exit → Act → World → Prop} : ∀ (fuel : Nat) (listed : Array Bool) (a : Act) (c : Cx), AnyA D K P ops Q fuel listed a c → wpAny P .any ops Q fuel listed a c.w
  | 0, _, _, _, h => h
  | _ + 1, _, _, _, h => ⟨h.1, fun i hi => wpOp_mono (fun a w ⟨c', hw, _, _, h'⟩ => by subst hw; exact AnyA.sound _ _ _ _ h') (h.2 i hi)⟩

/-- In every context of Z behind c operation o leaves v, and nothing else. -/
def Yl (Z : Cx → Prop) (P : Program) (ops : Array Oper) (o : Oper) (v : Value) (a : Act) (c : Cx) : Prop :=
  (Region.wanted o (yielded ops a.tmps) = true ∧ ∀ c', c.le c' → Z c' → (execOp a.eval o).run P c'.w = .ok (.value v) c'.w) ∨
  (Region.wanted o (yielded ops a.tmps) = false ∧ v = undef)

theorem Yl.wpOp {Z : Cx → Prop} {i : Nat} {o : Oper} {v : Value} {a : Act} {c : Cx} (hz : Z c) (hi : ops[i]? = some o) (hy : Yl Z P ops o v a c) {Q : Exit → Act → World → Prop} {K : Act → World → Prop}
    (h : K (a.put o.dst v) c.w) : wpOp P ops Q i K a c.w := by
  unfold Go.wpOp
  simp only [hi]
  rcases hy with ⟨hw, hv⟩ | ⟨hw, rfl⟩
  · simp only [hw, if_true, Oper.wp, hv c (Cx.le.refl c) hz, Oper.upon]
    exact .inl h
  · simp only [hw, Bool.false_eq_true, if_false]
    exact h

/-- The operations of B wait for i. -/
def Wt (ops : Array Oper) (listed : Array Bool) (i : Nat) (B : List Nat) : Prop :=
  ∀ j ∈ B, listed.getD j true = false ∧ j ≠ i ∧ ∃ oj, ops[j]? = some oj ∧ ∃ x ∈ oj.after, Region.binds .any x = true ∧ (x.on = i ∨ x.on ∈ B)

theorem getD_list (l : List Bool) (j : Nat) : l.toArray.getD j true = l.getD j true := by simp [Array.getD_eq_getD_getElem?, List.getD_eq_getElem?_getD]
theorem okB_spec {l : List Oper} {li : List Bool} {i : Nat} {D : List Nat} (h : okB l.toArray li i D = true) : ∃ B, Wt l.toArray li.toArray i B ∧ ∀ j ∈ D, li.toArray.getD j true = true ∨ j ∈ B := by
  refine ⟨waits l.toArray li i l.toArray.size, fun j hj => ?_, fun j hj => ?_⟩
  · simp only [okB, Bool.and_eq_true, List.all_eq_true] at h
    have := h.1 j hj
    simp only [Bool.not_eq_true', beq_eq_false_iff_ne, ne_eq] at this
    obtain ⟨⟨h1, h2⟩, h3⟩ := this
    refine ⟨by rw [getD_list]; exact h1, h2, ?_⟩
    cases ho : l.toArray[j]? with
    | none => rw [ho] at h3; cases h3
    | some oj =>
      rw [ho] at h3
      simp only [Option.any_some, Array.any_eq_true', Bool.and_eq_true, Bool.or_eq_true, beq_iff_eq, List.contains_iff_mem] at h3
      obtain ⟨x, hx, hb, hon⟩ := h3
      exact ⟨oj, rfl, x, hx, hb, hon⟩
  · simp only [okB, Bool.and_eq_true, List.all_eq_true] at h
    have := h.2 j hj
    simp only [Bool.or_eq_true, List.contains_iff_mem] at this
    rw [getD_list]
    exact this

theorem AnyA.first {Q : Exit → Act → World → Prop} (hP : ∀ ch a w, ¬ Q (.panic ch) a w) (hO : ∀ a w, ¬ Q .outgrown a w) {i : Nat} {oi : Oper} {v : Value} (hi : ops[i]? = some oi)
    (hsel : ∀ (j : Nat) (o : Oper) cs b, ops[j]? = some o → o.op ≠ .select cs b) {Z : Cx → Prop} {B : List Nat} (hZ : (∀ c, Z c) ∨ Z = K) :
    ∀ (fuel : Nat) (listed : Array Bool) (a : Act) (c : Cx),
      (∀ j oj, ops[j]? = some oj → j ≠ i → listed.getD j true = false → (∀ x ∈ oj.after, Region.binds .any x = true → x.on ≠ i) → oi.apart ops oj = true) →
      Wt ops listed i B → ((∀ c, Z c) ∨ ∀ j ∈ D, listed.getD j true = true ∨ j ∈ B) → Z c →
      i ∈ Region.ready .any ops listed → Yl Z P ops oi v a c →
      AnyA D K P ops Q fuel (listed.setIfInBounds i true) (a.put oi.dst v) c → AnyA D K P ops Q (fuel + 1) listed a c := by
  have notB : ∀ (listed : Array Bool) j, Wt ops listed i B → i ∈ Region.ready .any ops listed → j ∈ Region.ready .any ops listed → j ∉ B := fun listed j hW hr hj hB => by
    obtain ⟨_, _, oj, hoj, x, hx, hb, hon⟩ := hW j hB
    obtain ⟨_, oj', hoj', hall⟩ := mem_ready.1 hj
    rw [hoj] at hoj'
    cases hoj'
    have h1 := hall x hx hb
    have h0 : listed.getD x.on true = false := by
      rcases hon with h | h
      · rw [h]; exact (mem_ready.1 hr).1
      · exact (hW _ h).1
    rcases Nat.lt_or_ge x.on listed.size with h' | h'
    · simp [h'] at h0 h1; rw [h0] at h1; cases h1
    · simp [Array.getElem?_eq_none h'] at h1
  intro fuel
  induction fuel with
  | zero =>
    intro listed a c _ hW hD hz hr hy H
    refine ⟨fun h => (by rw [h] at hr; cases hr), fun j hj => ?_⟩
    by_cases hji : j = i
    · subst hji; exact hy.wpOp hz hi ⟨c, rfl, Cx.le.refl c, .inr id, H⟩
    · have := ready_mono hj hji
      rw [H.1] at this
      cases this
  | succ fuel ih =>
    intro listed a c hfree hW hD hz hr hy H
    refine ⟨fun h => (by rw [h] at hr; cases hr), fun j hj => ?_⟩
    by_cases hji : j = i
    · subst hji; exact hy.wpOp hz hi ⟨c, rfl, Cx.le.refl c, .inr id, H⟩
    · have h1 := H.2 j (ready_mono hj hji)
      obtain ⟨hjun, oj, hoj, hall⟩ := mem_ready.1 hj
      have hnot : ∀ x ∈ oj.after, Region.binds .any x = true → x.on ≠ i := fun x hx hb heq => by
        have h1 := hall x hx hb
        have h0 := (mem_ready.1 hr).1
        rw [heq] at h1
        rcases Nat.lt_or_ge i listed.size with h' | h'
        · simp [h'] at h0 h1; rw [h0] at h1; cases h1
        · simp [Array.getElem?_eq_none h'] at h1
      obtain ⟨ha1, ha2, ha3⟩ := Oper.apart_spec (hfree j oj hoj hji hjun hnot)
      have hfree' : ∀ k ok, ops[k]? = some ok → k ≠ i → (listed.setIfInBounds j true).getD k true = false →
          (∀ x ∈ ok.after, Region.binds .any x = true → x.on ≠ i) → oi.apart ops ok = true := fun k ok hk hki hun hno => by
        refine hfree k ok hk hki ?_ hno
        by_cases hjk : j = k
        · subst hjk; exact hjun
        · rw [getD_set_ne true hjk] at hun; exact hun
      have hW' : Wt ops (listed.setIfInBounds j true) i B := fun k hk => by
        obtain ⟨h1, h2⟩ := hW k hk
        refine ⟨?_, h2⟩
        have hjk : j ≠ k := fun e => by subst e; exact notB listed j hW hr hj hk
        rw [getD_set_ne true hjk]
        exact h1
      have hD' : (∀ c, Z c) ∨ ∀ k ∈ D, (listed.setIfInBounds j true).getD k true = true ∨ k ∈ B := hD.imp id fun h k hk => by
        rcases h k hk with h | h
        · by_cases hjk : j = k
          · subst hjk; rw [hjun] at h; cases h
          · exact .inl (by rw [getD_set_ne true hjk]; exact h)
        · exact .inr h
      have keep : ∀ (b : Act), b.tmps = a.tmps → ∀ (u : Value) (c' : Cx), c.le c' → Yl Z P ops oi v (b.put oj.dst u) c' := fun b hb u c' hc => by
        have hbe : b.eval = a.eval := by funext x; cases x <;> simp [Act.eval, hb]
        have he : execOp (b.put oj.dst u).eval oi = execOp a.eval oi := hbe ▸ execOp_put oi (fun cs b => hsel i oi cs b hi) _ _ _ ha3
        have hw : Region.wanted oi (yielded ops (b.put oj.dst u).tmps) = Region.wanted oi (yielded ops a.tmps) := hb ▸ wanted_put oi _ _ _ ha3
        unfold Yl at hy ⊢
        rw [he, hw]
        exact hy.imp (fun ⟨h1, h2⟩ => ⟨h1, fun c'' h hz => h2 c'' (hc.trans h) hz⟩) id
      have fin : ∀ (b : Act), b.tmps = a.tmps → ∀ (u : Value) (w : World), (∃ c', w = c'.w ∧ c.le c' ∧ (j ∈ D ∨ (K c → K c')) ∧ AnyA D K P ops Q fuel ((listed.setIfInBounds i true).setIfInBounds j true) ((b.put oi.dst v).put oj.dst u) c') →
          ∃ c', w = c'.w ∧ c.le c' ∧ (j ∈ D ∨ (K c → K c')) ∧ AnyA D K P ops Q (fuel + 1) (listed.setIfInBounds j true) (b.put oj.dst u) c' := by
        rintro b hb u w ⟨c', rfl, hle, hk, h⟩
        have hz' : Z c' := by
          rcases hZ with h | h
          · exact h c'
          · rcases hD with h2 | h2
            · exact h2 c'
            · rcases hk with h3 | h3
              · rcases h2 j h3 with h4 | h4
                · rw [hjun] at h4; cases h4
                · exact absurd h4 (notB listed j hW hr hj)
              · subst h; exact h3 hz
        refine ⟨c', rfl, hle, hk, ih _ _ _ hfree' hW' hD' hz' (ready_mono hr (Ne.symm hji)) (keep b hb u c' hle) ?_⟩
        rw [Array.setIfInBounds_comm _ _ hji, ← Act.put_comm b v u ha2]
        exact h
      have he : execOp (a.put oi.dst v).eval oj = execOp a.eval oj := execOp_put oj (fun cs b => hsel j oj cs b hoj) _ _ _ ha1
      have hw : Region.wanted oj (yielded ops (a.put oi.dst v).tmps) = Region.wanted oj (yielded ops a.tmps) := wanted_put oj _ _ _ ha1
      unfold Go.wpOp at h1 ⊢
      simp only [hoj] at h1 ⊢
      rw [hw] at h1
      split
      · rename_i hww
        rw [if_pos hww] at h1
        rcases h1 with h1 | ⟨_, a0, w0, h2⟩
        · refine .inl ?_
          unfold Oper.wp at h1 ⊢
          rw [he] at h1
          generalize (execOp a.eval oj).run P c.w = r at h1 ⊢
          unfold Oper.upon at h1 ⊢
          split at h1
          · exact fin a rfl _ _ h1
          · exact fin a rfl _ _ h1
          · rw [Act.put_defers] at h1; exact fin { a with defers := _ :: a.defers } rfl _ _ h1
          · refine h1.mono ?_
            intro x w' hx
            cases x with
            | returned u => exact fin a rfl _ _ hx
            | panicked ch => exact absurd hx (hP _ _ _)
            | outgrown => obtain ⟨a1, w1, h3⟩ := hx; exact absurd h3 (hO _ _)
          · exact h1.mono fun u w' hv => fin a rfl _ _ hv
          · exact absurd h1 (hP _ _ _)
          · exact h1.elim
        · exact absurd h2 (hO _ _)
      · rename_i hww
        rw [if_neg hww] at h1
        exact fin a rfl _ _ h1

/-! ### the moves -/
def AC (D : List Nat) (K : Cx → Prop) (P : Program) (l : List Oper) (n : Nat) (Q : Exit → (Nat → Value) → World → Prop) (fuel : Nat) (li : List Bool) (e : Nat → Value) (c : Cx) : Prop :=
  AnyA D K P l.toArray (lift n Q) fuel li.toArray (act n e) c

theorem Cx.drew_le (c : Cx) : c.but (fun _ => False) ⟨c.w.drew, c.A, c.t⟩ := ⟨⟨rfl, rfl, Nat.le_refl _, fun _ _ _ h => ⟨rfl, h⟩, fun _ _ _ => rfl, fun _ _ _ => rfl, fun _ _ _ h => h⟩, rfl, fun _ _ _ => ⟨rfl, fun _ => Iff.rfl⟩⟩

theorem W.regionD (D : List Nat) (K : Cx → Prop) {id : Nat} {l : List Oper} {e : Nat → Value} {c : Cx} {G : Gm} {F : List En} (O : Own c G F) (hm : P.follows .mixedOrders = true)
    (h : ∀ c', c.le c' → Own c' G F → AC D K P l n Q l.length (List.replicate l.length false) e c') : W P n (.region id l.toArray true) Q e c.w :=
  wp_region_any hm (by
    have := AnyA.sound _ _ _ _ (h _ (Cx.drew_le c).le (O.keep (Cx.drew_le c)))
    rw [show (List.replicate l.length false).toArray = Array.replicate l.toArray.size false by simp] at this
    exact this)

variable {l : List Oper} {fuel : Nat} {li : List Bool} {e : Nat → Value} {c : Cx} {o : Oper}

theorem AC.take0 {Z : Cx → Prop} {B : List Nat} (hZ : (∀ c, Z c) ∨ Z = K) {i : Nat} {v : Value} (hi : l.toArray[i]? = some o) (hs : Region.noSelect l.toArray = true) (hf : Region.free .any l.toArray li.toArray i = true)
    (hr : (Region.ready .any l.toArray li.toArray).contains i = true) (hB : Wt l.toArray li.toArray i B) (hD : (∀ c, Z c) ∨ ∀ j ∈ D, li.toArray.getD j true = true ∨ j ∈ B) (hz : Z c) (hy : Yl Z P l.toArray o v (act n e) c)
    (h : AC D K P l n Q fuel (li.set i true) (upO e o.dst v) c) : AC D K P l n Q (fuel + 1) li e c := by
  refine AnyA.first (fun ch a w h => h.1) (fun a w h => h.1) hi (Region.noSelect_spec hs) hZ fuel _ _ c (Region.free_spec hi hf) hB hD hz (by simpa using hr) hy ?_
  rw [act_put]
  simpa [AC] using h

/-- It may be taken first: noSelect, free, ready, slots, wanted. -/
def tk (l : List Oper) (n : Nat) (li : List Bool) (i : Nat) : Bool :=
  Region.noSelect l.toArray && Region.free .any l.toArray li.toArray i && (Region.ready .any l.toArray li.toArray).contains i && slotsIn n l

theorem AC.take (i : Nat) (v : Value) (hi : l.toArray[i]? = some o) (ht : tk l n li i = true) (hw : wants l.toArray n e o = true)
    (hy : ∀ c', c.le c' → (execOp (ev n e) o).run P c'.w = .ok (.value v) c'.w) (h : AC D K P l n Q fuel (li.set i true) (upO e o.dst v) c) : AC D K P l n Q (fuel + 1) li e c := by
  simp only [tk, Bool.and_eq_true] at ht
  exact AC.take0 (Z := fun _ => True) (B := []) (.inl fun _ => trivial) hi ht.1.1.1 ht.1.1.2 ht.1.2 (fun j hj => by simp at hj) (.inl fun _ => trivial) trivial (.inl ⟨by rw [wants_eq _ _ _ _ (slotsIn_spec ht.2)]; exact hw, by rw [act_eval]; exact fun c' hc _ => hy c' hc⟩) h
theorem AC.takeb (i : Nat) {t b : Bool} (htb : t = b) (hi : l.toArray[i]? = some o) (ht : tk l n li i = true) (hw : wants l.toArray n e o = true)
    (hy : ∀ c', c.le c' → (execOp (ev n e) o).run P c'.w = .ok (.value (.bool t)) c'.w) (h : AC D K P l n Q fuel (li.set i true) (upO e o.dst (.bool b)) c) : AC D K P l n Q (fuel + 1) li e c := by
  subst htb
  exact AC.take i _ hi ht hw hy h
/-- What is loaded from what is held on to. -/
theorem AC.takeK (i : Nat) (v : Value) (hk : K c) (hi : l.toArray[i]? = some o) (ht : tk l n li i = true) (hB : okB l.toArray li i D = true) (hw : wants l.toArray n e o = true)
    (hy : ∀ c', c.le c' → K c' → (execOp (ev n e) o).run P c'.w = .ok (.value v) c'.w) (h : AC D K P l n Q fuel (li.set i true) (upO e o.dst v) c) : AC D K P l n Q (fuel + 1) li e c := by
  simp only [tk, Bool.and_eq_true] at ht
  obtain ⟨B, h1, h2⟩ := okB_spec hB
  exact AC.take0 (Z := K) (B := B) (.inr rfl) hi ht.1.1.1 ht.1.1.2 ht.1.2 h1 (.inr h2) hk (.inl ⟨by rw [wants_eq _ _ _ _ (slotsIn_spec ht.2)]; exact hw, by rw [act_eval]; exact hy⟩) h
theorem AC.takeKb (i : Nat) {t b : Bool} (htb : t = b) (hk : K c) (hi : l.toArray[i]? = some o) (ht : tk l n li i = true) (hB : okB l.toArray li i D = true) (hw : wants l.toArray n e o = true)
    (hy : ∀ c', c.le c' → K c' → (execOp (ev n e) o).run P c'.w = .ok (.value (.bool t)) c'.w) (h : AC D K P l n Q fuel (li.set i true) (upO e o.dst (.bool b)) c) : AC D K P l n Q (fuel + 1) li e c := by
  subst htb
  exact AC.takeK i _ hk hi ht hB hw hy h
theorem AC.pass (i : Nat) (hi : l.toArray[i]? = some o) (ht : tk l n li i = true) (hw : wants l.toArray n e o = false)
    (h : AC D K P l n Q fuel (li.set i true) (upO e o.dst undef) c) : AC D K P l n Q (fuel + 1) li e c := by
  simp only [tk, Bool.and_eq_true] at ht
  exact AC.take0 (Z := fun _ => True) (B := []) (.inl fun _ => trivial) hi ht.1.1.1 ht.1.1.2 ht.1.2 (fun j hj => by simp at hj) (.inl fun _ => trivial) trivial (.inr ⟨by rw [wants_eq _ _ _ _ (slotsIn_spec ht.2)]; exact hw, rfl⟩) h

/-- One of the operations that are ready, by itself. -/
def Go1 (D : List Nat) (K : Cx → Prop) (P : Program) (l : List Oper) (n : Nat) (Q : Exit → (Nat → Value) → World → Prop) (fuel : Nat) (li : List Bool) (e : Nat → Value) (c : Cx) (i : Nat) : Prop :=
  wpOp P l.toArray (lift n Q) i (fun a' w => ∃ c', w = c'.w ∧ c.le c' ∧ (i ∈ D ∨ (K c → K c')) ∧ AnyA D K P l.toArray (lift n Q) fuel (li.toArray.setIfInBounds i true) a' c') (act n e) c.w
def allG (p : Nat → Prop) : List Nat → Prop
  | [] => True
  | i :: l => p i ∧ allG p l
theorem allG.mem {p : Nat → Prop} : ∀ {l : List Nat}, allG p l → ∀ i ∈ l, p i
  | [], _, i, hi => by cases hi
  | a :: l, h, i, hi => by
    rcases List.mem_cons.1 hi with rfl | hi
    · exact h.1
    · exact h.2.mem i hi
theorem AC.many (is : List Nat) (hne : is ≠ []) (hr : Region.ready .any l.toArray li.toArray = is) (h : allG (Go1 D K P l n Q fuel li e c) is) : AC D K P l n Q (fuel + 1) li e c :=
  ⟨fun h0 => (by rw [hr] at h0; exact absurd h0 hne), fun j hj => h.mem j (hr ▸ hj)⟩

theorem Go1.mk {i : Nat} (hi : l.toArray[i]? = some o) (hsl : slotsIn n l = true) (hw : wants l.toArray n e o = true)
    (h : o.wp P (act n e) c.w (fun a w => ∃ e' c', a = act n e' ∧ w = c'.w ∧ c.le c' ∧ (i ∈ D ∨ (K c → K c')) ∧ AC D K P l n Q fuel (li.set i true) e' c') (lift n Q)) : Go1 D K P l n Q fuel li e c i := by
  unfold Go1 wpOp
  simp only [hi]
  rw [if_pos (by rw [wants_eq _ _ _ _ (slotsIn_spec hsl)]; exact hw)]
  refine .inl (Oper.wp_mono ?_ h)
  rintro a w ⟨e', c', rfl, rfl, hle, hk, h'⟩
  exact ⟨c', rfl, hle, hk, by simpa [AC] using h'⟩
theorem Go1.val {i : Nat} {v : Value} {c' : Cx} (hi : l.toArray[i]? = some o) (hsl : slotsIn n l = true) (hw : wants l.toArray n e o = true)
    (hrun : (execOp (ev n e) o).run P c.w = .ok (.value v) c'.w) (hle : c.le c') (hk : D.contains i = true ∨ K c') (h : AC D K P l n Q fuel (li.set i true) (upO e o.dst v) c') : Go1 D K P l n Q fuel li e c i :=
  Go1.mk hi hsl hw (by
    simp only [Oper.wp, act_eval, hrun, Oper.upon]
    exact ⟨_, c', act_put _ _ _ _, rfl, hle, hk.imp (by simp) fun h _ => h, h⟩)
theorem Go1.do_ {i : Nat} {c' : Cx} (hi : l.toArray[i]? = some o) (hsl : slotsIn n l = true) (hw : wants l.toArray n e o = true)
    (hrun : (execOp (ev n e) o).run P c.w = .ok .skip c'.w) (hle : c.le c') (hk : D.contains i = true ∨ K c') (h : AC D K P l n Q fuel (li.set i true) (upO e o.dst undef) c') : Go1 D K P l n Q fuel li e c i :=
  Go1.mk hi hsl hw (by
    simp only [Oper.wp, act_eval, hrun, Oper.upon]
    exact ⟨_, c', act_put _ _ _ _, rfl, hle, hk.imp (by simp) fun h _ => h, h⟩)
theorem Go1.call {i : Nat} {f : FuncId} {args : Array Value} {X : Cx → Value → Prop} (hi : l.toArray[i]? = some o) (hsl : slotsIn n l = true) (hw : wants l.toArray n e o = true)
    (hrun : (execOp (ev n e) o).run P c.w = .ok (.enter f args) c.w) (hc : Calls P f args c.w (Post c X))
    (h : ∀ v c', c.le c' → X c' v → (D.contains i = true ∨ K c') ∧ AC D K P l n Q fuel (li.set i true) (upO e o.dst v) c') : Go1 D K P l n Q fuel li e c i :=
  Go1.mk hi hsl hw (by
    simp only [Oper.wp, act_eval, hrun, Oper.upon]
    refine hc.mono ?_
    rintro x w ⟨v, c', rfl, rfl, hx, hX⟩
    have := h v c' hx hX
    exact ⟨_, c', act_put _ _ _ _, rfl, hx, this.1.imp (by simp) fun h _ => h, this.2⟩)

theorem AC.done (hr : Region.ready .any l.toArray li.toArray = []) (h : Q .normal e c.w) : AC D K P l n Q fuel li e c := by
  cases fuel with
  | zero => exact ⟨hr, trivial, e, rfl, h⟩
  | succ k => exact ⟨fun _ => ⟨trivial, e, rfl, h⟩, by rw [hr]; simp⟩

/-- The same world, told of by another context. -/
theorem AC.gh {c' : Cx} (hw : c'.w = c.w) (hA : c.le c') (hk : K c → K c') (h : AC D K P l n Q fuel li e c') : AC D K P l n Q fuel li e c := by
  have key : ∀ (fuel : Nat) (listed : Array Bool) (a : Act), AnyA D K P l.toArray (lift n Q) fuel listed a c' → AnyA D K P l.toArray (lift n Q) fuel listed a c := fun fuel listed a h => by
    cases fuel with
    | zero => exact ⟨h.1, by rw [← hw]; exact h.2⟩
    | succ fuel =>
      refine ⟨fun h0 => by rw [← hw]; exact h.1 h0, fun i hi => ?_⟩
      have := h.2 i hi
      rw [hw] at this
      exact wpOp_mono (fun a w ⟨c2, h1, h2, h3, h4⟩ => ⟨c2, h1, hA.trans h2, h3.imp id fun h5 h6 => h5 (hk h6), h4⟩) this
  exact key _ _ _ h

theorem Kp.gh {c c' : Cx} {G : Gm} {N : List En} (h : Kp G N c) (e : c'.w = c.w ∧ c'.A = c.A) : Kp G N c' := fun i en hi b hb => by
  have := h i en hi b hb
  rw [e.1, e.2]; exact this
theorem AC.gh2 {c' : Cx} {G : Gm} {N : List En} (e' : c'.w = c.w ∧ c'.A = c.A) (hA : c.le c') (h : AC D (Kp G N) P l n Q fuel li e c') : AC D (Kp G N) P l n Q fuel li e c := AC.gh e'.1 hA (fun k => k.gh e') h
theorem Go1.gh {i : Nat} {c' : Cx} (hw : c'.w = c.w) (hA : c.le c') (hk : K c → K c') (h : Go1 D K P l n Q fuel li e c' i) : Go1 D K P l n Q fuel li e c i := by
  unfold Go1 at h ⊢
  rw [hw] at h
  exact wpOp_mono (fun a w ⟨c2, h1, h2, h3, h4⟩ => ⟨c2, h1, hA.trans h2, h3.imp id fun h5 h6 => h5 (hk h6), h4⟩) h
theorem Go1.gh2 {i : Nat} {c' : Cx} {G : Gm} {N : List En} (e' : c'.w = c.w ∧ c'.A = c.A) (hA : c.le c') (h : Go1 D (Kp G N) P l n Q fuel li e c' i) : Go1 D (Kp G N) P l n Q fuel li e c i := Go1.gh e'.1 hA (fun k => k.gh e') h
theorem WL.callP {ops : Array Oper} {rest : List Oper} {f : FuncId} {args : Array Value} {X : Cx → Value → Prop} (hg : o.guard = none) (hr : (execOp (ev n e) o).run P c.w = .ok (.enter f args) c.w)
    (hc : Calls P f args c.w (Post c X)) (h : ∀ v c', c.le c' → X c' v → WL P ops n Q rest (upO e o.dst v) c'.w) : WL P ops n Q (o :: rest) e c.w :=
  WL.call hg hr (hc.mono fun x w ⟨v, c', h1, h2, h3, h4⟩ => ⟨v, h1, by subst h2; exact h v c' h3 h4⟩)
theorem WL.gh {ops : Array Oper} {rest : List Oper} {c' : Cx} (hw : c'.w = c.w) (h : WL P ops n Q rest e c'.w) : WL P ops n Q rest e c.w := hw ▸ h
theorem W.gh {b : Code} {c' : Cx} (hw : c'.w = c.w) (h : W P n b Q e c'.w) : W P n b Q e c.w := hw ▸ h
end
end Go.Lt
