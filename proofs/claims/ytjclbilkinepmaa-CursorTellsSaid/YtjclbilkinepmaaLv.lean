/-
  Regions that draw their order, in our own walk kit: an operation that yields its value in whatever later context may be taken first. No condition; nothing of any program stands here.
-/
import Derived.Test.YtjclbilkinepmaaLu
namespace Go.Lt

theorem fnil {p : Nat → Prop} : ∀ x ∈ ([] : List Nat), p x := fun _ h => by cases h
theorem fcons {p : Nat → Prop} {b : Nat} {l : List Nat} (h : p b) (t : ∀ x ∈ l, p x) : ∀ x ∈ b :: l, p x := fun x hx => by
  rcases List.mem_cons.1 hx with rfl | hx
  · exact h
  · exact t x hx

/-- What a call of a Go function leaves: its value, in a context behind. -/
def Post (c : Cx) (X : Cx → Value → Prop) : Ending → World → Prop := fun x w => ∃ v c', x = .returned v ∧ w = c'.w ∧ c.ext c' ∧ X c' v

/-- Behind c, and the blocks Bs as they were. -/
def Cx.leB (Bs : List Nat) (c c' : Cx) : Prop := c.le c' ∧ ∀ b ∈ Bs, c'.w.heap[b]? = c.w.heap[b]?
theorem Cx.leB.refl (Bs : List Nat) (c : Cx) : c.leB Bs c := ⟨Cx.le.refl c, fun _ _ => rfl⟩
theorem Cx.leB.trans {Bs : List Nat} {a b c : Cx} (h : a.leB Bs b) (k : b.leB Bs c) : a.leB Bs c := ⟨h.1.trans k.1, fun i hi => (k.2 i hi).trans (h.2 i hi)⟩

section
variable {P : Program} {ops : Array Oper} {n : Nat} {Q : Exit → (Nat → Value) → World → Prop} {Bs : List Nat}

/-- Whatever order is picked from here on: Q at the end; each operation leads to a context behind. -/
def AnyA (Bs : List Nat) (P : Program) (ops : Array Oper) (Q : Exit → Act → World → Prop) : Nat → Array Bool → Act → Cx → Prop
  | 0, listed, a, c => Region.ready .any ops listed = [] ∧ Q .normal a c.w
  | fuel + 1, listed, a, c => (Region.ready .any ops listed = [] → Q .normal a c.w) ∧
    ∀ i ∈ Region.ready .any ops listed, wpOp P ops Q i (fun a' w => ∃ c', w = c'.w ∧ c.leB Bs c' ∧ AnyA Bs P ops Q fuel (listed.setIfInBounds i true) a' c') a c.w

theorem AnyA.sound {Q : Exit → Act → World → Prop} : ∀ (fuel : Nat) (listed : Array Bool) (a : Act) (c : Cx), AnyA Bs P ops Q fuel listed a c → wpAny P .any ops Q fuel listed a c.w
  | 0, _, _, _, h => h
  | _ + 1, _, _, _, h => ⟨h.1, fun i hi => wpOp_mono (fun a w ⟨c', hw, _, h'⟩ => by subst hw; exact AnyA.sound _ _ _ _ h') (h.2 i hi)⟩

/-- In every context behind c operation o leaves v, and nothing else. -/
def Yl (Bs : List Nat) (P : Program) (ops : Array Oper) (o : Oper) (v : Value) (a : Act) (c : Cx) : Prop :=
  (Region.wanted o (yielded ops a.tmps) = true ∧ ∀ c', c.leB Bs c' → (execOp a.eval o).run P c'.w = .ok (.value v) c'.w) ∨
  (Region.wanted o (yielded ops a.tmps) = false ∧ v = undef)

theorem Yl.wpOp {i : Nat} {o : Oper} {v : Value} {a : Act} {c : Cx} (hi : ops[i]? = some o) (hy : Yl Bs P ops o v a c) {Q : Exit → Act → World → Prop} {K : Act → World → Prop}
    (h : K (a.put o.dst v) c.w) : wpOp P ops Q i K a c.w := by
  unfold Go.wpOp
  simp only [hi]
  rcases hy with ⟨hw, hv⟩ | ⟨hw, rfl⟩
  · simp only [hw, if_true, Oper.wp, hv c (Cx.leB.refl Bs c), Oper.upon]
    exact .inl h
  · simp only [hw, Bool.false_eq_true, if_false]
    exact h

theorem AnyA.first {Q : Exit → Act → World → Prop} (hP : ∀ ch a w, ¬ Q (.panic ch) a w) (hO : ∀ a w, ¬ Q .outgrown a w) {i : Nat} {oi : Oper} {v : Value} (hi : ops[i]? = some oi)
    (hsel : ∀ (j : Nat) (o : Oper) cs b, ops[j]? = some o → o.op ≠ .select cs b) :
    ∀ (fuel : Nat) (listed : Array Bool) (a : Act) (c : Cx),
      (∀ j oj, ops[j]? = some oj → j ≠ i → listed.getD j true = false → (∀ x ∈ oj.after, Region.binds .any x = true → x.on ≠ i) → oi.apart ops oj = true) →
      i ∈ Region.ready .any ops listed → Yl Bs P ops oi v a c →
      AnyA Bs P ops Q fuel (listed.setIfInBounds i true) (a.put oi.dst v) c → AnyA Bs P ops Q (fuel + 1) listed a c := by
  intro fuel
  induction fuel with
  | zero =>
    intro listed a c _ hr hy H
    refine ⟨fun h => (by rw [h] at hr; cases hr), fun j hj => ?_⟩
    by_cases hji : j = i
    · subst hji; exact hy.wpOp hi ⟨c, rfl, Cx.leB.refl Bs c, H⟩
    · have := ready_mono hj hji
      rw [H.1] at this
      cases this
  | succ fuel ih =>
    intro listed a c hfree hr hy H
    refine ⟨fun h => (by rw [h] at hr; cases hr), fun j hj => ?_⟩
    by_cases hji : j = i
    · subst hji; exact hy.wpOp hi ⟨c, rfl, Cx.leB.refl Bs c, H⟩
    · have h1 := H.2 j (ready_mono hj hji)
      obtain ⟨hjun, oj, hoj, hall⟩ := mem_ready.1 hj
      have hnot : ∀ x ∈ oj.after, Region.binds .any x = true → x.on ≠ i := fun x hx hb heq => by
        have h1 := hall x hx hb
        have h0 := (mem_ready.1 hr).1
        rw [heq] at h1
        rcases Nat.lt_or_ge i listed.size with h' | h'
        · simp [h'] at h0 h1; rw [h0] at h1; cases h1
        · simp [Array.getElem?_eq_none h'] at h1
      obtain ⟨ha1, ha2, ha3⟩ := Oper.apart_spec (hfree j oj hoj hji hjun hnot)
      have hfree' : ∀ k ok, ops[k]? = some ok → k ≠ i → (listed.setIfInBounds j true).getD k true = false →
          (∀ x ∈ ok.after, Region.binds .any x = true → x.on ≠ i) → oi.apart ops ok = true := fun k ok hk hki hun hno => by
        refine hfree k ok hk hki ?_ hno
        by_cases hjk : j = k
        · subst hjk; exact hjun
        · rw [getD_set_ne true hjk] at hun; exact hun
      have keep : ∀ (b : Act), b.tmps = a.tmps → ∀ (u : Value) (c' : Cx), c.leB Bs c' → Yl Bs P ops oi v (b.put oj.dst u) c' := fun b hb u c' hc => by
        have hbe : b.eval = a.eval := by funext x; cases x <;> simp [Act.eval, hb]
        have he : execOp (b.put oj.dst u).eval oi = execOp a.eval oi := hbe ▸ execOp_put oi (fun cs b => hsel i oi cs b hi) _ _ _ ha3
        have hw : Region.wanted oi (yielded ops (b.put oj.dst u).tmps) = Region.wanted oi (yielded ops a.tmps) := hb ▸ wanted_put oi _ _ _ ha3
        unfold Yl at hy ⊢
        rw [he, hw]
        exact hy.imp (fun ⟨h1, h2⟩ => ⟨h1, fun c'' h => h2 c'' (hc.trans h)⟩) id
      have fin : ∀ (b : Act), b.tmps = a.tmps → ∀ (u : Value) (w : World), (∃ c', w = c'.w ∧ c.leB Bs c' ∧ AnyA Bs P ops Q fuel ((listed.setIfInBounds i true).setIfInBounds j true) ((b.put oi.dst v).put oj.dst u) c') →
          ∃ c', w = c'.w ∧ c.leB Bs c' ∧ AnyA Bs P ops Q (fuel + 1) (listed.setIfInBounds j true) (b.put oj.dst u) c' := by
        rintro b hb u w ⟨c', rfl, hle, h⟩
        refine ⟨c', rfl, hle, ih _ _ _ hfree' (ready_mono hr (Ne.symm hji)) (keep b hb u c' hle) ?_⟩
        rw [Array.setIfInBounds_comm _ _ hji, ← Act.put_comm b v u ha2]
        exact h
      have he : execOp (a.put oi.dst v).eval oj = execOp a.eval oj := execOp_put oj (fun cs b => hsel j oj cs b hoj) _ _ _ ha1
      have hw : Region.wanted oj (yielded ops (a.put oi.dst v).tmps) = Region.wanted oj (yielded ops a.tmps) := wanted_put oj _ _ _ ha1
      unfold Go.wpOp at h1 ⊢
      simp only [hoj] at h1 ⊢
      rw [hw] at h1
      split
      · rename_i hww
        rw [if_pos hww] at h1
        rcases h1 with h1 | ⟨_, a0, w0, h2⟩
        · refine .inl ?_
          unfold Oper.wp at h1 ⊢
          rw [he] at h1
          generalize (execOp a.eval oj).run P c.w = r at h1 ⊢
          unfold Oper.upon at h1 ⊢
          split at h1
          · exact fin a rfl _ _ h1
          · exact fin a rfl _ _ h1
          · rw [Act.put_defers] at h1; exact fin { a with defers := _ :: a.defers } rfl _ _ h1
          · refine h1.mono ?_
            intro x w' hx
            cases x with
            | returned u => exact fin a rfl _ _ hx
            | panicked ch => exact absurd hx (hP _ _ _)
            | outgrown => obtain ⟨a1, w1, h3⟩ := hx; exact absurd h3 (hO _ _)
          · exact h1.mono fun u w' hv => fin a rfl _ _ hv
          · exact absurd h1 (hP _ _ _)
          · exact h1.elim
        · exact absurd h2 (hO _ _)
      · rename_i hww
        rw [if_neg hww] at h1
        exact fin a rfl _ _ h1

/-! ### the moves -/
def AC (Bs : List Nat) (P : Program) (l : List Oper) (n : Nat) (Q : Exit → (Nat → Value) → World → Prop) (fuel : Nat) (li : List Bool) (e : Nat → Value) (c : Cx) : Prop :=
  AnyA Bs P l.toArray (lift n Q) fuel li.toArray (act n e) c

theorem W.regionD (Bs : List Nat) {id : Nat} {l : List Oper} {e : Nat → Value} {c : Cx} (hm : P.follows .mixedOrders = true)
    (h : AC Bs P l n Q l.length (List.replicate l.length false) e c.drew) : W P n (.region id l.toArray true) Q e c.w :=
  wp_region_any hm (by
    have := AnyA.sound _ _ _ _ h
    rw [show (List.replicate l.length false).toArray = Array.replicate l.toArray.size false by simp] at this
    exact this)

variable {l : List Oper} {fuel : Nat} {li : List Bool} {e : Nat → Value} {c : Cx} {o : Oper}

theorem AC.take0 {i : Nat} {v : Value} (hi : l.toArray[i]? = some o) (hs : Region.noSelect l.toArray = true) (hf : Region.free .any l.toArray li.toArray i = true)
    (hr : (Region.ready .any l.toArray li.toArray).contains i = true) (hy : Yl Bs P l.toArray o v (act n e) c) (h : AC Bs P l n Q fuel (li.set i true) (upO e o.dst v) c) : AC Bs P l n Q (fuel + 1) li e c := by
  refine AnyA.first (fun ch a w h => h.1) (fun a w h => h.1) hi (Region.noSelect_spec hs) fuel _ _ c (Region.free_spec hi hf) (by simpa using hr) hy ?_
  rw [act_put]
  simpa [AC] using h

theorem AC.take (i : Nat) (v : Value) (hi : l.toArray[i]? = some o) (hs : Region.noSelect l.toArray = true) (hf : Region.free .any l.toArray li.toArray i = true)
    (hr : (Region.ready .any l.toArray li.toArray).contains i = true) (hsl : slotsIn n l = true) (hw : wants l.toArray n e o = true)
    (hy : ∀ c', c.leB Bs c' → (execOp (ev n e) o).run P c'.w = .ok (.value v) c'.w) (h : AC Bs P l n Q fuel (li.set i true) (upO e o.dst v) c) : AC Bs P l n Q (fuel + 1) li e c :=
  AC.take0 hi hs hf hr (.inl ⟨by rw [wants_eq _ _ _ _ (slotsIn_spec hsl)]; exact hw, by rw [act_eval]; exact hy⟩) h
theorem AC.takeb (i : Nat) {t b : Bool} (ht : t = b) (hi : l.toArray[i]? = some o) (hs : Region.noSelect l.toArray = true) (hf : Region.free .any l.toArray li.toArray i = true)
    (hr : (Region.ready .any l.toArray li.toArray).contains i = true) (hsl : slotsIn n l = true) (hw : wants l.toArray n e o = true)
    (hy : ∀ c', c.leB Bs c' → (execOp (ev n e) o).run P c'.w = .ok (.value (.bool t)) c'.w) (h : AC Bs P l n Q fuel (li.set i true) (upO e o.dst (.bool b)) c) : AC Bs P l n Q (fuel + 1) li e c := by
  subst ht
  exact AC.take i _ hi hs hf hr hsl hw hy h
theorem AC.pass (i : Nat) (hi : l.toArray[i]? = some o) (hs : Region.noSelect l.toArray = true) (hf : Region.free .any l.toArray li.toArray i = true)
    (hr : (Region.ready .any l.toArray li.toArray).contains i = true) (hsl : slotsIn n l = true) (hw : wants l.toArray n e o = false)
    (h : AC Bs P l n Q fuel (li.set i true) (upO e o.dst undef) c) : AC Bs P l n Q (fuel + 1) li e c :=
  AC.take0 hi hs hf hr (.inr ⟨by rw [wants_eq _ _ _ _ (slotsIn_spec hsl)]; exact hw, rfl⟩) h

theorem AC.one {i : Nat} (hr : Region.ready .any l.toArray li.toArray = [i]) (hi : l.toArray[i]? = some o) (hsl : slotsIn n l = true) (hw : wants l.toArray n e o = true)
    (h : o.wp P (act n e) c.w (fun a w => ∃ e' c', a = act n e' ∧ w = c'.w ∧ c.leB Bs c' ∧ AC Bs P l n Q fuel (li.set i true) e' c') (lift n Q)) : AC Bs P l n Q (fuel + 1) li e c := by
  refine ⟨fun h0 => (by rw [hr] at h0; cases h0), fun j hj => ?_⟩
  rw [hr] at hj
  obtain rfl : j = i := by simpa using hj
  unfold wpOp
  simp only [hi]
  rw [if_pos (by rw [wants_eq _ _ _ _ (slotsIn_spec hsl)]; exact hw)]
  refine .inl (Oper.wp_mono ?_ h)
  rintro a w ⟨e', c', rfl, rfl, hle, h'⟩
  exact ⟨c', rfl, hle, by simpa [AC] using h'⟩

theorem AC.oneCall (i : Nat) {f : FuncId} {args : Array Value} {X : Cx → Value → Prop} (hr : Region.ready .any l.toArray li.toArray = [i]) (hi : l.toArray[i]? = some o) (hsl : slotsIn n l = true) (hw : wants l.toArray n e o = true)
    (hrun : (execOp (ev n e) o).run P c.w = .ok (.enter f args) c.w) (hc : Calls P f args c.w (Post c X))
    (hB : ∀ b ∈ Bs, b < c.w.heap.size)
    (h : ∀ v c', c.ext c' → X c' v → AC Bs P l n Q fuel (li.set i true) (upO e o.dst v) c') : AC Bs P l n Q (fuel + 1) li e c :=
  AC.one hr hi hsl hw (by
    simp only [Oper.wp, act_eval, hrun, Oper.upon]
    refine hc.mono ?_
    rintro x w ⟨v, c', rfl, rfl, hx, hX⟩
    exact ⟨_, c', act_put _ _ _ _, rfl, ⟨hx.le, fun b hb => hx.block b (hB b hb)⟩, h v c' hx hX⟩)
theorem AC.oneVal (i : Nat) {v : Value} {c' : Cx} (hr : Region.ready .any l.toArray li.toArray = [i]) (hi : l.toArray[i]? = some o) (hsl : slotsIn n l = true) (hw : wants l.toArray n e o = true)
    (hrun : (execOp (ev n e) o).run P c.w = .ok (.value v) c'.w) (hle : c.leB Bs c') (h : AC Bs P l n Q fuel (li.set i true) (upO e o.dst v) c') : AC Bs P l n Q (fuel + 1) li e c :=
  AC.one hr hi hsl hw (by
    simp only [Oper.wp, act_eval, hrun, Oper.upon]
    exact ⟨_, c', act_put _ _ _ _, rfl, hle, h⟩)
theorem AC.oneDo (i : Nat) {c' : Cx} (hr : Region.ready .any l.toArray li.toArray = [i]) (hi : l.toArray[i]? = some o) (hsl : slotsIn n l = true) (hw : wants l.toArray n e o = true)
    (hrun : (execOp (ev n e) o).run P c.w = .ok .skip c'.w) (hle : c.leB Bs c') (h : AC Bs P l n Q fuel (li.set i true) (upO e o.dst undef) c') : AC Bs P l n Q (fuel + 1) li e c :=
  AC.one hr hi hsl hw (by
    simp only [Oper.wp, act_eval, hrun, Oper.upon]
    exact ⟨_, c', act_put _ _ _ _, rfl, hle, h⟩)
theorem AC.done (hr : Region.ready .any l.toArray li.toArray = []) (h : Q .normal e c.w) : AC Bs P l n Q fuel li e c := by
  cases fuel with
  | zero => exact ⟨hr, trivial, e, rfl, h⟩
  | succ k => exact ⟨fun _ => ⟨trivial, e, rfl, h⟩, by rw [hr]; simp⟩

theorem WL.callP {ops : Array Oper} {rest : List Oper} {f : FuncId} {args : Array Value} {X : Cx → Value → Prop} (hg : o.guard = none) (hr : (execOp (ev n e) o).run P c.w = .ok (.enter f args) c.w)
    (hc : Calls P f args c.w (Post c X)) (h : ∀ v c', c.ext c' → X c' v → WL P ops n Q rest (upO e o.dst v) c'.w) : WL P ops n Q (o :: rest) e c.w :=
  WL.call hg hr (hc.mono fun x w ⟨v, c', h1, h2, h3, h4⟩ => ⟨v, h1, by subst h2; exact h v c' h3 h4⟩)
end
end Go.Lt
