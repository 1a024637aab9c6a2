/-
  The control part of our own walk kit: code run over an environment that is a function from slots to values; contexts (a world and the cells that may still be written) and what of them stays. No condition; nothing of any program stands here.
-/
import Derived.WalkKit
import Derived.KernelRfl
namespace Go.Lt

/-! ### environments -/
def act (n : Nat) (e : Nat → Value) : Act := { tmps := ((List.range n).map e).toArray, defers := [] }
def ev (n : Nat) (e : Nat → Value) : Operand → Value
  | .tmp t => cond (Nat.ble (t + 1) n) (e t) undef
  | .const v => v
  | .global g => .pointer (some ⟨g, 0, none⟩)
  | .func f => .func (.func f) #[] #[]
def up (e : Nat → Value) (d : Nat) (v : Value) : Nat → Value := fun t => cond (Nat.beq t d) v (e t)
def upO (e : Nat → Value) : Option Nat → Value → (Nat → Value)
  | some d, v => up e d v
  | none, _ => e

theorem act_eval (n : Nat) (e : Nat → Value) : (act n e).eval = ev n e := by
  funext x
  cases x with
  | tmp t =>
    simp only [Act.eval, act, ev]
    by_cases h : t < n
    · have : Nat.ble (t + 1) n = true := Nat.ble_eq_true_of_le h
      simp [h, this]
    · have : Nat.ble (t + 1) n = false := by
        cases hb : Nat.ble (t + 1) n with
        | false => rfl
        | true => exact absurd (Nat.le_of_ble_eq_true hb) h
      simp [h, this]
  | const v => rfl
  | global g => rfl
  | func f => rfl

theorem act_put (n : Nat) (e : Nat → Value) (d : Option Nat) (v : Value) : (act n e).put d v = act n (upO e d v) := by
  cases d with
  | none => rfl
  | some d =>
    simp only [Act.put, act, upO]
    congr 1
    apply Array.ext
    · simp
    · intro i h1 h2
      simp only [List.size_toArray, List.length_map, List.length_range, Array.size_setIfInBounds] at h1 h2
      by_cases hi : d = i
      · subst hi; simp [up]
      · have : Nat.beq i d = false := by
          cases hb : Nat.beq i d with
          | false => rfl
          | true => exact absurd (Nat.eq_of_beq_eq_true hb).symm hi
        simp [up, hi, this]

def tame : Exit → Prop
  | .panic _ => False
  | .outgrown => False
  | _ => True
def lift (n : Nat) (Q : Exit → (Nat → Value) → World → Prop) : Exit → Act → World → Prop := fun x a w => tame x ∧ ∃ e, a = act n e ∧ Q x e w

/-- The code c, begun with the environment e in the world w, comes to an end of which Q holds. -/
def W (P : Program) (n : Nat) (c : Code) (Q : Exit → (Nat → Value) → World → Prop) (e : Nat → Value) (w : World) : Prop := c.wp P (lift n Q) (act n e) w

def thenQ (K : (Nat → Value) → World → Prop) (Q : Exit → (Nat → Value) → World → Prop) : Exit → (Nat → Value) → World → Prop
  | .normal, e, w => K e w
  | x, e, w => Q x e w
def blockQ (id : Nat) (Q : Exit → (Nat → Value) → World → Prop) : Exit → (Nat → Value) → World → Prop
  | .exit i, e, w => cond (Nat.beq i id) (Q .normal e w) (Q (.exit i) e w)
  | x, e, w => Q x e w

section
variable {P : Program} {n : Nat} {Q Q' : Exit → (Nat → Value) → World → Prop} {e : Nat → Value} {w : World} {a b : Code}

theorem W.mono (h : W P n a Q e w) (hq : ∀ x e w, Q x e w → Q' x e w) : W P n a Q' e w :=
  wp_mono h fun x _ w ⟨ht, e, ha, hQ⟩ => ⟨ht, e, ha, hq x e w hQ⟩

theorem W.seq (h : W P n a (thenQ (W P n b Q) Q) e w) : W P n (a.seq b) Q e w :=
  wp_seq (wp_mono h fun x a' w' ⟨ht, e', ha, hQ⟩ => by
    subst ha
    cases x with
    | normal => exact hQ
    | _ => exact ⟨ht, e', rfl, hQ⟩)

/-- A meeting point: what J says of where a ends is all that is known when b begins. -/
theorem W.seqJ (J : (Nat → Value) → World → Prop) (h : W P n a (thenQ J Q) e w) (hJ : ∀ e w, J e w → W P n b Q e w) : W P n (a.seq b) Q e w :=
  W.seq (W.mono h fun x e w hx => by cases x <;> first | exact hJ _ _ hx | exact hx)

theorem W.skip (h : Q .normal e w) : W P n .skip Q e w := wp_skip ⟨trivial, e, rfl, h⟩
theorem W.ret (h : Q .ret e w) : W P n .ret Q e w := wp_ret ⟨trivial, e, rfl, h⟩
theorem W.exit {id : Nat} (h : Q (.exit id) e w) : W P n (.exit id) Q e w := wp_exit ⟨trivial, e, rfl, h⟩
theorem W.block {id : Nat} (h : W P n a (blockQ id Q) e w) : W P n (.block id a) Q e w :=
  wp_block (wp_mono h fun x a' w' ⟨ht, e', ha, hQ⟩ => by
    subst ha
    cases x with
    | exit i =>
      simp only [Exit.inBlock]
      by_cases hi : i = id
      · subst hi
        rw [if_pos rfl]
        exact ⟨trivial, e', rfl, by simpa [blockQ] using hQ⟩
      · rw [if_neg hi]
        have : Nat.beq i id = false := by
          cases hb : Nat.beq i id with
          | false => rfl
          | true => exact absurd (Nat.eq_of_beq_eq_true hb) hi
        exact ⟨trivial, e', rfl, by simpa [blockQ, this] using hQ⟩
    | _ => exact ⟨ht, e', rfl, hQ⟩)

theorem W.cond {c : Operand} {t : Bool} (hc : ev n e c = .bool t) (ht : t = true → W P n a Q e w) (hf : t = false → W P n b Q e w) : W P n (.cond c a b) Q e w :=
  wp_cond_split (by rw [act_eval]; exact hc) ht hf

/-! ### lists of operations -/
def WL (P : Program) (ops : Array Oper) (n : Nat) (Q : Exit → (Nat → Value) → World → Prop) (l : List Oper) (e : Nat → Value) (w : World) : Prop :=
  wpList P ops (lift n Q) l (act n e) w

theorem W.region {id : Nat} {l : List Oper} (h : WL P l.toArray n Q l e w) : W P n (.region id l.toArray false) Q e w := wp_region_lit h

variable {ops : Array Oper} {o : Oper} {rest : List Oper}
theorem WL.nil (h : Q .normal e w) : WL P ops n Q [] e w := ⟨trivial, e, rfl, h⟩

theorem WL.val {v : Value} {w' : World} (hg : o.guard = none) (hr : (execOp (ev n e) o).run P w = .ok (.value v) w') (h : WL P ops n Q rest (upO e o.dst v) w') : WL P ops n Q (o :: rest) e w :=
  wpList_plain hg fun K hK => by
    simp only [Oper.wp, act_eval, hr, Oper.upon]
    exact hK _ _ (by rw [act_put]; exact h)

theorem WL.do_ {w' : World} (hg : o.guard = none) (hr : (execOp (ev n e) o).run P w = .ok .skip w') (h : WL P ops n Q rest (upO e o.dst undef) w') : WL P ops n Q (o :: rest) e w :=
  wpList_plain hg fun K hK => by
    simp only [Oper.wp, act_eval, hr, Oper.upon]
    exact hK _ _ (by rw [act_put]; exact h)

theorem WL.call {f : FuncId} {args : Array Value} {w' : World} (hg : o.guard = none) (hr : (execOp (ev n e) o).run P w = .ok (.enter f args) w')
    (hc : Calls P f args w' fun x w'' => ∃ v, x = .returned v ∧ WL P ops n Q rest (upO e o.dst v) w'') : WL P ops n Q (o :: rest) e w :=
  wpList_plain hg fun K hK => by
    simp only [Oper.wp, act_eval, hr, Oper.upon]
    refine hc.mono ?_
    rintro x w'' ⟨v, rfl, h⟩
    exact hK _ _ (by rw [act_put]; exact h)

/-- What a guard asks: the Bool that operation j laid. -/
def yl (ops : Array Oper) (n : Nat) (e : Nat → Value) (j : Nat) : Option Bool :=
  match (ops[j]?).bind Oper.dst with
  | some d => match ev n e (.tmp d) with
    | .bool b => some b
    | _ => none
  | none => none
def wants (ops : Array Oper) (n : Nat) (e : Nat → Value) (o : Oper) : Bool :=
  match o.guard with
  | none => true
  | some (j, want) => yl ops n e j == some want

theorem wants_eq (ops : Array Oper) (n : Nat) (e : Nat → Value) (o : Oper) (h : ∀ d, (∃ j : Nat, (ops[j]?).bind Oper.dst = some d) → d < n) :
    Region.wanted o (yielded ops (act n e).tmps) = wants ops n e o := by
  unfold Region.wanted wants
  cases hg : o.guard with
  | none => rfl
  | some jw =>
    obtain ⟨j, want⟩ := jw
    simp only
    congr 1
    unfold yielded yl
    cases hd : (ops[j]?).bind Oper.dst with
    | none => rfl
    | some d =>
      have hdn := h d ⟨j, hd⟩
      have : Nat.ble (d + 1) n = true := Nat.ble_eq_true_of_le hdn
      simp only [act, ev, Option.bind_some, this, cond_true]
      simp only [List.getElem?_toArray, List.getElem?_map, List.getElem?_range hdn, Option.map_some]
      cases e d <;> rfl

/-- All slots that the operations write lie in the frame. -/
def slotsIn (n : Nat) : List Oper → Bool
  | [] => true
  | o :: l => (match o.dst with | some d => Nat.ble (d + 1) n | none => true) && slotsIn n l
theorem slotsIn_spec {n : Nat} {l : List Oper} (h : slotsIn n l = true) (d : Nat) (hd : ∃ j : Nat, (l.toArray[j]?).bind Oper.dst = some d) : d < n := by
  obtain ⟨j, hj⟩ := hd
  simp only [List.getElem?_toArray] at hj
  induction l generalizing j with
  | nil => simp at hj
  | cons o l ih =>
    simp only [slotsIn, Bool.and_eq_true] at h
    cases j with
    | zero =>
      simp only [List.getElem?_cons_zero, Option.bind_some] at hj
      rw [hj] at h
      exact Nat.le_of_ble_eq_true h.1
    | succ j => exact ih h.2 j (by simpa using hj)

theorem WL.pass {l : List Oper} (hs : slotsIn n l = true) (hw : wants l.toArray n e o = false) (h : WL P l.toArray n Q rest (upO e o.dst undef) w) : WL P l.toArray n Q (o :: rest) e w :=
  wpList_skip (by rw [wants_eq _ _ _ _ (slotsIn_spec hs)]; exact hw) (by rw [act_put]; exact h)

/-- An operation whose guard says yes is as one without a guard. -/
theorem WL.want {l : List Oper} (hs : slotsIn n l = true) (hw : wants l.toArray n e o = true) (h : WL P l.toArray n Q ({ o with guard := none } :: rest) e w) : WL P l.toArray n Q (o :: rest) e w := by
  have hww : Region.wanted o (yielded l.toArray (act n e).tmps) = true := by rw [wants_eq _ _ _ _ (slotsIn_spec hs)]; exact hw
  have hg : Region.wanted ({ o with guard := none } : Oper) (yielded l.toArray (act n e).tmps) = true := rfl
  unfold WL wpList at h ⊢
  rw [if_pos hww]
  rw [if_pos hg] at h
  exact h

theorem wpl_mono {Q Q' : Exit → Act → World → Prop} (hq : ∀ x a w, Q x a w → Q' x a w) : ∀ (l : List Oper) (a : Act) (w : World), wpList P ops Q l a w → wpList P ops Q' l a w := by
  intro l
  induction l with
  | nil => exact fun a w h => hq _ _ _ h
  | cons o l ih =>
    intro a w h
    unfold wpList at h ⊢
    split
    · rename_i hw
      rw [if_pos hw] at h
      rcases h with h | ⟨h1, a0, w0, h2⟩
      · refine .inl ?_
        unfold Oper.wp at h ⊢
        generalize (execOp a.eval o).run P w = r at h ⊢
        unfold Oper.upon at h ⊢
        split at h
        · exact ih _ _ h
        · exact ih _ _ h
        · exact ih _ _ h
        · refine h.mono ?_
          intro e w' he
          cases e with
          | returned v => exact ih _ _ he
          | panicked ch => exact hq _ _ _ he
          | outgrown => obtain ⟨a1, w1, h3⟩ := he; exact ⟨a1, w1, hq _ _ _ h3⟩
        · exact h.mono fun v w' hv => ih _ _ hv
        · exact hq _ _ _ h
        · exact h.elim
      · exact .inr ⟨h1, a0, w0, hq _ _ _ h2⟩
    · rename_i hw
      rw [if_neg hw] at h
      exact ih _ _ h
/-- Where the code a is left only at its end: J holds there, and from J on the rest goes. -/
theorem W.join (J : (Nat → Value) → World → Prop) (h : W P n a (thenQ J (fun _ _ _ => False)) e w) (hJ : ∀ e w, J e w → Q .normal e w) : W P n a Q e w :=
  W.mono h fun x e w hx => by cases x <;> first | exact hJ _ _ hx | exact hx.elim

theorem nrm {K : (Nat → Value) → World → Prop} (h : K e w) : thenQ K Q .normal e w := h
theorem thx {K : (Nat → Value) → World → Prop} {i : Nat} (h : Q (.exit i) e w) : thenQ K Q (.exit i) e w := h
theorem thr {K : (Nat → Value) → World → Prop} (h : Q .ret e w) : thenQ K Q .ret e w := h
theorem bkn {i : Nat} (h : Q .normal e w) : blockQ i Q .normal e w := h
theorem bkr {i : Nat} (h : Q .ret e w) : blockQ i Q .ret e w := h
theorem bke {i : Nat} (h : Q .normal e w) : blockQ i Q (.exit i) e w := by
  have : Nat.beq i i = true := Nat.beq_refl i
  simpa [blockQ, this] using h
theorem bko {i j : Nat} (hij : Nat.beq j i = false) (h : Q (.exit j) e w) : blockQ i Q (.exit j) e w := by simpa [blockQ, hij] using h

theorem WL.valb {t b : Bool} {w' : World} (ht : t = b) (hg : o.guard = none) (hr : (execOp (ev n e) o).run P w = .ok (.value (.bool t)) w') (h : WL P ops n Q rest (upO e o.dst (.bool b)) w') : WL P ops n Q (o :: rest) e w := by
  subst ht
  exact WL.val hg hr h

theorem WL.val0 {v : Value} (hg : o.guard = none) (hr : (execOp (ev n e) o).run P w = .ok (.value v) w) (h : WL P ops n Q rest (upO e o.dst v) w) : WL P ops n Q (o :: rest) e w := WL.val hg hr h
theorem WL.valb0 {t b : Bool} (ht : t = b) (hg : o.guard = none) (hr : (execOp (ev n e) o).run P w = .ok (.value (.bool t)) w) (h : WL P ops n Q rest (upO e o.dst (.bool b)) w) : WL P ops n Q (o :: rest) e w := WL.valb ht hg hr h

/-! ### a loop, round by round -/
def iter {σ τ : Type} : Nat → (σ → Option (σ ⊕ τ)) → σ → Option τ
  | 0, _, _ => none
  | n + 1, f, s => (f s).bind fun x => match x with
    | .inl s' => iter n f s'
    | .inr t => some t
def lpQ {σ τ : Type} (F : σ → (Nat → Value) → World → Prop) (Out : τ → Exit → (Nat → Value) → World → Prop) (x : σ ⊕ τ) : Exit → (Nat → Value) → World → Prop
  | .normal, e, w => ∃ s, x = .inl s ∧ F s e w
  | ex, e, w => ∃ t, x = .inr t ∧ Out t ex e w

theorem W.loop {σ τ : Type} {step : σ → Option (σ ⊕ τ)} (F : σ → (Nat → Value) → World → Prop) (Out : τ → Exit → (Nat → Value) → World → Prop)
    (hb : ∀ s x e w, step s = some x → F s e w → W P n a (lpQ F Out x) e w) {fuel : Nat} {s : σ} {t : τ} (H : iter fuel step s = some t) (h0 : F s e w)
    (hQ : ∀ x e w, Out t x e w → Q x e w) : W P n (.loop a) Q e w := by
  refine wp_loop_rounds fuel ?_
  induction fuel generalizing s e w with
  | zero => cases H
  | succ k ih =>
    rw [rounds_succ]
    simp only [iter] at H
    cases hs : step s with
    | none => rw [hs] at H; cases H
    | some x =>
      rw [hs] at H
      refine wp_mono (hb s x e w hs h0) ?_
      rintro y a' w' ⟨ht, e', rfl, hq⟩
      cases x with
      | inl s' =>
        cases y with
        | normal =>
          obtain ⟨s1, h1, h2⟩ := hq
          cases h1
          exact ih H h2
        | _ => obtain ⟨t1, h1, _⟩ := hq; cases h1
      | inr t' =>
        have : t' = t := by simpa using H
        subst this
        cases y with
        | normal => obtain ⟨s1, h1, _⟩ := hq; cases h1
        | _ => obtain ⟨t1, h1, h2⟩ := hq; cases h1; exact ⟨ht, e', rfl, hQ _ _ _ h2⟩

/-! ### a function's begin and end -/
def ar : List Value → Nat → Value
  | [], _ => undef
  | v :: _, 0 => v
  | _ :: l, t + 1 => ar l t
def bodyQ (P : Program) (fn : Func) (n : Nat) (R : Ending → World → Prop) : Exit → (Nat → Value) → World → Prop
  | .normal, e, w => ∃ v, (results fn (act n e).tmps).run P w = .ok v w ∧ R (.returned v) w
  | .ret, e, w => ∃ v, (results fn (act n e).tmps).run P w = .ok v w ∧ R (.returned v) w
  | _, _, _ => False

theorem act_ar (n : Nat) (l : List Value) (h : l.length ≤ n) : act n (ar l) = { tmps := l.toArray ++ Array.replicate (n - l.length) undef, defers := [] } := by
  unfold act
  congr 1
  apply Array.ext'
  apply List.ext_getElem
  · simp; omega
  · intro i h1 h2
    simp only [List.getElem_map, List.getElem_range, Array.toList_append, Array.toList_replicate]
    have key : ∀ (l : List Value) (i : Nat) (h : i < l.length), ar l i = l[i] := by
      intro l
      induction l with
      | nil => intro i h; simp at h
      | cons v l ih =>
        intro i h
        cases i with
        | zero => rfl
        | succ i => exact ih i (by simpa using h)
    have key2 : ∀ (l : List Value) (i : Nat) (h : l.length ≤ i), ar l i = undef := by
      intro l
      induction l with
      | nil => intro i h; rfl
      | cons v l ih =>
        intro i h
        cases i with
        | zero => simp at h
        | succ i => exact ih i (by simpa using h)
    by_cases hi : i < l.length
    · rw [List.getElem_append_left hi]; exact key l i hi
    · rw [List.getElem_append_right (by omega)]; rw [key2 l i (by omega)]; simp

theorem enter {f : FuncId} {fn : Func} {code : Code} {n : Nat} {l : List Value} {w : World} {R : Ending → World → Prop} (hf : P.funcs[f]? = some fn) (hb : fn.body = some code) (hn : fn.ntmps = n)
    (hl : Nat.ble l.length n = true) (h : W P n code (bodyQ P fn n R) (ar l) w) : Calls P f l.toArray w R := by
  subst hn
  have hl := Nat.le_of_ble_eq_true hl
  refine calls_of_wp hf hb ?_
  rw [List.size_toArray, ← act_ar _ l hl]
  refine wp_mono h ?_
  rintro x a w' ⟨_, e', rfl, hq⟩
  cases x <;> first | exact ⟨rfl, hq⟩ | exact hq.elim

theorem tmps_getD (n : Nat) (e : Nat → Value) (t : Nat) : (act n e).tmps.getD t undef = ev n e (.tmp t) := by
  rw [← act_eval]; rfl
theorem ret0 {fn : Func} {R : Ending → World → Prop} (hr : fn.results = #[]) (h : R (.returned (.tuple #[])) w) : bodyQ P fn n R .ret e w :=
  ⟨_, results_none hr _ _ _, h⟩
theorem end0 {fn : Func} {R : Ending → World → Prop} (hr : fn.results = #[]) (h : R (.returned (.tuple #[])) w) : bodyQ P fn n R .normal e w :=
  ⟨_, results_none hr _ _ _, h⟩
theorem ret1 {fn : Func} {R : Ending → World → Prop} {t : Nat} {v : Value} (hr : fn.results = #[.tmp t]) (hv : ev n e (.tmp t) = v) (h : R (.returned v) w) : bodyQ P fn n R .ret e w :=
  ⟨_, results_tmp hr _ _ _, by rw [tmps_getD, hv]; exact h⟩
theorem ret2 {fn : Func} {R : Ending → World → Prop} {t u : Nat} {v v' : Value} (hr : fn.results = #[.tmp t, .tmp u]) (hv : ev n e (.tmp t) = v) (hu : ev n e (.tmp u) = v') (h : R (.returned (.tuple #[v, v'])) w) : bodyQ P fn n R .ret e w :=
  ⟨_, results_tmp2 hr _ _ _, by rw [tmps_getD, tmps_getD, hv, hu]; exact h⟩

/-! ### slots written out -/
def ups (e : Nat → Value) : List (Nat × Value) → (Nat → Value)
  | [] => e
  | (t, v) :: l => up (ups e l) t v
def holds (e : Nat → Value) : List (Nat × Value) → Prop
  | [] => True
  | (t, v) :: l => e t = v ∧ holds e l
theorem up_self (e : Nat → Value) {t : Nat} {v : Value} (h : e t = v) : up e t v = e := by
  funext i
  unfold up
  by_cases hb : Nat.beq i t = true
  · rw [hb, Nat.eq_of_beq_eq_true hb]; exact h.symm
  · simp [hb]
theorem ups_self : ∀ {l : List (Nat × Value)} {e : Nat → Value}, holds e l → e = ups e l
  | [], _, _ => rfl
  | (t, v) :: l, e, h => by
    have := ups_self (l := l) h.2
    rw [ups, ← this]
    exact (up_self e h.1).symm
end

/-! ### what a Lean function in Option came to -/
def w64 (n : Int) : Int := IntKind.i64.wrap n
def w32 (n : Int) : Int := IntKind.i32.wrap n
def imax (x y : Int) : Int := if y > x then y else x
def imin (x y : Int) : Int := if y < x then y else x
theorem bs {α β : Type} {x : Option α} {f : α → Option β} {r : β} (h : x.bind f = some r) : ∃ a, x = some a ∧ f a = some r := by
  cases x with
  | none => cases h
  | some a => exact ⟨a, rfl, h⟩
theorem it {α : Type} {b : Bool} {x y : Option α} {r : α} (hb : b = true) (h : (if b = true then x else y) = some r) : x = some r := by rw [if_pos hb] at h; exact h
theorem ie {α : Type} {b : Bool} {x y : Option α} {r : α} (hb : b = false) (h : (if b = true then x else y) = some r) : y = some r := by rw [if_neg (by simp [hb])] at h; exact h
def orE (t : Bool) (x : Option Bool) : Option Bool := if t = true then some true else x
def andE (t : Bool) (x : Option Bool) : Option Bool := if t = true then x else some false
theorem orT {t : Bool} {x : Option Bool} {d : Bool} (ht : t = true) (h : orE t x = some d) : d = true := by simp [orE, ht] at h; exact h
theorem orF {t : Bool} {x : Option Bool} {d : Bool} (ht : t = false) (h : orE t x = some d) : x = some d := by simpa [orE, ht] using h
theorem anT {t : Bool} {x : Option Bool} {d : Bool} (ht : t = true) (h : andE t x = some d) : x = some d := by simpa [andE, ht] using h
theorem anF {t : Bool} {x : Option Bool} {d : Bool} (ht : t = false) (h : andE t x = some d) : d = false := by simp [andE, ht] at h; exact h
end Go.Lt
