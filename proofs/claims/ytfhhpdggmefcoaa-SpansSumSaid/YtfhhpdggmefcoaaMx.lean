/-
  More operations, in our own walk kit: members of own slices, slices that are written out, made, cut; pointers and errors held against nil; equality of structs; division. No condition; nothing of any program stands here.
-/
import Derived.Test.YtfhhpdggmefcoaaMw
namespace Go.Lt

section
variable {P : Program} {c c' : Cx} {G : Gm} {F : List En} {α : Type} {R : Rp α} {ρ : Operand → Value} {o : Oper}
variable {n : Nat} {ops : Array Oper} {Q : Exit → (Nat → Value) → World → Prop} {rest : List Oper} {e : Nat → Value} {D : List Nat} {K : Cx → Prop} {l : List Oper} {fuel : Nat} {li : List Bool}

/-! ### the steps -/
theorem WL.mem {X : Value → Cx → Prop} (hg : o.guard = none) (hr : ∃ v c', (execOp (ev n e) o).run P c.w = .ok (.value v) c'.w ∧ c.le c' ∧ X v c')
    (h : ∀ v c', c.le c' → X v c' → WL P ops n Q rest (upO e o.dst v) c'.w) : WL P ops n Q (o :: rest) e c.w := by
  obtain ⟨v, c', h1, h2, h3⟩ := hr
  exact WL.val hg h1 (h v c' h2 h3)
theorem WL.memD {X : Cx → Prop} (hg : o.guard = none) (hr : ∃ c', (execOp (ev n e) o).run P c.w = .ok .skip c'.w ∧ c.le c' ∧ X c')
    (h : ∀ c', c.le c' → X c' → WL P ops n Q rest (upO e o.dst undef) c'.w) : WL P ops n Q (o :: rest) e c.w := by
  obtain ⟨c', h1, h2, h3⟩ := hr
  exact WL.do_ hg h1 (h c' h2 h3)
theorem Go1.mem (i : Nat) {X : Value → Cx → Prop} (hi : l.toArray[i]? = some o) (hsl : slotsIn n l = true) (hw : wants l.toArray n e o = true) (hr : ∃ v c', (execOp (ev n e) o).run P c.w = .ok (.value v) c'.w ∧ c.le c' ∧ X v c')
    (h : ∀ v c', c.le c' → X v c' → (D.contains i = true ∨ K c') ∧ AC D K P l n Q fuel (li.set i true) (upO e o.dst v) c') : Go1 D K P l n Q fuel li e c i := by
  obtain ⟨v, c', h1, h2, h3⟩ := hr
  have := h v c' h2 h3
  exact Go1.val hi hsl hw h1 h2 this.1 this.2
theorem Go1.memD (i : Nat) {X : Cx → Prop} (hi : l.toArray[i]? = some o) (hsl : slotsIn n l = true) (hw : wants l.toArray n e o = true) (hr : ∃ c', (execOp (ev n e) o).run P c.w = .ok .skip c'.w ∧ c.le c' ∧ X c')
    (h : ∀ c', c.le c' → X c' → (D.contains i = true ∨ K c') ∧ AC D K P l n Q fuel (li.set i true) (upO e o.dst undef) c') : Go1 D K P l n Q fuel li e c i := by
  obtain ⟨c', h1, h2, h3⟩ := hr
  have := h c' h2 h3
  exact Go1.do_ hi hsl hw h1 h2 this.1 this.2
theorem Go1.callP (i : Nat) {f : FuncId} {args : Array Value} {X : Cx → Value → Prop} (hi : l.toArray[i]? = some o) (hsl : slotsIn n l = true) (hw : wants l.toArray n e o = true)
    (hrun : (execOp (ev n e) o).run P c.w = .ok (.enter f args) c.w) (hc : Calls P f args c.w (Post c X))
    (h : ∀ v c', c.le c' → X c' v → (D.contains i = true ∨ K c') ∧ AC D K P l n Q fuel (li.set i true) (upO e o.dst v) c') : Go1 D K P l n Q fuel li e c i := Go1.call hi hsl hw hrun hc h
theorem AC.one (i : Nat) (hr : Region.ready .any l.toArray li.toArray = [i]) (h : Go1 D K P l n Q fuel li e c i) : AC D K P l n Q (fuel + 1) li e c := AC.many [i] (by simp) hr ⟨h, trivial⟩
/-- A value that the operation leaves in every world. -/
theorem rw1 {s : Sem Value} {v : Value} (hx : execOp ρ o = (do pure (Next.value (← s)) : Sem Next)) (h : ∀ w, s.run P w = .ok v w) (w : World) : (execOp ρ o).run P w = .ok (.value v) w := rx hx (h w)

theorem Sl.form {v : Value} {xs : List α} (h : Sl R c v xs) : ∃ a n k, v = .slice a n k := by
  obtain ⟨a, cap, h, _⟩ := h; exact ⟨_, _, _, h⟩
theorem OA.form {v : Value} {vs : List Value} {xs : List α} (h : OA R c v vs xs) : ∃ a n k, v = .slice a n k := by
  rcases h.2.1 with ⟨h, _⟩ | ⟨g, cap, h, _⟩ <;> exact ⟨_, _, _, h⟩
theorem Pt.form {g : Nat} {v : Value} {p : Option Nat} (h : Pt g c v p) : ∃ a, v = .pointer a := by
  cases p with
  | none => exact ⟨_, h⟩
  | some p => obtain ⟨b, h, _⟩ := h; exact ⟨_, h⟩

/-! ### short forms -/
theorem va (v : Value) {w : World} (h : WL P ops n Q rest (upO e o.dst v) w) (hg : o.guard = none := by exact rfl) (hr : (execOp (ev n e) o).run P w = .ok (.value v) w := by kernel_rfl) : WL P ops n Q (o :: rest) e w := WL.val0 hg hr h
theorem vp (v : Value) {w : World} (hr : (execOp (ev n e) o).run P w = .ok (.value v) w) (h : WL P ops n Q rest (upO e o.dst v) w) (hg : o.guard = none := by exact rfl) : WL P ops n Q (o :: rest) e w := WL.val0 hg hr h
theorem vb {t b : Bool} {w : World} (ht : t = b) (h : WL P ops n Q rest (upO e o.dst (.bool b)) w) (hg : o.guard = none := by exact rfl) (hr : (execOp (ev n e) o).run P w = .ok (.value (.bool t)) w := by kernel_rfl) : WL P ops n Q (o :: rest) e w := WL.valb0 ht hg hr h
theorem ps {l : List Oper} {w : World} (h : WL P l.toArray n Q rest (upO e o.dst undef) w) (hs : slotsIn n l = true := by kernel_rfl) (hw : wants l.toArray n e o = false := by kernel_rfl) : WL P l.toArray n Q (o :: rest) e w := WL.pass hs hw h
theorem wn {l : List Oper} {w : World} (h : WL P l.toArray n Q ({ o with guard := none } :: rest) e w) (hs : slotsIn n l = true := by kernel_rfl) (hw : wants l.toArray n e o = true := by kernel_rfl) : WL P l.toArray n Q (o :: rest) e w := WL.want hs hw h
theorem ta (i : Nat) (v : Value) (h : AC D K P l n Q fuel (li.set i true) (upO e o.dst v) c) (hi : l.toArray[i]? = some o := by exact rfl) (ht : tk l n li i = true := by kernel_rfl) (hw : wants l.toArray n e o = true := by kernel_rfl)
    (hy : ∀ w, (execOp (ev n e) o).run P w = .ok (.value v) w := by intro w; kernel_rfl) : AC D K P l n Q (fuel + 1) li e c := AC.take i v hi ht hw (fun c' _ => hy c'.w) h
theorem sr {b : Code} {id : Nat} {l : List Oper} {w : World} (h : WL P l.toArray n (thenQ (W P n b Q) Q) l e w) : W P n ((Code.region id l.toArray false).seq b) Q e w := W.seq (W.region h)
theorem wln {K : (Nat → Value) → World → Prop} {Q : Exit → (Nat → Value) → World → Prop} {w : World} (h : K e w) : WL P ops n (thenQ K Q) [] e w := WL.nil (nrm h)

/-! ### members of own slices -/
theorem OA.blk {v : Value} {vs : List Value} {xs : List α} {i : Int} {x : α} (h : OA R c v vs xs) (hi : idx xs i = some x) : Go.Lt.blk v = some (sb v) := by
  rcases h.2.1 with ⟨_, rfl⟩ | ⟨g, cap, rfl, _⟩
  · have := idx_lt hi; simp at this; omega
  · rfl
theorem run_indexO {v : Value} {vs : List Value} {xs : List α} {T E : TypeId} {k : IntKind} {i : Int} {x : α} (hT : P.underlying T = some (.slice E)) (hE : (P.info? E).map (·.size) = some R.size)
    (h : OA R c v vs xs) (hi : idx xs i = some x) (w : World) : (Instr.indexAt T v (.int k i)).run P w = .ok (.pointer (some ⟨sb v, i.toNat * R.size, none⟩)) w := by
  obtain ⟨h1, h2⟩ := idx_lt hi
  rcases h.2.1 with ⟨_, rfl⟩ | ⟨g, cap, rfl, _⟩
  · simp at h2; omega
  · obtain ⟨ti, hti, hsz⟩ := Option.map_eq_some_iff.1 hE
    simp [Instr.indexAt, asIntOf, run_underlying hT, h1, h2, sizeOf, typeInfo, hti, hsz, sb, Addr.add_lit]
theorem OA.at {v : Value} {vs : List Value} {xs : List α} {i : Int} {x : α} (h : OA R c v vs xs) (hi : idx xs i = some x) : ∃ l, R.cells c l x ∧ (vs.drop (i.toNat * R.size)).take R.size = l := ⟨_, h.2.2 _ _ (idx_get hi), rfl⟩
theorem at1 {vs l : List Value} {p n j : Nat} {u : Value} (h : (vs.drop p).take n = l) (hj : l[j]? = some u) : vs[p + j]? = some u := by
  subst h
  rw [List.getElem?_take] at hj
  split at hj
  · rwa [List.getElem?_drop] at hj
  · cases hj
theorem at2 {vs l l' : List Value} {p n j : Nat} (h : (vs.drop p).take n = l) (hj : (l.drop j).take l'.length = l') : (vs.drop (p + j)).take l'.length = l' := by
  subst h
  conv => rhs; rw [← hj]
  rw [List.drop_take, List.drop_drop, List.take_take]
  have h1 := congrArg List.length hj
  rw [List.drop_take, List.drop_drop, List.take_take, List.length_take] at h1
  congr 1
  omega
/-- A store into a member. -/
theorem Own.stO {T E : TypeId} {v : Value} {vs : List Value} {xs xs' : List α} {i : Int} {x x' : α} {j : Nat} {us l l' : List Value} {u : Value} (k : Nat) (O : Own c G F) (hx : execOp ρ o = (do Instr.storeAt T (.pointer (some ⟨sb v, i.toNat * R.size + j, none⟩)) u; pure Next.skip : Sem Next))
    (hk : F[k]? = some (es true R v E vs xs)) (h : OA R c v vs xs) (hset : sets xs i x' = some xs') (hm : (vs.drop (i.toNat * R.size)).take R.size = l) (hv : u.cells.toList = us) (hs : (P.info? T).map (·.size) = some us.length) (h1 : allOne us)
    (hl : Nat.ble (j + us.length) R.size = true) (hn : l.take j ++ us ++ l.drop (j + us.length) = l') (hx' : R.cells c l' x') :
    ∃ c', (execOp ρ o).run P c.w = .ok .skip c'.w ∧ c.le c' ∧ ∃ vs', Own c' G (F.set k (es true R v E vs' xs')) ∧ OA R c' v vs' xs' := by
  have hl := Nat.le_of_ble_eq_true hl
  unfold sets at hset
  split at hset
  · rename_i hi
    cases hset
    have hbk : Go.Lt.blk v = some (sb v) := by
      rcases h.2.1 with ⟨_, rfl⟩ | ⟨g, cap, rfl, _⟩
      · exfalso; simp at hi; omega
      · rfl
    have hp := h.1
    have hxl := h.2.2.len hp
    have hms := mul_step (s := R.size) (show i.toNat < xs.length by omega)
    obtain ⟨c', r1, r2, r3⟩ := stE (P := P) (T := T) (o := i.toNat * R.size + j) (O.on k hk) hbk rfl hv hs h1 (by simp only [es]; omega)
    have hlen : (vs.take (i.toNat * R.size + j) ++ us ++ vs.drop (i.toNat * R.size + j + us.length)).length = vs.length := by
      simp only [List.length_append, List.length_take, List.length_drop]; omega
    refine ⟨c', by rw [hx]; exact rs r1, r2.le, _, O.set k hk r2 (fun b hb => by rw [hb]; exact hbk) (e' := es true R v E (vs.take (i.toNat * R.size + j) ++ us ++ vs.drop (i.toNat * R.size + j + us.length)) (xs.set i.toNat x')) r3 (fun b h => .inl h), hp, ?_, fun q y hy => ?_⟩
    · rcases h.2.1 with ⟨_, rfl⟩ | ⟨g, cap, h2, h3, h4, h5⟩
      · exfalso; simp at hi; omega
      · exact .inr ⟨g, cap, by rw [List.length_set]; exact h2, by rw [List.length_set]; exact h3, h4, by rw [hlen]; exact h5⟩
    · by_cases hq : q = i.toNat
      · subst hq
        rw [List.getElem?_set_self (by omega)] at hy
        cases hy
        have : ((vs.take (i.toNat * R.size + j) ++ us ++ vs.drop (i.toNat * R.size + j + us.length)).drop (i.toNat * R.size)).take R.size = l' := by
          rw [← hn, ← hm]
          rw [List.append_assoc, List.drop_append_of_le_length (by rw [List.length_take]; omega), List.drop_take]
          have e1 : i.toNat * R.size + j - i.toNat * R.size = j := by omega
          rw [e1, List.take_take, Nat.min_eq_left (by omega), List.append_assoc, List.drop_take, List.drop_drop, List.take_append, List.take_append]
          have h6 : ((vs.drop (i.toNat * R.size)).take j).length = j := by rw [List.length_take, List.length_drop]; omega
          rw [h6, List.take_of_length_le (by omega), List.take_of_length_le (l := us) (by omega)]
          congr 2
          rw [Nat.add_assoc]
          congr 1
          omega
        rw [this]
        exact R.mono r2.le hx'
      · rw [List.getElem?_set_ne (Ne.symm hq)] at hy
        have hold := h.2.2 q y hy
        have hqm := mul_step (s := R.size) (List.getElem?_eq_some_iff.1 hy).1
        have : ((vs.take (i.toNat * R.size + j) ++ us ++ vs.drop (i.toNat * R.size + j + us.length)).drop (q * R.size)).take R.size = (vs.drop (q * R.size)).take R.size := by
          rcases Nat.lt_or_ge q i.toNat with hlt | hge
          · have := mul_step (s := R.size) hlt
            rw [List.append_assoc, take_drop_left (by rw [List.length_take]; omega), List.drop_take, List.take_take, Nat.min_eq_left (by omega)]
          · have := mul_step (s := R.size) (show i.toNat < q by omega)
            have h7 : (vs.take (i.toNat * R.size + j) ++ us).length = i.toNat * R.size + j + us.length := by rw [List.length_append, List.length_take]; omega
            rw [show q * R.size = (vs.take (i.toNat * R.size + j) ++ us).length + (q * R.size - (i.toNat * R.size + j + us.length)) by omega, ← List.drop_drop, List.drop_left, List.drop_drop]
            congr 2
            omega
        rw [this]
        exact R.mono r2.le hold
  · cases hset

theorem Own.stW {T E : TypeId} {v : Value} {vs : List Value} {xs xs' : List α} {i : Int} {x' : α} {us : List Value} {u : Value} (k : Nat) (O : Own c G F) (hx : execOp ρ o = (do Instr.storeAt T (.pointer (some ⟨sb v, i.toNat * R.size, none⟩)) u; pure Next.skip : Sem Next))
    (hk : F[k]? = some (es true R v E vs xs)) (h : OA R c v vs xs) (hset : sets xs i x' = some xs') (hv : u.cells.toList = us) (hs : (P.info? T).map (·.size) = some us.length) (h1 : allOne us) (hl : us.length = R.size) (hx' : R.cells c us x') :
    ∃ c', (execOp ρ o).run P c.w = .ok .skip c'.w ∧ c.le c' ∧ ∃ vs', Own c' G (F.set k (es true R v E vs' xs')) ∧ OA R c' v vs' xs' := by
  have hi : 0 ≤ i ∧ i < xs.length := by
    unfold sets at hset
    split at hset
    · assumption
    · cases hset
  have hc := h.2.2 i.toNat xs[i.toNat] (List.getElem?_eq_getElem (by omega))
  have hlen := R.len hc
  refine Own.stO (x := xs[i.toNat]) (j := 0) (us := us) (l' := us) k O (by rw [hx]; rfl) hk h hset rfl hv hs h1 ?_ ?_ hx'
  · rw [Nat.zero_add, hl]; exact Nat.ble_eq_true_of_le (Nat.le_refl _)
  · rw [List.take_zero, List.nil_append, Nat.zero_add, List.drop_of_length_le (by rw [hlen, hl]; exact Nat.le_refl _), List.append_nil]
/-- 'append'. -/
theorem Own.app {E t ty : TypeId} {v u : Value} {vs : List Value} {xs ys zs : List α} {z : Value} {by_ : Nat} {m : Bool} (k : Nat) (O : Own c G F) (hk : F[k]? = some (es m R v E vs xs)) (h : OA R c v vs xs) (hS : Sl R c u ys) (happ : app xs ys = some zs)
    (hT : P.underlying t = some (.slice E)) (hi : (P.info? E).map (fun i => (i.zero, i.size, i.bytes)) = some (some z, R.size, by_)) (hz : z.cells.size = R.size) (hby : Nat.ble by_ 128 = true)
    (hx : execOp ρ o = (do pure (Next.value (← Builtin.append_ #[t, t] ty #[v, u])) : Sem Next)) :
    ∃ v' c', (execOp ρ o).run P c.w = .ok (.value v') c'.w ∧ c.le c' ∧ ∃ vs', Own c' G (F.set k (es m R v' E vs' zs)) ∧ OA R c' v' vs' zs := by
  obtain ⟨v', c', h1, h2, h3⟩ := append_ow (P := P) (t := t) (ty := ty) k O hk h hS happ hT hi hz hby
  exact ⟨v', c', rx hx h1, h2, h3⟩
theorem rep_le {i : Int} {x : α} {xs : List α} (h : rep i x = some xs) : i ≤ far := by
  unfold rep at h
  split at h
  · rename_i h'; exact h'.2
  · cases h
theorem rep_nn {i : Int} {x : α} {xs : List α} (h : rep i x = some xs) : 0 ≤ i := by
  unfold rep at h
  split at h
  · rename_i h'; exact h'.1
  · cases h

/-! ### slices that are written out, and made -/
def AllR (R : Rp α) (c : Cx) : List (List Value) → List α → Prop
  | [], [] => True
  | l :: ls, x :: xs => R.cells c l x ∧ AllR R c ls xs
  | _, _ => False
theorem AllR.len : ∀ {ls : List (List Value)} {xs : List α}, AllR R c ls xs → ls.flatten.length = xs.length * R.size
  | [], [], _ => by simp
  | l :: ls, x :: xs, h => by
    simp only [List.flatten_cons, List.length_append, List.length_cons, R.len h.1, AllR.len h.2, Nat.add_mul, Nat.one_mul]
    omega
  | [], _ :: _, h => h.elim
  | _ :: _, [], h => h.elim
theorem AllR.get : ∀ {ls : List (List Value)} {xs : List α}, AllR R c ls xs → AR R c ls.flatten xs
  | [], [], _ => fun i x h => by simp at h
  | l :: ls, x :: xs, h => fun i y hy => by
    cases i with
    | zero =>
      simp only [List.getElem?_cons_zero, Option.some.injEq] at hy
      subst hy
      rw [Nat.zero_mul, List.drop_zero, List.flatten_cons, ← R.len h.1, List.take_left]
      exact h.1
    | succ i =>
      simp only [List.getElem?_cons_succ] at hy
      rw [List.flatten_cons, Nat.add_mul, Nat.one_mul, Nat.add_comm (i * R.size), ← R.len h.1, ← List.drop_drop, List.drop_left, R.len h.1]
      exact AllR.get h.2 i y hy
  | [], _ :: _, h => h.elim
  | _ :: _, [], h => h.elim

/-- A new block that holds a slice. -/
theorem Own.newS (m : Bool) {E : TypeId} {vs : List Value} {xs : List α} {cap : Nat} (O : Own c G F) (hp : 0 < R.size) (hA : AR R c vs xs) (hc : xs.length ≤ cap) (hm : cap ≤ maxLen) (hcs : cap * R.size ≤ vs.length)
    (hr : (execOp ρ o).run P c.w = .ok (.value (.slice (some ⟨c.w.heap.size, 0, none⟩) xs.length cap)) (c.w.alloc (.cells vs.toArray E))) :
    ∃ v c', (execOp ρ o).run P c.w = .ok (.value v) c'.w ∧ c.le c' ∧ ∃ vs, Own c' G (es m R v E vs xs :: F) ∧ OA R c' v vs xs := by
  obtain ⟨c', h1, h2, h3, _, h4⟩ := Cx.new c vs E (cond m 0 (xs.length * R.size))
  refine ⟨_, c', by rw [h1]; exact hr, h2.le, vs, O.cons h2 (fun _ => id) (fun b hb => ?_) (fun b hb => ?_), hp, .inr ⟨_, _, rfl, hc, hm, hcs⟩, hA.mono h2.le⟩
  · simp only [es, Go.Lt.blk, Option.some.injEq] at hb; subst hb; exact ⟨h3, h4⟩
  · simp only [es, Go.Lt.blk, Option.some.injEq] at hb; omega
theorem Own.sl (m : Bool) {E : TypeId} {ls : List (List Value)} {vs : List Value} {xs : List α} (O : Own c G F) (hp : 0 < R.size) (hv : ls.flatten = vs) (hR : AllR R c ls xs) (hm : Nat.ble xs.length 4294967296 = true)
    (hr : (execOp ρ o).run P c.w = .ok (.value (.slice (some ⟨c.w.heap.size, 0, none⟩) xs.length xs.length)) (c.w.alloc (.cells vs.toArray E))) :
    ∃ v c', (execOp ρ o).run P c.w = .ok (.value v) c'.w ∧ c.le c' ∧ ∃ vs, Own c' G (es m R v E vs xs :: F) ∧ OA R c' v vs xs := by
  subst hv
  have hm := Nat.le_of_ble_eq_true hm
  exact Own.newS m O hp hR.get (Nat.le_refl _) (by unfold maxLen; omega) (by rw [hR.len]; exact Nat.le_refl _) hr

/-- 'make'. -/
theorem Own.mkS (m : Bool) {E t : TypeId} {z : Value} {lz : List Value} {x : α} {xs : List α} {by_ : Nat} {kl kc : IntKind} {i j : Int} (O : Own c G F) (hp : 0 < R.size) (hrep : rep i x = some xs) (hij : i ≤ j) (hj : j ≤ far) (hT : P.underlying t = some (.slice E))
    (hi : (P.info? E).map (fun i => (i.zero, i.size, i.bytes)) = some (some z, R.size, by_)) (hz : z.cells.toList = lz) (hzl : lz.length = R.size) (hzx : ∀ c, R.cells c lz x) (hby : Nat.ble by_ 128 = true)
    (hx : execOp ρ o = (do pure (Next.value (← Instr.makeSlice t (.int kl i) (.int kc j))) : Sem Next)) :
    ∃ v c', (execOp ρ o).run P c.w = .ok (.value v) c'.w ∧ c.le c' ∧ ∃ vs, Own c' G (es m R v E vs xs :: F) ∧ OA R c' v vs xs := by
  have hby := Nat.le_of_ble_eq_true hby
  unfold rep at hrep
  split at hrep
  · rename_i h0
    cases hrep
    obtain ⟨ti, hti, hzz⟩ := Option.map_eq_some_iff.1 hi
    simp only [Prod.mk.injEq] at hzz
    obtain ⟨hz1, hz2, hz3⟩ := hzz
    unfold far at hj
    have hb : (ti.bytes : Int) * j ≤ 281474976710656 := by
      rw [hz3]
      have : (by_ : Int) * j ≤ 128 * 1099511627776 := Int.mul_le_mul (by omega) (by omega) (by omega) (by omega)
      omega
    have hr := run_make (P := P) c.w t E ti z hT hti hz1 kl kc i j h0.1 hij hb (by omega)
    have hlen : (List.replicate i.toNat x).length = i.toNat := by simp
    have key : (madeCells z.cells (j.toNat * ti.size)).toList = (madeCells z.cells (j.toNat * ti.size)).toList := rfl
    have hget : ∀ q, q < j.toNat * R.size → (madeCells z.cells (j.toNat * ti.size)).toList[q]? = lz[q % R.size]? := fun q hq => by
      have hzs : z.cells.size = R.size := by rw [← hzl, ← hz]; simp
      have hq2 : q % R.size < lz.length := by rw [hzl]; exact Nat.mod_lt _ hp
      have hq3 : q % z.cells.size < z.cells.size := by rw [hzs]; exact Nat.mod_lt _ hp
      simp only [madeCells, Array.toList_map, Array.toList_range, List.getElem?_map, hz2, List.getElem?_range hq, Option.map_some]
      rw [← hz, ← hzs, Array.getElem?_toList, Array.getElem?_eq_getElem hq3]
      simp [getElem!_pos, hq3]
    refine Own.newS (vs := (madeCells z.cells (j.toNat * ti.size)).toList) (cap := j.toNat) m O hp (fun q y hy => ?_) (by rw [hlen]; omega) (by unfold maxLen; omega) (by simp [size_madeCells, hz2]) ?_
    · have hy2 := List.getElem?_eq_some_iff.1 hy
      obtain ⟨hq, hyx⟩ := hy2
      simp at hyx
      subst hyx
      have hqi : q < i.toNat := by simpa using hq
      have hm := mul_step (s := R.size) (show q < j.toNat by omega)
      have : ((madeCells z.cells (j.toNat * ti.size)).toList.drop (q * R.size)).take R.size = lz := by
        apply List.ext_getElem?
        intro r
        rw [List.getElem?_take]
        split
        · rename_i hr
          rw [List.getElem?_drop, hget _ (by omega), Nat.mul_comm q, Nat.mul_add_mod, Nat.mod_eq_of_lt hr]
        · rename_i hr
          rw [List.getElem?_eq_none (by omega)]
      rw [this]
      exact hzx c
    · rw [hlen]
      exact rx hx (by rw [hr])
  · cases hrep

/-! ### cutting -/
theorem Sl.cut {xs : List α} {l h m : Nat} {a : Option Addr} {cap : Nat} (hS : Sl R c (.slice a xs.length cap) xs) (h1 : l ≤ h) (h2 : h ≤ xs.length) (h3 : h ≤ m) (h4 : m ≤ cap) :
    Sl R c (.slice (if m = l then a else a.map (·.add (l * R.size))) (h - l) (m - l)) ((xs.drop l).take (h - l)) := by
  obtain ⟨a', cap', hv, h5, h6, h7⟩ := hS
  cases hv
  have hlen : ((xs.drop l).take (h - l)).length = h - l := by rw [List.length_take, List.length_drop]; omega
  refine ⟨_, m - l, by rw [hlen], by rw [hlen]; omega, by omega, fun i x hx => ?_⟩
  rw [List.getElem?_take] at hx
  split at hx
  · rename_i hi
    rw [List.getElem?_drop] at hx
    obtain ⟨b, off, q, rfl, hq, hc⟩ := h7 _ _ hx
    have hne : m ≠ l := by omega
    refine ⟨b, off + l * R.size, q, ?_, hq, fun j u hu => ?_⟩
    · rw [if_neg hne]; simp [Addr.add_lit]
    · have := hc j u hu
      rwa [show off + (l + i) * R.size + j = off + l * R.size + i * R.size + j by rw [Nat.add_mul]; omega] at this
  · cases hx
theorem slc_ok {xs zs : List α} {i j : Int} (h : slc xs i j = some zs) : 0 ≤ i ∧ i ≤ j ∧ j ≤ xs.length ∧ zs = (xs.drop i.toNat).take (j - i).toNat := by
  unfold slc at h
  split at h
  · rename_i hh
    exact ⟨hh.1, hh.2.1, hh.2.2, by simpa using h.symm⟩
  · cases h
theorem slc_len {xs zs : List α} {i j : Int} (h : slc xs i j = some zs) : (zs.length : Int) = j - i := by
  obtain ⟨h1, h2, h3, rfl⟩ := slc_ok h
  rw [List.length_take, List.length_drop]
  omega
/-- 'l[i:j]', 'l[:j]', 'l[i:]' of a slice that stays. -/
theorem run_cut {v : Value} {xs zs : List α} {T E : TypeId} {i j : Int} {k k' : IntKind} (hT : P.underlying T = some (.slice E)) (hE : (P.info? E).map (·.size) = some R.size) (h : Sl R c v xs) (hz : slc xs i j = some zs) :
    ∃ v', (∀ w, (Instr.sliceAt T v (some (.int k i)) (some (.int k' j)) none).run P w = .ok v' w) ∧ Sl R c v' zs := by
  obtain ⟨h1, h2, h3, rfl⟩ := slc_ok hz
  obtain ⟨ti, hti, hsz⟩ := Option.map_eq_some_iff.1 hE
  have hh := h
  obtain ⟨a, cap, rfl, h4, h5, h6⟩ := h
  have hcut := Sl.cut (l := i.toNat) (h := j.toNat) (m := cap) hh (by omega) (by omega) (by omega) (Nat.le_refl _)
  rw [show (j - i).toNat = j.toNat - i.toNat by omega]
  refine ⟨_, fun w => ?_, hcut⟩
  have e1 : 0 ≤ i ∧ i ≤ j := ⟨h1, h2⟩
  have e2 : 0 ≤ j ∧ j ≤ (cap : Int) := ⟨by omega, by omega⟩
  have e3 : ((j.toNat : Nat) : Int) = j := by omega
  simp [Instr.sliceAt, run_underlying hT, Instr.slice, Instr.sliceBounds, Instr.sliceBound, asIntOf, e1, e2, e3, sizeOf, typeInfo, hti, hsz]
theorem run_cutH {v : Value} {xs zs : List α} {T E : TypeId} {j : Int} {k' : IntKind} (hT : P.underlying T = some (.slice E)) (hE : (P.info? E).map (·.size) = some R.size) (h : Sl R c v xs) (hz : slc xs 0 j = some zs) :
    ∃ v', (∀ w, (Instr.sliceAt T v none (some (.int k' j)) none).run P w = .ok v' w) ∧ Sl R c v' zs := by
  obtain ⟨h1, h2, h3, rfl⟩ := slc_ok hz
  obtain ⟨ti, hti, hsz⟩ := Option.map_eq_some_iff.1 hE
  have hh := h
  obtain ⟨a, cap, rfl, h4, h5, h6⟩ := h
  have hcut := Sl.cut (l := 0) (h := j.toNat) (m := cap) hh (by omega) (by omega) (by omega) (Nat.le_refl _)
  rw [show (j - 0).toNat = j.toNat - 0 by omega]
  refine ⟨_, fun w => ?_, hcut⟩
  have e2 : 0 ≤ j ∧ j ≤ (cap : Int) := ⟨by omega, by omega⟩
  simp [Instr.sliceAt, run_underlying hT, Instr.slice, Instr.sliceBounds, Instr.sliceBound, asIntOf, e2, sizeOf, typeInfo, hti]
theorem run_cutL {v : Value} {xs zs : List α} {T E : TypeId} {i : Int} {k : IntKind} (hT : P.underlying T = some (.slice E)) (hE : (P.info? E).map (·.size) = some R.size) (h : Sl R c v xs) (hz : slc xs i xs.length = some zs) :
    ∃ v', (∀ w, (Instr.sliceAt T v (some (.int k i)) none none).run P w = .ok v' w) ∧ Sl R c v' zs := by
  obtain ⟨h1, h2, h3, rfl⟩ := slc_ok hz
  obtain ⟨ti, hti, hsz⟩ := Option.map_eq_some_iff.1 hE
  have hh := h
  obtain ⟨a, cap, rfl, h4, h5, h6⟩ := h
  have hcut := Sl.cut (l := i.toNat) (h := xs.length) (m := cap) hh (by omega) (by omega) (by omega) (Nat.le_refl _)
  rw [show ((xs.length : Int) - i).toNat = xs.length - i.toNat by omega]
  refine ⟨_, fun w => ?_, hcut⟩
  have e1 : 0 ≤ i ∧ i ≤ (xs.length : Int) := ⟨h1, h2⟩
  simp [Instr.sliceAt, run_underlying hT, Instr.slice, Instr.sliceBounds, Instr.sliceBound, asIntOf, e1, sizeOf, typeInfo, hti, hsz]
/-- 'l[:j]', 'l[:j:j]' of an own slice, which then is what is owned. -/
theorem Own.cutH {v : Value} {vs : List Value} {xs zs : List α} {T E : TypeId} {j : Int} {k' : IntKind} (k : Nat) (O : Own c G F) (hk : F[k]? = some (es true R v E vs xs)) (hT : P.underlying T = some (.slice E)) (h : OA R c v vs xs) (hE : (P.info? E).map (·.size) = some R.size) (hz : slc xs 0 j = some zs) :
    ∃ v', (∀ w, (Instr.sliceAt T v none (some (.int k' j)) none).run P w = .ok v' w) ∧ Own c G (F.set k (es true R v' E vs zs)) ∧ OA R c v' vs zs := by
  obtain ⟨h1, h2, h3, rfl⟩ := slc_ok hz
  obtain ⟨ti, hti, hsz⟩ := Option.map_eq_some_iff.1 hE
  have hlen : ((xs.drop (0 : Int).toNat).take (j - 0).toNat).length = j.toNat := by simp; omega
  have hAR : AR R c vs ((xs.drop (0 : Int).toNat).take (j - 0).toNat) := fun i x hx => by
    rw [List.getElem?_take] at hx
    split at hx
    · simp at hx; exact h.2.2 i x hx
    · cases hx
  rcases h.2.1 with ⟨rfl, rfl⟩ | ⟨g, cap, rfl, h4, h5, h6⟩
  · obtain rfl : j = 0 := by simp at h3; omega
    refine ⟨.slice none 0 0, fun w => ?_, ?_, ?_⟩
    · simp [Instr.sliceAt, run_underlying hT, Instr.slice, Instr.sliceBounds, Instr.sliceBound, asIntOf, sizeOf, typeInfo, hti]
    · have : F.set k (es true R (.slice none 0 0) E vs (([] : List α).drop (0 : Int).toNat |>.take (0 - 0 : Int).toNat)) = F := by
        apply List.ext_getElem?
        intro q
        by_cases hq : k = q
        · subst hq; rw [List.getElem?_set_self (List.getElem?_eq_some_iff.1 hk).1, hk]; rfl
        · rw [List.getElem?_set_ne hq]
      rw [this]; exact O
    · exact ⟨h.1, .inl ⟨rfl, by simp⟩, hAR⟩
  · refine ⟨.slice (some ⟨g, 0, none⟩) j.toNat cap, fun w => ?_, ?_, h.1, .inr ⟨g, cap, by rw [hlen], by rw [hlen]; omega, h5, h6⟩, hAR⟩
    · have e2 : 0 ≤ j ∧ j ≤ (cap : Int) := ⟨by omega, by omega⟩
      simp [Instr.sliceAt, run_underlying hT, Instr.slice, Instr.sliceBounds, Instr.sliceBound, asIntOf, e2, sizeOf, typeInfo, hti, Addr.add]
    · refine O.set k hk (D := fun _ => False) ⟨Cx.le.refl c, rfl, fun _ _ _ => ⟨rfl, fun _ => Iff.rfl⟩⟩ (fun b (h : False) => h.elim) (fun b hb => ?_) (fun b hb => .inl hb)
      exact O.on k hk b hb
theorem Own.cutHM {v : Value} {vs : List Value} {xs zs : List α} {T E : TypeId} {j : Int} {k' k2 : IntKind} (k : Nat) (O : Own c G F) (hk : F[k]? = some (es true R v E vs xs)) (hT : P.underlying T = some (.slice E)) (h : OA R c v vs xs) (hE : (P.info? E).map (·.size) = some R.size) (hz : slc xs 0 j = some zs) :
    ∃ v', (∀ w, (Instr.sliceAt T v none (some (.int k' j)) (some (.int k2 j))).run P w = .ok v' w) ∧ Own c G (F.set k (es true R v' E vs zs)) ∧ OA R c v' vs zs := by
  obtain ⟨h1, h2, h3, rfl⟩ := slc_ok hz
  obtain ⟨ti, hti, hsz⟩ := Option.map_eq_some_iff.1 hE
  have hlen : ((xs.drop (0 : Int).toNat).take (j - 0).toNat).length = j.toNat := by simp; omega
  have hAR : AR R c vs ((xs.drop (0 : Int).toNat).take (j - 0).toNat) := fun i x hx => by
    rw [List.getElem?_take] at hx
    split at hx
    · simp at hx; exact h.2.2 i x hx
    · cases hx
  rcases h.2.1 with ⟨rfl, rfl⟩ | ⟨g, cap, rfl, h4, h5, h6⟩
  · obtain rfl : j = 0 := by simp at h3; omega
    refine ⟨.slice none 0 0, fun w => ?_, ?_, ?_⟩
    · simp [Instr.sliceAt, run_underlying hT, Instr.slice, Instr.sliceBounds, Instr.sliceBound, asIntOf, sizeOf, typeInfo, hti]
    · have : F.set k (es true R (.slice none 0 0) E vs (([] : List α).drop (0 : Int).toNat |>.take (0 - 0 : Int).toNat)) = F := by
        apply List.ext_getElem?
        intro q
        by_cases hq : k = q
        · subst hq; rw [List.getElem?_set_self (List.getElem?_eq_some_iff.1 hk).1, hk]; rfl
        · rw [List.getElem?_set_ne hq]
      rw [this]; exact O
    · exact ⟨h.1, .inl ⟨rfl, by simp⟩, hAR⟩
  · refine ⟨.slice (some ⟨g, 0, none⟩) j.toNat j.toNat, fun w => ?_, ?_, h.1, .inr ⟨g, j.toNat, by rw [hlen], by rw [hlen]; omega, by omega, ?_⟩, hAR⟩
    · have e2 : 0 ≤ j ∧ j ≤ (cap : Int) := ⟨by omega, by omega⟩
      simp [Instr.sliceAt, run_underlying hT, Instr.slice, Instr.sliceBounds, Instr.sliceBound, asIntOf, e2, sizeOf, typeInfo, hti, Addr.add]
      omega
    · refine O.set k hk (D := fun _ => False) ⟨Cx.le.refl c, rfl, fun _ _ _ => ⟨rfl, fun _ => Iff.rfl⟩⟩ (fun b (h : False) => h.elim) (fun b hb => ?_) (fun b hb => .inl hb)
      exact O.on k hk b hb
    · have := Nat.mul_le_mul_right R.size (show j.toNat ≤ cap by omega)
      omega

/-! ### pointers and errors held against nil -/
theorem Pt.eqn {g : Nat} {v : Value} {p : Option Nat} (h : Pt g c v p) : (match v with | .pointer (some _) => false | _ => true) = p.isNone := by
  cases p with
  | none => obtain rfl := h; rfl
  | some p => obtain ⟨b, rfl, _⟩ := h; rfl

theorem Pt.cs {g : Nat} {v : Value} {p : Option Nat} (h : Pt g c v p) : (v = .pointer none ∧ p.isNone = true) ∨ ∃ b, v = .pointer (some ⟨b, 0, none⟩) ∧ p.isNone = false := by
  cases p with
  | none => exact .inl ⟨h, rfl⟩
  | some p => obtain ⟨b, h, _⟩ := h; exact .inr ⟨b, h, rfl⟩
theorem RE.cs {S T : TypeId} {v : Value} {e : Er} (h : RE S T c v e) : (v = .nilIface ∧ e.isNil = true) ∨ (∃ a, v = .iface S (.pointer (some a)) ∧ e.isNil = false) ∨ ∃ b, v = .iface T (.pointer (some ⟨b, 0, none⟩)) ∧ e.isNil = false := by
  cases e with
  | nil => exact .inl ⟨h, rfl⟩
  | sent g => obtain ⟨b, h, _⟩ := h; exact .inr (.inl ⟨b, h, rfl⟩)
  | fault i e => obtain ⟨b, u, h, _⟩ := h; exact .inr (.inr ⟨b, h, rfl⟩)

theorem RE.cs3 {S T : TypeId} {v : Value} {e : Er} (h : RE S T c v e) : v = .nilIface ∨ ∃ t a, v = .iface t (.pointer a) := by
  rcases h.cs with ⟨h, _⟩ | ⟨b, h, _⟩ | ⟨b, h, _⟩
  · exact .inl h
  · exact .inr ⟨_, _, h⟩
  · exact .inr ⟨_, _, h⟩

/-! ### objects that are added -/
def Adds (G G' : Gm) : Prop := ∀ g k, G g k ≠ [] → G' g k = G g k
theorem Adds.refl (G : Gm) : Adds G G := fun _ _ _ => rfl
theorem Adds.trans {a b c : Gm} (h : Adds a b) (k : Adds b c) : Adds a c := fun g i hi => (k g i (by rw [h g i hi]; exact hi)).trans (h g i hi)
theorem Adds.get {G G' : Gm} {g k : Nat} {e : En} {l : List En} (h : Adds G G') (hE : G g k = e :: l) : G' g k = e :: l := (h g k (by rw [hE]; exact List.cons_ne_nil _ _)).trans hE
theorem Adds.nil {G G' : Gm} {g k : Nat} (h : Adds G G') (hE : G' g k = []) : G g k = [] := by
  by_cases hn : G g k = []
  · exact hn
  · rw [h g k hn] at hE; exact hE
theorem Kp.adds {G G' : Gm} (O : Own c G' F) (h : Adds G G') : Kp G [] c := fun i e hi => by
  cases i with
  | inl i => simp [at_] at hi
  | inr i =>
    obtain ⟨g, k, r⟩ := i
    simp only [at_] at hi
    have hne : G g k ≠ [] := fun e => by rw [e] at hi; simp at hi
    rw [← h g k hne] at hi
    exact O.gon rfl r hi
theorem Own.stGB {T : TypeId} {e : En} {b j : Nat} {us nw : List Value} {v : Value} {g k : Nat} {E : List En} (r : Nat) (O : Own c (setG G g k E) F) (hx : execOp ρ o = (do Instr.storeAt T (.pointer (some ⟨b, j, none⟩)) v; pure Next.skip : Sem Next)) (hr : E[r]? = some e) (hb : Go.Lt.blk e.v = some b) (hlim : e.lim = 0)
    (hv : v.cells.toList = us) (hs : (P.info? T).map (·.size) = some us.length) (h1 : allOne us) (hl : Nat.ble (j + us.length) e.vs.length = true) (hn : e.vs.take j ++ us ++ e.vs.drop (j + us.length) = nw) :
    ∃ c', (execOp ρ o).run P c.w = .ok .skip c'.w ∧ c.le c' ∧ Own c' (setG G g k (E.set r ⟨e.v, e.T, nw, 0⟩)) F := by
  obtain ⟨c', h1, h2, h3⟩ := Own.stG (P := P) r O hx (setG_same _ _ _ _) hr hb hlim hv hs h1 hl hn
  rw [setG_setG] at h3
  exact ⟨c', h1, h2, h3⟩

/-! ### the entries in another order -/
def selOk (n : Nat) (ks : List Nat) : Bool := ks.all (fun i => Nat.blt i n) && decide ks.Nodup
theorem Own.selD (n : Nat) (ks : List Nat) (O : Own c G F) (hks : selOk n ks = true) (hn : Nat.ble n F.length = true) : Own c G (ks.map (fun i => F.getD i hole) ++ F.drop n) := by
  simp only [selOk, Bool.and_eq_true, List.all_eq_true, decide_eq_true_eq] at hks
  have hn := Nat.le_of_ble_eq_true hn
  refine Own.sel (L := F.take n) ks (by rw [List.take_append_drop]; exact O) hks.2 ?_
  rw [List.map_map]
  refine List.map_congr_left fun i hi => ?_
  have h1 : i < n := by have := hks.1 i hi; simpa [Nat.blt_eq] using this
  simp only [Function.comp, List.getElem?_take, if_pos h1, List.getD_eq_getElem?_getD]
  rw [List.getElem?_eq_getElem (by omega)]
  rfl

/-! ### division by what is no constant -/
def dvg (n : Int) : Option Unit := if n = 0 then none else some ()
theorem dvg_some {n : Int} {u : Unit} (h : dvg n = some u) : n ≠ 0 := by
  intro e
  simp [dvg, e] at h
theorem run_quo {k : IntKind} {a b : Int} {u : Unit} (h : dvg b = some u) (hx : execOp ρ o = (do pure (Next.value (← Op.intDiv .quo k a b)) : Sem Next)) (w : World) : (execOp ρ o).run P w = .ok (.value (.int k (k.wrap (a.tdiv b)))) w := by
  rw [hx]
  exact rv (by simp [Op.intDiv, dvg_some h])
theorem run_rem {k : IntKind} {a b : Int} {u : Unit} (h : dvg b = some u) (hx : execOp ρ o = (do pure (Next.value (← Op.intDiv .rem k a b)) : Sem Next)) (w : World) : (execOp ρ o).run P w = .ok (.value (.int k (a.tmod b))) w := by
  rw [hx]
  exact rv (by simp [Op.intDiv, dvg_some h])
end

/-! ### results that lie in a box -/
section
variable {P : Program} {c : Cx} {n : Nat} {e : Nat → Value} {fn : Func} {R : Ending → World → Prop}
theorem bqgh {Q : Ending → World → Prop} {x : Exit} {w w' : World} (hw : w' = w) (h : bodyQ P fn n Q x e w') : bodyQ P fn n Q x e w := hw ▸ h
theorem retC {t b : Nat} {T U : TypeId} {vs : List Value} (hr : fn.results = #[.cell t T]) (hv : ev n e (.tmp t) = .pointer (some ⟨b, 0, none⟩))
    (hT : (P.underlying T).map (fun d => match d with | .struct _ | .array _ _ => true | _ => false) = some true) (hs : (P.info? T).map (·.size) = some vs.length) (h : c.w.heap[b]? = some (.cells vs.toArray U (0, 0)))
    (hR : R (.returned (.agg vs.toArray)) c.w) : bodyQ P fn n R .ret e c.w := by
  have hl := run_loadC (P := P) (w := c.w) (b := b) (o := 0) (l := vs) hT hs (fun j u hu => by simp [World.cell?, h, hu])
  refine ⟨.agg vs.toArray, ?_, hR⟩
  have ht := tmps_getD n e t
  rw [hv, Array.getD_eq_getD_getElem?] at ht
  simp [results, hr, ht, asAddr, hl]
theorem retCC {t u b b' : Nat} {T U T' U' : TypeId} {vs vs' : List Value} (hr : fn.results = #[.cell t T, .cell u T']) (hv : ev n e (.tmp t) = .pointer (some ⟨b, 0, none⟩))
    (hT : (P.underlying T).map (fun d => match d with | .struct _ | .array _ _ => true | _ => false) = some true) (hs : (P.info? T).map (·.size) = some vs.length) (h : c.w.heap[b]? = some (.cells vs.toArray U (0, 0)))
    (hu : ev n e (.tmp u) = .pointer (some ⟨b', 0, none⟩))
    (hT' : (P.underlying T').map (fun d => match d with | .struct _ | .array _ _ => true | _ => false) = some true) (hs' : (P.info? T').map (·.size) = some vs'.length) (h' : c.w.heap[b']? = some (.cells vs'.toArray U' (0, 0)))
    (hR : R (.returned (.tuple #[.agg vs.toArray, .agg vs'.toArray])) c.w) : bodyQ P fn n R .ret e c.w := by
  have hl := run_loadC (P := P) (w := c.w) (b := b) (o := 0) (l := vs) hT hs (fun j u hu => by simp [World.cell?, h, hu])
  have hl' := run_loadC (P := P) (w := c.w) (b := b') (o := 0) (l := vs') hT' hs' (fun j u hu => by simp [World.cell?, h', hu])
  refine ⟨.tuple #[.agg vs.toArray, .agg vs'.toArray], ?_, hR⟩
  have ht := tmps_getD n e t
  have hu' := tmps_getD n e u
  rw [hv, Array.getD_eq_getD_getElem?] at ht
  rw [hu, Array.getD_eq_getD_getElem?] at hu'
  simp [results, hr, ht, hu', asAddr, hl, hl', Result.andThen]
theorem retCT {t u b : Nat} {T U : TypeId} {vs : List Value} {v : Value} (hr : fn.results = #[.cell t T, .tmp u]) (hv : ev n e (.tmp t) = .pointer (some ⟨b, 0, none⟩)) (hu : ev n e (.tmp u) = v)
    (hT : (P.underlying T).map (fun d => match d with | .struct _ | .array _ _ => true | _ => false) = some true) (hs : (P.info? T).map (·.size) = some vs.length) (h : c.w.heap[b]? = some (.cells vs.toArray U (0, 0)))
    (hR : R (.returned (.tuple #[.agg vs.toArray, v])) c.w) : bodyQ P fn n R .ret e c.w := by
  have hl := run_loadC (P := P) (w := c.w) (b := b) (o := 0) (l := vs) hT hs (fun j u hu => by simp [World.cell?, h, hu])
  refine ⟨.tuple #[.agg vs.toArray, v], ?_, hR⟩
  have ht := tmps_getD n e t
  have hu' := tmps_getD n e u
  rw [hv, Array.getD_eq_getD_getElem?] at ht
  rw [hu, Array.getD_eq_getD_getElem?] at hu'
  simp [results, hr, ht, hu', asAddr, hl, Result.andThen]
theorem retTC {t u b : Nat} {T U : TypeId} {vs : List Value} {v : Value} (hr : fn.results = #[.tmp u, .cell t T]) (hu : ev n e (.tmp u) = v) (hv : ev n e (.tmp t) = .pointer (some ⟨b, 0, none⟩))
    (hT : (P.underlying T).map (fun d => match d with | .struct _ | .array _ _ => true | _ => false) = some true) (hs : (P.info? T).map (·.size) = some vs.length) (h : c.w.heap[b]? = some (.cells vs.toArray U (0, 0)))
    (hR : R (.returned (.tuple #[v, .agg vs.toArray])) c.w) : bodyQ P fn n R .ret e c.w := by
  have hl := run_loadC (P := P) (w := c.w) (b := b) (o := 0) (l := vs) hT hs (fun j u hu => by simp [World.cell?, h, hu])
  refine ⟨.tuple #[v, .agg vs.toArray], ?_, hR⟩
  have ht := tmps_getD n e t
  have hu' := tmps_getD n e u
  rw [hv, Array.getD_eq_getD_getElem?] at ht
  rw [hu, Array.getD_eq_getD_getElem?] at hu'
  simp [results, hr, ht, hu', asAddr, hl, Result.andThen]
theorem ret3 {w : World} {t u s : Nat} {v v' v'' : Value} (hr : fn.results = #[.tmp t, .tmp u, .tmp s]) (hv : ev n e (.tmp t) = v) (hu : ev n e (.tmp u) = v') (hs : ev n e (.tmp s) = v'')
    (h : R (.returned (.tuple #[v, v', v''])) w) : bodyQ P fn n R .ret e w := by
  refine ⟨.tuple #[v, v', v''], ?_, h⟩
  have h1 := tmps_getD n e t
  have h2 := tmps_getD n e u
  have h3 := tmps_getD n e s
  rw [hv, Array.getD_eq_getD_getElem?] at h1
  rw [hu, Array.getD_eq_getD_getElem?] at h2
  rw [hs, Array.getD_eq_getD_getElem?] at h3
  simp [results, hr, h1, h2, h3]
theorem retTCT {s t u b : Nat} {T U : TypeId} {vs : List Value} {v v' : Value} (hr : fn.results = #[.tmp s, .cell t T, .tmp u]) (hs' : ev n e (.tmp s) = v') (hv : ev n e (.tmp t) = .pointer (some ⟨b, 0, none⟩)) (hu : ev n e (.tmp u) = v)
    (hT : (P.underlying T).map (fun d => match d with | .struct _ | .array _ _ => true | _ => false) = some true) (hs : (P.info? T).map (·.size) = some vs.length) (h : c.w.heap[b]? = some (.cells vs.toArray U (0, 0)))
    (hR : R (.returned (.tuple #[v', .agg vs.toArray, v])) c.w) : bodyQ P fn n R .ret e c.w := by
  have hl := run_loadC (P := P) (w := c.w) (b := b) (o := 0) (l := vs) hT hs (fun j u hu => by simp [World.cell?, h, hu])
  refine ⟨.tuple #[v', .agg vs.toArray, v], ?_, hR⟩
  have ht := tmps_getD n e t
  have hu' := tmps_getD n e u
  have hs'' := tmps_getD n e s
  rw [hv, Array.getD_eq_getD_getElem?] at ht
  rw [hu, Array.getD_eq_getD_getElem?] at hu'
  rw [hs', Array.getD_eq_getD_getElem?] at hs''
  simp [results, hr, ht, hu', hs'', asAddr, hl, Result.andThen]
end

/-! ### equality of structs of plain fields -/
inductive EqP (P : Program) (xs ys : Array Value) : List Field → Bool → Prop
  | nil : EqP P xs ys [] true
  | int {f : Field} {fs : List Field} {k : IntKind} {a b : Int} {r : Bool} (hn : decide (f.name = "_") = false) (hT : P.underlying f.type = some (.int k)) (hx : xs[f.offset]? = some (.int k a)) (hy : ys[f.offset]? = some (.int k b)) (h : EqP P xs ys fs r) : EqP P xs ys (f :: fs) ((a == b) && r)
  | bool {f : Field} {fs : List Field} {a b : Bool} {r : Bool} (hn : decide (f.name = "_") = false) (hT : P.underlying f.type = some .bool) (hx : xs[f.offset]? = some (.bool a)) (hy : ys[f.offset]? = some (.bool b)) (h : EqP P xs ys fs r) : EqP P xs ys (f :: fs) ((a == b) && r)

theorem run_part_1 {P : Program} {T : TypeId} {xs : Array Value} {o : Nat} {v : Value} (w : World) (hT : (P.underlying T).map (fun d => match d with | .struct _ | .array _ _ => true | _ => false) = some false) (h : xs[o]? = some v) : (part T xs o).run P w = .ok v w := by
  obtain ⟨d, hd, hx⟩ := Option.map_eq_some_iff.1 hT
  have hi : (isAgg T).run P w = .ok false w := by
    have := run_underlying (P := P) (w := w) hd
    simp only [isAgg, Sem.run_bind, this, Result.andThen_ok]
    cases d <;> simp_all
  simp [part, hi, h, Result.andThen]

theorem EqP.run {P : Program} {xs ys : Array Value} {fs : List Field} {r : Bool} (h : EqP P xs ys fs r) (d : Nat) (w : World) : (Op.eqFields (d + 1) xs ys fs).run P w = .ok r w := by
  induction h with
  | nil => simp [Op.eqFields]
  | @int f fs k a b r hn hT hx hy _ ih =>
    have h1 := run_part_1 w (T := f.type) (by rw [hT]; rfl) hx
    have h2 := run_part_1 w (T := f.type) (by rw [hT]; rfl) hy
    have h3 := run_equalIn_int w d f.type k k a b hT
    simp only [Op.eqFields, if_pos (of_decide_eq_false hn), Sem.run_bind, h1, h2, h3, Result.andThen_ok]
    by_cases hab : a = b <;> simp [hab, ih]
  | @bool f fs a b r hn hT hx hy _ ih =>
    have h1 := run_part_1 w (T := f.type) (by rw [hT]; rfl) hx
    have h2 := run_part_1 w (T := f.type) (by rw [hT]; rfl) hy
    have h3 := run_equalIn_bool' w d f.type a b hT
    simp only [Op.eqFields, if_pos (of_decide_eq_false hn), Sem.run_bind, h1, h2, h3, Result.andThen_ok]
    by_cases hab : a = b <;> simp [hab, ih]

section
variable {P : Program} {ρ : Operand → Value} {o : Oper} {T U : TypeId} {xs ys : Array Value} {fs : Array Field} {r : Bool} 
theorem run_eqlA (ht : P.underlying T = some (.struct fs)) (hp : P.stoodInHeld T = false) (hm : P.eqGuardType P.depth T = false) (h : EqP P xs ys fs.toList r)
    (hx : execOp ρ o = (do pure (Next.value (← (do eqGuard .eql T (.const .nilIface) (.const .nilIface) (.agg xs) (.agg ys); binOp .eql T (.agg xs) (.agg ys)))) : Sem Next)) (w : World) : (execOp ρ o).run P w = .ok (.value (.bool r)) w := by
  have hf : P.fieldsOf T = fs := by simp [Program.fieldsOf, ht]
  rw [hx]
  refine rv ?_
  simp only [Sem.run_bind, run_eqGuard_agg w .eql T (.const .nilIface) (.const .nilIface) xs ys hm, Result.andThen_ok, run_eql_struct, run_equalIn_agg w 9999 T xs ys (by rw [hf]; exact ht) hp]
  rw [hf, h.run]
  rfl
theorem run_neqA (ht : P.underlying T = some (.struct fs)) (hp : P.stoodInHeld T = false) (hm : P.eqGuardType P.depth T = false) (h : EqP P xs ys fs.toList r)
    (hx : execOp ρ o = (do pure (Next.value (← (do eqGuard .neq T (.const .nilIface) (.const .nilIface) (.agg xs) (.agg ys); binOp .neq T (.agg xs) (.agg ys)))) : Sem Next)) (w : World) : (execOp ρ o).run P w = .ok (.value (.bool (!r))) w := by
  have hf : P.fieldsOf T = fs := by simp [Program.fieldsOf, ht]
  rw [hx]
  refine rv ?_
  simp only [Sem.run_bind, run_eqGuard_agg w .neq T (.const .nilIface) (.const .nilIface) xs ys hm, Result.andThen_ok, run_neq_struct, run_equalIn_agg w 9999 T xs ys (by rw [hf]; exact ht) hp]
  rw [hf, h.run]
  rfl
end
end Go.Lt
