/-
  Equality of structs of plain fields, division, in our own walk kit. No condition; nothing of any program stands here.
-/
import Derived.Test.YtjclbilkinepmaaLw
namespace Go.Lt

/-- Fields of numbers, bools and texts: whether two structs have the same. -/
inductive EqP (P : Program) (xs ys : Array Value) : List Field → Bool → Prop
  | nil : EqP P xs ys [] true
  | int {f : Field} {fs : List Field} {k : IntKind} {a b : Int} {r : Bool} (hn : decide (f.name = "_") = false) (hT : P.underlying f.type = some (.int k)) (hx : xs[f.offset]? = some (.int k a)) (hy : ys[f.offset]? = some (.int k b)) (h : EqP P xs ys fs r) : EqP P xs ys (f :: fs) ((a == b) && r)
  | bool {f : Field} {fs : List Field} {a b : Bool} {r : Bool} (hn : decide (f.name = "_") = false) (hT : P.underlying f.type = some .bool) (hx : xs[f.offset]? = some (.bool a)) (hy : ys[f.offset]? = some (.bool b)) (h : EqP P xs ys fs r) : EqP P xs ys (f :: fs) ((a == b) && r)

theorem run_part_1 {P : Program} {T : TypeId} {xs : Array Value} {o : Nat} {v : Value} (w : World) (hT : (P.underlying T).map (fun d => match d with | .struct _ | .array _ _ => true | _ => false) = some false) (h : xs[o]? = some v) : (part T xs o).run P w = .ok v w := by
  obtain ⟨d, hd, hx⟩ := Option.map_eq_some_iff.1 hT
  have hi : (isAgg T).run P w = .ok false w := by
    have := run_underlying (P := P) (w := w) hd
    simp only [isAgg, Sem.run_bind, this, Result.andThen_ok]
    cases d <;> simp_all
  simp [part, hi, h, Result.andThen]

theorem EqP.run {P : Program} {xs ys : Array Value} {fs : List Field} {r : Bool} (h : EqP P xs ys fs r) (d : Nat) (w : World) : (Op.eqFields (d + 1) xs ys fs).run P w = .ok r w := by
  induction h with
  | nil => simp [Op.eqFields]
  | @int f fs k a b r hn hT hx hy _ ih =>
    have h1 := run_part_1 w (T := f.type) (by rw [hT]; rfl) hx
    have h2 := run_part_1 w (T := f.type) (by rw [hT]; rfl) hy
    have h3 := run_equalIn_int w d f.type k k a b hT
    simp only [Op.eqFields, if_pos (of_decide_eq_false hn), Sem.run_bind, h1, h2, h3, Result.andThen_ok]
    by_cases hab : a = b <;> simp [hab, ih]
  | @bool f fs a b r hn hT hx hy _ ih =>
    have h1 := run_part_1 w (T := f.type) (by rw [hT]; rfl) hx
    have h2 := run_part_1 w (T := f.type) (by rw [hT]; rfl) hy
    have h3 := run_equalIn_bool' w d f.type a b hT
    simp only [Op.eqFields, if_pos (of_decide_eq_false hn), Sem.run_bind, h1, h2, h3, Result.andThen_ok]
    by_cases hab : a = b <;> simp [hab, ih]

section
variable {P : Program} {ρ : Operand → Value} {o : Oper} {T U : TypeId} {xs ys : Array Value} {fs : Array Field} {r : Bool} 
theorem run_eqlA (w : World) (ht : P.underlying T = some (.struct fs)) (hp : P.stoodInHeld T = false) (hm : P.eqGuardType P.depth T = false) (h : EqP P xs ys fs.toList r)
    (hx : execOp ρ o = (do pure (Next.value (← (do eqGuard .eql T (.const .nilIface) (.const .nilIface) (.agg xs) (.agg ys); binOp .eql T (.agg xs) (.agg ys)))) : Sem Next)) : (execOp ρ o).run P w = .ok (.value (.bool r)) w := by
  have hf : P.fieldsOf T = fs := by simp [Program.fieldsOf, ht]
  rw [hx]
  refine rv ?_
  simp only [Sem.run_bind, run_eqGuard_agg w .eql T (.const .nilIface) (.const .nilIface) xs ys hm, Result.andThen_ok, run_eql_struct, run_equalIn_agg w 9999 T xs ys (by rw [hf]; exact ht) hp]
  rw [hf, h.run]
  rfl
theorem run_neqA (w : World) (ht : P.underlying T = some (.struct fs)) (hp : P.stoodInHeld T = false) (hm : P.eqGuardType P.depth T = false) (h : EqP P xs ys fs.toList r)
    (hx : execOp ρ o = (do pure (Next.value (← (do eqGuard .neq T (.const .nilIface) (.const .nilIface) (.agg xs) (.agg ys); binOp .neq T (.agg xs) (.agg ys)))) : Sem Next)) : (execOp ρ o).run P w = .ok (.value (.bool (!r))) w := by
  have hf : P.fieldsOf T = fs := by simp [Program.fieldsOf, ht]
  rw [hx]
  refine rv ?_
  simp only [Sem.run_bind, run_eqGuard_agg w .neq T (.const .nilIface) (.const .nilIface) xs ys hm, Result.andThen_ok, run_neq_struct, run_equalIn_agg w 9999 T xs ys (by rw [hf]; exact ht) hp]
  rw [hf, h.run]
  rfl
end

/-! ### division by what is no constant -/
def dvg (n : Int) : Option Unit := if n = 0 then none else some ()
theorem dvg_some {n : Int} {u : Unit} (h : dvg n = some u) : n ≠ 0 := by
  intro e
  simp [dvg, e] at h
theorem run_quo {P : Program} {ρ : Operand → Value} {o : Oper} {k : IntKind} {a b : Int} (w : World) {u : Unit} (h : dvg b = some u) (hx : execOp ρ o = (do pure (Next.value (← Op.intDiv .quo k a b)) : Sem Next)) : (execOp ρ o).run P w = .ok (.value (.int k (k.wrap (a.tdiv b)))) w := by
  rw [hx]
  exact rv (by simp [Op.intDiv, dvg_some h])
theorem run_rem {P : Program} {ρ : Operand → Value} {o : Oper} {k : IntKind} {a b : Int} (w : World) {u : Unit} (h : dvg b = some u) (hx : execOp ρ o = (do pure (Next.value (← Op.intDiv .rem k a b)) : Sem Next)) : (execOp ρ o).run P w = .ok (.value (.int k (a.tmod b))) w := by
  rw [hx]
  exact rv (by simp [Op.intDiv, dvg_some h])

end Go.Lt
