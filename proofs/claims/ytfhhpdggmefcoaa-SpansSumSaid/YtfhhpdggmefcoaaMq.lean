/-
  Short forms of our own walk kit's steps: values that need not be spelled, ways between contexts that are looked for, meeting points. No condition; nothing of any program stands here.
-/
import Derived.Test.YtfhhpdggmefcoaaMp
namespace Go.Lt

/-! ### ways between contexts -/
theorem pt {c c' : Cx} (k : c.le c' := by repeat (first | assumption | exact Cx.le.refl _ | refine Cx.le.trans ?_ (by assumption))) : c.le c' := k
section
variable {c c' : Cx} {α : Type} {R : Rp α}
theorem Sl.m {v : Value} {xs : List α} (h : Sl R c v xs) (k : c.le c' := by repeat (first | assumption | refine Cx.le.trans ?_ (by assumption))) : Sl R c' v xs := h.mono k
theorem OA.m {v : Value} {vs : List Value} {xs : List α} (h : OA R c v vs xs) (k : c.le c' := by repeat (first | assumption | refine Cx.le.trans ?_ (by assumption))) : OA R c' v vs xs := h.mono k
theorem Pt.m {g : Nat} {v : Value} {p : Option Nat} (h : Pt g c v p) (k : c.le c' := by repeat (first | assumption | refine Cx.le.trans ?_ (by assumption))) : Pt g c' v p := h.mono k
theorem RE.m {S T : TypeId} {v : Value} {e : Er} (h : RE S T c v e) (k : c.le c' := by repeat (first | assumption | refine Cx.le.trans ?_ (by assumption))) : RE S T c' v e := h.mono k
theorem mm {b o : Nat} {L : List Value} (h : ∀ j u, L[j]? = some u → Im c b (o + j) u) (k : c.le c' := by repeat (first | assumption | refine Cx.le.trans ?_ (by assumption))) : ∀ j u, L[j]? = some u → Im c' b (o + j) u := fun j u hu => (h j u hu).mono k
theorem mi {b o : Nat} {u : Value} (h : Im c b o u) (k : c.le c' := by repeat (first | assumption | refine Cx.le.trans ?_ (by assumption))) : Im c' b o u := h.mono k
theorem tm {g k b : Nat} (h : c.t g k = some b) (l : c.le c' := by repeat (first | assumption | refine Cx.le.trans ?_ (by assumption))) : c'.t g k = some b := l.t _ _ _ h
end

/-! ### slots written out -/
theorem holds_of {e : Nat → Value} : ∀ {l : List (Nat × Value)}, l.map (fun x => e x.1) = l.map (fun x => x.2) → holds e l
  | [], _ => trivial
  | (t, v) :: l, h => by
    simp only [List.map_cons, List.cons.injEq] at h
    exact ⟨h.1, holds_of h.2⟩
theorem us {e : Nat → Value} {l : List (Nat × Value)} (h : l.map (fun x => e x.1) = l.map (fun x => x.2) := by kernel_rfl) : e = ups e l := ups_self (holds_of h)
/-- A meeting point: a context behind c0, slots that are known. -/
abbrev Jn (c0 : Cx) (q : Cx → List (Nat × Value) → Prop) (e : Nat → Value) (w : World) : Prop := ∃ (c : Cx) (g : Nat → Value) (l : List (Nat × Value)), w = c.w ∧ c0.le c ∧ e = ups g l ∧ q c l

/-- A meeting point is reached. -/
theorem jn {c0 : Cx} {q : Cx → List (Nat × Value) → Prop} {e : Nat → Value} {l : List (Nat × Value)} (c : Cx) (h : q c l) (k : c0.le c := by repeat (first | assumption | exact Cx.le.refl _ | refine Cx.le.trans ?_ (by assumption))) (u : l.map (fun x => e x.1) = l.map (fun x => x.2) := by kernel_rfl) : Jn c0 q e c.w := ⟨c, e, l, rfl, k, us u, h⟩
/-- An end is reached. -/
theorem qq {c0 : Cx} {X : Cx → Value → Prop} {v : Value} (c : Cx) (h : X c v) (k : c0.le c := by repeat (first | assumption | exact Cx.le.refl _ | refine Cx.le.trans ?_ (by assumption))) : Post c0 X (.returned v) c.w := ⟨v, c, rfl, rfl, k, h⟩

/-! ### what a Lean function in Option came to -/
theorem bn {α β : Type} {x : Option α} {f : α → Option β} {r : β} {C : Prop} (H : x.bind f = some r) (k : ∀ a, x = some a → f a = some r → C) : C := by
  obtain ⟨a, h1, h2⟩ := bs H
  exact k a h1 h2
theorem si {α : Type} {a b : α} (h : some a = some b) : a = b := Option.some.inj h
theorem bo (b : Bool) : b = true ∨ b = false := Bool.eq_false_or_eq_true b
theorem Own.sD {c : Cx} {G : Gm} {F : List En} (O : Own c G F) (n : Nat) (ks : List Nat) (h1 : selOk n ks = true := by kernel_rfl) (h2 : Nat.ble n F.length = true := by kernel_rfl) : Own c G (ks.map (fun i => F.getD i hole) ++ F.drop n) := O.selD n ks h1 h2

/-! ### the steps -/
section
variable {P : Program} {c c' : Cx} {G : Gm} {F : List En} {α : Type} {R : Rp α} {ρ : Operand → Value} {o : Oper} {fn : Func}
variable {n : Nat} {ops : Array Oper} {Q : Exit → (Nat → Value) → World → Prop} {rest : List Oper} {e : Nat → Value} {D : List Nat} {K : Cx → Prop} {l : List Oper} {fuel : Nat} {li : List Bool} {a b : Code} {w : World}
/-- The value that an operation leaves. -/
def val : Result Next → Value
  | .ok (.value v) _ => v
  | _ => undef
theorem V (h : WL P ops n Q rest (upO e o.dst (val ((execOp (ev n e) o).run P w))) w) (hg : o.guard = none := by exact rfl) (hr : (execOp (ev n e) o).run P w = .ok (.value (val ((execOp (ev n e) o).run P w))) w := by kernel_rfl) : WL P ops n Q (o :: rest) e w := WL.val0 hg hr h
theorem vx {s : Sem Value} {v : Value} (h0 : s.run P w = .ok v w) (h : WL P ops n Q rest (upO e o.dst v) w) (hg : o.guard = none := by exact rfl) (hx : execOp (ev n e) o = (do pure (Next.value (← s)) : Sem Next) := by kernel_rfl) : WL P ops n Q (o :: rest) e w := WL.val0 hg (rx hx h0) h
theorem vr (v : Value) (hr : (execOp (ev n e) o).run P w = .ok (.value v) w) (h : WL P ops n Q rest (upO e o.dst v) w) (hg : o.guard = none := by exact rfl) : WL P ops n Q (o :: rest) e w := WL.val0 hg hr h
theorem vbx {s : Sem Value} {t d : Bool} (ht : t = d) (h0 : s.run P w = .ok (.bool t) w) (h : WL P ops n Q rest (upO e o.dst (.bool d)) w) (hg : o.guard = none := by exact rfl) (hx : execOp (ev n e) o = (do pure (Next.value (← s)) : Sem Next) := by kernel_rfl) : WL P ops n Q (o :: rest) e w := WL.valb0 ht hg (rx hx h0) h
theorem cl {f : FuncId} {args : Array Value} {X : Cx → Value → Prop} (hc : Calls P f args c.w (Post c X)) (h : ∀ v c', c.le c' → X c' v → WL P ops n Q rest (upO e o.dst v) c'.w) (hg : o.guard = none := by exact rfl) (hr : (execOp (ev n e) o).run P c.w = .ok (.enter f args) c.w := by kernel_rfl) : WL P ops n Q (o :: rest) e c.w := WL.callP hg hr hc h
theorem me {X : Value → Cx → Prop} (hr : ∃ v c', (execOp (ev n e) o).run P c.w = .ok (.value v) c'.w ∧ c.le c' ∧ X v c') (h : ∀ v c', c.le c' → X v c' → WL P ops n Q rest (upO e o.dst v) c'.w) (hg : o.guard = none := by exact rfl) : WL P ops n Q (o :: rest) e c.w := WL.mem hg hr h
theorem md {X : Cx → Prop} (hr : ∃ c', (execOp (ev n e) o).run P c.w = .ok .skip c'.w ∧ c.le c' ∧ X c') (h : ∀ c', c.le c' → X c' → WL P ops n Q rest (upO e o.dst undef) c'.w) (hg : o.guard = none := by exact rfl) : WL P ops n Q (o :: rest) e c.w := WL.memD hg hr h
theorem cn {α : Type} {t : Bool} {x y : Option α} {r : α} {cd : Operand} (H : (if t = true then x else y) = some r) (h1 : t = true → x = some r → W P n a Q e w) (h2 : t = false → y = some r → W P n b Q e w) (hc : ev n e cd = .bool t := by kernel_rfl) : W P n (.cond cd a b) Q e w :=
  W.cond hc (fun h => h1 h (it h H)) (fun h => h2 h (ie h H))
theorem lp {σ τ : Type} {step : σ → Option (σ ⊕ τ)} {fuel : Nat} {s : σ} {t : τ} (H : iter fuel step s = some t) (F : σ → (Nat → Value) → World → Prop) (Out : τ → Exit → (Nat → Value) → World → Prop)
    (hb : ∀ s x e w, step s = some x → F s e w → W P n a (lpQ F Out x) e w) (h0 : F s e w) (hQ : ∀ x e w, Out t x e w → Q x e w) : W P n (.loop a) Q e w := W.loop F Out hb H h0 hQ
theorem en {P : Program} {f : FuncId} {fn : Func} {code : Code} {n : Nat} {l : List Value} {w : World} {R : Ending → World → Prop} (hf : P.funcs[f]? = some fn) (hb : fn.body = some code) (hn : fn.ntmps = n) (h : W P n code (bodyQ P fn n R) (ar l) w) (hl : Nat.ble l.length n = true := by rfl) : Calls P f l.toArray w R := enter hf hb hn hl h

/-! ### regions that draw their order -/
theorem tv (i : Nat) (h : AC D K P l n Q fuel (li.set i true) (upO e o.dst (val ((execOp (ev n e) o).run P c.w))) c) (hi : l.toArray[i]? = some o := by exact rfl) (ht : tk l n li i = true := by kernel_rfl) (hw : wants l.toArray n e o = true := by kernel_rfl)
    (hy : ∀ w, (execOp (ev n e) o).run P w = .ok (.value (val ((execOp (ev n e) o).run P c.w))) w := by intro w; kernel_rfl) : AC D K P l n Q (fuel + 1) li e c := AC.take i _ hi ht hw (fun c' _ => hy c'.w) h
theorem tx (i : Nat) {s : Sem Value} {v : Value} (h0 : ∀ c', c.le c' → s.run P c'.w = .ok v c'.w) (h : AC D K P l n Q fuel (li.set i true) (upO e o.dst v) c) (hi : l.toArray[i]? = some o := by exact rfl) (ht : tk l n li i = true := by kernel_rfl) (hw : wants l.toArray n e o = true := by kernel_rfl)
    (hx : execOp (ev n e) o = (do pure (Next.value (← s)) : Sem Next) := by kernel_rfl) : AC D K P l n Q (fuel + 1) li e c := AC.take i v hi ht hw (fun c' k => rx hx (h0 c' k)) h
theorem tkx (i : Nat) {s : Sem Value} {v : Value} (p : K c) (h0 : ∀ c', c.le c' → K c' → s.run P c'.w = .ok v c'.w) (h : AC D K P l n Q fuel (li.set i true) (upO e o.dst v) c) (hi : l.toArray[i]? = some o := by exact rfl) (ht : tk l n li i = true := by kernel_rfl) (hB : okB l.toArray li i D = true := by kernel_rfl)
    (hw : wants l.toArray n e o = true := by kernel_rfl) (hx : execOp (ev n e) o = (do pure (Next.value (← s)) : Sem Next) := by kernel_rfl) : AC D K P l n Q (fuel + 1) li e c := AC.takeK i v p hi ht hB hw (fun c' k q => rx hx (h0 c' k q)) h
theorem tp (i : Nat) (h : AC D K P l n Q fuel (li.set i true) (upO e o.dst undef) c) (hi : l.toArray[i]? = some o := by exact rfl) (ht : tk l n li i = true := by kernel_rfl) (hw : wants l.toArray n e o = false := by kernel_rfl) : AC D K P l n Q (fuel + 1) li e c := AC.pass i hi ht hw h
theorem dn (h : Q .normal e c.w) (hr : Region.ready .any l.toArray li.toArray = [] := by kernel_rfl) : AC D K P l n Q fuel li e c := AC.done hr h
theorem o1 (i : Nat) (h : Go1 D K P l n Q fuel li e c i) (hr : Region.ready .any l.toArray li.toArray = [i] := by kernel_rfl) : AC D K P l n Q (fuel + 1) li e c := AC.one i hr h
theorem mn2 (i j : Nat) (h1 : Go1 D K P l n Q fuel li e c i) (h2 : Go1 D K P l n Q fuel li e c j) (hr : Region.ready .any l.toArray li.toArray = [i, j] := by kernel_rfl) : AC D K P l n Q (fuel + 1) li e c := AC.many [i, j] (by simp) hr ⟨h1, h2, trivial⟩
theorem mn3 (i j k : Nat) (h1 : Go1 D K P l n Q fuel li e c i) (h2 : Go1 D K P l n Q fuel li e c j) (h3 : Go1 D K P l n Q fuel li e c k) (hr : Region.ready .any l.toArray li.toArray = [i, j, k] := by kernel_rfl) : AC D K P l n Q (fuel + 1) li e c := AC.many [i, j, k] (by simp) hr ⟨h1, h2, h3, trivial⟩
theorem gm (i : Nat) {X : Value → Cx → Prop} (hr : ∃ v c', (execOp (ev n e) o).run P c.w = .ok (.value v) c'.w ∧ c.le c' ∧ X v c') (h : ∀ v c', c.le c' → X v c' → (D.contains i = true ∨ K c') ∧ AC D K P l n Q fuel (li.set i true) (upO e o.dst v) c')
    (hi : l.toArray[i]? = some o := by exact rfl) (hsl : slotsIn n l = true := by kernel_rfl) (hw : wants l.toArray n e o = true := by kernel_rfl) : Go1 D K P l n Q fuel li e c i := Go1.mem i hi hsl hw hr h
theorem gD (i : Nat) {X : Cx → Prop} (hr : ∃ c', (execOp (ev n e) o).run P c.w = .ok .skip c'.w ∧ c.le c' ∧ X c') (h : ∀ c', c.le c' → X c' → (D.contains i = true ∨ K c') ∧ AC D K P l n Q fuel (li.set i true) (upO e o.dst undef) c')
    (hi : l.toArray[i]? = some o := by exact rfl) (hsl : slotsIn n l = true := by kernel_rfl) (hw : wants l.toArray n e o = true := by kernel_rfl) : Go1 D K P l n Q fuel li e c i := Go1.memD i hi hsl hw hr h
theorem gc (i : Nat) {f : FuncId} {args : Array Value} {X : Cx → Value → Prop} (hc : Calls P f args c.w (Post c X)) (h : ∀ v c', c.le c' → X c' v → (D.contains i = true ∨ K c') ∧ AC D K P l n Q fuel (li.set i true) (upO e o.dst v) c')
    (hi : l.toArray[i]? = some o := by exact rfl) (hsl : slotsIn n l = true := by kernel_rfl) (hw : wants l.toArray n e o = true := by kernel_rfl) (hr : (execOp (ev n e) o).run P c.w = .ok (.enter f args) c.w := by kernel_rfl) : Go1 D K P l n Q fuel li e c i := Go1.callP i hi hsl hw hr hc h
theorem gl (i : Nat) {s : Sem Value} {v : Value} (h0 : s.run P c.w = .ok v c.w) (h : AC D K P l n Q fuel (li.set i true) (upO e o.dst v) c)
    (hi : l.toArray[i]? = some o := by exact rfl) (hsl : slotsIn n l = true := by kernel_rfl) (hw : wants l.toArray n e o = true := by kernel_rfl) (hx : execOp (ev n e) o = (do pure (Next.value (← s)) : Sem Next) := by kernel_rfl) (hk : D.contains i = true := by kernel_rfl) : Go1 D K P l n Q fuel li e c i := Go1.late i v hi hsl hw (rx hx h0) hk h
theorem rD (D : List Nat) (K : Cx → Prop) {id : Nat} (O : Own c G F) (h : ∀ c', c.le c' → Own c' G F → AC D K P l n Q l.length (List.replicate l.length false) e c') (hm : P.follows .mixedOrders = true := by kernel_rfl) : W P n (.region id l.toArray true) Q e c.w := W.regionD D K O hm h
theorem mT {A B : Prop} (h : B) (k : A) : (True ∧ A) → A := fun x => x.2

/-! ### loads -/
theorem l1 {T : TypeId} {b o : Nat} {v : Value} {d : TypeDesc} (hT : P.underlying T = some d) (h : Im c b o v) (hd : (match d with | .struct _ | .array _ _ => false | _ => true) = true := by rfl) : (Instr.loadAt T (.pointer (some ⟨b, o, none⟩))).run P c.w = .ok v c.w := run_load1 hT hd h
theorem lN (T : TypeId) {b o : Nat} {l : List Value} (h : ∀ j u, l[j]? = some u → Im c b (o + j) u) (hT : (P.underlying T).map (fun d => match d with | .struct _ | .array _ _ => true | _ => false) = some true := by kernel_rfl) (hs : (P.info? T).map (·.size) = some l.length := by kernel_rfl) :
    (Instr.loadAt T (.pointer (some ⟨b, o, none⟩))).run P c.w = .ok (.agg l.toArray) c.w := run_loadN hT hs h
theorem le1 (j : Nat) {T : TypeId} {e : En} {b : Nat} {v : Value} {d : TypeDesc} (hT : P.underlying T = some d) (h : e.on c) (hd : (match d with | .struct _ | .array _ _ => false | _ => true) = true := by rfl) (hb : blk e.v = some b := by rfl) (hj : e.vs[j]? = some v := by rfl) :
    (Instr.loadAt T (.pointer (some ⟨b, j, none⟩))).run P c.w = .ok v c.w := ldE1 hT hd h hb hj
theorem leN (T j : Nat) (l : List Value) {e : En} {b : Nat} (h : e.on c) (hT : (P.underlying T).map (fun d => match d with | .struct _ | .array _ _ => true | _ => false) = some true := by kernel_rfl) (hs : (P.info? T).map (·.size) = some l.length := by kernel_rfl) (hb : blk e.v = some b := by rfl) (hl : (e.vs.drop j).take l.length = l := by rfl) :
    (Instr.loadAt T (.pointer (some ⟨b, j, none⟩))).run P c.w = .ok (.agg l.toArray) c.w := ldEN hT hs h hb hl
theorem ix {v : Value} {xs : List α} {T E : TypeId} {i : Int} {x : α} (hT : P.underlying T = some (.slice E)) (h : Sl R c v xs) (hi : idx xs i = some x) (hE : (P.info? E).map (·.size) = some R.size := by kernel_rfl) :
    (Instr.indexAt T v (.int .i64 i)).run P w = .ok (.pointer (some ⟨sb v, so v + i.toNat * R.size, none⟩)) w := run_index hT hE h hi w
theorem ixO {v : Value} {vs : List Value} {xs : List α} {T E : TypeId} {i : Int} {x : α} (hT : P.underlying T = some (.slice E)) (h : OA R c v vs xs) (hi : idx xs i = some x) (hE : (P.info? E).map (·.size) = some R.size := by kernel_rfl) :
    (Instr.indexAt T v (.int .i64 i)).run P w = .ok (.pointer (some ⟨sb v, i.toNat * R.size, none⟩)) w := run_indexO hT hE h hi w
theorem ln {v : Value} {xs : List α} {T E : TypeId} (ty : TypeId) (hT : P.underlying T = some (.slice E)) (h : Sl R c v xs) : (Builtin.len_ #[T] ty #[v]).run P w = .ok (.int .i64 (xs.length : Int)) w := run_len hT h w
theorem lnO {v : Value} {vs : List Value} {xs : List α} {T E : TypeId} (ty : TypeId) (hT : P.underlying T = some (.slice E)) (h : OA R c v vs xs) : (Builtin.len_ #[T] ty #[v]).run P w = .ok (.int .i64 (xs.length : Int)) w := run_lenO hT h w

/-! ### what is written -/
theorem bx (T : TypeId) (vs : List Value) (O : Own c G F) (hr : (execOp ρ o).run P c.w = .ok (.value (.pointer (some ⟨c.w.heap.size, 0, none⟩))) (c.w.alloc (.cells vs.toArray T)) := by kernel_rfl) :
    ∃ v c', (execOp ρ o).run P c.w = .ok (.value v) c'.w ∧ c.le c' ∧ ∃ b, v = .pointer (some ⟨b, 0, none⟩) ∧ Own c' G F ∧ ∀ j u, vs[j]? = some u → Im c' b (0 + j) u := Own.bx O hr
theorem al (T : TypeId) (vs : List Value) (O : Own c G F) (hr : (execOp ρ o).run P c.w = .ok (.value (.pointer (some ⟨c.w.heap.size, 0, none⟩))) (c.w.alloc (.cells vs.toArray T)) := by kernel_rfl) :
    ∃ v c', (execOp ρ o).run P c.w = .ok (.value v) c'.w ∧ c.le c' ∧ ∃ b, v = .pointer (some ⟨b, 0, none⟩) ∧ Own c' G (⟨.pointer (some ⟨b, 0, none⟩), T, vs, 0⟩ :: F) := Own.al O hr
/-- A whole struct is laid over a box. -/
theorem sA (T : TypeId) (us : List Value) {e : En} {b : Nat} (k : Nat) (O : Own c G F) (h1 : allOne us) (hx : execOp ρ o = (do Instr.storeAt T (.pointer (some ⟨b, 0, none⟩)) (.agg us.toArray); pure Next.skip : Sem Next) := by kernel_rfl) (hk : F[k]? = some e := by rfl) (hb : blk e.v = some b := by rfl) (hlim : e.lim = 0 := by rfl)
    (hs : (P.info? T).map (·.size) = some us.length := by kernel_rfl) (hl : Nat.ble (0 + us.length) e.vs.length = true := by rfl) (hn : e.vs.take 0 ++ us ++ e.vs.drop (0 + us.length) = us := by rfl) : ∃ c', (execOp ρ o).run P c.w = .ok .skip c'.w ∧ c.le c' ∧ Own c' G (F.set k ⟨e.v, e.T, us, 0⟩) := Own.st k O hx hk hb hlim rfl hs h1 hl hn
theorem sB (T j : Nat) (us nw : List Value) {e : En} {b : Nat} (k : Nat) (O : Own c G F) (h1 : allOne us) (hx : execOp ρ o = (do Instr.storeAt T (.pointer (some ⟨b, j, none⟩)) (.agg us.toArray); pure Next.skip : Sem Next) := by kernel_rfl) (hk : F[k]? = some e := by rfl) (hb : blk e.v = some b := by rfl) (hlim : e.lim = 0 := by rfl)
    (hs : (P.info? T).map (·.size) = some us.length := by kernel_rfl) (hl : Nat.ble (j + us.length) e.vs.length = true := by rfl) (hn : e.vs.take j ++ us ++ e.vs.drop (j + us.length) = nw := by rfl) : ∃ c', (execOp ρ o).run P c.w = .ok .skip c'.w ∧ c.le c' ∧ Own c' G (F.set k ⟨e.v, e.T, nw, 0⟩) := Own.st k O hx hk hb hlim rfl hs h1 hl hn
theorem cells1 {v : Value} (h : v.oneCell' = true) : v.cells.toList = [v] := by
  cases v <;> first | rfl | (simp [Value.oneCell'] at h)
/-- A single cell is written. -/
theorem sC (T j : Nat) (v : Value) (nw : List Value) {e : En} {b : Nat} (k : Nat) (O : Own c G F) (h1 : allOne [v]) (hx : execOp ρ o = (do Instr.storeAt T (.pointer (some ⟨b, j, none⟩)) v; pure Next.skip : Sem Next) := by kernel_rfl) (hk : F[k]? = some e := by rfl) (hb : blk e.v = some b := by rfl) (hlim : e.lim = 0 := by rfl)
    (hs : (P.info? T).map (·.size) = some 1 := by kernel_rfl) (hl : Nat.ble (j + 1) e.vs.length = true := by rfl) (hn : e.vs.take j ++ [v] ++ e.vs.drop (j + 1) = nw := by rfl) : ∃ c', (execOp ρ o).run P c.w = .ok .skip c'.w ∧ c.le c' ∧ Own c' G (F.set k ⟨e.v, e.T, nw, 0⟩) := Own.st k O hx hk hb hlim (cells1 h1.1) hs h1 hl hn
theorem gB (T j : Nat) (us nw : List Value) {e : En} {b g k : Nat} {E : List En} (r : Nat) (O : Own c G F) (hE : G g k = E) (h1 : allOne us) (hx : execOp ρ o = (do Instr.storeAt T (.pointer (some ⟨b, j, none⟩)) (.agg us.toArray); pure Next.skip : Sem Next) := by kernel_rfl) (hr : E[r]? = some e := by rfl) (hb : blk e.v = some b := by rfl) (hlim : e.lim = 0 := by rfl)
    (hs : (P.info? T).map (·.size) = some us.length := by kernel_rfl) (hl : Nat.ble (j + us.length) e.vs.length = true := by rfl) (hn : e.vs.take j ++ us ++ e.vs.drop (j + us.length) = nw := by rfl) : ∃ c', (execOp ρ o).run P c.w = .ok .skip c'.w ∧ c.le c' ∧ Own c' (setG G g k (E.set r ⟨e.v, e.T, nw, 0⟩)) F := Own.stG r O hx hE hr hb hlim rfl hs h1 hl hn
theorem gC (T j : Nat) (v : Value) (nw : List Value) {e : En} {b g k : Nat} {E : List En} (r : Nat) (O : Own c G F) (hE : G g k = E) (h1 : allOne [v]) (hx : execOp ρ o = (do Instr.storeAt T (.pointer (some ⟨b, j, none⟩)) v; pure Next.skip : Sem Next) := by kernel_rfl) (hr : E[r]? = some e := by rfl) (hb : blk e.v = some b := by rfl) (hlim : e.lim = 0 := by rfl)
    (hs : (P.info? T).map (·.size) = some 1 := by kernel_rfl) (hl : Nat.ble (j + 1) e.vs.length = true := by rfl) (hn : e.vs.take j ++ [v] ++ e.vs.drop (j + 1) = nw := by rfl) : ∃ c', (execOp ρ o).run P c.w = .ok .skip c'.w ∧ c.le c' ∧ Own c' (setG G g k (E.set r ⟨e.v, e.T, nw, 0⟩)) F := Own.stG r O hx hE hr hb hlim (cells1 h1.1) hs h1 hl hn
/-- A slice written out. -/
theorem sl (R : Rp α) (E : TypeId) (ls : List (List Value)) (xs : List α) (O : Own c G F) (hR : AllR R c ls xs) (hp : 0 < R.size := by exact Nat.succ_pos _) (hm : Nat.ble xs.length 4294967296 = true := by kernel_rfl)
    (hr : (execOp ρ o).run P c.w = .ok (.value (.slice (some ⟨c.w.heap.size, 0, none⟩) xs.length xs.length)) (c.w.alloc (.cells ls.flatten.toArray E)) := by kernel_rfl) :
    ∃ v c', (execOp ρ o).run P c.w = .ok (.value v) c'.w ∧ c.le c' ∧ ∃ vs, Own c' G (es true R v E vs xs :: F) ∧ OA R c' v vs xs := Own.sl true O hp rfl hR hm hr
theorem ap (R : Rp α) (z : Value) (by_ ty : Nat) {E t : TypeId} {v u : Value} {vs : List Value} {xs ys zs : List α} {m : Bool} (k : Nat) (O : Own c G F) (h : OA R c v vs xs) (hS : Sl R c u ys) (happ : app xs ys = some zs) (hT : P.underlying t = some (.slice E)) (hk : F[k]? = some (es m R v E vs xs) := by rfl)
    (hi : (P.info? E).map (fun i => (i.zero, i.size, i.bytes)) = some (some z, R.size, by_) := by kernel_rfl) (hz : z.cells.size = R.size := by rfl) (hby : Nat.ble by_ 128 = true := by kernel_rfl) (hx : execOp ρ o = (do pure (Next.value (← Builtin.append_ #[t, t] ty #[v, u])) : Sem Next) := by kernel_rfl) :
    ∃ v' c', (execOp ρ o).run P c.w = .ok (.value v') c'.w ∧ c.le c' ∧ ∃ vs', Own c' G (F.set k (es m R v' E vs' zs)) ∧ OA R c' v' vs' zs := Own.app k O hk h hS happ hT hi hz hby hx

/-! ### returns -/
variable {RR : Ending → World → Prop}
theorem r0 (h : RR (.returned (.tuple #[])) w) (hr : fn.results = #[] := by rfl) : bodyQ P fn n RR .ret e w := ret0 hr h
theorem n0 (h : RR (.returned (.tuple #[])) w) (hr : fn.results = #[] := by rfl) : bodyQ P fn n RR .normal e w := end0 hr h
theorem r1 {t : Nat} {v : Value} (h : RR (.returned v) w) (hr : fn.results = #[.tmp t] := by rfl) (hv : ev n e (.tmp t) = v := by kernel_rfl) : bodyQ P fn n RR .ret e w := ret1 hr hv h
theorem r2 {t u : Nat} {v v' : Value} (h : RR (.returned (.tuple #[v, v'])) w) (hr : fn.results = #[.tmp t, .tmp u] := by rfl) (hv : ev n e (.tmp t) = v := by kernel_rfl) (hu : ev n e (.tmp u) = v' := by kernel_rfl) : bodyQ P fn n RR .ret e w := ret2 hr hv hu h
theorem r3 {t u s : Nat} {v v' v'' : Value} (h : RR (.returned (.tuple #[v, v', v''])) w) (hr : fn.results = #[.tmp t, .tmp u, .tmp s] := by rfl) (hv : ev n e (.tmp t) = v := by kernel_rfl) (hu : ev n e (.tmp u) = v' := by kernel_rfl) (hs : ev n e (.tmp s) = v'' := by kernel_rfl) : bodyQ P fn n RR .ret e w := ret3 hr hv hu hs h
end
abbrev I (x : Int) : Value := .int .i64 x
abbrev J (x : Int) : Value := .int .i32 x
abbrev B (x : Bool) : Value := .bool x
abbrev Q (b : Nat) : Value := .pointer (some ⟨b, 0, none⟩)
abbrev Y : Value := .slice none 0 0
abbrev Eb (b : Nat) (T : TypeId) (l : List Value) : En := ⟨.pointer (some ⟨b, 0, none⟩), T, l, 0⟩
end Go.Lt
