/-
  More operations, in our own walk kit: arrays of 16 numbers in place, cuts of them, bits, shifts. No condition; nothing of any program stands here.
-/
import Derived.Test.YtfhhpdggmefcoaaMx
namespace Go.Lt

abbrev T16 := Int × Int × Int × Int × Int × Int × Int × Int × Int × Int × Int × Int × Int × Int × Int × Int
def a16 (t : T16) : List Int := [t.1, t.2.1, t.2.2.1, t.2.2.2.1, t.2.2.2.2.1, t.2.2.2.2.2.1, t.2.2.2.2.2.2.1, t.2.2.2.2.2.2.2.1, t.2.2.2.2.2.2.2.2.1, t.2.2.2.2.2.2.2.2.2.1, t.2.2.2.2.2.2.2.2.2.2.1, t.2.2.2.2.2.2.2.2.2.2.2.1, t.2.2.2.2.2.2.2.2.2.2.2.2.1, t.2.2.2.2.2.2.2.2.2.2.2.2.2.1, t.2.2.2.2.2.2.2.2.2.2.2.2.2.2.1, t.2.2.2.2.2.2.2.2.2.2.2.2.2.2.2]
def l16 (l : List Int) : T16 := (l.getD 0 0, l.getD 1 0, l.getD 2 0, l.getD 3 0, l.getD 4 0, l.getD 5 0, l.getD 6 0, l.getD 7 0, l.getD 8 0, l.getD 9 0, l.getD 10 0, l.getD 11 0, l.getD 12 0, l.getD 13 0, l.getD 14 0, l.getD 15 0)
theorem a16_len (t : T16) : (a16 t).length = 16 := rfl
theorem a16_l16 {l : List Int} (h : l.length = 16) : a16 (l16 l) = l := by
  match l, h with
  | [_, _, _, _, _, _, _, _, _, _, _, _, _, _, _, _], _ => rfl
def aset16 (t : T16) (i x : Int) : T16 := l16 ((a16 t).set i.toNat x)
theorem a16_aset (t : T16) (i x : Int) : a16 (aset16 t i x) = (a16 t).set i.toNat x := a16_l16 (by rw [List.length_set]; rfl)

theorem set_mid {α : Type} (pre l post : List α) {m : Nat} (x : α) (h : m < l.length) : (pre ++ l ++ post).take (pre.length + m * 1) ++ [x] ++ (pre ++ l ++ post).drop (pre.length + m * 1 + 1) = pre ++ l.set m x ++ post := by
  rw [Nat.mul_one, List.append_assoc pre l post, List.take_append, List.drop_append, List.take_of_length_le (by omega), List.drop_of_length_le (l := pre) (by omega), List.nil_append]
  rw [show pre.length + m - pre.length = m by omega, show pre.length + m + 1 - pre.length = m + 1 by omega]
  rw [List.take_append_of_le_length (by omega), List.drop_append_of_le_length (by omega)]
  rw [List.set_eq_take_append_cons_drop, if_pos h]
  simp only [List.append_assoc, List.cons_append, List.nil_append]
theorem set16 {k : IntKind} {t y : T16} {i x z : Int} (h : idx (a16 t) i = some z) (hy : some (aset16 t i x) = some y) (pre post : List Value) :
    (pre ++ (a16 t).map (Value.int k) ++ post).take (pre.length + i.toNat * 1) ++ [.int k x] ++ (pre ++ (a16 t).map (Value.int k) ++ post).drop (pre.length + i.toNat * 1 + 1) = pre ++ (a16 y).map (Value.int k) ++ post := by
  have hl := idx_lt h
  rw [a16_len] at hl
  cases hy
  rw [set_mid _ _ _ _ (by rw [List.length_map, a16_len]; omega), a16_aset, List.map_set]
theorem ble16 {i z : Int} {t : T16} (h : idx (a16 t) i = some z) {p n : Nat} (hn : p + 16 ≤ n) : Nat.ble (p + i.toNat * 1 + 1) n = true := by
  have hl := idx_lt h
  rw [a16_len] at hl
  exact Nat.ble_eq_true_of_le (by omega)

section
variable {P : Program} {c c' : Cx} {G : Gm} {F : List En} {ρ : Operand → Value} {o : Oper}
theorem Own.back {g k : Nat} {E E' : List En} (O : Own c (setG G g k E') F) (hE : G g k = E) (h : E' = E) : Own c G F := by
  subst h
  have e : setG G g k E' = G := by
    funext a b
    simp only [setG]
    split
    · rename_i hh
      obtain ⟨rfl, rfl⟩ := hh
      exact hE.symm
    · rfl
  rwa [e] at O
theorem Own.appSrc {α : Type} {R : Rp α} {E t ty : TypeId} {v : Value} {vs : List Value} {xs ys zs : List α} {z : Value} {by_ : Nat} {m : Bool} {ua : Option Addr} {ucap : Nat} {nw : List Value} (k : Nat) (O : Own c G F) (hk : F[k]? = some (es m R v E vs xs)) (h : OA R c v vs xs)
    (n1 : nw.length = ys.length * R.size) (n2 : ys ≠ [] → ∃ ub uo, ua = some ⟨ub, uo, none⟩ ∧ ∀ j w, nw[j]? = some w → c.w.cell? ⟨ub, uo + j, none⟩ = some w) (n3 : ∀ w ∈ nw, w.oneCell' = true) (n4 : ∀ i x, ys[i]? = some x → R.cells c ((nw.drop (i * R.size)).take R.size) x) (happ : Go.Lt.app xs ys = some zs)
    (hT : P.underlying t = some (.slice E)) (hi : (P.info? E).map (fun i => (i.zero, i.size, i.bytes)) = some (some z, R.size, by_)) (hz : z.cells.size = R.size) (hby : Nat.ble by_ 128 = true)
    (hx : execOp ρ o = (do pure (Next.value (← Builtin.append_ #[t, t] ty #[v, .slice ua ys.length ucap])) : Sem Next)) :
    ∃ v' c', (execOp ρ o).run P c.w = .ok (.value v') c'.w ∧ c.le c' ∧ ∃ vs', Own c' G (F.set k (es m R v' E vs' zs)) ∧ OA R c' v' vs' zs := by
  obtain ⟨v', c', h1, h2, h3⟩ := append_src (P := P) (t := t) (ty := ty) (ucap := ucap) k O hk h n1 n2 n3 n4 happ hT hi hz hby
  exact ⟨v', c', rx hx h1, h2, h3⟩
theorem run_indexA {T E : TypeId} {n sz b j : Nat} {k : IntKind} {i : Int} (hT : P.underlying T = some (.array n E)) (hE : (P.info? E).map (·.size) = some sz) (h0 : 0 ≤ i) (h1 : i < (n : Int)) (w : World) :
    (Instr.indexAt T (.pointer (some ⟨b, j, none⟩)) (.int k i)).run P w = .ok (.pointer (some ⟨b, j + i.toNat * sz, none⟩)) w := by
  obtain ⟨ti, hti, hsz⟩ := Option.map_eq_some_iff.1 hE
  simp [Instr.indexAt, asIntOf, Instr.sureAddr, run_underlying hT, h0, h1, sizeOf, typeInfo, hti, hsz, Addr.add_lit]
/-- 'a[:j]' of an array in place. -/
theorem run_cutA {T E : TypeId} {n b j : Nat} {k : IntKind} {i : Int} (hT : P.underlying T = some (.array n E)) (hE : ((P.info? E).map (·.size)).isSome = true) (h0 : 0 ≤ i) (h1 : i ≤ (n : Int)) (w : World) :
    (Instr.sliceAt T (.pointer (some ⟨b, j, none⟩)) none (some (.int k i)) none).run P w = .ok (.slice (some ⟨b, j, none⟩) i.toNat n) w := by
  cases hti : P.info? E with
  | none => rw [hti] at hE; cases hE
  | some ti =>
    have e2 : 0 ≤ i ∧ i ≤ (n : Int) := ⟨h0, h1⟩
    simp [Instr.sliceAt, Instr.sureAddr, run_underlying hT, Instr.sliceBounds, Instr.sliceBound, asIntOf, e2, sizeOf, typeInfo, hti, Addr.add_lit]
theorem view16 {k : IntKind} {t : T16} {i : Int} {xs : List Int} (h : slc (a16 t) 0 i = some xs) (pre post : List Value) (m : Nat) (u : Value) (hu : (xs.map (Value.int k))[m]? = some u) : (pre ++ (a16 t).map (Value.int k) ++ post)[pre.length + m]? = some u := by
  obtain ⟨h1, h2, h3, rfl⟩ := slc_ok h
  rw [a16_len] at h3
  rw [List.getElem?_map] at hu
  simp only [Int.toNat_zero, List.drop_zero, List.getElem?_take] at hu
  split at hu
  · rename_i hm
    have hm16 : m < 16 := by omega
    rw [List.append_assoc, List.getElem?_append_right (by omega), show pre.length + m - pre.length = m by omega, List.getElem?_append_left (by rw [List.length_map, a16_len]; exact hm16), List.getElem?_map]
    exact hu
  · cases hu

theorem slc_len0 {t : T16} {i : Int} {xs : List Int} (h : slc (a16 t) 0 i = some xs) : xs.length = i.toNat := by
  have := slc_len h
  omega

theorem AllR.map {α : Type} {R : Rp α} {c : Cx} (f : α → List Value) (h : ∀ x, R.cells c (f x) x) : ∀ l : List α, AllR R c (l.map f) l
  | [] => trivial
  | x :: l => ⟨h x, AllR.map f h l⟩

/-! ### bits -/
def ibAnd (k : IntKind) (a b : Int) : Int := k.wrap ((BitVec.ofInt k.bits a &&& BitVec.ofInt k.bits b).toNat : Int)
def ibOr (k : IntKind) (a b : Int) : Int := k.wrap ((BitVec.ofInt k.bits a ||| BitVec.ofInt k.bits b).toNat : Int)
def shn (n : Int) : Option Nat := if n < 0 then none else some n.toNat
theorem shn_some {n : Int} {m : Nat} (h : shn n = some m) : ¬ n < 0 ∧ n.toNat = m := by
  unfold shn at h
  split at h
  · cases h
  · rename_i hn; exact ⟨hn, by simpa using h⟩
theorem run_shl {k k' : IntKind} {a b : Int} {m : Nat} (h : shn b = some m) (hx : execOp ρ o = (do pure (Next.value (← Op.shift .shl k a k' b)) : Sem Next)) (w : World) : (execOp ρ o).run P w = .ok (.value (.int k (k.wrap (a * 2 ^ (min m k.bits))))) w := by
  obtain ⟨h1, h2⟩ := shn_some h
  rw [hx]
  exact rv (by simp [Op.shift, h1, h2])
theorem run_shr {k k' : IntKind} {a b : Int} {m : Nat} (h : shn b = some m) (hx : execOp ρ o = (do pure (Next.value (← Op.shift .shr k a k' b)) : Sem Next)) (w : World) : (execOp ρ o).run P w = .ok (.value (.int k (a.fdiv (2 ^ (min m k.bits))))) w := by
  obtain ⟨h1, h2⟩ := shn_some h
  rw [hx]
  exact rv (by simp [Op.shift, h1, h2])
end
end Go.Lt
