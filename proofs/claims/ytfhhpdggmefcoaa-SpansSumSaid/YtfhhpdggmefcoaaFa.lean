/-
  From what a call is handed to our own contexts: arguments read as data, the variables that are laid, what stays. No condition; nothing of any program stands here.
-/
import Derived.Test.YtfhhpdggmefcoaaMx
import Derived.OpenShut
import Derived.LaidLaws
import Derived.Handed
import Derived.Lay
import Derived.JoinedOf
namespace Go.Lt
open Go.ChangeShapes Go.WideShapes Go.RowKit

def C0 (w : World) : Cx := ⟨w, fun _ _ => False, fun _ _ => none⟩
theorem own0 (w : World) : Own (C0 w) (fun _ _ => []) [] :=
  ⟨⟨fun i e h => by cases i <;> simp [at_] at h, fun i j e e' h => by cases i <;> simp [at_] at h⟩, fun _ _ _ => rfl⟩
theorem im0 {w : World} {b o : Nat} {v : Value} (h : w.cell? ⟨b, o, none⟩ = some v) : Im (C0 w) b o v := by
  refine ⟨?_, id, h⟩
  unfold World.cell? at h
  split at h
  · rename_i hh; exact (Array.getElem?_eq_some_iff.1 hh).1
  · cases h

theorem wf64 {n : Int} (h : (Lit.int .i64 n).wf = true) : -9223372036854775808 ≤ n ∧ n ≤ 9223372036854775807 := by
  simp only [Lit.wf, IntKind.min, IntKind.max, IntKind.signed, IntKind.bits, Bool.and_eq_true, decide_eq_true_eq, if_true] at h
  omega
theorem wf32 {n : Int} (h : (Lit.int .i32 n).wf = true) : -2147483648 ≤ n ∧ n ≤ 2147483647 := by
  simp only [Lit.wf, IntKind.min, IntKind.max, IntKind.signed, IntKind.bits, Bool.and_eq_true, decide_eq_true_eq, if_true] at h
  omega

/-! ### what reads at a type -/
def Rd (P : Program) (t : TypeId) {α : Type} (R : Rp α) (K : α → Prop) : Prop :=
  P.cellsOf t = R.size ∧ ∀ {H : Type} {enc : TypeId × Value → H} {w : World} {sp : Nat → Bool} {held : Bool} {fuel : Nat} {cs : List Value} {x : DataW H × List MemPlace},
    DataW.trod enc P w 0 sp held fuel t cs = some x → ∃ y, R.cells (C0 w) cs y ∧ K y

theorem Rd.int {P : Program} {t : TypeId} {k : IntKind} (ht : P.underlying t = some (.int k)) (hc : P.cellsOf t = 1) : Rd P t (RI k) (fun n => (Lit.int k n).wf = true) :=
  ⟨hc, fun h => by obtain ⟨n, rfl, _, hw⟩ := DataW.trod_int ht h; exact ⟨n, rfl, hw⟩⟩
theorem Rd.bool {P : Program} {t : TypeId} (ht : P.underlying t = some .bool) (hc : P.cellsOf t = 1) : Rd P t RB (fun _ => True) :=
  ⟨hc, fun h => by obtain ⟨n, rfl, _⟩ := DataW.trod_bool ht h; exact ⟨n, rfl, trivial⟩⟩
theorem Rd.str {P : Program} {t : TypeId} (ht : P.underlying t = some .string) (hc : P.cellsOf t = 1) : Rd P t RS (fun s => s.size ≤ maxLen) :=
  ⟨hc, fun h => by obtain ⟨n, rfl, _, hw⟩ := DataW.trod_string ht h; exact ⟨n, rfl, hw⟩⟩

theorem pick {α : Type} {Q : Nat → α → Prop} : ∀ n, (∀ i, i < n → ∃ x, Q i x) → ∃ xs : List α, xs.length = n ∧ ∀ i x, xs[i]? = some x → Q i x
  | 0, _ => ⟨[], rfl, fun i x h => by simp at h⟩
  | n + 1, h => by
    obtain ⟨xs, hl, hx⟩ := pick n fun i hi => h i (Nat.lt_succ_of_lt hi)
    obtain ⟨y, hy⟩ := h n (Nat.lt_succ_self n)
    refine ⟨xs ++ [y], by simp [hl], fun i x hi => ?_⟩
    rw [List.getElem?_append] at hi
    split at hi
    · exact hx i x hi
    · rename_i hn
      have h1 := (List.getElem?_eq_some_iff.1 hi).1
      simp only [List.length_cons, List.length_nil] at h1
      obtain rfl : i = n := by omega
      rw [hl, Nat.sub_self] at hi
      cases hi
      exact hy

theorem cells_at {w : World} {a : Addr} {n : Nat} {cs : List Value} (h : w.cells? 0 a n = some cs) : cs.length = n ∧ ∀ j u, cs[j]? = some u → w.cell? (a.add j) = some u := by
  unfold World.cells? at h
  rw [if_pos (Nat.zero_le _)] at h
  have hl : cs.length = n := by simpa using mapM_some_length h
  refine ⟨hl, fun j u hu => ?_⟩
  have hjn : j < n := by have := (List.getElem?_eq_some_iff.1 hu).1; omega
  have hj := mapM_some_get h j j (List.getElem?_range hjn)
  rw [hu] at hj
  exact hj

theorem Rd.slice {P : Program} {t e : TypeId} {α : Type} {R : Rp α} {K : α → Prop} (ht : P.underlying t = some (.slice e)) (hc : P.cellsOf t = 1) (h0 : 0 < R.size) (h : Rd P e R K) : Rd P t (RL R) (fun xs => xs.length ≤ maxLen ∧ ∀ x ∈ xs, K x) := by
  refine ⟨hc, fun {H enc w sp held fuel cs x} hd => ?_⟩
  rcases DataW.trod_slice ht hd with ⟨rfl, _⟩ | ⟨a, len, cap, elems, rest, n, _, rfl, _, _, hl, hm, hlen, hel, _, _⟩
  · exact ⟨[], ⟨_, rfl, Sl.nl R _⟩, Nat.zero_le _, fun x hx => by cases hx⟩
  · obtain ⟨b, o, s⟩ := a
    have key : ∀ i, i < len → ∃ x, K x ∧ ∃ b' off l, (some ⟨b, o, s⟩ : Option Addr) = some ⟨b', off, none⟩ ∧ R.cells (C0 w) l x ∧ ∀ j u, l[j]? = some u → Im (C0 w) b' (off + i * R.size + j) u := by
      intro i hi
      have hs : s = none := by
        have hE := hel 0 (by omega)
        rw [List.getElem?_eq_getElem (show 0 < elems.length by omega), Option.bind_eq_some_iff] at hE
        obtain ⟨cs, hcs, _⟩ := hE
        obtain ⟨c1, c2⟩ := cells_at hcs
        have hp : 0 < cs.length := by rw [c1, h.1]; exact h0
        have := World.cell?_spot (c2 0 _ (List.getElem?_eq_getElem hp))
        simpa [Addr.add] using this
      subst hs
      have hE := hel i hi
      rw [List.getElem?_eq_getElem (show i < elems.length by omega), Option.bind_eq_some_iff] at hE
      obtain ⟨cs, hcs, hr⟩ := hE
      obtain ⟨c1, c2⟩ := cells_at hcs
      obtain ⟨x, hx, hk⟩ := h.2 hr
      refine ⟨x, hk, b, o, cs, rfl, hx, fun j u hu => im0 ?_⟩
      have := c2 j u hu
      rw [Go.WideShapes.add_plain, Go.WideShapes.add_plain, h.1] at this
      exact this
    obtain ⟨xs, hxl, hxs⟩ := pick len key
    subst hxl
    refine ⟨xs, ⟨_, rfl, some ⟨b, o, s⟩, cap, rfl, hl, hm, fun i x hx => (hxs i x hx).2⟩, Nat.le_trans hl hm, fun x hx => ?_⟩
    obtain ⟨i, hi⟩ := List.mem_iff_getElem?.1 hx
    exact (hxs i x hi).1

theorem Rd.field {P : Program} {H : Type} {enc : TypeId × Value → H} {w : World} {sp : Nat → Bool} {held : Bool} {n : Nat} {cs : List Value} {fs : Array Field} {xs : List (DataW H × List MemPlace)}
    (hf : ∀ (i : Nat) (f : Field), fs[i]? = some f → DataW.trod enc P w 0 sp held n f.type ((cs.drop f.offset).take (P.cellsOf f.type)) = xs[i]?) (hx : xs.length = fs.size)
    (i : Nat) {f : Field} (hi : fs[i]? = some f) {α : Type} {R : Rp α} {K : α → Prop} (h : Rd P f.type R K) : ∃ y, R.cells (C0 w) ((cs.drop f.offset).take R.size) y ∧ K y := by
  have hlt := (Array.getElem?_eq_some_iff.1 hi).1
  have := hf i f hi
  rw [List.getElem?_eq_getElem (show i < xs.length by omega), h.1] at this
  exact h.2 this

theorem Rd.elem {P : Program} {H : Type} {enc : TypeId × Value → H} {w : World} {sp : Nat → Bool} {held : Bool} {n m : Nat} {e : TypeId} {cs : List Value} {xs : List (DataW H × List MemPlace)}
    (hf : ∀ (i : Nat), i < n → DataW.trod enc P w 0 sp held m e ((cs.drop (i * P.cellsOf e)).take (P.cellsOf e)) = xs[i]?) (hx : xs.length = n)
    (i : Nat) (hi : i < n) {α : Type} {R : Rp α} {K : α → Prop} (h : Rd P e R K) : ∃ y, R.cells (C0 w) ((cs.drop (i * R.size)).take R.size) y ∧ K y := by
  have := hf i hi
  rw [List.getElem?_eq_getElem (show i < xs.length by omega), h.1] at this
  exact h.2 this

/-! ### arguments -/
section
variable {P : Program} {H : Type} {enc : TypeId × Value → H} {w : World} {sp : Nat → Bool} {held : Bool} {t : TypeId} {v : Value} {d : DataW H} {p : List MemPlace}
theorem arg_slice {e : TypeId} {α : Type} {R : Rp α} {K : List α → Prop} (ht : P.underlying t = some (.slice e)) (h : Rd P t (RL R) K) (hok : Value.okWide P w .any 0 t v) (hd : DataW.Trod enc P w 0 sp held t v d p) :
    ∃ xs, Sl R (C0 w) v xs ∧ K xs := by
  obtain ⟨fuel, hd⟩ := hd
  obtain ⟨xs, ⟨u, hu, hs⟩, hk⟩ := h.2 hd
  have : v.cells = #[v] := by
    unfold Value.okWide at hok
    simp only [ht] at hok
    unfold Cell.okWide at hok
    cases v <;> simp [ht, Cell.ok] at hok ⊢
    all_goals rfl
  rw [this] at hu
  cases hu
  exact ⟨xs, hs, hk⟩
theorem arg_agg {α : Type} {R : Rp α} {K : α → Prop} {fs : Array Field} (ht : P.underlying t = some (.struct fs)) (h : Rd P t R K) (hok : Value.okWide P w .any 0 t v) (hd : DataW.Trod enc P w 0 sp held t v d p) :
    ∃ cs x, v = .agg cs ∧ R.cells (C0 w) cs.toList x ∧ K x := by
  obtain ⟨fuel, hd⟩ := hd
  obtain ⟨x, hx, hk⟩ := h.2 hd
  unfold Value.okWide at hok
  rw [ht] at hok
  obtain ⟨cs, rfl, _⟩ := hok
  exact ⟨cs, x, rfl, hx, hk⟩
end

/-! ### what stays -/
theorem trodAll_kept {H : Type} {enc : TypeId × Value → H} {P : Program} (hl : laidOutB P = true) {w w' : World} (h : ∀ k, k < w.heap.size → w'.heap[k]? = w.heap[k]?) {sp : Nat → Bool} :
    ∀ {ts : List TypeId} {vs : List Value} {ds : List (DataW H)} {ps : List MemPlace}, (ts.all fun t => P.readableRec t && decide (t < P.types.size)) = true → (∀ x ∈ ps, x.block < w.heap.size) → (∀ x ∈ ps, sp x.block = true) →
    DataW.TrodAll enc P w 0 (fun _ => true) true ts vs ds ps → DataW.TrodAll enc P w' 0 sp true ts vs ds ps
  | [], [], [], _, _, _, _, hA => hA
  | [], _ :: _, _, _, _, _, _, hA => hA.elim
  | [], [], _ :: _, _, _, _, _, hA => hA.elim
  | _ :: _, [], _, _, _, _, _, hA => hA.elim
  | _ :: _, _ :: _, [], _, _, _, _, hA => hA.elim
  | t :: ts, v :: vs, d :: ds, ps, hr, hlt, hsp, hA => by
    obtain ⟨p, q, h1, h2, rfl⟩ := hA
    simp only [List.all_cons, Bool.and_eq_true, decide_eq_true_eq] at hr
    refine ⟨p, q, WideElems.Trod_stays hl hr.1.1 hr.1.2 h1 (fun x hx => ?_) (fun x hx => hsp x (List.mem_append_left _ hx)), trodAll_kept hl h hr.2 (fun x hx => hlt x (List.mem_append_right _ hx)) (fun x hx => hsp x (List.mem_append_right _ hx)) h2, rfl⟩
    have hb := hlt x (List.mem_append_left _ hx)
    cases x with
    | cell b o => exact World.cell?_of_block (w := w) (h b hb)
    | map b => exact h b hb

/-- A law's own answer: arguments as they were, no variable changed, what was there stays. -/
theorem post_same {H : Type} {enc : TypeId × Value → H} {P : Program} {f : Func} {s : ChangeSpec} {apart fresh handsOn again : Bool} {w w' : World} {args : Array Value} {v : Value} {ds gs : List (DataW H)} {ps before : List MemPlace}
    (hW : DataW.Whole enc P f.params.toList s.vars apart w args.toList ds gs before) (he : before = ps ++ [])
    (hr : ∀ (b : Nat) (sp : Nat → Bool) (hd : Bool), DataW.TrodAll enc P w' b sp hd f.resultTypes.toList (v.resultList f.resultTypes.size) (s.fn H (ds ++ gs)).results [])
    (ha : ∀ sp : Nat → Bool, (∀ x ∈ ps, sp x.block = true) → DataW.TrodAll enc P w' 0 sp true f.params.toList args.toList (s.fn H (ds ++ gs)).args ps)
    (hv : ∀ sp : Nat → Bool, DataW.TrodVars enc P w' sp s.vars (s.fn H (ds ++ gs)).vars [])
    (hg : Gr w w') (ho : ∀ (j : Nat) (t : TypeId) (r : Value), f.resultTypes[j]? = some t → (v.resultList f.resultTypes.size)[j]? = some r → Value.okWide P w' .any 0 t r) : s.post enc P f apart fresh handsOn again w args v w' := by
  rw [List.append_nil] at he
  subst he
  have hlt : ∀ x ∈ before, x.block < w.heap.size := fun x hx => hW.lt x hx
  refine ⟨ds, gs, before, [], before, [], hW, hr _ _ _, ha _ (fun x hx => decide_eq_true (hlt x hx)), hv _, World.keptBut_mono (fun x hx => ⟨hx, .inr (.inl hx)⟩) (hg.frame (· ∈ before)), fun _ => ?_⟩
  obtain ⟨_, _, _, _, _, hz, hn⟩ := hW
  refine ⟨ho, _, _, ([] ++ before) ++ [], ⟨[] ++ before, [], trodAll_append (ha _ fun _ _ => rfl) (hr _ _ _), hv _, rfl, fun b off hb => ?_, fun e => ?_⟩, fun x hx _ => by simpa using hx⟩
  · have hb' : MemPlace.cell b off ∈ before := by simpa using hb
    have := hlt _ hb'
    rw [hg.2.1 ⟨b, off, none⟩ this]
    exact hz b off (by simpa using hb')
  · simpa using hn e

/-! ### the variables that are laid -/
theorem metH {P : Program} {laid : List (String × DataW Unit)} {w : World} (h : (laid.filter fun x => x.2.handleName?.isSome) = []) : laidMetH P laid w = laidMet P laid w := by
  unfold laidMetH
  rw [h]

theorem laid_sent {P : Program} {W : World} {ti tp te ts : TypeId} {ms : Array (String × TypeId)} {f : Field} (hi : P.underlying ti = some (.interface ms)) (hrow : ∀ u, P.typeName? 3 u = some "*errors.errorString" → u = tp)
    (hp : P.underlying tp = some (.pointer te)) (he : P.underlying te = some (.struct #[f])) (hft : f.type = ts) (hfo : f.offset = 0) (hs : P.underlying ts = some .string) (hc : P.cellsOf te = 1) (hcs : P.cellsOf ts = 1) :
    ∀ {laid : List (String × DataW Unit)} {ps : List MemPlace}, DataW.LaidVars P W laid ps → (∀ b off, MemPlace.cell b off ∈ ps → (∃ c t, W.heap[b]? = some (.cells c t (0, 0))) ∧ ∀ u v, W.cell? ⟨b, off, none⟩ = some (.iface u v) → Value.okWide P W .any 0 u v) →
    ∀ n text g, (n, DataW.iface "*errors.errorString" (.ptr (.agg [.lit (.string text)]))) ∈ laid → P.globalNamed n = some g → (P.globals[g]?).map (·.type) = some ti → ∃ a s, W.cell? ⟨g, 0, none⟩ = some (.iface tp (.pointer (some a))) ∧ W.cell? a = some (.string s) ∧ s.data.toList = text ∧ ∃ c t, W.heap[a.block]? = some (.cells c t (0, 0))
  | [], _, _, _, _, _, _, hm, _, _ => by cases hm
  | (n', d) :: r, ps, ⟨g', t, cs, fuel, p, q, hg', ht', hv, hd, hr, e⟩, hrows, n, text, g, hm, hg, ht => by
    subst e
    rcases List.mem_cons.1 hm with hh | hm
    · cases hh
      obtain rfl := Option.some.inj (hg.symm.trans hg')
      obtain rfl := Option.some.inj (ht.symm.trans ht')
      obtain ⟨l⟩ := cs
      have ok : ∀ u v, l = [.iface u v] → Value.okWide P W .any 0 u v := fun u v e => by
        subst e
        exact (hrows g 0 (by simp [MemPlace.row])).2 u v (by simpa using World.var?_cell hg hv 0)
      obtain ⟨a, s, rfl, h1, h2, _, rfl⟩ := errorString_of_trod hi hrow hp he hft hfo hs hc hcs hd ok
      exact ⟨a, s, by simpa using World.var?_cell hg hv 0, h1, h2, (hrows a.block a.off (by simp [MemPlace.row])).1⟩
    · exact laid_sent hi hrow hp he hft hfo hs hc hcs hr (fun b off hb => hrows b off (List.mem_append_right _ hb)) n text g hm hg ht
/-! ### a row's closed facts, one by one -/
theorem joined {P : Program} {f : FuncId} {fn : Func} {s : ChangeSpec} {c : OpenClaim} (l1 : laidOutB P = true) (l2 : mapsRowed P = true) (l3 : (P.stops == []) = true) (l4 : (P.stopKnobs == []) = true) (l5 : P.stopsHeard = true) (l6 : P.mayEnter = true)
    (l7 : (c.lifted == P.liftsFinal) = true) (l8 : (P.make == some c.make) = true) (l9 : (c.plainKeys == P.plainKeys) = true)
    (a0 : c.wf (OpenSpec.ofChange s) = true) (a1 : (fn.params.all (P.readableRec ·) && namedTie P c.named s.vars && (c.stops == []) && (c.knobs == [])) = true)
    (a2 : (c.inPlace == P.inPlace f) = true) (a3 : (c.unfollowed == P.unfollowed f) = true) (a4 : (c.recurses == P.recurses f) = true) (a5 : (c.named == P.varsNamed f) = true)
    (a6 : ((c.maps == (fn.params.toList ++ s.plain.varTypes P).any (P.mapsRec ·)) && (c.ifaces == (fn.params.toList ++ s.plain.varTypes P).any (P.ifacesRec ·)) && (c.mapsOut == P.mapsAmong fn.resultTypes.toList) &&
      (c.loops == (fn.params.toList ++ s.plain.varTypes P).any (P.loopsFrom ·)) && (c.wideKeys == (fn.params.toList ++ s.plain.varTypes P ++ fn.resultTypes.toList).any (P.wideKeysFrom ·)) &&
      s.vars.all (P.varReadable ·) && fn.resultTypes.all (fun t => P.readableRec t && decide (t < P.types.size)) && (c.ifacesOut == fn.resultTypes.toList.any (P.ifacesRec ·)) && (c.loopsOut == fn.resultTypes.toList.any (P.loopsFrom ·))) = true)
    (a7 : (c.shortTexts.isNone && (c.kinds == (if c.domain.isEmpty then [] else fn.params.toList.map fun t => match P.underlying t with | some (.int k) => some k | _ => none)) && (c.pinned == c.pinnedBy) &&
      (c.veiled == (fn.params.toList ++ s.plain.varTypes P ++ fn.resultTypes.toList).any (P.veiledRec ·)) && c.veiledFits P fn.params.toList (fn.params.toList ++ s.plain.varTypes P ++ fn.resultTypes.toList)) = true) : joinedFacts P f fn s c = true := by
  simp only [Bool.and_eq_true] at a1 a6 a7
  obtain ⟨⟨⟨b1, b2⟩, b3⟩, b4⟩ := a1
  obtain ⟨⟨⟨⟨⟨⟨⟨⟨c1, c2⟩, c3⟩, c4⟩, c5⟩, c6⟩, c7⟩, c8⟩, c9⟩ := a6
  obtain ⟨⟨⟨⟨d1, d2⟩, d3⟩, d4⟩, d5⟩ := a7
  unfold joinedFacts
  simp only [Bool.and_eq_true]
  exact ⟨⟨⟨⟨⟨⟨⟨⟨⟨⟨⟨⟨⟨⟨⟨⟨⟨⟨⟨⟨⟨⟨⟨⟨⟨⟨⟨⟨⟨⟨⟨a0, l1⟩, l2⟩, b1⟩, b2⟩, b3⟩, l3⟩, b4⟩, l4⟩, a2⟩, a3⟩, a4⟩, a5⟩, c1⟩, c2⟩, c3⟩, c4⟩, c5⟩, c6⟩, c7⟩, c8⟩, c9⟩, l9⟩, d1⟩, l5⟩, l6⟩, l7⟩, l8⟩, d2⟩, d3⟩, d4⟩, d5⟩
end Go.Lt
