import Derived.Test.YthokmpbbkpjhbaaGreatDoorMq
import Derived.Test.YthokmpbbkpjhbaaGreatDoorProg
import Derived.Test.YthokmpbbkpjhbaaGreatDoorMy
import Derived.Shelf.Spec.SlicesInsertGrow
import Derived.Shelf.Slices.Delete
namespace Go.Proofs.YthokmpbbkpjhbaaGreatDoor
open Go Go.Lt
set_option maxRecDepth 10000
set_option linter.unusedVariables false
attribute [local irreducible] W WL AC
/-- 'copy' over cells of a block that has a row. -/
theorem copy_run {Q : Program} (w : World) (dT sT ty E : TypeId) (g o dLen dCap : Nat) (a : Addr) (sLen sCap n size : Nat) (us vs : List Value) (T : TypeId)
    (hu : Q.underlying dT = some (.slice E)) (hs : (Q.info? E).map (·.size) = some size) (hn : Nat.min sLen dLen = n) (hul : us.length = n * size)
    (hsrc : ∀ j v, us[j]? = some v → w.cell? (a.add j) = some v) (hrow : w.heap[g]? = some (.cells vs.toArray T (0, 0))) (hl : o + us.length ≤ vs.length) (h1 : ∀ v ∈ us, v.oneCell' = true) :
    (Builtin.copy_ #[dT, sT] ty #[.slice (some ⟨g, o, none⟩) dLen dCap, .slice (some a) sLen sCap]).run Q w = .ok (goInt n) (w.setRow g (vs.take o ++ us ++ vs.drop (o + us.length)).toArray) := by
  obtain ⟨i, hi, hsz⟩ := Option.map_eq_some_iff.1 hs
  have hf := run_firstCells_some (P := Q) (w := w) size n a sLen sCap us hul hsrc
  have hst := run_storeCells_at Q g o T us 0 vs.toArray w hrow (by simpa using hl) h1
  simp only [Nat.add_zero] at hst
  simp [Builtin.copy_, run_underlying hu, Builtin.lenOf, sizeOf, typeInfo, hi, hsz, hn, hf, hst]

set_option maxHeartbeats 4000000 in
set_option maxRecDepth 100000 in
theorem ins_shift {w : World} {g n cap i vb m vc : Nat} {vs us vs2 : List Value} {T T2 : TypeId} (hrow : w.heap[g]? = some (.cells vs.toArray T (0, 0))) (hrow2 : w.heap[vb]? = some (.cells vs2.toArray T2 (0, 0)))
    (hi : i < n) (hm : 0 < m) (hroom : n + m ≤ cap) (hcap : cap * 2 ≤ vs.length) (hc63 : cap ≤ 9223372036854775807) (hvb : vb ≠ g) (hul : us.length = m * 2) (hus : ∀ (j : Nat) (v : Value), us[j]? = some v → vs2[j]? = some v)
    (h1 : ∀ v ∈ vs.take (n * 2), v.oneCell' = true) (h2 : ∀ v ∈ us, v.oneCell' = true) :
    Calls Tryz.prog 218 #[.slice (some ⟨g, 0, none⟩) n cap, .int .i64 i, .slice (some ⟨vb, 0, none⟩) m vc] w fun e w' =>
      e = .returned (.slice (some ⟨g, 0, none⟩) (n + m) cap) ∧ w' = (w.drew.setRow g (vs.take ((i + m) * 2) ++ (vs.drop (i * 2)).take ((n - i) * 2) ++ vs.drop ((n + m) * 2)).toArray).setRow g (vs.take (i * 2) ++ us ++ (vs.drop (i * 2)).take ((n - i) * 2) ++ vs.drop ((n + m) * 2)).toArray := by
  have hsz : (Tryz.prog.info? 101).map (·.size) = some 2 := by kernel_rfl
  have hov : ∀ lb cb, (callFunc 249 #[.slice (some ⟨vb, 0, none⟩) m vc, .slice (some ⟨g, (i + m) * 2, none⟩) lb cb]).run Tryz.prog w = .ok (.value (.bool false)) w := fun lb cb => by
    rw [run_callFunc_extern Tryz.func249 (by kernel_rfl) (by kernel_rfl) (by kernel_rfl) (e := Extern.SlicesOverlaps.overlaps #[69, 69] #[4]) (by kernel_rfl)]
    rw [Lib.run_overlaps_apart w 69 4 101 Tryz.underlying69 2 (fun w => by kernel_rfl) ⟨vb, 0, none⟩ ⟨g, (i + m) * 2, none⟩ m vc lb cb hvb T2 T vs2.length vs.length (by simp [World.shape?, hrow2]) (by simp [World.shape?, hrow]) (by omega) (by simp [World.frozen?, hrow2]) (by simp [World.frozen?, hrow2])]
    rfl
  have hdl : ((vs.drop (i * 2)).take ((n - i) * 2)).length = (n - i) * 2 := by rw [List.length_take, List.length_drop]; omega
  have hcp1 : ∀ ty dc sc, (Builtin.copy_ #[69, 69] ty #[.slice (some ⟨g, (i + m) * 2, none⟩) (n + m - (i + m)) dc, .slice (some ⟨g, i * 2, none⟩) (n + m - i) sc]).run Tryz.prog w.drew = .ok (goInt ((n - i : Nat) : Int)) (w.drew.setRow g (vs.take ((i + m) * 2) ++ (vs.drop (i * 2)).take ((n - i) * 2) ++ vs.drop ((n + m) * 2)).toArray) := fun ty dc sc => by
    have := copy_run (Q := Tryz.prog) w.drew 69 69 ty 101 g ((i + m) * 2) (n + m - (i + m)) dc ⟨g, i * 2, none⟩ (n + m - i) sc (n - i) 2 ((vs.drop (i * 2)).take ((n - i) * 2)) vs T Tryz.underlying69 hsz (by simp only [Nat.min_def]; split <;> omega) hdl
      (fun j v hj => by
        rw [Addr.add_lit]
        rw [List.getElem?_take] at hj
        split at hj
        · rw [List.getElem?_drop] at hj
          rw [cell_of_row w.drew g (i * 2 + j) vs.toArray T (0, 0) hrow, List.getElem?_toArray]
          exact hj
        · cases hj) hrow (by rw [hdl]; omega) (fun v hv => h1 v (by rw [show (n - i) * 2 = n * 2 - i * 2 by omega, ← List.drop_take] at hv; exact List.mem_of_mem_drop hv))
    rw [hdl, show (i + m) * 2 + (n - i) * 2 = (n + m) * 2 by omega] at this
    exact this
  obtain ⟨W1, hW1⟩ : ∃ W1, W1 = w.drew.setRow g (vs.take ((i + m) * 2) ++ (vs.drop (i * 2)).take ((n - i) * 2) ++ vs.drop ((n + m) * 2)).toArray := ⟨_, rfl⟩
  have hr1 : W1.heap[g]? = some (.cells (vs.take ((i + m) * 2) ++ (vs.drop (i * 2)).take ((n - i) * 2) ++ vs.drop ((n + m) * 2)).toArray T (0, 0)) := by
    rw [hW1]
    exact setRow_heap w.drew g vs.toArray _ T (0, 0) hrow
  have hr2 : W1.heap[vb]? = some (.cells vs2.toArray T2 (0, 0)) := by
    rw [hW1, setRow_other w.drew g vb _ hvb]
    exact hrow2
  have hA2 : (vs.take ((i + m) * 2) ++ (vs.drop (i * 2)).take ((n - i) * 2) ++ vs.drop ((n + m) * 2)).take (i * 2) = vs.take (i * 2) := by
    rw [List.append_assoc, List.take_append_of_le_length (by rw [List.length_take]; omega), List.take_take, Nat.min_eq_left (by omega)]
  have hA3 : (vs.take ((i + m) * 2) ++ (vs.drop (i * 2)).take ((n - i) * 2) ++ vs.drop ((n + m) * 2)).drop (i * 2 + m * 2) = (vs.drop (i * 2)).take ((n - i) * 2) ++ vs.drop ((n + m) * 2) := by
    have hl : (vs.take ((i + m) * 2)).length = i * 2 + m * 2 := by rw [List.length_take]; omega
    rw [List.append_assoc, ← hl, List.drop_left]
  have hcp2 : ∀ ty dc, (Builtin.copy_ #[69, 69] ty #[.slice (some ⟨g, i * 2, none⟩) (n + m - i) dc, .slice (some ⟨vb, 0, none⟩) m vc]).run Tryz.prog W1 = .ok (goInt m) (W1.setRow g (vs.take (i * 2) ++ us ++ (vs.drop (i * 2)).take ((n - i) * 2) ++ vs.drop ((n + m) * 2)).toArray) := fun ty dc => by
    have := copy_run (Q := Tryz.prog) W1 69 69 ty 101 g (i * 2) (n + m - i) dc ⟨vb, 0, none⟩ m vc m 2 us _ T Tryz.underlying69 hsz (by simp only [Nat.min_def]; split <;> omega) hul
      (fun j v hj => by
        rw [Addr.add_lit, cell_of_row W1 vb (0 + j) vs2.toArray T2 (0, 0) hr2, List.getElem?_toArray, Nat.zero_add]
        exact hus j v hj) hr1 (by simp only [List.length_append, List.length_take, List.length_drop]; omega) h2
    rw [hul, hA2, hA3, ← List.append_assoc] at this
    exact this
  rw [← hW1] at hcp1 ⊢
  have hw1 : IntKind.i64.wrap ((i : Int) + (m : Int)) = (i : Int) + (m : Int) := by rw [IntKind.wrap_i64]; omega
  have hb1 : (0 : Int) ≤ (i : Int) + (m : Int) := by omega
  have hin : i ≤ n := by omega
  have hz1 : ¬ ((m : Int) = 0) := by omega
  have hz2 : ¬ ((i : Int) = (n : Int)) := by omega
  have htn : ((i : Int) + (m : Int)).toNat = i + m := by omega
  have hb2 : ¬ (cap = i + m) := by omega
  have hb3 : (i : Int) ≤ (n : Int) + (m : Int) := by omega
  have hb4 : ¬ (cap = i) := by omega
  have mixed : Tryz.prog.follows Departure.mixedOrders = true := by kernel_rfl
  clear hA2 hA3 hr1 hr2 hW1 hdl h1 h2 hus hul
  go_enter Tryz.func218, Tryz.ntmps218
  go_wp2_with (simp only [hov])
  go_region_law_o (refine step_copy_runI rfl _ _ 69 69 rfl _ _ (by simp [Act.eval, Act.put]) (by simp [Act.eval, Act.put]) (hcp1 _ _ _) ?_)
  go_wp2_with (at_builtin; refine wpList_copy_runI _ rfl _ _ 69 69 rfl _ _ rfl rfl (hcp2 _ _) ?_)
  go_ret
  exact ⟨rfl, by simp only [List.append_assoc]⟩

/-- The zero cells of a grown row. -/
def insZ (k : Nat) : List Value := (Builtin.zeroCells (Value.agg #[.int .i64 0, .slice none 0 0]).cells k).toList
theorem insZ_len (k : Nat) : (insZ k).length = k * 2 := by
  unfold insZ
  rw [Array.length_toList, size_zeroCells']
  rfl
set_option maxHeartbeats 4000000 in
set_option maxRecDepth 100000 in
theorem ins_grow {w : World} {g n cap i vb m vc : Nat} {vs us vs2 : List Value} {T T2 : TypeId} (hrow : w.heap[g]? = some (.cells vs.toArray T (0, 0))) (hrow2 : w.heap[vb]? = some (.cells vs2.toArray T2 (0, 0)))
    (hi : i < n) (hm : 0 < m) (hnc : n ≤ cap) (hroom : cap < n + m) (hcap : cap * 2 ≤ vs.length) (hbig : (n + m) * 128 ≤ 140737488355328) (hul : us.length = m * 2) (hus : ∀ (j : Nat) (v : Value), us[j]? = some v → vs2[j]? = some v)
    (h1 : ∀ v ∈ vs.take (n * 2), v.oneCell' = true) (h2 : ∀ v ∈ us, v.oneCell' = true) :
    Calls Tryz.prog 218 #[.slice (some ⟨g, 0, none⟩) n cap, .int .i64 i, .slice (some ⟨vb, 0, none⟩) m vc] w fun e w' =>
      e = .returned (.slice (some ⟨w.heap.size, 0, none⟩) (n + m) (grownCap w (n + m) cap 101)) ∧
      w' = (((w.drew.alloc (.cells (vs.take (i * 2) ++ insZ (n + m - i) ++ insZ (grownCap w (n + m) cap 101 - (n + m))).toArray 101)).setRow w.heap.size (vs.take (i * 2) ++ us ++ (insZ (n + m - i) ++ insZ (grownCap w (n + m) cap 101 - (n + m))).drop (m * 2)).toArray).drew).setRow w.heap.size
        (vs.take (i * 2) ++ us ++ (vs.drop (i * 2)).take ((n - i) * 2) ++ (insZ (n + m - i) ++ insZ (grownCap w (n + m) cap 101 - (n + m))).drop ((n + m - i) * 2)).toArray := by
  have hsz : (Tryz.prog.info? 101).map (·.size) = some 2 := by kernel_rfl
  obtain ⟨ti, hti, hzz⟩ := Option.map_eq_some_iff.1 (show (Tryz.prog.info? 101).map (fun i => (i.zero, i.size, i.bytes)) = some (some (Value.agg #[.int .i64 0, .slice none 0 0]), 2, 32) by kernel_rfl)
  simp only [Prod.mk.injEq] at hzz
  obtain ⟨hz0, hz3, hz4⟩ := hzz
  have hold : (Builtin.firstCells ti.size i (.slice (some ⟨g, 0, none⟩) i cap)).run Tryz.prog w.drew = .ok (vs.take (i * 2)).toArray w.drew := by
    rw [hz3]
    exact run_firstCells_some w.drew 2 i ⟨g, 0, none⟩ i cap (vs.take (i * 2)) (by rw [List.length_take]; omega) (fun j v hj => by
      rw [Addr.add_lit, Nat.zero_add, cell_of_row w.drew g j vs.toArray T (0, 0) hrow, List.getElem?_toArray]
      rw [List.getElem?_take] at hj
      split at hj
      · exact hj
      · cases hj)
  obtain ⟨N, hN⟩ : ∃ N, N = w.heap.size := ⟨_, rfl⟩
  obtain ⟨Gc, hGc⟩ : ∃ Gc, Gc = grownCap w (n + m) cap 101 := ⟨_, rfl⟩
  obtain ⟨Zs, hZs⟩ : ∃ Zs, Zs = insZ (n + m - i) ++ insZ (Gc - (n + m)) := ⟨_, rfl⟩
  have hZl : Zs.length = (n + m - i) * 2 + (Gc - (n + m)) * 2 := by rw [hZs, List.length_append, insZ_len, insZ_len]
  obtain ⟨W2, hW2⟩ : ∃ W2, W2 = w.drew.alloc (.cells (vs.take (i * 2) ++ Zs).toArray 101) := ⟨_, rfl⟩
  have hkk : (n : Int) + (m : Int) - (i : Int) = ((n + m - i : Nat) : Int) := by omega
  have hrz : ∀ ty, (Builtin.append_ #[69, 3] ty #[.slice (some ⟨g, 0, none⟩) i cap, .int .i64 ((n : Int) + (m : Int) - (i : Int))]).run Tryz.prog w = .ok (.slice (some ⟨N, 0, none⟩) (n + m) Gc) W2 := fun ty => by
    have h := Lib.run_append_grow_zeros (P := Tryz.prog) w 69 3 ty 101 ti _ .i64 .i64 Tryz.underlying69 Tryz.underlying3 hti hz0 (some ⟨g, 0, none⟩) i cap (vs.take (i * 2)) hold (n + m - i) (by omega) (by omega) (by omega) (by omega) (by rw [hz4]; omega) (by rw [hz4, show i + (n + m - i) = n + m by omega]; exact growslice_fits hroom (by omega))
    rw [show i + (n + m - i) = n + m by omega] at h
    rw [hkk, hN, hGc, hW2, h, hZs, ← hGc]
    congr 3
    rw [← List.append_assoc]
    apply Array.ext'
    simp [insZ]
  have hNg : g < N := by rw [hN]; exact (Array.getElem?_eq_some_iff.1 hrow).1
  have hNv : vb < N := by rw [hN]; exact (Array.getElem?_eq_some_iff.1 hrow2).1
  have r2N : W2.heap[N]? = some (.cells (vs.take (i * 2) ++ Zs).toArray 101 (0, 0)) := by
    rw [hW2, hN]
    exact heap_alloc_new w.drew _
  have r2g : W2.heap[g]? = some (.cells vs.toArray T (0, 0)) := by
    rw [hW2, RowKit.Below.heap_alloc w.drew _ g (by rw [hN] at hNg; exact hNg)]
    exact hrow
  have r2v : W2.heap[vb]? = some (.cells vs2.toArray T2 (0, 0)) := by
    rw [hW2, RowKit.Below.heap_alloc w.drew _ vb (by rw [hN] at hNv; exact hNv)]
    exact hrow2
  have ht : (vs.take (i * 2)).length = i * 2 := by rw [List.length_take]; omega
  have hGe : n + m ≤ Gc := by rw [hGc]; exact grownCap_ge w _ _ _
  obtain ⟨W3, hW3⟩ : ∃ W3, W3 = W2.setRow N (vs.take (i * 2) ++ us ++ Zs.drop (m * 2)).toArray := ⟨_, rfl⟩
  have hcpA : ∀ ty dc, (Builtin.copy_ #[69, 69] ty #[.slice (some ⟨N, i * 2, none⟩) (n + m - i) dc, .slice (some ⟨vb, 0, none⟩) m vc]).run Tryz.prog W2 = .ok (goInt m) W3 := fun ty dc => by
    have := copy_run (Q := Tryz.prog) W2 69 69 ty 101 N (i * 2) (n + m - i) dc ⟨vb, 0, none⟩ m vc m 2 us _ 101 Tryz.underlying69 hsz (by simp only [Nat.min_def]; split <;> omega) hul
      (fun j v hj => by
        rw [Addr.add_lit, cell_of_row W2 vb (0 + j) vs2.toArray T2 (0, 0) r2v, List.getElem?_toArray, Nat.zero_add]
        exact hus j v hj) r2N (by simp only [List.length_append, ht, hZl]; omega) h2
    rw [hul, List.take_append_of_le_length (by omega), List.take_of_length_le (by omega), ← List.drop_drop, List.drop_left' ht] at this
    rw [hW3]
    exact this
  have r3N : W3.heap[N]? = some (.cells (vs.take (i * 2) ++ us ++ Zs.drop (m * 2)).toArray 101 (0, 0)) := by
    rw [hW3]
    exact setRow_heap W2 N _ _ _ (0, 0) r2N
  have r3g : W3.heap[g]? = some (.cells vs.toArray T (0, 0)) := by
    rw [hW3, setRow_other W2 N g _ (by omega)]
    exact r2g
  have hcpB : ∀ ty dc sc, (Builtin.copy_ #[69, 69] ty #[.slice (some ⟨N, (i + m) * 2, none⟩) (n + m - (i + m)) dc, .slice (some ⟨g, i * 2, none⟩) (n - i) sc]).run Tryz.prog W3.drew = .ok (goInt ((n - i : Nat) : Int)) (W3.drew.setRow N (vs.take (i * 2) ++ us ++ (vs.drop (i * 2)).take ((n - i) * 2) ++ Zs.drop ((n + m - i) * 2)).toArray) := fun ty dc sc => by
    have hdl : ((vs.drop (i * 2)).take ((n - i) * 2)).length = (n - i) * 2 := by rw [List.length_take, List.length_drop]; omega
    have hau : (vs.take (i * 2) ++ us).length = (i + m) * 2 := by rw [List.length_append, ht, hul]; omega
    have := copy_run (Q := Tryz.prog) W3.drew 69 69 ty 101 N ((i + m) * 2) (n + m - (i + m)) dc ⟨g, i * 2, none⟩ (n - i) sc (n - i) 2 ((vs.drop (i * 2)).take ((n - i) * 2)) _ 101 Tryz.underlying69 hsz (by simp only [Nat.min_def]; split <;> omega) hdl
      (fun j v hj => by
        rw [Addr.add_lit]
        rw [List.getElem?_take] at hj
        split at hj
        · rw [List.getElem?_drop] at hj
          rw [cell_of_row W3.drew g (i * 2 + j) vs.toArray T (0, 0) r3g, List.getElem?_toArray]
          exact hj
        · cases hj) r3N (by rw [hdl, List.length_append, hau, List.length_drop, hZl]; omega) (fun v hv => h1 v (by rw [show (n - i) * 2 = n * 2 - i * 2 by omega, ← List.drop_take] at hv; exact List.mem_of_mem_drop hv))
    rw [hdl] at this
    rw [this]
    congr 3
    rw [← hau, List.take_left, ← List.drop_drop, List.drop_left, List.drop_drop, show m * 2 + (n - i) * 2 = (n + m - i) * 2 by omega]
  have hN2 : w.heap.size = N := hN.symm
  have hG2 : grownCap w (n + m) cap 101 = Gc := hGc.symm
  rw [hG2, ← hZs, show vs.take (i * 2) ++ insZ (n + m - i) ++ insZ (Gc - (n + m)) = vs.take (i * 2) ++ Zs by rw [hZs, List.append_assoc], hN2, ← hW2, ← hW3]
  have hG63 : Gc ≤ 9223372036854775807 := by
    have := grownCap_le_maxLen w (n + m) cap 101 (by unfold maxLen; omega)
    rw [← hGc] at this
    unfold maxLen at this
    omega
  have hGi : ¬ (Gc = i) := by omega
  have hGim : ¬ (Gc = i + m) := by omega
  have hci : ¬ (cap = i) := by omega
  have hw1 : IntKind.i64.wrap ((i : Int) + (m : Int)) = (i : Int) + (m : Int) := by rw [IntKind.wrap_i64]; omega
  have hb1 : (0 : Int) ≤ (i : Int) + (m : Int) := by omega
  have hin : i ≤ n := by omega
  have htn : ((i : Int) + (m : Int)).toNat = i + m := by omega
  have hb3 : (i : Int) ≤ (n : Int) := by omega
  have hz1 : ¬ ((m : Int) = 0) := by omega
  have hz2 : ¬ ((i : Int) = (n : Int)) := by omega
  have hz5 : (cap : Int) < (n : Int) + (m : Int) := by omega
  have mixed : Tryz.prog.follows Departure.mixedOrders = true := by kernel_rfl
  clear hkk hold hZs hZl hW2 hW3 r2N r2g r2v r3N r3g hN hN2 hG2 hGc ht hti hz0 hz3 hz4 h1 h2 hus hul hNg hNv hrow hrow2
  go_enter Tryz.func218, Tryz.ntmps218
  go_wp2_with (first
    | (at_builtin; refine Lib.wpList_append_run _ rfl _ _ _ _ rfl _ _ rfl rfl _ _ (hrz _) ?_)
    | (at_builtin; refine wpList_copy_runI _ rfl _ _ 69 69 rfl _ _ rfl rfl (hcpA _ _) ?_))
  go_region_law_o (refine step_copy_runI rfl _ _ 69 69 rfl (.slice (some ⟨N, (i + m) * 2, none⟩) (n + m - (i + m)) (Gc - (i + m))) (.slice (some ⟨g, i * 2, none⟩) (n - i) (cap - i)) (by simp [Act.eval, Act.put]) (by simp [Act.eval, Act.put]) (hcpB _ _ _) ?_)
  go_wp2
  go_ret
  exact ⟨rfl, by simp only [List.append_assoc]⟩

section
variable {c c' : Cx} {α : Type} {R : Rp α}
theorem _root_.Go.Lt.AR.take {vs : List Value} {xs : List α} (h : AR R c vs xs) (k : Nat) : AR R c (vs.take (k * R.size)) (xs.take k) := fun i x hx => by
  rw [List.getElem?_take] at hx
  split at hx
  · rename_i hik
    have hm := mul_step (s := R.size) hik
    rw [List.drop_take, List.take_take, Nat.min_eq_left (by omega)]
    exact h i x hx
  · cases hx
theorem _root_.Go.Lt.AR.drop {vs : List Value} {xs : List α} (h : AR R c vs xs) (k : Nat) : AR R c (vs.drop (k * R.size)) (xs.drop k) := fun i x hx => by
  rw [List.getElem?_drop] at hx
  rw [List.drop_drop, ← Nat.add_mul]
  exact h _ x hx
theorem _root_.Go.Lt.AR.more {vs ts : List Value} {xs : List α} (h : AR R c vs xs) (hl : xs.length * R.size ≤ vs.length) : AR R c (vs ++ ts) xs := fun i x hx => by
  have hi := (List.getElem?_eq_some_iff.1 hx).1
  have hm := mul_step (s := R.size) hi
  rw [take_drop_left (by omega)]
  exact h i x hx
theorem _root_.Go.Lt.AR.app {vs us : List Value} {xs ys : List α} (h : AR R c vs xs) (hl : vs.length = xs.length * R.size) (k : AR R c us ys) : AR R c (vs ++ us) (xs ++ ys) := fun i x hx => by
  rw [List.getElem?_append] at hx
  split at hx
  · rename_i hi
    have hm := mul_step (s := R.size) hi
    rw [take_drop_left (by omega)]
    exact h i x hx
  · rename_i hi
    rw [show i * R.size = vs.length + (i - xs.length) * R.size by rw [hl, ← Nat.add_mul]; congr 1; omega, ← List.drop_drop, List.drop_left]
    exact k _ x hx
theorem _root_.Go.Lt.AR.ones {vs : List Value} {xs : List α} (h : AR R c vs xs) (hp : 0 < R.size) : ∀ v ∈ vs.take (xs.length * R.size), v.oneCell' = true := fun v hv => by
  obtain ⟨j, hj⟩ := List.mem_iff_getElem?.1 hv
  rw [List.getElem?_take] at hj
  split at hj
  · rename_i hlt
    have hq : j / R.size < xs.length := by rw [Nat.div_lt_iff_lt_mul hp]; exact hlt
    have hc := h _ _ (List.getElem?_eq_getElem hq)
    refine R.one hc v (List.mem_iff_getElem?.2 ⟨j % R.size, ?_⟩)
    rw [List.getElem?_take, if_pos (Nat.mod_lt _ hp), List.getElem?_drop, Nat.mul_comm, Nat.div_add_mod]
    exact hj
  · cases hj
end
def f_slices_Insert (p0 : List G_api_Cell) (p1 : Int) (p2 : List G_api_Cell) : Option (List G_api_Cell) := if 0 ≤ p1 ∧ p1 < p0.length ∧ 1 ≤ p2.length ∧ p0.length + p2.length ≤ far then some (p0.take p1.toNat ++ p2 ++ p0.drop p1.toNat) else none
theorem _root_.Go.Lt.OA.some {c : Cx} {α : Type} {R : Rp α} {v : Value} {vs : List Value} {xs : List α} (h : OA R c v vs xs) (hn : 1 ≤ xs.length) : ∃ g cap, v = .slice (some ⟨g, 0, none⟩) xs.length cap ∧ xs.length ≤ cap ∧ cap ≤ maxLen ∧ cap * R.size ≤ vs.length ∧ AR R c vs xs := by
  rcases h.2.1 with ⟨_, rfl⟩ | ⟨g, cap, h1, h2, h3, h4⟩
  · simp at hn
  · exact ⟨g, cap, h1, h2, h3, h4, h.2.2⟩
theorem c_slices_Insert {c0 : Cx} {G : Gm} {F : List En} {v0 v2 : Value} {u0 u2 : List Value} (p0 : List G_api_Cell) (p1 : Int) (p2 : List G_api_Cell) (O0 : Own c0 G (es true R_api_Cell v0 101 u0 p0 :: es true R_api_Cell v2 101 u2 p2 :: F)) (h0 : OA R_api_Cell c0 v0 u0 p0) (h2 : OA R_api_Cell c0 v2 u2 p2) {r : List G_api_Cell} (H : f_slices_Insert p0 p1 p2 = some r) :
    Calls Tryz.prog 218 #[v0, .int .i64 p1, v2] c0.w (Post c0 fun c v => ∃ y1 : Value, ∃ y2 : List Value, Own c G (es true R_api_Cell y1 101 y2 r :: F) ∧ v = y1 ∧ OA R_api_Cell c y1 y2 r) := by
  unfold f_slices_Insert at H
  split at H
  · rename_i hc
    obtain ⟨hc1, hc2, hc3, hc4⟩ := hc
    obtain ⟨i, rfl⟩ : ∃ i : Nat, p1 = (i : Int) := ⟨p1.toNat, by omega⟩
    rw [Int.toNat_natCast] at H
    obtain rfl := Option.some.inj H
    obtain ⟨g, cap, rfl, a1, a2, a3, a4⟩ := h0.some (by omega)
    obtain ⟨vb, vc, rfl, b1, b2, b3, b4⟩ := h2.some hc3
    have hsz : R_api_Cell.size = 2 := rfl
    have hon0 := O0.on 0 rfl g rfl
    have hon2 := O0.on 1 rfl vb rfl
    have hne : vb ≠ g := fun e => O0.m.2 (.inl 0) (.inl 1) _ _ rfl rfl (by simp) g rfl (by rw [← e]; rfl)
    have o0 := a4.ones (by decide)
    have o2 := b4.ones (by decide)
    rw [hsz] at o0 o2 a3 b3
    unfold maxLen at a2 b2
    unfold far at hc4
    have ht0 : (u0.take (i * 2)).length = i * 2 := by rw [List.length_take]; omega
    have ht2 : (u2.take (p2.length * 2)).length = p2.length * 2 := by rw [List.length_take]; omega
    have htl : ((u0.drop (i * 2)).take ((p0.length - i) * 2)).length = (p0.length - i) * 2 := by rw [List.length_take, List.length_drop]; omega
    have hus : ∀ (j : Nat) (v : Value), (u2.take (p2.length * 2))[j]? = some v → u2[j]? = some v := fun j v hj => by
      rw [List.getElem?_take] at hj
      split at hj
      · exact hj
      · cases hj
    have hAR : ∀ (c : Cx) (ts : List Value), c0.le c → AR R_api_Cell c (u0.take (i * 2) ++ u2.take (p2.length * 2) ++ (u0.drop (i * 2)).take ((p0.length - i) * 2) ++ ts) (p0.take i ++ p2 ++ p0.drop i) := fun c ts hle => by
      have k0 : AR R_api_Cell c (u0.take (i * 2)) (p0.take i) := (a4.take i).mono hle
      have k2 : AR R_api_Cell c (u2.take (p2.length * 2)) p2 := by
        have := (b4.take p2.length).mono hle
        rwa [List.take_of_length_le (Nat.le_refl p2.length)] at this
      have k1 : AR R_api_Cell c ((u0.drop (i * 2)).take ((p0.length - i) * 2)) (p0.drop i) := by
        have := ((a4.drop i).take (p0.length - i)).mono hle
        rwa [List.take_of_length_le (l := p0.drop i) (by rw [List.length_drop]; exact Nat.le_refl _)] at this
      refine AR.more (AR.app (AR.app k0 ?_ k2) ?_ k1) ?_
      · rw [ht0, List.length_take, Nat.min_eq_left (by omega), hsz]
      · rw [List.length_append, ht0, ht2, List.length_append, List.length_take, Nat.min_eq_left (by omega), hsz, Nat.add_mul]
      · simp only [List.length_append]
        rw [ht0, ht2, htl, List.length_take, List.length_drop, Nat.min_eq_left (by omega), hsz]
        omega
    have hrl : (p0.take i ++ p2 ++ p0.drop i).length = p0.length + p2.length := by
      rw [List.length_append, List.length_append, List.length_take, List.length_drop]
      omega
    rcases Nat.lt_or_ge cap (p0.length + p2.length) with hg | hg
    · refine (ins_grow (vs := u0) (us := u2.take (p2.length * 2)) (vs2 := u2) hon0.1 hon2.1 (by omega) (by omega) a1 hg a3 (by omega) ht2 hus o0 o2).mono ?_
      rintro e w' ⟨rfl, rfl⟩
      obtain ⟨Gc, hGc⟩ : ∃ Gc, Gc = grownCap c0.w (p0.length + p2.length) cap 101 := ⟨_, rfl⟩
      have hGe : p0.length + p2.length ≤ Gc := by rw [hGc]; exact grownCap_ge _ _ _ _
      have hGm : Gc ≤ maxLen := by rw [hGc]; exact grownCap_le_maxLen _ _ _ _ (by unfold maxLen; omega)
      rw [← hGc]
      obtain ⟨Zs, hZs⟩ : ∃ Zs, Zs = insZ (p0.length + p2.length - i) ++ insZ (Gc - (p0.length + p2.length)) := ⟨_, rfl⟩
      have hZl : Zs.length = (p0.length + p2.length - i) * 2 + (Gc - (p0.length + p2.length)) * 2 := by rw [hZs, List.length_append, insZ_len, insZ_len]
      rw [List.append_assoc (u0.take (i * 2)), ← hZs]
      have hd := Cx.drew_le c0
      obtain ⟨c1, e1, e2, e3, e4, e5⟩ := Cx.new ⟨c0.w.drew, c0.A, c0.t⟩ (u0.take (i * 2) ++ Zs) 101 0
      have O1 := Own.cons (O0.keep hd) e2 (fun _ => id) (e := ⟨.slice (some ⟨c0.w.heap.size, 0, none⟩) (p0.length + p2.length) Gc, 101, u0.take (i * 2) ++ Zs, 0⟩) (fun b hb => by
        simp only [blk, Option.some.injEq] at hb
        subst hb
        exact ⟨e3, e5⟩) (fun b hb => by
        simp only [blk, Option.some.injEq] at hb
        subst hb
        exact Nat.le_refl _)
      obtain ⟨c2, f1, f2, f3, f4⟩ := Cx.row (m := u0.take (i * 2) ++ u2.take (p2.length * 2) ++ Zs.drop (p2.length * 2)) e3 0 e5 (fun o ho => by omega) 0 (Nat.le_refl _)
      have O2 := Own.set O1 0 rfl f2 (fun b hb => by rw [hb]; rfl) (e' := ⟨.slice (some ⟨c0.w.heap.size, 0, none⟩) (p0.length + p2.length) Gc, 101, u0.take (i * 2) ++ u2.take (p2.length * 2) ++ Zs.drop (p2.length * 2), 0⟩) (fun b hb => by
        simp only [blk, Option.some.injEq] at hb
        subst hb
        exact ⟨f3, f4⟩) (fun b hb => .inl hb)
      have hd2 := Cx.drew_le c2
      obtain ⟨c3, g1, g2, g3, g4⟩ := Cx.row (c := ⟨c2.w.drew, c2.A, c2.t⟩) (m := u0.take (i * 2) ++ u2.take (p2.length * 2) ++ (u0.drop (i * 2)).take ((p0.length - i) * 2) ++ Zs.drop ((p0.length + p2.length - i) * 2)) (T := 101) (b := c0.w.heap.size) f3 0 f4 (fun o ho => by omega) 0 (Nat.le_refl _)
      have O3 := Own.set (O2.keep hd2) 0 rfl g2 (fun b hb => by rw [hb]; rfl) (e' := es true R_api_Cell (.slice (some ⟨c0.w.heap.size, 0, none⟩) (p0.length + p2.length) Gc) 101 (u0.take (i * 2) ++ u2.take (p2.length * 2) ++ (u0.drop (i * 2)).take ((p0.length - i) * 2) ++ Zs.drop ((p0.length + p2.length - i) * 2)) (p0.take i ++ p2 ++ p0.drop i)) (fun b hb => by
        simp only [es, blk, Option.some.injEq] at hb
        subst hb
        exact ⟨g3, g4⟩) (fun b hb => .inl hb)
      have hle := hd.le.trans (e2.le.trans (f2.le.trans (hd2.le.trans g2.le)))
      have O4 := O3.selD 3 [0] (by kernel_rfl) (by kernel_rfl)
      refine ⟨_, c3, rfl, by rw [g1]; show _ = (c2.w.drew).setRow _ _; rw [f1, e1]; rfl, hle, _, _, O4, rfl, by decide, .inr ⟨_, Gc, by rw [hrl], by rw [hrl]; exact hGe, hGm, ?_⟩, hAR c3 _ hle⟩
      rw [hsz, List.length_append, List.length_append, List.length_append, ht0, ht2, htl, List.length_drop, hZl]
      omega
    · refine (ins_shift (vs := u0) (us := u2.take (p2.length * 2)) (vs2 := u2) hon0.1 hon2.1 (by omega) (by omega) hg a3 a2 hne ht2 hus o0 o2).mono ?_
      rintro e w' ⟨rfl, rfl⟩
      have hd := Cx.drew_le c0
      obtain ⟨c2, f1, f2, f3, f4⟩ := Cx.row (c := ⟨c0.w.drew, c0.A, c0.t⟩) (l := u0) (T := 101) (b := g) (m := u0.take ((i + p2.length) * 2) ++ (u0.drop (i * 2)).take ((p0.length - i) * 2) ++ u0.drop ((p0.length + p2.length) * 2)) hon0.1 0 hon0.2 (fun o ho => by omega) 0 (Nat.le_refl _)
      have O2 := Own.set (O0.keep hd) 0 rfl f2 (fun b hb => by rw [hb]; rfl) (e' := ⟨.slice (some ⟨g, 0, none⟩) p0.length cap, 101, u0.take ((i + p2.length) * 2) ++ (u0.drop (i * 2)).take ((p0.length - i) * 2) ++ u0.drop ((p0.length + p2.length) * 2), 0⟩) (fun b hb => by
        simp only [blk, Option.some.injEq] at hb
        subst hb
        exact ⟨f3, f4⟩) (fun b hb => .inl hb)
      obtain ⟨c3, g1, g2, g3, g4⟩ := Cx.row (c := c2) (m := u0.take (i * 2) ++ u2.take (p2.length * 2) ++ (u0.drop (i * 2)).take ((p0.length - i) * 2) ++ u0.drop ((p0.length + p2.length) * 2)) (T := 101) (b := g) f3 0 f4 (fun o ho => by omega) 0 (Nat.le_refl _)
      have O3 := Own.set O2 0 rfl g2 (fun b hb => by rw [hb]; rfl) (e' := es true R_api_Cell (.slice (some ⟨g, 0, none⟩) (p0.length + p2.length) cap) 101 (u0.take (i * 2) ++ u2.take (p2.length * 2) ++ (u0.drop (i * 2)).take ((p0.length - i) * 2) ++ u0.drop ((p0.length + p2.length) * 2)) (p0.take i ++ p2 ++ p0.drop i)) (fun b hb => by
        simp only [es, blk, Option.some.injEq] at hb
        subst hb
        exact ⟨g3, g4⟩) (fun b hb => .inl hb)
      have hle := hd.le.trans (f2.le.trans g2.le)
      have O4 := O3.selD 2 [0] (by kernel_rfl) (by kernel_rfl)
      refine ⟨_, c3, rfl, by rw [g1, f1], hle, _, _, O4, rfl, by decide, .inr ⟨g, cap, by rw [hrl], by rw [hrl]; exact hg, by unfold maxLen; exact a2, ?_⟩, hAR c3 _ hle⟩
      rw [hsz, List.length_append, List.length_append, List.length_append, ht0, ht2, htl, List.length_drop]
      omega
  · cases H

theorem insZ_one (k : Nat) : ∀ v ∈ insZ k, v.oneCell' = true := fun v hv => by
  unfold insZ Builtin.zeroCells at hv
  simp only [Array.toList_map, List.mem_map] at hv
  obtain ⟨a, _, rfl⟩ := hv
  have h2 : (Value.agg #[.int .i64 0, .slice none 0 0]).cells = #[.int .i64 0, .slice none 0 0] := rfl
  rw [h2]
  show (#[Value.int .i64 0, Value.slice none 0 0][a % 2]!).oneCell' = true
  rcases Nat.mod_two_eq_zero_or_one a with h | h <;> rw [h] <;> rfl
theorem step_app_run {P : Program} {ops : Array Oper} {o : Oper} {a : Act} {w : World} {K : Act → World → Prop} {Q : Exit → Act → World → Prop} {E : Prop}
    (hg : o.guard = none) (d x : Operand) (dT sT : TypeId) (hop : o.op = Op.call { callee := Callee.builtin Builtin.append, args := #[d, x], argTypes := #[dT, sT] })
    (v u : Value) (hd : a.eval d = v) (hx : a.eval x = u) {v' : Value} {w' : World} (hr : (Builtin.append_ #[dT, sT] o.type #[v, u]).run P w = .ok v' w') (hK : K (a.put o.dst v') w') :
    if Region.wanted o (yielded ops a.tmps) = true then Oper.wp P o a w K Q else E := by
  have hw : Region.wanted o (yielded ops a.tmps) = true := by simp [Region.wanted, hg]
  rw [if_pos hw]
  unfold Oper.wp
  simp [execOp, hop, resolve, invoke, builtin, hd, hx, hr, Result.andThen]
  exact hK
theorem wp_clear_run {P : Program} (w : World) {ops : Array Oper} {rest : List Oper} {o : Oper} {a : Act} {Q : Exit → Act → World → Prop} (hgd : o.guard = none) (d : Operand) (t : TypeId)
    (ho : o.op = .call { callee := .builtin .clear, args := #[d], argTypes := #[t] }) (v : Value) (hd : a.eval d = v) {v' : Value} {w' : World}
    (hr : (Builtin.clear_ #[t] o.type #[v]).run P w = .ok v' w') (h : wpList P ops Q rest (a.put o.dst v') w') : wpList P ops Q (o :: rest) a w :=
  wpList_plain hgd fun _ hK => by
    unfold Oper.wp execOp
    simp only [ho, resolve, invoke, builtin, Sem.run_bind, Sem.run_pure, Result.andThen_ok, List.map_toArray, List.map_cons, List.map_nil, hd, hr]
    exact hK _ _ h
theorem clear_run {Q : Program} (w : World) (t ty E : TypeId) (g o k c : Nat) (z : Value) (vs : List Value) (T : TypeId) (hk : k ≠ 0)
    (hu : Q.underlying t = some (.slice E)) (hz : ∀ w, (zeroValue E).run Q w = .ok z w) (hrow : w.heap[g]? = some (.cells vs.toArray T (0, 0))) (hl : o + (Builtin.zeroCells z.cells k).toList.length ≤ vs.length) (h1 : ∀ v ∈ (Builtin.zeroCells z.cells k).toList, v.oneCell' = true) :
    (Builtin.clear_ #[t] ty #[.slice (some ⟨g, o, none⟩) k c]).run Q w = .ok (.tuple #[]) (w.setRow g (vs.take o ++ (Builtin.zeroCells z.cells k).toList ++ vs.drop (o + (Builtin.zeroCells z.cells k).toList.length)).toArray) := by
  have hst := run_storeCells_at Q g o T (Builtin.zeroCells z.cells k).toList 0 vs.toArray w hrow (by simpa using hl) h1
  simp only [Nat.add_zero] at hst
  cases k with
  | zero => exact absurd rfl hk
  | succ k =>
    simp [Builtin.clear_, run_underlying hu, hz, hst]

set_option maxHeartbeats 4000000 in
set_option maxRecDepth 100000 in
theorem del_run {w : World} {g n cap i j : Nat} {vs : List Value} (hrow : w.heap[g]? = some (.cells vs.toArray 101 (0, 0)))
    (hij : i < j) (hjn : j ≤ n) (hnc : n ≤ cap) (hcap : cap * 2 ≤ vs.length) (hc63 : cap ≤ 9223372036854775807) (h1 : ∀ v ∈ vs.take (n * 2), v.oneCell' = true) :
    Calls Tryz.prog 221 #[.slice (some ⟨g, 0, none⟩) n cap, .int .i64 i, .int .i64 j] w fun e w' =>
      e = .returned (.slice (some ⟨g, 0, none⟩) (i + (n - j)) cap) ∧ w' = (w.drew.setRow g (vs.take (i * 2) ++ (vs.drop (j * 2)).take ((n - j) * 2) ++ vs.drop ((i + (n - j)) * 2)).toArray).setRow g
        (vs.take (i * 2) ++ (vs.drop (j * 2)).take ((n - j) * 2) ++ insZ (j - i) ++ vs.drop (n * 2)).toArray := by
  obtain ⟨ti, hti, hzz⟩ := Option.map_eq_some_iff.1 (show (Tryz.prog.info? 101).map (fun i => i.size) = some 2 by kernel_rfl)
  have hul : ((vs.drop (j * 2)).take ((n - j) * 2)).length = (n - j) * 2 := by rw [List.length_take, List.length_drop]; omega
  have ht : (vs.take (i * 2)).length = i * 2 := by rw [List.length_take]; omega
  obtain ⟨W1, hW1⟩ : ∃ W1, W1 = w.drew.setRow g (vs.take (i * 2) ++ (vs.drop (j * 2)).take ((n - j) * 2) ++ vs.drop ((i + (n - j)) * 2)).toArray := ⟨_, rfl⟩
  have hap : ∀ ty a k, (∀ x v, ((vs.drop (j * 2)).take ((n - j) * 2))[x]? = some v → w.drew.cell? (a.add x) = some v) →
      (Builtin.append_ #[69, 69] ty #[.slice (some ⟨g, 0, none⟩) i cap, .slice (some a) (n - j) k]).run Tryz.prog w.drew = .ok (.slice (some ⟨g, 0, none⟩) (i + (n - j)) cap) W1 := fun ty a k hx => by
    have := run_append_room (P := Tryz.prog) w.drew 69 ty 101 ti Tryz.underlying69 hti g i cap vs.toArray hrow a (n - j) k ((vs.drop (j * 2)).take ((n - j) * 2)) (by rw [hul, hzz]) hx (fun v hv => h1 v (by rw [show (n - j) * 2 = n * 2 - j * 2 by omega, ← List.drop_take] at hv; exact List.mem_of_mem_drop hv)) (by omega) (by rw [hzz, hul]; simp; omega)
    rw [this, hW1, hzz, hul]
    simp only [List.toList_toArray, List.size_toArray]
    rw [show i * 2 + (n - j) * 2 = (i + (n - j)) * 2 by omega]
  have hr1 : W1.heap[g]? = some (.cells (vs.take (i * 2) ++ (vs.drop (j * 2)).take ((n - j) * 2) ++ vs.drop ((i + (n - j)) * 2)).toArray 101 (0, 0)) := by
    rw [hW1]
    exact setRow_heap w.drew g vs.toArray _ 101 (0, 0) hrow
  have hau : (vs.take (i * 2) ++ (vs.drop (j * 2)).take ((n - j) * 2)).length = (i + (n - j)) * 2 := by rw [List.length_append, ht, hul]; omega
  have hcl : ∀ ty c, (Builtin.clear_ #[69] ty #[.slice (some ⟨g, (i + (n - j)) * 2, none⟩) (n - (i + (n - j))) c]).run Tryz.prog W1 = .ok (.tuple #[]) (W1.setRow g (vs.take (i * 2) ++ (vs.drop (j * 2)).take ((n - j) * 2) ++ insZ (j - i) ++ vs.drop (n * 2)).toArray) := fun ty c => by
    have hzl := insZ_len (j - i)
    unfold insZ at hzl
    have := clear_run (Q := Tryz.prog) W1 69 ty 101 g ((i + (n - j)) * 2) (j - i) c (Value.agg #[.int .i64 0, .slice none 0 0]) _ 101 (by omega) Tryz.underlying69 (fun w => by kernel_rfl) hr1 (by rw [hzl, List.length_append, hau, List.length_drop]; omega) (fun v hv => by
      exact insZ_one _ v hv)
    rw [hzl] at this
    rw [show n - (i + (n - j)) = j - i by omega, this]
    congr 3
    rw [← hau, List.take_left, ← List.drop_drop, List.drop_left, List.drop_drop, hau, show (i + (n - j)) * 2 + (j - i) * 2 = n * 2 by omega]
    rfl
  have hcell : ∀ (x : Nat) (v : Value), ((vs.drop (j * 2)).take ((n - j) * 2))[x]? = some v → w.drew.cell? ((⟨g, j * 2, none⟩ : Addr).add x) = some v := fun x v hx => by
    rw [Addr.add_lit]
    rw [List.getElem?_take] at hx
    split at hx
    · rw [List.getElem?_drop] at hx
      rw [cell_of_row w.drew g (j * 2 + x) vs.toArray 101 (0, 0) hrow, List.getElem?_toArray]
      exact hx
    · cases hx
  have hnil : cap = j → ∀ (x : Nat) (v : Value), ((vs.drop (j * 2)).take ((n - j) * 2))[x]? = some v → w.drew.cell? ((⟨g, 0, none⟩ : Addr).add x) = some v := fun e x v hx => by
    rw [show (n - j) * 2 = 0 by omega, List.take_zero] at hx
    cases hx
  have hWW : cap = j → W1 = w.drew := fun e => by
    rw [hW1, show n - j = 0 by omega, Nat.zero_mul, List.take_zero, List.append_nil, Nat.add_zero, List.take_append_drop]
    exact setRow_self w.drew g vs.toArray _ (0, 0) hrow
  have hap1 := fun ty k => hap ty ⟨g, j * 2, none⟩ k hcell
  have hap2 := fun (e : cap = j) ty k => hap ty ⟨g, 0, none⟩ k (hnil e)
  rw [← hW1]
  have hmixed : Tryz.prog.follows Departure.mixedOrders = true := by kernel_rfl
  have z1 : ¬ ((i : Int) = (j : Int)) := by omega
  have z2 : (0 : Int) ≤ (i : Int) := by omega
  have z3 : (i : Int) ≤ (j : Int) := by omega
  have z4 : (j : Int) ≤ (n : Int) := by omega
  have z5 : ¬ (cap = i + (n - j)) := by omega
  have z6 : i ≤ cap := by omega
  have z7 : j ≤ cap := by omega
  have z8 : i + (n - j) ≤ n := by omega
  have z9 : n ≤ cap := hnc
  have z10 : ¬ (n = i) := by omega
  clear hW1 hul ht hr1 hau hap hcell hnil h1 hti hzz hcap hrow
  by_cases hcj : cap = j
  · have hap3 := hap2 hcj
    clear hap1 hap2 hWW
    subst hcj
    obtain rfl : n = cap := by omega
    simp only [Nat.sub_self, Nat.add_zero, Nat.zero_mul, List.take_zero, List.append_nil] at hap3 hcl z5 ⊢
    go_enter Tryz.func221, Tryz.ntmps221
    go_wp2_with fail
    go_region_law_o (refine step_app_run rfl (.tmp 22) (.tmp 25) 69 69 rfl (.slice (some ⟨g, 0, none⟩) i n) (.slice (some ⟨g, 0, none⟩) 0 0) (by simp [Act.eval, Act.put]) (by simp [Act.eval, Act.put]) (hap3 _ _) ?_)
    go_wp2_with (at_builtin; refine wp_clear_run _ rfl _ 69 rfl _ rfl (hcl _ _) ?_)
    go_ret
    exact ⟨rfl, by simp only [List.append_assoc]⟩
  · clear hap2 hWW
    go_enter Tryz.func221, Tryz.ntmps221
    go_wp2_with fail
    go_region_law_o (refine step_app_run rfl (.tmp 22) (.tmp 25) 69 69 rfl (.slice (some ⟨g, 0, none⟩) i cap) (.slice (some ⟨g, j * 2, none⟩) (n - j) (cap - j)) (by simp [Act.eval, Act.put]) (by simp [Act.eval, Act.put]) (hap1 _ _) ?_)
    go_wp2_with (at_builtin; refine wp_clear_run _ rfl _ 69 rfl _ rfl (hcl _ _) ?_)
    go_ret
    exact ⟨rfl, by simp only [List.append_assoc]⟩
def f_slices_Delete (p0 : List G_api_Cell) (p1 p2 : Int) : Option (List G_api_Cell) := if 0 ≤ p1 ∧ p1 < p2 ∧ p2 ≤ p0.length then some (p0.take p1.toNat ++ p0.drop p2.toNat) else none
theorem c_slices_Delete {c0 : Cx} {G : Gm} {F : List En} {v0 : Value} {u0 : List Value} (p0 : List G_api_Cell) (p1 p2 : Int) (O0 : Own c0 G (es true R_api_Cell v0 101 u0 p0 :: F)) (h0 : OA R_api_Cell c0 v0 u0 p0) {r : List G_api_Cell} (H : f_slices_Delete p0 p1 p2 = some r) :
    Calls Tryz.prog 221 #[v0, .int .i64 p1, .int .i64 p2] c0.w (Post c0 fun c v => ∃ y1 : Value, ∃ y2 : List Value, Own c G (es true R_api_Cell y1 101 y2 r :: F) ∧ v = y1 ∧ OA R_api_Cell c y1 y2 r) := by
  unfold f_slices_Delete at H
  split at H
  · rename_i hc
    obtain ⟨hc1, hc2, hc3⟩ := hc
    obtain ⟨i, rfl⟩ : ∃ i : Nat, p1 = (i : Int) := ⟨p1.toNat, by omega⟩
    obtain ⟨j, rfl⟩ : ∃ j : Nat, p2 = (j : Int) := ⟨p2.toNat, by omega⟩
    rw [Int.toNat_natCast, Int.toNat_natCast] at H
    obtain rfl := Option.some.inj H
    obtain ⟨g, cap, rfl, a1, a2, a3, a4⟩ := h0.some (by omega)
    have hsz : R_api_Cell.size = 2 := rfl
    have hon0 := O0.on 0 rfl g rfl
    have o0 := a4.ones (by decide)
    rw [hsz] at o0 a3
    unfold maxLen at a2
    have ht0 : (u0.take (i * 2)).length = i * 2 := by rw [List.length_take]; omega
    have htl : ((u0.drop (j * 2)).take ((p0.length - j) * 2)).length = (p0.length - j) * 2 := by rw [List.length_take, List.length_drop]; omega
    have hrl : (p0.take i ++ p0.drop j).length = i + (p0.length - j) := by
      rw [List.length_append, List.length_take, List.length_drop]
      omega
    have hAR : ∀ (c : Cx) (ts : List Value), c0.le c → AR R_api_Cell c (u0.take (i * 2) ++ (u0.drop (j * 2)).take ((p0.length - j) * 2) ++ ts) (p0.take i ++ p0.drop j) := fun c ts hle => by
      have k0 : AR R_api_Cell c (u0.take (i * 2)) (p0.take i) := (a4.take i).mono hle
      have k1 : AR R_api_Cell c ((u0.drop (j * 2)).take ((p0.length - j) * 2)) (p0.drop j) := by
        have := ((a4.drop j).take (p0.length - j)).mono hle
        rwa [List.take_of_length_le (l := p0.drop j) (by rw [List.length_drop]; exact Nat.le_refl _)] at this
      refine AR.more (AR.app k0 ?_ k1) ?_
      · rw [ht0, List.length_take, Nat.min_eq_left (by omega), hsz]
      · rw [hrl, hsz, List.length_append, ht0, htl]
        omega
    refine (del_run (vs := u0) hon0.1 (by omega) (by omega) a1 a3 (by omega) o0).mono ?_
    rintro e w' ⟨rfl, rfl⟩
    have hd := Cx.drew_le c0
    obtain ⟨c2, f1, f2, f3, f4⟩ := Cx.row (c := ⟨c0.w.drew, c0.A, c0.t⟩) (l := u0) (T := 101) (b := g) (m := u0.take (i * 2) ++ (u0.drop (j * 2)).take ((p0.length - j) * 2) ++ u0.drop ((i + (p0.length - j)) * 2)) hon0.1 0 hon0.2 (fun o ho => by omega) 0 (Nat.le_refl _)
    have O2 := Own.set (O0.keep hd) 0 rfl f2 (fun b hb => by rw [hb]; rfl) (e' := ⟨.slice (some ⟨g, 0, none⟩) p0.length cap, 101, u0.take (i * 2) ++ (u0.drop (j * 2)).take ((p0.length - j) * 2) ++ u0.drop ((i + (p0.length - j)) * 2), 0⟩) (fun b hb => by
      simp only [blk, Option.some.injEq] at hb
      subst hb
      exact ⟨f3, f4⟩) (fun b hb => .inl hb)
    obtain ⟨c3, g1, g2, g3, g4⟩ := Cx.row (c := c2) (m := u0.take (i * 2) ++ (u0.drop (j * 2)).take ((p0.length - j) * 2) ++ insZ (j - i) ++ u0.drop (p0.length * 2)) (T := 101) (b := g) f3 0 f4 (fun o ho => by omega) 0 (Nat.le_refl _)
    have O3 := Own.set O2 0 rfl g2 (fun b hb => by rw [hb]; rfl) (e' := es true R_api_Cell (.slice (some ⟨g, 0, none⟩) (i + (p0.length - j)) cap) 101 (u0.take (i * 2) ++ (u0.drop (j * 2)).take ((p0.length - j) * 2) ++ insZ (j - i) ++ u0.drop (p0.length * 2)) (p0.take i ++ p0.drop j)) (fun b hb => by
      simp only [es, blk, Option.some.injEq] at hb
      subst hb
      exact ⟨g3, g4⟩) (fun b hb => .inl hb)
    have hle := hd.le.trans (f2.le.trans g2.le)
    refine ⟨_, c3, rfl, by rw [g1, f1], hle, _, _, O3, rfl, by decide, .inr ⟨g, cap, by rw [hrl], by rw [hrl]; omega, by unfold maxLen; exact a2, ?_⟩, ?_⟩
    · rw [hsz, List.length_append, List.length_append, List.length_append, ht0, htl, insZ_len, List.length_drop]
      omega
    · rw [List.append_assoc]
      exact hAR c3 _ hle
  · cases H

end Go.Proofs.YthokmpbbkpjhbaaGreatDoor
