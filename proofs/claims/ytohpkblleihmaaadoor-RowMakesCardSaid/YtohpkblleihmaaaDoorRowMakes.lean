/-
  Proved here: RowMakes, for every input the Go function answers true, and its arguments read as before. No condition.
-/
import Derived.Test.YtohpkblleihmaaaDoorCards
import Derived.Test.YtohpkblleihmaaaDoorTie
import Derived.Test.YtohpkblleihmaaaDoorFb
import Derived.Test.YtohpkblleihmaaaDoorFc
import Derived.Test.YtohpkblleihmaaaDoorA8
import Derived.Test.YtohpkblleihmaaaDoorPn
import Derived.SevenTiedAt
import Derived.WalkKit
import Derived.ProofKit
namespace Go.Proofs.YtohpkblleihmaaaDoor.rowMakes
open Go Go.Lt Go.ChangeShapes Go.WideShapes Go.ChangeAt Go.RowKit
set_option linter.unusedVariables false
set_option maxRecDepth 100000

def laid : List (String × DataW Unit) := [("linotype/api.ErrScalar", Rows.laid_linotype_api_ErrScalar), ("linotype/api.ErrForm", Rows.laid_linotype_api_ErrForm), ("linotype/api.ErrRange", Rows.laid_linotype_api_ErrRange), ("linotype/api.ErrLong", Rows.laid_linotype_api_ErrLong), ("linotype/api.ErrKind", Rows.laid_linotype_api_ErrKind), ("linotype/api.ErrWord", Rows.laid_linotype_api_ErrWord), ("linotype/api.ErrFull", Rows.laid_linotype_api_ErrFull), ("linotype/api.ErrNone", Rows.laid_linotype_api_ErrNone)]
theorem met (os : Os) (args : Array Value) : laidMetH Tryd.prog laid ((World.laidAll Tryd.prog os laid).forCall (fun _ _ => 0) ⟨#[], args, []⟩).memory := by
  rw [metH (by kernel_rfl)]
  exact laidMet_laidAll args (by kernel_rfl) (by kernel_rfl)

theorem lifted (os : Os) (started : os.Started) (H : Type) (enc : TypeId × Value → H) :
    ReturnsInHanded {} Tryd.checked os 10 .any (fun w args => (Rows.rowMakesSpec.pre enc Tryd.prog Tryd.f10 [] false w args ∧ laidMetH Tryd.prog laid w) ∧ sizedMet enc Tryd.prog Tryd.f10 (OpenSpec.ofChange Rows.rowMakesSpec) false w args)
      (Rows.rowMakesSpec.post enc Tryd.prog Tryd.f10 false true false false) := by
  refine returnsInHanded_of_change_and (C := Tryd.checked) (X := fun w _ => laidMetH Tryd.prog laid w) (fun _ _ _ hh h => h.of_heap hh) p_own started (by kernel_rfl) Tryd.func10
    (ChangeSpec.witness_at (enc := enc) (C := Tryd.checked) (os := os) (X := fun w _ => laidMetH Tryd.prog laid w) false (World.laidAll Tryd.prog os laid) #[.int .i64 0, .slice none 0 0] 8 (World.laidAll_os _ _ _) (by kernel_rfl) (by kernel_rfl) (by kernel_rfl) (by kernel_rfl) (by kernel_rfl) (met os _)) ?_
  intro W base args ds gs before hval0 hW _ _ hL _
  have hval : ∀ (j : Nat) t v, Tryd.f10.params[j]? = some t → args[j]? = some v → Value.okWide Tryd.prog W .any base t v := hval0
  have hW2 := hW
  obtain ⟨p, q, hA0, hV0, rfl, hfz, hnd⟩ := hW
  have hA : DataW.TrodAll enc Tryd.prog W 0 (fun _ => true) true Tryd.f10.params.toList args.toList ds p := hA0
  have hk := hA
  have hV : DataW.TrodVars enc Tryd.prog W (fun _ => true) [] gs q := hV0
  rw [Tryd.params10] at hA hval
  obtain ⟨v0, vs0, d0, ds0, p0, q0, hargs, rfl, rfl, h0, r0⟩ := trodAll_cons hA
  obtain ⟨v1, vs1, d1, ds1, p1, q1, rfl, rfl, rfl, h1, r1⟩ := trodAll_cons r0
  obtain ⟨rfl, rfl, rfl⟩ := trodAll_nil r1
  obtain rfl : args = #[v0, v1] := by cases args; simp_all
  obtain ⟨rfl, rfl⟩ := trodVars_none hV
  obtain ⟨x0, rfl, rfl, rfl, k0⟩ := open_int Tryd.underlying3 (hval 0 3 v0 rfl rfl) h0
  obtain ⟨x1, s1, k1⟩ := arg_slice Tryd.underlying22 D_22 (hval 1 22 v1 rfl rfl) h1
  have hG : Gl [0, 1, 2, 3, 4, 5, 6, 7] (C0 W) := by
    refine gl_all (fun g => if g = 0 then [114, 97, 110, 103, 101] else if g = 1 then [107, 105, 110, 100] else if g = 2 then [115, 99, 97, 108, 97, 114] else if g = 3 then [102, 111, 114, 109] else if g = 4 then [108, 111, 110, 103] else if g = 5 then [119, 111, 114, 100] else if g = 6 then [102, 117, 108, 108] else if g = 7 then [110, 111, 110, 101] else []) (fun g hg => ?_) (by decide)
    simp only [List.mem_cons, List.not_mem_nil, or_false] at hg
    rcases hg with rfl | rfl | rfl | rfl | rfl | rfl | rfl | rfl
    · exact gl_sent hL (by kernel_rfl) _ _ _ (.tail _ (.tail _ (.head _))) (by kernel_rfl) (by kernel_rfl)
    · exact gl_sent hL (by kernel_rfl) _ _ _ (.tail _ (.tail _ (.tail _ (.tail _ (.head _))))) (by kernel_rfl) (by kernel_rfl)
    · exact gl_sent hL (by kernel_rfl) _ _ _ (.head _) (by kernel_rfl) (by kernel_rfl)
    · exact gl_sent hL (by kernel_rfl) _ _ _ (.tail _ (.head _)) (by kernel_rfl) (by kernel_rfl)
    · exact gl_sent hL (by kernel_rfl) _ _ _ (.tail _ (.tail _ (.tail _ (.head _)))) (by kernel_rfl) (by kernel_rfl)
    · exact gl_sent hL (by kernel_rfl) _ _ _ (.tail _ (.tail _ (.tail _ (.tail _ (.tail _ (.head _)))))) (by kernel_rfl) (by kernel_rfl)
    · exact gl_sent hL (by kernel_rfl) _ _ _ (.tail _ (.tail _ (.tail _ (.tail _ (.tail _ (.tail _ (.head _))))))) (by kernel_rfl) (by kernel_rfl)
    · exact gl_sent hL (by kernel_rfl) _ _ _ (.tail _ (.tail _ (.tail _ (.tail _ (.tail _ (.tail _ (.tail _ (.head _)))))))) (by kernel_rfl) (by kernel_rfl)
  obtain ⟨st, hs⟩ : ∃ st, f_linotypelaw24_RowMakes ⟨[], [], []⟩ x0 x1 = some (st, true) := rowMakes_true _ x0 x1
  refine (c_linotypelaw24_RowMakes (own0 W) (rel0 W) hG x0 x1 s1 hs).mono fun e W2 hp => ?_
  obtain ⟨v, c, rfl, rfl, hx, _, _, _, rfl⟩ := hp
  have hg := hx.grown
  refine ⟨_, rfl, post_of_same (pv := []) hW2 (fun _ _ _ => trodAll_cons_mk (shut_bool Tryd.underlying4 _) trodAll_mk0) (fun sp hsp => trodAll_kept p_laidOut (fun k h => hx.block k h fun _ => id) (by kernel_rfl) (fun x hx2 => by show x.block < W.heap.size; simpa using hW2.lt x (List.mem_append_left _ hx2)) (fun x hx2 => hsp x (List.mem_append_left _ hx2)) hk) (fun _ _ => rfl) rfl
    (hg.frame _) hg.2.1 (ok_one (by kernel_rfl) rfl (okWide_bool_mk Tryd.underlying4 _))⟩

theorem a0 : Rows.rowMakesRow.wf (OpenSpec.ofChange Rows.rowMakesSpec) = true := by kernel_rfl
theorem a1 : (Tryd.f10.params.all (Tryd.prog.readableRec ·) && namedTie Tryd.prog Rows.rowMakesRow.named Rows.rowMakesSpec.vars && (Rows.rowMakesRow.stops == []) && (Rows.rowMakesRow.knobs == [])) = true := by kernel_rfl
theorem a2 : (Rows.rowMakesRow.inPlace == Tryd.prog.inPlace 10) = true := by kernel_rfl
theorem a3 : (Rows.rowMakesRow.unfollowed == Tryd.prog.unfollowed 10) = true := by kernel_rfl
theorem a4 : (Rows.rowMakesRow.recurses == Tryd.prog.recurses 10) = true := by kernel_rfl
theorem a5 : (Rows.rowMakesRow.named == Tryd.prog.varsNamed 10) = true := by kernel_rfl
theorem a8 : Tryd.prog.funcNamed Rows.rowMakesRow.func = some 10 := by kernel_rfl
theorem a10 : false = Rows.rowMakesRow.goesBy Tryd.prog := by kernel_rfl
theorem a11 : Rows.rowMakesRow.wfByText (OpenSpec.ofChange Rows.rowMakesSpec) = true := by kernel_rfl
theorem a9 : Tryd.f10.isWrapper Tryd.prog Rows.rowMakesRow.wrapper Rows.rowMakesRow.mainSum := by
  unfold Func.isWrapper
  first | (rw [if_pos (by decide +kernel)]; kernel_rfl) | (rw [if_neg (by decide +kernel)]; exact ⟨rfl, rfl⟩)
theorem a12 : Tryd.f10.isInstance Tryd.prog Rows.rowMakesRow.origin Rows.rowMakesRow.targs := of_decide_eq_true (by kernel_rfl)
theorem closed : joinedFacts Tryd.prog 10 Tryd.f10 Rows.rowMakesSpec Rows.rowMakesRow = true :=
  joined p_laidOut p_rowed p_stops p_knobs p_heard p_enters p_lifts p_makes p_plain a0 a1 a2 a3 a4 a5 (by kernel_rfl) (by kernel_rfl)

theorem said : Rows.RowMakesSaid :=
  OpenClaim.holds_of_wide 10 Tryd.f10 rfl rfl rfl rfl rfl rfl rfl ⟨rfl, rfl, rfl, rfl, rfl⟩ rfl rfl rfl rfl rfl a8 Tryd.func10 closed a12 a9
    (fun os started H enc _ => lifted os started H enc)

theorem proved : Rows.RowMakesCardSaid :=
  Claim7.holds_tied_plain_at .later [] [.sentinel, .sentinel, .sentinel, .sentinel, .sentinel, .sentinel, .sentinel, .sentinel] true (true, "34990a40c16bc5caa9be47befadb6f91827606a13e5d9ac5a23ddc8a36ac3d0b") true said (fun _ h => by cases h) a11 (fun _ h => by cases h) rowMakes_row_tie rfl ⟨rfl, rfl⟩ p_main_is rfl
    (fun f fn hf hfn => by
      obtain rfl : f = 10 := Option.some.inj (a8.symm.trans hf) |>.symm
      obtain rfl : fn = Tryd.f10 := (Option.some.inj (Tryd.func10.symm.trans hfn)).symm
      refine ⟨p_looks, fun j t ht => ?_⟩
      rw [Tryd.params10] at ht
      have hm : t ∈ [3, 22] := by
        have := Array.mem_of_getElem? ht
        simpa using this
      have hall : ([3, 22].all fun t => !Tryd.prog.wantsStandIn t) = true := by kernel_rfl
      have := List.all_eq_true.1 hall t hm
      show Tryd.prog.wantsStandIn t = false
      simpa using this)
    a10
#print axioms proved
end Go.Proofs.YtohpkblleihmaaaDoor.rowMakes
