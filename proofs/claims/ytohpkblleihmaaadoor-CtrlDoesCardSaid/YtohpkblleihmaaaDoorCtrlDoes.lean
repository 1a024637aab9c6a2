/-
  Proved here: CtrlDoes, for every input the Go function answers true, and its arguments read as before. No condition.
-/
import Derived.Test.YtohpkblleihmaaaDoorCards
import Derived.Test.YtohpkblleihmaaaDoorTie
import Derived.Test.YtohpkblleihmaaaDoorFb
import Derived.Test.YtohpkblleihmaaaDoorFc
import Derived.Test.YtohpkblleihmaaaDoorC1
import Derived.Test.YtohpkblleihmaaaDoorPr2
import Derived.SevenTiedAt
import Derived.WalkKit
import Derived.ProofKit
namespace Go.Proofs.YtohpkblleihmaaaDoor.ctrlDoes
open Go Go.Lt Go.ChangeShapes Go.WideShapes Go.ChangeAt Go.RowKit
set_option linter.unusedVariables false
set_option maxRecDepth 100000

def laid : List (String × DataW Unit) := [("linotype/api.ErrRange", Rows.laid_linotype_api_ErrRange), ("linotype/api.ErrKind", Rows.laid_linotype_api_ErrKind)]
theorem met (os : Os) (args : Array Value) : laidMetH Tryd.prog laid ((World.laidAll Tryd.prog os laid).forCall (fun _ _ => 0) ⟨#[], args, []⟩).memory := by
  rw [metH (by kernel_rfl)]
  exact laidMet_laidAll args (by kernel_rfl) (by kernel_rfl)

theorem lifted (os : Os) (started : os.Started) (H : Type) (enc : TypeId × Value → H) :
    ReturnsInHanded {} Tryd.checked os 18 .any (fun w args => (Rows.ctrlDoesSpec.pre enc Tryd.prog Tryd.f18 [] false w args ∧ laidMetH Tryd.prog laid w) ∧ sizedMet enc Tryd.prog Tryd.f18 (OpenSpec.ofChange Rows.ctrlDoesSpec) false w args)
      (Rows.ctrlDoesSpec.post enc Tryd.prog Tryd.f18 false true false false) := by
  refine returnsInHanded_of_change_and (C := Tryd.checked) (X := fun w _ => laidMetH Tryd.prog laid w) (fun _ _ _ hh h => h.of_heap hh) p_own started (by kernel_rfl) Tryd.func18
    (ChangeSpec.witness_at (enc := enc) (C := Tryd.checked) (os := os) (X := fun w _ => laidMetH Tryd.prog laid w) false (World.laidAll Tryd.prog os laid) #[.agg #[.slice none 0 0, .int .i64 0, .int .i64 0, .bool false, .bool false], .slice none 0 0] 8 (World.laidAll_os _ _ _) (by kernel_rfl) (by kernel_rfl) (by kernel_rfl) (by kernel_rfl) (by kernel_rfl) (met os _)) ?_
  intro W base args ds gs before hval0 hW _ _ hL _
  have hval : ∀ (j : Nat) t v, Tryd.f18.params[j]? = some t → args[j]? = some v → Value.okWide Tryd.prog W .any base t v := hval0
  have hW2 := hW
  obtain ⟨p, q, hA0, hV0, rfl, hfz, hnd⟩ := hW
  have hA : DataW.TrodAll enc Tryd.prog W 0 (fun _ => true) true Tryd.f18.params.toList args.toList ds p := hA0
  have hk := hA
  have hV : DataW.TrodVars enc Tryd.prog W (fun _ => true) [] gs q := hV0
  rw [Tryd.params18] at hA hval
  obtain ⟨v0, vs0, d0, ds0, p0, q0, hargs, rfl, rfl, h0, r0⟩ := trodAll_cons hA
  obtain ⟨v1, vs1, d1, ds1, p1, q1, rfl, rfl, rfl, h1, r1⟩ := trodAll_cons r0
  obtain ⟨rfl, rfl, rfl⟩ := trodAll_nil r1
  obtain rfl : args = #[v0, v1] := by cases args; simp_all
  obtain ⟨rfl, rfl⟩ := trodVars_none hV
  obtain ⟨⟨l0⟩, x0, rfl, e0, k0⟩ := arg_agg Tryd.underlying136 D_136 (hval 0 136 v0 rfl rfl) h0
  obtain ⟨y0_0, e0, s0_0⟩ := e0
  have e0 : l0 = [y0_0, .int .i64 x0.At.Row, .int .i64 x0.At.Col, .bool x0.At.Pending, .bool x0.Auto] := e0
  subst e0
  obtain ⟨x1, s1, k1⟩ := arg_slice Tryd.underlying25 D_25 (hval 1 25 v1 rfl rfl) h1
  have hG : Gl [0, 1] (C0 W) := by
    refine gl_all (fun g => if g = 0 then [114, 97, 110, 103, 101] else if g = 1 then [107, 105, 110, 100] else []) (fun g hg => ?_) (by decide)
    simp only [List.mem_cons, List.not_mem_nil, or_false] at hg
    rcases hg with rfl | rfl
    · exact gl_sent hL (by kernel_rfl) _ _ _ (.head _) (by kernel_rfl) (by kernel_rfl)
    · exact gl_sent hL (by kernel_rfl) _ _ _ (.tail _ (.head _)) (by kernel_rfl) (by kernel_rfl)
  obtain ⟨st, hs⟩ : ∃ st, f_linotypelaw36_CtrlDoes ⟨[], [], []⟩ x0 x1 = some (st, true) := ctrlDoes_true _ x0 s0_0.len_le x1
  refine (c_linotypelaw36_CtrlDoes (own0 W) (rel0 W) hG x0 x1 s0_0 s1 hs).mono fun e W2 hp => ?_
  obtain ⟨v, c, rfl, rfl, hx, _, _, _, rfl⟩ := hp
  have hg := hx.grown
  refine ⟨_, rfl, post_of_same (pv := []) hW2 (fun _ _ _ => trodAll_cons_mk (shut_bool Tryd.underlying4 _) trodAll_mk0) (fun sp hsp => trodAll_kept p_laidOut (fun k h => hx.block k h fun _ => id) (by kernel_rfl) (fun x hx2 => by show x.block < W.heap.size; simpa using hW2.lt x (List.mem_append_left _ hx2)) (fun x hx2 => hsp x (List.mem_append_left _ hx2)) hk) (fun _ _ => rfl) rfl
    (hg.frame _) hg.2.1 (ok_one (by kernel_rfl) rfl (okWide_bool_mk Tryd.underlying4 _))⟩

theorem a0 : Rows.ctrlDoesRow.wf (OpenSpec.ofChange Rows.ctrlDoesSpec) = true := by kernel_rfl
theorem a1 : (Tryd.f18.params.all (Tryd.prog.readableRec ·) && namedTie Tryd.prog Rows.ctrlDoesRow.named Rows.ctrlDoesSpec.vars && (Rows.ctrlDoesRow.stops == []) && (Rows.ctrlDoesRow.knobs == [])) = true := by kernel_rfl
theorem a2 : (Rows.ctrlDoesRow.inPlace == Tryd.prog.inPlace 18) = true := by kernel_rfl
theorem a3 : (Rows.ctrlDoesRow.unfollowed == Tryd.prog.unfollowed 18) = true := by kernel_rfl
theorem a4 : (Rows.ctrlDoesRow.recurses == Tryd.prog.recurses 18) = true := by kernel_rfl
theorem a5 : (Rows.ctrlDoesRow.named == Tryd.prog.varsNamed 18) = true := by kernel_rfl
theorem a8 : Tryd.prog.funcNamed Rows.ctrlDoesRow.func = some 18 := by kernel_rfl
theorem a10 : false = Rows.ctrlDoesRow.goesBy Tryd.prog := by kernel_rfl
theorem a11 : Rows.ctrlDoesRow.wfByText (OpenSpec.ofChange Rows.ctrlDoesSpec) = true := by kernel_rfl
theorem a9 : Tryd.f18.isWrapper Tryd.prog Rows.ctrlDoesRow.wrapper Rows.ctrlDoesRow.mainSum := by
  unfold Func.isWrapper
  first | (rw [if_pos (by decide +kernel)]; kernel_rfl) | (rw [if_neg (by decide +kernel)]; exact ⟨rfl, rfl⟩)
theorem a12 : Tryd.f18.isInstance Tryd.prog Rows.ctrlDoesRow.origin Rows.ctrlDoesRow.targs := of_decide_eq_true (by kernel_rfl)
theorem closed : joinedFacts Tryd.prog 18 Tryd.f18 Rows.ctrlDoesSpec Rows.ctrlDoesRow = true :=
  joined p_laidOut p_rowed p_stops p_knobs p_heard p_enters p_lifts p_makes p_plain a0 a1 a2 a3 a4 a5 (by kernel_rfl) (by kernel_rfl)

theorem said : Rows.CtrlDoesSaid :=
  OpenClaim.holds_of_wide 18 Tryd.f18 rfl rfl rfl rfl rfl rfl rfl ⟨rfl, rfl, rfl, rfl, rfl⟩ rfl rfl rfl rfl rfl a8 Tryd.func18 closed a12 a9
    (fun os started H enc _ => lifted os started H enc)

theorem proved : Rows.CtrlDoesCardSaid :=
  Claim7.holds_tied_plain_at .later [] [.sentinel, .sentinel] true (true, "34990a40c16bc5caa9be47befadb6f91827606a13e5d9ac5a23ddc8a36ac3d0b") true said (fun _ h => by cases h) a11 (fun _ h => by cases h) ctrlDoes_row_tie rfl ⟨rfl, rfl⟩ p_main_is rfl
    (fun f fn hf hfn => by
      obtain rfl : f = 18 := Option.some.inj (a8.symm.trans hf) |>.symm
      obtain rfl : fn = Tryd.f18 := (Option.some.inj (Tryd.func18.symm.trans hfn)).symm
      refine ⟨p_looks, fun j t ht => ?_⟩
      rw [Tryd.params18] at ht
      have hm : t ∈ [136, 25] := by
        have := Array.mem_of_getElem? ht
        simpa using this
      have hall : ([136, 25].all fun t => !Tryd.prog.wantsStandIn t) = true := by kernel_rfl
      have := List.all_eq_true.1 hall t hm
      show Tryd.prog.wantsStandIn t = false
      simpa using this)
    a10
#print axioms proved
end Go.Proofs.YtohpkblleihmaaaDoor.ctrlDoes
