/-
  Proved here: FeedCuts, for every input the Go function answers true, and its arguments read as before. No condition.
-/
import Derived.Test.YtfhhpdggmefcoaaGreatDoorCards
import Derived.Test.YtfhhpdggmefcoaaGreatDoorTie
import Derived.Test.YtfhhpdggmefcoaaGreatDoorSfD
import Derived.Test.YtfhhpdggmefcoaaGreatDoorSfF
import Derived.Test.YtfhhpdggmefcoaaGreatDoorSfE
import Derived.SevenTiedAt
import Derived.WalkKit
import Derived.ProofKit
namespace Go.Proofs.YtfhhpdggmefcoaaGreatDoor.feedCuts
open Go Go.Lt Go.ChangeShapes Go.WideShapes Go.ChangeAt Go.RowKit
set_option linter.unusedVariables false
set_option maxRecDepth 100000
def laid : List (String × DataW Unit) := [("linotype/api.ErrRange", Rows.laid_linotype_api_ErrRange), ("linotype/api.ErrKind", Rows.laid_linotype_api_ErrKind)]
theorem met (os : Os) (args : Array Value) : laidMetH Tryz.prog laid ((World.laidAll Tryz.prog os laid).forCall (fun _ _ => 0) ⟨#[], args, []⟩).memory := by
 rw [metH (by kernel_rfl)]
 exact laidMet_laidAll args (by kernel_rfl) (by kernel_rfl)
theorem lifted (os : Os) (started : os.Started) (H : Type) (enc : TypeId × Value → H) :
  ReturnsInHanded {} Tryz.checked os 3 .any (fun w args => (Rows.feedCutsSpec.pre enc Tryz.prog Tryz.f3 [] false w args ∧ laidMetH Tryz.prog laid w) ∧ sizedMet enc Tryz.prog Tryz.f3 (OpenSpec.ofChange Rows.feedCutsSpec) false w args)
   (Rows.feedCutsSpec.post enc Tryz.prog Tryz.f3 false true false false) := by
 refine returnsInHanded_of_change_and (C := Tryz.checked) (X := fun w _ => laidMetH Tryz.prog laid w) (fun _ _ _ hh h => h.of_heap hh) p_own started (by kernel_rfl) Tryz.func3
  (ChangeSpec.witness_at (enc := enc) (C := Tryz.checked) (os := os) (X := fun w _ => laidMetH Tryz.prog laid w) false (World.laidAll Tryz.prog os laid) #[.agg #[.int .i64 0, .int .i64 0], .slice none 0 0, .slice none 0 0] 8 (World.laidAll_os _ _ _) (by kernel_rfl) (by kernel_rfl) (by kernel_rfl) (by kernel_rfl) (by kernel_rfl) (met os _)) ?_
 intro W base args ds gs before hval0 hW _ hwt hL _
 have hval : ∀ (j : Nat) t v, Tryz.f3.params[j]? = some t → args[j]? = some v → Value.okWide Tryz.prog W .any base t v := hval0
 have hW2 := hW
 obtain ⟨p, q, hA0, hV0, rfl, hfz, hnd⟩ := hW
 have hA : DataW.TrodAll enc Tryz.prog W 0 (fun _ => true) true Tryz.f3.params.toList args.toList ds p := hA0
 have hk := hA
 have hV : DataW.TrodVars enc Tryz.prog W (fun _ => true) [] gs q := hV0
 rw [Tryz.params3] at hA hval
 obtain ⟨v0, vs0, d0, ds0, p0, q0, hargs, rfl, rfl, h0, r0⟩ := trodAll_cons hA
 obtain ⟨v1, vs1, d1, ds1, p1, q1, rfl, rfl, rfl, h1, r1⟩ := trodAll_cons r0
 obtain ⟨v2, vs2, d2, ds2, p2, q2, rfl, rfl, rfl, h2, r2⟩ := trodAll_cons r1
 obtain ⟨rfl, rfl, rfl⟩ := trodAll_nil r2
 obtain rfl : args = #[v0, v1, v2] := by cases args; simp_all
 obtain ⟨rfl, rfl⟩ := trodVars_none hV
 obtain ⟨⟨l0⟩, x0, rfl, e0, k0⟩ := arg_agg Tryz.underlying23 D_23 (hval 0 23 v0 rfl rfl) h0
 have e0 : l0 = [.int .i64 x0.W, .int .i64 x0.H] := e0
 subst e0
 obtain ⟨x1, s1, k1⟩ := arg_slice Tryz.underlying24 D_24 (hval 1 24 v1 rfl rfl) h1
 obtain ⟨x2, s2, k2⟩ := arg_slice Tryz.underlying25 D_25 (hval 2 25 v2 rfl rfl) h2
 have hG : Gl [0, 1] (C0 W) := by
  refine gl_all (fun g => if g = 0 then [114, 97, 110, 103, 101] else if g = 1 then [107, 105, 110, 100] else []) (fun g hg => ?_) (by decide)
  simp only [List.mem_cons, List.not_mem_nil, or_false] at hg
  rcases hg with rfl | rfl
  ·exact gl_sent hL (by kernel_rfl) _ _ _ (.head _) (by kernel_rfl) (by kernel_rfl)
  ·exact gl_sent hL (by kernel_rfl) _ _ _ (.tail _ (.head _)) (by kernel_rfl) (by kernel_rfl)
 obtain ⟨st, hs⟩ : ∃ st, f_linotypelaw37_FeedCuts ⟨[], [], [], [], []⟩ x0 x1 x2 = some (st, true) := feedCuts_true x0 x1 x2 (fun y hy => wf8 (k1.2 y hy))
 refine (c_linotypelaw37_FeedCuts (own0 W) (rel0 W) hG x0 x1 x2 s1 s2 hs).mono fun e W2 hp => ?_
 obtain ⟨v, c, rfl, rfl, hx, _, _, _, rfl⟩ := hp
 have hg := hx.grown
 refine ⟨_, rfl, post_same hW2 rfl (fun _ _ _ => trodAll_cons_mk (shut_bool Tryz.underlying4 _) trodAll_mk0) (fun sp hsp => trodAll_kept p_laidOut (fun k h => hx.block k h fun _ => id) (by kernel_rfl) (fun x hx2 => by show x.block < W.heap.size; simpa using hW2.lt x (List.mem_append_left _ hx2)) hsp hk) (fun _ => rfl)
  hg (ok_one (by kernel_rfl) rfl (okWide_bool_mk Tryz.underlying4 _))⟩
theorem a0 : Rows.feedCutsRow.wf (OpenSpec.ofChange Rows.feedCutsSpec) = true := by kernel_rfl
theorem a1 : (Tryz.f3.params.all (Tryz.prog.readableRec ·) && namedTie Tryz.prog Rows.feedCutsRow.named Rows.feedCutsSpec.vars && (Rows.feedCutsRow.stops == []) && (Rows.feedCutsRow.knobs == [])) = true := by kernel_rfl
theorem a2 : (Rows.feedCutsRow.inPlace == Tryz.prog.inPlace 3) = true := by kernel_rfl
theorem a3 : (Rows.feedCutsRow.unfollowed == Tryz.prog.unfollowed 3) = true := by kernel_rfl
theorem a4 : (Rows.feedCutsRow.recurses == Tryz.prog.recurses 3) = true := by kernel_rfl
theorem a5 : (Rows.feedCutsRow.named == Tryz.prog.varsNamed 3) = true := by kernel_rfl
theorem a8 : Tryz.prog.funcNamed Rows.feedCutsRow.func = some 3 := by kernel_rfl
theorem a10 : false = Rows.feedCutsRow.goesBy Tryz.prog := by kernel_rfl
theorem a11 : Rows.feedCutsRow.wfByText (OpenSpec.ofChange Rows.feedCutsSpec) = true := by kernel_rfl
theorem a9 : Tryz.f3.isWrapper Tryz.prog Rows.feedCutsRow.wrapper Rows.feedCutsRow.mainSum := by
 unfold Func.isWrapper
 first | (rw [if_pos (by decide +kernel)]; kernel_rfl) | (rw [if_neg (by decide +kernel)]; exact ⟨rfl, rfl⟩)
theorem a12 : Tryz.f3.isInstance Tryz.prog Rows.feedCutsRow.origin Rows.feedCutsRow.targs := of_decide_eq_true (by kernel_rfl)
theorem closed : joinedFacts Tryz.prog 3 Tryz.f3 Rows.feedCutsSpec Rows.feedCutsRow = true :=
 joined p_laidOut p_rowed p_stops p_knobs p_heard p_enters p_lifts p_makes p_plain a0 a1 a2 a3 a4 a5 (by kernel_rfl) (by kernel_rfl)
theorem said : Rows.FeedCutsSaid :=
 OpenClaim.holds_of_wide 3 Tryz.f3 rfl rfl rfl rfl rfl rfl rfl ⟨rfl, rfl, rfl, rfl, rfl⟩ rfl rfl rfl rfl rfl a8 Tryz.func3 closed a12 a9
  (fun os started H enc _ => lifted os started H enc)
theorem proved : Rows.FeedCutsCardSaid :=
 Claim7.holds_tied_plain_at .later [] [.sentinel, .sentinel] true (true, "a59b190ecea8f4ebc0c46ebcee0655543d7f2ae48707d7a150f50caa05ed542b") false said (fun _ h => by cases h) a11 (fun _ h => by cases h) feedCuts_row_tie rfl ⟨rfl, rfl⟩ p_main_is rfl
  (fun f fn hf hfn => by
   obtain rfl : f = 3 := Option.some.inj (a8.symm.trans hf) |>.symm
   obtain rfl : fn = Tryz.f3 := (Option.some.inj (Tryz.func3.symm.trans hfn)).symm
   refine ⟨p_looks, fun j t ht => ?_⟩
   rw [Tryz.params3] at ht
   have hm : t ∈ [23, 24, 25] := by
    have := Array.mem_of_getElem? ht
    simpa using this
   have hall : ([23, 24, 25].all fun t => !Tryz.prog.wantsStandIn t) = true := by kernel_rfl
   have := List.all_eq_true.1 hall t hm
   show Tryz.prog.wantsStandIn t = false
   simpa using this)
  a10
#print axioms proved
end Go.Proofs.YtfhhpdggmefcoaaGreatDoor.feedCuts
