/-
  Proved here: BoundHolds, for every input the Go function answers true, and its arguments read as before. No condition.
-/
import Derived.Test.YthokmpbbkpjhbaaGreatDoorCards
import Derived.Test.YthokmpbbkpjhbaaGreatDoorTie
import Derived.Test.YthokmpbbkpjhbaaGreatDoorSkA
import Derived.Test.YthokmpbbkpjhbaaGreatDoorSkF
import Derived.Test.YthokmpbbkpjhbaaGreatDoorSkD
import Derived.Test.YthokmpbbkpjhbaaGreatDoorSkE
import Derived.SevenTiedAt
import Derived.WalkKit
import Derived.ProofKit
namespace Go.Proofs.YthokmpbbkpjhbaaGreatDoor.boundHolds
open Go Go.Lt Go.ChangeShapes Go.WideShapes Go.ChangeAt Go.RowKit
set_option linter.unusedVariables false
set_option maxRecDepth 100000
def laid : List (String × DataW Unit) := [("linotype/api.ErrRange", Rows.laid_linotype_api_ErrRange), ("linotype/api.ErrKind", Rows.laid_linotype_api_ErrKind), ("linotype/api.ErrNone", Rows.laid_linotype_api_ErrNone)]
theorem met (os : Os) (args : Array Value) : laidMetH Tryz.prog laid ((World.laidAll Tryz.prog os laid).forCall (fun _ _ => 0) ⟨#[], args, []⟩).memory := by
 rw [metH (by kernel_rfl)]
 exact laidMet_laidAll args (by kernel_rfl) (by kernel_rfl)
theorem lifted (os : Os) (started : os.Started) (H : Type) (enc : TypeId × Value → H) :
  ReturnsInHanded {} Tryz.checked os 9 .any (fun w args => (Rows.boundHoldsSpec.pre enc Tryz.prog Tryz.f9 [] false w args ∧ laidMetH Tryz.prog laid w) ∧ sizedMet enc Tryz.prog Tryz.f9 (OpenSpec.ofChange Rows.boundHoldsSpec) false w args)
   (Rows.boundHoldsSpec.post enc Tryz.prog Tryz.f9 false true false false) := by
 refine returnsInHanded_of_change_and (C := Tryz.checked) (X := fun w _ => laidMetH Tryz.prog laid w) (fun _ _ _ hh h => h.of_heap hh) p_own started (by kernel_rfl) Tryz.func9
  (ChangeSpec.witness_at (enc := enc) (C := Tryz.checked) (os := os) (X := fun w _ => laidMetH Tryz.prog laid w) false (World.laidAll Tryz.prog os laid) #[.agg #[.int .i64 0, .int .i64 0], .slice none 0 0] 8 (World.laidAll_os _ _ _) (by kernel_rfl) (by kernel_rfl) (by kernel_rfl) (by kernel_rfl) (by kernel_rfl) (met os _)) ?_
 intro W base args ds gs before hval0 hW _ _ hL _
 have hval : ∀ (j : Nat) t v, Tryz.f9.params[j]? = some t → args[j]? = some v → Value.okWide Tryz.prog W .any base t v := hval0
 have hW2 := hW
 obtain ⟨p, q, hA0, hV0, rfl, hfz, hnd⟩ := hW
 have hA : DataW.TrodAll enc Tryz.prog W 0 (fun _ => true) true Tryz.f9.params.toList args.toList ds p := hA0
 have hk := hA
 have hV : DataW.TrodVars enc Tryz.prog W (fun _ => true) [] gs q := hV0
 rw [Tryz.params9] at hA hval
 obtain ⟨v0, vs0, d0, ds0, p0, q0, hargs, rfl, rfl, h0, r0⟩ := trodAll_cons hA
 obtain ⟨v1, vs1, d1, ds1, p1, q1, rfl, rfl, rfl, h1, r1⟩ := trodAll_cons r0
 obtain ⟨rfl, rfl, rfl⟩ := trodAll_nil r1
 obtain rfl : args = #[v0, v1] := by cases args; simp_all
 obtain ⟨rfl, rfl⟩ := trodVars_none hV
 obtain ⟨⟨l0⟩, x0, rfl, e0, k0⟩ := arg_agg Tryz.underlying92 D_92 (hval 0 92 v0 rfl rfl) h0
 have e0 : l0 = [.int .i64 x0.W, .int .i64 x0.H] := e0
 subst e0
 obtain ⟨x1, s1, k1⟩ := arg_slice Tryz.underlying55 D_55 (hval 1 55 v1 rfl rfl) h1
 have hG : Gl [0, 4, 7] (C0 W) := by
  refine gl_all (fun g => if g = 0 then [114, 97, 110, 103, 101] else if g = 4 then [107, 105, 110, 100] else if g = 7 then [110, 111, 110, 101] else []) (fun g hg => ?_) (by decide)
  simp only [List.mem_cons, List.not_mem_nil, or_false] at hg
  rcases hg with rfl | rfl | rfl
  ·exact gl_sent hL (by kernel_rfl) _ _ _ (.head _) (by kernel_rfl) (by kernel_rfl)
  ·exact gl_sent hL (by kernel_rfl) _ _ _ (.tail _ (.head _)) (by kernel_rfl) (by kernel_rfl)
  ·exact gl_sent hL (by kernel_rfl) _ _ _ (.tail _ (.tail _ (.head _))) (by kernel_rfl) (by kernel_rfl)
 obtain ⟨st, hs⟩ : ∃ st, f_linotypelaw48_BoundHolds ⟨[], [], [], [], [], []⟩ x0 x1 = some (st, true) := boundHolds_true x0 x1 s1.len_le (fun o ho => ⟨fun y hy => wf8 ((k1.2 o ho).2.2.2.2 y hy), by have h := (k1.2 o ho).2.2.2.1; unfold maxLen at h; omega⟩)
 refine (c_linotypelaw48_BoundHolds (own0 W) (rel0 W) hG x0 x1 s1 hs).mono fun e W2 hp => ?_
 obtain ⟨v, c, rfl, rfl, hx, _, _, _, rfl⟩ := hp
 have hg := hx.grown
 refine ⟨_, rfl, post_same hW2 rfl (fun _ _ _ => trodAll_cons_mk (shut_bool Tryz.underlying4 _) trodAll_mk0) (fun sp hsp => trodAll_kept p_laidOut (fun k h => hx.block k h fun _ => id) (by kernel_rfl) (fun x hx2 => by show x.block < W.heap.size; simpa using hW2.lt x (List.mem_append_left _ hx2)) hsp hk) (fun _ => rfl)
  hg (ok_one (by kernel_rfl) rfl (okWide_bool_mk Tryz.underlying4 _))⟩
theorem a0 : Rows.boundHoldsRow.wf (OpenSpec.ofChange Rows.boundHoldsSpec) = true := by kernel_rfl
theorem a1 : (Tryz.f9.params.all (Tryz.prog.readableRec ·) && namedTie Tryz.prog Rows.boundHoldsRow.named Rows.boundHoldsSpec.vars && (Rows.boundHoldsRow.stops == []) && (Rows.boundHoldsRow.knobs == [])) = true := by kernel_rfl
theorem a2 : (Rows.boundHoldsRow.inPlace == Tryz.prog.inPlace 9) = true := by kernel_rfl
theorem a3 : (Rows.boundHoldsRow.unfollowed == Tryz.prog.unfollowed 9) = true := by kernel_rfl
theorem a4 : (Rows.boundHoldsRow.recurses == Tryz.prog.recurses 9) = true := by kernel_rfl
theorem a5 : (Rows.boundHoldsRow.named == Tryz.prog.varsNamed 9) = true := by kernel_rfl
theorem a8 : Tryz.prog.funcNamed Rows.boundHoldsRow.func = some 9 := by kernel_rfl
theorem a10 : false = Rows.boundHoldsRow.goesBy Tryz.prog := by kernel_rfl
theorem a11 : Rows.boundHoldsRow.wfByText (OpenSpec.ofChange Rows.boundHoldsSpec) = true := by kernel_rfl
theorem a9 : Tryz.f9.isWrapper Tryz.prog Rows.boundHoldsRow.wrapper Rows.boundHoldsRow.mainSum := by
 unfold Func.isWrapper
 first | (rw [if_pos (by decide +kernel)]; kernel_rfl) | (rw [if_neg (by decide +kernel)]; exact ⟨rfl, rfl⟩)
theorem a12 : Tryz.f9.isInstance Tryz.prog Rows.boundHoldsRow.origin Rows.boundHoldsRow.targs := of_decide_eq_true (by kernel_rfl)
theorem closed : joinedFacts Tryz.prog 9 Tryz.f9 Rows.boundHoldsSpec Rows.boundHoldsRow = true :=
 joined p_laidOut p_rowed p_stops p_knobs p_heard p_enters p_lifts p_makes p_plain a0 a1 a2 a3 a4 a5 (by kernel_rfl) (by kernel_rfl)
theorem said : Rows.BoundHoldsSaid :=
 OpenClaim.holds_of_wide 9 Tryz.f9 rfl rfl rfl rfl rfl rfl rfl ⟨rfl, rfl, rfl, rfl, rfl⟩ rfl rfl rfl rfl rfl a8 Tryz.func9 closed a12 a9
  (fun os started H enc _ => lifted os started H enc)
theorem proved : Rows.BoundHoldsCardSaid :=
 Claim7.holds_tied_plain_at .later [] [.sentinel, .sentinel, .sentinel] true (true, "bbebed138fdc759f2bd6c48282b3cfb84a5fa78613f3da562b82f15c613fb9fc") true said (fun _ h => by cases h) a11 (fun _ h => by cases h) boundHolds_row_tie rfl ⟨rfl, rfl⟩ p_main_is rfl
  (fun f fn hf hfn => by
   obtain rfl : f = 9 := Option.some.inj (a8.symm.trans hf) |>.symm
   obtain rfl : fn = Tryz.f9 := (Option.some.inj (Tryz.func9.symm.trans hfn)).symm
   refine ⟨p_looks, fun j t ht => ?_⟩
   rw [Tryz.params9] at ht
   have hm : t ∈ [92, 55] := by
    have := Array.mem_of_getElem? ht
    simpa using this
   have hall : ([92, 55].all fun t => !Tryz.prog.wantsStandIn t) = true := by kernel_rfl
   have := List.all_eq_true.1 hall t hm
   show Tryz.prog.wantsStandIn t = false
   simpa using this)
  a10
#print axioms proved
end Go.Proofs.YthokmpbbkpjhbaaGreatDoor.boundHolds
