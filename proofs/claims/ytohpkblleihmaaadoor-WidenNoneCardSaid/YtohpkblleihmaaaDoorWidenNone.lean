/-
  Proved here: WidenNone, for every input the Go function answers true, and its arguments read as before. No condition.
-/
import Derived.Test.YtohpkblleihmaaaDoorCards
import Derived.Test.YtohpkblleihmaaaDoorTie
import Derived.Test.YtohpkblleihmaaaDoorFb
import Derived.Test.YtohpkblleihmaaaDoorFc
import Derived.Test.YtohpkblleihmaaaDoorW2
import Derived.Test.YtohpkblleihmaaaDoorWn
import Derived.SevenTiedAt
import Derived.WalkKit
import Derived.ProofKit
namespace Go.Proofs.YtohpkblleihmaaaDoor.widenNone
open Go Go.Lt Go.ChangeShapes Go.WideShapes Go.ChangeAt Go.RowKit
set_option linter.unusedVariables false
set_option maxRecDepth 100000

def laid : List (String × DataW Unit) := [("linotype/api.ErrRange", Rows.laid_linotype_api_ErrRange), ("linotype/api.ErrKind", Rows.laid_linotype_api_ErrKind)]
theorem met (os : Os) (args : Array Value) : laidMetH Tryd.prog laid ((World.laidAll Tryd.prog os laid).forCall (fun _ _ => 0) ⟨#[], args, []⟩).memory := by
  rw [metH (by kernel_rfl)]
  exact laidMet_laidAll args (by kernel_rfl) (by kernel_rfl)

theorem lifted (os : Os) (started : os.Started) (H : Type) (enc : TypeId × Value → H) :
    ReturnsInHanded {} Tryd.checked os 21 .any (fun w args => (Rows.widenNoneSpec.pre enc Tryd.prog Tryd.f21 [] false w args ∧ laidMetH Tryd.prog laid w) ∧ sizedMet enc Tryd.prog Tryd.f21 (OpenSpec.ofChange Rows.widenNoneSpec) false w args)
      (Rows.widenNoneSpec.post enc Tryd.prog Tryd.f21 false true false false) := by
  refine returnsInHanded_of_change_and (C := Tryd.checked) (X := fun w _ => laidMetH Tryd.prog laid w) (fun _ _ _ hh h => h.of_heap hh) p_own started (by kernel_rfl) Tryd.func21
    (ChangeSpec.witness_at (enc := enc) (C := Tryd.checked) (os := os) (X := fun w _ => laidMetH Tryd.prog laid w) false (World.laidAll Tryd.prog os laid) #[.int .i32 0, .agg #[.int .i64 0, .bool false, .int .i64 0, .int .i64 0]] 8 (World.laidAll_os _ _ _) (by kernel_rfl) (by kernel_rfl) (by kernel_rfl) (by kernel_rfl) (by kernel_rfl) (met os _)) ?_
  intro W base args ds gs before hval0 hW _ _ hL _
  have hval : ∀ (j : Nat) t v, Tryd.f21.params[j]? = some t → args[j]? = some v → Value.okWide Tryd.prog W .any base t v := hval0
  have hW2 := hW
  obtain ⟨p, q, hA0, hV0, rfl, hfz, hnd⟩ := hW
  have hA : DataW.TrodAll enc Tryd.prog W 0 (fun _ => true) true Tryd.f21.params.toList args.toList ds p := hA0
  have hk := hA
  have hV : DataW.TrodVars enc Tryd.prog W (fun _ => true) [] gs q := hV0
  rw [Tryd.params21] at hA hval
  obtain ⟨v0, vs0, d0, ds0, p0, q0, hargs, rfl, rfl, h0, r0⟩ := trodAll_cons hA
  obtain ⟨v1, vs1, d1, ds1, p1, q1, rfl, rfl, rfl, h1, r1⟩ := trodAll_cons r0
  obtain ⟨rfl, rfl, rfl⟩ := trodAll_nil r1
  obtain rfl : args = #[v0, v1] := by cases args; simp_all
  obtain ⟨rfl, rfl⟩ := trodVars_none hV
  obtain ⟨x0, rfl, rfl, rfl, k0⟩ := open_int Tryd.underlying21 (hval 0 21 v0 rfl rfl) h0
  obtain ⟨⟨l1⟩, x1, rfl, e1, k1⟩ := arg_agg Tryd.underlying148 D_148 (hval 1 148 v1 rfl rfl) h1
  have e1 : l1 = [.int .i64 x1.Break, .bool x1.Pict, .int .i64 x1.Conj, .int .i64 x1.East] := e1
  subst e1
  have hG : Gl [0, 1] (C0 W) := by
    refine gl_all (fun g => if g = 0 then [114, 97, 110, 103, 101] else if g = 1 then [107, 105, 110, 100] else []) (fun g hg => ?_) (by decide)
    simp only [List.mem_cons, List.not_mem_nil, or_false] at hg
    rcases hg with rfl | rfl
    · exact gl_sent hL (by kernel_rfl) _ _ _ (.head _) (by kernel_rfl) (by kernel_rfl)
    · exact gl_sent hL (by kernel_rfl) _ _ _ (.tail _ (.head _)) (by kernel_rfl) (by kernel_rfl)
  obtain ⟨st, hs⟩ : ∃ st, f_linotypelaw35_WidenNone ⟨[], [], [], []⟩ x0 x1 = some (st, true) := widenNone_true x0 x1
  refine (c_linotypelaw35_WidenNone (own0 W) (rel0 W) hG x0 x1 hs).mono fun e W2 hp => ?_
  obtain ⟨v, c, rfl, rfl, hx, _, _, _, rfl⟩ := hp
  have hg := hx.grown
  refine ⟨_, rfl, post_of_same (pv := []) hW2 (fun _ _ _ => trodAll_cons_mk (shut_bool Tryd.underlying4 _) trodAll_mk0) (fun sp hsp => trodAll_kept p_laidOut (fun k h => hx.block k h fun _ => id) (by kernel_rfl) (fun x hx2 => by show x.block < W.heap.size; simpa using hW2.lt x (List.mem_append_left _ hx2)) (fun x hx2 => hsp x (List.mem_append_left _ hx2)) hk) (fun _ _ => rfl) rfl
    (hg.frame _) hg.2.1 (ok_one (by kernel_rfl) rfl (okWide_bool_mk Tryd.underlying4 _))⟩

theorem a0 : Rows.widenNoneRow.wf (OpenSpec.ofChange Rows.widenNoneSpec) = true := by kernel_rfl
theorem a1 : (Tryd.f21.params.all (Tryd.prog.readableRec ·) && namedTie Tryd.prog Rows.widenNoneRow.named Rows.widenNoneSpec.vars && (Rows.widenNoneRow.stops == []) && (Rows.widenNoneRow.knobs == [])) = true := by kernel_rfl
theorem a2 : (Rows.widenNoneRow.inPlace == Tryd.prog.inPlace 21) = true := by kernel_rfl
theorem a3 : (Rows.widenNoneRow.unfollowed == Tryd.prog.unfollowed 21) = true := by kernel_rfl
theorem a4 : (Rows.widenNoneRow.recurses == Tryd.prog.recurses 21) = true := by kernel_rfl
theorem a5 : (Rows.widenNoneRow.named == Tryd.prog.varsNamed 21) = true := by kernel_rfl
theorem a8 : Tryd.prog.funcNamed Rows.widenNoneRow.func = some 21 := by kernel_rfl
theorem a10 : false = Rows.widenNoneRow.goesBy Tryd.prog := by kernel_rfl
theorem a11 : Rows.widenNoneRow.wfByText (OpenSpec.ofChange Rows.widenNoneSpec) = true := by kernel_rfl
theorem a9 : Tryd.f21.isWrapper Tryd.prog Rows.widenNoneRow.wrapper Rows.widenNoneRow.mainSum := by
  unfold Func.isWrapper
  first | (rw [if_pos (by decide +kernel)]; kernel_rfl) | (rw [if_neg (by decide +kernel)]; exact ⟨rfl, rfl⟩)
theorem a12 : Tryd.f21.isInstance Tryd.prog Rows.widenNoneRow.origin Rows.widenNoneRow.targs := of_decide_eq_true (by kernel_rfl)
theorem closed : joinedFacts Tryd.prog 21 Tryd.f21 Rows.widenNoneSpec Rows.widenNoneRow = true :=
  joined p_laidOut p_rowed p_stops p_knobs p_heard p_enters p_lifts p_makes p_plain a0 a1 a2 a3 a4 a5 (by kernel_rfl) (by kernel_rfl)

theorem said : Rows.WidenNoneSaid :=
  OpenClaim.holds_of_wide 21 Tryd.f21 rfl rfl rfl rfl rfl rfl rfl ⟨rfl, rfl, rfl, rfl, rfl⟩ rfl rfl rfl rfl rfl a8 Tryd.func21 closed a12 a9
    (fun os started H enc _ => lifted os started H enc)

theorem proved : Rows.WidenNoneCardSaid :=
  Claim7.holds_tied_plain_at .later [] [.sentinel, .sentinel] true (true, "34990a40c16bc5caa9be47befadb6f91827606a13e5d9ac5a23ddc8a36ac3d0b") true said (fun _ h => by cases h) a11 (fun _ h => by cases h) widenNone_row_tie rfl ⟨rfl, rfl⟩ p_main_is rfl
    (fun f fn hf hfn => by
      obtain rfl : f = 21 := Option.some.inj (a8.symm.trans hf) |>.symm
      obtain rfl : fn = Tryd.f21 := (Option.some.inj (Tryd.func21.symm.trans hfn)).symm
      refine ⟨p_looks, fun j t ht => ?_⟩
      rw [Tryd.params21] at ht
      have hm : t ∈ [21, 148] := by
        have := Array.mem_of_getElem? ht
        simpa using this
      have hall : ([21, 148].all fun t => !Tryd.prog.wantsStandIn t) = true := by kernel_rfl
      have := List.all_eq_true.1 hall t hm
      show Tryd.prog.wantsStandIn t = false
      simpa using this)
    a10
#print axioms proved
end Go.Proofs.YtohpkblleihmaaaDoor.widenNone
