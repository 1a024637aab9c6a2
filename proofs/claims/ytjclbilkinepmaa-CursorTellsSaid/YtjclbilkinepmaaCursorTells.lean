/-
  Proved here: CursorTells, whether any cursor may be, as it is held, and behind a cluster: the Go function answers true for every input. No condition. The row's frame began as the kit's printed shell.
-/
import Derived.Test.YtjclbilkinepmaaRows
import Derived.WalkKit
import Derived.ProofKit
import Derived.OpenShut
import Derived.Test.YtjclbilkinepmaaC
import Derived.Lib.SmallJoins
namespace Go.Proofs.Ytjclbilkinepmaa.cursorTells
open Go.Lt Go.Joins  Go.ChangeShapes Go.WideShapes Go.ChangeAt Go.RowKit
set_option linter.unusedVariables false      -- a walk need not use every 'w<i>' (that an integer argument fits its kind)

theorem own : ownKnob Try.prog.godebug = none := by kernel_rfl

/-! ### STEP 1: THE WALK: the Go text returns true. 'Grown w w'': the world has at most new blocks (Derived/RowKit3.lean). Part the cases AHEAD of 'go_enter' where a test parts the walk; take each callee by a contract of your own. -/
theorem walk (c : G_api_Cursor) (s : G_linotypelaw31_Side) (auto : Bool) (w : World) :
    Calls Try.prog 4 #[.agg #[.int .i64 c.Row, .int .i64 c.Col, .bool c.Pending], .agg #[.int .i64 s.W, .int .i64 s.H, .int .i64 s.Wide], .bool auto] w fun e w' => e = .returned (.bool true) ∧ Grown w w' := by
  have h := c_linotypelaw31_CursorTells (c0 := ⟨w, fun _ _ => False⟩) c s auto (cursorTells_true c s auto)
  refine h.mono fun e w' hp => ?_
  obtain ⟨v, c', rfl, rfl, hx, rfl⟩ := hp
  exact ⟨rfl, hx.grown⟩

theorem cells27 : Try.prog.cellsOf 27 = 3 := by kernel_rfl
theorem cells29 : Try.prog.cellsOf 29 = 3 := by kernel_rfl

theorem shutb {H : Type} {enc : TypeId × Value → H} {w : World} {base : Nat} {spare : Nat → Bool} {held : Bool} (b : Bool) : ∃ n, DataW.trod enc Try.prog w base spare held n 4 [.bool b] = some (.lit (.bool b), []) :=
  ⟨1, by simp [DataW.trod, Try.underlying4]⟩

/-! ### THE ROW's STEP: WRITTEN OUT: LEAVE IT -/
set_option maxRecDepth 100000 in
theorem lifted (os : Os) (started : os.Started) (H : Type) (enc : TypeId × Value → H) :
    ReturnsInHanded {} Try.checked os 4 .any (Rows.cursorTellsSpec.pre6 enc Try.prog Try.f4 Rows.cursorTellsRow.domain false) (Rows.cursorTellsSpec.post enc Try.prog Try.f4 false true false false) := by
  refine returnsInHanded_of_change (C := Try.checked) own started (by kernel_rfl) Try.func4
    (ChangeSpec.witness6 (enc := enc) (C := Try.checked) false ⟨#[], #[.agg #[.int .i64 0, .int .i64 0, .bool false], .agg #[.int .i64 0, .int .i64 0, .int .i64 0], .bool false], []⟩ 8 (by kernel_rfl) (by kernel_rfl) (by kernel_rfl) (by kernel_rfl)) ?_
  intro W base args ds gs before hval0 hW hcnd _
  have hval : ∀ (j : Nat) t v, Try.f4.params[j]? = some t → args[j]? = some v → Value.okWide Try.prog W .any base t v := hval0
  have hW' := hW
  obtain ⟨p, q, hA0, hV, rfl, hfz, hnd⟩ := hW
  have hA : DataW.TrodAll enc Try.prog W 0 (fun _ => true) true Try.f4.params.toList args.toList ds p := hA0
  rw [Try.params4] at hA hval
  obtain ⟨v0, vs0, d0, ds0, p0, q0, hargs, rfl, rfl, h0, r0⟩ := trodAll_cons hA
  obtain ⟨v1, vs1, d1, ds1, p1, q1, rfl, rfl, rfl, h1, r1⟩ := trodAll_cons r0
  obtain ⟨v2, vs2, d2, ds2, p2, q2, rfl, rfl, rfl, h2, r2⟩ := trodAll_cons r1
  obtain ⟨rfl, rfl, rfl⟩ := trodAll_nil r2
  obtain rfl : args = #[v0, v1, v2] := by cases args; simp_all
  obtain ⟨rfl, rfl⟩ := trodVars_none hV
  obtain ⟨b0, b1, b2, y0, y1, y2, m, rfl, rfl, rfl, g0, g1, g2⟩ := open_agg3 Try.underlying27 (by kernel_rfl) cells27 (hval 0 27 v0 rfl rfl) h0
  obtain ⟨d0, d1, d2, z0, z1, z2, m', rfl, rfl, rfl, k0, k1, k2⟩ := open_agg3 Try.underlying29 (by kernel_rfl) cells29 (hval 1 29 v1 rfl rfl) h1
  obtain ⟨b, rfl, rfl, rfl⟩ := open_bool Try.underlying4 (hval 2 4 v2 rfl rfl) h2
  obtain ⟨xa, e0, rfl, wa⟩ := DataW.trod_int Try.underlying3 g0
  obtain ⟨xb, e1, rfl, wb⟩ := DataW.trod_int Try.underlying3 g1
  obtain ⟨xc, e2, rfl⟩ := DataW.trod_bool Try.underlying4 g2
  obtain ⟨xd, e3, rfl, wd⟩ := DataW.trod_int Try.underlying3 k0
  obtain ⟨xe, e4, rfl, we⟩ := DataW.trod_int Try.underlying3 k1
  obtain ⟨xf, e5, rfl, wf⟩ := DataW.trod_int Try.underlying3 k2
  simp only [List.cons.injEq, and_true] at e0 e1 e2 e3 e4 e5
  subst e0 e1 e2 e3 e4 e5
  clear hA0 hval0
  simp only [List.append_nil] at hW'
  refine (walk ⟨xa, xb, xc⟩ ⟨xd, xe, xf⟩ b W).mono fun e W' ⟨he, hg⟩ => ?_
  subst he
  exact ⟨_, rfl, post_of_same (pa := []) (pv := []) hW' (fun _ _ _ => (trodAll_cons_mk (shut_bool Try.underlying4 _) trodAll_mk0)) (fun sp _ => trodAll_cons_mk (shut_agg3 Try.underlying27 (by kernel_rfl) cells27 ⟨1, trod_int_mk 0 Try.underlying3 wa⟩ ⟨1, trod_int_mk 0 Try.underlying3 wb⟩ (shutb xc)) (trodAll_cons_mk (shut_agg3 Try.underlying29 (by kernel_rfl) cells29 ⟨1, trod_int_mk 0 Try.underlying3 wd⟩ ⟨1, trod_int_mk 0 Try.underlying3 we⟩ ⟨1, trod_int_mk 0 Try.underlying3 wf⟩) (trodAll_cons_mk (shut_bool Try.underlying4 _) trodAll_mk0))) (fun _ _ => rfl) rfl
    (hg.frame _) hg.2.1 (ok_one (by kernel_rfl) rfl (okWide_bool_mk Try.underlying4 _))⟩

theorem over : Rows.cursorTellsRow.holds Try.pinned (OpenSpec.ofChange Rows.cursorTellsSpec) :=
  OpenClaim.holds_of_wide 4 Try.f4 rfl rfl rfl rfl rfl rfl rfl ⟨rfl, rfl, rfl, rfl, rfl⟩ rfl rfl rfl rfl rfl (by kernel_rfl) Try.func4 (by kernel_rfl)
    (of_decide_eq_true (by kernel_rfl)) (by unfold Func.isWrapper; first | (rw [if_pos (by decide +kernel)]; kernel_rfl) | (rw [if_neg (by decide +kernel)]; exact ⟨rfl, rfl⟩))
    (fun os started H enc _ => lifted os started H enc)

/-- ████ THE STATEMENT ████ -/
theorem proved : Rows.CursorTellsSaid :=
  over
#print axioms proved
end Go.Proofs.Ytjclbilkinepmaa.cursorTells
