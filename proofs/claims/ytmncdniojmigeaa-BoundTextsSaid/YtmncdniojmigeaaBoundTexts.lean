/-
  Proved here: BoundTexts, for every input the Go function answers true, and its arguments read as before. No condition.
-/
import Derived.Test.YtmncdniojmigeaaRows
import Derived.Test.YtmncdniojmigeaaBxB
import Derived.WalkKit
import Derived.ProofKit
namespace Go.Proofs.Ytmncdniojmigeaa.boundTexts
open Go Go.Lt Go.ChangeShapes Go.WideShapes Go.ChangeAt Go.RowKit
set_option linter.unusedVariables false
set_option maxRecDepth 100000
theorem own:ownKnob Try.prog.godebug=none:=by kernel_rfl
theorem p_laidOut:laidOutB Try.prog=true:=by kernel_rfl
theorem lifted (os:Os) (started:os.Started) (H:Type) (enc:TypeId×Value→H):
  ReturnsInHanded {} Try.checked os 3 .any (Rows.boundTextsSpec.pre6 enc Try.prog Try.f3 Rows.boundTextsRow.domain false) (Rows.boundTextsSpec.post enc Try.prog Try.f3 false true false false):=by
 refine returnsInHanded_of_change (C:=Try.checked) own started (by kernel_rfl) Try.func3
  (ChangeSpec.witness6 (enc:=enc) (C:=Try.checked) false ⟨#[],#[.slice none 0 0,.int .i64 0],[]⟩ 8 (by kernel_rfl) (by kernel_rfl) (by kernel_rfl) (by kernel_rfl)) ?_
 intro W base args ds gs before hval0 hW hcnd _;have hval:∀(j:Nat) t v,Try.f3.params[j]? = some t→args[j]? = some v→Value.okWide Try.prog W .any base t v:=hval0;have hW2:=hW;obtain ⟨p,q,hA0,hV,rfl,hfz,hnd⟩:=hW;have hA:DataW.TrodAll enc Try.prog W 0 (fun _=>true) true Try.f3.params.toList args.toList ds p:=hA0;have hk:=hA;rw [Try.params3] at hA;obtain ⟨v0,vs0,d0,ds0,p0,q0,hargs,rfl,rfl,h0,r0⟩:=trodAll_cons hA;obtain ⟨v1,vs1,d1,ds1,p1,q1,rfl,rfl,rfl,h1,r1⟩:=trodAll_cons r0;obtain ⟨rfl,rfl,rfl⟩:=trodAll_nil r1;obtain rfl:args= #[v0,v1]:=by cases args; simp_all
 obtain ⟨rfl,rfl⟩:=trodVars_none hV;obtain ⟨x0,s0,k0⟩:=gM Try.underlying22 kf (hval 0 22 v0 rfl rfl) h0;obtain ⟨x1,rfl,rfl,rfl,k1⟩:=open_int Try.underlying3 (hval 1 3 v1 rfl rfl) h1;obtain ⟨st,hs⟩:∃st,aI ⟨[]⟩ x0 x1=some (st,true):=eB x0 (fun v hv=>jS (k0.2 v hv)) s0.len_le x1;refine (cU (jX W) (jV W) x0 x1 s0 hs).mono fun e W2 hp=>?_;obtain ⟨v,c,rfl,rfl,hx,_,_,_,rfl⟩:=hp;have hg:=hx.grown;refine ⟨_,rfl,gx hW2 rfl (fun _ _ _=>trodAll_cons_mk (shut_bool Try.underlying4 _) trodAll_mk0) (fun sp hsp=>d6 p_laidOut (fun k h=>hx.block k h fun _=>id) (by kernel_rfl) (fun x hx2=>by show x.block < W.heap.size; simpa using hW2.lt x (dv _ hx2)) hsp hk) (fun _=>rfl)
  hg (ok_one (by kernel_rfl) rfl (okWide_bool_mk Try.underlying4 _))⟩
theorem proved:Rows.BoundTextsSaid:=
 OpenClaim.holds_of_wide 3 Try.f3 rfl rfl rfl rfl rfl rfl rfl ⟨rfl,rfl,rfl,rfl,rfl⟩ rfl rfl rfl rfl rfl (by kernel_rfl) Try.func3 (by kernel_rfl)
  (kj (by kernel_rfl)) (by unfold Func.isWrapper; first | (rw [ac (by decide +kernel)]; kernel_rfl) | (rw [af (by decide +kernel)]; exact ⟨rfl,rfl⟩))
  (fun os started H enc _=>lifted os started H enc)
#print axioms proved
end Go.Proofs.Ytmncdniojmigeaa.boundTexts
