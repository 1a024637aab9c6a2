/-
  Proved here: RowOwn, for every input the Go function answers true, and its arguments read as before. No condition.
-/
import Derived.Test.YtmncdniojmigeaaDoorCards
import Derived.Test.YtmncdniojmigeaaDoorTie
import Derived.Test.YtmncdniojmigeaaDoorRoA
import Derived.Test.YtmncdniojmigeaaDoorRoB
import Derived.SevenTiedAt
import Derived.WalkKit
import Derived.ProofKit
namespace Go.Proofs.YtmncdniojmigeaaDoor.rowOwn
open Go Go.Lt Go.ChangeShapes Go.WideShapes Go.ChangeAt Go.RowKit
set_option linter.unusedVariables false
set_option maxRecDepth 100000
def laid:List (String×DataW Unit):=[("linotype/api.ErrRange",Rows.laid_linotype_api_ErrRange),("linotype/api.ErrKind",Rows.laid_linotype_api_ErrKind)]
theorem met (os:Os) (args:Array Value):laidMetH Tryd.prog laid ((World.laidAll Tryd.prog os laid).forCall (fun _ _=>0) ⟨#[],args,[]⟩).memory:=by
 rw [gM (by kernel_rfl)];exact laidMet_laidAll args (by kernel_rfl) (by kernel_rfl)
theorem lifted (os:Os) (started:os.Started) (H:Type) (enc:TypeId×Value→H):
  ReturnsInHanded {} Tryd.checked os 3 .any (fun w args=>(Rows.rowOwnSpec.pre enc Tryd.prog Tryd.f3 [] false w args∧laidMetH Tryd.prog laid w)∧sizedMet enc Tryd.prog Tryd.f3 (OpenSpec.ofChange Rows.rowOwnSpec) false w args)
   (Rows.rowOwnSpec.post enc Tryd.prog Tryd.f3 false true false false):=by
 refine returnsInHanded_of_change_and (C:=Tryd.checked) (X:=fun w _=>laidMetH Tryd.prog laid w) (fun _ _ _ hh h=>h.of_heap hh) gL started (by kernel_rfl) Tryd.func3
  (ChangeSpec.witness_at (enc:=enc) (C:=Tryd.checked) (os:=os) (X:=fun w _=>laidMetH Tryd.prog laid w) false (World.laidAll Tryd.prog os laid) #[.slice none 0 0] 8 (World.laidAll_os _ _ _) (by kernel_rfl) (by kernel_rfl) (by kernel_rfl) (by kernel_rfl) (by kernel_rfl) (met os _)) ?_
 intro W base args ds gs before hval0 hW _ hwt hL _;have hval:∀(j:Nat) t v,Tryd.f3.params[j]? = some t→args[j]? = some v→Value.okWide Tryd.prog W .any base t v:=hval0;have hW2:=hW;obtain ⟨p,q,hA0,hV0,rfl,hfz,hnd⟩:=hW;have hA:DataW.TrodAll enc Tryd.prog W 0 (fun _=>true) true Tryd.f3.params.toList args.toList ds p:=hA0;have hk:=hA;have hV:DataW.TrodVars enc Tryd.prog W (fun _=>true) [] gs q:=hV0;rw [Tryd.params3] at hA hval;obtain ⟨v0,vs0,d0,ds0,p0,q0,hargs,rfl,rfl,h0,r0⟩:=trodAll_cons hA;obtain ⟨rfl,rfl,rfl⟩:=trodAll_nil r0;obtain rfl:args= #[v0]:=by cases args; simp_all
 obtain ⟨rfl,rfl⟩:=trodVars_none hV;obtain ⟨x0,s0,k0⟩:=fd Tryd.underlying22 ik (hval 0 22 v0 rfl rfl) h0;have hG:Gl [0,1] (C0 W):=by
  refine gq (fun g=>if g=0 then [114,97,110,103,101] else if g=1 then [107,105,110,100] else []) (fun g hg=>?_) (by decide);simp only [f9,ez,or_false] at hg;rcases hg with rfl | rfl
  ·exact eI hL (by kernel_rfl) _ _ _ (.head _) (by kernel_rfl) (by kernel_rfl)
  ·exact eI hL (by kernel_rfl) _ _ _ (.tail _ (.head _)) (by kernel_rfl) (by kernel_rfl)
 have hs:dL x0=some true:=ed x0 s0.len_le;refine (gu (gZ W) (gX W) hG x0 s0 hs).mono fun e W2 hp=>?_;obtain ⟨v,c,rfl,rfl,hx,_,rfl⟩:=hp;have hg:=hx.grown;refine ⟨_,rfl,e8 hW2 rfl (fun _ _ _=>trodAll_cons_mk (shut_bool Tryd.underlying4 _) trodAll_mk0) (fun sp hsp=>cT dK (fun k h=>hx.block k h fun _=>id) (by kernel_rfl) (fun x hx2=>by show x.block < W.heap.size; simpa using hW2.lt x (aJ _ hx2)) hsp hk) (fun _=>rfl)
  hg (ok_one (by kernel_rfl) rfl (okWide_bool_mk Tryd.underlying4 _))⟩
theorem a0:Rows.rowOwnRow.wf (OpenSpec.ofChange Rows.rowOwnSpec)=true:=by kernel_rfl
theorem a1:(Tryd.f3.params.all (Tryd.prog.readableRec ·) && namedTie Tryd.prog Rows.rowOwnRow.named Rows.rowOwnSpec.vars && (Rows.rowOwnRow.stops== []) && (Rows.rowOwnRow.knobs== []))=true:=by kernel_rfl
theorem a2:(Rows.rowOwnRow.inPlace==Tryd.prog.inPlace 3)=true:=by kernel_rfl
theorem a3:(Rows.rowOwnRow.unfollowed==Tryd.prog.unfollowed 3)=true:=by kernel_rfl
theorem a4:(Rows.rowOwnRow.recurses==Tryd.prog.recurses 3)=true:=by kernel_rfl
theorem a5:(Rows.rowOwnRow.named==Tryd.prog.varsNamed 3)=true:=by kernel_rfl
theorem a8:Tryd.prog.funcNamed Rows.rowOwnRow.func=some 3:=by kernel_rfl
theorem a10:false=Rows.rowOwnRow.goesBy Tryd.prog:=by kernel_rfl
theorem a11:Rows.rowOwnRow.wfByText (OpenSpec.ofChange Rows.rowOwnSpec)=true:=by kernel_rfl
theorem a9:Tryd.f3.isWrapper Tryd.prog Rows.rowOwnRow.wrapper Rows.rowOwnRow.mainSum:=by
 unfold Func.isWrapper
 first | (rw [ao (by decide +kernel)]; kernel_rfl) | (rw [aK (by decide +kernel)]; exact ⟨rfl,rfl⟩)
theorem a12:Tryd.f3.isInstance Tryd.prog Rows.rowOwnRow.origin Rows.rowOwnRow.targs:=io (by kernel_rfl)
theorem closed:joinedFacts Tryd.prog 3 Tryd.f3 Rows.rowOwnSpec Rows.rowOwnRow=true:=
 gp dK fM fL fR fS fv fQ fO fN a0 a1 a2 a3 a4 a5 (by kernel_rfl) (by kernel_rfl)
theorem said:Rows.RowOwnSaid:=
 OpenClaim.holds_of_wide 3 Tryd.f3 rfl rfl rfl rfl rfl rfl rfl ⟨rfl,rfl,rfl,rfl,rfl⟩ rfl rfl rfl rfl rfl a8 Tryd.func3 closed a12 a9
  (fun os started H enc _=>lifted os started H enc)
theorem proved:Rows.RowOwnCardSaid:=
 Claim7.holds_tied_plain_at .later [] [.sentinel,.sentinel] true (true,"10197e7bf79e2f0c9816e5f12a3c073fc221e9917deddc0932df4da3edb07916") false said (fun _ h=>by cases h) a11 (fun _ h=>by cases h) rowOwn_row_tie rfl ⟨rfl,rfl⟩ e9 rfl
  (fun f fn hf hfn=>by
   obtain rfl:f=3:=ag (a8.symm.trans hf) |>.symm;obtain rfl:fn=Tryd.f3:=(ag (Tryd.func3.symm.trans hfn)).symm;refine ⟨fP,fun j t ht=>?_⟩;rw [Tryd.params3] at ht;have hm:t∈ [22]:=by
    have:=Array.mem_of_getElem? ht;simpa using this
   have hall:([22].all fun t=> !Tryd.prog.wantsStandIn t)=true:=by kernel_rfl
   have:=List.all_eq_true.1 hall t hm;show Tryd.prog.wantsStandIn t=false;simpa using this)
  a10
#print axioms proved
end Go.Proofs.YtmncdniojmigeaaDoor.rowOwn
