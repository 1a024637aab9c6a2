/-
  Proved here: ReadbackTells, for every input the Go function answers true, and its arguments read as before. No condition.
-/
import Derived.Test.YtclmdpamofdoiaaGreatDoorCards
import Derived.Test.YtclmdpamofdoiaaGreatDoorTie
import Derived.Test.YtclmdpamofdoiaaGreatDoorRbC
import Derived.Test.YtclmdpamofdoiaaGreatDoorRbD
import Derived.Deep.DeepHandedRow
import Derived.SevenTiedAt
import Derived.WalkKit
import Derived.ProofKit
namespace Go.Proofs.YtclmdpamofdoiaaGreatDoor.readbackTells
open Go Go.Lt Go.ChangeShapes Go.WideShapes Go.ChangeAt Go.RowKit
set_option linter.unusedVariables false
set_option maxRecDepth 100000
def laid:List (String×DataW Unit):=[("linotype/api.ErrScalar",Rows.laid_linotype_api_ErrScalar),("linotype/api.ErrRange",Rows.laid_linotype_api_ErrRange),("linotype/api.ErrKind",Rows.laid_linotype_api_ErrKind),("linotype/api.ErrNone",Rows.laid_linotype_api_ErrNone)]
theorem met (os:Os) (args:Array Value):laidMetH Tryz.prog laid ((World.laidAll Tryz.prog os laid).forCall (fun _ _=>0) ⟨#[],args,[]⟩).memory:=by
 rw [qM (by kernel_rfl)];exact laidMet_laidAll args (by kernel_rfl) (by kernel_rfl)
theorem lifted (os:Os) (started:os.Started) (H:Type) (enc:TypeId×Value→H) (F:Stop.Interp):
  ReturnsInHanded {} Tryz.checked os 4 .any ((Rows.OpenSpec.upto Rows.readbackTellsSpec).preRow enc Tryz.prog Tryz.f4 Rows.readbackTellsUptoRow.domain false Rows.readbackTellsUptoRow.laid) (((Rows.OpenSpec.upto Rows.readbackTellsSpec).at F).post enc Tryz.prog Tryz.f4 false true false false):=by
 refine returnsInHanded_of_row (C:=Tryz.checked) (s:=Rows.OpenSpec.upto Rows.readbackTellsSpec) qH started (by kernel_rfl) Tryz.func4
  (witness_row_at (enc:=enc) (C:=Tryz.checked) false (World.laidAll Tryz.prog os laid) #[.agg #[.int .i64 0,.int .i64 0,.slice none 0 0,.int .i64 0,.int .i64 0,.bool false,.bool false]] (World.laidAll_os _ _ _) (by kernel_rfl) (by kernel_rfl) (by kernel_rfl)
   (OpenSpec.preRow_of_cond 8 (x:=([.agg [.lit (.int .i64 0),.lit (.int .i64 0),.nil,.agg [.lit (.int .i64 0),.lit (.int .i64 0),.lit (.bool false)],.lit (.bool false)]],[],[])) (by kernel_rfl) (by kernel_rfl) (fun k hk=>by cases hk; kernel_rfl) (by kernel_rfl) (met os _))) ?_
 intro W base args ds gs before hval0 hW _ hkb hwt hL0 hsh _;have hL:laidMetH Tryz.prog laid W:=hL0;have hval:∀(j:Nat) t v,Tryz.f4.params[j]? = some t→args[j]? = some v→Value.okWide Tryz.prog W .any base t v:=hval0;have hW2:=hW;obtain ⟨p,q,hA0,hV0,rfl,hfz,hnd⟩:=hW;have hA:DataW.TrodAll enc Tryz.prog W 0 (fun _=>true) true Tryz.f4.params.toList args.toList ds p:=hA0;have hk:=hA;have hV:DataW.TrodVars enc Tryz.prog W (fun _=>true) [] gs q:=hV0;rw [Tryz.params4] at hA hval;obtain ⟨v0,vs0,d0,ds0,p0,q0,hargs,rfl,rfl,h0,r0⟩:=trodAll_cons hA;obtain ⟨rfl,rfl,rfl⟩:=trodAll_nil r0;obtain rfl:args= #[v0]:=by cases args; simp_all
 obtain ⟨rfl,rfl⟩:=trodVars_none hV;obtain ⟨⟨l0⟩,x0,rfl,e0,k0,b0⟩:=pu Tryz.underlying45 rb (hval 0 45 v0 rfl rfl) h0;obtain ⟨y0_2,e0,s0_2⟩:=e0;have e0:l0= [.int .i64 x0.Wide,.int .i64 x0.High,y0_2,.int .i64 x0.At.Row,.int .i64 x0.At.Col,.bool x0.At.Pending,.bool x0.Auto]:=e0;subst e0;have hG:Gl [0,2,4,7] (C0 W):=by
  refine qo (fun g=>if g=0 then [115,99,97,108,97,114] else if g=2 then [114,97,110,103,101] else if g=4 then [107,105,110,100] else if g=7 then [110,111,110,101] else []) (fun g hg=>?_) (by decide);simp only [eE,di,jS] at hg;rcases hg with rfl | rfl | rfl | rfl
  ·exact kX hL (by kernel_rfl) _ _ _ (.head _) (by kernel_rfl) (by kernel_rfl)
  ·exact kX hL (by kernel_rfl) _ _ _ (.tail _ (.head _)) (by kernel_rfl) (by kernel_rfl)
  ·exact kX hL (by kernel_rfl) _ _ _ (.tail _ (.tail _ (.head _))) (by kernel_rfl) (by kernel_rfl)
  ·exact kX hL (by kernel_rfl) _ _ _ (.tail _ (.tail _ (.tail _ (.head _)))) (by kernel_rfl) (by kernel_rfl)
 obtain ⟨st,hs⟩:∃st,bg ⟨[],[],[],[],[],[]⟩ x0=some (st,true):=jz x0 (cy b0 (by have h:=nE (hkb _ rfl); simp only [cS,Rows.uptoBulkAll] at h; omega));refine (fG (rq W) (rn W) hG x0 s0_2 hs).mono fun e W2 hp=>?_;obtain ⟨v,c,rfl,rfl,hx,_,_,_,rfl⟩:=hp;have hg:=hx.grown;refine ⟨_,rfl,oh hW2 rfl (fun _ _ _=>trodAll_cons_mk (shut_bool Tryz.underlying4 _) trodAll_mk0) (fun sp hsp=>jM ma (fun k h=>hx.block k h fun _=>id) (by kernel_rfl) (fun x hx2=>by show x.block < W.heap.size; simpa using hW2.lt x (gY _ hx2)) hsp hk) (fun _=>rfl)
  hg (ok_one (by kernel_rfl) rfl (okWide_bool_mk Tryz.underlying4 _))⟩
theorem a0:Rows.readbackTellsUptoRow.wf (OpenSpec.ofChange Rows.readbackTellsSpec)=true:=by kernel_rfl
theorem a1:(Tryz.f4.params.all (Tryz.prog.readableRec ·) && namedTie Tryz.prog Rows.readbackTellsUptoRow.named Rows.readbackTellsSpec.vars && (Rows.readbackTellsUptoRow.stops== []) && (Rows.readbackTellsUptoRow.knobs== []))=true:=by kernel_rfl
theorem a2:(Rows.readbackTellsUptoRow.inPlace==Tryz.prog.inPlace 4)=true:=by kernel_rfl
theorem a3:(Rows.readbackTellsUptoRow.unfollowed==Tryz.prog.unfollowed 4)=true:=by kernel_rfl
theorem a4:(Rows.readbackTellsUptoRow.recurses==Tryz.prog.recurses 4)=true:=by kernel_rfl
theorem a5:(Rows.readbackTellsUptoRow.named==Tryz.prog.varsNamed 4)=true:=by kernel_rfl
theorem a8:Tryz.prog.funcNamed Rows.readbackTellsUptoRow.func=some 4:=by kernel_rfl
theorem a10:false=Rows.readbackTellsUptoRow.goesBy Tryz.prog:=by kernel_rfl
theorem a11:Rows.readbackTellsUptoRow.wfByText (Rows.OpenSpec.upto Rows.readbackTellsSpec)=true:=by kernel_rfl
theorem a9:Tryz.f4.isWrapper Tryz.prog Rows.readbackTellsUptoRow.wrapper Rows.readbackTellsUptoRow.mainSum:=by
 unfold Func.isWrapper
 first | (rw [an (by decide +kernel)]; kernel_rfl) | (rw [av (by decide +kernel)]; exact ⟨rfl,rfl⟩)
theorem a12:Tryz.f4.isInstance Tryz.prog Rows.readbackTellsUptoRow.origin Rows.readbackTellsUptoRow.targs:=of_decide_eq_true (by kernel_rfl)
theorem closed:joinedFacts Tryz.prog 4 Tryz.f4 Rows.readbackTellsSpec Rows.readbackTellsUptoRow=true:=
 qn ma pK pJ pP pQ oY pO pM pL a0 a1 a2 a3 a4 a5 (by kernel_rfl) (by kernel_rfl)
theorem said:Rows.ReadbackTellsUptoSaid:=
 OpenClaim.holds_of_cond 4 Tryz.f4 rfl rfl rfl rfl rfl rfl rfl ⟨rfl,rfl,rfl,rfl,rfl⟩ rfl rfl rfl rfl rfl a8 Tryz.func4 closed a12 a9
  (fun os started H enc _ F=>by rw [OpenClaim.pre_eq_preRow]; exact lifted os started H enc F)
theorem proved:Rows.ReadbackTellsUptoCardSaid:=
 Claim7.holds_tied_plain_at .later [] [.sentinel,.sentinel,.sentinel,.sentinel] true (true,"28cfc5ba7f0983bf9f248b3c71266c5674665e12ea36bcccb349e2771c98ab97") true said (fun _ h=>by cases h) a11 (fun _ h=>by cases h) readbackTellsUpto_row_tie rfl ⟨rfl,rfl⟩ ol rfl
  (fun f fn hf hfn=>by
   obtain rfl:f=4:=ai (a8.symm.trans hf) |>.symm;obtain rfl:fn=Tryz.f4:=(ai (Tryz.func4.symm.trans hfn)).symm;refine ⟨pN,fun j t ht=>?_⟩;rw [Tryz.params4] at ht;have hm:t∈ [45]:=by
    have:=Array.mem_of_getElem? ht;simpa using this
   have hall:([45].all fun t=> !Tryz.prog.wantsStandIn t)=true:=by kernel_rfl
   have:=List.all_eq_true.1 hall t hm;show Tryz.prog.wantsStandIn t=false;simpa using this)
  a10
#print axioms proved
end Go.Proofs.YtclmdpamofdoiaaGreatDoor.readbackTells
