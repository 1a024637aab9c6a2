/-
  Proved here: RenderAgain, for every input the Go function answers true, and its arguments read as before. No condition.
-/
import Derived.Test.YtclmdpamofdoiaaGreatDoorCards
import Derived.Test.YtclmdpamofdoiaaGreatDoorTie
import Derived.Test.YtclmdpamofdoiaaGreatDoorRwD
import Derived.Test.YtclmdpamofdoiaaGreatDoorRwG
import Derived.Test.YtclmdpamofdoiaaGreatDoorRwE
import Derived.Test.YtclmdpamofdoiaaGreatDoorRwF
import Derived.SevenTiedAt
import Derived.WalkKit
import Derived.ProofKit
namespace Go.Proofs.YtclmdpamofdoiaaGreatDoor.renderAgain
open Go Go.Lt Go.ChangeShapes Go.WideShapes Go.ChangeAt Go.RowKit
set_option linter.unusedVariables false
set_option maxRecDepth 100000
def laid:List (String×DataW Unit):=[("linotype/api.ErrScalar",Rows.laid_linotype_api_ErrScalar),("linotype/api.ErrForm",Rows.laid_linotype_api_ErrForm),("linotype/api.ErrRange",Rows.laid_linotype_api_ErrRange),("linotype/api.ErrLong",Rows.laid_linotype_api_ErrLong),("linotype/api.ErrKind",Rows.laid_linotype_api_ErrKind),("linotype/api.ErrNone",Rows.laid_linotype_api_ErrNone)]
theorem met (os:Os) (args:Array Value):laidMetH Tryz.prog laid ((World.laidAll Tryz.prog os laid).forCall (fun _ _=>0) ⟨#[],args,[]⟩).memory:=by
 rw [Gv (by kernel_rfl)];exact laidMet_laidAll args (by kernel_rfl) (by kernel_rfl)
theorem lifted (os:Os) (started:os.Started) (H:Type) (enc:TypeId×Value→H):
  ReturnsInHanded {} Tryz.checked os 8 .any (fun w args=>(Rows.renderAgainSpec.pre enc Tryz.prog Tryz.f8 [] false w args∧laidMetH Tryz.prog laid w)∧sizedMet enc Tryz.prog Tryz.f8 (OpenSpec.ofChange Rows.renderAgainSpec) false w args)
   (Rows.renderAgainSpec.post enc Tryz.prog Tryz.f8 false true false false):=by
 refine returnsInHanded_of_change_and (C:=Tryz.checked) (X:=fun w _=>laidMetH Tryz.prog laid w) (fun _ _ _ hh h=>h.of_heap hh) FD started (by kernel_rfl) Tryz.func8
  (ChangeSpec.witness_at (enc:=enc) (C:=Tryz.checked) (os:=os) (X:=fun w _=>laidMetH Tryz.prog laid w) false (World.laidAll Tryz.prog os laid) #[.agg #[.int .i64 0,.int .i64 0,.slice none 0 0,.int .i64 0,.int .i64 0,.bool false,.bool false]] 8 (World.laidAll_os _ _ _) (by kernel_rfl) (by kernel_rfl) (by kernel_rfl) (by kernel_rfl) (by kernel_rfl) (met os _)) ?_
 intro W base args ds gs before hval0 hW _ hwt hL _;have hval:∀(j:Nat) t v,Tryz.f8.params[j]? = some t→args[j]? = some v→Value.okWide Tryz.prog W .any base t v:=hval0;have hW2:=hW;obtain ⟨p,q,hA0,hV0,rfl,hfz,hnd⟩:=hW;have hA:DataW.TrodAll enc Tryz.prog W 0 (fun _=>true) true Tryz.f8.params.toList args.toList ds p:=hA0;have hk:=hA;have hV:DataW.TrodVars enc Tryz.prog W (fun _=>true) [] gs q:=hV0;rw [Tryz.params8] at hA hval;obtain ⟨v0,vs0,d0,ds0,p0,q0,hargs,rfl,rfl,h0,r0⟩:=trodAll_cons hA;obtain ⟨rfl,rfl,rfl⟩:=trodAll_nil r0;obtain rfl:args= #[v0]:=by cases args; simp_all
 obtain ⟨rfl,rfl⟩:=trodVars_none hV;obtain ⟨⟨l0⟩,x0,rfl,e0,k0⟩:=zc Tryz.underlying45 FU (hval 0 45 v0 rfl rfl) h0 (fun n hn=>ns (List.all_eq_true.1 hwt n (DataW.weights_mem_each (j:=0) (t:=45) (d:=d0) rfl rfl n hn)));obtain ⟨y0_2,e0,s0_2⟩:=e0;have e0:l0= [.int .i64 x0.Wide,.int .i64 x0.High,y0_2,.int .i64 x0.At.Row,.int .i64 x0.At.Col,.bool x0.At.Pending,.bool x0.Auto]:=e0;subst e0;have hG:Gl [0,1,2,3,4,7] (C0 W):=by
  refine Dd (fun g=>if g=0 then [115,99,97,108,97,114] else if g=1 then [102,111,114,109] else if g=2 then [114,97,110,103,101] else if g=3 then [108,111,110,103] else if g=4 then [107,105,110,100] else if g=7 then [110,111,110,101] else []) (fun g hg=>?_) (by decide);simp only [gJ,eE,nk] at hg;rcases hg with rfl | rfl | rfl | rfl | rfl | rfl
  ·exact ll hL (by kernel_rfl) _ _ _ (.head _) (by kernel_rfl) (by kernel_rfl)
  ·exact ll hL (by kernel_rfl) _ _ _ (.tail _ (.head _)) (by kernel_rfl) (by kernel_rfl)
  ·exact ll hL (by kernel_rfl) _ _ _ (.tail _ (.tail _ (.head _))) (by kernel_rfl) (by kernel_rfl)
  ·exact ll hL (by kernel_rfl) _ _ _ (.tail _ (.tail _ (.tail _ (.head _)))) (by kernel_rfl) (by kernel_rfl)
  ·exact ll hL (by kernel_rfl) _ _ _ (.tail _ (.tail _ (.tail _ (.tail _ (.head _))))) (by kernel_rfl) (by kernel_rfl)
  ·exact ll hL (by kernel_rfl) _ _ _ (.tail _ (.tail _ (.tail _ (.tail _ (.tail _ (.head _)))))) (by kernel_rfl) (by kernel_rfl)
 obtain ⟨st,hs⟩:∃st,dE ⟨[],[],[],[],[],[]⟩ x0=some (st,true):=tu x0 (Ci k0);refine (ni (HF W) (Hu W) hG x0 s0_2 hs).mono fun e W2 hp=>?_;obtain ⟨v,c,rfl,rfl,hx,_,_,_,rfl⟩:=hp;have hg:=hx.grown;refine ⟨_,rfl,wG hW2 rfl (fun _ _ _=>trodAll_cons_mk (shut_bool Tryz.underlying4 _) trodAll_mk0) (fun sp hsp=>oV qN (fun k h=>hx.block k h fun _=>id) (by kernel_rfl) (fun x hx2=>by show x.block < W.heap.size; simpa using hW2.lt x (ew _ hx2)) hsp hk) (fun _=>rfl)
  hg (ok_one (by kernel_rfl) rfl (okWide_bool_mk Tryz.underlying4 _))⟩
theorem a0:Rows.renderAgainRow.wf (OpenSpec.ofChange Rows.renderAgainSpec)=true:=by kernel_rfl
theorem a1:(Tryz.f8.params.all (Tryz.prog.readableRec ·) && namedTie Tryz.prog Rows.renderAgainRow.named Rows.renderAgainSpec.vars && (Rows.renderAgainRow.stops== []) && (Rows.renderAgainRow.knobs== []))=true:=by kernel_rfl
theorem a2:(Rows.renderAgainRow.inPlace==Tryz.prog.inPlace 8)=true:=by kernel_rfl
theorem a3:(Rows.renderAgainRow.unfollowed==Tryz.prog.unfollowed 8)=true:=by kernel_rfl
theorem a4:(Rows.renderAgainRow.recurses==Tryz.prog.recurses 8)=true:=by kernel_rfl
theorem a5:(Rows.renderAgainRow.named==Tryz.prog.varsNamed 8)=true:=by kernel_rfl
theorem a8:Tryz.prog.funcNamed Rows.renderAgainRow.func=some 8:=by kernel_rfl
theorem a10:false=Rows.renderAgainRow.goesBy Tryz.prog:=by kernel_rfl
theorem a11:Rows.renderAgainRow.wfByText (OpenSpec.ofChange Rows.renderAgainSpec)=true:=by kernel_rfl
theorem a9:Tryz.f8.isWrapper Tryz.prog Rows.renderAgainRow.wrapper Rows.renderAgainRow.mainSum:=by
 unfold Func.isWrapper
 first | (rw [ae (by decide +kernel)]; kernel_rfl) | (rw [ab (by decide +kernel)]; exact ⟨rfl,rfl⟩)
theorem a12:Tryz.f8.isInstance Tryz.prog Rows.renderAgainRow.origin Rows.renderAgainRow.targs:=ns (by kernel_rfl)
theorem closed:joinedFacts Tryz.prog 8 Tryz.f8 Rows.renderAgainSpec Rows.renderAgainRow=true:=
 C7 qN Av Au AA AB yp Az Ax Aw a0 a1 a2 a3 a4 a5 (by kernel_rfl) (by kernel_rfl)
theorem said:Rows.RenderAgainSaid:=
 OpenClaim.holds_of_wide 8 Tryz.f8 rfl rfl rfl rfl rfl rfl rfl ⟨rfl,rfl,rfl,rfl,rfl⟩ rfl rfl rfl rfl rfl a8 Tryz.func8 closed a12 a9
  (fun os started H enc _=>lifted os started H enc)
theorem proved:Rows.RenderAgainCardSaid:=
 Claim7.holds_tied_plain_at .later [] [.sentinel,.sentinel,.sentinel,.sentinel,.sentinel,.sentinel] true (true,"28cfc5ba7f0983bf9f248b3c71266c5674665e12ea36bcccb349e2771c98ab97") true said (fun _ h=>by cases h) a11 (fun _ h=>by cases h) renderAgain_row_tie rfl ⟨rfl,rfl⟩ wI rfl
  (fun f fn hf hfn=>by
   obtain rfl:f=8:=bi (a8.symm.trans hf) |>.symm;obtain rfl:fn=Tryz.f8:=(bi (Tryz.func8.symm.trans hfn)).symm;refine ⟨Ay,fun j t ht=>?_⟩;rw [Tryz.params8] at ht;have hm:t∈ [45]:=by
    have:=Hf ht;simpa using this
   have hall:([45].all fun t=> !Tryz.prog.wantsStandIn t)=true:=by kernel_rfl
   have:=List.all_eq_true.1 hall t hm;show Tryz.prog.wantsStandIn t=false;simpa using this)
  a10
#print axioms proved
end Go.Proofs.YtclmdpamofdoiaaGreatDoor.renderAgain
