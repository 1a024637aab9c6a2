/-
  Proved here: MirrorGroups, for every input the Go function answers true, and its arguments read as before. No condition.
-/
import Derived.Test.YtclmdpamofdoiaaGreatDoorCards
import Derived.Test.YtclmdpamofdoiaaGreatDoorTie
import Derived.Test.YtclmdpamofdoiaaGreatDoorMgC
import Derived.Test.YtclmdpamofdoiaaGreatDoorMgE
import Derived.Test.YtclmdpamofdoiaaGreatDoorMgD
import Derived.SevenTiedAt
import Derived.WalkKit
import Derived.ProofKit
namespace Go.Proofs.YtclmdpamofdoiaaGreatDoor.mirrorGroups
open Go Go.Lt Go.ChangeShapes Go.WideShapes Go.ChangeAt Go.RowKit
set_option linter.unusedVariables false
set_option maxRecDepth 100000
def laid:List (String×DataW Unit):=[("linotype/api.ErrRange",Rows.laid_linotype_api_ErrRange),("linotype/api.ErrKind",Rows.laid_linotype_api_ErrKind)]
theorem met (os:Os) (args:Array Value):laidMetH Tryz.prog laid ((World.laidAll Tryz.prog os laid).forCall (fun _ _=>0) ⟨#[],args,[]⟩).memory:=by
 rw [se (by kernel_rfl)];exact laidMet_laidAll args (by kernel_rfl) (by kernel_rfl)
theorem lifted (os:Os) (started:os.Started) (H:Type) (enc:TypeId×Value→H):
  ReturnsInHanded {} Tryz.checked os 3 .any (fun w args=>(Rows.mirrorGroupsSpec.pre enc Tryz.prog Tryz.f3 [] false w args∧laidMetH Tryz.prog laid w)∧sizedMet enc Tryz.prog Tryz.f3 (OpenSpec.ofChange Rows.mirrorGroupsSpec) false w args)
   (Rows.mirrorGroupsSpec.post enc Tryz.prog Tryz.f3 false true false false):=by
 refine returnsInHanded_of_change_and (C:=Tryz.checked) (X:=fun w _=>laidMetH Tryz.prog laid w) (fun _ _ _ hh h=>h.of_heap hh) sd started (by kernel_rfl) Tryz.func3
  (ChangeSpec.witness_at (enc:=enc) (C:=Tryz.checked) (os:=os) (X:=fun w _=>laidMetH Tryz.prog laid w) false (World.laidAll Tryz.prog os laid) #[.slice none 0 0] 8 (World.laidAll_os _ _ _) (by kernel_rfl) (by kernel_rfl) (by kernel_rfl) (by kernel_rfl) (by kernel_rfl) (met os _)) ?_
 intro W base args ds gs before hval0 hW _ hwt hL _;have hval:∀(j:Nat) t v,Tryz.f3.params[j]? = some t→args[j]? = some v→Value.okWide Tryz.prog W .any base t v:=hval0;have hW2:=hW;obtain ⟨p,q,hA0,hV0,rfl,hfz,hnd⟩:=hW;have hA:DataW.TrodAll enc Tryz.prog W 0 (fun _=>true) true Tryz.f3.params.toList args.toList ds p:=hA0;have hk:=hA;have hV:DataW.TrodVars enc Tryz.prog W (fun _=>true) [] gs q:=hV0;rw [Tryz.params3] at hA hval;obtain ⟨v0,vs0,d0,ds0,p0,q0,hargs,rfl,rfl,h0,r0⟩:=trodAll_cons hA;obtain ⟨rfl,rfl,rfl⟩:=trodAll_nil r0;obtain rfl:args= #[v0]:=by cases args; simp_all
 obtain ⟨rfl,rfl⟩:=trodVars_none hV;obtain ⟨x0,s0,k0⟩:=oB Tryz.underlying22 sx (hval 0 22 v0 rfl rfl) h0 (fun n hn=>sZ (List.all_eq_true.1 hwt n (DataW.weights_mem_each (j:=0) (t:=22) (d:=d0) rfl rfl n hn)));have hG:Gl [2,4] (C0 W):=by
  refine rK (fun g=>if g=2 then [114,97,110,103,101] else if g=4 then [107,105,110,100] else []) (fun g hg=>?_) (by decide);simp only [dm,cm,gy] at hg;rcases hg with rfl | rfl
  ·exact oN hL (by kernel_rfl) _ _ _ (.head _) (by kernel_rfl) (by kernel_rfl)
  ·exact oN hL (by kernel_rfl) _ _ _ (.tail _ (.head _)) (by kernel_rfl) (by kernel_rfl)
 obtain ⟨st,hs⟩:∃st,bG ⟨[],[],[],[],[],[]⟩ x0=some (st,true):=kw x0 s0.len_le (fun o ho=>⟨fun y hy=>wf8 ((k0.2 o ho).2.2.2.2 y hy),by have h:=(k0.2 o ho).2.2.2.1; unfold reachBytes at h; omega⟩) (fun o ho=>by have h:=(k0.2 o ho).2.2.2.1; unfold reachBytes at h; omega);refine (gr (sN W) (sL W) hG x0 s0 hs).mono fun e W2 hp=>?_;obtain ⟨v,c,rfl,rfl,hx,_,_,_,rfl⟩:=hp;have hg:=hx.grown;refine ⟨_,rfl,pg hW2 rfl (fun _ _ _=>trodAll_cons_mk (shut_bool Tryz.underlying4 _) trodAll_mk0) (fun sp hsp=>ko mZ (fun k h=>hx.block k h fun _=>id) (by kernel_rfl) (fun x hx2=>by show x.block < W.heap.size; simpa using hW2.lt x (fx _ hx2)) hsp hk) (fun _=>rfl)
  hg (ok_one (by kernel_rfl) rfl (okWide_bool_mk Tryz.underlying4 _))⟩
theorem a0:Rows.mirrorGroupsRow.wf (OpenSpec.ofChange Rows.mirrorGroupsSpec)=true:=by kernel_rfl
theorem a1:(Tryz.f3.params.all (Tryz.prog.readableRec ·) && namedTie Tryz.prog Rows.mirrorGroupsRow.named Rows.mirrorGroupsSpec.vars && (Rows.mirrorGroupsRow.stops== []) && (Rows.mirrorGroupsRow.knobs== []))=true:=by kernel_rfl
theorem a2:(Rows.mirrorGroupsRow.inPlace==Tryz.prog.inPlace 3)=true:=by kernel_rfl
theorem a3:(Rows.mirrorGroupsRow.unfollowed==Tryz.prog.unfollowed 3)=true:=by kernel_rfl
theorem a4:(Rows.mirrorGroupsRow.recurses==Tryz.prog.recurses 3)=true:=by kernel_rfl
theorem a5:(Rows.mirrorGroupsRow.named==Tryz.prog.varsNamed 3)=true:=by kernel_rfl
theorem a8:Tryz.prog.funcNamed Rows.mirrorGroupsRow.func=some 3:=by kernel_rfl
theorem a10:false=Rows.mirrorGroupsRow.goesBy Tryz.prog:=by kernel_rfl
theorem a11:Rows.mirrorGroupsRow.wfByText (OpenSpec.ofChange Rows.mirrorGroupsSpec)=true:=by kernel_rfl
theorem a9:Tryz.f3.isWrapper Tryz.prog Rows.mirrorGroupsRow.wrapper Rows.mirrorGroupsRow.mainSum:=by
 unfold Func.isWrapper
 first | (rw [aj (by decide +kernel)]; kernel_rfl) | (rw [am (by decide +kernel)]; exact ⟨rfl,rfl⟩)
theorem a12:Tryz.f3.isInstance Tryz.prog Rows.mirrorGroupsRow.origin Rows.mirrorGroupsRow.targs:=sZ (by kernel_rfl)
theorem closed:joinedFacts Tryz.prog 3 Tryz.f3 Rows.mirrorGroupsSpec Rows.mirrorGroupsRow=true:=
 rJ mZ qL qK qQ qR qa qP qN qM a0 a1 a2 a3 a4 a5 (by kernel_rfl) (by kernel_rfl)
theorem said:Rows.MirrorGroupsSaid:=
 OpenClaim.holds_of_wide 3 Tryz.f3 rfl rfl rfl rfl rfl rfl rfl ⟨rfl,rfl,rfl,rfl,rfl⟩ rfl rfl rfl rfl rfl a8 Tryz.func3 closed a12 a9
  (fun os started H enc _=>lifted os started H enc)
theorem proved:Rows.MirrorGroupsCardSaid:=
 Claim7.holds_tied_plain_at .later [] [.sentinel,.sentinel] true (true,"28cfc5ba7f0983bf9f248b3c71266c5674665e12ea36bcccb349e2771c98ab97") true said (fun _ h=>by cases h) a11 (fun _ h=>by cases h) mirrorGroups_row_tie rfl ⟨rfl,rfl⟩ pi rfl
  (fun f fn hf hfn=>by
   obtain rfl:f=3:=az (a8.symm.trans hf) |>.symm;obtain rfl:fn=Tryz.f3:=(az (Tryz.func3.symm.trans hfn)).symm;refine ⟨qO,fun j t ht=>?_⟩;rw [Tryz.params3] at ht;have hm:t∈ [22]:=by
    have:=Array.mem_of_getElem? ht;simpa using this
   have hall:([22].all fun t=> !Tryz.prog.wantsStandIn t)=true:=by kernel_rfl
   have:=List.all_eq_true.1 hall t hm;show Tryz.prog.wantsStandIn t=false;simpa using this)
  a10
#print axioms proved
end Go.Proofs.YtclmdpamofdoiaaGreatDoor.mirrorGroups
