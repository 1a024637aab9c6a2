/-
  Proved here: ReadbackTrips, for every input the Go function answers true, and its arguments read as before. No condition.
-/
import Derived.Test.YtclmdpamofdoiaaGreatDoorCards
import Derived.Test.YtclmdpamofdoiaaGreatDoorTie
import Derived.Test.YtclmdpamofdoiaaGreatDoorRtD
import Derived.Test.YtclmdpamofdoiaaGreatDoorRtF
import Derived.SizedLaws
import Derived.Test.YtclmdpamofdoiaaGreatDoorRtE
import Derived.SevenTiedAt
import Derived.WalkKit
import Derived.ProofKit
namespace Go.Proofs.YtclmdpamofdoiaaGreatDoor.readbackTrips
open Go Go.Lt Go.ChangeShapes Go.WideShapes Go.ChangeAt Go.RowKit
set_option linter.unusedVariables false
set_option maxRecDepth 100000
def laid:List (String×DataW Unit):=[("linotype/api.ErrScalar",Rows.laid_linotype_api_ErrScalar),("linotype/api.ErrRange",Rows.laid_linotype_api_ErrRange),("linotype/api.ErrKind",Rows.laid_linotype_api_ErrKind),("linotype/api.ErrNone",Rows.laid_linotype_api_ErrNone)]
theorem met (os:Os) (args:Array Value):laidMetH Tryz.prog laid ((World.laidAll Tryz.prog os laid).forCall (fun _ _=>0) ⟨#[],args,[]⟩).memory:=by
 rw [HU (by kernel_rfl)];exact laidMet_laidAll args (by kernel_rfl) (by kernel_rfl)
theorem lifted (os:Os) (started:os.Started) (H:Type) (enc:TypeId×Value→H):
  ReturnsInHanded {} Tryz.checked os 6 .any (fun w args=>(Rows.readbackTripsSpec.pre enc Tryz.prog Tryz.f6 [] false w args∧laidMetH Tryz.prog laid w)∧sizedMet enc Tryz.prog Tryz.f6 (OpenSpec.ofChange Rows.readbackTripsSpec) false w args)
   (Rows.readbackTripsSpec.post enc Tryz.prog Tryz.f6 false true false false):=by
 refine returnsInHanded_of_change_and (C:=Tryz.checked) (X:=fun w _=>laidMetH Tryz.prog laid w) (fun _ _ _ hh h=>h.of_heap hh) HK started (by kernel_rfl) Tryz.func6
  (ChangeSpec.witness_at (enc:=enc) (C:=Tryz.checked) (os:=os) (X:=fun w _=>laidMetH Tryz.prog laid w) false (World.laidAll Tryz.prog os laid) #[.slice none 0 0,.int .i64 0] 8 (World.laidAll_os _ _ _) (by kernel_rfl) (by kernel_rfl) (by kernel_rfl) (by kernel_rfl) (by kernel_rfl) (met os _)) ?_
 intro W base args ds gs before hval0 hW _ hwt hL _;have hval:∀(j:Nat) t v,Tryz.f6.params[j]? = some t→args[j]? = some v→Value.okWide Tryz.prog W .any base t v:=hval0;have hW2:=hW;obtain ⟨p,q,hA0,hV0,rfl,hfz,hnd⟩:=hW;have hA:DataW.TrodAll enc Tryz.prog W 0 (fun _=>true) true Tryz.f6.params.toList args.toList ds p:=hA0;have hk:=hA;have hV:DataW.TrodVars enc Tryz.prog W (fun _=>true) [] gs q:=hV0;rw [Tryz.params6] at hA hval;obtain ⟨v0,vs0,d0,ds0,p0,q0,hargs,rfl,rfl,h0,r0⟩:=trodAll_cons hA;obtain ⟨v1,vs1,d1,ds1,p1,q1,rfl,rfl,rfl,h1,r1⟩:=trodAll_cons r0;obtain ⟨rfl,rfl,rfl⟩:=trodAll_nil r1;obtain rfl:args= #[v0,v1]:=by cases args; simp_all
 obtain ⟨rfl,rfl⟩:=trodVars_none hV;obtain ⟨x0,s0,k0⟩:=B5 Tryz.underlying32 I1 (hval 0 32 v0 rfl rfl) h0;obtain ⟨x1,rfl,rfl,rfl,k1⟩:=open_int Tryz.underlying3 (hval 1 3 v1 rfl rfl) h1;have hG:Gl [0,2,4,7] (C0 W):=by
  refine GM (fun g=>if g=0 then [115,99,97,108,97,114] else if g=2 then [114,97,110,103,101] else if g=4 then [107,105,110,100] else if g=7 then [110,111,110,101] else []) (fun g hg=>?_) (by decide);simp only [iP,fj,oe] at hg;rcases hg with rfl | rfl | rfl | rfl
  ·exact uk hL (by kernel_rfl) _ _ _ (.head _) (by kernel_rfl) (by kernel_rfl)
  ·exact uk hL (by kernel_rfl) _ _ _ (.tail _ (.head _)) (by kernel_rfl) (by kernel_rfl)
  ·exact uk hL (by kernel_rfl) _ _ _ (.tail _ (.tail _ (.head _))) (by kernel_rfl) (by kernel_rfl)
  ·exact uk hL (by kernel_rfl) _ _ _ (.tail _ (.tail _ (.tail _ (.head _)))) (by kernel_rfl) (by kernel_rfl)
 obtain ⟨st,hs⟩:∃st,dh ⟨[],[],[],[],[],[],[]⟩ x0 x1=some (st,true):=rq x0 (fun v hv=>IB (k0.2 v hv)) x1;refine (mS (II W) (IG W) hG x0 x1 s0 hs).mono fun e W2 hp=>?_;obtain ⟨v,c,rfl,rfl,hx,_,_,_,rfl⟩:=hp;have hg:=hx.grown;refine ⟨_,rfl,Bv hW2 rfl (fun _ _ _=>trodAll_cons_mk (shut_bool Tryz.underlying4 _) trodAll_mk0) (fun sp hsp=>rO ww (fun k h=>hx.block k h fun _=>id) (by kernel_rfl) (fun x hx2=>by show x.block < W.heap.size; simpa using hW2.lt x (fk _ hx2)) hsp hk) (fun _=>rfl)
  hg (ok_one (by kernel_rfl) rfl (okWide_bool_mk Tryz.underlying4 _))⟩
theorem a0:Rows.readbackTripsRow.wf (OpenSpec.ofChange Rows.readbackTripsSpec)=true:=by kernel_rfl
theorem a1:(Tryz.f6.params.all (Tryz.prog.readableRec ·) && namedTie Tryz.prog Rows.readbackTripsRow.named Rows.readbackTripsSpec.vars && (Rows.readbackTripsRow.stops== []) && (Rows.readbackTripsRow.knobs== []))=true:=by kernel_rfl
theorem a2:(Rows.readbackTripsRow.inPlace==Tryz.prog.inPlace 6)=true:=by kernel_rfl
theorem a3:(Rows.readbackTripsRow.unfollowed==Tryz.prog.unfollowed 6)=true:=by kernel_rfl
theorem a4:(Rows.readbackTripsRow.recurses==Tryz.prog.recurses 6)=true:=by kernel_rfl
theorem a5:(Rows.readbackTripsRow.named==Tryz.prog.varsNamed 6)=true:=by kernel_rfl
theorem a8:Tryz.prog.funcNamed Rows.readbackTripsRow.func=some 6:=by kernel_rfl
theorem a10:false=Rows.readbackTripsRow.goesBy Tryz.prog:=by kernel_rfl
theorem a11:Rows.readbackTripsRow.wfByText (OpenSpec.ofChange Rows.readbackTripsSpec)=true:=by kernel_rfl
theorem a9:Tryz.f6.isWrapper Tryz.prog Rows.readbackTripsRow.wrapper Rows.readbackTripsRow.mainSum:=by
 unfold Func.isWrapper
 first | (rw [ae (by decide +kernel)]; kernel_rfl) | (rw [ab (by decide +kernel)]; exact ⟨rfl,rfl⟩)
theorem a12:Tryz.f6.isInstance Tryz.prog Rows.readbackTripsRow.origin Rows.readbackTripsRow.targs:=yo (by kernel_rfl)
theorem closed:joinedFacts Tryz.prog 6 Tryz.f6 Rows.readbackTripsSpec Rows.readbackTripsRow=true:=
 GJ ww EE ED EJ EK CU EI EG EF a0 a1 a2 a3 a4 a5 (by kernel_rfl) (by kernel_rfl)
theorem said:Rows.ReadbackTripsSaid:=
 OpenClaim.holds_of_wide 6 Tryz.f6 rfl rfl rfl rfl rfl rfl rfl ⟨rfl,rfl,rfl,rfl,rfl⟩ rfl rfl rfl rfl rfl a8 Tryz.func6 closed a12 a9
  (fun os started H enc _=>lifted os started H enc)
theorem proved:Rows.ReadbackTripsCardSaid:=
 Claim7.holds_tied_plain_at .later [] [.sentinel,.sentinel,.sentinel,.sentinel] true (true,"28cfc5ba7f0983bf9f248b3c71266c5674665e12ea36bcccb349e2771c98ab97") true said (fun _ h=>by cases h) a11 (fun _ h=>by cases h) readbackTrips_row_tie rfl ⟨rfl,rfl⟩ Bx rfl
  (fun f fn hf hfn=>by
   obtain rfl:f=6:=bb (a8.symm.trans hf) |>.symm;obtain rfl:fn=Tryz.f6:=(bb (Tryz.func6.symm.trans hfn)).symm;refine ⟨EH,fun j t ht=>?_⟩;rw [Tryz.params6] at ht;have hm:t∈ [32,3]:=by
    have:=Array.mem_of_getElem? ht;simpa using this
   have hall:([32,3].all fun t=> !Tryz.prog.wantsStandIn t)=true:=by kernel_rfl
   have:=List.all_eq_true.1 hall t hm;show Tryz.prog.wantsStandIn t=false;simpa using this)
  a10
#print axioms proved
end Go.Proofs.YtclmdpamofdoiaaGreatDoor.readbackTrips
