/-
  Proved here: MirrorRuns, for every input the Go function answers true, and its arguments read as before. No condition.
-/
import Derived.Test.YtclmdpamofdoiaaGreatDoorCards
import Derived.Test.YtclmdpamofdoiaaGreatDoorTie
import Derived.Test.YtclmdpamofdoiaaGreatDoorMrE
import Derived.Test.YtclmdpamofdoiaaGreatDoorMrG
import Derived.Test.YtclmdpamofdoiaaGreatDoorMrF
import Derived.SevenTiedAt
import Derived.WalkKit
import Derived.ProofKit
namespace Go.Proofs.YtclmdpamofdoiaaGreatDoor.mirrorRuns
open Go Go.Lt Go.ChangeShapes Go.WideShapes Go.ChangeAt Go.RowKit
set_option linter.unusedVariables false
set_option maxRecDepth 100000
def laid:List (String×DataW Unit):=[("linotype/api.ErrRange",Rows.laid_linotype_api_ErrRange),("linotype/api.ErrKind",Rows.laid_linotype_api_ErrKind),("linotype/api.ErrNone",Rows.laid_linotype_api_ErrNone)]
theorem met (os:Os) (args:Array Value):laidMetH Tryz.prog laid ((World.laidAll Tryz.prog os laid).forCall (fun _ _=>0) ⟨#[],args,[]⟩).memory:=by
 rw [I0 (by kernel_rfl)];exact laidMet_laidAll args (by kernel_rfl) (by kernel_rfl)
theorem lifted (os:Os) (started:os.Started) (H:Type) (enc:TypeId×Value->H):
  ReturnsInHanded {} Tryz.checked os 5 .any (fun w args=>(Rows.mirrorRunsSpec.pre enc Tryz.prog Tryz.f5 [] false w args/\laidMetH Tryz.prog laid w)/\sizedMet enc Tryz.prog Tryz.f5 (OpenSpec.ofChange Rows.mirrorRunsSpec) false w args)
   (Rows.mirrorRunsSpec.post enc Tryz.prog Tryz.f5 false true false false):=by
 refine returnsInHanded_of_change_and (C:=Tryz.checked) (X:=fun w _=>laidMetH Tryz.prog laid w) (fun _ _ _ hh h=>h.of_heap hh) IU started (by kernel_rfl) Tryz.func5
  (ChangeSpec.witness_at (enc:=enc) (C:=Tryz.checked) (os:=os) (X:=fun w _=>laidMetH Tryz.prog laid w) false (World.laidAll Tryz.prog os laid) #[.agg #[.int .i64 0,.int .i64 0],.slice none 0 0] 8 (World.laidAll_os _ _ _) (by kernel_rfl) (by kernel_rfl) (by kernel_rfl) (by kernel_rfl) (by kernel_rfl) (met os _)) ?_
 intro W base args ds gs before hval0 hW _ hwt hL _;have hval:∀(j:Nat) t v,Tryz.f5.params[j]? = some t->args[j]? = some v->Value.okWide Tryz.prog W .any base t v:=hval0;have hW2:=hW;obtain ⟨p,q,hA0,hV0,rfl,hfz,hnd⟩:=hW;have hA:DataW.TrodAll enc Tryz.prog W 0 (fun _=>true) true Tryz.f5.params.toList args.toList ds p:=hA0;have hk:=hA;have hV:DataW.TrodVars enc Tryz.prog W (fun _=>true) [] gs q:=hV0;rw [Tryz.params5] at hA hval;obtain ⟨v0,vs0,d0,ds0,p0,q0,hargs,rfl,rfl,h0,r0⟩:=trodAll_cons hA;obtain ⟨v1,vs1,d1,ds1,p1,q1,rfl,rfl,rfl,h1,r1⟩:=trodAll_cons r0;obtain ⟨rfl,rfl,rfl⟩:=trodAll_nil r1;obtain rfl:args= #[v0,v1]:=by cases args; simp_all
 obtain ⟨rfl,rfl⟩:=trodVars_none hV;obtain ⟨⟨l0⟩,x0,rfl,e0,k0⟩:=GC Tryz.underlying58 JT (hval 0 58 v0 rfl rfl) h0;have e0:l0= [.int .i64 x0.W,.int .i64 x0.H]:=e0;subst e0;obtain ⟨x1,s1,k1⟩:=BN Tryz.underlying22 Jr (hval 1 22 v1 rfl rfl) h1 (fun n hn=>tN (List.all_eq_true.1 hwt n (DataW.weights_mem_each (j:=1) (t:=22) (d:=d1) rfl rfl n hn)));have hG:Gl [2,4,7] (C0 W):=by
  refine HN (fun g=>if g=2 then [114,97,110,103,101] else if g=4 then [107,105,110,100] else if g=7 then [110,111,110,101] else []) (fun g hg=>?_) (by decide);simp only [fg,dw,mn] at hg;rcases hg with rfl|rfl|rfl
  ·exact zg hL (by kernel_rfl) _ _ _ (.head _) (by kernel_rfl) (by kernel_rfl)
  ·exact zg hL (by kernel_rfl) _ _ _ (.tail _ (.head _)) (by kernel_rfl) (by kernel_rfl)
  ·exact zg hL (by kernel_rfl) _ _ _ (.tail _ (.tail _ (.head _))) (by kernel_rfl) (by kernel_rfl)
 obtain ⟨st,hs⟩:∃st,ew ⟨[],[],[],[],[],[]⟩ x0 x1=some (st,true):=wh x0 x1 s1.len_le (fun o ho=>⟨fun y hy=>wf8 ((k1.2 o ho).2.2.2.2 y hy),by have h:=(k1.2 o ho).2.2.2.1; unfold reachBytes at h; omega⟩) (fun o ho=>by have h:=(k1.2 o ho).2.2.2.1; unfold reachBytes at h; omega);refine (pu (JB W) (Jz W) hG x0 x1 s1 hs).mono fun e W2 hp=>?_;obtain ⟨v,c,rfl,rfl,hx,_,_,_,rfl⟩:=hp;have hg:=hx.grown;refine ⟨_,rfl,CZ hW2 rfl (fun _ _ _=>trodAll_cons_mk (shut_bool Tryz.underlying4 _) trodAll_mk0) (fun sp hsp=>uw yv (fun k h=>hx.block k h fun _=>id) (by kernel_rfl) (fun x hx2=>by show x.block<W.heap.size; simpa using hW2.lt x (fc _ hx2)) hsp hk) (fun _=>rfl)
  hg (ok_one (by kernel_rfl) rfl (okWide_bool_mk Tryz.underlying4 _))⟩
theorem a0:Rows.mirrorRunsRow.wf (OpenSpec.ofChange Rows.mirrorRunsSpec)=true:=by kernel_rfl
theorem a1:(Tryz.f5.params.all (Tryz.prog.readableRec ·) && namedTie Tryz.prog Rows.mirrorRunsRow.named Rows.mirrorRunsSpec.vars && (Rows.mirrorRunsRow.stops== []) && (Rows.mirrorRunsRow.knobs== []))=true:=by kernel_rfl
theorem a2:(Rows.mirrorRunsRow.inPlace==Tryz.prog.inPlace 5)=true:=by kernel_rfl
theorem a3:(Rows.mirrorRunsRow.unfollowed==Tryz.prog.unfollowed 5)=true:=by kernel_rfl
theorem a4:(Rows.mirrorRunsRow.recurses==Tryz.prog.recurses 5)=true:=by kernel_rfl
theorem a5:(Rows.mirrorRunsRow.named==Tryz.prog.varsNamed 5)=true:=by kernel_rfl
theorem a8:Tryz.prog.funcNamed Rows.mirrorRunsRow.func=some 5:=by kernel_rfl
theorem a10:false=Rows.mirrorRunsRow.goesBy Tryz.prog:=by kernel_rfl
theorem a11:Rows.mirrorRunsRow.wfByText (OpenSpec.ofChange Rows.mirrorRunsSpec)=true:=by kernel_rfl
theorem a9:Tryz.f5.isWrapper Tryz.prog Rows.mirrorRunsRow.wrapper Rows.mirrorRunsRow.mainSum:=by
 unfold Func.isWrapper
 first|(rw [af (by decide +kernel)]; kernel_rfl)|(rw [ae (by decide +kernel)]; exact ⟨rfl,rfl⟩)
theorem a12:Tryz.f5.isInstance Tryz.prog Rows.mirrorRunsRow.origin Rows.mirrorRunsRow.targs:=tN (by kernel_rfl)
theorem closed:joinedFacts Tryz.prog 5 Tryz.f5 Rows.mirrorRunsSpec Rows.mirrorRunsRow=true:=
 HL yv FN FM FS FT D7 FR FP FO a0 a1 a2 a3 a4 a5 (by kernel_rfl) (by kernel_rfl)
theorem said:Rows.MirrorRunsSaid:=
 OpenClaim.holds_of_wide 5 Tryz.f5 rfl rfl rfl rfl rfl rfl rfl ⟨rfl,rfl,rfl,rfl,rfl⟩ rfl rfl rfl rfl rfl a8 Tryz.func5 closed a12 a9
  (fun os started H enc _=>lifted os started H enc)
theorem proved:Rows.MirrorRunsCardSaid:=
 Claim7.holds_tied_plain_at .later [] [.sentinel,.sentinel,.sentinel] true (true,"28cfc5ba7f0983bf9f248b3c71266c5674665e12ea36bcccb349e2771c98ab97") true said (fun _ h=>by cases h) a11 (fun _ h=>by cases h) mirrorRuns_row_tie rfl ⟨rfl,rfl⟩ C2 rfl
  (fun f fn hf hfn=>by
   obtain rfl:f=5:=bi (a8.symm.trans hf) |>.symm;obtain rfl:fn=Tryz.f5:=(bi (Tryz.func5.symm.trans hfn)).symm;refine ⟨FQ,fun j t ht=>?_⟩;rw [Tryz.params5] at ht;have hm:t∈ [58,22]:=by
    have:=Array.mem_of_getElem? ht;simpa using this
   have hall:([58,22].all fun t=> !Tryz.prog.wantsStandIn t)=true:=by kernel_rfl
   have:=List.all_eq_true.1 hall t hm;show Tryz.prog.wantsStandIn t=false;simpa using this)
  a10
#print axioms proved
end Go.Proofs.YtclmdpamofdoiaaGreatDoor.mirrorRuns
