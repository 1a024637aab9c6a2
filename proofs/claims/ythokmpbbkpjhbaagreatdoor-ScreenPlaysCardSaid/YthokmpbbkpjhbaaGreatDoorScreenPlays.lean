/-
  Proved here: ScreenPlays, for every input the Go function answers true, and its arguments read as before. No condition.
-/
import Derived.Test.YthokmpbbkpjhbaaGreatDoorCards
import Derived.Test.YthokmpbbkpjhbaaGreatDoorTie
import Derived.Test.YthokmpbbkpjhbaaGreatDoorSpD
import Derived.Test.YthokmpbbkpjhbaaGreatDoorSpG
import Derived.Test.YthokmpbbkpjhbaaGreatDoorSpF
import Derived.SevenTiedAt
import Derived.WalkKit
import Derived.ProofKit
namespace Go.Proofs.YthokmpbbkpjhbaaGreatDoor.screenPlays
open Go Go.Lt Go.ChangeShapes Go.WideShapes Go.ChangeAt Go.RowKit
set_option linter.unusedVariables false
set_option maxRecDepth 100000
def laid:List (String×DataW Unit):=[("linotype/api.ErrScalar",Rows.laid_linotype_api_ErrScalar),("linotype/api.ErrForm",Rows.laid_linotype_api_ErrForm),("linotype/api.ErrRange",Rows.laid_linotype_api_ErrRange),("linotype/api.ErrLong",Rows.laid_linotype_api_ErrLong),("linotype/api.ErrKind",Rows.laid_linotype_api_ErrKind),("linotype/api.ErrWord",Rows.laid_linotype_api_ErrWord),("linotype/api.ErrFull",Rows.laid_linotype_api_ErrFull),("linotype/api.ErrNone",Rows.laid_linotype_api_ErrNone)]
theorem met (os:Os) (args:Array Value):laidMetH Tryz.prog laid ((World.laidAll Tryz.prog os laid).forCall (fun _ _=>0) ⟨#[],args,[]⟩).memory:=by
 rw [Gt (by kernel_rfl)];exact laidMet_laidAll args (by kernel_rfl) (by kernel_rfl)
theorem lifted (os:Os) (started:os.Started) (H:Type) (enc:TypeId×Value→H):
  ReturnsInHanded {} Tryz.checked os 11 .any (fun w args=>(Rows.screenPlaysSpec.pre enc Tryz.prog Tryz.f11 [] false w args∧laidMetH Tryz.prog laid w)∧sizedMet enc Tryz.prog Tryz.f11 (OpenSpec.ofChange Rows.screenPlaysSpec) false w args)
   (Rows.screenPlaysSpec.post enc Tryz.prog Tryz.f11 false true false false):=by
 refine returnsInHanded_of_change_and (C:=Tryz.checked) (X:=fun w _=>laidMetH Tryz.prog laid w) (fun _ _ _ hh h=>h.of_heap hh) Gj started (by kernel_rfl) Tryz.func11
  (ChangeSpec.witness_at (enc:=enc) (C:=Tryz.checked) (os:=os) (X:=fun w _=>laidMetH Tryz.prog laid w) false (World.laidAll Tryz.prog os laid) #[.agg #[.int .i64 0,.int .i64 0],.slice none 0 0] 8 (World.laidAll_os _ _ _) (by kernel_rfl) (by kernel_rfl) (by kernel_rfl) (by kernel_rfl) (by kernel_rfl) (met os _)) ?_
 intro W base args ds gs before hval0 hW _ hwt hL _;have hval:∀(j:Nat) t v,Tryz.f11.params[j]? = some t→args[j]? = some v→Value.okWide Tryz.prog W .any base t v:=hval0;have hW2:=hW;obtain ⟨p,q,hA0,hV0,rfl,hfz,hnd⟩:=hW;have hA:DataW.TrodAll enc Tryz.prog W 0 (fun _=>true) true Tryz.f11.params.toList args.toList ds p:=hA0;have hk:=hA;have hV:DataW.TrodVars enc Tryz.prog W (fun _=>true) [] gs q:=hV0;rw [Tryz.params11] at hA hval;obtain ⟨v0,vs0,d0,ds0,p0,q0,hargs,rfl,rfl,h0,r0⟩:=trodAll_cons hA;obtain ⟨v1,vs1,d1,ds1,p1,q1,rfl,rfl,rfl,h1,r1⟩:=trodAll_cons r0;obtain ⟨rfl,rfl,rfl⟩:=trodAll_nil r1;obtain rfl:args= #[v0,v1]:=by cases args; simp_all
 obtain ⟨rfl,rfl⟩:=trodVars_none hV;obtain ⟨⟨l0⟩,x0,rfl,e0,k0⟩:=Es Tryz.underlying92 Hk (hval 0 92 v0 rfl rfl) h0;have e0:l0= [.int .i64 x0.W,.int .i64 x0.H]:=e0;subst e0;obtain ⟨x1,s1,k1⟩:=zM Tryz.underlying55 GS (hval 1 55 v1 rfl rfl) h1 (fun n hn=>ro (List.all_eq_true.1 hwt n (DataW.weights_mem_each (j:=1) (t:=55) (d:=d1) rfl rfl n hn)));have hG:Gl [0,1,2,3,4,5,6,7] (C0 W):=by
  refine Fp (fun g=>if g=0 then [114,97,110,103,101] else if g=1 then [115,99,97,108,97,114] else if g=2 then [102,111,114,109] else if g=3 then [108,111,110,103] else if g=4 then [107,105,110,100] else if g=5 then [119,111,114,100] else if g=6 then [102,117,108,108] else if g=7 then [110,111,110,101] else []) (fun g hg=>?_) (by decide);simp only [gV,eE,mV] at hg;rcases hg with rfl | rfl | rfl | rfl | rfl | rfl | rfl | rfl
  ·exact nB hL (by kernel_rfl) _ _ _ (.tail _ (.tail _ (.head _))) (by kernel_rfl) (by kernel_rfl)
  ·exact nB hL (by kernel_rfl) _ _ _ (.head _) (by kernel_rfl) (by kernel_rfl)
  ·exact nB hL (by kernel_rfl) _ _ _ (.tail _ (.head _)) (by kernel_rfl) (by kernel_rfl)
  ·exact nB hL (by kernel_rfl) _ _ _ (.tail _ (.tail _ (.tail _ (.head _)))) (by kernel_rfl) (by kernel_rfl)
  ·exact nB hL (by kernel_rfl) _ _ _ (.tail _ (.tail _ (.tail _ (.tail _ (.head _))))) (by kernel_rfl) (by kernel_rfl)
  ·exact nB hL (by kernel_rfl) _ _ _ (.tail _ (.tail _ (.tail _ (.tail _ (.tail _ (.head _)))))) (by kernel_rfl) (by kernel_rfl)
  ·exact nB hL (by kernel_rfl) _ _ _ (.tail _ (.tail _ (.tail _ (.tail _ (.tail _ (.tail _ (.head _))))))) (by kernel_rfl) (by kernel_rfl)
  ·exact nB hL (by kernel_rfl) _ _ _ (.tail _ (.tail _ (.tail _ (.tail _ (.tail _ (.tail _ (.tail _ (.head _)))))))) (by kernel_rfl) (by kernel_rfl)
 obtain ⟨st,hs⟩:∃st,dz ⟨[],[],[],[],[],[]⟩ x0 x1=some (st,true):=tj x0 x1 s1.len_le (fun o ho=>⟨fun y hy=>wf8 ((k1.2 o ho).2.2.2.2 y hy),by have h:=(k1.2 o ho).2.2.2.1; unfold reachBytes at h; omega⟩) (fun o ho=>by have h:=(k1.2 o ho).2.2.2.1; unfold reachBytes at h; omega);refine (mT (G5 W) (G2 W) hG x0 x1 s1 hs).mono fun e W2 hp=>?_;obtain ⟨v,c,rfl,rfl,hx,_,_,_,rfl⟩:=hp;have hg:=hx.grown;refine ⟨_,rfl,A7 hW2 rfl (fun _ _ _=>trodAll_cons_mk (shut_bool Tryz.underlying4 _) trodAll_mk0) (fun sp hsp=>rZ wv (fun k h=>hx.block k h fun _=>id) (by kernel_rfl) (fun x hx2=>by show x.block < W.heap.size; simpa using hW2.lt x (fv _ hx2)) hsp hk) (fun _=>rfl)
  hg (ok_one (by kernel_rfl) rfl (okWide_bool_mk Tryz.underlying4 _))⟩
theorem a0:Rows.screenPlaysRow.wf (OpenSpec.ofChange Rows.screenPlaysSpec)=true:=by kernel_rfl
theorem a1:(Tryz.f11.params.all (Tryz.prog.readableRec ·) && namedTie Tryz.prog Rows.screenPlaysRow.named Rows.screenPlaysSpec.vars && (Rows.screenPlaysRow.stops== []) && (Rows.screenPlaysRow.knobs== []))=true:=by kernel_rfl
theorem a2:(Rows.screenPlaysRow.inPlace==Tryz.prog.inPlace 11)=true:=by kernel_rfl
theorem a3:(Rows.screenPlaysRow.unfollowed==Tryz.prog.unfollowed 11)=true:=by kernel_rfl
theorem a4:(Rows.screenPlaysRow.recurses==Tryz.prog.recurses 11)=true:=by kernel_rfl
theorem a5:(Rows.screenPlaysRow.named==Tryz.prog.varsNamed 11)=true:=by kernel_rfl
theorem a8:Tryz.prog.funcNamed Rows.screenPlaysRow.func=some 11:=by kernel_rfl
theorem a10:false=Rows.screenPlaysRow.goesBy Tryz.prog:=by kernel_rfl
theorem a11:Rows.screenPlaysRow.wfByText (OpenSpec.ofChange Rows.screenPlaysSpec)=true:=by kernel_rfl
theorem a9:Tryz.f11.isWrapper Tryz.prog Rows.screenPlaysRow.wrapper Rows.screenPlaysRow.mainSum:=by
 unfold Func.isWrapper
 first | (rw [ae (by decide +kernel)]; kernel_rfl) | (rw [af (by decide +kernel)]; exact ⟨rfl,rfl⟩)
theorem a12:Tryz.f11.isInstance Tryz.prog Rows.screenPlaysRow.origin Rows.screenPlaysRow.targs:=ro (by kernel_rfl)
theorem closed:joinedFacts Tryz.prog 11 Tryz.f11 Rows.screenPlaysSpec Rows.screenPlaysRow=true:=
 Fm wv DN DM DS DT Cm DR DP DO a0 a1 a2 a3 a4 a5 (by kernel_rfl) (by kernel_rfl)
theorem said:Rows.ScreenPlaysSaid:=
 OpenClaim.holds_of_wide 11 Tryz.f11 rfl rfl rfl rfl rfl rfl rfl ⟨rfl,rfl,rfl,rfl,rfl⟩ rfl rfl rfl rfl rfl a8 Tryz.func11 closed a12 a9
  (fun os started H enc _=>lifted os started H enc)
theorem proved:Rows.ScreenPlaysCardSaid:=
 Claim7.holds_tied_plain_at .later [] [.sentinel,.sentinel,.sentinel,.sentinel,.sentinel,.sentinel,.sentinel,.sentinel] true (true,"bbebed138fdc759f2bd6c48282b3cfb84a5fa78613f3da562b82f15c613fb9fc") true said (fun _ h=>by cases h) a11 (fun _ h=>by cases h) screenPlays_row_tie rfl ⟨rfl,rfl⟩ Bd rfl
  (fun f fn hf hfn=>by
   obtain rfl:f=11:=bz (a8.symm.trans hf) |>.symm;obtain rfl:fn=Tryz.f11:=(bz (Tryz.func11.symm.trans hfn)).symm;refine ⟨DQ,fun j t ht=>?_⟩;rw [Tryz.params11] at ht;have hm:t∈ [92,55]:=by
    have:=Array.mem_of_getElem? ht;simpa using this
   have hall:([92,55].all fun t=> !Tryz.prog.wantsStandIn t)=true:=by kernel_rfl
   have:=List.all_eq_true.1 hall t hm;show Tryz.prog.wantsStandIn t=false;simpa using this)
  a10
#print axioms proved
end Go.Proofs.YthokmpbbkpjhbaaGreatDoor.screenPlays
