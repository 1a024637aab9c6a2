/-
  Proved here: ScreenRuns, for every input the Go function answers true, and its arguments read as before. No condition.
-/
import Derived.Test.YthokmpbbkpjhbaaGreatDoorCards
import Derived.Test.YthokmpbbkpjhbaaGreatDoorTie
import Derived.Test.YthokmpbbkpjhbaaGreatDoorSrD
import Derived.Test.YthokmpbbkpjhbaaGreatDoorSrG
import Derived.Test.YthokmpbbkpjhbaaGreatDoorSrF
import Derived.LaidHandle
import Derived.SevenTiedAt
import Derived.WalkKit
import Derived.ProofKit
namespace Go.Proofs.YthokmpbbkpjhbaaGreatDoor.screenRuns
open Go Go.Lt Go.ChangeShapes Go.WideShapes Go.ChangeAt Go.RowKit
set_option linter.unusedVariables false
set_option maxRecDepth 100000
def laid:List (String×DataW Unit):=[("errors.errorType",Rows.laid_errors_errorType),("linotype/api.ErrScalar",Rows.laid_linotype_api_ErrScalar),("linotype/api.ErrForm",Rows.laid_linotype_api_ErrForm),("linotype/api.ErrRange",Rows.laid_linotype_api_ErrRange),("linotype/api.ErrLong",Rows.laid_linotype_api_ErrLong),("linotype/api.ErrKind",Rows.laid_linotype_api_ErrKind),("linotype/api.ErrWord",Rows.laid_linotype_api_ErrWord),("linotype/api.ErrFull",Rows.laid_linotype_api_ErrFull),("linotype/api.ErrNone",Rows.laid_linotype_api_ErrNone)]
def laid0:List (String×DataW Unit):=[("linotype/api.ErrScalar",Rows.laid_linotype_api_ErrScalar),("linotype/api.ErrForm",Rows.laid_linotype_api_ErrForm),("linotype/api.ErrRange",Rows.laid_linotype_api_ErrRange),("linotype/api.ErrLong",Rows.laid_linotype_api_ErrLong),("linotype/api.ErrKind",Rows.laid_linotype_api_ErrKind),("linotype/api.ErrWord",Rows.laid_linotype_api_ErrWord),("linotype/api.ErrFull",Rows.laid_linotype_api_ErrFull),("linotype/api.ErrNone",Rows.laid_linotype_api_ErrNone)]
theorem laid_none:(laid.filter fun x=>x.2.handleName?.isNone)=laid0:=by kernel_rfl
noncomputable def w00 (os:Os):World:=
 let w0:=World.holding Tryz.prog os ⟨#[],#[],[]⟩
 { w0 with heap:=w0.heap.modify 8 fun
   | .cells _ t Gg=> .cells #[.iface 250 (.agg #[.pointer (some ⟨9,37,none⟩)])] t Gg
   | o=>o}
noncomputable def laidW (os:Os):World:=(w00 os).layVars Tryz.prog laid0
theorem laidW_os (os:Os):(laidW os).os=os:=World.layVars_os _ _ _
theorem met (os:Os) (args:Array Value):laidMetH Tryz.prog laid ((laidW os).forCall (fun _ _=>0) ⟨#[],args,[]⟩).memory:=by
 have e1:(laid0.filter fun x=>(laid0.map (·.1)).contains x.1)=laid0:=List.filter_eq_self.2 fun x hx=>List.contains_iff_mem.2 (List.mem_map.2 ⟨x,hx,rfl⟩);have e2:(laid0.filter fun x=> !(laid0.map (·.1)).contains x.1)= []:=List.filter_eq_nil_iff.2 fun x hx=>by rw [List.contains_iff_mem.2 (List.mem_map.2 ⟨x,hx,rfl⟩)]; simp
 have h:laidMet Tryz.prog laid0 (laidW os):=laidMet_layVars (w0:=w00 os) (laid0.map (·.1)) [] (by rw [e1]; rfl) (by rw [e1]; kernel_rfl) (by rw [e1]; kernel_rfl) (by rw [e2]; exact LaidIn.none);refine laidMetH_of_parts ?_ (by kernel_rfl);rw [laid_none];exact h.of_heap (by simp [World.memory,World.forCall,Input.heap])
theorem h_et:Tryz.prog.globalNamed "errors.errorType" = some 8:=by kernel_rfl
theorem h_rt:(Tryz.prog.cutTypes.find? (·.1== "internal/reflectlite.rtype")).map (·.2)=some 250:=by kernel_rfl
theorem h_row:((List.range 338).filter fun t=>Tryz.prog.rowNamed t [101,114,114,111,114])= [37]:=by kernel_rfl
theorem h_size:Tryz.prog.types.size=338:=by kernel_rfl
theorem h_parts {W:World} (h:laidMetH Tryz.prog laid W):laidMet Tryz.prog laid0 W∧handlesMet Tryz.prog [("errors.errorType",Rows.laid_errors_errorType)] W:=h
theorem handle_of_laid {W:World} (h:laidMetH Tryz.prog laid W):W.cell? ⟨8,0,none⟩=some (.iface 250 (.agg #[.pointer (some ⟨9,37,none⟩)])):=by
 obtain ⟨name,u,ty,e1,e2,e3,e4,e5⟩:=(h_parts h).2 _ (List.mem_singleton.2 rfl);have en:name= [101,114,114,111,114]:=(be e1).symm;subst en;obtain rfl:=be (h_rt.symm.trans e2);have hm:ty∈(List.range 338).filter fun t=>Tryz.prog.rowNamed t [101,114,114,111,114]:=List.mem_filter.2 ⟨List.mem_range.2 (by rw [←h_size]; exact e3),e4⟩;rw [h_row] at hm;obtain rfl:=List.mem_singleton.1 hm;have hh:typeHandle Tryz.prog 37= .pointer (some ⟨9,37,none⟩):=by kernel_rfl
 rw [hh] at e5;simpa using Cd h_et e5 0
theorem laid0_of {W:World} (h:laidMetH Tryz.prog laid W):laidMetH Tryz.prog laid0 W:=by
 rw [Hf (by kernel_rfl)];exact (h_parts h).1
theorem lifted (os:Os) (started:os.Started) (H:Type) (enc:TypeId×Value→H):
  ReturnsInHanded {} Tryz.checked os 12 .any (fun w args=>(Rows.screenRunsSpec.pre enc Tryz.prog Tryz.f12 [] false w args∧laidMetH Tryz.prog laid w)∧sizedMet enc Tryz.prog Tryz.f12 (OpenSpec.ofChange Rows.screenRunsSpec) false w args)
   (Rows.screenRunsSpec.post enc Tryz.prog Tryz.f12 false true false false):=by
 refine returnsInHanded_of_change_and (C:=Tryz.checked) (X:=fun w _=>laidMetH Tryz.prog laid w) (fun _ _ _ hh h=>h.of_heap hh) G8 started (by kernel_rfl) Tryz.func12
  (ChangeSpec.witness_at (enc:=enc) (C:=Tryz.checked) (os:=os) (X:=fun w _=>laidMetH Tryz.prog laid w) false (laidW os) #[.agg #[.int .i64 0,.int .i64 0],.slice none 0 0] 8 (laidW_os os) (by kernel_rfl) (by kernel_rfl) (by kernel_rfl) (by kernel_rfl) (by kernel_rfl) (met os _)) ?_
 intro W base args ds gs before hval0 hW _ hwt hL _;have hval:∀(j:Nat) t v,Tryz.f12.params[j]? = some t→args[j]? = some v→Value.okWide Tryz.prog W .any base t v:=hval0;have hW2:=hW;obtain ⟨p,q,hA0,hV0,rfl,hfz,hnd⟩:=hW;have hA:DataW.TrodAll enc Tryz.prog W 0 (fun _=>true) true Tryz.f12.params.toList args.toList ds p:=hA0;have hk:=hA;have hV:DataW.TrodVars enc Tryz.prog W (fun _=>true) [] gs q:=hV0;rw [Tryz.params12] at hA hval;obtain ⟨v0,vs0,d0,ds0,p0,q0,hargs,rfl,rfl,h0,r0⟩:=trodAll_cons hA;obtain ⟨v1,vs1,d1,ds1,p1,q1,rfl,rfl,rfl,h1,r1⟩:=trodAll_cons r0;obtain ⟨rfl,rfl,rfl⟩:=trodAll_nil r1;obtain rfl:args= #[v0,v1]:=by cases args; simp_all
 obtain ⟨rfl,rfl⟩:=trodVars_none hV;obtain ⟨⟨l0⟩,x0,rfl,e0,k0⟩:=E5 Tryz.underlying92 Ic (hval 0 92 v0 rfl rfl) h0;have e0:l0= [.int .i64 x0.W,.int .i64 x0.H]:=e0;subst e0;obtain ⟨x1,s1,k1⟩:=Ap Tryz.underlying55 HF (hval 1 55 v1 rfl rfl) h1 (fun n hn=>rK (List.all_eq_true.1 hwt n (DataW.weights_mem_each (j:=1) (t:=55) (d:=d1) rfl rfl n hn)));have hT:Et (C0 W):=im0 (handle_of_laid hL);have hL1:laidMetH Tryz.prog laid0 W:=laid0_of hL;have hG:Gl [0,1,2,3,4,5,6,7] (C0 W):=by
  refine F8 (fun g=>if g=0 then [114,97,110,103,101] else if g=1 then [115,99,97,108,97,114] else if g=2 then [102,111,114,109] else if g=3 then [108,111,110,103] else if g=4 then [107,105,110,100] else if g=5 then [119,111,114,100] else if g=6 then [102,117,108,108] else if g=7 then [110,111,110,101] else []) (fun g hg=>?_) (by decide);simp only [gU,eI,nj] at hg;rcases hg with rfl | rfl | rfl | rfl | rfl | rfl | rfl | rfl
  ·exact nM hL1 (by kernel_rfl) _ _ _ (.tail _ (.tail _ (.head _))) (by kernel_rfl) (by kernel_rfl)
  ·exact nM hL1 (by kernel_rfl) _ _ _ (.head _) (by kernel_rfl) (by kernel_rfl)
  ·exact nM hL1 (by kernel_rfl) _ _ _ (.tail _ (.head _)) (by kernel_rfl) (by kernel_rfl)
  ·exact nM hL1 (by kernel_rfl) _ _ _ (.tail _ (.tail _ (.tail _ (.head _)))) (by kernel_rfl) (by kernel_rfl)
  ·exact nM hL1 (by kernel_rfl) _ _ _ (.tail _ (.tail _ (.tail _ (.tail _ (.head _))))) (by kernel_rfl) (by kernel_rfl)
  ·exact nM hL1 (by kernel_rfl) _ _ _ (.tail _ (.tail _ (.tail _ (.tail _ (.tail _ (.head _)))))) (by kernel_rfl) (by kernel_rfl)
  ·exact nM hL1 (by kernel_rfl) _ _ _ (.tail _ (.tail _ (.tail _ (.tail _ (.tail _ (.tail _ (.head _))))))) (by kernel_rfl) (by kernel_rfl)
  ·exact nM hL1 (by kernel_rfl) _ _ _ (.tail _ (.tail _ (.tail _ (.tail _ (.tail _ (.tail _ (.tail _ (.head _)))))))) (by kernel_rfl) (by kernel_rfl)
 obtain ⟨st,hs⟩:∃st,dN ⟨[],[],[],[],[],[]⟩ x0 x1=some (st,true):=uy x0 x1 s1.len_le (fun o ho=>⟨fun y hy=>wf8 ((k1.2 o ho).2.2.2.2 y hy),by have h:=(k1.2 o ho).2.2.2.1; unfold reachBytes at h; omega⟩) (fun o ho=>by have h:=(k1.2 o ho).2.2.2.1; unfold reachBytes at h; omega);refine (nD (HQ W) (HO W) hG hT x0 x1 s1 hs).mono fun e W2 hp=>?_;obtain ⟨v,c,rfl,rfl,hx,_,_,_,rfl⟩:=hp;have hg:=hx.grown;refine ⟨_,rfl,BD hW2 rfl (fun _ _ _=>trodAll_cons_mk (shut_bool Tryz.underlying4 _) trodAll_mk0) (fun sp hsp=>sF wP (fun k h=>hx.block k h fun _=>id) (by kernel_rfl) (fun x hx2=>by show x.block < W.heap.size; simpa using hW2.lt x (io _ hx2)) hsp hk) (fun _=>rfl)
  hg (ok_one (by kernel_rfl) rfl (okWide_bool_mk Tryz.underlying4 _))⟩
theorem a0:Rows.screenRunsRow.wf (OpenSpec.ofChange Rows.screenRunsSpec)=true:=by kernel_rfl
theorem a1:(Tryz.f12.params.all (Tryz.prog.readableRec ·) && namedTie Tryz.prog Rows.screenRunsRow.named Rows.screenRunsSpec.vars && (Rows.screenRunsRow.stops== []) && (Rows.screenRunsRow.knobs== []))=true:=by kernel_rfl
theorem a2:(Rows.screenRunsRow.inPlace==Tryz.prog.inPlace 12)=true:=by kernel_rfl
theorem a3:(Rows.screenRunsRow.unfollowed==Tryz.prog.unfollowed 12)=true:=by kernel_rfl
theorem a4:(Rows.screenRunsRow.recurses==Tryz.prog.recurses 12)=true:=by kernel_rfl
theorem a5:(Rows.screenRunsRow.named==Tryz.prog.varsNamed 12)=true:=by kernel_rfl
theorem a8:Tryz.prog.funcNamed Rows.screenRunsRow.func=some 12:=by kernel_rfl
theorem a10:false=Rows.screenRunsRow.goesBy Tryz.prog:=by kernel_rfl
theorem a11:Rows.screenRunsRow.wfByText (OpenSpec.ofChange Rows.screenRunsSpec)=true:=by kernel_rfl
theorem a9:Tryz.f12.isWrapper Tryz.prog Rows.screenRunsRow.wrapper Rows.screenRunsRow.mainSum:=by
 unfold Func.isWrapper
 first | (rw [ae (by decide +kernel)]; kernel_rfl) | (rw [af (by decide +kernel)]; exact ⟨rfl,rfl⟩)
theorem a12:Tryz.f12.isInstance Tryz.prog Rows.screenRunsRow.origin Rows.screenRunsRow.targs:=rK (by kernel_rfl)
theorem closed:joinedFacts Tryz.prog 12 Tryz.f12 Rows.screenRunsSpec Rows.screenRunsRow=true:=
 F6 wP Ep Eo Ex Ey CW Ew Eu Es a0 a1 a2 a3 a4 a5 (by kernel_rfl) (by kernel_rfl)
theorem said:Rows.ScreenRunsSaid:=
 OpenClaim.holds_of_wide 12 Tryz.f12 rfl rfl rfl rfl rfl rfl rfl ⟨rfl,rfl,rfl,rfl,rfl⟩ rfl rfl rfl rfl rfl a8 Tryz.func12 closed a12 a9
  (fun os started H enc _=>lifted os started H enc)
theorem proved:Rows.ScreenRunsCardSaid:=
 Claim7.holds_tied_plain_at .later [] [.handle,.sentinel,.sentinel,.sentinel,.sentinel,.sentinel,.sentinel,.sentinel,.sentinel] true (true,"bbebed138fdc759f2bd6c48282b3cfb84a5fa78613f3da562b82f15c613fb9fc") true said (fun _ h=>by cases h) a11 (fun _ h=>by cases h) screenRuns_row_tie rfl ⟨rfl,rfl⟩ BJ rfl
  (fun f fn hf hfn=>by
   obtain rfl:f=12:=be (a8.symm.trans hf) |>.symm;obtain rfl:fn=Tryz.f12:=(be (Tryz.func12.symm.trans hfn)).symm;refine ⟨Ev,fun j t ht=>?_⟩;rw [Tryz.params12] at ht;have hm:t∈ [92,55]:=by
    have:=Array.mem_of_getElem? ht;simpa using this
   have hall:([92,55].all fun t=> !Tryz.prog.wantsStandIn t)=true:=by kernel_rfl
   have:=List.all_eq_true.1 hall t hm;show Tryz.prog.wantsStandIn t=false;simpa using this)
  a10
#print axioms proved
end Go.Proofs.YthokmpbbkpjhbaaGreatDoor.screenRuns
