/-
  Proved here: ConsoleGoesOn, for every input the Go function answers true, and its arguments read as before. No condition.
-/
import Derived.Test.YtceciacilfhmjaaGreatDoorCards
import Derived.Test.YtceciacilfhmjaaGreatDoorTie
import Derived.Test.YtceciacilfhmjaaGreatDoorCoD
import Derived.Test.YtceciacilfhmjaaGreatDoorCoG
import Derived.Test.YtceciacilfhmjaaGreatDoorCoF
import Derived.LaidHandle
import Derived.SevenTiedAt
import Derived.WalkKit
import Derived.ProofKit
namespace Go.Proofs.YtceciacilfhmjaaGreatDoor.consoleGoesOn
open Go Go.Lt Go.ChangeShapes Go.WideShapes Go.ChangeAt Go.RowKit
set_option linter.unusedVariables false
set_option maxRecDepth 100000
def laid:List (String×DataW Unit):=[("math/bits.deBruijn32tab",Rows.laid_math_bits_deBruijn32tab),("math/bits.deBruijn64tab",Rows.laid_math_bits_deBruijn64tab),("internal/strconv.uint64pow10",Rows.laid_internal_strconv_uint64pow10),("unicode/utf8.acceptRanges",Rows.laid_unicode_utf8_acceptRanges),("errors.errorType",Rows.laid_errors_errorType),("linotype/api.ErrScalar",Rows.laid_linotype_api_ErrScalar),("linotype/api.ErrForm",Rows.laid_linotype_api_ErrForm),("linotype/api.ErrRange",Rows.laid_linotype_api_ErrRange),("linotype/api.ErrLong",Rows.laid_linotype_api_ErrLong),("linotype/api.ErrKind",Rows.laid_linotype_api_ErrKind),("linotype/api.ErrWord",Rows.laid_linotype_api_ErrWord),("linotype/api.ErrFull",Rows.laid_linotype_api_ErrFull),("linotype/api.ErrNone",Rows.laid_linotype_api_ErrNone),("strconv.ErrRange",Rows.laid_strconv_ErrRange),("strconv.ErrSyntax",Rows.laid_strconv_ErrSyntax),("unicode/utf8.first",Rows.laid_unicode_utf8_first)]
def laid0:List (String×DataW Unit):=[("math/bits.deBruijn32tab",Rows.laid_math_bits_deBruijn32tab),("math/bits.deBruijn64tab",Rows.laid_math_bits_deBruijn64tab),("internal/strconv.uint64pow10",Rows.laid_internal_strconv_uint64pow10),("unicode/utf8.acceptRanges",Rows.laid_unicode_utf8_acceptRanges),("linotype/api.ErrScalar",Rows.laid_linotype_api_ErrScalar),("linotype/api.ErrForm",Rows.laid_linotype_api_ErrForm),("linotype/api.ErrRange",Rows.laid_linotype_api_ErrRange),("linotype/api.ErrLong",Rows.laid_linotype_api_ErrLong),("linotype/api.ErrKind",Rows.laid_linotype_api_ErrKind),("linotype/api.ErrWord",Rows.laid_linotype_api_ErrWord),("linotype/api.ErrFull",Rows.laid_linotype_api_ErrFull),("linotype/api.ErrNone",Rows.laid_linotype_api_ErrNone),("strconv.ErrRange",Rows.laid_strconv_ErrRange),("strconv.ErrSyntax",Rows.laid_strconv_ErrSyntax),("unicode/utf8.first",Rows.laid_unicode_utf8_first)]
theorem laid_none:(laid.filter fun x=>x.2.handleName?.isNone)=laid0:=by kernel_rfl
noncomputable def w00 (os:Os):World:=
 let w0:=World.holding Tryz.prog os ⟨#[],#[],[]⟩
 { w0 with heap:=w0.heap.modify 11 fun
   | .cells _ t JL=> .cells #[.iface 203 (.agg #[.pointer (some ⟨17,38,none⟩)])] t JL
   | o=>o}
noncomputable def laidW (os:Os):World:=(w00 os).layVars Tryz.prog laid0
theorem laidW_os (os:Os):(laidW os).os=os:=World.layVars_os _ _ _
theorem met (os:Os) (args:Array Value):laidMetH Tryz.prog laid ((laidW os).forCall (fun _ _=>0) ⟨#[],args,[]⟩).memory:=by
 have e1:(laid0.filter fun x=>(laid0.map (·.1)).contains x.1)=laid0:=List.filter_eq_self.2 fun x hx=>List.contains_iff_mem.2 (List.mem_map.2 ⟨x,hx,rfl⟩);have e2:(laid0.filter fun x=> !(laid0.map (·.1)).contains x.1)= []:=List.filter_eq_nil_iff.2 fun x hx=>by rw [List.contains_iff_mem.2 (List.mem_map.2 ⟨x,hx,rfl⟩)]; simp
 have h:laidMet Tryz.prog laid0 (laidW os):=laidMet_layVars (w0:=w00 os) (laid0.map (·.1)) [] (by rw [e1]; rfl) (by rw [e1]; kernel_rfl) (by rw [e1]; kernel_rfl) (by rw [e2]; exact LaidIn.none);refine laidMetH_of_parts ?_ (by kernel_rfl);rw [laid_none];exact h.of_heap (by simp [World.memory,World.forCall,Input.heap])
theorem h_et:Tryz.prog.globalNamed "errors.errorType" = some 11:=by kernel_rfl
theorem h_rt:(Tryz.prog.cutTypes.find? (·.1== "internal/reflectlite.rtype")).map (·.2)=some 203:=by kernel_rfl
theorem h_row:((List.range 355).filter fun t=>Tryz.prog.rowNamed t [101,114,114,111,114])= [38]:=by kernel_rfl
theorem h_size:Tryz.prog.types.size=355:=by kernel_rfl
theorem h_parts {W:World} (h:laidMetH Tryz.prog laid W):laidMet Tryz.prog laid0 W∧handlesMet Tryz.prog [("errors.errorType",Rows.laid_errors_errorType)] W:=h
theorem handle_of_laid {W:World} (h:laidMetH Tryz.prog laid W):W.cell? ⟨11,0,none⟩=some (.iface 203 (.agg #[.pointer (some ⟨17,38,none⟩)])):=by
 obtain ⟨name,u,ty,e1,e2,e3,e4,e5⟩:=(h_parts h).2 _ (List.mem_singleton.2 rfl);have en:name= [101,114,114,111,114]:=(aH e1).symm;subst en;obtain rfl:=aH (h_rt.symm.trans e2);have hm:ty∈(List.range 355).filter fun t=>Tryz.prog.rowNamed t [101,114,114,111,114]:=List.mem_filter.2 ⟨List.mem_range.2 (by rw [←h_size]; exact e3),e4⟩;rw [h_row] at hm;obtain rfl:=List.mem_singleton.1 hm;have hh:typeHandle Tryz.prog 38= .pointer (some ⟨17,38,none⟩):=by kernel_rfl
 rw [hh] at e5;simpa using uT h_et e5 0
theorem laid0_of {W:World} (h:laidMetH Tryz.prog laid W):laidMetH Tryz.prog laid0 W:=by
 rw [HJ (by kernel_rfl)];exact (h_parts h).1
theorem lifted (os:Os) (started:os.Started) (H:Type) (enc:TypeId×Value→H):
  ReturnsInHanded {} Tryz.checked os 3 .any (fun w args=>(Rows.consoleGoesOnSpec.pre enc Tryz.prog Tryz.f3 [] false w args∧laidMetH Tryz.prog laid w)∧sizedMet enc Tryz.prog Tryz.f3 (OpenSpec.ofChange Rows.consoleGoesOnSpec) false w args)
   (Rows.consoleGoesOnSpec.post enc Tryz.prog Tryz.f3 false true false false):=by
 refine tg (C:=Tryz.checked) (X:=fun w _=>laidMetH Tryz.prog laid w) (fun _ _ _ hh h=>h.of_heap hh) Kt started (by kernel_rfl) Tryz.func3
  (ChangeSpec.witness_at (enc:=enc) (C:=Tryz.checked) (os:=os) (X:=fun w _=>laidMetH Tryz.prog laid w) false (laidW os) #[.string ⟨#[]⟩,.string ⟨#[]⟩] 8 (laidW_os os) (by kernel_rfl) (by kernel_rfl) (by kernel_rfl) (by kernel_rfl) (by kernel_rfl) (met os _)) ?_
 intro W base args ds gs before hval0 hW _ hwt hL hsh _;have hval:∀(j:Nat) t v,Tryz.f3.params[j]? = some t→args[j]? = some v→Value.okWide Tryz.prog W .any base t v:=hval0;have hW2:=hW;obtain ⟨p,q,hA0,hV0,rfl,hfz,hnd⟩:=hW;have hA:DataW.TrodAll enc Tryz.prog W 0 (fun _=>true) true Tryz.f3.params.toList args.toList ds p:=hA0;have hk:=hA;have hV:DataW.TrodVars enc Tryz.prog W (fun _=>true) [] gs q:=hV0;rw [Tryz.params3] at hA hval;obtain ⟨v0,vs0,d0,ds0,p0,q0,hargs,rfl,rfl,h0,r0⟩:=trodAll_cons hA;obtain ⟨v1,vs1,d1,ds1,p1,q1,rfl,rfl,rfl,h1,r1⟩:=trodAll_cons r0;obtain ⟨rfl,rfl,rfl⟩:=trodAll_nil r1;obtain rfl:args= #[v0,v1]:=by cases args; simp_all
 obtain ⟨rfl,rfl⟩:=trodVars_none hV;obtain ⟨x0,rfl,rfl,rfl,k0⟩:=GW Tryz.underlying9 (hval 0 9 v0 rfl rfl) h0;obtain ⟨x1,rfl,rfl,rfl,k1⟩:=GW Tryz.underlying9 (hval 1 9 v1 rfl rfl) h1;have hU:Eh (C0 W):=im0 (handle_of_laid hL);have hL1:laidMetH Tryz.prog laid0 W:=laid0_of hL;have hT:Et (C0 W):=et0 hsh (by kernel_rfl) hL1 (La (i:=2) (by kernel_rfl));have hB:Tb6 (C0 W):=tb0 (by kernel_rfl) hL1 (La (i:=1) (by kernel_rfl));have hG:Gl [0,1,2,3,4,5,6,7] (C0 W):=by
  refine JG (fun g=>if g=0 then [110,111,110,101] else if g=1 then [115,99,97,108,97,114] else if g=2 then [102,111,114,109] else if g=3 then [114,97,110,103,101] else if g=4 then [108,111,110,103] else if g=5 then [107,105,110,100] else if g=6 then [119,111,114,100] else if g=7 then [102,117,108,108] else []) (fun g hg=>?_) (by decide);simp only [cq,cC,ju] at hg;rcases hg with rfl | rfl | rfl | rfl | rfl | rfl | rfl | rfl
  ·exact nY hL1 (by kernel_rfl) _ _ _ (.tail _ (.tail _ (.tail _ (.tail _ (.tail _ (.tail _ (.tail _ (.tail _ (.tail _ (.tail _ (.tail _ (.head _)))))))))))) (by kernel_rfl) (by kernel_rfl)
  ·exact nY hL1 (by kernel_rfl) _ _ _ (.tail _ (.tail _ (.tail _ (.tail _ (.head _))))) (by kernel_rfl) (by kernel_rfl)
  ·exact nY hL1 (by kernel_rfl) _ _ _ (.tail _ (.tail _ (.tail _ (.tail _ (.tail _ (.head _)))))) (by kernel_rfl) (by kernel_rfl)
  ·exact nY hL1 (by kernel_rfl) _ _ _ (.tail _ (.tail _ (.tail _ (.tail _ (.tail _ (.tail _ (.head _))))))) (by kernel_rfl) (by kernel_rfl)
  ·exact nY hL1 (by kernel_rfl) _ _ _ (.tail _ (.tail _ (.tail _ (.tail _ (.tail _ (.tail _ (.tail _ (.head _)))))))) (by kernel_rfl) (by kernel_rfl)
  ·exact nY hL1 (by kernel_rfl) _ _ _ (.tail _ (.tail _ (.tail _ (.tail _ (.tail _ (.tail _ (.tail _ (.tail _ (.head _))))))))) (by kernel_rfl) (by kernel_rfl)
  ·exact nY hL1 (by kernel_rfl) _ _ _ (.tail _ (.tail _ (.tail _ (.tail _ (.tail _ (.tail _ (.tail _ (.tail _ (.tail _ (.head _)))))))))) (by kernel_rfl) (by kernel_rfl)
  ·exact nY hL1 (by kernel_rfl) _ _ _ (.tail _ (.tail _ (.tail _ (.tail _ (.tail _ (.tail _ (.tail _ (.tail _ (.tail _ (.tail _ (.head _))))))))))) (by kernel_rfl) (by kernel_rfl)
 obtain ⟨st,hs⟩:∃st,dj ⟨[],[],[],[],[],[],[]⟩ x0 x1=some (st,true):=sm x0 x1;refine (mY (Lq W) (Lo W) hG hB hU hT x0 x1 hs).mono fun e W2 hp=>?_;obtain ⟨v,c,rfl,rfl,hx,_,_,_,rfl⟩:=hp;have hg:=hx.grown;refine ⟨_,rfl,DE hW2 rfl (fun _ _ _=>trodAll_cons_mk (shut_bool Tryz.underlying4 _) trodAll_mk0) (fun sp hsp=>sE yc (fun k h=>hx.block k h fun _=>id) (by kernel_rfl) (fun x hx2=>by show x.block < W.heap.size; simpa using hW2.lt x (fi _ hx2)) hsp hk) (fun _=>rfl)
  hg (ok_one (by kernel_rfl) rfl (okWide_bool_mk Tryz.underlying4 _))⟩
theorem a0:Rows.consoleGoesOnRow.wf (OpenSpec.ofChange Rows.consoleGoesOnSpec)=true:=by kernel_rfl
theorem a1:(Tryz.f3.params.all (Tryz.prog.readableRec ·) && namedTie Tryz.prog Rows.consoleGoesOnRow.named Rows.consoleGoesOnSpec.vars && (Rows.consoleGoesOnRow.stops== []) && (Rows.consoleGoesOnRow.knobs== []))=true:=by kernel_rfl
theorem a2:(Rows.consoleGoesOnRow.inPlace==Tryz.prog.inPlace 3)=true:=by kernel_rfl
theorem a3:(Rows.consoleGoesOnRow.unfollowed==Tryz.prog.unfollowed 3)=true:=by kernel_rfl
theorem a4:(Rows.consoleGoesOnRow.recurses==Tryz.prog.recurses 3)=true:=by kernel_rfl
theorem a5:(Rows.consoleGoesOnRow.named==Tryz.prog.varsNamed 3)=true:=by kernel_rfl
theorem a8:Tryz.prog.funcNamed Rows.consoleGoesOnRow.func=some 3:=by kernel_rfl
theorem a10:false=Rows.consoleGoesOnRow.goesBy Tryz.prog:=by kernel_rfl
theorem a11:Rows.consoleGoesOnRow.wfByText (OpenSpec.ofChange Rows.consoleGoesOnSpec)=true:=by kernel_rfl
theorem a9:Tryz.f3.isWrapper Tryz.prog Rows.consoleGoesOnRow.wrapper Rows.consoleGoesOnRow.mainSum:=by
 unfold Func.isWrapper
 first | (rw [af (by decide +kernel)]; kernel_rfl) | (rw [ab (by decide +kernel)]; exact ⟨rfl,rfl⟩)
theorem a12:Tryz.f3.isInstance Tryz.prog Rows.consoleGoesOnRow.origin Rows.consoleGoesOnRow.targs:=Ak (by kernel_rfl)
theorem closed:joinedFacts Tryz.prog 3 Tryz.f3 Rows.consoleGoesOnSpec Rows.consoleGoesOnRow=true:=
 JB yc Hz Hy HF HG E9 HE HB HA a0 a1 a2 a3 a4 a5 (by kernel_rfl) (by kernel_rfl)
theorem said:Rows.ConsoleGoesOnSaid:=
 OpenClaim.holds_of_wide 3 Tryz.f3 rfl rfl rfl rfl rfl rfl rfl ⟨rfl,rfl,rfl,rfl,rfl⟩ rfl rfl rfl rfl rfl a8 Tryz.func3 closed a12 a9
  (fun os started H enc _=>lifted os started H enc)
theorem proved:Rows.ConsoleGoesOnCardSaid:=
 Claim7.holds_tied_plain_at .later [] [.data,.data,.data,.data,.handle,.sentinel,.sentinel,.sentinel,.sentinel,.sentinel,.sentinel,.sentinel,.sentinel,.sentinel,.sentinel,.pinned] true (true,"244a94fc1bfd4e0f838cdf0bf73a8619e50d71bdc8c93c2114ba7b79346b5034") true said (fun _ h=>by cases h) a11 (fun _ h=>by cases h) consoleGoesOn_row_tie rfl ⟨rfl,rfl⟩ DH rfl
  (fun f fn hf hfn=>by
   obtain rfl:f=3:=aH (a8.symm.trans hf) |>.symm;obtain rfl:fn=Tryz.f3:=(aH (Tryz.func3.symm.trans hfn)).symm;refine ⟨HD,fun j t ht=>?_⟩;rw [Tryz.params3] at ht;have hm:t∈ [9,9]:=by
    have:=Array.mem_of_getElem? ht;simpa using this
   have hall:([9,9].all fun t=> !Tryz.prog.wantsStandIn t)=true:=by kernel_rfl
   have:=List.all_eq_true.1 hall t hm;show Tryz.prog.wantsStandIn t=false;simpa using this)
  a10
#print axioms proved
end Go.Proofs.YtceciacilfhmjaaGreatDoor.consoleGoesOn
