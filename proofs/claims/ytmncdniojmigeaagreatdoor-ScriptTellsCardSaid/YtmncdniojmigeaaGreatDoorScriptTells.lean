/-
  Proved here: ScriptTells, for every input the Go function answers true, and its arguments read as before. No condition.
-/
import Derived.Test.YtmncdniojmigeaaGreatDoorCards
import Derived.Test.YtmncdniojmigeaaGreatDoorTie
import Derived.Test.YtmncdniojmigeaaGreatDoorSxB
import Derived.Test.YtmncdniojmigeaaGreatDoorSxD
import Derived.Test.YtmncdniojmigeaaGreatDoorSxC
import Derived.SevenTiedAt
import Derived.WalkKit
import Derived.ProofKit
namespace Go.Proofs.YtmncdniojmigeaaGreatDoor.scriptTells
open Go Go.Lt Go.ChangeShapes Go.WideShapes Go.ChangeAt Go.RowKit
set_option linter.unusedVariables false
set_option maxRecDepth 100000
def laid:List (String×DataW Unit):=[("math/bits.deBruijn32tab",Rows.laid_math_bits_deBruijn32tab),("math/bits.deBruijn64tab",Rows.laid_math_bits_deBruijn64tab),("internal/strconv.uint64pow10",Rows.laid_internal_strconv_uint64pow10),("unicode/utf8.acceptRanges",Rows.laid_unicode_utf8_acceptRanges),("linotype/api.ErrForm",Rows.laid_linotype_api_ErrForm),("linotype/api.ErrLong",Rows.laid_linotype_api_ErrLong),("linotype/api.ErrWord",Rows.laid_linotype_api_ErrWord),("strconv.ErrRange",Rows.laid_strconv_ErrRange),("strconv.ErrSyntax",Rows.laid_strconv_ErrSyntax),("unicode/utf8.first",Rows.laid_unicode_utf8_first)]
theorem met (os:Os) (args:Array Value):laidMetH Tryz.prog laid ((World.laidAll Tryz.prog os laid).forCall (fun _ _=>0) ⟨#[],args,[]⟩).memory:=by
 rw [nk (by kernel_rfl)];exact laidMet_laidAll args (by kernel_rfl) (by kernel_rfl)
theorem lifted (os:Os) (started:os.Started) (H:Type) (enc:TypeId×Value→H):
  ReturnsInHanded {} Tryz.checked os 3 .any (fun w args=>(Rows.scriptTellsSpec.pre enc Tryz.prog Tryz.f3 [] false w args∧laidMetH Tryz.prog laid w)∧sizedMet enc Tryz.prog Tryz.f3 (OpenSpec.ofChange Rows.scriptTellsSpec) false w args)
   (Rows.scriptTellsSpec.post enc Tryz.prog Tryz.f3 false true false false):=by
 refine eu (C:=Tryz.checked) (X:=fun w _=>laidMetH Tryz.prog laid w) (fun _ _ _ hh h=>h.of_heap hh) nh started (by kernel_rfl) Tryz.func3
  (ChangeSpec.witness_at (enc:=enc) (C:=Tryz.checked) (os:=os) (X:=fun w _=>laidMetH Tryz.prog laid w) false (World.laidAll Tryz.prog os laid) #[.agg #[.int .i64 0,.int .i64 0,.slice none 0 0]] 8 (World.laidAll_os _ _ _) (by kernel_rfl) (by kernel_rfl) (by kernel_rfl) (by kernel_rfl) (by kernel_rfl) (met os _)) ?_
 intro W base args ds gs before hval0 hW _ hwt hL hsh _;have hval:∀(j:Nat) t v,Tryz.f3.params[j]? = some t→args[j]? = some v→Value.okWide Tryz.prog W .any base t v:=hval0;have hW2:=hW;obtain ⟨p,q,hA0,hV0,rfl,hfz,hnd⟩:=hW;have hA:DataW.TrodAll enc Tryz.prog W 0 (fun _=>true) true Tryz.f3.params.toList args.toList ds p:=hA0;have hk:=hA;have hV:DataW.TrodVars enc Tryz.prog W (fun _=>true) [] gs q:=hV0;rw [Tryz.params3] at hA hval;obtain ⟨v0,vs0,d0,ds0,p0,q0,hargs,rfl,rfl,h0,r0⟩:=trodAll_cons hA;obtain ⟨rfl,rfl,rfl⟩:=trodAll_nil r0;obtain rfl:args= #[v0]:=by cases args; simp_all
 obtain ⟨rfl,rfl⟩:=trodVars_none hV;obtain ⟨⟨l0⟩,x0,rfl,e0,k0⟩:=nX Tryz.underlying24 pY (hval 0 24 v0 rfl rfl) h0 (fun n hn=>eh (List.all_eq_true.1 hwt n (DataW.weights_mem_each (j:=0) (t:=24) (d:=d0) rfl rfl n hn)));obtain ⟨y0_2,e0,s0_2⟩:=e0;have e0:l0= [.int .i64 x0.W,.int .i64 x0.H,y0_2]:=e0;subst e0;have hT:Et (C0 W):=et0 hsh (by kernel_rfl) hL (jP (i:=2) (by kernel_rfl));have hG:Gl [0,1,5] (C0 W):=by
  refine lI (fun g=>if g=0 then [108,111,110,103] else if g=1 then [102,111,114,109] else if g=5 then [119,111,114,100] else []) (fun g hg=>?_) (by decide);simp only [aT,bi,et] at hg;rcases hg with rfl | rfl | rfl
  ·exact cy hL (by kernel_rfl) _ _ _ (.tail _ (.tail _ (.tail _ (.tail _ (.tail _ (.head _)))))) (by kernel_rfl) (by kernel_rfl)
  ·exact cy hL (by kernel_rfl) _ _ _ (.tail _ (.tail _ (.tail _ (.tail _ (.head _))))) (by kernel_rfl) (by kernel_rfl)
  ·exact cy hL (by kernel_rfl) _ _ _ (.tail _ (.tail _ (.tail _ (.tail _ (.tail _ (.tail _ (.head _))))))) (by kernel_rfl) (by kernel_rfl)
 obtain ⟨st,hs⟩:∃st,bl ⟨[]⟩ x0=some (st,true):=iq x0 s0_2.len_le (fun o ho=>⟨fun b hb=>wf8 ((k0.2.2.2 o ho).2.2.2.2 b hb),by have h7:=(k0.2.2.2 o ho).2.2.2.1; unfold reachBytes at h7; omega⟩);refine (eX (oY W) (pB W) hG hT x0 s0_2 hs).mono fun e W2 hp=>?_;obtain ⟨v,c,rfl,rfl,hx,_,_,_,rfl⟩:=hp;have hg:=hx.grown;refine ⟨_,rfl,iw hW2 rfl (fun _ _ _=>trodAll_cons_mk (shut_bool Tryz.underlying4 _) trodAll_mk0) (fun sp hsp=>eT fd (fun k h=>hx.block k h fun _=>id) (by kernel_rfl) (fun x hx2=>by show x.block < W.heap.size; simpa using hW2.lt x (br _ hx2)) hsp hk) (fun _=>rfl)
  hg (ok_one (by kernel_rfl) rfl (okWide_bool_mk Tryz.underlying4 _))⟩
theorem a0:Rows.scriptTellsRow.wf (OpenSpec.ofChange Rows.scriptTellsSpec)=true:=by kernel_rfl
theorem a1:(Tryz.f3.params.all (Tryz.prog.readableRec ·) && namedTie Tryz.prog Rows.scriptTellsRow.named Rows.scriptTellsSpec.vars && (Rows.scriptTellsRow.stops== []) && (Rows.scriptTellsRow.knobs== []))=true:=by kernel_rfl
theorem a2:(Rows.scriptTellsRow.inPlace==Tryz.prog.inPlace 3)=true:=by kernel_rfl
theorem a3:(Rows.scriptTellsRow.unfollowed==Tryz.prog.unfollowed 3)=true:=by kernel_rfl
theorem a4:(Rows.scriptTellsRow.recurses==Tryz.prog.recurses 3)=true:=by kernel_rfl
theorem a5:(Rows.scriptTellsRow.named==Tryz.prog.varsNamed 3)=true:=by kernel_rfl
theorem a8:Tryz.prog.funcNamed Rows.scriptTellsRow.func=some 3:=by kernel_rfl
theorem a10:false=Rows.scriptTellsRow.goesBy Tryz.prog:=by kernel_rfl
theorem a11:Rows.scriptTellsRow.wfByText (OpenSpec.ofChange Rows.scriptTellsSpec)=true:=by kernel_rfl
theorem a9:Tryz.f3.isWrapper Tryz.prog Rows.scriptTellsRow.wrapper Rows.scriptTellsRow.mainSum:=by
 unfold Func.isWrapper
 first | (rw [ac (by decide +kernel)]; kernel_rfl) | (rw [ae (by decide +kernel)]; exact ⟨rfl,rfl⟩)
theorem a12:Tryz.f3.isInstance Tryz.prog Rows.scriptTellsRow.origin Rows.scriptTellsRow.targs:=eh (by kernel_rfl)
theorem closed:joinedFacts Tryz.prog 3 Tryz.f3 Rows.scriptTellsSpec Rows.scriptTellsRow=true:=
 lD fd kw kv kB kC jk kA ky kx a0 a1 a2 a3 a4 a5 (by kernel_rfl) (by kernel_rfl)
theorem said:Rows.ScriptTellsSaid:=
 OpenClaim.holds_of_wide 3 Tryz.f3 rfl rfl rfl rfl rfl rfl rfl ⟨rfl,rfl,rfl,rfl,rfl⟩ rfl rfl rfl rfl rfl a8 Tryz.func3 closed a12 a9
  (fun os started H enc _=>lifted os started H enc)
theorem proved:Rows.ScriptTellsCardSaid:=
 Claim7.holds_tied_plain_at .later [] [.data,.data,.data,.data,.sentinel,.sentinel,.sentinel,.sentinel,.sentinel,.pinned] true (true,"70952af9ea01a37ce475a1482bedcded1550c8e54dec87a1b4cd053176297232") true said (fun _ h=>by cases h) a11 (fun _ h=>by cases h) scriptTells_row_tie rfl ⟨rfl,rfl⟩ iy rfl
  (fun f fn hf hfn=>by
   obtain rfl:f=3:=ao (a8.symm.trans hf) |>.symm;obtain rfl:fn=Tryz.f3:=(ao (Tryz.func3.symm.trans hfn)).symm;refine ⟨kz,fun j t ht=>?_⟩;rw [Tryz.params3] at ht;have hm:t∈ [24]:=by
    have:=iZ ht;simpa using this
   have hall:([24].all fun t=> !Tryz.prog.wantsStandIn t)=true:=by kernel_rfl
   have:=List.all_eq_true.1 hall t hm;show Tryz.prog.wantsStandIn t=false;simpa using this)
  a10
#print axioms proved
end Go.Proofs.YtmncdniojmigeaaGreatDoor.scriptTells
