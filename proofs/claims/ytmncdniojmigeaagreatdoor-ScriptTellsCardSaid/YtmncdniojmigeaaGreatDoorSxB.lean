/- Parts of the proofs of ScriptLines, ScriptReads, ScriptTells: the walk through the code, and plain Lean. No condition. -/
import Derived.Test.YtmncdniojmigeaaGreatDoorSxA
import Derived.Test.YtmncdniojmigeaaGreatDoorProg
import Derived.WalkKit
import Derived.LaidEql
import Derived.Stop.Asserts
import Derived.RowKitTokens
import Derived.Elder7
import Derived.OpenShut
import Derived.LaidLaws
import Derived.Handed
import Derived.Lay
import Derived.JoinedOf
import Derived.KernelRfl
import Derived.Shelf.Vars
import Derived.ChangeMaps5
import Derived.Lib.SplitLaws
import Derived.Lib.Atoi
import Derived.Lib.ItoaNum
import Derived.SizedLaws
set_option linter.unusedVariables false
set_option linter.unusedSimpArgs false
namespace Go.Proofs.YtmncdniojmigeaaGreatDoor
open Go Go.Lt
set_option maxRecDepth 10000
set_option linter.unusedVariables false
attribute [local irreducible] W WL AC
open Tryz
variable {c0:Cx} {G:Gm} {F:List En} {sg:Sto} {v1 v2 v3 v4 v5 v6 v7 v8 v9 v10 v11 v12 v13 v14 v15 v16 v17 v18 v19 v20 v21 v22 v23 v24 v25 v26 v27 v28 v29 v30 v31 v32 v33 v34 v35 v36 v37 v38 v39 v40 v41 v42 v43 v44 v45 v46 v47 v48 v49 v50 v51 v52 v53 v54 v55 v56 v57 v58 v59 v60:Value}
def bU (p0:Int):Option (ByteArray):=none
theorem dw (b:Own c0 G F) (a:Int) {r:ByteArray} (H:bU a=some r):
    Calls prog 41 #[I a] c0.w (bG c0 fun c v=>Own c G (F)∧v= .string r):=by
 unfold bU at H
 cases H
def aJ (p0:Int):Option (ByteArray):=
 if (decide (p0 < 0))=true then
 (bU (w64 (0 - p0))).bind fun e=>
 (cx (⟨#[45]⟩:ByteArray) e).bind fun f=>
 some f
 else
 if (decide (p0 < 10))=true then
 (eE (⟨#[48,49,50,51,52,53,54,55,56,57]⟩:ByteArray) p0 (w64 (p0+1))).bind fun a=>
 some a
 else
 (bU (w64 (p0.tdiv 10))).bind fun b=>
 (bU (p0.tmod 10)).bind fun c=>
 (cx b c).bind fun d=>
 some d
theorem dv (f:Own c0 G F) (a:Int) {r:ByteArray} (H:aJ a=some r): Calls prog 41 #[I a] c0.w (bG c0 fun c v=>Own c G (F)∧v= .string r):=by
 unfold aJ at H;refine en func41 rfl rfl (sr (va (.string (⟨#[]⟩:ByteArray)) (wln (W.seq (sr (va (I a) (va (B (decide (a < 0))) (wln (cn H (fun s H=>?_) (fun s H=>?_))))))))))
 ·refine sr (va (I a) (va (I (w64 (0 - a))) (bn H fun E t H=>cl (dw f (w64 (0 - a)) t) ?_)));rintro v8 q M ⟨p,rfl⟩;refine bn H fun e u H=>vr (.string e) (rx (by kernel_rfl) (ay u _)) (va (.string e) (wln (W.ret (thr ?_))));obtain rfl:=si H;exact r1 (qq q ⟨p,rfl⟩)
 refine W.skip (nrm (W.seq (sr (va (I a) (va (B (decide (a < 10))) (wln (cn H (fun j H=>?_) (fun j H=>?_))))))))
 ·refine sr (vv (I a) (va (I (w64 (a+1))) (bn H fun b l H=>vr (.string b) (rx (by kernel_rfl) (cL (k:= .i64) (k':= .i64) u_9 l _)) (va (.string b) (wln (W.ret (thr ?_)))))));obtain rfl:=si H;exact r1 (qq c0 ⟨f,rfl⟩)
 refine W.skip (nrm (sr (va (I a) (va (I (w64 (a.tdiv 10))) (bn H fun x m H=>cl (dw f (w64 (a.tdiv 10)) m) ?_)))));rintro v18 z A ⟨g,rfl⟩;refine va (I a) (va (I (a.tmod 10)) (bn H fun y n H=>cl (dw g (a.tmod 10) n) ?_));rintro v25 i D ⟨h,rfl⟩;refine bn H fun d o H=>vr (.string d) (rx (by kernel_rfl) (ay o _)) (va (.string d) (wln (W.ret ?_)));obtain rfl:=si H;exact r1 (qq i ⟨h,rfl⟩)
def bd (p0:Int):Option (ByteArray):=
 if (decide (p0 < 0))=true then
 (aJ (w64 (0 - p0))).bind fun e=>
 (cx (⟨#[45]⟩:ByteArray) e).bind fun f=>
 some f
 else
 if (decide (p0 < 10))=true then
 (eE (⟨#[48,49,50,51,52,53,54,55,56,57]⟩:ByteArray) p0 (w64 (p0+1))).bind fun a=>
 some a
 else
 (aJ (w64 (p0.tdiv 10))).bind fun b=>
 (aJ (p0.tmod 10)).bind fun c=>
 (cx b c).bind fun d=>
 some d
theorem du (f:Own c0 G F) (a:Int) {r:ByteArray} (H:bd a=some r): Calls prog 41 #[I a] c0.w (bG c0 fun c v=>Own c G (F)∧v= .string r):=by
 unfold bd at H;refine en func41 rfl rfl (sr (va (.string (⟨#[]⟩:ByteArray)) (wln (W.seq (sr (va (I a) (va (B (decide (a < 0))) (wln (cn H (fun s H=>?_) (fun s H=>?_))))))))))
 ·refine sr (va (I a) (va (I (w64 (0 - a))) (bn H fun E t H=>cl (dv f (w64 (0 - a)) t) ?_)));rintro v8 q M ⟨p,rfl⟩;refine bn H fun e u H=>vr (.string e) (rx (by kernel_rfl) (ay u _)) (va (.string e) (wln (W.ret (thr ?_))));obtain rfl:=si H;exact r1 (qq q ⟨p,rfl⟩)
 refine W.skip (nrm (W.seq (sr (va (I a) (va (B (decide (a < 10))) (wln (cn H (fun j H=>?_) (fun j H=>?_))))))))
 ·refine sr (vv (I a) (va (I (w64 (a+1))) (bn H fun b l H=>vr (.string b) (rx (by kernel_rfl) (cL (k:= .i64) (k':= .i64) u_9 l _)) (va (.string b) (wln (W.ret (thr ?_)))))));obtain rfl:=si H;exact r1 (qq c0 ⟨f,rfl⟩)
 refine W.skip (nrm (sr (va (I a) (va (I (w64 (a.tdiv 10))) (bn H fun x m H=>cl (dv f (w64 (a.tdiv 10)) m) ?_)))));rintro v18 z A ⟨g,rfl⟩;refine va (I a) (va (I (a.tmod 10)) (bn H fun y n H=>cl (dv g (a.tmod 10) n) ?_));rintro v25 i D ⟨h,rfl⟩;refine bn H fun d o H=>vr (.string d) (rx (by kernel_rfl) (ay o _)) (va (.string d) (wln (W.ret ?_)));obtain rfl:=si H;exact r1 (qq i ⟨h,rfl⟩)
def bc (p0:Int):Option (ByteArray):=
 if (decide (p0 < 0))=true then
 (bd (w64 (0 - p0))).bind fun e=>
 (cx (⟨#[45]⟩:ByteArray) e).bind fun f=>
 some f
 else
 if (decide (p0 < 10))=true then
 (eE (⟨#[48,49,50,51,52,53,54,55,56,57]⟩:ByteArray) p0 (w64 (p0+1))).bind fun a=>
 some a
 else
 (bd (w64 (p0.tdiv 10))).bind fun b=>
 (bd (p0.tmod 10)).bind fun c=>
 (cx b c).bind fun d=>
 some d
theorem dt (f:Own c0 G F) (a:Int) {r:ByteArray} (H:bc a=some r): Calls prog 41 #[I a] c0.w (bG c0 fun c v=>Own c G (F)∧v= .string r):=by
 unfold bc at H;refine en func41 rfl rfl (sr (va (.string (⟨#[]⟩:ByteArray)) (wln (W.seq (sr (va (I a) (va (B (decide (a < 0))) (wln (cn H (fun s H=>?_) (fun s H=>?_))))))))))
 ·refine sr (va (I a) (va (I (w64 (0 - a))) (bn H fun E t H=>cl (du f (w64 (0 - a)) t) ?_)));rintro v8 q M ⟨p,rfl⟩;refine bn H fun e u H=>vr (.string e) (rx (by kernel_rfl) (ay u _)) (va (.string e) (wln (W.ret (thr ?_))));obtain rfl:=si H;exact r1 (qq q ⟨p,rfl⟩)
 refine W.skip (nrm (W.seq (sr (va (I a) (va (B (decide (a < 10))) (wln (cn H (fun j H=>?_) (fun j H=>?_))))))))
 ·refine sr (vv (I a) (va (I (w64 (a+1))) (bn H fun b l H=>vr (.string b) (rx (by kernel_rfl) (cL (k:= .i64) (k':= .i64) u_9 l _)) (va (.string b) (wln (W.ret (thr ?_)))))));obtain rfl:=si H;exact r1 (qq c0 ⟨f,rfl⟩)
 refine W.skip (nrm (sr (va (I a) (va (I (w64 (a.tdiv 10))) (bn H fun x m H=>cl (du f (w64 (a.tdiv 10)) m) ?_)))));rintro v18 z A ⟨g,rfl⟩;refine va (I a) (va (I (a.tmod 10)) (bn H fun y n H=>cl (du g (a.tmod 10) n) ?_));rintro v25 i D ⟨h,rfl⟩;refine bn H fun d o H=>vr (.string d) (rx (by kernel_rfl) (ay o _)) (va (.string d) (wln (W.ret ?_)));obtain rfl:=si H;exact r1 (qq i ⟨h,rfl⟩)
def bb (p0:Int):Option (ByteArray):=
 if (decide (p0 < 0))=true then
 (bc (w64 (0 - p0))).bind fun e=>
 (cx (⟨#[45]⟩:ByteArray) e).bind fun f=>
 some f
 else
 if (decide (p0 < 10))=true then
 (eE (⟨#[48,49,50,51,52,53,54,55,56,57]⟩:ByteArray) p0 (w64 (p0+1))).bind fun a=>
 some a
 else
 (bc (w64 (p0.tdiv 10))).bind fun b=>
 (bc (p0.tmod 10)).bind fun c=>
 (cx b c).bind fun d=>
 some d
theorem dr (f:Own c0 G F) (a:Int) {r:ByteArray} (H:bb a=some r): Calls prog 41 #[I a] c0.w (bG c0 fun c v=>Own c G (F)∧v= .string r):=by
 unfold bb at H;refine en func41 rfl rfl (sr (va (.string (⟨#[]⟩:ByteArray)) (wln (W.seq (sr (va (I a) (va (B (decide (a < 0))) (wln (cn H (fun s H=>?_) (fun s H=>?_))))))))))
 ·refine sr (va (I a) (va (I (w64 (0 - a))) (bn H fun E t H=>cl (dt f (w64 (0 - a)) t) ?_)));rintro v8 q M ⟨p,rfl⟩;refine bn H fun e u H=>vr (.string e) (rx (by kernel_rfl) (ay u _)) (va (.string e) (wln (W.ret (thr ?_))));obtain rfl:=si H;exact r1 (qq q ⟨p,rfl⟩)
 refine W.skip (nrm (W.seq (sr (va (I a) (va (B (decide (a < 10))) (wln (cn H (fun j H=>?_) (fun j H=>?_))))))))
 ·refine sr (vv (I a) (va (I (w64 (a+1))) (bn H fun b l H=>vr (.string b) (rx (by kernel_rfl) (cL (k:= .i64) (k':= .i64) u_9 l _)) (va (.string b) (wln (W.ret (thr ?_)))))));obtain rfl:=si H;exact r1 (qq c0 ⟨f,rfl⟩)
 refine W.skip (nrm (sr (va (I a) (va (I (w64 (a.tdiv 10))) (bn H fun x m H=>cl (dt f (w64 (a.tdiv 10)) m) ?_)))));rintro v18 z A ⟨g,rfl⟩;refine va (I a) (va (I (a.tmod 10)) (bn H fun y n H=>cl (dt g (a.tmod 10) n) ?_));rintro v25 i D ⟨h,rfl⟩;refine bn H fun d o H=>vr (.string d) (rx (by kernel_rfl) (ay o _)) (va (.string d) (wln (W.ret ?_)));obtain rfl:=si H;exact r1 (qq i ⟨h,rfl⟩)
def ba (p0:Int):Option (ByteArray):=
 if (decide (p0 < 0))=true then
 (bb (w64 (0 - p0))).bind fun e=>
 (cx (⟨#[45]⟩:ByteArray) e).bind fun f=>
 some f
 else
 if (decide (p0 < 10))=true then
 (eE (⟨#[48,49,50,51,52,53,54,55,56,57]⟩:ByteArray) p0 (w64 (p0+1))).bind fun a=>
 some a
 else
 (bb (w64 (p0.tdiv 10))).bind fun b=>
 (bb (p0.tmod 10)).bind fun c=>
 (cx b c).bind fun d=>
 some d
theorem dq (f:Own c0 G F) (a:Int) {r:ByteArray} (H:ba a=some r): Calls prog 41 #[I a] c0.w (bG c0 fun c v=>Own c G (F)∧v= .string r):=by
 unfold ba at H;refine en func41 rfl rfl (sr (va (.string (⟨#[]⟩:ByteArray)) (wln (W.seq (sr (va (I a) (va (B (decide (a < 0))) (wln (cn H (fun s H=>?_) (fun s H=>?_))))))))))
 ·refine sr (va (I a) (va (I (w64 (0 - a))) (bn H fun E t H=>cl (dr f (w64 (0 - a)) t) ?_)));rintro v8 q M ⟨p,rfl⟩;refine bn H fun e u H=>vr (.string e) (rx (by kernel_rfl) (ay u _)) (va (.string e) (wln (W.ret (thr ?_))));obtain rfl:=si H;exact r1 (qq q ⟨p,rfl⟩)
 refine W.skip (nrm (W.seq (sr (va (I a) (va (B (decide (a < 10))) (wln (cn H (fun j H=>?_) (fun j H=>?_))))))))
 ·refine sr (vv (I a) (va (I (w64 (a+1))) (bn H fun b l H=>vr (.string b) (rx (by kernel_rfl) (cL (k:= .i64) (k':= .i64) u_9 l _)) (va (.string b) (wln (W.ret (thr ?_)))))));obtain rfl:=si H;exact r1 (qq c0 ⟨f,rfl⟩)
 refine W.skip (nrm (sr (va (I a) (va (I (w64 (a.tdiv 10))) (bn H fun x m H=>cl (dr f (w64 (a.tdiv 10)) m) ?_)))));rintro v18 z A ⟨g,rfl⟩;refine va (I a) (va (I (a.tmod 10)) (bn H fun y n H=>cl (dr g (a.tmod 10) n) ?_));rintro v25 i D ⟨h,rfl⟩;refine bn H fun d o H=>vr (.string d) (rx (by kernel_rfl) (ay o _)) (va (.string d) (wln (W.ret ?_)));obtain rfl:=si H;exact r1 (qq i ⟨h,rfl⟩)
def aZ (p0:Int):Option (ByteArray):=
 if (decide (p0 < 0))=true then
 (ba (w64 (0 - p0))).bind fun e=>
 (cx (⟨#[45]⟩:ByteArray) e).bind fun f=>
 some f
 else
 if (decide (p0 < 10))=true then
 (eE (⟨#[48,49,50,51,52,53,54,55,56,57]⟩:ByteArray) p0 (w64 (p0+1))).bind fun a=>
 some a
 else
 (ba (w64 (p0.tdiv 10))).bind fun b=>
 (ba (p0.tmod 10)).bind fun c=>
 (cx b c).bind fun d=>
 some d
theorem dp (f:Own c0 G F) (a:Int) {r:ByteArray} (H:aZ a=some r): Calls prog 41 #[I a] c0.w (bG c0 fun c v=>Own c G (F)∧v= .string r):=by
 unfold aZ at H;refine en func41 rfl rfl (sr (va (.string (⟨#[]⟩:ByteArray)) (wln (W.seq (sr (va (I a) (va (B (decide (a < 0))) (wln (cn H (fun s H=>?_) (fun s H=>?_))))))))))
 ·refine sr (va (I a) (va (I (w64 (0 - a))) (bn H fun E t H=>cl (dq f (w64 (0 - a)) t) ?_)));rintro v8 q M ⟨p,rfl⟩;refine bn H fun e u H=>vr (.string e) (rx (by kernel_rfl) (ay u _)) (va (.string e) (wln (W.ret (thr ?_))));obtain rfl:=si H;exact r1 (qq q ⟨p,rfl⟩)
 refine W.skip (nrm (W.seq (sr (va (I a) (va (B (decide (a < 10))) (wln (cn H (fun j H=>?_) (fun j H=>?_))))))))
 ·refine sr (vv (I a) (va (I (w64 (a+1))) (bn H fun b l H=>vr (.string b) (rx (by kernel_rfl) (cL (k:= .i64) (k':= .i64) u_9 l _)) (va (.string b) (wln (W.ret (thr ?_)))))));obtain rfl:=si H;exact r1 (qq c0 ⟨f,rfl⟩)
 refine W.skip (nrm (sr (va (I a) (va (I (w64 (a.tdiv 10))) (bn H fun x m H=>cl (dq f (w64 (a.tdiv 10)) m) ?_)))));rintro v18 z A ⟨g,rfl⟩;refine va (I a) (va (I (a.tmod 10)) (bn H fun y n H=>cl (dq g (a.tmod 10) n) ?_));rintro v25 i D ⟨h,rfl⟩;refine bn H fun d o H=>vr (.string d) (rx (by kernel_rfl) (ay o _)) (va (.string d) (wln (W.ret ?_)));obtain rfl:=si H;exact r1 (qq i ⟨h,rfl⟩)
def aY (p0:Int):Option (ByteArray):=
 if (decide (p0 < 0))=true then
 (aZ (w64 (0 - p0))).bind fun e=>
 (cx (⟨#[45]⟩:ByteArray) e).bind fun f=>
 some f
 else
 if (decide (p0 < 10))=true then
 (eE (⟨#[48,49,50,51,52,53,54,55,56,57]⟩:ByteArray) p0 (w64 (p0+1))).bind fun a=>
 some a
 else
 (aZ (w64 (p0.tdiv 10))).bind fun b=>
 (aZ (p0.tmod 10)).bind fun c=>
 (cx b c).bind fun d=>
 some d
theorem dm (f:Own c0 G F) (a:Int) {r:ByteArray} (H:aY a=some r): Calls prog 41 #[I a] c0.w (bG c0 fun c v=>Own c G (F)∧v= .string r):=by
 unfold aY at H;refine en func41 rfl rfl (sr (va (.string (⟨#[]⟩:ByteArray)) (wln (W.seq (sr (va (I a) (va (B (decide (a < 0))) (wln (cn H (fun s H=>?_) (fun s H=>?_))))))))))
 ·refine sr (va (I a) (va (I (w64 (0 - a))) (bn H fun E t H=>cl (dp f (w64 (0 - a)) t) ?_)));rintro v8 q M ⟨p,rfl⟩;refine bn H fun e u H=>vr (.string e) (rx (by kernel_rfl) (ay u _)) (va (.string e) (wln (W.ret (thr ?_))));obtain rfl:=si H;exact r1 (qq q ⟨p,rfl⟩)
 refine W.skip (nrm (W.seq (sr (va (I a) (va (B (decide (a < 10))) (wln (cn H (fun j H=>?_) (fun j H=>?_))))))))
 ·refine sr (vv (I a) (va (I (w64 (a+1))) (bn H fun b l H=>vr (.string b) (rx (by kernel_rfl) (cL (k:= .i64) (k':= .i64) u_9 l _)) (va (.string b) (wln (W.ret (thr ?_)))))));obtain rfl:=si H;exact r1 (qq c0 ⟨f,rfl⟩)
 refine W.skip (nrm (sr (va (I a) (va (I (w64 (a.tdiv 10))) (bn H fun x m H=>cl (dp f (w64 (a.tdiv 10)) m) ?_)))));rintro v18 z A ⟨g,rfl⟩;refine va (I a) (va (I (a.tmod 10)) (bn H fun y n H=>cl (dp g (a.tmod 10) n) ?_));rintro v25 i D ⟨h,rfl⟩;refine bn H fun d o H=>vr (.string d) (rx (by kernel_rfl) (ay o _)) (va (.string d) (wln (W.ret ?_)));obtain rfl:=si H;exact r1 (qq i ⟨h,rfl⟩)
def aX (p0:Int):Option (ByteArray):=
 if (decide (p0 < 0))=true then
 (aY (w64 (0 - p0))).bind fun e=>
 (cx (⟨#[45]⟩:ByteArray) e).bind fun f=>
 some f
 else
 if (decide (p0 < 10))=true then
 (eE (⟨#[48,49,50,51,52,53,54,55,56,57]⟩:ByteArray) p0 (w64 (p0+1))).bind fun a=>
 some a
 else
 (aY (w64 (p0.tdiv 10))).bind fun b=>
 (aY (p0.tmod 10)).bind fun c=>
 (cx b c).bind fun d=>
 some d
theorem dl (f:Own c0 G F) (a:Int) {r:ByteArray} (H:aX a=some r): Calls prog 41 #[I a] c0.w (bG c0 fun c v=>Own c G (F)∧v= .string r):=by
 unfold aX at H;refine en func41 rfl rfl (sr (va (.string (⟨#[]⟩:ByteArray)) (wln (W.seq (sr (va (I a) (va (B (decide (a < 0))) (wln (cn H (fun s H=>?_) (fun s H=>?_))))))))))
 ·refine sr (va (I a) (va (I (w64 (0 - a))) (bn H fun E t H=>cl (dm f (w64 (0 - a)) t) ?_)));rintro v8 q M ⟨p,rfl⟩;refine bn H fun e u H=>vr (.string e) (rx (by kernel_rfl) (ay u _)) (va (.string e) (wln (W.ret (thr ?_))));obtain rfl:=si H;exact r1 (qq q ⟨p,rfl⟩)
 refine W.skip (nrm (W.seq (sr (va (I a) (va (B (decide (a < 10))) (wln (cn H (fun j H=>?_) (fun j H=>?_))))))))
 ·refine sr (vv (I a) (va (I (w64 (a+1))) (bn H fun b l H=>vr (.string b) (rx (by kernel_rfl) (cL (k:= .i64) (k':= .i64) u_9 l _)) (va (.string b) (wln (W.ret (thr ?_)))))));obtain rfl:=si H;exact r1 (qq c0 ⟨f,rfl⟩)
 refine W.skip (nrm (sr (va (I a) (va (I (w64 (a.tdiv 10))) (bn H fun x m H=>cl (dm f (w64 (a.tdiv 10)) m) ?_)))));rintro v18 z A ⟨g,rfl⟩;refine va (I a) (va (I (a.tmod 10)) (bn H fun y n H=>cl (dm g (a.tmod 10) n) ?_));rintro v25 i D ⟨h,rfl⟩;refine bn H fun d o H=>vr (.string d) (rx (by kernel_rfl) (ay o _)) (va (.string d) (wln (W.ret ?_)));obtain rfl:=si H;exact r1 (qq i ⟨h,rfl⟩)
def aW (p0:Int):Option (ByteArray):=
 if (decide (p0 < 0))=true then
 (aX (w64 (0 - p0))).bind fun e=>
 (cx (⟨#[45]⟩:ByteArray) e).bind fun f=>
 some f
 else
 if (decide (p0 < 10))=true then
 (eE (⟨#[48,49,50,51,52,53,54,55,56,57]⟩:ByteArray) p0 (w64 (p0+1))).bind fun a=>
 some a
 else
 (aX (w64 (p0.tdiv 10))).bind fun b=>
 (aX (p0.tmod 10)).bind fun c=>
 (cx b c).bind fun d=>
 some d
theorem dk (f:Own c0 G F) (a:Int) {r:ByteArray} (H:aW a=some r): Calls prog 41 #[I a] c0.w (bG c0 fun c v=>Own c G (F)∧v= .string r):=by
 unfold aW at H;refine en func41 rfl rfl (sr (va (.string (⟨#[]⟩:ByteArray)) (wln (W.seq (sr (va (I a) (va (B (decide (a < 0))) (wln (cn H (fun s H=>?_) (fun s H=>?_))))))))))
 ·refine sr (va (I a) (va (I (w64 (0 - a))) (bn H fun E t H=>cl (dl f (w64 (0 - a)) t) ?_)));rintro v8 q M ⟨p,rfl⟩;refine bn H fun e u H=>vr (.string e) (rx (by kernel_rfl) (ay u _)) (va (.string e) (wln (W.ret (thr ?_))));obtain rfl:=si H;exact r1 (qq q ⟨p,rfl⟩)
 refine W.skip (nrm (W.seq (sr (va (I a) (va (B (decide (a < 10))) (wln (cn H (fun j H=>?_) (fun j H=>?_))))))))
 ·refine sr (vv (I a) (va (I (w64 (a+1))) (bn H fun b l H=>vr (.string b) (rx (by kernel_rfl) (cL (k:= .i64) (k':= .i64) u_9 l _)) (va (.string b) (wln (W.ret (thr ?_)))))));obtain rfl:=si H;exact r1 (qq c0 ⟨f,rfl⟩)
 refine W.skip (nrm (sr (va (I a) (va (I (w64 (a.tdiv 10))) (bn H fun x m H=>cl (dl f (w64 (a.tdiv 10)) m) ?_)))));rintro v18 z A ⟨g,rfl⟩;refine va (I a) (va (I (a.tmod 10)) (bn H fun y n H=>cl (dl g (a.tmod 10) n) ?_));rintro v25 i D ⟨h,rfl⟩;refine bn H fun d o H=>vr (.string d) (rx (by kernel_rfl) (ay o _)) (va (.string d) (wln (W.ret ?_)));obtain rfl:=si H;exact r1 (qq i ⟨h,rfl⟩)
def aO (p0:Int):Option (ByteArray):=
 if (decide (p0 < 0))=true then
 (aW (w64 (0 - p0))).bind fun e=>
 (cx (⟨#[45]⟩:ByteArray) e).bind fun f=>
 some f
 else
 if (decide (p0 < 10))=true then
 (eE (⟨#[48,49,50,51,52,53,54,55,56,57]⟩:ByteArray) p0 (w64 (p0+1))).bind fun a=>
 some a
 else
 (aW (w64 (p0.tdiv 10))).bind fun b=>
 (aW (p0.tmod 10)).bind fun c=>
 (cx b c).bind fun d=>
 some d
theorem de (f:Own c0 G F) (a:Int) {r:ByteArray} (H:aO a=some r): Calls prog 41 #[I a] c0.w (bG c0 fun c v=>Own c G (F)∧v= .string r):=by
 unfold aO at H;refine en func41 rfl rfl (sr (va (.string (⟨#[]⟩:ByteArray)) (wln (W.seq (sr (va (I a) (va (B (decide (a < 0))) (wln (cn H (fun s H=>?_) (fun s H=>?_))))))))))
 ·refine sr (va (I a) (va (I (w64 (0 - a))) (bn H fun E t H=>cl (dk f (w64 (0 - a)) t) ?_)));rintro v8 q M ⟨p,rfl⟩;refine bn H fun e u H=>vr (.string e) (rx (by kernel_rfl) (ay u _)) (va (.string e) (wln (W.ret (thr ?_))));obtain rfl:=si H;exact r1 (qq q ⟨p,rfl⟩)
 refine W.skip (nrm (W.seq (sr (va (I a) (va (B (decide (a < 10))) (wln (cn H (fun j H=>?_) (fun j H=>?_))))))))
 ·refine sr (vv (I a) (va (I (w64 (a+1))) (bn H fun b l H=>vr (.string b) (rx (by kernel_rfl) (cL (k:= .i64) (k':= .i64) u_9 l _)) (va (.string b) (wln (W.ret (thr ?_)))))));obtain rfl:=si H;exact r1 (qq c0 ⟨f,rfl⟩)
 refine W.skip (nrm (sr (va (I a) (va (I (w64 (a.tdiv 10))) (bn H fun x m H=>cl (dk f (w64 (a.tdiv 10)) m) ?_)))));rintro v18 z A ⟨g,rfl⟩;refine va (I a) (va (I (a.tmod 10)) (bn H fun y n H=>cl (dk g (a.tmod 10) n) ?_));rintro v25 i D ⟨h,rfl⟩;refine bn H fun d o H=>vr (.string d) (rx (by kernel_rfl) (ay o _)) (va (.string d) (wln (W.ret ?_)));obtain rfl:=si H;exact r1 (qq i ⟨h,rfl⟩)
def aN (p0:Int):Option (ByteArray):=
 if (decide (p0 < 0))=true then
 (aO (w64 (0 - p0))).bind fun e=>
 (cx (⟨#[45]⟩:ByteArray) e).bind fun f=>
 some f
 else
 if (decide (p0 < 10))=true then
 (eE (⟨#[48,49,50,51,52,53,54,55,56,57]⟩:ByteArray) p0 (w64 (p0+1))).bind fun a=>
 some a
 else
 (aO (w64 (p0.tdiv 10))).bind fun b=>
 (aO (p0.tmod 10)).bind fun c=>
 (cx b c).bind fun d=>
 some d
theorem dc (f:Own c0 G F) (a:Int) {r:ByteArray} (H:aN a=some r): Calls prog 41 #[I a] c0.w (bG c0 fun c v=>Own c G (F)∧v= .string r):=by
 unfold aN at H;refine en func41 rfl rfl (sr (va (.string (⟨#[]⟩:ByteArray)) (wln (W.seq (sr (va (I a) (va (B (decide (a < 0))) (wln (cn H (fun s H=>?_) (fun s H=>?_))))))))))
 ·refine sr (va (I a) (va (I (w64 (0 - a))) (bn H fun E t H=>cl (de f (w64 (0 - a)) t) ?_)));rintro v8 q M ⟨p,rfl⟩;refine bn H fun e u H=>vr (.string e) (rx (by kernel_rfl) (ay u _)) (va (.string e) (wln (W.ret (thr ?_))));obtain rfl:=si H;exact r1 (qq q ⟨p,rfl⟩)
 refine W.skip (nrm (W.seq (sr (va (I a) (va (B (decide (a < 10))) (wln (cn H (fun j H=>?_) (fun j H=>?_))))))))
 ·refine sr (vv (I a) (va (I (w64 (a+1))) (bn H fun b l H=>vr (.string b) (rx (by kernel_rfl) (cL (k:= .i64) (k':= .i64) u_9 l _)) (va (.string b) (wln (W.ret (thr ?_)))))));obtain rfl:=si H;exact r1 (qq c0 ⟨f,rfl⟩)
 refine W.skip (nrm (sr (va (I a) (va (I (w64 (a.tdiv 10))) (bn H fun x m H=>cl (de f (w64 (a.tdiv 10)) m) ?_)))));rintro v18 z A ⟨g,rfl⟩;refine va (I a) (va (I (a.tmod 10)) (bn H fun y n H=>cl (de g (a.tmod 10) n) ?_));rintro v25 i D ⟨h,rfl⟩;refine bn H fun d o H=>vr (.string d) (rx (by kernel_rfl) (ay o _)) (va (.string d) (wln (W.ret ?_)));obtain rfl:=si H;exact r1 (qq i ⟨h,rfl⟩)
def bk (p0:Int):Option (ByteArray):=
 if (decide (p0 < 0))=true then
 (aN (w64 (0 - p0))).bind fun e=>
 (cx (⟨#[45]⟩:ByteArray) e).bind fun f=>
 some f
 else
 if (decide (p0 < 10))=true then
 (eE (⟨#[48,49,50,51,52,53,54,55,56,57]⟩:ByteArray) p0 (w64 (p0+1))).bind fun a=>
 some a
 else
 (aN (w64 (p0.tdiv 10))).bind fun b=>
 (aN (p0.tmod 10)).bind fun c=>
 (cx b c).bind fun d=>
 some d
theorem cW (f:Own c0 G F) (a:Int) {r:ByteArray} (H:bk a=some r): Calls prog 41 #[I a] c0.w (bG c0 fun c v=>Own c G (F)∧v= .string r):=by
 unfold bk at H;refine en func41 rfl rfl (sr (va (.string (⟨#[]⟩:ByteArray)) (wln (W.seq (sr (va (I a) (va (B (decide (a < 0))) (wln (cn H (fun s H=>?_) (fun s H=>?_))))))))))
 ·refine sr (va (I a) (va (I (w64 (0 - a))) (bn H fun E t H=>cl (dc f (w64 (0 - a)) t) ?_)));rintro v8 q M ⟨p,rfl⟩;refine bn H fun e u H=>vr (.string e) (rx (by kernel_rfl) (ay u _)) (va (.string e) (wln (W.ret (thr ?_))));obtain rfl:=si H;exact r1 (qq q ⟨p,rfl⟩)
 refine W.skip (nrm (W.seq (sr (va (I a) (va (B (decide (a < 10))) (wln (cn H (fun j H=>?_) (fun j H=>?_))))))))
 ·refine sr (vv (I a) (va (I (w64 (a+1))) (bn H fun b l H=>vr (.string b) (rx (by kernel_rfl) (cL (k:= .i64) (k':= .i64) u_9 l _)) (va (.string b) (wln (W.ret (thr ?_)))))));obtain rfl:=si H;exact r1 (qq c0 ⟨f,rfl⟩)
 refine W.skip (nrm (sr (va (I a) (va (I (w64 (a.tdiv 10))) (bn H fun x m H=>cl (dc f (w64 (a.tdiv 10)) m) ?_)))));rintro v18 z A ⟨g,rfl⟩;refine va (I a) (va (I (a.tmod 10)) (bn H fun y n H=>cl (dc g (a.tmod 10) n) ?_));rintro v25 i D ⟨h,rfl⟩;refine bn H fun d o H=>vr (.string d) (rx (by kernel_rfl) (ay o _)) (va (.string d) (wln (W.ret ?_)));obtain rfl:=si H;exact r1 (qq i ⟨h,rfl⟩)
def bY:Option (List ByteArray):=
 some ([(⟨#[]⟩:ByteArray),(⟨#[102,108,117,115,104,32,48]⟩:ByteArray),(⟨#[109,111,118,101,32,50]⟩:ByteArray),(⟨#[101,114,97,115,101,32,108,105,110,101,32,49]⟩:ByteArray),(⟨#[101,114,97,115,101,32,115,99,114,101,101,110,32,49]⟩:ByteArray),(⟨#[101,114,97,115,101,32,99,101,108,108,115,32,49]⟩:ByteArray),(⟨#[105,110,115,101,114,116,32,99,101,108,108,115,32,49]⟩:ByteArray),(⟨#[100,101,108,101,116,101,32,99,101,108,108,115,32,49]⟩:ByteArray),(⟨#[105,110,115,101,114,116,32,108,105,110,101,115,32,49]⟩:ByteArray),(⟨#[100,101,108,101,116,101,32,108,105,110,101,115,32,49]⟩:ByteArray),(⟨#[115,99,114,111,108,108,32,117,112,32,49]⟩:ByteArray),(⟨#[115,99,114,111,108,108,32,100,111,119,110,32,49]⟩:ByteArray),(⟨#[]⟩:ByteArray),(⟨#[114,101,115,105,122,101,32,50]⟩:ByteArray)]:List ByteArray)
theorem fU (d:Own c0 G F) {r:List ByteArray} (H:bY=some r): Calls prog 51 #[] c0.w (bG c0 fun c v=>∃a b,Own c G (es true RS a 9 b r :: F)∧v=a∧OA RS c a b r):=by
 unfold bY at H;refine en func51 rfl rfl (sr (va (Y) (wln (sr (me (sl RS 9 [[.string (⟨#[]⟩:ByteArray)],[.string (⟨#[102,108,117,115,104,32,48]⟩:ByteArray)],[.string (⟨#[109,111,118,101,32,50]⟩:ByteArray)],[.string (⟨#[101,114,97,115,101,32,108,105,110,101,32,49]⟩:ByteArray)],[.string (⟨#[101,114,97,115,101,32,115,99,114,101,101,110,32,49]⟩:ByteArray)],[.string (⟨#[101,114,97,115,101,32,99,101,108,108,115,32,49]⟩:ByteArray)],[.string (⟨#[105,110,115,101,114,116,32,99,101,108,108,115,32,49]⟩:ByteArray)],[.string (⟨#[100,101,108,101,116,101,32,99,101,108,108,115,32,49]⟩:ByteArray)],[.string (⟨#[105,110,115,101,114,116,32,108,105,110,101,115,32,49]⟩:ByteArray)],[.string (⟨#[100,101,108,101,116,101,32,108,105,110,101,115,32,49]⟩:ByteArray)],[.string (⟨#[115,99,114,111,108,108,32,117,112,32,49]⟩:ByteArray)],[.string (⟨#[115,99,114,111,108,108,32,100,111,119,110,32,49]⟩:ByteArray)],[.string (⟨#[]⟩:ByteArray)],[.string (⟨#[114,101,115,105,122,101,32,50]⟩:ByteArray)]] ([(⟨#[]⟩:ByteArray),(⟨#[102,108,117,115,104,32,48]⟩:ByteArray),(⟨#[109,111,118,101,32,50]⟩:ByteArray),(⟨#[101,114,97,115,101,32,108,105,110,101,32,49]⟩:ByteArray),(⟨#[101,114,97,115,101,32,115,99,114,101,101,110,32,49]⟩:ByteArray),(⟨#[101,114,97,115,101,32,99,101,108,108,115,32,49]⟩:ByteArray),(⟨#[105,110,115,101,114,116,32,99,101,108,108,115,32,49]⟩:ByteArray),(⟨#[100,101,108,101,116,101,32,99,101,108,108,115,32,49]⟩:ByteArray),(⟨#[105,110,115,101,114,116,32,108,105,110,101,115,32,49]⟩:ByteArray),(⟨#[100,101,108,101,116,101,32,108,105,110,101,115,32,49]⟩:ByteArray),(⟨#[115,99,114,111,108,108,32,117,112,32,49]⟩:ByteArray),(⟨#[115,99,114,111,108,108,32,100,111,119,110,32,49]⟩:ByteArray),(⟨#[]⟩:ByteArray),(⟨#[114,101,115,105,122,101,32,50]⟩:ByteArray)]:List ByteArray) d ⟨rfl,rfl,rfl,rfl,rfl,rfl,rfl,rfl,rfl,rfl,rfl,rfl,rfl,rfl,trivial⟩) ?_)))));rintro v5 f i ⟨h,e,g⟩;refine va (v5) (wln (W.ret ?_));obtain rfl:=si H;exact r1 (qq f ⟨v5,h,e,rfl,g⟩)
def aL (p0:aj):Option (ByteArray):=
 if (p0.Kind==0)=true then
 (cT (σ:=ByteArray×Int) (τ:=ByteArray) (((p0.Bytes.length:Int) - 0).toNat+1) (fun a=>
 if (decide (a.2 < (p0.Bytes.length:Int)))=true then
 (idx p0.Bytes a.2).bind fun d=>
 (idx p0.Bytes a.2).bind fun e=>
 (eE (⟨#[48,49,50,51,52,53,54,55,56,57,97,98,99,100,101,102]⟩:ByteArray) (IntKind.u8.wrap (d.tdiv 16)) (IntKind.u8.wrap ((IntKind.u8.wrap (d.tdiv 16))+1))).bind fun r=>
 (cx a.1 r).bind fun s=>
 (eE (⟨#[48,49,50,51,52,53,54,55,56,57,97,98,99,100,101,102]⟩:ByteArray) (e.tmod 16) (IntKind.u8.wrap ((e.tmod 16)+1))).bind fun t=>
 (cx s t).bind fun u=>
 some (.inl (u,(w64 (a.2+1))))
 else
 some (.inr (a.1))) ((⟨#[102,101,101,100,32]⟩:ByteArray),0)).bind fun c=>
 if ((p0.Bytes.length:Int)==0)=true then
 (cx c (⟨#[45]⟩:ByteArray)).bind fun v=>
 some v
 else
 some c
 else
 (bW (p0.Kind==12) (some (p0.A==1))).bind fun q=>
 if q=true then
 some (⟨#[119,114,97,112,32,111,110]⟩:ByteArray)
 else
 if (p0.Kind==12)=true then
 some (⟨#[119,114,97,112,32,111,102,102]⟩:ByteArray)
 else
 (bY).bind fun w=>
 (idx w p0.Kind).bind fun b=>
 (eE b 0 (w64 ((aR b) - 2))).bind fun f=>
 ((eU b (w64 ((aR b) - 1))).bind fun h=>
 if (decide (h > 48))=true then
 (cx f (⟨#[32]⟩:ByteArray)).bind fun i=>
 (bk p0.A).bind fun j=>
 (cx i j).bind fun k=>
 some (k)
 else
 some (f)).bind fun g=>
 ((eU b (w64 ((aR b) - 1))).bind fun l=>
 if (decide (l > 49))=true then
 (cx g (⟨#[32]⟩:ByteArray)).bind fun m=>
 (bk p0.B).bind fun n=>
 (cx m n).bind fun o=>
 some (o)
 else
 some (g)).bind fun p=>
 some p
theorem cN (O0:Own c0 G F) (g:aj) {r:ByteArray} (x:Sl (RI .u8) c0 v1 g.Bytes) (H:aL g=some r): Calls prog 20 #[.agg #[I g.Kind,I g.A,I g.B,v1]] c0.w (bG c0 fun c v=>Own c G (F)∧v= .string r):=by
 unfold aL at H;refine en func20 rfl rfl (sr ?_);obtain ⟨a3,a4,a5,rfl⟩:=(x).form;refine me (bx 38 [I g.Kind,I g.A,I g.B,.slice a3 a4 a5] O0) ?_;rintro v10 P l9 ⟨i,rfl,O7,p⟩;refine va (.string (⟨#[]⟩:ByteArray)) (wln (W.seq (sr (va (Q i) (vx (l1 u_3 (p 0 _ rfl)) (va (B (g.Kind==0)) (wln (cn H (fun e2 H=>?_) (fun e2 H=>?_)))))))))
 ·refine sr (va (.string (⟨#[102,101,101,100,32]⟩:ByteArray)) (wln (W.seq (sr (va (I 0) (wln (W.block (bn H fun y t0 n=>lp t0 (fun b=>Jn P fun c l=>Own c G (F)∧l= [(1,Q i),(3,.string b.1),(4,I b.2)]) (fun e0 ex e w=>ex= .exit 0∧(Jn P fun c l=>Own c G (F)∧l= [(1,Q i),(3,.string e0)]) e w) ?_ ?_ ?_))))))))
  ·clear n t0;intro b n4 d2 i3 H;revert d2 i3;rintro e_ w_ ⟨y1,x3,_,rfl,x0,rfl,i0,rfl⟩;refine W.seq (sr (va (I b.2) (va (Qo i (0+3)) (vx (l1 dU ((mm p) 3 _ rfl)) (vx (ln 3 dU x.m) (va (B (decide (b.2 < (g.Bytes.length:Int)))) (wln (cn H (fun f2 H=>?_) (fun f2 H=>?_)))))))))
   ·refine W.skip (nrm (W.seq (W.block (sr (va (.string (⟨#[48,49,50,51,52,53,54,55,56,57,97,98,99,100,101,102]⟩:ByteArray)) (wln (W.seq (rD [] (Kp G0 []) i0 ?_))))))));intro z1 y0 t1;have j4:Kp G0 [] z1:=Kp.nil0;refine ta 0 (.pointer (some ⟨i,0+3,none⟩)) (tx 1 (fun o h=>l1 dU ((mm p) 3 _ rfl)) (ta 2 (I b.2) (bn H fun q u0 H=>?_)));obtain ⟨t3,g2,f3⟩:=Sl.at (x.mono (l9.trans (x0.trans y0))) (bS u0);obtain rfl:=g2;refine tx 3 (fun o h=>ix dU x.m u0) (tx 4 (fun o h=>l1 u_5 ((mm f3) 0 _ rfl)) (ta 5 (.int .u8 (IntKind.u8.wrap (q.tdiv 16))) (ta 6 (Qo i (0+3)) (tx 7 (fun o h=>l1 dU ((mm p) 3 _ rfl)) (ta 8 (I b.2) (bn H fun s v0 H=>?_))))));obtain ⟨u3,i2,g3⟩:=Sl.at (x.mono (l9.trans (x0.trans y0))) (bS v0);obtain rfl:=i2;refine tx 9 (fun o h=>ix dU x.m v0) (tx 10 (fun o h=>l1 u_5 ((mm g3) 0 _ rfl)) (ta 11 (.int .u8 (s.tmod 16)) (ta 12 (.int .u8 (IntKind.u8.wrap (q.tdiv 16))) (ta 13 (.int .u8 (s.tmod 16)) (dn (nrm (rD [] (Kp G0 []) t1 ?_)))))));intro l0 c4 u1;have k4:Kp G0 [] l0:=Kp.nil0;refine ta 0 (.string b.1) (ta 1 (.string (⟨#[48,49,50,51,52,53,54,55,56,57,97,98,99,100,101,102]⟩:ByteArray)) (ta 2 (.int .u8 (IntKind.u8.wrap (q.tdiv 16))) (ta 3 (.int .u8 (IntKind.u8.wrap (q.tdiv 16))) (ta 4 (.int .u8 (IntKind.u8.wrap ((IntKind.u8.wrap (q.tdiv 16))+1))) (bn H fun k1 j2 H=>AC.take 5 (.string k1) rfl (by kernel_rfl) (by kernel_rfl) (fun o h=>(rx (by kernel_rfl) (cL (k:= .i64) (k':= .i64) u_9 j2 _))) (bn H fun m1 k2 H=>AC.take 6 (.string m1) rfl (by kernel_rfl) (by kernel_rfl) (fun o h=>(rx (by kernel_rfl) (ay k2 _))) (ta 7 (.string (⟨#[48,49,50,51,52,53,54,55,56,57,97,98,99,100,101,102]⟩:ByteArray)) (ta 8 (.int .u8 (s.tmod 16)) (ta 9 (.int .u8 (s.tmod 16)) (ta 10 (.int .u8 (IntKind.u8.wrap ((s.tmod 16)+1))) (bn H fun n1 l2 H=>AC.take 11 (.string n1) rfl (by kernel_rfl) (by kernel_rfl) (fun o h=>(rx (by kernel_rfl) (cL (k:= .i64) (k':= .i64) u_9 l2 _))) (bn H fun X m2 H=>AC.take 12 (.string X) rfl (by kernel_rfl) (by kernel_rfl) (fun o h=>(rx (by kernel_rfl) (ay m2 _))) (ta 13 (.string X) (dn (bkn (nrm (W.region (va (I b.2) (vv (I (w64 (b.2+1))) (WL.nil ?_))))))))))))))))))));obtain rfl:=si H;exact ⟨_,rfl,jn l0 ⟨u1,rfl⟩⟩
   refine W.exit (thx ?_);obtain rfl:=si H;exact ⟨_,rfl,rfl,jn y1 ⟨i0,rfl⟩⟩
  ·exact jn P ⟨O7,rfl⟩
  rintro _ e_ w_ ⟨rfl,m0,y3,_,rfl,d4,rfl,j0,rfl⟩;refine bke (nrm (W.seq (sr (va (Qo i (0+3)) (vx (l1 dU ((mm p) 3 _ rfl)) (vx (ln 3 dU x.m) (va (B ((g.Bytes.length:Int)==0)) (wln (cn n (fun n2 n=>?_) (fun n2 n=>?_))))))))))
  ·refine sr (va (.string y) (bn n fun Z o2 n=>vr (.string Z) (rx (by kernel_rfl) (ay o2 _)) (va (.string Z) (wln (W.ret (thr (thr ?_)))))));obtain rfl:=si n;exact r1 (qq m0 ⟨j0,rfl⟩)
  refine W.skip (nrm (sr (vv (.string y) (wln (W.ret (thr ?_))))));obtain rfl:=si n;exact r1 (qq m0 ⟨j0,rfl⟩)
 refine W.skip (nrm (W.seq (W.seq (bn H fun h1 w0 H=>W.join (Jn P fun c l=>Own c G (F)∧l= [(1,Q i),(59,B h1)]) ?_ ?_))))
 ·clear H;refine W.region (va (Q i) (vx (l1 u_3 (p 0 _ rfl)) (va (B (g.Kind==12)) ?_)));rcases bo (g.Kind==12) with u | u
  ·have p1:=anT u w0;refine vb u (wa (Qo i (0+1)) (wn (vx (l1 u_3 (p 1 _ rfl)) (wa (B (g.A==1)) ?_))));obtain rfl:=si p1;exact va (B (g.A==1)) (wln (jn P ⟨O7,rfl⟩))
  obtain rfl:=anF u w0;exact vb u (pz (ps (va (B false) (wln (jn P ⟨O7,rfl⟩)))))
 rintro e_ w_ ⟨o0,z3,_,rfl,e4,rfl,R,rfl⟩;refine nrm (cn H (fun p2 H=>?_) (fun p2 H=>?_))
 ·refine sr (va (.string (⟨#[119,114,97,112,32,111,110]⟩:ByteArray)) (wln (W.ret (thr ?_))));obtain rfl:=si H;exact r1 (qq o0 ⟨R,rfl⟩)
 refine W.skip (nrm (W.seq (sr (va (Q i) (vx (l1 u_3 ((mm p) 0 _ rfl)) (va (B (g.Kind==12)) (wln (cn H (fun q2 H=>?_) (fun q2 H=>?_)))))))))
 ·refine sr (va (.string (⟨#[119,114,97,112,32,111,102,102]⟩:ByteArray)) (wln (W.ret (thr ?_))));obtain rfl:=si H;exact r1 (qq o0 ⟨R,rfl⟩)
 refine W.skip (nrm (W.seq (rD [0,4] (Kp G0 []) R ?_)));intro b2 f4 w1;have l4:Kp G0 [] b2:=Kp.nil0;refine ta 1 (Q i) (tx 2 (fun o h=>l1 u_3 ((mm p) 0 _ rfl)) (bn H fun a0 s2 H=>o1 0 (gc 0 (fU w1 s2) ?_)));rintro a1 q0 g4 ⟨_,z0,S,rfl,T⟩;refine ⟨.inl rfl,bn H fun a U H=>tx 3 (fun o h=>ixO fv T U) ?_⟩;obtain ⟨v3,t2,h3⟩:=OA.at T U;obtain rfl:=t2;refine o1 4 (Go1.late 4 (.string a) rfl (by kernel_rfl) (by kernel_rfl) (rx (by kernel_rfl) (pE u_9 rfl (S.on 0 rfl) (T.blk U) (at1 (j:=0) h3 rfl))) (by kernel_rfl) (ta 5 (.string a) (dn (nrm (sr (vv (.string a) (vr (I (aR a)) (rx (by kernel_rfl) (cE (ty:=3) u_9 _)) (va (I (w64 ((aR a) - 2))) (bn H fun z u2 H=>vr (.string z) (rx (by kernel_rfl) (mz (k':= .i64) u_9 u2 _)) (va (.string z) (wln (bn H fun b0 d q1=>W.seqJ (Jn q0 fun c l=>Own c G (es true RS a1 9 z0 a0 :: F)∧l= [(1,Q i),(8,.string a),(9,.string b0)]) ?_ ?_))))))))))))
 ·refine sr (vv (.string a) (vr (I (aR a)) (rx (by kernel_rfl) (cE (ty:=3) u_9 _)) (va (I (w64 ((aR a) - 1))) (bn d fun D v2 d=>vr (.int .u8 D) (rx (by kernel_rfl) (cP (k:= .i64) u_9 v2 _)) (va (B (decide (D > 48))) (wln (cn d (fun w2 d=>?_) (fun w2 d=>?_))))))))
  ·refine W.region (va (.string z) (bn d fun g0 x2 d=>vr (.string g0) (rx (by kernel_rfl) (ay x2 _)) (va (Qo i (0+1)) (vx (l1 u_3 ((mm p) 1 _ rfl)) (bn d fun j3 y2 d=>cl (cW S g.A y2) ?_)))));rintro m4 c2 h4 ⟨x1,rfl⟩;refine bn d fun E z2 d=>vr (.string E) (rx (by kernel_rfl) (ay z2 _)) (va (.string E) (wln ?_));obtain rfl:=si d;exact jn c2 ⟨x1,rfl⟩
  refine W.skip (nrm ?_);obtain rfl:=si d;exact jn q0 ⟨S,rfl⟩
 rintro e_ w_ ⟨s0,b4,_,rfl,i4,rfl,k0,rfl⟩;refine bn q1 fun t f s1=>W.seqJ (Jn s0 fun c l=>Own c G (es true RS a1 9 z0 a0 :: F)∧l= [(9,.string t)]) ?_ ?_
 ·refine sr (vv (.string a) (vr (I (aR a)) (rx (by kernel_rfl) (cE (ty:=3) u_9 _)) (va (I (w64 ((aR a) - 1))) (bn f fun M b3 f=>vr (.int .u8 M) (rx (by kernel_rfl) (cP (k:= .i64) u_9 b3 _)) (va (B (decide (M > 49))) (wln (cn f (fun c3 f=>?_) (fun c3 f=>?_))))))))
  ·refine W.region (va (.string b0) (bn f fun h0 d3 f=>vr (.string h0) (rx (by kernel_rfl) (ay d3 _)) (va (Qo i (0+2)) (vx (l1 u_3 ((mm p) 2 _ rfl)) (bn f fun k3 i1 f=>cl (cW k0 g.B i1) ?_)))));rintro w3 f1 q3 ⟨b1,rfl⟩;refine bn f fun N j1 f=>vr (.string N) (rx (by kernel_rfl) (ay j1 _)) (va (.string N) (wln ?_));obtain rfl:=si f;exact jn f1 ⟨b1,rfl⟩
  refine W.skip (nrm ?_);obtain rfl:=si f;exact jn s0 ⟨k0,rfl⟩
 rintro e_ w_ ⟨g1,p3,_,rfl,s3,rfl,c1,rfl⟩;refine sr (vv (.string t) (wln (W.ret ?_)));obtain rfl:=si s1;have d1:=c1.sD 1 [];exact r1 (qq g1 ⟨d1,rfl⟩)
def bM (p0:Int) (p1:Int) (p2:List aj):Option (ByteArray):=
 (bk p0).bind fun h=>
 (cx (⟨#[115,105,122,101,32]⟩:ByteArray) h).bind fun i=>
 (cx i (⟨#[32]⟩:ByteArray)).bind fun j=>
 (bk p1).bind fun k=>
 (cx j k).bind fun l=>
 (cx l (⟨#[10]⟩:ByteArray)).bind fun c=>
 (cT (σ:=ByteArray×Int) (τ:=ByteArray) (((p2.length:Int) - 0).toNat+1) (fun a=>
 if (decide (a.2 < (p2.length:Int)))=true then
 (idx p2 a.2).bind fun d=>
 (aL d).bind fun e=>
 (cx a.1 e).bind fun f=>
 (cx f (⟨#[10]⟩:ByteArray)).bind fun g=>
 some (.inl (g,(w64 (a.2+1))))
 else
 some (.inr (a.1))) (c,0)).bind fun b=>
 some b
theorem eL (O0:Own c0 G F) (i:Int) (j:Int) (s:List aj) {r:ByteArray} (q:Sl bq c0 v1 s) (H:bM i j s=some r): Calls prog 15 #[I i,I j,v1] c0.w (bG c0 fun c v=>Own c G (F)∧v= .string r):=by
 unfold bM at H;refine en func15 rfl rfl (sr (va (.string (⟨#[]⟩:ByteArray)) (wln (sr (va (I i) (bn H fun a1 h3 H=>cl (cW O0 i h3) ?_))))));rintro v9 c8 l8 ⟨O5,rfl⟩;refine bn H fun i0 N H=>vr (.string i0) (rx (by kernel_rfl) (ay N _)) (bn H fun j0 P H=>vr (.string j0) (rx (by kernel_rfl) (ay P _)) (va (I j) (bn H fun b1 R H=>cl (cW O5 j R) ?_)));rintro v18 b e0 ⟨x,rfl⟩;refine bn H fun k0 S H=>vr (.string k0) (rx (by kernel_rfl) (ay S _)) (bn H fun f T H=>vr (.string f) (rx (by kernel_rfl) (ay T _)) (va (.string f) (wln (W.seq (sr (va (I 0) (wln (W.block (bn H fun d o k=>lp o (fun a=>Jn b fun c l=>Own c G (F)∧l= [(2,v1),(7,.string a.1),(8,I a.2)]) (fun h ex e w=>ex= .exit 0∧(Jn b fun c l=>Own c G (F)∧l= [(7,.string h)]) e w) ?_ ?_ ?_)))))))))
 ·clear k o;intro a c1 M h0 H;revert M h0;rintro e_ w_ ⟨A,w0,_,rfl,f0,rfl,n,rfl⟩;refine W.seq (sr (va (I a.2) (va (v1) (vx (ln 3 eg q.m) (va (B (decide (a.2 < (s.length:Int)))) (wln (cn H (fun U H=>?_) (fun U H=>?_))))))))
  ·refine W.skip (nrm (W.seq (W.block (W.region (va (.string a.1) (va (v1) (va (I a.2) (bn H fun t p H=>?_))))))));obtain ⟨t0,X,g0⟩:=Sl.at (q.mono (l8.trans (e0.trans f0))) (bS p);obtain ⟨v34,rfl,Z⟩:=X;refine vx (ix eg q.m p) (vx (lN 38 g0) (bn H fun v0 a0 H=>cl (cN n t Z a0) ?_));rintro v42 D y0 ⟨y,rfl⟩;refine bn H fun u b0 H=>vr (.string u) (rx (by kernel_rfl) (ay b0 _)) (bn H fun g d0 H=>vr (.string g) (rx (by kernel_rfl) (ay d0 _)) (va (.string g) (WL.nil (bkn (nrm (W.region (va (I a.2) (vv (I (w64 (a.2+1))) (WL.nil ?_)))))))));obtain rfl:=si H;exact ⟨_,rfl,jn D ⟨y,rfl⟩⟩
  refine W.exit (thx ?_);obtain rfl:=si H;exact ⟨_,rfl,rfl,jn A ⟨n,rfl⟩⟩
 ·exact jn b ⟨x,rfl⟩
 rintro _ e_ w_ ⟨rfl,E,x0,_,rfl,z0,rfl,z,rfl⟩;refine bke (nrm (sr (vv (.string d) (wln (W.ret ?_)))));obtain rfl:=si k;exact r1 (qq E ⟨z,rfl⟩)
def aV (p0:Int):Option (Bool):=
 (bW (decide (p0≤999999999)) (some (decide (p0≥(-999999999))))).bind fun a=>
 some a
theorem bN (d:Own c0 G F) (a:Int) {r:Bool} (H:aV a=some r): Calls prog 35 #[I a] c0.w (bG c0 fun c v=>Own c G (F)∧v=B r):=by
 unfold aV at H;refine en func35 rfl rfl (sr (va (B false) (wln (W.seq (bn H fun e f H=>W.join (Jn c0 fun c l=>Own c G (F)∧l= [(2,B e)]) ?_ ?_)))))
 ·clear H;refine W.region (va (I a) (va (B (decide (a≤999999999))) ?_));rcases bo (decide (a≤999999999)) with b | b
  ·have g:=anT b f;refine vb b (wa (I a) (wa (B (decide (a≥(-999999999)))) ?_));obtain rfl:=si g;exact vv (B (decide (a≥(-999999999)))) (wln (jn c0 ⟨d,rfl⟩))
  obtain rfl:=anF b f;exact vb b (pz (vv (B false) (wln (jn c0 ⟨d,rfl⟩))))
 rintro j n ⟨i,k,_,rfl,m,rfl,h,rfl⟩;refine nrm (W.ret ?_);obtain rfl:=si H;exact r1 (qq i ⟨h,rfl⟩)
def aB (p0:aj):Option (Bool):=
 (orE (decide (p0.Kind < 0)) (some (decide (p0.Kind > 13)))).bind fun m=>
 (orE m ((bW (p0.Kind != 0) (some (decide ((p0.Bytes.length:Int) > 0)))).bind fun b=>
 some b)).bind fun a=>
 (orE a ((aV p0.A).bind fun k=>
 some (!k))).bind fun c=>
 (orE c ((aV p0.B).bind fun l=>
 some (!l))).bind fun d=>
 if d=true then
 some false
 else
 (orE (p0.Kind==0) (some (p0.Kind==1))).bind fun e=>
 if e=true then
 (bW (p0.A==0) (some (p0.B==0))).bind fun f=>
 some f
 else
 (orE (p0.Kind==2) (some (p0.Kind==13))).bind fun g=>
 if g=true then
 some true
 else
 (bW (p0.B==0) ((orE (p0.Kind != 12) (some (p0.A==0))).bind fun i=>
 (orE i (some (p0.A==1))).bind fun j=>
 some j)).bind fun h=>
 some h
theorem cu (O0:Own c0 G F) (a:aj) {r:Bool} (h2:Sl (RI .u8) c0 v1 a.Bytes) (H:aB a=some r): Calls prog 18 #[.agg #[I a.Kind,I a.A,I a.B,v1]] c0.w (bG c0 fun c v=>Own c G (F)∧v=B r):=by
 unfold aB at H;refine en func18 rfl rfl (sr ?_);obtain ⟨a3,a4,a5,rfl⟩:=(h2).form;refine me (bx 38 [I a.Kind,I a.A,I a.B,.slice a3 a4 a5] O0) ?_;rintro v10 c9 l9 ⟨b,rfl,O7,e⟩;refine va (B false) (wln (W.seq (W.seq (bn H fun y2 m0 H=>bn H fun s2 g0 H=>bn H fun u2 q H=>bn H fun f1 j H=>W.join (Jn c9 fun c l=>Own c G (F)∧l= [(1,Q b),(33,B f1)]) ?_ ?_))))
 ·clear H;refine W.region (va (Q b) (vx (l1 u_3 (e 0 _ rfl)) (va (B (decide (a.Kind < 0))) ?_)));rcases bo (decide (a.Kind < 0)) with s | s
  ·obtain rfl:=orT s m0;refine vb s (pz (ps (va (B true) ?_)));have o0:true=true:=rfl;obtain rfl:=orT o0 g0;refine vb o0 (pz (pz (pz (pz (ps (va (B true) ?_))))));have q0:true=true:=rfl;obtain rfl:=orT q0 q;refine vb q0 (pz (pz (va (B true) ?_)));have s0:true=true:=rfl;obtain rfl:=orT s0 j;exact vb s0 (pz (pz (va (B true) (wln (jn c9 ⟨O7,rfl⟩)))))
  have n1:=orF s m0;refine vb s (wa (Q b) (wn (vx (l1 u_3 (e 0 _ rfl)) (wa (B (decide (a.Kind > 13))) ?_))));obtain rfl:=si n1;refine va (B (decide (a.Kind > 13))) ?_;rcases bo (decide (a.Kind > 13)) with t | t
  ·obtain rfl:=orT t g0;refine vb t (pz (pz (pz (pz (ps (va (B true) ?_))))));have t0:true=true:=rfl;obtain rfl:=orT t0 q;refine vb t0 (pz (pz (va (B true) ?_)));have u0:true=true:=rfl;obtain rfl:=orT u0 j;exact vb u0 (pz (pz (va (B true) (wln (jn c9 ⟨O7,rfl⟩)))))
  have N:=orF t g0;refine vb t (wa (Q b) (wn (vx (l1 u_3 (e 0 _ rfl)) (wa (B (a.Kind != 0)) (wn (bn N fun t2 v0 N=>?_))))));rcases bo (a.Kind != 0) with u | u
  ·have p1:=anT u v0;refine vb u (wa (Qo b (0+3)) (wn (vx (l1 dU (e 3 _ rfl)) (wn (vx (ln 3 dU h2.m) (wa (B (decide ((a.Bytes.length:Int) > 0))) (wn ?_)))))));obtain rfl:=si p1;refine va (B (decide ((a.Bytes.length:Int) > 0))) ?_;obtain rfl:=si N;refine va (B (decide ((a.Bytes.length:Int) > 0))) ?_;rcases bo (decide ((a.Bytes.length:Int) > 0)) with x | x
   ·obtain rfl:=orT x q;refine vb x (pz (pz (va (B true) ?_)));have w0:true=true:=rfl;obtain rfl:=orT w0 j;exact vb w0 (pz (pz (va (B true) (wln (jn c9 ⟨O7,rfl⟩)))))
   have S:=orF x q;refine vb x (wa (Qo b (0+1)) (wn (vx (l1 u_3 (e 1 _ rfl)) (wn (bn S fun f f2 S=>cl (bN O7 a.A f2) ?_)))));rintro v36 y1 e3 ⟨k0,rfl⟩;refine wa (B (!f)) ?_;obtain rfl:=si S;refine va (B (!f)) ?_;rcases bo (!f) with y | y
   ·obtain rfl:=orT y j;exact vb y (pz (pz (va (B true) (wln (jn y1 ⟨k0,rfl⟩)))))
   have T:=orF y j;refine vb y (wa (Qo b (0+2)) (wn (vx (l1 u_3 ((mm e) 2 _ rfl)) (wn (bn T fun k g2 T=>cl (bN k0 a.B g2) ?_)))));rintro v45 z1 f3 ⟨u1,rfl⟩;refine wa (B (!k)) ?_;obtain rfl:=si T;exact va (B (!k)) (wln (jn z1 ⟨u1,rfl⟩))
  obtain rfl:=anF u v0;refine vb u (pz (pz (wa (B false) ?_)));obtain rfl:=si N;refine va (B false) ?_;have x0:false=false:=rfl;have U:=orF x0 q;refine vb x0 (wa (Qo b (0+1)) (wn (vx (l1 u_3 (e 1 _ rfl)) (wn (bn U fun f i2 U=>cl (bN O7 a.A i2) ?_)))));rintro v54 b2 g3 ⟨l0,rfl⟩;refine wa (B (!f)) ?_;obtain rfl:=si U;refine va (B (!f)) ?_;rcases bo (!f) with z | z
  ·obtain rfl:=orT z j;exact vb z (pz (pz (va (B true) (wln (jn b2 ⟨l0,rfl⟩)))))
  have X:=orF z j;refine vb z (wa (Qo b (0+2)) (wn (vx (l1 u_3 ((mm e) 2 _ rfl)) (wn (bn X fun k j2 X=>cl (bN l0 a.B j2) ?_)))));rintro m3 c2 h3 ⟨w1,rfl⟩;refine wa (B (!k)) ?_;obtain rfl:=si X;exact va (B (!k)) (wln (jn c2 ⟨w1,rfl⟩))
 rintro e_ w_ ⟨R,z2,_,rfl,i3,rfl,Z,rfl⟩;refine nrm (cn H (fun k2 H=>?_) (fun k2 H=>?_))
 ·refine sr (va (B false) (wln (W.ret (thr ?_))));obtain rfl:=si H;exact r1 (qq R ⟨Z,rfl⟩)
 refine W.skip (nrm (W.seq (W.seq (bn H fun g1 y0 H=>W.join (Jn R fun c l=>Own c G (F)∧l= [(1,Q b),(41,B g1)]) ?_ ?_))))
 ·clear H;refine W.region (va (Q b) (vx (l1 u_3 ((mm e) 0 _ rfl)) (va (B (a.Kind==0)) ?_)));rcases bo (a.Kind==0) with D | D
  ·obtain rfl:=orT D y0;exact vb D (pz (ps (va (B true) (wln (jn R ⟨Z,rfl⟩)))))
  have q1:=orF D y0;refine vb D (wa (Q b) (wn (vx (l1 u_3 ((mm e) 0 _ rfl)) (wa (B (a.Kind==1)) ?_))));obtain rfl:=si q1;exact va (B (a.Kind==1)) (wln (jn R ⟨Z,rfl⟩))
 rintro e_ w_ ⟨n,b3,_,rfl,j3,rfl,P,rfl⟩;refine nrm (cn H (fun l2 H=>?_) (fun l2 H=>?_))
 ·refine W.seq (bn H fun h1 z0 H=>W.join (Jn n fun c l=>Own c G (F)∧l= [(2,B h1)]) ?_ ?_)
  ·clear H;refine W.region (va (Qo b (0+1)) (vx (l1 u_3 ((mm e) 1 _ rfl)) (va (B (a.A==0)) ?_)));rcases bo (a.A==0) with E | E
   ·have s1:=anT E z0;refine vb E (wa (Qo b (0+2)) (wn (vx (l1 u_3 ((mm e) 2 _ rfl)) (wa (B (a.B==0)) ?_))));obtain rfl:=si s1;exact vv (B (a.B==0)) (wln (jn n ⟨P,rfl⟩))
   obtain rfl:=anF E z0;exact vb E (pz (ps (vv (B false) (wln (jn n ⟨P,rfl⟩)))))
  rintro e_ w_ ⟨d2,c3,_,rfl,k3,rfl,x1,rfl⟩;refine nrm (W.ret (thr ?_));obtain rfl:=si H;exact r1 (qq d2 ⟨x1,rfl⟩)
 refine W.skip (nrm (W.seq (W.seq (bn H fun i1 a1 H=>W.join (Jn n fun c l=>Own c G (F)∧l= [(1,Q b),(57,B i1)]) ?_ ?_))))
 ·clear H;refine W.region (va (Q b) (vx (l1 u_3 ((mm e) 0 _ rfl)) (va (B (a.Kind==2)) ?_)));rcases bo (a.Kind==2) with M | M
  ·obtain rfl:=orT M a1;exact vb M (pz (ps (va (B true) (wln (jn n ⟨P,rfl⟩)))))
  have t1:=orF M a1;refine vb M (wa (Q b) (wn (vx (l1 u_3 ((mm e) 0 _ rfl)) (wa (B (a.Kind==13)) ?_))));obtain rfl:=si t1;exact va (B (a.Kind==13)) (wln (jn n ⟨P,rfl⟩))
 rintro e_ w_ ⟨o,d3,_,rfl,l3,rfl,p,rfl⟩;refine nrm (cn H (fun m2 H=>?_) (fun m2 H=>?_))
 ·refine sr (va (B true) (wln (W.ret (thr ?_))));obtain rfl:=si H;exact r1 (qq o ⟨p,rfl⟩)
 refine W.skip (nrm (W.seq (bn H fun j1 b0 H=>W.join (Jn o fun c l=>Own c G (F)∧l= [(2,B j1)]) ?_ ?_)))
 ·clear H;refine W.region (va (Qo b (0+2)) (vx (l1 u_3 ((mm e) 2 _ rfl)) (va (B (a.B==0)) ?_)));rcases bo (a.B==0) with g | g
  ·have d:=anT g b0;refine vb g (wa (Q b) (wn (vx (l1 u_3 ((mm e) 0 _ rfl)) (wa (B (a.Kind != 12)) (wn (bn d fun v2 d0 d=>?_))))));rcases bo (a.Kind != 12) with h | h
   ·obtain rfl:=orT h d0;refine vb h (pz (ps (wa (B true) (wn (bn d fun k1 m1 d=>?_)))));have e0:true=true:=rfl;obtain rfl:=orT e0 m1;refine vb e0 (pz (ps (wa (B true) ?_)));obtain rfl:=si d;exact vv (B true) (wln (jn o ⟨p,rfl⟩))
   have b1:=orF h d0;refine vb h (wa (Qo b (0+1)) (wn (vx (l1 u_3 ((mm e) 1 _ rfl)) (wa (B (a.A==0)) (wn ?_)))));obtain rfl:=si b1;refine va (B (a.A==0)) (wn (bn d fun k1 f0 d=>?_));rcases bo (a.A==0) with i | i
   ·obtain rfl:=orT i f0;refine vb i (pz (ps (wa (B true) ?_)));obtain rfl:=si d;exact vv (B true) (wln (jn o ⟨p,rfl⟩))
   have c1:=orF i f0;refine vb i (wa (Qo b (0+1)) (wn (vx (l1 u_3 ((mm e) 1 _ rfl)) (wa (B (a.A==1)) (wn ?_)))));obtain rfl:=si c1;refine va (B (a.A==1)) ?_;obtain rfl:=si d;exact vv (B (a.A==1)) (wln (jn o ⟨p,rfl⟩))
  obtain rfl:=anF g b0;exact vb g (pz (pz (pz (pz (pz (pz (ps (vv (B false) (wln (jn o ⟨p,rfl⟩))))))))))
 rintro e_ w_ ⟨e1,w2,_,rfl,x2,rfl,d1,rfl⟩;refine nrm (W.ret ?_);obtain rfl:=si H;exact r1 (qq e1 ⟨d1,rfl⟩)
def bZ (p0:Int) (p1:Int) (p2:List aj):Option (Bool):=
 (cT (σ:=Int) (τ:=Bool ⊕ Unit) (((p2.length:Int) - 0).toNat+1) (fun b=>
 if (decide (b < (p2.length:Int)))=true then
 (idx p2 b).bind fun d=>
 (aB d).bind fun e=>
 if (!e)=true then
 some (.inr (.inl false))
 else
 some (.inl ((w64 (b+1))))
 else
 some (.inr (.inr ()))) (0)).bind fun a=>
 match a with
 | .inl a=>
 some a
 | .inr a=>
 (aV p0).bind fun f=>
 (bW f ((aV p1).bind fun g=>
 some g)).bind fun c=>
 some c
theorem fV (O0:Own c0 G F) (f:Int) (g:Int) (y:List aj) {r:Bool} (x:Sl bq c0 v1 y) (H:bZ f g y=some r): Calls prog 12 #[I f,I g,v1] c0.w (bG c0 fun c v=>Own c G (F)∧v=B r):=by
 unfold bZ at H;refine en func12 rfl rfl (sr (va (B false) (wln (W.seq (sr (va (I 0) (wln (W.block (bn H fun i h3 b=>lp h3 (fun a=>Jn c0 fun c l=>Own c G (F)∧l= [(0,I f),(1,I g),(2,v1),(7,I a)]) (fun t=>match t with | .inl A=>(fun q0 ex e w=>ex= .ret∧(Jn c0 fun c l=>Own c G (F)∧l= [(6,B q0)]) e w) A | .inr A=>(fun x0 ex e w=>ex= .exit 0∧(Jn c0 fun c l=>Own c G (F)∧l= [(0,I f),(1,I g)]) e w) A) ?_ ?_ ?_)))))))))
 ·clear b h3;intro a h1 d0 s0 H;revert d0 s0;rintro u z ⟨c5,g6,_,rfl,l5,rfl,T,rfl⟩;refine W.seq (sr (va (I a) (va (v1) (vx (ln 3 eg x.m) (va (B (decide (a < (y.length:Int)))) (wln (cn H (fun f0 H=>?_) (fun f0 H=>?_))))))))
  ·refine W.skip (nrm (W.seq (W.block (sr (va (v1) (va (I a) (bn H fun D p H=>?_)))))));obtain ⟨w0,g0,o0⟩:=Sl.at (x.mono l5) (bS p);obtain ⟨v16,rfl,h0⟩:=g0;refine vx (ix eg x.m p) (vx (lN 38 o0) (bn H fun E i0 H=>cl (cu T D h0 i0) ?_));rintro v24 o b1 ⟨k,rfl⟩;refine va (B (!E)) (wln (cn H (fun j0 H=>?_) (fun j0 H=>?_)))
   ·refine sr (va (B false) (wln (W.ret (bkr (thr ?_)))));obtain rfl:=si H;exact ⟨_,rfl,⟨rfl,jn o ⟨k,rfl⟩⟩⟩
   refine W.skip (bkn (nrm (W.region (va (I a) (vv (I (w64 (a+1))) (WL.nil ?_))))));obtain rfl:=si H;exact ⟨_,rfl,jn o ⟨k,rfl⟩⟩
  refine W.exit (thx ?_);obtain rfl:=si H;exact ⟨_,rfl,rfl,jn c5 ⟨T,rfl⟩⟩
 ·exact jn c0 ⟨O0,rfl⟩
 rcases i with i | i
 ·intro e0; revert e0;rintro _ u z ⟨rfl,U,y0,_,rfl,c1,rfl,N,rfl⟩;refine bkr (thr ?_);obtain rfl:=si b;exact r1 (qq U ⟨N,rfl⟩)
 rintro _ u z ⟨rfl,X,z0,_,rfl,d1,rfl,P,rfl⟩;refine bke (nrm (W.seq (bn b fun M l0 b=>bn b fun s q b=>W.join (Jn X fun c l=>Own c G (F)∧l= [(6,B s)]) ?_ ?_)))
 ·clear b;refine W.region (va (I f) (cl (bN P f l0) ?_));rintro v45 Z e1 ⟨n,rfl⟩;rcases bo (M) with d | d
  ·have h:=anT d q;refine vb d (wa (I g) (wn (bn h fun j m0 h=>cl (bN n g m0) ?_)));rintro v54 a0 f1 ⟨R,rfl⟩;obtain rfl:=si h;exact vv (B j) (wln (jn a0 ⟨R,rfl⟩))
  obtain rfl:=anF d q;exact vb d (pz (vv (B false) (wln (jn Z ⟨n,rfl⟩))))
 rintro u z ⟨b0,a1,_,rfl,g1,rfl,S,rfl⟩;refine nrm (W.ret ?_);obtain rfl:=si b;exact r1 (qq b0 ⟨S,rfl⟩)
def aK (p0:aj) (p1:aj):Option (Bool):=
 (bW (p0.Kind==p1.Kind) (some (p0.A==p1.A))).bind fun a=>
 (bW a (some (p0.B==p1.B))).bind fun b=>
 (bW b (some (eqS (fc p0.Bytes) (fc p1.Bytes)))).bind fun c=>
 some c
theorem cM (X:Own c0 G F) (a:aj) (b:aj) {r:Bool} (S:Sl (RI .u8) c0 v1 a.Bytes) (T:Sl (RI .u8) c0 v3 b.Bytes) (H:aK a b=some r): Calls prog 16 #[.agg #[I a.Kind,I a.A,I a.B,v1],.agg #[I b.Kind,I b.A,I b.B,v3]] c0.w (bG c0 fun c v=>Own c G (F)∧v=B r):=by
 unfold aK at H;refine en func16 rfl rfl (sr ?_);obtain ⟨a5,a6,a7,rfl⟩:=(S).form;refine me (bx 38 [I a.Kind,I a.A,I a.B,.slice a5 a6 a7] X) ?_;rintro v12 g0 U ⟨p,rfl,Z,k⟩;obtain ⟨M,N,P,rfl⟩:=((T.mono U)).form;refine me (bx 38 [I b.Kind,I b.A,I b.B,.slice M N P] Z) ?_;rintro v20 d i0 ⟨i,rfl,h,n⟩;refine va (B false) (wln (W.seq (bn H fun e0 q H=>bn H fun f0 o H=>bn H fun x j H=>W.join (Jn d fun c l=>Own c G (F)∧l= [(4,B x)]) ?_ ?_)))
 ·clear H;refine W.region (va (Q p) (vx (l1 u_3 ((mm k) 0 _ rfl)) (va (Q i) (vx (l1 u_3 (n 0 _ rfl)) (va (B (a.Kind==b.Kind)) ?_)))));rcases bo (a.Kind==b.Kind) with e | e
  ·have y:=anT e q;refine vb e (wa (Qo p (0+1)) (wn (vx (l1 u_3 ((mm k) 1 _ rfl)) (wa (Qo i (0+1)) (wn (vx (l1 u_3 (n 1 _ rfl)) (wa (B (a.A==b.A)) ?_)))))));obtain rfl:=si y;refine va (B (a.A==b.A)) ?_;rcases bo (a.A==b.A) with f | f
   ·have z:=anT f o;refine vb f (wa (Qo p (0+2)) (wn (vx (l1 u_3 ((mm k) 2 _ rfl)) (wa (Qo i (0+2)) (wn (vx (l1 u_3 (n 2 _ rfl)) (wa (B (a.B==b.B)) ?_)))))));obtain rfl:=si z;refine va (B (a.B==b.B)) ?_;rcases bo (a.B==b.B) with g | g
    ·have D:=anT g j;refine vb g (wa (Qo p (0+3)) (wn (vx (l1 dU ((mm k) 3 _ rfl)) (wn (vr (.string (fc a.Bytes)) (rx (by kernel_rfl) (gR dU u_5 u_9 S.m)) (wa (Qo i (0+3)) (wn (vx (l1 dU (n 3 _ rfl)) (wn (vr (.string (fc b.Bytes)) (rx (by kernel_rfl) (gR dU u_5 u_9 T.m)) (wn (vr (B (eqS (fc a.Bytes) (fc b.Bytes))) (ed (by kernel_rfl)) ?_))))))))))));obtain rfl:=si D;exact vv (B (eqS (fc a.Bytes) (fc b.Bytes))) (wln (jn d ⟨h,rfl⟩))
    obtain rfl:=anF g j;exact vb g (pz (pz (pz (ps (vv (B false) (wln (jn d ⟨h,rfl⟩)))))))
   obtain rfl:=anF f o;refine vb f (pz (pz (ps (va (B false) ?_))));have s:false=false:=rfl;obtain rfl:=anF s j;exact vb s (pz (pz (pz (ps (vv (B false) (wln (jn d ⟨h,rfl⟩)))))))
  obtain rfl:=anF e q;refine vb e (pz (pz (ps (va (B false) ?_))));have t:false=false:=rfl;obtain rfl:=anF t o;refine vb t (pz (pz (ps (va (B false) ?_))));have u:false=false:=rfl;obtain rfl:=anF u j;exact vb u (pz (pz (pz (ps (vv (B false) (wln (jn d ⟨h,rfl⟩)))))))
 rintro e_ w_ ⟨R,h0,_,rfl,j0,rfl,E,rfl⟩;refine nrm (W.ret ?_);obtain rfl:=si H;exact r1 (qq R ⟨E,rfl⟩)
def aH:Option (Bool):=
 (aC (⟨#[102,101,101,100,32,54,49,101,52]⟩:ByteArray)).bind fun b=>
 (aC (⟨#[109,111,118,101,32,48,32,45,51]⟩:ByteArray)).bind fun a=>
 (bW b.2.isNil (some (eqS (fc b.1.Bytes) (⟨#[97,228]⟩:ByteArray)))).bind fun c=>
 (bW c (some a.2.isNil)).bind fun d=>
 (bW d (some (a.1.Kind==2))).bind fun e=>
 (bW e (some (a.1.B==(-3)))).bind fun f=>
 (bW f ((cC (⟨4,2,0,([]:List Int)⟩:aj)).bind fun h=>
 some (eqS h (⟨#[101,114,97,115,101,32,115,99,114,101,101,110,32,50]⟩:ByteArray)))).bind fun g=>
 some g
theorem bH (O0:Own c0 G F) (hG:Gl [5] c0) (hT:Et c0) {r:Bool} (H:aH=some r): Calls prog 9 #[] c0.w (bG c0 fun c v=>Own c G (F)∧v=B r):=by
 unfold aH at H;refine en func9 rfl rfl (sr (va (B false) (wln (sr (bn H fun b h1 H=>cl (db O0 (hG.le (by decide)) hT (⟨#[102,101,101,100,32,54,49,101,52]⟩:ByteArray) h1) ?_)))));rintro v12 d2 k2 ⟨v2,u3,v5,O8,rfl,T,h6⟩;refine va (.tuple #[.agg #[I b.1.Kind,I b.1.A,I b.1.B,v2],v5]) (va (.agg #[I b.1.Kind,I b.1.A,I b.1.B,v2]) (va (v5) (me (al 38 [I 0,I 0,I 0,Y] O8) ?_)));rintro v16 e2 R ⟨U,rfl,w0⟩;obtain ⟨x,y,z,rfl⟩:=((T.mono R)).form;refine md (sA 38 [I b.1.Kind,I b.1.A,I b.1.B,.slice x y z] 0 w0 ⟨rfl,rfl,rfl,T.m.one,trivial⟩) ?_;rintro f2 l0 x0;refine va (v5) (wln (sr (bn H fun a j1 H=>cl (db x0 (hG.m.le (by decide)) hT.m (⟨#[109,111,118,101,32,48,32,45,51]⟩:ByteArray) j1) ?_)));rintro v33 g2 m0 ⟨v23,s1,v26,y0,rfl,X,k1⟩;refine va (.tuple #[.agg #[I a.1.Kind,I a.1.A,I a.1.B,v23],v26]) (va (.agg #[I a.1.Kind,I a.1.A,I a.1.B,v23]) (va (v26) (me (al 38 [I 0,I 0,I 0,Y] y0) ?_)));rintro v37 h2 S ⟨N,rfl,z0⟩;obtain ⟨D,E,M,rfl⟩:=((X.mono S)).form;refine md (sA 38 [I a.1.Kind,I a.1.A,I a.1.B,.slice D E M] 0 z0 ⟨rfl,rfl,rfl,X.m.one,trivial⟩) ?_;rintro e1 o0 u;refine va (v26) (wln (W.seq (bn H fun v1 Z H=>bn H fun w1 P H=>bn H fun x1 s H=>bn H fun y1 h H=>bn H fun q0 g H=>W.join (Jn e1 fun c l=>Own c G ((Eb N 38 [I a.1.Kind,I a.1.A,I a.1.B,.slice D E M]) :: es true (RI .u8) (.slice D E M) 5 s1 a.1.Bytes :: (Eb U 38 [I b.1.Kind,I b.1.A,I b.1.B,.slice x y z]) :: es false (RI .u8) (.slice x y z) 5 u3 b.1.Bytes :: F)∧l= [(0,B q0)]) ?_ ?_)))
 ·clear H;refine W.region (va (v5) (vr (B b.2.isNil) (by rcases h6.m.cs with ⟨e,f⟩ | ⟨b_,e,f⟩ | ⟨b_,e,f⟩ <;> (subst e; rw [f]; kernel_rfl)) ?_));rcases bo (b.2.isNil) with i | i
  ·have s0:=anT i Z;refine vb i (wa (Qo U 3) (wn (vx (le1 3 dU (u.on 2 rfl)) (wn ?_))));obtain ⟨q,n1,l2,d,m1⟩:=u.frz 3 rfl (T.mono (R.trans (l0.trans (m0.trans (S.trans o0)))));refine WL.gh n1 (vr (.string (fc b.1.Bytes)) (rx (by kernel_rfl) (gR dU u_5 u_9 m1)) (wn (vr (B (eqS (fc b.1.Bytes) (⟨#[97,228]⟩:ByteArray))) (ed (by kernel_rfl)) ?_)));obtain rfl:=si s0;refine va (B (eqS (fc b.1.Bytes) (⟨#[97,228]⟩:ByteArray))) ?_;rcases bo (eqS (fc b.1.Bytes) (⟨#[97,228]⟩:ByteArray)) with j | j
   ·have t0:=anT j P;refine vb j (wa (v26) (wn (vr (B a.2.isNil) (by rcases k1.m.cs with ⟨e,f⟩ | ⟨b_,e,f⟩ | ⟨b_,e,f⟩ <;> (subst e; rw [f]; kernel_rfl)) ?_)));obtain rfl:=si t0;refine va (B a.2.isNil) ?_;rcases bo (a.2.isNil) with k | k
    ·have u0:=anT k s;refine vb k (wa (Q N) (wn (vx (le1 0 u_3 (d.on 0 rfl)) (wa (B (a.1.Kind==2)) ?_))));obtain rfl:=si u0;refine va (B (a.1.Kind==2)) ?_;rcases bo (a.1.Kind==2) with n | n
     ·have v0:=anT n h;refine vb n (wa (Qo N 2) (wn (vx (le1 2 u_3 (d.on 0 rfl)) (wa (B (a.1.B==(-3))) ?_))));obtain rfl:=si v0;refine va (B (a.1.B==(-3))) ?_;rcases bo (a.1.B==(-3)) with o | o
      ·have t:=anT o g;refine vb o (wa (.agg #[I 4,I 2,I 0,Y]) (wn (bn t fun p p1 t=>cl (fD d hT.m (⟨4,2,0,([]:List Int)⟩:aj) (Sl.nl _ _) p1) ?_)));rintro p2 f1 m2 ⟨a1,rfl⟩;refine wn (vr (B (eqS p (⟨#[101,114,97,115,101,32,115,99,114,101,101,110,32,50]⟩:ByteArray))) (ed (by kernel_rfl)) ?_);obtain rfl:=si t;exact vv (B (eqS p (⟨#[101,114,97,115,101,32,115,99,114,101,101,110,32,50]⟩:ByteArray))) (wln (jn f1 ⟨a1,rfl⟩))
      obtain rfl:=anF o g;exact vb o (pz (ps (vv (B false) (wln (jn q ⟨d,rfl⟩)))))
     obtain rfl:=anF n h;refine vb n (pz (ps (va (B false) ?_)));have a0:false=false:=rfl;obtain rfl:=anF a0 g;exact vb a0 (pz (ps (vv (B false) (wln (jn q ⟨d,rfl⟩)))))
    obtain rfl:=anF k s;refine vb k (pz (ps (va (B false) ?_)));have b0:false=false:=rfl;obtain rfl:=anF b0 h;refine vb b0 (pz (ps (va (B false) ?_)));have d0:false=false:=rfl;obtain rfl:=anF d0 g;exact vb d0 (pz (ps (vv (B false) (wln (jn q ⟨d,rfl⟩)))))
   obtain rfl:=anF j P;refine vb j (pz (va (B false) ?_));have e0:false=false:=rfl;obtain rfl:=anF e0 s;refine vb e0 (pz (ps (va (B false) ?_)));have f0:false=false:=rfl;obtain rfl:=anF f0 h;refine vb f0 (pz (ps (va (B false) ?_)));have g0:false=false:=rfl;obtain rfl:=anF g0 g;exact vb g0 (pz (ps (vv (B false) (wln (jn q ⟨d,rfl⟩)))))
  obtain rfl:=anF i Z;refine vb i (pz (pz (va (B false) ?_)));have h0:false=false:=rfl;obtain rfl:=anF h0 P;refine vb h0 (pz (va (B false) ?_));have i0:false=false:=rfl;obtain rfl:=anF i0 s;refine vb i0 (pz (ps (va (B false) ?_)));have j0:false=false:=rfl;obtain rfl:=anF j0 h;refine vb j0 (pz (ps (va (B false) ?_)));have k0:false=false:=rfl;obtain rfl:=anF k0 g;refine vb k0 (pz (ps (vv (B false) (wln ?_))));obtain ⟨g1,q1,n2,b1,j2⟩:=u.frz 3 rfl (T.mono (R.trans (l0.trans (m0.trans (S.trans o0)))));exact ⟨g1,_,_,q1.symm,pt,us,b1,rfl⟩
 rintro e_ w_ ⟨i1,i2,_,rfl,o2,rfl,c1,rfl⟩;refine nrm (W.ret ?_);obtain rfl:=si H;have d1:=c1.sD 4 [];exact r1 (qq i1 ⟨d1,rfl⟩)
def cc (p0:List aj):Option (Bool):=
 (cT (σ:=Int×Int) (τ:=Bool ⊕ Unit) (((p0.length:Int) - 0).toNat+1) (fun a=>
 (bW (decide (a.2 < (p0.length:Int))) (some (decide (a.2 < 300)))).bind fun d=>
 if d=true then
 (idx p0 a.2).bind fun c=>
 if (decide ((w64 (a.1+(c.Bytes.length:Int))) > 5000))=true then
 some (.inr (.inl true))
 else
 some (.inl ((w64 (a.1+(c.Bytes.length:Int))),(w64 (a.2+1))))
 else
 some (.inr (.inr ()))) (0,0)).bind fun b=>
 match b with
 | .inl b=>
 some b
 | .inr b=>
 some (decide ((p0.length:Int) > 200))
theorem fW (O0:Own c0 G F) (f:List aj) {r:Bool} (j:Sl bq c0 v1 f) (H:cc f=some r): Calls prog 10 #[v1] c0.w (bG c0 fun c v=>Own c G (F)∧v=B r):=by
 unfold cc at H;refine en func10 rfl rfl (sr (va (B false) (wln (sr (va (I 0) (wln (W.seq (sr (va (I 0) (wln (W.block (bn H fun i X o=>lp X (fun a=>Jn c0 fun c l=>Own c G (F)∧l= [(0,v1),(3,I a.1),(4,I a.2)]) (fun t=>match t with | .inl x=>(fun b0 ex e w=>ex= .ret∧(Jn c0 fun c l=>Own c G (F)∧l= [(2,B b0)]) e w) x | .inr x=>(fun h0 ex e w=>ex= .exit 0∧(Jn c0 fun c l=>Own c G (F)∧l= [(0,v1)]) e w) x) ?_ ?_ ?_))))))))))))
 ·clear o X;intro a o0 N d0 H;revert N d0;rintro s u ⟨p,g6,_,rfl,l5,rfl,D,rfl⟩;refine W.seq (W.seq (bn H fun q k H=>W.join (Jn p fun c l=>Own c G (F)∧l= [(0,v1),(3,I a.1),(4,I a.2),(12,B q)]) ?_ ?_))
  ·clear H;refine W.region (va (I a.2) (va (v1) (vx (ln 3 eg j.m) (va (B (decide (a.2 < (f.length:Int)))) ?_))));rcases bo (decide (a.2 < (f.length:Int))) with d | d
   ·have y:=anT d k;refine vb d (wa (I a.2) (wa (B (decide (a.2 < 300))) ?_));obtain rfl:=si y;exact va (B (decide (a.2 < 300))) (wln (jn p ⟨D,rfl⟩))
   obtain rfl:=anF d k;exact vb d (pz (va (B false) (wln (jn p ⟨D,rfl⟩))))
  rintro s u ⟨h,i0,_,rfl,Z,rfl,g,rfl⟩;refine nrm (cn H (fun R H=>?_) (fun R H=>?_))
  ·refine W.skip (nrm (W.seq (W.block (sr (va (I a.1) (va (v1) (va (I a.2) (bn H fun b n H=>?_))))))));obtain ⟨g0,S,a0⟩:=Sl.at (j.mono (l5.trans Z)) (bS n);obtain ⟨v25,rfl,T⟩:=S;refine vx (ix eg j.m n) (va (Qo (sb v1) (so v1+a.2.toNat * 4+3)) (vx (l1 dU (a0 3 _ rfl)) (vx (ln 3 dU T) (vv (I (w64 (a.1+(b.Bytes.length:Int)))) (wln (sr (va (I (w64 (a.1+(b.Bytes.length:Int)))) (va (B (decide ((w64 (a.1+(b.Bytes.length:Int))) > 5000))) (wln (cn H (fun U H=>?_) (fun U H=>?_)))))))))))
   ·refine sr (va (B true) (wln (W.ret (bkr (thr ?_)))));obtain rfl:=si H;exact ⟨_,rfl,⟨rfl,jn h ⟨g,rfl⟩⟩⟩
   refine W.skip (bkn (nrm (W.region (va (I a.2) (vv (I (w64 (a.2+1))) (WL.nil ?_))))));obtain rfl:=si H;exact ⟨_,rfl,jn h ⟨g,rfl⟩⟩
  refine W.exit (thx ?_);obtain rfl:=si H;exact ⟨_,rfl,rfl,jn h ⟨g,rfl⟩⟩
 ·exact jn c0 ⟨O0,rfl⟩
 rcases i with i | i
 ·intro P; revert P;rintro _ s u ⟨rfl,E,j0,_,rfl,l0,rfl,z,rfl⟩;refine bkr (thr ?_);obtain rfl:=si o;exact r1 (qq E ⟨z,rfl⟩)
 rintro _ s u ⟨rfl,M,k0,_,rfl,m0,rfl,A,rfl⟩;refine bke (nrm (sr (va (v1) (vx (ln 3 eg j.m) (vv (B (decide ((f.length:Int) > 200))) (wln (W.ret ?_)))))));obtain rfl:=si o;exact r1 (qq M ⟨A,rfl⟩)
def cv (p0:Er):Option (Int):=
 if p0.isNil=true then
 some 0
 else
 (bt p0 (Er.sent 2)).bind fun a=>
 if a=true then
 some 1
 else
 (bt p0 (Er.sent 1)).bind fun b=>
 if b=true then
 some 2
 else
 (bt p0 (Er.sent 3)).bind fun c=>
 if c=true then
 some 3
 else
 (bt p0 (Er.sent 0)).bind fun d=>
 if d=true then
 some 4
 else
 (bt p0 (Er.sent 4)).bind fun e=>
 if e=true then
 some 5
 else
 (bt p0 (Er.sent 5)).bind fun f=>
 if f=true then
 some 6
 else
 (bt p0 (Er.sent 6)).bind fun g=>
 if g=true then
 some 7
 else
 (bt p0 (Er.sent 7)).bind fun h=>
 if h=true then
 some 8
 else
 some 9
theorem gK (O0:Own c0 G F) (hG:Gl [0,1,2,3,4,5,6,7] c0) (a:Er) {r:Int} (e:RE 230 87 c0 v1 a) (H:cv a=some r): Calls prog 21 #[v1] c0.w (bG c0 fun c v=>Own c G (F)∧v=I r):=by
 unfold cv at H;refine en func21 rfl rfl (sr (va (I 0) (wln (W.seq (W.block (sr (va (v1) (vr (B a.isNil) (by rcases (e).cs with ⟨h,i⟩ | ⟨b_,h,i⟩ | ⟨b_,h,i⟩ <;> (subst h; rw [i]; kernel_rfl)) (va (B a.isNil) (wln (cn H (fun h3 H=>?_) (fun h3 H=>?_))))))))))))
 ·refine sr (va (I 0) (wln (W.ret (bkr (thr ?_)))));obtain rfl:=si H;exact r1 (qq c0 ⟨O0,rfl⟩)
 refine sr (va (v1) ?_);obtain ⟨v4,h5⟩:=hG.get 2 (by decide);refine vx (l1 jd h5.im) (bn H fun N h6 H=>cl (di O0 (hG.le (by decide)) a (Er.sent 2) e h5 h6) ?_);rintro v12 d0 b ⟨O8,rfl⟩;refine va (B N) (wln (cn H (fun k0 H=>?_) (fun k0 H=>?_)))
 ·refine sr (va (I 1) (wln (W.ret (bkr (thr ?_)))));obtain rfl:=si H;exact r1 (qq d0 ⟨O8,rfl⟩)
 refine sr (va (v1) ?_);obtain ⟨v14,u⟩:=(hG.mono b).get 1 (by decide);refine vx (l1 jd u.im) (bn H fun P l0 H=>cl (di O8 (hG.m.le (by decide)) a (Er.sent 1) e.m u l0) ?_);rintro v22 e0 d ⟨k,rfl⟩;refine va (B P) (wln (cn H (fun m0 H=>?_) (fun m0 H=>?_)))
 ·refine sr (va (I 2) (wln (W.ret (bkr (thr ?_)))));obtain rfl:=si H;exact r1 (qq e0 ⟨k,rfl⟩)
 refine sr (va (v1) ?_);obtain ⟨v24,x⟩:=(hG.mono (b.trans d)).get 3 (by decide);refine vx (l1 jd x.im) (bn H fun R o0 H=>cl (di k (hG.m.le (by decide)) a (Er.sent 3) e.m x o0) ?_);rintro v32 f0 f ⟨l,rfl⟩;refine va (B R) (wln (cn H (fun q0 H=>?_) (fun q0 H=>?_)))
 ·refine sr (va (I 3) (wln (W.ret (bkr (thr ?_)))));obtain rfl:=si H;exact r1 (qq f0 ⟨l,rfl⟩)
 refine sr (va (v1) ?_);obtain ⟨v34,y⟩:=(hG.mono (b.trans (d.trans f))).get 0 (by decide);refine vx (l1 jd y.im) (bn H fun S s0 H=>cl (di l (hG.m.le (by decide)) a (Er.sent 0) e.m y s0) ?_);rintro v42 g0 g ⟨n,rfl⟩;refine va (B S) (wln (cn H (fun t0 H=>?_) (fun t0 H=>?_)))
 ·refine sr (va (I 4) (wln (W.ret (bkr (thr ?_)))));obtain rfl:=si H;exact r1 (qq g0 ⟨n,rfl⟩)
 refine sr (va (v1) ?_);obtain ⟨v44,z⟩:=(hG.mono (b.trans (d.trans (f.trans g)))).get 4 (by decide);refine vx (l1 jd z.im) (bn H fun T u0 H=>cl (di n (hG.m.le (by decide)) a (Er.sent 4) e.m z u0) ?_);rintro v52 h0 j ⟨o,rfl⟩;refine va (B T) (wln (cn H (fun w0 H=>?_) (fun w0 H=>?_)))
 ·refine sr (va (I 5) (wln (W.ret (bkr (thr ?_)))));obtain rfl:=si H;exact r1 (qq h0 ⟨o,rfl⟩)
 refine sr (va (v1) ?_);obtain ⟨v54,A⟩:=(hG.mono (b.trans (d.trans (f.trans (g.trans j))))).get 5 (by decide);refine vx (l1 jd A.im) (bn H fun U x0 H=>cl (di o (hG.m.le (by decide)) a (Er.sent 5) e.m A x0) ?_);rintro i1 i0 M ⟨p,rfl⟩;refine va (B U) (wln (cn H (fun y0 H=>?_) (fun y0 H=>?_)))
 ·refine sr (va (I 6) (wln (W.ret (bkr (thr ?_)))));obtain rfl:=si H;exact r1 (qq i0 ⟨p,rfl⟩)
 refine sr (va (v1) ?_);obtain ⟨j1,D⟩:=(hG.mono (b.trans (d.trans (f.trans (g.trans (j.trans M)))))).get 6 (by decide);refine vx (l1 jd D.im) (bn H fun X z0 H=>cl (di p (hG.m.le (by decide)) a (Er.sent 6) e.m D z0) ?_);rintro k1 j0 d1 ⟨q,rfl⟩;refine va (B X) (wln (cn H (fun a1 H=>?_) (fun a1 H=>?_)))
 ·refine sr (va (I 7) (wln (W.ret (bkr (thr ?_)))));obtain rfl:=si H;exact r1 (qq j0 ⟨q,rfl⟩)
 refine sr (va (v1) ?_);obtain ⟨m1,E⟩:=(hG.mono (b.trans (d.trans (f.trans (g.trans (j.trans (M.trans d1))))))).get 7 (by decide);refine vx (l1 jd E.im) (bn H fun Z b1 H=>cl (di q (hG.m.le (by decide)) a (Er.sent 7) e.m E b1) ?_);rintro n1 t h1 ⟨s,rfl⟩;refine va (B Z) (wln (cn H (fun c1 H=>?_) (fun c1 H=>?_)))
 ·refine sr (va (I 8) (wln (W.ret (bkr (thr ?_)))));obtain rfl:=si H;exact r1 (qq t ⟨s,rfl⟩)
 refine W.skip (bkn (nrm (sr (va (I 9) (wln (W.ret ?_))))));obtain rfl:=si H;exact r1 (qq t ⟨s,rfl⟩)
def bp (p0:aj) (p1:ByteArray):Option (Bool):=
 (aH).bind fun z=>
 (orE (!z) (some (decide ((p0.Bytes.length:Int) > 3000)))).bind fun y=>
 (orE y (some (decide ((aR p1) > 5000)))).bind fun r=>
 if r=true then
 (aH).bind fun u=>
 some u
 else
 (cC p0).bind fun l=>
 (aB p0).bind fun v=>
 if (!v)=true then
 if (!(eqS l (⟨#[]⟩:ByteArray)))=true then
 some false
 else
 (aC p1).bind fun a=>
 if a.2.isNil=true then
 (aB a.1).bind fun m=>
 (bW m ((aL a.1).bind fun n=>
 some (eqS n p1))).bind fun j=>
 some j
 else
 (cT (σ:=Int×Int) (τ:=Int) (((aR p1) - 0).toNat+1) (fun b=>
 if (decide (b.2 < (aR p1)))=true then
 ((eU p1 b.2).bind fun o=>
 if (o==32)=true then
 some ((w64 (b.1+1)))
 else
 some (b.1)).bind fun p=>
 some (.inl (p,(w64 (b.2+1))))
 else
 some (.inr (b.1))) (1,0)).bind fun k=>
 (aK a.1 (⟨0,0,0,([]:List Int)⟩:aj)).bind fun f=>
 (bW f ((cv a.2).bind fun g=>
 some (g==6))).bind fun c=>
 (bW c ((dP a.2).bind fun h=>
 some (decide (h≥0)))).bind fun d=>
 (bW d ((dP a.2).bind fun i=>
 some (decide (i≤k)))).bind fun e=>
 some e
 else
 (aC l).bind fun q=>
 (aL p0).bind fun w=>
 (orE (!(eqS l w)) (some (!q.2.isNil))).bind fun s=>
 (orE s ((aK q.1 p0).bind fun x=>
 some (!x))).bind fun t=>
 if t=true then
 some false
 else
 (aC p1).bind fun a=>
 if a.2.isNil=true then
 (aB a.1).bind fun m=>
 (bW m ((aL a.1).bind fun n=>
 some (eqS n p1))).bind fun j=>
 some j
 else
 (cT (σ:=Int×Int) (τ:=Int) (((aR p1) - 0).toNat+1) (fun b=>
 if (decide (b.2 < (aR p1)))=true then
 ((eU p1 b.2).bind fun o=>
 if (o==32)=true then
 some ((w64 (b.1+1)))
 else
 some (b.1)).bind fun p=>
 some (.inl (p,(w64 (b.2+1))))
 else
 some (.inr (b.1))) (1,0)).bind fun k=>
 (aK a.1 (⟨0,0,0,([]:List Int)⟩:aj)).bind fun f=>
 (bW f ((cv a.2).bind fun g=>
 some (g==6))).bind fun c=>
 (bW c ((dP a.2).bind fun h=>
 some (decide (h≥0)))).bind fun d=>
 (bW d ((dP a.2).bind fun i=>
 some (decide (i≤k)))).bind fun e=>
 some e
set_option maxHeartbeats 4000000 in
theorem eZ (O0:Own c0 G F) (hG:Gl [0,1,2,3,4,5,6,7] c0) (hU:Eh c0) (hT:Et c0) (R:aj) (f:ByteArray) {r:Bool} (h2:Sl (RI .u8) c0 v1 R.Bytes) (H:bp R f=some r): Calls prog 4 #[.agg #[I R.Kind,I R.A,I R.B,v1],.string f] c0.w (bG c0 fun c v=>Own c G (F)∧v=B r):=by
 unfold bp at H;refine en func4 rfl rfl (sr ?_);obtain ⟨a3,a4,a5,rfl⟩:=(h2).form;refine me (bx 38 [I R.Kind,I R.A,I R.B,.slice a3 a4 a5] O0) ?_;rintro v10 c9 l9 ⟨b6,rfl,O7,m8⟩;refine va (B false) (wln (W.seq (W.seq (bn H fun n4 x8 H=>bn H fun d_6 k4 H=>bn H fun r6 l3 H=>W.join (Jn c9 fun c l=>Own c G (F)∧l= [(1,.string f),(2,Q b6),(24,B r6)]) ?_ ?_))))
 ·clear H;refine W.region (cl (bH O7 (hG.m.le (by decide)) hT.m x8) ?_);rintro v19 i3 l18 ⟨x2,rfl⟩;refine va (B (!n4)) ?_;rcases bo (!n4) with h1 | h1
  ·obtain rfl:=orT h1 k4;refine vb h1 (pz (pz (va (B true) ?_)));have l4:true=true:=rfl;obtain rfl:=orT l4 l3;exact vb l4 (pz (ps (va (B true) (wln (jn i3 ⟨x2,rfl⟩)))))
  have i8:=orF h1 k4;refine vb h1 (wa (Qo b6 (0+3)) (wn (vx (l1 dU ((mm m8) 3 _ rfl)) (wn (vx (ln 3 dU h2.m) (wa (B (decide ((R.Bytes.length:Int) > 3000))) ?_))))));obtain rfl:=si i8;refine va (B (decide ((R.Bytes.length:Int) > 3000))) ?_;rcases bo (decide ((R.Bytes.length:Int) > 3000)) with i1 | i1
  ·obtain rfl:=orT i1 l3;exact vb i1 (pz (ps (va (B true) (wln (jn i3 ⟨x2,rfl⟩)))))
  have j8:=orF i1 l3;refine vb i1 (wa (.string f) (wn (vr (I (aR f)) (rx (by kernel_rfl) (cE (ty:=3) u_9 _)) (wa (B (decide ((aR f) > 5000))) ?_))));obtain rfl:=si j8;exact va (B (decide ((aR f) > 5000))) (wln (jn i3 ⟨x2,rfl⟩))
 rintro U w_ ⟨c25,g26,_,rfl,l25,rfl,j4,rfl⟩;refine nrm (cn H (fun y8 H=>?_) (fun y8 H=>?_))
 ·refine sr (bn H fun g8 z8 H=>cl (bH j4 (hG.m.le (by decide)) hT.m z8) ?_);rintro v38 s8 l37 ⟨k8,rfl⟩;refine va (B g8) (wln (W.ret (thr ?_)));obtain rfl:=si H;exact r1 (qq s8 ⟨k8,rfl⟩)
 refine W.skip (nrm (sr (vx (lN 38 (mm m8)) (bn H fun M a9 H=>cl (fD j4 hT.m R h2.m a9) ?_))));rintro v45 c44 l44 ⟨l8,rfl⟩;refine va (.string M) (wln (W.seq (sr (vx (lN 38 (mm m8)) (bn H fun h8 b9 H=>cl (cu l8 R h2.m b9) ?_)))));rintro v52 t8 l51 ⟨f3,rfl⟩;refine va (B (!h8)) (wln (cn H (fun d9 H=>?_) (fun d9 H=>?_)))
 ·refine sr (va (.string M) (vr (B (!(eqS M (⟨#[]⟩:ByteArray)))) (eV (by kernel_rfl)) (wln (cn H (fun e9 H=>?_) (fun e9 H=>?_)))))
  ·refine sr (va (B false) (wln (W.ret (thr ?_))));obtain rfl:=si H;exact r1 (qq t8 ⟨f3,rfl⟩)
  refine W.skip (nrm (sr (va (.string f) (bn H fun a f9 H=>cl (db f3 (hG.m.le (by decide)) hT.m f f9) ?_))));rintro v66 c65 l65 ⟨v56,m1,v59,n8,rfl,j1,p2⟩;refine va (.tuple #[.agg #[I a.1.Kind,I a.1.A,I a.1.B,v56],v59]) (va (.agg #[I a.1.Kind,I a.1.A,I a.1.B,v56]) (va (v59) (me (al 38 [I 0,I 0,I 0,Y] n8) ?_)));rintro v70 c69 q2 ⟨T,rfl,o8⟩;obtain ⟨o,p,q,rfl⟩:=((j1.mono q2)).form;refine md (sA 38 [I a.1.Kind,I a.1.A,I a.1.B,.slice o p q] 0 o8 ⟨rfl,rfl,rfl,j1.m.one,trivial⟩) ?_;rintro o2 z3 g3;refine va (v59) (wln (W.seq (sr (va (v59) (vr (B a.2.isNil) (by rcases p2.m.cs with ⟨D,E⟩ | ⟨b_,D,E⟩ | ⟨b_,D,E⟩ <;> (subst D; rw [E]; kernel_rfl)) (wln (cn H (fun g9 H=>?_) (fun g9 H=>?_))))))))
  ·refine W.seq (bn H fun l2 h9 H=>bn H fun d2 m4 H=>W.join (Jn o2 fun c l=>Own c G ((Eb T 38 [I a.1.Kind,I a.1.A,I a.1.B,.slice o p q]) :: es false (RI .u8) (.slice o p q) 5 m1 a.1.Bytes :: F)∧l= [(4,B d2)]) ?_ ?_)
   ·clear H;refine W.region (vx (leN 38 0 [I a.1.Kind,I a.1.A,I a.1.B,.slice o p q] (g3.on 0 rfl)) ?_);obtain ⟨c81,j9,n9,p8,i9⟩:=g3.frz 1 rfl (j1.mono (q2.trans z3));refine WL.gh j9 (cl (cu p8 a.1 i9 h9) ?_);rintro v88 u8 o9 ⟨n2,rfl⟩;rcases bo (l2) with k1 | k1
    ·have t2:=anT k1 m4;refine vb k1 (wn (vx (leN 38 0 [I a.1.Kind,I a.1.A,I a.1.B,.slice o p q] (n2.on 0 rfl)) (wn ?_)));have k9:=n2.slf 1 rfl (j1.mono (q2.trans (z3.trans (n9.trans o9))));refine bn t2 fun S m9 t2=>cl (cN n2 a.1 k9 m9) ?_;rintro v98 v8 l97 ⟨q8,rfl⟩;refine wa (.string f) (wn (vr (B (eqS S f)) (ed (by kernel_rfl)) ?_));obtain rfl:=si t2;exact vv (B (eqS S f)) (wln (jn v8 ⟨q8,rfl⟩))
    obtain rfl:=anF k1 m4;exact vb k1 (pz (pz (vv (B false) (wln (jn u8 ⟨n2,rfl⟩)))))
   rintro U w_ ⟨w8,g100,_,rfl,l99,rfl,r4,rfl⟩;refine nrm (W.ret (thr ?_));obtain rfl:=si H;have s4:=r4.sD 2 [];exact r1 (qq w8 ⟨s4,rfl⟩)
  refine W.skip (nrm (sr (va (I 1) (wln (W.seq (sr (va (I 0) (wln (W.block (bn H fun t k3 j=>lp k3 (fun b=>Jn o2 fun c l=>Own c G ((Eb T 38 [I a.1.Kind,I a.1.A,I a.1.B,.slice o p q]) :: es true (RI .u8) (.slice o p q) 5 m1 a.1.Bytes :: F)∧l= [(1,.string f),(8,Q T),(9,v59),(10,I b.1),(11,I b.2)]) (fun e1 ex e w=>ex= .exit 0∧(Jn o2 fun c l=>Own c G ((Eb T 38 [I a.1.Kind,I a.1.A,I a.1.B,.slice o p q]) :: es true (RI .u8) (.slice o p q) 5 m1 a.1.Bytes :: F)∧l= [(8,Q T),(9,v59),(10,I e1)]) e w) ?_ ?_ ?_))))))))))
  ·clear j k3;intro b p9 j3 e4 H;revert j3 e4;rintro U w_ ⟨v0,g109,_,rfl,l108,rfl,z1,rfl⟩;refine W.seq (sr (va (I b.2) (va (.string f) (vr (I (aR f)) (rx (by kernel_rfl) (cE (ty:=3) u_9 _)) (va (B (decide (b.2 < (aR f)))) (wln (cn H (fun t6 H=>?_) (fun t6 H=>?_))))))))
   ·refine W.skip (nrm (bn H fun m2 N o4=>W.seqJ (Jn v0 fun c l=>Own c G ((Eb T 38 [I a.1.Kind,I a.1.A,I a.1.B,.slice o p q]) :: es true (RI .u8) (.slice o p q) 5 m1 a.1.Bytes :: F)∧l= [(1,.string f),(8,Q T),(9,v59),(10,I m2),(11,I b.2)]) ?_ ?_))
    ·refine W.block (sr (va (.string f) (va (I b.2) (bn N fun m0 u6 N=>vr (.int .u8 m0) (rx (by kernel_rfl) (cP (k:= .i64) u_9 u6 _)) (va (B (m0==32)) (wln (cn N (fun v6 N=>?_) (fun v6 N=>?_))))))))
     ·refine W.region (va (I b.1) (vv (I (w64 (b.1+1))) (WL.nil (bkn (nrm ?_)))));obtain rfl:=si N;exact jn v0 ⟨z1,rfl⟩
     refine W.skip (bkn (nrm ?_));obtain rfl:=si N;exact jn v0 ⟨z1,rfl⟩
    rintro U w_ ⟨u5,g120,_,rfl,l119,rfl,t4,rfl⟩;refine W.region (va (I b.2) (vv (I (w64 (b.2+1))) (WL.nil ?_)));obtain rfl:=si o4;exact ⟨_,rfl,jn u5 ⟨t4,rfl⟩⟩
   refine W.exit (thx ?_);obtain rfl:=si H;exact ⟨_,rfl,rfl,jn v0 ⟨z1,rfl⟩⟩
  ·exact jn o2 ⟨g3,rfl⟩
  rintro _ U w_ ⟨rfl,v5,g126,_,rfl,b8,rfl,u2,rfl⟩;refine bke (nrm (W.seq (bn j fun g1 w6 j=>bn j fun h4 m3 j=>bn j fun i4 e2 j=>bn j fun y0 z0 j=>W.join (Jn v5 fun c l=>Own c G ((Eb T 38 [I a.1.Kind,I a.1.A,I a.1.B,.slice o p q]) :: es false (RI .u8) (.slice o p q) 5 m1 a.1.Bytes :: F)∧l= [(4,B y0)]) ?_ ?_)))
  ·clear j;refine W.region (vx (leN 38 0 [I a.1.Kind,I a.1.A,I a.1.B,.slice o p q] (u2.on 0 rfl)) (va (.agg #[I 0,I 0,I 0,Y]) ?_));obtain ⟨v9,y6,l137,u4,x6⟩:=u2.frz 1 rfl (j1.mono (q2.trans (z3.trans b8)));refine WL.gh y6 (cl (cM u4 a.1 (⟨0,0,0,([]:List Int)⟩:aj) x6 (Sl.nl _ _) w6) ?_);rintro v144 w5 l143 ⟨v2,rfl⟩;rcases bo (g1) with X | X
   ·have n1:=anT X m3;refine vb X (wa (v59) (wn (bn n1 fun u z6 n1=>cl (gK v2 (hG.m.le (by decide)) a.2 p2.m z6) ?_)));rintro v153 x5 l152 ⟨w2,rfl⟩;refine wa (B (u==6)) ?_;obtain rfl:=si n1;refine va (B (u==6)) ?_;rcases bo (u==6) with Z | Z
    ·have q1:=anT Z e2;refine vb Z (wa (v59) (wn (bn q1 fun x a7 q1=>cl (gk w2 hU.m a.2 p2.m a7) ?_)));rintro v162 y5 l161 ⟨y2,rfl⟩;refine wa (B (decide (x≥0))) ?_;obtain rfl:=si q1;refine va (B (decide (x≥0))) ?_;rcases bo (decide (x≥0)) with a0 | a0
     ·have s1:=anT a0 z0;refine vb a0 (wa (v59) (wn (bn s1 fun y b7 s1=>cl (gk y2 hU.m a.2 p2.m b7) ?_)));rintro v171 z5 l170 ⟨v4,rfl⟩;refine wa (I t) (wa (B (decide (y≤t))) ?_);obtain rfl:=si s1;exact vv (B (decide (y≤t))) (wln (jn z5 ⟨v4,rfl⟩))
     obtain rfl:=anF a0 z0;exact vb a0 (pz (pz (vv (B false) (wln (jn y5 ⟨y2,rfl⟩)))))
    obtain rfl:=anF Z e2;refine vb Z (pz (ps (va (B false) ?_)));have n3:false=false:=rfl;obtain rfl:=anF n3 z0;exact vb n3 (pz (pz (vv (B false) (wln (jn x5 ⟨w2,rfl⟩)))))
   obtain rfl:=anF X m3;refine vb X (pz (ps (va (B false) ?_)));have o3:false=false:=rfl;obtain rfl:=anF o3 e2;refine vb o3 (pz (ps (va (B false) ?_)));have p3:false=false:=rfl;obtain rfl:=anF p3 z0;exact vb p3 (pz (pz (vv (B false) (wln (jn w5 ⟨v2,rfl⟩)))))
  rintro U w_ ⟨a6,g176,_,rfl,l175,rfl,w4,rfl⟩;refine nrm (W.ret ?_);obtain rfl:=si j;have x4:=w4.sD 2 [];exact r1 (qq a6 ⟨x4,rfl⟩)
 refine sr (va (.string M) (bn H fun d c7 H=>cl (db f3 (hG.m.le (by decide)) hT.m M c7) ?_));rintro v193 w9 l192 ⟨c4,f8,f1,y4,rfl,b0,d7⟩;refine va (.tuple #[.agg #[I d.1.Kind,I d.1.A,I d.1.B,c4],f1]) (va (.agg #[I d.1.Kind,I d.1.A,I d.1.B,c4]) (va (f1) (me (al 38 [I 0,I 0,I 0,Y] y4) ?_)));rintro v197 x9 c1 ⟨t5,rfl,z4⟩;obtain ⟨s0,t0,u0,rfl⟩:=((b0.mono c1)).form;refine md (sA 38 [I d.1.Kind,I d.1.A,I d.1.B,.slice s0 t0 u0] 0 z4 ⟨rfl,rfl,rfl,b0.m.one,trivial⟩) ?_;rintro c6 i2 b5;refine va (f1) (wln (W.seq (bn H fun f4 e7 H=>bn H fun d_48 q3 H=>bn H fun s6 f2 H=>W.join (Jn c6 fun c l=>Own c G ((Eb t5 38 [I d.1.Kind,I d.1.A,I d.1.B,.slice s0 t0 u0]) :: es false (RI .u8) (.slice s0 t0 u0) 5 f8 d.1.Bytes :: F)∧l= [(1,.string f),(51,B s6)]) ?_ ?_)))
 ·clear H;refine W.region (va (.string M) (vx (lN 38 (mm m8)) (cl (cN b5 R h2.m e7) ?_)));rintro v211 y9 j2 ⟨o0,rfl⟩;refine vr (B (!(eqS M f4))) (eV (by kernel_rfl)) ?_;rcases bo (!(eqS M f4)) with d0 | d0
  ·obtain rfl:=orT d0 q3;refine vb d0 (pz (va (B true) ?_));have s3:true=true:=rfl;obtain rfl:=orT s3 f2;refine vb s3 (pz (pz (va (B true) (wln ?_))));obtain ⟨d6,f7,l216,c5,h215⟩:=o0.frz 1 rfl (b0.mono (c1.trans (i2.trans j2)));exact ⟨d6,_,_,f7.symm,pt,us,c5,rfl⟩
  have p4:=orF d0 q3;refine vb d0 (wa (f1) (wn (vr (B (!d.2.isNil)) (by rcases d7.m.cs with ⟨D,E⟩ | ⟨b_,D,E⟩ | ⟨b_,D,E⟩ <;> (subst D; rw [E]; kernel_rfl)) ?_)));obtain rfl:=si p4;refine va (B (!d.2.isNil)) ?_;rcases bo (!d.2.isNil) with e0 | e0
  ·obtain rfl:=orT e0 f2;refine vb e0 (pz (pz (va (B true) (wln ?_))));obtain ⟨e6,g7,l222,d5,h221⟩:=o0.frz 1 rfl (b0.mono (c1.trans (i2.trans j2)));exact ⟨e6,_,_,g7.symm,pt,us,d5,rfl⟩
  have t1:=orF e0 f2;refine vb e0 (wn (vx (leN 38 0 [I d.1.Kind,I d.1.A,I d.1.B,.slice s0 t0 u0] (o0.on 0 rfl)) (wn (vx (lN 38 (mm m8)) (wn ?_)))));obtain ⟨z9,i7,l227,e5,h7⟩:=o0.frz 1 rfl (b0.mono (c1.trans (i2.trans j2)));refine WL.gh i7 (bn t1 fun g4 j7 t1=>cl (cM e5 d.1 R h7 h2.m j7) ?_);rintro v235 f6 l234 ⟨f5,rfl⟩;refine wa (B (!g4)) ?_;obtain rfl:=si t1;exact va (B (!g4)) (wln (jn f6 ⟨f5,rfl⟩))
 rintro U w_ ⟨g6,g237,_,rfl,l236,rfl,z2,rfl⟩;refine nrm (cn H (fun k7 H=>?_) (fun k7 H=>?_))
 ·refine sr (va (B false) (wln (W.ret (thr ?_))));obtain rfl:=si H;have g5:=z2.sD 2 [];exact r1 (qq g6 ⟨g5,rfl⟩)
 refine W.skip ?_;have h5:=z2.sD 2 [];refine nrm (sr (va (.string f) (bn H fun a l7 H=>cl (db h5 (hG.m.le (by decide)) hT.m f l7) ?_)));rintro v256 c255 l255 ⟨d4,k0,s,i5,rfl,f0,a1⟩;refine va (.tuple #[.agg #[I a.1.Kind,I a.1.A,I a.1.B,d4],s]) (va (.agg #[I a.1.Kind,I a.1.A,I a.1.B,d4]) (va (s) (me (al 38 [I 0,I 0,I 0,Y] i5) ?_)));rintro v260 c259 d1 ⟨z,rfl,j5⟩;obtain ⟨g,h,i,rfl⟩:=((f0.mono d1)).form;refine md (sA 38 [I a.1.Kind,I a.1.A,I a.1.B,.slice g h i] 0 j5 ⟨rfl,rfl,rfl,f0.m.one,trivial⟩) ?_;rintro w0 k2 b2;refine va (s) (wln (W.seq (sr (va (s) (vr (B a.2.isNil) (by rcases a1.m.cs with ⟨D,E⟩ | ⟨b_,D,E⟩ | ⟨b_,D,E⟩ <;> (subst D; rw [E]; kernel_rfl)) (wln (cn H (fun m7 H=>?_) (fun m7 H=>?_))))))))
 ·refine W.seq (bn H fun l2 n7 H=>bn H fun d2 t3 H=>W.join (Jn w0 fun c l=>Own c G ((Eb z 38 [I a.1.Kind,I a.1.A,I a.1.B,.slice g h i]) :: es false (RI .u8) (.slice g h i) 5 k0 a.1.Bytes :: F)∧l= [(4,B d2)]) ?_ ?_)
  ·clear H;refine W.region (vx (leN 38 0 [I a.1.Kind,I a.1.A,I a.1.B,.slice g h i] (b2.on 0 rfl)) ?_);obtain ⟨c271,p7,c8,k5,o7⟩:=b2.frz 1 rfl (f0.mono (d1.trans k2));refine WL.gh p7 (cl (cu k5 a.1 o7 n7) ?_);rintro v278 h6 d8 ⟨q0,rfl⟩;rcases bo (l2) with g0 | g0
   ·have u1:=anT g0 t3;refine vb g0 (wn (vx (leN 38 0 [I a.1.Kind,I a.1.A,I a.1.B,.slice g h i] (q0.on 0 rfl)) (wn ?_)));have q7:=q0.slf 1 rfl (f0.mono (d1.trans (k2.trans (c8.trans d8))));refine bn u1 fun S r7 u1=>cl (cN q0 a.1 q7 r7) ?_;rintro v288 i6 l287 ⟨l5,rfl⟩;refine wa (.string f) (wn (vr (B (eqS S f)) (ed (by kernel_rfl)) ?_));obtain rfl:=si u1;exact vv (B (eqS S f)) (wln (jn i6 ⟨l5,rfl⟩))
   obtain rfl:=anF g0 t3;exact vb g0 (pz (pz (vv (B false) (wln (jn h6 ⟨q0,rfl⟩)))))
  rintro U w_ ⟨j6,g290,_,rfl,l289,rfl,m5,rfl⟩;refine nrm (W.ret (thr ?_));obtain rfl:=si H;have n5:=m5.sD 2 [];exact r1 (qq j6 ⟨n5,rfl⟩)
 refine W.skip (nrm (sr (va (I 1) (wln (W.seq (sr (va (I 0) (wln (W.block (bn H fun t u3 n=>lp u3 (fun b=>Jn w0 fun c l=>Own c G ((Eb z 38 [I a.1.Kind,I a.1.A,I a.1.B,.slice g h i]) :: es true (RI .u8) (.slice g h i) 5 k0 a.1.Bytes :: F)∧l= [(1,.string f),(8,Q z),(9,s),(10,I b.1),(11,I b.2)]) (fun e1 ex e w=>ex= .exit 0∧(Jn w0 fun c l=>Own c G ((Eb z 38 [I a.1.Kind,I a.1.A,I a.1.B,.slice g h i]) :: es true (RI .u8) (.slice g h i) 5 k0 a.1.Bytes :: F)∧l= [(8,Q z),(9,s),(10,I e1)]) e w) ?_ ?_ ?_))))))))))
 ·clear n u3;intro b p9 j3 e4 H;revert j3 e4;rintro U w_ ⟨x0,g299,_,rfl,l298,rfl,c2,rfl⟩;refine W.seq (sr (va (I b.2) (va (.string f) (vr (I (aR f)) (rx (by kernel_rfl) (cE (ty:=3) u_9 _)) (va (B (decide (b.2 < (aR f)))) (wln (cn H (fun s7 H=>?_) (fun s7 H=>?_))))))))
  ·refine W.skip (nrm (bn H fun m2 P q4=>W.seqJ (Jn x0 fun c l=>Own c G ((Eb z 38 [I a.1.Kind,I a.1.A,I a.1.B,.slice g h i]) :: es true (RI .u8) (.slice g h i) 5 k0 a.1.Bytes :: F)∧l= [(1,.string f),(8,Q z),(9,s),(10,I m2),(11,I b.2)]) ?_ ?_))
   ·refine W.block (sr (va (.string f) (va (I b.2) (bn P fun m0 t7 P=>vr (.int .u8 m0) (rx (by kernel_rfl) (cP (k:= .i64) u_9 t7 _)) (va (B (m0==32)) (wln (cn P (fun u7 P=>?_) (fun u7 P=>?_))))))))
    ·refine W.region (va (I b.1) (vv (I (w64 (b.1+1))) (WL.nil (bkn (nrm ?_)))));obtain rfl:=si P;exact jn x0 ⟨c2,rfl⟩
    refine W.skip (bkn (nrm ?_));obtain rfl:=si P;exact jn x0 ⟨c2,rfl⟩
   rintro U w_ ⟨k6,g310,_,rfl,l309,rfl,o5,rfl⟩;refine W.region (va (I b.2) (vv (I (w64 (b.2+1))) (WL.nil ?_)));obtain rfl:=si q4;exact ⟨_,rfl,jn k6 ⟨o5,rfl⟩⟩
  refine W.exit (thx ?_);obtain rfl:=si H;exact ⟨_,rfl,rfl,jn x0 ⟨c2,rfl⟩⟩
 ·exact jn w0 ⟨b2,rfl⟩
 rintro _ U w_ ⟨rfl,l6,g316,_,rfl,e8,rfl,b3,rfl⟩;refine bke (nrm (W.seq (bn n fun g1 v7 n=>bn n fun h4 v3 n=>bn n fun i4 g2 n=>bn n fun y0 b1 n=>W.join (Jn l6 fun c l=>Own c G ((Eb z 38 [I a.1.Kind,I a.1.A,I a.1.B,.slice g h i]) :: es false (RI .u8) (.slice g h i) 5 k0 a.1.Bytes :: F)∧l= [(4,B y0)]) ?_ ?_)))
 ·clear n;refine W.region (vx (leN 38 0 [I a.1.Kind,I a.1.A,I a.1.B,.slice g h i] (b3.on 0 rfl)) (va (.agg #[I 0,I 0,I 0,Y]) ?_));obtain ⟨c327,x7,l327,p5,w7⟩:=b3.frz 1 rfl (f0.mono (d1.trans (k2.trans e8)));refine WL.gh x7 (cl (cM p5 a.1 (⟨0,0,0,([]:List Int)⟩:aj) w7 (Sl.nl _ _) v7) ?_);rintro v334 m6 l333 ⟨c3,rfl⟩;rcases bo (g1) with h0 | h0
  ·have w1:=anT h0 v3;refine vb h0 (wa (s) (wn (bn w1 fun u y7 w1=>cl (gK c3 (hG.m.le (by decide)) a.2 a1.m y7) ?_)));rintro v343 n6 l342 ⟨d3,rfl⟩;refine wa (B (u==6)) ?_;obtain rfl:=si w1;refine va (B (u==6)) ?_;rcases bo (u==6) with i0 | i0
   ·have x1:=anT i0 g2;refine vb i0 (wa (s) (wn (bn x1 fun x z7 x1=>cl (gk d3 hU.m a.2 a1.m z7) ?_)));rintro v352 o6 l351 ⟨e3,rfl⟩;refine wa (B (decide (x≥0))) ?_;obtain rfl:=si x1;refine va (B (decide (x≥0))) ?_;rcases bo (decide (x≥0)) with j0 | j0
    ·have y1:=anT j0 b1;refine vb j0 (wa (s) (wn (bn y1 fun y a8 y1=>cl (gk e3 hU.m a.2 a1.m a8) ?_)));rintro v361 p6 l360 ⟨q5,rfl⟩;refine wa (I t) (wa (B (decide (y≤t))) ?_);obtain rfl:=si y1;exact vv (B (decide (y≤t))) (wln (jn p6 ⟨q5,rfl⟩))
    obtain rfl:=anF j0 b1;exact vb j0 (pz (pz (vv (B false) (wln (jn o6 ⟨e3,rfl⟩)))))
   obtain rfl:=anF i0 g2;refine vb i0 (pz (ps (va (B false) ?_)));have w3:false=false:=rfl;obtain rfl:=anF w3 b1;exact vb w3 (pz (pz (vv (B false) (wln (jn n6 ⟨d3,rfl⟩)))))
  obtain rfl:=anF h0 v3;refine vb h0 (pz (ps (va (B false) ?_)));have x3:false=false:=rfl;obtain rfl:=anF x3 g2;refine vb x3 (pz (ps (va (B false) ?_)));have y3:false=false:=rfl;obtain rfl:=anF y3 b1;exact vb y3 (pz (pz (vv (B false) (wln (jn m6 ⟨c3,rfl⟩)))))
 rintro U w_ ⟨q6,g366,_,rfl,l365,rfl,r5,rfl⟩;refine nrm (W.ret ?_);obtain rfl:=si n;have s5:=r5.sD 2 [];exact r1 (qq q6 ⟨s5,rfl⟩)
end Go.Proofs.YtmncdniojmigeaaGreatDoor
namespace Go.Proofs.YtmncdniojmigeaaGreatDoor
open Go Go.Lt
set_option maxRecDepth 10000
set_option linter.unusedVariables false
attribute [local irreducible] W WL AC
open Go.RowKit Go.Extern.Stop Go.Stop Go.Extern
set_option maxRecDepth 1000000 in
theorem jc {w:World} {fb:Nat} {u:Value} {r:Int} (hg:w.cell? ⟨8,0,none⟩=some (.iface 154 (.agg #[.pointer (some ⟨17,31,none⟩)]))) (h0:w.cell? ⟨fb,1,none⟩=some u)
  (hAt:∀w',bj w w' w.heap.size→Calls Tryz.prog 22 #[u] w' fun ev w''=>ev= .returned (.int .i64 r)∧bj w' w'' w'.heap.size):
  Calls Tryz.prog 31 #[.iface 87 (.pointer (some ⟨fb,0,none⟩))] w fun ev w'=>ev= .returned (.int .i64 r)∧bj w w' w.heap.size:=by
 have hlt:∀{b o:Nat} {v:Value},w.cell? ⟨b,o,none⟩=some v→b < w.heap.size:=fun {b o v} h=>by
  rcases bf b w.heap.size with h2 | h2
  ·exact h2
  ·simp [World.cell?,aQ h2] at h
 have hk1:=bj.one w #[.pointer none] 87 w.heap.size;have hg1:=hk1.cell (k:=8) 0 (hlt hg) (bL (hlt hg));have hcon:=mt ⟨fb,0,none⟩ w.heap.size (w.alloc (.cells #[.pointer none] 87)) (hg1.trans hg) (ge w _);have hfb:=hlt h0
 go_enter Tryz.func31,Tryz.ntmps31
 go_wp2_with (first | (go_at_call 53; refine hcon.mono ?_; rintro ev w' ⟨rfl,hc,hk⟩; have h3:=((hk1.trans hk).cell 1 hfb (bL hfb)).trans h0; have hk2:=hk1.trans hk) | (go_at_call 22; refine (hAt _ hk2).mono ?_; rintro ev w' ⟨rfl,hk3⟩) | go_in)
 go_ret
 exact ⟨rfl,⟨hk3.os.trans hk2.os,hk3.output.trans hk2.output,cD hk2.size hk3.size,fun k h hn=>(hk3.block k (aS h hk2.size) (by have:=hk2.size; omega)).trans (hk2.block k h hn),fun a ha=>(hk3.frz a (aS ha hk2.size)).trans (hk2.frz a ha)⟩⟩
def dT (p0:Er):Option Int:=match p0 with
 | .fault _ (.fault i _)=>some i
 | .fault _ (.sent _)=>some (-1)
 | _=>none
theorem fP {c0:Cx} {G:Gm} {F:List En} {v1:Value} (O0:Own c0 G F) (hU:Eh c0) (p0:Er) (h1:RE 230 87 c0 v1 p0) {r:Int} (H:dT p0=some r): Calls Tryz.prog 31 #[v1] c0.w (bG c0 fun c v=>Own c G F∧v= .int .i64 r):=by
 have keep:∀w',bj c0.w w' c0.w.heap.size→c0.but (fun _=>False) ⟨w',c0.A,c0.t⟩:=fun w' hk=>⟨⟨hk.os,hk.output,hk.size,fun k o h hA=>⟨hk.cell o h (bL h),hA⟩,fun k h _=>hk.block k h (bL h),fun a h _=>hk.frz a h,fun _ _ _ h=>h⟩,rfl,
   fun k h _=>⟨hk.block k h (bL h),fun _=>lv⟩⟩
 unfold dT at H;split at H
 ·cases H;obtain ⟨b,u,rfl,_,h2,b',u',rfl,h4,_,_⟩:=h1;refine (jc (r:=r) hU.cell h2.cell fun w' hk=>?_).mono ?_
  ·exact nR (((hk.cell 0 hU.lt (bL hU.lt)).trans hU.cell)) ((hk.cell 0 h4.lt (bL h4.lt)).trans h4.cell)
  ·rintro e w' ⟨rfl,hk⟩;exact ⟨_,⟨w',c0.A,c0.t⟩,rfl,rfl,(keep w' hk).le,O0.keep (keep w' hk),rfl⟩
 ·cases H;obtain ⟨b,u,rfl,_,h2,a,rfl,_,_⟩:=h1;refine (jc (r:= -1) hU.cell h2.cell fun w' hk=>?_).mono ?_
  ·exact mq (((hk.cell 0 hU.lt (bL hU.lt)).trans hU.cell))
  ·rintro e w' ⟨rfl,hk⟩;exact ⟨_,⟨w',c0.A,c0.t⟩,rfl,rfl,(keep w' hk).le,O0.keep (keep w' hk),rfl⟩
 ·cases H
end Go.Proofs.YtmncdniojmigeaaGreatDoor
namespace Go.Proofs.YtmncdniojmigeaaGreatDoor
open Go Go.Lt
set_option maxRecDepth 10000
set_option linter.unusedVariables false
attribute [local irreducible] W WL AC
open Tryz
variable {c0:Cx} {G:Gm} {F:List En} {sg:Sto} {v1 v2 v3 v4 v5 v6 v7 v8 v9 v10 v11 v12 v13 v14 v15 v16 v17 v18 v19 v20 v21 v22 v23 v24 v25 v26 v27 v28 v29 v30 v31 v32 v33 v34 v35 v36 v37 v38 v39 v40 v41 v42 v43 v44 v45 v46 v47 v48 v49 v50 v51 v52 v53 v54 v55 v56 v57 v58 v59 v60:Value}
def ax (sg:Sto) (p0:Option Nat) (p1:Int) (p2:ByteArray):Option (Sto×Er):=
 if (decide (p1 > 0))=true then
 (aC p2).bind fun j=>
 (p0).bind fun h=>
 (sg.script_Script[h]?).bind fun c=>
 (app c.Ops ([j.1]:List aj)).bind fun k=>
 (sg.set_script_Script h (⟨c.W,c.H,k⟩:af)).bind fun e=>
 some (e,j.2)
 else
 (cJ p2 (⟨#[32]⟩:ByteArray)).bind fun i=>
 (idx i 0).bind fun l=>
 if (!(eqS l (⟨#[115,105,122,101]⟩:ByteArray)))=true then
 (aM 0).bind fun m=>
 some (sg,m)
 else
 (ci i 1 2).bind fun a=>
 (p0).bind fun b=>
 (sg.script_Script[b]?).bind fun d=>
 (sg.set_script_Script b (⟨a.1.1,d.H,d.Ops⟩:af)).bind fun f=>
 (f.set_script_Script b (⟨a.1.1,a.1.2,d.Ops⟩:af)).bind fun g=>
 some (g,a.2)
theorem gi (O0:Own c0 G F) (R0:Rel c0 sg G) (hG:Gl [5] c0) (hT:Et c0) (p0:Option Nat) (p1:Int) (U:ByteArray) {r:Sto×Er} (h2:Pt 0 c0 v1 p0) (H:ax sg p0 p1 U=some r): Calls prog 40 #[v1,I p1,.string U] c0.w (bG c0 fun c v=>∃y1,∃G_:Gm,Own c G_ (F)∧Rel c r.1 G_∧v=y1∧RE 230 87 c y1 r.2):=by
 unfold ax at H;refine en func40 rfl rfl (sr (va (.nilIface) (wln (W.seq (sr (va (I p1) (va (B (decide (p1 > 0))) (wln (cn H (fun h3 H=>?_) (fun h3 H=>?_))))))))))
 ·refine sr (va (.string U) (bn H fun a h4 H=>cl (db O0 (hG.le (by decide)) hT U h4) ?_));rintro v15 d5 o0 ⟨v5,u6,v8,s2,rfl,h7,h9⟩;refine va (.tuple #[.agg #[I a.1.Kind,I a.1.A,I a.1.B,v5],v8]) (va (.agg #[I a.1.Kind,I a.1.A,I a.1.B,v5]) (va (v8) (me (al 38 [I 0,I 0,I 0,Y] s2) ?_)));rintro v19 e5 x ⟨u,rfl,t2⟩;obtain ⟨f,g,h,rfl⟩:=((h7.mono x)).form;refine md (sA 38 [I a.1.Kind,I a.1.A,I a.1.B,.slice f g h] 0 t2 ⟨rfl,rfl,rfl,h7.m.one,trivial⟩) ?_;rintro f5 R u2;refine va (v8) (wln (W.seq (rD [7,10] (Kp G [(Eb u 38 [I a.1.Kind,I a.1.A,I a.1.B,.slice f g h])]) u2 ?_)));intro d3 S b0;have c1:Kp G [(Eb u 38 [I a.1.Kind,I a.1.A,I a.1.B,.slice f g h])] d3:=(Kp.cons (b0.on 0 rfl) (Kp.nil b0));refine ta 0 (v1) (ta 1 (v1) (bn H fun w4 l3 H=>?_));obtain ⟨o,rfl,w0⟩:=((h2.mono (o0.trans (x.trans (R.trans S))))).get l3;refine ta 2 (Q o) (ta 3 (Qo o 2) (bn H fun q m3 H=>?_));obtain ⟨v32,k5,x0,n3⟩:=Rel.open_script_Script (R0.mono (o0.trans (x.trans (R.trans S)))) m3 w0;refine tkx 4 c1 (fun c' l0 z=>le1 2 eg (z.gon x0 0 rfl)) (tkx 5 c1 (fun c' l0 z=>leN 38 0 [I a.1.Kind,I a.1.A,I a.1.B,.slice f g h] (z.on 0 rfl)) ?_);obtain ⟨e3,p3,z0,d0,o3⟩:=b0.frz 1 rfl (h7.mono (x.trans (R.trans S)));have i4:Kp G [(Eb u 38 [I a.1.Kind,I a.1.A,I a.1.B,.slice f g h])] e3:=(Kp.cons (d0.on 0 rfl) (Kp.nil d0));refine AC.gh p3 z0 (fun _=>i4) (o1 6 (gm 6 (sl bq 38 [[I a.1.Kind,I a.1.A,I a.1.B,.slice f g h]] ([a.1]:List aj) d0 ⟨⟨(.slice f g h),rfl,o3⟩,trivial⟩) ?_));rintro v45 f3 d4 ⟨l5,e0,q3⟩;have j4:Kp G [(Eb u 38 [I a.1.Kind,I a.1.A,I a.1.B,.slice f g h])] f3:=(Kp.cons (e0.on 1 rfl) (Kp.nil e0));refine ⟨.inr j4,?_⟩;obtain ⟨g3,t3,a1,f0,s3⟩:=e0.frz 0 rfl q3;have k4:Kp G [(Eb u 38 [I a.1.Kind,I a.1.A,I a.1.B,.slice f g h])] g3:=(Kp.cons (f0.on 1 rfl) (Kp.nil f0));refine AC.gh t3 a1 (fun _=>k4) (bn H fun i2 u3 H=>?_);have v2:=f0.borrow 1 x0 rfl;refine o1 7 (gm 7 (ap bq (.agg #[I 0,I 0,I 0,Y]) 48 22 0 v2 n3.m s3 u3 eg) ?_);rintro v58 g5 e4 ⟨d1,w2,j0⟩;have x2:=w2.giveB 1 rfl;refine ⟨.inl rfl,ta 8 (Q o) (ta 9 (Qo o 2) ?_)⟩;obtain ⟨k,l,n,rfl⟩:=(j0).form;refine o1 10 (gD 10 (Own.stGB (T:=22) (j:=2) (us:=[.slice k l n]) (nw:=[I q.W,I q.H,.slice k l n]) (v:= .slice k l n) 0 x2 (by kernel_rfl) rfl rfl rfl rfl (by kernel_rfl) ⟨(j0).one,trivial⟩ (by kernel_rfl) rfl) ?_);rintro i3 b1 y2;refine bn H fun l2 v3 H=>?_;obtain ⟨o2,z2,c3,i5,c5⟩:=Rel.put_script_Script y2 (R0.mono (o0.trans (x.trans (R.trans (S.trans (z0.trans (d4.trans (a1.trans (e4.trans b1))))))))) (E':=[(Eb o 24 [I q.W,I q.H,.slice k l n]),es false bq (.slice k l n) 38 d1 i2]) v3 ⟨o,(.slice k l n),d1,(tm w0),rfl,(j0.mono b1)⟩;refine ⟨.inl rfl,dn (nrm (sr (vv (v8) (wln (W.ret (thr ?_))))))⟩;obtain rfl:=si H;have a3:=z2.sD 3 [];exact r1 (qq i3 ⟨v8,o2,a3,c3,rfl,h9.m⟩)
 refine W.skip (nrm (sr (va (.string U) (bn H fun j2 w3 H=>cl (fR O0 hT U (⟨#[32]⟩:ByteArray) w3) ?_))));rintro t0 h5 q0 ⟨_,v0,rfl,k0⟩;refine va (t0) (wln (W.seq (sr (va (t0) (bn H fun k2 y0 H=>?_)))));obtain ⟨y4,x3,f4⟩:=Sl.at k0 (bS y0);obtain rfl:=x3;refine vx (ix fv k0 y0) (vx (l1 u_9 (f4 0 _ rfl)) (vr (B (!(eqS k2 (⟨#[115,105,122,101]⟩:ByteArray)))) (eV (by kernel_rfl)) (wln (cn H (fun y3 H=>?_) (fun y3 H=>?_)))))
 ·refine sr (bn H fun b5 z3 H=>cl (bP v0 (hG.m.le (by decide)) 0 z3) ?_);rintro e1 j3 j5 ⟨_,b3,rfl,a4⟩;refine va (e1) (wln (W.ret (thr ?_)));obtain rfl:=si H;exact r1 (qq j3 ⟨e1,G,b3,R0.m,rfl,a4⟩)
 refine W.skip (nrm (sr (va (t0) (bn H fun b b4 H=>cl (fG v0 (hG.m.le (by decide)) hT.m j2 1 2 k0 b4) ?_))));rintro z4 p4 D ⟨p,g1,rfl,c4⟩;refine va (.tuple #[.agg #[I b.1.1,I b.1.2],p]) (va (.agg #[I b.1.1,I b.1.2]) (va (p) (me (al 82 [I 0,I 0] g1) ?_)));rintro a5 q4 E ⟨i,rfl,h1⟩;refine md (sA 82 [I b.1.1,I b.1.2] 0 h1 ⟨rfl,rfl,trivial⟩) ?_;rintro r4 M i1;refine va (p) (wln (W.seq (rD [] (Kp G0 [(Eb i 82 [I b.1.1,I b.1.2])]) i1 ?_)));intro t1 N X;have s0:Kp G0 [(Eb i 82 [I b.1.1,I b.1.2])] t1:=(Kp.cons (X.on 0 rfl) Kp.nil0);refine ta 0 (v1) (ta 1 (v1) (ta 2 (Q i) (tkx 3 s0 (fun c' l0 z=>le1 0 u_3 (z.on 0 rfl)) (ta 4 (Qo i 1) (tkx 5 s0 (fun c' l0 z=>le1 1 u_3 (z.on 0 rfl)) (bn H fun x4 w1 H=>?_))))));obtain ⟨d,rfl,y⟩:=((h2.mono (q0.trans (D.trans (E.trans (M.trans N)))))).get w1;refine ta 6 (Q d) (ta 7 (Q d) (bn H fun s x1 H=>?_));obtain ⟨e,t,z1,i0⟩:=Rel.open_script_Script (R0.mono (q0.trans (D.trans (E.trans (M.trans N))))) x1 y;refine o1 8 (gD 8 (gC 3 0 (I b.1.1) [I b.1.1,I s.H,e] 0 X z1 ⟨rfl,trivial⟩) ?_);rintro u1 P j1;refine bn H fun m2 c2 H=>?_;obtain ⟨m4,Z,n1,b2,n4⟩:=Rel.put_script_Script j1 (R0.mono (q0.trans (D.trans (E.trans (M.trans (N.trans P)))))) (E':=[(Eb d 24 [I b.1.1,I s.H,e]),es false bq e 38 t s.Ops]) c2 ⟨d,e,t,(tm y),rfl,(i0.mono P)⟩;have f2:Kp G0 [(Eb i 82 [I b.1.1,I b.1.2])] u1:=(Kp.cons (Z.on 0 rfl) Kp.nil0);refine ⟨.inr f2,ta 9 (Q d) (ta 10 (Qo d 1) (o1 11 (gD 11 (gC 3 1 (I b.1.2) [I b.1.1,I b.1.2,e] 0 Z b2 ⟨rfl,trivial⟩) ?_)))⟩;rintro h0 m0 k1;refine bn H fun n2 d2 H=>?_;obtain ⟨f1,a0,q1,s4,o4⟩:=Rel.put_script_Script k1 (n1.mono m0) (E':=[(Eb d 24 [I b.1.1,I b.1.2,e]),es false bq e 38 t s.Ops]) d2 ⟨d,e,t,(tm y),rfl,(i0.mono (P.trans m0))⟩;have g2:Kp G0 [(Eb i 82 [I b.1.1,I b.1.2])] h0:=(Kp.cons (a0.on 0 rfl) Kp.nil0);refine ⟨.inr g2,dn (nrm (sr (vv (p) (wln (W.ret ?_)))))⟩;obtain rfl:=si H;have m1:=a0.sD 1 [];exact r1 (qq h0 ⟨p,f1,m1,q1,rfl,c4.m⟩)
def cm (sg:Sto) (p0:ByteArray):Option (Sto×af×Er):=
 if (decide ((aR p0) > 65536))=true then
 some (sg,(⟨0,0,([]:List aj)⟩:af),(Er.sent 0))
 else
 (some (sg.add_script_Script (⟨0,0,([]:List aj)⟩:af))).bind fun e=>
 (cT (σ:=ByteArray×Int×Sto) (τ:=(Sto×af×Er) ⊕ Sto) ((p0.size+2)) (fun a=>
 (orE (a.2.1==0) (some (!(eqS a.1 (⟨#[]⟩:ByteArray))))).bind fun f=>
 if f=true then
 (ck a.1 (⟨#[10]⟩:ByteArray)).bind fun d=>
 if (!d.2.2)=true then
 (em a.2.1 (Er.sent 1)).bind fun h=>
 some (.inr (.inl (a.2.2,(⟨0,0,([]:List aj)⟩:af),h)))
 else
 (ax a.2.2 (some sg.script_Script.length) a.2.1 d.1).bind fun c=>
 if (!c.2.isNil)=true then
 (em a.2.1 c.2).bind fun i=>
 some (.inr (.inl (c.1,(⟨0,0,([]:List aj)⟩:af),i)))
 else
 some (.inl (d.2.1,(w64 (a.2.1+1)),c.1))
 else
 some (.inr (.inr (a.2.2)))) (p0,0,e)).bind fun b=>
 match b with
 | .inl b=>
 some b
 | .inr b=>
 (b.script_Script[sg.script_Script.length]?).bind fun g=>
 some (b,g,Er.nil)
theorem gB (O0:Own c0 G F) (R0:Rel c0 sg G) (hG:Gl [0,1,5] c0) (hT:Et c0) (Z:ByteArray) {r:Sto×af×Er} (H:cm sg Z=some r): Calls prog 14 #[.string Z] c0.w (bG c0 fun c v=>∃y1 y2,∃G_:Gm,Own c G_ (F)∧Rel c r.1 G_∧v= .tuple #[.agg #[I r.2.1.W,I r.2.1.H,y1],y2]∧Sl bq c y1 r.2.1.Ops∧RE 230 87 c y2 r.2.2):=by
 unfold cm at H;refine en func14 rfl rfl (sr (me (al 24 [I 0,I 0,Y] O0) ?_));rintro v4 c3 l3 ⟨i,rfl,O2⟩;refine va (.nilIface) (wln (W.seq (sr (va (.string Z) (vr (I (aR Z)) (rx (by kernel_rfl) (cE (ty:=3) u_9 _)) (va (B (decide ((aR Z) > 65536))) (wln (cn H (fun h5 H=>?_) (fun h5 H=>?_)))))))))
 ·refine W.seq (rD [] (Kp G0 []) O2 ?_);intro c6 l6 O7;have p8:Kp G0 [] c6:=Kp.nil0;refine ta 0 (.agg #[I 0,I 0,Y]) ?_;obtain ⟨v9,q0⟩:=(hG.mono (l3.trans l6)).get 0 (by decide);refine tx 1 (fun c' m4=>l1 jd q0.m.im) (o1 2 (gD 2 (sA 24 [I 0,I 0,Y] 0 O7 ⟨rfl,rfl,rfl,trivial⟩) ?_));rintro N n4 f0;have i3:Kp G0 [] N:=Kp.nil0;refine ⟨.inr i3,ta 3 (v9) (dn (nrm (W.ret (thr ?_))))⟩;obtain rfl:=si H;have u1:=f0.sD 1 [];exact er (c:=N) (vs:=[I 0,I 0,Y]) (v:=v9) rfl (by kernel_rfl) (by kernel_rfl) (by kernel_rfl) (by kernel_rfl) (f0.on 0 rfl _ rfl).1 ⟨_,N,rfl,rfl,pt,(Y),v9,G,u1,R0.m,rfl,(Sl.nl _ _),q0.m⟩
 refine W.skip (nrm (sr ?_));have n2:OA bq c3 (Y) [] []:=OA.nil (be _);have v1:=O2.addHole (e:=es false bq (Y) 38 [] ([]:List aj)) rfl;refine me (al 24 [I 0,I 0,(Y)] v1) ?_;rintro v20 d4 X ⟨g,rfl,w1⟩;have z1:=w1.sD 3 [0,1,2];refine bn H fun q1 o2 H=>?_;obtain ⟨k,s1,p2,e3,s0,b2,l0,k4,l4,c4⟩:=Rel.new_script_Script (E:=[(Eb g 24 [I 0,I 0,(Y)]),es false bq (Y) 38 [] ([]:List aj)]) (F:=(Eb i 24 [I 0,I 0,Y]) :: F) (x:=(⟨0,0,([]:List aj)⟩:af)) (b:=g) z1 (R0.mono (l3.trans X)) (fun c_ hle_=>⟨g,(Y),[],rfl,rfl,((n2.mono X).mono hle_)⟩);rw [ao o2] at l0;refine WL.gh p2.1 ?_;have q2:Pt 0 k (Q g) (some sg.script_Script.length):=⟨g,rfl,s0⟩;refine wln (W.seq (sr (va (I 0) (wln (W.block (bn H fun h t0 j=>lp t0 (fun a=>Jn k fun c l=>∃G_,Own c G_ ((Eb i 24 [I 0,I 0,Y]) :: F)∧l= [(0,.string a.1),(2,Q i),(4,Q g),(5,I a.2.1)]∧Rel c a.2.2 G_) (fun t=>match t with | .inl x_=>(fun o ex e w=>ex= .ret∧(Jn k fun c l=>∃v36 v37 G_,Own c G_ ((Eb i 24 [I o.2.1.W,I o.2.1.H,v36]) :: F)∧l= [(2,Q i),(3,v37)]∧Rel c o.1 G_∧Sl bq c v36 o.2.1.Ops∧RE 230 87 c v37 o.2.2) e w) x_ | .inr x_=>(fun d0 ex e w=>ex= .exit 0∧(Jn k fun c l=>∃G_,Own c G_ ((Eb i 24 [I 0,I 0,Y]) :: F)∧l= [(2,Q i),(4,Q g)]∧Rel c d0 G_) e w) x_) ?_ ?_ ?_))))))
 ·clear j t0;intro a w4 l2 j3 H;revert l2 j3;rintro e_ w_ ⟨R,h4,_,rfl,f3,rfl,z,g0,rfl,M⟩;refine W.seq (W.seq (bn H fun f1 u0 H=>W.join (Jn R fun c l=>Own c z ((Eb i 24 [I 0,I 0,Y]) :: F)∧l= [(0,.string a.1),(2,Q i),(4,Q g),(5,I a.2.1),(20,B f1)]) ?_ ?_))
  ·clear H;refine W.region (va (I a.2.1) (va (B (a.2.1==0)) ?_));rcases bo (a.2.1==0) with n | n
   ·obtain rfl:=orT n u0;exact vb n (pz (va (B true) (wln (jn R ⟨g0,rfl⟩))))
   have t1:=orF n u0;refine vb n (wa (.string a.1) (wn (vr (B (!(eqS a.1 (⟨#[]⟩:ByteArray)))) (eV (by kernel_rfl)) ?_)));obtain rfl:=si t1;exact va (B (!(eqS a.1 (⟨#[]⟩:ByteArray)))) (wln (jn R ⟨g0,rfl⟩))
  rintro e_ w_ ⟨h2,i4,_,rfl,g3,rfl,h0,rfl⟩;refine nrm (cn H (fun s2 H=>?_) (fun s2 H=>?_))
  ·refine W.skip (nrm (W.seq (W.block (sr (va (.string a.1) (bn H fun d t2 H=>cl (jW h0 hT.m a.1 (⟨#[10]⟩:ByteArray) t2) ?_))))));rintro v60 e4 h3 ⟨i0,rfl⟩;refine va (.tuple #[.string d.1,.string d.2.1,B d.2.2]) (va (.string d.1) (va (.string d.2.1) (va (B d.2.2) (va (.string d.1) (va (.string d.2.1) (va (B d.2.2) (wln (W.seq (sr (va (B d.2.2) (va (B (!d.2.2)) (wln (cn H (fun u2 H=>?_) (fun u2 H=>?_))))))))))))))
   ·refine sr (va (.agg #[I 0,I 0,Y]) (va (I a.2.1) ?_));obtain ⟨u4,v0⟩:=(hG.mono (l3.trans (X.trans (e3.trans (f3.trans (g3.trans h3)))))).get 1 (by decide);refine vx (l1 jd v0.im) (bn H fun a4 v2 H=>cl (gj i0 a.2.1 (Er.sent 1) v0 v2) ?_);rintro x0 f4 o4 ⟨_,c2,rfl,w2⟩;refine md (sA 24 [I 0,I 0,Y] 0 c2 ⟨rfl,rfl,rfl,trivial⟩) ?_;rintro i2 p4 d2;refine va (x0) (wln (W.ret (thr (bkr (thr ?_)))));obtain rfl:=si H;exact ⟨_,rfl,⟨rfl,jn i2 ⟨(Y),x0,z,d2,rfl,M.m,(Sl.nl _ _),w2.m⟩⟩⟩
   refine W.skip (nrm (sr (vv (.string d.2.1) (wln (sr (va (I a.2.1) (va (.string d.1) (bn H fun b0 x2 H=>cl (gi i0 M.m (hG.m.le (by decide)) hT.m (some sg.script_Script.length) a.2.1 d.1 q2.m x2) ?_))))))));rintro a0 j2 q4 ⟨_,e0,j0,m0,rfl,w0⟩;refine va (a0) (wln (sr (va (a0) (vr (B (!b0.2.isNil)) (by rcases (w0).cs with ⟨T,U⟩ | ⟨b_,T,U⟩ | ⟨b_,T,U⟩ <;> (subst T; rw [U]; kernel_rfl)) (wln (cn H (fun z2 H=>?_) (fun z2 H=>?_)))))))
   ·refine sr (va (.agg #[I 0,I 0,Y]) (va (I a.2.1) (va (a0) (bn H fun b4 a3 H=>cl (gj j0 a.2.1 b0.2 w0 a3) ?_))));rintro y0 g4 r4 ⟨_,e2,rfl,b3⟩;refine md (sA 24 [I 0,I 0,Y] 0 e2 ⟨rfl,rfl,rfl,trivial⟩) ?_;rintro k2 s4 f2;refine va (y0) (wln (W.ret (bkr (thr ?_))));obtain rfl:=si H;exact ⟨_,rfl,⟨rfl,jn k2 ⟨(Y),y0,e0,f2,rfl,m0.m,(Sl.nl _ _),b3.m⟩⟩⟩
   refine W.skip (bkn (nrm (W.region (va (I a.2.1) (vv (I (w64 (a.2.1+1))) (WL.nil ?_))))));obtain rfl:=si H;exact ⟨_,rfl,jn j2 ⟨e0,j0,rfl,m0⟩⟩
  refine W.exit (thx ?_);obtain rfl:=si H;exact ⟨_,rfl,rfl,jn h2 ⟨z,h0,rfl,M.m⟩⟩
 ·exact jn k ⟨s1,b2,rfl,l0⟩
 rcases h with h | h
 ·intro m2; revert m2;rintro _ e_ w_ ⟨rfl,o0,j4,_,rfl,t4,rfl,v36,v37,z0,k0,rfl,e1,d3,h1⟩;refine bkr (thr ?_);obtain rfl:=si j;have c1:=k0.sD 1 [];exact er (c:=o0) (vs:=[I h.2.1.W,I h.2.1.H,v36]) (v:=v37) rfl (by kernel_rfl) (by kernel_rfl) (by kernel_rfl) (by kernel_rfl) (k0.on 0 rfl _ rfl).1 ⟨_,o0,rfl,rfl,pt,v36,v37,z0,c1,e1,rfl,d3,h1⟩
 rintro _ e_ w_ ⟨rfl,q3,u3,_,rfl,w3,rfl,a1,p,rfl,D⟩;refine bke (nrm (sr (bn j fun f i1 j=>?_)));obtain ⟨m1,z3,S,j1⟩:=Rel.open_script_Script D i1 (tm s0);refine vx (leN 24 0 [I f.W,I f.H,m1] (p.gon S 0 rfl)) ?_;have y:=j1.sl (p.gon S 1 rfl);obtain ⟨q,s,u,rfl⟩:=(y).form;refine md (sA 24 [I f.W,I f.H,.slice q s u] 0 p ⟨rfl,rfl,y.one,trivial⟩) ?_;rintro P x3 A;refine va (.nilIface) (wln (W.ret ?_));obtain rfl:=si j;have d1:=A.sD 1 [];exact er (c:=P) (vs:=[I f.W,I f.H,.slice q s u]) (v:= .nilIface) rfl (by kernel_rfl) (by kernel_rfl) (by kernel_rfl) (by kernel_rfl) (A.on 0 rfl _ rfl).1 ⟨_,P,rfl,rfl,pt,(.slice q s u),.nilIface,a1,d1,D.m,rfl,y.m,rfl⟩
def bm (sg:Sto) (p0:ByteArray):Option (Sto×Bool):=
 (aH).bind fun w=>
 (orE (!w) (some (decide ((aR p0) > 20000)))).bind fun v=>
 if v=true then
 (aH).bind fun q=>
 some (sg,q)
 else
 (cm sg p0).bind fun a=>
 if a.2.2.isNil=true then
 (co a.2.1).bind fun r=>
 (bW r ((bM a.2.1.W a.2.1.H a.2.1.Ops).bind fun s=>
 some (eqS s p0))).bind fun i=>
 some (a.1,i)
 else
 (cT (σ:=Int×Int) (τ:=Int) (((aR p0) - 0).toNat+1) (fun b=>
 if (decide (b.2 < (aR p0)))=true then
 ((eU p0 b.2).bind fun t=>
 if (t==10)=true then
 some ((w64 (b.1+1)))
 else
 some (b.1)).bind fun u=>
 some (.inl (u,(w64 (b.2+1))))
 else
 some (.inr (b.1))) (0,0)).bind fun p=>
 (cv a.2.2).bind fun c=>
 (dP a.2.2).bind fun d=>
 (bW (a.2.1.W==0) (some (a.2.1.H==0))).bind fun j=>
 (bW j (some ((a.2.1.Ops.length:Int)==0))).bind fun k=>
 (bW k (some (decide (d≥0)))).bind fun l=>
 (bW l (some (decide (d≤p)))).bind fun m=>
 (bW m ((bW (c==2) ((dT a.2.2).bind fun g=>
 some (g==(-1)))).bind fun o=>
 (orE o ((bW (c==6) ((dT a.2.2).bind fun h=>
 some (decide (h≥0)))).bind fun f=>
 some f)).bind fun e=>
 some e)).bind fun n=>
 some (a.1,n)
theorem eY (O0:Own c0 G F) (R0:Rel c0 sg G) (hG:Gl [0,1,2,3,4,5,6,7] c0) (hU:Eh c0) (hT:Et c0) (n:ByteArray) {r:Sto×Bool} (H:bm sg n=some r): Calls prog 6 #[.string n] c0.w (bG c0 fun c v=>∃G_:Gm,Own c G_ (F)∧Rel c r.1 G_∧v=B r.2):=by
 unfold bm at H;refine en func6 rfl rfl (sr (va (B false) (wln (W.seq (W.seq (bn H fun e2 h1 H=>bn H fun w3 h2 H=>W.join (Jn c0 fun c l=>Own c G (F)∧l= [(0,.string n),(15,B w3)]) ?_ ?_))))))
 ·clear H;refine W.region (cl (bH O0 (hG.le (by decide)) hT h1) ?_);rintro v8 c7 l7 ⟨O4,rfl⟩;refine va (B (!e2)) ?_;rcases bo (!e2) with h9 | h9
  ·obtain rfl:=orT h9 h2;exact vb h9 (pz (ps (va (B true) (wln (jn c7 ⟨O4,rfl⟩)))))
  have c3:=orF h9 h2;refine vb h9 (wa (.string n) (wn (vr (I (aR n)) (rx (by kernel_rfl) (cE (ty:=3) u_9 _)) (wa (B (decide ((aR n) > 20000))) ?_))));obtain rfl:=si c3;exact va (B (decide ((aR n) > 20000))) (wln (jn c7 ⟨O4,rfl⟩))
 rintro e_ w_ ⟨g5,k5,_,rfl,p5,rfl,z1,rfl⟩;refine nrm (cn H (fun y3 H=>?_) (fun y3 H=>?_))
 ·refine sr (bn H fun z2 z3 H=>cl (bH z1 (hG.m.le (by decide)) hT.m z3) ?_);rintro v24 p3 q5 ⟨e3,rfl⟩;refine va (B z2) (wln (W.ret (thr ?_)));obtain rfl:=si H;exact r1 (qq p3 ⟨G,e3,R0.m,rfl⟩)
 refine W.skip (nrm (sr (va (.string n) (bn H fun a b4 H=>cl (gB z1 R0.m (hG.m.le (by decide)) hT.m n b4) ?_))));rintro v35 h5 r5 ⟨v26,v28,s,f3,b2,rfl,f0,U⟩;refine va (.tuple #[.agg #[I a.2.1.W,I a.2.1.H,v26],v28]) (va (.agg #[I a.2.1.W,I a.2.1.H,v26]) (va (v28) (me (al 24 [I 0,I 0,Y] f3) ?_)));rintro v39 i5 j4 ⟨i,rfl,g3⟩;obtain ⟨u,x,y,rfl⟩:=((f0.mono j4)).form;refine md (sA 24 [I a.2.1.W,I a.2.1.H,.slice u x y] 0 g3 ⟨rfl,rfl,f0.m.one,trivial⟩) ?_;rintro o0 s5 t0;refine va (v28) (wln (W.seq (sr (va (v28) (vr (B a.2.2.isNil) (by rcases U.m.cs with ⟨q1,s1⟩ | ⟨b_,q1,s1⟩ | ⟨b_,q1,s1⟩ <;> (subst q1; rw [s1]; kernel_rfl)) (wln (cn H (fun c4 H=>?_) (fun c4 H=>?_))))))))
 ·refine W.seq (bn H fun a3 d4 H=>bn H fun s2 c2 H=>W.join (Jn o0 fun c l=>Own c s ((Eb i 24 [I a.2.1.W,I a.2.1.H,.slice u x y]) :: F)∧l= [(2,B s2)]) ?_ ?_)
  ·clear H;refine W.region (vx (leN 24 0 [I a.2.1.W,I a.2.1.H,.slice u x y] (t0.on 0 rfl)) (cl (eB t0 a.2.1 f0.m d4) ?_));rintro v53 q3 t5 ⟨e0,rfl⟩;rcases bo (a3) with g0 | g0
   ·have s0:=anT g0 c2;refine vb g0 (wa (Q i) (wn (vx (le1 0 u_3 (e0.on 0 rfl)) (wa (Qo i 1) (wn (vx (le1 1 u_3 (e0.on 0 rfl)) (wa (Qo i 2) (wn (vx (le1 2 eg (e0.on 0 rfl)) (wn (bn s0 fun m0 e4 s0=>cl (eL e0 a.2.1.W a.2.1.H a.2.1.Ops f0.m e4) ?_)))))))))));rintro z5 s3 u5 ⟨i3,rfl⟩;refine wa (.string n) (wn (vr (B (eqS m0 n)) (ed (by kernel_rfl)) ?_));obtain rfl:=si s0;exact vv (B (eqS m0 n)) (wln (jn s3 ⟨i3,rfl⟩))
   obtain rfl:=anF g0 c2;exact vb g0 (pz (pz (pz (pz (ps (vv (B false) (wln (jn q3 ⟨e0,rfl⟩))))))))
  rintro e_ w_ ⟨t3,l5,_,rfl,v5,rfl,j3,rfl⟩;refine nrm (W.ret (thr ?_));obtain rfl:=si H;have k3:=j3.sD 1 [];exact r1 (qq t3 ⟨s,k3,b2.m,rfl⟩)
 refine W.skip (nrm (sr (va (I 0) (wln (W.seq (sr (va (I 0) (wln (W.block (bn H fun b0 d2 f=>lp d2 (fun d=>Jn o0 fun c l=>Own c s ((Eb i 24 [I a.2.1.W,I a.2.1.H,.slice u x y]) :: F)∧l= [(0,.string n),(3,Q i),(4,v28),(5,I d.1),(6,I d.2)]) (fun y1 ex e w=>ex= .exit 0∧(Jn o0 fun c l=>Own c s ((Eb i 24 [I a.2.1.W,I a.2.1.H,.slice u x y]) :: F)∧l= [(3,Q i),(4,v28),(5,I y1)]) e w) ?_ ?_ ?_))))))))))
 ·clear f d2;intro d a6 x3 k4 H;revert x3 k4;rintro e_ w_ ⟨q0,m5,_,rfl,w5,rfl,u0,rfl⟩;refine W.seq (sr (va (I d.2) (va (.string n) (vr (I (aR n)) (rx (by kernel_rfl) (cE (ty:=3) u_9 _)) (va (B (decide (d.2 < (aR n)))) (wln (cn H (fun f4 H=>?_) (fun f4 H=>?_))))))))
  ·refine W.skip (nrm (bn H fun b3 t d3=>W.seqJ (Jn q0 fun c l=>Own c s ((Eb i 24 [I a.2.1.W,I a.2.1.H,.slice u x y]) :: F)∧l= [(0,.string n),(3,Q i),(4,v28),(5,I b3),(6,I d.2)]) ?_ ?_))
   ·refine W.block (sr (va (.string n) (va (I d.2) (bn t fun v1 g4 t=>vr (.int .u8 v1) (rx (by kernel_rfl) (cP (k:= .i64) u_9 g4 _)) (va (B (v1==10)) (wln (cn t (fun h4 t=>?_) (fun h4 t=>?_))))))))
    ·refine W.region (va (I d.1) (vv (I (w64 (d.1+1))) (WL.nil (bkn (nrm ?_)))));obtain rfl:=si t;exact jn q0 ⟨u0,rfl⟩
    refine W.skip (bkn (nrm ?_));obtain rfl:=si t;exact jn q0 ⟨u0,rfl⟩
   rintro e_ w_ ⟨v3,n5,_,rfl,x5,rfl,l3,rfl⟩;refine W.region (va (I d.2) (vv (I (w64 (d.2+1))) (WL.nil ?_)));obtain rfl:=si d3;exact ⟨_,rfl,jn v3 ⟨l3,rfl⟩⟩
  refine W.exit (thx ?_);obtain rfl:=si H;exact ⟨_,rfl,rfl,jn q0 ⟨u0,rfl⟩⟩
 ·exact jn o0 ⟨t0,rfl⟩
 rintro _ e_ w_ ⟨rfl,j5,o5,_,rfl,y5,rfl,m3,rfl⟩;refine bke (nrm (sr (va (v28) (bn f fun j i4 f=>cl (gK m3 (hG.m.le (by decide)) a.2.2 U.m i4) ?_))));rintro b5 n4 v4 ⟨n3,rfl⟩;refine va (v28) (bn f fun o u2 f=>cl (gk n3 hU.m a.2.2 U.m u2) ?_);rintro c5 p w4 ⟨h,rfl⟩;refine va (I j) (va (I o) (wln (W.seq (bn f fun o4 x0 f=>bn f fun p4 l0 f=>bn f fun q4 a0 f=>bn f fun r4 z f=>bn f fun t2 q f=>W.join (Jn p fun c l=>Own c s ((Eb i 24 [I a.2.1.W,I a.2.1.H,.slice u x y]) :: F)∧l= [(2,B t2)]) ?_ ?_))))
 ·clear f;refine W.region (va (Q i) (vx (le1 0 u_3 (h.on 0 rfl)) (va (B (a.2.1.W==0)) ?_)));rcases bo (a.2.1.W==0) with A | A
  ·have f2:=anT A x0;refine vb A (wa (Qo i 1) (wn (vx (le1 1 u_3 (h.on 0 rfl)) (wa (B (a.2.1.H==0)) ?_))));obtain rfl:=si f2;refine va (B (a.2.1.H==0)) ?_;rcases bo (a.2.1.H==0) with D | D
   ·have g2:=anT D l0;refine vb D (wa (Qo i 2) (wn (vx (le1 2 eg (h.on 0 rfl)) (wn (vx (ln 3 eg f0.m) (wa (B ((a.2.1.Ops.length:Int)==0)) ?_))))));obtain rfl:=si g2;refine va (B ((a.2.1.Ops.length:Int)==0)) ?_;rcases bo ((a.2.1.Ops.length:Int)==0) with E | E
    ·have i2:=anT E a0;refine vb E (wa (I o) (wa (B (decide (o≥0))) ?_));obtain rfl:=si i2;refine va (B (decide (o≥0))) ?_;rcases bo (decide (o≥0)) with M | M
     ·have j2:=anT M z;refine vb M (wa (I o) (wa (I b0) (wa (B (decide (o≤b0))) ?_)));obtain rfl:=si j2;refine va (B (decide (o≤b0))) ?_;rcases bo (decide (o≤b0)) with N | N
      ·have g:=anT N q;refine vb N (wa (I j) (wa (B (j==2)) (wn (bn g fun s4 y0 g=>?_))));rcases bo (j==2) with P | P
       ·have h0:=anT P y0;refine vb P (wa (v28) (wn (bn h0 fun d0 v2 h0=>cl (fP h hU.m a.2.2 U.m v2) ?_)));rintro d5 v0 x4 ⟨k0,rfl⟩;refine wa (B (d0==(-1))) (wn ?_);obtain rfl:=si h0;refine va (B (d0==(-1))) (wn (bn g fun w1 z0 g=>?_));rcases bo (d0==(-1)) with R | R
        ·obtain rfl:=orT R z0;refine vb R (pz (pz (pz (ps (wa (B true) ?_)))));obtain rfl:=si g;exact vv (B true) (wln (jn v0 ⟨k0,rfl⟩))
        have X:=orF R z0;refine vb R (wa (I j) (wa (B (j==6)) (wn (bn X fun x1 a1 X=>?_))));rcases bo (j==6) with S | S
        ·have i0:=anT S a1;refine vb S (wa (v28) (wn (bn i0 fun b w2 i0=>cl (fP k0 hU.m a.2.2 U.m w2) ?_)));rintro e5 o2 y4 ⟨k2,rfl⟩;refine wa (B (decide (b≥0))) (wn ?_);obtain rfl:=si i0;refine va (B (decide (b≥0))) (wn ?_);obtain rfl:=si X;refine va (B (decide (b≥0))) ?_;obtain rfl:=si g;exact vv (B (decide (b≥0))) (wln (jn o2 ⟨k2,rfl⟩))
        obtain rfl:=anF S a1;refine vb S (pz (ps (wa (B false) (wn ?_))));obtain rfl:=si X;refine va (B false) ?_;obtain rfl:=si g;exact vv (B false) (wln (jn v0 ⟨k0,rfl⟩))
       obtain rfl:=anF P y0;refine vb P (pz (ps (wa (B false) (wn (bn g fun w1 x2 g=>?_)))));have b1:false=false:=rfl;have Z:=orF b1 x2;refine vb b1 (wa (I j) (wa (B (j==6)) (wn (bn Z fun x1 c1 Z=>?_))));rcases bo (j==6) with T | T
       ·have j0:=anT T c1;refine vb T (wa (v28) (wn (bn j0 fun b y2 j0=>cl (fP h hU.m a.2.2 U.m y2) ?_)));rintro f5 p2 z4 ⟨l2,rfl⟩;refine wa (B (decide (b≥0))) (wn ?_);obtain rfl:=si j0;refine va (B (decide (b≥0))) (wn ?_);obtain rfl:=si Z;refine va (B (decide (b≥0))) ?_;obtain rfl:=si g;exact vv (B (decide (b≥0))) (wln (jn p2 ⟨l2,rfl⟩))
       obtain rfl:=anF T c1;refine vb T (pz (ps (wa (B false) (wn ?_))));obtain rfl:=si Z;refine va (B false) ?_;obtain rfl:=si g;exact vv (B false) (wln (jn p ⟨h,rfl⟩))
      obtain rfl:=anF N q;exact vb N (pz (pz (pz (pz (pz (pz (pz (pz (vv (B false) (wln (jn p ⟨h,rfl⟩)))))))))))
     obtain rfl:=anF M z;refine vb M (pz (ps (va (B false) ?_)));have d1:false=false:=rfl;obtain rfl:=anF d1 q;exact vb d1 (pz (pz (pz (pz (pz (pz (pz (pz (vv (B false) (wln (jn p ⟨h,rfl⟩)))))))))))
    obtain rfl:=anF E a0;refine vb E (pz (va (B false) ?_));have e1:false=false:=rfl;obtain rfl:=anF e1 z;refine vb e1 (pz (ps (va (B false) ?_)));have f1:false=false:=rfl;obtain rfl:=anF f1 q;exact vb f1 (pz (pz (pz (pz (pz (pz (pz (pz (vv (B false) (wln (jn p ⟨h,rfl⟩)))))))))))
   obtain rfl:=anF D l0;refine vb D (pz (pz (va (B false) ?_)));have g1:false=false:=rfl;obtain rfl:=anF g1 a0;refine vb g1 (pz (va (B false) ?_));have i1:false=false:=rfl;obtain rfl:=anF i1 z;refine vb i1 (pz (ps (va (B false) ?_)));have j1:false=false:=rfl;obtain rfl:=anF j1 q;exact vb j1 (pz (pz (pz (pz (pz (pz (pz (pz (vv (B false) (wln (jn p ⟨h,rfl⟩)))))))))))
  obtain rfl:=anF A x0;refine vb A (pz (ps (va (B false) ?_)));have k1:false=false:=rfl;obtain rfl:=anF k1 l0;refine vb k1 (pz (pz (va (B false) ?_)));have m1:false=false:=rfl;obtain rfl:=anF m1 a0;refine vb m1 (pz (va (B false) ?_));have n1:false=false:=rfl;obtain rfl:=anF n1 z;refine vb n1 (pz (ps (va (B false) ?_)));have p1:false=false:=rfl;obtain rfl:=anF p1 q;exact vb p1 (pz (pz (pz (pz (pz (pz (pz (pz (vv (B false) (wln (jn p ⟨h,rfl⟩)))))))))))
 rintro e_ w_ ⟨q2,t4,_,rfl,a5,rfl,m2,rfl⟩;refine nrm (W.ret ?_);obtain rfl:=si f;have n2:=m2.sD 1 [];exact r1 (qq q2 ⟨s,n2,b2.m,rfl⟩)
end Go.Proofs.YtmncdniojmigeaaGreatDoor
namespace Go.Proofs.YtmncdniojmigeaaGreatDoor
open Go Go.Lt
set_option maxRecDepth 10000
set_option linter.unusedVariables false
attribute [local irreducible] W WL AC
open Tryz Go.RowKit
def jp:Go.Shelf.Ren:=⟨fun | 0=>0 | 1=>1 | 2=>2 | 99=>141 | 103=>97 | 119=>171 | 120=>167 | 129=>147 | 137=>96 | 138=>94 | 143=>95 | 145=>38 | 146=>45 | 151=>156 | 152=>166 | 156=>44 | 160=>98 | 165=>68 | 166=>32 | 169=>34 | 171=>33 | 172=>99 | 173=>79 | 174=>163 | 195=>127 | 197=>128 | 205=>170 | 206=>154 | 210=>130 | 217=>122 | 218=>129 | 219=>91 | 220=>67 | 221=>69 | 224=>124 | 225=>123 | 227=>133 | 228=>155 | 231=>131 | 232=>132 | 233=>134 | 234=>135 | 235=>136 | 236=>137 | 240=>65 | 241=>92 | 243=>66 | 244=>138 | 245=>139 | 246=>90 | 247=>158 | 260=>153 | 266=>151 | 267=>125 | 268=>93 | 271=>157 | 276=>89 | 277=>126 | 279=>159 | 280=>160 | 281=>161 | 282=>162 | 283=>118 | 284=>119 | 285=>120 | 286=>121 | 287=>168 | 314=>152 | 316=>169 | 317=>146 | 318=>148 | 319=>149 | 320=>150 | 321=>172 | 322=>173 | 337=>164 | 338=>165 | 347=>174 | 348=>175 | 349=>176 | 350=>177 | 351=>178 | 352=>179 | 353=>180 | 354=>181 | 355=>182 | 356=>183 | 357=>184 | 358=>185 | 359=>186 | 360=>189 | 361=>190 | 362=>191 | 363=>211 | 364=>208 | 365=>209 | 366=>196 | 367=>231 | n=>n,fun | 0=>0 | 1=>1 | 2=>2 | 3=>3 | 4=>4 | 5=>5 | 6=>6 | 7=>7 | 8=>8 | 9=>9 | 10=>10 | 11=>11 | 12=>12 | 13=>13 | 14=>14 | 15=>15 | 16=>16 | 17=>17 | 18=>18 | 19=>19 | 20=>20 | 21=>21 | 22=>196 | 23=>152 | 24=>150 | 25=>151 | 27=>147 | 28=>75 | 31=>72 | 37=>36 | 40=>168 | 41=>207 | 43=>169 | 46=>112 | 47=>204 | 49=>252 | 51=>202 | 52=>215 | 53=>56 | 54=>179 | 55=>149 | 57=>115 | 59=>67 | 60=>68 | 61=>77 | 63=>208 | 64=>220 | 67=>76 | 69=>223 | 70=>58 | 71=>59 | 72=>60 | 73=>113 | 74=>30 | 75=>31 | 76=>61 | 77=>62 | 80=>64 | 81=>238 | 83=>63 | 84=>134 | 85=>210 | 86=>211 | 103=>184 | 104=>55 | 105=>185 | 106=>186 | 108=>226 | 111=>65 | 113=>114 | 114=>135 | 115=>188 | 116=>189 | 117=>190 | 118=>191 | 119=>216 | 122=>187 | 123=>192 | 124=>193 | 127=>110 | 128=>194 | 131=>118 | 137=>217 | 138=>218 | 139=>219 | 143=>230 | 144=>231 | 145=>232 | 146=>205 | 150=>148 | 151=>206 | 164=>124 | 165=>146 | 166=>183 | 167=>209 | 168=>212 | 169=>213 | 170=>214 | 171=>178 | 172=>180 | 173=>181 | 174=>182 | 175=>221 | 176=>222 | 209=>224 | 210=>225 | 211=>200 | 212=>201 | 213=>203 | 214=>229 | 222=>176 | 232=>227 | 233=>228 | 238=>233 | 239=>234 | 240=>235 | 241=>236 | 242=>237 | 243=>240 | 244=>130 | 245=>241 | 246=>242 | 247=>243 | 248=>244 | 249=>245 | n=>n,fun | 1=>9 | 3=>11 | 4=>12 | 15=>13 | 16=>14 | 17=>10 | 18=>15 | 19=>16 | n=>n⟩
theorem pa:Lays.n166 Tryz.prog jp:=by
 constructor <;> first | kernel_rfl | (intro w; kernel_rfl) | (constructor <;> first | kernel_rfl | (intro w; kernel_rfl))
def jr:Go.Shelf.Ren:=⟨fun | 0=>0 | 1=>1 | 2=>2 | 99=>141 | 103=>97 | 119=>171 | 120=>167 | 129=>147 | 137=>96 | 138=>94 | 143=>95 | 145=>38 | 146=>45 | 151=>156 | 152=>166 | 156=>44 | 160=>98 | 165=>68 | 166=>32 | 169=>34 | 171=>33 | 172=>99 | 173=>79 | 174=>163 | 195=>127 | 197=>128 | 205=>170 | 206=>154 | 210=>130 | 217=>122 | 218=>129 | 219=>91 | 220=>67 | 221=>69 | 224=>124 | 225=>123 | 227=>133 | 228=>155 | 231=>131 | 232=>132 | 233=>134 | 234=>135 | 235=>136 | 236=>137 | 240=>65 | 241=>92 | 243=>66 | 244=>138 | 245=>139 | 246=>90 | 247=>158 | 260=>153 | 266=>151 | 267=>125 | 268=>93 | 271=>157 | 276=>89 | 277=>126 | 279=>159 | 280=>160 | 281=>161 | 282=>162 | 283=>118 | 284=>119 | 285=>120 | 286=>121 | 287=>168 | 314=>152 | 316=>169 | 317=>146 | 318=>148 | 319=>149 | 320=>150 | 321=>172 | 322=>173 | 337=>164 | 338=>165 | 347=>174 | 348=>175 | 349=>176 | 350=>177 | 351=>178 | 352=>179 | 353=>180 | 354=>181 | 355=>182 | 356=>183 | 357=>184 | 358=>185 | 359=>186 | 360=>189 | 361=>190 | 362=>191 | 363=>211 | 364=>208 | 365=>209 | 366=>196 | 367=>231 | n=>n,fun | 0=>0 | 1=>1 | 2=>2 | 3=>3 | 4=>4 | 5=>5 | 6=>6 | 7=>7 | 8=>8 | 9=>9 | 10=>10 | 11=>11 | 12=>12 | 13=>13 | 14=>14 | 15=>15 | 16=>16 | 17=>17 | 18=>18 | 19=>19 | 20=>20 | 21=>21 | 22=>196 | 23=>152 | 24=>150 | 25=>151 | 27=>147 | 28=>75 | 31=>72 | 37=>36 | 40=>168 | 41=>207 | 43=>169 | 46=>112 | 47=>204 | 49=>252 | 51=>202 | 52=>215 | 53=>56 | 54=>179 | 55=>149 | 57=>115 | 59=>67 | 60=>68 | 61=>77 | 63=>208 | 64=>220 | 67=>76 | 69=>223 | 70=>58 | 71=>59 | 72=>60 | 73=>113 | 74=>30 | 75=>31 | 76=>61 | 77=>62 | 80=>64 | 81=>238 | 83=>63 | 84=>134 | 85=>210 | 86=>211 | 103=>184 | 104=>55 | 105=>185 | 106=>186 | 108=>226 | 111=>65 | 113=>114 | 114=>135 | 115=>188 | 116=>189 | 117=>190 | 118=>191 | 119=>216 | 122=>187 | 123=>192 | 124=>193 | 127=>110 | 128=>194 | 131=>118 | 137=>217 | 138=>218 | 139=>219 | 143=>230 | 144=>231 | 145=>232 | 146=>205 | 150=>148 | 151=>206 | 164=>124 | 165=>146 | 166=>183 | 167=>209 | 168=>212 | 169=>213 | 170=>214 | 171=>178 | 172=>180 | 173=>181 | 174=>182 | 175=>221 | 176=>222 | 209=>224 | 210=>225 | 211=>200 | 212=>201 | 213=>203 | 214=>229 | 222=>176 | 232=>227 | 233=>228 | 238=>233 | 239=>234 | 240=>235 | 241=>236 | 242=>237 | 243=>240 | 244=>130 | 245=>241 | 246=>242 | 247=>243 | 248=>244 | 249=>245 | n=>n,fun | 1=>9 | 3=>11 | 4=>12 | 15=>13 | 16=>14 | 17=>10 | 18=>15 | 19=>16 | n=>n⟩
theorem pb:Lays.n169 Tryz.prog jr:=by
 constructor <;> first | kernel_rfl | (intro w; kernel_rfl) | (constructor <;> first | kernel_rfl | (intro w; kernel_rfl))
theorem np:Go.Proofs.Builder.Extra Tryz.prog jp:=by
 constructor <;> first | kernel_rfl | (intro w; kernel_rfl) | decide | (constructor <;> kernel_rfl)
theorem nr:Go.Proofs.Builder.Extra Tryz.prog jr:=by
 constructor <;> first | kernel_rfl | (intro w; kernel_rfl) | decide | (constructor <;> kernel_rfl)
abbrev isB (B:Nat) (bs:List UInt8) (w:World):Prop:=Lib.IsBuilder 60 5 B B (Lib.byteCells bs) w
structure Br (up:Bool) (c1 c:Cx) (G:Gm) (F:List En) (bs:List UInt8):Prop where
 le:c1.le c
 own1:Own c1 G F
 own:Own c G F
 is:isB c1.w.heap.size bs c.w
 A:∀k o,c1.w.heap.size≤k→(c.A k o↔up=true)
 sz:c1.w.heap.size≤c.w.heap.size
theorem jv {B:Nat} {bs:List UInt8} {w w':World} (h:isB B bs w) (hk:∀k,B≤k→k < w.heap.size→w'.heap[k]? = w.heap[k]?):isB B bs w':=by
 have one:∀p,Lib.BuilderAt 60 5 B B p (Lib.byteCells bs) w→Lib.BuilderAt 60 5 B B p (Lib.byteCells bs) w':=fun p ⟨h1,v,h2,h3,h4⟩=>by
  refine ⟨h1,v,(hk B (aD _) (Array.getElem?_eq_some_iff.1 h2).1).trans h2,⟨h3.1,h3.2.imp id fun ⟨g,cap,cur,e,hg,hh,r⟩=>⟨g,cap,cur,e,hg,(hk g hg (Array.getElem?_eq_some_iff.1 hh).1).trans hh,r⟩⟩,h4⟩
 exact h.imp (one _) (one _)
theorem iz {c1 c c':Cx} {G:Gm} {F:List En} (O1:Own c1 G F) (O:Own c G F) (hw:∀k,k < c1.w.heap.size→c'.w.heap[k]? = c.w.heap[k]?∧∀o,c'.A k o↔c.A k o) (ht:c'.t=c.t):Own c' G F:=
 ⟨⟨fun i e he=>(O.m.1 i e he).keep fun b hb=>hw b ((O1.m.1 i e he).lt hb),O.m.2⟩,fun g k hk=>by rw [ht]; exact O.t0 g k hk⟩
section
variable {c1 c c':Cx} {G:Gm} {F:List En} {bs:List UInt8}
theorem Br.drew (h:Br true c1 c G F bs):Br true c1 ⟨c.w.drew,c.A,c.t⟩ G F bs:=
 ⟨h.le.trans (Cx.drew_le c).le,h.own1,h.own.keep (Cx.drew_le c),jv h.is fun _ _ _=>rfl,h.A,h.sz⟩
theorem Br.low (h:Br true c1 c G F bs):∃cl:Cx,cl.w=c.w∧Br false c1 cl G F bs:=by
 refine ⟨⟨c.w,fun k o=>k < c1.w.heap.size∧c.A k o,c.t⟩,rfl,?_,h.own1,iz h.own1 h.own (fun k hk=>⟨rfl,fun o=>⟨fun q=>q.2,fun q=>⟨hk,q⟩⟩⟩) rfl,h.is,fun k o hk=>⟨fun q=>by simp only at q; omega,fun q=>by cases q⟩,h.sz⟩;exact h.le.trans ⟨rfl,rfl,aD _,fun _ _ _ q=>⟨rfl,fun r=>q r.2⟩,fun _ _ _=>rfl,fun _ _ _=>rfl,fun _ _ _ q=>q⟩
theorem Br.up (h:Br false c1 c G F bs) (k:c.le c') (O:Own c' G F):∃cr:Cx,cr.w=c'.w∧Br true c1 cr G F bs:=by
 have hle:=h.le.trans k;refine ⟨⟨c'.w,fun k o=>(k < c1.w.heap.size∧c'.A k o)∨c1.w.heap.size≤k,c'.t⟩,rfl,⟨hle.os,hle.output,hle.size,fun i o hi hA=>⟨(hle.cell i o hi hA).1,fun q=>?_⟩,hle.block,hle.frz,hle.t⟩,h.own1,
  iz h.own1 O (fun i hi=>⟨rfl,fun o=>⟨fun q=>q.elim (fun q=>q.2) (fun q=>by omega),fun q=> .inl ⟨hi,q⟩⟩⟩) rfl,jv h.is fun i h1 h2=>k.block i h2 fun o q=>(by have:=(h.A i o h1).1 q; cases this),fun i o hi=>⟨fun _=>rfl,fun _=> .inr hi⟩,cD h.sz k.size⟩
 rcases q with q | q
 ·exact (hle.cell i o hi hA).2 q.2
 ·omega
theorem Br.below {w':World} (h:Br true c1 c G F bs) (hb:RowKit.Below c.w.heap.size c.w w'):∃c':Cx,c'.w=w'∧c.le c'∧Br true c1 c' G F bs:=by
 have hle:c.le ⟨w',c.A,c.t⟩:=⟨hb.os,hb.output,hb.size,fun k o hk hA=>⟨bJ (w:=c.w) (a:=⟨k,o,none⟩) (hb.block k hk),hA⟩,fun k hk _=>hb.block k hk,fun a ha _=>by simp only [World.frozen?,hb.block _ ha],fun _ _ _ q=>q⟩;exact ⟨⟨w',c.A,c.t⟩,rfl,hle,h.le.trans hle,h.own1,iz h.own1 h.own (fun k hk=>⟨hb.block k (aS hk h.sz),fun _=>lv⟩) rfl,jv h.is fun k _ h2=>hb.block k h2,h.A,cD h.sz hb.size⟩
theorem Br.turn {w':World} {bs':List UInt8} (h:Br true c1 c G F bs) (hb:RowKit.Below c1.w.heap.size c.w w') (his:isB c1.w.heap.size bs' w'):∃c':Cx,c'.w=w'∧c.le c'∧Br true c1 c' G F bs':=by
 have hlt:∀k o,¬c.A k o→k < c1.w.heap.size:=fun k o hA=>by
  rcases bf k c1.w.heap.size with q | q
  ·exact q
  ·exact absurd ((h.A k o q).2 rfl) hA
 have hle:c.le ⟨w',c.A,c.t⟩:=⟨hb.os,hb.output,hb.size,fun k o _ hA=>⟨bJ (w:=c.w) (a:=⟨k,o,none⟩) (hb.block k (hlt k o hA)),hA⟩,fun k _ hA=>hb.block k (hlt k 0 (hA 0)),fun a _ hA=>by simp only [World.frozen?,hb.block _ (hlt _ _ hA)],fun _ _ _ q=>q⟩;exact ⟨⟨w',c.A,c.t⟩,rfl,hle,h.le.trans hle,h.own1,iz h.own1 h.own (fun k hk=>⟨hb.block k hk,fun _=>lv⟩) rfl,his,h.A,cD h.sz hb.size⟩
theorem mo (h:Br true c1 c G F bs) (hT:Et c) (p0:Int) {r:ByteArray} (H:bT p0=some r):
  Calls Tryz.prog 33 #[.int .i64 p0] c.w (bG c fun c' v=>Br true c1 c' G F bs∧v= .string r):=by
 unfold bT at H;split at H
 ·rename_i hh
  cases H;refine (Go.Proofs.Any.strconv_Itoa kZ p0 hh.1 hh.2 c.w hT.tb).mono ?_;rintro e w' ⟨rfl,k,os,rfl⟩;obtain ⟨c',e1,h2,h3⟩:=h.below (w':=Go.Sort.grow (c.w.drewN k) os) ⟨rfl,rfl,rfl,by simp,fun k hk=>by simp [Go.Sort.grow,World.drewN,pw,hk]⟩;exact ⟨_,c',rfl,e1.symm,h2,h3,rfl⟩
 ·cases H
def mS (bs:List UInt8) (s:ByteArray):Option (List UInt8):=if bs.length+s.size≤140737488355328 then some (bs++blS s) else none
theorem lk (h:Br true c1 c G F bs) (s:ByteArray) {r:List UInt8} (H:mS bs s=some r):
  Calls Tryz.prog 32 #[.pointer (some ⟨c1.w.heap.size,0,none⟩),.string s] c.w (bG c fun c' v=>Br true c1 c' G F r∧v= .tuple #[.int .i64 (s.size:Int),.nilIface]):=by
 unfold mS at H;split at H
 ·rename_i hh
  cases H;refine (Go.Proofs.Any.Builder_WriteString pa np c1.w.heap.size c1.w.heap.size (Lib.byteCells bs) s c.w h.is (by rw [Lib.byteCells_length]; exact hh) h.sz).mono ?_;rintro e w' ⟨rfl,hB,hb⟩;obtain ⟨c',rfl,h2,h3⟩:=h.turn (bs':=bs++blS s) hb (.inr (by
   have:Lib.byteCells (bs++blS s)=Lib.byteCells bs++Lib.strCells s:=by
    unfold Lib.byteCells;rw [dZ];rfl
   rw [this];exact hB))
  exact ⟨_,c',rfl,rfl,h2,h3,rfl⟩
 ·cases H
theorem mP (h:Br true c1 c G F bs):Calls Tryz.prog 34 #[.pointer (some ⟨c1.w.heap.size,0,none⟩)] c.w (bG c fun c' v=>Own c' G F∧v= .string (mkS bs)):=by
 refine (Go.Proofs.Any.Builder_String_any pb nr c1.w.heap.size c1.w.heap.size bs c.w h.is h.sz).mono ?_;rintro e w' ⟨rfl,hb⟩;have hlt:∀k o,¬c.A k o→k < c1.w.heap.size:=fun k o hA=>by
  rcases bf k c1.w.heap.size with q | q
  ·exact q
  ·exact absurd ((h.A k o q).2 rfl) hA
 have hle:c.le ⟨w',c.A,c.t⟩:=⟨hb.os,hb.output,hb.size,fun k o _ hA=>⟨bJ (w:=c.w) (a:=⟨k,o,none⟩) (hb.block k (hlt k o hA)),hA⟩,fun k _ hA=>hb.block k (hlt k 0 (hA 0)),fun a _ hA=>by simp only [World.frozen?,hb.block _ (hlt _ _ hA)],fun _ _ _ q=>q⟩;exact ⟨_,⟨w',c.A,c.t⟩,rfl,rfl,hle,iz h.own1 h.own (fun k hk=>⟨hb.block k hk,fun _=>lv⟩) rfl,rfl⟩
theorem pl {ρ:Operand→Value} {o:Oper} (O:Own c G F) (hr:(execOp ρ o).run Tryz.prog c.w= .ok (.value (.pointer (some ⟨c.w.heap.size,0,none⟩))) (c.w.alloc (.cells #[.pointer none,.slice none 0 0] 60))):
  ∃v c',(execOp ρ o).run Tryz.prog c.w= .ok (.value v) c'.w∧c.le c'∧(v= .pointer (some ⟨c.w.heap.size,0,none⟩)∧Br true c c' G F []):=by
 have hb:=(eo _ c.w).alloc (aD _) (.cells #[.pointer none,.slice none 0 0] 60);have hle:c.le ⟨c.w.alloc (.cells #[.pointer none,.slice none 0 0] 60),fun k o=>(k < c.w.heap.size∧c.A k o)∨c.w.heap.size≤k,c.t⟩:=
  ⟨hb.os,hb.output,hb.size,fun k o hk hA=>⟨bJ (w:=c.w) (a:=⟨k,o,none⟩) (hb.block k hk),fun q=>q.elim (fun q=>hA q.2) (fun q=>by omega)⟩,fun k hk _=>hb.block k hk,fun a ha _=>by simp only [World.frozen?,hb.block _ ha],fun _ _ _ q=>q⟩
 exact ⟨_,_,hr,hle,rfl,hle,O,iz O O (fun k hk=>⟨hb.block k hk,fun o=>⟨fun q=>q.elim (fun q=>q.2) (fun q=>by omega),fun q=> .inl ⟨hk,q⟩⟩⟩) rfl,Lib.fresh_isBuilder _ _ c.w,fun k o hk=>⟨fun _=>rfl,fun _=> .inr hk⟩,hb.size⟩
end
def dG (p0:af):Option ByteArray:=
 (co p0).bind fun x_5=>
 if (!x_5)=true then
 some (⟨#[]⟩:ByteArray)
 else
 (bT p0.W).bind fun x_16=>
 (cx (⟨#[115,105,122,101,32]⟩:ByteArray) x_16).bind fun x_17=>
 (cx x_17 (⟨#[32]⟩:ByteArray)).bind fun x_18=>
 (bT p0.H).bind fun x_19=>
 (cx x_18 x_19).bind fun x_20=>
 (cx x_20 (⟨#[10]⟩:ByteArray)).bind fun x_21=>
 (mS [] x_21).bind fun x_22=>
 (cT (σ:=Int×List UInt8) (τ:=List UInt8) (((p0.Ops.length:Int) - 0).toNat+1) (fun s_29=>
 if (decide (s_29.1 < (p0.Ops.length:Int)))=true then
 (idx p0.Ops s_29.1).bind fun x_32=>
 (cC x_32).bind fun x_38=>
 (cx x_38 (⟨#[10]⟩:ByteArray)).bind fun x_39=>
 (mS s_29.2 x_39).bind fun x_40=>
 some (.inl ((w64 (s_29.1+1)),x_40))
 else
 some (.inr (s_29.2))) (0,x_22)).bind fun o_29=>
 some (mkS o_29)
set_option maxHeartbeats 1000000 in
theorem ka {c0:Cx} {G:Gm} {F:List En} {v1:Value} (O0:Own c0 G F) (hT:Et c0) (p0:af) {r:ByteArray} (h2:Sl bq c0 v1 p0.Ops) (H:dG p0=some r): Calls Tryz.prog 11 #[.agg #[.int .i64 p0.W,.int .i64 p0.H,v1]] c0.w (bG c0 fun c v=>Own c G (F)∧v= .string r):=by
 unfold dG at H;refine enter (l:=[.agg #[.int .i64 p0.W,.int .i64 p0.H,v1]]) func11 rfl rfl rfl ?_;refine sr ?_;obtain ⟨a3,a4,a5,rfl⟩:=(h2).form;refine WL.mem rfl (Own.bx (T:=24) (vs:=[.int .i64 p0.W,.int .i64 p0.H,.slice a3 a4 a5]) O0 (by kernel_rfl)) ?_;rintro v10 c9 l9 ⟨b6,rfl,O7,m8⟩;refine va (.string (⟨#[]⟩:ByteArray)) ?_;refine wln ?_;refine W.seq ?_;refine sr ?_;refine WL.val0 (v:= .agg #[.int .i64 p0.W,.int .i64 p0.H,.slice a3 a4 a5]) rfl (rx (by kernel_rfl) (iv (T:=24) (by kernel_rfl) (by kernel_rfl) m8)) ?_;obtain ⟨x_5,h11,H⟩:=bs H;refine WL.callP rfl (by kernel_rfl) (eB O7 p0 (h2.mono l9) h11) ?_;rintro v17 c16 l16 ⟨O13,rfl⟩;refine va (.bool (!x_5)) ?_;refine wln ?_;refine W.cond (t:= !x_5) (by kernel_rfl) (fun h18=>?_) (fun h18=>?_)
 ·have H:=it h18 H;refine sr ?_;refine va (.string (⟨#[]⟩:ByteArray)) ?_;refine wln ?_;refine W.ret ?_;refine thr ?_;obtain rfl:=ao H;exact ot (v:= .string (⟨#[]⟩:ByteArray)) rfl (by kernel_rfl) ⟨_,c16,rfl,rfl,(l9.trans l16),O13,rfl⟩
 ·have H:=ie h18 H;refine W.skip ?_;refine nrm ?_;refine sr ?_;have l016:=l9.trans l16;refine WL.mem rfl (pl O13 (by kernel_rfl)) ?_;rintro v24 c23 l23 ⟨rfl,B23⟩;refine wln ?_;refine W.seq ?_;refine W.regionE [] (Kp G0 []) (by kernel_rfl) ?_;have B39:=B23.drew;generalize (⟨c23.w.drew,c23.A,c23.t⟩:Cx)=c38 at B39⊢;refine ta 0 (.pointer (some ⟨b6,0,none⟩)) ?_;refine AC.take 1 (.int .i64 p0.W) rfl (by kernel_rfl) (by kernel_rfl) (fun c' hle=>(rx (by kernel_rfl) (gp u_3 rfl ((fun j u hu=>(m8 j u hu).mono ((l16.trans B39.le).trans hle)) 0 _ rfl)))) ?_;refine ta 5 (.pointer (some ⟨b6,0+1,none⟩)) ?_;refine AC.take 6 (.int .i64 p0.H) rfl (by kernel_rfl) (by kernel_rfl) (fun c' hle=>(rx (by kernel_rfl) (gp u_3 rfl ((fun j u hu=>(m8 j u hu).mono ((l16.trans B39.le).trans hle)) 1 _ rfl)))) ?_;obtain ⟨x_16,h41,H⟩:=bs H;refine AC.one 2 (by kernel_rfl) (Go1.callP 2 rfl (by kernel_rfl) (by kernel_rfl) (by kernel_rfl) (mo B39 (hT.mono (l016.trans B39.le)) p0.W h41) ?_);rintro v47 c46 l46 ⟨B43,rfl⟩;refine ⟨.inr Kp.nil0,?_⟩;obtain ⟨x_17,h49,H⟩:=bs H;refine AC.take 3 (.string x_17) rfl (by kernel_rfl) (by kernel_rfl) (fun c' hle=>(rx (by kernel_rfl) (ay h49 _))) ?_;obtain ⟨x_18,h50,H⟩:=bs H;refine AC.take 4 (.string x_18) rfl (by kernel_rfl) (by kernel_rfl) (fun c' hle=>(rx (by kernel_rfl) (ay h50 _))) ?_;obtain ⟨x_19,h51,H⟩:=bs H;refine AC.one 7 (by kernel_rfl) (Go1.callP 7 rfl (by kernel_rfl) (by kernel_rfl) (by kernel_rfl) (mo B43 (hT.mono (l016.trans B43.le)) p0.H h51) ?_);rintro v57 c56 l56 ⟨B53,rfl⟩;refine ⟨.inr Kp.nil0,?_⟩;obtain ⟨x_20,h59,H⟩:=bs H;refine AC.take 8 (.string x_20) rfl (by kernel_rfl) (by kernel_rfl) (fun c' hle=>(rx (by kernel_rfl) (ay h59 _))) ?_;obtain ⟨x_21,h60,H⟩:=bs H;refine AC.take 9 (.string x_21) rfl (by kernel_rfl) (by kernel_rfl) (fun c' hle=>(rx (by kernel_rfl) (ay h60 _))) ?_;obtain ⟨x_22,h61,H⟩:=bs H;refine AC.one 10 (by kernel_rfl) (Go1.callP 10 rfl (by kernel_rfl) (by kernel_rfl) (by kernel_rfl) (lk B53 x_21 h61) ?_);rintro v69 c68 l68 ⟨B68,rfl⟩;refine ⟨.inr Kp.nil0,?_⟩;refine AC.done (by kernel_rfl) ?_;obtain ⟨cl,e1,Bl⟩:=B68.low;rw [←e1];refine nrm ?_;refine W.seq ?_;refine sr ?_;refine va (.pointer (some ⟨b6,0+2,none⟩)) ?_;refine WL.val0 (v:= .slice a3 a4 a5) rfl (rx (by kernel_rfl) (gp eg rfl ((fun j u hu=>(m8 j u hu).mono (l16.trans Bl.le)) 2 _ rfl))) ?_;refine WL.val0 (v:= .int .i64 (p0.Ops.length:Int)) rfl (rx (by kernel_rfl) (lY (ty:=3) eg (h2.mono (l016.trans Bl.le)) _)) ?_;refine va (.int .i64 0) ?_;refine wln ?_;refine W.block ?_;obtain ⟨o_29,h71,H72⟩:=bs H;refine W.loop (σ:=Int×List UInt8) (τ:=List UInt8) (fun s_29=>fun e w=>∃(c:Cx) (g:Nat→Value),w=c.w∧Br false c16 c G F s_29.2∧e=ups g [(3,.pointer (some ⟨c16.w.heap.size,0,none⟩)),(21,.slice a3 a4 a5),(22,.int .i64 (p0.Ops.length:Int)),(23,.int .i64 s_29.1)]) (fun o_29_ ex e w=>ex= .exit 0∧(fun e w=>∃(c:Cx) (g:Nat→Value),w=c.w∧Br false c16 c G F o_29_∧e=ups g [(3,.pointer (some ⟨c16.w.heap.size,0,none⟩))]) e w) ?_ h71 ?_ ?_
  ·clear H72 h71;intro s_29 xx_ ee_ ww_ H;revert ee_ ww_;rintro e_ w_ ⟨c73,g74,rfl,B73,rfl⟩;refine sr ?_;refine va (.bool (decide (s_29.1 < (p0.Ops.length:Int)))) ?_;refine wln ?_;refine W.seq ?_;refine W.cond (t:=decide (s_29.1 < (p0.Ops.length:Int))) (by kernel_rfl) (fun h79=>?_) (fun h79=>?_)
   ·have H:=it h79 H;refine W.skip ?_;refine nrm ?_;refine W.seq ?_;refine W.block ?_;refine sr ?_;have l073:=l016.trans B73.le;obtain ⟨x_32,h80,H⟩:=bs H;obtain ⟨l_81,h82,m83⟩:=Sl.at (h2.mono l073) (bS h80);obtain ⟨v84,rfl,h85⟩:=h82;refine WL.val0 (v:= .pointer (some ⟨sb (.slice a3 a4 a5),so (.slice a3 a4 a5)+s_29.1.toNat * 4,none⟩)) rfl (rx (by kernel_rfl) (ke (k:= .i64) eg (by kernel_rfl) (h2.mono l073) h80 _)) ?_;refine WL.val0 (v:= .agg #[.int .i64 x_32.Kind,.int .i64 x_32.A,.int .i64 x_32.B,v84]) rfl (rx (by kernel_rfl) (iv (T:=38) (by kernel_rfl) (by kernel_rfl) m83)) ?_;refine WL.mem rfl (Own.al (T:=38) (vs:=[.int .i64 0,.int .i64 0,.int .i64 0,.slice none 0 0]) B73.own (by kernel_rfl)) ?_;rintro v89 c88 l88 ⟨b86,rfl,O87⟩;obtain ⟨a90,a91,a92,rfl⟩:=((h85.mono l88)).form;refine WL.memD rfl (Own.st (T:=38) (j:=0) (us:=[.int .i64 x_32.Kind,.int .i64 x_32.A,.int .i64 x_32.B,.slice a90 a91 a92]) (nw:=[.int .i64 x_32.Kind,.int .i64 x_32.A,.int .i64 x_32.B,.slice a90 a91 a92]) (v:= .agg #[.int .i64 x_32.Kind,.int .i64 x_32.A,.int .i64 x_32.B,.slice a90 a91 a92]) 0 O87 (by kernel_rfl) rfl rfl rfl rfl (by kernel_rfl) ⟨rfl,rfl,rfl,(h85.mono l88).one,trivial⟩ rfl rfl) ?_;rintro c94 l94 O93;refine wln ?_;refine W.region ?_;refine WL.val0 (v:= .agg #[.int .i64 x_32.Kind,.int .i64 x_32.A,.int .i64 x_32.B,.slice a90 a91 a92]) rfl (rx (by kernel_rfl) (pD (T:=38) (j:=0) (l:=[.int .i64 x_32.Kind,.int .i64 x_32.A,.int .i64 x_32.B,.slice a90 a91 a92]) (by kernel_rfl) (by kernel_rfl) (O93.on 0 rfl) rfl rfl)) ?_;obtain ⟨x_38,h95,H⟩:=bs H;refine WL.callP rfl (by kernel_rfl) (fD O93 (hT.mono (l073.trans (l88.trans l94))) x_32 (h85.mono (l88.trans l94)) h95) ?_;rintro v101 c100 l100 ⟨O97,rfl⟩;obtain ⟨x_39,h102,H⟩:=bs H;refine WL.val0 (v:= .string x_39) rfl (rx (by kernel_rfl) (ay h102 _)) ?_;obtain ⟨x_40,h103,H⟩:=bs H;have O98:=O97.selD 1 [] (by kernel_rfl) (by kernel_rfl);obtain ⟨cr,e2,Bu⟩:=B73.up (l88.trans (l94.trans l100)) O98;refine WL.gh e2 ?_;refine WL.callP rfl (by kernel_rfl) (lk Bu x_39 h103) ?_;rintro v111 c110 l110 ⟨B110,rfl⟩;obtain ⟨cl2,e3,Bl2⟩:=B110.low;refine WL.gh e3 ?_;refine WL.nil ?_;refine bkn ?_;refine nrm ?_;refine W.region ?_;refine va (.int .i64 (w64 (s_29.1+1))) ?_;refine va (.int .i64 (w64 (s_29.1+1))) ?_;refine WL.nil ?_;obtain rfl:=ao H;refine ⟨_,rfl,?_⟩;exact ⟨cl2,_,rfl,Bl2,fZ ⟨rfl,rfl,rfl,rfl,trivial⟩⟩
   ·have H:=ie h79 H;refine W.exit ?_;refine thx ?_;obtain rfl:=ao H;refine ⟨_,rfl,rfl,?_⟩;exact ⟨c73,_,rfl,B73,fZ ⟨rfl,trivial⟩⟩
  ·skip;exact ⟨cl,_,rfl,Bl,fZ ⟨rfl,rfl,rfl,rfl,trivial⟩⟩
  ·skip;rintro _ e_ w_ ⟨rfl,c113,g114,rfl,B113,rfl⟩;refine bke ?_;refine nrm ?_;refine sr ?_;obtain ⟨cr,e2,Bu⟩:=B113.up (Cx.le.refl _) B113.own;refine WL.gh e2 ?_;refine WL.callP rfl (by kernel_rfl) (mP Bu) ?_;rintro v125 c124 l124 ⟨O124,rfl⟩;refine va (.string (mkS o_29)) ?_;refine wln ?_;refine W.ret ?_;obtain rfl:=ao H72;exact ot (v:= .string (mkS o_29)) rfl (by kernel_rfl) ⟨_,c124,rfl,rfl,l016.trans (Bu.le.trans l124),O124,rfl⟩
end Go.Proofs.YtmncdniojmigeaaGreatDoor
namespace Go.Proofs.YtmncdniojmigeaaGreatDoor
open Go Go.Lt
set_option maxRecDepth 10000
set_option linter.unusedVariables false
attribute [local irreducible] W WL AC
open Tryz
variable {c0:Cx} {G:Gm} {F:List En} {sg:Sto} {v1 v2 v3 v4 v5 v6 v7 v8 v9 v10 v11 v12 v13 v14 v15 v16 v17 v18 v19 v20 v21 v22 v23 v24 v25 v26 v27 v28 v29 v30 v31 v32 v33 v34 v35 v36 v37 v38 v39 v40 v41 v42 v43 v44 v45 v46 v47 v48 v49 v50 v51 v52 v53 v54 v55 v56 v57 v58 v59 v60:Value}
def bl (sg:Sto) (p0:af):Option (Sto×Bool):=
 (aH).bind fun u=>
 (orE (!u) ((cc p0.Ops).bind fun n=>
 some n)).bind fun t=>
 if t=true then
 (aH).bind fun o=>
 some (sg,o)
 else
 (dG p0).bind fun d=>
 (bZ p0.W p0.H p0.Ops).bind fun p=>
 if (!p)=true then
 (bW (eqS d (⟨#[]⟩:ByteArray)) ((co p0).bind fun q=>
 some (!q))).bind fun h=>
 some (sg,h)
 else
 (cm sg d).bind fun a=>
 (co p0).bind fun r=>
 (orE (!r) ((bM p0.W p0.H p0.Ops).bind fun s=>
 some (!(eqS d s)))).bind fun i=>
 (orE i (some (!a.2.2.isNil))).bind fun j=>
 (orE j (some (a.2.1.W != p0.W))).bind fun k=>
 (orE k (some (a.2.1.H != p0.H))).bind fun l=>
 (orE l (some ((a.2.1.Ops.length:Int) != (p0.Ops.length:Int)))).bind fun m=>
 if m=true then
 some (a.1,false)
 else
 (cT (σ:=Int) (τ:=(Sto×Bool) ⊕ Unit) (((p0.Ops.length:Int) - 0).toNat+1) (fun c=>
 if (decide (c < (p0.Ops.length:Int)))=true then
 (idx a.2.1.Ops c).bind fun e=>
 (idx p0.Ops c).bind fun f=>
 (aK e f).bind fun g=>
 if (!g)=true then
 some (.inr (.inl (a.1,false)))
 else
 some (.inl ((w64 (c+1))))
 else
 some (.inr (.inr ()))) (0)).bind fun b=>
 match b with
 | .inl b=>
 some b
 | .inr b=>
 some (a.1,true)
theorem eX (O0:Own c0 G F) (R0:Rel c0 sg G) (hG:Gl [0,1,5] c0) (hT:Et c0) (b:af) {r:Sto×Bool} (A:Sl bq c0 v1 b.Ops) (H:bl sg b=some r): Calls prog 3 #[.agg #[I b.W,I b.H,v1]] c0.w (bG c0 fun c v=>∃G_:Gm,Own c G_ (F)∧Rel c r.1 G_∧v=B r.2):=by
 unfold bl at H;refine en func3 rfl rfl (sr ?_);obtain ⟨a3,a4,a5,rfl⟩:=(A).form;refine me (bx 24 [I b.W,I b.H,.slice a3 a4 a5] O0) ?_;rintro v10 c9 l9 ⟨i,rfl,O7,j⟩;refine va (B false) (wln (W.seq (W.seq (bn H fun g2 n4 H=>bn H fun k4 z1 H=>W.join (Jn c9 fun c l=>Own c G (F)∧l= [(1,Q i),(13,B k4)]) ?_ ?_))))
 ·clear H;refine W.region (cl (bH O7 (hG.m.le (by decide)) hT.m n4) ?_);rintro v18 e4 p6 ⟨w1,rfl⟩;refine va (B (!g2)) ?_;rcases bo (!g2) with M | M
  ·obtain rfl:=orT M z1;exact vb M (pz (ps (va (B true) (wln (jn e4 ⟨w1,rfl⟩)))))
  have g0:=orF M z1;refine vb M (wa (Qo i (0+2)) (wn (vx (l1 eg ((mm j) 2 _ rfl)) (wn (bn g0 fun s3 o4 g0=>cl (fW w1 b.Ops A.m o4) ?_)))));rintro v27 f4 q6 ⟨v3,rfl⟩;obtain rfl:=si g0;exact va (B s3) (wln (jn f4 ⟨v3,rfl⟩))
 rintro e_ w_ ⟨j6,n6,_,rfl,y4,rfl,x1,rfl⟩;refine nrm (cn H (fun p4 H=>?_) (fun p4 H=>?_))
 ·refine sr (bn H fun t3 q4 H=>cl (bH x1 (hG.m.le (by decide)) hT.m q4) ?_);rintro v41 g4 r6 ⟨w3,rfl⟩;refine va (B t3) (wln (W.ret (thr ?_)));obtain rfl:=si H;exact r1 (qq g4 ⟨G,w3,R0.m,rfl⟩)
 refine W.skip (nrm (sr (vx (lN 24 (mm j)) (bn H fun d r4 H=>cl (ka x1 hT.m b A.m r4) ?_))));rintro v48 k6 z4 ⟨x3,rfl⟩;refine va (.string d) (wln (W.seq (sr (va (Q i) (vx (l1 u_3 ((mm j) 0 _ rfl)) (va (Qo i (0+1)) (vx (l1 u_3 ((mm j) 1 _ rfl)) (va (Qo i (0+2)) (vx (l1 eg ((mm j) 2 _ rfl)) (bn H fun u3 s4 H=>cl (fV x3 b.W b.H b.Ops A.m s4) ?_))))))))));rintro v55 y1 b5 ⟨m0,rfl⟩;refine va (B (!u3)) (wln (cn H (fun t4 H=>?_) (fun t4 H=>?_)))
 ·refine W.seq (bn H fun b3 b2 H=>W.join (Jn y1 fun c l=>Own c G (F)∧l= [(2,B b3)]) ?_ ?_)
  ·clear H;refine W.region (va (.string d) (vr (B (eqS d (⟨#[]⟩:ByteArray))) (ed (by kernel_rfl)) ?_));rcases bo (eqS d (⟨#[]⟩:ByteArray)) with N | N
   ·have h0:=anT N b2;refine vb N (wn (vx (lN 24 (mm j)) (wn (bn h0 fun b0 u4 h0=>cl (eB m0 b A.m u4) ?_))));rintro u6 h4 s6 ⟨y3,rfl⟩;refine wa (B (!b0)) ?_;obtain rfl:=si h0;exact vv (B (!b0)) (wln (jn h4 ⟨y3,rfl⟩))
   obtain rfl:=anF N b2;exact vb N (pz (ps (vv (B false) (wln (jn y1 ⟨m0,rfl⟩)))))
  rintro e_ w_ ⟨i4,o6,_,rfl,t6,rfl,z3,rfl⟩;refine nrm (W.ret (thr ?_));obtain rfl:=si H;exact r1 (qq i4 ⟨G,z3,R0.m,rfl⟩)
 refine W.skip (nrm (sr (va (.string d) (bn H fun a v4 H=>cl (gB m0 R0.m (hG.m.le (by decide)) hT.m d v4) ?_))));rintro v6 l6 c5 ⟨f2,f0,D,b4,o0,rfl,P,w4⟩;refine va (.tuple #[.agg #[I a.2.1.W,I a.2.1.H,f2],f0]) (va (.agg #[I a.2.1.W,I a.2.1.H,f2]) (va (f0) (me (al 24 [I 0,I 0,Y] b4) ?_)));rintro w6 m6 n1 ⟨g,rfl,c4⟩;obtain ⟨k,n,o,rfl⟩:=((P.mono n1)).form;refine md (sA 24 [I a.2.1.W,I a.2.1.H,.slice k n o] 0 c4 ⟨rfl,rfl,P.m.one,trivial⟩) ?_;rintro j4 d2 d4;refine va (f0) (wln (W.seq (W.seq (bn H fun q1 x4 H=>bn H fun o5 c2 H=>bn H fun p5 i1 H=>bn H fun q5 e0 H=>bn H fun r5 R H=>bn H fun c3 E H=>W.join (Jn j4 fun c l=>Own c D ((Eb g 24 [I a.2.1.W,I a.2.1.H,.slice k n o]) :: F)∧l= [(1,Q i),(4,Q g),(77,B c3)]) ?_ ?_))))
 ·clear H;refine W.region (vx (lN 24 (mm j)) (cl (eB d4 b A.m x4) ?_));rintro e6 v2 x5 ⟨i0,rfl⟩;refine va (B (!q1)) ?_;rcases bo (!q1) with s | s
  ·obtain rfl:=orT s c2;refine vb s (pz (pz (pz (pz (ps (va (B true) ?_))))));have t0:true=true:=rfl;obtain rfl:=orT t0 i1;refine vb t0 (pz (va (B true) ?_));have u0:true=true:=rfl;obtain rfl:=orT u0 e0;refine vb u0 (pz (pz (ps (va (B true) ?_))));have v0:true=true:=rfl;obtain rfl:=orT v0 R;refine vb v0 (pz (pz (ps (va (B true) ?_))));have w0:true=true:=rfl;obtain rfl:=orT w0 E;exact vb w0 (pz (pz (pz (ps (va (B true) (wln (jn v2 ⟨i0,rfl⟩)))))))
  have T:=orF s c2;refine vb s (wa (.string d) (wa (Q i) (wn (vx (l1 u_3 ((mm j) 0 _ rfl)) (wa (Qo i (0+1)) (wn (vx (l1 u_3 ((mm j) 1 _ rfl)) (wa (Qo i (0+2)) (wn (vx (l1 eg ((mm j) 2 _ rfl)) (wn (bn T fun d0 d3 T=>cl (eL i0 b.W b.H b.Ops A.m d3) ?_))))))))))));rintro f6 p y5 ⟨h,rfl⟩;refine wn (vr (B (!(eqS d d0))) (eV (by kernel_rfl)) ?_);obtain rfl:=si T;refine va (B (!(eqS d d0))) ?_;rcases bo (!(eqS d d0)) with u | u
  ·obtain rfl:=orT u i1;refine vb u (pz (va (B true) ?_));have x0:true=true:=rfl;obtain rfl:=orT x0 e0;refine vb x0 (pz (pz (ps (va (B true) ?_))));have y0:true=true:=rfl;obtain rfl:=orT y0 R;refine vb y0 (pz (pz (ps (va (B true) ?_))));have z0:true=true:=rfl;obtain rfl:=orT z0 E;exact vb z0 (pz (pz (pz (ps (va (B true) (wln (jn p ⟨h,rfl⟩)))))))
  have j2:=orF u i1;refine vb u (wa (f0) (wn (vr (B (!a.2.2.isNil)) (by rcases w4.m.cs with ⟨g1,h1⟩ | ⟨b_,g1,h1⟩ | ⟨b_,g1,h1⟩ <;> (subst g1; rw [h1]; kernel_rfl)) ?_)));obtain rfl:=si j2;refine va (B (!a.2.2.isNil)) ?_;rcases bo (!a.2.2.isNil) with x | x
  ·obtain rfl:=orT x e0;refine vb x (pz (pz (ps (va (B true) ?_))));have a1:true=true:=rfl;obtain rfl:=orT a1 R;refine vb a1 (pz (pz (ps (va (B true) ?_))));have b1:true=true:=rfl;obtain rfl:=orT b1 E;exact vb b1 (pz (pz (pz (ps (va (B true) (wln (jn p ⟨h,rfl⟩)))))))
  have k2:=orF x e0;refine vb x (wa (Q g) (wn (vx (le1 0 u_3 (h.on 0 rfl)) (wa (Q i) (wn (vx (l1 u_3 ((mm j) 0 _ rfl)) (wa (B (a.2.1.W != b.W)) ?_)))))));obtain rfl:=si k2;refine va (B (a.2.1.W != b.W)) ?_;rcases bo (a.2.1.W != b.W) with y | y
  ·obtain rfl:=orT y R;refine vb y (pz (pz (ps (va (B true) ?_))));have c1:true=true:=rfl;obtain rfl:=orT c1 E;exact vb c1 (pz (pz (pz (ps (va (B true) (wln (jn p ⟨h,rfl⟩)))))))
  have l2:=orF y R;refine vb y (wa (Qo g 1) (wn (vx (le1 1 u_3 (h.on 0 rfl)) (wa (Qo i (0+1)) (wn (vx (l1 u_3 ((mm j) 1 _ rfl)) (wa (B (a.2.1.H != b.H)) ?_)))))));obtain rfl:=si l2;refine va (B (a.2.1.H != b.H)) ?_;rcases bo (a.2.1.H != b.H) with z | z
  ·obtain rfl:=orT z E;exact vb z (pz (pz (pz (ps (va (B true) (wln (jn p ⟨h,rfl⟩)))))))
  have m2:=orF z E;refine vb z (wa (Qo g 2) (wn (vx (le1 2 eg (h.on 0 rfl)) (wn (vx (ln 3 eg P.m) (wa (Qo i (0+2)) (wn (vx (l1 eg ((mm j) 2 _ rfl)) (wn (vx (ln 3 eg A.m) (wa (B ((a.2.1.Ops.length:Int) != (b.Ops.length:Int))) ?_)))))))))));obtain rfl:=si m2;exact va (B ((a.2.1.Ops.length:Int) != (b.Ops.length:Int))) (wln (jn p ⟨h,rfl⟩))
 rintro e_ w_ ⟨q,s5,_,rfl,j1,rfl,j0,rfl⟩;refine nrm (cn H (fun e3 H=>?_) (fun e3 H=>?_))
 ·refine sr (va (B false) (wln (W.ret (thr ?_))));obtain rfl:=si H;have n2:=j0.sD 1 [];exact r1 (qq q ⟨D,n2,o0.m,rfl⟩)
 refine W.skip (nrm (W.seq (sr (va (I 0) (wln (W.block (bn H fun a0 d1 U=>lp d1 (fun f=>Jn q fun c l=>Own c D ((Eb g 24 [I a.2.1.W,I a.2.1.H,.slice k n o]) :: F)∧l= [(1,Q i),(4,Q g),(6,I f)]) (fun t=>match t with | .inl x_=>(fun e2 ex e w=>ex= .ret∧(Jn q fun c l=>∃G_,Own c G_ (F)∧l= [(2,B e2.2)]∧Rel c e2.1 G_) e w) x_ | .inr x_=>(fun g5 ex e w=>ex= .exit 0∧(Jn q fun c l=>Own c D ((Eb g 24 [I a.2.1.W,I a.2.1.H,.slice k n o]) :: F)∧l= []) e w) x_) ?_ ?_ ?_)))))))
 ·clear U d1;intro f x6 l4 d5 H;revert l4 d5;rintro e_ w_ ⟨w2,t5,_,rfl,k1,rfl,k0,rfl⟩;refine W.seq (sr (va (I f) (va (Qo i (0+2)) (vx (l1 eg ((mm j) 2 _ rfl)) (vx (ln 3 eg A.m) (va (B (decide (f < (b.Ops.length:Int)))) (wln (cn H (fun f3 H=>?_) (fun f3 H=>?_)))))))))
  ·refine W.skip (nrm (W.seq (W.block (W.seq (rD [] (Kp G0 [(Eb g 24 [I a.2.1.W,I a.2.1.H,.slice k n o])]) k0 ?_)))));intro x2 m1 l0;have o3:Kp G0 [(Eb g 24 [I a.2.1.W,I a.2.1.H,.slice k n o])] x2:=(Kp.cons (l0.on 0 rfl) Kp.nil0);refine ta 0 (.pointer (some ⟨g,2,none⟩)) (tkx 1 o3 (fun c' S hk=>le1 2 eg (hk.on 0 rfl)) (ta 2 (I f) (bn H fun s1 e1 H=>?_)));obtain ⟨e5,g3,m3⟩:=Sl.at (P.mono (n1.trans (d2.trans (j1.trans (k1.trans m1))))) (bS e1);obtain ⟨g6,rfl,h3⟩:=g3;refine tx 3 (fun c' S=>ix eg P.m e1) (tx 4 (fun c' S=>lN 38 (mm m3)) (ta 5 (Qo i (0+2)) (tx 6 (fun c' S=>l1 eg ((mm j) 2 _ rfl)) (ta 7 (I f) (bn H fun t1 f1 H=>?_)))));obtain ⟨f5,i3,n3⟩:=Sl.at (A.mono (l9.trans (y4.trans (z4.trans (b5.trans (c5.trans (n1.trans (d2.trans (j1.trans (k1.trans m1)))))))))) (bS f1);obtain ⟨h6,rfl,j3⟩:=i3;refine tx 8 (fun c' S=>ix eg A.m f1) (tx 9 (fun c' S=>lN 38 (mm n3)) (bn H fun u1 k3 H=>o1 10 (gc 10 (cM l0 s1 t1 h3 j3 k3) ?_)));rintro i6 Z z5 ⟨X,rfl⟩;have p3:Kp G0 [(Eb g 24 [I a.2.1.W,I a.2.1.H,.slice k n o])] Z:=(Kp.cons (X.on 0 rfl) Kp.nil0);refine ⟨.inr p3,ta 11 (B (!u1)) (dn (nrm (cn H (fun l3 H=>?_) (fun l3 H=>?_))))⟩
   ·refine sr (va (B false) (wln (W.ret (bkr (thr ?_)))));obtain rfl:=si H;refine ⟨_,rfl,⟨rfl,?_⟩⟩;have o2:=X.sD 1 [];exact jn Z ⟨D,o2,rfl,o0.m⟩
   refine W.skip (bkn (nrm (W.region (va (I f) (vv (I (w64 (f+1))) (WL.nil ?_))))));obtain rfl:=si H;exact ⟨_,rfl,jn Z ⟨X,rfl⟩⟩
  refine W.exit (thx ?_);obtain rfl:=si H;exact ⟨_,rfl,rfl,jn w2 ⟨k0,rfl⟩⟩
 ·exact jn q ⟨j0,rfl⟩
 rcases a0 with a0 | a0
 ·intro m4; revert m4;rintro _ e_ w_ ⟨rfl,y2,u5,_,rfl,a6,rfl,i2,p2,rfl,u2⟩;refine bkr (thr ?_);obtain rfl:=si U;exact r1 (qq y2 ⟨i2,p2,u2,rfl⟩)
 rintro _ e_ w_ ⟨rfl,z2,v5,_,rfl,c6,rfl,q2,rfl⟩;refine bke (nrm (sr (va (B true) (wln (W.ret ?_)))));obtain rfl:=si U;have s2:=q2.sD 1 [];exact r1 (qq z2 ⟨D,s2,o0.m,rfl⟩)
end Go.Proofs.YtmncdniojmigeaaGreatDoor
namespace Go.Lt
open Go.ChangeShapes Go.WideShapes Go.RowKit
def C0 (w:World):Cx:=⟨w,fun _ _=>False,fun _ _=>none⟩
theorem oY (w:World):Own (C0 w) (fun _ _=>[]) []:=
 ⟨⟨fun i e h=>by cases i <;> simp [at_] at h,fun i j e e' h=>by cases i <;> simp [at_] at h⟩,fun _ _ _=>rfl⟩
theorem im0 {w:World} {b o:Nat} {v:Value} (h:w.cell? ⟨b,o,none⟩=some v):Im (C0 w) b o v:=by
 refine ⟨?_,id,h⟩;unfold World.cell? at h;split at h
 ·rename_i hh; exact (Array.getElem?_eq_some_iff.1 hh).1
 ·cases h
def Rd (P:Program) (t:TypeId) {α:Type} (R:Rp α) (K:α→Prop):Prop:=
 P.cellsOf t=R.size∧∀{H:Type} {enc:TypeId×Value→H} {w:World} {sp:Nat→Bool} {held:Bool} {fuel:Nat} {cs:List Value} {x:DataW H×List MemPlace},
  DataW.trod enc P w 0 sp held fuel t cs=some x→∃y,R.cells (C0 w) cs y∧K y
theorem Rd.int {P:Program} {t:TypeId} {k:IntKind} (ht:P.underlying t=some (.int k)) (hc:P.cellsOf t=1):Rd P t (RI k) (fun n=>(Lit.int k n).wf=true):=
 ⟨hc,fun h=>by obtain ⟨n,rfl,_,hw⟩:=DataW.trod_int ht h; exact ⟨n,rfl,hw⟩⟩
theorem oX {α:Type} {Q:Nat→α→Prop}:∀n,(∀i,i < n→∃x,Q i x)→∃xs:List α,xs.length=n∧∀i x,xs[i]? = some x→Q i x
 | 0,_=>⟨[],rfl,fun i x h=>by simp at h⟩
 | n+1,h=>by
  obtain ⟨xs,hl,hx⟩:=oX n fun i hi=>h i (Nat.lt_succ_of_lt hi);obtain ⟨y,hy⟩:=h n (Nat.lt_succ_self n);refine ⟨xs++ [y],by simp [hl],fun i x hi=>?_⟩;rw [List.getElem?_append] at hi;split at hi
  ·exact hx i x hi
  ·rename_i hn
   have h1:=(List.getElem?_eq_some_iff.1 hi).1;simp only [ab,au] at h1;obtain rfl:i=n:=by omega
   rw [hl,Nat.sub_self] at hi;cases hi;exact hy
theorem hF {w:World} {a:Addr} {n:Nat} {cs:List Value} (h:w.cells? 0 a n=some cs):cs.length=n∧∀j u,cs[j]? = some u→w.cell? (a.add j)=some u:=by
 unfold World.cells? at h;rw [ac (eC _)] at h;have hl:cs.length=n:=by simpa using mapM_some_length h
 refine ⟨hl,fun j u hu=>?_⟩;have hjn:j < n:=by have:=(List.getElem?_eq_some_iff.1 hu).1; omega
 have hj:=mapM_some_get h j j (qa hjn);rw [hu] at hj;exact hj
theorem Rd.slice {P:Program} {t e:TypeId} {α:Type} {R:Rp α} {K:α→Prop} (ht:P.underlying t=some (.slice e)) (hc:P.cellsOf t=1) (h0:0 < R.size) (h:Rd P e R K):Rd P t (RL R) (fun xs=>xs.length≤maxLen∧∀x∈xs,K x):=by
 refine ⟨hc,fun {H enc w sp held fuel cs x} hd=>?_⟩;rcases qE ht hd with ⟨rfl,_⟩ | ⟨a,len,cap,elems,rest,n,_,rfl,_,_,hl,hm,hlen,hel,_,_⟩
 ·exact ⟨[],⟨_,rfl,Sl.nl R _⟩,eC _,fun x hx=>by cases hx⟩
 ·obtain ⟨b,o,s⟩:=a;have key:∀i,i < len→∃x,K x∧∃b' off l,(some ⟨b,o,s⟩:Option Addr)=some ⟨b',off,none⟩∧R.cells (C0 w) l x∧∀j u,l[j]? = some u→Im (C0 w) b' (off+i * R.size+j) u:=by
   intro i hi;have hs:s=none:=by
    have hE:=hel 0 (by omega);rw [ak (show 0 < elems.length by omega),eR] at hE;obtain ⟨cs,hcs,_⟩:=hE;obtain ⟨c1,c2⟩:=hF hcs;have hp:0 < cs.length:=by rw [c1,h.1]; exact h0
    have:=qB (c2 0 _ (ak hp));simpa [Addr.add] using this
   subst hs;have hE:=hel i hi;rw [ak (show i < elems.length by omega),eR] at hE;obtain ⟨cs,hcs,hr⟩:=hE;obtain ⟨c1,c2⟩:=hF hcs;obtain ⟨x,hx,hk⟩:=h.2 hr;refine ⟨x,hk,b,o,cs,rfl,hx,fun j u hu=>im0 ?_⟩;have:=c2 j u hu;rw [eS,eS,h.1] at this;exact this
  obtain ⟨xs,hxl,hxs⟩:=oX len key;subst hxl;refine ⟨xs,⟨_,rfl,some ⟨b,o,s⟩,cap,rfl,hl,hm,fun i x hx=>(hxs i x hx).2⟩,cD hl hm,fun x hx=>?_⟩;obtain ⟨i,hi⟩:=List.mem_iff_getElem?.1 hx;exact (hxs i x hi).1
theorem Rd.field {P:Program} {H:Type} {enc:TypeId×Value→H} {w:World} {sp:Nat→Bool} {held:Bool} {n:Nat} {cs:List Value} {fs:Array Field} {xs:List (DataW H×List MemPlace)}
  (hf:∀(i:Nat) (f:Field),fs[i]? = some f→DataW.trod enc P w 0 sp held n f.type ((cs.drop f.offset).take (P.cellsOf f.type))=xs[i]?) (hx:xs.length=fs.size)
  (i:Nat) {f:Field} (hi:fs[i]? = some f) {α:Type} {R:Rp α} {K:α→Prop} (h:Rd P f.type R K):∃y,R.cells (C0 w) ((cs.drop f.offset).take R.size) y∧K y:=by
 have hlt:=(Array.getElem?_eq_some_iff.1 hi).1;have:=hf i f hi;rw [ak (show i < xs.length by omega),h.1] at this;exact h.2 this
section
variable {P:Program} {H:Type} {enc:TypeId×Value→H} {w:World} {sp:Nat→Bool} {held:Bool} {t:TypeId} {v:Value} {d:DataW H} {p:List MemPlace}
theorem oJ {α:Type} {R:Rp α} {K:α→Prop} {fs:Array Field} (ht:P.underlying t=some (.struct fs)) (h:Rd P t R K) (hok:Value.okWide P w .any 0 t v) (hd:DataW.Trod enc P w 0 sp held t v d p):
  ∃cs x,v= .agg cs∧R.cells (C0 w) cs.toList x∧K x:=by
 obtain ⟨fuel,hd⟩:=hd;obtain ⟨x,hx,hk⟩:=h.2 hd;unfold Value.okWide at hok;rw [ht] at hok;obtain ⟨cs,rfl,_⟩:=hok;exact ⟨cs,x,rfl,hx,hk⟩
end
theorem eT {H:Type} {enc:TypeId×Value→H} {P:Program} (hl:laidOutB P=true) {w w':World} (h:∀k,k < w.heap.size→w'.heap[k]? = w.heap[k]?) {sp:Nat→Bool}:
  ∀{ts:List TypeId} {vs:List Value} {ds:List (DataW H)} {ps:List MemPlace},(ts.all fun t=>P.readableRec t && decide (t < P.types.size))=true→(∀x∈ps,x.block < w.heap.size)→(∀x∈ps,sp x.block=true)→
  DataW.TrodAll enc P w 0 (fun _=>true) true ts vs ds ps→DataW.TrodAll enc P w' 0 sp true ts vs ds ps
 | [],[],[],_,_,_,_,hA=>hA
 | [],_ :: _,_,_,_,_,_,hA=>hA.elim
 | [],[],_ :: _,_,_,_,_,hA=>hA.elim
 | _ :: _,[],_,_,_,_,_,hA=>hA.elim
 | _ :: _,_ :: _,[],_,_,_,_,hA=>hA.elim
 | t :: ts,v :: vs,d :: ds,ps,hr,hlt,hsp,hA=>by
  obtain ⟨p,q,h1,h2,rfl⟩:=hA;simp only [List.all_cons,ai,ag] at hr;refine ⟨p,q,WideElems.Trod_stays hl hr.1.1 hr.1.2 h1 (fun x hx=>?_) (fun x hx=>hsp x (br _ hx)),eT hl h hr.2 (fun x hx=>hlt x (fC _ hx)) (fun x hx=>hsp x (fC _ hx)) h2,rfl⟩;have hb:=hlt x (br _ hx)
  cases x with
  | cell b o=>exact bJ (w:=w) (h b hb)
  | map b=>exact h b hb
theorem iw {H:Type} {enc:TypeId×Value→H} {P:Program} {f:Func} {s:ChangeSpec} {apart fresh handsOn again:Bool} {w w':World} {args:Array Value} {v:Value} {ds gs:List (DataW H)} {ps before:List MemPlace}
  (hW:DataW.Whole enc P f.params.toList s.vars apart w args.toList ds gs before) (he:before=ps++ [])
  (hr:∀(b:Nat) (sp:Nat→Bool) (hd:Bool),DataW.TrodAll enc P w' b sp hd f.resultTypes.toList (v.resultList f.resultTypes.size) (s.fn H (ds++gs)).results [])
  (ha:∀sp:Nat→Bool,(∀x∈ps,sp x.block=true)→DataW.TrodAll enc P w' 0 sp true f.params.toList args.toList (s.fn H (ds++gs)).args ps)
  (hv:∀sp:Nat→Bool,DataW.TrodVars enc P w' sp s.vars (s.fn H (ds++gs)).vars [])
  (hg:Gr w w') (ho:∀(j:Nat) (t:TypeId) (r:Value),f.resultTypes[j]? = some t→(v.resultList f.resultTypes.size)[j]? = some r→Value.okWide P w' .any 0 t r):s.post enc P f apart fresh handsOn again w args v w':=by
 rw [iP] at he;subst he;have hlt:∀x∈before,x.block < w.heap.size:=fun x hx=>hW.lt x hx;refine ⟨ds,gs,before,[],before,[],hW,hr _ _ _,ha _ (fun x hx=>av (hlt x hx)),hv _,qp (fun x hx=>⟨hx,.inr (.inl hx)⟩) (hg.frame (· ∈before)),fun _=>?_⟩;obtain ⟨_,_,_,_,_,hz,hn⟩:=hW;refine ⟨ho,_,_,([]++before)++ [],⟨[]++before,[],trodAll_append (ha _ fun _ _=>rfl) (hr _ _ _),hv _,rfl,fun b off hb=>?_,fun e=>?_⟩,fun x hx _=>by simpa using hx⟩
 ·have hb':MemPlace.cell b off∈before:=by simpa using hb
  have:=hlt _ hb';rw [hg.2.1 ⟨b,off,none⟩ this];exact hz b off (by simpa using hb')
 ·simpa using hn e
theorem nk {P:Program} {laid:List (String×DataW Unit)} {w:World} (h:(laid.filter fun x=>x.2.handleName?.isSome)= []):laidMetH P laid w=laidMet P laid w:=by
 unfold laidMetH;rw [h]
theorem kg {P:Program} {W:World} {ti tp te ts:TypeId} {ms:Array (String×TypeId)} {f:Field} (hi:P.underlying ti=some (.interface ms)) (hrow:∀u,P.typeName? 3 u=some "*errors.errorString"→u=tp)
  (hp:P.underlying tp=some (.pointer te)) (he:P.underlying te=some (.struct #[f])) (hft:f.type=ts) (hfo:f.offset=0) (hs:P.underlying ts=some .string) (hc:P.cellsOf te=1) (hcs:P.cellsOf ts=1):
  ∀{laid:List (String×DataW Unit)} {ps:List MemPlace},DataW.LaidVars P W laid ps→(∀b off,MemPlace.cell b off∈ps→(∃c t,W.heap[b]? = some (.cells c t (0,0)))∧∀u v,W.cell? ⟨b,off,none⟩=some (.iface u v)→Value.okWide P W .any 0 u v)→
  ∀n text g,(n,DataW.iface "*errors.errorString" (.ptr (.agg [.lit (.string text)])))∈laid→P.globalNamed n=some g→(P.globals[g]?).map (·.type)=some ti→∃a s,W.cell? ⟨g,0,none⟩=some (.iface tp (.pointer (some a)))∧W.cell? a=some (.string s)∧s.data.toList=text∧∃c t,W.heap[a.block]? = some (.cells c t (0,0))
 | [],_,_,_,_,_,_,hm,_,_=>by cases hm
 | (n',d) :: r,ps,⟨g',t,cs,fuel,p,q,hg',ht',hv,hd,hr,e⟩,hrows,n,text,g,hm,hg,ht=>by
  subst e;rcases List.mem_cons.1 hm with hh | hm
  ·cases hh;obtain rfl:=ao (hg.symm.trans hg');obtain rfl:=ao (ht.symm.trans ht');obtain ⟨l⟩:=cs;have ok:∀u v,l= [.iface u v]→Value.okWide P W .any 0 u v:=fun u v e=>by
    subst e;exact (hrows g 0 (by simp [MemPlace.row])).2 u v (by simpa using iO hg hv 0)
   obtain ⟨a,s,rfl,h1,h2,_,rfl⟩:=errorString_of_trod hi hrow hp he hft hfo hs hc hcs hd ok;exact ⟨a,s,by simpa using iO hg hv 0,h1,h2,(hrows a.block a.off (by simp [MemPlace.row])).1⟩
  ·exact kg hi hrow hp he hft hfo hs hc hcs hr (fun b off hb=>hrows b off (fC _ hb)) n text g hm hg ht
theorem lD {P:Program} {f:FuncId} {fn:Func} {s:ChangeSpec} {c:OpenClaim} (l1:laidOutB P=true) (l2:mapsRowed P=true) (l3:(P.stops== [])=true) (l4:(P.stopKnobs== [])=true) (l5:P.stopsHeard=true) (l6:P.mayEnter=true)
  (l7:(c.lifted==P.liftsFinal)=true) (l8:(P.make==some c.make)=true) (l9:(c.plainKeys==P.plainKeys)=true)
  (a0:c.wf (OpenSpec.ofChange s)=true) (a1:(fn.params.all (P.readableRec ·) && namedTie P c.named s.vars && (c.stops== []) && (c.knobs== []))=true)
  (a2:(c.inPlace==P.inPlace f)=true) (a3:(c.unfollowed==P.unfollowed f)=true) (a4:(c.recurses==P.recurses f)=true) (a5:(c.named==P.varsNamed f)=true)
  (a6:((c.maps==(fn.params.toList++s.plain.varTypes P).any (P.mapsRec ·)) && (c.ifaces==(fn.params.toList++s.plain.varTypes P).any (P.ifacesRec ·)) && (c.mapsOut==P.mapsAmong fn.resultTypes.toList) &&
   (c.loops==(fn.params.toList++s.plain.varTypes P).any (P.loopsFrom ·)) && (c.wideKeys==(fn.params.toList++s.plain.varTypes P++fn.resultTypes.toList).any (P.wideKeysFrom ·)) &&
   s.vars.all (P.varReadable ·) && fn.resultTypes.all (fun t=>P.readableRec t && decide (t < P.types.size)) && (c.ifacesOut==fn.resultTypes.toList.any (P.ifacesRec ·)) && (c.loopsOut==fn.resultTypes.toList.any (P.loopsFrom ·)))=true)
  (a7:(c.shortTexts.isNone && (c.kinds==(if c.domain.isEmpty then [] else fn.params.toList.map fun t=>match P.underlying t with | some (.int k)=>some k | _=>none)) && (c.pinned==c.pinnedBy) &&
   (c.veiled==(fn.params.toList++s.plain.varTypes P++fn.resultTypes.toList).any (P.veiledRec ·)) && c.veiledFits P fn.params.toList (fn.params.toList++s.plain.varTypes P++fn.resultTypes.toList))=true):joinedFacts P f fn s c=true:=by
 simp only [ai] at a1 a6 a7;obtain ⟨⟨⟨b1,b2⟩,b3⟩,b4⟩:=a1;obtain ⟨⟨⟨⟨⟨⟨⟨⟨c1,c2⟩,c3⟩,c4⟩,c5⟩,c6⟩,c7⟩,c8⟩,c9⟩:=a6;obtain ⟨⟨⟨⟨d1,d2⟩,d3⟩,d4⟩,d5⟩:=a7;unfold joinedFacts;simp only [ai];exact ⟨⟨⟨⟨⟨⟨⟨⟨⟨⟨⟨⟨⟨⟨⟨⟨⟨⟨⟨⟨⟨⟨⟨⟨⟨⟨⟨⟨⟨⟨⟨a0,l1⟩,l2⟩,b1⟩,b2⟩,b3⟩,l3⟩,b4⟩,l4⟩,a2⟩,a3⟩,a4⟩,a5⟩,c1⟩,c2⟩,c3⟩,c4⟩,c5⟩,c6⟩,c7⟩,c8⟩,c9⟩,l9⟩,d1⟩,l5⟩,l6⟩,l7⟩,l8⟩,d2⟩,d3⟩,d4⟩,d5⟩
end Go.Lt
namespace Go.Proofs.YtmncdniojmigeaaGreatDoor
open Go Go.Lt
set_option linter.unusedVariables false
theorem pC {α:Type} {cs:List α} (h:cs.length=4):∃a0 a1 a2 a3,cs= [a0,a1,a2,a3]:=by
 match cs,h with
 | [a0,a1,a2,a3],_=>exact ⟨_,_,_,_,rfl⟩
theorem qj {α:Type} {cs:List α} (h:cs.length=3):∃a0 a1 a2,cs= [a0,a1,a2]:=by
 match cs,h with
 | [a0,a1,a2],_=>exact ⟨_,_,_,rfl⟩
def K_3 (n:Int):Prop:=(Lit.int .i64 n).wf=true
theorem D_3:Rd Tryz.prog 3 (RI .i64) K_3:=Rd.int Tryz.underlying3 (by kernel_rfl)
def K_5 (n:Int):Prop:=(Lit.int .u8 n).wf=true
theorem D_5:Rd Tryz.prog 5 (RI .u8) K_5:=Rd.int Tryz.underlying5 (by kernel_rfl)
def pU (xs:List Int):Prop:=xs.length≤maxLen∧∀x∈xs,K_5 x
theorem qu:Rd Tryz.prog 36 (RL (RI .u8)) pU:=Rd.slice Tryz.underlying36 (by kernel_rfl) (by decide) D_5
def qs (x:aj):Prop:=K_3 x.Kind∧K_3 x.A∧K_3 x.B∧pU x.Bytes
theorem qt:Rd Tryz.prog 38 bq qs:=by
 refine ⟨by kernel_rfl,fun {H enc w sp held fuel cs x} h=>?_⟩;obtain ⟨xs,n,rfl,rfl,hl,hn,hf⟩:=lx Tryz.underlying38 h;replace hl:=hl.trans (show Tryz.prog.cellsOf 38=4 by kernel_rfl);obtain ⟨a0,a1,a2,a3,rfl⟩:=pC hl;obtain ⟨y0,e0,k0⟩:=Rd.field hf hn 0 rfl D_3;have e0: [a0]= [.int .i64 y0]:=e0;cases e0;obtain ⟨y1,e1,k1⟩:=Rd.field hf hn 1 rfl D_3;have e1: [a1]= [.int .i64 y1]:=e1;cases e1;obtain ⟨y2,e2,k2⟩:=Rd.field hf hn 2 rfl D_3;have e2: [a2]= [.int .i64 y2]:=e2;cases e2;obtain ⟨y3,e3,k3⟩:=Rd.field hf hn 3 rfl qu;obtain ⟨v3,e3,s3⟩:=e3;have e3: [a3]= [v3]:=e3;cases e3;exact ⟨⟨y0,y1,y2,y3⟩,⟨_,rfl,s3⟩,k0,k1,k2,k3⟩
theorem pB (w:World):Rel (C0 w) ⟨[]⟩ (fun _ _=>[]):=
 ⟨⟨fun k x h=>by simp at h,fun _ _=>rfl⟩⟩
theorem py: "*" ++ "errors.errorString" = "*errors.errorString" :=by decide
set_option maxRecDepth 100000 in
theorem na (u:TypeId) (h:Tryz.prog.typeName? 3 u=some "*errors.errorString"):u=230:=
 typeName_ptr_named (nm:= "errors.errorString") (by rw [py]; kernel_rfl) (by kernel_rfl) (by decide) u (by rw [py]; exact h)
set_option maxRecDepth 100000 in
theorem cy {W:World} {laid:List (String×DataW Unit)} (h:laidMetH Tryz.prog laid W) (hf:(laid.filter fun x=>x.2.handleName?.isSome)= []) (n:String) (text:List UInt8) (g:Nat)
  (hm:(n,DataW.iface "*errors.errorString" (.ptr (.agg [.lit (.string text)])))∈laid) (hg:Tryz.prog.globalNamed n=some g) (ht:(Tryz.prog.globals[g]?).map (·.type)=some 31):
  ∃a s,Im (C0 W) g 0 (.iface 230 (.pointer (some a)))∧W.cell? a=some (.string s)∧s.data.toList=text∧RE 230 87 (C0 W) (.iface 230 (.pointer (some a))) (.sent g):=by
 rw [nk hf] at h;obtain ⟨ps,hl,_,hr⟩:=h;obtain ⟨a,s,h1,h2,h3,cs,t,h4⟩:=kg Tryz.underlying31 na Tryz.underlying230 Tryz.underlying232 rfl rfl Tryz.underlying9 (by kernel_rfl) (by kernel_rfl) hl hr n text g hm hg ht;exact ⟨a,s,im0 h1,h2,h3,a,rfl,im0 h1,(Array.getElem?_eq_some_iff.1 h4).1,fun _=>id,cs,t,h4⟩
theorem lI {W:World} {n:List Nat} (tx:Nat→List UInt8) (h:∀g,g∈n→∃a s,Im (C0 W) g 0 (.iface 230 (.pointer (some a)))∧W.cell? a=some (.string s)∧s.data.toList=tx g∧RE 230 87 (C0 W) (.iface 230 (.pointer (some a))) (.sent g))
  (hd:∀g,g∈n→∀g',g'∈n→tx g=tx g'→g=g'):Gl n (C0 W):=by
 refine ⟨fun g hg=>?_,fun g g' hg hg' hne a h1 h2=>?_⟩
 ·obtain ⟨a,_,_,_,_,h4⟩:=h g hg;exact ⟨_,h4⟩
 ·obtain ⟨a1,s1,e1,e2,e3,_⟩:=h g hg;obtain ⟨a2,s2,f1,f2,f3,_⟩:=h g' hg';have q1:=e1.cell.symm.trans h1.cell;have q2:=f1.cell.symm.trans h2.cell;cases q1;cases q2;have q3:=e2.symm.trans f2;cases q3;exact hne (hd g hg g' hg' (e3.symm.trans f3))
end Go.Proofs.YtmncdniojmigeaaGreatDoor
namespace Go.Proofs.YtmncdniojmigeaaGreatDoor
open Go Go.Lt Go.RowKit
theorem eu {H:Type} {enc:TypeId×Value→H} {a:Assume} {C:Checked} {os:Os} {f:FuncId} {fn:Func} {s:ChangeSpec} {conds:List PathCond} {apart fresh handsOn again:Bool} {X:World→Array Value→Prop}
  (hX:∀(w w':World) (args:Array Value),w.heap=w'.heap→X w args→X w' args)
  (own:ownKnob C.prog.godebug=none) (started:os.Started) (noInit:C.prog.inits.idxOf? f=none) (hfn:C.prog.funcs[f]? = some fn)
  (witness:∃(w:World) (tape:Tape) (i:Input),w.os=os∧(w.forCall tape i).Shaped C.prog∧i.vars= []∧Input.okWide C.prog (w.forCall tape i) .any w.heap.size f i∧
   ((s.pre enc C.prog fn conds apart (w.forCall tape i).memory i.args∧X (w.forCall tape i).memory i.args)∧sizedMet enc C.prog fn (OpenSpec.ofChange s) apart (w.forCall tape i).memory i.args)∧a.holds C.prog (lone (Frame.enter C.prog f i.args .normal) [] (w.forCall tape i)))
  (contract:∀(W:World) (base:Nat) (args:Array Value) (ds gs:List (DataW H)) (before:List MemPlace),
   (∀(j:Nat) t v,fn.params[j]? = some t→args[j]? = some v→Value.okWide C.prog W .any base t v)→
   DataW.Whole enc C.prog fn.params.toList s.vars apart W args.toList ds gs before→
   conds.all (PathCond.test C.prog ⟨fn.params.toList,ds,s.plain.varTypes C.prog,gs⟩)=true→
   (DataW.weightsEach C.prog (fn.params.toList++s.plain.varTypes C.prog) (ds++gs)).all (· ≤reachBytes)=true→X W args→
   W.ShapedOpen C.prog→
   a.holds C.prog (lone (Frame.enter C.prog f args .normal) [] W)→
   Calls C.prog f args W fun e W'=>∃v,e= .returned v∧s.post enc C.prog fn apart fresh handsOn again W args v W'):
  ReturnsInHanded a C os f .any (fun w args=>(s.pre enc C.prog fn conds apart w args∧X w args)∧sizedMet enc C.prog fn (OpenSpec.ofChange s) apart w args) (s.post enc C.prog fn apart fresh handsOn again):=by
 refine returnsInHanded_of_calls own started noInit witness ?_;intro w tape i _ hsh _ hok hpre hholds;obtain ⟨_,_,_,fn',hfn',_,_,_,_,hval⟩:=hok;have e:fn'=fn:=ao (hfn'.symm.trans hfn);subst e;obtain ⟨⟨⟨ds,gs,before,hw,hc⟩,hx⟩,hz⟩:=hpre;have hw':=DataW.Whole.of_heap (w':=w.forCall tape i) (by rfl) hw;refine (contract (w.forCall tape i) w.heap.size i.args ds gs before hval hw' hc (hz.weights hw) (hX _ _ _ (by rfl) hx) hsh hholds).mono fun e W' ⟨v,he,hp⟩=>?_;subst he;exact ChangeSpec.post_blind hp
theorem lb {P:Program} {W:World} {name:String} {k:IntKind} {zs:List Int} {g:Nat} {t e:TypeId} {n:Nat}
  (hg:P.globalNamed name=some g) (hty:(P.globals[g]?).map (·.type)=some t) (ht:P.underlying t=some (.array n e)) (he:P.underlying e=some (.int k)) (hce:P.cellsOf e=1) (hct:P.cellsOf t=n) (hn:0 < zs.length):
  ∀{laid:List (String×DataW Unit)} {ps:List MemPlace},DataW.LaidVars P W laid ps→(∀b off,MemPlace.cell b off∈ps→(∃c t,W.heap[b]? = some (.cells c t (0,0)))∧∀u v,W.cell? ⟨b,off,none⟩=some (.iface u v)→Value.okWide P W .any 0 u v)→
  (name,Lib.tabData k zs)∈laid→Lib.TabIs P W name k zs∧∃c t,W.heap[g]? = some (.cells c t (0,0))
 | [],_,_,_,hm=>by cases hm
 | (n',d) :: r,ps,⟨g',t',cs,fuel,p,q,hg',ht',hv,hd,hr,e2⟩,hrows,hm=>by
  subst e2;rcases List.mem_cons.1 hm with hh | hm
  ·cases hh;obtain rfl:=ao (hg.symm.trans hg');obtain rfl:=ao (hty.symm.trans ht');have hcs:=Lib.cells_of_tab ht he hce hct hd;have hsz:cs.size=zs.length:=by
    have:=cf List.length hcs;simpa using this
   refine ⟨by unfold Lib.TabIs; rw [hv,←hcs],(hrows g 0 ?_).1⟩;refine br _ (br _ ?_);unfold MemPlace.row;rw [hsz];exact List.mem_map.2 ⟨0,List.mem_range.2 hn,by simp⟩
  ·exact lb hg hty ht he hce hct hn hr (fun b off hb=>hrows b off (fC _ hb)) hm
theorem kW {W:World} (h:W.ShapedOpen Tryz.prog):∃m,W.cell? ⟨9,0,none⟩=some (.int .i64 m):=
 cell_of_shapedOpen_int (t:=3) (zero:= #[.int .i64 0]) h (eh (by kernel_rfl)) (by kernel_rfl) rfl (by kernel_rfl) (by kernel_rfl) (by kernel_rfl)
theorem et0 {W:World} {laid:List (String×DataW Unit)} (hs:W.ShapedOpen Tryz.prog) (hf:(laid.filter fun x=>x.2.handleName?.isSome)= []) (h:laidMetH Tryz.prog laid W) (hm:("internal/strconv.uint64pow10",Lib.tabData .u64 Lib.pow10Tab)∈laid):Et (C0 W):=by
 rw [nk hf] at h;obtain ⟨ps,hl,_,hr⟩:=h;obtain ⟨h1,c,t,h2⟩:=lb (t:=201) (e:=56) (n:=20) iK (by kernel_rfl) (by kernel_rfl) (by kernel_rfl) (by kernel_rfl) (by kernel_rfl) (by decide) hl hr hm;obtain ⟨m,h3⟩:=kW hs;exact ⟨⟨m,im0 h3⟩,⟨(Array.getElem?_eq_some_iff.1 h2).1,fun _=>id,c,t,h2⟩,h1⟩
end Go.Proofs.YtmncdniojmigeaaGreatDoor
namespace Go.Proofs.YtmncdniojmigeaaGreatDoor
open Go Go.Lt
theorem wf8 {n:Int} (h:(Lit.int .u8 n).wf=true):0≤n∧n≤255:=by
 simp only [Lit.wf,IntKind.min,IntKind.max,IntKind.signed,IntKind.bits,ai,ag,dW,nB] at h;omega
end Go.Proofs.YtmncdniojmigeaaGreatDoor
namespace Go.Lt
theorem dJ {n:Int} (h: -9223372036854775808≤n∧n≤9223372036854775807):w64 n=n:=by
 unfold w64;rw [IntKind.wrap_i64];omega
theorem bsm {α β:Type} (a:α) (f:α→Option β):(some a).bind f=f a:=by simp
theorem js {σ τ:Type} {step:σ→Option (σ ⊕ τ)} (Inv:σ→Prop) (μ:σ→Nat) (post:τ→Prop)
  (h:∀s,Inv s→(∃s',step s=some (.inl s')∧Inv s'∧μ s' < μ s)∨∃t,step s=some (.inr t)∧post t):
  ∀(fuel:Nat) (s:σ),Inv s→μ s < fuel→∃t,cT fuel step s=some t∧post t:=by
 intro fuel
 induction fuel with
 | zero=>intro s _ hm; omega
 | succ k ih=>
  intro s hs hm;rcases h s hs with ⟨s',h1,h2,h3⟩ | ⟨t,h1,h2⟩
  ·obtain ⟨t,h4,h5⟩:=ih s' h2 (by omega);exact ⟨t,by simp [cT,h1,h4],h5⟩
  ·exact ⟨t,by simp [cT,h1],h2⟩
theorem cF (a b:Bool):orE a (some b)=some (a || b):=by cases a <;> rfl
theorem bA (a b:Bool):bW a (some b)=some (a && b):=by cases a <;> rfl
theorem fk (x:Option Bool):orE true x=some true:=rfl
theorem cX (x:Option Bool):orE false x=x:=rfl
theorem dH (x:Option Bool):bW true x=x:=rfl
theorem lR (x:Option Bool):bW false x=some false:=rfl
theorem oA {α:Type} (xs:List α) (i:Nat):idx xs (i:Int)=xs[i]? :=by
 unfold idx;rw [ac (Int.natCast_nonneg i)];rfl
theorem dM {α:Type} {xs:List α} {i:Nat} (h:i < xs.length):idx xs (i:Int)=some xs[i]:=by
 rw [oA,ak h]
theorem jM {α:Type} {xs ys:List α} (h:xs.length+ys.length≤1099511627776):app xs ys=some (xs++ys):=by
 unfold app far;rw [ac h]
theorem mg (x y:Int):ny x y=max x y:=by unfold ny; split <;> omega
theorem fo {σ τ:Type} {step:σ→Option (σ ⊕ τ)} {n:Nat} (Inv:Nat→σ→Prop) (post:τ→Prop)
  (h:∀i s,i < n→Inv i s→(∃s',step s=some (.inl s')∧Inv (i+1) s')∨∃t,step s=some (.inr t)∧post t)
  (hend:∀s,Inv n s→∃t,step s=some (.inr t)∧post t) {fuel:Nat} {s:σ} (h0:Inv 0 s) (hf:n < fuel):∃t,cT fuel step s=some t∧post t:=by
 have key:∀fuel i s,i≤n→n - i < fuel→Inv i s→∃t,cT fuel step s=some t∧post t:=by
  intro fuel
  induction fuel with
  | zero=>intro i s _ hm; omega
  | succ k ih=>
   intro i s hi hm hs;rcases bf i n with hlt | hge
   ·rcases h i s hlt hs with ⟨s',h1,h2⟩ | ⟨t,h1,h2⟩
    ·obtain ⟨t,h4,h5⟩:=ih (i+1) s' hlt (by omega) h2;exact ⟨t,by simp [cT,h1,h4],h5⟩
    ·exact ⟨t,by simp [cT,h1],h2⟩
   ·obtain rfl:i=n:=by omega
    obtain ⟨t,h1,h2⟩:=hend s hs;exact ⟨t,by simp [cT,h1],h2⟩
 exact key fuel 0 s (eC _) (by omega) h0
theorem cO {α β:Type} {x:Option α} {k:α→Option β} {a:α} {r:Option β} (h:x=some a) (h2:k a=r):x.bind k=r:=by rw [h]; exact h2
theorem ek {σ τ β:Type} {step:σ→Option (σ ⊕ τ)} {n:Nat} (Inv:Nat→σ→Prop) (post:τ→Prop) {fuel:Nat} {s:σ} {k:τ→Option β} {r:Option β}
  (h:∀i s,i < n→Inv i s→(∃s',step s=some (.inl s')∧Inv (i+1) s')∨∃t,step s=some (.inr t)∧post t)
  (hend:∀s,Inv n s→∃t,step s=some (.inr t)∧post t) (h0:Inv 0 s) (hf:n < fuel) (hk:∀t,post t→k t=r):(cT fuel step s).bind k=r:=by
 obtain ⟨t,h1,h2⟩:=fo Inv post h hend h0 hf;rw [h1];exact hk t h2
theorem dy {i n:Nat} (h:i < n) (hn:n≤9223372036854775807):w64 ((i:Int)+1)=((i+1:Nat):Int):=by
 rw [dJ (by omega)];simp
theorem dlt {i n:Nat} (h:i < n):decide ((i:Int) < (n:Int))=true:=by simp; exact h
end Go.Lt
namespace Go.Proofs.YtmncdniojmigeaaGreatDoor
open Go Go.Lt
theorem cV (s:ByteArray):mkS (blS s)=s:=by cases s; rfl
theorem aE (l:List UInt8):blS (mkS l)=l:=by simp [blS,mkS]
theorem gt {a b:ByteArray} (h:blS a=blS b):a=b:=by rw [←cV a,←cV b,h]
theorem ee (s:ByteArray):(blS s).length=s.size:=by
 show s.data.toList.length=s.data.size;exact qb
theorem aU (l:List UInt8):(mkS l).size=l.length:=by rw [←ee,aE]
theorem oo (s:ByteArray):aR s=((blS s).length:Int):=by rw [ee]; rfl
theorem gO (l:List UInt8):aR (mkS l)=(l.length:Int):=by rw [oo,aE]
theorem ez (a b:ByteArray):eqS a b=true↔a=b:=by
 unfold eqS;rw [ah];exact ⟨fun h=>gt h,fun h=>by rw [h]⟩
theorem cH (a:ByteArray):eqS a a=true:=(ez a a).2 rfl
theorem jC {a b:ByteArray} (h:a≠b):eqS a b=false:=by
 rw [Bool.eq_false_iff];exact fun e=>h ((ez a b).1 e)
theorem bX {a b:List UInt8} (h:a.length+b.length≤1099511627776):cx (mkS a) (mkS b)=some (mkS (a++b)):=by
 unfold cx far;rw [aU,aU,ac h]
 congr 1
theorem lX {a:List UInt8} {i j:Nat} (h:i≤j) (h2:j≤a.length):eE (mkS a) i j=some (mkS ((a.drop i).take (j - i))):=by
 unfold eE;rw [aU,ac (by omega)]
 congr 1
 apply gt;rw [aE];show ((mkS a).extract _ _).data.toList=_;simp [mkS,ByteArray.data_extract]
theorem jb {a:List UInt8} {i:Nat} (h:i < a.length):eU (mkS a) i=some ((a[i].toNat:Nat):Int):=by
 unfold eU;have h2:i < (mkS a).size:=by rw [aU]; exact h
 rw [ac (by omega),gH];have:(mkS a)[i]? = some a[i]:=by
  rw [ByteArray.getElem?_lt' _ _ h2];simp [mkS,ByteArray.getElem_eq_getElem_data];rfl
 rw [this];rfl
def bD (c:UInt8):List UInt8→List (List UInt8)
 | []=>[[]]
 | x :: t=>if x=c then [] :: bD c t else match bD c t with
  | []=>[[x]]
  | h :: r=>(x :: h) :: r
def bI (c:UInt8):List (List UInt8)→List UInt8
 | []=>[]
 | [x]=>x
 | x :: y :: r=>x++c :: bI c (y :: r)
theorem gn (c:UInt8):∀s,bD c s≠ []
 | []=>by simp [bD]
 | x :: t=>by
  unfold bD;split
  ·simp
  ·split <;> simp
theorem fi {c x:UInt8} (h:x≠c) (t:List UInt8):∃w r,bD c t=w :: r∧bD c (x :: t)=(x :: w) :: r:=by
 cases e:bD c t with
 | nil=>exact absurd e (gn c t)
 | cons w r=>exact ⟨w,r,rfl,by rw [bD,ae h,e]⟩
theorem lF (c:UInt8) (x:List UInt8) {r:List (List UInt8)} (h:r≠ []):bI c (x :: r)=x++c :: bI c r:=by
 cases r with
 | nil=>exact absurd rfl h
 | cons y r=>rfl
theorem lE (c x:UInt8) (w:List UInt8) (r:List (List UInt8)):bI c ((x :: w) :: r)=x :: bI c (w :: r):=by
 cases r <;> rfl
theorem fK (c:UInt8):∀s,bI c (bD c s)=s
 | []=>rfl
 | x :: t=>by
  by_cases h:x=c
  ·subst h;rw [bD,ac rfl,lF _ _ (gn _ _),fK x t];rfl
  ·obtain ⟨w,r,e1,e2⟩:=fi h t;have:=fK c t;rw [e1] at this;rw [e2,lE,this]
theorem io (c:UInt8):∀s,∀w∈bD c s,c∉w
 | [],w,hw=>by simp [bD] at hw; subst hw; simp
 | x :: t,w,hw=>by
  by_cases h:x=c
  ·rw [bD,ac h] at hw;rcases List.mem_cons.1 hw with rfl | hw
   ·simp
   ·exact io c t w hw
  ·obtain ⟨v,r,e1,e2⟩:=fi h t;rw [e2] at hw;rcases List.mem_cons.1 hw with rfl | hw
   ·have:=io c t v (by rw [e1]; simp);simp only [aT,not_or];exact ⟨fun e=>h e.symm,this⟩
   ·exact io c t w (by rw [e1]; simp [hw])
theorem ip {c:UInt8}:∀{w:List UInt8} (_:c∉w) (t:List UInt8),bD c (w++c :: t)=w :: bD c t
 | [],_,t=>by rw [dY,bD,ac rfl]
 | x :: w,h,t=>by
  have hx:x≠c:=fun e=>h (by simp [e]);have ih:=ip (c:=c) (w:=w) (fun e=>h (by simp [e])) t;rw [cg,bD,ae hx,ih]
theorem il {c:UInt8}:∀{w:List UInt8} (_:c∉w),bD c w= [w]
 | [],_=>rfl
 | x :: w,h=>by
  have hx:x≠c:=fun e=>h (by simp [e]);have ih:=il (c:=c) (w:=w) (fun e=>h (by simp [e]));rw [bD,ae hx,ih]
theorem fJ {c:UInt8}:∀{ws:List (List UInt8)} (_:ws≠ []) (_:∀w∈ws,c∉w),bD c (bI c ws)=ws
 | [],h,_=>absurd rfl h
 | [x],_,h=>il (h x (by simp))
 | x :: y :: r,_,h=>by
  rw [bI,ip (h x (by simp)),fJ (by simp) (fun w hw=>h w (fI _ hw))]
theorem eI (c:UInt8):∀s:List UInt8,(bD c s).length=s.count c+1
 | []=>rfl
 | x :: t=>by
  by_cases h:x=c
  ·subst h;rw [bD,ac rfl,ab,eI x t,pT]
  ·obtain ⟨w,r,e1,e2⟩:=fi h t;have:=eI c t;rw [e1] at this;rw [e2,ab,List.count_cons_of_ne h,←this];rfl
theorem jx {b c:UInt8} (h:b≠c) (l:List UInt8):(b :: l).idxOf c=l.idxOf c+1:=by
 rw [List.idxOf_cons];have:(b==c)=false:=by simpa using h
 rw [this];rfl
theorem gr (c:UInt8):∀s:List UInt8,Lib.index s [c]=if c∈s then ((s.idxOf c:Nat):Int) else -1
 | []=>rfl
 | b :: l=>by
  unfold Lib.index;by_cases h:b=c
  ·subst h;simp
  ·have hb:([c].isPrefixOf (b :: l))=false:=by
    have:(c==b)=false:=by simpa using fun e:c=b=>h e.symm
    simp [List.isPrefixOf,this]
   rw [hb,gr c l];simp only [dW,nB,aT];by_cases hm:c∈l
   ·rw [ac hm,ac (Or.inr hm),jx h];have:((((l.idxOf c:Nat):Int))== -1)=false:=by rw [cq]; omega
    rw [this];simp
   ·have:¬(c=b∨c∈l):=fun q=>q.elim (fun e=>h e.symm) hm;rw [ae hm,ae this];rfl
theorem jf {c:UInt8} {s:List UInt8} (h:c∈s):∃w t,s=w++c :: t∧c∉w∧s.idxOf c=w.length:=by
 induction s with
 | nil=>cases h
 | cons b l ih=>
  by_cases e:b=c
  ·subst e;exact ⟨[],l,rfl,by simp,by simp⟩
  ·rcases List.mem_cons.1 h with h | h
   ·exact absurd h.symm e
   ·obtain ⟨w,t,rfl,h1,h2⟩:=ih h;refine ⟨b :: w,t,rfl,?_,?_⟩
    ·simp only [aT,not_or];exact ⟨fun q=>e q.symm,h1⟩
    ·rw [jx e,h2];rfl
theorem mx (c:UInt8):∀(k:Nat) (s:List UInt8),s.count c=k→Lib.splitK [c] 0 k s=bD c s:=by
 intro k
 induction k with
 | zero=>
  intro s h;rw [il (by rw [←List.count_eq_zero]; exact h)];rfl
 | succ k ih=>
  intro s h;have hm:c∈s:=List.count_pos_iff.1 (by omega);obtain ⟨w,t,rfl,h1,h2⟩:=jf hm;rw [ip h1];unfold Lib.splitK;rw [gr,ac hm,h2];have:((w.length:Int)== -1)=false:=by rw [cq]; omega
  rw [this];simp only [dW,nB];have hc:t.count c=k:=by
   rw [dC,pT,List.count_eq_zero.2 h1] at h;omega
  simp only [pu,gH,am];rw [jO,show w++c :: t=(w++ [c])++t by simp,show w.length+1=(w++ [c]).length by simp,dg,ih t hc]
theorem gN {p0:ByteArray} (c:UInt8) (h:p0.size < 4294967281):cJ p0 ⟨#[c]⟩=some ((bD c (blS p0)).map mkS):=by
 have hs:(⟨#[c]⟩:ByteArray).size=1:=rfl;unfold cJ;rw [ac ⟨h,by rw [hs]; omega⟩]
 congr 1
 have hd:=Lib.splitB_data ⟨#[c]⟩ 0 (Lib.countB p0 ⟨#[c]⟩) p0;have hk:Lib.countB p0 ⟨#[c]⟩=(blS p0).count c:=by
  show Lib.count (blS p0) [c]=_;exact Lib.count_one c (blS p0)
 have h2:(Lib.splitB ⟨#[c]⟩ 0 (Lib.countB p0 ⟨#[c]⟩) p0).map blS=bD c (blS p0):=by
  refine hd.trans ?_;rw [hk];exact mx c _ _ rfl
 rw [←h2,fu]
 conv=>lhs; rw [←jQ (Lib.splitB ⟨#[c]⟩ 0 (Lib.countB p0 ⟨#[c]⟩) p0)]
 exact dI fun s _=>(cV s).symm
theorem mc (c:UInt8):∀ws:List (List UInt8),Lib.join ws [c]=bI c ws
 | []=>rfl
 | [x]=>Lib.join_one x [c]
 | x :: y :: r=>by
  rw [bI,←mc c (y :: r),Lib.join_cons,Lib.join_cons];simp [Lib.joinTail]
theorem nt {ws:List (List UInt8)} (c:UInt8) (h:ws.length≤140737488355328) (h2:(bI c ws).length≤140737488355328):dN (ws.map mkS) ⟨#[c]⟩=some (mkS (bI c ws)):=by
 unfold dN;have e:(ws.map mkS).map blS=ws:=by
  rw [fu]
  conv=>rhs; rw [←jQ ws]
  exact dI fun l _=>aE l
 have e2:blS ⟨#[c]⟩= [c]:=rfl;rw [e,e2,mc,aG,ac ⟨h,h2⟩]
theorem pj {p0:ByteArray} (c:UInt8) (h:p0.size < 4294967281):
  (c∉blS p0∧∃z,ck p0 ⟨#[c]⟩=some z∧z.2.2=false)∨∃w t,blS p0=w++c :: t∧c∉w∧ck p0 ⟨#[c]⟩=some (mkS w,mkS t,true):=by
 have e2:blS ⟨#[c]⟩= [c]:=rfl;unfold ck Lib.cut;rw [ac h,e2,gr];by_cases hm:c∈blS p0
 ·right
  obtain ⟨w,t,e,h1,h2⟩:=jf hm;refine ⟨w,t,e,h1,?_⟩;rw [ac hm,ac (by omega),h2,e];simp only [gH,am];rw [jO,show w++c :: t=(w++ [c])++t by simp,show w.length+1=(w++ [c]).length by simp,dg]
 ·left
  refine ⟨hm,_,rfl,?_⟩;rw [ae hm,ae (by omega)]
def dig (b:UInt8):Bool:=decide (48≤b.toNat) && decide (b.toNat≤57)
theorem jD {n:Nat} (h:n < 10):Lib.digitVal (UInt8.ofNat (48+n))=some n:=by
  have:n=0∨n=1∨n=2∨n=3∨n=4∨n=5∨n=6∨n=7∨n=8∨n=9:=by omega
  rcases this with rfl | rfl | rfl | rfl | rfl | rfl | rfl | rfl | rfl | rfl <;> rfl
theorem mj {b:UInt8} (h:dig b=true):Lib.digitVal b=some (b.toNat - 48)∧b.toNat - 48 < 10∧UInt8.ofNat (48+(b.toNat - 48))=b:=by
  unfold dig at h;simp only [ai,ag] at h;unfold Lib.digitVal;rw [ac h];refine ⟨rfl,by omega,?_⟩;rw [show 48+(b.toNat - 48)=b.toNat by omega];simp
theorem kr {b:UInt8} {n:Nat} (h:Lib.digitVal b=some n):dig b=true:=by
  unfold Lib.digitVal at h;split at h
  · rename_i q
    unfold dig;simp [q.1,q.2]
  · cases h
theorem fO (b:UInt8):∀(l:List UInt8) (acc:Nat),Lib.decFrom acc (l++ [b])=(Lib.decFrom acc l).bind fun n=>(Lib.digitVal b).map fun d=>n * 10+d
  | [],acc=>by
    simp only [dY,Lib.decFrom]
    cases Lib.digitVal b <;> rfl
  | x :: l,acc=>by
    simp only [cg,Lib.decFrom]
    cases Lib.digitVal x with
    | none=>rfl
    | some d=>exact fO b l _
theorem nK (u:Nat):Lib.decDigits u≠ []:=by
  unfold Lib.decDigits;split <;> simp
theorem da {u:Nat} (h:u < 10):Lib.decDigits u= [UInt8.ofNat (48+u)]:=Lib.decDigits_one h
theorem iF {u:Nat} (h:¬u < 10):Lib.decDigits u=Lib.decDigits (u / 10)++ [UInt8.ofNat (48+u % 10)]:=by
  conv=>lhs; unfold Lib.decDigits
  rw [ph h]
theorem nI:∀u:Nat,Lib.decFrom 0 (Lib.decDigits u)=some u:=by
  intro u
  induction u using Nat.strongRecOn with
  | ind u ih=>
    by_cases h:u < 10
    · rw [da h]
      simp only [Lib.decFrom,jD h];simp
    · rw [iF h,fO,ih (u / 10) (by omega)]
      rw [ig,jD (by omega)];simp only [qF,az];omega
theorem iE:∀u:Nat,∀b∈Lib.decDigits u,dig b=true:=by
  intro u
  induction u using Nat.strongRecOn with
  | ind u ih=>
    intro b hb;by_cases h:u < 10
    · rw [da h] at hb
      simp only [gl] at hb;subst hb;exact kr (jD h)
    · rw [iF h] at hb
      rcases List.mem_append.1 hb with hb | hb
      · exact ih (u / 10) (by omega) b hb
      · simp only [gl] at hb
        subst hb;exact kr (jD (by omega))
theorem iD:∀(k u:Nat),u < 10 ^ (k+1)→(Lib.decDigits u).length≤k+1:=by
  intro k
  induction k with
  | zero=>intro u h; rw [da (by simpa using h)]; simp
  | succ k ih=>
    intro u h;by_cases h10:u < 10
    · rw [da h10]; simp
    · rw [iF h10,aa,am]
      have:=ih (u / 10) (by rw [Nat.pow_succ] at h; omega);omega
theorem mn:∀u:Nat,(Lib.decDigits u).head? = some 48→u=0:=by
  intro u
  induction u using Nat.strongRecOn with
  | ind u ih=>
    intro hh;by_cases h:u < 10
    · rw [da h] at hh
      simp only [qH,az] at hh;have:=jD h;rw [hh] at this;have e:Lib.digitVal 48=some 0:=rfl;rw [e] at this;simpa using this.symm
    · rw [iF h] at hh
      rw [List.head?_append] at hh
      cases e:(Lib.decDigits (u / 10)).head? with
      | none=>
        have:=nK (u / 10)
        cases e2:Lib.decDigits (u / 10) with
        | nil=>exact absurd e2 this
        | cons a l=>rw [e2] at e; cases e
      | some a=>
        rw [e] at hh;have:=ih (u / 10) (by omega) (by rw [e]; simpa using hh);omega
theorem pR:∀(l:List UInt8) (m:Nat),l≠ []→Lib.decFrom 0 l=some m→(l.head? = some 48→l.length=1)→Lib.decDigits m=l:=by
  suffices ∀(n:Nat) (l:List UInt8) (m:Nat),l.length=n→l≠ []→Lib.decFrom 0 l=some m→(l.head? = some 48→l.length=1)→Lib.decDigits m=l∧(1 < l.length→0 < m) from fun l m h1 h2 h3=>(this _ l m rfl h1 h2 h3).1
  intro n
  induction n with
  | zero=>intro l m hn h1; exact absurd (cI hn) h1
  | succ n ih=>
    intro l m hn h1 h2 h3;obtain ⟨l0,b,rfl⟩:∃l0 b,l=l0++ [b]:=⟨l.dropLast,l.getLast h1,(List.dropLast_concat_getLast h1).symm⟩;rw [fO] at h2;obtain ⟨m0,e1,e2⟩:=Option.bind_eq_some_iff.1 h2;obtain ⟨d,e3,rfl⟩:=Option.map_eq_some_iff.1 e2;have hd:=mj (kr e3);have hdd:d=b.toNat - 48:=by rw [hd.1] at e3; exact (ao e3).symm
    have hd10:d < 10:=by omega
    have hb:UInt8.ofNat (48+d)=b:=by rw [hdd]; exact hd.2.2
    cases l0 with
    | nil=>
      simp only [Lib.decFrom,az] at e1;subst e1;refine ⟨?_,fun h=>by simp at h⟩;rw [da (by omega),show 48+(0 * 10+d)=48+d by omega,hb];rfl
    | cons x t=>
      have hx:x≠48:=fun e=>by
        subst e;have:=h3 rfl;simp at this
      have hlen:(x :: t).length=n:=by rw [aa] at hn; simpa using hn
      obtain ⟨i1,i2⟩:=ih (x :: t) m0 hlen (by simp) e1 (fun e=>by simp at e; exact absurd e hx);have hm0:0 < m0:=by
        by_cases ht:1 < (x :: t).length
        · exact i2 ht
        · have:t= []:=by
            cases t with
            | nil=>rfl
            | cons y s=>simp at ht
          subst this;rcases eM m0 with q | q
          · subst q
            rw [da (by omega)] at i1;simp at i1;exact absurd i1.symm hx
          · exact q
      refine ⟨?_,fun _=>by omega⟩;rw [iF (by omega),show (m0 * 10+d) / 10=m0 by omega,show (m0 * 10+d) % 10=d by omega,i1,hb]
theorem iN:∀(l:List UInt8) (acc:Nat),(∀b∈l,dig b=true)→∃m,Lib.decFrom acc l=some m∧m+1≤(acc+1) * 10 ^ l.length
  | [],acc,_=>⟨acc,rfl,by simp⟩
  | x :: l,acc,h=>by
    have hx:=mj (h x (by simp));obtain ⟨m,h1,h2⟩:=iN l (acc * 10+(x.toNat - 48)) (fun b hb=>h b (by simp [hb]));refine ⟨m,by simp only [Lib.decFrom,hx.1]; exact h1,cD h2 ?_⟩;rw [ab,Nat.pow_succ,Nat.mul_comm (10 ^ l.length) 10,←Nat.mul_assoc];exact fH _ (by omega)
def bw (n:Int):Prop:= -999999999≤n∧n≤999999999
theorem ej (n:Int):Lib.itoa n=if n < 0 then 45 :: Lib.decDigits n.natAbs else Lib.decDigits n.toNat:=rfl
theorem cY {n:Int} (h:bw n):(Lib.itoa n).length≤10:=by
  unfold bw at h;rw [ej];split
  · have:=iD 8 n.natAbs (by omega)
    simp only [ab]; omega
  · have:=iD 8 n.toNat (by omega)
    omega
theorem nu (n:Int):∀b∈Lib.itoa n,dig b=true∨b=45:=by
  intro b hb;rw [ej] at hb;split at hb
  · rcases List.mem_cons.1 hb with rfl | hb
    · exact .inr rfl
    · exact .inl (iE _ b hb)
  · exact .inl (iE _ b hb)
theorem fM (n:Int) (c:UInt8) (h1:c≠45) (h2:dig c=false):c∉Lib.itoa n:=fun hb=>by
  rcases nu n c hb with h | h
  · rw [h2] at h; cases h
  · exact h1 h
def hC:List UInt8:=[48,49,50,51,52,53,54,55,56,57]
theorem lh (b:UInt8):hC.contains b=dig b:=by
  have h:∀n:Fin 256,hC.contains (UInt8.ofNat n)=dig (UInt8.ofNat n):=by decide +kernel
  have:=h ⟨b.toNat,b.toNat_lt⟩;simpa using this
theorem gz {p:UInt8→Bool}:∀{l:List UInt8},l.dropWhile p= []↔∀b∈l,p b=true
  | []=>by simp
  | x :: l=>by
    by_cases h:p x=true
    · rw [oa h,gz]
      simp [h]
    · rw [oc h]
      simp [h]
theorem kS (d:List UInt8):Lib.trimS d hC= []↔∀b∈d,dig b=true:=by
  have e:∀l:List UInt8,l.dropWhile (hC.contains ·)= []↔∀b∈l,dig b=true:=fun l=>by
    rw [gz];simp only [lh]
  constructor
  · intro h b hb
    unfold Lib.trimS Lib.trimLeftS at h;rw [e] at h;have h2:∀x∈Lib.trimRightS d hC,dig x=true:=h;unfold Lib.trimRightS at h2;have key:∀l:List UInt8,(∀x∈l.dropWhile (hC.contains ·),dig x=true)→∀x∈l,dig x=true:=by
      intro l
      induction l with
      | nil=>intro _ x hx; cases hx
      | cons y l ih=>
        intro hh x hx;by_cases hy:hC.contains y=true
        · rw [oa hy] at hh
          rcases List.mem_cons.1 hx with rfl | hx
          · rw [←lh]; exact hy
          · exact ih hh x hx
        · rw [oc hy] at hh
          exact hh x hx
    exact key d.reverse (fun x hx=>h2 x (List.mem_reverse.2 hx)) b (List.mem_reverse.2 hb)
  · intro h
    have hr:Lib.trimRightS d hC= []:=by
      unfold Lib.trimRightS;rw [(e d.reverse).2 (fun b hb=>h b (List.mem_reverse.1 hb))];rfl
    unfold Lib.trimS;rw [hr];rfl
theorem ol {d:List UInt8} (h:d.length≤9223372036854775807):cZ (mkS d) ⟨#[48,49,50,51,52,53,54,55,56,57]⟩=some (mkS (Lib.trimS d hC)):=by
  unfold cZ;rw [aU,aE,ac ⟨h,by decide,by decide⟩];rfl
theorem qm (s:List UInt8):cw (mkS s) ⟨#[45]⟩=some (match s with | []=>(mkS [],false) | x :: t=>if x=45 then (mkS t,true) else (mkS (x :: t),false)):=by
  unfold cw Lib.trimPrefix Lib.hasPrefix;rw [aE];show some _=some _
  congr 1
  cases s with
  | nil=>rfl
  | cons x t=>
    by_cases h:x=45
    · subst h
      rfl
    · have:((45:UInt8)==x)=false:=by simpa using fun e:(45:UInt8)=x=>h e.symm
      show (mkS (if ([45]:List UInt8).isPrefixOf (x :: t)=true then _ else _),([45]:List UInt8).isPrefixOf (x :: t))=_;have e:([45]:List UInt8).isPrefixOf (x :: t)=false:=by simp [List.isPrefixOf,this]
      rw [e];show _=(if x=45 then (mkS t,true) else (mkS (x :: t),false));rw [ae h];rfl
theorem jl (s d:List UInt8) (minus:Bool) (hs:s.length≤9223372036854775807) (hd:d.length≤s.length) {k:Bool→Option (Int×Bool)} {r:Option (Int×Bool)}
    (hbad:¬(d≠ []∧d.length≤9∧(d.head? = some 48→s.length≤1)∧∀b∈d,dig b=true)→k true=r) (hgood:d≠ []→d.length≤9→(d.head? = some 48→s.length≤1)→(∀b∈d,dig b=true)→k false=r):
    ((orE ((aR (mkS d))==0) (some (decide ((aR (mkS d)) > 9)))).bind fun c=>(orE c ((eU (mkS d) 0).bind fun g=>(bW (g==48) (some (decide ((aR (mkS s)) > 1)))).bind fun e=>some e)).bind fun dd=>
      (orE dd ((cZ (mkS d) ⟨#[48,49,50,51,52,53,54,55,56,57]⟩).bind fun h=>some (!(eqS h (⟨#[]⟩:ByteArray))))).bind k)=r:=by
  rw [gO,gO,cF,bsm]
  cases d with
  | nil=>exact hbad (fun h=>h.1 rfl)
  | cons x t=>
    have e0:(((x :: t).length:Int)==0)=false:=by rw [cq]; simp only [ab]; omega
    rw [e0,Bool.false_or];by_cases h9:(x :: t).length≤9
    · rw [show decide (((x :: t).length:Int) > 9)=false by simp; simp at h9; omega,cX]
      have hi:eU (mkS (x :: t)) 0=some ((x.toNat:Nat):Int):=jb (a:=x :: t) (i:=0) (by simp);rw [hi,bsm,bA,bsm,bsm];by_cases hz:(((x.toNat:Nat):Int)==48 && decide ((s.length:Int) > 1))=true
      · rw [hz,fk,bsm]
        simp only [ai,ah,ag] at hz;refine hbad (fun h=>?_);have hx:x=48:=UInt8.toNat_inj.1 (by have:=hz.1; show x.toNat=48; omega);have:=h.2.2.1 (by rw [hx]; rfl);omega
      · rw [Bool.eq_false_iff.2 hz,cX,ol (by omega),bsm,bsm]
        have hz2:(x :: t).head? = some 48→s.length≤1:=fun e=>by
          simp only [qH,az] at e;subst e;simp only [ai,ah,ag,not_and] at hz;have:=hz rfl;omega
        by_cases ha:∀b∈x :: t,dig b=true
        · rw [(kS _).2 ha]
          exact hgood (by simp) h9 hz2 ha
        · have:eqS (mkS (Lib.trimS (x :: t) hC)) ⟨#[]⟩=false:=jC fun e=>ha ((kS _).1 (by
            have:=cf blS e;rw [aE] at this;exact this))
          rw [this];exact hbad (fun h=>ha h.2.2.2)
    · rw [show decide (((x :: t).length:Int) > 9)=true by simp; simp at h9; omega,fk,bsm,fk,bsm]
      exact hbad (fun h=>h9 h.2.1)
theorem nQ {d:List UInt8} {m:Nat} (h0:d≠ []) (h9:d.length≤9) (ha:∀b∈d,dig b=true) (hm:Lib.decFrom 0 d=some m):dO (mkS d)=some ((m:Int),Er.nil):=by
  unfold dO;rw [aU,ac (by omega),aE]
  cases d with
  | nil=>exact absurd rfl h0
  | cons x t=>
    have hx:=ha x (by simp);unfold Lib.atoi;have h1:(x==45)=false:=by
      rw [cq];intro e;subst e;exact absurd hx (by decide)
    have h2:(x==43)=false:=by
      rw [cq];intro e;subst e;exact absurd hx (by decide)
    show Option.map _ (if (x==45)=true then _ else if (x==43)=true then _ else _)=_;rw [h1,h2];simp only [dW,nB,Lib.decNat,List.isEmpty_cons,hm];rfl
theorem iL (p0:ByteArray) (hs:p0.size≤9223372036854775807):(∃n,bw n∧blS p0=Lib.itoa n∧bu p0=some (n,true))∨((∀n,bw n→blS p0≠Lib.itoa n)∧bu p0=some (0,false)):=by
  obtain ⟨s,rfl⟩:∃s,p0=mkS s:=⟨blS p0,(cV p0).symm⟩;rw [aU] at hs;rw [aE];obtain ⟨d,minus,hc,hsd⟩:∃d minus,cw (mkS s) ⟨#[45]⟩=some (mkS d,minus)∧((minus=true∧s=45 :: d)∨(minus=false∧s=d∧s.head?≠some 45)):=by
    rw [qm]
    cases s with
    | nil=>exact ⟨[],false,rfl,.inr ⟨rfl,rfl,by simp⟩⟩
    | cons x t=>
      by_cases h:x=45
      · exact ⟨t,true,by simp [h],.inl ⟨rfl,by rw [h]⟩⟩
      · exact ⟨x :: t,false,by simp [h],.inr ⟨rfl,rfl,by simpa using h⟩⟩
  have hd:d.length≤s.length:=by rcases hsd with ⟨_,rfl⟩ | ⟨_,rfl,_⟩ <;> simp
  by_cases hg:d≠ []∧d.length≤9∧(d.head? = some 48→s.length≤1)∧∀b∈d,dig b=true
  · left
    obtain ⟨m,hm,hm2⟩:=iN d 0 hg.2.2.2;have hpow:(10:Nat) ^ d.length≤10 ^ 9:=Nat.pow_le_pow_right (by omega) hg.2.1;have hdm:Lib.decDigits m=d:=pR d m hg.1 hm (fun e=>by
      have h1:=hg.2.2.1 e;have h2:d.length≠0:=fun e2=>hg.1 (cI e2);omega)
    have hat:=nQ hg.1 hg.2.1 hg.2.2.2 hm;rcases hsd with ⟨rfl,rfl⟩ | ⟨rfl,rfl,h45⟩
    · have hm0:0 < m:=by
        rcases eM m with q | q
        · subst q
          rw [da (by omega)] at hdm;have:=hg.2.2.1 (by rw [←hdm]; rfl);rw [←hdm] at this;simp at this
        · exact q
      refine ⟨-(m:Int),by unfold bw; omega,?_,?_⟩
      · rw [ej,ac (by omega),show (-(m:Int)).natAbs=m by omega,hdm]
      · unfold bu
        rw [hc,bsm];refine jl (45 :: d) d true hs hd (fun h=>absurd hg h) fun _ _ _ _=>?_;rw [ae (by simp),hat,bsm,ac rfl,bsm,dJ (by omega)];show some ((0 - (m:Int)),true)=_
        congr 2
        omega
    · refine ⟨(m:Int),by unfold bw; omega,?_,?_⟩
      · rw [ej,ae (by omega),show ((m:Int)).toNat=m by omega,hdm]
      · unfold bu
        rw [hc,bsm];refine jl s s false hs hd (fun h=>absurd hg h) fun _ _ _ _=>?_;rw [ae (by simp),hat,bsm,ae (by simp),bsm];rfl
  · right
    constructor
    · intro n hn e
      apply hg;rw [ej] at e;unfold bw at hn;split at e
      · rename_i hneg
        rcases hsd with ⟨_,e2⟩ | ⟨_,e2,h45⟩
        · rw [e] at e2
          have e3:Lib.decDigits n.natAbs=d:=by simpa using e2
          refine ⟨by rw [←e3]; exact nK _,by rw [←e3]; exact iD 8 _ (by omega),fun h48=>?_,by rw [←e3]; exact iE _⟩;rw [←e3] at h48;have:=mn _ h48;omega
        · rw [e] at h45
          exact absurd rfl h45
      · rcases hsd with ⟨_,e2⟩ | ⟨_,e2,h45⟩
        · rw [e2] at e
          have:=iE n.toNat 45 (by rw [←e]; simp);exact absurd this (by decide)
        · subst e2
          refine ⟨by rw [e]; exact nK _,by rw [e]; exact iD 8 _ (by omega),fun h48=>?_,by rw [e]; exact iE _⟩;rw [e] at h48;have:=mn _ h48;rw [e,this,da (by omega)];simp
    · unfold bu
      rw [hc,bsm];exact jl s d minus hs hd (fun _=>by rw [ac rfl]) fun h1 h2 h3 h4=>absurd ⟨h1,h2,h3,h4⟩ hg
theorem iM {n:Int} (h:bw n):bu (mkS (Lib.itoa n))=some (n,true):=by
  rcases iL (mkS (Lib.itoa n)) (by rw [aU]; have:=cY h; omega) with ⟨m,hm,e,h2⟩ | ⟨h1,_⟩
  · rw [aE] at e
    rw [h2];have:m=n:=by
      have hinj:∀a b:Nat,Lib.decDigits a=Lib.decDigits b→a=b:=fun a b q=>by
        have h1:=nI a;rw [q,nI b] at h1;simpa using h1.symm
      have hno:∀a b:Nat,45 :: Lib.decDigits a≠Lib.decDigits b:=fun a b q=>by
        have:=iE b 45 (by rw [←q]; simp);exact absurd this (by decide)
      rw [ej,ej] at e;by_cases h3:n < 0
      · rw [ac h3] at e
        by_cases h4:m < 0
        · rw [ac h4] at e
          have:=hinj _ _ (bV e).2;omega
        · rw [ae h4] at e
          exact absurd e (hno _ _)
      · rw [ae h3] at e
        by_cases h4:m < 0
        · rw [ac h4] at e
          exact absurd e.symm (hno _ _)
        · rw [ae h4] at e
          have:=hinj _ _ e;omega
    rw [this]
  · exact absurd (aE _) (h1 n h)
theorem kH {n:Int} (h:bw n):bT n=some (mkS (Lib.itoa n)):=by
  unfold bT;unfold bw at h;rw [ac (by omega)]
theorem dQ (g:Int→Option ByteArray) {K:Nat} (hK:10≤K) (hK2:K≤10000000000) (hg:∀n:Nat,n < K→g n=some (mkS (Lib.decDigits n))) (n:Nat) (hn:n < 10 * K):
    (if (decide ((n:Int) < 0))=true then (g (w64 (0 - (n:Int)))).bind fun e=>(cx (⟨#[45]⟩:ByteArray) e).bind fun f=>some f
     else if (decide ((n:Int) < 10))=true then (eE (⟨#[48,49,50,51,52,53,54,55,56,57]⟩:ByteArray) (n:Int) (w64 ((n:Int)+1))).bind fun a=>some a
     else (g (w64 ((n:Int).tdiv 10))).bind fun b=>(g ((n:Int).tmod 10)).bind fun c=>(cx b c).bind fun d=>some d)=some (mkS (Lib.decDigits n)):=by
  rw [ae (by simp)];by_cases h:n < 10
  · rw [ac (av (by omega)),dJ (by omega)]
    have:=lX (a:=hC) (i:=n) (j:=n+1) (by omega) (by show n+1≤10; omega);have e:((n+1:Nat):Int)=(n:Int)+1:=by omega
    rw [e] at this;rw [show (⟨#[48,49,50,51,52,53,54,55,56,57]⟩:ByteArray)=mkS hC from rfl,this,bsm,da h];have hn:n=0∨n=1∨n=2∨n=3∨n=4∨n=5∨n=6∨n=7∨n=8∨n=9:=by omega
    rcases hn with rfl | rfl | rfl | rfl | rfl | rfl | rfl | rfl | rfl | rfl <;> rfl
  · rw [ae (by rw [ag]; omega)]
    have e1:(n:Int).tdiv 10=((n / 10:Nat):Int):=rfl;have e2:(n:Int).tmod 10=((n % 10:Nat):Int):=rfl;rw [e1,e2,dJ (by omega),hg _ (by omega),bsm,hg _ (by omega),bsm];have l1:=iD 10 (n / 10) (by omega);rw [bX (by rw [da (u:=n % 10) (by omega)]; simp only [am]; omega),bsm,iF h,da (u:=n % 10) (by omega)]
theorem pQ (n:Nat) (hn:n < 10):aJ n=some (mkS (Lib.decDigits n)):=by
  unfold aJ;rw [ae (by simp),ac (av (by omega)),dJ (by omega)];have:=lX (a:=hC) (i:=n) (j:=n+1) (by omega) (by show n+1≤10; omega);have e:((n+1:Nat):Int)=(n:Int)+1:=by omega
  rw [e] at this;rw [show (⟨#[48,49,50,51,52,53,54,55,56,57]⟩:ByteArray)=mkS hC from rfl,this,bsm,da hn];have hn:n=0∨n=1∨n=2∨n=3∨n=4∨n=5∨n=6∨n=7∨n=8∨n=9:=by omega
  rcases hn with rfl | rfl | rfl | rfl | rfl | rfl | rfl | rfl | rfl | rfl <;> rfl
theorem pP (n:Nat) (hn:n < 100):bd n=some (mkS (Lib.decDigits n)):=dQ aJ (K:=10) (by decide) (by decide) pQ n (by omega)
theorem pO (n:Nat) (hn:n < 1000):bc n=some (mkS (Lib.decDigits n)):=dQ bd (K:=100) (by decide) (by decide) pP n (by omega)
theorem pN (n:Nat) (hn:n < 10000):bb n=some (mkS (Lib.decDigits n)):=dQ bc (K:=1000) (by decide) (by decide) pO n (by omega)
theorem pM (n:Nat) (hn:n < 100000):ba n=some (mkS (Lib.decDigits n)):=dQ bb (K:=10000) (by decide) (by decide) pN n (by omega)
theorem pL (n:Nat) (hn:n < 1000000):aZ n=some (mkS (Lib.decDigits n)):=dQ ba (K:=100000) (by decide) (by decide) pM n (by omega)
theorem pK (n:Nat) (hn:n < 10000000):aY n=some (mkS (Lib.decDigits n)):=dQ aZ (K:=1000000) (by decide) (by decide) pL n (by omega)
theorem pJ (n:Nat) (hn:n < 100000000):aX n=some (mkS (Lib.decDigits n)):=dQ aY (K:=10000000) (by decide) (by decide) pK n (by omega)
theorem pI (n:Nat) (hn:n < 1000000000):aW n=some (mkS (Lib.decDigits n)):=dQ aX (K:=100000000) (by decide) (by decide) pJ n (by omega)
theorem pi (n:Nat) (hn:n < 10000000000):aO n=some (mkS (Lib.decDigits n)):=dQ aW (K:=1000000000) (by decide) (by decide) pI n (by omega)
theorem nJ (n:Nat) (hn:n < 10000000000):aN n=some (mkS (Lib.decDigits n)):=dQ aO (K:=10000000000) (by decide) (by decide) pi n (by omega)
theorem kK {n:Int} (h:bw n):bk n=some (mkS (Lib.itoa n)):=by
  unfold bw at h;rw [ej];by_cases h0:n < 0
  · unfold bk
    rw [ac (by simpa using h0),ac h0,dJ (by omega),show (0 - n)=((n.natAbs:Nat):Int) by omega,nJ _ (by omega),bsm];have l1:=iD 8 n.natAbs (by omega);rw [show (⟨#[45]⟩:ByteArray)=mkS [45] from rfl,bX (by simp only [am]; omega),bsm];rfl
  · rw [ae h0]
    have:=dQ aN (K:=10000000000) (by decide) (by decide) nJ n.toNat (by omega);rw [show ((n.toNat:Nat):Int)=n by omega] at this;exact this
def pf:List UInt8:=[48,49,50,51,52,53,54,55,56,57,97,98,99,100,101,102]
abbrev FIG:ByteArray:=⟨#[48,49,50,51,52,53,54,55,56,57,97,98,99,100,101,102]⟩
def hd (n:Nat):UInt8:=pf.getD n 0
def uh (b:UInt8):Option Nat:=if pf.contains b then some (pf.idxOf b) else none
def bytes (l:List Int):Prop:=∀b∈l,0≤b∧b≤255
def eJ:List Int→List UInt8
 | []=>[]
 | b :: l=>hd (b.toNat / 16) :: hd (b.toNat % 16) :: eJ l
def hx (l:List Int):List UInt8:=if l= [] then [45] else eJ l
theorem dX:∀l,(eJ l).length=2 * l.length
 | []=>rfl
 | b :: l=>by simp only [eJ,ab,dX l]; omega
theorem gY:∀l m,eJ (l++m)=eJ l++eJ m
 | [],_=>rfl
 | b :: l,m=>by simp only [cg,eJ,gY l m]
theorem kj:∀n:Fin 16,uh (hd n)=some n.val:=by decide +kernel
theorem oP:∀b:Fin 256,∀n,uh (UInt8.ofNat b)=some n→n < 16∧hd n=UInt8.ofNat b:=by
 have h:∀b:Fin 256,(match uh (UInt8.ofNat b) with | some n=>decide (n < 16) && decide (hd n=UInt8.ofNat b) | none=>true)=true:=by decide +kernel
 intro b n hn;have:=h b;rw [hn] at this;simpa using this
theorem oR:∀b:Fin 256,bE FIG (b.val:Int)=some (match uh (UInt8.ofNat b) with | some n=>(n:Int) | none=> -1):=by
 have h:∀b:Fin 256,(match bE FIG (b.val:Int) with | some x=>x==(match uh (UInt8.ofNat b) with | some n=>(n:Int) | none=> -1) | none=>false)=true:=by decide +kernel
 intro b;have:=h b;split at this
 ·rename_i x e
  rw [e];simpa using this
 ·cases this
theorem oZ:∀c d:Fin 16,IntKind.u8.wrap (lG .i64 (w64 ((c.val:Int) * 2 ^ 4)) (d.val:Int))=16 * (c.val:Int)+(d.val:Int):=by decide +kernel
theorem oB:∀b:Fin 256,eU FIG ((b.val:Int).fdiv (2 ^ 4))=some ((hd (b.val / 16)).toNat:Int)∧eU FIG (nC .u8 (b.val:Int) 15)=some ((hd (b.val % 16)).toNat:Int):=by decide +kernel
theorem oC:∀b:Fin 256,(match eE FIG (IntKind.u8.wrap ((b.val:Int).tdiv 16)) (IntKind.u8.wrap ((IntKind.u8.wrap ((b.val:Int).tdiv 16))+1)) with | some x=>x.data.toList== [hd (b.val / 16)] | none=>false)=true∧
  (match eE FIG ((b.val:Int).tmod 16) (IntKind.u8.wrap (((b.val:Int).tmod 16)+1)) with | some x=>x.data.toList== [hd (b.val % 16)] | none=>false)=true:=by decide +kernel
theorem nF (b:Int) (h:0≤b∧b≤255):eE FIG (IntKind.u8.wrap (b.tdiv 16)) (IntKind.u8.wrap ((IntKind.u8.wrap (b.tdiv 16))+1))=some (mkS [hd (b.toNat / 16)])∧eE FIG (b.tmod 16) (IntKind.u8.wrap ((b.tmod 16)+1))=some (mkS [hd (b.toNat % 16)]):=by
 have hb:b=((⟨b.toNat,by omega⟩:Fin 256).val:Int):=by simp; omega
 have hh:=oC ⟨b.toNat,by omega⟩;rw [←hb] at hh;obtain ⟨h1,h2⟩:=hh;constructor
 ·split at h1
  ·rename_i x e
   rw [e]
   congr 1
   apply gt;rw [aE];have q:x.data.toList= [hd (b.toNat / 16)]:=by simpa using h1
   exact q
  ·cases h1
 ·split at h2
  ·rename_i x e
   rw [e]
   congr 1
   apply gt;rw [aE];have q:x.data.toList= [hd (b.toNat % 16)]:=by simpa using h2
   exact q
  ·cases h2
theorem lL (l:List UInt8):fc (l.map fun b=>(b.toNat:Int))=mkS l:=by
 apply gt;rw [aE];show ((l.map fun b=>(b.toNat:Int)).map fun x=>UInt8.ofNat x.toNat)=l;rw [fu]
 conv=>rhs; rw [←jQ l]
 exact dI fun b _=>by simp
theorem ll (l:List Int):blS (fc l)=l.map fun x=>UInt8.ofNat x.toNat:=rfl
theorem nO {a b:List Int} (ha:bytes a) (hb:bytes b) (h:fc a=fc b):a=b:=by
 have e:=cf blS h;rw [ll,ll] at e
 clear h
 induction a generalizing b with
 | nil=>
  cases b with
  | nil=>rfl
  | cons y m=>simp at e
 | cons x l ih=>
  cases b with
  | nil=>simp at e
  | cons y m=>
   rw [fE,fE] at e;obtain ⟨e1,e2⟩:=bV e;have h1:=ha x (by simp);have h2:=hb y (by simp);have:x=y:=by
    have q:=cf UInt8.toNat e1;rw [qr,qr] at q;omega
   rw [this,ih (fun z hz=>ha z (by simp [hz])) (fun z hz=>hb z (by simp [hz])) e2]
theorem pe {l:List Int} (h:bytes l) (hl:l.length≤1000000):ey l=some (mkS (hx l)):=by
 unfold ey hx;by_cases h0:l= []
 ·subst h0;rfl
 ·have hp:0 < l.length:=List.length_pos_iff.2 h0;rw [ae (by rw [ah]; omega),ae h0];refine ek (n:=l.length) (fun i (a:List Int×Int)=>a=((eJ (l.take i)).map (fun b=>(b.toNat:Int)),(i:Int))) (fun t=>t=(eJ l).map (fun b=>(b.toNat:Int))) (fun i a hi hI=>?_) (fun a hI=>?_) rfl (by omega) (fun t ht=>by rw [ht,lL])
  ·subst hI;simp only;rw [ac (dlt hi),dy hi (by omega)];simp only [dM hi,bsm];have hb:=h l[i] (aF hi);have hd':=oB ⟨l[i].toNat,by omega⟩;rw [show (((⟨l[i].toNat,by omega⟩:Fin 256).val:Nat):Int)=l[i] by simp; omega] at hd';rw [hd'.1,bsm,hd'.2,bsm,jM (by rw [aG,dX,aI]; simp only [ab,au]; omega),bsm];refine .inl ⟨_,rfl,?_⟩;rw [an hi,gY,dZ];rfl
  ·subst hI;refine ⟨_,by simp only; rw [ae (by simp)],?_⟩;rw [bz]
theorem kJ:∀l:List Int,bytes l→∀b∈eJ l,uh b≠none
 | [],_,b,hb=>by cases hb
 | x :: l,h,b,hb=>by
  have hx:=h x (by simp);simp only [eJ,aT] at hb;rcases hb with rfl | rfl | hb
  ·rw [kj ⟨x.toNat / 16,by omega⟩]; simp
  ·rw [kj ⟨x.toNat % 16,by omega⟩]; simp
  ·exact kJ l (fun y hy=>h y (by simp [hy])) b hb
theorem kV (p0:ByteArray) (hs:p0.size≤1000000):(∃l,bytes l∧blS p0=hx l∧l.length≤p0.size∧dj p0=some (l,true))∨((∀l,bytes l→blS p0≠hx l)∧dj p0=some ([],false)):=by
 obtain ⟨s,rfl⟩:∃s,p0=mkS s:=⟨blS p0,(cV p0).symm⟩;rw [aU] at hs⊢;rw [aE];unfold dj;by_cases h45:s= [45]
 ·subst h45
  left
  exact ⟨[],(by intro b hb; cases hb),rfl,by simp,by rw [ac (show eqS (mkS [45]) ⟨#[45]⟩=true from (ez _ _).2 rfl)]⟩
 ·rw [ae (by rw [ez]; intro e; exact h45 (by have:=cf blS e; rwa [aE] at this))];rw [gO];simp only [cF,bsm];by_cases hbad:s.length=0∨s.length % 2≠0
  ·right
   refine ⟨fun l hl e=>?_,?_⟩
   ·unfold hx at e;split at e
    ·exact h45 e
    ·rename_i hne
     have:=cf List.length e;rw [dX] at this;have:0 < l.length:=List.length_pos_iff.2 hne;omega
   ·rw [ac];rw [aw,ah,kN];rcases hbad with h | h
    ·left; omega
    ·right
     have e:((s.length:Nat):Int).tmod 2=((s.length % 2:Nat):Int):=rfl;rw [e];omega
  ·have hpos:0 < s.length:=by omega
   have hev:s.length % 2=0:=by omega
   rw [ae (by
    rw [aw,ah,kN];have e:((s.length:Nat):Int).tmod 2=((s.length % 2:Nat):Int):=rfl;rw [e];omega)]
   obtain ⟨m,hm⟩:∃m,s.length=2 * m:=⟨s.length / 2,by omega⟩;have key:∃t,cT (((s.length:Int) - 0).toNat+1) (fun (a:List Int×Int)=>
     if (decide (a.2 < (s.length:Int)))=true then
     (eU (mkS s) a.2).bind fun g=>
     (eU (mkS s) (w64 (a.2+1))).bind fun h=>
     (bE FIG g).bind fun c=>
     (bE FIG h).bind fun d=>
     (some (decide (c < 0) || decide (d < 0))).bind fun f=>
     if f=true then
     some (.inr (.inl (([]:List Int),false)))
     else
     (app a.1 ([(IntKind.u8.wrap (lG .i64 (w64 (c * 2 ^ 4)) d))]:List Int)).bind fun i=>
     some (.inl (i,(w64 (a.2+2))))
     else
     some (.inr (.inr (a.1)))) (([]:List Int),0)=some t∧((t=(Sum.inl (([]:List Int),false):((List Int)×Bool) ⊕ (List Int))∧∃b∈s,uh b=none)∨∃l,t= .inr l∧bytes l∧eJ l=s):=by
    refine fo (n:=m) (fun i (a:List Int×Int)=>a.2=((2 * i:Nat):Int)∧bytes a.1∧a.1.length=i∧eJ a.1=s.take (2 * i)) _ (fun i a hi hI=>?_) (fun a hI=>?_) ⟨rfl,(by intro b hb; cases hb),rfl,by simp [eJ]⟩ (by omega)
    ·obtain ⟨l,j⟩:=a;obtain ⟨rfl,hb,hlen,hx⟩:=hI;simp only at hb hlen hx;have h1:2 * i < s.length:=by omega
     have h2:2 * i+1 < s.length:=by omega
     rw [ac (by rw [ag]; simp only; omega)];simp only;have ew:w64 (((2 * i:Nat):Int)+1)=((2 * i+1:Nat):Int):=by rw [dJ (by omega)]; omega
     have ew2:w64 (((2 * i:Nat):Int)+2)=((2 * (i+1):Nat):Int):=by rw [dJ (by omega)]; omega
     rw [ew,ew2,jb h1,bsm,jb h2,bsm];have g1:=oR ⟨s[2 * i].toNat,s[2 * i].toNat_lt⟩;have g2:=oR ⟨s[2 * i+1].toNat,s[2 * i+1].toNat_lt⟩;have z1:=oP ⟨s[2 * i].toNat,s[2 * i].toNat_lt⟩;have z2:=oP ⟨s[2 * i+1].toNat,s[2 * i+1].toNat_lt⟩;simp only [UInt8.ofNat_toNat] at g1 g2 z1 z2;rw [g1,bsm,g2,bsm,bsm]
     cases e1:uh s[2 * i] with
     | none=>
      rw [ac (by simp)];exact .inr ⟨_,rfl,.inl ⟨rfl,_,aF h1,e1⟩⟩
     | some c=>
      cases e2:uh s[2 * i+1] with
      | none=>
       rw [ac (by simp)];exact .inr ⟨_,rfl,.inl ⟨rfl,_,aF h2,e2⟩⟩
      | some d=>
       obtain ⟨c16,hc⟩:=z1 c e1;obtain ⟨d16,hd'⟩:=z2 d e2;rw [ae (by simp only [aw,ag]; omega)];have ho:=oZ ⟨c,c16⟩ ⟨d,d16⟩;simp only at ho⊢;rw [ho,jM (by simp only [am]; omega),bsm];refine .inl ⟨_,rfl,rfl,?_,?_,?_⟩
       ·intro b hb';rcases List.mem_append.1 hb' with hb' | hb'
        ·exact hb b hb'
        ·simp only [gl] at hb';omega
       ·rw [aa,am,hlen]
       ·rw [gY,hx];have t1:(16 * (c:Int)+(d:Int)).toNat=16 * c+d:=by omega
        simp only [eJ,t1];rw [show (16 * c+d) / 16=c by omega,show (16 * c+d) % 16=d by omega,hc,hd',show 2 * (i+1)=2 * i+1+1 by omega,an h2,an h1,aP];rfl
    ·obtain ⟨l,j⟩:=a;obtain ⟨rfl,hb,hlen,hx⟩:=hI;refine ⟨_,by simp only; rw [ae (by rw [ag]; omega)],.inr ⟨l,rfl,hb,?_⟩⟩;simp only at hx;rw [hx,←hm,bz]
   obtain ⟨t,ht,hpost⟩:=key;rcases hpost with ⟨rfl,b,hb,hu⟩ | ⟨l,rfl,hb,hx'⟩
   ·right
    refine ⟨fun l hl e=>?_,cO ht rfl⟩;unfold hx at e;split at e
    ·exact h45 e
    ·exact kJ l hl b (e▸ hb) hu
   ·left
    refine ⟨l,hb,?_,?_,cO ht rfl⟩
    ·unfold hx;rw [ae (by intro e; subst e; simp [eJ] at hx'; subst hx'; simp at hpos)];exact hx'.symm
    ·have:=dX l;rw [hx'] at this;omega
theorem nD (l:List Int) (h:bytes l) (c:UInt8) (h1:c≠45) (h2:uh c=none):c∉hx l:=by
 intro hc;unfold hx at hc;split at hc
 ·simp only [gl] at hc;exact h1 hc
 ·exact kJ l h c hc h2
theorem lf:∀{a b:List Int},bytes a→bytes b→eJ a=eJ b→a=b
 | [],[],_,_,_=>rfl
 | [],_ :: _,_,_,h=>by simp [eJ] at h
 | _ :: _,[],_,_,h=>by simp [eJ] at h
 | x :: l,y :: m,ha,hb,h=>by
  have h1:=ha x (by simp);have h2:=hb y (by simp);simp only [eJ] at h;obtain ⟨e1,e2⟩:=bV h;obtain ⟨e2,e3⟩:=bV e2;have q1:=kj ⟨x.toNat / 16,by omega⟩;have q2:=kj ⟨y.toNat / 16,by omega⟩;have q3:=kj ⟨x.toNat % 16,by omega⟩;have q4:=kj ⟨y.toNat % 16,by omega⟩;simp only at q1 q2 q3 q4;rw [e1,q2] at q1;rw [e2,q4] at q3;simp only [az] at q1 q3;rw [lf (fun z hz=>ha z (by simp [hz])) (fun z hz=>hb z (by simp [hz])) e3]
  congr 1
  omega
theorem pc {a b:List Int} (ha:bytes a) (hb:bytes b) (h:hx a=hx b):a=b:=by
 unfold hx at h;by_cases h1:a= []
 ·by_cases h2:b= []
  ·rw [h1,h2]
  ·rw [ac h1,ae h2] at h;have:=cf List.length h;rw [dX] at this;simp at this;omega
 ·by_cases h2:b= []
  ·rw [ae h1,ac h2] at h;have:=cf List.length h;rw [dX] at this;simp at this;omega
  ·rw [ae h1,ae h2] at h;exact lf ha hb h
theorem oW {l:List Int} (h:bytes l) (hl:l.length≤400000):dj (mkS (hx l))=some (l,true):=by
 have hlen:(hx l).length≤1000000:=by
  unfold hx;split
  ·simp
  ·rw [dX]; omega
 rcases kV (mkS (hx l)) (by rw [aU]; exact hlen) with ⟨m,hm,e,_,h2⟩ | ⟨h1,_⟩
 ·rw [aE] at e;rw [h2,pc h hm e]
 ·exact absurd (aE _) (h1 l h)
def hw (k:Int):List ByteArray×Int:=match bh k with | some x=>x | none=>([],0)
theorem pF {α:Type} {P:α→Prop} {c:Prop} [Decidable c] {x y:α} (hx:P x) (hy:P y):P (if c then x else y):=by
  split <;> assumption
theorem jm (k:Int):∃z,bh k=some z∧z.1.length≤2:=by
  unfold bh
  repeat refine pF (P:=fun o=>∃z:List ByteArray×Int,o=some z∧z.1.length≤2) ⟨_,rfl,by simp⟩ ?_
  exact ⟨_,rfl,by simp⟩
theorem fm (k:Int):bh k=some (hw k):=by
  obtain ⟨x,hx,_⟩:=jm k;unfold hw;rw [hx]
theorem ec (n:Int):aM n=some (Er.fault n (Er.sent 5)):=rfl
def bg:List ByteArray→List ByteArray→Nat
  | x :: l,y :: m=>if x=y then bg l m+1 else 0
  | _,_=>0
theorem nP:∀l m,bg l m≤l.length∧bg l m≤m.length
  | [],m=>by simp [bg]
  | x :: l,[]=>by simp [bg]
  | x :: l,y :: m=>by
    have:=nP l m;unfold bg;split <;> simp only [ab] <;> omega
theorem kO:∀(l m:List ByteArray) (i:Nat),i < bg l m→l[i]? = m[i]?
  | [],m,i,h=>by simp [bg] at h
  | x :: l,[],i,h=>by simp [bg] at h
  | x :: l,y :: m,i,h=>by
    unfold bg at h;split at h
    · rename_i e
      subst e
      cases i with
      | zero=>rfl
      | succ i=>simpa using kO l m i (by omega)
    · omega
theorem mp:∀(l m:List ByteArray),bg l m < l.length→bg l m < m.length→l[bg l m]?≠m[bg l m]?
  | [],m,h,_=>by simp at h
  | x :: l,[],_,h=>by simp at h
  | x :: l,y :: m,h1,h2=>by
    by_cases e:x=y
    · have eb:bg (x :: l) (y :: m)=bg l m+1:=by rw [bg,ac e]
      rw [eb] at h1 h2⊢;simp only [ab] at h1 h2;simpa using mp l m (by omega) (by omega)
    · have eb:bg (x :: l) (y :: m)=0:=by rw [bg,ae e]
      rw [eb];simpa using e
theorem oG (l m:List ByteArray):bg (l++m) l=l.length:=by
  induction l with
  | nil=>cases m <;> rfl
  | cons x l ih=>rw [cg,bg,ac rfl,ih]; rfl
theorem pm {l m:List ByteArray} (h:bg l m=m.length):∃r,l=m++r:=by
  induction m generalizing l with
  | nil=>exact ⟨l,rfl⟩
  | cons y m ih=>
    cases l with
    | nil=>simp [bg] at h
    | cons x l=>
      unfold bg at h;split at h
      · rename_i e
        obtain ⟨r,rfl⟩:=ih (by simpa using h);exact ⟨r,by rw [e]; rfl⟩
      · simp at h
theorem mQ (l m:List ByteArray) (hl:l.length≤10000000) (hm:m.length≤10000000):cK l m=some ((bg l m:Nat):Int):=by
  unfold cK;have hb:=nP l m;have key:∃t,cT (((m.length:Int) - 0).toNat+1) (fun (a:Int)=>
      (bW (decide (a < (m.length:Int))) (some (decide (a < (l.length:Int))))).bind fun b=>
      (bW b ((idx l a).bind fun d=>
      (idx m a).bind fun e=>
      some (eqS d e))).bind fun c=>
      if c=true then
      some (.inl ((w64 (a+1))))
      else
      some (.inr (a))) 0=some t∧t=((bg l m:Nat):Int):=by
    refine js (fun s:Int=>∃i:Nat,s=(i:Int)∧i≤bg l m) (fun s:Int=>bg l m - s.toNat) _ (fun s ⟨i,hs,hi⟩=>?_) _ _ ⟨0,rfl,eC _⟩ (by simp; omega);subst hs;rw [bA,bsm];by_cases hlt:i < bg l m
    · left
      have e1:decide (((i:Nat):Int) < (m.length:Int))=true:=av (by omega);have e2:decide (((i:Nat):Int) < (l.length:Int))=true:=av (by omega);rw [e1,e2,Bool.and_self,dH,dM (show i < l.length by omega),bsm,dM (show i < m.length by omega),bsm,bsm];have hg:=kO l m i hlt;rw [ak (show i < l.length by omega),ak (show i < m.length by omega)] at hg;rw [ac (by rw [ao hg]; exact cH _),dy hlt (by omega)];exact ⟨_,rfl,⟨i+1,rfl,hlt⟩,by simp; omega⟩
    · right
      have hi':i=bg l m:=by omega
      by_cases hc:i < m.length∧i < l.length
      · have e1:decide (((i:Nat):Int) < (m.length:Int))=true:=av (by omega)
        have e2:decide (((i:Nat):Int) < (l.length:Int))=true:=av (by omega);rw [e1,e2,Bool.and_self,dH,dM hc.2,bsm,dM hc.1,bsm,bsm];have hg:=mp l m (by omega) (by omega);rw [←hi',ak hc.2,ak hc.1] at hg;rw [ae (by rw [ez]; exact fun e=>hg (by rw [e]))];exact ⟨_,rfl,by rw [hi']⟩
      · have:(decide (((i:Nat):Int) < (m.length:Int)) && decide (((i:Nat):Int) < (l.length:Int)))=false:=by
          rw [Bool.and_eq_false_iff,ce,ce];omega
        rw [this,lR,bsm,ae (by simp)];exact ⟨_,rfl,by rw [hi']⟩
  obtain ⟨t,ht,rfl⟩:=key;rw [ht,bsm]
def gX (words:List ByteArray) (k:Int):Prop:=(hw k).1≠ []∧bg words (hw k).1=(hw k).1.length
theorem jy (k:Int):(hw k).1.length≤2:=by
  obtain ⟨x,hx,h⟩:=jm k;rw [fm] at hx;rw [ao hx];exact h
theorem kh (words:List ByteArray) (hl:words.length≤10000000):(∃k:Int,1≤k∧k≤13∧gX words k∧dE words=some (k,((hw k).1.length:Int),true))∨
    ((∀k:Int,1≤k→k≤13→¬gX words k)∧∃b:Int,0≤b∧b≤words.length∧dE words=some (0,b,false)):=by
  unfold dE;have key:∃t,cT (((13:Int) - 1).toNat+2) (fun (a:Int×Int)=>
      if (decide (a.2≤13))=true then
      (bh a.2).bind fun c=>
      (cK words c.1).bind fun d=>
      (bW (decide ((c.1.length:Int) > 0)) (some (d==(c.1.length:Int)))).bind fun e=>
      if e=true then
      some (.inr (.inl (a.2,d,true)))
      else
      some (.inl ((ny a.1 d),(w64 (a.2+1))))
      else
      some (.inr (.inr (a.1)))) (0,1)=some t∧((∃k:Int,1≤k∧k≤13∧gX words k∧t=(Sum.inl (k,((hw k).1.length:Int),true):(Int×Int×Bool) ⊕ Int))∨((∀k:Int,1≤k→k≤13→¬gX words k)∧∃b:Int,0≤b∧b≤words.length∧t= .inr b)):=by
    refine fo (n:=13) (fun i (a:Int×Int)=>a.2=(i:Int)+1∧0≤a.1∧a.1≤words.length∧∀k:Int,1≤k→k≤i→¬gX words k) _ (fun i a hi hI=>?_) (fun a hI=>?_) ⟨rfl,by simp,by simp,fun k h1 h2=>by omega⟩ (by decide)
    · obtain ⟨b,k⟩:=a
      obtain ⟨rfl,h1,h2,h3⟩:=hI;simp only at h1 h2⊢;rw [ac (av (by omega)),fm,bsm,mQ _ _ hl (by have:=jy ((i:Int)+1); omega),bsm,bA,bsm];by_cases hp:gX words ((i:Int)+1)
      · right
        have hlen:0 < (hw ((i:Int)+1)).1.length:=List.length_pos_iff.2 hp.1;rw [ac (by rw [hp.2,ai,ag,ah]; exact ⟨by omega,rfl⟩)];exact ⟨_,rfl,.inl ⟨_,by omega,by omega,hp,by rw [hp.2]⟩⟩
      · left
        rw [ae (by
          rw [ai,ag,ah];intro q;exact hp ⟨List.length_pos_iff.1 (by omega),by omega⟩)]
        have hbl:=nP words (hw ((i:Int)+1)).1;refine ⟨_,rfl,?_,?_,?_,fun k q1 q2=>?_⟩
        · simp only; rw [dJ (by omega)]; omega
        · simp only; rw [mg]; omega
        · simp only; rw [mg]; omega
        · by_cases e:k=(i:Int)+1
          · rw [e]; exact hp
          · exact h3 k q1 (by omega)
    · obtain ⟨b,k⟩:=a
      obtain ⟨rfl,h1,h2,h3⟩:=hI;exact ⟨_,by simp only; rw [ae (by rw [ag]; omega)],.inr ⟨fun k q1 q2=>h3 k q1 (by omega),b,h1,h2,rfl⟩⟩
  obtain ⟨t,ht,hp⟩:=key;rcases hp with ⟨k,h1,h2,h3,rfl⟩ | ⟨h1,b,h2,h3,rfl⟩
  · exact .inl ⟨k,h1,h2,h3,cO ht rfl⟩
  · exact .inr ⟨h1,b,h2,h3,cO ht rfl⟩
def nN (j k:Nat):Bool:=j==k || (hw j).1.isEmpty || (hw k).1.isEmpty || (List.range 2).any (fun i=>match (hw j).1[i]?,(hw k).1[i]? with | some a,some b=> !(a.data.toList==b.data.toList) | _,_=>false)
theorem mO:((List.range 14).all fun j=>(List.range 14).all fun k=>nN j k)=true:=by kernel_rfl
theorem nf {words:List ByteArray} {j k:Int} (hj:1≤j∧j≤13) (hk:1≤k∧k≤13) (h1:gX words j) (h2:gX words k):j=k:=by
  have h:=List.all_eq_true.1 (List.all_eq_true.1 mO j.toNat (List.mem_range.2 (by omega))) k.toNat (List.mem_range.2 (by omega));unfold nN at h;rw [show ((j.toNat:Nat):Int)=j by omega,show ((k.toNat:Nat):Int)=k by omega] at h;simp only [aw,ah,List.isEmpty_iff,List.any_eq_true] at h;rcases h with ((h | h) | h) | ⟨i,hi,h⟩
  · omega
  · exact absurd h h1.1
  · exact absurd h h2.1
  · exfalso
    split at h
    · rename_i a b ea eb
      have ia:=(List.getElem?_eq_some_iff.1 ea).1;have ib:=(List.getElem?_eq_some_iff.1 eb).1;have ga:=kO words (hw j).1 i (by rw [h1.2]; exact ia);have gb:=kO words (hw k).1 i (by rw [h2.2]; exact ib);rw [ea] at ga;rw [eb] at gb;rw [ga] at gb;obtain rfl:=ao gb;simp at h
    · cases h
theorem gd {a b:Int} (h:Lib.itoa a=Lib.itoa b) (ha:bw a) (hb:bw b):a=b:=by
  have h1:=iM ha;rw [h,iM hb] at h1;simp only [az,kp,and_true] at h1;exact h1.symm
def nw (n:Int) (x y:Int):List ByteArray:=([mkS (Lib.itoa x),mkS (Lib.itoa y)]).take n.toNat
theorem lB {n:Int} (h:0≤n∧n≤2) (x y:Int):((nw n x y).length:Int)=n:=by
  unfold nw;rw [aI];simp only [ab,au];omega
theorem eW (words:List ByteArray) (m n:Nat) (hn:n≤2) (hm:m≤words.length) (hl:words.length≤10000000) (hw:∀w∈words,w.size≤9223372036854775807):
    (∃x y,bw x∧bw y∧(n < 1→x=0)∧(n < 2→y=0)∧words.drop m=nw n x y∧ci words m n=some ((x,y),Er.nil))∨
    ((∀x y,bw x→bw y→words.drop m≠nw n x y)∧∃a:Int,0≤a∧a≤words.length∧ci words m n=some ((0,0),Er.fault a (Er.sent 5))):=by
  unfold ci;have f0:bw 0:=by unfold bw; omega
  have key:∃t,cT (((n:Int) - 0).toNat+1) (fun (a:Int×Int×Int)=>
      if (decide (a.1 < (n:Int)))=true then
      if (decide ((w64 ((m:Int)+a.1))≥(words.length:Int)))=true then
      (aM (words.length:Int)).bind fun e=>
      some (.inr (.inl ((0,0),e)))
      else
      (idx words (w64 ((m:Int)+a.1))).bind fun f=>
      (bu f).bind fun c=>
      if (!c.2)=true then
      (aM (w64 ((m:Int)+a.1))).bind fun g=>
      some (.inr (.inl ((0,0),g)))
      else
      (idx (a2 a.2) a.1).bind fun i=>
      (some (mr a.2 a.1 c.1)).bind fun d=>
      some (.inl ((w64 (a.1+1)),d.1,d.2))
      else
      some (.inr (.inr (a.2.1,a.2.2)))) (0,0,0)=some t∧
      ((∃a:Int,0≤a∧a≤words.length∧t=(Sum.inl ((0,0),Er.fault a (Er.sent 5)):((Int×Int)×Er) ⊕ (Int×Int))∧∀x y,bw x→bw y→words.drop m≠nw n x y)∨
       ∃x y,t= .inr (x,y)∧bw x∧bw y∧(n < 1→x=0)∧(n < 2→y=0)∧m+n≤words.length∧(words.drop m).take n=nw n x y):=by
    refine fo (n:=n) (fun i (a:Int×Int×Int)=>a.1=(i:Int)∧bw a.2.1∧bw a.2.2∧(i < 1→a.2.1=0)∧(i < 2→a.2.2=0)∧m+i≤words.length∧(words.drop m).take i=nw i a.2.1 a.2.2) _ (fun i a hi hI=>?_) (fun a hI=>?_) ⟨rfl,f0,f0,fun _=>rfl,fun _=>rfl,by omega,by simp [nw]⟩ (by omega)
    · obtain ⟨i',x,y⟩:=a
      obtain ⟨rfl,hx,hy,hx0,hy0,hmi,hd⟩:=hI;simp only at hx hy hx0 hy0 hd⊢;have e1:w64 ((m:Int)+(i:Int))=((m+i:Nat):Int):=by rw [dJ (by omega)]; omega
      rw [ac (av (by omega)),e1];by_cases hlt:m+i < words.length
      · rw [ae (by rw [ag]; omega),dM hlt,bsm]
        rcases iL words[m+i] (hw _ (aF hlt)) with ⟨v,hv,ev,hnum⟩ | ⟨hno,hnum⟩
        · rw [hnum,bsm,ae (by simp)]
          have hw':words[m+i]=mkS (Lib.itoa v):=by rw [←ev,cV]
          have ht:(words.drop m).take (i+1)=(words.drop m).take i++ [mkS (Lib.itoa v)]:=by
            rw [an (by rw [cU]; omega),List.getElem_drop,hw']
          left
          have hi2:i=0∨i=1:=by omega
          rcases hi2 with rfl | rfl
          · obtain rfl:=hx0 (by omega)
            obtain rfl:=hy0 (by omega);refine ⟨(w64 (((0:Nat):Int)+1),v,0),rfl,by simp only; rw [dJ (by omega)]; omega,hv,f0,fun h=>by omega,fun _=>rfl,by omega,?_⟩;rw [ht,hd];rfl
          · obtain rfl:=hy0 (by omega)
            refine ⟨(w64 (((1:Nat):Int)+1),x,v),rfl,by simp only; rw [dJ (by omega)]; omega,hx,hv,fun h=>by omega,fun h=>by omega,by omega,?_⟩;rw [ht,hd];rfl
        · rw [hnum,bsm,ac (by simp),ec,bsm]
          right
          refine ⟨_,rfl,.inl ⟨_,by omega,by omega,rfl,fun x' y' hx' hy' e=>?_⟩⟩;have:(words.drop m)[i]? = (nw n x' y')[i]? :=by rw [e]
          rw [eN,ak hlt] at this;unfold nw at this;rw [cA,ac (by omega)] at this;have hi2:i=0∨i=1:=by omega
          rcases hi2 with rfl | rfl
          · simp only [aA,az] at this
            exact hno x' hx' (by rw [this,aE])
          · simp only [ii,aA,az] at this
            exact hno y' hy' (by rw [this,aE])
      · rw [ac (av (by omega)),ec,bsm]
        right
        refine ⟨_,rfl,.inl ⟨_,by omega,by omega,rfl,fun x' y' _ _ e=>?_⟩⟩;have h1:=cf List.length e;have h2:=lB (n:=(n:Int)) (by omega) x' y';rw [cU] at h1;omega
    · obtain ⟨i',x,y⟩:=a
      obtain ⟨rfl,hx,hy,hx0,hy0,hmi,hd⟩:=hI;exact ⟨_,by simp only; rw [ae (by simp)],.inr ⟨x,y,rfl,hx,hy,hx0,hy0,hmi,hd⟩⟩
  obtain ⟨t,ht,hp⟩:=key;rcases hp with ⟨a,h1,h2,rfl,h3⟩ | ⟨x,y,rfl,hx,hy,hx0,hy0,hmn,hd⟩
  · exact .inr ⟨h3,a,h1,h2,cO ht rfl⟩
  · have e1:w64 ((m:Int)+(n:Int))=((m+n:Nat):Int):=by rw [dJ (by omega)]; omega
    by_cases hgt:words.length > m+n
    · right
      refine ⟨fun x' y' _ _ e=>?_,((m+n:Nat):Int),by omega,by omega,cO ht ?_⟩
      · have h1:=cf List.length e
        have h2:=lB (n:=(n:Int)) (by omega) x' y';rw [cU] at h1;omega
      · simp only
        rw [e1,ac (av (by omega)),ec,bsm]
    · left
      refine ⟨x,y,hx,hy,hx0,hy0,?_,cO ht ?_⟩
      · rw [←hd,iH (by rw [cU]; omega)]
      · simp only
        rw [e1,ae (by rw [ag]; omega)]
structure cz (o:aj):Prop where
 k0:0≤o.Kind
 k1:o.Kind≤13
 a:bw o.A
 b:bw o.B
 by_:o.Kind≠0→o.Bytes= []
 z:o.Kind=0∨o.Kind=1→o.A=0∧o.B=0
 o1:¬(o.Kind=0∨o.Kind=1∨o.Kind=2∨o.Kind=13)→o.B=0
 w:o.Kind=12→o.A=0∨o.A=1
theorem gS (n:Int):∃b,aV n=some b∧(b=true↔bw n):=by
 unfold aV bw;rw [bA,bsm];exact ⟨_,rfl,by rw [ai,ag,ag]; omega⟩
theorem ji (o:aj):∃b,aB o=some b∧(b=true↔cz o):=by
 obtain ⟨a,ha,ha2⟩:=gS o.A;obtain ⟨b,hb,hb2⟩:=gS o.B;unfold aB;rw [ha,hb];simp only [bA,cF,bsm];have hby:(decide ((o.Bytes.length:Int) > 0))=true↔¬o.Bytes= []:=by
  rw [ag]
  cases o.Bytes with
  | nil=>simp
  | cons x t=>simp <;> omega
 by_cases h1:(((decide (o.Kind < 0) || decide (o.Kind > 13)) || (o.Kind != 0 && decide ((o.Bytes.length:Int) > 0)) || !a) || !b)=true
 ·rw [ac h1];refine ⟨_,rfl,fun h=>(by cases h),fun h=>?_⟩;simp only [aw,ai,kN,ne_eq,dD,hby,ag] at h1;rcases h1 with (((h1 | h1) | h1) | h1) | h1
  ·have:=h.k0; omega
  ·have:=h.k1; omega
  ·exact absurd (h.by_ h1.1) h1.2
  ·rw [ha2.2 h.a] at h1; cases h1
  ·rw [hb2.2 h.b] at h1; cases h1
 ·rw [ae h1];simp only [aw,ai,kN,ne_eq,dD,hby,ag,not_or,not_and,Classical.not_not,qz] at h1;obtain ⟨⟨⟨⟨k0,k1⟩,hb0⟩,fa⟩,fb⟩:=h1;have fa:=ha2.1 fa;have fb:=hb2.1 fb;by_cases h2:(o.Kind==0 || o.Kind==1)=true
  ·rw [ac h2];rw [aw,ah,ah] at h2;refine ⟨_,rfl,?_⟩;rw [ai,ah,ah];exact ⟨fun h=>⟨by omega,by omega,fa,fb,hb0,fun _=>h,fun q=>by omega,fun q=>by omega⟩,fun h=>h.z h2⟩
  ·rw [ae h2];rw [aw,ah,ah] at h2;by_cases h3:(o.Kind==2 || o.Kind==13)=true
   ·rw [ac h3];rw [aw,ah,ah] at h3;exact ⟨_,rfl,fun _=>⟨by omega,by omega,fa,fb,hb0,fun q=>absurd q h2,fun q=>by omega,fun q=>by omega⟩,fun _=>rfl⟩
   ·rw [ae h3];rw [aw,ah,ah] at h3;refine ⟨_,rfl,?_⟩;rw [ai,aw,aw,ah,kN,ah,ah];constructor
    ·rintro ⟨hB,hA⟩;exact ⟨by omega,by omega,fa,fb,hb0,fun q=>absurd q h2,fun _=>hB,fun q=>by omega⟩
    ·intro h;refine ⟨h.o1 (by omega),?_⟩;by_cases q:o.Kind=12
     ·have:=h.w q;omega
     ·exact .inl (.inl q)
def nOf (k:Int):Int:=if k=1 then 0 else if k=2∨k=13 then 2 else 1
abbrev kc:ByteArray:=⟨#[102,101,101,100]⟩
abbrev lU:ByteArray:=⟨#[119,114,97,112]⟩
def kOK (k:Nat):Bool:= !(hw k).1.isEmpty && (hw k).1.all (fun w=> !w.data.toList.contains 32 && !w.data.toList.contains 10 && decide (w.size≤10)) && (hw k).2==nOf k &&
 (match (hw k).1[0]? with | some w=> !(w.data.toList==kc.data.toList) && !(w.data.toList==lU.data.toList) | none=>false)
theorem ox:((List.range 14).all fun k=>k==0 || k==12 || kOK k)=true:=by kernel_rfl
structure KOK (k:Int):Prop where
 ne:(hw k).1≠ []
 sp:∀w∈(hw k).1,(32:UInt8)∉blS w∧(10:UInt8)∉blS w∧w.size≤10
 n:(hw k).2=nOf k
 hd:∃w r,(hw k).1=w :: r∧w≠kc∧w≠lU
theorem kok {k:Int} (h:1≤k∧k≤13) (h12:k≠12):KOK k:=by
 have hh:=List.all_eq_true.1 ox k.toNat (List.mem_range.2 (by omega));rw [aw,aw,ah,ah] at hh;have hh:kOK k.toNat=true:=by rcases hh with (q | q) | q <;> first | (exfalso; omega) | exact q
 unfold kOK at hh;rw [show ((k.toNat:Nat):Int)=k by omega] at hh;simp only [ai,dD,ij,ah,ag] at hh;obtain ⟨⟨⟨h1,h2⟩,h3⟩,h4⟩:=hh;refine ⟨by rw [←od]; exact h1,fun w hw'=>?_,h3,?_⟩
 ·obtain ⟨⟨q1,q2⟩,q3⟩:=h2 w hw';refine ⟨fun q=>?_,fun q=>?_,q3⟩
  ·have q:(32:UInt8)∈w.data.toList:=q;rw [List.contains_iff_mem.2 q] at q1; cases q1
  ·have q:(10:UInt8)∈w.data.toList:=q;rw [List.contains_iff_mem.2 q] at q2; cases q2
 ·cases e:(hw k).1 with
  | nil=>rw [e] at h1; simp at h1
  | cons w r=>
   rw [e] at h4;simp only [aA,ai,dD,cq] at h4;exact ⟨w,r,rfl,fun q=>h4.1 (by rw [q]),fun q=>h4.2 (by rw [q])⟩
theorem pd {k:Int} (h:k < 1∨13 < k∨k=12):hw k=([],0):=by
 have ne:∀c:Int,c∈([1,2,3,4,5,6,7,8,9,10,11,13]:List Int)→(k==c)=false:=fun c hc=>by
  rw [cq];simp only [aT,bi,et] at hc;omega
 have e:=fm k;unfold bh at e;simp only [ne 1 (by simp),ne 2 (by simp),ne 3 (by simp),ne 4 (by simp),ne 5 (by simp),ne 6 (by simp),ne 7 (by simp),ne 8 (by simp),ne 9 (by simp),ne 10 (by simp),ne 11 (by simp),ne 13 (by simp),dW,nB] at e;exact (ao e).symm
theorem mi (l:List Int) (hl:l.length≤1000000):∃b,dF l=some b∧(b=true↔∀n∈l,bw n):=by
 unfold dF;have key:∃t,cT (((l.length:Int) - 0).toNat+1) (fun (b:Int)=>
   if (decide (b < (l.length:Int)))=true then
   (idx l b).bind fun c=>
   (orE (decide (c > 999999999)) (some (decide (c < (-999999999))))).bind fun d=>
   if d=true then
   some (.inr (.inl false))
   else
   some (.inl ((w64 (b+1))))
   else
   some (.inr (.inr ()))) 0=some t∧((t=(Sum.inl false:Bool ⊕ Unit)∧¬∀n∈l,bw n)∨(t= .inr ()∧∀n∈l,bw n)):=by
  refine fo (n:=l.length) (fun i (a:Int)=>a=(i:Int)∧∀n∈l.take i,bw n) _ (fun i a hi hI=>?_) (fun a hI=>?_) ⟨rfl,by simp⟩ (by omega)
  ·obtain ⟨rfl,h⟩:=hI;rw [ac (dlt hi),dM hi,bsm,cF,bsm,dy hi (by omega)];by_cases hf:bw l[i]
   ·left
    refine ⟨_,by rw [ae (by unfold bw at hf; rw [aw,ag,ag]; omega)],rfl,fun n hn=>?_⟩;rw [an hi] at hn;rcases List.mem_append.1 hn with hn | hn
    ·exact h n hn
    ·rw [List.mem_singleton.1 hn]; exact hf
   ·right
    refine ⟨_,by rw [ac (by unfold bw at hf; rw [aw,ag,ag]; omega)],.inl ⟨rfl,fun q=>hf (q _ (aF hi))⟩⟩
  ·obtain ⟨rfl,h⟩:=hI;rw [bz] at h;exact ⟨_,by rw [ae (by simp)],.inr ⟨rfl,h⟩⟩
 obtain ⟨t,ht,hp⟩:=key;rcases hp with ⟨rfl,h⟩ | ⟨rfl,h⟩
 ·exact ⟨false,cO ht rfl,by simp only [dW,false_iff]; exact h⟩
 ·exact ⟨true,cO ht rfl,by simp only [true_iff]; exact h⟩
theorem kU (o:aj):∃b,cG o=some b∧(b=true↔cz o):=by
 obtain ⟨fb,hfb,hfb2⟩:=mi [o.A,o.B] (by simp);unfold cG;rw [fm,bsm];by_cases h0:o.Kind=0
 ·rw [ac (by rw [ah]; exact h0),bA,bsm];refine ⟨_,rfl,?_⟩;rw [ai,ah,ah];exact ⟨fun h=>⟨by omega,by omega,by unfold bw; omega,by unfold bw; omega,fun q=>absurd h0 q,fun _=>h,fun q=>by omega,fun q=>by omega⟩,fun h=>h.z (.inl h0)⟩
 ·rw [ae (by rw [ah]; exact h0)];have hby:((o.Bytes.length:Int)==0)=true↔o.Bytes= []:=by
   rw [ah]
   cases o.Bytes with
   | nil=>simp
   | cons x t=>simp <;> omega
  by_cases h12:o.Kind=12
  ·rw [ac (by rw [ah]; exact h12),cF,bsm,bA,bsm,bA,bsm];refine ⟨_,rfl,?_⟩;rw [ai,ai,aw,ah,ah,ah,hby];exact ⟨fun h=>⟨by omega,by omega,by unfold bw; omega,by unfold bw; omega,fun _=>h.2,fun q=>by omega,fun _=>h.1.2,fun _=>h.1.1⟩,fun h=>⟨⟨h.w h12,h.o1 (by omega)⟩,h.by_ h0⟩⟩
  ·rw [ae (by rw [ah]; exact h12),cF,bsm];by_cases hr:1≤o.Kind∧o.Kind≤13
   ·have K:=kok hr h12;have e1:(hw o.Kind).1.isEmpty=false:=by rw [od]; exact K.ne
    rw [e1,Bool.false_or];by_cases hb:o.Bytes= []
    ·have e2:decide ((o.Bytes.length:Int) > 0)=false:=by rw [hb]; rfl
     rw [e2,cX,hfb,bsm,bsm]
     cases fb with
     | false=>
      rw [ac (by simp)];refine ⟨_,rfl,fun h=>(by cases h),fun h=>?_⟩;have:=hfb2.2 (fun n hn=>by
       simp only [aT,bi,et] at hn;rcases hn with rfl | rfl
       ·exact h.a
       ·exact h.b)
      cases this
     | true=>
      have hf:=hfb2.1 rfl;have fa:=hf o.A (by simp);have fb:=hf o.B (by simp);rw [ae (by simp),cF,bsm,bA,bsm,cF,bsm];refine ⟨_,rfl,?_⟩;rw [aw,ai,aw,ah,ah,ah,ah,K.n];unfold nOf;constructor
      ·intro h;refine ⟨by omega,by omega,fa,fb,fun _=>hb,fun q=>?_,fun q=>?_,fun q=>by omega⟩
       ·have:o.Kind=1:=by omega
        rw [ac this] at h;omega
       ·rw [ae (by omega),ae (by omega)] at h;omega
      ·intro h;by_cases k1:o.Kind=1
       ·have:=h.z (.inr k1);rw [ac k1];exact .inr ⟨this.2,.inr this.1⟩
       ·by_cases k2:o.Kind=2∨o.Kind=13
        ·rw [ae k1,ac k2];exact .inl rfl
        ·rw [ae k1,ae k2];exact .inr ⟨h.o1 (by omega),.inl rfl⟩
    ·have e2:decide ((o.Bytes.length:Int) > 0)=true:=by
      rw [ag];have:=List.length_pos_iff.2 hb;omega
     rw [e2,fk,bsm,ac rfl];exact ⟨_,rfl,fun h=>(by cases h),fun h=>absurd (h.by_ h0) hb⟩
   ·rw [pd (by omega)];show ∃b,((orE (true || _) _).bind _)=some b∧_;rw [Bool.true_or,fk,bsm,ac rfl];exact ⟨_,rfl,fun h=>(by cases h),fun h=>by have:=h.k0; have:=h.k1; omega⟩
def dL (o:aj):List UInt8:=
 if o.Kind=0 then [102,101,101,100,32]++hx o.Bytes
 else if o.Kind=12 then (if o.A=1 then [119,114,97,112,32,111,110] else [119,114,97,112,32,111,102,102])
 else bI 32 ((hw o.Kind).1.map blS++([Lib.itoa o.A,Lib.itoa o.B]).take (nOf o.Kind).toNat)
theorem nn (l:List ByteArray):(l.map blS).map mkS=l:=by
 rw [fu]
 conv=>rhs; rw [←jQ l]
 exact dI fun s _=>cV s
theorem kD (k:Int):0≤nOf k∧nOf k≤2:=by unfold nOf; split <;> (try split) <;> omega
theorem gq (c:UInt8) (n:Nat):∀ws:List (List UInt8),(∀w∈ws,w.length≤n)→(bI c ws).length≤ws.length * (n+1)
 | [],_=>by simp [bI]
 | [x],h=>by have:=h x (by simp); simp only [bI,am]; omega
 | x :: y :: r,h=>by
  have h1:=h x (by simp);have h2:=gq c n (y :: r) (fun w hw=>h w (fI _ hw));rw [bI,aa,ab,ab (a:=x),dA,gG];omega
theorem fY {o:aj} (R:cz o) (K:KOK o.Kind):∀w∈(hw o.Kind).1.map blS++([Lib.itoa o.A,Lib.itoa o.B]).take (nOf o.Kind).toNat,(32:UInt8)∉w∧(10:UInt8)∉w∧w.length≤10:=by
 intro w hw';rcases List.mem_append.1 hw' with h | h
 ·obtain ⟨x,hx,rfl⟩:=List.mem_map.1 h;obtain ⟨h1,h2,h3⟩:=K.sp x hx;exact ⟨h1,h2,by rw [ee]; exact h3⟩
 ·have:=pS h;simp only [aT,bi,et] at this;rcases this with rfl | rfl
  ·exact ⟨fM _ _ (by decide) (by decide),fM _ _ (by decide) (by decide),cY R.a⟩
  ·exact ⟨fM _ _ (by decide) (by decide),fM _ _ (by decide) (by decide),cY R.b⟩
theorem ik {o:aj}:((hw o.Kind).1.map blS++([Lib.itoa o.A,Lib.itoa o.B]).take (nOf o.Kind).toNat).length≤4:=by
 have h1:=jy o.Kind;rw [aa,aG,aI];simp only [ab,au];omega
theorem kf {o:aj} (R:cz o):(dL o).length≤2 * o.Bytes.length+60:=by
 unfold dL;split
 ·unfold hx;split
  ·simp
  ·rw [aa,dX]; simp only [ab,au]; omega
 ·split
  ·split <;> simp
  ·rename_i h0 h12
   have K:=kok (k:=o.Kind) (by have:=R.k0; have:=R.k1; omega) h12;have:=gq 32 10 _ (fun w hw'=>(fY R K w hw').2.2);have h4:=ik (o:=o);have:((hw o.Kind).1.map blS++([Lib.itoa o.A,Lib.itoa o.B]).take (nOf o.Kind).toNat).length * 11≤44:=by omega
   omega
theorem ou {o:aj} (R:cz o) (hb:bytes o.Bytes):(10:UInt8)∉dL o:=by
 unfold dL;split
 ·intro h;rcases List.mem_append.1 h with h | h
  ·exact absurd h (by decide)
  ·exact nD _ hb 10 (by decide) (by decide) h
 ·split
  ·split <;> decide
  ·rename_i h0 h12
   have K:=kok (k:=o.Kind) (by have:=R.k0; have:=R.k1; omega) h12;have hall:=fun w hw'=>(fY R K w hw').2.1;have:∀ws:List (List UInt8),(∀w∈ws,(10:UInt8)∉w)→(10:UInt8)∉bI 32 ws:=by
    intro ws
    induction ws with
    | nil=>intro _; simp [bI]
    | cons x r ih=>
     intro h
     cases r with
     | nil=>exact h x (by simp)
     | cons y s=>
      rw [bI];intro hm;rcases List.mem_append.1 hm with hm | hm
      ·exact h x (by simp) hm
      ·rcases List.mem_cons.1 hm with hm | hm
       ·exact absurd hm (by decide)
       ·exact ih (fun w hw'=>h w (fI _ hw')) hm
   exact this _ hall
theorem mb {o:aj} (hb:bytes o.Bytes) (hl:o.Bytes.length≤300000):(cz o→cC o=some (mkS (dL o)))∧(¬cz o→cC o=some ⟨#[]⟩):=by
 obtain ⟨b,h1,h2⟩:=kU o;unfold cC;rw [h1,bsm];constructor
 ·intro R;rw [h2.2 R,ae (by simp)];unfold dL;by_cases h0:o.Kind=0
  ·rw [ac (by rw [ah]; exact h0),ac h0,pe hb (by omega),bsm];have hl2:(hx o.Bytes).length≤1000000:=by
    unfold hx;split
    ·simp
    ·rw [dX]; omega
   have:=bX (a:=[102,101,101,100,32]) (b:=hx o.Bytes) (by simp only [ab,au]; omega);rw [show (⟨#[102,101,101,100,32]⟩:ByteArray)=mkS [102,101,101,100,32] from rfl,this,bsm]
  ·rw [ae (by rw [ah]; exact h0),ae h0,bA,bsm];by_cases h12:o.Kind=12
   ·rw [ac h12];by_cases hA:o.A=1
    ·rw [ac (by rw [ai,ah,ah]; exact ⟨h12,hA⟩),ac hA];rfl
    ·rw [ae (by rw [ai,ah,ah]; exact fun q=>hA q.2),ac (by rw [ah]; exact h12),ae hA];rfl
   ·rw [ae (by rw [ai,ah,ah]; exact fun q=>h12 q.1),ae (by rw [ah]; exact h12),ae h12,fm,bsm];have K:=kok (k:=o.Kind) (by have:=R.k0; have:=R.k1; omega) h12;have hn:=kD o.Kind;rw [K.n];have hs:slc [o.A,o.B] 0 (nOf o.Kind)=some (([o.A,o.B]).take (nOf o.Kind).toNat):=by
     unfold slc;rw [ac (by simp only [ab,au]; omega)];simp
    rw [hs,bsm];have hf:∀n∈([o.A,o.B]).take (nOf o.Kind).toNat,bw n:=fun n hn=>by
     have:=pS hn;simp only [aT,bi,et] at this;rcases this with rfl | rfl
     ·exact R.a
     ·exact R.b
    have ht:([Lib.itoa o.A,Lib.itoa o.B]).take (nOf o.Kind).toNat=(([o.A,o.B]).take (nOf o.Kind).toNat).map Lib.itoa:=by
     rw [oN]; rfl
    rw [ht];have hlen:(([o.A,o.B]).take (nOf o.Kind).toNat).length≤2:=by rw [aI]; simp only [ab,au]; omega
    have hwl:=jy o.Kind;have hwords:=fY R K;rw [ht] at hwords;have hwl2:=ik (o:=o);rw [ht] at hwl2;generalize ([o.A,o.B]).take (nOf o.Kind).toNat=l at hf hlen hwords hwl2;refine ek (n:=l.length) (fun i (a:List ByteArray×Int)=>a=((hw o.Kind).1++((l.take i).map fun n=>mkS (Lib.itoa n)),(i:Int))) (fun t=>t=(hw o.Kind).1++(l.map fun n=>mkS (Lib.itoa n))) (fun i a hi hI=>?_) (fun a hI=>?_) (by simp) (by omega) (fun t ht=>?_)
    ·subst hI;simp only;rw [ac (dlt hi),dy hi (by omega)];simp only [dM hi,bsm];rw [kH (hf _ (aF hi)),bsm,jM (by rw [aa,aG,aI]; simp only [am]; omega),bsm];refine .inl ⟨_,rfl,?_⟩;rw [an hi,dZ,aP];rfl
    ·subst hI;refine ⟨_,by simp only; rw [ae (by simp)],?_⟩;rw [bz]
    ·subst ht;have e:(hw o.Kind).1++(l.map fun n=>mkS (Lib.itoa n))=((hw o.Kind).1.map blS++l.map Lib.itoa).map mkS:=by
      rw [dZ,nn,fu];rfl
     have hj:=gq 32 10 _ (fun w hw'=>(hwords w hw').2.2);rw [e,nt 32 (by omega) (by omega),bsm]
 ·intro R;have:b=false:=by
   cases b with
   | false=>rfl
   | true=>exact absurd (h2.1 rfl) R
  rw [this,ac (by simp)]
theorem fL (c:UInt8):∀{ws:List (List UInt8)} (_:ws≠ []) (x:List UInt8),bI c (ws++ [x])=bI c ws++c :: x
 | [],h,_=>absurd rfl h
 | [y],_,x=>rfl
 | y :: z :: r,_,x=>by
  have:=fL c (ws:=z :: r) (by simp) x;rw [cg,cg,bI,←cg,this,bI];simp
def hdB (k:Nat):Bool:=match bY.bind fun w=>idx w (k:Int) with
 | some b=>(match eE b 0 (w64 ((aR b) - 2)),eU b (w64 ((aR b) - 1)) with
  | some f,some h=>f.data.toList==bI 32 ((hw k).1.map blS) && h==48+nOf k
  | _,_=>false)
 | none=>false
theorem oE:((List.range 14).all fun k=>k==0 || k==12 || hdB k)=true:=by kernel_rfl
theorem nG {k:Int} (h:1≤k∧k≤13) (h12:k≠12):∃b,(bY.bind fun w=>idx w k)=some b∧eE b 0 (w64 ((aR b) - 2))=some (mkS (bI 32 ((hw k).1.map blS)))∧eU b (w64 ((aR b) - 1))=some (48+nOf k):=by
 have hh:=List.all_eq_true.1 oE k.toNat (List.mem_range.2 (by omega));rw [aw,aw,ah,ah] at hh;have hh:hdB k.toNat=true:=by rcases hh with (q | q) | q <;> first | (exfalso; omega) | exact q
 unfold hdB at hh;rw [show ((k.toNat:Nat):Int)=k by omega] at hh;split at hh
 ·rename_i b e
  split at hh
  ·rename_i f h1 e1 e2
   rw [ai,ah,ah] at hh;refine ⟨b,e,?_,by rw [e2,hh.2]⟩;rw [e1]
   congr 1
   apply gt;rw [aE];exact hh.1
  ·cases hh
 ·cases hh
theorem gI {o:aj} (R:cz o) (hb:bytes o.Bytes) (hl:o.Bytes.length≤300000):aL o=some (mkS (dL o)):=by
 unfold aL dL;by_cases h0:o.Kind=0
 ·rw [ac (by rw [ah]; exact h0),ac h0];refine ek (n:=o.Bytes.length) (fun i (a:ByteArray×Int)=>a=(mkS ([102,101,101,100,32]++eJ (o.Bytes.take i)),(i:Int))) (fun t=>t=mkS ([102,101,101,100,32]++eJ o.Bytes)) (fun i a hi hI=>?_) (fun a hI=>?_) rfl (by omega) (fun t ht=>?_)
  ·subst hI;simp only;rw [ac (dlt hi),dy hi (by omega)];simp only [dM hi,bsm];have hc:=nF o.Bytes[i] (hb _ (aF hi));have hlen:([102,101,101,100,32]++eJ (o.Bytes.take i)).length≤1000000:=by
    rw [aa,dX,aI];simp only [ab,au];omega
   rw [hc.1,bsm,bX (by simp only [am]; omega),bsm,hc.2,bsm,bX (by rw [aa]; simp only [am]; omega),bsm];refine .inl ⟨_,rfl,?_⟩;rw [an hi,gY];simp only [eJ,aP,List.singleton_append]
  ·subst hI;refine ⟨_,by simp only; rw [ae (by simp)],?_⟩;rw [bz]
  ·subst ht;unfold hx;by_cases hn:o.Bytes= []
   ·rw [hn];rfl
   ·have:=List.length_pos_iff.2 hn;rw [ae (by rw [ah]; omega),ae hn]
 ·rw [ae (by rw [ah]; exact h0),ae h0,bA,bsm];by_cases h12:o.Kind=12
  ·rw [ac h12];by_cases hA:o.A=1
   ·rw [ac (by rw [ai,ah,ah]; exact ⟨h12,hA⟩),ac hA];rfl
   ·rw [ae (by rw [ai,ah,ah]; exact fun q=>hA q.2),ac (by rw [ah]; exact h12),ae hA];rfl
  ·rw [ae (by rw [ai,ah,ah]; exact fun q=>h12 q.1),ae (by rw [ah]; exact h12),ae h12];have hr:1≤o.Kind∧o.Kind≤13:=by have:=R.k0; have:=R.k1; omega
   have K:=kok hr h12;obtain ⟨b,e1,e2,e3⟩:=nG hr h12;obtain ⟨w,e4,e5⟩:=Option.bind_eq_some_iff.1 e1;have hW:(hw o.Kind).1.map blS≠ []:=fun q=>K.ne (List.map_eq_nil_iff.1 q);have hWl:(bI 32 ((hw o.Kind).1.map blS)).length≤100:=by
    have:=gq 32 10 ((hw o.Kind).1.map blS) (fun w hw'=>(fY R K w (br _ hw')).2.2);have h2:=jy o.Kind;rw [aG] at this;omega
   have hA:=cY R.a;have hB:=cY R.b;have s32:(⟨#[32]⟩:ByteArray)=mkS [32]:=rfl;rw [e4,bsm,e5,bsm,e2,bsm,e3,bsm,kK R.a,kK R.b,s32];have hn:nOf o.Kind=0∨nOf o.Kind=1∨nOf o.Kind=2:=by have:=kD o.Kind; omega
   rcases hn with hn | hn | hn
   ·rw [hn,ae (by simp),bsm,bsm,ae (by simp),bsm];simp
   ·rw [hn,ac (by simp),bX (by simp only [am]; omega),bsm,bsm,bX (by rw [aa]; simp only [am]; omega),bsm,bsm,bsm,ae (by simp),bsm];rw [show ([Lib.itoa o.A,Lib.itoa o.B]).take (1:Int).toNat= [Lib.itoa o.A] from rfl,fL 32 hW];simp
   ·rw [hn,ac (by simp),bX (by simp only [am]; omega),bsm,bsm,bX (by rw [aa]; simp only [am]; omega),bsm,bsm,bsm,ac (by simp),bX (by rw [aa,aa]; simp only [am]; omega),bsm,bsm,bX (by rw [aa,aa,aa]; simp only [am]; omega),bsm,bsm];rw [show ([Lib.itoa o.A,Lib.itoa o.B]).take (2:Int).toNat= [Lib.itoa o.A]++ [Lib.itoa o.B] from rfl,←aP,fL 32 (by simp),fL 32 hW];simp
abbrev zop:aj:=⟨0,0,0,[]⟩
theorem ma (l:List (List UInt8)):(l.map mkS).map blS=l:=by
  rw [fu]
  conv=>rhs; rw [←jQ l]
  exact dI fun s _=>aE s
theorem lK {α:Type} {l:List α} (h:l.length=2):∃a b,l= [a,b]:=by
  match l,h with
  | [a,b],_=>exact ⟨a,b,rfl⟩
theorem mL (ws:List (List UInt8)) (h2:ws.length≤2000000) (hs:∀w∈ws,w.length≤1000000):
    (∃l w0,bytes l∧ws= [w0,hx l]∧l.length≤(hx l).length∧cB (ws.map mkS)=some (⟨0,0,0,l⟩,Er.nil))∨∃a:Int,0≤a∧(ws≠ []→a≤ws.length)∧cB (ws.map mkS)=some (zop,Er.fault a (Er.sent 5)):=by
  unfold cB;rw [aG];by_cases hl:ws.length < 2
  · right
    rw [ac (av (by omega)),ec,bsm];exact ⟨1,by omega,fun h=>by have:=List.length_pos_iff.2 h; omega,rfl⟩
  · rw [ae (by rw [ag]; omega)]
    have hi:1 < (ws.map mkS).length:=by rw [aG]; omega
    have hw1:(ws.map mkS)[1]=mkS ws[1]:=lT ..;rw [show (1:Int)=((1:Nat):Int) from rfl,dM hi,bsm,hw1];have hsz:=hs ws[1] (aF (by omega));rcases kV (mkS ws[1]) (by rw [aU]; exact hsz) with ⟨l,hb,e,hll,hr⟩ | ⟨_,hr⟩
    · rw [hr,bsm,ae (by simp)]
      rw [aE] at e;by_cases h3:ws.length > 2
      · right
        rw [ac (av (by omega)),ec,bsm];exact ⟨2,by omega,fun _=>by omega,rfl⟩
      · left
        rw [ae (by rw [ag]; omega)];obtain ⟨a,b,rfl⟩:=lK (l:=ws) (by omega);simp only [List.getElem_cons_succ,List.getElem_cons_zero] at e;subst e;rw [aU] at hll;exact ⟨l,a,hb,rfl,hll,rfl⟩
    · right
      rw [hr,bsm,ac (by simp),ec,bsm];exact ⟨1,by omega,fun _=>by omega,rfl⟩
theorem oF {l:List Int} (hb:bytes l) (hl:l.length≤400000) (w0:List UInt8):cB ([w0,hx l].map mkS)=some (⟨0,0,0,l⟩,Er.nil):=by
  unfold cB;rw [ae (by simp)];show (Option.bind (some (mkS (hx l))) _)=_;rw [bsm,oW hb hl,bsm,ae (by simp),ae (by simp)]
abbrev wOn:ByteArray:=⟨#[111,110]⟩
abbrev og:ByteArray:=⟨#[111,102,102]⟩
theorem mw (ws:List (List UInt8)) (h2:ws.length≤2000000):
    (∃w0 x,ws= [w0,x]∧((x=blS wOn∧cQ (ws.map mkS)=some (⟨12,1,0,[]⟩,Er.nil))∨(x=blS og∧cQ (ws.map mkS)=some (⟨12,0,0,[]⟩,Er.nil))))∨∃a:Int,0≤a∧(ws≠ []→a≤ws.length)∧cQ (ws.map mkS)=some (zop,Er.fault a (Er.sent 5)):=by
  unfold cQ;rw [aG];by_cases hl:ws.length < 2
  · right
    rw [show decide (((ws.length:Nat):Int) < 2)=true from av (by omega),fk,bsm,ac rfl,ec,bsm];exact ⟨1,by omega,fun h=>by have:=List.length_pos_iff.2 h; omega,rfl⟩
  · rw [show decide (((ws.length:Nat):Int) < 2)=false by rw [ce]; omega,cX]
    have hi:1 < (ws.map mkS).length:=by rw [aG]; omega
    have hw1:(ws.map mkS)[1]=mkS ws[1]:=lT ..;have hx:idx (ws.map mkS) 1=some (mkS ws[1]):=by rw [show (1:Int)=((1:Nat):Int) from rfl,dM hi,hw1]
    simp only [hx,bsm,bA];by_cases hon:ws[1]=blS wOn
    · have e1:eqS (mkS ws[1]) wOn=true:=by rw [hon,cV]; exact cH _
      rw [e1,ae (by simp)];by_cases h3:ws.length > 2
      · right
        rw [ac (av (by omega)),ec,bsm];exact ⟨2,by omega,fun _=>by omega,rfl⟩
      · left
        rw [ae (by rw [ag]; omega),ac rfl];obtain ⟨a,b,rfl⟩:=lK (l:=ws) (by omega);exact ⟨a,b,rfl,.inl ⟨hon,rfl⟩⟩
    · have e1:eqS (mkS ws[1]) wOn=false:=jC fun e=>hon (by rw [←e,aE])
      rw [e1];by_cases hoff:ws[1]=blS og
      · have e2:eqS (mkS ws[1]) og=true:=by rw [hoff,cV]; exact cH _
        rw [e2,ae (by simp)];by_cases h3:ws.length > 2
        · right
          rw [ac (av (by omega)),ec,bsm];exact ⟨2,by omega,fun _=>by omega,rfl⟩
        · left
          rw [ae (by rw [ag]; omega),ae (by simp)];obtain ⟨a,b,rfl⟩:=lK (l:=ws) (by omega);exact ⟨a,b,rfl,.inr ⟨hoff,rfl⟩⟩
      · have e2:eqS (mkS ws[1]) og=false:=jC fun e=>hoff (by rw [←e,aE])
        right
        rw [e2,ac (by simp),ec,bsm];exact ⟨1,by omega,fun _=>by omega,rfl⟩
theorem iA {n:Int} (x y:Int):(nw n x y).map blS=([Lib.itoa x,Lib.itoa y]).take n.toNat:=by
  unfold nw;rw [oN];simp only [fE,List.map_nil,aE]
theorem gJ (p0:ByteArray) (hs:p0.size≤1000000):
    (∃o,cz o∧bytes o.Bytes∧o.Bytes.length≤p0.size∧blS p0=dL o∧aC p0=some (o,Er.nil))∨
    ∃a:Int,0≤a∧a≤(bD 32 (blS p0)).length∧aC p0=some (zop,Er.fault a (Er.sent 5)):=by
  have hj:=fK 32 (blS p0);have hcnt:=eI 32 (blS p0);have hlen:(bD 32 (blS p0)).length≤p0.size+1:=by
    rw [hcnt,←ee];have:=eD (a:=(32:UInt8)) (l:=blS p0);omega
  have hwl:∀w∈bD 32 (blS p0),w.length≤p0.size:=by
    have:∀(ws:List (List UInt8)),∀w∈ws,w.length≤(bI 32 ws).length:=by
      intro ws
      induction ws with
      | nil=>intro w hw; cases hw
      | cons x r ih=>
        intro w hw
        cases r with
        | nil=>
          rw [List.mem_singleton.1 hw];exact aD _
        | cons y s=>
          rw [bI,aa,ab];rcases List.mem_cons.1 hw with rfl | hw
          · omega
          · have:=ih w hw
            omega
    intro w hw;have:=this _ w hw;rw [hj,ee] at this;exact this
  have hne:=gn 32 (blS p0);unfold aC;rw [gN 32 (by omega),bsm];generalize bD 32 (blS p0)=ws at hj hlen hwl hne⊢;obtain ⟨w0,r,rfl⟩:∃w0 r,ws=w0 :: r:=by
    cases ws with
    | nil=>exact absurd rfl hne
    | cons a b=>exact ⟨a,b,rfl⟩
  have hi:idx ((w0 :: r).map mkS) 0=some (mkS w0):=rfl;rw [hi,bsm];by_cases hf:w0=blS kc
  · rw [ac (by rw [hf,cV]; exact cH _)]
    rcases mL (w0 :: r) (by omega) (fun w hw=>by have:=hwl w hw; omega) with ⟨l,w1,hb,e,hll,hr⟩ | ⟨a,h1,h2,hr⟩
    · left
      rw [hr,bsm];obtain ⟨rfl,rfl⟩:=bV e;have h3:=hwl (hx l) (by simp);refine ⟨_,⟨by simp,by simp,by simp [bw],by simp [bw],fun h=>absurd rfl h,fun _=>⟨rfl,rfl⟩,fun h=>absurd (.inl rfl) h,fun h=>by simp at h⟩,hb,by simp only; omega,?_,rfl⟩;rw [←hj,hf];unfold dL;rw [ac rfl];rfl
    · right
      rw [hr,bsm];exact ⟨a,h1,h2 hne,rfl⟩
  · rw [ae (by rw [ez]; exact fun e=>hf (by rw [show kc=mkS w0 from e.symm,aE]))]
    by_cases hw':w0=blS lU
    · rw [ac (by rw [hw',cV]; exact cH _)]
      rcases mw (w0 :: r) (by omega) with ⟨w1,x,e,hr⟩ | ⟨a,h1,h2,hr⟩
      · left
        obtain ⟨rfl,rfl⟩:=bV e;rcases hr with ⟨rfl,hr⟩ | ⟨rfl,hr⟩
        · rw [hr,bsm]
          refine ⟨_,⟨by simp,by simp,by simp [bw],by simp [bw],fun _=>rfl,fun h=>by simp at h,fun _=>rfl,fun _=> .inr rfl⟩,(by intro b hb; cases hb),by simp,?_,rfl⟩;rw [←hj,hw'];rfl
        · rw [hr,bsm]
          refine ⟨_,⟨by simp,by simp,by simp [bw],by simp [bw],fun _=>rfl,fun h=>by simp at h,fun _=>rfl,fun _=> .inl rfl⟩,(by intro b hb; cases hb),by simp,?_,rfl⟩;rw [←hj,hw'];rfl
      · right
        rw [hr,bsm];exact ⟨a,h1,h2 hne,rfl⟩
    · rw [ae (by rw [ez]; exact fun e=>hw' (by rw [show lU=mkS w0 from e.symm,aE]))]
      have hl2:((w0 :: r).map mkS).length≤10000000:=by rw [aG]; omega
      rcases kh ((w0 :: r).map mkS) hl2 with ⟨k,k1,k13,hpre,hk⟩ | ⟨_,b,b0,b1,hk⟩
      · rw [hk,bsm,ae (by simp),fm,bsm]
        have h12:k≠12:=fun e=>by
          rw [e] at hpre;exact hpre.1 rfl
        have K:=kok ⟨k1,k13⟩ h12;have hn:=kD k;obtain ⟨rest,hrest⟩:=pm hpre.2;rw [K.n];have hcast:(nOf k)=((nOf k).toNat:Int):=by omega
        have hm:(hw k).1.length≤((w0 :: r).map mkS).length:=by rw [hrest,aa]; omega
        have hns:=eW ((w0 :: r).map mkS) (hw k).1.length (nOf k).toNat (by omega) hm hl2 (fun w hw''=>by
          obtain ⟨v,hv,rfl⟩:=List.mem_map.1 hw'';rw [aU];have:=hwl v hv;omega)
        rw [←hcast] at hns;rcases hns with ⟨x,y,fx,fy,hx0,hy0,hd,hr⟩ | ⟨_,a,h1,h2,hr⟩
        · left
          rw [hr,bsm,ae (by simp [Er.isNil])];refine ⟨⟨k,x,y,[]⟩,⟨by simp only; omega,k13,fx,fy,fun _=>rfl,fun h=>?_,fun h=>?_,fun h=>absurd h h12⟩,(by intro b hb; cases hb),by simp,?_,rfl⟩
          · simp only at h⊢
            have e:nOf k=0:=by unfold nOf; rw [ac (by omega)]
            exact ⟨hx0 (by omega),hy0 (by omega)⟩
          · simp only at h⊢
            have e:nOf k=1:=by unfold nOf; rw [ae (by omega),ae (by omega)]
            exact hy0 (by omega)
          · unfold dL
            rw [ae (by simp only; omega),ae h12];have hws:(w0 :: r)=(hw k).1.map blS++([Lib.itoa x,Lib.itoa y]).take (nOf k).toNat:=by
              have:(w0 :: r).map mkS=(hw k).1++nw (nOf k) x y:=by
                rw [←hd,hrest,dg]
              rw [←ma (w0 :: r),this,dZ,iA]
            rw [←hj,hws]
        · right
          rw [hr,bsm,ac (by simp [Er.isNil])];rw [aG] at h2;exact ⟨a,h1,h2,rfl⟩
      · right
        rw [hk,bsm,ac (by simp),ec,bsm];rw [aG] at b1;exact ⟨b,b0,b1,rfl⟩
theorem ng:aC (mkS [119,114,97,112,32,111,110])=some (⟨12,1,0,[]⟩,Er.nil):=by kernel_rfl
theorem mF:aC (mkS [119,114,97,112,32,111,102,102])=some (⟨12,0,0,[]⟩,Er.nil):=by kernel_rfl
theorem jj {o:aj} (R:cz o) (hb:bytes o.Bytes) (hl:o.Bytes.length≤300000):aC (mkS (dL o))=some (o,Er.nil):=by
  have hlen:=kf R;by_cases hn12:o.Kind=12
  · have hB:=R.o1 (by omega)
    have hby:=R.by_ (by omega);have hA:=R.w hn12;obtain ⟨k,a,b,l⟩:=o;simp only at hn12 hB hby hA;subst hn12 hB hby;rcases hA with rfl | rfl
    · exact mF
    · exact ng
  unfold aC;rw [gN 32 (by rw [aU]; omega),bsm,aE];by_cases h0:o.Kind=0
  · have hz:=R.z (.inl h0)
    have e:dL o=bI 32 [blS kc,hx o.Bytes]:=by
      unfold dL;rw [ac h0];rfl
    rw [e,fJ (by simp) (fun w hw'=>by
      simp only [aT,bi,et] at hw';rcases hw' with rfl | rfl
      · decide
      · exact nD _ hb 32 (by decide) (by decide))]
    show (Option.bind (some (mkS (blS kc))) _)=_;rw [bsm,ac (by rw [cV]; exact cH _),oF hb (by omega),bsm];obtain ⟨k,a,b,l⟩:=o;simp only at h0 hz;rw [h0,hz.1,hz.2]
  · by_cases h12:o.Kind=12
    · exact absurd h12 hn12
    · have hr:1≤o.Kind∧o.Kind≤13:=by have:=R.k0; have:=R.k1; omega
      have K:=kok hr h12;have hn:=kD o.Kind;have e:dL o=bI 32 ((hw o.Kind).1.map blS++([Lib.itoa o.A,Lib.itoa o.B]).take (nOf o.Kind).toNat):=by
        unfold dL;rw [ae h0,ae h12]
      have hwords:=fY R K;have h4:=ik (o:=o);have hW:(hw o.Kind).1.map blS≠ []:=fun q=>K.ne (List.map_eq_nil_iff.1 q);rw [e,fJ (by simp [hW]) (fun w hw'=>(hwords w hw').1)];have hmap:((hw o.Kind).1.map blS++([Lib.itoa o.A,Lib.itoa o.B]).take (nOf o.Kind).toNat).map mkS=(hw o.Kind).1++nw (nOf o.Kind) o.A o.B:=by
        rw [dZ,nn];unfold nw;rw [oN];rfl
      rw [hmap];obtain ⟨w,r,hwr,hwf,hww⟩:=K.hd;have hi:idx ((hw o.Kind).1++nw (nOf o.Kind) o.A o.B) 0=some w:=by rw [hwr]; rfl
      rw [hi,bsm,ae (by rw [ez]; exact hwf),ae (by rw [ez]; exact hww)];have hpre:gX ((hw o.Kind).1++nw (nOf o.Kind) o.A o.B) o.Kind:=⟨K.ne,oG _ _⟩;have hl2:((hw o.Kind).1++nw (nOf o.Kind) o.A o.B).length≤10:=by
        have:=lB hn o.A o.B;have:=jy o.Kind;rw [aa];omega
      rcases kh ((hw o.Kind).1++nw (nOf o.Kind) o.A o.B) (by omega) with ⟨k,k1,k13,hp2,hk⟩ | ⟨hno,_⟩
      · obtain rfl:=nf ⟨k1,k13⟩ hr hp2 hpre
        rw [hk,bsm,ae (by simp),fm,bsm,K.n];have hcast:(nOf o.Kind)=((nOf o.Kind).toNat:Int):=by omega
        have hns:=eW ((hw o.Kind).1++nw (nOf o.Kind) o.A o.B) (hw o.Kind).1.length (nOf o.Kind).toNat (by omega) (by rw [aa]; omega) (by omega) (fun w hw''=>by
          rw [←hmap] at hw'';obtain ⟨v,hv,rfl⟩:=List.mem_map.1 hw'';have:=(hwords v hv).2.2;rw [aU];omega)
        rw [←hcast] at hns;rcases hns with ⟨x,y,fx,fy,hx0,hy0,hd,hr'⟩ | ⟨hno,_⟩
        · rw [hr',bsm,ae (by simp [Er.isNil])]
          rw [dg] at hd;have hbs:=R.by_ h0;have hxy:x=o.A∧y=o.B:=by
            have hd2:=cf (List.map blS) hd;rw [iA,iA] at hd2;have h3:nOf o.Kind=0∨nOf o.Kind=1∨nOf o.Kind=2:=by omega
            rcases h3 with q | q | q
            · have hk1:o.Kind=1:=by
                unfold nOf at q;split at q
                · assumption
                · split at q <;> omega
              have:=R.z (.inr hk1);exact ⟨(hx0 (by omega)).trans this.1.symm,(hy0 (by omega)).trans this.2.symm⟩
            · rw [q] at hd2
              have e1:Lib.itoa o.A=Lib.itoa x:=(bV hd2).1;have hB:=R.o1 (by
                unfold nOf at q;split at q
                · omega
                · split at q <;> omega)
              exact ⟨(gd e1 R.a fx).symm,(hy0 (by omega)).trans hB.symm⟩
            · rw [q] at hd2
              have e1:Lib.itoa o.A=Lib.itoa x:=(bV hd2).1;have e2:Lib.itoa o.B=Lib.itoa y:=(bV (bV hd2).2).1;exact ⟨(gd e1 R.a fx).symm,(gd e2 R.b fy).symm⟩
          obtain ⟨k,a,b,l⟩:=o;simp only at hxy hbs;rw [hxy.1,hxy.2,hbs]
        · rw [dg] at hno
          exact absurd rfl (hno o.A o.B R.a R.b)
      · exact absurd hpre (hno _ hr.1 hr.2)
theorem kq:aH=some true:=by kernel_rfl
theorem ku {a b:aj} (ha:bytes a.Bytes) (hb:bytes b.Bytes):∃z,aK a b=some z∧(z=true↔a=b):=by
  unfold aK;rw [bA,bsm,bA,bsm,bA,bsm];refine ⟨_,rfl,?_⟩;rw [ai,ai,ai,ah,ah,ah,ez];constructor
  · rintro ⟨⟨⟨h1,h2⟩,h3⟩,h4⟩
    have:=nO ha hb h4;cases a;cases b
    simp_all
  · rintro rfl
    exact ⟨⟨⟨rfl,rfl⟩,rfl⟩,rfl⟩
theorem fp (a:Int) (j k:Nat) (hj:j < 8) (hk:k < 8):bt (Er.fault a (Er.sent j)) (Er.sent k)=some (j==k):=by
  unfold bt;simp only [jB,ag];rw [ac ⟨hk,hj⟩];rfl
theorem mM (a:Int):cv (Er.fault a (Er.sent 5))=some 6:=by
  unfold cv;simp only [fp a 5 _ (by decide) (by decide:0 < 8),fp a 5 _ (by decide) (by decide:1 < 8),fp a 5 _ (by decide) (by decide:2 < 8),fp a 5 _ (by decide) (by decide:3 < 8),fp a 5 _ (by decide) (by decide:4 < 8),fp a 5 _ (by decide) (by decide:5 < 8),bsm];rfl
theorem jE {p0:ByteArray} (c:UInt8) (n0:Int) (hn:0≤n0∧n0≤10) (hs:p0.size≤1000000) {β:Type} {k:Int→Option β} {r:Option β} (hk:k (n0+((blS p0).count c:Nat))=r):
    (cT (σ:=Int×Int) (τ:=Int) (((aR p0) - 0).toNat+1) (fun b=>
     if (decide (b.2 < (aR p0)))=true then
     ((eU p0 b.2).bind fun o=>
     if (o==(c.toNat:Int))=true then
     some ((w64 (b.1+1)))
     else
     some (b.1)).bind fun p=>
     some (.inl (p,(w64 (b.2+1))))
     else
     some (.inr (b.1))) (n0,0)).bind k=r:=by
  obtain ⟨s,rfl⟩:∃s,p0=mkS s:=⟨blS p0,(cV p0).symm⟩;rw [aU] at hs;rw [aE] at hk;rw [gO];refine ek (n:=s.length) (fun i (a:Int×Int)=>a=(n0+(((s.take i).count c:Nat):Int),(i:Int))) (fun t=>t=n0+((s.count c:Nat):Int)) (fun i a hi hI=>?_) (fun a hI=>?_) (by simp) (by omega) (fun t ht=>by rw [ht]; exact hk)
  · subst hI
    simp only;have hc:(s.take i).count c≤i:=by
      have:=eD (a:=c) (l:=s.take i);rw [aI] at this;omega
    rw [ac (dlt hi),dy hi (by omega),jb hi,bsm]
    left
    by_cases e:s[i]=c
    · rw [ac (by rw [e,ah]),bsm]
      refine ⟨_,rfl,?_⟩;rw [an hi,dC,e,List.count_singleton_self,dJ (by omega)]
      congr 1
      omega
    · rw [ae (by rw [ah]; exact fun q=>e (UInt8.toNat_inj.1 (by omega))),bsm]
      refine ⟨_,rfl,?_⟩;rw [an hi,dC,show [s[i]].count c=0 from List.count_eq_zero.2 (by simpa using fun q:c=s[i]=>e q.symm)];simp
  · subst hI
    exact ⟨_,by simp only; rw [ae (by simp)],by rw [bz]⟩
theorem jo (p1:ByteArray) (hp:p1.size≤5000) {a:aj×Er} (ha:aC p1=some a):
    (if a.2.isNil=true then
     (aB a.1).bind fun m=>
     (bW m ((aL a.1).bind fun n=>
     some (eqS n p1))).bind fun j=>
     some j
     else
     (cT (σ:=Int×Int) (τ:=Int) (((aR p1) - 0).toNat+1) (fun b=>
     if (decide (b.2 < (aR p1)))=true then
     ((eU p1 b.2).bind fun o=>
     if (o==32)=true then
     some ((w64 (b.1+1)))
     else
     some (b.1)).bind fun p=>
     some (.inl (p,(w64 (b.2+1))))
     else
     some (.inr (b.1))) (1,0)).bind fun k=>
     (aK a.1 (⟨0,0,0,([]:List Int)⟩:aj)).bind fun f=>
     (bW f ((cv a.2).bind fun g=>
     some (g==6))).bind fun c=>
     (bW c ((dP a.2).bind fun h=>
     some (decide (h≥0)))).bind fun d=>
     (bW d ((dP a.2).bind fun i=>
     some (decide (i≤k)))).bind fun e=>
     some e)=some true:=by
  rcases gJ p1 (by omega) with ⟨o,R,hb,hl,e,h⟩ | ⟨at_,h1,h2,h⟩
  · rw [ha] at h
    obtain rfl:=ao h;rw [ac (show ((o,Er.nil):aj×Er).2.isNil=true from rfl)];obtain ⟨b,e1,e2⟩:=ji o;rw [e1,bsm,e2.2 R,dH,gI R hb (by omega),bsm,bsm,←e,cV,cH]
  · rw [ha] at h
    obtain rfl:=ao h;rw [ae (by simp [Er.isNil])];refine jE 32 1 (by omega) (by omega) ?_;obtain ⟨z,e1,e2⟩:=ku (a:=zop) (b:=zop) (by intro b hb; cases hb) (by intro b hb; cases hb);rw [e1,bsm,e2.2 rfl,dH,mM,bsm,bsm];rw [eI] at h2;have g1:dP (Er.fault at_ (Er.sent 5))=some at_:=rfl;rw [g1,show ((6:Int)==6)=true from rfl,dH,bsm,bsm,av (show at_≥0 from h1),dH,bsm,bsm,av (by omega)]
theorem iu (o:aj) (hb:bytes o.Bytes) (p1:ByteArray):bp o p1=some true:=by
  unfold bp;rw [kq,bsm,ef,cX,bsm];by_cases h1:(o.Bytes.length:Int) > 3000
  · rw [av h1,fk,bsm,ac rfl,bsm]
  rw [show decide ((o.Bytes.length:Int) > 3000)=false by rw [ce]; exact h1,cX,bsm];by_cases h2:aR p1 > 5000
  · rw [av h2,ac rfl,bsm]
  rw [show decide (aR p1 > 5000)=false by rw [ce]; exact h2,ae (by simp)];have hp:p1.size≤5000:=by unfold aR at h2; omega
  obtain ⟨L1,L2⟩:=mb (o:=o) hb (by omega);obtain ⟨b,e1,e2⟩:=ji o;have hpt:∃a,aC p1=some a:=by
    rcases gJ p1 (by omega) with ⟨_,_,_,_,_,h⟩ | ⟨_,_,_,h⟩ <;> exact ⟨_,h⟩
  obtain ⟨a,ha⟩:=hpt;by_cases R:cz o
  · rw [L1 R,bsm,e1,bsm,e2.2 R,ae (by simp),jj R hb (by omega),bsm,gI R hb (by omega),bsm]
    obtain ⟨z,s1,s2⟩:=ku (a:=o) (b:=o) hb hb;rw [cH,s1,s2.2 rfl];show ((orE (!true) (some (!Er.nil.isNil))).bind _)=_;rw [ef,cX,bsm];show ((orE (!true) (Option.bind (some true) fun x=>some !x)).bind _)=_;rw [ef,cX,bsm,bsm,ef,ae (by simp),ha,bsm];exact jo p1 hp ha
  · have:b=false:=by
      cases b with
      | false=>rfl
      | true=>exact absurd (e2.1 rfl) R
    rw [L2 R,bsm,e1,bsm,this,ac (by simp),ae (by rw [cH]; simp),ha,bsm];exact jo p1 hp ha
def eK (w h:Int):List UInt8:=[115,105,122,101,32]++Lib.itoa w++32 :: Lib.itoa h++ [10]
def dh:List aj→List UInt8
  | []=>[]
  | o :: r=>dL o++10 :: dh r
def dK (w h:Int) (l:List aj):List UInt8:=eK w h++dh l
theorem ff:∀l m,dh (l++m)=dh l++dh m
  | [],_=>rfl
  | o :: r,m=>by simp only [cg,dh,ff r m,aP]
theorem je (o:aj):dh [o]=dL o++ [10]:=rfl
structure Rb (o:aj):Prop where
  r:cz o
  b:bytes o.Bytes
  l:o.Bytes.length≤300000
theorem lg {w h:Int} (fw:bw w) (fh:bw h):(eK w h).length≤30:=by
  have h1:=cY fw;have h2:=cY fh;unfold eK;simp only [aa,ab,au];omega
theorem jh {w h:Int} (fw:bw w) (fh:bw h) {l:List aj} (hr:∀o∈l,Rb o) (hl:l.length≤1000000) (ht:(dK w h l).length≤1000000000):bM w h l=some (mkS (dK w h l)):=by
  unfold bM;have h1:=cY fw;have h2:=cY fh;have s1:(⟨#[115,105,122,101,32]⟩:ByteArray)=mkS [115,105,122,101,32]:=rfl;have s2:(⟨#[32]⟩:ByteArray)=mkS [32]:=rfl;have s3:(⟨#[10]⟩:ByteArray)=mkS [10]:=rfl;rw [kK fw,bsm,s1,bX (by simp only [ab,au]; omega),bsm,s2,bX (by simp only [aa,ab,au]; omega),bsm,kK fh,bsm,
    bX (by simp only [aa,ab,au]; omega),bsm,s3,bX (by simp only [aa,ab,au]; omega),bsm]
  have hh: [115,105,122,101,32]++Lib.itoa w++ [32]++Lib.itoa h++ [10]=eK w h:=by
    unfold eK;simp
  rw [hh];refine ek (n:=l.length) (fun i (a:ByteArray×Int)=>a=(mkS (eK w h++dh (l.take i)),(i:Int))) (fun t=>t=mkS (dK w h l)) (fun i a hi hI=>?_) (fun a hI=>?_) (by simp [dh]) (by omega) (fun t ht=>by rw [ht])
  · subst hI
    simp only;rw [ac (dlt hi),dy hi (by omega)];simp only [dM hi,bsm];have R:=hr _ (aF hi);have hle:(dh (l.take i)).length+(dL l[i]).length+1≤(dh l).length:=by
      have e:l=l.take i++l[i] :: l.drop (i+1):=by
        rw [←dx hi,fB]
      have:=cf (fun x=>(dh x).length) e;simp only [ff,dh,aa,ab] at this;omega
    have htl:(dK w h l).length=(eK w h).length+(dh l).length:=by
      unfold dK;rw [aa]
    rw [gI R.r R.b R.l,bsm,bX (by rw [aa]; omega),bsm,bX (by simp only [aa,am]; omega),bsm];refine .inl ⟨_,rfl,?_⟩;rw [an hi,ff,je];simp only [aP]
  · subst hI
    refine ⟨_,by simp only; rw [ae (by simp)],?_⟩;rw [bz];rfl
theorem fj (s:af) (hl:s.Ops.length≤1000000):∃b,co s=some b∧(b=true↔(∀o∈s.Ops,cz o)∧bw s.W∧bw s.H):=by
  unfold co;have key:∃t,cT (((s.Ops.length:Int) - 0).toNat+1) (fun (b:Int)=>
      if (decide (b < (s.Ops.length:Int)))=true then
      (idx s.Ops b).bind fun c=>
      (cG c).bind fun d=>
      if (!d)=true then
      some (.inr (.inl false))
      else
      some (.inl ((w64 (b+1))))
      else
      some (.inr (.inr ()))) 0=some t∧((t=(Sum.inl false:Bool ⊕ Unit)∧¬∀o∈s.Ops,cz o)∨(t= .inr ()∧∀o∈s.Ops,cz o)):=by
    refine fo (n:=s.Ops.length) (fun i (a:Int)=>a=(i:Int)∧∀o∈s.Ops.take i,cz o) _ (fun i a hi hI=>?_) (fun a hI=>?_) ⟨rfl,by simp⟩ (by omega)
    · obtain ⟨rfl,h⟩:=hI
      obtain ⟨b,e1,e2⟩:=kU s.Ops[i];rw [ac (dlt hi),dM hi,bsm,e1,bsm,dy hi (by omega)]
      cases b with
      | true=>
        left
        refine ⟨_,by rw [ae (by simp)],rfl,fun o ho=>?_⟩;rw [an hi] at ho;rcases List.mem_append.1 ho with ho | ho
        · exact h o ho
        · rw [List.mem_singleton.1 ho]; exact e2.1 rfl
      | false=>
        right
        refine ⟨_,by rw [ac (by simp)],.inl ⟨rfl,fun q=>?_⟩⟩;have:=e2.2 (q _ (aF hi));cases this
    · obtain ⟨rfl,h⟩:=hI
      rw [bz] at h;exact ⟨_,by rw [ae (by simp)],.inr ⟨rfl,h⟩⟩
  obtain ⟨t,ht,hp⟩:=key;rcases hp with ⟨rfl,h⟩ | ⟨rfl,h⟩
  · refine ⟨false,cO ht rfl,fun q=>(by cases q),fun q=>absurd q.1 h⟩
  · obtain ⟨b,e1,e2⟩:=mi [s.W,s.H] (by simp)
    refine ⟨b,cO ht ?_,?_⟩
    · simp only
      rw [e1,bsm]
    · rw [e2]
      simp only [aT,bi,et,forall_eq_or_imp,forall_eq];exact ⟨fun q=>⟨h,q⟩,fun q=>q.2⟩
abbrev fe:ByteArray:=⟨#[115,105,122,101]⟩
theorem lC (s:af) (p:ByteArray) (hs:p.size≤1000000):
    (∃x y,bw x∧bw y∧blS p++ [10]=eK x y∧ax ⟨[s]⟩ (some 0) 0 p=some (⟨[⟨x,y,s.Ops⟩]⟩,Er.nil))∨∃st a,0≤a∧ax ⟨[s]⟩ (some 0) 0 p=some (st,Er.fault a (Er.sent 5)):=by
  have hj:=fK 32 (blS p);have hcnt:=eI 32 (blS p);have hlen:(bD 32 (blS p)).length≤p.size+1:=by
    rw [hcnt,←ee];have:=eD (a:=(32:UInt8)) (l:=blS p);omega
  have hwl:∀w∈bD 32 (blS p),w.length≤p.size:=by
    have:∀(ws:List (List UInt8)),∀w∈ws,w.length≤(bI 32 ws).length:=by
      intro ws
      induction ws with
      | nil=>intro w hw; cases hw
      | cons x r ih=>
        intro w hw
        cases r with
        | nil=>
          rw [List.mem_singleton.1 hw];exact aD _
        | cons y s=>
          rw [bI,aa,ab];rcases List.mem_cons.1 hw with rfl | hw
          · omega
          · have:=ih w hw
            omega
    intro w hw;have:=this _ w hw;rw [hj,ee] at this;exact this
  have hne:=gn 32 (blS p);unfold ax;rw [ae (by simp),gN 32 (by omega),bsm];generalize bD 32 (blS p)=ws at hj hlen hwl hne⊢;obtain ⟨w0,r,rfl⟩:∃w0 r,ws=w0 :: r:=by
    cases ws with
    | nil=>exact absurd rfl hne
    | cons a b=>exact ⟨a,b,rfl⟩
  have hi:idx ((w0 :: r).map mkS) 0=some (mkS w0):=rfl;rw [hi,bsm];by_cases hf:w0=blS fe
  · rw [ae (by rw [hf,cV,cH]; simp)]
    have hm:((w0 :: r).map mkS).length≤10000000:=by rw [aG]; omega
    have hns:=eW ((w0 :: r).map mkS) 1 2 (by omega) (by simp) hm (fun w hw''=>by
      obtain ⟨v,hv,rfl⟩:=List.mem_map.1 hw'';rw [aU];have:=hwl v hv;omega)
    rcases hns with ⟨x,y,fx,fy,_,_,hd,hr⟩ | ⟨_,a,h1,h2,hr⟩
    · left
      rw [show ((1:Nat):Int)=1 from rfl,show ((2:Nat):Int)=2 from rfl] at hr;rw [hr,bsm,bsm];refine ⟨x,y,fx,fy,?_,?_⟩
      · have hr2:r= [Lib.itoa x,Lib.itoa y]:=by
          have:(r.map mkS)=nw 2 x y:=hd;rw [←ma r,this,iA];rfl
        rw [←hj,hr2,hf];unfold eK;simp only [bI];rw [show blS fe= [115,105,122,101] from rfl];simp
      · simp only [Sto.set_script_Script,aA,bsm,ab,au,dz,ft,ac,dV]
    · right
      rw [show ((1:Nat):Int)=1 from rfl,show ((2:Nat):Int)=2 from rfl] at hr;rw [hr,bsm,bsm];refine ⟨⟨[⟨0,0,s.Ops⟩]⟩,a,h1,?_⟩;simp only [Sto.set_script_Script,aA,bsm,ab,au,dz,ft,ac,dV]
  · right
    rw [ac (by rw [jC (fun e=>hf (by rw [show fe=mkS w0 from e.symm,aE]))]; rfl),ec,bsm];exact ⟨_,0,by omega,rfl⟩
theorem mG (s:af) (n:Int) (hn:0 < n) (p:ByteArray) (hs:p.size≤300000) (hl:s.Ops.length≤1000000):
    (∃o,Rb o∧blS p=dL o∧ax ⟨[s]⟩ (some 0) n p=some (⟨[⟨s.W,s.H,s.Ops++ [o]⟩]⟩,Er.nil))∨∃st a,0≤a∧ax ⟨[s]⟩ (some 0) n p=some (st,Er.fault a (Er.sent 5)):=by
  unfold ax;rw [ac (av hn)];have hap:∀o,app s.Ops [o]=some (s.Ops++ [o]):=fun o=>jM (by simp only [am]; omega);rcases gJ p (by omega) with ⟨o,R,hb,hlo,e,h⟩ | ⟨a,h1,_,h⟩
  · left
    refine ⟨o,⟨R,hb,by omega⟩,e,?_⟩;rw [h,bsm,bsm];simp only [Sto.set_script_Script,aA,bsm,ab,au,dz,ft,ac,dV,hap]
  · right
    refine ⟨⟨[⟨s.W,s.H,s.Ops++ [zop]⟩]⟩,a,h1,?_⟩;rw [h,bsm,bsm];simp only [Sto.set_script_Script,aA,bsm,ab,au,dz,ft,ac,dV,hap]
structure Rd_ (s:af) (n:Nat) (c:List UInt8):Prop where
  cnt:c.count 10=n
  ops:s.Ops.length≤n
  z:n=0→c= []∧s=⟨0,0,[]⟩
  p:0 < n→c=dK s.W s.H s.Ops∧bw s.W∧bw s.H∧∀o∈s.Ops,Rb o
theorem pA (n:Int):(10:UInt8)∉Lib.itoa n:=fM n 10 (by decide) (by decide)
theorem mD (p0:ByteArray) (hs:p0.size≤100000):
    (∃st s n,0 < n∧Rd_ s n (blS p0)∧cm ⟨[]⟩ p0=some (st,s,Er.nil)∧s.Ops.length≤p0.size)∨
    (p0.size≤65536→∃(st:Sto) (n:Int) (e:Er),0≤n∧n≤(((blS p0).count 10:Nat):Int)∧(e=Er.sent 1∨∃k,0≤k∧e=Er.fault k (Er.sent 5))∧cm ⟨[]⟩ p0=some (st,⟨0,0,[]⟩,Er.fault n e)):=by
  unfold cm;by_cases hbig:aR p0 > 65536
  · right
    intro h;unfold aR at hbig;omega
  rw [ae (by rw [ag]; exact hbig),bsm];have key:∃t,cT (p0.size+2) (fun (a:ByteArray×Int×Sto)=>
      (orE (a.2.1==0) (some (!(eqS a.1 (⟨#[]⟩:ByteArray))))).bind fun f=>
      if f=true then
      (ck a.1 (⟨#[10]⟩:ByteArray)).bind fun d=>
      if (!d.2.2)=true then
      (em a.2.1 (Er.sent 1)).bind fun h=>
      some (.inr (.inl (a.2.2,(⟨0,0,([]:List aj)⟩:af),h)))
      else
      (ax a.2.2 (some 0) a.2.1 d.1).bind fun c=>
      if (!c.2.isNil)=true then
      (em a.2.1 c.2).bind fun i=>
      some (.inr (.inl (c.1,(⟨0,0,([]:List aj)⟩:af),i)))
      else
      some (.inl (d.2.1,(w64 (a.2.1+1)),c.1))
      else
      some (.inr (.inr (a.2.2)))) (p0,0,(⟨[⟨0,0,[]⟩]⟩:Sto))=some t∧
      ((∃s n,0 < n∧Rd_ s n (blS p0)∧t=(Sum.inr ⟨[s]⟩:(Sto×af×Er) ⊕ Sto))∨
       ∃(st:Sto) (n:Int) (e:Er),0≤n∧n≤(((blS p0).count 10:Nat):Int)∧(e=Er.sent 1∨∃k,0≤k∧e=Er.fault k (Er.sent 5))∧t= .inl (st,⟨0,0,[]⟩,Er.fault n e)):=by
    refine js (fun a:ByteArray×Int×Sto=>∃s n c,a.2.1=((n:Nat):Int)∧a.2.2=⟨[s]⟩∧Rd_ s n c∧blS p0=c++blS a.1) (fun a=>a.1.size) _ (fun a hI=>?_) _ _ ⟨⟨0,0,[]⟩,0,[],rfl,rfl,⟨rfl,by simp,fun _=>⟨rfl,rfl⟩,fun h=>by omega⟩,rfl⟩ (by simp only; omega);obtain ⟨text,n',st⟩:=a;obtain ⟨s,n,c,rfl,rfl,hR,hc⟩:=hI;simp only at hc⊢;have hlen:c.length+text.size=p0.size:=by
      have:=cf List.length hc;rw [aa,ee,ee] at this;omega
    have hnc:n≤c.length:=by
      rw [←hR.cnt];exact eD
    rw [cF,bsm];by_cases hgo:(((n:Nat):Int)==0 || !eqS text ⟨#[]⟩)=true
    · rw [ac hgo]
      rcases pj (p0:=text) 10 (by omega) with ⟨hno,z,hz,hz2⟩ | ⟨w,t,ht,hw,hz⟩
      · right
        rw [hz,bsm,hz2,ac (by simp)];exact ⟨_,rfl,.inr ⟨_,(n:Int),_,by omega,by rw [hc,dC,hR.cnt]; omega,.inl rfl,rfl⟩⟩
      · have hlt:text.size=w.length+t.length+1:=by
          have:=cf List.length ht;rw [ee,aa,ab] at this;omega
        rw [hz,bsm,ae (by simp)];simp only;have hc2:blS p0=(c++(w++ [10]))++t:=by rw [hc,ht]; simp
        have hcnt2:(c++(w++ [10])).count 10=n+1:=by
          rw [dC,dC,hR.cnt,List.count_eq_zero.2 hw];rfl
        have hbound:n+1≤(blS p0).count 10:=by
          rw [hc2,dC,hcnt2];omega
        by_cases h0:n=0
        · subst h0
          obtain ⟨rfl,rfl⟩:=hR.z rfl;rcases lC ⟨0,0,[]⟩ (mkS w) (by rw [aU]; omega) with ⟨x,y,fx,fy,e,h⟩ | ⟨st,a,h1,h⟩
          · left
            rw [show (((0:Nat):Int))=0 from rfl,h,bsm,ae (by simp [Er.isNil])];refine ⟨_,rfl,⟨⟨x,y,[]⟩,1,[]++(w++ [10]),rfl,rfl,⟨hcnt2,by simp,fun q=>by omega,fun _=>⟨?_,fx,fy,fun o ho=>by cases ho⟩⟩,by rw [aE]; exact hc2⟩,by simp only; rw [aU]; omega⟩;rw [aE] at e;rw [dY,e];simp [dK,dh]
          · right
            rw [show (((0:Nat):Int))=0 from rfl,h,bsm,ac (by simp [Er.isNil])];exact ⟨_,rfl,.inr ⟨_,0,_,by omega,by omega,.inr ⟨a,h1,rfl⟩,rfl⟩⟩
        · obtain ⟨e1,fw,fh,hops⟩:=hR.p (by omega)
          have hol:=hR.ops;rcases mG s (n:Int) (by omega) (mkS w) (by rw [aU]; omega) (by omega) with ⟨o,hRb,e,h⟩ | ⟨st,a,h1,h⟩
          · left
            rw [h,bsm,ae (by simp [Er.isNil])];refine ⟨_,rfl,⟨⟨s.W,s.H,s.Ops++ [o]⟩,n+1,c++(w++ [10]),by simp only; rw [dJ (by omega)]; omega,rfl,⟨hcnt2,by rw [aa,am]; omega,fun q=>by omega,fun _=>⟨?_,fw,fh,fun o' ho=>?_⟩⟩,by rw [aE]; exact hc2⟩,by simp only; rw [aU]; omega⟩
            · rw [aE] at e
              show _=eK s.W s.H++dh (s.Ops++ [o]);rw [ff,je,e1,e];unfold dK;rw [aP]
            · rcases List.mem_append.1 ho with ho | ho
              · exact hops o' ho
              · rw [List.mem_singleton.1 ho]; exact hRb
          · right
            rw [h,bsm,ac (by simp [Er.isNil])];exact ⟨_,rfl,.inr ⟨_,(n:Int),_,by omega,by omega,.inr ⟨a,h1,rfl⟩,rfl⟩⟩
    · right
      rw [ae hgo];simp only [aw,ah,dD,not_or,qz] at hgo;have ht:text=⟨#[]⟩:=(ez _ _).1 hgo.2;refine ⟨_,rfl,.inl ⟨s,n,by omega,?_,rfl⟩⟩;rw [hc,ht,show blS ⟨#[]⟩= [] from rfl,iP];exact hR
  obtain ⟨t,ht,hp⟩:=key;have ht2:=ht;rcases hp with ⟨s,n,hn,hR,rfl⟩ | ⟨st,n,e,h1,h2,h3,rfl⟩
  · left
    refine ⟨⟨[s]⟩,s,n,hn,hR,cO ht rfl,?_⟩
    · have:=hR.ops
      have h2:=hR.cnt;have:=eD (a:=(10:UInt8)) (l:=blS p0);rw [ee] at this;omega
  · right
    intro _;exact ⟨st,n,e,h1,h2,h3,cO ht rfl⟩
theorem mf (a:Int) (k:Nat) (hk:k < 8):bt (Er.fault a (Er.sent 1)) (Er.sent k)=some (1==k):=fp a 1 k (by decide) hk
theorem mN (a:Int):cv (Er.fault a (Er.sent 1))=some 2:=by
  unfold cv;simp only [mf a 2 (by decide),mf a 1 (by decide),bsm];rfl
theorem iB (a b:Int) (k:Nat) (hk:k < 8):bt (Er.fault a (Er.fault b (Er.sent 5))) (Er.sent k)=some (5==k):=by
  unfold bt;simp only [jB,ag];rw [ac ⟨hk,by decide⟩];rfl
theorem nM (a b:Int):cv (Er.fault a (Er.fault b (Er.sent 5)))=some 6:=by
  unfold cv;simp only [iB a b 2 (by decide),iB a b 1 (by decide),iB a b 3 (by decide),iB a b 0 (by decide),iB a b 4 (by decide),iB a b 5 (by decide),bsm];rfl
theorem ir (p0:ByteArray):∃st,bm ⟨[]⟩ p0=some (st,true):=by
  unfold bm;rw [kq,bsm,ef,cX,bsm];by_cases h2:aR p0 > 20000
  · rw [av h2,ac rfl,bsm]
    exact ⟨_,rfl⟩
  rw [show decide (aR p0 > 20000)=false by rw [ce]; exact h2,ae (by simp)];have hp:p0.size≤20000:=by unfold aR at h2; omega
  rcases mD p0 (by omega) with ⟨st,s,n,hn,hR,h,hol⟩ | hbad
  · obtain ⟨e,fw,fh,hops⟩:=hR.p hn
    rw [h,bsm,ac (show ((st,s,Er.nil):Sto×af×Er).2.2.isNil=true from rfl)];obtain ⟨b,e1,e2⟩:=fj s (by omega);have hlen:(dK s.W s.H s.Ops).length=p0.size:=by rw [←e,ee]
    rw [e1,bsm,e2.2 ⟨fun o ho=>(hops o ho).r,fw,fh⟩,dH,jh fw fh hops (by omega) (by omega),bsm,bsm,←e,cV,cH];exact ⟨_,rfl⟩
  · obtain ⟨st,m,e,h1,h2,h3,h⟩:=hbad (by omega)
    rw [h,bsm,ae (by simp [Er.isNil])];refine ⟨st,?_⟩;refine jE 10 0 (by omega) (by omega) ?_;have g1:dP (Er.fault m e)=some m:=rfl;rcases h3 with rfl | ⟨k,hk,rfl⟩
    · rw [mN,bsm,g1,bsm]
      have g2:dT (Er.fault m (Er.sent 1))=some (-1):=rfl;simp only [g2,bA,cF,bsm,dH];rw [av (show m≥0 from h1),av (show m≤0+(((blS p0).count 10:Nat):Int) by omega)];rfl
    · rw [nM,bsm,g1,bsm]
      have g2:dT (Er.fault m (Er.fault k (Er.sent 5)))=some k:=rfl;simp only [g2,bA,cF,bsm,dH];rw [av (show m≥0 from h1),av (show m≤0+(((blS p0).count 10:Nat):Int) by omega),av (show k≥0 from hk)];rfl
end Go.Proofs.YtmncdniojmigeaaGreatDoor
namespace Go.Lt
open Go.ChangeShapes Go.WideShapes Go.RowKit
def RdM (P:Program) (t:TypeId) {α:Type} (R:Rp α) (K:α→Prop):Prop:=
 P.cellsOf t=R.size∧∀{H:Type} {enc:TypeId×Value→H} {w:World} {sp:Nat→Bool} {held:Bool} {fuel:Nat} {cs:List Value} {x:DataW H×List MemPlace},
  DataW.trod enc P w 0 sp held fuel t cs=some x→(∀n∈x.1.weights P t,n≤reachBytes)→∃y,R.cells (C0 w) cs y∧K y
theorem Rd.m {P:Program} {t:TypeId} {α:Type} {R:Rp α} {K:α→Prop} (h:Rd P t R K):RdM P t R K:=⟨h.1,fun hd _=>h.2 hd⟩
theorem iI {H:Type} {P:Program} {e:TypeId}:∀{l:List (DataW H)} {i:Nat} {d:DataW H},l[i]? = some d→∀n∈d.weights P e,n∈DataW.weightsAll P e l
 | d0 :: l,0,d,h,n,hn=>by
  simp only [aA,az] at h;subst h;simp only [DataW.weightsAll,qG];exact Or.inl hn
 | d0 :: l,i+1,d,h,n,hn=>by
  simp only [ii] at h;simp only [DataW.weightsAll,qG];exact Or.inr (iI h n hn)
 | [],_,_,h,_,_=>by simp at h
theorem RdM.slice {P:Program} {t e:TypeId} {α:Type} {R:Rp α} {K:α→Prop} (ht:P.underlying t=some (.slice e)) (hc:P.cellsOf t=1) (h0:0 < R.size) (hb:0 < P.bytesOf e) (h:RdM P e R K):RdM P t (RL R) (fun xs=>xs.length≤reachBytes∧∀x∈xs,K x):=by
 refine ⟨hc,fun {H enc w sp held fuel cs x} hd hw=>?_⟩;rcases qE ht hd with ⟨rfl,_⟩ | ⟨a,len,cap,elems,rest,n,_,rfl,hx,_,hl,hm,hlen,hel,_,_⟩
 ·exact ⟨[],⟨_,rfl,Sl.nl R _⟩,eC _,fun x hx=>by cases hx⟩
 ·subst hx;simp only [DataW.weights,ht] at hw;have hlr:len≤reachBytes:=by
   have h1:=hw _ (List.mem_cons_self ..);have h2:len≤((elems.map (·.1)).length+(rest.map (·.1)).length) * P.bytesOf e:=by
    rw [aG,hlen];exact cD (Nat.le_add_right _ _) (Nat.le_mul_of_pos_right _ hb)
   omega
  obtain ⟨b,o,s⟩:=a;have key:∀i,i < len→∃x,K x∧∃b' off l,(some ⟨b,o,s⟩:Option Addr)=some ⟨b',off,none⟩∧R.cells (C0 w) l x∧∀j u,l[j]? = some u→Im (C0 w) b' (off+i * R.size+j) u:=by
   intro i hi;have hs:s=none:=by
    have hE:=hel 0 (by omega);rw [ak (show 0 < elems.length by omega),eR] at hE;obtain ⟨cs,hcs,_⟩:=hE;obtain ⟨c1,c2⟩:=hF hcs;have hp:0 < cs.length:=by rw [c1,h.1]; exact h0
    have:=qB (c2 0 _ (ak hp));simpa [Addr.add] using this
   subst hs;have hE:=hel i hi;rw [ak (show i < elems.length by omega),eR] at hE;obtain ⟨cs,hcs,hr⟩:=hE;obtain ⟨c1,c2⟩:=hF hcs;have hget:(elems.map (·.1))[i]? = some elems[i].1:=by
    rw [ep,ak (show i < elems.length by omega)];rfl
   obtain ⟨x,hx,hk⟩:=h.2 hr fun n hn=>hw n (fI _ (br _ (iI hget n hn)));refine ⟨x,hk,b,o,cs,rfl,hx,fun j u hu=>im0 ?_⟩;have:=c2 j u hu;rw [eS,eS,h.1] at this;exact this
  obtain ⟨xs,hxl,hxs⟩:=oX len key;subst hxl;refine ⟨xs,⟨_,rfl,some ⟨b,o,s⟩,cap,rfl,hl,hm,fun i x hx=>(hxs i x hx).2⟩,hlr,fun x hx=>?_⟩;obtain ⟨i,hi⟩:=List.mem_iff_getElem?.1 hx;exact (hxs i x hi).1
theorem RdM.field {P:Program} {H:Type} {enc:TypeId×Value→H} {w:World} {sp:Nat→Bool} {held:Bool} {n:Nat} {cs:List Value} {t:TypeId} {fs:Array Field} {xs:List (DataW H×List MemPlace)}
  (ht:P.underlying t=some (.struct fs)) (hw:∀m∈(DataW.agg (xs.map (·.1)):DataW H).weights P t,m≤reachBytes)
  (hf:∀(i:Nat) (f:Field),fs[i]? = some f→DataW.trod enc P w 0 sp held n f.type ((cs.drop f.offset).take (P.cellsOf f.type))=xs[i]?) (hx:xs.length=fs.size)
  (i:Nat) {f:Field} (hi:fs[i]? = some f) {α:Type} {R:Rp α} {K:α→Prop} (h:RdM P f.type R K):∃y,R.cells (C0 w) ((cs.drop f.offset).take R.size) y∧K y:=by
 have hlt:=(Array.getElem?_eq_some_iff.1 hi).1;have:=hf i f hi;have hxi:=ak (show i < xs.length by omega);rw [hxi,h.1] at this;refine h.2 this fun m hm=>hw m ?_;simp only [DataW.weights,ht];refine DataW.weights_mem_each (j:=i) (t:=f.type) (d:=xs[i].1) ?_ ?_ m hm
 ·rw [ep,Array.getElem?_toList,hi];rfl
 ·rw [ep,hxi];rfl
end Go.Lt
namespace Go.Lt
theorem nX {P:Program} {H:Type} {enc:TypeId×Value→H} {w:World} {sp:Nat→Bool} {held:Bool} {t:TypeId} {v:Value} {d:DataW H} {p:List MemPlace} {α:Type} {R:Rp α} {K:α→Prop} {fs:Array Field} (ht:P.underlying t=some (.struct fs)) (h:RdM P t R K) (hok:Value.okWide P w .any 0 t v) (hd:DataW.Trod enc P w 0 sp held t v d p)
  (hw:∀n∈d.weights P t,n≤reachBytes):∃cs x,v= .agg cs∧R.cells (C0 w) cs.toList x∧K x:=by
 obtain ⟨fuel,hd⟩:=hd;obtain ⟨x,hx,hk⟩:=h.2 hd hw;unfold Value.okWide at hok;rw [ht] at hok;obtain ⟨cs,rfl,_⟩:=hok;exact ⟨cs,x,rfl,hx,hk⟩
end Go.Lt
namespace Go.Proofs.YtmncdniojmigeaaGreatDoor
open Go Go.Lt Go.ChangeShapes Go.WideShapes Go.RowKit
set_option maxRecDepth 100000
def oT (xs:List Int):Prop:=xs.length≤reachBytes∧∀x∈xs,K_5 x
theorem pX:RdM Tryz.prog 36 (RL (RI .u8)) oT:=RdM.slice Tryz.underlying36 (by kernel_rfl) (by decide) (by rw [show Tryz.prog.bytesOf 5=1 by kernel_rfl]; decide) D_5.m
def oS (x:aj):Prop:=K_3 x.Kind∧K_3 x.A∧K_3 x.B∧oT x.Bytes
theorem pW:RdM Tryz.prog 38 bq oS:=by
 refine ⟨by kernel_rfl,fun {H enc w sp held fuel cs x} h hw=>?_⟩;obtain ⟨xs,n,rfl,rfl,hl,hn,hf⟩:=lx Tryz.underlying38 h;replace hl:=hl.trans (show Tryz.prog.cellsOf 38=4 by kernel_rfl);obtain ⟨a0,a1,a2,a3,rfl⟩:=pC hl;obtain ⟨y0,e0,k0⟩:=RdM.field Tryz.underlying38 hw hf hn 0 rfl D_3.m;have e0: [a0]= [.int .i64 y0]:=e0;cases e0;obtain ⟨y1,e1,k1⟩:=RdM.field Tryz.underlying38 hw hf hn 1 rfl D_3.m;have e1: [a1]= [.int .i64 y1]:=e1;cases e1;obtain ⟨y2,e2,k2⟩:=RdM.field Tryz.underlying38 hw hf hn 2 rfl D_3.m;have e2: [a2]= [.int .i64 y2]:=e2;cases e2;obtain ⟨y3,e3,k3⟩:=RdM.field Tryz.underlying38 hw hf hn 3 rfl pX;obtain ⟨v3,e3,s3⟩:=e3;have e3: [a3]= [v3]:=e3;cases e3;exact ⟨⟨y0,y1,y2,y3⟩,⟨_,rfl,s3⟩,k0,k1,k2,k3⟩
def oU (xs:List aj):Prop:=xs.length≤reachBytes∧∀x∈xs,oS x
theorem pZ:RdM Tryz.prog 22 (RL bq) oU:=RdM.slice Tryz.underlying22 (by kernel_rfl) (by decide) (by rw [show Tryz.prog.bytesOf 38=48 by kernel_rfl]; decide) pW
def pV (x:af):Prop:=K_3 x.W∧K_3 x.H∧oU x.Ops
theorem pY:RdM Tryz.prog 24 iW pV:=by
 refine ⟨by kernel_rfl,fun {H enc w sp held fuel cs x} h hw=>?_⟩;obtain ⟨xs,n,rfl,rfl,hl,hn,hf⟩:=lx Tryz.underlying24 h;replace hl:=hl.trans (show Tryz.prog.cellsOf 24=3 by kernel_rfl);obtain ⟨a0,a1,a2,rfl⟩:=qj hl;obtain ⟨y0,e0,k0⟩:=RdM.field Tryz.underlying24 hw hf hn 0 rfl D_3.m;have e0: [a0]= [.int .i64 y0]:=e0;cases e0;obtain ⟨y1,e1,k1⟩:=RdM.field Tryz.underlying24 hw hf hn 1 rfl D_3.m;have e1: [a1]= [.int .i64 y1]:=e1;cases e1;obtain ⟨y2,e2,k2⟩:=RdM.field Tryz.underlying24 hw hf hn 2 rfl pZ;obtain ⟨v2,e2,s2⟩:=e2;have e2: [a2]= [v2]:=e2;cases e2;exact ⟨⟨y0,y1,y2⟩,⟨_,rfl,s2⟩,k0,k1,k2⟩
end Go.Proofs.YtmncdniojmigeaaGreatDoor
