/- Parts of the proofs of ConsoleGoesOn: the walk through the code, and plain Lean. No condition. -/
import Derived.Test.YtceciacilfhmjaaGreatDoorCoA
import Derived.Test.YtceciacilfhmjaaGreatDoorProg
import Derived.Test.YtceciacilfhmjaaGreatDoorCoC
import Derived.Test.YtceciacilfhmjaaGreatDoorCoB
import Derived.Shelf.Strings.Search2
import Derived.RangeFuncSeq
import Derived.RangeFuncRecord
import Derived.RangeFuncLeaves
import Derived.OpenShut
import Derived.LaidLaws
import Derived.Handed
import Derived.Lay
import Derived.JoinedOf
import Derived.KernelRfl
import Derived.Shelf.Vars
import Derived.ChangeMaps5
set_option linter.unusedVariables false
set_option linter.unusedSimpArgs false
namespace Go.Proofs.YtceciacilfhmjaaGreatDoor
open Go Go.Lt
set_option maxRecDepth 10000
set_option linter.unusedVariables false
attribute [local irreducible] W WL AC
open Tryz
variable {c0:Cx} {G:Gm} {F:List En} {sg:Sto} {v1 v2 v3 v4 v5 v6 v7 v8 v9 v10 v11 v12 v13 v14 v15 v16 v17 v18 v19 v20 v21 v22 v23 v24 v25 v26 v27 v28 v29 v30 v31 v32 v33 v34 v35 v36 v37 v38 v39 v40 v41 v42 v43 v44 v45 v46 v47 v48 v49 v50 v51 v52 v53 v54 v55 v56 v57 v58 v59 v60:Value}
def dq (p0:Int):Option ((List ByteArray)×Int):=
 if (p0==1)=true then
 some (([(⟨#[102,108,117,115,104]⟩:ByteArray)]:List ByteArray),0)
 else
 if (p0==2)=true then
 some (([(⟨#[109,111,118,101]⟩:ByteArray)]:List ByteArray),2)
 else
 if (p0==3)=true then
 some (([(⟨#[101,114,97,115,101]⟩:ByteArray),(⟨#[108,105,110,101]⟩:ByteArray)]:List ByteArray),1)
 else
 if (p0==4)=true then
 some (([(⟨#[101,114,97,115,101]⟩:ByteArray),(⟨#[115,99,114,101,101,110]⟩:ByteArray)]:List ByteArray),1)
 else
 if (p0==5)=true then
 some (([(⟨#[101,114,97,115,101]⟩:ByteArray),(⟨#[99,101,108,108,115]⟩:ByteArray)]:List ByteArray),1)
 else
 if (p0==6)=true then
 some (([(⟨#[105,110,115,101,114,116]⟩:ByteArray),(⟨#[99,101,108,108,115]⟩:ByteArray)]:List ByteArray),1)
 else
 if (p0==7)=true then
 some (([(⟨#[100,101,108,101,116,101]⟩:ByteArray),(⟨#[99,101,108,108,115]⟩:ByteArray)]:List ByteArray),1)
 else
 if (p0==8)=true then
 some (([(⟨#[105,110,115,101,114,116]⟩:ByteArray),(⟨#[108,105,110,101,115]⟩:ByteArray)]:List ByteArray),1)
 else
 if (p0==9)=true then
 some (([(⟨#[100,101,108,101,116,101]⟩:ByteArray),(⟨#[108,105,110,101,115]⟩:ByteArray)]:List ByteArray),1)
 else
 if (p0==10)=true then
 some (([(⟨#[115,99,114,111,108,108]⟩:ByteArray),(⟨#[117,112]⟩:ByteArray)]:List ByteArray),1)
 else
 if (p0==11)=true then
 some (([(⟨#[115,99,114,111,108,108]⟩:ByteArray),(⟨#[100,111,119,110]⟩:ByteArray)]:List ByteArray),1)
 else
 if (p0==13)=true then
 some (([(⟨#[114,101,115,105,122,101]⟩:ByteArray)]:List ByteArray),2)
 else
 some (([]:List ByteArray),0)
theorem lZ (b:Own c0 G F) (a:Int) {r:(List ByteArray)×Int} (H:dq a=some r):
    Calls prog 57 #[I a] c0.w (aO c0 fun c v=>∃d y2,Own c G (es true RS d 9 y2 r.1 :: F)∧v= .tuple #[d,I r.2]∧OA RS c d y2 r.1∧(r.1= []→d=Y)):=by
 unfold dq at H
 refine en func57 rfl rfl (sr (va (Y) (va (I 0) (wln (W.seq (sr (va (I a) (wln (W.block (sr (vv (B (a==1)) (wln (cn H (fun h1 H=>?_) (fun h1 H=>?_))))))))))))))
 ·refine sr (me (sl RS 9 [[.string (⟨#[102,108,117,115,104]⟩:ByteArray)]] ([(⟨#[102,108,117,115,104]⟩:ByteArray)]:List ByteArray) b ⟨rfl,trivial⟩) ?_)
  rintro v6 c5 l5 ⟨u3,O2,h4⟩
  refine va (v6) (va (I 0) (wln (W.ret (bkr (thr ?_)))))
  obtain rfl:=si H
  exact r2 (qq c5 ⟨v6,u3,O2,rfl,h4,(fun h=>by cases h)⟩)
 refine sr (vv (B (a==2)) (wln (cn H (fun h7 H=>?_) (fun h7 H=>?_))))
 ·refine sr (me (sl RS 9 [[.string (⟨#[109,111,118,101]⟩:ByteArray)]] ([(⟨#[109,111,118,101]⟩:ByteArray)]:List ByteArray) b ⟨rfl,trivial⟩) ?_)
  rintro v12 u s1 ⟨u9,O8,S⟩
  refine va (v12) (va (I 2) (wln (W.ret (bkr (thr ?_)))))
  obtain rfl:=si H
  exact r2 (qq u ⟨v12,u9,O8,rfl,S,(fun h=>by cases h)⟩)
 refine sr (vv (B (a==3)) (wln (cn H (fun T H=>?_) (fun T H=>?_))))
 ·refine sr (me (sl RS 9 [[.string (⟨#[101,114,97,115,101]⟩:ByteArray)],[.string (⟨#[108,105,110,101]⟩:ByteArray)]] ([(⟨#[101,114,97,115,101]⟩:ByteArray),(⟨#[108,105,110,101]⟩:ByteArray)]:List ByteArray) b ⟨rfl,rfl,trivial⟩) ?_)
  rintro v18 x t1 ⟨v0,i,U⟩
  refine va (v18) (va (I 1) (wln (W.ret (bkr (thr ?_)))))
  obtain rfl:=si H
  exact r2 (qq x ⟨v18,v0,i,rfl,U,(fun h=>by cases h)⟩)
 refine sr (vv (B (a==4)) (wln (cn H (fun X H=>?_) (fun X H=>?_))))
 ·refine sr (me (sl RS 9 [[.string (⟨#[101,114,97,115,101]⟩:ByteArray)],[.string (⟨#[115,99,114,101,101,110]⟩:ByteArray)]] ([(⟨#[101,114,97,115,101]⟩:ByteArray),(⟨#[115,99,114,101,101,110]⟩:ByteArray)]:List ByteArray) b ⟨rfl,rfl,trivial⟩) ?_)
  rintro v24 y u1 ⟨w0,j,Z⟩
  refine va (v24) (va (I 1) (wln (W.ret (bkr (thr ?_)))))
  obtain rfl:=si H
  exact r2 (qq y ⟨v24,w0,j,rfl,Z,(fun h=>by cases h)⟩)
 refine sr (vv (B (a==5)) (wln (cn H (fun a0 H=>?_) (fun a0 H=>?_))))
 ·refine sr (me (sl RS 9 [[.string (⟨#[101,114,97,115,101]⟩:ByteArray)],[.string (⟨#[99,101,108,108,115]⟩:ByteArray)]] ([(⟨#[101,114,97,115,101]⟩:ByteArray),(⟨#[99,101,108,108,115]⟩:ByteArray)]:List ByteArray) b ⟨rfl,rfl,trivial⟩) ?_)
  rintro v30 z v1 ⟨x0,k,b0⟩
  refine va (v30) (va (I 1) (wln (W.ret (bkr (thr ?_)))))
  obtain rfl:=si H
  exact r2 (qq z ⟨v30,x0,k,rfl,b0,(fun h=>by cases h)⟩)
 refine sr (vv (B (a==6)) (wln (cn H (fun d0 H=>?_) (fun d0 H=>?_))))
 ·refine sr (me (sl RS 9 [[.string (⟨#[105,110,115,101,114,116]⟩:ByteArray)],[.string (⟨#[99,101,108,108,115]⟩:ByteArray)]] ([(⟨#[105,110,115,101,114,116]⟩:ByteArray),(⟨#[99,101,108,108,115]⟩:ByteArray)]:List ByteArray) b ⟨rfl,rfl,trivial⟩) ?_)
  rintro v36 A w1 ⟨y0,l,e0⟩
  refine va (v36) (va (I 1) (wln (W.ret (bkr (thr ?_)))))
  obtain rfl:=si H
  exact r2 (qq A ⟨v36,y0,l,rfl,e0,(fun h=>by cases h)⟩)
 refine sr (vv (B (a==7)) (wln (cn H (fun f0 H=>?_) (fun f0 H=>?_))))
 ·refine sr (me (sl RS 9 [[.string (⟨#[100,101,108,101,116,101]⟩:ByteArray)],[.string (⟨#[99,101,108,108,115]⟩:ByteArray)]] ([(⟨#[100,101,108,101,116,101]⟩:ByteArray),(⟨#[99,101,108,108,115]⟩:ByteArray)]:List ByteArray) b ⟨rfl,rfl,trivial⟩) ?_)
  rintro v42 D x1 ⟨z0,m,g0⟩
  refine va (v42) (va (I 1) (wln (W.ret (bkr (thr ?_)))))
  obtain rfl:=si H
  exact r2 (qq D ⟨v42,z0,m,rfl,g0,(fun h=>by cases h)⟩)
 refine sr (vv (B (a==8)) (wln (cn H (fun h0 H=>?_) (fun h0 H=>?_))))
 ·refine sr (me (sl RS 9 [[.string (⟨#[105,110,115,101,114,116]⟩:ByteArray)],[.string (⟨#[108,105,110,101,115]⟩:ByteArray)]] ([(⟨#[105,110,115,101,114,116]⟩:ByteArray),(⟨#[108,105,110,101,115]⟩:ByteArray)]:List ByteArray) b ⟨rfl,rfl,trivial⟩) ?_)
  rintro v48 E z1 ⟨a1,n,i0⟩
  refine va (v48) (va (I 1) (wln (W.ret (bkr (thr ?_)))))
  obtain rfl:=si H
  exact r2 (qq E ⟨v48,a1,n,rfl,i0,(fun h=>by cases h)⟩)
 refine sr (vv (B (a==9)) (wln (cn H (fun j0 H=>?_) (fun j0 H=>?_))))
 ·refine sr (me (sl RS 9 [[.string (⟨#[100,101,108,101,116,101]⟩:ByteArray)],[.string (⟨#[108,105,110,101,115]⟩:ByteArray)]] ([(⟨#[100,101,108,101,116,101]⟩:ByteArray),(⟨#[108,105,110,101,115]⟩:ByteArray)]:List ByteArray) b ⟨rfl,rfl,trivial⟩) ?_)
  rintro v54 M b2 ⟨b1,o,k0⟩
  refine va (v54) (va (I 1) (wln (W.ret (bkr (thr ?_)))))
  obtain rfl:=si H
  exact r2 (qq M ⟨v54,b1,o,rfl,k0,(fun h=>by cases h)⟩)
 refine sr (vv (B (a==10)) (wln (cn H (fun l0 H=>?_) (fun l0 H=>?_))))
 ·refine sr (me (sl RS 9 [[.string (⟨#[115,99,114,111,108,108]⟩:ByteArray)],[.string (⟨#[117,112]⟩:ByteArray)]] ([(⟨#[115,99,114,111,108,108]⟩:ByteArray),(⟨#[117,112]⟩:ByteArray)]:List ByteArray) b ⟨rfl,rfl,trivial⟩) ?_)
  rintro v60 N c2 ⟨c1,p,m0⟩
  refine va (v60) (va (I 1) (wln (W.ret (bkr (thr ?_)))))
  obtain rfl:=si H
  exact r2 (qq N ⟨v60,c1,p,rfl,m0,(fun h=>by cases h)⟩)
 refine sr (vv (B (a==11)) (wln (cn H (fun o0 H=>?_) (fun o0 H=>?_))))
 ·refine sr (me (sl RS 9 [[.string (⟨#[115,99,114,111,108,108]⟩:ByteArray)],[.string (⟨#[100,111,119,110]⟩:ByteArray)]] ([(⟨#[115,99,114,111,108,108]⟩:ByteArray),(⟨#[100,111,119,110]⟩:ByteArray)]:List ByteArray) b ⟨rfl,rfl,trivial⟩) ?_)
  rintro f P d2 ⟨d1,q,q0⟩
  refine va (f) (va (I 1) (wln (W.ret (bkr (thr ?_)))))
  obtain rfl:=si H
  exact r2 (qq P ⟨f,d1,q,rfl,q0,(fun h=>by cases h)⟩)
 refine sr (vv (B (a==13)) (wln (cn H (fun s0 H=>?_) (fun s0 H=>?_))))
 ·refine sr (me (sl RS 9 [[.string (⟨#[114,101,115,105,122,101]⟩:ByteArray)]] ([(⟨#[114,101,115,105,122,101]⟩:ByteArray)]:List ByteArray) b ⟨rfl,trivial⟩) ?_)
  rintro g R e2 ⟨e1,s,t0⟩
  refine va (g) (va (I 2) (wln (W.ret (bkr (thr ?_)))))
  obtain rfl:=si H
  exact r2 (qq R ⟨g,e1,s,rfl,t0,(fun h=>by cases h)⟩)
 refine W.skip (bkn (nrm (sr (va (Y) (va (I 0) (wln (W.ret ?_)))))))
 obtain rfl:=si H
 have u0:OA RS c0 (Y) [] []:=OA.nil (aI _)
 have t:=b.addHole (e:=es true RS (Y) 9 [] ([]:List ByteArray)) rfl
 exact r2 (qq c0 ⟨(Y),[],t,rfl,u0,(fun _=>rfl)⟩)
def dg (p0:Int):Option (Er):=
 (qA p0 (Er.sent 6)).bind fun a=>
 some a
theorem fI (f:Own c0 G F) (hG:Gl [6] c0) (a:Int) {r:Er} (H:dg a=some r): Calls prog 68 #[I a] c0.w (aO c0 fun c v=>∃e,Own c G (F)∧v=e∧RE 318 126 c e r):=by
 unfold dg at H;refine en func68 rfl rfl (sr (va (.nilIface) (wln (sr (va (I a) ?_)))));obtain ⟨v1,d⟩:=hG.get 6 (by decide);refine vx (l1 qd d.im) (bn H fun k h H=>cl (uS f a (Er.sent 6) d h) ?_);rintro v4 b j ⟨_,g,rfl,i⟩;refine va (v4) (wln (W.ret ?_));obtain rfl:=si H;exact r1 (qq b ⟨v4,g,rfl,i⟩)
def kw (p0:ByteArray):Option ((List Int)×Bool):=
 if (eqS p0 (⟨#[45]⟩:ByteArray))=true then
 some (([]:List Int),true)
 else
 (orE ((bL p0)==0) (some (((bL p0).tmod 2) != 0))).bind fun e=>
 if e=true then
 some (([]:List Int),false)
 else
 (cV (σ:=(List Int)×Int) (τ:=((List Int)×Bool) ⊕ (List Int)) (((bL p0) - 0).toNat+1) (fun a=>
 if (decide (a.2 < (bL p0)))=true then
 (nb p0 a.2).bind fun g=>
 (nb p0 (w64 (a.2+1))).bind fun h=>
 (dR (⟨#[48,49,50,51,52,53,54,55,56,57,97,98,99,100,101,102]⟩:ByteArray) g).bind fun c=>
 (dR (⟨#[48,49,50,51,52,53,54,55,56,57,97,98,99,100,101,102]⟩:ByteArray) h).bind fun d=>
 (orE (decide (c < 0)) (some (decide (d < 0)))).bind fun f=>
 if f=true then
 some (.inr (.inl (([]:List Int),false)))
 else
 (app a.1 ([(IntKind.u8.wrap (gi .i64 (w64 (c * 2 ^ 4)) d))]:List Int)).bind fun i=>
 some (.inl (i,(w64 (a.2+2))))
 else
 some (.inr (.inr (a.1)))) (([]:List Int),0)).bind fun b=>
 match b with
 | .inl b=>
 some b
 | .inr b=>
 some (b,true)
theorem zh (X:Own c0 G F) (d:ByteArray) {r:(List Int)×Bool} (H:kw d=some r): Calls prog 99 #[.string d] c0.w (aO c0 fun c v=>∃y1 y2,Own c G (es true (RI .u8) y1 5 y2 r.1 :: F)∧v= .tuple #[y1,B r.2]∧OA (RI .u8) c y1 y2 r.1):=by
 unfold kw at H;refine en func99 rfl rfl (sr (va (Y) (va (B false) (wln (W.seq (sr (va (.string d) (vr (B (eqS d (⟨#[45]⟩:ByteArray))) (iE (by kernel_rfl)) (wln (cn H (fun h1 H=>?_) (fun h1 H=>?_)))))))))))
 ·refine sr (va (Y) (va (B true) (wln (W.ret (thr ?_)))));obtain rfl:=si H;have h3:OA (RI .u8) c0 (Y) [] []:=OA.nil (aI _);have O2:=X.addHole (e:=es true (RI .u8) (Y) 5 [] ([]:List Int)) rfl;exact r2 (qq c0 ⟨(Y),[],O2,rfl,h3⟩)
 refine W.skip (nrm (W.seq (W.seq (bn H fun Z h4 H=>W.join (Jn c0 fun c l=>Own c G (F)∧l= [(0,.string d),(18,B Z)]) ?_ ?_))))
 ·clear H;refine W.region (va (.string d) (vr (I (bL d)) (rx (by kernel_rfl) (dP (ty:=3) u_9 _)) (va (B ((bL d)==0)) ?_)));rcases bo ((bL d)==0) with u | u
  ·obtain rfl:=orT u h4;exact vb u (pz (pz (va (B true) (wln (jn c0 ⟨X,rfl⟩)))))
  have H6:=orF u h4;refine vb u (wa (.string d) (wn (vr (I (bL d)) (rx (by kernel_rfl) (dP (ty:=3) u_9 _)) (wa (I ((bL d).tmod 2)) (wa (B (((bL d).tmod 2) != 0)) ?_)))));obtain rfl:=si H6;exact va (B (((bL d).tmod 2) != 0)) (wln (jn c0 ⟨X,rfl⟩))
 rintro A D ⟨i,g8,_,rfl,l7,rfl,O9,rfl⟩;refine nrm (cn H (fun d1 H=>?_) (fun d1 H=>?_))
 ·refine sr (va (Y) (va (B false) (wln (W.ret (thr ?_)))));obtain rfl:=si H;have e1:OA (RI .u8) i (Y) [] []:=OA.nil (aI _);have f0:=O9.addHole (e:=es true (RI .u8) (Y) 5 [] ([]:List Int)) rfl;exact r2 (qq i ⟨(Y),[],f0,rfl,e1⟩)
 refine W.skip (nrm (sr (va (Y) (wln (W.seq (sr (va (I 0) (wln (W.block (bn H fun j R s=>lp R (fun a=>Jn i fun c l=>∃v18 h,Own c G (es true (RI .u8) v18 5 h a.1 :: F)∧l= [(0,.string d),(4,v18),(5,I a.2)]∧OA (RI .u8) c v18 h a.1) (fun t=>match t with | .inl x_=>(fun x ex e w=>ex= .ret∧(Jn i fun c l=>∃v22 q,Own c G (es true (RI .u8) v22 5 q x.1 :: F)∧l= [(2,v22),(3,B x.2)]∧OA (RI .u8) c v22 q x.1) e w) x_ | .inr x_=>(fun o ex e w=>ex= .exit 0∧(Jn i fun c l=>∃v20 p,Own c G (es true (RI .u8) v20 5 p o :: F)∧l= [(4,v20)]∧OA (RI .u8) c v20 p o) e w) x_) ?_ ?_ ?_))))))))))
 ·clear s R;intro a j3 b1 f2 H;revert b1 f2;rintro A D ⟨v0,p2,_,rfl,u2,rfl,v18,h,E,rfl,S⟩;refine W.seq (sr (va (I a.2) (va (.string d) (vr (I (bL d)) (rx (by kernel_rfl) (dP (ty:=3) u_9 _)) (va (B (decide (a.2 < (bL d)))) (wln (cn H (fun f1 H=>?_) (fun f1 H=>?_))))))))
  ·refine W.skip (nrm (W.seq (W.block (W.seq (rD [] (Kp G0 []) E ?_)))));intro w0 v2 g0;have f3:Kp G0 [] w0:=Kp.nil0;refine ta 0 (.string d) (ta 1 (I a.2) (bn H fun y g1 H=>AC.take 2 (.int .u8 y) rfl (by kernel_rfl) (by kernel_rfl) (fun c' b2=>(rx (by kernel_rfl) (iy (k:= .i64) u_9 g1 _))) (ta 4 (.string d) (ta 5 (I a.2) (ta 6 (I (w64 (a.2+1))) (bn H fun z i1 H=>AC.take 7 (.int .u8 z) rfl (by kernel_rfl) (by kernel_rfl) (fun c' b2=>(rx (by kernel_rfl) (iy (k:= .i64) u_9 i1 _))) (bn H fun b j1 H=>o1 3 (gc 3 (nj g0 (⟨#[48,49,50,51,52,53,54,55,56,57,97,98,99,100,101,102]⟩:ByteArray) y j1) ?_))))))));rintro v43 x0 w2 ⟨h0,rfl⟩;have c2:Kp G0 [] x0:=Kp.nil0;refine ⟨.inr c2,bn H fun f m1 H=>o1 8 (gc 8 (nj h0 (⟨#[48,49,50,51,52,53,54,55,56,57,97,98,99,100,101,102]⟩:ByteArray) z m1) ?_)⟩;rintro v51 n x2 ⟨M,rfl⟩;have d2:Kp G0 [] n:=Kp.nil0;refine ⟨.inr d2,ta 9 (I b) (ta 10 (I f) (dn (nrm (W.seq (W.seq (bn H fun a0 T H=>W.join (Jn n fun c l=>Own c G (es true (RI .u8) v18 5 h a.1 :: F)∧l= [(0,.string d),(4,v18),(5,I a.2),(6,I b),(7,I f),(39,B a0)]) ?_ ?_))))))⟩
   ·clear H;refine W.region (va (I b) (va (B (decide (b < 0))) ?_));rcases bo (decide (b < 0)) with g | g
    ·obtain rfl:=orT g T;exact vb g (pz (va (B true) (wln (jn n ⟨M,rfl⟩))))
    have e0:=orF g T;refine vb g (wa (I f) (wa (B (decide (f < 0))) ?_));obtain rfl:=si e0;exact va (B (decide (f < 0))) (wln (jn n ⟨M,rfl⟩))
   rintro A D ⟨P,q2,_,rfl,z2,rfl,N,rfl⟩;refine nrm (cn H (fun n1 H=>?_) (fun n1 H=>?_))
   ·refine sr (va (Y) (va (B false) (wln (W.ret (thr (bkr (thr ?_)))))));obtain rfl:=si H;refine ⟨_,rfl,⟨rfl,?_⟩⟩;have p1:OA (RI .u8) P (Y) [] []:=OA.nil (aI _);have i0:=N.addHole (e:=es true (RI .u8) (Y) 5 [] ([]:List Int)) rfl;have j0:=i0.sD 2 [0];exact jn P ⟨(Y),[],j0,rfl,p1⟩
   refine W.skip (nrm (W.region (va (v18) (va (I b) (va (I (w64 (b * 2 ^ 4))) (va (I f) (va (I (gi .i64 (w64 (b * 2 ^ 4)) f)) (va (.int .u8 (IntKind.u8.wrap (gi .i64 (w64 (b * 2 ^ 4)) f))) (me (sl (RI .u8) 5 [[.int .u8 (IntKind.u8.wrap (gi .i64 (w64 (b * 2 ^ 4)) f))]] ([(IntKind.u8.wrap (gi .i64 (w64 (b * 2 ^ 4)) f))]:List Int) N ⟨rfl,trivial⟩) ?_)))))))));rintro i3 n2 a3 ⟨g3,k0,q1⟩;obtain ⟨o2,t1,b3,l0,s1⟩:=k0.frz 0 rfl q1;refine WL.gh t1 (bn H fun m2 u1 H=>me (ap (RI .u8) (.int .u8 0) 1 31 1 l0 S.m s1 u1 mZ) ?_);rintro U y0 c3 ⟨e2,m0,v1⟩;refine va (U) (WL.nil (bkn (nrm (W.region (va (I a.2) (vv (I (w64 (a.2+2))) (WL.nil ?_)))))));obtain rfl:=si H;refine ⟨_,rfl,?_⟩;have o0:=m0.sD 2 [1];exact jn y0 ⟨U,e2,o0,rfl,v1⟩
  refine W.exit (thx ?_);obtain rfl:=si H;exact ⟨_,rfl,rfl,jn v0 ⟨v18,h,E,rfl,S⟩⟩
 ·have w1:OA (RI .u8) i (Y) [] []:=OA.nil (aI _);have q0:=O9.addHole (e:=es true (RI .u8) (Y) 5 [] ([]:List Int)) rfl;exact jn i ⟨(Y),[],q0,rfl,w1⟩
 rcases j with j | j
 ·intro c1; revert c1;rintro _ A D ⟨rfl,z0,s2,_,rfl,d3,rfl,v22,q,s0,rfl,x1⟩;refine bkr (thr ?_);obtain rfl:=si s;exact r2 (qq z0 ⟨v22,q,s0,rfl,x1⟩)
 rintro _ A D ⟨rfl,a1,t2,_,rfl,e3,rfl,v20,p,u0,rfl,z1⟩;refine bke (nrm (sr (vv (v20) (va (B true) (wln (W.ret ?_))))));obtain rfl:=si s;exact r2 (qq a1 ⟨v20,p,u0,rfl,z1⟩)
def jI (p0:List ByteArray):Option (ba×Er):=
 if (decide ((p0.length:Int) < 2))=true then
 (dg 1).bind fun e=>
 some ((⟨0,0,0,([]:List Int)⟩:ba),e)
 else
 (idx p0 1).bind fun b=>
 (kw b).bind fun a=>
 if (!a.2)=true then
 (dg 1).bind fun c=>
 some ((⟨0,0,0,([]:List Int)⟩:ba),c)
 else
 if (decide ((p0.length:Int) > 2))=true then
 (dg 2).bind fun d=>
 some ((⟨0,0,0,([]:List Int)⟩:ba),d)
 else
 some ((⟨0,0,0,a.1⟩:ba),Er.nil)
theorem xx (O0:Own c0 G F) (hG:Gl [6] c0) (l:List ByteArray) {r:ba×Er} (n:Sl RS c0 v1 l) (H:jI l=some r): Calls prog 65 #[v1] c0.w (aO c0 fun c v=>∃y y2 y3,Own c G (es true (RI .u8) y 5 y2 r.1.Bytes :: F)∧v= .tuple #[.agg #[I r.1.Kind,I r.1.A,I r.1.B,y],y3]∧OA (RI .u8) c y y2 r.1.Bytes∧RE 318 126 c y3 r.2):=by
 unfold jI at H;refine en func65 rfl rfl (sr (me (al 81 [I 0,I 0,I 0,Y] O0) ?_));rintro v6 c5 l5 ⟨b3,rfl,M⟩;refine va (.nilIface) (wln (W.seq (sr (va (v1) (vx (ln 3 nq n.m) (va (B (decide ((l.length:Int) < 2))) (wln (cn H (fun h7 H=>?_) (fun h7 H=>?_)))))))))
 ·refine sr (va (.agg #[I 0,I 0,I 0,Y]) (bn H fun n1 h8 H=>cl (fI M (hG.m.le (by decide)) 1 h8) ?_));rintro v9 a1 e1 ⟨_,z,rfl,Z⟩;refine md (sA 81 [I 0,I 0,I 0,Y] 0 z ⟨rfl,rfl,rfl,rfl,trivial⟩) ?_;rintro h f1 D;refine va (v9) (wln (W.ret (thr ?_)));obtain rfl:=si H;have a0:OA (RI .u8) h (Y) [] []:=OA.nil (aI _);have o:=D.addHole (e:=es true (RI .u8) (Y) 5 [] ([]:List Int)) rfl;have E:=o.sD 2 [0];exact kK (c:=h) (vs:=[I 0,I 0,I 0,Y]) (v:=v9) rfl (by kernel_rfl) (by kernel_rfl) (by kernel_rfl) (by kernel_rfl) (o.on 1 rfl _ rfl).1 ⟨_,h,rfl,rfl,pt,(Y),[],v9,E,rfl,a0,Z.m⟩
 refine W.skip (nrm (sr (va (v1) (bn H fun x u H=>?_))));obtain ⟨x0,b0,m0⟩:=Sl.at (n.mono l5) (bW u);obtain rfl:=b0;refine vx (ix nq n.m u) (vx (l1 u_9 (m0 0 _ rfl)) (bn H fun a d0 H=>cl (zh M x d0) ?_));rintro v35 b1 g1 ⟨v27,o0,g,rfl,k⟩;refine va (.tuple #[v27,B a.2]) (va (v27) (va (B a.2) (va (v27) (va (B a.2) (wln (W.seq (W.block (sr (va (B a.2) (vv (B (!a.2)) (wln (cn H (fun e0 H=>?_) (fun e0 H=>?_)))))))))))))
 ·refine sr (va (.agg #[I 0,I 0,I 0,Y]) (bn H fun y0 f0 H=>cl (fI g (hG.m.le (by decide)) 1 f0) ?_));rintro v38 c1 h1 ⟨_,N,rfl,g0⟩;refine md (sA 81 [I 0,I 0,I 0,Y] 1 N ⟨rfl,rfl,rfl,rfl,trivial⟩) ?_;rintro i i1 P;refine va (v38) (wln (W.ret (bkr (thr ?_))));obtain rfl:=si H;have h0:OA (RI .u8) i (Y) [] []:=OA.nil (aI _);have p:=P.addHole (e:=es true (RI .u8) (Y) 5 [] ([]:List Int)) rfl;have R:=p.sD 3 [0];exact kK (c:=i) (vs:=[I 0,I 0,I 0,Y]) (v:=v38) rfl (by kernel_rfl) (by kernel_rfl) (by kernel_rfl) (by kernel_rfl) (p.on 2 rfl _ rfl).1 ⟨_,i,rfl,rfl,pt,(Y),[],v38,R,rfl,h0,g0.m⟩
 refine sr (va (v1) (vx (ln 3 nq n.m) (vv (B (decide ((l.length:Int) > 2))) (wln (cn H (fun i0 H=>?_) (fun i0 H=>?_))))))
 ·refine sr (va (.agg #[I 0,I 0,I 0,Y]) (bn H fun z0 j0 H=>cl (fI g (hG.m.le (by decide)) 2 j0) ?_));rintro v53 d1 j1 ⟨_,S,rfl,k0⟩;refine md (sA 81 [I 0,I 0,I 0,Y] 1 S ⟨rfl,rfl,rfl,rfl,trivial⟩) ?_;rintro j k1 T;refine va (v53) (wln (W.ret (bkr (thr ?_))));obtain rfl:=si H;have l0:OA (RI .u8) j (Y) [] []:=OA.nil (aI _);have q:=T.addHole (e:=es true (RI .u8) (Y) 5 [] ([]:List Int)) rfl;have U:=q.sD 3 [0];exact kK (c:=j) (vs:=[I 0,I 0,I 0,Y]) (v:=v53) rfl (by kernel_rfl) (by kernel_rfl) (by kernel_rfl) (by kernel_rfl) (q.on 2 rfl _ rfl).1 ⟨_,j,rfl,rfl,pt,(Y),[],v53,U,rfl,l0,k0.m⟩
 refine W.skip (bkn (nrm (sr (va (v27) ?_))));obtain ⟨b,d,f,rfl⟩:=(k).form;refine va (.agg #[I 0,I 0,I 0,.slice b d f]) (md (sA 81 [I 0,I 0,I 0,.slice b d f] 1 g ⟨rfl,rfl,rfl,(k).one,trivial⟩) ?_);rintro t m1 s;refine va (.nilIface) (wln (W.ret ?_));obtain rfl:=si H;have X:=s.sD 2 [0];exact kK (c:=t) (vs:=[I 0,I 0,I 0,.slice b d f]) (v:= .nilIface) rfl (by kernel_rfl) (by kernel_rfl) (by kernel_rfl) (by kernel_rfl) (s.on 1 rfl _ rfl).1 ⟨_,t,rfl,rfl,pt,(.slice b d f),o0,.nilIface,X,rfl,k.m,rfl⟩
def iA (p0:List ByteArray):Option (ba×Er):=
 (orE (decide ((p0.length:Int) < 2)) ((idx p0 1).bind fun b=>
 (bX (!(eqS b (⟨#[111,110]⟩:ByteArray))) ((idx p0 1).bind fun c=>
 some (!(eqS c (⟨#[111,102,102]⟩:ByteArray))))).bind fun a=>
 some a)).bind fun g=>
 if g=true then
 (dg 1).bind fun d=>
 some ((⟨0,0,0,([]:List Int)⟩:ba),d)
 else
 if (decide ((p0.length:Int) > 2))=true then
 (dg 2).bind fun e=>
 some ((⟨0,0,0,([]:List Int)⟩:ba),e)
 else
 (idx p0 1).bind fun f=>
 if (eqS f (⟨#[111,110]⟩:ByteArray))=true then
 some ((⟨12,1,0,([]:List Int)⟩:ba),Er.nil)
 else
 some ((⟨12,0,0,([]:List Int)⟩:ba),Er.nil)
theorem xu (O0:Own c0 G F) (hG:Gl [6] c0) (h:List ByteArray) {r:ba×Er} (d:Sl RS c0 v1 h) (H:iA h=some r): Calls prog 66 #[v1] c0.w (aO c0 fun c v=>∃S y2 y3,Own c G (es true (RI .u8) S 5 y2 r.1.Bytes :: F)∧v= .tuple #[.agg #[I r.1.Kind,I r.1.A,I r.1.B,S],y3]∧OA (RI .u8) c S y2 r.1.Bytes∧RE 318 126 c y3 r.2):=by
 unfold iA at H;refine en func66 rfl rfl (sr (me (al 81 [I 0,I 0,I 0,Y] O0) ?_));rintro v6 t R ⟨b3,rfl,P⟩;refine va (.nilIface) (wln (W.seq (W.block (W.seq (bn H fun i0 h7 H=>W.join (Jn t fun c l=>Own c G ((Eb b3 81 [I 0,I 0,I 0,Y]) :: F)∧l= [(0,v1),(2,Q b3),(4,B i0)]) ?_ ?_)))))
 ·clear H;refine W.region (va (v1) (vx (ln 3 nq d.m) (va (B (decide ((h.length:Int) < 2))) ?_)));rcases bo (decide ((h.length:Int) < 2)) with p | p
  ·obtain rfl:=orT p h7;exact vb p (pz (pz (pz (pz (pz (vv (B true) (wln (jn t ⟨P,rfl⟩))))))))
  have g:=orF p h7;refine vb p (wa (v1) (wn (bn g fun q D g=>?_)));obtain ⟨j1,j0,c1⟩:=Sl.at (d.mono R) (bW D);obtain rfl:=j0;refine vx (ix nq d.m D) (wn (vx (l1 u_9 (c1 0 _ rfl)) (wn (vr (B (!(eqS q (⟨#[111,110]⟩:ByteArray)))) (vp (by kernel_rfl)) (wn (bn g fun i1 E g=>?_))))));rcases bo (!(eqS q (⟨#[111,110]⟩:ByteArray))) with b | b
  ·have i:=anT b E;refine vb b (wa (v1) (wn (bn i fun a M i=>?_)));obtain ⟨k1,k0,d1⟩:=Sl.at (d.mono R) (bW M);obtain rfl:=k0;refine vx (ix nq d.m M) (wn (vx (l1 u_9 (d1 0 _ rfl)) (wn (vr (B (!(eqS a (⟨#[111,102,102]⟩:ByteArray)))) (vp (by kernel_rfl)) (wn ?_)))));obtain rfl:=si i;refine va (B (!(eqS a (⟨#[111,102,102]⟩:ByteArray)))) ?_;obtain rfl:=si g;exact vv (B (!(eqS a (⟨#[111,102,102]⟩:ByteArray)))) (wln (jn t ⟨P,rfl⟩))
  obtain rfl:=anF b E;refine vb b (pz (pz (wa (B false) ?_)));obtain rfl:=si g;exact vv (B false) (wln (jn t ⟨P,rfl⟩))
 rintro e_ w_ ⟨q1,u1,_,rfl,b1,rfl,f,rfl⟩;refine nrm (cn H (fun l0 H=>?_) (fun l0 H=>?_))
 ·refine sr (va (.agg #[I 0,I 0,I 0,Y]) (bn H fun n1 m0 H=>cl (fI f (hG.m.le (by decide)) 1 m0) ?_));rintro v29 s1 w1 ⟨_,T,rfl,o0⟩;refine md (sA 81 [I 0,I 0,I 0,Y] 0 T ⟨rfl,rfl,rfl,rfl,trivial⟩) ?_;rintro j x1 U;refine va (v29) (wln (W.ret (bkr (thr ?_))));obtain rfl:=si H;have q0:OA (RI .u8) j (Y) [] []:=OA.nil (aI _);have u:=U.addHole (e:=es true (RI .u8) (Y) 5 [] ([]:List Int)) rfl;have X:=u.sD 2 [0];exact kK (c:=j) (vs:=[I 0,I 0,I 0,Y]) (v:=v29) rfl (by kernel_rfl) (by kernel_rfl) (by kernel_rfl) (by kernel_rfl) (u.on 1 rfl _ rfl).1 ⟨_,j,rfl,rfl,pt,(Y),[],v29,X,rfl,q0,o0.m⟩
 refine sr (va (v1) (vx (ln 3 nq d.m) (vv (B (decide ((h.length:Int) > 2))) (wln (cn H (fun s0 H=>?_) (fun s0 H=>?_))))))
 ·refine sr (va (.agg #[I 0,I 0,I 0,Y]) (bn H fun p1 t0 H=>cl (fI f (hG.m.le (by decide)) 2 t0) ?_));rintro v44 t1 z1 ⟨_,Z,rfl,u0⟩;refine md (sA 81 [I 0,I 0,I 0,Y] 0 Z ⟨rfl,rfl,rfl,rfl,trivial⟩) ?_;rintro k b2 a0;refine va (v44) (wln (W.ret (bkr (thr ?_))));obtain rfl:=si H;have v0:OA (RI .u8) k (Y) [] []:=OA.nil (aI _);have x:=a0.addHole (e:=es true (RI .u8) (Y) 5 [] ([]:List Int)) rfl;have b0:=x.sD 2 [0];exact kK (c:=k) (vs:=[I 0,I 0,I 0,Y]) (v:=v44) rfl (by kernel_rfl) (by kernel_rfl) (by kernel_rfl) (by kernel_rfl) (x.on 1 rfl _ rfl).1 ⟨_,k,rfl,rfl,pt,(Y),[],v44,b0,rfl,v0,u0.m⟩
 refine sr (va (v1) (bn H fun s N H=>?_));obtain ⟨m1,w0,e1⟩:=Sl.at (d.mono (R.trans b1)) (bW N);obtain rfl:=w0;refine vx (ix nq d.m N) (vx (l1 u_9 (e1 0 _ rfl)) (vr (B (eqS s (⟨#[111,110]⟩:ByteArray))) (iE (by kernel_rfl)) (va (B (eqS s (⟨#[111,110]⟩:ByteArray))) (wln (cn H (fun x0 H=>?_) (fun x0 H=>?_))))))
 ·refine sr (va (.agg #[I 12,I 1,I 0,Y]) (md (sA 81 [I 12,I 1,I 0,Y] 0 f ⟨rfl,rfl,rfl,rfl,trivial⟩) ?_));rintro n c2 d0;refine va (.nilIface) (wln (W.ret (bkr (thr ?_))));obtain rfl:=si H;have y0:OA (RI .u8) n (Y) [] []:=OA.nil (aI _);have y:=d0.addHole (e:=es true (RI .u8) (Y) 5 [] ([]:List Int)) rfl;have e0:=y.sD 2 [0];exact kK (c:=n) (vs:=[I 12,I 1,I 0,Y]) (v:= .nilIface) rfl (by kernel_rfl) (by kernel_rfl) (by kernel_rfl) (by kernel_rfl) (y.on 1 rfl _ rfl).1 ⟨_,n,rfl,rfl,pt,(Y),[],.nilIface,e0,rfl,y0,rfl⟩
 refine W.skip (bkn (nrm (sr (va (.agg #[I 12,I 0,I 0,Y]) (md (sA 81 [I 12,I 0,I 0,Y] 0 f ⟨rfl,rfl,rfl,rfl,trivial⟩) ?_)))));rintro o d2 f0;refine va (.nilIface) (wln (W.ret ?_));obtain rfl:=si H;have a1:OA (RI .u8) o (Y) [] []:=OA.nil (aI _);have z:=f0.addHole (e:=es true (RI .u8) (Y) 5 [] ([]:List Int)) rfl;have g0:=z.sD 2 [0];exact kK (c:=o) (vs:=[I 12,I 0,I 0,Y]) (v:= .nilIface) rfl (by kernel_rfl) (by kernel_rfl) (by kernel_rfl) (by kernel_rfl) (z.on 1 rfl _ rfl).1 ⟨_,o,rfl,rfl,pt,(Y),[],.nilIface,g0,rfl,a1,rfl⟩
def gX (p0:List ByteArray) (p1:List ByteArray):Option (Int):=
 (cV (σ:=Int) (τ:=Int) (((p1.length:Int) - 0).toNat+1) (fun a=>
 (bX (decide (a < (p1.length:Int))) (some (decide (a < (p0.length:Int))))).bind fun b=>
 (bX b ((idx p0 a).bind fun d=>
 (idx p1 a).bind fun e=>
 some (eqS d e))).bind fun c=>
 if c=true then
 some (.inl ((w64 (a+1))))
 else
 some (.inr (a))) (0)).bind fun f=>
 some f
theorem vi (O0:Own c0 G F) (n:List ByteArray) (q:List ByteArray) {r:Int} (M:Sl RS c0 v1 n) (N:Sl RS c0 v3 q) (H:gX n q=some r): Calls prog 100 #[v1,v3] c0.w (aO c0 fun c v=>Own c G (F)∧v=I r):=by
 unfold gX at H;refine en func100 rfl rfl (sr (va (I 0) (wln (sr (va (I 0) (wln (W.seq (W.block (bn H fun D h5 S=>lp h5 (fun a=>Jn c0 fun c l=>Own c G (F)∧l= [(0,v1),(1,v3),(5,I a)]) (fun P ex e w=>ex= .exit 0∧(Jn c0 fun c l=>Own c G (F)∧l= [(5,I P)]) e w) ?_ ?_ ?_)))))))))
 ·clear S h5;intro a y0 Z j0 H;revert Z j0;rintro X w_ ⟨c7,g8,_,rfl,l7,rfl,O9,rfl⟩;refine W.seq (W.seq (bn H fun o0 u H=>bn H fun E k H=>W.join (Jn c7 fun c l=>Own c G (F)∧l= [(0,v1),(1,v3),(5,I a),(26,B E)]) ?_ ?_))
  ·clear H;refine rD [] (Kp G0 []) O9 ?_;intro i A j;have x0:Kp G0 [] i:=Kp.nil0;refine ta 0 (I a) (ta 1 (v3) (tx 2 (fun d b=>ln 3 nq N.m) (ta 3 (B (decide (a < (q.length:Int)))) ?_)));rcases bo (decide (a < (q.length:Int))) with g | g
   ·have R:=anT g u;refine AC.takeb 4 g rfl (by kernel_rfl) (by kernel_rfl) (fun d b=>(by kernel_rfl)) (ta 5 (I a) (ta 6 (v1) (tx 7 (fun d b=>ln 3 nq M.m) (ta 8 (B (decide (a < (n.length:Int)))) ?_))));obtain rfl:=si R;refine ta 9 (B (decide (a < (n.length:Int)))) ?_;rcases bo (decide (a < (n.length:Int))) with h | h
    ·have f:=anT h k;refine bn f fun o x f=>bn f fun p y f=>AC.takeb 10 h rfl (by kernel_rfl) (by kernel_rfl) (fun d b=>(by kernel_rfl)) (ta 11 (v1) (ta 12 (I a) ?_));obtain ⟨q0,a0,g0⟩:=Sl.at (M.mono (l7.trans A)) (bW x);obtain rfl:=a0;refine tx 13 (fun d b=>ix nq M.m x) (tx 14 (fun d b=>l1 u_9 ((mm g0) 0 _ rfl)) (ta 15 (v3) (ta 16 (I a) ?_)));obtain ⟨s0,b0,h0⟩:=Sl.at (N.mono (l7.trans A)) (bW y);obtain rfl:=b0;refine tx 17 (fun d b=>ix nq N.m y) (tx 18 (fun d b=>l1 u_9 ((mm h0) 0 _ rfl)) (AC.take 19 (B (eqS o p)) rfl (by kernel_rfl) (by kernel_rfl) (fun d b=>(iE (by kernel_rfl))) ?_));obtain rfl:=si f;exact ta 20 (B (eqS o p)) (dn (nrm (jn i ⟨j,rfl⟩)))
    obtain rfl:=anF h k;exact AC.takeb 10 h rfl (by kernel_rfl) (by kernel_rfl) (fun d b=>(by kernel_rfl)) (tp 11 (tp 12 (tp 13 (tp 14 (tp 15 (tp 16 (tp 17 (tp 18 (tp 19 (ta 20 (B false) (dn (nrm (jn i ⟨j,rfl⟩)))))))))))))
   obtain rfl:=anF g u;refine AC.takeb 4 g rfl (by kernel_rfl) (by kernel_rfl) (fun d b=>(by kernel_rfl)) (tp 5 (tp 6 (tp 7 (tp 8 (ta 9 (B false) ?_)))));have z:false=false:=rfl;obtain rfl:=anF z k;exact AC.takeb 10 z rfl (by kernel_rfl) (by kernel_rfl) (fun d b=>(by kernel_rfl)) (tp 11 (tp 12 (tp 13 (tp 14 (tp 15 (tp 16 (tp 17 (tp 18 (tp 19 (ta 20 (B false) (dn (nrm (jn i ⟨j,rfl⟩)))))))))))))
  rintro X w_ ⟨t,t0,_,rfl,v0,rfl,s,rfl⟩;refine nrm (cn H (fun d0 H=>?_) (fun d0 H=>?_))
  ·refine W.skip (nrm (W.block (W.region (va (I a) (vv (I (w64 (a+1))) (WL.nil (bkn ?_)))))));obtain rfl:=si H;exact ⟨_,rfl,jn t ⟨s,rfl⟩⟩
  refine W.exit (thx ?_);obtain rfl:=si H;exact ⟨_,rfl,rfl,jn t ⟨s,rfl⟩⟩
 ·exact jn c0 ⟨O0,rfl⟩
 rintro _ X w_ ⟨rfl,U,u0,_,rfl,w0,rfl,T,rfl⟩;refine bke (nrm (sr (vv (I D) (wln (W.ret ?_)))));obtain rfl:=si S;exact r1 (qq U ⟨T,rfl⟩)
def jH (p0:List ByteArray):Option (Int×Int×Bool):=
 (cV (σ:=Int×Int) (τ:=(Int×Int×Bool) ⊕ Int) (((13:Int) - 1).toNat+2) (fun a=>
 if (decide (a.2≤13))=true then
 (dq a.2).bind fun c=>
 (gX p0 c.1).bind fun d=>
 (bX (decide ((c.1.length:Int) > 0)) (some (d==(c.1.length:Int)))).bind fun e=>
 if e=true then
 some (.inr (.inl (a.2,d,true)))
 else
 some (.inl ((aS a.1 d),(w64 (a.2+1))))
 else
 some (.inr (.inr (a.1)))) (0,1)).bind fun b=>
 match b with
 | .inl b=>
 some b
 | .inr b=>
 some (0,b,false)
theorem xv (O0:Own c0 G F) (y:List ByteArray) {r:Int×Int×Bool} (h2:Sl RS c0 v1 y) (H:jH y=some r): Calls prog 67 #[v1] c0.w (aO c0 fun c v=>Own c G (F)∧v= .tuple #[I r.1,I r.2.1,B r.2.2]):=by
 unfold jH at H;refine en func67 rfl rfl (sr (vv (I 0) (va (B false) (wln (sr (va (I 0) (wln (W.seq (sr (va (I 1) (wln (W.block (bn H fun g h3 q=>lp h3 (fun a=>Jn c0 fun c l=>Own c G (F)∧l= [(0,v1),(5,I a.1),(6,I a.2)]) (fun t=>match t with | .inl A=>(fun j ex e w=>ex= .ret∧(Jn c0 fun c l=>Own c G (F)∧l= [(2,I j.1),(3,I j.2.1),(4,B j.2.2)]) e w) A | .inr A=>(fun x ex e w=>ex= .exit 0∧(Jn c0 fun c l=>Own c G (F)∧l= [(5,I x)]) e w) A) ?_ ?_ ?_)))))))))))))
 ·clear q h3;intro a c1 Z k0 H;revert Z k0;rintro u z ⟨c5,g6,_,rfl,l5,rfl,T,rfl⟩;refine W.seq (sr (va (I a.2) (va (B (decide (a.2≤13))) (wln (cn H (fun b0 H=>?_) (fun b0 H=>?_))))))
  ·refine W.skip (nrm (W.seq (W.block (sr (va (I a.2) (bn H fun d d0 H=>cl (lZ T a.2 d0) ?_))))));rintro v22 q0 w0 ⟨v13,j0,E,rfl,i,d1⟩;refine va (.tuple #[v13,I d.2]) (va (v13) (va (I d.2) (va (v13) (va (I d.2) (wln (sr (va (v1) (va (v13) ?_))))))));obtain ⟨s0,f0,x0,M,e0⟩:=E.frz 0 rfl i;refine WL.gh f0 (bn H fun b g0 H=>cl (vi M y d.1 h2.m e0 g0) ?_);rintro v33 h y0 ⟨k,rfl⟩;refine va (I b) (wln (W.seq (W.seq (bn H fun s p H=>W.join (Jn h fun c l=>Own c G (es false RS v13 9 j0 d.1 :: F)∧l= [(0,v1),(5,I a.1),(6,I a.2),(9,I b),(30,B s)]) ?_ ?_))))
   ·clear H;refine W.region (va (v13) (vx (lnO 3 nq i.m) (va (B (decide ((d.1.length:Int) > 0))) ?_)));rcases bo (decide ((d.1.length:Int) > 0)) with f | f
    ·have D:=anT f p;refine vb f (wa (I b) (wa (v13) (wn (vx (lnO 3 nq i.m) (wa (B (b==(d.1.length:Int))) ?_)))));obtain rfl:=si D;exact va (B (b==(d.1.length:Int))) (wln (jn h ⟨k,rfl⟩))
    obtain rfl:=anF f p;exact vb f (pz (pz (va (B false) (wln (jn h ⟨k,rfl⟩)))))
   rintro u z ⟨o,t0,_,rfl,z0,rfl,n,rfl⟩;refine nrm (cn H (fun i0 H=>?_) (fun i0 H=>?_))
   ·refine sr (va (I a.2) (va (I b) (va (I a.2) (va (I b) (va (B true) (wln (W.ret (thr (bkr (thr ?_))))))))));obtain rfl:=si H;refine ⟨_,rfl,⟨rfl,?_⟩⟩;have N:=n.sD 1 [];exact jn o ⟨N,rfl⟩
   refine W.skip (nrm (W.region (va (I a.1) (va (I b) (vv (I (aS a.1 b)) (WL.nil (bkn (nrm (W.region (va (I a.2) (vv (I (w64 (a.2+1))) (WL.nil ?_))))))))))));obtain rfl:=si H;refine ⟨_,rfl,?_⟩;have P:=n.sD 1 [];exact jn o ⟨P,rfl⟩
  refine W.exit (thx ?_);obtain rfl:=si H;exact ⟨_,rfl,rfl,jn c5 ⟨T,rfl⟩⟩
 ·exact jn c0 ⟨O0,rfl⟩
 rcases g with g | g
 ·intro a0; revert a0;rintro _ u z ⟨rfl,U,u0,_,rfl,a1,rfl,R,rfl⟩;refine bkr (thr ?_);obtain rfl:=si q;exact r3 (qq U ⟨R,rfl⟩)
 rintro _ u z ⟨rfl,X,v0,_,rfl,b1,rfl,S,rfl⟩;refine bke (nrm (sr (va (I g) (va (I 0) (va (I g) (va (B false) (wln (W.ret ?_))))))));obtain rfl:=si q;exact r3 (qq X ⟨S,rfl⟩)
def ek (p0:ByteArray):Option (Int×Bool):=
 (fY p0 (⟨#[45]⟩:ByteArray)).bind fun a=>
 (orE ((bL a.1)==0) (some (decide ((bL a.1) > 9)))).bind fun c=>
 (orE c ((nb a.1 0).bind fun g=>
 (bX (g==48) (some (decide ((bL p0) > 1)))).bind fun e=>
 some e)).bind fun d=>
 (orE d ((iI a.1 (⟨#[48,49,50,51,52,53,54,55,56,57]⟩:ByteArray)).bind fun h=>
 some (!(eqS h (⟨#[]⟩:ByteArray))))).bind fun f=>
 if f=true then
 some (0,false)
 else
 (jX a.1).bind fun b=>
 (if a.2=true then
 some ((w64 (0 - b.1)))
 else
 some (b.1)).bind fun i=>
 some (i,b.2.isNil)
theorem vh (O0:Own c0 G F) (hT:Et c0) (e:ByteArray) {r:Int×Bool} (H:ek e=some r): Calls prog 101 #[.string e] c0.w (aO c0 fun c v=>Own c G (F)∧v= .tuple #[I r.1,B r.2]):=by
 unfold ek at H;refine en func101 rfl rfl (sr (va (I 0) (va (B false) (wln (sr (va (.string e) (bn H fun a h1 H=>cl (rm O0 e (⟨#[45]⟩:ByteArray) h1) ?_)))))));rintro v7 A l6 ⟨u,rfl⟩;refine va (.tuple #[.string a.1,B a.2]) (va (.string a.1) (va (B a.2) (va (.string a.1) (va (B a.2) (wln (W.seq (W.seq (bn H fun x0 h8 H=>bn H fun y0 X H=>bn H fun U h H=>W.join (Jn A fun c l=>Own c G (F)∧l= [(4,.string a.1),(5,B a.2),(35,B U)]) ?_ ?_))))))))
 ·clear H;refine W.region (va (.string a.1) (vr (I (bL a.1)) (rx (by kernel_rfl) (dP (ty:=3) u_9 _)) (va (B ((bL a.1)==0)) ?_)));rcases bo ((bL a.1)==0) with i | i
  ·obtain rfl:=orT i h8;refine vb i (pz (ps (va (B true) ?_)));have N:true=true:=rfl;obtain rfl:=orT N X;refine vb N (pz (pz (pz (pz (va (B true) ?_)))));have P:true=true:=rfl;obtain rfl:=orT P h;exact vb P (pz (ps (va (B true) (wln (jn A ⟨u,rfl⟩)))))
  have Z:=orF i h8;refine vb i (wa (.string a.1) (wn (vr (I (bL a.1)) (rx (by kernel_rfl) (dP (ty:=3) u_9 _)) (wa (B (decide ((bL a.1) > 9))) ?_))));obtain rfl:=si Z;refine va (B (decide ((bL a.1) > 9))) ?_;rcases bo (decide ((bL a.1) > 9)) with j | j
  ·obtain rfl:=orT j X;refine vb j (pz (pz (pz (pz (va (B true) ?_)))));have R:true=true:=rfl;obtain rfl:=orT R h;exact vb R (pz (ps (va (B true) (wln (jn A ⟨u,rfl⟩)))))
  have f:=orF j X;refine vb j (wa (.string a.1) (wn (bn f fun p k0 f=>vr (.int .u8 p) (rx (by kernel_rfl) (iy (k:= .i64) u_9 k0 _)) (wa (B (p==48)) (wn (bn f fun z0 S f=>?_))))));rcases bo (p==48) with n | n
  ·have a0:=anT n S;refine vb n (wa (.string e) (wn (vr (I (bL e)) (rx (by kernel_rfl) (dP (ty:=3) u_9 _)) (wa (B (decide ((bL e) > 1))) (wn ?_)))));obtain rfl:=si a0;refine va (B (decide ((bL e) > 1))) ?_;obtain rfl:=si f;refine va (B (decide ((bL e) > 1))) ?_;rcases bo (decide ((bL e) > 1)) with o | o
   ·obtain rfl:=orT o h;exact vb o (pz (ps (va (B true) (wln (jn A ⟨u,rfl⟩)))))
   have s:=orF o h;refine vb o (wa (.string a.1) (wn (bn s fun d l0 s=>cl (qE u hT.m a.1 (⟨#[48,49,50,51,52,53,54,55,56,57]⟩:ByteArray) l0) ?_)));rintro v30 h0 i1 ⟨d0,rfl⟩;refine wn (vr (B (!(eqS d (⟨#[]⟩:ByteArray)))) (vp (by kernel_rfl)) ?_);obtain rfl:=si s;exact va (B (!(eqS d (⟨#[]⟩:ByteArray)))) (wln (jn h0 ⟨d0,rfl⟩))
  obtain rfl:=anF n S;refine vb n (pz (ps (wa (B false) ?_)));obtain rfl:=si f;refine va (B false) ?_;have T:false=false:=rfl;have t:=orF T h;refine vb T (wa (.string a.1) (wn (bn t fun d m0 t=>cl (qE u hT.m a.1 (⟨#[48,49,50,51,52,53,54,55,56,57]⟩:ByteArray) m0) ?_)));rintro v39 i0 j1 ⟨e0,rfl⟩;refine wn (vr (B (!(eqS d (⟨#[]⟩:ByteArray)))) (vp (by kernel_rfl)) ?_);obtain rfl:=si t;exact va (B (!(eqS d (⟨#[]⟩:ByteArray)))) (wln (jn i0 ⟨e0,rfl⟩))
 rintro e_ w_ ⟨j0,e1,_,rfl,k1,rfl,D,rfl⟩;refine nrm (cn H (fun o0 H=>?_) (fun o0 H=>?_))
 ·refine sr (va (I 0) (va (B false) (wln (W.ret (thr ?_)))));obtain rfl:=si H;exact r2 (qq j0 ⟨D,rfl⟩)
 refine W.skip (nrm (sr (va (.string a.1) (bn H fun b q0 H=>cl (wN D hT.m a.1 q0) ?_))));rintro v55 x m1 ⟨v48,E,rfl,s0⟩;refine va (.tuple #[I b.1,v48]) (va (I b.1) (va (v48) (va (I b.1) (va (v48) (wln (bn H fun q g b0=>W.seqJ (Jn x fun c l=>Own c G (F)∧l= [(6,I q),(7,v48)]) ?_ ?_))))))
 ·refine sr (va (B a.2) (wln (cn g (fun t0 g=>?_) (fun t0 g=>?_))))
  ·refine W.region (va (I b.1) (vv (I (w64 (0 - b.1))) (wln ?_)));obtain rfl:=si g;exact jn x ⟨E,rfl⟩
  refine W.skip (nrm ?_);obtain rfl:=si g;exact jn x ⟨E,rfl⟩
 rintro e_ w_ ⟨d1,f1,_,rfl,n1,rfl,f0,rfl⟩;refine W.seq (rD [] (Kp G0 []) f0 ?_);intro M p1 g0;have q1:Kp G0 [] M:=Kp.nil0;refine ta 0 (I q) (ta 1 (v48) (AC.take 2 (B b.2.isNil) rfl (by kernel_rfl) (by kernel_rfl) (fun c' g1=>(by rcases s0.m.cs with ⟨y,z⟩ | ⟨b_,y,z⟩ | ⟨b_,y,z⟩ <;> (subst y; rw [z]; kernel_rfl))) (ta 3 (I q) (ta 4 (B b.2.isNil) (dn (nrm (W.ret ?_)))))));obtain rfl:=si b0;exact r2 (qq M ⟨g0,rfl⟩)
def gu (p0:List ByteArray) (p1:Int) (p2:Int):Option ((Int×Int)×Er):=
 (cV (σ:=Int×Int×Int) (τ:=((Int×Int)×Er) ⊕ (Int×Int)) ((p2 - 0).toNat+1) (fun a=>
 if (decide (a.1 < p2))=true then
 if (decide ((w64 (p1+a.1))≥(p0.length:Int)))=true then
 (dg (p0.length:Int)).bind fun e=>
 some (.inr (.inl ((0,0),e)))
 else
 (idx p0 (w64 (p1+a.1))).bind fun f=>
 (ek f).bind fun c=>
 if (!c.2)=true then
 (dg (w64 (p1+a.1))).bind fun g=>
 some (.inr (.inl ((0,0),g)))
 else
 (idx (a2 a.2) a.1).bind fun i=>
 (some (Da a.2 a.1 c.1)).bind fun d=>
 some (.inl ((w64 (a.1+1)),d.1,d.2))
 else
 some (.inr (.inr (a.2.1,a.2.2)))) (0,0,0)).bind fun b=>
 match b with
 | .inl b=>
 some b
 | .inr b=>
 if (decide ((p0.length:Int) > (w64 (p1+p2))))=true then
 (dg (w64 (p1+p2))).bind fun h=>
 some ((0,0),h)
 else
 some (b,Er.nil)
theorem uf (O0:Own c0 G F) (hG:Gl [6] c0) (hT:Et c0) (x:List ByteArray) (d:Int) (h:Int) {r:(Int×Int)×Er} (s:Sl RS c0 v1 x) (H:gu x d h=some r): Calls prog 69 #[v1,I d,I h] c0.w (aO c0 fun c v=>∃y1,Own c G (F)∧v= .tuple #[.agg #[I r.1.1,I r.1.2],y1]∧RE 318 126 c y1 r.2):=by
 unfold gu at H;refine en func69 rfl rfl (sr (me (al 123 [I 0,I 0] O0) ?_));rintro v6 c5 l5 ⟨n,rfl,O4⟩;refine va (.nilIface) (wln (sr (me (al 123 [I 0,I 0] O4) ?_)));rintro v10 D l9 ⟨q,rfl,O8⟩;refine wln (W.seq (sr (va (I h) (va (I 0) (wln (W.block (bn H fun f X g=>lp X (fun a=>Jn D fun c l=>Own c G ((Eb q 123 [I a.2.1,I a.2.2]) :: (Eb n 123 [I 0,I 0]) :: F)∧l= [(0,v1),(1,I d),(2,I h),(6,Q n),(8,Q q),(12,I h),(13,I a.1)]) (fun t=>match t with | .inl x_=>(fun y ex e w=>ex= .ret∧(Jn D fun c l=>∃v13,Own c G ((Eb n 123 [I y.1.1,I y.1.2]) :: F)∧l= [(6,Q n),(7,v13)]∧RE 318 126 c v13 y.2) e w) x_ | .inr x_=>(fun u ex e w=>ex= .exit 0∧(Jn D fun c l=>Own c G ((Eb q 123 [I u.1,I u.2]) :: (Eb n 123 [I 0,I 0]) :: F)∧l= [(0,v1),(1,I d),(2,I h),(6,Q n),(8,Q q)]) e w) x_) ?_ ?_ ?_)))))))
 ·clear g X;intro a f3 w0 t1 H;revert w0 t1;rintro e_ w_ ⟨q0,o2,_,rfl,n1,rfl,o,rfl⟩;refine sr (va (B (decide (a.1 < h))) (wln (W.seq (cn H (fun y0 H=>?_) (fun y0 H=>?_)))))
  ·refine W.skip (nrm (W.seq (W.block (sr (vv (I a.1) (wln (W.seq (sr (va (I d) (va (I a.1) (va (I (w64 (d+a.1))) (va (v1) (vx (ln 3 nq s.m) (va (B (decide ((w64 (d+a.1))≥(x.length:Int)))) (wln (cn H (fun z0 H=>?_) (fun z0 H=>?_)))))))))))))))))
   ·refine sr (va (III 0 0) (va (v1) (vx (ln 3 nq s.m) (bn H fun e2 a1 H=>cl (fI o (hG.m.le (by decide)) (x.length:Int) a1) ?_))));rintro v23 j2 t2 ⟨_,d0,rfl,b1⟩;refine md (sA 123 [I 0,I 0] 1 d0 ⟨rfl,rfl,trivial⟩) ?_;rintro s0 u2 e0;refine va (v23) (wln (W.ret (thr (bkr (thr ?_)))));obtain rfl:=si H;refine ⟨_,rfl,⟨rfl,?_⟩⟩;have f0:=e0.sD 2 [1];exact jn s0 ⟨v23,f0,rfl,b1.m⟩
   refine W.skip (nrm (sr (va (v1) (va (I d) (va (I a.1) (va (I (w64 (d+a.1))) (bn H fun b0 Z H=>?_)))))));obtain ⟨d2,c1,q1⟩:=Sl.at (s.mono (l5.trans (l9.trans n1))) (bW Z);obtain rfl:=c1;refine vx (ix nq s.m Z) (vx (l1 u_9 (q1 0 _ rfl)) (bn H fun b d1 H=>cl (vh o hT.m b0 d1) ?_));rintro v44 k2 v2 ⟨E,rfl⟩;refine va (.tuple #[I b.1,B b.2]) (va (I b.1) (va (B b.2) (va (I b.1) (va (B b.2) (wln (W.seq (sr (va (B b.2) (va (B (!b.2)) (wln (cn H (fun e1 H=>?_) (fun e1 H=>?_))))))))))))
   ·refine sr (va (III 0 0) (va (I d) (va (I a.1) (va (I (w64 (d+a.1))) (bn H fun f2 f1 H=>cl (fI E (hG.m.le (by decide)) (w64 (d+a.1)) f1) ?_)))));rintro v47 l2 w2 ⟨_,g0,rfl,g1⟩;refine md (sA 123 [I 0,I 0] 1 g0 ⟨rfl,rfl,trivial⟩) ?_;rintro t0 x2 h0;refine va (v47) (wln (W.ret (thr (bkr (thr ?_)))));obtain rfl:=si H;refine ⟨_,rfl,⟨rfl,?_⟩⟩;have i0:=h0.sD 2 [1];exact jn t0 ⟨v47,i0,rfl,g1.m⟩
   refine W.skip (nrm (W.region (va (I a.1) (va (I b.1) (bn H fun g2 i H=>vr (.pointer (some ⟨q,0+a.1.toNat * 1,none⟩)) (rx (by kernel_rfl) (rX (k:= .i64) underlying123 (by kernel_rfl) (la i).1 (la i).2 _)) (bn H fun A h1 H=>md (Own.st (T:=3) (j:=0+a.1.toNat * 1) (us:=[I b.1]) (nw:=[I A.1,I A.2]) (v:=I b.1) 0 E (by kernel_rfl) rfl rfl rfl rfl (by kernel_rfl) ⟨rfl,trivial⟩ (Ly i (bh rfl)) (Lk (k:= .i64) i h1 [] [])) ?_))))));rintro u0 y2 j0;refine WL.nil (bkn (nrm (W.region (vv (I (w64 (a.1+1))) (WL.nil ?_)))));obtain rfl:=si H;exact ⟨_,rfl,jn u0 ⟨j0,rfl⟩⟩
  refine W.exit (thx ?_);obtain rfl:=si H;exact ⟨_,rfl,rfl,jn q0 ⟨o,rfl⟩⟩
 ·exact jn D ⟨O8,rfl⟩
 rcases f with f | f
 ·intro x0; revert x0;rintro _ e_ w_ ⟨rfl,R,q2,_,rfl,z2,rfl,v13,M,rfl,i1⟩;refine bkr (thr ?_);obtain rfl:=si g;have k0:=M.sD 1 [];exact kK (c:=R) (vs:=[I f.1.1,I f.1.2]) (v:=v13) rfl (by kernel_rfl) (by kernel_rfl) (by kernel_rfl) (by kernel_rfl) (M.on 0 rfl _ rfl).1 ⟨_,R,rfl,rfl,pt,v13,k0,rfl,i1⟩
 rintro _ e_ w_ ⟨rfl,m2,s2,_,rfl,a3,rfl,p,rfl⟩;refine bke (nrm (W.seq (sr (va (v1) (vx (ln 3 nq s.m) (va (I d) (va (I h) (va (I (w64 (d+h))) (va (B (decide ((x.length:Int) > (w64 (d+h))))) (wln (cn g (fun j1 g=>?_) (fun j1 g=>?_))))))))))))
 ·refine sr (va (III 0 0) (va (I d) (va (I h) (va (I (w64 (d+h))) (bn g fun i2 k1 g=>cl (fI p (hG.m.le (by decide)) (w64 (d+h)) k1) ?_)))));rintro z n2 c3 ⟨_,l0,rfl,m1⟩;refine md (sA 123 [I 0,I 0] 1 l0 ⟨rfl,rfl,trivial⟩) ?_;rintro S d3 N;refine va (z) (wln (W.ret (thr ?_)));obtain rfl:=si g;have m0:=N.sD 2 [];exact kK (c:=S) (vs:=[I 0,I 0]) (v:=z) rfl (by kernel_rfl) (by kernel_rfl) (by kernel_rfl) (by kernel_rfl) (N.on 1 rfl _ rfl).1 ⟨_,S,rfl,rfl,pt,z,m0,rfl,m1.m⟩
 refine W.skip (nrm (sr (vx (leN 123 0 [I f.1,I f.2] (p.on 0 rfl)) (md (sA 123 [I f.1,I f.2] 1 p ⟨rfl,rfl,trivial⟩) ?_))));rintro U e3 P;refine va (.nilIface) (wln (W.ret ?_));obtain rfl:=si g;have o0:=P.sD 2 [];exact kK (c:=U) (vs:=[I f.1,I f.2]) (v:= .nilIface) rfl (by kernel_rfl) (by kernel_rfl) (by kernel_rfl) (by kernel_rfl) (P.on 1 rfl _ rfl).1 ⟨_,U,rfl,rfl,pt,.nilIface,o0,rfl,rfl⟩
def fL (p0:ByteArray):Option (ba×Er):=
 (jx p0 (⟨#[32]⟩:ByteArray)).bind fun c=>
 (idx c 0).bind fun f=>
 if (eqS f (⟨#[102,101,101,100]⟩:ByteArray))=true then
 (jI c).bind fun d=>
 some (d.1,d.2)
 else
 if (eqS f (⟨#[119,114,97,112]⟩:ByteArray))=true then
 (iA c).bind fun e=>
 some (e.1,e.2)
 else
 (jH c).bind fun a=>
 if (!a.2.2)=true then
 (dg a.2.1).bind fun g=>
 some ((⟨0,0,0,([]:List Int)⟩:ba),g)
 else
 (dq a.1).bind fun h=>
 (gu c a.2.1 h.2).bind fun b=>
 if (!b.2.isNil)=true then
 some ((⟨0,0,0,([]:List Int)⟩:ba),b.2)
 else
 some ((⟨a.1,b.1.1,b.1.2,([]:List Int)⟩:ba),Er.nil)
theorem qG (O0:Own c0 G F) (hG:Gl [6] c0) (hT:Et c0) (T:ByteArray) {r:ba×Er} (H:fL T=some r): Calls prog 39 #[.string T] c0.w (aO c0 fun c v=>∃y1 y2 y3,Own c G (es true (RI .u8) y1 5 y2 r.1.Bytes :: F)∧v= .tuple #[.agg #[I r.1.Kind,I r.1.A,I r.1.B,y1],y3]∧OA (RI .u8) c y1 y2 r.1.Bytes∧RE 318 126 c y3 r.2):=by
 unfold fL at H;refine en func39 rfl rfl (sr (me (al 81 [I 0,I 0,I 0,Y] O0) ?_));rintro v4 c3 l3 ⟨b1,rfl,O2⟩;refine va (.nilIface) (wln (sr (va (.string T) (bn H fun l h5 H=>cl (vd O2 hT.m T (⟨#[32]⟩:ByteArray) h5) ?_))));rintro v6 p2 z2 ⟨_,O9,rfl,o⟩;refine va (v6) (wln (W.seq (sr (va (v6) (bn H fun n f0 H=>?_)))));obtain ⟨m2,e1,v1⟩:=Sl.at o (bW f0);obtain rfl:=e1;refine vx (ix nq o f0) (vx (l1 u_9 (v1 0 _ rfl)) (wln (W.block (sr (vr (B (eqS n (⟨#[102,101,101,100]⟩:ByteArray))) (iE (by kernel_rfl)) (va (B (eqS n (⟨#[102,101,101,100]⟩:ByteArray))) (wln (cn H (fun f1 H=>?_) (fun f1 H=>?_)))))))))
 ·refine sr (va (v6) (bn H fun d g1 H=>cl (xx O9 (hG.m.le (by decide)) l o g1) ?_));rintro v30 q2 a3 ⟨v20,w1,v23,t0,rfl,M,h1⟩;refine va (.agg #[I d.1.Kind,I d.1.A,I d.1.B,v20]) (va (v23) ?_);obtain ⟨s,t,u,rfl⟩:=(M).form;refine md (sA 81 [I d.1.Kind,I d.1.A,I d.1.B,.slice s t u] 1 t0 ⟨rfl,rfl,rfl,(M).one,trivial⟩) ?_;rintro d0 b3 U;refine va (v23) (wln (W.ret (bkr (thr ?_))));obtain rfl:=si H;have u0:=U.sD 2 [0];exact kK (c:=d0) (vs:=[I d.1.Kind,I d.1.A,I d.1.B,.slice s t u]) (v:=v23) rfl (by kernel_rfl) (by kernel_rfl) (by kernel_rfl) (by kernel_rfl) (U.on 1 rfl _ rfl).1 ⟨_,d0,rfl,rfl,pt,(.slice s t u),w1,v23,u0,rfl,M.m,h1.m⟩
 refine sr (vr (B (eqS n (⟨#[119,114,97,112]⟩:ByteArray))) (iE (by kernel_rfl)) (va (B (eqS n (⟨#[119,114,97,112]⟩:ByteArray))) (wln (cn H (fun i1 H=>?_) (fun i1 H=>?_)))))
 ·refine sr (va (v6) (bn H fun f j1 H=>cl (xu O9 (hG.m.le (by decide)) l o j1) ?_));rintro v49 s2 d3 ⟨v39,x1,v42,v0,rfl,P,k1⟩;refine va (.agg #[I f.1.Kind,I f.1.A,I f.1.B,v39]) (va (v42) ?_);obtain ⟨x,y,z,rfl⟩:=(P).form;refine md (sA 81 [I f.1.Kind,I f.1.A,I f.1.B,.slice x y z] 1 v0 ⟨rfl,rfl,rfl,(P).one,trivial⟩) ?_;rintro e0 e3 X;refine va (v42) (wln (W.ret (bkr (thr ?_))));obtain rfl:=si H;have w0:=X.sD 2 [0];exact kK (c:=e0) (vs:=[I f.1.Kind,I f.1.A,I f.1.B,.slice x y z]) (v:=v42) rfl (by kernel_rfl) (by kernel_rfl) (by kernel_rfl) (by kernel_rfl) (X.on 1 rfl _ rfl).1 ⟨_,e0,rfl,rfl,pt,(.slice x y z),x1,v42,w0,rfl,P.m,k1.m⟩
 refine W.skip (bkn (nrm (sr (va (v6) (bn H fun a m1 H=>cl (xv O9 l o m1) ?_)))));rintro m3 t2 f3 ⟨Z,rfl⟩;refine va (.tuple #[I a.1,I a.2.1,B a.2.2]) (va (I a.1) (va (I a.2.1) (va (B a.2.2) (va (I a.1) (va (I a.2.1) (va (B a.2.2) (wln (W.seq (sr (va (B a.2.2) (va (B (!a.2.2)) (wln (cn H (fun n1 H=>?_) (fun n1 H=>?_))))))))))))))
 ·refine sr (va (.agg #[I 0,I 0,I 0,Y]) (va (I a.2.1) (bn H fun o2 p1 H=>cl (fI Z (hG.m.le (by decide)) a.2.1 p1) ?_)));rintro R u2 g3 ⟨_,x0,rfl,q1⟩;refine md (sA 81 [I 0,I 0,I 0,Y] 0 x0 ⟨rfl,rfl,rfl,rfl,trivial⟩) ?_;rintro D h3 y0;refine va (R) (wln (W.ret (thr ?_)));obtain rfl:=si H;have s1:OA (RI .u8) D (Y) [] []:=OA.nil (aI _);have a0:=y0.addHole (e:=es true (RI .u8) (Y) 5 [] ([]:List Int)) rfl;have z0:=a0.sD 2 [0];exact kK (c:=D) (vs:=[I 0,I 0,I 0,Y]) (v:=R) rfl (by kernel_rfl) (by kernel_rfl) (by kernel_rfl) (by kernel_rfl) (a0.on 1 rfl _ rfl).1 ⟨_,D,rfl,rfl,pt,(Y),[],R,z0,rfl,s1,q1.m⟩
 refine W.skip (nrm (sr (va (I a.1) (bn H fun h t1 H=>cl (lZ Z a.1 t1) ?_))));rintro n3 v2 i3 ⟨S,k3,a1,rfl,x2,p3⟩;refine va (.tuple #[S,I h.2]) (va (S) (va (I h.2) (va (S) (va (I h.2) (wln (sr (va (v6) (va (I a.2.1) (va (I h.2) (bn H fun b u1 H=>cl (uf a1 (hG.m.le (by decide)) hT.m l a.2.1 h.2 o.m u1) ?_))))))))));rintro o3 w2 j3 ⟨g,c1,rfl,g0⟩;refine va (.tuple #[.agg #[I b.1.1,I b.1.2],g]) (va (.agg #[I b.1.1,I b.1.2]) (va (g) (me (al 123 [I 0,I 0] c1) ?_)));rintro n2 f2 i2 ⟨b0,rfl,d1⟩;refine md (sA 123 [I b.1.1,I b.1.2] 0 d1 ⟨rfl,rfl,trivial⟩) ?_;rintro g2 j2 i;refine va (g) (wln (W.seq (sr (va (g) (vr (B (!b.2.isNil)) (by rcases g0.m.cs with ⟨E,N⟩ | ⟨b_,E,N⟩ | ⟨b_,E,N⟩ <;> (subst E; rw [N]; kernel_rfl)) (wln (cn H (fun m0 H=>?_) (fun m0 H=>?_))))))))
 ·refine sr (va (.agg #[I 0,I 0,I 0,Y]) (va (g) (md (sA 81 [I 0,I 0,I 0,Y] 2 i ⟨rfl,rfl,rfl,rfl,trivial⟩) ?_)));rintro j k2 h0;refine va (g) (wln (W.ret (thr ?_)));obtain rfl:=si H;have o0:OA (RI .u8) j (Y) [] []:=OA.nil (aI _);have p:=h0.addHole (e:=es true (RI .u8) (Y) 5 [] ([]:List Int)) rfl;have i0:=p.sD 4 [0];exact kK (c:=j) (vs:=[I 0,I 0,I 0,Y]) (v:=g) rfl (by kernel_rfl) (by kernel_rfl) (by kernel_rfl) (by kernel_rfl) (p.on 3 rfl _ rfl).1 ⟨_,j,rfl,rfl,pt,(Y),[],g,i0,rfl,o0,g0.m⟩
 refine W.skip (nrm (sr (va (I a.1) (va (Q b0) (vx (le1 0 u_3 (i.on 0 rfl)) (va (Qo b0 1) (vx (le1 1 u_3 (i.on 0 rfl)) (va (.agg #[I a.1,I b.1.1,I b.1.2,Y]) (md (sA 81 [I a.1,I b.1.1,I b.1.2,Y] 2 i ⟨rfl,rfl,rfl,rfl,trivial⟩) ?_)))))))));rintro k l2 j0;refine va (.nilIface) (wln (W.ret ?_));obtain rfl:=si H;have q0:OA (RI .u8) k (Y) [] []:=OA.nil (aI _);have q:=j0.addHole (e:=es true (RI .u8) (Y) 5 [] ([]:List Int)) rfl;have k0:=q.sD 4 [0];exact kK (c:=k) (vs:=[I a.1,I b.1.1,I b.1.2,Y]) (v:= .nilIface) rfl (by kernel_rfl) (by kernel_rfl) (by kernel_rfl) (by kernel_rfl) (q.on 3 rfl _ rfl).1 ⟨_,k,rfl,rfl,pt,(Y),[],.nilIface,k0,rfl,q0,rfl⟩
def kM (p0:List Int):Option (Bool):=
 (cV (σ:=Int) (τ:=Bool ⊕ Unit) (((p0.length:Int) - 0).toNat+1) (fun b=>
 if (decide (b < (p0.length:Int)))=true then
 (idx p0 b).bind fun c=>
 (orE (decide (c > 999999999)) (some (decide (c < (-999999999))))).bind fun d=>
 if d=true then
 some (.inr (.inl false))
 else
 some (.inl ((w64 (b+1))))
 else
 some (.inr (.inr ()))) (0)).bind fun a=>
 match a with
 | .inl a=>
 some a
 | .inr a=>
 some true
theorem xw (O0:Own c0 G F) (g:List Int) {r:Bool} (u:Sl (RI .i64) c0 v1 g) (H:kM g=some r): Calls prog 91 #[v1] c0.w (aO c0 fun c v=>Own c G (F)∧v=B r):=by
 unfold kM at H;refine en func91 rfl rfl (sr (va (B false) (wln (W.seq (sr (va (v1) (vx (ln 3 zM u) (va (I 0) (wln (W.block (bn H fun f U o=>lp U (fun b=>Jn c0 fun c l=>Own c G (F)∧l= [(5,v1),(6,I (g.length:Int)),(7,I b)]) (fun t=>match t with | .inl y=>(fun Z ex e w=>ex= .ret∧(Jn c0 fun c l=>Own c G (F)∧l= [(2,B Z)]) e w) y | .inr y=>(fun f0 ex e w=>ex= .exit 0∧(Jn c0 fun c l=>Own c G (F)∧l= []) e w) y) ?_ ?_ ?_)))))))))))
 ·clear o U;intro b m0 N a0 H;revert N a0;rintro s x ⟨h,g6,_,rfl,l5,rfl,p,rfl⟩;refine sr (va (B (decide (b < (g.length:Int)))) (wln (W.seq (cn H (fun R H=>?_) (fun R H=>?_)))))
  ·refine W.skip (nrm (W.seq (W.block (sr (bn H fun a k H=>?_)))));obtain ⟨e0,S,X⟩:=Sl.at (u.mono l5) (bW k);obtain rfl:=S;refine vx (ix zM u.m k) (vx (l1 u_3 (X 0 _ rfl)) (va (I a) (wln (W.seq (bn H fun q n H=>W.join (Jn h fun c l=>Own c G (F)∧l= [(5,v1),(6,I (g.length:Int)),(7,I b),(16,B q)]) ?_ ?_)))))
   ·clear H;refine W.region (va (I a) (va (B (decide (a > 999999999))) ?_));rcases bo (decide (a > 999999999)) with d | d
    ·obtain rfl:=orT d n;exact vb d (pz (va (B true) (wln (jn h ⟨p,rfl⟩))))
    have z:=orF d n;refine vb d (wa (I a) (wa (B (decide (a < (-999999999)))) ?_));obtain rfl:=si z;exact va (B (decide (a < (-999999999)))) (wln (jn h ⟨p,rfl⟩))
   rintro s x ⟨j,g0,_,rfl,j0,rfl,i,rfl⟩;refine nrm (cn H (fun T H=>?_) (fun T H=>?_))
   ·refine sr (va (B false) (wln (W.ret (bkr (thr ?_)))));obtain rfl:=si H;exact ⟨_,rfl,⟨rfl,jn j ⟨i,rfl⟩⟩⟩
   refine W.skip (bkn (nrm (W.region (vv (I (w64 (b+1))) (WL.nil ?_)))));obtain rfl:=si H;exact ⟨_,rfl,jn j ⟨i,rfl⟩⟩
  refine W.exit (thx ?_);obtain rfl:=si H;exact ⟨_,rfl,rfl,jn h ⟨p,rfl⟩⟩
 ·exact jn c0 ⟨O0,rfl⟩
 rcases f with f | f
 ·intro P; revert P;rintro _ s x ⟨rfl,E,h0,_,rfl,k0,rfl,A,rfl⟩;refine bkr (thr ?_);obtain rfl:=si o;exact r1 (qq E ⟨A,rfl⟩)
 rintro _ s x ⟨rfl,M,i0,_,rfl,l0,rfl,D,rfl⟩;refine bke (nrm (sr (va (B true) (wln (W.ret ?_)))));obtain rfl:=si o;exact r1 (qq M ⟨D,rfl⟩)
def ke (p0:ba):Option (Bool):=
 (dq p0.Kind).bind fun a=>
 if (p0.Kind==0)=true then
 (bX (p0.A==0) (some (p0.B==0))).bind fun b=>
 some b
 else
 if (p0.Kind==12)=true then
 (orE (p0.A==0) (some (p0.A==1))).bind fun c=>
 (bX c (some (p0.B==0))).bind fun d=>
 (bX d (some ((p0.Bytes.length:Int)==0))).bind fun e=>
 some e
 else
 (orE a.1.isEmpty (some (decide ((p0.Bytes.length:Int) > 0)))).bind fun f=>
 (orE f ((kM ([p0.A,p0.B]:List Int)).bind fun k=>
 some (!k))).bind fun g=>
 if g=true then
 some false
 else
 (orE (a.2==2) ((bX (p0.B==0) ((orE (a.2==1) (some (p0.A==0))).bind fun j=>
 some j)).bind fun i=>
 some i)).bind fun h=>
 some h
theorem wR (O0:Own c0 G F) (a:ba) {r:Bool} (S:Sl (RI .u8) c0 v1 a.Bytes) (H:ke a=some r): Calls prog 55 #[.agg #[I a.Kind,I a.A,I a.B,v1]] c0.w (aO c0 fun c v=>Own c G (F)∧v=B r):=by
 unfold ke at H;refine en func55 rfl rfl (sr ?_);obtain ⟨a3,a4,a5,rfl⟩:=(S).form;refine me (bx 81 [I a.Kind,I a.A,I a.B,.slice a3 a4 a5] O0) ?_;rintro v10 c9 l9 ⟨e,rfl,O7,f⟩;refine va (B false) (wln (sr (va (Q e) (vx (l1 u_3 (f 0 _ rfl)) (bn H fun b q1 H=>cl (lZ O7 a.Kind q1) ?_)))));rintro v21 d v2 ⟨v12,M,g,rfl,s1,c2⟩;refine va (.tuple #[v12,I b.2]) (va (v12) (va (I b.2) (va (v12) (va (I b.2) (wln (W.seq (W.block (sr (va (Q e) (vx (l1 u_3 ((mm f) 0 _ rfl)) (vv (B (a.Kind==0)) (wln (cn H (fun t1 H=>?_) (fun t1 H=>?_))))))))))))))
 ·refine W.seq (bn H fun j0 U H=>W.join (Jn d fun c l=>Own c G (es true RS v12 9 M b.1 :: F)∧l= [(2,B j0)]) ?_ ?_)
  ·clear H;refine W.region (va (Qo e (0+1)) (vx (l1 u_3 ((mm f) 1 _ rfl)) (va (B (a.A==0)) ?_)));rcases bo (a.A==0) with k | k
   ·have s0:=anT k U;refine vb k (wa (Qo e (0+2)) (wn (vx (l1 u_3 ((mm f) 2 _ rfl)) (wa (B (a.B==0)) ?_))));obtain rfl:=si s0;exact vv (B (a.B==0)) (wln (jn d ⟨g,rfl⟩))
   obtain rfl:=anF k U;exact vb k (pz (ps (vv (B false) (wln (jn d ⟨g,rfl⟩)))))
  rintro e_ w_ ⟨k1,q2,_,rfl,w2,rfl,a1,rfl⟩;refine nrm (W.ret (bkr (thr ?_)));obtain rfl:=si H;have b1:=a1.sD 1 [];exact r1 (qq k1 ⟨b1,rfl⟩)
 refine sr (va (Q e) (vx (l1 u_3 ((mm f) 0 _ rfl)) (vv (B (a.Kind==12)) (wln (cn H (fun u1 H=>?_) (fun u1 H=>?_))))))
 ·refine W.seq (bn H fun j2 Z H=>bn H fun k2 P H=>bn H fun k0 n H=>W.join (Jn d fun c l=>Own c G (es true RS v12 9 M b.1 :: F)∧l= [(2,B k0)]) ?_ ?_)
  ·clear H;refine W.region (va (Qo e (0+1)) (vx (l1 u_3 ((mm f) 1 _ rfl)) (va (B (a.A==0)) ?_)));rcases bo (a.A==0) with o | o
   ·obtain rfl:=orT o Z;refine vb o (pz (ps (va (B true) ?_)));have a0:true=true:=rfl;have t0:=anT a0 P;refine vb a0 (wa (Qo e (0+2)) (wn (vx (l1 u_3 ((mm f) 2 _ rfl)) (wa (B (a.B==0)) ?_))));obtain rfl:=si t0;refine va (B (a.B==0)) ?_;rcases bo (a.B==0) with p | p
    ·have u0:=anT p n;refine vb p (wa (Qo e (0+3)) (wn (vx (l1 mZ ((mm f) 3 _ rfl)) (wn (vx (ln 3 mZ S.m) (wa (B ((a.Bytes.length:Int)==0)) ?_))))));obtain rfl:=si u0;exact vv (B ((a.Bytes.length:Int)==0)) (wln (jn d ⟨g,rfl⟩))
    obtain rfl:=anF p n;exact vb p (pz (pz (vv (B false) (wln (jn d ⟨g,rfl⟩)))))
   have v0:=orF o Z;refine vb o (wa (Qo e (0+1)) (wn (vx (l1 u_3 ((mm f) 1 _ rfl)) (wa (B (a.A==1)) ?_))));obtain rfl:=si v0;refine va (B (a.A==1)) ?_;rcases bo (a.A==1) with q | q
   ·have w0:=anT q P;refine vb q (wa (Qo e (0+2)) (wn (vx (l1 u_3 ((mm f) 2 _ rfl)) (wa (B (a.B==0)) ?_))));obtain rfl:=si w0;refine va (B (a.B==0)) ?_;rcases bo (a.B==0) with s | s
    ·have x0:=anT s n;refine vb s (wa (Qo e (0+3)) (wn (vx (l1 mZ ((mm f) 3 _ rfl)) (wn (vx (ln 3 mZ S.m) (wa (B ((a.Bytes.length:Int)==0)) ?_))))));obtain rfl:=si x0;exact vv (B ((a.Bytes.length:Int)==0)) (wln (jn d ⟨g,rfl⟩))
    obtain rfl:=anF s n;exact vb s (pz (pz (vv (B false) (wln (jn d ⟨g,rfl⟩)))))
   obtain rfl:=anF q P;refine vb q (pz (ps (va (B false) ?_)));have b0:false=false:=rfl;obtain rfl:=anF b0 n;exact vb b0 (pz (pz (vv (B false) (wln (jn d ⟨g,rfl⟩)))))
  rintro e_ w_ ⟨m1,s2,_,rfl,x2,rfl,c1,rfl⟩;refine nrm (W.ret (bkr (thr ?_)));obtain rfl:=si H;have d1:=c1.sD 1 [];exact r1 (qq m1 ⟨d1,rfl⟩)
 refine W.seq (bn H fun l2 d0 H=>bn H fun l0 R H=>W.join (Jn d fun c l=>Own c G (es true RS v12 9 M b.1 :: F)∧l= [(1,Q e),(4,I b.2),(46,B l0)]) ?_ ?_)
 ·clear H;refine W.region (va (v12) (vr (B b.1.isEmpty) (by rcases (s1).nilcs c2 with ⟨T,X⟩ | ⟨g_,l_,k_,T,X⟩ <;> (subst T; rw [X]; kernel_rfl)) ?_));rcases bo (b.1.isEmpty) with t | t
  ·obtain rfl:=orT t d0;refine vb t (pz (pz (va (B true) ?_)));have e0:true=true:=rfl;obtain rfl:=orT e0 R;exact vb e0 (pz (pz (pz (ps (vv (B true) (wln (jn d ⟨g,rfl⟩)))))))
  have y0:=orF t d0;refine vb t (wa (Qo e (0+3)) (wn (vx (l1 mZ ((mm f) 3 _ rfl)) (wn (vx (ln 3 mZ S.m) (wa (B (decide ((a.Bytes.length:Int) > 0))) ?_))))));obtain rfl:=si y0;refine va (B (decide ((a.Bytes.length:Int) > 0))) ?_;rcases bo (decide ((a.Bytes.length:Int) > 0)) with u | u
  ·obtain rfl:=orT u R;exact vb u (pz (pz (pz (ps (vv (B true) (wln (jn d ⟨g,rfl⟩)))))))
  have N:=orF u R;refine vb u (wa (Qo e (0+1)) (wn (vx (l1 u_3 ((mm f) 1 _ rfl)) (wa (Qo e (0+2)) (wn (vx (l1 u_3 ((mm f) 2 _ rfl)) (wn (me (sl (RI .i64) 3 [[I a.A],[I a.B]] ([a.A,a.B]:List Int) g ⟨rfl,rfl,trivial⟩) ?_))))))));rintro f3 o2 y2 ⟨e3,e1,w1⟩;refine wn ?_;obtain ⟨p2,y1,z2,f1,x1⟩:=e1.frz 0 rfl w1;refine WL.gh y1 (bn N fun D z1 N=>cl (xw f1 ([a.A,a.B]:List Int) x1 z1) ?_);rintro g3 n1 b3 ⟨g1,rfl⟩;refine wa (B (!D)) ?_;obtain rfl:=si N;refine vv (B (!D)) (wln ?_);have h1:=g1.sD 2 [1];exact jn n1 ⟨h1,rfl⟩
 rintro e_ w_ ⟨h,t2,_,rfl,c3,rfl,j,rfl⟩;refine nrm (cn H (fun b2 H=>?_) (fun b2 H=>?_))
 ·refine sr (va (B false) (wln (W.ret (bkr (thr ?_)))));obtain rfl:=si H;have i1:=j.sD 1 [];exact r1 (qq h ⟨i1,rfl⟩)
 refine W.skip (bkn (nrm (W.seq (bn H fun m0 f0 H=>W.join (Jn h fun c l=>Own c G (es true RS v12 9 M b.1 :: F)∧l= [(2,B m0)]) ?_ ?_))))
 ·clear H;refine W.region (va (I b.2) (va (B (b.2==2)) ?_));rcases bo (b.2==2) with x | x
  ·obtain rfl:=orT x f0;exact vb x (pz (pz (pz (pz (pz (pz (vv (B true) (wln (jn h ⟨j,rfl⟩)))))))))
  have i:=orF x f0;refine vb x (wa (Qo e (0+2)) (wn (vx (l1 u_3 ((mm f) 2 _ rfl)) (wa (B (a.B==0)) (wn (bn i fun m2 g0 i=>?_))))));rcases bo (a.B==0) with y | y
  ·have E:=anT y g0;refine vb y (wa (I b.2) (wa (B (b.2==1)) (wn (bn E fun n2 h0 E=>?_))));rcases bo (b.2==1) with z | z
   ·obtain rfl:=orT z h0;refine vb z (pz (ps (wa (B true) (wn ?_))));obtain rfl:=si E;refine va (B true) ?_;obtain rfl:=si i;exact vv (B true) (wln (jn h ⟨j,rfl⟩))
   have z0:=orF z h0;refine vb z (wa (Qo e (0+1)) (wn (vx (l1 u_3 ((mm f) 1 _ rfl)) (wa (B (a.A==0)) (wn ?_)))));obtain rfl:=si z0;refine va (B (a.A==0)) (wn ?_);obtain rfl:=si E;refine va (B (a.A==0)) ?_;obtain rfl:=si i;exact vv (B (a.A==0)) (wln (jn h ⟨j,rfl⟩))
  obtain rfl:=anF y g0;refine vb y (pz (pz (pz (ps (wa (B false) ?_)))));obtain rfl:=si i;exact vv (B false) (wln (jn h ⟨j,rfl⟩))
 rintro e_ w_ ⟨p1,u2,_,rfl,d3,rfl,j1,rfl⟩;refine nrm (W.ret ?_);obtain rfl:=si H;have i0:=j1.sD 1 [];exact r1 (qq p1 ⟨i0,rfl⟩)
def lI (p0:List Int):Option (ByteArray):=
 if ((p0.length:Int)==0)=true then
 some (⟨#[45]⟩:ByteArray)
 else
 (cV (σ:=(List Int)×Int) (τ:=(List Int)) (((p0.length:Int) - 0).toNat+1) (fun a=>
 if (decide (a.2 < (p0.length:Int)))=true then
 (idx p0 a.2).bind fun b=>
 (nb (⟨#[48,49,50,51,52,53,54,55,56,57,97,98,99,100,101,102]⟩:ByteArray) (b.fdiv (2 ^ 4))).bind fun d=>
 (nb (⟨#[48,49,50,51,52,53,54,55,56,57,97,98,99,100,101,102]⟩:ByteArray) (dM .u8 b 15)).bind fun e=>
 (app a.1 ([d,e]:List Int)).bind fun f=>
 some (.inl (f,(w64 (a.2+1))))
 else
 some (.inr (a.1))) (([]:List Int),0)).bind fun c=>
 some (uq c)
theorem zi (x:Own c0 G F) (i:List Int) {r:ByteArray} (j:Sl (RI .u8) c0 v1 i) (H:lI i=some r): Calls prog 56 #[v1] c0.w (aO c0 fun c v=>Own c G (F)∧v= .string r):=by
 unfold lI at H;refine en func56 rfl rfl (sr (va (.string (⟨#[]⟩:ByteArray)) (wln (W.seq (sr (va (v1) (vx (ln 3 mZ j) (va (B ((i.length:Int)==0)) (wln (cn H (fun h3 H=>?_) (fun h3 H=>?_)))))))))))
 ·refine sr (va (.string (⟨#[45]⟩:ByteArray)) (wln (W.ret (thr ?_))));obtain rfl:=si H;exact r1 (qq c0 ⟨x,rfl⟩)
 refine W.skip (nrm (sr (va (Y) (wln (W.seq (sr (va (v1) (vx (ln 3 mZ j) (va (I 0) (wln (W.block (bn H fun h h4 u=>lp h4 (fun a=>Jn c0 fun c l=>∃v6 n,Own c G (es true (RI .u8) v6 5 n a.1 :: F)∧l= [(3,v6),(9,v1),(10,I (i.length:Int)),(11,I a.2)]∧OA (RI .u8) c v6 n a.1) (fun g ex e w=>ex= .exit 0∧(Jn c0 fun c l=>∃v8 t,Own c G (es true (RI .u8) v8 5 t g :: F)∧l= [(3,v8)]∧OA (RI .u8) c v8 t g) e w) ?_ ?_ ?_))))))))))))
 ·clear u h4;intro a w1 a0 b1 H;revert a0 b1;rintro e_ w_ ⟨S,j1,_,rfl,u0,rfl,v6,n,o,rfl,q⟩;refine sr (va (B (decide (a.2 < (i.length:Int)))) (wln (W.seq (cn H (fun b0 H=>?_) (fun b0 H=>?_)))))
  ·refine W.skip (nrm (W.seq (W.block (sr (bn H fun b s H=>?_)))));obtain ⟨f1,d0,w0⟩:=Sl.at (j.mono u0) (bW s);obtain rfl:=d0;refine vx (ix mZ j.m s) (vx (l1 u_5 (w0 0 _ rfl)) (va (.int .u8 b) (wln (rD [] (Kp G0 []) o ?_))));intro T m1 y;have t1:Kp G0 [] T:=Kp.nil0;refine ta 0 (v6) (ta 1 (.int .u8 b) (ta 2 (.int .u8 (b.fdiv (2 ^ 4))) (bn H fun d e0 H=>AC.take 3 (.int .u8 d) rfl (by kernel_rfl) (by kernel_rfl) (fun c' t0=>(rx (by kernel_rfl) (iy (k:= .u8) u_9 e0 _))) (ta 4 (.int .u8 b) (ta 5 (.int .u8 (dM .u8 b 15)) (bn H fun f f0 H=>AC.take 6 (.int .u8 f) rfl (by kernel_rfl) (by kernel_rfl) (fun c' t0=>(rx (by kernel_rfl) (iy (k:= .u8) u_9 f0 _))) (o1 7 (gm 7 (sl (RI .u8) 5 [[.int .u8 d],[.int .u8 f]] ([d,f]:List Int) y ⟨rfl,rfl,trivial⟩) ?_))))))));rintro v31 U n1 ⟨u1,z,g0⟩;have x0:Kp G0 [] U:=Kp.nil0;refine ⟨.inr x0,?_⟩;obtain ⟨X,i0,v0,A,h0⟩:=z.frz 0 rfl g0;have y0:Kp G0 [] X:=Kp.nil0;refine AC.gh i0 v0 (fun _=>y0) (bn H fun h1 j0 H=>o1 8 (gm 8 (ap (RI .u8) (.int .u8 0) 1 31 1 A q.m h0 j0 mZ) ?_));rintro v43 p p1 ⟨a1,D,l0⟩;have z0:Kp G0 [] p:=Kp.nil0;refine ⟨.inr z0,ta 9 (v43) (dn (bkn (nrm (W.region (vv (I (w64 (a.2+1))) (WL.nil ?_))))))⟩;obtain rfl:=si H;refine ⟨_,rfl,?_⟩;have E:=D.sD 2 [1];exact jn p ⟨v43,a1,E,rfl,l0⟩
  refine W.exit (thx ?_);obtain rfl:=si H;exact ⟨_,rfl,rfl,jn S ⟨v6,n,o,rfl,q⟩⟩
 ·have m0:OA (RI .u8) c0 (Y) [] []:=OA.nil (aI _);have M:=x.addHole (e:=es true (RI .u8) (Y) 5 [] ([]:List Int)) rfl;exact jn c0 ⟨(Y),[],M,rfl,m0⟩
 rintro _ e_ w_ ⟨rfl,i1,k1,_,rfl,q1,rfl,v8,t,N,rfl,o0⟩;refine bke (nrm (sr (va (v8) ?_)));obtain ⟨Z,s0,s1,P,q0⟩:=N.frz 0 rfl o0;refine WL.gh s0 (vr (.string (uq h)) (rx (by kernel_rfl) (zZ mZ u_5 u_9 q0)) (va (.string (uq h)) (wln (W.ret ?_))));obtain rfl:=si u;have R:=P.sD 1 [];exact r1 (qq Z ⟨R,rfl⟩)
def iB (p0:ba):Option (ByteArray):=
 (ke p0).bind fun l=>
 if (!l)=true then
 some (⟨#[]⟩:ByteArray)
 else
 if (p0.Kind==0)=true then
 (lI p0.Bytes).bind fun f=>
 (rW (⟨#[102,101,101,100,32]⟩:ByteArray) f).bind fun g=>
 some g
 else
 (bX (p0.Kind==12) (some (p0.A==1))).bind fun d=>
 if d=true then
 some (⟨#[119,114,97,112,32,111,110]⟩:ByteArray)
 else
 if (p0.Kind==12)=true then
 some (⟨#[119,114,97,112,32,111,102,102]⟩:ByteArray)
 else
 (dq p0.Kind).bind fun c=>
 (slc ([p0.A,p0.B]:List Int) 0 c.2).bind fun b=>
 (cV (σ:=(List ByteArray)×Int) (τ:=(List ByteArray)) (((b.length:Int) - 0).toNat+1) (fun a=>
 if (decide (a.2 < (b.length:Int)))=true then
 (idx b a.2).bind fun h=>
 (bu h).bind fun i=>
 (app a.1 ([i]:List ByteArray)).bind fun j=>
 some (.inl (j,(w64 (a.2+1))))
 else
 some (.inr (a.1))) (c.1,0)).bind fun e=>
 (fJ e (⟨#[32]⟩:ByteArray)).bind fun k=>
 some k
theorem xy (O0:Own c0 G F) (hT:Et c0) (a:ba) {r:ByteArray} (h2:Sl (RI .u8) c0 v1 a.Bytes) (H:iB a=some r): Calls prog 32 #[.agg #[I a.Kind,I a.A,I a.B,v1]] c0.w (aO c0 fun c v=>Own c G (F)∧v= .string r):=by
 unfold iB at H;refine en func32 rfl rfl (sr ?_);obtain ⟨a3,a4,a5,rfl⟩:=(h2).form;refine me (bx 81 [I a.Kind,I a.A,I a.B,.slice a3 a4 a5] O0) ?_;rintro v10 c9 l9 ⟨f,rfl,O7,g⟩;refine va (.string (⟨#[]⟩:ByteArray)) (wln (W.seq (W.block (sr (vx (lN 81 g) (bn H fun Z i1 H=>cl (wR O7 a h2.m i1) ?_))))));rintro v17 p l16 ⟨o,rfl⟩;refine vv (B (!Z)) (wln (cn H (fun j1 H=>?_) (fun j1 H=>?_)))
 ·refine sr (va (.string (⟨#[]⟩:ByteArray)) (wln (W.ret (bkr (thr ?_)))));obtain rfl:=si H;exact r1 (qq p ⟨o,rfl⟩)
 refine sr (va (Q f) (vx (l1 u_3 ((mm g) 0 _ rfl)) (vv (B (a.Kind==0)) (wln (cn H (fun k1 H=>?_) (fun k1 H=>?_))))))
 ·refine sr (va (Qo f (0+3)) (vx (l1 mZ ((mm g) 3 _ rfl)) (bn H fun f3 m1 H=>cl (zi o a.Bytes h2.m m1) ?_)));rintro v26 e1 o3 ⟨w0,rfl⟩;refine bn H fun D n1 H=>vr (.string D) (rx (by kernel_rfl) (lB n1 _)) (va (.string D) (wln (W.ret (bkr (thr ?_)))));obtain rfl:=si H;exact r1 (qq e1 ⟨w0,rfl⟩)
 refine W.seq (bn H fun j0 R H=>W.join (Jn p fun c l=>Own c G (F)∧l= [(1,Q f),(19,B j0)]) ?_ ?_)
 ·clear H;refine W.region (va (Q f) (vx (l1 u_3 ((mm g) 0 _ rfl)) (va (B (a.Kind==12)) ?_)));rcases bo (a.Kind==12) with i | i
  ·have v0:=anT i R;refine vb i (wa (Qo f (0+1)) (wn (vx (l1 u_3 ((mm g) 1 _ rfl)) (wa (B (a.A==1)) ?_))));obtain rfl:=si v0;exact vv (B (a.A==1)) (wln (jn p ⟨o,rfl⟩))
  obtain rfl:=anF i R;exact vb i (pz (ps (vv (B false) (wln (jn p ⟨o,rfl⟩)))))
 rintro e_ w_ ⟨P,m3,_,rfl,p3,rfl,t,rfl⟩;refine nrm (cn H (fun p1 H=>?_) (fun p1 H=>?_))
 ·refine sr (va (.string (⟨#[119,114,97,112,32,111,110]⟩:ByteArray)) (wln (W.ret (bkr (thr ?_)))));obtain rfl:=si H;exact r1 (qq P ⟨t,rfl⟩)
 refine sr (va (Q f) (vx (l1 u_3 ((mm g) 0 _ rfl)) (vv (B (a.Kind==12)) (wln (cn H (fun q1 H=>?_) (fun q1 H=>?_))))))
 ·refine sr (va (.string (⟨#[119,114,97,112,32,111,102,102]⟩:ByteArray)) (wln (W.ret (bkr (thr ?_)))));obtain rfl:=si H;exact r1 (qq P ⟨t,rfl⟩)
 refine W.skip (bkn (nrm (sr (va (Q f) (vx (l1 u_3 ((mm g) 0 _ rfl)) (bn H fun h s1 H=>cl (lZ t a.Kind s1) ?_))))));rintro v49 h3 q3 ⟨v40,l2,x0,rfl,t1,c4⟩;refine va (.tuple #[v40,I h.2]) (va (v40) (va (I h.2) (va (v40) (va (I h.2) (wln (W.seq (sr (va (Qo f (0+1)) (vx (l1 u_3 ((mm g) 1 _ rfl)) (va (Qo f (0+2)) (vx (l1 u_3 ((mm g) 2 _ rfl)) (me (sl (RI .i64) 3 [[I a.A],[I a.B]] ([a.A,a.B]:List Int) x0 ⟨rfl,rfl,trivial⟩) ?_))))))))))));rintro v54 i3 s3 ⟨X,y0,u1⟩;refine va (I h.2) (bn H fun E w1 H=>?_);obtain ⟨u,y1,t3,z0,x1⟩:=y0.frz 0 rfl u1;refine WL.gh y1 ?_;obtain ⟨v60,z1,x⟩:=qm (k':= .i64) zM (by kernel_rfl) x1 w1;refine vr v60 (rx (by kernel_rfl) (z1 _)) (vx (ln 3 zM x) (va (I 0) (wln (W.block (bn H fun t0 S n=>lp S (fun b=>Jn u fun c l=>∃d s,Own c G (es true RS d 9 s b.1 :: es false (RI .i64) v54 3 X ([a.A,a.B]:List Int) :: F)∧l= [(3,d),(44,v60),(45,I (E.length:Int)),(46,I b.2)]∧OA RS c d s b.1) (fun q ex e w=>ex= .exit 1∧(Jn u fun c l=>∃j y,Own c G (es true RS j 9 y q :: es false (RI .i64) v54 3 X ([a.A,a.B]:List Int) :: F)∧l= [(3,j)]∧OA RS c j y q) e w) ?_ ?_ ?_)))))
 ·clear n S;intro b b4 h1 o2 H;revert h1 o2;rintro e_ w_ ⟨f1,n3,_,rfl,j2,rfl,d,s,N,rfl,T⟩;refine sr (va (B (decide (b.2 < (E.length:Int)))) (wln (W.seq (cn H (fun b2 H=>?_) (fun b2 H=>?_)))))
  ·refine W.skip (nrm (W.seq (W.block (sr (bn H fun k U H=>?_)))));obtain ⟨d3,c2,k2⟩:=Sl.at (x.mono j2) (bW U);obtain rfl:=c2;refine vx (ix zM x.m U) (vx (l1 u_3 (k2 0 _ rfl)) (va (I k) (wln (W.region (va (d) (va (I k) (bn H fun M d2 H=>cl (dt N hT.m k d2) ?_)))))));rintro y3 j3 u3 ⟨a1,rfl⟩;refine me (sl RS 9 [[.string M]] ([M]:List ByteArray) a1 ⟨rfl,trivial⟩) ?_;rintro z3 k3 v3 ⟨x3,b1,e2⟩;obtain ⟨l3,g2,w3,c1,f2⟩:=b1.frz 0 rfl e2;refine WL.gh g2 (bn H fun g3 i2 H=>me (ap RS (.string ByteArray.empty) 16 83 1 c1 T.m f2 i2 nq) ?_);rintro z h0 y2 ⟨m2,d1,k0⟩;refine va (z) (WL.nil (bkn (nrm (W.region (vv (I (w64 (b.2+1))) (WL.nil ?_))))));obtain rfl:=si H;refine ⟨_,rfl,?_⟩;have a0:=d1.sD 3 [1,2];exact jn h0 ⟨z,m2,a0,rfl,k0⟩
  refine W.exit (thx ?_);obtain rfl:=si H;exact ⟨_,rfl,rfl,jn f1 ⟨d,s,N,rfl,T⟩⟩
 ·have b0:=z0.sD 2 [1,0];exact jn u ⟨v40,l2,b0,rfl,t1.m⟩
 rintro _ e_ w_ ⟨rfl,v2,x2,_,rfl,z2,rfl,j,y,d0,rfl,l0⟩;refine bke (nrm (sr (va (j) ?_)));obtain ⟨w2,o0,b3,e0,m0⟩:=d0.frz 0 rfl l0;refine WL.gh o0 (bn n fun u0 q0 n=>cl (lW e0 hT.m t0 (⟨#[32]⟩:ByteArray) m0 q0) ?_);rintro e3 i0 c3 ⟨f0,rfl⟩;refine va (.string u0) (wln (W.ret ?_));obtain rfl:=si n;have g0:=f0.sD 2 [];exact r1 (qq i0 ⟨g0,rfl⟩)
def dk (p0:ByteArray) (p1:ByteArray):Option (Bool):=
 (bX (decide ((bL p0)≥(bL p1))) ((na p0 0 (bL p1)).bind fun a=>
 some (eqS a p1))).bind fun b=>
 some b
theorem kG (g:Own c0 G F) (d:ByteArray) (a:ByteArray) {r:Bool} (H:dk d a=some r): Calls prog 38 #[.string d,.string a] c0.w (aO c0 fun c v=>Own c G (F)∧v=B r):=by
 unfold dk at H;refine en func38 rfl rfl (sr (va (B false) (wln (W.seq (bn H fun h i H=>W.join (Jn c0 fun c l=>Own c G (F)∧l= [(4,B h)]) ?_ ?_)))))
 ·clear H;refine W.region (va (.string d) (vr (I (bL d)) (rx (by kernel_rfl) (dP (ty:=3) u_9 _)) (va (.string a) (vr (I (bL a)) (rx (by kernel_rfl) (dP (ty:=3) u_9 _)) (va (B (decide ((bL d)≥(bL a)))) ?_)))));rcases bo (decide ((bL d)≥(bL a))) with e | e
  ·have f:=anT e i;refine vb e (wa (.string d) (wa (.string a) (wn (vr (I (bL a)) (rx (by kernel_rfl) (dP (ty:=3) u_9 _)) (wn (bn f fun b m f=>vr (.string b) (rx (by kernel_rfl) (tP (k':= .i64) u_9 m _)) (wa (.string a) (wn (vr (B (eqS b a)) (iE (by kernel_rfl)) ?_)))))))));obtain rfl:=si f;exact vv (B (eqS b a)) (wln (jn c0 ⟨g,rfl⟩))
  obtain rfl:=anF e i;exact vb e (pz (pz (pz (vv (B false) (wln (jn c0 ⟨g,rfl⟩))))))
 rintro n q ⟨k,o,_,rfl,p,rfl,j,rfl⟩;refine nrm (W.ret ?_);obtain rfl:=si H;exact r1 (qq k ⟨j,rfl⟩)
def fX (p0:ByteArray) (p1:ByteArray):Option (Bool):=
 (dk p0 p1).bind fun a=>
 some a
theorem rk (e:Own c0 G F) (a:ByteArray) (b:ByteArray) {r:Bool} (H:fX a b=some r): Calls prog 20 #[.string a,.string b] c0.w (aO c0 fun c v=>Own c G (F)∧v=B r):=by
 unfold fX at H;refine en func20 rfl rfl (sr (va (B false) (wln (sr (va (.string a) (va (.string b) (bn H fun d h H=>cl (kG e a b h) ?_)))))));rintro v7 g i ⟨f,rfl⟩;refine va (B d) (wln (W.ret ?_));obtain rfl:=si H;exact r1 (qq g ⟨f,rfl⟩)
def cp (p0:List ByteArray):Option (ByteArray):=
 (fJ p0 (⟨#[32]⟩:ByteArray)).bind fun a=>
 (rW a (⟨#[10]⟩:ByteArray)).bind fun b=>
 some b
theorem ic (e:Own c0 G F) (hT:Et c0) (b:List ByteArray) {r:ByteArray} (h:Sl RS c0 v1 b) (H:cp b=some r): Calls prog 30 #[v1] c0.w (aO c0 fun c v=>Own c G (F)∧v= .string r):=by
 unfold cp at H;refine en func30 rfl rfl (sr (va (.string (⟨#[]⟩:ByteArray)) (wln (sr (va (v1) (bn H fun j i H=>cl (lW e hT b (⟨#[32]⟩:ByteArray) h i) ?_))))));rintro v9 g k ⟨f,rfl⟩;refine bn H fun a d H=>vr (.string a) (rx (by kernel_rfl) (lB d _)) (va (.string a) (wln (W.ret ?_)));obtain rfl:=si H;exact r1 (qq g ⟨f,rfl⟩)
def eD (p0:Er):Option (ByteArray):=
 (qz p0).bind fun d=>
 if (!d)=true then
 some (⟨#[63,10]⟩:ByteArray)
 else
 (flt p0).bind fun a=>
 (bu a.1).bind fun b=>
 (cp ([(⟨#[63]⟩:ByteArray),b]:List ByteArray)).bind fun c=>
 some c
theorem og (N:Own c0 G F) (hU:Eh c0) (hT:Et c0) (e:Er) {r:ByteArray} (S:RE 318 126 c0 v1 e) (H:eD e=some r): Calls prog 40 #[v1] c0.w (aO c0 fun c v=>Own c G (F)∧v= .string r):=by
 unfold eD at H;refine en func40 rfl rfl (sr (va (.string (⟨#[]⟩:ByteArray)) (wln (sr (me (al 126 [.pointer none] N) ?_)))));rintro v6 c5 l5 ⟨R,rfl,P⟩;refine wln (W.seq (sr (va (v1) (va (.iface 128 (Q R)) (bn H fun M T H=>cl (A4 P hU.m e S.m T) ?_)))));rintro v11 o b0 ⟨v8,d,rfl,q⟩;refine va (B (!M)) (wln (cn H (fun s H=>?_) (fun s H=>?_)))
 ·refine sr (va (.string (⟨#[63,10]⟩:ByteArray)) (wln (W.ret (thr ?_))));obtain rfl:=si H;have h:=d.sD 1 [];exact r1 (qq o ⟨h,rfl⟩)
 refine W.skip (nrm (sr (vx (le1 0 underlying126 (d.on 0 rfl)) (bn H fun f t H=>?_))));obtain ⟨b,v17,u,E,a0⟩:=(q).get t;subst u;refine vv (Q b) (vx (l1 u_3 (E 0 _ rfl)) (bn H fun a x H=>cl (dt d hT.m f.1 x) ?_));rintro v27 U d0 ⟨i,rfl⟩;refine me (sl RS 9 [[.string (⟨#[63]⟩:ByteArray)],[.string a]] ([(⟨#[63]⟩:ByteArray),a]:List ByteArray) i ⟨rfl,rfl,trivial⟩) ?_;rintro v32 X e0 ⟨h0,j,y⟩;obtain ⟨Z,A,f0,k,z⟩:=j.frz 0 rfl y;refine WL.gh A (bn H fun g D H=>cl (ic k hT.m ([(⟨#[63]⟩:ByteArray),a]:List ByteArray) z D) ?_);rintro v43 p g0 ⟨l,rfl⟩;refine va (.string g) (wln (W.ret ?_));obtain rfl:=si H;have n:=l.sD 2 [];exact r1 (qq p ⟨n,rfl⟩)
def eG (sg:Sto) (p0:Option Nat):Option (ByteArray):=
 (p0).bind fun a=>
 (sg.console_console[a]?).bind fun b=>
 (di sg b.s).bind fun c=>
 (jY c).bind fun d=>
 some d
theorem pI (a:Own c0 G F) (g:Rel c0 sg G) (hB:Tb6 c0) (hT:Et c0) (q:Option Nat) {r:ByteArray} (x:Pt 6 c0 v1 q) (H:eG sg q=some r): Calls prog 15 #[v1] c0.w (aO c0 fun c v=>Own c G (F)∧v= .string r):=by
 unfold eG at H;refine en func15 rfl rfl (sr (va (.string (⟨#[]⟩:ByteArray)) (wln (sr (va (v1) (bn H fun P z H=>?_))))));obtain ⟨h,rfl,y⟩:=(x).get z;refine vv (Q h) (bn H fun p A H=>?_);obtain ⟨v7,E,D⟩:=Rel.open_console_console g A y;refine vx (le1 0 Dg (a.gon E 0 rfl)) (bn H fun t j H=>cl (iw a g p.s D j) ?_);rintro v19 M R ⟨v11,U,b,rfl,k⟩;obtain ⟨N,n,S,d,l⟩:=b.frz 0 rfl k;refine WL.gh n (bn H fun u o H=>cl (A0 d hB.m hT.m t l o) ?_);rintro v30 i T ⟨e,rfl⟩;refine va (.string u) (wln (W.ret ?_));obtain rfl:=si H;have f:=e.sD 1 [];exact r1 (qq i ⟨f,rfl⟩)
def eC (p0:ByteArray) (p1:ByteArray):Option (ByteArray):=
 (dk p0 p1).bind fun b=>
 if b=true then
 (na p0 (bL p1) (bL p0)).bind fun a=>
 some a
 else
 some p0
theorem nJ (g:Own c0 G F) (a:ByteArray) (b:ByteArray) {r:ByteArray} (H:eC a b=some r): Calls prog 54 #[.string a,.string b] c0.w (aO c0 fun c v=>Own c G (F)∧v= .string r):=by
 unfold eC at H;refine en func54 rfl rfl (sr (va (.string (⟨#[]⟩:ByteArray)) (wln (W.seq (sr (va (.string a) (va (.string b) (bn H fun l h H=>cl (kG g a b h) ?_))))))));rintro v7 f m ⟨e,rfl⟩;refine wln (cn H (fun i H=>?_) (fun i H=>?_))
 ·refine sr (va (.string a) (va (.string b) (vr (I (bL b)) (rx (by kernel_rfl) (dP (ty:=3) u_9 _)) (bn H fun d j H=>vr (.string d) (rx (by kernel_rfl) (xV (k:= .i64) u_9 j _)) (va (.string d) (wln (W.ret (thr ?_))))))));obtain rfl:=si H;exact r1 (qq f ⟨e,rfl⟩)
 refine W.skip (nrm (sr (vv (.string a) (wln (W.ret ?_)))));obtain rfl:=si H;exact r1 (qq f ⟨e,rfl⟩)
def dD (p0:ByteArray) (p1:ByteArray):Option (ByteArray):=
 (eC p0 p1).bind fun a=>
 some a
theorem mT (e:Own c0 G F) (a:ByteArray) (b:ByteArray) {r:ByteArray} (H:dD a b=some r): Calls prog 31 #[.string a,.string b] c0.w (aO c0 fun c v=>Own c G (F)∧v= .string r):=by
 unfold dD at H;refine en func31 rfl rfl (sr (va (.string (⟨#[]⟩:ByteArray)) (wln (sr (va (.string a) (va (.string b) (bn H fun d h H=>cl (nJ e a b h) ?_)))))));rintro v7 g i ⟨f,rfl⟩;refine va (.string d) (wln (W.ret ?_));obtain rfl:=si H;exact r1 (qq g ⟨f,rfl⟩)
def eF (sg:Sto) (p0:Option Nat):Option (ByteArray):=
 (p0).bind fun d=>
 (sg.console_console[d]?).bind fun e=>
 (di sg e.s).bind fun f=>
 (gy f).bind fun g=>
 (iB (⟨0,0,0,g⟩:ba)).bind fun a=>
 (dD a (⟨#[102,101,101,100,32]⟩:ByteArray)).bind fun b=>
 (cp ([b]:List ByteArray)).bind fun c=>
 some c
theorem pG (f:Own c0 G F) (t:Rel c0 sg G) (hG:Gl [1] c0) (hT:Et c0) (p0:Option Nat) {r:ByteArray} (h2:Pt 6 c0 v1 p0) (H:eF sg p0=some r): Calls prog 16 #[v1] c0.w (aO c0 fun c v=>Own c G (F)∧v= .string r):=by
 unfold eF at H;refine en func16 rfl rfl (sr (va (.string (⟨#[]⟩:ByteArray)) (wln (sr (va (v1) (bn H fun y0 h5 H=>?_))))));obtain ⟨z,rfl,h4⟩:=(h2).get h5;refine vv (Q z) (bn H fun d0 h6 H=>?_);obtain ⟨v7,h9,h8⟩:=Rel.open_console_console t h6 h4;refine vx (le1 0 Dg (f.gon h9 0 rfl)) (bn H fun f0 D H=>cl (iw f t d0.s h8 D) ?_);rintro v19 o0 z0 ⟨v11,i1,g,rfl,E⟩;obtain ⟨q0,N,a1,h,M⟩:=g.frz 0 rfl E;refine WL.gh N (bn H fun g0 P H=>cl (ul h (hG.m.le (by decide)) f0 M P) ?_);rintro v25 s0 b1 ⟨_,j1,i,rfl,b⟩;obtain ⟨u,x,y,rfl⟩:=(b).form;refine va (.agg #[I 0,I 0,I 0,.slice u x y]) ?_;obtain ⟨t0,S,c1,j,R⟩:=i.frz 0 rfl b;refine WL.gh S (bn H fun d T H=>cl (xy j hT.m (⟨0,0,0,g0⟩:ba) R T) ?_);rintro v47 u0 d1 ⟨k,rfl⟩;refine bn H fun a U H=>cl (mT k d (⟨#[102,101,101,100,32]⟩:ByteArray) U) ?_;rintro v54 v0 e1 ⟨l,rfl⟩;refine me (sl RS 9 [[.string a]] ([a]:List ByteArray) l ⟨rfl,trivial⟩) ?_;rintro v59 w0 f1 ⟨k1,n,X⟩;obtain ⟨x0,a0,g1,o,Z⟩:=n.frz 0 rfl X;refine WL.gh a0 (bn H fun e b0 H=>cl (ic o hT.m ([a]:List ByteArray) Z b0) ?_);rintro m1 A h1 ⟨p,rfl⟩;refine va (.string e) (wln (W.ret ?_));obtain rfl:=si H;have q:=p.sD 3 [];exact r1 (qq A ⟨q,rfl⟩)
def ee (sg:Sto) (p0:Option Nat):Option (ByteArray):=
 (p0).bind fun g=>
 (sg.console_console[g]?).bind fun h=>
 (di sg h.s).bind fun c=>
 (bu c.At.Row).bind fun a=>
 (bu c.At.Col).bind fun b=>
 (if c.At.Pending=true then
 (app ([a,b]:List ByteArray) ([(⟨#[112,101,110,100,105,110,103]⟩:ByteArray)]:List ByteArray)).bind fun d=>
 some (d)
 else
 some (([a,b]:List ByteArray))).bind fun f=>
 (cp f).bind fun e=>
 some e
theorem oB (z:Own c0 G F) (Z:Rel c0 sg G) (hT:Et c0) (p0:Option Nat) {r:ByteArray} (h2:Pt 6 c0 v1 p0) (H:ee sg p0=some r): Calls prog 17 #[v1] c0.w (aO c0 fun c v=>Own c G (F)∧v= .string r):=by
 unfold ee at H;refine en func17 rfl rfl (sr (va (.string (⟨#[]⟩:ByteArray)) (wln (sr (va (v1) (bn H fun c2 h5 H=>?_))))));obtain ⟨b3,rfl,h4⟩:=(h2).get h5;refine vv (Q b3) (bn H fun y0 h6 H=>?_);obtain ⟨v7,h9,h8⟩:=Rel.open_console_console Z h6 h4;refine vx (le1 0 Dg (z.gon h9 0 rfl)) (bn H fun a h0 H=>cl (iw z Z y0.s h8 h0) ?_);rintro v19 q1 d2 ⟨v11,d1,A,rfl,b2⟩;refine va (.agg #[I a.At.Row,I a.At.Col,B a.At.Pending]) (me (al 55 [I 0,I 0,B false] A) ?_);rintro v23 s1 e2 ⟨b,rfl,D⟩;refine md (sA 55 [I a.At.Row,I a.At.Col,B a.At.Pending] 0 D ⟨rfl,rfl,rfl,trivial⟩) ?_;rintro t1 f2 E;refine wln (W.seq (rD [] (Kp G0 [(Eb b 55 [I a.At.Row,I a.At.Col,B a.At.Pending])]) E ?_));intro b0 g2 n;have t:Kp G0 [(Eb b 55 [I a.At.Row,I a.At.Col,B a.At.Pending])] b0:=(Kp.cons (n.on 0 rfl) Kp.nil0);refine ta 0 (Q b) (tkx 1 t (fun c' x0 x=>le1 0 u_3 (x.on 0 rfl)) (ta 3 (Qo b 1) (tkx 4 t (fun c' x0 x=>le1 1 u_3 (x.on 0 rfl)) (bn H fun j i0 H=>o1 2 (gc 2 (dt n hT.m a.At.Row i0) ?_)))));rintro v35 d0 i2 ⟨o,rfl⟩;have a1:Kp G0 [(Eb b 55 [I a.At.Row,I a.At.Col,B a.At.Pending])] d0:=(Kp.cons (o.on 0 rfl) Kp.nil0);refine ⟨.inr a1,bn H fun k j0 H=>o1 5 (gc 5 (dt o hT.m a.At.Col j0) ?_)⟩;rintro v43 e0 j2 ⟨p,rfl⟩;have b1:Kp G0 [(Eb b 55 [I a.At.Row,I a.At.Col,B a.At.Pending])] e0:=(Kp.cons (p.on 0 rfl) Kp.nil0);refine ⟨.inr b1,o1 6 (gm 6 (sl RS 9 [[.string j],[.string k]] ([j,k]:List ByteArray) p ⟨rfl,rfl,trivial⟩) ?_)⟩;rintro v49 h k2 ⟨e1,f,q⟩;have c1:Kp G0 [(Eb b 55 [I a.At.Row,I a.At.Col,B a.At.Pending])] h:=(Kp.cons (f.on 1 rfl) Kp.nil0);refine ⟨.inr c1,ta 7 (v49) (dn (nrm (bn H fun e d g=>W.seqJ (Jn h fun c l=>∃v53 i,Own c G (es true RS v53 9 i e :: (Eb b 55 [I a.At.Row,I a.At.Col,B a.At.Pending]) :: es true cU v11 101 d1 a.Lines :: F)∧l= [(4,v53)]∧OA RS c v53 i e) ?_ ?_)))⟩
 ·refine sr (va (Qo b 2) (vx (le1 2 u_4 (f.on 1 rfl)) (wln (cn d (fun k0 d=>?_) (fun k0 d=>?_)))))
  ·refine W.region (va (v49) (me (sl RS 9 [[.string (⟨#[112,101,110,100,105,110,103]⟩:ByteArray)]] ([(⟨#[112,101,110,100,105,110,103]⟩:ByteArray)]:List ByteArray) f ⟨rfl,trivial⟩) ?_));rintro v60 u1 l2 ⟨s2,M,l0⟩;obtain ⟨w1,o0,m2,N,m0⟩:=M.frz 0 rfl l0;refine WL.gh o0 (bn d fun p1 q0 d=>me (ap RS (.string ByteArray.empty) 16 83 1 N q.m m0 q0 nq) ?_);rintro u f0 n2 ⟨f1,P,s0⟩;refine va (u) (wln ?_);obtain rfl:=si d;have R:=P.sD 4 [1,2,3];exact jn f0 ⟨u,f1,R,rfl,s0⟩
  refine W.skip (nrm ?_);obtain rfl:=si d;exact jn h ⟨v49,e1,f,rfl,q⟩
 rintro e_ w_ ⟨x1,z1,_,rfl,o2,rfl,v53,i,S,rfl,t0⟩;refine sr (va (v53) ?_);obtain ⟨y1,v0,p2,T,u0⟩:=S.frz 0 rfl t0;refine WL.gh v0 (bn g fun y w0 g=>cl (ic T hT.m e u0 w0) ?_);rintro t2 g0 q2 ⟨U,rfl⟩;refine va (.string y) (wln (W.ret ?_));obtain rfl:=si g;have X:=U.sD 3 [];exact r1 (qq g0 ⟨X,rfl⟩)
def eI (sg:Sto) (p0:Option Nat):Option (ByteArray):=
 (p0).bind fun b=>
 (sg.console_console[b]?).bind fun c=>
 (fM sg c.s).bind fun d=>
 (bu d).bind fun e=>
 (cp ([e]:List ByteArray)).bind fun a=>
 some a
theorem pK (d:Own c0 G F) (k:Rel c0 sg G) (hT:Et c0) (z:Option Nat) {r:ByteArray} (D:Pt 6 c0 v1 z) (H:eI sg z=some r): Calls prog 18 #[v1] c0.w (aO c0 fun c v=>Own c G (F)∧v= .string r):=by
 unfold eI at H;refine en func18 rfl rfl (sr (va (.string (⟨#[]⟩:ByteArray)) (wln (sr (va (v1) (bn H fun Z M H=>?_))))));obtain ⟨l,rfl,E⟩:=(D).get M;refine vv (Q l) (bn H fun y N H=>?_);obtain ⟨v7,R,P⟩:=Rel.open_console_console k N E;refine vx (le1 0 Dg (d.gon R 0 rfl)) (bn H fun A o H=>cl (qH d k y.s P o) ?_);rintro v16 S a0 ⟨e,rfl⟩;refine bn H fun a p H=>cl (dt e hT.m A p) ?_;rintro v23 T b0 ⟨f,rfl⟩;refine me (sl RS 9 [[.string a]] ([a]:List ByteArray) f ⟨rfl,trivial⟩) ?_;rintro v28 U d0 ⟨g0,g,q⟩;obtain ⟨X,u,e0,h,t⟩:=g.frz 0 rfl q;refine WL.gh u (bn H fun b x H=>cl (ic h hT.m ([a]:List ByteArray) t x) ?_);rintro v39 n f0 ⟨i,rfl⟩;refine va (.string b) (wln (W.ret ?_));obtain rfl:=si H;have j:=i.sD 1 [];exact r1 (qq n ⟨j,rfl⟩)
def eE (sg:Sto) (p0:Option Nat):Option (ByteArray):=
 (p0).bind fun g=>
 (sg.console_console[g]?).bind fun h=>
 (di sg h.s).bind fun a=>
 (kC a).bind fun b=>
 (bu b).bind fun c=>
 (kD a.Wide a.High).bind fun d=>
 (bu d).bind fun e=>
 (cp ([c,e]:List ByteArray)).bind fun f=>
 some f
theorem pF (P:Own c0 G F) (X:Rel c0 sg G) (hT:Et c0) (p0:Option Nat) {r:ByteArray} (h2:Pt 6 c0 v1 p0) (H:eE sg p0=some r): Calls prog 19 #[v1] c0.w (aO c0 fun c v=>Own c G (F)∧v= .string r):=by
 unfold eE at H;refine en func19 rfl rfl (sr (va (.string (⟨#[]⟩:ByteArray)) (wln (sr (va (v1) (bn H fun z1 h5 H=>?_))))));obtain ⟨Z,rfl,h4⟩:=(h2).get h5;refine vv (Q Z) (bn H fun c1 h6 H=>?_);obtain ⟨v7,h9,h8⟩:=Rel.open_console_console X h6 h4;refine vx (le1 0 Dg (P.gon h9 0 rfl)) (bn H fun a k0 H=>cl (iw P X c1.s h8 k0) ?_);rintro v19 w1 b2 ⟨v11,j2,R,rfl,i⟩;refine me (al 74 [I 0,I 0,Y,I 0,I 0,B false,B false] R) ?_;rintro v23 x1 D ⟨f,rfl,S⟩;obtain ⟨b,d,e,rfl⟩:=((i.mono D)).form;refine md (sA 74 [I a.Wide,I a.High,.slice b d e,I a.At.Row,I a.At.Col,B a.At.Pending,B a.Auto] 0 S ⟨rfl,rfl,i.m.one,rfl,rfl,rfl,rfl,trivial⟩) ?_;rintro y1 y0 T;refine wln (W.seq (rD [] (Kp G0 [(Eb f 74 [I a.Wide,I a.High,.slice b d e,I a.At.Row,I a.At.Col,B a.At.Pending,B a.Auto])]) T ?_));intro b0 z0 l;have k:Kp G0 [(Eb f 74 [I a.Wide,I a.High,.slice b d e,I a.At.Row,I a.At.Col,B a.At.Pending,B a.Auto])] b0:=(Kp.cons (l.on 0 rfl) Kp.nil0);refine tkx 0 k (fun c' A j=>leN 74 0 [I a.Wide,I a.High,.slice b d e,I a.At.Row,I a.At.Col,B a.At.Pending,B a.Auto] (j.on 0 rfl)) (ta 3 (Q f) (tkx 4 k (fun c' A j=>le1 0 u_3 (j.on 0 rfl)) (ta 5 (Qo f 1) (tkx 6 k (fun c' A j=>le1 1 u_3 (j.on 0 rfl)) ?_))));obtain ⟨d0,m0,a1,n,l0⟩:=l.frz 1 rfl (i.mono (D.trans (y0.trans z0)));have e1:Kp G0 [(Eb f 74 [I a.Wide,I a.High,.slice b d e,I a.At.Row,I a.At.Col,B a.At.Pending,B a.Auto])] d0:=(Kp.cons (n.on 0 rfl) Kp.nil0);refine AC.gh m0 a1 (fun _=>e1) (bn H fun E o0 H=>o1 1 (gc 1 (zv n a l0 o0) ?_));rintro v43 e0 c2 ⟨o,rfl⟩;have f1:Kp G0 [(Eb f 74 [I a.Wide,I a.High,.slice b d e,I a.At.Row,I a.At.Col,B a.At.Pending,B a.Auto])] e0:=(Kp.cons (o.on 0 rfl) Kp.nil0);refine ⟨.inr f1,bn H fun g q0 H=>o1 2 (gc 2 (dt o hT.m E q0) ?_)⟩;rintro v51 f0 d2 ⟨p,rfl⟩;have g1:Kp G0 [(Eb f 74 [I a.Wide,I a.High,.slice b d e,I a.At.Row,I a.At.Col,B a.At.Pending,B a.Auto])] f0:=(Kp.cons (p.on 0 rfl) Kp.nil0);refine ⟨.inr g1,bn H fun M s0 H=>o1 7 (gc 7 (zw p a.Wide a.High s0) ?_)⟩;rintro v59 g0 e2 ⟨q,rfl⟩;have h1:Kp G0 [(Eb f 74 [I a.Wide,I a.High,.slice b d e,I a.At.Row,I a.At.Col,B a.At.Pending,B a.Auto])] g0:=(Kp.cons (q.on 0 rfl) Kp.nil0);refine ⟨.inr h1,bn H fun h t0 H=>o1 8 (gc 8 (dt q hT.m M t0) ?_)⟩;rintro l2 h0 f2 ⟨t,rfl⟩;have i1:Kp G0 [(Eb f 74 [I a.Wide,I a.High,.slice b d e,I a.At.Row,I a.At.Col,B a.At.Pending,B a.Auto])] h0:=(Kp.cons (t.on 0 rfl) Kp.nil0);refine ⟨.inr i1,o1 9 (gm 9 (sl RS 9 [[.string g],[.string h]] ([g,h]:List ByteArray) t ⟨rfl,rfl,trivial⟩) ?_)⟩;rintro m2 i0 g2 ⟨k2,u,u0⟩;have j1:Kp G0 [(Eb f 74 [I a.Wide,I a.High,.slice b d e,I a.At.Row,I a.At.Col,B a.At.Pending,B a.Auto])] i0:=(Kp.cons (u.on 1 rfl) Kp.nil0);refine ⟨.inr j1,?_⟩;obtain ⟨j0,w0,b1,x,v0⟩:=u.frz 0 rfl u0;have k1:Kp G0 [(Eb f 74 [I a.Wide,I a.High,.slice b d e,I a.At.Row,I a.At.Col,B a.At.Pending,B a.Auto])] j0:=(Kp.cons (x.on 1 rfl) Kp.nil0);refine AC.gh w0 b1 (fun _=>k1) (bn H fun N x0 H=>o1 10 (gc 10 (ic x hT.m ([g,h]:List ByteArray) v0 x0) ?_));rintro n2 z i2 ⟨y,rfl⟩;have m1:Kp G0 [(Eb f 74 [I a.Wide,I a.High,.slice b d e,I a.At.Row,I a.At.Col,B a.At.Pending,B a.Auto])] z:=(Kp.cons (y.on 1 rfl) Kp.nil0);refine ⟨.inr m1,ta 11 (.string N) (dn (nrm (W.ret ?_)))⟩;obtain rfl:=si H;have U:=y.sD 3 [];exact r1 (qq z ⟨U,rfl⟩)
def jl (sg:Sto) (p0:Option Nat) (p1:ByteArray):Option (Sto×ByteArray):=
 (dD p1 (⟨#[115,105,122,101]⟩:ByteArray)).bind fun f=>
 (rW (⟨#[109,111,118,101]⟩:ByteArray) f).bind fun g=>
 (fL g).bind fun b=>
 if (!b.2.isNil)=true then
 (eD b.2).bind fun e=>
 some (sg,e)
 else
 (jg sg b.1.A b.1.B).bind fun a=>
 (p0).bind fun d=>
 (a.1.console_console[d]?).bind fun h=>
 (a.1.set_console_console d (⟨a.2⟩:co)).bind fun c=>
 some (c,(⟨#[111,107,10]⟩:ByteArray))
theorem pH (O0:Own c0 G F) (S:Rel c0 sg G) (hG:Gl [6] c0) (hU:Eh c0) (hT:Et c0) (p0:Option Nat) (i:ByteArray) {r:Sto×ByteArray} (h2:Pt 6 c0 v1 p0) (H:jl sg p0 i=some r): Calls prog 21 #[v1,.string i] c0.w (aO c0 fun c v=>∃G_:Gm,Own c G_ (F)∧Rel c r.1 G_∧v= .string r.2):=by
 unfold jl at H;refine en func21 rfl rfl (sr (va (.string (⟨#[]⟩:ByteArray)) (wln (sr (va (.string i) (bn H fun q1 h3 H=>cl (mT O0 i (⟨#[115,105,122,101]⟩:ByteArray) h3) ?_))))));rintro v9 c8 l8 ⟨O5,rfl⟩;refine bn H fun s d0 H=>vr (.string s) (rx (by kernel_rfl) (lB d0 _)) (bn H fun a e0 H=>cl (qG O5 (hG.m.le (by decide)) hT.m s e0) ?_);rintro v22 f1 m0 ⟨v12,n1,v15,y,rfl,l,n⟩;refine va (.tuple #[.agg #[I a.1.Kind,I a.1.A,I a.1.B,v12],v15]) (va (.agg #[I a.1.Kind,I a.1.A,I a.1.B,v12]) (va (v15) (me (al 81 [I 0,I 0,I 0,Y] y) ?_)));rintro v26 g1 p ⟨k,rfl,z⟩;obtain ⟨U,X,Z,rfl⟩:=((l.mono p)).form;refine md (sA 81 [I a.1.Kind,I a.1.A,I a.1.B,.slice U X Z] 0 z ⟨rfl,rfl,rfl,l.m.one,trivial⟩) ?_;rintro h1 o0 b;refine va (v15) (wln (W.seq (sr (va (v15) (vr (B (!a.2.isNil)) (by rcases n.m.cs with ⟨f,g⟩ | ⟨b_,f,g⟩ | ⟨b_,f,g⟩ <;> (subst f; rw [g]; kernel_rfl)) (wln (cn H (fun f0 H=>?_) (fun f0 H=>?_))))))))
 ·refine sr (va (v15) (bn H fun t g0 H=>cl (og b hU.m hT.m a.2 n.m g0) ?_));rintro v39 a0 m1 ⟨D,rfl⟩;refine va (.string t) (wln (W.ret (thr ?_)));obtain rfl:=si H;have E:=D.sD 2 [];exact r1 (qq a0 ⟨G,E,S.m,rfl⟩)
 refine W.skip (nrm (sr (va (v1) (va (Qo k 1) (vx (le1 1 u_3 (b.on 0 rfl)) (va (Qo k 2) (vx (le1 2 u_3 (b.on 0 rfl)) (bn H fun b1 h0 H=>cl (tu b S.m a.1.A a.1.B h0) ?_))))))));rintro v42 i1 q0 ⟨_,c1,M,j,d1,rfl,h⟩;refine bn H fun y0 i0 H=>?_;obtain ⟨e,rfl,o⟩:=((h2.mono (l8.trans (m0.trans (p.trans (o0.trans q0)))))).get i0;refine vv (Q e) ?_;obtain ⟨d,rfl⟩:=(h).form;refine bn H fun a1 j0 H=>?_;obtain ⟨v55,k0,j1⟩:=Rel.open_console_console j j0 o;refine md (gC 26 0 (.pointer d) [.pointer d] 0 M k0 ⟨h.one,trivial⟩) ?_;rintro b0 q N;refine bn H fun u l0 H=>?_;obtain ⟨x,P,T,k1,e1⟩:=Rel.put_console_console N (j.mono q) (E':=[(Eb e 29 [.pointer d])]) l0 ⟨e,(.pointer d),(tm o),rfl,(h.mono q)⟩;refine wln (sr (va (.string (⟨#[111,107,10]⟩:ByteArray)) (wln (W.ret ?_))));obtain rfl:=si H;have R:=P.sD 2 [];exact r1 (qq b0 ⟨x,R,T,rfl⟩)
def ir (sg:Sto) (p0:Option Nat) (p1:ByteArray):Option (Sto×ByteArray):=
 (fL p1).bind fun b=>
 if (!b.2.isNil)=true then
 (eD b.2).bind fun e=>
 some (sg,e)
 else
 (p0).bind fun c=>
 (sg.console_console[c]?).bind fun d=>
 (gH sg d.s b.1).bind fun a=>
 if (!a.2.isNil)=true then
 (nI a.2).bind fun f=>
 (bu f).bind fun g=>
 (cp ([(⟨#[114,101,102,117,115,101,100]⟩:ByteArray),g]:List ByteArray)).bind fun h=>
 some (a.1,h)
 else
 some (a.1,(⟨#[111,107,10]⟩:ByteArray))
theorem qM (O0:Own c0 G F) (N:Rel c0 sg G) (hG:Gl [0,1,2,3,4,5,6,7] c0) (hU:Eh c0) (hT:Et c0) (p0:Option Nat) (q:ByteArray) {r:Sto×ByteArray} (h2:Pt 6 c0 v1 p0) (H:ir sg p0 q=some r): Calls prog 22 #[v1,.string q] c0.w (aO c0 fun c v=>∃G_:Gm,Own c G_ (F)∧Rel c r.1 G_∧v= .string r.2):=by
 unfold ir at H;refine en func22 rfl rfl (sr (va (.string (⟨#[]⟩:ByteArray)) (wln (sr (va (.string q) (bn H fun a h3 H=>cl (qG O0 (hG.le (by decide)) hT q h3) ?_))))));rintro v14 b2 E ⟨v4,u5,v7,a0,rfl,R,h8⟩;refine va (.tuple #[.agg #[I a.1.Kind,I a.1.A,I a.1.B,v4],v7]) (va (.agg #[I a.1.Kind,I a.1.A,I a.1.B,v4]) (va (v7) (me (al 81 [I 0,I 0,I 0,Y] a0) ?_)));rintro v18 c2 i ⟨l,rfl,b0⟩;obtain ⟨e,f,g,rfl⟩:=((R.mono i)).form;refine md (sA 81 [I a.1.Kind,I a.1.A,I a.1.B,.slice e f g] 0 b0 ⟨rfl,rfl,rfl,R.m.one,trivial⟩) ?_;rintro d2 n u;refine va (v7) (wln (W.seq (sr (va (v7) (vr (B (!a.2.isNil)) (by rcases h8.m.cs with ⟨b,d⟩ | ⟨P,b,d⟩ | ⟨P,b,d⟩ <;> (subst b; rw [d]; kernel_rfl)) (wln (cn H (fun u0 H=>?_) (fun u0 H=>?_))))))))
 ·refine sr (va (v7) (bn H fun U v0 H=>cl (og u hU.m hT.m a.2 h8.m v0) ?_));rintro v31 m0 j2 ⟨d0,rfl⟩;refine va (.string U) (wln (W.ret (thr ?_)));obtain rfl:=si H;have e0:=d0.sD 2 [];exact r1 (qq m0 ⟨G,e0,N.m,rfl⟩)
 refine W.skip (nrm (W.seq (W.seq (rD [5] (Kp G [(Eb l 81 [I a.1.Kind,I a.1.A,I a.1.B,.slice e f g])]) u ?_))));intro o0 o j;have M:Kp G [(Eb l 81 [I a.1.Kind,I a.1.A,I a.1.B,.slice e f g])] o0:=(Kp.cons (j.on 0 rfl) (Kp.nil j));refine ta 0 (v1) (bn H fun z1 x0 H=>?_);obtain ⟨z,rfl,w0⟩:=((h2.mono (E.trans (i.trans (n.trans o))))).get x0;refine ta 1 (Q z) (ta 2 (Q z) (bn H fun T y0 H=>?_));obtain ⟨v40,a1,z0⟩:=Rel.open_console_console (N.mono (E.trans (i.trans (n.trans o)))) y0 w0;refine tkx 3 M (fun c' n1 S=>le1 0 Dg (S.gon a1 0 rfl)) (tkx 4 M (fun c' n1 S=>leN 81 0 [I a.1.Kind,I a.1.A,I a.1.B,.slice e f g] (S.on 0 rfl)) ?_);obtain ⟨q0,c1,q1,k,b1⟩:=j.frz 1 rfl (R.mono (i.trans (n.trans o)));have t1:Kp G [(Eb l 81 [I a.1.Kind,I a.1.A,I a.1.B,.slice e f g])] q0:=(Kp.cons (k.on 0 rfl) (Kp.nil k));refine AC.gh c1 q1 (fun _=>t1) (bn H fun p d1 H=>o1 5 (gc 5 (ss k N.m (hG.m.le (by decide)) T.s a.1 z0.m b1 d1) ?_));rintro v49 s0 k2 ⟨_,t,x,y,rfl,D⟩;refine ⟨.inl rfl,ta 6 (v49) (dn (nrm (sr (va (v49) (vr (B (!p.2.isNil)) (by rcases (D).cs with ⟨b,d⟩ | ⟨P,b,d⟩ | ⟨P,b,d⟩ <;> (subst b; rw [d]; kernel_rfl)) (wln (cn H (fun e1 H=>?_) (fun e1 H=>?_))))))))⟩
 ·refine sr (va (v49) (bn H fun X f1 H=>cl (B6 x (hG.m.le (by decide)) p.2 D f1) ?_));rintro s2 e2 l2 ⟨f0,rfl⟩;refine bn H fun h g1 H=>cl (dt f0 hT.m X g1) ?_;rintro t2 f2 m2 ⟨g0,rfl⟩;refine me (sl RS 9 [[.string (⟨#[114,101,102,117,115,101,100]⟩:ByteArray)],[.string h]] ([(⟨#[114,101,102,117,115,101,100]⟩:ByteArray),h]:List ByteArray) g0 ⟨rfl,rfl,trivial⟩) ?_;rintro u2 g2 n2 ⟨q2,h0,h1⟩;obtain ⟨i2,k1,o2,i0,i1⟩:=h0.frz 0 rfl h1;refine WL.gh k1 (bn H fun Z m1 H=>cl (ic i0 hT.m ([(⟨#[114,101,102,117,115,101,100]⟩:ByteArray),h]:List ByteArray) i1 m1) ?_);rintro v2 t0 p2 ⟨j0,rfl⟩;refine va (.string Z) (wln (W.ret (thr ?_)));obtain rfl:=si H;have k0:=j0.sD 3 [];exact r1 (qq t0 ⟨t,k0,y.m,rfl⟩)
 refine W.skip (nrm (sr (va (.string (⟨#[111,107,10]⟩:ByteArray)) (wln (W.ret ?_)))));obtain rfl:=si H;have l0:=x.sD 2 [];exact r1 (qq s0 ⟨t,l0,y,rfl⟩)
end Go.Proofs.YtceciacilfhmjaaGreatDoor
namespace Go.Proofs.YtceciacilfhmjaaGreatDoor
open Go Go.Lt
set_option maxRecDepth 10000
set_option linter.unusedVariables false
attribute [local irreducible] W WL AC
open Tryz
variable {c0:Cx} {G:Gm} {F:List En} {sg:Sto} {v1:Value}
abbrev uG:ByteArray:=⟨#[115,104,111,119]⟩
abbrev uF:ByteArray:=⟨#[116,101,120,116]⟩
abbrev nU:ByteArray:=⟨#[99,117,114,115,111,114]⟩
abbrev uH:ByteArray:=⟨#[104,101,108,100]⟩
abbrev uD:ByteArray:=⟨#[117,115,101,100]⟩
abbrev CD:ByteArray:=⟨#[115,105,122,101]⟩
abbrev qk:ByteArray:=⟨#[115,105,122,101,32]⟩
def eH (sg:Sto) (p0:Option Nat) (p1:ByteArray):Option (Sto×ByteArray):=
 (orE (eqS p1 ⟨#[]⟩) ((nb p1 0).bind fun x=>some (x==35))).bind fun d=>
 if d=true then some (sg,⟨#[]⟩) else
 if eqS p1 uG=true then (eG sg p0).bind fun r=>some (sg,r) else
 if eqS p1 uF=true then (eF sg p0).bind fun r=>some (sg,r) else
 if eqS p1 nU=true then (ee sg p0).bind fun r=>some (sg,r) else
 if eqS p1 uH=true then (eI sg p0).bind fun r=>some (sg,r) else
 if eqS p1 uD=true then (eE sg p0).bind fun r=>some (sg,r) else
 (orE (eqS p1 CD) ((fX p1 qk).bind fun x=>some x)).bind fun d=>
 if d=true then jl sg p0 p1 else ir sg p0 p1
abbrev fnV (i:Nat) (v:Value):Value:= .func (.func i) #[v] #[]
abbrev tbL (v:Value):List MapEntry:=[⟨.string uG,fnV 15 v,0⟩,⟨.string uF,fnV 16 v,1⟩,⟨.string nU,fnV 17 v,2⟩,⟨.string uH,fnV 18 v,3⟩,⟨.string uD,fnV 19 v,4⟩]
theorem Kq (a b:ByteArray):Instr.sameNow .string (.string a) (.string b)=some (eqS a b):=by
  show some (a.data==b.data)=some (eqS a b)
  congr 1
  unfold eqS;rw [da,aA,aA,Array.toList_inj]
def tbF (v:Value) (l:ByteArray):Option (Nat×Value):=
  if eqS l uG=true then some (0,fnV 15 v) else if eqS l uF=true then some (1,fnV 16 v) else if eqS l nU=true then some (2,fnV 17 v)
  else if eqS l uH=true then some (3,fnV 18 v) else if eqS l uD=true then some (4,fnV 19 v) else none
theorem I4 (v:Value) (l:ByteArray):Instr.findNow .string (.string l) (tbL v) 0=some (tbF v l):=by
  unfold tbF tbL;simp only [Instr.findNow,Kq]
  cases eqS l uG <;> cases eqS l uF <;> cases eqS l nU <;> cases eqS l uH <;> cases eqS l uD <;> rfl
set_option maxHeartbeats 1000000 in
theorem pJ (O0:Own c0 G F) (R0:Rel c0 sg G) (hG:Gl [0,1,2,3,4,5,6,7] c0) (hB:Tb6 c0) (hU:Eh c0) (hT:Et c0) (p0:Option Nat) (p1:ByteArray) {r:Sto×ByteArray} (h2:Pt 6 c0 v1 p0) (H:eH sg p0 p1=some r):
    Calls Tryz.prog 9 #[v1,.string p1] c0.w (aO c0 fun c v=>∃G_:Gm,Own c G_ F∧Rel c r.1 G_∧v= .string r.2):=by
  obtain ⟨a5,rfl⟩:=h2.form
  unfold eH at H
  refine en func9 rfl rfl <| sr <| va (.string ⟨#[]⟩) <| wln <| W.seq <| W.seq <| bn H fun d hd H=>W.join (Jn c0 fun c l=>Own c G F∧l= [(0,.pointer a5),(1,.string p1),(14,B d)]) ?_ ?_
  · clear H
    refine W.region <| va (.string p1) <| vr (B (eqS p1 ⟨#[]⟩)) (iE (by kernel_rfl)) ?_
    rcases bo (eqS p1 ⟨#[]⟩) with h | h
    · obtain rfl:=orT h hd
      refine vb h <| ps <| ps <| ps <| va (B true) <| WL.nil <| nrm ?_
      exact jn c0 ⟨O0,rfl⟩
    · have hd:=orF h hd
      refine vb h <| wn <| va (.string p1) <| wn <| bn hd fun x hx hd=>vx (iy (k:= .i64) u_9 hx _) <| wn <| va (B (x==35)) <| va (B (x==35)) <| WL.nil <| nrm ?_
      obtain rfl:=si hd
      exact jn c0 ⟨O0,rfl⟩
  rintro e_ w_ ⟨c1,g1,ls1,rfl,k1,rfl,O1,rfl⟩
  refine nrm <| cn H (fun h H=>?_) (fun h H=>?_)
  · refine sr <| va (.string ⟨#[]⟩) <| wln <| W.ret <| thr ?_
    obtain rfl:=si H
    exact r1 (v:= .string ⟨#[]⟩) <| qq c1 ⟨G,O1,R0.mono k1,rfl⟩
  refine W.skip <| nrm <| sr <| me (Own.mkP (t:=49) O1 (by kernel_rfl)) ?_
  rintro _ c2 k2 ⟨b,rfl,O2⟩
  refine va (.pointer a5) <| va (fnV 15 (.pointer a5)) <| md (Own.inS (t:=49) (s:=uG) (x:=fnV 15 (.pointer a5)) 0 O2 rfl Df u_9 (by kernel_rfl) (by kernel_rfl)) ?_
  rintro c3 k3 O3
  refine va (.pointer a5) <| va (fnV 16 (.pointer a5)) <| md (Own.inS (t:=49) (s:=uF) (x:=fnV 16 (.pointer a5)) 0 O3 rfl Df u_9 (by kernel_rfl) (by kernel_rfl)) ?_
  rintro c4 k4 O4
  refine va (.pointer a5) <| va (fnV 17 (.pointer a5)) <| md (Own.inS (t:=49) (s:=nU) (x:=fnV 17 (.pointer a5)) 0 O4 rfl Df u_9 (by kernel_rfl) (by kernel_rfl)) ?_
  rintro c5 k5 O5
  refine va (.pointer a5) <| va (fnV 18 (.pointer a5)) <| md (Own.inS (t:=49) (s:=uH) (x:=fnV 18 (.pointer a5)) 0 O5 rfl Df u_9 (by kernel_rfl) (by kernel_rfl)) ?_
  rintro c6 k6 O6
  refine va (.pointer a5) <| va (fnV 19 (.pointer a5)) <| md (Own.inS (t:=49) (s:=uD) (x:=fnV 19 (.pointer a5)) 0 O6 rfl Df u_9 (by kernel_rfl) (by kernel_rfl)) ?_
  rintro c7 k7 O7
  refine va (.map (some b)) <| va (.map (some b)) <| wln <| W.seq <| sr <| va (.map (some b)) <| va (.string p1) <| vx (KC (c:=c7) (z:= .nilFunc) (O7.on 0 rfl) Df u_9 (by kernel_rfl) (I4 (.pointer a5) p1)) ?_
  have kk:c0.le c7:=by repeat (first | assumption | refine Cx.le.trans ?_ (by assumption))
  have R7:=R0.mono kk
  have G7:=hG.mono kk
  have B7:Tb6 c7:=hB.m kk
  have U7:Eh c7:=hU.m kk
  have T7:Et c7:=hT.m kk
  have h7:=h2.mono kk
  have O8:=O7.sD 1 []
  unfold tbF
  by_cases q0:eqS p1 uG=true
  · rw [af q0] at H⊢
    obtain ⟨x,hx,H⟩:=bs H
    obtain rfl:=si H
    refine va (.tuple #[fnV 15 (.pointer a5),B true]) <| va (fnV 15 (.pointer a5)) <| va (B true) <| va (fnV 15 (.pointer a5)) <| va (B true) <| wln <| sr <| va (B true) <| wln <| W.cond (t:=true) (by kernel_rfl) (fun _=>?_) (fun h=>by cases h)
    refine sr <| va (fnV 15 (.pointer a5)) <| cl (pI O8 R7 B7 T7 p0 h7 hx) ?_
    rintro _ c9 k9 ⟨O9,rfl⟩
    refine va (.string x) <| wln <| W.ret <| thr ?_
    exact r1 (v:= .string x) <| qq c9 ⟨G,O9,R7.mono k9,rfl⟩
  rw [ab q0] at H⊢
  by_cases q1:eqS p1 uF=true
  · rw [af q1] at H⊢
    obtain ⟨x,hx,H⟩:=bs H
    obtain rfl:=si H
    refine va (.tuple #[fnV 16 (.pointer a5),B true]) <| va (fnV 16 (.pointer a5)) <| va (B true) <| va (fnV 16 (.pointer a5)) <| va (B true) <| wln <| sr <| va (B true) <| wln <| W.cond (t:=true) (by kernel_rfl) (fun _=>?_) (fun h=>by cases h)
    refine sr <| va (fnV 16 (.pointer a5)) <| cl (pG O8 R7 (G7.le (by decide)) T7 p0 h7 hx) ?_
    rintro _ c9 k9 ⟨O9,rfl⟩
    refine va (.string x) <| wln <| W.ret <| thr ?_
    exact r1 (v:= .string x) <| qq c9 ⟨G,O9,R7.mono k9,rfl⟩
  rw [ab q1] at H⊢
  by_cases q2:eqS p1 nU=true
  · rw [af q2] at H⊢
    obtain ⟨x,hx,H⟩:=bs H
    obtain rfl:=si H
    refine va (.tuple #[fnV 17 (.pointer a5),B true]) <| va (fnV 17 (.pointer a5)) <| va (B true) <| va (fnV 17 (.pointer a5)) <| va (B true) <| wln <| sr <| va (B true) <| wln <| W.cond (t:=true) (by kernel_rfl) (fun _=>?_) (fun h=>by cases h)
    refine sr <| va (fnV 17 (.pointer a5)) <| cl (oB O8 R7 T7 p0 h7 hx) ?_
    rintro _ c9 k9 ⟨O9,rfl⟩
    refine va (.string x) <| wln <| W.ret <| thr ?_
    exact r1 (v:= .string x) <| qq c9 ⟨G,O9,R7.mono k9,rfl⟩
  rw [ab q2] at H⊢
  by_cases q3:eqS p1 uH=true
  · rw [af q3] at H⊢
    obtain ⟨x,hx,H⟩:=bs H
    obtain rfl:=si H
    refine va (.tuple #[fnV 18 (.pointer a5),B true]) <| va (fnV 18 (.pointer a5)) <| va (B true) <| va (fnV 18 (.pointer a5)) <| va (B true) <| wln <| sr <| va (B true) <| wln <| W.cond (t:=true) (by kernel_rfl) (fun _=>?_) (fun h=>by cases h)
    refine sr <| va (fnV 18 (.pointer a5)) <| cl (pK O8 R7 T7 p0 h7 hx) ?_
    rintro _ c9 k9 ⟨O9,rfl⟩
    refine va (.string x) <| wln <| W.ret <| thr ?_
    exact r1 (v:= .string x) <| qq c9 ⟨G,O9,R7.mono k9,rfl⟩
  rw [ab q3] at H⊢
  by_cases q4:eqS p1 uD=true
  · rw [af q4] at H⊢
    obtain ⟨x,hx,H⟩:=bs H
    obtain rfl:=si H
    refine va (.tuple #[fnV 19 (.pointer a5),B true]) <| va (fnV 19 (.pointer a5)) <| va (B true) <| va (fnV 19 (.pointer a5)) <| va (B true) <| wln <| sr <| va (B true) <| wln <| W.cond (t:=true) (by kernel_rfl) (fun _=>?_) (fun h=>by cases h)
    refine sr <| va (fnV 19 (.pointer a5)) <| cl (pF O8 R7 T7 p0 h7 hx) ?_
    rintro _ c9 k9 ⟨O9,rfl⟩
    refine va (.string x) <| wln <| W.ret <| thr ?_
    exact r1 (v:= .string x) <| qq c9 ⟨G,O9,R7.mono k9,rfl⟩
  rw [ab q4] at H⊢
  refine va (.tuple #[.nilFunc,B false]) <| va .nilFunc <| va (B false) <| va .nilFunc <| va (B false) <| wln <| sr <| va (B false) <| wln <| W.cond (t:=false) (by kernel_rfl) (fun h=>by cases h) (fun _=>?_)
  refine W.skip <| nrm <| W.seq <| W.seq <| bn H fun d2 hd2 H=>W.join (Jn c7 fun c l=>Own c G F∧l= [(0,.pointer a5),(1,.string p1),(41,B d2)]) ?_ ?_
  · clear H
    refine W.region <| va (.string p1) <| vr (B (eqS p1 CD)) (iE (by kernel_rfl)) ?_
    rcases bo (eqS p1 CD) with h | h
    · obtain rfl:=orT h hd2
      refine vb h <| ps <| ps <| va (B true) <| WL.nil <| nrm ?_
      exact jn c7 ⟨O8,rfl⟩
    · have hd2:=orF h hd2
      obtain ⟨x,hx,hd2⟩:=bs hd2
      obtain rfl:=si hd2
      refine vb h <| wn <| va (.string p1) <| wn <| cl (rk O8 p1 qk hx) ?_
      rintro _ c9 k9 ⟨O9,rfl⟩
      refine va (B x) <| WL.nil <| nrm ?_
      exact jn c9 ⟨O9,rfl⟩
  rintro e_ w_ ⟨c9,g9,ls9,rfl,k9,rfl,O9,rfl⟩
  have R9:=R7.mono k9
  have h9:=h7.mono k9
  refine nrm <| cn H (fun h H=>?_) (fun h H=>?_)
  · refine sr <| va (.pointer a5) <| va (.string p1) <| cl (pH O9 R9 ((G7.mono k9).le (by decide)) (U7.m k9) (T7.m k9) p0 p1 h9 H) ?_
    rintro _ c10 k10 ⟨G10,O10,R10,rfl⟩
    refine va (.string r.2) <| wln <| W.ret <| thr ?_
    exact r1 (v:= .string r.2) <| qq c10 ⟨G10,O10,R10,rfl⟩
  refine W.skip <| nrm <| sr <| va (.pointer a5) <| va (.string p1) <| cl (qM O9 R9 (G7.mono k9) (U7.m k9) (T7.m k9) p0 p1 h9 H) ?_
  rintro _ c10 k10 ⟨G10,O10,R10,rfl⟩
  refine va (.string r.2) <| wln <| W.ret ?_
  exact r1 (v:= .string r.2) <| qq c10 ⟨G10,O10,R10,rfl⟩
end Go.Proofs.YtceciacilfhmjaaGreatDoor
namespace Go.Lt
set_option linter.unusedVariables false
def isC:Obj→Bool
  | .cells _ _ _=>true
  | .map _ _=>true
  | _=>false
section
variable {P:Program} {n:Nat} {df:List Deferred} {Q:List Deferred→Exit→(Nat→Value)→World→Prop} {e:Nat→Value} {w:World} {a b:Code}
def WR (P:Program) (n:Nat) (c:Code) (Q:List Deferred→Exit→(Nat→Value)→World→Prop) (df:List Deferred) (e:Nat→Value) (w:World):Prop:=
  c.wpIn (fen none) 0 P (fun x a w=>Ki x∧∃e d,a=act ⟨n,d,none⟩ e∧Q d x e w) (act ⟨n,df,none⟩ e) w
theorem WR.of (h:W P ⟨n,df,none⟩ a (Q df) e w):WR P n a Q df e w:=mi h fun x a w ⟨ht,e,ha,hq⟩=>⟨ht,e,df,ha,hq⟩
theorem WR.seq (h:WR P n a (fun d=>qf (fun e w=>WR P n b Q d e w) (Q d)) df e w):WR P n (a.seq b) Q df e w:=
  wpIn_seq (mi h fun x a' w' ⟨ht,e',d,ha,hQ⟩=>by
    subst ha
    cases x with
    | normal=>exact hQ
    | _=>exact ⟨ht,e',d,rfl,hQ⟩)
theorem WR.block {id:Nat} (h:WR P n a (fun d=>my id (Q d)) df e w):WR P n (.block id a) Q df e w:=
  wpIn_block (mi h fun x a' w' ⟨ht,e',d,ha,hQ⟩=>by
    subst ha
    cases x with
    | exit i=>
      simp only [Exit.inBlock];by_cases hi:i=id
      · subst hi
        rw [af rfl];exact ⟨trivial,e',d,rfl,by simpa [my] using hQ⟩
      · rw [ab hi]
        have:Nat.beq i id=false:=by
          cases hb:Nat.beq i id with
          | false=>rfl
          | true=>exact absurd (om hb) hi
        exact ⟨trivial,e',d,rfl,by simpa [my,this] using hQ⟩
    | _=>exact ⟨ht,e',d,rfl,hQ⟩)
def IV (P:Program) (fn:Func) (n:Nat) (R:Ending→World→Prop) (df:List Deferred):Exit→(Nat→Value)→World→Prop
  | .normal,e,w=>LeavesInM (fen none) 0 P fn (act ⟨n,[],none⟩ e).tmps R df .returning w
  | .ret,e,w=>LeavesInM (fen none) 0 P fn (act ⟨n,[],none⟩ e).tmps R df .returning w
  | _,_,_=>False
theorem enR {f:FuncId} {fn:Func} {code:Code} {l:List Value} {R:Ending→World→Prop} (hf:P.funcs[f]? = some fn) (hb:fn.body=some code) (hn:fn.ntmps=n)
    (h:WR P n code (IV P fn n R) [] (ar l) w) (hl:Nat.ble l.length n=true:=by rfl):Calls P f l.toArray w R:=by
  subst hn;have hl:=bh hl;refine (JU (n:=0)).1 (callsIn_of_wp_marks hf hb trivial ?_);rw [nP,←GN _ l hl];refine mi h ?_;rintro x a w' ⟨_,e',d,rfl,hq⟩
  cases x <;> first | exact hq | exact hq.elim
def DK (D:Nat):Deferred:={ target:= .collected D,args:= #[]}
theorem Ju {fn:Func} {tm:Array Value} {R:Ending→World→Prop} {D:Nat} {v:Value} (hD:w.heap[D]? = some (.deferred (some [])))
    (hr:(results fn tm).run P (w.putObj D (.deferred none))= .ok v (w.putObj D (.deferred none))) (hR:R (.returned v) (w.putObj D (.deferred none))):LeavesInM (fen none) 0 P fn tm R [DK D] .returning w:=
  ⟨by simp,.inl ⟨D,_,rfl,run_takeDeferred hD,v,hr,hR⟩⟩
def Hu (fn:FuncId) (tm:Array Value) (ps:Array Tmp) (assign body:Code) (D:Nat) (st:LoopState) (pe:Option Code):Loop:={ state:=st,pending:=pe,fn,tmps:=tm,params:=ps,assign,body,defers:=D}
theorem WR.range {g:Operand} {ps:Array Tmp} {assign body:Code} {gf:Nat} {lb:Array Value} (hg:ev n e g= .func (.func gf) #[] lb) (eg:∀args w,(callFunc gf args).run P w= .ok (.enter gf args) w)
    (h:∀(fn:FuncId) (rc:LoopState→Option Code→Loop),rc=Hu fn (act ⟨n,df,none⟩ e).tmps ps assign body w.heap.size→Calls P gf (#[.func (.yield (w.heap.size+1)) #[] #[]]++lb) ((w.alloc (.deferred (some []))).alloc (.loop (rc .ready none)))
      fun x w3=>∃v,x= .returned v∧
        ((w3.heap[w.heap.size+1]? = some (.loop (rc .ready none))∧Q (DK w.heap.size :: df) .normal e (w3.putObj (w.heap.size+1) (.loop (rc .exhausted none))))∨
         ∃c,w3.heap[w.heap.size+1]? = some (.loop (rc .done (some c)))∧WR P n c Q (DK w.heap.size :: df) e (w3.putObj (w.heap.size+1) (.loop (rc .exhausted (some c)))))):
    WR P n (.rangeFunc g ps assign body) Q df e w:=by
  refine wpIn_rangeFunc (fun fn _=>?_);have hg':(act ⟨n,df,none⟩ e).eval g= .func (.func gf) #[] lb:=by rw [mf]; exact hg
  have h:=h fn _ rfl;have h1:=run_enterLoop_outer (P:=P) (w:=w) fn (act ⟨n,df,none⟩ e).tmps ps assign body;have h2:∀W:World,(resolve (act ⟨n,df,none⟩ e).eval (rangeCall g (w.heap.size+1)) 0).run P W= .ok { target:= .fn (.func gf) lb,args:= #[.func (.yield (w.heap.size+1)) #[] #[]]} W:=fun W=>by
    simp only [resolve,hg'];simp [go_sem]
  have h3:∀W:World,(invoke (.fn (.func gf) lb) #[.func (.yield (w.heap.size+1)) #[] #[]]).run P W= .ok (.enter gf (#[.func (.yield (w.heap.size+1)) #[] #[]]++lb)) W:=fun W=>by
    simp [invoke,go_sem,eg]
  refine Exists.intro (w.heap.size+1) (Exists.intro [DK w.heap.size] (Exists.intro _ (Exists.intro { target:= .fn (.func gf) lb,args:= #[.func (.yield (w.heap.size+1)) #[] #[]]} (Exists.intro _ (Exists.intro gf (Exists.intro (#[.func (.yield (w.heap.size+1)) #[] #[]]++lb) (Exists.intro _ ⟨h1,h2 _,fun _ _=>trivial,h3 _,fun hd=>(by cases hd),?_⟩)))))));refine uN (h.mono fun x w3 hx=>?_);obtain ⟨v,rfl,hv⟩:=hx;rcases hv with ⟨k1,k2⟩ | ⟨c,k1,k2⟩
  · exact ⟨none,_,run_endLoop k1 (by simp [Hu]),trivial,e,DK w.heap.size :: df,rfl,k2⟩
  · exact ⟨some c,_,run_endLoop k1 (by simp [Hu]),k2⟩
end
theorem WL.round {P:Program} {ops:Array Oper} {n:Fr} {Q:Exit→(Nat→Value)→World→Prop} {rest:List Oper} {e:Nat→Value} {o:Oper} {w:World} {l:Nat} {args:Array Value} (hg:o.guard=none)
    (hr:(execOp (ev n e) o).run P w=(Instr.yield l args).run P w) (hy:YieldAt (fen n.ro) 0 P l args w fun x w'=>∃v,x= .returned v∧WL P ops n Q rest (upO e o.dst v) w'):WL P ops n Q (o :: rest) e w:=by
  obtain ⟨fn,tm,assign,body,hy1,hR⟩:=hy;refine vF hg fun K hK=>⟨fun _ _=>trivial,?_⟩;rw [mf,qi (hr.trans hy1) (by simp),Oper.uponIn_round];refine ⟨fun h=>(by cases h),hR.mono ?_⟩;rintro x w' ⟨v,rfl,h⟩;simp only [pN];exact hK _ _ h
theorem ym {F:Fence} {m:Nat} {P:Program} {l:Nat} {args:Array Value} {w:World} {R R':Ending→World→Prop} (h:YieldAt F m P l args w R) (hr:∀x w',R x w'→R' x w'):YieldAt F m P l args w R':=by
  obtain ⟨fn,tm,assign,body,hy,hR⟩:=h;exact ⟨fn,tm,assign,body,hy,hR.mono hr⟩
def rdQ (l:Nat) (r:LoopState→Option Code→Loop) (R:Ending→World→Prop):Exit→(Nat→Value)→World→Prop
  | .normal,_,w=>w.heap[l]? = some (.loop (r .busy none))∧R (.returned (.bool true)) (w.putObj l (.loop (r .ready none)))
  | .ret,_,w=>w.heap[l]? = some (.loop (r .busy none))∧R (.returned (.bool false)) (w.putObj l (.loop (r .done (some .ret))))
  | .exit i,_,w=>w.heap[l]? = some (.loop (r .busy none))∧R (.returned (.bool false)) (w.putObj l (.loop (r .done (some (.exit i)))))
  | _,_,_=>False
theorem BA (n:Fr) (e:Nat→Value) (d:Nat) (v:Value):(act n e).tmps.setIfInBounds d v=(act n (up e d v)).tmps:=dG Act.tmps (pN n e (some d) v)
theorem LO (n:Nat) (df:List Deferred) (r0:Option Nat) (l:Nat) (e:Nat→Value) (p1 p2:Nat) (a1 a2:Value):
    ((#[p1,p2]:Array Tmp).zip #[a1,a2]).foldl (fun t (p,v)=>t.setIfInBounds p v) (act ⟨n,df,r0⟩ e).tmps=(act ⟨n,[],some l⟩ (up (up e p1 a1) p2 a2)).tmps:=by
  have hz:((#[p1,p2]:Array Tmp).zip #[a1,a2])= #[(p1,a1),(p2,a2)]:=by simp
  rw [hz,←LI];show ((act ⟨n,df,r0⟩ e).tmps.setIfInBounds p1 a1).setIfInBounds p2 a2=_;rw [BA,BA];rfl
theorem Ey {P:Program} {n:Nat} {r0:Option Nat} {w:World} {l:Nat} {fn:FuncId} {tm:Array Value} {ps:Array Tmp} {assign body:Code} {D:Nat} {rc:LoopState→Option Code→Loop} (hrc:rc=Hu fn tm ps assign body D) {args:Array Value} {R:Ending→World→Prop} {e1:Nat→Value}
    (hl:w.heap[l]? = some (.loop (rc .ready none))) (hs:args.size=ps.size) (he:(ps.zip args).foldl (fun t (p,v)=>t.setIfInBounds p v) tm=(act ⟨n,[],some l⟩ e1).tmps)
    (h:W P ⟨n,[],some l⟩ assign (qf (fun e2 w1=>w1.heap[l]? = some (.loop (rc .ready none))∧
      W P ⟨n,[],some l⟩ body (rdQ l rc R) e2 (w1.putObj l (.loop (rc .busy none)))) (fun _ _ _=>False)) e1 w):YieldAt (fen r0) 0 P l args w R:=by
  subst hrc;refine ⟨fn,_,assign,body,run_yield hl hs,roundIn_of_wpIn trivial ?_⟩;have hz:(fen r0).inRound l=fen (some l):=rfl;rw [hz];have ha:({ tmps:=(ps.zip args).foldl (fun t (p,v)=>t.setIfInBounds p v) tm,defers:=[]}:Act)=act ⟨n,[],some l⟩ e1:=by rw [he]; rfl
  show assign.wpIn (fen (some l)) 0 P _ ({ tmps:=(ps.zip args).foldl (fun t (p,v)=>t.setIfInBounds p v) tm,defers:=[]}:Act) w;rw [ha];refine mi h ?_;rintro x a w1 ⟨ht,e2,rfl,hq⟩
  cases x with
  | normal=>
    obtain ⟨h1,h2⟩:=hq;refine ⟨_,run_beginRound h1 rfl,mi h2 ?_⟩;rintro y a' w2 ⟨_,e3,rfl,hy⟩
    cases y with
    | normal=>exact ⟨_,_,run_endRound none hy.1,hy.2⟩
    | ret=>exact ⟨_,_,run_endRound (some .ret) hy.1,hy.2⟩
    | exit i=>exact ⟨_,_,run_endRound (some (.exit i)) hy.1,hy.2⟩
    | _=>exact hy.elim
  | _=>exact hq.elim
structure Rec (c:Cx) (l D:Nat) (r:Loop):Prop where
  rc:c.w.heap[l]? = some (.loop r)
  nl:∀o,¬c.A l o
  def_:c.w.heap[D]? = some (.deferred (some []))
  nD:∀o,¬c.A D o
theorem Rec.mono {c c':Cx} {l D:Nat} {r:Loop} (h:Rec c l D r) (k:c.le c'):Rec c' l D r:=by
  have hl:=(Array.getElem?_eq_some_iff.1 h.rc).1;have hD:=(Array.getElem?_eq_some_iff.1 h.def_).1;exact ⟨(k.block l hl h.nl).trans h.rc,fun o=>(k.cell l o hl (h.nl o)).2,(k.block D hD h.nD).trans h.def_,fun o=>(k.cell D o hD (h.nD o)).2⟩
def Cx.turn (c:Cx) (l:Nat) (o:Obj):Cx:=⟨c.w.putObj l o,c.A,c.t⟩
theorem Cx.turn_lw {c:Cx} {l:Nat} {o o':Obj} (h:c.w.heap[l]? = some o) (ho:isC o=false) (ho':isC o'=false):c.lw (c.turn l o'):=by
  have hlt:=(Array.getElem?_eq_some_iff.1 h).1;have same:∀k,k≠l→(c.w.putObj l o').heap[k]? = c.w.heap[k]? :=fun k hk=>World.putObj_heap_other hk;have at_l:(c.w.putObj l o').heap[l]? = some o':=World.putObj_heap_same hlt;refine ⟨rfl,rfl,by simp [Cx.turn,World.putObj],fun k q hk hA=>⟨?_,hA⟩,fun k vs T f hk _=>?_,fun a _ _=>?_,fun _ _ _ h=>h⟩
  · show (c.w.putObj l o').cell? _=_
    by_cases e:k=l
    · subst e
      unfold World.cell?;rw [at_l,h]
      cases o <;> cases o' <;> first | rfl | (simp [isC] at ho ho')
    · exact bZ (w:=c.w) (a:=⟨k,q,none⟩) (same k e)
  · refine same k fun e=>?_
    subst e;rw [h] at hk;cases hk;simp [isC] at ho
  · show (c.w.putObj l o').frozen? a=_
    by_cases e:a.block=l
    · unfold World.frozen?
      rw [e,at_l,h]
      cases o <;> cases o' <;> first | rfl | (simp [isC] at ho ho')
    · unfold World.frozen?
      rw [same _ e]
theorem Own.turn {c:Cx} {G:Gm} {F:List En} {l:Nat} {o o':Obj} (O:Own c G F) (h:c.w.heap[l]? = some o) (ho:isC o=false):Own (c.turn l o') G F:=
  ⟨⟨fun i e he b hb=>by
    have h1:=O.m.1 i e he b hb;refine ⟨?_,h1.2⟩;have hne:b≠l:=fun e2=>by
      subst e2;rw [h] at h1;have:=h1.1;cases this;unfold En.ob at ho
      cases hmp:mp e.v <;> rw [hmp] at ho <;> simp [isC] at ho
    exact (World.putObj_heap_other hne).trans h1.1,O.m.2⟩,O.t0⟩
theorem Own.front {c:Cx} {G:Gm} {Fm F:List En} {e:En} (O:Own c G (Fm++e :: F)):Own c G (e :: (Fm++F)):=
  ⟨oC.re O.m (fun k=>match k with | .inl 0=> .inl Fm.length | .inl (k+1)=>if k < Fm.length then .inl k else .inl (k+1) | .inr x=> .inr x) (fun k e' h=>by
    match k,h with
    | .inl 0,h=>simpa [at_] using h
    | .inl (k+1),h=>
      simp only [at_,fk] at h;by_cases hk:k < Fm.length
      · simp only [af hk,at_]; rw [aG hk] at h⊢; exact h
      · simp only [ab hk,at_]
        rw [aV (by omega)] at h⊢;rw [show k+1 - Fm.length=(k - Fm.length)+1 by omega,fk]; exact h
    | .inr x,h=>exact h) (fun k k' e1 e2 h1 h2 he=>by
    match k,k' with
    | .inl 0,.inl 0=>rfl
    | .inl 0,.inl (j+1)=>simp only at he; split at he <;> (simp at he; try omega)
    | .inl (i+1),.inl 0=>simp only at he; split at he <;> (simp at he; try omega)
    | .inl (i+1),.inl (j+1)=>simp only at he; split at he <;> split at he <;> (simp at he; try omega) <;> (first | (subst he; rfl) | omega)
    | .inl 0,.inr x=>simp at he
    | .inr x,.inl 0=>simp at he
    | .inl (i+1),.inr x=>simp only at he; split at he <;> simp at he
    | .inr x,.inl (j+1)=>simp only at he; split at he <;> simp at he
    | .inr x,.inr y=>simpa using he),O.t0⟩
theorem Own.behind {c:Cx} {G:Gm} {Fm F:List En} {e:En} (O:Own c G (e :: (Fm++F))):Own c G (Fm++e :: F):=
  ⟨oC.re O.m (fun k=>match k with | .inl k=>if k < Fm.length then .inl (k+1) else if k=Fm.length then .inl 0 else .inl k | .inr x=> .inr x) (fun k e' h=>by
    match k,h with
    | .inl k,h=>
      simp only [at_] at h;by_cases hk:k < Fm.length
      · simp only [af hk,at_,fk]; rw [aG hk] at h⊢; exact h
      · by_cases hk2:k=Fm.length
        · subst hk2; simpa [at_] using h
        · simp only [ab hk,ab hk2,at_]
          rw [aV (by omega)] at h;rw [show k - Fm.length=(k - 1 - Fm.length)+1 by omega,fk] at h;rw [show k=(k - 1)+1 by omega,fk,aV (by omega)];exact h
    | .inr x,h=>exact h) (fun k k' e1 e2 h1 h2 he=>by
    match k,k' with
    | .inl i,.inl j=>
      simp only at he;split at he <;> split at he <;> (try split at he) <;> (try split at he) <;> (simp at he; try omega) <;> (first | (subst he; rfl) | (congr 1; omega) | omega)
    | .inl i,.inr x=>simp only at he; split at he <;> (try split at he) <;> simp at he
    | .inr x,.inl j=>simp only at he; split at he <;> (try split at he) <;> simp at he
    | .inr x,.inr y=>simpa using he),O.t0⟩
def Bod {σ:Type} (J:σ→Cx→List En→Prop):Prop:=
  ∀s c F,J s c F→∃G Fm,Own c G (Fm++F)∧∀c' F',c.le c'→Own c' G (Fm++F')→J s c' F'
theorem Bod.op {σ:Type} {J:σ→Cx→List En→Prop} (hJ:Bod J) {s:σ} {c:Cx} {F:List En} {e:En} (h:J s c (e :: F)):∃G Fx,Own c G (e :: Fx)∧∀c' e',c.le c'→Own c' G (e' :: Fx)→J s c' (e' :: F):=by
  obtain ⟨G,Fm,O,k⟩:=hJ s c _ h;exact ⟨G,_,O.front,fun c' e' hc O'=>k c' _ hc O'.behind⟩
theorem Bod.drop {σ:Type} {J:σ→Cx→List En→Prop} (hJ:Bod J) {s:σ} {c:Cx} {F:List En} {e:En} (h:J s c (e :: F)):J s c F:=by
  obtain ⟨G,Fm,O,k⟩:=hJ s c _ h;exact k c _ (Cx.le.refl c) O.front.tail
abbrev JnW (c0:Cx) (q:Cx→List (Nat×Value)→Prop):(Nat→Value)→World→Prop:=fun e w=>∃c e0 l,w=c.w∧c0.lw c∧e=ups e0 l∧q c l
theorem jnW {c0:Cx} {q:Cx→List (Nat×Value)→Prop} {e:Nat→Value} {l:List (Nat×Value)} (c:Cx) (h:q c l) (k:c0.lw c) (u:l.map (fun x=>e x.1)=l.map (fun x=>x.2):=by kernel_rfl):JnW c0 q e c.w:=⟨c,e,l,rfl,k,us u,h⟩
def Lz {σ:Type} (P:Program) (l:Nat) (J:σ→Cx→List En→Prop) (args:Array Value) (c:Cx) (F:List En) (s':σ) (b:Bool):Prop:=
  YieldAt (fen none) 0 P l args c.w fun x w'=>∃c',w'=c'.w∧c.lw c'∧x= .returned (.bool b)∧J s' c' F
theorem WR.sr {P:Program} {n:Nat} {df:List Deferred} {Q:List Deferred→Exit→(Nat→Value)→World→Prop} {e:Nat→Value} {w:World} {b:Code} {id:Nat} {l:List Oper}
    (h:WL P l.toArray ⟨n,df,none⟩ (qf (fun e w=>WR P n b Q df e w) (Q df)) l e w):WR P n ((Code.region id l.toArray false).seq b) Q df e w:=WR.seq (WR.of (W.region h))
theorem Cx.loop (c:Cx) (r:Loop):∃c':Cx,c'.w=(c.w.alloc (.deferred (some []))).alloc (.loop r)∧c.but (fun _=>False) c'∧Rec c' (c.w.heap.size+1) c.w.heap.size r:=by
  have hb:∀k,k < c.w.heap.size→((c.w.alloc (.deferred (some []))).alloc (.loop r)).heap[k]? = c.w.heap[k]? :=fun k hk=>
    (bM _ _ _ (by simp; omega)).trans (bM _ _ _ hk)
  refine ⟨⟨(c.w.alloc (.deferred (some []))).alloc (.loop r),fun k o=>k < c.w.heap.size∧c.A k o,c.t⟩,rfl,⟨⟨rfl,rfl,by simp; omega,fun k o hk hA=>⟨bZ (w:=c.w) (a:=⟨k,o,none⟩) (hb k hk),fun h=>hA h.2⟩,fun k hk _=>hb k hk,fun a ha _=>?_,fun _ _ _ h=>h⟩,rfl,fun k hk _=>⟨hb k hk,fun o=>⟨fun h=>h.2,fun h=>⟨hk,h⟩⟩⟩⟩,?_,?_,?_,?_⟩
  · unfold World.frozen?
    rw [hb _ ha]
  · have:=World.alloc_heap_new (c.w.alloc (.deferred (some []))) (.loop r)
    rwa [World.size_alloc] at this
  · intro o h; omega
  · exact (bM _ _ _ (by simp)).trans (World.alloc_heap_new c.w _)
  · intro o h; omega
theorem Cx.le.turn {cb c:Cx} (h:cb.le c) {l:Nat} {o o':Obj} (hl:cb.w.heap.size≤l) (hc:c.w.heap[l]? = some o) (ho:isC o=false) (ho':isC o'=false):cb.le (c.turn l o'):=by
  have k:=h.lw.trans (Cx.turn_lw hc ho ho');refine ⟨k.os,k.output,k.size,k.cell,fun i hi hA=>?_,k.frz,k.t⟩;exact (World.putObj_heap_other (by omega)).trans (h.block i hi hA)
theorem Rec.turn {c:Cx} {l D:Nat} {r:Loop} (h:Rec c l D r) (r':Loop):Rec (c.turn l (.loop r')) l D r':=by
  have hlt:=(Array.getElem?_eq_some_iff.1 h.rc).1;have hne:D≠l:=fun e=>by
    have h1:=h.rc;rw [←e,h.def_] at h1;cases h1
  exact ⟨World.putObj_heap_same hlt,h.nl,(World.putObj_heap_other hne).trans h.def_,h.nD⟩
theorem Kr {P:Program} {fn:Func} {n:Nat} {R:Ending→World→Prop} {c:Cx} {e:Nat→Value} {D t:Nat} {v:Value} (hD:c.w.heap[D]? = some (.deferred (some []))) (h:R (.returned v) (c.turn D (.deferred none)).w)
    (hr:fn.results= #[.tmp t]:=by rfl) (hv:ev n e (.tmp t)=v:=by kernel_rfl):IV P fn n R [DK D] .ret e c.w:=by
  refine Ju hD (results_tmp hr _ _ _) ?_;rw [gt];show R (.returned (ev n e (.tmp t))) _;rw [hv];exact h
section
variable {P:Program} {α:Type} {R:Rp α} {c:Cx} {G:Gm} {F:List En}
end
end Go.Lt
namespace Go.Proofs.YtceciacilfhmjaaGreatDoor
open Go Go.Lt
set_option maxRecDepth 10000
set_option linter.unusedVariables false
attribute [local irreducible] W WL AC
open Tryz
variable {c0:Cx} {G:Gm} {F:List En} {sg:Sto}
def Au:Go.Shelf.Ren:=⟨fun | 0=>0 | 1=>1 | 2=>2 | 99=>20 | 101=>31 | 103=>136 | 119=>258 | 120=>231 | 129=>160 | 137=>135 | 138=>134 | 143=>26 | 146=>64 | 151=>206 | 152=>230 | 156=>53 | 160=>137 | 165=>90 | 166=>8 | 169=>10 | 171=>34 | 172=>138 | 173=>85 | 195=>164 | 197=>25 | 205=>234 | 206=>38 | 208=>54 | 210=>166 | 217=>79 | 218=>165 | 219=>45 | 221=>98 | 224=>81 | 225=>80 | 227=>169 | 228=>205 | 231=>167 | 232=>168 | 233=>170 | 234=>171 | 235=>172 | 236=>173 | 240=>14 | 241=>123 | 243=>61 | 244=>174 | 245=>175 | 246=>96 | 247=>208 | 260=>44 | 266=>119 | 267=>82 | 268=>133 | 271=>207 | 276=>27 | 277=>158 | 279=>209 | 280=>210 | 281=>211 | 282=>212 | 283=>129 | 284=>130 | 285=>131 | 286=>132 | 287=>232 | 314=>120 | 316=>233 | 317=>159 | 318=>161 | 319=>162 | 320=>163 | 321=>259 | 322=>260 | 337=>203 | 338=>204 | 347=>273 | 348=>274 | 349=>275 | 350=>276 | 351=>277 | 352=>278 | 353=>279 | 354=>280 | 355=>281 | 356=>282 | 357=>283 | 358=>284 | 359=>285 | 360=>288 | 361=>289 | 362=>290 | 363=>311 | 364=>308 | 365=>309 | 366=>296 | 367=>332 | n=>n,fun | 0=>0 | 1=>1 | 2=>2 | 3=>3 | 4=>4 | 5=>5 | 6=>6 | 7=>7 | 8=>8 | 9=>9 | 10=>10 | 11=>11 | 12=>12 | 13=>13 | 14=>14 | 15=>15 | 16=>16 | 17=>17 | 18=>18 | 19=>19 | 20=>20 | 21=>21 | 22=>24 | 23=>77 | 24=>200 | 25=>201 | 27=>68 | 28=>112 | 31=>83 | 37=>31 | 39=>188 | 40=>150 | 41=>271 | 43=>86 | 46=>139 | 47=>232 | 48=>249 | 49=>347 | 51=>183 | 52=>270 | 53=>193 | 54=>194 | 55=>143 | 57=>156 | 61=>118 | 63=>272 | 64=>294 | 67=>107 | 69=>23 | 70=>30 | 71=>32 | 72=>33 | 73=>148 | 74=>37 | 75=>38 | 76=>39 | 77=>40 | 80=>41 | 81=>84 | 83=>82 | 84=>146 | 85=>274 | 86=>275 | 103=>233 | 104=>65 | 105=>66 | 106=>67 | 108=>299 | 111=>179 | 112=>322 | 113=>155 | 114=>117 | 115=>235 | 116=>236 | 117=>237 | 118=>238 | 119=>138 | 122=>234 | 123=>239 | 124=>240 | 127=>51 | 128=>241 | 131=>159 | 137=>140 | 138=>141 | 139=>142 | 143=>318 | 144=>319 | 145=>320 | 146=>184 | 150=>199 | 151=>185 | 164=>69 | 165=>70 | 166=>228 | 167=>273 | 168=>276 | 169=>277 | 170=>278 | 171=>192 | 172=>195 | 173=>196 | 174=>197 | 175=>295 | 176=>296 | 209=>297 | 210=>298 | 211=>229 | 212=>230 | 213=>231 | 214=>317 | 232=>292 | 233=>293 | 238=>329 | 239=>330 | 240=>331 | 241=>332 | 242=>333 | 243=>335 | 244=>168 | 245=>336 | 246=>337 | 247=>338 | 248=>339 | 249=>340 | n=>n,fun | 1=>10 | 3=>8 | 4=>9 | 15=>15 | 16=>16 | 17=>12 | 18=>13 | 19=>14 | n=>n⟩
theorem HN:Lays.n219 Tryz.prog Au:=by
  constructor <;> first | kernel_rfl | (intro w; kernel_rfl) | (constructor <;> first | kernel_rfl | (intro w; kernel_rfl))
abbrev NLs:ByteArray:=⟨#[10]⟩
def lnI (s:ByteArray):Int:=Lib.indexByte (blS s) 10
theorem qD (O0:Own c0 G F) (s:ByteArray):Calls Tryz.prog 45 #[.string s,.string NLs] c0.w (aO c0 fun c v=>Own c G F∧v=I (lnI s)):=by
  refine lq O0 ((Go.Proofs.Any.stringslite_Index_one HN s 10 c0.w).mono ?_);rintro e w' ⟨rfl,rfl⟩;exact ⟨rfl,gV _ _⟩
theorem uc (O0:Own c0 G F) (s:ByteArray):Calls Tryz.prog 26 #[.string s,.string NLs] c0.w (aO c0 fun c v=>Own c G F∧v=I (lnI s)):=by
  refine en func26 rfl rfl <| sr <| va (I 0) <| wln <| sr <| va (.string s) <| va (.string NLs) <| cl (qD O0 s) ?_;rintro _ c1 k1 ⟨O1,rfl⟩;refine va (I (lnI s)) <| wln <| W.ret ?_;exact r1 (v:=I (lnI s)) <| qq c1 ⟨O1,rfl⟩
abbrev itV (b1 b2 b3:Nat):Value:= .func (.func 24) #[] #[Q b1,Q b2,Q b3]
theorem sn (O0:Own c0 G F) (s:ByteArray):Calls Tryz.prog 13 #[.string s,.string NLs,I 0] c0.w (aO c0 fun c v=>∃b1 b2 b3,Own c G (Eb b2 9 [.string s] :: F)∧v=itV b1 b2 b3∧Im c b1 0 (.string NLs)∧Im c b3 0 (I 0)):=by
  refine en func13 rfl rfl <| sr <| me (al 9 [.string s] O0) ?_;rintro _ c1 k1 ⟨b2,rfl,O1⟩;refine me (bx 9 [.string NLs] O1) ?_;rintro _ c2 k2 ⟨b1,rfl,O2,h1⟩;refine me (bx 3 [I 0] O2) ?_;rintro _ c3 k3 ⟨b3,rfl,O3,h3⟩;refine va .nilFunc <| wln <| sr <| va (itV b1 b2 b3) <| va (itV b1 b2 b3) <| wln <| W.ret ?_;exact r1 (v:=itV b1 b2 b3) <| qq c3 ⟨b1,b2,b3,O3,rfl,by simpa using (h1 0 _ rfl).mono k3,by simpa using h3 0 _ rfl⟩
theorem sq (O0:Own c0 G F) (s:ByteArray):Calls Tryz.prog 7 #[.string s,.string NLs] c0.w (aO c0 fun c v=>∃b1 b2 b3,Own c G (Eb b2 9 [.string s] :: F)∧v=itV b1 b2 b3∧Im c b1 0 (.string NLs)∧Im c b3 0 (I 0)):=by
  refine en func7 rfl rfl <| sr <| va .nilFunc <| wln <| sr <| va (.string s) <| va (.string NLs) <| cl (sn O0 s) ?_;rintro _ c1 k1 ⟨b1,b2,b3,O1,rfl,h1,h3⟩;refine va (itV b1 b2 b3) <| wln <| W.ret ?_;exact r1 (v:=itV b1 b2 b3) <| qq c1 ⟨b1,b2,b3,O1,rfl,h1,h3⟩
def nB {σ:Type} (y:σ→ByteArray→Option (σ×Bool)) (t:ByteArray) (s:σ):Option σ:=
 (cV (σ:=ByteArray×σ) (τ:=σ ⊕ (ByteArray×σ)) (t.size+2) (fun a=>
 if decide (lnI a.1 < 0)=true then some (.inr (.inr a)) else
 (na a.1 0 (w64 (lnI a.1+0))).bind fun x=>(y a.2 x).bind fun z=>
 if (!z.2)=true then some (.inr (.inl z.1)) else (na a.1 (w64 (lnI a.1+1)) (bL a.1)).bind fun r=>some (.inl (r,z.1))) (t,s)).bind fun u=>match u with
 | .inl s'=>some s'
 | .inr v=>(y v.2 v.1).bind fun z=>some z.1
set_option maxHeartbeats 1000000 in
theorem AY {σ:Type} {Bd:σ→Cx→List En→Prop} (hJ:Bod Bd) {y:σ→ByteArray→Option (σ×Bool)} (lr:Nat)
    (hY:∀s x z c F,y s x=some z→Bd s c F→Lz Tryz.prog lr Bd #[.string x] c F z.1 z.2) {t:ByteArray} {s0 s1:σ} {b1 b2 b3:Nat}
    (h1:Im c0 b1 0 (.string NLs)) (h3:Im c0 b3 0 (I 0)) (h0:Bd s0 c0 (Eb b2 9 [.string t] :: F)) (H:nB y t s0=some s1):
    Calls Tryz.prog 24 #[.func (.yield lr) #[] #[],Q b1,Q b2,Q b3] c0.w fun x w'=>∃c',w'=c'.w∧c0.lw c'∧x= .returned (.tuple #[])∧Bd s1 c' F:=by
  unfold nB at H
  obtain ⟨u,H1,H2⟩:=bs H
  refine en func24 rfl rfl <| W.seq <| sr <| vx (l1 u_9 h1) <| vr (I (bL NLs)) (rx (by kernel_rfl) (dP (ty:=3) u_9 _)) <| va (B false) <| wln <| W.cond (t:=false) (by kernel_rfl) (fun h=>by cases h) (fun _=>?_)
  refine W.skip <| nrm <| W.seq <| W.block <| lp H1 (fun a=>JnW c0 fun c sl=>Bd a.2 c (Eb b2 9 [.string a.1] :: F)∧sl= [(0,.func (.yield lr) #[] #[]),(1,Q b1),(2,Q b2),(3,Q b3)])
    (fun b ex e w=>match b with | .inl s'=>ex= .ret∧JnW c0 (fun c sl=>Bd s' c F∧sl= []) e w | .inr v=>ex= .exit 2∧(JnW c0 fun c sl=>Bd v.2 c (Eb b2 9 [.string v.1] :: F)∧sl= [(0,.func (.yield lr) #[] #[]),(2,Q b2)]) e w) ?_ ?_ ?_
  · clear H H1 H2
    rintro a x e w H ⟨c,e0,_,rfl,kc,rfl,hJc,rfl⟩
    obtain ⟨G2,Fx2,O2,sh2⟩:=hJ.op hJc
    refine W.block <| sr <| vx (le1 0 u_9 (O2.on 0 rfl)) <| vx (l1 u_9 (h1.lw kc)) <| cl (uc O2 a.1) ?_
    rintro _ c2 k2 ⟨O3,rfl⟩
    have hJ2:=sh2 c2 _ k2 O3
    have kc2:c0.lw c2:=kc.trans k2.lw
    refine va (I (lnI a.1)) <| wln <| W.seq <| sr <| va (I (lnI a.1)) <| va (B (decide (lnI a.1 < 0))) <| wln <| cn H (fun D H=>?_) (fun D H=>?_)
    · refine W.exit <| thx <| bko rfl ?_
      obtain rfl:=si H
      exact ⟨_,rfl,rfl,jnW c2 ⟨hJ2,rfl⟩ kc2⟩
    · obtain ⟨x',hx,H⟩:=bs H
      obtain ⟨z,hz,H⟩:=bs H
      refine W.skip <| nrm <| sr <| vx (le1 0 u_9 (O3.on 0 rfl)) <| va (I (lnI a.1)) <| vx (l1 u_3 (h3.lw kc2)) <| va (I (w64 (lnI a.1+0))) <| vr (.string x') (rx (by kernel_rfl) (tP (k':= .i64) u_9 hx _)) <| va (.string x') <| wln <| W.seq <| sr <| va (.func (.yield lr) #[] #[]) <| va (.string x') <| WL.round (l:=lr) (args:= #[.string x']) rfl (by kernel_rfl) (ym (hY _ _ _ _ _ hz hJ2) ?_)
      rintro ex w' ⟨c4,rfl,k4,rfl,hJ4⟩
      have kc4:=kc2.trans k4
      refine ⟨_,rfl,va (B (!z.2)) <| wln <| cn H (fun h H=>?_) (fun h H=>?_)⟩
      · refine W.ret <| thr <| bkr ?_
        obtain rfl:=si H
        exact ⟨_,rfl,rfl,jnW c4 ⟨hJ.drop hJ4,rfl⟩ kc4⟩
      · obtain ⟨r,hr,H⟩:=bs H
        obtain rfl:=si H
        obtain ⟨G4,Fx4,O4,sh4⟩:=hJ.op hJ4
        refine W.skip <| nrm <| W.region <| vx (le1 0 u_9 (O4.on 0 rfl)) <| va (I (lnI a.1)) <| vx (l1 u_9 (h1.lw kc4)) <| vr (I (bL NLs)) (rx (by kernel_rfl) (dP (ty:=3) u_9 _)) <| va (I (w64 (lnI a.1+1))) <| vr (.string r) (rx (by kernel_rfl) (xV (k:= .i64) u_9 hr _)) <| md (sC 9 0 (.string r) [.string r] 0 O4 ⟨rfl,trivial⟩) ?_
        rintro c5 k5 O5
        refine WL.nil <| bkn ?_
        exact ⟨_,rfl,jnW c5 ⟨sh4 c5 _ k5 O5,rfl⟩ (kc4.trans k5.lw)⟩
  · exact jnW c0 ⟨h0,rfl⟩ (Cx.le.refl c0).lw
  · rintro ex e w hx
    cases u with
    | inl s'=>
      obtain ⟨rfl,c,e0,_,rfl,kc,rfl,hJc,rfl⟩:=hx
      obtain rfl:=si H2
      refine bkr <| thr ?_
      exact r0 ⟨c,rfl,kc,rfl,hJc⟩
    | inr v=>
      obtain ⟨rfl,c,e0,_,rfl,kc,rfl,hJc,rfl⟩:=hx
      obtain ⟨z,hz,H2⟩:=bs H2
      obtain rfl:=si H2
      obtain ⟨G2,Fx2,O2,sh2⟩:=hJ.op hJc
      refine bke <| nrm <| W.region <| va (.func (.yield lr) #[] #[]) <| vx (le1 0 u_9 (O2.on 0 rfl)) <| WL.round (l:=lr) (args:= #[.string v.1]) rfl (by kernel_rfl) (ym (hY _ _ _ _ _ hz hJc) ?_)
      rintro ex w' ⟨c4,rfl,k4,rfl,hJ4⟩
      exact ⟨_,rfl,WL.nil (n0 ⟨c4,rfl,kc.trans k4,rfl,hJ.drop hJ4⟩)⟩
theorem KO (n:Nat) (df:List Deferred) (r0:Option Nat) (l:Nat) (e:Nat→Value) (p1:Nat) (a1:Value):
    ((#[p1]:Array Tmp).zip #[a1]).foldl (fun t (p,v)=>t.setIfInBounds p v) (act ⟨n,df,r0⟩ e).tmps=(act ⟨n,[],some l⟩ (up e p1 a1)).tmps:=by
  have hz:((#[p1]:Array Tmp).zip #[a1])= #[(p1,a1)]:=by simp
  rw [hz,←LI];show (act ⟨n,df,r0⟩ e).tmps.setIfInBounds p1 a1=_;rw [BA];rfl
def tY (k:Nat) (s:Sto×List UInt8) (l:ByteArray):Option ((Sto×List UInt8)×Bool):=
  (eH s.1 (some k) l).bind fun r=>if s.2.length+r.2.size≤140737488355328 then some ((r.1,s.2++r.2.data.toList),true) else none
def ey (sg:Sto) (t:ByteArray):Option (Sto×ByteArray):=
  (jg sg 80 24).bind fun n=>(nB (tY n.1.console_console.length) t (n.1.add_console_console ⟨n.2⟩,[])).bind fun s=>some (s.1,mkS s.2)
def J8 (cb:Cx) (lr D:Nat) (r:Loop) (b bt bc:Nat) (s:Sto×List UInt8) (c:Cx) (F:List En):Prop:=
  ∃G p v vs,Own c G (eU b p v vs++Eb bt 25 [Q bc] :: F)∧(p= .pointer none∨p=Q b)∧Bu v vs s.2∧Rel c s.1 G∧Rec c lr D r∧cb.le c
theorem J8.bod (cb:Cx) (lr D:Nat) (r:Loop) (b bt bc:Nat):Bod (J8 cb lr D r b bt bc):=by
  rintro s c F ⟨G,p,v,vs,O,hp,hb,R,hr,hc⟩;exact ⟨G,eU b p v vs++ [Eb bt 25 [Q bc]],O,fun c' F' k O'=>⟨G,p,v,vs,O',hp,hb,R.mono k,hr.mono k,hc.trans k⟩⟩
set_option maxHeartbeats 1000000 in
theorem jL (O0:Own c0 G F) (R0:Rel c0 sg G) (hG:Gl [0,1,2,3,4,5,6,7] c0) (hB:Tb6 c0) (hU:Eh c0) (hT:Et c0) (t:ByteArray) {r:Sto×ByteArray} (H:ey sg t=some r):
    Calls Tryz.prog 5 #[.string t] c0.w (aO c0 fun c v=>∃G_:Gm,Own c G_ F∧Rel c r.1 G_∧v= .string r.2):=by
  unfold ey at H
  obtain ⟨n,hn,H⟩:=bs H
  obtain ⟨s,hs,H⟩:=bs H
  obtain rfl:=si H
  refine enR func5 rfl rfl <| WR.sr <| va (.string ⟨#[]⟩) <| wln <| WR.sr <| cl (tu O0 R0 80 24 hn) ?_
  rintro _ c1 k1 ⟨v1,G1,O1,R1,_,rfl,h1⟩
  obtain ⟨a1,rfl⟩:=h1.form
  refine va (.agg #[.pointer a1]) <| me (al 29 [.pointer a1] O1) ?_
  rintro _ c2 k2 ⟨bc,rfl,O2⟩
  obtain ⟨c3,G3,⟨e3,e3'⟩,k3,hti,O3,R3,_⟩:=Rel.new_console_console (E:=[(Eb bc 29 [.pointer a1])]) (F:=F) (x:=(⟨n.2⟩:co)) (b:=bc) O2 (R1.mono k2) (fun c_ hle_=>⟨bc,(.pointer a1),rfl,rfl,(h1.mono (k2.trans hle_))⟩)
  have hpc:Pt 6 c3 (Q bc) (some n.1.console_console.length):=⟨bc,rfl,hti⟩
  refine WL.gh e3 <| me (al 25 [.pointer none] O3) ?_
  rintro _ c4 k4 ⟨bt,rfl,O4⟩
  refine md (sC 25 0 (Q bc) [Q bc] 0 O4 ⟨rfl,trivial⟩) ?_
  rintro c5 k5 O5
  refine wln <| WR.sr <| me (al 33 [.pointer none,.slice none 0 0] O5) ?_
  rintro _ c6 k6 ⟨b,rfl,O6⟩
  refine wln <| WR.seq <| WR.sr <| va (.string t) <| cl (sq O6 t) ?_
  rintro _ c7 k7 ⟨b1,b2,b3,O7,rfl,m1,m3⟩
  have O8:Own c7 G3 (⟨.slice none 0 0,5,[],0⟩ :: Eb b2 9 [.string t] :: Eb b 33 [.pointer none,.slice none 0 0] :: Eb bt 25 [Q bc] :: F):=Own.addHole O7 rfl
  have O9:=O8.sD 4 [2,0,3,1]
  refine wln (WR.block (WR.range rfl (fun args w=>by kernel_rfl) fun fn rc hrc=>?_))
  obtain ⟨c8,e8,b8,r8⟩:=Cx.loop c7 (rc .ready none)
  rw [←e8]
  have k8:=b8.le
  have hJ:=J8.bod c7 (c7.w.heap.size+1) c7.w.heap.size (rc .ready none) b bt bc
  have k37:c3.le c7:=by repeat (first | assumption | refine Cx.le.trans ?_ (by assumption))
  have k07:c0.le c7:=by repeat (first | assumption | refine Cx.le.trans ?_ (by assumption))
  have hp7:=hpc.mono k37
  have hG7:=hG.mono k07
  refine (AY hJ (c7.w.heap.size+1) ?_ (m1.mono k8) (m3.mono k8) (t:=t) (s0:=(n.1.add_console_console ⟨n.2⟩,[])) ⟨G3,.pointer none,.slice none 0 0,[],O9.keep b8,.inl rfl,.inl ⟨rfl,rfl⟩,(R3.mono k37).mono k8,r8,k8⟩ hs).mono ?_
  · rintro s x z c F' hz ⟨G',p,v,vs,O,hp,hb,R,hr,hc⟩
    unfold tY at hz
    obtain ⟨q,hq,hz⟩:=bs hz
    have hlen:s.2.length+q.2.size≤140737488355328:=rz fun h=>by
      rw [ab h] at hz
      cases hz
    rw [af hlen] at hz
    obtain rfl:=si hz
    refine Ey hrc hr.rc rfl (KO _ _ _ _ _ 11 _) ?_
    refine W.region (va (.string x) (WL.nil (nrm ⟨hr.rc,?_⟩)))
    have k9:=Cx.turn_lw (o':= .loop (rc .busy none)) hr.rc rfl rfl
    have Ob:=Own.turn (o':= .loop (rc .busy none)) O hr.rc rfl
    have Rb:=R.lw k9
    have rb:=hr.turn (rc .busy none)
    have hcb:=hc.turn (o':= .loop (rc .busy none)) (K8 _) hr.rc rfl rfl
    show W _ _ _ _ _ (c.turn (c7.w.heap.size+1) (.loop (rc .busy none))).w
    generalize c.turn (c7.w.heap.size+1) (.loop (rc .busy none))=cb at k9 Ob Rb rb hcb
    have hpb:=hp7.mono hcb
    have hGb:=hG7.mono hcb
    have k0b:=k07.trans hcb
    refine W.block <| W.region <| vx (le1 0 underlying25 (Ob.on 2 rfl)) <| va (.string x) <| cl (pJ Ob Rb hGb (hB.m k0b) (hU.m k0b) (hT.m k0b) (some n.1.console_console.length) x hpb hq) ?_
    rintro _ cA kA ⟨GA,OA_,RA_,rfl⟩
    refine cl (xG OA_ hp hb q.2 hlen) ?_
    rintro _ cB kB ⟨v',vs',OB,hb',rfl⟩
    have kE:cb.le cB:=kA.trans kB
    have rE:=rb.mono kE
    have kt:=Cx.turn_lw (o':= .loop (rc .ready none)) rE.rc rfl rfl
    refine WL.nil <| bkn ⟨rE.rc,cB.turn _ (.loop (rc .ready none)),rfl,k9.trans (kE.lw.trans kt),rfl,GA,Q b,v',vs',Own.turn OB rE.rc rfl,.inr rfl,hb',(RA_.mono kB).lw kt,rE.turn _,(hcb.trans kE).turn (K8 _) rE.rc rfl rfl⟩
  · rintro ex w' ⟨c9,rfl,k9,rfl,G9,p,v,vs,O,hp,hb,R,hr,hc⟩
    have kt:=Cx.turn_lw (o':= .loop (rc .exhausted none)) hr.rc rfl rfl
    have Ot:=Own.turn (o':= .loop (rc .exhausted none)) O hr.rc rfl
    have Rt:=R.lw kt
    have rt:=hr.turn (rc .exhausted none)
    have hct:=hc.turn (o':= .loop (rc .exhausted none)) (K8 _) hr.rc rfl rfl
    refine ⟨_,rfl,.inl ⟨hr.rc,?_⟩⟩
    show my _ _ _ _ (c9.turn (c7.w.heap.size+1) (.loop (rc .exhausted none))).w
    generalize c9.turn (c7.w.heap.size+1) (.loop (rc .exhausted none))=ct at kt Ot Rt rt hct
    refine bkn <| nrm <| WR.sr <| cl (Gv Ot hb) ?_
    rintro _ cE kE ⟨OE,rfl⟩
    have rE:=rt.mono kE
    refine va (.string (mkS s.2)) <| wln <| WR.of <| W.ret ?_
    have kd:=Cx.turn_lw (o':= .deferred none) rE.def_ rfl rfl
    exact Kr rE.def_ ⟨_,cE.turn c7.w.heap.size (.deferred none),rfl,rfl,k07.trans ((hct.trans kE).turn (ao _) rE.def_ rfl rfl),G9,(Own.turn OE rE.def_ rfl).tail,(Rt.mono kE).lw kd,rfl⟩
end Go.Proofs.YtceciacilfhmjaaGreatDoor
namespace Go.Proofs.YtceciacilfhmjaaGreatDoor
open Go Go.Lt
set_option maxRecDepth 10000
set_option linter.unusedVariables false
attribute [local irreducible] W WL AC
open Tryz
variable {c0:Cx} {G:Gm} {F:List En} {sg:Sto} {v1 v2 v3 v4 v5 v6 v7 v8 v9 v10 v11 v12 v13 v14 v15 v16 v17 v18 v19 v20 v21 v22 v23 v24 v25 v26 v27 v28 v29 v30 v31 v32 v33 v34 v35 v36 v37 v38 v39 v40 v41 v42 v43 v44 v45 v46 v47 v48 v49 v50 v51 v52 v53 v54 v55 v56 v57 v58 v59 v60:Value}
def fe (sg:Sto):Option (Sto×Bool):=
 (ey sg (⟨#[115,105,122,101,32,51,32,49,10,102,101,101,100,32,54,49,54,50,10,99,117,114,115,111,114]⟩:ByteArray)).bind fun a=>
 (if (eqS a.2 (⟨#[111,107,10,111,107,10,48,32,50,10]⟩:ByteArray))=true then (ey a.1 (⟨#[115,104,111]⟩:ByteArray)).bind fun c=>
 some (eqS c.2 (⟨#[63,32,48,10]⟩:ByteArray),c.1) else some (false,a.1)).bind fun b=>
 some (b.2,b.1)
theorem mr (y:Own c0 G F) (z:Rel c0 sg G) (hG:Gl [0,1,2,3,4,5,6,7] c0) (hB:Tb6 c0) (hU:Eh c0) (hT:Et c0) {r:Sto×Bool} (H:fe sg=some r): Calls prog 4 #[] c0.w (aO c0 fun c v=>∃G_:Gm,Own c G_ (F)∧Rel c r.1 G_∧v=B r.2):=by
 unfold fe at H;refine en func4 rfl rfl (sr (va (B false) (wln (W.seq (bn H fun f D H=>bn H fun e u H=>W.join (Jn c0 fun c l=>∃G_,Own c G_ (F)∧l= [(0,B e.1)]∧Rel c e.2 G_) ?_ ?_)))))
 ·clear H;refine W.region (cl (jL y z (hG.le (by decide)) hB hU hT (⟨#[115,105,122,101,32,51,32,49,10,102,101,101,100,32,54,49,54,50,10,99,117,114,115,111,114]⟩:ByteArray) D) ?_);rintro v8 A P ⟨x,k,p,rfl⟩;refine vr (B (eqS f.2 (⟨#[111,107,10,111,107,10,48,32,50,10]⟩:ByteArray))) (iE (by kernel_rfl)) ?_;rcases bo (eqS f.2 (⟨#[111,107,10,111,107,10,48,32,50,10]⟩:ByteArray)) with b | b
  ·have a:=it b u;refine vb b (wn (bn a fun d t a=>cl (jL k p (hG.m.le (by decide)) hB.m hU.m hT.m (⟨#[115,104,111]⟩:ByteArray) t) ?_));rintro v17 q l16 ⟨g,i,n,rfl⟩;refine wn (vr (B (eqS d.2 (⟨#[63,32,48,10]⟩:ByteArray))) (iE (by kernel_rfl)) ?_);obtain rfl:=si a;exact vv (B (eqS d.2 (⟨#[63,32,48,10]⟩:ByteArray))) (wln (jn q ⟨g,i,rfl,n⟩))
  obtain rfl:=aH (ie b u);exact vb b (pz (vv (B false) (wln (jn A ⟨x,k,rfl,p⟩))))
 rintro N R ⟨s,E,_,rfl,M,rfl,h,j,rfl,o⟩;refine nrm (W.ret ?_);obtain rfl:=si H;exact r1 (qq s ⟨h,j,o,rfl⟩)
def dj (sg:Sto) (p0:ByteArray) (p1:ByteArray):Option (Sto×Bool):=
 (fe sg).bind fun h=>
 (orE (!h.2) (some (decide ((bL p0) > 400)))).bind fun x=>
 (orE x (some (decide ((bL p1) > 400)))).bind fun k=>
 if k=true then
 (fe h.1).bind fun i=>
 some (i.1,i.2)
 else
 (cV (σ:=Int) (τ:=(Sto×Bool) ⊕ Unit) (500) (fun a=>
 (orE (decide ((w64 (a+3))≤(bL p0))) (some (decide ((w64 (a+3))≤(bL p1))))).bind fun l=>
 if l=true then
 (bX (decide ((w64 (a+3))≤(bL p0))) ((na p0 a (w64 (a+3))).bind fun q=>
 some (eqS q (⟨#[115,105,122]⟩:ByteArray)))).bind fun m=>
 (orE m ((bX (decide ((w64 (a+3))≤(bL p1))) ((na p1 a (w64 (a+3))).bind fun r=>
 some (eqS r (⟨#[115,105,122]⟩:ByteArray)))).bind fun o=>
 some o)).bind fun n=>
 if n=true then
 some (.inr (.inl (h.1,true)))
 else
 some (.inl ((w64 (a+1))))
 else
 some (.inr (.inr ()))) (0)).bind fun c=>
 match c with
 | .inl c=>
 some c
 | .inr c=>
 (rW p0 (⟨#[10]⟩:ByteArray)).bind fun s=>
 (ey h.1 s).bind fun b=>
 (rW p0 (⟨#[10]⟩:ByteArray)).bind fun t=>
 (rW t p1).bind fun u=>
 (ey b.1 u).bind fun d=>
 (bX (decide ((bL d.2)≥(bL b.2))) ((na d.2 0 (bL b.2)).bind fun v=>
 some (eqS v b.2))).bind fun p=>
 (if p=true then (rW p0 (⟨#[10]⟩:ByteArray)).bind fun w=>
 (ey d.1 w).bind fun j=>
 some (eqS j.2 b.2,j.1) else some (false,d.1)).bind fun e=>
 (if e.1=true then (ey e.2 p0).bind fun g=>
 some (eqS g.2 b.2,g.1) else some (false,e.2)).bind fun f=>
 some (f.2,f.1)
theorem mY (O0:Own c0 G F) (R0:Rel c0 sg G) (hG:Gl [0,1,2,3,4,5,6,7] c0) (hB:Tb6 c0) (hU:Eh c0) (hT:Et c0) (f:ByteArray) (g:ByteArray) {r:Sto×Bool} (H:dj sg f g=some r): Calls prog 3 #[.string f,.string g] c0.w (aO c0 fun c v=>∃G_:Gm,Own c G_ (F)∧Rel c r.1 G_∧v=B r.2):=by
 unfold dj at H;refine en func3 rfl rfl (sr (va (B false) (wln (W.seq (W.seq (bn H fun a1 h1 H=>bn H fun v4 h2 H=>bn H fun m2 h3 H=>W.join (Jn c0 fun c l=>∃G_,Own c G_ (F)∧l= [(0,.string f),(1,.string g),(19,B m2)]∧Rel c a1.1 G_) ?_ ?_))))))
 ·clear H;refine W.region (cl (mr O0 R0 (hG.le (by decide)) hB hU hT h1) ?_);rintro v9 c8 l8 ⟨G4,O5,R6,rfl⟩;refine va (B (!a1.2)) ?_;rcases bo (!a1.2) with D | D
  ·obtain rfl:=orT D h2;refine vb D (pz (ps (va (B true) ?_)));have k1:true=true:=rfl;obtain rfl:=orT k1 h3;exact vb k1 (pz (ps (va (B true) (wln (jn c8 ⟨G4,O5,rfl,R6⟩)))))
  have b3:=orF D h2;refine vb D (wa (.string f) (wn (vr (I (bL f)) (rx (by kernel_rfl) (dP (ty:=3) u_9 _)) (wa (B (decide ((bL f) > 400))) ?_))));obtain rfl:=si b3;refine va (B (decide ((bL f) > 400))) ?_;rcases bo (decide ((bL f) > 400)) with E | E
  ·obtain rfl:=orT E h3;exact vb E (pz (ps (va (B true) (wln (jn c8 ⟨G4,O5,rfl,R6⟩)))))
  have c3:=orF E h3;refine vb E (wa (.string g) (wn (vr (I (bL g)) (rx (by kernel_rfl) (dP (ty:=3) u_9 _)) (wa (B (decide ((bL g) > 400))) ?_))));obtain rfl:=si c3;exact va (B (decide ((bL g) > 400))) (wln (jn c8 ⟨G4,O5,rfl,R6⟩))
 rintro e_ w_ ⟨e0,w4,_,rfl,c5,rfl,A,f1,rfl,q0⟩;refine nrm (cn H (fun s3 H=>?_) (fun s3 H=>?_))
 ·refine sr (bn H fun x2 t3 H=>cl (mr f1 q0 (hG.m.le (by decide)) hB.m hU.m hT.m t3) ?_);rintro v28 m3 d5 ⟨z2,e3,j3,rfl⟩;refine va (B x2.2) (wln (W.ret (thr ?_)));obtain rfl:=si H;exact r1 (qq m3 ⟨z2,e3,j3,rfl⟩)
 refine W.skip (nrm (W.seq (sr (va (I 0) (wln (W.block (bn H fun Z m1 d=>lp m1 (fun a=>Jn e0 fun c l=>Own c A (F)∧l= [(0,.string f),(1,.string g),(5,I a)]) (fun t=>match t with | .inl x_=>(fun v1 ex e w=>ex= .ret∧(Jn e0 fun c l=>∃G_,Own c G_ (F)∧l= [(4,B v1.2)]∧Rel c v1.1 G_) e w) x_ | .inr x_=>(fun f4 ex e w=>ex= .exit 0∧(Jn e0 fun c l=>Own c A (F)∧l= [(0,.string f),(1,.string g)]) e w) x_) ?_ ?_ ?_)))))))
 ·clear d m1;intro a n5 o3 e4 H;revert o3 e4;rintro e_ w_ ⟨t0,x4,_,rfl,e5,rfl,g1,rfl⟩;refine W.seq (W.seq (bn H fun n2 n1 H=>W.join (Jn t0 fun c l=>Own c A (F)∧l= [(0,.string f),(1,.string g),(5,I a),(32,B n2)]) ?_ ?_))
  ·clear H;refine W.region (va (I a) (va (I (w64 (a+3))) (va (.string f) (vr (I (bL f)) (rx (by kernel_rfl) (dP (ty:=3) u_9 _)) (va (B (decide ((w64 (a+3))≤(bL f)))) ?_)))));rcases bo (decide ((w64 (a+3))≤(bL f))) with M | M
   ·obtain rfl:=orT M n1;exact vb M (pz (pz (ps (va (B true) (wln (jn t0 ⟨g1,rfl⟩))))))
   have d3:=orF M n1;refine vb M (wa (I a) (wa (I (w64 (a+3))) (wa (.string g) (wn (vr (I (bL g)) (rx (by kernel_rfl) (dP (ty:=3) u_9 _)) (wa (B (decide ((w64 (a+3))≤(bL g)))) ?_))))));obtain rfl:=si d3;exact va (B (decide ((w64 (a+3))≤(bL g)))) (wln (jn t0 ⟨g1,rfl⟩))
  rintro e_ w_ ⟨n,y4,_,rfl,f5,rfl,s,rfl⟩;refine nrm (cn H (fun u3 H=>?_) (fun u3 H=>?_))
  ·refine W.skip (nrm (W.seq (W.block (W.seq (bn H fun i4 q1 H=>bn H fun o2 z0 H=>W.join (Jn n fun c l=>Own c A (F)∧l= [(0,.string f),(1,.string g),(5,I a),(62,B o2)]) ?_ ?_)))))
   ·clear H;refine W.region (va (I a) (va (I (w64 (a+3))) (va (.string f) (vr (I (bL f)) (rx (by kernel_rfl) (dP (ty:=3) u_9 _)) (va (B (decide ((w64 (a+3))≤(bL f)))) ?_)))));rcases bo (decide ((w64 (a+3))≤(bL f))) with N | N
    ·have i0:=anT N q1;refine vb N (wa (.string f) (wa (I a) (wa (I a) (wa (I (w64 (a+3))) (wn (bn i0 fun y v3 i0=>vr (.string y) (rx (by kernel_rfl) (ql (k:= .i64) (k':= .i64) u_9 v3 _)) (wn (vr (B (eqS y (⟨#[115,105,122]⟩:ByteArray))) (iE (by kernel_rfl)) ?_))))))));obtain rfl:=si i0;refine va (B (eqS y (⟨#[115,105,122]⟩:ByteArray))) ?_;rcases bo (eqS y (⟨#[115,105,122]⟩:ByteArray)) with P | P
     ·obtain rfl:=orT P z0;exact vb P (pz (pz (pz (pz (pz (pz (ps (va (B true) (wln (jn n ⟨s,rfl⟩))))))))))
     have b0:=orF P z0;refine vb P (wa (I a) (wa (I (w64 (a+3))) (wa (.string g) (wn (vr (I (bL g)) (rx (by kernel_rfl) (dP (ty:=3) u_9 _)) (wa (B (decide ((w64 (a+3))≤(bL g)))) (wn (bn b0 fun p2 s1 b0=>?_))))))));rcases bo (decide ((w64 (a+3))≤(bL g))) with R | R
     ·have j0:=anT R s1;refine vb R (wa (.string g) (wa (I a) (wa (I a) (wa (I (w64 (a+3))) (wn (bn j0 fun h w3 j0=>vr (.string h) (rx (by kernel_rfl) (ql (k:= .i64) (k':= .i64) u_9 w3 _)) (wn (vr (B (eqS h (⟨#[115,105,122]⟩:ByteArray))) (iE (by kernel_rfl)) (wn ?_)))))))));obtain rfl:=si j0;refine va (B (eqS h (⟨#[115,105,122]⟩:ByteArray))) ?_;obtain rfl:=si b0;exact va (B (eqS h (⟨#[115,105,122]⟩:ByteArray))) (wln (jn n ⟨s,rfl⟩))
     obtain rfl:=anF R s1;refine vb R (pz (pz (pz (wa (B false) ?_))));obtain rfl:=si b0;exact va (B false) (wln (jn n ⟨s,rfl⟩))
    obtain rfl:=anF N q1;refine vb N (pz (pz (pz (va (B false) ?_))));have t1:false=false:=rfl;have d0:=orF t1 z0;refine vb t1 (wa (I a) (wa (I (w64 (a+3))) (wa (.string g) (wn (vr (I (bL g)) (rx (by kernel_rfl) (dP (ty:=3) u_9 _)) (wa (B (decide ((w64 (a+3))≤(bL g)))) (wn (bn d0 fun p2 u1 d0=>?_))))))));rcases bo (decide ((w64 (a+3))≤(bL g))) with S | S
    ·have k0:=anT S u1;refine vb S (wa (.string g) (wa (I a) (wa (I a) (wa (I (w64 (a+3))) (wn (bn k0 fun h x3 k0=>vr (.string h) (rx (by kernel_rfl) (ql (k:= .i64) (k':= .i64) u_9 x3 _)) (wn (vr (B (eqS h (⟨#[115,105,122]⟩:ByteArray))) (iE (by kernel_rfl)) (wn ?_)))))))));obtain rfl:=si k0;refine va (B (eqS h (⟨#[115,105,122]⟩:ByteArray))) ?_;obtain rfl:=si d0;exact va (B (eqS h (⟨#[115,105,122]⟩:ByteArray))) (wln (jn n ⟨s,rfl⟩))
    obtain rfl:=anF S u1;refine vb S (pz (pz (pz (wa (B false) ?_))));obtain rfl:=si d0;exact va (B false) (wln (jn n ⟨s,rfl⟩))
   rintro e_ w_ ⟨j1,z4,_,rfl,g5,rfl,i1,rfl⟩;refine nrm (cn H (fun y3 H=>?_) (fun y3 H=>?_))
   ·refine sr (va (B true) (wln (W.ret (bkr (thr ?_)))));obtain rfl:=si H;exact ⟨_,rfl,⟨rfl,jn j1 ⟨A,i1,rfl,q0.m⟩⟩⟩
   refine W.skip (bkn (nrm (W.region (va (I a) (vv (I (w64 (a+1))) (WL.nil ?_))))));obtain rfl:=si H;exact ⟨_,rfl,jn j1 ⟨i1,rfl⟩⟩
  refine W.exit (thx ?_);obtain rfl:=si H;exact ⟨_,rfl,rfl,jn n ⟨s,rfl⟩⟩
 ·exact jn e0 ⟨f1,rfl⟩
 rcases Z with Z | Z
 ·intro p3; revert p3;rintro _ e_ w_ ⟨rfl,n3,a5,_,rfl,h5,rfl,a3,f3,rfl,k3⟩;refine bkr (thr ?_);obtain rfl:=si d;exact r1 (qq n3 ⟨a3,f3,k3,rfl⟩)
 rintro _ e_ w_ ⟨rfl,t4,b5,_,rfl,i5,rfl,g3,rfl⟩;refine bke (nrm (sr (va (.string f) (bn d fun b1 z3 d=>vr (.string b1) (rx (by kernel_rfl) (lB z3 _)) (bn d fun b a4 d=>cl (jL g3 q0.m (hG.m.le (by decide)) hB.m hU.m hT.m b1 a4) ?_)))));rintro l5 u4 j5 ⟨s4,i3,l3,rfl⟩;refine va (.string b.2) (wln (sr (va (.string f) (bn d fun y2 b4 d=>vr (.string y2) (rx (by kernel_rfl) (lB b4 _)) (va (.string g) (bn d fun c1 c4 d=>vr (.string c1) (rx (by kernel_rfl) (lB c4 _)) (bn d fun i d4 d=>cl (jL i3 l3 (hG.m.le (by decide)) hB.m hU.m hT.m c1 d4) ?_)))))));rintro m5 u0 k5 ⟨e1,m0,s0,rfl⟩;refine va (.string i.2) (wln (W.seq (bn d fun j4 v0 d=>bn d fun k4 X d=>bn d fun f0 u d=>W.join (Jn u0 fun c l=>∃G_,Own c G_ (F)∧l= [(4,B f0.1)]∧Rel c f0.2 G_) ?_ ?_)))
 ·clear d;refine W.region (va (.string i.2) (vr (I (bL i.2)) (rx (by kernel_rfl) (dP (ty:=3) u_9 _)) (va (.string b.2) (vr (I (bL b.2)) (rx (by kernel_rfl) (dP (ty:=3) u_9 _)) (va (B (decide ((bL i.2)≥(bL b.2)))) ?_)))));rcases bo (decide ((bL i.2)≥(bL b.2))) with o | o
  ·have T:=anT o v0;refine vb o (wa (.string i.2) (wa (.string b.2) (wn (vr (I (bL b.2)) (rx (by kernel_rfl) (dP (ty:=3) u_9 _)) (wn (bn T fun z q2 T=>vr (.string z) (rx (by kernel_rfl) (tP (k':= .i64) u_9 q2 _)) (wa (.string b.2) (wn (vr (B (eqS z b.2)) (iE (by kernel_rfl)) ?_)))))))));obtain rfl:=si T;refine va (B (eqS z b.2)) ?_;rcases bo (eqS z b.2) with p | p
   ·have j:=it p X;refine vb p (wa (.string f) (wn (bn j fun d1 s2 j=>vr (.string d1) (rx (by kernel_rfl) (lB s2 _)) (wn (bn j fun a0 t2 j=>cl (jL m0 s0 (hG.m.le (by decide)) hB.m hU.m hT.m d1 t2) ?_)))));rintro q4 i2 n4 ⟨w1,l0,o0,rfl⟩;refine wa (.string b.2) (wn (vr (B (eqS a0.2 b.2)) (iE (by kernel_rfl)) ?_));obtain rfl:=si j;refine va (B (eqS a0.2 b.2)) ?_;rcases bo (eqS a0.2 b.2) with q | q
    ·have U:=it q u;refine vb q (wa (.string f) (wn (bn U fun x u2 U=>cl (jL l0 o0 (hG.m.le (by decide)) hB.m hU.m hT.m f u2) ?_)));rintro r4 j2 o4 ⟨x1,b2,e2,rfl⟩;refine wa (.string b.2) (wn (vr (B (eqS x.2 b.2)) (iE (by kernel_rfl)) ?_));obtain rfl:=si U;exact vv (B (eqS x.2 b.2)) (wln (jn j2 ⟨x1,b2,rfl,e2⟩))
    obtain rfl:=aH (ie q u);exact vb q (pz (pz (vv (B false) (wln (jn i2 ⟨w1,l0,rfl,o0⟩)))))
   obtain rfl:=aH (ie p X);refine vb p (pz (pz (ps (va (B false) ?_))));have w0:false=false:=rfl;obtain rfl:=aH (ie w0 u);exact vb w0 (pz (pz (vv (B false) (wln (jn u0 ⟨e1,m0,rfl,s0⟩)))))
  obtain rfl:=anF o v0;refine vb o (pz (pz (pz (va (B false) ?_))));have x0:false=false:=rfl;obtain rfl:=aH (ie x0 X);refine vb x0 (pz (pz (ps (va (B false) ?_))));have y0:false=false:=rfl;obtain rfl:=aH (ie y0 u);exact vb y0 (pz (pz (vv (B false) (wln (jn u0 ⟨e1,m0,rfl,s0⟩)))))
 rintro e_ w_ ⟨k2,l4,_,rfl,p4,rfl,y1,c2,rfl,f2⟩;refine nrm (W.ret ?_);obtain rfl:=si d;exact r1 (qq k2 ⟨y1,c2,f2,rfl⟩)
end Go.Proofs.YtceciacilfhmjaaGreatDoor
namespace Go.Lt
open Go.ChangeShapes Go.WideShapes Go.RowKit
def C0 (w:World):Cx:=⟨w,fun _ _=>False,fun _ _=>none⟩
theorem Lq (w:World):Own (C0 w) (fun _ _=>[]) []:=
 ⟨⟨fun i e h=>by cases i <;> simp [at_] at h,fun i j e e' h=>by cases i <;> simp [at_] at h⟩,fun _ _ _=>rfl⟩
theorem im0 {w:World} {b o:Nat} {v:Value} (h:w.cell? ⟨b,o,none⟩=some v):Im (C0 w) b o v:=by
 refine ⟨?_,id,h⟩;unfold World.cell? at h;split at h
 ·rename_i hh; exact (Array.getElem?_eq_some_iff.1 hh).1
 ·cases h
section
variable {P:Program} {H:Type} {enc:TypeId×Value→H} {w:World} {sp:Nat→Bool} {held:Bool} {t:TypeId} {v:Value} {d:DataW H} {p:List MemPlace}
end
theorem sE {H:Type} {enc:TypeId×Value→H} {P:Program} (hl:laidOutB P=true) {w w':World} (h:∀k,k < w.heap.size→w'.heap[k]? = w.heap[k]?) {sp:Nat→Bool}:
  ∀{ts:List TypeId} {vs:List Value} {ds:List (DataW H)} {ps:List MemPlace},(ts.all fun t=>P.readableRec t && decide (t < P.types.size))=true→(∀x∈ps,x.block < w.heap.size)→(∀x∈ps,sp x.block=true)→
  DataW.TrodAll enc P w 0 (fun _=>true) true ts vs ds ps→DataW.TrodAll enc P w' 0 sp true ts vs ds ps
 | [],[],[],_,_,_,_,hA=>hA
 | [],_ :: _,_,_,_,_,_,hA=>hA.elim
 | [],[],_ :: _,_,_,_,_,hA=>hA.elim
 | _ :: _,[],_,_,_,_,_,hA=>hA.elim
 | _ :: _,_ :: _,[],_,_,_,_,hA=>hA.elim
 | t :: ts,v :: vs,d :: ds,ps,hr,hlt,hsp,hA=>by
  obtain ⟨p,q,h1,h2,rfl⟩:=hA;simp only [List.all_cons,an,ai] at hr;refine ⟨p,q,WideElems.Trod_stays hl hr.1.1 hr.1.2 h1 (fun x hx=>?_) (fun x hx=>hsp x (fi _ hx)),sE hl h hr.2 (fun x hx=>hlt x (oo _ hx)) (fun x hx=>hsp x (oo _ hx)) h2,rfl⟩;have hb:=hlt x (fi _ hx)
  cases x with
  | cell b o=>exact bZ (w:=w) (h b hb)
  | map b=>exact h b hb
theorem DE {H:Type} {enc:TypeId×Value→H} {P:Program} {f:Func} {s:ChangeSpec} {apart fresh handsOn again:Bool} {w w':World} {args:Array Value} {v:Value} {ds gs:List (DataW H)} {ps before:List MemPlace}
  (hW:DataW.Whole enc P f.params.toList s.vars apart w args.toList ds gs before) (he:before=ps++ [])
  (hr:∀(b:Nat) (sp:Nat→Bool) (hd:Bool),DataW.TrodAll enc P w' b sp hd f.resultTypes.toList (v.resultList f.resultTypes.size) (s.fn H (ds++gs)).results [])
  (ha:∀sp:Nat→Bool,(∀x∈ps,sp x.block=true)→DataW.TrodAll enc P w' 0 sp true f.params.toList args.toList (s.fn H (ds++gs)).args ps)
  (hv:∀sp:Nat→Bool,DataW.TrodVars enc P w' sp s.vars (s.fn H (ds++gs)).vars [])
  (hg:Gr w w') (ho:∀(j:Nat) (t:TypeId) (r:Value),f.resultTypes[j]? = some t→(v.resultList f.resultTypes.size)[j]? = some r→Value.okWide P w' .any 0 t r):s.post enc P f apart fresh handsOn again w args v w':=by
 rw [eP] at he;subst he;have hlt:∀x∈before,x.block < w.heap.size:=fun x hx=>hW.lt x hx;refine ⟨ds,gs,before,[],before,[],hW,hr _ _ _,ha _ (fun x hx=>bA (hlt x hx)),hv _,LA (fun x hx=>⟨hx,.inr (.inl hx)⟩) (hg.frame (· ∈before)),fun _=>?_⟩;obtain ⟨_,_,_,_,_,hz,hn⟩:=hW;refine ⟨ho,_,_,([]++before)++ [],⟨[]++before,[],trodAll_append (ha _ fun _ _=>rfl) (hr _ _ _),hv _,rfl,fun b off hb=>?_,fun e=>?_⟩,fun x hx _=>by simpa using hx⟩
 ·have hb':MemPlace.cell b off∈before:=by simpa using hb
  have:=hlt _ hb';rw [hg.2.1 ⟨b,off,none⟩ this];exact hz b off (by simpa using hb')
 ·simpa using hn e
theorem HJ {P:Program} {laid:List (String×DataW Unit)} {w:World} (h:(laid.filter fun x=>x.2.handleName?.isSome)= []):laidMetH P laid w=laidMet P laid w:=by
 unfold laidMetH;rw [h]
theorem ye {P:Program} {W:World} {ti tp te ts:TypeId} {ms:Array (String×TypeId)} {f:Field} (hi:P.underlying ti=some (.interface ms)) (hrow:∀u,P.typeName? 3 u=some "*errors.errorString"→u=tp)
  (hp:P.underlying tp=some (.pointer te)) (he:P.underlying te=some (.struct #[f])) (hft:f.type=ts) (hfo:f.offset=0) (hs:P.underlying ts=some .string) (hc:P.cellsOf te=1) (hcs:P.cellsOf ts=1):
  ∀{laid:List (String×DataW Unit)} {ps:List MemPlace},DataW.LaidVars P W laid ps→(∀b off,MemPlace.cell b off∈ps→(∃c t,W.heap[b]? = some (.cells c t (0,0)))∧∀u v,W.cell? ⟨b,off,none⟩=some (.iface u v)→Value.okWide P W .any 0 u v)→
  ∀n text g,(n,DataW.iface "*errors.errorString" (.ptr (.agg [.lit (.string text)])))∈laid→P.globalNamed n=some g→(P.globals[g]?).map (·.type)=some ti→∃a s,W.cell? ⟨g,0,none⟩=some (.iface tp (.pointer (some a)))∧W.cell? a=some (.string s)∧s.data.toList=text∧∃c t,W.heap[a.block]? = some (.cells c t (0,0))
 | [],_,_,_,_,_,_,hm,_,_=>by cases hm
 | (n',d) :: r,ps,⟨g',t,cs,fuel,p,q,hg',ht',hv,hd,hr,e⟩,hrows,n,text,g,hm,hg,ht=>by
  subst e;rcases List.mem_cons.1 hm with hh | hm
  ·cases hh;obtain rfl:=aH (hg.symm.trans hg');obtain rfl:=aH (ht.symm.trans ht');obtain ⟨l⟩:=cs;have ok:∀u v,l= [.iface u v]→Value.okWide P W .any 0 u v:=fun u v e=>by
    subst e;exact (hrows g 0 (by simp [MemPlace.row])).2 u v (by simpa using uT hg hv 0)
   obtain ⟨a,s,rfl,h1,h2,_,rfl⟩:=errorString_of_trod hi hrow hp he hft hfo hs hc hcs hd ok;exact ⟨a,s,by simpa using uT hg hv 0,h1,h2,(hrows a.block a.off (by simp [MemPlace.row])).1⟩
  ·exact ye hi hrow hp he hft hfo hs hc hcs hr (fun b off hb=>hrows b off (oo _ hb)) n text g hm hg ht
theorem JB {P:Program} {f:FuncId} {fn:Func} {s:ChangeSpec} {c:OpenClaim} (l1:laidOutB P=true) (l2:mapsRowed P=true) (l3:(P.stops== [])=true) (l4:(P.stopKnobs== [])=true) (l5:P.stopsHeard=true) (l6:P.mayEnter=true)
  (l7:(c.lifted==P.liftsFinal)=true) (l8:(P.make==some c.make)=true) (l9:(c.plainKeys==P.plainKeys)=true)
  (a0:c.wf (OpenSpec.ofChange s)=true) (a1:(fn.params.all (P.readableRec ·) && namedTie P c.named s.vars && (c.stops== []) && (c.knobs== []))=true)
  (a2:(c.inPlace==P.inPlace f)=true) (a3:(c.unfollowed==P.unfollowed f)=true) (a4:(c.recurses==P.recurses f)=true) (a5:(c.named==P.varsNamed f)=true)
  (a6:((c.maps==(fn.params.toList++s.plain.varTypes P).any (P.mapsRec ·)) && (c.ifaces==(fn.params.toList++s.plain.varTypes P).any (P.ifacesRec ·)) && (c.mapsOut==P.mapsAmong fn.resultTypes.toList) &&
   (c.loops==(fn.params.toList++s.plain.varTypes P).any (P.loopsFrom ·)) && (c.wideKeys==(fn.params.toList++s.plain.varTypes P++fn.resultTypes.toList).any (P.wideKeysFrom ·)) &&
   s.vars.all (P.varReadable ·) && fn.resultTypes.all (fun t=>P.readableRec t && decide (t < P.types.size)) && (c.ifacesOut==fn.resultTypes.toList.any (P.ifacesRec ·)) && (c.loopsOut==fn.resultTypes.toList.any (P.loopsFrom ·)))=true)
  (a7:(c.shortTexts.isNone && (c.kinds==(if c.domain.isEmpty then [] else fn.params.toList.map fun t=>match P.underlying t with | some (.int k)=>some k | _=>none)) && (c.pinned==c.pinnedBy) &&
   (c.veiled==(fn.params.toList++s.plain.varTypes P++fn.resultTypes.toList).any (P.veiledRec ·)) && c.veiledFits P fn.params.toList (fn.params.toList++s.plain.varTypes P++fn.resultTypes.toList))=true):joinedFacts P f fn s c=true:=by
 simp only [an] at a1 a6 a7;obtain ⟨⟨⟨b1,b2⟩,b3⟩,b4⟩:=a1;obtain ⟨⟨⟨⟨⟨⟨⟨⟨c1,c2⟩,c3⟩,c4⟩,c5⟩,c6⟩,c7⟩,c8⟩,c9⟩:=a6;obtain ⟨⟨⟨⟨d1,d2⟩,d3⟩,d4⟩,d5⟩:=a7;unfold joinedFacts;simp only [an];exact ⟨⟨⟨⟨⟨⟨⟨⟨⟨⟨⟨⟨⟨⟨⟨⟨⟨⟨⟨⟨⟨⟨⟨⟨⟨⟨⟨⟨⟨⟨⟨a0,l1⟩,l2⟩,b1⟩,b2⟩,b3⟩,l3⟩,b4⟩,l4⟩,a2⟩,a3⟩,a4⟩,a5⟩,c1⟩,c2⟩,c3⟩,c4⟩,c5⟩,c6⟩,c7⟩,c8⟩,c9⟩,l9⟩,d1⟩,l5⟩,l6⟩,l7⟩,l8⟩,d2⟩,d3⟩,d4⟩,d5⟩
end Go.Lt
namespace Go.Proofs.YtceciacilfhmjaaGreatDoor
open Go Go.Lt
set_option linter.unusedVariables false
theorem Lo (w:World):Rel (C0 w) ⟨[],[],[],[],[],[],[]⟩ (fun _ _=>[]):=
 ⟨⟨fun k x h=>by simp at h,fun _ _=>rfl⟩,⟨fun k x h=>by simp at h,fun _ _=>rfl⟩,⟨fun k x h=>by simp at h,fun _ _=>rfl⟩,⟨fun k x h=>by simp at h,fun _ _=>rfl⟩,⟨fun k x h=>by simp at h,fun _ _=>rfl⟩,⟨fun k x h=>by simp at h,fun _ _=>rfl⟩,⟨fun k x h=>by simp at h,fun _ _=>rfl⟩⟩
theorem Kj: "*" ++ "errors.errorString" = "*errors.errorString" :=by decide
set_option maxRecDepth 100000 in
theorem EP (u:TypeId) (h:Tryz.prog.typeName? 3 u=some "*errors.errorString"):u=318:=
 typeName_ptr_named (nm:= "errors.errorString") (by rw [Kj]; kernel_rfl) (by kernel_rfl) (by decide) u (by rw [Kj]; exact h)
set_option maxRecDepth 100000 in
theorem nY {W:World} {laid:List (String×DataW Unit)} (h:laidMetH Tryz.prog laid W) (hf:(laid.filter fun x=>x.2.handleName?.isSome)= []) (n:String) (text:List UInt8) (g:Nat)
  (hm:(n,DataW.iface "*errors.errorString" (.ptr (.agg [.lit (.string text)])))∈laid) (hg:Tryz.prog.globalNamed n=some g) (ht:(Tryz.prog.globals[g]?).map (·.type)=some 38):
  ∃a s,Im (C0 W) g 0 (.iface 318 (.pointer (some a)))∧W.cell? a=some (.string s)∧s.data.toList=text∧RE 318 126 (C0 W) (.iface 318 (.pointer (some a))) (.sent g):=by
 rw [HJ hf] at h;obtain ⟨ps,hl,_,hr⟩:=h;obtain ⟨a,s,h1,h2,h3,cs,t,h4⟩:=ye Tryz.underlying38 EP Tryz.underlying318 Tryz.underlying320 rfl rfl Tryz.underlying9 (by kernel_rfl) (by kernel_rfl) hl hr n text g hm hg ht;exact ⟨a,s,im0 h1,h2,h3,a,rfl,im0 h1,(Array.getElem?_eq_some_iff.1 h4).1,fun _=>id,cs,t,h4⟩
theorem JG {W:World} {n:List Nat} (tx:Nat→List UInt8) (h:∀g,g∈n→∃a s,Im (C0 W) g 0 (.iface 318 (.pointer (some a)))∧W.cell? a=some (.string s)∧s.data.toList=tx g∧RE 318 126 (C0 W) (.iface 318 (.pointer (some a))) (.sent g))
  (hd:∀g,g∈n→∀g',g'∈n→tx g=tx g'→g=g'):Gl n (C0 W):=by
 refine ⟨fun g hg=>?_,fun g g' hg hg' hne a h1 h2=>?_⟩
 ·obtain ⟨a,_,_,_,_,h4⟩:=h g hg;exact ⟨_,h4⟩
 ·obtain ⟨a1,s1,e1,e2,e3,_⟩:=h g hg;obtain ⟨a2,s2,f1,f2,f3,_⟩:=h g' hg';have q1:=e1.cell.symm.trans h1.cell;have q2:=f1.cell.symm.trans h2.cell;cases q1;cases q2;have q3:=e2.symm.trans f2;cases q3;exact hne (hd g hg g' hg' (e3.symm.trans f3))
end Go.Proofs.YtceciacilfhmjaaGreatDoor
namespace Go.Proofs.YtceciacilfhmjaaGreatDoor
open Go Go.Lt Go.RowKit
theorem tg {H:Type} {enc:TypeId×Value→H} {a:Assume} {C:Checked} {os:Os} {f:FuncId} {fn:Func} {s:ChangeSpec} {conds:List PathCond} {apart fresh handsOn again:Bool} {X:World→Array Value→Prop}
  (hX:∀(w w':World) (args:Array Value),w.heap=w'.heap→X w args→X w' args)
  (own:ownKnob C.prog.godebug=none) (started:os.Started) (noInit:C.prog.inits.idxOf? f=none) (hfn:C.prog.funcs[f]? = some fn)
  (witness:∃(w:World) (tape:Tape) (i:Input),w.os=os∧(w.forCall tape i).Shaped C.prog∧i.vars= []∧Input.okWide C.prog (w.forCall tape i) .any w.heap.size f i∧
   ((s.pre enc C.prog fn conds apart (w.forCall tape i).memory i.args∧X (w.forCall tape i).memory i.args)∧sizedMet enc C.prog fn (OpenSpec.ofChange s) apart (w.forCall tape i).memory i.args)∧a.holds C.prog (lone (Frame.enter C.prog f i.args .normal) [] (w.forCall tape i)))
  (contract:∀(W:World) (base:Nat) (args:Array Value) (ds gs:List (DataW H)) (before:List MemPlace),
   (∀(j:Nat) t v,fn.params[j]? = some t→args[j]? = some v→Value.okWide C.prog W .any base t v)→
   DataW.Whole enc C.prog fn.params.toList s.vars apart W args.toList ds gs before→
   conds.all (PathCond.test C.prog ⟨fn.params.toList,ds,s.plain.varTypes C.prog,gs⟩)=true→
   (DataW.weightsEach C.prog (fn.params.toList++s.plain.varTypes C.prog) (ds++gs)).all (· ≤reachBytes)=true→X W args→
   W.ShapedOpen C.prog→
   a.holds C.prog (lone (Frame.enter C.prog f args .normal) [] W)→
   Calls C.prog f args W fun e W'=>∃v,e= .returned v∧s.post enc C.prog fn apart fresh handsOn again W args v W'):
  ReturnsInHanded a C os f .any (fun w args=>(s.pre enc C.prog fn conds apart w args∧X w args)∧sizedMet enc C.prog fn (OpenSpec.ofChange s) apart w args) (s.post enc C.prog fn apart fresh handsOn again):=by
 refine returnsInHanded_of_calls own started noInit witness ?_;intro w tape i _ hsh _ hok hpre hholds;obtain ⟨_,_,_,fn',hfn',_,_,_,_,hval⟩:=hok;have e:fn'=fn:=aH (hfn'.symm.trans hfn);subst e;obtain ⟨⟨⟨ds,gs,before,hw,hc⟩,hx⟩,hz⟩:=hpre;have hw':=DataW.Whole.of_heap (w':=w.forCall tape i) (by rfl) hw;refine (contract (w.forCall tape i) w.heap.size i.args ds gs before hval hw' hc (hz.weights hw) (hX _ _ _ (by rfl) hx) hsh hholds).mono fun e W' ⟨v,he,hp⟩=>?_;subst he;exact ChangeSpec.post_blind hp
theorem we {P:Program} {W:World} {name:String} {k:IntKind} {zs:List Int} {g:Nat} {t e:TypeId} {n:Nat}
  (hg:P.globalNamed name=some g) (hty:(P.globals[g]?).map (·.type)=some t) (ht:P.underlying t=some (.array n e)) (he:P.underlying e=some (.int k)) (hce:P.cellsOf e=1) (hct:P.cellsOf t=n) (hn:0 < zs.length):
  ∀{laid:List (String×DataW Unit)} {ps:List MemPlace},DataW.LaidVars P W laid ps→(∀b off,MemPlace.cell b off∈ps→(∃c t,W.heap[b]? = some (.cells c t (0,0)))∧∀u v,W.cell? ⟨b,off,none⟩=some (.iface u v)→Value.okWide P W .any 0 u v)→
  (name,Lib.tabData k zs)∈laid→Lib.TabIs P W name k zs∧∃c t,W.heap[g]? = some (.cells c t (0,0))
 | [],_,_,_,hm=>by cases hm
 | (n',d) :: r,ps,⟨g',t',cs,fuel,p,q,hg',ht',hv,hd,hr,e2⟩,hrows,hm=>by
  subst e2;rcases List.mem_cons.1 hm with hh | hm
  ·cases hh;obtain rfl:=aH (hg.symm.trans hg');obtain rfl:=aH (hty.symm.trans ht');have hcs:=Lib.cells_of_tab ht he hce hct hd;have hsz:cs.size=zs.length:=by
    have:=dG List.length hcs;simpa using this
   refine ⟨by unfold Lib.TabIs; rw [hv,←hcs],(hrows g 0 ?_).1⟩;refine fi _ (fi _ ?_);unfold MemPlace.row;rw [hsz];exact List.mem_map.2 ⟨0,List.mem_range.2 hn,by simp⟩
  ·exact we hg hty ht he hce hct hn hr (fun b off hb=>hrows b off (oo _ hb)) hm
theorem Ao {W:World} (h:W.ShapedOpen Tryz.prog):∃m,W.cell? ⟨10,0,none⟩=some (.int .i64 m):=
 cell_of_shapedOpen_int (t:=3) (zero:= #[.int .i64 0]) h (Ak (by kernel_rfl)) (by kernel_rfl) rfl (by kernel_rfl) (by kernel_rfl) (by kernel_rfl)
theorem et0 {W:World} {laid:List (String×DataW Unit)} (hs:W.ShapedOpen Tryz.prog) (hf:(laid.filter fun x=>x.2.handleName?.isSome)= []) (h:laidMetH Tryz.prog laid W) (hm:("internal/strconv.uint64pow10",Lib.tabData .u64 Lib.pow10Tab)∈laid):Et (C0 W):=by
 rw [HJ hf] at h;obtain ⟨ps,hl,_,hr⟩:=h;obtain ⟨h1,c,t,h2⟩:=we (t:=230) (e:=193) (n:=20) uI (by kernel_rfl) (by kernel_rfl) (by kernel_rfl) (by kernel_rfl) (by kernel_rfl) (by decide) hl hr hm;obtain ⟨m,h3⟩:=Ao hs;exact ⟨⟨m,im0 h3⟩,⟨(Array.getElem?_eq_some_iff.1 h2).1,fun _=>id,c,t,h2⟩,h1⟩
theorem zO:Tryz.prog.globalNamed "math/bits.deBruijn64tab" = some 14:=by kernel_rfl
theorem tb0 {W:World} {laid:List (String×DataW Unit)} (hf:(laid.filter fun x=>x.2.handleName?.isSome)= []) (h:laidMetH Tryz.prog laid W) (hm:("math/bits.deBruijn64tab",Lib.tabData .u8 I5)∈laid):Tb6 (C0 W):=by
 rw [HJ hf] at h;obtain ⟨ps,hl,_,hr⟩:=h;obtain ⟨h1,_⟩:=we (t:=293) (e:=5) (n:=64) zO (by kernel_rfl) (by kernel_rfl) (by kernel_rfl) (by kernel_rfl) (by kernel_rfl) (by decide) hl hr hm;intro j x hx;refine im0 ?_;rw [uT zO h1 j,bj,dx,hx];rfl
end Go.Proofs.YtceciacilfhmjaaGreatDoor
namespace Go.Proofs.YtceciacilfhmjaaGreatDoor
open Go Go.Lt
set_option linter.unusedVariables false
structure ae where
  L:List aq
  At:aj
  Auto:Bool
def jQ (p0:Int):Option (Bool):=
 (bX (decide (p0≥0)) (some (decide (p0≤1114111)))).bind fun b=>
 (bX b ((orE (decide (p0 < 55296)) (some (decide (p0 > 57343)))).bind fun a=>
 some a)).bind fun c=>
 some c
def lg (p0:Int) (p1:List Int):Option (List aa):=
 (cV (σ:=(List Int)×Int) (τ:=(List Int)) (((p1.length:Int) - 0).toNat+1) (fun a=>
 (bX (decide (a.2 < (p1.length:Int))) (some (decide (a.2 < 16)))).bind fun c=>
 if c=true then
 ((idx p1 a.2).bind fun e=>
 (jQ e).bind fun f=>
 if f=true then
 (idx p1 a.2).bind fun g=>
 (app a.1 ([g]:List Int)).bind fun h=>
 some (h)
 else
 (app a.1 ([65533]:List Int)).bind fun i=>
 some (i)).bind fun j=>
 some (.inl (j,(w64 (a.2+1))))
 else
 some (.inr (a.1))) (([]:List Int),0)).bind fun b=>
 (bX ((b.length:Int)==0) (some (decide (p0 > 1)))).bind fun d=>
 if d=true then
 some ([(⟨0,([]:List Int)⟩:aa),(⟨0,([]:List Int)⟩:aa)]:List aa)
 else
 if ((b.length:Int)==0)=true then
 some ([(⟨0,([]:List Int)⟩:aa)]:List aa)
 else
 if (decide (p0 > 1))=true then
 some ([(⟨2,b⟩:aa),(⟨3,([]:List Int)⟩:aa)]:List aa)
 else
 some ([(⟨1,b⟩:aa)]:List aa)
def gO (p0:List aa) (p1:Bool) (p2:Int) (p3:List aa):Option ((List aa)×Bool):=
 (cV (σ:=Bool×(List aa)×Int) (τ:=(Bool×(List aa))) (((p0.length:Int) - 0).toNat+1) (fun a=>
 if (decide (a.2.2 < (p0.length:Int)))=true then
 (bX (decide (a.2.2≥p2)) (some (decide (a.2.2 < (w64 (p2+(p3.length:Int))))))).bind fun c=>
 (idx p0 a.2.2).bind fun e=>
 (if c=true then
 (idx p3 (w64 (a.2.2 - p2))).bind fun f=>
 some (f.Kind,f.Text)
 else
 some (e.Kind,e.Text)).bind fun b=>
 (bX (!c) ((bX (b.1==2) (some (decide ((w64 (a.2.2+1))≥p2)))).bind fun l=>
 (bX l (some (decide ((w64 (a.2.2+1)) < (w64 (p2+(p3.length:Int))))))).bind fun m=>
 (orE m ((bX (b.1==3) (some (decide ((w64 (a.2.2 - 1))≥p2)))).bind fun o=>
 (bX o (some (decide ((w64 (a.2.2 - 1)) < (w64 (p2+(p3.length:Int))))))).bind fun p=>
 some p)).bind fun n=>
 some n)).bind fun d=>
 (if d=true then
 some (0,([]:List Int))
 else
 some (b.1,b.2)).bind fun g=>
 ((bX ((w64 (a.2.2+1))==(p0.length:Int)) ((orE c (some d)).bind fun i=>
 some i)).bind fun h=>
 if h=true then
 some (false)
 else
 some (a.1)).bind fun q=>
 (app a.2.1 ([(⟨g.1,g.2⟩:aa)]:List aa)).bind fun j=>
 some (.inl (q,j,(w64 (a.2.2+1))))
 else
 some (.inr (a.1,a.2.1))) (p1,([]:List aa),0)).bind fun k=>
 some (k.2,k.1)
def fO (p0:List aq) (p1:Int) (p2:Int) (p3:Int) (p4:Bool):Option (List aq):=
 (orE (decide ((aS 0 (aM p1 (p0.length:Int)))≥(aS 0 (aM p2 (p0.length:Int))))) (some (decide (p3 < 1)))).bind fun j=>
 if j=true then
 some p0
 else
 (cV (σ:=(List aq)×Int) (τ:=(List aq)) (((p0.length:Int) - 0).toNat+1) (fun a=>
 if (decide (a.2 < (p0.length:Int)))=true then
 (idx p0 a.2).bind fun c=>
 ((bX (decide (a.2≥(aS 0 (aM p1 (p0.length:Int))))) (some (decide (a.2 < (aS 0 (aM p2 (p0.length:Int))))))).bind fun k=>
 if k=true then
 (if (!p4)=true then
 some ((w64 (a.2 - (aM p3 (w64 ((aS 0 (aM p2 (p0.length:Int))) - (aS 0 (aM p1 (p0.length:Int)))))))))
 else
 some ((w64 (a.2+(aM p3 (w64 ((aS 0 (aM p2 (p0.length:Int))) - (aS 0 (aM p1 (p0.length:Int)))))))))).bind fun b=>
 (idx p0 a.2).bind fun n=>
 (rep (n.Cells.length:Int) (⟨0,([]:List Int)⟩:aa)).bind fun o=>
 (bX (decide (b≥(aS 0 (aM p1 (p0.length:Int))))) (some (decide (b < (aS 0 (aM p2 (p0.length:Int))))))).bind fun l=>
 if l=true then
 (idx p0 b).bind fun d=>
 some (d.Cells,d.Wrap)
 else
 some (o,false)
 else
 some (c.Cells,c.Wrap)).bind fun e=>
 ((orE ((w64 (a.2+1))==(aS 0 (aM p1 (p0.length:Int)))) ((bX (!p4) (some ((w64 (a.2+1))==(aS 0 (aM p2 (p0.length:Int)))))).bind fun g=>
 some g)).bind fun f=>
 if f=true then
 some (false)
 else
 some (e.2)).bind fun i=>
 (app a.1 ([(⟨e.1,i⟩:aq)]:List aq)).bind fun h=>
 some (.inl (h,(w64 (a.2+1))))
 else
 some (.inr (a.1))) (([]:List aq),0)).bind fun m=>
 some m
def gj (p0:Int) (p1:Int):Option (Int):=
 if (decide (p0 < 0))=true then
 some 0
 else
 if (decide (p0≥p1))=true then
 some (w64 (p1 - 1))
 else
 some p0
def cO (p0:Int):Option (Int):=
 if (decide (p0 < 1))=true then
 some 1
 else
 if (decide (p0 > 1024))=true then
 some 1024
 else
 some p0
def il (p0:aj) (p1:Int) (p2:Int):Option (aj):=
 (cO p2).bind fun b=>
 (gj p0.Row b).bind fun c=>
 (cO p1).bind fun d=>
 (gj p0.Col d).bind fun e=>
 (bX p0.Pending ((cO p1).bind fun f=>
 some (p0.Col==(w64 (f - 1))))).bind fun a=>
 some (⟨c,e,a⟩:aj)
def dZ (p0:ae):Option (Int):=
 (idx p0.L 0).bind fun a=>
 some (a.Cells.length:Int)
def cz (p0:ae):Option (ae):=
 (dZ p0).bind fun a=>
 (il p0.At a (p0.L.length:Int)).bind fun b=>
 some (⟨p0.L,b,p0.Auto⟩:ae)
def er (p0:ae):Option (ae):=
 (cz p0).bind fun a=>
 if (decide ((w64 (a.At.Row+1)) < (a.L.length:Int)))=true then
 some (⟨a.L,(⟨(w64 (a.At.Row+1)),a.At.Col,false⟩:aj),a.Auto⟩:ae)
 else
 (fO a.L 0 (a.L.length:Int) 1 true).bind fun b=>
 some (⟨b,(⟨a.At.Row,a.At.Col,false⟩:aj),a.Auto⟩:ae)
def cy (p0:ae) (p1:Int) (p2:aq):Option (ae):=
 (app ([]:List aq) p0.L).bind fun a=>
 (idx a p1).bind fun c=>
 (mj a p1 p2).bind fun b=>
 some (⟨b,p0.At,p0.Auto⟩:ae)
def cS (p0:ae):Option (ae):=
 (idx p0.L p0.At.Row).bind fun b=>
 (cy p0 p0.At.Row (⟨b.Cells,true⟩:aq)).bind fun a=>
 (er (⟨a.L,(⟨a.At.Row,0,false⟩:aj),a.Auto⟩:ae)).bind fun c=>
 some c
def cu (p0:ae) (p1:Int) (p2:Int) (p3:List aa):Option (ae):=
 (idx p0.L p1).bind fun d=>
 (idx p0.L p1).bind fun b=>
 (gO d.Cells b.Wrap p2 p3).bind fun a=>
 (cy p0 p1 (⟨a.1,a.2⟩:aq)).bind fun c=>
 some c
def jP (p0:aj) (p1:Int) (p2:Int) (p3:Bool):Option (aj):=
 (if (decide (p1 > 1))=true then
 some (2)
 else
 some (1)).bind fun a=>
 (cO p2).bind fun b=>
 if (decide (p0.Col≥(w64 (b - a))))=true then
 (cO p2).bind fun c=>
 some (⟨p0.Row,(w64 (c - 1)),p3⟩:aj)
 else
 some (⟨p0.Row,(w64 (p0.Col+a)),false⟩:aj)
def aZ (p0:ae) (p1:Int) (p2:List Int):Option (ae×aj):=
 (cz p0).bind fun c=>
 (dZ c).bind fun d=>
 (if (decide ((aS 1 (aM p1 2)) > d))=true then
 some (1,([65533]:List Int))
 else
 some ((aS 1 (aM p1 2)),p2)).bind fun g=>
 (if c.At.Pending=true then
 (cS c).bind fun e=>
 some (e.L,e.At.Row,e.At.Col,e.At.Pending,e.Auto)
 else
 some (c.L,c.At.Row,c.At.Col,c.At.Pending,c.Auto)).bind fun a=>
 ((bX (g.1==2) (some (a.2.2.1==(w64 (d - 1))))).bind fun i=>
 if i=true then
 if a.2.2.2.2=true then
 (rep 1 (⟨0,([]:List Int)⟩:aa)).bind fun j=>
 (cu (⟨a.1,(⟨a.2.1,a.2.2.1,a.2.2.2.1⟩:aj),a.2.2.2.2⟩:ae) a.2.1 (w64 (d - 1)) j).bind fun k=>
 (cS k).bind fun f=>
 some (f.L,f.At.Row,f.At.Col,f.At.Pending,f.Auto)
 else
 some (a.1,a.2.1,(w64 (d - 2)),a.2.2.2.1,a.2.2.2.2)
 else
 some (a.1,a.2.1,a.2.2.1,a.2.2.2.1,a.2.2.2.2)).bind fun b=>
 (lg g.1 g.2).bind fun l=>
 (cu (⟨b.1,(⟨b.2.1,b.2.2.1,b.2.2.2.1⟩:aj),b.2.2.2.2⟩:ae) b.2.1 b.2.2.1 l).bind fun h=>
 (jP (⟨b.2.1,b.2.2.1,false⟩:aj) g.1 d h.Auto).bind fun m=>
 some ((⟨h.L,m,h.Auto⟩:ae),(⟨b.2.1,b.2.2.1,false⟩:aj))
def jk (p0:Int):Option (Bool):=
 (bX (decide (p0≥0)) (some (decide (p0≤31)))).bind fun b=>
 (orE b ((bX (decide (p0≥127)) (some (decide (p0≤159)))).bind fun a=>
 some a)).bind fun c=>
 some c
def dF (p0:ae) (p1:Int):Option (ae×Bool):=
 (if (p1==13)=true then
 (cz p0).bind fun f=>
 some (f.L,f.At.Row,0,false,f.Auto)
 else
 some (p0.L,p0.At.Row,p0.At.Col,p0.At.Pending,p0.Auto)).bind fun b=>
 (if (p1==10)=true then
 (er (⟨b.1,(⟨b.2.1,b.2.2.1,b.2.2.2.1⟩:aj),b.2.2.2.2⟩:ae)).bind fun c=>
 some (c.L,c.At.Row,c.At.Col,c.At.Pending,c.Auto)
 else
 some (b.1,b.2.1,b.2.2.1,b.2.2.2.1,b.2.2.2.2)).bind fun a=>
 (if (p1==8)=true then
 (cz (⟨a.1,(⟨a.2.1,a.2.2.1,a.2.2.2.1⟩:aj),a.2.2.2.2⟩:ae)).bind fun e=>
 some (e.L,e.At.Row,(aS 0 (w64 (e.At.Col - 1))),false,e.Auto)
 else
 some (a.1,a.2.1,a.2.2.1,a.2.2.2.1,a.2.2.2.2)).bind fun d=>
 (jk p1).bind fun g=>
 some ((⟨d.1,(⟨d.2.1,d.2.2.1,d.2.2.2.1⟩:aj),d.2.2.2.2⟩:ae),g)
def qx:Option (List ByteArray):=
 some ([(⟨#[48,48,48,48,49,49,48,48,49,48,48,48,48,48]⟩:ByteArray),(⟨#[48,48,49,48,48,48,48,48,48,48,48,48,48,48]⟩:ByteArray),(⟨#[48,48,48,48,48,48,48,48,48,48,48,48,48,48]⟩:ByteArray),(⟨#[48,48,48,48,48,48,48,48,48,48,48,48,48,48]⟩:ByteArray),(⟨#[50,48,48,48,49,49,48,48,49,48,48,48,48,48]⟩:ByteArray),(⟨#[50,48,48,48,49,49,48,48,49,48,48,48,48,48]⟩:ByteArray),(⟨#[48,48,48,48,49,49,50,48,49,48,48,48,48,48]⟩:ByteArray),(⟨#[49,48,48,48,49,49,49,49,49,49,49,49,49,49]⟩:ByteArray),(⟨#[48,48,48,48,49,49,48,48,49,48,48,48,48,48]⟩:ByteArray),(⟨#[48,48,48,48,49,49,48,48,49,49,49,48,49,49]⟩:ByteArray),(⟨#[48,48,48,48,49,49,48,48,49,48,49,49,48,48]⟩:ByteArray),(⟨#[48,48,48,48,49,49,48,48,49,48,48,49,48,48]⟩:ByteArray),(⟨#[48,48,48,48,49,49,48,48,49,48,49,49,48,48]⟩:ByteArray),(⟨#[48,48,48,48,49,49,48,48,49,48,48,49,48,48]⟩:ByteArray)]:List ByteArray)
def fQ (p0:Int) (p1:Int):Option (Int):=
 ((orE (decide (p0 < 0)) (some (decide (p0 > 13)))).bind fun f=>
 if f=true then
 some (0)
 else
 some (p0)).bind fun g=>
 ((orE (decide (p1 < 0)) (some (decide (p1 > 13)))).bind fun a=>
 if a=true then
 some (0)
 else
 some (p1)).bind fun e=>
 (qx).bind fun b=>
 (idx b g).bind fun c=>
 (nb c e).bind fun d=>
 some (w64 ((w64 d) - 48))
def dz (p0:List aa) (p1:Bool) (p2:Int) (p3:Int):Option ((List aa)×Bool):=
 if (decide ((aS 0 (aM p2 (p0.length:Int)))≥(aS 0 (aM p3 (p0.length:Int)))))=true then
 some (p0,p1)
 else
 (rep (w64 ((aS 0 (aM p3 (p0.length:Int))) - (aS 0 (aM p2 (p0.length:Int))))) (⟨0,([]:List Int)⟩:aa)).bind fun b=>
 (gO p0 p1 (aS 0 (aM p2 (p0.length:Int))) b).bind fun a=>
 some (a.1,a.2)
def kI (p0:List aa) (p1:Bool) (p2:Int) (p3:Int) (p4:Int):Option ((List aa)×Bool):=
 if (p2==0)=true then
 (dz p0 p1 p3 p4).bind fun b=>
 some (b.1,b.2)
 else
 if (p2==1)=true then
 if (decide (p3 < 0))=true then
 some (p0,p1)
 else
 (dz p0 p1 0 (w64 ((aM p3 (p0.length:Int))+1))).bind fun c=>
 some (c.1,c.2)
 else
 if (p2==2)=true then
 (dz p0 p1 p3 (p0.length:Int)).bind fun d=>
 some (d.1,d.2)
 else
 if (p2==3)=true then
 (dz p0 p1 0 (p0.length:Int)).bind fun g=>
 some (g.1,false)
 else
 (orE (decide (p3 < 0)) (some (decide (p4 < 1)))).bind fun e=>
 (orE e (some (decide (p3≥(p0.length:Int))))).bind fun f=>
 if f=true then
 some (p0,p1)
 else
 (dz p0 p1 p3 (w64 (p3+(aM p4 (p0.length:Int))))).bind fun a=>
 some (a.1,a.2)
def fP (p0:List aa) (p1:Int):Option (List aa):=
 (cV (σ:=(List aa)×Int) (τ:=(List aa)) (((p0.length:Int) - 0).toNat+1) (fun a=>
 if (decide (a.2 < (p0.length:Int)))=true then
 (idx p0 a.2).bind fun b=>
 ((bX (decide (p1 < (p0.length:Int))) ((idx p0 p1).bind fun g=>
 some (g.Kind==3))).bind fun d=>
 (bX d ((orE (a.2==p1) (some ((w64 (a.2+1))==p1))).bind fun f=>
 some f)).bind fun e=>
 if e=true then
 some (0,([]:List Int))
 else
 some (b.Kind,b.Text)).bind fun c=>
 (app a.1 ([(⟨c.1,c.2⟩:aa)]:List aa)).bind fun h=>
 some (.inl (h,(w64 (a.2+1))))
 else
 some (.inr (a.1))) (([]:List aa),0)).bind fun i=>
 some i
def ji (p0:List aa) (p1:Int) (p2:Int):Option ((List aa)×Bool):=
 (orE (decide (p1 < 0)) (some (decide (p1≥(p0.length:Int))))).bind fun l=>
 (orE l (some (decide (p2 < 1)))).bind fun h=>
 if h=true then
 some (p0,false)
 else
 (fP p0 p1).bind fun c=>
 (cV (σ:=(List aa)×Int) (τ:=(List aa)) (((p0.length:Int) - 0).toNat+1) (fun a=>
 if (decide (a.2 < (p0.length:Int)))=true then
 (if (decide (a.2 < p1))=true then
 (idx c a.2).bind fun d=>
 some (d.Kind,d.Text)
 else
 some (0,([]:List Int))).bind fun f=>
 (if (decide (a.2≥(w64 (p1+(aM p2 (w64 ((p0.length:Int) - p1)))))))=true then
 (idx c (w64 (a.2 - (aM p2 (w64 ((p0.length:Int) - p1)))))).bind fun e=>
 some (e.Kind,e.Text)
 else
 some (f.1,f.2)).bind fun b=>
 ((bX ((w64 (a.2+1))==(p0.length:Int)) (some (b.1==2))).bind fun i=>
 if i=true then
 some (0,([]:List Int))
 else
 some (b.1,b.2)).bind fun g=>
 (app a.1 ([(⟨g.1,g.2⟩:aa)]:List aa)).bind fun k=>
 some (.inl (k,(w64 (a.2+1))))
 else
 some (.inr (a.1))) (([]:List aa),0)).bind fun j=>
 some (j,true)
def jj (p0:List aa) (p1:Int) (p2:Int):Option ((List aa)×Bool):=
 (orE (decide (p1 < 0)) (some (decide (p1≥(p0.length:Int))))).bind fun j=>
 (orE j (some (decide (p2 < 1)))).bind fun f=>
 if f=true then
 some (p0,false)
 else
 (fP p0 p1).bind fun h=>
 (fP h (w64 (p1+(aM p2 (w64 ((p0.length:Int) - p1)))))).bind fun b=>
 (cV (σ:=(List aa)×Int) (τ:=(List aa)) (((p0.length:Int) - 0).toNat+1) (fun a=>
 if (decide (a.2 < (p0.length:Int)))=true then
 (if (decide (a.2 < p1))=true then
 (idx b a.2).bind fun c=>
 some (c.Kind,c.Text)
 else
 if (decide ((w64 (a.2+(aM p2 (w64 ((p0.length:Int) - p1))))) < (p0.length:Int)))=true then
 (idx b (w64 (a.2+(aM p2 (w64 ((p0.length:Int) - p1)))))).bind fun d=>
 some (d.Kind,d.Text)
 else
 some (0,([]:List Int))).bind fun e=>
 (app a.1 ([(⟨e.1,e.2⟩:aa)]:List aa)).bind fun i=>
 some (.inl (i,(w64 (a.2+1))))
 else
 some (.inr (a.1))) (([]:List aa),0)).bind fun g=>
 some (g,true)
def pv (p0:List aa) (p1:Int):Option (List aa):=
 (rep (aS 1 (aM p1 1024)) (⟨0,([]:List Int)⟩:aa)).bind fun i=>
 (cV (σ:=(List aa)×Int) (τ:=(List aa)) (((aS 1 (aM p1 1024)) - 0).toNat+1) (fun a=>
 (bX (decide (a.2 < (aS 1 (aM p1 1024)))) (some (decide (a.2 < (p0.length:Int))))).bind fun b=>
 if b=true then
 ((orE (decide ((w64 (a.2+1)) < (aS 1 (aM p1 1024)))) ((idx p0 a.2).bind fun f=>
 some (f.Kind != 2))).bind fun c=>
 if c=true then
 (idx p0 a.2).bind fun g=>
 (idx a.1 a.2).bind fun j=>
 (mj a.1 a.2 g).bind fun e=>
 some (e)
 else
 some (a.1)).bind fun h=>
 some (.inl (h,(w64 (a.2+1))))
 else
 some (.inr (a.1))) (i,0)).bind fun d=>
 some d
def pu (p0:ae) (p1:Int) (p2:Int):Option (ae):=
 (cz p0).bind fun d=>
 (cO p1).bind fun f=>
 (cO p2).bind fun c=>
 (cV (σ:=(List aq)×Int) (τ:=((List aq)×Int)) ((d.At.Row - c).toNat+2) (fun a=>
 if (decide (a.2≥c))=true then
 (slc a.1 1 a.1.length).bind fun h=>
 some (.inl (h,(w64 (a.2 - 1))))
 else
 some (.inr (a.1,a.2))) (d.L,d.At.Row)).bind fun e=>
 (cV (σ:=(List aq)×Int) (τ:=(List aq)) ((c - 0).toNat+1) (fun b=>
 if (decide (b.2 < c))=true then
 (if (decide (b.2 < (e.1.length:Int)))=true then
 (idx e.1 b.2).bind fun i=>
 some (i.Cells)
 else
 some (([]:List aa))).bind fun l=>
 (pv l f).bind fun j=>
 (app b.1 ([(⟨j,false⟩:aq)]:List aq)).bind fun k=>
 some (.inl (k,(w64 (b.2+1))))
 else
 some (.inr (b.1))) (([]:List aq),0)).bind fun g=>
 some (⟨g,(⟨e.2,(aM d.At.Col (w64 (f - 1))),false⟩:aj),d.Auto⟩:ae)
def dw (p0:ae) (p1:Int) (p2:Int) (p3:Int) (p4:Int):Option (ae):=
 (idx p0.L p1).bind fun d=>
 (idx p0.L p1).bind fun b=>
 (kI d.Cells b.Wrap p2 p3 p4).bind fun a=>
 (cy p0 p1 (⟨a.1,a.2⟩:aq)).bind fun c=>
 some c
def jO (p0:ae) (p1:Int) (p2:Int):Option (ae):=
 (idx ([2,1,3]:List Int) p2).bind fun k=>
 (dw p0 p0.At.Row k p0.At.Col 0).bind fun b=>
 (cV (σ:=Int×(List aq)×Int×Int×Bool×Bool) (τ:=((List aq)×Int×Int×Bool×Bool)) (((b.L.length:Int) - 0).toNat+1) (fun a=>
 (bX (decide (a.1 < (a.2.1.length:Int))) (some (p1==4))).bind fun f=>
 if f=true then
 ((orE (p2==2) ((bX (p2==0) (some (decide (a.1 > a.2.2.1)))).bind fun h=>
 some h)).bind fun g=>
 (orE g ((bX (p2==1) (some (decide (a.1 < a.2.2.1)))).bind fun j=>
 some j)).bind fun i=>
 if i=true then
 (dw (⟨a.2.1,(⟨a.2.2.1,a.2.2.2.1,a.2.2.2.2.1⟩:aj),a.2.2.2.2.2⟩:ae) a.1 3 0 0).bind fun d=>
 some (d.L,d.At.Row,d.At.Col,d.At.Pending,d.Auto)
 else
 some (a.2.1,a.2.2.1,a.2.2.2.1,a.2.2.2.2.1,a.2.2.2.2.2)).bind fun e=>
 some (.inl ((w64 (a.1+1)),e.1,e.2.1,e.2.2.1,e.2.2.2.1,e.2.2.2.2))
 else
 some (.inr (a.2.1,a.2.2.1,a.2.2.2.1,a.2.2.2.2.1,a.2.2.2.2.2))) (0,b.L,b.At.Row,b.At.Col,b.At.Pending,b.Auto)).bind fun c=>
 some (⟨c.1,(⟨c.2.1,c.2.2.1,c.2.2.2.1⟩:aj),c.2.2.2.2⟩:ae)
def lf (p0:ae) (p1:ba):Option (ae):=
 (cz p0).bind fun a=>
 (idx a.L a.At.Row).bind fun c=>
 (if (p1.Kind==2)=true then
 (dZ (⟨a.L,(⟨a.At.Row,a.At.Col,false⟩:aj),a.Auto⟩:ae)).bind fun o=>
 (il (⟨p1.A,p1.B,false⟩:aj) o (a.L.length:Int)).bind fun h=>
 some (c.Cells,false,a.L,h.Row,h.Col,h.Pending,a.Auto)
 else
 (if (p1.Kind==3)=true then
 some (p1.Kind==3)
 else
 some (p1.Kind==4)).bind fun p=>
 if p=true then
 (jO (⟨a.L,(⟨a.At.Row,a.At.Col,false⟩:aj),a.Auto⟩:ae) p1.Kind p1.A).bind fun f=>
 some (c.Cells,false,f.L,f.At.Row,f.At.Col,f.At.Pending,f.Auto)
 else
 if (p1.Kind==5)=true then
 (dw (⟨a.L,(⟨a.At.Row,a.At.Col,false⟩:aj),a.Auto⟩:ae) a.At.Row 4 a.At.Col p1.A).bind fun g=>
 some (c.Cells,false,g.L,g.At.Row,g.At.Col,g.At.Pending,g.Auto)
 else
 if (p1.Kind==6)=true then
 (ji c.Cells a.At.Col p1.A).bind fun j=>
 some (j.1,j.2,a.L,a.At.Row,a.At.Col,false,a.Auto)
 else
 if (p1.Kind==7)=true then
 (jj c.Cells a.At.Col p1.A).bind fun i=>
 some (i.1,i.2,a.L,a.At.Row,a.At.Col,false,a.Auto)
 else
 (if (p1.Kind==8)=true then
 some (p1.Kind==8)
 else
 some (p1.Kind==9)).bind fun m=>
 if m=true then
 (fO a.L a.At.Row (a.L.length:Int) p1.A (p1.Kind==9)).bind fun k=>
 some (c.Cells,false,k,a.At.Row,0,false,a.Auto)
 else
 (if (p1.Kind==10)=true then
 some (p1.Kind==10)
 else
 some (p1.Kind==11)).bind fun n=>
 if n=true then
 (fO a.L 0 (a.L.length:Int) p1.A (p1.Kind==10)).bind fun l=>
 some (c.Cells,false,l,a.At.Row,a.At.Col,false,a.Auto)
 else
 if (p1.Kind==12)=true then
 some (c.Cells,false,a.L,a.At.Row,a.At.Col,false,p1.A != 0)
 else
 some (c.Cells,false,a.L,a.At.Row,a.At.Col,false,a.Auto)).bind fun b=>
 (if b.2.1=true then
 (cy (⟨b.2.2.1,(⟨b.2.2.2.1,b.2.2.2.2.1,b.2.2.2.2.2.1⟩:aj),b.2.2.2.2.2.2⟩:ae) a.At.Row (⟨b.1,false⟩:aq)).bind fun d=>
 some (d.L,d.At.Row,d.At.Col,d.At.Pending,d.Auto)
 else
 some (b.2.2.1,b.2.2.2.1,b.2.2.2.2.1,b.2.2.2.2.2.1,b.2.2.2.2.2.2)).bind fun e=>
 some (⟨e.1,(⟨e.2.1,e.2.2.1,e.2.2.2.1⟩:aj),e.2.2.2.2⟩:ae)
end Go.Proofs.YtceciacilfhmjaaGreatDoor
namespace Go.Proofs.YtceciacilfhmjaaGreatDoor
structure Sg where
 some:Bool
 last:Int
 pict:Int
 conj:Int
 odd:Bool
def sg0:Sg:=⟨false,0,0,0,false⟩
def nxP (s:Int) (p:aP):Int:=if p.Pict=true then 1 else if s=1∧p.Break=4 then 1 else if s=1∧p.Break=5 then 2 else 0
def nxC (s:Int) (p:aP):Int:=if p.Conj=1 then 1 else if s=0 then 0 else if p.Conj=2 then 2 else if p.Conj=3 then s else 0
def sgN (s:Sg) (p:aP):Sg:=⟨true,p.Break,nxP s.pict p,nxC s.conj p,p.Break==6 && !(s.some && s.last==6 && s.odd)⟩
def sgF (l:List aP):Sg:=l.foldl sgN sg0
def sgJ (pj:Int→Int→Int) (s:Sg) (p:aP):Bool:=
 s.some && ((p.Conj==1 && s.conj==2) || (p.Pict && s.pict==2) || pj s.last p.Break==1 || (pj s.last p.Break==2 && s.last==6 && s.odd))
def ri:List aP→Nat
 | []=>0
 | x :: l=>if x.Break=6 then ri l+1 else 0
def hb:List aP→Int
 | []=>0
 | x :: _=>x.Break
def od:List aP→Bool
 | []=>false
 | x :: l=>x.Break==6 && !(!l.isEmpty && hb l==6 && od l)
theorem LM (l:List aP):od l=(ri l % 2==1):=by
 induction l with
 | nil=>rfl
 | cons x l ih=>
  unfold od ri;by_cases h:x.Break=6
  ·rw [af h,ih];have hb':(x.Break==6)=true:=by simp [h]
   rw [hb',gG]
   cases l with
   | nil=>rfl
   | cons y l=>
    by_cases h2:y.Break=6
    ·have e:(hb (y :: l)==6)=true:=by simp [hb,h2]
     rw [e];simp only [LQ,kq,gG];rw [da];simp only [dQ,bN,aA];omega
    ·have e:(hb (y :: l)==6)=false:=by simp [hb,h2]
     rw [e];simp only [GU,qS,kq];have:ri (y :: l)=0:=by unfold ri; rw [ab h2]
     rw [this];rfl
  ·rw [ab h];simp [h]
structure Sq (s t:Sg):Prop where
 pict:s.pict=t.pict
 conj:s.conj=t.conj
 odd:s.odd=t.odd
theorem Jb {s t:Sg} (h:Sq s t) (h1:s.odd=true→s.some=true∧s.last=6) (h2:t.odd=true→t.some=true∧t.last=6) (p:aP):sgN s p=sgN t p:=by
 unfold sgN;rw [h.pict,h.conj]
 congr 2
 have:(s.some && s.last==6 && s.odd)=(t.some && t.last==6 && t.odd):=by
  have ho:=h.odd;rw [da];simp only [an,aA];constructor
  ·rintro ⟨_,q⟩;have:=h2 (ho▸ q);exact ⟨this,ho▸ q⟩
  ·rintro ⟨_,q⟩;have:=h1 (ho▸ q);exact ⟨this,ho▸ q⟩
 rw [this]
end Go.Proofs.YtceciacilfhmjaaGreatDoor
namespace Go.Proofs.YtceciacilfhmjaaGreatDoor
def GM (c:List (List Int)) (r:Int):List (List Int):=c.dropLast++ [c.getLast?.getD []++ [r]]
theorem rd (c:List (List Int)) (x:List Int) (r:Int):GM (c++ [x]) r=c++ [x++ [r]]:=by
 unfold GM;simp
section
variable (pj:Int→Int→Int) (pr:Int→aP)
def clS (l:List Int):List (List Int)×Sg:=l.foldl (fun a r=>(if sgJ pj a.2 (pr r)=true then GM a.1 r else a.1++ [[r]],sgN a.2 (pr r))) ([],sg0)
def cls (l:List Int):List (List Int):=(clS pj pr l).1
def jn (l:List Int) (r:Int):Bool:=sgJ pj (sgF (l.map pr)) (pr r)
theorem vJ (l:List aP) (x:aP):sgF (l++ [x])=sgN (sgF l) x:=by
 unfold sgF;rw [rT];rfl
theorem KX (l:List Int):(clS pj pr l).2=sgF (l.map pr):=by
 have key:∀(l:List Int) (a:List (List Int)×Sg),(l.foldl (fun a r=>(if sgJ pj a.2 (pr r)=true then GM a.1 r else a.1++ [[r]],sgN a.2 (pr r))) a).2=(l.map pr).foldl sgN a.2:=by
  intro l
  induction l with
  | nil=>intro a; rfl
  | cons r l ih=>intro a; rw [Eu,ih,dL,Eu]
 exact key l _
theorem C4:cls pj pr []= []:=rfl
theorem wL (l:List Int) (r:Int):cls pj pr (l++ [r])=if jn pj pr l r=true then GM (cls pj pr l) r else cls pj pr l++ [[r]]:=by
 unfold cls jn;rw [←KX pj];unfold clS;rw [rT];rfl
theorem CR {l:List Int} {r:Int} (h:jn pj pr l r=true):l≠ []:=by
 rintro rfl;simp [jn,sgJ,sgF,sg0] at h
end
theorem zT {P:List Int→Prop} (h0:P []) (h1:∀l r,P l→P (l++ [r])) (l:List Int):P l:=by
 have key:∀l:List Int,P l.reverse:=by
  intro l
  induction l with
  | nil=>exact h0
  | cons r l ih=>rw [List.reverse_cons]; exact h1 _ _ ih
 have:=key l.reverse
 rwa [List.reverse_reverse] at this
theorem jV {α:Type} {l:List α} (h:l≠ []):∃l0 x,l=l0++ [x]:=⟨l.dropLast,l.getLast h,(Ev h).symm⟩
variable {pj:Int→Int→Int} {pr:Int→aP}
theorem tq (l:List Int):(cls pj pr l).flatten=l∧(∀c∈cls pj pr l,c≠ [])∧(l≠ []→cls pj pr l≠ []):=by
 refine zT (P:=fun l=>(cls pj pr l).flatten=l∧(∀c∈cls pj pr l,c≠ [])∧(l≠ []→cls pj pr l≠ [])) ⟨rfl,fun c hc=>by simp [C4] at hc,fun h=>absurd rfl h⟩ (fun l r ih=>?_) l;obtain ⟨h1,h2,h3⟩:=ih;rw [wL];split
 ·rename_i hj
  obtain ⟨c0,x,e⟩:=jV (h3 (CR pj pr hj));rw [e] at h1 h2⊢;rw [rd];refine ⟨?_,fun c hc=>?_,fun _=>by simp⟩
  ·rw [←h1]; simp
  ·rcases List.mem_append.1 hc with hc | hc
   ·exact h2 c (fi _ hc)
   ·rw [List.mem_singleton.1 hc]; simp
 ·refine ⟨by rw [Li,h1]; simp,fun c hc=>?_,fun _=>by simp⟩;rcases List.mem_append.1 hc with hc | hc
  ·exact h2 c hc
  ·rw [List.mem_singleton.1 hc]; simp
theorem AW {l:List Int} {x:Int} {c0:List (List Int)} {c:List Int} (h:cls pj pr (l++ [x])=c0++ [c]):∃c',c=c'++ [x]:=by
 obtain ⟨h1,h2,_⟩:=tq (pj:=pj) (pr:=pr) (l++ [x]);rw [h] at h1 h2;obtain ⟨c',y,rfl⟩:=jV (h2 c (by simp));refine ⟨c',?_⟩;rw [Li] at h1;simp only [rU,List.flatten_nil,eP] at h1;rw [←aD] at h1;have:=J5 h1 rfl;rw [List.singleton_inj.1 this]
section
variable (pj:Int→Int→Int) (pr:Int→aP)
end
structure Sil (pj:Int→Int→Int) (pr:Int→aP) (sil:Int→Bool):Prop where
 s:∀r,sil r=true→((pr r).Break=1∨(pr r).Break=2∨(pr r).Break=3)∧(pr r).Pict=false∧(pr r).Conj=0
 ja:∀a b,(a=1∨a=2∨a=3)→pj a b≠0→a=1∧b=2
 jb:∀a b,(b=1∨b=2∨b=3)→pj a b≠0→a=1∧b=2
 b:∀r,(pr r).Break=1∨(pr r).Break=2→sil r=true
variable {sil:Int→Bool}
theorem Sil.state (h:Sil pj pr sil) (l:List Int) {x:Int} (hx:sil x=true):sgF ((l++ [x]).map pr)=⟨true,(pr x).Break,0,0,false⟩:=by
 obtain ⟨h1,h2,h3⟩:=h.s x hx;rw [bb,zD,vJ];unfold sgN nxP nxC;rw [h2,h3,ab (by simp),ab (by omega),ab (by omega),ab (by omega)]
 congr 1
 ·split <;> rfl
 ·have e:((pr x).Break==6)=false:=by rw [bN]; omega
  rw [e,qS]
theorem Sil.no (h:Sil pj pr sil) (l:List Int) {x r:Int} (hx:sil x=true) (hr:sil r=false):jn pj pr (l++ [x]) r=false:=by
 obtain ⟨h1,_,_⟩:=h.s x hx;unfold jn;rw [h.state l hx];have hz:pj (pr x).Break (pr r).Break=0:=rz fun hne=>by
  have:=h.b r (.inr (h.ja _ _ h1 hne).2);rw [hr] at this;cases this
 simp [sgJ,hz]
theorem Sil.new (h:Sil pj pr sil) (l:List Int) {x:Int} (hx:sil x=true) (p:aP):sgN (sgF ((l++ [x]).map pr)) p=sgN sg0 p:=by
 rw [h.state l hx];exact Jb (s:=⟨true,(pr x).Break,0,0,false⟩) (t:=sg0) ⟨rfl,rfl,rfl⟩ (fun e=>by simp at e) (fun e=>by simp [sg0] at e) p
theorem Sil.yes (h:Sil pj pr sil) {l:List Int} {r:Int} (hr:sil r=true) (hj:jn pj pr l r=true):∃l0 x,l=l0++ [x]∧sil x=true:=by
 obtain ⟨l0,x,rfl⟩:=jV (CR pj pr hj);refine ⟨l0,x,rfl,?_⟩;obtain ⟨h1,h2,h3⟩:=h.s r hr;unfold jn at hj;rw [bb,zD,vJ] at hj;have hl:(sgN (sgF (l0.map pr)) (pr x)).last=(pr x).Break:=rfl;unfold sgJ at hj;rw [h2,h3,hl] at hj;have hz:pj (pr x).Break (pr r).Break≠0:=fun e=>by
  rw [e] at hj;simp at hj
 exact h.b x (.inl (h.jb _ _ h1 hz).1)
theorem Sil.all (h:Sil pj pr sil) (l:List Int):∀c∈cls pj pr l,(∀x∈c,sil x=true)∨∀x∈c,sil x=false:=by
 refine zT (P:=fun l=>∀c∈cls pj pr l,(∀x∈c,sil x=true)∨∀x∈c,sil x=false) (fun c hc=>by simp [C4] at hc) (fun l r ih=>?_) l;rw [wL];split
 ·rename_i hj
  obtain ⟨l0,x,rfl⟩:=jV (CR pj pr hj);obtain ⟨c0,c,e⟩:=jV ((tq (pj:=pj) (pr:=pr) (l0++ [x])).2.2 (by simp));obtain ⟨c',rfl⟩:=AW e;rw [e] at ih⊢;rw [rd];intro d hd;rcases List.mem_append.1 hd with hd | hd
  ·exact ih d (fi _ hd)
  ·rw [List.mem_singleton.1 hd];have hc:=ih (c'++ [x]) (by simp)
   cases hr:sil r with
   | true=>
    obtain ⟨l1,y,e1,hy⟩:=h.yes hr hj;have:x=y:=List.singleton_inj.1 (J5 e1 rfl);subst this
    left
    rcases hc with hc | hc
    ·intro z hz;rcases List.mem_append.1 hz with hz | hz
     ·exact hc z hz
     ·rw [List.mem_singleton.1 hz]; exact hr
    ·have:=hc x (by simp);rw [hy] at this;cases this
   | false=>
    right
    rcases hc with hc | hc
    ·have:=h.no l0 (hc x (by simp)) hr;rw [this] at hj;cases hj
    ·intro z hz;rcases List.mem_append.1 hz with hz | hz
     ·exact hc z hz
     ·rw [List.mem_singleton.1 hz]; exact hr
 ·intro d hd;rcases List.mem_append.1 hd with hd | hd
  ·exact ih d hd
  ·rw [List.mem_singleton.1 hd]
   cases hr:sil r with
   | true=>left; intro z hz; rw [List.mem_singleton.1 hz]; exact hr
   | false=>right; intro z hz; rw [List.mem_singleton.1 hz]; exact hr
end Go.Proofs.YtceciacilfhmjaaGreatDoor
namespace Go.Lt
theorem aL {n:Int} (h: -9223372036854775808≤n∧n≤9223372036854775807):w64 n=n:=by
 unfold w64;rw [Cm];omega
theorem yu {n:Int} (h: -2147483648≤n∧n≤2147483647):w32 n=n:=by
 unfold w32;rw [IntKind.wrap_i32];omega
theorem bsm {α β:Type} (a:α) (f:α→Option β):(some a).bind f=f a:=by simp
theorem lF {σ τ:Type} {step:σ→Option (σ ⊕ τ)} (Inv:σ→Prop) (μ:σ→Nat) (post:τ→Prop)
  (h:∀s,Inv s→(∃s',step s=some (.inl s')∧Inv s'∧μ s' < μ s)∨∃t,step s=some (.inr t)∧post t):
  ∀(fuel:Nat) (s:σ),Inv s→μ s < fuel→∃t,cV fuel step s=some t∧post t:=by
 intro fuel
 induction fuel with
 | zero=>intro s _ hm; omega
 | succ k ih=>
  intro s hs hm;rcases h s hs with ⟨s',h1,h2,h3⟩ | ⟨t,h1,h2⟩
  ·obtain ⟨t,h4,h5⟩:=ih s' h2 (by omega);exact ⟨t,by simp [cV,h1,h4],h5⟩
  ·exact ⟨t,by simp [cV,h1],h2⟩
theorem vz {σ τ:Type} {step:σ→Option (σ ⊕ τ)} (Inv:σ→Prop) (μ:σ→Nat) {t:τ}
  (h:∀s,Inv s→(∃s',step s=some (.inl s')∧Inv s'∧μ s' < μ s)∨step s=some (.inr t)) {fuel:Nat} {s:σ} (h0:Inv s) (hm:μ s < fuel):cV fuel step s=some t:=by
 obtain ⟨t',h1,h2⟩:=lF Inv μ (fun x=>x=t) (fun s hs=>(h s hs).imp id fun h=>⟨t,h,rfl⟩) fuel s h0 hm;rw [h1,h2]
theorem bS (a b:Bool):orE a (some b)=some (a || b):=by cases a <;> rfl
theorem bd (a b:Bool):bX a (some b)=some (a && b):=by cases a <;> rfl
theorem ij (x:Option Bool):orE true x=some true:=rfl
theorem db (x:Option Bool):orE false x=x:=rfl
theorem eO (x:Option Bool):bX true x=x:=rfl
theorem fq (x:Option Bool):bX false x=some false:=rfl
theorem HX {α:Type} (xs:List α) (i:Nat):idx xs (i:Int)=xs[i]? :=by
 unfold idx;rw [af (LF i)];rfl
theorem bz {α:Type} {xs:List α} {i:Nat} (h:i < xs.length):idx xs (i:Int)=some xs[i]:=by
 rw [HX,ah h]
theorem nv {α:Type} {xs:List α} {i:Nat} (h:i < xs.length) (x:α):mj xs (i:Int) x=some (xs.set i x):=by
 unfold mj;rw [af ⟨LF i,by omega⟩];rfl
theorem du {α:Type} {xs ys:List α} (h:xs.length+ys.length≤1099511627776):app xs ys=some (xs++ys):=by
 unfold app far;rw [af h]
theorem qn {α:Type} {n:Int} (x:α) (h:0≤n∧n≤1099511627776):rep n x=some (List.replicate n.toNat x):=by
 unfold rep far;rw [af (by omega)]
theorem Bz {α:Type} {xs:List α} {i j:Nat} (h:i≤j) (h2:j≤xs.length):slc xs i j=some ((xs.drop i).take (j - i)):=by
 unfold slc;rw [af (by omega)]
 congr 2
 omega
theorem ik (x y:Int):aS x y=max x y:=by unfold aS; split <;> omega
theorem eV (x y:Int):aM x y=min x y:=by unfold aM; split <;> omega
theorem BR {τ:Type} {step:Int→Option (Int ⊕ τ)} {n:Nat} (hn:n≤9223372036854775807) (post:τ→Prop) (Inv:Nat→Prop) (h0:Inv 0)
  (h:∀i:Nat,i < n→Inv i→(step i=some (.inl ((i+1:Nat):Int))∧Inv (i+1))∨∃t,step i=some (.inr t)∧post t)
  (hend:Inv n→∃t,step n=some (.inr t)∧post t):∃t,cV (((n:Int) - 0).toNat+1) step 0=some t∧post t:=by
 refine lF (fun s:Int=>∃i:Nat,s=(i:Int)∧i≤n∧Inv i) (fun s:Int=>n - s.toNat) post (fun s ⟨i,hs,hi,hI⟩=>?_) _ _ ⟨0,rfl,cR _,h0⟩ (by simp);subst hs;rcases aR i n with hlt | hge
 ·rcases h i hlt hI with ⟨h1,h2⟩ | h1
  ·exact .inl ⟨_,h1,⟨i+1,rfl,hlt,h2⟩,by simp; omega⟩
  ·exact .inr h1
 ·obtain rfl:i=n:=by omega
  exact .inr (hend hI)
theorem eY {σ τ:Type} {step:σ→Option (σ ⊕ τ)} {n:Nat} (Inv:Nat→σ→Prop) (post:τ→Prop)
  (h:∀i s,i < n→Inv i s→(∃s',step s=some (.inl s')∧Inv (i+1) s')∨∃t,step s=some (.inr t)∧post t)
  (hend:∀s,Inv n s→∃t,step s=some (.inr t)∧post t) {fuel:Nat} {s:σ} (h0:Inv 0 s) (hf:n < fuel):∃t,cV fuel step s=some t∧post t:=by
 have key:∀fuel i s,i≤n→n - i < fuel→Inv i s→∃t,cV fuel step s=some t∧post t:=by
  intro fuel
  induction fuel with
  | zero=>intro i s _ hm; omega
  | succ k ih=>
   intro i s hi hm hs;rcases aR i n with hlt | hge
   ·rcases h i s hlt hs with ⟨s',h1,h2⟩ | ⟨t,h1,h2⟩
    ·obtain ⟨t,h4,h5⟩:=ih (i+1) s' hlt (by omega) h2;exact ⟨t,by simp [cV,h1,h4],h5⟩
    ·exact ⟨t,by simp [cV,h1],h2⟩
   ·obtain rfl:i=n:=by omega
    obtain ⟨t,h1,h2⟩:=hend s hs;exact ⟨t,by simp [cV,h1],h2⟩
 exact key fuel 0 s (cR _) (by omega) h0
theorem kX {α β:Type} {x:Option α} {k:α→Option β} {a:α} {r:Option β} (h:x=some a) (h2:k a=r):x.bind k=r:=by rw [h]; exact h2
theorem kv {σ τ β:Type} {step:σ→Option (σ ⊕ τ)} {n:Nat} (Inv:Nat→σ→Prop) (post:τ→Prop) {fuel:Nat} {s:σ} {k:τ→Option β} {r:Option β}
  (h:∀i s,i < n→Inv i s→(∃s',step s=some (.inl s')∧Inv (i+1) s')∨∃t,step s=some (.inr t)∧post t)
  (hend:∀s,Inv n s→∃t,step s=some (.inr t)∧post t) (h0:Inv 0 s) (hf:n < fuel) (hk:∀t,post t→k t=r):(cV fuel step s).bind k=r:=by
 obtain ⟨t,h1,h2⟩:=eY Inv post h hend h0 hf;rw [h1];exact hk t h2
theorem tX {σ τ β:Type} {step:σ→Option (σ ⊕ τ)} {n:Nat} (Inv:Nat→σ→Prop) (post:τ→Prop) {fuel:Nat} {s:σ} {k:τ→Option β} {p:β→Prop}
  (h:∀i s,i < n→Inv i s→(∃s',step s=some (.inl s')∧Inv (i+1) s')∨∃t,step s=some (.inr t)∧post t)
  (hend:∀s,Inv n s→∃t,step s=some (.inr t)∧post t) (h0:Inv 0 s) (hf:n < fuel) (hk:∀t,post t→∃r,k t=some r∧p r):∃r,(cV fuel step s).bind k=some r∧p r:=by
 obtain ⟨t,h1,h2⟩:=eY Inv post h hend h0 hf;rw [h1];exact hk t h2
theorem wk {α τ:Type} {step:List α×Int→Option (List α×Int ⊕ τ)} {n fuel:Nat} (f:Nat→α) {t:τ}
  (h:∀i,i < n→step ((List.range i).map f,(i:Int))=some (.inl ((List.range i).map f++ [f i],((i+1:Nat):Int))))
  (hend:step ((List.range n).map f,(n:Int))=some (.inr t)) (hf:n < fuel):cV fuel step ([],0)=some t:=by
 obtain ⟨t',h1,h2⟩:=eY (step:=step) (n:=n) (fuel:=fuel) (s:=([],0)) (fun i s=>s=((List.range i).map f,(i:Int))) (fun t'=>t'=t)
  (fun i s hi e=>by subst e; exact .inl ⟨_,h i hi,by rw [L6,bb]; rfl⟩) (fun s e=>by subst e; exact ⟨t,hend,rfl⟩) rfl hf
 rw [h1,h2]
theorem eW {i n:Nat} (h:i < n) (hn:n≤9223372036854775807):w64 ((i:Int)+1)=((i+1:Nat):Int):=by
 rw [aL (by omega)];simp
theorem dlt {i n:Nat} (h:i < n):decide ((i:Int) < (n:Int))=true:=by simp; exact h
theorem dnl (n:Nat):decide ((n:Int) < (n:Int))=false:=by simp
end Go.Lt
namespace Go.Lt
variable {α:Type} {lo hi:α→Int}
def tI (lo hi:α→Int):List α→Bool
 | []=>true
 | x :: l=>decide (lo x≤hi x) && (match l with | []=>true | y :: _=>decide (hi x < lo y)) && tI lo hi l
theorem yB:∀{T:List α},tI lo hi T=true→∀i (h:i < T.length),lo T[i]≤hi T[i]
 | [],_,i,h=>by simp at h
 | x :: l,hs,i,h=>by
  simp only [tI,an,ai] at hs
  cases i with
  | zero=>exact hs.1.1
  | succ i=>exact yB hs.2 i (by simpa using h)
theorem qT:∀{T:List α},tI lo hi T=true→∀i j (h:j < T.length),(hij:i < j)→hi (T[i]'(by omega)) < lo T[j]
 | [],_,i,j,h,_=>by simp at h
 | x :: l,hs,i,j,h,hij=>by
  have hs0:=hs;simp only [tI,an,ai] at hs
  cases j with
  | zero=>omega
  | succ j=>
   have hj:j < l.length:=by simpa using h
   cases i with
   | succ i=>exact qT hs.2 i j hj (by omega)
   | zero=>
    cases l with
    | nil=>simp at hj
    | cons y l'=>
     have h1:hi x < lo y:=by simpa using hs.1.2
     cases j with
     | zero=>exact h1
     | succ j=>
      have h2:=qT hs.2 0 (j+1) hj (by omega);have h3:=yB hs.2 0 (by simp);simp only [uw] at h2 h3;simp only [uw,ux] at h2⊢;omega
def onn (lo hi:α→Int) (r:Int) (x:α):Bool:=decide (lo x≤r) && decide (r≤hi x)
theorem sS {r:Int} {x:α}:onn lo hi r x=true↔lo x≤r∧r≤hi x:=by simp [onn]
theorem Fc {T:List α} (hs:tI lo hi T=true) {r:Int} {i j:Nat} (hi':i < T.length) (hj:j < T.length) (h1:onn lo hi r T[i]=true) (h2:onn lo hi r T[j]=true):i=j:=by
 rw [sS] at h1 h2;rcases Nat.lt_trichotomy i j with h | h | h
 ·have:=qT hs i j hj h;omega
 ·exact h
 ·have:=qT hs j i hi' h;omega
def fnd (lo hi:α→Int) (T:List α) (r:Int):Option α:=T.find? (onn lo hi r)
theorem JN {T:List α} (hs:tI lo hi T=true) {r:Int} {x:α} (hx:x∈T) (h:onn lo hi r x=true):fnd lo hi T r=some x:=by
 unfold fnd;obtain ⟨i,hi',rfl⟩:=List.mem_iff_getElem.1 hx;rw [List.find?_eq_some_iff_getElem];refine ⟨h,i,hi',rfl,fun j hj=>?_⟩
 cases hb:onn lo hi r (T[j]'(by omega)) with
 | false=>rfl
 | true=>exact absurd (Fc hs (by omega) hi' hb h) (by omega)
theorem AK {T:List α} {r:Int} (h:∀i (h:i < T.length),onn lo hi r T[i]=false):fnd lo hi T r=none:=by
 unfold fnd;rw [List.find?_eq_none];intro x hx;obtain ⟨i,hi',rfl⟩:=List.mem_iff_getElem.1 hx;simp [h i hi']
theorem Ib {T:List α} {r:Int} {x:α} (h:fnd lo hi T r=some x):x∈T∧onn lo hi r x=true:=⟨List.mem_of_find?_eq_some h,List.find?_some h⟩
theorem za {T:List α} (hs:tI lo hi T=true) {r:Int} {i:Nat} (h1:∀j (h:j < T.length),j < i→hi T[j] < r) (h2:∀j (h:j < T.length),i≤j→r≤hi T[j]):
  fnd lo hi T r=if h:i < T.length then (if lo T[i]≤r then some T[i] else none) else none:=by
 have hno:∀j (h:j < T.length),j≠i→onn lo hi r T[j]=false:=fun j h hne=>by
  cases hb:onn lo hi r T[j] with
  | false=>rfl
  | true=>
   rw [sS] at hb;rcases aR j i with hj | hj
   ·have:=h1 j h hj;omega
   ·have h3:=qT hs i j h (by omega);have h4:=h2 i (by omega) (ao _);omega
 split
 ·rename_i hi'
  split
  ·rename_i hl
   exact JN hs (aF hi') (sS.2 ⟨hl,h2 i hi' (ao _)⟩)
  ·rename_i hl
   refine AK fun j h=>?_;by_cases hj:j=i
   ·subst hj
    cases hb:onn lo hi r T[j] with
    | false=>rfl
    | true=>exact absurd (sS.1 hb).1 hl
   ·exact hno j h hj
 ·rename_i hi'
  exact AK fun j h=>hno j h (by omega)
theorem H0 {a b:Nat} (h:a+b≤4611686018427387904):w64 ((IntKind.u64.wrap (w64 ((a:Int)+(b:Int)))).fdiv (2 ^ 1))=(((a+b) / 2:Nat):Int):=by
 have e0:w64 ((a:Int)+(b:Int))=((a+b:Nat):Int):=by rw [aL (by omega)]; simp
 have h1:IntKind.u64.wrap ((a+b:Nat):Int)=((a+b:Nat):Int):=by
  have:((a+b:Nat):Int) % 18446744073709551616=((a+b:Nat):Int):=Int.emod_eq_of_lt (by omega) (by omega);simpa [IntKind.wrap,IntKind.bits,IntKind.signed] using this
 have e2:(((a+b:Nat):Int)).fdiv (2 ^ 1)=(((a+b) / 2:Nat):Int):=by
  rw [qR _ (by decide)];omega
 rw [e0,h1,e2,aL (by omega)]
theorem qU {T:List α} (hs:tI lo hi T=true) (hl:T.length≤1000000) (r:Int) {step:Int×Int→Option (Int×Int ⊕ Int)}
  (h1:∀a b:Nat,(hab:a < b)→(hb:b≤T.length)→step ((a:Int),(b:Int))=some (.inl (if r≤hi (T[(a+b) / 2]'(by omega)) then ((a:Int),(((a+b) / 2:Nat):Int)) else (((((a+b) / 2+1:Nat):Int)),(b:Int)))))
  (h2:∀a:Nat,step ((a:Int),(a:Int))=some (.inr (a:Int))):
  ∃i:Nat,cV (((T.length:Int) - 0).toNat+1) step (0,(T.length:Int))=some (i:Int)∧i≤T.length∧(∀j (h:j < T.length),j < i→hi T[j] < r)∧(∀j (h:j < T.length),i≤j→r≤hi T[j]):=by
 have hmono:∀j k (h:k < T.length),(hjk:j≤k)→hi (T[j]'(by omega))≤hi T[k]:=fun j k h hjk=>by
  rcases aR j k with hlt | hge
  ·have e1:=qT hs j k h hlt;have e2:=yB hs k h;omega
  ·obtain rfl:j=k:=by omega
   exact Ld _
 obtain ⟨t,e1,i,e2,e3,e4,e5⟩:=lF (step:=step) (fun q=>∃a b:Nat,q=((a:Int),(b:Int))∧a≤b∧b≤T.length∧(∀j (h:j < T.length),j < a→hi T[j] < r)∧(∀j (h:j < T.length),b≤j→r≤hi T[j]))
  (fun q=>(q.2 - q.1).toNat) (fun t=>∃i:Nat,t=(i:Int)∧i≤T.length∧(∀j (h:j < T.length),j < i→hi T[j] < r)∧(∀j (h:j < T.length),i≤j→r≤hi T[j]))
  (by
   rintro q ⟨a,b,rfl,hab,hb,c1,c2⟩;rcases aR a b with hlt | hge
   ·left
    rw [h1 a b hlt hb];refine ⟨_,rfl,?_⟩;by_cases hr:r≤hi (T[(a+b) / 2]'(by omega))
    ·rw [af hr];exact ⟨⟨a,(a+b) / 2,rfl,by omega,by omega,c1,fun j h hj=>Int.le_trans hr (hmono _ _ h hj)⟩,by simp only; omega⟩
    ·rw [ab hr];refine ⟨⟨(a+b) / 2+1,b,rfl,by omega,hb,fun j h hj=>?_,c2⟩,by simp only; omega⟩;have:=hmono j ((a+b) / 2) (by omega) (by omega);omega
   ·right
    obtain rfl:a=b:=by omega
    exact ⟨_,h2 a,a,rfl,hb,c1,c2⟩)
  (((T.length:Int) - 0).toNat+1) (0,(T.length:Int)) ⟨0,T.length,rfl,cR _,ao _,fun j h hj=>by omega,fun j h hj=>by omega⟩ (by simp only; omega)
 subst e2;exact ⟨i,e1,e3,e4,e5⟩
def lk (T:List (Int×Int×Int)) (r:Int):Option Int:=(fnd (fun x=>x.1) (fun x=>x.2.1) T r).map (fun x=>x.2.2)
end Go.Lt
namespace Go.Proofs.YtceciacilfhmjaaGreatDoor
open Go Go.Lt
set_option maxRecDepth 100000
def gT:List (Int×Int×Int):=match mN with | some t=>t | none=>[]
def pT:List (Int×Int):=match lK with | some t=>t | none=>[]
def cT:List (Int×Int×Int):=match lR with | some t=>t | none=>[]
def eT:List (Int×Int×Int):=match lQ with | some t=>t | none=>[]
theorem KM:mN=some gT:=rfl
theorem Kw:lK=some pT:=rfl
theorem K1:lR=some cT:=rfl
theorem KR:lQ=some eT:=rfl
theorem KK:tI (fun x=>x.1) (fun x=>x.2.1) gT=true:=by kernel_rfl
theorem Ku:tI (fun x=>x.1) (fun x=>x.2) pT=true:=by kernel_rfl
theorem KZ:tI (fun x=>x.1) (fun x=>x.2.1) cT=true:=by kernel_rfl
theorem KP:tI (fun x=>x.1) (fun x=>x.2.1) eT=true:=by kernel_rfl
theorem KL:gT.length≤1000000:=by
 have:Nat.ble gT.length 1000000=true:=by kernel_rfl
 exact bh this
theorem Kv:pT.length≤1000000:=by
 have:Nat.ble pT.length 1000000=true:=by kernel_rfl
 exact bh this
theorem K0:cT.length≤1000000:=by
 have:Nat.ble cT.length 1000000=true:=by kernel_rfl
 exact bh this
theorem KQ:eT.length≤1000000:=by
 have:Nat.ble eT.length 1000000=true:=by kernel_rfl
 exact bh this
def hcl (r:Int):Int:=
 if (4352≤r∧r≤4447)∨(43360≤r∧r≤43388) then 9
 else if (4448≤r∧r≤4519)∨(55216≤r∧r≤55238) then 10
 else if (4520≤r∧r≤4607)∨(55243≤r∧r≤55291) then 11
 else if r < 44032∨55203 < r then 0
 else if (r - 44032) % 28=0 then 12 else 13
def r32 (r:Int):Prop:= -2147483648≤r∧r≤2147483647
theorem r32.w {r:Int} (h:r32 r):w64 r=r:=by unfold r32 at h; exact aL (by omega)
theorem Ay {α:Type} {b:Bool} {p:Prop} [Decidable p] (h:b=true↔p) (x y:α):(if b=true then x else y)=if p then x else y:=by
 by_cases hp:p
 ·rw [af hp,af (h.2 hp)]
 ·rw [ab hp,ab (fun e=>hp (h.1 e))]
theorem zS {α:Type} {p:Prop} [Decidable p] (x y:α):(if p then some x else some y)=some (if p then x else y):=by split <;> rfl
theorem tf (r:Int) (h:r32 r):kg r=some (hcl r):=by
 unfold r32 at h;unfold kg jS gn hcl;simp only [bd,bsm,bS];have hw:44032≤r→r≤55203→(w32 (r - 44032)).tmod 28=(r - 44032) % 28:=fun h1 h2=>by
  rw [yu (by omega),Int.tmod_eq_emod_of_nonneg (by omega)]
 rw [Ay (p:=(4352≤r∧r≤4447)∨(43360≤r∧r≤43388)) (by simp),Ay (p:=(4448≤r∧r≤4519)∨(55216≤r∧r≤55238)) (by simp),Ay (p:=(4520≤r∧r≤4607)∨(55243≤r∧r≤55291)) (by simp)];rw [Ay (p:=r < 44032∨55203 < r) (by simp)];by_cases hs:r < 44032∨55203 < r
 ·simp only [af hs,zS]
 ·simp only [ab hs];rw [hw (by omega) (by omega)];rw [Ay (p:=(r - 44032) % 28=0) (by simp)];simp only [zS]
def pic (r:Int):Bool:=(fnd (fun x:Int×Int=>x.1) (fun x=>x.2) pT r).isSome
def pr (r:Int):aP:=⟨(lk gT r).getD (hcl r),pic r,(lk cT r).getD 0,(lk eT r).getD 0⟩
theorem qs {a b n:Nat} (h:a < b) (hb:b≤n):(a+b) / 2 < n:=by omega
theorem JH (r:Int) (h:r32 r):qy r=some ((lk gT r).getD (hcl r)):=by
 have hw:=h.w;have hlen:=KL;unfold qy;rw [KM];simp only [bsm];obtain ⟨i,e1,e2,e3,e4⟩:=qU KK KL r (step:=fun s_7=>
  if (decide (s_7.1 < s_7.2))=true then
  (nF (w64 ((IntKind.u64.wrap (w64 (s_7.1+s_7.2))).fdiv (2 ^ 1))) gT r).bind fun x_22=>
  if (!x_22)=true then
  some (.inl ((w64 ((w64 ((IntKind.u64.wrap (w64 (s_7.1+s_7.2))).fdiv (2 ^ 1)))+1)),s_7.2))
  else
  some (.inl (s_7.1,(w64 ((IntKind.u64.wrap (w64 (s_7.1+s_7.2))).fdiv (2 ^ 1)))))
  else
  some (.inr (s_7.1))) (fun a b hab hb=>by
   simp only;rw [af (by simp; omega),H0 (by omega)];unfold nF;rw [bz (qs hab hb),hw];simp only [bsm];by_cases hr:r≤(gT[(a+b) / 2]'(qs hab hb)).2.1
   ·rw [ab (by simpa using hr),af hr]
   ·rw [af (by simpa using hr),ab hr,aL (by omega)];rfl) (fun a=>by simp only; rw [ab (by simp)])
 unfold fT;rw [e1];simp only [bsm,hw];have hf:=za KK e3 e4;unfold lk;rw [hf];by_cases hi:i < gT.length
 ·rw [rK hi,bz hi];simp only [bsm,bd];by_cases hlo:gT[i].1≤r
  ·rw [af (by simp; exact ⟨hi,hlo⟩),af hlo];rfl
  ·rw [ab (by simp; omega),ab hlo,tf r h];rfl
 ·rw [pY hi,show decide ((i:Int) < (gT.length:Int))=false by simp; omega,fq];simp only [bsm];rw [ab (by decide),tf r h];rfl
theorem Is (r:Int) (h:r32 r):oZ r=some ((lk cT r).getD 0):=by
 have hw:=h.w;have hlen:=K0;unfold oZ;rw [K1];simp only [bsm];obtain ⟨i,e1,e2,e3,e4⟩:=qU KZ K0 r (step:=fun s_7=>
  if (decide (s_7.1 < s_7.2))=true then
  (mQ (w64 ((IntKind.u64.wrap (w64 (s_7.1+s_7.2))).fdiv (2 ^ 1))) cT r).bind fun x_22=>
  if (!x_22)=true then
  some (.inl ((w64 ((w64 ((IntKind.u64.wrap (w64 (s_7.1+s_7.2))).fdiv (2 ^ 1)))+1)),s_7.2))
  else
  some (.inl (s_7.1,(w64 ((IntKind.u64.wrap (w64 (s_7.1+s_7.2))).fdiv (2 ^ 1)))))
  else
  some (.inr (s_7.1))) (fun a b hab hb=>by
   simp only;rw [af (by simp; omega),H0 (by omega)];unfold mQ;rw [bz (qs hab hb),hw];simp only [bsm];by_cases hr:r≤(cT[(a+b) / 2]'(qs hab hb)).2.1
   ·rw [ab (by simpa using hr),af hr]
   ·rw [af (by simpa using hr),ab hr,aL (by omega)];rfl) (fun a=>by simp only; rw [ab (by simp)])
 unfold fB;rw [e1];simp only [bsm,hw];have hf:=za KZ e3 e4;unfold lk;rw [hf];by_cases hi:i < cT.length
 ·rw [rK hi,bz hi];simp only [bsm,bS];by_cases hlo:cT[i].1≤r
  ·rw [ab (by simp; omega),af hlo];rfl
  ·rw [af (by simp; omega),ab hlo];rfl
 ·rw [pY hi,show ((i:Int)==(cT.length:Int))=true by simp; omega,ij];simp only [bsm];rw [af trivial];rfl
theorem Ii (r:Int) (h:r32 r):oX r=some ((lk eT r).getD 0):=by
 have hw:=h.w;have hlen:=KQ;unfold oX;rw [KR];simp only [bsm];obtain ⟨i,e1,e2,e3,e4⟩:=qU KP KQ r (step:=fun s_7=>
  if (decide (s_7.1 < s_7.2))=true then
  (mP (w64 ((IntKind.u64.wrap (w64 (s_7.1+s_7.2))).fdiv (2 ^ 1))) eT r).bind fun x_22=>
  if (!x_22)=true then
  some (.inl ((w64 ((w64 ((IntKind.u64.wrap (w64 (s_7.1+s_7.2))).fdiv (2 ^ 1)))+1)),s_7.2))
  else
  some (.inl (s_7.1,(w64 ((IntKind.u64.wrap (w64 (s_7.1+s_7.2))).fdiv (2 ^ 1)))))
  else
  some (.inr (s_7.1))) (fun a b hab hb=>by
   simp only;rw [af (by simp; omega),H0 (by omega)];unfold mP;rw [bz (qs hab hb),hw];simp only [bsm];by_cases hr:r≤(eT[(a+b) / 2]'(qs hab hb)).2.1
   ·rw [ab (by simpa using hr),af hr]
   ·rw [af (by simpa using hr),ab hr,aL (by omega)];rfl) (fun a=>by simp only; rw [ab (by simp)])
 unfold fA;rw [e1];simp only [bsm,hw];have hf:=za KP e3 e4;unfold lk;rw [hf];by_cases hi:i < eT.length
 ·rw [rK hi,bz hi];simp only [bsm,bS];by_cases hlo:eT[i].1≤r
  ·rw [ab (by simp; omega),af hlo];rfl
  ·rw [af (by simp; omega),ab hlo];rfl
 ·rw [pY hi,show ((i:Int)==(eT.length:Int))=true by simp; omega,ij];simp only [bsm];rw [af trivial];rfl
theorem Hx (r:Int) (h:r32 r):oU r=some (pic r):=by
 have hlen:=Kv;unfold oU;rw [Kw];simp only [bsm];obtain ⟨i,e1,e2,e3,e4⟩:=qU Ku Kv r (step:=fun s_7=>
  if (decide (s_7.1 < s_7.2))=true then
  (mM (w64 ((IntKind.u64.wrap (w64 (s_7.1+s_7.2))).fdiv (2 ^ 1))) pT r).bind fun x_22=>
  if (!x_22)=true then
  some (.inl ((w64 ((w64 ((IntKind.u64.wrap (w64 (s_7.1+s_7.2))).fdiv (2 ^ 1)))+1)),s_7.2))
  else
  some (.inl (s_7.1,(w64 ((IntKind.u64.wrap (w64 (s_7.1+s_7.2))).fdiv (2 ^ 1)))))
  else
  some (.inr (s_7.1))) (fun a b hab hb=>by
   simp only;rw [af (by simp; omega),H0 (by omega)];unfold mM;rw [bz (qs hab hb)];simp only [bsm];by_cases hr:r≤(pT[(a+b) / 2]'(qs hab hb)).2
   ·rw [ab (by simpa using hr),af hr]
   ·rw [af (by simpa using hr),ab hr,aL (by omega)];rfl) (fun a=>by simp only; rw [ab (by simp)])
 unfold fw;rw [e1];simp only [bsm];have hf:=za Ku e3 e4;unfold pic;rw [hf];by_cases hi:i < pT.length
 ·rw [rK hi,bz hi];simp only [bsm,bd];by_cases hlo:pT[i].1≤r
  ·rw [af hlo];simp [hi,hlo]
  ·rw [ab hlo];simp [hlo]
 ·rw [pY hi,show decide ((i:Int) < (pT.length:Int))=false by simp; omega,fq];rfl
theorem I2 (r:Int) (h:r32 r):qw r=some (pr r):=by
 unfold qw;rw [JH r h,Hx r h,Is r h,Ii r h];rfl
end Go.Proofs.YtceciacilfhmjaaGreatDoor
namespace Go.Proofs.YtceciacilfhmjaaGreatDoor
open Go Go.Lt
def bl:aa:=⟨0,[]⟩
def vld (r:Int):Bool:=decide (0≤r) && decide (r≤1114111) && (decide (r < 55296) || decide (r > 57343))
theorem Dy (r:Int):jQ r=some (vld r):=by
 simp only [jQ,bd,bS,bsm,vld,BU]
theorem oI (r:Int):dE r=some (vld r):=by
 simp only [dE,bd,bS,bsm,vld,az];rw [da];simp;omega
def rgt (c:aa):Bool:=
 if c.Kind=0∨c.Kind=3 then c.Text.isEmpty else (decide (c.Kind=1) || decide (c.Kind=2)) && decide (1≤c.Text.length) && decide (c.Text.length≤16) && c.Text.all vld
theorem xJ {α:Type} (p:α→Bool) (l:List α) (i:Nat) (h:i < l.length):(l.take (i+1)).all p=((l.take i).all p && p l[i]):=by
 rw [ay h,List.all_append];simp
theorem zA {α:Type} {p:α→Bool} {l:List α} {i:Nat} (h:i < l.length) (hp:p l[i]=false):l.all p=false:=by
 rw [List.all_eq_false];exact ⟨_,aF h,by simp [hp]⟩
theorem AA {α:Type} (l:List α):((l.length:Int)==0)=l.isEmpty:=by
 cases l <;> simp <;> omega
theorem AX (r:Int):iP r=some (!vld r):=by simp [iP,oI]
theorem xq (l:List Int) (hl:l.length≤9223372036854775807):bR l=some (!l.all vld):=by
 unfold bR cw;obtain ⟨t,h3,h4⟩:=BR (τ:=Int ⊕ Unit) (n:=l.length) (by omega) (fun t=>match t with | .inl i=>0≤i∧l.all vld=false | .inr _=>l.all vld=true) (fun i=>(l.take i).all vld=true) (by simp)
  (step:=fun s_7=>
   if (decide (s_7 < (l.length:Int)))=true then
   (idx l s_7).bind fun x_16=>
   (iP x_16).bind fun x_18=>
   if x_18=true then
   some (.inr (.inl s_7))
   else
   some (.inl ((w64 (s_7+1))))
   else
   some (.inr (.inr ())))
  (fun i hi hI=>by
   have e3:w64 ((i:Int)+1)=((i+1:Nat):Int):=by rw [aL (by omega)]; simp
   simp only [J6,hi,rL,bG,bz hi,bsm,AX,e3]
   cases hv:vld l[i] with
   | true=>exact .inl ⟨by simp,by rw [xJ _ _ _ hi,hI,hv]; rfl⟩
   | false=>exact .inr ⟨.inl i,by simp,by omega,zA hi hv⟩)
  (fun hI=>⟨.inr (),by simp,by simpa using hI⟩)
 rw [h3];simp only [bsm]
 cases t with
 | inl b=>simp only at h4; simp [h4.1,h4.2]
 | inr u=>simp only at h4; simp [h4]
theorem B1 (c:aa):kz c=some (rgt c):=by
 unfold kz rgt;by_cases h1:c.Kind=0∨c.Kind=3
 ·rw [af h1];rcases h1 with h | h <;> simp [h,AA]
 ·have n0:(c.Kind==0)=false:=by simp; omega
  have n3:(c.Kind==3)=false:=by simp; omega
  rw [ab h1];simp only [n0,n3,am,aU,bsm];by_cases h2:c.Kind=1∨c.Kind=2
  ·have e:(if (c.Kind==1)=true then some (c.Kind==1) else some (c.Kind==2):Option Bool)=some true:=by rcases h2 with h | h <;> simp [h]
   have e2:(decide (c.Kind=1) || decide (c.Kind=2))=true:=by simp; exact h2
   rw [e,e2];simp only [bsm,bG,bd,gG];by_cases h3:1≤c.Text.length∧c.Text.length≤16
   ·rw [xq _ (by omega)];have e4:(decide ((c.Text.length:Int) > 0) && decide ((c.Text.length:Int)≤16))=true:=by simp; omega
    have e5:(decide (1≤c.Text.length) && decide (c.Text.length≤16))=true:=by simp; exact h3
    rw [e4,e5];simp [eO]
   ·have e4:(decide ((c.Text.length:Int) > 0) && decide ((c.Text.length:Int)≤16))=false:=by simp; omega
    have e5:(decide (1≤c.Text.length) && decide (c.Text.length≤16))=false:=by simp; omega
    rw [e4,e5];simp [fq]
  ·have n1:(c.Kind==1)=false:=by simp; omega
   have n2:(c.Kind==2)=false:=by simp; omega
   have e2:(decide (c.Kind=1) || decide (c.Kind=2))=false:=by simp; omega
   rw [e2];simp [n1,n2]
def kd (l:List aa) (i:Nat):Int:=match l[i]? with | some c=>c.Kind | none=>0
theorem lD {l:List aa} {i:Nat} (h:i < l.length):kd l i=l[i].Kind:=by simp [kd,ah h]
theorem nc {l:List aa} {i:Nat} (h:l.length≤i):kd l i=0:=by simp [kd,bI h]
def Snd (l:List aa):Prop:=∀i (h:i < l.length),rgt l[i]=true∧(l[i].Kind=2→kd l (i+1)=3)∧(l[i].Kind=3→0 < i∧kd l (i - 1)=2)
theorem wM (l:List aa) (hl:l.length≤9223372036854775807):∃b,jm l=some b∧(b=true↔Snd l):=by
 unfold jm
 let ld:Nat→Bool:=fun i=>match i with | 0=>false | k+1=>decide (kd l k=2)
 have key:∀i (h:i < l.length),((rgt l[i]=true∧(ld i=decide (l[i].Kind=3)))↔rgt l[i]=true∧(l[i].Kind=3→0 < i∧kd l (i - 1)=2)∧(0 < i→kd l (i - 1)=2→l[i].Kind=3)):=fun i h=>by
  cases i with
  | zero=>simp [ld]
  | succ k=>simp only [ld,LC,LU]; constructor <;> (rintro ⟨a,b⟩; exact ⟨a,by omega⟩)
 have snd:Snd l↔(∀i (h:i < l.length),rgt l[i]=true∧ld i=decide (l[i].Kind=3))∧ld l.length=false:=by
  constructor
  ·intro hs;refine ⟨fun i h=>(key i h).2 ⟨(hs i h).1,(hs i h).2.2,fun h0 h2=>?_⟩,?_⟩
   ·have:=(hs (i - 1) (by omega)).2.1 (by rw [←lD]; exact h2);rw [show i - 1+1=i by omega,lD h] at this;exact this
   ·cases hn:l.length with
    | zero=>rfl
    | succ k=>
     simp only [ld,dX];intro h2;have:=(hs k (by omega)).2.1 (by rw [←lD]; exact h2);rw [nc (by omega)] at this;cases this
  ·rintro ⟨h1,h2⟩ i h;have hk:=(key i h).1 (h1 i h);refine ⟨hk.1,fun h3=>?_,hk.2.1⟩;by_cases hn:i+1 < l.length
   ·have:=((key (i+1) hn).1 (h1 (i+1) hn)).2.2 (by omega) (by rw [LC,lD h]; exact h3);rw [lD hn]; exact this
   ·exfalso
    have e:l.length=i+1:=by omega
    rw [e] at h2;simp only [ld,dX] at h2;rw [lD h] at h2;exact h2 h3
 obtain ⟨t,h3,h4⟩:=lF (τ:=Bool ⊕ Bool) (fun s:Bool×Int=>∃i:Nat,s=(ld i,(i:Int))∧i≤l.length∧∀j (h:j < l.length),j < i→rgt l[j]=true∧ld j=decide (l[j].Kind=3)) (fun s=>l.length - s.2.toNat)
  (fun t=>match t with | .inl b=>b=false∧¬Snd l | .inr b=>(b=false↔Snd l))
  (step:=fun s_9=>
   if (decide (s_9.2 < (l.length:Int)))=true then
   (idx l s_9.2).bind fun x_12=>
   (kz x_12).bind fun x_18=>
   (orE (!x_18) (some (!(s_9.1==(x_12.Kind==3))))).bind fun d_20=>
   if d_20=true then
   some (.inr (.inl false))
   else
   some (.inl (x_12.Kind==2,(w64 (s_9.2+1))))
   else
   some (.inr (.inr (s_9.1))))
  (by
   rintro s ⟨i,rfl,hi,hI⟩;rcases aR i l.length with hlt | hge
   ·have e3:w64 ((i:Int)+1)=((i+1:Nat):Int):=by rw [aL (by omega)]; simp
    simp only [J6,hlt,rL,bG,bz hlt,bsm,B1,bS,e3];by_cases hk:rgt l[i]=true∧ld i=decide (l[i].Kind=3)
    ·refine .inl ⟨_,?_,⟨i+1,rfl,hlt,fun j h hj=>?_⟩,?_⟩
     ·rw [ab]
      ·simp only [ld,lD hlt]; rfl
      ·rw [hk.1,hk.2]; simp; rfl
     ·by_cases hji:j=i
      ·subst hji; exact hk
      ·exact hI j h (by omega)
     ·simp; omega
    ·refine .inr ⟨.inl false,?_,rfl,fun hs=>hk ((snd.1 hs).1 i hlt)⟩;rw [af]
     cases h1:rgt l[i] with
     | false=>simp
     | true=>
      simp only [h1,zN] at hk;simp only [eK,kY,dQ,bN,LN];exact hk
   ·obtain rfl:i=l.length:=by omega
    refine .inr ⟨.inr (ld l.length),by simp,?_⟩;simp only;rw [snd];exact ⟨fun h=>⟨fun j hj=>hI j hj hj,h⟩,fun h=>h.2⟩) (((l.length:Int) - 0).toNat+1) (false,0) ⟨0,rfl,cR _,fun j _ h=>by omega⟩ (by simp)
 rw [h3];simp only [bsm]
 cases t with
 | inl b=>exact ⟨b,rfl,by simp only at h4; rw [h4.1]; simp [h4.2]⟩
 | inr b=>exact ⟨!b,rfl,by simp only at h4; rw [←h4]; cases b <;> simp⟩
def Sht (l:List aa):Prop:=∀i (h:i < l.length),l[i].Text.length≤1000000
theorem Snd.sht {l:List aa} (h:Snd l):Sht l:=fun i hi=>by
 have:=(h i hi).1;unfold rgt at this;split at this
 ·have e:l[i].Text= []:=by simpa using this
  rw [e]; simp
 ·simp at this; omega
def fc (r:Int):Int:=if vld r=true then r else 65533
def fx (t:List Int):List Int:=(t.take 16).map fc
def dU (wide:Int) (t:List Int):List aa:=
 if t= [] then (if wide > 1 then [bl,bl] else [bl]) else if wide > 1 then [⟨2,t⟩,⟨3,[]⟩] else [⟨1,t⟩]
theorem vG (r:Int):vld (fc r)=true:=by
 unfold fc;split
 ·assumption
 ·rfl
theorem JJ (t:List Int):∀x∈fx t,vld x=true:=fun x hx=>by
 obtain ⟨y,_,rfl⟩:=List.mem_map.1 hx;exact vG y
theorem JK (t:List Int):(fx t).length≤16:=by simp [fx]; omega
theorem CX (t:List Int):(fx t).length=min 16 t.length:=by simp [fx]
theorem E2 {k:Int} (hk:k=1∨k=2) {t:List Int} (h1:1≤t.length) (h2:t.length≤16) (hv:∀x∈t,vld x=true):rgt ⟨k,t⟩=true:=by
 unfold rgt;rw [ab (by simp; omega)];simp only [an,aC,ai,mo];exact ⟨⟨⟨hk,h1⟩,h2⟩,hv⟩
theorem Dl (wide:Int) {t:List Int} (hv:∀x∈t,vld x=true) (h2:t.length≤16):Snd (dU wide t):=by
 unfold dU;have hb:rgt bl=true:=rfl;have h3:rgt ⟨3,[]⟩=true:=rfl;by_cases ht:t= []
 ·rw [af ht];split
  ·intro i hi
   match i,hi with
   | 0,_=>exact ⟨hb,fun h=>by simp [bl] at h,fun h=>by simp [bl] at h⟩
   | 1,_=>exact ⟨hb,fun h=>by simp [bl] at h,fun h=>by simp [bl] at h⟩
  ·intro i hi
   match i,hi with
   | 0,_=>exact ⟨hb,fun h=>by simp [bl] at h,fun h=>by simp [bl] at h⟩
 ·rw [ab ht];have h1:1≤t.length:=by
   rcases iR t.length with h | h
   ·exact absurd (aW h) ht
   ·exact h
  split
  ·intro i hi
   match i,hi with
   | 0,_=>exact ⟨E2 (.inr rfl) h1 h2 hv,fun _=>rfl,fun h=>by simp at h⟩
   | 1,_=>exact ⟨h3,fun h=>by simp at h,fun _=>⟨by omega,rfl⟩⟩
  ·intro i hi
   match i,hi with
   | 0,_=>exact ⟨E2 (.inl rfl) h1 h2 hv,fun h=>by simp at h,fun h=>by simp at h⟩
theorem E4 (wide:Int) (t:List Int) (ht:t.length≤9223372036854775807):lg wide t=some (dU wide (fx t)):=by
 unfold lg;rw [vz (s:=(([]:List Int),(0:Int))) (t:=fx t) (fun st:List Int×Int=>∃i:Nat,st=((fx t).take i,(i:Int))∧i≤(fx t).length) (fun st=>(fx t).length - st.2.toNat) ?_ ⟨0,rfl,cR _⟩ (by simp [fx]; omega)]
 ·simp only [bsm,bd];unfold dU;by_cases h0:fx t= []
  ·rw [af h0,h0];by_cases hw:wide > 1
   ·simp [hw,bl]
   ·simp [hw,bl]
  ·have h1:(((fx t).length:Int)==0)=false:=by
    rw [bN];intro e;exact h0 (aW (by omega))
   rw [ab h0];simp only [h1,qS,am,aU];by_cases hw:wide > 1
   ·simp [hw]
   ·simp [hw]
 ·rintro st ⟨i,rfl,hi⟩;have hl:=CX t;rcases aR i (fx t).length with hlt | hge
  ·refine .inl ⟨_,?_,⟨i+1,rfl,hlt⟩,by simp; omega⟩;have e3:w64 ((i:Int)+1)=((i+1:Nat):Int):=by rw [aL (by omega)]; simp
   have hit:i < t.length:=by omega
   have d1:(decide ((i:Int) < (t.length:Int)) && decide ((i:Int) < 16))=true:=by simp; omega
   have hx:(fx t)[i]=fc t[i]:=by simp [fx]
   simp only [bd,bsm,d1,bG,bz hit,Dy,e3];have happ:∀x,x=fc t[i]→app ((fx t).take i) [x]=some ((fx t).take (i+1)):=fun x hxx=>by
    rw [du (by rw [av]; simp; omega),ay hlt,hx,hxx]
   cases hv:vld t[i] with
   | true=>
    simp only [bG];rw [happ _ (by simp [fc,hv])];rfl
   | false=>
    simp only [am,aU];rw [happ _ (by simp [fc,hv])];rfl
  ·obtain rfl:i=(fx t).length:=by omega
   have d1:(decide (((fx t).length:Int) < (t.length:Int)) && decide (((fx t).length:Int) < 16))=false:=by simp; omega
   exact .inr (by simp only [bd,bsm,d1,am,aU]; simp)
end Go.Proofs.YtceciacilfhmjaaGreatDoor
namespace Go.Proofs.YtceciacilfhmjaaGreatDoor
open Go Go.Lt
def Sto.sr (s:Sto) (k:Nat) (x:bm):Sto:={ s with row_Row:=s.row_Row.set k x}
theorem cX {α:Type} {l:List α} {k:Nat} {x:α} (h:l[k]? = some x):k < l.length:=(List.getElem?_eq_some_iff.1 h).1
theorem yF {s:Sto} {k:Nat} {x:bm} (h:k < s.row_Row.length):s.set_row_Row k x=some (s.sr k x):=by
 unfold Sto.set_row_Row;rw [af h];rfl
theorem I8 (s:Sto) (k:Nat) (x:bm):(s.sr k x).row_Row.length=s.row_Row.length:=by simp [Sto.sr]
theorem rV {s:Sto} {k:Nat} {x:bm} (h:k < s.row_Row.length):(s.sr k x).row_Row[k]? = some x:=by simp [Sto.sr,h]
theorem zP {s:Sto} {k j:Nat} {x:bm} (h:k≠j):(s.sr k x).row_Row[j]? = s.row_Row[j]? :=by simp [Sto.sr,h]
theorem CA (s:Sto) (k:Nat) (x y:bm):(s.sr k x).sr k y=s.sr k y:=by simp [Sto.sr]
theorem zQ {s:Sto} {k:Nat} {x:bm} (h:s.row_Row[k]? = some x):s.sr k x=s:=by
 have:s.row_Row.set k x=s.row_Row:=by
  apply dy;intro j;by_cases hj:k=j
  ·subst hj; rw [be (cX h),h]
  ·rw [aT hj]
 simp [Sto.sr,this]
variable {s:Sto} {k:Nat} {l:List aa} {w:Bool}
theorem jt (h:s.row_Row[k]? = some ⟨l,w⟩):bK s (some k)=some (l.length:Int):=by simp [bK,h]
theorem yK {c:aa} (h:c.Text.length≤1000000):lx c=some c:=by
 simp only [lx,fK,du (show ([]:List Int).length+c.Text.length≤1099511627776 by simp; omega),bsm,bq]
theorem E0 (h:s.row_Row[k]? = some ⟨l,w⟩):iL s (some k)=some w:=by simp [iL,h,bX]
theorem vO (h:s.row_Row[k]? = some ⟨l,w⟩) (on:Bool):eB s (some k) on=some (s.sr k ⟨l,on⟩):=by
 simp [eB,h,yF (cX h)]
theorem tQ (h:s.row_Row[k]? = some ⟨l,w⟩) (hl:l.length≤1000000) (hs:Sht l):em s (some k)=some l:=by
 unfold em;rw [jt h];simp only [bsm];rw [vz (s:=(([]:List aa),(0:Int))) (t:=l) (fun st:List aa×Int=>∃i:Nat,st=(l.take i,(i:Int))∧i≤l.length) (fun st=>l.length - st.2.toNat) ?_ ⟨0,rfl,cR _⟩ (by simp)]
 ·rfl
 ·rintro st ⟨i,rfl,hi⟩;rcases aR i l.length with hlt | hge
  ·refine .inl ⟨(l.take (i+1),((i+1:Nat):Int)),?_,⟨i+1,rfl,hlt⟩,by simp; omega⟩;have e3:w64 ((i:Int)+1)=((i+1:Nat):Int):=by rw [aL (by omega)]; simp
   simp only [J6,hlt,rL,bG,bsm,h,bz hlt,yK (hs i hlt),e3];rw [du (by rw [av]; simp; omega),ay hlt];rfl
  ·obtain rfl:i=l.length:=by omega
   exact .inr (by simp)
theorem Ac (h:s.row_Row[k]? = some ⟨l,w⟩) {i:Nat} (hi:i < l.length) (hs:Sht l):fN s (some k) i=some (l[i],true):=by
 unfold fN;rw [jt h];simp only [bsm,bS];rw [ab (by simp; omega)];simp only [h,bsm,bz hi,yK (hs i hi)]
theorem Ab (h:s.row_Row[k]? = some ⟨l,w⟩) (i:Nat):gI s (some k) i=some (kd l i):=by
 unfold gI;rw [jt h];simp only [bsm,bS];by_cases hi:i < l.length
 ·rw [ab (by simp; omega)];simp only [h,bsm,bz hi,lD hi]
 ·rw [af (by simp; omega),nc (by omega)]
theorem yJ (h:s.row_Row[k]? = some ⟨l,w⟩) {i:Nat} (hi:i < l.length) (hl:l.length≤1000000) {c:aa} (hc:c.Text.length≤1000000):
  fC s (some k) i c=some (s.sr k ⟨l.set i c,w && !decide (i+1=l.length)⟩):=by
 unfold fC;have e:w64 (((l.set i c).length:Int) - 1)=(l.length:Int) - 1:=by rw [cf,aL (by omega)]
 simp only [h,bsm,yK hc,bz hi,nv hi,yF (cX h),e];by_cases hn:i+1=l.length
 ·rw [af (by simp; omega),yF (by rw [I8]; exact cX h),CA];simp [hn]
 ·rw [ab (by simp; omega)];simp [hn]
def sd (n:Int):Nat:=(max 1 (min n 1024)).toNat
theorem ES (n:Int):1≤sd n∧sd n≤1024:=by unfold sd; omega
theorem Ko {n:Nat} (h:1≤n) (h2:n≤1024):sd n=n:=by unfold sd; omega
theorem xb (n:Int):eh n=some (List.replicate (max 0 (min n 1024)).toNat bl):=by
 unfold eh;simp only [ik,eV];rw [qn _ (by omega)];rfl
theorem CH (n:Int):kx s n=some (s.add_row_Row ⟨List.replicate (sd n) bl,false⟩,some s.row_Row.length):=by
 unfold kx;rw [xb];simp only [bsm,ik];rw [show (max 0 (min (max 1 n) 1024)).toNat=sd n by unfold sd; omega]
theorem tL (n:Nat):Snd (List.replicate n bl):=fun i h=>by
 rw [fS];exact ⟨rfl,fun h=>by simp [bl] at h,fun h=>by simp [bl] at h⟩
def tch (l:List aa) (a n j:Nat):Bool:=(decide (a≤j) && decide (j < a+n)) || (decide (kd l j=2) && decide (a≤j+1) && decide (j+1 < a+n)) || (decide (kd l j=3) && decide (a+1≤j) && decide (j < a+n+1))
def pc (l:List aa) (a:Nat) (p:List aa) (j:Nat):aa:=
 if a≤j∧j < a+p.length then p.getD (j - a) bl else if tch l a p.length j=true then bl else l.getD j bl
def pl (l:List aa) (a:Nat) (p:List aa):List aa:=(List.range l.length).map (pc l a p)
def pw (l:List aa) (w:Bool) (a n:Nat):Bool:=w && !(decide (0 < l.length) && tch l a n (l.length - 1))
theorem je (l:List aa) (a:Nat) (p:List aa):(pl l a p).length=l.length:=by simp [pl]
theorem tU {a:Nat} {p:List aa} {j:Nat} (h:j < l.length):(pl l a p)[j]? = some (pc l a p j):=by simp [pl,h]
theorem IL {a:Nat} {p:List aa} {j:Nat} (h:j < (pl l a p).length):(pl l a p)[j]=pc l a p j:=by simp [pl]
theorem FH {a:Nat} {p:List aa} {j:Nat} (h:j < l.length):kd (pl l a p) j=(pc l a p j).Kind:=by simp [kd,tU h]
theorem Snd.two (h:Snd l) {j:Nat} (hj:kd l j=2):kd l (j+1)=3:=by
 have hlt:j < l.length:=by
  rcases aR j l.length with h | h
  ·exact h
  ·rw [nc h] at hj; cases hj
 exact (h j hlt).2.1 (by rw [←lD hlt]; exact hj)
theorem Snd.three (h:Snd l) {j:Nat} (hj:kd l j=3):0 < j∧kd l (j - 1)=2:=by
 have hlt:j < l.length:=by
  rcases aR j l.length with h | h
  ·exact h
  ·rw [nc h] at hj; cases hj
 exact (h j hlt).2.2 (by rw [←lD hlt]; exact hj)
theorem yf {j:Nat} (h:kd l j≠0):j < l.length:=by
 rcases aR j l.length with h' | h'
 ·exact h'
 ·exact absurd (nc h') h
theorem Snd.rg (h:Snd l) {j:Nat} (hj:j < l.length):rgt (l.getD j bl)=true:=by
 rw [aw,ah hj];exact (h j hj).1
theorem nV (l:List aa) (j:Nat):(l.getD j bl).Kind=kd l j:=by
 rw [aw,kd]
 cases l[j]? <;> rfl
theorem Snd.paint {a:Nat} {p:List aa} (h:Snd l) (hp:Snd p) (ha:a+p.length≤l.length):Snd (pl l a p):=fun j hj=>by
 rw [je] at hj;rw [IL];have kpc:∀i,i < l.length→(pc l a p i).Kind=if a≤i∧i < a+p.length then kd p (i - a) else if tch l a p.length i=true then 0 else kd l i:=fun i hi=>by
  unfold pc;split
  ·exact nV _ _
  ·split
   ·rfl
   ·exact nV _ _
 have kall:∀i,kd (pl l a p) i=if i < l.length then (if a≤i∧i < a+p.length then kd p (i - a) else if tch l a p.length i=true then 0 else kd l i) else 0:=fun i=>by
  by_cases hi:i < l.length
  ·rw [af hi,FH hi,kpc i hi]
  ·rw [ab hi,nc (by rw [je]; omega)]
 refine ⟨?_,fun h2=>?_,fun h3=>?_⟩
 ·unfold pc;split
  ·exact hp.rg (by omega)
  ·split
   ·rfl
   ·exact h.rg hj
 ·rw [kpc j hj] at h2;rw [kall];by_cases hin:a≤j∧j < a+p.length
  ·rw [af hin] at h2;have h4:=hp.two h2;have h5:j - a+1 < p.length:=yf (by rw [h4]; decide);rw [af (by omega),af (by omega),show j+1 - a=j - a+1 by omega]; exact h4
  ·rw [ab hin] at h2;split at h2
   ·cases h2
   ·rename_i ht
    have h4:=h.two h2;have h5:j+1 < l.length:=yf (by rw [h4]; decide);simp only [tch,h2,rL,gG,aC,an,ai,Jp,Jq] at ht;have h6:¬(a≤j+1∧j+1 < a+p.length):=by omega
    have h7:¬tch l a p.length (j+1)=true:=by
     simp only [tch,h4,aC,an,ai];omega
    rw [af h5,ab h6,ab h7]; exact h4
 ·rw [kpc j hj] at h3;by_cases hin:a≤j∧j < a+p.length
  ·rw [af hin] at h3;have h4:=hp.three h3;refine ⟨by omega,?_⟩;rw [kall,af (by omega),af (by omega),show j - 1 - a=j - a - 1 by omega]; exact h4.2
  ·rw [ab hin] at h3;split at h3
   ·cases h3
   ·rename_i ht
    have h4:=h.three h3;refine ⟨h4.1,?_⟩;simp only [tch,h3,rL,gG,aC,an,ai,Jp,Jq] at ht;have h6:¬(a≤j - 1∧j - 1 < a+p.length):=by omega
    have h7:¬tch l a p.length (j - 1)=true:=by
     simp only [tch,h4.2,aC,an,ai];omega
    rw [kall,af (by omega),ab h6,ab h7]; exact h4.2
theorem tS (l:List aa) (w:Bool) (a:Nat) (p:List aa) (hl:l.length≤1000000) (ha:a≤1000000) (hp:p.length≤1000000):gO l w a p=some (pl l a p,pw l w a p.length):=by
 unfold gO;rw [vz (s:=(w,([]:List aa),(0:Int))) (t:=(pw l w a p.length,pl l a p)) (fun st:Bool×List aa×Int=>∃i:Nat,st=(if i < l.length then w else pw l w a p.length,(pl l a p).take i,(i:Int))∧i≤l.length) (fun st=>l.length - st.2.2.toNat) ?_ ⟨0,?_,cR _⟩ (by simp)]
 ·rfl
 ·rintro st ⟨i,rfl,hi⟩;rcases aR i l.length with hlt | hge
  ·refine .inl ⟨_,?_,⟨i+1,rfl,hlt⟩,by simp; omega⟩;have e3:w64 ((i:Int)+1)=((i+1:Nat):Int):=by rw [aL (by omega)]; simp
   have e4:w64 ((a:Int)+(p.length:Int))=((a+p.length:Nat):Int):=by rw [aL (by omega)]; simp
   have e5:w64 ((i:Int) - (a:Int))=(i:Int) - a:=aL (by omega);have e6:w64 ((i:Int) - 1)=(i:Int) - 1:=aL (by omega);have hd:decide ((i:Int) < (l.length:Int))=true:=by simp; exact hlt
   simp only [hd,bG,af hlt,bz hlt,bsm,bd,bS,e3,e4,e5,e6];have happ:∀x:aa,x=pc l a p i→app ((pl l a p).take i) [x]=some ((pl l a p).take (i+1)):=fun x hx=>by
    subst hx;rw [du (by rw [av,je]; simp; omega),ay (show i < (pl l a p).length by rw [je]; exact hlt),IL]
   by_cases hin:a≤i∧i < a+p.length
   ·have c1:(decide ((i:Int)≥a) && decide ((i:Int) < ((a+p.length:Nat):Int)))=true:=by simp; omega
    obtain ⟨q,hq⟩:∃q:Nat,q=i - a:=⟨_,rfl⟩;have c2:(i:Int) - a=(q:Int):=by omega
    have hqp:q < p.length:=by omega
    simp only [c1,bG,c2,bz hqp,bsm,eK,fq,qS,am,aU,Bool.true_or,IE];rw [happ ⟨p[q].Kind,p[q].Text⟩ (by rw [pc,af hin,←hq,aw,ah hqp]; rfl)];by_cases hn:i+1=l.length
    ·have c3:(((i+1:Nat):Int)==(l.length:Int))=true:=by simp; omega
     have c4:pw l w a p.length=false:=by
      have:tch l a p.length (l.length - 1)=true:=by simp [tch]; omega
      simp [pw,this]; omega
     simp only [c3,bG,bsm,c4];rw [ab (by omega)]
    ·have c3:(((i+1:Nat):Int)==(l.length:Int))=false:=by simp; omega
     simp only [c3,am,aU,bsm];rw [af (show i+1 < l.length by omega)]
   ·have c1:(decide ((i:Int)≥a) && decide ((i:Int) < ((a+p.length:Nat):Int)))=false:=by simp; omega
    have c5:((l[i].Kind==2 && decide (((i+1:Nat):Int)≥a) && decide (((i+1:Nat):Int) < ((a+p.length:Nat):Int))) || (l[i].Kind==3 && decide ((i:Int) - 1≥a) && decide ((i:Int) - 1 < ((a+p.length:Nat):Int))))=tch l a p.length i:=by
     rw [da];simp only [tch,lD hlt,aC,an,aA,ai];omega
    simp only [c1,am,aU,bsm,kq,eO,kY,gG];simp only [c5]
    cases ht:tch l a p.length i with
    | true=>
     simp only [bG,bsm,IE];rw [happ ⟨0,[]⟩ (by rw [pc,ab hin,af ht]; rfl)];by_cases hn:i+1=l.length
     ·have c3:(((i+1:Nat):Int)==(l.length:Int))=true:=by simp; omega
      have c4:pw l w a p.length=false:=by
       have e:l.length - 1=i:=by omega
       simp [pw,e,ht]; omega
      simp only [c3,bG,bsm,c4];rw [ab (by omega)]
     ·have c3:(((i+1:Nat):Int)==(l.length:Int))=false:=by simp; omega
      simp only [c3,am,aU,bsm];rw [af (show i+1 < l.length by omega)]
    | false=>
     simp only [am,aU,bsm,GU];rw [happ ⟨l[i].Kind,l[i].Text⟩ (by rw [pc,ab hin,ab (by simp [ht]),aw,ah hlt]; rfl)];by_cases hn:i+1=l.length
     ·have c4:pw l w a p.length=w:=by
       have e:l.length - 1=i:=by omega
       simp [pw,e,ht]
      simp only [bsm,c4,ite_self]
     ·simp only [bsm];rw [af (show i+1 < l.length by omega)]
  ·obtain rfl:i=l.length:=by omega
   refine .inr ?_;have e:(pl l a p).take l.length=pl l a p:=aJ (by rw [je]; exact ao _);simp [e]
 ·by_cases h0:0 < l.length
  ·simp [h0]
  ·simp [h0,pw]
end Go.Proofs.YtceciacilfhmjaaGreatDoor
namespace Go.Proofs.YtceciacilfhmjaaGreatDoor
open Go Go.Lt
variable {s:Sto} {k:Nat} {l p:List aa} {w:Bool}
theorem DP {i j:Nat} (h:i≠j) (c:aa):kd (l.set i c) j=kd l j:=by simp [kd,aT h]
theorem oK (h:s.row_Row[k]? = some ⟨l,w⟩) (hs:Snd l) (hl:l.length≤1024) (hp:Snd p) {a:Nat} (hn:1≤p.length) (ha:a+p.length≤l.length):
  dH s (some k) a p=some (s.sr k ⟨pl l a p,pw l w a p.length⟩,Er.nil):=by
 unfold dH;have hk:=cX h;obtain ⟨b,hb1,hb2⟩:=wM p (by omega);have hb:b=true:=hb2.2 hp;subst hb;have e1:w64 ((l.length:Int) - (a:Int))=(l.length:Int) - a:=aL (by omega);have e2:w64 ((a:Int)+(p.length:Int))=((a+p.length:Nat):Int):=by rw [aL (by omega)]; simp
 have o1:decide ((a:Int) < 0)=false:=by simp
 have o2:decide ((a:Int) > (l.length:Int))=false:=by simp; omega
 have o3:decide ((p.length:Int) > (l.length:Int) - (a:Int))=false:=by simp; omega
 have o4:((p.length:Int)==0)=false:=by rw [bN]; omega
 simp only [bO,db,o1,o2,o3,o4,h,e1,e2,hb1,bsm,am,aU,eK,Ab h a];obtain ⟨l1,hl1⟩:∃l1,l1=if kd l a=3 then l.set (a - 1) bl else l:=⟨_,rfl⟩;have hlen1:l1.length=l.length:=by rw [hl1]; split <;> simp
 have left:(if (kd l a==3)=true then (fC s (some k) (w64 ((a:Int) - 1)) (⟨0,([]:List Int)⟩:aa)).bind fun x_60=>(some (x_60):Option (Sto)) else (some (s):Option (Sto)))=some (s.sr k ⟨l1,w⟩):=by
  by_cases h3:kd l a=3
  ·have h4:=hs.three h3;have h5:a < l.length:=yf (by rw [h3]; decide);rw [af (by simpa using h3),show w64 ((a:Int) - 1)=((a - 1:Nat):Int) by rw [aL (by omega)]; omega,yJ h (by omega) (by omega) (by simp)];rw [hl1,af h3];have:decide (a - 1+1=l.length)=false:=by simp; omega
   simp only [bsm,this,kq,IE];rfl
  ·rw [ab (by simpa using h3),hl1,ab h3,zQ h]
 rw [left];simp only [bsm];obtain ⟨l2,hl2⟩:∃l2,l2=if kd l (a+p.length)=3 then l1.set (a+p.length) bl else l1:=⟨_,rfl⟩;obtain ⟨w2,hw2⟩:∃w2,w2=(w && !(decide (kd l (a+p.length)=3) && decide (a+p.length+1=l.length))):=⟨_,rfl⟩;have hlen2:l2.length=l.length:=by rw [hl2]; split <;> simp [hlen1]
 have hget1:(s.sr k ⟨l1,w⟩).row_Row[k]? = some ⟨l1,w⟩:=rV hk;have hkd1:kd l1 (a+p.length)=kd l (a+p.length):=by
  rw [hl1]; split
  ·exact DP (by omega) _
  ·rfl
 have right:((gI (s.sr k ⟨l1,w⟩) (some k) ((a+p.length:Nat):Int)).bind fun x_71=>
   if (x_71==3)=true then
   (fC (s.sr k ⟨l1,w⟩) (some k) ((a+p.length:Nat):Int) (⟨0,([]:List Int)⟩:aa)).bind fun x_77=>
   (some (x_77):Option (Sto))
   else
   (some (s.sr k ⟨l1,w⟩):Option (Sto)))=some (s.sr k ⟨l2,w2⟩):=by
  rw [Ab hget1,hkd1];simp only [bsm];by_cases h3:kd l (a+p.length)=3
  ·have h5:a+p.length < l.length:=yf (by rw [h3]; decide);rw [af (by simpa using h3),yJ hget1 (by omega) (by omega) (by simp)];simp only [bsm,CA];rw [hl2,af h3,hw2,hlen1];simp only [h3,rL,gG];rfl
  ·rw [ab (by simpa using h3),hl2,ab h3,hw2];simp [h3]
 rw [right];simp only [bsm];rw [vz (s:=((0:Int),s.sr k ⟨l2,w2⟩)) (t:=s.sr k ⟨l2.take a++p++l2.drop (a+p.length),w2 && !decide (a+p.length=l.length)⟩)
  (fun st:Int×Sto=>∃i:Nat,st=((i:Int),s.sr k ⟨l2.take a++p.take i++l2.drop (a+i),w2 && !(decide (0 < i) && decide (a+i=l.length))⟩)∧i≤p.length) (fun st=>p.length - st.1.toNat) ?_ ⟨0,?_,cR _⟩ (by simp)]
 ·simp only [bsm,az,gE,tD]
  congr 1
  congr 1
  ·
   apply dy;intro j;rcases aR j l.length with hj | hj
   ·rw [tU hj];have g1:∀j,j < l.length→j≠a+p.length→l1[j]? = some (if kd l a=3∧j=a - 1 then bl else l.getD j bl):=fun j hj _=>by
     rw [hl1];split
     ·rename_i h3
      by_cases hja:j=a - 1
      ·subst hja;rw [be (by omega),af ⟨h3,rfl⟩]
      ·rw [aT (rS hja),ab (fun e=>hja e.2),ah hj,aw,ah hj]; rfl
     ·rename_i h3
      rw [ab (fun e=>h3 e.1),ah hj,aw,ah hj]; rfl
    have lw:(l2.take a).length=a:=by rw [av]; omega
    rcases aR j a with hja | hja
    ·rw [aD,aG (by omega),aK,af hja];have e:l2[j]? = l1[j]? :=by
      rw [hl2]; split
      ·exact aT (by omega)
      ·rfl
     have hp0:¬(a≤j∧j < a+p.length):=by omega
     rw [e,g1 j hj (by omega),pc,ab hp0]
     congr 1
     by_cases hc:kd l a=3∧j=a - 1
     ·rw [af hc,af];have h4:=hs.three hc.1;simp only [tch,aC,an,ai];refine .inl (.inr ⟨⟨?_,?_⟩,?_⟩)
      ·rw [hc.2]; exact h4.2
      ·omega
      ·omega
     ·rw [ab hc,ab];simp only [tch,aC,an,ai,Jp,Jq];refine ⟨⟨fun h=>by omega,fun h2=>?_⟩,fun h=>by omega⟩;have h3:=hs.two h2.1;have:j+1=a:=by omega
      rw [this] at h3;exact absurd ⟨h3,by omega⟩ hc
    ·rcases aR j (a+p.length) with hjn | hjn
     ·rw [aD,aV (by omega),aG (by omega),lw,pc,af ⟨hja,hjn⟩,aw,ah (by omega)];rfl
     ·rw [aV (by rw [ag]; omega),bH,ag,lw,show a+p.length+(j - (a+p.length))=j by omega];rw [pc,ab (by omega)];by_cases hc:kd l (a+p.length)=3∧j=a+p.length
      ·rw [hl2,af hc.1,hc.2,be (by omega),af];simp only [tch,aC,an,ai];exact .inr ⟨⟨hc.1,by omega⟩,by omega⟩
      ·have e:l2[j]? = some (l.getD j bl):=by
        have e2:l1[j]? = some (l.getD j bl):=by
         rw [hl1]; split
         ·rw [aT (by omega),aw,ah hj]; rfl
         ·rw [aw,ah hj]; rfl
        rw [hl2]; split
        ·rename_i h3
         rw [aT (fun e=>hc ⟨h3,e.symm⟩),e2]
        ·exact e2
       rw [e,ab];simp only [tch,aC,an,ai,Jp,Jq];refine ⟨⟨fun h=>by omega,fun h=>by omega⟩,fun h2=>?_⟩;intro h4;have:j=a+p.length:=by omega
       exact hc ⟨by rw [←this]; exact h2.1,this⟩
   ·rw [bI (l:=pl l a p) (by rw [je]; exact hj),bI (by simp only [ag,av,aN]; omega)]
  ·
   rw [hw2,pw,Bool.and_assoc]
   congr 1
   rw [←Bool.not_or]
   congr 1
   have h2:kd l (l.length - 1)≠2:=fun h2=>by
    have:=hs.two h2;rw [show l.length - 1+1=l.length by omega,nc (ao _)] at this;cases this
   rw [da];simp only [tch,aC,an,ai];constructor
   ·rintro (⟨h3,h4⟩ | h4)
    ·refine ⟨by omega,.inr ⟨⟨?_,by omega⟩,by omega⟩⟩;rw [show l.length - 1=a+p.length by omega]; exact h3
    ·exact ⟨by omega,.inl (.inl ⟨by omega,by omega⟩)⟩
   ·rintro ⟨h0,(⟨h3,h4⟩ | ⟨⟨h3,_⟩,_⟩) | ⟨⟨h3,h4⟩,h5⟩⟩
    ·exact .inr (by omega)
    ·exact absurd h3 h2
    ·by_cases hx:a+p.length=l.length
     ·exact .inr hx
     ·have:l.length - 1=a+p.length:=by omega
      exact .inl ⟨by rw [←this]; exact h3,by omega⟩
 ·rintro st ⟨i,rfl,hi⟩;rcases aR i p.length with hlt | hge
  ·refine .inl ⟨_,?_,⟨i+1,rfl,hlt⟩,by simp; omega⟩;have e3:w64 ((i:Int)+1)=((i+1:Nat):Int):=by rw [aL (by omega)]; simp
   have e4:w64 ((a:Int)+(i:Int))=((a+i:Nat):Int):=by rw [aL (by omega)]; simp
   have hd:decide ((i:Int) < (p.length:Int))=true:=by simp; exact hlt
   have hli:(l2.take a++p.take i++l2.drop (a+i)).length=l.length:=by
    simp only [ag,av,aN]; omega
   simp only [hd,bG,bz hlt,bsm,e3,e4];rw [yJ (rV hk) (by rw [hli]; omega) (by rw [hli]; omega) (hp.sht i hlt)];simp only [bsm,CA,hli];have hset:(l2.take a++p.take i++l2.drop (a+i)).set (a+i) p[i]=l2.take a++p.take (i+1)++l2.drop (a+(i+1)):=by
    have hx:(l2.take a++p.take i).length=a+i:=by simp only [ag,av]; omega
    rw [vn _ _ (by omega),hx,uu,mu (show a+i < l2.length by omega),zC,ay hlt];simp only [aD,bD,bq,sx]
   rw [hset];have hwe:((w2 && !(decide (0 < i) && decide (a+i=l.length))) && !decide (a+i+1=l.length))=(w2 && !(decide (0 < i+1) && decide (a+(i+1)=l.length))):=by
    have:decide (a+i=l.length)=false:=by simp; omega
    rw [this];simp [sx]
   rw [hwe]
  ·obtain rfl:i=p.length:=by omega
   refine .inr ?_;have:decide (0 < p.length)=true:=by simp; omega
   simp [this]
 ·simp
def cl (n:Int) (m:Nat):Nat:=(max 0 (min n m)).toNat
theorem nh (n:Int) (m:Nat):cl n m≤m:=by unfold cl; omega
end Go.Proofs.YtceciacilfhmjaaGreatDoor
namespace Go.Proofs.YtceciacilfhmjaaGreatDoor
open Go Go.Lt
variable {s:Sto} {g k W:Nat} {ks:List Nat} {l p:List aa} {w:Bool}
def Sto.sg (s:Sto) (g:Nat) (x:cj):Sto:={ s with grid_Grid:=s.grid_Grid.set g x}
theorem zV {x:cj} (h:g < s.grid_Grid.length):s.set_grid_Grid g x=some (s.sg g x):=by
 simp only [Sto.set_grid_Grid,h,bG];rfl
theorem Ja {x:cj} (h:g < s.grid_Grid.length):(s.sg g x).grid_Grid[g]? = some x:=by simp [Sto.sg,h]
theorem Kl (s:Sto) (g:Nat) (x y:cj):(s.sg g x).sg g y=s.sg g y:=by simp [Sto.sg]
theorem Km {x:cj} (h:s.grid_Grid[g]? = some x):s.sg g x=s:=by
 obtain ⟨h1,h2⟩:=List.getElem?_eq_some_iff.1 h;unfold Sto.sg;rw [←h2,Ka]
def ln (s:Sto) (k:Nat):aq:=match s.row_Row[k]? with | some r=>⟨r.cells,r.wrap⟩ | none=>⟨[],false⟩
theorem oN {r:bm} (h:s.row_Row[k]? = some r):ln s k=⟨r.cells,r.wrap⟩:=by simp [ln,h]
def Rw (s:Sto) (W k:Nat):Prop:=∃r,s.row_Row[k]? = some r∧Snd r.cells∧r.cells.length=W
structure Gw (s:Sto) (g:Nat) (ks:List Nat) (W:Nat):Prop where
 g:s.grid_Grid[g]? = some ⟨ks.map some⟩
 r:∀k∈ks,Rw s W k
 h1:1≤ks.length
 h2:ks.length≤1024
 w1:1≤W
 w2:W≤1024
theorem Gw.at (h:Gw s g ks W) {i:Nat} (hi:i < ks.length):Rw s W ks[i]:=h.r _ (aF hi)
theorem eL (h:Gw s g ks W):bJ s (some g)=some (ks.length:Int):=by simp [bJ,h.g]
theorem eZ (h:Gw s g ks W) {i:Nat} (hi:i < ks.length):bB s (some g) i=some (some ks[i]):=by
 unfold bB;rw [eL h];simp only [bsm,bS];rw [ab (by simp; omega)];simp only [bsm,h.g];rw [bz (by simpa using hi)];simp
theorem yY (h:Gw s g ks W) {i:Int} (hi:i < 0∨(ks.length:Int)≤i):bB s (some g) i=some none:=by
 unfold bB;rw [eL h];simp only [bsm,bS];rw [af (by simp; omega)]
theorem yt (h:Rw s W k):bK s (some k)=some (W:Int):=by
 obtain ⟨r,h1,_,h3⟩:=h;rw [jt (l:=r.cells) (w:=r.wrap) h1,h3]
theorem jE (h:Gw s g ks W):bV s (some g)=some (W:Int):=by
 unfold bV;rw [show (0:Int)=((0:Nat):Int) from rfl,eZ h (show 0 < ks.length from h.h1)];simp only [bsm];rw [yt (h.at h.h1)];rfl
theorem FU (h:Gw s g ks W) {i:Nat} (hi:i < ks.length) (hk:Rw s W k):fW s (some g) i (some k)=some (s.sg g ⟨(ks.set i k).map some⟩,true):=by
 unfold fW;rw [eZ h hi];simp only [bsm,yt (h.at hi),yt hk,bO,db];rw [ab (by simp)];simp only [h.g,bsm];rw [bz (by simpa using hi),nv (by simpa using hi)];simp only [bsm];rw [zV (cX h.g)];simp
theorem BT (h:Gw s g ks W):io s (some g)=some (ks.map (ln s)):=by
 have hh:=h.h2;have hw:=h.w2;unfold io;rw [eL h];simp only [bsm];obtain ⟨t,h1,h2⟩:=eY (σ:=(List aq)×Int) (τ:=List aq) (n:=ks.length) (fuel:=((ks.length:Int) - 0).toNat+1) (s:=(([]:List aq),0))
  (fun i q=>q=((ks.take i).map (ln s),(i:Int))) (fun t=>t=ks.map (ln s))
  (step:=fun s_9=>
 if (decide (s_9.2 < (ks.length:Int)))=true then
 (s.grid_Grid[g]?).bind fun o_19=>
 (idx o_19.rows s_9.2).bind fun x_21=>
 (idx o_19.rows s_9.2).bind fun x_28=>
 (em s x_21).bind fun x_30=>
 (iL s x_28).bind fun x_31=>
 (app s_9.1 ([(⟨x_30,x_31⟩:aq)]:List aq)).bind fun x_34=>
 some (.inl (x_34,(w64 (s_9.2+1))))
 else
 some (.inr (s_9.1)))
  (fun i q hi e=>by
   subst e;refine .inl ⟨_,?_,rfl⟩;obtain ⟨r,r1,r2,r3⟩:=h.at hi;have e5:w64 ((i:Int)+1)=((i+1:Nat):Int):=by rw [aL (by omega)]; simp
   have hd:decide ((i:Int) < (ks.length:Int))=true:=by simp; exact hi
   have hi2:i < (ks.map some).length:=by simpa using hi
   simp only [hd,bG,bsm,h.g,bz hi2,dv,e5];rw [tQ (l:=r.cells) (w:=r.wrap) r1 (by omega) r2.sht,E0 (l:=r.cells) (w:=r.wrap) r1];simp only [bsm];rw [du (by simp; omega)];simp only [bsm];rw [ay hi,bb];simp [oN r1])
  (fun q e=>⟨_,by subst e; simp,rfl⟩)
  (by simp) (by omega)
 subst h2;rw [h1];rfl
def Okl (W:Nat) (x:aq):Prop:=Snd x.Cells∧x.Cells.length=W
theorem xp (h:Gw s g ks W):∀x∈ks.map (ln s),Okl W x:=fun x hx=>by
 obtain ⟨k,hk,rfl⟩:=List.mem_map.1 hx;obtain ⟨r,r1,r2,r3⟩:=h.r k hk;rw [oN r1];exact ⟨r2,r3⟩
theorem I7 {a b:Sto} (h1:a.row_Row=b.row_Row) (h2:a.grid_Grid=b.grid_Grid) (h3: { a with row_Row:=b.row_Row,grid_Grid:=b.grid_Grid}=b):a=b:=
 GT (show a= { a with row_Row:=b.row_Row,grid_Grid:=b.grid_Grid} by rw [←h1,←h2]) h3
def Sto.rst (s:Sto):Sto:={ s with row_Row:=[],grid_Grid:=[]}
def Sto.oth (s:Sto):Sto:={ s with row_Row:=[],grid_Grid:=[],place_Pen:=[]}
theorem mz {a b:Sto} (h:a.rst=b.rst):a.place_Pen=b.place_Pen:=by
 have:=dG Sto.place_Pen h;exact this
theorem sM {a b:Sto} (h:a.rst=b.rst):a.oth=b.oth:=by
 have:=dG (fun x:Sto=>({ x with place_Pen:=[]}:Sto)) h;exact this
def Sto.addr (s:Sto) (xs:List bm):Sto:={ s with row_Row:=s.row_Row++xs}
theorem GJ (s:Sto) (xs:List bm):(s.addr xs).row_Row.length=s.row_Row.length+xs.length:=by simp [Sto.addr]
theorem Bh {xs:List bm} (h:k < s.row_Row.length):(s.addr xs).row_Row[k]? = s.row_Row[k]? :=aG h
theorem tE {xs:List bm} {i:Nat} (h:i < xs.length):(s.addr xs).row_Row[s.row_Row.length+i]? = some xs[i]:=by
 simp [Sto.addr,aV,h]
theorem GK (s:Sto) (xs:List bm) (x:bm):(s.addr xs).add_row_Row x=s.addr (xs++ [x]):=by simp [Sto.addr,Sto.add_row_Row]
theorem Bi (s:Sto):s.addr []=s:=by simp [Sto.addr]
theorem Rw.lt (h:Rw s W k):k < s.row_Row.length:=by obtain ⟨r,h,_⟩:=h; exact cX h
theorem Rw.addr {xs:List bm} (h:Rw s W k):Rw (s.addr xs) W k:=by
 obtain ⟨r,h1,h2⟩:=h;exact ⟨r,by rw [Bh (cX h1)]; exact h1,h2⟩
theorem Gw.addr {xs:List bm} (h:Gw s g ks W):Gw (s.addr xs) g ks W:=⟨h.g,fun k hk=>(h.r k hk).addr,h.h1,h.h2,h.w1,h.w2⟩
theorem Ft {xs:List bm} (h:k < s.row_Row.length):ln (s.addr xs) k=ln s k:=by unfold ln; rw [Bh h]
theorem Fu {xs:List bm} {i:Nat} (h:i < xs.length):ln (s.addr xs) (s.row_Row.length+i)=⟨xs[i].cells,xs[i].wrap⟩:=oN (tE h)
def lr (x:aq):bm:=⟨x.Cells,x.Wrap⟩
theorem KI {L:List aq} (h1:1≤L.length) (h2:L.length≤1024)
  (hok:∀i (h:i < L.length),1≤L[i].Cells.length∧L[i].Cells.length≤1024∧Snd L[i].Cells∧L[i].Cells.length=(L[0]'(by omega)).Cells.length):
  Gw ((s.addr (L.map lr)).add_grid_Grid ⟨(List.range' s.row_Row.length L.length).map some⟩) s.grid_Grid.length (List.range' s.row_Row.length L.length) (L[0]'(by omega)).Cells.length∧
   (List.range' s.row_Row.length L.length).map (ln ((s.addr (L.map lr)).add_grid_Grid ⟨(List.range' s.row_Row.length L.length).map some⟩))=L:=by
 have hr:∀i (h:i < L.length),((s.addr (L.map lr)).add_grid_Grid ⟨(List.range' s.row_Row.length L.length).map some⟩).row_Row[s.row_Row.length+i]? = some (lr L[i]):=fun i h=>by
  have:=tE (s:=s) (xs:=L.map lr) (i:=i) (by simpa using h);rw [dv] at this;exact this
 refine ⟨⟨by simp [Sto.add_grid_Grid,Sto.addr],fun k hk=>?_,by simpa using h1,by simpa using h2,(hok 0 (by omega)).1,(hok 0 (by omega)).2.1⟩,?_⟩
 ·rw [Bm] at hk;have hi:k - s.row_Row.length < L.length:=by omega
  have:=hr _ hi;rw [show s.row_Row.length+(k - s.row_Row.length)=k by omega] at this;exact ⟨_,this,(hok _ hi).2.2.1,(hok _ hi).2.2.2⟩
 ·refine LW (by simp) fun i h1 h2=>?_;rw [dv,List.getElem_range',mg,oN (hr i h2)];rfl
theorem icl (a:Int) (m:Nat):aS 0 (aM a (m:Int))=((cl a m:Nat):Int):=by simp only [ik,eV,cl]; omega
theorem xS (h:Gw s g ks W) (a b n:Int):lv s (some g) a b n=some (⟨(cl a ks.length:Nat),(cl b ks.length:Nat),min n ((cl b ks.length:Int) - (cl a ks.length:Int))⟩,decide (cl a ks.length < cl b ks.length) && decide (0 < n)):=by
 have h1:=nh a ks.length;have h2:=nh b ks.length;have hh:=h.h2;unfold lv;rw [eL h];simp only [bsm,icl,bd];rw [eV,aL (by omega)];simp
theorem uB (h:Gw s g ks W) {a b:Nat} (hab:a≤b) (hb:b≤ks.length):jF s (some g) a b=some (((ks.drop a).take (b - a)).map some):=by
 have hh:=h.h2;unfold jF;obtain ⟨t,h1,h2⟩:=eY (σ:=(List (Option Nat))×Int) (τ:=List (Option Nat)) (n:=b - a) (fuel:=((b:Int) - (a:Int)).toNat+1) (s:=(([]:List (Option Nat)),(a:Int)))
  (fun i q=>q=(((ks.drop a).take i).map some,((a+i:Nat):Int))) (fun t=>t=((ks.drop a).take (b - a)).map some)
  (step:=fun s_8=>
 if (decide (s_8.2 < (b:Int)))=true then
 (bB s (some g) s_8.2).bind fun x_16=>
 (app s_8.1 ([x_16]:List (Option Nat))).bind fun x_18=>
 some (.inl (x_18,(w64 (s_8.2+1))))
 else
 some (.inr (s_8.1)))
  (fun i q hi e=>by
   subst e;refine .inl ⟨_,?_,rfl⟩;have e5:w64 (((a+i:Nat):Int)+1)=((a+(i+1):Nat):Int):=by rw [aL (by omega)]; simp; omega
   have hd:decide (((a+i:Nat):Int) < (b:Int))=true:=by simp; omega
   simp only [hd,bG];rw [eZ h (show a+i < ks.length by omega)];simp only [bsm,e5];rw [du (by simp; omega)];simp only [bsm];rw [ay (by simp; omega),bb];simp)
  (fun q e=>by
   subst e;have hd:decide (((a+(b - a):Nat):Int) < (b:Int))=false:=by simp; omega
   exact ⟨_,by simp only [hd]; rfl,rfl⟩)
  (by simp) (by omega)
 subst h2;rw [h1];rfl
def bk (W:Nat):bm:=⟨List.replicate W bl,false⟩
theorem rF (h:Gw s g ks W) {n:Nat} (hn:n≤1024):gW s (some g) n=some (s.addr (List.replicate n (bk W)),(List.range' s.row_Row.length n).map some):=by
 unfold gW;obtain ⟨t,h1,h2⟩:=eY (σ:=(List (Option Nat))×Int×Sto) (τ:=(List (Option Nat))×Sto) (n:=n) (fuel:=((n:Int) - 0).toNat+1) (s:=(([]:List (Option Nat)),0,s))
  (fun i q=>q=((List.range' s.row_Row.length i).map some,(i:Int),s.addr (List.replicate i (bk W)))) (fun t=>t=((List.range' s.row_Row.length n).map some,s.addr (List.replicate n (bk W))))
  (step:=fun s_8=>
 if (decide (s_8.2.1 < (n:Int)))=true then
 (bV s_8.2.2 (some g)).bind fun x_13=>
 (kx s_8.2.2 x_13).bind fun x_14=>
 (app s_8.1 ([x_14.2]:List (Option Nat))).bind fun x_16=>
 some (.inl (x_16,(w64 (s_8.2.1+1)),x_14.1))
 else
 some (.inr (s_8.1,s_8.2.2)))
  (fun i q hi e=>by
   subst e;refine .inl ⟨_,?_,rfl⟩;have e5:w64 ((i:Int)+1)=((i+1:Nat):Int):=by rw [aL (by omega)]; simp
   have hd:decide ((i:Int) < (n:Int))=true:=by simp; exact hi
   simp only [hd,bG];rw [jE (h.addr (xs:=List.replicate i (bk W)))];simp only [bsm,CH,Ko h.w1 h.w2,e5];rw [du (by simp; omega)];simp only [bsm];rw [GK,GJ,LD,bb,K9];simp [bk])
  (fun q e=>⟨_,by subst e; simp,rfl⟩)
  (by simp [Bi]) (by omega)
 subst h2;rw [h1];rfl
def ov (ks:List Nat) (F:Nat) (p:List Nat):List Nat:=ks.take F++p++ks.drop (F+p.length)
theorem tV {F:Nat} {p:List Nat} (h:F+p.length≤ks.length):(ov ks F p).length=ks.length:=by simp [ov]; omega
theorem Jj {F i:Nat} {p:List Nat} (h:F+p.length≤ks.length) (hi:i < p.length):(ov ks F (p.take i)).set (F+i) p[i]=ov ks F (p.take (i+1)):=by
 unfold ov;have h1:(ks.take F++p.take i).length=F+i:=by simp; omega
 rw [vn _ _ (by omega),h1,uu,av,av,cH (Nat.le_of_lt hi),cH (show i+1≤p.length by omega),mu (show F+i < ks.length by omega),zC,ay hi];simp only [aD,bD,bq,sx]
def off (s:Sto) (k:Nat):Sto:=s.sr k ⟨(ln s k).Cells,false⟩
theorem AJ (h:Rw s W k):eB s (some k) false=some (off s k):=by
 obtain ⟨r,h1,_⟩:=h;rw [vO (l:=r.cells) (w:=r.wrap) h1];unfold off;rw [oN h1]
theorem Rw.off {j:Nat} (h:Rw s W j) (hk:Rw s W k):Rw (off s k) W j:=by
 obtain ⟨r,h1,h2,h3⟩:=h;obtain ⟨q,k1,k2,k3⟩:=hk;by_cases e:k=j
 ·subst e;exact ⟨_,rV (cX k1),by rw [oN k1]; exact ⟨k2,k3⟩⟩
 ·exact ⟨r,(zP e).trans h1,h2,h3⟩
theorem Gw.off (h:Gw s g ks W) (hk:Rw s W k):Gw (off s k) g ks W:=⟨h.g,fun j hj=>(h.r j hj).off hk,h.h1,h.h2,h.w1,h.w2⟩
theorem Jt {j:Nat} (hk:Rw s W k):ln (off s k) j=if j=k then ⟨(ln s k).Cells,false⟩ else ln s j:=by
 by_cases e:k=j
 ·subst e;rw [af rfl];exact oN (rV hk.lt)
 ·rw [ab (rS e)];unfold ln;rw [show (Go.Proofs.YtceciacilfhmjaaGreatDoor.off s k).row_Row[j]? = s.row_Row[j]? from zP e]
theorem IP (x:cj) (j:Nat):ln (s.sg g x) j=ln s j:=rfl
def offa (s:Sto) (ks:List Nat) (F:Nat):Sto:=if F=0 then s else off s (ks.getD (F - 1) 0)
theorem vL (h:Gw s g ks W) {F:Nat} {p:List Nat} (hp:F+p.length≤ks.length) (hr:∀k∈p,Rw s W k) (st:gF) (hF:st.from_=(F:Int)):
  eq s st (some g) (p.map some)=some (offa (s.sg g ⟨(ov ks F p).map some⟩) (ov ks F p) F)∧Gw (s.sg g ⟨(ov ks F p).map some⟩) g (ov ks F p) W:=by
 have hh:=h.h2;have key:∀i,i≤p.length→Gw (s.sg g ⟨(ov ks F (p.take i)).map some⟩) g (ov ks F (p.take i)) W:=fun i hi=>
  ⟨Ja (cX h.g),fun k hk=>by
   unfold ov at hk;rw [uU,uU] at hk;rcases hk with (hk | hk) | hk
   ·exact h.r k (ej hk)
   ·exact hr k (ej hk)
   ·exact h.r k (jD hk),by rw [tV (by simp; omega)]; exact h.h1,by rw [tV (by simp; omega)]; exact h.h2,h.w1,h.w2⟩
 have kend:=key p.length (ao _);rw [cZ] at kend;refine ⟨?_,kend⟩;unfold eq;rw [hF];obtain ⟨t,h1,h2⟩:=eY (σ:=Int×Sto) (τ:=Sto) (n:=p.length) (fuel:=(((p.map some).length:Int) - 0).toNat+1) (s:=((0:Int),s))
  (fun i q=>q=((i:Int),s.sg g ⟨(ov ks F (p.take i)).map some⟩)) (fun t=>t=s.sg g ⟨(ov ks F p).map some⟩)
  (step:=fun s_7=>
 if (decide (s_7.1 < ((p.map some).length:Int)))=true then
 (idx (p.map some) s_7.1).bind fun x_11=>
 (fW s_7.2 (some g) (w64 ((F:Int)+s_7.1)) x_11).bind fun x_22=>
 some (.inl ((w64 (s_7.1+1)),x_22.1))
 else
 some (.inr (s_7.2)))
  (fun i q hi e=>by
   subst e;refine .inl ⟨_,?_,rfl⟩;have e5:w64 ((i:Int)+1)=((i+1:Nat):Int):=by rw [aL (by omega)]; simp
   have e6:w64 ((F:Int)+(i:Int))=((F+i:Nat):Int):=by rw [aL (by omega)]; simp
   have hd:decide ((i:Int) < ((p.map some).length:Int))=true:=by simp; exact hi
   have hi2:i < (p.map some).length:=by simpa using hi
   have hk:=key i (Nat.le_of_lt hi);simp only [hd,bG,bz hi2,bsm,dv,e5,e6];have hl:(ov ks F (p.take i)).length=ks.length:=tV (by simp; omega);rw [FU hk (show F+i < (ov ks F (p.take i)).length by omega) (hr _ (aF hi))];simp only [bsm];rw [Jj hp hi,Kl])
  (fun q e=>by
   subst e;rw [cZ];exact ⟨_,by simp,rfl⟩)
  (by
   simp only [mh,gE];refine ⟨rfl,(Km ?_).symm⟩;rw [h.g];simp [ov]) (by simp)
 subst h2;rw [h1];simp only [bsm];unfold offa;by_cases h0:F=0
 ·subst h0;rw [af rfl,yY kend (by left; rw [aL (by omega)]; omega)];rfl
 ·have e7:w64 ((F:Int) - 1)=((F - 1:Nat):Int):=by rw [aL (by omega)]; omega
  have hl:(ov ks F p).length=ks.length:=tV hp;have hlt:F - 1 < (ov ks F p).length:=by omega
  rw [ab h0,e7,eZ kend hlt];simp only [bsm];rw [AJ (kend.at hlt),aw,ah hlt];rfl
def dl:aq:=⟨[],false⟩
def mvb (W:Nat) (L:List aq) (F T m:Nat) (up:Bool) (i:Nat):aq:=
 if F≤i∧i < T then (if up=true then (if i+m < T then L.getD (i+m) dl else ⟨List.replicate W bl,false⟩) else (if F+m≤i then L.getD (i - m) dl else ⟨List.replicate W bl,false⟩)) else L.getD i dl
def mvl (W:Nat) (L:List aq) (F T m:Nat) (up:Bool) (i:Nat):aq:=
 if i+1=F∨(up=false∧i+1=T) then ⟨(mvb W L F T m up i).Cells,false⟩ else mvb W L F T m up i
def mv (W:Nat) (L:List aq) (F T:Nat) (n:Int) (up:Bool):List aq:=
 if F < T∧0 < n then (List.range L.length).map (mvl W L F T (min n ((T:Int) - (F:Int))).toNat up) else L
theorem gd {i:Nat} (h:i < ks.length):ks.getD i 0=ks[i]:=by rw [aw,ah h]; rfl
theorem gdl {L:List aq} {i:Nat} (h:i < L.length):L.getD i dl=L[i]:=by rw [aw,ah h]; rfl
theorem CO (nd:ks.Nodup) {i j:Nat} (hj:j < ks.length) (hij:i < j):ks.getD i 0≠ks.getD j 0:=by
 rw [gd hj,gd (Nat.lt_trans hij hj)];exact List.pairwise_iff_getElem.1 nd i j _ _ hij
theorem Fi {h:Nat} {f:Nat→Nat} (hf:∀i j,i < j→j < h→f i≠f j):((List.range h).map f).Nodup:=by
 rw [List.Nodup,List.pairwise_map];exact List.pairwise_lt_range.imp_of_mem fun _ hb hlt=>hf _ _ hlt (List.mem_range.1 hb)
def kfu (ks:List Nat) (N F T m i:Nat):Nat:=if i < F∨T≤i then ks.getD i 0 else if i+m < T then ks.getD (i+m) 0 else N+(i+m - T)
def kfd (ks:List Nat) (N F T m i:Nat):Nat:=if i < F∨T≤i then ks.getD i 0 else if i < F+m then N+(i - F) else ks.getD (i - m) 0
theorem Kx {F T m:Nat} (N:Nat) (h1:F+m≤T) (h2:T≤ks.length):ov ks F ((ks.drop (F+m)).take (T - (F+m))++List.range' N m)=(List.range ks.length).map (kfu ks N F T m):=by
 refine dy fun i=>?_;rcases aR i ks.length with hi | hi
 ·rw [dx,pU hi,jr];have e:((ks.drop (F+m)).take (T - (F+m))++List.range' N m).length=T - F:=by simp; omega
  have et:(ks.take F).length=F:=by simp; omega
  have ex:((ks.drop (F+m)).take (T - (F+m))).length=T - (F+m):=by simp; omega
  unfold ov;rw [e,aD,gM,et];unfold kfu;by_cases c1:i < F
  ·rw [af c1,af (Or.inl c1),aK,af c1,gd hi,ah hi]
  ·rw [ab c1,gM,e];by_cases c2:T≤i
   ·rw [ab (by omega),af (Or.inr c2),bH,show F+(T - F)+(i - F - (T - F))=i by omega,gd hi,ah hi]
   ·rw [af (by omega),ab (by omega),gM,ex];by_cases c3:i+m < T
    ·rw [af (by omega),af c3,aK,af (by omega),bH,show F+m+(i - F)=i+m by omega,gd (by omega),ah (by omega)]
    ·rw [ab (by omega),ab c3,Lb (by omega),mg]
     congr 1
     omega
 ·rw [bI (by rw [tV (by simp; omega)]; exact hi),bI (by simpa using hi)]
theorem HH {F T m:Nat} (N:Nat) (h1:F+m≤T) (h2:T≤ks.length):ov ks F (List.range' N m++(ks.drop F).take (T - m - F))=(List.range ks.length).map (kfd ks N F T m):=by
 refine dy fun i=>?_;rcases aR i ks.length with hi | hi
 ·rw [dx,pU hi,jr];have e:(List.range' N m++(ks.drop F).take (T - m - F)).length=T - F:=by simp; omega
  have et:(ks.take F).length=F:=by simp; omega
  have ex:(List.range' N m).length=m:=by simp
  unfold ov;rw [e,aD,gM,et];unfold kfd;by_cases c1:i < F
  ·rw [af c1,af (Or.inl c1),aK,af c1,gd hi,ah hi]
  ·rw [ab c1,gM,e];by_cases c2:T≤i
   ·rw [ab (by omega),af (Or.inr c2),bH,show F+(T - F)+(i - F - (T - F))=i by omega,gd hi,ah hi]
   ·rw [af (by omega),ab (by omega),gM,ex];by_cases c3:i < F+m
    ·rw [af (by omega),af c3,Lb (by omega),mg]
    ·rw [ab (by omega),ab c3,aK,af (by omega),bH,show F+(i - F - m)=i - m by omega,gd (by omega),ah (by omega)]
 ·rw [bI (by rw [tV (by simp; omega)]; exact hi),bI (by simpa using hi)]
theorem Jy (nd:ks.Nodup) {N F T m:Nat} (hN:∀k∈ks,k < N) (h1:F+m≤T) (h2:T≤ks.length) (i j:Nat) (hij:i < j) (hj:j < ks.length):kfu ks N F T m i≠kfu ks N F T m j:=by
 have lt:∀i,i < ks.length→ks.getD i 0 < N:=fun i hi=>by rw [gd hi]; exact hN _ (aF hi)
 have ne:∀a b,a < b→b < ks.length→ks.getD a 0≠ks.getD b 0:=fun a b hab hb=>CO nd hb hab;have ne2:∀a b,b < a→a < ks.length→ks.getD a 0≠ks.getD b 0:=fun a b hab ha=>(CO nd ha hab).symm;unfold kfu
 repeat' split
 all_goals first
  | exact ne _ _ (by omega) (by omega)
  | exact ne2 _ _ (by omega) (by omega)
  | (have:=lt i (by omega); omega)
  | (have:=lt j (by omega); omega)
  | (have:=lt (i+m) (by omega); omega)
  | (have:=lt (j+m) (by omega); omega)
  | omega
theorem Jz (nd:ks.Nodup) {N F T m:Nat} (hN:∀k∈ks,k < N) (h1:F+m≤T) (h2:T≤ks.length) (i j:Nat) (hij:i < j) (hj:j < ks.length):kfd ks N F T m i≠kfd ks N F T m j:=by
 have lt:∀i,i < ks.length→ks.getD i 0 < N:=fun i hi=>by rw [gd hi]; exact hN _ (aF hi)
 have ne:∀a b,a < b→b < ks.length→ks.getD a 0≠ks.getD b 0:=fun a b hab hb=>CO nd hb hab;have ne2:∀a b,b < a→a < ks.length→ks.getD a 0≠ks.getD b 0:=fun a b hab ha=>(CO nd ha hab).symm;unfold kfd
 repeat' split
 all_goals first
  | exact ne _ _ (by omega) (by omega)
  | exact ne2 _ _ (by omega) (by omega)
  | (have:=lt i (by omega); omega)
  | (have:=lt j (by omega); omega)
  | (have:=lt (i - m) (by omega); omega)
  | (have:=lt (j - m) (by omega); omega)
  | omega
theorem yT {h:Nat} {f:Nat→Nat} {B:Nat→aq} (hf:∀i j,i < j→j < h→f i≠f j) (hB:∀i,i < h→ln s (f i)=B i) {j:Nat} (hj:j < h) (hk:Rw s W (f j)) (i:Nat) (hi:i < h):
  ln (off s (f j)) (f i)=if i=j then ⟨(B j).Cells,false⟩ else B i:=by
 rw [Jt hk,hB j hj];by_cases e:i=j
 ·subst e; rw [af rfl,af rfl]
 ·rw [ab,ab e,hB i hi];rcases LB e with h | h
  ·exact hf i j h hj
  ·exact (hf j i h hi).symm
theorem Aj (s:Sto) (ks:List Nat) (F:Nat):(offa s ks F).rst=s.rst:=by
 unfold offa;split <;> rfl
theorem lG {h i:Nat} {f:Nat→Nat} (hi:i < h):((List.range h).map f).getD i 0=f i:=by
 rw [gd (by simpa using hi)];simp
structure Rf (s s':Sto) (g:Nat) (ks:List Nat) (g':Nat) (ks':List Nat):Prop where
 gl:s.grid_Grid.length≤s'.grid_Grid.length
 rl:s.row_Row.length≤s'.row_Row.length
 gr:∀j,j < s.grid_Grid.length→j≠g→s'.grid_Grid[j]? = s.grid_Grid[j]?
 rw:∀j,j < s.row_Row.length→j∉ks→s'.row_Row[j]? = s.row_Row[j]?
 ng:g'=g∨s.grid_Grid.length≤g'
 nr:∀r∈ks',r∈ks∨s.row_Row.length≤r
theorem Rf.self (s:Sto) (g:Nat) (ks:List Nat):Rf s s g ks g ks:=⟨ao _,ao _,fun _ _ _=>rfl,fun _ _ _=>rfl,.inl rfl,fun _ h=> .inl h⟩
theorem Rf.rowoff {s':Sto} {ks':List Nat} (h:Rf s s' g ks g ks') {i:Nat} (hi:i∈ks'):Rf s (off s' i) g ks g ks':=by
 have e:(off s' i).row_Row=s'.row_Row.set i ⟨(ln s' i).Cells,false⟩:=rfl;refine ⟨h.gl,by rw [e,cf]; exact h.rl,h.gr,fun j h1 h2=>?_,h.ng,h.nr⟩;rw [e,aT ?_]
 ·exact h.rw j h1 h2
 ·rintro rfl;rcases h.nr _ hi with q | q
  ·exact h2 q
  ·omega
theorem Rf.aboff {s':Sto} {ks':List Nat} (h:Rf s s' g ks g ks') (F:Nat) (hF:F≤ks'.length):Rf s (offa s' ks' F) g ks g ks':=by
 unfold Go.Proofs.YtceciacilfhmjaaGreatDoor.offa;split
 ·exact h
 ·refine h.rowoff ?_;rw [gd (by omega)];exact aF _
theorem Rf.lay (xs:List bm) (x:cj) {ks':List Nat} (h:∀r∈ks',r∈ks∨s.row_Row.length≤r):Rf s ((s.addr xs).sg g x) g ks g ks':=by
 have e:((s.addr xs).sg g x).row_Row=s.row_Row++xs:=rfl;have e2:((s.addr xs).sg g x).grid_Grid=s.grid_Grid.set g x:=rfl;exact ⟨by rw [e2,cf]; exact ao _,by rw [e,ag]; omega,fun j _ hj=>by rw [e2,aT (rS hj)],fun j hj _=>by rw [e,aG hj],.inl rfl,h⟩
theorem HO {N F T m:Nat} (hm:T≤ks.length) {r:Nat} (hr:r∈(List.range ks.length).map (kfu ks N F T m)):r∈ks∨N≤r:=by
 obtain ⟨i,hi,rfl⟩:=List.mem_map.1 hr;have hi:=List.mem_range.1 hi;unfold kfu;split
 ·rw [gd hi]; exact .inl (aF _)
 ·split
  ·rw [gd (by omega)]; exact .inl (aF _)
  ·exact .inr (by omega)
theorem HP {N F T m:Nat} (hm:T≤ks.length) {r:Nat} (hr:r∈(List.range ks.length).map (kfd ks N F T m)):r∈ks∨N≤r:=by
 obtain ⟨i,hi,rfl⟩:=List.mem_map.1 hr;have hi:=List.mem_range.1 hi;unfold kfd;split
 ·rw [gd hi]; exact .inl (aF _)
 ·split
  ·exact .inr (by omega)
  ·rw [gd (by omega)]; exact .inl (aF _)
theorem Bq (h:Gw s g ks W) (nd:ks.Nodup) (a b n:Int):∃s' ks',kb s (some g) a b n=some s'∧(Gw s' g ks' W∧ks'.Nodup∧ks'.length=ks.length∧
  ks'.map (ln s')=mv W (ks.map (ln s)) (cl a ks.length) (cl b ks.length) n true)∧s'.rst=s.rst∧Rf s s' g ks g ks':=by
 have hF:=nh a ks.length;have hT:=nh b ks.length;have hh:=h.h2;have hN:∀k∈ks,k < s.row_Row.length:=fun k hk=>(h.r k hk).lt;unfold kb;rw [xS h];simp only [bsm];generalize cl a ks.length=F at *;generalize cl b ks.length=T at *;unfold mv;by_cases hc:F < T∧0 < n
 ·obtain ⟨m,hm⟩:∃m:Nat,min n ((T:Int) - (F:Int))=(m:Int):=⟨(min n ((T:Int) - (F:Int))).toNat,by omega⟩;have hm2:F+m≤T∧1≤m:=by omega
  rw [af (by simp; omega),af hc,hm,aL (by omega),show ((F:Int)+(m:Int))=((F+m:Nat):Int) by simp,uB h hm2.1 hT];simp only [bsm];rw [rF h (by omega)];simp only [bsm];rw [du (by simp; omega),←bb];simp only [bsm];have h1:=h.addr (xs:=List.replicate m (bk W));have hlen:((ks.drop (F+m)).take (T - (F+m))++List.range' s.row_Row.length m).length=T - F:=by simp; omega
  obtain ⟨h3,h4⟩:=vL h1 (F:=F) (p:=(ks.drop (F+m)).take (T - (F+m))++List.range' s.row_Row.length m) (by rw [hlen]; omega) (fun k hk=>by
   rcases List.mem_append.1 hk with hk | hk
   ·exact h1.r k (jD (ej hk))
   ·rw [Bm] at hk;have:=tE (s:=s) (xs:=List.replicate m (bk W)) (i:=k - s.row_Row.length) (by simp; omega);rw [show s.row_Row.length+(k - s.row_Row.length)=k by omega,fS] at this;exact ⟨_,this,tL W,by simp [bk]⟩) ⟨(F:Int),(T:Int),(m:Int)⟩ rfl
  rw [h3];rw [Kx s.row_Row.length hm2.1 hT] at h4⊢;have ne:=Jy nd (N:=s.row_Row.length) (F:=F) (T:=T) (m:=m) hN hm2.1 hT;have hB:∀i,i < ks.length→ln ((s.addr (List.replicate m (bk W))).sg g ⟨((List.range ks.length).map (kfu ks s.row_Row.length F T m)).map some⟩) (kfu ks s.row_Row.length F T m i)=mvb W (ks.map (ln s)) F T m true i:=by
   intro i hi;rw [IP];have old:∀j,j < ks.length→ln (s.addr (List.replicate m (bk W))) (ks.getD j 0)=(ks.map (ln s)).getD j dl:=fun j hj=>by
    rw [gdl (by simpa using hj),gd hj,Ft (hN _ (aF hj)),dv]
   unfold kfu mvb;by_cases c1:i < F∨T≤i
   ·rw [af c1,ab (show ¬(F≤i∧i < T) by omega),old i hi]
   ·rw [ab c1,af (show F≤i∧i < T by omega),af rfl];by_cases c2:i+m < T
    ·rw [af c2,af c2,old _ (by omega)]
    ·rw [ab c2,ab c2,Fu (by simp; omega),fS];rfl
  refine ⟨_,(List.range ks.length).map (kfu ks s.row_Row.length F T m),rfl,⟨?_,Fi ne,by simp,?_⟩,Aj _ _ _,(Rf.lay _ _ fun r hr=>HO hT hr).aboff F (by simp; omega)⟩
  ·unfold offa;split
   ·exact h4
   ·refine h4.off ?_;rw [lG (by omega)];exact h4.r _ (List.mem_map.2 ⟨F - 1,List.mem_range.2 (by omega),rfl⟩)
  ·rw [aQ,fR];refine dm fun i hi=>?_;have hi:=List.mem_range.1 hi;simp only [Function.comp,bp];unfold offa mvl;by_cases h0:F=0
   ·rw [af h0,ab (by simp; omega),hB i hi]
   ·rw [ab h0,lG (by omega),yT ne hB (by omega) (h4.r _ (List.mem_map.2 ⟨F - 1,List.mem_range.2 (by omega),rfl⟩)) i hi];by_cases e:i=F - 1
    ·rw [af e,af (by omega),e]
    ·rw [ab e,ab (by simp; omega)]
 ·rw [ab (by simp; omega),ab hc];exact ⟨s,ks,rfl,⟨h,nd,rfl,rfl⟩,rfl,Rf.self _ _ _⟩
theorem AO (h:Gw s g ks W) (nd:ks.Nodup) (a b n:Int):∃s' ks',jG s (some g) a b n=some s'∧(Gw s' g ks' W∧ks'.Nodup∧ks'.length=ks.length∧
  ks'.map (ln s')=mv W (ks.map (ln s)) (cl a ks.length) (cl b ks.length) n false)∧s'.rst=s.rst∧Rf s s' g ks g ks':=by
 have hF:=nh a ks.length;have hT:=nh b ks.length;have hh:=h.h2;have hN:∀k∈ks,k < s.row_Row.length:=fun k hk=>(h.r k hk).lt;unfold jG;rw [xS h];simp only [bsm];generalize cl a ks.length=F at *;generalize cl b ks.length=T at *;unfold mv;by_cases hc:F < T∧0 < n
 ·obtain ⟨m,hm⟩:∃m:Nat,min n ((T:Int) - (F:Int))=(m:Int):=⟨(min n ((T:Int) - (F:Int))).toNat,by omega⟩;have hm2:F+m≤T∧1≤m:=by omega
  have h1:=h.addr (xs:=List.replicate m (bk W));rw [af (by simp; omega),af hc,hm,rF h (by omega)];simp only [bsm];rw [aL (by omega),show ((T:Int) - (m:Int))=((T - m:Nat):Int) by omega,uB h1 (by omega) (by omega)];simp only [bsm];rw [du (by simp; omega),←bb];simp only [bsm];have hlen:(List.range' s.row_Row.length m++(ks.drop F).take (T - m - F)).length=T - F:=by simp; omega
  obtain ⟨h3,h4⟩:=vL h1 (F:=F) (p:=List.range' s.row_Row.length m++(ks.drop F).take (T - m - F)) (by rw [hlen]; omega) (fun k hk=>by
   rcases List.mem_append.1 hk with hk | hk
   ·rw [Bm] at hk;have:=tE (s:=s) (xs:=List.replicate m (bk W)) (i:=k - s.row_Row.length) (by simp; omega);rw [show s.row_Row.length+(k - s.row_Row.length)=k by omega,fS] at this;exact ⟨_,this,tL W,by simp [bk]⟩
   ·exact h1.r k (jD (ej hk))) ⟨(F:Int),(T:Int),(m:Int)⟩ rfl
  rw [h3];rw [HH s.row_Row.length hm2.1 hT] at h4⊢;have ne:=Jz nd (N:=s.row_Row.length) (F:=F) (T:=T) (m:=m) hN hm2.1 hT;have hB:∀i,i < ks.length→ln ((s.addr (List.replicate m (bk W))).sg g ⟨((List.range ks.length).map (kfd ks s.row_Row.length F T m)).map some⟩) (kfd ks s.row_Row.length F T m i)=mvb W (ks.map (ln s)) F T m false i:=by
   intro i hi;rw [IP];have old:∀j,j < ks.length→ln (s.addr (List.replicate m (bk W))) (ks.getD j 0)=(ks.map (ln s)).getD j dl:=fun j hj=>by
    rw [gdl (by simpa using hj),gd hj,Ft (hN _ (aF hj)),dv]
   unfold kfd mvb;by_cases c1:i < F∨T≤i
   ·rw [af c1,ab (show ¬(F≤i∧i < T) by omega),old i hi]
   ·rw [ab c1,af (show F≤i∧i < T by omega),ab (show ¬(false=true) by simp)];by_cases c2:i < F+m
    ·rw [af c2,ab (show ¬(F+m≤i) by omega),Fu (by simp; omega),fS];rfl
    ·rw [ab c2,af (show F+m≤i by omega),old _ (by omega)]
  have hmem:∀j,j < ks.length→kfd ks s.row_Row.length F T m j∈(List.range ks.length).map (kfd ks s.row_Row.length F T m):=fun j hj=>List.mem_map.2 ⟨j,List.mem_range.2 hj,rfl⟩;have h5:Gw (offa ((s.addr (List.replicate m (bk W))).sg g ⟨((List.range ks.length).map (kfd ks s.row_Row.length F T m)).map some⟩) ((List.range ks.length).map (kfd ks s.row_Row.length F T m)) F) g ((List.range ks.length).map (kfd ks s.row_Row.length F T m)) W:=by
   unfold offa;split
   ·exact h4
   ·refine h4.off ?_;rw [lG (by omega)];exact h4.r _ (hmem _ (by omega))
  have hC:∀i,i < ks.length→ln (offa ((s.addr (List.replicate m (bk W))).sg g ⟨((List.range ks.length).map (kfd ks s.row_Row.length F T m)).map some⟩) ((List.range ks.length).map (kfd ks s.row_Row.length F T m)) F) (kfd ks s.row_Row.length F T m i)=
    if i+1=F then ⟨(mvb W (ks.map (ln s)) F T m false i).Cells,false⟩ else mvb W (ks.map (ln s)) F T m false i:=by
   intro i hi;unfold offa;by_cases h0:F=0
   ·rw [af h0,ab (by omega),hB i hi]
   ·rw [ab h0,lG (by omega),yT ne hB (by omega) (h4.r _ (hmem _ (by omega))) i hi];by_cases e:i=F - 1
    ·rw [af e,af (by omega),e]
    ·rw [ab e,ab (by omega)]
  have hlt:T - 1 < ((List.range ks.length).map (kfd ks s.row_Row.length F T m)).length:=by simp; omega
  simp only [bsm];rw [aL (by omega),show ((T:Int) - 1)=((T - 1:Nat):Int) by omega,eZ h5 hlt];simp only [bsm];rw [AJ (h5.at hlt)];simp only [bsm,dv,zE];refine ⟨_,(List.range ks.length).map (kfd ks s.row_Row.length F T m),rfl,⟨h5.off (h5.r _ (hmem _ (by omega))),Fi ne,by simp,?_⟩,Aj _ _ _,((Rf.lay _ _ fun r hr=>HP hT hr).aboff F (by simp; omega)).rowoff (hmem _ (by omega))⟩;rw [aQ,fR];refine dm fun i hi=>?_;have hi:=List.mem_range.1 hi;simp only [Function.comp,bp];rw [yT ne hC (by omega) (h5.r _ (hmem _ (by omega))) i hi];unfold mvl;by_cases e:i=T - 1
  ·rw [af e,ab (show ¬(T - 1+1=F) by omega),af (show i+1=F∨(false=false∧i+1=T) from Or.inr ⟨rfl,by omega⟩),e]
  ·rw [ab e];by_cases e2:i+1=F
   ·rw [af e2,af (Or.inl e2)]
   ·rw [ab e2,ab (show ¬(i+1=F∨(false=false∧i+1=T)) by simp; omega)]
 ·rw [ab (by simp; omega),ab hc];exact ⟨s,ks,rfl,⟨h,nd,rfl,rfl⟩,rfl,Rf.self _ _ _⟩
theorem qo {L:List aq} (hl:L.length≤1024) (hW:W≤1024) (hL:∀x∈L,x.Cells.length=W) (a b n:Int) (up:Bool):
  fO L a b n up=some (mv W L (cl a L.length) (cl b L.length) n up):=by
 have hF:=nh a L.length;have hT:=nh b L.length;unfold fO;simp only [icl,bS,bsm];generalize cl a L.length=F at *;generalize cl b L.length=T at *;unfold mv;by_cases hc:F < T∧0 < n
 ·obtain ⟨m,hm⟩:∃m:Nat,min n ((T:Int) - (F:Int))=(m:Int):=⟨(min n ((T:Int) - (F:Int))).toNat,by omega⟩;have hm2:F+m≤T∧1≤m:=by omega
  rw [ab (by rw [aC,ai,ai]; omega),af hc,aL (by omega),eV,hm,bp];obtain ⟨t,h1,h2⟩:=eY (σ:=(List aq)×Int) (τ:=List aq) (n:=L.length) (fuel:=((L.length:Int) - 0).toNat+1) (s:=(([]:List aq),0))
   (fun i q=>q=((List.range i).map (mvl W L F T m up),(i:Int))) (fun t=>t=(List.range L.length).map (mvl W L F T m up))
   (step:=fun s_41=>
 if (decide (s_41.2 < (L.length:Int)))=true then
 (idx L s_41.2).bind fun x_48=>
 ((bX (decide (s_41.2≥(F:Int))) (some (decide (s_41.2 < (T:Int))))).bind fun d_57=>
 if d_57=true then
 (if (!up)=true then
 (some ((w64 (s_41.2 - (m:Int)))):Option (Int))
 else
 (some ((w64 (s_41.2+(m:Int)))):Option (Int))).bind fun z_68=>
 (idx L s_41.2).bind fun x_79=>
 (rep (x_79.Cells.length:Int) (⟨0,([]:List Int)⟩:aa)).bind fun x_83=>
 (bX (decide (z_68≥(F:Int))) (some (decide (z_68 < (T:Int))))).bind fun d_90=>
 if d_90=true then
 (idx L z_68).bind fun x_98=>
 (some (x_98.Cells,x_98.Wrap):Option ((List aa)×Bool))
 else
 (some (x_83,false):Option ((List aa)×Bool))
 else
 (some (x_48.Cells,x_48.Wrap):Option ((List aa)×Bool))).bind fun z_53=>
 ((orE ((w64 (s_41.2+1))==(F:Int)) ((bX (!up) (some ((w64 (s_41.2+1))==(T:Int)))).bind fun d_111=>
 some d_111)).bind fun d_107=>
 if d_107=true then
 (some (false):Option (Bool))
 else
 (some (z_53.2):Option (Bool))).bind fun z_102=>
 (app s_41.1 ([(⟨z_53.1,z_102⟩:aq)]:List aq)).bind fun x_124=>
 some (.inl (x_124,(w64 (s_41.2+1))))
 else
 some (.inr (s_41.1)))
   (fun i q hi e=>by
    subst e;refine .inl ⟨_,?_,rfl⟩;have e5:w64 ((i:Int)+1)=((i+1:Nat):Int):=by rw [aL (by omega)]; simp
    have hd:decide ((i:Int) < (L.length:Int))=true:=by simp; exact hi
    have hlw:=hL _ (aF hi);simp only [hd,bG,bz hi,bsm,e5,bd];have hz:(if (decide ((i:Int)≥(F:Int)) && decide ((i:Int) < (T:Int)))=true then
      (if (!up)=true then (some ((w64 ((i:Int) - (m:Int)))):Option (Int)) else (some ((w64 ((i:Int)+(m:Int)))):Option (Int))).bind fun z_68=>
      (rep (L[i].Cells.length:Int) (⟨0,([]:List Int)⟩:aa)).bind fun x_83=>
      if (decide (z_68≥(F:Int)) && decide (z_68 < (T:Int)))=true then
      (idx L z_68).bind fun x_98=>(some (x_98.Cells,x_98.Wrap):Option ((List aa)×Bool))
      else (some (x_83,false):Option ((List aa)×Bool))
      else (some (L[i].Cells,L[i].Wrap):Option ((List aa)×Bool)))=some ((mvb W L F T m up i).Cells,(mvb W L F T m up i).Wrap):=by
     unfold mvb;by_cases c1:F≤i∧i < T
     ·rw [af (by simp; omega),af c1]
      cases up with
      | true=>
       rw [ab (by simp),af rfl];simp only [bsm];rw [qn _ (by omega),aL (by omega),show ((i:Int)+(m:Int))=((i+m:Nat):Int) by simp];simp only [bsm];by_cases c2:i+m < T
       ·rw [af (by simp; omega),af c2,bz (show i+m < L.length by omega),gdl (by omega)];rfl
       ·rw [ab (by simp; omega),ab c2,bp,hlw];rfl
      | false=>
       rw [af (by simp),ab (by simp)];simp only [bsm];rw [qn _ (by omega),aL (by omega)];simp only [bsm];by_cases c2:F+m≤i
       ·rw [show ((i:Int) - (m:Int))=((i - m:Nat):Int) by omega,af (by simp; omega),af c2,bz (show i - m < L.length by omega),gdl (by omega)];rfl
       ·rw [ab (by simp; omega),ab c2,bp,hlw];rfl
     ·rw [ab (by simp; omega),ab c1,gdl hi]
    rw [hz];simp only [bsm];have hy:(orE (((i+1:Nat):Int)==(F:Int)) (some (!up && (((i+1:Nat):Int)==(T:Int)))))=some (decide (i+1=F∨(up=false∧i+1=T))):=by
     rw [bS]
     congr 1
     rw [da];simp only [aC,aA,an,dQ,ai,Int.ofNat_inj]
    rw [hy];simp only [bsm];have hx:∀y:Bool,(if decide (i+1=F∨(up=false∧i+1=T))=true then (some false:Option Bool) else some y)=some (if i+1=F∨(up=false∧i+1=T) then false else y):=fun y=>by
     by_cases c:i+1=F∨(up=false∧i+1=T)
     ·rw [af (by simpa using c),af c]
     ·rw [ab (by simpa using c),ab c]
    rw [hx];simp only [bsm];rw [du (by simp; omega)];simp only [bsm];have hz3:(⟨(mvb W L F T m up i).Cells,if i+1=F∨(up=false∧i+1=T) then false else (mvb W L F T m up i).Wrap⟩:aq)=mvl W L F T m up i:=by
     unfold mvl;split <;> rfl
    rw [hz3,L6,bb];rfl)
   (fun q e=>⟨_,by subst e; simp,rfl⟩)
   (by simp) (by omega)
  subst h2;rw [h1];rfl
 ·rw [af (by rw [aC,ai,ai]; omega),ab hc]
end Go.Proofs.YtceciacilfhmjaaGreatDoor
