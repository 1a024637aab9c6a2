/- Parts of the proofs of ScreenRuns: the walk through the code, and plain Lean. No condition. -/
import Derived.Test.YthokmpbbkpjhbaaGreatDoorSrA
import Derived.Test.YthokmpbbkpjhbaaGreatDoorProg
import Derived.Test.YthokmpbbkpjhbaaGreatDoorSrB
import Derived.Test.YthokmpbbkpjhbaaGreatDoorSrC
import Derived.WalkKit
import Derived.LaidEql
import Derived.Stop.Asserts
import Derived.RowKitTokens
import Derived.Elder7
import Derived.Laws.BytesString
import Derived.OpenShut
import Derived.LaidLaws
import Derived.Handed
import Derived.Lay
import Derived.JoinedOf
import Derived.KernelRfl
import Derived.SizedLaws
set_option linter.unusedVariables false
set_option linter.unusedSimpArgs false
namespace Go.Proofs.YthokmpbbkpjhbaaGreatDoor
open Go Go.Lt
set_option maxRecDepth 10000
set_option linter.unusedVariables false
attribute [local irreducible] W WL AC
open Tryz
variable {c0:Cx} {G:Gm} {F:List En} {sg:Sto} {v1 v2 v3 v4 v5 v6 v7 v8 v9 v10 v11 v12 v13 v14 v15 v16 v17 v18 v19 v20 v21 v22 v23 v24 v25 v26 v27 v28 v29 v30 v31 v32 v33 v34 v35 v36 v37 v38 v39 v40 v41 v42 v43 v44 v45 v46 v47 v48 v49 v50 v51 v52 v53 v54 v55 v56 v57 v58 v59 v60:Value}
def nt (sg:Sto) (p0:Option Nat):Option (Sto×(Option Nat)):=
 (orE p0.isNone ((p0).bind fun d=>
 (sg.place_Pen[d]?).bind fun b=>
 some b.G.isNone)).bind fun c=>
 if c=true then
 some (sg,(none:Option Nat))
 else
 (some (sg.add_feed_Feeder (⟨p0,(⟨0,0,0,0,0⟩:bA),(⟨false,0,0,0,false⟩:cD),(none:Option Nat)⟩:bB))).bind fun a=>
 some (a,(some sg.feed_Feeder.length))
theorem Ah (t:Own c0 G F) (u:Rel c0 sg G) (k:Option Nat) {r:Sto×(Option Nat)} (n:Pt 2 c0 v1 k) (H:nt sg k=some r): Calls prog 43 #[v1] c0.w (aN c0 fun c v=>∃y1,∃G_:Gm,Own c G_ (F)∧Rel c r.1 G_∧eJ G G_∧v=y1∧Pt 4 c y1 r.2):=by
 unfold nt at H;refine en func43 rfl rfl (sr (va (.pointer none) (wln (W.seq (W.seq (bn H fun T h3 H=>W.join (Jn c0 fun c l=>Own c G (F)∧l= [(0,v1),(11,B T)]) ?_ ?_))))))
 ·clear H;refine W.region (va (v1) (vr (B k.isNone) (by rcases (n).cs with ⟨d,e⟩ | ⟨b_,d,e⟩ <;> (subst d; rw [e]; kernel_rfl)) ?_));rcases bo (k.isNone) with h | h
  ·obtain rfl:=orT h h3;exact vb h (pz (pz (ps (va (B true) (wln (jn c0 ⟨t,rfl⟩))))))
  have g:=orF h h3;refine vb h (wa (v1) (wn (bn g fun t0 h8 g=>?_)));obtain ⟨R,rfl,h7⟩:=(n).get h8;refine va (Q R) (wa (Q R) (wn (bn g fun j h9 g=>?_)));obtain ⟨v10,X,U⟩:=Rel.open_place_Pen u h9 h7;refine vx (le1 0 jA (t.gon X 0 rfl)) (wn (vr (B j.G.isNone) (by rcases (U).cs with ⟨d,e⟩ | ⟨b_,d,e⟩ <;> (subst d; rw [e]; kernel_rfl)) ?_));obtain rfl:=si g;exact va (B j.G.isNone) (wln (jn c0 ⟨t,rfl⟩))
 rintro e_ w_ ⟨S,o0,_,rfl,i,rfl,o,rfl⟩;refine nrm (cn H (fun Z H=>?_) (fun Z H=>?_))
 ·refine sr (va (.pointer none) (wln (W.ret (thr ?_))));obtain rfl:=si H;exact r1 (qq S ⟨(.pointer none),G,o,u.m,(eJ.refl _),rfl,rfl⟩)
 refine W.skip (nrm (sr (va (v1) ?_)));obtain ⟨f,rfl⟩:=((n.mono i)).form;refine va (.agg #[.pointer f,I 0,I 0,.int .u8 0,.int .u8 0,I 0,B false,I 0,I 0,I 0,B false,.pointer none]) (me (al 158 [.pointer f,I 0,I 0,.int .u8 0,.int .u8 0,I 0,B false,I 0,I 0,I 0,B false,.pointer none] o) ?_);rintro v24 m0 s ⟨a,rfl,A⟩;have D:=A.sD 1 [0];refine bn H fun y a0 H=>?_;obtain ⟨q,z,b0,u0,d0,M,p,q0,f0,N⟩:=Rel.new_feed_Feeder (E:=[(Eb a 158 [.pointer f,I 0,I 0,.int .u8 0,.int .u8 0,I 0,B false,I 0,I 0,I 0,B false,.pointer none])]) (F:=F) (x:=(⟨k,(⟨0,0,0,0,0⟩:bA),(⟨false,0,0,0,false⟩:cD),(none:Option Nat)⟩:bB)) (b:=a) D (u.mono (i.trans s)) (fun c_ hle_=>⟨a,(.pointer f),(.pointer none),rfl,rfl,(n.mono ((i.trans s).trans hle_)),rfl⟩);rw [be a0] at p;refine WL.gh b0.1 ?_;have s0:=eJ.nil (eJ.refl _) f0;have P:=(eJ.refl _).trans N;have g0:Pt 4 q (Q a) (some sg.feed_Feeder.length):=⟨a,rfl,d0⟩;refine va (Q a) (wln (W.ret ?_));obtain rfl:=si H;exact r1 (qq q ⟨(Q a),z,M,p,P,rfl,g0⟩)
def jc (p0:Int):Option (Int):=
 (orE (decide (p0 < 0)) (some (decide (p0 > 13)))).bind fun a=>
 if a=true then
 some 0
 else
 some p0
theorem rO (d:Own c0 G F) (a:Int) {r:Int} (H:jc a=some r): Calls prog 271 #[I a] c0.w (aN c0 fun c v=>Own c G (F)∧v=I r):=by
 unfold jc at H;refine en func271 rfl rfl (sr (va (I 0) (wln (W.seq (W.seq (bn H fun g h H=>W.join (Jn c0 fun c l=>Own c G (F)∧l= [(0,I a),(8,B g)]) ?_ ?_))))))
 ·clear H;refine W.region (va (I a) (va (B (decide (a < 0))) ?_));rcases bo (decide (a < 0)) with b | b
  ·obtain rfl:=orT b h;exact vb b (pz (va (B true) (wln (jn c0 ⟨d,rfl⟩))))
  have j:=orF b h;refine vb b (wa (I a) (wa (B (decide (a > 13))) ?_));obtain rfl:=si j;exact va (B (decide (a > 13))) (wln (jn c0 ⟨d,rfl⟩))
 rintro k o ⟨f,m,_,rfl,n,rfl,e,rfl⟩;refine nrm (cn H (fun i H=>?_) (fun i H=>?_))
 ·refine sr (va (I 0) (wln (W.ret (thr ?_))));obtain rfl:=si H;exact r1 (qq f ⟨e,rfl⟩)
 refine W.skip (nrm (sr (vv (I a) (wln (W.ret ?_)))));obtain rfl:=si H;exact r1 (qq f ⟨e,rfl⟩)
def lJ (p0:Int):Option (Bool):=
 if (p0==1)=true then
 some true
 else
 if (p0==2)=true then
 some true
 else
 if (p0==3)=true then
 some true
 else
 some false
theorem qH (b:Own c0 G F) (a:Int) {r:Bool} (H:lJ a=some r): Calls prog 272 #[I a] c0.w (aN c0 fun c v=>Own c G (F)∧v=B r):=by
 unfold lJ at H;refine en func272 rfl rfl (sr (va (B false) (wln (W.seq (sr (va (I a) (wln (W.block (W.seq (W.block (W.block (W.block (W.seq (W.seq (sr (vv (B (a==1)) (wln (cn H (fun d H=>?_) (fun d H=>?_)))))))))))))))))))
 ·refine W.exit (thx (thx (bke (bkn (bkn (nrm (W.seq (sr (va (B true) (wln (W.ret (thr (bkr (thr ?_))))))))))))));obtain rfl:=si H;exact r1 (qq c0 ⟨b,rfl⟩)
 refine W.skip (nrm (W.seq (sr (vv (B (a==2)) (wln (cn H (fun e H=>?_) (fun e H=>?_)))))))
 ·refine W.exit (thx (thx (bko rfl (bke (bkn (nrm (W.seq (sr (va (B true) (wln (W.ret (thr (bkr (thr ?_))))))))))))));obtain rfl:=si H;exact r1 (qq c0 ⟨b,rfl⟩)
 refine W.skip (nrm (sr (vv (B (a==3)) (wln (cn H (fun f H=>?_) (fun f H=>?_))))))
 ·refine W.exit (thx (bko rfl (bko rfl (bke (nrm (W.seq (sr (va (B true) (wln (W.ret (thr (bkr (thr ?_)))))))))))));obtain rfl:=si H;exact r1 (qq c0 ⟨b,rfl⟩)
 refine W.skip (nrm (W.exit (bko rfl (bko rfl (bko rfl (thx (bke (nrm (sr (va (B false) (wln (W.ret ?_))))))))))));obtain rfl:=si H;exact r1 (qq c0 ⟨b,rfl⟩)
def mq (p0:Int) (p1:Int):Option (Bool):=
 if (p0==9)=true then
 (orE (p1==9) (some (p1==10))).bind fun a=>
 (orE a (some (p1==12))).bind fun b=>
 (orE b (some (p1==13))).bind fun c=>
 some c
 else
 (if (p0==12)=true then
 some (p0==12)
 else
 some (p0==10)).bind fun e=>
 if e=true then
 (orE (p1==10) (some (p1==11))).bind fun d=>
 some d
 else
 (if (p0==13)=true then
 some (p0==13)
 else
 some (p0==11)).bind fun f=>
 if f=true then
 some (p1==11)
 else
 some false
theorem ug (m:Own c0 G F) (b:Int) (a:Int) {r:Bool} (H:mq b a=some r): Calls prog 273 #[I b,I a] c0.w (aN c0 fun c v=>Own c G (F)∧v=B r):=by
 unfold mq at H;refine en func273 rfl rfl (sr (va (B false) (wln (W.seq (sr (va (I b) (wln (W.block (sr (vv (B (b==9)) (wln (cn H (fun h1 H=>?_) (fun h1 H=>?_)))))))))))))
 ·refine W.seq (bn H fun i0 Z H=>bn H fun j0 A H=>bn H fun x p H=>W.join (Jn c0 fun c l=>Own c G (F)∧l= [(4,B x)]) ?_ ?_)
  ·clear H;refine W.region (va (I a) (va (B (a==9)) ?_));rcases bo (a==9) with n | n
   ·obtain rfl:=orT n Z;refine vb n (pz (va (B true) ?_));have h6:true=true:=rfl;obtain rfl:=orT h6 A;refine vb h6 (pz (va (B true) ?_));have h7:true=true:=rfl;obtain rfl:=orT h7 p;exact vb h7 (pz (vv (B true) (wln (jn c0 ⟨m,rfl⟩))))
   have H8:=orF n Z;refine vb n (wa (I a) (wa (B (a==10)) ?_));obtain rfl:=si H8;refine va (B (a==10)) ?_;rcases bo (a==10) with o | o
   ·obtain rfl:=orT o A;refine vb o (pz (va (B true) ?_));have t:true=true:=rfl;obtain rfl:=orT t p;exact vb t (pz (vv (B true) (wln (jn c0 ⟨m,rfl⟩))))
   have N:=orF o A;refine vb o (wa (I a) (wa (B (a==12)) ?_));obtain rfl:=si N;refine va (B (a==12)) ?_;rcases bo (a==12) with i | i
   ·obtain rfl:=orT i p;exact vb i (pz (vv (B true) (wln (jn c0 ⟨m,rfl⟩))))
   have P:=orF i p;refine vb i (wa (I a) (wa (B (a==13)) ?_));obtain rfl:=si P;exact vv (B (a==13)) (wln (jn c0 ⟨m,rfl⟩))
  rintro z D ⟨U,l0,_,rfl,s0,rfl,S,rfl⟩;refine nrm (W.ret (bkr (thr ?_)));obtain rfl:=si H;exact r1 (qq U ⟨S,rfl⟩)
 refine bn H fun E f d=>W.seqJ (Jn c0 fun c l=>Own c G (F)∧l= [(1,I a),(5,I b),(22,B E)]) ?_ ?_
 ·refine sr (vv (B (b==12)) (wln (cn f (fun a0 f=>?_) (fun a0 f=>?_))))
  ·refine W.skip (nrm ?_);obtain rfl:=si f;exact jn c0 ⟨m,rfl⟩
  refine W.region (vv (B (b==10)) (wln ?_));obtain rfl:=si f;exact jn c0 ⟨m,rfl⟩
 rintro z D ⟨e,m0,_,rfl,t0,rfl,k,rfl⟩;refine cn d (fun b0 d=>?_) (fun b0 d=>?_)
 ·refine W.seq (bn d fun y u d=>W.join (Jn e fun c l=>Own c G (F)∧l= [(4,B y)]) ?_ ?_)
  ·clear d;refine W.region (va (I a) (va (B (a==10)) ?_));rcases bo (a==10) with j | j
   ·obtain rfl:=orT j u;exact vb j (pz (vv (B true) (wln (jn e ⟨k,rfl⟩))))
   have R:=orF j u;refine vb j (wa (I a) (wa (B (a==11)) ?_));obtain rfl:=si R;exact vv (B (a==11)) (wln (jn e ⟨k,rfl⟩))
  rintro z D ⟨X,o0,_,rfl,u0,rfl,T,rfl⟩;refine nrm (W.ret (bkr (thr ?_)));obtain rfl:=si d;exact r1 (qq X ⟨T,rfl⟩)
 refine bn d fun M g h=>W.seqJ (Jn e fun c l=>Own c G (F)∧l= [(1,I a),(31,B M)]) ?_ ?_
 ·refine sr (vv (B (b==13)) (wln (cn g (fun d0 g=>?_) (fun d0 g=>?_))))
  ·refine W.skip (nrm ?_);obtain rfl:=si g;exact jn e ⟨k,rfl⟩
  refine W.region (vv (B (b==11)) (wln ?_));obtain rfl:=si g;exact jn e ⟨k,rfl⟩
 rintro z D ⟨s,q0,_,rfl,v0,rfl,q,rfl⟩;refine cn h (fun e0 h=>?_) (fun e0 h=>?_)
 ·refine sr (va (I a) (vv (B (a==11)) (wln (W.ret (bkr (thr ?_))))));obtain rfl:=si h;exact r1 (qq s ⟨q,rfl⟩)
 refine W.skip (bkn (nrm (sr (va (B false) (wln (W.ret ?_))))));obtain rfl:=si h;exact r1 (qq s ⟨q,rfl⟩)
def fR (p0:Int) (p1:Int):Option (Int):=
 (jc p0).bind fun b=>
 (jc p1).bind fun a=>
 (bI (b==1) (some (a==2))).bind fun e=>
 if e=true then
 some 1
 else
 (lJ b).bind fun i=>
 (orE i ((lJ a).bind fun j=>
 some j)).bind fun f=>
 if f=true then
 some 0
 else
 ((mq b a).bind fun d=>
 if d=true then
 some (d)
 else
 if (a==4)=true then
 some (a==4)
 else
 if (a==5)=true then
 some (a==5)
 else
 if (a==8)=true then
 some (a==8)
 else
 some (b==7)).bind fun k=>
 if k=true then
 some 1
 else
 ((bI (a==0) ((orE (b==5) (some (b==4))).bind fun g=>
 some g)).bind fun c=>
 if c=true then
 some (c)
 else
 (bI (b==6) (some (a==6))).bind fun h=>
 some (h)).bind fun l=>
 if l=true then
 some 2
 else
 some 0
theorem xG (O0:Own c0 G F) (E:Int) (M:Int) {r:Int} (H:fR E M=some r): Calls prog 262 #[I E,I M] c0.w (aN c0 fun c v=>Own c G (F)∧v=I r):=by
 unfold fR at H;refine en func262 rfl rfl (sr (va (I 0) (wln (sr (va (I E) (bn H fun b h1 H=>cl (rO O0 E h1) ?_))))));rintro v7 c6 l6 ⟨O3,rfl⟩;refine va (I M) (bn H fun a h8 H=>cl (rO O3 M h8) ?_);rintro v14 y b2 ⟨N,rfl⟩;refine va (I b) (va (I a) (wln (W.seq (W.block (W.seq (bn H fun g0 a0 H=>W.join (Jn y fun c l=>Own c G (F)∧l= [(0,I b),(1,I a),(9,B g0)]) ?_ ?_))))))
 ·clear H;refine W.region (va (I b) (va (B (b==1)) ?_));rcases bo (b==1) with k | k
  ·have q0:=anT k a0;refine vb k (wa (I a) (wa (B (a==2)) ?_));obtain rfl:=si q0;exact vv (B (a==2)) (wln (jn y ⟨N,rfl⟩))
  obtain rfl:=anF k a0;exact vb k (pz (vv (B false) (wln (jn y ⟨N,rfl⟩))))
 rintro z A ⟨U,v1,_,rfl,c2,rfl,P,rfl⟩;refine nrm (cn H (fun z0 H=>?_) (fun z0 H=>?_))
 ·refine sr (va (I 1) (wln (W.ret (bkr (thr ?_)))));obtain rfl:=si H;exact r1 (qq U ⟨P,rfl⟩)
 refine W.seq (bn H fun k0 a1 H=>bn H fun h0 b0 H=>W.join (Jn U fun c l=>Own c G (F)∧l= [(0,I b),(1,I a),(16,B h0)]) ?_ ?_)
 ·clear H;refine W.region (va (I b) (cl (qH P b a1) ?_));rintro v32 w0 d2 ⟨R,rfl⟩;rcases bo (k0) with m | m
  ·obtain rfl:=orT m b0;exact vb m (pz (vv (B true) (wln (jn w0 ⟨R,rfl⟩))))
  have u:=orF m b0;refine vb m (wa (I a) (wn (bn u fun D b1 u=>cl (qH R a b1) ?_)));rintro v41 x0 e2 ⟨u0,rfl⟩;obtain rfl:=si u;exact vv (B D) (wln (jn x0 ⟨u0,rfl⟩))
 rintro z A ⟨X,w1,_,rfl,f2,rfl,S,rfl⟩;refine nrm (cn H (fun c1 H=>?_) (fun c1 H=>?_))
 ·refine sr (va (I 0) (wln (W.ret (bkr (thr ?_)))));obtain rfl:=si H;exact r1 (qq X ⟨S,rfl⟩)
 refine bn H fun m0 d g=>W.seqJ (Jn X fun c l=>Own c G (F)∧l= [(0,I b),(1,I a),(23,B m0)]) ?_ ?_
 ·refine sr (va (I b) (va (I a) (bn d fun l0 d1 d=>cl (ug S b a d1) ?_)));rintro v57 j g2 ⟨i,rfl⟩;refine va (B l0) (wln (cn d (fun e1 d=>?_) (fun e1 d=>?_)))
  ·refine W.skip (nrm ?_);obtain rfl:=si d;exact jn j ⟨i,rfl⟩
  refine sr (va (I a) (vv (B (a==4)) (wln (cn d (fun f1 d=>?_) (fun f1 d=>?_)))))
  ·refine W.skip (nrm ?_);obtain rfl:=si d;exact jn j ⟨i,rfl⟩
  refine sr (va (I a) (vv (B (a==5)) (wln (cn d (fun g1 d=>?_) (fun g1 d=>?_)))))
  ·refine W.skip (nrm ?_);obtain rfl:=si d;exact jn j ⟨i,rfl⟩
  refine sr (va (I a) (vv (B (a==8)) (wln (cn d (fun i1 d=>?_) (fun i1 d=>?_)))))
  ·refine W.skip (nrm ?_);obtain rfl:=si d;exact jn j ⟨i,rfl⟩
  refine W.region (va (I b) (vv (B (b==7)) (wln ?_)));obtain rfl:=si d;exact jn j ⟨i,rfl⟩
 rintro z A ⟨f,x1,_,rfl,h2,rfl,s,rfl⟩;refine cn g (fun j1 g=>?_) (fun j1 g=>?_)
 ·refine sr (va (I 1) (wln (W.ret (bkr (thr ?_)))));obtain rfl:=si g;exact r1 (qq f ⟨s,rfl⟩)
 refine bn g fun o0 e h=>W.seqJ (Jn f fun c l=>Own c G (F)∧l= [(35,B o0)]) ?_ ?_
 ·refine W.seq (bn e fun i0 d0 e=>W.join (Jn f fun c l=>Own c G (F)∧l= [(0,I b),(1,I a),(35,B i0)]) ?_ ?_)
  ·clear e;refine W.region (va (I a) (va (B (a==0)) ?_));rcases bo (a==0) with n | n
   ·have q:=anT n d0;refine vb n (wa (I b) (wa (B (b==5)) (wn (bn q fun s1 e0 q=>?_))));rcases bo (b==5) with o | o
    ·obtain rfl:=orT o e0;refine vb o (pz (wa (B true) ?_));obtain rfl:=si q;exact vv (B true) (wln (jn f ⟨s,rfl⟩))
    have s0:=orF o e0;refine vb o (wa (I b) (wa (B (b==4)) (wn ?_)));obtain rfl:=si s0;refine va (B (b==4)) ?_;obtain rfl:=si q;exact vv (B (b==4)) (wln (jn f ⟨s,rfl⟩))
   obtain rfl:=anF n d0;exact vb n (pz (pz (pz (vv (B false) (wln (jn f ⟨s,rfl⟩))))))
  rintro z A ⟨t,y1,_,rfl,i2,rfl,x,rfl⟩;refine nrm (cn e (fun k1 e=>?_) (fun k1 e=>?_))
  ·refine W.skip (nrm ?_);obtain rfl:=si e;exact jn t ⟨x,rfl⟩
  refine bn e fun j0 f0 e=>W.join (Jn t fun c l=>Own c G (F)∧l= [(35,B j0)]) ?_ ?_
  ·clear e;refine W.region (va (I b) (va (B (b==6)) ?_));rcases bo (b==6) with p | p
   ·have t0:=anT p f0;refine vb p (wa (I a) (wa (B (a==6)) ?_));obtain rfl:=si t0;exact vv (B (a==6)) (wln (jn t ⟨x,rfl⟩))
   obtain rfl:=anF p f0;exact vb p (pz (vv (B false) (wln (jn t ⟨x,rfl⟩))))
  rintro z A ⟨y0,z1,_,rfl,j2,rfl,v0,rfl⟩;refine nrm ?_;obtain rfl:=si e;exact jn y0 ⟨v0,rfl⟩
 rintro z A ⟨Z,a2,_,rfl,k2,rfl,T,rfl⟩;refine cn h (fun m1 h=>?_) (fun m1 h=>?_)
 ·refine sr (va (I 2) (wln (W.ret (bkr (thr ?_)))));obtain rfl:=si h;exact r1 (qq Z ⟨T,rfl⟩)
 refine W.skip (bkn (nrm (sr (va (I 0) (wln (W.ret ?_))))));obtain rfl:=si h;exact r1 (qq Z ⟨T,rfl⟩)
def cS (p0:cD) (p1:ax):Option (Bool):=
 if (!p0.some)=true then
 some false
 else
 ((bI (p1.Conj==1) (some (p0.conj==2))).bind fun a=>
 if a=true then
 some (a)
 else
 (bI p1.Pict (some (p0.pict==2))).bind fun c=>
 some (c)).bind fun e=>
 if e=true then
 some true
 else
 (fR p0.last p1.Break).bind fun b=>
 if (b==1)=true then
 some true
 else
 if (b==2)=true then
 (bI (p0.last==6) (some p0.odd)).bind fun d=>
 some d
 else
 some false
theorem lR {b:Nat} {r0_0:Value} {r0_1:Value} {r0_2:Value} {r0_3:Value} {r0_4:Value} {r0_5:Value} {r0_11:Value} (a:cD) (e:ax) (O0:Own c0 G ((Eb b 158 [r0_0,r0_1,r0_2,r0_3,r0_4,r0_5,B a.some,I a.last,I a.pict,I a.conj,B a.odd,r0_11]) :: F)) {r:Bool} (H:cS a e=some r): Calls prog 231 #[.pointer (some ⟨b,6,none⟩),.agg #[I e.Break,B e.Pict,I e.Conj,I e.East]] c0.w (aN c0 fun c v=>Own c G ((Eb b 158 [r0_0,r0_1,r0_2,r0_3,r0_4,r0_5,B a.some,I a.last,I a.pict,I a.conj,B a.odd,r0_11]) :: F)∧v=B r):=by
 unfold cS at H;refine en func231 rfl rfl (sr (me (bx 33 [I e.Break,B e.Pict,I e.Conj,I e.East] O0) ?_));rintro v5 s l4 ⟨p,rfl,q,M⟩;refine va (B false) (wln (W.seq (sr (vv (Qo b 6) (va (Qo b 6) (vx (le1 6 u_4 (q.on 0 rfl)) (va (B (!a.some)) (wln (cn H (fun h6 H=>?_) (fun h6 H=>?_))))))))))
 ·refine sr (va (B false) (wln (W.ret (thr ?_))));obtain rfl:=si H;exact r1 (qq s ⟨q,rfl⟩)
 refine W.skip (nrm (W.seq (W.block (bn H fun P f d=>W.seqJ (Jn s fun c l=>Own c G ((Eb b 158 [r0_0,r0_1,r0_2,r0_3,r0_4,r0_5,B a.some,I a.last,I a.pict,I a.conj,B a.odd,r0_11]) :: F)∧l= [(0,.pointer (some ⟨b,6,none⟩)),(3,Q p),(10,B P)]) ?_ ?_))))
 ·refine W.seq (bn f fun z h9 f=>W.join (Jn s fun c l=>Own c G ((Eb b 158 [r0_0,r0_1,r0_2,r0_3,r0_4,r0_5,B a.some,I a.last,I a.pict,I a.conj,B a.odd,r0_11]) :: F)∧l= [(0,.pointer (some ⟨b,6,none⟩)),(3,Q p),(10,B z)]) ?_ ?_)
  ·clear f;refine W.region (va (Qo p (0+2)) (vx (l1 u_3 (M 2 _ rfl)) (va (B (e.Conj==1)) ?_)));rcases bo (e.Conj==1) with j | j
   ·have R:=anT j h9;refine vb j (wa (Qo b 6) (wa (Qo b 6) (wa (Qo b 9) (wn (vx (le1 9 u_3 (q.on 0 rfl)) (wa (B (a.conj==2)) ?_))))));obtain rfl:=si R;exact vv (B (a.conj==2)) (wln (jn s ⟨q,rfl⟩))
   obtain rfl:=anF j h9;exact vb j (pz (pz (ps (vv (B false) (wln (jn s ⟨q,rfl⟩))))))
  rintro E N ⟨o,u0,_,rfl,y0,rfl,n,rfl⟩;refine nrm (cn f (fun e0 f=>?_) (fun e0 f=>?_))
  ·refine W.skip (nrm ?_);obtain rfl:=si f;exact jn o ⟨n,rfl⟩
  refine bn f fun A x f=>W.join (Jn o fun c l=>Own c G ((Eb b 158 [r0_0,r0_1,r0_2,r0_3,r0_4,r0_5,B a.some,I a.last,I a.pict,I a.conj,B a.odd,r0_11]) :: F)∧l= [(0,.pointer (some ⟨b,6,none⟩)),(3,Q p),(10,B A)]) ?_ ?_
  ·clear f;refine W.region (va (Qo p (0+1)) (vx (l1 u_4 ((mm M) 1 _ rfl)) ?_));rcases bo (e.Pict) with k | k
   ·have S:=anT k x;refine vb k (wa (Qo b 6) (wa (Qo b 6) (wa (Qo b 8) (wn (vx (le1 8 u_3 (n.on 0 rfl)) (wa (B (a.pict==2)) ?_))))));obtain rfl:=si S;exact vv (B (a.pict==2)) (wln (jn o ⟨n,rfl⟩))
   obtain rfl:=anF k x;exact vb k (pz (pz (ps (vv (B false) (wln (jn o ⟨n,rfl⟩))))))
  rintro E N ⟨Z,v0,_,rfl,z0,rfl,U,rfl⟩;refine nrm ?_;obtain rfl:=si f;exact jn Z ⟨U,rfl⟩
 rintro E N ⟨a0,w0,_,rfl,a1,rfl,t,rfl⟩;refine cn d (fun f0 d=>?_) (fun f0 d=>?_)
 ·refine sr (va (B true) (wln (W.ret (bkr (thr ?_)))));obtain rfl:=si d;exact r1 (qq a0 ⟨t,rfl⟩)
 refine W.skip (bkn (nrm (W.seq (W.seq (rD [] (Kp G0 [(Eb b 158 [r0_0,r0_1,r0_2,r0_3,r0_4,r0_5,B a.some,I a.last,I a.pict,I a.conj,B a.odd,r0_11])]) t ?_)))));intro b0 c1 u;have l0:Kp G0 [(Eb b 158 [r0_0,r0_1,r0_2,r0_3,r0_4,r0_5,B a.some,I a.last,I a.pict,I a.conj,B a.odd,r0_11])] b0:=(Kp.cons (u.on 0 rfl) Kp.nil0);refine ta 0 (.pointer (some ⟨b,6,none⟩)) (ta 1 (Qo b 6) (ta 2 (Qo b 7) (tkx 3 l0 (fun c' k0 hk=>le1 7 u_3 (hk.on 0 rfl)) (ta 4 (Q p) (tx 5 (fun c' k0=>l1 u_3 ((mm M) 0 _ rfl)) (bn d fun i g0 d=>o1 6 (gc 6 (xG u a.last e.Break g0) ?_)))))));rintro v44 h d1 ⟨g,rfl⟩;have m0:Kp G0 [(Eb b 158 [r0_0,r0_1,r0_2,r0_3,r0_4,r0_5,B a.some,I a.last,I a.pict,I a.conj,B a.odd,r0_11])] h:=(Kp.cons (g.on 0 rfl) Kp.nil0);refine ⟨.inr m0,dn (nrm (W.block (sr (vv (B (i==1)) (wln (cn d (fun h0 d=>?_) (fun h0 d=>?_)))))))⟩
 ·refine sr (va (B true) (wln (W.ret (bkr (thr ?_)))));obtain rfl:=si d;exact r1 (qq h ⟨g,rfl⟩)
 refine sr (vv (B (i==2)) (wln (cn d (fun i0 d=>?_) (fun i0 d=>?_))))
 ·refine W.seq (bn d fun D y d=>W.join (Jn h fun c l=>Own c G ((Eb b 158 [r0_0,r0_1,r0_2,r0_3,r0_4,r0_5,B a.some,I a.last,I a.pict,I a.conj,B a.odd,r0_11]) :: F)∧l= [(4,B D)]) ?_ ?_)
  ·clear d;refine W.region (vv (Qo b 6) (va (Qo b 7) (vx (le1 7 u_3 (g.on 0 rfl)) (va (B (a.last==6)) ?_))));rcases bo (a.last==6) with m | m
   ·have T:=anT m y;refine vb m (wa (Qo b 6) (wa (Qo b 6) (wa (Qo b 10) (wn (vx (le1 10 u_4 (g.on 0 rfl)) ?_)))));obtain rfl:=si T;exact vv (B a.odd) (wln (jn h ⟨g,rfl⟩))
   obtain rfl:=anF m y;exact vb m (pz (pz (vv (B false) (wln (jn h ⟨g,rfl⟩)))))
  rintro E N ⟨d0,x0,_,rfl,e1,rfl,X,rfl⟩;refine nrm (W.ret (bkr (thr ?_)));obtain rfl:=si d;exact r1 (qq d0 ⟨X,rfl⟩)
 refine W.skip (bkn (nrm (sr (va (B false) (wln (W.ret ?_))))));obtain rfl:=si d;exact r1 (qq h ⟨g,rfl⟩)
def cI (p0:cD) (p1:ax):Option (Int):=
 if p1.Pict=true then
 some 1
 else
 (bI (p0.pict==1) (some (p1.Break==4))).bind fun a=>
 if a=true then
 some 1
 else
 (bI (p0.pict==1) (some (p1.Break==5))).bind fun b=>
 if b=true then
 some 2
 else
 some 0
theorem lj {b:Nat} {r0_0:Value} {r0_1:Value} {r0_2:Value} {r0_3:Value} {r0_4:Value} {r0_5:Value} {r0_11:Value} (a:cD) (d:ax) (A:Own c0 G ((Eb b 158 [r0_0,r0_1,r0_2,r0_3,r0_4,r0_5,B a.some,I a.last,I a.pict,I a.conj,B a.odd,r0_11]) :: F)) {r:Int} (H:cI a d=some r): Calls prog 232 #[.pointer (some ⟨b,6,none⟩),.agg #[I d.Break,B d.Pict,I d.Conj,I d.East]] c0.w (aN c0 fun c v=>Own c G ((Eb b 158 [r0_0,r0_1,r0_2,r0_3,r0_4,r0_5,B a.some,I a.last,I a.pict,I a.conj,B a.odd,r0_11]) :: F)∧v=I r):=by
 unfold cI at H;refine en func232 rfl rfl (sr (me (bx 33 [I d.Break,B d.Pict,I d.Conj,I d.East] A) ?_));rintro v5 k T ⟨j,rfl,i,s⟩;refine va (I 0) (wln (W.seq (W.block (sr (va (Qo j (0+1)) (vx (l1 u_4 (s 1 _ rfl)) (va (B d.Pict) (wln (cn H (fun E H=>?_) (fun E H=>?_))))))))))
 ·refine sr (va (I 1) (wln (W.ret (bkr (thr ?_)))));obtain rfl:=si H;exact r1 (qq k ⟨i,rfl⟩)
 refine W.seq (bn H fun p y H=>W.join (Jn k fun c l=>Own c G ((Eb b 158 [r0_0,r0_1,r0_2,r0_3,r0_4,r0_5,B a.some,I a.last,I a.pict,I a.conj,B a.odd,r0_11]) :: F)∧l= [(0,.pointer (some ⟨b,6,none⟩)),(3,Q j),(8,B p)]) ?_ ?_)
 ·clear H;refine W.region (vv (Qo b 6) (va (Qo b 8) (vx (le1 8 u_3 (i.on 0 rfl)) (va (B (a.pict==1)) ?_))));rcases bo (a.pict==1) with h | h
  ·have z:=anT h y;refine vb h (wa (Q j) (wn (vx (l1 u_3 (s 0 _ rfl)) (wa (B (d.Break==4)) ?_))));obtain rfl:=si z;exact vv (B (d.Break==4)) (wln (jn k ⟨i,rfl⟩))
  obtain rfl:=anF h y;exact vb h (pz (ps (vv (B false) (wln (jn k ⟨i,rfl⟩)))))
 rintro D M ⟨g,N,_,rfl,R,rfl,f,rfl⟩;refine nrm (cn H (fun u H=>?_) (fun u H=>?_))
 ·refine sr (va (I 1) (wln (W.ret (bkr (thr ?_)))));obtain rfl:=si H;exact r1 (qq g ⟨f,rfl⟩)
 refine W.seq (bn H fun q o H=>W.join (Jn g fun c l=>Own c G ((Eb b 158 [r0_0,r0_1,r0_2,r0_3,r0_4,r0_5,B a.some,I a.last,I a.pict,I a.conj,B a.odd,r0_11]) :: F)∧l= [(19,B q)]) ?_ ?_)
 ·clear H;refine W.region (vv (Qo b 6) (va (Qo b 8) (vx (le1 8 u_3 (f.on 0 rfl)) (va (B (a.pict==1)) ?_))));rcases bo (a.pict==1) with e | e
  ·have t:=anT e o;refine vb e (wa (Q j) (wn (vx (l1 u_3 ((mm s) 0 _ rfl)) (wa (B (d.Break==5)) ?_))));obtain rfl:=si t;exact vv (B (d.Break==5)) (wln (jn g ⟨f,rfl⟩))
  obtain rfl:=anF e o;exact vb e (pz (ps (vv (B false) (wln (jn g ⟨f,rfl⟩)))))
 rintro D M ⟨n,P,_,rfl,S,rfl,m,rfl⟩;refine nrm (cn H (fun x H=>?_) (fun x H=>?_))
 ·refine sr (va (I 2) (wln (W.ret (bkr (thr ?_)))));obtain rfl:=si H;exact r1 (qq n ⟨m,rfl⟩)
 refine W.skip (bkn (nrm (sr (va (I 0) (wln (W.ret ?_))))));obtain rfl:=si H;exact r1 (qq n ⟨m,rfl⟩)
def cB (p0:cD) (p1:ax):Option (Int):=
 if (p1.Conj==1)=true then
 some 1
 else
 if (p0.conj==0)=true then
 some 0
 else
 if (p1.Conj==2)=true then
 some 2
 else
 if (p1.Conj==3)=true then
 some p0.conj
 else
 some 0
theorem kU {b:Nat} {r0_0:Value} {r0_1:Value} {r0_2:Value} {r0_3:Value} {r0_4:Value} {r0_5:Value} {r0_11:Value} (d:cD) (a:ax) (i:Own c0 G ((Eb b 158 [r0_0,r0_1,r0_2,r0_3,r0_4,r0_5,B d.some,I d.last,I d.pict,I d.conj,B d.odd,r0_11]) :: F)) {r:Int} (H:cB d a=some r): Calls prog 233 #[.pointer (some ⟨b,6,none⟩),.agg #[I a.Break,B a.Pict,I a.Conj,I a.East]] c0.w (aN c0 fun c v=>Own c G ((Eb b 158 [r0_0,r0_1,r0_2,r0_3,r0_4,r0_5,B d.some,I d.last,I d.pict,I d.conj,B d.odd,r0_11]) :: F)∧v=I r):=by
 unfold cB at H;refine en func233 rfl rfl (sr (me (bx 33 [I a.Break,B a.Pict,I a.Conj,I a.East] i) ?_));rintro v5 f n ⟨g,rfl,e,h⟩;refine va (I 0) (wln (W.seq (W.block (sr (va (Qo g (0+2)) (vx (l1 u_3 (h 2 _ rfl)) (vv (B (a.Conj==1)) (wln (cn H (fun j H=>?_) (fun j H=>?_))))))))))
 ·refine sr (va (I 1) (wln (W.ret (bkr (thr ?_)))));obtain rfl:=si H;exact r1 (qq f ⟨e,rfl⟩)
 refine sr (vv (Qo b 6) (va (Qo b 9) (vx (le1 9 u_3 (e.on 0 rfl)) (vv (B (d.conj==0)) (wln (cn H (fun k H=>?_) (fun k H=>?_)))))))
 ·refine sr (va (I 0) (wln (W.ret (bkr (thr ?_)))));obtain rfl:=si H;exact r1 (qq f ⟨e,rfl⟩)
 refine sr (va (Qo g (0+2)) (vx (l1 u_3 (h 2 _ rfl)) (vv (B (a.Conj==2)) (wln (cn H (fun l H=>?_) (fun l H=>?_))))))
 ·refine sr (va (I 2) (wln (W.ret (bkr (thr ?_)))));obtain rfl:=si H;exact r1 (qq f ⟨e,rfl⟩)
 refine sr (va (Qo g (0+2)) (vx (l1 u_3 (h 2 _ rfl)) (vv (B (a.Conj==3)) (wln (cn H (fun m H=>?_) (fun m H=>?_))))))
 ·refine sr (vv (Qo b 6) (va (Qo b 9) (vx (le1 9 u_3 (e.on 0 rfl)) (va (I d.conj) (wln (W.ret (bkr (thr ?_))))))));obtain rfl:=si H;exact r1 (qq f ⟨e,rfl⟩)
 refine W.skip (bkn (nrm (sr (va (I 0) (wln (W.ret ?_))))));obtain rfl:=si H;exact r1 (qq f ⟨e,rfl⟩)
def cZ (p0:cD) (p1:ax):Option (cD×Bool):=
 if false=true then
 some (p0,false)
 else
 (cS p0 p1).bind fun d=>
 (cI p0 p1).bind fun e=>
 (cB p0 p1).bind fun f=>
 (bI (p1.Break==6) ((bI p0.some (some (p0.last==6))).bind fun b=>
 (bI b (some p0.odd)).bind fun c=>
 some (!c))).bind fun a=>
 some ((⟨true,p1.Break,e,f,a⟩:cD),d)
theorem ma {a:Nat} {r0_0:Value} {r0_1:Value} {r0_2:Value} {r0_3:Value} {r0_4:Value} {r0_5:Value} {r0_11:Value} (b:cD) (f:ax) (O0:Own c0 G ((Eb a 158 [r0_0,r0_1,r0_2,r0_3,r0_4,r0_5,B b.some,I b.last,I b.pict,I b.conj,B b.odd,r0_11]) :: F)) {r:cD×Bool} (H:cZ b f=some r): Calls prog 183 #[.pointer (some ⟨a,6,none⟩),.agg #[I f.Break,B f.Pict,I f.Conj,I f.East]] c0.w (aN c0 fun c v=>Own c G ((Eb a 158 [r0_0,r0_1,r0_2,r0_3,r0_4,r0_5,B r.1.some,I r.1.last,I r.1.pict,I r.1.conj,B r.1.odd,r0_11]) :: F)∧v=B r.2):=by
 unfold cZ at H;refine en func183 rfl rfl (sr (me (bx 33 [I f.Break,B f.Pict,I f.Conj,I f.East] O0) ?_));rintro v5 c4 l4 ⟨A,rfl,O2,o⟩;refine va (B false) (wln (W.seq (sr (va (Qo a 6) (va (B false) (wln (W.cond (t:=false) (by kernel_rfl) (fun E=>?_) (fun E=>?_))))))))
 ·cases E
 have H:=ie E H;refine W.skip (nrm (sr (va (Qo a 6) (vx (lN 33 o) (bn H fun i h8 H=>cl (lR b f O2 h8) ?_)))));rintro v14 j1 n1 ⟨P,rfl⟩;refine va (B i) (wln (W.seq (rD [] (Kp G0 []) P ?_)));intro i0 q1 R;have e2:Kp G0 [] i0:=Kp.nil0;refine ta 0 (.pointer (some ⟨a,6,none⟩)) (ta 1 (Qo a 6) (ta 2 (Qo a 6) (tx 3 (fun c' z=>lN 33 (mm o)) (ta 5 (Qo a 6) (tx 6 (fun c' z=>lN 33 (mm o)) (bn H fun d v0 H=>o1 4 (gc 4 (lj b f R v0) ?_)))))));rintro v25 j0 s1 ⟨S,rfl⟩;have y0:Kp G0 [] j0:=Kp.nil0;refine ⟨.inr y0,bn H fun e w0 H=>o1 7 (gc 7 (kU b f S w0) ?_)⟩;rintro v34 k0 t1 ⟨T,rfl⟩;have z0:Kp G0 [] k0:=Kp.nil0;refine ⟨.inr z0,ta 8 (.pointer (some ⟨a,6,none⟩)) (ta 9 (Qo a 8) (o1 10 (gD 10 (sC 3 8 (I d) [r0_0,r0_1,r0_2,r0_3,r0_4,r0_5,B b.some,I b.last,I d,I b.conj,B b.odd,r0_11] 0 T ⟨rfl,trivial⟩) ?_)))⟩;rintro l0 u1 U;have a1:Kp G0 [] l0:=Kp.nil0;refine ⟨.inr a1,ta 11 (.pointer (some ⟨a,6,none⟩)) (ta 12 (Qo a 9) (o1 13 (gD 13 (sC 3 9 (I e) [r0_0,r0_1,r0_2,r0_3,r0_4,r0_5,B b.some,I b.last,I d,I e,B b.odd,r0_11] 0 U ⟨rfl,trivial⟩) ?_)))⟩;rintro p v1 h;have c1:Kp G0 [] p:=Kp.nil0;refine ⟨.inr c1,dn (nrm (W.seq (bn H fun n s H=>W.join (Jn p fun c l=>Own c G ((Eb a 158 [r0_0,r0_1,r0_2,r0_3,r0_4,r0_5,B b.some,I b.last,I d,I e,B n,r0_11]) :: F)∧l= [(0,.pointer (some ⟨a,6,none⟩)),(3,Q A),(5,B i)]) ?_ ?_)))⟩
 ·clear H;refine W.region (va (Qo a 6) (va (Q A) (vx (l1 u_3 ((mm o) 0 _ rfl)) (va (B (f.Break==6)) ?_))));rcases bo (f.Break==6) with j | j
  ·have g:=anT j s;refine vb j (wa (Qo a 6) (wa (Qo a 6) (wa (Qo a 6) (wn (vx (le1 6 u_4 (h.on 0 rfl)) (wn (bn g fun h1 u g=>?_)))))));rcases bo (b.some) with k | k
   ·have M:=anT k u;refine vb k (wa (Qo a 6) (wa (Qo a 6) (wa (Qo a 7) (wn (vx (le1 7 u_3 (h.on 0 rfl)) (wa (B (b.last==6)) (wn ?_)))))));obtain rfl:=si M;refine va (B (b.last==6)) (wn (bn g fun D x g=>?_));rcases bo (b.last==6) with m | m
    ·have N:=anT m x;refine vb m (wa (Qo a 6) (wa (Qo a 6) (wa (Qo a 10) (wn (vx (le1 10 u_4 (h.on 0 rfl)) (wn ?_))))));obtain rfl:=si N;refine va (B b.odd) (wa (B (!b.odd)) ?_);obtain rfl:=si g;refine va (B (!b.odd)) (va (Qo a 6) (va (Qo a 10) (md (sC 4 10 (B (!b.odd)) [r0_0,r0_1,r0_2,r0_3,r0_4,r0_5,B b.some,I b.last,I d,I e,B (!b.odd),r0_11] 0 h ⟨rfl,trivial⟩) ?_)));rintro m0 w1 X;exact wln (jn m0 ⟨X,rfl⟩)
    obtain rfl:=anF m x;refine vb m (pz (pz (wa (B false) (wa (B (!false)) ?_))));obtain rfl:=si g;refine va (B (!false)) (va (Qo a 6) (va (Qo a 10) (md (sC 4 10 (B (!false)) [r0_0,r0_1,r0_2,r0_3,r0_4,r0_5,B b.some,I b.last,I d,I e,B (!false),r0_11] 0 h ⟨rfl,trivial⟩) ?_)));rintro o0 x1 Z;exact wln (jn o0 ⟨Z,rfl⟩)
   obtain rfl:=anF k u;refine vb k (pz (pz (ps (wa (B false) (wn (bn g fun D x0 g=>?_))))));have y:false=false:=rfl;obtain rfl:=anF y x0;refine vb y (pz (pz (wa (B false) (wa (B (!false)) ?_))));obtain rfl:=si g;refine va (B (!false)) (va (Qo a 6) (va (Qo a 10) (md (sC 4 10 (B (!false)) [r0_0,r0_1,r0_2,r0_3,r0_4,r0_5,B b.some,I b.last,I d,I e,B (!false),r0_11] 0 h ⟨rfl,trivial⟩) ?_)));rintro q0 y1 a0;exact wln (jn q0 ⟨a0,rfl⟩)
  obtain rfl:=anF j s;refine vb j (pz (pz (pz (pz (pz (pz (pz (pz (pz (va (B false) (va (Qo a 6) (va (Qo a 10) (md (sC 4 10 (B false) [r0_0,r0_1,r0_2,r0_3,r0_4,r0_5,B b.some,I b.last,I d,I e,B false,r0_11] 0 h ⟨rfl,trivial⟩) ?_)))))))))))));rintro s0 z1 b0;exact wln (jn s0 ⟨b0,rfl⟩)
 rintro e_ w_ ⟨k1,m1,_,rfl,a2,rfl,d0,rfl⟩;refine nrm (W.seq (rD [] (Kp G0 []) d0 ?_));intro t0 b2 e0;have f2:Kp G0 [] t0:=Kp.nil0;refine ta 0 (.pointer (some ⟨a,6,none⟩)) (ta 1 (Qo a 6) (ta 2 (Q A) (tx 3 (fun c' z=>l1 u_3 ((mm o) 0 _ rfl)) (ta 4 (Qo a 6) (ta 5 (Qo a 6) (o1 6 (gD 6 (sC 4 6 (B true) [r0_0,r0_1,r0_2,r0_3,r0_4,r0_5,B true,I b.last,I d,I e,B n,r0_11] 0 e0 ⟨rfl,trivial⟩) ?_)))))));rintro u0 c2 f0;have d1:Kp G0 [] u0:=Kp.nil0;refine ⟨.inr d1,ta 7 (.pointer (some ⟨a,6,none⟩)) (ta 8 (Qo a 7) (o1 9 (gD 9 (sC 3 7 (I f.Break) [r0_0,r0_1,r0_2,r0_3,r0_4,r0_5,B true,I f.Break,I d,I e,B n,r0_11] 0 f0 ⟨rfl,trivial⟩) ?_)))⟩;rintro q d2 g0;have e1:Kp G0 [] q:=Kp.nil0;refine ⟨.inr e1,dn (nrm (sr (vv (B i) (wln (W.ret ?_)))))⟩;obtain rfl:=si H;exact r1 (qq q ⟨g0,rfl⟩)
def dy (p0:cD):Option (cD):=
 if true=true then
 some (⟨false,0,0,0,false⟩:cD)
 else
 some p0
theorem lS {a:Nat} {r0_0:Value} {r0_1:Value} {r0_2:Value} {r0_3:Value} {r0_4:Value} {r0_5:Value} {r0_11:Value} (b:cD) (e:Own c0 G ((Eb a 158 [r0_0,r0_1,r0_2,r0_3,r0_4,r0_5,B b.some,I b.last,I b.pict,I b.conj,B b.odd,r0_11]) :: F)) {r:cD} (H:dy b=some r):
    Calls prog 111 #[.pointer (some ⟨a,6,none⟩)] c0.w (aN c0 fun c v=>Own c G ((Eb a 158 [r0_0,r0_1,r0_2,r0_3,r0_4,r0_5,B r.some,I r.last,I r.pict,I r.conj,B r.odd,r0_11]) :: F)∧v= .tuple #[]):=by
 unfold dy at H
 refine en func111 rfl rfl (sr (va (Qo a 6) (va (B true) (wln (W.cond (t:=true) (by kernel_rfl) (fun d=>?_) (fun d=>?_))))))
 ·have H:=it d H
  refine W.region (va (Qo a 6) (va (.agg #[B false,I 0,I 0,I 0,B false]) (va (Qo a 6) (md (sB 156 6 [B false,I 0,I 0,I 0,B false] [r0_0,r0_1,r0_2,r0_3,r0_4,r0_5,B false,I 0,I 0,I 0,B false,r0_11] 0 e ⟨rfl,rfl,rfl,rfl,rfl,trivial⟩) ?_))))
  rintro g h f
  refine WL.nil ?_
  obtain rfl:=si H
  exact n0 (qq g ⟨f,rfl⟩)
 cases d
def da (sg:Sto) (p0:Option Nat):Option (Sto):=
 if (!p0.isNone)=true then
 (p0).bind fun c=>
 (sg.feed_Feeder[c]?).bind fun a=>
 (sg.set_feed_Feeder c (⟨a.pen,a.dec,a.seg,(none:Option Nat)⟩:bB)).bind fun d=>
 (dy a.seg).bind fun e=>
 (d.set_feed_Feeder c (⟨a.pen,a.dec,e,(none:Option Nat)⟩:bB)).bind fun b=>
 some b
 else
 some sg
theorem jk (n:Own c0 G F) (i:Rel c0 sg G) (k:Option Nat) {r:Sto} (M:Pt 4 c0 v1 k) (H:da sg k=some r): Calls prog 40 #[v1] c0.w (aN c0 fun c v=>∃G_:Gm,Own c G_ (F)∧Rel c r G_∧v= .tuple #[]):=by
 unfold da at H;refine en func40 rfl rfl (sr (va (v1) (vr (B (!k.isNone)) (by rcases (M).cs with ⟨f,g⟩ | ⟨b_,f,g⟩ <;> (subst f; rw [g]; kernel_rfl)) (wln (cn H (fun T H=>?_) (fun T H=>?_))))))
 ·refine sr (va (v1) (bn H fun g0 U H=>?_));obtain ⟨d,rfl,j⟩:=(M).get U;refine va (Q d) (va (Qo d 11) (bn H fun a X H=>?_));obtain ⟨v8,v10,A,R,e0⟩:=Rel.open_feed_Feeder i X j;refine md (gC 44 11 (.pointer none) [v8,I a.dec.held,I a.dec.needs,.int .u8 a.dec.lo,.int .u8 a.dec.hi,I a.dec.bits,B a.seg.some,I a.seg.last,I a.seg.pict,I a.seg.conj,B a.seg.odd,.pointer none] 0 n A ⟨rfl,trivial⟩) ?_;rintro d0 e o;refine bn H fun S E H=>?_;obtain ⟨Z,p,x,D,a0⟩:=Rel.put_feed_Feeder o (i.mono e) (E':=[(Eb d 158 [v8,I a.dec.held,I a.dec.needs,.int .u8 a.dec.lo,.int .u8 a.dec.hi,I a.dec.bits,B a.seg.some,I a.seg.last,I a.seg.pict,I a.seg.conj,B a.seg.odd,.pointer none])]) E ⟨d,v8,(.pointer none),(tm j),rfl,(R.mono e),rfl⟩;refine wln (W.region (vv (Q d) (va (Qo d 6) ?_)));have q:=p.borrow 0 D rfl;refine bn H fun b N H=>cl (lS a.seg q N) ?_;rintro v29 z h ⟨s,rfl⟩;have t:=s.giveB 0 rfl;refine bn H fun l P H=>?_;obtain ⟨m,u,y,f0,b0⟩:=Rel.put_feed_Feeder t (x.mono h) (E':=[(Eb d 158 [v8,I a.dec.held,I a.dec.needs,.int .u8 a.dec.lo,.int .u8 a.dec.hi,I a.dec.bits,B b.some,I b.last,I b.pict,I b.conj,B b.odd,.pointer none])]) P ⟨d,v8,(.pointer none),(tm j),rfl,(R.mono (e.trans h)),rfl⟩;refine WL.nil ?_;obtain rfl:=si H;exact n0 (qq z ⟨m,u,y,rfl⟩)
 refine W.skip ?_;obtain rfl:=si H;exact n0 (qq c0 ⟨G,n,i,rfl⟩)
def gH (sg:Sto) (p0:Option Nat) (p1:Int):Option (Sto):=
 (jv p1).bind fun s=>
 if s=true then
 (da sg p0).bind fun k=>
 (p0).bind fun r=>
 (k.feed_Feeder[r]?).bind fun n=>
 (oJ k n.pen p1).bind fun p=>
 some p.1
 else
 (qx p1).bind fun e=>
 (p0).bind fun h=>
 (sg.feed_Feeder[h]?).bind fun a=>
 (cZ a.seg e).bind fun j=>
 (sg.set_feed_Feeder h (⟨a.pen,a.dec,j.1,a.open_⟩:bB)).bind fun b=>
 (bI j.2 (some (!a.open_.isNone))).bind fun l=>
 if l=true then
 (p0).bind fun m=>
 (b.feed_Feeder[m]?).bind fun i=>
 (dC b i.open_ i.pen p1 e).bind fun q=>
 some q.1
 else
 (p0).bind fun c=>
 (b.feed_Feeder[c]?).bind fun o=>
 (kP b o.pen p1 e).bind fun f=>
 (f.1.feed_Feeder[c]?).bind fun d=>
 (f.1.set_feed_Feeder c (⟨d.pen,d.dec,d.seg,f.2⟩:bB)).bind fun g=>
 some g
theorem rB (O0:Own c0 G F) (R0:Rel c0 sg G) (hG:Gl [0,4] c0) (p0:Option Nat) (f:Int) {r:Sto} (U:Pt 4 c0 v1 p0) (H:gH sg p0 f=some r): Calls prog 109 #[v1,J f] c0.w (aN c0 fun c v=>∃G_:Gm,Own c G_ (F)∧Rel c r G_∧v= .tuple #[]):=by
 unfold gH at H;refine en func109 rfl rfl (W.seq (sr (va (J f) (bn H fun e5 h3 H=>cl (qT O0 f h3) ?_))));rintro v9 c8 N ⟨O5,rfl⟩;refine wln (cn H (fun w2 H=>?_) (fun w2 H=>?_))
 ·refine sr (va (v1) (bn H fun f5 x2 H=>cl (jk O5 R0.m p0 U.m x2) ?_));rintro v17 t4 l16 ⟨r4,g0,j0,rfl⟩;refine wln (sr (va (v1) (bn H fun z4 z2 H=>?_)));obtain ⟨l0,rfl,y2⟩:=((U.mono (N.trans l16))).get z2;refine vv (Q l0) (bn H fun z1 a3 H=>?_);obtain ⟨v22,v24,c3,b3,y4⟩:=Rel.open_feed_Feeder j0 a3 y2;refine vx (le1 0 yg (g0.gon c3 0 rfl)) (va (J f) (bn H fun o4 d3 H=>cl (B5 g0 j0 z1.pen f b3 d3) ?_));rintro v33 s2 a5 ⟨d2,g2,q2,rfl⟩;refine wln (W.ret (thr ?_));obtain rfl:=si H;exact r0 (qq s2 ⟨d2,g2,q2,rfl⟩)
 refine W.skip (nrm (sr (va (J f) (bn H fun a e3 H=>cl (Dz O5 f e3) ?_))));rintro v40 u4 s ⟨i2,rfl⟩;refine me (al 33 [I 0,B false,I 0,I 0] i2) ?_;rintro v44 v4 t ⟨h,rfl,j2⟩;refine md (sA 33 [I a.Break,B a.Pict,I a.Conj,I a.East] 0 j2 ⟨rfl,rfl,rfl,rfl,trivial⟩) ?_;rintro t2 u k2;refine wln (W.seq (W.seq (bn H fun e4 f3 H=>bn H fun d g3 H=>bn H fun g i3 H=>bn H fun P j3 H=>bn H fun k1 s0 H=>W.join (Jn t2 fun c l=>∃G_,Own c G_ ((Eb h 33 [I a.Break,B a.Pict,I a.Conj,I a.East]) :: F)∧l= [(0,v1),(1,J f),(4,Q h),(28,B k1)]∧Rel c P G_) ?_ ?_)))
 ·clear H;refine rD [4,9] (Kp G0 [(Eb h 33 [I a.Break,B a.Pict,I a.Conj,I a.East])]) k2 ?_;intro u2 Z h0;have v3:Kp G0 [(Eb h 33 [I a.Break,B a.Pict,I a.Conj,I a.East])] u2:=(Kp.cons (h0.on 0 rfl) Kp.nil0);refine ta 0 (v1) ?_;obtain ⟨j,rfl,t0⟩:=((U.mono (N.trans (s.trans (t.trans (u.trans Z)))))).get f3;refine ta 1 (Q j) (ta 2 (Qo j 6) (tkx 3 v3 (fun p i k=>leN 33 0 [I a.Break,B a.Pict,I a.Conj,I a.East] (k.on 0 rfl)) ?_));obtain ⟨v57,v59,l3,k3,u0⟩:=Rel.open_feed_Feeder (R0.mono (N.trans (s.trans (t.trans (u.trans Z))))) g3 t0;have m2:=h0.borrow 0 l3 rfl;refine o1 4 (gc 4 (ma d.seg a m2 i3) ?_);rintro b5 m0 a0 ⟨n2,rfl⟩;have o2:=n2.giveB 0 rfl;obtain ⟨f0,R,k0,m3,s4⟩:=Rel.put_feed_Feeder o2 (R0.mono (N.trans (s.trans (t.trans (u.trans (Z.trans a0)))))) (E':=[(Eb j 158 [v57,I d.dec.held,I d.dec.needs,.int .u8 d.dec.lo,.int .u8 d.dec.hi,I d.dec.bits,B g.1.some,I g.1.last,I g.1.pict,I g.1.conj,B g.1.odd,v59])]) j3 ⟨j,v57,v59,(tm t0),rfl,(k3.mono a0),(u0.mono a0)⟩;refine ⟨.inl rfl,?_⟩;rcases bo (g.2) with q | q
  ·have f2:=anT q s0;refine AC.takeb 5 q rfl (by kernel_rfl) (by kernel_rfl) (fun p i=>(by kernel_rfl)) (ta 6 (Q j) (ta 7 (Q j) (ta 8 (Qo j 11) (o1 9 (gl 9 (le1 11 underlying44 (R.gon m3 0 rfl)) (AC.take 10 (B (!d.open_.isNone)) rfl (by kernel_rfl) (by kernel_rfl) (fun p i=>(by rcases u0.m.cs with ⟨o0,q0⟩ | ⟨b_,o0,q0⟩ <;> (subst o0; rw [q0]; kernel_rfl))) ?_))))));obtain rfl:=si f2;exact ta 11 (B (!d.open_.isNone)) (dn (nrm (jn m0 ⟨f0,R,rfl,k0⟩)))
  obtain rfl:=anF q s0;exact AC.takeb 5 q rfl (by kernel_rfl) (by kernel_rfl) (fun p i=>(by kernel_rfl)) (tp 6 (tp 7 (tp 8 (tp 9 (tp 10 (ta 11 (B false) (dn (nrm (jn m0 ⟨f0,R,rfl,k0⟩)))))))))
 rintro e_ w_ ⟨w4,x4,_,rfl,w0,rfl,E,i0,rfl,M⟩;refine nrm (cn H (fun n3 H=>?_) (fun n3 H=>?_))
 ·refine W.seq (rD [10] (Kp E [(Eb h 33 [I a.Break,B a.Pict,I a.Conj,I a.East])]) i0 ?_);intro v2 x0 S;have e0:Kp E [(Eb h 33 [I a.Break,B a.Pict,I a.Conj,I a.East])] v2:=(Kp.cons (S.on 0 rfl) (Kp.nil S));refine ta 0 (v1) (bn H fun f4 p3 H=>?_);obtain ⟨o,rfl,o3⟩:=((U.mono (N.trans (s.trans (t.trans (u.trans (w0.trans x0))))))).get p3;refine ta 1 (Q o) (ta 2 (Qo o 11) (bn H fun b0 q3 H=>?_));obtain ⟨c5,d5,v0,s3,t3⟩:=Rel.open_feed_Feeder (M.mono x0) q3 o3;refine tkx 3 e0 (fun p i k=>le1 11 underlying44 (k.gon v0 0 rfl)) (ta 4 (Q o) (ta 5 (Q o) (ta 6 (Q o) (tkx 7 e0 (fun p i k=>le1 0 yg (k.gon v0 0 rfl)) (ta 8 (J f) (tkx 9 e0 (fun p i k=>leN 33 0 [I a.Break,B a.Pict,I a.Conj,I a.East] (k.on 0 rfl)) (bn H fun p4 u3 H=>o1 10 (gc 10 (qB S M.m (hG.m.le (by decide)) b0.open_ b0.pen f a t3 s3 u3) ?_))))))));rintro j4 h1 h4 ⟨e2,p2,f1,rfl⟩;refine ⟨.inl rfl,dn (nrm (W.ret (thr ?_)))⟩;obtain rfl:=si H;have z0:=p2.sD 1 [];exact r0 (qq h1 ⟨e2,z0,f1,rfl⟩)
 refine W.skip (nrm (rD [7,10] (Kp E [(Eb h 33 [I a.Break,B a.Pict,I a.Conj,I a.East])]) i0 ?_));intro i1 X x;have d0:Kp E [(Eb h 33 [I a.Break,B a.Pict,I a.Conj,I a.East])] i1:=(Kp.cons (x.on 0 rfl) (Kp.nil x));refine ta 0 (v1) (ta 1 (v1) (bn H fun g4 m1 H=>?_));obtain ⟨e,rfl,y⟩:=((U.mono (N.trans (s.trans (t.trans (u.trans (w0.trans X))))))).get m1;refine ta 2 (Q e) (ta 3 (Q e) (bn H fun a2 n1 H=>?_));obtain ⟨k4,l4,s1,q1,a4⟩:=Rel.open_feed_Feeder (M.mono X) n1 y;refine tkx 4 d0 (fun p i k=>le1 0 yg (k.gon s1 0 rfl)) (ta 5 (J f) (tkx 6 d0 (fun p i k=>leN 33 0 [I a.Break,B a.Pict,I a.Conj,I a.East] (k.on 0 rfl)) (bn H fun q4 t1 H=>o1 7 (gc 7 (wo x M.m (hG.m.le (by decide)) a2.pen f a q1 t1) ?_))));rintro m4 z3 i4 ⟨_,w3,a1,T,rfl,z⟩;refine ⟨.inl rfl,ta 8 (Q e) (ta 9 (Qo e 11) ?_)⟩;obtain ⟨n,rfl⟩:=(z).form;refine bn H fun b u1 H=>?_;obtain ⟨D,n4,x1,w1,b4⟩:=Rel.open_feed_Feeder T u1 (tm y);refine o1 10 (gD 10 (gC 44 11 (.pointer n) [D,I b.dec.held,I b.dec.needs,.int .u8 b.dec.lo,.int .u8 b.dec.hi,I b.dec.bits,B b.seg.some,I b.seg.last,I b.seg.pict,I b.seg.conj,B b.seg.odd,.pointer n] 0 a1 x1 ⟨z.one,trivial⟩) ?_);rintro j1 A b1;refine bn H fun c2 y1 H=>?_;obtain ⟨y0,c1,g1,c4,y3⟩:=Rel.put_feed_Feeder b1 (T.mono A) (E':=[(Eb e 158 [D,I b.dec.held,I b.dec.needs,.int .u8 b.dec.lo,.int .u8 b.dec.hi,I b.dec.bits,B b.seg.some,I b.seg.last,I b.seg.pict,I b.seg.conj,B b.seg.odd,.pointer n])]) y1 ⟨e,D,(.pointer n),(tm y),rfl,(w1.mono A),(z.mono A)⟩;refine ⟨.inl rfl,dn ?_⟩;obtain rfl:=si H;have d1:=c1.sD 1 [];exact n0 (qq j1 ⟨y0,d1,g1,rfl⟩)
def go (sg:Sto) (p0:Option Nat) (p1:List Int):Option (Sto):=
 (cE (σ:=Int×Sto) (τ:=Sto) (((p1.length:Int) - 0).toNat+1) (fun a=>
 if (decide (a.1 < (p1.length:Int)))=true then
 (idx p1 a.1).bind fun d=>
 (gH a.2 p0 d).bind fun b=>
 some (.inl ((w64 (a.1+1)),b))
 else
 some (.inr (a.2))) (0,sg)).bind fun c=>
 some c
theorem nP (S:Own c0 G F) (T:Rel c0 sg G) (hG:Gl [0,4] c0) (j:Option Nat) (d:List Int) {r:Sto} (Z:Pt 4 c0 v1 j) (h:Sl (RI .i32) c0 v3 d) (H:go sg j d=some r): Calls prog 106 #[v1,v3] c0.w (aN c0 fun c v=>∃G_:Gm,Own c G_ (F)∧Rel c r G_∧v= .tuple #[]):=by
 unfold go at H;refine en func106 rfl rfl (sr (va (v3) (vx (ln 3 dh h) (va (I 0) (wln (W.block (bn H fun i0 N p=>lp N (fun a=>Jn c0 fun c l=>∃G_,Own c G_ (F)∧l= [(0,v1),(6,v3),(7,I (d.length:Int)),(8,I a.1)]∧Rel c a.2 G_) (fun i ex e w=>ex= .exit 0∧(Jn c0 fun c l=>∃G_,Own c G_ (F)∧l= []∧Rel c i G_) e w) ?_ ?_ ?_)))))))
 ·clear p N;intro a j0 A R H;revert A R;rintro X w_ ⟨U,g8,_,rfl,l7,rfl,k,t,rfl,f⟩;refine sr (va (B (decide (a.1 < (d.length:Int)))) (wln (W.seq (cn H (fun D H=>?_) (fun D H=>?_)))))
  ·refine W.skip (nrm (W.seq (W.block (sr (bn H fun b g H=>?_)))));obtain ⟨b0,E,P⟩:=Sl.at (h.mono l7) (aT g);obtain rfl:=E;refine vx (ix dh h.m g) (vx (l1 mC (P 0 _ rfl)) (va (J b) (wln (W.region (va (v1) (va (J b) (bn H fun e0 M H=>cl (rB t f (hG.m.le (by decide)) j b Z.m M) ?_)))))));rintro v24 y g0 ⟨n,q,u,rfl⟩;refine WL.nil (bkn (nrm (W.region (vv (I (w64 (a.1+1))) (WL.nil ?_)))));obtain rfl:=si H;exact ⟨_,rfl,jn y ⟨n,q,rfl,u⟩⟩
  refine W.exit (thx ?_);obtain rfl:=si H;exact ⟨_,rfl,rfl,jn U ⟨k,t,rfl,f⟩⟩
 ·exact jn c0 ⟨G,S,rfl,T⟩
 rintro _ X w_ ⟨rfl,z,f0,_,rfl,h0,rfl,o,s,rfl,x⟩;refine bke ?_;obtain rfl:=si p;exact n0 (qq z ⟨o,s,x,rfl⟩)
def cf (p0:bA):Option (Int):=
 if false=true then
 some 0
 else
 some p0.held
theorem iY {b:Nat} {r0_0:Value} {r0_6:Value} {r0_7:Value} {r0_8:Value} {r0_9:Value} {r0_10:Value} {r0_11:Value} (a:bA) (e:Own c0 G ((Eb b 158 [r0_0,I a.held,I a.needs,.int .u8 a.lo,.int .u8 a.hi,I a.bits,r0_6,r0_7,r0_8,r0_9,r0_10,r0_11]) :: F)) {r:Int} (H:cf a=some r): Calls prog 112 #[.pointer (some ⟨b,1,none⟩)] c0.w (aN c0 fun c v=>Own c G ((Eb b 158 [r0_0,I a.held,I a.needs,.int .u8 a.lo,.int .u8 a.hi,I a.bits,r0_6,r0_7,r0_8,r0_9,r0_10,r0_11]) :: F)∧v=I r):=by
 unfold cf at H;refine en func112 rfl rfl (sr (va (I 0) (wln (W.seq (sr (va (Qo b 1) (va (B false) (wln (W.cond (t:=false) (by kernel_rfl) (fun d=>?_) (fun d=>?_))))))))))
 ·cases d
 have H:=ie d H;refine W.skip (nrm (sr (vv (Qo b 1) (va (Qo b 1) (vx (le1 1 u_3 (e.on 0 rfl)) (va (I a.held) (wln (W.ret ?_))))))));obtain rfl:=si H;exact r1 (qq c0 ⟨e,rfl⟩)
def bK (p0:bA):Option (bA×(List Int)):=
 (cf p0).bind fun a=>
 if (a==0)=true then
 some (p0,([]:List Int))
 else
 some ((⟨0,0,0,0,0⟩:bA),([65533]:List Int))
theorem iN {a:Nat} {r0_0:Value} {r0_6:Value} {r0_7:Value} {r0_8:Value} {r0_9:Value} {r0_10:Value} {r0_11:Value} (b:bA) (q:Own c0 G ((Eb a 158 [r0_0,I b.held,I b.needs,.int .u8 b.lo,.int .u8 b.hi,I b.bits,r0_6,r0_7,r0_8,r0_9,r0_10,r0_11]) :: F)) {r:bA×(List Int)} (H:bK b=some r): Calls prog 110 #[.pointer (some ⟨a,1,none⟩)] c0.w (aN c0 fun c v=>∃d p,Own c G (es true (RI .i32) d 21 p r.2 :: (Eb a 158 [r0_0,I r.1.held,I r.1.needs,.int .u8 r.1.lo,.int .u8 r.1.hi,I r.1.bits,r0_6,r0_7,r0_8,r0_9,r0_10,r0_11]) :: F)∧v=d∧OA (RI .i32) c d p r.2):=by
 unfold bK at H;refine en func110 rfl rfl (sr (va (Y) (wln (W.seq (sr (va (Qo a 1) (bn H fun o s H=>cl (iY b q s) ?_)))))));rintro v8 k z ⟨i,rfl⟩;refine va (B (o==0)) (wln (cn H (fun t H=>?_) (fun t H=>?_)))
 ·refine sr (va (Y) (wln (W.ret (thr ?_))));obtain rfl:=si H;have l:OA (RI .i32) k (Y) [] []:=OA.nil (aM _);have f:=i.addHole (e:=es true (RI .i32) (Y) 21 [] ([]:List Int)) rfl;exact r1 (qq k ⟨(Y),[],f,rfl,l⟩)
 refine W.skip (nrm (sr (va (Qo a 1) (va (.agg #[I 0,I 0,.int .u8 0,.int .u8 0,I 0]) (va (Qo a 1) (md (sB 154 1 [I 0,I 0,.int .u8 0,.int .u8 0,I 0] [r0_0,I 0,I 0,.int .u8 0,.int .u8 0,I 0,r0_6,r0_7,r0_8,r0_9,r0_10,r0_11] 0 i ⟨rfl,rfl,rfl,rfl,rfl,trivial⟩) ?_))))));rintro u x g;refine wln (sr (me (sl (RI .i32) 21 [[J 65533]] ([65533]:List Int) g ⟨rfl,trivial⟩) ?_));rintro v18 j y ⟨n,h,m⟩;refine va (v18) (wln (W.ret ?_));obtain rfl:=si H;exact r1 (qq j ⟨v18,n,h,rfl,m⟩)
def jE (p0:Int):Option (Int):=
 ((bI (decide (p0≥240)) (some (decide (p0≤244)))).bind fun a=>
 if a=true then
 some ((w64 ((w64 ((w64 ((w64 (0+1))+1))+1))+1)))
 else
 (bI (decide (p0≥224)) (some (decide (p0 < 240)))).bind fun b=>
 if b=true then
 some ((w64 ((w64 ((w64 (0+1))+1))+1)))
 else
 (bI (decide (p0≥194)) (some (decide (p0 < 224)))).bind fun c=>
 if c=true then
 some ((w64 ((w64 (0+1))+1)))
 else
 if (decide (p0 < 128))=true then
 some ((w64 (0+1)))
 else
 some (0)).bind fun d=>
 some d
theorem pu (A:Own c0 G F) (a:Int) {r:Int} (H:jE a=some r): Calls prog 222 #[.int .u8 a] c0.w (aN c0 fun c v=>Own c G (F)∧v=I r):=by
 unfold jE at H;refine en func222 rfl rfl (sr (va (I 0) (wln (sr (va (I 0) (wln (bn H fun k b T=>W.seqJ (Jn c0 fun c l=>Own c G (F)∧l= [(3,I k)]) ?_ ?_)))))))
 ·refine W.block (W.seq (W.block (W.seq (W.block (W.seq (W.block (W.seq (W.block (W.seq (W.seq (W.seq (bn b fun q P b=>W.join (Jn c0 fun c l=>Own c G (F)∧l= [(0,.int .u8 a),(3,I 0),(4,B q)]) ?_ ?_))))))))))))
  ·clear b;refine W.region (va (.int .u8 a) (va (B (decide (a≥240))) ?_));rcases bo (decide (a≥240)) with j | j
   ·have U:=anT j P;refine vb j (wa (.int .u8 a) (wa (B (decide (a≤244))) ?_));obtain rfl:=si U;exact vv (B (decide (a≤244))) (wln (jn c0 ⟨A,rfl⟩))
   obtain rfl:=anF j P;exact vb j (pz (vv (B false) (wln (jn c0 ⟨A,rfl⟩))))
  rintro u x ⟨m,g7,_,rfl,l6,rfl,p,rfl⟩;refine nrm (cn b (fun M b=>?_) (fun M b=>?_))
  ·refine W.exit (thx (thx (bke (nrm (W.region (va (I 0) (vv (I (w64 (0+1))) (WL.nil (bkn (nrm (W.region (va (I (w64 (0+1))) (vv (I (w64 ((w64 (0+1))+1))) (WL.nil (bkn (nrm (W.region (va (I (w64 ((w64 (0+1))+1))) (vv (I (w64 ((w64 ((w64 (0+1))+1))+1))) (WL.nil (bkn (nrm (sr (va (I (w64 ((w64 ((w64 (0+1))+1))+1))) (vv (I (w64 ((w64 ((w64 ((w64 (0+1))+1))+1))+1))) (wln (W.exit (bke (nrm ?_)))))))))))))))))))))))))))));obtain rfl:=si b;exact jn m ⟨p,rfl⟩
  refine W.skip (nrm (W.seq (W.seq (bn b fun s n b=>W.join (Jn m fun c l=>Own c G (F)∧l= [(0,.int .u8 a),(3,I 0),(11,B s)]) ?_ ?_))))
  ·clear b;refine W.region (va (.int .u8 a) (va (B (decide (a≥224))) ?_));rcases bo (decide (a≥224)) with d | d
   ·have y:=anT d n;refine vb d (wa (.int .u8 a) (wa (B (decide (a < 240))) ?_));obtain rfl:=si y;exact vv (B (decide (a < 240))) (wln (jn m ⟨p,rfl⟩))
   obtain rfl:=anF d n;exact vb d (pz (vv (B false) (wln (jn m ⟨p,rfl⟩))))
  rintro u x ⟨f,X,_,rfl,l16,rfl,g,rfl⟩;refine nrm (cn b (fun N b=>?_) (fun N b=>?_))
  ·refine W.exit (thx (thx (bko rfl (thx (bke (nrm (W.region (va (I 0) (vv (I (w64 (0+1))) (WL.nil (bkn (nrm (W.region (va (I (w64 (0+1))) (vv (I (w64 ((w64 (0+1))+1))) (WL.nil (bkn (nrm (sr (va (I (w64 ((w64 (0+1))+1))) (vv (I (w64 ((w64 ((w64 (0+1))+1))+1))) (wln (W.exit (bke (nrm ?_)))))))))))))))))))))))));obtain rfl:=si b;exact jn f ⟨g,rfl⟩
  refine W.skip (nrm (W.seq (W.seq (bn b fun t o b=>W.join (Jn f fun c l=>Own c G (F)∧l= [(0,.int .u8 a),(3,I 0),(18,B t)]) ?_ ?_))))
  ·clear b;refine W.region (va (.int .u8 a) (va (B (decide (a≥194))) ?_));rcases bo (decide (a≥194)) with e | e
   ·have z:=anT e o;refine vb e (wa (.int .u8 a) (wa (B (decide (a < 224))) ?_));obtain rfl:=si z;exact vv (B (decide (a < 224))) (wln (jn f ⟨g,rfl⟩))
   obtain rfl:=anF e o;exact vb e (pz (vv (B false) (wln (jn f ⟨g,rfl⟩))))
  rintro u x ⟨i,Z,_,rfl,b0,rfl,h,rfl⟩;refine nrm (cn b (fun R b=>?_) (fun R b=>?_))
  ·refine W.exit (thx (thx (bko rfl (thx (bko rfl (thx (bke (nrm (W.region (va (I 0) (vv (I (w64 (0+1))) (WL.nil (bkn (nrm (sr (va (I (w64 (0+1))) (vv (I (w64 ((w64 (0+1))+1))) (wln (W.exit (bke (nrm ?_)))))))))))))))))))));obtain rfl:=si b;exact jn i ⟨h,rfl⟩
  refine W.skip (nrm (sr (va (.int .u8 a) (vv (B (decide (a < 128))) (wln (cn b (fun S b=>?_) (fun S b=>?_)))))))
  ·refine W.exit (thx (bko rfl (thx (bko rfl (thx (bko rfl (thx (bke (nrm (sr (va (I 0) (vv (I (w64 (0+1))) (wln (W.exit (bke (nrm ?_))))))))))))))));obtain rfl:=si b;exact jn i ⟨h,rfl⟩
  refine W.skip (nrm (W.exit (bko rfl (thx (bko rfl (thx (bko rfl (thx (bko rfl (thx (bke (nrm ?_))))))))))));obtain rfl:=si b;exact jn i ⟨h,rfl⟩
 rintro u x ⟨E,a0,_,rfl,d0,rfl,D,rfl⟩;refine sr (vv (I k) (wln (W.ret ?_)));obtain rfl:=si T;exact r1 (qq E ⟨D,rfl⟩)
def lK (p0:Int):Option (Int):=
 (jE p0).bind fun a=>
 if (a==0)=true then
 some 0
 else
 if (a==1)=true then
 some (w64 p0)
 else
 (shn (w64 (7 - a))).bind fun b=>
 some (kO .i64 (w64 p0) (w64 ((w64 (1 * 2 ^ (min b 64))) - 1)))
theorem xH (j:Own c0 G F) (e:Int) {r:Int} (H:lK e=some r): Calls prog 223 #[.int .u8 e] c0.w (aN c0 fun c v=>Own c G (F)∧v=I r):=by
 unfold lK at H;refine en func223 rfl rfl (sr (va (I 0) (wln (sr (va (.int .u8 e) (bn H fun d k H=>cl (pu j e k) ?_))))));rintro v7 h n ⟨g,rfl⟩;refine va (I d) (wln (sr (va (I d) (wln (W.block (sr (vv (B (d==0)) (wln (cn H (fun l H=>?_) (fun l H=>?_))))))))))
 ·refine sr (va (I 0) (wln (W.ret (bkr ?_))));obtain rfl:=si H;exact r1 (qq h ⟨g,rfl⟩)
 refine sr (vv (B (d==1)) (wln (cn H (fun m H=>?_) (fun m H=>?_))))
 ·refine sr (va (.int .u8 e) (vv (I (w64 e)) (wln (W.ret (bkr ?_)))));obtain rfl:=si H;exact r1 (qq h ⟨g,rfl⟩)
 refine sr (va (.int .u8 e) (va (I (w64 e)) (va (I d) (va (I (w64 (7 - d))) (bn H fun f i H=>vr (I (w64 (1 * 2 ^ (min f 64)))) (Ea (k':= .i64) (a:=1) (b:=(w64 (7 - d))) i (by kernel_rfl) _) (va (I (w64 ((w64 (1 * 2 ^ (min f 64))) - 1))) (vv (I (kO .i64 (w64 e) (w64 ((w64 (1 * 2 ^ (min f 64))) - 1)))) (wln (W.ret (bkr ?_))))))))));obtain rfl:=si H;exact r1 (qq h ⟨g,rfl⟩)
def kh (p0:Int):Option (Int×Int):=
 (jE p0).bind fun b=>
 if (decide (b < 2))=true then
 some (0,0)
 else
 (if (p0==224)=true then
 some (160,191)
 else
 if (p0==240)=true then
 some (144,191)
 else
 if (p0==244)=true then
 some (128,(IntKind.u8.wrap ((IntKind.u8.wrap (191 - 16)) - 32)))
 else
 if (p0==237)=true then
 some (128,(IntKind.u8.wrap (191 - 32)))
 else
 some (128,191)).bind fun a=>
 some (a.1,a.2)
theorem vM (p:Own c0 G F) (b:Int) {r:Int×Int} (H:kh b=some r): Calls prog 224 #[.int .u8 b] c0.w (aN c0 fun c v=>Own c G (F)∧v= .tuple #[.int .u8 r.1,.int .u8 r.2]):=by
 unfold kh at H;refine en func224 rfl rfl (sr (vv (.int .u8 0) (wln (W.seq (sr (va (.int .u8 b) (bn H fun o q H=>cl (pu p b q) ?_)))))));rintro v7 e y ⟨f,rfl⟩;refine va (B (decide (o < 2))) (wln (cn H (fun s H=>?_) (fun s H=>?_)))
 ·refine sr (vv (.int .u8 0) (wln (W.ret (thr ?_))));obtain rfl:=si H;exact r2 (qq e ⟨f,rfl⟩)
 refine W.skip (nrm (sr (va (.int .u8 128) (va (.int .u8 191) (wln (bn H fun d a g=>W.seqJ (Jn e fun c l=>Own c G (F)∧l= [(2,.int .u8 d.1),(3,.int .u8 d.2)]) ?_ ?_))))))
 ·refine sr (va (.int .u8 b) (wln (W.block (W.seq (W.block (W.seq (W.block (W.seq (W.block (W.seq (W.block (W.seq (W.seq (sr (vv (B (b==224)) (wln (cn a (fun j a=>?_) (fun j a=>?_))))))))))))))))))
  ·refine W.exit (thx (thx (bke (nrm (sr (va (.int .u8 160) (wln (W.exit (bko rfl (thx (bko rfl (thx (bko rfl (thx (bke (nrm ?_))))))))))))))));obtain rfl:=si a;exact jn e ⟨f,rfl⟩
  refine W.skip (nrm (W.seq (sr (vv (B (b==240)) (wln (cn a (fun k a=>?_) (fun k a=>?_)))))))
  ·refine W.exit (thx (thx (bko rfl (thx (bke (nrm (sr (va (.int .u8 144) (wln (W.exit (bko rfl (thx (bko rfl (thx (bke (nrm ?_))))))))))))))));obtain rfl:=si a;exact jn e ⟨f,rfl⟩
  refine W.skip (nrm (W.seq (sr (vv (B (b==244)) (wln (cn a (fun m a=>?_) (fun m a=>?_)))))))
  ·refine W.exit (thx (thx (bko rfl (thx (bko rfl (thx (bke (nrm (W.region (va (.int .u8 191) (vv (.int .u8 (IntKind.u8.wrap (191 - 16))) (WL.nil (bkn (nrm (sr (va (.int .u8 (IntKind.u8.wrap (191 - 16))) (vv (.int .u8 (IntKind.u8.wrap ((IntKind.u8.wrap (191 - 16)) - 32))) (wln (W.exit (bke (nrm ?_)))))))))))))))))))));obtain rfl:=si a;exact jn e ⟨f,rfl⟩
  refine W.skip (nrm (sr (vv (B (b==237)) (wln (cn a (fun n a=>?_) (fun n a=>?_))))))
  ·refine W.exit (thx (bko rfl (thx (bko rfl (thx (bko rfl (thx (bke (nrm (sr (va (.int .u8 191) (vv (.int .u8 (IntKind.u8.wrap (191 - 32))) (wln (W.exit (bke (nrm ?_))))))))))))))));obtain rfl:=si a;exact jn e ⟨f,rfl⟩
  refine W.skip (nrm (W.exit (bko rfl (thx (bko rfl (thx (bko rfl (thx (bko rfl (thx (bke (nrm ?_))))))))))));obtain rfl:=si a;exact jn e ⟨f,rfl⟩
 rintro x z ⟨i,t,_,rfl,u,rfl,h,rfl⟩;refine sr (va (.int .u8 d.1) (va (.int .u8 d.2) (va (.int .u8 d.1) (va (.int .u8 d.2) (wln (W.ret ?_))))));obtain rfl:=si g;exact r2 (qq i ⟨h,rfl⟩)
def ct (p0:bA) (p1:Int):Option (bA×(List Int)):=
 (jE p1).bind fun a=>
 if (a==0)=true then
 some (p0,([65533]:List Int))
 else
 if (a==1)=true then
 some (p0,([(w32 p1)]:List Int))
 else
 (lK p1).bind fun c=>
 (kh p1).bind fun b=>
 some ((⟨1,(w64 (a - 1)),b.1,b.2,c⟩:bA),([]:List Int))
theorem iM {a:Nat} {r0_0:Value} {r0_6:Value} {r0_7:Value} {r0_8:Value} {r0_9:Value} {r0_10:Value} {r0_11:Value} (f:bA) (g:Int) (T:Own c0 G ((Eb a 158 [r0_0,I f.held,I f.needs,.int .u8 f.lo,.int .u8 f.hi,I f.bits,r0_6,r0_7,r0_8,r0_9,r0_10,r0_11]) :: F)) {r:bA×(List Int)} (H:ct f g=some r): Calls prog 179 #[.pointer (some ⟨a,1,none⟩),.int .u8 g] c0.w (aN c0 fun c v=>∃k S,Own c G (es true (RI .i32) k 21 S r.2 :: (Eb a 158 [r0_0,I r.1.held,I r.1.needs,.int .u8 r.1.lo,.int .u8 r.1.hi,I r.1.bits,r0_6,r0_7,r0_8,r0_9,r0_10,r0_11]) :: F)∧v=k∧OA (RI .i32) c k S r.2):=by
 unfold ct at H;refine en func179 rfl rfl (sr (va (Y) (wln (W.seq (sr (va (.int .u8 g) (bn H fun b X H=>cl (pu T g X) ?_)))))));rintro v7 c6 l6 ⟨j,rfl⟩;refine va (I b) (wln (sr (va (I b) (wln (W.block (sr (vv (B (b==0)) (wln (cn H (fun Z H=>?_) (fun Z H=>?_))))))))))
 ·refine sr (me (sl (RI .i32) 21 [[J 65533]] ([65533]:List Int) j ⟨rfl,trivial⟩) ?_);rintro v13 x h0 ⟨P,U,z⟩;refine va (v13) (wln (W.ret (bkr (thr ?_))));obtain rfl:=si H;exact r1 (qq x ⟨v13,P,U,rfl,z⟩)
 refine sr (vv (B (b==1)) (wln (cn H (fun A H=>?_) (fun A H=>?_))))
 ·refine sr (va (.int .u8 g) (va (J (w32 g)) (me (sl (RI .i32) 21 [[J (w32 g)]] ([(w32 g)]:List Int) j ⟨rfl,trivial⟩) ?_)));rintro v19 y i0 ⟨R,l,D⟩;refine va (v19) (wln (W.ret (bkr (thr ?_))));obtain rfl:=si H;exact r1 (qq y ⟨v19,R,l,rfl,D⟩)
 refine sr (vv (Qo a 1) (va (Qo a 1) (va (I b) (va (I (w64 (b - 1))) (va (.int .u8 g) (bn H fun h E H=>cl (xH j g E) ?_))))));rintro v26 a0 j0 ⟨m,rfl⟩;refine va (.pointer (some ⟨a,1,none⟩)) (va (Qo a 1) (md (sC 3 1 (I 1) [r0_0,I 1,I f.needs,.int .u8 f.lo,.int .u8 f.hi,I f.bits,r0_6,r0_7,r0_8,r0_9,r0_10,r0_11] 0 m ⟨rfl,trivial⟩) ?_));rintro b0 k0 n;refine va (.pointer (some ⟨a,1,none⟩)) (va (Qo a 2) (md (sC 3 2 (I (w64 (b - 1))) [r0_0,I 1,I (w64 (b - 1)),.int .u8 f.lo,.int .u8 f.hi,I f.bits,r0_6,r0_7,r0_8,r0_9,r0_10,r0_11] 0 n ⟨rfl,trivial⟩) ?_));rintro d0 l0 o;refine va (.pointer (some ⟨a,1,none⟩)) (va (Qo a 5) (md (sC 3 5 (I h) [r0_0,I 1,I (w64 (b - 1)),.int .u8 f.lo,.int .u8 f.hi,I h,r0_6,r0_7,r0_8,r0_9,r0_10,r0_11] 0 o ⟨rfl,trivial⟩) ?_));rintro e0 m0 p;refine wln (W.region (vv (Qo a 1) (va (.int .u8 g) (bn H fun d M H=>cl (vM p g M) ?_))));rintro v39 f0 o0 ⟨q,rfl⟩;refine va (.tuple #[.int .u8 d.1,.int .u8 d.2]) (va (.int .u8 d.1) (va (.int .u8 d.2) (va (Qo a 1) (va (Qo a 3) (md (sC 5 3 (.int .u8 d.1) [r0_0,I 1,I (w64 (b - 1)),.int .u8 d.1,.int .u8 f.hi,I h,r0_6,r0_7,r0_8,r0_9,r0_10,r0_11] 0 q ⟨rfl,trivial⟩) ?_)))));rintro g0 q0 s;refine va (.pointer (some ⟨a,1,none⟩)) (va (Qo a 4) (md (sC 5 4 (.int .u8 d.2) [r0_0,I 1,I (w64 (b - 1)),.int .u8 d.1,.int .u8 d.2,I h,r0_6,r0_7,r0_8,r0_9,r0_10,r0_11] 0 s ⟨rfl,trivial⟩) ?_));rintro i s0 t;refine WL.nil (bkn (nrm (sr (va (Y) (wln (W.ret ?_))))));obtain rfl:=si H;have N:OA (RI .i32) i (Y) [] []:=OA.nil (aM _);have u:=t.addHole (e:=es true (RI .i32) (Y) 21 [] ([]:List Int)) rfl;exact r1 (qq i ⟨(Y),[],u,rfl,N⟩)
def cR (p0:bA) (p1:Int):Option (bA×(List Int)):=
 if false=true then
 some (p0,([]:List Int))
 else
 if (p0.held==0)=true then
 (ct p0 p1).bind fun a=>
 some (a.1,a.2)
 else
 (orE (decide (p1 < p0.lo)) (some (decide (p1 > p0.hi)))).bind fun d=>
 if d=true then
 (bK p0).bind fun b=>
 (ct b.1 p1).bind fun c=>
 (app b.2 c.2).bind fun e=>
 some (c.1,e)
 else
 if (decide ((w64 (p0.needs - 1)) > 0))=true then
 some ((⟨(w64 (p0.held+1)),(w64 (p0.needs - 1)),128,191,(rm .i64 (w64 (p0.bits * 2 ^ 6)) (w64 (kO .u8 p1 63)))⟩:bA),([]:List Int))
 else
 some ((⟨0,0,0,0,0⟩:bA),([(w32 (rm .i64 (w64 (p0.bits * 2 ^ 6)) (w64 (kO .u8 p1 63))))]:List Int))
theorem lQ {a:Nat} {r0_0:Value} {r0_6:Value} {r0_7:Value} {r0_8:Value} {r0_9:Value} {r0_10:Value} {r0_11:Value} (b:bA) (d:Int) (h:Own c0 G ((Eb a 158 [r0_0,I b.held,I b.needs,.int .u8 b.lo,.int .u8 b.hi,I b.bits,r0_6,r0_7,r0_8,r0_9,r0_10,r0_11]) :: F)) {r:bA×(List Int)} (H:cR b d=some r): Calls prog 107 #[.pointer (some ⟨a,1,none⟩),.int .u8 d] c0.w (aN c0 fun c v=>∃x y2,Own c G (es true (RI .i32) x 21 y2 r.2 :: (Eb a 158 [r0_0,I r.1.held,I r.1.needs,.int .u8 r.1.lo,.int .u8 r.1.hi,I r.1.bits,r0_6,r0_7,r0_8,r0_9,r0_10,r0_11]) :: F)∧v=x∧OA (RI .i32) c x y2 r.2):=by
 unfold cR at H;refine en func107 rfl rfl (sr (va (Y) (wln (W.seq (W.block (sr (va (Qo a 1) (vv (B false) (wln (W.cond (t:=false) (by kernel_rfl) (fun s=>?_) (fun s=>?_)))))))))))
 ·cases s
 have H:=ie s H;refine sr (vv (Qo a 1) (va (Qo a 1) (vx (le1 1 u_3 (h.on 0 rfl)) (vv (B (b.held==0)) (wln (cn H (fun h2 H=>?_) (fun h2 H=>?_)))))))
 ·refine sr (va (Qo a 1) (va (.int .u8 d) (bn H fun z0 h4 H=>cl (iM b d h h4) ?_)));rintro v5 X q1 ⟨_,u6,O9,rfl,h7⟩;refine va (v5) (wln (W.ret (bkr (thr ?_))));obtain rfl:=si H;exact r1 (qq X ⟨v5,u6,O9,rfl,h7⟩)
 refine W.seq (bn H fun q o H=>W.join (Jn c0 fun c l=>Own c G ((Eb a 158 [r0_0,I b.held,I b.needs,.int .u8 b.lo,.int .u8 b.hi,I b.bits,r0_6,r0_7,r0_8,r0_9,r0_10,r0_11]) :: F)∧l= [(0,.pointer (some ⟨a,1,none⟩)),(1,.int .u8 d),(18,B q)]) ?_ ?_)
 ·clear H;refine W.region (va (.int .u8 d) (vv (Qo a 1) (va (Qo a 3) (vx (le1 3 u_5 (h.on 0 rfl)) (va (B (decide (d < b.lo))) ?_)))));rcases bo (decide (d < b.lo)) with f | f
  ·obtain rfl:=orT f o;exact vb f (pz (pz (pz (vv (B true) (wln (jn c0 ⟨h,rfl⟩))))))
  have y:=orF f o;refine vb f (wa (.int .u8 d) (wa (Qo a 1) (wa (Qo a 1) (wa (Qo a 4) (wn (vx (le1 4 u_5 (h.on 0 rfl)) (wa (B (decide (d > b.hi))) ?_)))))));obtain rfl:=si y;exact vv (B (decide (d > b.hi))) (wln (jn c0 ⟨h,rfl⟩))
 rintro e_ w_ ⟨c1,n1,_,rfl,s1,rfl,i,rfl⟩;refine nrm (cn H (fun b0 H=>?_) (fun b0 H=>?_))
 ·refine sr (va (Qo a 1) (bn H fun u d0 H=>cl (iN b i d0) ?_));rintro v26 d1 t1 ⟨_,f2,z,rfl,e0⟩;refine va (.pointer (some ⟨a,1,none⟩)) (va (.int .u8 d) ?_);have A:=z.sD 2 [1,0];refine bn H fun a1 f0 H=>cl (iM u.1 d A f0) ?_;rintro v37 e1 u1 ⟨_,g2,D,rfl,g0⟩;obtain ⟨f1,i0,v1,E,h0⟩:=D.frz 0 rfl g0;refine WL.gh i0 (bn H fun b1 j0 H=>me (ap (RI .i32) (J 0) 4 27 2 E e0.m h0 j0 dh) ?_);rintro v55 Z w1 ⟨q0,M,k0⟩;refine va (v55) (wln (W.ret (bkr (thr ?_))));obtain rfl:=si H;have N:=M.sD 3 [2,1];exact r1 (qq Z ⟨v55,q0,N,rfl,k0⟩)
 refine W.skip (bkn (nrm (sr (vv (Qo a 1) (va (Qo a 1) (va (Qo a 5) (vx (le1 5 u_3 (i.on 0 rfl)) (va (I (w64 (b.bits * 2 ^ 6))) (va (.int .u8 d) (va (.int .u8 (kO .u8 d 63)) (va (I (w64 (kO .u8 d 63))) (va (I (rm .i64 (w64 (b.bits * 2 ^ 6)) (w64 (kO .u8 d 63)))) (va (Qo a 1) (va (Qo a 5) (md (sC 3 5 (I (rm .i64 (w64 (b.bits * 2 ^ 6)) (w64 (kO .u8 d 63)))) [r0_0,I b.held,I b.needs,.int .u8 b.lo,.int .u8 b.hi,I (rm .i64 (w64 (b.bits * 2 ^ 6)) (w64 (kO .u8 d 63))),r0_6,r0_7,r0_8,r0_9,r0_10,r0_11] 0 i ⟨rfl,trivial⟩) ?_)))))))))))))));rintro g1 x1 P;refine wln (sr (vv (Qo a 1) (va (Qo a 1) (va (Qo a 3) (md (sC 5 3 (.int .u8 128) [r0_0,I b.held,I b.needs,.int .u8 128,.int .u8 b.hi,I (rm .i64 (w64 (b.bits * 2 ^ 6)) (w64 (kO .u8 d 63))),r0_6,r0_7,r0_8,r0_9,r0_10,r0_11] 0 P ⟨rfl,trivial⟩) ?_)))));rintro i1 z1 R;refine va (.pointer (some ⟨a,1,none⟩)) (va (Qo a 4) (md (sC 5 4 (.int .u8 191) [r0_0,I b.held,I b.needs,.int .u8 128,.int .u8 191,I (rm .i64 (w64 (b.bits * 2 ^ 6)) (w64 (kO .u8 d 63))),r0_6,r0_7,r0_8,r0_9,r0_10,r0_11] 0 R ⟨rfl,trivial⟩) ?_));rintro j1 a2 j;refine wln (sr (vv (Qo a 1) (va (Qo a 1) (vx (le1 1 u_3 (j.on 0 rfl)) (va (I (w64 (b.held+1))) (vv (Qo a 1) (md (sC 3 1 (I (w64 (b.held+1))) [r0_0,I (w64 (b.held+1)),I b.needs,.int .u8 128,.int .u8 191,I (rm .i64 (w64 (b.bits * 2 ^ 6)) (w64 (kO .u8 d 63))),r0_6,r0_7,r0_8,r0_9,r0_10,r0_11] 0 j ⟨rfl,trivial⟩) ?_)))))));rintro k1 b2 k;refine wln (sr (vv (Qo a 1) (va (Qo a 2) (vx (le1 2 u_3 (k.on 0 rfl)) (va (I (w64 (b.needs - 1))) (va (Qo a 1) (va (Qo a 2) (md (sC 3 2 (I (w64 (b.needs - 1))) [r0_0,I (w64 (b.held+1)),I (w64 (b.needs - 1)),.int .u8 128,.int .u8 191,I (rm .i64 (w64 (b.bits * 2 ^ 6)) (w64 (kO .u8 d 63))),r0_6,r0_7,r0_8,r0_9,r0_10,r0_11] 0 k ⟨rfl,trivial⟩) ?_))))))));rintro n c2 g;refine wln (W.seq (sr (vv (Qo a 1) (va (Qo a 2) (vx (le1 2 u_3 (g.on 0 rfl)) (va (B (decide ((w64 (b.needs - 1)) > 0))) (wln (cn H (fun l0 H=>?_) (fun l0 H=>?_)))))))))
 ·refine sr (va (Y) (wln (W.ret (thr ?_))));obtain rfl:=si H;have m0:OA (RI .i32) n (Y) [] []:=OA.nil (aM _);have S:=g.addHole (e:=es true (RI .i32) (Y) 21 [] ([]:List Int)) rfl;exact r1 (qq n ⟨(Y),[],S,rfl,m0⟩)
 refine W.skip (nrm (sr (vv (Qo a 1) (va (Qo a 5) (vx (le1 5 u_3 (g.on 0 rfl)) (vv (J (w32 (rm .i64 (w64 (b.bits * 2 ^ 6)) (w64 (kO .u8 d 63))))) (wln (sr (va (Qo a 1) (va (.agg #[I 0,I 0,.int .u8 0,.int .u8 0,I 0]) (va (Qo a 1) (md (sB 154 1 [I 0,I 0,.int .u8 0,.int .u8 0,I 0] [r0_0,I 0,I 0,.int .u8 0,.int .u8 0,I 0,r0_6,r0_7,r0_8,r0_9,r0_10,r0_11] 0 g ⟨rfl,rfl,rfl,rfl,rfl,trivial⟩) ?_))))))))))));rintro m1 d2 T;refine wln (sr (va (J (w32 (rm .i64 (w64 (b.bits * 2 ^ 6)) (w64 (kO .u8 d 63))))) (me (sl (RI .i32) 21 [[J (w32 (rm .i64 (w64 (b.bits * 2 ^ 6)) (w64 (kO .u8 d 63))))]] ([(w32 (rm .i64 (w64 (b.bits * 2 ^ 6)) (w64 (kO .u8 d 63))))]:List Int) T ⟨rfl,trivial⟩) ?_)));rintro p a0 e2 ⟨s0,U,o0⟩;refine va (p) (wln (W.ret ?_));obtain rfl:=si H;exact r1 (qq a0 ⟨p,s0,U,rfl,o0⟩)
def gJ (sg:Sto) (p0:Option Nat) (p1:List Int):Option (Sto):=
 if p0.isNone=true then
 some sg
 else
 (cE (σ:=Int×Sto) (τ:=Sto) (((p1.length:Int) - 0).toNat+1) (fun b=>
 if (decide (b.1 < (p1.length:Int)))=true then
 (idx p1 b.1).bind fun f=>
 (p0).bind fun d=>
 (b.2.feed_Feeder[d]?).bind fun a=>
 (cR a.dec f).bind fun e=>
 (b.2.set_feed_Feeder d (⟨a.pen,e.1,a.seg,a.open_⟩:bB)).bind fun c=>
 (go c p0 e.2).bind fun g=>
 some (.inl ((w64 (b.1+1)),g))
 else
 some (.inr (b.2))) (0,sg)).bind fun h=>
 some h
theorem rE (M:Own c0 G F) (R0:Rel c0 sg G) (hG:Gl [0,4] c0) (j:Option Nat) (k:List Int) {r:Sto} (t:Pt 4 c0 v1 j) (u:Sl (RI .u8) c0 v3 k) (H:gJ sg j k=some r): Calls prog 37 #[v1,v3] c0.w (aN c0 fun c v=>∃G_:Gm,Own c G_ (F)∧Rel c r G_∧v= .tuple #[]):=by
 unfold gJ at H;refine en func37 rfl rfl (W.seq (sr (va (v1) (vr (B j.isNone) (by rcases (t).cs with ⟨p,s⟩ | ⟨b_,p,s⟩ <;> (subst p; rw [s]; kernel_rfl)) (wln (cn H (fun h5 H=>?_) (fun h5 H=>?_)))))))
 ·refine W.ret (thr ?_);obtain rfl:=si H;exact r0 (qq c0 ⟨G,M,R0,rfl⟩)
 refine W.skip (nrm (sr (va (v3) (vx (ln 3 lE u) (va (I 0) (wln (W.block (bn H fun y1 h6 E=>lp h6 (fun d=>Jn c0 fun c l=>∃G_,Own c G_ (F)∧l= [(0,v1),(8,v3),(9,I (k.length:Int)),(10,I d.1)]∧Rel c d.2 G_) (fun x ex e w=>ex= .exit 0∧(Jn c0 fun c l=>∃G_,Own c G_ (F)∧l= []∧Rel c x G_) e w) ?_ ?_ ?_))))))))
 ·clear E h6;intro d a2 i0 c1 H;revert i0 c1;rintro e_ w_ ⟨c8,g9,_,rfl,l8,rfl,z,n,rfl,h⟩;refine sr (va (B (decide (d.1 < (k.length:Int)))) (wln (W.seq (cn H (fun j0 H=>?_) (fun j0 H=>?_)))))
  ·refine W.skip (nrm (W.seq (W.block (sr (bn H fun f o H=>?_)))));obtain ⟨h1,k0,b1⟩:=Sl.at (u.mono l8) (aT o);obtain rfl:=k0;refine vx (ix lE u.m o) (vx (l1 u_5 (b1 0 _ rfl)) (va (.int .u8 f) (wln (W.region (vv (v1) (bn H fun g1 l0 H=>?_))))));obtain ⟨g,rfl,q⟩:=((t.mono l8)).get l0;refine va (Q g) (va (Qo g 1) (va (.int .u8 f) (bn H fun a m0 H=>?_)));obtain ⟨v23,v25,s0,o0,q0⟩:=Rel.open_feed_Feeder h m0 q;have N:=n.borrow 0 s0 rfl;refine bn H fun b t0 H=>cl (lQ a.dec f N t0) ?_;rintro v31 n1 i ⟨_,z1,P,rfl,u0⟩;have S:=P.sD 2 [1,0];have R:=S.giveB 0 rfl;refine bn H fun y v0 H=>?_;obtain ⟨k1,T,d0,t1,m1⟩:=Rel.put_feed_Feeder R (h.mono i) (E':=[(Eb g 158 [v23,I b.1.held,I b.1.needs,.int .u8 b.1.lo,.int .u8 b.1.hi,I b.1.bits,B a.seg.some,I a.seg.last,I a.seg.pict,I a.seg.conj,B a.seg.odd,v25])]) v0 ⟨g,v23,v25,(tm q),rfl,(o0.mono i),(q0.mono i)⟩;obtain ⟨q1,x0,u1,U,w0⟩:=T.frz 0 rfl u0;refine WL.gh x0 (bn H fun j1 y0 H=>cl (nP U d0.m (hG.m.le (by decide)) j b.2 t.m w0 y0) ?_);rintro v58 g0 w1 ⟨A,X,e0,rfl⟩;refine WL.nil (bkn (nrm (W.region (vv (I (w64 (d.1+1))) (WL.nil ?_)))));obtain rfl:=si H;refine ⟨_,rfl,?_⟩;have Z:=X.sD 1 [];exact jn g0 ⟨A,Z,rfl,e0⟩
  refine W.exit (thx ?_);obtain rfl:=si H;exact ⟨_,rfl,rfl,jn c8 ⟨z,n,rfl,h⟩⟩
 ·exact jn c0 ⟨G,M,rfl,R0⟩
 rintro _ e_ w_ ⟨rfl,h0,s1,_,rfl,x1,rfl,D,a0,rfl,f0⟩;refine bke ?_;obtain rfl:=si E;exact n0 (qq h0 ⟨D,a0,f0,rfl⟩)
def gI (sg:Sto) (p0:Option Nat):Option (Sto):=
 if p0.isNone=true then
 some sg
 else
 (p0).bind fun c=>
 (sg.feed_Feeder[c]?).bind fun a=>
 (bK a.dec).bind fun d=>
 (sg.set_feed_Feeder c (⟨a.pen,d.1,a.seg,a.open_⟩:bB)).bind fun b=>
 (go b p0 d.2).bind fun f=>
 (da f p0).bind fun e=>
 some e
theorem rC (l:Own c0 G F) (j:Rel c0 sg G) (hG:Gl [0,4] c0) (f:Option Nat) {r:Sto} (g:Pt 4 c0 v1 f) (H:gI sg f=some r): Calls prog 39 #[v1] c0.w (aN c0 fun c v=>∃G_:Gm,Own c G_ (F)∧Rel c r G_∧v= .tuple #[]):=by
 unfold gI at H;refine en func39 rfl rfl (W.seq (sr (va (v1) (vr (B f.isNone) (by rcases (g).cs with ⟨h,i⟩ | ⟨b_,h,i⟩ <;> (subst h; rw [i]; kernel_rfl)) (wln (cn H (fun h3 H=>?_) (fun h3 H=>?_)))))))
 ·refine W.ret (thr ?_);obtain rfl:=si H;exact r0 (qq c0 ⟨G,l,j,rfl⟩)
 refine W.skip (nrm (sr (vv (v1) (bn H fun s0 h6 H=>?_))));obtain ⟨d,rfl,h5⟩:=(g).get h6;refine va (Q d) (va (Qo d 1) (bn H fun a h7 H=>?_));obtain ⟨v8,v10,N,h9,M⟩:=Rel.open_feed_Feeder j h7 h5;have n:=l.borrow 0 N rfl;refine bn H fun b P H=>cl (iN a.dec n P) ?_;rintro v16 l0 e ⟨_,w0,o,rfl,R⟩;have q:=o.sD 2 [1,0];have p:=q.giveB 0 rfl;refine bn H fun b0 S H=>?_;obtain ⟨i0,s,z,q0,k0⟩:=Rel.put_feed_Feeder p (j.mono e) (E':=[(Eb d 158 [v8,I b.1.held,I b.1.needs,.int .u8 b.1.lo,.int .u8 b.1.hi,I b.1.bits,B a.seg.some,I a.seg.last,I a.seg.pict,I a.seg.conj,B a.seg.odd,v10])]) S ⟨d,v8,v10,(tm h5),rfl,(h9.mono e),(M.mono e)⟩;obtain ⟨m0,U,t0,t,T⟩:=s.frz 0 rfl R;refine WL.gh U (bn H fun x0 X H=>cl (nP t z.m (hG.m.le (by decide)) f b.2 g.m T X) ?_);rintro v43 o0 u0 ⟨j0,u,A,rfl⟩;refine wln (W.region (va (Q d) (bn H fun h0 Z H=>cl (jk u A f g.m Z) ?_)));rintro v50 E v0 ⟨k,x,D,rfl⟩;refine WL.nil ?_;obtain rfl:=si H;have y:=x.sD 1 [];exact n0 (qq E ⟨k,y,D,rfl⟩)
def lh (sg:Sto) (p0:Option Nat):Option (Int):=
 if p0.isNone=true then
 some 0
 else
 (p0).bind fun c=>
 (sg.feed_Feeder[c]?).bind fun a=>
 (cf a.dec).bind fun b=>
 some b
theorem su (h:Own c0 G F) (q:Rel c0 sg G) (f:Option Nat) {r:Int} (p:Pt 4 c0 v1 f) (H:lh sg f=some r): Calls prog 41 #[v1] c0.w (aN c0 fun c v=>Own c G (F)∧v=I r):=by
 unfold lh at H;refine en func41 rfl rfl (sr (va (I 0) (wln (W.seq (sr (va (v1) (vr (B f.isNone) (by rcases (p).cs with ⟨d,e⟩ | ⟨D,d,e⟩ <;> (subst d; rw [e]; kernel_rfl)) (wln (cn H (fun s H=>?_) (fun s H=>?_))))))))))
 ·refine sr (va (I 0) (wln (W.ret (thr ?_))));obtain rfl:=si H;exact r1 (qq c0 ⟨h,rfl⟩)
 refine W.skip (nrm (sr (va (v1) (bn H fun z u H=>?_))));obtain ⟨m,rfl,t⟩:=(p).get u;refine va (Q m) (va (Qo m 1) (bn H fun a x H=>?_));obtain ⟨v8,v10,b,E,y⟩:=Rel.open_feed_Feeder q x t;have i:=h.borrow 0 b rfl;refine bn H fun g o H=>cl (iY a.dec i o) ?_;rintro v21 n A ⟨j,rfl⟩;have k:=j.giveB 0 rfl;have l:=Own.back k b rfl;refine va (I g) (wln (W.ret ?_));obtain rfl:=si H;exact r1 (qq n ⟨l,rfl⟩)
def lg (sg:Sto) (p0:Option Nat):Option (List Int):=
 if p0.isNone=true then
 some ([]:List Int)
 else
 (p0).bind fun c=>
 (sg.feed_Feeder[c]?).bind fun a=>
 (kb sg a.open_).bind fun b=>
 some b
theorem ss (d:Own c0 G F) (j:Rel c0 sg G) (g:Option Nat) {r:List Int} (q:Pt 4 c0 v1 g) (H:lg sg g=some r): Calls prog 42 #[v1] c0.w (aN c0 fun c v=>∃h t,Own c G (es true (RI .i32) h 21 t r :: F)∧v=h∧OA (RI .i32) c h t r):=by
 unfold lg at H;refine en func42 rfl rfl (sr (va (Y) (wln (W.seq (sr (va (v1) (vr (B g.isNone) (by rcases (q).cs with ⟨a,b⟩ | ⟨R,a,b⟩ <;> (subst a; rw [b]; kernel_rfl)) (wln (cn H (fun x H=>?_) (fun x H=>?_))))))))))
 ·refine sr (va (Y) (wln (W.ret (thr ?_))));obtain rfl:=si H;have y:OA (RI .i32) c0 (Y) [] []:=OA.nil (aM _);have u:=d.addHole (e:=es true (RI .i32) (Y) 21 [] ([]:List Int)) rfl;exact r1 (qq c0 ⟨(Y),[],u,rfl,y⟩)
 refine W.skip (nrm (sr (va (v1) (bn H fun N A H=>?_))));obtain ⟨k,rfl,z⟩:=(q).get A;refine va (Q k) (va (Qo k 11) (bn H fun f D H=>?_));obtain ⟨v10,v12,n,M,m⟩:=Rel.open_feed_Feeder j D z;refine vx (le1 11 underlying44 (d.gon n 0 rfl)) (bn H fun E o H=>cl (qA d j f.open_ m o) ?_);rintro v16 l P ⟨_,s,i,rfl,p⟩;refine va (v16) (wln (W.ret ?_));obtain rfl:=si H;exact r1 (qq l ⟨v16,s,i,rfl,p⟩)
end Go.Proofs.YthokmpbbkpjhbaaGreatDoor
namespace Go.Proofs.YthokmpbbkpjhbaaGreatDoor
open Go Go.Lt
set_option maxRecDepth 10000
set_option linter.unusedVariables false
attribute [local irreducible] W WL AC
open Go.RowKit Go.Extern.Stop Go.Stop Go.Extern
def yW (n:Nat):Er→Bool
 | .nil=>true
 | .sent g=>decide (g < n)
 | .fault _ e=>yW n e
def tf (k:Nat):Er→Bool
 | .nil=>false
 | .sent g=>g==k
 | .fault _ e=>tf k e
def po:Er→Nat
 | .nil=>0
 | .sent _=>0
 | .fault _ e=>po e+1
def gN (p0 p1:Er):Option Bool:=match p1 with
 | .sent k=>if k < 8∧yW 8 p0=true then some (tf k p0) else none
 | _=>none
theorem BP (v:Value) (w:World):(Extern.ReflectliteType.typeOf #[.iface 305 v]).run Tryz.prog w= .ok (.iface 250 (.agg #[.pointer (some ⟨9,305,none⟩)])) w:=by kernel_rfl
theorem wi (w:World):((Extern.ReflectliteType.method fun t=>do Extern.Rtype.noPackHeld "Comparable" t; pure (.bool (←typeInfo t).comparable)) #[.agg #[.pointer (some ⟨9,305,none⟩)]]).run Tryz.prog w= .ok (.bool true) w:=by kernel_rfl
theorem rk (v:Value) (w:World):(Go.method 438 250 v "Comparable").run Tryz.prog w= .ok (301,v) w:=by kernel_rfl
theorem EI:(Tryz.prog.info? 305).map (·.comparable)=some true:=by kernel_rfl
theorem EH:(Tryz.prog.info? 326).map (·.size)=some 1:=by kernel_rfl
theorem De (v:Value) (xT:TypeId) (w:World):(Instr.typeAssert (.iface 305 v) xT 252 true).run Tryz.prog w= .ok (.tuple #[.nilIface,.bool false]) w:=run_typeAssert_lacksB Tryz.underlying252 (by kernel_rfl) (by kernel_rfl) v xT w
theorem xy (v:Value) (xT:TypeId) (w:World):(Instr.typeAssert (.iface 305 v) xT 255 true).run Tryz.prog w= .ok (.tuple #[.nilIface,.bool false]) w:=run_typeAssert_lacksB Tryz.underlying255 (by kernel_rfl) (by kernel_rfl) v xT w
theorem wg (v:Value) (xT:TypeId) (w:World):(Instr.typeAssert (.iface 305 v) xT 257 true).run Tryz.prog w= .ok (.tuple #[.nilIface,.bool false]) w:=run_typeAssert_lacksB Tryz.underlying257 (by kernel_rfl) (by kernel_rfl) v xT w
theorem Dd (v:Value) (xT:TypeId) (w:World):(Instr.typeAssert (.iface 179 v) xT 252 true).run Tryz.prog w= .ok (.tuple #[.nilIface,.bool false]) w:=run_typeAssert_lacksB Tryz.underlying252 (by kernel_rfl) (by kernel_rfl) v xT w
theorem wh (v:Value) (xT:TypeId) (w:World):(Instr.typeAssert (.iface 179 v) xT 255 true).run Tryz.prog w= .ok (.tuple #[.iface 179 v,.bool true]) w:=run_typeAssert_hasB Tryz.underlying255 (by kernel_rfl) v xT w
theorem uz (v:Value) (w:World):(Go.method 438 179 v "Unwrap").run Tryz.prog w= .ok (294,v) w:=by kernel_rfl
open Classical in
noncomputable def vz (c:Cx) (E:Value):Nat:=if h:∃p,RE 305 179 c E p then po h.choose else 0
theorem vy {c:Cx}:∀{p p':Er} {E:Value},RE 305 179 c E p→RE 305 179 c E p'→po p=po p'
 | .nil,.nil,_,_,_=>rfl
 | .nil,.sent _,_,h,h'=>rfl
 | .nil,.fault _ _,_,h,h'=>by
  obtain rfl:=h;obtain ⟨b,u,e,_⟩:=h';cases e
 | .sent _,.nil,_,_,_=>rfl
 | .sent _,.sent _,_,_,_=>rfl
 | .sent _,.fault _ _,_,h,h'=>by
  obtain ⟨a,rfl,_⟩:=h;obtain ⟨b,u,e,_⟩:=h';cases e
 | .fault _ _,.nil,_,h,h'=>by
  obtain rfl:=h';obtain ⟨b,u,e,_⟩:=h;cases e
 | .fault _ _,.sent _,_,h,h'=>by
  obtain ⟨a,rfl,_⟩:=h';obtain ⟨b,u,e,_⟩:=h;cases e
 | .fault _ p,.fault _ p',_,h,h'=>by
  obtain ⟨b,u,rfl,_,h1,h2⟩:=h;obtain ⟨b',u',e,_,h1',h2'⟩:=h';cases e;have:=h1.cell.symm.trans h1'.cell;cases this;show po p+1=po p'+1;rw [vy h2 h2']
theorem wW {c:Cx} {E:Value} {p:Er} (h:RE 305 179 c E p):vz c E=po p:=by
 unfold vz;rw [tY ⟨p,h⟩];exact vy (Exists.choose_spec ⟨p,h⟩) h
set_option maxRecDepth 1000000 in
theorem yK {c:Cx} (hG:Gl [0,1,2,3,4,5,6,7] c) (b:Addr) (k:Nat) (hk:k < 8) (h2:RE 305 179 c (.iface 305 (.pointer (some b))) (.sent k)) (E:Value) (p0:Er) (h1:RE 305 179 c E p0) (hn:p0.isNil=false) (ha:yW 8 p0=true):
  Calls Tryz.prog 167 #[E,.iface 305 (.pointer (some b)),.bool true] c.w fun e w'=>e= .returned (.bool (tf k p0))∧w'=c.w:=by
 obtain ⟨i,hi,hcmp⟩:=Option.map_eq_some_iff.1 EI;obtain ⟨j,hj,hjs⟩:=Option.map_eq_some_iff.1 EH;have nE:=De;have uE:=xy;have vE:=wg;have nW:=Dd;have uW:=wh;have mU:=uz;have hmem:∀g,g < 8→g∈ [0,1,2,3,4,5,6,7]:=by decide
 obtain ⟨b',eb,hkm,hkf⟩:=h2;cases eb;obtain ⟨W,hW⟩:∃W,Hid (W=c.w):=⟨_,rfl⟩;rw [←hW.out]
 go_enter Tryz.func167,Tryz.ntmps167
 go_wp2
 go_loopw [0] (fun E' wl=>wl=W∧∃p,RE 305 179 c E' p∧p.isNil=false∧yW 8 p=true∧tf k p0=tf k p) (fun E' _=>vz c E')
 case atStart=>exact ⟨rfl,p0,h1,hn,ha,rfl⟩
 case round=>
  obtain ⟨rfl,p,hp,hpn,hpa,hiff⟩:=hrel
  cases p with
  | nil=>cases hpn
  | sent g=>
   obtain ⟨a,rfl,hgm,hgf⟩:=hp;by_cases hab:a=b
   ·subst hab;have hgk:g=k:=DX fun hne=>hG.2 g k (hmem g (rK hpa)) (hmem k hk) hne a hgm hkm;have heq:=run_eql_iface_ptr_same (P:=Tryz.prog) wr a Tryz.underlying37 Tryz.underlying305 hi hcmp hj
    go_wp2
    go_ret
    exact ⟨by rw [hiff]; simp [tf,hgk],rfl⟩
   ·obtain ⟨ca,ta,hca⟩:=hgf.blk;obtain ⟨cb,tb,hcb⟩:=hkf.blk;rw [←hW.out] at hca hcb;have hgk:¬g=k:=fun e=>by
     subst e;have:=hgm.cell.symm.trans hkm.cell;cases this;exact hab rfl
    have heq:=run_eql_iface_ptr_other (P:=Tryz.prog) wr Tryz.underlying37 Tryz.underlying305 hi hcmp hj (by rw [hjs]; decide) hab hca hcb
    go_wp2
    go_ret
    exact ⟨by rw [hiff]; simp [tf,hgk],rfl⟩
  | fault n e1=>
   obtain ⟨fb,u,rfl,hi0,hi1,hre⟩:=hp;have hcell:=hi1.cell;rw [←hW.out] at hcell;have hty:=run_eql_iface_types (P:=Tryz.prog) 179 305 (.pointer (some ⟨fb,0,none⟩)) (.pointer (some b)) Tryz.underlying37 (by decide) wr;have hlen:=wW hre;have hlen0:=wW (c:=c) (E:= .iface 179 (.pointer (some ⟨fb,0,none⟩))) (p:= .fault n e1) ⟨fb,u,rfl,hi0,hi1,hre⟩;have HC:Hid (RE 305 179 c u e1):=hre
   cases e1 with
   | nil=>
    obtain rfl:=hre
    go_wp2
    go_ret
    exact ⟨by rw [hiff]; simp [tf],rfl⟩
   | sent g=>
    obtain ⟨a,rfl,_⟩:=hre
    go_wp2
    go_roundw
    case rel=>exact ⟨trivial,_,HC.out,rfl,hpa,hiff⟩
    case measure=>
     show vz c (.iface 305 (.pointer (some a))) < _;rw [hlen,hlen0]; simp [po]
   | fault n2 e2=>
    obtain ⟨fb2,u2,rfl,_⟩:=hre
    go_wp2
    go_roundw
    case rel=>exact ⟨trivial,_,HC.out,rfl,hpa,hiff⟩
    case measure=>
     show vz c (.iface 179 (.pointer (some ⟨fb2,0,none⟩))) < _;rw [hlen,hlen0]; simp [po]
set_option maxRecDepth 1000000 in
theorem Hg {c:Cx} (hG:Gl [0,1,2,3,4,5,6,7] c) (b:Addr) (k:Nat) (hk:k < 8) (h2:RE 305 179 c (.iface 305 (.pointer (some b))) (.sent k)) (E:Value) (p0:Er) (h1:RE 305 179 c E p0) (ha:yW 8 p0=true):
  Calls Tryz.prog 99 #[E,.iface 305 (.pointer (some b))] c.w fun e w'=>e= .returned (.bool (tf k p0))∧w'=c.w:=by
 have h8:= @cH Tryz.prog 166 _ Extern.ReflectliteType.typeOf Tryz.func166 (by kernel_rfl) (by kernel_rfl) (by kernel_rfl) (by kernel_rfl);have h320:= @cH Tryz.prog 301 _ (Extern.ReflectliteType.method fun t=>do Extern.Rtype.noPackHeld "Comparable" t; pure (.bool (←typeInfo t).comparable)) Tryz.func301 (by kernel_rfl) (by kernel_rfl) (by kernel_rfl) (by kernel_rfl);have h32:∀w,(callFunc 301 #[.agg #[.pointer (some ⟨9,305,none⟩)]]).run Tryz.prog w= .ok (.value (.bool true)) w:=fun w=>by rw [h320,wi]; rfl
 clear h320
 have tT:=BP;have mR:=rk
 cases p0 with
 | nil=>
  obtain rfl:=h1;have hn:=run_eql_iface_nil_left (P:=Tryz.prog) c.w 305 (.pointer (some b)) Tryz.underlying37
  clear h2 hG
  go_enter Tryz.func99,Tryz.ntmps99
  go_wp2
  go_ret
  exact ⟨rfl,rfl⟩
 | sent g=>
  have hcon:=yK hG b k hk h2 E (.sent g) h1 rfl ha;obtain ⟨a,rfl,_⟩:=h1
  clear h2 hG
  go_enter Tryz.func99,Tryz.ntmps99
  go_wp2_with (first | (go_at_call 167; refine hcon.mono ?_; rintro e w' ⟨rfl,rfl⟩) | go_in)
  go_ret
  exact ⟨rfl,rfl⟩
 | fault i e=>
  have hcon:=yK hG b k hk h2 E (.fault i e) h1 rfl ha;obtain ⟨fb,u,rfl,_⟩:=h1
  clear h2 hG
  go_enter Tryz.func99,Tryz.ntmps99
  go_wp2_with (first | (go_at_call 167; refine hcon.mono ?_; rintro e w' ⟨rfl,rfl⟩) | go_in)
  go_ret
  exact ⟨rfl,rfl⟩
theorem jz {c0:Cx} {G:Gm} {F:List En} {v1 v2:Value} (O0:Own c0 G F) (hG:Gl [0,1,2,3,4,5,6,7] c0) (p0 p1:Er) (h1:RE 305 179 c0 v1 p0) (h2:RE 305 179 c0 v2 p1) {r:Bool} (H:gN p0 p1=some r): Calls Tryz.prog 99 #[v1,v2] c0.w (aN c0 fun c v=>Own c G F∧v= .bool r):=by
 unfold gN at H;split at H
 ·rename_i k;split at H
  ·rename_i hh;obtain rfl:=be H;obtain ⟨b,rfl,h3⟩:=id h2;refine (Hg hG b k hh.1 h2 v1 p0 h1 hh.2).mono ?_;rintro e w' ⟨rfl,rfl⟩;exact ⟨_,c0,rfl,rfl,Cx.le.refl _,O0,rfl⟩
  ·cases H
 ·cases H
end Go.Proofs.YthokmpbbkpjhbaaGreatDoor
namespace Go.Proofs.YthokmpbbkpjhbaaGreatDoor
open Go Go.Lt
set_option maxRecDepth 10000
set_option linter.unusedVariables false
attribute [local irreducible] W WL AC
open Tryz
variable {c0:Cx} {G:Gm} {F:List En} {sg:Sto} {v1 v2 v3 v4 v5 v6 v7 v8 v9 v10 v11 v12 v13 v14 v15 v16 v17 v18 v19 v20 v21 v22 v23 v24 v25 v26 v27 v28 v29 v30 v31 v32 v33 v34 v35 v36 v37 v38 v39 v40 v41 v42 v43 v44 v45 v46 v47 v48 v49 v50 v51 v52 v53 v54 v55 v56 v57 v58 v59 v60:Value}
def mJ (p0:Int):Option (Bool):=
 (bI (decide (p0≥2)) (some (decide (p0≤12)))).bind fun a=>
 some a
theorem zi (d:Own c0 G F) (a:Int) {r:Bool} (H:mJ a=some r): Calls prog 31 #[I a] c0.w (aN c0 fun c v=>Own c G (F)∧v=B r):=by
 unfold mJ at H;refine en func31 rfl rfl (sr (va (B false) (wln (W.seq (bn H fun e f H=>W.join (Jn c0 fun c l=>Own c G (F)∧l= [(2,B e)]) ?_ ?_)))))
 ·clear H;refine W.region (va (I a) (va (B (decide (a≥2))) ?_));rcases bo (decide (a≥2)) with b | b
  ·have g:=anT b f;refine vb b (wa (I a) (wa (B (decide (a≤12))) ?_));obtain rfl:=si g;exact vv (B (decide (a≤12))) (wln (jn c0 ⟨d,rfl⟩))
  obtain rfl:=anF b f;exact vb b (pz (vv (B false) (wln (jn c0 ⟨d,rfl⟩))))
 rintro j n ⟨i,k,_,rfl,m,rfl,h,rfl⟩;refine nrm (W.ret ?_);obtain rfl:=si H;exact r1 (qq i ⟨h,rfl⟩)
def kD (p0:aL):Option (Er):=
 (mJ p0.Kind).bind fun d=>
 if (!d)=true then
 some (Er.sent 4)
 else
 (bI (decide (p0.Kind≤4)) (some (p0.Kind != 2))).bind fun a=>
 (bI a ((orE (decide (p0.A < 0)) (some (decide (p0.A > 2)))).bind fun c=>
 some c)).bind fun b=>
 if b=true then
 some (Er.sent 0)
 else
 some Er.nil
theorem tu (S:Own c0 G F) (hG:Gl [0,4] c0) (a:aL) {r:Er} (h2:Sl (RI .u8) c0 v1 a.Bytes) (H:kD a=some r): Calls prog 29 #[.agg #[I a.Kind,I a.A,I a.B,v1]] c0.w (aN c0 fun c v=>∃R,Own c G (F)∧v=R∧RE 305 179 c R r):=by
 unfold kD at H;refine en func29 rfl rfl (sr ?_);obtain ⟨U,X,Z,rfl⟩:=(h2).form;refine me (bx 59 [I a.Kind,I a.A,I a.B,.slice U X Z] S) ?_;rintro v10 c9 P ⟨i,rfl,T,k⟩;refine va (.nilIface) (wln (W.seq (W.block (sr (va (Q i) (vx (l1 u_3 (k 0 _ rfl)) (bn H fun u D H=>cl (zi T a.Kind D) ?_)))))));rintro v17 b l16 ⟨d,rfl⟩;refine vv (B (!u)) (wln (cn H (fun E H=>?_) (fun E H=>?_)))
 ·refine sr ?_;obtain ⟨v19,o⟩:=(hG.mono (P.trans l16)).get 4 (by decide);refine vx (l1 rU o.im) (va (v19) (wln (W.ret (bkr (thr ?_)))));obtain rfl:=si H;exact r1 (qq b ⟨v19,d,rfl,o⟩)
 refine W.seq (bn H fun a0 p H=>bn H fun x j H=>W.join (Jn b fun c l=>Own c G (F)∧l= [(9,B x)]) ?_ ?_)
 ·clear H;refine W.region (va (Q i) (vx (l1 u_3 ((mm k) 0 _ rfl)) (va (B (decide (a.Kind≤4))) ?_)));rcases bo (decide (a.Kind≤4)) with e | e
  ·have y:=anT e p;refine vb e (wa (Q i) (wn (vx (l1 u_3 ((mm k) 0 _ rfl)) (wa (B (a.Kind != 2)) ?_))));obtain rfl:=si y;refine va (B (a.Kind != 2)) ?_;rcases bo (a.Kind != 2) with f | f
   ·have h:=anT f j;refine vb f (wa (Qo i (0+1)) (wn (vx (l1 u_3 ((mm k) 1 _ rfl)) (wa (B (decide (a.A < 0))) (wn (bn h fun b0 q h=>?_))))));rcases bo (decide (a.A < 0)) with g | g
    ·obtain rfl:=orT g q;refine vb g (pz (ps (wa (B true) ?_)));obtain rfl:=si h;exact vv (B true) (wln (jn b ⟨d,rfl⟩))
    have z:=orF g q;refine vb g (wa (Qo i (0+1)) (wn (vx (l1 u_3 ((mm k) 1 _ rfl)) (wa (B (decide (a.A > 2))) (wn ?_)))));obtain rfl:=si z;refine va (B (decide (a.A > 2))) ?_;obtain rfl:=si h;exact vv (B (decide (a.A > 2))) (wln (jn b ⟨d,rfl⟩))
   obtain rfl:=anF f j;exact vb f (pz (pz (pz (pz (vv (B false) (wln (jn b ⟨d,rfl⟩)))))))
  obtain rfl:=anF e p;refine vb e (pz (ps (va (B false) ?_)));have s:false=false:=rfl;obtain rfl:=anF s j;exact vb s (pz (pz (pz (pz (vv (B false) (wln (jn b ⟨d,rfl⟩)))))))
 rintro e_ w_ ⟨n,e0,_,rfl,N,rfl,m,rfl⟩;refine nrm (cn H (fun M H=>?_) (fun M H=>?_))
 ·refine sr ?_;obtain ⟨v38,t⟩:=(hG.mono (P.trans (l16.trans N))).get 0 (by decide);refine vx (l1 rU t.im) (va (v38) (wln (W.ret (bkr (thr ?_)))));obtain rfl:=si H;exact r1 (qq n ⟨v38,m,rfl,t⟩)
 refine W.skip (bkn (nrm (sr (va (.nilIface) (wln (W.ret ?_))))));obtain rfl:=si H;exact r1 (qq n ⟨.nilIface,m,rfl,rfl⟩)
def iX (sg:Sto) (p0:Option Nat) (p1:aL):Option (Sto):=
 (p0).bind fun e=>
 (sg.place_Pen[e]?).bind fun b=>
 (bO sg b.G).bind fun f=>
 if (p1.Kind==10)=true then
 (kg sg b.G 0 f p1.A).bind fun i=>
 some i
 else
 if (p1.Kind==11)=true then
 (jS sg b.G 0 f p1.A).bind fun j=>
 some j
 else
 if (p1.Kind==8)=true then
 (jS sg b.G b.At.Row f p1.A).bind fun g=>
 (g.place_Pen[e]?).bind fun c=>
 (dp c.At).bind fun d=>
 (g.set_place_Pen e (⟨c.G,d,c.Auto⟩:bi)).bind fun a=>
 some a
 else
 if (p1.Kind==9)=true then
 (kg sg b.G b.At.Row f p1.A).bind fun h=>
 (h.place_Pen[e]?).bind fun c=>
 (dp c.At).bind fun d=>
 (h.set_place_Pen e (⟨c.G,d,c.Auto⟩:bi)).bind fun a=>
 some a
 else
 (dp b.At).bind fun d=>
 (sg.set_place_Pen e (⟨b.G,d,b.Auto⟩:bi)).bind fun a=>
 some a
theorem qS (O0:Own c0 G F) (s:Rel c0 sg G) (p0:Option Nat) (f:aL) {r:Sto} (h2:Pt 2 c0 v1 p0) (h4:Sl (RI .u8) c0 v3 f.Bytes) (H:iX sg p0 f=some r): Calls prog 101 #[v1,.agg #[I f.Kind,I f.A,I f.B,v3]] c0.w (aN c0 fun c v=>∃G_:Gm,Own c G_ (F)∧Rel c r G_∧v= .tuple #[]):=by
 unfold iX at H;refine en func101 rfl rfl (sr ?_);obtain ⟨a5,a6,a7,rfl⟩:=(h4).form;refine me (bx 59 [I f.Kind,I f.A,I f.B,.slice a5 a6 a7] O0) ?_;rintro v12 p3 x ⟨t,rfl,O9,q⟩;refine wln (sr (va (v1) (bn H fun y3 y1 H=>?_)));obtain ⟨a,rfl,l⟩:=((h2.mono x)).get y1;refine vv (Q a) (bn H fun e z1 H=>?_);obtain ⟨v17,g,n⟩:=Rel.open_place_Pen (s.mono x) z1 l;refine vx (le1 0 jA (O9.gon g 0 rfl)) (bn H fun i a2 H=>cl (bJ O9 s.m e.G n a2) ?_);rintro v26 q3 b0 ⟨k,rfl⟩;refine va (I i) (wln (W.seq (sr (va (Q t) (vx (l1 u_3 ((mm q) 0 _ rfl)) (wln (W.block (sr (vv (B (f.Kind==10)) (wln (cn H (fun b2 H=>?_) (fun b2 H=>?_))))))))))))
 ·refine W.seq (rD [7] (Kp G []) k ?_);intro n1 z3 M;have t2:Kp G [] n1:=(Kp.nil M);refine ta 0 (Q a) (ta 1 (Q a) (ta 2 (Q a) (tkx 3 t2 (fun p h j=>le1 0 jA (j.gon g 0 rfl)) (ta 4 (I i) (ta 5 (Qo t (0+1)) (tx 6 (fun p h=>l1 u_3 ((mm q) 1 _ rfl)) (bn H fun i3 c2 H=>o1 7 (gc 7 (qC M s.m e.G 0 i f.A n.m c2) ?_))))))));rintro v37 q1 a4 ⟨z0,c1,j1,rfl⟩;refine ⟨.inl rfl,dn (nrm (W.ret (bkr (thr ?_))))⟩;obtain rfl:=si H;exact r0 (qq q1 ⟨z0,c1,j1,rfl⟩)
 refine sr (vv (B (f.Kind==11)) (wln (cn H (fun d2 H=>?_) (fun d2 H=>?_))))
 ·refine W.seq (rD [7] (Kp G []) k ?_);intro s1 b4 N;have u2:Kp G [] s1:=(Kp.nil N);refine ta 0 (Q a) (ta 1 (Q a) (ta 2 (Q a) (tkx 3 u2 (fun p h j=>le1 0 jA (j.gon g 0 rfl)) (ta 4 (I i) (ta 5 (Qo t (0+1)) (tx 6 (fun p h=>l1 u_3 ((mm q) 1 _ rfl)) (bn H fun j3 e2 H=>o1 7 (gc 7 (rN N s.m e.G 0 i f.A n.m e2) ?_))))))));rintro v48 t1 c4 ⟨a1,d1,k1,rfl⟩;refine ⟨.inl rfl,dn (nrm (W.ret (bkr (thr ?_))))⟩;obtain rfl:=si H;exact r0 (qq t1 ⟨a1,d1,k1,rfl⟩)
 refine sr (vv (B (f.Kind==8)) (wln (cn H (fun f2 H=>?_) (fun f2 H=>?_))))
 ·refine rD [12] (Kp G []) k ?_;intro u1 d4 P;have g0:Kp G [] u1:=(Kp.nil P);refine ta 0 (Q a) (ta 1 (Q a) (ta 2 (Q a) (tkx 3 g0 (fun p h j=>le1 0 jA (j.gon g 0 rfl)) (ta 4 (Q a) (ta 5 (Q a) (ta 6 (Qo a 1) (ta 7 (Qo a 1) (tkx 8 g0 (fun p h j=>le1 1 u_3 (j.gon g 0 rfl)) (ta 9 (I i) (ta 10 (Qo t (0+1)) (tx 11 (fun p h=>l1 u_3 ((mm q) 1 _ rfl)) (bn H fun k3 g2 H=>o1 12 (gc 12 (rN P s.m e.G e.At.Row i f.A n.m g2) ?_)))))))))))));rintro v59 s3 e4 ⟨m3,R,U,rfl⟩;refine ⟨.inl rfl,dn (bkn (nrm (W.region (vv (Q a) (va (Q a) (va (Qo a 1) (bn H fun d i2 H=>?_)))))))⟩;obtain ⟨D,Z,j2⟩:=Rel.open_place_Pen U i2 (tm l);refine vx (leN 24 1 [I d.At.Row,I d.At.Col,B d.At.Pending] (R.gon Z 0 rfl)) (bn H fun b k2 H=>cl (jQ R d.At k2) ?_);rintro i4 t3 d0 ⟨e1,rfl⟩;refine va (Q a) (va (Qo a 1) (md (gB 24 1 [I b.Row,I b.Col,B b.Pending] [D,I b.Row,I b.Col,B b.Pending,B d.Auto] 0 e1 Z ⟨rfl,rfl,rfl,trivial⟩) ?_));rintro w1 e0 f1;refine bn H fun o l2 H=>?_;obtain ⟨b1,g1,m1,x3,o3⟩:=Rel.put_place_Pen f1 (U.mono (d0.trans e0)) (E':=[(Eb a 42 [D,I b.Row,I b.Col,B b.Pending,B d.Auto])]) l2 ⟨a,D,(tm l),rfl,(j2.mono (d0.trans e0))⟩;refine WL.nil ?_;obtain rfl:=si H;exact n0 (qq w1 ⟨b1,g1,m1,rfl⟩)
 refine sr (vv (B (f.Kind==9)) (wln (cn H (fun m2 H=>?_) (fun m2 H=>?_))))
 ·refine rD [12] (Kp G []) k ?_;intro x1 f4 S;have h0:Kp G [] x1:=(Kp.nil S);refine ta 0 (Q a) (ta 1 (Q a) (ta 2 (Q a) (tkx 3 h0 (fun p h j=>le1 0 jA (j.gon g 0 rfl)) (ta 4 (Q a) (ta 5 (Q a) (ta 6 (Qo a 1) (ta 7 (Qo a 1) (tkx 8 h0 (fun p h j=>le1 1 u_3 (j.gon g 0 rfl)) (ta 9 (I i) (ta 10 (Qo t (0+1)) (tx 11 (fun p h=>l1 u_3 ((mm q) 1 _ rfl)) (bn H fun l3 n2 H=>o1 12 (gc 12 (qC S s.m e.G e.At.Row i f.A n.m n2) ?_)))))))))))));rintro j4 u3 g4 ⟨n3,T,X,rfl⟩;refine ⟨.inl rfl,dn (bkn (nrm (W.region (vv (Q a) (va (Q a) (va (Qo a 1) (bn H fun d o2 H=>?_)))))))⟩;obtain ⟨E,a0,p2⟩:=Rel.open_place_Pen X o2 (tm l);refine vx (leN 24 1 [I d.At.Row,I d.At.Col,B d.At.Pending] (T.gon a0 0 rfl)) (bn H fun b q2 H=>cl (jQ T d.At q2) ?_);rintro g3 w3 f0 ⟨i1,rfl⟩;refine va (Q a) (va (Qo a 1) (md (gB 24 1 [I b.Row,I b.Col,B b.Pending] [E,I b.Row,I b.Col,B b.Pending,B d.Auto] 0 i1 a0 ⟨rfl,rfl,rfl,trivial⟩) ?_));rintro u0 u k0;refine bn H fun o w0 H=>?_;obtain ⟨i0,l0,s0,c3,w2⟩:=Rel.put_place_Pen k0 (X.mono (f0.trans u)) (E':=[(Eb a 42 [E,I b.Row,I b.Col,B b.Pending,B d.Auto])]) w0 ⟨a,E,(tm l),rfl,(p2.mono (f0.trans u))⟩;refine WL.nil ?_;obtain rfl:=si H;exact n0 (qq u0 ⟨i0,l0,s0,rfl⟩)
 refine W.skip (bkn (nrm (W.region (vv (Q a) (va (Q a) (va (Qo a 1) (vx (leN 24 1 [I e.At.Row,I e.At.Col,B e.At.Pending] (k.gon g 0 rfl)) (bn H fun b x0 H=>cl (jQ k e.At x0) ?_))))))));rintro h3 b3 y ⟨m0,rfl⟩;refine va (Q a) (va (Qo a 1) (md (gB 24 1 [I b.Row,I b.Col,B b.Pending] [v17,I b.Row,I b.Col,B b.Pending,B e.Auto] 0 m0 g ⟨rfl,rfl,rfl,trivial⟩) ?_));rintro v0 z o0;refine bn H fun o y0 H=>?_;obtain ⟨j0,q0,t0,d3,x2⟩:=Rel.put_place_Pen o0 (s.mono (x.trans (b0.trans (y.trans z)))) (E':=[(Eb a 42 [v17,I b.Row,I b.Col,B b.Pending,B e.Auto])]) y0 ⟨a,v17,(tm l),rfl,(n.mono (b0.trans (y.trans z)))⟩;refine WL.nil ?_;obtain rfl:=si H;exact n0 (qq v0 ⟨j0,q0,t0,rfl⟩)
def lA (sg:Sto) (p0:Option Nat) (p1:Int):Option (Sto):=
 (p0).bind fun f=>
 (sg.place_Pen[f]?).bind fun b=>
 (bw sg b.G b.At.Row).bind fun a=>
 if (p1==0)=true then
 (kR sg a b.At.Col).bind fun c=>
 some c
 else
 if (p1==1)=true then
 (lL sg a b.At.Col).bind fun d=>
 some d
 else
 (km sg a).bind fun e=>
 some e
theorem uv (O0:Own c0 G F) (h:Rel c0 sg G) (hG:Gl [0,4] c0) (Z:Option Nat) (d:Int) {r:Sto} (h2:Pt 2 c0 v1 Z) (H:lA sg Z d=some r): Calls prog 174 #[v1,I d] c0.w (aN c0 fun c v=>∃G_:Gm,Own c G_ (F)∧Rel c r G_∧v= .tuple #[]):=by
 unfold lA at H;refine en func174 rfl rfl (W.seq (rD [] (Kp G []) O0 ?_));intro c3 X q;have p5:Kp G [] c3:=(Kp.nil q);refine ta 0 (v1) (bn H fun o0 h8 H=>?_);obtain ⟨a,rfl,h7⟩:=((h2.mono X)).get h8;refine ta 1 (Q a) (ta 2 (Q a) (bn H fun g h9 H=>?_));obtain ⟨v10,f,E⟩:=Rel.open_place_Pen (h.mono X) h9 h7;refine tkx 3 p5 (fun c' U j=>le1 0 jA (j.gon f 0 rfl)) (ta 4 (Q a) (ta 5 (Q a) (ta 6 (Qo a 1) (ta 7 (Qo a 1) (tkx 8 p5 (fun c' U j=>le1 1 u_3 (j.gon f 0 rfl)) (bn H fun e M H=>o1 9 (gc 9 (cQ q h.m g.G g.At.Row E M) ?_)))))));rintro v14 y q0 ⟨_,b,rfl,i⟩;have a0:Kp G [] y:=(Kp.nil b);refine ⟨.inr a0,ta 10 (v14) (dn (nrm (sr (va (I d) (wln (W.block (sr (vv (B (d==0)) (wln (cn H (fun N H=>?_) (fun N H=>?_)))))))))))⟩
 ·refine W.region (va (v14) (vv (Q a) (va (Qo a 1) (va (Qo a 2) (vx (le1 2 u_3 (b.gon f 0 rfl)) (bn H fun k0 P H=>cl (ws b h.m (hG.m.le (by decide)) e g.At.Col i P) ?_))))));rintro v30 z s0 ⟨k,o,t,rfl⟩;refine WL.nil (bkn ?_);obtain rfl:=si H;exact n0 (qq z ⟨k,o,t,rfl⟩)
 refine sr (vv (B (d==1)) (wln (cn H (fun R H=>?_) (fun R H=>?_))))
 ·refine W.region (va (v14) (vv (Q a) (va (Qo a 1) (va (Qo a 2) (vx (le1 2 u_3 (b.gon f 0 rfl)) (bn H fun l0 S H=>cl (xJ b h.m (hG.m.le (by decide)) e g.At.Col i S) ?_))))));rintro v38 A t0 ⟨l,p,u,rfl⟩;refine WL.nil (bkn ?_);obtain rfl:=si H;exact n0 (qq A ⟨l,p,u,rfl⟩)
 refine W.region (va (v14) (bn H fun m0 T H=>cl (uu b h.m (hG.m.le (by decide)) e i T) ?_));rintro v45 D u0 ⟨n,s,x,rfl⟩;refine WL.nil (bkn ?_);obtain rfl:=si H;exact n0 (qq D ⟨n,s,x,rfl⟩)
def mx (sg:Sto) (p0:Option Nat) (p1:Int):Option (Sto):=
 (lA sg p0 p1).bind fun c=>
 (p0).bind fun b=>
 (c.place_Pen[b]?).bind fun p=>
 (bO c p.G).bind fun d=>
 (cE (σ:=Int×Sto) (τ:=Sto) ((d - 0).toNat+1) (fun a=>
 if (decide (a.1 < d))=true then
 ((orE (p1==2) ((bI (p1==0) ((a.2.place_Pen[b]?).bind fun j=>
 some (decide (a.1 > j.At.Row)))).bind fun f=>
 some f)).bind fun e=>
 (orE e ((bI (p1==1) ((a.2.place_Pen[b]?).bind fun k=>
 some (decide (a.1 < k.At.Row)))).bind fun h=>
 some h)).bind fun g=>
 if g=true then
 (a.2.place_Pen[b]?).bind fun l=>
 (bw a.2 l.G a.1).bind fun m=>
 (km a.2 m).bind fun n=>
 some (n)
 else
 some (a.2)).bind fun o=>
 some (.inl ((w64 (a.1+1)),o))
 else
 some (.inr (a.2))) (0,c)).bind fun i=>
 some i
theorem wu (O0:Own c0 G F) (R0:Rel c0 sg G) (hG:Gl [0,4] c0) (p0:Option Nat) (f:Int) {r:Sto} (h2:Pt 2 c0 v1 p0) (H:mx sg p0 f=some r): Calls prog 175 #[v1,I f] c0.w (aN c0 fun c v=>∃G_:Gm,Own c G_ (F)∧Rel c r G_∧v= .tuple #[]):=by
 unfold mx at H;refine en func175 rfl rfl (sr (va (v1) (va (I f) (bn H fun q3 h3 H=>cl (uv O0 R0 (hG.le (by decide)) p0 f h2 h3) ?_))));rintro v9 c8 l8 ⟨G4,O5,R6,rfl⟩;refine wln (sr (va (v1) (bn H fun e3 j1 H=>?_)));obtain ⟨b,rfl,n⟩:=((h2.mono l8)).get j1;refine vv (Q b) (bn H fun k2 k1 H=>?_);obtain ⟨v14,n1,m1⟩:=Rel.open_place_Pen R6 k1 n;refine vx (le1 0 jA (O5.gon n1 0 rfl)) (bn H fun A q1 H=>cl (bJ O5 R6 k2.G m1 q1) ?_);rintro v23 R f3 ⟨x0,rfl⟩;refine va (I 0) (wln (W.block (bn H fun u2 U T=>lp U (fun a=>Jn R fun c l=>∃G_,Own c G_ (F)∧l= [(0,Q b),(1,I f),(12,I A),(13,I a.1)]∧Rel c a.2 G_) (fun S ex e w=>ex= .exit 0∧(Jn R fun c l=>∃G_,Own c G_ (F)∧l= []∧Rel c S G_) e w) ?_ ?_ ?_)))
 ·clear T U;intro a s3 i1 l2 H;revert i1 l2;rintro e_ w_ ⟨i,x2,_,rfl,g3,rfl,D,g,rfl,j⟩;refine sr (va (B (decide (a.1 < A))) (wln (W.seq (cn H (fun t1 H=>?_) (fun t1 H=>?_)))))
  ·refine W.skip (nrm (bn H fun t0 d w0=>W.seqJ (Jn i fun c l=>∃G_,Own c G_ (F)∧l= [(0,Q b),(1,I f),(12,I A),(13,I a.1)]∧Rel c t0 G_) ?_ ?_))
   ·refine W.block (sr (vv (I a.1) (wln (W.seq (bn d fun p2 X d=>bn d fun j0 z d=>W.join (Jn i fun c l=>Own c D (F)∧l= [(0,Q b),(1,I f),(4,I a.1),(12,I A),(13,I a.1),(43,B j0)]) ?_ ?_)))))
    ·clear d;refine W.region (va (I f) (va (B (f==2)) ?_));rcases bo (f==2) with o | o
     ·obtain rfl:=orT o X;refine vb o (pz (pz (pz (pz (pz (ps (va (B true) ?_)))))));have Z:true=true:=rfl;obtain rfl:=orT Z z;exact vb Z (pz (pz (pz (pz (pz (ps (va (B true) (wln (jn i ⟨g,rfl⟩)))))))))
     have u:=orF o X;refine vb o (wa (I f) (wa (B (f==0)) (wn (bn u fun q2 a0 u=>?_))));rcases bo (f==0) with p | p
     ·have E:=anT p a0;refine vb p (wa (I a.1) (wa (Q b) (wa (Q b) (wa (Qo b 1) (wa (Qo b 1) (wn (bn E fun k u1 E=>?_)))))));obtain ⟨v44,w1,b3⟩:=Rel.open_place_Pen j u1 (tm n);refine vx (le1 1 u_3 (g.gon w1 0 rfl)) (wa (B (decide (a.1 > k.At.Row))) (wn ?_));obtain rfl:=si E;refine va (B (decide (a.1 > k.At.Row))) ?_;obtain rfl:=si u;refine va (B (decide (a.1 > k.At.Row))) ?_;rcases bo (decide (a.1 > k.At.Row)) with q | q
      ·obtain rfl:=orT q z;exact vb q (pz (pz (pz (pz (pz (ps (va (B true) (wln (jn i ⟨g,rfl⟩)))))))))
      have x:=orF q z;refine vb q (wa (I f) (wa (B (f==1)) (wn (bn x fun k0 b0 x=>?_))));rcases bo (f==1) with s | s
      ·have M:=anT s b0;refine vb s (wa (I a.1) (wa (Q b) (wa (Q b) (wa (Qo b 1) (wa (Qo b 1) (wn (bn M fun h x1 M=>?_)))))));obtain ⟨v53,y1,c3⟩:=Rel.open_place_Pen j x1 (tm n);refine vx (le1 1 u_3 (g.gon y1 0 rfl)) (wa (B (decide (a.1 < h.At.Row))) (wn ?_));obtain rfl:=si M;refine va (B (decide (a.1 < h.At.Row))) ?_;obtain rfl:=si x;exact va (B (decide (a.1 < h.At.Row))) (wln (jn i ⟨g,rfl⟩))
      obtain rfl:=anF s b0;refine vb s (pz (pz (pz (ps (wa (B false) ?_)))));obtain rfl:=si x;exact va (B false) (wln (jn i ⟨g,rfl⟩))
     obtain rfl:=anF p a0;refine vb p (pz (pz (pz (ps (wa (B false) ?_)))));obtain rfl:=si u;refine va (B false) ?_;have d0:false=false:=rfl;have y:=orF d0 z;refine vb d0 (wa (I f) (wa (B (f==1)) (wn (bn y fun k0 e0 y=>?_))));rcases bo (f==1) with t | t
     ·have N:=anT t e0;refine vb t (wa (I a.1) (wa (Q b) (wa (Q b) (wa (Qo b 1) (wa (Qo b 1) (wn (bn N fun h z1 N=>?_)))))));obtain ⟨m3,a2,d3⟩:=Rel.open_place_Pen j z1 (tm n);refine vx (le1 1 u_3 (g.gon a2 0 rfl)) (wa (B (decide (a.1 < h.At.Row))) (wn ?_));obtain rfl:=si N;refine va (B (decide (a.1 < h.At.Row))) ?_;obtain rfl:=si y;exact va (B (decide (a.1 < h.At.Row))) (wln (jn i ⟨g,rfl⟩))
     obtain rfl:=anF t e0;refine vb t (pz (pz (pz (ps (wa (B false) ?_)))));obtain rfl:=si y;exact va (B false) (wln (jn i ⟨g,rfl⟩))
    rintro e_ w_ ⟨e1,y2,_,rfl,j2,rfl,P,rfl⟩;refine nrm (cn d (fun b2 d=>?_) (fun b2 d=>?_))
    ·refine W.region (vv (Q b) (va (Q b) (bn d fun m0 c2 d=>?_)));obtain ⟨n3,e2,d2⟩:=Rel.open_place_Pen (j.mono j2) c2 (tm n);refine vx (le1 0 jA (P.gon e2 0 rfl)) (va (I a.1) (bn d fun s0 f2 d=>cl (cQ P j.m m0.G a.1 d2 f2) ?_));rintro o3 w2 i3 ⟨_,z0,rfl,g2⟩;refine bn d fun v2 i2 d=>cl (uu z0 j.m (hG.m.le (by decide)) s0 g2 i2) ?_;rintro p3 f1 j3 ⟨u0,a1,c1,rfl⟩;refine WL.nil (bkn (nrm ?_));obtain rfl:=si d;exact jn f1 ⟨u0,a1,rfl,c1⟩
    refine W.skip (bkn (nrm ?_));obtain rfl:=si d;exact jn e1 ⟨D,P,rfl,j.m⟩
   rintro e_ w_ ⟨g1,z2,_,rfl,k3,rfl,v0,b1,rfl,d1⟩;refine W.region (vv (I (w64 (a.1+1))) (WL.nil ?_));obtain rfl:=si w0;exact ⟨_,rfl,jn g1 ⟨v0,b1,rfl,d1⟩⟩
  refine W.exit (thx ?_);obtain rfl:=si H;exact ⟨_,rfl,rfl,jn i ⟨D,g,rfl,j⟩⟩
 ·exact jn R ⟨G4,x0,rfl,R6.m⟩
 rintro _ e_ w_ ⟨rfl,h1,a3,_,rfl,l3,rfl,f0,g0,rfl,h0⟩;refine bke ?_;obtain rfl:=si T;exact n0 (qq h1 ⟨f0,g0,h0,rfl⟩)
def fT (sg:Sto) (p0:Option Nat) (p1:aL):Option (Sto):=
 (p0).bind fun e=>
 (sg.place_Pen[e]?).bind fun a=>
 (bw sg a.G a.At.Row).bind fun c=>
 if (p1.Kind==2)=true then
 (cg sg a.G).bind fun f=>
 (bO sg a.G).bind fun g=>
 (jd p1.A p1.B f g).bind fun h=>
 (sg.set_place_Pen e (⟨a.G,h,a.Auto⟩:bi)).bind fun d=>
 some d
 else
 if (p1.Kind==3)=true then
 (lA sg p0 p1.A).bind fun i=>
 some i
 else
 if (p1.Kind==4)=true then
 (mx sg p0 p1.A).bind fun j=>
 some j
 else
 if (p1.Kind==5)=true then
 (jT sg c a.At.Col p1.A).bind fun k=>
 some k
 else
 if (p1.Kind==6)=true then
 (ke sg c a.At.Col p1.A).bind fun l=>
 some l
 else
 if (p1.Kind==7)=true then
 (kf sg c a.At.Col p1.A).bind fun m=>
 some m
 else
 if (p1.Kind==12)=true then
 (sg.set_place_Pen e (⟨a.G,a.At,p1.A != 0⟩:bi)).bind fun b=>
 some b
 else
 some sg
theorem xK (O0:Own c0 G F) (k:Rel c0 sg G) (hG:Gl [0,4] c0) (D:Option Nat) (b:aL) {r:Sto} (h2:Pt 2 c0 v1 D) (h4:Sl (RI .u8) c0 v3 b.Bytes) (H:fT sg D b=some r): Calls prog 102 #[v1,.agg #[I b.Kind,I b.A,I b.B,v3]] c0.w (aN c0 fun c v=>∃G_:Gm,Own c G_ (F)∧Rel c r G_∧v= .tuple #[]):=by
 unfold fT at H;refine en func102 rfl rfl (sr ?_);obtain ⟨a5,a6,a7,rfl⟩:=(h4).form;refine me (bx 59 [I b.Kind,I b.A,I b.B,.slice a5 a6 a7] O0) ?_;rintro v12 d4 q ⟨n,rfl,O9,i⟩;refine wln (W.seq (rD [] (Kp G []) O9 ?_));intro a2 s E;have e0:Kp G [] a2:=(Kp.nil E);refine ta 0 (v1) (bn H fun f4 m2 H=>?_);obtain ⟨a,rfl,x⟩:=((h2.mono (q.trans s))).get m2;refine ta 1 (Q a) (ta 2 (Q a) (bn H fun d n2 H=>?_));obtain ⟨v20,h,o⟩:=Rel.open_place_Pen (k.mono (q.trans s)) n2 x;refine tkx 3 e0 (fun l f j=>le1 0 jA (j.gon h 0 rfl)) (ta 4 (Q a) (ta 5 (Q a) (ta 6 (Qo a 1) (ta 7 (Qo a 1) (tkx 8 e0 (fun l f j=>le1 1 u_3 (j.gon h 0 rfl)) (bn H fun p o2 H=>o1 9 (gc 9 (cQ E k.m d.G d.At.Row o o2) ?_)))))));rintro v24 U t ⟨_,g,rfl,y⟩;have c3:Kp G [] U:=(Kp.nil g);refine ⟨.inr c3,ta 10 (v24) (dn (nrm (sr (va (Q n) (vx (l1 u_3 ((mm i) 0 _ rfl)) (wln (W.block (sr (vv (B (b.Kind==2)) (wln (cn H (fun p2 H=>?_) (fun p2 H=>?_))))))))))))⟩
 ·refine rD [18] (Kp G []) g ?_;intro b2 X M;have f0:Kp G [] b2:=(Kp.nil M);refine ta 0 (Q a) (ta 1 (Qo n (0+1)) (tx 2 (fun l f=>l1 u_3 ((mm i) 1 _ rfl)) (ta 3 (Qo n (0+2)) (tx 4 (fun l f=>l1 u_3 ((mm i) 2 _ rfl)) (ta 5 (Q a) (ta 6 (Q a) (ta 7 (Q a) (tkx 8 f0 (fun l f j=>le1 0 jA (j.gon h 0 rfl)) (ta 10 (Q a) (ta 11 (Q a) (ta 12 (Q a) (tkx 13 f0 (fun l f j=>le1 0 jA (j.gon h 0 rfl)) (bn H fun f1 q2 H=>o1 9 (gc 9 (cF M k.m d.G o.m q2) ?_))))))))))))));rintro v43 c2 Z ⟨N,rfl⟩;have d3:Kp G [] c2:=(Kp.nil N);refine ⟨.inr d3,bn H fun g1 s2 H=>o1 14 (gc 14 (bJ N k.m d.G o.m s2) ?_)⟩;rintro v51 d2 a0 ⟨P,rfl⟩;have e3:Kp G [] d2:=(Kp.nil P);refine ⟨.inr e3,bn H fun e t2 H=>o1 15 (gc 15 (rQ P b.A b.B f1 g1 t2) ?_)⟩;rintro v59 e2 b0 ⟨R,rfl⟩;have f3:Kp G [] e2:=(Kp.nil R);refine ⟨.inr f3,ta 16 (Q a) (ta 17 (Qo a 1) (o1 18 (gD 18 (gB 24 1 [I e.Row,I e.Col,B e.Pending] [v20,I e.Row,I e.Col,B e.Pending,B d.Auto] 0 R h ⟨rfl,rfl,rfl,trivial⟩) ?_)))⟩;rintro f2 d0 n1;refine bn H fun h1 u2 H=>?_;obtain ⟨i1,q1,w1,e4,c4⟩:=Rel.put_place_Pen n1 (k.mono (q.trans (s.trans (t.trans (X.trans (Z.trans (a0.trans (b0.trans d0)))))))) (E':=[(Eb a 42 [v20,I e.Row,I e.Col,B e.Pending,B d.Auto])]) u2 ⟨a,v20,(tm x),rfl,(o.mono (t.trans (X.trans (Z.trans (a0.trans (b0.trans d0))))))⟩;refine ⟨.inl rfl,dn (bkn ?_)⟩;obtain rfl:=si H;exact n0 (qq f2 ⟨i1,q1,w1,rfl⟩)
 refine sr (vv (B (b.Kind==3)) (wln (cn H (fun v2 H=>?_) (fun v2 H=>?_))))
 ·refine W.region (va (Q a) (va (Qo n (0+1)) (vx (l1 u_3 ((mm i) 1 _ rfl)) (bn H fun x3 w2 H=>cl (uv g k.m (hG.m.le (by decide)) D b.A h2.m w2) ?_))));rintro m4 g2 g4 ⟨j1,s1,x1,rfl⟩;refine WL.nil (bkn ?_);obtain rfl:=si H;exact n0 (qq g2 ⟨j1,s1,x1,rfl⟩)
 refine sr (vv (B (b.Kind==4)) (wln (cn H (fun x2 H=>?_) (fun x2 H=>?_))))
 ·refine W.region (va (Q a) (va (Qo n (0+1)) (vx (l1 u_3 ((mm i) 1 _ rfl)) (bn H fun y3 y2 H=>cl (wu g k.m (hG.m.le (by decide)) D b.A h2.m y2) ?_))));rintro n4 i2 i4 ⟨k1,t1,y1,rfl⟩;refine WL.nil (bkn ?_);obtain rfl:=si H;exact n0 (qq i2 ⟨k1,t1,y1,rfl⟩)
 refine sr (vv (B (b.Kind==5)) (wln (cn H (fun z2 H=>?_) (fun z2 H=>?_))))
 ·refine rD [8] (Kp G []) g ?_;intro j2 j4 S;have g3:Kp G [] j2:=(Kp.nil S);refine ta 0 (v24) (ta 1 (Q a) (ta 2 (Q a) (ta 3 (Qo a 1) (ta 4 (Qo a 2) (tkx 5 g3 (fun l f j=>le1 2 u_3 (j.gon h 0 rfl)) (ta 6 (Qo n (0+1)) (tx 7 (fun l f=>l1 u_3 ((mm i) 1 _ rfl)) (bn H fun z3 a3 H=>o1 8 (gc 8 (wt S k.m (hG.m.le (by decide)) p d.At.Col b.A y.m a3) ?_)))))))));rintro o4 k2 k4 ⟨m1,u1,z1,rfl⟩;refine ⟨.inl rfl,dn (bkn ?_)⟩;obtain rfl:=si H;exact n0 (qq k2 ⟨m1,u1,z1,rfl⟩)
 refine sr (vv (B (b.Kind==6)) (wln (cn H (fun b3 H=>?_) (fun b3 H=>?_))))
 ·refine rD [8] (Kp G []) g ?_;intro l2 l4 T;have h3:Kp G [] l2:=(Kp.nil T);refine ta 0 (v24) (ta 1 (Q a) (ta 2 (Q a) (ta 3 (Qo a 1) (ta 4 (Qo a 2) (tkx 5 h3 (fun l f j=>le1 2 u_3 (j.gon h 0 rfl)) (ta 6 (Qo n (0+1)) (tx 7 (fun l f=>l1 u_3 ((mm i) 1 _ rfl)) (bn H fun a4 x0 H=>o1 8 (gc 8 (vJ T k.m (hG.m.le (by decide)) p d.At.Col b.A y.m x0) ?_)))))))));rintro u3 t0 q3 ⟨g0,j0,o0,rfl⟩;refine ⟨.inl rfl,dn (bkn ?_)⟩;obtain rfl:=si H;exact n0 (qq t0 ⟨g0,j0,o0,rfl⟩)
 refine sr (vv (B (b.Kind==7)) (wln (cn H (fun y0 H=>?_) (fun y0 H=>?_))))
 ·refine rD [8] (Kp G []) g ?_;intro u0 s3 u;have d1:Kp G [] u0:=(Kp.nil u);refine ta 0 (v24) (ta 1 (Q a) (ta 2 (Q a) (ta 3 (Qo a 1) (ta 4 (Qo a 2) (tkx 5 d1 (fun l f j=>le1 2 u_3 (j.gon h 0 rfl)) (ta 6 (Qo n (0+1)) (tx 7 (fun l f=>l1 u_3 ((mm i) 1 _ rfl)) (bn H fun b4 z0 H=>o1 8 (gc 8 (vK u k.m (hG.m.le (by decide)) p d.At.Col b.A y.m z0) ?_)))))))));rintro w3 v0 t3 ⟨h0,k0,q0,rfl⟩;refine ⟨.inl rfl,dn (bkn ?_)⟩;obtain rfl:=si H;exact n0 (qq v0 ⟨h0,k0,q0,rfl⟩)
 refine sr (vv (B (b.Kind==12)) (wln (cn H (fun a1 H=>?_) (fun a1 H=>?_))))
 ·refine W.region (va (Q a) (va (Qo n (0+1)) (vx (l1 u_3 ((mm i) 1 _ rfl)) (va (B (b.A != 0)) (va (Q a) (va (Qo a 4) (md (gC 4 4 (B (b.A != 0)) [v20,I d.At.Row,I d.At.Col,B d.At.Pending,B (b.A != 0)] 0 g h ⟨rfl,trivial⟩) ?_)))))));rintro w0 z l0;refine bn H fun e1 b1 H=>?_;obtain ⟨i0,m0,s0,o3,k3⟩:=Rel.put_place_Pen l0 (k.mono (q.trans (s.trans (t.trans z)))) (E':=[(Eb a 42 [v20,I d.At.Row,I d.At.Col,B d.At.Pending,B (b.A != 0)])]) b1 ⟨a,v20,(tm x),rfl,(o.mono (t.trans z))⟩;refine WL.nil (bkn ?_);obtain rfl:=si H;exact n0 (qq w0 ⟨i0,m0,s0,rfl⟩)
 refine W.skip (bkn ?_);obtain rfl:=si H;exact n0 (qq U ⟨G,g,k.m,rfl⟩)
def oH (sg:Sto) (p0:Option Nat) (p1:aL):Option (Sto×Er):=
 (kD p1).bind fun g=>
 if (!g.isNil)=true then
 some (sg,g)
 else
 (orE p0.isNone ((p0).bind fun i=>
 (sg.place_Pen[i]?).bind fun j=>
 some j.G.isNone)).bind fun h=>
 if h=true then
 some (sg,Er.nil)
 else
 (p0).bind fun d=>
 (sg.place_Pen[d]?).bind fun b=>
 (cg sg b.G).bind fun k=>
 (bO sg b.G).bind fun l=>
 (fU b.At k l).bind fun e=>
 (sg.set_place_Pen d (⟨b.G,e,b.Auto⟩:bi)).bind fun f=>
 (f.set_place_Pen d (⟨b.G,(⟨e.Row,e.Col,false⟩:ai),b.Auto⟩:bi)).bind fun a=>
 (if (p1.Kind==8)=true then
 (iX a p0 p1).bind fun c=>
 some (c)
 else
 if (p1.Kind==9)=true then
 (iX a p0 p1).bind fun c=>
 some (c)
 else
 (if (p1.Kind==10)=true then
 some (p1.Kind==10)
 else
 some (p1.Kind==11)).bind fun o=>
 if o=true then
 (iX a p0 p1).bind fun c=>
 some (c)
 else
 (fT a p0 p1).bind fun m=>
 some (m)).bind fun n=>
 some (n,Er.nil)
theorem B3 (O0:Own c0 G F) (t:Rel c0 sg G) (hG:Gl [0,4] c0) (s:Option Nat) (e:aL) {r:Sto×Er} (u:Pt 2 c0 v1 s) (P:Sl (RI .u8) c0 v3 e.Bytes) (H:oH sg s e=some r): Calls prog 30 #[v1,.agg #[I e.Kind,I e.A,I e.B,v3]] c0.w (aN c0 fun c v=>∃y1,∃G_:Gm,Own c G_ (F)∧Rel c r.1 G_∧v=y1∧RE 305 179 c y1 r.2):=by
 unfold oH at H;refine en func30 rfl rfl (sr ?_);obtain ⟨a5,a6,a7,rfl⟩:=(P).form;refine me (bx 59 [I e.Kind,I e.A,I e.B,.slice a5 a6 a7] O0) ?_;rintro v12 v4 p ⟨b8,rfl,O9,k⟩;refine va (.nilIface) (wln (W.seq (sr (vx (lN 59 k) (bn H fun w3 y2 H=>cl (tu O9 (hG.m.le (by decide)) e P.m y2) ?_)))));rintro v14 D q ⟨_,x,rfl,o0⟩;refine va (v14) (wln (sr (va (v14) (vr (B (!w3.isNil)) (by rcases (o0).cs with ⟨h,i⟩ | ⟨b_,h,i⟩ | ⟨b_,h,i⟩ <;> (subst h; rw [i]; kernel_rfl)) (wln (cn H (fun z2 H=>?_) (fun z2 H=>?_)))))))
 ·refine sr (vv (v14) (wln (W.ret (thr ?_))));obtain rfl:=si H;exact r1 (qq D ⟨v14,G,x,t.m,rfl,o0⟩)
 refine W.skip (nrm (W.seq (W.seq (bn H fun n1 q0 H=>W.join (Jn D fun c l=>Own c G (F)∧l= [(0,v1),(3,Q b8),(19,B n1)]) ?_ ?_))))
 ·clear H;refine W.region (va (v1) (vr (B s.isNone) (by rcases u.m.cs with ⟨h,i⟩ | ⟨b_,h,i⟩ <;> (subst h; rw [i]; kernel_rfl)) ?_));rcases bo (s.isNone) with o | o
  ·obtain rfl:=orT o q0;exact vb o (pz (pz (ps (va (B true) (wln (jn D ⟨x,rfl⟩))))))
  have n:=orF o q0;refine vb o (wa (v1) (wn (bn n fun g4 b3 n=>?_)));obtain ⟨m0,rfl,a3⟩:=((u.mono (p.trans q))).get b3;refine va (Q m0) (wa (Q m0) (wn (bn n fun e0 c3 n=>?_)));obtain ⟨v30,e3,d3⟩:=Rel.open_place_Pen (t.mono (p.trans q)) c3 a3;refine vx (le1 0 jA (x.gon e3 0 rfl)) (wn (vr (B e0.G.isNone) (by rcases (d3).cs with ⟨h,i⟩ | ⟨b_,h,i⟩ <;> (subst h; rw [i]; kernel_rfl)) ?_));obtain rfl:=si n;exact va (B e0.G.isNone) (wln (jn D ⟨x,rfl⟩))
 rintro e_ w_ ⟨q2,x4,_,rfl,U,rfl,h0,rfl⟩;refine nrm (cn H (fun f3 H=>?_) (fun f3 H=>?_))
 ·refine sr (va (.nilIface) (wln (W.ret (thr ?_))));obtain rfl:=si H;exact r1 (qq q2 ⟨.nilIface,G,h0,t.m,rfl,rfl⟩)
 refine W.skip (nrm (W.seq (rD [18] (Kp G []) h0 ?_)));intro s2 X i0;have f0:Kp G [] s2:=(Kp.nil i0);refine ta 0 (v1) (ta 1 (v1) (bn H fun i4 g3 H=>?_));obtain ⟨a,rfl,S⟩:=((u.mono (p.trans (q.trans (U.trans X))))).get g3;refine ta 2 (Q a) (ta 3 (Qo a 1) (bn H fun d h3 H=>?_));obtain ⟨v47,N,M⟩:=Rel.open_place_Pen (t.mono (p.trans (q.trans (U.trans X)))) h3 S;refine tkx 4 f0 (fun c' s0 T=>leN 24 1 [I d.At.Row,I d.At.Col,B d.At.Pending] (T.gon N 0 rfl)) (ta 5 (Q a) (ta 6 (Q a) (ta 7 (Q a) (tkx 8 f0 (fun c' s0 T=>le1 0 jA (T.gon N 0 rfl)) (ta 10 (Q a) (ta 11 (Q a) (ta 12 (Q a) (tkx 13 f0 (fun c' s0 T=>le1 0 jA (T.gon N 0 rfl)) (bn H fun z1 i3 H=>o1 9 (gc 9 (cF i0 t.m d.G M i3) ?_))))))))));rintro v56 t2 Z ⟨j0,rfl⟩;have q3:Kp G [] t2:=(Kp.nil j0);refine ⟨.inr q3,bn H fun a2 j3 H=>o1 14 (gc 14 (bJ j0 t.m d.G M.m j3) ?_)⟩;rintro b5 u2 a0 ⟨k0,rfl⟩;have s3:Kp G [] u2:=(Kp.nil k0);refine ⟨.inr s3,bn H fun b k3 H=>o1 15 (gc 15 (ez k0 d.At z1 a2 k3) ?_)⟩;rintro c5 v2 b0 ⟨l0,rfl⟩;have t3:Kp G [] v2:=(Kp.nil l0);refine ⟨.inr t3,ta 16 (Q a) (ta 17 (Qo a 1) (o1 18 (gD 18 (gB 24 1 [I b.Row,I b.Col,B b.Pending] [v47,I b.Row,I b.Col,B b.Pending,B d.Auto] 0 l0 N ⟨rfl,rfl,rfl,trivial⟩) ?_)))⟩;rintro w4 d0 j2;refine bn H fun d2 m3 H=>?_;obtain ⟨s4,k2,n2,l3,t4⟩:=Rel.put_place_Pen j2 (t.mono (p.trans (q.trans (U.trans (X.trans (Z.trans (a0.trans (b0.trans d0)))))))) (E':=[(Eb a 42 [v47,I b.Row,I b.Col,B b.Pending,B d.Auto])]) m3 ⟨a,v47,(tm S),rfl,(M.mono (Z.trans (a0.trans (b0.trans d0))))⟩;refine ⟨.inl rfl,dn (nrm (sr (vv (Q a) (va (Qo a 1) (va (Qo a 3) (md (gC 4 3 (B false) [v47,I b.Row,I b.Col,B false,B d.Auto] 0 k2 l3 ⟨rfl,trivial⟩) ?_))))))⟩;rintro E t0 l2;refine bn H fun e2 n3 H=>?_;obtain ⟨f2,y,z,y4,u4⟩:=Rel.put_place_Pen l2 (n2.mono t0) (E':=[(Eb a 42 [v47,I b.Row,I b.Col,B false,B d.Auto])]) n3 ⟨a,v47,(tm S),rfl,(M.mono (Z.trans (a0.trans (b0.trans (d0.trans t0)))))⟩;refine wln (bn H fun b2 f i2=>W.seqJ (Jn E fun c l=>∃G_,Own c G_ (F)∧l= []∧Rel c b2 G_) ?_ ?_)
 ·refine sr (va (Q b8) (vx (l1 u_3 ((mm k) 0 _ rfl)) (wln (W.block (W.seq (W.block (W.seq (W.block (W.block (W.block (W.seq (W.seq (sr (vv (B (e.Kind==8)) (wln (cn f (fun o3 f=>?_) (fun o3 f=>?_)))))))))))))))))
  ·refine W.exit (thx (thx (bke (bkn (bkn (nrm (sr (va (Q a) (vx (lN 59 (mm k)) (bn f fun g0 p3 f=>cl (qS y z s e u.m P.m p3) ?_))))))))));rintro d5 w2 z4 ⟨g2,m2,o2,rfl⟩;refine wln (W.exit (bko rfl (thx (bke (nrm ?_)))));obtain rfl:=si f;exact jn w2 ⟨g2,m2,rfl,o2⟩
  refine W.skip (nrm (W.seq (sr (vv (B (e.Kind==9)) (wln (cn f (fun q1 f=>?_) (fun q1 f=>?_)))))))
  ·refine W.exit (thx (thx (bko rfl (bke (bkn (nrm (sr (va (Q a) (vx (lN 59 (mm k)) (bn f fun g0 s1 f=>cl (qS y z s e u.m P.m s1) ?_))))))))));rintro o4 i1 j4 ⟨u0,y0,c1,rfl⟩;refine wln (W.exit (bko rfl (thx (bke (nrm ?_)))));obtain rfl:=si f;exact jn i1 ⟨u0,y0,rfl,c1⟩
  refine W.skip (nrm (bn f fun c2 j g=>W.seqJ (Jn E fun c l=>Own c f2 (F)∧l= [(0,Q a),(3,Q b8),(48,B c2)]) ?_ ?_))
  ·refine sr (vv (B (e.Kind==10)) (wln (cn j (fun t1 j=>?_) (fun t1 j=>?_))))
   ·refine W.skip (nrm ?_);obtain rfl:=si j;exact jn E ⟨y,rfl⟩
   refine W.region (vv (B (e.Kind==11)) (wln ?_));obtain rfl:=si j;exact jn E ⟨y,rfl⟩
  rintro e_ w_ ⟨d4,e4,_,rfl,k4,rfl,R,rfl⟩;refine cn g (fun u1 g=>?_) (fun u1 g=>?_)
  ·refine W.exit (thx (bko rfl (bko rfl (bke (nrm (sr (va (Q a) (vx (lN 59 (mm k)) (bn g fun g0 w1 g=>cl (qS R z.m s e u.m P.m w1) ?_)))))))));rintro p4 j1 l4 ⟨v0,z0,d1,rfl⟩;refine wln (W.exit (bko rfl (thx (bke (nrm ?_)))));obtain rfl:=si g;exact jn j1 ⟨v0,z0,rfl,d1⟩
  refine W.skip (nrm (W.exit (bko rfl (bko rfl (bko rfl (thx (bke (nrm (sr (va (Q a) (vx (lN 59 (mm k)) (bn g fun r4 x1 g=>cl (xK R z.m (hG.m.le (by decide)) s e u.m P.m x1) ?_))))))))))));rintro q4 k1 m4 ⟨w0,a1,e1,rfl⟩;refine wln (W.exit (bke (nrm ?_)));obtain rfl:=si g;exact jn k1 ⟨w0,a1,rfl,e1⟩
 rintro e_ w_ ⟨m1,f4,_,rfl,n4,rfl,x0,b1,rfl,f1⟩;refine sr (va (.nilIface) (wln (W.ret ?_)));obtain rfl:=si i2;exact r1 (qq m1 ⟨.nilIface,x0,b1,f1,rfl,rfl⟩)
def fw (p0:aL):Option (Int):=
 (orE (decide (p0.Kind < 2)) (some (decide (p0.Kind > 12)))).bind fun d=>
 if d=true then
 some 5
 else
 (orE (p0.Kind==3) (some (p0.Kind==4))).bind fun a=>
 (bI a ((orE (decide (p0.A < 0)) (some (decide (p0.A > 2)))).bind fun c=>
 some c)).bind fun b=>
 if b=true then
 some 3
 else
 some 0
theorem pL (Z:Own c0 G F) (a:aL) {r:Int} (h2:Sl (RI .u8) c0 v1 a.Bytes) (H:fw a=some r): Calls prog 26 #[.agg #[I a.Kind,I a.A,I a.B,v1]] c0.w (aN c0 fun c v=>Own c G (F)∧v=I r):=by
 unfold fw at H;refine en func26 rfl rfl (sr ?_);obtain ⟨a3,a4,a5,rfl⟩:=(h2).form;refine me (bx 59 [I a.Kind,I a.A,I a.B,.slice a3 a4 a5] Z) ?_;rintro v10 z l9 ⟨e,rfl,S,k⟩;refine va (I 0) (wln (W.seq (W.seq (bn H fun T s H=>W.join (Jn z fun c l=>Own c G (F)∧l= [(1,Q e),(10,B T)]) ?_ ?_))))
 ·clear H;refine W.region (va (Q e) (vx (l1 u_3 (k 0 _ rfl)) (va (B (decide (a.Kind < 2))) ?_)));rcases bo (decide (a.Kind < 2)) with f | f
  ·obtain rfl:=orT f s;exact vb f (pz (ps (va (B true) (wln (jn z ⟨S,rfl⟩)))))
  have M:=orF f s;refine vb f (wa (Q e) (wn (vx (l1 u_3 (k 0 _ rfl)) (wa (B (decide (a.Kind > 12))) ?_))));obtain rfl:=si M;exact va (B (decide (a.Kind > 12))) (wln (jn z ⟨S,rfl⟩))
 rintro e_ w_ ⟨b,i0,_,rfl,k0,rfl,d,rfl⟩;refine nrm (cn H (fun U H=>?_) (fun U H=>?_))
 ·refine sr (va (I 5) (wln (W.ret (thr ?_))));obtain rfl:=si H;exact r1 (qq b ⟨d,rfl⟩)
 refine W.skip (nrm (W.seq (W.seq (bn H fun e0 t H=>bn H fun D o H=>W.join (Jn b fun c l=>Own c G (F)∧l= [(28,B D)]) ?_ ?_))))
 ·clear H;refine W.region (va (Q e) (vx (l1 u_3 ((mm k) 0 _ rfl)) (va (B (a.Kind==3)) ?_)));rcases bo (a.Kind==3) with g | g
  ·obtain rfl:=orT g t;refine vb g (pz (ps (va (B true) ?_)));have u:true=true:=rfl;have m:=anT u o;refine vb u (wa (Qo e (0+1)) (wn (vx (l1 u_3 ((mm k) 1 _ rfl)) (wa (B (decide (a.A < 0))) (wn (bn m fun E x m=>?_))))));rcases bo (decide (a.A < 0)) with h | h
   ·obtain rfl:=orT h x;refine vb h (pz (ps (wa (B true) ?_)));obtain rfl:=si m;exact va (B true) (wln (jn b ⟨d,rfl⟩))
   have N:=orF h x;refine vb h (wa (Qo e (0+1)) (wn (vx (l1 u_3 ((mm k) 1 _ rfl)) (wa (B (decide (a.A > 2))) (wn ?_)))));obtain rfl:=si N;refine va (B (decide (a.A > 2))) ?_;obtain rfl:=si m;exact va (B (decide (a.A > 2))) (wln (jn b ⟨d,rfl⟩))
  have P:=orF g t;refine vb g (wa (Q e) (wn (vx (l1 u_3 ((mm k) 0 _ rfl)) (wa (B (a.Kind==4)) ?_))));obtain rfl:=si P;refine va (B (a.Kind==4)) ?_;rcases bo (a.Kind==4) with i | i
  ·have n:=anT i o;refine vb i (wa (Qo e (0+1)) (wn (vx (l1 u_3 ((mm k) 1 _ rfl)) (wa (B (decide (a.A < 0))) (wn (bn n fun E y n=>?_))))));rcases bo (decide (a.A < 0)) with j | j
   ·obtain rfl:=orT j y;refine vb j (pz (ps (wa (B true) ?_)));obtain rfl:=si n;exact va (B true) (wln (jn b ⟨d,rfl⟩))
   have R:=orF j y;refine vb j (wa (Qo e (0+1)) (wn (vx (l1 u_3 ((mm k) 1 _ rfl)) (wa (B (decide (a.A > 2))) (wn ?_)))));obtain rfl:=si R;refine va (B (decide (a.A > 2))) ?_;obtain rfl:=si n;exact va (B (decide (a.A > 2))) (wln (jn b ⟨d,rfl⟩))
  obtain rfl:=anF i o;exact vb i (pz (pz (pz (pz (va (B false) (wln (jn b ⟨d,rfl⟩)))))))
 rintro e_ w_ ⟨q,j0,_,rfl,l0,rfl,p,rfl⟩;refine nrm (cn H (fun X H=>?_) (fun X H=>?_))
 ·refine sr (va (I 3) (wln (W.ret (thr ?_))));obtain rfl:=si H;exact r1 (qq q ⟨p,rfl⟩)
 refine W.skip (nrm (sr (va (I 0) (wln (W.ret ?_)))));obtain rfl:=si H;exact r1 (qq q ⟨p,rfl⟩)
def cN (p0:aa) (p1:Int) (p2:Int) (p3:Int) (p4:Int):Option (aa):=
 (idx p0.L p1).bind fun d=>
 (idx p0.L p1).bind fun b=>
 (gE d.Cells b.Wrap p2 p3 p4).bind fun a=>
 (bZ p0 p1 (⟨a.1,a.2⟩:ak)).bind fun c=>
 some c
theorem kK (O0:Own c0 G F) (d:aa) (f:Int) (q:Int) (s:Int) (t:Int) {r:aa} (g:Sl am c0 v1 d.L) (H:cN d f q s t=some r): Calls prog 94 #[.agg #[v1,I d.At.Row,I d.At.Col,B d.At.Pending,B d.Auto],I f,I q,I s,I t] c0.w (aN c0 fun c v=>∃P y2,Own c G (es true am P 71 y2 r.L :: F)∧v= .agg #[P,I r.At.Row,I r.At.Col,B r.At.Pending,B r.Auto]∧OA am c P y2 r.L):=by
 unfold cN at H;refine en func94 rfl rfl (sr ?_);obtain ⟨h,i,j,rfl⟩:=(g).form;refine me (bx 43 [.slice h i j,I d.At.Row,I d.At.Col,B d.At.Pending,B d.Auto] O0) ?_;rintro v10 c9 l9 ⟨b6,rfl,O7,M⟩;refine me (al 43 [Y,I 0,I 0,B false,B false] O7) ?_;rintro v14 a1 D ⟨z0,rfl,R⟩;refine wln (W.seq (rD [] (Kp G0 []) R ?_));intro e0 E S;have g1:Kp G0 [] e0:=Kp.nil0;refine ta 0 (Q b6) (tx 1 (fun o e=>l1 dX ((mm M) 0 _ rfl)) (ta 2 (I f) (bn H fun t0 y H=>?_)));obtain ⟨x0,g0,m0⟩:=Sl.at (g.mono (l9.trans (D.trans E))) (aT y);obtain ⟨v22,rfl,h0⟩:=g0;refine tx 3 (fun o e=>ix dX g.m y) (ta 4 (Qo (sb (.slice h i j)) (so (.slice h i j)+f.toNat * 2)) (tx 5 (fun o e=>l1 ck ((mm m0) 0 _ rfl)) (ta 6 (Q b6) (tx 7 (fun o e=>l1 dX ((mm M) 0 _ rfl)) (ta 8 (I f) (bn H fun N z H=>?_))))));obtain ⟨y0,i0,o0⟩:=Sl.at (g.mono (l9.trans (D.trans E))) (aT z);obtain ⟨v28,rfl,c1⟩:=i0;refine tx 9 (fun o e=>ix dX g.m z) (ta 10 (Qo (sb (.slice h i j)) (so (.slice h i j)+f.toNat * 2+1)) (tx 11 (fun o e=>l1 u_4 ((mm o0) 1 _ rfl)) (ta 12 (I q) (ta 13 (I s) (ta 14 (I t) (bn H fun b j0 H=>o1 15 (gc 15 (ru S t0.Cells N.Wrap q s t h0 j0) ?_)))))));rintro v38 f0 d1 ⟨v31,T,rfl,A⟩;have q0:Kp G0 [] f0:=Kp.nil0;refine ⟨.inr q0,ta 16 (.tuple #[v31,B b.2]) (ta 17 (v31) (ta 18 (B b.2) (ta 19 (v31) (ta 20 (B b.2) (dn (nrm (sr (vx (lN 43 (mm M)) (va (I f) (va (v31) (va (B b.2) ?_)))))))))))⟩;obtain ⟨Z,a0,b0,rfl⟩:=(A).form;refine va (.agg #[.slice Z a0 b0,B b.2]) (bn H fun a k0 H=>cl (fV T d f (⟨b.1,b.2⟩:ak) g.m A k0) ?_);rintro v52 b1 e1 ⟨v44,s0,U,rfl,p⟩;obtain ⟨k,l,n,rfl⟩:=(p).form;refine md (sA 43 [.slice k l n,I a.At.Row,I a.At.Col,B a.At.Pending,B a.Auto] 1 U ⟨(p).one,rfl,rfl,rfl,rfl,trivial⟩) ?_;rintro x f1 u;refine wln (W.ret ?_);obtain rfl:=si H;have X:=u.sD 2 [0];exact jZ (c:=x) (vs:=[.slice k l n,I a.At.Row,I a.At.Col,B a.At.Pending,B a.Auto]) rfl (by kernel_rfl) (by kernel_rfl) (by kernel_rfl) (u.on 1 rfl _ rfl).1 ⟨_,x,rfl,rfl,pt,(.slice k l n),s0,X,rfl,p.m⟩
def fv (p0:aa) (p1:Int) (p2:Int):Option (aa):=
 (idx ([2,1,3]:List Int) p2).bind fun k=>
 (cN p0 p0.At.Row k p0.At.Col 0).bind fun b=>
 (cE (σ:=Int×(List ak)×Int×Int×Bool×Bool) (τ:=((List ak)×Int×Int×Bool×Bool)) (((b.L.length:Int) - 0).toNat+1) (fun a=>
 (bI (decide (a.1 < (a.2.1.length:Int))) (some (p1==4))).bind fun f=>
 if f=true then
 ((orE (p2==2) ((bI (p2==0) (some (decide (a.1 > a.2.2.1)))).bind fun h=>
 some h)).bind fun g=>
 (orE g ((bI (p2==1) (some (decide (a.1 < a.2.2.1)))).bind fun j=>
 some j)).bind fun i=>
 if i=true then
 (cN (⟨a.2.1,(⟨a.2.2.1,a.2.2.2.1,a.2.2.2.2.1⟩:ai),a.2.2.2.2.2⟩:aa) a.1 3 0 0).bind fun d=>
 some (d.L,d.At.Row,d.At.Col,d.At.Pending,d.Auto)
 else
 some (a.2.1,a.2.2.1,a.2.2.2.1,a.2.2.2.2.1,a.2.2.2.2.2)).bind fun e=>
 some (.inl ((w64 (a.1+1)),e.1,e.2.1,e.2.2.1,e.2.2.2.1,e.2.2.2.2))
 else
 some (.inr (a.2.1,a.2.2.1,a.2.2.2.1,a.2.2.2.2.1,a.2.2.2.2.2))) (0,b.L,b.At.Row,b.At.Col,b.At.Pending,b.Auto)).bind fun c=>
 some (⟨c.1,(⟨c.2.1,c.2.2.1,c.2.2.2.1⟩:ai),c.2.2.2.2⟩:aa)
theorem pK (O0:Own c0 G F) (b:aa) (t:Int) (g:Int) {r:aa} (h2:Sl am c0 v1 b.L) (H:fv b t g=some r): Calls prog 93 #[.agg #[v1,I b.At.Row,I b.At.Col,B b.At.Pending,B b.Auto],I t,I g] c0.w (aN c0 fun c v=>∃y1 y2,Own c G (es true am y1 71 y2 r.L :: F)∧v= .agg #[y1,I r.At.Row,I r.At.Col,B r.At.Pending,B r.Auto]∧OA am c y1 y2 r.L):=by
 unfold fv at H;refine en func93 rfl rfl (sr ?_);obtain ⟨a3,a4,a5,rfl⟩:=(h2).form;refine me (al 43 [.slice a3 a4 a5,I b.At.Row,I b.At.Col,B b.At.Pending,B b.Auto] O0) ?_;rintro v9 c8 l8 ⟨f,rfl,O7⟩;refine me (al 43 [Y,I 0,I 0,B false,B false] O7) ?_;rintro v13 m4 s4 ⟨n,rfl,v2⟩;refine wln (sr (me (sl (RI .i64) 3 [[I 2],[I 1],[I 3]] ([2,1,3]:List Int) v2 ⟨rfl,rfl,rfl,trivial⟩) ?_));rintro v18 n4 t4 ⟨q,w2,b1⟩;refine va (v18) (wln (W.seq (rD [12] (Kp G0 [(Eb f 43 [.slice a3 a4 a5,I b.At.Row,I b.At.Col,B b.At.Pending,B b.Auto]),es true (RI .i64) v18 3 q ([2,1,3]:List Int)]) w2 ?_)));intro b3 n3 l0;have g0:Kp G0 [(Eb f 43 [.slice a3 a4 a5,I b.At.Row,I b.At.Col,B b.At.Pending,B b.Auto]),es true (RI .i64) v18 3 q ([2,1,3]:List Int)] b3:=(Kp.cons (l0.on 2 rfl) (Kp.cons (l0.on 0 rfl) Kp.nil0));refine tkx 0 g0 (fun c' f0 X=>leN 43 0 [.slice a3 a4 a5,I b.At.Row,I b.At.Col,B b.At.Pending,B b.Auto] (X.on 0 rfl)) (ta 1 (Qo f 1) (ta 2 (Qo f 1) (tkx 3 g0 (fun c' f0 X=>le1 1 u_3 (X.on 0 rfl)) (ta 4 (v18) (ta 5 (I g) (bn H fun e1 c1 H=>tx 6 (fun c' f0=>ixO ot b1.m c1) ?_))))));obtain ⟨k4,g3,q3⟩:=OA.at (b1.mono n3) c1;obtain rfl:=g3;refine AC.takeK 7 (I e1) g0 rfl (by kernel_rfl) (by kernel_rfl) (by kernel_rfl) (fun c' f0 X=>(rx (by kernel_rfl) (lF u_3 rfl (X.on 1 rfl) (b1.m.blk c1) (at1 (j:=0) q3 rfl)))) (ta 8 (Qo f 1) (ta 9 (Qo f 2) (tkx 10 g0 (fun c' f0 X=>le1 2 u_3 (X.on 0 rfl)) (bn H fun u h3 H=>o1 11 (gc 11 (kK l0 b b.At.Row e1 b.At.Col 0 h2.m h3) ?_)))));rintro v35 c3 u4 ⟨v27,t3,m0,rfl,d1⟩;have s3:Kp G0 [(Eb f 43 [.slice a3 a4 a5,I b.At.Row,I b.At.Col,B b.At.Pending,B b.Auto]),es true (RI .i64) v18 3 q ([2,1,3]:List Int)] c3:=(Kp.cons (m0.on 3 rfl) (Kp.cons (m0.on 1 rfl) Kp.nil0));refine ⟨.inr s3,?_⟩;obtain ⟨j1,k1,m1,rfl⟩:=(d1).form;refine o1 12 (gD 12 (sA 43 [.slice j1 k1 m1,I u.At.Row,I u.At.Col,B u.At.Pending,B u.Auto] 3 m0 ⟨(d1).one,rfl,rfl,rfl,rfl,trivial⟩) ?_);rintro z0 v4 x2;refine ⟨.inl rfl,dn (nrm (W.seq (sr (va (I 0) (wln (W.block (bn H fun d n1 i1=>lp n1 (fun a=>Jn z0 fun c l=>∃v44 s,Own c G (es true am v44 71 s a.2.1 :: es true (RI .i64) v18 3 q ([2,1,3]:List Int) :: (Eb n 43 [Y,I 0,I 0,B false,B false]) :: (Eb f 43 [v44,I a.2.2.1,I a.2.2.2.1,B a.2.2.2.2.1,B a.2.2.2.2.2]) :: F)∧l= [(1,I t),(2,I g),(3,Q f),(6,Q n),(8,I a.1)]∧OA am c v44 s a.2.1) (fun i ex e w=>ex= .exit 0∧(Jn z0 fun c l=>∃v46 h0,Own c G (es true am v46 71 h0 i.1 :: es true (RI .i64) v18 3 q ([2,1,3]:List Int) :: (Eb n 43 [Y,I 0,I 0,B false,B false]) :: (Eb f 43 [v46,I i.2.1,I i.2.2.1,B i.2.2.2.1,B i.2.2.2.2]) :: F)∧l= [(3,Q f),(6,Q n)]∧OA am c v46 h0 i.1) e w) ?_ ?_ ?_)))))))⟩
 ·clear i1 n1;intro a z4 e3 u3 H;revert e3 u3;rintro e_ w_ ⟨a1,p4,_,rfl,w4,rfl,v44,s,o0,rfl,d0⟩;refine W.seq (W.seq (bn H fun i2 q1 H=>W.join (Jn a1 fun c l=>Own c G (es true am v44 71 s a.2.1 :: es true (RI .i64) v18 3 q ([2,1,3]:List Int) :: (Eb n 43 [Y,I 0,I 0,B false,B false]) :: (Eb f 43 [v44,I a.2.2.1,I a.2.2.2.1,B a.2.2.2.2.1,B a.2.2.2.2.2]) :: F)∧l= [(1,I t),(2,I g),(3,Q f),(6,Q n),(8,I a.1),(30,B i2)]) ?_ ?_))
  ·clear H;refine W.region (va (I a.1) (va (Q f) (vx (le1 0 dX (o0.on 3 rfl)) (vx (lnO 3 dX d0) (va (B (decide (a.1 < (a.2.1.length:Int)))) ?_)))));rcases bo (decide (a.1 < (a.2.1.length:Int))) with y | y
   ·have o2:=anT y q1;refine vb y (wa (I t) (wa (B (t==4)) ?_));obtain rfl:=si o2;exact va (B (t==4)) (wln (jn a1 ⟨o0,rfl⟩))
   obtain rfl:=anF y q1;exact vb y (pz (va (B false) (wln (jn a1 ⟨o0,rfl⟩))))
  rintro e_ w_ ⟨o,q4,_,rfl,o3,rfl,k,rfl⟩;refine nrm (cn H (fun i3 H=>?_) (fun i3 H=>?_))
  ·refine W.skip (nrm (bn H fun p h q2=>W.seqJ (Jn o fun c l=>∃N i0,Own c G (es true am N 71 i0 p.1 :: es true (RI .i64) v18 3 q ([2,1,3]:List Int) :: (Eb n 43 [Y,I 0,I 0,B false,B false]) :: (Eb f 43 [N,I p.2.1,I p.2.2.1,B p.2.2.2.1,B p.2.2.2.2]) :: F)∧l= [(1,I t),(2,I g),(3,Q f),(6,Q n),(8,I a.1)]∧OA am c N i0 p.1) ?_ ?_))
   ·refine W.block (W.seq (bn h fun b4 s1 h=>bn h fun j2 e0 h=>W.join (Jn o fun c l=>Own c G (es true am v44 71 s a.2.1 :: es true (RI .i64) v18 3 q ([2,1,3]:List Int) :: (Eb n 43 [Y,I 0,I 0,B false,B false]) :: (Eb f 43 [v44,I a.2.2.1,I a.2.2.2.1,B a.2.2.2.2.1,B a.2.2.2.2.2]) :: F)∧l= [(1,I t),(2,I g),(3,Q f),(6,Q n),(8,I a.1),(56,B j2)]) ?_ ?_))
    ·clear h;refine W.region (va (I g) (va (B (g==2)) ?_));rcases bo (g==2) with z | z
     ·obtain rfl:=orT z s1;refine vb z (pz (pz (pz (pz (ps (va (B true) ?_))))));have t1:true=true:=rfl;obtain rfl:=orT t1 e0;exact vb t1 (pz (pz (pz (pz (ps (va (B true) (wln (jn o ⟨k,rfl⟩))))))))
     have Z:=orF z s1;refine vb z (wa (I g) (wa (B (g==0)) (wn (bn Z fun c4 u1 Z=>?_))));rcases bo (g==0) with A | A
     ·have s2:=anT A u1;refine vb A (wa (I a.1) (wa (Qo f 1) (wa (Qo f 1) (wn (vx (le1 1 u_3 (k.on 3 rfl)) (wa (B (decide (a.1 > a.2.2.1))) (wn ?_)))))));obtain rfl:=si s2;refine va (B (decide (a.1 > a.2.2.1))) ?_;obtain rfl:=si Z;refine va (B (decide (a.1 > a.2.2.1))) ?_;rcases bo (decide (a.1 > a.2.2.1)) with D | D
      ·obtain rfl:=orT D e0;exact vb D (pz (pz (pz (pz (ps (va (B true) (wln (jn o ⟨k,rfl⟩))))))))
      have a0:=orF D e0;refine vb D (wa (I g) (wa (B (g==1)) (wn (bn a0 fun k2 w1 a0=>?_))));rcases bo (g==1) with E | E
      ·have t2:=anT E w1;refine vb E (wa (I a.1) (wa (Qo f 1) (wa (Qo f 1) (wn (vx (le1 1 u_3 (k.on 3 rfl)) (wa (B (decide (a.1 < a.2.2.1))) (wn ?_)))))));obtain rfl:=si t2;refine va (B (decide (a.1 < a.2.2.1))) ?_;obtain rfl:=si a0;exact va (B (decide (a.1 < a.2.2.1))) (wln (jn o ⟨k,rfl⟩))
      obtain rfl:=anF E w1;refine vb E (pz (pz (ps (wa (B false) ?_))));obtain rfl:=si a0;exact va (B false) (wln (jn o ⟨k,rfl⟩))
     obtain rfl:=anF A u1;refine vb A (pz (pz (ps (wa (B false) ?_))));obtain rfl:=si Z;refine va (B false) ?_;have x1:false=false:=rfl;have b0:=orF x1 e0;refine vb x1 (wa (I g) (wa (B (g==1)) (wn (bn b0 fun k2 z1 b0=>?_))));rcases bo (g==1) with M | M
     ·have u2:=anT M z1;refine vb M (wa (I a.1) (wa (Qo f 1) (wa (Qo f 1) (wn (vx (le1 1 u_3 (k.on 3 rfl)) (wa (B (decide (a.1 < a.2.2.1))) (wn ?_)))))));obtain rfl:=si u2;refine va (B (decide (a.1 < a.2.2.1))) ?_;obtain rfl:=si b0;exact va (B (decide (a.1 < a.2.2.1))) (wln (jn o ⟨k,rfl⟩))
     obtain rfl:=anF M z1;refine vb M (pz (pz (ps (wa (B false) ?_))));obtain rfl:=si b0;exact va (B false) (wln (jn o ⟨k,rfl⟩))
    rintro e_ w_ ⟨d3,r4,_,rfl,p3,rfl,q0,rfl⟩;refine nrm (cn h (fun j3 h=>?_) (fun j3 h=>?_))
    ·refine W.region (vx (leN 43 0 [v44,I a.2.2.1,I a.2.2.2.1,B a.2.2.2.2.1,B a.2.2.2.2.2] (q0.on 3 rfl)) (va (I a.1) ?_));obtain ⟨o4,l3,x4,z2,k3⟩:=q0.frz 0 rfl (d0.mono (o3.trans p3));refine WL.gh l3 (bn h fun x m3 h=>cl (kK z2 (⟨a.2.1,(⟨a.2.2.1,a.2.2.2.1,a.2.2.2.2.1⟩:ai),a.2.2.2.2.2⟩:aa) a.1 3 0 0 k3 m3) ?_);rintro l4 y3 f4 ⟨y4,m2,a2,rfl,T⟩;obtain ⟨s0,t0,u0,rfl⟩:=(T).form;refine md (sA 43 [.slice s0 t0 u0,I x.At.Row,I x.At.Col,B x.At.Pending,B x.Auto] 4 a2 ⟨(T).one,rfl,rfl,rfl,rfl,trivial⟩) ?_;rintro f2 g4 b2;refine WL.nil (bkn (nrm ?_));obtain rfl:=si h;have c2:=b2.sD 5 [0,2,3,4];exact jn f2 ⟨(.slice s0 t0 u0),m2,c2,rfl,T.m⟩
    refine W.skip (bkn (nrm ?_));obtain rfl:=si h;exact jn d3 ⟨v44,s,q0,rfl,d0.m⟩
   rintro e_ w_ ⟨g2,d4,_,rfl,h4,rfl,N,i0,d2,rfl,l2⟩;refine W.region (va (I a.1) (vv (I (w64 (a.1+1))) (WL.nil ?_)));obtain rfl:=si q2;exact ⟨_,rfl,jn g2 ⟨N,i0,d2,rfl,l2⟩⟩
  refine W.exit (thx ?_);obtain rfl:=si H;exact ⟨_,rfl,rfl,jn o ⟨v44,s,k,rfl,d0.m⟩⟩
 ·exact jn z0 ⟨(.slice j1 k1 m1),t3,x2,rfl,d1.m⟩
 rintro _ e_ w_ ⟨rfl,z3,e4,_,rfl,i4,rfl,v46,h0,j0,rfl,U⟩;refine bke (nrm (sr (vx (leN 43 0 [v46,I d.2.1,I d.2.2.1,B d.2.2.2.1,B d.2.2.2.2] (j0.on 3 rfl)) ?_)));obtain ⟨P,R,S,rfl⟩:=(U).form;refine md (sA 43 [.slice P R S,I d.2.1,I d.2.2.1,B d.2.2.2.1,B d.2.2.2.2] 2 j0 ⟨(U).one,rfl,rfl,rfl,rfl,trivial⟩) ?_;rintro y0 j4 k0;refine wln (W.ret ?_);obtain rfl:=si i1;have e2:=k0.sD 4 [0];exact jZ (c:=y0) (vs:=[.slice P R S,I d.2.1,I d.2.2.1,B d.2.2.2.1,B d.2.2.2.2]) rfl (by kernel_rfl) (by kernel_rfl) (by kernel_rfl) (k0.on 2 rfl _ rfl).1 ⟨_,y0,rfl,rfl,pt,(.slice P R S),h0,e2,rfl,U.m⟩
def fG (p0:aa) (p1:aL):Option (aa):=
 (ce p0).bind fun a=>
 (idx a.L a.At.Row).bind fun c=>
 (if (p1.Kind==2)=true then
 (cC (⟨a.L,(⟨a.At.Row,a.At.Col,false⟩:ai),a.Auto⟩:aa)).bind fun o=>
 (eO (⟨p1.A,p1.B,false⟩:ai) o (a.L.length:Int)).bind fun h=>
 some (c.Cells,false,a.L,h.Row,h.Col,h.Pending,a.Auto)
 else
 (if (p1.Kind==3)=true then
 some (p1.Kind==3)
 else
 some (p1.Kind==4)).bind fun p=>
 if p=true then
 (fv (⟨a.L,(⟨a.At.Row,a.At.Col,false⟩:ai),a.Auto⟩:aa) p1.Kind p1.A).bind fun f=>
 some (c.Cells,false,f.L,f.At.Row,f.At.Col,f.At.Pending,f.Auto)
 else
 if (p1.Kind==5)=true then
 (cN (⟨a.L,(⟨a.At.Row,a.At.Col,false⟩:ai),a.Auto⟩:aa) a.At.Row 4 a.At.Col p1.A).bind fun g=>
 some (c.Cells,false,g.L,g.At.Row,g.At.Col,g.At.Pending,g.Auto)
 else
 if (p1.Kind==6)=true then
 (fa c.Cells a.At.Col p1.A).bind fun j=>
 some (j.1,j.2,a.L,a.At.Row,a.At.Col,false,a.Auto)
 else
 if (p1.Kind==7)=true then
 (fc c.Cells a.At.Col p1.A).bind fun i=>
 some (i.1,i.2,a.L,a.At.Row,a.At.Col,false,a.Auto)
 else
 (if (p1.Kind==8)=true then
 some (p1.Kind==8)
 else
 some (p1.Kind==9)).bind fun m=>
 if m=true then
 (dG a.L a.At.Row (a.L.length:Int) p1.A (p1.Kind==9)).bind fun k=>
 some (c.Cells,false,k,a.At.Row,0,false,a.Auto)
 else
 (if (p1.Kind==10)=true then
 some (p1.Kind==10)
 else
 some (p1.Kind==11)).bind fun n=>
 if n=true then
 (dG a.L 0 (a.L.length:Int) p1.A (p1.Kind==10)).bind fun l=>
 some (c.Cells,false,l,a.At.Row,a.At.Col,false,a.Auto)
 else
 if (p1.Kind==12)=true then
 some (c.Cells,false,a.L,a.At.Row,a.At.Col,false,p1.A != 0)
 else
 some (c.Cells,false,a.L,a.At.Row,a.At.Col,false,a.Auto)).bind fun b=>
 (if b.2.1=true then
 (bZ (⟨b.2.2.1,(⟨b.2.2.2.1,b.2.2.2.2.1,b.2.2.2.2.2.1⟩:ai),b.2.2.2.2.2.2⟩:aa) a.At.Row (⟨b.1,false⟩:ak)).bind fun d=>
 some (d.L,d.At.Row,d.At.Col,d.At.Pending,d.Auto)
 else
 some (b.2.2.1,b.2.2.2.1,b.2.2.2.2.1,b.2.2.2.2.2.1,b.2.2.2.2.2.2)).bind fun e=>
 some (⟨e.1,(⟨e.2.1,e.2.2.1,e.2.2.2.1⟩:ai),e.2.2.2.2⟩:aa)
theorem rY (O0:Own c0 G F) (x:aa) (b:aL) {r:aa} (h2:Sl am c0 v1 x.L) (h4:Sl (RI .u8) c0 v3 b.Bytes) (H:fG x b=some r): Calls prog 27 #[.agg #[v1,I x.At.Row,I x.At.Col,B x.At.Pending,B x.Auto],.agg #[I b.Kind,I b.A,I b.B,v3]] c0.w (aN c0 fun c v=>∃y1,Own c G (F)∧v= .agg #[y1,I r.At.Row,I r.At.Col,B r.At.Pending,B r.Auto]∧Sl am c y1 r.L):=by
 unfold fG at H;refine en func27 rfl rfl (sr ?_);obtain ⟨a5,a6,a7,rfl⟩:=(h2).form;refine me (al 43 [.slice a5 a6 a7,I x.At.Row,I x.At.Col,B x.At.Pending,B x.Auto] O0) ?_;rintro v11 a8 x5 ⟨g,rfl,O9⟩;obtain ⟨c5,d5,e5,rfl⟩:=((h4.mono x5)).form;refine me (bx 59 [I b.Kind,I b.A,I b.B,.slice c5 d5 e5] O9) ?_;rintro v19 c8 j8 ⟨n,rfl,u4,p⟩;refine me (al 43 [Y,I 0,I 0,B false,B false] u4) ?_;rintro v23 d8 k8 ⟨s,rfl,a2⟩;refine wln (sr (vx (leN 43 0 [.slice a5 a6 a7,I x.At.Row,I x.At.Col,B x.At.Pending,B x.Auto] (a2.on 1 rfl)) (bn H fun a o5 H=>cl (dt a2 x h2.m o5) ?_)));rintro v32 e8 l8 ⟨v25,v4,rfl,k⟩;obtain ⟨h,i,j,rfl⟩:=(k).form;refine md (sA 43 [.slice h i j,I a.At.Row,I a.At.Col,B a.At.Pending,B a.Auto] 1 v4 ⟨k.one,rfl,rfl,rfl,rfl,trivial⟩) ?_;rintro f8 y5 w4;refine wln (sr (va (Qo g 1) (va (Qo g 3) (md (sC 4 3 (B false) [.slice h i j,I a.At.Row,I a.At.Col,B false,B a.Auto] 1 w4 ⟨rfl,trivial⟩) ?_))));rintro y0 z5 g0;refine wln (sr (vv (Qo g 1) (vx (le1 1 u_3 (g0.on 1 rfl)) (va (I a.At.Row) (wln (sr (va (Q g) (vx (le1 0 dX (g0.on 1 rfl)) (va (I a.At.Row) (bn H fun s1 i2 H=>?_))))))))));obtain ⟨p7,p5,c6⟩:=Sl.at (k.mono (y5.trans z5)) (aT i2);obtain ⟨v44,rfl,z⟩:=p5;refine vx (ix dX k.m i2) (va (Qo (sb (.slice h i j)) (so (.slice h i j)+a.At.Row.toNat * 2)) (vx (l1 ck (c6 0 _ rfl)) (va (v44) (wln (sr (va (B false) (wln (bn H fun f y t4=>W.seqJ (Jn y0 fun c l=>∃v48 v49,Own c G ((Eb s 43 [Y,I 0,I 0,B false,B false]) :: (Eb g 43 [v48,I f.2.2.2.1,I f.2.2.2.2.1,B f.2.2.2.2.2.1,B f.2.2.2.2.2.2]) :: F)∧l= [(2,Q g),(4,Q s),(5,I a.At.Row),(6,v49),(7,B f.2.1)]∧Sl am c v48 f.2.2.1∧Sl ah c v49 f.1) ?_ ?_))))))))
 ·refine sr (va (Q n) (vx (l1 u_3 ((mm p) 0 _ rfl)) (wln (W.block (sr (vv (B (b.Kind==2)) (wln (cn y (fun q5 y=>?_) (fun q5 y=>?_)))))))))
  ·refine rD [12] (Kp G0 [(Eb g 43 [.slice h i j,I a.At.Row,I a.At.Col,B false,B a.Auto])]) g0 ?_;intro i5 m8 b2;have j2:Kp G0 [(Eb g 43 [.slice h i j,I a.At.Row,I a.At.Col,B false,B a.Auto])] i5:=(Kp.cons (b2.on 1 rfl) Kp.nil0);refine ta 0 (.pointer (some ⟨n,0+1,none⟩)) (tx 1 (fun c' z0=>l1 u_3 ((mm p) 1 _ rfl)) (ta 2 (Qo n (0+2)) (tx 3 (fun c' z0=>l1 u_3 ((mm p) 2 _ rfl)) (ta 4 (.agg #[I b.A,I b.B,B false]) (tkx 5 j2 (fun c' z0 hk=>leN 43 0 [.slice h i j,I a.At.Row,I a.At.Col,B false,B a.Auto] (hk.on 0 rfl)) (ta 7 (Q g) (tkx 8 j2 (fun c' z0 hk=>le1 0 dX (hk.on 0 rfl)) (tx 9 (fun c' z0=>ln 3 dX k.m) (bn y fun r4 r5 y=>o1 6 (gc 6 (fW b2 (⟨a.L,(⟨a.At.Row,a.At.Col,false⟩:ai),a.Auto⟩:aa) k.m r5) ?_))))))))));rintro v60 j5 n8 ⟨c2,rfl⟩;have d6:Kp G0 [(Eb g 43 [.slice h i j,I a.At.Row,I a.At.Col,B false,B a.Auto])] j5:=(Kp.cons (c2.on 1 rfl) Kp.nil0);refine ⟨.inr d6,bn y fun D s5 y=>o1 10 (gc 10 (mQ c2 (⟨b.A,b.B,false⟩:ai) r4 (a.L.length:Int) s5) ?_)⟩;rintro u8 k5 o8 ⟨d2,rfl⟩;have e6:Kp G0 [(Eb g 43 [.slice h i j,I a.At.Row,I a.At.Col,B false,B a.Auto])] k5:=(Kp.cons (d2.on 1 rfl) Kp.nil0);refine ⟨.inr e6,ta 11 (.pointer (some ⟨g,1,none⟩)) (o1 12 (gD 12 (sB 24 1 [I D.Row,I D.Col,B D.Pending] [.slice h i j,I D.Row,I D.Col,B D.Pending,B a.Auto] 1 d2 ⟨rfl,rfl,rfl,trivial⟩) ?_))⟩;rintro l5 p8 x4;refine ⟨.inl rfl,dn (bkn (nrm ?_))⟩;obtain rfl:=si y;exact jn l5 ⟨(.slice h i j),v44,x4,rfl,k.m,z.m⟩
  refine bn y fun s4 f0 e=>W.seqJ (Jn y0 fun c l=>Own c G ((Eb s 43 [Y,I 0,I 0,B false,B false]) :: (Eb g 43 [.slice h i j,I a.At.Row,I a.At.Col,B false,B a.Auto]) :: F)∧l= [(2,Q g),(3,Q n),(4,Q s),(5,I a.At.Row),(6,v44),(7,B false),(22,I b.Kind),(37,B s4)]) ?_ ?_
  ·refine sr (vv (B (b.Kind==3)) (wln (cn f0 (fun t5 f0=>?_) (fun t5 f0=>?_))))
   ·refine W.skip (nrm ?_);obtain rfl:=si f0;exact jn y0 ⟨g0,rfl⟩
   refine W.region (vv (B (b.Kind==4)) (wln ?_));obtain rfl:=si f0;exact jn y0 ⟨g0,rfl⟩
  rintro e_ w_ ⟨k1,i8,_,rfl,q8,rfl,q,rfl⟩;refine cn e (fun u5 e=>?_) (fun u5 e=>?_)
  ·refine W.region (vx (leN 43 0 [.slice h i j,I a.At.Row,I a.At.Col,B false,B a.Auto] (q.on 1 rfl)) (va (Q n) (vx (l1 u_3 ((mm p) 0 _ rfl)) (va (Qo n (0+1)) (vx (l1 u_3 ((mm p) 1 _ rfl)) (bn e fun d0 v5 e=>cl (pK q (⟨a.L,(⟨a.At.Row,a.At.Col,false⟩:ai),a.Auto⟩:aa) b.Kind b.A k.m v5) ?_))))));rintro w8 g8 r8 ⟨v8,t8,y4,rfl,q1⟩;obtain ⟨e2,f2,g2,rfl⟩:=(q1).form;refine md (sA 43 [.slice e2 f2 g2,I d0.At.Row,I d0.At.Col,B d0.At.Pending,B d0.Auto] 2 y4 ⟨(q1).one,rfl,rfl,rfl,rfl,trivial⟩) ?_;rintro h8 b6 z4;refine WL.nil (bkn (nrm ?_));obtain rfl:=si e;obtain ⟨m5,p3,s8,b5,w5⟩:=z4.frz 0 rfl (q1.mono b6);have l2:=b5.sD 3 [1,2];exact ⟨m5,_,_,p3.symm,pt,us,(.slice e2 f2 g2),v44,l2,rfl,w5,z.m⟩
  refine sr (vv (B (b.Kind==5)) (wln (cn e (fun q3 e=>?_) (fun q3 e=>?_))))
  ·refine W.region (vx (leN 43 0 [.slice h i j,I a.At.Row,I a.At.Col,B false,B a.Auto] (q.on 1 rfl)) (va (I a.At.Row) (va (Qo g 1) (va (Qo g 2) (vx (le1 2 u_3 (q.on 1 rfl)) (va (Qo n (0+1)) (vx (l1 u_3 ((mm p) 1 _ rfl)) (bn e fun e0 s3 e=>cl (kK q (⟨a.L,(⟨a.At.Row,a.At.Col,false⟩:ai),a.Auto⟩:aa) a.At.Row 4 a.At.Col b.A k.m s3) ?_))))))));rintro t7 k6 x6 ⟨s7,q7,m2,rfl,s0⟩;obtain ⟨c1,d1,e1,rfl⟩:=(s0).form;refine md (sA 43 [.slice c1 d1 e1,I e0.At.Row,I e0.At.Col,B e0.At.Pending,B e0.Auto] 2 m2 ⟨(s0).one,rfl,rfl,rfl,rfl,trivial⟩) ?_;rintro l6 p4 n2;refine WL.nil (bkn (nrm ?_));obtain rfl:=si e;obtain ⟨h3,u3,y6,o2,t3⟩:=n2.frz 0 rfl (s0.mono p4);have p2:=o2.sD 3 [1,2];exact ⟨h3,_,_,u3.symm,pt,us,(.slice c1 d1 e1),v44,p2,rfl,t3,z.m⟩
  refine sr (vv (B (b.Kind==6)) (wln (cn e (fun w3 e=>?_) (fun w3 e=>?_))))
  ·refine W.region (va (v44) (va (Qo g 1) (va (Qo g 2) (vx (le1 2 u_3 (q.on 1 rfl)) (va (Qo n (0+1)) (vx (l1 u_3 ((mm p) 1 _ rfl)) (bn e fun x0 x3 e=>cl (py q s1.Cells a.At.Col b.A z.m x3) ?_)))))));rintro u7 i3 z6 ⟨X,q2,rfl,y3⟩;refine va (.tuple #[X,B x0.2]) (va (X) (va (B x0.2) (va (X) (va (B x0.2) (WL.nil (bkn (nrm ?_)))))));obtain rfl:=si e;exact jn i3 ⟨(.slice h i j),X,q2,rfl,k.m,y3⟩
  refine sr (vv (B (b.Kind==7)) (wln (cn e (fun z3 e=>?_) (fun z3 e=>?_))))
  ·refine W.region (va (v44) (va (Qo g 1) (va (Qo g 2) (vx (le1 2 u_3 (q.on 1 rfl)) (va (Qo n (0+1)) (vx (l1 u_3 ((mm p) 1 _ rfl)) (bn e fun b0 a4 e=>cl (pA q s1.Cells a.At.Col b.A z.m a4) ?_)))))));rintro v7 j3 b7 ⟨Z,s2,rfl,b4⟩;refine va (.tuple #[Z,B b0.2]) (va (Z) (va (B b0.2) (va (Z) (va (B b0.2) (WL.nil (bkn (nrm ?_)))))));obtain rfl:=si e;exact jn j3 ⟨(.slice h i j),Z,s2,rfl,k.m,b4⟩
  refine bn e fun x1 M t=>W.seqJ (Jn k1 fun c l=>Own c G ((Eb s 43 [Y,I 0,I 0,B false,B false]) :: (Eb g 43 [.slice h i j,I a.At.Row,I a.At.Col,B false,B a.Auto]) :: F)∧l= [(2,Q g),(3,Q n),(4,Q s),(5,I a.At.Row),(6,v44),(7,B false),(22,I b.Kind),(80,B x1)]) ?_ ?_
  ·refine sr (vv (B (b.Kind==8)) (wln (cn M (fun c4 M=>?_) (fun c4 M=>?_))))
   ·refine W.skip (nrm ?_);obtain rfl:=si M;exact jn k1 ⟨q,rfl⟩
   refine W.region (vv (B (b.Kind==9)) (wln ?_));obtain rfl:=si M;exact jn k1 ⟨q,rfl⟩
  rintro e_ w_ ⟨q0,s6,_,rfl,c7,rfl,P,rfl⟩;refine cn t (fun d4 t=>?_) (fun d4 t=>?_)
  ·refine sr (va (Q g) (vx (le1 0 dX (P.on 1 rfl)) (va (I a.At.Row) (va (Q g) (vx (le1 0 dX (P.on 1 rfl)) (vx (ln 3 dX k.m) (va (Qo n (0+1)) (vx (l1 u_3 ((mm p) 1 _ rfl)) (va (Q n) (vx (l1 u_3 ((mm p) 0 _ rfl)) (va (B (b.Kind==9)) (bn t fun g6 e4 t=>cl (kr P a.L a.At.Row (a.L.length:Int) b.A (b.Kind==9) k.m e4) ?_))))))))))));rintro w7 m6 d7 ⟨_,t2,rfl,t0⟩;refine va (Q g) ?_;obtain ⟨S,T,U,rfl⟩:=(t0).form;refine md (sC 22 0 (.slice S T U) [.slice S T U,I a.At.Row,I a.At.Col,B false,B a.Auto] 1 t2 ⟨t0.one,trivial⟩) ?_;rintro n6 e7 u2;refine wln (W.region (va (Qo g 1) (va (Qo g 2) (md (sC 3 2 (I 0) [.slice S T U,I a.At.Row,I 0,B false,B a.Auto] 1 u2 ⟨rfl,trivial⟩) ?_))));rintro k3 f7 v2;refine WL.nil (bkn (nrm ?_));obtain rfl:=si t;exact jn k3 ⟨(.slice S T U),v44,v2,rfl,t0.m,z.m⟩
  refine bn t fun z1 N o=>W.seqJ (Jn q0 fun c l=>Own c G ((Eb s 43 [Y,I 0,I 0,B false,B false]) :: (Eb g 43 [.slice h i j,I a.At.Row,I a.At.Col,B false,B a.Auto]) :: F)∧l= [(2,Q g),(3,Q n),(4,Q s),(5,I a.At.Row),(6,v44),(7,B false),(22,I b.Kind),(98,B z1)]) ?_ ?_
  ·refine sr (vv (B (b.Kind==10)) (wln (cn N (fun f4 N=>?_) (fun f4 N=>?_))))
   ·refine W.skip (nrm ?_);obtain rfl:=si N;exact jn q0 ⟨P,rfl⟩
   refine W.region (vv (B (b.Kind==11)) (wln ?_));obtain rfl:=si N;exact jn q0 ⟨P,rfl⟩
  rintro e_ w_ ⟨l3,t6,_,rfl,g7,rfl,R,rfl⟩;refine cn o (fun g4 o=>?_) (fun g4 o=>?_)
  ·refine W.region (va (Q g) (vx (le1 0 dX (R.on 1 rfl)) (va (Q g) (vx (le1 0 dX (R.on 1 rfl)) (vx (ln 3 dX k.m) (va (Qo n (0+1)) (vx (l1 u_3 ((mm p) 1 _ rfl)) (va (Q n) (vx (l1 u_3 ((mm p) 0 _ rfl)) (va (B (b.Kind==10)) (bn o fun h6 i4 o=>cl (kr R a.L 0 (a.L.length:Int) b.A (b.Kind==10) k.m i4) ?_)))))))))));rintro x7 o6 h7 ⟨_,w2,rfl,u0⟩;refine va (Q g) ?_;obtain ⟨i0,j0,k0,rfl⟩:=(u0).form;refine md (sC 22 0 (.slice i0 j0 k0) [.slice i0 j0 k0,I a.At.Row,I a.At.Col,B false,B a.Auto] 1 w2 ⟨u0.one,trivial⟩) ?_;rintro m3 i7 x2;refine WL.nil (bkn (nrm ?_));obtain rfl:=si o;exact jn m3 ⟨(.slice i0 j0 k0),v44,x2,rfl,u0.m,z.m⟩
  refine sr (vv (B (b.Kind==12)) (wln (cn o (fun j4 o=>?_) (fun j4 o=>?_))))
  ·refine W.region (va (Qo n (0+1)) (vx (l1 u_3 ((mm p) 1 _ rfl)) (va (B (b.A != 0)) (va (Qo g 4) (md (sC 4 4 (B (b.A != 0)) [.slice h i j,I a.At.Row,I a.At.Col,B false,B (b.A != 0)] 1 R ⟨rfl,trivial⟩) ?_)))));rintro n3 j7 y2;refine WL.nil (bkn (nrm ?_));obtain rfl:=si o;exact jn n3 ⟨(.slice h i j),v44,y2,rfl,k.m,z.m⟩
  refine W.skip (bkn (nrm ?_));obtain rfl:=si o;exact jn l3 ⟨(.slice h i j),v44,R,rfl,k.m,z.m⟩
 rintro e_ w_ ⟨i1,u6,_,rfl,k7,rfl,v48,v49,h0,rfl,m1,n1⟩;refine bn t4 fun d u k2=>W.seqJ (Jn i1 fun c l=>∃a0,Own c G ((Eb s 43 [Y,I 0,I 0,B false,B false]) :: (Eb g 43 [a0,I d.2.1,I d.2.2.1,B d.2.2.2.1,B d.2.2.2.2]) :: F)∧l= [(2,Q g),(4,Q s)]∧Sl am c a0 d.1) ?_ ?_
 ·refine sr (va (B f.2.1) (wln (cn u (fun k4 u=>?_) (fun k4 u=>?_))))
  ·refine W.region (vx (leN 43 0 [v48,I f.2.2.2.1,I f.2.2.2.2.1,B f.2.2.2.2.2.1,B f.2.2.2.2.2.2] (h0.on 1 rfl)) (va (I a.At.Row) (va (v49) ?_)));obtain ⟨e3,f3,g3,rfl⟩:=(n1).form;refine va (.agg #[.slice e3 f3 g3,B false]) (bn u fun E l4 u=>cl (fV h0 (⟨f.2.2.1,(⟨f.2.2.2.1,f.2.2.2.2.1,f.2.2.2.2.2.1⟩:ai),f.2.2.2.2.2.2⟩:aa) a.At.Row (⟨f.1,false⟩:ak) m1 n1 l4) ?_);rintro z7 p6 l7 ⟨y7,r7,z2,rfl,v0⟩;obtain ⟨f1,g1,h1,rfl⟩:=(v0).form;refine md (sA 43 [.slice f1 g1 h1,I E.At.Row,I E.At.Col,B E.At.Pending,B E.Auto] 2 z2 ⟨(v0).one,rfl,rfl,rfl,rfl,trivial⟩) ?_;rintro q6 q4 a3;refine wln ?_;obtain rfl:=si u;obtain ⟨o3,n4,m7,b3,m4⟩:=a3.frz 0 rfl (v0.mono q4);have c3:=b3.sD 3 [1,2];exact ⟨o3,_,_,n4.symm,pt,us,(.slice f1 g1 h1),c3,rfl,m4⟩
  refine W.skip (nrm ?_);obtain rfl:=si u;exact jn i1 ⟨v48,h0,rfl,m1⟩
 rintro e_ w_ ⟨r6,v6,_,rfl,n7,rfl,a0,a1,rfl,w0⟩;refine sr (vx (leN 43 0 [a0,I d.2.1,I d.2.2.1,B d.2.2.2.1,B d.2.2.2.2] (a1.on 1 rfl)) ?_);obtain ⟨l0,m0,o0,rfl⟩:=(w0).form;refine md (sA 43 [.slice l0 m0 o0,I d.2.1,I d.2.2.1,B d.2.2.2.1,B d.2.2.2.2] 0 a1 ⟨w0.one,rfl,rfl,rfl,rfl,trivial⟩) ?_;rintro j1 o7 b1;refine wln (W.ret ?_);obtain rfl:=si k2;have d3:=b1.sD 2 [];exact jZ (c:=j1) (vs:=[.slice l0 m0 o0,I d.2.1,I d.2.2.1,B d.2.2.2.1,B d.2.2.2.2]) rfl (by kernel_rfl) (by kernel_rfl) (by kernel_rfl) (b1.on 0 rfl _ rfl).1 ⟨_,j1,rfl,rfl,pt,(.slice l0 m0 o0),d3,rfl,w0.m⟩
def mu (p0:Er):Option (Int):=
 if p0.isNil=true then
 some 0
 else
 (gN p0 (Er.sent 1)).bind fun a=>
 if a=true then
 some 1
 else
 (gN p0 (Er.sent 2)).bind fun b=>
 if b=true then
 some 2
 else
 (gN p0 (Er.sent 0)).bind fun c=>
 if c=true then
 some 3
 else
 (gN p0 (Er.sent 3)).bind fun d=>
 if d=true then
 some 4
 else
 (gN p0 (Er.sent 4)).bind fun e=>
 if e=true then
 some 5
 else
 (gN p0 (Er.sent 5)).bind fun f=>
 if f=true then
 some 6
 else
 (gN p0 (Er.sent 6)).bind fun g=>
 if g=true then
 some 7
 else
 (gN p0 (Er.sent 7)).bind fun h=>
 if h=true then
 some 8
 else
 some 9
theorem vS (O0:Own c0 G F) (hG:Gl [0,1,2,3,4,5,6,7] c0) (a:Er) {r:Int} (e:RE 305 179 c0 v1 a) (H:mu a=some r): Calls prog 28 #[v1] c0.w (aN c0 fun c v=>Own c G (F)∧v=I r):=by
 unfold mu at H;refine en func28 rfl rfl (sr (va (I 0) (wln (W.seq (W.block (sr (va (v1) (vr (B a.isNil) (by rcases (e).cs with ⟨h,i⟩ | ⟨b_,h,i⟩ | ⟨b_,h,i⟩ <;> (subst h; rw [i]; kernel_rfl)) (va (B a.isNil) (wln (cn H (fun h3 H=>?_) (fun h3 H=>?_))))))))))))
 ·refine sr (va (I 0) (wln (W.ret (bkr (thr ?_)))));obtain rfl:=si H;exact r1 (qq c0 ⟨O0,rfl⟩)
 refine sr (va (v1) ?_);obtain ⟨v4,h5⟩:=hG.get 1 (by decide);refine vx (l1 rU h5.im) (bn H fun N h6 H=>cl (jz O0 (hG.le (by decide)) a (Er.sent 1) e h5 h6) ?_);rintro v12 d0 b ⟨O8,rfl⟩;refine va (B N) (wln (cn H (fun k0 H=>?_) (fun k0 H=>?_)))
 ·refine sr (va (I 1) (wln (W.ret (bkr (thr ?_)))));obtain rfl:=si H;exact r1 (qq d0 ⟨O8,rfl⟩)
 refine sr (va (v1) ?_);obtain ⟨v14,u⟩:=(hG.mono b).get 2 (by decide);refine vx (l1 rU u.im) (bn H fun P l0 H=>cl (jz O8 (hG.m.le (by decide)) a (Er.sent 2) e.m u l0) ?_);rintro v22 e0 d ⟨k,rfl⟩;refine va (B P) (wln (cn H (fun m0 H=>?_) (fun m0 H=>?_)))
 ·refine sr (va (I 2) (wln (W.ret (bkr (thr ?_)))));obtain rfl:=si H;exact r1 (qq e0 ⟨k,rfl⟩)
 refine sr (va (v1) ?_);obtain ⟨v24,x⟩:=(hG.mono (b.trans d)).get 0 (by decide);refine vx (l1 rU x.im) (bn H fun R o0 H=>cl (jz k (hG.m.le (by decide)) a (Er.sent 0) e.m x o0) ?_);rintro v32 f0 f ⟨l,rfl⟩;refine va (B R) (wln (cn H (fun q0 H=>?_) (fun q0 H=>?_)))
 ·refine sr (va (I 3) (wln (W.ret (bkr (thr ?_)))));obtain rfl:=si H;exact r1 (qq f0 ⟨l,rfl⟩)
 refine sr (va (v1) ?_);obtain ⟨v34,y⟩:=(hG.mono (b.trans (d.trans f))).get 3 (by decide);refine vx (l1 rU y.im) (bn H fun S s0 H=>cl (jz l (hG.m.le (by decide)) a (Er.sent 3) e.m y s0) ?_);rintro v42 g0 g ⟨n,rfl⟩;refine va (B S) (wln (cn H (fun t0 H=>?_) (fun t0 H=>?_)))
 ·refine sr (va (I 4) (wln (W.ret (bkr (thr ?_)))));obtain rfl:=si H;exact r1 (qq g0 ⟨n,rfl⟩)
 refine sr (va (v1) ?_);obtain ⟨v44,z⟩:=(hG.mono (b.trans (d.trans (f.trans g)))).get 4 (by decide);refine vx (l1 rU z.im) (bn H fun T u0 H=>cl (jz n (hG.m.le (by decide)) a (Er.sent 4) e.m z u0) ?_);rintro v52 h0 j ⟨o,rfl⟩;refine va (B T) (wln (cn H (fun w0 H=>?_) (fun w0 H=>?_)))
 ·refine sr (va (I 5) (wln (W.ret (bkr (thr ?_)))));obtain rfl:=si H;exact r1 (qq h0 ⟨o,rfl⟩)
 refine sr (va (v1) ?_);obtain ⟨v54,A⟩:=(hG.mono (b.trans (d.trans (f.trans (g.trans j))))).get 5 (by decide);refine vx (l1 rU A.im) (bn H fun U x0 H=>cl (jz o (hG.m.le (by decide)) a (Er.sent 5) e.m A x0) ?_);rintro i1 i0 M ⟨p,rfl⟩;refine va (B U) (wln (cn H (fun y0 H=>?_) (fun y0 H=>?_)))
 ·refine sr (va (I 6) (wln (W.ret (bkr (thr ?_)))));obtain rfl:=si H;exact r1 (qq i0 ⟨p,rfl⟩)
 refine sr (va (v1) ?_);obtain ⟨j1,D⟩:=(hG.mono (b.trans (d.trans (f.trans (g.trans (j.trans M)))))).get 6 (by decide);refine vx (l1 rU D.im) (bn H fun X z0 H=>cl (jz p (hG.m.le (by decide)) a (Er.sent 6) e.m D z0) ?_);rintro k1 j0 d1 ⟨q,rfl⟩;refine va (B X) (wln (cn H (fun a1 H=>?_) (fun a1 H=>?_)))
 ·refine sr (va (I 7) (wln (W.ret (bkr (thr ?_)))));obtain rfl:=si H;exact r1 (qq j0 ⟨q,rfl⟩)
 refine sr (va (v1) ?_);obtain ⟨m1,E⟩:=(hG.mono (b.trans (d.trans (f.trans (g.trans (j.trans (M.trans d1))))))).get 7 (by decide);refine vx (l1 rU E.im) (bn H fun Z b1 H=>cl (jz q (hG.m.le (by decide)) a (Er.sent 7) e.m E b1) ?_);rintro n1 t h1 ⟨s,rfl⟩;refine va (B Z) (wln (cn H (fun c1 H=>?_) (fun c1 H=>?_)))
 ·refine sr (va (I 8) (wln (W.ret (bkr (thr ?_)))));obtain rfl:=si H;exact r1 (qq t ⟨s,rfl⟩)
 refine W.skip (bkn (nrm (sr (va (I 9) (wln (W.ret ?_))))));obtain rfl:=si H;exact r1 (qq t ⟨s,rfl⟩)
def kB (sg:Sto) (p0:Int) (p1:Int):Option (Sto×(Option Nat)):=
 (mF sg p0 p1).bind fun b=>
 (nt b.1 b.2).bind fun c=>
 (some (c.1.add_screen_Screen (⟨c.2,b.2⟩:eG))).bind fun a=>
 some (a,(some c.1.screen_Screen.length))
theorem tl (O0:Own c0 G F) (R0:Rel c0 sg G) (g:Int) (h:Int) {r:Sto×(Option Nat)} (H:kB sg g h=some r): Calls prog 55 #[I g,I h] c0.w (aN c0 fun c v=>∃y1,∃G_:Gm,Own c G_ (F)∧Rel c r.1 G_∧eJ G G_∧v=y1∧Pt 5 c y1 r.2):=by
 unfold kB at H;refine en func55 rfl rfl (sr (va (.pointer none) (wln (sr (va (I g) (va (I h) (bn H fun n h1 H=>cl (zf O0 R0 g h h1) ?_)))))));rintro v2 c8 l8 ⟨_,G4,O5,R6,a7,rfl,p⟩;have D:=(eJ.refl _).trans a7;refine va (v2) (wln (sr (va (v2) (bn H fun o R H=>cl (Ah O5 R6 n.2 p R) ?_))));rintro v12 j0 m ⟨_,i0,t,A,M,rfl,l⟩;have j:=D.trans M;refine va (v2) ?_;obtain ⟨d,rfl⟩:=(l).form;obtain ⟨e,rfl⟩:=((p.mono m)).form;refine va (.agg #[.pointer d,.pointer e]) (me (al 176 [.pointer d,.pointer e] t) ?_);rintro v26 k0 f ⟨a,rfl,u⟩;have y:=u.sD 1 [0];refine bn H fun q S H=>?_;obtain ⟨k,s,T,o0,U,z,i,l0,X,N⟩:=Rel.new_screen_Screen (E:=[(Eb a 176 [.pointer d,.pointer e])]) (F:=F) (x:=(⟨o.2,n.2⟩:eG)) (b:=a) y (A.mono f) (fun c_ hle_=>⟨a,(.pointer d),(.pointer e),rfl,rfl,(l.mono (f.trans hle_)),(p.mono ((m.trans f).trans hle_))⟩);rw [be S] at i;refine WL.gh T.1 ?_;have m0:=eJ.nil j X;have P:=j.trans N;have Z:Pt 5 k (Q a) (some o.1.screen_Screen.length):=⟨a,rfl,U⟩;refine va (Q a) (wln (W.ret ?_));obtain rfl:=si H;exact r1 (qq k ⟨(Q a),s,z,i,P,rfl,Z⟩)
def eH (sg:Sto) (p0:Option Nat) (p1:aL):Option (Sto×Er):=
 if p0.isNone=true then
 some (sg,(Er.sent 7))
 else
 if (p1.Kind==0)=true then
 (p0).bind fun g=>
 (sg.screen_Screen[g]?).bind fun i=>
 (gJ sg i.Feeder p1.Bytes).bind fun o=>
 some (o,Er.nil)
 else
 if (p1.Kind==1)=true then
 (p0).bind fun h=>
 (sg.screen_Screen[h]?).bind fun j=>
 (gI sg j.Feeder).bind fun p=>
 some (p,Er.nil)
 else
 if (p1.Kind==13)=true then
 (p0).bind fun a=>
 (sg.screen_Screen[a]?).bind fun k=>
 (da sg k.Feeder).bind fun c=>
 (c.screen_Screen[a]?).bind fun l=>
 (kQ c l.pen p1.A p1.B).bind fun q=>
 some (q,Er.nil)
 else
 (kD p1).bind fun d=>
 if (!d.isNil)=true then
 some (sg,d)
 else
 (p0).bind fun b=>
 (sg.screen_Screen[b]?).bind fun m=>
 (da sg m.Feeder).bind fun e=>
 (e.screen_Screen[b]?).bind fun n=>
 (oH e n.pen p1).bind fun f=>
 some (f.1,f.2)
theorem nv (O0:Own c0 G F) (d:Rel c0 sg G) (hG:Gl [0,4,7] c0) (p0:Option Nat) (a:aL) {r:Sto×Er} (t:Pt 5 c0 v1 p0) (z:Sl (RI .u8) c0 v3 a.Bytes) (H:eH sg p0 a=some r): Calls prog 56 #[v1,.agg #[I a.Kind,I a.A,I a.B,v3]] c0.w (aN c0 fun c v=>∃y1,∃G_:Gm,Own c G_ (F)∧Rel c r.1 G_∧v=y1∧RE 305 179 c y1 r.2):=by
 unfold eH at H;refine en func56 rfl rfl (sr ?_);obtain ⟨a5,a6,a7,rfl⟩:=(z).form;refine me (bx 59 [I a.Kind,I a.A,I a.B,.slice a5 a6 a7] O0) ?_;rintro v12 s1 b ⟨y,rfl,l,h⟩;refine va (.nilIface) (wln (W.seq (sr (va (v1) (vr (B p0.isNone) (by rcases t.m.cs with ⟨e,f⟩ | ⟨b_,e,f⟩ <;> (subst e; rw [f]; kernel_rfl)) (wln (cn H (fun b2 H=>?_) (fun b2 H=>?_))))))))
 ·refine sr ?_;obtain ⟨v14,S⟩:=(hG.mono b).get 7 (by decide);refine vx (l1 rU S.im) (va (v14) (wln (W.ret (thr ?_))));obtain rfl:=si H;exact r1 (qq s1 ⟨v14,G,l,d.m,rfl,S⟩)
 refine W.skip (nrm (W.seq (sr (va (Q y) (vx (l1 u_3 (h 0 _ rfl)) (wln (W.block (sr (vv (B (a.Kind==0)) (wln (cn H (fun c2 H=>?_) (fun c2 H=>?_))))))))))))
 ·refine rD [6] (Kp G []) l ?_;intro t1 Z E;have h3:Kp G [] t1:=(Kp.nil E);refine ta 0 (v1) (bn H fun s3 e2 H=>?_);obtain ⟨P,rfl,d2⟩:=((t.mono (b.trans Z))).get e2;refine ta 1 (Q P) (ta 2 (Q P) (bn H fun u0 f2 H=>?_));obtain ⟨v24,v26,i2,g2,m4⟩:=Rel.open_screen_Screen (d.mono (b.trans Z)) f2 d2;refine tkx 3 h3 (fun n g u=>le1 0 A9 (u.gon i2 0 rfl)) (ta 4 (Qo y (0+3)) (tx 5 (fun n g=>l1 lE ((mm h) 3 _ rfl)) (bn H fun e4 j2 H=>o1 6 (gc 6 (rE E d.m (hG.m.le (by decide)) u0.Feeder a.Bytes g2 z.m j2) ?_))));rintro v35 u1 q4 ⟨d1,g1,k1,rfl⟩;refine ⟨.inl rfl,dn (bkn (nrm (sr (va (.nilIface) (wln (W.ret ?_))))))⟩;obtain rfl:=si H;exact r1 (qq u1 ⟨.nilIface,d1,g1,k1,rfl,rfl⟩)
 refine sr (vv (B (a.Kind==1)) (wln (cn H (fun k2 H=>?_) (fun k2 H=>?_))))
 ·refine W.region (va (v1) (bn H fun t3 m2 H=>?_));obtain ⟨R,rfl,l2⟩:=((t.mono b)).get m2;refine vv (Q R) (bn H fun v0 n2 H=>?_);obtain ⟨v41,v43,p2,o2,n4⟩:=Rel.open_screen_Screen (d.mono b) n2 l2;refine vx (le1 0 A9 (l.gon p2 0 rfl)) (bn H fun f4 q2 H=>cl (rC l d.m (hG.m.le (by decide)) v0.Feeder o2 q2) ?_);rintro v52 w1 r4 ⟨e1,h1,m1,rfl⟩;refine WL.nil (bkn (nrm (sr (va (.nilIface) (wln (W.ret ?_))))));obtain rfl:=si H;exact r1 (qq w1 ⟨.nilIface,e1,h1,m1,rfl,rfl⟩)
 refine sr (vv (B (a.Kind==13)) (wln (cn H (fun s2 H=>?_) (fun s2 H=>?_))))
 ·refine sr (va (v1) (bn H fun u3 t2 H=>?_));obtain ⟨i,rfl,T⟩:=((t.mono b)).get t2;refine vv (Q i) (bn H fun w0 u2 H=>?_);obtain ⟨v58,v60,w2,v2,o4⟩:=Rel.open_screen_Screen (d.mono b) u2 T;refine vx (le1 0 A9 (l.gon w2 0 rfl)) (bn H fun g4 x2 H=>cl (jk l d.m w0.Feeder v2 x2) ?_);rintro u4 l4 s4 ⟨D,i1,N,rfl⟩;refine wln (rD [8] (Kp D []) i1 ?_);intro x1 g3 M;have i3:Kp D [] x1:=(Kp.nil M);refine ta 0 (Q i) (ta 1 (Q i) (ta 2 (Qo i 1) (bn H fun x0 y2 H=>?_)));obtain ⟨v4,w4,a3,p4,z2⟩:=Rel.open_screen_Screen (N.mono g3) y2 (tm T);refine tkx 3 i3 (fun n g u=>le1 1 yg (u.gon a3 0 rfl)) (ta 4 (Qo y (0+1)) (tx 5 (fun n g=>l1 u_3 ((mm h) 1 _ rfl)) (ta 6 (Qo y (0+2)) (tx 7 (fun n g=>l1 u_3 ((mm h) 2 _ rfl)) (bn H fun i4 b3 H=>o1 8 (gc 8 (wq M N.m (hG.m.le (by decide)) x0.pen a.A a.B z2 b3) ?_))))));rintro x4 z1 t4 ⟨f1,j1,n1,rfl⟩;refine ⟨.inl rfl,dn (bkn (nrm (sr (va (.nilIface) (wln (W.ret ?_))))))⟩;obtain rfl:=si H;exact r1 (qq z1 ⟨.nilIface,f1,j1,n1,rfl,rfl⟩)
 refine W.seq (sr (vx (lN 59 h) (bn H fun c1 c3 H=>cl (tu l (hG.m.le (by decide)) a z.m c3) ?_)));rintro k a2 a0 ⟨_,q,rfl,U⟩;refine va (k) (wln (sr (va (k) (vr (B (!c1.isNil)) (by rcases (U).cs with ⟨e,f⟩ | ⟨b_,e,f⟩ | ⟨b_,e,f⟩ <;> (subst e; rw [f]; kernel_rfl)) (wln (cn H (fun d3 H=>?_) (fun d3 H=>?_)))))))
 ·refine sr (vv (k) (wln (W.ret (thr (bkr (thr ?_))))));obtain rfl:=si H;exact r1 (qq a2 ⟨k,G,q,d.m,rfl,U⟩)
 refine W.skip (nrm (sr (va (v1) (bn H fun w3 e3 H=>?_))));obtain ⟨j,rfl,X⟩:=((t.mono (b.trans a0))).get e3;refine vv (Q j) (bn H fun y0 f3 H=>?_);obtain ⟨z3,a4,j0,i0,p3⟩:=Rel.open_screen_Screen (d.mono (b.trans a0)) f3 X;refine vx (le1 0 A9 (q.gon j0 0 rfl)) (bn H fun j4 k0 H=>cl (jk q d.m y0.Feeder i0 k0) ?_);rintro b4 o3 x3 ⟨o,d0,s,rfl⟩;refine wln (W.seq (rD [5] (Kp o []) d0 ?_));intro g0 t0 p;have b1:Kp o [] g0:=(Kp.nil p);refine ta 0 (Q j) (ta 1 (Q j) (ta 2 (Qo j 1) (bn H fun z0 l0 H=>?_)));obtain ⟨c4,d4,o0,q3,m0⟩:=Rel.open_screen_Screen (s.mono t0) l0 (tm X);refine tkx 3 b1 (fun n g u=>le1 1 yg (u.gon o0 0 rfl)) (tx 4 (fun n g=>lN 59 (mm h)) (bn H fun k4 q0 H=>o1 5 (gc 5 (B3 p s.m (hG.m.le (by decide)) z0.pen a m0 z.m q0) ?_)));rintro x h0 y3 ⟨_,b0,e0,f0,rfl,s0⟩;refine ⟨.inl rfl,ta 6 (x) (dn (nrm (W.ret (bkr (thr ?_)))))⟩;obtain rfl:=si H;exact r1 (qq h0 ⟨x,b0,e0,f0,rfl,s0⟩)
def dY (sg:Sto) (p0:Option Nat) (p1:List aL):Option (Sto×Er):=
 (cE (σ:=Er×Int×Sto) (τ:=(Er×Sto)) (((p1.length:Int) - 0).toNat+1) (fun a=>
 if (decide (a.2.1 < (p1.length:Int)))=true then
 ((idx p1 a.2.1).bind fun f=>
 (eH a.2.2 p0 f).bind fun b=>
 (bI (!b.2.isNil) (some a.1.isNil)).bind fun e=>
 if e=true then
 (nN a.2.1 b.2).bind fun g=>
 some (g,b.1)
 else
 some (a.1,b.1)).bind fun c=>
 some (.inl (c.1,(w64 (a.2.1+1)),c.2))
 else
 some (.inr (a.1,a.2.2))) (Er.nil,0,sg)).bind fun d=>
 some (d.2,d.1)
theorem mZ (O0:Own c0 G F) (R0:Rel c0 sg G) (hG:Gl [0,4,7] c0) (p0:Option Nat) (j:List aL) {r:Sto×Er} (h2:Pt 5 c0 v1 p0) (Z:Sl nG c0 v3 j) (H:dY sg p0 j=some r): Calls prog 62 #[v1,v3] c0.w (aN c0 fun c v=>∃y1,∃G_:Gm,Own c G_ (F)∧Rel c r.1 G_∧v=y1∧RE 305 179 c y1 r.2):=by
 unfold dY at H;refine en func62 rfl rfl (sr (va (.nilIface) (wln (sr (va (.nilIface) (wln (W.seq (sr (va (v3) (vx (ln 3 we Z) (va (I 0) (wln (W.block (bn H fun n2 h5 H6=>lp h5 (fun a=>Jn c0 fun c l=>∃v7 G_,Own c G_ (F)∧l= [(0,v1),(5,v7),(9,v3),(10,I (j.length:Int)),(11,I a.2.1)]∧Rel c a.2.2 G_∧RE 305 179 c v7 a.1) (fun u ex e w=>ex= .exit 0∧(Jn c0 fun c l=>∃v8 G_,Own c G_ (F)∧l= [(5,v8)]∧Rel c u.2 G_∧RE 305 179 c v8 u.1) e w) ?_ ?_ ?_))))))))))))))
 ·clear H6 h5;intro a o2 a1 n1 H;revert a1 n1;rintro X w_ ⟨c9,c2,_,rfl,l9,rfl,v7,d0,y,rfl,M,s⟩;refine sr (va (B (decide (a.2.1 < (j.length:Int)))) (wln (W.seq (cn H (fun b1 H=>?_) (fun b1 H=>?_)))))
  ·refine W.skip (nrm (bn H fun x b g0=>W.seqJ (Jn c9 fun c l=>∃v19 G_,Own c G_ (F)∧l= [(0,v1),(5,v19),(9,v3),(10,I (j.length:Int)),(11,I a.2.1)]∧Rel c x.2 G_∧RE 305 179 c v19 x.1) ?_ ?_))
   ·refine W.block (sr (va (I a.2.1) (bn b fun d P b=>?_)));obtain ⟨x1,c1,m1⟩:=Sl.at (Z.mono l9) (aT P);obtain ⟨v24,rfl,t⟩:=c1;refine vx (ix we Z.m P) (vx (lN 59 m1) (me (al 59 [I 0,I 0,I 0,Y] y) ?_));rintro v29 a2 k1 ⟨u0,rfl,j0⟩;refine va (I a.2.1) ?_;obtain ⟨n,o,p,rfl⟩:=((t.mono k1)).form;refine md (sA 59 [I d.Kind,I d.A,I d.B,.slice n o p] 0 j0 ⟨rfl,rfl,rfl,t.m.one,trivial⟩) ?_;rintro b2 g2 z;refine wln (sr (va (v1) (vx (leN 59 0 [I d.Kind,I d.A,I d.B,.slice n o p] (z.on 0 rfl)) (bn b fun i d1 b=>cl (nv z M.m (hG.m.le (by decide)) p0 d h2.m t.m d1) ?_))));rintro v36 q i2 ⟨_,k,D,N,rfl,R⟩;refine va (v36) (wln (W.seq (bn b fun U S b=>W.join (Jn q fun c l=>Own c k ((Eb u0 59 [I d.Kind,I d.A,I d.B,.slice n o p]) :: F)∧l= [(0,v1),(5,v7),(6,I a.2.1),(8,v36),(9,v3),(10,I (j.length:Int)),(11,I a.2.1),(24,B U)]) ?_ ?_)))
    ·clear b;refine W.region (va (v36) (vr (B (!i.2.isNil)) (by rcases (R).cs with ⟨f,g⟩ | ⟨T,f,g⟩ | ⟨T,f,g⟩ <;> (subst f; rw [g]; kernel_rfl)) ?_));rcases bo (!i.2.isNil) with h | h
     ·have h0:=anT h S;refine vb h (wa (v7) (wn (vr (B a.1.isNil) (by rcases s.m.cs with ⟨f,g⟩ | ⟨T,f,g⟩ | ⟨T,f,g⟩ <;> (subst f; rw [g]; kernel_rfl)) ?_)));obtain rfl:=si h0;exact va (B a.1.isNil) (wln (jn q ⟨D,rfl⟩))
     obtain rfl:=anF h S;exact vb h (pz (va (B false) (wln (jn q ⟨D,rfl⟩))))
    rintro X w_ ⟨v0,d2,_,rfl,j2,rfl,E,rfl⟩;refine nrm (cn b (fun f1 b=>?_) (fun f1 b=>?_))
    ·refine W.region (va (I a.2.1) (va (v36) (bn b fun z1 g1 b=>cl (zl E a.2.1 i.2 R.m g1) ?_)));rintro v55 w0 k2 ⟨_,k0,rfl,h1⟩;refine va (v55) (WL.nil (bkn (nrm ?_)));obtain rfl:=si b;have l0:=k0.sD 1 [];exact jn w0 ⟨v55,k,l0,rfl,N.m,h1⟩
    refine W.skip (bkn (nrm ?_));obtain rfl:=si b;have m0:=E.sD 1 [];exact jn v0 ⟨v7,k,m0,rfl,N.m,s.m⟩
   rintro X w_ ⟨x0,e2,_,rfl,l2,rfl,v19,e0,o0,rfl,s0,i1⟩;refine W.region (vv (I (w64 (a.2.1+1))) (WL.nil ?_));obtain rfl:=si g0;exact ⟨_,rfl,jn x0 ⟨v19,e0,o0,rfl,s0,i1⟩⟩
  refine W.exit (thx ?_);obtain rfl:=si H;exact ⟨_,rfl,rfl,jn c9 ⟨v7,d0,y,rfl,M,s⟩⟩
 ·exact jn c0 ⟨.nilIface,G,O0,rfl,R0,rfl⟩
 rintro _ X w_ ⟨rfl,y0,f2,_,rfl,m2,rfl,v8,f0,q0,rfl,t0,j1⟩;refine bke (nrm (sr (vv (v8) (wln (W.ret ?_)))));obtain rfl:=si H6;exact r1 (qq y0 ⟨v8,f0,q0,t0,rfl,j1⟩)
def df (sg:Sto) (p0:Option Nat):Option (gu):=
 if p0.isNone=true then
 some (⟨0,0,([]:List ak),(⟨0,0,false⟩:ai),false⟩:gu)
 else
 (p0).bind fun b=>
 (sg.screen_Screen[b]?).bind fun d=>
 (d.pen).bind fun c=>
 (sg.place_Pen[c]?).bind fun a=>
 (cg sg a.G).bind fun e=>
 (bO sg a.G).bind fun f=>
 (iW sg a.G).bind fun g=>
 some (⟨e,f,g,a.At,a.Auto⟩:gu)
theorem kq (O0:Own c0 G F) (o:Rel c0 sg G) (U:Option Nat) {r:gu} (h2:Pt 5 c0 v1 U) (H:df sg U=some r): Calls prog 57 #[v1] c0.w (aN c0 fun c v=>∃X y2,Own c G (es true am X 71 y2 r.Lines :: F)∧v= .agg #[I r.Wide,I r.High,X,I r.At.Row,I r.At.Col,B r.At.Pending,B r.Auto]∧OA am c X y2 r.Lines):=by
 unfold df at H;refine en func57 rfl rfl (sr (me (al 96 [I 0,I 0,Y,I 0,I 0,B false,B false] O0) ?_));rintro v6 c5 T ⟨b3,rfl,y⟩;refine wln (W.seq (sr (va (v1) (vr (B U.isNone) (by rcases h2.m.cs with ⟨N,P⟩ | ⟨b_,N,P⟩ <;> (subst N; rw [P]; kernel_rfl)) (wln (cn H (fun h7 H=>?_) (fun h7 H=>?_)))))))
 ·refine sr (va (.agg #[I 0,I 0,Y,I 0,I 0,B false,B false]) (md (sA 96 [I 0,I 0,Y,I 0,I 0,B false,B false] 0 y ⟨rfl,rfl,rfl,rfl,rfl,rfl,rfl,trivial⟩) ?_));rintro S l9 O8;refine wln (W.ret (thr ?_));obtain rfl:=si H;have g0:OA am S (Y) [] []:=OA.nil (aM _);have z:=O8.addHole (e:=es true am (Y) 71 [] ([]:List ak)) rfl;have Z:=z.sD 2 [0];exact jZ (c:=S) (vs:=[I 0,I 0,Y,I 0,I 0,B false,B false]) rfl (by kernel_rfl) (by kernel_rfl) (by kernel_rfl) (z.on 1 rfl _ rfl).1 ⟨_,S,rfl,rfl,pt,(Y),[],Z,rfl,g0⟩
 refine W.skip (nrm (sr (va (v1) (bn H fun e1 i0 H=>?_))));obtain ⟨b,rfl,h0⟩:=((h2.mono T)).get i0;refine va (Q b) (va (Qo b 1) (bn H fun g1 j0 H=>?_));obtain ⟨v17,v19,q,i1,l0⟩:=Rel.open_screen_Screen (o.mono T) j0 h0;refine vx (le1 1 yg (y.gon q 0 rfl)) (bn H fun f1 o0 H=>?_);obtain ⟨d,rfl,m0⟩:=(l0).get o0;refine vv (Q d) (bn H fun a q0 H=>?_);obtain ⟨v26,t,s⟩:=Rel.open_place_Pen (o.mono T) q0 m0;refine vx (le1 0 jA (y.gon t 0 rfl)) (va (v26) (wln (W.seq (rD [] (Kp G []) y ?_))));intro b0 j1 A;have l:Kp G [] b0:=(Kp.nil A);refine ta 0 (v26) (ta 2 (v26) (ta 4 (v26) (ta 6 (Q b) (ta 7 (Q b) (ta 8 (Qo b 1) (tkx 9 l (fun R x f=>le1 1 yg (f.gon q 0 rfl)) (ta 10 (Q d) (ta 11 (Qo d 1) (tkx 12 l (fun R x f=>leN 24 1 [I a.At.Row,I a.At.Col,B a.At.Pending] (f.gon t 0 rfl)) (ta 13 (Q b) (ta 14 (Q b) (ta 15 (Qo b 1) (tkx 16 l (fun R x f=>le1 1 yg (f.gon q 0 rfl)) (ta 17 (Q d) (ta 18 (Qo d 4) (tkx 19 l (fun R x f=>le1 4 u_4 (f.gon t 0 rfl)) (bn H fun g s0 H=>o1 1 (gc 1 (cF A o.m a.G s.m s0) ?_))))))))))))))))));rintro v38 d0 k1 ⟨D,rfl⟩;have v0:Kp G [] d0:=(Kp.nil D);refine ⟨.inr v0,bn H fun h t0 H=>o1 3 (gc 3 (bJ D o.m a.G s.m t0) ?_)⟩;rintro v46 e0 m1 ⟨E,rfl⟩;have w0:Kp G [] e0:=(Kp.nil E);refine ⟨.inr w0,bn H fun h1 u0 H=>o1 5 (gc 5 (tq E o.m a.G s.m u0) ?_)⟩;rintro v49 f0 n1 ⟨_,z0,M,rfl,u⟩;have x0:Kp G [] f0:=(Kp.nil M);refine ⟨.inr x0,?_⟩;obtain ⟨i,j,k,rfl⟩:=(u).form;refine ta 20 (.agg #[I g,I h,.slice i j k,I a.At.Row,I a.At.Col,B a.At.Pending,B a.Auto]) (o1 21 (gD 21 (sA 96 [I g,I h,.slice i j k,I a.At.Row,I a.At.Col,B a.At.Pending,B a.Auto] 1 M ⟨rfl,rfl,(u).one,rfl,rfl,rfl,rfl,trivial⟩) ?_));rintro p p1 n;have y0:Kp G [] p:=(Kp.nil n);refine ⟨.inr y0,dn (nrm (W.ret ?_))⟩;obtain rfl:=si H;have a0:=n.sD 2 [0];exact jZ (c:=p) (vs:=[I g,I h,.slice i j k,I a.At.Row,I a.At.Col,B a.At.Pending,B a.Auto]) rfl (by kernel_rfl) (by kernel_rfl) (by kernel_rfl) (n.on 1 rfl _ rfl).1 ⟨_,p,rfl,rfl,pt,(.slice i j k),z0,a0,rfl,u.m⟩
def iU (sg:Sto) (p0:Option Nat):Option (Int):=
 if p0.isNone=true then
 some 0
 else
 (p0).bind fun c=>
 (sg.screen_Screen[c]?).bind fun a=>
 (lh sg a.Feeder).bind fun b=>
 some b
theorem qE (d:Own c0 G F) (i:Rel c0 sg G) (f:Option Nat) {r:Int} (n:Pt 5 c0 v1 f) (H:iU sg f=some r): Calls prog 64 #[v1] c0.w (aN c0 fun c v=>Own c G (F)∧v=I r):=by
 unfold iU at H;refine en func64 rfl rfl (sr (va (I 0) (wln (W.seq (sr (va (v1) (vr (B f.isNone) (by rcases (n).cs with ⟨a,b⟩ | ⟨z,a,b⟩ <;> (subst a; rw [b]; kernel_rfl)) (wln (cn H (fun o H=>?_) (fun o H=>?_))))))))))
 ·refine sr (va (I 0) (wln (W.ret (thr ?_))));obtain rfl:=si H;exact r1 (qq c0 ⟨d,rfl⟩)
 refine W.skip (nrm (sr (va (v1) (bn H fun x q H=>?_))));obtain ⟨j,rfl,p⟩:=(n).get q;refine vv (Q j) (bn H fun e s H=>?_);obtain ⟨v8,v10,l,t,u⟩:=Rel.open_screen_Screen i s p;refine vx (le1 0 A9 (d.gon l 0 rfl)) (bn H fun g m H=>cl (su d i e.Feeder t m) ?_);rintro v19 k y ⟨h,rfl⟩;refine va (I g) (wln (W.ret ?_));obtain rfl:=si H;exact r1 (qq k ⟨h,rfl⟩)
def iT (sg:Sto) (p0:Option Nat):Option (List Int):=
 if p0.isNone=true then
 some ([]:List Int)
 else
 (p0).bind fun c=>
 (sg.screen_Screen[c]?).bind fun a=>
 (lg sg a.Feeder).bind fun b=>
 some b
theorem qD (d:Own c0 G F) (j:Rel c0 sg G) (g:Option Nat) {r:List Int} (q:Pt 5 c0 v1 g) (H:iT sg g=some r): Calls prog 65 #[v1] c0.w (aN c0 fun c v=>∃h t,Own c G (es true (RI .i32) h 21 t r :: F)∧v=h∧OA (RI .i32) c h t r):=by
 unfold iT at H;refine en func65 rfl rfl (sr (va (Y) (wln (W.seq (sr (va (v1) (vr (B g.isNone) (by rcases (q).cs with ⟨a,b⟩ | ⟨R,a,b⟩ <;> (subst a; rw [b]; kernel_rfl)) (wln (cn H (fun x H=>?_) (fun x H=>?_))))))))))
 ·refine sr (va (Y) (wln (W.ret (thr ?_))));obtain rfl:=si H;have y:OA (RI .i32) c0 (Y) [] []:=OA.nil (aM _);have u:=d.addHole (e:=es true (RI .i32) (Y) 21 [] ([]:List Int)) rfl;exact r1 (qq c0 ⟨(Y),[],u,rfl,y⟩)
 refine W.skip (nrm (sr (va (v1) (bn H fun N A H=>?_))));obtain ⟨k,rfl,z⟩:=(q).get A;refine vv (Q k) (bn H fun f D H=>?_);obtain ⟨v10,v12,n,m,M⟩:=Rel.open_screen_Screen j D z;refine vx (le1 0 A9 (d.gon n 0 rfl)) (bn H fun E o H=>cl (ss d j f.Feeder m o) ?_);rintro v16 l P ⟨_,s,i,rfl,p⟩;refine va (v16) (wln (W.ret ?_));obtain rfl:=si H;exact r1 (qq l ⟨v16,s,i,rfl,p⟩)
def dx (sg:Sto):Option (Sto×Bool):=
 (kB sg 3 1).bind fun b=>
 (if b.2.isNone=true then some (true,b.1) else (dY b.1 b.2 ([(⟨0,0,0,([97]:List Int)⟩:aL),(⟨2,0,0,([]:List Int)⟩:aL),(⟨0,0,0,([204,129]:List Int)⟩:aL)]:List aL)).bind fun d=>
 some (!d.2.isNil,d.1)).bind fun c=>
 if c.1=true then
 some (c.2,false)
 else
 (df c.2 b.2).bind fun a=>
 (bI ((a.Lines.length:Int)==1) ((idx a.Lines 0).bind fun i=>
 some ((i.Cells.length:Int)==3))).bind fun e=>
 (bI e ((idx a.Lines 0).bind fun j=>
 (idx j.Cells 0).bind fun k=>
 (dM k.Text ([769]:List Int)).bind fun l=>
 some l)).bind fun f=>
 (bI f (some (a.At.Row==0 && (a.At.Col==1 && (a.At.Pending==false && true))))).bind fun g=>
 (bI g (some a.Auto)).bind fun h=>
 some (c.2,h)
theorem mn (O0:Own c0 G F) (R0:Rel c0 sg G) (hG:Gl [0,4,7] c0) {r:Sto×Bool} (H:dx sg=some r): Calls prog 54 #[] c0.w (aN c0 fun c v=>∃G_:Gm,Own c G_ (F)∧Rel c r.1 G_∧v=B r.2):=by
 unfold dx at H;refine en func54 rfl rfl (sr (va (B false) (wln (sr (bn H fun E h1 H=>cl (tl O0 R0 3 1 h1) ?_)))));rintro v2 c8 l8 ⟨_,G4,O5,R6,a7,rfl,h3⟩;refine va (v2) (wln (W.seq (W.seq (bn H fun v0 w0 H=>W.join (Jn c8 fun c l=>∃G_,Own c G_ (F)∧l= [(1,v2),(17,B v0.1)]∧Rel c v0.2 G_) ?_ ?_))))
 ·clear H;refine W.region (va (v2) (vr (B E.2.isNone) (by rcases (h3).cs with ⟨k,n⟩ | ⟨b_,k,n⟩ <;> (subst k; rw [n]; kernel_rfl)) ?_));rcases bo (E.2.isNone) with s | s
  ·obtain rfl:=be (it s w0);exact vb s (pz (pz (pz (pz (pz (va (B true) (wln (jn c8 ⟨G4,O5,rfl,R6⟩))))))))
  have N:=ie s w0;refine vb s (wa (v2) (wn (me (sl (RI .u8) 5 [[.int .u8 97]] ([97]:List Int) O5 ⟨rfl,trivial⟩) ?_)));rintro v17 l4 l16 ⟨c5,b2,u2⟩;refine wn (me (Own.mark (T:=57) 0 b2 rfl u2 (by kernel_rfl) lE u_5 (by kernel_rfl)) ?_);rintro v21 m4 u4 ⟨c2,x0⟩;have d2:=c2.sD 1 [];refine wn ?_;obtain ⟨S,U,X,rfl⟩:=(x0).form;refine va (.agg #[I 0,I 0,I 0,.slice S U X]) (wa (.agg #[I 2,I 0,I 0,Y]) (wn (me (sl (RI .u8) 5 [[.int .u8 204],[.int .u8 129]] ([204,129]:List Int) d2 ⟨rfl,rfl,trivial⟩) ?_)));rintro v30 n4 v4 ⟨d5,e2,y0⟩;refine wn ?_;obtain ⟨Z,a0,b0,rfl⟩:=(y0).form;refine va (.agg #[I 0,I 0,I 0,.slice Z a0 b0]) (wn ?_);obtain ⟨o4,x2,w4,f2,w2⟩:=e2.frz 0 rfl y0;refine WL.gh x2 (me (sl nG 59 [[I 0,I 0,I 0,.slice S U X],[I 2,I 0,I 0,Y],[I 0,I 0,I 0,.slice Z a0 b0]] ([(⟨0,0,0,([97]:List Int)⟩:aL),(⟨2,0,0,([]:List Int)⟩:aL),(⟨0,0,0,([204,129]:List Int)⟩:aL)]:List aL) f2 ⟨⟨(.slice S U X),rfl,x0.m⟩,⟨(Y),rfl,(Sl.nl _ _)⟩,⟨(.slice Z a0 b0),rfl,w2⟩,trivial⟩) ?_);rintro v42 p4 x4 ⟨e5,g2,y2⟩;refine wn ?_;obtain ⟨q4,a3,y4,h2,z2⟩:=g2.frz 0 rfl y2;refine WL.gh a3 (bn N fun s0 b3 N=>cl (mZ h2 R6.m (hG.m.le (by decide)) E.2 ([(⟨0,0,0,([97]:List Int)⟩:aL),(⟨2,0,0,([]:List Int)⟩:aL),(⟨0,0,0,([204,129]:List Int)⟩:aL)]:List aL) h3.m z2 b3) ?_);rintro v48 q2 z4 ⟨_,a2,j2,n2,rfl,c3⟩;refine wn (vr (B (!s0.2.isNil)) (by rcases (c3).cs with ⟨k,n⟩ | ⟨b_,k,n⟩ | ⟨b_,k,n⟩ <;> (subst k; rw [n]; kernel_rfl)) ?_);obtain rfl:=si N;refine va (B (!s0.2.isNil)) (wln ?_);have k2:=j2.sD 2 [];exact jn q2 ⟨a2,k2,rfl,n2⟩
 rintro e_ w_ ⟨s2,t4,_,rfl,a5,rfl,M,u0,rfl,R⟩;refine nrm (cn H (fun d3 H=>?_) (fun d3 H=>?_))
 ·refine sr (va (B false) (wln (W.ret (thr ?_))));obtain rfl:=si H;exact r1 (qq s2 ⟨M,u0,R,rfl⟩)
 refine W.skip (nrm (sr (va (v2) (bn H fun a e3 H=>cl (kq u0 R E.2 h3.m e3) ?_))));rintro g5 r4 b5 ⟨f5,k3,l2,rfl,b⟩;refine me (al 96 [I 0,I 0,Y,I 0,I 0,B false,B false] l2) ?_;rintro h5 s4 q0 ⟨i,rfl,m2⟩;obtain ⟨o,p,q,rfl⟩:=((b.mono q0)).form;refine md (sA 96 [I a.Wide,I a.High,.slice o p q,I a.At.Row,I a.At.Col,B a.At.Pending,B a.Auto] 0 m2 ⟨rfl,rfl,b.m.one,rfl,rfl,rfl,rfl,trivial⟩) ?_;rintro d0 a1 d;refine wln (W.seq (bn H fun t3 z0 H=>bn H fun u3 m0 H=>bn H fun v3 D H=>bn H fun n1 t H=>W.join (Jn d0 fun c l=>Own c M ((Eb i 96 [I a.Wide,I a.High,.slice o p q,I a.At.Row,I a.At.Col,B a.At.Pending,B a.Auto]) :: es true am (.slice o p q) 71 k3 a.Lines :: F)∧l= [(0,B n1)]) ?_ ?_))
 ·clear H;refine W.region (va (Qo i 2) (vx (le1 2 dX (d.on 0 rfl)) (vx (lnO 3 dX b.m) (va (B ((a.Lines.length:Int)==1)) ?_))));rcases bo ((a.Lines.length:Int)==1) with u | u
  ·have P:=anT u z0;refine vb u (wa (Qo i 2) (wn (vx (le1 2 dX (d.on 0 rfl)) (wn (bn P fun A o0 P=>vx (ixO dX b.m o0) (wa (Qo (sb (.slice o p q)) ((0:Int).toNat * 2)) (wn ?_)))))));obtain ⟨d4,f3,j3⟩:=OA.at (b.mono (q0.trans a1)) o0;obtain ⟨l3,rfl,g3⟩:=f3;refine vr l3 (rx (by kernel_rfl) (lF ck rfl (d.on 1 rfl) (b.m.blk o0) (at1 (j:=0) j3 rfl))) (wn (vx (ln 3 ck g3) (wa (B ((A.Cells.length:Int)==3)) ?_)));obtain rfl:=si P;refine va (B ((A.Cells.length:Int)==3)) ?_;rcases bo ((A.Cells.length:Int)==3) with x | x
   ·have e:=anT x m0;refine vb x (wa (Qo i 2) (wn (vx (le1 2 dX (d.on 0 rfl)) (wn (bn e fun k4 p0 e=>vx (ixO dX b.m p0) (wa (Qo (sb (.slice o p q)) ((0:Int).toNat * 2)) (wn ?_)))))));obtain ⟨e4,i3,x1⟩:=OA.at (b.mono (q0.trans a1)) p0;obtain ⟨z,rfl,e0⟩:=i3;refine vr z (rx (by kernel_rfl) (lF ck rfl (d.on 1 rfl) (b.m.blk p0) (at1 (j:=0) x1 rfl))) (wn (bn e fun z1 f0 e=>?_));obtain ⟨m3,p1,y1⟩:=Sl.at e0 (aT f0);obtain ⟨g4,rfl,q1⟩:=p1;refine vx (ix ck e0 f0) (wa (Qo (sb z) (so z+(0:Int).toNat * 2+1)) (wn (vx (l1 dh (y1 1 _ rfl)) (wn (me (sl (RI .i32) 21 [[J 769]] ([769]:List Int) d ⟨rfl,trivial⟩) ?_)))));rintro h4 q3 z3 ⟨f4,d1,s1⟩;refine wn ?_;obtain ⟨s3,u1,a4,e1,t1⟩:=d1.frz 0 rfl s1;refine WL.gh u1 (bn e fun t0 v1 e=>cl (mT e1 z1.Text ([769]:List Int) q1.m t1 v1) ?_);rintro i4 y b4 ⟨f,rfl⟩;obtain rfl:=si e;refine va (B t0) ?_;rcases bo (t0) with g | g
    ·have b1:=anT g D;refine vb g (wa (Qo i 3) (wn (vx (leN 24 3 [I a.At.Row,I a.At.Col,B a.At.Pending] (f.on 1 rfl)) (wa (.agg #[I 0,I 1,B false]) (wn (vr (B (a.At.Row==0 && (a.At.Col==1 && (a.At.Pending==false && true)))) (yq (T:=24) (xs:= #[I a.At.Row,I a.At.Col,B a.At.Pending]) (ys:= #[I 0,I 1,B false]) (r:=(a.At.Row==0 && (a.At.Col==1 && (a.At.Pending==false && true)))) underlying24 (by kernel_rfl) (by kernel_rfl) (EqP.int (by kernel_rfl) u_3 rfl rfl (EqP.int (by kernel_rfl) u_3 rfl rfl (EqP.bool (by kernel_rfl) u_4 rfl rfl EqP.nil))) (by kernel_rfl) _) ?_))))));obtain rfl:=si b1;refine va (B (a.At.Row==0 && (a.At.Col==1 && (a.At.Pending==false && true)))) ?_;rcases bo ((a.At.Row==0 && (a.At.Col==1 && (a.At.Pending==false && true)))) with h | h
     ·have c1:=anT h t;refine vb h (wa (Qo i 6) (wn (vx (le1 6 u_4 (f.on 1 rfl)) ?_)));obtain rfl:=si c1;refine vv (B a.Auto) (wln ?_);have f1:=f.sD 3 [1,2];exact jn y ⟨f1,rfl⟩
     obtain rfl:=anF h t;refine vb h (pz (vv (B false) (wln ?_)));have g1:=f.sD 3 [1,2];exact jn y ⟨g1,rfl⟩
    obtain rfl:=anF g D;refine vb g (pz (pz (va (B false) ?_)));have g0:false=false:=rfl;obtain rfl:=anF g0 t;refine vb g0 (pz (vv (B false) (wln ?_)));have i1:=f.sD 3 [1,2];exact jn y ⟨i1,rfl⟩
   obtain rfl:=anF x m0;refine vb x (pz (pz (pz (pz (pz (va (B false) ?_))))));have h0:false=false:=rfl;obtain rfl:=anF h0 D;refine vb h0 (pz (pz (va (B false) ?_)));have i0:false=false:=rfl;obtain rfl:=anF i0 t;exact vb i0 (pz (vv (B false) (wln (jn d0 ⟨d,rfl⟩))))
  obtain rfl:=anF u z0;refine vb u (pz (pz (pz (ps (va (B false) ?_)))));have j0:false=false:=rfl;obtain rfl:=anF j0 m0;refine vb j0 (pz (pz (pz (pz (pz (va (B false) ?_))))));have k0:false=false:=rfl;obtain rfl:=anF k0 D;refine vb k0 (pz (pz (va (B false) ?_)));have l0:false=false:=rfl;obtain rfl:=anF l0 t;exact vb l0 (pz (vv (B false) (wln (jn d0 ⟨d,rfl⟩))))
 rintro e_ w_ ⟨m1,x3,_,rfl,c4,rfl,j1,rfl⟩;refine nrm (W.ret ?_);obtain rfl:=si H;have k1:=j1.sD 2 [];exact r1 (qq m1 ⟨M,k1,R.m,rfl⟩)
def fm (p0:Int) (p1:Int):Option (ao):=
 (gy (aE 1 (aB p0 1024)) (aE 1 (aB p1 1024))).bind fun a=>
 some (⟨a,([]:List Int),([]:List Int),0⟩:ao)
theorem ro (A:Own c0 G F) (g:Int) (h:Int) {r:ao} (H:fm g h=some r): Calls prog 66 #[I g,I h] c0.w (aN c0 fun c v=>∃k x l y n z,Own c G (es true am k 71 x r.P.L :: es true (RI .i32) l 21 y r.Group :: es true (RI .u8) n 5 z r.Raw :: F)∧v= .agg #[k,I r.P.At.Row,I r.P.At.Col,B r.P.At.Pending,B r.P.Auto,l,n,I r.Parts]∧OA am c k x r.P.L∧OA (RI .i32) c l y r.Group∧OA (RI .u8) c n z r.Raw):=by
 unfold fm at H;refine en func66 rfl rfl (sr (me (al 83 [Y,I 0,I 0,B false,B false,Y,Y,I 0] A) ?_));rintro v4 U X ⟨T,rfl,D⟩;refine wln (sr (va (I g) (va (I (aB g 1024)) (va (I (aE 1 (aB g 1024))) (va (I h) (va (I (aB h 1024)) (va (I (aE 1 (aB h 1024))) (bn H fun a E H=>cl (rq D (aE 1 (aB g 1024)) (aE 1 (aB h 1024)) E) ?_))))))));rintro v14 N R ⟨v6,M,o,rfl,j⟩;obtain ⟨b,a16,d,rfl⟩:=(j).form;refine va (.agg #[.slice b a16 d,I a.At.Row,I a.At.Col,B a.At.Pending,B a.Auto,Y,Y,I 0]) (md (sA 83 [.slice b a16 d,I a.At.Row,I a.At.Col,B a.At.Pending,B a.Auto,Y,Y,I 0] 1 o ⟨(j).one,rfl,rfl,rfl,rfl,rfl,rfl,rfl,trivial⟩) ?_);rintro f S p;refine wln (W.ret ?_);obtain rfl:=si H;have t:OA (RI .i32) f (Y) [] []:=OA.nil (aM _);have q:=p.addHole (e:=es true (RI .i32) (Y) 21 [] ([]:List Int)) rfl;have u:OA (RI .u8) f (Y) [] []:=OA.nil (aM _);have i:=q.addHole (e:=es true (RI .u8) (Y) 5 [] ([]:List Int)) rfl;have s:=i.sD 4 [2,1,0];exact jZ (c:=f) (vs:=[.slice b a16 d,I a.At.Row,I a.At.Col,B a.At.Pending,B a.Auto,Y,Y,I 0]) rfl (by kernel_rfl) (by kernel_rfl) (by kernel_rfl) (i.on 3 rfl _ rfl).1 ⟨_,f,rfl,rfl,pt,(.slice b a16 d),M,(Y),[],(Y),[],s,rfl,j.m,t,u⟩
def gX (p0:ao) (p1:aL):Option (ao×Int):=
 if (p1.Kind==0)=true then
 (dF p0 p1.Bytes).bind fun f=>
 some (f,0)
 else
 if (p1.Kind==1)=true then
 (dE p0).bind fun g=>
 some (g,0)
 else
 if (p1.Kind==13)=true then
 (cJ p0).bind fun c=>
 (di c.P p1.A p1.B).bind fun h=>
 some ((⟨h,c.Group,c.Raw,c.Parts⟩:ao),0)
 else
 (fw p1).bind fun e=>
 (if (e==0)=true then
 (cJ p0).bind fun d=>
 (fG d.P p1).bind fun b=>
 some (b.L,b.At.Row,b.At.Col,b.At.Pending,b.Auto,d.Group,d.Raw,d.Parts)
 else
 some (p0.P.L,p0.P.At.Row,p0.P.At.Col,p0.P.At.Pending,p0.P.Auto,p0.Group,p0.Raw,p0.Parts)).bind fun a=>
 some ((⟨(⟨a.1,(⟨a.2.1,a.2.2.1,a.2.2.2.1⟩:ai),a.2.2.2.2.1⟩:aa),a.2.2.2.2.2.1,a.2.2.2.2.2.2.1,a.2.2.2.2.2.2.2⟩:ao),e)
theorem ny (O0:Own c0 G F) (d:ao) (j:aL) {r:ao×Int} (h2:Sl am c0 v1 d.P.L) (h4:Sl (RI .i32) c0 v3 d.Group) (h6:Sl (RI .u8) c0 v5 d.Raw) (h8:Sl (RI .u8) c0 v7 j.Bytes) (H:gX d j=some r): Calls prog 67 #[.agg #[v1,I d.P.At.Row,I d.P.At.Col,B d.P.At.Pending,B d.P.Auto,v3,v5,I d.Parts],.agg #[I j.Kind,I j.A,I j.B,v7]] c0.w (aN c0 fun c v=>∃y1 y2 y3,Own c G (F)∧v= .tuple #[.agg #[y1,I r.1.P.At.Row,I r.1.P.At.Col,B r.1.P.At.Pending,B r.1.P.Auto,y2,y3,I r.1.Parts],I r.2]∧Sl am c y1 r.1.P.L∧Sl (RI .i32) c y2 r.1.Group∧Sl (RI .u8) c y3 r.1.Raw):=by
 unfold gX at H;refine en func67 rfl rfl (sr ?_);obtain ⟨a9,E,M,rfl⟩:=(h2).form;obtain ⟨N,R,S,rfl⟩:=(h4).form;obtain ⟨T,a16,U,rfl⟩:=(h6).form;refine me (al 83 [.slice a9 E M,I d.P.At.Row,I d.P.At.Col,B d.P.At.Pending,B d.P.Auto,.slice N R S,.slice T a16 U,I d.Parts] O0) ?_;rintro v21 h7 u5 ⟨X,rfl,c5⟩;obtain ⟨j5,k5,l5,rfl⟩:=((h8.mono u5)).form;refine me (bx 59 [I j.Kind,I j.A,I j.B,.slice j5 k5 l5] c5) ?_;rintro v29 i7 n7 ⟨i1,rfl,d5,Z⟩;refine me (al 83 [Y,I 0,I 0,B false,B false,Y,Y,I 0] d5) ?_;rintro v33 j7 o7 ⟨s3,rfl,D⟩;refine va (I 0) (wln (W.seq (sr (va (Q i1) (vx (l1 u_3 ((mm Z) 0 _ rfl)) (wln (W.block (sr (vv (B (j.Kind==0)) (wln (cn H (fun m5 H=>?_) (fun m5 H=>?_))))))))))))
 ·refine sr (vx (leN 83 0 [.slice a9 E M,I d.P.At.Row,I d.P.At.Col,B d.P.At.Pending,B d.P.Auto,.slice N R S,.slice T a16 U,I d.Parts] (D.on 1 rfl)) (va (Qo i1 (0+3)) (vx (l1 lE ((mm Z) 3 _ rfl)) (bn H fun g n5 H=>cl (nB D d j.Bytes h2.m h4.m h6.m h8.m n5) ?_))));rintro v47 k7 p7 ⟨v36,v38,v40,e5,rfl,f3,g3,h3⟩;obtain ⟨i2,j2,k2,rfl⟩:=(f3).form;obtain ⟨l2,m2,n2,rfl⟩:=(g3).form;obtain ⟨o2,p2,q2,rfl⟩:=(h3).form;refine md (sA 83 [.slice i2 j2 k2,I g.P.At.Row,I g.P.At.Col,B g.P.At.Pending,B g.P.Auto,.slice l2 m2 n2,.slice o2 p2 q2,I g.Parts] 0 e5 ⟨f3.one,rfl,rfl,rfl,rfl,g3.one,h3.one,rfl,trivial⟩) ?_;rintro t3 q7 p3;refine va (I 0) (wln (W.ret (bkr (thr ?_))));obtain rfl:=si H;have f5:=p3.sD 2 [];exact rJ (c:=t3) (vs:=[.slice i2 j2 k2,I g.P.At.Row,I g.P.At.Col,B g.P.At.Pending,B g.P.Auto,.slice l2 m2 n2,.slice o2 p2 q2,I g.Parts]) (v:=I 0) rfl (by kernel_rfl) (by kernel_rfl) (by kernel_rfl) (by kernel_rfl) (p3.on 0 rfl _ rfl).1 ⟨_,t3,rfl,rfl,pt,(.slice i2 j2 k2),(.slice l2 m2 n2),(.slice o2 p2 q2),f5,rfl,f3.m,g3.m,h3.m⟩
 refine sr (vv (B (j.Kind==1)) (wln (cn H (fun o5 H=>?_) (fun o5 H=>?_))))
 ·refine sr (vx (leN 83 0 [.slice a9 E M,I d.P.At.Row,I d.P.At.Col,B d.P.At.Pending,B d.P.Auto,.slice N R S,.slice T a16 U,I d.Parts] (D.on 1 rfl)) (bn H fun h p5 H=>cl (nz D d h2.m h4.m h6.m p5) ?_));rintro z7 l7 r7 ⟨w7,x7,t7,y7,g5,rfl,i3,j3,k3⟩;obtain ⟨s2,t2,u2,rfl⟩:=(i3).form;obtain ⟨v2,w2,x2,rfl⟩:=(j3).form;obtain ⟨z2,a3,b3,rfl⟩:=(k3).form;refine md (sA 83 [.slice s2 t2 u2,I h.P.At.Row,I h.P.At.Col,B h.P.At.Pending,B h.P.Auto,.slice v2 w2 x2,.slice z2 a3 b3,I h.Parts] 1 g5 ⟨i3.one,rfl,rfl,rfl,rfl,(j3).one,k3.one,rfl,trivial⟩) ?_;rintro m7 w5 h5;refine va (I 0) (wln (W.ret (bkr (thr ?_))));obtain rfl:=si H;obtain ⟨u3,r5,s7,q3,q5⟩:=h5.frz 0 rfl (j3.mono w5);have i5:=q3.sD 3 [];exact Aj r5 (rJ (c:=u3) (vs:=[.slice s2 t2 u2,I h.P.At.Row,I h.P.At.Col,B h.P.At.Pending,B h.P.Auto,.slice v2 w2 x2,.slice z2 a3 b3,I h.Parts]) (v:=I 0) rfl (by kernel_rfl) (by kernel_rfl) (by kernel_rfl) (by kernel_rfl) (q3.on 1 rfl _ rfl).1 ⟨_,u3,rfl,rfl,pt,(.slice s2 t2 u2),(.slice v2 w2 x2),(.slice z2 a3 b3),i5,rfl,i3.m,q5,k3.m⟩)
 refine sr (vv (B (j.Kind==13)) (wln (cn H (fun s5 H=>?_) (fun s5 H=>?_))))
 ·refine sr (vx (leN 83 0 [.slice a9 E M,I d.P.At.Row,I d.P.At.Col,B d.P.At.Pending,B d.P.Auto,.slice N R S,.slice T a16 U,I d.Parts] (D.on 1 rfl)) (bn H fun e t5 H=>cl (ij D d h2.m h4.m h6.m t5) ?_));rintro x6 b6 o6 ⟨a8,b8,u7,c8,x3,rfl,l3,j1,k1⟩;obtain ⟨b2,c2,d2,rfl⟩:=(l3).form;obtain ⟨o,p,q,rfl⟩:=(j1).form;obtain ⟨s,t,u,rfl⟩:=(k1).form;refine md (sA 83 [.slice b2 c2 d2,I e.P.At.Row,I e.P.At.Col,B e.P.At.Pending,B e.P.Auto,.slice o p q,.slice s t u,I e.Parts] 2 x3 ⟨l3.one,rfl,rfl,rfl,rfl,(j1).one,k1.one,rfl,trivial⟩) ?_;rintro c6 w4 t1;refine wln (sr (va (Q X) (vx (leN 43 0 [.slice b2 c2 d2,I e.P.At.Row,I e.P.At.Col,B e.P.At.Pending,B e.P.Auto] (t1.on 2 rfl)) (va (Qo i1 (0+1)) (vx (l1 u_3 ((mm Z) 1 _ rfl)) (va (Qo i1 (0+2)) (vx (l1 u_3 ((mm Z) 2 _ rfl)) (bn H fun b l4 H=>cl (pv t1 e.P j.A j.B l3.m l4) ?_))))))));rintro z6 d6 x4 ⟨y6,v6,z3,rfl,a0⟩;refine va (Q X) ?_;obtain ⟨x,y,z,rfl⟩:=(a0).form;refine md (sB 43 0 [.slice x y z,I b.At.Row,I b.At.Col,B b.At.Pending,B b.Auto] [.slice x y z,I b.At.Row,I b.At.Col,B b.At.Pending,B b.Auto,.slice o p q,.slice s t u,I e.Parts] 3 z3 ⟨(a0).one,rfl,rfl,rfl,rfl,trivial⟩) ?_;rintro e6 m3 u1;refine wln (sr (vx (leN 83 0 [.slice x y z,I b.At.Row,I b.At.Col,B b.At.Pending,B b.Auto,.slice o p q,.slice s t u,I e.Parts] (u1.on 3 rfl)) (md (sA 83 [.slice x y z,I b.At.Row,I b.At.Col,B b.At.Pending,B b.Auto,.slice o p q,.slice s t u,I e.Parts] 2 u1 ⟨a0.m.one,rfl,rfl,rfl,rfl,j1.m.one,k1.m.one,rfl,trivial⟩) ?_)));rintro f6 n3 a4;refine va (I 0) (wln (W.ret (bkr (thr ?_))));obtain rfl:=si H;obtain ⟨g6,n4,y4,b4,m4⟩:=a4.frz 0 rfl (a0.mono (m3.trans n3));obtain ⟨c3,p4,p6,w1,o4⟩:=b4.frz 1 rfl (j1.mono (w4.trans (x4.trans (m3.trans (n3.trans y4)))));have c4:=w1.sD 4 [];exact Aj n4 (Aj p4 (rJ (c:=c3) (vs:=[.slice x y z,I b.At.Row,I b.At.Col,B b.At.Pending,B b.Auto,.slice o p q,.slice s t u,I e.Parts]) (v:=I 0) rfl (by kernel_rfl) (by kernel_rfl) (by kernel_rfl) (by kernel_rfl) (w1.on 2 rfl _ rfl).1 ⟨_,c3,rfl,rfl,pt,(.slice x y z),(.slice o p q),(.slice s t u),c4,rfl,m4.m,o4,k1.m⟩))
 refine W.skip (bkn (nrm (sr (vx (lN 59 (mm Z)) (bn H fun n q4 H=>cl (pL D j h8.m q4) ?_)))));rintro a7 d3 q6 ⟨f0,rfl⟩;refine va (I n) (wln (bn H fun a i w3=>W.seqJ (Jn d3 fun c l=>∃b0 d0 e0,Own c G ((Eb s3 83 [Y,I 0,I 0,B false,B false,Y,Y,I 0]) :: (Eb X 83 [b0,I a.2.1,I a.2.2.1,B a.2.2.2.1,B a.2.2.2.2.1,d0,e0,I a.2.2.2.2.2.2.2]) :: F)∧l= [(2,Q X),(4,Q s3),(6,I n)]∧Sl am c b0 a.1∧Sl (RI .i32) c d0 a.2.2.2.2.2.1∧Sl (RI .u8) c e0 a.2.2.2.2.2.2.1) ?_ ?_))
 ·refine sr (va (I n) (va (B (n==0)) (wln (cn i (fun r4 i=>?_) (fun r4 i=>?_)))))
  ·refine sr (vx (leN 83 0 [.slice a9 E M,I d.P.At.Row,I d.P.At.Col,B d.P.At.Pending,B d.P.Auto,.slice N R S,.slice T a16 U,I d.Parts] (f0.on 1 rfl)) (bn i fun f s4 i=>cl (ij f0 d h2.m h4.m h6.m s4) ?_));rintro e7 i6 r6 ⟨b7,c7,w6,d7,d4,rfl,b1,c1,d1⟩;obtain ⟨e2,f2,g2,rfl⟩:=(b1).form;obtain ⟨g0,h0,i0,rfl⟩:=(c1).form;obtain ⟨j0,k0,l0,rfl⟩:=(d1).form;refine md (sA 83 [.slice e2 f2 g2,I f.P.At.Row,I f.P.At.Col,B f.P.At.Pending,B f.P.Auto,.slice g0 h0 i0,.slice j0 k0 l0,I f.Parts] 2 d4 ⟨b1.one,rfl,rfl,rfl,rfl,(c1).one,d1.one,rfl,trivial⟩) ?_;rintro j6 z4 x1;refine wln (W.region (va (Q X) (vx (leN 43 0 [.slice e2 f2 g2,I f.P.At.Row,I f.P.At.Col,B f.P.At.Pending,B f.P.Auto] (x1.on 2 rfl)) (vx (lN 59 (mm Z)) (bn i fun k t4 i=>cl (rY x1 f.P j b1.m h8.m t4) ?_)))));rintro g7 k6 a5 ⟨f7,e4,rfl,e1⟩;refine va (Q X) ?_;obtain ⟨m0,o0,q0,rfl⟩:=(e1).form;refine md (sB 43 0 [.slice m0 o0 q0,I k.At.Row,I k.At.Col,B k.At.Pending,B k.Auto] [.slice m0 o0 q0,I k.At.Row,I k.At.Col,B k.At.Pending,B k.Auto,.slice g0 h0 i0,.slice j0 k0 l0,I f.Parts] 2 e4 ⟨e1.one,rfl,rfl,rfl,rfl,trivial⟩) ?_;rintro l6 b5 f4;refine wln ?_;obtain rfl:=si i;obtain ⟨k4,v4,s6,g4,u4⟩:=f4.frz 0 rfl (c1.mono (z4.trans (a5.trans b5)));have i4:=g4.sD 3 [1,2];exact ⟨k4,_,_,v4.symm,pt,us,(.slice m0 o0 q0),(.slice g0 h0 i0),(.slice j0 k0 l0),i4,rfl,e1.m,u4,d1.m⟩
  refine W.skip (nrm ?_);obtain rfl:=si i;exact jn d3 ⟨(.slice a9 E M),(.slice N R S),(.slice T a16 U),f0,rfl,h2.m,h4.m,h6.m⟩
 rintro e_ w_ ⟨m6,n6,_,rfl,t6,rfl,b0,d0,e0,z1,rfl,f1,g1,h1⟩;refine sr (vx (leN 83 0 [b0,I a.2.1,I a.2.2.1,B a.2.2.2.1,B a.2.2.2.2.1,d0,e0,I a.2.2.2.2.2.2.2] (z1.on 1 rfl)) (va (I n) ?_));obtain ⟨s0,t0,u0,rfl⟩:=(f1).form;obtain ⟨v0,w0,x0,rfl⟩:=(g1).form;obtain ⟨y0,z0,a1,rfl⟩:=(h1).form;refine md (sA 83 [.slice s0 t0 u0,I a.2.1,I a.2.2.1,B a.2.2.2.1,B a.2.2.2.2.1,.slice v0 w0 x0,.slice y0 z0 a1,I a.2.2.2.2.2.2.2] 0 z1 ⟨f1.one,rfl,rfl,rfl,rfl,g1.one,h1.one,rfl,trivial⟩) ?_;rintro e3 u6 a2;refine va (I n) (wln (W.ret ?_));obtain rfl:=si w3;have j4:=a2.sD 2 [];exact rJ (c:=e3) (vs:=[.slice s0 t0 u0,I a.2.1,I a.2.2.1,B a.2.2.2.1,B a.2.2.2.2.1,.slice v0 w0 x0,.slice y0 z0 a1,I a.2.2.2.2.2.2.2]) (v:=I n) rfl (by kernel_rfl) (by kernel_rfl) (by kernel_rfl) (by kernel_rfl) (a2.on 0 rfl _ rfl).1 ⟨_,e3,rfl,rfl,pt,(.slice s0 t0 u0),(.slice v0 w0 x0),(.slice y0 z0 a1),j4,rfl,f1.m,g1.m,h1.m⟩
def fk (p0:Int) (p1:Int) (p2:List aL):Option (ao×Int×Int):=
 (fm p0 p1).bind fun e=>
 (cE (σ:=Int×Int×Int×(List ak)×Int×Int×Bool×Bool×(List Int)×(List Int)×Int) (τ:=(Int×Int×(List ak)×Int×Int×Bool×Bool×(List Int)×(List Int)×Int)) (((p2.length:Int) - 0).toNat+1) (fun a=>
 if (decide (a.2.2.1 < (p2.length:Int)))=true then
 ((idx p2 a.2.2.1).bind fun g=>
 (gX (⟨(⟨a.2.2.2.1,(⟨a.2.2.2.2.1,a.2.2.2.2.2.1,a.2.2.2.2.2.2.1⟩:ai),a.2.2.2.2.2.2.2.1⟩:aa),a.2.2.2.2.2.2.2.2.1,a.2.2.2.2.2.2.2.2.2.1,a.2.2.2.2.2.2.2.2.2.2⟩:ao) g).bind fun b=>
 (bI (decide (b.2 > 0)) (some (decide (a.1 < 0)))).bind fun f=>
 if f=true then
 some (a.2.2.1,b.2,b.1.P.L,b.1.P.At.Row,b.1.P.At.Col,b.1.P.At.Pending,b.1.P.Auto,b.1.Group,b.1.Raw,b.1.Parts)
 else
 some (a.1,a.2.1,b.1.P.L,b.1.P.At.Row,b.1.P.At.Col,b.1.P.At.Pending,b.1.P.Auto,b.1.Group,b.1.Raw,b.1.Parts)).bind fun d=>
 some (.inl (d.1,d.2.1,(w64 (a.2.2.1+1)),d.2.2.1,d.2.2.2.1,d.2.2.2.2.1,d.2.2.2.2.2.1,d.2.2.2.2.2.2.1,d.2.2.2.2.2.2.2.1,d.2.2.2.2.2.2.2.2.1,d.2.2.2.2.2.2.2.2.2))
 else
 some (.inr (a.1,a.2.1,a.2.2.2.1,a.2.2.2.2.1,a.2.2.2.2.2.1,a.2.2.2.2.2.2.1,a.2.2.2.2.2.2.2.1,a.2.2.2.2.2.2.2.2.1,a.2.2.2.2.2.2.2.2.2.1,a.2.2.2.2.2.2.2.2.2.2))) ((-1),0,0,e.P.L,e.P.At.Row,e.P.At.Col,e.P.At.Pending,e.P.Auto,e.Group,e.Raw,e.Parts)).bind fun c=>
 some ((⟨(⟨c.2.2.1,(⟨c.2.2.2.1,c.2.2.2.2.1,c.2.2.2.2.2.1⟩:ai),c.2.2.2.2.2.2.1⟩:aa),c.2.2.2.2.2.2.2.1,c.2.2.2.2.2.2.2.2.1,c.2.2.2.2.2.2.2.2.2⟩:ao),c.1,c.2.1)
theorem rn (O0:Own c0 G F) (p0:Int) (p1:Int) (p2:List aL) {r:ao×Int×Int} (h2:Sl nG c0 v1 p2) (H:fk p0 p1 p2=some r): Calls prog 69 #[I p0,I p1,v1] c0.w (aN c0 fun c v=>∃y1 y2 y3,Own c G (F)∧v= .tuple #[.agg #[y1,I r.1.P.At.Row,I r.1.P.At.Col,B r.1.P.At.Pending,B r.1.P.Auto,y2,y3,I r.1.Parts],I r.2.1,I r.2.2]∧Sl am c y1 r.1.P.L∧Sl (RI .i32) c y2 r.1.Group∧Sl (RI .u8) c y3 r.1.Raw):=by
 unfold fk at H;refine en func69 rfl rfl (sr (me (al 83 [Y,I 0,I 0,B false,B false,Y,Y,I 0] O0) ?_));rintro v6 c5 l5 ⟨z,rfl,O4⟩;refine vv (I 0) (wln (sr (va (I p0) (va (I p1) (bn H fun M h7 H=>cl (ro O4 p0 p1 h7) ?_)))));rintro v22 k7 w5 ⟨v8,u9,v11,o7,v14,p7,k5,rfl,x1,z1,b2⟩;refine me (al 83 [Y,I 0,I 0,B false,B false,Y,Y,I 0] k5) ?_;rintro v26 l7 y ⟨f,rfl,m5⟩;obtain ⟨a3,c3,d3,rfl⟩:=((x1.mono y)).form;obtain ⟨e3,f3,g3,rfl⟩:=((z1.mono y)).form;obtain ⟨h3,i3,j3,rfl⟩:=((b2.mono y)).form;refine md (sA 83 [.slice a3 c3 d3,I M.P.At.Row,I M.P.At.Col,B M.P.At.Pending,B M.P.Auto,.slice e3 f3 g3,.slice h3 i3 j3,I M.Parts] 0 m5 ⟨x1.m.one,rfl,rfl,rfl,rfl,z1.m.one,b2.m.one,rfl,trivial⟩) ?_;rintro s3 l0 n5;refine wln (sr (va (I (-1)) (va (I 0) (wln (W.seq (sr (va (I 0) (wln (W.block (bn H fun d t3 v2=>lp t3 (fun a=>Jn s3 fun c l=>∃v40 v41 v42,Own c G ((Eb f 83 [v40,I a.2.2.2.2.1,I a.2.2.2.2.2.1,B a.2.2.2.2.2.2.1,B a.2.2.2.2.2.2.2.1,v41,v42,I a.2.2.2.2.2.2.2.2.2.2]) :: (Eb z 83 [Y,I 0,I 0,B false,B false,Y,Y,I 0]) :: F)∧l= [(2,v1),(6,Q z),(9,Q f),(10,I a.1),(11,I a.2.1),(12,I a.2.2.1)]∧Sl am c v40 a.2.2.2.1∧Sl (RI .i32) c v41 a.2.2.2.2.2.2.2.2.1∧Sl (RI .u8) c v42 a.2.2.2.2.2.2.2.2.2.1) (fun g ex e w=>ex= .exit 0∧(Jn s3 fun c l=>∃v43 v44 v45,Own c G ((Eb f 83 [v43,I g.2.2.2.1,I g.2.2.2.2.1,B g.2.2.2.2.2.1,B g.2.2.2.2.2.2.1,v44,v45,I g.2.2.2.2.2.2.2.2.2]) :: (Eb z 83 [Y,I 0,I 0,B false,B false,Y,Y,I 0]) :: F)∧l= [(6,Q z),(9,Q f),(10,I g.1),(11,I g.2.1)]∧Sl am c v43 g.2.2.1∧Sl (RI .i32) c v44 g.2.2.2.2.2.2.2.1∧Sl (RI .u8) c v45 g.2.2.2.2.2.2.2.2.1) e w) ?_ ?_ ?_))))))))))
 ·clear v2 t3;intro a t7 t5 d6 H;revert t5 d6;rintro e_ w_ ⟨w1,m7,_,rfl,x5,rfl,v40,v41,v42,w2,rfl,c2,d2,e2⟩;refine W.seq (sr (va (I a.2.2.1) (va (v1) (vx (ln 3 we h2.m) (va (B (decide (a.2.2.1 < (p2.length:Int)))) (wln (cn H (fun u5 H=>?_) (fun u5 H=>?_))))))))
  ·refine W.skip (nrm (bn H fun h i j5=>W.seqJ (Jn w1 fun c l=>∃v58 v59 v60,Own c G ((Eb f 83 [v58,I h.2.2.2.1,I h.2.2.2.2.1,B h.2.2.2.2.2.1,B h.2.2.2.2.2.2.1,v59,v60,I h.2.2.2.2.2.2.2.2.2]) :: (Eb z 83 [Y,I 0,I 0,B false,B false,Y,Y,I 0]) :: F)∧l= [(2,v1),(6,Q z),(9,Q f),(10,I h.1),(11,I h.2.1),(12,I a.2.2.1)]∧Sl am c v58 h.2.2.1∧Sl (RI .i32) c v59 h.2.2.2.2.2.2.2.1∧Sl (RI .u8) c v60 h.2.2.2.2.2.2.2.2.1) ?_ ?_))
   ·refine W.block (W.seq (bn i fun o2 u3 i=>bn i fun b v3 i=>W.join (Jn w1 fun c l=>∃m0 o0 q0 k0,Own c G ((Eb k0 83 [m0,I b.1.P.At.Row,I b.1.P.At.Col,B b.1.P.At.Pending,B b.1.P.Auto,o0,q0,I b.1.Parts]) :: (Eb f 83 [v40,I a.2.2.2.2.1,I a.2.2.2.2.2.1,B a.2.2.2.2.2.2.1,B a.2.2.2.2.2.2.2.1,v41,v42,I a.2.2.2.2.2.2.2.2.2.2]) :: (Eb z 83 [Y,I 0,I 0,B false,B false,Y,Y,I 0]) :: F)∧l= [(2,v1),(6,Q z),(9,Q f),(10,I a.1),(11,I a.2.1),(12,I a.2.2.1),(13,Q k0),(14,I b.2)]∧Sl am c m0 b.1.P.L∧Sl (RI .i32) c o0 b.1.Group∧Sl (RI .u8) c q0 b.1.Raw) ?_ ?_))
    ·clear i;refine rD [] (Kp G0 [(Eb f 83 [v40,I a.2.2.2.2.1,I a.2.2.2.2.2.1,B a.2.2.2.2.2.2.1,B a.2.2.2.2.2.2.2.1,v41,v42,I a.2.2.2.2.2.2.2.2.2.2])]) w2 ?_;intro q5 y5 b1;have a6:Kp G0 [(Eb f 83 [v40,I a.2.2.2.2.1,I a.2.2.2.2.2.1,B a.2.2.2.2.2.2.1,B a.2.2.2.2.2.2.2.1,v41,v42,I a.2.2.2.2.2.2.2.2.2.2])] q5:=(Kp.cons (b1.on 0 rfl) Kp.nil0);refine tkx 0 a6 (fun c' x3 hk=>leN 83 0 [v40,I a.2.2.2.2.1,I a.2.2.2.2.2.1,B a.2.2.2.2.2.2.1,B a.2.2.2.2.2.2.2.1,v41,v42,I a.2.2.2.2.2.2.2.2.2.2] (hk.on 0 rfl)) (ta 1 (v1) (ta 2 (I a.2.2.1) ?_));obtain ⟨g7,v5,z5⟩:=Sl.at (h2.mono (l5.trans (w5.trans (y.trans (l0.trans (x5.trans y5)))))) (aT u3);obtain ⟨q7,rfl,w3⟩:=v5;refine tx 3 (fun c' x3=>ix we h2.m u3) (tx 4 (fun c' x3=>lN 59 (mm z5)) (mn2 5 9 ?_ ?_))
     ·refine gc 5 (ny b1 (⟨(⟨a.2.2.2.1,(⟨a.2.2.2.2.1,a.2.2.2.2.2.1,a.2.2.2.2.2.2.1⟩:ai),a.2.2.2.2.2.2.2.1⟩:aa),a.2.2.2.2.2.2.2.2.1,a.2.2.2.2.2.2.2.2.2.1,a.2.2.2.2.2.2.2.2.2.2⟩:ao) o2 c2.m d2.m e2.m w3 v3) ?_;rintro r7 r5 n7 ⟨z3,a4,b4,x2,rfl,f2,g2,i2⟩;have b6:Kp G0 [(Eb f 83 [v40,I a.2.2.2.2.1,I a.2.2.2.2.2.1,B a.2.2.2.2.2.2.1,B a.2.2.2.2.2.2.2.1,v41,v42,I a.2.2.2.2.2.2.2.2.2.2])] r5:=(Kp.cons (x2.on 0 rfl) Kp.nil0);refine ⟨.inr b6,ta 6 (.tuple #[.agg #[z3,I b.1.P.At.Row,I b.1.P.At.Col,B b.1.P.At.Pending,B b.1.P.Auto,a4,b4,I b.1.Parts],I b.2]) (ta 7 (.agg #[z3,I b.1.P.At.Row,I b.1.P.At.Col,B b.1.P.At.Pending,B b.1.P.Auto,a4,b4,I b.1.Parts]) (ta 8 (I b.2) (o1 9 (gm 9 (al 83 [Y,I 0,I 0,B false,B false,Y,Y,I 0] x2) ?_))))⟩;rintro s7 s5 k2 ⟨o5,rfl,z2⟩;have c6:Kp G0 [(Eb f 83 [v40,I a.2.2.2.2.1,I a.2.2.2.2.2.1,B a.2.2.2.2.2.2.1,B a.2.2.2.2.2.2.2.1,v41,v42,I a.2.2.2.2.2.2.2.2.2.2])] s5:=(Kp.cons (z2.on 1 rfl) Kp.nil0);refine ⟨.inr c6,?_⟩;obtain ⟨k3,l3,m3,rfl⟩:=((f2.mono k2)).form;obtain ⟨n3,o3,p3,rfl⟩:=((g2.mono k2)).form;obtain ⟨q3,c1,d1,rfl⟩:=((i2.mono k2)).form;refine o1 10 (gD 10 (sA 83 [.slice k3 l3 m3,I b.1.P.At.Row,I b.1.P.At.Col,B b.1.P.At.Pending,B b.1.P.Auto,.slice n3 o3 p3,.slice q3 c1 d1,I b.1.Parts] 0 z2 ⟨f2.m.one,rfl,rfl,rfl,rfl,g2.m.one,i2.m.one,rfl,trivial⟩) ?_);rintro q1 t6 s0;have e5:Kp G0 [(Eb f 83 [v40,I a.2.2.2.2.1,I a.2.2.2.2.2.1,B a.2.2.2.2.2.2.1,B a.2.2.2.2.2.2.2.1,v41,v42,I a.2.2.2.2.2.2.2.2.2.2])] q1:=(Kp.cons (s0.on 1 rfl) Kp.nil0);exact ⟨.inr e5,ta 11 (I b.2) (dn (nrm (jn q1 ⟨(.slice k3 l3 m3),(.slice n3 o3 p3),(.slice q3 c1 d1),o5,s0,rfl,f2.m,g2.m,i2.m⟩)))⟩
     refine gm 9 (al 83 [Y,I 0,I 0,B false,B false,Y,Y,I 0] b1) ?_;rintro i7 m4 u6 ⟨l4,rfl,t0⟩;have f5:Kp G0 [(Eb f 83 [v40,I a.2.2.2.2.1,I a.2.2.2.2.2.1,B a.2.2.2.2.2.2.1,B a.2.2.2.2.2.2.2.1,v41,v42,I a.2.2.2.2.2.2.2.2.2.2])] m4:=(Kp.cons (t0.on 1 rfl) Kp.nil0);refine ⟨.inr f5,o1 5 (gc 5 (ny t0 (⟨(⟨a.2.2.2.1,(⟨a.2.2.2.2.1,a.2.2.2.2.2.1,a.2.2.2.2.2.2.1⟩:ai),a.2.2.2.2.2.2.2.1⟩:aa),a.2.2.2.2.2.2.2.2.1,a.2.2.2.2.2.2.2.2.2.1,a.2.2.2.2.2.2.2.2.2.2⟩:ao) o2 c2.m d2.m e2.m w3.m v3) ?_)⟩;rintro j7 n4 w6 ⟨l2,m2,n2,u0,rfl,e0,f0,g0⟩;have g5:Kp G0 [(Eb f 83 [v40,I a.2.2.2.2.1,I a.2.2.2.2.2.1,B a.2.2.2.2.2.2.1,B a.2.2.2.2.2.2.2.1,v41,v42,I a.2.2.2.2.2.2.2.2.2.2])] n4:=(Kp.cons (u0.on 1 rfl) Kp.nil0);refine ⟨.inr g5,ta 6 (.tuple #[.agg #[l2,I b.1.P.At.Row,I b.1.P.At.Col,B b.1.P.At.Pending,B b.1.P.Auto,m2,n2,I b.1.Parts],I b.2]) (ta 7 (.agg #[l2,I b.1.P.At.Row,I b.1.P.At.Col,B b.1.P.At.Pending,B b.1.P.Auto,m2,n2,I b.1.Parts]) (ta 8 (I b.2) ?_))⟩;obtain ⟨e1,f1,g1,rfl⟩:=(e0).form;obtain ⟨h1,i1,j1,rfl⟩:=(f0).form;obtain ⟨k1,m1,n1,rfl⟩:=(g0).form;refine o1 10 (gD 10 (sA 83 [.slice e1 f1 g1,I b.1.P.At.Row,I b.1.P.At.Col,B b.1.P.At.Pending,B b.1.P.Auto,.slice h1 i1 j1,.slice k1 m1 n1,I b.1.Parts] 0 u0 ⟨e0.one,rfl,rfl,rfl,rfl,f0.one,g0.one,rfl,trivial⟩) ?_);rintro s1 x6 v0;have h5:Kp G0 [(Eb f 83 [v40,I a.2.2.2.2.1,I a.2.2.2.2.2.1,B a.2.2.2.2.2.2.1,B a.2.2.2.2.2.2.2.1,v41,v42,I a.2.2.2.2.2.2.2.2.2.2])] s1:=(Kp.cons (v0.on 1 rfl) Kp.nil0);exact ⟨.inr h5,ta 11 (I b.2) (dn (nrm (jn s1 ⟨(.slice e1 f1 g1),(.slice h1 i1 j1),(.slice k1 m1 n1),l4,v0,rfl,e0.m,f0.m,g0.m⟩)))⟩
    rintro e_ w_ ⟨j6,n6,_,rfl,y6,rfl,m0,o0,q0,k0,w0,rfl,A,D,E⟩;refine nrm (sr (vx (leN 83 0 [m0,I b.1.P.At.Row,I b.1.P.At.Col,B b.1.P.At.Pending,B b.1.P.Auto,o0,q0,I b.1.Parts] (w0.on 0 rfl)) ?_));obtain ⟨j,k,n,rfl⟩:=(A).form;obtain ⟨o,p,q,rfl⟩:=(D).form;obtain ⟨s,t,u,rfl⟩:=(E).form;refine md (sA 83 [.slice j k n,I b.1.P.At.Row,I b.1.P.At.Col,B b.1.P.At.Pending,B b.1.P.Auto,.slice o p q,.slice s t u,I b.1.Parts] 1 w0 ⟨A.one,rfl,rfl,rfl,rfl,D.one,E.one,rfl,trivial⟩) ?_;rintro d0 z6 x0;refine wln (W.seq (bn i fun q4 a2 i=>W.join (Jn d0 fun c l=>Own c G ((Eb k0 83 [.slice j k n,I b.1.P.At.Row,I b.1.P.At.Col,B b.1.P.At.Pending,B b.1.P.Auto,.slice o p q,.slice s t u,I b.1.Parts]) :: (Eb f 83 [.slice j k n,I b.1.P.At.Row,I b.1.P.At.Col,B b.1.P.At.Pending,B b.1.P.Auto,.slice o p q,.slice s t u,I b.1.Parts]) :: (Eb z 83 [Y,I 0,I 0,B false,B false,Y,Y,I 0]) :: F)∧l= [(2,v1),(6,Q z),(9,Q f),(10,I a.1),(11,I a.2.1),(12,I a.2.2.1),(14,I b.2),(39,B q4)]) ?_ ?_))
    ·clear i;refine W.region (va (I b.2) (va (B (decide (b.2 > 0))) ?_));rcases bo (decide (b.2 > 0)) with x | x
     ·have c4:=anT x a2;refine vb x (wa (I a.1) (wa (B (decide (a.1 < 0))) ?_));obtain rfl:=si c4;exact va (B (decide (a.1 < 0))) (wln (jn d0 ⟨x0,rfl⟩))
     obtain rfl:=anF x a2;exact vb x (pz (va (B false) (wln (jn d0 ⟨x0,rfl⟩))))
    rintro e_ w_ ⟨t1,o6,_,rfl,a7,rfl,y0,rfl⟩;refine nrm (cn i (fun r4 i=>?_) (fun r4 i=>?_))
    ·refine sr (vv (I a.2.2.1) (wln (W.region (vv (I b.2) (WL.nil (bkn (nrm ?_)))))));obtain rfl:=si i;have d4:=y0.sD 3 [1,2];exact jn t1 ⟨(.slice j k n),(.slice o p q),(.slice s t u),d4,rfl,A.m,D.m,E.m⟩
    refine W.skip (bkn (nrm ?_));obtain rfl:=si i;have e4:=y0.sD 3 [1,2];exact jn t1 ⟨(.slice j k n),(.slice o p q),(.slice s t u),e4,rfl,A.m,D.m,E.m⟩
   rintro e_ w_ ⟨o4,p6,_,rfl,b7,rfl,v58,v59,v60,f4,rfl,s4,t4,u4⟩;refine W.region (va (I a.2.2.1) (vv (I (w64 (a.2.2.1+1))) (WL.nil ?_)));obtain rfl:=si j5;exact ⟨_,rfl,jn o4 ⟨v58,v59,v60,f4,rfl,s4,t4,u4⟩⟩
  refine W.exit (thx ?_);obtain rfl:=si H;exact ⟨_,rfl,rfl,jn w1 ⟨v40,v41,v42,w2,rfl,c2,d2,e2⟩⟩
 ·obtain ⟨k6,w4,j2,g4,v4⟩:=n5.frz 1 rfl (x1.mono (y.trans l0));obtain ⟨l6,y4,d5,h4,x4⟩:=g4.frz 2 rfl (z1.mono (y.trans (l0.trans j2)));obtain ⟨p4,a5,c7,i4,z4⟩:=h4.frz 3 rfl (b2.mono (y.trans (l0.trans (j2.trans d5))));have j4:=i4.sD 5 [0,4];exact ⟨p4,_,_,((w4.symm.trans y4.symm).trans a5.symm),pt,us,(.slice a3 c3 d3),(.slice e3 f3 g3),(.slice h3 i3 j3),j4,rfl,v4.m,x4.m,z4⟩
 rintro _ e_ w_ ⟨rfl,m6,q6,_,rfl,d7,rfl,v43,v44,v45,z0,rfl,h0,i0,j0⟩;refine bke (nrm (sr (vx (leN 83 0 [v43,I d.2.2.2.1,I d.2.2.2.2.1,B d.2.2.2.2.2.1,B d.2.2.2.2.2.2.1,v44,v45,I d.2.2.2.2.2.2.2.2.2] (z0.on 0 rfl)) (va (I d.1) (va (I d.2.1) ?_)))));obtain ⟨N,R,S,rfl⟩:=(h0).form;obtain ⟨T,U,X,rfl⟩:=(i0).form;obtain ⟨Z,a0,b0,rfl⟩:=(j0).form;refine md (sA 83 [.slice N R S,I d.2.2.2.1,I d.2.2.2.2.1,B d.2.2.2.2.2.1,B d.2.2.2.2.2.2.1,.slice T U X,.slice Z a0 b0,I d.2.2.2.2.2.2.2.2.2] 1 z0 ⟨h0.one,rfl,rfl,rfl,rfl,i0.one,j0.one,rfl,trivial⟩) ?_;rintro u1 e7 a1;refine va (I d.1) (va (I d.2.1) (wln (W.ret ?_)));obtain rfl:=si v2;have k4:=a1.sD 2 [];exact FK (c:=u1) (vs:=[.slice N R S,I d.2.2.2.1,I d.2.2.2.2.1,B d.2.2.2.2.2.1,B d.2.2.2.2.2.2.1,.slice T U X,.slice Z a0 b0,I d.2.2.2.2.2.2.2.2.2]) (v:=I d.1) (v':=I d.2.1) rfl (by kernel_rfl) (by kernel_rfl) (by kernel_rfl) (by kernel_rfl) (by kernel_rfl) (a1.on 1 rfl _ rfl).1 ⟨_,u1,rfl,rfl,pt,(.slice N R S),(.slice T U X),(.slice Z a0 b0),k4,rfl,h0.m,i0.m,j0.m⟩
def fZ (p0:aa):Option (gu):=
 (cC p0).bind fun a=>
 some (⟨a,(p0.L.length:Int),p0.L,p0.At,p0.Auto⟩:gu)
theorem qI (M:Own c0 G F) (a:aa) {r:gu} (j:Sl am c0 v1 a.L) (H:fZ a=some r): Calls prog 68 #[.agg #[v1,I a.At.Row,I a.At.Col,B a.At.Pending,B a.Auto]] c0.w (aN c0 fun c v=>∃E,Own c G (F)∧v= .agg #[I r.Wide,I r.High,E,I r.At.Row,I r.At.Col,B r.At.Pending,B r.Auto]∧Sl am c E r.Lines):=by
 unfold fZ at H;refine en func68 rfl rfl (sr ?_);obtain ⟨e,f,g,rfl⟩:=(j).form;refine me (bx 43 [.slice e f g,I a.At.Row,I a.At.Col,B a.At.Pending,B a.Auto] M) ?_;rintro v10 c9 l9 ⟨o,rfl,N,n⟩;refine me (al 96 [I 0,I 0,Y,I 0,I 0,B false,B false] N) ?_;rintro v14 R S ⟨P,rfl,q⟩;refine wln (W.seq (rD [] (Kp G0 []) q ?_));intro x T s;have Z:Kp G0 [] x:=Kp.nil0;refine tx 0 (fun h b=>lN 43 (mm n)) (ta 2 (Q o) (tx 3 (fun h b=>l1 dX ((mm n) 0 _ rfl)) (tx 4 (fun h b=>ln 3 dX j.m) (ta 5 (Q o) (tx 6 (fun h b=>l1 dX ((mm n) 0 _ rfl)) (ta 7 (Qo o (0+1)) (tx 8 (fun h b=>lN 24 (AN (k:=1) (l:=[I a.At.Row,I a.At.Col,B a.At.Pending]) (mm n) rfl)) (ta 9 (Qo o (0+4)) (tx 10 (fun h b=>l1 u_4 ((mm n) 4 _ rfl)) (bn H fun d z H=>o1 1 (gc 1 (fW s a j.m z) ?_)))))))))));rintro v24 y U ⟨t,rfl⟩;have A:Kp G0 [] y:=Kp.nil0;refine ⟨.inr A,ta 11 (.agg #[I d,I (a.L.length:Int),.slice e f g,I a.At.Row,I a.At.Col,B a.At.Pending,B a.Auto]) (o1 12 (gD 12 (sA 96 [I d,I (a.L.length:Int),.slice e f g,I a.At.Row,I a.At.Col,B a.At.Pending,B a.Auto] 0 t ⟨rfl,rfl,j.m.one,rfl,rfl,rfl,rfl,trivial⟩) ?_))⟩;rintro i X p;have D:Kp G0 [] i:=Kp.nil0;refine ⟨.inr D,dn (nrm (W.ret ?_))⟩;obtain rfl:=si H;have u:=p.sD 1 [];exact jZ (c:=i) (vs:=[I d,I (a.L.length:Int),.slice e f g,I a.At.Row,I a.At.Col,B a.At.Pending,B a.Auto]) rfl (by kernel_rfl) (by kernel_rfl) (by kernel_rfl) (p.on 0 rfl _ rfl).1 ⟨_,i,rfl,rfl,pt,(.slice e f g),u,rfl,j.m⟩
def ga (p0:gu) (p1:gu):Option (Bool):=
 (bI (p0.Wide==p1.Wide) (some (p0.High==p1.High))).bind fun a=>
 (bI a (some (p0.At.Row==p1.At.Row && (p0.At.Col==p1.At.Col && (p0.At.Pending==p1.At.Pending && true))))).bind fun b=>
 (bI b (some (p0.Auto==p1.Auto))).bind fun c=>
 (bI c ((eN p0.Lines p1.Lines).bind fun e=>
 some e)).bind fun d=>
 some d
theorem qJ (O0:Own c0 G F) (a:gu) (b:gu) {r:Bool} (h2:Sl am c0 v1 a.Lines) (h4:Sl am c0 v3 b.Lines) (H:ga a b=some r): Calls prog 63 #[.agg #[I a.Wide,I a.High,v1,I a.At.Row,I a.At.Col,B a.At.Pending,B a.Auto],.agg #[I b.Wide,I b.High,v3,I b.At.Row,I b.At.Col,B b.At.Pending,B b.Auto]] c0.w (aN c0 fun c v=>Own c G (F)∧v=B r):=by
 unfold ga at H;refine en func63 rfl rfl (sr ?_);obtain ⟨a5,a6,a7,rfl⟩:=(h2).form;refine me (bx 96 [I a.Wide,I a.High,.slice a5 a6 a7,I a.At.Row,I a.At.Col,B a.At.Pending,B a.Auto] O0) ?_;rintro v12 v0 j0 ⟨t,rfl,O9,o⟩;obtain ⟨a0,b0,d0,rfl⟩:=((h4.mono j0)).form;refine me (bx 96 [I b.Wide,I b.High,.slice a0 b0 d0,I b.At.Row,I b.At.Col,B b.At.Pending,B b.Auto] O9) ?_;rintro v20 f x0 ⟨e,rfl,d,p⟩;refine va (B false) (wln (W.seq (bn H fun s0 y H=>bn H fun t0 u H=>bn H fun u0 q H=>bn H fun P g H=>W.join (Jn f fun c l=>Own c G (F)∧l= [(4,B P)]) ?_ ?_)))
 ·clear H;refine W.region (va (Q t) (vx (l1 u_3 ((mm o) 0 _ rfl)) (va (Q e) (vx (l1 u_3 (p 0 _ rfl)) (va (B (a.Wide==b.Wide)) ?_)))));rcases bo (a.Wide==b.Wide) with h | h
  ·have R:=anT h y;refine vb h (wa (Qo t (0+1)) (wn (vx (l1 u_3 ((mm o) 1 _ rfl)) (wa (Qo e (0+1)) (wn (vx (l1 u_3 (p 1 _ rfl)) (wa (B (a.High==b.High)) ?_)))))));obtain rfl:=si R;refine va (B (a.High==b.High)) ?_;rcases bo (a.High==b.High) with i | i
   ·have S:=anT i u;refine vb i (wa (Qo t (0+3)) (wn (vx (lN 24 (AN (k:=3) (l:=[I a.At.Row,I a.At.Col,B a.At.Pending]) (mm o) rfl)) (wa (Qo e (0+3)) (wn (vx (lN 24 (AN (k:=3) (l:=[I b.At.Row,I b.At.Col,B b.At.Pending]) p rfl)) (wn (vr (B (a.At.Row==b.At.Row && (a.At.Col==b.At.Col && (a.At.Pending==b.At.Pending && true)))) (yq (T:=24) (xs:= #[I a.At.Row,I a.At.Col,B a.At.Pending]) (ys:= #[I b.At.Row,I b.At.Col,B b.At.Pending]) (r:=(a.At.Row==b.At.Row && (a.At.Col==b.At.Col && (a.At.Pending==b.At.Pending && true)))) underlying24 (by kernel_rfl) (by kernel_rfl) (EqP.int (by kernel_rfl) u_3 rfl rfl (EqP.int (by kernel_rfl) u_3 rfl rfl (EqP.bool (by kernel_rfl) u_4 rfl rfl EqP.nil))) (by kernel_rfl) _) ?_))))))));obtain rfl:=si S;refine va (B (a.At.Row==b.At.Row && (a.At.Col==b.At.Col && (a.At.Pending==b.At.Pending && true)))) ?_;rcases bo ((a.At.Row==b.At.Row && (a.At.Col==b.At.Col && (a.At.Pending==b.At.Pending && true)))) with j | j
    ·have U:=anT j q;refine vb j (wa (Qo t (0+6)) (wn (vx (l1 u_4 ((mm o) 6 _ rfl)) (wa (Qo e (0+6)) (wn (vx (l1 u_4 (p 6 _ rfl)) (wa (B (a.Auto==b.Auto)) ?_)))))));obtain rfl:=si U;refine va (B (a.Auto==b.Auto)) ?_;rcases bo (a.Auto==b.Auto) with n | n
     ·have s:=anT n g;refine vb n (wa (Qo t (0+2)) (wn (vx (l1 dX ((mm o) 2 _ rfl)) (wa (Qo e (0+2)) (wn (vx (l1 dX (p 2 _ rfl)) (wn (bn s fun x h0 s=>cl (qK d a.Lines b.Lines h2.m h4.m h0) ?_))))))));rintro v39 e0 y0 ⟨X,rfl⟩;obtain rfl:=si s;exact vv (B x) (wln (jn e0 ⟨X,rfl⟩))
     obtain rfl:=anF n g;exact vb n (pz (pz (ps (vv (B false) (wln (jn f ⟨d,rfl⟩))))))
    obtain rfl:=anF j q;refine vb j (pz (pz (ps (va (B false) ?_))));have z:false=false:=rfl;obtain rfl:=anF z g;exact vb z (pz (pz (ps (vv (B false) (wln (jn f ⟨d,rfl⟩))))))
   obtain rfl:=anF i u;refine vb i (pz (pz (ps (va (B false) ?_))));have A:false=false:=rfl;obtain rfl:=anF A q;refine vb A (pz (pz (ps (va (B false) ?_))));have D:false=false:=rfl;obtain rfl:=anF D g;exact vb D (pz (pz (ps (vv (B false) (wln (jn f ⟨d,rfl⟩))))))
  obtain rfl:=anF h y;refine vb h (pz (pz (ps (va (B false) ?_))));have E:false=false:=rfl;obtain rfl:=anF E u;refine vb E (pz (pz (ps (va (B false) ?_))));have M:false=false:=rfl;obtain rfl:=anF M q;refine vb M (pz (pz (ps (va (B false) ?_))));have N:false=false:=rfl;obtain rfl:=anF N g;exact vb N (pz (pz (ps (vv (B false) (wln (jn f ⟨d,rfl⟩))))))
 rintro e_ w_ ⟨f0,w0,_,rfl,z0,rfl,Z,rfl⟩;refine nrm (W.ret ?_);obtain rfl:=si H;exact r1 (qq f0 ⟨Z,rfl⟩)
def fB (p0:List aL):Option (Bool):=
 (cE (σ:=Int×Int) (τ:=Bool ⊕ Unit) (((p0.length:Int) - 0).toNat+1) (fun a=>
 (bI (decide (a.2 < (p0.length:Int))) (some (decide (a.2 < 60)))).bind fun d=>
 if d=true then
 (idx p0 a.2).bind fun c=>
 (orE (decide ((w64 (a.1+(c.Bytes.length:Int))) > 600)) ((idx p0 a.2).bind fun h=>
 (bI (h.Kind==13) ((idx p0 a.2).bind fun i=>
 some (decide (i.A > 60)))).bind fun f=>
 (bI f ((idx p0 a.2).bind fun j=>
 some (decide (j.B > 60)))).bind fun g=>
 some g)).bind fun e=>
 if e=true then
 some (.inr (.inl true))
 else
 some (.inl ((w64 (a.1+(c.Bytes.length:Int))),(w64 (a.2+1))))
 else
 some (.inr (.inr ()))) (0,0)).bind fun b=>
 match b with
 | .inl b=>
 some b
 | .inr b=>
 some (decide ((p0.length:Int) > 50))
theorem qg (O0:Own c0 G F) (s:List aL) {r:Bool} (f:Sl nG c0 v1 s) (H:fB s=some r): Calls prog 59 #[v1] c0.w (aN c0 fun c v=>Own c G (F)∧v=B r):=by
 unfold fB at H;refine en func59 rfl rfl (sr (va (B false) (wln (sr (va (I 0) (wln (W.seq (sr (va (I 0) (wln (W.block (bn H fun y h3 H4=>lp h3 (fun a=>Jn c0 fun c l=>Own c G (F)∧l= [(0,v1),(3,I a.1),(4,I a.2)]) (fun t=>match t with | .inl x_=>(fun i1 ex e w=>ex= .ret∧(Jn c0 fun c l=>Own c G (F)∧l= [(2,B i1)]) e w) x_ | .inr x_=>(fun t1 ex e w=>ex= .exit 0∧(Jn c0 fun c l=>Own c G (F)∧l= [(0,v1)]) e w) x_) ?_ ?_ ?_))))))))))))
 ·clear H4 h3;intro a f2 t0 j1 H;revert t0 j1;rintro D M ⟨c5,g6,_,rfl,E,rfl,O7,rfl⟩;refine W.seq (W.seq (bn H fun g0 R H=>W.join (Jn c5 fun c l=>Own c G (F)∧l= [(0,v1),(3,I a.1),(4,I a.2),(12,B g0)]) ?_ ?_))
  ·clear H;refine W.region (va (I a.2) (va (v1) (vx (ln 3 we f.m) (va (B (decide (a.2 < (s.length:Int)))) ?_))));rcases bo (decide (a.2 < (s.length:Int))) with i | i
   ·have k0:=anT i R;refine vb i (wa (I a.2) (wa (B (decide (a.2 < 60))) ?_));obtain rfl:=si k0;exact va (B (decide (a.2 < 60))) (wln (jn c5 ⟨O7,rfl⟩))
   obtain rfl:=anF i R;exact vb i (pz (va (B false) (wln (jn c5 ⟨O7,rfl⟩))))
  rintro D M ⟨g,u1,_,rfl,q,rfl,h,rfl⟩;refine nrm (cn H (fun v0 H=>?_) (fun v0 H=>?_))
  ·refine W.skip (nrm (W.seq (W.block (sr (va (I a.1) (va (v1) (va (I a.2) (bn H fun d S H=>?_))))))));obtain ⟨n1,w0,e1⟩:=Sl.at (f.mono (E.trans q)) (aT S);obtain ⟨v25,rfl,x0⟩:=w0;refine vx (ix we f.m S) (va (Qo (sb v1) (so v1+a.2.toNat * 4+3)) (vx (l1 lE (e1 3 _ rfl)) (vx (ln 3 lE x0) (vv (I (w64 (a.1+(d.Bytes.length:Int)))) (wln (W.seq (bn H fun h0 T H=>W.join (Jn g fun c l=>Own c G (F)∧l= [(0,v1),(3,I (w64 (a.1+(d.Bytes.length:Int)))),(4,I a.2),(48,B h0)]) ?_ ?_)))))))
   ·clear H;refine W.region (va (I (w64 (a.1+(d.Bytes.length:Int)))) (va (B (decide ((w64 (a.1+(d.Bytes.length:Int))) > 600))) ?_));rcases bo (decide ((w64 (a.1+(d.Bytes.length:Int))) > 600)) with j | j
    ·obtain rfl:=orT j T;exact vb j (pz (pz (pz (pz (pz (pz (pz (pz (pz (pz (pz (va (B true) (wln (jn g ⟨h,rfl⟩))))))))))))))
    have b:=orF j T;refine vb j (wa (v1) (wa (I a.2) (wn (bn b fun z U b=>?_))));obtain ⟨p1,z0,f1⟩:=Sl.at (f.mono (E.trans q)) (aT U);obtain ⟨v34,rfl,z1⟩:=z0;refine vx (ix we f.m U) (wa (Qo (sb v1) (so v1+a.2.toNat * 4)) (wn (vx (l1 u_3 (f1 0 _ rfl)) (wa (B (z.Kind==13)) (wn (bn b fun m1 X b=>?_))))));rcases bo (z.Kind==13) with k | k
    ·have u:=anT k X;refine vb k (wa (v1) (wa (I a.2) (wn (bn u fun o Z u=>?_))));obtain ⟨q1,a1,g1⟩:=Sl.at (f.mono (E.trans q)) (aT Z);obtain ⟨v43,rfl,a2⟩:=a1;refine vx (ix we f.m Z) (wa (Qo (sb v1) (so v1+a.2.toNat * 4+1)) (wn (vx (l1 u_3 (g1 1 _ rfl)) (wa (B (decide (o.A > 60))) (wn ?_)))));obtain rfl:=si u;refine va (B (decide (o.A > 60))) (wn (bn b fun i0 a0 b=>?_));rcases bo (decide (o.A > 60)) with n | n
     ·have x:=anT n a0;refine vb n (wa (v1) (wa (I a.2) (wn (bn x fun p b0 x=>?_))));obtain ⟨s1,b1,h1⟩:=Sl.at (f.mono (E.trans q)) (aT b0);obtain ⟨v52,rfl,b2⟩:=b1;refine vx (ix we f.m b0) (wa (Qo (sb v1) (so v1+a.2.toNat * 4+2)) (wn (vx (l1 u_3 (h1 2 _ rfl)) (wa (B (decide (p.B > 60))) (wn ?_)))));obtain rfl:=si x;refine va (B (decide (p.B > 60))) ?_;obtain rfl:=si b;exact va (B (decide (p.B > 60))) (wln (jn g ⟨h,rfl⟩))
     obtain rfl:=anF n a0;refine vb n (pz (pz (pz (wa (B false) ?_))));obtain rfl:=si b;exact va (B false) (wln (jn g ⟨h,rfl⟩))
    obtain rfl:=anF k X;refine vb k (pz (pz (pz (wa (B false) (wn (bn b fun i0 c1 b=>?_))))));have d0:false=false:=rfl;obtain rfl:=anF d0 c1;refine vb d0 (pz (pz (pz (wa (B false) ?_))));obtain rfl:=si b;exact va (B false) (wln (jn g ⟨h,rfl⟩))
   rintro D M ⟨P,w1,_,rfl,c2,rfl,N,rfl⟩;refine nrm (cn H (fun d1 H=>?_) (fun d1 H=>?_))
   ·refine sr (va (B true) (wln (W.ret (bkr (thr ?_)))));obtain rfl:=si H;exact ⟨_,rfl,⟨rfl,jn P ⟨N,rfl⟩⟩⟩
   refine W.skip (bkn (nrm (W.region (va (I a.2) (vv (I (w64 (a.2+1))) (WL.nil ?_))))));obtain rfl:=si H;exact ⟨_,rfl,jn P ⟨N,rfl⟩⟩
  refine W.exit (thx ?_);obtain rfl:=si H;exact ⟨_,rfl,rfl,jn g ⟨h,rfl⟩⟩
 ·exact jn c0 ⟨O0,rfl⟩
 rcases y with y | y
 ·intro u0; revert u0;rintro _ D M ⟨rfl,q0,x1,_,rfl,d2,rfl,l0,rfl⟩;refine bkr (thr ?_);obtain rfl:=si H4;exact r1 (qq q0 ⟨l0,rfl⟩)
 rintro _ D M ⟨rfl,s0,y1,_,rfl,e2,rfl,o0,rfl⟩;refine bke (nrm (sr (va (v1) (vx (ln 3 we f.m) (vv (B (decide ((s.length:Int) > 50))) (wln (W.ret ?_)))))));obtain rfl:=si H4;exact r1 (qq s0 ⟨o0,rfl⟩)
def dN (sg:Sto) (p0:gi) (p1:List aL):Option (Sto×Bool):=
 (dx sg).bind fun f=>
 (orE (!f.2) ((fB p1).bind fun y=>
 some y)).bind fun x=>
 if x=true then
 (dx f.1).bind fun e=>
 some (e.1,e.2)
 else
 (kB f.1 p0.W (w64 (1+(w64 ((IntKind.u64.wrap p0.H).tmod 6))))).bind fun d=>
 (dY d.1 d.2 p1).bind fun a=>
 (fk p0.W (w64 (1+(w64 ((IntKind.u64.wrap p0.H).tmod 6)))) p1).bind fun b=>
 (df a.1 d.2).bind fun q=>
 (dr b.1).bind fun r=>
 (fZ r).bind fun s=>
 (ga q s).bind fun t=>
 (orE (!t) (some (!(a.2.isNil==(decide (b.2.1 < 0)))))).bind fun m=>
 if m=true then
 some (a.1,false)
 else
 (bI (decide (b.2.1≥0)) ((mu a.2).bind fun u=>
 (orE (u != b.2.2) ((td a.2).bind fun v=>
 some (v != b.2.1))).bind fun o=>
 some o)).bind fun n=>
 if n=true then
 some (a.1,false)
 else
 (df a.1 (none:Option Nat)).bind fun g=>
 (eH a.1 (none:Option Nat) (⟨0,0,0,([]:List Int)⟩:aL)).bind fun c=>
 (mu c.2).bind fun w=>
 (bI (w==8) (some (g.Wide==0))).bind fun p=>
 (bI p (some ((g.Lines.length:Int)==0))).bind fun h=>
 (bI h ((iU c.1 (none:Option Nat)).bind fun k=>
 some (k==0))).bind fun i=>
 (bI i ((iT c.1 (none:Option Nat)).bind fun l=>
 some ((l.length:Int)==0))).bind fun j=>
 some (c.1,j)
theorem nD (O0:Own c0 G F) (R0:Rel c0 sg G) (hG:Gl [0,1,2,3,4,5,6,7] c0) (hT:Et c0) (o:gi) (p1:List aL) {r:Sto×Bool} (h2:Sl nG c0 v1 p1) (H:dN sg o p1=some r): Calls prog 12 #[.agg #[I o.W,I o.H],v1] c0.w (aN c0 fun c v=>∃G_:Gm,Own c G_ (F)∧Rel c r.1 G_∧v=B r.2):=by
 unfold dN at H;refine en func12 rfl rfl (sr (me (bx 92 [I o.W,I o.H] O0) ?_));rintro v7 c6 l6 ⟨b3,rfl,O4,m5⟩;refine va (B false) (wln (W.seq (W.seq (bn H fun e2 h8 H=>bn H fun a6 h9 H=>W.join (Jn c6 fun c l=>∃G_,Own c G_ (F)∧l= [(1,v1),(2,Q b3),(17,B a6)]∧Rel c e2.1 G_) ?_ ?_))))
 ·clear H;refine W.region (cl (mn O4 R0.m (hG.m.le (by decide)) h8) ?_);rintro v15 v5 w8 ⟨m2,n2,s2,rfl⟩;refine va (B (!e2.2)) ?_;rcases bo (!e2.2) with a0 | a0
  ·obtain rfl:=orT a0 h9;exact vb a0 (pz (va (B true) (wln (jn v5 ⟨m2,n2,rfl,s2⟩))))
  have x0:=orF a0 h9;refine vb a0 (wa (v1) (wn (bn x0 fun p6 b6 x0=>cl (qg n2 p1 h2.m b6) ?_)));rintro v24 w5 x8 ⟨l5,rfl⟩;obtain rfl:=si x0;exact va (B p6) (wln (jn w5 ⟨m2,l5,rfl,s2.m⟩))
 rintro e_ w_ ⟨q8,v8,_,rfl,y8,rfl,n8,o2,rfl,t2⟩;refine nrm (cn H (fun d6 H=>?_) (fun d6 H=>?_))
 ·refine sr (bn H fun h5 e6 H=>cl (mn o2 t2 (hG.m.le (by decide)) e6) ?_);rintro v38 x5 z8 ⟨k5,n5,t5,rfl⟩;refine va (B h5.2) (wln (W.ret (thr ?_)));obtain rfl:=si H;exact r1 (qq x5 ⟨k5,n5,t5,rfl⟩)
 refine W.skip (nrm (sr (va (Q b3) (vx (l1 u_3 ((mm m5) 0 _ rfl)) (va (Qo b3 (0+1)) (vx (l1 u_3 ((mm m5) 1 _ rfl)) (va (.int .u64 (IntKind.u64.wrap o.H)) (va (.int .u64 ((IntKind.u64.wrap o.H).tmod 6)) (va (I (w64 ((IntKind.u64.wrap o.H).tmod 6))) (va (I (w64 (1+(w64 ((IntKind.u64.wrap o.H).tmod 6))))) (bn H fun d2 f6 H=>cl (tl o2 t2 o.W (w64 (1+(w64 ((IntKind.u64.wrap o.H).tmod 6)))) f6) ?_)))))))))));rintro v40 r8 a9 ⟨_,o8,o5,u5,p8,rfl,u2⟩;refine va (v40) (wln (sr (va (v40) (va (v1) (bn H fun R g6 H=>cl (mZ o5 u5 (hG.m.le (by decide)) d2.2 p1 u2 h2.m g6) ?_)))));rintro v49 s8 b9 ⟨_,w0,p5,Z,rfl,u1⟩;refine va (v49) (wln (sr (va (Q b3) (vx (l1 u_3 ((mm m5) 0 _ rfl)) (va (Qo b3 (0+1)) (vx (l1 u_3 ((mm m5) 1 _ rfl)) (va (.int .u64 (IntKind.u64.wrap o.H)) (va (.int .u64 ((IntKind.u64.wrap o.H).tmod 6)) (va (I (w64 ((IntKind.u64.wrap o.H).tmod 6))) (va (I (w64 (1+(w64 ((IntKind.u64.wrap o.H).tmod 6))))) (va (v1) (bn H fun a h6 H=>cl (rn p5 o.W (w64 (1+(w64 ((IntKind.u64.wrap o.H).tmod 6)))) p1 h2.m h6) ?_))))))))))));rintro f9 t8 c9 ⟨v58,v60,x2,q5,rfl,w1,x1,y1⟩;refine va (.tuple #[.agg #[v58,I a.1.P.At.Row,I a.1.P.At.Col,B a.1.P.At.Pending,B a.1.P.Auto,v60,x2,I a.1.Parts],I a.2.1,I a.2.2]) (va (.agg #[v58,I a.1.P.At.Row,I a.1.P.At.Col,B a.1.P.At.Pending,B a.1.P.Auto,v60,x2,I a.1.Parts]) (va (I a.2.1) (va (I a.2.2) (me (al 83 [Y,I 0,I 0,B false,B false,Y,Y,I 0] q5) ?_))));rintro g9 u8 b2 ⟨p,rfl,r5⟩;obtain ⟨d,e,f,rfl⟩:=((w1.mono b2)).form;obtain ⟨g,h,i,rfl⟩:=((x1.mono b2)).form;obtain ⟨j,k,n,rfl⟩:=((y1.mono b2)).form;refine md (sA 83 [.slice d e f,I a.1.P.At.Row,I a.1.P.At.Col,B a.1.P.At.Pending,B a.1.P.Auto,.slice g h i,.slice j k n,I a.1.Parts] 0 r5 ⟨w1.m.one,rfl,rfl,rfl,rfl,x1.m.one,y1.m.one,rfl,trivial⟩) ?_;rintro y5 d9 s5;refine va (I a.2.1) (va (I a.2.2) (wln (W.seq (W.seq (bn H fun S i6 H=>bn H fun i5 j6 H=>bn H fun j5 k6 H=>bn H fun f2 m6 H=>bn H fun d4 v2 H=>W.join (Jn y5 fun c l=>∃d0 b0,Own c w0 (es false am d0 71 b0 S.Lines :: (Eb p 83 [.slice d e f,I a.1.P.At.Row,I a.1.P.At.Col,B a.1.P.At.Pending,B a.1.P.Auto,.slice g h i,.slice j k n,I a.1.Parts]) :: F)∧l= [(6,v49),(8,I a.2.1),(9,I a.2.2),(58,B d4)]∧OA am c d0 b0 S.Lines) ?_ ?_)))))
 ·clear H;refine rD [] (Kp G0 [(Eb p 83 [.slice d e f,I a.1.P.At.Row,I a.1.P.At.Col,B a.1.P.At.Pending,B a.1.P.Auto,.slice g h i,.slice j k n,I a.1.Parts])]) s5 ?_;intro z5 e9 p2;have o6:Kp G0 [(Eb p 83 [.slice d e f,I a.1.P.At.Row,I a.1.P.At.Col,B a.1.P.At.Pending,B a.1.P.Auto,.slice g h i,.slice j k n,I a.1.Parts])] z5:=(Kp.cons (p2.on 0 rfl) Kp.nil0);refine ta 0 (v40) (tkx 2 o6 (fun c' a2 hk=>leN 83 0 [.slice d e f,I a.1.P.At.Row,I a.1.P.At.Col,B a.1.P.At.Pending,B a.1.P.Auto,.slice g h i,.slice j k n,I a.1.Parts] (hk.on 0 rfl)) (o1 1 (gc 1 (kq p2 Z.m d2.2 u2.m i6) ?_)));rintro x7 s3 i7 ⟨y2,w2,q2,rfl,z1⟩;have a5:Kp G0 [(Eb p 83 [.slice d e f,I a.1.P.At.Row,I a.1.P.At.Col,B a.1.P.At.Pending,B a.1.P.Auto,.slice g h i,.slice j k n,I a.1.Parts])] s3:=(Kp.cons (q2.on 1 rfl) Kp.nil0);refine ⟨.inr a5,o1 3 (gc 3 (kV q2 a.1 w1.m x1.m y1.m j6) ?_)⟩;rintro z7 t3 w4 ⟨y7,y0,rfl,g4⟩;have b5:Kp G0 [(Eb p 83 [.slice d e f,I a.1.P.At.Row,I a.1.P.At.Col,B a.1.P.At.Pending,B a.1.P.Auto,.slice g h i,.slice j k n,I a.1.Parts])] t3:=(Kp.cons (y0.on 1 rfl) Kp.nil0);refine ⟨.inr b5,o1 4 (gc 4 (qI y0 i5 g4 k6) ?_)⟩;rintro b8 u3 x4 ⟨a8,z0,rfl,h4⟩;have c5:Kp G0 [(Eb p 83 [.slice d e f,I a.1.P.At.Row,I a.1.P.At.Col,B a.1.P.At.Pending,B a.1.P.Auto,.slice g h i,.slice j k n,I a.1.Parts])] u3:=(Kp.cons (z0.on 1 rfl) Kp.nil0);refine ⟨.inr c5,?_⟩;obtain ⟨v3,j4,y4,a1,i4⟩:=z0.frz 0 rfl (z1.mono (w4.trans x4));have d5:Kp G0 [(Eb p 83 [.slice d e f,I a.1.P.At.Row,I a.1.P.At.Col,B a.1.P.At.Pending,B a.1.P.Auto,.slice g h i,.slice j k n,I a.1.Parts])] v3:=(Kp.cons (a1.on 1 rfl) Kp.nil0);refine AC.gh j4 y4 (fun _=>d5) (o1 5 (gc 5 (qJ a1 S j5 i4 h4.m m6) ?_));rintro c8 o0 j7 ⟨h0,rfl⟩;have e5:Kp G0 [(Eb p 83 [.slice d e f,I a.1.P.At.Row,I a.1.P.At.Col,B a.1.P.At.Pending,B a.1.P.Auto,.slice g h i,.slice j k n,I a.1.Parts])] o0:=(Kp.cons (h0.on 1 rfl) Kp.nil0);refine ⟨.inr e5,ta 6 (B (!f2)) ?_⟩;rcases bo (!f2) with x | x
  ·obtain rfl:=orT x v2;exact AC.takeb 7 x rfl (by kernel_rfl) (by kernel_rfl) (fun c' a2=>(by kernel_rfl)) (tp 8 (tp 9 (tp 10 (tp 11 (tp 12 (ta 13 (B true) (dn (nrm (jn o0 ⟨y2,w2,h0,rfl,z1.m⟩)))))))))
  have a3:=orF x v2;refine AC.takeb 7 x rfl (by kernel_rfl) (by kernel_rfl) (fun c' a2=>(by kernel_rfl)) (ta 8 (v49) (AC.take 9 (B R.2.isNil) rfl (by kernel_rfl) (by kernel_rfl) (fun c' a2=>(by rcases u1.m.cs with ⟨i1,t1⟩ | ⟨b_,i1,t1⟩ | ⟨b_,i1,t1⟩ <;> (subst i1; rw [t1]; kernel_rfl))) (ta 10 (I a.2.1) (ta 11 (B (decide (a.2.1 < 0))) (ta 12 (B (!(R.2.isNil==(decide (a.2.1 < 0))))) ?_)))));obtain rfl:=si a3;exact ta 13 (B (!(R.2.isNil==(decide (a.2.1 < 0))))) (dn (nrm (jn o0 ⟨y2,w2,h0,rfl,z1.m⟩)))
 rintro e_ w_ ⟨q0,c7,_,rfl,k7,rfl,d0,b0,i0,rfl,f7⟩;refine nrm (cn H (fun k4 H=>?_) (fun k4 H=>?_))
 ·refine sr (va (B false) (wln (W.ret (thr ?_))));obtain rfl:=si H;have e3:=i0.sD 2 [];exact r1 (qq q0 ⟨w0,e3,Z.m,rfl⟩)
 refine W.skip (nrm (W.seq (W.seq (bn H fun e4 f1 H=>W.join (Jn q0 fun c l=>Own c w0 (es false am d0 71 b0 S.Lines :: (Eb p 83 [.slice d e f,I a.1.P.At.Row,I a.1.P.At.Col,B a.1.P.At.Pending,B a.1.P.Auto,.slice g h i,.slice j k n,I a.1.Parts]) :: F)∧l= [(72,B e4)]) ?_ ?_))))
 ·clear H;refine W.region (va (I a.2.1) (va (B (decide (a.2.1≥0))) ?_));rcases bo (decide (a.2.1≥0)) with y | y
  ·have s:=anT y f1;refine vb y (wa (v49) (wn (bn s fun g2 l4 s=>cl (vS i0 (hG.m.le (by decide)) R.2 u1.m l4) ?_)));rintro d8 w3 l7 ⟨b1,rfl⟩;refine wa (I a.2.2) (wa (B (g2 != a.2.2)) (wn (bn s fun a7 g1 s=>?_)));rcases bo (g2 != a.2.2) with z | z
   ·obtain rfl:=orT z g1;refine vb z (pz (pz (wa (B true) ?_)));obtain rfl:=si s;exact va (B true) (wln (jn w3 ⟨b1,rfl⟩))
   have e0:=orF z g1;refine vb z (wa (v49) (wn (bn e0 fun v0 m4 e0=>cl (DD b1 (hT.m) R.2 u1.m m4) ?_)));rintro e8 x3 m7 ⟨f3,rfl⟩;refine wa (I a.2.1) (wa (B (v0 != a.2.1)) (wn ?_));obtain rfl:=si e0;refine va (B (v0 != a.2.1)) ?_;obtain rfl:=si s;exact va (B (v0 != a.2.1)) (wln (jn x3 ⟨f3,rfl⟩))
  obtain rfl:=anF y f1;exact vb y (pz (pz (pz (pz (pz (va (B false) (wln (jn q0 ⟨i0,rfl⟩))))))))
 rintro e_ w_ ⟨y3,d7,_,rfl,n7,rfl,c1,rfl⟩;refine nrm (cn H (fun n4 H=>?_) (fun n4 H=>?_))
 ·refine sr (va (B false) (wln (W.ret (thr ?_))));obtain rfl:=si H;have g3:=c1.sD 2 [];exact r1 (qq y3 ⟨w0,g3,Z.m,rfl⟩)
 refine W.skip (nrm (sr (va (.pointer none) (wln (sr (va (.pointer none) (bn H fun b o4 H=>cl (kq c1 Z.m (none:Option Nat) rfl o4) ?_)))))));rintro g8 w6 o7 ⟨f8,f5,h3,rfl,t0⟩;refine me (al 96 [I 0,I 0,Y,I 0,I 0,B false,B false] h3) ?_;rintro i8 x6 z4 ⟨m0,rfl,i3⟩;obtain ⟨j0,k0,l0,rfl⟩:=((t0.mono z4)).form;refine md (sA 96 [I b.Wide,I b.High,.slice j0 k0 l0,I b.At.Row,I b.At.Col,B b.At.Pending,B b.Auto] 0 i3 ⟨rfl,rfl,t0.m.one,rfl,rfl,rfl,rfl,trivial⟩) ?_;rintro z3 p7 j3;refine wln (W.seq (bn H fun i2 p4 H=>bn H fun j2 q4 H=>bn H fun b7 h1 H=>bn H fun q6 u0 H=>bn H fun r6 T H=>bn H fun k2 A H=>W.join (Jn z3 fun c l=>∃G_,Own c G_ ((Eb m0 96 [I b.Wide,I b.High,.slice j0 k0 l0,I b.At.Row,I b.At.Col,B b.At.Pending,B b.Auto]) :: es true am (.slice j0 k0 l0) 71 f5 b.Lines :: es false am d0 71 b0 S.Lines :: (Eb p 83 [.slice d e f,I a.1.P.At.Row,I a.1.P.At.Col,B a.1.P.At.Pending,B a.1.P.Auto,.slice g h i,.slice j k n,I a.1.Parts]) :: F)∧l= [(4,B k2)]∧Rel c i2.1 G_) ?_ ?_))
 ·clear H;refine W.region (va (.pointer none) (va (.agg #[I 0,I 0,I 0,Y]) (cl (nv j3 Z.m (hG.m.le (by decide)) (none:Option Nat) (⟨0,0,0,([]:List Int)⟩:aL) rfl (Sl.nl _ _) p4) ?_)));rintro j8 y6 q7 ⟨_,u,k3,q,rfl,s4⟩;refine cl (vS k3 (hG.m.le (by decide)) i2.2 s4 q4) ?_;rintro k8 s0 r7 ⟨t,rfl⟩;refine va (B (j2==8)) ?_;rcases bo (j2==8) with D | D
  ·have c3:=anT D h1;refine vb D (wa (Q m0) (wn (vx (le1 0 u_3 (t.on 0 rfl)) (wa (B (b.Wide==0)) ?_))));obtain rfl:=si c3;refine va (B (b.Wide==0)) ?_;rcases bo (b.Wide==0) with E | E
   ·have d3:=anT E u0;refine vb E (wa (Qo m0 2) (wn (vx (le1 2 dX (t.on 0 rfl)) (wn (vx (lnO 3 dX t0.m) (wa (B ((b.Lines.length:Int)==0)) ?_))))));obtain rfl:=si d3;refine va (B ((b.Lines.length:Int)==0)) ?_;rcases bo ((b.Lines.length:Int)==0) with M | M
    ·have f0:=anT M T;refine vb M (wa (.pointer none) (wn (bn f0 fun U t4 f0=>cl (qE t q.m (none:Option Nat) rfl t4) ?_)));rintro l8 a4 s7 ⟨d1,rfl⟩;refine wa (B (U==0)) ?_;obtain rfl:=si f0;refine va (B (U==0)) ?_;rcases bo (U==0) with N | N
     ·have g0:=anT N A;refine vb N (wa (.pointer none) (wn (bn g0 fun X u4 g0=>cl (qD d1 q.m (none:Option Nat) rfl u4) ?_)));rintro m8 b4 t7 ⟨_,w7,l3,rfl,v4⟩;refine wn (vx (lnO 3 dh v4) (wa (B ((X.length:Int)==0)) ?_));obtain rfl:=si g0;refine vv (B ((X.length:Int)==0)) (wln ?_);have m3:=l3.sD 5 [1,2,3,4];exact jn b4 ⟨u,m3,rfl,q.m⟩
     obtain rfl:=anF N A;exact vb N (pz (pz (vv (B false) (wln (jn a4 ⟨u,d1,rfl,q.m⟩)))))
    obtain rfl:=anF M T;refine vb M (pz (ps (va (B false) ?_)));have j1:false=false:=rfl;obtain rfl:=anF j1 A;exact vb j1 (pz (pz (vv (B false) (wln (jn s0 ⟨u,t,rfl,q.m⟩)))))
   obtain rfl:=anF E u0;refine vb E (pz (pz (va (B false) ?_)));have k1:false=false:=rfl;obtain rfl:=anF k1 T;refine vb k1 (pz (ps (va (B false) ?_)));have m1:false=false:=rfl;obtain rfl:=anF m1 A;exact vb m1 (pz (pz (vv (B false) (wln (jn s0 ⟨u,t,rfl,q.m⟩)))))
  obtain rfl:=anF D h1;refine vb D (pz (ps (va (B false) ?_)));have n1:false=false:=rfl;obtain rfl:=anF n1 u0;refine vb n1 (pz (pz (va (B false) ?_)));have q1:false=false:=rfl;obtain rfl:=anF q1 T;refine vb q1 (pz (ps (va (B false) ?_)));have s1:false=false:=rfl;obtain rfl:=anF s1 A;exact vb s1 (pz (pz (vv (B false) (wln (jn s0 ⟨u,t,rfl,q.m⟩)))))
 rintro e_ w_ ⟨c4,e7,_,rfl,u7,rfl,z2,n3,rfl,p3⟩;refine nrm (W.ret ?_);obtain rfl:=si H;have o3:=n3.sD 4 [];exact r1 (qq c4 ⟨z2,o3,p3,rfl⟩)
end Go.Proofs.YthokmpbbkpjhbaaGreatDoor
namespace Go.Lt
open Go.ChangeShapes Go.WideShapes Go.RowKit
def C0 (w:World):Cx:=⟨w,fun _ _=>False,fun _ _=>none⟩
theorem HQ (w:World):Own (C0 w) (fun _ _=>[]) []:=
 ⟨⟨fun i e h=>by cases i <;> simp [at_] at h,fun i j e e' h=>by cases i <;> simp [at_] at h⟩,fun _ _ _=>rfl⟩
theorem im0 {w:World} {b o:Nat} {v:Value} (h:w.cell? ⟨b,o,none⟩=some v):Im (C0 w) b o v:=by
 refine ⟨?_,id,h⟩;unfold World.cell? at h;split at h
 ·rename_i hh; exact (Array.getElem?_eq_some_iff.1 hh).1
 ·cases h
def Rd (P:Program) (t:TypeId) {α:Type} (R:Rp α) (K:α→Prop):Prop:=
 P.cellsOf t=R.size∧∀{H:Type} {enc:TypeId×Value→H} {w:World} {sp:Nat→Bool} {held:Bool} {fuel:Nat} {cs:List Value} {x:DataW H×List MemPlace},
  DataW.trod enc P w 0 sp held fuel t cs=some x→∃y,R.cells (C0 w) cs y∧K y
theorem Rd.int {P:Program} {t:TypeId} {k:IntKind} (ht:P.underlying t=some (.int k)) (hc:P.cellsOf t=1):Rd P t (RI k) (fun n=>(Lit.int k n).wf=true):=
 ⟨hc,fun h=>by obtain ⟨n,rfl,_,hw⟩:=DataW.trod_int ht h; exact ⟨n,rfl,hw⟩⟩
theorem G7 {α:Type} {Q:Nat→α→Prop}:∀n,(∀i,i < n→∃x,Q i x)→∃xs:List α,xs.length=n∧∀i x,xs[i]? = some x→Q i x
 | 0,_=>⟨[],rfl,fun i x h=>by simp at h⟩
 | n+1,h=>by
  obtain ⟨xs,hl,hx⟩:=G7 n fun i hi=>h i (Ik hi);obtain ⟨y,hy⟩:=h n (It n);refine ⟨xs++ [y],by simp [hl],fun i x hi=>?_⟩;rw [fE] at hi;split at hi
  ·exact hx i x hi
  ·rename_i hn
   have h1:=(List.getElem?_eq_some_iff.1 hi).1;simp only [aJ,aQ] at h1;obtain rfl:i=n:=by omega
   rw [hl,mb] at hi;cases hi;exact hy
theorem zd {w:World} {a:Addr} {n:Nat} {cs:List Value} (h:w.cells? 0 a n=some cs):cs.length=n∧∀j u,cs[j]? = some u→w.cell? (a.add j)=some u:=by
 unfold World.cells? at h;rw [ae (cG _)] at h;have hl:cs.length=n:=by simpa using mapM_some_length h
 refine ⟨hl,fun j u hu=>?_⟩;have hjn:j < n:=by have:=(List.getElem?_eq_some_iff.1 hu).1; omega
 have hj:=mapM_some_get h j j (dm hjn);rw [hu] at hj;exact hj
theorem Rd.field {P:Program} {H:Type} {enc:TypeId×Value→H} {w:World} {sp:Nat→Bool} {held:Bool} {n:Nat} {cs:List Value} {fs:Array Field} {xs:List (DataW H×List MemPlace)}
  (hf:∀(i:Nat) (f:Field),fs[i]? = some f→DataW.trod enc P w 0 sp held n f.type ((cs.drop f.offset).take (P.cellsOf f.type))=xs[i]?) (hx:xs.length=fs.size)
  (i:Nat) {f:Field} (hi:fs[i]? = some f) {α:Type} {R:Rp α} {K:α→Prop} (h:Rd P f.type R K):∃y,R.cells (C0 w) ((cs.drop f.offset).take R.size) y∧K y:=by
 have hlt:=(Array.getElem?_eq_some_iff.1 hi).1;have:=hf i f hi;rw [ag (show i < xs.length by omega),h.1] at this;exact h.2 this
section
variable {P:Program} {H:Type} {enc:TypeId×Value→H} {w:World} {sp:Nat→Bool} {held:Bool} {t:TypeId} {v:Value} {d:DataW H} {p:List MemPlace}
theorem E5 {α:Type} {R:Rp α} {K:α→Prop} {fs:Array Field} (ht:P.underlying t=some (.struct fs)) (h:Rd P t R K) (hok:Value.okWide P w .any 0 t v) (hd:DataW.Trod enc P w 0 sp held t v d p):
  ∃cs x,v= .agg cs∧R.cells (C0 w) cs.toList x∧K x:=by
 obtain ⟨fuel,hd⟩:=hd;obtain ⟨x,hx,hk⟩:=h.2 hd;unfold Value.okWide at hok;rw [ht] at hok;obtain ⟨cs,rfl,_⟩:=hok;exact ⟨cs,x,rfl,hx,hk⟩
end
theorem sF {H:Type} {enc:TypeId×Value→H} {P:Program} (hl:laidOutB P=true) {w w':World} (h:∀k,k < w.heap.size→w'.heap[k]? = w.heap[k]?) {sp:Nat→Bool}:
  ∀{ts:List TypeId} {vs:List Value} {ds:List (DataW H)} {ps:List MemPlace},(ts.all fun t=>P.readableRec t && decide (t < P.types.size))=true→(∀x∈ps,x.block < w.heap.size)→(∀x∈ps,sp x.block=true)→
  DataW.TrodAll enc P w 0 (fun _=>true) true ts vs ds ps→DataW.TrodAll enc P w' 0 sp true ts vs ds ps
 | [],[],[],_,_,_,_,hA=>hA
 | [],_ :: _,_,_,_,_,_,hA=>hA.elim
 | [],[],_ :: _,_,_,_,_,hA=>hA.elim
 | _ :: _,[],_,_,_,_,_,hA=>hA.elim
 | _ :: _,_ :: _,[],_,_,_,_,hA=>hA.elim
 | t :: ts,v :: vs,d :: ds,ps,hr,hlt,hsp,hA=>by
  obtain ⟨p,q,h1,h2,rfl⟩:=hA;simp only [List.all_cons,aw,an] at hr;refine ⟨p,q,WideElems.Trod_stays hl hr.1.1 hr.1.2 h1 (fun x hx=>?_) (fun x hx=>hsp x (io _ hx)),sF hl h hr.2 (fun x hx=>hlt x (uI _ hx)) (fun x hx=>hsp x (uI _ hx)) h2,rfl⟩;have hb:=hlt x (io _ hx)
  cases x with
  | cell b o=>exact oW (w:=w) (h b hb)
  | map b=>exact h b hb
theorem BD {H:Type} {enc:TypeId×Value→H} {P:Program} {f:Func} {s:ChangeSpec} {apart fresh handsOn again:Bool} {w w':World} {args:Array Value} {v:Value} {ds gs:List (DataW H)} {ps before:List MemPlace}
  (hW:DataW.Whole enc P f.params.toList s.vars apart w args.toList ds gs before) (he:before=ps++ [])
  (hr:∀(b:Nat) (sp:Nat→Bool) (hd:Bool),DataW.TrodAll enc P w' b sp hd f.resultTypes.toList (v.resultList f.resultTypes.size) (s.fn H (ds++gs)).results [])
  (ha:∀sp:Nat→Bool,(∀x∈ps,sp x.block=true)→DataW.TrodAll enc P w' 0 sp true f.params.toList args.toList (s.fn H (ds++gs)).args ps)
  (hv:∀sp:Nat→Bool,DataW.TrodVars enc P w' sp s.vars (s.fn H (ds++gs)).vars [])
  (hg:Gr w w') (ho:∀(j:Nat) (t:TypeId) (r:Value),f.resultTypes[j]? = some t→(v.resultList f.resultTypes.size)[j]? = some r→Value.okWide P w' .any 0 t r):s.post enc P f apart fresh handsOn again w args v w':=by
 rw [eC] at he;subst he;have hlt:∀x∈before,x.block < w.heap.size:=fun x hx=>hW.lt x hx;refine ⟨ds,gs,before,[],before,[],hW,hr _ _ _,ha _ (fun x hx=>vG (hlt x hx)),hv _,HZ (fun x hx=>⟨hx,.inr (.inl hx)⟩) (hg.frame (· ∈before)),fun _=>?_⟩;obtain ⟨_,_,_,_,_,hz,hn⟩:=hW;refine ⟨ho,_,_,([]++before)++ [],⟨[]++before,[],trodAll_append (ha _ fun _ _=>rfl) (hr _ _ _),hv _,rfl,fun b off hb=>?_,fun e=>?_⟩,fun x hx _=>by simpa using hx⟩
 ·have hb':MemPlace.cell b off∈before:=by simpa using hb
  have:=hlt _ hb';rw [hg.2.1 ⟨b,off,none⟩ this];exact hz b off (by simpa using hb')
 ·simpa using hn e
theorem Hf {P:Program} {laid:List (String×DataW Unit)} {w:World} (h:(laid.filter fun x=>x.2.handleName?.isSome)= []):laidMetH P laid w=laidMet P laid w:=by
 unfold laidMetH;rw [h]
theorem wS {P:Program} {W:World} {ti tp te ts:TypeId} {ms:Array (String×TypeId)} {f:Field} (hi:P.underlying ti=some (.interface ms)) (hrow:∀u,P.typeName? 3 u=some "*errors.errorString"→u=tp)
  (hp:P.underlying tp=some (.pointer te)) (he:P.underlying te=some (.struct #[f])) (hft:f.type=ts) (hfo:f.offset=0) (hs:P.underlying ts=some .string) (hc:P.cellsOf te=1) (hcs:P.cellsOf ts=1):
  ∀{laid:List (String×DataW Unit)} {ps:List MemPlace},DataW.LaidVars P W laid ps→(∀b off,MemPlace.cell b off∈ps→(∃c t,W.heap[b]? = some (.cells c t (0,0)))∧∀u v,W.cell? ⟨b,off,none⟩=some (.iface u v)→Value.okWide P W .any 0 u v)→
  ∀n text g,(n,DataW.iface "*errors.errorString" (.ptr (.agg [.lit (.string text)])))∈laid→P.globalNamed n=some g→(P.globals[g]?).map (·.type)=some ti→∃a s,W.cell? ⟨g,0,none⟩=some (.iface tp (.pointer (some a)))∧W.cell? a=some (.string s)∧s.data.toList=text∧∃c t,W.heap[a.block]? = some (.cells c t (0,0))
 | [],_,_,_,_,_,_,hm,_,_=>by cases hm
 | (n',d) :: r,ps,⟨g',t,cs,fuel,p,q,hg',ht',hv,hd,hr,e⟩,hrows,n,text,g,hm,hg,ht=>by
  subst e;rcases List.mem_cons.1 hm with hh | hm
  ·cases hh;obtain rfl:=be (hg.symm.trans hg');obtain rfl:=be (ht.symm.trans ht');obtain ⟨l⟩:=cs;have ok:∀u v,l= [.iface u v]→Value.okWide P W .any 0 u v:=fun u v e=>by
    subst e;exact (hrows g 0 (by simp [MemPlace.row])).2 u v (by simpa using Cd hg hv 0)
   obtain ⟨a,s,rfl,h1,h2,_,rfl⟩:=errorString_of_trod hi hrow hp he hft hfo hs hc hcs hd ok;exact ⟨a,s,by simpa using Cd hg hv 0,h1,h2,(hrows a.block a.off (by simp [MemPlace.row])).1⟩
  ·exact wS hi hrow hp he hft hfo hs hc hcs hr (fun b off hb=>hrows b off (uI _ hb)) n text g hm hg ht
theorem F6 {P:Program} {f:FuncId} {fn:Func} {s:ChangeSpec} {c:OpenClaim} (l1:laidOutB P=true) (l2:mapsRowed P=true) (l3:(P.stops== [])=true) (l4:(P.stopKnobs== [])=true) (l5:P.stopsHeard=true) (l6:P.mayEnter=true)
  (l7:(c.lifted==P.liftsFinal)=true) (l8:(P.make==some c.make)=true) (l9:(c.plainKeys==P.plainKeys)=true)
  (a0:c.wf (OpenSpec.ofChange s)=true) (a1:(fn.params.all (P.readableRec ·) && namedTie P c.named s.vars && (c.stops== []) && (c.knobs== []))=true)
  (a2:(c.inPlace==P.inPlace f)=true) (a3:(c.unfollowed==P.unfollowed f)=true) (a4:(c.recurses==P.recurses f)=true) (a5:(c.named==P.varsNamed f)=true)
  (a6:((c.maps==(fn.params.toList++s.plain.varTypes P).any (P.mapsRec ·)) && (c.ifaces==(fn.params.toList++s.plain.varTypes P).any (P.ifacesRec ·)) && (c.mapsOut==P.mapsAmong fn.resultTypes.toList) &&
   (c.loops==(fn.params.toList++s.plain.varTypes P).any (P.loopsFrom ·)) && (c.wideKeys==(fn.params.toList++s.plain.varTypes P++fn.resultTypes.toList).any (P.wideKeysFrom ·)) &&
   s.vars.all (P.varReadable ·) && fn.resultTypes.all (fun t=>P.readableRec t && decide (t < P.types.size)) && (c.ifacesOut==fn.resultTypes.toList.any (P.ifacesRec ·)) && (c.loopsOut==fn.resultTypes.toList.any (P.loopsFrom ·)))=true)
  (a7:(c.shortTexts.isNone && (c.kinds==(if c.domain.isEmpty then [] else fn.params.toList.map fun t=>match P.underlying t with | some (.int k)=>some k | _=>none)) && (c.pinned==c.pinnedBy) &&
   (c.veiled==(fn.params.toList++s.plain.varTypes P++fn.resultTypes.toList).any (P.veiledRec ·)) && c.veiledFits P fn.params.toList (fn.params.toList++s.plain.varTypes P++fn.resultTypes.toList))=true):joinedFacts P f fn s c=true:=by
 simp only [aw] at a1 a6 a7;obtain ⟨⟨⟨b1,b2⟩,b3⟩,b4⟩:=a1;obtain ⟨⟨⟨⟨⟨⟨⟨⟨c1,c2⟩,c3⟩,c4⟩,c5⟩,c6⟩,c7⟩,c8⟩,c9⟩:=a6;obtain ⟨⟨⟨⟨d1,d2⟩,d3⟩,d4⟩,d5⟩:=a7;unfold joinedFacts;simp only [aw];exact ⟨⟨⟨⟨⟨⟨⟨⟨⟨⟨⟨⟨⟨⟨⟨⟨⟨⟨⟨⟨⟨⟨⟨⟨⟨⟨⟨⟨⟨⟨⟨a0,l1⟩,l2⟩,b1⟩,b2⟩,b3⟩,l3⟩,b4⟩,l4⟩,a2⟩,a3⟩,a4⟩,a5⟩,c1⟩,c2⟩,c3⟩,c4⟩,c5⟩,c6⟩,c7⟩,c8⟩,c9⟩,l9⟩,d1⟩,l5⟩,l6⟩,l7⟩,l8⟩,d2⟩,d3⟩,d4⟩,d5⟩
end Go.Lt
namespace Go.Proofs.YthokmpbbkpjhbaaGreatDoor
open Go Go.Lt
set_option linter.unusedVariables false
theorem HS {α:Type} {cs:List α} (h:cs.length=4):∃a0 a1 a2 a3,cs= [a0,a1,a2,a3]:=by
 match cs,h with
 | [a0,a1,a2,a3],_=>exact ⟨_,_,_,_,rfl⟩
theorem HT {α:Type} {cs:List α} (h:cs.length=2):∃a0 a1,cs= [a0,a1]:=by
 match cs,h with
 | [a0,a1],_=>exact ⟨_,_,rfl⟩
def K_3 (n:Int):Prop:=(Lit.int .i64 n).wf=true
theorem D_3:Rd Tryz.prog 3 (RI .i64) K_3:=Rd.int Tryz.underlying3 (by kernel_rfl)
def K_5 (n:Int):Prop:=(Lit.int .u8 n).wf=true
theorem D_5:Rd Tryz.prog 5 (RI .u8) K_5:=Rd.int Tryz.underlying5 (by kernel_rfl)
def Ia (x:gi):Prop:=K_3 x.W∧K_3 x.H
theorem Ic:Rd Tryz.prog 92 qU Ia:=by
 refine ⟨by kernel_rfl,fun {H enc w sp held fuel cs x} h=>?_⟩;obtain ⟨xs,n,rfl,rfl,hl,hn,hf⟩:=Ir Tryz.underlying92 h;replace hl:=hl.trans (show Tryz.prog.cellsOf 92=2 by kernel_rfl);obtain ⟨a0,a1,rfl⟩:=HT hl;obtain ⟨y0,e0,k0⟩:=Rd.field hf hn 0 rfl D_3;have e0: [a0]= [.int .i64 y0]:=e0;cases e0;obtain ⟨y1,e1,k1⟩:=Rd.field hf hn 1 rfl D_3;have e1: [a1]= [.int .i64 y1]:=e1;cases e1;exact ⟨⟨y0,y1⟩,rfl,k0,k1⟩
theorem HO (w:World):Rel (C0 w) ⟨[],[],[],[],[],[]⟩ (fun _ _=>[]):=
 ⟨⟨fun k x h=>by simp at h,fun _ _=>rfl⟩,⟨fun k x h=>by simp at h,fun _ _=>rfl⟩,⟨fun k x h=>by simp at h,fun _ _=>rfl⟩,⟨fun k x h=>by simp at h,fun _ _=>rfl⟩,⟨fun k x h=>by simp at h,fun _ _=>rfl⟩,⟨fun k x h=>by simp at h,fun _ _=>rfl⟩⟩
theorem GR: "*" ++ "errors.errorString" = "*errors.errorString" :=by decide
set_option maxRecDepth 100000 in
theorem Cy (u:TypeId) (h:Tryz.prog.typeName? 3 u=some "*errors.errorString"):u=305:=
 typeName_ptr_named (nm:= "errors.errorString") (by rw [GR]; kernel_rfl) (by kernel_rfl) (by decide) u (by rw [GR]; exact h)
set_option maxRecDepth 100000 in
theorem nM {W:World} {laid:List (String×DataW Unit)} (h:laidMetH Tryz.prog laid W) (hf:(laid.filter fun x=>x.2.handleName?.isSome)= []) (n:String) (text:List UInt8) (g:Nat)
  (hm:(n,DataW.iface "*errors.errorString" (.ptr (.agg [.lit (.string text)])))∈laid) (hg:Tryz.prog.globalNamed n=some g) (ht:(Tryz.prog.globals[g]?).map (·.type)=some 37):
  ∃a s,Im (C0 W) g 0 (.iface 305 (.pointer (some a)))∧W.cell? a=some (.string s)∧s.data.toList=text∧RE 305 179 (C0 W) (.iface 305 (.pointer (some a))) (.sent g):=by
 rw [Hf hf] at h;obtain ⟨ps,hl,_,hr⟩:=h;obtain ⟨a,s,h1,h2,h3,cs,t,h4⟩:=wS Tryz.underlying37 Cy Tryz.underlying305 Tryz.underlying326 rfl rfl Tryz.underlying9 (by kernel_rfl) (by kernel_rfl) hl hr n text g hm hg ht;exact ⟨a,s,im0 h1,h2,h3,a,rfl,im0 h1,(Array.getElem?_eq_some_iff.1 h4).1,fun _=>id,cs,t,h4⟩
theorem F8 {W:World} {n:List Nat} (tx:Nat→List UInt8) (h:∀g,g∈n→∃a s,Im (C0 W) g 0 (.iface 305 (.pointer (some a)))∧W.cell? a=some (.string s)∧s.data.toList=tx g∧RE 305 179 (C0 W) (.iface 305 (.pointer (some a))) (.sent g))
  (hd:∀g,g∈n→∀g',g'∈n→tx g=tx g'→g=g'):Gl n (C0 W):=by
 refine ⟨fun g hg=>?_,fun g g' hg hg' hne a h1 h2=>?_⟩
 ·obtain ⟨a,_,_,_,_,h4⟩:=h g hg;exact ⟨_,h4⟩
 ·obtain ⟨a1,s1,e1,e2,e3,_⟩:=h g hg;obtain ⟨a2,s2,f1,f2,f3,_⟩:=h g' hg';have q1:=e1.cell.symm.trans h1.cell;have q2:=f1.cell.symm.trans h2.cell;cases q1;cases q2;have q3:=e2.symm.trans f2;cases q3;exact hne (hd g hg g' hg' (e3.symm.trans f3))
end Go.Proofs.YthokmpbbkpjhbaaGreatDoor
namespace Go.Lt
open Go.ChangeShapes Go.WideShapes Go.RowKit
def RdM (P:Program) (t:TypeId) {α:Type} (R:Rp α) (K:α→Prop):Prop:=
 P.cellsOf t=R.size∧∀{H:Type} {enc:TypeId×Value→H} {w:World} {sp:Nat→Bool} {held:Bool} {fuel:Nat} {cs:List Value} {x:DataW H×List MemPlace},
  DataW.trod enc P w 0 sp held fuel t cs=some x→(∀n∈x.1.weights P t,n≤reachBytes)→∃y,R.cells (C0 w) cs y∧K y
theorem Rd.m {P:Program} {t:TypeId} {α:Type} {R:Rp α} {K:α→Prop} (h:Rd P t R K):RdM P t R K:=⟨h.1,fun hd _=>h.2 hd⟩
theorem uj {H:Type} {P:Program} {e:TypeId}:∀{l:List (DataW H)} {i:Nat} {d:DataW H},l[i]? = some d→∀n∈d.weights P e,n∈DataW.weightsAll P e l
 | d0 :: l,0,d,h,n,hn=>by
  simp only [tB,aR] at h;subst h;simp only [DataW.weightsAll,uw];exact Or.inl hn
 | d0 :: l,i+1,d,h,n,hn=>by
  simp only [Fo] at h;simp only [DataW.weightsAll,uw];exact Or.inr (uj h n hn)
 | [],_,_,h,_,_=>by simp at h
theorem RdM.slice {P:Program} {t e:TypeId} {α:Type} {R:Rp α} {K:α→Prop} (ht:P.underlying t=some (.slice e)) (hc:P.cellsOf t=1) (h0:0 < R.size) (hb:0 < P.bytesOf e) (h:RdM P e R K):RdM P t (RL R) (fun xs=>xs.length≤reachBytes∧∀x∈xs,K x):=by
 refine ⟨hc,fun {H enc w sp held fuel cs x} hd hw=>?_⟩;rcases DataW.trod_slice ht hd with ⟨rfl,_⟩ | ⟨a,len,cap,elems,rest,n,_,rfl,hx,_,hl,hm,hlen,hel,_,_⟩
 ·exact ⟨[],⟨_,rfl,Sl.nl R _⟩,cG _,fun x hx=>by cases hx⟩
 ·subst hx;simp only [DataW.weights,ht] at hw;have hlr:len≤reachBytes:=by
   have h1:=hw _ (List.mem_cons_self ..);have h2:len≤((elems.map (·.1)).length+(rest.map (·.1)).length) * P.bytesOf e:=by
    rw [db,hlen];exact dA (Nat.le_add_right _ _) (Nat.le_mul_of_pos_right _ hb)
   omega
  obtain ⟨b,o,s⟩:=a;have key:∀i,i < len→∃x,K x∧∃b' off l,(some ⟨b,o,s⟩:Option Addr)=some ⟨b',off,none⟩∧R.cells (C0 w) l x∧∀j u,l[j]? = some u→Im (C0 w) b' (off+i * R.size+j) u:=by
   intro i hi;have hs:s=none:=by
    have hE:=hel 0 (by omega);rw [ag (show 0 < elems.length by omega),Fm] at hE;obtain ⟨cs,hcs,_⟩:=hE;obtain ⟨c1,c2⟩:=zd hcs;have hp:0 < cs.length:=by rw [c1,h.1]; exact h0
    have:=World.cell?_spot (c2 0 _ (ag hp));simpa [Addr.add] using this
   subst hs;have hE:=hel i hi;rw [ag (show i < elems.length by omega),Fm] at hE;obtain ⟨cs,hcs,hr⟩:=hE;obtain ⟨c1,c2⟩:=zd hcs;have hget:(elems.map (·.1))[i]? = some elems[i].1:=by
    rw [bE,ag (show i < elems.length by omega)];rfl
   obtain ⟨x,hx,hk⟩:=h.2 hr fun n hn=>hw n (vZ _ (io _ (uj hget n hn)));refine ⟨x,hk,b,o,cs,rfl,hx,fun j u hu=>im0 ?_⟩;have:=c2 j u hu;rw [Fs,Fs,h.1] at this;exact this
  obtain ⟨xs,hxl,hxs⟩:=G7 len key;subst hxl;refine ⟨xs,⟨_,rfl,some ⟨b,o,s⟩,cap,rfl,hl,hm,fun i x hx=>(hxs i x hx).2⟩,hlr,fun x hx=>?_⟩;obtain ⟨i,hi⟩:=List.mem_iff_getElem?.1 hx;exact (hxs i x hi).1
theorem RdM.field {P:Program} {H:Type} {enc:TypeId×Value→H} {w:World} {sp:Nat→Bool} {held:Bool} {n:Nat} {cs:List Value} {t:TypeId} {fs:Array Field} {xs:List (DataW H×List MemPlace)}
  (ht:P.underlying t=some (.struct fs)) (hw:∀m∈(DataW.agg (xs.map (·.1)):DataW H).weights P t,m≤reachBytes)
  (hf:∀(i:Nat) (f:Field),fs[i]? = some f→DataW.trod enc P w 0 sp held n f.type ((cs.drop f.offset).take (P.cellsOf f.type))=xs[i]?) (hx:xs.length=fs.size)
  (i:Nat) {f:Field} (hi:fs[i]? = some f) {α:Type} {R:Rp α} {K:α→Prop} (h:RdM P f.type R K):∃y,R.cells (C0 w) ((cs.drop f.offset).take R.size) y∧K y:=by
 have hlt:=(Array.getElem?_eq_some_iff.1 hi).1;have:=hf i f hi;have hxi:=ag (show i < xs.length by omega);rw [hxi,h.1] at this;refine h.2 this fun m hm=>hw m ?_;simp only [DataW.weights,ht];refine DataW.weights_mem_each (j:=i) (t:=f.type) (d:=xs[i].1) ?_ ?_ m hm
 ·rw [bE,GP,hi];rfl
 ·rw [bE,hxi];rfl
theorem Ap {P:Program} {H:Type} {enc:TypeId×Value→H} {w:World} {sp:Nat→Bool} {held:Bool} {t:TypeId} {v:Value} {d:DataW H} {p:List MemPlace} {e:TypeId} {α:Type} {R:Rp α} {K:List α→Prop}
  (ht:P.underlying t=some (.slice e)) (h:RdM P t (RL R) K) (hok:Value.okWide P w .any 0 t v) (hd:DataW.Trod enc P w 0 sp held t v d p) (hw:∀n∈d.weights P t,n≤reachBytes):∃xs,Sl R (C0 w) v xs∧K xs:=by
 obtain ⟨fuel,hd⟩:=hd;obtain ⟨xs,⟨u,hu,hs⟩,hk⟩:=h.2 hd hw;have:v.cells= #[v]:=by
  unfold Value.okWide at hok;simp only [ht] at hok;unfold Cell.okWide at hok
  cases v <;> simp [ht,Cell.ok] at hok⊢
  all_goals rfl
 rw [this] at hu;cases hu;exact ⟨xs,hs,hk⟩
end Go.Lt
namespace Go.Proofs.YthokmpbbkpjhbaaGreatDoor
open Go Go.Lt Go.ChangeShapes Go.WideShapes Go.RowKit
set_option maxRecDepth 100000
def Fq (xs:List Int):Prop:=xs.length≤reachBytes∧∀x∈xs,K_5 x
theorem HE:RdM Tryz.prog 57 (RL (RI .u8)) Fq:=RdM.slice Tryz.underlying57 (by kernel_rfl) (by decide) (by rw [show Tryz.prog.bytesOf 5=1 by kernel_rfl]; decide) D_5.m
def Fp (x:aL):Prop:=K_3 x.Kind∧K_3 x.A∧K_3 x.B∧Fq x.Bytes
theorem HD:RdM Tryz.prog 59 nG Fp:=by
 refine ⟨by kernel_rfl,fun {H enc w sp held fuel cs x} h hw=>?_⟩;obtain ⟨xs,n,rfl,rfl,hl,hn,hf⟩:=Ir Tryz.underlying59 h;replace hl:=hl.trans (show Tryz.prog.cellsOf 59=4 by kernel_rfl);obtain ⟨a0,a1,a2,a3,rfl⟩:=HS hl;obtain ⟨y0,e0,k0⟩:=RdM.field Tryz.underlying59 hw hf hn 0 rfl D_3.m;have e0: [a0]= [.int .i64 y0]:=e0;cases e0;obtain ⟨y1,e1,k1⟩:=RdM.field Tryz.underlying59 hw hf hn 1 rfl D_3.m;have e1: [a1]= [.int .i64 y1]:=e1;cases e1;obtain ⟨y2,e2,k2⟩:=RdM.field Tryz.underlying59 hw hf hn 2 rfl D_3.m;have e2: [a2]= [.int .i64 y2]:=e2;cases e2;obtain ⟨y3,e3,k3⟩:=RdM.field Tryz.underlying59 hw hf hn 3 rfl HE;obtain ⟨v3,e3,s3⟩:=e3;have e3: [a3]= [v3]:=e3;cases e3;exact ⟨⟨y0,y1,y2,y3⟩,⟨_,rfl,s3⟩,k0,k1,k2,k3⟩
def HB (xs:List aL):Prop:=xs.length≤reachBytes∧∀x∈xs,Fp x
theorem HF:RdM Tryz.prog 55 (RL nG) HB:=RdM.slice Tryz.underlying55 (by kernel_rfl) (by decide) (by rw [show Tryz.prog.bytesOf 59=48 by kernel_rfl]; decide) HD
end Go.Proofs.YthokmpbbkpjhbaaGreatDoor
namespace Go.Proofs.YthokmpbbkpjhbaaGreatDoor
structure Sg where
 some:Bool
 last:Int
 pict:Int
 conj:Int
 odd:Bool
def sg0:Sg:=⟨false,0,0,0,false⟩
def nxP (s:Int) (p:ax):Int:=if p.Pict=true then 1 else if s=1∧p.Break=4 then 1 else if s=1∧p.Break=5 then 2 else 0
def nxC (s:Int) (p:ax):Int:=if p.Conj=1 then 1 else if s=0 then 0 else if p.Conj=2 then 2 else if p.Conj=3 then s else 0
def sgN (s:Sg) (p:ax):Sg:=⟨true,p.Break,nxP s.pict p,nxC s.conj p,p.Break==6 && !(s.some && s.last==6 && s.odd)⟩
def sgF (l:List ax):Sg:=l.foldl sgN sg0
def sgJ (pj:Int→Int→Int) (s:Sg) (p:ax):Bool:=
 s.some && ((p.Conj==1 && s.conj==2) || (p.Pict && s.pict==2) || pj s.last p.Break==1 || (pj s.last p.Break==2 && s.last==6 && s.odd))
def cj:List ax→Nat→Bool
 | [],_=>false
 | x :: l,n=>if x.Conj=1 then decide (0 < n) else if x.Conj=2 then cj l (n+1) else if x.Conj=3 then cj l n else false
def pk:List ax→Bool
 | []=>false
 | x :: l=>if x.Pict=true then true else if x.Break=4 then pk l else false
def ri:List ax→Nat
 | []=>0
 | x :: l=>if x.Break=6 then ri l+1 else 0
def rj (pj:Int→Int→Int) (l:List ax) (p:ax):Bool:=
 match l with
 | []=>false
 | a :: l'=>pj a.Break p.Break==1 || (p.Conj==1 && cj (a :: l') 0) || (p.Pict && (!a.Pict && a.Break==5 && pk l')) || (pj a.Break p.Break==2 && p.Break==6 && ri (a :: l') % 2==1)
def pst:List ax→Int
 | []=>0
 | x :: l=>nxP (pst l) x
def cst:List ax→Int
 | []=>0
 | x :: l=>nxC (cst l) x
def hb:List ax→Int
 | []=>0
 | x :: _=>x.Break
def od:List ax→Bool
 | []=>false
 | x :: l=>x.Break==6 && !(!l.isEmpty && hb l==6 && od l)
theorem FG (l:List ax):sgF l=⟨!l.reverse.isEmpty,hb l.reverse,pst l.reverse,cst l.reverse,od l.reverse⟩:=by
 have key:∀r:List ax,sgF r.reverse=⟨!r.isEmpty,hb r,pst r,cst r,od r⟩:=by
  intro r
  induction r with
  | nil=>rfl
  | cons x r ih=>
   unfold sgF at ih⊢;rw [Il,lC,ih];rfl
 have:=key l.reverse
 rwa [Hz] at this
theorem FM (l:List ax):pk l=decide (pst l=1):=by
 induction l with
 | nil=>rfl
 | cons x l ih=>
  unfold pk pst nxP;by_cases h1:x.Pict=true
  ·rw [ae h1,ae h1]; rfl
  ·rw [af h1,af h1];by_cases h2:x.Break=4
   ·rw [ae h2,ih];by_cases h3:pst l=1
    ·rw [ae ⟨h3,h2⟩]; simp [h3]
    ·rw [af (fun q=>h3 q.1),af (fun q=>h3 q.1)]; simp [h3]
   ·rw [af h2,af (fun q=>h2 q.2)];split <;> rfl
theorem Gp (l:List ax) (n:Nat):cj l n=decide (cst l=2∨(cst l≠0∧0 < n)):=by
 induction l generalizing n with
 | nil=>rfl
 | cons x l ih=>
  unfold cj cst nxC;by_cases h1:x.Conj=1
  ·rw [ae h1,ae h1];simp
  ·rw [af h1,af h1];by_cases h2:x.Conj=2
   ·rw [ae h2,ih];by_cases h0:cst l=0
    ·rw [ae h0]; simp [h0]
    ·rw [af h0,ae h2]; simp [h0]
   ·rw [af h2];by_cases h3:x.Conj=3
    ·rw [ae h3,ih];by_cases h0:cst l=0
     ·rw [ae h0,h0]
     ·rw [af h0,af h2,ae h3]
    ·rw [af h3];by_cases h0:cst l=0
     ·rw [ae h0]; rfl
     ·rw [af h0,af h2,af h3]; rfl
theorem GX (l:List ax):od l=(ri l % 2==1):=by
 induction l with
 | nil=>rfl
 | cons x l ih=>
  unfold od ri;by_cases h:x.Break=6
  ·rw [ae h,ih];have hb':(x.Break==6)=true:=by simp [h]
   rw [hb',du]
   cases l with
   | nil=>rfl
   | cons y l=>
    by_cases h2:y.Break=6
    ·have e:(hb (y :: l)==6)=true:=by simp [hb,h2]
     rw [e];simp only [Ip,eB,du];rw [ci];simp only [dv,eU,aV];omega
    ·have e:(hb (y :: l)==6)=false:=by simp [hb,h2]
     rw [e];simp only [DV,lY,eB];have:ri (y :: l)=0:=by unfold ri; rw [af h2]
     rw [this];rfl
  ·rw [af h];simp [h]
theorem FF (pj:Int→Int→Int) (hp:∀a b,pj a b=2→(a=6↔b=6)) (l:List ax) (p:ax):sgJ pj (sgF l) p=rj pj l.reverse p:=by
 rw [FG];generalize l.reverse=r
 cases r with
 | nil=>rfl
 | cons a r=>
  unfold sgJ rj;simp only [Ip,eB,du,hb];rw [Gp,FM,←GX];have e1:(cst (a :: r)==2)=decide (cst (a :: r)=2∨(cst (a :: r)≠0∧0 < 0)):=by
   rw [ci]; simp
  have e2:(pst (a :: r)==2)=(!a.Pict && a.Break==5 && decide (pst r=1)):=by
   rw [ci];simp only [aV,aw,dv,an];show nxP (pst r) a=2↔_;unfold nxP;by_cases h1:a.Pict=true
   ·rw [ae h1,h1]; simp
   ·rw [af h1];simp only [tD] at h1;by_cases h2:pst r=1∧a.Break=4
    ·rw [ae h2]; simp [h1,h2]
    ·rw [af h2];by_cases h3:pst r=1∧a.Break=5
     ·rw [ae h3]; simp [h1,h3]
     ·rw [af h3];simp only [h1];constructor
      ·intro e; exact absurd e (by decide)
      ·rintro ⟨⟨_,q1⟩,q2⟩; exact absurd ⟨q2,q1⟩ h3
  have e3:(pj a.Break p.Break==2 && a.Break==6 && od (a :: r))=(pj a.Break p.Break==2 && p.Break==6 && od (a :: r)):=by
   by_cases h:pj a.Break p.Break=2
   ·have e6:(a.Break==6)=(p.Break==6):=by
     rw [ci,aV,aV];exact hp _ _ h
    rw [e6]
   ·have e7:(pj a.Break p.Break==2)=false:=by rw [eU]; exact h
    rw [e7];rfl
  rw [e1,e2,e3]
  cases (p.Conj==1 && decide (cst (a :: r)=2∨(cst (a :: r)≠0∧0 < 0))) <;> cases (p.Pict && (!a.Pict && a.Break==5 && decide (pst r=1))) <;> cases (pj a.Break p.Break==1) <;> rfl
structure Sq (s t:Sg):Prop where
 pict:s.pict=t.pict
 conj:s.conj=t.conj
 odd:s.odd=t.odd
theorem FE {s t:Sg} (h:Sq s t) (h1:s.odd=true→s.some=true∧s.last=6) (h2:t.odd=true→t.some=true∧t.last=6) (p:ax):sgN s p=sgN t p:=by
 unfold sgN;rw [h.pict,h.conj]
 congr 2
 have:(s.some && s.last==6 && s.odd)=(t.some && t.last==6 && t.odd):=by
  have ho:=h.odd;rw [ci];simp only [aw,aV];constructor
  ·rintro ⟨_,q⟩;have:=h2 (ho▸ q);exact ⟨this,ho▸ q⟩
  ·rintro ⟨_,q⟩;have:=h1 (ho▸ q);exact ⟨this,ho▸ q⟩
 rw [this]
end Go.Proofs.YthokmpbbkpjhbaaGreatDoor
namespace Go.Proofs.YthokmpbbkpjhbaaGreatDoor
def DQ (c:List (List Int)) (r:Int):List (List Int):=c.dropLast++ [c.getLast?.getD []++ [r]]
theorem oV (c:List (List Int)) (x:List Int) (r:Int):DQ (c++ [x]) r=c++ [x++ [r]]:=by
 unfold DQ;simp
section
variable (pj:Int→Int→Int) (pr:Int→ax)
def clS (l:List Int):List (List Int)×Sg:=l.foldl (fun a r=>(if sgJ pj a.2 (pr r)=true then DQ a.1 r else a.1++ [[r]],sgN a.2 (pr r))) ([],sg0)
def cls (l:List Int):List (List Int):=(clS pj pr l).1
def jn (l:List Int) (r:Int):Bool:=sgJ pj (sgF (l.map pr)) (pr r)
theorem uX (l:List ax) (x:ax):sgF (l++ [x])=sgN (sgF l) x:=by
 unfold sgF;rw [lC];rfl
theorem Ht (l:List Int):(clS pj pr l).2=sgF (l.map pr):=by
 have key:∀(l:List Int) (a:List (List Int)×Sg),(l.foldl (fun a r=>(if sgJ pj a.2 (pr r)=true then DQ a.1 r else a.1++ [[r]],sgN a.2 (pr r))) a).2=(l.map pr).foldl sgN a.2:=by
  intro l
  induction l with
  | nil=>intro a; rfl
  | cons r l ih=>intro a; rw [IE,ih,sx,IE]
 exact key l _
theorem A0:cls pj pr []= []:=rfl
theorem tj (l:List Int) (r:Int):cls pj pr (l++ [r])=if jn pj pr l r=true then DQ (cls pj pr l) r else cls pj pr l++ [[r]]:=by
 unfold cls jn;rw [←Ht pj];unfold clS;rw [lC];rfl
theorem wT {l:List Int} {r:Int} (h:jn pj pr l r=true):l≠ []:=by
 rintro rfl;simp [jn,sgJ,sgF,sg0] at h
end
theorem sK {P:List Int→Prop} (h0:P []) (h1:∀l r,P l→P (l++ [r])) (l:List Int):P l:=by
 have key:∀l:List Int,P l.reverse:=by
  intro l
  induction l with
  | nil=>exact h0
  | cons r l ih=>rw [Il]; exact h1 _ _ ih
 have:=key l.reverse
 rwa [Hz] at this
theorem jB {α:Type} {l:List α} (h:l≠ []):∃l0 x,l=l0++ [x]:=⟨l.dropLast,l.getLast h,(List.dropLast_concat_getLast h).symm⟩
variable {pj:Int→Int→Int} {pr:Int→ax}
theorem qz (l:List Int):(cls pj pr l).flatten=l∧(∀c∈cls pj pr l,c≠ [])∧(l≠ []→cls pj pr l≠ []):=by
 refine sK (P:=fun l=>(cls pj pr l).flatten=l∧(∀c∈cls pj pr l,c≠ [])∧(l≠ []→cls pj pr l≠ [])) ⟨rfl,fun c hc=>by simp [A0] at hc,fun h=>absurd rfl h⟩ (fun l r ih=>?_) l;obtain ⟨h1,h2,h3⟩:=ih;rw [tj];split
 ·rename_i hj
  obtain ⟨c0,x,e⟩:=jB (h3 (wT pj pr hj));rw [e] at h1 h2⊢;rw [oV];refine ⟨?_,fun c hc=>?_,fun _=>by simp⟩
  ·rw [←h1]; simp
  ·rcases List.mem_append.1 hc with hc | hc
   ·exact h2 c (io _ hc)
   ·rw [List.mem_singleton.1 hc]; simp
 ·refine ⟨by rw [wy,h1]; simp,fun c hc=>?_,fun _=>by simp⟩;rcases List.mem_append.1 hc with hc | hc
  ·exact h2 c hc
  ·rw [List.mem_singleton.1 hc]; simp
theorem zc {l:List Int} {x:Int} {c0:List (List Int)} {c:List Int} (h:cls pj pr (l++ [x])=c0++ [c]):∃c',c=c'++ [x]:=by
 obtain ⟨h1,h2,_⟩:=qz (pj:=pj) (pr:=pr) (l++ [x]);rw [h] at h1 h2;obtain ⟨c',y,rfl⟩:=jB (h2 c (by simp));refine ⟨c',?_⟩;rw [wy] at h1;simp only [lD,List.flatten_nil,eC] at h1;rw [←aK] at h1;have:=GH h1 rfl;rw [List.singleton_inj.1 this]
section
variable (pj:Int→Int→Int) (pr:Int→ax)
def sts (l:List Int):List Nat:=(List.range l.length).filter fun i=> !jn pj pr (l.take i) (l.getD i 0)
theorem uV (l:List Int) (r:Int):sts pj pr (l++ [r])=sts pj pr l++(if jn pj pr l r=true then [] else [l.length]):=by
 unfold sts;rw [aA,GM,pD,List.filter_append]
 congr 1
 ·refine List.filter_congr fun i hi=>?_;have hi:=List.mem_range.1 hi;rw [cX (by omega)]
  congr 2
  rw [aq,aq,aI hi]
 ·rw [List.filter_cons,List.filter_nil];have e1:(l++ [r]).take l.length=l:=by simp
  have e2:(l++ [r]).getD l.length 0=r:=by simp
  rw [e1,e2]
  cases jn pj pr l r <;> rfl
end
theorem zA {l:List Int} {i:Nat} (h:i∈sts pj pr l):i < l.length:=by
 unfold sts at h;exact List.mem_range.1 (List.mem_filter.1 h).1
theorem Fy {l:List Int} (h:l≠ []):sts pj pr l≠ []:=by
 refine sK (P:=fun l=>l≠ []→sts pj pr l≠ []) (fun h=>absurd rfl h) (fun l r ih _=>?_) l h;rw [uV];split
 ·rename_i hj
  intro e;exact ih (wT pj pr hj) (by simpa using e)
 ·simp
def slx (l:List Int) (a b:Nat):List Int:=(l.drop a).take (b - a)
def pcs (l:List Int) (a:List Nat):List (List Int):=(List.range (a.length - 1)).map fun i=>slx l (a.getD i 0) (a.getD (i+1) 0)
theorem vm (l:List Int) (B:List Nat) (a b:Nat):pcs l (B++ [a]++ [b])=pcs l (B++ [a])++ [slx l a b]:=by
 unfold pcs;have e1:(B++ [a]++ [b]).length - 1=B.length+1:=by simp
 have e2:(B++ [a]).length - 1=B.length:=by simp
 rw [e1,e2,pD,bG]
 congr 1
 ·refine dk fun i hi=>?_;have hi:=List.mem_range.1 hi;have g:∀j,j < B.length+1→(B++ [a]++ [b]).getD j 0=(B++ [a]).getD j 0:=fun j hj=>by
   rw [aq,aq,aI (by simp; omega)]
  rw [g i (by omega),g (i+1) (by omega)]
 ·simp
theorem D4 {l:List Int} {a b:Nat} (h:b≤l.length) (r:List Int):slx (l++r) a b=slx l a b:=by
 unfold slx;rcases aO a l.length with ha | ha
 ·rw [iq (by omega),cX (by simp; omega)]
 ·rw [show b - a=0 by omega,eA,eA]
theorem AH {l:List Int} {A:List Nat} (h:∀a∈A,a≤l.length) (r:List Int):pcs (l++r) A=pcs l A:=by
 unfold pcs;refine dk fun i hi=>?_;have hi:=List.mem_range.1 hi;refine D4 ?_ r;rw [aq,ag (by omega)];exact h _ (aG _)
theorem yk {l:List Int} {a:Nat} (h:a≤l.length) (r:Int):slx (l++ [r]) a (l.length+1)=slx l a l.length++ [r]:=by
 unfold slx;rw [iq h,aC (by simp; omega),aC (by simp)]
theorem Em (l:List Int):pcs l (sts pj pr l++ [l.length])=cls pj pr l:=by
 refine sK (P:=fun l=>pcs l (sts pj pr l++ [l.length])=cls pj pr l) rfl (fun l r ih=>?_) l;have hle:∀a∈sts pj pr l++ [l.length],a≤l.length:=fun a ha=>by
  rcases List.mem_append.1 ha with ha | ha
  ·exact qm (zA ha)
  ·rw [List.mem_singleton.1 ha]; exact az _
 rw [tj,uV,aA,GM];split
 ·rename_i hj
  obtain ⟨B,a,e⟩:=jB (Fy (pj:=pj) (pr:=pr) (wT pj pr hj));rw [e] at ih hle⊢;rw [eC,vm,←ih,vm,oV,yk (hle a (by simp)),AH (fun x hx=>hle x (io _ hx))]
 ·rw [vm,AH hle,ih,yk (az _)];simp [slx]
structure Sil (pj:Int→Int→Int) (pr:Int→ax) (sil:Int→Bool):Prop where
 s:∀r,sil r=true→((pr r).Break=1∨(pr r).Break=2∨(pr r).Break=3)∧(pr r).Pict=false∧(pr r).Conj=0
 ja:∀a b,(a=1∨a=2∨a=3)→pj a b≠0→a=1∧b=2
 jb:∀a b,(b=1∨b=2∨b=3)→pj a b≠0→a=1∧b=2
 b:∀r,(pr r).Break=1∨(pr r).Break=2→sil r=true
variable {sil:Int→Bool}
theorem Sil.state (h:Sil pj pr sil) (l:List Int) {x:Int} (hx:sil x=true):sgF ((l++ [x]).map pr)=⟨true,(pr x).Break,0,0,false⟩:=by
 obtain ⟨h1,h2,h3⟩:=h.s x hx;rw [bG,xX,uX];unfold sgN nxP nxC;rw [h2,h3,af (by simp),af (by omega),af (by omega),af (by omega)]
 congr 1
 ·split <;> rfl
 ·have e:((pr x).Break==6)=false:=by rw [eU]; omega
  rw [e,lY]
theorem Sil.no (h:Sil pj pr sil) (l:List Int) {x r:Int} (hx:sil x=true) (hr:sil r=false):jn pj pr (l++ [x]) r=false:=by
 obtain ⟨h1,_,_⟩:=h.s x hx;unfold jn;rw [h.state l hx];have hz:pj (pr x).Break (pr r).Break=0:=DX fun hne=>by
  have:=h.b r (.inr (h.ja _ _ h1 hne).2);rw [hr] at this;cases this
 simp [sgJ,hz]
theorem Sil.new (h:Sil pj pr sil) (l:List Int) {x:Int} (hx:sil x=true) (p:ax):sgN (sgF ((l++ [x]).map pr)) p=sgN sg0 p:=by
 rw [h.state l hx];exact FE (s:=⟨true,(pr x).Break,0,0,false⟩) (t:=sg0) ⟨rfl,rfl,rfl⟩ (fun e=>by simp at e) (fun e=>by simp [sg0] at e) p
theorem Sil.yes (h:Sil pj pr sil) {l:List Int} {r:Int} (hr:sil r=true) (hj:jn pj pr l r=true):∃l0 x,l=l0++ [x]∧sil x=true:=by
 obtain ⟨l0,x,rfl⟩:=jB (wT pj pr hj);refine ⟨l0,x,rfl,?_⟩;obtain ⟨h1,h2,h3⟩:=h.s r hr;unfold jn at hj;rw [bG,xX,uX] at hj;have hl:(sgN (sgF (l0.map pr)) (pr x)).last=(pr x).Break:=rfl;unfold sgJ at hj;rw [h2,h3,hl] at hj;have hz:pj (pr x).Break (pr r).Break≠0:=fun e=>by
  rw [e] at hj;simp at hj
 exact h.b x (.inl (h.jb _ _ h1 hz).1)
theorem Sil.all (h:Sil pj pr sil) (l:List Int):∀c∈cls pj pr l,(∀x∈c,sil x=true)∨∀x∈c,sil x=false:=by
 refine sK (P:=fun l=>∀c∈cls pj pr l,(∀x∈c,sil x=true)∨∀x∈c,sil x=false) (fun c hc=>by simp [A0] at hc) (fun l r ih=>?_) l;rw [tj];split
 ·rename_i hj
  obtain ⟨l0,x,rfl⟩:=jB (wT pj pr hj);obtain ⟨c0,c,e⟩:=jB ((qz (pj:=pj) (pr:=pr) (l0++ [x])).2.2 (by simp));obtain ⟨c',rfl⟩:=zc e;rw [e] at ih⊢;rw [oV];intro d hd;rcases List.mem_append.1 hd with hd | hd
  ·exact ih d (io _ hd)
  ·rw [List.mem_singleton.1 hd];have hc:=ih (c'++ [x]) (by simp)
   cases hr:sil r with
   | true=>
    obtain ⟨l1,y,e1,hy⟩:=h.yes hr hj;have:x=y:=List.singleton_inj.1 (GH e1 rfl);subst this
    left
    rcases hc with hc | hc
    ·intro z hz;rcases List.mem_append.1 hz with hz | hz
     ·exact hc z hz
     ·rw [List.mem_singleton.1 hz]; exact hr
    ·have:=hc x (by simp);rw [hy] at this;cases this
   | false=>
    right
    rcases hc with hc | hc
    ·have:=h.no l0 (hc x (by simp)) hr;rw [this] at hj;cases hj
    ·intro z hz;rcases List.mem_append.1 hz with hz | hz
     ·exact hc z hz
     ·rw [List.mem_singleton.1 hz]; exact hr
 ·intro d hd;rcases List.mem_append.1 hd with hd | hd
  ·exact ih d hd
  ·rw [List.mem_singleton.1 hd]
   cases hr:sil r with
   | true=>left; intro z hz; rw [List.mem_singleton.1 hz]; exact hr
   | false=>right; intro z hz; rw [List.mem_singleton.1 hz]; exact hr
end Go.Proofs.YthokmpbbkpjhbaaGreatDoor
namespace Go.Lt
theorem aF {n:Int} (h: -9223372036854775808≤n∧n≤9223372036854775807):w64 n=n:=by
 unfold w64;rw [Au];omega
theorem xd {n:Int} (h: -2147483648≤n∧n≤2147483647):w32 n=n:=by
 unfold w32;rw [IntKind.wrap_i32];omega
theorem bsm {α β:Type} (a:α) (f:α→Option β):(some a).bind f=f a:=by simp
theorem lG {σ τ:Type} {step:σ→Option (σ ⊕ τ)} (Inv:σ→Prop) (μ:σ→Nat) (post:τ→Prop)
  (h:∀s,Inv s→(∃s',step s=some (.inl s')∧Inv s'∧μ s' < μ s)∨∃t,step s=some (.inr t)∧post t):
  ∀(fuel:Nat) (s:σ),Inv s→μ s < fuel→∃t,cE fuel step s=some t∧post t:=by
 intro fuel
 induction fuel with
 | zero=>intro s _ hm; omega
 | succ k ih=>
  intro s hs hm;rcases h s hs with ⟨s',h1,h2,h3⟩ | ⟨t,h1,h2⟩
  ·obtain ⟨t,h4,h5⟩:=ih s' h2 (by omega);exact ⟨t,by simp [cE,h1,h4],h5⟩
  ·exact ⟨t,by simp [cE,h1],h2⟩
theorem pi {σ τ:Type} {step:σ→Option (σ ⊕ τ)} (Inv:σ→Prop) (μ:σ→Nat) {t:τ}
  (h:∀s,Inv s→(∃s',step s=some (.inl s')∧Inv s'∧μ s' < μ s)∨step s=some (.inr t)) {fuel:Nat} {s:σ} (h0:Inv s) (hm:μ s < fuel):cE fuel step s=some t:=by
 obtain ⟨t',h1,h2⟩:=lG Inv μ (fun x=>x=t) (fun s hs=>(h s hs).imp id fun h=>⟨t,h,rfl⟩) fuel s h0 hm;rw [h1,h2]
theorem br (a b:Bool):orE a (some b)=some (a || b):=by cases a <;> rfl
theorem aZ (a b:Bool):bI a (some b)=some (a && b):=by cases a <;> rfl
theorem yC (x:Option Bool):orE true x=some true:=rfl
theorem fh (x:Option Bool):orE false x=x:=rfl
theorem gq (x:Option Bool):bI true x=x:=rfl
theorem gt (x:Option Bool):bI false x=some false:=rfl
theorem uO {α:Type} (xs:List α) (i:Nat):idx xs (i:Int)=xs[i]? :=by
 unfold idx;rw [ae (Ib i)];rfl
theorem bc {α:Type} {xs:List α} {i:Nat} (h:i < xs.length):idx xs (i:Int)=some xs[i]:=by
 rw [uO,ag h]
theorem kN {α:Type} {xs:List α} {i:Nat} (h:i < xs.length) (x:α):pb xs (i:Int) x=some (xs.set i x):=by
 unfold pb;rw [ae ⟨Ib i,by omega⟩];rfl
theorem cK {α:Type} {xs ys:List α} (h:xs.length+ys.length≤1099511627776):app xs ys=some (xs++ys):=by
 unfold app far;rw [ae h]
theorem nV {α:Type} {n:Int} (x:α) (h:0≤n∧n≤1099511627776):rep n x=some (List.replicate n.toNat x):=by
 unfold rep far;rw [ae (by omega)]
theorem nU {α:Type} {xs:List α} {i j:Nat} (h:i≤j) (h2:j≤xs.length):slc xs i j=some ((xs.drop i).take (j - i)):=by
 unfold slc;rw [ae (by omega)]
 congr 2
 omega
theorem eX (x y:Int):aE x y=max x y:=by unfold aE; split <;> omega
theorem dq (x y:Int):aB x y=min x y:=by unfold aB; split <;> omega
theorem nn {τ:Type} {step:Int→Option (Int ⊕ τ)} {n:Nat} (hn:n≤9223372036854775807) (post:τ→Prop) (Inv:Nat→Prop) (h0:Inv 0)
  (h:∀i:Nat,i < n→Inv i→(step i=some (.inl ((i+1:Nat):Int))∧Inv (i+1))∨∃t,step i=some (.inr t)∧post t)
  (hend:Inv n→∃t,step n=some (.inr t)∧post t):∃t,cE (((n:Int) - 0).toNat+1) step 0=some t∧post t:=by
 refine lG (fun s:Int=>∃i:Nat,s=(i:Int)∧i≤n∧Inv i) (fun s:Int=>n - s.toNat) post (fun s ⟨i,hs,hi,hI⟩=>?_) _ _ ⟨0,rfl,cG _,h0⟩ (by simp);subst hs;rcases aO i n with hlt | hge
 ·rcases h i hlt hI with ⟨h1,h2⟩ | h1
  ·exact .inl ⟨_,h1,⟨i+1,rfl,hlt,h2⟩,by simp; omega⟩
  ·exact .inr h1
 ·obtain rfl:i=n:=by omega
  exact .inr (hend hI)
theorem dV {σ τ:Type} {step:σ→Option (σ ⊕ τ)} {n:Nat} (Inv:Nat→σ→Prop) (post:τ→Prop)
  (h:∀i s,i < n→Inv i s→(∃s',step s=some (.inl s')∧Inv (i+1) s')∨∃t,step s=some (.inr t)∧post t)
  (hend:∀s,Inv n s→∃t,step s=some (.inr t)∧post t) {fuel:Nat} {s:σ} (h0:Inv 0 s) (hf:n < fuel):∃t,cE fuel step s=some t∧post t:=by
 have key:∀fuel i s,i≤n→n - i < fuel→Inv i s→∃t,cE fuel step s=some t∧post t:=by
  intro fuel
  induction fuel with
  | zero=>intro i s _ hm; omega
  | succ k ih=>
   intro i s hi hm hs;rcases aO i n with hlt | hge
   ·rcases h i s hlt hs with ⟨s',h1,h2⟩ | ⟨t,h1,h2⟩
    ·obtain ⟨t,h4,h5⟩:=ih (i+1) s' hlt (by omega) h2;exact ⟨t,by simp [cE,h1,h4],h5⟩
    ·exact ⟨t,by simp [cE,h1],h2⟩
   ·obtain rfl:i=n:=by omega
    obtain ⟨t,h1,h2⟩:=hend s hs;exact ⟨t,by simp [cE,h1],h2⟩
 exact key fuel 0 s (cG _) (by omega) h0
theorem xP {α β:Type} {x:Option α} {k:α→Option β} {a:α} {r:Option β} (h:x=some a) (h2:k a=r):x.bind k=r:=by rw [h]; exact h2
theorem lv {σ τ β:Type} {step:σ→Option (σ ⊕ τ)} {n:Nat} (Inv:Nat→σ→Prop) (post:τ→Prop) {fuel:Nat} {s:σ} {k:τ→Option β} {r:Option β}
  (h:∀i s,i < n→Inv i s→(∃s',step s=some (.inl s')∧Inv (i+1) s')∨∃t,step s=some (.inr t)∧post t)
  (hend:∀s,Inv n s→∃t,step s=some (.inr t)∧post t) (h0:Inv 0 s) (hf:n < fuel) (hk:∀t,post t→k t=r):(cE fuel step s).bind k=r:=by
 obtain ⟨t,h1,h2⟩:=dV Inv post h hend h0 hf;rw [h1];exact hk t h2
theorem oA {σ τ β:Type} {step:σ→Option (σ ⊕ τ)} {n:Nat} (Inv:Nat→σ→Prop) (post:τ→Prop) {fuel:Nat} {s:σ} {k:τ→Option β} {p:β→Prop}
  (h:∀i s,i < n→Inv i s→(∃s',step s=some (.inl s')∧Inv (i+1) s')∨∃t,step s=some (.inr t)∧post t)
  (hend:∀s,Inv n s→∃t,step s=some (.inr t)∧post t) (h0:Inv 0 s) (hf:n < fuel) (hk:∀t,post t→∃r,k t=some r∧p r):∃r,(cE fuel step s).bind k=some r∧p r:=by
 obtain ⟨t,h1,h2⟩:=dV Inv post h hend h0 hf;rw [h1];exact hk t h2
theorem vu {α τ:Type} {step:List α×Int→Option (List α×Int ⊕ τ)} {n fuel:Nat} (f:Nat→α) {t:τ}
  (h:∀i,i < n→step ((List.range i).map f,(i:Int))=some (.inl ((List.range i).map f++ [f i],((i+1:Nat):Int))))
  (hend:step ((List.range n).map f,(n:Int))=some (.inr t)) (hf:n < fuel):cE fuel step ([],0)=some t:=by
 obtain ⟨t',h1,h2⟩:=dV (step:=step) (n:=n) (fuel:=fuel) (s:=([],0)) (fun i s=>s=((List.range i).map f,(i:Int))) (fun t'=>t'=t)
  (fun i s hi e=>by subst e; exact .inl ⟨_,h i hi,by rw [pD,bG]; rfl⟩) (fun s e=>by subst e; exact ⟨t,hend,rfl⟩) rfl hf
 rw [h1,h2]
theorem er {i n:Nat} (h:i < n) (hn:n≤9223372036854775807):w64 ((i:Int)+1)=((i+1:Nat):Int):=by
 rw [aF (by omega)];simp
theorem dlt {i n:Nat} (h:i < n):decide ((i:Int) < (n:Int))=true:=by simp; exact h
theorem dnl (n:Nat):decide ((n:Int) < (n:Int))=false:=by simp
end Go.Lt
namespace Go.Lt
theorem wV {σ τ β:Type} {step:σ→Option (σ ⊕ τ)} {fuel:Nat} {s:σ} {k:τ→Option β} {r:Option β} (Inv:σ→Prop) (μ:σ→Nat) (post:τ→Prop)
  (h:∀s,Inv s→(∃s',step s=some (.inl s')∧Inv s'∧μ s' < μ s)∨∃t,step s=some (.inr t)∧post t) (h0:Inv s) (hf:μ s < fuel) (hk:∀t,post t→k t=r):(cE fuel step s).bind k=r:=by
 obtain ⟨t,e1,e2⟩:=lG Inv μ post h fuel s h0 hf;rw [e1];exact hk t e2
theorem wU {σ τ β:Type} {step:σ→Option (σ ⊕ τ)} {fuel:Nat} {s:σ} {k:τ→Option β} {p:β→Prop} (Inv:σ→Prop) (μ:σ→Nat) (post:τ→Prop)
  (h:∀s,Inv s→(∃s',step s=some (.inl s')∧Inv s'∧μ s' < μ s)∨∃t,step s=some (.inr t)∧post t) (h0:Inv s) (hf:μ s < fuel) (hk:∀t,post t→∃r,k t=some r∧p r):∃r,(cE fuel step s).bind k=some r∧p r:=by
 obtain ⟨t,e1,e2⟩:=lG Inv μ post h fuel s h0 hf;rw [e1];exact hk t e2
theorem E1 {α σ τ:Type} {x:Option α} {k:α→Option (σ ⊕ τ)} {A:σ→Prop} {B:τ→Prop} (post:α→Prop) (hx:∃t,x=some t∧post t)
  (hk:∀t,post t→(∃s',k t=some (.inl s')∧A s')∨∃u,k t=some (.inr u)∧B u):(∃s',x.bind k=some (.inl s')∧A s')∨∃t,x.bind k=some (.inr t)∧B t:=by
 obtain ⟨t,e1,e2⟩:=hx;rw [e1];exact hk t e2
variable {α:Type} {lo hi:α→Int}
def sI (lo hi:α→Int):List α→Bool
 | []=>true
 | x :: l=>decide (lo x≤hi x) && (match l with | []=>true | y :: _=>decide (hi x < lo y)) && sI lo hi l
theorem xh:∀{T:List α},sI lo hi T=true→∀i (h:i < T.length),lo T[i]≤hi T[i]
 | [],_,i,h=>by simp at h
 | x :: l,hs,i,h=>by
  simp only [sI,aw,an] at hs
  cases i with
  | zero=>exact hs.1.1
  | succ i=>exact xh hs.2 i (by simpa using h)
theorem qW:∀{T:List α},sI lo hi T=true→∀i j (h:j < T.length),(hij:i < j)→hi (T[i]'(by omega)) < lo T[j]
 | [],_,i,j,h,_=>by simp at h
 | x :: l,hs,i,j,h,hij=>by
  have hs0:=hs;simp only [sI,aw,an] at hs
  cases j with
  | zero=>omega
  | succ j=>
   have hj:j < l.length:=by simpa using h
   cases i with
   | succ i=>exact qW hs.2 i j hj (by omega)
   | zero=>
    cases l with
    | nil=>simp at hj
    | cons y l'=>
     have h1:hi x < lo y:=by simpa using hs.1.2
     cases j with
     | zero=>exact h1
     | succ j=>
      have h2:=qW hs.2 0 (j+1) hj (by omega);have h3:=xh hs.2 0 (by simp);simp only [GF] at h2 h3;simp only [GF,GG] at h2⊢;omega
def onn (lo hi:α→Int) (r:Int) (x:α):Bool:=decide (lo x≤r) && decide (r≤hi x)
theorem sS {r:Int} {x:α}:onn lo hi r x=true↔lo x≤r∧r≤hi x:=by simp [onn]
theorem CX {T:List α} (hs:sI lo hi T=true) {r:Int} {i j:Nat} (hi':i < T.length) (hj:j < T.length) (h1:onn lo hi r T[i]=true) (h2:onn lo hi r T[j]=true):i=j:=by
 rw [sS] at h1 h2;rcases Ij i j with h | h | h
 ·have:=qW hs i j hj h;omega
 ·exact h
 ·have:=qW hs j i hi' h;omega
def fnd (lo hi:α→Int) (T:List α) (r:Int):Option α:=T.find? (onn lo hi r)
theorem Dk {T:List α} (hs:sI lo hi T=true) {r:Int} {x:α} (hx:x∈T) (h:onn lo hi r x=true):fnd lo hi T r=some x:=by
 unfold fnd;obtain ⟨i,hi',rfl⟩:=List.mem_iff_getElem.1 hx;rw [List.find?_eq_some_iff_getElem];refine ⟨h,i,hi',rfl,fun j hj=>?_⟩
 cases hb:onn lo hi r (T[j]'(by omega)) with
 | false=>rfl
 | true=>exact absurd (CX hs (by omega) hi' hb h) (by omega)
theorem yS {T:List α} {r:Int} (h:∀i (h:i < T.length),onn lo hi r T[i]=false):fnd lo hi T r=none:=by
 unfold fnd;rw [List.find?_eq_none];intro x hx;obtain ⟨i,hi',rfl⟩:=List.mem_iff_getElem.1 hx;simp [h i hi']
theorem xC {T:List α} {r:Int} {x:α} (h:fnd lo hi T r=some x):x∈T∧onn lo hi r x=true:=⟨List.mem_of_find?_eq_some h,List.find?_some h⟩
theorem xD {T:List α} (hs:sI lo hi T=true) {r:Int} {i:Nat} (h1:∀j (h:j < T.length),j < i→hi T[j] < r) (h2:∀j (h:j < T.length),i≤j→r≤hi T[j]):
  fnd lo hi T r=if h:i < T.length then (if lo T[i]≤r then some T[i] else none) else none:=by
 have hno:∀j (h:j < T.length),j≠i→onn lo hi r T[j]=false:=fun j h hne=>by
  cases hb:onn lo hi r T[j] with
  | false=>rfl
  | true=>
   rw [sS] at hb;rcases aO j i with hj | hj
   ·have:=h1 j h hj;omega
   ·have h3:=qW hs i j h (by omega);have h4:=h2 i (by omega) (az _);omega
 split
 ·rename_i hi'
  split
  ·rename_i hl
   exact Dk hs (aG hi') (sS.2 ⟨hl,h2 i hi' (az _)⟩)
  ·rename_i hl
   refine yS fun j h=>?_;by_cases hj:j=i
   ·subst hj
    cases hb:onn lo hi r T[j] with
    | false=>rfl
    | true=>exact absurd (sS.1 hb).1 hl
   ·exact hno j h hj
 ·rename_i hi'
  exact yS fun j h=>hno j h (by omega)
theorem EK {a b:Nat} (h:a+b≤4611686018427387904):w64 ((IntKind.u64.wrap (w64 ((a:Int)+(b:Int)))).fdiv (2 ^ 1))=(((a+b) / 2:Nat):Int):=by
 have e0:w64 ((a:Int)+(b:Int))=((a+b:Nat):Int):=by rw [aF (by omega)]; simp
 have h1:IntKind.u64.wrap ((a+b:Nat):Int)=((a+b:Nat):Int):=by
  have:((a+b:Nat):Int) % 18446744073709551616=((a+b:Nat):Int):=Int.emod_eq_of_lt (by omega) (by omega);simpa [IntKind.wrap,IntKind.bits,IntKind.signed] using this
 have e2:(((a+b:Nat):Int)).fdiv (2 ^ 1)=(((a+b) / 2:Nat):Int):=by
  rw [Int.fdiv_eq_ediv_of_nonneg _ (by decide)];omega
 rw [e0,h1,e2,aF (by omega)]
theorem qX {T:List α} (hs:sI lo hi T=true) (hl:T.length≤1000000) (r:Int) {step:Int×Int→Option (Int×Int ⊕ Int)}
  (h1:∀a b:Nat,(hab:a < b)→(hb:b≤T.length)→step ((a:Int),(b:Int))=some (.inl (if r≤hi (T[(a+b) / 2]'(by omega)) then ((a:Int),(((a+b) / 2:Nat):Int)) else (((((a+b) / 2+1:Nat):Int)),(b:Int)))))
  (h2:∀a:Nat,step ((a:Int),(a:Int))=some (.inr (a:Int))):
  ∃i:Nat,cE (((T.length:Int) - 0).toNat+1) step (0,(T.length:Int))=some (i:Int)∧i≤T.length∧(∀j (h:j < T.length),j < i→hi T[j] < r)∧(∀j (h:j < T.length),i≤j→r≤hi T[j]):=by
 have hmono:∀j k (h:k < T.length),(hjk:j≤k)→hi (T[j]'(by omega))≤hi T[k]:=fun j k h hjk=>by
  rcases aO j k with hlt | hge
  ·have e1:=qW hs j k h hlt;have e2:=xh hs k h;omega
  ·obtain rfl:j=k:=by omega
   exact oY _
 obtain ⟨t,e1,i,e2,e3,e4,e5⟩:=lG (step:=step) (fun q=>∃a b:Nat,q=((a:Int),(b:Int))∧a≤b∧b≤T.length∧(∀j (h:j < T.length),j < a→hi T[j] < r)∧(∀j (h:j < T.length),b≤j→r≤hi T[j]))
  (fun q=>(q.2 - q.1).toNat) (fun t=>∃i:Nat,t=(i:Int)∧i≤T.length∧(∀j (h:j < T.length),j < i→hi T[j] < r)∧(∀j (h:j < T.length),i≤j→r≤hi T[j]))
  (by
   rintro q ⟨a,b,rfl,hab,hb,c1,c2⟩;rcases aO a b with hlt | hge
   ·left
    rw [h1 a b hlt hb];refine ⟨_,rfl,?_⟩;by_cases hr:r≤hi (T[(a+b) / 2]'(by omega))
    ·rw [ae hr];exact ⟨⟨a,(a+b) / 2,rfl,by omega,by omega,c1,fun j h hj=>Int.le_trans hr (hmono _ _ h hj)⟩,by simp only; omega⟩
    ·rw [af hr];refine ⟨⟨(a+b) / 2+1,b,rfl,by omega,hb,fun j h hj=>?_,c2⟩,by simp only; omega⟩;have:=hmono j ((a+b) / 2) (by omega) (by omega);omega
   ·right
    obtain rfl:a=b:=by omega
    exact ⟨_,h2 a,a,rfl,hb,c1,c2⟩)
  (((T.length:Int) - 0).toNat+1) (0,(T.length:Int)) ⟨0,T.length,rfl,cG _,az _,fun j h hj=>by omega,fun j h hj=>by omega⟩ (by simp only; omega)
 subst e2;exact ⟨i,e1,e3,e4,e5⟩
def He (v:Option Int):Int ⊕ Unit:=match v with | some x=> .inl x | none=> .inr ()
theorem C6 {n:Nat} (hn:n≤1000000) {v:Option Int} {step:Int→Option (Int ⊕ (Int ⊕ Unit))}
  (h1:∀k:Nat,k < n→step (k:Int)=if v=some ((k:Int)+1) then some (.inr (.inl ((k:Int)+1))) else some (.inl ((k+1:Nat):Int)))
  (h2:step (n:Int)=some (.inr (.inr ()))) (hv:∀x,v=some x→1≤x∧x≤n):cE (((n:Int) - 0).toNat+1) step 0=some (He v):=by
 refine pi (fun s=>∃k:Nat,s=(k:Int)∧k≤n∧∀j:Nat,j < k→v≠some ((j:Int)+1)) (fun s=>((n:Int) - s).toNat) ?_ ⟨0,rfl,cG _,fun j hj=>by omega⟩ (by omega);rintro s ⟨k,rfl,hk,hno⟩;rcases aO k n with hlt | hge
 ·rw [h1 k hlt];by_cases he:v=some ((k:Int)+1)
  ·rw [ae he]
   right
   subst he;rfl
  ·rw [af he];refine .inl ⟨_,rfl,⟨k+1,rfl,by omega,fun j hj=>?_⟩,by omega⟩;by_cases hjk:j=k
   ·subst hjk; exact he
   ·exact hno j (by omega)
 ·obtain rfl:k=n:=by omega
  rw [h2]
  right
  cases v with
  | none=>rfl
  | some x=>
   obtain ⟨e1,e2⟩:=hv x rfl;exact absurd (show some x=some (((x - 1).toNat:Int)+1) by congr 1; omega) (hno (x - 1).toNat (by omega))
theorem tS {n fuel:Nat} {β:Type} {kk:Int ⊕ Unit→Option β} {rr:Option β} (hn:n≤1000000) {v:Option Int} {step:Int→Option (Int ⊕ (Int ⊕ Unit))}
  (h1:∀k:Nat,k < n→step (k:Int)=if v=some ((k:Int)+1) then some (.inr (.inl ((k:Int)+1))) else some (.inl ((k+1:Nat):Int)))
  (h2:step (n:Int)=some (.inr (.inr ()))) (hv:∀x,v=some x→1≤x∧x≤n) (hf:fuel=((n:Int) - 0).toNat+1) (hk:kk (He v)=rr):(cE fuel step 0).bind kk=rr:=by
 subst hf;rw [C6 hn h1 h2 hv];exact hk
def lk (T:List (Int×Int×Int)) (r:Int):Option Int:=(fnd (fun x=>x.1) (fun x=>x.2.1) T r).map (fun x=>x.2.2)
def wj (l:List (Int×Int)) (r:Int):Bool:=l.any (onn (fun x=>x.1) (fun x=>x.2) r)
def ofv (T:List (Int×Int×Int)) (v:Int):List (Int×Int):=(T.filter (fun x=>x.2.2==v)).map (fun x=>(x.1,x.2.1))
theorem xz {T:List (Int×Int×Int)} (hs:sI (fun x=>x.1) (fun x=>x.2.1) T=true) (v r:Int):wj (ofv T v) r=decide (lk T r=some v):=by
 unfold wj ofv lk;rw [List.any_map,List.any_filter]
 cases hf:fnd (fun x=>x.1) (fun x=>x.2.1) T r with
 | none=>
  simp only [IA,reduceCtorEq,decide_false];rw [Iq];intro x hx;unfold fnd at hf;have:=List.find?_eq_none.1 hf x hx;simp only [Function.comp,aw,yF];intro _;simpa [onn] using this
 | some x=>
  obtain ⟨h1,h2⟩:=xC hf;simp only [fp,aR];by_cases hv:x.2.2=v
  ·rw [vG hv,As];exact ⟨x,h1,by simp only [Function.comp,aw,aV]; exact ⟨hv,h2⟩⟩
  ·rw [decide_eq_false hv,Iq];intro y hy;simp only [Function.comp,aw,aV,yF];intro e
   cases hb:onn (fun x:Int×Int=>x.1) (fun x=>x.2) r (y.1,y.2.1) with
   | false=>simp
   | true=>
    have:=Dk hs hy (show onn (fun x:Int×Int×Int=>x.1) (fun x=>x.2.1) r y=true from hb);rw [hf] at this;cases this;exact absurd e hv
theorem C5 {T:List (Int×Int×Int)} {p:Int→Bool} (h:T.all (fun x=>p x.2.2)=true) {r v:Int} (hv:lk T r=some v):p v=true:=by
 unfold lk at hv;obtain ⟨x,hx,rfl⟩:=Option.map_eq_some_iff.1 hv;exact List.all_eq_true.1 h x (xC hx).1
end Go.Lt
