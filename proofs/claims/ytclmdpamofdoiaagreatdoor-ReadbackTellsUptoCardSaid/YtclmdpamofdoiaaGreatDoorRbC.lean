/- Parts of the proofs of ReadbackTells: the walk through the code, and plain Lean. No condition. -/
import Derived.Test.YtclmdpamofdoiaaGreatDoorRbA
import Derived.Test.YtclmdpamofdoiaaGreatDoorProg
import Derived.Test.YtclmdpamofdoiaaGreatDoorRbB
import Derived.WalkKit
import Derived.LaidEql
import Derived.Stop.Asserts
import Derived.RowKitTokens
import Derived.Elder7
import Derived.OpenShut
import Derived.LaidLaws
import Derived.Handed
import Derived.Lay
import Derived.JoinedOf
import Derived.KernelRfl
set_option linter.unusedVariables false
set_option linter.unusedSimpArgs false
namespace Go.Proofs.YtclmdpamofdoiaaGreatDoor
open Go Go.Lt
set_option maxRecDepth 10000
set_option linter.unusedVariables false
attribute [local irreducible] W WL AC
open Tryz
variable {c0:Cx} {G:Gm} {F:List En} {sg:Sto} {v1 v2 v3 v4 v5 v6 v7 v8 v9 v10 v11 v12 v13 v14 v15 v16 v17 v18 v19 v20 v21 v22 v23 v24 v25 v26 v27 v28 v29 v30 v31 v32 v33 v34 v35 v36 v37 v38 v39 v40 v41 v42 v43 v44 v45 v46 v47 v48 v49 v50 v51 v52 v53 v54 v55 v56 v57 v58 v59 v60:Value}
def jD (sg:Sto) (p0:Option Nat):Option (Sto×(Option Nat)):=
 (orE p0.isNone ((p0).bind fun d=>
 (sg.place_Pen[d]?).bind fun b=>
 some b.G.isNone)).bind fun c=>
 if c=true then
 some (sg,(none:Option Nat))
 else
 (some (sg.add_feed_Feeder (⟨p0,(⟨0,0,0,0,0⟩:aI),(⟨false,0,0,0,false⟩:bb),(none:Option Nat)⟩:aS))).bind fun a=>
 some (a,(some sg.feed_Feeder.length))
theorem nB (t:Own c0 G F) (u:Rel c0 sg G) (k:Option Nat) {r:Sto×(Option Nat)} (n:Pt 2 c0 v1 k) (H:jD sg k=some r): Calls prog 80 #[v1] c0.w (aq c0 fun c v=>∃y1,∃G_:Gm,Own c G_ (F)∧Rel c r.1 G_∧bN G G_∧v=y1∧Pt 4 c y1 r.2):=by
 unfold jD at H;refine en func80 rfl rfl (sr (va (.pointer none) (wln (W.seq (W.seq (bn H fun T h3 H=>W.join (Jn c0 fun c l=>Own c G (F)∧l= [(0,v1),(11,B T)]) ?_ ?_))))))
 ·clear H;refine W.region (va (v1) (vr (B k.isNone) (by rcases (n).cs with ⟨d,e⟩ | ⟨b_,d,e⟩ <;> (subst d; rw [e]; kernel_rfl)) ?_));rcases bo (k.isNone) with h | h
  ·obtain rfl:=orT h h3;exact vb h (pz (pz (ps (va (B true) (wln (jn c0 ⟨t,rfl⟩))))))
  have g:=orF h h3;refine vb h (wa (v1) (wn (bn g fun t0 h8 g=>?_)));obtain ⟨R,rfl,h7⟩:=(n).get h8;refine va (Q R) (wa (Q R) (wn (bn g fun j h9 g=>?_)));obtain ⟨v10,X,U⟩:=Rel.open_place_Pen u h9 h7;refine vx (le1 0 bS (t.gon X 0 rfl)) (wn (vr (B j.G.isNone) (by rcases (U).cs with ⟨d,e⟩ | ⟨b_,d,e⟩ <;> (subst d; rw [e]; kernel_rfl)) ?_));obtain rfl:=si g;exact va (B j.G.isNone) (wln (jn c0 ⟨t,rfl⟩))
 rintro e_ w_ ⟨S,o0,_,rfl,i,rfl,o,rfl⟩;refine nrm (cn H (fun Z H=>?_) (fun Z H=>?_))
 ·refine sr (va (.pointer none) (wln (W.ret (thr ?_))));obtain rfl:=si H;exact r1 (qq S ⟨(.pointer none),G,o,u.m,(bN.refl _),rfl,rfl⟩)
 refine W.skip (nrm (sr (va (v1) ?_)));obtain ⟨f,rfl⟩:=((n.mono i)).form;refine va (.agg #[.pointer f,I 0,I 0,.int .u8 0,.int .u8 0,I 0,B false,I 0,I 0,I 0,B false,.pointer none]) (me (al 184 [.pointer f,I 0,I 0,.int .u8 0,.int .u8 0,I 0,B false,I 0,I 0,I 0,B false,.pointer none] o) ?_);rintro v24 m0 s ⟨a,rfl,A⟩;have D:=A.sD 1 [0];refine bn H fun y a0 H=>?_;obtain ⟨q,z,b0,u0,d0,M,p,q0,f0,N⟩:=Rel.new_feed_Feeder (E:=[(Eb a 184 [.pointer f,I 0,I 0,.int .u8 0,.int .u8 0,I 0,B false,I 0,I 0,I 0,B false,.pointer none])]) (F:=F) (x:=(⟨k,(⟨0,0,0,0,0⟩:aI),(⟨false,0,0,0,false⟩:bb),(none:Option Nat)⟩:aS)) (b:=a) D (u.mono (i.trans s)) (fun c_ hle_=>⟨a,(.pointer f),(.pointer none),rfl,rfl,(n.mono ((i.trans s).trans hle_)),rfl⟩);rw [ai a0] at p;refine WL.gh b0.1 ?_;have s0:=bN.nil (bN.refl _) f0;have P:=(bN.refl _).trans N;have g0:Pt 4 q (Q a) (some sg.feed_Feeder.length):=⟨a,rfl,d0⟩;refine va (Q a) (wln (W.ret ?_));obtain rfl:=si H;exact r1 (qq q ⟨(Q a),z,M,p,P,rfl,g0⟩)
def fu (p0:Int):Option (Int):=
 (orE (decide (p0 < 0)) (some (decide (p0 > 13)))).bind fun a=>
 if a=true then
 some 0
 else
 some p0
theorem jt (d:Own c0 G F) (a:Int) {r:Int} (H:fu a=some r): Calls prog 309 #[I a] c0.w (aq c0 fun c v=>Own c G (F)∧v=I r):=by
 unfold fu at H;refine en func309 rfl rfl (sr (va (I 0) (wln (W.seq (W.seq (bn H fun g h H=>W.join (Jn c0 fun c l=>Own c G (F)∧l= [(0,I a),(8,B g)]) ?_ ?_))))))
 ·clear H;refine W.region (va (I a) (va (B (decide (a < 0))) ?_));rcases bo (decide (a < 0)) with b | b
  ·obtain rfl:=orT b h;exact vb b (pz (va (B true) (wln (jn c0 ⟨d,rfl⟩))))
  have j:=orF b h;refine vb b (wa (I a) (wa (B (decide (a > 13))) ?_));obtain rfl:=si j;exact va (B (decide (a > 13))) (wln (jn c0 ⟨d,rfl⟩))
 rintro k o ⟨f,m,_,rfl,n,rfl,e,rfl⟩;refine nrm (cn H (fun i H=>?_) (fun i H=>?_))
 ·refine sr (va (I 0) (wln (W.ret (thr ?_))));obtain rfl:=si H;exact r1 (qq f ⟨e,rfl⟩)
 refine W.skip (nrm (sr (vv (I a) (wln (W.ret ?_)))));obtain rfl:=si H;exact r1 (qq f ⟨e,rfl⟩)
def eQ (p0:Int):Option (Bool):=
 if (p0==1)=true then
 some true
 else
 if (p0==2)=true then
 some true
 else
 if (p0==3)=true then
 some true
 else
 some false
theorem iV (b:Own c0 G F) (a:Int) {r:Bool} (H:eQ a=some r): Calls prog 310 #[I a] c0.w (aq c0 fun c v=>Own c G (F)∧v=B r):=by
 unfold eQ at H;refine en func310 rfl rfl (sr (va (B false) (wln (W.seq (sr (va (I a) (wln (W.block (W.seq (W.block (W.block (W.block (W.seq (W.seq (sr (vv (B (a==1)) (wln (cn H (fun d H=>?_) (fun d H=>?_)))))))))))))))))))
 ·refine W.exit (thx (thx (bke (bkn (bkn (nrm (W.seq (sr (va (B true) (wln (W.ret (thr (bkr (thr ?_))))))))))))));obtain rfl:=si H;exact r1 (qq c0 ⟨b,rfl⟩)
 refine W.skip (nrm (W.seq (sr (vv (B (a==2)) (wln (cn H (fun e H=>?_) (fun e H=>?_)))))))
 ·refine W.exit (thx (thx (bko rfl (bke (bkn (nrm (W.seq (sr (va (B true) (wln (W.ret (thr (bkr (thr ?_))))))))))))));obtain rfl:=si H;exact r1 (qq c0 ⟨b,rfl⟩)
 refine W.skip (nrm (sr (vv (B (a==3)) (wln (cn H (fun f H=>?_) (fun f H=>?_))))))
 ·refine W.exit (thx (bko rfl (bko rfl (bke (nrm (W.seq (sr (va (B true) (wln (W.ret (thr (bkr (thr ?_)))))))))))));obtain rfl:=si H;exact r1 (qq c0 ⟨b,rfl⟩)
 refine W.skip (nrm (W.exit (bko rfl (bko rfl (bko rfl (thx (bke (nrm (sr (va (B false) (wln (W.ret ?_))))))))))));obtain rfl:=si H;exact r1 (qq c0 ⟨b,rfl⟩)
def fp (p0:Int) (p1:Int):Option (Bool):=
 if (p0==9)=true then
 (orE (p1==9) (some (p1==10))).bind fun a=>
 (orE a (some (p1==12))).bind fun b=>
 (orE b (some (p1==13))).bind fun c=>
 some c
 else
 (if (p0==12)=true then
 some (p0==12)
 else
 some (p0==10)).bind fun e=>
 if e=true then
 (orE (p1==10) (some (p1==11))).bind fun d=>
 some d
 else
 (if (p0==13)=true then
 some (p0==13)
 else
 some (p0==11)).bind fun f=>
 if f=true then
 some (p1==11)
 else
 some false
theorem kz (m:Own c0 G F) (b:Int) (a:Int) {r:Bool} (H:fp b a=some r): Calls prog 311 #[I b,I a] c0.w (aq c0 fun c v=>Own c G (F)∧v=B r):=by
 unfold fp at H;refine en func311 rfl rfl (sr (va (B false) (wln (W.seq (sr (va (I b) (wln (W.block (sr (vv (B (b==9)) (wln (cn H (fun h1 H=>?_) (fun h1 H=>?_)))))))))))))
 ·refine W.seq (bn H fun i0 Z H=>bn H fun j0 A H=>bn H fun x p H=>W.join (Jn c0 fun c l=>Own c G (F)∧l= [(4,B x)]) ?_ ?_)
  ·clear H;refine W.region (va (I a) (va (B (a==9)) ?_));rcases bo (a==9) with n | n
   ·obtain rfl:=orT n Z;refine vb n (pz (va (B true) ?_));have h6:true=true:=rfl;obtain rfl:=orT h6 A;refine vb h6 (pz (va (B true) ?_));have h7:true=true:=rfl;obtain rfl:=orT h7 p;exact vb h7 (pz (vv (B true) (wln (jn c0 ⟨m,rfl⟩))))
   have H8:=orF n Z;refine vb n (wa (I a) (wa (B (a==10)) ?_));obtain rfl:=si H8;refine va (B (a==10)) ?_;rcases bo (a==10) with o | o
   ·obtain rfl:=orT o A;refine vb o (pz (va (B true) ?_));have t:true=true:=rfl;obtain rfl:=orT t p;exact vb t (pz (vv (B true) (wln (jn c0 ⟨m,rfl⟩))))
   have N:=orF o A;refine vb o (wa (I a) (wa (B (a==12)) ?_));obtain rfl:=si N;refine va (B (a==12)) ?_;rcases bo (a==12) with i | i
   ·obtain rfl:=orT i p;exact vb i (pz (vv (B true) (wln (jn c0 ⟨m,rfl⟩))))
   have P:=orF i p;refine vb i (wa (I a) (wa (B (a==13)) ?_));obtain rfl:=si P;exact vv (B (a==13)) (wln (jn c0 ⟨m,rfl⟩))
  rintro z D ⟨U,l0,_,rfl,s0,rfl,S,rfl⟩;refine nrm (W.ret (bkr (thr ?_)));obtain rfl:=si H;exact r1 (qq U ⟨S,rfl⟩)
 refine bn H fun E f d=>W.seqJ (Jn c0 fun c l=>Own c G (F)∧l= [(1,I a),(5,I b),(22,B E)]) ?_ ?_
 ·refine sr (vv (B (b==12)) (wln (cn f (fun a0 f=>?_) (fun a0 f=>?_))))
  ·refine W.skip (nrm ?_);obtain rfl:=si f;exact jn c0 ⟨m,rfl⟩
  refine W.region (vv (B (b==10)) (wln ?_));obtain rfl:=si f;exact jn c0 ⟨m,rfl⟩
 rintro z D ⟨e,m0,_,rfl,t0,rfl,k,rfl⟩;refine cn d (fun b0 d=>?_) (fun b0 d=>?_)
 ·refine W.seq (bn d fun y u d=>W.join (Jn e fun c l=>Own c G (F)∧l= [(4,B y)]) ?_ ?_)
  ·clear d;refine W.region (va (I a) (va (B (a==10)) ?_));rcases bo (a==10) with j | j
   ·obtain rfl:=orT j u;exact vb j (pz (vv (B true) (wln (jn e ⟨k,rfl⟩))))
   have R:=orF j u;refine vb j (wa (I a) (wa (B (a==11)) ?_));obtain rfl:=si R;exact vv (B (a==11)) (wln (jn e ⟨k,rfl⟩))
  rintro z D ⟨X,o0,_,rfl,u0,rfl,T,rfl⟩;refine nrm (W.ret (bkr (thr ?_)));obtain rfl:=si d;exact r1 (qq X ⟨T,rfl⟩)
 refine bn d fun M g h=>W.seqJ (Jn e fun c l=>Own c G (F)∧l= [(1,I a),(31,B M)]) ?_ ?_
 ·refine sr (vv (B (b==13)) (wln (cn g (fun d0 g=>?_) (fun d0 g=>?_))))
  ·refine W.skip (nrm ?_);obtain rfl:=si g;exact jn e ⟨k,rfl⟩
  refine W.region (vv (B (b==11)) (wln ?_));obtain rfl:=si g;exact jn e ⟨k,rfl⟩
 rintro z D ⟨s,q0,_,rfl,v0,rfl,q,rfl⟩;refine cn h (fun e0 h=>?_) (fun e0 h=>?_)
 ·refine sr (va (I a) (vv (B (a==11)) (wln (W.ret (bkr (thr ?_))))));obtain rfl:=si h;exact r1 (qq s ⟨q,rfl⟩)
 refine W.skip (bkn (nrm (sr (va (B false) (wln (W.ret ?_))))));obtain rfl:=si h;exact r1 (qq s ⟨q,rfl⟩)
def ia (p0:Int) (p1:Int):Option (Int):=
 (fu p0).bind fun b=>
 (fu p1).bind fun a=>
 (bY (b==1) (some (a==2))).bind fun e=>
 if e=true then
 some 1
 else
 (eQ b).bind fun i=>
 (orE i ((eQ a).bind fun j=>
 some j)).bind fun f=>
 if f=true then
 some 0
 else
 ((fp b a).bind fun d=>
 if d=true then
 some (d)
 else
 if (a==4)=true then
 some (a==4)
 else
 if (a==5)=true then
 some (a==5)
 else
 if (a==8)=true then
 some (a==8)
 else
 some (b==7)).bind fun k=>
 if k=true then
 some 1
 else
 ((bY (a==0) ((orE (b==5) (some (b==4))).bind fun g=>
 some g)).bind fun c=>
 if c=true then
 some (c)
 else
 (bY (b==6) (some (a==6))).bind fun h=>
 some (h)).bind fun l=>
 if l=true then
 some 2
 else
 some 0
theorem mx (O0:Own c0 G F) (E:Int) (M:Int) {r:Int} (H:ia E M=some r): Calls prog 269 #[I E,I M] c0.w (aq c0 fun c v=>Own c G (F)∧v=I r):=by
 unfold ia at H;refine en func269 rfl rfl (sr (va (I 0) (wln (sr (va (I E) (bn H fun b h1 H=>cl (jt O0 E h1) ?_))))));rintro v7 c6 l6 ⟨O3,rfl⟩;refine va (I M) (bn H fun a h8 H=>cl (jt O3 M h8) ?_);rintro v14 y c2 ⟨N,rfl⟩;refine va (I b) (va (I a) (wln (W.seq (W.block (W.seq (bn H fun g0 a0 H=>W.join (Jn y fun c l=>Own c G (F)∧l= [(0,I b),(1,I a),(9,B g0)]) ?_ ?_))))))
 ·clear H;refine W.region (va (I b) (va (B (b==1)) ?_));rcases bo (b==1) with k | k
  ·have q0:=anT k a0;refine vb k (wa (I a) (wa (B (a==2)) ?_));obtain rfl:=si q0;exact vv (B (a==2)) (wln (jn y ⟨N,rfl⟩))
  obtain rfl:=anF k a0;exact vb k (pz (vv (B false) (wln (jn y ⟨N,rfl⟩))))
 rintro z A ⟨U,v1,_,rfl,d2,rfl,P,rfl⟩;refine nrm (cn H (fun z0 H=>?_) (fun z0 H=>?_))
 ·refine sr (va (I 1) (wln (W.ret (bkr (thr ?_)))));obtain rfl:=si H;exact r1 (qq U ⟨P,rfl⟩)
 refine W.seq (bn H fun k0 a1 H=>bn H fun h0 b0 H=>W.join (Jn U fun c l=>Own c G (F)∧l= [(0,I b),(1,I a),(16,B h0)]) ?_ ?_)
 ·clear H;refine W.region (va (I b) (cl (iV P b a1) ?_));rintro v32 w0 e2 ⟨R,rfl⟩;rcases bo (k0) with m | m
  ·obtain rfl:=orT m b0;exact vb m (pz (vv (B true) (wln (jn w0 ⟨R,rfl⟩))))
  have u:=orF m b0;refine vb m (wa (I a) (wn (bn u fun D b1 u=>cl (iV R a b1) ?_)));rintro v41 x0 f2 ⟨u0,rfl⟩;obtain rfl:=si u;exact vv (B D) (wln (jn x0 ⟨u0,rfl⟩))
 rintro z A ⟨X,w1,_,rfl,g2,rfl,S,rfl⟩;refine nrm (cn H (fun c1 H=>?_) (fun c1 H=>?_))
 ·refine sr (va (I 0) (wln (W.ret (bkr (thr ?_)))));obtain rfl:=si H;exact r1 (qq X ⟨S,rfl⟩)
 refine bn H fun m0 d g=>W.seqJ (Jn X fun c l=>Own c G (F)∧l= [(0,I b),(1,I a),(23,B m0)]) ?_ ?_
 ·refine sr (va (I b) (va (I a) (bn d fun l0 d1 d=>cl (kz S b a d1) ?_)));rintro v57 j h2 ⟨i,rfl⟩;refine va (B l0) (wln (cn d (fun e1 d=>?_) (fun e1 d=>?_)))
  ·refine W.skip (nrm ?_);obtain rfl:=si d;exact jn j ⟨i,rfl⟩
  refine sr (va (I a) (vv (B (a==4)) (wln (cn d (fun f1 d=>?_) (fun f1 d=>?_)))))
  ·refine W.skip (nrm ?_);obtain rfl:=si d;exact jn j ⟨i,rfl⟩
  refine sr (va (I a) (vv (B (a==5)) (wln (cn d (fun g1 d=>?_) (fun g1 d=>?_)))))
  ·refine W.skip (nrm ?_);obtain rfl:=si d;exact jn j ⟨i,rfl⟩
  refine sr (va (I a) (vv (B (a==8)) (wln (cn d (fun i1 d=>?_) (fun i1 d=>?_)))))
  ·refine W.skip (nrm ?_);obtain rfl:=si d;exact jn j ⟨i,rfl⟩
  refine W.region (va (I b) (vv (B (b==7)) (wln ?_)));obtain rfl:=si d;exact jn j ⟨i,rfl⟩
 rintro z A ⟨f,x1,_,rfl,i2,rfl,s,rfl⟩;refine cn g (fun j1 g=>?_) (fun j1 g=>?_)
 ·refine sr (va (I 1) (wln (W.ret (bkr (thr ?_)))));obtain rfl:=si g;exact r1 (qq f ⟨s,rfl⟩)
 refine bn g fun o0 e h=>W.seqJ (Jn f fun c l=>Own c G (F)∧l= [(35,B o0)]) ?_ ?_
 ·refine W.seq (bn e fun i0 d0 e=>W.join (Jn f fun c l=>Own c G (F)∧l= [(0,I b),(1,I a),(35,B i0)]) ?_ ?_)
  ·clear e;refine W.region (va (I a) (va (B (a==0)) ?_));rcases bo (a==0) with n | n
   ·have q:=anT n d0;refine vb n (wa (I b) (wa (B (b==5)) (wn (bn q fun s1 e0 q=>?_))));rcases bo (b==5) with o | o
    ·obtain rfl:=orT o e0;refine vb o (pz (wa (B true) ?_));obtain rfl:=si q;exact vv (B true) (wln (jn f ⟨s,rfl⟩))
    have s0:=orF o e0;refine vb o (wa (I b) (wa (B (b==4)) (wn ?_)));obtain rfl:=si s0;refine va (B (b==4)) ?_;obtain rfl:=si q;exact vv (B (b==4)) (wln (jn f ⟨s,rfl⟩))
   obtain rfl:=anF n d0;exact vb n (pz (pz (pz (vv (B false) (wln (jn f ⟨s,rfl⟩))))))
  rintro z A ⟨t,y1,_,rfl,j2,rfl,x,rfl⟩;refine nrm (cn e (fun k1 e=>?_) (fun k1 e=>?_))
  ·refine W.skip (nrm ?_);obtain rfl:=si e;exact jn t ⟨x,rfl⟩
  refine bn e fun j0 f0 e=>W.join (Jn t fun c l=>Own c G (F)∧l= [(35,B j0)]) ?_ ?_
  ·clear e;refine W.region (va (I b) (va (B (b==6)) ?_));rcases bo (b==6) with p | p
   ·have t0:=anT p f0;refine vb p (wa (I a) (wa (B (a==6)) ?_));obtain rfl:=si t0;exact vv (B (a==6)) (wln (jn t ⟨x,rfl⟩))
   obtain rfl:=anF p f0;exact vb p (pz (vv (B false) (wln (jn t ⟨x,rfl⟩))))
  rintro z A ⟨y0,z1,_,rfl,k2,rfl,v0,rfl⟩;refine nrm ?_;obtain rfl:=si e;exact jn y0 ⟨v0,rfl⟩
 rintro z A ⟨Z,b2,_,rfl,l2,rfl,T,rfl⟩;refine cn h (fun m1 h=>?_) (fun m1 h=>?_)
 ·refine sr (va (I 2) (wln (W.ret (bkr (thr ?_)))));obtain rfl:=si h;exact r1 (qq Z ⟨T,rfl⟩)
 refine W.skip (bkn (nrm (sr (va (I 0) (wln (W.ret ?_))))));obtain rfl:=si h;exact r1 (qq Z ⟨T,rfl⟩)
def bW (p0:bb):Option (bb):=
 if true=true then
 some (⟨false,0,0,0,false⟩:bb)
 else
 some p0
theorem eY {a:Nat} {r0_0:Value} {r0_1:Value} {r0_2:Value} {r0_3:Value} {r0_4:Value} {r0_5:Value} {r0_11:Value} (b:bb) (e:Own c0 G ((Eb a 184 [r0_0,r0_1,r0_2,r0_3,r0_4,r0_5,B b.some,I b.last,I b.pict,I b.conj,B b.odd,r0_11]) :: F)) {r:bb} (H:bW b=some r):
    Calls prog 168 #[.pointer (some ⟨a,6,none⟩)] c0.w (aq c0 fun c v=>Own c G ((Eb a 184 [r0_0,r0_1,r0_2,r0_3,r0_4,r0_5,B r.some,I r.last,I r.pict,I r.conj,B r.odd,r0_11]) :: F)∧v= .tuple #[]):=by
 unfold bW at H
 refine en func168 rfl rfl (sr (va (Qo a 6) (va (B true) (wln (W.cond (t:=true) (by kernel_rfl) (fun d=>?_) (fun d=>?_))))))
 ·have H:=it d H
  refine W.region (va (Qo a 6) (va (.agg #[B false,I 0,I 0,I 0,B false]) (va (Qo a 6) (md (sB 181 6 [B false,I 0,I 0,I 0,B false] [r0_0,r0_1,r0_2,r0_3,r0_4,r0_5,B false,I 0,I 0,I 0,B false,r0_11] 0 e ⟨rfl,rfl,rfl,rfl,rfl,trivial⟩) ?_))))
  rintro g h f
  refine WL.nil ?_
  obtain rfl:=si H
  exact n0 (qq g ⟨f,rfl⟩)
 cases d
def bX (sg:Sto) (p0:Option Nat):Option (Sto):=
 if (!p0.isNone)=true then
 (p0).bind fun c=>
 (sg.feed_Feeder[c]?).bind fun a=>
 (sg.set_feed_Feeder c (⟨a.pen,a.dec,a.seg,(none:Option Nat)⟩:aS)).bind fun d=>
 (bW a.seg).bind fun e=>
 (d.set_feed_Feeder c (⟨a.pen,a.dec,e,(none:Option Nat)⟩:aS)).bind fun b=>
 some b
 else
 some sg
theorem dl (n:Own c0 G F) (i:Rel c0 sg G) (k:Option Nat) {r:Sto} (M:Pt 4 c0 v1 k) (H:bX sg k=some r): Calls prog 109 #[v1] c0.w (aq c0 fun c v=>∃G_:Gm,Own c G_ (F)∧Rel c r G_∧v= .tuple #[]):=by
 unfold bX at H;refine en func109 rfl rfl (sr (va (v1) (vr (B (!k.isNone)) (by rcases (M).cs with ⟨f,g⟩ | ⟨b_,f,g⟩ <;> (subst f; rw [g]; kernel_rfl)) (wln (cn H (fun T H=>?_) (fun T H=>?_))))))
 ·refine sr (va (v1) (bn H fun g0 U H=>?_));obtain ⟨d,rfl,j⟩:=(M).get U;refine va (Q d) (va (Qo d 11) (bn H fun a X H=>?_));obtain ⟨v8,v10,A,R,e0⟩:=Rel.open_feed_Feeder i X j;refine md (gC 182 11 (.pointer none) [v8,I a.dec.held,I a.dec.needs,.int .u8 a.dec.lo,.int .u8 a.dec.hi,I a.dec.bits,B a.seg.some,I a.seg.last,I a.seg.pict,I a.seg.conj,B a.seg.odd,.pointer none] 0 n A ⟨rfl,trivial⟩) ?_;rintro d0 e o;refine bn H fun S E H=>?_;obtain ⟨Z,p,x,D,a0⟩:=Rel.put_feed_Feeder o (i.mono e) (E':=[(Eb d 184 [v8,I a.dec.held,I a.dec.needs,.int .u8 a.dec.lo,.int .u8 a.dec.hi,I a.dec.bits,B a.seg.some,I a.seg.last,I a.seg.pict,I a.seg.conj,B a.seg.odd,.pointer none])]) E ⟨d,v8,(.pointer none),(tm j),rfl,(R.mono e),rfl⟩;refine wln (W.region (vv (Q d) (va (Qo d 6) ?_)));have q:=p.borrow 0 D rfl;refine bn H fun b N H=>cl (eY a.seg q N) ?_;rintro v29 z h ⟨s,rfl⟩;have t:=s.giveB 0 rfl;refine bn H fun l P H=>?_;obtain ⟨m,u,y,f0,b0⟩:=Rel.put_feed_Feeder t (x.mono h) (E':=[(Eb d 184 [v8,I a.dec.held,I a.dec.needs,.int .u8 a.dec.lo,.int .u8 a.dec.hi,I a.dec.bits,B b.some,I b.last,I b.pict,I b.conj,B b.odd,.pointer none])]) P ⟨d,v8,(.pointer none),(tm j),rfl,(R.mono (e.trans h)),rfl⟩;refine WL.nil ?_;obtain rfl:=si H;exact n0 (qq z ⟨m,u,y,rfl⟩)
 refine W.skip ?_;obtain rfl:=si H;exact n0 (qq c0 ⟨G,n,i,rfl⟩)
def bV (p0:bb) (p1:aW):Option (Bool):=
 if (!p0.some)=true then
 some false
 else
 ((bY (p1.Conj==1) (some (p0.conj==2))).bind fun a=>
 if a=true then
 some (a)
 else
 (bY p1.Pict (some (p0.pict==2))).bind fun c=>
 some (c)).bind fun e=>
 if e=true then
 some true
 else
 (ia p0.last p1.Break).bind fun b=>
 if (b==1)=true then
 some true
 else
 if (b==2)=true then
 (bY (p0.last==6) (some p0.odd)).bind fun d=>
 some d
 else
 some false
theorem eX {b:Nat} {r0_0:Value} {r0_1:Value} {r0_2:Value} {r0_3:Value} {r0_4:Value} {r0_5:Value} {r0_11:Value} (a:bb) (e:aW) (O0:Own c0 G ((Eb b 184 [r0_0,r0_1,r0_2,r0_3,r0_4,r0_5,B a.some,I a.last,I a.pict,I a.conj,B a.odd,r0_11]) :: F)) {r:Bool} (H:bV a e=some r): Calls prog 224 #[.pointer (some ⟨b,6,none⟩),.agg #[I e.Break,B e.Pict,I e.Conj,I e.East]] c0.w (aq c0 fun c v=>Own c G ((Eb b 184 [r0_0,r0_1,r0_2,r0_3,r0_4,r0_5,B a.some,I a.last,I a.pict,I a.conj,B a.odd,r0_11]) :: F)∧v=B r):=by
 unfold bV at H;refine en func224 rfl rfl (sr (me (bx 238 [I e.Break,B e.Pict,I e.Conj,I e.East] O0) ?_));rintro v5 s l4 ⟨p,rfl,q,M⟩;refine va (B false) (wln (W.seq (sr (vv (Qo b 6) (va (Qo b 6) (vx (le1 6 u_4 (q.on 0 rfl)) (va (B (!a.some)) (wln (cn H (fun h6 H=>?_) (fun h6 H=>?_))))))))))
 ·refine sr (va (B false) (wln (W.ret (thr ?_))));obtain rfl:=si H;exact r1 (qq s ⟨q,rfl⟩)
 refine W.skip (nrm (W.seq (W.block (bn H fun P f d=>W.seqJ (Jn s fun c l=>Own c G ((Eb b 184 [r0_0,r0_1,r0_2,r0_3,r0_4,r0_5,B a.some,I a.last,I a.pict,I a.conj,B a.odd,r0_11]) :: F)∧l= [(0,.pointer (some ⟨b,6,none⟩)),(3,Q p),(10,B P)]) ?_ ?_))))
 ·refine W.seq (bn f fun z h9 f=>W.join (Jn s fun c l=>Own c G ((Eb b 184 [r0_0,r0_1,r0_2,r0_3,r0_4,r0_5,B a.some,I a.last,I a.pict,I a.conj,B a.odd,r0_11]) :: F)∧l= [(0,.pointer (some ⟨b,6,none⟩)),(3,Q p),(10,B z)]) ?_ ?_)
  ·clear f;refine W.region (va (Qo p (0+2)) (vx (l1 u_3 (M 2 _ rfl)) (va (B (e.Conj==1)) ?_)));rcases bo (e.Conj==1) with j | j
   ·have R:=anT j h9;refine vb j (wa (Qo b 6) (wa (Qo b 6) (wa (Qo b 9) (wn (vx (le1 9 u_3 (q.on 0 rfl)) (wa (B (a.conj==2)) ?_))))));obtain rfl:=si R;exact vv (B (a.conj==2)) (wln (jn s ⟨q,rfl⟩))
   obtain rfl:=anF j h9;exact vb j (pz (pz (ps (vv (B false) (wln (jn s ⟨q,rfl⟩))))))
  rintro E N ⟨o,u0,_,rfl,y0,rfl,n,rfl⟩;refine nrm (cn f (fun e0 f=>?_) (fun e0 f=>?_))
  ·refine W.skip (nrm ?_);obtain rfl:=si f;exact jn o ⟨n,rfl⟩
  refine bn f fun A x f=>W.join (Jn o fun c l=>Own c G ((Eb b 184 [r0_0,r0_1,r0_2,r0_3,r0_4,r0_5,B a.some,I a.last,I a.pict,I a.conj,B a.odd,r0_11]) :: F)∧l= [(0,.pointer (some ⟨b,6,none⟩)),(3,Q p),(10,B A)]) ?_ ?_
  ·clear f;refine W.region (va (Qo p (0+1)) (vx (l1 u_4 ((mm M) 1 _ rfl)) ?_));rcases bo (e.Pict) with k | k
   ·have S:=anT k x;refine vb k (wa (Qo b 6) (wa (Qo b 6) (wa (Qo b 8) (wn (vx (le1 8 u_3 (n.on 0 rfl)) (wa (B (a.pict==2)) ?_))))));obtain rfl:=si S;exact vv (B (a.pict==2)) (wln (jn o ⟨n,rfl⟩))
   obtain rfl:=anF k x;exact vb k (pz (pz (ps (vv (B false) (wln (jn o ⟨n,rfl⟩))))))
  rintro E N ⟨Z,v0,_,rfl,z0,rfl,U,rfl⟩;refine nrm ?_;obtain rfl:=si f;exact jn Z ⟨U,rfl⟩
 rintro E N ⟨a0,w0,_,rfl,a1,rfl,t,rfl⟩;refine cn d (fun f0 d=>?_) (fun f0 d=>?_)
 ·refine sr (va (B true) (wln (W.ret (bkr (thr ?_)))));obtain rfl:=si d;exact r1 (qq a0 ⟨t,rfl⟩)
 refine W.skip (bkn (nrm (W.seq (W.seq (rD [] (Kp G0 [(Eb b 184 [r0_0,r0_1,r0_2,r0_3,r0_4,r0_5,B a.some,I a.last,I a.pict,I a.conj,B a.odd,r0_11])]) t ?_)))));intro b0 c1 u;have l0:Kp G0 [(Eb b 184 [r0_0,r0_1,r0_2,r0_3,r0_4,r0_5,B a.some,I a.last,I a.pict,I a.conj,B a.odd,r0_11])] b0:=(Kp.cons (u.on 0 rfl) Kp.nil0);refine ta 0 (.pointer (some ⟨b,6,none⟩)) (ta 1 (Qo b 6) (ta 2 (Qo b 7) (tkx 3 l0 (fun c' k0 hk=>le1 7 u_3 (hk.on 0 rfl)) (ta 4 (Q p) (tx 5 (fun c' k0=>l1 u_3 ((mm M) 0 _ rfl)) (bn d fun i g0 d=>o1 6 (gc 6 (mx u a.last e.Break g0) ?_)))))));rintro v44 h d1 ⟨g,rfl⟩;have m0:Kp G0 [(Eb b 184 [r0_0,r0_1,r0_2,r0_3,r0_4,r0_5,B a.some,I a.last,I a.pict,I a.conj,B a.odd,r0_11])] h:=(Kp.cons (g.on 0 rfl) Kp.nil0);refine ⟨.inr m0,dn (nrm (W.block (sr (vv (B (i==1)) (wln (cn d (fun h0 d=>?_) (fun h0 d=>?_)))))))⟩
 ·refine sr (va (B true) (wln (W.ret (bkr (thr ?_)))));obtain rfl:=si d;exact r1 (qq h ⟨g,rfl⟩)
 refine sr (vv (B (i==2)) (wln (cn d (fun i0 d=>?_) (fun i0 d=>?_))))
 ·refine W.seq (bn d fun D y d=>W.join (Jn h fun c l=>Own c G ((Eb b 184 [r0_0,r0_1,r0_2,r0_3,r0_4,r0_5,B a.some,I a.last,I a.pict,I a.conj,B a.odd,r0_11]) :: F)∧l= [(4,B D)]) ?_ ?_)
  ·clear d;refine W.region (vv (Qo b 6) (va (Qo b 7) (vx (le1 7 u_3 (g.on 0 rfl)) (va (B (a.last==6)) ?_))));rcases bo (a.last==6) with m | m
   ·have T:=anT m y;refine vb m (wa (Qo b 6) (wa (Qo b 6) (wa (Qo b 10) (wn (vx (le1 10 u_4 (g.on 0 rfl)) ?_)))));obtain rfl:=si T;exact vv (B a.odd) (wln (jn h ⟨g,rfl⟩))
   obtain rfl:=anF m y;exact vb m (pz (pz (vv (B false) (wln (jn h ⟨g,rfl⟩)))))
  rintro E N ⟨d0,x0,_,rfl,e1,rfl,X,rfl⟩;refine nrm (W.ret (bkr (thr ?_)));obtain rfl:=si d;exact r1 (qq d0 ⟨X,rfl⟩)
 refine W.skip (bkn (nrm (sr (va (B false) (wln (W.ret ?_))))));obtain rfl:=si d;exact r1 (qq h ⟨g,rfl⟩)
def bM (p0:bb) (p1:aW):Option (Int):=
 if p1.Pict=true then
 some 1
 else
 (bY (p0.pict==1) (some (p1.Break==4))).bind fun a=>
 if a=true then
 some 1
 else
 (bY (p0.pict==1) (some (p1.Break==5))).bind fun b=>
 if b=true then
 some 2
 else
 some 0
theorem eG {b:Nat} {r0_0:Value} {r0_1:Value} {r0_2:Value} {r0_3:Value} {r0_4:Value} {r0_5:Value} {r0_11:Value} (a:bb) (d:aW) (A:Own c0 G ((Eb b 184 [r0_0,r0_1,r0_2,r0_3,r0_4,r0_5,B a.some,I a.last,I a.pict,I a.conj,B a.odd,r0_11]) :: F)) {r:Int} (H:bM a d=some r): Calls prog 225 #[.pointer (some ⟨b,6,none⟩),.agg #[I d.Break,B d.Pict,I d.Conj,I d.East]] c0.w (aq c0 fun c v=>Own c G ((Eb b 184 [r0_0,r0_1,r0_2,r0_3,r0_4,r0_5,B a.some,I a.last,I a.pict,I a.conj,B a.odd,r0_11]) :: F)∧v=I r):=by
 unfold bM at H;refine en func225 rfl rfl (sr (me (bx 238 [I d.Break,B d.Pict,I d.Conj,I d.East] A) ?_));rintro v5 k T ⟨j,rfl,i,s⟩;refine va (I 0) (wln (W.seq (W.block (sr (va (Qo j (0+1)) (vx (l1 u_4 (s 1 _ rfl)) (va (B d.Pict) (wln (cn H (fun E H=>?_) (fun E H=>?_))))))))))
 ·refine sr (va (I 1) (wln (W.ret (bkr (thr ?_)))));obtain rfl:=si H;exact r1 (qq k ⟨i,rfl⟩)
 refine W.seq (bn H fun p y H=>W.join (Jn k fun c l=>Own c G ((Eb b 184 [r0_0,r0_1,r0_2,r0_3,r0_4,r0_5,B a.some,I a.last,I a.pict,I a.conj,B a.odd,r0_11]) :: F)∧l= [(0,.pointer (some ⟨b,6,none⟩)),(3,Q j),(8,B p)]) ?_ ?_)
 ·clear H;refine W.region (vv (Qo b 6) (va (Qo b 8) (vx (le1 8 u_3 (i.on 0 rfl)) (va (B (a.pict==1)) ?_))));rcases bo (a.pict==1) with h | h
  ·have z:=anT h y;refine vb h (wa (Q j) (wn (vx (l1 u_3 (s 0 _ rfl)) (wa (B (d.Break==4)) ?_))));obtain rfl:=si z;exact vv (B (d.Break==4)) (wln (jn k ⟨i,rfl⟩))
  obtain rfl:=anF h y;exact vb h (pz (ps (vv (B false) (wln (jn k ⟨i,rfl⟩)))))
 rintro D M ⟨g,N,_,rfl,R,rfl,f,rfl⟩;refine nrm (cn H (fun u H=>?_) (fun u H=>?_))
 ·refine sr (va (I 1) (wln (W.ret (bkr (thr ?_)))));obtain rfl:=si H;exact r1 (qq g ⟨f,rfl⟩)
 refine W.seq (bn H fun q o H=>W.join (Jn g fun c l=>Own c G ((Eb b 184 [r0_0,r0_1,r0_2,r0_3,r0_4,r0_5,B a.some,I a.last,I a.pict,I a.conj,B a.odd,r0_11]) :: F)∧l= [(19,B q)]) ?_ ?_)
 ·clear H;refine W.region (vv (Qo b 6) (va (Qo b 8) (vx (le1 8 u_3 (f.on 0 rfl)) (va (B (a.pict==1)) ?_))));rcases bo (a.pict==1) with e | e
  ·have t:=anT e o;refine vb e (wa (Q j) (wn (vx (l1 u_3 ((mm s) 0 _ rfl)) (wa (B (d.Break==5)) ?_))));obtain rfl:=si t;exact vv (B (d.Break==5)) (wln (jn g ⟨f,rfl⟩))
  obtain rfl:=anF e o;exact vb e (pz (ps (vv (B false) (wln (jn g ⟨f,rfl⟩)))))
 rintro D M ⟨n,P,_,rfl,S,rfl,m,rfl⟩;refine nrm (cn H (fun x H=>?_) (fun x H=>?_))
 ·refine sr (va (I 2) (wln (W.ret (bkr (thr ?_)))));obtain rfl:=si H;exact r1 (qq n ⟨m,rfl⟩)
 refine W.skip (bkn (nrm (sr (va (I 0) (wln (W.ret ?_))))));obtain rfl:=si H;exact r1 (qq n ⟨m,rfl⟩)
def bG (p0:bb) (p1:aW):Option (Int):=
 if (p1.Conj==1)=true then
 some 1
 else
 if (p0.conj==0)=true then
 some 0
 else
 if (p1.Conj==2)=true then
 some 2
 else
 if (p1.Conj==3)=true then
 some p0.conj
 else
 some 0
theorem er {b:Nat} {r0_0:Value} {r0_1:Value} {r0_2:Value} {r0_3:Value} {r0_4:Value} {r0_5:Value} {r0_11:Value} (d:bb) (a:aW) (i:Own c0 G ((Eb b 184 [r0_0,r0_1,r0_2,r0_3,r0_4,r0_5,B d.some,I d.last,I d.pict,I d.conj,B d.odd,r0_11]) :: F)) {r:Int} (H:bG d a=some r): Calls prog 226 #[.pointer (some ⟨b,6,none⟩),.agg #[I a.Break,B a.Pict,I a.Conj,I a.East]] c0.w (aq c0 fun c v=>Own c G ((Eb b 184 [r0_0,r0_1,r0_2,r0_3,r0_4,r0_5,B d.some,I d.last,I d.pict,I d.conj,B d.odd,r0_11]) :: F)∧v=I r):=by
 unfold bG at H;refine en func226 rfl rfl (sr (me (bx 238 [I a.Break,B a.Pict,I a.Conj,I a.East] i) ?_));rintro v5 f n ⟨g,rfl,e,h⟩;refine va (I 0) (wln (W.seq (W.block (sr (va (Qo g (0+2)) (vx (l1 u_3 (h 2 _ rfl)) (vv (B (a.Conj==1)) (wln (cn H (fun j H=>?_) (fun j H=>?_))))))))))
 ·refine sr (va (I 1) (wln (W.ret (bkr (thr ?_)))));obtain rfl:=si H;exact r1 (qq f ⟨e,rfl⟩)
 refine sr (vv (Qo b 6) (va (Qo b 9) (vx (le1 9 u_3 (e.on 0 rfl)) (vv (B (d.conj==0)) (wln (cn H (fun k H=>?_) (fun k H=>?_)))))))
 ·refine sr (va (I 0) (wln (W.ret (bkr (thr ?_)))));obtain rfl:=si H;exact r1 (qq f ⟨e,rfl⟩)
 refine sr (va (Qo g (0+2)) (vx (l1 u_3 (h 2 _ rfl)) (vv (B (a.Conj==2)) (wln (cn H (fun l H=>?_) (fun l H=>?_))))))
 ·refine sr (va (I 2) (wln (W.ret (bkr (thr ?_)))));obtain rfl:=si H;exact r1 (qq f ⟨e,rfl⟩)
 refine sr (va (Qo g (0+2)) (vx (l1 u_3 (h 2 _ rfl)) (vv (B (a.Conj==3)) (wln (cn H (fun m H=>?_) (fun m H=>?_))))))
 ·refine sr (vv (Qo b 6) (va (Qo b 9) (vx (le1 9 u_3 (e.on 0 rfl)) (va (I d.conj) (wln (W.ret (bkr (thr ?_))))))));obtain rfl:=si H;exact r1 (qq f ⟨e,rfl⟩)
 refine W.skip (bkn (nrm (sr (va (I 0) (wln (W.ret ?_))))));obtain rfl:=si H;exact r1 (qq f ⟨e,rfl⟩)
def ce (p0:bb) (p1:aW):Option (bb×Bool):=
 if false=true then
 some (p0,false)
 else
 (bV p0 p1).bind fun d=>
 (bM p0 p1).bind fun e=>
 (bG p0 p1).bind fun f=>
 (bY (p1.Break==6) ((bY p0.some (some (p0.last==6))).bind fun b=>
 (bY b (some p0.odd)).bind fun c=>
 some (!c))).bind fun a=>
 some ((⟨true,p1.Break,e,f,a⟩:bb),d)
theorem fd {a:Nat} {r0_0:Value} {r0_1:Value} {r0_2:Value} {r0_3:Value} {r0_4:Value} {r0_5:Value} {r0_11:Value} (b:bb) (f:aW) (O0:Own c0 G ((Eb a 184 [r0_0,r0_1,r0_2,r0_3,r0_4,r0_5,B b.some,I b.last,I b.pict,I b.conj,B b.odd,r0_11]) :: F)) {r:bb×Bool} (H:ce b f=some r): Calls prog 173 #[.pointer (some ⟨a,6,none⟩),.agg #[I f.Break,B f.Pict,I f.Conj,I f.East]] c0.w (aq c0 fun c v=>Own c G ((Eb a 184 [r0_0,r0_1,r0_2,r0_3,r0_4,r0_5,B r.1.some,I r.1.last,I r.1.pict,I r.1.conj,B r.1.odd,r0_11]) :: F)∧v=B r.2):=by
 unfold ce at H;refine en func173 rfl rfl (sr (me (bx 238 [I f.Break,B f.Pict,I f.Conj,I f.East] O0) ?_));rintro v5 c4 l4 ⟨A,rfl,O2,o⟩;refine va (B false) (wln (W.seq (sr (va (Qo a 6) (va (B false) (wln (W.cond (t:=false) (by kernel_rfl) (fun E=>?_) (fun E=>?_))))))))
 ·cases E
 have H:=ie E H;refine W.skip (nrm (sr (va (Qo a 6) (vx (lN 238 o) (bn H fun i h8 H=>cl (eX b f O2 h8) ?_)))));rintro v14 j1 n1 ⟨P,rfl⟩;refine va (B i) (wln (W.seq (rD [] (Kp G0 []) P ?_)));intro i0 q1 R;have f2:Kp G0 [] i0:=Kp.nil0;refine ta 0 (.pointer (some ⟨a,6,none⟩)) (ta 1 (Qo a 6) (ta 2 (Qo a 6) (tx 3 (fun c' z=>lN 238 (mm o)) (ta 5 (Qo a 6) (tx 6 (fun c' z=>lN 238 (mm o)) (bn H fun d v0 H=>o1 4 (gc 4 (eG b f R v0) ?_)))))));rintro v25 j0 s1 ⟨S,rfl⟩;have y0:Kp G0 [] j0:=Kp.nil0;refine ⟨.inr y0,bn H fun e w0 H=>o1 7 (gc 7 (er b f S w0) ?_)⟩;rintro v34 k0 t1 ⟨T,rfl⟩;have z0:Kp G0 [] k0:=Kp.nil0;refine ⟨.inr z0,ta 8 (.pointer (some ⟨a,6,none⟩)) (ta 9 (Qo a 8) (o1 10 (gD 10 (sC 3 8 (I d) [r0_0,r0_1,r0_2,r0_3,r0_4,r0_5,B b.some,I b.last,I d,I b.conj,B b.odd,r0_11] 0 T ⟨rfl,trivial⟩) ?_)))⟩;rintro l0 u1 U;have a1:Kp G0 [] l0:=Kp.nil0;refine ⟨.inr a1,ta 11 (.pointer (some ⟨a,6,none⟩)) (ta 12 (Qo a 9) (o1 13 (gD 13 (sC 3 9 (I e) [r0_0,r0_1,r0_2,r0_3,r0_4,r0_5,B b.some,I b.last,I d,I e,B b.odd,r0_11] 0 U ⟨rfl,trivial⟩) ?_)))⟩;rintro p v1 h;have c1:Kp G0 [] p:=Kp.nil0;refine ⟨.inr c1,dn (nrm (W.seq (bn H fun n s H=>W.join (Jn p fun c l=>Own c G ((Eb a 184 [r0_0,r0_1,r0_2,r0_3,r0_4,r0_5,B b.some,I b.last,I d,I e,B n,r0_11]) :: F)∧l= [(0,.pointer (some ⟨a,6,none⟩)),(3,Q A),(5,B i)]) ?_ ?_)))⟩
 ·clear H;refine W.region (va (Qo a 6) (va (Q A) (vx (l1 u_3 ((mm o) 0 _ rfl)) (va (B (f.Break==6)) ?_))));rcases bo (f.Break==6) with j | j
  ·have g:=anT j s;refine vb j (wa (Qo a 6) (wa (Qo a 6) (wa (Qo a 6) (wn (vx (le1 6 u_4 (h.on 0 rfl)) (wn (bn g fun h1 u g=>?_)))))));rcases bo (b.some) with k | k
   ·have M:=anT k u;refine vb k (wa (Qo a 6) (wa (Qo a 6) (wa (Qo a 7) (wn (vx (le1 7 u_3 (h.on 0 rfl)) (wa (B (b.last==6)) (wn ?_)))))));obtain rfl:=si M;refine va (B (b.last==6)) (wn (bn g fun D x g=>?_));rcases bo (b.last==6) with m | m
    ·have N:=anT m x;refine vb m (wa (Qo a 6) (wa (Qo a 6) (wa (Qo a 10) (wn (vx (le1 10 u_4 (h.on 0 rfl)) (wn ?_))))));obtain rfl:=si N;refine va (B b.odd) (wa (B (!b.odd)) ?_);obtain rfl:=si g;refine va (B (!b.odd)) (va (Qo a 6) (va (Qo a 10) (md (sC 4 10 (B (!b.odd)) [r0_0,r0_1,r0_2,r0_3,r0_4,r0_5,B b.some,I b.last,I d,I e,B (!b.odd),r0_11] 0 h ⟨rfl,trivial⟩) ?_)));rintro m0 w1 X;exact wln (jn m0 ⟨X,rfl⟩)
    obtain rfl:=anF m x;refine vb m (pz (pz (wa (B false) (wa (B (!false)) ?_))));obtain rfl:=si g;refine va (B (!false)) (va (Qo a 6) (va (Qo a 10) (md (sC 4 10 (B (!false)) [r0_0,r0_1,r0_2,r0_3,r0_4,r0_5,B b.some,I b.last,I d,I e,B (!false),r0_11] 0 h ⟨rfl,trivial⟩) ?_)));rintro o0 x1 Z;exact wln (jn o0 ⟨Z,rfl⟩)
   obtain rfl:=anF k u;refine vb k (pz (pz (ps (wa (B false) (wn (bn g fun D x0 g=>?_))))));have y:false=false:=rfl;obtain rfl:=anF y x0;refine vb y (pz (pz (wa (B false) (wa (B (!false)) ?_))));obtain rfl:=si g;refine va (B (!false)) (va (Qo a 6) (va (Qo a 10) (md (sC 4 10 (B (!false)) [r0_0,r0_1,r0_2,r0_3,r0_4,r0_5,B b.some,I b.last,I d,I e,B (!false),r0_11] 0 h ⟨rfl,trivial⟩) ?_)));rintro q0 y1 a0;exact wln (jn q0 ⟨a0,rfl⟩)
  obtain rfl:=anF j s;refine vb j (pz (pz (pz (pz (pz (pz (pz (pz (pz (va (B false) (va (Qo a 6) (va (Qo a 10) (md (sC 4 10 (B false) [r0_0,r0_1,r0_2,r0_3,r0_4,r0_5,B b.some,I b.last,I d,I e,B false,r0_11] 0 h ⟨rfl,trivial⟩) ?_)))))))))))));rintro s0 z1 b0;exact wln (jn s0 ⟨b0,rfl⟩)
 rintro e_ w_ ⟨k1,m1,_,rfl,b2,rfl,d0,rfl⟩;refine nrm (W.seq (rD [] (Kp G0 []) d0 ?_));intro t0 c2 e0;have g2:Kp G0 [] t0:=Kp.nil0;refine ta 0 (.pointer (some ⟨a,6,none⟩)) (ta 1 (Qo a 6) (ta 2 (Q A) (tx 3 (fun c' z=>l1 u_3 ((mm o) 0 _ rfl)) (ta 4 (Qo a 6) (ta 5 (Qo a 6) (o1 6 (gD 6 (sC 4 6 (B true) [r0_0,r0_1,r0_2,r0_3,r0_4,r0_5,B true,I b.last,I d,I e,B n,r0_11] 0 e0 ⟨rfl,trivial⟩) ?_)))))));rintro u0 d2 f0;have d1:Kp G0 [] u0:=Kp.nil0;refine ⟨.inr d1,ta 7 (.pointer (some ⟨a,6,none⟩)) (ta 8 (Qo a 7) (o1 9 (gD 9 (sC 3 7 (I f.Break) [r0_0,r0_1,r0_2,r0_3,r0_4,r0_5,B true,I f.Break,I d,I e,B n,r0_11] 0 f0 ⟨rfl,trivial⟩) ?_)))⟩;rintro q e2 g0;have e1:Kp G0 [] q:=Kp.nil0;refine ⟨.inr e1,dn (nrm (sr (vv (B i) (wln (W.ret ?_)))))⟩;obtain rfl:=si H;exact r1 (qq q ⟨g0,rfl⟩)
def ei (sg:Sto) (p0:Option Nat) (p1:Int):Option (Sto):=
 (eU p1).bind fun s=>
 if s=true then
 (bX sg p0).bind fun k=>
 (p0).bind fun r=>
 (k.feed_Feeder[r]?).bind fun n=>
 (kp k n.pen p1).bind fun p=>
 some p.1
 else
 (lk p1).bind fun e=>
 (p0).bind fun h=>
 (sg.feed_Feeder[h]?).bind fun a=>
 (ce a.seg e).bind fun j=>
 (sg.set_feed_Feeder h (⟨a.pen,a.dec,j.1,a.open_⟩:aS)).bind fun b=>
 (bY j.2 (some (!a.open_.isNone))).bind fun l=>
 if l=true then
 (p0).bind fun m=>
 (b.feed_Feeder[m]?).bind fun i=>
 (dR b i.open_ i.pen p1 e).bind fun q=>
 some q.1
 else
 (p0).bind fun c=>
 (b.feed_Feeder[c]?).bind fun o=>
 (gt b o.pen p1 e).bind fun f=>
 (f.1.feed_Feeder[c]?).bind fun d=>
 (f.1.set_feed_Feeder c (⟨d.pen,d.dec,d.seg,f.2⟩:aS)).bind fun g=>
 some g
theorem jk (O0:Own c0 G F) (R0:Rel c0 sg G) (hG:Gl [2,4] c0) (p0:Option Nat) (f:Int) {r:Sto} (U:Pt 4 c0 v1 p0) (H:ei sg p0 f=some r): Calls prog 221 #[v1,J f] c0.w (aq c0 fun c v=>∃G_:Gm,Own c G_ (F)∧Rel c r G_∧v= .tuple #[]):=by
 unfold ei at H;refine en func221 rfl rfl (W.seq (sr (va (J f) (bn H fun f5 h3 H=>cl (jb O0 f h3) ?_))));rintro v9 c8 N ⟨O5,rfl⟩;refine wln (cn H (fun x2 H=>?_) (fun x2 H=>?_))
 ·refine sr (va (v1) (bn H fun g5 y2 H=>cl (dl O5 R0.m p0 U.m y2) ?_));rintro v17 u4 l16 ⟨s4,g0,j0,rfl⟩;refine wln (sr (va (v1) (bn H fun a5 a3 H=>?_)));obtain ⟨l0,rfl,z2⟩:=((U.mono (N.trans l16))).get a3;refine vv (Q l0) (bn H fun z1 b3 H=>?_);obtain ⟨v22,v24,d3,c3,z4⟩:=Rel.open_feed_Feeder j0 b3 z2;refine vx (le1 0 kE (g0.gon d3 0 rfl)) (va (J f) (bn H fun p4 e3 H=>cl (oB g0 j0 z1.pen f c3 e3) ?_));rintro v33 t2 b5 ⟨e2,i2,s2,rfl⟩;refine wln (W.ret (thr ?_));obtain rfl:=si H;exact r0 (qq t2 ⟨e2,i2,s2,rfl⟩)
 refine W.skip (nrm (sr (va (J f) (bn H fun a f3 H=>cl (pm O5 f f3) ?_))));rintro v40 v4 s ⟨j2,rfl⟩;refine me (al 238 [I 0,B false,I 0,I 0] j2) ?_;rintro v44 w4 t ⟨h,rfl,k2⟩;refine md (sA 238 [I a.Break,B a.Pict,I a.Conj,I a.East] 0 k2 ⟨rfl,rfl,rfl,rfl,trivial⟩) ?_;rintro u2 u l2;refine wln (W.seq (W.seq (bn H fun f4 g3 H=>bn H fun d i3 H=>bn H fun g j3 H=>bn H fun P k3 H=>bn H fun k1 s0 H=>W.join (Jn u2 fun c l=>∃G_,Own c G_ ((Eb h 238 [I a.Break,B a.Pict,I a.Conj,I a.East]) :: F)∧l= [(0,v1),(1,J f),(4,Q h),(28,B k1)]∧Rel c P G_) ?_ ?_)))
 ·clear H;refine rD [4,9] (Kp G0 [(Eb h 238 [I a.Break,B a.Pict,I a.Conj,I a.East])]) l2 ?_;intro v2 Z h0;have w3:Kp G0 [(Eb h 238 [I a.Break,B a.Pict,I a.Conj,I a.East])] v2:=(Kp.cons (h0.on 0 rfl) Kp.nil0);refine ta 0 (v1) ?_;obtain ⟨j,rfl,t0⟩:=((U.mono (N.trans (s.trans (t.trans (u.trans Z)))))).get g3;refine ta 1 (Q j) (ta 2 (Qo j 6) (tkx 3 w3 (fun p i k=>leN 238 0 [I a.Break,B a.Pict,I a.Conj,I a.East] (k.on 0 rfl)) ?_));obtain ⟨v57,v59,m3,l3,u0⟩:=Rel.open_feed_Feeder (R0.mono (N.trans (s.trans (t.trans (u.trans Z))))) i3 t0;have n2:=h0.borrow 0 m3 rfl;refine o1 4 (gc 4 (fd d.seg a n2 j3) ?_);rintro c5 m0 a0 ⟨o2,rfl⟩;have p2:=o2.giveB 0 rfl;obtain ⟨f0,R,k0,n3,t4⟩:=Rel.put_feed_Feeder p2 (R0.mono (N.trans (s.trans (t.trans (u.trans (Z.trans a0)))))) (E':=[(Eb j 184 [v57,I d.dec.held,I d.dec.needs,.int .u8 d.dec.lo,.int .u8 d.dec.hi,I d.dec.bits,B g.1.some,I g.1.last,I g.1.pict,I g.1.conj,B g.1.odd,v59])]) k3 ⟨j,v57,v59,(tm t0),rfl,(l3.mono a0),(u0.mono a0)⟩;refine ⟨.inl rfl,?_⟩;rcases bo (g.2) with q | q
  ·have g2:=anT q s0;refine AC.takeb 5 q rfl (by kernel_rfl) (by kernel_rfl) (fun p i=>(by kernel_rfl)) (ta 6 (Q j) (ta 7 (Q j) (ta 8 (Qo j 11) (o1 9 (gl 9 (le1 11 underlying182 (R.gon n3 0 rfl)) (AC.take 10 (B (!d.open_.isNone)) rfl (by kernel_rfl) (by kernel_rfl) (fun p i=>(by rcases u0.m.cs with ⟨o0,q0⟩ | ⟨b_,o0,q0⟩ <;> (subst o0; rw [q0]; kernel_rfl))) ?_))))));obtain rfl:=si g2;exact ta 11 (B (!d.open_.isNone)) (dn (nrm (jn m0 ⟨f0,R,rfl,k0⟩)))
  obtain rfl:=anF q s0;exact AC.takeb 5 q rfl (by kernel_rfl) (by kernel_rfl) (fun p i=>(by kernel_rfl)) (tp 6 (tp 7 (tp 8 (tp 9 (tp 10 (ta 11 (B false) (dn (nrm (jn m0 ⟨f0,R,rfl,k0⟩)))))))))
 rintro e_ w_ ⟨x4,y4,_,rfl,w0,rfl,E,i0,rfl,M⟩;refine nrm (cn H (fun o3 H=>?_) (fun o3 H=>?_))
 ·refine W.seq (rD [10] (Kp E [(Eb h 238 [I a.Break,B a.Pict,I a.Conj,I a.East])]) i0 ?_);intro w2 x0 S;have e0:Kp E [(Eb h 238 [I a.Break,B a.Pict,I a.Conj,I a.East])] w2:=(Kp.cons (S.on 0 rfl) (Kp.nil S));refine ta 0 (v1) (bn H fun g4 q3 H=>?_);obtain ⟨o,rfl,p3⟩:=((U.mono (N.trans (s.trans (t.trans (u.trans (w0.trans x0))))))).get q3;refine ta 1 (Q o) (ta 2 (Qo o 11) (bn H fun b0 s3 H=>?_));obtain ⟨d5,e5,v0,t3,u3⟩:=Rel.open_feed_Feeder (M.mono x0) s3 p3;refine tkx 3 e0 (fun p i k=>le1 11 underlying182 (k.gon v0 0 rfl)) (ta 4 (Q o) (ta 5 (Q o) (ta 6 (Q o) (tkx 7 e0 (fun p i k=>le1 0 kE (k.gon v0 0 rfl)) (ta 8 (J f) (tkx 9 e0 (fun p i k=>leN 238 0 [I a.Break,B a.Pict,I a.Conj,I a.East] (k.on 0 rfl)) (bn H fun q4 v3 H=>o1 10 (gc 10 (iR S M.m (hG.m.le (by decide)) b0.open_ b0.pen f a u3 t3 v3) ?_))))))));rintro k4 h1 i4 ⟨f2,q2,f1,rfl⟩;refine ⟨.inl rfl,dn (nrm (W.ret (thr ?_)))⟩;obtain rfl:=si H;have z0:=q2.sD 1 [];exact r0 (qq h1 ⟨f2,z0,f1,rfl⟩)
 refine W.skip (nrm (rD [7,10] (Kp E [(Eb h 238 [I a.Break,B a.Pict,I a.Conj,I a.East])]) i0 ?_));intro i1 X x;have d0:Kp E [(Eb h 238 [I a.Break,B a.Pict,I a.Conj,I a.East])] i1:=(Kp.cons (x.on 0 rfl) (Kp.nil x));refine ta 0 (v1) (ta 1 (v1) (bn H fun h4 m1 H=>?_));obtain ⟨e,rfl,y⟩:=((U.mono (N.trans (s.trans (t.trans (u.trans (w0.trans X))))))).get m1;refine ta 2 (Q e) (ta 3 (Q e) (bn H fun b2 n1 H=>?_));obtain ⟨l4,m4,s1,q1,b4⟩:=Rel.open_feed_Feeder (M.mono X) n1 y;refine tkx 4 d0 (fun p i k=>le1 0 kE (k.gon s1 0 rfl)) (ta 5 (J f) (tkx 6 d0 (fun p i k=>leN 238 0 [I a.Break,B a.Pict,I a.Conj,I a.East] (k.on 0 rfl)) (bn H fun r4 t1 H=>o1 7 (gc 7 (lL x M.m (hG.m.le (by decide)) b2.pen f a q1 t1) ?_))));rintro n4 a4 j4 ⟨_,x3,a1,T,rfl,z⟩;refine ⟨.inl rfl,ta 8 (Q e) (ta 9 (Qo e 11) ?_)⟩;obtain ⟨n,rfl⟩:=(z).form;refine bn H fun b u1 H=>?_;obtain ⟨D,o4,x1,w1,c4⟩:=Rel.open_feed_Feeder T u1 (tm y);refine o1 10 (gD 10 (gC 182 11 (.pointer n) [D,I b.dec.held,I b.dec.needs,.int .u8 b.dec.lo,.int .u8 b.dec.hi,I b.dec.bits,B b.seg.some,I b.seg.last,I b.seg.pict,I b.seg.conj,B b.seg.odd,.pointer n] 0 a1 x1 ⟨z.one,trivial⟩) ?_);rintro j1 A b1;refine bn H fun d2 y1 H=>?_;obtain ⟨y0,c1,g1,d4,z3⟩:=Rel.put_feed_Feeder b1 (T.mono A) (E':=[(Eb e 184 [D,I b.dec.held,I b.dec.needs,.int .u8 b.dec.lo,.int .u8 b.dec.hi,I b.dec.bits,B b.seg.some,I b.seg.last,I b.seg.pict,I b.seg.conj,B b.seg.odd,.pointer n])]) y1 ⟨e,D,(.pointer n),(tm y),rfl,(w1.mono A),(z.mono A)⟩;refine ⟨.inl rfl,dn ?_⟩;obtain rfl:=si H;have d1:=c1.sD 1 [];exact n0 (qq j1 ⟨y0,d1,g1,rfl⟩)
def dP (sg:Sto) (p0:Option Nat) (p1:List Int):Option (Sto):=
 (cp (σ:=Int×Sto) (τ:=Sto) (((p1.length:Int) - 0).toNat+1) (fun a=>
 if (decide (a.1 < (p1.length:Int)))=true then
 (idx p1 a.1).bind fun d=>
 (ei a.2 p0 d).bind fun b=>
 some (.inl ((w64 (a.1+1)),b))
 else
 some (.inr (a.2))) (0,sg)).bind fun c=>
 some c
theorem gq (S:Own c0 G F) (T:Rel c0 sg G) (hG:Gl [2,4] c0) (j:Option Nat) (d:List Int) {r:Sto} (Z:Pt 4 c0 v1 j) (h:Sl (RI .i32) c0 v3 d) (H:dP sg j d=some r): Calls prog 165 #[v1,v3] c0.w (aq c0 fun c v=>∃G_:Gm,Own c G_ (F)∧Rel c r G_∧v= .tuple #[]):=by
 unfold dP at H;refine en func165 rfl rfl (sr (va (v3) (vx (ln 3 bQ h) (va (I 0) (wln (W.block (bn H fun i0 N p=>lp N (fun a=>Jn c0 fun c l=>∃G_,Own c G_ (F)∧l= [(0,v1),(6,v3),(7,I (d.length:Int)),(8,I a.1)]∧Rel c a.2 G_) (fun i ex e w=>ex= .exit 0∧(Jn c0 fun c l=>∃G_,Own c G_ (F)∧l= []∧Rel c i G_) e w) ?_ ?_ ?_)))))))
 ·clear p N;intro a j0 A R H;revert A R;rintro X w_ ⟨U,g8,_,rfl,l7,rfl,k,t,rfl,f⟩;refine sr (va (B (decide (a.1 < (d.length:Int)))) (wln (W.seq (cn H (fun D H=>?_) (fun D H=>?_)))))
  ·refine W.skip (nrm (W.seq (W.block (sr (bn H fun b g H=>?_)))));obtain ⟨b0,E,P⟩:=Sl.at (h.mono l7) (aL g);obtain rfl:=E;refine vx (ix bQ h.m g) (vx (l1 gK (P 0 _ rfl)) (va (J b) (wln (W.region (va (v1) (va (J b) (bn H fun e0 M H=>cl (jk t f (hG.m.le (by decide)) j b Z.m M) ?_)))))));rintro v24 y g0 ⟨n,q,u,rfl⟩;refine WL.nil (bkn (nrm (W.region (vv (I (w64 (a.1+1))) (WL.nil ?_)))));obtain rfl:=si H;exact ⟨_,rfl,jn y ⟨n,q,rfl,u⟩⟩
  refine W.exit (thx ?_);obtain rfl:=si H;exact ⟨_,rfl,rfl,jn U ⟨k,t,rfl,f⟩⟩
 ·exact jn c0 ⟨G,S,rfl,T⟩
 rintro _ X w_ ⟨rfl,z,f0,_,rfl,h0,rfl,o,s,rfl,x⟩;refine bke ?_;obtain rfl:=si p;exact n0 (qq z ⟨o,s,x,rfl⟩)
def eR (p0:Int):Option (Int):=
 ((bY (decide (p0≥240)) (some (decide (p0≤244)))).bind fun a=>
 if a=true then
 some ((w64 ((w64 ((w64 ((w64 (0+1))+1))+1))+1)))
 else
 (bY (decide (p0≥224)) (some (decide (p0 < 240)))).bind fun b=>
 if b=true then
 some ((w64 ((w64 ((w64 (0+1))+1))+1)))
 else
 (bY (decide (p0≥194)) (some (decide (p0 < 224)))).bind fun c=>
 if c=true then
 some ((w64 ((w64 (0+1))+1)))
 else
 if (decide (p0 < 128))=true then
 some ((w64 (0+1)))
 else
 some (0)).bind fun d=>
 some d
theorem iu (A:Own c0 G F) (a:Int) {r:Int} (H:eR a=some r): Calls prog 219 #[.int .u8 a] c0.w (aq c0 fun c v=>Own c G (F)∧v=I r):=by
 unfold eR at H;refine en func219 rfl rfl (sr (va (I 0) (wln (sr (va (I 0) (wln (bn H fun k b T=>W.seqJ (Jn c0 fun c l=>Own c G (F)∧l= [(3,I k)]) ?_ ?_)))))))
 ·refine W.block (W.seq (W.block (W.seq (W.block (W.seq (W.block (W.seq (W.block (W.seq (W.seq (W.seq (bn b fun q P b=>W.join (Jn c0 fun c l=>Own c G (F)∧l= [(0,.int .u8 a),(3,I 0),(4,B q)]) ?_ ?_))))))))))))
  ·clear b;refine W.region (va (.int .u8 a) (va (B (decide (a≥240))) ?_));rcases bo (decide (a≥240)) with j | j
   ·have U:=anT j P;refine vb j (wa (.int .u8 a) (wa (B (decide (a≤244))) ?_));obtain rfl:=si U;exact vv (B (decide (a≤244))) (wln (jn c0 ⟨A,rfl⟩))
   obtain rfl:=anF j P;exact vb j (pz (vv (B false) (wln (jn c0 ⟨A,rfl⟩))))
  rintro u x ⟨m,g7,_,rfl,l6,rfl,p,rfl⟩;refine nrm (cn b (fun M b=>?_) (fun M b=>?_))
  ·refine W.exit (thx (thx (bke (nrm (W.region (va (I 0) (vv (I (w64 (0+1))) (WL.nil (bkn (nrm (W.region (va (I (w64 (0+1))) (vv (I (w64 ((w64 (0+1))+1))) (WL.nil (bkn (nrm (W.region (va (I (w64 ((w64 (0+1))+1))) (vv (I (w64 ((w64 ((w64 (0+1))+1))+1))) (WL.nil (bkn (nrm (sr (va (I (w64 ((w64 ((w64 (0+1))+1))+1))) (vv (I (w64 ((w64 ((w64 ((w64 (0+1))+1))+1))+1))) (wln (W.exit (bke (nrm ?_)))))))))))))))))))))))))))));obtain rfl:=si b;exact jn m ⟨p,rfl⟩
  refine W.skip (nrm (W.seq (W.seq (bn b fun s n b=>W.join (Jn m fun c l=>Own c G (F)∧l= [(0,.int .u8 a),(3,I 0),(11,B s)]) ?_ ?_))))
  ·clear b;refine W.region (va (.int .u8 a) (va (B (decide (a≥224))) ?_));rcases bo (decide (a≥224)) with d | d
   ·have y:=anT d n;refine vb d (wa (.int .u8 a) (wa (B (decide (a < 240))) ?_));obtain rfl:=si y;exact vv (B (decide (a < 240))) (wln (jn m ⟨p,rfl⟩))
   obtain rfl:=anF d n;exact vb d (pz (vv (B false) (wln (jn m ⟨p,rfl⟩))))
  rintro u x ⟨f,X,_,rfl,l16,rfl,g,rfl⟩;refine nrm (cn b (fun N b=>?_) (fun N b=>?_))
  ·refine W.exit (thx (thx (bko rfl (thx (bke (nrm (W.region (va (I 0) (vv (I (w64 (0+1))) (WL.nil (bkn (nrm (W.region (va (I (w64 (0+1))) (vv (I (w64 ((w64 (0+1))+1))) (WL.nil (bkn (nrm (sr (va (I (w64 ((w64 (0+1))+1))) (vv (I (w64 ((w64 ((w64 (0+1))+1))+1))) (wln (W.exit (bke (nrm ?_)))))))))))))))))))))))));obtain rfl:=si b;exact jn f ⟨g,rfl⟩
  refine W.skip (nrm (W.seq (W.seq (bn b fun t o b=>W.join (Jn f fun c l=>Own c G (F)∧l= [(0,.int .u8 a),(3,I 0),(18,B t)]) ?_ ?_))))
  ·clear b;refine W.region (va (.int .u8 a) (va (B (decide (a≥194))) ?_));rcases bo (decide (a≥194)) with e | e
   ·have z:=anT e o;refine vb e (wa (.int .u8 a) (wa (B (decide (a < 224))) ?_));obtain rfl:=si z;exact vv (B (decide (a < 224))) (wln (jn f ⟨g,rfl⟩))
   obtain rfl:=anF e o;exact vb e (pz (vv (B false) (wln (jn f ⟨g,rfl⟩))))
  rintro u x ⟨i,Z,_,rfl,b0,rfl,h,rfl⟩;refine nrm (cn b (fun R b=>?_) (fun R b=>?_))
  ·refine W.exit (thx (thx (bko rfl (thx (bko rfl (thx (bke (nrm (W.region (va (I 0) (vv (I (w64 (0+1))) (WL.nil (bkn (nrm (sr (va (I (w64 (0+1))) (vv (I (w64 ((w64 (0+1))+1))) (wln (W.exit (bke (nrm ?_)))))))))))))))))))));obtain rfl:=si b;exact jn i ⟨h,rfl⟩
  refine W.skip (nrm (sr (va (.int .u8 a) (vv (B (decide (a < 128))) (wln (cn b (fun S b=>?_) (fun S b=>?_)))))))
  ·refine W.exit (thx (bko rfl (thx (bko rfl (thx (bko rfl (thx (bke (nrm (sr (va (I 0) (vv (I (w64 (0+1))) (wln (W.exit (bke (nrm ?_))))))))))))))));obtain rfl:=si b;exact jn i ⟨h,rfl⟩
  refine W.skip (nrm (W.exit (bko rfl (thx (bko rfl (thx (bko rfl (thx (bko rfl (thx (bke (nrm ?_))))))))))));obtain rfl:=si b;exact jn i ⟨h,rfl⟩
 rintro u x ⟨E,a0,_,rfl,d0,rfl,D,rfl⟩;refine sr (vv (I k) (wln (W.ret ?_)));obtain rfl:=si T;exact r1 (qq E ⟨D,rfl⟩)
def ib (p0:Int):Option (Int):=
 (eR p0).bind fun a=>
 if (a==0)=true then
 some 0
 else
 if (a==1)=true then
 some (w64 p0)
 else
 (shn (w64 (7 - a))).bind fun b=>
 some (cE .i64 (w64 p0) (w64 ((w64 (1 * 2 ^ (min b 64))) - 1)))
theorem my (j:Own c0 G F) (e:Int) {r:Int} (H:ib e=some r): Calls prog 266 #[.int .u8 e] c0.w (aq c0 fun c v=>Own c G (F)∧v=I r):=by
 unfold ib at H;refine en func266 rfl rfl (sr (va (I 0) (wln (sr (va (.int .u8 e) (bn H fun d k H=>cl (iu j e k) ?_))))));rintro v7 h n ⟨g,rfl⟩;refine va (I d) (wln (sr (va (I d) (wln (W.block (sr (vv (B (d==0)) (wln (cn H (fun l H=>?_) (fun l H=>?_))))))))))
 ·refine sr (va (I 0) (wln (W.ret (bkr ?_))));obtain rfl:=si H;exact r1 (qq h ⟨g,rfl⟩)
 refine sr (vv (B (d==1)) (wln (cn H (fun m H=>?_) (fun m H=>?_))))
 ·refine sr (va (.int .u8 e) (vv (I (w64 e)) (wln (W.ret (bkr ?_)))));obtain rfl:=si H;exact r1 (qq h ⟨g,rfl⟩)
 refine sr (va (.int .u8 e) (va (I (w64 e)) (va (I d) (va (I (w64 (7 - d))) (bn H fun f i H=>vr (I (w64 (1 * 2 ^ (min f 64)))) (pF (k':= .i64) (a:=1) (b:=(w64 (7 - d))) i (by kernel_rfl) _) (va (I (w64 ((w64 (1 * 2 ^ (min f 64))) - 1))) (vv (I (cE .i64 (w64 e) (w64 ((w64 (1 * 2 ^ (min f 64))) - 1)))) (wln (W.ret (bkr ?_))))))))));obtain rfl:=si H;exact r1 (qq h ⟨g,rfl⟩)
def fY (p0:Int):Option (Int×Int):=
 (eR p0).bind fun b=>
 if (decide (b < 2))=true then
 some (0,0)
 else
 (if (p0==224)=true then
 some (160,191)
 else
 if (p0==240)=true then
 some (144,191)
 else
 if (p0==244)=true then
 some (128,(IntKind.u8.wrap ((IntKind.u8.wrap (191 - 16)) - 32)))
 else
 if (p0==237)=true then
 some (128,(IntKind.u8.wrap (191 - 32)))
 else
 some (128,191)).bind fun a=>
 some (a.1,a.2)
theorem ly (p:Own c0 G F) (b:Int) {r:Int×Int} (H:fY b=some r): Calls prog 220 #[.int .u8 b] c0.w (aq c0 fun c v=>Own c G (F)∧v= .tuple #[.int .u8 r.1,.int .u8 r.2]):=by
 unfold fY at H;refine en func220 rfl rfl (sr (vv (.int .u8 0) (wln (W.seq (sr (va (.int .u8 b) (bn H fun o q H=>cl (iu p b q) ?_)))))));rintro v7 e y ⟨f,rfl⟩;refine va (B (decide (o < 2))) (wln (cn H (fun s H=>?_) (fun s H=>?_)))
 ·refine sr (vv (.int .u8 0) (wln (W.ret (thr ?_))));obtain rfl:=si H;exact r2 (qq e ⟨f,rfl⟩)
 refine W.skip (nrm (sr (va (.int .u8 128) (va (.int .u8 191) (wln (bn H fun d a g=>W.seqJ (Jn e fun c l=>Own c G (F)∧l= [(2,.int .u8 d.1),(3,.int .u8 d.2)]) ?_ ?_))))))
 ·refine sr (va (.int .u8 b) (wln (W.block (W.seq (W.block (W.seq (W.block (W.seq (W.block (W.seq (W.block (W.seq (W.seq (sr (vv (B (b==224)) (wln (cn a (fun j a=>?_) (fun j a=>?_))))))))))))))))))
  ·refine W.exit (thx (thx (bke (nrm (sr (va (.int .u8 160) (wln (W.exit (bko rfl (thx (bko rfl (thx (bko rfl (thx (bke (nrm ?_))))))))))))))));obtain rfl:=si a;exact jn e ⟨f,rfl⟩
  refine W.skip (nrm (W.seq (sr (vv (B (b==240)) (wln (cn a (fun k a=>?_) (fun k a=>?_)))))))
  ·refine W.exit (thx (thx (bko rfl (thx (bke (nrm (sr (va (.int .u8 144) (wln (W.exit (bko rfl (thx (bko rfl (thx (bke (nrm ?_))))))))))))))));obtain rfl:=si a;exact jn e ⟨f,rfl⟩
  refine W.skip (nrm (W.seq (sr (vv (B (b==244)) (wln (cn a (fun m a=>?_) (fun m a=>?_)))))))
  ·refine W.exit (thx (thx (bko rfl (thx (bko rfl (thx (bke (nrm (W.region (va (.int .u8 191) (vv (.int .u8 (IntKind.u8.wrap (191 - 16))) (WL.nil (bkn (nrm (sr (va (.int .u8 (IntKind.u8.wrap (191 - 16))) (vv (.int .u8 (IntKind.u8.wrap ((IntKind.u8.wrap (191 - 16)) - 32))) (wln (W.exit (bke (nrm ?_)))))))))))))))))))));obtain rfl:=si a;exact jn e ⟨f,rfl⟩
  refine W.skip (nrm (sr (vv (B (b==237)) (wln (cn a (fun n a=>?_) (fun n a=>?_))))))
  ·refine W.exit (thx (bko rfl (thx (bko rfl (thx (bko rfl (thx (bke (nrm (sr (va (.int .u8 191) (vv (.int .u8 (IntKind.u8.wrap (191 - 32))) (wln (W.exit (bke (nrm ?_))))))))))))))));obtain rfl:=si a;exact jn e ⟨f,rfl⟩
  refine W.skip (nrm (W.exit (bko rfl (thx (bko rfl (thx (bko rfl (thx (bko rfl (thx (bke (nrm ?_))))))))))));obtain rfl:=si a;exact jn e ⟨f,rfl⟩
 rintro x z ⟨i,t,_,rfl,u,rfl,h,rfl⟩;refine sr (va (.int .u8 d.1) (va (.int .u8 d.2) (va (.int .u8 d.1) (va (.int .u8 d.2) (wln (W.ret ?_))))));obtain rfl:=si g;exact r2 (qq i ⟨h,rfl⟩)
def bU (p0:aI):Option (Int):=
 if false=true then
 some 0
 else
 some p0.held
theorem eW {b:Nat} {r0_0:Value} {r0_6:Value} {r0_7:Value} {r0_8:Value} {r0_9:Value} {r0_10:Value} {r0_11:Value} (a:aI) (e:Own c0 G ((Eb b 184 [r0_0,I a.held,I a.needs,.int .u8 a.lo,.int .u8 a.hi,I a.bits,r0_6,r0_7,r0_8,r0_9,r0_10,r0_11]) :: F)) {r:Int} (H:bU a=some r): Calls prog 223 #[.pointer (some ⟨b,1,none⟩)] c0.w (aq c0 fun c v=>Own c G ((Eb b 184 [r0_0,I a.held,I a.needs,.int .u8 a.lo,.int .u8 a.hi,I a.bits,r0_6,r0_7,r0_8,r0_9,r0_10,r0_11]) :: F)∧v=I r):=by
 unfold bU at H;refine en func223 rfl rfl (sr (va (I 0) (wln (W.seq (sr (va (Qo b 1) (va (B false) (wln (W.cond (t:=false) (by kernel_rfl) (fun d=>?_) (fun d=>?_))))))))))
 ·cases d
 have H:=ie d H;refine W.skip (nrm (sr (vv (Qo b 1) (va (Qo b 1) (vx (le1 1 u_3 (e.on 0 rfl)) (va (I a.held) (wln (W.ret ?_))))))));obtain rfl:=si H;exact r1 (qq c0 ⟨e,rfl⟩)
def bk (p0:aI):Option (aI×(List Int)):=
 (bU p0).bind fun a=>
 if (a==0)=true then
 some (p0,([]:List Int))
 else
 some ((⟨0,0,0,0,0⟩:aI),([65533]:List Int))
theorem cQ {a:Nat} {r0_0:Value} {r0_6:Value} {r0_7:Value} {r0_8:Value} {r0_9:Value} {r0_10:Value} {r0_11:Value} (b:aI) (q:Own c0 G ((Eb a 184 [r0_0,I b.held,I b.needs,.int .u8 b.lo,.int .u8 b.hi,I b.bits,r0_6,r0_7,r0_8,r0_9,r0_10,r0_11]) :: F)) {r:aI×(List Int)} (H:bk b=some r): Calls prog 167 #[.pointer (some ⟨a,1,none⟩)] c0.w (aq c0 fun c v=>∃d p,Own c G (es true (RI .i32) d 21 p r.2 :: (Eb a 184 [r0_0,I r.1.held,I r.1.needs,.int .u8 r.1.lo,.int .u8 r.1.hi,I r.1.bits,r0_6,r0_7,r0_8,r0_9,r0_10,r0_11]) :: F)∧v=d∧OA (RI .i32) c d p r.2):=by
 unfold bk at H;refine en func167 rfl rfl (sr (va (Y) (wln (W.seq (sr (va (Qo a 1) (bn H fun o s H=>cl (eW b q s) ?_)))))));rintro v8 k z ⟨i,rfl⟩;refine va (B (o==0)) (wln (cn H (fun t H=>?_) (fun t H=>?_)))
 ·refine sr (va (Y) (wln (W.ret (thr ?_))));obtain rfl:=si H;have l:OA (RI .i32) k (Y) [] []:=OA.nil (ak _);have f:=i.addHole (e:=es true (RI .i32) (Y) 21 [] ([]:List Int)) rfl;exact r1 (qq k ⟨(Y),[],f,rfl,l⟩)
 refine W.skip (nrm (sr (va (Qo a 1) (va (.agg #[I 0,I 0,.int .u8 0,.int .u8 0,I 0]) (va (Qo a 1) (md (sB 179 1 [I 0,I 0,.int .u8 0,.int .u8 0,I 0] [r0_0,I 0,I 0,.int .u8 0,.int .u8 0,I 0,r0_6,r0_7,r0_8,r0_9,r0_10,r0_11] 0 i ⟨rfl,rfl,rfl,rfl,rfl,trivial⟩) ?_))))));rintro u x g;refine wln (sr (me (sl (RI .i32) 21 [[J 65533]] ([65533]:List Int) g ⟨rfl,trivial⟩) ?_));rintro v18 j y ⟨n,h,m⟩;refine va (v18) (wln (W.ret ?_));obtain rfl:=si H;exact r1 (qq j ⟨v18,n,h,rfl,m⟩)
def bj (p0:aI) (p1:Int):Option (aI×(List Int)):=
 (eR p1).bind fun a=>
 if (a==0)=true then
 some (p0,([65533]:List Int))
 else
 if (a==1)=true then
 some (p0,([(w32 p1)]:List Int))
 else
 (ib p1).bind fun c=>
 (fY p1).bind fun b=>
 some ((⟨1,(w64 (a - 1)),b.1,b.2,c⟩:aI),([]:List Int))
theorem cP {a:Nat} {r0_0:Value} {r0_6:Value} {r0_7:Value} {r0_8:Value} {r0_9:Value} {r0_10:Value} {r0_11:Value} (f:aI) (g:Int) (T:Own c0 G ((Eb a 184 [r0_0,I f.held,I f.needs,.int .u8 f.lo,.int .u8 f.hi,I f.bits,r0_6,r0_7,r0_8,r0_9,r0_10,r0_11]) :: F)) {r:aI×(List Int)} (H:bj f g=some r): Calls prog 222 #[.pointer (some ⟨a,1,none⟩),.int .u8 g] c0.w (aq c0 fun c v=>∃k S,Own c G (es true (RI .i32) k 21 S r.2 :: (Eb a 184 [r0_0,I r.1.held,I r.1.needs,.int .u8 r.1.lo,.int .u8 r.1.hi,I r.1.bits,r0_6,r0_7,r0_8,r0_9,r0_10,r0_11]) :: F)∧v=k∧OA (RI .i32) c k S r.2):=by
 unfold bj at H;refine en func222 rfl rfl (sr (va (Y) (wln (W.seq (sr (va (.int .u8 g) (bn H fun b X H=>cl (iu T g X) ?_)))))));rintro v7 c6 l6 ⟨j,rfl⟩;refine va (I b) (wln (sr (va (I b) (wln (W.block (sr (vv (B (b==0)) (wln (cn H (fun Z H=>?_) (fun Z H=>?_))))))))))
 ·refine sr (me (sl (RI .i32) 21 [[J 65533]] ([65533]:List Int) j ⟨rfl,trivial⟩) ?_);rintro v13 x h0 ⟨P,U,z⟩;refine va (v13) (wln (W.ret (bkr (thr ?_))));obtain rfl:=si H;exact r1 (qq x ⟨v13,P,U,rfl,z⟩)
 refine sr (vv (B (b==1)) (wln (cn H (fun A H=>?_) (fun A H=>?_))))
 ·refine sr (va (.int .u8 g) (va (J (w32 g)) (me (sl (RI .i32) 21 [[J (w32 g)]] ([(w32 g)]:List Int) j ⟨rfl,trivial⟩) ?_)));rintro v19 y i0 ⟨R,l,D⟩;refine va (v19) (wln (W.ret (bkr (thr ?_))));obtain rfl:=si H;exact r1 (qq y ⟨v19,R,l,rfl,D⟩)
 refine sr (vv (Qo a 1) (va (Qo a 1) (va (I b) (va (I (w64 (b - 1))) (va (.int .u8 g) (bn H fun h E H=>cl (my j g E) ?_))))));rintro v26 a0 j0 ⟨m,rfl⟩;refine va (.pointer (some ⟨a,1,none⟩)) (va (Qo a 1) (md (sC 3 1 (I 1) [r0_0,I 1,I f.needs,.int .u8 f.lo,.int .u8 f.hi,I f.bits,r0_6,r0_7,r0_8,r0_9,r0_10,r0_11] 0 m ⟨rfl,trivial⟩) ?_));rintro b0 k0 n;refine va (.pointer (some ⟨a,1,none⟩)) (va (Qo a 2) (md (sC 3 2 (I (w64 (b - 1))) [r0_0,I 1,I (w64 (b - 1)),.int .u8 f.lo,.int .u8 f.hi,I f.bits,r0_6,r0_7,r0_8,r0_9,r0_10,r0_11] 0 n ⟨rfl,trivial⟩) ?_));rintro d0 l0 o;refine va (.pointer (some ⟨a,1,none⟩)) (va (Qo a 5) (md (sC 3 5 (I h) [r0_0,I 1,I (w64 (b - 1)),.int .u8 f.lo,.int .u8 f.hi,I h,r0_6,r0_7,r0_8,r0_9,r0_10,r0_11] 0 o ⟨rfl,trivial⟩) ?_));rintro e0 m0 p;refine wln (W.region (vv (Qo a 1) (va (.int .u8 g) (bn H fun d M H=>cl (ly p g M) ?_))));rintro v39 f0 o0 ⟨q,rfl⟩;refine va (.tuple #[.int .u8 d.1,.int .u8 d.2]) (va (.int .u8 d.1) (va (.int .u8 d.2) (va (Qo a 1) (va (Qo a 3) (md (sC 5 3 (.int .u8 d.1) [r0_0,I 1,I (w64 (b - 1)),.int .u8 d.1,.int .u8 f.hi,I h,r0_6,r0_7,r0_8,r0_9,r0_10,r0_11] 0 q ⟨rfl,trivial⟩) ?_)))));rintro g0 q0 s;refine va (.pointer (some ⟨a,1,none⟩)) (va (Qo a 4) (md (sC 5 4 (.int .u8 d.2) [r0_0,I 1,I (w64 (b - 1)),.int .u8 d.1,.int .u8 d.2,I h,r0_6,r0_7,r0_8,r0_9,r0_10,r0_11] 0 s ⟨rfl,trivial⟩) ?_));rintro i s0 t;refine WL.nil (bkn (nrm (sr (va (Y) (wln (W.ret ?_))))));obtain rfl:=si H;have N:OA (RI .i32) i (Y) [] []:=OA.nil (ak _);have u:=t.addHole (e:=es true (RI .i32) (Y) 21 [] ([]:List Int)) rfl;exact r1 (qq i ⟨(Y),[],u,rfl,N⟩)
def bT (p0:aI) (p1:Int):Option (aI×(List Int)):=
 if false=true then
 some (p0,([]:List Int))
 else
 if (p0.held==0)=true then
 (bj p0 p1).bind fun a=>
 some (a.1,a.2)
 else
 (orE (decide (p1 < p0.lo)) (some (decide (p1 > p0.hi)))).bind fun d=>
 if d=true then
 (bk p0).bind fun b=>
 (bj b.1 p1).bind fun c=>
 (app b.2 c.2).bind fun e=>
 some (c.1,e)
 else
 if (decide ((w64 (p0.needs - 1)) > 0))=true then
 some ((⟨(w64 (p0.held+1)),(w64 (p0.needs - 1)),128,191,(dy .i64 (w64 (p0.bits * 2 ^ 6)) (w64 (cE .u8 p1 63)))⟩:aI),([]:List Int))
 else
 some ((⟨0,0,0,0,0⟩:aI),([(w32 (dy .i64 (w64 (p0.bits * 2 ^ 6)) (w64 (cE .u8 p1 63))))]:List Int))
theorem eV {a:Nat} {r0_0:Value} {r0_6:Value} {r0_7:Value} {r0_8:Value} {r0_9:Value} {r0_10:Value} {r0_11:Value} (b:aI) (d:Int) (h:Own c0 G ((Eb a 184 [r0_0,I b.held,I b.needs,.int .u8 b.lo,.int .u8 b.hi,I b.bits,r0_6,r0_7,r0_8,r0_9,r0_10,r0_11]) :: F)) {r:aI×(List Int)} (H:bT b d=some r): Calls prog 166 #[.pointer (some ⟨a,1,none⟩),.int .u8 d] c0.w (aq c0 fun c v=>∃x y2,Own c G (es true (RI .i32) x 21 y2 r.2 :: (Eb a 184 [r0_0,I r.1.held,I r.1.needs,.int .u8 r.1.lo,.int .u8 r.1.hi,I r.1.bits,r0_6,r0_7,r0_8,r0_9,r0_10,r0_11]) :: F)∧v=x∧OA (RI .i32) c x y2 r.2):=by
 unfold bT at H;refine en func166 rfl rfl (sr (va (Y) (wln (W.seq (W.block (sr (va (Qo a 1) (vv (B false) (wln (W.cond (t:=false) (by kernel_rfl) (fun s=>?_) (fun s=>?_)))))))))))
 ·cases s
 have H:=ie s H;refine sr (vv (Qo a 1) (va (Qo a 1) (vx (le1 1 u_3 (h.on 0 rfl)) (vv (B (b.held==0)) (wln (cn H (fun h2 H=>?_) (fun h2 H=>?_)))))))
 ·refine sr (va (Qo a 1) (va (.int .u8 d) (bn H fun z0 h4 H=>cl (cP b d h h4) ?_)));rintro v5 X q1 ⟨_,u6,O9,rfl,h7⟩;refine va (v5) (wln (W.ret (bkr (thr ?_))));obtain rfl:=si H;exact r1 (qq X ⟨v5,u6,O9,rfl,h7⟩)
 refine W.seq (bn H fun q o H=>W.join (Jn c0 fun c l=>Own c G ((Eb a 184 [r0_0,I b.held,I b.needs,.int .u8 b.lo,.int .u8 b.hi,I b.bits,r0_6,r0_7,r0_8,r0_9,r0_10,r0_11]) :: F)∧l= [(0,.pointer (some ⟨a,1,none⟩)),(1,.int .u8 d),(18,B q)]) ?_ ?_)
 ·clear H;refine W.region (va (.int .u8 d) (vv (Qo a 1) (va (Qo a 3) (vx (le1 3 u_5 (h.on 0 rfl)) (va (B (decide (d < b.lo))) ?_)))));rcases bo (decide (d < b.lo)) with f | f
  ·obtain rfl:=orT f o;exact vb f (pz (pz (pz (vv (B true) (wln (jn c0 ⟨h,rfl⟩))))))
  have y:=orF f o;refine vb f (wa (.int .u8 d) (wa (Qo a 1) (wa (Qo a 1) (wa (Qo a 4) (wn (vx (le1 4 u_5 (h.on 0 rfl)) (wa (B (decide (d > b.hi))) ?_)))))));obtain rfl:=si y;exact vv (B (decide (d > b.hi))) (wln (jn c0 ⟨h,rfl⟩))
 rintro e_ w_ ⟨c1,n1,_,rfl,s1,rfl,i,rfl⟩;refine nrm (cn H (fun b0 H=>?_) (fun b0 H=>?_))
 ·refine sr (va (Qo a 1) (bn H fun u d0 H=>cl (cQ b i d0) ?_));rintro v26 d1 t1 ⟨_,g2,z,rfl,e0⟩;refine va (.pointer (some ⟨a,1,none⟩)) (va (.int .u8 d) ?_);have A:=z.sD 2 [1,0];refine bn H fun a1 f0 H=>cl (cP u.1 d A f0) ?_;rintro v37 e1 u1 ⟨_,i2,D,rfl,g0⟩;obtain ⟨f1,i0,v1,E,h0⟩:=D.frz 0 rfl g0;refine WL.gh i0 (bn H fun b1 j0 H=>me (ap (RI .i32) (J 0) 4 32 2 E e0.m h0 j0 bQ) ?_);rintro v55 Z w1 ⟨q0,M,k0⟩;refine va (v55) (wln (W.ret (bkr (thr ?_))));obtain rfl:=si H;have N:=M.sD 3 [2,1];exact r1 (qq Z ⟨v55,q0,N,rfl,k0⟩)
 refine W.skip (bkn (nrm (sr (vv (Qo a 1) (va (Qo a 1) (va (Qo a 5) (vx (le1 5 u_3 (i.on 0 rfl)) (va (I (w64 (b.bits * 2 ^ 6))) (va (.int .u8 d) (va (.int .u8 (cE .u8 d 63)) (va (I (w64 (cE .u8 d 63))) (va (I (dy .i64 (w64 (b.bits * 2 ^ 6)) (w64 (cE .u8 d 63)))) (va (Qo a 1) (va (Qo a 5) (md (sC 3 5 (I (dy .i64 (w64 (b.bits * 2 ^ 6)) (w64 (cE .u8 d 63)))) [r0_0,I b.held,I b.needs,.int .u8 b.lo,.int .u8 b.hi,I (dy .i64 (w64 (b.bits * 2 ^ 6)) (w64 (cE .u8 d 63))),r0_6,r0_7,r0_8,r0_9,r0_10,r0_11] 0 i ⟨rfl,trivial⟩) ?_)))))))))))))));rintro g1 x1 P;refine wln (sr (vv (Qo a 1) (va (Qo a 1) (va (Qo a 3) (md (sC 5 3 (.int .u8 128) [r0_0,I b.held,I b.needs,.int .u8 128,.int .u8 b.hi,I (dy .i64 (w64 (b.bits * 2 ^ 6)) (w64 (cE .u8 d 63))),r0_6,r0_7,r0_8,r0_9,r0_10,r0_11] 0 P ⟨rfl,trivial⟩) ?_)))));rintro i1 z1 R;refine va (.pointer (some ⟨a,1,none⟩)) (va (Qo a 4) (md (sC 5 4 (.int .u8 191) [r0_0,I b.held,I b.needs,.int .u8 128,.int .u8 191,I (dy .i64 (w64 (b.bits * 2 ^ 6)) (w64 (cE .u8 d 63))),r0_6,r0_7,r0_8,r0_9,r0_10,r0_11] 0 R ⟨rfl,trivial⟩) ?_));rintro j1 b2 j;refine wln (sr (vv (Qo a 1) (va (Qo a 1) (vx (le1 1 u_3 (j.on 0 rfl)) (va (I (w64 (b.held+1))) (vv (Qo a 1) (md (sC 3 1 (I (w64 (b.held+1))) [r0_0,I (w64 (b.held+1)),I b.needs,.int .u8 128,.int .u8 191,I (dy .i64 (w64 (b.bits * 2 ^ 6)) (w64 (cE .u8 d 63))),r0_6,r0_7,r0_8,r0_9,r0_10,r0_11] 0 j ⟨rfl,trivial⟩) ?_)))))));rintro k1 c2 k;refine wln (sr (vv (Qo a 1) (va (Qo a 2) (vx (le1 2 u_3 (k.on 0 rfl)) (va (I (w64 (b.needs - 1))) (va (Qo a 1) (va (Qo a 2) (md (sC 3 2 (I (w64 (b.needs - 1))) [r0_0,I (w64 (b.held+1)),I (w64 (b.needs - 1)),.int .u8 128,.int .u8 191,I (dy .i64 (w64 (b.bits * 2 ^ 6)) (w64 (cE .u8 d 63))),r0_6,r0_7,r0_8,r0_9,r0_10,r0_11] 0 k ⟨rfl,trivial⟩) ?_))))))));rintro n d2 g;refine wln (W.seq (sr (vv (Qo a 1) (va (Qo a 2) (vx (le1 2 u_3 (g.on 0 rfl)) (va (B (decide ((w64 (b.needs - 1)) > 0))) (wln (cn H (fun l0 H=>?_) (fun l0 H=>?_)))))))))
 ·refine sr (va (Y) (wln (W.ret (thr ?_))));obtain rfl:=si H;have m0:OA (RI .i32) n (Y) [] []:=OA.nil (ak _);have S:=g.addHole (e:=es true (RI .i32) (Y) 21 [] ([]:List Int)) rfl;exact r1 (qq n ⟨(Y),[],S,rfl,m0⟩)
 refine W.skip (nrm (sr (vv (Qo a 1) (va (Qo a 5) (vx (le1 5 u_3 (g.on 0 rfl)) (vv (J (w32 (dy .i64 (w64 (b.bits * 2 ^ 6)) (w64 (cE .u8 d 63))))) (wln (sr (va (Qo a 1) (va (.agg #[I 0,I 0,.int .u8 0,.int .u8 0,I 0]) (va (Qo a 1) (md (sB 179 1 [I 0,I 0,.int .u8 0,.int .u8 0,I 0] [r0_0,I 0,I 0,.int .u8 0,.int .u8 0,I 0,r0_6,r0_7,r0_8,r0_9,r0_10,r0_11] 0 g ⟨rfl,rfl,rfl,rfl,rfl,trivial⟩) ?_))))))))))));rintro m1 e2 T;refine wln (sr (va (J (w32 (dy .i64 (w64 (b.bits * 2 ^ 6)) (w64 (cE .u8 d 63))))) (me (sl (RI .i32) 21 [[J (w32 (dy .i64 (w64 (b.bits * 2 ^ 6)) (w64 (cE .u8 d 63))))]] ([(w32 (dy .i64 (w64 (b.bits * 2 ^ 6)) (w64 (cE .u8 d 63))))]:List Int) T ⟨rfl,trivial⟩) ?_)));rintro p a0 f2 ⟨s0,U,o0⟩;refine va (p) (wln (W.ret ?_));obtain rfl:=si H;exact r1 (qq a0 ⟨p,s0,U,rfl,o0⟩)
def ek (sg:Sto) (p0:Option Nat) (p1:List Int):Option (Sto):=
 if p0.isNone=true then
 some sg
 else
 (cp (σ:=Int×Sto) (τ:=Sto) (((p1.length:Int) - 0).toNat+1) (fun b=>
 if (decide (b.1 < (p1.length:Int)))=true then
 (idx p1 b.1).bind fun f=>
 (p0).bind fun d=>
 (b.2.feed_Feeder[d]?).bind fun a=>
 (bT a.dec f).bind fun e=>
 (b.2.set_feed_Feeder d (⟨a.pen,e.1,a.seg,a.open_⟩:aS)).bind fun c=>
 (dP c p0 e.2).bind fun g=>
 some (.inl ((w64 (b.1+1)),g))
 else
 some (.inr (b.2))) (0,sg)).bind fun h=>
 some h
theorem jm (M:Own c0 G F) (R0:Rel c0 sg G) (hG:Gl [2,4] c0) (j:Option Nat) (k:List Int) {r:Sto} (t:Pt 4 c0 v1 j) (u:Sl (RI .u8) c0 v3 k) (H:ek sg j k=some r): Calls prog 107 #[v1,v3] c0.w (aq c0 fun c v=>∃G_:Gm,Own c G_ (F)∧Rel c r G_∧v= .tuple #[]):=by
 unfold ek at H;refine en func107 rfl rfl (W.seq (sr (va (v1) (vr (B j.isNone) (by rcases (t).cs with ⟨p,s⟩ | ⟨b_,p,s⟩ <;> (subst p; rw [s]; kernel_rfl)) (wln (cn H (fun h5 H=>?_) (fun h5 H=>?_)))))))
 ·refine W.ret (thr ?_);obtain rfl:=si H;exact r0 (qq c0 ⟨G,M,R0,rfl⟩)
 refine W.skip (nrm (sr (va (v3) (vx (ln 3 kL u) (va (I 0) (wln (W.block (bn H fun y1 h6 E=>lp h6 (fun d=>Jn c0 fun c l=>∃G_,Own c G_ (F)∧l= [(0,v1),(8,v3),(9,I (k.length:Int)),(10,I d.1)]∧Rel c d.2 G_) (fun x ex e w=>ex= .exit 0∧(Jn c0 fun c l=>∃G_,Own c G_ (F)∧l= []∧Rel c x G_) e w) ?_ ?_ ?_))))))))
 ·clear E h6;intro d b2 i0 c1 H;revert i0 c1;rintro e_ w_ ⟨c8,g9,_,rfl,l8,rfl,z,n,rfl,h⟩;refine sr (va (B (decide (d.1 < (k.length:Int)))) (wln (W.seq (cn H (fun j0 H=>?_) (fun j0 H=>?_)))))
  ·refine W.skip (nrm (W.seq (W.block (sr (bn H fun f o H=>?_)))));obtain ⟨h1,k0,b1⟩:=Sl.at (u.mono l8) (aL o);obtain rfl:=k0;refine vx (ix kL u.m o) (vx (l1 u_5 (b1 0 _ rfl)) (va (.int .u8 f) (wln (W.region (vv (v1) (bn H fun g1 l0 H=>?_))))));obtain ⟨g,rfl,q⟩:=((t.mono l8)).get l0;refine va (Q g) (va (Qo g 1) (va (.int .u8 f) (bn H fun a m0 H=>?_)));obtain ⟨v23,v25,s0,o0,q0⟩:=Rel.open_feed_Feeder h m0 q;have N:=n.borrow 0 s0 rfl;refine bn H fun b t0 H=>cl (eV a.dec f N t0) ?_;rintro v31 n1 i ⟨_,z1,P,rfl,u0⟩;have S:=P.sD 2 [1,0];have R:=S.giveB 0 rfl;refine bn H fun y v0 H=>?_;obtain ⟨k1,T,d0,t1,m1⟩:=Rel.put_feed_Feeder R (h.mono i) (E':=[(Eb g 184 [v23,I b.1.held,I b.1.needs,.int .u8 b.1.lo,.int .u8 b.1.hi,I b.1.bits,B a.seg.some,I a.seg.last,I a.seg.pict,I a.seg.conj,B a.seg.odd,v25])]) v0 ⟨g,v23,v25,(tm q),rfl,(o0.mono i),(q0.mono i)⟩;obtain ⟨q1,x0,u1,U,w0⟩:=T.frz 0 rfl u0;refine WL.gh x0 (bn H fun j1 y0 H=>cl (gq U d0.m (hG.m.le (by decide)) j b.2 t.m w0 y0) ?_);rintro v58 g0 w1 ⟨A,X,e0,rfl⟩;refine WL.nil (bkn (nrm (W.region (vv (I (w64 (d.1+1))) (WL.nil ?_)))));obtain rfl:=si H;refine ⟨_,rfl,?_⟩;have Z:=X.sD 1 [];exact jn g0 ⟨A,Z,rfl,e0⟩
  refine W.exit (thx ?_);obtain rfl:=si H;exact ⟨_,rfl,rfl,jn c8 ⟨z,n,rfl,h⟩⟩
 ·exact jn c0 ⟨G,M,rfl,R0⟩
 rintro _ e_ w_ ⟨rfl,h0,s1,_,rfl,x1,rfl,D,a0,rfl,f0⟩;refine bke ?_;obtain rfl:=si E;exact n0 (qq h0 ⟨D,a0,f0,rfl⟩)
def ej (sg:Sto) (p0:Option Nat):Option (Sto):=
 if p0.isNone=true then
 some sg
 else
 (p0).bind fun c=>
 (sg.feed_Feeder[c]?).bind fun a=>
 (bk a.dec).bind fun d=>
 (sg.set_feed_Feeder c (⟨a.pen,d.1,a.seg,a.open_⟩:aS)).bind fun b=>
 (dP b p0 d.2).bind fun f=>
 (bX f p0).bind fun e=>
 some e
theorem jl (l:Own c0 G F) (j:Rel c0 sg G) (hG:Gl [2,4] c0) (f:Option Nat) {r:Sto} (g:Pt 4 c0 v1 f) (H:ej sg f=some r): Calls prog 108 #[v1] c0.w (aq c0 fun c v=>∃G_:Gm,Own c G_ (F)∧Rel c r G_∧v= .tuple #[]):=by
 unfold ej at H;refine en func108 rfl rfl (W.seq (sr (va (v1) (vr (B f.isNone) (by rcases (g).cs with ⟨h,i⟩ | ⟨b_,h,i⟩ <;> (subst h; rw [i]; kernel_rfl)) (wln (cn H (fun h3 H=>?_) (fun h3 H=>?_)))))))
 ·refine W.ret (thr ?_);obtain rfl:=si H;exact r0 (qq c0 ⟨G,l,j,rfl⟩)
 refine W.skip (nrm (sr (vv (v1) (bn H fun s0 h6 H=>?_))));obtain ⟨d,rfl,h5⟩:=(g).get h6;refine va (Q d) (va (Qo d 1) (bn H fun a h7 H=>?_));obtain ⟨v8,v10,N,h9,M⟩:=Rel.open_feed_Feeder j h7 h5;have n:=l.borrow 0 N rfl;refine bn H fun b P H=>cl (cQ a.dec n P) ?_;rintro v16 l0 e ⟨_,w0,o,rfl,R⟩;have q:=o.sD 2 [1,0];have p:=q.giveB 0 rfl;refine bn H fun b0 S H=>?_;obtain ⟨i0,s,z,q0,k0⟩:=Rel.put_feed_Feeder p (j.mono e) (E':=[(Eb d 184 [v8,I b.1.held,I b.1.needs,.int .u8 b.1.lo,.int .u8 b.1.hi,I b.1.bits,B a.seg.some,I a.seg.last,I a.seg.pict,I a.seg.conj,B a.seg.odd,v10])]) S ⟨d,v8,v10,(tm h5),rfl,(h9.mono e),(M.mono e)⟩;obtain ⟨m0,U,t0,t,T⟩:=s.frz 0 rfl R;refine WL.gh U (bn H fun x0 X H=>cl (gq t z.m (hG.m.le (by decide)) f b.2 g.m T X) ?_);rintro v43 o0 u0 ⟨j0,u,A,rfl⟩;refine wln (W.region (va (Q d) (bn H fun h0 Z H=>cl (dl u A f g.m Z) ?_)));rintro v50 E v0 ⟨k,x,D,rfl⟩;refine WL.nil ?_;obtain rfl:=si H;have y:=x.sD 1 [];exact n0 (qq E ⟨k,y,D,rfl⟩)
def iO (p0:Int):Option (Bool):=
 (bY (decide (p0≥2)) (some (decide (p0≤12)))).bind fun a=>
 some a
theorem ne (d:Own c0 G F) (a:Int) {r:Bool} (H:iO a=some r): Calls prog 162 #[I a] c0.w (aq c0 fun c v=>Own c G (F)∧v=B r):=by
 unfold iO at H;refine en func162 rfl rfl (sr (va (B false) (wln (W.seq (bn H fun e f H=>W.join (Jn c0 fun c l=>Own c G (F)∧l= [(2,B e)]) ?_ ?_)))))
 ·clear H;refine W.region (va (I a) (va (B (decide (a≥2))) ?_));rcases bo (decide (a≥2)) with b | b
  ·have g:=anT b f;refine vb b (wa (I a) (wa (B (decide (a≤12))) ?_));obtain rfl:=si g;exact vv (B (decide (a≤12))) (wln (jn c0 ⟨d,rfl⟩))
  obtain rfl:=anF b f;exact vb b (pz (vv (B false) (wln (jn c0 ⟨d,rfl⟩))))
 rintro j n ⟨i,k,_,rfl,m,rfl,h,rfl⟩;refine nrm (W.ret ?_);obtain rfl:=si H;exact r1 (qq i ⟨h,rfl⟩)
def fO (p0:dH):Option (Er):=
 (iO p0.Kind).bind fun d=>
 if (!d)=true then
 some (Er.sent 4)
 else
 (bY (decide (p0.Kind≤4)) (some (p0.Kind != 2))).bind fun a=>
 (bY a ((orE (decide (p0.A < 0)) (some (decide (p0.A > 2)))).bind fun c=>
 some c)).bind fun b=>
 if b=true then
 some (Er.sent 2)
 else
 some Er.nil
theorem jX (S:Own c0 G F) (hG:Gl [2,4] c0) (a:dH) {r:Er} (h2:Sl (RI .u8) c0 v1 a.Bytes) (H:fO a=some r): Calls prog 103 #[.agg #[I a.Kind,I a.A,I a.B,v1]] c0.w (aq c0 fun c v=>∃R,Own c G (F)∧v=R∧RE 350 144 c R r):=by
 unfold fO at H;refine en func103 rfl rfl (sr ?_);obtain ⟨U,X,Z,rfl⟩:=(h2).form;refine me (bx 38 [I a.Kind,I a.A,I a.B,.slice U X Z] S) ?_;rintro v10 c9 P ⟨i,rfl,T,k⟩;refine va (.nilIface) (wln (W.seq (W.block (sr (va (Q i) (vx (l1 u_3 (k 0 _ rfl)) (bn H fun u D H=>cl (ne T a.Kind D) ?_)))))));rintro v17 b l16 ⟨d,rfl⟩;refine vv (B (!u)) (wln (cn H (fun E H=>?_) (fun E H=>?_)))
 ·refine sr ?_;obtain ⟨v19,o⟩:=(hG.mono (P.trans l16)).get 4 (by decide);refine vx (l1 mK o.im) (va (v19) (wln (W.ret (bkr (thr ?_)))));obtain rfl:=si H;exact r1 (qq b ⟨v19,d,rfl,o⟩)
 refine W.seq (bn H fun a0 p H=>bn H fun x j H=>W.join (Jn b fun c l=>Own c G (F)∧l= [(9,B x)]) ?_ ?_)
 ·clear H;refine W.region (va (Q i) (vx (l1 u_3 ((mm k) 0 _ rfl)) (va (B (decide (a.Kind≤4))) ?_)));rcases bo (decide (a.Kind≤4)) with e | e
  ·have y:=anT e p;refine vb e (wa (Q i) (wn (vx (l1 u_3 ((mm k) 0 _ rfl)) (wa (B (a.Kind != 2)) ?_))));obtain rfl:=si y;refine va (B (a.Kind != 2)) ?_;rcases bo (a.Kind != 2) with f | f
   ·have h:=anT f j;refine vb f (wa (Qo i (0+1)) (wn (vx (l1 u_3 ((mm k) 1 _ rfl)) (wa (B (decide (a.A < 0))) (wn (bn h fun b0 q h=>?_))))));rcases bo (decide (a.A < 0)) with g | g
    ·obtain rfl:=orT g q;refine vb g (pz (ps (wa (B true) ?_)));obtain rfl:=si h;exact vv (B true) (wln (jn b ⟨d,rfl⟩))
    have z:=orF g q;refine vb g (wa (Qo i (0+1)) (wn (vx (l1 u_3 ((mm k) 1 _ rfl)) (wa (B (decide (a.A > 2))) (wn ?_)))));obtain rfl:=si z;refine va (B (decide (a.A > 2))) ?_;obtain rfl:=si h;exact vv (B (decide (a.A > 2))) (wln (jn b ⟨d,rfl⟩))
   obtain rfl:=anF f j;exact vb f (pz (pz (pz (pz (vv (B false) (wln (jn b ⟨d,rfl⟩)))))))
  obtain rfl:=anF e p;refine vb e (pz (ps (va (B false) ?_)));have s:false=false:=rfl;obtain rfl:=anF s j;exact vb s (pz (pz (pz (pz (vv (B false) (wln (jn b ⟨d,rfl⟩)))))))
 rintro e_ w_ ⟨n,e0,_,rfl,N,rfl,m,rfl⟩;refine nrm (cn H (fun M H=>?_) (fun M H=>?_))
 ·refine sr ?_;obtain ⟨v38,t⟩:=(hG.mono (P.trans (l16.trans N))).get 2 (by decide);refine vx (l1 mK t.im) (va (v38) (wln (W.ret (bkr (thr ?_)))));obtain rfl:=si H;exact r1 (qq n ⟨v38,m,rfl,t⟩)
 refine W.skip (bkn (nrm (sr (va (.nilIface) (wln (W.ret ?_))))));obtain rfl:=si H;exact r1 (qq n ⟨.nilIface,m,rfl,rfl⟩)
def fA (sg:Sto) (p0:Option Nat) (p1:dH):Option (Sto):=
 (p0).bind fun e=>
 (sg.place_Pen[e]?).bind fun b=>
 (aE sg b.G).bind fun f=>
 if (p1.Kind==10)=true then
 (fz sg b.G 0 f p1.A).bind fun i=>
 some i
 else
 if (p1.Kind==11)=true then
 (ft sg b.G 0 f p1.A).bind fun j=>
 some j
 else
 if (p1.Kind==8)=true then
 (ft sg b.G b.At.Row f p1.A).bind fun g=>
 (g.place_Pen[e]?).bind fun c=>
 (cD c.At).bind fun d=>
 (g.set_place_Pen e (⟨c.G,d,c.Auto⟩:aC)).bind fun a=>
 some a
 else
 if (p1.Kind==9)=true then
 (fz sg b.G b.At.Row f p1.A).bind fun h=>
 (h.place_Pen[e]?).bind fun c=>
 (cD c.At).bind fun d=>
 (h.set_place_Pen e (⟨c.G,d,c.Auto⟩:aC)).bind fun a=>
 some a
 else
 (cD b.At).bind fun d=>
 (sg.set_place_Pen e (⟨b.G,d,b.Auto⟩:aC)).bind fun a=>
 some a
theorem ja (O0:Own c0 G F) (s:Rel c0 sg G) (p0:Option Nat) (f:dH) {r:Sto} (h2:Pt 2 c0 v1 p0) (h4:Sl (RI .u8) c0 v3 f.Bytes) (H:fA sg p0 f=some r): Calls prog 122 #[v1,.agg #[I f.Kind,I f.A,I f.B,v3]] c0.w (aq c0 fun c v=>∃G_:Gm,Own c G_ (F)∧Rel c r G_∧v= .tuple #[]):=by
 unfold fA at H;refine en func122 rfl rfl (sr ?_);obtain ⟨a5,a6,a7,rfl⟩:=(h4).form;refine me (bx 38 [I f.Kind,I f.A,I f.B,.slice a5 a6 a7] O0) ?_;rintro v12 q3 x ⟨t,rfl,O9,q⟩;refine wln (sr (va (v1) (bn H fun z3 y1 H=>?_)));obtain ⟨a,rfl,l⟩:=((h2.mono x)).get y1;refine vv (Q a) (bn H fun e z1 H=>?_);obtain ⟨v17,g,n⟩:=Rel.open_place_Pen (s.mono x) z1 l;refine vx (le1 0 bS (O9.gon g 0 rfl)) (bn H fun i b2 H=>cl (aA O9 s.m e.G n b2) ?_);rintro v26 s3 b0 ⟨k,rfl⟩;refine va (I i) (wln (W.seq (sr (va (Q t) (vx (l1 u_3 ((mm q) 0 _ rfl)) (wln (W.block (sr (vv (B (f.Kind==10)) (wln (cn H (fun c2 H=>?_) (fun c2 H=>?_))))))))))))
 ·refine W.seq (rD [7] (Kp G []) k ?_);intro n1 a4 M;have u2:Kp G [] n1:=(Kp.nil M);refine ta 0 (Q a) (ta 1 (Q a) (ta 2 (Q a) (tkx 3 u2 (fun p h j=>le1 0 bS (j.gon g 0 rfl)) (ta 4 (I i) (ta 5 (Qo t (0+1)) (tx 6 (fun p h=>l1 u_3 ((mm q) 1 _ rfl)) (bn H fun j3 d2 H=>o1 7 (gc 7 (iS M s.m e.G 0 i f.A n.m d2) ?_))))))));rintro v37 q1 b4 ⟨z0,c1,j1,rfl⟩;refine ⟨.inl rfl,dn (nrm (W.ret (bkr (thr ?_))))⟩;obtain rfl:=si H;exact r0 (qq q1 ⟨z0,c1,j1,rfl⟩)
 refine sr (vv (B (f.Kind==11)) (wln (cn H (fun e2 H=>?_) (fun e2 H=>?_))))
 ·refine W.seq (rD [7] (Kp G []) k ?_);intro s1 c4 N;have v2:Kp G [] s1:=(Kp.nil N);refine ta 0 (Q a) (ta 1 (Q a) (ta 2 (Q a) (tkx 3 v2 (fun p h j=>le1 0 bS (j.gon g 0 rfl)) (ta 4 (I i) (ta 5 (Qo t (0+1)) (tx 6 (fun p h=>l1 u_3 ((mm q) 1 _ rfl)) (bn H fun k3 f2 H=>o1 7 (gc 7 (js N s.m e.G 0 i f.A n.m f2) ?_))))))));rintro v48 t1 d4 ⟨a1,d1,k1,rfl⟩;refine ⟨.inl rfl,dn (nrm (W.ret (bkr (thr ?_))))⟩;obtain rfl:=si H;exact r0 (qq t1 ⟨a1,d1,k1,rfl⟩)
 refine sr (vv (B (f.Kind==8)) (wln (cn H (fun g2 H=>?_) (fun g2 H=>?_))))
 ·refine rD [12] (Kp G []) k ?_;intro u1 e4 P;have g0:Kp G [] u1:=(Kp.nil P);refine ta 0 (Q a) (ta 1 (Q a) (ta 2 (Q a) (tkx 3 g0 (fun p h j=>le1 0 bS (j.gon g 0 rfl)) (ta 4 (Q a) (ta 5 (Q a) (ta 6 (Qo a 1) (ta 7 (Qo a 1) (tkx 8 g0 (fun p h j=>le1 1 u_3 (j.gon g 0 rfl)) (ta 9 (I i) (ta 10 (Qo t (0+1)) (tx 11 (fun p h=>l1 u_3 ((mm q) 1 _ rfl)) (bn H fun l3 i2 H=>o1 12 (gc 12 (js P s.m e.G e.At.Row i f.A n.m i2) ?_)))))))))))));rintro v59 t3 f4 ⟨n3,R,U,rfl⟩;refine ⟨.inl rfl,dn (bkn (nrm (W.region (vv (Q a) (va (Q a) (va (Qo a 1) (bn H fun d j2 H=>?_)))))))⟩;obtain ⟨D,Z,k2⟩:=Rel.open_place_Pen U j2 (tm l);refine vx (leN 29 1 [I d.At.Row,I d.At.Col,B d.At.Pending] (R.gon Z 0 rfl)) (bn H fun b l2 H=>cl (dF R d.At l2) ?_);rintro j4 u3 d0 ⟨e1,rfl⟩;refine va (Q a) (va (Qo a 1) (md (gB 29 1 [I b.Row,I b.Col,B b.Pending] [D,I b.Row,I b.Col,B b.Pending,B d.Auto] 0 e1 Z ⟨rfl,rfl,rfl,trivial⟩) ?_));rintro w1 e0 f1;refine bn H fun o m2 H=>?_;obtain ⟨b1,g1,m1,y3,p3⟩:=Rel.put_place_Pen f1 (U.mono (d0.trans e0)) (E':=[(Eb a 126 [D,I b.Row,I b.Col,B b.Pending,B d.Auto])]) m2 ⟨a,D,(tm l),rfl,(k2.mono (d0.trans e0))⟩;refine WL.nil ?_;obtain rfl:=si H;exact n0 (qq w1 ⟨b1,g1,m1,rfl⟩)
 refine sr (vv (B (f.Kind==9)) (wln (cn H (fun n2 H=>?_) (fun n2 H=>?_))))
 ·refine rD [12] (Kp G []) k ?_;intro x1 g4 S;have h0:Kp G [] x1:=(Kp.nil S);refine ta 0 (Q a) (ta 1 (Q a) (ta 2 (Q a) (tkx 3 h0 (fun p h j=>le1 0 bS (j.gon g 0 rfl)) (ta 4 (Q a) (ta 5 (Q a) (ta 6 (Qo a 1) (ta 7 (Qo a 1) (tkx 8 h0 (fun p h j=>le1 1 u_3 (j.gon g 0 rfl)) (ta 9 (I i) (ta 10 (Qo t (0+1)) (tx 11 (fun p h=>l1 u_3 ((mm q) 1 _ rfl)) (bn H fun m3 o2 H=>o1 12 (gc 12 (iS S s.m e.G e.At.Row i f.A n.m o2) ?_)))))))))))));rintro k4 w3 i4 ⟨o3,T,X,rfl⟩;refine ⟨.inl rfl,dn (bkn (nrm (W.region (vv (Q a) (va (Q a) (va (Qo a 1) (bn H fun d p2 H=>?_)))))))⟩;obtain ⟨E,a0,q2⟩:=Rel.open_place_Pen X p2 (tm l);refine vx (leN 29 1 [I d.At.Row,I d.At.Col,B d.At.Pending] (T.gon a0 0 rfl)) (bn H fun b s2 H=>cl (dF T d.At s2) ?_);rintro h3 x3 f0 ⟨i1,rfl⟩;refine va (Q a) (va (Qo a 1) (md (gB 29 1 [I b.Row,I b.Col,B b.Pending] [E,I b.Row,I b.Col,B b.Pending,B d.Auto] 0 i1 a0 ⟨rfl,rfl,rfl,trivial⟩) ?_));rintro u0 u k0;refine bn H fun o w0 H=>?_;obtain ⟨i0,l0,s0,d3,x2⟩:=Rel.put_place_Pen k0 (X.mono (f0.trans u)) (E':=[(Eb a 126 [E,I b.Row,I b.Col,B b.Pending,B d.Auto])]) w0 ⟨a,E,(tm l),rfl,(q2.mono (f0.trans u))⟩;refine WL.nil ?_;obtain rfl:=si H;exact n0 (qq u0 ⟨i0,l0,s0,rfl⟩)
 refine W.skip (bkn (nrm (W.region (vv (Q a) (va (Q a) (va (Qo a 1) (vx (leN 29 1 [I e.At.Row,I e.At.Col,B e.At.Pending] (k.gon g 0 rfl)) (bn H fun b x0 H=>cl (dF k e.At x0) ?_))))))));rintro i3 c3 y ⟨m0,rfl⟩;refine va (Q a) (va (Qo a 1) (md (gB 29 1 [I b.Row,I b.Col,B b.Pending] [v17,I b.Row,I b.Col,B b.Pending,B e.Auto] 0 m0 g ⟨rfl,rfl,rfl,trivial⟩) ?_));rintro v0 z o0;refine bn H fun o y0 H=>?_;obtain ⟨j0,q0,t0,e3,y2⟩:=Rel.put_place_Pen o0 (s.mono (x.trans (b0.trans (y.trans z)))) (E':=[(Eb a 126 [v17,I b.Row,I b.Col,B b.Pending,B e.Auto])]) y0 ⟨a,v17,(tm l),rfl,(n.mono (b0.trans (y.trans z)))⟩;refine WL.nil ?_;obtain rfl:=si H;exact n0 (qq v0 ⟨j0,q0,t0,rfl⟩)
def go (sg:Sto) (p0:Option Nat) (p1:Int):Option (Sto):=
 (p0).bind fun f=>
 (sg.place_Pen[f]?).bind fun b=>
 (aN sg b.G b.At.Row).bind fun a=>
 if (p1==0)=true then
 (gw sg a b.At.Col).bind fun c=>
 some c
 else
 if (p1==1)=true then
 (ij sg a b.At.Col).bind fun d=>
 some d
 else
 (gn sg a).bind fun e=>
 some e
theorem kJ (O0:Own c0 G F) (h:Rel c0 sg G) (hG:Gl [2,4] c0) (Z:Option Nat) (d:Int) {r:Sto} (h2:Pt 2 c0 v1 Z) (H:go sg Z d=some r): Calls prog 190 #[v1,I d] c0.w (aq c0 fun c v=>∃G_:Gm,Own c G_ (F)∧Rel c r G_∧v= .tuple #[]):=by
 unfold go at H;refine en func190 rfl rfl (W.seq (rD [] (Kp G []) O0 ?_));intro c3 X q;have p5:Kp G [] c3:=(Kp.nil q);refine ta 0 (v1) (bn H fun o0 h8 H=>?_);obtain ⟨a,rfl,h7⟩:=((h2.mono X)).get h8;refine ta 1 (Q a) (ta 2 (Q a) (bn H fun g h9 H=>?_));obtain ⟨v10,f,E⟩:=Rel.open_place_Pen (h.mono X) h9 h7;refine tkx 3 p5 (fun c' U j=>le1 0 bS (j.gon f 0 rfl)) (ta 4 (Q a) (ta 5 (Q a) (ta 6 (Qo a 1) (ta 7 (Qo a 1) (tkx 8 p5 (fun c' U j=>le1 1 u_3 (j.gon f 0 rfl)) (bn H fun e M H=>o1 9 (gc 9 (ba q h.m g.G g.At.Row E M) ?_)))))));rintro v14 y q0 ⟨_,b,rfl,i⟩;have a0:Kp G [] y:=(Kp.nil b);refine ⟨.inr a0,ta 10 (v14) (dn (nrm (sr (va (I d) (wln (W.block (sr (vv (B (d==0)) (wln (cn H (fun N H=>?_) (fun N H=>?_)))))))))))⟩
 ·refine W.region (va (v14) (vv (Q a) (va (Qo a 1) (va (Qo a 2) (vx (le1 2 u_3 (b.gon f 0 rfl)) (bn H fun k0 P H=>cl (lR b h.m (hG.m.le (by decide)) e g.At.Col i P) ?_))))));rintro v30 z s0 ⟨k,o,t,rfl⟩;refine WL.nil (bkn ?_);obtain rfl:=si H;exact n0 (qq z ⟨k,o,t,rfl⟩)
 refine sr (vv (B (d==1)) (wln (cn H (fun R H=>?_) (fun R H=>?_))))
 ·refine W.region (va (v14) (vv (Q a) (va (Qo a 1) (va (Qo a 2) (vx (le1 2 u_3 (b.gon f 0 rfl)) (bn H fun l0 S H=>cl (mA b h.m (hG.m.le (by decide)) e g.At.Col i S) ?_))))));rintro v38 A t0 ⟨l,p,u,rfl⟩;refine WL.nil (bkn ?_);obtain rfl:=si H;exact n0 (qq A ⟨l,p,u,rfl⟩)
 refine W.region (va (v14) (bn H fun m0 T H=>cl (kI b h.m (hG.m.le (by decide)) e i T) ?_));rintro v45 D u0 ⟨n,s,x,rfl⟩;refine WL.nil (bkn ?_);obtain rfl:=si H;exact n0 (qq D ⟨n,s,x,rfl⟩)
def gy (sg:Sto) (p0:Option Nat) (p1:Int):Option (Sto):=
 (go sg p0 p1).bind fun c=>
 (p0).bind fun b=>
 (c.place_Pen[b]?).bind fun p=>
 (aE c p.G).bind fun d=>
 (cp (σ:=Int×Sto) (τ:=Sto) ((d - 0).toNat+1) (fun a=>
 if (decide (a.1 < d))=true then
 ((orE (p1==2) ((bY (p1==0) ((a.2.place_Pen[b]?).bind fun j=>
 some (decide (a.1 > j.At.Row)))).bind fun f=>
 some f)).bind fun e=>
 (orE e ((bY (p1==1) ((a.2.place_Pen[b]?).bind fun k=>
 some (decide (a.1 < k.At.Row)))).bind fun h=>
 some h)).bind fun g=>
 if g=true then
 (a.2.place_Pen[b]?).bind fun l=>
 (aN a.2 l.G a.1).bind fun m=>
 (gn a.2 m).bind fun n=>
 some (n)
 else
 some (a.2)).bind fun o=>
 some (.inl ((w64 (a.1+1)),o))
 else
 some (.inr (a.2))) (0,c)).bind fun i=>
 some i
theorem lT (O0:Own c0 G F) (R0:Rel c0 sg G) (hG:Gl [2,4] c0) (p0:Option Nat) (f:Int) {r:Sto} (h2:Pt 2 c0 v1 p0) (H:gy sg p0 f=some r): Calls prog 191 #[v1,I f] c0.w (aq c0 fun c v=>∃G_:Gm,Own c G_ (F)∧Rel c r G_∧v= .tuple #[]):=by
 unfold gy at H;refine en func191 rfl rfl (sr (va (v1) (va (I f) (bn H fun s3 h3 H=>cl (kJ O0 R0 (hG.le (by decide)) p0 f h2 h3) ?_))));rintro v9 c8 l8 ⟨G4,O5,R6,rfl⟩;refine wln (sr (va (v1) (bn H fun f3 j1 H=>?_)));obtain ⟨b,rfl,n⟩:=((h2.mono l8)).get j1;refine vv (Q b) (bn H fun l2 k1 H=>?_);obtain ⟨v14,n1,m1⟩:=Rel.open_place_Pen R6 k1 n;refine vx (le1 0 bS (O5.gon n1 0 rfl)) (bn H fun A q1 H=>cl (aA O5 R6 l2.G m1 q1) ?_);rintro v23 R g3 ⟨x0,rfl⟩;refine va (I 0) (wln (W.block (bn H fun v2 U T=>lp U (fun a=>Jn R fun c l=>∃G_,Own c G_ (F)∧l= [(0,Q b),(1,I f),(12,I A),(13,I a.1)]∧Rel c a.2 G_) (fun S ex e w=>ex= .exit 0∧(Jn R fun c l=>∃G_,Own c G_ (F)∧l= []∧Rel c S G_) e w) ?_ ?_ ?_)))
 ·clear T U;intro a t3 i1 m2 H;revert i1 m2;rintro e_ w_ ⟨i,y2,_,rfl,i3,rfl,D,g,rfl,j⟩;refine sr (va (B (decide (a.1 < A))) (wln (W.seq (cn H (fun t1 H=>?_) (fun t1 H=>?_)))))
  ·refine W.skip (nrm (bn H fun t0 d w0=>W.seqJ (Jn i fun c l=>∃G_,Own c G_ (F)∧l= [(0,Q b),(1,I f),(12,I A),(13,I a.1)]∧Rel c t0 G_) ?_ ?_))
   ·refine W.block (sr (vv (I a.1) (wln (W.seq (bn d fun q2 X d=>bn d fun j0 z d=>W.join (Jn i fun c l=>Own c D (F)∧l= [(0,Q b),(1,I f),(4,I a.1),(12,I A),(13,I a.1),(43,B j0)]) ?_ ?_)))))
    ·clear d;refine W.region (va (I f) (va (B (f==2)) ?_));rcases bo (f==2) with o | o
     ·obtain rfl:=orT o X;refine vb o (pz (pz (pz (pz (pz (ps (va (B true) ?_)))))));have Z:true=true:=rfl;obtain rfl:=orT Z z;exact vb Z (pz (pz (pz (pz (pz (ps (va (B true) (wln (jn i ⟨g,rfl⟩)))))))))
     have u:=orF o X;refine vb o (wa (I f) (wa (B (f==0)) (wn (bn u fun s2 a0 u=>?_))));rcases bo (f==0) with p | p
     ·have E:=anT p a0;refine vb p (wa (I a.1) (wa (Q b) (wa (Q b) (wa (Qo b 1) (wa (Qo b 1) (wn (bn E fun k u1 E=>?_)))))));obtain ⟨v44,w1,c3⟩:=Rel.open_place_Pen j u1 (tm n);refine vx (le1 1 u_3 (g.gon w1 0 rfl)) (wa (B (decide (a.1 > k.At.Row))) (wn ?_));obtain rfl:=si E;refine va (B (decide (a.1 > k.At.Row))) ?_;obtain rfl:=si u;refine va (B (decide (a.1 > k.At.Row))) ?_;rcases bo (decide (a.1 > k.At.Row)) with q | q
      ·obtain rfl:=orT q z;exact vb q (pz (pz (pz (pz (pz (ps (va (B true) (wln (jn i ⟨g,rfl⟩)))))))))
      have x:=orF q z;refine vb q (wa (I f) (wa (B (f==1)) (wn (bn x fun k0 b0 x=>?_))));rcases bo (f==1) with s | s
      ·have M:=anT s b0;refine vb s (wa (I a.1) (wa (Q b) (wa (Q b) (wa (Qo b 1) (wa (Qo b 1) (wn (bn M fun h x1 M=>?_)))))));obtain ⟨v53,y1,d3⟩:=Rel.open_place_Pen j x1 (tm n);refine vx (le1 1 u_3 (g.gon y1 0 rfl)) (wa (B (decide (a.1 < h.At.Row))) (wn ?_));obtain rfl:=si M;refine va (B (decide (a.1 < h.At.Row))) ?_;obtain rfl:=si x;exact va (B (decide (a.1 < h.At.Row))) (wln (jn i ⟨g,rfl⟩))
      obtain rfl:=anF s b0;refine vb s (pz (pz (pz (ps (wa (B false) ?_)))));obtain rfl:=si x;exact va (B false) (wln (jn i ⟨g,rfl⟩))
     obtain rfl:=anF p a0;refine vb p (pz (pz (pz (ps (wa (B false) ?_)))));obtain rfl:=si u;refine va (B false) ?_;have d0:false=false:=rfl;have y:=orF d0 z;refine vb d0 (wa (I f) (wa (B (f==1)) (wn (bn y fun k0 e0 y=>?_))));rcases bo (f==1) with t | t
     ·have N:=anT t e0;refine vb t (wa (I a.1) (wa (Q b) (wa (Q b) (wa (Qo b 1) (wa (Qo b 1) (wn (bn N fun h z1 N=>?_)))))));obtain ⟨n3,b2,e3⟩:=Rel.open_place_Pen j z1 (tm n);refine vx (le1 1 u_3 (g.gon b2 0 rfl)) (wa (B (decide (a.1 < h.At.Row))) (wn ?_));obtain rfl:=si N;refine va (B (decide (a.1 < h.At.Row))) ?_;obtain rfl:=si y;exact va (B (decide (a.1 < h.At.Row))) (wln (jn i ⟨g,rfl⟩))
     obtain rfl:=anF t e0;refine vb t (pz (pz (pz (ps (wa (B false) ?_)))));obtain rfl:=si y;exact va (B false) (wln (jn i ⟨g,rfl⟩))
    rintro e_ w_ ⟨e1,z2,_,rfl,k2,rfl,P,rfl⟩;refine nrm (cn d (fun c2 d=>?_) (fun c2 d=>?_))
    ·refine W.region (vv (Q b) (va (Q b) (bn d fun m0 d2 d=>?_)));obtain ⟨o3,f2,e2⟩:=Rel.open_place_Pen (j.mono k2) d2 (tm n);refine vx (le1 0 bS (P.gon f2 0 rfl)) (va (I a.1) (bn d fun s0 g2 d=>cl (ba P j.m m0.G a.1 e2 g2) ?_));rintro p3 x2 j3 ⟨_,z0,rfl,i2⟩;refine bn d fun w2 j2 d=>cl (kI z0 j.m (hG.m.le (by decide)) s0 i2 j2) ?_;rintro q3 f1 k3 ⟨u0,a1,c1,rfl⟩;refine WL.nil (bkn (nrm ?_));obtain rfl:=si d;exact jn f1 ⟨u0,a1,rfl,c1⟩
    refine W.skip (bkn (nrm ?_));obtain rfl:=si d;exact jn e1 ⟨D,P,rfl,j.m⟩
   rintro e_ w_ ⟨g1,a3,_,rfl,l3,rfl,v0,b1,rfl,d1⟩;refine W.region (vv (I (w64 (a.1+1))) (WL.nil ?_));obtain rfl:=si w0;exact ⟨_,rfl,jn g1 ⟨v0,b1,rfl,d1⟩⟩
  refine W.exit (thx ?_);obtain rfl:=si H;exact ⟨_,rfl,rfl,jn i ⟨D,g,rfl,j⟩⟩
 ·exact jn R ⟨G4,x0,rfl,R6.m⟩
 rintro _ e_ w_ ⟨rfl,h1,b3,_,rfl,m3,rfl,f0,g0,rfl,h0⟩;refine bke ?_;obtain rfl:=si T;exact n0 (qq h1 ⟨f0,g0,h0,rfl⟩)
def ik (sg:Sto) (p0:Option Nat) (p1:dH):Option (Sto):=
 (p0).bind fun e=>
 (sg.place_Pen[e]?).bind fun a=>
 (aN sg a.G a.At.Row).bind fun c=>
 if (p1.Kind==2)=true then
 (aU sg a.G).bind fun f=>
 (aE sg a.G).bind fun g=>
 (fw p1.A p1.B f g).bind fun h=>
 (sg.set_place_Pen e (⟨a.G,h,a.Auto⟩:aC)).bind fun d=>
 some d
 else
 if (p1.Kind==3)=true then
 (go sg p0 p1.A).bind fun i=>
 some i
 else
 if (p1.Kind==4)=true then
 (gy sg p0 p1.A).bind fun j=>
 some j
 else
 if (p1.Kind==5)=true then
 (gx sg c a.At.Col p1.A).bind fun k=>
 some k
 else
 if (p1.Kind==6)=true then
 (fV sg c a.At.Col p1.A).bind fun l=>
 some l
 else
 if (p1.Kind==7)=true then
 (fW sg c a.At.Col p1.A).bind fun m=>
 some m
 else
 if (p1.Kind==12)=true then
 (sg.set_place_Pen e (⟨a.G,a.At,p1.A != 0⟩:aC)).bind fun b=>
 some b
 else
 some sg
theorem mB (O0:Own c0 G F) (k:Rel c0 sg G) (hG:Gl [2,4] c0) (D:Option Nat) (b:dH) {r:Sto} (h2:Pt 2 c0 v1 D) (h4:Sl (RI .u8) c0 v3 b.Bytes) (H:ik sg D b=some r): Calls prog 123 #[v1,.agg #[I b.Kind,I b.A,I b.B,v3]] c0.w (aq c0 fun c v=>∃G_:Gm,Own c G_ (F)∧Rel c r G_∧v= .tuple #[]):=by
 unfold ik at H;refine en func123 rfl rfl (sr ?_);obtain ⟨a5,a6,a7,rfl⟩:=(h4).form;refine me (bx 38 [I b.Kind,I b.A,I b.B,.slice a5 a6 a7] O0) ?_;rintro v12 e4 q ⟨n,rfl,O9,i⟩;refine wln (W.seq (rD [] (Kp G []) O9 ?_));intro b2 s E;have e0:Kp G [] b2:=(Kp.nil E);refine ta 0 (v1) (bn H fun g4 n2 H=>?_);obtain ⟨a,rfl,x⟩:=((h2.mono (q.trans s))).get n2;refine ta 1 (Q a) (ta 2 (Q a) (bn H fun d o2 H=>?_));obtain ⟨v20,h,o⟩:=Rel.open_place_Pen (k.mono (q.trans s)) o2 x;refine tkx 3 e0 (fun l f j=>le1 0 bS (j.gon h 0 rfl)) (ta 4 (Q a) (ta 5 (Q a) (ta 6 (Qo a 1) (ta 7 (Qo a 1) (tkx 8 e0 (fun l f j=>le1 1 u_3 (j.gon h 0 rfl)) (bn H fun p p2 H=>o1 9 (gc 9 (ba E k.m d.G d.At.Row o p2) ?_)))))));rintro v24 U t ⟨_,g,rfl,y⟩;have d3:Kp G [] U:=(Kp.nil g);refine ⟨.inr d3,ta 10 (v24) (dn (nrm (sr (va (Q n) (vx (l1 u_3 ((mm i) 0 _ rfl)) (wln (W.block (sr (vv (B (b.Kind==2)) (wln (cn H (fun q2 H=>?_) (fun q2 H=>?_))))))))))))⟩
 ·refine rD [18] (Kp G []) g ?_;intro c2 X M;have f0:Kp G [] c2:=(Kp.nil M);refine ta 0 (Q a) (ta 1 (Qo n (0+1)) (tx 2 (fun l f=>l1 u_3 ((mm i) 1 _ rfl)) (ta 3 (Qo n (0+2)) (tx 4 (fun l f=>l1 u_3 ((mm i) 2 _ rfl)) (ta 5 (Q a) (ta 6 (Q a) (ta 7 (Q a) (tkx 8 f0 (fun l f j=>le1 0 bS (j.gon h 0 rfl)) (ta 10 (Q a) (ta 11 (Q a) (ta 12 (Q a) (tkx 13 f0 (fun l f j=>le1 0 bS (j.gon h 0 rfl)) (bn H fun f1 s2 H=>o1 9 (gc 9 (aV M k.m d.G o.m s2) ?_))))))))))))));rintro v43 d2 Z ⟨N,rfl⟩;have e3:Kp G [] d2:=(Kp.nil N);refine ⟨.inr e3,bn H fun g1 t2 H=>o1 14 (gc 14 (aA N k.m d.G o.m t2) ?_)⟩;rintro v51 e2 a0 ⟨P,rfl⟩;have f3:Kp G [] e2:=(Kp.nil P);refine ⟨.inr f3,bn H fun e u2 H=>o1 15 (gc 15 (jv P b.A b.B f1 g1 u2) ?_)⟩;rintro v59 f2 b0 ⟨R,rfl⟩;have g3:Kp G [] f2:=(Kp.nil R);refine ⟨.inr g3,ta 16 (Q a) (ta 17 (Qo a 1) (o1 18 (gD 18 (gB 29 1 [I e.Row,I e.Col,B e.Pending] [v20,I e.Row,I e.Col,B e.Pending,B d.Auto] 0 R h ⟨rfl,rfl,rfl,trivial⟩) ?_)))⟩;rintro g2 d0 n1;refine bn H fun h1 v2 H=>?_;obtain ⟨i1,q1,w1,f4,d4⟩:=Rel.put_place_Pen n1 (k.mono (q.trans (s.trans (t.trans (X.trans (Z.trans (a0.trans (b0.trans d0)))))))) (E':=[(Eb a 126 [v20,I e.Row,I e.Col,B e.Pending,B d.Auto])]) v2 ⟨a,v20,(tm x),rfl,(o.mono (t.trans (X.trans (Z.trans (a0.trans (b0.trans d0))))))⟩;refine ⟨.inl rfl,dn (bkn ?_)⟩;obtain rfl:=si H;exact n0 (qq g2 ⟨i1,q1,w1,rfl⟩)
 refine sr (vv (B (b.Kind==3)) (wln (cn H (fun w2 H=>?_) (fun w2 H=>?_))))
 ·refine W.region (va (Q a) (va (Qo n (0+1)) (vx (l1 u_3 ((mm i) 1 _ rfl)) (bn H fun y3 x2 H=>cl (kJ g k.m (hG.m.le (by decide)) D b.A h2.m x2) ?_))));rintro n4 i2 i4 ⟨j1,s1,x1,rfl⟩;refine WL.nil (bkn ?_);obtain rfl:=si H;exact n0 (qq i2 ⟨j1,s1,x1,rfl⟩)
 refine sr (vv (B (b.Kind==4)) (wln (cn H (fun y2 H=>?_) (fun y2 H=>?_))))
 ·refine W.region (va (Q a) (va (Qo n (0+1)) (vx (l1 u_3 ((mm i) 1 _ rfl)) (bn H fun z3 z2 H=>cl (lT g k.m (hG.m.le (by decide)) D b.A h2.m z2) ?_))));rintro o4 j2 j4 ⟨k1,t1,y1,rfl⟩;refine WL.nil (bkn ?_);obtain rfl:=si H;exact n0 (qq j2 ⟨k1,t1,y1,rfl⟩)
 refine sr (vv (B (b.Kind==5)) (wln (cn H (fun a3 H=>?_) (fun a3 H=>?_))))
 ·refine rD [8] (Kp G []) g ?_;intro k2 k4 S;have h3:Kp G [] k2:=(Kp.nil S);refine ta 0 (v24) (ta 1 (Q a) (ta 2 (Q a) (ta 3 (Qo a 1) (ta 4 (Qo a 2) (tkx 5 h3 (fun l f j=>le1 2 u_3 (j.gon h 0 rfl)) (ta 6 (Qo n (0+1)) (tx 7 (fun l f=>l1 u_3 ((mm i) 1 _ rfl)) (bn H fun a4 b3 H=>o1 8 (gc 8 (lS S k.m (hG.m.le (by decide)) p d.At.Col b.A y.m b3) ?_)))))))));rintro p4 l2 l4 ⟨m1,u1,z1,rfl⟩;refine ⟨.inl rfl,dn (bkn ?_)⟩;obtain rfl:=si H;exact n0 (qq l2 ⟨m1,u1,z1,rfl⟩)
 refine sr (vv (B (b.Kind==6)) (wln (cn H (fun c3 H=>?_) (fun c3 H=>?_))))
 ·refine rD [8] (Kp G []) g ?_;intro m2 m4 T;have i3:Kp G [] m2:=(Kp.nil T);refine ta 0 (v24) (ta 1 (Q a) (ta 2 (Q a) (ta 3 (Qo a 1) (ta 4 (Qo a 2) (tkx 5 i3 (fun l f j=>le1 2 u_3 (j.gon h 0 rfl)) (ta 6 (Qo n (0+1)) (tx 7 (fun l f=>l1 u_3 ((mm i) 1 _ rfl)) (bn H fun b4 x0 H=>o1 8 (gc 8 (lu T k.m (hG.m.le (by decide)) p d.At.Col b.A y.m x0) ?_)))))))));rintro w3 t0 s3 ⟨g0,j0,o0,rfl⟩;refine ⟨.inl rfl,dn (bkn ?_)⟩;obtain rfl:=si H;exact n0 (qq t0 ⟨g0,j0,o0,rfl⟩)
 refine sr (vv (B (b.Kind==7)) (wln (cn H (fun y0 H=>?_) (fun y0 H=>?_))))
 ·refine rD [8] (Kp G []) g ?_;intro u0 t3 u;have d1:Kp G [] u0:=(Kp.nil u);refine ta 0 (v24) (ta 1 (Q a) (ta 2 (Q a) (ta 3 (Qo a 1) (ta 4 (Qo a 2) (tkx 5 d1 (fun l f j=>le1 2 u_3 (j.gon h 0 rfl)) (ta 6 (Qo n (0+1)) (tx 7 (fun l f=>l1 u_3 ((mm i) 1 _ rfl)) (bn H fun c4 z0 H=>o1 8 (gc 8 (lv u k.m (hG.m.le (by decide)) p d.At.Col b.A y.m z0) ?_)))))))));rintro x3 v0 u3 ⟨h0,k0,q0,rfl⟩;refine ⟨.inl rfl,dn (bkn ?_)⟩;obtain rfl:=si H;exact n0 (qq v0 ⟨h0,k0,q0,rfl⟩)
 refine sr (vv (B (b.Kind==12)) (wln (cn H (fun a1 H=>?_) (fun a1 H=>?_))))
 ·refine W.region (va (Q a) (va (Qo n (0+1)) (vx (l1 u_3 ((mm i) 1 _ rfl)) (va (B (b.A != 0)) (va (Q a) (va (Qo a 4) (md (gC 4 4 (B (b.A != 0)) [v20,I d.At.Row,I d.At.Col,B d.At.Pending,B (b.A != 0)] 0 g h ⟨rfl,trivial⟩) ?_)))))));rintro w0 z l0;refine bn H fun e1 b1 H=>?_;obtain ⟨i0,m0,s0,p3,l3⟩:=Rel.put_place_Pen l0 (k.mono (q.trans (s.trans (t.trans z)))) (E':=[(Eb a 126 [v20,I d.At.Row,I d.At.Col,B d.At.Pending,B (b.A != 0)])]) b1 ⟨a,v20,(tm x),rfl,(o.mono (t.trans z))⟩;refine WL.nil (bkn ?_);obtain rfl:=si H;exact n0 (qq w0 ⟨i0,m0,s0,rfl⟩)
 refine W.skip (bkn ?_);obtain rfl:=si H;exact n0 (qq U ⟨G,g,k.m,rfl⟩)
def kn (sg:Sto) (p0:Option Nat) (p1:dH):Option (Sto×Er):=
 (fO p1).bind fun g=>
 if (!g.isNil)=true then
 some (sg,g)
 else
 (orE p0.isNone ((p0).bind fun i=>
 (sg.place_Pen[i]?).bind fun j=>
 some j.G.isNone)).bind fun h=>
 if h=true then
 some (sg,Er.nil)
 else
 (p0).bind fun d=>
 (sg.place_Pen[d]?).bind fun b=>
 (aU sg b.G).bind fun k=>
 (aE sg b.G).bind fun l=>
 (dd b.At k l).bind fun e=>
 (sg.set_place_Pen d (⟨b.G,e,b.Auto⟩:aC)).bind fun f=>
 (f.set_place_Pen d (⟨b.G,(⟨e.Row,e.Col,false⟩:ah),b.Auto⟩:aC)).bind fun a=>
 (if (p1.Kind==8)=true then
 (fA a p0 p1).bind fun c=>
 some (c)
 else
 if (p1.Kind==9)=true then
 (fA a p0 p1).bind fun c=>
 some (c)
 else
 (if (p1.Kind==10)=true then
 some (p1.Kind==10)
 else
 some (p1.Kind==11)).bind fun o=>
 if o=true then
 (fA a p0 p1).bind fun c=>
 some (c)
 else
 (ik a p0 p1).bind fun m=>
 some (m)).bind fun n=>
 some (n,Er.nil)
theorem oz (O0:Own c0 G F) (t:Rel c0 sg G) (hG:Gl [2,4] c0) (s:Option Nat) (e:dH) {r:Sto×Er} (u:Pt 2 c0 v1 s) (P:Sl (RI .u8) c0 v3 e.Bytes) (H:kn sg s e=some r): Calls prog 76 #[v1,.agg #[I e.Kind,I e.A,I e.B,v3]] c0.w (aq c0 fun c v=>∃y1,∃G_:Gm,Own c G_ (F)∧Rel c r.1 G_∧v=y1∧RE 350 144 c y1 r.2):=by
 unfold kn at H;refine en func76 rfl rfl (sr ?_);obtain ⟨a5,a6,a7,rfl⟩:=(P).form;refine me (bx 38 [I e.Kind,I e.A,I e.B,.slice a5 a6 a7] O0) ?_;rintro v12 w4 p ⟨b8,rfl,O9,k⟩;refine va (.nilIface) (wln (W.seq (sr (vx (lN 38 k) (bn H fun x3 z2 H=>cl (jX O9 (hG.m.le (by decide)) e P.m z2) ?_)))));rintro v14 D q ⟨_,x,rfl,o0⟩;refine va (v14) (wln (sr (va (v14) (vr (B (!x3.isNil)) (by rcases (o0).cs with ⟨h,i⟩ | ⟨b_,h,i⟩ | ⟨b_,h,i⟩ <;> (subst h; rw [i]; kernel_rfl)) (wln (cn H (fun a3 H=>?_) (fun a3 H=>?_)))))))
 ·refine sr (vv (v14) (wln (W.ret (thr ?_))));obtain rfl:=si H;exact r1 (qq D ⟨v14,G,x,t.m,rfl,o0⟩)
 refine W.skip (nrm (W.seq (W.seq (bn H fun n1 q0 H=>W.join (Jn D fun c l=>Own c G (F)∧l= [(0,v1),(3,Q b8),(19,B n1)]) ?_ ?_))))
 ·clear H;refine W.region (va (v1) (vr (B s.isNone) (by rcases u.m.cs with ⟨h,i⟩ | ⟨b_,h,i⟩ <;> (subst h; rw [i]; kernel_rfl)) ?_));rcases bo (s.isNone) with o | o
  ·obtain rfl:=orT o q0;exact vb o (pz (pz (ps (va (B true) (wln (jn D ⟨x,rfl⟩))))))
  have n:=orF o q0;refine vb o (wa (v1) (wn (bn n fun i4 c3 n=>?_)));obtain ⟨m0,rfl,b3⟩:=((u.mono (p.trans q))).get c3;refine va (Q m0) (wa (Q m0) (wn (bn n fun e0 d3 n=>?_)));obtain ⟨v30,f3,e3⟩:=Rel.open_place_Pen (t.mono (p.trans q)) d3 b3;refine vx (le1 0 bS (x.gon f3 0 rfl)) (wn (vr (B e0.G.isNone) (by rcases (e3).cs with ⟨h,i⟩ | ⟨b_,h,i⟩ <;> (subst h; rw [i]; kernel_rfl)) ?_));obtain rfl:=si n;exact va (B e0.G.isNone) (wln (jn D ⟨x,rfl⟩))
 rintro e_ w_ ⟨s2,y4,_,rfl,U,rfl,h0,rfl⟩;refine nrm (cn H (fun g3 H=>?_) (fun g3 H=>?_))
 ·refine sr (va (.nilIface) (wln (W.ret (thr ?_))));obtain rfl:=si H;exact r1 (qq s2 ⟨.nilIface,G,h0,t.m,rfl,rfl⟩)
 refine W.skip (nrm (W.seq (rD [18] (Kp G []) h0 ?_)));intro t2 X i0;have f0:Kp G [] t2:=(Kp.nil i0);refine ta 0 (v1) (ta 1 (v1) (bn H fun j4 h3 H=>?_));obtain ⟨a,rfl,S⟩:=((u.mono (p.trans (q.trans (U.trans X))))).get h3;refine ta 2 (Q a) (ta 3 (Qo a 1) (bn H fun d i3 H=>?_));obtain ⟨v47,N,M⟩:=Rel.open_place_Pen (t.mono (p.trans (q.trans (U.trans X)))) i3 S;refine tkx 4 f0 (fun c' s0 T=>leN 29 1 [I d.At.Row,I d.At.Col,B d.At.Pending] (T.gon N 0 rfl)) (ta 5 (Q a) (ta 6 (Q a) (ta 7 (Q a) (tkx 8 f0 (fun c' s0 T=>le1 0 bS (T.gon N 0 rfl)) (ta 10 (Q a) (ta 11 (Q a) (ta 12 (Q a) (tkx 13 f0 (fun c' s0 T=>le1 0 bS (T.gon N 0 rfl)) (bn H fun z1 j3 H=>o1 9 (gc 9 (aV i0 t.m d.G M j3) ?_))))))))));rintro v56 u2 Z ⟨j0,rfl⟩;have s3:Kp G [] u2:=(Kp.nil j0);refine ⟨.inr s3,bn H fun b2 k3 H=>o1 14 (gc 14 (aA j0 t.m d.G M.m k3) ?_)⟩;rintro c5 v2 a0 ⟨k0,rfl⟩;have t3:Kp G [] v2:=(Kp.nil k0);refine ⟨.inr t3,bn H fun b l3 H=>o1 15 (gc 15 (bI k0 d.At z1 b2 l3) ?_)⟩;rintro d5 w2 b0 ⟨l0,rfl⟩;have u3:Kp G [] w2:=(Kp.nil l0);refine ⟨.inr u3,ta 16 (Q a) (ta 17 (Qo a 1) (o1 18 (gD 18 (gB 29 1 [I b.Row,I b.Col,B b.Pending] [v47,I b.Row,I b.Col,B b.Pending,B d.Auto] 0 l0 N ⟨rfl,rfl,rfl,trivial⟩) ?_)))⟩;rintro x4 d0 k2;refine bn H fun e2 n3 H=>?_;obtain ⟨t4,l2,o2,m3,u4⟩:=Rel.put_place_Pen k2 (t.mono (p.trans (q.trans (U.trans (X.trans (Z.trans (a0.trans (b0.trans d0)))))))) (E':=[(Eb a 126 [v47,I b.Row,I b.Col,B b.Pending,B d.Auto])]) n3 ⟨a,v47,(tm S),rfl,(M.mono (Z.trans (a0.trans (b0.trans d0))))⟩;refine ⟨.inl rfl,dn (nrm (sr (vv (Q a) (va (Qo a 1) (va (Qo a 3) (md (gC 4 3 (B false) [v47,I b.Row,I b.Col,B false,B d.Auto] 0 l2 m3 ⟨rfl,trivial⟩) ?_))))))⟩;rintro E t0 m2;refine bn H fun f2 o3 H=>?_;obtain ⟨g2,y,z,z4,v4⟩:=Rel.put_place_Pen m2 (o2.mono t0) (E':=[(Eb a 126 [v47,I b.Row,I b.Col,B false,B d.Auto])]) o3 ⟨a,v47,(tm S),rfl,(M.mono (Z.trans (a0.trans (b0.trans (d0.trans t0)))))⟩;refine wln (bn H fun c2 f j2=>W.seqJ (Jn E fun c l=>∃G_,Own c G_ (F)∧l= []∧Rel c c2 G_) ?_ ?_)
 ·refine sr (va (Q b8) (vx (l1 u_3 ((mm k) 0 _ rfl)) (wln (W.block (W.seq (W.block (W.seq (W.block (W.block (W.block (W.seq (W.seq (sr (vv (B (e.Kind==8)) (wln (cn f (fun p3 f=>?_) (fun p3 f=>?_)))))))))))))))))
  ·refine W.exit (thx (thx (bke (bkn (bkn (nrm (sr (va (Q a) (vx (lN 38 (mm k)) (bn f fun g0 q3 f=>cl (ja y z s e u.m P.m q3) ?_))))))))));rintro e5 x2 b5 ⟨i2,n2,p2,rfl⟩;refine wln (W.exit (bko rfl (thx (bke (nrm ?_)))));obtain rfl:=si f;exact jn x2 ⟨i2,n2,rfl,p2⟩
  refine W.skip (nrm (W.seq (sr (vv (B (e.Kind==9)) (wln (cn f (fun q1 f=>?_) (fun q1 f=>?_)))))))
  ·refine W.exit (thx (thx (bko rfl (bke (bkn (nrm (sr (va (Q a) (vx (lN 38 (mm k)) (bn f fun g0 s1 f=>cl (ja y z s e u.m P.m s1) ?_))))))))));rintro p4 i1 k4 ⟨u0,y0,c1,rfl⟩;refine wln (W.exit (bko rfl (thx (bke (nrm ?_)))));obtain rfl:=si f;exact jn i1 ⟨u0,y0,rfl,c1⟩
  refine W.skip (nrm (bn f fun d2 j g=>W.seqJ (Jn E fun c l=>Own c g2 (F)∧l= [(0,Q a),(3,Q b8),(48,B d2)]) ?_ ?_))
  ·refine sr (vv (B (e.Kind==10)) (wln (cn j (fun t1 j=>?_) (fun t1 j=>?_))))
   ·refine W.skip (nrm ?_);obtain rfl:=si j;exact jn E ⟨y,rfl⟩
   refine W.region (vv (B (e.Kind==11)) (wln ?_));obtain rfl:=si j;exact jn E ⟨y,rfl⟩
  rintro e_ w_ ⟨e4,f4,_,rfl,l4,rfl,R,rfl⟩;refine cn g (fun u1 g=>?_) (fun u1 g=>?_)
  ·refine W.exit (thx (bko rfl (bko rfl (bke (nrm (sr (va (Q a) (vx (lN 38 (mm k)) (bn g fun g0 w1 g=>cl (ja R z.m s e u.m P.m w1) ?_)))))))));rintro q4 j1 m4 ⟨v0,z0,d1,rfl⟩;refine wln (W.exit (bko rfl (thx (bke (nrm ?_)))));obtain rfl:=si g;exact jn j1 ⟨v0,z0,rfl,d1⟩
  refine W.skip (nrm (W.exit (bko rfl (bko rfl (bko rfl (thx (bke (nrm (sr (va (Q a) (vx (lN 38 (mm k)) (bn g fun s4 x1 g=>cl (mB R z.m (hG.m.le (by decide)) s e u.m P.m x1) ?_))))))))))));rintro r4 k1 n4 ⟨w0,a1,e1,rfl⟩;refine wln (W.exit (bke (nrm ?_)));obtain rfl:=si g;exact jn k1 ⟨w0,a1,rfl,e1⟩
 rintro e_ w_ ⟨m1,g4,_,rfl,o4,rfl,x0,b1,rfl,f1⟩;refine sr (va (.nilIface) (wln (W.ret ?_)));obtain rfl:=si j2;exact r1 (qq m1 ⟨.nilIface,x0,b1,f1,rfl,rfl⟩)
def hF (sg:Sto) (p0:Int) (p1:Int):Option (Sto×(Option Nat)):=
 (iL sg p0 p1).bind fun b=>
 (jD b.1 b.2).bind fun c=>
 (some (c.1.add_screen_Screen (⟨c.2,b.2⟩:bL))).bind fun a=>
 some (a,(some c.1.screen_Screen.length))
theorem mu (O0:Own c0 G F) (R0:Rel c0 sg G) (g:Int) (h:Int) {r:Sto×(Option Nat)} (H:hF sg g h=some r): Calls prog 32 #[I g,I h] c0.w (aq c0 fun c v=>∃y1,∃G_:Gm,Own c G_ (F)∧Rel c r.1 G_∧bN G G_∧v=y1∧Pt 5 c y1 r.2):=by
 unfold hF at H;refine en func32 rfl rfl (sr (va (.pointer none) (wln (sr (va (I g) (va (I h) (bn H fun n h1 H=>cl (nb O0 R0 g h h1) ?_)))))));rintro v2 c8 l8 ⟨_,G4,O5,R6,a7,rfl,p⟩;have D:=(bN.refl _).trans a7;refine va (v2) (wln (sr (va (v2) (bn H fun o R H=>cl (nB O5 R6 n.2 p R) ?_))));rintro v12 j0 m ⟨_,i0,t,A,M,rfl,l⟩;have j:=D.trans M;refine va (v2) ?_;obtain ⟨d,rfl⟩:=(l).form;obtain ⟨e,rfl⟩:=((p.mono m)).form;refine va (.agg #[.pointer d,.pointer e]) (me (al 131 [.pointer d,.pointer e] t) ?_);rintro v26 k0 f ⟨a,rfl,u⟩;have y:=u.sD 1 [0];refine bn H fun q S H=>?_;obtain ⟨k,s,T,o0,U,z,i,l0,X,N⟩:=Rel.new_screen_Screen (E:=[(Eb a 131 [.pointer d,.pointer e])]) (F:=F) (x:=(⟨o.2,n.2⟩:bL)) (b:=a) y (A.mono f) (fun c_ hle_=>⟨a,(.pointer d),(.pointer e),rfl,rfl,(l.mono (f.trans hle_)),(p.mono ((m.trans f).trans hle_))⟩);rw [ai S] at i;refine WL.gh T.1 ?_;have m0:=bN.nil j X;have P:=j.trans N;have Z:Pt 5 k (Q a) (some o.1.screen_Screen.length):=⟨a,rfl,U⟩;refine va (Q a) (wln (W.ret ?_));obtain rfl:=si H;exact r1 (qq k ⟨(Q a),s,z,i,P,rfl,Z⟩)
def eF (sg:Sto) (p0:Option Nat) (p1:dH):Option (Sto×Er):=
 if p0.isNone=true then
 some (sg,(Er.sent 7))
 else
 if (p1.Kind==0)=true then
 (p0).bind fun g=>
 (sg.screen_Screen[g]?).bind fun i=>
 (ek sg i.Feeder p1.Bytes).bind fun o=>
 some (o,Er.nil)
 else
 if (p1.Kind==1)=true then
 (p0).bind fun h=>
 (sg.screen_Screen[h]?).bind fun j=>
 (ej sg j.Feeder).bind fun p=>
 some (p,Er.nil)
 else
 if (p1.Kind==13)=true then
 (p0).bind fun a=>
 (sg.screen_Screen[a]?).bind fun k=>
 (bX sg k.Feeder).bind fun c=>
 (c.screen_Screen[a]?).bind fun l=>
 (gu c l.pen p1.A p1.B).bind fun q=>
 some (q,Er.nil)
 else
 (fO p1).bind fun d=>
 if (!d.isNil)=true then
 some (sg,d)
 else
 (p0).bind fun b=>
 (sg.screen_Screen[b]?).bind fun m=>
 (bX sg m.Feeder).bind fun e=>
 (e.screen_Screen[b]?).bind fun n=>
 (kn e n.pen p1).bind fun f=>
 some (f.1,f.2)
theorem jF (O0:Own c0 G F) (d:Rel c0 sg G) (hG:Gl [2,4,7] c0) (p0:Option Nat) (a:dH) {r:Sto×Er} (t:Pt 5 c0 v1 p0) (z:Sl (RI .u8) c0 v3 a.Bytes) (H:eF sg p0 a=some r): Calls prog 66 #[v1,.agg #[I a.Kind,I a.A,I a.B,v3]] c0.w (aq c0 fun c v=>∃y1,∃G_:Gm,Own c G_ (F)∧Rel c r.1 G_∧v=y1∧RE 350 144 c y1 r.2):=by
 unfold eF at H;refine en func66 rfl rfl (sr ?_);obtain ⟨a5,a6,a7,rfl⟩:=(z).form;refine me (bx 38 [I a.Kind,I a.A,I a.B,.slice a5 a6 a7] O0) ?_;rintro v12 s1 b ⟨y,rfl,l,h⟩;refine va (.nilIface) (wln (W.seq (sr (va (v1) (vr (B p0.isNone) (by rcases t.m.cs with ⟨e,f⟩ | ⟨b_,e,f⟩ <;> (subst e; rw [f]; kernel_rfl)) (wln (cn H (fun c2 H=>?_) (fun c2 H=>?_))))))))
 ·refine sr ?_;obtain ⟨v14,S⟩:=(hG.mono b).get 7 (by decide);refine vx (l1 mK S.im) (va (v14) (wln (W.ret (thr ?_))));obtain rfl:=si H;exact r1 (qq s1 ⟨v14,G,l,d.m,rfl,S⟩)
 refine W.skip (nrm (W.seq (sr (va (Q y) (vx (l1 u_3 (h 0 _ rfl)) (wln (W.block (sr (vv (B (a.Kind==0)) (wln (cn H (fun d2 H=>?_) (fun d2 H=>?_))))))))))))
 ·refine rD [6] (Kp G []) l ?_;intro t1 Z E;have i3:Kp G [] t1:=(Kp.nil E);refine ta 0 (v1) (bn H fun t3 f2 H=>?_);obtain ⟨P,rfl,e2⟩:=((t.mono (b.trans Z))).get f2;refine ta 1 (Q P) (ta 2 (Q P) (bn H fun u0 g2 H=>?_));obtain ⟨v24,v26,j2,i2,n4⟩:=Rel.open_screen_Screen (d.mono (b.trans Z)) g2 e2;refine tkx 3 i3 (fun n g u=>le1 0 nO (u.gon j2 0 rfl)) (ta 4 (Qo y (0+3)) (tx 5 (fun n g=>l1 kL ((mm h) 3 _ rfl)) (bn H fun f4 k2 H=>o1 6 (gc 6 (jm E d.m (hG.m.le (by decide)) u0.Feeder a.Bytes i2 z.m k2) ?_))));rintro v35 u1 r4 ⟨d1,g1,k1,rfl⟩;refine ⟨.inl rfl,dn (bkn (nrm (sr (va (.nilIface) (wln (W.ret ?_))))))⟩;obtain rfl:=si H;exact r1 (qq u1 ⟨.nilIface,d1,g1,k1,rfl,rfl⟩)
 refine sr (vv (B (a.Kind==1)) (wln (cn H (fun l2 H=>?_) (fun l2 H=>?_))))
 ·refine W.region (va (v1) (bn H fun u3 n2 H=>?_));obtain ⟨R,rfl,m2⟩:=((t.mono b)).get n2;refine vv (Q R) (bn H fun v0 o2 H=>?_);obtain ⟨v41,v43,q2,p2,o4⟩:=Rel.open_screen_Screen (d.mono b) o2 m2;refine vx (le1 0 nO (l.gon q2 0 rfl)) (bn H fun g4 s2 H=>cl (jl l d.m (hG.m.le (by decide)) v0.Feeder p2 s2) ?_);rintro v52 w1 s4 ⟨e1,h1,m1,rfl⟩;refine WL.nil (bkn (nrm (sr (va (.nilIface) (wln (W.ret ?_))))));obtain rfl:=si H;exact r1 (qq w1 ⟨.nilIface,e1,h1,m1,rfl,rfl⟩)
 refine sr (vv (B (a.Kind==13)) (wln (cn H (fun t2 H=>?_) (fun t2 H=>?_))))
 ·refine sr (va (v1) (bn H fun w3 u2 H=>?_));obtain ⟨i,rfl,T⟩:=((t.mono b)).get u2;refine vv (Q i) (bn H fun w0 v2 H=>?_);obtain ⟨v58,v60,x2,w2,p4⟩:=Rel.open_screen_Screen (d.mono b) v2 T;refine vx (le1 0 nO (l.gon x2 0 rfl)) (bn H fun i4 y2 H=>cl (dl l d.m w0.Feeder w2 y2) ?_);rintro v4 m4 t4 ⟨D,i1,N,rfl⟩;refine wln (rD [8] (Kp D []) i1 ?_);intro x1 h3 M;have j3:Kp D [] x1:=(Kp.nil M);refine ta 0 (Q i) (ta 1 (Q i) (ta 2 (Qo i 1) (bn H fun x0 z2 H=>?_)));obtain ⟨w4,x4,b3,q4,a3⟩:=Rel.open_screen_Screen (N.mono h3) z2 (tm T);refine tkx 3 j3 (fun n g u=>le1 1 kE (u.gon b3 0 rfl)) (ta 4 (Qo y (0+1)) (tx 5 (fun n g=>l1 u_3 ((mm h) 1 _ rfl)) (ta 6 (Qo y (0+2)) (tx 7 (fun n g=>l1 u_3 ((mm h) 2 _ rfl)) (bn H fun j4 c3 H=>o1 8 (gc 8 (lM M N.m (hG.m.le (by decide)) x0.pen a.A a.B a3 c3) ?_))))));rintro y4 z1 u4 ⟨f1,j1,n1,rfl⟩;refine ⟨.inl rfl,dn (bkn (nrm (sr (va (.nilIface) (wln (W.ret ?_))))))⟩;obtain rfl:=si H;exact r1 (qq z1 ⟨.nilIface,f1,j1,n1,rfl,rfl⟩)
 refine W.seq (sr (vx (lN 38 h) (bn H fun c1 d3 H=>cl (jX l (hG.m.le (by decide)) a z.m d3) ?_)));rintro k b2 a0 ⟨_,q,rfl,U⟩;refine va (k) (wln (sr (va (k) (vr (B (!c1.isNil)) (by rcases (U).cs with ⟨e,f⟩ | ⟨b_,e,f⟩ | ⟨b_,e,f⟩ <;> (subst e; rw [f]; kernel_rfl)) (wln (cn H (fun e3 H=>?_) (fun e3 H=>?_)))))))
 ·refine sr (vv (k) (wln (W.ret (thr (bkr (thr ?_))))));obtain rfl:=si H;exact r1 (qq b2 ⟨k,G,q,d.m,rfl,U⟩)
 refine W.skip (nrm (sr (va (v1) (bn H fun x3 f3 H=>?_))));obtain ⟨j,rfl,X⟩:=((t.mono (b.trans a0))).get f3;refine vv (Q j) (bn H fun y0 g3 H=>?_);obtain ⟨a4,b4,j0,i0,q3⟩:=Rel.open_screen_Screen (d.mono (b.trans a0)) g3 X;refine vx (le1 0 nO (q.gon j0 0 rfl)) (bn H fun k4 k0 H=>cl (dl q d.m y0.Feeder i0 k0) ?_);rintro c4 p3 y3 ⟨o,d0,s,rfl⟩;refine wln (W.seq (rD [5] (Kp o []) d0 ?_));intro g0 t0 p;have b1:Kp o [] g0:=(Kp.nil p);refine ta 0 (Q j) (ta 1 (Q j) (ta 2 (Qo j 1) (bn H fun z0 l0 H=>?_)));obtain ⟨d4,e4,o0,s3,m0⟩:=Rel.open_screen_Screen (s.mono t0) l0 (tm X);refine tkx 3 b1 (fun n g u=>le1 1 kE (u.gon o0 0 rfl)) (tx 4 (fun n g=>lN 38 (mm h)) (bn H fun l4 q0 H=>o1 5 (gc 5 (oz p s.m (hG.m.le (by decide)) z0.pen a m0 z.m q0) ?_)));rintro x h0 z3 ⟨_,b0,e0,f0,rfl,s0⟩;refine ⟨.inl rfl,ta 6 (x) (dn (nrm (W.ret (bkr (thr ?_)))))⟩;obtain rfl:=si H;exact r1 (qq h0 ⟨x,b0,e0,f0,rfl,s0⟩)
def cX (sg:Sto) (p0:Option Nat):Option (aR):=
 if p0.isNone=true then
 some (⟨0,0,([]:List aP),(⟨0,0,false⟩:ah),false⟩:aR)
 else
 (p0).bind fun b=>
 (sg.screen_Screen[b]?).bind fun d=>
 (d.pen).bind fun c=>
 (sg.place_Pen[c]?).bind fun a=>
 (aU sg a.G).bind fun e=>
 (aE sg a.G).bind fun f=>
 (eT sg a.G).bind fun g=>
 some (⟨e,f,g,a.At,a.Auto⟩:aR)
theorem fE (O0:Own c0 G F) (o:Rel c0 sg G) (U:Option Nat) {r:aR} (h2:Pt 5 c0 v1 U) (H:cX sg U=some r): Calls prog 37 #[v1] c0.w (aq c0 fun c v=>∃X y2,Own c G (es true aO X 48 y2 r.Lines :: F)∧v= .agg #[I r.Wide,I r.High,X,I r.At.Row,I r.At.Col,B r.At.Pending,B r.Auto]∧OA aO c X y2 r.Lines):=by
 unfold cX at H;refine en func37 rfl rfl (sr (me (al 45 [I 0,I 0,Y,I 0,I 0,B false,B false] O0) ?_));rintro v6 c5 T ⟨b3,rfl,y⟩;refine wln (W.seq (sr (va (v1) (vr (B U.isNone) (by rcases h2.m.cs with ⟨N,P⟩ | ⟨b_,N,P⟩ <;> (subst N; rw [P]; kernel_rfl)) (wln (cn H (fun h7 H=>?_) (fun h7 H=>?_)))))))
 ·refine sr (va (.agg #[I 0,I 0,Y,I 0,I 0,B false,B false]) (md (sA 45 [I 0,I 0,Y,I 0,I 0,B false,B false] 0 y ⟨rfl,rfl,rfl,rfl,rfl,rfl,rfl,trivial⟩) ?_));rintro S l9 O8;refine wln (W.ret (thr ?_));obtain rfl:=si H;have g0:OA aO S (Y) [] []:=OA.nil (ak _);have z:=O8.addHole (e:=es true aO (Y) 48 [] ([]:List aP)) rfl;have Z:=z.sD 2 [0];exact kN (c:=S) (vs:=[I 0,I 0,Y,I 0,I 0,B false,B false]) rfl (by kernel_rfl) (by kernel_rfl) (by kernel_rfl) (z.on 1 rfl _ rfl).1 ⟨_,S,rfl,rfl,pt,(Y),[],Z,rfl,g0⟩
 refine W.skip (nrm (sr (va (v1) (bn H fun e1 i0 H=>?_))));obtain ⟨b,rfl,h0⟩:=((h2.mono T)).get i0;refine va (Q b) (va (Qo b 1) (bn H fun g1 j0 H=>?_));obtain ⟨v17,v19,q,i1,l0⟩:=Rel.open_screen_Screen (o.mono T) j0 h0;refine vx (le1 1 kE (y.gon q 0 rfl)) (bn H fun f1 o0 H=>?_);obtain ⟨d,rfl,m0⟩:=(l0).get o0;refine vv (Q d) (bn H fun a q0 H=>?_);obtain ⟨v26,t,s⟩:=Rel.open_place_Pen (o.mono T) q0 m0;refine vx (le1 0 bS (y.gon t 0 rfl)) (va (v26) (wln (W.seq (rD [] (Kp G []) y ?_))));intro b0 j1 A;have l:Kp G [] b0:=(Kp.nil A);refine ta 0 (v26) (ta 2 (v26) (ta 4 (v26) (ta 6 (Q b) (ta 7 (Q b) (ta 8 (Qo b 1) (tkx 9 l (fun R x f=>le1 1 kE (f.gon q 0 rfl)) (ta 10 (Q d) (ta 11 (Qo d 1) (tkx 12 l (fun R x f=>leN 29 1 [I a.At.Row,I a.At.Col,B a.At.Pending] (f.gon t 0 rfl)) (ta 13 (Q b) (ta 14 (Q b) (ta 15 (Qo b 1) (tkx 16 l (fun R x f=>le1 1 kE (f.gon q 0 rfl)) (ta 17 (Q d) (ta 18 (Qo d 4) (tkx 19 l (fun R x f=>le1 4 u_4 (f.gon t 0 rfl)) (bn H fun g s0 H=>o1 1 (gc 1 (aV A o.m a.G s.m s0) ?_))))))))))))))))));rintro v38 d0 k1 ⟨D,rfl⟩;have v0:Kp G [] d0:=(Kp.nil D);refine ⟨.inr v0,bn H fun h t0 H=>o1 3 (gc 3 (aA D o.m a.G s.m t0) ?_)⟩;rintro v46 e0 m1 ⟨E,rfl⟩;have w0:Kp G [] e0:=(Kp.nil E);refine ⟨.inr w0,bn H fun h1 u0 H=>o1 5 (gc 5 (jW E o.m a.G s.m u0) ?_)⟩;rintro v49 f0 n1 ⟨_,z0,M,rfl,u⟩;have x0:Kp G [] f0:=(Kp.nil M);refine ⟨.inr x0,?_⟩;obtain ⟨i,j,k,rfl⟩:=(u).form;refine ta 20 (.agg #[I g,I h,.slice i j k,I a.At.Row,I a.At.Col,B a.At.Pending,B a.Auto]) (o1 21 (gD 21 (sA 45 [I g,I h,.slice i j k,I a.At.Row,I a.At.Col,B a.At.Pending,B a.Auto] 1 M ⟨rfl,rfl,(u).one,rfl,rfl,rfl,rfl,trivial⟩) ?_));rintro p p1 n;have y0:Kp G [] p:=(Kp.nil n);refine ⟨.inr y0,dn (nrm (W.ret ?_))⟩;obtain rfl:=si H;have a0:=n.sD 2 [0];exact kN (c:=p) (vs:=[I g,I h,.slice i j k,I a.At.Row,I a.At.Col,B a.At.Pending,B a.Auto]) rfl (by kernel_rfl) (by kernel_rfl) (by kernel_rfl) (n.on 1 rfl _ rfl).1 ⟨_,p,rfl,rfl,pt,(.slice i j k),z0,a0,rfl,u.m⟩
def cU (p0:List aa):Option (List Int):=
 (cp (σ:=(List Int)×Int) (τ:=(List Int)) (((p0.length:Int) - 0).toNat+1) (fun a=>
 if (decide (a.2 < (p0.length:Int)))=true then
 ((idx p0 a.2).bind fun b=>
 if (b.Kind==0)=true then
 (app a.1 ([32]:List Int)).bind fun c=>
 some (c)
 else
 (if (b.Kind==1)=true then
 some (b.Kind==1)
 else
 some (b.Kind==2)).bind fun f=>
 if f=true then
 (app a.1 b.Text).bind fun d=>
 some (d)
 else
 some (a.1)).bind fun e=>
 some (.inl (e,(w64 (a.2+1))))
 else
 some (.inr (a.1))) (([]:List Int),0)).bind fun g=>
 some g
theorem iD (O0:Own c0 G F) (n:List aa) {r:List Int} (P:Sl ac c0 v1 n) (H:cU n=some r): Calls prog 67 #[v1] c0.w (aq c0 fun c v=>∃S y2,Own c G (es true (RI .i32) S 21 y2 r :: F)∧v=S∧OA (RI .i32) c S y2 r):=by
 unfold cU at H;refine en func67 rfl rfl (sr (va (Y) (wln (sr (va (Y) (wln (W.seq (sr (va (v1) (vx (ln 3 bO P) (va (I 0) (wln (W.block (bn H fun t2 h3 X=>lp h3 (fun b=>Jn c0 fun c l=>∃v5 o,Own c G (es true (RI .i32) v5 21 o b.1 :: F)∧l= [(3,v5),(6,v1),(7,I (n.length:Int)),(8,I b.2)]∧OA (RI .i32) c v5 o b.1) (fun t ex e w=>ex= .exit 0∧(Jn c0 fun c l=>∃v7 x,Own c G (es true (RI .i32) v7 21 x t :: F)∧l= [(3,v7)]∧OA (RI .i32) c v7 x t) e w) ?_ ?_ ?_))))))))))))))
 ·clear X h3;intro b v2 u0 s1 H;revert u0 s1;rintro N R ⟨c9,f2,_,rfl,l9,rfl,v5,o,y,rfl,j⟩;refine sr (va (B (decide (b.2 < (n.length:Int)))) (wln (W.seq (cn H (fun v0 H=>?_) (fun v0 H=>?_)))))
  ·refine W.skip (nrm (bn H fun u d U=>W.seqJ (Jn c9 fun c l=>∃v19 k,Own c G (es true (RI .i32) v19 21 k u :: F)∧l= [(3,v19),(6,v1),(7,I (n.length:Int)),(8,I b.2)]∧OA (RI .i32) c v19 k u) ?_ ?_))
   ·refine W.block (sr (bn d fun a E d=>?_));obtain ⟨x1,w0,n1⟩:=Sl.at (P.mono l9) (aL E);obtain ⟨v25,rfl,s⟩:=w0;refine vx (ix bO P.m E) (vx (lN 114 n1) (me (al 114 [I 0,Y] y) ?_));rintro v30 c2 m1 ⟨i,rfl,Z⟩;obtain ⟨z,A,D,rfl⟩:=((s.mono m1)).form;refine md (sA 114 [I a.Kind,.slice z A D] 0 Z ⟨rfl,s.m.one,trivial⟩) ?_;rintro q k2 h;refine wln (sr (va (Q i) (vx (le1 0 u_3 (h.on 0 rfl)) (wln (W.block (sr (vv (B (a.Kind==0)) (wln (cn d (fun y0 d=>?_) (fun y0 d=>?_))))))))))
    ·refine W.region (va (v5) (me (sl (RI .i32) 21 [[J 32]] ([32]:List Int) h ⟨rfl,trivial⟩) ?_));rintro v41 d2 l2 ⟨u2,a0,z0⟩;obtain ⟨e2,b1,m2,b0,a1⟩:=a0.frz 0 rfl z0;refine WL.gh b1 (bn d fun z1 c1 d=>me (ap (RI .i32) (J 0) 4 32 2 b0 j.m a1 c1 bQ) ?_);rintro v51 l0 n2 ⟨p1,d0,d1⟩;refine va (v51) (WL.nil (bkn (bkn (nrm ?_))));obtain rfl:=si d;have e0:=d0.sD 3 [2];exact jn l0 ⟨v51,p1,e0,rfl,d1⟩
    refine bn d fun T g f=>W.seqJ (Jn q fun c l=>Own c G ((Eb i 114 [I a.Kind,.slice z A D]) :: es true (RI .i32) v5 21 o b.1 :: F)∧l= [(3,v5),(5,Q i),(6,v1),(7,I (n.length:Int)),(8,I b.2),(19,B T)]) ?_ ?_
    ·refine sr (vv (B (a.Kind==1)) (wln (cn g (fun e1 g=>?_) (fun e1 g=>?_))))
     ·refine W.skip (nrm ?_);obtain rfl:=si g;exact jn q ⟨h,rfl⟩
     refine W.region (vv (B (a.Kind==2)) (wln ?_));obtain rfl:=si g;exact jn q ⟨h,rfl⟩
    rintro N R ⟨m0,g2,_,rfl,o2,rfl,p,rfl⟩;refine cn f (fun f1 f=>?_) (fun f1 f=>?_)
    ·refine W.region (va (v5) (va (Qo i 1) (vx (le1 1 bQ (p.on 0 rfl)) (bn f fun b2 g1 f=>me (ap (RI .i32) (J 0) 4 32 1 p j.m s.m g1 bQ) ?_))));rintro M o0 p2 ⟨q1,f0,h1⟩;refine va (M) (WL.nil (bkn (bkn (nrm ?_))));obtain rfl:=si f;have g0:=f0.sD 2 [1];exact jn o0 ⟨M,q1,g0,rfl,h1⟩
    refine W.skip (bkn (bkn (nrm ?_)));obtain rfl:=si f;have h0:=p.sD 2 [1];exact jn m0 ⟨v5,o,h0,rfl,j.m⟩
   rintro N R ⟨q0,i2,_,rfl,q2,rfl,v19,k,i0,rfl,i1⟩;refine W.region (vv (I (w64 (b.2+1))) (WL.nil ?_));obtain rfl:=si U;exact ⟨_,rfl,jn q0 ⟨v19,k,i0,rfl,i1⟩⟩
  refine W.exit (thx ?_);obtain rfl:=si H;exact ⟨_,rfl,rfl,jn c9 ⟨v5,o,y,rfl,j⟩⟩
 ·have j1:OA (RI .i32) c0 (Y) [] []:=OA.nil (ak _);have j0:=O0.addHole (e:=es true (RI .i32) (Y) 21 [] ([]:List Int)) rfl;exact jn c0 ⟨(Y),[],j0,rfl,j1⟩
 rintro _ N R ⟨rfl,s0,j2,_,rfl,s2,rfl,v7,x,k0,rfl,k1⟩;refine bke (nrm (sr (vv (v7) (wln (W.ret ?_)))));obtain rfl:=si X;exact r1 (qq s0 ⟨v7,x,k0,rfl,k1⟩)
def dv (p0:List aa):Option (List aa):=
 (bY (decide ((w64 ((p0.length:Int) - 1))≥0)) ((idx p0 (w64 ((p0.length:Int) - 1))).bind fun b=>
 some (b.Kind==0))).bind fun a=>
 if a=true then
 (slc p0 0 (w64 ((p0.length:Int) - 1))).bind fun c=>
 some c
 else
 some p0
theorem kx (j:Own c0 G F) (a:List aa) {r:List aa} (b:Sl ac c0 v1 a) (H:dv a=some r): Calls prog 68 #[v1] c0.w (aq c0 fun c v=>∃u,Own c G (F)∧v=u∧Sl ac c u r):=by
 unfold dv at H;refine en func68 rfl rfl (sr (va (Y) (wln (W.seq (sr (va (v1) (vx (ln 3 bO b) (vv (I (w64 ((a.length:Int) - 1))) (wln (W.seq (bn H fun i q H=>W.join (Jn c0 fun c l=>Own c G (F)∧l= [(0,v1),(3,I (w64 ((a.length:Int) - 1))),(16,B i)]) ?_ ?_)))))))))))
 ·clear H;refine W.region (va (I (w64 ((a.length:Int) - 1))) (va (B (decide ((w64 ((a.length:Int) - 1))≥0))) ?_));rcases bo (decide ((w64 ((a.length:Int) - 1))≥0)) with d | d
  ·have h:=anT d q;refine vb d (wa (v1) (wa (I (w64 ((a.length:Int) - 1))) (wn (bn h fun e s h=>?_))));obtain ⟨E,x,y⟩:=Sl.at b (aL s);obtain ⟨v10,rfl,D⟩:=x;refine vx (ix bO b s) (wa (Qo (sb v1) (so v1+(w64 ((a.length:Int) - 1)).toNat * 2)) (wn (vx (l1 u_3 (y 0 _ rfl)) (wa (B (e.Kind==0)) ?_))));obtain rfl:=si h;exact va (B (e.Kind==0)) (wln (jn c0 ⟨j,rfl⟩))
  obtain rfl:=anF d q;exact vb d (pz (pz (pz (va (B false) (wln (jn c0 ⟨j,rfl⟩))))))
 rintro M N ⟨g,A,_,rfl,t,rfl,f,rfl⟩;refine nrm (cn H (fun k H=>?_) (fun k H=>?_))
 ·refine sr (va (v1) (va (I (w64 ((a.length:Int) - 1))) (bn H fun z n H=>?_)));obtain ⟨v20,o,p⟩:=jR (k':= .i64) bO (by kernel_rfl) (b.mono t) n;refine vr v20 (rx (by kernel_rfl) (o _)) (va (v20) (wln (W.ret (thr ?_))));obtain rfl:=si H;exact r1 (qq g ⟨v20,f,rfl,p⟩)
 refine W.skip (nrm (sr (vv (v1) (wln (W.ret ?_)))));obtain rfl:=si H;exact r1 (qq g ⟨v1,f,rfl,b.m⟩)
def du (p0:List aa):Option (List aa):=
 (cp (σ:=Int) (τ:=Int) (((p0.length:Int) - 0).toNat+1) (fun a=>
 (bY (decide (a > 0)) ((idx p0 (w64 (a - 1))).bind fun c=>
 some (c.Kind==0))).bind fun b=>
 if b=true then
 some (.inl ((w64 (a - 1))))
 else
 some (.inr (a))) ((p0.length:Int))).bind fun e=>
 (slc p0 0 e).bind fun d=>
 some d
theorem kw (O0:Own c0 G F) (s:List aa) {r:List aa} (h:Sl ac c0 v1 s) (H:du s=some r): Calls prog 69 #[v1] c0.w (aq c0 fun c v=>∃Z,Own c G (F)∧v=Z∧Sl ac c Z r):=by
 unfold du at H;refine en func69 rfl rfl (sr (va (Y) (wln (sr (va (v1) (vx (ln 3 bO h) (va (I (s.length:Int)) (wln (W.seq (W.block (bn H fun T E g=>lp E (fun a=>Jn c0 fun c l=>Own c G (F)∧l= [(0,v1),(3,I a)]) (fun q ex e w=>ex= .exit 0∧(Jn c0 fun c l=>Own c G (F)∧l= [(0,v1),(3,I q)]) e w) ?_ ?_ ?_)))))))))))
 ·clear g E;intro a j0 z X H;revert z X;rintro y U ⟨o,g6,_,rfl,l5,rfl,u,rfl⟩;refine W.seq (W.seq (bn H fun p k H=>W.join (Jn o fun c l=>Own c G (F)∧l= [(0,v1),(3,I a),(16,B p)]) ?_ ?_))
  ·clear H;refine W.region (va (I a) (va (B (decide (a > 0))) ?_));rcases bo (decide (a > 0)) with b | b
   ·have d:=anT b k;refine vb b (wa (v1) (wa (I a) (wa (I (w64 (a - 1))) (wn (bn d fun f n d=>?_)))));obtain ⟨d0,A,S⟩:=Sl.at (h.mono l5) (aL n);obtain ⟨v18,rfl,h0⟩:=A;refine vx (ix bO h.m n) (wa (Qo (sb v1) (so v1+(w64 (a - 1)).toNat * 2)) (wn (vx (l1 u_3 (S 0 _ rfl)) (wa (B (f.Kind==0)) ?_))));obtain rfl:=si d;exact va (B (f.Kind==0)) (wln (jn o ⟨u,rfl⟩))
   obtain rfl:=anF b k;exact vb b (pz (pz (pz (ps (va (B false) (wln (jn o ⟨u,rfl⟩)))))))
  rintro y U ⟨j,f0,_,rfl,i0,rfl,i,rfl⟩;refine nrm (cn H (fun D H=>?_) (fun D H=>?_))
  ·refine W.skip (nrm (W.block (W.region (va (I a) (vv (I (w64 (a - 1))) (WL.nil (bkn ?_)))))));obtain rfl:=si H;exact ⟨_,rfl,jn j ⟨i,rfl⟩⟩
  refine W.exit (thx ?_);obtain rfl:=si H;exact ⟨_,rfl,rfl,jn j ⟨i,rfl⟩⟩
 ·exact jn c0 ⟨O0,rfl⟩
 rintro _ y U ⟨rfl,x,g0,_,rfl,R,rfl,t,rfl⟩;refine bke (nrm (sr (va (v1) (va (I T) (bn g fun e0 M g=>?_)))));obtain ⟨v34,N,P⟩:=jR (k':= .i64) bO (by kernel_rfl) (h.mono R) M;refine vr v34 (rx (by kernel_rfl) (N _)) (va (v34) (wln (W.ret ?_)));obtain rfl:=si g;exact r1 (qq x ⟨v34,t,rfl,P⟩)
def ci (p0:aR):Option (List (List Int)):=
 (cp (σ:=(List (List Int))×(List Int)×Int) (τ:=(List (List Int))) (((p0.Lines.length:Int) - 0).toNat+1) (fun a=>
 if (decide (a.2.2 < (p0.Lines.length:Int)))=true then
 ((idx p0.Lines a.2.2).bind fun b=>
 (bY b.Wrap (some (decide (a.2.2 < (w64 ((p0.Lines.length:Int) - 1)))))).bind fun d=>
 if d=true then
 (dv b.Cells).bind fun f=>
 (cU f).bind fun g=>
 (app a.2.1 g).bind fun h=>
 some (a.1,h)
 else
 (du b.Cells).bind fun i=>
 (cU i).bind fun j=>
 (app a.2.1 j).bind fun k=>
 (app a.1 ([k]:List (List Int))).bind fun l=>
 some (l,([]:List Int))).bind fun c=>
 some (.inl (c.1,c.2,(w64 (a.2.2+1))))
 else
 some (.inr (a.1))) (([]:List (List Int)),([]:List Int),0)).bind fun e=>
 some e
theorem gR (O0:Own c0 G F) (d:aR) {r:List (List Int)} (P:Sl aO c0 v1 d.Lines) (H:ci d=some r): Calls prog 23 #[.agg #[I d.Wide,I d.High,v1,I d.At.Row,I d.At.Col,B d.At.Pending,B d.Auto]] c0.w (aq c0 fun c v=>∃y1 y2,Own c G (es true (RL (RI .i32)) y1 32 y2 r :: F)∧v=y1∧OA (RL (RI .i32)) c y1 y2 r):=by
 unfold ci at H;refine en func23 rfl rfl (sr ?_);obtain ⟨T,U,X,rfl⟩:=(P).form;refine me (bx 45 [I d.Wide,I d.High,.slice T U X,I d.At.Row,I d.At.Col,B d.At.Pending,B d.Auto] O0) ?_;rintro v10 M l9 ⟨A,rfl,O7,m8⟩;refine va (Y) (wln (sr (va (Y) (wln (sr (va (Y) (wln (W.seq (sr (va (Qo A (0+2)) (vx (l1 kM (m8 2 _ rfl)) (vx (ln 3 kM P.m) (va (I 0) (wln (W.block (bn H fun r4 g0 Z=>lp g0 (fun a=>Jn M fun c l=>∃v13 p v15 g,Own c G (es true (RI .i32) v13 21 p a.2.1 :: es true (RL (RI .i32)) v15 32 g a.1 :: F)∧l= [(1,Q A),(3,v15),(4,v13),(8,.slice T U X),(9,I (d.Lines.length:Int)),(10,I a.2.2)]∧OA (RI .i32) c v13 p a.2.1∧OA (RL (RI .i32)) c v15 g a.1) (fun o ex e w=>ex= .exit 0∧(Jn M fun c l=>∃v17 q,Own c G (es true (RL (RI .i32)) v17 32 q o :: F)∧l= [(3,v17)]∧OA (RL (RI .i32)) c v17 q o) e w) ?_ ?_ ?_))))))))))))))))
 ·clear Z g0;intro a v5 w2 t3 H;revert w2 t3;rintro e_ w_ ⟨f0,i5,_,rfl,n3,rfl,v13,p,v15,g,a0,rfl,h0,R⟩;refine sr (va (B (decide (a.2.2 < (d.Lines.length:Int)))) (wln (W.seq (cn H (fun x2 H=>?_) (fun x2 H=>?_)))))
  ·refine W.skip (nrm (bn H fun h b l2=>W.seqJ (Jn f0 fun c l=>∃v30 s v32 t,Own c G (es true (RI .i32) v30 21 s h.2 :: es true (RL (RI .i32)) v32 32 t h.1 :: F)∧l= [(1,Q A),(3,v32),(4,v30),(8,.slice T U X),(9,I (d.Lines.length:Int)),(10,I a.2.2)]∧OA (RI .i32) c v30 s h.2∧OA (RL (RI .i32)) c v32 t h.1) ?_ ?_))
   ·refine W.block (sr (va (I a.2.2) (bn b fun f i0 b=>?_)));obtain ⟨q4,z2,p3⟩:=Sl.at (P.mono (l9.trans n3)) (aL i0);obtain ⟨v38,rfl,n⟩:=z2;refine vx (ix kM P.m i0) (vx (lN 48 p3) (me (al 48 [Y,B false] a0) ?_));rintro v43 c5 o3 ⟨i,rfl,n2⟩;refine va (I a.2.2) ?_;obtain ⟨b0,d0,e0,rfl⟩:=((n.mono o3)).form;refine md (sA 48 [.slice b0 d0 e0,B f.Wrap] 0 n2 ⟨n.m.one,rfl,trivial⟩) ?_;rintro E k5 u;refine wln (W.seq (W.seq (bn b fun f1 j0 b=>W.join (Jn E fun c l=>Own c G ((Eb i 48 [.slice b0 d0 e0,B f.Wrap]) :: es true (RI .i32) v13 21 p a.2.1 :: es true (RL (RI .i32)) v15 32 g a.1 :: F)∧l= [(1,Q A),(3,v15),(4,v13),(6,Q i),(8,.slice T U X),(9,I (d.Lines.length:Int)),(10,I a.2.2),(24,B f1)]) ?_ ?_)))
    ·clear b;refine W.region (va (Qo i 1) (vx (le1 1 u_4 (u.on 0 rfl)) ?_));rcases bo (f.Wrap) with j | j
     ·have m2:=anT j j0;refine vb j (wa (I a.2.2) (wa (Qo A (0+2)) (wn (vx (l1 kM ((mm m8) 2 _ rfl)) (wn (vx (ln 3 kM P.m) (wa (I (w64 ((d.Lines.length:Int) - 1))) (wa (B (decide (a.2.2 < (w64 ((d.Lines.length:Int) - 1))))) ?_))))))));obtain rfl:=si m2;exact va (B (decide (a.2.2 < (w64 ((d.Lines.length:Int) - 1))))) (wln (jn E ⟨u,rfl⟩))
     obtain rfl:=anF j j0;exact vb j (pz (pz (pz (va (B false) (wln (jn E ⟨u,rfl⟩))))))
    rintro e_ w_ ⟨d5,j5,_,rfl,l5,rfl,k,rfl⟩;refine nrm (cn b (fun b3 b=>?_) (fun b3 b=>?_))
    ·refine sr (va (v13) (va (Q i) (vx (le1 0 bO (k.on 0 rfl)) (bn b fun g2 c3 b=>cl (kx k f.Cells n.m c3) ?_))));rintro v60 e5 m5 ⟨_,o2,rfl,d3⟩;refine bn b fun x4 e3 b=>cl (iD o2 g2 d3 e3) ?_;rintro s5 f5 n5 ⟨_,r5,p2,rfl,f3⟩;obtain ⟨g5,h3,o5,q2,g3⟩:=p2.frz 0 rfl f3;refine WL.gh h3 (bn b fun y4 i3 b=>me (ap (RI .i32) (J 0) 4 32 2 q2 h0.m g3 i3 bQ) ?_);rintro k0 v2 p5 ⟨s3,s2,j3⟩;refine va (k0) (wln (W.exit (thx (bke (nrm ?_)))));obtain rfl:=si b;have t2:=s2.sD 4 [2,3];exact jn v2 ⟨k0,s3,v15,g,t2,rfl,j3,R.m⟩
    refine W.skip (nrm (sr (va (v15) (va (v13) (va (Q i) (vx (le1 0 bO (k.on 0 rfl)) (bn b fun i2 k3 b=>cl (kw k f.Cells n.m k3) ?_)))))));rintro t5 h5 q5 ⟨_,u2,rfl,l3⟩;refine bn b fun z4 m3 b=>cl (iD u2 i2 l3 m3) ?_;rintro u5 x3 g4 ⟨_,s4,l0,rfl,h1⟩;obtain ⟨y3,j1,h4,m0,i1⟩:=l0.frz 0 rfl h1;refine WL.gh j1 (bn b fun j2 k1 b=>me (ap (RI .i32) (J 0) 4 32 2 m0 h0.m i1 k1 bQ) ?_);rintro v4 z3 i4 ⟨t4,o0,m1⟩;obtain ⟨b4,n1,j4,q0,N⟩:=o0.frz 2 rfl m1;refine WL.gh n1 ?_;obtain ⟨x,y,z,rfl⟩:=(N).form;refine me (sl (RL (RI .i32)) 32 [[.slice x y z]] ([j2]:List (List Int)) q0 ⟨⟨(.slice x y z),rfl,N⟩,trivial⟩) ?_;rintro w4 c4 k4 ⟨u4,s0,p1⟩;obtain ⟨d4,s1,l4,t0,q1⟩:=s0.frz 0 rfl p1;refine WL.gh s1 (bn b fun b5 t1 b=>me (ap (RL (RI .i32)) (Y) 24 25 4 t0 R.m q1 t1 iH) ?_);rintro S D m4 ⟨e2,u0,u1⟩;refine va (S) (wln (W.region (va (Y) (WL.nil (bkn (nrm ?_))))));obtain rfl:=si b;have w1:OA (RI .i32) D (Y) [] []:=OA.nil (ak _);have v0:=u0.addHole (e:=es true (RI .i32) (Y) 21 [] ([]:List Int)) rfl;have w0:=v0.sD 6 [0,5];exact jn D ⟨(Y),[],S,e2,w0,rfl,w1,u1⟩
   rintro e_ w_ ⟨d1,e4,_,rfl,n4,rfl,v30,s,v32,t,x0,rfl,x1,z1⟩;refine W.region (vv (I (w64 (a.2.2+1))) (WL.nil ?_));obtain rfl:=si l2;exact ⟨_,rfl,jn d1 ⟨v30,s,v32,t,x0,rfl,x1,z1⟩⟩
  refine W.exit (thx ?_);obtain rfl:=si H;refine ⟨_,rfl,rfl,?_⟩;have y0:=a0.sD 2 [1];exact jn f0 ⟨v15,g,y0,rfl,R⟩
 ·have b2:OA (RI .i32) M (Y) [] []:=OA.nil (ak _);have z0:=O7.addHole (e:=es true (RI .i32) (Y) 21 [] ([]:List Int)) rfl;have c2:OA (RL (RI .i32)) M (Y) [] []:=OA.nil (ak _);have a1:=z0.addHole (e:=es true (RL (RI .i32)) (Y) 32 [] ([]:List (List Int))) rfl;have b1:=a1.sD 2 [1,0];exact jn M ⟨(Y),[],(Y),[],b1,rfl,b2,c2⟩
 rintro _ e_ w_ ⟨rfl,e1,f4,_,rfl,o4,rfl,v17,q,c1,rfl,d2⟩;refine bke (nrm (sr (vv (v17) (wln (W.ret ?_)))));obtain rfl:=si Z;exact r1 (qq e1 ⟨v17,q,c1,rfl,d2⟩)
def ca (p0:aR):Option (List Int):=
 (ci p0).bind fun d=>
 (cp (σ:=(List (List Int))) (τ:=(List (List Int))) (((d.length:Int) - 0).toNat+1) (fun b=>
 (bY (decide ((b.length:Int) > 0)) ((idx b (w64 ((b.length:Int) - 1))).bind fun g=>
 some ((g.length:Int)==0))).bind fun e=>
 if e=true then
 (slc b 0 (w64 ((b.length:Int) - 1))).bind fun h=>
 some (.inl (h))
 else
 some (.inr (b))) (d)).bind fun c=>
 (cp (σ:=(List Int)×Int) (τ:=(List Int)) (((c.length:Int) - 0).toNat+1) (fun a=>
 if (decide (a.2 < (c.length:Int)))=true then
 (idx c a.2).bind fun i=>
 (if (decide (a.2 > 0))=true then
 (app a.1 ([10]:List Int)).bind fun j=>
 some (j)
 else
 some (a.1)).bind fun l=>
 (app l i).bind fun k=>
 some (.inl (k,(w64 (a.2+1))))
 else
 some (.inr (a.1))) (([]:List Int),0)).bind fun f=>
 some f
theorem fK (O0:Own c0 G F) (d:aR) {r:List Int} (h2:Sl aO c0 v1 d.Lines) (H:ca d=some r): Calls prog 25 #[.agg #[I d.Wide,I d.High,v1,I d.At.Row,I d.At.Col,B d.At.Pending,B d.Auto]] c0.w (aq c0 fun c v=>∃y1 y2,Own c G (es true (RI .i32) y1 21 y2 r :: F)∧v=y1∧OA (RI .i32) c y1 y2 r):=by
 unfold ca at H;refine en func25 rfl rfl (sr ?_);obtain ⟨a3,a4,a5,rfl⟩:=(h2).form;refine me (bx 45 [I d.Wide,I d.High,.slice a3 a4 a5,I d.At.Row,I d.At.Col,B d.At.Pending,B d.Auto] O0) ?_;rintro v10 c9 l9 ⟨b6,rfl,O7,m8⟩;refine va (Y) (wln (sr (vx (lN 45 m8) (bn H fun k4 t1 H=>cl (gR O7 d h2.m t1) ?_))));rintro v12 f0 b4 ⟨_,h4,i1,rfl,u1⟩;refine va (v12) (wln (W.seq (W.block (bn H fun N h0 b=>lp h0 (fun j=>Jn f0 fun c l=>∃v23,Own c G (F)∧l= [(3,v23)]∧Sl (RL (RI .i32)) c v23 j) (fun e1 ex e w=>ex= .exit 0∧(Jn f0 fun c l=>∃v24,Own c G (F)∧l= [(3,v24)]∧Sl (RL (RI .i32)) c v24 e1) e w) ?_ ?_ ?_))))
 ·clear b h0;intro j v2 D X H;revert D X;rintro A U ⟨y,w3,_,rfl,c4,rfl,v23,d0,rfl,g⟩;refine W.seq (W.seq (bn H fun x0 i0 H=>W.join (Jn y fun c l=>Own c G (F)∧l= [(3,v23),(21,B x0)]) ?_ ?_))
  ·clear H;refine W.region (va (v23) (vx (ln 3 iH g) (va (B (decide ((j.length:Int) > 0))) ?_)));rcases bo (decide ((j.length:Int) > 0)) with k | k
   ·have t:=anT k i0;refine vb k (wa (v23) (wa (v23) (wn (vx (ln 3 iH g) (wa (I (w64 ((j.length:Int) - 1))) (wn (bn t fun Z j0 t=>?_)))))));obtain ⟨l3,x1,t2⟩:=Sl.at g (aL j0);obtain ⟨v39,rfl,z1⟩:=x1;refine vx (ix iH g j0) (wn (vx (l1 bQ (t2 0 _ rfl)) (wn (vx (ln 3 bQ z1) (wa (B ((Z.length:Int)==0)) ?_)))));obtain rfl:=si t;exact va (B ((Z.length:Int)==0)) (wln (jn y ⟨d0,rfl⟩))
   obtain rfl:=anF k i0;exact vb k (pz (pz (pz (pz (va (B false) (wln (jn y ⟨d0,rfl⟩)))))))
  rintro A U ⟨g0,x3,_,rfl,q2,rfl,e0,rfl⟩;refine nrm (cn H (fun b2 H=>?_) (fun b2 H=>?_))
  ·refine W.skip (nrm (W.block (W.region (vv (v23) (vx (ln 3 iH g.m) (va (I (w64 ((j.length:Int) - 1))) (bn H fun p3 c2 H=>?_)))))));obtain ⟨v49,d2,e2⟩:=jR (k':= .i64) iH (by kernel_rfl) (g.mono q2) c2;refine vr v49 (rx (by kernel_rfl) (d2 _)) (va (v49) (WL.nil (bkn ?_)));obtain rfl:=si H;exact ⟨_,rfl,jn g0 ⟨v49,e0,rfl,e2⟩⟩
  refine W.exit (thx ?_);obtain rfl:=si H;exact ⟨_,rfl,rfl,jn g0 ⟨v23,e0,rfl,g.m⟩⟩
 ·obtain ⟨s1,g2,d4,j1,f2⟩:=i1.frz 0 rfl u1;have k1:=j1.sD 1 [];exact ⟨s1,_,_,g2.symm,pt,us,v12,k1,rfl,f2⟩
 rintro _ A U ⟨rfl,p,y3,_,rfl,e4,rfl,v24,m1,rfl,E⟩;refine bke (nrm (sr (va (Y) (wln (W.seq (sr (va (v24) (vx (ln 3 iH E) (va (I 0) (wln (W.block (bn b fun o3 k0 b0=>lp k0 (fun a=>Jn p fun c l=>∃h n,Own c G (es true (RI .i32) h 21 n a.1 :: F)∧l= [(4,h),(27,v24),(28,I (N.length:Int)),(29,I a.2)]∧OA (RI .i32) c h n a.1) (fun q ex e w=>ex= .exit 2∧(Jn p fun c l=>∃i s,Own c G (es true (RI .i32) i 21 s q :: F)∧l= [(4,i)]∧OA (RI .i32) c i s q) e w) ?_ ?_ ?_))))))))))))
 ·clear b0 k0;intro a v2 D X b;revert D X;rintro A U ⟨z,z3,_,rfl,s2,rfl,h,n,x,rfl,M⟩;refine sr (va (B (decide (a.2 < (N.length:Int)))) (wln (W.seq (cn b (fun i2 b=>?_) (fun i2 b=>?_)))))
  ·refine W.skip (nrm (W.seq (W.block (sr (va (I a.2) (bn b fun q3 l0 b=>?_))))));obtain ⟨m3,j2,u2⟩:=Sl.at (E.mono s2) (aL l0);obtain ⟨T,rfl,k2⟩:=j2;refine vx (ix iH E.m l0) (vx (l1 bQ (u2 0 _ rfl)) (va (I a.2) (va (T) (wln (bn b fun a0 f u=>W.seqJ (Jn z fun c l=>∃o P,Own c G (es true (RI .i32) o 21 P a0 :: F)∧l= [(4,o),(6,T),(27,v24),(28,I (N.length:Int)),(29,I a.2)]∧OA (RI .i32) c o P a0) ?_ ?_)))))
   ·refine sr (va (I a.2) (va (B (decide (a.2 > 0))) (wln (cn f (fun l2 f=>?_) (fun l2 f=>?_)))))
    ·refine W.region (va (h) (me (sl (RI .i32) 21 [[J 10]] ([10]:List Int) x ⟨rfl,trivial⟩) ?_));rintro j4 u3 f4 ⟨i4,n1,m2⟩;obtain ⟨v3,o2,g4,p1,n2⟩:=n1.frz 0 rfl m2;refine WL.gh o2 (bn f fun s3 p2 f=>me (ap (RI .i32) (J 0) 4 32 1 p1 M.m n2 p2 bQ) ?_);rintro R u0 h3 ⟨f1,q1,y0⟩;refine va (R) (wln ?_);obtain rfl:=si f;have m0:=q1.sD 2 [1];exact jn u0 ⟨R,f1,m0,rfl,y0⟩
    refine W.skip (nrm ?_);obtain rfl:=si f;exact jn z ⟨h,n,x,rfl,M⟩
   rintro A U ⟨e3,f3,_,rfl,i3,rfl,o,P,o0,rfl,z0⟩;refine W.region (va (o) (va (T) (bn u fun t3 a1 u=>me (ap (RI .i32) (J 0) 4 32 0 o0 z0 k2.m a1 bQ) ?_)));rintro S v0 j3 ⟨g1,q0,b1⟩;refine va (S) (WL.nil (bkn (nrm (W.region (vv (I (w64 (a.2+1))) (WL.nil ?_))))));obtain rfl:=si u;exact ⟨_,rfl,jn v0 ⟨S,g1,q0,rfl,b1⟩⟩
  refine W.exit (thx ?_);obtain rfl:=si b;exact ⟨_,rfl,rfl,jn z ⟨h,n,x,rfl,M⟩⟩
 ·have c1:OA (RI .i32) p (Y) [] []:=OA.nil (ak _);have s0:=m1.addHole (e:=es true (RI .i32) (Y) 21 [] ([]:List Int)) rfl;exact jn p ⟨(Y),[],s0,rfl,c1⟩
 rintro _ A U ⟨rfl,w0,g3,_,rfl,k3,rfl,i,s,t0,rfl,d1⟩;refine bke (nrm (sr (vv (i) (wln (W.ret ?_)))));obtain rfl:=si b0;exact r1 (qq w0 ⟨i,s,t0,rfl,d1⟩)
def eo (p0:Int):Option (Int):=
 (bH p0).bind fun a=>
 if (!a)=true then
 some 0
 else
 if (decide (p0 < 128))=true then
 some 1
 else
 if (decide (p0 < 2048))=true then
 some 2
 else
 if (decide (p0 < 65536))=true then
 some 3
 else
 some 4
theorem lP (h:Own c0 G F) (a:Int) {r:Int} (H:eo a=some r): Calls prog 169 #[J a] c0.w (aq c0 fun c v=>Own c G (F)∧v=I r):=by
 unfold eo at H;refine en func169 rfl rfl (sr (va (I 0) (wln (W.seq (W.block (sr (va (J a) (bn H fun e i H=>cl (dS h a i) ?_))))))));rintro v7 d l ⟨b,rfl⟩;refine vv (B (!e)) (wln (cn H (fun j H=>?_) (fun j H=>?_)))
 ·refine sr (va (I 0) (wln (W.ret (bkr (thr ?_)))));obtain rfl:=si H;exact r1 (qq d ⟨b,rfl⟩)
 refine sr (va (J a) (vv (B (decide (a < 128))) (wln (cn H (fun k H=>?_) (fun k H=>?_)))))
 ·refine sr (va (I 1) (wln (W.ret (bkr (thr ?_)))));obtain rfl:=si H;exact r1 (qq d ⟨b,rfl⟩)
 refine sr (va (J a) (vv (B (decide (a < 2048))) (wln (cn H (fun f H=>?_) (fun f H=>?_)))))
 ·refine sr (va (I 2) (wln (W.ret (bkr (thr ?_)))));obtain rfl:=si H;exact r1 (qq d ⟨b,rfl⟩)
 refine sr (va (J a) (vv (B (decide (a < 65536))) (wln (cn H (fun g H=>?_) (fun g H=>?_)))))
 ·refine sr (va (I 3) (wln (W.ret (bkr (thr ?_)))));obtain rfl:=si H;exact r1 (qq d ⟨b,rfl⟩)
 refine W.skip (bkn (nrm (sr (va (I 4) (wln (W.ret ?_))))));obtain rfl:=si H;exact r1 (qq d ⟨b,rfl⟩)
def gv (p0:Int):Option (Int):=
 if (p0==2)=true then
 some 192
 else
 if (p0==3)=true then
 some 224
 else
 if (p0==4)=true then
 some 240
 else
 some 0
theorem lO (b:Own c0 G F) (a:Int) {r:Int} (H:gv a=some r): Calls prog 170 #[I a] c0.w (aq c0 fun c v=>Own c G (F)∧v= .int .u8 r):=by
 unfold gv at H;refine en func170 rfl rfl (sr (va (.int .u8 0) (wln (W.seq (sr (va (I a) (wln (W.block (sr (vv (B (a==2)) (wln (cn H (fun d H=>?_) (fun d H=>?_)))))))))))))
 ·refine sr (va (.int .u8 192) (wln (W.ret (bkr (thr ?_)))));obtain rfl:=si H;exact r1 (qq c0 ⟨b,rfl⟩)
 refine sr (vv (B (a==3)) (wln (cn H (fun e H=>?_) (fun e H=>?_))))
 ·refine sr (va (.int .u8 224) (wln (W.ret (bkr (thr ?_)))));obtain rfl:=si H;exact r1 (qq c0 ⟨b,rfl⟩)
 refine sr (vv (B (a==4)) (wln (cn H (fun f H=>?_) (fun f H=>?_))))
 ·refine sr (va (.int .u8 240) (wln (W.ret (bkr (thr ?_)))));obtain rfl:=si H;exact r1 (qq c0 ⟨b,rfl⟩)
 refine W.skip (bkn (nrm (sr (va (.int .u8 0) (wln (W.ret ?_))))));obtain rfl:=si H;exact r1 (qq c0 ⟨b,rfl⟩)
def ep (p0:Int):Option (List Int):=
 (eo p0).bind fun b=>
 if (b==0)=true then
 some ([]:List Int)
 else
 (rep b 0).bind fun f=>
 (cp (σ:=Int×(List Int)×Int) (τ:=(Int×(List Int))) (((w64 (b - 1)) - 0).toNat+1) (fun a=>
 if (decide (a.2.2 > 0))=true then
 (idx a.2.1 a.2.2).bind fun h=>
 (fj a.2.1 a.2.2 (dy .u8 128 (IntKind.u8.wrap (cE .i32 a.1 63)))).bind fun d=>
 some (.inl ((a.1.fdiv (2 ^ 6)),d,(w64 (a.2.2 - 1))))
 else
 some (.inr (a.1,a.2.1))) (p0,f,(w64 (b - 1)))).bind fun c=>
 (gv b).bind fun g=>
 (idx c.2 0).bind fun i=>
 (fj c.2 0 (dy .u8 g (IntKind.u8.wrap c.1))).bind fun e=>
 some e
theorem lQ (O0:Own c0 G F) (q:Int) {r:List Int} (H:ep q=some r): Calls prog 111 #[J q] c0.w (aq c0 fun c v=>∃D y2,Own c G (es true (RI .u8) D 5 y2 r :: F)∧v=D∧OA (RI .u8) c D y2 r):=by
 unfold ep at H;refine en func111 rfl rfl (sr (va (Y) (wln (sr (va (J q) (bn H fun b h1 H=>cl (lP O0 q h1) ?_))))));rintro v7 c6 l6 ⟨M,rfl⟩;refine va (I b) (wln (W.seq (sr (va (I b) (va (B (b==0)) (wln (cn H (fun h8 H=>?_) (fun h8 H=>?_))))))))
 ·refine sr (va (Y) (wln (W.ret (thr ?_))));obtain rfl:=si H;have e0:OA (RI .u8) c6 (Y) [] []:=OA.nil (ak _);have O9:=M.addHole (e:=es true (RI .u8) (Y) 5 [] ([]:List Int)) rfl;exact r1 (qq c6 ⟨(Y),[],O9,rfl,e0⟩)
 refine W.skip (nrm (sr (va (I b) (bn H fun e1 t H=>me (Own.mkS (kl:= .i64) (kc:= .i64) (R:=(RI .u8)) (z:= .int .u8 0) (lz:=[.int .u8 0]) (x:=0) (by_:=1) (i:=b) (j:=b) true M (ak _) t (Int.le_refl _) (nt t) kL (by kernel_rfl) rfl rfl (fun _=>rfl) (by kernel_rfl) (by kernel_rfl)) ?_))));rintro v16 n n1 ⟨q0,E,f0⟩;refine va (v16) (wln (W.seq (sr (va (I b) (vv (I (w64 (b - 1))) (wln (W.block (bn H fun d y f=>lp y (fun a=>Jn n fun c l=>∃v19 k,Own c G (es true (RI .u8) v19 5 k a.2.1 :: F)∧l= [(0,J a.1),(3,I b),(4,v19),(5,I a.2.2)]∧OA (RI .u8) c v19 k a.2.1) (fun g ex e w=>ex= .exit 0∧(Jn n fun c l=>∃v21 p,Own c G (es true (RI .u8) v21 5 p g.2 :: F)∧l= [(0,J g.1),(3,I b),(4,v21)]∧OA (RI .u8) c v21 p g.2) e w) ?_ ?_ ?_))))))))
 ·clear f y;intro a v1 d0 u0 H;revert d0 u0;rintro e_ w_ ⟨X,k1,_,rfl,p1,rfl,v19,k,s,rfl,o⟩;refine W.seq (sr (va (I a.2.2) (va (B (decide (a.2.2 > 0))) (wln (cn H (fun g0 H=>?_) (fun g0 H=>?_))))))
  ·refine W.skip (nrm (W.seq (W.block (sr (va (v19) (va (I a.2.2) (va (J a.1) (va (J (cE .i32 a.1 63)) (va (.int .u8 (IntKind.u8.wrap (cE .i32 a.1 63))) (va (.int .u8 (dy .u8 128 (IntKind.u8.wrap (cE .i32 a.1 63)))) (bn H fun f1 h0 H=>vx (ixO kL o h0) (bn H fun c1 i0 H=>md (Own.stW (R:=(RI .u8)) (T:=5) (us:=[.int .u8 (dy .u8 128 (IntKind.u8.wrap (cE .i32 a.1 63)))]) (x':=(dy .u8 128 (IntKind.u8.wrap (cE .i32 a.1 63)))) (u:= .int .u8 (dy .u8 128 (IntKind.u8.wrap (cE .i32 a.1 63)))) 0 s (by kernel_rfl) rfl o i0 rfl (by kernel_rfl) ⟨rfl,trivial⟩ rfl rfl) ?_))))))))))));rintro Z q1 ⟨s0,N,j0⟩;refine wln (W.region (va (J a.1) (vv (J (a.1.fdiv (2 ^ 6))) (WL.nil (bkn (nrm (W.region (va (I a.2.2) (vv (I (w64 (a.2.2 - 1))) (WL.nil ?_))))))))));obtain rfl:=si H;exact ⟨_,rfl,jn Z ⟨v19,s0,N,rfl,j0⟩⟩
  refine W.exit (thx ?_);obtain rfl:=si H;exact ⟨_,rfl,rfl,jn X ⟨v19,k,s,rfl,o⟩⟩
 ·exact jn n ⟨v16,q0,E,rfl,f0⟩
 rintro _ e_ w_ ⟨rfl,i1,m1,_,rfl,s1,rfl,v21,p,P,rfl,A⟩;refine bke (nrm (sr (va (v21) (va (I b) (bn f fun h k0 f=>cl (lO P b k0) ?_)))));rintro v50 j1 t1 ⟨S,rfl⟩;refine va (J d.1) (va (.int .u8 (IntKind.u8.wrap d.1)) (va (.int .u8 (dy .u8 h (IntKind.u8.wrap d.1))) (bn f fun g1 l0 f=>vx (ixO kL A.m l0) (bn f fun d1 m0 f=>md (Own.stW (R:=(RI .u8)) (T:=5) (us:=[.int .u8 (dy .u8 h (IntKind.u8.wrap d.1))]) (x':=(dy .u8 h (IntKind.u8.wrap d.1))) (u:= .int .u8 (dy .u8 h (IntKind.u8.wrap d.1))) 0 S (by kernel_rfl) rfl A.m m0 rfl (by kernel_rfl) ⟨rfl,trivial⟩ rfl rfl) ?_))));rintro a0 u1 ⟨t0,U,o0⟩;refine wln (sr (vv (v21) (wln (W.ret ?_))));obtain rfl:=si f;exact r1 (qq a0 ⟨v21,t0,U,rfl,o0⟩)
def eN (p0:List Int):Option ((List Int)×Er):=
 (cp (σ:=(List Int)×Int) (τ:=((List Int)×Er) ⊕ (List Int)) (((p0.length:Int) - 0).toNat+1) (fun a=>
 if (decide (a.2 < (p0.length:Int)))=true then
 (idx p0 a.2).bind fun c=>
 (bH c).bind fun d=>
 if (!d)=true then
 (kG a.2 (Er.sent 0)).bind fun e=>
 some (.inr (.inl (([]:List Int),e)))
 else
 (ep c).bind fun f=>
 (app a.1 f).bind fun g=>
 some (.inl (g,(w64 (a.2+1))))
 else
 some (.inr (.inr (a.1)))) (([]:List Int),0)).bind fun b=>
 match b with
 | .inl b=>
 some b
 | .inr b=>
 some (b,Er.nil)
theorem mv (O0:Own c0 G F) (hG:Gl [0] c0) (i:List Int) {r:(List Int)×Er} (A:Sl (RI .i32) c0 v1 i) (H:eN i=some r): Calls prog 71 #[v1] c0.w (aq c0 fun c v=>∃M y2 y3,Own c G (es true (RI .u8) M 5 y2 r.1 :: F)∧v= .tuple #[M,y3]∧OA (RI .u8) c M y2 r.1∧RE 350 144 c y3 r.2):=by
 unfold eN at H;refine en func71 rfl rfl (sr (va (Y) (va (.nilIface) (wln (sr (va (Y) (wln (W.seq (sr (va (v1) (vx (ln 3 bQ A) (va (I 0) (wln (W.block (bn H fun d h3 z=>lp h3 (fun a=>Jn c0 fun c l=>∃v5 j,Own c G (es true (RI .u8) v5 5 j a.1 :: F)∧l= [(4,v5),(7,v1),(8,I (i.length:Int)),(9,I a.2)]∧OA (RI .u8) c v5 j a.1) (fun t=>match t with | .inl D=>(fun h ex e w=>ex= .ret∧(Jn c0 fun c l=>∃v9 g v11,Own c G (es true (RI .u8) v9 5 g h.1 :: F)∧l= [(2,v9),(3,v11)]∧OA (RI .u8) c v9 g h.1∧RE 350 144 c v11 h.2) e w) D | .inr D=>(fun f ex e w=>ex= .exit 0∧(Jn c0 fun c l=>∃v7 k,Own c G (es true (RI .u8) v7 5 k f :: F)∧l= [(4,v7)]∧OA (RI .u8) c v7 k f) e w) D) ?_ ?_ ?_)))))))))))))))
 ·clear z h3;intro a l2 i0 j1 H;revert i0 j1;rintro e_ w_ ⟨d0,z1,_,rfl,x,rfl,v5,j,n,rfl,q⟩;refine sr (va (B (decide (a.2 < (i.length:Int)))) (wln (W.seq (cn H (fun k0 H=>?_) (fun k0 H=>?_)))))
  ·refine W.skip (nrm (W.seq (W.block (sr (va (I a.2) (bn H fun b s H=>?_))))));obtain ⟨p1,l0,g1⟩:=Sl.at (A.mono x) (aL s);obtain rfl:=l0;refine vx (ix bQ A.m s) (vx (l1 gK (g1 0 _ rfl)) (va (I a.2) (va (J b) (wln (W.seq (sr (va (J b) (bn H fun E m0 H=>cl (dS n b m0) ?_))))))));rintro v30 u1 f1 ⟨o,rfl⟩;refine va (B (!E)) (wln (cn H (fun q0 H=>?_) (fun q0 H=>?_)))
   ·refine sr (va (I a.2) ?_);obtain ⟨v32,u⟩:=(hG.mono (x.trans f1)).get 0 (by decide);refine vx (l1 mK u.im) (bn H fun q1 s0 H=>cl (nh o a.2 (Er.sent 0) u s0) ?_);rintro v35 p d2 ⟨_,N,rfl,t0⟩;refine va (Y) (va (v35) (wln (W.ret (thr (bkr (thr ?_))))));obtain rfl:=si H;refine ⟨_,rfl,⟨rfl,?_⟩⟩;have u0:OA (RI .u8) p (Y) [] []:=OA.nil (ak _);have P:=N.addHole (e:=es true (RI .u8) (Y) 5 [] ([]:List Int)) rfl;have R:=P.sD 2 [0];exact jn p ⟨(Y),[],v35,R,rfl,u0,t0⟩
   refine W.skip (nrm (W.region (va (v5) (va (J b) (bn H fun s1 v0 H=>cl (lQ o b v0) ?_)))));rintro v47 w1 e2 ⟨_,k2,S,rfl,w0⟩;obtain ⟨x1,y0,f2,T,x0⟩:=S.frz 0 rfl w0;refine WL.gh y0 (bn H fun t1 z0 H=>me (ap (RI .u8) (.int .u8 0) 1 33 1 T q.m x0 z0 kL) ?_);rintro y e0 g2 ⟨h1,U,a1⟩;refine va (y) (WL.nil (bkn (nrm (W.region (vv (I (w64 (a.2+1))) (WL.nil ?_))))));obtain rfl:=si H;refine ⟨_,rfl,?_⟩;have X:=U.sD 2 [1];exact jn e0 ⟨y,h1,X,rfl,a1⟩
  refine W.exit (thx ?_);obtain rfl:=si H;exact ⟨_,rfl,rfl,jn d0 ⟨v5,j,n,rfl,q⟩⟩
 ·have b1:OA (RI .u8) c0 (Y) [] []:=OA.nil (ak _);have Z:=O0.addHole (e:=es true (RI .u8) (Y) 5 [] ([]:List Int)) rfl;exact jn c0 ⟨(Y),[],Z,rfl,b1⟩
 rcases d with d | d
 ·intro j0; revert j0;rintro _ e_ w_ ⟨rfl,f0,b2,_,rfl,i2,rfl,v9,g,v11,a0,rfl,c1,d1⟩;refine bkr (thr ?_);obtain rfl:=si z;exact r2 (qq f0 ⟨v9,g,v11,a0,rfl,c1,d1⟩)
 rintro _ e_ w_ ⟨rfl,g0,c2,_,rfl,j2,rfl,v7,k,b0,rfl,e1⟩;refine bke (nrm (sr (vv (v7) (va (.nilIface) (wln (W.ret ?_))))));obtain rfl:=si z;exact r2 (qq g0 ⟨v7,k,.nilIface,b0,rfl,e1,rfl⟩)
def cJ (p0:aR):Option (List Int):=
 (ca p0).bind fun a=>
 (cI a).bind fun b=>
 (eN b).bind fun c=>
 some c.1
theorem gS (M:Own c0 G F) (hG:Gl [0] c0) (a:aR) {r:List Int} (n:Sl aO c0 v1 a.Lines) (H:cJ a=some r): Calls prog 29 #[.agg #[I a.Wide,I a.High,v1,I a.At.Row,I a.At.Col,B a.At.Pending,B a.Auto]] c0.w (aq c0 fun c v=>∃b E,Own c G (es true (RI .u8) b 5 E r :: F)∧v=b∧OA (RI .u8) c b E r):=by
 unfold cJ at H;refine en func29 rfl rfl (sr ?_);obtain ⟨P,R,S,rfl⟩:=(n).form;refine me (bx 45 [I a.Wide,I a.High,.slice P R S,I a.At.Row,I a.At.Col,B a.At.Pending,B a.Auto] M) ?_;rintro v10 c9 l9 ⟨b6,rfl,N,T⟩;refine va (Y) (wln (sr (vx (lN 45 T) (bn H fun A k H=>cl (fK N a n.m k) ?_))));rintro v12 U d0 ⟨_,i0,d,rfl,l⟩;obtain ⟨X,p,e0,e,o⟩:=d.frz 0 rfl l;refine WL.gh p (bn H fun D q H=>cl (gQ e A o q) ?_);rintro v26 Z f0 ⟨_,j0,f,rfl,s⟩;obtain ⟨a0,u,g0,g,t⟩:=f.frz 0 rfl s;refine WL.gh u (bn H fun k0 x H=>cl (mv g (hG.m.le (by decide)) D t x) ?_);rintro v50 j h0 ⟨v40,z,v43,h,rfl,y,b0⟩;refine va (.tuple #[v40,v43]) (va (v40) (va (v43) (va (v40) (va (v43) (wln (sr (vv (v40) (wln (W.ret ?_)))))))));obtain rfl:=si H;have i:=h.sD 3 [0];exact r1 (qq j ⟨v40,z,i,rfl,y⟩)
def ct (p0:aR):Option (List Int):=
 (bl p0).bind fun c=>
 (cp (σ:=Int×Int) (τ:=Int) (((c.length:Int) - 0).toNat+1) (fun b=>
 if (decide (b.2 < (c.length:Int)))=true then
 ((idx c b.2).bind fun f=>
 if (decide ((f.length:Int) > 0))=true then
 some (b.2)
 else
 some (b.1)).bind fun j=>
 some (.inl (j,(w64 (b.2+1))))
 else
 some (.inr (b.1))) ((-1),0)).bind fun d=>
 (cp (σ:=(List Int)×Int) (τ:=(List Int)) ((d - 0).toNat+2) (fun a=>
 if (decide (a.2≤d))=true then
 (if (decide (a.2 > 0))=true then
 (app a.1 ([10]:List Int)).bind fun g=>
 some (g)
 else
 some (a.1)).bind fun k=>
 (idx c a.2).bind fun h=>
 (app k h).bind fun i=>
 some (.inl (i,(w64 (a.2+1))))
 else
 some (.inr (a.1))) (([]:List Int),0)).bind fun e=>
 some e
theorem iW (O0:Own c0 G F) (d:aR) {r:List Int} (h2:Sl aO c0 v1 d.Lines) (H:ct d=some r): Calls prog 21 #[.agg #[I d.Wide,I d.High,v1,I d.At.Row,I d.At.Col,B d.At.Pending,B d.Auto]] c0.w (aq c0 fun c v=>∃y1 y2,Own c G (es true (RI .i32) y1 21 y2 r :: F)∧v=y1∧OA (RI .i32) c y1 y2 r):=by
 unfold ct at H;refine en func21 rfl rfl (sr ?_);obtain ⟨a3,a4,a5,rfl⟩:=(h2).form;refine me (bx 45 [I d.Wide,I d.High,.slice a3 a4 a5,I d.At.Row,I d.At.Col,B d.At.Pending,B d.Auto] O0) ?_;rintro v10 c9 l9 ⟨b6,rfl,O7,m8⟩;refine va (Y) (wln (sr (vx (lN 45 m8) (bn H fun k i1 H=>cl (fg O7 d h2.m i1) ?_))));rintro v12 D q3 ⟨_,n,z0,rfl,i⟩;refine va (v12) (wln (sr (va (I (-1)) (wln (W.seq (sr (va (I 0) (wln (W.block (bn H fun o f0 f=>lp f0 (fun b=>Jn D fun c l=>Own c G (es true (RL (RI .i32)) v12 32 n k :: F)∧l= [(3,v12),(4,I b.1),(5,I b.2)]) (fun b0 ex e w=>ex= .exit 0∧(Jn D fun c l=>Own c G (es true (RL (RI .i32)) v12 32 n k :: F)∧l= [(3,v12),(4,I b0)]) e w) ?_ ?_ ?_))))))))))
 ·clear f f0;intro b o2 N Z H;revert N Z;rintro M X ⟨u,l3,_,rfl,f2,rfl,t,rfl⟩;refine W.seq (sr (va (I b.2) (va (v12) (vx (lnO 3 iH i.m) (va (B (decide (b.2 < (k.length:Int)))) (wln (cn H (fun k1 H=>?_) (fun k1 H=>?_))))))))
  ·refine W.skip (nrm (bn H fun x0 g y0=>W.seqJ (Jn u fun c l=>Own c G (es true (RL (RI .i32)) v12 32 n k :: F)∧l= [(3,v12),(4,I x0),(5,I b.2)]) ?_ ?_))
   ·refine W.block (sr (va (v12) (va (I b.2) (bn g fun v0 P g=>vx (ixO iH i.m P) ?_))));obtain ⟨b3,m1,k2⟩:=OA.at (i.mono f2) P;obtain ⟨v36,rfl,n1⟩:=m1;refine vr v36 (rx (by kernel_rfl) (kg bQ rfl (t.on 0 rfl) (i.m.blk P) (at1 (j:=0) k2 rfl))) (vx (ln 3 bQ n1) (va (B (decide ((v0.length:Int) > 0))) (wln (cn g (fun p1 g=>?_) (fun p1 g=>?_)))))
    ·refine W.region (vv (I b.2) (WL.nil (bkn (nrm ?_))));obtain rfl:=si g;exact jn u ⟨t,rfl⟩
    refine W.skip (bkn (nrm ?_));obtain rfl:=si g;exact jn u ⟨t,rfl⟩
   rintro M X ⟨g1,m3,_,rfl,s3,rfl,a1,rfl⟩;refine W.region (va (I b.2) (vv (I (w64 (b.2+1))) (WL.nil ?_)));obtain rfl:=si y0;exact ⟨_,rfl,jn g1 ⟨a1,rfl⟩⟩
  refine W.exit (thx ?_);obtain rfl:=si H;exact ⟨_,rfl,rfl,jn u ⟨t,rfl⟩⟩
 ·exact jn D ⟨z0,rfl⟩
 rintro _ M X ⟨rfl,x,n3,_,rfl,g2,rfl,b1,rfl⟩;refine bke (nrm (sr (va (Y) (wln (W.seq (sr (va (I 0) (wln (W.block (bn f fun e3 g0 d0=>lp g0 (fun a=>Jn x fun c l=>∃v53 q,Own c G (es true (RI .i32) v53 21 q a.1 :: es true (RL (RI .i32)) v12 32 n k :: F)∧l= [(3,v12),(4,I o),(6,v53),(7,I a.2)]∧OA (RI .i32) c v53 q a.1) (fun y ex e w=>ex= .exit 2∧(Jn x fun c l=>∃v55 z,Own c G (es true (RI .i32) v55 21 z y :: es true (RL (RI .i32)) v12 32 n k :: F)∧l= [(6,v55)]∧OA (RI .i32) c v55 z y) e w) ?_ ?_ ?_))))))))))
 ·clear d0 g0;intro a o2 N Z f;revert N Z;rintro M X ⟨E,o3,_,rfl,i2,rfl,v53,q,A,rfl,R⟩;refine W.seq (sr (va (I a.2) (va (I o) (va (B (decide (a.2≤o))) (wln (cn f (fun q1 f=>?_) (fun q1 f=>?_)))))))
  ·refine W.skip (nrm (W.seq (W.block (bn f fun a0 h p=>W.seqJ (Jn E fun c l=>∃s T,Own c G (es true (RI .i32) s 21 T a0 :: es true (RL (RI .i32)) v12 32 n k :: F)∧l= [(3,v12),(4,I o),(6,s),(7,I a.2)]∧OA (RI .i32) c s T a0) ?_ ?_))))
   ·refine sr (va (I a.2) (va (B (decide (a.2 > 0))) (wln (cn h (fun s1 h=>?_) (fun s1 h=>?_)))))
    ·refine W.region (va (v53) (me (sl (RI .i32) 21 [[J 10]] ([10]:List Int) A ⟨rfl,trivial⟩) ?_));rintro x3 i3 t3 ⟨w3,c1,t1⟩;obtain ⟨j3,w1,u3,d1,u1⟩:=c1.frz 0 rfl t1;refine WL.gh w1 (bn h fun f3 x1 h=>me (ap (RI .i32) (J 0) 4 32 1 d1 R.m u1 x1 bQ) ?_);rintro h0 h1 v3 ⟨m2,e1,z1⟩;refine va (h0) (wln ?_);obtain rfl:=si h;have f1:=e1.sD 3 [1,2];exact jn h1 ⟨h0,m2,f1,rfl,z1⟩
    refine W.skip (nrm ?_);obtain rfl:=si h;exact jn E ⟨v53,q,A,rfl,R⟩
   rintro M X ⟨k3,p3,_,rfl,j2,rfl,s,T,e0,rfl,b2⟩;refine W.region (va (s) (va (v12) (va (I a.2) (bn p fun g3 S p=>vx (ixO iH i.m S) ?_))));obtain ⟨c3,c2,l2⟩:=OA.at (i.mono (g2.trans (i2.trans j2))) S;obtain ⟨n2,rfl,d2⟩:=c2;refine vr n2 (rx (by kernel_rfl) (kg bQ rfl (e0.on 1 rfl) (i.m.blk S) (at1 (j:=0) l2 rfl))) (bn p fun h3 e2 p=>me (ap (RI .i32) (J 0) 4 32 0 e0 b2 d2 e2 bQ) ?_);rintro U m0 x2 ⟨u0,i0,q0⟩;refine va (U) (WL.nil (bkn (nrm (W.region (va (I a.2) (vv (I (w64 (a.2+1))) (WL.nil ?_)))))));obtain rfl:=si p;exact ⟨_,rfl,jn m0 ⟨U,u0,i0,rfl,q0⟩⟩
  refine W.exit (thx ?_);obtain rfl:=si f;exact ⟨_,rfl,rfl,jn E ⟨v53,q,A,rfl,R⟩⟩
 ·have s0:OA (RI .i32) x (Y) [] []:=OA.nil (ak _);have j0:=b1.addHole (e:=es true (RI .i32) (Y) 21 [] ([]:List Int)) rfl;exact jn x ⟨(Y),[],j0,rfl,s0⟩
 rintro _ M X ⟨rfl,o0,w2,_,rfl,z2,rfl,v55,z,k0,rfl,t0⟩;refine bke (nrm (sr (vv (v55) (wln (W.ret ?_)))));obtain rfl:=si d0;have l0:=k0.sD 2 [0];exact r1 (qq o0 ⟨v55,z,l0,rfl,t0⟩)
def cu (p0:List (List Int)) (p1:List (List Int)):Option (Bool):=
 if ((p0.length:Int) != (p1.length:Int))=true then
 some false
 else
 (cp (σ:=Int) (τ:=Bool ⊕ Unit) (((p0.length:Int) - 0).toNat+1) (fun a=>
 if (decide (a < (p0.length:Int)))=true then
 (idx p0 a).bind fun d=>
 (idx p1 a).bind fun e=>
 (orE (!(eqS (la d) (la e))) ((idx p0 a).bind fun f=>
 (idx p1 a).bind fun g=>
 some ((f.length:Int) != (g.length:Int)))).bind fun c=>
 if c=true then
 some (.inr (.inl false))
 else
 some (.inl ((w64 (a+1))))
 else
 some (.inr (.inr ()))) (0)).bind fun b=>
 match b with
 | .inl b=>
 some b
 | .inr b=>
 some true
theorem iX (O0:Own c0 G F) (x:List (List Int)) (X:List (List Int)) {r:Bool} (n:Sl (RL (RI .i32)) c0 v1 x) (p:Sl (RL (RI .i32)) c0 v3 X) (H:cu x X=some r): Calls prog 22 #[v1,v3] c0.w (aq c0 fun c v=>Own c G (F)∧v=B r):=by
 unfold cu at H;refine en func22 rfl rfl (sr (va (B false) (wln (W.seq (sr (va (v1) (vx (ln 3 iH n) (va (v3) (vx (ln 3 iH p) (va (B ((x.length:Int) != (X.length:Int))) (wln (cn H (fun h5 H=>?_) (fun h5 H=>?_)))))))))))))
 ·refine sr (va (B false) (wln (W.ret (thr ?_))));obtain rfl:=si H;exact r1 (qq c0 ⟨O0,rfl⟩)
 refine W.skip (nrm (W.seq (sr (va (I 0) (wln (W.block (bn H fun h h6 S=>lp h6 (fun a=>Jn c0 fun c l=>Own c G (F)∧l= [(0,v1),(1,v3),(5,I a)]) (fun t=>match t with | .inl x_=>(fun c1 ex e w=>ex= .ret∧(Jn c0 fun c l=>Own c G (F)∧l= [(4,B c1)]) e w) x_ | .inr x_=>(fun e1 ex e w=>ex= .exit 0∧(Jn c0 fun c l=>Own c G (F)∧l= []) e w) x_) ?_ ?_ ?_)))))))
 ·clear S h6;intro a w1 i0 d1 H;revert i0 d1;rintro U Z ⟨c8,g9,_,rfl,u,rfl,y,rfl⟩;refine W.seq (sr (va (I a) (va (v1) (vx (ln 3 iH n.m) (va (B (decide (a < (x.length:Int)))) (wln (cn H (fun k0 H=>?_) (fun k0 H=>?_))))))))
  ·refine W.skip (nrm (W.seq (W.block (W.seq (bn H fun i E H=>bn H fun j M H=>bn H fun T N H=>W.join (Jn c8 fun c l=>Own c G (F)∧l= [(0,v1),(1,v3),(5,I a),(40,B T)]) ?_ ?_)))))
   ·clear H;refine rD [] (Kp G0 []) y ?_;intro o k z;have u1:Kp G0 [] o:=Kp.nil0;refine ta 0 (v1) (ta 1 (I a) ?_);obtain ⟨g1,l0,y0⟩:=Sl.at (n.mono (u.trans k)) (aL E);obtain ⟨v24,rfl,m0⟩:=l0;refine tx 2 (fun d b=>ix iH n.m E) (tx 3 (fun d b=>l1 bQ ((mm y0) 0 _ rfl)) (AC.take 4 (.string (la i)) rfl (by kernel_rfl) (by kernel_rfl) (fun d b=>(rx (by kernel_rfl) (mO bQ gK u_9 m0.m))) (ta 5 (v3) (ta 6 (I a) ?_))));obtain ⟨h1,o0,z0⟩:=Sl.at (p.mono (u.trans k)) (aL M);obtain ⟨v29,rfl,q0⟩:=o0;refine tx 7 (fun d b=>ix iH p.m M) (tx 8 (fun d b=>l1 bQ ((mm z0) 0 _ rfl)) (AC.take 9 (.string (la j)) rfl (by kernel_rfl) (by kernel_rfl) (fun d b=>(rx (by kernel_rfl) (mO bQ gK u_9 q0.m))) (AC.take 10 (B (!(eqS (la i) (la j)))) rfl (by kernel_rfl) (by kernel_rfl) (fun d b=>(pG (by kernel_rfl))) ?_)));rcases bo (!(eqS (la i) (la j))) with g | g
    ·obtain rfl:=orT g N;exact AC.takeb 11 g rfl (by kernel_rfl) (by kernel_rfl) (fun d b=>(by kernel_rfl)) (tp 12 (tp 13 (tp 14 (tp 15 (tp 16 (tp 17 (tp 18 (tp 19 (tp 20 (tp 21 (tp 22 (ta 23 (B true) (dn (nrm (jn o ⟨z,rfl⟩)))))))))))))))
    have f:=orF g N;refine bn f fun q P f=>bn f fun s R f=>AC.takeb 11 g rfl (by kernel_rfl) (by kernel_rfl) (fun d b=>(by kernel_rfl)) (ta 12 (v1) (ta 13 (I a) ?_));obtain ⟨i1,s0,a1⟩:=Sl.at (n.mono (u.trans k)) (aL P);obtain ⟨v38,rfl,t0⟩:=s0;refine tx 14 (fun d b=>ix iH n.m P) (tx 15 (fun d b=>l1 bQ ((mm a1) 0 _ rfl)) (tx 16 (fun d b=>ln 3 bQ t0) (ta 17 (v3) (ta 18 (I a) ?_))));obtain ⟨j1,u0,b1⟩:=Sl.at (p.mono (u.trans k)) (aL R);obtain ⟨v43,rfl,v0⟩:=u0;refine tx 19 (fun d b=>ix iH p.m R) (tx 20 (fun d b=>l1 bQ ((mm b1) 0 _ rfl)) (tx 21 (fun d b=>ln 3 bQ v0) (ta 22 (B ((q.length:Int) != (s.length:Int))) ?_)));obtain rfl:=si f;exact ta 23 (B ((q.length:Int) != (s.length:Int))) (dn (nrm (jn o ⟨z,rfl⟩)))
   rintro U Z ⟨D,k1,_,rfl,q1,rfl,A,rfl⟩;refine nrm (cn H (fun w0 H=>?_) (fun w0 H=>?_))
   ·refine sr (va (B false) (wln (W.ret (bkr (thr ?_)))));obtain rfl:=si H;exact ⟨_,rfl,⟨rfl,jn D ⟨A,rfl⟩⟩⟩
   refine W.skip (bkn (nrm (W.region (va (I a) (vv (I (w64 (a+1))) (WL.nil ?_))))));obtain rfl:=si H;exact ⟨_,rfl,jn D ⟨A,rfl⟩⟩
  refine W.exit (thx ?_);obtain rfl:=si H;exact ⟨_,rfl,rfl,jn c8 ⟨y,rfl⟩⟩
 ·exact jn c0 ⟨O0,rfl⟩
 rcases h with h | h
 ·intro j0; revert j0;rintro _ U Z ⟨rfl,f0,m1,_,rfl,s1,rfl,d0,rfl⟩;refine bkr (thr ?_);obtain rfl:=si S;exact r1 (qq f0 ⟨d0,rfl⟩)
 rintro _ U Z ⟨rfl,g0,n1,_,rfl,t1,rfl,e0,rfl⟩;refine bke (nrm (sr (va (B true) (wln (W.ret ?_)))));obtain rfl:=si S;exact r1 (qq g0 ⟨e0,rfl⟩)
def bm (sg:Sto):Option (Sto×Bool):=
 (hF sg 3 2).bind fun a=>
 (if a.2.isNone=true then some (true,a.1) else (eF a.1 a.2 (⟨0,0,0,([97,98,228,184,128,99]:List Int)⟩:dH)).bind fun c=>
 some (!c.2.isNil,c.1)).bind fun b=>
 if b.1=true then
 some (b.2,false)
 else
 (cX b.2 a.2).bind fun e=>
 (ca e).bind fun f=>
 (bt f ([97,98,19968,99]:List Int)).bind fun g=>
 (bY g ((cX b.2 a.2).bind fun h=>
 (cJ h).bind fun i=>
 some ((i.length:Int)==6))).bind fun d=>
 some (b.2,d)
theorem fi (O0:Own c0 G F) (R0:Rel c0 sg G) (hG:Gl [0,2,4,7] c0) {r:Sto×Bool} (H:bm sg=some r): Calls prog 20 #[] c0.w (aq c0 fun c v=>∃G_:Gm,Own c G_ (F)∧Rel c r.1 G_∧v=B r.2):=by
 unfold bm at H;refine en func20 rfl rfl (sr (va (B false) (wln (sr (bn H fun g h1 H=>cl (mu O0 R0 3 2 h1) ?_)))));rintro v2 c8 l8 ⟨_,G4,O5,R6,a7,rfl,z⟩;refine va (v2) (wln (W.seq (W.seq (bn H fun M N H=>W.join (Jn c8 fun c l=>∃G_,Own c G_ (F)∧l= [(1,v2),(12,B M.1)]∧Rel c M.2 G_) ?_ ?_))))
 ·clear H;refine W.region (va (v2) (vr (B g.2.isNone) (by rcases (z).cs with ⟨a,b⟩ | ⟨b_,a,b⟩ <;> (subst a; rw [b]; kernel_rfl)) ?_));rcases bo (g.2.isNone) with e | e
  ·obtain rfl:=ai (it e N);exact vb e (pz (pz (pz (va (B true) (wln (jn c8 ⟨G4,O5,rfl,R6⟩))))))
  have o:=ie e N;refine vb e (wa (v2) (wn (me (sl (RI .u8) 5 [[.int .u8 97],[.int .u8 98],[.int .u8 228],[.int .u8 184],[.int .u8 128],[.int .u8 99]] ([97,98,228,184,128,99]:List Int) O5 ⟨rfl,rfl,rfl,rfl,rfl,rfl,trivial⟩) ?_)));rintro v17 f3 l16 ⟨y3,u0,s1⟩;refine wn (me (Own.mark (T:=33) 0 u0 rfl s1 (by kernel_rfl) kL u_5 (by kernel_rfl)) ?_);rintro v21 g3 p3 ⟨v0,P⟩;have w0:=v0.sD 1 [];refine wn ?_;obtain ⟨i1,j1,k1,rfl⟩:=(P).form;refine va (.agg #[I 0,I 0,I 0,.slice i1 j1 k1]) (wn (bn o fun y t1 o=>cl (jF w0 R6.m (hG.m.le (by decide)) g.2 (⟨0,0,0,([97,98,228,184,128,99]:List Int)⟩:dH) z.m P t1) ?_));rintro v27 n1 q3 ⟨_,t0,x0,f1,rfl,u1⟩;refine wn (vr (B (!y.2.isNil)) (by rcases (u1).cs with ⟨a,b⟩ | ⟨b_,a,b⟩ | ⟨b_,a,b⟩ <;> (subst a; rw [b]; kernel_rfl)) ?_);obtain rfl:=si o;exact va (B (!y.2.isNil)) (wln (jn n1 ⟨t0,x0,rfl,f1⟩))
 rintro e_ w_ ⟨E,o3,_,rfl,s3,rfl,n,A,rfl,k⟩;refine nrm (cn H (fun v1 H=>?_) (fun v1 H=>?_))
 ·refine sr (va (B false) (wln (W.ret (thr ?_))));obtain rfl:=si H;exact r1 (qq E ⟨n,A,k,rfl⟩)
 refine W.skip (nrm (W.seq (bn H fun h w1 H=>bn H fun i x1 H=>bn H fun q0 y1 H=>bn H fun k0 R H=>W.join (Jn E fun c l=>∃v46 t v48 u v50 x,Own c n (es false (RI .i32) v46 21 t ([97,98,19968,99]:List Int) :: es false (RI .i32) v48 21 u i :: es false aO v50 48 x h.Lines :: F)∧l= [(0,B k0)]∧OA (RI .i32) c v46 t ([97,98,19968,99]:List Int)∧OA (RI .i32) c v48 u i∧OA aO c v50 x h.Lines) ?_ ?_)))
 ·clear H;refine W.region (va (v2) (cl (fE A k g.2 z.m w1) ?_));rintro v60 i3 t3 ⟨v52,S,z0,rfl,p⟩;obtain ⟨j3,b2,u3,a1,z1⟩:=z0.frz 0 rfl p;refine WL.gh b2 (cl (fK a1 h z1 x1) ?_);rintro Z k3 v3 ⟨_,U,b1,rfl,q⟩;refine me (sl (RI .i32) 21 [[J 97],[J 98],[J 19968],[J 99]] ([97,98,19968,99]:List Int) b1 ⟨rfl,rfl,rfl,rfl,trivial⟩) ?_;rintro a0 l3 i2 ⟨X,c1,s⟩;obtain ⟨m3,d2,j2,d1,c2⟩:=c1.frz 1 rfl (q.mono i2);refine WL.gh d2 ?_;obtain ⟨n3,f2,w3,e1,e2⟩:=d1.frz 0 rfl (s.mono j2);refine WL.gh f2 (cl (fF e1 i ([97,98,19968,99]:List Int) c2.m e2 y1) ?_);rintro a4 q1 x3 ⟨D,rfl⟩;rcases bo (q0) with f | f
  ·have d:=anT f R;refine vb f (wa (v2) (wn (bn d fun s0 g2 d=>cl (fE D k.m g.2 z.m g2) ?_)));rintro c3 n2 x2 ⟨b4,z3,b0,rfl,h2⟩;refine wn ?_;obtain ⟨o2,m0,y2,d0,l0⟩:=b0.frz 0 rfl h2;refine WL.gh m0 (bn d fun j o0 d=>cl (gS d0 (hG.m.le (by decide)) s0 l0 o0) ?_);rintro d3 i0 z2 ⟨_,b3,e0,rfl,p0⟩;refine wn (vx (lnO 3 kL p0) (wa (B ((j.length:Int)==6)) ?_));obtain rfl:=si d;refine vv (B ((j.length:Int)==6)) (wln ?_);have f0:=e0.sD 5 [2,3,4];exact jn i0 ⟨a0,X,Z,U,v52,S,f0,rfl,s.m,q.m,p.m⟩
  obtain rfl:=anF f R;exact vb f (pz (pz (ps (vv (B false) (wln (jn q1 ⟨a0,X,Z,U,v52,S,D,rfl,s.m,q.m,p.m⟩))))))
 rintro e_ w_ ⟨j0,q2,_,rfl,a3,rfl,v46,t,v48,u,v50,x,g0,rfl,t2,u2,w2⟩;refine nrm (W.ret ?_);obtain rfl:=si H;have h0:=g0.sD 3 [];exact r1 (qq j0 ⟨n,h0,k.m,rfl⟩)
def cw (p0:Int):Option (Int):=
 (aX p0).bind fun d=>
 if (!d)=true then
 some 0
 else
 (if (decide (p0 > 127))=true then
 some (2)
 else
 some (1)).bind fun a=>
 (if (decide (p0 > 2047))=true then
 some (3)
 else
 some (a)).bind fun b=>
 (if (decide (p0 > 65535))=true then
 some (4)
 else
 some (b)).bind fun c=>
 some c
theorem iY (M:Own c0 G F) (a:Int) {r:Int} (H:cw a=some r): Calls prog 70 #[J a] c0.w (aq c0 fun c v=>Own c G (F)∧v=I r):=by
 unfold cw at H;refine en func70 rfl rfl (sr (va (I 0) (wln (W.seq (sr (va (J a) (bn H fun E N H=>cl (fh M a N) ?_)))))));rintro v7 i l6 ⟨m,rfl⟩;refine va (B (!E)) (wln (cn H (fun P H=>?_) (fun P H=>?_)))
 ·refine sr (va (I 0) (wln (W.ret (thr ?_))));obtain rfl:=si H;exact r1 (qq i ⟨m,rfl⟩)
 refine W.skip (nrm (sr (va (I 1) (wln (bn H fun n f p=>W.seqJ (Jn i fun c l=>Own c G (F)∧l= [(0,J a),(3,I n)]) ?_ ?_)))))
 ·refine sr (va (J a) (va (B (decide (a > 127))) (wln (cn f (fun y f=>?_) (fun y f=>?_)))))
  ·refine W.region (va (I 2) (wln ?_));obtain rfl:=si f;exact jn i ⟨m,rfl⟩
  refine W.skip (nrm ?_);obtain rfl:=si f;exact jn i ⟨m,rfl⟩
 rintro x D ⟨g,R,_,rfl,U,rfl,j,rfl⟩;refine bn p fun o b q=>W.seqJ (Jn g fun c l=>Own c G (F)∧l= [(0,J a),(3,I o)]) ?_ ?_
 ·refine sr (va (J a) (va (B (decide (a > 2047))) (wln (cn b (fun z b=>?_) (fun z b=>?_)))))
  ·refine W.region (va (I 3) (wln ?_));obtain rfl:=si b;exact jn g ⟨j,rfl⟩
  refine W.skip (nrm ?_);obtain rfl:=si b;exact jn g ⟨j,rfl⟩
 rintro x D ⟨h,S,_,rfl,X,rfl,k,rfl⟩;refine bn q fun e d s=>W.seqJ (Jn h fun c l=>Own c G (F)∧l= [(3,I e)]) ?_ ?_
 ·refine sr (va (J a) (va (B (decide (a > 65535))) (wln (cn d (fun A d=>?_) (fun A d=>?_)))))
  ·refine W.region (va (I 4) (wln ?_));obtain rfl:=si d;exact jn h ⟨k,rfl⟩
  refine W.skip (nrm ?_);obtain rfl:=si d;exact jn h ⟨k,rfl⟩
 rintro x D ⟨u,T,_,rfl,Z,rfl,t,rfl⟩;refine sr (vv (I e) (wln (W.ret ?_)));obtain rfl:=si s;exact r1 (qq u ⟨t,rfl⟩)
def cx (p0:Int):Option (List Int):=
 (cw p0).bind fun a=>
 if (a==1)=true then
 some ([(IntKind.u8.wrap (w64 p0))]:List Int)
 else
 if (a==2)=true then
 some ([(IntKind.u8.wrap (w64 (192+(w64 ((w64 p0).tdiv 64))))),(IntKind.u8.wrap (w64 (128+((w64 p0).tmod 64))))]:List Int)
 else
 if (a==3)=true then
 some ([(IntKind.u8.wrap (w64 (224+(w64 ((w64 p0).tdiv 4096))))),(IntKind.u8.wrap (w64 (128+((w64 ((w64 p0).tdiv 64)).tmod 64)))),(IntKind.u8.wrap (w64 (128+((w64 p0).tmod 64))))]:List Int)
 else
 if (a==4)=true then
 some ([(IntKind.u8.wrap (w64 (240+(w64 ((w64 p0).tdiv 262144))))),(IntKind.u8.wrap (w64 (128+((w64 ((w64 p0).tdiv 4096)).tmod 64)))),(IntKind.u8.wrap (w64 (128+((w64 ((w64 p0).tdiv 64)).tmod 64)))),(IntKind.u8.wrap (w64 (128+((w64 p0).tmod 64))))]:List Int)
 else
 some ([]:List Int)
theorem iZ (P:Own c0 G F) (a:Int) {r:List Int} (H:cx a=some r): Calls prog 27 #[J a] c0.w (aq c0 fun c v=>∃f N,Own c G (es true (RI .u8) f 5 N r :: F)∧v=f∧OA (RI .u8) c f N r):=by
 unfold cx at H;refine en func27 rfl rfl (sr (va (Y) (wln (sr (va (J a) (vv (I (w64 a)) (wln (sr (va (J a) (bn H fun b S H=>cl (iY P a S) ?_))))))))));rintro v7 o l6 ⟨d,rfl⟩;refine va (I b) (wln (W.seq (sr (va (I b) (va (B (b==1)) (wln (cn H (fun T H=>?_) (fun T H=>?_))))))))
 ·refine sr (va (I (w64 a)) (va (.int .u8 (IntKind.u8.wrap (w64 a))) (me (sl (RI .u8) 5 [[.int .u8 (IntKind.u8.wrap (w64 a))]] ([(IntKind.u8.wrap (w64 a))]:List Int) d ⟨rfl,trivial⟩) ?_)));rintro v13 k U ⟨A,R,p⟩;refine va (v13) (wln (W.ret (thr ?_)));obtain rfl:=si H;exact r1 (qq k ⟨v13,A,R,rfl,p⟩)
 refine W.skip (nrm (W.seq (sr (va (I b) (va (B (b==2)) (wln (cn H (fun q H=>?_) (fun q H=>?_))))))))
 ·refine sr (va (I (w64 a)) (va (I (w64 ((w64 a).tdiv 64))) (va (I (w64 (192+(w64 ((w64 a).tdiv 64))))) (va (.int .u8 (IntKind.u8.wrap (w64 (192+(w64 ((w64 a).tdiv 64)))))) (va (I (w64 a)) (va (I ((w64 a).tmod 64)) (va (I (w64 (128+((w64 a).tmod 64)))) (va (.int .u8 (IntKind.u8.wrap (w64 (128+((w64 a).tmod 64))))) (me (sl (RI .u8) 5 [[.int .u8 (IntKind.u8.wrap (w64 (192+(w64 ((w64 a).tdiv 64)))))],[.int .u8 (IntKind.u8.wrap (w64 (128+((w64 a).tmod 64))))]] ([(IntKind.u8.wrap (w64 (192+(w64 ((w64 a).tdiv 64))))),(IntKind.u8.wrap (w64 (128+((w64 a).tmod 64))))]:List Int) d ⟨rfl,rfl,trivial⟩) ?_)))))))));rintro v19 l X ⟨D,g,s⟩;refine va (v19) (wln (W.ret (thr ?_)));obtain rfl:=si H;exact r1 (qq l ⟨v19,D,g,rfl,s⟩)
 refine W.skip (nrm (W.seq (sr (va (I b) (va (B (b==3)) (wln (cn H (fun t H=>?_) (fun t H=>?_))))))))
 ·refine sr (va (I (w64 a)) (va (I (w64 ((w64 a).tdiv 4096))) (va (I (w64 (224+(w64 ((w64 a).tdiv 4096))))) (va (.int .u8 (IntKind.u8.wrap (w64 (224+(w64 ((w64 a).tdiv 4096)))))) (va (I (w64 a)) (va (I (w64 ((w64 a).tdiv 64))) (va (I ((w64 ((w64 a).tdiv 64)).tmod 64)) (va (I (w64 (128+((w64 ((w64 a).tdiv 64)).tmod 64)))) (va (.int .u8 (IntKind.u8.wrap (w64 (128+((w64 ((w64 a).tdiv 64)).tmod 64))))) (va (I (w64 a)) (va (I ((w64 a).tmod 64)) (va (I (w64 (128+((w64 a).tmod 64)))) (va (.int .u8 (IntKind.u8.wrap (w64 (128+((w64 a).tmod 64))))) (me (sl (RI .u8) 5 [[.int .u8 (IntKind.u8.wrap (w64 (224+(w64 ((w64 a).tdiv 4096)))))],[.int .u8 (IntKind.u8.wrap (w64 (128+((w64 ((w64 a).tdiv 64)).tmod 64))))],[.int .u8 (IntKind.u8.wrap (w64 (128+((w64 a).tmod 64))))]] ([(IntKind.u8.wrap (w64 (224+(w64 ((w64 a).tdiv 4096))))),(IntKind.u8.wrap (w64 (128+((w64 ((w64 a).tdiv 64)).tmod 64)))),(IntKind.u8.wrap (w64 (128+((w64 a).tmod 64))))]:List Int) d ⟨rfl,rfl,rfl,trivial⟩) ?_))))))))))))));rintro v25 m Z ⟨E,h,u⟩;refine va (v25) (wln (W.ret (thr ?_)));obtain rfl:=si H;exact r1 (qq m ⟨v25,E,h,rfl,u⟩)
 refine W.skip (nrm (W.seq (sr (va (I b) (va (B (b==4)) (wln (cn H (fun x H=>?_) (fun x H=>?_))))))))
 ·refine sr (va (I (w64 a)) (va (I (w64 ((w64 a).tdiv 262144))) (va (I (w64 (240+(w64 ((w64 a).tdiv 262144))))) (va (.int .u8 (IntKind.u8.wrap (w64 (240+(w64 ((w64 a).tdiv 262144)))))) (va (I (w64 a)) (va (I (w64 ((w64 a).tdiv 4096))) (va (I ((w64 ((w64 a).tdiv 4096)).tmod 64)) (va (I (w64 (128+((w64 ((w64 a).tdiv 4096)).tmod 64)))) (va (.int .u8 (IntKind.u8.wrap (w64 (128+((w64 ((w64 a).tdiv 4096)).tmod 64))))) (va (I (w64 a)) (va (I (w64 ((w64 a).tdiv 64))) (va (I ((w64 ((w64 a).tdiv 64)).tmod 64)) (va (I (w64 (128+((w64 ((w64 a).tdiv 64)).tmod 64)))) (va (.int .u8 (IntKind.u8.wrap (w64 (128+((w64 ((w64 a).tdiv 64)).tmod 64))))) (va (I (w64 a)) (va (I ((w64 a).tmod 64)) (va (I (w64 (128+((w64 a).tmod 64)))) (va (.int .u8 (IntKind.u8.wrap (w64 (128+((w64 a).tmod 64))))) (me (sl (RI .u8) 5 [[.int .u8 (IntKind.u8.wrap (w64 (240+(w64 ((w64 a).tdiv 262144)))))],[.int .u8 (IntKind.u8.wrap (w64 (128+((w64 ((w64 a).tdiv 4096)).tmod 64))))],[.int .u8 (IntKind.u8.wrap (w64 (128+((w64 ((w64 a).tdiv 64)).tmod 64))))],[.int .u8 (IntKind.u8.wrap (w64 (128+((w64 a).tmod 64))))]] ([(IntKind.u8.wrap (w64 (240+(w64 ((w64 a).tdiv 262144))))),(IntKind.u8.wrap (w64 (128+((w64 ((w64 a).tdiv 4096)).tmod 64)))),(IntKind.u8.wrap (w64 (128+((w64 ((w64 a).tdiv 64)).tmod 64)))),(IntKind.u8.wrap (w64 (128+((w64 a).tmod 64))))]:List Int) d ⟨rfl,rfl,rfl,rfl,trivial⟩) ?_)))))))))))))))))));rintro v31 n a0 ⟨M,i,y⟩;refine va (v31) (wln (W.ret (thr ?_)));obtain rfl:=si H;exact r1 (qq n ⟨v31,M,i,rfl,y⟩)
 refine W.skip (nrm (sr (va (Y) (wln (W.ret ?_)))));obtain rfl:=si H;have z:OA (RI .u8) o (Y) [] []:=OA.nil (ak _);have j:=d.addHole (e:=es true (RI .u8) (Y) 5 [] ([]:List Int)) rfl;exact r1 (qq o ⟨(Y),[],j,rfl,z⟩)
def cg (p0:List Int) (p1:List Int):Option (Bool):=
 some (eqS (kR p0) (kR p1))
theorem iI (d:Own c0 G F) (a:List Int) (b:List Int) {r:Bool} (e:Sl (RI .u8) c0 v1 a) (f:Sl (RI .u8) c0 v3 b) (H:cg a b=some r): Calls prog 28 #[v1,v3] c0.w (aq c0 fun c v=>Own c G (F)∧v=B r):=by
 unfold cg at H;refine en func28 rfl rfl (sr (va (B false) (wln (sr (va (v1) (vr (.string (kR a)) (rx (by kernel_rfl) (mQ kL u_5 u_9 e)) (va (v3) (vr (.string (kR b)) (rx (by kernel_rfl) (mQ kL u_5 u_9 f)) (vr (B (eqS (kR a) (kR b))) (pH (by kernel_rfl)) (va (B (eqS (kR a) (kR b))) (wln (W.ret ?_))))))))))));obtain rfl:=si H;exact r1 (qq c0 ⟨d,rfl⟩)
def bg (sg:Sto) (p0:aR):Option (Sto×Bool):=
 (bm sg).bind fun e=>
 (orE (!e.2) (some (decide ((p0.Lines.length:Int) > 60)))).bind fun w=>
 if w=true then
 (bm e.1).bind fun f=>
 some (f.1,f.2)
 else
 (cp (σ:=Int×Int) (τ:=(Sto×Bool) ⊕ Unit) (((p0.Lines.length:Int) - 0).toNat+1) (fun b=>
 if (decide (b.2 < (p0.Lines.length:Int)))=true then
 (idx p0.Lines b.2).bind fun g=>
 if (decide ((w64 (b.1+(g.Cells.length:Int))) > 2000))=true then
 some (.inr (.inl (e.1,true)))
 else
 some (.inl ((w64 (b.1+(g.Cells.length:Int))),(w64 (b.2+1))))
 else
 some (.inr (.inr ()))) (0,0)).bind fun d=>
 match d with
 | .inl d=>
 some d
 | .inr d=>
 (ct p0).bind fun a=>
 (orE (decide ((a.length:Int) > 40000)) ((ci p0).bind fun p=>
 (bl p0).bind fun q=>
 (cu p q).bind fun r=>
 some (!r))).bind fun m=>
 (orE m ((ca p0).bind fun s=>
 (bt s a).bind fun t=>
 some (!t))).bind fun n=>
 if n=true then
 some (e.1,decide ((a.length:Int) > 40000))
 else
 (cp (σ:=(List Int)×Int) (τ:=(List Int)) (((a.length:Int) - 0).toNat+1) (fun c=>
 if (decide (c.2 < (a.length:Int)))=true then
 (idx a c.2).bind fun h=>
 ((aX h).bind fun u=>
 if (!u)=true then
 some (65533)
 else
 some (h)).bind fun v=>
 (cx v).bind fun i=>
 (app c.1 i).bind fun j=>
 some (.inl (j,(w64 (c.2+1))))
 else
 some (.inr (c.1))) (([]:List Int),0)).bind fun o=>
 (cJ p0).bind fun k=>
 (cg k o).bind fun l=>
 some (e.1,l)
theorem fG (O0:Own c0 G F) (R0:Rel c0 sg G) (hG:Gl [0,2,4,7] c0) (f:aR) {r:Sto×Bool} (M:Sl aO c0 v1 f.Lines) (H:bg sg f=some r): Calls prog 4 #[.agg #[I f.Wide,I f.High,v1,I f.At.Row,I f.At.Col,B f.At.Pending,B f.Auto]] c0.w (aq c0 fun c v=>∃G_:Gm,Own c G_ (F)∧Rel c r.1 G_∧v=B r.2):=by
 unfold bg at H;refine en func4 rfl rfl (sr ?_);obtain ⟨a3,a4,a5,rfl⟩:=(M).form;refine me (bx 45 [I f.Wide,I f.High,.slice a3 a4 a5,I f.At.Row,I f.At.Col,B f.At.Pending,B f.Auto] O0) ?_;rintro v10 c9 l9 ⟨E,rfl,O7,X⟩;refine va (B false) (wln (W.seq (W.seq (bn H fun i1 t6 H=>bn H fun r6 w1 H=>W.join (Jn c9 fun c l=>∃G_,Own c G_ (F)∧l= [(1,Q E),(16,B r6)]∧Rel c i1.1 G_) ?_ ?_))))
 ·clear H;refine W.region (cl (fi O7 R0.m (hG.m.le (by decide)) t6) ?_);rintro v18 u1 k9 ⟨n1,p1,t1,rfl⟩;refine va (B (!i1.2)) ?_;rcases bo (!i1.2) with T | T
  ·obtain rfl:=orT T w1;exact vb T (pz (pz (va (B true) (wln (jn u1 ⟨n1,p1,rfl,t1⟩)))))
  have c6:=orF T w1;refine vb T (wa (Qo E (0+2)) (wn (vx (l1 kM ((mm X) 2 _ rfl)) (wn (vx (ln 3 kM M.m) (wa (B (decide ((f.Lines.length:Int) > 60))) ?_))))));obtain rfl:=si c6;exact va (B (decide ((f.Lines.length:Int) > 60))) (wln (jn u1 ⟨n1,p1,rfl,t1⟩))
 rintro e_ w_ ⟨l0,f9,_,rfl,g7,rfl,n,q1,rfl,k0⟩;refine nrm (cn H (fun u6 H=>?_) (fun u6 H=>?_))
 ·refine sr (bn H fun u5 v6 H=>cl (fi q1 k0 (hG.m.le (by decide)) v6) ?_);rintro v34 l6 m9 ⟨z5,d6,j6,rfl⟩;refine va (B u5.2) (wln (W.ret (thr ?_)));obtain rfl:=si H;exact r1 (qq l6 ⟨z5,d6,j6,rfl⟩)
 refine W.skip (nrm (sr (va (I 0) (wln (W.seq (sr (va (I 0) (wln (W.block (bn H fun f0 x1 a=>lp x1 (fun b=>Jn l0 fun c l=>Own c n (F)∧l= [(1,Q E),(3,I b.1),(4,I b.2)]) (fun t=>match t with | .inl x_=>(fun d2 ex e w=>ex= .ret∧(Jn l0 fun c l=>∃G_,Own c G_ (F)∧l= [(2,B d2.2)]∧Rel c d2.1 G_) e w) x_ | .inr x_=>(fun m7 ex e w=>ex= .exit 0∧(Jn l0 fun c l=>Own c n (F)∧l= [(1,Q E)]) e w) x_) ?_ ?_ ?_))))))))))
 ·clear a x1;intro b k7 z0 h1 H;revert z0 h1;rintro e_ w_ ⟨y0,g9,_,rfl,h7,rfl,u0,rfl⟩;refine W.seq (sr (va (I b.2) (va (Qo E (0+2)) (vx (l1 kM ((mm X) 2 _ rfl)) (vx (ln 3 kM M.m) (va (B (decide (b.2 < (f.Lines.length:Int)))) (wln (cn H (fun w6 H=>?_) (fun w6 H=>?_)))))))))
  ·refine W.skip (nrm (W.seq (W.block (sr (va (I b.1) (va (Qo E (0+2)) (vx (l1 kM ((mm X) 2 _ rfl)) (va (I b.2) (bn H fun P y1 H=>?_)))))))));obtain ⟨s8,x6,i7⟩:=Sl.at (M.mono (l9.trans (g7.trans h7))) (aL y1);obtain ⟨v48,rfl,y6⟩:=x6;refine vx (ix kM M.m y1) (va (Qo (sb (.slice a3 a4 a5)) (so (.slice a3 a4 a5)+b.2.toNat * 2)) (vx (l1 bO (i7 0 _ rfl)) (vx (ln 3 bO y6) (vv (I (w64 (b.1+(P.Cells.length:Int)))) (wln (sr (va (I (w64 (b.1+(P.Cells.length:Int)))) (va (B (decide ((w64 (b.1+(P.Cells.length:Int))) > 2000))) (wln (cn H (fun z6 H=>?_) (fun z6 H=>?_)))))))))))
   ·refine sr (va (B true) (wln (W.ret (bkr (thr ?_)))));obtain rfl:=si H;exact ⟨_,rfl,⟨rfl,jn y0 ⟨n,u0,rfl,k0.m⟩⟩⟩
   refine W.skip (bkn (nrm (W.region (va (I b.2) (vv (I (w64 (b.2+1))) (WL.nil ?_))))));obtain rfl:=si H;exact ⟨_,rfl,jn y0 ⟨u0,rfl⟩⟩
  refine W.exit (thx ?_);obtain rfl:=si H;exact ⟨_,rfl,rfl,jn y0 ⟨u0,rfl⟩⟩
 ·exact jn l0 ⟨q1,rfl⟩
 rcases f0 with f0 | f0
 ·intro s6; revert s6;rintro _ e_ w_ ⟨rfl,m6,h9,_,rfl,n9,rfl,a6,e6,rfl,k6⟩;refine bkr (thr ?_);obtain rfl:=si a;exact r1 (qq m6 ⟨a6,e6,k6,rfl⟩)
 rintro _ e_ w_ ⟨rfl,e9,i9,_,rfl,o9,rfl,f6,rfl⟩;refine bke (nrm (sr (vx (lN 45 (mm X)) (bn a fun g a7 a=>cl (iW f6 f M.m a7) ?_))));rintro h n6 p9 ⟨_,o0,g6,rfl,o⟩;refine va (h) (wln (W.seq (W.seq (bn a fun a8 z1 a=>bn a fun s3 c1 a=>W.join (Jn n6 fun c l=>Own c n (es false (RI .i32) h 21 o0 g :: F)∧l= [(1,Q E),(5,h),(55,B s3)]) ?_ ?_))))
 ·clear a;refine rD [] (Kp G0 []) g6 ?_;intro o6 f1 s1;have r9:Kp G0 [] o6:=Kp.nil0;refine ta 0 (h) (tx 1 (fun S q=>lnO 3 bQ o.m) (ta 2 (B (decide ((g.length:Int) > 40000))) ?_));rcases bo (decide ((g.length:Int) > 40000)) with U | U
  ·obtain rfl:=orT U z1;refine AC.takeb 3 U rfl (by kernel_rfl) (by kernel_rfl) (fun S q=>(by kernel_rfl)) (tp 4 (tp 6 (tp 5 (tp 7 (tp 8 (tp 9 (ta 10 (B true) ?_)))))));have b2:true=true:=rfl;obtain rfl:=orT b2 c1;refine AC.takeb 11 b2 rfl (by kernel_rfl) (by kernel_rfl) (fun S q=>(by kernel_rfl)) (tp 12 (tp 14 (tp 13 (tp 15 (tp 16 (ta 17 (B true) (dn (nrm ?_))))))));obtain ⟨p6,b7,q9,h6,j9⟩:=s1.frz 0 rfl (o.mono f1);exact ⟨p6,_,_,b7.symm,pt,us,h6,rfl⟩
  have x:=orF U z1;refine bn x fun v5 c7 x=>bn x fun w5 d7 x=>bn x fun i0 e7 x=>AC.takeb 3 U rfl (by kernel_rfl) (by kernel_rfl) (fun S q=>(by kernel_rfl)) (tx 4 (fun S q=>lN 45 (mm X)) (tx 6 (fun S q=>lN 45 (mm X)) (o1 5 (gc 5 (gR s1 f M.m c7) ?_))));rintro u9 q6 c2 ⟨_,s9,i6,rfl,f7⟩;have j7:Kp G0 [] q6:=Kp.nil0;refine ⟨.inr j7,o1 7 (gc 7 (fg i6 f M.m d7) ?_)⟩;rintro v9 h3 d0 ⟨_,t9,e2,rfl,t3⟩;have k5:Kp G0 [] h3:=Kp.nil0;refine ⟨.inr k5,?_⟩;obtain ⟨i3,v3,N,f2,u3⟩:=e2.frz 1 rfl (f7.mono d0);have l5:Kp G0 [] i3:=Kp.nil0;refine AC.gh v3 N (fun _=>l5) ?_;obtain ⟨j3,x3,e0,g2,w3⟩:=f2.frz 0 rfl (t3.mono N);have m5:Kp G0 [] j3:=Kp.nil0;refine AC.gh x3 e0 (fun _=>m5) (o1 8 (gc 8 (iX g2 v5 w5 u3.m w3 e7) ?_));rintro w8 k3 d1 ⟨q0,rfl⟩;have n5:Kp G0 [] k3:=Kp.nil0;refine ⟨.inr n5,ta 9 (B (!i0)) ?_⟩;obtain rfl:=si x;refine ta 10 (B (!i0)) ?_;rcases bo (!i0) with z | z
  ·obtain rfl:=orT z c1;refine AC.takeb 11 z rfl (by kernel_rfl) (by kernel_rfl) (fun S q=>(by kernel_rfl)) (tp 12 (tp 14 (tp 13 (tp 15 (tp 16 (ta 17 (B true) (dn (nrm ?_))))))));obtain ⟨l3,y3,g8,i2,f8⟩:=q0.frz 2 rfl (o.mono (f1.trans (c2.trans (d0.trans (N.trans (e0.trans d1))))));have j2:=i2.sD 3 [2];exact ⟨l3,_,_,y3.symm,pt,us,j2,rfl⟩
  have s:=orF z c1;refine bn s fun x5 z3 s=>bn s fun j1 b4 s=>AC.takeb 11 z rfl (by kernel_rfl) (by kernel_rfl) (fun S q=>(by kernel_rfl)) (tx 12 (fun S q=>lN 45 (mm X)) (ta 14 (h) (o1 13 (gc 13 (fK q0 f M.m z3) ?_))));rintro x8 m3 c5 ⟨_,t8,k2,rfl,c4⟩;have o5:Kp G0 [] m3:=Kp.nil0;refine ⟨.inr o5,?_⟩;obtain ⟨n3,e4,e1,l2,d4⟩:=k2.frz 0 rfl c4;have p5:Kp G0 [] n3:=Kp.nil0;refine AC.gh e4 e1 (fun _=>p5) ?_;obtain ⟨o3,g4,d5,m2,f4⟩:=l2.frz 3 rfl (o.mono (f1.trans (c2.trans (d0.trans (N.trans (e0.trans (d1.trans (c5.trans e1))))))));have q5:Kp G0 [] o3:=Kp.nil0;refine AC.gh g4 d5 (fun _=>q5) (o1 15 (gc 15 (fF m2 x5 g d4.m f4 b4) ?_));rintro y8 v0 h8 ⟨n2,rfl⟩;have r5:Kp G0 [] v0:=Kp.nil0;refine ⟨.inr r5,ta 16 (B (!j1)) ?_⟩;obtain rfl:=si s;refine ta 17 (B (!j1)) (dn (nrm ?_));have o2:=n2.sD 4 [3];exact jn v0 ⟨o2,rfl⟩
 rintro e_ w_ ⟨y,b8,_,rfl,e5,rfl,s0,rfl⟩;refine nrm (cn a (fun h4 a=>?_) (fun h4 a=>?_))
 ·refine sr (va (h) (vx (lnO 3 bQ o.m) (vv (B (decide ((g.length:Int) > 40000))) (wln (W.ret (thr ?_))))));obtain rfl:=si a;have p2:=s0.sD 1 [];exact r1 (qq y ⟨n,p2,k0.m,rfl⟩)
 refine W.skip (nrm (sr (va (Y) (wln (W.seq (sr (va (I 0) (wln (W.block (bn a fun j5 a1 p=>lp a1 (fun d=>Jn y fun c l=>∃i A,Own c n (es true (RI .u8) i 5 A d.1 :: es false (RI .i32) h 21 o0 g :: F)∧l= [(1,Q E),(5,h),(6,i),(7,I d.2)]∧OA (RI .u8) c i A d.1) (fun m0 ex e w=>ex= .exit 2∧(Jn y fun c l=>∃D g0,Own c n (es true (RI .u8) D 5 g0 m0 :: es false (RI .i32) h 21 o0 g :: F)∧l= [(1,Q E),(6,D)]∧OA (RI .u8) c D g0 m0) e w) ?_ ?_ ?_))))))))))
 ·clear p a1;intro d k7 z0 h1 a;revert z0 h1;rintro e_ w_ ⟨w0,c8,_,rfl,f5,rfl,i,A,Z,rfl,b1⟩;refine W.seq (sr (va (I d.2) (va (h) (vx (lnO 3 bQ o.m) (va (B (decide (d.2 < (g.length:Int)))) (wln (cn a (fun i4 a=>?_) (fun i4 a=>?_))))))))
  ·refine W.skip (nrm (W.seq (W.block (sr (va (h) (va (I d.2) (bn a fun R b0 a=>vx (ixO bQ o.m b0) ?_)))))));obtain ⟨l7,j4,i5⟩:=OA.at (o.mono (e5.trans f5)) b0;obtain rfl:=j4;refine vr (J R) (rx (by kernel_rfl) (kg gK rfl (Z.on 1 rfl) (o.m.blk b0) (at1 (j:=0) i5 rfl))) (va (J R) (wln (bn a fun j0 k u=>W.seqJ (Jn w0 fun c l=>Own c n (es true (RI .u8) i 5 A d.1 :: es false (RI .i32) h 21 o0 g :: F)∧l= [(1,Q E),(5,h),(6,i),(7,I d.2),(8,J j0)]) ?_ ?_)))
   ·refine sr (va (J R) (bn k fun y5 k4 k=>cl (fh Z R k4) ?_));rintro z8 x0 i8 ⟨t0,rfl⟩;refine va (B (!y5)) (wln (cn k (fun l4 k=>?_) (fun l4 k=>?_)))
    ·refine W.region (va (J 65533) (wln ?_));obtain rfl:=si k;exact jn x0 ⟨t0,rfl⟩
    refine W.skip (nrm ?_);obtain rfl:=si k;exact jn x0 ⟨t0,rfl⟩
   rintro e_ w_ ⟨s7,d8,_,rfl,j8,rfl,q2,rfl⟩;refine W.region (va (i) (va (J j0) (bn u fun n7 m4 u=>cl (iZ q2 j0 m4) ?_)));rintro a9 t7 k8 ⟨_,u8,s2,rfl,n4⟩;obtain ⟨u7,p4,l8,t2,o4⟩:=s2.frz 0 rfl n4;refine WL.gh p4 (bn u fun o7 q4 u=>me (ap (RI .u8) (.int .u8 0) 1 33 1 t2 b1.m o4 q4 kL) ?_);rintro g1 p3 n8 ⟨s5,u2,r4⟩;refine va (g1) (WL.nil (bkn (nrm (W.region (va (I d.2) (vv (I (w64 (d.2+1))) (WL.nil ?_)))))));obtain rfl:=si u;refine ⟨_,rfl,?_⟩;have v2:=u2.sD 3 [1,2];exact jn p3 ⟨g1,s5,v2,rfl,r4⟩
  refine W.exit (thx ?_);obtain rfl:=si a;exact ⟨_,rfl,rfl,jn w0 ⟨i,A,Z,rfl,b1⟩⟩
 ·have s4:OA (RI .u8) y (Y) [] []:=OA.nil (ak _);have w2:=s0.addHole (e:=es true (RI .u8) (Y) 5 [] ([]:List Int)) rfl;exact jn y ⟨(Y),[],w2,rfl,s4⟩
 rintro _ e_ w_ ⟨rfl,v7,e8,_,rfl,o8,rfl,D,g0,x2,rfl,t4⟩;refine bke (nrm (sr (vx (lN 45 (mm X)) (bn p fun k1 u4 p=>cl (gS x2 (hG.m.le (by decide)) f M.m u4) ?_))));rintro b9 w7 g5 ⟨_,v8,y2,rfl,v4⟩;refine va (D) ?_;obtain ⟨x7,x4,h5,z2,w4⟩:=y2.frz 0 rfl v4;refine WL.gh x4 ?_;obtain ⟨y7,z4,p8,b3,y4⟩:=z2.frz 1 rfl (t4.mono (g5.trans h5));refine WL.gh z4 (bn p fun m1 b5 p=>cl (iI b3 k1 j5 w4.m y4 b5) ?_);rintro d9 q3 q8 ⟨c3,rfl⟩;refine va (B m1) (wln (W.ret ?_));obtain rfl:=si p;have d3:=c3.sD 3 [];exact r1 (qq q3 ⟨n,d3,k0.m,rfl⟩)
end Go.Proofs.YtclmdpamofdoiaaGreatDoor
namespace Go.Lt
open Go.ChangeShapes Go.WideShapes Go.RowKit
def C0 (w:World):Cx:=⟨w,fun _ _=>False,fun _ _=>none⟩
theorem rq (w:World):Own (C0 w) (fun _ _=>[]) []:=
 ⟨⟨fun i e h=>by cases i <;> simp [at_] at h,fun i j e e' h=>by cases i <;> simp [at_] at h⟩,fun _ _ _=>rfl⟩
theorem im0 {w:World} {b o:Nat} {v:Value} (h:w.cell? ⟨b,o,none⟩=some v):Im (C0 w) b o v:=by
 refine ⟨?_,id,h⟩;unfold World.cell? at h;split at h
 ·rename_i hh; exact (Array.getElem?_eq_some_iff.1 hh).1
 ·cases h
def Rd (P:Program) (t:TypeId) {α:Type} (R:Rp α) (K:α→Prop):Prop:=
 P.cellsOf t=R.size∧∀{H:Type} {enc:TypeId×Value→H} {w:World} {sp:Nat→Bool} {held:Bool} {fuel:Nat} {cs:List Value} {x:DataW H×List MemPlace},
  DataW.trod enc P w 0 sp held fuel t cs=some x→∃y,R.cells (C0 w) cs y∧K y
theorem Rd.int {P:Program} {t:TypeId} {k:IntKind} (ht:P.underlying t=some (.int k)) (hc:P.cellsOf t=1):Rd P t (RI k) (fun n=>(Lit.int k n).wf=true):=
 ⟨hc,fun h=>by obtain ⟨n,rfl,_,hw⟩:=DataW.trod_int ht h; exact ⟨n,rfl,hw⟩⟩
theorem Rd.bool {P:Program} {t:TypeId} (ht:P.underlying t=some .bool) (hc:P.cellsOf t=1):Rd P t RB (fun _=>True):=
 ⟨hc,fun h=>by obtain ⟨n,rfl,_⟩:=DataW.trod_bool ht h; exact ⟨n,rfl,trivial⟩⟩
theorem qG {α:Type} {Q:Nat→α→Prop}:∀n,(∀i,i < n→∃x,Q i x)→∃xs:List α,xs.length=n∧∀i x,xs[i]? = some x→Q i x
 | 0,_=>⟨[],rfl,fun i x h=>by simp at h⟩
 | n+1,h=>by
  obtain ⟨xs,hl,hx⟩:=qG n fun i hi=>h i (Nat.lt_succ_of_lt hi);obtain ⟨y,hy⟩:=h n (Nat.lt_succ_self n);refine ⟨xs++ [y],by simp [hl],fun i x hi=>?_⟩;rw [qW] at hi;split at hi
  ·exact hx i x hi
  ·rename_i hn
   have h1:=(List.getElem?_eq_some_iff.1 hi).1;simp only [aM,bw] at h1;obtain rfl:i=n:=by omega
   rw [hl,em] at hi;cases hi;exact hy
theorem mZ {w:World} {a:Addr} {n:Nat} {cs:List Value} (h:w.cells? 0 a n=some cs):cs.length=n∧∀j u,cs[j]? = some u→w.cell? (a.add j)=some u:=by
 unfold World.cells? at h;rw [an (eg _)] at h;have hl:cs.length=n:=by simpa using mapM_some_length h
 refine ⟨hl,fun j u hu=>?_⟩;have hjn:j < n:=by have:=(List.getElem?_eq_some_iff.1 hu).1; omega
 have hj:=mapM_some_get h j j (lW hjn);rw [hu] at hj;exact hj
theorem Rd.field {P:Program} {H:Type} {enc:TypeId×Value→H} {w:World} {sp:Nat→Bool} {held:Bool} {n:Nat} {cs:List Value} {fs:Array Field} {xs:List (DataW H×List MemPlace)}
  (hf:∀(i:Nat) (f:Field),fs[i]? = some f→DataW.trod enc P w 0 sp held n f.type ((cs.drop f.offset).take (P.cellsOf f.type))=xs[i]?) (hx:xs.length=fs.size)
  (i:Nat) {f:Field} (hi:fs[i]? = some f) {α:Type} {R:Rp α} {K:α→Prop} (h:Rd P f.type R K):∃y,R.cells (C0 w) ((cs.drop f.offset).take R.size) y∧K y:=by
 have hlt:=(Array.getElem?_eq_some_iff.1 hi).1;have:=hf i f hi;rw [af (show i < xs.length by omega),h.1] at this;exact h.2 this
section
variable {P:Program} {H:Type} {enc:TypeId×Value→H} {w:World} {sp:Nat→Bool} {held:Bool} {t:TypeId} {v:Value} {d:DataW H} {p:List MemPlace}
end
theorem jM {H:Type} {enc:TypeId×Value→H} {P:Program} (hl:laidOutB P=true) {w w':World} (h:∀k,k < w.heap.size→w'.heap[k]? = w.heap[k]?) {sp:Nat→Bool}:
  ∀{ts:List TypeId} {vs:List Value} {ds:List (DataW H)} {ps:List MemPlace},(ts.all fun t=>P.readableRec t && decide (t < P.types.size))=true→(∀x∈ps,x.block < w.heap.size)→(∀x∈ps,sp x.block=true)→
  DataW.TrodAll enc P w 0 (fun _=>true) true ts vs ds ps→DataW.TrodAll enc P w' 0 sp true ts vs ds ps
 | [],[],[],_,_,_,_,hA=>hA
 | [],_ :: _,_,_,_,_,_,hA=>hA.elim
 | [],[],_ :: _,_,_,_,_,hA=>hA.elim
 | _ :: _,[],_,_,_,_,_,hA=>hA.elim
 | _ :: _,_ :: _,[],_,_,_,_,hA=>hA.elim
 | t :: ts,v :: vs,d :: ds,ps,hr,hlt,hsp,hA=>by
  obtain ⟨p,q,h1,h2,rfl⟩:=hA;simp only [List.all_cons,bi,ao] at hr;refine ⟨p,q,WideElems.Trod_stays hl hr.1.1 hr.1.2 h1 (fun x hx=>?_) (fun x hx=>hsp x (gY _ hx)),jM hl h hr.2 (fun x hx=>hlt x (kU _ hx)) (fun x hx=>hsp x (kU _ hx)) h2,rfl⟩;have hb:=hlt x (gY _ hx)
  cases x with
  | cell b o=>exact lI (w:=w) (h b hb)
  | map b=>exact h b hb
theorem oh {H:Type} {enc:TypeId×Value→H} {P:Program} {f:Func} {s:ChangeSpec} {apart fresh handsOn again:Bool} {w w':World} {args:Array Value} {v:Value} {ds gs:List (DataW H)} {ps before:List MemPlace}
  (hW:DataW.Whole enc P f.params.toList s.vars apart w args.toList ds gs before) (he:before=ps++ [])
  (hr:∀(b:Nat) (sp:Nat→Bool) (hd:Bool),DataW.TrodAll enc P w' b sp hd f.resultTypes.toList (v.resultList f.resultTypes.size) (s.fn H (ds++gs)).results [])
  (ha:∀sp:Nat→Bool,(∀x∈ps,sp x.block=true)→DataW.TrodAll enc P w' 0 sp true f.params.toList args.toList (s.fn H (ds++gs)).args ps)
  (hv:∀sp:Nat→Bool,DataW.TrodVars enc P w' sp s.vars (s.fn H (ds++gs)).vars [])
  (hg:Gr w w') (ho:∀(j:Nat) (t:TypeId) (r:Value),f.resultTypes[j]? = some t→(v.resultList f.resultTypes.size)[j]? = some r→Value.okWide P w' .any 0 t r):s.post enc P f apart fresh handsOn again w args v w':=by
 rw [cS] at he;subst he;have hlt:∀x∈before,x.block < w.heap.size:=fun x hx=>hW.lt x hx;refine ⟨ds,gs,before,[],before,[],hW,hr _ _ _,ha _ (fun x hx=>pj (hlt x hx)),hv _,rA (fun x hx=>⟨hx,.inr (.inl hx)⟩) (hg.frame (· ∈before)),fun _=>?_⟩;obtain ⟨_,_,_,_,_,hz,hn⟩:=hW;refine ⟨ho,_,_,([]++before)++ [],⟨[]++before,[],trodAll_append (ha _ fun _ _=>rfl) (hr _ _ _),hv _,rfl,fun b off hb=>?_,fun e=>?_⟩,fun x hx _=>by simpa using hx⟩
 ·have hb':MemPlace.cell b off∈before:=by simpa using hb
  have:=hlt _ hb';rw [hg.2.1 ⟨b,off,none⟩ this];exact hz b off (by simpa using hb')
 ·simpa using hn e
theorem qM {P:Program} {laid:List (String×DataW Unit)} {w:World} (h:(laid.filter fun x=>x.2.handleName?.isSome)= []):laidMetH P laid w=laidMet P laid w:=by
 unfold laidMetH;rw [h]
theorem mc {P:Program} {W:World} {ti tp te ts:TypeId} {ms:Array (String×TypeId)} {f:Field} (hi:P.underlying ti=some (.interface ms)) (hrow:∀u,P.typeName? 3 u=some "*errors.errorString"→u=tp)
  (hp:P.underlying tp=some (.pointer te)) (he:P.underlying te=some (.struct #[f])) (hft:f.type=ts) (hfo:f.offset=0) (hs:P.underlying ts=some .string) (hc:P.cellsOf te=1) (hcs:P.cellsOf ts=1):
  ∀{laid:List (String×DataW Unit)} {ps:List MemPlace},DataW.LaidVars P W laid ps→(∀b off,MemPlace.cell b off∈ps→(∃c t,W.heap[b]? = some (.cells c t (0,0)))∧∀u v,W.cell? ⟨b,off,none⟩=some (.iface u v)→Value.okWide P W .any 0 u v)→
  ∀n text g,(n,DataW.iface "*errors.errorString" (.ptr (.agg [.lit (.string text)])))∈laid→P.globalNamed n=some g→(P.globals[g]?).map (·.type)=some ti→∃a s,W.cell? ⟨g,0,none⟩=some (.iface tp (.pointer (some a)))∧W.cell? a=some (.string s)∧s.data.toList=text∧∃c t,W.heap[a.block]? = some (.cells c t (0,0))
 | [],_,_,_,_,_,_,hm,_,_=>by cases hm
 | (n',d) :: r,ps,⟨g',t,cs,fuel,p,q,hg',ht',hv,hd,hr,e⟩,hrows,n,text,g,hm,hg,ht=>by
  subst e;rcases List.mem_cons.1 hm with hh | hm
  ·cases hh;obtain rfl:=ai (hg.symm.trans hg');obtain rfl:=ai (ht.symm.trans ht');obtain ⟨l⟩:=cs;have ok:∀u v,l= [.iface u v]→Value.okWide P W .any 0 u v:=fun u v e=>by
    subst e;exact (hrows g 0 (by simp [MemPlace.row])).2 u v (by simpa using sa hg hv 0)
   obtain ⟨a,s,rfl,h1,h2,_,rfl⟩:=errorString_of_trod hi hrow hp he hft hfo hs hc hcs hd ok;exact ⟨a,s,by simpa using sa hg hv 0,h1,h2,(hrows a.block a.off (by simp [MemPlace.row])).1⟩
  ·exact mc hi hrow hp he hft hfo hs hc hcs hr (fun b off hb=>hrows b off (kU _ hb)) n text g hm hg ht
theorem qn {P:Program} {f:FuncId} {fn:Func} {s:ChangeSpec} {c:OpenClaim} (l1:laidOutB P=true) (l2:mapsRowed P=true) (l3:(P.stops== [])=true) (l4:(P.stopKnobs== [])=true) (l5:P.stopsHeard=true) (l6:P.mayEnter=true)
  (l7:(c.lifted==P.liftsFinal)=true) (l8:(P.make==some c.make)=true) (l9:(c.plainKeys==P.plainKeys)=true)
  (a0:c.wf (OpenSpec.ofChange s)=true) (a1:(fn.params.all (P.readableRec ·) && namedTie P c.named s.vars && (c.stops== []) && (c.knobs== []))=true)
  (a2:(c.inPlace==P.inPlace f)=true) (a3:(c.unfollowed==P.unfollowed f)=true) (a4:(c.recurses==P.recurses f)=true) (a5:(c.named==P.varsNamed f)=true)
  (a6:((c.maps==(fn.params.toList++s.plain.varTypes P).any (P.mapsRec ·)) && (c.ifaces==(fn.params.toList++s.plain.varTypes P).any (P.ifacesRec ·)) && (c.mapsOut==P.mapsAmong fn.resultTypes.toList) &&
   (c.loops==(fn.params.toList++s.plain.varTypes P).any (P.loopsFrom ·)) && (c.wideKeys==(fn.params.toList++s.plain.varTypes P++fn.resultTypes.toList).any (P.wideKeysFrom ·)) &&
   s.vars.all (P.varReadable ·) && fn.resultTypes.all (fun t=>P.readableRec t && decide (t < P.types.size)) && (c.ifacesOut==fn.resultTypes.toList.any (P.ifacesRec ·)) && (c.loopsOut==fn.resultTypes.toList.any (P.loopsFrom ·)))=true)
  (a7:(c.shortTexts.isNone && (c.kinds==(if c.domain.isEmpty then [] else fn.params.toList.map fun t=>match P.underlying t with | some (.int k)=>some k | _=>none)) && (c.pinned==c.pinnedBy) &&
   (c.veiled==(fn.params.toList++s.plain.varTypes P++fn.resultTypes.toList).any (P.veiledRec ·)) && c.veiledFits P fn.params.toList (fn.params.toList++s.plain.varTypes P++fn.resultTypes.toList))=true):joinedFacts P f fn s c=true:=by
 simp only [bi] at a1 a6 a7;obtain ⟨⟨⟨b1,b2⟩,b3⟩,b4⟩:=a1;obtain ⟨⟨⟨⟨⟨⟨⟨⟨c1,c2⟩,c3⟩,c4⟩,c5⟩,c6⟩,c7⟩,c8⟩,c9⟩:=a6;obtain ⟨⟨⟨⟨d1,d2⟩,d3⟩,d4⟩,d5⟩:=a7;unfold joinedFacts;simp only [bi];exact ⟨⟨⟨⟨⟨⟨⟨⟨⟨⟨⟨⟨⟨⟨⟨⟨⟨⟨⟨⟨⟨⟨⟨⟨⟨⟨⟨⟨⟨⟨⟨a0,l1⟩,l2⟩,b1⟩,b2⟩,b3⟩,l3⟩,b4⟩,l4⟩,a2⟩,a3⟩,a4⟩,a5⟩,c1⟩,c2⟩,c3⟩,c4⟩,c5⟩,c6⟩,c7⟩,c8⟩,c9⟩,l9⟩,d1⟩,l5⟩,l6⟩,l7⟩,l8⟩,d2⟩,d3⟩,d4⟩,d5⟩
end Go.Lt
namespace Go.Proofs.YtclmdpamofdoiaaGreatDoor
open Go Go.Lt
set_option linter.unusedVariables false
theorem rr {α:Type} {cs:List α} (h:cs.length=7):∃a0 a1 a2 a3 a4 a5 a6,cs= [a0,a1,a2,a3,a4,a5,a6]:=by
 match cs,h with
 | [a0,a1,a2,a3,a4,a5,a6],_=>exact ⟨_,_,_,_,_,_,_,rfl⟩
theorem rt {α:Type} {cs:List α} (h:cs.length=3):∃a0 a1 a2,cs= [a0,a1,a2]:=by
 match cs,h with
 | [a0,a1,a2],_=>exact ⟨_,_,_,rfl⟩
theorem qN {α:Type} {cs:List α} (h:cs.length=2):∃a0 a1,cs= [a0,a1]:=by
 match cs,h with
 | [a0,a1],_=>exact ⟨_,_,rfl⟩
def K_3 (n:Int):Prop:=(Lit.int .i64 n).wf=true
theorem D_3:Rd Tryz.prog 3 (RI .i64) K_3:=Rd.int Tryz.underlying3 (by kernel_rfl)
def qx (n:Int):Prop:=(Lit.int .i32 n).wf=true
theorem rI:Rd Tryz.prog 21 (RI .i32) qx:=Rd.int Tryz.underlying21 (by kernel_rfl)
def rE (xs:List Int):Prop:=xs.length≤maxLen∧∀x∈xs,qx x
def py (x:aa):Prop:=K_3 x.Kind∧rE x.Text
def rB (xs:List aa):Prop:=xs.length≤maxLen∧∀x∈xs,py x
def K_4 (_:Bool):Prop:=True
theorem D_4:Rd Tryz.prog 4 RB K_4:=Rd.bool Tryz.underlying4 (by kernel_rfl)
def qw (x:aP):Prop:=rB x.Cells∧K_4 x.Wrap
def rF (xs:List aP):Prop:=xs.length≤maxLen∧∀x∈xs,qw x
def qX (x:ah):Prop:=K_3 x.Row∧K_3 x.Col∧K_4 x.Pending
theorem rH:Rd Tryz.prog 29 mH qX:=by
 refine ⟨by kernel_rfl,fun {H enc w sp held fuel cs x} h=>?_⟩;obtain ⟨xs,n,rfl,rfl,hl,hn,hf⟩:=jx Tryz.underlying29 h;replace hl:=hl.trans (show Tryz.prog.cellsOf 29=3 by kernel_rfl);obtain ⟨a0,a1,a2,rfl⟩:=rt hl;obtain ⟨y0,e0,k0⟩:=Rd.field hf hn 0 rfl D_3;have e0: [a0]= [.int .i64 y0]:=e0;cases e0;obtain ⟨y1,e1,k1⟩:=Rd.field hf hn 1 rfl D_3;have e1: [a1]= [.int .i64 y1]:=e1;cases e1;obtain ⟨y2,e2,k2⟩:=Rd.field hf hn 2 rfl D_4;have e2: [a2]= [.bool y2]:=e2;cases e2;exact ⟨⟨y0,y1,y2⟩,rfl,k0,k1,k2⟩
def rC (x:aR):Prop:=K_3 x.Wide∧K_3 x.High∧rF x.Lines∧qX x.At∧K_4 x.Auto
theorem rn (w:World):Rel (C0 w) ⟨[],[],[],[],[],[]⟩ (fun _ _=>[]):=
 ⟨⟨fun k x h=>by simp at h,fun _ _=>rfl⟩,⟨fun k x h=>by simp at h,fun _ _=>rfl⟩,⟨fun k x h=>by simp at h,fun _ _=>rfl⟩,⟨fun k x h=>by simp at h,fun _ _=>rfl⟩,⟨fun k x h=>by simp at h,fun _ _=>rfl⟩,⟨fun k x h=>by simp at h,fun _ _=>rfl⟩⟩
theorem qE: "*" ++ "errors.errorString" = "*errors.errorString" :=by decide
set_option maxRecDepth 100000 in
theorem oO (u:TypeId) (h:Tryz.prog.typeName? 3 u=some "*errors.errorString"):u=350:=
 typeName_ptr_named (nm:= "errors.errorString") (by rw [qE]; kernel_rfl) (by kernel_rfl) (by decide) u (by rw [qE]; exact h)
set_option maxRecDepth 100000 in
theorem kX {W:World} {laid:List (String×DataW Unit)} (h:laidMetH Tryz.prog laid W) (hf:(laid.filter fun x=>x.2.handleName?.isSome)= []) (n:String) (text:List UInt8) (g:Nat)
  (hm:(n,DataW.iface "*errors.errorString" (.ptr (.agg [.lit (.string text)])))∈laid) (hg:Tryz.prog.globalNamed n=some g) (ht:(Tryz.prog.globals[g]?).map (·.type)=some 66):
  ∃a s,Im (C0 W) g 0 (.iface 350 (.pointer (some a)))∧W.cell? a=some (.string s)∧s.data.toList=text∧RE 350 144 (C0 W) (.iface 350 (.pointer (some a))) (.sent g):=by
 rw [qM hf] at h;obtain ⟨ps,hl,_,hr⟩:=h;obtain ⟨a,s,h1,h2,h3,cs,t,h4⟩:=mc Tryz.underlying66 oO Tryz.underlying350 Tryz.underlying371 rfl rfl Tryz.underlying9 (by kernel_rfl) (by kernel_rfl) hl hr n text g hm hg ht;exact ⟨a,s,im0 h1,h2,h3,a,rfl,im0 h1,(Array.getElem?_eq_some_iff.1 h4).1,fun _=>id,cs,t,h4⟩
theorem qo {W:World} {n:List Nat} (tx:Nat→List UInt8) (h:∀g,g∈n→∃a s,Im (C0 W) g 0 (.iface 350 (.pointer (some a)))∧W.cell? a=some (.string s)∧s.data.toList=tx g∧RE 350 144 (C0 W) (.iface 350 (.pointer (some a))) (.sent g))
  (hd:∀g,g∈n→∀g',g'∈n→tx g=tx g'→g=g'):Gl n (C0 W):=by
 refine ⟨fun g hg=>?_,fun g g' hg hg' hne a h1 h2=>?_⟩
 ·obtain ⟨a,_,_,_,_,h4⟩:=h g hg;exact ⟨_,h4⟩
 ·obtain ⟨a1,s1,e1,e2,e3,_⟩:=h g hg;obtain ⟨a2,s2,f1,f2,f3,_⟩:=h g' hg';have q1:=e1.cell.symm.trans h1.cell;have q2:=f1.cell.symm.trans h2.cell;cases q1;cases q2;have q3:=e2.symm.trans f2;cases q3;exact hne (hd g hg g' hg' (e3.symm.trans f3))
end Go.Proofs.YtclmdpamofdoiaaGreatDoor
namespace Go.Proofs.YtclmdpamofdoiaaGreatDoor
open Go Go.Lt
def txt (c:aa):List Int:=if c.Kind=0 then [32] else if c.Kind=1∨c.Kind=2 then c.Text else []
def flat (l:List aa):List Int:=l.flatMap txt
def iJ (l:List aa):Nat:=(l.map fun c=>c.Text.length+1).sum
theorem qg (c:aa):(txt c).length≤c.Text.length+1:=by
 unfold txt;split
 ·simp
 ·split
  ·omega
  ·simp
theorem mr (l:List aa):(flat l).length≤iJ l:=by
 unfold flat iJ
 induction l with
 | nil=>simp
 | cons c l ih=>
  rw [rS,ab,dg,eD];have:=qg c;omega
theorem jf {l:List aa} {i:Nat} (h:i < l.length):flat (l.take (i+1))=flat (l.take i)++txt l[i]:=by
 unfold flat;rw [bD h,rg];simp
theorem gU (l:List aa) (i:Nat):iJ (l.take i)≤iJ l:=by
 unfold iJ
 conv=>rhs; rw [←eH i l]
 rw [et,fH];omega
theorem nR (l:List aa) (hb:iJ l≤1000000000):cU l=some (flat l):=by
 have hl:l.length≤iJ l:=by
  unfold iJ
  induction l with
  | nil=>simp
  | cons c l ih=>
   simp only [dg,eD,aM];have:iJ l≤1000000000:=by
    unfold iJ at hb⊢;simp only [dg,eD] at hb;omega
   have:=ih this;omega
 unfold cU;refine fk (n:=l.length) (fun i (a:List Int×Int)=>a=(flat (l.take i),(i:Int))) (fun u=>u=flat l) (fun i a hi e=>?_) (fun a e=>?_) rfl (by omega) (fun u e=>by rw [e])
 ·left
  subst e;simp only;rw [an (dlt hi),dx hi,bsm,dB hi (by omega)];have h1:=mr (l.take (i+1));have h2:=gU l (i+1);rw [jf hi] at h1;rw [ab] at h1;refine ⟨_,?_,rfl⟩;rw [jf hi];have ht:txt l[i]=if l[i].Kind=0 then [32] else if l[i].Kind=1∨l[i].Kind=2 then l[i].Text else []:=rfl;by_cases k0:l[i].Kind=0
  ·rw [an k0] at ht;rw [ht] at h1⊢;rw [an (by rw [k0]; rfl),fq (by simp only [aM,bw] at h1⊢; omega)];rfl
  ·rw [av k0] at ht;rw [av (by rw [dM]; exact k0)];by_cases k1:l[i].Kind=1∨l[i].Kind=2
   ·rw [an k1] at ht;rw [ht] at h1⊢;have:(if (l[i].Kind==1)=true then some (l[i].Kind==1) else some (l[i].Kind==2))=some true:=by
     rcases k1 with h | h <;> rw [h] <;> rfl
    rw [this,bsm,an rfl,fq (by omega)];rfl
   ·rw [av k1] at ht;rw [ht];have:(if (l[i].Kind==1)=true then some (l[i].Kind==1) else some (l[i].Kind==2))=some false:=by
     have a:¬l[i].Kind=1:=fun h=>k1 (.inl h);have b:¬l[i].Kind=2:=fun h=>k1 (.inr h);rw [av (by rw [dM]; exact a),beq_eq_false_iff_ne.2 b]
    rw [this,bsm,av (by simp),bsm,cS]
 ·subst e;exact ⟨_,by simp only; rw [av (by simp)],by rw [kb]⟩
end Go.Proofs.YtclmdpamofdoiaaGreatDoor
namespace Go.Proofs.YtclmdpamofdoiaaGreatDoor
open Go Go.Lt
def eK (d:Bool) (l:List aa):Nat→Nat
  | 0=>0
  | n+1=>match l[n]? with
    | some c=>if c.Kind≠0∨(d=true∧n+1 < l.length) then n+1 else eK d l n
    | none=>eK d l n
variable {d:Bool} {l:List aa} {i n:Nat}
theorem hC (hi:i < l.length):eK d l (i+1)=if l[i].Kind≠0∨(d=true∧i+1 < l.length) then i+1 else eK d l i:=by
  show (match l[i]? with | some c=>if c.Kind≠0∨(d=true∧i+1 < l.length) then i+1 else eK d l i | none=>eK d l i)=_;rw [af hi]
theorem lc:∀n,eK d l n≤n
  | 0=>aj 0
  | n+1=>by
    have:=lc n;show (match l[n]? with | some c=>if c.Kind≠0∨(d=true∧n+1 < l.length) then n+1 else eK d l n | none=>eK d l n)≤_;split
    · split
      · exact aj _
      · exact ge this
    · exact ge this
theorem pe (h:n < l.length):eK true l n=n:=by
  cases n with
  | zero=>rfl
  | succ i=>rw [hC (by omega),an (.inr ⟨rfl,h⟩)]
def jj (d:Bool) (l:List aa):List aa:=l.take (eK d l l.length)
theorem kY {α:Type} {xs:List α} {k:Nat} (h:k≤xs.length):slc xs 0 (k:Int)=some (xs.take k):=by
  unfold slc;rw [an (by omega)];simp
theorem ph (hl:l.length≤1000000000):dv l=some (jj true l):=by
  unfold dv jj
  cases hn:l.length with
  | zero=>
    rw [show decide (w64 (((0:Nat):Int) - 1)≥0)=false by rw [cc (by omega)]; rfl,jH,bsm,av (by simp)];rw [cL hn];rfl
  | succ n=>
    have hi:n < l.length:=by omega
    have hw:w64 (((n+1:Nat):Int) - 1)=(n:Int):=by rw [cc (by omega)]; omega
    rw [hw,show decide ((n:Int)≥0)=true by rw [ao]; omega,kA,dx hi,bsm,bsm,hC hi,pe hi];by_cases k0:l[n].Kind=0
    · rw [an (by rw [k0]; rfl),kY (by omega),bsm,av (by rw [hn]; rintro (h | h); exact h k0; omega)]
    · rw [av (by rw [dM]; exact k0),an (.inl k0),be (by omega)]
theorem oZ (hl:l.length≤1000000000):du l=some (jj false l):=by
  unfold du jj
  suffices h:∃t,cp (σ:=Int) (τ:=Int) (((l.length:Int) - 0).toNat+1) (fun a=>
 (bY (decide (a > 0)) ((idx l (w64 (a - 1))).bind fun c=>
 some (c.Kind==0))).bind fun b=>
 if b=true then
 some (.inl ((w64 (a - 1))))
 else
 some (.inr (a))) ((l.length:Int))=some t∧t=(eK false l l.length:Int) by
    obtain ⟨t,h1,h2⟩:=h;rw [h1,bsm,h2,kY (lc _),bsm]
  refine lf (fun a=>∃k:Nat,a=(k:Int)∧k≤l.length∧eK false l k=eK false l l.length) (fun a=>a.toNat) (fun t=>t=(eK false l l.length:Int)) (fun a hI=>?_) _ _ ⟨l.length,rfl,aj _,rfl⟩ (by omega);obtain ⟨k,rfl,hk,he⟩:=hI
  cases k with
  | zero=>
    right
    rw [show decide (((0:Nat):Int) > 0)=false by simp,jH,bsm,av (by simp)];exact ⟨_,rfl,by rw [←he]; rfl⟩
  | succ n=>
    have hi:n < l.length:=by omega
    have hw:w64 (((n+1:Nat):Int) - 1)=(n:Int):=by rw [cc (by omega)]; omega
    rw [show decide (((n+1:Nat):Int) > 0)=true by rw [ao]; omega,kA,hw,dx hi,bsm,bsm];rw [hC hi] at he;by_cases k0:l[n].Kind=0
    · left
      rw [an (by rw [k0]; rfl)];rw [av (by rintro (h | h); exact h k0; simp at h)] at he;exact ⟨_,rfl,⟨n,rfl,by omega,he⟩,by omega⟩
    · right
      rw [av (by rw [dM]; exact k0)];rw [an (.inl k0)] at he;exact ⟨_,rfl,by rw [←he]⟩
end Go.Proofs.YtclmdpamofdoiaaGreatDoor
namespace Go.Proofs.YtclmdpamofdoiaaGreatDoor
open Go Go.Lt
def wr (L:List aP) (i:Nat):Bool:=match L[i]? with
 | some l=>l.Wrap && decide (i+1 < L.length)
 | none=>false
def stL (L:List aP):Nat→List (List Int)×List Int
 | 0=>([],[])
 | i+1=>match L[i]? with
  | some l=>if wr L i=true then ((stL L i).1,(stL L i).2++flat (jj true l.Cells)) else ((stL L i).1++ [(stL L i).2++flat (jj false l.Cells)],[])
  | none=>stL L i
def gV (L:List aP):Nat:=(L.map fun l=>iJ l.Cells).sum
variable {L:List aP} {i:Nat}
theorem oH (hi:i < L.length):wr L i=(L[i].Wrap && decide (i+1 < L.length)):=by
 unfold wr;rw [af hi]
theorem nq (hi:i < L.length) (h:wr L i=true):stL L (i+1)=((stL L i).1,(stL L i).2++flat (jj true L[i].Cells)):=by
 show (match L[i]? with | some l=>if wr L i=true then ((stL L i).1,(stL L i).2++flat (jj true l.Cells)) else ((stL L i).1++ [(stL L i).2++flat (jj false l.Cells)],[]) | none=>stL L i)=_;rw [af hi];simp only [h,rM]
theorem kV (hi:i < L.length) (h:wr L i=false):stL L (i+1)=((stL L i).1++ [(stL L i).2++flat (jj false L[i].Cells)],[]):=by
 show (match L[i]? with | some l=>if wr L i=true then ((stL L i).1,(stL L i).2++flat (jj true l.Cells)) else ((stL L i).1++ [(stL L i).2++flat (jj false l.Cells)],[]) | none=>stL L i)=_;rw [af hi];simp only [h,je,qO]
theorem iv (hi:i < L.length):gV (L.take (i+1))=gV (L.take i)+iJ L[i].Cells:=by
 unfold gV;rw [bD hi,et,fH];simp
theorem jG (L:List aP) (i:Nat):gV (L.take i)≤gV L:=by
 unfold gV
 conv=>rhs; rw [←eH i L]
 rw [et,fH];omega
theorem jT (l:List aa):l.length≤iJ l:=by
 unfold iJ
 induction l with
 | nil=>simp
 | cons c l ih=>
  simp only [dg,eD,aM];omega
theorem mt (d:Bool) (l:List aa):(flat (jj d l)).length≤iJ l:=cy (mr _) (gU l _)
theorem mn:∀i,i≤L.length→(stL L i).1.length≤i∧(stL L i).2.length+((stL L i).1.map List.length).sum≤gV (L.take i)
 | 0,_=>⟨aj 0,aj 0⟩
 | i+1,h=>by
  obtain ⟨h1,h2⟩:=mn i (by omega);have hi:i < L.length:=by omega
  rw [iv hi];have c1:=mt true L[i].Cells;have c2:=mt false L[i].Cells
  cases hw:wr L i with
  | true=>
   rw [nq hi hw];refine ⟨ge h1,?_⟩;simp only [ab];omega
  | false=>
   rw [kV hi hw];refine ⟨by simp only [ab,aM,bw]; omega,?_⟩;simp only [bw,et,fH,dg,qu,eD,List.sum_nil,ab];omega
theorem pd (v:aR) (hn:v.Lines.length≤1000) (hb:gV v.Lines≤100000000):ci v=some (stL v.Lines v.Lines.length).1:=by
 unfold ci;refine fk (n:=v.Lines.length) (fun i (a:List (List Int)×List Int×Int)=>a=((stL v.Lines i).1,(stL v.Lines i).2,(i:Int))) (fun u=>u=(stL v.Lines v.Lines.length).1) (fun i a hi e=>?_) (fun a e=>?_) rfl (by omega) (fun u e=>by rw [e])
 ·left
  subst e;simp only;have hB:=jG v.Lines (i+1);rw [iv hi] at hB;obtain ⟨g1,g2⟩:=mn (L:=v.Lines) i (by omega);have c1:=mt true v.Lines[i].Cells;have c2:=mt false v.Lines[i].Cells;have b1:=gU v.Lines[i].Cells (eK true v.Lines[i].Cells v.Lines[i].Cells.length);have b2:=gU v.Lines[i].Cells (eK false v.Lines[i].Cells v.Lines[i].Cells.length);have lb:=jT v.Lines[i].Cells;have hw:w64 ((v.Lines.length:Int) - 1)=((v.Lines.length - 1:Nat):Int):=by rw [cc (by omega)]; omega
  rw [an (dlt hi),dx hi,bsm,hw,fR,bsm,dB hi (by omega)];have hd:(v.Lines[i].Wrap && decide ((i:Int) < ((v.Lines.length - 1:Nat):Int)))=wr v.Lines i:=by
   rw [oH hi]
   congr 1
   rw [nx];omega
  rw [hd];refine ⟨_,?_,rfl⟩
  cases h:wr v.Lines i with
  | true=>
   rw [an rfl,ph (by omega),bsm,nR _ (by unfold jj; omega),bsm,fq (by omega),bsm,bsm,nq hi h]
  | false=>
   rw [av (by simp),oZ (by omega),bsm,nR _ (by unfold jj; omega),bsm,fq (by omega),bsm,fq (by simp only [aM,bw]; omega),bsm,bsm,kV hi h]
 ·subst e;exact ⟨_,by simp only; rw [av (by simp)],rfl⟩
end Go.Proofs.YtclmdpamofdoiaaGreatDoor
namespace Go.Proofs.YtclmdpamofdoiaaGreatDoor
open Go Go.Lt
def bgL (L:List aP):Nat→Bool
 | 0=>false
 | i+1=>wr L i
def rl (L:List aP) (i:Nat):List (List Int):=if bgL L i=true then (stL L i).1++ [(stL L i).2] else (stL L i).1
variable {L:List aP} {i:Nat}
theorem pI (hi:i < L.length):rl L (i+1)=(stL L i).1++ [(stL L i).2++flat (jj (wr L i) L[i].Cells)]:=by
 have hb:bgL L (i+1)=wr L i:=rfl;unfold rl;rw [hb]
 cases h:wr L i with
 | true=>
  rw [an rfl,nq hi h]
 | false=>
  rw [av (by simp),kV hi h]
theorem pU:∀i,i≤L.length→bgL L i=false→(stL L i).2= []
 | 0,_,_=>rfl
 | i+1,h,hb=>by rw [kV (by omega) hb]
theorem nP {α:Type} {x:Option α} {X:α} (h:∃t,x=some t∧t=X):x=some X:=by
 obtain ⟨t,h1,h2⟩:=h;rw [h1,h2]
theorem pR (d:Bool) (l:List aa) (hl:l.length≤1000000000):cp (σ:=Int×Int) (τ:=Int) (((l.length:Int) - 0).toNat+1) (fun s_57=>
 if (decide (s_57.2 < (l.length:Int)))=true then
 ((idx l s_57.2).bind fun x_66=>
 (orE (x_66.Kind != 0) ((bY d (some (decide ((w64 (s_57.2+1)) < (l.length:Int))))).bind fun d_73=>
 some d_73)).bind fun d_70=>
 if d_70=true then
 (some (s_57.2):Option (Int))
 else
 (some (s_57.1):Option (Int))).bind fun z_63=>
 some (.inl (z_63,(w64 (s_57.2+1))))
 else
 some (.inr (s_57.1))) ((-1),0)=some ((eK d l l.length:Int) - 1):=by
 refine nP (gM (n:=l.length) (fun i (s:Int×Int)=>s=((eK d l i:Int) - 1,(i:Int))) (fun t=>t=(eK d l l.length:Int) - 1) (fun i s hi e=>?_) (fun s e=>?_) rfl (by omega))
 ·left
  subst e;simp only;rw [an (dlt hi),dx hi,bsm,dB hi (by omega),fR,bsm,fU,bsm];refine ⟨_,?_,rfl⟩;rw [hC hi];have hc:((l[i].Kind != 0) || (d && decide (((i+1:Nat):Int) < (l.length:Int))))=decide (l[i].Kind≠0∨(d=true∧i+1 < l.length)):=by
   have e1:decide (((i+1:Nat):Int) < (l.length:Int))=decide (i+1 < l.length):=by
    rw [nx];omega
   rw [e1,sd];simp only [iA,bne_iff_ne,bi,ao]
  rw [hc];by_cases h:l[i].Kind≠0∨(d=true∧i+1 < l.length)
  ·rw [an (by rw [ao]; exact h),an h,bsm]
   congr 2
   simp
  ·rw [av (by rw [ao]; exact h),av h,bsm]
 ·subst e;exact ⟨_,by simp only; rw [av (by simp)],rfl⟩
theorem nU (gs:List (List Int)) (c:List Int):idx (gs++ [c]) (gs.length:Int)=some c:=by
 rw [nT,aB (aj _),em];rfl
theorem mL (gs:List (List Int)) (c c':List Int):fj (gs++ [c]) (gs.length:Int) c'=some (gs++ [c']):=by
 rw [oN (by simp),kT _ _ (aj _),em];rfl
theorem pk (gs:List (List Int)) (cur:List Int) (l:List aa) (n:Nat) (hn:n≤l.length) (hg:gs.length≤1000) (hb:cur.length+iJ l≤1000000000):cp (σ:=(List (List Int))×Int) (τ:=List (List Int)) ((((n:Int) - 1) - 0).toNat+2) (fun s_95=>
 if (decide (s_95.2≤((n:Int) - 1)))=true then
 (((idx l s_95.2).bind fun x_104=>
 if (x_104.Kind==0)=true then
 (idx s_95.1 (w64 (((gs++ [cur]).length:Int) - 1))).bind fun x_113=>
 (app x_113 ([32]:List Int)).bind fun x_117=>
 (fj s_95.1 (w64 (((gs++ [cur]).length:Int) - 1)) x_117).bind fun w_119=>
 some w_119
 else
 some s_95.1).bind fun z_101=>
 (idx l s_95.2).bind fun x_124=>
 (orE (x_124.Kind==1) ((idx l s_95.2).bind fun x_132=>
 some (x_132.Kind==2))).bind fun d_128=>
 if d_128=true then
 (idx z_101 (w64 (((gs++ [cur]).length:Int) - 1))).bind fun x_141=>
 (idx l s_95.2).bind fun x_146=>
 (app x_141 x_146.Text).bind fun x_149=>
 (fj z_101 (w64 (((gs++ [cur]).length:Int) - 1)) x_149).bind fun w_151=>
 some w_151
 else
 some z_101).bind fun z_100=>
 some (.inl (z_100,(w64 (s_95.2+1))))
 else
 some (.inr (s_95.1))) (gs++ [cur],0)=some (gs++ [cur++flat (l.take n)]):=by
 have hw:w64 (((gs++ [cur]).length:Int) - 1)=(gs.length:Int):=by
  rw [ab,aM,bw,cc (by omega)];omega
 rw [hw];have lb:=jT l;refine nP (gM (n:=n) (fun i (s:List (List Int)×Int)=>s=(gs++ [cur++flat (l.take i)],(i:Int))) (fun t=>t=gs++ [cur++flat (l.take n)]) (fun i s hi e=>?_) (fun s e=>?_) (by simp [flat]) (by omega))
 ·left
  subst e;have hil:i < l.length:=by omega
  have f1:=mr (l.take (i+1));have f2:=gU l (i+1);rw [jf hil,ab] at f1;simp only;rw [an (by rw [ao]; omega),dx hil,bsm,dB hil (by omega)];refine ⟨_,?_,rfl⟩;rw [jf hil];have ht:txt l[i]=if l[i].Kind=0 then [32] else if l[i].Kind=1∨l[i].Kind=2 then l[i].Text else []:=rfl;by_cases k0:l[i].Kind=0
  ·rw [an k0] at ht;rw [ht] at f1⊢;rw [an (by rw [k0]; rfl),nU,bsm,fq (by simp only [aM,bw,ab] at f1⊢; omega),bsm,mL,bsm,bsm];simp only [bsm,fU,k0];rw [av (by simp),bsm,aw]
  ·rw [av k0] at ht;rw [av (by rw [dM]; exact k0),bsm];simp only [bsm,fU];by_cases k1:l[i].Kind=1∨l[i].Kind=2
   ·rw [an k1] at ht;rw [ht] at f1⊢;rw [an (by rw [iA,dM,dM]; exact k1),nU,bsm,fq (by rw [ab]; omega),bsm,mL,bsm,bsm,aw]
   ·rw [av k1] at ht;rw [ht,av (by rw [iA,dM,dM]; exact k1),bsm,cS]
 ·subst e;exact ⟨_,by simp only; rw [av (by rw [ao]; omega)],rfl⟩
end Go.Proofs.YtclmdpamofdoiaaGreatDoor
namespace Go.Proofs.YtclmdpamofdoiaaGreatDoor
open Go Go.Lt
theorem od (v:aR) (hn:v.Lines.length≤1000) (hb:gV v.Lines≤100000000):bl v=some (stL v.Lines v.Lines.length).1:=by
 unfold bl;refine fk (n:=v.Lines.length) (fun i (a:List (List Int)×Bool×Int)=>a=(rl v.Lines i,bgL v.Lines i,(i:Int))) (fun u=>u=(stL v.Lines v.Lines.length).1) (fun i a hi e=>?_) (fun a e=>?_) rfl (by omega) (fun u e=>by rw [e])
 ·left
  subst e;simp only;have hB:=jG v.Lines (i+1);rw [iv hi] at hB;obtain ⟨g1,g2⟩:=mn (L:=v.Lines) i (by omega);have lb:=jT v.Lines[i].Cells;have hz:(if (!bgL v.Lines i)=true then (app (rl v.Lines i) ([[]]:List (List Int))).bind fun x_27=>some x_27 else some (rl v.Lines i))=some ((stL v.Lines i).1++ [(stL v.Lines i).2]):=by
   cases h:bgL v.Lines i with
   | true=>
    rw [av (by simp)];unfold rl;rw [an h]
   | false=>
    have hr:rl v.Lines i=(stL v.Lines i).1:=by
     unfold rl;rw [av (by rw [h]; simp)]
    rw [an (by simp),hr,fq (by simp only [aM,bw]; omega),bsm,pU i (by omega) h]
  rw [an (dlt hi),hz,bsm,dx hi,bsm,bsm,dB hi (by omega),fR,bsm,pR _ _ (by omega),bsm];have hd:(v.Lines[i].Wrap && decide (((i+1:Nat):Int) < (v.Lines.length:Int)))=wr v.Lines i:=by
   rw [oH hi]
   congr 1
   rw [nx];omega
  rw [hd,pk _ _ _ _ (lc _) (by omega) (by omega),bsm];refine ⟨_,rfl,?_⟩;rw [pI hi];rfl
 ·subst e;refine ⟨_,by simp only; rw [av (by simp)],?_⟩;unfold rl
  cases hL:v.Lines.length with
  | zero=>rfl
  | succ n=>
   have:bgL v.Lines (n+1)=false:=by
    show wr v.Lines n=false;rw [oH (by omega)];simp [hL]
   rw [this];rfl
theorem qi (a:List (List Int)) (hl:a.length≤1000000):cu a a=some true:=by
 unfold cu;rw [av (by simp)];refine fk (n:=a.length) (fun i (b:Int)=>b=(i:Int)) (fun u=>u= .inr ()) (fun i b hi e=>?_) (fun b e=>?_) rfl (by omega) (fun u e=>by rw [e])
 ·left
  subst e;rw [an (dlt hi),dx hi];simp only [bsm];have:eqS (la a[i]) (la a[i])=true:=by
   unfold eqS;simp
  rw [this];simp only [jJ,kf,bsm,bne_self_eq_false];rw [av (by simp),dB hi (by omega)];exact ⟨_,rfl,rfl⟩
 ·subst e;exact ⟨_,by rw [av (by simp)],rfl⟩
def fS (l:List (List Int)):Nat→Nat
 | 0=>0
 | n+1=>match l[n]? with
  | some x=>if x.length > 0 then n+1 else fS l n
  | none=>fS l n
theorem lX {l:List (List Int)} {i:Nat} (hi:i < l.length):fS l (i+1)=if l[i].length > 0 then i+1 else fS l i:=by
 show (match l[i]? with | some x=>if x.length > 0 then i+1 else fS l i | none=>fS l i)=_;rw [af hi]
theorem ml {l:List (List Int)}:∀n,fS l n≤n
 | 0=>aj 0
 | n+1=>by
  have:=ml (l:=l) n;show (match l[n]? with | some x=>if x.length > 0 then n+1 else fS l n | none=>fS l n)≤_;split
  ·split
   ·exact aj _
   ·exact ge this
  ·exact ge this
def eL (l:List (List Int)):Nat→List Int
 | 0=>[]
 | n+1=>(if n > 0 then eL l n++ [10] else eL l n)++(l.getD n [])
theorem mU {l:List (List Int)}:∀n,n≤l.length→(eL l n).length≤n+((l.take n).map List.length).sum
 | 0,_=>eg _
 | n+1,h=>by
  have:=mU (l:=l) n (by omega);have hn:n < l.length:=by omega
  rw [bD hn,et,fH];show ((if n > 0 then eL l n++ [10] else eL l n)++(l.getD n [])).length≤_;rw [fc,af hn];simp only [Option.getD_some,ab,dg,qu,eD,List.sum_nil];split
  ·rw [ab,aM,bw];omega
  ·omega
end Go.Proofs.YtclmdpamofdoiaaGreatDoor
namespace Go.Proofs.YtclmdpamofdoiaaGreatDoor
open Go Go.Lt
variable {l:List (List Int)}
theorem jA {n:Nat} (h:n < l.length):eL l (n+1)=(if n > 0 then eL l n++ [10] else eL l n)++l[n]:=by
 show (if n > 0 then eL l n++ [10] else eL l n)++(l.getD n [])=_;rw [fc,af h];rfl
theorem ld {t:Nat} (ht:t≤l.length):∀i,i≤t→eL (l.take t) i=eL l i
 | 0,_=>rfl
 | i+1,h=>by
  rw [jA (by rw [ag]; omega),jA (by omega),ld ht i (by omega),rR]
def jN (l:List (List Int)):List Int:=eL l (fS l l.length)
def okL (l:List (List Int)):Prop:=l.length≤1000∧(l.map List.length).sum≤100000000
theorem lY (l:List (List Int)) (i:Nat):((l.take i).map List.length).sum≤(l.map List.length).sum:=by
 conv=>rhs; rw [←eH i l]
 rw [et,fH];omega
theorem mf {i:Nat} (h:okL l) (hi:i < l.length):((if (decide ((i:Int) > 0))=true then (app (eL l i) ([10]:List Int)).bind fun j=>some j else some (eL l i)).bind fun x=>app x l[i])=some (eL l (i+1)):=by
 have h1:=mU (l:=l) (i+1) (by omega);have h2:=lY l (i+1);have h3:=h.2;have h4:=h.1;rw [jA hi] at h1⊢;by_cases h0:i > 0
 ·rw [an h0] at h1⊢;simp only [ab,aM,bw] at h1;rw [an (by rw [ao]; omega),fq (by simp only [aM,bw]; omega),bsm,bsm,fq (by simp only [ab,aM,bw]; omega)]
 ·rw [av h0] at h1⊢;simp only [ab] at h1;rw [av (by rw [ao]; omega),bsm,fq (by omega)]
theorem oe (v:aR) {out:List (List Int)} (h:ci v=some out) (ho:okL out):ca v=some (jN out):=by
 unfold ca;rw [h,bsm];have key:∀{x:Option (List (List Int))} {k:List (List Int)→Option (List Int)},(∃t,x=some t∧t=out.take (fS out out.length))→k (out.take (fS out out.length))=some (jN out)→x.bind k=some (jN out):=fun ⟨t,h1,h2⟩ h3=>by rw [h1,bsm,h2,h3]
 have hl:=ho.1;refine key (lf (fun b=>∃k:Nat,b=out.take k∧k≤out.length∧fS out k=fS out out.length) (fun b=>b.length) (fun t=>t=out.take (fS out out.length)) (fun b hI=>?_) _ _ ⟨out.length,by rw [kb],aj _,rfl⟩ (by omega)) ?_
 ·obtain ⟨k,rfl,hk,he⟩:=hI;have hkl:(out.take k).length=k:=by rw [ag]; omega
  rw [hkl]
  cases k with
  | zero=>
   right
   rw [show decide (((0:Nat):Int) > 0)=false by simp,jH,bsm,av (by simp)];exact ⟨_,rfl,by rw [←he]; rfl⟩
  | succ n=>
   have hi:n < out.length:=by omega
   have hw:w64 (((n+1:Nat):Int) - 1)=(n:Int):=by rw [cc (by omega)]; omega
   rw [show decide (((n+1:Nat):Int) > 0)=true by rw [ao]; omega,kA,hw,dx (by rw [hkl]; omega),bsm,bsm,rR];rw [lX hi] at he;by_cases h0:out[n].length > 0
   ·right
    rw [an h0] at he;rw [av (by rw [dM]; omega)];exact ⟨_,rfl,by rw [he]⟩
   ·left
    rw [av h0] at he;rw [an (by rw [dM]; omega),kY (by rw [hkl]; omega),bsm,dY,cA (by omega)];exact ⟨_,rfl,⟨n,rfl,by omega,he⟩,by rw [ag]; omega⟩
 ·have ht:=ml (l:=out) out.length;have hcl:(out.take (fS out out.length)).length=fS out out.length:=by rw [ag]; omega
  unfold jN;generalize fS out out.length=t at *;have hg:okL (out.take t):=⟨by rw [hcl]; omega,cy (lY out t) ho.2⟩;refine fk (n:=(out.take t).length) (fun i (a:List Int×Int)=>a=(eL (out.take t) i,(i:Int))) (fun u=>u=eL out t) (fun i a hi e=>?_) (fun a e=>?_) rfl (by omega) (fun u e=>by rw [e])
  ·left
   subst e;simp only;have hs:=mf hg hi;rw [an (dlt hi),dx hi,dB hi (by omega)];simp only [bsm];rw [←rP,hs,bsm];exact ⟨_,rfl,rfl⟩
  ·subst e;exact ⟨_,by simp only; rw [av (by simp)],by rw [hcl,ld ht t (aj _)]⟩
theorem oU (v:aR) {out:List (List Int)} (h:bl v=some out) (ho:okL out):ct v=some (jN out):=by
 unfold ct;rw [h,bsm];have hl:=ho.1;have key:∀{x:Option Int} {k:Int→Option (List Int)},(∃t,x=some t∧t=(fS out out.length:Int) - 1)→k ((fS out out.length:Int) - 1)=some (jN out)→x.bind k=some (jN out):=fun ⟨t,h1,h2⟩ h3=>by rw [h1,bsm,h2,h3]
 refine key (gM (n:=out.length) (fun i (b:Int×Int)=>b=((fS out i:Int) - 1,(i:Int))) (fun t=>t=(fS out out.length:Int) - 1) (fun i b hi e=>?_) (fun b e=>?_) rfl (by omega)) ?_
 ·left
  subst e;simp only;rw [an (dlt hi),dx hi,bsm,dB hi (by omega)];refine ⟨_,?_,rfl⟩;rw [lX hi];by_cases h0:out[i].length > 0
  ·rw [an (by rw [ao]; omega),an h0,bsm]
   congr 2
   simp
  ·rw [av (by rw [ao]; omega),av h0,bsm]
 ·subst e;exact ⟨_,by simp only; rw [av (by simp)],rfl⟩
 ·have ht:=ml (l:=out) out.length;unfold jN;generalize fS out out.length=t at *;refine fk (n:=t) (fun i (a:List Int×Int)=>a=(eL out i,(i:Int))) (fun u=>u=eL out t) (fun i a hi e=>?_) (fun a e=>?_) rfl (by omega) (fun u e=>by rw [e])
  ·left
   subst e;simp only;have hs:=mf (i:=i) ho (by omega);have hil:i < out.length:=by omega
   rw [an (by rw [ao]; omega),dx hil,dB hil (by omega)];simp only [bsm];rw [←rP,hs,bsm];exact ⟨_,rfl,rfl⟩
  ·subst e;exact ⟨_,by simp only; rw [av (by rw [ao]; omega)],rfl⟩
end Go.Proofs.YtclmdpamofdoiaaGreatDoor
namespace Go.Proofs.YtclmdpamofdoiaaGreatDoor
open Go Go.Lt
theorem qT (u:Nat) (h:u < 2000000):cE .i32 (u:Int) 63=((u % 64:Nat):Int):=by
 have e1:(BitVec.ofInt 32 (u:Int) &&& BitVec.ofInt 32 63).toNat=u % 64:=by
  have b1:(BitVec.ofInt 32 (u:Int)).toNat=u:=by rw [BitVec.toNat_ofInt]; omega
  have b2:(BitVec.ofInt 32 63).toNat=63:=rfl;rw [BitVec.toNat_and,b1,b2];exact Nat.and_two_pow_sub_one_eq_mod u 6
 show IntKind.i32.wrap ((BitVec.ofInt 32 (u:Int) &&& BitVec.ofInt 32 63).toNat:Int)=_;rw [e1];exact qe (by omega)
theorem qL:∀y:Fin 64,dy .u8 128 (IntKind.u8.wrap (y.val:Int))=128+(y.val:Int):=by decide +kernel
theorem qK:∀y:Fin 32,dy .u8 192 (IntKind.u8.wrap (y.val:Int))=192+(y.val:Int):=by decide +kernel
theorem qJ:∀y:Fin 16,dy .u8 224 (IntKind.u8.wrap (y.val:Int))=224+(y.val:Int):=by decide +kernel
theorem qI:∀y:Fin 8,dy .u8 240 (IntKind.u8.wrap (y.val:Int))=240+(y.val:Int):=by decide +kernel
theorem or0:∀y:Fin 128,dy .u8 0 (IntKind.u8.wrap (y.val:Int))=(y.val:Int):=by decide +kernel
def vld (r:Int):Bool:=decide (0≤r) && decide (r≤1114111) && (decide (r < 55296) || decide (r > 57343))
theorem ke (r:Int):aX r=some (vld r):=by
 simp only [aX,fR,fU,bsm,vld,ge_iff_le]
theorem kd (r:Int):bH r=some (vld r):=by
 simp only [bH,fR,fU,bsm,vld,az];rw [sd];simp;omega
def rgt (c:aa):Bool:=
 if c.Kind=0∨c.Kind=3 then c.Text.isEmpty else (decide (c.Kind=1) || decide (c.Kind=2)) && decide (1≤c.Text.length) && decide (c.Text.length≤16) && c.Text.all vld
theorem lV {α:Type} (p:α→Bool) (l:List α) (i:Nat) (h:i < l.length):(l.take (i+1)).all p=((l.take i).all p && p l[i]):=by
 rw [bD h,List.all_append];simp
theorem mG {α:Type} {p:α→Bool} {l:List α} {i:Nat} (h:i < l.length) (hp:p l[i]=false):l.all p=false:=by
 rw [List.all_eq_false];exact ⟨_,rV h,by simp [hp]⟩
theorem mV {α:Type} (l:List α):((l.length:Int)==0)=l.isEmpty:=by
 cases l <;> simp <;> omega
theorem qA (c:aa):ff c=some (rgt c):=by
 unfold ff rgt;simp only [fU,fR,bsm];by_cases h1:c.Kind=0∨c.Kind=3
 ·have e:(c.Kind==0 || c.Kind==3)=true:=by rcases h1 with h | h <;> simp [h]
  rw [an e,an h1,mV]
 ·have e:(c.Kind==0 || c.Kind==3)=false:=by simp; omega
  rw [av (by rw [e]; simp),av h1];by_cases h2:((c.Kind=1∨c.Kind=2)∧1≤c.Text.length∧c.Text.length≤16)
  ·have e2:(((c.Kind != 1 && c.Kind != 2) || decide ((c.Text.length:Int) < 1)) || decide ((c.Text.length:Int) > 16))=false:=by
    simp; omega
   rw [av (by rw [e2]; simp)];obtain ⟨t,h3,h4⟩:=lg (τ:=Bool ⊕ Unit) (n:=c.Text.length) (by omega) (fun t=>match t with | .inl b=>b=c.Text.all vld | .inr _=>c.Text.all vld=true) (fun i=>(c.Text.take i).all vld=true) (by simp)
    (step:=fun s_44=>
     if (decide (s_44 < (c.Text.length:Int)))=true then
     (idx c.Text s_44).bind fun x_54=>
     (aX x_54).bind fun x_56=>
     if (!x_56)=true then
     some (.inr (.inl false))
     else
     some (.inl ((w64 (s_44+1))))
     else
     some (.inr (.inr ())))
    (fun i hi hI=>by
     have e3:w64 ((i:Int)+1)=((i+1:Nat):Int):=by rw [cc (by omega)]; simp
     simp only [Int.ofNat_lt,hi,decide_true,rM,dx hi,bsm,ke,e3]
     cases hv:vld c.Text[i] with
     | true=>exact .inl ⟨by simp,by rw [lV _ _ _ hi,hI,hv]; rfl⟩
     | false=>exact .inr ⟨.inl false,by simp,(mG hi hv).symm⟩)
    (fun hI=>⟨.inr (),by simp,by simpa using hI⟩)
   rw [h3];simp only [bsm];have e4:(decide (c.Kind=1) || decide (c.Kind=2))=true:=by simp; exact h2.1
   rw [e4,pj h2.2.1,pj h2.2.2]
   cases t with
   | inl b=>simp only at h4; simp [h4]
   | inr u=>simp only at h4; simp [h4]
  ·have e2:(((c.Kind != 1 && c.Kind != 2) || decide ((c.Text.length:Int) < 1)) || decide ((c.Text.length:Int) > 16))=true:=by
    simp; omega
   rw [an e2]
   congr 1
   symm
   simp only [Bool.and_eq_false_iff,Bool.or_eq_false_iff,qa];omega
theorem nY (a:List Int) (ha:a.length≤9223372036854775807) (b:List Int):∃t,bt a b=some t∧(t=true↔a=b):=by
 unfold bt;by_cases hl:a.length=b.length
 ·rw [av (by simp [hl])];obtain ⟨t,h3,h4⟩:=lg (τ:=Bool ⊕ Unit) (n:=a.length) (by omega) (fun t=>match t with | .inl b'=>b'=false∧a≠b | .inr _=>a=b) (fun i=>∀j,j < i→a[j]? = b[j]?) (fun j h=>by omega)
   (step:=fun s_13=>
    if (decide (s_13 < (a.length:Int)))=true then
    (idx a s_13).bind fun x_21=>
    (idx b s_13).bind fun x_25=>
    if (x_21 != x_25)=true then
    some (.inr (.inl false))
    else
    some (.inl ((w64 (s_13+1))))
    else
    some (.inr (.inr ())))
   (fun i hi hI=>by
    have e3:w64 ((i:Int)+1)=((i+1:Nat):Int):=by rw [cc (by omega)]; simp
    simp only [Int.ofNat_lt,hi,decide_true,rM,dx hi,dx (show i < b.length by omega),bsm,e3];by_cases hk:a[i]=b[i]
    ·refine .inl ⟨by rw [av (by simp [hk])],fun j hj=>?_⟩;by_cases hji:j=i
     ·subst hji; rw [af hi,af (show j < b.length by omega),hk]
     ·exact hI j (by omega)
    ·exact .inr ⟨.inl false,by rw [an (by simpa using hk)],rfl,fun e=>hk (by subst e; rfl)⟩)
   (fun hI=>⟨.inr (),by simp,by
    apply gg;intro j;rcases bZ j a.length with h | h
    ·exact hI j h
    ·rw [eI h,eI (by omega)]⟩)
  rw [h3];simp only [bsm]
  cases t with
  | inl b'=>exact ⟨b',rfl,by simp only at h4; rw [h4.1]; simp [h4.2]⟩
  | inr u=>exact ⟨true,rfl,by simpa using h4⟩
 ·rw [an (by simp; omega)];exact ⟨false,rfl,by simp; intro e; subst e; exact hl rfl⟩
def ji (r:Int):Int:=if vld r=true then r else 65533
theorem mJ (r:Int):vld (ji r)=true:=by
 unfold ji;split
 ·assumption
 ·rfl
end Go.Proofs.YtclmdpamofdoiaaGreatDoor
namespace Go.Proofs.YtclmdpamofdoiaaGreatDoor
open Go Go.Lt
variable {s:Sto} {k:Nat} {l p:List aa} {w:Bool}
theorem mM (p:List Int) (hp:p.length≤1000000):cI p=some (p.map ji):=by
 unfold cI;rw [oT _ (by omega),oT _ (by omega)];simp only [bsm];obtain ⟨t,h1,h2⟩:=gM (σ:=(List Int)×Int) (τ:=List Int) (n:=p.length) (fuel:=((p.length:Int) - 0).toNat+1) (s:=(List.replicate (0:Int).toNat 0,0))
  (fun i q=>q=((p.take i).map ji,(i:Int))) (fun t=>t=p.map ji)
  (step:=fun s_12=>
 if (decide (s_12.2 < (p.length:Int)))=true then
 (idx p s_12.2).bind fun x_15=>
 ((bH x_15).bind fun x_21=>
 if (!x_21)=true then
 (some (65533):Option (Int))
 else
 (some (x_15):Option (Int))).bind fun z_19=>
 (app s_12.1 ([z_19]:List Int)).bind fun x_29=>
 some (.inl (x_29,(w64 (s_12.2+1))))
 else
 some (.inr (s_12.1)))
  (fun i q hi e=>by
   subst e;refine .inl ⟨_,?_,rfl⟩;have e5:w64 ((i:Int)+1)=((i+1:Nat):Int):=by rw [cc (by omega)]; simp
   have hd:decide ((i:Int) < (p.length:Int))=true:=by simp; exact hi
   simp only [hd,rM,dx hi,bsm,kd,e5];have hz:(if (!vld p[i])=true then (some (65533):Option Int) else some p[i])=some (ji p[i]):=by
    unfold ji
    cases vld p[i] <;> rfl
   rw [hz];simp only [bsm];rw [fq (by simp; omega)];simp only [bsm];rw [bD hi,et];rfl)
  (fun q e=>⟨_,by subst e; simp,rfl⟩)
  rfl (by omega)
 subst h2;rw [h1];rfl
end Go.Proofs.YtclmdpamofdoiaaGreatDoor
namespace Go.Proofs.YtclmdpamofdoiaaGreatDoor
open Go Go.Lt
def frm (r:Int):List Int:=if r < 128 then [r] else if r < 2048 then [192+r / 64,128+r % 64] else if r < 65536 then [224+r / 4096,128+r / 64 % 64,128+r % 64] else [240+r / 262144,128+r / 4096 % 64,128+r / 64 % 64,128+r % 64]
def szf (r:Int):Int:=if r < 128 then 1 else if r < 2048 then 2 else if r < 65536 then 3 else 4
theorem nM {r:Int} (h:vld r=true):0≤r∧r≤1114111:=by
 unfold vld at h;simp only [bi,ao] at h;omega
theorem jp {n:Int} (h:0≤n∧n < 256):IntKind.u8.wrap n=n:=by
 simp only [IntKind.wrap,IntKind.signed,IntKind.bits,Bool.false_and,je,qO];omega
theorem nV (r:Int):(frm r).length≤4:=by
 unfold frm
 repeat' split
 all_goals simp
theorem oV {r:Int} (h:vld r=true):cw r=some (szf r):=by
 unfold cw szf;rw [ke,h];simp only [bsm,jJ,je,qO,ao]
 repeat' split
 all_goals first
  | rfl
  | omega
  | (simp only [bsm]; repeat' split)
 all_goals first
  | rfl
  | omega
theorem oQ {r:Int} (h:vld r=true):eo r=some (szf r):=by
 unfold eo szf;rw [kd,h];simp only [bsm,jJ,je,qO,ao]
 repeat' split
 all_goals rfl
theorem oW {r:Int} (h:vld r=true):cx r=some (frm r):=by
 obtain ⟨r0,r9⟩:=nM h;unfold cx;rw [oV h,bsm];have e0:w64 r=r:=cc (by omega);have e1:r.tdiv 64=r / 64:=jd r0;have e2:r.tdiv 4096=r / 4096:=jd r0;have e3:r.tdiv 262144=r / 262144:=jd r0;have m1:r.tmod 64=r % 64:=jc r0;have m2:(r / 64).tmod 64=r / 64 % 64:=jc (by omega);have m3:(r / 4096).tmod 64=r / 4096 % 64:=jc (by omega);unfold szf frm;by_cases h1:r < 128
 ·rw [an h1,an h1,an (by rfl),e0,jp (by omega)]
 ·rw [av h1,av h1];by_cases h2:r < 2048
  ·rw [an h2,an h2,av (by decide),an (by rfl),e0,e1,m1,cc (n:=r / 64) (by omega),cc (n:=192+r / 64) (by omega),cc (n:=128+r % 64) (by omega),jp (by omega),jp (by omega)]
  ·rw [av h2,av h2];by_cases h3:r < 65536
   ·rw [an h3,an h3,av (by decide),av (by decide),an (by rfl),e0,e1,e2,m1,cc (n:=r / 64) (by omega),cc (n:=r / 4096) (by omega),m2,cc (n:=224+r / 4096) (by omega),cc (n:=128+r / 64 % 64) (by omega),cc (n:=128+r % 64) (by omega),jp (by omega),jp (by omega),jp (by omega)]
   ·rw [av h3,av h3,av (by decide),av (by decide),av (by decide),an (by rfl),e0,e1,e2,e3,m1,cc (n:=r / 64) (by omega),cc (n:=r / 4096) (by omega),cc (n:=r / 262144) (by omega),m2,m3,cc (n:=240+r / 262144) (by omega),cc (n:=128+r / 4096 % 64) (by omega),cc (n:=128+r / 64 % 64) (by omega),cc (n:=128+r % 64) (by omega),jp (by omega),jp (by omega),jp (by omega),jp (by omega)]
theorem ou (u:Nat):(u:Int).fdiv (2 ^ 6)=((u / 64:Nat):Int):=by
 rw [Int.fdiv_eq_ediv_of_nonneg _ (by decide)];rfl
theorem om {u:Nat} (h:u < 2000000):dy .u8 128 (IntKind.u8.wrap (cE .i32 (u:Int) 63))=128+((u % 64:Nat):Int):=by
 rw [qT u h];exact qL ⟨u % 64,pw _ (by decide)⟩
theorem oR {r:Int} (h:vld r=true):ep r=some (frm r):=by
 obtain ⟨r0,r9⟩:=nM h;unfold ep;rw [oQ h,bsm];obtain ⟨u,rfl⟩:∃u:Nat,r=(u:Int):=⟨r.toNat,by omega⟩;unfold szf frm;by_cases h1:(u:Int) < 128
 ·rw [an h1,an h1];refine qY (b:=some [dy .u8 0 (IntKind.u8.wrap (u:Int))]) rfl ?_;rw [or0 ⟨u,by omega⟩]
 ·rw [av h1,av h1];by_cases h2:(u:Int) < 2048
  ·rw [an h2,an h2];refine qY (b:=some [dy .u8 192 (IntKind.u8.wrap ((u:Int).fdiv (2 ^ 6))),dy .u8 128 (IntKind.u8.wrap (cE .i32 (u:Int) 63))]) rfl ?_;rw [om (by omega),ou,qK ⟨u / 64,by omega⟩];rfl
  ·rw [av h2,av h2];by_cases h3:(u:Int) < 65536
   ·rw [an h3,an h3];refine qY (b:=some [dy .u8 224 (IntKind.u8.wrap (((u:Int).fdiv (2 ^ 6)).fdiv (2 ^ 6))),dy .u8 128 (IntKind.u8.wrap (cE .i32 ((u:Int).fdiv (2 ^ 6)) 63)),dy .u8 128 (IntKind.u8.wrap (cE .i32 (u:Int) 63))]) rfl ?_;rw [ou,ou,om (by omega),om (by omega),qJ ⟨u / 64 / 64,by omega⟩];simp only [az,oG,and_true];refine ⟨?_,?_,?_⟩ <;> omega
   ·rw [av h3,av h3];refine qY (b:=some [dy .u8 240 (IntKind.u8.wrap ((((u:Int).fdiv (2 ^ 6)).fdiv (2 ^ 6)).fdiv (2 ^ 6))),dy .u8 128 (IntKind.u8.wrap (cE .i32 (((u:Int).fdiv (2 ^ 6)).fdiv (2 ^ 6)) 63)),dy .u8 128 (IntKind.u8.wrap (cE .i32 ((u:Int).fdiv (2 ^ 6)) 63)),dy .u8 128 (IntKind.u8.wrap (cE .i32 (u:Int) 63))]) rfl ?_;rw [ou,ou,ou,om (by omega),om (by omega),om (by omega),qI ⟨u / 64 / 64 / 64,by omega⟩];simp only [az,oG,and_true];refine ⟨?_,?_,?_,?_⟩ <;> omega
theorem pi (l:List Int):(l.flatMap frm).length≤4 * l.length:=by
 induction l with
 | nil=>simp
 | cons x l ih=>
  rw [rS,ab,aM];have:=nV x;omega
theorem ot {l:List Int} {i:Nat} (h:i < l.length):(l.take (i+1)).flatMap frm=(l.take i).flatMap frm++frm l[i]:=by
 rw [bD h,rg];simp
theorem mY {l:List Int} (hl:l.length≤1000000) {i:Nat} (h:i < l.length):app ((l.take i).flatMap frm) (frm l[i])=some ((l.take (i+1)).flatMap frm):=by
 have h1:=pi (l.take i);have h2:=nV l[i];rw [ag] at h1;rw [fq (by omega),ot h]
theorem pE {l:List Int} (hv:∀x∈l,vld x=true) (hl:l.length≤1000000):eN l=some (l.flatMap frm,Er.nil):=by
 unfold eN;refine fk (n:=l.length) (fun i a=>a=((l.take i).flatMap frm,(i:Int))) (fun u=>u= .inr (l.flatMap frm)) (fun i a hi e=>?_) (fun a e=>?_) rfl (by omega) (fun u e=>by rw [e])
 ·left
  subst e;have hx:=hv _ (rV hi);simp only;rw [an (dlt hi),dx hi,bsm,kd,hx,bsm,av (by simp),oR hx,bsm,mY hl hi,bsm,dB hi (by omega)];exact ⟨_,rfl,rfl⟩
 ·subst e;exact ⟨_,by simp only; rw [av (by simp)],by rw [kb]⟩
theorem nu {v:aR} {t:List Int} (h:ca v=some t) (hl:t.length≤1000000):cJ v=some ((t.map ji).flatMap frm):=by
 unfold cJ;rw [h,bsm,mM t hl,bsm,pE (fun x hx=>?_) (by simpa using hl),bsm];obtain ⟨y,_,rfl⟩:=List.mem_map.1 hx;exact mJ y
theorem nD (b:List Int):cg b b=some true:=by
 unfold cg eqS;simp
theorem pc {γ:Type} {x:Option (γ×Bool)} (h:x.map (fun q=>q.2)=some true):∃s,x=some (s,true):=by
 cases x with
 | none=>cases h
 | some q=>
  obtain ⟨a,b⟩:=q;simp only [oF,az] at h;subst h;exact ⟨a,rfl⟩
theorem ql {f:Sto→Option (Sto×Bool)} {s:Sto} (h1:(f s).map (fun q=>q.2)=some true) (h2:((f s).bind fun q=>f q.1).map (fun q=>q.2)=some true):∃s1 s2,f s=some (s1,true)∧f s1=some (s2,true):=by
 obtain ⟨s1,e1⟩:=pc h1;rw [e1] at h2;obtain ⟨s2,e2⟩:=pc h2;exact ⟨s1,s2,e1,e2⟩
end Go.Proofs.YtclmdpamofdoiaaGreatDoor
namespace Go.Proofs.YtclmdpamofdoiaaGreatDoor
open Go Go.Lt
set_option maxRecDepth 100000
theorem oX:(bm ⟨[],[],[],[],[],[]⟩).map (fun q=>q.2)=some true:=by kernel_rfl
theorem og:((bm ⟨[],[],[],[],[],[]⟩).bind fun q=>bm q.1).map (fun q=>q.2)=some true:=by kernel_rfl
theorem qj (a:List Int) (hl:a.length≤9223372036854775807):bt a a=some true:=by
 obtain ⟨t,h,k⟩:=nY a hl a;rw [h,k.2 rfl]
theorem pT {L:List aP} {i:Nat} (hi:i < L.length):L[i].Cells.length≤gV L:=by
 have h1:=jG L (i+1);rw [iv hi] at h1;have:=jT L[i].Cells;omega
theorem jz (v:aR) (hb:gV v.Lines≤1048576):∃st,bg ⟨[],[],[],[],[],[]⟩ v=some (st,true):=by
 obtain ⟨s1,s2,w1,w2⟩:=ql oX og;unfold bg;rw [w1,bsm,fU,bsm];by_cases h60:v.Lines.length > 60
 ·rw [an (by simp only [jJ,Bool.false_or,ao]; omega),w2,bsm];exact ⟨_,rfl⟩
 rw [av (by simp only [jJ,Bool.false_or,ao]; omega)];refine mg (n:=v.Lines.length) (fun i a=>∃n:Nat,a=((n:Int),(i:Int))∧n≤2000) (fun u=>u= .inl (s1,true)∨u= .inr ()) (fun i a hi hI=>?_) (fun a hI=>?_) ⟨0,rfl,by omega⟩ (by omega) (fun u hu=>?_)
 ·obtain ⟨n,rfl,hn⟩:=hI;have hc:=pT hi;simp only;rw [an (dlt hi),dx hi,bsm,cc (by omega),dB hi (by omega)];by_cases hg:n+v.Lines[i].Cells.length > 2000
  ·rw [an (by rw [ao]; omega)];exact .inr ⟨_,rfl,.inl rfl⟩
  ·rw [av (by rw [ao]; omega)];exact .inl ⟨_,rfl,n+v.Lines[i].Cells.length,by simp,by omega⟩
 ·obtain ⟨n,rfl,hn⟩:=hI;exact ⟨_,by simp only; rw [av (by simp)],.inr rfl⟩
 rcases hu with rfl | rfl
 ·exact ⟨s1,rfl⟩
 have hs:=mn (L:=v.Lines) v.Lines.length (aj _);rw [kb] at hs;have hL:=pd v (by omega) (by omega);have hR:=od v (by omega) (by omega);have hok:okL (stL v.Lines v.Lines.length).1:=⟨by omega,by omega⟩;have hT:=oe v hL hok;have hU:=oU v hR hok;simp only;rw [hU,bsm];generalize jN (stL v.Lines v.Lines.length).1=t at *;by_cases h4:t.length > 40000
 ·have hd:decide ((t.length:Int) > 40000)=true:=by rw [ao]; omega
  rw [hd,mS,bsm,mS,bsm,an rfl];exact ⟨_,rfl⟩
 ·have hd:decide ((t.length:Int) > 40000)=false:=by rw [qa]; omega
  rw [hd,kf,hL,bsm,hR,bsm,qi _ (by omega),bsm,bsm,show (!true)=false from rfl,kf,hT,bsm,qj _ (by omega),bsm,bsm,av (by simp)];have hm:(t.map ji).length≤1000000:=by rw [cB]; omega
  refine mg (n:=t.length) (fun i a=>a=(((t.map ji).take i).flatMap frm,(i:Int))) (fun u=>u=(t.map ji).flatMap frm) (fun i a hi e=>?_) (fun a e=>?_) rfl (by omega) (fun u e=>?_)
  ·subst e
   left
   have hi2:i < (t.map ji).length:=by rw [cB]; exact hi
   have hf:(t.map ji)[i]=ji t[i]:=nJ ..;have hz:((aX t[i]).bind fun u=>if (!u)=true then some (65533) else some (t[i]))=some (ji t[i]):=by
    rw [ke];unfold ji
    cases vld t[i] <;> rfl
   simp only;rw [an (dlt hi),dx hi,bsm,hz,bsm,oW (mJ _),bsm,←hf,mY hm hi2,bsm,dB hi (by omega)];exact ⟨_,rfl,rfl⟩
  ·subst e;exact ⟨_,by simp only; rw [av (by simp)],by rw [be (by rw [cB]; omega)]⟩
  ·rw [e,nu hT (by omega),bsm,nD,bsm];exact ⟨_,rfl⟩
end Go.Proofs.YtclmdpamofdoiaaGreatDoor
