/- Parts of the proofs of MirrorRuns: the walk through the code, and plain Lean. No condition. -/
import Derived.Test.YtclmdpamofdoiaaGreatDoorMrA
import Derived.Test.YtclmdpamofdoiaaGreatDoorProg
import Derived.Test.YtclmdpamofdoiaaGreatDoorMrB
import Derived.Test.YtclmdpamofdoiaaGreatDoorMrC
import Derived.WalkKit
import Derived.LaidEql
import Derived.Stop.Asserts
import Derived.RowKitTokens
import Derived.Elder7
import Derived.RangeFuncSeq
import Derived.RangeFuncRecord
import Derived.RangeFuncLeaves
set_option linter.unusedVariables false
set_option linter.unusedSimpArgs false
namespace Go.Proofs.YtclmdpamofdoiaaGreatDoor
open Go Go.Lt
set_option maxRecDepth 10000
set_option linter.unusedVariables false
attribute [local irreducible] W WL AC
open Tryz
variable {c0:Cx}{G:Gm}{F:List En}{sg:Sto}{v1 v2 v3 v4 v5 v6 v7 v8 v9 v10 v11 v12 v13 v14 v15 v16 v17 v18 v19 v20 v21 v22 v23 v24 v25 v26 v27 v28 v29 v30 v31 v32 v33 v34 v35 v36 v37 v38 v39 v40 v41 v42 v43 v44 v45 v46 v47 v48 v49 v50 v51 v52 v53 v54 v55 v56 v57 v58 v59 v60:Value}
def pg (sg:Sto) (p0:Option Nat):Option (Sto×(Option Nat)):=
 (orE p0.isNone ((p0).bind fun d=>
 (sg.place_Pen[d]?).bind fun b=>
 some b.G.isNone)).bind fun c=>
 if c then
 some (sg,(none:Option Nat))
 else
 (some (sg.add_feed_Feeder (⟨p0,(⟨0,0,0,0,0⟩:bG),(⟨false,0,0,0,false⟩:bD),(none:Option Nat)⟩:bH))).bind fun a=>
 some (a,(some sg.feed_Feeder.length))
theorem BK (t:Own c0 G F) (u:Rel c0 sg G) (k:Option Nat){r:Sto×(Option Nat)}(n:Pt 2 c0 v1 k) (H:pg sg k=some r): KP 80 #[v1] c0 fun c v=>∃y1,∃G_:Gm,Own c G_ F/\Rel c r.1 G_/\fq G G_/\v=y1/\Pt 4 c y1 r.2:=by
 unfold pg at H;refine en func80 rfl rfl<|KE (.pointer none)<|KA<|W.seq<|bn H fun T h3 H=>W.join (Jn c0 fun c l=>Own c G F/\l= [(0,v1),(11,B T)]) ?_ ?_
 ·clear H;refine Kz v1<|vr (B k.isNone) (by rcases (n).cs with ⟨d,e⟩|⟨b_,d,e⟩ <;> (subst d; rw [e]; kernel_rfl)) ?_;rcases bo k.isNone with h|h
  ·obtain rfl:=orT h h3;exact vb h<|pz<|pz<|ps<|Kq true<|KB c0 ⟨t,rfl⟩
  have g:=orF h h3;refine vb h<|wa v1<|wn<|bn g fun t0 h8 g=>?_;obtain ⟨R,rfl,h7⟩:=(n).get h8;refine va (Q R)<|wa (Q R)<|wn<|bn g fun j h9 g=>?_;obtain ⟨v10,X,U⟩:=Rel.open_place_Pen u h9 h7;refine vx (le1 0 fm (t.gon X 0 rfl))<|wn<|vr (B j.G.isNone) (by rcases (U).cs with ⟨d,e⟩|⟨b_,d,e⟩ <;> (subst d; rw [e]; kernel_rfl)) ?_;cases g;exact Kq j.G.isNone<|KB c0 ⟨t,rfl⟩
 rintro e_ w_ ⟨S,o0,_,rfl,i,rfl,o,rfl⟩;refine nrm<|cn H (fun Z H=>?_) (fun Z H=>?_)
 ·refine KE (.pointer none)<|KG<|thr ?_;cases H;exact KC S ⟨(.pointer none),G,o,u.m,(fq.refl _),rfl,rfl⟩
 refine KI<|KE v1 ?_;obtain ⟨f,rfl⟩:=((n.mono i)).form;refine va (.agg #[.pointer f,I 0,I 0,.int .u8 0,.int .u8 0,I 0,B false,I 0,I 0,I 0,B false,.pointer none])<|me (al 184 [.pointer f,I 0,I 0,.int .u8 0,.int .u8 0,I 0,B false,I 0,I 0,I 0,B false,.pointer none] o) ?_;rintro v24 m0 s ⟨a,rfl,A⟩;have D:=A.sD 1 [0];refine bn H fun y a0 H=>?_;obtain ⟨q,z,b0,u0,d0,M,p,q0,f0,N⟩:=Rel.new_feed_Feeder (E:=[(Eb a 184 [.pointer f,I 0,I 0,.int .u8 0,.int .u8 0,I 0,B false,I 0,I 0,I 0,B false,.pointer none])]) (F:=F) (x:=(⟨k,(⟨0,0,0,0,0⟩:bG),(⟨false,0,0,0,false⟩:bD),(none:Option Nat)⟩:bH)) (b:=a) D (u.mono (i.trans s)) (fun c_ hle_=>⟨a,(.pointer f),(.pointer none),rfl,rfl,(n.mono ((i.trans s).trans hle_)),rfl⟩);rw [bi a0] at p;refine WL.gh b0.1 ?_;have s0:=fq.nil (fq.refl _) f0;have P:=(fq.refl _).trans N;have g0:Pt 4 q (Q a) (some sg.feed_Feeder.length):=⟨a,rfl,d0⟩;refine va (Q a)<|KG ?_;cases H;exact KC q ⟨(Q a),z,M,p,P,rfl,g0⟩
def jP (p0:Int):Option Int:=
 (orE (decide (p0<0)) (some (decide (p0>13)))).bind fun a=>
 if a then
 some 0
 else
 some p0
theorem tR (d:Own c0 G F) (a:Int){r:Int}(H:jP a=some r): KP 309 #[I a] c0 fun c v=>Own c G F/\v=I r:=by
 unfold jP at H;refine en func309 rfl rfl<|KD 0<|KA<|W.seq<|bn H fun g h H=>W.join (Jn c0 fun c l=>Own c G F/\l= [(0,I a),(8,B g)]) ?_ ?_
 ·clear H;refine KF a<|Kr (a<0) ?_;rcases bo (decide (a<0)) with b|b
  ·obtain rfl:=orT b h;exact vb b<|pz<|Kq true<|KB c0 ⟨d,rfl⟩
  have j:=orF b h;refine vb b<|wa (I a)<|Ks (a>13) ?_;cases j;exact Kr (a>13)<|KB c0 ⟨d,rfl⟩
 rintro k o ⟨f,m,_,rfl,n,rfl,e,rfl⟩;refine nrm<|cn H (fun i H=>?_) (fun i H=>?_)
 ·refine KD 0<|KG<|thr ?_;cases H;exact KC f ⟨e,rfl⟩
 refine KI<|sr<|vv (I a)<|KG ?_;cases H;exact KC f ⟨e,rfl⟩
def mY (p0:Int):Option Bool:=
 if (p0==1)=true then
 some true
 else
 if (p0==2)=true then
 some true
 else
 if (p0==3)=true then
 some true
 else
 some false
theorem sH (b:Own c0 G F) (a:Int){r:Bool}(H:mY a=some r): KP 310 #[I a] c0 fun c v=>Own c G F/\v=B r:=by
 unfold mY at H;refine en func310 rfl rfl<|Ky false<|KA<|KD a<|wln<|W.block<|KM<|W.block<|W.block<|W.seq<|W.seq<|sr<|vv (B (a==1))<|KH H (fun d H=>?_) (fun d H=>?_)
 ·refine W.exit<|thx<|thx<|bke<|bkn<|KJ<|W.seq<|Ky true<|KG<|thr<|KL ?_;cases H;exact KC c0 ⟨b,rfl⟩
 refine KI<|W.seq<|sr<|vv (B (a==2))<|KH H (fun e H=>?_) (fun e H=>?_)
 ·refine W.exit<|thx<|thx<|bko rfl (bke<|KJ<|W.seq<|Ky true<|KG<|thr<|KL ?_);cases H;exact KC c0 ⟨b,rfl⟩
 refine KI<|sr<|vv (B (a==3))<|KH H (fun f H=>?_) (fun f H=>?_)
 ·refine W.exit<|thx<|bko rfl (bko rfl (KK<|W.seq<|Ky true<|KG<|thr<|KL ?_));cases H;exact KC c0 ⟨b,rfl⟩
 refine KI<|W.exit<|bko rfl (bko rfl (bko rfl (thx<|KK<|Ky false<|KG ?_)));cases H;exact KC c0 ⟨b,rfl⟩
def nT (p0:Int) (p1:Int):Option Bool:=
 if (p0==9)=true then
 (orE (p1==9) (some (p1==10))).bind fun a=>
 (orE a (some (p1==12))).bind fun b=>
 (orE b (some (p1==13))).bind fun c=>
 some c
 else
 (if (p0==12)=true then
 some (p0==12)
 else
 some (p0==10)).bind fun e=>
 if e then
 (orE (p1==10) (some (p1==11))).bind fun d=>
 some d
 else
 (if (p0==13)=true then
 some (p0==13)
 else
 some (p0==11)).bind fun f=>
 if f then
 some (p1==11)
 else
 some false
theorem vL (m:Own c0 G F) (b:Int) (a:Int){r:Bool}(H:nT b a=some r): KP 311 #[I b,I a] c0 fun c v=>Own c G F/\v=B r:=by
 unfold nT at H;refine en func311 rfl rfl<|Ky false<|KA<|KD b<|wln<|W.block<|sr<|vv (B (b==9))<|KH H (fun h1 H=>?_) (fun h1 H=>?_)
 ·refine W.seq<|bn H fun i0 Z H=>bn H fun j0 A H=>bn H fun x p H=>W.join (Jn c0 fun c l=>Own c G F/\l= [(4,B x)]) ?_ ?_
  ·clear H;refine KF a<|Kq (a==9) ?_;rcases bo (a==9) with n|n
   ·obtain rfl:=orT n Z;refine vb n<|pz<|Kq true ?_;have h6:true=true:=rfl;obtain rfl:=orT h6 A;refine vb h6<|pz<|Kq true ?_;have h7:true=true:=rfl;obtain rfl:=orT h7 p;exact vb h7<|pz<|vv (B true)<|KB c0 ⟨m,rfl⟩
   have H8:=orF n Z;refine vb n<|wa (I a)<|Kt (a==10) ?_;cases H8;refine Kq (a==10) ?_;rcases bo (a==10) with o|o
   ·obtain rfl:=orT o A;refine vb o<|pz<|Kq true ?_;have t:true=true:=rfl;obtain rfl:=orT t p;exact vb t<|pz<|vv (B true)<|KB c0 ⟨m,rfl⟩
   have N:=orF o A;refine vb o<|wa (I a)<|Kt (a==12) ?_;cases N;refine Kq (a==12) ?_;rcases bo (a==12) with i|i
   ·obtain rfl:=orT i p;exact vb i<|pz<|vv (B true)<|KB c0 ⟨m,rfl⟩
   have P:=orF i p;refine vb i<|wa (I a)<|Kt (a==13) ?_;cases P;exact vv (B (a==13))<|KB c0 ⟨m,rfl⟩
  rintro z D ⟨U,l0,_,rfl,s0,rfl,S,rfl⟩;refine nrm<|W.ret<|KL ?_;cases H;exact KC U ⟨S,rfl⟩
 refine bn H fun E f d=>W.seqJ (Jn c0 fun c l=>Own c G F/\l= [(1,I a),(5,I b),(22,B E)]) ?_ ?_
 ·refine sr<|vv (B (b==12))<|KH f (fun a0 f=>?_) (fun a0 f=>?_)
  ·refine KI ?_;cases f;exact jn c0 ⟨m,rfl⟩
  refine W.region<|vv (B (b==10))<|wln ?_;cases f;exact jn c0 ⟨m,rfl⟩
 rintro z D ⟨e,m0,_,rfl,t0,rfl,k,rfl⟩;refine cn d (fun b0 d=>?_) (fun b0 d=>?_)
 ·refine W.seq<|bn d fun y u d=>W.join (Jn e fun c l=>Own c G F/\l= [(4,B y)]) ?_ ?_
  ·clear d;refine KF a<|Kq (a==10) ?_;rcases bo (a==10) with j|j
   ·obtain rfl:=orT j u;exact vb j<|pz<|vv (B true)<|KB e ⟨k,rfl⟩
   have R:=orF j u;refine vb j<|wa (I a)<|Kt (a==11) ?_;cases R;exact vv (B (a==11))<|KB e ⟨k,rfl⟩
  rintro z D ⟨X,o0,_,rfl,u0,rfl,T,rfl⟩;refine nrm<|W.ret<|KL ?_;cases d;exact KC X ⟨T,rfl⟩
 refine bn d fun M g h=>W.seqJ (Jn e fun c l=>Own c G F/\l= [(1,I a),(31,B M)]) ?_ ?_
 ·refine sr<|vv (B (b==13))<|KH g (fun d0 g=>?_) (fun d0 g=>?_)
  ·refine KI ?_;cases g;exact jn e ⟨k,rfl⟩
  refine W.region<|vv (B (b==11))<|wln ?_;cases g;exact jn e ⟨k,rfl⟩
 rintro z D ⟨s,q0,_,rfl,v0,rfl,q,rfl⟩;refine cn h (fun e0 h=>?_) (fun e0 h=>?_)
 ·refine KD a<|vv (B (a==11))<|KG<|KL ?_;cases h;exact KC s ⟨q,rfl⟩
 refine W.skip<|KJ<|Ky false<|KG ?_;cases h;exact KC s ⟨q,rfl⟩
def dW (p0:Int) (p1:Int):Option Int:=
 (jP p0).bind fun b=>
 (jP p1).bind fun a=>
 (bL (b==1) (some (a==2))).bind fun e=>
 if e then
 some 1
 else
 (mY b).bind fun i=>
 (orE i ((mY a).bind fun j=>
 some j)).bind fun f=>
 if f then
 some 0
 else
 ((nT b a).bind fun d=>
 if d then
 some d
 else
 if (a==4)=true then
 some (a==4)
 else
 if (a==5)=true then
 some (a==5)
 else
 if (a==8)=true then
 some (a==8)
 else
 some (b==7)).bind fun k=>
 if k then
 some 1
 else
 ((bL (a==0) ((orE (b==5) (some (b==4))).bind fun g=>
 some g)).bind fun c=>
 if c then
 some c
 else
 (bL (b==6) (some (a==6))).bind fun h=>
 some h).bind fun l=>
 if l then
 some 2
 else
 some 0
theorem uS (O0:Own c0 G F) (E:Int) (M:Int){r:Int}(H:dW E M=some r): KP 269 #[I E,I M] c0 fun c v=>Own c G F/\v=I r:=by
 unfold dW at H;refine en func269 rfl rfl<|KD 0<|wln<|KD E<|bn H fun b h1 H=>cl (tR O0 E h1) ?_;rintro v7 c6 l6 ⟨O3,rfl⟩;refine Ku M<|bn H fun a h8 H=>cl (tR O3 M h8) ?_;rintro v14 y c2 ⟨N,rfl⟩;refine Ku b<|Ku a<|KA<|W.block<|W.seq<|bn H fun g0 a0 H=>W.join (Jn y fun c l=>Own c G F/\l= [(0,I b),(1,I a),(9,B g0)]) ?_ ?_
 ·clear H;refine KF b<|Kq (b==1) ?_;rcases bo (b==1) with k|k
  ·have q0:=anT k a0;refine vb k<|wa (I a)<|Kt (a==2) ?_;obtain rfl:=si q0;exact vv (B (a==2))<|KB y ⟨N,rfl⟩
  obtain rfl:=anF k a0;exact vb k<|pz<|vv (B false)<|KB y ⟨N,rfl⟩
 rintro z A ⟨U,v1,_,rfl,d2,rfl,P,rfl⟩;refine nrm<|cn H (fun z0 H=>?_) (fun z0 H=>?_)
 ·refine KD 1<|KG<|KL ?_;obtain rfl:=si H;exact KC U ⟨P,rfl⟩
 refine W.seq<|bn H fun k0 a1 H=>bn H fun h0 b0 H=>W.join (Jn U fun c l=>Own c G F/\l= [(0,I b),(1,I a),(16,B h0)]) ?_ ?_
 ·clear H;refine KF b<|cl (sH P b a1) ?_;rintro v32 w0 e2 ⟨R,rfl⟩;rcases bo k0 with m|m
  ·obtain rfl:=orT m b0;exact vb m<|pz<|vv (B true)<|KB w0 ⟨R,rfl⟩
  have u:=orF m b0;refine vb m<|wa (I a)<|wn<|bn u fun D b1 u=>cl (sH R a b1) ?_;rintro v41 x0 f2 ⟨u0,rfl⟩;obtain rfl:=si u;exact vv (B D)<|KB x0 ⟨u0,rfl⟩
 rintro z A ⟨X,w1,_,rfl,g2,rfl,S,rfl⟩;refine nrm<|cn H (fun c1 H=>?_) (fun c1 H=>?_)
 ·refine KD 0<|KG<|KL ?_;obtain rfl:=si H;exact KC X ⟨S,rfl⟩
 refine bn H fun m0 d g=>W.seqJ (Jn X fun c l=>Own c G F/\l= [(0,I b),(1,I a),(23,B m0)]) ?_ ?_
 ·refine KD b<|Ku a<|bn d fun l0 d1 d=>cl (vL S b a d1) ?_;rintro v57 j h2 ⟨i,rfl⟩;refine Kq l0<|KH d (fun e1 d=>?_) (fun e1 d=>?_)
  ·refine KI ?_;obtain rfl:=si d;exact jn j ⟨i,rfl⟩
  refine KD a<|vv (B (a==4))<|KH d (fun f1 d=>?_) (fun f1 d=>?_)
  ·refine KI ?_;obtain rfl:=si d;exact jn j ⟨i,rfl⟩
  refine KD a<|vv (B (a==5))<|KH d (fun g1 d=>?_) (fun g1 d=>?_)
  ·refine KI ?_;obtain rfl:=si d;exact jn j ⟨i,rfl⟩
  refine KD a<|vv (B (a==8))<|KH d (fun i1 d=>?_) (fun i1 d=>?_)
  ·refine KI ?_;obtain rfl:=si d;exact jn j ⟨i,rfl⟩
  refine KF b<|vv (B (b==7))<|wln ?_;obtain rfl:=si d;exact jn j ⟨i,rfl⟩
 rintro z A ⟨f,x1,_,rfl,i2,rfl,s,rfl⟩;refine cn g (fun j1 g=>?_) (fun j1 g=>?_)
 ·refine KD 1<|KG<|KL ?_;obtain rfl:=si g;exact KC f ⟨s,rfl⟩
 refine bn g fun o0 e h=>W.seqJ (Jn f fun c l=>Own c G F/\l= [(35,B o0)]) ?_ ?_
 ·refine W.seq<|bn e fun i0 d0 e=>W.join (Jn f fun c l=>Own c G F/\l= [(0,I b),(1,I a),(35,B i0)]) ?_ ?_
  ·clear e;refine KF a<|Kq (a==0) ?_;rcases bo (a==0) with n|n
   ·have q:=anT n d0;refine vb n<|wa (I b)<|Kt (b==5)<|wn<|bn q fun s1 e0 q=>?_;rcases bo (b==5) with o|o
    ·obtain rfl:=orT o e0;refine vb o<|pz<|Kt true ?_;obtain rfl:=si q;exact vv (B true)<|KB f ⟨s,rfl⟩
    have s0:=orF o e0;refine vb o<|wa (I b)<|Kt (b==4)<|wn ?_;obtain rfl:=si s0;refine Kq (b==4) ?_;obtain rfl:=si q;exact vv (B (b==4))<|KB f ⟨s,rfl⟩
   obtain rfl:=anF n d0;exact vb n<|pz<|pz<|pz<|vv (B false)<|KB f ⟨s,rfl⟩
  rintro z A ⟨t,y1,_,rfl,j2,rfl,x,rfl⟩;refine nrm<|cn e (fun k1 e=>?_) (fun k1 e=>?_)
  ·refine KI ?_;obtain rfl:=si e;exact jn t ⟨x,rfl⟩
  refine bn e fun j0 f0 e=>W.join (Jn t fun c l=>Own c G F/\l= [(35,B j0)]) ?_ ?_
  ·clear e;refine KF b<|Kq (b==6) ?_;rcases bo (b==6) with p|p
   ·have t0:=anT p f0;refine vb p<|wa (I a)<|Kt (a==6) ?_;obtain rfl:=si t0;exact vv (B (a==6))<|KB t ⟨x,rfl⟩
   obtain rfl:=anF p f0;exact vb p<|pz<|vv (B false)<|KB t ⟨x,rfl⟩
  rintro z A ⟨y0,z1,_,rfl,k2,rfl,v0,rfl⟩;refine nrm ?_;obtain rfl:=si e;exact jn y0 ⟨v0,rfl⟩
 rintro z A ⟨Z,b2,_,rfl,l2,rfl,T,rfl⟩;refine cn h (fun m1 h=>?_) (fun m1 h=>?_)
 ·refine KD 2<|KG<|KL ?_;obtain rfl:=si h;exact KC Z ⟨T,rfl⟩
 refine W.skip<|KJ<|KD 0<|KG ?_;obtain rfl:=si h;exact KC Z ⟨T,rfl⟩
def dV (p0:bD):Option bD:=
 if true then
 some (⟨false,0,0,0,false⟩:bD)
 else
 some p0
theorem np {a:Nat}{r0_0:Value}{r0_1:Value}{r0_2:Value}{r0_3:Value}{r0_4:Value}{r0_5:Value}{r0_11:Value}(b:bD) (e:Own c0 G ((Eb a 184 [r0_0,r0_1,r0_2,r0_3,r0_4,r0_5,B b.some,I b.last,I b.pict,I b.conj,B b.odd,r0_11])::F)){r:bD}(H:dV b=some r):
   KP 168 #[.pointer (some ⟨a,6,none⟩)] c0 fun c v=>Own c G ((Eb a 184 [r0_0,r0_1,r0_2,r0_3,r0_4,r0_5,B r.some,I r.last,I r.pict,I r.conj,B r.odd,r0_11])::F)/\v= .tuple #[]:=by
 unfold dV at H
 refine en func168 rfl rfl<|sr<|Kw a 6<|Kq true<|wln<|W.cond (t:=true) (by kernel_rfl) (fun d=>?_) (fun d=>?_)
 ·have H:=it d H
  refine W.region<|Kw a 6<|va (.agg #[B false,I 0,I 0,I 0,B false])<|Kw a 6<|md (sB 181 6 [B false,I 0,I 0,I 0,B false] [r0_0,r0_1,r0_2,r0_3,r0_4,r0_5,B false,I 0,I 0,I 0,B false,r0_11] 0 e ⟨rfl,rfl,rfl,rfl,rfl,trivial⟩) ?_
  rintro g h f
  refine WL.nil ?_
  cases H
  exact n0<|qq g ⟨f,rfl⟩
 cases d
def dv (sg:Sto) (p0:Option Nat):Option Sto:=
 if (!p0.isNone)=true then
 (p0).bind fun c=>
 (sg.feed_Feeder[c]?).bind fun a=>
 (sg.set_feed_Feeder c (⟨a.pen,a.dec,a.seg,(none:Option Nat)⟩:bH)).bind fun d=>
 (dV a.seg).bind fun e=>
 (d.set_feed_Feeder c (⟨a.pen,a.dec,e,(none:Option Nat)⟩:bH)).bind fun b=>
 some b
 else
 some sg
theorem jV (n:Own c0 G F) (i:Rel c0 sg G) (k:Option Nat){r:Sto}(M:Pt 4 c0 v1 k) (H:dv sg k=some r): KP 109 #[v1] c0 fun c v=>∃G_:Gm,Own c G_ F/\Rel c r G_/\v= .tuple #[]:=by
 unfold dv at H;refine en func109 rfl rfl<|KE v1<|vr (B (!k.isNone)) (by rcases (M).cs with ⟨f,g⟩|⟨b_,f,g⟩ <;> (subst f; rw [g]; kernel_rfl))<|KH H (fun T H=>?_) (fun T H=>?_)
 ·refine KE v1<|bn H fun g0 U H=>?_;obtain ⟨d,rfl,j⟩:=(M).get U;refine va (Q d)<|Kw d 11<|bn H fun a X H=>?_;obtain ⟨v8,v10,A,R,e0⟩:=Rel.open_feed_Feeder i X j;refine md (gC 182 11 (.pointer none) [v8,I a.dec.held,I a.dec.needs,.int .u8 a.dec.lo,.int .u8 a.dec.hi,I a.dec.bits,B a.seg.some,I a.seg.last,I a.seg.pict,I a.seg.conj,B a.seg.odd,.pointer none] 0 n A ⟨rfl,trivial⟩) ?_;rintro d0 e o;refine bn H fun S E H=>?_;obtain ⟨Z,p,x,D,a0⟩:=Rel.put_feed_Feeder o (i.mono e) (E':=[(Eb d 184 [v8,I a.dec.held,I a.dec.needs,.int .u8 a.dec.lo,.int .u8 a.dec.hi,I a.dec.bits,B a.seg.some,I a.seg.last,I a.seg.pict,I a.seg.conj,B a.seg.odd,.pointer none])]) E ⟨d,v8,(.pointer none),(tm j),rfl,(R.mono e),rfl⟩;refine wln<|W.region<|vv (Q d)<|Kw d 6 ?_;have q:=p.borrow 0 D rfl;refine bn H fun b N H=>cl (np a.seg q N) ?_;rintro v29 z h ⟨s,rfl⟩;have t:=s.giveB 0 rfl;refine bn H fun l P H=>?_;obtain ⟨m,u,y,f0,b0⟩:=Rel.put_feed_Feeder t (x.mono h) (E':=[(Eb d 184 [v8,I a.dec.held,I a.dec.needs,.int .u8 a.dec.lo,.int .u8 a.dec.hi,I a.dec.bits,B b.some,I b.last,I b.pict,I b.conj,B b.odd,.pointer none])]) P ⟨d,v8,(.pointer none),(tm j),rfl,(R.mono (e.trans h)),rfl⟩;refine WL.nil ?_;cases H;exact n0<|qq z ⟨m,u,y,rfl⟩
 refine W.skip ?_;cases H;exact n0<|qq c0 ⟨G,n,i,rfl⟩
def dq (p0:bD) (p1:ax):Option Bool:=
 if (!p0.some)=true then
 some false
 else
 ((bL (p1.Conj==1) (some (p0.conj==2))).bind fun a=>
 if a then
 some a
 else
 (bL p1.Pict (some (p0.pict==2))).bind fun c=>
 some c).bind fun e=>
 if e then
 some true
 else
 (dW p0.last p1.Break).bind fun b=>
 if (b==1)=true then
 some true
 else
 if (b==2)=true then
 (bL (p0.last==6) (some p0.odd)).bind fun d=>
 some d
 else
 some false
theorem nn {b:Nat}{r0_0:Value}{r0_1:Value}{r0_2:Value}{r0_3:Value}{r0_4:Value}{r0_5:Value}{r0_11:Value}(a:bD) (e:ax) (O0:Own c0 G ((Eb b 184 [r0_0,r0_1,r0_2,r0_3,r0_4,r0_5,B a.some,I a.last,I a.pict,I a.conj,B a.odd,r0_11])::F)){r:Bool}(H:dq a e=some r): KP 224 #[.pointer (some ⟨b,6,none⟩),.agg #[I e.Break,B e.Pict,I e.Conj,I e.East]] c0 fun c v=>Own c G ((Eb b 184 [r0_0,r0_1,r0_2,r0_3,r0_4,r0_5,B a.some,I a.last,I a.pict,I a.conj,B a.odd,r0_11])::F)/\v=B r:=by
 unfold dq at H;refine en func224 rfl rfl<|sr<|me (bx 238 [I e.Break,B e.Pict,I e.Conj,I e.East] O0) ?_;rintro v5 s l4 ⟨p,rfl,q,M⟩;refine Kq false<|KA<|sr<|vv (Qo b 6)<|Kw b 6<|vx (le1 6 u_4 (q.on 0 rfl))<|Kq (!a.some)<|KH H (fun h6 H=>?_) (fun h6 H=>?_)
 ·refine Ky false<|KG<|thr ?_;cases H;exact KC s ⟨q,rfl⟩
 refine KI<|KM<|bn H fun P f d=>W.seqJ (Jn s fun c l=>Own c G ((Eb b 184 [r0_0,r0_1,r0_2,r0_3,r0_4,r0_5,B a.some,I a.last,I a.pict,I a.conj,B a.odd,r0_11])::F)/\l= [(0,.pointer (some ⟨b,6,none⟩)),(3,Q p),(10,B P)]) ?_ ?_
 ·refine W.seq<|bn f fun z h9 f=>W.join (Jn s fun c l=>Own c G ((Eb b 184 [r0_0,r0_1,r0_2,r0_3,r0_4,r0_5,B a.some,I a.last,I a.pict,I a.conj,B a.odd,r0_11])::F)/\l= [(0,.pointer (some ⟨b,6,none⟩)),(3,Q p),(10,B z)]) ?_ ?_
  ·clear f;refine W.region<|Kw p (0+2)<|vx (l1 u_3 (M 2 _ rfl))<|Kq (e.Conj==1) ?_;rcases bo (e.Conj==1) with j|j
   ·have R:=anT j h9;refine vb j<|wa (Qo b 6)<|wa (Qo b 6)<|wa (Qo b 9)<|wn<|vx (le1 9 u_3 (q.on 0 rfl))<|Kt (a.conj==2) ?_;cases R;exact vv (B (a.conj==2))<|KB s ⟨q,rfl⟩
   obtain rfl:=anF j h9;exact vb j<|pz<|pz<|ps<|vv (B false)<|KB s ⟨q,rfl⟩
  rintro E N ⟨o,u0,_,rfl,y0,rfl,n,rfl⟩;refine nrm<|cn f (fun e0 f=>?_) (fun e0 f=>?_)
  ·refine KI ?_;cases f;exact jn o ⟨n,rfl⟩
  refine bn f fun A x f=>W.join (Jn o fun c l=>Own c G ((Eb b 184 [r0_0,r0_1,r0_2,r0_3,r0_4,r0_5,B a.some,I a.last,I a.pict,I a.conj,B a.odd,r0_11])::F)/\l= [(0,.pointer (some ⟨b,6,none⟩)),(3,Q p),(10,B A)]) ?_ ?_
  ·clear f;refine W.region<|Kw p (0+1)<|vx (l1 u_4 ((mm M) 1 _ rfl)) ?_;rcases bo e.Pict with k|k
   ·have S:=anT k x;refine vb k<|wa (Qo b 6)<|wa (Qo b 6)<|wa (Qo b 8)<|wn<|vx (le1 8 u_3 (n.on 0 rfl))<|Kt (a.pict==2) ?_;cases S;exact vv (B (a.pict==2))<|KB o ⟨n,rfl⟩
   obtain rfl:=anF k x;exact vb k<|pz<|pz<|ps<|vv (B false)<|KB o ⟨n,rfl⟩
  rintro E N ⟨Z,v0,_,rfl,z0,rfl,U,rfl⟩;refine nrm ?_;cases f;exact jn Z ⟨U,rfl⟩
 rintro E N ⟨a0,w0,_,rfl,a1,rfl,t,rfl⟩;refine cn d (fun f0 d=>?_) (fun f0 d=>?_)
 ·refine Ky true<|KG<|KL ?_;cases d;exact KC a0 ⟨t,rfl⟩
 refine W.skip<|KJ<|W.seq<|W.seq<|rD [] (Kp G0 [(Eb b 184 [r0_0,r0_1,r0_2,r0_3,r0_4,r0_5,B a.some,I a.last,I a.pict,I a.conj,B a.odd,r0_11])]) t ?_;intro b0 c1 u;have l0:=(Kp.cons (u.on 0 rfl) Kp.nil0);refine ta 0 (.pointer (some ⟨b,6,none⟩))<|ta 1 (Qo b 6)<|ta 2 (Qo b 7)<|tkx 3 l0 (fun c' k0 hk=>le1 7 u_3 (hk.on 0 rfl)) (ta 4 (Q p)<|tx 5 (fun c' k0=>l1 u_3 ((mm M) 0 _ rfl))<|bn d fun i g0 d=>o1 6 (gc 6 (uS u a.last e.Break g0) ?_));rintro v44 h d1 ⟨g,rfl⟩;have m0:=(Kp.cons (g.on 0 rfl) Kp.nil0);refine ⟨.inr m0,dn (nrm<|W.block<|sr<|vv (B (i==1))<|KH d (fun h0 d=>?_) (fun h0 d=>?_))⟩
 ·refine Ky true<|KG<|KL ?_;cases d;exact KC h ⟨g,rfl⟩
 refine sr<|vv (B (i==2))<|KH d (fun i0 d=>?_) (fun i0 d=>?_)
 ·refine W.seq<|bn d fun D y d=>W.join (Jn h fun c l=>Own c G ((Eb b 184 [r0_0,r0_1,r0_2,r0_3,r0_4,r0_5,B a.some,I a.last,I a.pict,I a.conj,B a.odd,r0_11])::F)/\l= [(4,B D)]) ?_ ?_
  ·clear d;refine W.region<|vv (Qo b 6)<|Kw b 7<|vx (le1 7 u_3 (g.on 0 rfl))<|Kq (a.last==6) ?_;rcases bo (a.last==6) with m|m
   ·have T:=anT m y;refine vb m<|wa (Qo b 6)<|wa (Qo b 6)<|wa (Qo b 10)<|wn<|vx (le1 10 u_4 (g.on 0 rfl)) ?_;cases T;exact vv (B a.odd)<|KB h ⟨g,rfl⟩
   obtain rfl:=anF m y;exact vb m<|pz<|pz<|vv (B false)<|KB h ⟨g,rfl⟩
  rintro E N ⟨d0,x0,_,rfl,e1,rfl,X,rfl⟩;refine nrm<|W.ret<|KL ?_;cases d;exact KC d0 ⟨X,rfl⟩
 refine W.skip<|KJ<|Ky false<|KG ?_;cases d;exact KC h ⟨g,rfl⟩
def da (p0:bD) (p1:ax):Option Int:=
 if p1.Pict then
 some 1
 else
 (bL (p0.pict==1) (some (p1.Break==4))).bind fun a=>
 if a then
 some 1
 else
 (bL (p0.pict==1) (some (p1.Break==5))).bind fun b=>
 if b then
 some 2
 else
 some 0
theorem mK {b:Nat}{r0_0:Value}{r0_1:Value}{r0_2:Value}{r0_3:Value}{r0_4:Value}{r0_5:Value}{r0_11:Value}(a:bD) (d:ax) (A:Own c0 G ((Eb b 184 [r0_0,r0_1,r0_2,r0_3,r0_4,r0_5,B a.some,I a.last,I a.pict,I a.conj,B a.odd,r0_11])::F)){r:Int}(H:da a d=some r): KP 225 #[.pointer (some ⟨b,6,none⟩),.agg #[I d.Break,B d.Pict,I d.Conj,I d.East]] c0 fun c v=>Own c G ((Eb b 184 [r0_0,r0_1,r0_2,r0_3,r0_4,r0_5,B a.some,I a.last,I a.pict,I a.conj,B a.odd,r0_11])::F)/\v=I r:=by
 unfold da at H;refine en func225 rfl rfl<|sr<|me (bx 238 [I d.Break,B d.Pict,I d.Conj,I d.East] A) ?_;rintro v5 k T ⟨j,rfl,i,s⟩;refine Ku 0<|KA<|W.block<|sr<|Kw j (0+1)<|vx (l1 u_4 (s 1 _ rfl))<|Kq d.Pict<|KH H (fun E H=>?_) (fun E H=>?_)
 ·refine KD 1<|KG<|KL ?_;cases H;exact KC k ⟨i,rfl⟩
 refine W.seq<|bn H fun p y H=>W.join (Jn k fun c l=>Own c G ((Eb b 184 [r0_0,r0_1,r0_2,r0_3,r0_4,r0_5,B a.some,I a.last,I a.pict,I a.conj,B a.odd,r0_11])::F)/\l= [(0,.pointer (some ⟨b,6,none⟩)),(3,Q j),(8,B p)]) ?_ ?_
 ·clear H;refine W.region<|vv (Qo b 6)<|Kw b 8<|vx (le1 8 u_3 (i.on 0 rfl))<|Kq (a.pict==1) ?_;rcases bo (a.pict==1) with h|h
  ·have z:=anT h y;refine vb h<|wa (Q j)<|wn<|vx (l1 u_3 (s 0 _ rfl))<|Kt (d.Break==4) ?_;cases z;exact vv (B (d.Break==4))<|KB k ⟨i,rfl⟩
  obtain rfl:=anF h y;exact vb h<|pz<|ps<|vv (B false)<|KB k ⟨i,rfl⟩
 rintro D M ⟨g,N,_,rfl,R,rfl,f,rfl⟩;refine nrm<|cn H (fun u H=>?_) (fun u H=>?_)
 ·refine KD 1<|KG<|KL ?_;cases H;exact KC g ⟨f,rfl⟩
 refine W.seq<|bn H fun q o H=>W.join (Jn g fun c l=>Own c G ((Eb b 184 [r0_0,r0_1,r0_2,r0_3,r0_4,r0_5,B a.some,I a.last,I a.pict,I a.conj,B a.odd,r0_11])::F)/\l= [(19,B q)]) ?_ ?_
 ·clear H;refine W.region<|vv (Qo b 6)<|Kw b 8<|vx (le1 8 u_3 (f.on 0 rfl))<|Kq (a.pict==1) ?_;rcases bo (a.pict==1) with e|e
  ·have t:=anT e o;refine vb e<|wa (Q j)<|wn<|vx (l1 u_3 ((mm s) 0 _ rfl))<|Kt (d.Break==5) ?_;cases t;exact vv (B (d.Break==5))<|KB g ⟨f,rfl⟩
  obtain rfl:=anF e o;exact vb e<|pz<|ps<|vv (B false)<|KB g ⟨f,rfl⟩
 rintro D M ⟨n,P,_,rfl,S,rfl,m,rfl⟩;refine nrm<|cn H (fun x H=>?_) (fun x H=>?_)
 ·refine KD 2<|KG<|KL ?_;cases H;exact KC n ⟨m,rfl⟩
 refine W.skip<|KJ<|KD 0<|KG ?_;cases H;exact KC n ⟨m,rfl⟩
def cW (p0:bD) (p1:ax):Option Int:=
 if (p1.Conj==1)=true then
 some 1
 else
 if (p0.conj==0)=true then
 some 0
 else
 if (p1.Conj==2)=true then
 some 2
 else
 if (p1.Conj==3)=true then
 some p0.conj
 else
 some 0
theorem my {b:Nat}{r0_0:Value}{r0_1:Value}{r0_2:Value}{r0_3:Value}{r0_4:Value}{r0_5:Value}{r0_11:Value}(d:bD) (a:ax) (i:Own c0 G ((Eb b 184 [r0_0,r0_1,r0_2,r0_3,r0_4,r0_5,B d.some,I d.last,I d.pict,I d.conj,B d.odd,r0_11])::F)){r:Int}(H:cW d a=some r): KP 226 #[.pointer (some ⟨b,6,none⟩),.agg #[I a.Break,B a.Pict,I a.Conj,I a.East]] c0 fun c v=>Own c G ((Eb b 184 [r0_0,r0_1,r0_2,r0_3,r0_4,r0_5,B d.some,I d.last,I d.pict,I d.conj,B d.odd,r0_11])::F)/\v=I r:=by
 unfold cW at H;refine en func226 rfl rfl<|sr<|me (bx 238 [I a.Break,B a.Pict,I a.Conj,I a.East] i) ?_;rintro v5 f n ⟨g,rfl,e,h⟩;refine Ku 0<|KA<|W.block<|sr<|Kw g (0+2)<|vx (l1 u_3 (h 2 _ rfl))<|vv (B (a.Conj==1))<|KH H (fun j H=>?_) (fun j H=>?_)
 ·refine KD 1<|KG<|KL ?_;cases H;exact KC f ⟨e,rfl⟩
 refine sr<|vv (Qo b 6)<|Kw b 9<|vx (le1 9 u_3 (e.on 0 rfl))<|vv (B (d.conj==0))<|KH H (fun k H=>?_) (fun k H=>?_)
 ·refine KD 0<|KG<|KL ?_;cases H;exact KC f ⟨e,rfl⟩
 refine sr<|Kw g (0+2)<|vx (l1 u_3 (h 2 _ rfl))<|vv (B (a.Conj==2))<|KH H (fun l H=>?_) (fun l H=>?_)
 ·refine KD 2<|KG<|KL ?_;cases H;exact KC f ⟨e,rfl⟩
 refine sr<|Kw g (0+2)<|vx (l1 u_3 (h 2 _ rfl))<|vv (B (a.Conj==3))<|KH H (fun m H=>?_) (fun m H=>?_)
 ·refine sr<|vv (Qo b 6)<|Kw b 9<|vx (le1 9 u_3 (e.on 0 rfl))<|Ku d.conj<|KG<|KL ?_;cases H;exact KC f ⟨e,rfl⟩
 refine W.skip<|KJ<|KD 0<|KG ?_;cases H;exact KC f ⟨e,rfl⟩
def cU (p0:bD) (p1:ax):Option (bD×Bool):=
 if false then
 some (p0,false)
 else
 (dq p0 p1).bind fun d=>
 (da p0 p1).bind fun e=>
 (cW p0 p1).bind fun f=>
 (bL (p1.Break==6) ((bL p0.some (some (p0.last==6))).bind fun b=>
 (bL b (some p0.odd)).bind fun c=>
 some (!c))).bind fun a=>
 some ((⟨true,p1.Break,e,f,a⟩:bD),d)
theorem nG {a:Nat}{r0_0:Value}{r0_1:Value}{r0_2:Value}{r0_3:Value}{r0_4:Value}{r0_5:Value}{r0_11:Value}(b:bD) (f:ax) (O0:Own c0 G ((Eb a 184 [r0_0,r0_1,r0_2,r0_3,r0_4,r0_5,B b.some,I b.last,I b.pict,I b.conj,B b.odd,r0_11])::F)){r:bD×Bool}(H:cU b f=some r): KP 173 #[.pointer (some ⟨a,6,none⟩),.agg #[I f.Break,B f.Pict,I f.Conj,I f.East]] c0 fun c v=>Own c G ((Eb a 184 [r0_0,r0_1,r0_2,r0_3,r0_4,r0_5,B r.1.some,I r.1.last,I r.1.pict,I r.1.conj,B r.1.odd,r0_11])::F)/\v=B r.2:=by
 unfold cU at H;refine en func173 rfl rfl<|sr<|me (bx 238 [I f.Break,B f.Pict,I f.Conj,I f.East] O0) ?_;rintro v5 c4 l4 ⟨A,rfl,O2,o⟩;refine Kq false<|KA<|sr<|Kw a 6<|Kq false<|wln<|W.cond (t:=false) (by kernel_rfl) (fun E=>?_) (fun E=>?_)
 ·cases E
 have H:=ie E H;refine KI<|sr<|Kw a 6<|vx (lN 238 o)<|bn H fun i h8 H=>cl (nn b f O2 h8) ?_;rintro v14 j1 n1 ⟨P,rfl⟩;refine Kq i<|KA<|rD [] (Kp G0 []) P ?_;intro i0 q1 R;have f2:Kp G0 [] i0:=Kp.nil0;refine ta 0 (.pointer (some ⟨a,6,none⟩))<|ta 1 (Qo a 6)<|ta 2 (Qo a 6)<|tx 3 (fun c' z=>lN 238 (mm o))<|ta 5 (Qo a 6)<|tx 6 (fun c' z=>lN 238 (mm o))<|bn H fun d v0 H=>o1 4 (gc 4 (mK b f R v0) ?_);rintro v25 j0 s1 ⟨S,rfl⟩;have y0:Kp G0 [] j0:=Kp.nil0;refine ⟨.inr y0,bn H fun e w0 H=>o1 7 (gc 7 (my b f S w0) ?_)⟩;rintro v34 k0 t1 ⟨T,rfl⟩;have z0:Kp G0 [] k0:=Kp.nil0;refine ⟨.inr z0,ta 8 (.pointer (some ⟨a,6,none⟩)) (ta 9 (Qo a 8)<|o1 10 (gD 10 (sC 3 8 (I d) [r0_0,r0_1,r0_2,r0_3,r0_4,r0_5,B b.some,I b.last,I d,I b.conj,B b.odd,r0_11] 0 T ⟨rfl,trivial⟩) ?_))⟩;rintro l0 u1 U;have a1:Kp G0 [] l0:=Kp.nil0;refine ⟨.inr a1,ta 11 (.pointer (some ⟨a,6,none⟩)) (ta 12 (Qo a 9)<|o1 13 (gD 13 (sC 3 9 (I e) [r0_0,r0_1,r0_2,r0_3,r0_4,r0_5,B b.some,I b.last,I d,I e,B b.odd,r0_11] 0 U ⟨rfl,trivial⟩) ?_))⟩;rintro p v1 h;have c1:Kp G0 [] p:=Kp.nil0;refine ⟨.inr c1,dn (nrm<|W.seq<|bn H fun n s H=>W.join (Jn p fun c l=>Own c G ((Eb a 184 [r0_0,r0_1,r0_2,r0_3,r0_4,r0_5,B b.some,I b.last,I d,I e,B n,r0_11])::F)/\l= [(0,.pointer (some ⟨a,6,none⟩)),(3,Q A),(5,B i)]) ?_ ?_)⟩
 ·clear H;refine W.region<|Kw a 6<|va (Q A)<|vx (l1 u_3 ((mm o) 0 _ rfl))<|Kq (f.Break==6) ?_;rcases bo (f.Break==6) with j|j
  ·have g:=anT j s;refine vb j<|wa (Qo a 6)<|wa (Qo a 6)<|wa (Qo a 6)<|wn<|vx (le1 6 u_4 (h.on 0 rfl))<|wn<|bn g fun h1 u g=>?_;rcases bo b.some with k|k
   ·have M:=anT k u;refine vb k<|wa (Qo a 6)<|wa (Qo a 6)<|wa (Qo a 7)<|wn<|vx (le1 7 u_3 (h.on 0 rfl))<|Kt (b.last==6)<|wn ?_;cases M;refine Kq (b.last==6)<|wn<|bn g fun D x g=>?_;rcases bo (b.last==6) with m|m
    ·have N:=anT m x;refine vb m<|wa (Qo a 6)<|wa (Qo a 6)<|wa (Qo a 10)<|wn<|vx (le1 10 u_4 (h.on 0 rfl))<|wn ?_;cases N;refine Kq b.odd<|Kt (!b.odd) ?_;cases g;refine Kq (!b.odd)<|Kw a 6<|Kw a 10<|md (sC 4 10 (B (!b.odd)) [r0_0,r0_1,r0_2,r0_3,r0_4,r0_5,B b.some,I b.last,I d,I e,B (!b.odd),r0_11] 0 h ⟨rfl,trivial⟩) ?_;rintro m0 w1 X;exact KB m0 ⟨X,rfl⟩
    obtain rfl:=anF m x;refine vb m<|pz<|pz<|Kt false<|Kt (!false) ?_;cases g;refine Kq (!false)<|Kw a 6<|Kw a 10<|md (sC 4 10 (B (!false)) [r0_0,r0_1,r0_2,r0_3,r0_4,r0_5,B b.some,I b.last,I d,I e,B (!false),r0_11] 0 h ⟨rfl,trivial⟩) ?_;rintro o0 x1 Z;exact KB o0 ⟨Z,rfl⟩
   obtain rfl:=anF k u;refine vb k<|pz<|pz<|ps<|Kt false<|wn<|bn g fun D x0 g=>?_;have y:false=false:=rfl;obtain rfl:=anF y x0;refine vb y<|pz<|pz<|Kt false<|Kt (!false) ?_;cases g;refine Kq (!false)<|Kw a 6<|Kw a 10<|md (sC 4 10 (B (!false)) [r0_0,r0_1,r0_2,r0_3,r0_4,r0_5,B b.some,I b.last,I d,I e,B (!false),r0_11] 0 h ⟨rfl,trivial⟩) ?_;rintro q0 y1 a0;exact KB q0 ⟨a0,rfl⟩
  obtain rfl:=anF j s;refine vb j<|pz<|pz<|pz<|pz<|pz<|pz<|pz<|pz<|pz<|Kq false<|Kw a 6<|Kw a 10<|md (sC 4 10 (B false) [r0_0,r0_1,r0_2,r0_3,r0_4,r0_5,B b.some,I b.last,I d,I e,B false,r0_11] 0 h ⟨rfl,trivial⟩) ?_;rintro s0 z1 b0;exact KB s0 ⟨b0,rfl⟩
 rintro e_ w_ ⟨k1,m1,_,rfl,b2,rfl,d0,rfl⟩;refine nrm<|W.seq<|rD [] (Kp G0 []) d0 ?_;intro t0 c2 e0;have g2:Kp G0 [] t0:=Kp.nil0;refine ta 0 (.pointer (some ⟨a,6,none⟩))<|ta 1 (Qo a 6)<|ta 2 (Q A)<|tx 3 (fun c' z=>l1 u_3 ((mm o) 0 _ rfl))<|ta 4 (Qo a 6)<|ta 5 (Qo a 6)<|o1 6 (gD 6 (sC 4 6 (B true) [r0_0,r0_1,r0_2,r0_3,r0_4,r0_5,B true,I b.last,I d,I e,B n,r0_11] 0 e0 ⟨rfl,trivial⟩) ?_);rintro u0 d2 f0;have d1:Kp G0 [] u0:=Kp.nil0;refine ⟨.inr d1,ta 7 (.pointer (some ⟨a,6,none⟩)) (ta 8 (Qo a 7)<|o1 9 (gD 9 (sC 3 7 (I f.Break) [r0_0,r0_1,r0_2,r0_3,r0_4,r0_5,B true,I f.Break,I d,I e,B n,r0_11] 0 f0 ⟨rfl,trivial⟩) ?_))⟩;rintro q e2 g0;have e1:Kp G0 [] q:=Kp.nil0;refine ⟨.inr e1,dn (nrm<|sr<|vv (B i)<|KG ?_)⟩;cases H;exact KC q ⟨g0,rfl⟩
def iC (sg:Sto) (p0:Option Nat) (p1:Int):Option Sto:=
 (jc p1).bind fun s=>
 if s then
 (dv sg p0).bind fun k=>
 (p0).bind fun r=>
 (k.feed_Feeder[r]?).bind fun n=>
 (oV k n.pen p1).bind fun p=>
 some p.1
 else
 (pa p1).bind fun e=>
 (p0).bind fun h=>
 (sg.feed_Feeder[h]?).bind fun a=>
 (cU a.seg e).bind fun j=>
 (sg.set_feed_Feeder h (⟨a.pen,a.dec,j.1,a.open_⟩:bH)).bind fun b=>
 (bL j.2 (some (!a.open_.isNone))).bind fun l=>
 if l then
 (p0).bind fun m=>
 (b.feed_Feeder[m]?).bind fun i=>
 (ei b i.open_ i.pen p1 e).bind fun q=>
 some q.1
 else
 (p0).bind fun c=>
 (b.feed_Feeder[c]?).bind fun o=>
 (mp b o.pen p1 e).bind fun f=>
 (f.1.feed_Feeder[c]?).bind fun d=>
 (f.1.set_feed_Feeder c (⟨d.pen,d.dec,d.seg,f.2⟩:bH)).bind fun g=>
 some g
theorem tH (O0:Own c0 G F) (R0:Rel c0 sg G) (hG:Gl [2,4] c0) (p0:Option Nat) (f:Int){r:Sto}(U:Pt 4 c0 v1 p0) (H:iC sg p0 f=some r): KP 221 #[v1,J f] c0 fun c v=>∃G_:Gm,Own c G_ F/\Rel c r G_/\v= .tuple #[]:=by
 unfold iC at H;refine en func221 rfl rfl<|W.seq<|KE (J f)<|bn H fun f5 h3 H=>cl (pv O0 f h3) ?_;rintro v9 c8 N ⟨O5,rfl⟩;refine KH H (fun x2 H=>?_) (fun x2 H=>?_)
 ·refine KE v1<|bn H fun g5 y2 H=>cl (jV O5 R0.m p0 U.m y2) ?_;rintro v17 u4 l16 ⟨s4,g0,j0,rfl⟩;refine wln<|KE v1<|bn H fun a5 a3 H=>?_;obtain ⟨l0,rfl,z2⟩:=((U.mono (N.trans l16))).get a3;refine vv (Q l0)<|bn H fun z1 b3 H=>?_;obtain ⟨v22,v24,d3,c3,z4⟩:=Rel.open_feed_Feeder j0 b3 z2;refine vx (le1 0 tK (g0.gon d3 0 rfl))<|va (J f)<|bn H fun p4 e3 H=>cl (yE g0 j0 z1.pen f c3 e3) ?_;rintro v33 t2 b5 ⟨e2,i2,s2,rfl⟩;refine KG<|thr ?_;cases H;exact r0<|qq t2 ⟨e2,i2,s2,rfl⟩
 refine KI<|KE (J f)<|bn H fun a f3 H=>cl (xr O5 f f3) ?_;rintro v40 v4 s ⟨j2,rfl⟩;refine me (al 238 [I 0,B false,I 0,I 0] j2) ?_;rintro v44 w4 t ⟨h,rfl,k2⟩;refine md (sA 238 [I a.Break,B a.Pict,I a.Conj,I a.East] 0 k2 ⟨rfl,rfl,rfl,rfl,trivial⟩) ?_;rintro u2 u l2;refine KA<|W.seq<|bn H fun f4 g3 H=>bn H fun d i3 H=>bn H fun g j3 H=>bn H fun P k3 H=>bn H fun k1 s0 H=>W.join (Jn u2 fun c l=>∃G_,Own c G_ ((Eb h 238 [I a.Break,B a.Pict,I a.Conj,I a.East])::F)/\l= [(0,v1),(1,J f),(4,Q h),(28,B k1)]/\Rel c P G_) ?_ ?_
 ·clear H;refine rD [4,9] (Kp G0 [(Eb h 238 [I a.Break,B a.Pict,I a.Conj,I a.East])]) l2 ?_;intro v2 Z h0;have w3:=(Kp.cons (h0.on 0 rfl) Kp.nil0);refine ta 0 v1 ?_;obtain ⟨j,rfl,t0⟩:=((U.mono (N.trans (s.trans (t.trans (u.trans Z)))))).get g3;refine ta 1 (Q j)<|ta 2 (Qo j 6)<|tkx 3 w3 (fun p i k=>leN 238 0 [I a.Break,B a.Pict,I a.Conj,I a.East] (k.on 0 rfl)) ?_;obtain ⟨v57,v59,m3,l3,u0⟩:=Rel.open_feed_Feeder (R0.mono (N.trans (s.trans (t.trans (u.trans Z))))) i3 t0;have n2:=h0.borrow 0 m3 rfl;refine o1 4 (gc 4 (nG d.seg a n2 j3) ?_);rintro c5 m0 a0 ⟨o2,rfl⟩;have p2:=o2.giveB 0 rfl;obtain ⟨f0,R,k0,n3,t4⟩:=Rel.put_feed_Feeder p2 (R0.mono (N.trans (s.trans (t.trans (u.trans (Z.trans a0)))))) (E':=[(Eb j 184 [v57,I d.dec.held,I d.dec.needs,.int .u8 d.dec.lo,.int .u8 d.dec.hi,I d.dec.bits,B g.1.some,I g.1.last,I g.1.pict,I g.1.conj,B g.1.odd,v59])]) k3 ⟨j,v57,v59,(tm t0),rfl,(l3.mono a0),(u0.mono a0)⟩;refine ⟨.inl rfl,?_⟩;rcases bo g.2 with q|q
  ·have g2:=anT q s0;refine AC.takeb 5 q rfl (by kernel_rfl) (by kernel_rfl) (fun p i=>(by kernel_rfl)) (ta 6 (Q j)<|ta 7 (Q j)<|ta 8 (Qo j 11)<|o1 9 (gl 9 (le1 11 underlying182 (R.gon n3 0 rfl)) (AC.take 10 (B (!d.open_.isNone)) rfl (by kernel_rfl) (by kernel_rfl) (fun p i=>(by rcases u0.m.cs with ⟨o0,q0⟩|⟨b_,o0,q0⟩ <;> (subst o0; rw [q0]; kernel_rfl))) ?_)));cases g2;exact ta 11 (B (!d.open_.isNone))<|dn (nrm<|jn m0 ⟨f0,R,rfl,k0⟩)
  obtain rfl:=anF q s0;exact AC.takeb 5 q rfl (by kernel_rfl) (by kernel_rfl) (fun p i=>(by kernel_rfl)) (tp 6<|tp 7<|tp 8<|tp 9<|tp 10<|ta 11 (B false)<|dn (nrm<|jn m0 ⟨f0,R,rfl,k0⟩))
 rintro e_ w_ ⟨x4,y4,_,rfl,w0,rfl,E,i0,rfl,M⟩;refine nrm<|cn H (fun o3 H=>?_) (fun o3 H=>?_)
 ·refine W.seq<|rD [10] (Kp E [(Eb h 238 [I a.Break,B a.Pict,I a.Conj,I a.East])]) i0 ?_;intro w2 x0 S;have e0:=(Kp.cons (S.on 0 rfl) (Kp.nil S));refine ta 0 v1<|bn H fun g4 q3 H=>?_;obtain ⟨o,rfl,p3⟩:=((U.mono (N.trans (s.trans (t.trans (u.trans (w0.trans x0))))))).get q3;refine ta 1 (Q o)<|ta 2 (Qo o 11)<|bn H fun b0 s3 H=>?_;obtain ⟨d5,e5,v0,t3,u3⟩:=Rel.open_feed_Feeder (M.mono x0) s3 p3;refine tkx 3 e0 (fun p i k=>le1 11 underlying182 (k.gon v0 0 rfl)) (ta 4 (Q o)<|ta 5 (Q o)<|ta 6 (Q o)<|tkx 7 e0 (fun p i k=>le1 0 tK (k.gon v0 0 rfl)) (ta 8 (J f)<|tkx 9 e0 (fun p i k=>leN 238 0 [I a.Break,B a.Pict,I a.Conj,I a.East] (k.on 0 rfl)) (bn H fun q4 v3 H=>o1 10 (gc 10 (sw S M.m (hG.m.le (by decide)) b0.open_ b0.pen f a u3 t3 v3) ?_))));rintro k4 h1 i4 ⟨f2,q2,f1,rfl⟩;refine ⟨.inl rfl,dn (nrm<|W.ret<|thr ?_)⟩;cases H;have z0:=q2.sD 1 [];exact r0<|qq h1 ⟨f2,z0,f1,rfl⟩
 refine KI<|rD [7,10] (Kp E [(Eb h 238 [I a.Break,B a.Pict,I a.Conj,I a.East])]) i0 ?_;intro i1 X x;have d0:=(Kp.cons (x.on 0 rfl) (Kp.nil x));refine ta 0 v1<|ta 1 v1<|bn H fun h4 m1 H=>?_;obtain ⟨e,rfl,y⟩:=((U.mono (N.trans (s.trans (t.trans (u.trans (w0.trans X))))))).get m1;refine ta 2 (Q e)<|ta 3 (Q e)<|bn H fun b2 n1 H=>?_;obtain ⟨l4,m4,s1,q1,b4⟩:=Rel.open_feed_Feeder (M.mono X) n1 y;refine tkx 4 d0 (fun p i k=>le1 0 tK (k.gon s1 0 rfl)) (ta 5 (J f)<|tkx 6 d0 (fun p i k=>leN 238 0 [I a.Break,B a.Pict,I a.Conj,I a.East] (k.on 0 rfl)) (bn H fun r4 t1 H=>o1 7 (gc 7 (xN x M.m (hG.m.le (by decide)) b2.pen f a q1 t1) ?_)));rintro n4 a4 j4 ⟨_,x3,a1,T,rfl,z⟩;refine ⟨.inl rfl,ta 8 (Q e) (ta 9 (Qo e 11) ?_)⟩;obtain ⟨n,rfl⟩:=(z).form;refine bn H fun b u1 H=>?_;obtain ⟨D,o4,x1,w1,c4⟩:=Rel.open_feed_Feeder T u1 (tm y);refine o1 10 (gD 10 (gC 182 11 (.pointer n) [D,I b.dec.held,I b.dec.needs,.int .u8 b.dec.lo,.int .u8 b.dec.hi,I b.dec.bits,B b.seg.some,I b.seg.last,I b.seg.pict,I b.seg.conj,B b.seg.odd,.pointer n] 0 a1 x1 ⟨z.one,trivial⟩) ?_);rintro j1 A b1;refine bn H fun d2 y1 H=>?_;obtain ⟨y0,c1,g1,d4,z3⟩:=Rel.put_feed_Feeder b1 (T.mono A) (E':=[(Eb e 184 [D,I b.dec.held,I b.dec.needs,.int .u8 b.dec.lo,.int .u8 b.dec.hi,I b.dec.bits,B b.seg.some,I b.seg.last,I b.seg.pict,I b.seg.conj,B b.seg.odd,.pointer n])]) y1 ⟨e,D,(.pointer n),(tm y),rfl,(w1.mono A),(z.mono A)⟩;refine ⟨.inl rfl,dn ?_⟩;cases H;have d1:=c1.sD 1 [];exact n0<|qq j1 ⟨y0,d1,g1,rfl⟩
def io (sg:Sto) (p0:Option Nat) (p1:List Int):Option Sto:=
 (cH (σ:=Int×Sto) (τ:=Sto) (((p1.length:Int)-0).toNat+1) (fun a=>
 if decide (a.1<(p1.length:Int)) then
 (idx p1 a.1).bind fun d=>
 (iC a.2 p0 d).bind fun b=>
 some (.inl ((w64 (a.1+1)),b))
 else
 some (.inr a.2)) (0,sg)).bind fun c=>
 some c
theorem pF (S:Own c0 G F) (T:Rel c0 sg G) (hG:Gl [2,4] c0) (j:Option Nat) (d:List Int){r:Sto}(Z:Pt 4 c0 v1 j) (h:Sl (RI .i32) c0 v3 d) (H:io sg j d=some r): KP 165 #[v1,v3] c0 fun c v=>∃G_:Gm,Own c G_ F/\Rel c r G_/\v= .tuple #[]:=by
 unfold io at H;refine en func165 rfl rfl<|KE v3<|vx (ln 3 cI h)<|Ku 0<|wln<|W.block<|bn H fun i0 N p=>lp N (fun a=>Jn c0 fun c l=>∃G_,Own c G_ F/\l= [(0,v1),(6,v3),(7,I (d.length:Int)),(8,I a.1)]/\Rel c a.2 G_) (fun i ex e w=>ex= .exit 0/\(Jn c0 fun c l=>∃G_,Own c G_ F/\l= []/\Rel c i G_) e w) ?_ ?_ ?_
 ·clear p N;intro a j0 A R H;revert A R;rintro X w_ ⟨U,g8,_,rfl,l7,rfl,k,t,rfl,f⟩;refine sr<|Kr (a.1<(d.length:Int))<|KA<|cn H (fun D H=>?_) (fun D H=>?_)
  ·refine KI<|KM<|sr<|bn H fun b g H=>?_;obtain ⟨b0,E,P⟩:=Sl.at (h.mono l7) (aS g);obtain rfl:=E;refine vx (ix cI h.m g)<|vx (l1 mj (P 0 _ rfl))<|va (J b)<|wln<|Kz v1<|va (J b)<|bn H fun e0 M H=>cl (tH t f (hG.m.le (by decide)) j b Z.m M) ?_;rintro v24 y g0 ⟨n,q,u,rfl⟩;refine WL.nil<|KJ<|W.region<|Kv (a.1+1)<|WL.nil ?_;cases H;exact ⟨_,rfl,jn y ⟨n,q,rfl,u⟩⟩
  refine W.exit<|thx ?_;cases H;exact ⟨_,rfl,rfl,jn U ⟨k,t,rfl,f⟩⟩
 ·exact jn c0 ⟨G,S,rfl,T⟩
 rintro _ X w_ ⟨rfl,z,f0,_,rfl,h0,rfl,o,s,rfl,x⟩;refine bke ?_;cases p;exact n0<|qq z ⟨o,s,x,rfl⟩
def jK (p0:Int):Option Int:=
 ((bL (decide (p0>=240)) (some (decide (p0<=244)))).bind fun a=>
 if a then
 some ((w64 ((w64 ((w64 ((w64 (0+1))+1))+1))+1)))
 else
 (bL (decide (p0>=224)) (some (decide (p0<240)))).bind fun b=>
 if b then
 some ((w64 ((w64 ((w64 (0+1))+1))+1)))
 else
 (bL (decide (p0>=194)) (some (decide (p0<224)))).bind fun c=>
 if c then
 some ((w64 ((w64 (0+1))+1)))
 else
 if decide (p0<128) then
 some ((w64 (0+1)))
 else
 some 0).bind fun d=>
 some d
theorem oU (A:Own c0 G F) (a:Int){r:Int}(H:jK a=some r): KP 219 #[.int .u8 a] c0 fun c v=>Own c G F/\v=I r:=by
 unfold jK at H;refine en func219 rfl rfl<|KD 0<|wln<|KD 0<|wln<|bn H fun k b T=>W.seqJ (Jn c0 fun c l=>Own c G F/\l= [(3,I k)]) ?_ ?_
 ·refine W.block<|KM<|KM<|KM<|KM<|W.seq<|W.seq<|W.seq<|bn b fun q P b=>W.join (Jn c0 fun c l=>Own c G F/\l= [(0,.int .u8 a),(3,I 0),(4,B q)]) ?_ ?_
  ·clear b;refine Kz (.int .u8 a)<|Kr (a>=240) ?_;rcases bo (decide (a>=240)) with j|j
   ·have U:=anT j P;refine vb j<|wa (.int .u8 a)<|Ks (a<=244) ?_;cases U;exact vv (B (decide (a<=244)))<|KB c0 ⟨A,rfl⟩
   obtain rfl:=anF j P;exact vb j<|pz<|vv (B false)<|KB c0 ⟨A,rfl⟩
  rintro u x ⟨m,g7,_,rfl,l6,rfl,p,rfl⟩;refine nrm<|cn b (fun M b=>?_) (fun M b=>?_)
  ·refine W.exit<|thx<|thx<|KK<|KF 0<|Kv (0+1)<|WL.nil<|KJ<|W.region<|Kx (0+1)<|Kv ((w64 (0+1))+1)<|WL.nil<|KJ<|W.region<|Kx ((w64 (0+1))+1)<|Kv ((w64 ((w64 (0+1))+1))+1)<|WL.nil<|KJ<|sr<|Kx ((w64 ((w64 (0+1))+1))+1)<|Kv ((w64 ((w64 ((w64 (0+1))+1))+1))+1)<|wln<|W.exit<|KK ?_;cases b;exact jn m ⟨p,rfl⟩
  refine KI<|W.seq<|W.seq<|bn b fun s n b=>W.join (Jn m fun c l=>Own c G F/\l= [(0,.int .u8 a),(3,I 0),(11,B s)]) ?_ ?_
  ·clear b;refine Kz (.int .u8 a)<|Kr (a>=224) ?_;rcases bo (decide (a>=224)) with d|d
   ·have y:=anT d n;refine vb d<|wa (.int .u8 a)<|Ks (a<240) ?_;cases y;exact vv (B (decide (a<240)))<|KB m ⟨p,rfl⟩
   obtain rfl:=anF d n;exact vb d<|pz<|vv (B false)<|KB m ⟨p,rfl⟩
  rintro u x ⟨f,X,_,rfl,l16,rfl,g,rfl⟩;refine nrm<|cn b (fun N b=>?_) (fun N b=>?_)
  ·refine W.exit<|thx<|thx<|bko rfl (thx<|KK<|KF 0<|Kv (0+1)<|WL.nil<|KJ<|W.region<|Kx (0+1)<|Kv ((w64 (0+1))+1)<|WL.nil<|KJ<|sr<|Kx ((w64 (0+1))+1)<|Kv ((w64 ((w64 (0+1))+1))+1)<|wln<|W.exit<|KK ?_);cases b;exact jn f ⟨g,rfl⟩
  refine KI<|W.seq<|W.seq<|bn b fun t o b=>W.join (Jn f fun c l=>Own c G F/\l= [(0,.int .u8 a),(3,I 0),(18,B t)]) ?_ ?_
  ·clear b;refine Kz (.int .u8 a)<|Kr (a>=194) ?_;rcases bo (decide (a>=194)) with e|e
   ·have z:=anT e o;refine vb e<|wa (.int .u8 a)<|Ks (a<224) ?_;cases z;exact vv (B (decide (a<224)))<|KB f ⟨g,rfl⟩
   obtain rfl:=anF e o;exact vb e<|pz<|vv (B false)<|KB f ⟨g,rfl⟩
  rintro u x ⟨i,Z,_,rfl,b0,rfl,h,rfl⟩;refine nrm<|cn b (fun R b=>?_) (fun R b=>?_)
  ·refine W.exit<|thx<|thx<|bko rfl (thx<|bko rfl (thx<|KK<|KF 0<|Kv (0+1)<|WL.nil<|KJ<|sr<|Kx (0+1)<|Kv ((w64 (0+1))+1)<|wln<|W.exit<|KK ?_));cases b;exact jn i ⟨h,rfl⟩
  refine KI<|KE (.int .u8 a)<|vv (B (decide (a<128)))<|KH b (fun S b=>?_) (fun S b=>?_)
  ·refine W.exit<|thx<|bko rfl (thx<|bko rfl (thx<|bko rfl (thx<|KK<|KD 0<|Kv (0+1)<|wln<|W.exit<|KK ?_)));cases b;exact jn i ⟨h,rfl⟩
  refine KI<|W.exit<|bko rfl (thx<|bko rfl (thx<|bko rfl (thx<|bko rfl (thx<|KK ?_))));cases b;exact jn i ⟨h,rfl⟩
 rintro u x ⟨E,a0,_,rfl,d0,rfl,D,rfl⟩;refine sr<|vv (I k)<|KG ?_;cases T;exact KC E ⟨D,rfl⟩
def lP (p0:Int):Option Int:=
 (jK p0).bind fun a=>
 if (a==0)=true then
 some 0
 else
 if (a==1)=true then
 some (w64 p0)
 else
 (shn (w64 (7-a))).bind fun b=>
 some (ko .i64 (w64 p0) (w64 ((w64 (1*2 ^ (min b 64)))-1)))
theorem uT (j:Own c0 G F) (e:Int){r:Int}(H:lP e=some r): KP 266 #[.int .u8 e] c0 fun c v=>Own c G F/\v=I r:=by
 unfold lP at H;refine en func266 rfl rfl<|KD 0<|wln<|KE (.int .u8 e)<|bn H fun d k H=>cl (oU j e k) ?_;rintro v7 h n ⟨g,rfl⟩;refine Ku d<|wln<|KD d<|wln<|W.block<|sr<|vv (B (d==0))<|KH H (fun l H=>?_) (fun l H=>?_)
 ·refine KD 0<|KG<|bkr ?_;cases H;exact KC h ⟨g,rfl⟩
 refine sr<|vv (B (d==1))<|KH H (fun m H=>?_) (fun m H=>?_)
 ·refine KE (.int .u8 e)<|Kv e<|KG<|bkr ?_;cases H;exact KC h ⟨g,rfl⟩
 refine KE (.int .u8 e)<|Kx e<|Ku d<|Kx (7-d)<|bn H fun f i H=>vr (I (w64 (1*2 ^ (min f 64)))) (Fw (k':= .i64) (a:=1) (b:=(w64 (7-d))) i (by kernel_rfl) _)<|Kx ((w64 (1*2 ^ (min f 64)))-1)<|vv (I (ko .i64 (w64 e) (w64 ((w64 (1*2 ^ (min f 64)))-1))))<|KG<|bkr ?_;cases H;exact KC h ⟨g,rfl⟩
def kf (p0:Int):Option (Int×Int):=
 (jK p0).bind fun b=>
 if decide (b<2) then
 some (0,0)
 else
 (if (p0==224)=true then
 some (160,191)
 else
 if (p0==240)=true then
 some (144,191)
 else
 if (p0==244)=true then
 some (128,(IntKind.u8.wrap ((IntKind.u8.wrap (191-16))-32)))
 else
 if (p0==237)=true then
 some (128,(IntKind.u8.wrap (191-32)))
 else
 some (128,191)).bind fun a=>
 some (a.1,a.2)
theorem sI (p:Own c0 G F) (b:Int){r:Int×Int}(H:kf b=some r): KP 220 #[.int .u8 b] c0 fun c v=>Own c G F/\v= .tuple #[.int .u8 r.1,.int .u8 r.2]:=by
 unfold kf at H;refine en func220 rfl rfl<|sr<|vv (.int .u8 0)<|KA<|KE (.int .u8 b)<|bn H fun o q H=>cl (oU p b q) ?_;rintro v7 e y ⟨f,rfl⟩;refine Kr (o<2)<|KH H (fun s H=>?_) (fun s H=>?_)
 ·refine sr<|vv (.int .u8 0)<|KG<|thr ?_;cases H;exact r2 (qq e ⟨f,rfl⟩)
 refine KI<|KE (.int .u8 128)<|va (.int .u8 191)<|wln<|bn H fun d a g=>W.seqJ (Jn e fun c l=>Own c G F/\l= [(2,.int .u8 d.1),(3,.int .u8 d.2)]) ?_ ?_
 ·refine KE (.int .u8 b)<|wln<|W.block<|KM<|KM<|KM<|KM<|W.seq<|W.seq<|sr<|vv (B (b==224))<|KH a (fun j a=>?_) (fun j a=>?_)
  ·refine W.exit<|thx<|thx<|KK<|KE (.int .u8 160)<|wln<|W.exit<|bko rfl (thx<|bko rfl (thx<|bko rfl (thx<|KK ?_)));cases a;exact jn e ⟨f,rfl⟩
  refine KI<|W.seq<|sr<|vv (B (b==240))<|KH a (fun k a=>?_) (fun k a=>?_)
  ·refine W.exit<|thx<|thx<|bko rfl (thx<|KK<|KE (.int .u8 144)<|wln<|W.exit<|bko rfl (thx<|bko rfl (thx<|KK ?_)));cases a;exact jn e ⟨f,rfl⟩
  refine KI<|W.seq<|sr<|vv (B (b==244))<|KH a (fun m a=>?_) (fun m a=>?_)
  ·refine W.exit<|thx<|thx<|bko rfl (thx<|bko rfl (thx<|KK<|Kz (.int .u8 191)<|vv (.int .u8 (IntKind.u8.wrap (191-16)))<|WL.nil<|KJ<|KE (.int .u8 (IntKind.u8.wrap (191-16)))<|vv (.int .u8 (IntKind.u8.wrap ((IntKind.u8.wrap (191-16))-32)))<|wln<|W.exit<|KK ?_));cases a;exact jn e ⟨f,rfl⟩
  refine KI<|sr<|vv (B (b==237))<|KH a (fun n a=>?_) (fun n a=>?_)
  ·refine W.exit<|thx<|bko rfl (thx<|bko rfl (thx<|bko rfl (thx<|KK<|KE (.int .u8 191)<|vv (.int .u8 (IntKind.u8.wrap (191-32)))<|wln<|W.exit<|KK ?_)));cases a;exact jn e ⟨f,rfl⟩
  refine KI<|W.exit<|bko rfl (thx<|bko rfl (thx<|bko rfl (thx<|bko rfl (thx<|KK ?_))));cases a;exact jn e ⟨f,rfl⟩
 rintro x z ⟨i,t,_,rfl,u,rfl,h,rfl⟩;refine KE (.int .u8 d.1)<|va (.int .u8 d.2)<|va (.int .u8 d.1)<|va (.int .u8 d.2)<|KG ?_;cases g;exact r2 (qq i ⟨h,rfl⟩)
def cJ (p0:bG):Option Int:=
 if false then
 some 0
 else
 some p0.held
theorem nj {b:Nat}{r0_0:Value}{r0_6:Value}{r0_7:Value}{r0_8:Value}{r0_9:Value}{r0_10:Value}{r0_11:Value}(a:bG) (e:Own c0 G ((Eb b 184 [r0_0,I a.held,I a.needs,.int .u8 a.lo,.int .u8 a.hi,I a.bits,r0_6,r0_7,r0_8,r0_9,r0_10,r0_11])::F)){r:Int}(H:cJ a=some r): KP 223 #[.pointer (some ⟨b,1,none⟩)] c0 fun c v=>Own c G ((Eb b 184 [r0_0,I a.held,I a.needs,.int .u8 a.lo,.int .u8 a.hi,I a.bits,r0_6,r0_7,r0_8,r0_9,r0_10,r0_11])::F)/\v=I r:=by
 unfold cJ at H;refine en func223 rfl rfl<|KD 0<|KA<|sr<|Kw b 1<|Kq false<|wln<|W.cond (t:=false) (by kernel_rfl) (fun d=>?_) (fun d=>?_)
 ·cases d
 have H:=ie d H;refine KI<|sr<|vv (Qo b 1)<|Kw b 1<|vx (le1 1 u_3 (e.on 0 rfl))<|Ku a.held<|KG ?_;cases H;exact KC c0 ⟨e,rfl⟩
def bR (p0:bG):Option (bG×(List Int)):=
 (cJ p0).bind fun a=>
 if (a==0)=true then
 some (p0,([]:List Int))
 else
 some ((⟨0,0,0,0,0⟩:bG),([65533]:List Int))
theorem jD {a:Nat}{r0_0:Value}{r0_6:Value}{r0_7:Value}{r0_8:Value}{r0_9:Value}{r0_10:Value}{r0_11:Value}(b:bG) (q:Own c0 G ((Eb a 184 [r0_0,I b.held,I b.needs,.int .u8 b.lo,.int .u8 b.hi,I b.bits,r0_6,r0_7,r0_8,r0_9,r0_10,r0_11])::F)){r:bG×(List Int)}(H:bR b=some r): KP 167 #[.pointer (some ⟨a,1,none⟩)] c0 fun c v=>∃d p,Own c G (es true (RI .i32) d 21 p r.2::(Eb a 184 [r0_0,I r.1.held,I r.1.needs,.int .u8 r.1.lo,.int .u8 r.1.hi,I r.1.bits,r0_6,r0_7,r0_8,r0_9,r0_10,r0_11])::F)/\v=d/\OA (RI .i32) c d p r.2:=by
 unfold bR at H;refine en func167 rfl rfl<|KE Y<|KA<|sr<|Kw a 1<|bn H fun o s H=>cl (nj b q s) ?_;rintro v8 k z ⟨i,rfl⟩;refine Kq (o==0)<|KH H (fun t H=>?_) (fun t H=>?_)
 ·refine KE Y<|KG<|thr ?_;cases H;have l:OA (RI .i32) k Y [] []:=OA.nil (aO _);have f:=i.addHole (e:=es true (RI .i32) Y 21 [] ([]:List Int)) rfl;exact KC k ⟨(Y),[],f,rfl,l⟩
 refine KI<|sr<|Kw a 1<|va (.agg #[I 0,I 0,.int .u8 0,.int .u8 0,I 0])<|Kw a 1<|md (sB 179 1 [I 0,I 0,.int .u8 0,.int .u8 0,I 0] [r0_0,I 0,I 0,.int .u8 0,.int .u8 0,I 0,r0_6,r0_7,r0_8,r0_9,r0_10,r0_11] 0 i ⟨rfl,rfl,rfl,rfl,rfl,trivial⟩) ?_;rintro u x g;refine KN<|me (sl (RI .i32) 21 [[J 65533]] ([65533]:List Int) g ⟨rfl,trivial⟩) ?_;rintro v18 j y ⟨n,h,m⟩;refine va v18<|KG ?_;cases H;exact KC j ⟨v18,n,h,rfl,m⟩
def cG (p0:bG) (p1:Int):Option (bG×(List Int)):=
 (jK p1).bind fun a=>
 if (a==0)=true then
 some (p0,([65533]:List Int))
 else
 if (a==1)=true then
 some (p0,([(w32 p1)]:List Int))
 else
 (lP p1).bind fun c=>
 (kf p1).bind fun b=>
 some ((⟨1,(w64 (a-1)),b.1,b.2,c⟩:bG),([]:List Int))
theorem jC {a:Nat}{r0_0:Value}{r0_6:Value}{r0_7:Value}{r0_8:Value}{r0_9:Value}{r0_10:Value}{r0_11:Value}(f:bG) (g:Int) (T:Own c0 G ((Eb a 184 [r0_0,I f.held,I f.needs,.int .u8 f.lo,.int .u8 f.hi,I f.bits,r0_6,r0_7,r0_8,r0_9,r0_10,r0_11])::F)){r:bG×(List Int)}(H:cG f g=some r): KP 222 #[.pointer (some ⟨a,1,none⟩),.int .u8 g] c0 fun c v=>∃k S,Own c G (es true (RI .i32) k 21 S r.2::(Eb a 184 [r0_0,I r.1.held,I r.1.needs,.int .u8 r.1.lo,.int .u8 r.1.hi,I r.1.bits,r0_6,r0_7,r0_8,r0_9,r0_10,r0_11])::F)/\v=k/\OA (RI .i32) c k S r.2:=by
 unfold cG at H;refine en func222 rfl rfl<|KE Y<|KA<|KE (.int .u8 g)<|bn H fun b X H=>cl (oU T g X) ?_;rintro v7 c6 l6 ⟨j,rfl⟩;refine Ku b<|wln<|KD b<|wln<|W.block<|sr<|vv (B (b==0))<|KH H (fun Z H=>?_) (fun Z H=>?_)
 ·refine sr<|me (sl (RI .i32) 21 [[J 65533]] ([65533]:List Int) j ⟨rfl,trivial⟩) ?_;rintro v13 x h0 ⟨P,U,z⟩;refine va v13<|KG<|KL ?_;cases H;exact KC x ⟨v13,P,U,rfl,z⟩
 refine sr<|vv (B (b==1))<|KH H (fun A H=>?_) (fun A H=>?_)
 ·refine KE (.int .u8 g)<|va (J (w32 g))<|me (sl (RI .i32) 21 [[J (w32 g)]] ([(w32 g)]:List Int) j ⟨rfl,trivial⟩) ?_;rintro v19 y i0 ⟨R,l,D⟩;refine va v19<|KG<|KL ?_;cases H;exact KC y ⟨v19,R,l,rfl,D⟩
 refine sr<|vv (Qo a 1)<|Kw a 1<|Ku b<|Kx (b-1)<|va (.int .u8 g)<|bn H fun h E H=>cl (uT j g E) ?_;rintro v26 a0 j0 ⟨m,rfl⟩;refine va (.pointer (some ⟨a,1,none⟩))<|Kw a 1<|md (sC 3 1 (I 1) [r0_0,I 1,I f.needs,.int .u8 f.lo,.int .u8 f.hi,I f.bits,r0_6,r0_7,r0_8,r0_9,r0_10,r0_11] 0 m ⟨rfl,trivial⟩) ?_;rintro b0 k0 n;refine va (.pointer (some ⟨a,1,none⟩))<|Kw a 2<|md (sC 3 2 (I (w64 (b-1))) [r0_0,I 1,I (w64 (b-1)),.int .u8 f.lo,.int .u8 f.hi,I f.bits,r0_6,r0_7,r0_8,r0_9,r0_10,r0_11] 0 n ⟨rfl,trivial⟩) ?_;rintro d0 l0 o;refine va (.pointer (some ⟨a,1,none⟩))<|Kw a 5<|md (sC 3 5 (I h) [r0_0,I 1,I (w64 (b-1)),.int .u8 f.lo,.int .u8 f.hi,I h,r0_6,r0_7,r0_8,r0_9,r0_10,r0_11] 0 o ⟨rfl,trivial⟩) ?_;rintro e0 m0 p;refine wln<|W.region<|vv (Qo a 1)<|va (.int .u8 g)<|bn H fun d M H=>cl (sI p g M) ?_;rintro v39 f0 o0 ⟨q,rfl⟩;refine va (.tuple #[.int .u8 d.1,.int .u8 d.2])<|va (.int .u8 d.1)<|va (.int .u8 d.2)<|Kw a 1<|Kw a 3<|md (sC 5 3 (.int .u8 d.1) [r0_0,I 1,I (w64 (b-1)),.int .u8 d.1,.int .u8 f.hi,I h,r0_6,r0_7,r0_8,r0_9,r0_10,r0_11] 0 q ⟨rfl,trivial⟩) ?_;rintro g0 q0 s;refine va (.pointer (some ⟨a,1,none⟩))<|Kw a 4<|md (sC 5 4 (.int .u8 d.2) [r0_0,I 1,I (w64 (b-1)),.int .u8 d.1,.int .u8 d.2,I h,r0_6,r0_7,r0_8,r0_9,r0_10,r0_11] 0 s ⟨rfl,trivial⟩) ?_;rintro i s0 t;refine WL.nil<|KJ<|KE Y<|KG ?_;cases H;have N:OA (RI .i32) i Y [] []:=OA.nil (aO _);have u:=t.addHole (e:=es true (RI .i32) Y 21 [] ([]:List Int)) rfl;exact KC i ⟨(Y),[],u,rfl,N⟩
def dp (p0:bG) (p1:Int):Option (bG×(List Int)):=
 if false then
 some (p0,([]:List Int))
 else
 if (p0.held==0)=true then
 (cG p0 p1).bind fun a=>
 some (a.1,a.2)
 else
 (orE (decide (p1<p0.lo)) (some (decide (p1>p0.hi)))).bind fun d=>
 if d then
 (bR p0).bind fun b=>
 (cG b.1 p1).bind fun c=>
 (app b.2 c.2).bind fun e=>
 some (c.1,e)
 else
 if decide ((w64 (p0.needs-1))>0) then
 some ((⟨(w64 (p0.held+1)),(w64 (p0.needs-1)),128,191,(qF .i64 (w64 (p0.bits*2 ^ 6)) (w64 (ko .u8 p1 63)))⟩:bG),([]:List Int))
 else
 some ((⟨0,0,0,0,0⟩:bG),([(w32 (qF .i64 (w64 (p0.bits*2 ^ 6)) (w64 (ko .u8 p1 63))))]:List Int))
theorem ni {a:Nat}{r0_0:Value}{r0_6:Value}{r0_7:Value}{r0_8:Value}{r0_9:Value}{r0_10:Value}{r0_11:Value}(b:bG) (d:Int) (h:Own c0 G ((Eb a 184 [r0_0,I b.held,I b.needs,.int .u8 b.lo,.int .u8 b.hi,I b.bits,r0_6,r0_7,r0_8,r0_9,r0_10,r0_11])::F)){r:bG×(List Int)}(H:dp b d=some r): KP 166 #[.pointer (some ⟨a,1,none⟩),.int .u8 d] c0 fun c v=>∃x y2,Own c G (es true (RI .i32) x 21 y2 r.2::(Eb a 184 [r0_0,I r.1.held,I r.1.needs,.int .u8 r.1.lo,.int .u8 r.1.hi,I r.1.bits,r0_6,r0_7,r0_8,r0_9,r0_10,r0_11])::F)/\v=x/\OA (RI .i32) c x y2 r.2:=by
 unfold dp at H;refine en func166 rfl rfl<|KE Y<|KA<|W.block<|sr<|Kw a 1<|vv (B false)<|wln<|W.cond (t:=false) (by kernel_rfl) (fun s=>?_) (fun s=>?_)
 ·cases s
 have H:=ie s H;refine sr<|vv (Qo a 1)<|Kw a 1<|vx (le1 1 u_3 (h.on 0 rfl))<|vv (B (b.held==0))<|KH H (fun h2 H=>?_) (fun h2 H=>?_)
 ·refine sr<|Kw a 1<|va (.int .u8 d)<|bn H fun z0 h4 H=>cl (jC b d h h4) ?_;rintro v5 X q1 ⟨_,u6,O9,rfl,h7⟩;refine va v5<|KG<|KL ?_;cases H;exact KC X ⟨v5,u6,O9,rfl,h7⟩
 refine W.seq<|bn H fun q o H=>W.join (Jn c0 fun c l=>Own c G ((Eb a 184 [r0_0,I b.held,I b.needs,.int .u8 b.lo,.int .u8 b.hi,I b.bits,r0_6,r0_7,r0_8,r0_9,r0_10,r0_11])::F)/\l= [(0,.pointer (some ⟨a,1,none⟩)),(1,.int .u8 d),(18,B q)]) ?_ ?_
 ·clear H;refine Kz (.int .u8 d)<|vv (Qo a 1)<|Kw a 3<|vx (le1 3 u_5 (h.on 0 rfl))<|Kr (d<b.lo) ?_;rcases bo (decide (d<b.lo)) with f|f
  ·obtain rfl:=orT f o;exact vb f<|pz<|pz<|pz<|vv (B true)<|KB c0 ⟨h,rfl⟩
  have y:=orF f o;refine vb f<|wa (.int .u8 d)<|wa (Qo a 1)<|wa (Qo a 1)<|wa (Qo a 4)<|wn<|vx (le1 4 u_5 (h.on 0 rfl))<|Ks (d>b.hi) ?_;cases y;exact vv (B (decide (d>b.hi)))<|KB c0 ⟨h,rfl⟩
 rintro e_ w_ ⟨c1,n1,_,rfl,s1,rfl,i,rfl⟩;refine nrm<|cn H (fun b0 H=>?_) (fun b0 H=>?_)
 ·refine sr<|Kw a 1<|bn H fun u d0 H=>cl (jD b i d0) ?_;rintro v26 d1 t1 ⟨_,g2,z,rfl,e0⟩;refine va (.pointer (some ⟨a,1,none⟩))<|va (.int .u8 d) ?_;have A:=z.sD 2 [1,0];refine bn H fun a1 f0 H=>cl (jC u.1 d A f0) ?_;rintro v37 e1 u1 ⟨_,i2,D,rfl,g0⟩;obtain ⟨f1,i0,v1,E,h0⟩:=D.frz 0 rfl g0;refine WL.gh i0 (bn H fun b1 j0 H=>me (ap (RI .i32) (J 0) 4 32 2 E e0.m h0 j0 cI) ?_);rintro v55 Z w1 ⟨q0,M,k0⟩;refine va v55<|KG<|KL ?_;cases H;have N:=M.sD 3 [2,1];exact KC Z ⟨v55,q0,N,rfl,k0⟩
 refine W.skip<|KJ<|sr<|vv (Qo a 1)<|Kw a 1<|Kw a 5<|vx (le1 5 u_3 (i.on 0 rfl))<|Kx (b.bits*2 ^ 6)<|va (.int .u8 d)<|va (.int .u8 (ko .u8 d 63))<|Kx (ko .u8 d 63)<|Ku (qF .i64 (w64 (b.bits*2 ^ 6)) (w64 (ko .u8 d 63)))<|Kw a 1<|Kw a 5<|md (sC 3 5 (I (qF .i64 (w64 (b.bits*2 ^ 6)) (w64 (ko .u8 d 63)))) [r0_0,I b.held,I b.needs,.int .u8 b.lo,.int .u8 b.hi,I (qF .i64 (w64 (b.bits*2 ^ 6)) (w64 (ko .u8 d 63))),r0_6,r0_7,r0_8,r0_9,r0_10,r0_11] 0 i ⟨rfl,trivial⟩) ?_;rintro g1 x1 P;refine KN<|vv (Qo a 1)<|Kw a 1<|Kw a 3<|md (sC 5 3 (.int .u8 128) [r0_0,I b.held,I b.needs,.int .u8 128,.int .u8 b.hi,I (qF .i64 (w64 (b.bits*2 ^ 6)) (w64 (ko .u8 d 63))),r0_6,r0_7,r0_8,r0_9,r0_10,r0_11] 0 P ⟨rfl,trivial⟩) ?_;rintro i1 z1 R;refine va (.pointer (some ⟨a,1,none⟩))<|Kw a 4<|md (sC 5 4 (.int .u8 191) [r0_0,I b.held,I b.needs,.int .u8 128,.int .u8 191,I (qF .i64 (w64 (b.bits*2 ^ 6)) (w64 (ko .u8 d 63))),r0_6,r0_7,r0_8,r0_9,r0_10,r0_11] 0 R ⟨rfl,trivial⟩) ?_;rintro j1 b2 j;refine KN<|vv (Qo a 1)<|Kw a 1<|vx (le1 1 u_3 (j.on 0 rfl))<|Kx (b.held+1)<|vv (Qo a 1)<|md (sC 3 1 (I (w64 (b.held+1))) [r0_0,I (w64 (b.held+1)),I b.needs,.int .u8 128,.int .u8 191,I (qF .i64 (w64 (b.bits*2 ^ 6)) (w64 (ko .u8 d 63))),r0_6,r0_7,r0_8,r0_9,r0_10,r0_11] 0 j ⟨rfl,trivial⟩) ?_;rintro k1 c2 k;refine KN<|vv (Qo a 1)<|Kw a 2<|vx (le1 2 u_3 (k.on 0 rfl))<|Kx (b.needs-1)<|Kw a 1<|Kw a 2<|md (sC 3 2 (I (w64 (b.needs-1))) [r0_0,I (w64 (b.held+1)),I (w64 (b.needs-1)),.int .u8 128,.int .u8 191,I (qF .i64 (w64 (b.bits*2 ^ 6)) (w64 (ko .u8 d 63))),r0_6,r0_7,r0_8,r0_9,r0_10,r0_11] 0 k ⟨rfl,trivial⟩) ?_;rintro n d2 g;refine KA<|sr<|vv (Qo a 1)<|Kw a 2<|vx (le1 2 u_3 (g.on 0 rfl))<|Kr ((w64 (b.needs-1))>0)<|KH H (fun l0 H=>?_) (fun l0 H=>?_)
 ·refine KE Y<|KG<|thr ?_;cases H;have m0:OA (RI .i32) n Y [] []:=OA.nil (aO _);have S:=g.addHole (e:=es true (RI .i32) Y 21 [] ([]:List Int)) rfl;exact KC n ⟨(Y),[],S,rfl,m0⟩
 refine KI<|sr<|vv (Qo a 1)<|Kw a 5<|vx (le1 5 u_3 (g.on 0 rfl))<|vv (J (w32 (qF .i64 (w64 (b.bits*2 ^ 6)) (w64 (ko .u8 d 63)))))<|KN<|Kw a 1<|va (.agg #[I 0,I 0,.int .u8 0,.int .u8 0,I 0])<|Kw a 1<|md (sB 179 1 [I 0,I 0,.int .u8 0,.int .u8 0,I 0] [r0_0,I 0,I 0,.int .u8 0,.int .u8 0,I 0,r0_6,r0_7,r0_8,r0_9,r0_10,r0_11] 0 g ⟨rfl,rfl,rfl,rfl,rfl,trivial⟩) ?_;rintro m1 e2 T;refine wln<|KE (J (w32 (qF .i64 (w64 (b.bits*2 ^ 6)) (w64 (ko .u8 d 63)))))<|me (sl (RI .i32) 21 [[J (w32 (qF .i64 (w64 (b.bits*2 ^ 6)) (w64 (ko .u8 d 63))))]] ([(w32 (qF .i64 (w64 (b.bits*2 ^ 6)) (w64 (ko .u8 d 63))))]:List Int) T ⟨rfl,trivial⟩) ?_;rintro p a0 f2 ⟨s0,U,o0⟩;refine va p<|KG ?_;cases H;exact KC a0 ⟨p,s0,U,rfl,o0⟩
def iE (sg:Sto) (p0:Option Nat) (p1:List Int):Option Sto:=
 if p0.isNone then
 some sg
 else
 (cH (σ:=Int×Sto) (τ:=Sto) (((p1.length:Int)-0).toNat+1) (fun b=>
 if decide (b.1<(p1.length:Int)) then
 (idx p1 b.1).bind fun f=>
 (p0).bind fun d=>
 (b.2.feed_Feeder[d]?).bind fun a=>
 (dp a.dec f).bind fun e=>
 (b.2.set_feed_Feeder d (⟨a.pen,e.1,a.seg,a.open_⟩:bH)).bind fun c=>
 (io c p0 e.2).bind fun g=>
 some (.inl ((w64 (b.1+1)),g))
 else
 some (.inr b.2)) (0,sg)).bind fun h=>
 some h
theorem tJ (M:Own c0 G F) (R0:Rel c0 sg G) (hG:Gl [2,4] c0) (j:Option Nat) (k:List Int){r:Sto}(t:Pt 4 c0 v1 j) (u:Sl (RI .u8) c0 v3 k) (H:iE sg j k=some r): KP 107 #[v1,v3] c0 fun c v=>∃G_:Gm,Own c G_ F/\Rel c r G_/\v= .tuple #[]:=by
 unfold iE at H;refine en func107 rfl rfl<|W.seq<|KE v1<|vr (B j.isNone) (by rcases (t).cs with ⟨p,s⟩|⟨b_,p,s⟩ <;> (subst p; rw [s]; kernel_rfl))<|KH H (fun h5 H=>?_) (fun h5 H=>?_)
 ·refine W.ret<|thr ?_;cases H;exact r0<|qq c0 ⟨G,M,R0,rfl⟩
 refine KI<|KE v3<|vx (ln 3 iN u)<|Ku 0<|wln<|W.block<|bn H fun y1 h6 E=>lp h6 (fun d=>Jn c0 fun c l=>∃G_,Own c G_ F/\l= [(0,v1),(8,v3),(9,I (k.length:Int)),(10,I d.1)]/\Rel c d.2 G_) (fun x ex e w=>ex= .exit 0/\(Jn c0 fun c l=>∃G_,Own c G_ F/\l= []/\Rel c x G_) e w) ?_ ?_ ?_
 ·clear E h6;intro d b2 i0 c1 H;revert i0 c1;rintro e_ w_ ⟨c8,g9,_,rfl,l8,rfl,z,n,rfl,h⟩;refine sr<|Kr (d.1<(k.length:Int))<|KA<|cn H (fun j0 H=>?_) (fun j0 H=>?_)
  ·refine KI<|KM<|sr<|bn H fun f o H=>?_;obtain ⟨h1,k0,b1⟩:=Sl.at (u.mono l8) (aS o);obtain rfl:=k0;refine vx (ix iN u.m o)<|vx (l1 u_5 (b1 0 _ rfl))<|va (.int .u8 f)<|wln<|W.region<|vv v1<|bn H fun g1 l0 H=>?_;obtain ⟨g,rfl,q⟩:=((t.mono l8)).get l0;refine va (Q g)<|Kw g 1<|va (.int .u8 f)<|bn H fun a m0 H=>?_;obtain ⟨v23,v25,s0,o0,q0⟩:=Rel.open_feed_Feeder h m0 q;have N:=n.borrow 0 s0 rfl;refine bn H fun b t0 H=>cl (ni a.dec f N t0) ?_;rintro v31 n1 i ⟨_,z1,P,rfl,u0⟩;have S:=P.sD 2 [1,0];have R:=S.giveB 0 rfl;refine bn H fun y v0 H=>?_;obtain ⟨k1,T,d0,t1,m1⟩:=Rel.put_feed_Feeder R (h.mono i) (E':=[(Eb g 184 [v23,I b.1.held,I b.1.needs,.int .u8 b.1.lo,.int .u8 b.1.hi,I b.1.bits,B a.seg.some,I a.seg.last,I a.seg.pict,I a.seg.conj,B a.seg.odd,v25])]) v0 ⟨g,v23,v25,(tm q),rfl,(o0.mono i),(q0.mono i)⟩;obtain ⟨q1,x0,u1,U,w0⟩:=T.frz 0 rfl u0;refine WL.gh x0 (bn H fun j1 y0 H=>cl (pF U d0.m (hG.m.le (by decide)) j b.2 t.m w0 y0) ?_);rintro v58 g0 w1 ⟨A,X,e0,rfl⟩;refine WL.nil<|KJ<|W.region<|Kv (d.1+1)<|WL.nil ?_;cases H;refine ⟨_,rfl,?_⟩;have Z:=X.sD 1 [];exact jn g0 ⟨A,Z,rfl,e0⟩
  refine W.exit<|thx ?_;cases H;exact ⟨_,rfl,rfl,jn c8 ⟨z,n,rfl,h⟩⟩
 ·exact jn c0 ⟨G,M,rfl,R0⟩
 rintro _ e_ w_ ⟨rfl,h0,s1,_,rfl,x1,rfl,D,a0,rfl,f0⟩;refine bke ?_;cases E;exact n0<|qq h0 ⟨D,a0,f0,rfl⟩
def iD (sg:Sto) (p0:Option Nat):Option Sto:=
 if p0.isNone then
 some sg
 else
 (p0).bind fun c=>
 (sg.feed_Feeder[c]?).bind fun a=>
 (bR a.dec).bind fun d=>
 (sg.set_feed_Feeder c (⟨a.pen,d.1,a.seg,a.open_⟩:bH)).bind fun b=>
 (io b p0 d.2).bind fun f=>
 (dv f p0).bind fun e=>
 some e
theorem tI (l:Own c0 G F) (j:Rel c0 sg G) (hG:Gl [2,4] c0) (f:Option Nat){r:Sto}(g:Pt 4 c0 v1 f) (H:iD sg f=some r): KP 108 #[v1] c0 fun c v=>∃G_:Gm,Own c G_ F/\Rel c r G_/\v= .tuple #[]:=by
 unfold iD at H;refine en func108 rfl rfl<|W.seq<|KE v1<|vr (B f.isNone) (by rcases (g).cs with ⟨h,i⟩|⟨b_,h,i⟩ <;> (subst h; rw [i]; kernel_rfl))<|KH H (fun h3 H=>?_) (fun h3 H=>?_)
 ·refine W.ret<|thr ?_;cases H;exact r0<|qq c0 ⟨G,l,j,rfl⟩
 refine KI<|sr<|vv v1<|bn H fun s0 h6 H=>?_;obtain ⟨d,rfl,h5⟩:=(g).get h6;refine va (Q d)<|Kw d 1<|bn H fun a h7 H=>?_;obtain ⟨v8,v10,N,h9,M⟩:=Rel.open_feed_Feeder j h7 h5;have n:=l.borrow 0 N rfl;refine bn H fun b P H=>cl (jD a.dec n P) ?_;rintro v16 l0 e ⟨_,w0,o,rfl,R⟩;have q:=o.sD 2 [1,0];have p:=q.giveB 0 rfl;refine bn H fun b0 S H=>?_;obtain ⟨i0,s,z,q0,k0⟩:=Rel.put_feed_Feeder p (j.mono e) (E':=[(Eb d 184 [v8,I b.1.held,I b.1.needs,.int .u8 b.1.lo,.int .u8 b.1.hi,I b.1.bits,B a.seg.some,I a.seg.last,I a.seg.pict,I a.seg.conj,B a.seg.odd,v10])]) S ⟨d,v8,v10,(tm h5),rfl,(h9.mono e),(M.mono e)⟩;obtain ⟨m0,U,t0,t,T⟩:=s.frz 0 rfl R;refine WL.gh U (bn H fun x0 X H=>cl (pF t z.m (hG.m.le (by decide)) f b.2 g.m T X) ?_);rintro v43 o0 u0 ⟨j0,u,A,rfl⟩;refine wln<|Kz (Q d)<|bn H fun h0 Z H=>cl (jV u A f g.m Z) ?_;rintro v50 E v0 ⟨k,x,D,rfl⟩;refine WL.nil ?_;cases H;have y:=x.sD 1 [];exact n0<|qq E ⟨k,y,D,rfl⟩
def ou (p0:Int):Option Bool:=
 (bL (decide (p0>=2)) (some (decide (p0<=12)))).bind fun a=>
 some a
theorem AV (d:Own c0 G F) (a:Int){r:Bool}(H:ou a=some r): KP 162 #[I a] c0 fun c v=>Own c G F/\v=B r:=by
 unfold ou at H;refine en func162 rfl rfl<|Ky false<|KA<|bn H fun e f H=>W.join (Jn c0 fun c l=>Own c G F/\l= [(2,B e)]) ?_ ?_
 ·clear H;refine KF a<|Kr (a>=2) ?_;rcases bo (decide (a>=2)) with b|b
  ·have g:=anT b f;refine vb b<|wa (I a)<|Ks (a<=12) ?_;cases g;exact vv (B (decide (a<=12)))<|KB c0 ⟨d,rfl⟩
  obtain rfl:=anF b f;exact vb b<|pz<|vv (B false)<|KB c0 ⟨d,rfl⟩
 rintro j n ⟨i,k,_,rfl,m,rfl,h,rfl⟩;refine nrm<|W.ret ?_;cases H;exact KC i ⟨h,rfl⟩
def ky (p0:aH):Option Er:=
 (ou p0.Kind).bind fun d=>
 if (!d)=true then
 some (Er.sent 4)
 else
 (bL (decide (p0.Kind<=4)) (some (p0.Kind != 2))).bind fun a=>
 (bL a ((orE (decide (p0.A<0)) (some (decide (p0.A>2)))).bind fun c=>
 some c)).bind fun b=>
 if b then
 some (Er.sent 2)
 else
 some Er.nil
theorem qN (S:Own c0 G F) (hG:Gl [2,4] c0) (a:aH){r:Er}(h2:Sl (RI .u8) c0 v1 a.Bytes) (H:ky a=some r): KP 103 #[.agg #[I a.Kind,I a.A,I a.B,v1]] c0 fun c v=>∃R,Own c G F/\v=R/\RE 350 144 c R r:=by
 unfold ky at H;refine en func103 rfl rfl<|sr ?_;obtain ⟨U,X,Z,rfl⟩:=(h2).form;refine me (bx 38 [I a.Kind,I a.A,I a.B,.slice U X Z] S) ?_;rintro v10 c9 P ⟨i,rfl,T,k⟩;refine va (.nilIface)<|KA<|W.block<|KE (Q i)<|vx (l1 u_3 (k 0 _ rfl))<|bn H fun u D H=>cl (AV T a.Kind D) ?_;rintro v17 b l16 ⟨d,rfl⟩;refine vv (B (!u))<|KH H (fun E H=>?_) (fun E H=>?_)
 ·refine sr ?_;obtain ⟨v19,o⟩:=(hG.mono (P.trans l16)).get 4 (by decide);refine vx (l1 Bb o.im)<|va v19<|KG<|KL ?_;cases H;exact KC b ⟨v19,d,rfl,o⟩
 refine W.seq<|bn H fun a0 p H=>bn H fun x j H=>W.join (Jn b fun c l=>Own c G F/\l= [(9,B x)]) ?_ ?_
 ·clear H;refine Kz (Q i)<|vx (l1 u_3 ((mm k) 0 _ rfl))<|Kr (a.Kind<=4) ?_;rcases bo (decide (a.Kind<=4)) with e|e
  ·have y:=anT e p;refine vb e<|wa (Q i)<|wn<|vx (l1 u_3 ((mm k) 0 _ rfl))<|Kt (a.Kind != 2) ?_;cases y;refine Kq (a.Kind != 2) ?_;rcases bo (a.Kind != 2) with f|f
   ·have h:=anT f j;refine vb f<|wa (Qo i (0+1))<|wn<|vx (l1 u_3 ((mm k) 1 _ rfl))<|Ks (a.A<0)<|wn<|bn h fun b0 q h=>?_;rcases bo (decide (a.A<0)) with g|g
    ·obtain rfl:=orT g q;refine vb g<|pz<|ps<|Kt true ?_;cases h;exact vv (B true)<|KB b ⟨d,rfl⟩
    have z:=orF g q;refine vb g<|wa (Qo i (0+1))<|wn<|vx (l1 u_3 ((mm k) 1 _ rfl))<|Ks (a.A>2)<|wn ?_;cases z;refine Kr (a.A>2) ?_;cases h;exact vv (B (decide (a.A>2)))<|KB b ⟨d,rfl⟩
   obtain rfl:=anF f j;exact vb f<|pz<|pz<|pz<|pz<|vv (B false)<|KB b ⟨d,rfl⟩
  obtain rfl:=anF e p;refine vb e<|pz<|ps<|Kq false ?_;have s:false=false:=rfl;obtain rfl:=anF s j;exact vb s<|pz<|pz<|pz<|pz<|vv (B false)<|KB b ⟨d,rfl⟩
 rintro e_ w_ ⟨n,e0,_,rfl,N,rfl,m,rfl⟩;refine nrm<|cn H (fun M H=>?_) (fun M H=>?_)
 ·refine sr ?_;obtain ⟨v38,t⟩:=(hG.mono (P.trans (l16.trans N))).get 2 (by decide);refine vx (l1 Bb t.im)<|va v38<|KG<|KL ?_;cases H;exact KC n ⟨v38,m,rfl,t⟩
 refine W.skip<|KJ<|KE (.nilIface)<|KG ?_;cases H;exact KC n ⟨.nilIface,m,rfl,rfl⟩
def jM (sg:Sto) (p0:Option Nat) (p1:aH):Option Sto:=
 (p0).bind fun e=>
 (sg.place_Pen[e]?).bind fun b=>
 (bQ sg b.G).bind fun f=>
 if (p1.Kind==10)=true then
 (lv sg b.G 0 f p1.A).bind fun i=>
 some i
 else
 if (p1.Kind==11)=true then
 (kV sg b.G 0 f p1.A).bind fun j=>
 some j
 else
 if (p1.Kind==8)=true then
 (kV sg b.G b.At.Row f p1.A).bind fun g=>
 (g.place_Pen[e]?).bind fun c=>
 (dJ c.At).bind fun d=>
 (g.set_place_Pen e (⟨c.G,d,c.Auto⟩:bv)).bind fun a=>
 some a
 else
 if (p1.Kind==9)=true then
 (lv sg b.G b.At.Row f p1.A).bind fun h=>
 (h.place_Pen[e]?).bind fun c=>
 (dJ c.At).bind fun d=>
 (h.set_place_Pen e (⟨c.G,d,c.Auto⟩:bv)).bind fun a=>
 some a
 else
 (dJ b.At).bind fun d=>
 (sg.set_place_Pen e (⟨b.G,d,b.Auto⟩:bv)).bind fun a=>
 some a
theorem sV (O0:Own c0 G F) (s:Rel c0 sg G) (p0:Option Nat) (f:aH){r:Sto}(h2:Pt 2 c0 v1 p0) (h4:Sl (RI .u8) c0 v3 f.Bytes) (H:jM sg p0 f=some r): KP 122 #[v1,.agg #[I f.Kind,I f.A,I f.B,v3]] c0 fun c v=>∃G_:Gm,Own c G_ F/\Rel c r G_/\v= .tuple #[]:=by
 unfold jM at H;refine en func122 rfl rfl<|sr ?_;obtain ⟨a5,a6,a7,rfl⟩:=(h4).form;refine me (bx 38 [I f.Kind,I f.A,I f.B,.slice a5 a6 a7] O0) ?_;rintro v12 q3 x ⟨t,rfl,O9,q⟩;refine wln<|KE v1<|bn H fun z3 y1 H=>?_;obtain ⟨a,rfl,l⟩:=((h2.mono x)).get y1;refine vv (Q a)<|bn H fun e z1 H=>?_;obtain ⟨v17,g,n⟩:=Rel.open_place_Pen (s.mono x) z1 l;refine vx (le1 0 fm (O9.gon g 0 rfl))<|bn H fun i b2 H=>cl (bK O9 s.m e.G n b2) ?_;rintro v26 s3 b0 ⟨k,rfl⟩;refine Ku i<|KA<|KE (Q t)<|vx (l1 u_3 ((mm q) 0 _ rfl))<|wln<|W.block<|sr<|vv (B (f.Kind==10))<|KH H (fun c2 H=>?_) (fun c2 H=>?_)
 ·refine W.seq<|rD [7] (Kp G []) k ?_;intro n1 a4 M;have u2:=(Kp.nil M);refine ta 0 (Q a)<|ta 1 (Q a)<|ta 2 (Q a)<|tkx 3 u2 (fun p h j=>le1 0 fm (j.gon g 0 rfl)) (ta 4 (I i)<|ta 5 (Qo t (0+1))<|tx 6 (fun p h=>l1 u_3 ((mm q) 1 _ rfl))<|bn H fun j3 d2 H=>o1 7 (gc 7 (sy M s.m e.G 0 i f.A n.m d2) ?_));rintro v37 q1 b4 ⟨z0,c1,j1,rfl⟩;refine ⟨.inl rfl,dn (nrm<|W.ret<|KL ?_)⟩;cases H;exact r0<|qq q1 ⟨z0,c1,j1,rfl⟩
 refine sr<|vv (B (f.Kind==11))<|KH H (fun e2 H=>?_) (fun e2 H=>?_)
 ·refine W.seq<|rD [7] (Kp G []) k ?_;intro s1 c4 N;have v2:=(Kp.nil N);refine ta 0 (Q a)<|ta 1 (Q a)<|ta 2 (Q a)<|tkx 3 v2 (fun p h j=>le1 0 fm (j.gon g 0 rfl)) (ta 4 (I i)<|ta 5 (Qo t (0+1))<|tx 6 (fun p h=>l1 u_3 ((mm q) 1 _ rfl))<|bn H fun k3 f2 H=>o1 7 (gc 7 (tQ N s.m e.G 0 i f.A n.m f2) ?_));rintro v48 t1 d4 ⟨a1,d1,k1,rfl⟩;refine ⟨.inl rfl,dn (nrm<|W.ret<|KL ?_)⟩;cases H;exact r0<|qq t1 ⟨a1,d1,k1,rfl⟩
 refine sr<|vv (B (f.Kind==8))<|KH H (fun g2 H=>?_) (fun g2 H=>?_)
 ·refine rD [12] (Kp G []) k ?_;intro u1 e4 P;have g0:=(Kp.nil P);refine ta 0 (Q a)<|ta 1 (Q a)<|ta 2 (Q a)<|tkx 3 g0 (fun p h j=>le1 0 fm (j.gon g 0 rfl)) (ta 4 (Q a)<|ta 5 (Q a)<|ta 6 (Qo a 1)<|ta 7 (Qo a 1)<|tkx 8 g0 (fun p h j=>le1 1 u_3 (j.gon g 0 rfl)) (ta 9 (I i)<|ta 10 (Qo t (0+1))<|tx 11 (fun p h=>l1 u_3 ((mm q) 1 _ rfl))<|bn H fun l3 i2 H=>o1 12 (gc 12 (tQ P s.m e.G e.At.Row i f.A n.m i2) ?_)));rintro v59 t3 f4 ⟨n3,R,U,rfl⟩;refine ⟨.inl rfl,dn (KJ<|W.region<|vv (Q a)<|va (Q a)<|Kw a 1<|bn H fun d j2 H=>?_)⟩;obtain ⟨D,Z,k2⟩:=Rel.open_place_Pen U j2 (tm l);refine vx (leN 29 1 [I d.At.Row,I d.At.Col,B d.At.Pending] (R.gon Z 0 rfl))<|bn H fun b l2 H=>cl (kO R d.At l2) ?_;rintro j4 u3 d0 ⟨e1,rfl⟩;refine va (Q a)<|Kw a 1<|md (gB 29 1 [I b.Row,I b.Col,B b.Pending] [D,I b.Row,I b.Col,B b.Pending,B d.Auto] 0 e1 Z ⟨rfl,rfl,rfl,trivial⟩) ?_;rintro w1 e0 f1;refine bn H fun o m2 H=>?_;obtain ⟨b1,g1,m1,y3,p3⟩:=Rel.put_place_Pen f1 (U.mono (d0.trans e0)) (E':=[(Eb a 126 [D,I b.Row,I b.Col,B b.Pending,B d.Auto])]) m2 ⟨a,D,(tm l),rfl,(k2.mono (d0.trans e0))⟩;refine WL.nil ?_;cases H;exact n0<|qq w1 ⟨b1,g1,m1,rfl⟩
 refine sr<|vv (B (f.Kind==9))<|KH H (fun n2 H=>?_) (fun n2 H=>?_)
 ·refine rD [12] (Kp G []) k ?_;intro x1 g4 S;have h0:=(Kp.nil S);refine ta 0 (Q a)<|ta 1 (Q a)<|ta 2 (Q a)<|tkx 3 h0 (fun p h j=>le1 0 fm (j.gon g 0 rfl)) (ta 4 (Q a)<|ta 5 (Q a)<|ta 6 (Qo a 1)<|ta 7 (Qo a 1)<|tkx 8 h0 (fun p h j=>le1 1 u_3 (j.gon g 0 rfl)) (ta 9 (I i)<|ta 10 (Qo t (0+1))<|tx 11 (fun p h=>l1 u_3 ((mm q) 1 _ rfl))<|bn H fun m3 o2 H=>o1 12 (gc 12 (sy S s.m e.G e.At.Row i f.A n.m o2) ?_)));rintro k4 w3 i4 ⟨o3,T,X,rfl⟩;refine ⟨.inl rfl,dn (KJ<|W.region<|vv (Q a)<|va (Q a)<|Kw a 1<|bn H fun d p2 H=>?_)⟩;obtain ⟨E,a0,q2⟩:=Rel.open_place_Pen X p2 (tm l);refine vx (leN 29 1 [I d.At.Row,I d.At.Col,B d.At.Pending] (T.gon a0 0 rfl))<|bn H fun b s2 H=>cl (kO T d.At s2) ?_;rintro h3 x3 f0 ⟨i1,rfl⟩;refine va (Q a)<|Kw a 1<|md (gB 29 1 [I b.Row,I b.Col,B b.Pending] [E,I b.Row,I b.Col,B b.Pending,B d.Auto] 0 i1 a0 ⟨rfl,rfl,rfl,trivial⟩) ?_;rintro u0 u k0;refine bn H fun o w0 H=>?_;obtain ⟨i0,l0,s0,d3,x2⟩:=Rel.put_place_Pen k0 (X.mono (f0.trans u)) (E':=[(Eb a 126 [E,I b.Row,I b.Col,B b.Pending,B d.Auto])]) w0 ⟨a,E,(tm l),rfl,(q2.mono (f0.trans u))⟩;refine WL.nil ?_;cases H;exact n0<|qq u0 ⟨i0,l0,s0,rfl⟩
 refine W.skip<|KJ<|W.region<|vv (Q a)<|va (Q a)<|Kw a 1<|vx (leN 29 1 [I e.At.Row,I e.At.Col,B e.At.Pending] (k.gon g 0 rfl))<|bn H fun b x0 H=>cl (kO k e.At x0) ?_;rintro i3 c3 y ⟨m0,rfl⟩;refine va (Q a)<|Kw a 1<|md (gB 29 1 [I b.Row,I b.Col,B b.Pending] [v17,I b.Row,I b.Col,B b.Pending,B e.Auto] 0 m0 g ⟨rfl,rfl,rfl,trivial⟩) ?_;rintro v0 z o0;refine bn H fun o y0 H=>?_;obtain ⟨j0,q0,t0,e3,y2⟩:=Rel.put_place_Pen o0 (s.mono (x.trans (b0.trans (y.trans z)))) (E':=[(Eb a 126 [v17,I b.Row,I b.Col,B b.Pending,B e.Auto])]) y0 ⟨a,v17,(tm l),rfl,(n.mono (b0.trans (y.trans z)))⟩;refine WL.nil ?_;cases H;exact n0<|qq v0 ⟨j0,q0,t0,rfl⟩
def mS (sg:Sto) (p0:Option Nat) (p1:Int):Option Sto:=
 (p0).bind fun f=>
 (sg.place_Pen[f]?).bind fun b=>
 (bF sg b.G b.At.Row).bind fun a=>
 if (p1==0)=true then
 (mu sg a b.At.Col).bind fun c=>
 some c
 else
 if (p1==1)=true then
 (mZ sg a b.At.Col).bind fun d=>
 some d
 else
 (lA sg a).bind fun e=>
 some e
theorem we (O0:Own c0 G F) (h:Rel c0 sg G) (hG:Gl [2,4] c0) (Z:Option Nat) (d:Int){r:Sto}(h2:Pt 2 c0 v1 Z) (H:mS sg Z d=some r): KP 190 #[v1,I d] c0 fun c v=>∃G_:Gm,Own c G_ F/\Rel c r G_/\v= .tuple #[]:=by
 unfold mS at H;refine en func190 rfl rfl<|W.seq<|rD [] (Kp G []) O0 ?_;intro c3 X q;have p5:=(Kp.nil q);refine ta 0 v1<|bn H fun o0 h8 H=>?_;obtain ⟨a,rfl,h7⟩:=((h2.mono X)).get h8;refine ta 1 (Q a)<|ta 2 (Q a)<|bn H fun g h9 H=>?_;obtain ⟨v10,f,E⟩:=Rel.open_place_Pen (h.mono X) h9 h7;refine tkx 3 p5 (fun c' U j=>le1 0 fm (j.gon f 0 rfl)) (ta 4 (Q a)<|ta 5 (Q a)<|ta 6 (Qo a 1)<|ta 7 (Qo a 1)<|tkx 8 p5 (fun c' U j=>le1 1 u_3 (j.gon f 0 rfl)) (bn H fun e M H=>o1 9 (gc 9 (dk q h.m g.G g.At.Row E M) ?_)));rintro v14 y q0 ⟨_,b,rfl,i⟩;have a0:=(Kp.nil b);refine ⟨.inr a0,ta 10 v14 (dn (nrm<|KD d<|wln<|W.block<|sr<|vv (B (d==0))<|KH H (fun N H=>?_) (fun N H=>?_)))⟩
 ·refine Kz v14<|vv (Q a)<|Kw a 1<|Kw a 2<|vx (le1 2 u_3 (b.gon f 0 rfl))<|bn H fun k0 P H=>cl (xQ b h.m (hG.m.le (by decide)) e g.At.Col i P) ?_;rintro v30 z s0 ⟨k,o,t,rfl⟩;refine WL.nil<|bkn ?_;cases H;exact n0<|qq z ⟨k,o,t,rfl⟩
 refine sr<|vv (B (d==1))<|KH H (fun R H=>?_) (fun R H=>?_)
 ·refine Kz v14<|vv (Q a)<|Kw a 1<|Kw a 2<|vx (le1 2 u_3 (b.gon f 0 rfl))<|bn H fun l0 S H=>cl (zq b h.m (hG.m.le (by decide)) e g.At.Col i S) ?_;rintro v38 A t0 ⟨l,p,u,rfl⟩;refine WL.nil<|bkn ?_;cases H;exact n0<|qq A ⟨l,p,u,rfl⟩
 refine Kz v14<|bn H fun m0 T H=>cl (wd b h.m (hG.m.le (by decide)) e i T) ?_;rintro v45 D u0 ⟨n,s,x,rfl⟩;refine WL.nil<|bkn ?_;cases H;exact n0<|qq D ⟨n,s,x,rfl⟩
def oe (sg:Sto) (p0:Option Nat) (p1:Int):Option Sto:=
 (mS sg p0 p1).bind fun c=>
 (p0).bind fun b=>
 (c.place_Pen[b]?).bind fun p=>
 (bQ c p.G).bind fun d=>
 (cH (σ:=Int×Sto) (τ:=Sto) ((d-0).toNat+1) (fun a=>
 if decide (a.1<d) then
 ((orE (p1==2) ((bL (p1==0) ((a.2.place_Pen[b]?).bind fun j=>
 some (decide (a.1>j.At.Row)))).bind fun f=>
 some f)).bind fun e=>
 (orE e ((bL (p1==1) ((a.2.place_Pen[b]?).bind fun k=>
 some (decide (a.1<k.At.Row)))).bind fun h=>
 some h)).bind fun g=>
 if g then
 (a.2.place_Pen[b]?).bind fun l=>
 (bF a.2 l.G a.1).bind fun m=>
 (lA a.2 m).bind fun n=>
 some n
 else
 some a.2).bind fun o=>
 some (.inl ((w64 (a.1+1)),o))
 else
 some (.inr a.2)) (0,c)).bind fun i=>
 some i
theorem xS (O0:Own c0 G F) (R0:Rel c0 sg G) (hG:Gl [2,4] c0) (p0:Option Nat) (f:Int){r:Sto}(h2:Pt 2 c0 v1 p0) (H:oe sg p0 f=some r): KP 191 #[v1,I f] c0 fun c v=>∃G_:Gm,Own c G_ F/\Rel c r G_/\v= .tuple #[]:=by
 unfold oe at H;refine en func191 rfl rfl<|KE v1<|Ku f<|bn H fun s3 h3 H=>cl (we O0 R0 (hG.le (by decide)) p0 f h2 h3) ?_;rintro v9 c8 l8 ⟨G4,O5,R6,rfl⟩;refine wln<|KE v1<|bn H fun f3 j1 H=>?_;obtain ⟨b,rfl,n⟩:=((h2.mono l8)).get j1;refine vv (Q b)<|bn H fun l2 k1 H=>?_;obtain ⟨v14,n1,m1⟩:=Rel.open_place_Pen R6 k1 n;refine vx (le1 0 fm (O5.gon n1 0 rfl))<|bn H fun A q1 H=>cl (bK O5 R6 l2.G m1 q1) ?_;rintro v23 R g3 ⟨x0,rfl⟩;refine Ku 0<|wln<|W.block<|bn H fun v2 U T=>lp U (fun a=>Jn R fun c l=>∃G_,Own c G_ F/\l= [(0,Q b),(1,I f),(12,I A),(13,I a.1)]/\Rel c a.2 G_) (fun S ex e w=>ex= .exit 0/\(Jn R fun c l=>∃G_,Own c G_ F/\l= []/\Rel c S G_) e w) ?_ ?_ ?_
 ·clear T U;intro a t3 i1 m2 H;revert i1 m2;rintro e_ w_ ⟨i,y2,_,rfl,i3,rfl,D,g,rfl,j⟩;refine sr<|Kr (a.1<A)<|KA<|cn H (fun t1 H=>?_) (fun t1 H=>?_)
  ·refine KI<|bn H fun t0 d w0=>W.seqJ (Jn i fun c l=>∃G_,Own c G_ F/\l= [(0,Q b),(1,I f),(12,I A),(13,I a.1)]/\Rel c t0 G_) ?_ ?_
   ·refine W.block<|sr<|vv (I a.1)<|KA<|bn d fun q2 X d=>bn d fun j0 z d=>W.join (Jn i fun c l=>Own c D F/\l= [(0,Q b),(1,I f),(4,I a.1),(12,I A),(13,I a.1),(43,B j0)]) ?_ ?_
    ·clear d;refine KF f<|Kq (f==2) ?_;rcases bo (f==2) with o|o
     ·obtain rfl:=orT o X;refine vb o<|pz<|pz<|pz<|pz<|pz<|ps<|Kq true ?_;have Z:true=true:=rfl;obtain rfl:=orT Z z;exact vb Z<|pz<|pz<|pz<|pz<|pz<|ps<|Kq true<|KB i ⟨g,rfl⟩
     have u:=orF o X;refine vb o<|wa (I f)<|Kt (f==0)<|wn<|bn u fun s2 a0 u=>?_;rcases bo (f==0) with p|p
     ·have E:=anT p a0;refine vb p<|wa (I a.1)<|wa (Q b)<|wa (Q b)<|wa (Qo b 1)<|wa (Qo b 1)<|wn<|bn E fun k u1 E=>?_;obtain ⟨v44,w1,c3⟩:=Rel.open_place_Pen j u1 (tm n);refine vx (le1 1 u_3 (g.gon w1 0 rfl))<|Ks (a.1>k.At.Row)<|wn ?_;cases E;refine Kr (a.1>k.At.Row) ?_;cases u;refine Kr (a.1>k.At.Row) ?_;rcases bo (decide (a.1>k.At.Row)) with q|q
      ·obtain rfl:=orT q z;exact vb q<|pz<|pz<|pz<|pz<|pz<|ps<|Kq true<|KB i ⟨g,rfl⟩
      have x:=orF q z;refine vb q<|wa (I f)<|Kt (f==1)<|wn<|bn x fun k0 b0 x=>?_;rcases bo (f==1) with s|s
      ·have M:=anT s b0;refine vb s<|wa (I a.1)<|wa (Q b)<|wa (Q b)<|wa (Qo b 1)<|wa (Qo b 1)<|wn<|bn M fun h x1 M=>?_;obtain ⟨v53,y1,d3⟩:=Rel.open_place_Pen j x1 (tm n);refine vx (le1 1 u_3 (g.gon y1 0 rfl))<|Ks (a.1<h.At.Row)<|wn ?_;cases M;refine Kr (a.1<h.At.Row) ?_;cases x;exact Kr (a.1<h.At.Row)<|KB i ⟨g,rfl⟩
      obtain rfl:=anF s b0;refine vb s<|pz<|pz<|pz<|ps<|Kt false ?_;cases x;exact Kq false<|KB i ⟨g,rfl⟩
     obtain rfl:=anF p a0;refine vb p<|pz<|pz<|pz<|ps<|Kt false ?_;cases u;refine Kq false ?_;have d0:false=false:=rfl;have y:=orF d0 z;refine vb d0<|wa (I f)<|Kt (f==1)<|wn<|bn y fun k0 e0 y=>?_;rcases bo (f==1) with t|t
     ·have N:=anT t e0;refine vb t<|wa (I a.1)<|wa (Q b)<|wa (Q b)<|wa (Qo b 1)<|wa (Qo b 1)<|wn<|bn N fun h z1 N=>?_;obtain ⟨n3,b2,e3⟩:=Rel.open_place_Pen j z1 (tm n);refine vx (le1 1 u_3 (g.gon b2 0 rfl))<|Ks (a.1<h.At.Row)<|wn ?_;cases N;refine Kr (a.1<h.At.Row) ?_;cases y;exact Kr (a.1<h.At.Row)<|KB i ⟨g,rfl⟩
     obtain rfl:=anF t e0;refine vb t<|pz<|pz<|pz<|ps<|Kt false ?_;cases y;exact Kq false<|KB i ⟨g,rfl⟩
    rintro e_ w_ ⟨e1,z2,_,rfl,k2,rfl,P,rfl⟩;refine nrm<|cn d (fun c2 d=>?_) (fun c2 d=>?_)
    ·refine W.region<|vv (Q b)<|va (Q b)<|bn d fun m0 d2 d=>?_;obtain ⟨o3,f2,e2⟩:=Rel.open_place_Pen (j.mono k2) d2 (tm n);refine vx (le1 0 fm (P.gon f2 0 rfl))<|Ku a.1<|bn d fun s0 g2 d=>cl (dk P j.m m0.G a.1 e2 g2) ?_;rintro p3 x2 j3 ⟨_,z0,rfl,i2⟩;refine bn d fun w2 j2 d=>cl (wd z0 j.m (hG.m.le (by decide)) s0 i2 j2) ?_;rintro q3 f1 k3 ⟨u0,a1,c1,rfl⟩;refine WL.nil<|KJ ?_;cases d;exact jn f1 ⟨u0,a1,rfl,c1⟩
    refine W.skip<|KJ ?_;cases d;exact jn e1 ⟨D,P,rfl,j.m⟩
   rintro e_ w_ ⟨g1,a3,_,rfl,l3,rfl,v0,b1,rfl,d1⟩;refine W.region<|Kv (a.1+1)<|WL.nil ?_;cases w0;exact ⟨_,rfl,jn g1 ⟨v0,b1,rfl,d1⟩⟩
  refine W.exit<|thx ?_;cases H;exact ⟨_,rfl,rfl,jn i ⟨D,g,rfl,j⟩⟩
 ·exact jn R ⟨G4,x0,rfl,R6.m⟩
 rintro _ e_ w_ ⟨rfl,h1,b3,_,rfl,m3,rfl,f0,g0,rfl,h0⟩;refine bke ?_;cases T;exact n0<|qq h1 ⟨f0,g0,h0,rfl⟩
def gQ (sg:Sto) (p0:Option Nat) (p1:aH):Option Sto:=
 (p0).bind fun e=>
 (sg.place_Pen[e]?).bind fun a=>
 (bF sg a.G a.At.Row).bind fun c=>
 if (p1.Kind==2)=true then
 (ci sg a.G).bind fun f=>
 (bQ sg a.G).bind fun g=>
 (jQ p1.A p1.B f g).bind fun h=>
 (sg.set_place_Pen e (⟨a.G,h,a.Auto⟩:bv)).bind fun d=>
 some d
 else
 if (p1.Kind==3)=true then
 (mS sg p0 p1.A).bind fun i=>
 some i
 else
 if (p1.Kind==4)=true then
 (oe sg p0 p1.A).bind fun j=>
 some j
 else
 if (p1.Kind==5)=true then
 (kW sg c a.At.Col p1.A).bind fun k=>
 some k
 else
 if (p1.Kind==6)=true then
 (lq sg c a.At.Col p1.A).bind fun l=>
 some l
 else
 if (p1.Kind==7)=true then
 (lu sg c a.At.Col p1.A).bind fun m=>
 some m
 else
 if (p1.Kind==12)=true then
 (sg.set_place_Pen e (⟨a.G,a.At,p1.A != 0⟩:bv)).bind fun b=>
 some b
 else
 some sg
theorem zr (O0:Own c0 G F) (k:Rel c0 sg G) (hG:Gl [2,4] c0) (D:Option Nat) (b:aH){r:Sto}(h2:Pt 2 c0 v1 D) (h4:Sl (RI .u8) c0 v3 b.Bytes) (H:gQ sg D b=some r): KP 123 #[v1,.agg #[I b.Kind,I b.A,I b.B,v3]] c0 fun c v=>∃G_:Gm,Own c G_ F/\Rel c r G_/\v= .tuple #[]:=by
 unfold gQ at H;refine en func123 rfl rfl<|sr ?_;obtain ⟨a5,a6,a7,rfl⟩:=(h4).form;refine me (bx 38 [I b.Kind,I b.A,I b.B,.slice a5 a6 a7] O0) ?_;rintro v12 e4 q ⟨n,rfl,O9,i⟩;refine KA<|rD [] (Kp G []) O9 ?_;intro b2 s E;have e0:=(Kp.nil E);refine ta 0 v1<|bn H fun g4 n2 H=>?_;obtain ⟨a,rfl,x⟩:=((h2.mono (q.trans s))).get n2;refine ta 1 (Q a)<|ta 2 (Q a)<|bn H fun d o2 H=>?_;obtain ⟨v20,h,o⟩:=Rel.open_place_Pen (k.mono (q.trans s)) o2 x;refine tkx 3 e0 (fun l f j=>le1 0 fm (j.gon h 0 rfl)) (ta 4 (Q a)<|ta 5 (Q a)<|ta 6 (Qo a 1)<|ta 7 (Qo a 1)<|tkx 8 e0 (fun l f j=>le1 1 u_3 (j.gon h 0 rfl)) (bn H fun p p2 H=>o1 9 (gc 9 (dk E k.m d.G d.At.Row o p2) ?_)));rintro v24 U t ⟨_,g,rfl,y⟩;have d3:=(Kp.nil g);refine ⟨.inr d3,ta 10 v24 (dn (nrm<|KE (Q n)<|vx (l1 u_3 ((mm i) 0 _ rfl))<|wln<|W.block<|sr<|vv (B (b.Kind==2))<|KH H (fun q2 H=>?_) (fun q2 H=>?_)))⟩
 ·refine rD [18] (Kp G []) g ?_;intro c2 X M;have f0:=(Kp.nil M);refine ta 0 (Q a)<|ta 1 (Qo n (0+1))<|tx 2 (fun l f=>l1 u_3 ((mm i) 1 _ rfl))<|ta 3 (Qo n (0+2))<|tx 4 (fun l f=>l1 u_3 ((mm i) 2 _ rfl))<|ta 5 (Q a)<|ta 6 (Q a)<|ta 7 (Q a)<|tkx 8 f0 (fun l f j=>le1 0 fm (j.gon h 0 rfl)) (ta 10 (Q a)<|ta 11 (Q a)<|ta 12 (Q a)<|tkx 13 f0 (fun l f j=>le1 0 fm (j.gon h 0 rfl)) (bn H fun f1 s2 H=>o1 9 (gc 9 (cK M k.m d.G o.m s2) ?_)));rintro v43 d2 Z ⟨N,rfl⟩;have e3:=(Kp.nil N);refine ⟨.inr e3,bn H fun g1 t2 H=>o1 14 (gc 14 (bK N k.m d.G o.m t2) ?_)⟩;rintro v51 e2 a0 ⟨P,rfl⟩;have f3:=(Kp.nil P);refine ⟨.inr f3,bn H fun e u2 H=>o1 15 (gc 15 (tT P b.A b.B f1 g1 u2) ?_)⟩;rintro v59 f2 b0 ⟨R,rfl⟩;have g3:=(Kp.nil R);refine ⟨.inr g3,ta 16 (Q a) (ta 17 (Qo a 1)<|o1 18 (gD 18 (gB 29 1 [I e.Row,I e.Col,B e.Pending] [v20,I e.Row,I e.Col,B e.Pending,B d.Auto] 0 R h ⟨rfl,rfl,rfl,trivial⟩) ?_))⟩;rintro g2 d0 n1;refine bn H fun h1 v2 H=>?_;obtain ⟨i1,q1,w1,f4,d4⟩:=Rel.put_place_Pen n1 (k.mono (q.trans (s.trans (t.trans (X.trans (Z.trans (a0.trans (b0.trans d0)))))))) (E':=[(Eb a 126 [v20,I e.Row,I e.Col,B e.Pending,B d.Auto])]) v2 ⟨a,v20,(tm x),rfl,(o.mono (t.trans (X.trans (Z.trans (a0.trans (b0.trans d0))))))⟩;refine ⟨.inl rfl,dn (bkn ?_)⟩;cases H;exact n0<|qq g2 ⟨i1,q1,w1,rfl⟩
 refine sr<|vv (B (b.Kind==3))<|KH H (fun w2 H=>?_) (fun w2 H=>?_)
 ·refine Kz (Q a)<|Kw n (0+1)<|vx (l1 u_3 ((mm i) 1 _ rfl))<|bn H fun y3 x2 H=>cl (we g k.m (hG.m.le (by decide)) D b.A h2.m x2) ?_;rintro n4 i2 i4 ⟨j1,s1,x1,rfl⟩;refine WL.nil<|bkn ?_;cases H;exact n0<|qq i2 ⟨j1,s1,x1,rfl⟩
 refine sr<|vv (B (b.Kind==4))<|KH H (fun y2 H=>?_) (fun y2 H=>?_)
 ·refine Kz (Q a)<|Kw n (0+1)<|vx (l1 u_3 ((mm i) 1 _ rfl))<|bn H fun z3 z2 H=>cl (xS g k.m (hG.m.le (by decide)) D b.A h2.m z2) ?_;rintro o4 j2 j4 ⟨k1,t1,y1,rfl⟩;refine WL.nil<|bkn ?_;cases H;exact n0<|qq j2 ⟨k1,t1,y1,rfl⟩
 refine sr<|vv (B (b.Kind==5))<|KH H (fun a3 H=>?_) (fun a3 H=>?_)
 ·refine rD [8] (Kp G []) g ?_;intro k2 k4 S;have h3:=(Kp.nil S);refine ta 0 v24<|ta 1 (Q a)<|ta 2 (Q a)<|ta 3 (Qo a 1)<|ta 4 (Qo a 2)<|tkx 5 h3 (fun l f j=>le1 2 u_3 (j.gon h 0 rfl)) (ta 6 (Qo n (0+1))<|tx 7 (fun l f=>l1 u_3 ((mm i) 1 _ rfl))<|bn H fun a4 b3 H=>o1 8 (gc 8 (xR S k.m (hG.m.le (by decide)) p d.At.Col b.A y.m b3) ?_));rintro p4 l2 l4 ⟨m1,u1,z1,rfl⟩;refine ⟨.inl rfl,dn (bkn ?_)⟩;cases H;exact n0<|qq l2 ⟨m1,u1,z1,rfl⟩
 refine sr<|vv (B (b.Kind==6))<|KH H (fun c3 H=>?_) (fun c3 H=>?_)
 ·refine rD [8] (Kp G []) g ?_;intro m2 m4 T;have i3:=(Kp.nil T);refine ta 0 v24<|ta 1 (Q a)<|ta 2 (Q a)<|ta 3 (Qo a 1)<|ta 4 (Qo a 2)<|tkx 5 i3 (fun l f j=>le1 2 u_3 (j.gon h 0 rfl)) (ta 6 (Qo n (0+1))<|tx 7 (fun l f=>l1 u_3 ((mm i) 1 _ rfl))<|bn H fun b4 x0 H=>o1 8 (gc 8 (xu T k.m (hG.m.le (by decide)) p d.At.Col b.A y.m x0) ?_));rintro w3 t0 s3 ⟨g0,j0,o0,rfl⟩;refine ⟨.inl rfl,dn (bkn ?_)⟩;cases H;exact n0<|qq t0 ⟨g0,j0,o0,rfl⟩
 refine sr<|vv (B (b.Kind==7))<|KH H (fun y0 H=>?_) (fun y0 H=>?_)
 ·refine rD [8] (Kp G []) g ?_;intro u0 t3 u;have d1:=(Kp.nil u);refine ta 0 v24<|ta 1 (Q a)<|ta 2 (Q a)<|ta 3 (Qo a 1)<|ta 4 (Qo a 2)<|tkx 5 d1 (fun l f j=>le1 2 u_3 (j.gon h 0 rfl)) (ta 6 (Qo n (0+1))<|tx 7 (fun l f=>l1 u_3 ((mm i) 1 _ rfl))<|bn H fun c4 z0 H=>o1 8 (gc 8 (xv u k.m (hG.m.le (by decide)) p d.At.Col b.A y.m z0) ?_));rintro x3 v0 u3 ⟨h0,k0,q0,rfl⟩;refine ⟨.inl rfl,dn (bkn ?_)⟩;cases H;exact n0<|qq v0 ⟨h0,k0,q0,rfl⟩
 refine sr<|vv (B (b.Kind==12))<|KH H (fun a1 H=>?_) (fun a1 H=>?_)
 ·refine Kz (Q a)<|Kw n (0+1)<|vx (l1 u_3 ((mm i) 1 _ rfl))<|Kq (b.A != 0)<|va (Q a)<|Kw a 4<|md (gC 4 4 (B (b.A != 0)) [v20,I d.At.Row,I d.At.Col,B d.At.Pending,B (b.A != 0)] 0 g h ⟨rfl,trivial⟩) ?_;rintro w0 z l0;refine bn H fun e1 b1 H=>?_;obtain ⟨i0,m0,s0,p3,l3⟩:=Rel.put_place_Pen l0 (k.mono (q.trans (s.trans (t.trans z)))) (E':=[(Eb a 126 [v20,I d.At.Row,I d.At.Col,B d.At.Pending,B (b.A != 0)])]) b1 ⟨a,v20,(tm x),rfl,(o.mono (t.trans z))⟩;refine WL.nil<|bkn ?_;cases H;exact n0<|qq w0 ⟨i0,m0,s0,rfl⟩
 refine W.skip<|bkn ?_;cases H;exact n0<|qq U ⟨G,g,k.m,rfl⟩
def nV (sg:Sto) (p0:Option Nat) (p1:aH):Option (Sto×Er):=
 (ky p1).bind fun g=>
 if (!g.isNil)=true then
 some (sg,g)
 else
 (orE p0.isNone ((p0).bind fun i=>
 (sg.place_Pen[i]?).bind fun j=>
 some j.G.isNone)).bind fun h=>
 if h then
 some (sg,Er.nil)
 else
 (p0).bind fun d=>
 (sg.place_Pen[d]?).bind fun b=>
 (ci sg b.G).bind fun k=>
 (bQ sg b.G).bind fun l=>
 (gR b.At k l).bind fun e=>
 (sg.set_place_Pen d (⟨b.G,e,b.Auto⟩:bv)).bind fun f=>
 (f.set_place_Pen d (⟨b.G,(⟨e.Row,e.Col,false⟩:ai),b.Auto⟩:bv)).bind fun a=>
 (if (p1.Kind==8)=true then
 (jM a p0 p1).bind fun c=>
 some c
 else
 if (p1.Kind==9)=true then
 (jM a p0 p1).bind fun c=>
 some c
 else
 (if (p1.Kind==10)=true then
 some (p1.Kind==10)
 else
 some (p1.Kind==11)).bind fun o=>
 if o then
 (jM a p0 p1).bind fun c=>
 some c
 else
 (gQ a p0 p1).bind fun m=>
 some m).bind fun n=>
 some (n,Er.nil)
theorem yD (O0:Own c0 G F) (t:Rel c0 sg G) (hG:Gl [2,4] c0) (s:Option Nat) (e:aH){r:Sto×Er}(u:Pt 2 c0 v1 s) (P:Sl (RI .u8) c0 v3 e.Bytes) (H:nV sg s e=some r): KP 76 #[v1,.agg #[I e.Kind,I e.A,I e.B,v3]] c0 fun c v=>∃y1,∃G_:Gm,Own c G_ F/\Rel c r.1 G_/\v=y1/\RE 350 144 c y1 r.2:=by
 unfold nV at H;refine en func76 rfl rfl<|sr ?_;obtain ⟨a5,a6,a7,rfl⟩:=(P).form;refine me (bx 38 [I e.Kind,I e.A,I e.B,.slice a5 a6 a7] O0) ?_;rintro v12 w4 p ⟨b8,rfl,O9,k⟩;refine va (.nilIface)<|KA<|sr<|vx (lN 38 k)<|bn H fun x3 z2 H=>cl (qN O9 (hG.m.le (by decide)) e P.m z2) ?_;rintro v14 D q ⟨_,x,rfl,o0⟩;refine va v14<|wln<|KE v14<|vr (B (!x3.isNil)) (by rcases (o0).cs with ⟨h,i⟩|⟨b_,h,i⟩|⟨b_,h,i⟩ <;> (subst h; rw [i]; kernel_rfl))<|KH H (fun a3 H=>?_) (fun a3 H=>?_)
 ·refine sr<|vv v14<|KG<|thr ?_;cases H;exact KC D ⟨v14,G,x,t.m,rfl,o0⟩
 refine KI<|W.seq<|W.seq<|bn H fun n1 q0 H=>W.join (Jn D fun c l=>Own c G F/\l= [(0,v1),(3,Q b8),(19,B n1)]) ?_ ?_
 ·clear H;refine Kz v1<|vr (B s.isNone) (by rcases u.m.cs with ⟨h,i⟩|⟨b_,h,i⟩ <;> (subst h; rw [i]; kernel_rfl)) ?_;rcases bo s.isNone with o|o
  ·obtain rfl:=orT o q0;exact vb o<|pz<|pz<|ps<|Kq true<|KB D ⟨x,rfl⟩
  have n:=orF o q0;refine vb o<|wa v1<|wn<|bn n fun i4 c3 n=>?_;obtain ⟨m0,rfl,b3⟩:=((u.mono (p.trans q))).get c3;refine va (Q m0)<|wa (Q m0)<|wn<|bn n fun e0 d3 n=>?_;obtain ⟨v30,f3,e3⟩:=Rel.open_place_Pen (t.mono (p.trans q)) d3 b3;refine vx (le1 0 fm (x.gon f3 0 rfl))<|wn<|vr (B e0.G.isNone) (by rcases (e3).cs with ⟨h,i⟩|⟨b_,h,i⟩ <;> (subst h; rw [i]; kernel_rfl)) ?_;cases n;exact Kq e0.G.isNone<|KB D ⟨x,rfl⟩
 rintro e_ w_ ⟨s2,y4,_,rfl,U,rfl,h0,rfl⟩;refine nrm<|cn H (fun g3 H=>?_) (fun g3 H=>?_)
 ·refine KE (.nilIface)<|KG<|thr ?_;cases H;exact KC s2 ⟨.nilIface,G,h0,t.m,rfl,rfl⟩
 refine KI<|W.seq<|rD [18] (Kp G []) h0 ?_;intro t2 X i0;have f0:=(Kp.nil i0);refine ta 0 v1<|ta 1 v1<|bn H fun j4 h3 H=>?_;obtain ⟨a,rfl,S⟩:=((u.mono (p.trans (q.trans (U.trans X))))).get h3;refine ta 2 (Q a)<|ta 3 (Qo a 1)<|bn H fun d i3 H=>?_;obtain ⟨v47,N,M⟩:=Rel.open_place_Pen (t.mono (p.trans (q.trans (U.trans X)))) i3 S;refine tkx 4 f0 (fun c' s0 T=>leN 29 1 [I d.At.Row,I d.At.Col,B d.At.Pending] (T.gon N 0 rfl)) (ta 5 (Q a)<|ta 6 (Q a)<|ta 7 (Q a)<|tkx 8 f0 (fun c' s0 T=>le1 0 fm (T.gon N 0 rfl)) (ta 10 (Q a)<|ta 11 (Q a)<|ta 12 (Q a)<|tkx 13 f0 (fun c' s0 T=>le1 0 fm (T.gon N 0 rfl)) (bn H fun z1 j3 H=>o1 9 (gc 9 (cK i0 t.m d.G M j3) ?_))));rintro v56 u2 Z ⟨j0,rfl⟩;have s3:=(Kp.nil j0);refine ⟨.inr s3,bn H fun b2 k3 H=>o1 14 (gc 14 (bK j0 t.m d.G M.m k3) ?_)⟩;rintro c5 v2 a0 ⟨k0,rfl⟩;have t3:=(Kp.nil k0);refine ⟨.inr t3,bn H fun b l3 H=>o1 15 (gc 15 (fa k0 d.At z1 b2 l3) ?_)⟩;rintro d5 w2 b0 ⟨l0,rfl⟩;have u3:=(Kp.nil l0);refine ⟨.inr u3,ta 16 (Q a) (ta 17 (Qo a 1)<|o1 18 (gD 18 (gB 29 1 [I b.Row,I b.Col,B b.Pending] [v47,I b.Row,I b.Col,B b.Pending,B d.Auto] 0 l0 N ⟨rfl,rfl,rfl,trivial⟩) ?_))⟩;rintro x4 d0 k2;refine bn H fun e2 n3 H=>?_;obtain ⟨t4,l2,o2,m3,u4⟩:=Rel.put_place_Pen k2 (t.mono (p.trans (q.trans (U.trans (X.trans (Z.trans (a0.trans (b0.trans d0)))))))) (E':=[(Eb a 126 [v47,I b.Row,I b.Col,B b.Pending,B d.Auto])]) n3 ⟨a,v47,(tm S),rfl,(M.mono (Z.trans (a0.trans (b0.trans d0))))⟩;refine ⟨.inl rfl,dn (nrm<|sr<|vv (Q a)<|Kw a 1<|Kw a 3<|md (gC 4 3 (B false) [v47,I b.Row,I b.Col,B false,B d.Auto] 0 l2 m3 ⟨rfl,trivial⟩) ?_)⟩;rintro E t0 m2;refine bn H fun f2 o3 H=>?_;obtain ⟨g2,y,z,z4,v4⟩:=Rel.put_place_Pen m2 (o2.mono t0) (E':=[(Eb a 126 [v47,I b.Row,I b.Col,B false,B d.Auto])]) o3 ⟨a,v47,(tm S),rfl,(M.mono (Z.trans (a0.trans (b0.trans (d0.trans t0)))))⟩;refine wln<|bn H fun c2 f j2=>W.seqJ (Jn E fun c l=>∃G_,Own c G_ F/\l= []/\Rel c c2 G_) ?_ ?_
 ·refine KE (Q b8)<|vx (l1 u_3 ((mm k) 0 _ rfl))<|wln<|W.block<|KM<|KM<|W.block<|W.block<|W.seq<|W.seq<|sr<|vv (B (e.Kind==8))<|KH f (fun p3 f=>?_) (fun p3 f=>?_)
  ·refine W.exit<|thx<|thx<|bke<|bkn<|KJ<|KE (Q a)<|vx (lN 38 (mm k))<|bn f fun g0 q3 f=>cl (sV y z s e u.m P.m q3) ?_;rintro e5 x2 b5 ⟨i2,n2,p2,rfl⟩;refine wln<|W.exit<|bko rfl (thx<|KK ?_);cases f;exact jn x2 ⟨i2,n2,rfl,p2⟩
  refine KI<|W.seq<|sr<|vv (B (e.Kind==9))<|KH f (fun q1 f=>?_) (fun q1 f=>?_)
  ·refine W.exit<|thx<|thx<|bko rfl (bke<|KJ<|KE (Q a)<|vx (lN 38 (mm k))<|bn f fun g0 s1 f=>cl (sV y z s e u.m P.m s1) ?_);rintro p4 i1 k4 ⟨u0,y0,c1,rfl⟩;refine wln<|W.exit<|bko rfl (thx<|KK ?_);cases f;exact jn i1 ⟨u0,y0,rfl,c1⟩
  refine KI<|bn f fun d2 j g=>W.seqJ (Jn E fun c l=>Own c g2 F/\l= [(0,Q a),(3,Q b8),(48,B d2)]) ?_ ?_
  ·refine sr<|vv (B (e.Kind==10))<|KH j (fun t1 j=>?_) (fun t1 j=>?_)
   ·refine KI ?_;cases j;exact jn E ⟨y,rfl⟩
   refine W.region<|vv (B (e.Kind==11))<|wln ?_;cases j;exact jn E ⟨y,rfl⟩
  rintro e_ w_ ⟨e4,f4,_,rfl,l4,rfl,R,rfl⟩;refine cn g (fun u1 g=>?_) (fun u1 g=>?_)
  ·refine W.exit<|thx<|bko rfl (bko rfl (KK<|KE (Q a)<|vx (lN 38 (mm k))<|bn g fun g0 w1 g=>cl (sV R z.m s e u.m P.m w1) ?_));rintro q4 j1 m4 ⟨v0,z0,d1,rfl⟩;refine wln<|W.exit<|bko rfl (thx<|KK ?_);cases g;exact jn j1 ⟨v0,z0,rfl,d1⟩
  refine KI<|W.exit<|bko rfl (bko rfl (bko rfl (thx<|KK<|KE (Q a)<|vx (lN 38 (mm k))<|bn g fun s4 x1 g=>cl (zr R z.m (hG.m.le (by decide)) s e u.m P.m x1) ?_)));rintro r4 k1 n4 ⟨w0,a1,e1,rfl⟩;refine wln<|W.exit<|KK ?_;cases g;exact jn k1 ⟨w0,a1,rfl,e1⟩
 rintro e_ w_ ⟨m1,g4,_,rfl,o4,rfl,x0,b1,rfl,f1⟩;refine KE (.nilIface)<|KG ?_;cases j2;exact KC m1 ⟨.nilIface,x0,b1,f1,rfl,rfl⟩
def gj (p0:aH):Option Int:=
 (orE (decide (p0.Kind<2)) (some (decide (p0.Kind>12)))).bind fun d=>
 if d then
 some 5
 else
 (orE (p0.Kind==3) (some (p0.Kind==4))).bind fun a=>
 (bL a ((orE (decide (p0.A<0)) (some (decide (p0.A>2)))).bind fun c=>
 some c)).bind fun b=>
 if b then
 some 3
 else
 some 0
theorem rk (Z:Own c0 G F) (a:aH){r:Int}(h2:Sl (RI .u8) c0 v1 a.Bytes) (H:gj a=some r): KP 15 #[.agg #[I a.Kind,I a.A,I a.B,v1]] c0 fun c v=>Own c G F/\v=I r:=by
 unfold gj at H;refine en func15 rfl rfl<|sr ?_;obtain ⟨a3,a4,a5,rfl⟩:=(h2).form;refine me (bx 38 [I a.Kind,I a.A,I a.B,.slice a3 a4 a5] Z) ?_;rintro v10 z l9 ⟨e,rfl,S,k⟩;refine Ku 0<|KA<|W.seq<|bn H fun T s H=>W.join (Jn z fun c l=>Own c G F/\l= [(1,Q e),(10,B T)]) ?_ ?_
 ·clear H;refine Kz (Q e)<|vx (l1 u_3 (k 0 _ rfl))<|Kr (a.Kind<2) ?_;rcases bo (decide (a.Kind<2)) with f|f
  ·obtain rfl:=orT f s;exact vb f<|pz<|ps<|Kq true<|KB z ⟨S,rfl⟩
  have M:=orF f s;refine vb f<|wa (Q e)<|wn<|vx (l1 u_3 (k 0 _ rfl))<|Ks (a.Kind>12) ?_;cases M;exact Kr (a.Kind>12)<|KB z ⟨S,rfl⟩
 rintro e_ w_ ⟨b,i0,_,rfl,k0,rfl,d,rfl⟩;refine nrm<|cn H (fun U H=>?_) (fun U H=>?_)
 ·refine KD 5<|KG<|thr ?_;cases H;exact KC b ⟨d,rfl⟩
 refine KI<|W.seq<|W.seq<|bn H fun e0 t H=>bn H fun D o H=>W.join (Jn b fun c l=>Own c G F/\l= [(28,B D)]) ?_ ?_
 ·clear H;refine Kz (Q e)<|vx (l1 u_3 ((mm k) 0 _ rfl))<|Kq (a.Kind==3) ?_;rcases bo (a.Kind==3) with g|g
  ·obtain rfl:=orT g t;refine vb g<|pz<|ps<|Kq true ?_;have u:true=true:=rfl;have m:=anT u o;refine vb u<|wa (Qo e (0+1))<|wn<|vx (l1 u_3 ((mm k) 1 _ rfl))<|Ks (a.A<0)<|wn<|bn m fun E x m=>?_;rcases bo (decide (a.A<0)) with h|h
   ·obtain rfl:=orT h x;refine vb h<|pz<|ps<|Kt true ?_;cases m;exact Kq true<|KB b ⟨d,rfl⟩
   have N:=orF h x;refine vb h<|wa (Qo e (0+1))<|wn<|vx (l1 u_3 ((mm k) 1 _ rfl))<|Ks (a.A>2)<|wn ?_;cases N;refine Kr (a.A>2) ?_;cases m;exact Kr (a.A>2)<|KB b ⟨d,rfl⟩
  have P:=orF g t;refine vb g<|wa (Q e)<|wn<|vx (l1 u_3 ((mm k) 0 _ rfl))<|Kt (a.Kind==4) ?_;cases P;refine Kq (a.Kind==4) ?_;rcases bo (a.Kind==4) with i|i
  ·have n:=anT i o;refine vb i<|wa (Qo e (0+1))<|wn<|vx (l1 u_3 ((mm k) 1 _ rfl))<|Ks (a.A<0)<|wn<|bn n fun E y n=>?_;rcases bo (decide (a.A<0)) with j|j
   ·obtain rfl:=orT j y;refine vb j<|pz<|ps<|Kt true ?_;cases n;exact Kq true<|KB b ⟨d,rfl⟩
   have R:=orF j y;refine vb j<|wa (Qo e (0+1))<|wn<|vx (l1 u_3 ((mm k) 1 _ rfl))<|Ks (a.A>2)<|wn ?_;cases R;refine Kr (a.A>2) ?_;cases n;exact Kr (a.A>2)<|KB b ⟨d,rfl⟩
  obtain rfl:=anF i o;exact vb i<|pz<|pz<|pz<|pz<|Kq false<|KB b ⟨d,rfl⟩
 rintro e_ w_ ⟨q,j0,_,rfl,l0,rfl,p,rfl⟩;refine nrm<|cn H (fun X H=>?_) (fun X H=>?_)
 ·refine KD 3<|KG<|thr ?_;cases H;exact KC q ⟨p,rfl⟩
 refine KI<|KD 0<|KG ?_;cases H;exact KC q ⟨p,rfl⟩
def di (p0:aa) (p1:Int) (p2:Int) (p3:Int) (p4:Int):Option aa:=
 (idx p0.L p1).bind fun d=>
 (idx p0.L p1).bind fun b=>
 (iz d.Cells b.Wrap p2 p3 p4).bind fun a=>
 (co p0 p1 (⟨a.1,a.2⟩:aj)).bind fun c=>
 some c
theorem lZ (O0:Own c0 G F) (d:aa) (f:Int) (q:Int) (s:Int) (t:Int){r:aa}(g:Sl av c0 v1 d.L) (H:di d f q s t=some r): KP 141 #[.agg #[v1,I d.At.Row,I d.At.Col,B d.At.Pending,B d.Auto],I f,I q,I s,I t] c0 fun c v=>∃P y2,Own c G (es true av P 48 y2 r.L::F)/\v= .agg #[P,I r.At.Row,I r.At.Col,B r.At.Pending,B r.Auto]/\OA av c P y2 r.L:=by
 unfold di at H;refine en func141 rfl rfl<|sr ?_;obtain ⟨h,i,j,rfl⟩:=(g).form;refine me (bx 31 [.slice h i j,I d.At.Row,I d.At.Col,B d.At.Pending,B d.Auto] O0) ?_;rintro v10 c9 l9 ⟨b6,rfl,O7,M⟩;refine me (al 31 [Y,I 0,I 0,B false,B false] O7) ?_;rintro v14 a1 D ⟨z0,rfl,R⟩;refine KA<|rD [] (Kp G0 []) R ?_;intro e0 E S;have g1:Kp G0 [] e0:=Kp.nil0;refine ta 0 (Q b6)<|tx 1 (fun o e=>l1 fJ ((mm M) 0 _ rfl))<|ta 2 (I f)<|bn H fun t0 y H=>?_;obtain ⟨x0,g0,m0⟩:=Sl.at (g.mono (l9.trans (D.trans E))) (aS y);obtain ⟨v22,rfl,h0⟩:=g0;refine tx 3 (fun o e=>ix fJ g.m y)<|ta 4 (Qo (sb (.slice h i j)) (so (.slice h i j)+f.toNat*2))<|tx 5 (fun o e=>l1 cD ((mm m0) 0 _ rfl))<|ta 6 (Q b6)<|tx 7 (fun o e=>l1 fJ ((mm M) 0 _ rfl))<|ta 8 (I f)<|bn H fun N z H=>?_;obtain ⟨y0,i0,o0⟩:=Sl.at (g.mono (l9.trans (D.trans E))) (aS z);obtain ⟨v28,rfl,c1⟩:=i0;refine tx 9 (fun o e=>ix fJ g.m z)<|ta 10 (Qo (sb (.slice h i j)) (so (.slice h i j)+f.toNat*2+1))<|tx 11 (fun o e=>l1 u_4 ((mm o0) 1 _ rfl))<|ta 12 (I q)<|ta 13 (I s)<|ta 14 (I t)<|bn H fun b j0 H=>o1 15 (gc 15 (tE S t0.Cells N.Wrap q s t h0 j0) ?_);rintro v38 f0 d1 ⟨v31,T,rfl,A⟩;have q0:Kp G0 [] f0:=Kp.nil0;refine ⟨.inr q0,ta 16 (.tuple #[v31,B b.2]) (ta 17 v31<|ta 18 (B b.2)<|ta 19 v31<|ta 20 (B b.2)<|dn (nrm<|sr<|vx (lN 31 (mm M))<|Ku f<|va v31<|Kq b.2 ?_))⟩;obtain ⟨Z,a0,b0,rfl⟩:=(A).form;refine va (.agg #[.slice Z a0 b0,B b.2])<|bn H fun a k0 H=>cl (gS T d f (⟨b.1,b.2⟩:aj) g.m A k0) ?_;rintro v52 b1 e1 ⟨v44,s0,U,rfl,p⟩;obtain ⟨k,l,n,rfl⟩:=(p).form;refine md (sA 31 [.slice k l n,I a.At.Row,I a.At.Col,B a.At.Pending,B a.Auto] 1 U ⟨(p).one,rfl,rfl,rfl,rfl,trivial⟩) ?_;rintro x f1 u;refine KG ?_;obtain rfl:=si H;have X:=u.sD 2 [0];exact km (c:=x) (vs:=[.slice k l n,I a.At.Row,I a.At.Col,B a.At.Pending,B a.Auto]) rfl (by kernel_rfl) (by kernel_rfl) (by kernel_rfl) (u.on 1 rfl _ rfl).1 ⟨_,x,rfl,rfl,pt,(.slice k l n),s0,X,rfl,p.m⟩
def gi (p0:aa) (p1:Int) (p2:Int):Option aa:=
 (idx ([2,1,3]:List Int) p2).bind fun k=>
 (di p0 p0.At.Row k p0.At.Col 0).bind fun b=>
 (cH (σ:=Int×(List aj)×Int×Int×Bool×Bool) (τ:=((List aj)×Int×Int×Bool×Bool)) (((b.L.length:Int)-0).toNat+1) (fun a=>
 (bL (decide (a.1<(a.2.1.length:Int))) (some (p1==4))).bind fun f=>
 if f then
 ((orE (p2==2) ((bL (p2==0) (some (decide (a.1>a.2.2.1)))).bind fun h=>
 some h)).bind fun g=>
 (orE g ((bL (p2==1) (some (decide (a.1<a.2.2.1)))).bind fun j=>
 some j)).bind fun i=>
 if i then
 (di (⟨a.2.1,(⟨a.2.2.1,a.2.2.2.1,a.2.2.2.2.1⟩:ai),a.2.2.2.2.2⟩:aa) a.1 3 0 0).bind fun d=>
 some (d.L,d.At.Row,d.At.Col,d.At.Pending,d.Auto)
 else
 some (a.2.1,a.2.2.1,a.2.2.2.1,a.2.2.2.2.1,a.2.2.2.2.2)).bind fun e=>
 some (.inl ((w64 (a.1+1)),e.1,e.2.1,e.2.2.1,e.2.2.2.1,e.2.2.2.2))
 else
 some (.inr (a.2.1,a.2.2.1,a.2.2.2.1,a.2.2.2.2.1,a.2.2.2.2.2))) (0,b.L,b.At.Row,b.At.Col,b.At.Pending,b.Auto)).bind fun c=>
 some (⟨c.1,(⟨c.2.1,c.2.2.1,c.2.2.2.1⟩:ai),c.2.2.2.2⟩:aa)
theorem rh (O0:Own c0 G F) (b:aa) (t:Int) (g:Int){r:aa}(h2:Sl av c0 v1 b.L) (H:gi b t g=some r): KP 140 #[.agg #[v1,I b.At.Row,I b.At.Col,B b.At.Pending,B b.Auto],I t,I g] c0 fun c v=>∃y1 y2,Own c G (es true av y1 48 y2 r.L::F)/\v= .agg #[y1,I r.At.Row,I r.At.Col,B r.At.Pending,B r.Auto]/\OA av c y1 y2 r.L:=by
 unfold gi at H;refine en func140 rfl rfl<|sr ?_;obtain ⟨a3,a4,a5,rfl⟩:=(h2).form;refine me (al 31 [.slice a3 a4 a5,I b.At.Row,I b.At.Col,B b.At.Pending,B b.Auto] O0) ?_;rintro v9 c8 l8 ⟨f,rfl,O7⟩;refine me (al 31 [Y,I 0,I 0,B false,B false] O7) ?_;rintro v13 n4 t4 ⟨n,rfl,w2⟩;refine KN<|me (sl (RI .i64) 3 [[I 2],[I 1],[I 3]] ([2,1,3]:List Int) w2 ⟨rfl,rfl,rfl,trivial⟩) ?_;rintro v18 o4 u4 ⟨q,x2,b1⟩;refine va v18<|KA<|rD [12] (Kp G0 [(Eb f 31 [.slice a3 a4 a5,I b.At.Row,I b.At.Col,B b.At.Pending,B b.Auto]),es true (RI .i64) v18 3 q ([2,1,3]:List Int)]) x2 ?_;intro c3 o3 l0;have g0:Kp G0 [(Eb f 31 [.slice a3 a4 a5,I b.At.Row,I b.At.Col,B b.At.Pending,B b.Auto]),es true (RI .i64) v18 3 q ([2,1,3]:List Int)] c3:=(Kp.cons (l0.on 2 rfl) (Kp.cons (l0.on 0 rfl) Kp.nil0));refine tkx 0 g0 (fun c' f0 X=>leN 31 0 [.slice a3 a4 a5,I b.At.Row,I b.At.Col,B b.At.Pending,B b.Auto] (X.on 0 rfl)) (ta 1 (Qo f 1)<|ta 2 (Qo f 1)<|tkx 3 g0 (fun c' f0 X=>le1 1 u_3 (X.on 0 rfl)) (ta 4 v18<|ta 5 (I g)<|bn H fun e1 c1 H=>tx 6 (fun c' f0=>ixO vh b1.m c1) ?_));obtain ⟨l4,h3,s3⟩:=OA.at (b1.mono o3) c1;obtain rfl:=h3;refine AC.takeK 7 (I e1) g0 rfl (by kernel_rfl) (by kernel_rfl) (by kernel_rfl) (fun c' f0 X=>(rx (by kernel_rfl) (lM u_3 rfl (X.on 1 rfl) (b1.m.blk c1) (at1 (j:=0) s3 rfl)))) (ta 8 (Qo f 1)<|ta 9 (Qo f 2)<|tkx 10 g0 (fun c' f0 X=>le1 2 u_3 (X.on 0 rfl)) (bn H fun u i3 H=>o1 11 (gc 11 (lZ l0 b b.At.Row e1 b.At.Col 0 h2.m i3) ?_)));rintro v35 d3 v4 ⟨v27,u3,m0,rfl,d1⟩;have t3:Kp G0 [(Eb f 31 [.slice a3 a4 a5,I b.At.Row,I b.At.Col,B b.At.Pending,B b.Auto]),es true (RI .i64) v18 3 q ([2,1,3]:List Int)] d3:=(Kp.cons (m0.on 3 rfl) (Kp.cons (m0.on 1 rfl) Kp.nil0));refine ⟨.inr t3,?_⟩;obtain ⟨j1,k1,m1,rfl⟩:=(d1).form;refine o1 12 (gD 12 (sA 31 [.slice j1 k1 m1,I u.At.Row,I u.At.Col,B u.At.Pending,B u.Auto] 3 m0 ⟨(d1).one,rfl,rfl,rfl,rfl,trivial⟩) ?_);rintro z0 w4 z2;refine ⟨.inl rfl,dn (nrm<|W.seq<|KD 0<|wln<|W.block<|bn H fun d n1 i1=>lp n1 (fun a=>Jn z0 fun c l=>∃v44 s,Own c G (es true av v44 48 s a.2.1::es true (RI .i64) v18 3 q ([2,1,3]:List Int)::(Eb n 31 [Y,I 0,I 0,B false,B false])::(Eb f 31 [v44,I a.2.2.1,I a.2.2.2.1,B a.2.2.2.2.1,B a.2.2.2.2.2])::F)/\l= [(1,I t),(2,I g),(3,Q f),(6,Q n),(8,I a.1)]/\OA av c v44 s a.2.1) (fun i ex e w=>ex= .exit 0/\(Jn z0 fun c l=>∃v46 h0,Own c G (es true av v46 48 h0 i.1::es true (RI .i64) v18 3 q ([2,1,3]:List Int)::(Eb n 31 [Y,I 0,I 0,B false,B false])::(Eb f 31 [v46,I i.2.1,I i.2.2.1,B i.2.2.2.1,B i.2.2.2.2])::F)/\l= [(3,Q f),(6,Q n)]/\OA av c v46 h0 i.1) e w) ?_ ?_ ?_)⟩
 ·clear i1 n1;intro a b5 f3 v3 H;revert f3 v3;rintro e_ w_ ⟨a1,q4,_,rfl,x4,rfl,v44,s,o0,rfl,d0⟩;refine W.seq<|W.seq<|bn H fun j2 q1 H=>W.join (Jn a1 fun c l=>Own c G (es true av v44 48 s a.2.1::es true (RI .i64) v18 3 q ([2,1,3]:List Int)::(Eb n 31 [Y,I 0,I 0,B false,B false])::(Eb f 31 [v44,I a.2.2.1,I a.2.2.2.1,B a.2.2.2.2.1,B a.2.2.2.2.2])::F)/\l= [(1,I t),(2,I g),(3,Q f),(6,Q n),(8,I a.1),(30,B j2)]) ?_ ?_
  ·clear H;refine KF a.1<|va (Q f)<|vx (le1 0 fJ (o0.on 3 rfl))<|vx (lnO 3 fJ d0)<|Kr (a.1<(a.2.1.length:Int)) ?_;rcases bo (decide (a.1<(a.2.1.length:Int))) with y|y
   ·have q2:=anT y q1;refine vb y<|wa (I t)<|Kt (t==4) ?_;cases q2;exact Kq (t==4)<|KB a1 ⟨o0,rfl⟩
   obtain rfl:=anF y q1;exact vb y<|pz<|Kq false<|KB a1 ⟨o0,rfl⟩
  rintro e_ w_ ⟨o,r4,_,rfl,p3,rfl,k,rfl⟩;refine nrm<|cn H (fun j3 H=>?_) (fun j3 H=>?_)
  ·refine KI<|bn H fun p h s2=>W.seqJ (Jn o fun c l=>∃N i0,Own c G (es true av N 48 i0 p.1::es true (RI .i64) v18 3 q ([2,1,3]:List Int)::(Eb n 31 [Y,I 0,I 0,B false,B false])::(Eb f 31 [N,I p.2.1,I p.2.2.1,B p.2.2.2.1,B p.2.2.2.2])::F)/\l= [(1,I t),(2,I g),(3,Q f),(6,Q n),(8,I a.1)]/\OA av c N i0 p.1) ?_ ?_
   ·refine W.block<|W.seq<|bn h fun c4 s1 h=>bn h fun k2 e0 h=>W.join (Jn o fun c l=>Own c G (es true av v44 48 s a.2.1::es true (RI .i64) v18 3 q ([2,1,3]:List Int)::(Eb n 31 [Y,I 0,I 0,B false,B false])::(Eb f 31 [v44,I a.2.2.1,I a.2.2.2.1,B a.2.2.2.2.1,B a.2.2.2.2.2])::F)/\l= [(1,I t),(2,I g),(3,Q f),(6,Q n),(8,I a.1),(56,B k2)]) ?_ ?_
    ·clear h;refine KF g<|Kq (g==2) ?_;rcases bo (g==2) with z|z
     ·obtain rfl:=orT z s1;refine vb z<|pz<|pz<|pz<|pz<|ps<|Kq true ?_;have t1:true=true:=rfl;obtain rfl:=orT t1 e0;exact vb t1<|pz<|pz<|pz<|pz<|ps<|Kq true<|KB o ⟨k,rfl⟩
     have Z:=orF z s1;refine vb z<|wa (I g)<|Kt (g==0)<|wn<|bn Z fun d4 u1 Z=>?_;rcases bo (g==0) with A|A
     ·have t2:=anT A u1;refine vb A<|wa (I a.1)<|wa (Qo f 1)<|wa (Qo f 1)<|wn<|vx (le1 1 u_3 (k.on 3 rfl))<|Ks (a.1>a.2.2.1)<|wn ?_;cases t2;refine Kr (a.1>a.2.2.1) ?_;cases Z;refine Kr (a.1>a.2.2.1) ?_;rcases bo (decide (a.1>a.2.2.1)) with D|D
      ·obtain rfl:=orT D e0;exact vb D<|pz<|pz<|pz<|pz<|ps<|Kq true<|KB o ⟨k,rfl⟩
      have a0:=orF D e0;refine vb D<|wa (I g)<|Kt (g==1)<|wn<|bn a0 fun l2 w1 a0=>?_;rcases bo (g==1) with E|E
      ·have u2:=anT E w1;refine vb E<|wa (I a.1)<|wa (Qo f 1)<|wa (Qo f 1)<|wn<|vx (le1 1 u_3 (k.on 3 rfl))<|Ks (a.1<a.2.2.1)<|wn ?_;cases u2;refine Kr (a.1<a.2.2.1) ?_;cases a0;exact Kr (a.1<a.2.2.1)<|KB o ⟨k,rfl⟩
      obtain rfl:=anF E w1;refine vb E<|pz<|pz<|ps<|Kt false ?_;cases a0;exact Kq false<|KB o ⟨k,rfl⟩
     obtain rfl:=anF A u1;refine vb A<|pz<|pz<|ps<|Kt false ?_;cases Z;refine Kq false ?_;have x1:false=false:=rfl;have b0:=orF x1 e0;refine vb x1<|wa (I g)<|Kt (g==1)<|wn<|bn b0 fun l2 z1 b0=>?_;rcases bo (g==1) with M|M
     ·have v2:=anT M z1;refine vb M<|wa (I a.1)<|wa (Qo f 1)<|wa (Qo f 1)<|wn<|vx (le1 1 u_3 (k.on 3 rfl))<|Ks (a.1<a.2.2.1)<|wn ?_;cases v2;refine Kr (a.1<a.2.2.1) ?_;cases b0;exact Kr (a.1<a.2.2.1)<|KB o ⟨k,rfl⟩
     obtain rfl:=anF M z1;refine vb M<|pz<|pz<|ps<|Kt false ?_;cases b0;exact Kq false<|KB o ⟨k,rfl⟩
    rintro e_ w_ ⟨e3,s4,_,rfl,q3,rfl,q0,rfl⟩;refine nrm<|cn h (fun k3 h=>?_) (fun k3 h=>?_)
    ·refine W.region<|vx (leN 31 0 [v44,I a.2.2.1,I a.2.2.2.1,B a.2.2.2.2.1,B a.2.2.2.2.2] (q0.on 3 rfl))<|Ku a.1 ?_;obtain ⟨p4,m3,y4,b3,l3⟩:=q0.frz 0 rfl (d0.mono (p3.trans q3));refine WL.gh m3 (bn h fun x n3 h=>cl (lZ b3 (⟨a.2.1,(⟨a.2.2.1,a.2.2.2.1,a.2.2.2.2.1⟩:ai),a.2.2.2.2.2⟩:aa) a.1 3 0 0 l3 n3) ?_);rintro m4 z3 g4 ⟨z4,n2,b2,rfl,T⟩;obtain ⟨s0,t0,u0,rfl⟩:=(T).form;refine md (sA 31 [.slice s0 t0 u0,I x.At.Row,I x.At.Col,B x.At.Pending,B x.Auto] 4 b2 ⟨(T).one,rfl,rfl,rfl,rfl,trivial⟩) ?_;rintro g2 h4 c2;refine WL.nil<|KJ ?_;cases h;have d2:=c2.sD 5 [0,2,3,4];exact jn g2 ⟨(.slice s0 t0 u0),n2,d2,rfl,T.m⟩
    refine W.skip<|KJ ?_;cases h;exact jn e3 ⟨v44,s,q0,rfl,d0.m⟩
   rintro e_ w_ ⟨i2,e4,_,rfl,i4,rfl,N,i0,e2,rfl,m2⟩;refine KF a.1<|Kv (a.1+1)<|WL.nil ?_;cases s2;exact ⟨_,rfl,jn i2 ⟨N,i0,e2,rfl,m2⟩⟩
  refine W.exit<|thx ?_;cases H;exact ⟨_,rfl,rfl,jn o ⟨v44,s,k,rfl,d0.m⟩⟩
 ·exact jn z0 ⟨(.slice j1 k1 m1),u3,z2,rfl,d1.m⟩
 rintro _ e_ w_ ⟨rfl,b4,f4,_,rfl,j4,rfl,v46,h0,j0,rfl,U⟩;refine KK<|sr<|vx (leN 31 0 [v46,I d.2.1,I d.2.2.1,B d.2.2.2.1,B d.2.2.2.2] (j0.on 3 rfl)) ?_;obtain ⟨P,R,S,rfl⟩:=(U).form;refine md (sA 31 [.slice P R S,I d.2.1,I d.2.2.1,B d.2.2.2.1,B d.2.2.2.2] 2 j0 ⟨(U).one,rfl,rfl,rfl,rfl,trivial⟩) ?_;rintro y0 k4 k0;refine KG ?_;cases i1;have f2:=k0.sD 4 [0];exact km (c:=y0) (vs:=[.slice P R S,I d.2.1,I d.2.2.1,B d.2.2.2.1,B d.2.2.2.2]) rfl (by kernel_rfl) (by kernel_rfl) (by kernel_rfl) (k0.on 2 rfl _ rfl).1 ⟨_,y0,rfl,rfl,pt,(.slice P R S),h0,f2,rfl,U.m⟩
def gA (p0:aa) (p1:aH):Option aa:=
 (cp p0).bind fun a=>
 (idx a.L a.At.Row).bind fun c=>
 (if (p1.Kind==2)=true then
 (cX (⟨a.L,(⟨a.At.Row,a.At.Col,false⟩:ai),a.Auto⟩:aa)).bind fun o=>
 (fA (⟨p1.A,p1.B,false⟩:ai) o (a.L.length:Int)).bind fun h=>
 some (c.Cells,false,a.L,h.Row,h.Col,h.Pending,a.Auto)
 else
 (if (p1.Kind==3)=true then
 some (p1.Kind==3)
 else
 some (p1.Kind==4)).bind fun p=>
 if p then
 (gi (⟨a.L,(⟨a.At.Row,a.At.Col,false⟩:ai),a.Auto⟩:aa) p1.Kind p1.A).bind fun f=>
 some (c.Cells,false,f.L,f.At.Row,f.At.Col,f.At.Pending,f.Auto)
 else
 if (p1.Kind==5)=true then
 (di (⟨a.L,(⟨a.At.Row,a.At.Col,false⟩:ai),a.Auto⟩:aa) a.At.Row 4 a.At.Col p1.A).bind fun g=>
 some (c.Cells,false,g.L,g.At.Row,g.At.Col,g.At.Pending,g.Auto)
 else
 if (p1.Kind==6)=true then
 (fQ c.Cells a.At.Col p1.A).bind fun j=>
 some (j.1,j.2,a.L,a.At.Row,a.At.Col,false,a.Auto)
 else
 if (p1.Kind==7)=true then
 (fR c.Cells a.At.Col p1.A).bind fun i=>
 some (i.1,i.2,a.L,a.At.Row,a.At.Col,false,a.Auto)
 else
 (if (p1.Kind==8)=true then
 some (p1.Kind==8)
 else
 some (p1.Kind==9)).bind fun m=>
 if m then
 (em a.L a.At.Row (a.L.length:Int) p1.A (p1.Kind==9)).bind fun k=>
 some (c.Cells,false,k,a.At.Row,0,false,a.Auto)
 else
 (if (p1.Kind==10)=true then
 some (p1.Kind==10)
 else
 some (p1.Kind==11)).bind fun n=>
 if n then
 (em a.L 0 (a.L.length:Int) p1.A (p1.Kind==10)).bind fun l=>
 some (c.Cells,false,l,a.At.Row,a.At.Col,false,a.Auto)
 else
 if (p1.Kind==12)=true then
 some (c.Cells,false,a.L,a.At.Row,a.At.Col,false,p1.A != 0)
 else
 some (c.Cells,false,a.L,a.At.Row,a.At.Col,false,a.Auto)).bind fun b=>
 (if b.2.1 then
 (co (⟨b.2.2.1,(⟨b.2.2.2.1,b.2.2.2.2.1,b.2.2.2.2.2.1⟩:ai),b.2.2.2.2.2.2⟩:aa) a.At.Row (⟨b.1,false⟩:aj)).bind fun d=>
 some (d.L,d.At.Row,d.At.Col,d.At.Pending,d.Auto)
 else
 some (b.2.2.1,b.2.2.2.1,b.2.2.2.2.1,b.2.2.2.2.2.1,b.2.2.2.2.2.2)).bind fun e=>
 some (⟨e.1,(⟨e.2.1,e.2.2.1,e.2.2.2.1⟩:ai),e.2.2.2.2⟩:aa)
theorem uf (O0:Own c0 G F) (x:aa) (b:aH){r:aa}(h2:Sl av c0 v1 x.L) (h4:Sl (RI .u8) c0 v3 b.Bytes) (H:gA x b=some r): KP 90 #[.agg #[v1,I x.At.Row,I x.At.Col,B x.At.Pending,B x.Auto],.agg #[I b.Kind,I b.A,I b.B,v3]] c0 fun c v=>∃y1,Own c G F/\v= .agg #[y1,I r.At.Row,I r.At.Col,B r.At.Pending,B r.Auto]/\Sl av c y1 r.L:=by
 unfold gA at H;refine en func90 rfl rfl<|sr ?_;obtain ⟨a5,a6,a7,rfl⟩:=(h2).form;refine me (al 31 [.slice a5 a6 a7,I x.At.Row,I x.At.Col,B x.At.Pending,B x.Auto] O0) ?_;rintro v11 c8 y5 ⟨g,rfl,O9⟩;obtain ⟨d5,e5,f5,rfl⟩:=((h4.mono y5)).form;refine me (bx 38 [I b.Kind,I b.A,I b.B,.slice d5 e5 f5] O9) ?_;rintro v19 d8 k8 ⟨n,rfl,v4,p⟩;refine me (al 31 [Y,I 0,I 0,B false,B false] v4) ?_;rintro v23 e8 l8 ⟨s,rfl,b2⟩;refine KN<|vx (leN 31 0 [.slice a5 a6 a7,I x.At.Row,I x.At.Col,B x.At.Pending,B x.Auto] (b2.on 1 rfl))<|bn H fun a p5 H=>cl (dN b2 x h2.m p5) ?_;rintro v32 f8 m8 ⟨v25,w4,rfl,k⟩;obtain ⟨h,i,j,rfl⟩:=(k).form;refine md (sA 31 [.slice h i j,I a.At.Row,I a.At.Col,B a.At.Pending,B a.Auto] 1 w4 ⟨k.one,rfl,rfl,rfl,rfl,trivial⟩) ?_;rintro g8 z5 x4;refine KN<|Kw g 1<|Kw g 3<|md (sC 4 3 (B false) [.slice h i j,I a.At.Row,I a.At.Col,B false,B a.Auto] 1 x4 ⟨rfl,trivial⟩) ?_;rintro y0 b6 g0;refine KN<|vv (Qo g 1)<|vx (le1 1 u_3 (g0.on 1 rfl))<|Ku a.At.Row<|wln<|KE (Q g)<|vx (le1 0 fJ (g0.on 1 rfl))<|Ku a.At.Row<|bn H fun s1 j2 H=>?_;obtain ⟨q7,q5,d6⟩:=Sl.at (k.mono (z5.trans b6)) (aS j2);obtain ⟨v44,rfl,z⟩:=q5;refine vx (ix fJ k.m j2)<|Kw (sb (.slice h i j)) (so (.slice h i j)+a.At.Row.toNat*2)<|vx (l1 cD (d6 0 _ rfl))<|va v44<|wln<|Ky false<|wln<|bn H fun f y u4=>W.seqJ (Jn y0 fun c l=>∃v48 v49,Own c G ((Eb s 31 [Y,I 0,I 0,B false,B false])::(Eb g 31 [v48,I f.2.2.2.1,I f.2.2.2.2.1,B f.2.2.2.2.2.1,B f.2.2.2.2.2.2])::F)/\l= [(2,Q g),(4,Q s),(5,I a.At.Row),(6,v49),(7,B f.2.1)]/\Sl av c v48 f.2.2.1/\Sl ah c v49 f.1) ?_ ?_
 ·refine KE (Q n)<|vx (l1 u_3 ((mm p) 0 _ rfl))<|wln<|W.block<|sr<|vv (B (b.Kind==2))<|KH y (fun r5 y=>?_) (fun r5 y=>?_)
  ·refine rD [12] (Kp G0 [(Eb g 31 [.slice h i j,I a.At.Row,I a.At.Col,B false,B a.Auto])]) g0 ?_;intro j5 n8 c2;have k2:=(Kp.cons (c2.on 1 rfl) Kp.nil0);refine ta 0 (.pointer (some ⟨n,0+1,none⟩))<|tx 1 (fun c' z0=>l1 u_3 ((mm p) 1 _ rfl))<|ta 2 (Qo n (0+2))<|tx 3 (fun c' z0=>l1 u_3 ((mm p) 2 _ rfl))<|ta 4 (.agg #[I b.A,I b.B,B false])<|tkx 5 k2 (fun c' z0 hk=>leN 31 0 [.slice h i j,I a.At.Row,I a.At.Col,B false,B a.Auto] (hk.on 0 rfl)) (ta 7 (Q g)<|tkx 8 k2 (fun c' z0 hk=>le1 0 fJ (hk.on 0 rfl)) (tx 9 (fun c' z0=>ln 3 fJ k.m)<|bn y fun s4 s5 y=>o1 6 (gc 6 (gU c2 (⟨a.L,(⟨a.At.Row,a.At.Col,false⟩:ai),a.Auto⟩:aa) k.m s5) ?_)));rintro v60 k5 o8 ⟨d2,rfl⟩;have e6:=(Kp.cons (d2.on 1 rfl) Kp.nil0);refine ⟨.inr e6,bn y fun D t5 y=>o1 10 (gc 10 (oF d2 (⟨b.A,b.B,false⟩:ai) s4 (a.L.length:Int) t5) ?_)⟩;rintro v8 l5 p8 ⟨e2,rfl⟩;have f6:=(Kp.cons (e2.on 1 rfl) Kp.nil0);refine ⟨.inr f6,ta 11 (.pointer (some ⟨g,1,none⟩)) (o1 12 (gD 12 (sB 29 1 [I D.Row,I D.Col,B D.Pending] [.slice h i j,I D.Row,I D.Col,B D.Pending,B a.Auto] 1 e2 ⟨rfl,rfl,rfl,trivial⟩) ?_))⟩;rintro m5 q8 y4;refine ⟨.inl rfl,dn (KJ ?_)⟩;cases y;exact jn m5 ⟨(.slice h i j),v44,y4,rfl,k.m,z.m⟩
  refine bn y fun t4 f0 e=>W.seqJ (Jn y0 fun c l=>Own c G ((Eb s 31 [Y,I 0,I 0,B false,B false])::(Eb g 31 [.slice h i j,I a.At.Row,I a.At.Col,B false,B a.Auto])::F)/\l= [(2,Q g),(3,Q n),(4,Q s),(5,I a.At.Row),(6,v44),(7,B false),(22,I b.Kind),(37,B t4)]) ?_ ?_
  ·refine sr<|vv (B (b.Kind==3))<|KH f0 (fun u5 f0=>?_) (fun u5 f0=>?_)
   ·refine KI ?_;cases f0;exact jn y0 ⟨g0,rfl⟩
   refine W.region<|vv (B (b.Kind==4))<|wln ?_;cases f0;exact jn y0 ⟨g0,rfl⟩
  rintro e_ w_ ⟨k1,j8,_,rfl,r8,rfl,q,rfl⟩;refine cn e (fun v5 e=>?_) (fun v5 e=>?_)
  ·refine W.region<|vx (leN 31 0 [.slice h i j,I a.At.Row,I a.At.Col,B false,B a.Auto] (q.on 1 rfl))<|va (Q n)<|vx (l1 u_3 ((mm p) 0 _ rfl))<|Kw n (0+1)<|vx (l1 u_3 ((mm p) 1 _ rfl))<|bn e fun d0 w5 e=>cl (rh q (⟨a.L,(⟨a.At.Row,a.At.Col,false⟩:ai),a.Auto⟩:aa) b.Kind b.A k.m w5) ?_;rintro x8 h8 s8 ⟨w8,u8,z4,rfl,q1⟩;obtain ⟨f2,g2,i2,rfl⟩:=(q1).form;refine md (sA 31 [.slice f2 g2 i2,I d0.At.Row,I d0.At.Col,B d0.At.Pending,B d0.Auto] 2 z4 ⟨(q1).one,rfl,rfl,rfl,rfl,trivial⟩) ?_;rintro i8 c6 b5;refine WL.nil<|KJ ?_;cases e;obtain ⟨n5,q3,t8,c5,x5⟩:=b5.frz 0 rfl (q1.mono c6);have m2:=c5.sD 3 [1,2];exact ⟨n5,_,_,q3.symm,pt,us,(.slice f2 g2 i2),v44,m2,rfl,x5,z.m⟩
  refine sr<|vv (B (b.Kind==5))<|KH e (fun s3 e=>?_) (fun s3 e=>?_)
  ·refine W.region<|vx (leN 31 0 [.slice h i j,I a.At.Row,I a.At.Col,B false,B a.Auto] (q.on 1 rfl))<|Ku a.At.Row<|Kw g 1<|Kw g 2<|vx (le1 2 u_3 (q.on 1 rfl))<|Kw n (0+1)<|vx (l1 u_3 ((mm p) 1 _ rfl))<|bn e fun e0 t3 e=>cl (lZ q (⟨a.L,(⟨a.At.Row,a.At.Col,false⟩:ai),a.Auto⟩:aa) a.At.Row 4 a.At.Col b.A k.m t3) ?_;rintro u7 l6 y6 ⟨t7,r7,n2,rfl,s0⟩;obtain ⟨c1,d1,e1,rfl⟩:=(s0).form;refine md (sA 31 [.slice c1 d1 e1,I e0.At.Row,I e0.At.Col,B e0.At.Pending,B e0.Auto] 2 n2 ⟨(s0).one,rfl,rfl,rfl,rfl,trivial⟩) ?_;rintro m6 q4 o2;refine WL.nil<|KJ ?_;cases e;obtain ⟨i3,w3,z6,p2,u3⟩:=o2.frz 0 rfl (s0.mono q4);have q2:=p2.sD 3 [1,2];exact ⟨i3,_,_,w3.symm,pt,us,(.slice c1 d1 e1),v44,q2,rfl,u3,z.m⟩
  refine sr<|vv (B (b.Kind==6))<|KH e (fun x3 e=>?_) (fun x3 e=>?_)
  ·refine Kz v44<|Kw g 1<|Kw g 2<|vx (le1 2 u_3 (q.on 1 rfl))<|Kw n (0+1)<|vx (l1 u_3 ((mm p) 1 _ rfl))<|bn e fun x0 y3 e=>cl (qK q s1.Cells a.At.Col b.A z.m y3) ?_;rintro v7 j3 b7 ⟨X,s2,rfl,z3⟩;refine va (.tuple #[X,B x0.2])<|va X<|Kq x0.2<|va X<|Kq x0.2<|WL.nil<|KJ ?_;cases e;exact jn j3 ⟨(.slice h i j),X,s2,rfl,k.m,z3⟩
  refine sr<|vv (B (b.Kind==7))<|KH e (fun a4 e=>?_) (fun a4 e=>?_)
  ·refine Kz v44<|Kw g 1<|Kw g 2<|vx (le1 2 u_3 (q.on 1 rfl))<|Kw n (0+1)<|vx (l1 u_3 ((mm p) 1 _ rfl))<|bn e fun b0 b4 e=>cl (qL q s1.Cells a.At.Col b.A z.m b4) ?_;rintro w7 k3 c7 ⟨Z,t2,rfl,c4⟩;refine va (.tuple #[Z,B b0.2])<|va Z<|Kq b0.2<|va Z<|Kq b0.2<|WL.nil<|KJ ?_;cases e;exact jn k3 ⟨(.slice h i j),Z,t2,rfl,k.m,c4⟩
  refine bn e fun x1 M t=>W.seqJ (Jn k1 fun c l=>Own c G ((Eb s 31 [Y,I 0,I 0,B false,B false])::(Eb g 31 [.slice h i j,I a.At.Row,I a.At.Col,B false,B a.Auto])::F)/\l= [(2,Q g),(3,Q n),(4,Q s),(5,I a.At.Row),(6,v44),(7,B false),(22,I b.Kind),(80,B x1)]) ?_ ?_
  ·refine sr<|vv (B (b.Kind==8))<|KH M (fun d4 M=>?_) (fun d4 M=>?_)
   ·refine KI ?_;cases M;exact jn k1 ⟨q,rfl⟩
   refine W.region<|vv (B (b.Kind==9))<|wln ?_;cases M;exact jn k1 ⟨q,rfl⟩
  rintro e_ w_ ⟨q0,t6,_,rfl,d7,rfl,P,rfl⟩;refine cn t (fun e4 t=>?_) (fun e4 t=>?_)
  ·refine KE (Q g)<|vx (le1 0 fJ (P.on 1 rfl))<|Ku a.At.Row<|va (Q g)<|vx (le1 0 fJ (P.on 1 rfl))<|vx (ln 3 fJ k.m)<|Kw n (0+1)<|vx (l1 u_3 ((mm p) 1 _ rfl))<|va (Q n)<|vx (l1 u_3 ((mm p) 0 _ rfl))<|Kq (b.Kind==9)<|bn t fun h6 f4 t=>cl (lD P a.L a.At.Row (a.L.length:Int) b.A (b.Kind==9) k.m f4) ?_;rintro x7 n6 e7 ⟨_,u2,rfl,t0⟩;refine va (Q g) ?_;obtain ⟨S,T,U,rfl⟩:=(t0).form;refine md (sC 27 0 (.slice S T U) [.slice S T U,I a.At.Row,I a.At.Col,B false,B a.Auto] 1 u2 ⟨t0.one,trivial⟩) ?_;rintro o6 f7 v2;refine wln<|W.region<|Kw g 1<|Kw g 2<|md (sC 3 2 (I 0) [.slice S T U,I a.At.Row,I 0,B false,B a.Auto] 1 v2 ⟨rfl,trivial⟩) ?_;rintro l3 g7 w2;refine WL.nil<|KJ ?_;cases t;exact jn l3 ⟨(.slice S T U),v44,w2,rfl,t0.m,z.m⟩
  refine bn t fun z1 N o=>W.seqJ (Jn q0 fun c l=>Own c G ((Eb s 31 [Y,I 0,I 0,B false,B false])::(Eb g 31 [.slice h i j,I a.At.Row,I a.At.Col,B false,B a.Auto])::F)/\l= [(2,Q g),(3,Q n),(4,Q s),(5,I a.At.Row),(6,v44),(7,B false),(22,I b.Kind),(98,B z1)]) ?_ ?_
  ·refine sr<|vv (B (b.Kind==10))<|KH N (fun g4 N=>?_) (fun g4 N=>?_)
   ·refine KI ?_;cases N;exact jn q0 ⟨P,rfl⟩
   refine W.region<|vv (B (b.Kind==11))<|wln ?_;cases N;exact jn q0 ⟨P,rfl⟩
  rintro e_ w_ ⟨m3,u6,_,rfl,h7,rfl,R,rfl⟩;refine cn o (fun i4 o=>?_) (fun i4 o=>?_)
  ·refine Kz (Q g)<|vx (le1 0 fJ (R.on 1 rfl))<|va (Q g)<|vx (le1 0 fJ (R.on 1 rfl))<|vx (ln 3 fJ k.m)<|Kw n (0+1)<|vx (l1 u_3 ((mm p) 1 _ rfl))<|va (Q n)<|vx (l1 u_3 ((mm p) 0 _ rfl))<|Kq (b.Kind==10)<|bn o fun i6 j4 o=>cl (lD R a.L 0 (a.L.length:Int) b.A (b.Kind==10) k.m j4) ?_;rintro y7 p6 i7 ⟨_,x2,rfl,u0⟩;refine va (Q g) ?_;obtain ⟨i0,j0,k0,rfl⟩:=(u0).form;refine md (sC 27 0 (.slice i0 j0 k0) [.slice i0 j0 k0,I a.At.Row,I a.At.Col,B false,B a.Auto] 1 x2 ⟨u0.one,trivial⟩) ?_;rintro n3 j7 y2;refine WL.nil<|KJ ?_;cases o;exact jn n3 ⟨(.slice i0 j0 k0),v44,y2,rfl,u0.m,z.m⟩
  refine sr<|vv (B (b.Kind==12))<|KH o (fun k4 o=>?_) (fun k4 o=>?_)
  ·refine W.region<|Kw n (0+1)<|vx (l1 u_3 ((mm p) 1 _ rfl))<|Kq (b.A != 0)<|Kw g 4<|md (sC 4 4 (B (b.A != 0)) [.slice h i j,I a.At.Row,I a.At.Col,B false,B (b.A != 0)] 1 R ⟨rfl,trivial⟩) ?_;rintro o3 k7 z2;refine WL.nil<|KJ ?_;cases o;exact jn o3 ⟨(.slice h i j),v44,z2,rfl,k.m,z.m⟩
  refine W.skip<|KJ ?_;cases o;exact jn m3 ⟨(.slice h i j),v44,R,rfl,k.m,z.m⟩
 rintro e_ w_ ⟨i1,v6,_,rfl,l7,rfl,v48,v49,h0,rfl,m1,n1⟩;refine bn u4 fun d u l2=>W.seqJ (Jn i1 fun c l=>∃a0,Own c G ((Eb s 31 [Y,I 0,I 0,B false,B false])::(Eb g 31 [a0,I d.2.1,I d.2.2.1,B d.2.2.2.1,B d.2.2.2.2])::F)/\l= [(2,Q g),(4,Q s)]/\Sl av c a0 d.1) ?_ ?_
 ·refine Ky f.2.1<|KH u (fun l4 u=>?_) (fun l4 u=>?_)
  ·refine W.region<|vx (leN 31 0 [v48,I f.2.2.2.1,I f.2.2.2.2.1,B f.2.2.2.2.2.1,B f.2.2.2.2.2.2] (h0.on 1 rfl))<|Ku a.At.Row<|va v49 ?_;obtain ⟨f3,g3,h3,rfl⟩:=(n1).form;refine va (.agg #[.slice f3 g3 h3,B false])<|bn u fun E m4 u=>cl (gS h0 (⟨f.2.2.1,(⟨f.2.2.2.1,f.2.2.2.2.1,f.2.2.2.2.2.1⟩:ai),f.2.2.2.2.2.2⟩:aa) a.At.Row (⟨f.1,false⟩:aj) m1 n1 m4) ?_;rintro a8 q6 m7 ⟨z7,s7,a3,rfl,v0⟩;obtain ⟨f1,g1,h1,rfl⟩:=(v0).form;refine md (sA 31 [.slice f1 g1 h1,I E.At.Row,I E.At.Col,B E.At.Pending,B E.Auto] 2 a3 ⟨(v0).one,rfl,rfl,rfl,rfl,trivial⟩) ?_;rintro r6 r4 b3;refine wln ?_;cases u;obtain ⟨p3,o4,n7,c3,n4⟩:=b3.frz 0 rfl (v0.mono r4);have d3:=c3.sD 3 [1,2];exact ⟨p3,_,_,o4.symm,pt,us,(.slice f1 g1 h1),d3,rfl,n4⟩
  refine KI ?_;cases u;exact jn i1 ⟨v48,h0,rfl,m1⟩
 rintro e_ w_ ⟨s6,w6,_,rfl,o7,rfl,a0,a1,rfl,w0⟩;refine sr<|vx (leN 31 0 [a0,I d.2.1,I d.2.2.1,B d.2.2.2.1,B d.2.2.2.2] (a1.on 1 rfl)) ?_;obtain ⟨l0,m0,o0,rfl⟩:=(w0).form;refine md (sA 31 [.slice l0 m0 o0,I d.2.1,I d.2.2.1,B d.2.2.2.1,B d.2.2.2.2] 0 a1 ⟨w0.one,rfl,rfl,rfl,rfl,trivial⟩) ?_;rintro j1 p7 b1;refine KG ?_;cases l2;have e3:=b1.sD 2 [];exact km (c:=j1) (vs:=[.slice l0 m0 o0,I d.2.1,I d.2.2.1,B d.2.2.2.1,B d.2.2.2.2]) rfl (by kernel_rfl) (by kernel_rfl) (by kernel_rfl) (b1.on 0 rfl _ rfl).1 ⟨_,j1,rfl,rfl,pt,(.slice l0 m0 o0),e3,rfl,w0.m⟩
def mW (sg:Sto) (p0:Int) (p1:Int):Option (Sto×(Option Nat)):=
 (mR sg p0 p1).bind fun b=>
 (pg b.1 b.2).bind fun c=>
 (some (c.1.add_screen_Screen (⟨c.2,b.2⟩:fk))).bind fun a=>
 some (a,(some c.1.screen_Screen.length))
theorem zn (O0:Own c0 G F) (R0:Rel c0 sg G) (g:Int) (h:Int){r:Sto×(Option Nat)}(H:mW sg g h=some r): KP 32 #[I g,I h] c0 fun c v=>∃y1,∃G_:Gm,Own c G_ F/\Rel c r.1 G_/\fq G G_/\v=y1/\Pt 5 c y1 r.2:=by
 unfold mW at H;refine en func32 rfl rfl<|KE (.pointer none)<|wln<|KD g<|Ku h<|bn H fun n h1 H=>cl (wb O0 R0 g h h1) ?_;rintro v2 c8 l8 ⟨_,G4,O5,R6,a7,rfl,p⟩;have D:=(fq.refl _).trans a7;refine va v2<|wln<|KE v2<|bn H fun o R H=>cl (BK O5 R6 n.2 p R) ?_;rintro v12 j0 m ⟨_,i0,t,A,M,rfl,l⟩;have j:=D.trans M;refine va v2 ?_;obtain ⟨d,rfl⟩:=(l).form;obtain ⟨e,rfl⟩:=((p.mono m)).form;refine va (.agg #[.pointer d,.pointer e])<|me (al 131 [.pointer d,.pointer e] t) ?_;rintro v26 k0 f ⟨a,rfl,u⟩;have y:=u.sD 1 [0];refine bn H fun q S H=>?_;obtain ⟨k,s,T,o0,U,z,i,l0,X,N⟩:=Rel.new_screen_Screen (E:=[(Eb a 131 [.pointer d,.pointer e])]) (F:=F) (x:=(⟨o.2,n.2⟩:fk)) (b:=a) y (A.mono f) (fun c_ hle_=>⟨a,(.pointer d),(.pointer e),rfl,rfl,(l.mono (f.trans hle_)),(p.mono ((m.trans f).trans hle_))⟩);rw [bi S] at i;refine WL.gh T.1 ?_;have m0:=fq.nil j X;have P:=j.trans N;have Z:Pt 5 k (Q a) (some o.1.screen_Screen.length):=⟨a,rfl,U⟩;refine va (Q a)<|KG ?_;cases H;exact KC k ⟨(Q a),s,z,i,P,rfl,Z⟩
def iR (sg:Sto) (p0:Option Nat) (p1:aH):Option (Sto×Er):=
 if p0.isNone then
 some (sg,(Er.sent 7))
 else
 if (p1.Kind==0)=true then
 (p0).bind fun g=>
 (sg.screen_Screen[g]?).bind fun i=>
 (iE sg i.Feeder p1.Bytes).bind fun o=>
 some (o,Er.nil)
 else
 if (p1.Kind==1)=true then
 (p0).bind fun h=>
 (sg.screen_Screen[h]?).bind fun j=>
 (iD sg j.Feeder).bind fun p=>
 some (p,Er.nil)
 else
 if (p1.Kind==13)=true then
 (p0).bind fun a=>
 (sg.screen_Screen[a]?).bind fun k=>
 (dv sg k.Feeder).bind fun c=>
 (c.screen_Screen[a]?).bind fun l=>
 (jO c l.pen p1.A p1.B).bind fun q=>
 some (q,Er.nil)
 else
 (ky p1).bind fun d=>
 if (!d.isNil)=true then
 some (sg,d)
 else
 (p0).bind fun b=>
 (sg.screen_Screen[b]?).bind fun m=>
 (dv sg m.Feeder).bind fun e=>
 (e.screen_Screen[b]?).bind fun n=>
 (nV e n.pen p1).bind fun f=>
 some (f.1,f.2)
theorem ue (O0:Own c0 G F) (d:Rel c0 sg G) (hG:Gl [2,4,7] c0) (p0:Option Nat) (a:aH){r:Sto×Er}(t:Pt 5 c0 v1 p0) (z:Sl (RI .u8) c0 v3 a.Bytes) (H:iR sg p0 a=some r): KP 66 #[v1,.agg #[I a.Kind,I a.A,I a.B,v3]] c0 fun c v=>∃y1,∃G_:Gm,Own c G_ F/\Rel c r.1 G_/\v=y1/\RE 350 144 c y1 r.2:=by
 unfold iR at H;refine en func66 rfl rfl<|sr ?_;obtain ⟨a5,a6,a7,rfl⟩:=(z).form;refine me (bx 38 [I a.Kind,I a.A,I a.B,.slice a5 a6 a7] O0) ?_;rintro v12 s1 b ⟨y,rfl,l,h⟩;refine va (.nilIface)<|KA<|KE v1<|vr (B p0.isNone) (by rcases t.m.cs with ⟨e,f⟩|⟨b_,e,f⟩ <;> (subst e; rw [f]; kernel_rfl))<|KH H (fun c2 H=>?_) (fun c2 H=>?_)
 ·refine sr ?_;obtain ⟨v14,S⟩:=(hG.mono b).get 7 (by decide);refine vx (l1 Bb S.im)<|va v14<|KG<|thr ?_;cases H;exact KC s1 ⟨v14,G,l,d.m,rfl,S⟩
 refine KI<|W.seq<|KE (Q y)<|vx (l1 u_3 (h 0 _ rfl))<|wln<|W.block<|sr<|vv (B (a.Kind==0))<|KH H (fun d2 H=>?_) (fun d2 H=>?_)
 ·refine rD [6] (Kp G []) l ?_;intro t1 Z E;have i3:=(Kp.nil E);refine ta 0 v1<|bn H fun t3 f2 H=>?_;obtain ⟨P,rfl,e2⟩:=((t.mono (b.trans Z))).get f2;refine ta 1 (Q P)<|ta 2 (Q P)<|bn H fun u0 g2 H=>?_;obtain ⟨v24,v26,j2,i2,n4⟩:=Rel.open_screen_Screen (d.mono (b.trans Z)) g2 e2;refine tkx 3 i3 (fun n g u=>le1 0 BU (u.gon j2 0 rfl)) (ta 4 (Qo y (0+3))<|tx 5 (fun n g=>l1 iN ((mm h) 3 _ rfl))<|bn H fun f4 k2 H=>o1 6 (gc 6 (tJ E d.m (hG.m.le (by decide)) u0.Feeder a.Bytes i2 z.m k2) ?_));rintro v35 u1 r4 ⟨d1,g1,k1,rfl⟩;refine ⟨.inl rfl,dn (KJ<|KE (.nilIface)<|KG ?_)⟩;cases H;exact KC u1 ⟨.nilIface,d1,g1,k1,rfl,rfl⟩
 refine sr<|vv (B (a.Kind==1))<|KH H (fun l2 H=>?_) (fun l2 H=>?_)
 ·refine Kz v1<|bn H fun u3 n2 H=>?_;obtain ⟨R,rfl,m2⟩:=((t.mono b)).get n2;refine vv (Q R)<|bn H fun v0 o2 H=>?_;obtain ⟨v41,v43,q2,p2,o4⟩:=Rel.open_screen_Screen (d.mono b) o2 m2;refine vx (le1 0 BU (l.gon q2 0 rfl))<|bn H fun g4 s2 H=>cl (tI l d.m (hG.m.le (by decide)) v0.Feeder p2 s2) ?_;rintro v52 w1 s4 ⟨e1,h1,m1,rfl⟩;refine WL.nil<|KJ<|KE (.nilIface)<|KG ?_;cases H;exact KC w1 ⟨.nilIface,e1,h1,m1,rfl,rfl⟩
 refine sr<|vv (B (a.Kind==13))<|KH H (fun t2 H=>?_) (fun t2 H=>?_)
 ·refine KE v1<|bn H fun w3 u2 H=>?_;obtain ⟨i,rfl,T⟩:=((t.mono b)).get u2;refine vv (Q i)<|bn H fun w0 v2 H=>?_;obtain ⟨v58,v60,x2,w2,p4⟩:=Rel.open_screen_Screen (d.mono b) v2 T;refine vx (le1 0 BU (l.gon x2 0 rfl))<|bn H fun i4 y2 H=>cl (jV l d.m w0.Feeder w2 y2) ?_;rintro v4 m4 t4 ⟨D,i1,N,rfl⟩;refine wln<|rD [8] (Kp D []) i1 ?_;intro x1 h3 M;have j3:=(Kp.nil M);refine ta 0 (Q i)<|ta 1 (Q i)<|ta 2 (Qo i 1)<|bn H fun x0 z2 H=>?_;obtain ⟨w4,x4,b3,q4,a3⟩:=Rel.open_screen_Screen (N.mono h3) z2 (tm T);refine tkx 3 j3 (fun n g u=>le1 1 tK (u.gon b3 0 rfl)) (ta 4 (Qo y (0+1))<|tx 5 (fun n g=>l1 u_3 ((mm h) 1 _ rfl))<|ta 6 (Qo y (0+2))<|tx 7 (fun n g=>l1 u_3 ((mm h) 2 _ rfl))<|bn H fun j4 c3 H=>o1 8 (gc 8 (tO M N.m (hG.m.le (by decide)) x0.pen a.A a.B a3 c3) ?_));rintro y4 z1 u4 ⟨f1,j1,n1,rfl⟩;refine ⟨.inl rfl,dn (KJ<|KE (.nilIface)<|KG ?_)⟩;cases H;exact KC z1 ⟨.nilIface,f1,j1,n1,rfl,rfl⟩
 refine W.seq<|sr<|vx (lN 38 h)<|bn H fun c1 d3 H=>cl (qN l (hG.m.le (by decide)) a z.m d3) ?_;rintro k b2 a0 ⟨_,q,rfl,U⟩;refine va k<|wln<|KE k<|vr (B (!c1.isNil)) (by rcases (U).cs with ⟨e,f⟩|⟨b_,e,f⟩|⟨b_,e,f⟩ <;> (subst e; rw [f]; kernel_rfl))<|KH H (fun e3 H=>?_) (fun e3 H=>?_)
 ·refine sr<|vv k<|KG<|thr<|KL ?_;cases H;exact KC b2 ⟨k,G,q,d.m,rfl,U⟩
 refine KI<|KE v1<|bn H fun x3 f3 H=>?_;obtain ⟨j,rfl,X⟩:=((t.mono (b.trans a0))).get f3;refine vv (Q j)<|bn H fun y0 g3 H=>?_;obtain ⟨a4,b4,j0,i0,q3⟩:=Rel.open_screen_Screen (d.mono (b.trans a0)) g3 X;refine vx (le1 0 BU (q.gon j0 0 rfl))<|bn H fun k4 k0 H=>cl (jV q d.m y0.Feeder i0 k0) ?_;rintro c4 p3 y3 ⟨o,d0,s,rfl⟩;refine KA<|rD [5] (Kp o []) d0 ?_;intro g0 t0 p;have b1:=(Kp.nil p);refine ta 0 (Q j)<|ta 1 (Q j)<|ta 2 (Qo j 1)<|bn H fun z0 l0 H=>?_;obtain ⟨d4,e4,o0,s3,m0⟩:=Rel.open_screen_Screen (s.mono t0) l0 (tm X);refine tkx 3 b1 (fun n g u=>le1 1 tK (u.gon o0 0 rfl)) (tx 4 (fun n g=>lN 38 (mm h))<|bn H fun l4 q0 H=>o1 5 (gc 5 (yD p s.m (hG.m.le (by decide)) z0.pen a m0 z.m q0) ?_));rintro x h0 z3 ⟨_,b0,e0,f0,rfl,s0⟩;refine ⟨.inl rfl,ta 6 x (dn (nrm<|W.ret<|KL ?_))⟩;cases H;exact KC h0 ⟨x,b0,e0,f0,rfl,s0⟩
def fW (sg:Sto) (p0:Option Nat) (p1:List aH):Option (Sto×Er):=
 (cH (σ:=Er×Int×Sto) (τ:=(Er×Sto)) (((p1.length:Int)-0).toNat+1) (fun a=>
 if decide (a.2.1<(p1.length:Int)) then
 ((idx p1 a.2.1).bind fun f=>
 (iR a.2.2 p0 f).bind fun b=>
 (bL (!b.2.isNil) (some a.1.isNil)).bind fun e=>
 if e then
 (vX a.2.1 b.2).bind fun g=>
 some (g,b.1)
 else
 some (a.1,b.1)).bind fun c=>
 some (.inl (c.1,(w64 (a.2.1+1)),c.2))
 else
 some (.inr (a.1,a.2.2))) (Er.nil,0,sg)).bind fun d=>
 some (d.2,d.1)
theorem tw (O0:Own c0 G F) (R0:Rel c0 sg G) (hG:Gl [2,4,7] c0) (p0:Option Nat) (j:List aH){r:Sto×Er}(h2:Pt 5 c0 v1 p0) (Z:Sl mC c0 v3 j) (H:fW sg p0 j=some r): KP 33 #[v1,v3] c0 fun c v=>∃y1,∃G_:Gm,Own c G_ F/\Rel c r.1 G_/\v=y1/\RE 350 144 c y1 r.2:=by
 unfold fW at H;refine en func33 rfl rfl<|KE (.nilIface)<|wln<|KE (.nilIface)<|KA<|KE v3<|vx (ln 3 uv Z)<|Ku 0<|wln<|W.block<|bn H fun o2 h5 H6=>lp h5 (fun a=>Jn c0 fun c l=>∃v7 G_,Own c G_ F/\l= [(0,v1),(5,v7),(9,v3),(10,I (j.length:Int)),(11,I a.2.1)]/\Rel c a.2.2 G_/\RE 350 144 c v7 a.1) (fun u ex e w=>ex= .exit 0/\(Jn c0 fun c l=>∃v8 G_,Own c G_ F/\l= [(5,v8)]/\Rel c u.2 G_/\RE 350 144 c v8 u.1) e w) ?_ ?_ ?_
 ·clear H6 h5;intro a p2 a1 n1 H;revert a1 n1;rintro X w_ ⟨c9,d2,_,rfl,l9,rfl,v7,d0,y,rfl,M,s⟩;refine sr<|Kr (a.2.1<(j.length:Int))<|KA<|cn H (fun b1 H=>?_) (fun b1 H=>?_)
  ·refine KI<|bn H fun x b g0=>W.seqJ (Jn c9 fun c l=>∃v19 G_,Own c G_ F/\l= [(0,v1),(5,v19),(9,v3),(10,I (j.length:Int)),(11,I a.2.1)]/\Rel c x.2 G_/\RE 350 144 c v19 x.1) ?_ ?_
   ·refine W.block<|KD a.2.1<|bn b fun d P b=>?_;obtain ⟨x1,c1,m1⟩:=Sl.at (Z.mono l9) (aS P);obtain ⟨v24,rfl,t⟩:=c1;refine vx (ix uv Z.m P)<|vx (lN 38 m1)<|me (al 38 [I 0,I 0,I 0,Y] y) ?_;rintro v29 b2 k1 ⟨u0,rfl,j0⟩;refine Ku a.2.1 ?_;obtain ⟨n,o,p,rfl⟩:=((t.mono k1)).form;refine md (sA 38 [I d.Kind,I d.A,I d.B,.slice n o p] 0 j0 ⟨rfl,rfl,rfl,t.m.one,trivial⟩) ?_;rintro c2 i2 z;refine wln<|KE v1<|vx (leN 38 0 [I d.Kind,I d.A,I d.B,.slice n o p] (z.on 0 rfl))<|bn b fun i d1 b=>cl (ue z M.m (hG.m.le (by decide)) p0 d h2.m t.m d1) ?_;rintro v36 q j2 ⟨_,k,D,N,rfl,R⟩;refine va v36<|KA<|bn b fun U S b=>W.join (Jn q fun c l=>Own c k ((Eb u0 38 [I d.Kind,I d.A,I d.B,.slice n o p])::F)/\l= [(0,v1),(5,v7),(6,I a.2.1),(8,v36),(9,v3),(10,I (j.length:Int)),(11,I a.2.1),(24,B U)]) ?_ ?_
    ·clear b;refine Kz v36<|vr (B (!i.2.isNil)) (by rcases (R).cs with ⟨f,g⟩|⟨T,f,g⟩|⟨T,f,g⟩ <;> (subst f; rw [g]; kernel_rfl)) ?_;rcases bo (!i.2.isNil) with h|h
     ·have h0:=anT h S;refine vb h<|wa v7<|wn<|vr (B a.1.isNil) (by rcases s.m.cs with ⟨f,g⟩|⟨T,f,g⟩|⟨T,f,g⟩ <;> (subst f; rw [g]; kernel_rfl)) ?_;cases h0;exact Kq a.1.isNil<|KB q ⟨D,rfl⟩
     obtain rfl:=anF h S;exact vb h<|pz<|Kq false<|KB q ⟨D,rfl⟩
    rintro X w_ ⟨v0,e2,_,rfl,k2,rfl,E,rfl⟩;refine nrm<|cn b (fun f1 b=>?_) (fun f1 b=>?_)
    ·refine KF a.2.1<|va v36<|bn b fun z1 g1 b=>cl (AZ E a.2.1 i.2 R.m g1) ?_;rintro v55 w0 l2 ⟨_,k0,rfl,h1⟩;refine va v55<|WL.nil<|KJ ?_;cases b;have l0:=k0.sD 1 [];exact jn w0 ⟨v55,k,l0,rfl,N.m,h1⟩
    refine W.skip<|KJ ?_;cases b;have m0:=E.sD 1 [];exact jn v0 ⟨v7,k,m0,rfl,N.m,s.m⟩
   rintro X w_ ⟨x0,f2,_,rfl,m2,rfl,v19,e0,o0,rfl,s0,i1⟩;refine W.region<|Kv (a.2.1+1)<|WL.nil ?_;cases g0;exact ⟨_,rfl,jn x0 ⟨v19,e0,o0,rfl,s0,i1⟩⟩
  refine W.exit<|thx ?_;cases H;exact ⟨_,rfl,rfl,jn c9 ⟨v7,d0,y,rfl,M,s⟩⟩
 ·exact jn c0 ⟨.nilIface,G,O0,rfl,R0,rfl⟩
 rintro _ X w_ ⟨rfl,y0,g2,_,rfl,n2,rfl,v8,f0,q0,rfl,t0,j1⟩;refine KK<|sr<|vv v8<|KG ?_;cases H6;exact KC y0 ⟨v8,f0,q0,t0,rfl,j1⟩
def gW (sg:Sto) (p0:Option Nat):Option eG:=
 if p0.isNone then
 some (⟨0,0,([]:List aj),(⟨0,0,false⟩:ai),false⟩:eG)
 else
 (p0).bind fun b=>
 (sg.screen_Screen[b]?).bind fun d=>
 (d.pen).bind fun c=>
 (sg.place_Pen[c]?).bind fun a=>
 (ci sg a.G).bind fun e=>
 (bQ sg a.G).bind fun f=>
 (il sg a.G).bind fun g=>
 some (⟨e,f,g,a.At,a.Auto⟩:eG)
theorem sE (O0:Own c0 G F) (o:Rel c0 sg G) (U:Option Nat){r:eG}(h2:Pt 5 c0 v1 U) (H:gW sg U=some r): KP 37 #[v1] c0 fun c v=>∃X y2,Own c G (es true av X 48 y2 r.Lines::F)/\v= .agg #[I r.Wide,I r.High,X,I r.At.Row,I r.At.Col,B r.At.Pending,B r.Auto]/\OA av c X y2 r.Lines:=by
 unfold gW at H;refine en func37 rfl rfl<|sr<|me (al 45 [I 0,I 0,Y,I 0,I 0,B false,B false] O0) ?_;rintro v6 c5 T ⟨b3,rfl,y⟩;refine KA<|KE v1<|vr (B U.isNone) (by rcases h2.m.cs with ⟨N,P⟩|⟨b_,N,P⟩ <;> (subst N; rw [P]; kernel_rfl))<|KH H (fun h7 H=>?_) (fun h7 H=>?_)
 ·refine KE (.agg #[I 0,I 0,Y,I 0,I 0,B false,B false])<|md (sA 45 [I 0,I 0,Y,I 0,I 0,B false,B false] 0 y ⟨rfl,rfl,rfl,rfl,rfl,rfl,rfl,trivial⟩) ?_;rintro S l9 O8;refine KG<|thr ?_;cases H;have g0:OA av S Y [] []:=OA.nil (aO _);have z:=O8.addHole (e:=es true av Y 48 [] ([]:List aj)) rfl;have Z:=z.sD 2 [0];exact km (c:=S) (vs:=[I 0,I 0,Y,I 0,I 0,B false,B false]) rfl (by kernel_rfl) (by kernel_rfl) (by kernel_rfl) (z.on 1 rfl _ rfl).1 ⟨_,S,rfl,rfl,pt,(Y),[],Z,rfl,g0⟩
 refine KI<|KE v1<|bn H fun e1 i0 H=>?_;obtain ⟨b,rfl,h0⟩:=((h2.mono T)).get i0;refine va (Q b)<|Kw b 1<|bn H fun g1 j0 H=>?_;obtain ⟨v17,v19,q,i1,l0⟩:=Rel.open_screen_Screen (o.mono T) j0 h0;refine vx (le1 1 tK (y.gon q 0 rfl))<|bn H fun f1 o0 H=>?_;obtain ⟨d,rfl,m0⟩:=(l0).get o0;refine vv (Q d)<|bn H fun a q0 H=>?_;obtain ⟨v26,t,s⟩:=Rel.open_place_Pen (o.mono T) q0 m0;refine vx (le1 0 fm (y.gon t 0 rfl))<|va v26<|KA<|rD [] (Kp G []) y ?_;intro b0 j1 A;have l:=(Kp.nil A);refine ta 0 v26<|ta 2 v26<|ta 4 v26<|ta 6 (Q b)<|ta 7 (Q b)<|ta 8 (Qo b 1)<|tkx 9 l (fun R x f=>le1 1 tK (f.gon q 0 rfl)) (ta 10 (Q d)<|ta 11 (Qo d 1)<|tkx 12 l (fun R x f=>leN 29 1 [I a.At.Row,I a.At.Col,B a.At.Pending] (f.gon t 0 rfl)) (ta 13 (Q b)<|ta 14 (Q b)<|ta 15 (Qo b 1)<|tkx 16 l (fun R x f=>le1 1 tK (f.gon q 0 rfl)) (ta 17 (Q d)<|ta 18 (Qo d 4)<|tkx 19 l (fun R x f=>le1 4 u_4 (f.gon t 0 rfl)) (bn H fun g s0 H=>o1 1 (gc 1 (cK A o.m a.G s.m s0) ?_)))));rintro v38 d0 k1 ⟨D,rfl⟩;have v0:=(Kp.nil D);refine ⟨.inr v0,bn H fun h t0 H=>o1 3 (gc 3 (bK D o.m a.G s.m t0) ?_)⟩;rintro v46 e0 m1 ⟨E,rfl⟩;have w0:=(Kp.nil E);refine ⟨.inr w0,bn H fun h1 u0 H=>o1 5 (gc 5 (pE E o.m a.G s.m u0) ?_)⟩;rintro v49 f0 n1 ⟨_,z0,M,rfl,u⟩;have x0:=(Kp.nil M);refine ⟨.inr x0,?_⟩;obtain ⟨i,j,k,rfl⟩:=(u).form;refine ta 20 (.agg #[I g,I h,.slice i j k,I a.At.Row,I a.At.Col,B a.At.Pending,B a.Auto])<|o1 21 (gD 21 (sA 45 [I g,I h,.slice i j k,I a.At.Row,I a.At.Col,B a.At.Pending,B a.Auto] 1 M ⟨rfl,rfl,(u).one,rfl,rfl,rfl,rfl,trivial⟩) ?_);rintro p p1 n;have y0:=(Kp.nil n);refine ⟨.inr y0,dn (nrm<|W.ret ?_)⟩;cases H;have a0:=n.sD 2 [0];exact km (c:=p) (vs:=[I g,I h,.slice i j k,I a.At.Row,I a.At.Col,B a.At.Pending,B a.Auto]) rfl (by kernel_rfl) (by kernel_rfl) (by kernel_rfl) (n.on 1 rfl _ rfl).1 ⟨_,p,rfl,rfl,pt,(.slice i j k),z0,a0,rfl,u.m⟩
def fZ (p0:Int) (p1:Int):Option ay:=
 (iw (aK 1 (aE p0 1024)) (aK 1 (aE p1 1024))).bind fun a=>
 some (⟨a,([]:List Int),([]:List Int),0⟩:ay)
theorem tA (A:Own c0 G F) (g:Int) (h:Int){r:ay}(H:fZ g h=some r): KP 14 #[I g,I h] c0 fun c v=>∃k x l y n z,Own c G (es true av k 48 x r.P.L::es true (RI .i32) l 21 y r.Group::es true (RI .u8) n 5 z r.Raw::F)/\v= .agg #[k,I r.P.At.Row,I r.P.At.Col,B r.P.At.Pending,B r.P.Auto,l,n,I r.Parts]/\OA av c k x r.P.L/\OA (RI .i32) c l y r.Group/\OA (RI .u8) c n z r.Raw:=by
 unfold fZ at H;refine en func14 rfl rfl<|sr<|me (al 35 [Y,I 0,I 0,B false,B false,Y,Y,I 0] A) ?_;rintro v4 U X ⟨T,rfl,D⟩;refine wln<|KD g<|Ku (aE g 1024)<|Ku (aK 1 (aE g 1024))<|Ku h<|Ku (aE h 1024)<|Ku (aK 1 (aE h 1024))<|bn H fun a E H=>cl (tC D (aK 1 (aE g 1024)) (aK 1 (aE h 1024)) E) ?_;rintro v14 N R ⟨v6,M,o,rfl,j⟩;obtain ⟨b,a16,d,rfl⟩:=(j).form;refine va (.agg #[.slice b a16 d,I a.At.Row,I a.At.Col,B a.At.Pending,B a.Auto,Y,Y,I 0])<|md (sA 35 [.slice b a16 d,I a.At.Row,I a.At.Col,B a.At.Pending,B a.Auto,Y,Y,I 0] 1 o ⟨(j).one,rfl,rfl,rfl,rfl,rfl,rfl,rfl,trivial⟩) ?_;rintro f S p;refine KG ?_;cases H;have t:OA (RI .i32) f Y [] []:=OA.nil (aO _);have q:=p.addHole (e:=es true (RI .i32) Y 21 [] ([]:List Int)) rfl;have u:OA (RI .u8) f Y [] []:=OA.nil (aO _);have i:=q.addHole (e:=es true (RI .u8) Y 5 [] ([]:List Int)) rfl;have s:=i.sD 4 [2,1,0];exact km (c:=f) (vs:=[.slice b a16 d,I a.At.Row,I a.At.Col,B a.At.Pending,B a.Auto,Y,Y,I 0]) rfl (by kernel_rfl) (by kernel_rfl) (by kernel_rfl) (i.on 3 rfl _ rfl).1 ⟨_,f,rfl,rfl,pt,(.slice b a16 d),M,(Y),[],(Y),[],s,rfl,j.m,t,u⟩
def iT (p0:ay) (p1:aH):Option (ay×Int):=
 if (p1.Kind==0)=true then
 (ek p0 p1.Bytes).bind fun f=>
 some (f,0)
 else
 if (p1.Kind==1)=true then
 (ej p0).bind fun g=>
 some (g,0)
 else
 if (p1.Kind==13)=true then
 (db p0).bind fun c=>
 (dE c.P p1.A p1.B).bind fun h=>
 some ((⟨h,c.Group,c.Raw,c.Parts⟩:ay),0)
 else
 (gj p1).bind fun e=>
 (if (e==0)=true then
 (db p0).bind fun d=>
 (gA d.P p1).bind fun b=>
 some (b.L,b.At.Row,b.At.Col,b.At.Pending,b.Auto,d.Group,d.Raw,d.Parts)
 else
 some (p0.P.L,p0.P.At.Row,p0.P.At.Col,p0.P.At.Pending,p0.P.Auto,p0.Group,p0.Raw,p0.Parts)).bind fun a=>
 some ((⟨(⟨a.1,(⟨a.2.1,a.2.2.1,a.2.2.2.1⟩:ai),a.2.2.2.2.1⟩:aa),a.2.2.2.2.2.1,a.2.2.2.2.2.2.1,a.2.2.2.2.2.2.2⟩:ay),e)
theorem pi (O0:Own c0 G F) (d:ay) (j:aH){r:ay×Int}(h2:Sl av c0 v1 d.P.L) (h4:Sl (RI .i32) c0 v3 d.Group) (h6:Sl (RI .u8) c0 v5 d.Raw) (h8:Sl (RI .u8) c0 v7 j.Bytes) (H:iT d j=some r): KP 46 #[.agg #[v1,I d.P.At.Row,I d.P.At.Col,B d.P.At.Pending,B d.P.Auto,v3,v5,I d.Parts],.agg #[I j.Kind,I j.A,I j.B,v7]] c0 fun c v=>∃y1 y2 y3,Own c G F/\v= .tuple #[.agg #[y1,I r.1.P.At.Row,I r.1.P.At.Col,B r.1.P.At.Pending,B r.1.P.Auto,y2,y3,I r.1.Parts],I r.2]/\Sl av c y1 r.1.P.L/\Sl (RI .i32) c y2 r.1.Group/\Sl (RI .u8) c y3 r.1.Raw:=by
 unfold iT at H;refine en func46 rfl rfl<|sr ?_;obtain ⟨a9,E,M,rfl⟩:=(h2).form;obtain ⟨N,R,S,rfl⟩:=(h4).form;obtain ⟨T,a16,U,rfl⟩:=(h6).form;refine me (al 35 [.slice a9 E M,I d.P.At.Row,I d.P.At.Col,B d.P.At.Pending,B d.P.Auto,.slice N R S,.slice T a16 U,I d.Parts] O0) ?_;rintro v21 i7 w5 ⟨X,rfl,d5⟩;obtain ⟨k5,l5,m5,rfl⟩:=((h8.mono w5)).form;refine me (bx 38 [I j.Kind,I j.A,I j.B,.slice k5 l5 m5] d5) ?_;rintro v29 j7 o7 ⟨i1,rfl,e5,Z⟩;refine me (al 35 [Y,I 0,I 0,B false,B false,Y,Y,I 0] e5) ?_;rintro v33 k7 p7 ⟨t3,rfl,D⟩;refine Ku 0<|KA<|KE (Q i1)<|vx (l1 u_3 ((mm Z) 0 _ rfl))<|wln<|W.block<|sr<|vv (B (j.Kind==0))<|KH H (fun n5 H=>?_) (fun n5 H=>?_)
 ·refine sr<|vx (leN 35 0 [.slice a9 E M,I d.P.At.Row,I d.P.At.Col,B d.P.At.Pending,B d.P.Auto,.slice N R S,.slice T a16 U,I d.Parts] (D.on 1 rfl))<|Kw i1 (0+3)<|vx (l1 iN ((mm Z) 3 _ rfl))<|bn H fun g o5 H=>cl (po D d j.Bytes h2.m h4.m h6.m h8.m o5) ?_;rintro v47 l7 q7 ⟨v36,v38,v40,f5,rfl,g3,h3,i3⟩;obtain ⟨j2,k2,l2,rfl⟩:=(g3).form;obtain ⟨m2,n2,o2,rfl⟩:=(h3).form;obtain ⟨p2,q2,s2,rfl⟩:=(i3).form;refine md (sA 35 [.slice j2 k2 l2,I g.P.At.Row,I g.P.At.Col,B g.P.At.Pending,B g.P.Auto,.slice m2 n2 o2,.slice p2 q2 s2,I g.Parts] 0 f5 ⟨g3.one,rfl,rfl,rfl,rfl,h3.one,i3.one,rfl,trivial⟩) ?_;rintro u3 r7 q3;refine Ku 0<|KG<|KL ?_;cases H;have g5:=q3.sD 2 [];exact qR (c:=u3) (vs:=[.slice j2 k2 l2,I g.P.At.Row,I g.P.At.Col,B g.P.At.Pending,B g.P.Auto,.slice m2 n2 o2,.slice p2 q2 s2,I g.Parts]) (v:=I 0) rfl (by kernel_rfl) (by kernel_rfl) (by kernel_rfl) (by kernel_rfl) (q3.on 0 rfl _ rfl).1 ⟨_,u3,rfl,rfl,pt,(.slice j2 k2 l2),(.slice m2 n2 o2),(.slice p2 q2 s2),g5,rfl,g3.m,h3.m,i3.m⟩
 refine sr<|vv (B (j.Kind==1))<|KH H (fun p5 H=>?_) (fun p5 H=>?_)
 ·refine sr<|vx (leN 35 0 [.slice a9 E M,I d.P.At.Row,I d.P.At.Col,B d.P.At.Pending,B d.P.Auto,.slice N R S,.slice T a16 U,I d.Parts] (D.on 1 rfl))<|bn H fun h q5 H=>cl (pm D d h2.m h4.m h6.m q5) ?_;rintro a8 m7 s7 ⟨x7,y7,u7,z7,h5,rfl,j3,k3,l3⟩;obtain ⟨t2,u2,v2,rfl⟩:=(j3).form;obtain ⟨w2,x2,z2,rfl⟩:=(k3).form;obtain ⟨a3,b3,c3,rfl⟩:=(l3).form;refine md (sA 35 [.slice t2 u2 v2,I h.P.At.Row,I h.P.At.Col,B h.P.At.Pending,B h.P.Auto,.slice w2 x2 z2,.slice a3 b3 c3,I h.Parts] 1 h5 ⟨j3.one,rfl,rfl,rfl,rfl,(k3).one,l3.one,rfl,trivial⟩) ?_;rintro n7 x5 i5;refine Ku 0<|KG<|KL ?_;cases H;obtain ⟨w3,s5,t7,s3,r5⟩:=i5.frz 0 rfl (k3.mono x5);have j5:=s3.sD 3 [];exact BL s5 (qR (c:=w3) (vs:=[.slice t2 u2 v2,I h.P.At.Row,I h.P.At.Col,B h.P.At.Pending,B h.P.Auto,.slice w2 x2 z2,.slice a3 b3 c3,I h.Parts]) (v:=I 0) rfl (by kernel_rfl) (by kernel_rfl) (by kernel_rfl) (by kernel_rfl) (s3.on 1 rfl _ rfl).1 ⟨_,w3,rfl,rfl,pt,(.slice t2 u2 v2),(.slice w2 x2 z2),(.slice a3 b3 c3),j5,rfl,j3.m,r5,l3.m⟩)
 refine sr<|vv (B (j.Kind==13))<|KH H (fun t5 H=>?_) (fun t5 H=>?_)
 ·refine sr<|vx (leN 35 0 [.slice a9 E M,I d.P.At.Row,I d.P.At.Col,B d.P.At.Pending,B d.P.Auto,.slice N R S,.slice T a16 U,I d.Parts] (D.on 1 rfl))<|bn H fun e u5 H=>cl (jd D d h2.m h4.m h6.m u5) ?_;rintro y6 c6 p6 ⟨b8,c8,w7,d8,z3,rfl,m3,j1,k1⟩;obtain ⟨c2,d2,e2,rfl⟩:=(m3).form;obtain ⟨o,p,q,rfl⟩:=(j1).form;obtain ⟨s,t,u,rfl⟩:=(k1).form;refine md (sA 35 [.slice c2 d2 e2,I e.P.At.Row,I e.P.At.Col,B e.P.At.Pending,B e.P.Auto,.slice o p q,.slice s t u,I e.Parts] 2 z3 ⟨m3.one,rfl,rfl,rfl,rfl,(j1).one,k1.one,rfl,trivial⟩) ?_;rintro d6 x4 t1;refine wln<|KE (Q X)<|vx (leN 31 0 [.slice c2 d2 e2,I e.P.At.Row,I e.P.At.Col,B e.P.At.Pending,B e.P.Auto] (t1.on 2 rfl))<|Kw i1 (0+1)<|vx (l1 u_3 ((mm Z) 1 _ rfl))<|Kw i1 (0+2)<|vx (l1 u_3 ((mm Z) 2 _ rfl))<|bn H fun b m4 H=>cl (qI t1 e.P j.A j.B m3.m m4) ?_;rintro a7 e6 y4 ⟨z6,w6,a4,rfl,a0⟩;refine va (Q X) ?_;obtain ⟨x,y,z,rfl⟩:=(a0).form;refine md (sB 31 0 [.slice x y z,I b.At.Row,I b.At.Col,B b.At.Pending,B b.Auto] [.slice x y z,I b.At.Row,I b.At.Col,B b.At.Pending,B b.Auto,.slice o p q,.slice s t u,I e.Parts] 3 a4 ⟨(a0).one,rfl,rfl,rfl,rfl,trivial⟩) ?_;rintro f6 n3 u1;refine KN<|vx (leN 35 0 [.slice x y z,I b.At.Row,I b.At.Col,B b.At.Pending,B b.Auto,.slice o p q,.slice s t u,I e.Parts] (u1.on 3 rfl))<|md (sA 35 [.slice x y z,I b.At.Row,I b.At.Col,B b.At.Pending,B b.Auto,.slice o p q,.slice s t u,I e.Parts] 2 u1 ⟨a0.m.one,rfl,rfl,rfl,rfl,j1.m.one,k1.m.one,rfl,trivial⟩) ?_;rintro g6 o3 b4;refine Ku 0<|KG<|KL ?_;cases H;obtain ⟨i6,o4,z4,c4,n4⟩:=b4.frz 0 rfl (a0.mono (n3.trans o3));obtain ⟨d3,q4,q6,w1,p4⟩:=c4.frz 1 rfl (j1.mono (x4.trans (y4.trans (n3.trans (o3.trans z4)))));have d4:=w1.sD 4 [];exact BL o4 (BL q4 (qR (c:=d3) (vs:=[.slice x y z,I b.At.Row,I b.At.Col,B b.At.Pending,B b.Auto,.slice o p q,.slice s t u,I e.Parts]) (v:=I 0) rfl (by kernel_rfl) (by kernel_rfl) (by kernel_rfl) (by kernel_rfl) (w1.on 2 rfl _ rfl).1 ⟨_,d3,rfl,rfl,pt,(.slice x y z),(.slice o p q),(.slice s t u),d4,rfl,n4.m,p4,k1.m⟩))
 refine W.skip<|KJ<|sr<|vx (lN 38 (mm Z))<|bn H fun n r4 H=>cl (rk D j h8.m r4) ?_;rintro b7 e3 r6 ⟨f0,rfl⟩;refine Ku n<|wln<|bn H fun a i x3=>W.seqJ (Jn e3 fun c l=>∃b0 d0 e0,Own c G ((Eb t3 35 [Y,I 0,I 0,B false,B false,Y,Y,I 0])::(Eb X 35 [b0,I a.2.1,I a.2.2.1,B a.2.2.2.1,B a.2.2.2.2.1,d0,e0,I a.2.2.2.2.2.2.2])::F)/\l= [(2,Q X),(4,Q t3),(6,I n)]/\Sl av c b0 a.1/\Sl (RI .i32) c d0 a.2.2.2.2.2.1/\Sl (RI .u8) c e0 a.2.2.2.2.2.2.1) ?_ ?_
 ·refine KD n<|Kq (n==0)<|KH i (fun s4 i=>?_) (fun s4 i=>?_)
  ·refine sr<|vx (leN 35 0 [.slice a9 E M,I d.P.At.Row,I d.P.At.Col,B d.P.At.Pending,B d.P.Auto,.slice N R S,.slice T a16 U,I d.Parts] (f0.on 1 rfl))<|bn i fun f t4 i=>cl (jd f0 d h2.m h4.m h6.m t4) ?_;rintro f7 j6 s6 ⟨c7,d7,x6,e7,e4,rfl,b1,c1,d1⟩;obtain ⟨f2,g2,i2,rfl⟩:=(b1).form;obtain ⟨g0,h0,i0,rfl⟩:=(c1).form;obtain ⟨j0,k0,l0,rfl⟩:=(d1).form;refine md (sA 35 [.slice f2 g2 i2,I f.P.At.Row,I f.P.At.Col,B f.P.At.Pending,B f.P.Auto,.slice g0 h0 i0,.slice j0 k0 l0,I f.Parts] 2 e4 ⟨b1.one,rfl,rfl,rfl,rfl,(c1).one,d1.one,rfl,trivial⟩) ?_;rintro k6 a5 x1;refine wln<|Kz (Q X)<|vx (leN 31 0 [.slice f2 g2 i2,I f.P.At.Row,I f.P.At.Col,B f.P.At.Pending,B f.P.Auto] (x1.on 2 rfl))<|vx (lN 38 (mm Z))<|bn i fun k u4 i=>cl (uf x1 f.P j b1.m h8.m u4) ?_;rintro h7 l6 b5 ⟨g7,f4,rfl,e1⟩;refine va (Q X) ?_;obtain ⟨m0,o0,q0,rfl⟩:=(e1).form;refine md (sB 31 0 [.slice m0 o0 q0,I k.At.Row,I k.At.Col,B k.At.Pending,B k.Auto] [.slice m0 o0 q0,I k.At.Row,I k.At.Col,B k.At.Pending,B k.Auto,.slice g0 h0 i0,.slice j0 k0 l0,I f.Parts] 2 f4 ⟨e1.one,rfl,rfl,rfl,rfl,trivial⟩) ?_;rintro m6 c5 g4;refine wln ?_;cases i;obtain ⟨l4,w4,t6,i4,v4⟩:=g4.frz 0 rfl (c1.mono (a5.trans (b5.trans c5)));have j4:=i4.sD 3 [1,2];exact ⟨l4,_,_,w4.symm,pt,us,(.slice m0 o0 q0),(.slice g0 h0 i0),(.slice j0 k0 l0),j4,rfl,e1.m,v4,d1.m⟩
  refine KI ?_;cases i;exact jn e3 ⟨(.slice a9 E M),(.slice N R S),(.slice T a16 U),f0,rfl,h2.m,h4.m,h6.m⟩
 rintro e_ w_ ⟨n6,o6,_,rfl,u6,rfl,b0,d0,e0,z1,rfl,f1,g1,h1⟩;refine sr<|vx (leN 35 0 [b0,I a.2.1,I a.2.2.1,B a.2.2.2.1,B a.2.2.2.2.1,d0,e0,I a.2.2.2.2.2.2.2] (z1.on 1 rfl))<|Ku n ?_;obtain ⟨s0,t0,u0,rfl⟩:=(f1).form;obtain ⟨v0,w0,x0,rfl⟩:=(g1).form;obtain ⟨y0,z0,a1,rfl⟩:=(h1).form;refine md (sA 35 [.slice s0 t0 u0,I a.2.1,I a.2.2.1,B a.2.2.2.1,B a.2.2.2.2.1,.slice v0 w0 x0,.slice y0 z0 a1,I a.2.2.2.2.2.2.2] 0 z1 ⟨f1.one,rfl,rfl,rfl,rfl,g1.one,h1.one,rfl,trivial⟩) ?_;rintro f3 v6 b2;refine Ku n<|KG ?_;cases x3;have k4:=b2.sD 2 [];exact qR (c:=f3) (vs:=[.slice s0 t0 u0,I a.2.1,I a.2.2.1,B a.2.2.2.1,B a.2.2.2.2.1,.slice v0 w0 x0,.slice y0 z0 a1,I a.2.2.2.2.2.2.2]) (v:=I n) rfl (by kernel_rfl) (by kernel_rfl) (by kernel_rfl) (by kernel_rfl) (b2.on 0 rfl _ rfl).1 ⟨_,f3,rfl,rfl,pt,(.slice s0 t0 u0),(.slice v0 w0 x0),(.slice y0 z0 a1),k4,rfl,f1.m,g1.m,h1.m⟩
def fY (p0:Int) (p1:Int) (p2:List aH):Option (ay×Int×Int):=
 (fZ p0 p1).bind fun e=>
 (cH (σ:=Int×Int×Int×(List aj)×Int×Int×Bool×Bool×(List Int)×(List Int)×Int) (τ:=(Int×Int×(List aj)×Int×Int×Bool×Bool×(List Int)×(List Int)×Int)) (((p2.length:Int)-0).toNat+1) (fun a=>
 if decide (a.2.2.1<(p2.length:Int)) then
 ((idx p2 a.2.2.1).bind fun g=>
 (iT (⟨(⟨a.2.2.2.1,(⟨a.2.2.2.2.1,a.2.2.2.2.2.1,a.2.2.2.2.2.2.1⟩:ai),a.2.2.2.2.2.2.2.1⟩:aa),a.2.2.2.2.2.2.2.2.1,a.2.2.2.2.2.2.2.2.2.1,a.2.2.2.2.2.2.2.2.2.2⟩:ay) g).bind fun b=>
 (bL (decide (b.2>0)) (some (decide (a.1<0)))).bind fun f=>
 if f then
 some (a.2.2.1,b.2,b.1.P.L,b.1.P.At.Row,b.1.P.At.Col,b.1.P.At.Pending,b.1.P.Auto,b.1.Group,b.1.Raw,b.1.Parts)
 else
 some (a.1,a.2.1,b.1.P.L,b.1.P.At.Row,b.1.P.At.Col,b.1.P.At.Pending,b.1.P.Auto,b.1.Group,b.1.Raw,b.1.Parts)).bind fun d=>
 some (.inl (d.1,d.2.1,(w64 (a.2.2.1+1)),d.2.2.1,d.2.2.2.1,d.2.2.2.2.1,d.2.2.2.2.2.1,d.2.2.2.2.2.2.1,d.2.2.2.2.2.2.2.1,d.2.2.2.2.2.2.2.2.1,d.2.2.2.2.2.2.2.2.2))
 else
 some (.inr (a.1,a.2.1,a.2.2.2.1,a.2.2.2.2.1,a.2.2.2.2.2.1,a.2.2.2.2.2.2.1,a.2.2.2.2.2.2.2.1,a.2.2.2.2.2.2.2.2.1,a.2.2.2.2.2.2.2.2.2.1,a.2.2.2.2.2.2.2.2.2.2))) ((-1),0,0,e.P.L,e.P.At.Row,e.P.At.Col,e.P.At.Pending,e.P.Auto,e.Group,e.Raw,e.Parts)).bind fun c=>
 some ((⟨(⟨c.2.2.1,(⟨c.2.2.2.1,c.2.2.2.2.1,c.2.2.2.2.2.1⟩:ai),c.2.2.2.2.2.2.1⟩:aa),c.2.2.2.2.2.2.2.1,c.2.2.2.2.2.2.2.2.1,c.2.2.2.2.2.2.2.2.2⟩:ay),c.1,c.2.1)
theorem tz (O0:Own c0 G F) (p0:Int) (p1:Int) (p2:List aH){r:ay×Int×Int}(h2:Sl mC c0 v1 p2) (H:fY p0 p1 p2=some r): KP 31 #[I p0,I p1,v1] c0 fun c v=>∃y1 y2 y3,Own c G F/\v= .tuple #[.agg #[y1,I r.1.P.At.Row,I r.1.P.At.Col,B r.1.P.At.Pending,B r.1.P.Auto,y2,y3,I r.1.Parts],I r.2.1,I r.2.2]/\Sl av c y1 r.1.P.L/\Sl (RI .i32) c y2 r.1.Group/\Sl (RI .u8) c y3 r.1.Raw:=by
 unfold fY at H;refine en func31 rfl rfl<|sr<|me (al 35 [Y,I 0,I 0,B false,B false,Y,Y,I 0] O0) ?_;rintro v6 c5 l5 ⟨z,rfl,O4⟩;refine vv (I 0)<|wln<|KD p0<|Ku p1<|bn H fun M h7 H=>cl (tA O4 p0 p1 h7) ?_;rintro v22 l7 x5 ⟨v8,u9,v11,p7,v14,q7,m5,rfl,x1,z1,c2⟩;refine me (al 35 [Y,I 0,I 0,B false,B false,Y,Y,I 0] m5) ?_;rintro v26 m7 y ⟨f,rfl,n5⟩;obtain ⟨c3,d3,e3,rfl⟩:=((x1.mono y)).form;obtain ⟨f3,g3,h3,rfl⟩:=((z1.mono y)).form;obtain ⟨i3,j3,k3,rfl⟩:=((c2.mono y)).form;refine md (sA 35 [.slice c3 d3 e3,I M.P.At.Row,I M.P.At.Col,B M.P.At.Pending,B M.P.Auto,.slice f3 g3 h3,.slice i3 j3 k3,I M.Parts] 0 n5 ⟨x1.m.one,rfl,rfl,rfl,rfl,z1.m.one,c2.m.one,rfl,trivial⟩) ?_;rintro t3 l0 o5;refine wln<|KD (-1)<|Ku 0<|KA<|KD 0<|wln<|W.block<|bn H fun d u3 w2=>lp u3 (fun a=>Jn t3 fun c l=>∃v40 v41 v42,Own c G ((Eb f 35 [v40,I a.2.2.2.2.1,I a.2.2.2.2.2.1,B a.2.2.2.2.2.2.1,B a.2.2.2.2.2.2.2.1,v41,v42,I a.2.2.2.2.2.2.2.2.2.2])::(Eb z 35 [Y,I 0,I 0,B false,B false,Y,Y,I 0])::F)/\l= [(2,v1),(6,Q z),(9,Q f),(10,I a.1),(11,I a.2.1),(12,I a.2.2.1)]/\Sl av c v40 a.2.2.2.1/\Sl (RI .i32) c v41 a.2.2.2.2.2.2.2.2.1/\Sl (RI .u8) c v42 a.2.2.2.2.2.2.2.2.2.1) (fun g ex e w=>ex= .exit 0/\(Jn t3 fun c l=>∃v43 v44 v45,Own c G ((Eb f 35 [v43,I g.2.2.2.1,I g.2.2.2.2.1,B g.2.2.2.2.2.1,B g.2.2.2.2.2.2.1,v44,v45,I g.2.2.2.2.2.2.2.2.2])::(Eb z 35 [Y,I 0,I 0,B false,B false,Y,Y,I 0])::F)/\l= [(6,Q z),(9,Q f),(10,I g.1),(11,I g.2.1)]/\Sl av c v43 g.2.2.1/\Sl (RI .i32) c v44 g.2.2.2.2.2.2.2.1/\Sl (RI .u8) c v45 g.2.2.2.2.2.2.2.2.1) e w) ?_ ?_ ?_
 ·clear w2 u3;intro a u7 u5 e6 H;revert u5 e6;rintro e_ w_ ⟨w1,n7,_,rfl,y5,rfl,v40,v41,v42,x2,rfl,d2,e2,f2⟩;refine W.seq<|KD a.2.2.1<|va v1<|vx (ln 3 uv h2.m)<|Kr (a.2.2.1<(p2.length:Int))<|KH H (fun v5 H=>?_) (fun v5 H=>?_)
  ·refine KI<|bn H fun h i k5=>W.seqJ (Jn w1 fun c l=>∃v58 v59 v60,Own c G ((Eb f 35 [v58,I h.2.2.2.1,I h.2.2.2.2.1,B h.2.2.2.2.2.1,B h.2.2.2.2.2.2.1,v59,v60,I h.2.2.2.2.2.2.2.2.2])::(Eb z 35 [Y,I 0,I 0,B false,B false,Y,Y,I 0])::F)/\l= [(2,v1),(6,Q z),(9,Q f),(10,I h.1),(11,I h.2.1),(12,I a.2.2.1)]/\Sl av c v58 h.2.2.1/\Sl (RI .i32) c v59 h.2.2.2.2.2.2.2.1/\Sl (RI .u8) c v60 h.2.2.2.2.2.2.2.2.1) ?_ ?_
   ·refine W.block<|W.seq<|bn i fun q2 v3 i=>bn i fun b w3 i=>W.join (Jn w1 fun c l=>∃m0 o0 q0 k0,Own c G ((Eb k0 35 [m0,I b.1.P.At.Row,I b.1.P.At.Col,B b.1.P.At.Pending,B b.1.P.Auto,o0,q0,I b.1.Parts])::(Eb f 35 [v40,I a.2.2.2.2.1,I a.2.2.2.2.2.1,B a.2.2.2.2.2.2.1,B a.2.2.2.2.2.2.2.1,v41,v42,I a.2.2.2.2.2.2.2.2.2.2])::(Eb z 35 [Y,I 0,I 0,B false,B false,Y,Y,I 0])::F)/\l= [(2,v1),(6,Q z),(9,Q f),(10,I a.1),(11,I a.2.1),(12,I a.2.2.1),(13,Q k0),(14,I b.2)]/\Sl av c m0 b.1.P.L/\Sl (RI .i32) c o0 b.1.Group/\Sl (RI .u8) c q0 b.1.Raw) ?_ ?_
    ·clear i;refine rD [] (Kp G0 [(Eb f 35 [v40,I a.2.2.2.2.1,I a.2.2.2.2.2.1,B a.2.2.2.2.2.2.1,B a.2.2.2.2.2.2.2.1,v41,v42,I a.2.2.2.2.2.2.2.2.2.2])]) x2 ?_;intro r5 z5 b1;have b6:=(Kp.cons (b1.on 0 rfl) Kp.nil0);refine tkx 0 b6 (fun c' z3 hk=>leN 35 0 [v40,I a.2.2.2.2.1,I a.2.2.2.2.2.1,B a.2.2.2.2.2.2.1,B a.2.2.2.2.2.2.2.1,v41,v42,I a.2.2.2.2.2.2.2.2.2.2] (hk.on 0 rfl)) (ta 1 v1<|ta 2 (I a.2.2.1) ?_);obtain ⟨i7,w5,a6⟩:=Sl.at (h2.mono (l5.trans (x5.trans (y.trans (l0.trans (y5.trans z5)))))) (aS v3);obtain ⟨r7,rfl,x3⟩:=w5;refine tx 3 (fun c' z3=>ix uv h2.m v3)<|tx 4 (fun c' z3=>lN 38 (mm a6))<|mn2 5 9 ?_ ?_
     ·refine gc 5 (pi b1 (⟨(⟨a.2.2.2.1,(⟨a.2.2.2.2.1,a.2.2.2.2.2.1,a.2.2.2.2.2.2.1⟩:ai),a.2.2.2.2.2.2.2.1⟩:aa),a.2.2.2.2.2.2.2.2.1,a.2.2.2.2.2.2.2.2.2.1,a.2.2.2.2.2.2.2.2.2.2⟩:ay) q2 d2.m e2.m f2.m x3 w3) ?_;rintro s7 s5 o7 ⟨a4,b4,c4,z2,rfl,g2,i2,j2⟩;have c6:=(Kp.cons (z2.on 0 rfl) Kp.nil0);refine ⟨.inr c6,ta 6 (.tuple #[.agg #[a4,I b.1.P.At.Row,I b.1.P.At.Col,B b.1.P.At.Pending,B b.1.P.Auto,b4,c4,I b.1.Parts],I b.2]) (ta 7 (.agg #[a4,I b.1.P.At.Row,I b.1.P.At.Col,B b.1.P.At.Pending,B b.1.P.Auto,b4,c4,I b.1.Parts])<|ta 8 (I b.2)<|o1 9 (gm 9 (al 35 [Y,I 0,I 0,B false,B false,Y,Y,I 0] z2) ?_))⟩;rintro t7 t5 l2 ⟨p5,rfl,a3⟩;have d6:=(Kp.cons (a3.on 1 rfl) Kp.nil0);refine ⟨.inr d6,?_⟩;obtain ⟨l3,m3,n3,rfl⟩:=((g2.mono l2)).form;obtain ⟨o3,p3,q3,rfl⟩:=((i2.mono l2)).form;obtain ⟨s3,c1,d1,rfl⟩:=((j2.mono l2)).form;refine o1 10 (gD 10 (sA 35 [.slice l3 m3 n3,I b.1.P.At.Row,I b.1.P.At.Col,B b.1.P.At.Pending,B b.1.P.Auto,.slice o3 p3 q3,.slice s3 c1 d1,I b.1.Parts] 0 a3 ⟨g2.m.one,rfl,rfl,rfl,rfl,i2.m.one,j2.m.one,rfl,trivial⟩) ?_);rintro q1 u6 s0;have f5:=(Kp.cons (s0.on 1 rfl) Kp.nil0);exact ⟨.inr f5,ta 11 (I b.2) (dn (nrm<|jn q1 ⟨(.slice l3 m3 n3),(.slice o3 p3 q3),(.slice s3 c1 d1),p5,s0,rfl,g2.m,i2.m,j2.m⟩))⟩
     refine gm 9 (al 35 [Y,I 0,I 0,B false,B false,Y,Y,I 0] b1) ?_;rintro j7 n4 w6 ⟨m4,rfl,t0⟩;have g5:=(Kp.cons (t0.on 1 rfl) Kp.nil0);refine ⟨.inr g5,o1 5 (gc 5 (pi t0 (⟨(⟨a.2.2.2.1,(⟨a.2.2.2.2.1,a.2.2.2.2.2.1,a.2.2.2.2.2.2.1⟩:ai),a.2.2.2.2.2.2.2.1⟩:aa),a.2.2.2.2.2.2.2.2.1,a.2.2.2.2.2.2.2.2.2.1,a.2.2.2.2.2.2.2.2.2.2⟩:ay) q2 d2.m e2.m f2.m x3.m w3) ?_)⟩;rintro k7 o4 x6 ⟨m2,n2,o2,u0,rfl,e0,f0,g0⟩;have h5:=(Kp.cons (u0.on 1 rfl) Kp.nil0);refine ⟨.inr h5,ta 6 (.tuple #[.agg #[m2,I b.1.P.At.Row,I b.1.P.At.Col,B b.1.P.At.Pending,B b.1.P.Auto,n2,o2,I b.1.Parts],I b.2]) (ta 7 (.agg #[m2,I b.1.P.At.Row,I b.1.P.At.Col,B b.1.P.At.Pending,B b.1.P.Auto,n2,o2,I b.1.Parts])<|ta 8 (I b.2) ?_)⟩;obtain ⟨e1,f1,g1,rfl⟩:=(e0).form;obtain ⟨h1,i1,j1,rfl⟩:=(f0).form;obtain ⟨k1,m1,n1,rfl⟩:=(g0).form;refine o1 10 (gD 10 (sA 35 [.slice e1 f1 g1,I b.1.P.At.Row,I b.1.P.At.Col,B b.1.P.At.Pending,B b.1.P.Auto,.slice h1 i1 j1,.slice k1 m1 n1,I b.1.Parts] 0 u0 ⟨e0.one,rfl,rfl,rfl,rfl,f0.one,g0.one,rfl,trivial⟩) ?_);rintro s1 y6 v0;have i5:=(Kp.cons (v0.on 1 rfl) Kp.nil0);exact ⟨.inr i5,ta 11 (I b.2) (dn (nrm<|jn s1 ⟨(.slice e1 f1 g1),(.slice h1 i1 j1),(.slice k1 m1 n1),m4,v0,rfl,e0.m,f0.m,g0.m⟩))⟩
    rintro e_ w_ ⟨k6,o6,_,rfl,z6,rfl,m0,o0,q0,k0,w0,rfl,A,D,E⟩;refine nrm<|sr<|vx (leN 35 0 [m0,I b.1.P.At.Row,I b.1.P.At.Col,B b.1.P.At.Pending,B b.1.P.Auto,o0,q0,I b.1.Parts] (w0.on 0 rfl)) ?_;obtain ⟨j,k,n,rfl⟩:=(A).form;obtain ⟨o,p,q,rfl⟩:=(D).form;obtain ⟨s,t,u,rfl⟩:=(E).form;refine md (sA 35 [.slice j k n,I b.1.P.At.Row,I b.1.P.At.Col,B b.1.P.At.Pending,B b.1.P.Auto,.slice o p q,.slice s t u,I b.1.Parts] 1 w0 ⟨A.one,rfl,rfl,rfl,rfl,D.one,E.one,rfl,trivial⟩) ?_;rintro d0 a7 x0;refine KA<|bn i fun r4 b2 i=>W.join (Jn d0 fun c l=>Own c G ((Eb k0 35 [.slice j k n,I b.1.P.At.Row,I b.1.P.At.Col,B b.1.P.At.Pending,B b.1.P.Auto,.slice o p q,.slice s t u,I b.1.Parts])::(Eb f 35 [.slice j k n,I b.1.P.At.Row,I b.1.P.At.Col,B b.1.P.At.Pending,B b.1.P.Auto,.slice o p q,.slice s t u,I b.1.Parts])::(Eb z 35 [Y,I 0,I 0,B false,B false,Y,Y,I 0])::F)/\l= [(2,v1),(6,Q z),(9,Q f),(10,I a.1),(11,I a.2.1),(12,I a.2.2.1),(14,I b.2),(39,B r4)]) ?_ ?_
    ·clear i;refine KF b.2<|Kr (b.2>0) ?_;rcases bo (decide (b.2>0)) with x|x
     ·have d4:=anT x b2;refine vb x<|wa (I a.1)<|Ks (a.1<0) ?_;cases d4;exact Kr (a.1<0)<|KB d0 ⟨x0,rfl⟩
     obtain rfl:=anF x b2;exact vb x<|pz<|Kq false<|KB d0 ⟨x0,rfl⟩
    rintro e_ w_ ⟨t1,p6,_,rfl,b7,rfl,y0,rfl⟩;refine nrm<|cn i (fun s4 i=>?_) (fun s4 i=>?_)
    ·refine sr<|vv (I a.2.2.1)<|wln<|W.region<|vv (I b.2)<|WL.nil<|KJ ?_;cases i;have e4:=y0.sD 3 [1,2];exact jn t1 ⟨(.slice j k n),(.slice o p q),(.slice s t u),e4,rfl,A.m,D.m,E.m⟩
    refine W.skip<|KJ ?_;cases i;have f4:=y0.sD 3 [1,2];exact jn t1 ⟨(.slice j k n),(.slice o p q),(.slice s t u),f4,rfl,A.m,D.m,E.m⟩
   rintro e_ w_ ⟨p4,q6,_,rfl,c7,rfl,v58,v59,v60,g4,rfl,t4,u4,v4⟩;refine KF a.2.2.1<|Kv (a.2.2.1+1)<|WL.nil ?_;cases k5;exact ⟨_,rfl,jn p4 ⟨v58,v59,v60,g4,rfl,t4,u4,v4⟩⟩
  refine W.exit<|thx ?_;cases H;exact ⟨_,rfl,rfl,jn w1 ⟨v40,v41,v42,x2,rfl,d2,e2,f2⟩⟩
 ·obtain ⟨l6,x4,k2,h4,w4⟩:=o5.frz 1 rfl (x1.mono (y.trans l0));obtain ⟨m6,z4,e5,i4,y4⟩:=h4.frz 2 rfl (z1.mono (y.trans (l0.trans k2)));obtain ⟨q4,b5,d7,j4,a5⟩:=i4.frz 3 rfl (c2.mono (y.trans (l0.trans (k2.trans e5))));have k4:=j4.sD 5 [0,4];exact ⟨q4,_,_,((x4.symm.trans z4.symm).trans b5.symm),pt,us,(.slice c3 d3 e3),(.slice f3 g3 h3),(.slice i3 j3 k3),k4,rfl,w4.m,y4.m,a5⟩
 rintro _ e_ w_ ⟨rfl,n6,r6,_,rfl,e7,rfl,v43,v44,v45,z0,rfl,h0,i0,j0⟩;refine KK<|sr<|vx (leN 35 0 [v43,I d.2.2.2.1,I d.2.2.2.2.1,B d.2.2.2.2.2.1,B d.2.2.2.2.2.2.1,v44,v45,I d.2.2.2.2.2.2.2.2.2] (z0.on 0 rfl))<|Ku d.1<|Ku d.2.1 ?_;obtain ⟨N,R,S,rfl⟩:=(h0).form;obtain ⟨T,U,X,rfl⟩:=(i0).form;obtain ⟨Z,a0,b0,rfl⟩:=(j0).form;refine md (sA 35 [.slice N R S,I d.2.2.2.1,I d.2.2.2.2.1,B d.2.2.2.2.2.1,B d.2.2.2.2.2.2.1,.slice T U X,.slice Z a0 b0,I d.2.2.2.2.2.2.2.2.2] 1 z0 ⟨h0.one,rfl,rfl,rfl,rfl,i0.one,j0.one,rfl,trivial⟩) ?_;rintro u1 f7 a1;refine Ku d.1<|Ku d.2.1<|KG ?_;cases w2;have l4:=a1.sD 2 [];exact Hp (c:=u1) (vs:=[.slice N R S,I d.2.2.2.1,I d.2.2.2.2.1,B d.2.2.2.2.2.1,B d.2.2.2.2.2.2.1,.slice T U X,.slice Z a0 b0,I d.2.2.2.2.2.2.2.2.2]) (v:=I d.1) (v':=I d.2.1) rfl (by kernel_rfl) (by kernel_rfl) (by kernel_rfl) (by kernel_rfl) (by kernel_rfl) (a1.on 1 rfl _ rfl).1 ⟨_,u1,rfl,rfl,pt,(.slice N R S),(.slice T U X),(.slice Z a0 b0),l4,rfl,h0.m,i0.m,j0.m⟩
def gY (p0:aa):Option eG:=
 (cX p0).bind fun a=>
 some (⟨a,(p0.L.length:Int),p0.L,p0.At,p0.Auto⟩:eG)
theorem sK (M:Own c0 G F) (a:aa){r:eG}(j:Sl av c0 v1 a.L) (H:gY a=some r): KP 35 #[.agg #[v1,I a.At.Row,I a.At.Col,B a.At.Pending,B a.Auto]] c0 fun c v=>∃E,Own c G F/\v= .agg #[I r.Wide,I r.High,E,I r.At.Row,I r.At.Col,B r.At.Pending,B r.Auto]/\Sl av c E r.Lines:=by
 unfold gY at H;refine en func35 rfl rfl<|sr ?_;obtain ⟨e,f,g,rfl⟩:=(j).form;refine me (bx 31 [.slice e f g,I a.At.Row,I a.At.Col,B a.At.Pending,B a.Auto] M) ?_;rintro v10 c9 l9 ⟨o,rfl,N,n⟩;refine me (al 45 [I 0,I 0,Y,I 0,I 0,B false,B false] N) ?_;rintro v14 R S ⟨P,rfl,q⟩;refine KA<|rD [] (Kp G0 []) q ?_;intro x T s;have Z:Kp G0 [] x:=Kp.nil0;refine tx 0 (fun h b=>lN 31 (mm n))<|ta 2 (Q o)<|tx 3 (fun h b=>l1 fJ ((mm n) 0 _ rfl))<|tx 4 (fun h b=>ln 3 fJ j.m)<|ta 5 (Q o)<|tx 6 (fun h b=>l1 fJ ((mm n) 0 _ rfl))<|ta 7 (Qo o (0+1))<|tx 8 (fun h b=>lN 29 (Cd (k:=1) (l:=[I a.At.Row,I a.At.Col,B a.At.Pending]) (mm n) rfl))<|ta 9 (Qo o (0+4))<|tx 10 (fun h b=>l1 u_4 ((mm n) 4 _ rfl))<|bn H fun d z H=>o1 1 (gc 1 (gU s a j.m z) ?_);rintro v24 y U ⟨t,rfl⟩;have A:Kp G0 [] y:=Kp.nil0;refine ⟨.inr A,ta 11 (.agg #[I d,I (a.L.length:Int),.slice e f g,I a.At.Row,I a.At.Col,B a.At.Pending,B a.Auto]) (o1 12 (gD 12 (sA 45 [I d,I (a.L.length:Int),.slice e f g,I a.At.Row,I a.At.Col,B a.At.Pending,B a.Auto] 0 t ⟨rfl,rfl,j.m.one,rfl,rfl,rfl,rfl,trivial⟩) ?_))⟩;rintro i X p;have D:Kp G0 [] i:=Kp.nil0;refine ⟨.inr D,dn (nrm<|W.ret ?_)⟩;cases H;have u:=p.sD 1 [];exact km (c:=i) (vs:=[I d,I (a.L.length:Int),.slice e f g,I a.At.Row,I a.At.Col,B a.At.Pending,B a.Auto]) rfl (by kernel_rfl) (by kernel_rfl) (by kernel_rfl) (p.on 0 rfl _ rfl).1 ⟨_,i,rfl,rfl,pt,(.slice e f g),u,rfl,j.m⟩
def fw (p0:eG) (p1:eG):Option Bool:=
 (bL (p0.Wide==p1.Wide) (some (p0.High==p1.High))).bind fun a=>
 (bL a (some (p0.At.Row==p1.At.Row && (p0.At.Col==p1.At.Col && (p0.At.Pending==p1.At.Pending && true))))).bind fun b=>
 (bL b (some (p0.Auto==p1.Auto))).bind fun c=>
 (bL c ((fy p0.Lines p1.Lines).bind fun e=>
 some e)).bind fun d=>
 some d
theorem oE (O0:Own c0 G F) (a:eG) (b:eG){r:Bool}(h2:Sl av c0 v1 a.Lines) (h4:Sl av c0 v3 b.Lines) (H:fw a b=some r): KP 34 #[.agg #[I a.Wide,I a.High,v1,I a.At.Row,I a.At.Col,B a.At.Pending,B a.Auto],.agg #[I b.Wide,I b.High,v3,I b.At.Row,I b.At.Col,B b.At.Pending,B b.Auto]] c0 fun c v=>Own c G F/\v=B r:=by
 unfold fw at H;refine en func34 rfl rfl<|sr ?_;obtain ⟨a5,a6,a7,rfl⟩:=(h2).form;refine me (bx 45 [I a.Wide,I a.High,.slice a5 a6 a7,I a.At.Row,I a.At.Col,B a.At.Pending,B a.Auto] O0) ?_;rintro v12 v0 j0 ⟨t,rfl,O9,o⟩;obtain ⟨a0,b0,d0,rfl⟩:=((h4.mono j0)).form;refine me (bx 45 [I b.Wide,I b.High,.slice a0 b0 d0,I b.At.Row,I b.At.Col,B b.At.Pending,B b.Auto] O9) ?_;rintro v20 f x0 ⟨e,rfl,d,p⟩;refine Kq false<|KA<|bn H fun s0 y H=>bn H fun t0 u H=>bn H fun u0 q H=>bn H fun P g H=>W.join (Jn f fun c l=>Own c G F/\l= [(4,B P)]) ?_ ?_
 ·clear H;refine Kz (Q t)<|vx (l1 u_3 ((mm o) 0 _ rfl))<|va (Q e)<|vx (l1 u_3 (p 0 _ rfl))<|Kq (a.Wide==b.Wide) ?_;rcases bo (a.Wide==b.Wide) with h|h
  ·have R:=anT h y;refine vb h<|wa (Qo t (0+1))<|wn<|vx (l1 u_3 ((mm o) 1 _ rfl))<|wa (Qo e (0+1))<|wn<|vx (l1 u_3 (p 1 _ rfl))<|Kt (a.High==b.High) ?_;obtain rfl:=si R;refine Kq (a.High==b.High) ?_;rcases bo (a.High==b.High) with i|i
   ·have S:=anT i u;refine vb i<|wa (Qo t (0+3))<|wn<|vx (lN 29 (Cd (k:=3) (l:=[I a.At.Row,I a.At.Col,B a.At.Pending]) (mm o) rfl))<|wa (Qo e (0+3))<|wn<|vx (lN 29 (Cd (k:=3) (l:=[I b.At.Row,I b.At.Col,B b.At.Pending]) p rfl))<|wn<|vr (B (a.At.Row==b.At.Row && (a.At.Col==b.At.Col && (a.At.Pending==b.At.Pending && true)))) (DO (T:=29) (xs:= #[I a.At.Row,I a.At.Col,B a.At.Pending]) (ys:= #[I b.At.Row,I b.At.Col,B b.At.Pending]) (r:=(a.At.Row==b.At.Row && (a.At.Col==b.At.Col && (a.At.Pending==b.At.Pending && true)))) underlying29 (by kernel_rfl) (by kernel_rfl) (EqP.int (by kernel_rfl) u_3 rfl rfl (EqP.int (by kernel_rfl) u_3 rfl rfl (EqP.bool (by kernel_rfl) u_4 rfl rfl EqP.nil))) (by kernel_rfl) _) ?_;obtain rfl:=si S;refine Kq (a.At.Row==b.At.Row && (a.At.Col==b.At.Col && (a.At.Pending==b.At.Pending && true))) ?_;rcases bo ((a.At.Row==b.At.Row && (a.At.Col==b.At.Col && (a.At.Pending==b.At.Pending && true)))) with j|j
    ·have U:=anT j q;refine vb j<|wa (Qo t (0+6))<|wn<|vx (l1 u_4 ((mm o) 6 _ rfl))<|wa (Qo e (0+6))<|wn<|vx (l1 u_4 (p 6 _ rfl))<|Kt (a.Auto==b.Auto) ?_;obtain rfl:=si U;refine Kq (a.Auto==b.Auto) ?_;rcases bo (a.Auto==b.Auto) with n|n
     ·have s:=anT n g;refine vb n<|wa (Qo t (0+2))<|wn<|vx (l1 fJ ((mm o) 2 _ rfl))<|wa (Qo e (0+2))<|wn<|vx (l1 fJ (p 2 _ rfl))<|wn<|bn s fun x h0 s=>cl (sL d a.Lines b.Lines h2.m h4.m h0) ?_;rintro v39 e0 y0 ⟨X,rfl⟩;obtain rfl:=si s;exact vv (B x)<|KB e0 ⟨X,rfl⟩
     obtain rfl:=anF n g;exact vb n<|pz<|pz<|ps<|vv (B false)<|KB f ⟨d,rfl⟩
    obtain rfl:=anF j q;refine vb j<|pz<|pz<|ps<|Kq false ?_;have z:false=false:=rfl;obtain rfl:=anF z g;exact vb z<|pz<|pz<|ps<|vv (B false)<|KB f ⟨d,rfl⟩
   obtain rfl:=anF i u;refine vb i<|pz<|pz<|ps<|Kq false ?_;have A:false=false:=rfl;obtain rfl:=anF A q;refine vb A<|pz<|pz<|ps<|Kq false ?_;have D:false=false:=rfl;obtain rfl:=anF D g;exact vb D<|pz<|pz<|ps<|vv (B false)<|KB f ⟨d,rfl⟩
  obtain rfl:=anF h y;refine vb h<|pz<|pz<|ps<|Kq false ?_;have E:false=false:=rfl;obtain rfl:=anF E u;refine vb E<|pz<|pz<|ps<|Kq false ?_;have M:false=false:=rfl;obtain rfl:=anF M q;refine vb M<|pz<|pz<|ps<|Kq false ?_;have N:false=false:=rfl;obtain rfl:=anF N g;exact vb N<|pz<|pz<|ps<|vv (B false)<|KB f ⟨d,rfl⟩
 rintro e_ w_ ⟨f0,w0,_,rfl,z0,rfl,Z,rfl⟩;refine nrm<|W.ret ?_;obtain rfl:=si H;exact KC f0 ⟨Z,rfl⟩
def go (p0:List aH):Option Bool:=
 (cH (σ:=Int×Int) (τ:=Bool ⊕ Unit) (((p0.length:Int)-0).toNat+1) (fun a=>
 (bL (decide (a.2<(p0.length:Int))) (some (decide (a.2<60)))).bind fun d=>
 if d then
 (idx p0 a.2).bind fun c=>
 (orE (decide ((w64 (a.1+(c.Bytes.length:Int)))>600)) ((idx p0 a.2).bind fun h=>
 (bL (h.Kind==13) ((idx p0 a.2).bind fun i=>
 some (decide (i.A>60)))).bind fun f=>
 (bL f ((idx p0 a.2).bind fun j=>
 some (decide (j.B>60)))).bind fun g=>
 some g)).bind fun e=>
 if e then
 some (.inr (.inl true))
 else
 some (.inl ((w64 (a.1+(c.Bytes.length:Int))),(w64 (a.2+1))))
 else
 some (.inr (.inr ()))) (0,0)).bind fun b=>
 match b with
 | .inl b=>
 some b
 | .inr b=>
 some (decide ((p0.length:Int)>50))
theorem rP (O0:Own c0 G F) (s:List aH){r:Bool}(f:Sl mC c0 v1 s) (H:go s=some r): KP 12 #[v1] c0 fun c v=>Own c G F/\v=B r:=by
 unfold go at H;refine en func12 rfl rfl<|Ky false<|wln<|KD 0<|KA<|KD 0<|wln<|W.block<|bn H fun y h3 H4=>lp h3 (fun a=>Jn c0 fun c l=>Own c G F/\l= [(0,v1),(3,I a.1),(4,I a.2)]) (fun t=>match t with|.inl x_=>(fun i1 ex e w=>ex= .ret/\(Jn c0 fun c l=>Own c G F/\l= [(2,B i1)]) e w) x_|.inr x_=>(fun t1 ex e w=>ex= .exit 0/\(Jn c0 fun c l=>Own c G F/\l= [(0,v1)]) e w) x_) ?_ ?_ ?_
 ·clear H4 h3;intro a g2 t0 j1 H;revert t0 j1;rintro D M ⟨c5,g6,_,rfl,E,rfl,O7,rfl⟩;refine W.seq<|W.seq<|bn H fun g0 R H=>W.join (Jn c5 fun c l=>Own c G F/\l= [(0,v1),(3,I a.1),(4,I a.2),(12,B g0)]) ?_ ?_
  ·clear H;refine KF a.2<|va v1<|vx (ln 3 uv f.m)<|Kr (a.2<(s.length:Int)) ?_;rcases bo (decide (a.2<(s.length:Int))) with i|i
   ·have k0:=anT i R;refine vb i<|wa (I a.2)<|Ks (a.2<60) ?_;cases k0;exact Kr (a.2<60)<|KB c5 ⟨O7,rfl⟩
   obtain rfl:=anF i R;exact vb i<|pz<|Kq false<|KB c5 ⟨O7,rfl⟩
  rintro D M ⟨g,u1,_,rfl,q,rfl,h,rfl⟩;refine nrm<|cn H (fun v0 H=>?_) (fun v0 H=>?_)
  ·refine KI<|KM<|KD a.1<|va v1<|Ku a.2<|bn H fun d S H=>?_;obtain ⟨n1,w0,e1⟩:=Sl.at (f.mono (E.trans q)) (aS S);obtain ⟨v25,rfl,x0⟩:=w0;refine vx (ix uv f.m S)<|Kw (sb v1) (so v1+a.2.toNat*4+3)<|vx (l1 iN (e1 3 _ rfl))<|vx (ln 3 iN x0)<|Kv (a.1+(d.Bytes.length:Int))<|KA<|bn H fun h0 T H=>W.join (Jn g fun c l=>Own c G F/\l= [(0,v1),(3,I (w64 (a.1+(d.Bytes.length:Int)))),(4,I a.2),(48,B h0)]) ?_ ?_
   ·clear H;refine W.region<|Kx (a.1+(d.Bytes.length:Int))<|Kr ((w64 (a.1+(d.Bytes.length:Int)))>600) ?_;rcases bo (decide ((w64 (a.1+(d.Bytes.length:Int)))>600)) with j|j
    ·obtain rfl:=orT j T;exact vb j<|pz<|pz<|pz<|pz<|pz<|pz<|pz<|pz<|pz<|pz<|pz<|Kq true<|KB g ⟨h,rfl⟩
    have b:=orF j T;refine vb j<|wa v1<|wa (I a.2)<|wn<|bn b fun z U b=>?_;obtain ⟨p1,z0,f1⟩:=Sl.at (f.mono (E.trans q)) (aS U);obtain ⟨v34,rfl,z1⟩:=z0;refine vx (ix uv f.m U)<|wa (Qo (sb v1) (so v1+a.2.toNat*4))<|wn<|vx (l1 u_3 (f1 0 _ rfl))<|Kt (z.Kind==13)<|wn<|bn b fun m1 X b=>?_;rcases bo (z.Kind==13) with k|k
    ·have u:=anT k X;refine vb k<|wa v1<|wa (I a.2)<|wn<|bn u fun o Z u=>?_;obtain ⟨q1,a1,g1⟩:=Sl.at (f.mono (E.trans q)) (aS Z);obtain ⟨v43,rfl,b2⟩:=a1;refine vx (ix uv f.m Z)<|wa (Qo (sb v1) (so v1+a.2.toNat*4+1))<|wn<|vx (l1 u_3 (g1 1 _ rfl))<|Ks (o.A>60)<|wn ?_;cases u;refine Kr (o.A>60)<|wn<|bn b fun i0 a0 b=>?_;rcases bo (decide (o.A>60)) with n|n
     ·have x:=anT n a0;refine vb n<|wa v1<|wa (I a.2)<|wn<|bn x fun p b0 x=>?_;obtain ⟨s1,b1,h1⟩:=Sl.at (f.mono (E.trans q)) (aS b0);obtain ⟨v52,rfl,c2⟩:=b1;refine vx (ix uv f.m b0)<|wa (Qo (sb v1) (so v1+a.2.toNat*4+2))<|wn<|vx (l1 u_3 (h1 2 _ rfl))<|Ks (p.B>60)<|wn ?_;cases x;refine Kr (p.B>60) ?_;cases b;exact Kr (p.B>60)<|KB g ⟨h,rfl⟩
     obtain rfl:=anF n a0;refine vb n<|pz<|pz<|pz<|Kt false ?_;cases b;exact Kq false<|KB g ⟨h,rfl⟩
    obtain rfl:=anF k X;refine vb k<|pz<|pz<|pz<|Kt false<|wn<|bn b fun i0 c1 b=>?_;have d0:false=false:=rfl;obtain rfl:=anF d0 c1;refine vb d0<|pz<|pz<|pz<|Kt false ?_;cases b;exact Kq false<|KB g ⟨h,rfl⟩
   rintro D M ⟨P,w1,_,rfl,d2,rfl,N,rfl⟩;refine nrm<|cn H (fun d1 H=>?_) (fun d1 H=>?_)
   ·refine Ky true<|KG<|KL ?_;cases H;exact ⟨_,rfl,⟨rfl,jn P ⟨N,rfl⟩⟩⟩
   refine W.skip<|KJ<|KF a.2<|Kv (a.2+1)<|WL.nil ?_;cases H;exact ⟨_,rfl,jn P ⟨N,rfl⟩⟩
  refine W.exit<|thx ?_;cases H;exact ⟨_,rfl,rfl,jn g ⟨h,rfl⟩⟩
 ·exact jn c0 ⟨O0,rfl⟩
 rcases y with y|y
 ·intro u0; revert u0;rintro _ D M ⟨rfl,q0,x1,_,rfl,e2,rfl,l0,rfl⟩;refine KL ?_;cases H4;exact KC q0 ⟨l0,rfl⟩
 rintro _ D M ⟨rfl,s0,y1,_,rfl,f2,rfl,o0,rfl⟩;refine KK<|KE v1<|vx (ln 3 uv f.m)<|vv (B (decide ((s.length:Int)>50)))<|KG ?_;cases H4;exact KC s0 ⟨o0,rfl⟩
def gV (p0:List Int):Option (Int×Int):=
 (idx p0 0).bind fun k=>
 (jK k).bind fun b=>
 if decide (b<2) then
 some (b,b)
 else
 (idx p0 0).bind fun h=>
 (kf h).bind fun c=>
 (cH (σ:=Int×Int×Int) (τ:=Int) ((b-1).toNat+1) (fun a=>
 (bL (decide (a.2.2<b)) (some (decide (a.2.2<(p0.length:Int))))).bind fun d=>
 (bL d ((idx p0 a.2.2).bind fun i=>
 some (decide (i>=a.1)))).bind fun e=>
 (bL e ((idx p0 a.2.2).bind fun j=>
 some (decide (j<=a.2.1)))).bind fun f=>
 if f then
 some (.inl (128,191,(w64 (a.2.2+1))))
 else
 some (.inr a.2.2)) (c.1,c.2,1)).bind fun g=>
 some (g,b)
theorem sx (O0:Own c0 G F) (y:List Int){r:Int×Int}(f:Sl (RI .u8) c0 v1 y) (H:gV y=some r): KP 161 #[v1] c0 fun c v=>Own c G F/\v= .tuple #[I r.1,I r.2]:=by
 unfold gV at H;refine en func161 rfl rfl<|sr<|vv (I 0)<|wln<|KE v1<|bn H fun c1 h3 H=>?_;obtain ⟨u1,h5,m6⟩:=Sl.at f (aS h3);obtain rfl:=h5;refine vx (ix iN f h3)<|vx (l1 u_5 (m6 0 _ rfl))<|bn H fun b h7 H=>cl (oU O0 c1 h7) ?_;rintro v13 j0 u ⟨O9,rfl⟩;refine Ku b<|KA<|KD b<|Kr (b<2)<|KH H (fun o0 H=>?_) (fun o0 H=>?_)
 ·refine sr<|vv (I b)<|vv (I b)<|KG<|thr ?_;cases H;exact r2 (qq j0 ⟨O9,rfl⟩)
 refine KI<|KE v1<|bn H fun e0 N H=>?_;obtain ⟨i1,q0,x0⟩:=Sl.at (f.mono u) (aS N);obtain rfl:=q0;refine vx (ix iN f.m N)<|vx (l1 u_5 (x0 0 _ rfl))<|bn H fun d s0 H=>cl (sI O9 e0 s0) ?_;rintro v25 s a0 ⟨g0,rfl⟩;refine va (.tuple #[.int .u8 d.1,.int .u8 d.2])<|va (.int .u8 d.1)<|va (.int .u8 d.2)<|va (.int .u8 d.1)<|va (.int .u8 d.2)<|wln<|KD 1<|KA<|W.block<|bn H fun x P D=>lp P (fun a=>Jn s fun c l=>Own c G F/\l= [(0,v1),(4,I b),(5,.int .u8 a.1),(6,.int .u8 a.2.1),(7,I a.2.2)]) (fun A ex e w=>ex= .exit 0/\(Jn s fun c l=>Own c G F/\l= [(4,I b),(7,I A)]) e w) ?_ ?_ ?_
 ·clear D P;intro a w1 m0 b1 H;revert m0 b1;rintro e_ w_ ⟨g,n1,_,rfl,b0,rfl,n,rfl⟩;refine W.seq<|W.seq<|bn H fun e1 R H=>bn H fun f1 t H=>bn H fun d0 o H=>W.join (Jn g fun c l=>Own c G F/\l= [(0,v1),(4,I b),(7,I a.2.2),(47,B d0)]) ?_ ?_
  ·clear H;refine KF a.2.2<|Ku b<|Kr (a.2.2<b) ?_;rcases bo (decide (a.2.2<b)) with h|h
   ·have f0:=anT h R;refine vb h<|wa (I a.2.2)<|wa v1<|wn<|vx (ln 3 iN f.m)<|Ks (a.2.2<(y.length:Int)) ?_;cases f0;refine Kr (a.2.2<(y.length:Int)) ?_;rcases bo (decide (a.2.2<(y.length:Int))) with i|i
    ·have p:=anT i t;refine vb i<|wa v1<|wa (I a.2.2)<|wn<|bn p fun k S p=>?_;obtain ⟨j1,u0,y0⟩:=Sl.at (f.mono (u.trans (a0.trans b0))) (aS S);obtain rfl:=u0;refine vx (ix iN f.m S)<|wn<|vx (l1 u_5 (y0 0 _ rfl))<|wa (.int .u8 a.1)<|Ks (k>=a.1) ?_;cases p;refine Kr (k>=a.1) ?_;rcases bo (decide (k>=a.1)) with j|j
     ·have q:=anT j o;refine vb j<|wa v1<|wa (I a.2.2)<|wn<|bn q fun z T q=>?_;obtain ⟨k1,v0,z0⟩:=Sl.at (f.mono (u.trans (a0.trans b0))) (aS T);obtain rfl:=v0;refine vx (ix iN f.m T)<|wn<|vx (l1 u_5 (z0 0 _ rfl))<|wa (.int .u8 a.2.1)<|Ks (z<=a.2.1) ?_;cases q;exact Kr (z<=a.2.1)<|KB g ⟨n,rfl⟩
     obtain rfl:=anF j o;exact vb j<|pz<|pz<|pz<|Kq false<|KB g ⟨n,rfl⟩
    obtain rfl:=anF i t;refine vb i<|pz<|pz<|pz<|Kq false ?_;have U:false=false:=rfl;obtain rfl:=anF U o;exact vb U<|pz<|pz<|pz<|Kq false<|KB g ⟨n,rfl⟩
   obtain rfl:=anF h R;refine vb h<|pz<|pz<|Kq false ?_;have X:false=false:=rfl;obtain rfl:=anF X t;refine vb X<|pz<|pz<|pz<|Kq false ?_;have Z:false=false:=rfl;obtain rfl:=anF Z o;exact vb Z<|pz<|pz<|pz<|Kq false<|KB g ⟨n,rfl⟩
  rintro e_ w_ ⟨M,p1,_,rfl,s1,rfl,E,rfl⟩;refine nrm<|cn H (fun w0 H=>?_) (fun w0 H=>?_)
  ·refine KI<|W.block<|KE (.int .u8 128)<|va (.int .u8 191)<|wln<|KF a.2.2<|Kv (a.2.2+1)<|WL.nil<|bkn ?_;cases H;exact ⟨_,rfl,jn M ⟨E,rfl⟩⟩
  refine W.exit<|thx ?_;cases H;exact ⟨_,rfl,rfl,jn M ⟨E,rfl⟩⟩
 ·exact jn s ⟨g0,rfl⟩
 rintro _ e_ w_ ⟨rfl,k0,q1,_,rfl,t1,rfl,h0,rfl⟩;refine KK<|KD x<|Ku b<|Ku x<|Ku b<|KG ?_;cases D;exact r2 (qq k0 ⟨h0,rfl⟩)
def lm (p0:List Int):Option Int:=
 (idx p0 0).bind fun e=>
 (lP e).bind fun f=>
 (slc p0 1 p0.length).bind fun b=>
 (cH (σ:=Int×Int) (τ:=Int) (((b.length:Int)-0).toNat+1) (fun a=>
 if decide (a.2<(b.length:Int)) then
 (idx b a.2).bind fun d=>
 some (.inl ((qF .i64 (w64 (a.1*2 ^ 6)) (w64 (ko .u8 d 63))),(w64 (a.2+1))))
 else
 some (.inr a.1)) (f,0)).bind fun c=>
 some (w32 c)
theorem xq (X:Own c0 G F) (R:List Int){r:Int}(s:Sl (RI .u8) c0 v1 R) (H:lm R=some r): KP 218 #[v1] c0 fun c v=>Own c G F/\v=J r:=by
 unfold lm at H;refine en func218 rfl rfl<|KE (J 0)<|wln<|KE v1<|bn H fun T E H=>?_;obtain ⟨k0,h5,m6⟩:=Sl.at s (aS E);obtain rfl:=h5;refine vx (ix iN s E)<|vx (l1 u_5 (m6 0 _ rfl))<|bn H fun U h7 H=>cl (uT X T h7) ?_;rintro v13 f M ⟨Z,rfl⟩;refine Ku U<|KA<|KE v1<|bn H fun h y H=>?_;obtain ⟨v15,z,g⟩:=pY (k:= .i64) iN (by kernel_rfl) (s.mono M) y;refine vr v15 (rx (by kernel_rfl) (z _))<|vx (ln 3 iN g)<|Ku 0<|wln<|W.block<|bn H fun d p j=>lp p (fun a=>Jn f fun c l=>Own c G F/\l= [(3,I a.1),(11,v15),(12,I (h.length:Int)),(13,I a.2)]) (fun i ex e w=>ex= .exit 0/\(Jn f fun c l=>Own c G F/\l= [(3,I i)]) e w) ?_ ?_ ?_
 ·clear j p;intro a l0 x S H;revert x S;rintro e_ w_ ⟨o,h0,_,rfl,N,rfl,n,rfl⟩;refine sr<|Kr (a.2<(h.length:Int))<|KA<|cn H (fun A H=>?_) (fun A H=>?_)
  ·refine KI<|KM<|sr<|bn H fun b q H=>?_;obtain ⟨e0,D,P⟩:=Sl.at (g.mono N) (aS q);obtain rfl:=D;refine vx (ix iN g.m q)<|vx (l1 u_5 (P 0 _ rfl))<|va (.int .u8 b)<|wln<|KF a.1<|Kx (a.1*2 ^ 6)<|va (.int .u8 b)<|va (.int .u8 (ko .u8 b 63))<|Kx (ko .u8 b 63)<|vv (I (qF .i64 (w64 (a.1*2 ^ 6)) (w64 (ko .u8 b 63))))<|WL.nil<|KJ<|W.region<|Kv (a.2+1)<|WL.nil ?_;cases H;exact ⟨_,rfl,jn o ⟨n,rfl⟩⟩
  refine W.exit<|thx ?_;cases H;exact ⟨_,rfl,rfl,jn o ⟨n,rfl⟩⟩
 ·exact jn f ⟨Z,rfl⟩
 rintro _ e_ w_ ⟨rfl,u,i0,_,rfl,j0,rfl,t,rfl⟩;refine KK<|KD d<|vv (J (w32 d))<|KG ?_;cases j;exact KC u ⟨t,rfl⟩
def mq (p0:List Int) (p1:Int):Option cw:=
 (gV p0).bind fun a=>
 if (a.1==0)=true then
 some (⟨65533,p1,1,(w64 (p1+1)),true⟩:cw)
 else
 if decide (a.1<a.2) then
 some (⟨65533,p1,a.1,(w64 (p1+(aE (w64 (a.1+1)) (p0.length:Int)))),true⟩:cw)
 else
 (slc p0 0 a.1).bind fun b=>
 (lm b).bind fun c=>
 some (⟨c,p1,a.1,(w64 (p1+a.1)),false⟩:cw)
theorem xO (M:Own c0 G F) (d:List Int) (b:Int){r:cw}(n:Sl (RI .u8) c0 v1 d) (H:mq d b=some r): KP 160 #[v1,I b] c0 fun c v=>Own c G F/\v= .agg #[J r.R,I r.At,I r.Len,I r.Known,B r.Bad]:=by
 unfold mq at H;refine en func160 rfl rfl<|sr<|me (al 224 [J 0,I 0,I 0,I 0,B false] M) ?_;rintro v6 c5 S ⟨b3,rfl,N⟩;refine wln<|KE v1<|bn H fun a P H=>cl (sx N d n.m P) ?_;rintro v13 T E ⟨l,rfl⟩;refine va (.tuple #[I a.1,I a.2])<|Ku a.1<|Ku a.2<|Ku a.1<|Ku a.2<|KA<|W.block<|KD a.1<|vv (B (a.1==0))<|KH H (fun u H=>?_) (fun u H=>?_)
 ·refine sr<|vv (I b)<|Kx (b+1)<|va (.agg #[J 65533,I b,I 1,I (w64 (b+1)),B true])<|md (sA 224 [J 65533,I b,I 1,I (w64 (b+1)),B true] 0 l ⟨rfl,rfl,rfl,rfl,rfl,trivial⟩) ?_;rintro i l16 f;refine KG<|KL ?_;cases H;have p:=f.sD 1 [];exact km (c:=i) (vs:=[J 65533,I b,I 1,I (w64 (b+1)),B true]) rfl (by kernel_rfl) (by kernel_rfl) (by kernel_rfl) (f.on 0 rfl _ rfl).1 ⟨_,i,rfl,rfl,pt,p,rfl⟩
 refine KD a.1<|Ku a.2<|vv (B (decide (a.1<a.2)))<|KH H (fun x H=>?_) (fun x H=>?_)
 ·refine KD b<|Ku a.1<|Ku b<|Ku a.1<|Kx (a.1+1)<|va v1<|vx (ln 3 iN n.m)<|Ku (aE (w64 (a.1+1)) (d.length:Int))<|Kx (b+(aE (w64 (a.1+1)) (d.length:Int)))<|va (.agg #[J 65533,I b,I a.1,I (w64 (b+(aE (w64 (a.1+1)) (d.length:Int)))),B true])<|md (sA 224 [J 65533,I b,I a.1,I (w64 (b+(aE (w64 (a.1+1)) (d.length:Int)))),B true] 0 l ⟨rfl,rfl,rfl,rfl,rfl,trivial⟩) ?_;rintro j X g;refine KG<|KL ?_;cases H;have q:=g.sD 1 [];exact km (c:=j) (vs:=[J 65533,I b,I a.1,I (w64 (b+(aE (w64 (a.1+1)) (d.length:Int)))),B true]) rfl (by kernel_rfl) (by kernel_rfl) (by kernel_rfl) (g.on 0 rfl _ rfl).1 ⟨_,j,rfl,rfl,pt,q,rfl⟩
 refine W.skip<|KJ<|KE v1<|Ku a.1<|bn H fun o y H=>?_;obtain ⟨v23,z,A⟩:=rZ (k':= .i64) iN (by kernel_rfl) (n.mono (S.trans E)) y;refine vr v23 (rx (by kernel_rfl) (z _))<|bn H fun e D H=>cl (xq l o A D) ?_;rintro v32 U Z ⟨s,rfl⟩;refine Ku b<|Ku a.1<|Ku b<|Ku a.1<|Kx (b+a.1)<|va (.agg #[J e,I b,I a.1,I (w64 (b+a.1)),B false])<|md (sA 224 [J e,I b,I a.1,I (w64 (b+a.1)),B false] 0 s ⟨rfl,rfl,rfl,rfl,rfl,trivial⟩) ?_;rintro k a0 h;refine KG ?_;cases H;have t:=h.sD 1 [];exact km (c:=k) (vs:=[J e,I b,I a.1,I (w64 (b+a.1)),B false]) rfl (by kernel_rfl) (by kernel_rfl) (by kernel_rfl) (h.on 0 rfl _ rfl).1 ⟨_,k,rfl,rfl,pt,t,rfl⟩
def kr (p0:List Int):Option (List cw):=
 (cH (σ:=(List cw)×Int) (τ:=(List cw)) (((p0.length:Int)-0).toNat+1) (fun a=>
 if decide (a.2<(p0.length:Int)) then
 (slc p0 a.2 p0.length).bind fun c=>
 (mq c a.2).bind fun b=>
 (app a.1 ([b]:List cw)).bind fun d=>
 some (.inl (d,(w64 (a.2+b.Len))))
 else
 some (.inr a.1)) (([]:List cw),0)).bind fun e=>
 some e
theorem qG (O0:Own c0 G F) (o:List Int){r:List cw}(X:Sl (RI .u8) c0 v1 o) (H:kr o=some r): KP 100 #[v1] c0 fun c v=>∃q y2,Own c G (es true dX q 224 y2 r::F)/\v=q/\OA dX c q y2 r:=by
 unfold kr at H;refine en func100 rfl rfl<|KE Y<|wln<|KE Y<|KA<|KD 0<|wln<|W.block<|bn H fun k1 h3 s=>lp h3 (fun b=>Jn c0 fun c l=>∃v5 f,Own c G (es true dX v5 224 f b.1::F)/\l= [(0,v1),(3,v5),(4,I b.2)]/\OA dX c v5 f b.1) (fun d ex e w=>ex= .exit 0/\(Jn c0 fun c l=>∃v7 g,Own c G (es true dX v7 224 g d::F)/\l= [(3,v7)]/\OA dX c v7 g d) e w) ?_ ?_ ?_
 ·clear s h3;intro b n1 P l0 H;revert P l0;rintro e_ w_ ⟨c9,b1,_,rfl,l9,rfl,v5,f,h,rfl,n⟩;refine W.seq<|KD b.2<|va v1<|vx (ln 3 iN X.m)<|Kr (b.2<(o.length:Int))<|KH H (fun S H=>?_) (fun S H=>?_)
  ·refine KI<|W.block<|KE v1<|Ku b.2<|bn H fun p T H=>?_;obtain ⟨v18,U,Z⟩:=pY (k:= .i64) iN (by kernel_rfl) (X.mono l9) T;refine vr v18 (rx (by kernel_rfl) (U _))<|Ku b.2<|bn H fun a a0 H=>cl (xO h p b.2 Z a0) ?_;rintro v27 w0 d1 ⟨t,rfl⟩;refine me (al 224 [J 0,I 0,I 0,I 0,B false] t) ?_;rintro v31 x0 e1 ⟨E,rfl,u⟩;refine md (sA 224 [J a.R,I a.At,I a.Len,I a.Known,B a.Bad] 0 u ⟨rfl,rfl,rfl,rfl,rfl,trivial⟩) ?_;rintro y0 f1 i;refine wln<|KE v5<|vx (leN 224 0 [J a.R,I a.At,I a.Len,I a.Known,B a.Bad] (i.on 0 rfl))<|me (sl dX 224 [[J a.R,I a.At,I a.Len,I a.Known,B a.Bad]] ([a]:List cw) i ⟨rfl,trivial⟩) ?_;rintro v38 z0 g1 ⟨m1,x,d0⟩;obtain ⟨a1,f0,h1,y,e0⟩:=x.frz 0 rfl d0;refine WL.gh f0 (bn H fun v0 g0 H=>me (ap dX (.agg #[J 0,I 0,I 0,I 0,B false]) 40 150 2 y n.m e0 g0 rR) ?_);rintro v48 M i1 ⟨k0,j,h0⟩;refine va v48<|wln<|KF b.2<|Kw E 2<|vx (le1 2 u_3 (j.on 1 rfl))<|Kv (b.2+a.Len)<|WL.nil<|bkn ?_;cases H;refine ⟨_,rfl,?_⟩;have z:=j.sD 3 [2];exact jn M ⟨v48,k0,z,rfl,h0⟩
  refine W.exit<|thx ?_;cases H;exact ⟨_,rfl,rfl,jn c9 ⟨v5,f,h,rfl,n⟩⟩
 ·have i0:OA dX c0 Y [] []:=OA.nil (aO _);have A:=O0.addHole (e:=es true dX Y 224 [] ([]:List cw)) rfl;exact jn c0 ⟨(Y),[],A,rfl,i0⟩
 rintro _ e_ w_ ⟨rfl,N,c1,_,rfl,j1,rfl,v7,g,D,rfl,j0⟩;refine KK<|sr<|vv v7<|KG ?_;cases s;exact KC N ⟨v7,g,D,rfl,j0⟩
def mt (p0:List Int):Option Int:=
 (kr p0).bind fun c=>
 if ((c.length:Int)==0)=true then
 some 0
 else
 (idx c (w64 ((c.length:Int)-1))).bind fun a=>
 (slc p0 a.At p0.length).bind fun f=>
 (gV f).bind fun b=>
 (orE (!a.Bad) (some (b.1==0))).bind fun d=>
 (orE d (some (decide (b.1>=b.2)))).bind fun e=>
 if e then
 some 0
 else
 some a.Len
theorem xP (O0:Own c0 G F) (z:List Int){r:Int}(h2:Sl (RI .u8) c0 v1 z) (H:mt z=some r): KP 101 #[v1] c0 fun c v=>Own c G F/\v=I r:=by
 unfold mt at H;refine en func101 rfl rfl<|KD 0<|wln<|KE v1<|bn H fun p h3 H=>cl (qG O0 z h2 h3) ?_;rintro v4 U h0 ⟨_,u5,x,rfl,o⟩;refine va v4<|KA<|KE v4<|vx (lnO 3 rR o)<|Kq ((p.length:Int)==0)<|KH H (fun X H=>?_) (fun X H=>?_)
 ·refine KD 0<|KG<|thr ?_;cases H;have M:=x.sD 1 [];exact KC U ⟨M,rfl⟩
 refine KI<|sr<|vv v4<|vx (lnO 3 rR o)<|Kx ((p.length:Int)-1)<|bn H fun a m H=>vx (ixO rR o m) ?_;obtain ⟨q0,Z,k0⟩:=OA.at o m;obtain rfl:=Z;refine vr (.agg #[J a.R,I a.At,I a.Len,I a.Known,B a.Bad]) (rx (by kernel_rfl) (Au (T:=224) (l:=[J a.R,I a.At,I a.Len,I a.Known,B a.Bad]) (by kernel_rfl) (by kernel_rfl) (x.on 0 rfl) (o.blk m) (at2 (j:=0) k0 rfl)))<|me (al 224 [J 0,I 0,I 0,I 0,B false] x) ?_;rintro v22 t0 i0 ⟨d,rfl,N⟩;refine md (sA 224 [J a.R,I a.At,I a.Len,I a.Known,B a.Bad] 0 N ⟨rfl,rfl,rfl,rfl,rfl,trivial⟩) ?_;rintro u0 j0 q;refine KA<|KE v1<|Kw d 1<|vx (le1 1 u_3 (q.on 0 rfl))<|bn H fun A b0 H=>?_;obtain ⟨v26,d0,e0⟩:=pY (k:= .i64) iN (by kernel_rfl) (h2.mono (h0.trans (i0.trans j0))) b0;refine vr v26 (rx (by kernel_rfl) (d0 _))<|bn H fun b f0 H=>cl (sx q A e0 f0) ?_;rintro v35 h w0 ⟨g,rfl⟩;refine va (.tuple #[I b.1,I b.2])<|Ku b.1<|Ku b.2<|Ku b.1<|Ku b.2<|KA<|bn H fun m0 t H=>bn H fun y n H=>W.join (Jn h fun c l=>Own c G ((Eb d 224 [J a.R,I a.At,I a.Len,I a.Known,B a.Bad])::es true dX v4 224 u5 p::F)/\l= [(4,Q d),(37,B y)]) ?_ ?_
 ·clear H;refine W.region<|Kw d 4<|vx (le1 4 u_4 (g.on 0 rfl))<|Kq (!a.Bad) ?_;rcases bo (!a.Bad) with e|e
  ·obtain rfl:=orT e t;refine vb e<|pz<|Kq true ?_;have u:true=true:=rfl;obtain rfl:=orT u n;exact vb u<|pz<|ps<|Kq true<|KB h ⟨g,rfl⟩
  have D:=orF e t;refine vb e<|wa (I b.1)<|Kt (b.1==0) ?_;cases D;refine Kq (b.1==0) ?_;rcases bo (b.1==0) with f|f
  ·obtain rfl:=orT f n;exact vb f<|pz<|ps<|Kq true<|KB h ⟨g,rfl⟩
  have E:=orF f n;refine vb f<|wa (I b.1)<|wa (I b.2)<|Ks (b.1>=b.2) ?_;cases E;exact Kr (b.1>=b.2)<|KB h ⟨g,rfl⟩
 rintro e_ w_ ⟨s,v0,_,rfl,x0,rfl,i,rfl⟩;refine nrm<|cn H (fun g0 H=>?_) (fun g0 H=>?_)
 ·refine KD 0<|KG<|thr ?_;cases H;have P:=i.sD 2 [];exact KC s ⟨P,rfl⟩
 refine KI<|sr<|Kw d 2<|vx (le1 2 u_3 (i.on 0 rfl))<|Ku a.Len<|KG ?_;cases H;have S:=i.sD 2 [];exact KC s ⟨S,rfl⟩
def jG (p0:aH):Option Bool:=
 (orE (p0.Kind==1) (some (p0.Kind==13))).bind fun c=>
 (orE c ((ky p0).bind fun b=>
 some b.isNil)).bind fun a=>
 some a
theorem qV (N:Own c0 G F) (hG:Gl [2,4] c0) (a:aH){r:Bool}(E:Sl (RI .u8) c0 v1 a.Bytes) (H:jG a=some r): KP 62 #[.agg #[I a.Kind,I a.A,I a.B,v1]] c0 fun c v=>Own c G F/\v=B r:=by
 unfold jG at H;refine en func62 rfl rfl<|sr ?_;obtain ⟨P,R,S,rfl⟩:=(E).form;refine me (bx 38 [I a.Kind,I a.A,I a.B,.slice P R S] N) ?_;rintro v10 o l9 ⟨x,rfl,n,q⟩;refine Kq false<|KA<|bn H fun U j H=>bn H fun p g H=>W.join (Jn o fun c l=>Own c G F/\l= [(2,B p)]) ?_ ?_
 ·clear H;refine Kz (Q x)<|vx (l1 u_3 (q 0 _ rfl))<|Kq (a.Kind==1) ?_;rcases bo (a.Kind==1) with b|b
  ·obtain rfl:=orT b j;refine vb b<|pz<|ps<|Kq true ?_;have k:true=true:=rfl;obtain rfl:=orT k g;exact vb k<|pz<|ps<|vv (B true)<|KB o ⟨n,rfl⟩
  have s:=orF b j;refine vb b<|wa (Q x)<|wn<|vx (l1 u_3 (q 0 _ rfl))<|Kt (a.Kind==13) ?_;cases s;refine Kq (a.Kind==13) ?_;rcases bo (a.Kind==13) with d|d
  ·obtain rfl:=orT d g;exact vb d<|pz<|ps<|vv (B true)<|KB o ⟨n,rfl⟩
  have f:=orF d g;refine vb d<|wn<|vx (lN 38 q)<|wn<|bn f fun e D f=>cl (qN n (hG.m.le (by decide)) a E.m D) ?_;rintro v19 y Z ⟨_,t,rfl,M⟩;refine wn<|vr (B e.isNil) (by rcases (M).cs with ⟨h,i⟩|⟨T,h,i⟩|⟨T,h,i⟩ <;> (subst h; rw [i]; kernel_rfl)) ?_;cases f;exact vv (B e.isNil)<|KB y ⟨t,rfl⟩
 rintro e_ w_ ⟨z,X,_,rfl,a0,rfl,u,rfl⟩;refine nrm<|W.ret ?_;cases H;exact KC z ⟨u,rfl⟩
end Go.Proofs.YtclmdpamofdoiaaGreatDoor
namespace Go.Lt
theorem aJ {n:Int}(h: -9223372036854775808<=n/\n<=9223372036854775807):w64 n=n:=by
 unfold w64;rw [BR];omega
theorem wI {n:Int}(h: -2147483648<=n/\n<=2147483647):w32 n=n:=by
 unfold w32;rw [IntKind.wrap_i32];omega
theorem bsm {α β:Type}(a:α) (f:α->Option β):(some a).bind f=f a:=by simp
theorem mo {σ τ:Type}{step:σ->Option (σ ⊕ τ)}(Inv:σ->Prop) (μ:σ->Nat) (post:τ->Prop)
  (h:∀s,Inv s->(∃s',step s=some (.inl s')/\Inv s'/\μ s' < μ s)\/∃t,step s=some (.inr t)/\post t):
  ∀(fuel:Nat) (s:σ),Inv s->μ s<fuel->∃t,cH fuel step s=some t/\post t:=by
 intro fuel
 induction fuel with
 | zero=>intro s _ hm; omega
 | succ k ih=>
  intro s hs hm;rcases h s hs with ⟨s',h1,h2,h3⟩|⟨t,h1,h2⟩
  ·obtain ⟨t,h4,h5⟩:=ih s' h2 (by omega);exact ⟨t,by simp [cH,h1,h4],h5⟩
  ·exact ⟨t,by simp [cH,h1],h2⟩
theorem qE {σ τ:Type}{step:σ->Option (σ ⊕ τ)}(Inv:σ->Prop) (μ:σ->Nat){t:τ}
  (h:∀s,Inv s->(∃s',step s=some (.inl s')/\Inv s'/\μ s' < μ s)\/step s=some (.inr t)){fuel:Nat}{s:σ}(h0:Inv s) (hm:μ s<fuel):cH fuel step s=some t:=by
 obtain ⟨t',h1,h2⟩:=mo Inv μ (fun x=>x=t) (fun s hs=>(h s hs).imp id fun h=>⟨t,h,rfl⟩) fuel s h0 hm;rw [h1,h2]
theorem bu (a b:Bool):orE a (some b)=some (a || b):=by cases a <;> rfl
theorem bb (a b:Bool):bL a (some b)=some (a && b):=by cases a <;> rfl
theorem Ak (x:Option Bool):orE true x=some true:=rfl
theorem ig (x:Option Bool):orE false x=x:=rfl
theorem ip (x:Option Bool):bL true x=x:=rfl
theorem iu (x:Option Bool):bL false x=some false:=rfl
theorem tl {α:Type}(xs:List α) (i:Nat):idx xs (i:Int)=xs[i]? :=by
 unfold idx;rw [af (JS i)];rfl
theorem bj {α:Type}{xs:List α}{i:Nat}(h:i<xs.length):idx xs (i:Int)=some xs[i]:=by
 rw [tl,ag h]
theorem lj {α:Type}{xs:List α}{i:Nat}(h:i<xs.length) (x:α):oK xs (i:Int) x=some (xs.set i x):=by
 unfold oK;rw [af ⟨JS i,by omega⟩];rfl
theorem cO {α:Type}{xs ys:List α}(h:xs.length+ys.length<=1099511627776):app xs ys=some (xs++ys):=by
 unfold app far;rw [af h]
theorem pJ {α:Type}{n:Int}(x:α) (h:0<=n/\n<=1099511627776):rep n x=some (List.replicate n.toNat x):=by
 unfold rep far;rw [af (by omega)]
theorem mI {α:Type}{xs:List α}{i j:Nat}(h:i<=j) (h2:j<=xs.length):slc xs i j=some ((xs.drop i).take (j-i)):=by
 unfold slc;rw [af (by omega)]
 congr 2
 omega
theorem fK (x y:Int):aK x y=max x y:=by unfold aK; split <;> omega
theorem dL (x y:Int):aE x y=min x y:=by unfold aE; split <;> omega
theorem oY {τ:Type}{step:Int->Option (Int ⊕ τ)}{n:Nat}(hn:n<=9223372036854775807) (post:τ->Prop) (Inv:Nat->Prop) (h0:Inv 0)
  (h:∀i:Nat,i<n->Inv i->(step i=some (.inl ((i+1:Nat):Int))/\Inv (i+1))\/∃t,step i=some (.inr t)/\post t)
  (hend:Inv n->∃t,step n=some (.inr t)/\post t):∃t,cH (((n:Int)-0).toNat+1) step 0=some t/\post t:=by
 refine mo (fun s:Int=>∃i:Nat,s=(i:Int)/\i<=n/\Inv i) (fun s:Int=>n-s.toNat) post (fun s ⟨i,hs,hi,hI⟩=>?_) _ _ ⟨0,rfl,bT _,h0⟩ (by simp);subst hs;rcases aU i n with hlt|hge
 ·rcases h i hlt hI with ⟨h1,h2⟩|h1
  ·exact .inl ⟨_,h1,⟨i+1,rfl,hlt,h2⟩,by simp; omega⟩
  ·exact .inr h1
 ·obtain rfl:i=n:=by omega
  exact .inr (hend hI)
theorem eV {σ τ:Type}{step:σ->Option (σ ⊕ τ)}{n:Nat}(Inv:Nat->σ->Prop) (post:τ->Prop)
  (h:∀i s,i<n->Inv i s->(∃s',step s=some (.inl s')/\Inv (i+1) s')\/∃t,step s=some (.inr t)/\post t)
  (hend:∀s,Inv n s->∃t,step s=some (.inr t)/\post t){fuel:Nat}{s:σ}(h0:Inv 0 s) (hf:n<fuel):∃t,cH fuel step s=some t/\post t:=by
 have key:∀fuel i s,i<=n->n-i<fuel->Inv i s->∃t,cH fuel step s=some t/\post t:=by
  intro fuel
  induction fuel with
  | zero=>intro i s _ hm; omega
  | succ k ih=>
   intro i s hi hm hs;rcases aU i n with hlt|hge
   ·rcases h i s hlt hs with ⟨s',h1,h2⟩|⟨t,h1,h2⟩
    ·obtain ⟨t,h4,h5⟩:=ih (i+1) s' hlt (by omega) h2;exact ⟨t,by simp [cH,h1,h4],h5⟩
    ·exact ⟨t,by simp [cH,h1],h2⟩
   ·obtain rfl:i=n:=by omega
    obtain ⟨t,h1,h2⟩:=hend s hs;exact ⟨t,by simp [cH,h1],h2⟩
 exact key fuel 0 s (bT _) (by omega) h0
theorem zy {α β:Type}{x:Option α}{k:α->Option β}{a:α}{r:Option β}(h:x=some a) (h2:k a=r):x.bind k=r:=by rw [h]; exact h2
theorem iO {σ τ β:Type}{step:σ->Option (σ ⊕ τ)}{n:Nat}(Inv:Nat->σ->Prop) (post:τ->Prop){fuel:Nat}{s:σ}{k:τ->Option β}{r:Option β}
  (h:∀i s,i<n->Inv i s->(∃s',step s=some (.inl s')/\Inv (i+1) s')\/∃t,step s=some (.inr t)/\post t)
  (hend:∀s,Inv n s->∃t,step s=some (.inr t)/\post t) (h0:Inv 0 s) (hf:n<fuel) (hk:∀t,post t->k t=r):(cH fuel step s).bind k=r:=by
 obtain ⟨t,h1,h2⟩:=eV Inv post h hend h0 hf;rw [h1];exact hk t h2
theorem mO {σ τ β:Type}{step:σ->Option (σ ⊕ τ)}{n:Nat}(Inv:Nat->σ->Prop) (post:τ->Prop){fuel:Nat}{s:σ}{k:τ->Option β}{p:β->Prop}
  (h:∀i s,i<n->Inv i s->(∃s',step s=some (.inl s')/\Inv (i+1) s')\/∃t,step s=some (.inr t)/\post t)
  (hend:∀s,Inv n s->∃t,step s=some (.inr t)/\post t) (h0:Inv 0 s) (hf:n<fuel) (hk:∀t,post t->∃r,k t=some r/\p r):∃r,(cH fuel step s).bind k=some r/\p r:=by
 obtain ⟨t,h1,h2⟩:=eV Inv post h hend h0 hf;rw [h1];exact hk t h2
theorem xf {α τ:Type}{step:List α×Int->Option (List α×Int ⊕ τ)}{n fuel:Nat}(f:Nat->α){t:τ}
  (h:∀i,i<n->step ((List.range i).map f,(i:Int))=some (.inl ((List.range i).map f++ [f i],((i+1:Nat):Int))))
  (hend:step ((List.range n).map f,(n:Int))=some (.inr t)) (hf:n<fuel):cH fuel step ([],0)=some t:=by
 obtain ⟨t',h1,h2⟩:=eV (step:=step) (n:=n) (fuel:=fuel) (s:=([],0)) (fun i s=>s=((List.range i).map f,(i:Int))) (fun t'=>t'=t)
  (fun i s hi e=>by subst e; exact .inl ⟨_,h i hi,by rw [qP,bC]; rfl⟩) (fun s e=>by subst e; exact ⟨t,hend,rfl⟩) rfl hf
 rw [h1,h2]
theorem dm {i n:Nat}(h:i<n) (hn:n<=9223372036854775807):w64 ((i:Int)+1)=((i+1:Nat):Int):=by
 rw [aJ (by omega)];simp
theorem dlt {i n:Nat}(h:i<n):decide ((i:Int)<(n:Int))=true:=by simp; exact h
theorem dnl (n:Nat):decide ((n:Int)<(n:Int))=false:=by simp
end Go.Lt
namespace Go.Lt
open Go
set_option linter.unusedVariables false
variable {c c':Cx}
def R_V:Rp Value where
 size:=1
 cells:=fun _ l x=>l= [x]/\x.oneCell'=true
 len:=fun h=>by rw [h.1]; rfl
 one:=by
  intro c l x h v hv
  rw [h.1] at hv
  simp only [fg,dw,mn] at hv
  rw [hv]
  exact h.2
 mono:=fun _ h=>h
def NS (c:Cx) (cv:Value) (cvs:List Value) (cur:List Int) (hv:Value) (hvs:List Value) (hs:List Value) (out:List (List Int)):Prop:=
 OA (RI .i32) c cv cvs cur/\OA R_V c hv hvs hs/\((hs= []/\out= [])\/∃(h0:List Value) (gs:List (List Int)),hs=h0++ [cv]/\out=gs++ [cur]/\h0.length=gs.length/\∀(i:Nat) (h:Value) (g:List Int),h0[i]? = some h->gs[i]? = some g->Sl (RI .i32) c h g)
theorem NS.mono {cv hv:Value}{cvs hvs hs:List Value}{cur:List Int}{out:List (List Int)}(h:NS c cv cvs cur hv hvs hs out) (k:c.le c'):NS c' cv cvs cur hv hvs hs out:=
 ⟨h.1.mono k,h.2.1.mono k,h.2.2.imp id fun ⟨h0,gs,a,b,d,e⟩=>⟨h0,gs,a,b,d,fun i x g p q=>(e i x g p q).mono k⟩⟩
theorem NS.m {cv hv:Value}{cvs hvs hs:List Value}{cur:List Int}{out:List (List Int)}(h:NS c cv cvs cur hv hvs hs out) (k:c.le c':=by repeat (first|assumption|refine Cx.le.trans ?_ (by assumption))):NS c' cv cvs cur hv hvs hs out:=h.mono k
theorem NS.len {cv hv:Value}{cvs hvs hs:List Value}{cur:List Int}{out:List (List Int)}(h:NS c cv cvs cur hv hvs hs out):hs.length=out.length:=by
 rcases h.2.2 with ⟨rfl,rfl⟩|⟨h0,gs,rfl,rfl,e,_⟩
 ·rfl
 ·rw [ao,ao,e];rfl
theorem NS.next {cv hv hv':Value}{cvs hvs hs hvs' hs':List Value}{cur:List Int}{out out':List (List Int)}(h:NS c cv cvs cur hv hvs hs out) (k:c.le c') (hc:Sl (RI .i32) c' cv cur) (ho:app out ([[]]:List (List Int))=some out') (h1:hs'=hs++ [.slice none 0 0]) (hn:OA R_V c' hv' hvs' hs'):NS c' (.slice none 0 0) [] [] hv' hvs' hs' out':=by
 have ho':out'=out++ [[]]:=by
  unfold app at ho;split at ho
  ·exact (bi ho).symm
  ·cases ho
 subst ho' h1;refine ⟨OA.nil (aO _),hn,.inr ?_⟩;rcases h.2.2 with ⟨rfl,rfl⟩|⟨h0,gs,rfl,rfl,e,f⟩
 ·exact ⟨[],[],rfl,rfl,rfl,fun i x g p=>by simp at p⟩
 ·refine ⟨h0++ [cv],gs++ [cur],rfl,rfl,by rw [ao,ao,e]; rfl,fun i x g p q=>?_⟩;rcases aU i h0.length with hi|hi
  ·rw [aG hi] at p;rw [aG (by omega)] at q;exact (f i x g p q).mono k
  ·rw [aM hi] at p;rw [aM (by omega)] at q;have hj:i-h0.length=0:=by
    by_cases h:i-h0.length=0
    ·exact h
    ·rw [aT (by simp; omega)] at p;cases p
   rw [hj] at p;rw [show i-gs.length=0 by omega] at q;cases p;cases q;exact hc
theorem Ih {cv hv:Value}{cvs hvs hs:List Value}{cur:List Int}{out out':List (List Int)}(h:NS c cv cvs cur hv hvs hs out) (ho:app out ([[]]:List (List Int))=some out') (v:Value):app hs [v]=some (hs++ [v]):=by
 unfold app at ho|-;split at ho
 ·rename_i q
  rw [af (by rw [h.len]; exact q)]
 ·cases ho
theorem NS.last {cv hv:Value}{cvs hvs hs:List Value}{cur x:List Int}{out:List (List Int)}{m:Nat}(h:NS c cv cvs cur hv hvs hs out) (hm:out.length=m) (hx:idx out (w64 ((m:Int)-1))=some x):x=cur/\idx hs (w64 ((m:Int)-1))=some cv/\(∀v,∃hs',oK hs (w64 ((m:Int)-1)) v=some hs'/\
  ∀y out' c' cvs' hv' hvs',oK out (w64 ((m:Int)-1)) y=some out'->c.le c'->OA (RI .i32) c' v cvs' y->OA R_V c' hv' hvs' hs'->NS c' v cvs' y hv' hvs' hs' out'/\out'.length=m):=by
 have hl:=h.2.1.len_le;rw [h.len,hm] at hl;rcases h.2.2 with ⟨rfl,rfl⟩|⟨h0,gs,rfl,rfl,e,f⟩
 ·unfold idx at hx;split at hx
  ·simp at hx
  ·cases hx
 ·have hg:m=gs.length+1:=by rw [<-hm]; simp
  subst hg;have hw:w64 (((gs.length+1:Nat):Int)-1)=(gs.length:Int):=by
   have:(((gs.length+1:Nat):Int)-1)=(gs.length:Int):=by omega
   rw [this];exact aJ (by simp at hl; omega)
  rw [hw] at hx|-;refine ⟨?_,?_,fun v=>⟨h0++ [v],?_,fun y out' c2 cvs' hv' hvs' hs2 k hc hh=>?_⟩⟩
  ·unfold idx at hx;rw [af (by omega),bE,aM (aq _),dG] at hx;cases hx;rfl
  ·unfold idx;rw [af (by omega),bE,aM (by omega),e,dG];rfl
  ·unfold oK;rw [af (by simp; omega),bE,<-e,iF _ _ (aq _),dG];rfl
  ·unfold oK at hs2;rw [af (by simp; omega),bE,iF _ _ (aq _),dG] at hs2;cases hs2;exact ⟨⟨hc,hh,.inr ⟨h0,gs,rfl,rfl,e,fun i x g p q=>(f i x g p q).mono k⟩⟩,by simp⟩
theorem NS.all {cv hv:Value}{cvs hvs hs:List Value}{cur:List Int}{out:List (List Int)}(h:NS c cv cvs cur hv hvs hs out) (k:c.le c') (hc:Sl (RI .i32) c' cv cur):OA (RL (RI .i32)) c' hv hvs out:=by
 refine ⟨aO _,?_,fun i x hx=>?_⟩
 ·rcases h.2.1.2.1 with ⟨e,e2⟩|⟨g,cap,e,h1,h2,h3⟩
  ·refine .inl ⟨e,cS ?_⟩;rw [<-h.len,e2];rfl
  ·rw [h.len] at e h1;exact .inr ⟨g,cap,e,h1,h2,h3⟩
 ·have hi:i<hs.length:=by
   rw [h.len];exact (List.getElem?_eq_some_iff.1 hx).1
  obtain ⟨e,_⟩:=h.2.1.2.2 i hs[i] (ag hi);refine ⟨hs[i],e,?_⟩;rcases h.2.2 with ⟨_,rfl⟩|⟨h0,gs,rfl,rfl,el,f⟩
  ·cases hx
  ·rcases aU i h0.length with hj|hj
   ·rw [aG (by omega)] at hx;exact (f i _ x (by rw [GJ hj]; exact ag hj) hx).mono k
   ·have hj2:i=h0.length:=by simp at hi; omega
    subst hj2;rw [aM (by omega),el,dG] at hx;cases hx;rw [Fh (aq _)];simpa using hc
end Go.Lt
namespace Go.Proofs.YtclmdpamofdoiaaGreatDoor
open Go Go.Lt
set_option maxRecDepth 10000
set_option linter.unusedVariables false
attribute [local irreducible] W WL AC
open Tryz
variable {c0:Cx}{G:Gm}{F:List En}{sg:Sto}{v1 v2 v3 v4 v5 v6 v7 v8 v9 v10 v11 v12 v13 v14 v15 v16 v17 v18 v19 v20 v21 v22 v23 v24 v25 v26 v27 v28 v29 v30 v31 v32 v33 v34 v35 v36 v37 v38 v39 v40 v41 v42 v43 v44 v45 v46 v47 v48 v49 v50 v51 v52 v53 v54 v55 v56 v57 v58 v59 v60:Value}
def fu (p0:List (List Int)) (p1:List cw):Option (List (List Int)):=
 (cH (σ:=List (List Int)×Int) (τ:=List (List Int)) (((p1.length:Int)-0).toNat+1) (fun s_1=>
 if decide (s_1.2<(p1.length:Int)) then
 (idx p1 s_1.2).bind fun x_17=>
 (idx s_1.1 (w64 ((p0.length:Int)-1))).bind fun x_29=>
 (app x_29 ([x_17.R]:List Int)).bind fun x_34=>
 (oK s_1.1 (w64 ((p0.length:Int)-1)) x_34).bind fun w_37=>
 some (.inl (w_37,(w64 (s_1.2+1))))
 else
 some (.inr s_1.1)) (p0,0)).bind fun o_1=>
 some o_1
theorem oD {b:Nat}{rv hv cv v1:Value}{n:Int}{hvs hs cvs:List Value}{cur:List Int}(h:List (List Int)) (O0:Own c0 G ((Eb b 99 [rv,I n,hv])::es true (RI .i32) cv 21 cvs cur::es true R_V hv 32 hvs hs::F)) (Z:NS c0 cv cvs cur hv hvs hs h) (M:List cw){r:List (List Int)}(h2:Sl dX c0 v1 M) (H:fu h M=some r): KP 102 #[Q b,v1] c0 fun c v=>∃(cv':Value) (cvs':List Value) (cur':List Int) (hvs' hs':List Value),Own c G ((Eb b 99 [rv,I n,hv])::es true (RI .i32) cv' 21 cvs' cur'::es true R_V hv 32 hvs' hs'::F)/\v= .tuple #[]/\NS c cv' cvs' cur' hv hvs' hs' r:=by
 unfold fu at H;refine en func102 rfl rfl<|sr<|vv (Q b)<|Kw b 2<|vx (le1 2 py (O0.on 0 rfl))<|vr (I (h.length:Int)) (rx (by kernel_rfl) (by rw [<-Z.len]; exact zY (ty:=3) py Z.2.1 _))<|Kv ((h.length:Int)-1)<|wln<|KE v1<|vx (ln 3 rR h2)<|Ku 0<|wln<|W.block<|bn H fun a3 S P=>lp S (fun g=>Jn c0 fun c l=>∃f cvs1 cur1 hvs1 d,Own c G ((Eb b 99 [rv,I n,hv])::es true (RI .i32) f 21 cvs1 cur1::es true R_V hv 32 hvs1 d::F)/\l= [(0,Q b),(4,I (w64 ((h.length:Int)-1))),(13,v1),(14,I (M.length:Int)),(15,I g.2)]/\NS c f cvs1 cur1 hv hvs1 d g.1/\g.1.length=h.length) (fun o_ ex e w=>ex= .exit 0/\(Jn c0 fun c l=>∃f cvs1 cur1 hvs1 d,Own c G ((Eb b 99 [rv,I n,hv])::es true (RI .i32) f 21 cvs1 cur1::es true R_V hv 32 hvs1 d::F)/\l= []/\NS c f cvs1 cur1 hv hvs1 d o_) e w) ?_ ?_ ?_
 ·clear P S;intro g d3 s0 h1 H;revert s0 h1;rintro e_ w_ ⟨c1,g1,_,rfl,l1,rfl,f,cvs1,cur1,hvs1,d,O1,rfl,N1,Z1⟩;refine sr<|Kr (g.2<(M.length:Int))<|KA<|cn H (fun t0 H=>?_) (fun t0 H=>?_)
  ·refine KI<|bn H fun a U H=>KM<|sr ?_;obtain ⟨m2,u0,e1⟩:=Sl.at (h2.mono l1) (aS U);obtain rfl:=u0;refine vx (ix rR h2.m U)<|vx (lN 224 e1)<|me (al 224 [J 0,I 0,I 0,I 0,B false] O1) ?_;rintro v30 c2 l2 ⟨p,rfl,O2⟩;refine md (sA 224 [J a.R,I a.At,I a.Len,I a.Known,B a.Bad] 0 O2 ⟨rfl,rfl,rfl,rfl,rfl,trivial⟩) ?_;rintro c3 l3 O3;refine wln<|rD [17] (Kp G0 [(Eb p 224 [J a.R,I a.At,I a.Len,I a.Known,B a.Bad]),(Eb b 99 [rv,I n,hv]),es true R_V hv 32 hvs1 d]) O3 ?_;intro c4 l4 x;have N:=(Kp.cons (x.on 0 rfl) (Kp.cons (x.on 1 rfl) (Kp.cons (x.on 3 rfl) Kp.nil0)));have k:=N1.mono (l2.trans (l3.trans l4));refine bn H fun x2 v0 H=>?_;obtain ⟨rfl,D,i2⟩:=k.last Z1 v0;refine ta 0 (Q b)<|ta 1 (Q b)<|ta 2 (Qo b 2)<|tkx 3 N (fun q i o=>le1 2 py (o.on 1 rfl)) (ta 4 (I (w64 ((h.length:Int)-1)))<|ta 5 (Q b)<|ta 6 (Q b)<|ta 7 (Qo b 2)<|tkx 8 N (fun q i o=>le1 2 py (o.on 1 rfl)) (ta 9 (I (w64 ((h.length:Int)-1)))<|tx 10 (fun q i=>ixO py k.2.1 D) ?_));obtain ⟨j1,d0,g0⟩:=OA.at k.2.1 D;obtain ⟨rfl,_⟩:=d0;refine AC.takeK 11 f N rfl (by kernel_rfl) (by kernel_rfl) (by kernel_rfl) (fun q i o=>(rx (by kernel_rfl) (lM cI rfl (o.on 2 rfl) (k.2.1.blk D) (at1 (j:=0) g0 rfl)))) (ta 12 (Q p)<|tkx 13 N (fun q i o=>le1 0 mj (o.on 0 rfl)) (o1 14 (gm 14 (sl (RI .i32) 21 [[J a.R]] ([a.R]:List Int) x ⟨rfl,trivial⟩) ?_)));rintro v40 c5 E ⟨b3,y,w0⟩;have p5:=Kp.cons (y.on 1 rfl) (Kp.cons (y.on 2 rfl) (Kp.cons (y.on 4 rfl) Kp.nil0));refine ⟨.inr p5,?_⟩;obtain ⟨c6,y0,t,z,x0⟩:=y.frz 0 rfl w0;have p6:=Kp.cons (z.on 1 rfl) (Kp.cons (z.on 2 rfl) (Kp.cons (z.on 4 rfl) Kp.nil0));refine AC.gh y0 t (fun _=>p6) (bn H fun z2 z0 H=>o1 15 (gm 15 (ap (RI .i32) (J 0) 4 32 3 z (k.1.mono (E.trans t)) x0 z0 cI) ?_));rintro v52 c7 l7 ⟨f1,A,s⟩;have p7:=Kp.cons (A.on 1 rfl) (Kp.cons (A.on 2 rfl) (Kp.cons (A.on 4 rfl) Kp.nil0));refine ⟨.inr p7,tx 16 (fun q i=>ixO py (k.2.1.mono (E.trans (t.trans l7))) D) (bn H fun w2 a1 H=>?_)⟩;obtain ⟨hs',s1,s2⟩:=i2 v52;have X:=s.one;obtain ⟨y1,y2,y3,rfl⟩:=s.form;refine o1 17 (gD 17 (Own.stW (R:=R_V) (T:=32) (us:=[.slice y1 y2 y3]) (x':= .slice y1 y2 y3) (u:= .slice y1 y2 y3) 4 A (by kernel_rfl) rfl (k.2.1.mono (E.trans (t.trans l7))) s1 rfl (by kernel_rfl) ⟨X,trivial⟩ rfl ⟨rfl,X⟩) ?_);rintro c8 l8 ⟨h0,O8,e0⟩;refine ⟨.inl rfl,dn (KJ<|W.region<|Kv (g.2+1)<|WL.nil ?_)⟩;cases H;refine ⟨_,rfl,?_⟩;have O9:=O8.sD 5 [2,3,4];obtain ⟨M1,M2⟩:=s2 _ _ _ _ _ _ a1 (E.trans (t.trans (l7.trans l8))) (s.mono l8) e0;exact jn c8 ⟨_,f1,_,h0,_,O9,rfl,M1,M2⟩
  refine W.exit<|thx ?_;cases H;exact ⟨_,rfl,rfl,jn c1 ⟨f,cvs1,cur1,hvs1,d,O1,rfl,N1⟩⟩
 ·exact jn c0 ⟨cv,cvs,cur,hvs,hs,O0,rfl,Z,rfl⟩
 rintro _ e_ w_ ⟨rfl,c9,g9,_,rfl,l9,rfl,q0,cvs9,cur9,hvs9,b1,O9,rfl,N9⟩;refine bke ?_;cases P;exact n0<|qq c9 ⟨q0,cvs9,cur9,hvs9,b1,O9,rfl,N9⟩
def fv (p0:List Int) (n:Int) (p1:List (List Int)) (p2:List Int):Option (List Int×Int×List (List Int)):=
 (app p0 p2).bind fun x_11=>
 (kr x_11).bind fun x_18=>
 (mt x_11).bind fun x_23=>
 (if decide (x_23>0) then
 (slc x_18 0 (w64 ((x_18.length:Int)-1))).bind fun x_29=>
 some x_29
 else
 some x_18).bind fun z_3=>
 (slc z_3 n (z_3.length:Int)).bind fun x_36=>
 (fu p1 x_36).bind fun x_37=>
 some (x_11,(z_3.length:Int),x_37)
theorem sJ {b:Nat}{rv hv cv v2:Value}{n:Int}{rvs hvs hs cvs:List Value}{cur:List Int}(t:List Int) (u:List (List Int)) (z:Own c0 G ((Eb b 99 [rv,I n,hv])::es false (RI .u8) rv 5 rvs t::es true (RI .i32) cv 21 cvs cur::es true R_V hv 32 hvs hs::F)) (hr:OA (RI .u8) c0 rv rvs t) (N0:NS c0 cv cvs cur hv hvs hs u) (p2:List Int){r:List Int×Int×List (List Int)}(h2:Sl (RI .u8) c0 v2 p2) (H:fv t n u p2=some r): KP 60 #[Q b,v2] c0 fun c v=>∃(rv':Value) (rvs':List Value) (cv':Value) (cvs':List Value) (cur':List Int) (hvs' hs':List Value),Own c G ((Eb b 99 [rv',I r.2.1,hv])::es false (RI .u8) rv' 5 rvs' r.1::es true (RI .i32) cv' 21 cvs' cur'::es true R_V hv 32 hvs' hs'::F)/\v= .tuple #[]/\OA (RI .u8) c rv' rvs' r.1/\NS c cv' cvs' cur' hv hvs' hs' r.2.2:=by
 unfold fv at H;refine en func60 rfl rfl<|sr<|vv (Q b)<|vv (Q b)<|vx (le1 0 iN (z.on 0 rfl))<|va v2<|bn H fun d h3 H=>me (ap (RI .u8) (.int .u8 0) 1 33 1 z hr h2 h3 iN) ?_;rintro m1 c1 l1 ⟨rvs1,O1,e⟩;refine vv (Q b) ?_;have q1:=e.one;obtain ⟨g,a2,h,rfl⟩:=e.form;refine md (sC 33 0 (.slice g a2 h) [.slice g a2 h,I n,hv] 0 O1 ⟨q1,trivial⟩) ?_;rintro c2 l2 p;refine KN<|vv (Q b)<|va (Q b)<|vx (le1 0 iN (p.on 0 rfl))<|bn H fun i h4 H=>?_;have N:=p.slf 1 rfl (e.mono l2);refine cl (qG p d N h4) ?_;rintro v18 c3 l3 ⟨q,y2,O3,hq,h5⟩;subst hq;obtain ⟨c4,e4,l4,D,s⟩:=O3.frz 0 rfl h5;refine WL.gh e4 (va v18<|wln<|bn H fun x h7 H=>bn H fun j a f=>W.seqJ (Jn c4 fun c l=>∃v4,Own c G (es false dX v18 224 y2 i::(Eb b 99 [.slice g a2 h,I n,hv])::es false (RI .u8) (.slice g a2 h) 5 rvs1 d::es true (RI .i32) cv 21 cvs cur::es true R_V hv 32 hvs hs::F)/\l= [(0,Q b),(4,v4)]/\Sl dX c v4 j) ?_ ?_)
 ·refine sr<|vv (Q b)<|va (Q b)<|vx (le1 0 iN (D.on 1 rfl))<|cl (xP D d N.m h7) ?_;rintro v23 P l5 ⟨E,rfl⟩;refine Kr (x>0)<|KH a (fun h9 a=>?_) (fun h9 a=>?_)
  ·refine W.region<|vv v18<|vx (ln 3 rR s.m)<|Kx ((i.length:Int)-1)<|bn a fun i1 S a=>?_;obtain ⟨v29,T,U⟩:=rZ (k':= .i64) rR (by kernel_rfl) (s.mono l5) S;refine vr v29 (rx (by kernel_rfl) (T _))<|va v29<|wln ?_;cases a;exact jn P ⟨v29,E,rfl,U⟩
  refine KI ?_;cases a;exact jn P ⟨v18,E,rfl,s.mono l5⟩
 rintro e_ w_ ⟨c6,g6,_,rfl,l6,rfl,v4,M,rfl,o⟩;refine KE (Q b)<|va v4<|vv (Q b)<|Kw b 1<|vx (le1 1 u_3 (M.on 1 rfl))<|bn f fun y X f=>?_;obtain ⟨v36,Z,a0⟩:=pY (k:= .i64) rR (by kernel_rfl) o X;refine vr v36 (rx (by kernel_rfl) (Z _))<|bn f fun j1 b0 f=>?_;have O7:=M.sD 5 [1,3,4,2,0];refine cl (oD u O7 N0.m y a0 b0) ?_;rintro v37 c7 l7 ⟨R,cvs7,cur7,hvs7,d0,O8,rfl,N8⟩;refine wln<|Kz (Q b)<|va v4<|vx (ln 3 rR o.m)<|va (Q b)<|Kw b 1<|md (sC 3 1 (I (j.length:Int)) [.slice g a2 h,I (j.length:Int),hv] 0 O8 ⟨rfl,trivial⟩) ?_;rintro c8 l8 O9;refine WL.nil ?_;cases f;have A:=O9.sD 5 [0,3,1,2];exact n0<|qq c8 ⟨_,rvs1,R,cvs7,cur7,hvs7,d0,A,rfl,e.mono (l2.trans (l3.trans (l4.trans (l6.trans (l7.trans l8))))),N8.mono l8⟩
def eN (p0:List Int) (n:Int) (p1:List (List Int)):Option (List (List Int)):=
 (kr p0).bind fun x_7=>
 (slc x_7 n (x_7.length:Int)).bind fun x_12=>
 (fu p1 x_12).bind fun x_13=>
 some x_13
theorem rf {b:Nat}{rv hv cv:Value}{n:Int}{rvs hvs hs cvs:List Value}{cur:List Int}(a:List Int) (h:List (List Int)) (R:Own c0 G ((Eb b 99 [rv,I n,hv])::es false (RI .u8) rv 5 rvs a::es true (RI .i32) cv 21 cvs cur::es true R_V hv 32 hvs hs::F)) (hr:OA (RI .u8) c0 rv rvs a) (N:NS c0 cv cvs cur hv hvs hs h){r:List (List Int)}(H:eN a n h=some r): KP 61 #[Q b] c0 fun c v=>∃(rv':Value) (rvs':List Value) (cv':Value) (cvs':List Value) (cur':List Int) (hvs' hs':List Value),Own c G ((Eb b 99 [rv',I 0,hv])::es false (RI .u8) rv' 5 rvs' ([]:List Int)::es true (RI .i32) cv' 21 cvs' cur'::es true R_V hv 32 hvs' hs'::F)/\v= .tuple #[]/\OA (RI .u8) c rv' rvs' ([]:List Int)/\NS c cv' cvs' cur' hv hvs' hs' r:=by
 unfold eN at H;refine en func61 rfl rfl<|W.seq<|rD [] (Kp G0 [(Eb b 99 [rv,I n,hv])]) R ?_;intro c1 l1 f;have M:=Kp.cons (f.on 0 rfl) Kp.nil0;refine ta 0 (Q b)<|ta 1 (Q b)<|ta 2 (Q b)<|ta 3 (Q b)<|tkx 4 M (fun u d g=>le1 0 iN (g.on 0 rfl)) (ta 6 (Q b)<|ta 7 (Q b)<|ta 8 (Qo b 1)<|tkx 9 M (fun u d g=>le1 1 u_3 (g.on 0 rfl)) (bn H fun k0 h4 H=>?_));have U:=f.slf 1 rfl (hr.mono l1);refine o1 5 (gc 5 (qG f a U h4) ?_);rintro v18 c3 l3 ⟨q,y2,p,hq,h5⟩;subst hq;have p3:=Kp.cons (p.on 1 rfl) Kp.nil0;refine ⟨.inr p3,?_⟩;obtain ⟨c4,Z,l4,s,h6⟩:=p.frz 0 rfl h5;have p4:=Kp.cons (s.on 1 rfl) Kp.nil0;refine AC.gh Z l4 (fun _=>p4) (bn H fun i y H=>?_);obtain ⟨v36,z,A⟩:=pY (k:= .i64) rR (by kernel_rfl) h6 y;refine AC.take 10 v36 rfl (by kernel_rfl) (by kernel_rfl) (fun u d=>(rx (by kernel_rfl) (z _))) (bn H fun j0 D H=>?_);have S:=s.sD 5 [1,3,4,2,0];refine o1 11 (gc 11 (oD h S N.m i A D) ?_);rintro v37 c7 l7 ⟨x,cvs7,cur7,hvs7,E,t,rfl,P⟩;refine ⟨.inr (Kp.cons (t.on 0 rfl) Kp.nil0),dn (nrm<|W.region<|vv (Q b)<|vv (Q b)<|md (sC 33 0 Y [Y,I n,hv] 0 t ⟨rfl,trivial⟩) ?_)⟩;rintro c8 l8 T;refine va (Q b)<|Kw b 1<|md (sC 3 1 (I 0) [Y,I 0,hv] 0 T ⟨rfl,trivial⟩) ?_;rintro X l9 j;refine WL.nil ?_;cases H;have l:=j.addHole (e:=es false (RI .u8) Y 5 [] ([]:List Int)) rfl;have o:=l.sD 6 [1,0,2,3];exact n0<|qq X ⟨_,[],x,cvs7,cur7,hvs7,E,o,rfl,OA.nil (aO _),P.mono (l8.trans l9)⟩
def jH (p0:List aH):Option (List (List Int)):=
 (cH (σ:=List Int×Int×List (List Int)×Int) (τ:=List (List Int)) (((p0.length:Int)-0).toNat+1) (fun s_3=>
 if decide (s_3.2.2.2<(p0.length:Int)) then
 ((idx p0 s_3.2.2.2).bind fun x_13=>
 (if (x_13.Kind==0)=true then
 (fv s_3.1 s_3.2.1 s_3.2.2.1 x_13.Bytes).bind fun x_22=>
 some x_22
 else
 if (x_13.Kind==1)=true then
 (eN s_3.1 s_3.2.1 s_3.2.2.1).bind fun x_28=>
 some (([]:List Int),(0:Int),x_28)
 else
 some (s_3.1,s_3.2.1,s_3.2.2.1)).bind fun z_2=>
 (jG x_13).bind fun x_30=>
 if x_30 then
 (app z_2.2.2 ([[]]:List (List Int))).bind fun x_37=>
 some (z_2.1,z_2.2.1,x_37)
 else
 some z_2).bind fun z_1=>
 some (.inl (z_1.1,z_1.2.1,z_1.2.2,(w64 (s_3.2.2.2+1))))
 else
 some (.inr s_3.2.2.1)) (([]:List Int),0,[[]],0)).bind fun o_3=>
 some o_3
theorem qW (O0:Own c0 G F) (hG:Gl [2,4] c0) (X:List aH){r:List (List Int)}(h2:Sl mC c0 v1 X) (H:jH X=some r): KP 13 #[v1] c0 fun c v=>∃Z y2,Own c G (es true (RL (RI .i32)) Z 32 y2 r::F)/\v=Z/\OA (RL (RI .i32)) c Z y2 r:=by
 unfold jH at H;refine en func13 rfl rfl<|KE Y<|KN ?_;have hrep:rep (1:Int) Y=some [Y]:=rfl;refine me (Own.mkS (kl:= .i64) (kc:= .i64) (R:=R_V) (z:=Y) (lz:=[Y]) (x:=(Y:Value)) (by_:=24) (i:=1) (j:=1) true O0 (aO _) hrep (nC _) (sa hrep) py (by kernel_rfl) rfl rfl (fun _=>⟨rfl,rfl⟩) (by kernel_rfl) (by kernel_rfl)) ?_;rintro v6 c1 l1 ⟨u6,O1,h6⟩;obtain ⟨a1,a2,a3,rfl⟩:=h6.form;refine va (.agg #[Y,I 0,.slice a1 a2 a3])<|me (al 99 [Y,I 0,.slice a1 a2 a3] O1) ?_;rintro v8 c2 l2 ⟨b,rfl,O2⟩;refine va (Q b)<|KA<|KE v1<|vx (ln 3 uv h2.m)<|Ku 0<|wln<|W.block<|bn H fun s4 u0 t0=>lp u0 (fun h=>Jn c2 fun c l=>∃f rvs1 k cvs1 cur1 d hvs1 n,Own c G ((Eb b 99 [f,I h.2.1,d])::es false (RI .u8) f 5 rvs1 h.1::es true (RI .i32) k 21 cvs1 cur1::es true R_V d 32 hvs1 n::F)/\l= [(3,Q b),(9,v1),(10,I (X.length:Int)),(11,I h.2.2.2)]/\OA (RI .u8) c f rvs1 h.1/\NS c k cvs1 cur1 d hvs1 n h.2.2.1) (fun o_ ex e w=>ex= .exit 0/\(Jn c2 fun c l=>∃n1 f E1 k cvs1 cur1 d hvs1 n,Own c G ((Eb b 99 [f,I n1,d])::E1::es true (RI .i32) k 21 cvs1 cur1::es true R_V d 32 hvs1 n::F)/\l= [(3,Q b)]/\NS c k cvs1 cur1 d hvs1 n o_) e w) ?_ ?_ ?_
 ·clear t0 u0;intro h u4 s2 t3 H;revert s2 t3;rintro e_ w_ ⟨c3,g3,_,rfl,l3,rfl,f,rvs1,k,cvs1,cur1,d,hvs1,n,O3,rfl,m3,N3⟩;refine sr<|Kr (h.2.2.2<(X.length:Int))<|KA<|cn H (fun u2 H=>?_) (fun u2 H=>?_)
  ·refine KI<|bn H fun U a0 z1=>W.seqJ (Jn c3 fun c l=>∃f rvs1 k cvs1 cur1 d hvs1 n,Own c G ((Eb b 99 [f,I U.2.1,d])::es false (RI .u8) f 5 rvs1 U.1::es true (RI .i32) k 21 cvs1 cur1::es true R_V d 32 hvs1 n::F)/\l= [(3,Q b),(9,v1),(10,I (X.length:Int)),(11,I h.2.2.2)]/\OA (RI .u8) c f rvs1 U.1/\NS c k cvs1 cur1 d hvs1 n U.2.2) ?_ ?_
   ·refine W.block<|sr<|bn a0 fun a v0 a0=>?_;obtain ⟨e4,v2,p3⟩:=Sl.at (h2.mono (l1.trans (l2.trans l3))) (aS v0);obtain ⟨v25,rfl,f0⟩:=v2;refine vx (ix uv h2.m v0)<|vx (lN 38 p3)<|me (al 38 [I 0,I 0,I 0,Y] O3) ?_;rintro v30 c4 l4 ⟨b5,rfl,O4⟩;obtain ⟨d1,d2,d3,rfl⟩:=(f0.mono l4).form;refine md (sA 38 [I a.Kind,I a.A,I a.B,.slice d1 d2 d3] 0 O4 ⟨rfl,rfl,rfl,f0.m.one,trivial⟩) ?_;rintro c5 l5 P;refine wln ?_;have i0:=m3.mono (l4.trans l5);have N5:=N3.mono (l4.trans l5);have w0:=f0.mono (l4.trans l5);refine bn a0 fun S o s=>W.seqJ (Jn c5 fun c l=>∃f rvs1 k cvs1 cur1 d hvs1 n,Own c G ((Eb b5 38 [I a.Kind,I a.A,I a.B,.slice d1 d2 d3])::(Eb b 99 [f,I S.2.1,d])::es false (RI .u8) f 5 rvs1 S.1::es true (RI .i32) k 21 cvs1 cur1::es true R_V d 32 hvs1 n::F)/\l= [(3,Q b),(5,Q b5),(9,v1),(10,I (X.length:Int)),(11,I h.2.2.2)]/\OA (RI .u8) c f rvs1 S.1/\NS c k cvs1 cur1 d hvs1 n S.2.2) ?_ ?_
    ·refine W.block<|KE (Q b5)<|vx (le1 0 u_3 (P.on 0 rfl))<|vv (B (a.Kind==0))<|KH o (fun w2 o=>?_) (fun w2 o=>?_)
     ·refine Kz (Q b)<|Kw b5 3<|vx (le1 3 iN (P.on 0 rfl))<|bn o fun k4 g0 o=>?_;have O6:=P.sD 5 [1,2,3,4,0];refine cl (sJ h.1 h.2.2.1 O6 i0 N5 a.Bytes w0 g0) ?_;rintro v31 T l7 ⟨q,rvs7,t,cvs7,cur7,hvs7,u,E,rfl,y,D⟩;refine WL.nil<|bkn ?_;cases o;have M:=E.sD 5 [4,0,1,2,3];exact jn T ⟨q,rvs7,t,cvs7,cur7,d,hvs7,u,M,rfl,y,D⟩
     refine KE (Q b5)<|vx (le1 0 u_3 (P.on 0 rfl))<|vv (B (a.Kind==1))<|KH o (fun x2 o=>?_) (fun x2 o=>?_)
     ·refine Kz (Q b)<|bn o fun m4 g0 o=>?_;have O6:=P.sD 5 [1,2,3,4,0];refine cl (rf h.1 h.2.2.1 O6 i0 N5 g0) ?_;rintro v31 T l7 ⟨q,rvs7,t,cvs7,cur7,hvs7,u,E,rfl,y,D⟩;refine WL.nil<|bkn ?_;cases o;have M:=E.sD 5 [4,0,1,2,3];exact jn T ⟨q,rvs7,t,cvs7,cur7,d,hvs7,u,M,rfl,y,D⟩
     refine W.skip<|bkn ?_;cases o;exact jn c5 ⟨f,rvs1,k,cvs1,cur1,d,hvs1,n,P,rfl,i0,N5⟩
    rintro e_ w_ ⟨T,g7,_,rfl,l7,rfl,q,rvs7,t,cvs7,cur7,N,hvs7,u,E,rfl,y,D⟩;refine sr<|vx (leN 38 0 [I a.Kind,I a.A,I a.B,.slice d1 d2 d3] (E.on 0 rfl))<|bn s fun n4 z2 s=>cl (qV E hG.m a w0.m z2) ?_;rintro v32 c8 l8 ⟨M,rfl⟩;refine wln ?_;have N8:=D.mono l8;have y0:=y.mono l8;refine cn s (fun b3 s=>?_) (fun b3 s=>?_)
    ·refine W.region<|vv (Q b)<|va (Q b)<|Kw b 2<|vx (le1 2 py (M.on 1 rfl))<|me (sl R_V 32 [[Y]] ([Y]:List Value) M ⟨⟨rfl,rfl⟩,trivial⟩) ?_;rintro v39 c9 l9 ⟨t4,O9,e3⟩;obtain ⟨p4,h3,j0,e2,f3⟩:=O9.frz 0 rfl e3;refine WL.gh h3 (bn s fun o4 x0 s=>me (ap R_V Y 24 25 5 e2 (N8.2.1.mono (l9.trans j0)) f3 (Ih N8 x0 _) py) ?_);rintro v49 q4 z0 ⟨s3,f2,h0⟩;obtain ⟨r4,q2,b1,g2,k3⟩:=f2.frz 4 rfl (N8.1.mono (l9.trans (j0.trans z0)));refine WL.gh q2 (va (Q b)<|Kw b 2 ?_);have q3:=h0.one;have i3:=h0;obtain ⟨Z,y2,y3,rfl⟩:=i3.form;refine md (sC 25 2 (.slice Z y2 y3) [q,I S.2.1,.slice Z y2 y3] 2 g2 ⟨q3,trivial⟩) ?_;rintro n2 k0 i2;refine WL.nil<|bkn ?_;cases s;have j2:=i2.addHole (e:=es true (RI .i32) Y 21 [] ([]:List Int)) rfl;have d0:=j2.sD 7 [3,4,0,6];have k1:=l9.trans (j0.trans (z0.trans (b1.trans k0)));have n9:=k3.mono k0;have m9:=h0.mono (b1.trans k0);exact jn n2 ⟨q,rvs7,(Y),[],[],_,s3,_,d0,rfl,y0.mono k1,N8.next k1 n9 x0 rfl m9⟩
    refine W.skip<|bkn ?_;cases s;have d0:=M.sD 5 [1,2,3,4];exact jn c8 ⟨q,rvs7,t,cvs7,cur7,N,hvs7,u,d0,rfl,y0,N8⟩
   rintro e_ w_ ⟨T,g7,_,rfl,l7,rfl,q,rvs7,t,cvs7,cur7,N,hvs7,u,E,rfl,y,D⟩;refine W.region<|Kv (h.2.2.2+1)<|WL.nil ?_;cases z1;exact ⟨_,rfl,jn T ⟨q,rvs7,t,cvs7,cur7,N,hvs7,u,E,rfl,y,D⟩⟩
  refine W.exit<|thx ?_;cases H;exact ⟨_,rfl,rfl,jn c3 ⟨h.2.1,f,_,k,cvs1,cur1,d,hvs1,n,O3,rfl,N3⟩⟩
 ·have O3:=O2.addHole (e:=es true (RI .i32) Y 21 [] ([]:List Int)) rfl;have O4:=O3.addHole (e:=es false (RI .u8) Y 5 [] ([]:List Int)) rfl;have P:=O4.sD 4 [2,0,1,3];exact jn c2 ⟨(Y),[],(Y),[],[],_,u6,_,P,rfl,OA.nil (aO _),⟨OA.nil (aO _),h6.mono l2,.inr ⟨[],[],rfl,rfl,rfl,fun i x g p=>by simp at p⟩⟩⟩
 rintro _ e_ w_ ⟨rfl,T,g7,_,rfl,l7,rfl,n7,q,E7,t,cvs7,cur7,N,hvs7,u,E,rfl,D⟩;refine KK<|sr ?_;obtain ⟨c8,e8,l8,M,h8⟩:=E.frz 2 rfl D.1;refine WL.gh e8 (vv (Q b)<|Kw b 2<|vx (le1 2 py (M.on 0 rfl))<|va N<|KG ?_);cases t0;have O9:=M.sD 4 [3];exact KC c8 ⟨N,hvs7,O9,rfl,D.all l8 h8⟩
end Go.Proofs.YtclmdpamofdoiaaGreatDoor
namespace Go.Lt
set_option linter.unusedVariables false
def isC:Obj->Bool
 | .cells _ _ _=>true
 | _=>false
section
variable {P:Program}{n:Nat}{df:List Deferred}{Q:List Deferred->Exit->(Nat->Value)->World->Prop}{e:Nat->Value}{w:World}{a b:Code}
def WR (P:Program) (n:Nat) (c:Code) (Q:List Deferred->Exit->(Nat->Value)->World->Prop) (df:List Deferred) (e:Nat->Value) (w:World):Prop:=
 c.wpIn (fen none) 0 P (fun x a w=>Iy x/\∃e d,a=act ⟨n,d,none⟩ e/\Q d x e w) (act ⟨n,df,none⟩ e) w
theorem WR.of (h:W P ⟨n,df,none⟩ a (Q df) e w):WR P n a Q df e w:=nF h fun x a w ⟨ht,e,ha,hq⟩=>⟨ht,e,df,ha,hq⟩
theorem WR.seq (h:WR P n a (fun d=>rT (fun e w=>WR P n b Q d e w) (Q d)) df e w):WR P n (a.seq b) Q df e w:=
 wpIn_seq (nF h fun x a' w' ⟨ht,e',d,ha,hQ⟩=>by
  subst ha
  cases x with
  | normal=>exact hQ
  | _=>exact ⟨ht,e',d,rfl,hQ⟩)
theorem WR.block {id:Nat}(h:WR P n a (fun d=>nx id (Q d)) df e w):WR P n (.block id a) Q df e w:=
 wpIn_block (nF h fun x a' w' ⟨ht,e',d,ha,hQ⟩=>by
  subst ha
  cases x with
  | exit i=>
   simp only [Exit.inBlock];by_cases hi:i=id
   ·subst hi
    rw [af rfl];exact ⟨trivial,e',d,rfl,by simpa [nx] using hQ⟩
   ·rw [ae hi]
    have:Nat.beq i id=false:=by
     cases hb:Nat.beq i id with
     | false=>rfl
     | true=>exact absurd (pH hb) hi
    exact ⟨trivial,e',d,rfl,by simpa [nx,this] using hQ⟩
  | _=>exact ⟨ht,e',d,rfl,hQ⟩)
def ES (P:Program) (fn:Func) (n:Nat) (R:Ending->World->Prop) (df:List Deferred):Exit->(Nat->Value)->World->Prop
 | .normal,e,w=>LeavesInM (fen none) 0 P fn (act ⟨n,[],none⟩ e).tmps R df .returning w
 | .ret,e,w=>LeavesInM (fen none) 0 P fn (act ⟨n,[],none⟩ e).tmps R df .returning w
 | _,_,_=>False
theorem enR {f:FuncId}{fn:Func}{code:Code}{l:List Value}{R:Ending->World->Prop}(hf:P.funcs[f]? = some fn) (hb:fn.body=some code) (hn:fn.ntmps=n)
  (h:WR P n code (ES P fn n R) [] (ar l) w) (hl:Nat.ble l.length n=true:=by rfl):Calls P f l.toArray w R:=by
 subst hn;have hl:=bM hl;refine (H0 (n:=0)).1 (callsIn_of_wp_marks hf hb trivial ?_);rw [tW,<-E5 _ l hl];refine nF h ?_;rintro x a w' ⟨_,e',d,rfl,hq⟩
 cases x <;> first|exact hq|exact hq.elim
def mark (D:Nat):Deferred:={ target:= .collected D,args:= #[]}
theorem Ek {fn:Func}{tm:Array Value}{R:Ending->World->Prop}{D:Nat}{v:Value}(hD:w.heap[D]? = some (.deferred (some [])))
  (hr:(results fn tm).run P (w.putObj D (.deferred none))= .ok v (w.putObj D (.deferred none))) (hR:R (.returned v) (w.putObj D (.deferred none))):LeavesInM (fen none) 0 P fn tm R [mark D] .returning w:=
 ⟨by simp,.inl ⟨D,_,rfl,run_takeDeferred hD,v,hr,hR⟩⟩
def FF (fn:FuncId) (tm:Array Value) (ps:Array Tmp) (assign body:Code) (D:Nat) (st:LoopState) (pe:Option Code):Loop:={ state:=st,pending:=pe,fn,tmps:=tm,params:=ps,assign,body,defers:=D}
theorem WR.range {g:Operand}{ps:Array Tmp}{assign body:Code}{gf:Nat}{lb:Array Value}(hg:ev n e g= .func (.func gf) #[] lb) (eg:∀args w,(callFunc gf args).run P w= .ok (.enter gf args) w)
  (h:∀(fn:FuncId) (rc:LoopState->Option Code->Loop),rc=FF fn (act ⟨n,df,none⟩ e).tmps ps assign body w.heap.size->Calls P gf (#[.func (.yield (w.heap.size+1)) #[] #[]]++lb) ((w.alloc (.deferred (some []))).alloc (.loop (rc .ready none)))
   fun x w3=>∃v,x= .returned v/\
    ((w3.heap[w.heap.size+1]? = some (.loop (rc .ready none))/\Q (mark w.heap.size::df) .normal e (w3.putObj (w.heap.size+1) (.loop (rc .exhausted none))))\/
     ∃c,w3.heap[w.heap.size+1]? = some (.loop (rc .done (some c)))/\WR P n c Q (mark w.heap.size::df) e (w3.putObj (w.heap.size+1) (.loop (rc .exhausted (some c)))))):
  WR P n (.rangeFunc g ps assign body) Q df e w:=by
 refine wpIn_rangeFunc (fun fn _=>?_);have hg':(act ⟨n,df,none⟩ e).eval g= .func (.func gf) #[] lb:=by rw [nz]; exact hg
 have h:=h fn _ rfl;have h1:=run_enterLoop_outer (P:=P) (w:=w) fn (act ⟨n,df,none⟩ e).tmps ps assign body;have h2:∀W:World,(resolve (act ⟨n,df,none⟩ e).eval (rangeCall g (w.heap.size+1)) 0).run P W= .ok { target:= .fn (.func gf) lb,args:= #[.func (.yield (w.heap.size+1)) #[] #[]]} W:=fun W=>by
  simp only [resolve,hg'];simp [go_sem]
 have h3:∀W:World,(invoke (.fn (.func gf) lb) #[.func (.yield (w.heap.size+1)) #[] #[]]).run P W= .ok (.enter gf (#[.func (.yield (w.heap.size+1)) #[] #[]]++lb)) W:=fun W=>by
  simp [invoke,go_sem,eg]
 refine Exists.intro (w.heap.size+1) (Exists.intro [mark w.heap.size] (Exists.intro _ (Exists.intro { target:= .fn (.func gf) lb,args:= #[.func (.yield (w.heap.size+1)) #[] #[]]} (Exists.intro _ (Exists.intro gf (Exists.intro (#[.func (.yield (w.heap.size+1)) #[] #[]]++lb) (Exists.intro _ ⟨h1,h2 _,fun _ _=>trivial,h3 _,fun hd=>(by cases hd),?_⟩)))))));refine vY (h.mono fun x w3 hx=>?_);obtain ⟨v,rfl,hv⟩:=hx;rcases hv with ⟨k1,k2⟩|⟨c,k1,k2⟩
 ·exact ⟨none,_,run_endLoop k1 (by simp [FF]),trivial,e,mark w.heap.size::df,rfl,k2⟩
 ·exact ⟨some c,_,run_endLoop k1 (by simp [FF]),k2⟩
end
theorem WL.round {P:Program}{ops:Array Oper}{n:Fr}{Q:Exit->(Nat->Value)->World->Prop}{rest:List Oper}{e:Nat->Value}{o:Oper}{w:World}{l:Nat}{args:Array Value}(hg:o.guard=none)
  (hr:(execOp (ev n e) o).run P w=(Instr.yield l args).run P w) (hy:YieldAt (fen n.ro) 0 P l args w fun x w'=>∃v,x= .returned v/\WL P ops n Q rest (upO e o.dst v) w'):WL P ops n Q (o::rest) e w:=by
 obtain ⟨fn,tm,assign,body,hy1,hR⟩:=hy;refine wH hg fun K hK=>⟨fun _ _=>trivial,?_⟩;rw [nz,rX (hr.trans hy1) (by simp),Oper.uponIn_round];refine ⟨fun h=>(by cases h),hR.mono ?_⟩;rintro x w' ⟨v,rfl,h⟩;simp only [qO];exact hK _ _ h
theorem ym {F:Fence}{m:Nat}{P:Program}{l:Nat}{args:Array Value}{w:World}{R R':Ending->World->Prop}(h:YieldAt F m P l args w R) (hr:∀x w',R x w'->R' x w'):YieldAt F m P l args w R':=by
 obtain ⟨fn,tm,assign,body,hy,hR⟩:=h;exact ⟨fn,tm,assign,body,hy,hR.mono hr⟩
def rdQ (l:Nat) (r:LoopState->Option Code->Loop) (R:Ending->World->Prop):Exit->(Nat->Value)->World->Prop
 | .normal,_,w=>w.heap[l]? = some (.loop (r .busy none))/\R (.returned (.bool true)) (w.putObj l (.loop (r .ready none)))
 | .ret,_,w=>w.heap[l]? = some (.loop (r .busy none))/\R (.returned (.bool false)) (w.putObj l (.loop (r .done (some .ret))))
 | .exit i,_,w=>w.heap[l]? = some (.loop (r .busy none))/\R (.returned (.bool false)) (w.putObj l (.loop (r .done (some (.exit i)))))
 | _,_,_=>False
theorem DK (n:Fr) (e:Nat->Value) (d:Nat) (v:Value):(act n e).tmps.setIfInBounds d v=(act n (up e d v)).tmps:=eZ Act.tmps (qO n e (some d) v)
theorem GX (n:Nat) (df:List Deferred) (r0:Option Nat) (l:Nat) (e:Nat->Value) (p1 p2:Nat) (a1 a2:Value):
  ((#[p1,p2]:Array Tmp).zip #[a1,a2]).foldl (fun t (p,v)=>t.setIfInBounds p v) (act ⟨n,df,r0⟩ e).tmps=(act ⟨n,[],some l⟩ (up (up e p1 a1) p2 a2)).tmps:=by
 have hz:((#[p1,p2]:Array Tmp).zip #[a1,a2])= #[(p1,a1),(p2,a2)]:=by simp
 rw [hz,<-Array.foldl_toList];show ((act ⟨n,df,r0⟩ e).tmps.setIfInBounds p1 a1).setIfInBounds p2 a2=_;rw [DK,DK];rfl
theorem zG {P:Program}{n:Nat}{r0:Option Nat}{w:World}{l:Nat}{fn:FuncId}{tm:Array Value}{ps:Array Tmp}{assign body:Code}{D:Nat}{rc:LoopState->Option Code->Loop}(hrc:rc=FF fn tm ps assign body D){args:Array Value}{R:Ending->World->Prop}{e1:Nat->Value}
  (hl:w.heap[l]? = some (.loop (rc .ready none))) (hs:args.size=ps.size) (he:(ps.zip args).foldl (fun t (p,v)=>t.setIfInBounds p v) tm=(act ⟨n,[],some l⟩ e1).tmps)
  (h:W P ⟨n,[],some l⟩ assign (rT (fun e2 w1=>w1.heap[l]? = some (.loop (rc .ready none))/\
   W P ⟨n,[],some l⟩ body (rdQ l rc R) e2 (w1.putObj l (.loop (rc .busy none)))) (fun _ _ _=>False)) e1 w):YieldAt (fen r0) 0 P l args w R:=by
 subst hrc;refine ⟨fn,_,assign,body,run_yield hl hs,roundIn_of_wpIn trivial ?_⟩;have hz:(fen r0).inRound l=fen (some l):=rfl;rw [hz];have ha:({ tmps:=(ps.zip args).foldl (fun t (p,v)=>t.setIfInBounds p v) tm,defers:=[]}:Act)=act ⟨n,[],some l⟩ e1:=by rw [he]; rfl
 show assign.wpIn (fen (some l)) 0 P _ ({ tmps:=(ps.zip args).foldl (fun t (p,v)=>t.setIfInBounds p v) tm,defers:=[]}:Act) w;rw [ha];refine nF h ?_;rintro x a w1 ⟨ht,e2,rfl,hq⟩
 cases x with
 | normal=>
  obtain ⟨h1,h2⟩:=hq;refine ⟨_,run_beginRound h1 rfl,nF h2 ?_⟩;rintro y a' w2 ⟨_,e3,rfl,hy⟩
  cases y with
  | normal=>exact ⟨_,_,run_endRound none hy.1,hy.2⟩
  | ret=>exact ⟨_,_,run_endRound (some .ret) hy.1,hy.2⟩
  | exit i=>exact ⟨_,_,run_endRound (some (.exit i)) hy.1,hy.2⟩
  | _=>exact hy.elim
 | _=>exact hq.elim
structure Rec (c:Cx) (l D:Nat) (r:Loop):Prop where
 rc:c.w.heap[l]? = some (.loop r)
 nl:∀o,¬c.A l o
 def_:c.w.heap[D]? = some (.deferred (some []))
 nD:∀o,¬c.A D o
theorem Rec.mono {c c':Cx}{l D:Nat}{r:Loop}(h:Rec c l D r) (k:c.le c'):Rec c' l D r:=by
 have hl:=(Array.getElem?_eq_some_iff.1 h.rc).1;have hD:=(Array.getElem?_eq_some_iff.1 h.def_).1;exact ⟨(k.block l hl h.nl).trans h.rc,fun o=>(k.cell l o hl (h.nl o)).2,(k.block D hD h.nD).trans h.def_,fun o=>(k.cell D o hD (h.nD o)).2⟩
def Cx.turn (c:Cx) (l:Nat) (o:Obj):Cx:=⟨c.w.putObj l o,c.A,c.t⟩
theorem Cx.turn_lw {c:Cx}{l:Nat}{o o':Obj}(h:c.w.heap[l]? = some o) (ho:isC o=false) (ho':isC o'=false):c.lw (c.turn l o'):=by
 have hlt:=(Array.getElem?_eq_some_iff.1 h).1;have same:∀k,k≠l->(c.w.putObj l o').heap[k]? = c.w.heap[k]? :=fun k hk=>World.putObj_heap_other hk;have at_l:(c.w.putObj l o').heap[l]? = some o':=World.putObj_heap_same hlt;refine ⟨rfl,rfl,by simp [Cx.turn,World.putObj],fun k q hk hA=>⟨?_,hA⟩,fun k vs T f hk _=>?_,fun a _ _=>?_,fun _ _ _ h=>h⟩
 ·show (c.w.putObj l o').cell? _=_
  by_cases e:k=l
  ·subst e
   unfold World.cell?;rw [at_l,h]
   cases o <;> cases o' <;> first|rfl|(simp [isC] at ho ho')
  ·exact nB (w:=c.w) (a:=⟨k,q,none⟩) (same k e)
 ·refine same k fun e=>?_
  subst e;rw [h] at hk;cases hk;simp [isC] at ho
 ·show (c.w.putObj l o').frozen? a=_
  by_cases e:a.block=l
  ·unfold World.frozen?
   rw [e,at_l,h]
   cases o <;> cases o' <;> first|rfl|(simp [isC] at ho ho')
  ·unfold World.frozen?
   rw [same _ e]
theorem Own.turn {c:Cx}{G:Gm}{F:List En}{l:Nat}{o o':Obj}(O:Own c G F) (h:c.w.heap[l]? = some o) (ho:isC o=false):Own (c.turn l o') G F:=
 ⟨⟨fun i e he b hb=>by
  have h1:=O.m.1 i e he b hb;refine ⟨?_,h1.2⟩;have hne:b≠l:=fun e2=>by
   subst e2;rw [h] at h1;have:=h1.1;cases this;simp [isC] at ho
  exact (World.putObj_heap_other hne).trans h1.1,O.m.2⟩,O.t0⟩
theorem Own.front {c:Cx}{G:Gm}{Fm F:List En}{e:En}(O:Own c G (Fm++e::F)):Own c G (e::(Fm++F)):=
 ⟨pR.re O.m (fun k=>match k with|.inl 0=> .inl Fm.length|.inl (k+1)=>if k<Fm.length then .inl k else .inl (k+1)|.inr x=> .inr x) (fun k e' h=>by
  match k,h with
  | .inl 0,h=>simpa [at_] using h
  | .inl (k+1),h=>
   simp only [at_,gt] at h;by_cases hk:k<Fm.length
   ·simp only [af hk,at_]; rw [aG hk] at h|-; exact h
   ·simp only [ae hk,at_]
    rw [aM (by omega)] at h|-;rw [show k+1-Fm.length=(k-Fm.length)+1 by omega,gt]; exact h
  | .inr x,h=>exact h) (fun k k' e1 e2 h1 h2 he=>by
  match k,k' with
  | .inl 0,.inl 0=>rfl
  | .inl 0,.inl (j+1)=>simp only at he; split at he <;> (simp at he; try omega)
  | .inl (i+1),.inl 0=>simp only at he; split at he <;> (simp at he; try omega)
  | .inl (i+1),.inl (j+1)=>simp only at he; split at he <;> split at he <;> (simp at he; try omega) <;> (first|(subst he; rfl)|omega)
  | .inl 0,.inr x=>simp at he
  | .inr x,.inl 0=>simp at he
  | .inl (i+1),.inr x=>simp only at he; split at he <;> simp at he
  | .inr x,.inl (j+1)=>simp only at he; split at he <;> simp at he
  | .inr x,.inr y=>simpa using he),O.t0⟩
theorem Own.behind {c:Cx}{G:Gm}{Fm F:List En}{e:En}(O:Own c G (e::(Fm++F))):Own c G (Fm++e::F):=
 ⟨pR.re O.m (fun k=>match k with|.inl k=>if k<Fm.length then .inl (k+1) else if k=Fm.length then .inl 0 else .inl k|.inr x=> .inr x) (fun k e' h=>by
  match k,h with
  | .inl k,h=>
   simp only [at_] at h;by_cases hk:k<Fm.length
   ·simp only [af hk,at_,gt]; rw [aG hk] at h|-; exact h
   ·by_cases hk2:k=Fm.length
    ·subst hk2; simpa [at_] using h
    ·simp only [ae hk,ae hk2,at_]
     rw [aM (by omega)] at h;rw [show k-Fm.length=(k-1-Fm.length)+1 by omega,gt] at h;rw [show k=(k-1)+1 by omega,gt,aM (by omega)];exact h
  | .inr x,h=>exact h) (fun k k' e1 e2 h1 h2 he=>by
  match k,k' with
  | .inl i,.inl j=>
   simp only at he;split at he <;> split at he <;> (try split at he) <;> (try split at he) <;> (simp at he; try omega) <;> (first|(subst he; rfl)|(congr 1; omega)|omega)
  | .inl i,.inr x=>simp only at he; split at he <;> (try split at he) <;> simp at he
  | .inr x,.inl j=>simp only at he; split at he <;> (try split at he) <;> simp at he
  | .inr x,.inr y=>simpa using he),O.t0⟩
def Bod {σ:Type}(J:σ->Cx->List En->Prop):Prop:=
 ∀s c F,J s c F->∃G Fm,Own c G (Fm++F)/\∀c' F',c.le c'->Own c' G (Fm++F')->J s c' F'
theorem Bod.new {σ:Type}{J:σ->Cx->List En->Prop}(hJ:Bod J){s:σ}{c:Cx}{F:List En}(h:J s c F):∃G Fx,Own c G Fx/\∀c' e,c.le c'->Own c' G (e::Fx)->J s c' (e::F):=by
 obtain ⟨G,Fm,O,k⟩:=hJ s c F h;exact ⟨G,_,O,fun c' e hc O'=>k c' _ hc O'.behind⟩
theorem Bod.op {σ:Type}{J:σ->Cx->List En->Prop}(hJ:Bod J){s:σ}{c:Cx}{F:List En}{e:En}(h:J s c (e::F)):∃G Fx,Own c G (e::Fx)/\∀c' e',c.le c'->Own c' G (e'::Fx)->J s c' (e'::F):=by
 obtain ⟨G,Fm,O,k⟩:=hJ s c _ h;exact ⟨G,_,O.front,fun c' e' hc O'=>k c' _ hc O'.behind⟩
theorem Bod.drop {σ:Type}{J:σ->Cx->List En->Prop}(hJ:Bod J){s:σ}{c:Cx}{F:List En}{e:En}(h:J s c (e::F)):J s c F:=by
 obtain ⟨G,Fm,O,k⟩:=hJ s c _ h;exact k c _ (Cx.le.refl c) O.front.tail
abbrev JnW (c0:Cx) (q:Cx->List (Nat×Value)->Prop):(Nat->Value)->World->Prop:=fun e w=>∃c e0 l,w=c.w/\c0.lw c/\e=ups e0 l/\q c l
theorem jnW {c0:Cx}{q:Cx->List (Nat×Value)->Prop}{e:Nat->Value}{l:List (Nat×Value)}(c:Cx) (h:q c l) (k:c0.lw c) (u:l.map (fun x=>e x.1)=l.map (fun x=>x.2):=by kernel_rfl):JnW c0 q e c.w:=⟨c,e,l,rfl,k,us u,h⟩
def JL {σ:Type}(P:Program) (l:Nat) (J:σ->Cx->List En->Prop) (args:Array Value) (c:Cx) (F:List En) (s':σ) (b:Bool):Prop:=
 YieldAt (fen none) 0 P l args c.w fun x w'=>∃c',w'=c'.w/\c.lw c'/\x= .returned (.bool b)/\J s' c' F
theorem Aa {α:Type}{R:Rp α}{c:Cx}{P:Program}{v:Value}{xs zs:List α}{T E:TypeId}{i j:Int}{k k' k2:IntKind}(hT:P.underlying T=some (.slice E)) (hE:(P.info? E).map (·.size)=some R.size) (h:Sl R c v xs) (hz:slc xs i j=some zs):
  ∃v',(∀w,(Instr.sliceAt T v (some (.int k i)) (some (.int k' j)) (some (.int k2 j))).run P w= .ok v' w)/\Sl R c v' zs:=by
 obtain ⟨h1,h2,h3,rfl⟩:=oJ hz;obtain ⟨ti,hti,hsz⟩:=Option.map_eq_some_iff.1 hE;have hh:=h;obtain ⟨a,cap,rfl,h4,h5,h6⟩:=h;have hcut:=Sl.cut (l:=i.toNat) (h:=j.toNat) (m:=j.toNat) hh (by omega) (by omega) (by omega) (by omega);rw [show (j-i).toNat=j.toNat-i.toNat by omega];refine ⟨_,fun w=>?_,hcut⟩;have e1:0<=i/\i<=j:=⟨h1,h2⟩;have e2:0<=j/\j<=(cap:Int):=⟨by omega,by omega⟩;have e4:0<=j/\j<=j:=⟨by omega,nC _⟩;have e3:((j.toNat:Nat):Int)=j:=by omega
 simp [Instr.sliceAt,cf hT,Instr.slice,Instr.sliceBounds,Instr.sliceBound,asIntOf,e1,e2,e3,e4,sizeOf,typeInfo,hti,hsz]
theorem WR.sr {P:Program}{n:Nat}{df:List Deferred}{Q:List Deferred->Exit->(Nat->Value)->World->Prop}{e:Nat->Value}{w:World}{b:Code}{id:Nat}{l:List Oper}
 (h:WL P l.toArray ⟨n,df,none⟩ (rT (fun e w=>WR P n b Q df e w) (Q df)) l e w):WR P n ((Code.region id l.toArray false).seq b) Q df e w:=WR.seq (WR.of (W.region h))
theorem Cx.loop (c:Cx) (r:Loop):∃c':Cx,c'.w=(c.w.alloc (.deferred (some []))).alloc (.loop r)/\c.but (fun _=>False) c'/\Rec c' (c.w.heap.size+1) c.w.heap.size r:=by
 have hb:∀k,k<c.w.heap.size->((c.w.alloc (.deferred (some []))).alloc (.loop r)).heap[k]? = c.w.heap[k]? :=fun k hk=>
  (eK _ _ _ (by simp; omega)).trans (eK _ _ _ hk)
 refine ⟨⟨(c.w.alloc (.deferred (some []))).alloc (.loop r),fun k o=>k<c.w.heap.size/\c.A k o,c.t⟩,rfl,⟨⟨rfl,rfl,by simp; omega,fun k o hk hA=>⟨nB (w:=c.w) (a:=⟨k,o,none⟩) (hb k hk),fun h=>hA h.2⟩,fun k hk _=>hb k hk,fun a ha _=>?_,fun _ _ _ h=>h⟩,rfl,fun k hk _=>⟨hb k hk,fun o=>⟨fun h=>h.2,fun h=>⟨hk,h⟩⟩⟩⟩,?_,?_,?_,?_⟩
 ·unfold World.frozen?
  rw [hb _ ha]
 ·have:=World.alloc_heap_new (c.w.alloc (.deferred (some []))) (.loop r)
  rwa [World.size_alloc] at this
 ·intro o h; omega
 ·exact (eK _ _ _ (by simp)).trans (World.alloc_heap_new c.w _)
 ·intro o h; omega
theorem Cx.le.turn {cb c:Cx}(h:cb.le c){l:Nat}{o o':Obj}(hl:cb.w.heap.size<=l) (hc:c.w.heap[l]? = some o) (ho:isC o=false) (ho':isC o'=false):cb.le (c.turn l o'):=by
 have k:=h.lw.trans (Cx.turn_lw hc ho ho');refine ⟨k.os,k.output,k.size,k.cell,fun i hi hA=>?_,k.frz,k.t⟩;exact (World.putObj_heap_other (by omega)).trans (h.block i hi hA)
theorem Rec.turn {c:Cx}{l D:Nat}{r:Loop}(h:Rec c l D r) (r':Loop):Rec (c.turn l (.loop r')) l D r':=by
 have hlt:=(Array.getElem?_eq_some_iff.1 h.rc).1;have hne:D≠l:=fun e=>by
  have h1:=h.rc;rw [<-e,h.def_] at h1;cases h1
 exact ⟨World.putObj_heap_same hlt,h.nl,(World.putObj_heap_other hne).trans h.def_,h.nD⟩
theorem IH {P:Program}{fn:Func}{n:Nat}{R:Ending->World->Prop}{c:Cx}{e:Nat->Value}{D t:Nat}{v:Value}(hD:c.w.heap[D]? = some (.deferred (some []))) (h:R (.returned v) (c.turn D (.deferred none)).w)
  (hr:fn.results= #[.tmp t]:=by rfl) (hv:ev n e (.tmp t)=v:=by kernel_rfl):ES P fn n R [mark D] .ret e c.w:=by
 refine Ek hD (results_tmp hr _ _ _) ?_;rw [eL];show R (.returned (ev n e (.tmp t))) _;rw [hv];exact h
section
variable {P:Program}{α:Type}{R:Rp α}{c:Cx}{G:Gm}{F:List En}
end
end Go.Lt
