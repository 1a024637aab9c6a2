/- Parts of the proofs of PlaySteps: the walk through the code, and plain Lean. No condition. -/
import Derived.Test.YtclmdpamofdoiaaGreatDoorPtA
import Derived.Test.YtclmdpamofdoiaaGreatDoorProg
import Derived.Test.YtclmdpamofdoiaaGreatDoorPtB
import Derived.WalkKit
import Derived.LaidEql
import Derived.Stop.Asserts
import Derived.RowKitTokens
import Derived.Elder7
set_option linter.unusedVariables false
set_option linter.unusedSimpArgs false
namespace Go.Proofs.YtclmdpamofdoiaaGreatDoor
open Go Go.Lt
set_option maxRecDepth 10000
set_option linter.unusedVariables false
attribute [local irreducible] W WL AC
open Tryz
variable {c0:Cx}{G:Gm}{F:List En}{sg:Sto}{v1 v2 v3 v4 v5 v6 v7 v8 v9 v10 v11 v12 v13 v14 v15 v16 v17 v18 v19 v20 v21 v22 v23 v24 v25 v26 v27 v28 v29 v30 v31 v32 v33 v34 v35 v36 v37 v38 v39 v40 v41 v42 v43 v44 v45 v46 v47 v48 v49 v50 v51 v52 v53 v54 v55 v56 v57 v58 v59 v60:Value}
def fh (p0:List Int) (p1:Int):Option (Bool):=
 (idx p0 0).bind fun c=>
 (idx ([0,0,192,224,240]:List Int) p1).bind fun d=>
 (orE (decide ((w64 ((w64 c)-d))<0)) ((idx ([0,128,32,16,8]:List Int) p1).bind fun l=>
 some (decide ((w64 ((w64 c)-d))>=l)))).bind fun j=>
 if j=true then
 some false
 else
 (cL (σ:=Int×Int×Int) (τ:=Bool ⊕ (Int×Int)) ((p1-1).toNat+1) (fun a=>
 if (decide (a.2.2<p1))=true then
 if (decide (a.2.2<(p0.length:Int)))=true then
 (idx p0 a.2.2).bind fun e=>
 (orE (decide ((w64 ((w64 e)-128))<0)) (some (decide ((w64 ((w64 e)-128))>63)))).bind fun k=>
 if k=true then
 some (.inr (.inl false))
 else
 some (.inl ((w64 ((w64 (a.1*64))+(w64 ((w64 e)-128)))),(w64 ((w64 ((w64 ((w64 (a.2.1*64))+63))-63))+(w64 ((w64 e)-128)))),(w64 (a.2.2+1))))
 else
 some (.inl ((w64 (a.1*64)),(w64 ((w64 (a.2.1*64))+63)),(w64 (a.2.2+1))))
 else
 some (.inr (.inr (a.1,a.2.1)))) ((w64 ((w64 c)-d)),(w64 ((w64 c)-d)),1)).bind fun b=>
 match b with
 | .inl b=>
 some b
 | .inr b=>
 (idx ([0,0,128,2048,65536]:List Int) p1).bind fun f=>
 (idx ([0,127,2047,65535,1114111]:List Int) p1).bind fun g=>
 (bT (decide ((aE b.1 f)<=(aB b.2 g))) ((orE (decide ((aE b.1 f)<55296)) (some (decide ((aB b.2 g)>57343)))).bind fun i=>
 some i)).bind fun h=>
 some h
theorem rH (O0:Own c0 G F) (p0:List Int) (n:Int){r:Bool}(Z:Sl (RI .u8) c0 v1 p0) (H:fh p0 n=some r): Calls prog 163 #[v1,I n] c0.w (aR c0 fun c v=>Own c G (F)/\v=B r):=by
 unfold fh at H;refine en func163 rfl rfl (sr (va (B false) (wln (sr (me (sl (RI .i64) 3 [[I 0],[I 0],[I 192],[I 224],[I 240]] ([0,0,192,224,240]:List Int) O0 ⟨rfl,rfl,rfl,rfl,rfl,trivial⟩) ?_)))));rintro v7 c6 l6 ⟨z,O3,h5⟩;refine va (v7) (wln (sr (me (sl (RI .i64) 3 [[I 0],[I 128],[I 32],[I 16],[I 8]] ([0,128,32,16,8]:List Int) O3 ⟨rfl,rfl,rfl,rfl,rfl,trivial⟩) ?_)));rintro v12 o3 i0 ⟨u9,O8,X⟩;refine va (v12) (wln (W.seq (rD [] (Kp G0 [es true (RI .i64) v7 3 z ([0,0,192,224,240]:List Int)]) O8 ?_)));intro N R E;have w2:Kp G0 [es true (RI .i64) v7 3 z ([0,0,192,224,240]:List Int)] N:=(Kp.cons (E.on 1 rfl) Kp.nil0);refine ta 0 (v1) (bn H fun f u0 H=>?_);obtain ⟨i3,z1,p2⟩:=Sl.at (Z.mono (l6.trans (i0.trans R))) (aU u0);obtain rfl:=z1;refine tx 1 (fun c' h0=>ix lW Z.m u0) (tx 2 (fun c' h0=>l1 u_5 ((mm p2) 0 _ rfl)) (ta 3 (I (w64 f)) (ta 4 (v7) (ta 5 (I n) (bn H fun h a0 H=>tx 6 (fun c' h0=>ixO lm h5.m a0) ?_)))));obtain ⟨j3,b2,q2⟩:=OA.at (h5.mono (i0.trans R)) a0;obtain rfl:=b2;refine AC.takeK 7 (I h) w2 rfl (by kernel_rfl) (by kernel_rfl) (by kernel_rfl) (fun c' h0 hk=>(rx (by kernel_rfl) (lI u_3 rfl (hk.on 0 rfl) (h5.m.blk a0) (at1 (j:=0) q2 rfl)))) (ta 8 (I (w64 ((w64 f)-h))) (ta 9 (I (w64 ((w64 f)-h))) (dn (nrm (W.seq (W.seq (bn H fun f1 v0 H=>W.join (Jn N fun c l=>Own c G (es true (RI .i64) v12 3 u9 ([0,128,32,16,8]:List Int)::es true (RI .i64) v7 3 z ([0,0,192,224,240]:List Int)::F)/\l= [(0,v1),(1,I n),(7,I (w64 ((w64 f)-h))),(34,B f1)]) ?_ ?_)))))))
 ·clear H;refine W.region (va (I (w64 ((w64 f)-h))) (va (B (decide ((w64 ((w64 f)-h))<0))) ?_));rcases bo (decide ((w64 ((w64 f)-h))<0)) with s|s
  ·obtain rfl:=orT s v0;exact vb s (pz (pz (pz (va (B true) (wln (jn N ⟨E,rfl⟩))))))
  have T:=orF s v0;refine vb s (wa (I (w64 ((w64 f)-h))) (wa (v12) (wa (I n) (wn (bn T fun A b0 T=>vx (ixO lm X.m b0) (wn ?_))))));obtain ⟨k3,c2,s2⟩:=OA.at (X.mono R) b0;obtain rfl:=c2;refine vr (I A) (rx (by kernel_rfl) (lI u_3 rfl (E.on 0 rfl) (X.m.blk b0) (at1 (j:=0) s2 rfl))) (wa (B (decide ((w64 ((w64 f)-h))>=A))) ?_);cases T;exact va (B (decide ((w64 ((w64 f)-h))>=A))) (wln (jn N ⟨E,rfl⟩))
 rintro U w_ ⟨p,s3,_,rfl,l2,rfl,q0,rfl⟩;refine nrm (cn H (fun d2 H=>?_) (fun d2 H=>?_))
 ·refine sr (va (B false) (wln (W.ret (thr ?_))));cases H;have n1:=q0.sD 2 [];exact r1 (qq p ⟨n1,rfl⟩)
 refine W.skip (nrm (sr (vv (I (w64 ((w64 f)-h))) (vv (I (w64 ((w64 f)-h))) (wln (W.seq (sr (va (I 1) (wln (W.block (bn H fun b w0 k=>lp w0 (fun a=>Jn p fun c l=>Own c G (es true (RI .i64) v12 3 u9 ([0,128,32,16,8]:List Int)::es true (RI .i64) v7 3 z ([0,0,192,224,240]:List Int)::F)/\l= [(0,v1),(1,I n),(8,I a.1),(9,I a.2.1),(10,I a.2.2)]) (fun t=>match t with|.inl x_=>(fun x2 ex e w=>ex= .ret/\(Jn p fun c l=>Own c G (F)/\l= [(4,B x2)]) e w) x_|.inr x_=>(fun S ex e w=>ex= .exit 0/\(Jn p fun c l=>Own c G (es true (RI .i64) v12 3 u9 ([0,128,32,16,8]:List Int)::es true (RI .i64) v7 3 z ([0,0,192,224,240]:List Int)::F)/\l= [(1,I n),(8,I S.1),(9,I S.2)]) e w) x_) ?_ ?_ ?_)))))))))))
 ·clear k w0;intro a b4 x1 a3 H;revert x1 a3;rintro U w_ ⟨q,t3,_,rfl,m2,rfl,M,rfl⟩;refine W.seq (sr (va (I a.2.2) (va (I n) (va (B (decide (a.2.2<n))) (wln (cn H (fun e2 H=>?_) (fun e2 H=>?_)))))))
  ·refine W.skip (nrm (W.seq (W.block (sr (va (I a.1) (vv (I (w64 (a.1*64))) (wln (sr (va (I a.2.1) (va (I (w64 (a.2.1*64))) (vv (I (w64 ((w64 (a.2.1*64))+63))) (wln (sr (va (I a.2.2) (va (v1) (vx (ln 3 lW Z.m) (va (B (decide (a.2.2<(p0.length:Int)))) (wln (cn H (fun f2 H=>?_) (fun f2 H=>?_))))))))))))))))))))
   ·refine sr (va (v1) (va (I a.2.2) (bn H fun d x0 H=>?_)));obtain ⟨l3,g2,t2⟩:=Sl.at (Z.mono (l6.trans (i0.trans (R.trans (l2.trans m2))))) (aU x0);obtain rfl:=g2;refine vx (ix lW Z.m x0) (vx (l1 u_5 (t2 0 _ rfl)) (va (I (w64 d)) (vv (I (w64 ((w64 d)-128))) (wln (W.seq (W.seq (bn H fun g1 y0 H=>W.join (Jn q fun c l=>Own c G (es true (RI .i64) v12 3 u9 ([0,128,32,16,8]:List Int)::es true (RI .i64) v7 3 z ([0,0,192,224,240]:List Int)::F)/\l= [(0,v1),(1,I n),(8,I (w64 (a.1*64))),(9,I (w64 ((w64 (a.2.1*64))+63))),(10,I a.2.2),(11,I (w64 ((w64 d)-128))),(62,B g1)]) ?_ ?_)))))))
    ·clear H;refine W.region (va (I (w64 ((w64 d)-128))) (va (B (decide ((w64 ((w64 d)-128))<0))) ?_));rcases bo (decide ((w64 ((w64 d)-128))<0)) with u|u
     ·obtain rfl:=orT u y0;exact vb u (pz (va (B true) (wln (jn q ⟨M,rfl⟩))))
     have k1:=orF u y0;refine vb u (wa (I (w64 ((w64 d)-128))) (wa (B (decide ((w64 ((w64 d)-128))>63))) ?_));cases k1;exact va (B (decide ((w64 ((w64 d)-128))>63))) (wln (jn q ⟨M,rfl⟩))
    rintro U w_ ⟨t0,u3,_,rfl,x3,rfl,s0,rfl⟩;refine nrm (cn H (fun i2 H=>?_) (fun i2 H=>?_))
    ·refine sr (va (B false) (wln (W.ret (thr (bkr (thr ?_))))));cases H;refine ⟨_,rfl,⟨rfl,?_⟩⟩;have q1:=s0.sD 2 [];exact jn t0 ⟨q1,rfl⟩
    refine W.skip (nrm (sr (va (I (w64 (a.1*64))) (va (I (w64 ((w64 d)-128))) (vv (I (w64 ((w64 (a.1*64))+(w64 ((w64 d)-128))))) (wln (W.region (va (I (w64 ((w64 (a.2.1*64))+63))) (va (I (w64 ((w64 ((w64 (a.2.1*64))+63))-63))) (va (I (w64 ((w64 d)-128))) (vv (I (w64 ((w64 ((w64 ((w64 (a.2.1*64))+63))-63))+(w64 ((w64 d)-128))))) (WL.nil (bkn (nrm (W.region (va (I a.2.2) (vv (I (w64 (a.2.2+1))) (WL.nil ?_))))))))))))))))));cases H;exact ⟨_,rfl,jn t0 ⟨s0,rfl⟩⟩
   refine W.skip (bkn (nrm (W.region (va (I a.2.2) (vv (I (w64 (a.2.2+1))) (WL.nil ?_))))));cases H;exact ⟨_,rfl,jn q ⟨M,rfl⟩⟩
  refine W.exit (thx ?_);cases H;exact ⟨_,rfl,rfl,jn q ⟨M,rfl⟩⟩
 ·exact jn p ⟨q0,rfl⟩
 rcases b with b|b
 ·intro y1; revert y1;rintro _ U w_ ⟨rfl,w1,v3,_,rfl,y3,rfl,s1,rfl⟩;refine bkr (thr ?_);cases k;exact r1 (qq w1 ⟨s1,rfl⟩)
 rintro _ U w_ ⟨rfl,p3,w3,_,rfl,z3,rfl,t1,rfl⟩;refine bke (nrm (sr (me (sl (RI .i64) 3 [[I 0],[I 0],[I 128],[I 2048],[I 65536]] ([0,0,128,2048,65536]:List Int) t1 ⟨rfl,rfl,rfl,rfl,rfl,trivial⟩) ?_)));rintro k0 q3 a4 ⟨y2,u1,d0⟩;refine va (k0) (wln (sr (me (sl (RI .i64) 3 [[I 0],[I 127],[I 2047],[I 65535],[I 1114111]] ([0,127,2047,65535,1114111]:List Int) u1 ⟨rfl,rfl,rfl,rfl,rfl,trivial⟩) ?_)));rintro l0 P o2 ⟨z2,o,e0⟩;refine va (l0) (wln (sr (va (I b.1) (va (k0) (va (I n) (bn k fun i f0 k=>vx (ixO lm d0.m f0) ?_))))));obtain ⟨m3,j2,u2⟩:=OA.at (d0.mono o2) f0;obtain rfl:=j2;refine vr (I i) (rx (by kernel_rfl) (lI u_3 rfl (o.on 1 rfl) (d0.m.blk f0) (at1 (j:=0) u2 rfl))) (vv (I (aE b.1 i)) (wln (sr (va (I b.2) (va (l0) (va (I n) (bn k fun g g0 k=>vx (ixO lm e0 g0) ?_)))))));obtain ⟨n3,k2,v2⟩:=OA.at e0 g0;obtain rfl:=k2;refine vr (I g) (rx (by kernel_rfl) (lI u_3 rfl (o.on 0 rfl) (e0.blk g0) (at1 (j:=0) v2 rfl))) (vv (I (aB b.2 g)) (wln (W.seq (bn k fun o0 z0 k=>W.join (Jn P fun c l=>Own c G (es true (RI .i64) l0 3 z2 ([0,127,2047,65535,1114111]:List Int)::es true (RI .i64) k0 3 y2 ([0,0,128,2048,65536]:List Int)::es true (RI .i64) v12 3 u9 ([0,128,32,16,8]:List Int)::es true (RI .i64) v7 3 z ([0,0,192,224,240]:List Int)::F)/\l= [(4,B o0)]) ?_ ?_))))
 ·clear k;refine W.region (va (I (aE b.1 i)) (va (I (aB b.2 g)) (va (B (decide ((aE b.1 i)<=(aB b.2 g)))) ?_)));rcases bo (decide ((aE b.1 i)<=(aB b.2 g))) with x|x
  ·have D:=anT x z0;refine vb x (wa (I (aE b.1 i)) (wa (B (decide ((aE b.1 i)<55296))) (wn (bn D fun b3 a1 D=>?_))));rcases bo (decide ((aE b.1 i)<55296)) with y|y
   ·obtain rfl:=orT y a1;refine vb y (pz (wa (B true) ?_));cases D;exact vv (B true) (wln (jn P ⟨o,rfl⟩))
   have m1:=orF y a1;refine vb y (wa (I (aB b.2 g)) (wa (B (decide ((aB b.2 g)>57343))) (wn ?_)));cases m1;refine va (B (decide ((aB b.2 g)>57343))) ?_;cases D;exact vv (B (decide ((aB b.2 g)>57343))) (wln (jn P ⟨o,rfl⟩))
  obtain rfl:=anF x z0;exact vb x (pz (pz (pz (vv (B false) (wln (jn P ⟨o,rfl⟩))))))
 rintro U w_ ⟨e1,f3,_,rfl,h3,rfl,b1,rfl⟩;refine nrm (W.ret ?_);cases k;have c1:=b1.sD 4 [];exact r1 (qq e1 ⟨c1,rfl⟩)
def bV (p0:List Int):Option (Int):=
 (cL (σ:=Int) (τ:=Int ⊕ Unit) (((4:Int)-1).toNat+2) (fun a=>
 if (decide (a<=4))=true then
 (bT (decide ((p0.length:Int)>=1)) (some (decide ((p0.length:Int)<=a)))).bind fun c=>
 (bT c ((fh p0 a).bind fun e=>
 some e)).bind fun d=>
 if d=true then
 some (.inr (.inl a))
 else
 some (.inl ((w64 (a+1))))
 else
 some (.inr (.inr ()))) (1)).bind fun b=>
 match b with
 | .inl b=>
 some b
 | .inr b=>
 some 0
theorem hU (O0:Own c0 G F) (f:List Int){r:Int}(y:Sl (RI .u8) c0 v1 f) (H:bV f=some r): Calls prog 105 #[v1] c0.w (aR c0 fun c v=>Own c G (F)/\v=I r):=by
 unfold bV at H;refine en func105 rfl rfl (sr (va (I 0) (wln (W.seq (sr (va (I 1) (wln (W.block (bn H fun i h3 s=>lp h3 (fun a=>Jn c0 fun c l=>Own c G (F)/\l= [(0,v1),(3,I a)]) (fun t=>match t with|.inl A=>(fun e0 ex e w=>ex= .ret/\(Jn c0 fun c l=>Own c G (F)/\l= [(2,I e0)]) e w) A|.inr A=>(fun i0 ex e w=>ex= .exit 0/\(Jn c0 fun c l=>Own c G (F)/\l= []) e w) A) ?_ ?_ ?_)))))))))
 ·clear s h3;intro a t0 U f0 H;revert U f0;rintro x z ⟨k,g6,_,rfl,l5,rfl,j,rfl⟩;refine W.seq (sr (va (I a) (va (B (decide (a<=4))) (wln (cn H (fun Z H=>?_) (fun Z H=>?_))))))
  ·refine W.skip (nrm (W.seq (W.block (W.seq (bn H fun h0 p H=>bn H fun u h H=>W.join (Jn k fun c l=>Own c G (F)/\l= [(0,v1),(3,I a),(21,B u)]) ?_ ?_)))))
   ·clear H;refine W.region (va (v1) (vx (ln 3 lW y.m) (va (B (decide ((f.length:Int)>=1))) ?_)));rcases bo (decide ((f.length:Int)>=1)) with b|b
    ·have E:=anT b p;refine vb b (wa (v1) (wn (vx (ln 3 lW y.m) (wa (I a) (wa (B (decide ((f.length:Int)<=a))) ?_)))));cases E;refine va (B (decide ((f.length:Int)<=a))) ?_;rcases bo (decide ((f.length:Int)<=a)) with d|d
     ·have g:=anT d h;refine vb d (wa (v1) (wa (I a) (wn (bn g fun D a0 g=>cl (rH j f a y.m a0) ?_))));rintro v24 R m0 ⟨M,rfl⟩;obtain rfl:=si g;exact va (B D) (wln (jn R ⟨M,rfl⟩))
     obtain rfl:=anF d h;exact vb d (pz (ps (va (B false) (wln (jn k ⟨j,rfl⟩)))))
    obtain rfl:=anF b p;refine vb b (pz (pz (va (B false) ?_)));have q:false=false:=rfl;obtain rfl:=anF q h;exact vb q (pz (ps (va (B false) (wln (jn k ⟨j,rfl⟩)))))
   rintro x z ⟨o,j0,_,rfl,o0,rfl,n,rfl⟩;refine nrm (cn H (fun d0 H=>?_) (fun d0 H=>?_))
   ·refine sr (vv (I a) (wln (W.ret (bkr (thr ?_)))));cases H;exact ⟨_,rfl,⟨rfl,jn o ⟨n,rfl⟩⟩⟩
   refine W.skip (bkn (nrm (W.region (va (I a) (vv (I (w64 (a+1))) (WL.nil ?_))))));cases H;exact ⟨_,rfl,jn o ⟨n,rfl⟩⟩
  refine W.exit (thx ?_);cases H;exact ⟨_,rfl,rfl,jn k ⟨j,rfl⟩⟩
 ·exact jn c0 ⟨O0,rfl⟩
 rcases i with i|i
 ·intro X; revert X;rintro _ x z ⟨rfl,S,k0,_,rfl,q0,rfl,N,rfl⟩;refine bkr (thr ?_);cases s;exact r1 (qq S ⟨N,rfl⟩)
 rintro _ x z ⟨rfl,T,l0,_,rfl,s0,rfl,P,rfl⟩;refine bke (nrm (sr (va (I 0) (wln (W.ret ?_)))));cases s;exact r1 (qq T ⟨P,rfl⟩)
def eF (p0:List Int):Option (Int):=
 (idx p0 0).bind fun e=>
 (idx ([0,0,192,224,240]:List Int) (p0.length:Int)).bind fun c=>
 (cL (σ:=Int×Int) (τ:=Int) (((p0.length:Int)-1).toNat+1) (fun a=>
 if (decide (a.2<(p0.length:Int)))=true then
 (idx p0 a.2).bind fun d=>
 some (.inl ((w64 ((w64 ((w64 (a.1*64))+(w64 d)))-128)),(w64 (a.2+1))))
 else
 some (.inr (a.1))) ((w64 ((w64 e)-c)),1)).bind fun b=>
 some (w32 b)
theorem mL (O0:Own c0 G F) (E:List Int){r:Int}(h:Sl (RI .u8) c0 v1 E) (H:eF E=some r): Calls prog 164 #[v1] c0.w (aR c0 fun c v=>Own c G (F)/\v=J r):=by
 unfold eF at H;refine en func164 rfl rfl (sr (va (J 0) (wln (sr (me (sl (RI .i64) 3 [[I 0],[I 0],[I 192],[I 224],[I 240]] ([0,0,192,224,240]:List Int) O0 ⟨rfl,rfl,rfl,rfl,rfl,trivial⟩) ?_)))));rintro v7 c6 l6 ⟨q,O3,A⟩;refine va (v7) (wln (W.seq (rD [] (Kp G0 [es true (RI .i64) v7 3 q ([0,0,192,224,240]:List Int)]) O3 ?_)));intro o D P;have g0:Kp G0 [es true (RI .i64) v7 3 q ([0,0,192,224,240]:List Int)] o:=(Kp.cons (P.on 0 rfl) Kp.nil0);refine ta 0 (v1) (bn H fun k x H=>?_);obtain ⟨m0,T,d0⟩:=Sl.at (h.mono (l6.trans D)) (aU x);obtain rfl:=T;refine tx 1 (fun n g=>ix lW h.m x) (tx 2 (fun n g=>l1 u_5 ((mm d0) 0 _ rfl)) (ta 3 (I (w64 k)) (ta 4 (v7) (ta 5 (v1) (tx 6 (fun n g=>ln 3 lW h.m) (bn H fun f i H=>tx 7 (fun n g=>ixO lm A.m i) ?_))))));obtain ⟨o0,U,e0⟩:=OA.at (A.mono D) i;obtain rfl:=U;refine AC.takeK 8 (I f) g0 rfl (by kernel_rfl) (by kernel_rfl) (by kernel_rfl) (fun n g hk=>(rx (by kernel_rfl) (lI u_3 rfl (hk.on 0 rfl) (A.m.blk i) (at1 (j:=0) e0 rfl)))) (ta 9 (I (w64 ((w64 k)-f))) (ta 10 (I (w64 ((w64 k)-f))) (dn (nrm (W.seq (sr (va (I 1) (wln (W.block (bn H fun d y s=>lp y (fun a=>Jn o fun c l=>Own c G (es true (RI .i64) v7 3 q ([0,0,192,224,240]:List Int)::F)/\l= [(0,v1),(4,I a.1),(5,I a.2)]) (fun p ex e w=>ex= .exit 0/\(Jn o fun c l=>Own c G (es true (RI .i64) v7 3 q ([0,0,192,224,240]:List Int)::F)/\l= [(4,I p)]) e w) ?_ ?_ ?_))))))))))
 ·clear s y;intro a w0 S h0 H;revert S h0;rintro e_ w_ ⟨u,t0,_,rfl,a0,rfl,t,rfl⟩;refine W.seq (sr (va (I a.2) (va (v1) (vx (ln 3 lW h.m) (va (B (decide (a.2<(E.length:Int)))) (wln (cn H (fun X H=>?_) (fun X H=>?_))))))))
  ·refine W.skip (nrm (W.seq (W.block (W.region (va (I a.1) (va (I (w64 (a.1*64))) (va (v1) (va (I a.2) (bn H fun b z H=>?_)))))))));obtain ⟨q0,Z,f0⟩:=Sl.at (h.mono (l6.trans (D.trans a0))) (aU z);obtain rfl:=Z;refine vx (ix lW h.m z) (vx (l1 u_5 (f0 0 _ rfl)) (va (I (w64 b)) (va (I (w64 ((w64 (a.1*64))+(w64 b)))) (vv (I (w64 ((w64 ((w64 (a.1*64))+(w64 b)))-128))) (WL.nil (bkn (nrm (W.region (va (I a.2) (vv (I (w64 (a.2+1))) (WL.nil ?_)))))))))));cases H;exact ⟨_,rfl,jn u ⟨t,rfl⟩⟩
  refine W.exit (thx ?_);cases H;exact ⟨_,rfl,rfl,jn u ⟨t,rfl⟩⟩
 ·exact jn o ⟨P,rfl⟩
 rintro _ e_ w_ ⟨rfl,R,u0,_,rfl,v0,rfl,M,rfl⟩;refine bke (nrm (sr (va (I d) (vv (J (w32 d)) (wln (W.ret ?_))))));cases s;have N:=M.sD 1 [];exact r1 (qq R ⟨N,rfl⟩)
def jH (p0:List Int) (p1:Int):Option ((List Int)×(List Int)):=none
theorem pC (g:Own c0 G F) (b:List Int) (d:Int){r:(List Int)×(List Int)}(h:Sl (RI .u8) c0 v1 b) (H:jH b d=some r):
    Calls prog 106 #[v1,.int .u8 d] c0.w (aR c0 fun c v=>∃a e f,Own c G (es true (RI .i32) a 21 e r.1::F)/\v= .tuple #[a,f]/\OA (RI .i32) c a e r.1/\Sl (RI .u8) c f r.2):=by
 unfold jH at H
 cases H
def dN (p0:List Int) (p1:Int):Option ((List Int)×(List Int)):=
 (app ([]:List Int) p0).bind fun g=>
 (app g ([p1]:List Int)).bind fun b=>
 (bV b).bind fun a=>
 (bT (decide (a>0)) (some (decide (a>(b.length:Int))))).bind fun d=>
 if d=true then
 some (([]:List Int),b)
 else
 if (decide (a>0))=true then
 (eF b).bind fun e=>
 some (([e]:List Int),([]:List Int))
 else
 if ((p0.length:Int)==0)=true then
 some (([65533]:List Int),([]:List Int))
 else
 (jH ([]:List Int) p1).bind fun c=>
 (app ([65533]:List Int) c.1).bind fun f=>
 some (f,c.2)
theorem pB (O0:Own c0 G F) (P:List Int) (d:Int){r:(List Int)×(List Int)}(h2:Sl (RI .u8) c0 v1 P) (H:dN P d=some r): Calls prog 106 #[v1,.int .u8 d] c0.w (aR c0 fun c v=>∃R y2 y3,Own c G (es true (RI .i32) R 21 y2 r.1::F)/\v= .tuple #[R,y3]/\OA (RI .i32) c R y2 r.1/\Sl (RI .u8) c y3 r.2):=by
 unfold dN at H;refine en func106 rfl rfl (sr (vv (Y) (wln (sr (me (sl (RI .u8) 5 [] ([]:List Int) O0 trivial) ?_)))));rintro v7 c6 l6 ⟨u4,O3,h5⟩;refine va (v1) (bn H fun o3 h8 H=>me (ap (RI .u8) (.int .u8 0) 1 107 0 O3 h5 h2.m h8 sF) ?_);rintro v13 n2 z2 ⟨i3,O9,o0⟩;refine va (.int .u8 d) (me (sl (RI .u8) 5 [[.int .u8 d]] ([d]:List Int) O9 ⟨rfl,trivial⟩) ?_);rintro v18 o2 a3 ⟨u1,T,q0⟩;obtain ⟨p2,u0,b3,U,t0⟩:=T.frz 0 rfl q0;refine WL.gh u0 (bn H fun h v0 H=>me (ap (RI .u8) (.int .u8 0) 1 107 1 U o0.m t0 v0 sF) ?_);rintro v28 q2 c3 ⟨w1,X,i⟩;refine va (v28) (wln (sr (va (v28) ?_)));obtain ⟨s2,x0,u,Z,w0⟩:=X.frz 1 rfl i;refine WL.gh x0 (bn H fun a y0 H=>cl (hU Z h w0 y0) ?_);rintro v39 k x ⟨p,rfl⟩;refine va (I a) (wln (W.seq (W.seq (bn H fun M t H=>W.join (Jn k fun c l=>Own c G (es false (RI .u8) v18 5 u1 ([d]:List Int)::es false (RI .u8) v28 5 w1 h::F)/\l= [(0,v1),(1,.int .u8 d),(6,v28),(7,I a),(25,B M)]) ?_ ?_))))
 ·clear H;refine W.region (va (I a) (va (B (decide (a>0))) ?_));rcases bo (decide (a>0)) with g|g
  ·have S:=anT g t;refine vb g (wa (I a) (wa (v28) (wn (vx (lnO 3 sF i.m) (wa (B (decide (a>(h.length:Int)))) ?_)))));cases S;exact va (B (decide (a>(h.length:Int)))) (wln (jn k ⟨p,rfl⟩))
  obtain rfl:=anF g t;exact vb g (pz (pz (va (B false) (wln (jn k ⟨p,rfl⟩)))))
 rintro e_ w_ ⟨s,x2,_,rfl,y,rfl,f,rfl⟩;refine nrm (cn H (fun z0 H=>?_) (fun z0 H=>?_))
 ·refine sr (va (v28) (va (Y) (va (v28) (wln (W.ret (thr ?_))))));cases H;have a1:OA (RI .i32) s (Y) [] []:=OA.nil (aN _);have q:=f.addHole (e:=es true (RI .i32) (Y) 21 [] ([]:List Int)) rfl;have b1:=q.slf 2 rfl (i.mono (u.trans (x.trans y)));have a0:=q.sD 3 [0];exact r2 (qq s ⟨(Y),[],v28,a0,rfl,a1,b1⟩)
 refine W.skip (nrm (W.seq (sr (va (I a) (va (B (decide (a>0))) (wln (cn H (fun c1 H=>?_) (fun c1 H=>?_))))))))
 ·refine sr (va (v28) ?_);have d1:=f.slf 1 rfl (i.mono (u.trans (x.trans y)));refine bn H fun o e1 H=>cl (mL f h d1 e1) ?_;rintro l3 t2 d3 ⟨b0,rfl⟩;refine me (sl (RI .i32) 21 [[J o]] ([o]:List Int) b0 ⟨rfl,trivial⟩) ?_;rintro z l0 e3 ⟨x1,d0,f1⟩;refine va (z) (va (Y) (wln (W.ret (thr ?_))));cases H;have e0:=d0.sD 3 [0];exact r2 (qq l0 ⟨z,x1,(Y),e0,rfl,f1,(Sl.nl _ _)⟩)
 refine W.skip (nrm (W.seq (sr (va (v1) (vx (ln 3 sF h2.m) (va (B ((P.length:Int)==0)) (wln (cn H (fun g1 H=>?_) (fun g1 H=>?_)))))))))
 ·refine sr (me (sl (RI .i32) 21 [[J 65533]] ([65533]:List Int) f ⟨rfl,trivial⟩) ?_);rintro A m0 f3 ⟨z1,f0,h1⟩;refine va (A) (va (Y) (wln (W.ret (thr ?_))));cases H;have g0:=f0.sD 3 [0];exact r2 (qq m0 ⟨A,z1,(Y),g0,rfl,h1,(Sl.nl _ _)⟩)
 refine W.skip (nrm (sr (va (.int .u8 d) (bn H fun l2 i1 H=>cl (pC f ([]:List Int) d (Sl.nl _ _) i1) ?_))));rintro m3 u2 g3 ⟨j,j3,b,h0,rfl,j1,k1⟩;refine va (.tuple #[j,b]) (va (j) (va (b) (va (j) (va (b) (wln (sr (me (sl (RI .i32) 21 [[J 65533]] ([65533]:List Int) h0 ⟨rfl,trivial⟩) ?_)))))));rintro n3 v2 t1 ⟨k3,i0,m1⟩;refine va (j) ?_;obtain ⟨w2,q1,h3,j0,n1⟩:=i0.frz 1 rfl (j1.mono t1);refine WL.gh q1 (bn H fun m2 s1 H=>me (ap (RI .i32) (J 0) 4 32 0 j0 m1.m n1 s1 dD) ?_);rintro n E k2 ⟨b2,k0,N⟩;refine va (b) (va (n) (va (b) (wln (W.ret ?_))));cases H;have D:=k0.sD 4 [0];exact r2 (qq E ⟨n,b2,b,D,rfl,N,k1.m⟩)
def gF (p0:List Int) (p1:Int):Option ((List Int)×(List Int)):=
 (app ([]:List Int) p0).bind fun g=>
 (app g ([p1]:List Int)).bind fun b=>
 (bV b).bind fun a=>
 (bT (decide (a>0)) (some (decide (a>(b.length:Int))))).bind fun d=>
 if d=true then
 some (([]:List Int),b)
 else
 if (decide (a>0))=true then
 (eF b).bind fun e=>
 some (([e]:List Int),([]:List Int))
 else
 if ((p0.length:Int)==0)=true then
 some (([65533]:List Int),([]:List Int))
 else
 (dN ([]:List Int) p1).bind fun c=>
 (app ([65533]:List Int) c.1).bind fun f=>
 some (f,c.2)
theorem rI (O0:Own c0 G F) (P:List Int) (d:Int){r:(List Int)×(List Int)}(h2:Sl (RI .u8) c0 v1 P) (H:gF P d=some r): Calls prog 106 #[v1,.int .u8 d] c0.w (aR c0 fun c v=>∃R y2 y3,Own c G (es true (RI .i32) R 21 y2 r.1::F)/\v= .tuple #[R,y3]/\OA (RI .i32) c R y2 r.1/\Sl (RI .u8) c y3 r.2):=by
 unfold gF at H;refine en func106 rfl rfl (sr (vv (Y) (wln (sr (me (sl (RI .u8) 5 [] ([]:List Int) O0 trivial) ?_)))));rintro v7 c6 l6 ⟨u4,O3,h5⟩;refine va (v1) (bn H fun o3 h8 H=>me (ap (RI .u8) (.int .u8 0) 1 107 0 O3 h5 h2.m h8 sF) ?_);rintro v13 n2 z2 ⟨i3,O9,o0⟩;refine va (.int .u8 d) (me (sl (RI .u8) 5 [[.int .u8 d]] ([d]:List Int) O9 ⟨rfl,trivial⟩) ?_);rintro v18 o2 a3 ⟨u1,T,q0⟩;obtain ⟨p2,u0,b3,U,t0⟩:=T.frz 0 rfl q0;refine WL.gh u0 (bn H fun h v0 H=>me (ap (RI .u8) (.int .u8 0) 1 107 1 U o0.m t0 v0 sF) ?_);rintro v28 q2 c3 ⟨w1,X,i⟩;refine va (v28) (wln (sr (va (v28) ?_)));obtain ⟨s2,x0,u,Z,w0⟩:=X.frz 1 rfl i;refine WL.gh x0 (bn H fun a y0 H=>cl (hU Z h w0 y0) ?_);rintro v39 k x ⟨p,rfl⟩;refine va (I a) (wln (W.seq (W.seq (bn H fun M t H=>W.join (Jn k fun c l=>Own c G (es false (RI .u8) v18 5 u1 ([d]:List Int)::es false (RI .u8) v28 5 w1 h::F)/\l= [(0,v1),(1,.int .u8 d),(6,v28),(7,I a),(25,B M)]) ?_ ?_))))
 ·clear H;refine W.region (va (I a) (va (B (decide (a>0))) ?_));rcases bo (decide (a>0)) with g|g
  ·have S:=anT g t;refine vb g (wa (I a) (wa (v28) (wn (vx (lnO 3 sF i.m) (wa (B (decide (a>(h.length:Int)))) ?_)))));cases S;exact va (B (decide (a>(h.length:Int)))) (wln (jn k ⟨p,rfl⟩))
  obtain rfl:=anF g t;exact vb g (pz (pz (va (B false) (wln (jn k ⟨p,rfl⟩)))))
 rintro e_ w_ ⟨s,x2,_,rfl,y,rfl,f,rfl⟩;refine nrm (cn H (fun z0 H=>?_) (fun z0 H=>?_))
 ·refine sr (va (v28) (va (Y) (va (v28) (wln (W.ret (thr ?_))))));cases H;have a1:OA (RI .i32) s (Y) [] []:=OA.nil (aN _);have q:=f.addHole (e:=es true (RI .i32) (Y) 21 [] ([]:List Int)) rfl;have b1:=q.slf 2 rfl (i.mono (u.trans (x.trans y)));have a0:=q.sD 3 [0];exact r2 (qq s ⟨(Y),[],v28,a0,rfl,a1,b1⟩)
 refine W.skip (nrm (W.seq (sr (va (I a) (va (B (decide (a>0))) (wln (cn H (fun c1 H=>?_) (fun c1 H=>?_))))))))
 ·refine sr (va (v28) ?_);have d1:=f.slf 1 rfl (i.mono (u.trans (x.trans y)));refine bn H fun o e1 H=>cl (mL f h d1 e1) ?_;rintro l3 t2 d3 ⟨b0,rfl⟩;refine me (sl (RI .i32) 21 [[J o]] ([o]:List Int) b0 ⟨rfl,trivial⟩) ?_;rintro z l0 e3 ⟨x1,d0,f1⟩;refine va (z) (va (Y) (wln (W.ret (thr ?_))));cases H;have e0:=d0.sD 3 [0];exact r2 (qq l0 ⟨z,x1,(Y),e0,rfl,f1,(Sl.nl _ _)⟩)
 refine W.skip (nrm (W.seq (sr (va (v1) (vx (ln 3 sF h2.m) (va (B ((P.length:Int)==0)) (wln (cn H (fun g1 H=>?_) (fun g1 H=>?_)))))))))
 ·refine sr (me (sl (RI .i32) 21 [[J 65533]] ([65533]:List Int) f ⟨rfl,trivial⟩) ?_);rintro A m0 f3 ⟨z1,f0,h1⟩;refine va (A) (va (Y) (wln (W.ret (thr ?_))));cases H;have g0:=f0.sD 3 [0];exact r2 (qq m0 ⟨A,z1,(Y),g0,rfl,h1,(Sl.nl _ _)⟩)
 refine W.skip (nrm (sr (va (.int .u8 d) (bn H fun l2 i1 H=>cl (pB f ([]:List Int) d (Sl.nl _ _) i1) ?_))));rintro m3 u2 g3 ⟨j,j3,b,h0,rfl,j1,k1⟩;refine va (.tuple #[j,b]) (va (j) (va (b) (va (j) (va (b) (wln (sr (me (sl (RI .i32) 21 [[J 65533]] ([65533]:List Int) h0 ⟨rfl,trivial⟩) ?_)))))));rintro n3 v2 t1 ⟨k3,i0,m1⟩;refine va (j) ?_;obtain ⟨w2,q1,h3,j0,n1⟩:=i0.frz 1 rfl (j1.mono t1);refine WL.gh q1 (bn H fun m2 s1 H=>me (ap (RI .i32) (J 0) 4 32 0 j0 m1.m n1 s1 dD) ?_);rintro n E k2 ⟨b2,k0,N⟩;refine va (b) (va (n) (va (b) (wln (W.ret ?_))));cases H;have D:=k0.sD 4 [0];exact r2 (qq E ⟨n,b2,b,D,rfl,N,k1.m⟩)
def dY (p0:List Int) (p1:List Int):Option ((List Int)×(List Int)):=
 (cL (σ:=(List Int)×(List Int)×Int) (τ:=((List Int)×(List Int))) (((p1.length:Int)-0).toNat+1) (fun a=>
 if (decide (a.2.2<(p1.length:Int)))=true then
 (idx p1 a.2.2).bind fun d=>
 (gF a.1 d).bind fun b=>
 (app a.2.1 b.1).bind fun e=>
 some (.inl (b.2,e,(w64 (a.2.2+1))))
 else
 some (.inr (a.1,a.2.1))) (p0,([]:List Int),0)).bind fun c=>
 some (c.2,c.1)
theorem ny (O0:Own c0 G F) (p0:List Int) (n:List Int){r:(List Int)×(List Int)}(h2:Sl (RI .u8) c0 v1 p0) (k:Sl (RI .u8) c0 v3 n) (H:dY p0 n=some r): Calls prog 65 #[v1,v3] c0.w (aR c0 fun c v=>∃p y2 y3,Own c G (es true (RI .i32) p 21 y2 r.1::F)/\v= .tuple #[p,y3]/\OA (RI .i32) c p y2 r.1/\Sl (RI .u8) c y3 r.2):=by
 unfold dY at H;refine en func65 rfl rfl (sr (vv (Y) (wln (sr (va (Y) (wln (W.seq (sr (va (I 0) (wln (W.block (bn H fun f1 h5 q=>lp h5 (fun a=>Jn c0 fun c l=>∃v7 f v9,Own c G (es true (RI .i32) v7 21 f a.2.1::F)/\l= [(0,v9),(1,v3),(6,v7),(7,I a.2.2)]/\OA (RI .i32) c v7 f a.2.1/\Sl (RI .u8) c v9 a.1) (fun b ex e w=>ex= .exit 0/\(Jn c0 fun c l=>∃v10 d v12,Own c G (es true (RI .i32) v10 21 d b.2::F)/\l= [(0,v12),(6,v10)]/\OA (RI .i32) c v10 d b.2/\Sl (RI .u8) c v12 b.1) e w) ?_ ?_ ?_))))))))))))
 ·clear q h5;intro a h1 M k0 H;revert M k0;rintro e_ w_ ⟨A,z0,_,rfl,g0,rfl,v7,f,v9,g,rfl,h,i⟩;refine W.seq (sr (va (I a.2.2) (va (v3) (vx (ln 3 lW k.m) (va (B (decide (a.2.2<(n.length:Int)))) (wln (cn H (fun N H=>?_) (fun N H=>?_))))))))
  ·refine W.skip (nrm (W.seq (W.block (sr (va (Y) (wln (sr (va (v9) (va (v3) (va (I a.2.2) (bn H fun o j H=>?_)))))))))));obtain ⟨t0,P,h0⟩:=Sl.at (k.mono g0) (aU j);obtain rfl:=P;refine vx (ix lW k.m j) (vx (l1 u_5 (h0 0 _ rfl)) (bn H fun v0 R H=>cl (rI g a.1 o i R) ?_));rintro v37 x0 b1 ⟨v27,g1,v30,s,rfl,S,T⟩;refine va (.tuple #[v27,v30]) (va (v27) (va (v30) (va (v27) (va (v30) (wln (W.region (va (v7) (va (v27) ?_))))))));obtain ⟨y0,X,c1,t,U⟩:=s.frz 0 rfl S;refine WL.gh X (bn H fun w0 Z H=>me (ap (RI .i32) (J 0) 4 32 1 t h.m U Z dD) ?_);rintro v47 D d1 ⟨j0,u,a0⟩;refine va (v47) (WL.nil (bkn (nrm (W.region (va (I a.2.2) (vv (I (w64 (a.2.2+1))) (WL.nil ?_)))))));cases H;refine ⟨_,rfl,?_⟩;have x:=u.sD 2 [1];exact jn D ⟨v47,j0,v30,x,rfl,a0,T.m⟩
  refine W.exit (thx ?_);cases H;exact ⟨_,rfl,rfl,jn A ⟨v7,f,v9,g,rfl,h,i⟩⟩
 ·have d0:OA (RI .i32) c0 (Y) [] []:=OA.nil (aN _);have y:=O0.addHole (e:=es true (RI .i32) (Y) 21 [] ([]:List Int)) rfl;exact jn c0 ⟨(Y),[],v1,y,rfl,d0,h2⟩
 rintro _ e_ w_ ⟨rfl,E,a1,_,rfl,e1,rfl,v10,d,v12,z,rfl,e0,f0⟩;refine bke (nrm (sr (va (v10) (va (v12) (va (v10) (va (v12) (wln (W.ret ?_))))))));cases q;exact r2 (qq E ⟨v10,d,v12,z,rfl,e0,f0⟩)
def gU (p0:List Int):Option (List cf):=
 (cL (σ:=(List cf)×Int) (τ:=(List cf)) (((p0.length:Int)-0).toNat+1) (fun a=>
 if (decide (a.2<(p0.length:Int)))=true then
 (cL (σ:=Int) (τ:=Int) (((p0.length:Int)-(w64 (a.2+0))).toNat+1) (fun c=>
 (bT (decide ((w64 (a.2+c))<(p0.length:Int))) ((slc p0 a.2 (w64 ((w64 (a.2+c))+1))).bind fun h=>
 (bV h).bind fun i=>
 some (decide (i>0)))).bind fun g=>
 if g=true then
 (slc p0 a.2 (w64 (a.2+(w64 (c+1))))).bind fun j=>
 (bV j).bind fun k=>
 if (k==(w64 (c+1)))=true then
 some (.inr ((w64 (c+1))))
 else
 some (.inl ((w64 (c+1))))
 else
 some (.inr (c))) (0)).bind fun b=>
 (if (decide (b>0))=true then
 (slc p0 a.2 (w64 (a.2+b))).bind fun l=>
 (dY ([]:List Int) l).bind fun e=>
 if ((e.2.length:Int)==0)=true then
 (idx e.1 0).bind fun m=>
 some (m,b,(w64 (a.2+b)),false)
 else
 some (65533,(aE b 1),(aB (w64 ((w64 (a.2+b))+1)) (p0.length:Int)),true)
 else
 some (65533,(aE b 1),(w64 (a.2+1)),true)).bind fun d=>
 (app a.1 ([(⟨d.1,a.2,d.2.1,d.2.2.1,d.2.2.2⟩:cf)]:List cf)).bind fun f=>
 some (.inl (f,(w64 (a.2+d.2.1))))
 else
 some (.inr (a.1))) (([]:List cf),0)).bind fun n=>
 some n
theorem sv (O0:Own c0 G F) (n:List Int){r:List cf}(u:Sl (RI .u8) c0 v1 n) (H:gU n=some r): Calls prog 64 #[v1] c0.w (aR c0 fun c v=>∃y1 y2,Own c G (es true bw y1 106 y2 r::F)/\v=y1/\OA bw c y1 y2 r):=by
 unfold gU at H;refine en func64 rfl rfl (sr (va (Y) (wln (sr (va (Y) (wln (sr (va (I 0) (wln (W.seq (W.block (bn H fun p4 h3 H4=>lp h3 (fun a=>Jn c0 fun c l=>∃v5 o,Own c G (es true bw v5 106 o a.1::F)/\l= [(0,v1),(3,v5),(4,I a.2)]/\OA bw c v5 o a.1) (fun P ex e w=>ex= .exit 0/\(Jn c0 fun c l=>∃v7 u8,Own c G (es true bw v7 106 u8 P::F)/\l= [(3,v7)]/\OA bw c v7 u8 P) e w) ?_ ?_ ?_))))))))))))
 ·clear H4 h3;intro a m3 E T H;revert E T;rintro D S ⟨X,h4,_,rfl,l9,rfl,v5,o,d0,rfl,l0⟩;refine W.seq (sr (va (I a.2) (va (v1) (vx (ln 3 lW u.m) (va (B (decide (a.2<(n.length:Int)))) (wln (cn H (fun i2 H=>?_) (fun i2 H=>?_))))))))
  ·refine W.skip (nrm (W.block (sr (va (I 0) (wln (W.seq (W.block (bn H fun b m0 b0=>lp m0 (fun f=>Jn X fun c l=>Own c G (es true bw v5 106 o a.1::F)/\l= [(0,v1),(3,v5),(4,I a.2),(5,I f)]) (fun Z ex e w=>ex= .exit 2/\(Jn X fun c l=>Own c G (es true bw v5 106 o a.1::F)/\l= [(0,v1),(3,v5),(4,I a.2),(5,I Z)]) e w) ?_ ?_ ?_))))))))
   ·clear b0 m0;intro f m3 E T H;revert E T;rintro D S ⟨i0,i4,_,rfl,q0,rfl,e0,rfl⟩;refine W.seq (W.seq (bn H fun z0 o0 H=>W.join (Jn i0 fun c l=>Own c G (es true bw v5 106 o a.1::F)/\l= [(0,v1),(3,v5),(4,I a.2),(5,I f),(29,B z0)]) ?_ ?_))
    ·clear H;refine W.region (va (I a.2) (va (I f) (va (I (w64 (a.2+f))) (va (v1) (vx (ln 3 lW u.m) (va (B (decide ((w64 (a.2+f))<(n.length:Int)))) ?_))))));rcases bo (decide ((w64 (a.2+f))<(n.length:Int))) with i|i
     ·have h:=anT i o0;refine vb i (wa (v1) (wa (I a.2) (wa (I a.2) (wa (I f) (wa (I (w64 (a.2+f))) (wa (I (w64 ((w64 (a.2+f))+1))) (wn (bn h fun j1 j2 h=>?_))))))));obtain ⟨v29,l2,m2⟩:=vF (k:= .i64) (k':= .i64) lW (by kernel_rfl) (u.mono (l9.trans q0)) j2;refine vr v29 (rx (by kernel_rfl) (l2 _)) (wn (bn h fun U n2 h=>cl (hU e0 j1 m2 n2) ?_));rintro v38 d2 l4 ⟨t1,rfl⟩;refine wa (B (decide (U>0))) ?_;cases h;exact va (B (decide (U>0))) (wln (jn d2 ⟨t1,rfl⟩))
     obtain rfl:=anF i o0;exact vb i (pz (pz (pz (pz (ps (va (B false) (wln (jn i0 ⟨e0,rfl⟩))))))))
    rintro D S ⟨e2,j4,_,rfl,e3,rfl,f0,rfl⟩;refine nrm (cn H (fun o2 H=>?_) (fun o2 H=>?_))
    ·refine W.skip (nrm (W.block (sr (va (I f) (vv (I (w64 (f+1))) (wln (sr (va (v1) (vv (I a.2) (va (I (w64 (f+1))) (va (I (w64 (a.2+(w64 (f+1))))) (bn H fun k1 p2 H=>?_))))))))))));obtain ⟨v47,q2,s2⟩:=vF (k:= .i64) (k':= .i64) lW (by kernel_rfl) (u.mono (l9.trans (q0.trans e3))) p2;refine vr v47 (rx (by kernel_rfl) (q2 _)) (bn H fun m1 t2 H=>cl (hU f0 k1 s2 t2) ?_);rintro v56 j0 m4 ⟨g0,rfl⟩;refine va (I (w64 (f+1))) (va (B (m1==(w64 (f+1)))) (wln (cn H (fun u2 H=>?_) (fun u2 H=>?_))))
     ·refine W.exit (bko rfl ?_);cases H;exact ⟨_,rfl,rfl,jn j0 ⟨g0,rfl⟩⟩
     refine W.skip (bkn ?_);cases H;exact ⟨_,rfl,jn j0 ⟨g0,rfl⟩⟩
    refine W.exit (thx ?_);cases H;exact ⟨_,rfl,rfl,jn e2 ⟨f0,rfl⟩⟩
   ·exact jn X ⟨d0,rfl⟩
   rintro _ D S ⟨rfl,e4,k4,_,rfl,f3,rfl,u1,rfl⟩;refine bke (nrm (sr (va (I a.2) (va (I b) (va (I (aE b 1)) (va (I a.2) (va (I (w64 (a.2+1))) (va (.agg #[J 65533,I a.2,I (aE b 1),I (w64 (a.2+1)),B true]) (me (al 106 [J 0,I 0,I 0,I 0,B false] u1) ?_)))))))));rintro r4 f4 g3 ⟨q,rfl,w1⟩;refine md (sA 106 [J 65533,I a.2,I (aE b 1),I (w64 (a.2+1)),B true] 0 w1 ⟨rfl,rfl,rfl,rfl,rfl,trivial⟩) ?_;rintro k0 i3 h0;refine wln (bn b0 fun d g x=>W.seqJ (Jn k0 fun c l=>Own c G ((Eb q 106 [J d.1,I a.2,I d.2.1,I d.2.2.1,B d.2.2.2])::es true bw v5 106 o a.1::F)/\l= [(0,v1),(3,v5),(4,I a.2),(6,Q q)]) ?_ ?_)
   ·refine sr (va (I b) (va (B (decide (b>0))) (wln (cn g (fun v2 g=>?_) (fun v2 g=>?_)))))
    ·refine sr (va (v1) (vv (I a.2) (va (I b) (va (I (w64 (a.2+b))) (bn g fun n1 w2 g=>?_)))));obtain ⟨l3,x2,z2⟩:=vF (k:= .i64) (k':= .i64) lW (by kernel_rfl) (u.mono (l9.trans (f3.trans (g3.trans i3)))) w2;refine vr l3 (rx (by kernel_rfl) (x2 _)) (bn g fun p1 a3 g=>cl (ny h0 ([]:List Int) n1 (Sl.nl _ _) z2 a3) ?_);rintro s4 g4 n4 ⟨s,q4,t,x1,rfl,M,b3⟩;refine va (.tuple #[s,t]) (va (s) (va (t) (va (s) (va (t) (wln (sr (va (I a.2) (va (I b) (va (I (w64 (a.2+b))) (va (I (w64 ((w64 (a.2+b))+1))) (va (v1) (vx (ln 3 lW u.m) (va (I (aB (w64 ((w64 (a.2+b))+1)) (n.length:Int))) (va (Qo q 3) (md (sC 3 3 (I (aB (w64 ((w64 (a.2+b))+1)) (n.length:Int))) [J 65533,I a.2,I (aE b 1),I (aB (w64 ((w64 (a.2+b))+1)) (n.length:Int)),B true] 1 x1 ⟨rfl,trivial⟩) ?_)))))))))))))));rintro f2 j3 A;refine wln (sr (va (t) (vx (ln 3 sF b3.m) (va (B ((p1.2.length:Int)==0)) (wln (cn g (fun c3 g=>?_) (fun c3 g=>?_)))))))
     ·refine W.region (va (s) (bn g fun p N g=>vx (ixO dD M.m N) ?_));obtain ⟨b4,d3,k3⟩:=OA.at (M.mono j3) N;obtain rfl:=d3;refine vr (J p) (rx (by kernel_rfl) (lI nb rfl (A.on 0 rfl) (M.m.blk N) (at1 (j:=0) k3 rfl))) (va (I a.2) (va (I b) (va (I a.2) (va (I b) (va (I (w64 (a.2+b))) (va (.agg #[J p,I a.2,I b,I (w64 (a.2+b)),B false]) (md (sA 106 [J p,I a.2,I b,I (w64 (a.2+b)),B false] 1 A ⟨rfl,rfl,rfl,rfl,rfl,trivial⟩) ?_)))))));rintro g2 o4 z1;refine wln ?_;cases g;have b2:=z1.sD 3 [1,2];exact jn g2 ⟨b2,rfl⟩
     refine W.skip (nrm ?_);cases g;have c2:=A.sD 3 [1,2];exact jn f2 ⟨c2,rfl⟩
    refine W.skip (nrm ?_);cases g;exact jn k0 ⟨h0,rfl⟩
   rintro D S ⟨q3,u3,_,rfl,w3,rfl,y,rfl⟩;refine sr (va (v5) (vx (leN 106 0 [J d.1,I a.2,I d.2.1,I d.2.2.1,B d.2.2.2] (y.on 0 rfl)) (me (sl bw 106 [[J d.1,I a.2,I d.2.1,I d.2.2.1,B d.2.2.2]] ([(⟨d.1,a.2,d.2.1,d.2.2.1,d.2.2.2⟩:cf)]:List cf) y ⟨rfl,trivial⟩) ?_)));rintro d4 s3 x3 ⟨c4,s0,a1⟩;obtain ⟨t3,c1,y3,t0,b1⟩:=s0.frz 0 rfl a1;refine WL.gh c1 (bn x fun o3 d1 x=>me (ap bw (.agg #[J 0,I 0,I 0,I 0,B false]) 40 103 2 t0 l0.m b1 d1 xn) ?_);rintro R x0 z3 ⟨i1,z,e1⟩;refine va (R) (wln (W.region (va (I a.2) (va (Qo q 2) (vx (le1 2 u_3 (z.on 1 rfl)) (vv (I (w64 (a.2+d.2.1))) (WL.nil (bkn ?_))))))));cases x;refine ⟨_,rfl,?_⟩;have u0:=z.sD 3 [2];exact jn x0 ⟨R,i1,u0,rfl,e1⟩
  refine W.exit (thx ?_);cases H;exact ⟨_,rfl,rfl,jn X ⟨v5,o,d0,rfl,l0⟩⟩
 ·have f1:OA bw c0 (Y) [] []:=OA.nil (aN _);have v0:=O0.addHole (e:=es true bw (Y) 106 [] ([]:List cf)) rfl;exact jn c0 ⟨(Y),[],v0,rfl,f1⟩
 rintro _ D S ⟨rfl,y0,v3,_,rfl,a4,rfl,v7,u8,w0,rfl,g1⟩;refine bke (nrm (sr (vv (v7) (wln (W.ret ?_)))));cases H4;exact r1 (qq y0 ⟨v7,u8,w0,rfl,g1⟩)
def iY:Option (List (Int×Int)):=
 some ([(13,13)]:List (Int×Int))
theorem qG (d:Own c0 G F){r:List (Int×Int)}(H:iY=some r): Calls prog 286 #[] c0.w (aR c0 fun c v=>∃a b,Own c G (es true bf a 342 b r::F)/\v=a/\OA bf c a b r):=by
 unfold iY at H;refine en func286 rfl rfl (sr (va (Y) (wln (sr (va (III 13 13) (me (sl bf 342 [[I 13,I 13]] ([(13,13)]:List (Int×Int)) d ⟨rfl,trivial⟩) ?_))))));rintro v5 f i ⟨h,e,g⟩;refine va (v5) (wln (W.ret ?_));cases H;exact r1 (qq f ⟨v5,h,e,rfl,g⟩)
def iX:Option (List (Int×Int)):=
 some ([(10,10)]:List (Int×Int))
theorem qF (d:Own c0 G F){r:List (Int×Int)}(H:iX=some r): Calls prog 287 #[] c0.w (aR c0 fun c v=>∃a b,Own c G (es true bf a 342 b r::F)/\v=a/\OA bf c a b r):=by
 unfold iX at H;refine en func287 rfl rfl (sr (va (Y) (wln (sr (va (III 10 10) (me (sl bf 342 [[I 10,I 10]] ([(10,10)]:List (Int×Int)) d ⟨rfl,trivial⟩) ?_))))));rintro v5 f i ⟨h,e,g⟩;refine va (v5) (wln (W.ret ?_));cases H;exact r1 (qq f ⟨v5,h,e,rfl,g⟩)
def iW:Option (List (Int×Int)):=
 some ([(0,9),(11,12),(14,31),(127,159),(173,173),(1564,1564),(6158,6158),(8203,8203),(8206,8207),(8232,8238),(8288,8303),(65279,65279),(65520,65531),(917504,917535),(917632,917759),(918000,921599)]:List (Int×Int))
theorem qE (d:Own c0 G F){r:List (Int×Int)}(H:iW=some r): Calls prog 288 #[] c0.w (aR c0 fun c v=>∃a b,Own c G (es true bf a 342 b r::F)/\v=a/\OA bf c a b r):=by
 unfold iW at H;refine en func288 rfl rfl (sr (va (Y) (wln (sr (va (III 0 9) (va (III 11 12) (va (III 14 31) (va (III 127 159) (va (III 173 173) (va (III 1564 1564) (va (III 6158 6158) (va (III 8203 8203) (va (III 8206 8207) (va (III 8232 8238) (va (III 8288 8303) (va (III 65279 65279) (va (III 65520 65531) (va (III 917504 917535) (va (III 917632 917759) (va (III 918000 921599) (me (sl bf 342 [[I 0,I 9],[I 11,I 12],[I 14,I 31],[I 127,I 159],[I 173,I 173],[I 1564,I 1564],[I 6158,I 6158],[I 8203,I 8203],[I 8206,I 8207],[I 8232,I 8238],[I 8288,I 8303],[I 65279,I 65279],[I 65520,I 65531],[I 917504,I 917535],[I 917632,I 917759],[I 918000,I 921599]] ([(0,9),(11,12),(14,31),(127,159),(173,173),(1564,1564),(6158,6158),(8203,8203),(8206,8207),(8232,8238),(8288,8303),(65279,65279),(65520,65531),(917504,917535),(917632,917759),(918000,921599)]:List (Int×Int)) d ⟨rfl,rfl,rfl,rfl,rfl,rfl,rfl,rfl,rfl,rfl,rfl,rfl,rfl,rfl,rfl,rfl,trivial⟩) ?_)))))))))))))))))))));rintro v5 f i ⟨h,e,g⟩;refine va (v5) (wln (W.ret ?_));cases H;exact r1 (qq f ⟨v5,h,e,rfl,g⟩)
def ge:List (Int×Int):=[(768,879),(1155,1161),(1425,1469),(1471,1471),(1473,1474),(1476,1477),(1479,1479),(1552,1562),(1611,1631),(1648,1648),(1750,1756),(1759,1764),(1767,1768),(1770,1773),(1809,1809),(1840,1866),(1958,1968),(2027,2035),(2070,2073),(2075,2083),(2259,2273),(2275,2306),(2362,2362),(2364,2364),(2369,2376),(2381,2381),(2385,2391),(2402,2403),(2433,2433),(2492,2492),(2494,2494),(2497,2500),(2509,2509),(2519,2519),(2530,2531),(2561,2562),(2620,2620),(2625,2626),(2631,2632),(2635,2637),(2748,2748),(2753,2757),(2765,2765),(2876,2876),(2878,2879),(2881,2884),(2893,2893),(2902,2903),(3132,3132),(3134,3136),(3142,3144),(3146,3149),(3276,3277),(3390,3390),(3393,3396),(3405,3405),(3633,3633),(3636,3642),(3655,3662),(3761,3761),(3764,3772),(3864,3865),(3953,3966),(4957,4959),(6832,6862),(7616,7679),(8204,8204),(8400,8432),(12330,12335),(12441,12442),(42607,42610),(64286,64286),(65024,65039),(65056,65071),(127995,127999),(917536,917631),(917760,917999)]
def iV:Option (List (Int×Int)):=
 some ge
theorem qD (d:Own c0 G F){r:List (Int×Int)}(H:iV=some r): Calls prog 289 #[] c0.w (aR c0 fun c v=>∃a b,Own c G (es true bf a 342 b r::F)/\v=a/\OA bf c a b r):=by
 unfold iV at H;refine en func289 rfl rfl (sr (va (Y) (wln (sr (va (III 768 879) (va (III 1155 1161) (va (III 1425 1469) (va (III 1471 1471) (va (III 1473 1474) (va (III 1476 1477) (va (III 1479 1479) (va (III 1552 1562) (va (III 1611 1631) (va (III 1648 1648) (va (III 1750 1756) (va (III 1759 1764) (va (III 1767 1768) (va (III 1770 1773) (va (III 1809 1809) (va (III 1840 1866) (va (III 1958 1968) (va (III 2027 2035) (va (III 2070 2073) (va (III 2075 2083) (va (III 2259 2273) (va (III 2275 2306) (va (III 2362 2362) (va (III 2364 2364) (va (III 2369 2376) (va (III 2381 2381) (va (III 2385 2391) (va (III 2402 2403) (va (III 2433 2433) (va (III 2492 2492) (va (III 2494 2494) (va (III 2497 2500) (va (III 2509 2509) (va (III 2519 2519) (va (III 2530 2531) (va (III 2561 2562) (va (III 2620 2620) (va (III 2625 2626) (va (III 2631 2632) (va (III 2635 2637) (va (III 2748 2748) (va (III 2753 2757) (va (III 2765 2765) (va (III 2876 2876) (va (III 2878 2879) (va (III 2881 2884) (va (III 2893 2893) (va (III 2902 2903) (va (III 3132 3132) (va (III 3134 3136) (va (III 3142 3144) (va (III 3146 3149) (va (III 3276 3277) (va (III 3390 3390) (va (III 3393 3396) (va (III 3405 3405) (va (III 3633 3633) (va (III 3636 3642) (va (III 3655 3662) (va (III 3761 3761) (va (III 3764 3772) (va (III 3864 3865) (va (III 3953 3966) (va (III 4957 4959) (va (III 6832 6862) (va (III 7616 7679) (va (III 8204 8204) (va (III 8400 8432) (va (III 12330 12335) (va (III 12441 12442) (va (III 42607 42610) (va (III 64286 64286) (va (III 65024 65039) (va (III 65056 65071) (va (III 127995 127999) (va (III 917536 917631) (va (III 917760 917999) (me (Own.sl (R:=bf) (E:=342) (ls:=ge.map (fun x=>[I x.1,I x.2])) (vs:=(ge.map (fun x=>[I x.1,I x.2])).flatten) (xs:=ge) true d (aN _) rfl (oP.map _ (fun _=>rfl) _) (by kernel_rfl) (by kernel_rfl)) ?_))))))))))))))))))))))))))))))))))))))))))))))))))))))))))))))))))))))))))))))))));rintro v5 f i ⟨h,e,g⟩;refine va (v5) (wln (W.ret ?_));cases H;exact r1 (qq f ⟨v5,h,e,rfl,g⟩)
def iU:Option (List (Int×Int)):=
 some ([(8205,8205)]:List (Int×Int))
theorem qC (d:Own c0 G F){r:List (Int×Int)}(H:iU=some r): Calls prog 290 #[] c0.w (aR c0 fun c v=>∃a b,Own c G (es true bf a 342 b r::F)/\v=a/\OA bf c a b r):=by
 unfold iU at H;refine en func290 rfl rfl (sr (va (Y) (wln (sr (va (III 8205 8205) (me (sl bf 342 [[I 8205,I 8205]] ([(8205,8205)]:List (Int×Int)) d ⟨rfl,trivial⟩) ?_))))));rintro v5 f i ⟨h,e,g⟩;refine va (v5) (wln (W.ret ?_));cases H;exact r1 (qq f ⟨v5,h,e,rfl,g⟩)
def iT:Option (List (Int×Int)):=
 some ([(127462,127487)]:List (Int×Int))
theorem qB (d:Own c0 G F){r:List (Int×Int)}(H:iT=some r): Calls prog 291 #[] c0.w (aR c0 fun c v=>∃a b,Own c G (es true bf a 342 b r::F)/\v=a/\OA bf c a b r):=by
 unfold iT at H;refine en func291 rfl rfl (sr (va (Y) (wln (sr (va (III 127462 127487) (me (sl bf 342 [[I 127462,I 127487]] ([(127462,127487)]:List (Int×Int)) d ⟨rfl,trivial⟩) ?_))))));rintro v5 f i ⟨h,e,g⟩;refine va (v5) (wln (W.ret ?_));cases H;exact r1 (qq f ⟨v5,h,e,rfl,g⟩)
def iS:Option (List (Int×Int)):=
 some ([(1536,1541),(1757,1757),(1807,1807),(2192,2193),(2274,2274),(3406,3406),(69821,69821),(69837,69837)]:List (Int×Int))
theorem qA (d:Own c0 G F){r:List (Int×Int)}(H:iS=some r): Calls prog 292 #[] c0.w (aR c0 fun c v=>∃a b,Own c G (es true bf a 342 b r::F)/\v=a/\OA bf c a b r):=by
 unfold iS at H;refine en func292 rfl rfl (sr (va (Y) (wln (sr (va (III 1536 1541) (va (III 1757 1757) (va (III 1807 1807) (va (III 2192 2193) (va (III 2274 2274) (va (III 3406 3406) (va (III 69821 69821) (va (III 69837 69837) (me (sl bf 342 [[I 1536,I 1541],[I 1757,I 1757],[I 1807,I 1807],[I 2192,I 2193],[I 2274,I 2274],[I 3406,I 3406],[I 69821,I 69821],[I 69837,I 69837]] ([(1536,1541),(1757,1757),(1807,1807),(2192,2193),(2274,2274),(3406,3406),(69821,69821),(69837,69837)]:List (Int×Int)) d ⟨rfl,rfl,rfl,rfl,rfl,rfl,rfl,rfl,trivial⟩) ?_)))))))))))));rintro v5 f i ⟨h,e,g⟩;refine va (v5) (wln (W.ret ?_));cases H;exact r1 (qq f ⟨v5,h,e,rfl,g⟩)
def gb:List (Int×Int):=[(2307,2307),(2363,2363),(2366,2368),(2377,2380),(2382,2383),(2434,2435),(2495,2496),(2503,2504),(2507,2508),(2563,2563),(2622,2624),(2691,2691),(2750,2752),(2761,2761),(2818,2819),(2880,2880),(2887,2888),(3073,3075),(3137,3140),(3330,3331),(3391,3392),(3398,3400),(3635,3635),(3763,3763),(3902,3903),(4155,4156)]
def iR:Option (List (Int×Int)):=
 some gb
theorem qz (d:Own c0 G F){r:List (Int×Int)}(H:iR=some r): Calls prog 293 #[] c0.w (aR c0 fun c v=>∃a b,Own c G (es true bf a 342 b r::F)/\v=a/\OA bf c a b r):=by
 unfold iR at H;refine en func293 rfl rfl (sr (va (Y) (wln (sr (va (III 2307 2307) (va (III 2363 2363) (va (III 2366 2368) (va (III 2377 2380) (va (III 2382 2383) (va (III 2434 2435) (va (III 2495 2496) (va (III 2503 2504) (va (III 2507 2508) (va (III 2563 2563) (va (III 2622 2624) (va (III 2691 2691) (va (III 2750 2752) (va (III 2761 2761) (va (III 2818 2819) (va (III 2880 2880) (va (III 2887 2888) (va (III 3073 3075) (va (III 3137 3140) (va (III 3330 3331) (va (III 3391 3392) (va (III 3398 3400) (va (III 3635 3635) (va (III 3763 3763) (va (III 3902 3903) (va (III 4155 4156) (me (Own.sl (R:=bf) (E:=342) (ls:=gb.map (fun x=>[I x.1,I x.2])) (vs:=(gb.map (fun x=>[I x.1,I x.2])).flatten) (xs:=gb) true d (aN _) rfl (oP.map _ (fun _=>rfl) _) (by kernel_rfl) (by kernel_rfl)) ?_)))))))))))))))))))))))))))))));rintro v5 f i ⟨h,e,g⟩;refine va (v5) (wln (W.ret ?_));cases H;exact r1 (qq f ⟨v5,h,e,rfl,g⟩)
def dX (p0:List (Int×Int)) (p1:Int):Option (Bool):=
 (cL (σ:=Int) (τ:=Bool ⊕ Unit) (((p0.length:Int)-0).toNat+1) (fun b=>
 if (decide (b<(p0.length:Int)))=true then
 (idx p0 b).bind fun d=>
 (bT (decide ((w64 p1)>=d.1)) ((idx p0 b).bind fun e=>
 some (decide ((w64 p1)<=e.2)))).bind fun c=>
 if c=true then
 some (.inr (.inl true))
 else
 some (.inl ((w64 (b+1))))
 else
 some (.inr (.inr ()))) (0)).bind fun a=>
 match a with
 | .inl a=>
 some a
 | .inr a=>
 some false
theorem jW (O0:Own c0 G F) (A:List (Int×Int)) (b:Int){r:Bool}(g:Sl bf c0 v1 A) (H:dX A b=some r): Calls prog 294 #[v1,J b] c0.w (aR c0 fun c v=>Own c G (F)/\v=B r):=by
 unfold dX at H;refine en func294 rfl rfl (sr (va (B false) (wln (W.seq (sr (va (I 0) (wln (W.block (bn H fun h h3 u=>lp h3 (fun a=>Jn c0 fun c l=>Own c G (F)/\l= [(0,v1),(1,J b),(5,I a)]) (fun t=>match t with|.inl E=>(fun g0 ex e w=>ex= .ret/\(Jn c0 fun c l=>Own c G (F)/\l= [(4,B g0)]) e w) E|.inr E=>(fun l0 ex e w=>ex= .exit 0/\(Jn c0 fun c l=>Own c G (F)/\l= []) e w) E) ?_ ?_ ?_)))))))))
 ·clear u h3;intro a v0 S h0 H;revert S h0;rintro z D ⟨k,g6,_,rfl,l5,rfl,x,rfl⟩;refine W.seq (sr (va (I a) (va (v1) (vx (ln 3 xm g.m) (va (B (decide (a<(A.length:Int)))) (wln (cn H (fun U H=>?_) (fun U H=>?_))))))))
  ·refine W.skip (nrm (W.seq (W.block (W.seq (bn H fun i p H=>bn H fun y q H=>W.join (Jn k fun c l=>Own c G (F)/\l= [(0,v1),(1,J b),(5,I a),(29,B y)]) ?_ ?_)))))
   ·clear H;refine W.region (va (J b) (va (I (w64 b)) (va (v1) (va (I a) ?_))));obtain ⟨j0,X,e0⟩:=Sl.at (g.mono l5) (aU p);obtain rfl:=X;refine vx (ix xm g.m p) (va (Qo (sb v1) (so v1+a.toNat*2)) (vx (l1 u_3 (e0 0 _ rfl)) (va (B (decide ((w64 b)>=i.1))) ?_)));rcases bo (decide ((w64 b)>=i.1)) with d|d
    ·have f:=anT d q;refine vb d (wa (J b) (wa (I (w64 b)) (wa (v1) (wa (I a) (wn (bn f fun j s f=>?_))))));obtain ⟨k0,Z,f0⟩:=Sl.at (g.mono l5) (aU s);obtain rfl:=Z;refine vx (ix xm g.m s) (wa (Qo (sb v1) (so v1+a.toNat*2+1)) (wn (vx (l1 u_3 (f0 1 _ rfl)) (wa (B (decide ((w64 b)<=j.2))) ?_))));cases f;exact va (B (decide ((w64 b)<=j.2))) (wln (jn k ⟨x,rfl⟩))
    obtain rfl:=anF d q;exact vb d (pz (pz (pz (pz (va (B false) (wln (jn k ⟨x,rfl⟩)))))))
   rintro z D ⟨o,m0,_,rfl,s0,rfl,n,rfl⟩;refine nrm (cn H (fun a0 H=>?_) (fun a0 H=>?_))
   ·refine sr (va (B true) (wln (W.ret (bkr (thr ?_)))));cases H;exact ⟨_,rfl,⟨rfl,jn o ⟨n,rfl⟩⟩⟩
   refine W.skip (bkn (nrm (W.region (va (I a) (vv (I (w64 (a+1))) (WL.nil ?_))))));cases H;exact ⟨_,rfl,jn o ⟨n,rfl⟩⟩
  refine W.exit (thx ?_);cases H;exact ⟨_,rfl,rfl,jn k ⟨x,rfl⟩⟩
 ·exact jn c0 ⟨O0,rfl⟩
 rcases h with h|h
 ·intro T; revert T;rintro _ z D ⟨rfl,P,o0,_,rfl,t0,rfl,M,rfl⟩;refine bkr (thr ?_);cases u;exact r1 (qq P ⟨M,rfl⟩)
 rintro _ z D ⟨rfl,R,q0,_,rfl,u0,rfl,N,rfl⟩;refine bke (nrm (sr (va (B false) (wln (W.ret ?_)))));cases u;exact r1 (qq R ⟨N,rfl⟩)
def dJ (p0:Int):Option (Int×Int×Int):=
 (orE (decide ((w64 p0)<44032)) (some (decide ((w64 p0)>55203)))).bind fun e=>
 if e=true then
 some (0,0,0)
 else
 (cL (σ:=Int×Int) (τ:=(Int×Int×Int) ⊕ Unit) (((4370:Int)-4352).toNat+2) (fun d=>
 if (decide (d.2<=4370))=true then
 (cL (σ:=Int×Int) (τ:=(Int×Int×Int) ⊕ Int) (((4469:Int)-4449).toNat+2) (fun a=>
 if (decide (a.2<=4469))=true then
 if (decide ((w64 p0)<(w64 (a.1+28))))=true then
 (if ((w64 ((w64 (4519+(w64 p0)))-a.1))==4519)=true then
 some (0)
 else
 some ((w64 ((w64 (4519+(w64 p0)))-a.1)))).bind fun f=>
 some (.inr (.inl (d.2,a.2,f)))
 else
 some (.inl ((w64 (a.1+28)),(w64 (a.2+1))))
 else
 some (.inr (.inr (a.1)))) (d.1,4449)).bind fun b=>
 match b with
 | .inl b=>
 some (.inr (.inl b))
 | .inr b=>
 some (.inl (b,(w64 (d.2+1))))
 else
 some (.inr (.inr ()))) (44032,4352)).bind fun c=>
 match c with
 | .inl c=>
 some c
 | .inr c=>
 some (0,0,0)
theorem qH (T:Own c0 G F) (d:Int){r:Int×Int×Int}(H:dJ d=some r): Calls prog 315 #[J d] c0.w (aR c0 fun c v=>Own c G (F)/\v= .tuple #[I r.1,I r.2.1,I r.2.2]):=by
 unfold dJ at H;refine en func315 rfl rfl (sr (vv (I 0) (va (I 0) (wln (sr (va (J d) (vv (I (w64 d)) (wln (W.seq (W.seq (bn H fun R h1 H=>W.join (Jn c0 fun c l=>Own c G (F)/\l= [(5,I (w64 d)),(17,B R)]) ?_ ?_)))))))))))
 ·clear H;refine W.region (va (I (w64 d)) (va (B (decide ((w64 d)<44032))) ?_));rcases bo (decide ((w64 d)<44032)) with A|A
  ·obtain rfl:=orT A h1;exact vb A (pz (va (B true) (wln (jn c0 ⟨T,rfl⟩))))
  have H3:=orF A h1;refine vb A (wa (I (w64 d)) (wa (B (decide ((w64 d)>55203))) ?_));cases H3;exact va (B (decide ((w64 d)>55203))) (wln (jn c0 ⟨T,rfl⟩))
 rintro j n ⟨x,g5,_,rfl,l4,rfl,O6,rfl⟩;refine nrm (cn H (fun k0 H=>?_) (fun k0 H=>?_))
 ·refine sr (vv (I 0) (va (I 0) (wln (W.ret (thr ?_)))));cases H;exact r3 (qq x ⟨O6,rfl⟩)
 refine W.skip (nrm (sr (va (I 44032) (wln (W.seq (sr (va (I 4352) (wln (W.block (bn H fun k N s=>lp N (fun b=>Jn x fun c l=>Own c G (F)/\l= [(5,I (w64 d)),(6,I b.1),(7,I b.2)]) (fun t=>match t with|.inl o=>(fun f ex e w=>ex= .ret/\(Jn x fun c l=>Own c G (F)/\l= [(2,I f.1),(3,I f.2.1),(4,I f.2.2)]) e w) o|.inr o=>(fun t0 ex e w=>ex= .exit 0/\(Jn x fun c l=>Own c G (F)/\l= []) e w) o) ?_ ?_ ?_))))))))))
 ·clear s N;intro b s0 y D H;revert y D;rintro j n ⟨h,v0,_,rfl,c1,rfl,M,rfl⟩;refine W.seq (sr (va (I b.2) (va (B (decide (b.2<=4370))) (wln (cn H (fun l0 H=>?_) (fun l0 H=>?_))))))
  ·refine W.skip (nrm (W.seq (W.block (sr (va (I 4449) (wln (W.block (bn H fun m P u=>lp P (fun a=>Jn h fun c l=>Own c G (F)/\l= [(5,I (w64 d)),(6,I a.1),(7,I b.2),(8,I a.2)]) (fun t=>match t with|.inl o=>(fun f ex e w=>ex= .ret/\(Jn h fun c l=>Own c G (F)/\l= [(2,I f.1),(3,I f.2.1),(4,I f.2.2)]) e w) o|.inr o=>(fun E ex e w=>ex= .exit 2/\(Jn h fun c l=>Own c G (F)/\l= [(5,I (w64 d)),(6,I E),(7,I b.2)]) e w) o) ?_ ?_ ?_))))))))
   ·clear u P;intro a s0 y D H;revert y D;rintro j n ⟨i,w0,_,rfl,d1,rfl,q,rfl⟩;refine W.seq (sr (va (I a.2) (va (B (decide (a.2<=4469))) (wln (cn H (fun m0 H=>?_) (fun m0 H=>?_))))))
    ·refine W.skip (nrm (W.seq (W.block (W.seq (sr (va (I (w64 d)) (va (I a.1) (va (I (w64 (a.1+28))) (va (B (decide ((w64 d)<(w64 (a.1+28))))) (wln (cn H (fun o0 H=>?_) (fun o0 H=>?_))))))))))))
     ·refine sr (va (I (w64 d)) (va (I (w64 (4519+(w64 d)))) (va (I a.1) (vv (I (w64 ((w64 (4519+(w64 d)))-a.1))) (wln (bn H fun p g S=>W.seqJ (Jn i fun c l=>Own c G (F)/\l= [(7,I b.2),(8,I a.2),(9,I p)]) ?_ ?_))))))
      ·refine sr (va (I (w64 ((w64 (4519+(w64 d)))-a.1))) (va (B ((w64 ((w64 (4519+(w64 d)))-a.1))==4519)) (wln (cn g (fun q0 g=>?_) (fun q0 g=>?_)))))
       ·refine W.region (va (I 0) (wln ?_));cases g;exact jn i ⟨q,rfl⟩
       refine W.skip (nrm ?_);cases g;exact jn i ⟨q,rfl⟩
      rintro j n ⟨e0,x0,_,rfl,e1,rfl,U,rfl⟩;refine sr (va (I b.2) (va (I a.2) (va (I p) (va (I b.2) (va (I a.2) (va (I p) (wln (W.ret (thr (bkr (thr ?_)))))))))));cases S;exact ⟨_,rfl,⟨rfl,jn e0 ⟨U,rfl⟩⟩⟩
     refine W.skip (nrm (W.region (va (I a.1) (vv (I (w64 (a.1+28))) (WL.nil (bkn (nrm (W.region (va (I a.2) (vv (I (w64 (a.2+1))) (WL.nil ?_)))))))))));cases H;exact ⟨_,rfl,jn i ⟨q,rfl⟩⟩
    refine W.exit (thx ?_);cases H;exact ⟨_,rfl,rfl,jn i ⟨q,rfl⟩⟩
   ·exact jn h ⟨M,rfl⟩
   rcases m with m|m
   ·intro z; revert z;rintro _ j n ⟨rfl,f0,y0,_,rfl,f1,rfl,X,rfl⟩;refine bkr (bkr (thr ?_));cases u;exact ⟨_,rfl,⟨rfl,jn f0 ⟨X,rfl⟩⟩⟩
   rintro _ j n ⟨rfl,g0,z0,_,rfl,g1,rfl,Z,rfl⟩;refine bke (bkn (nrm (W.region (va (I b.2) (vv (I (w64 (b.2+1))) (WL.nil ?_))))));cases u;exact ⟨_,rfl,jn g0 ⟨Z,rfl⟩⟩
  refine W.exit (thx ?_);cases H;exact ⟨_,rfl,rfl,jn h ⟨M,rfl⟩⟩
 ·exact jn x ⟨O6,rfl⟩
 rcases k with k|k
 ·intro z; revert z;rintro _ j n ⟨rfl,h0,a1,_,rfl,i1,rfl,a0,rfl⟩;refine bkr (thr ?_);cases s;exact r3 (qq h0 ⟨a0,rfl⟩)
 rintro _ j n ⟨rfl,i0,b1,_,rfl,j1,rfl,b0,rfl⟩;refine bke (nrm (sr (vv (I 0) (va (I 0) (wln (W.ret ?_))))));cases s;exact r3 (qq i0 ⟨b0,rfl⟩)
def eE (p0:Int):Option (Int):=
 (bT (decide ((w64 p0)>=4352)) (some (decide ((w64 p0)<=4447)))).bind fun j=>
 (orE j ((bT (decide ((w64 p0)>=43360)) (some (decide ((w64 p0)<=43388)))).bind fun c=>
 some c)).bind fun b=>
 if b=true then
 some 9
 else
 (bT (decide ((w64 p0)>=4448)) (some (decide ((w64 p0)<=4519)))).bind fun d=>
 (orE d ((bT (decide ((w64 p0)>=55216)) (some (decide ((w64 p0)<=55238)))).bind fun f=>
 some f)).bind fun e=>
 if e=true then
 some 10
 else
 (bT (decide ((w64 p0)>=4520)) (some (decide ((w64 p0)<=4607)))).bind fun g=>
 (orE g ((bT (decide ((w64 p0)>=55243)) (some (decide ((w64 p0)<=55291)))).bind fun i=>
 some i)).bind fun h=>
 if h=true then
 some 11
 else
 (dJ p0).bind fun a=>
 if (a.1==0)=true then
 some 0
 else
 if (a.2.2==0)=true then
 some 12
 else
 some 13
theorem qI (z:Own c0 G F) (a:Int){r:Int}(H:eE a=some r): Calls prog 295 #[J a] c0.w (aR c0 fun c v=>Own c G (F)/\v=I r):=by
 unfold eE at H;refine en func295 rfl rfl (sr (va (I 0) (wln (sr (va (J a) (vv (I (w64 a)) (wln (W.seq (W.seq (bn H fun s1 h1 H=>bn H fun i0 h2 H=>W.join (Jn c0 fun c l=>Own c G (F)/\l= [(0,J a),(3,I (w64 a)),(22,B i0)]) ?_ ?_))))))))))
 ·clear H;refine W.region (va (I (w64 a)) (va (B (decide ((w64 a)>=4352))) ?_));rcases bo (decide ((w64 a)>=4352)) with M|M
  ·have H4:=anT M h1;refine vb M (wa (I (w64 a)) (wa (B (decide ((w64 a)<=4447))) ?_));cases H4;refine va (B (decide ((w64 a)<=4447))) ?_;rcases bo (decide ((w64 a)<=4447)) with P|P
   ·obtain rfl:=orT P h2;exact vb P (pz (pz (pz (va (B true) (wln (jn c0 ⟨z,rfl⟩))))))
   have S:=orF P h2;refine vb P (wa (I (w64 a)) (wa (B (decide ((w64 a)>=43360))) (wn (bn S fun j0 h7 S=>?_))));rcases bo (decide ((w64 a)>=43360)) with R|R
   ·have H9:=anT R h7;refine vb R (wa (I (w64 a)) (wa (B (decide ((w64 a)<=43388))) (wn ?_)));cases H9;refine va (B (decide ((w64 a)<=43388))) ?_;cases S;exact va (B (decide ((w64 a)<=43388))) (wln (jn c0 ⟨z,rfl⟩))
   obtain rfl:=anF R h7;refine vb R (pz (wa (B false) ?_));cases S;exact va (B false) (wln (jn c0 ⟨z,rfl⟩))
  obtain rfl:=anF M h1;refine vb M (pz (va (B false) ?_));have U:false=false:=rfl;have s:=orF U h2;refine vb U (wa (I (w64 a)) (wa (B (decide ((w64 a)>=43360))) (wn (bn s fun j0 X s=>?_))));rcases bo (decide ((w64 a)>=43360)) with h|h
  ·have s0:=anT h X;refine vb h (wa (I (w64 a)) (wa (B (decide ((w64 a)<=43388))) (wn ?_)));cases s0;refine va (B (decide ((w64 a)<=43388))) ?_;cases s;exact va (B (decide ((w64 a)<=43388))) (wln (jn c0 ⟨z,rfl⟩))
  obtain rfl:=anF h X;refine vb h (pz (wa (B false) ?_));cases s;exact va (B false) (wln (jn c0 ⟨z,rfl⟩))
 rintro e_ w_ ⟨d,t1,_,rfl,w1,rfl,f,rfl⟩;refine nrm (cn H (fun c1 H=>?_) (fun c1 H=>?_))
 ·refine sr (va (I 9) (wln (W.ret (thr ?_))));cases H;exact r1 (qq d ⟨f,rfl⟩)
 refine W.skip (nrm (W.seq (W.seq (bn H fun p1 Z H=>bn H fun k0 E H=>W.join (Jn d fun c l=>Own c G (F)/\l= [(0,J a),(3,I (w64 a)),(36,B k0)]) ?_ ?_))))
 ·clear H;refine W.region (va (I (w64 a)) (va (B (decide ((w64 a)>=4448))) ?_));rcases bo (decide ((w64 a)>=4448)) with i|i
  ·have t0:=anT i Z;refine vb i (wa (I (w64 a)) (wa (B (decide ((w64 a)<=4519))) ?_));cases t0;refine va (B (decide ((w64 a)<=4519))) ?_;rcases bo (decide ((w64 a)<=4519)) with j|j
   ·obtain rfl:=orT j E;exact vb j (pz (pz (pz (va (B true) (wln (jn d ⟨f,rfl⟩))))))
   have t:=orF j E;refine vb j (wa (I (w64 a)) (wa (B (decide ((w64 a)>=55216))) (wn (bn t fun l0 a0 t=>?_))));rcases bo (decide ((w64 a)>=55216)) with k|k
   ·have u0:=anT k a0;refine vb k (wa (I (w64 a)) (wa (B (decide ((w64 a)<=55238))) (wn ?_)));cases u0;refine va (B (decide ((w64 a)<=55238))) ?_;cases t;exact va (B (decide ((w64 a)<=55238))) (wln (jn d ⟨f,rfl⟩))
   obtain rfl:=anF k a0;refine vb k (pz (wa (B false) ?_));cases t;exact va (B false) (wln (jn d ⟨f,rfl⟩))
  obtain rfl:=anF i Z;refine vb i (pz (va (B false) ?_));have b0:false=false:=rfl;have u:=orF b0 E;refine vb b0 (wa (I (w64 a)) (wa (B (decide ((w64 a)>=55216))) (wn (bn u fun l0 d0 u=>?_))));rcases bo (decide ((w64 a)>=55216)) with m|m
  ·have v0:=anT m d0;refine vb m (wa (I (w64 a)) (wa (B (decide ((w64 a)<=55238))) (wn ?_)));cases v0;refine va (B (decide ((w64 a)<=55238))) ?_;cases u;exact va (B (decide ((w64 a)<=55238))) (wln (jn d ⟨f,rfl⟩))
  obtain rfl:=anF m d0;refine vb m (pz (wa (B false) ?_));cases u;exact va (B false) (wln (jn d ⟨f,rfl⟩))
 rintro e_ w_ ⟨e,u1,_,rfl,x1,rfl,g,rfl⟩;refine nrm (cn H (fun d1 H=>?_) (fun d1 H=>?_))
 ·refine sr (va (I 10) (wln (W.ret (thr ?_))));cases H;exact r1 (qq e ⟨g,rfl⟩)
 refine W.skip (nrm (W.seq (W.seq (bn H fun q1 e0 H=>bn H fun m0 N H=>W.join (Jn e fun c l=>Own c G (F)/\l= [(0,J a),(50,B m0)]) ?_ ?_))))
 ·clear H;refine W.region (va (I (w64 a)) (va (B (decide ((w64 a)>=4520))) ?_));rcases bo (decide ((w64 a)>=4520)) with n|n
  ·have w0:=anT n e0;refine vb n (wa (I (w64 a)) (wa (B (decide ((w64 a)<=4607))) ?_));cases w0;refine va (B (decide ((w64 a)<=4607))) ?_;rcases bo (decide ((w64 a)<=4607)) with o|o
   ·obtain rfl:=orT o N;exact vb o (pz (pz (pz (va (B true) (wln (jn e ⟨g,rfl⟩))))))
   have x:=orF o N;refine vb o (wa (I (w64 a)) (wa (B (decide ((w64 a)>=55243))) (wn (bn x fun o0 f0 x=>?_))));rcases bo (decide ((w64 a)>=55243)) with p|p
   ·have x0:=anT p f0;refine vb p (wa (I (w64 a)) (wa (B (decide ((w64 a)<=55291))) (wn ?_)));cases x0;refine va (B (decide ((w64 a)<=55291))) ?_;cases x;exact va (B (decide ((w64 a)<=55291))) (wln (jn e ⟨g,rfl⟩))
   obtain rfl:=anF p f0;refine vb p (pz (wa (B false) ?_));cases x;exact va (B false) (wln (jn e ⟨g,rfl⟩))
  obtain rfl:=anF n e0;refine vb n (pz (va (B false) ?_));have g0:false=false:=rfl;have y:=orF g0 N;refine vb g0 (wa (I (w64 a)) (wa (B (decide ((w64 a)>=55243))) (wn (bn y fun o0 h0 y=>?_))));rcases bo (decide ((w64 a)>=55243)) with q|q
  ·have y0:=anT q h0;refine vb q (wa (I (w64 a)) (wa (B (decide ((w64 a)<=55291))) (wn ?_)));cases y0;refine va (B (decide ((w64 a)<=55291))) ?_;cases y;exact va (B (decide ((w64 a)<=55291))) (wln (jn e ⟨g,rfl⟩))
  obtain rfl:=anF q h0;refine vb q (pz (wa (B false) ?_));cases y;exact va (B false) (wln (jn e ⟨g,rfl⟩))
 rintro e_ w_ ⟨z0,v1,_,rfl,y1,rfl,T,rfl⟩;refine nrm (cn H (fun e1 H=>?_) (fun e1 H=>?_))
 ·refine sr (va (I 11) (wln (W.ret (thr ?_))));cases H;exact r1 (qq z0 ⟨T,rfl⟩)
 refine W.skip (nrm (sr (va (J a) (bn H fun b f1 H=>cl (qH T a f1) ?_))));rintro b2 D z1 ⟨A,rfl⟩;refine va (.tuple #[I b.1,I b.2.1,I b.2.2]) (va (I b.1) (va (I b.2.1) (va (I b.2.2) (va (I b.1) (va (I b.2.1) (va (I b.2.2) (wln (W.seq (sr (va (I b.1) (va (B (b.1==0)) (wln (cn H (fun i1 H=>?_) (fun i1 H=>?_))))))))))))))
 ·refine sr (va (I 0) (wln (W.ret (thr ?_))));cases H;exact r1 (qq D ⟨A,rfl⟩)
 refine W.skip (nrm (W.seq (sr (va (I b.2.2) (va (B (b.2.2==0)) (wln (cn H (fun j1 H=>?_) (fun j1 H=>?_))))))))
 ·refine sr (va (I 12) (wln (W.ret (thr ?_))));cases H;exact r1 (qq D ⟨A,rfl⟩)
 refine W.skip (nrm (sr (va (I 13) (wln (W.ret ?_)))));cases H;exact r1 (qq D ⟨A,rfl⟩)
def iD (p0:Int):Option (Int):=
 (iY).bind fun d=>
 (iX).bind fun e=>
 (iW).bind fun f=>
 (iV).bind fun g=>
 (iU).bind fun h=>
 (iT).bind fun i=>
 (iS).bind fun j=>
 (iR).bind fun c=>
 (cL (σ:=Int) (τ:=Int ⊕ Unit) (((([d,e,f,g,h,i,j,c]:List (List (Int×Int))).length:Int)-0).toNat+1) (fun b=>
 if (decide (b<(([d,e,f,g,h,i,j,c]:List (List (Int×Int))).length:Int)))=true then
 (idx ([d,e,f,g,h,i,j,c]:List (List (Int×Int))) b).bind fun k=>
 (dX k p0).bind fun l=>
 if l=true then
 some (.inr (.inl (w64 (b+1))))
 else
 some (.inl ((w64 (b+1))))
 else
 some (.inr (.inr ()))) (0)).bind fun a=>
 match a with
 | .inl a=>
 some a
 | .inr a=>
 (eE p0).bind fun m=>
 some m
theorem tl (O0:Own c0 G F) (p0:Int){r:Int}(H:iD p0=some r): Calls prog 255 #[J p0] c0.w (aR c0 fun c v=>Own c G (F)/\v=I r):=by
 unfold iD at H;refine en func255 rfl rfl (sr (va (I 0) (wln (sr (bn H fun x h1 H=>cl (qG O0 h1) ?_)))));rintro v2 c9 l9 ⟨_,u3,O6,rfl,h4⟩;refine bn H fun y x3 H=>cl (qF O6 x3) ?_;rintro v12 q5 q4 ⟨_,u1,g3,rfl,y3⟩;refine bn H fun z z3 H=>cl (qE g3 z3) ?_;rintro v22 r5 t1 ⟨_,v1,h3,rfl,a4⟩;refine bn H fun A b4 H=>cl (qD h3 b4) ?_;rintro v32 s5 j1 ⟨_,w1,i3,rfl,c4⟩;refine bn H fun D d4 H=>cl (qC i3 d4) ?_;rintro v42 t5 b1 ⟨_,x1,j3,rfl,e4⟩;refine bn H fun E f4 H=>cl (qB j3 f4) ?_;rintro v52 u5 w0 ⟨_,y1,k3,rfl,g4⟩;refine bn H fun M i4 H=>cl (qA k3 i4) ?_;rintro c6 v5 u ⟨_,z1,l3,rfl,j4⟩;refine bn H fun h k4 H=>cl (qz l3 k4) ?_;rintro d6 w5 k ⟨_,b2,m3,rfl,l4⟩;obtain ⟨x5,m4,n,n3,m1⟩:=m3.frz 7 rfl (h4.mono (q4.trans (t1.trans (j1.trans (b1.trans (w0.trans (u.trans k)))))));refine WL.gh m4 ?_;obtain ⟨y5,n4,o,o3,n1⟩:=n3.frz 6 rfl (y3.mono (t1.trans (j1.trans (b1.trans (w0.trans (u.trans (k.trans n)))))));refine WL.gh n4 ?_;obtain ⟨z5,o4,p,p3,p1⟩:=o3.frz 5 rfl (a4.mono (j1.trans (b1.trans (w0.trans (u.trans (k.trans (n.trans o)))))));refine WL.gh o4 ?_;obtain ⟨a6,p4,q,q3,q1⟩:=p3.frz 4 rfl (c4.mono (b1.trans (w0.trans (u.trans (k.trans (n.trans (o.trans p)))))));refine WL.gh p4 ?_;obtain ⟨b6,o2,s,s3,s1⟩:=q3.frz 3 rfl (e4.mono (w0.trans (u.trans (k.trans (n.trans (o.trans (p.trans q)))))));refine WL.gh o2 ?_;obtain ⟨z4,p2,b,c2,e1⟩:=s3.frz 2 rfl (g4.mono (u.trans (k.trans (n.trans (o.trans (p.trans (q.trans s)))))));refine WL.gh p2 ?_;obtain ⟨a5,q2,d,d2,f1⟩:=c2.frz 1 rfl (j4.mono (k.trans (n.trans (o.trans (p.trans (q.trans (s.trans b)))))));refine WL.gh q2 ?_;obtain ⟨b5,s2,f,e2,g1⟩:=d2.frz 0 rfl (l4.mono (n.trans (o.trans (p.trans (q.trans (s.trans (b.trans d)))))));refine WL.gh s2 ?_;obtain ⟨N,P,R,rfl⟩:=((m1.mono (o.trans (p.trans (q.trans (s.trans (b.trans (d.trans f)))))))).form;obtain ⟨S,T,U,rfl⟩:=((n1.mono (p.trans (q.trans (s.trans (b.trans (d.trans f))))))).form;obtain ⟨X,Z,a0,rfl⟩:=((p1.mono (q.trans (s.trans (b.trans (d.trans f)))))).form;obtain ⟨b0,d0,e0,rfl⟩:=((q1.mono (s.trans (b.trans (d.trans f))))).form;obtain ⟨f0,g0,h0,rfl⟩:=((s1.mono (b.trans (d.trans f)))).form;obtain ⟨i0,j0,k0,rfl⟩:=((e1.mono (d.trans f))).form;obtain ⟨l0,m0,o0,rfl⟩:=((f1.mono f)).form;obtain ⟨q0,s0,t0,rfl⟩:=(g1).form;refine me (sl (RL bf) 333 [[.slice N P R],[.slice S T U],[.slice X Z a0],[.slice b0 d0 e0],[.slice f0 g0 h0],[.slice i0 j0 k0],[.slice l0 m0 o0],[.slice q0 s0 t0]] ([x,y,z,A,D,E,M,h]:List (List (Int×Int))) e2 ⟨⟨(.slice N P R),rfl,m1.m⟩,⟨(.slice S T U),rfl,n1.m⟩,⟨(.slice X Z a0),rfl,p1.m⟩,⟨(.slice b0 d0 e0),rfl,q1.m⟩,⟨(.slice f0 g0 h0),rfl,s1.m⟩,⟨(.slice i0 j0 k0),rfl,e1.m⟩,⟨(.slice l0 m0 o0),rfl,f1.m⟩,⟨(.slice q0 s0 t0),rfl,g1⟩,trivial⟩) ?_;rintro g u0 i5 ⟨k1,f2,v0⟩;refine va (g) (wln (W.seq (sr (va (I 0) (wln (W.block (bn H fun a1 i1 i=>lp i1 (fun a=>Jn u0 fun c l=>Own c G (es true (RL bf) g 333 k1 ([x,y,z,A,D,E,M,h]:List (List (Int×Int)))::es false bf (.slice q0 s0 t0) 342 b2 h::es false bf (.slice l0 m0 o0) 342 z1 M::es false bf (.slice i0 j0 k0) 342 y1 E::es false bf (.slice f0 g0 h0) 342 x1 D::es false bf (.slice b0 d0 e0) 342 w1 A::es false bf (.slice X Z a0) 342 v1 z::es false bf (.slice S T U) 342 u1 y::es false bf (.slice N P R) 342 u3 x::F)/\l= [(0,J p0),(3,g),(4,I a)]) (fun t=>match t with|.inl x_=>(fun r4 ex e w=>ex= .ret/\(Jn u0 fun c l=>Own c G (F)/\l= [(2,I r4)]) e w) x_|.inr x_=>(fun w4 ex e w=>ex= .exit 0/\(Jn u0 fun c l=>Own c G (es true (RL bf) g 333 k1 ([x,y,z,A,D,E,M,h]:List (List (Int×Int)))::es false bf (.slice q0 s0 t0) 342 b2 h::es false bf (.slice l0 m0 o0) 342 z1 M::es false bf (.slice i0 j0 k0) 342 y1 E::es false bf (.slice f0 g0 h0) 342 x1 D::es false bf (.slice b0 d0 e0) 342 w1 A::es false bf (.slice X Z a0) 342 v1 z::es false bf (.slice S T U) 342 u1 y::es false bf (.slice N P R) 342 u3 x::F)/\l= [(0,J p0)]) e w) x_) ?_ ?_ ?_)))))))
 ·clear i i1;intro a e6 v3 u4 H;revert v3 u4;rintro e_ w_ ⟨l2,d5,_,rfl,a3,rfl,y0,rfl⟩;refine W.seq (sr (va (I a) (va (g) (vx (lnO 3 xl v0.m) (va (B (decide (a<(([x,y,z,A,D,E,M,h]:List (List (Int×Int))).length:Int)))) (wln (cn H (fun t2 H=>?_) (fun t2 H=>?_))))))))
  ·refine W.skip (nrm (W.seq (W.block (sr (va (g) (va (I a) (bn H fun e3 z0 H=>vx (ixO xl v0.m z0) ?_)))))));obtain ⟨v4,u2,b3⟩:=OA.at (v0.mono a3) z0;obtain ⟨c3,rfl,w2⟩:=u2;refine vr c3 (rx (by kernel_rfl) (lI xm rfl (y0.on 0 rfl) (v0.m.blk z0) (at1 (j:=0) b3 rfl))) (va (J p0) (bn H fun p5 x2 H=>cl (jW y0 e3 p0 w2 x2) ?_));rintro n5 d1 j5 ⟨c1,rfl⟩;refine wln (cn H (fun y2 H=>?_) (fun y2 H=>?_))
   ·refine sr (va (I a) (vv (I (w64 (a+1))) (wln (W.ret (bkr (thr ?_))))));cases H;refine ⟨_,rfl,⟨rfl,?_⟩⟩;have g2:=c1.sD 9 [];exact jn d1 ⟨g2,rfl⟩
   refine W.skip (bkn (nrm (W.region (va (I a) (vv (I (w64 (a+1))) (WL.nil ?_))))));cases H;exact ⟨_,rfl,jn d1 ⟨c1,rfl⟩⟩
  refine W.exit (thx ?_);cases H;exact ⟨_,rfl,rfl,jn l2 ⟨y0,rfl⟩⟩
 ·exact jn u0 ⟨f2,rfl⟩
 rcases a1 with a1|a1
 ·intro w3; revert w3;rintro _ e_ w_ ⟨rfl,m2,e5,_,rfl,k5,rfl,h2,rfl⟩;refine bkr (thr ?_);cases i;exact r1 (qq m2 ⟨h2,rfl⟩)
 rintro _ e_ w_ ⟨rfl,c5,f5,_,rfl,l5,rfl,i2,rfl⟩;refine bke (nrm (sr (va (J p0) (bn i fun f3 z2 i=>cl (qI i2 p0 z2) ?_))));rintro o5 n2 m5 ⟨j2,rfl⟩;refine va (I f3) (wln (W.ret ?_));cases i;have k2:=j2.sD 9 [];exact r1 (qq n2 ⟨k2,rfl⟩)
def gH:List (Int×Int):=[(169,169),(174,174),(8252,8252),(8265,8265),(8482,8482),(8505,8505),(8596,8601),(8617,8618),(8986,8987),(9000,9000),(9096,9096),(9167,9167),(9193,9203),(9208,9210),(9410,9410),(9642,9643),(9654,9654),(9664,9664),(9723,9726),(9728,9733),(9735,9746),(9748,9861),(9872,9989),(9992,10002),(10004,10004),(10006,10006),(10013,10013),(10017,10017),(10024,10024),(10035,10036),(10052,10052),(10055,10055),(10060,10060),(10062,10062),(10067,10069),(10071,10071),(10083,10087),(10133,10135),(10145,10145),(10160,10160),(10175,10175),(10548,10549),(11013,11015),(11035,11036),(11088,11088),(11093,11093),(12336,12336),(12349,12349),(12951,12951),(12953,12953),(126976,127231),(127245,127247),(127279,127279),(127340,127345),(127358,127359),(127374,127374),(127377,127386),(127405,127461),(127489,127503),(127514,127514),(127535,127535),(127538,127546),(127548,127551),(127561,127994),(128000,128317),(128326,128591),(128640,128767),(128884,128895),(128981,129023),(129036,129039),(129096,129103),(129114,129119),(129160,129167),(129198,129279),(129292,129338),(129340,129349),(129351,129791),(130048,131069)]
def jk:Option (List (Int×Int)):=
 some gH
theorem rG (d:Own c0 G F){r:List (Int×Int)}(H:jk=some r): Calls prog 296 #[] c0.w (aR c0 fun c v=>∃a b,Own c G (es true bf a 342 b r::F)/\v=a/\OA bf c a b r):=by
 unfold jk at H;refine en func296 rfl rfl (sr (va (Y) (wln (sr (va (III 169 169) (va (III 174 174) (va (III 8252 8252) (va (III 8265 8265) (va (III 8482 8482) (va (III 8505 8505) (va (III 8596 8601) (va (III 8617 8618) (va (III 8986 8987) (va (III 9000 9000) (va (III 9096 9096) (va (III 9167 9167) (va (III 9193 9203) (va (III 9208 9210) (va (III 9410 9410) (va (III 9642 9643) (va (III 9654 9654) (va (III 9664 9664) (va (III 9723 9726) (va (III 9728 9733) (va (III 9735 9746) (va (III 9748 9861) (va (III 9872 9989) (va (III 9992 10002) (va (III 10004 10004) (va (III 10006 10006) (va (III 10013 10013) (va (III 10017 10017) (va (III 10024 10024) (va (III 10035 10036) (va (III 10052 10052) (va (III 10055 10055) (va (III 10060 10060) (va (III 10062 10062) (va (III 10067 10069) (va (III 10071 10071) (va (III 10083 10087) (va (III 10133 10135) (va (III 10145 10145) (va (III 10160 10160) (va (III 10175 10175) (va (III 10548 10549) (va (III 11013 11015) (va (III 11035 11036) (va (III 11088 11088) (va (III 11093 11093) (va (III 12336 12336) (va (III 12349 12349) (va (III 12951 12951) (va (III 12953 12953) (va (III 126976 127231) (va (III 127245 127247) (va (III 127279 127279) (va (III 127340 127345) (va (III 127358 127359) (va (III 127374 127374) (va (III 127377 127386) (va (III 127405 127461) (va (III 127489 127503) (va (III 127514 127514) (va (III 127535 127535) (va (III 127538 127546) (va (III 127548 127551) (va (III 127561 127994) (va (III 128000 128317) (va (III 128326 128591) (va (III 128640 128767) (va (III 128884 128895) (va (III 128981 129023) (va (III 129036 129039) (va (III 129096 129103) (va (III 129114 129119) (va (III 129160 129167) (va (III 129198 129279) (va (III 129292 129338) (va (III 129340 129349) (va (III 129351 129791) (va (III 130048 131069) (me (Own.sl (R:=bf) (E:=342) (ls:=gH.map (fun x=>[I x.1,I x.2])) (vs:=(gH.map (fun x=>[I x.1,I x.2])).flatten) (xs:=gH) true d (aN _) rfl (oP.map _ (fun _=>rfl) _) (by kernel_rfl) (by kernel_rfl)) ?_)))))))))))))))))))))))))))))))))))))))))))))))))))))))))))))))))))))))))))))))))));rintro v5 f i ⟨h,e,g⟩;refine va (v5) (wln (W.ret ?_));cases H;exact r1 (qq f ⟨v5,h,e,rfl,g⟩)
def iC (p0:Int):Option (Bool):=
 (jk).bind fun a=>
 (dX a p0).bind fun b=>
 some b
theorem tj (l:Own c0 G F) (a:Int){r:Bool}(H:iC a=some r): Calls prog 256 #[J a] c0.w (aR c0 fun c v=>Own c G (F)/\v=B r):=by
 unfold iC at H;refine en func256 rfl rfl (sr (va (B false) (wln (sr (bn H fun j n H=>cl (rG l n) ?_)))));rintro v2 t u ⟨_,x,m,rfl,o⟩;refine va (J a) ?_;obtain ⟨p,h,q,b,g⟩:=m.frz 0 rfl o;refine WL.gh h (bn H fun k i H=>cl (jW b j a g i) ?_);rintro v21 f s ⟨d,rfl⟩;refine va (B k) (wln (W.ret ?_));cases H;have e:=d.sD 1 [];exact r1 (qq f ⟨e,rfl⟩)
def ga:List (Int×Int):=[(2325,2361),(2392,2399),(2424,2431),(2453,2472),(2474,2480),(2482,2482),(2486,2489),(2524,2525),(2527,2527),(2544,2545),(2709,2728),(2730,2736),(2738,2739),(2741,2745),(2809,2809),(2837,2856),(2858,2864),(2866,2867),(2869,2873),(2908,2909),(2911,2911),(2929,2929),(3093,3112),(3114,3129),(3160,3162),(3349,3386)]
def iQ:Option (List (Int×Int)):=
 some ga
theorem qy (d:Own c0 G F){r:List (Int×Int)}(H:iQ=some r): Calls prog 297 #[] c0.w (aR c0 fun c v=>∃a b,Own c G (es true bf a 342 b r::F)/\v=a/\OA bf c a b r):=by
 unfold iQ at H;refine en func297 rfl rfl (sr (va (Y) (wln (sr (va (III 2325 2361) (va (III 2392 2399) (va (III 2424 2431) (va (III 2453 2472) (va (III 2474 2480) (va (III 2482 2482) (va (III 2486 2489) (va (III 2524 2525) (va (III 2527 2527) (va (III 2544 2545) (va (III 2709 2728) (va (III 2730 2736) (va (III 2738 2739) (va (III 2741 2745) (va (III 2809 2809) (va (III 2837 2856) (va (III 2858 2864) (va (III 2866 2867) (va (III 2869 2873) (va (III 2908 2909) (va (III 2911 2911) (va (III 2929 2929) (va (III 3093 3112) (va (III 3114 3129) (va (III 3160 3162) (va (III 3349 3386) (me (Own.sl (R:=bf) (E:=342) (ls:=ga.map (fun x=>[I x.1,I x.2])) (vs:=(ga.map (fun x=>[I x.1,I x.2])).flatten) (xs:=ga) true d (aN _) rfl (oP.map _ (fun _=>rfl) _) (by kernel_rfl) (by kernel_rfl)) ?_)))))))))))))))))))))))))))))));rintro v5 f i ⟨h,e,g⟩;refine va (v5) (wln (W.ret ?_));cases H;exact r1 (qq f ⟨v5,h,e,rfl,g⟩)
def iP:Option (List (Int×Int)):=
 some ([(2381,2381),(2509,2509),(2765,2765),(2893,2893),(3149,3149),(3405,3405)]:List (Int×Int))
theorem qx (d:Own c0 G F){r:List (Int×Int)}(H:iP=some r): Calls prog 298 #[] c0.w (aR c0 fun c v=>∃a b,Own c G (es true bf a 342 b r::F)/\v=a/\OA bf c a b r):=by
 unfold iP at H;refine en func298 rfl rfl (sr (va (Y) (wln (sr (va (III 2381 2381) (va (III 2509 2509) (va (III 2765 2765) (va (III 2893 2893) (va (III 3149 3149) (va (III 3405 3405) (me (sl bf 342 [[I 2381,I 2381],[I 2509,I 2509],[I 2765,I 2765],[I 2893,I 2893],[I 3149,I 3149],[I 3405,I 3405]] ([(2381,2381),(2509,2509),(2765,2765),(2893,2893),(3149,3149),(3405,3405)]:List (Int×Int)) d ⟨rfl,rfl,rfl,rfl,rfl,rfl,trivial⟩) ?_)))))))))));rintro v5 f i ⟨h,e,g⟩;refine va (v5) (wln (W.ret ?_));cases H;exact r1 (qq f ⟨v5,h,e,rfl,g⟩)
def iO:Option (List (Int×Int)):=
 some ([(768,879),(1155,1159),(1425,1469),(1552,1562),(1611,1631),(2364,2364),(2385,2388),(2492,2492),(2748,2748),(2876,2876),(3132,3132),(6832,6845),(7616,7679),(8205,8205),(8400,8412),(12330,12335),(12441,12442),(65056,65071)]:List (Int×Int))
theorem qw (d:Own c0 G F){r:List (Int×Int)}(H:iO=some r): Calls prog 299 #[] c0.w (aR c0 fun c v=>∃a b,Own c G (es true bf a 342 b r::F)/\v=a/\OA bf c a b r):=by
 unfold iO at H;refine en func299 rfl rfl (sr (va (Y) (wln (sr (va (III 768 879) (va (III 1155 1159) (va (III 1425 1469) (va (III 1552 1562) (va (III 1611 1631) (va (III 2364 2364) (va (III 2385 2388) (va (III 2492 2492) (va (III 2748 2748) (va (III 2876 2876) (va (III 3132 3132) (va (III 6832 6845) (va (III 7616 7679) (va (III 8205 8205) (va (III 8400 8412) (va (III 12330 12335) (va (III 12441 12442) (va (III 65056 65071) (me (sl bf 342 [[I 768,I 879],[I 1155,I 1159],[I 1425,I 1469],[I 1552,I 1562],[I 1611,I 1631],[I 2364,I 2364],[I 2385,I 2388],[I 2492,I 2492],[I 2748,I 2748],[I 2876,I 2876],[I 3132,I 3132],[I 6832,I 6845],[I 7616,I 7679],[I 8205,I 8205],[I 8400,I 8412],[I 12330,I 12335],[I 12441,I 12442],[I 65056,I 65071]] ([(768,879),(1155,1159),(1425,1469),(1552,1562),(1611,1631),(2364,2364),(2385,2388),(2492,2492),(2748,2748),(2876,2876),(3132,3132),(6832,6845),(7616,7679),(8205,8205),(8400,8412),(12330,12335),(12441,12442),(65056,65071)]:List (Int×Int)) d ⟨rfl,rfl,rfl,rfl,rfl,rfl,rfl,rfl,rfl,rfl,rfl,rfl,rfl,rfl,rfl,rfl,rfl,rfl,trivial⟩) ?_)))))))))))))))))))))));rintro v5 f i ⟨h,e,g⟩;refine va (v5) (wln (W.ret ?_));cases H;exact r1 (qq f ⟨v5,h,e,rfl,g⟩)
def iB (p0:Int):Option (Int):=
 (iQ).bind fun c=>
 (iP).bind fun d=>
 (iO).bind fun e=>
 (cL (σ:=Int) (τ:=Int ⊕ Unit) (((([c,d,e]:List (List (Int×Int))).length:Int)-0).toNat+1) (fun b=>
 if (decide (b<(([c,d,e]:List (List (Int×Int))).length:Int)))=true then
 (idx ([c,d,e]:List (List (Int×Int))) b).bind fun f=>
 (dX f p0).bind fun g=>
 if g=true then
 some (.inr (.inl (w64 (b+1))))
 else
 some (.inl ((w64 (b+1))))
 else
 some (.inr (.inr ()))) (0)).bind fun a=>
 match a with
 | .inl a=>
 some a
 | .inr a=>
 some 0
theorem th (O0:Own c0 G F) (E:Int){r:Int}(H:iB E=some r): Calls prog 257 #[J E] c0.w (aR c0 fun c v=>Own c G (F)/\v=I r):=by
 unfold iB at H;refine en func257 rfl rfl (sr (va (I 0) (wln (sr (bn H fun b h1 H=>cl (qy O0 h1) ?_)))));rintro v2 c9 l9 ⟨_,u3,O6,rfl,h4⟩;refine bn H fun d a1 H=>cl (qx O6 a1) ?_;rintro v12 g2 p1 ⟨_,b0,h0,rfl,b1⟩;refine bn H fun f c1 H=>cl (qw h0 c1) ?_;rintro v22 h2 U ⟨_,d0,i0,rfl,d1⟩;obtain ⟨i2,e1,X,j0,P⟩:=i0.frz 2 rfl (h4.mono (p1.trans U));refine WL.gh e1 ?_;obtain ⟨j2,f1,Z,k0,R⟩:=j0.frz 1 rfl (b1.mono (U.trans X));refine WL.gh f1 ?_;obtain ⟨k2,g1,a0,l0,S⟩:=k0.frz 0 rfl (d1.mono (X.trans Z));refine WL.gh g1 ?_;obtain ⟨h,i,k,rfl⟩:=((P.mono (Z.trans a0))).form;obtain ⟨n,o,p,rfl⟩:=((R.mono a0)).form;obtain ⟨q,s,u,rfl⟩:=(S).form;refine me (sl (RL bf) 333 [[.slice h i k],[.slice n o p],[.slice q s u]] ([b,d,f]:List (List (Int×Int))) l0 ⟨⟨(.slice h i k),rfl,P.m⟩,⟨(.slice n o p),rfl,R.m⟩,⟨(.slice q s u),rfl,S⟩,trivial⟩) ?_;rintro v56 x o2 ⟨e0,m0,y⟩;refine va (v56) (wln (W.seq (sr (va (I 0) (wln (W.block (bn H fun g T z=>lp T (fun a=>Jn x fun c l=>Own c G (es true (RL bf) v56 333 e0 ([b,d,f]:List (List (Int×Int)))::es false bf (.slice q s u) 342 d0 f::es false bf (.slice n o p) 342 b0 d::es false bf (.slice h i k) 342 u3 b::F)/\l= [(0,J E),(3,v56),(4,I a)]) (fun t=>match t with|.inl x_=>(fun t1 ex e w=>ex= .ret/\(Jn x fun c l=>Own c G (F)/\l= [(2,I t1)]) e w) x_|.inr x_=>(fun y1 ex e w=>ex= .exit 0/\(Jn x fun c l=>Own c G (es true (RL bf) v56 333 e0 ([b,d,f]:List (List (Int×Int)))::es false bf (.slice q s u) 342 d0 f::es false bf (.slice n o p) 342 b0 d::es false bf (.slice h i k) 342 u3 b::F)/\l= []) e w) x_) ?_ ?_ ?_)))))))
 ·clear z T;intro a u2 y0 x1 H;revert y0 x1;rintro e_ w_ ⟨u0,l2,_,rfl,q1,rfl,A,rfl⟩;refine W.seq (sr (va (I a) (va (v56) (vx (lnO 3 xl y.m) (va (B (decide (a<(([b,d,f]:List (List (Int×Int))).length:Int)))) (wln (cn H (fun i1 H=>?_) (fun i1 H=>?_))))))))
  ·refine W.skip (nrm (W.seq (W.block (sr (va (v56) (va (I a) (bn H fun g0 D H=>vx (ixO xl y.m D) ?_)))))));obtain ⟨e2,j1,s1⟩:=OA.at (y.mono q1) D;obtain ⟨v1,rfl,k1⟩:=j1;refine vr v1 (rx (by kernel_rfl) (lI xm rfl (A.on 0 rfl) (y.m.blk D) (at1 (j:=0) s1 rfl))) (va (J E) (bn H fun f2 m1 H=>cl (jW A g0 E k1 m1) ?_));rintro t2 N p2 ⟨M,rfl⟩;refine wln (cn H (fun n1 H=>?_) (fun n1 H=>?_))
   ·refine sr (va (I a) (vv (I (w64 (a+1))) (wln (W.ret (bkr (thr ?_))))));cases H;refine ⟨_,rfl,⟨rfl,?_⟩⟩;have o0:=M.sD 4 [];exact jn N ⟨o0,rfl⟩
   refine W.skip (bkn (nrm (W.region (va (I a) (vv (I (w64 (a+1))) (WL.nil ?_))))));cases H;exact ⟨_,rfl,jn N ⟨M,rfl⟩⟩
  refine W.exit (thx ?_);cases H;exact ⟨_,rfl,rfl,jn u0 ⟨A,rfl⟩⟩
 ·exact jn x ⟨m0,rfl⟩
 rcases g with g|g
 ·intro z0; revert z0;rintro _ e_ w_ ⟨rfl,v0,m2,_,rfl,q2,rfl,q0,rfl⟩;refine bkr (thr ?_);cases z;exact r1 (qq v0 ⟨q0,rfl⟩)
 rintro _ e_ w_ ⟨rfl,w0,n2,_,rfl,s2,rfl,s0,rfl⟩;refine bke (nrm (sr (va (I 0) (wln (W.ret ?_)))));cases z;have t0:=s0.sD 4 [];exact r1 (qq w0 ⟨t0,rfl⟩)
def fK:List (Int×Int):=[(4352,4447),(8986,8987),(9001,9002),(9193,9196),(9200,9200),(9203,9203),(9725,9726),(9748,9749),(9800,9811),(9855,9855),(9875,9875),(9889,9889),(9898,9899),(9917,9918),(9924,9925),(9934,9934),(9940,9940),(9962,9962),(9970,9971),(9973,9973),(9978,9978),(9981,9981),(9989,9989),(9994,9995),(10024,10024),(10060,10060),(10062,10062),(10067,10069),(10071,10071),(10133,10135),(10160,10160),(10175,10175),(11035,11036),(11088,11088),(11093,11093),(11904,11929),(11931,12019),(12032,12245),(12272,12287),(12289,12350),(12353,12438),(12441,12543),(12549,12591),(12593,12686),(12688,12771),(12784,12830),(12832,12871),(12880,19903),(19968,42124),(42128,42182),(43360,43388),(44032,55203),(63744,64255),(65040,65049),(65072,65106),(65108,65126),(65128,65131),(94176,94180),(94208,100343),(100352,101589),(110592,110882),(126980,126980),(127183,127183),(127374,127374),(127377,127386),(127488,127490),(127504,127547),(127552,127560),(127568,127569),(127584,127589),(127744,127776),(127789,127797),(127799,127868),(127870,127891),(127904,127946),(127951,127955),(127968,127984),(127988,127988),(127992,128062),(128064,128064),(128066,128252),(128255,128317),(128331,128334),(128336,128359),(128378,128378),(128405,128406),(128420,128420),(128507,128591),(128640,128709),(128716,128716),(128720,128722),(128725,128727),(128732,128735),(128747,128748),(128756,128764),(128992,129003),(129008,129008),(129292,129338),(129340,129349),(129351,129535),(129648,129660),(129664,129672),(129680,129725),(129727,129733),(129742,129755),(129760,129768),(129776,129784),(131072,196605),(196608,262141)]
def iN:Option (List (Int×Int)):=
 some fK
theorem qv (d:Own c0 G F){r:List (Int×Int)}(H:iN=some r): Calls prog 300 #[] c0.w (aR c0 fun c v=>∃a b,Own c G (es true bf a 342 b r::F)/\v=a/\OA bf c a b r):=by
 unfold iN at H;refine en func300 rfl rfl (sr (va (Y) (wln (sr (va (III 4352 4447) (va (III 8986 8987) (va (III 9001 9002) (va (III 9193 9196) (va (III 9200 9200) (va (III 9203 9203) (va (III 9725 9726) (va (III 9748 9749) (va (III 9800 9811) (va (III 9855 9855) (va (III 9875 9875) (va (III 9889 9889) (va (III 9898 9899) (va (III 9917 9918) (va (III 9924 9925) (va (III 9934 9934) (va (III 9940 9940) (va (III 9962 9962) (va (III 9970 9971) (va (III 9973 9973) (va (III 9978 9978) (va (III 9981 9981) (va (III 9989 9989) (va (III 9994 9995) (va (III 10024 10024) (va (III 10060 10060) (va (III 10062 10062) (va (III 10067 10069) (va (III 10071 10071) (va (III 10133 10135) (va (III 10160 10160) (va (III 10175 10175) (va (III 11035 11036) (va (III 11088 11088) (va (III 11093 11093) (va (III 11904 11929) (va (III 11931 12019) (va (III 12032 12245) (va (III 12272 12287) (va (III 12289 12350) (va (III 12353 12438) (va (III 12441 12543) (va (III 12549 12591) (va (III 12593 12686) (va (III 12688 12771) (va (III 12784 12830) (va (III 12832 12871) (va (III 12880 19903) (va (III 19968 42124) (va (III 42128 42182) (va (III 43360 43388) (va (III 44032 55203) (va (III 63744 64255) (va (III 65040 65049) (va (III 65072 65106) (va (III 65108 65126) (va (III 65128 65131) (va (III 94176 94180) (va (III 94208 100343) (va (III 100352 101589) (va (III 110592 110882) (va (III 126980 126980) (va (III 127183 127183) (va (III 127374 127374) (va (III 127377 127386) (va (III 127488 127490) (va (III 127504 127547) (va (III 127552 127560) (va (III 127568 127569) (va (III 127584 127589) (va (III 127744 127776) (va (III 127789 127797) (va (III 127799 127868) (va (III 127870 127891) (va (III 127904 127946) (va (III 127951 127955) (va (III 127968 127984) (va (III 127988 127988) (va (III 127992 128062) (va (III 128064 128064) (va (III 128066 128252) (va (III 128255 128317) (va (III 128331 128334) (va (III 128336 128359) (va (III 128378 128378) (va (III 128405 128406) (va (III 128420 128420) (va (III 128507 128591) (va (III 128640 128709) (va (III 128716 128716) (va (III 128720 128722) (va (III 128725 128727) (va (III 128732 128735) (va (III 128747 128748) (va (III 128756 128764) (va (III 128992 129003) (va (III 129008 129008) (va (III 129292 129338) (va (III 129340 129349) (va (III 129351 129535) (va (III 129648 129660) (va (III 129664 129672) (va (III 129680 129725) (va (III 129727 129733) (va (III 129742 129755) (va (III 129760 129768) (va (III 129776 129784) (va (III 131072 196605) (va (III 196608 262141) (me (Own.sl (R:=bf) (E:=342) (ls:=fK.map (fun x=>[I x.1,I x.2])) (vs:=(fK.map (fun x=>[I x.1,I x.2])).flatten) (xs:=fK) true d (aN _) rfl (oP.map _ (fun _=>rfl) _) (by kernel_rfl) (by kernel_rfl)) ?_))))))))))))))))))))))))))))))))))))))))))))))))))))))))))))))))))))))))))))))))))))))))))))))))))))))))))))))))));rintro v5 f i ⟨h,e,g⟩;refine va (v5) (wln (W.ret ?_));cases H;exact r1 (qq f ⟨v5,h,e,rfl,g⟩)
def iM:Option (List (Int×Int)):=
 some ([(12288,12288),(65281,65376),(65504,65510)]:List (Int×Int))
theorem qu (d:Own c0 G F){r:List (Int×Int)}(H:iM=some r): Calls prog 301 #[] c0.w (aR c0 fun c v=>∃a b,Own c G (es true bf a 342 b r::F)/\v=a/\OA bf c a b r):=by
 unfold iM at H;refine en func301 rfl rfl (sr (va (Y) (wln (sr (va (III 12288 12288) (va (III 65281 65376) (va (III 65504 65510) (me (sl bf 342 [[I 12288,I 12288],[I 65281,I 65376],[I 65504,I 65510]] ([(12288,12288),(65281,65376),(65504,65510)]:List (Int×Int)) d ⟨rfl,rfl,rfl,trivial⟩) ?_))))))));rintro v5 f i ⟨h,e,g⟩;refine va (v5) (wln (W.ret ?_));cases H;exact r1 (qq f ⟨v5,h,e,rfl,g⟩)
def iL:Option (List (Int×Int)):=
 some ([(8361,8361),(65377,65470),(65474,65479),(65482,65487),(65490,65495),(65498,65500),(65512,65518)]:List (Int×Int))
theorem qt (d:Own c0 G F){r:List (Int×Int)}(H:iL=some r): Calls prog 302 #[] c0.w (aR c0 fun c v=>∃a b,Own c G (es true bf a 342 b r::F)/\v=a/\OA bf c a b r):=by
 unfold iL at H;refine en func302 rfl rfl (sr (va (Y) (wln (sr (va (III 8361 8361) (va (III 65377 65470) (va (III 65474 65479) (va (III 65482 65487) (va (III 65490 65495) (va (III 65498 65500) (va (III 65512 65518) (me (sl bf 342 [[I 8361,I 8361],[I 65377,I 65470],[I 65474,I 65479],[I 65482,I 65487],[I 65490,I 65495],[I 65498,I 65500],[I 65512,I 65518]] ([(8361,8361),(65377,65470),(65474,65479),(65482,65487),(65490,65495),(65498,65500),(65512,65518)]:List (Int×Int)) d ⟨rfl,rfl,rfl,rfl,rfl,rfl,rfl,trivial⟩) ?_))))))))))));rintro v5 f i ⟨h,e,g⟩;refine va (v5) (wln (W.ret ?_));cases H;exact r1 (qq f ⟨v5,h,e,rfl,g⟩)
def iA (p0:Int):Option (Int):=
 (iN).bind fun c=>
 (iM).bind fun d=>
 (iL).bind fun e=>
 (cL (σ:=Int) (τ:=Int ⊕ Unit) (((([c,d,e]:List (List (Int×Int))).length:Int)-0).toNat+1) (fun b=>
 if (decide (b<(([c,d,e]:List (List (Int×Int))).length:Int)))=true then
 (idx ([c,d,e]:List (List (Int×Int))) b).bind fun f=>
 (dX f p0).bind fun g=>
 if g=true then
 some (.inr (.inl (w64 (b+1))))
 else
 some (.inl ((w64 (b+1))))
 else
 some (.inr (.inr ()))) (0)).bind fun a=>
 match a with
 | .inl a=>
 some a
 | .inr a=>
 some 0
theorem tg (O0:Own c0 G F) (E:Int){r:Int}(H:iA E=some r): Calls prog 258 #[J E] c0.w (aR c0 fun c v=>Own c G (F)/\v=I r):=by
 unfold iA at H;refine en func258 rfl rfl (sr (va (I 0) (wln (sr (bn H fun b h1 H=>cl (qv O0 h1) ?_)))));rintro v2 c9 l9 ⟨_,u3,O6,rfl,h4⟩;refine bn H fun d a1 H=>cl (qu O6 a1) ?_;rintro v12 g2 p1 ⟨_,b0,h0,rfl,b1⟩;refine bn H fun f c1 H=>cl (qt h0 c1) ?_;rintro v22 h2 U ⟨_,d0,i0,rfl,d1⟩;obtain ⟨i2,e1,X,j0,P⟩:=i0.frz 2 rfl (h4.mono (p1.trans U));refine WL.gh e1 ?_;obtain ⟨j2,f1,Z,k0,R⟩:=j0.frz 1 rfl (b1.mono (U.trans X));refine WL.gh f1 ?_;obtain ⟨k2,g1,a0,l0,S⟩:=k0.frz 0 rfl (d1.mono (X.trans Z));refine WL.gh g1 ?_;obtain ⟨h,i,k,rfl⟩:=((P.mono (Z.trans a0))).form;obtain ⟨n,o,p,rfl⟩:=((R.mono a0)).form;obtain ⟨q,s,u,rfl⟩:=(S).form;refine me (sl (RL bf) 333 [[.slice h i k],[.slice n o p],[.slice q s u]] ([b,d,f]:List (List (Int×Int))) l0 ⟨⟨(.slice h i k),rfl,P.m⟩,⟨(.slice n o p),rfl,R.m⟩,⟨(.slice q s u),rfl,S⟩,trivial⟩) ?_;rintro v56 x o2 ⟨e0,m0,y⟩;refine va (v56) (wln (W.seq (sr (va (I 0) (wln (W.block (bn H fun g T z=>lp T (fun a=>Jn x fun c l=>Own c G (es true (RL bf) v56 333 e0 ([b,d,f]:List (List (Int×Int)))::es false bf (.slice q s u) 342 d0 f::es false bf (.slice n o p) 342 b0 d::es false bf (.slice h i k) 342 u3 b::F)/\l= [(0,J E),(3,v56),(4,I a)]) (fun t=>match t with|.inl x_=>(fun t1 ex e w=>ex= .ret/\(Jn x fun c l=>Own c G (F)/\l= [(2,I t1)]) e w) x_|.inr x_=>(fun y1 ex e w=>ex= .exit 0/\(Jn x fun c l=>Own c G (es true (RL bf) v56 333 e0 ([b,d,f]:List (List (Int×Int)))::es false bf (.slice q s u) 342 d0 f::es false bf (.slice n o p) 342 b0 d::es false bf (.slice h i k) 342 u3 b::F)/\l= []) e w) x_) ?_ ?_ ?_)))))))
 ·clear z T;intro a u2 y0 x1 H;revert y0 x1;rintro e_ w_ ⟨u0,l2,_,rfl,q1,rfl,A,rfl⟩;refine W.seq (sr (va (I a) (va (v56) (vx (lnO 3 xl y.m) (va (B (decide (a<(([b,d,f]:List (List (Int×Int))).length:Int)))) (wln (cn H (fun i1 H=>?_) (fun i1 H=>?_))))))))
  ·refine W.skip (nrm (W.seq (W.block (sr (va (v56) (va (I a) (bn H fun g0 D H=>vx (ixO xl y.m D) ?_)))))));obtain ⟨e2,j1,s1⟩:=OA.at (y.mono q1) D;obtain ⟨v1,rfl,k1⟩:=j1;refine vr v1 (rx (by kernel_rfl) (lI xm rfl (A.on 0 rfl) (y.m.blk D) (at1 (j:=0) s1 rfl))) (va (J E) (bn H fun f2 m1 H=>cl (jW A g0 E k1 m1) ?_));rintro t2 N p2 ⟨M,rfl⟩;refine wln (cn H (fun n1 H=>?_) (fun n1 H=>?_))
   ·refine sr (va (I a) (vv (I (w64 (a+1))) (wln (W.ret (bkr (thr ?_))))));cases H;refine ⟨_,rfl,⟨rfl,?_⟩⟩;have o0:=M.sD 4 [];exact jn N ⟨o0,rfl⟩
   refine W.skip (bkn (nrm (W.region (va (I a) (vv (I (w64 (a+1))) (WL.nil ?_))))));cases H;exact ⟨_,rfl,jn N ⟨M,rfl⟩⟩
  refine W.exit (thx ?_);cases H;exact ⟨_,rfl,rfl,jn u0 ⟨A,rfl⟩⟩
 ·exact jn x ⟨m0,rfl⟩
 rcases g with g|g
 ·intro z0; revert z0;rintro _ e_ w_ ⟨rfl,v0,m2,_,rfl,q2,rfl,q0,rfl⟩;refine bkr (thr ?_);cases z;exact r1 (qq v0 ⟨q0,rfl⟩)
 rintro _ e_ w_ ⟨rfl,w0,n2,_,rfl,s2,rfl,s0,rfl⟩;refine bke (nrm (sr (va (I 0) (wln (W.ret ?_)))));cases z;have t0:=s0.sD 4 [];exact r1 (qq w0 ⟨t0,rfl⟩)
def dW (p0:Int):Option (aw):=
 (iD p0).bind fun b=>
 (iC p0).bind fun c=>
 (iB p0).bind fun d=>
 (iA p0).bind fun a=>
 some (⟨b,c,d,a⟩:aw)
theorem oa (p:Own c0 G F) (a:Int){r:aw}(H:dW a=some r): Calls prog 201 #[J a] c0.w (aR c0 fun c v=>Own c G (F)/\v= .agg #[I r.Break,B r.Pict,I r.Conj,I r.East]):=by
 unfold dW at H;refine en func201 rfl rfl (sr (me (al 238 [I 0,B false,I 0,I 0] p) ?_));rintro v4 R S ⟨P,rfl,q⟩;refine wln (sr (va (J a) (bn H fun d t H=>cl (tl q a t) ?_)));rintro v11 u A ⟨s,rfl⟩;refine va (J a) (bn H fun e m H=>cl (tj s a m) ?_);rintro v18 x D ⟨i,rfl⟩;refine va (J a) (bn H fun f n H=>cl (th i a n) ?_);rintro v25 y E ⟨j,rfl⟩;refine va (J a) (bn H fun b o H=>cl (tg j a o) ?_);rintro v32 z M ⟨k,rfl⟩;refine va (.agg #[I d,B e,I f,I b]) (md (sA 238 [I d,B e,I f,I b] 0 k ⟨rfl,rfl,rfl,rfl,trivial⟩) ?_);rintro h N g;refine wln (W.ret ?_);cases H;have l:=g.sD 1 [];exact kv (c:=h) (vs:=[I d,B e,I f,I b]) rfl (by kernel_rfl) (by kernel_rfl) (by kernel_rfl) (g.on 0 rfl _ rfl).1 ⟨_,h,rfl,rfl,pt,l,rfl⟩
def fO (p0:List Int):Option (List aw):=
 (cL (σ:=(List aw)×Int) (τ:=(List aw)) (((p0.length:Int)-0).toNat+1) (fun a=>
 if (decide (a.2<(p0.length:Int)))=true then
 (idx p0 a.2).bind fun b=>
 (dW b).bind fun c=>
 (app a.1 ([c]:List aw)).bind fun d=>
 some (.inl (d,(w64 (a.2+1))))
 else
 some (.inr (a.1))) (([]:List aw),0)).bind fun e=>
 some e
theorem qr (O0:Own c0 G F) (n:List Int){r:List aw}(k:Sl (RI .i32) c0 v1 n) (H:fO n=some r): Calls prog 132 #[v1] c0.w (aR c0 fun c v=>∃p y2,Own c G (es true cJ p 238 y2 r::F)/\v=p/\OA cJ c p y2 r):=by
 unfold fO at H;refine en func132 rfl rfl (sr (va (Y) (wln (sr (va (Y) (wln (W.seq (sr (va (I 0) (wln (W.block (bn H fun c1 S q=>lp S (fun a=>Jn c0 fun c l=>∃v5 f,Own c G (es true cJ v5 238 f a.1::F)/\l= [(0,v1),(3,v5),(4,I a.2)]/\OA cJ c v5 f a.1) (fun d ex e w=>ex= .exit 0/\(Jn c0 fun c l=>∃v7 g,Own c G (es true cJ v7 238 g d::F)/\l= [(3,v7)]/\OA cJ c v7 g d) e w) ?_ ?_ ?_))))))))))))
 ·clear q S;intro a e1 M g0 H;revert M g0;rintro e_ w_ ⟨c9,v0,_,rfl,l9,rfl,v5,f,h,rfl,i⟩;refine W.seq (sr (va (I a.2) (va (v1) (vx (ln 3 dD k.m) (va (B (decide (a.2<(n.length:Int)))) (wln (cn H (fun N H=>?_) (fun N H=>?_))))))))
  ·refine W.skip (nrm (W.seq (W.block (W.region (va (v5) (va (v1) (va (I a.2) (bn H fun o j H=>?_))))))));obtain ⟨m0,P,e0⟩:=Sl.at (k.mono l9) (aU j);obtain rfl:=P;refine vx (ix dD k.m j) (vx (l1 nb (e0 0 _ rfl)) (bn H fun b R H=>cl (oa h o R) ?_));rintro v27 s0 x0 ⟨s,rfl⟩;refine me (sl cJ 238 [[I b.Break,B b.Pict,I b.Conj,I b.East]] ([b]:List aw) s ⟨rfl,trivial⟩) ?_;rintro v32 t0 y0 ⟨d1,t,T⟩;obtain ⟨u0,X,z0,u,U⟩:=t.frz 0 rfl T;refine WL.gh X (bn H fun q0 Z H=>me (ap cJ (.agg #[I 0,B false,I 0,I 0]) 32 191 1 u i.m U Z kp) ?_);rintro v42 D a1 ⟨f0,x,a0⟩;refine va (v42) (WL.nil (bkn (nrm (W.region (va (I a.2) (vv (I (w64 (a.2+1))) (WL.nil ?_)))))));cases H;refine ⟨_,rfl,?_⟩;have y:=x.sD 2 [1];exact jn D ⟨v42,f0,y,rfl,a0⟩
  refine W.exit (thx ?_);cases H;exact ⟨_,rfl,rfl,jn c9 ⟨v5,f,h,rfl,i⟩⟩
 ·have b0:OA cJ c0 (Y) [] []:=OA.nil (aN _);have z:=O0.addHole (e:=es true cJ (Y) 238 [] ([]:List aw)) rfl;exact jn c0 ⟨(Y),[],z,rfl,b0⟩
 rintro _ e_ w_ ⟨rfl,E,w0,_,rfl,b1,rfl,v7,g,A,rfl,d0⟩;refine bke (nrm (sr (vv (v7) (wln (W.ret ?_)))));cases q;exact r1 (qq E ⟨v7,g,A,rfl,d0⟩)
def kF:Option (List ByteArray):=
 some ([(⟨#[48,48,48,48,49,49,48,48,49,48,48,48,48,48]⟩:ByteArray),(⟨#[48,48,49,48,48,48,48,48,48,48,48,48,48,48]⟩:ByteArray),(⟨#[48,48,48,48,48,48,48,48,48,48,48,48,48,48]⟩:ByteArray),(⟨#[48,48,48,48,48,48,48,48,48,48,48,48,48,48]⟩:ByteArray),(⟨#[50,48,48,48,49,49,48,48,49,48,48,48,48,48]⟩:ByteArray),(⟨#[50,48,48,48,49,49,48,48,49,48,48,48,48,48]⟩:ByteArray),(⟨#[48,48,48,48,49,49,50,48,49,48,48,48,48,48]⟩:ByteArray),(⟨#[49,48,48,48,49,49,49,49,49,49,49,49,49,49]⟩:ByteArray),(⟨#[48,48,48,48,49,49,48,48,49,48,48,48,48,48]⟩:ByteArray),(⟨#[48,48,48,48,49,49,48,48,49,49,49,48,49,49]⟩:ByteArray),(⟨#[48,48,48,48,49,49,48,48,49,48,49,49,48,48]⟩:ByteArray),(⟨#[48,48,48,48,49,49,48,48,49,48,48,49,48,48]⟩:ByteArray),(⟨#[48,48,48,48,49,49,48,48,49,48,49,49,48,48]⟩:ByteArray),(⟨#[48,48,48,48,49,49,48,48,49,48,48,49,48,48]⟩:ByteArray)]:List ByteArray)
theorem rE (d:Own c0 G F){r:List ByteArray}(H:kF=some r): Calls prog 259 #[] c0.w (aR c0 fun c v=>∃a b,Own c G (es true RS a 9 b r::F)/\v=a/\OA RS c a b r):=by
 unfold kF at H;refine en func259 rfl rfl (sr (va (Y) (wln (sr (me (sl RS 9 [[.string (⟨#[48,48,48,48,49,49,48,48,49,48,48,48,48,48]⟩:ByteArray)],[.string (⟨#[48,48,49,48,48,48,48,48,48,48,48,48,48,48]⟩:ByteArray)],[.string (⟨#[48,48,48,48,48,48,48,48,48,48,48,48,48,48]⟩:ByteArray)],[.string (⟨#[48,48,48,48,48,48,48,48,48,48,48,48,48,48]⟩:ByteArray)],[.string (⟨#[50,48,48,48,49,49,48,48,49,48,48,48,48,48]⟩:ByteArray)],[.string (⟨#[50,48,48,48,49,49,48,48,49,48,48,48,48,48]⟩:ByteArray)],[.string (⟨#[48,48,48,48,49,49,50,48,49,48,48,48,48,48]⟩:ByteArray)],[.string (⟨#[49,48,48,48,49,49,49,49,49,49,49,49,49,49]⟩:ByteArray)],[.string (⟨#[48,48,48,48,49,49,48,48,49,48,48,48,48,48]⟩:ByteArray)],[.string (⟨#[48,48,48,48,49,49,48,48,49,49,49,48,49,49]⟩:ByteArray)],[.string (⟨#[48,48,48,48,49,49,48,48,49,48,49,49,48,48]⟩:ByteArray)],[.string (⟨#[48,48,48,48,49,49,48,48,49,48,48,49,48,48]⟩:ByteArray)],[.string (⟨#[48,48,48,48,49,49,48,48,49,48,49,49,48,48]⟩:ByteArray)],[.string (⟨#[48,48,48,48,49,49,48,48,49,48,48,49,48,48]⟩:ByteArray)]] ([(⟨#[48,48,48,48,49,49,48,48,49,48,48,48,48,48]⟩:ByteArray),(⟨#[48,48,49,48,48,48,48,48,48,48,48,48,48,48]⟩:ByteArray),(⟨#[48,48,48,48,48,48,48,48,48,48,48,48,48,48]⟩:ByteArray),(⟨#[48,48,48,48,48,48,48,48,48,48,48,48,48,48]⟩:ByteArray),(⟨#[50,48,48,48,49,49,48,48,49,48,48,48,48,48]⟩:ByteArray),(⟨#[50,48,48,48,49,49,48,48,49,48,48,48,48,48]⟩:ByteArray),(⟨#[48,48,48,48,49,49,50,48,49,48,48,48,48,48]⟩:ByteArray),(⟨#[49,48,48,48,49,49,49,49,49,49,49,49,49,49]⟩:ByteArray),(⟨#[48,48,48,48,49,49,48,48,49,48,48,48,48,48]⟩:ByteArray),(⟨#[48,48,48,48,49,49,48,48,49,49,49,48,49,49]⟩:ByteArray),(⟨#[48,48,48,48,49,49,48,48,49,48,49,49,48,48]⟩:ByteArray),(⟨#[48,48,48,48,49,49,48,48,49,48,48,49,48,48]⟩:ByteArray),(⟨#[48,48,48,48,49,49,48,48,49,48,49,49,48,48]⟩:ByteArray),(⟨#[48,48,48,48,49,49,48,48,49,48,48,49,48,48]⟩:ByteArray)]:List ByteArray) d ⟨rfl,rfl,rfl,rfl,rfl,rfl,rfl,rfl,rfl,rfl,rfl,rfl,rfl,rfl,trivial⟩) ?_)))));rintro v5 f i ⟨h,e,g⟩;refine va (v5) (wln (W.ret ?_));cases H;exact r1 (qq f ⟨v5,h,e,rfl,g⟩)
def dg (p0:Int) (p1:Int):Option (Int):=
 ((orE (decide (p0<0)) (some (decide (p0>13)))).bind fun f=>
 if f=true then
 some (0)
 else
 some (p0)).bind fun g=>
 ((orE (decide (p1<0)) (some (decide (p1>13)))).bind fun a=>
 if a=true then
 some (0)
 else
 some (p1)).bind fun e=>
 (kF).bind fun b=>
 (idx b g).bind fun c=>
 (Gz c e).bind fun d=>
 some (w64 ((w64 d)-48))
theorem rF (N:Own c0 G F) (e:Int) (d:Int){r:Int}(H:dg e d=some r): Calls prog 202 #[I e,I d] c0.w (aR c0 fun c v=>Own c G (F)/\v=I r):=by
 unfold dg at H;refine en func202 rfl rfl (sr (va (I 0) (wln (bn H fun m g H2=>W.seqJ (Jn c0 fun c l=>Own c G (F)/\l= [(0,I m),(1,I d)]) ?_ ?_))))
 ·refine W.seq (bn g fun X h3 g=>W.join (Jn c0 fun c l=>Own c G (F)/\l= [(0,I e),(1,I d),(10,B X)]) ?_ ?_)
  ·clear g;refine W.region (va (I e) (va (B (decide (e<0))) ?_));rcases bo (decide (e<0)) with n|n
   ·obtain rfl:=orT n h3;exact vb n (pz (va (B true) (wln (jn c0 ⟨N,rfl⟩))))
   have H5:=orF n h3;refine vb n (wa (I e) (wa (B (decide (e>13))) ?_));cases H5;exact va (B (decide (e>13))) (wln (jn c0 ⟨N,rfl⟩))
  rintro A D ⟨U,g7,_,rfl,l6,rfl,S,rfl⟩;refine nrm (cn g (fun Z g=>?_) (fun Z g=>?_))
  ·refine W.region (va (I 0) (wln ?_));cases g;exact jn U ⟨S,rfl⟩
  refine W.skip (nrm ?_);cases g;exact jn U ⟨S,rfl⟩
 rintro A D ⟨i,m0,_,rfl,s0,rfl,s,rfl⟩;refine bn H2 fun q a b=>W.seqJ (Jn i fun c l=>Own c G (F)/\l= [(0,I m),(1,I q)]) ?_ ?_
 ·refine W.seq (bn a fun z y a=>W.join (Jn i fun c l=>Own c G (F)/\l= [(0,I m),(1,I d),(16,B z)]) ?_ ?_)
  ·clear a;refine W.region (va (I d) (va (B (decide (d<0))) ?_));rcases bo (decide (d<0)) with h|h
   ·obtain rfl:=orT h y;exact vb h (pz (va (B true) (wln (jn i ⟨s,rfl⟩))))
   have M:=orF h y;refine vb h (wa (I d) (wa (B (decide (d>13))) ?_));cases M;exact va (B (decide (d>13))) (wln (jn i ⟨s,rfl⟩))
  rintro A D ⟨x,o0,_,rfl,t0,rfl,t,rfl⟩;refine nrm (cn a (fun b0 a=>?_) (fun b0 a=>?_))
  ·refine W.region (va (I 0) (wln ?_));cases a;exact jn x ⟨t,rfl⟩
  refine W.skip (nrm ?_);cases a;exact jn x ⟨t,rfl⟩
 rintro A D ⟨l0,q0,_,rfl,u0,rfl,P,rfl⟩;refine sr (bn b fun k0 d0 b=>cl (rE P d0) ?_);rintro v38 T v0 ⟨_,w0,u,rfl,o⟩;refine va (I m) (bn b fun E p b=>vx (ixO underlying315 o p) ?_);obtain ⟨j0,e0,g0⟩:=OA.at o p;obtain rfl:=e0;refine vr (.string E) (rx (by kernel_rfl) (lI underlying9 rfl (u.on 0 rfl) (o.blk p) (at1 (j:=0) g0 rfl))) (va (I q) (bn b fun f f0 b=>vr (.int .u8 f) (rx (by kernel_rfl) (Aq (k:= .i64) underlying9 f0 _)) (va (I (w64 f)) (vv (I (w64 ((w64 f)-48))) (wln (W.ret ?_))))));cases b;have R:=u.sD 1 [];exact r1 (qq T ⟨R,rfl⟩)
def eH (p0:List aw) (p1:Int):Option (Bool):=
 (idx p0 p1).bind fun i=>
 if (i.Conj != 1)=true then
 some false
 else
 (cL (σ:=Int×Int) (τ:=Bool ⊕ Unit) (((w64 (p1-1))-0).toNat+2) (fun a=>
 if (decide (a.2>=0))=true then
 (idx p0 a.2).bind fun d=>
 if (d.Conj==1)=true then
 some (.inr (.inl (decide (a.1>0))))
 else
 ((idx p0 a.2).bind fun e=>
 if (e.Conj==2)=true then
 some ((w64 (a.1+1)))
 else
 some (a.1)).bind fun h=>
 (idx p0 a.2).bind fun f=>
 (bT (f.Conj != 2) ((idx p0 a.2).bind fun g=>
 some (g.Conj != 3))).bind fun c=>
 if c=true then
 some (.inr (.inl false))
 else
 some (.inl (h,(w64 (a.2-1))))
 else
 some (.inr (.inr ()))) (0,(w64 (p1-1)))).bind fun b=>
 match b with
 | .inl b=>
 some b
 | .inr b=>
 some false
theorem oM (O0:Own c0 G F) (p0:List aw) (j:Int){r:Bool}(f:Sl cJ c0 v1 p0) (H:eH p0 j=some r): Calls prog 203 #[v1,I j] c0.w (aR c0 fun c v=>Own c G (F)/\v=B r):=by
 unfold eH at H;refine en func203 rfl rfl (sr (va (B false) (wln (W.seq (sr (va (v1) (va (I j) (bn H fun d1 h3 H=>?_))))))));obtain ⟨z1,h5,m6⟩:=Sl.at f (aU h3);obtain rfl:=h5;refine vx (ix kp f h3) (va (Qo (sb v1) (so v1+j.toNat*4+2)) (vx (l1 u_3 (m6 2 _ rfl)) (va (B (d1.Conj != 1)) (wln (cn H (fun h7 H=>?_) (fun h7 H=>?_))))))
 ·refine sr (va (B false) (wln (W.ret (thr ?_))));cases H;exact r1 (qq c0 ⟨O0,rfl⟩)
 refine W.skip (nrm (sr (va (I 0) (wln (W.seq (sr (va (I j) (vv (I (w64 (j-1))) (wln (W.block (bn H fun i h8 T=>lp h8 (fun a=>Jn c0 fun c l=>Own c G (F)/\l= [(0,v1),(5,I a.1),(6,I a.2)]) (fun t=>match t with|.inl X=>(fun b1 ex e w=>ex= .ret/\(Jn c0 fun c l=>Own c G (F)/\l= [(4,B b1)]) e w) X|.inr X=>(fun e1 ex e w=>ex= .exit 0/\(Jn c0 fun c l=>Own c G (F)/\l= []) e w) X) ?_ ?_ ?_)))))))))))
 ·clear T h8;intro a b2 h0 c1 H;revert h0 c1;rintro x y ⟨g,n1,_,rfl,n,rfl,k,rfl⟩;refine W.seq (sr (va (I a.2) (va (B (decide (a.2>=0))) (wln (cn H (fun j0 H=>?_) (fun j0 H=>?_))))))
  ·refine W.skip (nrm (W.seq (W.block (W.seq (sr (va (v1) (va (I a.2) (bn H fun Z E H=>?_))))))));obtain ⟨h1,k0,w0⟩:=Sl.at (f.mono n) (aU E);obtain rfl:=k0;refine vx (ix kp f.m E) (va (Qo (sb v1) (so v1+a.2.toNat*4+2)) (vx (l1 u_3 (w0 2 _ rfl)) (va (B (Z.Conj==1)) (wln (cn H (fun l0 H=>?_) (fun l0 H=>?_))))))
   ·refine sr (va (I a.1) (vv (B (decide (a.1>0))) (wln (W.ret (thr (bkr (thr ?_)))))));cases H;exact ⟨_,rfl,⟨rfl,jn g ⟨k,rfl⟩⟩⟩
   refine W.skip (nrm (bn H fun u d b=>W.seqJ (Jn g fun c l=>Own c G (F)/\l= [(0,v1),(5,I u),(6,I a.2)]) ?_ ?_))
   ·refine sr (va (v1) (va (I a.2) (bn d fun a0 M d=>?_)));obtain ⟨i1,m0,x0⟩:=Sl.at (f.mono n) (aU M);obtain rfl:=m0;refine vx (ix kp f.m M) (va (Qo (sb v1) (so v1+a.2.toNat*4+2)) (vx (l1 u_3 (x0 2 _ rfl)) (va (B (a0.Conj==2)) (wln (cn d (fun o0 d=>?_) (fun o0 d=>?_))))))
    ·refine W.region (va (I a.1) (vv (I (w64 (a.1+1))) (wln ?_)));cases d;exact jn g ⟨k,rfl⟩
    refine W.skip (nrm ?_);cases d;exact jn g ⟨k,rfl⟩
   rintro x y ⟨p,q1,_,rfl,S,rfl,z,rfl⟩;refine W.seq (bn b fun q N b=>bn b fun U P b=>W.join (Jn p fun c l=>Own c G (F)/\l= [(0,v1),(5,I u),(6,I a.2),(48,B U)]) ?_ ?_)
   ·clear b;refine W.region (va (v1) (va (I a.2) ?_));obtain ⟨j1,s0,y0⟩:=Sl.at (f.mono (n.trans S)) (aU N);obtain rfl:=s0;refine vx (ix kp f.m N) (va (Qo (sb v1) (so v1+a.2.toNat*4+2)) (vx (l1 u_3 (y0 2 _ rfl)) (va (B (q.Conj != 2)) ?_)));rcases bo (q.Conj != 2) with h|h
    ·have o:=anT h P;refine vb h (wa (v1) (wa (I a.2) (wn (bn o fun s R o=>?_))));obtain ⟨k1,t0,z0⟩:=Sl.at (f.mono (n.trans S)) (aU R);obtain rfl:=t0;refine vx (ix kp f.m R) (wa (Qo (sb v1) (so v1+a.2.toNat*4+2)) (wn (vx (l1 u_3 (z0 2 _ rfl)) (wa (B (s.Conj != 3)) ?_))));cases o;exact va (B (s.Conj != 3)) (wln (jn p ⟨z,rfl⟩))
    obtain rfl:=anF h P;exact vb h (pz (pz (pz (va (B false) (wln (jn p ⟨z,rfl⟩))))))
   rintro x y ⟨D,s1,_,rfl,w1,rfl,A,rfl⟩;refine nrm (cn b (fun u0 b=>?_) (fun u0 b=>?_))
   ·refine sr (va (B false) (wln (W.ret (bkr (thr ?_)))));cases b;exact ⟨_,rfl,⟨rfl,jn D ⟨A,rfl⟩⟩⟩
   refine W.skip (bkn (nrm (W.region (va (I a.2) (vv (I (w64 (a.2-1))) (WL.nil ?_))))));cases b;exact ⟨_,rfl,jn D ⟨A,rfl⟩⟩
  refine W.exit (thx ?_);cases H;exact ⟨_,rfl,rfl,jn g ⟨k,rfl⟩⟩
 ·exact jn c0 ⟨O0,rfl⟩
 rcases i with i|i
 ·intro i0; revert i0;rintro _ x y ⟨rfl,f0,t1,_,rfl,x1,rfl,d0,rfl⟩;refine bkr (thr ?_);cases T;exact r1 (qq f0 ⟨d0,rfl⟩)
 rintro _ x y ⟨rfl,g0,u1,_,rfl,y1,rfl,e0,rfl⟩;refine bke (nrm (sr (va (B false) (wln (W.ret ?_)))));cases T;exact r1 (qq g0 ⟨e0,rfl⟩)
def fg (p0:List aw) (p1:Int):Option (Bool):=
 (idx p0 p1).bind fun j=>
 (orE (!j.Pict) (some (decide (p1<2)))).bind fun i=>
 (orE i ((idx p0 (w64 (p1-1))).bind fun e=>
 some (e.Break != 5))).bind fun c=>
 (orE c ((idx p0 (w64 (p1-1))).bind fun f=>
 some f.Pict)).bind fun d=>
 if d=true then
 some false
 else
 (cL (σ:=Int) (τ:=Bool ⊕ Unit) (((w64 (p1-2))-0).toNat+2) (fun b=>
 if (decide (b>=0))=true then
 (idx p0 b).bind fun g=>
 if g.Pict=true then
 some (.inr (.inl true))
 else
 (idx p0 b).bind fun h=>
 if (h.Break != 4)=true then
 some (.inr (.inl false))
 else
 some (.inl ((w64 (b-1))))
 else
 some (.inr (.inr ()))) ((w64 (p1-2)))).bind fun a=>
 match a with
 | .inl a=>
 some a
 | .inr a=>
 some false
theorem pA (u:Own c0 G F) (p0:List aw) (b:Int){r:Bool}(d:Sl cJ c0 v1 p0) (H:fg p0 b=some r): Calls prog 204 #[v1,I b] c0.w (aR c0 fun c v=>Own c G (F)/\v=B r):=by
 unfold fg at H;refine en func204 rfl rfl (sr (va (B false) (wln (W.seq (W.seq (bn H fun U h3 H=>bn H fun u1 h4 H=>bn H fun i1 h5 H=>bn H fun X x H=>W.join (Jn c0 fun c l=>Own c G (F)/\l= [(0,v1),(1,I b),(32,B X)]) ?_ ?_))))))
 ·clear H;refine W.region (va (v1) (va (I b) ?_));obtain ⟨d2,h8,m9⟩:=Sl.at d (aU h3);obtain rfl:=h8;refine vx (ix kp d h3) (va (Qo (sb v1) (so v1+b.toNat*4+1)) (vx (l1 u_4 (m9 1 _ rfl)) (va (B (!U.Pict)) ?_)));rcases bo (!U.Pict) with g|g
  ·obtain rfl:=orT g h4;refine vb g (pz (va (B true) ?_));have z:true=true:=rfl;obtain rfl:=orT z h5;refine vb z (pz (pz (pz (ps (va (B true) ?_)))));have A:true=true:=rfl;obtain rfl:=orT A x;exact vb A (pz (pz (pz (va (B true) (wln (jn c0 ⟨u,rfl⟩))))))
  have g0:=orF g h4;refine vb g (wa (I b) (wa (B (decide (b<2))) ?_));cases g0;refine va (B (decide (b<2))) ?_;rcases bo (decide (b<2)) with h|h
  ·obtain rfl:=orT h h5;refine vb h (pz (pz (pz (ps (va (B true) ?_)))));have D:true=true:=rfl;obtain rfl:=orT D x;exact vb D (pz (pz (pz (va (B true) (wln (jn c0 ⟨u,rfl⟩))))))
  have p:=orF h h5;refine vb h (wa (v1) (wa (I b) (wa (I (w64 (b-1))) (wn (bn p fun k E p=>?_)))));obtain ⟨k1,o0,a1⟩:=Sl.at d (aU E);obtain rfl:=o0;refine vx (ix kp d E) (wa (Qo (sb v1) (so v1+(w64 (b-1)).toNat*4)) (wn (vx (l1 u_3 (a1 0 _ rfl)) (wa (B (k.Break != 5)) ?_))));cases p;refine va (B (k.Break != 5)) ?_;rcases bo (k.Break != 5) with i|i
  ·obtain rfl:=orT i x;exact vb i (pz (pz (pz (va (B true) (wln (jn c0 ⟨u,rfl⟩))))))
  have q:=orF i x;refine vb i (wa (v1) (wa (I b) (wa (I (w64 (b-1))) (wn (bn q fun e0 M q=>?_)))));obtain ⟨m1,q0,b1⟩:=Sl.at d (aU M);obtain rfl:=q0;refine vx (ix kp d M) (wa (Qo (sb v1) (so v1+(w64 (b-1)).toNat*4+1)) (wn (vx (l1 u_4 (b1 1 _ rfl)) ?_)));cases q;exact va (B e0.Pict) (wln (jn c0 ⟨u,rfl⟩))
 rintro Z w_ ⟨f,w1,_,rfl,S,rfl,y,rfl⟩;refine nrm (cn H (fun t0 H=>?_) (fun t0 H=>?_))
 ·refine sr (va (B false) (wln (W.ret (thr ?_))));cases H;exact r1 (qq f ⟨y,rfl⟩)
 refine W.skip (nrm (W.seq (sr (va (I b) (vv (I (w64 (b-2))) (wln (W.block (bn H fun j N s=>lp N (fun a=>Jn f fun c l=>Own c G (F)/\l= [(0,v1),(5,I a)]) (fun t=>match t with|.inl x_=>(fun f1 ex e w=>ex= .ret/\(Jn f fun c l=>Own c G (F)/\l= [(4,B f1)]) e w) x_|.inr x_=>(fun h1 ex e w=>ex= .exit 0/\(Jn f fun c l=>Own c G (F)/\l= []) e w) x_) ?_ ?_ ?_))))))))
 ·clear s N;intro a e2 l0 g1 H;revert l0 g1;rintro Z w_ ⟨o,x1,_,rfl,T,rfl,n,rfl⟩;refine W.seq (sr (va (I a) (va (B (decide (a>=0))) (wln (cn H (fun v0 H=>?_) (fun v0 H=>?_))))))
  ·refine W.skip (nrm (W.seq (W.block (W.seq (sr (va (v1) (va (I a) (bn H fun t1 P H=>?_))))))));obtain ⟨n1,w0,c1⟩:=Sl.at (d.mono (S.trans T)) (aU P);obtain rfl:=w0;refine vx (ix kp d.m P) (va (Qo (sb v1) (so v1+a.toNat*4+1)) (vx (l1 u_4 (c1 1 _ rfl)) (wln (cn H (fun x0 H=>?_) (fun x0 H=>?_)))))
   ·refine sr (va (B true) (wln (W.ret (thr (bkr (thr ?_))))));cases H;exact ⟨_,rfl,⟨rfl,jn o ⟨n,rfl⟩⟩⟩
   refine W.skip (nrm (sr (va (v1) (va (I a) (bn H fun f0 R H=>?_)))));obtain ⟨q1,y0,d1⟩:=Sl.at (d.mono (S.trans T)) (aU R);obtain rfl:=y0;refine vx (ix kp d.m R) (va (Qo (sb v1) (so v1+a.toNat*4)) (vx (l1 u_3 (d1 0 _ rfl)) (va (B (f0.Break != 4)) (wln (cn H (fun z0 H=>?_) (fun z0 H=>?_))))))
   ·refine sr (va (B false) (wln (W.ret (bkr (thr ?_)))));cases H;exact ⟨_,rfl,⟨rfl,jn o ⟨n,rfl⟩⟩⟩
   refine W.skip (bkn (nrm (W.region (va (I a) (vv (I (w64 (a-1))) (WL.nil ?_))))));cases H;exact ⟨_,rfl,jn o ⟨n,rfl⟩⟩
  refine W.exit (thx ?_);cases H;exact ⟨_,rfl,rfl,jn o ⟨n,rfl⟩⟩
 ·exact jn f ⟨y,rfl⟩
 rcases j with j|j
 ·intro m0; revert m0;rintro _ Z w_ ⟨rfl,j0,y1,_,rfl,b2,rfl,h0,rfl⟩;refine bkr (thr ?_);cases s;exact r1 (qq j0 ⟨h0,rfl⟩)
 rintro _ Z w_ ⟨rfl,k0,z1,_,rfl,c2,rfl,i0,rfl⟩;refine bke (nrm (sr (va (B false) (wln (W.ret ?_)))));cases s;exact r1 (qq k0 ⟨i0,rfl⟩)
def eD (p0:List aw) (p1:Int):Option (Bool):=
 (orE (decide (p1<1)) (some (decide (p1>=(p0.length:Int))))).bind fun n=>
 if n=true then
 some false
 else
 (idx p0 (w64 (p1-1))).bind fun h=>
 (idx p0 p1).bind fun i=>
 (dg h.Break i.Break).bind fun b=>
 (orE (b==1) ((eH p0 p1).bind fun j=>
 some j)).bind fun c=>
 (orE c ((fg p0 p1).bind fun k=>
 some k)).bind fun d=>
 if d=true then
 some true
 else
 (orE (b != 2) ((idx p0 p1).bind fun l=>
 some (l.Break != 6))).bind fun e=>
 if e=true then
 some false
 else
 (cL (σ:=Int×Int) (τ:=Int) (((w64 (p1-1))-0).toNat+2) (fun a=>
 (bT (decide (a.2>=0)) ((idx p0 a.2).bind fun m=>
 some (m.Break==6))).bind fun f=>
 if f=true then
 some (.inl ((w64 (a.1+1)),(w64 (a.2-1))))
 else
 some (.inr (a.1))) (0,(w64 (p1-1)))).bind fun g=>
 some ((g.tmod 2)==1)
theorem qs (O0:Own c0 G F) (q:List aw) (b:Int){r:Bool}(f:Sl cJ c0 v1 q) (H:eD q b=some r): Calls prog 133 #[v1,I b] c0.w (aR c0 fun c v=>Own c G (F)/\v=B r):=by
 unfold eD at H;refine en func133 rfl rfl (sr (va (B false) (wln (W.seq (W.seq (bn H fun m1 h3 H=>W.join (Jn c0 fun c l=>Own c G (F)/\l= [(0,v1),(1,I b),(15,B m1)]) ?_ ?_))))))
 ·clear H;refine W.region (va (I b) (va (B (decide (b<1))) ?_));rcases bo (decide (b<1)) with M|M
  ·obtain rfl:=orT M h3;exact vb M (pz (pz (va (B true) (wln (jn c0 ⟨O0,rfl⟩)))))
  have H5:=orF M h3;refine vb M (wa (I b) (wa (v1) (wn (vx (ln 3 kp f) (wa (B (decide (b>=(q.length:Int)))) ?_)))));cases H5;exact va (B (decide (b>=(q.length:Int)))) (wln (jn c0 ⟨O0,rfl⟩))
 rintro D P ⟨c6,g7,_,rfl,U,rfl,O8,rfl⟩;refine nrm (cn H (fun q1 H=>?_) (fun q1 H=>?_))
 ·refine sr (va (B false) (wln (W.ret (thr ?_))));cases H;exact r1 (qq c6 ⟨O8,rfl⟩)
 refine W.skip (nrm (W.seq (rD [] (Kp G0 []) O8 ?_)));intro h1 p d1;have f3:Kp G0 [] h1:=Kp.nil0;refine ta 0 (v1) (ta 1 (I b) (ta 2 (I (w64 (b-1))) (bn H fun z0 h0 H=>?_)));obtain ⟨s2,s1,i2⟩:=Sl.at (f.mono (U.trans p)) (aU h0);obtain rfl:=s1;refine tx 3 (fun c' N=>ix kp f.m h0) (ta 4 (Qo (sb v1) (so v1+(w64 (b-1)).toNat*4)) (tx 5 (fun c' N=>l1 u_3 ((mm i2) 0 _ rfl)) (ta 6 (v1) (ta 7 (I b) (bn H fun a1 i0 H=>?_)))));obtain ⟨t2,t1,j2⟩:=Sl.at (f.mono (U.trans p)) (aU i0);obtain rfl:=t1;refine tx 8 (fun c' N=>ix kp f.m i0) (ta 9 (Qo (sb v1) (so v1+b.toNat*4)) (tx 10 (fun c' N=>l1 u_3 ((mm j2) 0 _ rfl)) (bn H fun d u1 H=>o1 11 (gc 11 (rF d1 z0.Break a1.Break u1) ?_))));rintro v30 z t0 ⟨a0,rfl⟩;have m2:Kp G0 [] z:=Kp.nil0;refine ⟨.inr m2,ta 12 (I d) (dn (nrm (W.seq (W.seq (bn H fun q2 j0 H=>bn H fun w0 E H=>W.join (Jn z fun c l=>Own c G (F)/\l= [(0,v1),(1,I b),(5,I d),(39,B w0)]) ?_ ?_)))))⟩
 ·clear H;refine W.region (va (I d) (va (B (d==1)) ?_));rcases bo (d==1) with h|h
  ·obtain rfl:=orT h j0;refine vb h (pz (ps (va (B true) ?_)));have k0:true=true:=rfl;obtain rfl:=orT k0 E;exact vb k0 (pz (ps (va (B true) (wln (jn z ⟨a0,rfl⟩)))))
  have s:=orF h j0;refine vb h (wa (v1) (wa (I b) (wn (bn s fun R x1 s=>cl (oM a0 q b f.m x1) ?_))));rintro v43 i1 b3 ⟨b0,rfl⟩;obtain rfl:=si s;refine va (B R) ?_;rcases bo (R) with i|i
  ·obtain rfl:=orT i E;exact vb i (pz (ps (va (B true) (wln (jn i1 ⟨b0,rfl⟩)))))
  have t:=orF i E;refine vb i (wa (v1) (wa (I b) (wn (bn t fun b1 y1 t=>cl (pA b0 q b f.m y1) ?_))));rintro v52 j1 c3 ⟨e1,rfl⟩;obtain rfl:=si t;exact va (B b1) (wln (jn j1 ⟨e1,rfl⟩))
 rintro D P ⟨n,w2,_,rfl,u0,rfl,y,rfl⟩;refine nrm (cn H (fun z1 H=>?_) (fun z1 H=>?_))
 ·refine sr (va (B true) (wln (W.ret (thr ?_))));cases H;exact r1 (qq n ⟨y,rfl⟩)
 refine W.skip (nrm (W.seq (W.seq (bn H fun x0 l0 H=>W.join (Jn n fun c l=>Own c G (F)/\l= [(0,v1),(1,I b),(49,B x0)]) ?_ ?_))))
 ·clear H;refine W.region (va (I d) (va (B (d != 2)) ?_));rcases bo (d != 2) with j|j
  ·obtain rfl:=orT j l0;exact vb j (pz (pz (pz (va (B true) (wln (jn n ⟨y,rfl⟩))))))
  have u:=orF j l0;refine vb j (wa (v1) (wa (I b) (wn (bn u fun S m0 u=>?_))));obtain ⟨u2,b2,k2⟩:=Sl.at (f.mono (U.trans (p.trans (t0.trans u0)))) (aU m0);obtain rfl:=b2;refine vx (ix kp f.m m0) (wa (Qo (sb v1) (so v1+b.toNat*4)) (wn (vx (l1 u_3 (k2 0 _ rfl)) (wa (B (S.Break != 6)) ?_))));cases u;exact va (B (S.Break != 6)) (wln (jn n ⟨y,rfl⟩))
 rintro D P ⟨o,x2,_,rfl,f2,rfl,d0,rfl⟩;refine nrm (cn H (fun c2 H=>?_) (fun c2 H=>?_))
 ·refine sr (va (B false) (wln (W.ret (thr ?_))));cases H;exact r1 (qq o ⟨d0,rfl⟩)
 refine W.skip (nrm (sr (va (I 0) (wln (W.seq (sr (va (I b) (vv (I (w64 (b-1))) (wln (W.block (bn H fun g o0 Z=>lp o0 (fun a=>Jn o fun c l=>Own c G (F)/\l= [(0,v1),(6,I a.1),(7,I a.2)]) (fun X ex e w=>ex= .exit 0/\(Jn o fun c l=>Own c G (F)/\l= [(6,I X)]) e w) ?_ ?_ ?_)))))))))))
 ·clear Z o0;intro a g3 n1 n2 H;revert n1 n2;rintro D P ⟨A,y2,_,rfl,g2,rfl,e0,rfl⟩;refine W.seq (W.seq (bn H fun y0 q0 H=>W.join (Jn A fun c l=>Own c G (F)/\l= [(0,v1),(6,I a.1),(7,I a.2),(61,B y0)]) ?_ ?_))
  ·clear H;refine W.region (va (I a.2) (va (B (decide (a.2>=0))) ?_));rcases bo (decide (a.2>=0)) with k|k
   ·have x:=anT k q0;refine vb k (wa (v1) (wa (I a.2) (wn (bn x fun T s0 x=>?_))));obtain ⟨v2,d2,l2⟩:=Sl.at (f.mono (U.trans (p.trans (t0.trans (u0.trans (f2.trans g2)))))) (aU s0);obtain rfl:=d2;refine vx (ix kp f.m s0) (wa (Qo (sb v1) (so v1+a.2.toNat*4)) (wn (vx (l1 u_3 (l2 0 _ rfl)) (wa (B (T.Break==6)) ?_))));cases x;exact va (B (T.Break==6)) (wln (jn A ⟨e0,rfl⟩))
   obtain rfl:=anF k q0;exact vb k (pz (pz (pz (va (B false) (wln (jn A ⟨e0,rfl⟩))))))
  rintro D P ⟨g0,z2,_,rfl,d3,rfl,f0,rfl⟩;refine nrm (cn H (fun e2 H=>?_) (fun e2 H=>?_))
  ·refine W.skip (nrm (W.seq (W.block (W.region (va (I a.1) (vv (I (w64 (a.1+1))) (WL.nil (bkn (nrm (W.region (va (I a.2) (vv (I (w64 (a.2-1))) (WL.nil ?_)))))))))))));cases H;exact ⟨_,rfl,jn g0 ⟨f0,rfl⟩⟩
  refine W.exit (thx ?_);cases H;exact ⟨_,rfl,rfl,jn g0 ⟨f0,rfl⟩⟩
 ·exact jn o ⟨d0,rfl⟩
 rintro _ D P ⟨rfl,k1,a3,_,rfl,e3,rfl,g1,rfl⟩;refine bke (nrm (sr (va (I g) (va (I (g.tmod 2)) (vv (B ((g.tmod 2)==1)) (wln (W.ret ?_)))))));cases Z;exact r1 (qq k1 ⟨g1,rfl⟩)
def fA (p0:List Int):Option (List Int):=
 (fO p0).bind fun b=>
 (cL (σ:=(List Int)×Int) (τ:=(List Int)) (((b.length:Int)-0).toNat+1) (fun a=>
 if (decide (a.2<(b.length:Int)))=true then
 ((eD b a.2).bind fun d=>
 if (!d)=true then
 (app a.1 ([a.2]:List Int)).bind fun e=>
 some (e)
 else
 some (a.1)).bind fun f=>
 some (.inl (f,(w64 (a.2+1))))
 else
 some (.inr (a.1))) (([]:List Int),0)).bind fun c=>
 some c
theorem qb (O0:Own c0 G F) (x:List Int){r:List Int}(h2:Sl (RI .i32) c0 v1 x) (H:fA x=some r): Calls prog 85 #[v1] c0.w (aR c0 fun c v=>∃A y2,Own c G (es true (RI .i64) A 3 y2 r::F)/\v=A/\OA (RI .i64) c A y2 r):=by
 unfold fA at H;refine en func85 rfl rfl (sr (va (Y) (wln (sr (va (Y) (wln (sr (va (v1) (bn H fun f h3 H=>cl (qr O0 x h2 h3) ?_)))))))));rintro v4 k q1 ⟨_,y,O8,rfl,u⟩;refine va (v4) (wln (W.seq (sr (va (I 0) (wln (W.block (bn H fun g1 t p=>lp t (fun a=>Jn k fun c l=>∃v15 d,Own c G (es true (RI .i64) v15 3 d a.1::es false cJ v4 238 y f::F)/\l= [(3,v15),(4,v4),(5,I a.2)]/\OA (RI .i64) c v15 d a.1) (fun g ex e w=>ex= .exit 0/\(Jn k fun c l=>∃v17 h,Own c G (es true (RI .i64) v17 3 h g::es false cJ v4 238 y f::F)/\l= [(3,v17)]/\OA (RI .i64) c v17 h g) e w) ?_ ?_ ?_)))))))
 ·clear p t;intro a d2 g0 a1 H;revert g0 a1;rintro e_ w_ ⟨s,k1,_,rfl,x0,rfl,v15,d,j,rfl,n⟩;refine W.seq (sr (va (I a.2) (va (v4) (vx (lnO 3 kp u.m) (va (B (decide (a.2<(f.length:Int)))) (wln (cn H (fun h0 H=>?_) (fun h0 H=>?_))))))))
  ·refine W.skip (nrm (bn H fun o b D=>W.seqJ (Jn s fun c l=>∃v29 i,Own c G (es true (RI .i64) v29 3 i o::es false cJ v4 238 y f::F)/\l= [(3,v29),(4,v4),(5,I a.2)]/\OA (RI .i64) c v29 i o) ?_ ?_))
   ·refine W.block (sr (va (v4) (va (I a.2) ?_)));have i0:=j.slf 1 rfl (u.mono x0);refine bn b fun z j0 b=>cl (qs j f a.2 i0 j0) ?_;rintro v38 Z s1 ⟨q,rfl⟩;refine va (B (!z)) (wln (cn b (fun k0 b=>?_) (fun k0 b=>?_)))
    ·refine W.region (va (v15) (va (I a.2) (me (sl (RI .i64) 3 [[I a.2]] ([a.2]:List Int) q ⟨rfl,trivial⟩) ?_)));rintro v44 i1 t1 ⟨c2,E,l0⟩;obtain ⟨j1,o0,u1,M,m0⟩:=E.frz 0 rfl l0;refine WL.gh o0 (bn b fun h1 q0 b=>me (ap (RI .i64) (I 0) 8 89 1 M n.m m0 q0 lm) ?_);rintro v54 a0 w1 ⟨y0,N,s0⟩;refine va (v54) (WL.nil (bkn (nrm ?_)));cases b;have P:=N.sD 3 [1,2];exact jn a0 ⟨v54,y0,P,rfl,s0⟩
    refine W.skip (bkn (nrm ?_));cases b;exact jn Z ⟨v15,d,q,rfl,n.m⟩
   rintro e_ w_ ⟨b0,m1,_,rfl,x1,rfl,v29,i,R,rfl,t0⟩;refine W.region (va (I a.2) (vv (I (w64 (a.2+1))) (WL.nil ?_)));cases D;exact ⟨_,rfl,jn b0 ⟨v29,i,R,rfl,t0⟩⟩
  refine W.exit (thx ?_);cases H;exact ⟨_,rfl,rfl,jn s ⟨v15,d,j,rfl,n⟩⟩
 ·have u0:OA (RI .i64) k (Y) [] []:=OA.nil (aN _);have S:=O8.addHole (e:=es true (RI .i64) (Y) 3 [] ([]:List Int)) rfl;obtain ⟨d0,v0,z1,T,p1⟩:=S.frz 1 rfl u;exact ⟨d0,_,_,v0.symm,pt,us,(Y),[],T,rfl,u0.m⟩
 rintro _ e_ w_ ⟨rfl,e0,n1,_,rfl,b2,rfl,v17,h,U,rfl,w0⟩;refine bke (nrm (sr (vv (v17) (wln (W.ret ?_)))));cases p;have X:=U.sD 2 [0];exact r1 (qq e0 ⟨v17,h,X,rfl,w0⟩)
def eG (p0:List Int):Option (List (List Int)):=
 (fA p0).bind fun i=>
 (app i ([(p0.length:Int)]:List Int)).bind fun b=>
 (cL (σ:=(List (List Int))×Int) (τ:=(List (List Int))) (((b.length:Int)-(w64 (0+1))).toNat+1) (fun a=>
 if (decide ((w64 (a.2+1))<(b.length:Int)))=true then
 (idx b a.2).bind fun d=>
 (idx b (w64 (a.2+1))).bind fun e=>
 (slc p0 d e).bind fun f=>
 (app ([]:List Int) f).bind fun g=>
 (app a.1 ([g]:List (List Int))).bind fun h=>
 some (.inl (h,(w64 (a.2+1))))
 else
 some (.inr (a.1))) (([]:List (List Int)),0)).bind fun c=>
 some c
theorem oL (O0:Own c0 G F) (g:List Int){r:List (List Int)}(h2:Sl (RI .i32) c0 v1 g) (H:eG g=some r): Calls prog 40 #[v1] c0.w (aR c0 fun c v=>∃y1 y2,Own c G (es true (RL (RI .i32)) y1 32 y2 r::F)/\v=y1/\OA (RL (RI .i32)) c y1 y2 r):=by
 unfold eG at H;refine en func40 rfl rfl (sr (va (Y) (wln (sr (va (Y) (wln (sr (va (v1) (bn H fun c4 h3 H=>cl (qb O0 g h2 h3) ?_)))))))));rintro v4 m3 g2 ⟨_,u5,O8,rfl,h6⟩;refine va (v1) (vx (ln 3 dD h2.m) (me (sl (RI .i64) 3 [[I (g.length:Int)]] ([(g.length:Int)]:List Int) O8 ⟨rfl,trivial⟩) ?_));rintro v17 n3 l16 ⟨e0,s0,g1⟩;obtain ⟨o3,i1,i2,t0,h1⟩:=s0.frz 0 rfl g1;refine WL.gh i1 (bn H fun b j1 H=>me (ap (RI .i64) (I 0) 8 89 1 t0 h6.m h1 j1 lm) ?_);rintro v27 h j2 ⟨d,u0,f⟩;refine va (v27) (wln (W.seq (sr (va (I 0) (wln (W.block (bn H fun i3 Z y=>lp Z (fun a=>Jn h fun c l=>∃v30 o,Own c G (es true (RL (RI .i32)) v30 32 o a.1::es false (RI .i64) v17 3 e0 ([(g.length:Int)]:List Int)::es true (RI .i64) v27 3 d b::F)/\l= [(0,v1),(3,v30),(4,v27),(5,I a.2)]/\OA (RL (RI .i32)) c v30 o a.1) (fun n ex e w=>ex= .exit 0/\(Jn h fun c l=>∃v32 p,Own c G (es true (RL (RI .i32)) v32 32 p n::es false (RI .i64) v17 3 e0 ([(g.length:Int)]:List Int)::es true (RI .i64) v27 3 d b::F)/\l= [(3,v32)]/\OA (RL (RI .i32)) c v32 p n) e w) ?_ ?_ ?_)))))))
 ·clear y Z;intro a d4 f1 w2 H;revert f1 w2;rintro e_ w_ ⟨x0,p3,_,rfl,t,rfl,v30,o,z,rfl,a0⟩;refine W.seq (sr (va (I a.2) (va (I (w64 (a.2+1))) (va (v27) (vx (lnO 3 lm f.m) (va (B (decide ((w64 (a.2+1))<(b.length:Int)))) (wln (cn H (fun k1 H=>?_) (fun k1 H=>?_)))))))))
  ·refine W.skip (nrm (W.seq (W.block (rD [] (Kp G0 [es true (RI .i64) v27 3 d b]) z ?_))));intro y0 u A;have d0:Kp G0 [es true (RI .i64) v27 3 d b] y0:=(Kp.cons (A.on 2 rfl) Kp.nil0);refine ta 0 (v30) (ta 2 (v1) (ta 3 (v27) (ta 4 (I a.2) (bn H fun l0 q H=>tx 5 (fun x i=>ixO lm f.m q) ?_))));obtain ⟨f3,m1,m2⟩:=OA.at (f.mono (t.trans u)) q;obtain rfl:=m1;refine AC.takeK 6 (I l0) d0 rfl (by kernel_rfl) (by kernel_rfl) (by kernel_rfl) (fun x i hk=>(rx (by kernel_rfl) (lI u_3 rfl (hk.on 0 rfl) (f.m.blk q) (at1 (j:=0) m2 rfl)))) (ta 7 (v27) (ta 8 (I a.2) (ta 9 (I (w64 (a.2+1))) (bn H fun m0 s H=>tx 10 (fun x i=>ixO lm f.m s) ?_))));obtain ⟨g3,n1,n2⟩:=OA.at (f.mono (t.trans u)) s;obtain rfl:=n1;refine AC.takeK 11 (I m0) d0 rfl (by kernel_rfl) (by kernel_rfl) (by kernel_rfl) (fun x i hk=>(rx (by kernel_rfl) (lI u_3 rfl (hk.on 0 rfl) (f.m.blk s) (at1 (j:=0) n2 rfl)))) (bn H fun k3 p1 H=>?_);obtain ⟨v54,q1,s1⟩:=vF (k:= .i64) (k':= .i64) dD (by kernel_rfl) (h2.mono (g2.trans (l16.trans (i2.trans (j2.trans (t.trans u)))))) p1;refine AC.take 12 (v54) rfl (by kernel_rfl) (by kernel_rfl) (fun x i=>(rx (by kernel_rfl) (q1 _))) (o1 1 (gm 1 (sl (RI .i32) 21 [] ([]:List Int) A trivial) ?_));rintro z3 z0 q3 ⟨w3,D,t1⟩;have o2:Kp G0 [es true (RI .i64) v27 3 d b] z0:=(Kp.cons (D.on 3 rfl) Kp.nil0);refine ⟨.inr o2,bn H fun o0 u1 H=>o1 13 (gm 13 (ap (RI .i32) (J 0) 4 32 0 D t1 s1.m u1 dD) ?_)⟩;rintro a4 a1 s3 ⟨x3,E,w1⟩;have p2:Kp G0 [es true (RI .i64) v27 3 d b] a1:=(Kp.cons (E.on 3 rfl) Kp.nil0);refine ⟨.inr p2,?_⟩;obtain ⟨b1,x1,k2,M,b0⟩:=E.frz 0 rfl w1;have q2:Kp G0 [es true (RI .i64) v27 3 d b] b1:=(Kp.cons (M.on 3 rfl) Kp.nil0);refine AC.gh x1 k2 (fun _=>q2) ?_;obtain ⟨S,T,U,rfl⟩:=(b0).form;refine o1 14 (gm 14 (sl (RL (RI .i32)) 32 [[.slice S T U]] ([o0]:List (List Int)) M ⟨⟨(.slice S T U),rfl,b0⟩,trivial⟩) ?_);rintro b4 c1 t3 ⟨y3,N,z1⟩;have s2:Kp G0 [es true (RI .i64) v27 3 d b] c1:=(Kp.cons (N.on 4 rfl) Kp.nil0);refine ⟨.inr s2,?_⟩;obtain ⟨d1,c2,l2,P,b2⟩:=N.frz 0 rfl z1;have t2:Kp G0 [es true (RI .i64) v27 3 d b] d1:=(Kp.cons (P.on 4 rfl) Kp.nil0);refine AC.gh c2 l2 (fun _=>t2) (bn H fun l3 d2 H=>o1 15 (gm 15 (ap (RL (RI .i32)) (Y) 24 25 2 P a0.m b2 d2 Aj) ?_));rintro f0 X u3 ⟨v2,R,e2⟩;have u2:Kp G0 [es true (RI .i64) v27 3 d b] X:=(Kp.cons (R.on 4 rfl) Kp.nil0);refine ⟨.inr u2,ta 16 (f0) (dn (bkn (nrm (W.region (va (I a.2) (vv (I (w64 (a.2+1))) (WL.nil ?_)))))))⟩;cases H;refine ⟨_,rfl,?_⟩;have v0:=R.sD 5 [2,3,4];exact jn X ⟨f0,v2,v0,rfl,e2⟩
  refine W.exit (thx ?_);cases H;exact ⟨_,rfl,rfl,jn x0 ⟨v30,o,z,rfl,a0⟩⟩
 ·have f2:OA (RL (RI .i32)) h (Y) [] []:=OA.nil (aN _);have w0:=u0.addHole (e:=es true (RL (RI .i32)) (Y) 32 [] ([]:List (List Int))) rfl;exact jn h ⟨(Y),[],w0,rfl,f2⟩
 rintro _ e_ w_ ⟨rfl,e1,c3,_,rfl,v3,rfl,v32,p,g0,rfl,i0⟩;refine bke (nrm (sr (vv (v32) (wln (W.ret ?_)))));cases y;have h0:=g0.sD 3 [0];exact r1 (qq e1 ⟨v32,p,h0,rfl,i0⟩)
def eC (p0:List Int):Option (List Int):=
 (slc p0 0 (aB (p0.length:Int) 16)).bind fun a=>
 (app ([]:List Int) a).bind fun b=>
 some b
theorem mJ (n:Own c0 G F) (a:List Int){r:List Int}(j:Sl (RI .i32) c0 v1 a) (H:eC a=some r): Calls prog 130 #[v1] c0.w (aR c0 fun c v=>∃b l,Own c G (es true (RI .i32) b 21 l r::F)/\v=b/\OA (RI .i32) c b l r):=by
 unfold eC at H;refine en func130 rfl rfl (sr (va (Y) (wln (sr (me (sl (RI .i32) 21 [] ([]:List Int) n trivial) ?_)))));rintro v7 x s ⟨y,o,p⟩;refine vv (v1) (vx (ln 3 dD j.m) (va (I (aB (a.length:Int) 16)) (bn H fun t q H=>?_)));obtain ⟨v9,f,g⟩:=vU (k':= .i64) dD (by kernel_rfl) (j.mono s) q;refine vr v9 (rx (by kernel_rfl) (f _)) (bn H fun u h H=>me (ap (RI .i32) (J 0) 4 32 0 o p g h dD) ?_);rintro v17 e l16 ⟨k,d,i⟩;refine va (v17) (wln (W.ret ?_));cases H;exact r1 (qq e ⟨v17,k,d,rfl,i⟩)
def jS (p0:List Int):Option (Int):=
 (cL (σ:=(List aw)×Int) (τ:=(List aw)) (((p0.length:Int)-0).toNat+1) (fun a=>
 if (decide (a.2<(p0.length:Int)))=true then
 (idx p0 a.2).bind fun b=>
 (dW b).bind fun c=>
 (app a.1 ([c]:List aw)).bind fun d=>
 some (.inl (d,(w64 (a.2+1))))
 else
 some (.inr (a.1))) (([]:List aw),0)).bind fun f=>
 (gS p0 f).bind fun e=>
 some e
theorem td (O0:Own c0 G F) (h:List Int){r:Int}(g:Sl (RI .i32) c0 v1 h) (H:jS h=some r): Calls prog 148 #[v1] c0.w (aR c0 fun c v=>Own c G (F)/\v=I r):=by
 unfold jS at H;refine en func148 rfl rfl (sr (va (I 0) (wln (sr (va (Y) (wln (W.seq (sr (va (I 0) (wln (W.block (bn H fun l0 X f=>lp X (fun a=>Jn c0 fun c l=>∃v5 i,Own c G (es true cJ v5 238 i a.1::F)/\l= [(0,v1),(3,v5),(4,I a.2)]/\OA cJ c v5 i a.1) (fun d ex e w=>ex= .exit 0/\(Jn c0 fun c l=>∃v7 o,Own c G (es true cJ v7 238 o d::F)/\l= [(0,v1),(3,v7)]/\OA cJ c v7 o d) e w) ?_ ?_ ?_))))))))))))
 ·clear f X;intro a q1 R o0 H;revert R o0;rintro e_ w_ ⟨c9,d1,_,rfl,l9,rfl,v5,i,j,rfl,k⟩;refine W.seq (sr (va (I a.2) (va (v1) (vx (ln 3 dD g.m) (va (B (decide (a.2<(h.length:Int)))) (wln (cn H (fun S H=>?_) (fun S H=>?_))))))))
  ·refine W.skip (nrm (W.seq (W.block (W.region (va (v5) (va (v1) (va (I a.2) (bn H fun p n H=>?_))))))));obtain ⟨v0,T,k0⟩:=Sl.at (g.mono l9) (aU n);obtain rfl:=T;refine vx (ix dD g.m n) (vx (l1 nb (k0 0 _ rfl)) (bn H fun b U H=>cl (oa j p U) ?_));rintro v27 y0 f1 ⟨s,rfl⟩;refine me (sl cJ 238 [[I b.Break,B b.Pict,I b.Conj,I b.East]] ([b]:List aw) s ⟨rfl,trivial⟩) ?_;rintro v32 z0 g1 ⟨n1,t,Z⟩;obtain ⟨a1,b0,h1,u,a0⟩:=t.frz 0 rfl Z;refine WL.gh b0 (bn H fun x0 d0 H=>me (ap cJ (.agg #[I 0,B false,I 0,I 0]) 32 191 1 u k.m a0 d0 kp) ?_);rintro v42 N i1 ⟨m0,x,e0⟩;refine va (v42) (WL.nil (bkn (nrm (W.region (va (I a.2) (vv (I (w64 (a.2+1))) (WL.nil ?_)))))));cases H;refine ⟨_,rfl,?_⟩;have y:=x.sD 2 [1];exact jn N ⟨v42,m0,y,rfl,e0⟩
  refine W.exit (thx ?_);cases H;exact ⟨_,rfl,rfl,jn c9 ⟨v5,i,j,rfl,k⟩⟩
 ·have f0:OA cJ c0 (Y) [] []:=OA.nil (aN _);have z:=O0.addHole (e:=es true cJ (Y) 238 [] ([]:List aw)) rfl;exact jn c0 ⟨(Y),[],z,rfl,f0⟩
 rintro _ e_ w_ ⟨rfl,b1,e1,_,rfl,j1,rfl,v7,o,A,rfl,g0⟩;refine bke (nrm (sr (va (v1) (va (v7) ?_))));obtain ⟨c1,i0,k1,D,h0⟩:=A.frz 0 rfl g0;refine WL.gh i0 (bn f fun q j0 f=>cl (su D h l0 g.m h0 j0) ?_);rintro p1 P m1 ⟨E,rfl⟩;refine va (I q) (wln (W.ret ?_));cases f;have M:=E.sD 1 [];exact r1 (qq P ⟨M,rfl⟩)
def gE (p0:List Int):Option (Int):=
 (idx p0 0).bind fun c=>
 (dy c).bind fun d=>
 if d=true then
 some 0
 else
 (eC p0).bind fun a=>
 (jS a).bind fun b=>
 some b
theorem rC (y:Own c0 G F) (b:List Int){r:Int}(a:Sl (RI .i32) c0 v1 b) (H:gE b=some r): Calls prog 129 #[v1] c0.w (aR c0 fun c v=>Own c G (F)/\v=I r):=by
 unfold gE at H;refine en func129 rfl rfl (sr (va (I 0) (wln (W.seq (sr (va (v1) (bn H fun x u H=>?_)))))));obtain ⟨T,z,D⟩:=Sl.at a (aU u);obtain rfl:=z;refine vx (ix dD a u) (vx (l1 nb (D 0 _ rfl)) (bn H fun X A H=>cl (jV y x A) ?_));rintro v13 k N ⟨j,rfl⟩;refine wln (cn H (fun n H=>?_) (fun n H=>?_))
 ·refine sr (va (I 0) (wln (W.ret (thr ?_))));cases H;exact r1 (qq k ⟨j,rfl⟩)
 refine W.skip (nrm (sr (va (v1) (bn H fun d o H=>cl (mJ j b a.m o) ?_))));rintro v16 E P ⟨_,U,f,rfl,p⟩;obtain ⟨M,s,R,g,q⟩:=f.frz 0 rfl p;refine WL.gh s (bn H fun e t H=>cl (td g d q t) ?_);rintro v35 l S ⟨h,rfl⟩;refine va (I e) (wln (W.ret ?_));cases H;have i:=h.sD 1 [];exact r1 (qq l ⟨i,rfl⟩)
def gO (p0:aa) (p1:List Int):Option (aa):=
 (eG p1).bind fun c=>
 (cL (σ:=Int×(List aj)×Int×Int×Bool×Bool) (τ:=((List aj)×Int×Int×Bool×Bool)) (((c.length:Int)-0).toNat+1) (fun a=>
 if (decide (a.1<(c.length:Int)))=true then
 ((idx c a.1).bind fun j=>
 (idx j 0).bind fun k=>
 (dy k).bind fun l=>
 if (!l)=true then
 (idx c a.1).bind fun m=>
 (idx c a.1).bind fun n=>
 (gE m).bind fun o=>
 (eC n).bind fun p=>
 (be (⟨a.2.1,(⟨a.2.2.1,a.2.2.2.1,a.2.2.2.2.1⟩:ai),a.2.2.2.2.2⟩:aa) o p).bind fun f=>
 some (f.1.L,f.1.At.Row,f.1.At.Col,f.1.At.Pending,f.1.Auto)
 else
 (idx c a.1).bind fun i=>
 (cL (σ:=Int×(List aj)×Int×Int×Bool×Bool) (τ:=((List aj)×Int×Int×Bool×Bool)) (((i.length:Int)-0).toNat+1) (fun b=>
 (idx c a.1).bind fun q=>
 if (decide (b.1<(q.length:Int)))=true then
 (idx c a.1).bind fun r=>
 (idx r b.1).bind fun s=>
 (cI (⟨b.2.1,(⟨b.2.2.1,b.2.2.2.1,b.2.2.2.2.1⟩:ai),b.2.2.2.2.2⟩:aa) s).bind fun g=>
 some (.inl ((w64 (b.1+1)),g.1.L,g.1.At.Row,g.1.At.Col,g.1.At.Pending,g.1.Auto))
 else
 some (.inr (b.2.1,b.2.2.1,b.2.2.2.1,b.2.2.2.2.1,b.2.2.2.2.2))) (0,a.2.1,a.2.2.1,a.2.2.2.1,a.2.2.2.2.1,a.2.2.2.2.2)).bind fun e=>
 some (e.1,e.2.1,e.2.2.1,e.2.2.2.1,e.2.2.2.2)).bind fun h=>
 some (.inl ((w64 (a.1+1)),h.1,h.2.1,h.2.2.1,h.2.2.2.1,h.2.2.2.2))
 else
 some (.inr (a.2.1,a.2.2.1,a.2.2.2.1,a.2.2.2.2.1,a.2.2.2.2.2))) (0,p0.L,p0.At.Row,p0.At.Col,p0.At.Pending,p0.Auto)).bind fun d=>
 some (⟨d.1,(⟨d.2.1,d.2.2.1,d.2.2.2.1⟩:ai),d.2.2.2.2⟩:aa)
theorem sk (O0:Own c0 G F) (y:aa) (p1:List Int){r:aa}(h2:Sl am c0 v1 y.L) (h4:Sl (RI .i32) c0 v3 p1) (H:gO y p1=some r): Calls prog 84 #[.agg #[v1,I y.At.Row,I y.At.Col,B y.At.Pending,B y.Auto],v3] c0.w (aR c0 fun c v=>∃y1,Own c G (F)/\v= .agg #[y1,I r.At.Row,I r.At.Col,B r.At.Pending,B r.Auto]/\Sl am c y1 r.L):=by
 unfold gO at H;refine en func84 rfl rfl (sr ?_);obtain ⟨a5,a6,a7,rfl⟩:=(h2).form;refine me (al 31 [.slice a5 a6 a7,I y.At.Row,I y.At.Col,B y.At.Pending,B y.Auto] O0) ?_;rintro v11 u6 x6 ⟨o,rfl,O9⟩;refine me (al 31 [Y,I 0,I 0,B false,B false] O9) ?_;rintro v15 v6 y6 ⟨q,rfl,a4⟩;refine wln (sr (va (v3) (bn H fun k k4 H=>cl (oL a4 p1 h4.m k4) ?_)));rintro v17 x0 z6 ⟨_,n,b4,rfl,i⟩;refine va (v17) (wln (W.seq (sr (va (I 0) (wln (W.block (bn H fun h x1 t1=>lp x1 (fun a=>Jn x0 fun c l=>∃v28,Own c G (es true (RL (RI .i32)) v17 32 n k::(Eb q 31 [Y,I 0,I 0,B false,B false])::(Eb o 31 [v28,I a.2.2.1,I a.2.2.2.1,B a.2.2.2.2.1,B a.2.2.2.2.2])::F)/\l= [(2,Q o),(4,Q q),(5,v17),(6,I a.1)]/\Sl am c v28 a.2.1) (fun t ex e w=>ex= .exit 0/\(Jn x0 fun c l=>∃v29,Own c G (es true (RL (RI .i32)) v17 32 n k::(Eb q 31 [Y,I 0,I 0,B false,B false])::(Eb o 31 [v29,I t.2.1,I t.2.2.1,B t.2.2.2.1,B t.2.2.2.2])::F)/\l= [(2,Q o),(4,Q q)]/\Sl am c v29 t.1) e w) ?_ ?_ ?_)))))))
 ·clear t1 x1;intro a m5 z0 n1 H;revert z0 n1;rintro e_ w_ ⟨w1,w6,_,rfl,E,rfl,v28,i0,rfl,e1⟩;refine W.seq (sr (va (I a.1) (va (v17) (vx (lnO 3 Aj i.m) (va (B (decide (a.1<(k.length:Int)))) (wln (cn H (fun m4 H=>?_) (fun m4 H=>?_))))))))
  ·refine W.skip (nrm (bn H fun x d z3=>W.seqJ (Jn w1 fun c l=>∃v40,Own c G (es true (RL (RI .i32)) v17 32 n k::(Eb q 31 [Y,I 0,I 0,B false,B false])::(Eb o 31 [v40,I x.2.1,I x.2.2.1,B x.2.2.2.1,B x.2.2.2.2])::F)/\l= [(2,Q o),(4,Q q),(5,v17),(6,I a.1)]/\Sl am c v40 x.1) ?_ ?_))
   ·refine W.block (W.seq (sr (va (v17) (va (I a.1) (bn d fun s6 f1 d=>vx (ixO Aj i.m f1) ?_)))));obtain ⟨k6,n4,d5⟩:=OA.at (i.mono E) f1;obtain ⟨v45,rfl,z1⟩:=n4;refine vr v45 (rx (by kernel_rfl) (lI dD rfl (i0.on 0 rfl) (i.m.blk f1) (at1 (j:=0) d5 rfl))) (bn d fun p3 b2 d=>?_);obtain ⟨l6,o4,e5⟩:=Sl.at z1 (aU b2);obtain rfl:=o4;refine vx (ix dD z1 b2) (vx (l1 nb (e5 0 _ rfl)) (bn d fun q3 p4 d=>cl (jV i0 p3 p4) ?_));rintro v57 y0 e0 ⟨u1,rfl⟩;refine va (B (!q3)) (wln (cn d (fun q4 d=>?_) (fun q4 d=>?_)))
    ·refine W.seq (rD [15] (Kp G0 [(Eb o 31 [v28,I a.2.2.1,I a.2.2.2.1,B a.2.2.2.2.1,B a.2.2.2.2.2]),es true (RL (RI .i32)) v17 32 n k]) u1 ?_);intro f4 c2 j0;have k1:Kp G0 [(Eb o 31 [v28,I a.2.2.1,I a.2.2.2.1,B a.2.2.2.2.1,B a.2.2.2.2.2]),es true (RL (RI .i32)) v17 32 n k] f4:=(Kp.cons (j0.on 2 rfl) (Kp.cons (j0.on 0 rfl) Kp.nil0));refine tkx 0 k1 (fun z s A=>leN 31 0 [v28,I a.2.2.1,I a.2.2.2.1,B a.2.2.2.2.1,B a.2.2.2.2.2] (A.on 0 rfl)) (ta 1 (v17) (ta 2 (I a.1) (bn d fun s3 g1 d=>tx 3 (fun z s=>ixO Aj i.m g1) ?_)));obtain ⟨m6,r4,f5⟩:=OA.at (i.mono (E.trans (e0.trans c2))) g1;obtain ⟨k5,rfl,s4⟩:=r4;refine AC.takeK 4 (k5) k1 rfl (by kernel_rfl) (by kernel_rfl) (by kernel_rfl) (fun z s A=>(rx (by kernel_rfl) (lI dD rfl (A.on 1 rfl) (i.m.blk g1) (at1 (j:=0) f5 rfl)))) (ta 6 (v17) (ta 7 (I a.1) (bn d fun t3 h1 d=>tx 8 (fun z s=>ixO Aj i.m h1) ?_)));obtain ⟨n6,t4,g5⟩:=OA.at (i.mono (E.trans (e0.trans c2))) h1;obtain ⟨l5,rfl,u4⟩:=t4;refine AC.takeK 9 (l5) k1 rfl (by kernel_rfl) (by kernel_rfl) (by kernel_rfl) (fun z s A=>(rx (by kernel_rfl) (lI dD rfl (A.on 1 rfl) (i.m.blk h1) (at1 (j:=0) g5 rfl)))) (bn d fun u3 v4 d=>o1 5 (gc 5 (rC j0 s3 s4 v4) ?_));rintro e7 g4 b7 ⟨k0,rfl⟩;have h5:Kp G0 [(Eb o 31 [v28,I a.2.2.1,I a.2.2.2.1,B a.2.2.2.2.1,B a.2.2.2.2.2]),es true (RL (RI .i32)) v17 32 n k] g4:=(Kp.cons (k0.on 2 rfl) (Kp.cons (k0.on 0 rfl) Kp.nil0));refine ⟨.inr h5,bn d fun w3 w4 d=>o1 10 (gc 10 (mJ k0 t3 u4.m w4) ?_)⟩;rintro f7 i4 c7 ⟨_,d7,l0,rfl,x4⟩;have i5:Kp G0 [(Eb o 31 [v28,I a.2.2.1,I a.2.2.2.1,B a.2.2.2.2.1,B a.2.2.2.2.2]),es true (RL (RI .i32)) v17 32 n k] i4:=(Kp.cons (l0.on 3 rfl) (Kp.cons (l0.on 1 rfl) Kp.nil0));refine ⟨.inr i5,?_⟩;obtain ⟨j4,z4,c5,m0,y4⟩:=l0.frz 0 rfl x4;have j5:Kp G0 [(Eb o 31 [v28,I a.2.2.1,I a.2.2.2.1,B a.2.2.2.2.1,B a.2.2.2.2.2]),es true (RL (RI .i32)) v17 32 n k] j4:=(Kp.cons (m0.on 3 rfl) (Kp.cons (m0.on 1 rfl) Kp.nil0));refine AC.gh z4 c5 (fun _=>j5) (bn d fun f b5 d=>o1 11 (gc 11 (py m0 (⟨a.2.1,(⟨a.2.2.1,a.2.2.2.1,a.2.2.2.2.1⟩:ai),a.2.2.2.2.2⟩:aa) u3 w3 e1.m y4 b5) ?_));rintro q6 m2 c6 ⟨d2,p6,M,rfl,X⟩;have l3:Kp G0 [(Eb o 31 [v28,I a.2.2.1,I a.2.2.2.1,B a.2.2.2.2.1,B a.2.2.2.2.2]),es true (RL (RI .i32)) v17 32 n k] m2:=(Kp.cons (M.on 4 rfl) (Kp.cons (M.on 2 rfl) Kp.nil0));refine ⟨.inr l3,ta 12 (.tuple #[.agg #[d2,I f.1.At.Row,I f.1.At.Col,B f.1.At.Pending,B f.1.Auto],.agg #[I f.2.Row,I f.2.Col,B f.2.Pending]]) (ta 13 (.agg #[d2,I f.1.At.Row,I f.1.At.Col,B f.1.At.Pending,B f.1.Auto]) (ta 14 (.agg #[I f.2.Row,I f.2.Col,B f.2.Pending]) ?_))⟩;obtain ⟨o0,q0,s0,rfl⟩:=(X).form;refine o1 15 (gD 15 (sA 31 [.slice o0 q0 s0,I f.1.At.Row,I f.1.At.Col,B f.1.At.Pending,B f.1.Auto] 4 M ⟨(X).one,rfl,rfl,rfl,rfl,trivial⟩) ?_);rintro u5 f3 e2;refine ⟨.inl rfl,dn (nrm (W.exit (thx (bke (nrm ?_)))))⟩;cases d;obtain ⟨n2,w2,d6,f2,v2⟩:=e2.frz 0 rfl (X.mono f3);have g2:=f2.sD 5 [2,3,4];exact ⟨n2,_,_,w2.symm,pt,us,(.slice o0 q0 s0),g2,rfl,v2⟩
    refine W.skip (nrm (sr (va (I 0) (wln (W.block (bn d fun o5 _ d=>bn d fun o6 a1 f0=>lp a1 (fun b=>Jn y0 fun c l=>∃p,Own c G (es true (RL (RI .i32)) v17 32 n k::(Eb q 31 [Y,I 0,I 0,B false,B false])::(Eb o 31 [p,I b.2.2.1,I b.2.2.2.1,B b.2.2.2.2.1,B b.2.2.2.2.2])::F)/\l= [(2,Q o),(4,Q q),(5,v17),(6,I a.1),(7,I b.1)]/\Sl am c p b.2.1) (fun u ex e w=>ex= .exit 2/\(Jn y0 fun c l=>∃D,Own c G (es true (RL (RI .i32)) v17 32 n k::(Eb q 31 [Y,I 0,I 0,B false,B false])::(Eb o 31 [D,I u.2.1,I u.2.2.1,B u.2.2.2.1,B u.2.2.2.2])::F)/\l= [(2,Q o),(4,Q q),(5,v17),(6,I a.1)]/\Sl am c D u.1) e w) ?_ ?_ ?_))))))
    ·clear f0 a1;intro b m5 z0 n1 d;revert z0 n1;rintro e_ w_ ⟨o2,w5,_,rfl,i1,rfl,p,N,rfl,b1⟩;refine W.seq (sr (va (I b.1) (va (v17) (va (I a.1) (bn d fun x3 Z d=>vx (ixO Aj i.m Z) ?_)))));obtain ⟨p5,x2,h3⟩:=OA.at (i.mono (E.trans (e0.trans i1))) Z;obtain ⟨n3,rfl,y2⟩:=x2;refine vr n3 (rx (by kernel_rfl) (lI dD rfl (N.on 0 rfl) (i.m.blk Z) (at1 (j:=0) h3 rfl))) (vx (ln 3 dD y2) (va (B (decide (b.1<(x3.length:Int)))) (wln (cn d (fun z2 d=>?_) (fun z2 d=>?_)))))
     ·refine W.skip (nrm (W.seq (W.block (rD [12] (Kp G0 [(Eb o 31 [p,I b.2.2.1,I b.2.2.2.1,B b.2.2.2.2.1,B b.2.2.2.2.2]),es true (RL (RI .i32)) v17 32 n k]) N ?_))));intro p2 g3 P;have j1:Kp G0 [(Eb o 31 [p,I b.2.2.1,I b.2.2.2.1,B b.2.2.2.2.1,B b.2.2.2.2.2]),es true (RL (RI .i32)) v17 32 n k] p2:=(Kp.cons (P.on 2 rfl) (Kp.cons (P.on 0 rfl) Kp.nil0));refine tkx 0 j1 (fun z s A=>leN 31 0 [p,I b.2.2.1,I b.2.2.2.1,B b.2.2.2.2.1,B b.2.2.2.2.2] (A.on 0 rfl)) (ta 1 (v17) (ta 2 (I a.1) (bn d fun t6 a0 d=>tx 3 (fun z s=>ixO Aj i.m a0) ?_)));obtain ⟨q5,a3,i3⟩:=OA.at (i.mono (E.trans (e0.trans (i1.trans g3)))) a0;obtain ⟨o3,rfl,c1⟩:=a3;refine AC.takeK 4 (o3) j1 rfl (by kernel_rfl) (by kernel_rfl) (by kernel_rfl) (fun z s A=>(rx (by kernel_rfl) (lI dD rfl (A.on 1 rfl) (i.m.blk a0) (at1 (j:=0) i3 rfl)))) (ta 5 (I b.1) (bn d fun y3 d1 d=>?_));obtain ⟨r5,b3,j3⟩:=Sl.at c1 (aU d1);obtain rfl:=b3;refine tx 6 (fun z s=>ix dD c1 d1) (tx 7 (fun z s=>l1 nb ((mm j3) 0 _ rfl)) (bn d fun g c3 d=>o1 8 (gc 8 (sZ P (⟨b.2.1,(⟨b.2.2.1,b.2.2.2.1,b.2.2.2.2.1⟩:ai),b.2.2.2.2.2⟩:aa) y3 b1.m c3) ?_)));rintro r6 q2 e6 ⟨m1,R,rfl,b0⟩;have m3:Kp G0 [(Eb o 31 [p,I b.2.2.1,I b.2.2.2.1,B b.2.2.2.2.1,B b.2.2.2.2.2]),es true (RL (RI .i32)) v17 32 n k] q2:=(Kp.cons (R.on 2 rfl) (Kp.cons (R.on 0 rfl) Kp.nil0));refine ⟨.inr m3,ta 9 (.tuple #[.agg #[m1,I g.1.At.Row,I g.1.At.Col,B g.1.At.Pending,B g.1.Auto],B g.2]) (ta 10 (.agg #[m1,I g.1.At.Row,I g.1.At.Col,B g.1.At.Pending,B g.1.Auto]) (ta 11 (B g.2) ?_))⟩;obtain ⟨t0,u0,v0,rfl⟩:=(b0).form;refine o1 12 (gD 12 (sA 31 [.slice t0 u0 v0,I g.1.At.Row,I g.1.At.Col,B g.1.At.Pending,B g.1.Auto] 2 R ⟨b0.one,rfl,rfl,rfl,rfl,trivial⟩) ?_);rintro s2 f6 i2;refine ⟨.inl rfl,dn (bkn (nrm (W.region (va (I b.1) (vv (I (w64 (b.1+1))) (WL.nil ?_))))))⟩;cases d;exact ⟨_,rfl,jn s2 ⟨(.slice t0 u0 v0),i2,rfl,b0.m⟩⟩
     refine W.exit (thx ?_);cases d;exact ⟨_,rfl,rfl,jn o2 ⟨p,N,rfl,b1⟩⟩
    ·exact jn y0 ⟨v28,u1,rfl,e1.m⟩
    rintro _ e_ w_ ⟨rfl,t2,x5,_,rfl,g6,rfl,D,j2,rfl,d3⟩;refine bke (bkn (nrm ?_));cases f0;exact jn t2 ⟨D,j2,rfl,d3⟩
   rintro e_ w_ ⟨u2,y5,_,rfl,h6,rfl,v40,k2,rfl,e3⟩;refine W.region (va (I a.1) (vv (I (w64 (a.1+1))) (WL.nil ?_)));cases z3;exact ⟨_,rfl,jn u2 ⟨v40,k2,rfl,e3⟩⟩
  refine W.exit (thx ?_);cases H;exact ⟨_,rfl,rfl,jn w1 ⟨v28,i0,rfl,e1⟩⟩
 ·exact jn x0 ⟨(.slice a5 a6 a7),b4,rfl,h2.m⟩
 rintro _ e_ w_ ⟨rfl,v5,z5,_,rfl,i6,rfl,v29,g0,rfl,d0⟩;refine bke (nrm (sr (vx (leN 31 0 [v29,I h.2.1,I h.2.2.1,B h.2.2.2.1,B h.2.2.2.2] (g0.on 2 rfl)) ?_)));obtain ⟨S,T,U,rfl⟩:=(d0).form;refine md (sA 31 [.slice S T U,I h.2.1,I h.2.2.1,B h.2.2.2.1,B h.2.2.2.2] 1 g0 ⟨d0.one,rfl,rfl,rfl,rfl,trivial⟩) ?_;rintro w0 j6 h0;refine wln (W.ret ?_);cases t1;have l2:=h0.sD 3 [];exact kv (c:=w0) (vs:=[.slice S T U,I h.2.1,I h.2.2.1,B h.2.2.2.1,B h.2.2.2.2]) rfl (by kernel_rfl) (by kernel_rfl) (by kernel_rfl) (h0.on 1 rfl _ rfl).1 ⟨_,w0,rfl,rfl,pt,(.slice S T U),l2,rfl,d0.m⟩
def dw (p0:aq):Option (Int):=
 (dY ([]:List Int) p0.Raw).bind fun a=>
 some (a.2.length:Int)
theorem lf (u:Own c0 G F) (a:aq){r:Int}(A:Sl am c0 v1 a.P.L) (D:Sl (RI .i32) c0 v3 a.Group) (q:Sl (RI .u8) c0 v5 a.Raw) (H:dw a=some r): Calls prog 17 #[.agg #[v1,I a.P.At.Row,I a.P.At.Col,B a.P.At.Pending,B a.P.Auto,v3,v5,I a.Parts]] c0.w (aR c0 fun c v=>Own c G (F)/\v=I r):=by
 unfold dw at H;refine en func17 rfl rfl (sr ?_);obtain ⟨x,y,z,rfl⟩:=(A).form;obtain ⟨f,g,h,rfl⟩:=(D).form;obtain ⟨i,j,k,rfl⟩:=(q).form;refine me (bx 35 [.slice x y z,I a.P.At.Row,I a.P.At.Col,B a.P.At.Pending,B a.P.Auto,.slice f g h,.slice i j k,I a.Parts] u) ?_;rintro v20 E N ⟨l,rfl,b,s⟩;refine va (I 0) (wln (sr (va (Qo l (0+6)) (vx (l1 lW (s 6 _ rfl)) (bn H fun t o H=>cl (ny b ([]:List Int) a.Raw (Sl.nl _ _) q.m o) ?_)))));rintro v32 n R ⟨v22,S,v25,d,rfl,M,p⟩;refine va (.tuple #[v22,v25]) (va (v22) (va (v25) (va (v22) (va (v25) (wln (sr (va (v25) (vx (ln 3 sF p) (va (I (t.2.length:Int)) (wln (W.ret ?_)))))))))));cases H;have e:=d.sD 1 [];exact r1 (qq n ⟨e,rfl⟩)
def dR (p0:aq) (p1:List Int):Option (aq):=
 (app ([]:List Int) p0.Raw).bind fun k=>
 (app k p1).bind fun d=>
 (gU d).bind fun c=>
 ((dw (⟨p0.P,p0.Group,d,p0.Parts⟩:aq)).bind fun f=>
 if (decide (f>0))=true then
 (slc c 0 (w64 ((c.length:Int)-1))).bind fun g=>
 some (g)
 else
 some (c)).bind fun b=>
 (cL (σ:=Int×(List Int)) (τ:=(List Int)) (((b.length:Int)-p0.Parts).toNat+1) (fun a=>
 if (decide (a.1<(b.length:Int)))=true then
 (idx b a.1).bind fun h=>
 (app ([]:List Int) a.2).bind fun i=>
 (app i ([h.R]:List Int)).bind fun j=>
 some (.inl ((w64 (a.1+1)),j))
 else
 some (.inr (a.2))) (p0.Parts,p0.Group)).bind fun e=>
 some (⟨p0.P,e,d,(b.length:Int)⟩:aq)
theorem nZ (O0:Own c0 G F) (a:aq) (p1:List Int){r:aq}(h2:Sl am c0 v1 a.P.L) (h4:Sl (RI .i32) c0 v3 a.Group) (h6:Sl (RI .u8) c0 v5 a.Raw) (h8:Sl (RI .u8) c0 v7 p1) (H:dR a p1=some r): Calls prog 16 #[.agg #[v1,I a.P.At.Row,I a.P.At.Col,B a.P.At.Pending,B a.P.Auto,v3,v5,I a.Parts],v7] c0.w (aR c0 fun c v=>∃y1 y2 y3,Own c G (F)/\v= .agg #[y1,I r.P.At.Row,I r.P.At.Col,B r.P.At.Pending,B r.P.Auto,y2,y3,I r.Parts]/\Sl am c y1 r.P.L/\Sl (RI .i32) c y2 r.Group/\Sl (RI .u8) c y3 r.Raw):=by
 unfold dR at H;refine en func16 rfl rfl (sr ?_);obtain ⟨j,h,i,rfl⟩:=(h2).form;obtain ⟨E,M,N,rfl⟩:=(h4).form;obtain ⟨r6,a16,s6,rfl⟩:=(h6).form;refine me (al 35 [.slice j h i,I a.P.At.Row,I a.P.At.Col,B a.P.At.Pending,B a.P.Auto,.slice E M N,.slice r6 a16 s6,I a.Parts] O0) ?_;rintro v21 o9 z9 ⟨g,rfl,l6⟩;refine me (al 35 [Y,I 0,I 0,B false,B false,Y,Y,I 0] l6) ?_;rintro v25 p9 l24 ⟨u,rfl,m6⟩;refine wln (sr (me (sl (RI .u8) 5 [] ([]:List Int) m6 trivial) ?_));rintro v30 q9 l29 ⟨u27,p2,y6⟩;refine va (.pointer (some ⟨g,6,none⟩)) (vx (le1 6 lW (p2.on 2 rfl)) (bn H fun x_7 z6 H=>me (ap (RI .u8) (.int .u8 0) 1 33 0 p2 y6 h6.m z6 lW) ?_));rintro v36 r9 l35 ⟨u33,n6,a7⟩;refine va (v7) (bn H fun A b7 H=>me (ap (RI .u8) (.int .u8 0) 1 33 0 n6 a7 h8.m b7 lW) ?_);rintro v42 s9 l41 ⟨a1,o6,z⟩;refine va (.pointer (some ⟨g,6,none⟩)) ?_;obtain ⟨b,d,f,rfl⟩:=(z).form;refine md (sC 33 6 (.slice b d f) [.slice j h i,I a.P.At.Row,I a.P.At.Col,B a.P.At.Pending,B a.P.Auto,.slice E M N,.slice b d f,I a.Parts] 2 o6 ⟨(z).one,trivial⟩) ?_;rintro t9 i2 q2;refine wln (sr (va (Qo g 6) (vx (le1 6 lW (q2.on 2 rfl)) ?_)));obtain ⟨u9,d7,z2,p6,c7⟩:=q2.frz 0 rfl (z.mono i2);refine WL.gh d7 (bn H fun y e7 H=>cl (sv p6 A c7 e7) ?_);rintro v53 u6 a3 ⟨_,b1,w1,rfl,y0⟩;refine va (v53) (wln (bn H fun s t o=>W.seqJ (Jn u6 fun c l=>∃p,Own c G (es false bw v53 106 b1 y::es false (RI .u8) (.slice b d f) 5 a1 A::(Eb u 35 [Y,I 0,I 0,B false,B false,Y,Y,I 0])::(Eb g 35 [.slice j h i,I a.P.At.Row,I a.P.At.Col,B a.P.At.Pending,B a.P.Auto,.slice E M N,.slice b d f,I a.Parts])::F)/\l= [(2,Q g),(4,Q u),(5,p)]/\Sl bw c p s) ?_ ?_))
 ·refine sr (vx (leN 35 0 [.slice j h i,I a.P.At.Row,I a.P.At.Col,B a.P.At.Pending,B a.P.Auto,.slice E M N,.slice b d f,I a.Parts] (w1.on 3 rfl)) ?_);have g7:=w1.slf 1 rfl (z.mono (i2.trans (z2.trans a3)));refine bn t fun k6 h7 t=>cl (lf w1 (⟨a.P,a.Group,A,a.Parts⟩:aq) h2.m h4.m g7 h7) ?_;rintro v72 v9 j2 ⟨s2,rfl⟩;refine va (B (decide (k6>0))) (wln (cn t (fun i7 t=>?_) (fun i7 t=>?_)))
  ·refine W.region (vv (v53) (vx (lnO 3 xn y0.m) (va (I (w64 ((y.length:Int)-1))) (bn t fun m9 j7 t=>?_))));obtain ⟨v6,l7,l77,q6,k7⟩:=s2.frz 0 rfl (y0.mono j2);refine WL.gh l7 ?_;obtain ⟨k2,m7,n7⟩:=vU (k':= .i64) xn (by kernel_rfl) k7 j7;refine vr k2 (rx (by kernel_rfl) (m7 _)) (va (k2) (wln ?_));cases t;exact jn v6 ⟨k2,q6,rfl,n7⟩
  refine W.skip (nrm ?_);cases t;obtain ⟨w6,o7,q7,t2,y9⟩:=s2.frz 0 rfl (y0.mono j2);have p7:=t2.slf 0 rfl (y0.mono (j2.trans q7));exact ⟨w6,_,_,o7.symm,pt,us,v53,t2,rfl,p7⟩
 rintro e_ w_ ⟨z1,w9,_,rfl,r7,rfl,p,u2,rfl,z0⟩;refine W.seq (sr (va (Qo g 7) (vx (le1 7 u_3 (u2.on 3 rfl)) (va (I a.Parts) (wln (W.block (bn o fun x8 w2 o2=>lp w2 (fun n=>Jn z1 fun c l=>∃k,Own c G (es false bw v53 106 b1 y::es false (RI .u8) (.slice b d f) 5 a1 A::(Eb u 35 [Y,I 0,I 0,B false,B false,Y,Y,I 0])::(Eb g 35 [.slice j h i,I a.P.At.Row,I a.P.At.Col,B a.P.At.Pending,B a.P.Auto,k,.slice b d f,I a.Parts])::F)/\l= [(2,Q g),(4,Q u),(5,p),(6,I n.1)]/\Sl (RI .i32) c k n.2) (fun n2 ex e w=>ex= .exit 0/\(Jn z1 fun c l=>∃S,Own c G (es false bw v53 106 b1 y::es false (RI .u8) (.slice b d f) 5 a1 A::(Eb u 35 [Y,I 0,I 0,B false,B false,Y,Y,I 0])::(Eb g 35 [.slice j h i,I a.P.At.Row,I a.P.At.Col,B a.P.At.Pending,B a.P.Auto,S,.slice b d f,I a.Parts])::F)/\l= [(2,Q g),(4,Q u),(5,p)]/\Sl (RI .i32) c S n2) e w) ?_ ?_ ?_)))))))
 ·clear o2 w2;intro n xx_ x6 u7 o;revert x6 u7;rintro e_ w_ ⟨v2,x9,_,rfl,s7,rfl,k,c1,rfl,D⟩;refine W.seq (sr (va (I n.1) (va (p) (vx (ln 3 xn z0.m) (va (B (decide (n.1<(s.length:Int)))) (wln (cn o (fun i4 o=>?_) (fun i4 o=>?_))))))))
  ·refine W.skip (nrm (W.seq (W.block (bn o fun q b2 o=>bn o fun n9 m0 o=>bn o fun l2 o0 o=>W.join (Jn v2 fun c l=>∃x0 v0 x w0,Own c G (es false (RI .i32) x0 21 v0 ([q.R]:List Int)::es true (RI .i32) x 21 w0 l2::es false bw v53 106 b1 y::es false (RI .u8) (.slice b d f) 5 a1 A::(Eb u 35 [Y,I 0,I 0,B false,B false,Y,Y,I 0])::(Eb g 35 [.slice j h i,I a.P.At.Row,I a.P.At.Col,B a.P.At.Pending,B a.P.Auto,x,.slice b d f,I a.Parts])::F)/\l= [(2,Q g),(4,Q u),(5,p),(6,I n.1)]/\OA (RI .i32) c x0 v0 ([q.R]:List Int)/\OA (RI .i32) c x w0 l2) ?_ ?_))))
   ·clear o;refine rD [12] (Kp G0 [(Eb g 35 [.slice j h i,I a.P.At.Row,I a.P.At.Col,B a.P.At.Pending,B a.P.Auto,k,.slice b d f,I a.Parts])]) c1 ?_;intro k3 z4 T;have j5:Kp G0 [(Eb g 35 [.slice j h i,I a.P.At.Row,I a.P.At.Col,B a.P.At.Pending,B a.P.Auto,k,.slice b d f,I a.Parts])] k3:=(Kp.cons (T.on 3 rfl) Kp.nil0);refine ta 1 (.pointer (some ⟨g,5,none⟩)) (tkx 2 j5 (fun c' x2 hk=>le1 5 dD (hk.on 0 rfl)) (ta 4 (p) (ta 5 (I n.1) ?_)));obtain ⟨z7,j4,i5⟩:=Sl.at (z0.mono (s7.trans z4)) (aU b2);obtain rfl:=j4;refine tx 6 (fun c' x2=>ix xn z0.m b2) (ta 7 (Qo (sb p) (so p+n.1.toNat*5)) (tx 8 (fun c' x2=>l1 nb ((mm i5) 0 _ rfl)) (mn2 0 9 ?_ ?_)))
    ·refine gm 0 (sl (RI .i32) 21 [] ([]:List Int) T trivial) ?_;rintro e9 l3 k8 ⟨y8,U,c2⟩;have k5:Kp G0 [(Eb g 35 [.slice j h i,I a.P.At.Row,I a.P.At.Col,B a.P.At.Pending,B a.P.Auto,k,.slice b d f,I a.Parts])] l3:=(Kp.cons (U.on 4 rfl) Kp.nil0);refine ⟨.inr k5,mn2 3 9 ?_ ?_⟩
     ·refine gm 3 (ap (RI .i32) (J 0) 4 32 0 U c2 D.m m0 dD) ?_;rintro f9 m3 l8 ⟨z8,d1,k4⟩;have l5:Kp G0 [(Eb g 35 [.slice j h i,I a.P.At.Row,I a.P.At.Col,B a.P.At.Pending,B a.P.Auto,k,.slice b d f,I a.Parts])] m3:=(Kp.cons (d1.on 4 rfl) Kp.nil0);refine ⟨.inr l5,o1 9 (gm 9 (sl (RI .i32) 21 [[J q.R]] ([q.R]:List Int) d1 ⟨rfl,trivial⟩) ?_)⟩;rintro f6 n3 m8 ⟨z5,e1,d2⟩;have m5:Kp G0 [(Eb g 35 [.slice j h i,I a.P.At.Row,I a.P.At.Col,B a.P.At.Pending,B a.P.Auto,k,.slice b d f,I a.Parts])] n3:=(Kp.cons (e1.on 5 rfl) Kp.nil0);refine ⟨.inr m5,?_⟩;obtain ⟨o3,m4,a5,f1,l4⟩:=e1.frz 0 rfl d2;have n5:Kp G0 [(Eb g 35 [.slice j h i,I a.P.At.Row,I a.P.At.Col,B a.P.At.Pending,B a.P.Auto,k,.slice b d f,I a.Parts])] o3:=(Kp.cons (f1.on 5 rfl) Kp.nil0);refine AC.gh m4 a5 (fun _=>n5) (o1 10 (gm 10 (ap (RI .i32) (J 0) 4 32 1 f1 k4.m l4 o0 dD) ?_));rintro g9 p3 n8 ⟨a6,g1,q0⟩;have o5:Kp G0 [(Eb g 35 [.slice j h i,I a.P.At.Row,I a.P.At.Col,B a.P.At.Pending,B a.P.Auto,k,.slice b d f,I a.Parts])] p3:=(Kp.cons (g1.on 5 rfl) Kp.nil0);refine ⟨.inr o5,ta 11 (.pointer (some ⟨g,5,none⟩)) ?_⟩;obtain ⟨Z,a0,b0,rfl⟩:=(q0).form;refine o1 12 (gD 12 (sC 32 5 (.slice Z a0 b0) [.slice j h i,I a.P.At.Row,I a.P.At.Col,B a.P.At.Pending,B a.P.Auto,.slice Z a0 b0,.slice b d f,I a.Parts] 5 g1 ⟨(q0).one,trivial⟩) ?_);rintro q3 o8 b3;exact ⟨.inl rfl,dn (nrm (jn q3 ⟨f6,z5,(.slice Z a0 b0),a6,b3,rfl,d2.m,q0.m⟩))⟩
     refine gm 9 (sl (RI .i32) 21 [[J q.R]] ([q.R]:List Int) U ⟨rfl,trivial⟩) ?_;rintro g6 s3 p8 ⟨b6,h1,e2⟩;have p5:Kp G0 [(Eb g 35 [.slice j h i,I a.P.At.Row,I a.P.At.Col,B a.P.At.Pending,B a.P.Auto,k,.slice b d f,I a.Parts])] s3:=(Kp.cons (h1.on 5 rfl) Kp.nil0);refine ⟨.inr p5,o1 3 (gm 3 (ap (RI .i32) (J 0) 4 32 1 h1 c2.m D.m m0 dD) ?_)⟩;rintro h9 t3 b5 ⟨b9,i1,n4⟩;have q5:Kp G0 [(Eb g 35 [.slice j h i,I a.P.At.Row,I a.P.At.Col,B a.P.At.Pending,B a.P.Auto,k,.slice b d f,I a.Parts])] t3:=(Kp.cons (i1.on 5 rfl) Kp.nil0);refine ⟨.inr q5,?_⟩;obtain ⟨u3,p4,c5,j1,o4⟩:=i1.frz 0 rfl (e2.mono b5);have r5:Kp G0 [(Eb g 35 [.slice j h i,I a.P.At.Row,I a.P.At.Col,B a.P.At.Pending,B a.P.Auto,k,.slice b d f,I a.Parts])] u3:=(Kp.cons (j1.on 5 rfl) Kp.nil0);refine AC.gh p4 c5 (fun _=>r5) (o1 10 (gm 10 (ap (RI .i32) (J 0) 4 32 1 j1 n4.m o4 o0 dD) ?_));rintro i9 w3 q8 ⟨c6,k1,s0⟩;have s5:Kp G0 [(Eb g 35 [.slice j h i,I a.P.At.Row,I a.P.At.Col,B a.P.At.Pending,B a.P.Auto,k,.slice b d f,I a.Parts])] w3:=(Kp.cons (k1.on 5 rfl) Kp.nil0);refine ⟨.inr s5,ta 11 (.pointer (some ⟨g,5,none⟩)) ?_⟩;obtain ⟨d0,e0,f0,rfl⟩:=(s0).form;refine o1 12 (gD 12 (sC 32 5 (.slice d0 e0 f0) [.slice j h i,I a.P.At.Row,I a.P.At.Col,B a.P.At.Pending,B a.P.Auto,.slice d0 e0 f0,.slice b d f,I a.Parts] 5 k1 ⟨(s0).one,trivial⟩) ?_);rintro x3 r8 c3;exact ⟨.inl rfl,dn (nrm (jn x3 ⟨g6,b6,(.slice d0 e0 f0),c6,c3,rfl,e2.m,s0.m⟩))⟩
    refine gm 9 (sl (RI .i32) 21 [[J q.R]] ([q.R]:List Int) T ⟨rfl,trivial⟩) ?_;rintro i6 z3 s8 ⟨d6,m1,f2⟩;have t5:Kp G0 [(Eb g 35 [.slice j h i,I a.P.At.Row,I a.P.At.Col,B a.P.At.Pending,B a.P.Auto,k,.slice b d f,I a.Parts])] z3:=(Kp.cons (m1.on 4 rfl) Kp.nil0);refine ⟨.inr t5,o1 0 (gm 0 (sl (RI .i32) 21 [] ([]:List Int) m1 trivial) ?_)⟩;rintro j9 a4 d5 ⟨c9,n1,q4⟩;have u5:Kp G0 [(Eb g 35 [.slice j h i,I a.P.At.Row,I a.P.At.Col,B a.P.At.Pending,B a.P.Auto,k,.slice b d f,I a.Parts])] a4:=(Kp.cons (n1.on 5 rfl) Kp.nil0);refine ⟨.inr u5,o1 3 (gm 3 (ap (RI .i32) (J 0) 4 32 0 n1 q4 D.m m0 dD) ?_)⟩;rintro k9 b4 e5 ⟨d9,q1,r4⟩;have w5:Kp G0 [(Eb g 35 [.slice j h i,I a.P.At.Row,I a.P.At.Col,B a.P.At.Pending,B a.P.Auto,k,.slice b d f,I a.Parts])] b4:=(Kp.cons (q1.on 5 rfl) Kp.nil0);refine ⟨.inr w5,?_⟩;obtain ⟨c4,t4,f5,s1,s4⟩:=q1.frz 1 rfl (f2.mono (d5.trans e5));have x5:Kp G0 [(Eb g 35 [.slice j h i,I a.P.At.Row,I a.P.At.Col,B a.P.At.Pending,B a.P.Auto,k,.slice b d f,I a.Parts])] c4:=(Kp.cons (s1.on 5 rfl) Kp.nil0);refine AC.gh t4 f5 (fun _=>x5) (o1 10 (gm 10 (ap (RI .i32) (J 0) 4 32 0 s1 r4.m s4 o0 dD) ?_));rintro l9 d4 t8 ⟨e6,t1,t0⟩;have y5:Kp G0 [(Eb g 35 [.slice j h i,I a.P.At.Row,I a.P.At.Col,B a.P.At.Pending,B a.P.Auto,k,.slice b d f,I a.Parts])] d4:=(Kp.cons (t1.on 5 rfl) Kp.nil0);refine ⟨.inr y5,ta 11 (.pointer (some ⟨g,5,none⟩)) ?_⟩;obtain ⟨g0,h0,i0,rfl⟩:=(t0).form;refine o1 12 (gD 12 (sC 32 5 (.slice g0 h0 i0) [.slice j h i,I a.P.At.Row,I a.P.At.Col,B a.P.At.Pending,B a.P.Auto,.slice g0 h0 i0,.slice b d f,I a.Parts] 5 t1 ⟨(t0).one,trivial⟩) ?_);rintro e4 u8 d3;refine ⟨.inl rfl,dn (nrm ?_)⟩;have e3:=d3.sD 6 [1,0,2,3,4,5];exact jn e4 ⟨i6,d6,(.slice g0 h0 i0),e6,e3,rfl,f2.m,t0.m⟩
   rintro e_ w_ ⟨b8,e8,_,rfl,v8,rfl,x0,v0,x,w0,f3,rfl,g8,u4⟩;refine bkn (nrm (W.region (va (I n.1) (vv (I (w64 (n.1+1))) (WL.nil ?_)))));cases o;refine ⟨_,rfl,?_⟩;obtain ⟨f4,w4,w8,g3,v4⟩:=f3.frz 1 rfl u4;have h3:=g3.sD 6 [2,3,4,5];exact ⟨f4,_,_,w4.symm,pt,us,x,h3,rfl,v4⟩
  refine W.exit (thx ?_);cases o;exact ⟨_,rfl,rfl,jn v2 ⟨k,c1,rfl,D⟩⟩
 ·exact jn z1 ⟨(.slice E M N),u2,rfl,h4.m⟩
 rintro _ e_ w_ ⟨rfl,c8,f8,_,rfl,g5,rfl,S,i3,rfl,u0⟩;refine bke (nrm (sr (va (p) (vx (ln 3 xn z0.m) (va (Qo g 7) (md (sC 3 7 (I (s.length:Int)) [.slice j h i,I a.P.At.Row,I a.P.At.Col,B a.P.At.Pending,B a.P.Auto,S,.slice b d f,I (s.length:Int)] 3 i3 ⟨rfl,trivial⟩) ?_))))));rintro d8 g2 u1;refine wln (sr (vx (leN 35 0 [.slice j h i,I a.P.At.Row,I a.P.At.Col,B a.P.At.Pending,B a.P.Auto,S,.slice b d f,I (s.length:Int)] (u1.on 3 rfl)) ?_));obtain ⟨j0,k0,l0,rfl⟩:=((u0.mono g2)).form;refine md (sA 35 [.slice j h i,I a.P.At.Row,I a.P.At.Col,B a.P.At.Pending,B a.P.Auto,.slice j0 k0 l0,.slice b d f,I (s.length:Int)] 2 u1 ⟨h2.m.one,rfl,rfl,rfl,rfl,u0.m.one,z.m.one,rfl,trivial⟩) ?_;rintro x1 h5 X;refine wln (W.ret ?_);cases o2;have x4:=X.slf 1 rfl (z.mono (i2.trans (z2.trans (a3.trans (r7.trans (g5.trans (g2.trans h5)))))));have j3:=X.sD 4 [];exact kv (c:=x1) (vs:=[.slice j h i,I a.P.At.Row,I a.P.At.Col,B a.P.At.Pending,B a.P.Auto,.slice j0 k0 l0,.slice b d f,I (s.length:Int)]) rfl (by kernel_rfl) (by kernel_rfl) (by kernel_rfl) (X.on 2 rfl _ rfl).1 ⟨_,x1,rfl,rfl,pt,(.slice j h i),(.slice j0 k0 l0),(.slice b d f),j3,rfl,h2.m,u0.m,x4⟩
def eq (p0:aq) (p1:Int):Option (aq):=
 ((cZ p1).bind fun c=>
 if (!c)=true then
 some (65533)
 else
 some (p1)).bind fun d=>
 (app ([]:List Int) p0.Group).bind fun a=>
 (app a ([d]:List Int)).bind fun b=>
 some (⟨p0.P,b,p0.Raw,p0.Parts⟩:aq)
theorem oo (O0:Own c0 G F) (a:aq) (t:Int){r:aq}(S:Sl am c0 v1 a.P.L) (h4:Sl (RI .i32) c0 v3 a.Group) (T:Sl (RI .u8) c0 v5 a.Raw) (H:eq a t=some r): Calls prog 18 #[.agg #[v1,I a.P.At.Row,I a.P.At.Col,B a.P.At.Pending,B a.P.Auto,v3,v5,I a.Parts],J t] c0.w (aR c0 fun c v=>∃y1 U y3 y4,Own c G (es true (RI .i32) U 21 y3 r.Group::F)/\v= .agg #[y1,I r.P.At.Row,I r.P.At.Col,B r.P.At.Pending,B r.P.Auto,U,y4,I r.Parts]/\Sl am c y1 r.P.L/\OA (RI .i32) c U y3 r.Group/\Sl (RI .u8) c y4 r.Raw):=by
 unfold eq at H;refine en func18 rfl rfl (sr ?_);obtain ⟨k,n,o,rfl⟩:=(S).form;obtain ⟨A,D,E,rfl⟩:=(h4).form;obtain ⟨d,e,f,rfl⟩:=(T).form;refine me (al 35 [.slice k n o,I a.P.At.Row,I a.P.At.Col,B a.P.At.Pending,B a.P.Auto,.slice A D E,.slice d e f,I a.Parts] O0) ?_;rintro v19 d1 n1 ⟨p,rfl,X⟩;refine me (al 35 [Y,I 0,I 0,B false,B false,Y,Y,I 0] X) ?_;rintro v23 h0 q1 ⟨M,rfl,Z⟩;refine wln (bn H fun s b j=>W.seqJ (Jn h0 fun c l=>Own c G ((Eb M 35 [Y,I 0,I 0,B false,B false,Y,Y,I 0])::(Eb p 35 [.slice k n o,I a.P.At.Row,I a.P.At.Col,B a.P.At.Pending,B a.P.Auto,.slice A D E,.slice d e f,I a.Parts])::F)/\l= [(1,J s),(2,Q p),(4,Q M)]) ?_ ?_)
 ·refine sr (va (J t) (bn b fun w0 i0 b=>cl (mM Z t i0) ?_));rintro v32 N s1 ⟨u,rfl⟩;refine va (B (!w0)) (wln (cn b (fun j0 b=>?_) (fun j0 b=>?_)))
  ·refine W.region (va (J 65533) (wln ?_));cases b;exact jn N ⟨u,rfl⟩
  refine W.skip (nrm ?_);cases b;exact jn N ⟨u,rfl⟩
 rintro e_ w_ ⟨e1,m1,_,rfl,t1,rfl,a0,rfl⟩;refine sr (me (sl (RI .i32) 21 [] ([]:List Int) a0 trivial) ?_);rintro v44 f1 u1 ⟨e2,x,l0⟩;refine va (.pointer (some ⟨p,5,none⟩)) (vx (le1 5 dD (x.on 2 rfl)) (bn j fun b1 m0 j=>me (ap (RI .i32) (J 0) 4 32 0 x l0 h4.m m0 dD) ?_));rintro v50 g1 w1 ⟨f2,b0,o0⟩;refine va (J s) (me (sl (RI .i32) 21 [[J s]] ([s]:List Int) b0 ⟨rfl,trivial⟩) ?_);rintro v55 h1 x1 ⟨g2,d0,q0⟩;obtain ⟨i1,t0,z1,e0,s0⟩:=d0.frz 0 rfl q0;refine WL.gh t0 (bn j fun c1 u0 j=>me (ap (RI .i32) (J 0) 4 32 1 e0 o0.m s0 u0 dD) ?_);rintro i2 j1 b2 ⟨v0,f0,q⟩;refine va (.pointer (some ⟨p,5,none⟩)) ?_;obtain ⟨g,h,i,rfl⟩:=(q).form;refine md (sC 32 5 (.slice g h i) [.slice k n o,I a.P.At.Row,I a.P.At.Col,B a.P.At.Pending,B a.P.Auto,.slice g h i,.slice d e f,I a.Parts] 3 f0 ⟨(q).one,trivial⟩) ?_;rintro k1 c2 y;refine wln (sr (vx (leN 35 0 [.slice k n o,I a.P.At.Row,I a.P.At.Col,B a.P.At.Pending,B a.P.Auto,.slice g h i,.slice d e f,I a.Parts] (y.on 3 rfl)) (md (sA 35 [.slice k n o,I a.P.At.Row,I a.P.At.Col,B a.P.At.Pending,B a.P.Auto,.slice g h i,.slice d e f,I a.Parts] 2 y ⟨S.m.one,rfl,rfl,rfl,rfl,q.m.one,T.m.one,rfl,trivial⟩) ?_)));rintro R d2 z;refine wln (W.ret ?_);cases j;have g0:=z.sD 4 [1];exact kv (c:=R) (vs:=[.slice k n o,I a.P.At.Row,I a.P.At.Col,B a.P.At.Pending,B a.P.Auto,.slice g h i,.slice d e f,I a.Parts]) rfl (by kernel_rfl) (by kernel_rfl) (by kernel_rfl) (z.on 2 rfl _ rfl).1 ⟨_,R,rfl,rfl,pt,(.slice k n o),(.slice g h i),v0,(.slice d e f),g0,rfl,S.m,q.m,T.m⟩
def cO (p0:aq):Option (aa):=
 (gO p0.P p0.Group).bind fun a=>
 some a
theorem jr (U:Own c0 G F) (a:aq){r:aa}(N:Sl am c0 v1 a.P.L) (S:Sl (RI .i32) c0 v3 a.Group) (X:Sl (RI .u8) c0 v5 a.Raw) (H:cO a=some r): Calls prog 36 #[.agg #[v1,I a.P.At.Row,I a.P.At.Col,B a.P.At.Pending,B a.P.Auto,v3,v5,I a.Parts]] c0.w (aR c0 fun c v=>∃T,Own c G (F)/\v= .agg #[T,I r.At.Row,I r.At.Col,B r.At.Pending,B r.Auto]/\Sl am c T r.L):=by
 unfold cO at H;refine en func36 rfl rfl (sr ?_);obtain ⟨D,E,M,rfl⟩:=(N).form;obtain ⟨t,u,x,rfl⟩:=(S).form;obtain ⟨y,z,A,rfl⟩:=(X).form;refine me (bx 35 [.slice D E M,I a.P.At.Row,I a.P.At.Col,B a.P.At.Pending,B a.P.Auto,.slice t u x,.slice y z A,I a.Parts] U) ?_;rintro v20 a0 e0 ⟨i,rfl,o,n⟩;refine me (al 31 [Y,I 0,I 0,B false,B false] o) ?_;rintro v24 b0 f0 ⟨Z,rfl,p⟩;refine wln (sr (va (Q i) (vx (lN 31 (Bs (k:=0) (l:=[.slice D E M,I a.P.At.Row,I a.P.At.Col,B a.P.At.Pending,B a.P.Auto]) (mm n) rfl)) (va (Qo i (0+5)) (vx (l1 dD ((mm n) 5 _ rfl)) (bn H fun b R H=>cl (sk p a.P a.Group N.m S.m R) ?_))))));rintro v33 d0 g0 ⟨v26,q,rfl,g⟩;obtain ⟨d,e,f,rfl⟩:=(g).form;refine md (sA 31 [.slice d e f,I b.At.Row,I b.At.Col,B b.At.Pending,B b.Auto] 0 q ⟨g.one,rfl,rfl,rfl,rfl,trivial⟩) ?_;rintro j h0 h;refine wln (W.ret ?_);obtain rfl:=si H;have s:=h.sD 1 [];exact kv (c:=j) (vs:=[.slice d e f,I b.At.Row,I b.At.Col,B b.At.Pending,B b.Auto]) rfl (by kernel_rfl) (by kernel_rfl) (by kernel_rfl) (h.on 0 rfl _ rfl).1 ⟨_,j,rfl,rfl,pt,(.slice d e f),s,rfl,g.m⟩
def cX (p0:aq):Option (aq):=
 (cO p0).bind fun a=>
 some (⟨a,([]:List Int),p0.Raw,p0.Parts⟩:aq)
theorem iE (O0:Own c0 G F) (b:aq){r:aq}(T:Sl am c0 v1 b.P.L) (X:Sl (RI .i32) c0 v3 b.Group) (q:Sl (RI .u8) c0 v5 b.Raw) (H:cX b=some r): Calls prog 88 #[.agg #[v1,I b.P.At.Row,I b.P.At.Col,B b.P.At.Pending,B b.P.Auto,v3,v5,I b.Parts]] c0.w (aR c0 fun c v=>∃y1 y y3 y4,Own c G (es true (RI .i32) y 21 y3 r.Group::F)/\v= .agg #[y1,I r.P.At.Row,I r.P.At.Col,B r.P.At.Pending,B r.P.Auto,y,y4,I r.Parts]/\Sl am c y1 r.P.L/\OA (RI .i32) c y y3 r.Group/\Sl (RI .u8) c y4 r.Raw):=by
 unfold cX at H;refine en func88 rfl rfl (sr ?_);obtain ⟨N,R,S,rfl⟩:=(T).form;obtain ⟨l,n,o,rfl⟩:=(X).form;obtain ⟨d,f,g,rfl⟩:=(q).form;refine me (al 35 [.slice N R S,I b.P.At.Row,I b.P.At.Col,B b.P.At.Pending,B b.P.Auto,.slice l n o,.slice d f g,I b.Parts] O0) ?_;rintro v19 g0 l0 ⟨x,rfl,z⟩;refine me (al 35 [Y,I 0,I 0,B false,B false,Y,Y,I 0] z) ?_;rintro v23 h0 m0 ⟨f0,rfl,s⟩;refine wln (sr (vx (leN 35 0 [.slice N R S,I b.P.At.Row,I b.P.At.Col,B b.P.At.Pending,B b.P.Auto,.slice l n o,.slice d f g,I b.Parts] (s.on 1 rfl)) (bn H fun a U H=>cl (jr s b T.m X.m q.m U) ?_)));rintro v32 i0 o0 ⟨v25,A,rfl,k⟩;refine va (Q x) ?_;obtain ⟨h,i,j,rfl⟩:=(k).form;refine md (sB 31 0 [.slice h i j,I a.At.Row,I a.At.Col,B a.At.Pending,B a.Auto] [.slice h i j,I a.At.Row,I a.At.Col,B a.At.Pending,B a.Auto,.slice l n o,.slice d f g,I b.Parts] 1 A ⟨k.one,rfl,rfl,rfl,rfl,trivial⟩) ?_;rintro j0 q0 D;refine wln (sr (va (Qo x 5) (md (sC 32 5 (Y) [.slice h i j,I a.At.Row,I a.At.Col,B a.At.Pending,B a.Auto,Y,.slice d f g,I b.Parts] 1 D ⟨rfl,trivial⟩) ?_)));rintro k0 s0 t;refine wln (sr (vx (leN 35 0 [.slice h i j,I a.At.Row,I a.At.Col,B a.At.Pending,B a.Auto,Y,.slice d f g,I b.Parts] (t.on 1 rfl)) (md (sA 35 [.slice h i j,I a.At.Row,I a.At.Col,B a.At.Pending,B a.Auto,Y,.slice d f g,I b.Parts] 0 t ⟨k.m.one,rfl,rfl,rfl,rfl,rfl,q.m.one,rfl,trivial⟩) ?_)));rintro p t0 E;refine wln (W.ret ?_);cases H;have Z:OA (RI .i32) p (Y) [] []:=OA.nil (aN _);have u:=E.addHole (e:=es true (RI .i32) (Y) 21 [] ([]:List Int)) rfl;have M:=u.sD 3 [0];exact kv (c:=p) (vs:=[.slice h i j,I a.At.Row,I a.At.Col,B a.At.Pending,B a.Auto,Y,.slice d f g,I b.Parts]) rfl (by kernel_rfl) (by kernel_rfl) (by kernel_rfl) (u.on 1 rfl _ rfl).1 ⟨_,p,rfl,rfl,pt,(.slice h i j),(Y),[],(.slice d f g),M,rfl,k.m,Z,q.m⟩
def dQ (p0:aq):Option (aq):=
 ((dw p0).bind fun d=>
 if (decide (d>0))=true then
 (eq p0 65533).bind fun a=>
 some (a.P.L,a.P.At.Row,a.P.At.Col,a.P.At.Pending,a.P.Auto,a.Group,a.Raw,a.Parts)
 else
 some (p0.P.L,p0.P.At.Row,p0.P.At.Col,p0.P.At.Pending,p0.P.Auto,p0.Group,p0.Raw,p0.Parts)).bind fun b=>
 (cX (⟨(⟨b.1,(⟨b.2.1,b.2.2.1,b.2.2.2.1⟩:ai),b.2.2.2.2.1⟩:aa),b.2.2.2.2.2.1,([]:List Int),0⟩:aq)).bind fun c=>
 some c
theorem nY (O0:Own c0 G F) (b:aq){r:aq}(h2:Sl am c0 v1 b.P.L) (h4:Sl (RI .i32) c0 v3 b.Group) (h6:Sl (RI .u8) c0 v5 b.Raw) (H:dQ b=some r): Calls prog 87 #[.agg #[v1,I b.P.At.Row,I b.P.At.Col,B b.P.At.Pending,B b.P.Auto,v3,v5,I b.Parts]] c0.w (aR c0 fun c v=>∃y1 y2 y3 y4,Own c G (es true (RI .i32) y2 21 y3 r.Group::F)/\v= .agg #[y1,I r.P.At.Row,I r.P.At.Col,B r.P.At.Pending,B r.P.Auto,y2,y4,I r.Parts]/\Sl am c y1 r.P.L/\OA (RI .i32) c y2 y3 r.Group/\Sl (RI .u8) c y4 r.Raw):=by
 unfold dQ at H;refine en func87 rfl rfl (sr ?_);obtain ⟨a7,a8,a9,rfl⟩:=(h2).form;obtain ⟨j,k,n,rfl⟩:=(h4).form;obtain ⟨o,p,q,rfl⟩:=(h6).form;refine me (al 35 [.slice a7 a8 a9,I b.P.At.Row,I b.P.At.Col,B b.P.At.Pending,B b.P.Auto,.slice j k n,.slice o p q,I b.Parts] O0) ?_;rintro v19 f2 p2 ⟨s,rfl,y0⟩;refine me (al 35 [Y,I 0,I 0,B false,B false,Y,Y,I 0] y0) ?_;rintro v23 g1 q2 ⟨v0,rfl,h0⟩;refine wln (bn H fun a e t=>W.seqJ (Jn g1 fun c l=>∃v26 v27 v28,Own c G ((Eb v0 35 [Y,I 0,I 0,B false,B false,Y,Y,I 0])::(Eb s 35 [v26,I a.2.1,I a.2.2.1,B a.2.2.2.1,B a.2.2.2.2.1,v27,v28,I a.2.2.2.2.2.2.2])::F)/\l= [(1,Q s),(2,Q v0)]/\Sl am c v26 a.1/\Sl (RI .i32) c v27 a.2.2.2.2.2.1/\Sl (RI .u8) c v28 a.2.2.2.2.2.2.1) ?_ ?_)
 ·refine sr (vx (leN 35 0 [.slice a7 a8 a9,I b.P.At.Row,I b.P.At.Col,B b.P.At.Pending,B b.P.Auto,.slice j k n,.slice o p q,I b.Parts] (h0.on 1 rfl)) (bn e fun x1 j1 e=>cl (lf h0 b h2.m h4.m h6.m j1) ?_));rintro v35 h1 s2 ⟨x,rfl⟩;refine va (B (decide (x1>0))) (wln (cn e (fun k1 e=>?_) (fun k1 e=>?_)))
  ·refine W.region (vx (leN 35 0 [.slice a7 a8 a9,I b.P.At.Row,I b.P.At.Col,B b.P.At.Pending,B b.P.Auto,.slice j k n,.slice o p q,I b.Parts] (x.on 1 rfl)) (bn e fun f m1 e=>cl (oo x b 65533 h2.m h4.m h6.m m1) ?_));rintro v50 g2 t2 ⟨v38,v40,a3,v43,z0,rfl,R,S,T⟩;obtain ⟨j0,k0,l0,rfl⟩:=(R).form;obtain ⟨m0,o0,q0,rfl⟩:=(S).form;obtain ⟨s0,t0,u0,rfl⟩:=(T).form;refine md (sA 35 [.slice j0 k0 l0,I f.P.At.Row,I f.P.At.Col,B f.P.At.Pending,B f.P.Auto,.slice m0 o0 q0,.slice s0 t0 u0,I f.Parts] 2 z0 ⟨R.one,rfl,rfl,rfl,rfl,(S).one,T.one,rfl,trivial⟩) ?_;rintro i2 u1 a1;refine wln ?_;cases e;obtain ⟨i1,p1,u2,b1,n1⟩:=a1.frz 0 rfl (S.mono u1);have c1:=b1.sD 3 [1,2];exact ⟨i1,_,_,p1.symm,pt,us,(.slice j0 k0 l0),(.slice m0 o0 q0),(.slice s0 t0 u0),c1,rfl,R.m,n1,T.m⟩
  refine W.skip (nrm ?_);cases e;exact jn h1 ⟨(.slice a7 a8 a9),(.slice j k n),(.slice o p q),x,rfl,h2.m,h4.m,h6.m⟩
 rintro e_ w_ ⟨j2,n2,_,rfl,v2,rfl,v26,v27,v28,d1,rfl,q1,s1,o2⟩;refine sr (va (Qo s 6) (md (sC 33 6 (Y) [v26,I a.2.1,I a.2.2.1,B a.2.2.2.1,B a.2.2.2.2.1,v27,Y,I a.2.2.2.2.2.2.2] 1 d1 ⟨rfl,trivial⟩) ?_));rintro k2 w2 e1;refine wln (sr (va (Qo s 7) (md (sC 3 7 (I 0) [v26,I a.2.1,I a.2.2.1,B a.2.2.2.1,B a.2.2.2.2.1,v27,Y,I 0] 1 e1 ⟨rfl,trivial⟩) ?_)));rintro l2 x2 i0;refine wln (sr (vx (leN 35 0 [v26,I a.2.1,I a.2.2.1,B a.2.2.2.1,B a.2.2.2.2.1,v27,Y,I 0] (i0.on 1 rfl)) (bn t fun d t1 t=>cl (iE i0 (⟨(⟨a.1,(⟨a.2.1,a.2.2.1,a.2.2.2.1⟩:ai),a.2.2.2.2.1⟩:aa),a.2.2.2.2.2.1,([]:List Int),0⟩:aq) q1.m s1.m (Sl.nl _ _) t1) ?_)));rintro e3 m2 z2 ⟨b3,c3,w1,d3,f1,rfl,U,X,Z⟩;obtain ⟨y,z,A,rfl⟩:=(U).form;obtain ⟨D,E,M,rfl⟩:=(X).form;obtain ⟨g,h,i,rfl⟩:=(Z).form;refine md (sA 35 [.slice y z A,I d.P.At.Row,I d.P.At.Col,B d.P.At.Pending,B d.P.Auto,.slice D E M,.slice g h i,I d.Parts] 1 f1 ⟨U.one,rfl,rfl,rfl,rfl,(X).one,Z.one,rfl,trivial⟩) ?_;rintro N e2 u;refine wln (W.ret ?_);obtain rfl:=si t;have w0:=u.sD 3 [0];exact kv (c:=N) (vs:=[.slice y z A,I d.P.At.Row,I d.P.At.Col,B d.P.At.Pending,B d.P.Auto,.slice D E M,.slice g h i,I d.Parts]) rfl (by kernel_rfl) (by kernel_rfl) (by kernel_rfl) (u.on 1 rfl _ rfl).1 ⟨_,N,rfl,rfl,pt,(.slice y z A),(.slice D E M),w1,(.slice g h i),w0,rfl,U.m,X.m,Z.m⟩
def nT (sg:Sto) (p0:Option Nat):Option (Sto×(Option Nat)):=
 (orE p0.isNone ((p0).bind fun d=>
 (sg.place_Pen[d]?).bind fun b=>
 some b.G.isNone)).bind fun c=>
 if c=true then
 some (sg,(none:Option Nat))
 else
 (some (sg.add_feed_Feeder (⟨p0,(⟨0,0,0,0,0⟩:bH),(⟨false,0,0,0,false⟩:cQ),(none:Option Nat)⟩:bI))).bind fun a=>
 some (a,(some sg.feed_Feeder.length))
theorem AY (t:Own c0 G F) (u:Rel c0 sg G) (k:Option Nat){r:Sto×(Option Nat)}(n:Pt 2 c0 v1 k) (H:nT sg k=some r): Calls prog 80 #[v1] c0.w (aR c0 fun c v=>∃y1,∃G_:Gm,Own c G_ (F)/\Rel c r.1 G_/\eV G G_/\v=y1/\Pt 4 c y1 r.2):=by
 unfold nT at H;refine en func80 rfl rfl (sr (va (.pointer none) (wln (W.seq (W.seq (bn H fun T h3 H=>W.join (Jn c0 fun c l=>Own c G (F)/\l= [(0,v1),(11,B T)]) ?_ ?_))))))
 ·clear H;refine W.region (va (v1) (vr (B k.isNone) (by rcases (n).cs with ⟨d,e⟩|⟨b_,d,e⟩ <;> (subst d; rw [e]; kernel_rfl)) ?_));rcases bo (k.isNone) with h|h
  ·obtain rfl:=orT h h3;exact vb h (pz (pz (ps (va (B true) (wln (jn c0 ⟨t,rfl⟩))))))
  have g:=orF h h3;refine vb h (wa (v1) (wn (bn g fun t0 h8 g=>?_)));obtain ⟨R,rfl,h7⟩:=(n).get h8;refine va (Q R) (wa (Q R) (wn (bn g fun j h9 g=>?_)));obtain ⟨v10,X,U⟩:=Rel.open_place_Pen u h9 h7;refine vx (le1 0 fp (t.gon X 0 rfl)) (wn (vr (B j.G.isNone) (by rcases (U).cs with ⟨d,e⟩|⟨b_,d,e⟩ <;> (subst d; rw [e]; kernel_rfl)) ?_));cases g;exact va (B j.G.isNone) (wln (jn c0 ⟨t,rfl⟩))
 rintro e_ w_ ⟨S,o0,_,rfl,i,rfl,o,rfl⟩;refine nrm (cn H (fun Z H=>?_) (fun Z H=>?_))
 ·refine sr (va (.pointer none) (wln (W.ret (thr ?_))));cases H;exact r1 (qq S ⟨(.pointer none),G,o,u.m,(eV.refl _),rfl,rfl⟩)
 refine W.skip (nrm (sr (va (v1) ?_)));obtain ⟨f,rfl⟩:=((n.mono i)).form;refine va (.agg #[.pointer f,I 0,I 0,.int .u8 0,.int .u8 0,I 0,B false,I 0,I 0,I 0,B false,.pointer none]) (me (al 184 [.pointer f,I 0,I 0,.int .u8 0,.int .u8 0,I 0,B false,I 0,I 0,I 0,B false,.pointer none] o) ?_);rintro v24 m0 s ⟨a,rfl,A⟩;have D:=A.sD 1 [0];refine bn H fun y a0 H=>?_;obtain ⟨q,z,b0,u0,d0,M,p,q0,f0,N⟩:=Rel.new_feed_Feeder (E:=[(Eb a 184 [.pointer f,I 0,I 0,.int .u8 0,.int .u8 0,I 0,B false,I 0,I 0,I 0,B false,.pointer none])]) (F:=F) (x:=(⟨k,(⟨0,0,0,0,0⟩:bH),(⟨false,0,0,0,false⟩:cQ),(none:Option Nat)⟩:bI)) (b:=a) D (u.mono (i.trans s)) (fun c_ hle_=>⟨a,(.pointer f),(.pointer none),rfl,rfl,(n.mono ((i.trans s).trans hle_)),rfl⟩);rw [bj a0] at p;refine WL.gh b0.1 ?_;have s0:=eV.nil (eV.refl _) f0;have P:=(eV.refl _).trans N;have g0:Pt 4 q (Q a) (some sg.feed_Feeder.length):=⟨a,rfl,d0⟩;refine va (Q a) (wln (W.ret ?_));cases H;exact r1 (qq q ⟨(Q a),z,M,p,P,rfl,g0⟩)
def jp (p0:Int):Option (Int):=
 (orE (decide (p0<0)) (some (decide (p0>13)))).bind fun a=>
 if a=true then
 some 0
 else
 some p0
theorem sM (d:Own c0 G F) (a:Int){r:Int}(H:jp a=some r): Calls prog 309 #[I a] c0.w (aR c0 fun c v=>Own c G (F)/\v=I r):=by
 unfold jp at H;refine en func309 rfl rfl (sr (va (I 0) (wln (W.seq (W.seq (bn H fun g h H=>W.join (Jn c0 fun c l=>Own c G (F)/\l= [(0,I a),(8,B g)]) ?_ ?_))))))
 ·clear H;refine W.region (va (I a) (va (B (decide (a<0))) ?_));rcases bo (decide (a<0)) with b|b
  ·obtain rfl:=orT b h;exact vb b (pz (va (B true) (wln (jn c0 ⟨d,rfl⟩))))
  have j:=orF b h;refine vb b (wa (I a) (wa (B (decide (a>13))) ?_));cases j;exact va (B (decide (a>13))) (wln (jn c0 ⟨d,rfl⟩))
 rintro k o ⟨f,m,_,rfl,n,rfl,e,rfl⟩;refine nrm (cn H (fun i H=>?_) (fun i H=>?_))
 ·refine sr (va (I 0) (wln (W.ret (thr ?_))));cases H;exact r1 (qq f ⟨e,rfl⟩)
 refine W.skip (nrm (sr (vv (I a) (wln (W.ret ?_)))));cases H;exact r1 (qq f ⟨e,rfl⟩)
def ma (p0:Int):Option (Bool):=
 if (p0==1)=true then
 some true
 else
 if (p0==2)=true then
 some true
 else
 if (p0==3)=true then
 some true
 else
 some false
theorem ry (b:Own c0 G F) (a:Int){r:Bool}(H:ma a=some r): Calls prog 310 #[I a] c0.w (aR c0 fun c v=>Own c G (F)/\v=B r):=by
 unfold ma at H;refine en func310 rfl rfl (sr (va (B false) (wln (W.seq (sr (va (I a) (wln (W.block (W.seq (W.block (W.block (W.block (W.seq (W.seq (sr (vv (B (a==1)) (wln (cn H (fun d H=>?_) (fun d H=>?_)))))))))))))))))))
 ·refine W.exit (thx (thx (bke (bkn (bkn (nrm (W.seq (sr (va (B true) (wln (W.ret (thr (bkr (thr ?_))))))))))))));cases H;exact r1 (qq c0 ⟨b,rfl⟩)
 refine W.skip (nrm (W.seq (sr (vv (B (a==2)) (wln (cn H (fun e H=>?_) (fun e H=>?_)))))))
 ·refine W.exit (thx (thx (bko rfl (bke (bkn (nrm (W.seq (sr (va (B true) (wln (W.ret (thr (bkr (thr ?_))))))))))))));cases H;exact r1 (qq c0 ⟨b,rfl⟩)
 refine W.skip (nrm (sr (vv (B (a==3)) (wln (cn H (fun f H=>?_) (fun f H=>?_))))))
 ·refine W.exit (thx (bko rfl (bko rfl (bke (nrm (W.seq (sr (va (B true) (wln (W.ret (thr (bkr (thr ?_)))))))))))));cases H;exact r1 (qq c0 ⟨b,rfl⟩)
 refine W.skip (nrm (W.exit (bko rfl (bko rfl (bko rfl (thx (bke (nrm (sr (va (B false) (wln (W.ret ?_))))))))))));cases H;exact r1 (qq c0 ⟨b,rfl⟩)
def mT (p0:Int) (p1:Int):Option (Bool):=
 if (p0==9)=true then
 (orE (p1==9) (some (p1==10))).bind fun a=>
 (orE a (some (p1==12))).bind fun b=>
 (orE b (some (p1==13))).bind fun c=>
 some c
 else
 (if (p0==12)=true then
 some (p0==12)
 else
 some (p0==10)).bind fun e=>
 if e=true then
 (orE (p1==10) (some (p1==11))).bind fun d=>
 some d
 else
 (if (p0==13)=true then
 some (p0==13)
 else
 some (p0==11)).bind fun f=>
 if f=true then
 some (p1==11)
 else
 some false
theorem uQ (m:Own c0 G F) (b:Int) (a:Int){r:Bool}(H:mT b a=some r): Calls prog 311 #[I b,I a] c0.w (aR c0 fun c v=>Own c G (F)/\v=B r):=by
 unfold mT at H;refine en func311 rfl rfl (sr (va (B false) (wln (W.seq (sr (va (I b) (wln (W.block (sr (vv (B (b==9)) (wln (cn H (fun h1 H=>?_) (fun h1 H=>?_)))))))))))))
 ·refine W.seq (bn H fun i0 Z H=>bn H fun j0 A H=>bn H fun x p H=>W.join (Jn c0 fun c l=>Own c G (F)/\l= [(4,B x)]) ?_ ?_)
  ·clear H;refine W.region (va (I a) (va (B (a==9)) ?_));rcases bo (a==9) with n|n
   ·obtain rfl:=orT n Z;refine vb n (pz (va (B true) ?_));have h6:true=true:=rfl;obtain rfl:=orT h6 A;refine vb h6 (pz (va (B true) ?_));have h7:true=true:=rfl;obtain rfl:=orT h7 p;exact vb h7 (pz (vv (B true) (wln (jn c0 ⟨m,rfl⟩))))
   have H8:=orF n Z;refine vb n (wa (I a) (wa (B (a==10)) ?_));cases H8;refine va (B (a==10)) ?_;rcases bo (a==10) with o|o
   ·obtain rfl:=orT o A;refine vb o (pz (va (B true) ?_));have t:true=true:=rfl;obtain rfl:=orT t p;exact vb t (pz (vv (B true) (wln (jn c0 ⟨m,rfl⟩))))
   have N:=orF o A;refine vb o (wa (I a) (wa (B (a==12)) ?_));cases N;refine va (B (a==12)) ?_;rcases bo (a==12) with i|i
   ·obtain rfl:=orT i p;exact vb i (pz (vv (B true) (wln (jn c0 ⟨m,rfl⟩))))
   have P:=orF i p;refine vb i (wa (I a) (wa (B (a==13)) ?_));cases P;exact vv (B (a==13)) (wln (jn c0 ⟨m,rfl⟩))
  rintro z D ⟨U,l0,_,rfl,s0,rfl,S,rfl⟩;refine nrm (W.ret (bkr (thr ?_)));cases H;exact r1 (qq U ⟨S,rfl⟩)
 refine bn H fun E f d=>W.seqJ (Jn c0 fun c l=>Own c G (F)/\l= [(1,I a),(5,I b),(22,B E)]) ?_ ?_
 ·refine sr (vv (B (b==12)) (wln (cn f (fun a0 f=>?_) (fun a0 f=>?_))))
  ·refine W.skip (nrm ?_);cases f;exact jn c0 ⟨m,rfl⟩
  refine W.region (vv (B (b==10)) (wln ?_));cases f;exact jn c0 ⟨m,rfl⟩
 rintro z D ⟨e,m0,_,rfl,t0,rfl,k,rfl⟩;refine cn d (fun b0 d=>?_) (fun b0 d=>?_)
 ·refine W.seq (bn d fun y u d=>W.join (Jn e fun c l=>Own c G (F)/\l= [(4,B y)]) ?_ ?_)
  ·clear d;refine W.region (va (I a) (va (B (a==10)) ?_));rcases bo (a==10) with j|j
   ·obtain rfl:=orT j u;exact vb j (pz (vv (B true) (wln (jn e ⟨k,rfl⟩))))
   have R:=orF j u;refine vb j (wa (I a) (wa (B (a==11)) ?_));cases R;exact vv (B (a==11)) (wln (jn e ⟨k,rfl⟩))
  rintro z D ⟨X,o0,_,rfl,u0,rfl,T,rfl⟩;refine nrm (W.ret (bkr (thr ?_)));cases d;exact r1 (qq X ⟨T,rfl⟩)
 refine bn d fun M g h=>W.seqJ (Jn e fun c l=>Own c G (F)/\l= [(1,I a),(31,B M)]) ?_ ?_
 ·refine sr (vv (B (b==13)) (wln (cn g (fun d0 g=>?_) (fun d0 g=>?_))))
  ·refine W.skip (nrm ?_);cases g;exact jn e ⟨k,rfl⟩
  refine W.region (vv (B (b==11)) (wln ?_));cases g;exact jn e ⟨k,rfl⟩
 rintro z D ⟨s,q0,_,rfl,v0,rfl,q,rfl⟩;refine cn h (fun e0 h=>?_) (fun e0 h=>?_)
 ·refine sr (va (I a) (vv (B (a==11)) (wln (W.ret (bkr (thr ?_))))));cases h;exact r1 (qq s ⟨q,rfl⟩)
 refine W.skip (bkn (nrm (sr (va (B false) (wln (W.ret ?_))))));cases h;exact r1 (qq s ⟨q,rfl⟩)
def gp (p0:Int) (p1:Int):Option (Int):=
 (jp p0).bind fun b=>
 (jp p1).bind fun a=>
 (bT (b==1) (some (a==2))).bind fun e=>
 if e=true then
 some 1
 else
 (ma b).bind fun i=>
 (orE i ((ma a).bind fun j=>
 some j)).bind fun f=>
 if f=true then
 some 0
 else
 ((mT b a).bind fun d=>
 if d=true then
 some (d)
 else
 if (a==4)=true then
 some (a==4)
 else
 if (a==5)=true then
 some (a==5)
 else
 if (a==8)=true then
 some (a==8)
 else
 some (b==7)).bind fun k=>
 if k=true then
 some 1
 else
 ((bT (a==0) ((orE (b==5) (some (b==4))).bind fun g=>
 some g)).bind fun c=>
 if c=true then
 some (c)
 else
 (bT (b==6) (some (a==6))).bind fun h=>
 some (h)).bind fun l=>
 if l=true then
 some 2
 else
 some 0
theorem yu (O0:Own c0 G F) (E:Int) (M:Int){r:Int}(H:gp E M=some r): Calls prog 269 #[I E,I M] c0.w (aR c0 fun c v=>Own c G (F)/\v=I r):=by
 unfold gp at H;refine en func269 rfl rfl (sr (va (I 0) (wln (sr (va (I E) (bn H fun b h1 H=>cl (sM O0 E h1) ?_))))));rintro v7 c6 l6 ⟨O3,rfl⟩;refine va (I M) (bn H fun a h8 H=>cl (sM O3 M h8) ?_);rintro v14 y c2 ⟨N,rfl⟩;refine va (I b) (va (I a) (wln (W.seq (W.block (W.seq (bn H fun g0 a0 H=>W.join (Jn y fun c l=>Own c G (F)/\l= [(0,I b),(1,I a),(9,B g0)]) ?_ ?_))))))
 ·clear H;refine W.region (va (I b) (va (B (b==1)) ?_));rcases bo (b==1) with k|k
  ·have q0:=anT k a0;refine vb k (wa (I a) (wa (B (a==2)) ?_));cases q0;exact vv (B (a==2)) (wln (jn y ⟨N,rfl⟩))
  obtain rfl:=anF k a0;exact vb k (pz (vv (B false) (wln (jn y ⟨N,rfl⟩))))
 rintro z A ⟨U,v1,_,rfl,d2,rfl,P,rfl⟩;refine nrm (cn H (fun z0 H=>?_) (fun z0 H=>?_))
 ·refine sr (va (I 1) (wln (W.ret (bkr (thr ?_)))));cases H;exact r1 (qq U ⟨P,rfl⟩)
 refine W.seq (bn H fun k0 a1 H=>bn H fun h0 b0 H=>W.join (Jn U fun c l=>Own c G (F)/\l= [(0,I b),(1,I a),(16,B h0)]) ?_ ?_)
 ·clear H;refine W.region (va (I b) (cl (ry P b a1) ?_));rintro v32 w0 e2 ⟨R,rfl⟩;rcases bo (k0) with m|m
  ·obtain rfl:=orT m b0;exact vb m (pz (vv (B true) (wln (jn w0 ⟨R,rfl⟩))))
  have u:=orF m b0;refine vb m (wa (I a) (wn (bn u fun D b1 u=>cl (ry R a b1) ?_)));rintro v41 x0 f2 ⟨u0,rfl⟩;obtain rfl:=si u;exact vv (B D) (wln (jn x0 ⟨u0,rfl⟩))
 rintro z A ⟨X,w1,_,rfl,g2,rfl,S,rfl⟩;refine nrm (cn H (fun c1 H=>?_) (fun c1 H=>?_))
 ·refine sr (va (I 0) (wln (W.ret (bkr (thr ?_)))));cases H;exact r1 (qq X ⟨S,rfl⟩)
 refine bn H fun m0 d g=>W.seqJ (Jn X fun c l=>Own c G (F)/\l= [(0,I b),(1,I a),(23,B m0)]) ?_ ?_
 ·refine sr (va (I b) (va (I a) (bn d fun l0 d1 d=>cl (uQ S b a d1) ?_)));rintro v57 j h2 ⟨i,rfl⟩;refine va (B l0) (wln (cn d (fun e1 d=>?_) (fun e1 d=>?_)))
  ·refine W.skip (nrm ?_);cases d;exact jn j ⟨i,rfl⟩
  refine sr (va (I a) (vv (B (a==4)) (wln (cn d (fun f1 d=>?_) (fun f1 d=>?_)))))
  ·refine W.skip (nrm ?_);cases d;exact jn j ⟨i,rfl⟩
  refine sr (va (I a) (vv (B (a==5)) (wln (cn d (fun g1 d=>?_) (fun g1 d=>?_)))))
  ·refine W.skip (nrm ?_);cases d;exact jn j ⟨i,rfl⟩
  refine sr (va (I a) (vv (B (a==8)) (wln (cn d (fun i1 d=>?_) (fun i1 d=>?_)))))
  ·refine W.skip (nrm ?_);cases d;exact jn j ⟨i,rfl⟩
  refine W.region (va (I b) (vv (B (b==7)) (wln ?_)));cases d;exact jn j ⟨i,rfl⟩
 rintro z A ⟨f,x1,_,rfl,i2,rfl,s,rfl⟩;refine cn g (fun j1 g=>?_) (fun j1 g=>?_)
 ·refine sr (va (I 1) (wln (W.ret (bkr (thr ?_)))));cases g;exact r1 (qq f ⟨s,rfl⟩)
 refine bn g fun o0 e h=>W.seqJ (Jn f fun c l=>Own c G (F)/\l= [(35,B o0)]) ?_ ?_
 ·refine W.seq (bn e fun i0 d0 e=>W.join (Jn f fun c l=>Own c G (F)/\l= [(0,I b),(1,I a),(35,B i0)]) ?_ ?_)
  ·clear e;refine W.region (va (I a) (va (B (a==0)) ?_));rcases bo (a==0) with n|n
   ·have q:=anT n d0;refine vb n (wa (I b) (wa (B (b==5)) (wn (bn q fun s1 e0 q=>?_))));rcases bo (b==5) with o|o
    ·obtain rfl:=orT o e0;refine vb o (pz (wa (B true) ?_));cases q;exact vv (B true) (wln (jn f ⟨s,rfl⟩))
    have s0:=orF o e0;refine vb o (wa (I b) (wa (B (b==4)) (wn ?_)));cases s0;refine va (B (b==4)) ?_;cases q;exact vv (B (b==4)) (wln (jn f ⟨s,rfl⟩))
   obtain rfl:=anF n d0;exact vb n (pz (pz (pz (vv (B false) (wln (jn f ⟨s,rfl⟩))))))
  rintro z A ⟨t,y1,_,rfl,j2,rfl,x,rfl⟩;refine nrm (cn e (fun k1 e=>?_) (fun k1 e=>?_))
  ·refine W.skip (nrm ?_);cases e;exact jn t ⟨x,rfl⟩
  refine bn e fun j0 f0 e=>W.join (Jn t fun c l=>Own c G (F)/\l= [(35,B j0)]) ?_ ?_
  ·clear e;refine W.region (va (I b) (va (B (b==6)) ?_));rcases bo (b==6) with p|p
   ·have t0:=anT p f0;refine vb p (wa (I a) (wa (B (a==6)) ?_));cases t0;exact vv (B (a==6)) (wln (jn t ⟨x,rfl⟩))
   obtain rfl:=anF p f0;exact vb p (pz (vv (B false) (wln (jn t ⟨x,rfl⟩))))
  rintro z A ⟨y0,z1,_,rfl,k2,rfl,v0,rfl⟩;refine nrm ?_;cases e;exact jn y0 ⟨v0,rfl⟩
 rintro z A ⟨Z,b2,_,rfl,l2,rfl,T,rfl⟩;refine cn h (fun m1 h=>?_) (fun m1 h=>?_)
 ·refine sr (va (I 2) (wln (W.ret (bkr (thr ?_)))));cases h;exact r1 (qq Z ⟨T,rfl⟩)
 refine W.skip (bkn (nrm (sr (va (I 0) (wln (W.ret ?_))))));cases h;exact r1 (qq Z ⟨T,rfl⟩)
def dM (p0:cQ):Option (cQ):=
 if true=true then
 some (⟨false,0,0,0,false⟩:cQ)
 else
 some p0
theorem mn {a:Nat}{r0_0:Value}{r0_1:Value}{r0_2:Value}{r0_3:Value}{r0_4:Value}{r0_5:Value}{r0_11:Value}(b:cQ) (e:Own c0 G ((Eb a 184 [r0_0,r0_1,r0_2,r0_3,r0_4,r0_5,B b.some,I b.last,I b.pict,I b.conj,B b.odd,r0_11])::F)){r:cQ}(H:dM b=some r):
    Calls prog 168 #[.pointer (some ⟨a,6,none⟩)] c0.w (aR c0 fun c v=>Own c G ((Eb a 184 [r0_0,r0_1,r0_2,r0_3,r0_4,r0_5,B r.some,I r.last,I r.pict,I r.conj,B r.odd,r0_11])::F)/\v= .tuple #[]):=by
 unfold dM at H
 refine en func168 rfl rfl (sr (va (Qo a 6) (va (B true) (wln (W.cond (t:=true) (by kernel_rfl) (fun d=>?_) (fun d=>?_))))))
 ·have H:=it d H
  refine W.region (va (Qo a 6) (va (.agg #[B false,I 0,I 0,I 0,B false]) (va (Qo a 6) (md (sB 181 6 [B false,I 0,I 0,I 0,B false] [r0_0,r0_1,r0_2,r0_3,r0_4,r0_5,B false,I 0,I 0,I 0,B false,r0_11] 0 e ⟨rfl,rfl,rfl,rfl,rfl,trivial⟩) ?_))))
  rintro g h f
  refine WL.nil ?_
  cases H
  exact n0 (qq g ⟨f,rfl⟩)
 cases d
def dp (sg:Sto) (p0:Option Nat):Option (Sto):=
 if (!p0.isNone)=true then
 (p0).bind fun c=>
 (sg.feed_Feeder[c]?).bind fun a=>
 (sg.set_feed_Feeder c (⟨a.pen,a.dec,a.seg,(none:Option Nat)⟩:bI)).bind fun d=>
 (dM a.seg).bind fun e=>
 (d.set_feed_Feeder c (⟨a.pen,a.dec,e,(none:Option Nat)⟩:bI)).bind fun b=>
 some b
 else
 some sg
theorem jy (n:Own c0 G F) (i:Rel c0 sg G) (k:Option Nat){r:Sto}(M:Pt 4 c0 v1 k) (H:dp sg k=some r): Calls prog 109 #[v1] c0.w (aR c0 fun c v=>∃G_:Gm,Own c G_ (F)/\Rel c r G_/\v= .tuple #[]):=by
 unfold dp at H;refine en func109 rfl rfl (sr (va (v1) (vr (B (!k.isNone)) (by rcases (M).cs with ⟨f,g⟩|⟨b_,f,g⟩ <;> (subst f; rw [g]; kernel_rfl)) (wln (cn H (fun T H=>?_) (fun T H=>?_))))))
 ·refine sr (va (v1) (bn H fun g0 U H=>?_));obtain ⟨d,rfl,j⟩:=(M).get U;refine va (Q d) (va (Qo d 11) (bn H fun a X H=>?_));obtain ⟨v8,v10,A,R,e0⟩:=Rel.open_feed_Feeder i X j;refine md (gC 182 11 (.pointer none) [v8,I a.dec.held,I a.dec.needs,.int .u8 a.dec.lo,.int .u8 a.dec.hi,I a.dec.bits,B a.seg.some,I a.seg.last,I a.seg.pict,I a.seg.conj,B a.seg.odd,.pointer none] 0 n A ⟨rfl,trivial⟩) ?_;rintro d0 e o;refine bn H fun S E H=>?_;obtain ⟨Z,p,x,D,a0⟩:=Rel.put_feed_Feeder o (i.mono e) (E':=[(Eb d 184 [v8,I a.dec.held,I a.dec.needs,.int .u8 a.dec.lo,.int .u8 a.dec.hi,I a.dec.bits,B a.seg.some,I a.seg.last,I a.seg.pict,I a.seg.conj,B a.seg.odd,.pointer none])]) E ⟨d,v8,(.pointer none),(tm j),rfl,(R.mono e),rfl⟩;refine wln (W.region (vv (Q d) (va (Qo d 6) ?_)));have q:=p.borrow 0 D rfl;refine bn H fun b N H=>cl (mn a.seg q N) ?_;rintro v29 z h ⟨s,rfl⟩;have t:=s.giveB 0 rfl;refine bn H fun l P H=>?_;obtain ⟨m,u,y,f0,b0⟩:=Rel.put_feed_Feeder t (x.mono h) (E':=[(Eb d 184 [v8,I a.dec.held,I a.dec.needs,.int .u8 a.dec.lo,.int .u8 a.dec.hi,I a.dec.bits,B b.some,I b.last,I b.pict,I b.conj,B b.odd,.pointer none])]) P ⟨d,v8,(.pointer none),(tm j),rfl,(R.mono (e.trans h)),rfl⟩;refine WL.nil ?_;cases H;exact n0 (qq z ⟨m,u,y,rfl⟩)
 refine W.skip ?_;cases H;exact n0 (qq c0 ⟨G,n,i,rfl⟩)
def de (p0:cQ) (p1:aw):Option (Bool):=
 if (!p0.some)=true then
 some false
 else
 ((bT (p1.Conj==1) (some (p0.conj==2))).bind fun a=>
 if a=true then
 some (a)
 else
 (bT p1.Pict (some (p0.pict==2))).bind fun c=>
 some (c)).bind fun e=>
 if e=true then
 some true
 else
 (gp p0.last p1.Break).bind fun b=>
 if (b==1)=true then
 some true
 else
 if (b==2)=true then
 (bT (p0.last==6) (some p0.odd)).bind fun d=>
 some d
 else
 some false
theorem ml {b:Nat}{r0_0:Value}{r0_1:Value}{r0_2:Value}{r0_3:Value}{r0_4:Value}{r0_5:Value}{r0_11:Value}(a:cQ) (e:aw) (O0:Own c0 G ((Eb b 184 [r0_0,r0_1,r0_2,r0_3,r0_4,r0_5,B a.some,I a.last,I a.pict,I a.conj,B a.odd,r0_11])::F)){r:Bool}(H:de a e=some r): Calls prog 224 #[.pointer (some ⟨b,6,none⟩),.agg #[I e.Break,B e.Pict,I e.Conj,I e.East]] c0.w (aR c0 fun c v=>Own c G ((Eb b 184 [r0_0,r0_1,r0_2,r0_3,r0_4,r0_5,B a.some,I a.last,I a.pict,I a.conj,B a.odd,r0_11])::F)/\v=B r):=by
 unfold de at H;refine en func224 rfl rfl (sr (me (bx 238 [I e.Break,B e.Pict,I e.Conj,I e.East] O0) ?_));rintro v5 s l4 ⟨p,rfl,q,M⟩;refine va (B false) (wln (W.seq (sr (vv (Qo b 6) (va (Qo b 6) (vx (le1 6 u_4 (q.on 0 rfl)) (va (B (!a.some)) (wln (cn H (fun h6 H=>?_) (fun h6 H=>?_))))))))))
 ·refine sr (va (B false) (wln (W.ret (thr ?_))));cases H;exact r1 (qq s ⟨q,rfl⟩)
 refine W.skip (nrm (W.seq (W.block (bn H fun P f d=>W.seqJ (Jn s fun c l=>Own c G ((Eb b 184 [r0_0,r0_1,r0_2,r0_3,r0_4,r0_5,B a.some,I a.last,I a.pict,I a.conj,B a.odd,r0_11])::F)/\l= [(0,.pointer (some ⟨b,6,none⟩)),(3,Q p),(10,B P)]) ?_ ?_))))
 ·refine W.seq (bn f fun z h9 f=>W.join (Jn s fun c l=>Own c G ((Eb b 184 [r0_0,r0_1,r0_2,r0_3,r0_4,r0_5,B a.some,I a.last,I a.pict,I a.conj,B a.odd,r0_11])::F)/\l= [(0,.pointer (some ⟨b,6,none⟩)),(3,Q p),(10,B z)]) ?_ ?_)
  ·clear f;refine W.region (va (Qo p (0+2)) (vx (l1 u_3 (M 2 _ rfl)) (va (B (e.Conj==1)) ?_)));rcases bo (e.Conj==1) with j|j
   ·have R:=anT j h9;refine vb j (wa (Qo b 6) (wa (Qo b 6) (wa (Qo b 9) (wn (vx (le1 9 u_3 (q.on 0 rfl)) (wa (B (a.conj==2)) ?_))))));cases R;exact vv (B (a.conj==2)) (wln (jn s ⟨q,rfl⟩))
   obtain rfl:=anF j h9;exact vb j (pz (pz (ps (vv (B false) (wln (jn s ⟨q,rfl⟩))))))
  rintro E N ⟨o,u0,_,rfl,y0,rfl,n,rfl⟩;refine nrm (cn f (fun e0 f=>?_) (fun e0 f=>?_))
  ·refine W.skip (nrm ?_);cases f;exact jn o ⟨n,rfl⟩
  refine bn f fun A x f=>W.join (Jn o fun c l=>Own c G ((Eb b 184 [r0_0,r0_1,r0_2,r0_3,r0_4,r0_5,B a.some,I a.last,I a.pict,I a.conj,B a.odd,r0_11])::F)/\l= [(0,.pointer (some ⟨b,6,none⟩)),(3,Q p),(10,B A)]) ?_ ?_
  ·clear f;refine W.region (va (Qo p (0+1)) (vx (l1 u_4 ((mm M) 1 _ rfl)) ?_));rcases bo (e.Pict) with k|k
   ·have S:=anT k x;refine vb k (wa (Qo b 6) (wa (Qo b 6) (wa (Qo b 8) (wn (vx (le1 8 u_3 (n.on 0 rfl)) (wa (B (a.pict==2)) ?_))))));cases S;exact vv (B (a.pict==2)) (wln (jn o ⟨n,rfl⟩))
   obtain rfl:=anF k x;exact vb k (pz (pz (ps (vv (B false) (wln (jn o ⟨n,rfl⟩))))))
  rintro E N ⟨Z,v0,_,rfl,z0,rfl,U,rfl⟩;refine nrm ?_;cases f;exact jn Z ⟨U,rfl⟩
 rintro E N ⟨a0,w0,_,rfl,a1,rfl,t,rfl⟩;refine cn d (fun f0 d=>?_) (fun f0 d=>?_)
 ·refine sr (va (B true) (wln (W.ret (bkr (thr ?_)))));cases d;exact r1 (qq a0 ⟨t,rfl⟩)
 refine W.skip (bkn (nrm (W.seq (W.seq (rD [] (Kp G0 [(Eb b 184 [r0_0,r0_1,r0_2,r0_3,r0_4,r0_5,B a.some,I a.last,I a.pict,I a.conj,B a.odd,r0_11])]) t ?_)))));intro b0 c1 u;have l0:Kp G0 [(Eb b 184 [r0_0,r0_1,r0_2,r0_3,r0_4,r0_5,B a.some,I a.last,I a.pict,I a.conj,B a.odd,r0_11])] b0:=(Kp.cons (u.on 0 rfl) Kp.nil0);refine ta 0 (.pointer (some ⟨b,6,none⟩)) (ta 1 (Qo b 6) (ta 2 (Qo b 7) (tkx 3 l0 (fun c' k0 hk=>le1 7 u_3 (hk.on 0 rfl)) (ta 4 (Q p) (tx 5 (fun c' k0=>l1 u_3 ((mm M) 0 _ rfl)) (bn d fun i g0 d=>o1 6 (gc 6 (yu u a.last e.Break g0) ?_)))))));rintro v44 h d1 ⟨g,rfl⟩;have m0:Kp G0 [(Eb b 184 [r0_0,r0_1,r0_2,r0_3,r0_4,r0_5,B a.some,I a.last,I a.pict,I a.conj,B a.odd,r0_11])] h:=(Kp.cons (g.on 0 rfl) Kp.nil0);refine ⟨.inr m0,dn (nrm (W.block (sr (vv (B (i==1)) (wln (cn d (fun h0 d=>?_) (fun h0 d=>?_)))))))⟩
 ·refine sr (va (B true) (wln (W.ret (bkr (thr ?_)))));cases d;exact r1 (qq h ⟨g,rfl⟩)
 refine sr (vv (B (i==2)) (wln (cn d (fun i0 d=>?_) (fun i0 d=>?_))))
 ·refine W.seq (bn d fun D y d=>W.join (Jn h fun c l=>Own c G ((Eb b 184 [r0_0,r0_1,r0_2,r0_3,r0_4,r0_5,B a.some,I a.last,I a.pict,I a.conj,B a.odd,r0_11])::F)/\l= [(4,B D)]) ?_ ?_)
  ·clear d;refine W.region (vv (Qo b 6) (va (Qo b 7) (vx (le1 7 u_3 (g.on 0 rfl)) (va (B (a.last==6)) ?_))));rcases bo (a.last==6) with m|m
   ·have T:=anT m y;refine vb m (wa (Qo b 6) (wa (Qo b 6) (wa (Qo b 10) (wn (vx (le1 10 u_4 (g.on 0 rfl)) ?_)))));cases T;exact vv (B a.odd) (wln (jn h ⟨g,rfl⟩))
   obtain rfl:=anF m y;exact vb m (pz (pz (vv (B false) (wln (jn h ⟨g,rfl⟩)))))
  rintro E N ⟨d0,x0,_,rfl,e1,rfl,X,rfl⟩;refine nrm (W.ret (bkr (thr ?_)));cases d;exact r1 (qq d0 ⟨X,rfl⟩)
 refine W.skip (bkn (nrm (sr (va (B false) (wln (W.ret ?_))))));cases d;exact r1 (qq h ⟨g,rfl⟩)
def cW (p0:cQ) (p1:aw):Option (Int):=
 if p1.Pict=true then
 some 1
 else
 (bT (p0.pict==1) (some (p1.Break==4))).bind fun a=>
 if a=true then
 some 1
 else
 (bT (p0.pict==1) (some (p1.Break==5))).bind fun b=>
 if b=true then
 some 2
 else
 some 0
theorem lK {b:Nat}{r0_0:Value}{r0_1:Value}{r0_2:Value}{r0_3:Value}{r0_4:Value}{r0_5:Value}{r0_11:Value}(a:cQ) (d:aw) (A:Own c0 G ((Eb b 184 [r0_0,r0_1,r0_2,r0_3,r0_4,r0_5,B a.some,I a.last,I a.pict,I a.conj,B a.odd,r0_11])::F)){r:Int}(H:cW a d=some r): Calls prog 225 #[.pointer (some ⟨b,6,none⟩),.agg #[I d.Break,B d.Pict,I d.Conj,I d.East]] c0.w (aR c0 fun c v=>Own c G ((Eb b 184 [r0_0,r0_1,r0_2,r0_3,r0_4,r0_5,B a.some,I a.last,I a.pict,I a.conj,B a.odd,r0_11])::F)/\v=I r):=by
 unfold cW at H;refine en func225 rfl rfl (sr (me (bx 238 [I d.Break,B d.Pict,I d.Conj,I d.East] A) ?_));rintro v5 k T ⟨j,rfl,i,s⟩;refine va (I 0) (wln (W.seq (W.block (sr (va (Qo j (0+1)) (vx (l1 u_4 (s 1 _ rfl)) (va (B d.Pict) (wln (cn H (fun E H=>?_) (fun E H=>?_))))))))))
 ·refine sr (va (I 1) (wln (W.ret (bkr (thr ?_)))));cases H;exact r1 (qq k ⟨i,rfl⟩)
 refine W.seq (bn H fun p y H=>W.join (Jn k fun c l=>Own c G ((Eb b 184 [r0_0,r0_1,r0_2,r0_3,r0_4,r0_5,B a.some,I a.last,I a.pict,I a.conj,B a.odd,r0_11])::F)/\l= [(0,.pointer (some ⟨b,6,none⟩)),(3,Q j),(8,B p)]) ?_ ?_)
 ·clear H;refine W.region (vv (Qo b 6) (va (Qo b 8) (vx (le1 8 u_3 (i.on 0 rfl)) (va (B (a.pict==1)) ?_))));rcases bo (a.pict==1) with h|h
  ·have z:=anT h y;refine vb h (wa (Q j) (wn (vx (l1 u_3 (s 0 _ rfl)) (wa (B (d.Break==4)) ?_))));cases z;exact vv (B (d.Break==4)) (wln (jn k ⟨i,rfl⟩))
  obtain rfl:=anF h y;exact vb h (pz (ps (vv (B false) (wln (jn k ⟨i,rfl⟩)))))
 rintro D M ⟨g,N,_,rfl,R,rfl,f,rfl⟩;refine nrm (cn H (fun u H=>?_) (fun u H=>?_))
 ·refine sr (va (I 1) (wln (W.ret (bkr (thr ?_)))));cases H;exact r1 (qq g ⟨f,rfl⟩)
 refine W.seq (bn H fun q o H=>W.join (Jn g fun c l=>Own c G ((Eb b 184 [r0_0,r0_1,r0_2,r0_3,r0_4,r0_5,B a.some,I a.last,I a.pict,I a.conj,B a.odd,r0_11])::F)/\l= [(19,B q)]) ?_ ?_)
 ·clear H;refine W.region (vv (Qo b 6) (va (Qo b 8) (vx (le1 8 u_3 (f.on 0 rfl)) (va (B (a.pict==1)) ?_))));rcases bo (a.pict==1) with e|e
  ·have t:=anT e o;refine vb e (wa (Q j) (wn (vx (l1 u_3 ((mm s) 0 _ rfl)) (wa (B (d.Break==5)) ?_))));cases t;exact vv (B (d.Break==5)) (wln (jn g ⟨f,rfl⟩))
  obtain rfl:=anF e o;exact vb e (pz (ps (vv (B false) (wln (jn g ⟨f,rfl⟩)))))
 rintro D M ⟨n,P,_,rfl,S,rfl,m,rfl⟩;refine nrm (cn H (fun x H=>?_) (fun x H=>?_))
 ·refine sr (va (I 2) (wln (W.ret (bkr (thr ?_)))));cases H;exact r1 (qq n ⟨m,rfl⟩)
 refine W.skip (bkn (nrm (sr (va (I 0) (wln (W.ret ?_))))));cases H;exact r1 (qq n ⟨m,rfl⟩)
def cN (p0:cQ) (p1:aw):Option (Int):=
 if (p1.Conj==1)=true then
 some 1
 else
 if (p0.conj==0)=true then
 some 0
 else
 if (p1.Conj==2)=true then
 some 2
 else
 if (p1.Conj==3)=true then
 some p0.conj
 else
 some 0
theorem lC {b:Nat}{r0_0:Value}{r0_1:Value}{r0_2:Value}{r0_3:Value}{r0_4:Value}{r0_5:Value}{r0_11:Value}(d:cQ) (a:aw) (i:Own c0 G ((Eb b 184 [r0_0,r0_1,r0_2,r0_3,r0_4,r0_5,B d.some,I d.last,I d.pict,I d.conj,B d.odd,r0_11])::F)){r:Int}(H:cN d a=some r): Calls prog 226 #[.pointer (some ⟨b,6,none⟩),.agg #[I a.Break,B a.Pict,I a.Conj,I a.East]] c0.w (aR c0 fun c v=>Own c G ((Eb b 184 [r0_0,r0_1,r0_2,r0_3,r0_4,r0_5,B d.some,I d.last,I d.pict,I d.conj,B d.odd,r0_11])::F)/\v=I r):=by
 unfold cN at H;refine en func226 rfl rfl (sr (me (bx 238 [I a.Break,B a.Pict,I a.Conj,I a.East] i) ?_));rintro v5 f n ⟨g,rfl,e,h⟩;refine va (I 0) (wln (W.seq (W.block (sr (va (Qo g (0+2)) (vx (l1 u_3 (h 2 _ rfl)) (vv (B (a.Conj==1)) (wln (cn H (fun j H=>?_) (fun j H=>?_))))))))))
 ·refine sr (va (I 1) (wln (W.ret (bkr (thr ?_)))));cases H;exact r1 (qq f ⟨e,rfl⟩)
 refine sr (vv (Qo b 6) (va (Qo b 9) (vx (le1 9 u_3 (e.on 0 rfl)) (vv (B (d.conj==0)) (wln (cn H (fun k H=>?_) (fun k H=>?_)))))))
 ·refine sr (va (I 0) (wln (W.ret (bkr (thr ?_)))));cases H;exact r1 (qq f ⟨e,rfl⟩)
 refine sr (va (Qo g (0+2)) (vx (l1 u_3 (h 2 _ rfl)) (vv (B (a.Conj==2)) (wln (cn H (fun l H=>?_) (fun l H=>?_))))))
 ·refine sr (va (I 2) (wln (W.ret (bkr (thr ?_)))));cases H;exact r1 (qq f ⟨e,rfl⟩)
 refine sr (va (Qo g (0+2)) (vx (l1 u_3 (h 2 _ rfl)) (vv (B (a.Conj==3)) (wln (cn H (fun m H=>?_) (fun m H=>?_))))))
 ·refine sr (vv (Qo b 6) (va (Qo b 9) (vx (le1 9 u_3 (e.on 0 rfl)) (va (I d.conj) (wln (W.ret (bkr (thr ?_))))))));cases H;exact r1 (qq f ⟨e,rfl⟩)
 refine W.skip (bkn (nrm (sr (va (I 0) (wln (W.ret ?_))))));cases H;exact r1 (qq f ⟨e,rfl⟩)
def dm (p0:cQ) (p1:aw):Option (cQ×Bool):=
 if false=true then
 some (p0,false)
 else
 (de p0 p1).bind fun d=>
 (cW p0 p1).bind fun e=>
 (cN p0 p1).bind fun f=>
 (bT (p1.Break==6) ((bT p0.some (some (p0.last==6))).bind fun b=>
 (bT b (some p0.odd)).bind fun c=>
 some (!c))).bind fun a=>
 some ((⟨true,p1.Break,e,f,a⟩:cQ),d)
theorem mz {a:Nat}{r0_0:Value}{r0_1:Value}{r0_2:Value}{r0_3:Value}{r0_4:Value}{r0_5:Value}{r0_11:Value}(b:cQ) (f:aw) (O0:Own c0 G ((Eb a 184 [r0_0,r0_1,r0_2,r0_3,r0_4,r0_5,B b.some,I b.last,I b.pict,I b.conj,B b.odd,r0_11])::F)){r:cQ×Bool}(H:dm b f=some r): Calls prog 173 #[.pointer (some ⟨a,6,none⟩),.agg #[I f.Break,B f.Pict,I f.Conj,I f.East]] c0.w (aR c0 fun c v=>Own c G ((Eb a 184 [r0_0,r0_1,r0_2,r0_3,r0_4,r0_5,B r.1.some,I r.1.last,I r.1.pict,I r.1.conj,B r.1.odd,r0_11])::F)/\v=B r.2):=by
 unfold dm at H;refine en func173 rfl rfl (sr (me (bx 238 [I f.Break,B f.Pict,I f.Conj,I f.East] O0) ?_));rintro v5 c4 l4 ⟨A,rfl,O2,o⟩;refine va (B false) (wln (W.seq (sr (va (Qo a 6) (va (B false) (wln (W.cond (t:=false) (by kernel_rfl) (fun E=>?_) (fun E=>?_))))))))
 ·cases E
 have H:=ie E H;refine W.skip (nrm (sr (va (Qo a 6) (vx (lN 238 o) (bn H fun i h8 H=>cl (ml b f O2 h8) ?_)))));rintro v14 j1 n1 ⟨P,rfl⟩;refine va (B i) (wln (W.seq (rD [] (Kp G0 []) P ?_)));intro i0 q1 R;have f2:Kp G0 [] i0:=Kp.nil0;refine ta 0 (.pointer (some ⟨a,6,none⟩)) (ta 1 (Qo a 6) (ta 2 (Qo a 6) (tx 3 (fun c' z=>lN 238 (mm o)) (ta 5 (Qo a 6) (tx 6 (fun c' z=>lN 238 (mm o)) (bn H fun d v0 H=>o1 4 (gc 4 (lK b f R v0) ?_)))))));rintro v25 j0 s1 ⟨S,rfl⟩;have y0:Kp G0 [] j0:=Kp.nil0;refine ⟨.inr y0,bn H fun e w0 H=>o1 7 (gc 7 (lC b f S w0) ?_)⟩;rintro v34 k0 t1 ⟨T,rfl⟩;have z0:Kp G0 [] k0:=Kp.nil0;refine ⟨.inr z0,ta 8 (.pointer (some ⟨a,6,none⟩)) (ta 9 (Qo a 8) (o1 10 (gD 10 (sC 3 8 (I d) [r0_0,r0_1,r0_2,r0_3,r0_4,r0_5,B b.some,I b.last,I d,I b.conj,B b.odd,r0_11] 0 T ⟨rfl,trivial⟩) ?_)))⟩;rintro l0 u1 U;have a1:Kp G0 [] l0:=Kp.nil0;refine ⟨.inr a1,ta 11 (.pointer (some ⟨a,6,none⟩)) (ta 12 (Qo a 9) (o1 13 (gD 13 (sC 3 9 (I e) [r0_0,r0_1,r0_2,r0_3,r0_4,r0_5,B b.some,I b.last,I d,I e,B b.odd,r0_11] 0 U ⟨rfl,trivial⟩) ?_)))⟩;rintro p v1 h;have c1:Kp G0 [] p:=Kp.nil0;refine ⟨.inr c1,dn (nrm (W.seq (bn H fun n s H=>W.join (Jn p fun c l=>Own c G ((Eb a 184 [r0_0,r0_1,r0_2,r0_3,r0_4,r0_5,B b.some,I b.last,I d,I e,B n,r0_11])::F)/\l= [(0,.pointer (some ⟨a,6,none⟩)),(3,Q A),(5,B i)]) ?_ ?_)))⟩
 ·clear H;refine W.region (va (Qo a 6) (va (Q A) (vx (l1 u_3 ((mm o) 0 _ rfl)) (va (B (f.Break==6)) ?_))));rcases bo (f.Break==6) with j|j
  ·have g:=anT j s;refine vb j (wa (Qo a 6) (wa (Qo a 6) (wa (Qo a 6) (wn (vx (le1 6 u_4 (h.on 0 rfl)) (wn (bn g fun h1 u g=>?_)))))));rcases bo (b.some) with k|k
   ·have M:=anT k u;refine vb k (wa (Qo a 6) (wa (Qo a 6) (wa (Qo a 7) (wn (vx (le1 7 u_3 (h.on 0 rfl)) (wa (B (b.last==6)) (wn ?_)))))));cases M;refine va (B (b.last==6)) (wn (bn g fun D x g=>?_));rcases bo (b.last==6) with m|m
    ·have N:=anT m x;refine vb m (wa (Qo a 6) (wa (Qo a 6) (wa (Qo a 10) (wn (vx (le1 10 u_4 (h.on 0 rfl)) (wn ?_))))));cases N;refine va (B b.odd) (wa (B (!b.odd)) ?_);cases g;refine va (B (!b.odd)) (va (Qo a 6) (va (Qo a 10) (md (sC 4 10 (B (!b.odd)) [r0_0,r0_1,r0_2,r0_3,r0_4,r0_5,B b.some,I b.last,I d,I e,B (!b.odd),r0_11] 0 h ⟨rfl,trivial⟩) ?_)));rintro m0 w1 X;exact wln (jn m0 ⟨X,rfl⟩)
    obtain rfl:=anF m x;refine vb m (pz (pz (wa (B false) (wa (B (!false)) ?_))));cases g;refine va (B (!false)) (va (Qo a 6) (va (Qo a 10) (md (sC 4 10 (B (!false)) [r0_0,r0_1,r0_2,r0_3,r0_4,r0_5,B b.some,I b.last,I d,I e,B (!false),r0_11] 0 h ⟨rfl,trivial⟩) ?_)));rintro o0 x1 Z;exact wln (jn o0 ⟨Z,rfl⟩)
   obtain rfl:=anF k u;refine vb k (pz (pz (ps (wa (B false) (wn (bn g fun D x0 g=>?_))))));have y:false=false:=rfl;obtain rfl:=anF y x0;refine vb y (pz (pz (wa (B false) (wa (B (!false)) ?_))));cases g;refine va (B (!false)) (va (Qo a 6) (va (Qo a 10) (md (sC 4 10 (B (!false)) [r0_0,r0_1,r0_2,r0_3,r0_4,r0_5,B b.some,I b.last,I d,I e,B (!false),r0_11] 0 h ⟨rfl,trivial⟩) ?_)));rintro q0 y1 a0;exact wln (jn q0 ⟨a0,rfl⟩)
  obtain rfl:=anF j s;refine vb j (pz (pz (pz (pz (pz (pz (pz (pz (pz (va (B false) (va (Qo a 6) (va (Qo a 10) (md (sC 4 10 (B false) [r0_0,r0_1,r0_2,r0_3,r0_4,r0_5,B b.some,I b.last,I d,I e,B false,r0_11] 0 h ⟨rfl,trivial⟩) ?_)))))))))))));rintro s0 z1 b0;exact wln (jn s0 ⟨b0,rfl⟩)
 rintro e_ w_ ⟨k1,m1,_,rfl,b2,rfl,d0,rfl⟩;refine nrm (W.seq (rD [] (Kp G0 []) d0 ?_));intro t0 c2 e0;have g2:Kp G0 [] t0:=Kp.nil0;refine ta 0 (.pointer (some ⟨a,6,none⟩)) (ta 1 (Qo a 6) (ta 2 (Q A) (tx 3 (fun c' z=>l1 u_3 ((mm o) 0 _ rfl)) (ta 4 (Qo a 6) (ta 5 (Qo a 6) (o1 6 (gD 6 (sC 4 6 (B true) [r0_0,r0_1,r0_2,r0_3,r0_4,r0_5,B true,I b.last,I d,I e,B n,r0_11] 0 e0 ⟨rfl,trivial⟩) ?_)))))));rintro u0 d2 f0;have d1:Kp G0 [] u0:=Kp.nil0;refine ⟨.inr d1,ta 7 (.pointer (some ⟨a,6,none⟩)) (ta 8 (Qo a 7) (o1 9 (gD 9 (sC 3 7 (I f.Break) [r0_0,r0_1,r0_2,r0_3,r0_4,r0_5,B true,I f.Break,I d,I e,B n,r0_11] 0 f0 ⟨rfl,trivial⟩) ?_)))⟩;rintro q e2 g0;have e1:Kp G0 [] q:=Kp.nil0;refine ⟨.inr e1,dn (nrm (sr (vv (B i) (wln (W.ret ?_)))))⟩;cases H;exact r1 (qq q ⟨g0,rfl⟩)
def gV (sg:Sto) (p0:Option Nat) (p1:Int):Option (Sto):=
 (jJ p1).bind fun s=>
 if s=true then
 (dp sg p0).bind fun k=>
 (p0).bind fun r=>
 (k.feed_Feeder[r]?).bind fun n=>
 (pi k n.pen p1).bind fun p=>
 some p.1
 else
 (qZ p1).bind fun e=>
 (p0).bind fun h=>
 (sg.feed_Feeder[h]?).bind fun a=>
 (dm a.seg e).bind fun j=>
 (sg.set_feed_Feeder h (⟨a.pen,a.dec,j.1,a.open_⟩:bI)).bind fun b=>
 (bT j.2 (some (!a.open_.isNone))).bind fun l=>
 if l=true then
 (p0).bind fun m=>
 (b.feed_Feeder[m]?).bind fun i=>
 (dO b i.open_ i.pen p1 e).bind fun q=>
 some q.1
 else
 (p0).bind fun c=>
 (b.feed_Feeder[c]?).bind fun o=>
 (lv b o.pen p1 e).bind fun f=>
 (f.1.feed_Feeder[c]?).bind fun d=>
 (f.1.set_feed_Feeder c (⟨d.pen,d.dec,d.seg,f.2⟩:bI)).bind fun g=>
 some g
theorem sw (O0:Own c0 G F) (R0:Rel c0 sg G) (hG:Gl [2,4] c0) (p0:Option Nat) (f:Int){r:Sto}(U:Pt 4 c0 v1 p0) (H:gV sg p0 f=some r): Calls prog 221 #[v1,J f] c0.w (aR c0 fun c v=>∃G_:Gm,Own c G_ (F)/\Rel c r G_/\v= .tuple #[]):=by
 unfold gV at H;refine en func221 rfl rfl (W.seq (sr (va (J f) (bn H fun f5 h3 H=>cl (rL O0 f h3) ?_))));rintro v9 c8 N ⟨O5,rfl⟩;refine wln (cn H (fun x2 H=>?_) (fun x2 H=>?_))
 ·refine sr (va (v1) (bn H fun g5 y2 H=>cl (jy O5 R0.m p0 U.m y2) ?_));rintro v17 u4 l16 ⟨s4,g0,j0,rfl⟩;refine wln (sr (va (v1) (bn H fun a5 a3 H=>?_)));obtain ⟨l0,rfl,z2⟩:=((U.mono (N.trans l16))).get a3;refine vv (Q l0) (bn H fun z1 b3 H=>?_);obtain ⟨v22,v24,d3,c3,z4⟩:=Rel.open_feed_Feeder j0 b3 z2;refine vx (le1 0 uX (g0.gon d3 0 rfl)) (va (J f) (bn H fun p4 e3 H=>cl (CO g0 j0 z1.pen f c3 e3) ?_));rintro v33 t2 b5 ⟨e2,i2,s2,rfl⟩;refine wln (W.ret (thr ?_));cases H;exact r0 (qq t2 ⟨e2,i2,s2,rfl⟩)
 refine W.skip (nrm (sr (va (J f) (bn H fun a f3 H=>cl (Ej O5 f f3) ?_))));rintro v40 v4 s ⟨j2,rfl⟩;refine me (al 238 [I 0,B false,I 0,I 0] j2) ?_;rintro v44 w4 t ⟨h,rfl,k2⟩;refine md (sA 238 [I a.Break,B a.Pict,I a.Conj,I a.East] 0 k2 ⟨rfl,rfl,rfl,rfl,trivial⟩) ?_;rintro u2 u l2;refine wln (W.seq (W.seq (bn H fun f4 g3 H=>bn H fun d i3 H=>bn H fun g j3 H=>bn H fun P k3 H=>bn H fun k1 s0 H=>W.join (Jn u2 fun c l=>∃G_,Own c G_ ((Eb h 238 [I a.Break,B a.Pict,I a.Conj,I a.East])::F)/\l= [(0,v1),(1,J f),(4,Q h),(28,B k1)]/\Rel c P G_) ?_ ?_)))
 ·clear H;refine rD [4,9] (Kp G0 [(Eb h 238 [I a.Break,B a.Pict,I a.Conj,I a.East])]) l2 ?_;intro v2 Z h0;have w3:Kp G0 [(Eb h 238 [I a.Break,B a.Pict,I a.Conj,I a.East])] v2:=(Kp.cons (h0.on 0 rfl) Kp.nil0);refine ta 0 (v1) ?_;obtain ⟨j,rfl,t0⟩:=((U.mono (N.trans (s.trans (t.trans (u.trans Z)))))).get g3;refine ta 1 (Q j) (ta 2 (Qo j 6) (tkx 3 w3 (fun p i k=>leN 238 0 [I a.Break,B a.Pict,I a.Conj,I a.East] (k.on 0 rfl)) ?_));obtain ⟨v57,v59,m3,l3,u0⟩:=Rel.open_feed_Feeder (R0.mono (N.trans (s.trans (t.trans (u.trans Z))))) i3 t0;have n2:=h0.borrow 0 m3 rfl;refine o1 4 (gc 4 (mz d.seg a n2 j3) ?_);rintro c5 m0 a0 ⟨o2,rfl⟩;have p2:=o2.giveB 0 rfl;obtain ⟨f0,R,k0,n3,t4⟩:=Rel.put_feed_Feeder p2 (R0.mono (N.trans (s.trans (t.trans (u.trans (Z.trans a0)))))) (E':=[(Eb j 184 [v57,I d.dec.held,I d.dec.needs,.int .u8 d.dec.lo,.int .u8 d.dec.hi,I d.dec.bits,B g.1.some,I g.1.last,I g.1.pict,I g.1.conj,B g.1.odd,v59])]) k3 ⟨j,v57,v59,(tm t0),rfl,(l3.mono a0),(u0.mono a0)⟩;refine ⟨.inl rfl,?_⟩;rcases bo (g.2) with q|q
  ·have g2:=anT q s0;refine AC.takeb 5 q rfl (by kernel_rfl) (by kernel_rfl) (fun p i=>(by kernel_rfl)) (ta 6 (Q j) (ta 7 (Q j) (ta 8 (Qo j 11) (o1 9 (gl 9 (le1 11 underlying182 (R.gon n3 0 rfl)) (AC.take 10 (B (!d.open_.isNone)) rfl (by kernel_rfl) (by kernel_rfl) (fun p i=>(by rcases u0.m.cs with ⟨o0,q0⟩|⟨b_,o0,q0⟩ <;> (subst o0; rw [q0]; kernel_rfl))) ?_))))));cases g2;exact ta 11 (B (!d.open_.isNone)) (dn (nrm (jn m0 ⟨f0,R,rfl,k0⟩)))
  obtain rfl:=anF q s0;exact AC.takeb 5 q rfl (by kernel_rfl) (by kernel_rfl) (fun p i=>(by kernel_rfl)) (tp 6 (tp 7 (tp 8 (tp 9 (tp 10 (ta 11 (B false) (dn (nrm (jn m0 ⟨f0,R,rfl,k0⟩)))))))))
 rintro e_ w_ ⟨x4,y4,_,rfl,w0,rfl,E,i0,rfl,M⟩;refine nrm (cn H (fun o3 H=>?_) (fun o3 H=>?_))
 ·refine W.seq (rD [10] (Kp E [(Eb h 238 [I a.Break,B a.Pict,I a.Conj,I a.East])]) i0 ?_);intro w2 x0 S;have e0:Kp E [(Eb h 238 [I a.Break,B a.Pict,I a.Conj,I a.East])] w2:=(Kp.cons (S.on 0 rfl) (Kp.nil S));refine ta 0 (v1) (bn H fun g4 q3 H=>?_);obtain ⟨o,rfl,p3⟩:=((U.mono (N.trans (s.trans (t.trans (u.trans (w0.trans x0))))))).get q3;refine ta 1 (Q o) (ta 2 (Qo o 11) (bn H fun b0 s3 H=>?_));obtain ⟨d5,e5,v0,t3,u3⟩:=Rel.open_feed_Feeder (M.mono x0) s3 p3;refine tkx 3 e0 (fun p i k=>le1 11 underlying182 (k.gon v0 0 rfl)) (ta 4 (Q o) (ta 5 (Q o) (ta 6 (Q o) (tkx 7 e0 (fun p i k=>le1 0 uX (k.gon v0 0 rfl)) (ta 8 (J f) (tkx 9 e0 (fun p i k=>leN 238 0 [I a.Break,B a.Pict,I a.Conj,I a.East] (k.on 0 rfl)) (bn H fun q4 v3 H=>o1 10 (gc 10 (rm S M.m (hG.m.le (by decide)) b0.open_ b0.pen f a u3 t3 v3) ?_))))))));rintro k4 h1 i4 ⟨f2,q2,f1,rfl⟩;refine ⟨.inl rfl,dn (nrm (W.ret (thr ?_)))⟩;cases H;have z0:=q2.sD 1 [];exact r0 (qq h1 ⟨f2,z0,f1,rfl⟩)
 refine W.skip (nrm (rD [7,10] (Kp E [(Eb h 238 [I a.Break,B a.Pict,I a.Conj,I a.East])]) i0 ?_));intro i1 X x;have d0:Kp E [(Eb h 238 [I a.Break,B a.Pict,I a.Conj,I a.East])] i1:=(Kp.cons (x.on 0 rfl) (Kp.nil x));refine ta 0 (v1) (ta 1 (v1) (bn H fun h4 m1 H=>?_));obtain ⟨e,rfl,y⟩:=((U.mono (N.trans (s.trans (t.trans (u.trans (w0.trans X))))))).get m1;refine ta 2 (Q e) (ta 3 (Q e) (bn H fun b2 n1 H=>?_));obtain ⟨l4,m4,s1,q1,b4⟩:=Rel.open_feed_Feeder (M.mono X) n1 y;refine tkx 4 d0 (fun p i k=>le1 0 uX (k.gon s1 0 rfl)) (ta 5 (J f) (tkx 6 d0 (fun p i k=>leN 238 0 [I a.Break,B a.Pict,I a.Conj,I a.East] (k.on 0 rfl)) (bn H fun r4 t1 H=>o1 7 (gc 7 (xc x M.m (hG.m.le (by decide)) b2.pen f a q1 t1) ?_))));rintro n4 a4 j4 ⟨_,x3,a1,T,rfl,z⟩;refine ⟨.inl rfl,ta 8 (Q e) (ta 9 (Qo e 11) ?_)⟩;obtain ⟨n,rfl⟩:=(z).form;refine bn H fun b u1 H=>?_;obtain ⟨D,o4,x1,w1,c4⟩:=Rel.open_feed_Feeder T u1 (tm y);refine o1 10 (gD 10 (gC 182 11 (.pointer n) [D,I b.dec.held,I b.dec.needs,.int .u8 b.dec.lo,.int .u8 b.dec.hi,I b.dec.bits,B b.seg.some,I b.seg.last,I b.seg.pict,I b.seg.conj,B b.seg.odd,.pointer n] 0 a1 x1 ⟨z.one,trivial⟩) ?_);rintro j1 A b1;refine bn H fun d2 y1 H=>?_;obtain ⟨y0,c1,g1,d4,z3⟩:=Rel.put_feed_Feeder b1 (T.mono A) (E':=[(Eb e 184 [D,I b.dec.held,I b.dec.needs,.int .u8 b.dec.lo,.int .u8 b.dec.hi,I b.dec.bits,B b.seg.some,I b.seg.last,I b.seg.pict,I b.seg.conj,B b.seg.odd,.pointer n])]) y1 ⟨e,D,(.pointer n),(tm y),rfl,(w1.mono A),(z.mono A)⟩;refine ⟨.inl rfl,dn ?_⟩;cases H;have d1:=c1.sD 1 [];exact n0 (qq j1 ⟨y0,d1,g1,rfl⟩)
def gK (sg:Sto) (p0:Option Nat) (p1:List Int):Option (Sto):=
 (cL (σ:=Int×Sto) (τ:=Sto) (((p1.length:Int)-0).toNat+1) (fun a=>
 if (decide (a.1<(p1.length:Int)))=true then
 (idx p1 a.1).bind fun d=>
 (gV a.2 p0 d).bind fun b=>
 some (.inl ((w64 (a.1+1)),b))
 else
 some (.inr (a.2))) (0,sg)).bind fun c=>
 some c
theorem oy (S:Own c0 G F) (T:Rel c0 sg G) (hG:Gl [2,4] c0) (j:Option Nat) (d:List Int){r:Sto}(Z:Pt 4 c0 v1 j) (h:Sl (RI .i32) c0 v3 d) (H:gK sg j d=some r): Calls prog 165 #[v1,v3] c0.w (aR c0 fun c v=>∃G_:Gm,Own c G_ (F)/\Rel c r G_/\v= .tuple #[]):=by
 unfold gK at H;refine en func165 rfl rfl (sr (va (v3) (vx (ln 3 dD h) (va (I 0) (wln (W.block (bn H fun i0 N p=>lp N (fun a=>Jn c0 fun c l=>∃G_,Own c G_ (F)/\l= [(0,v1),(6,v3),(7,I (d.length:Int)),(8,I a.1)]/\Rel c a.2 G_) (fun i ex e w=>ex= .exit 0/\(Jn c0 fun c l=>∃G_,Own c G_ (F)/\l= []/\Rel c i G_) e w) ?_ ?_ ?_)))))))
 ·clear p N;intro a j0 A R H;revert A R;rintro X w_ ⟨U,g8,_,rfl,l7,rfl,k,t,rfl,f⟩;refine sr (va (B (decide (a.1<(d.length:Int)))) (wln (W.seq (cn H (fun D H=>?_) (fun D H=>?_)))))
  ·refine W.skip (nrm (W.seq (W.block (sr (bn H fun b g H=>?_)))));obtain ⟨b0,E,P⟩:=Sl.at (h.mono l7) (aU g);obtain rfl:=E;refine vx (ix dD h.m g) (vx (l1 nb (P 0 _ rfl)) (va (J b) (wln (W.region (va (v1) (va (J b) (bn H fun e0 M H=>cl (sw t f (hG.m.le (by decide)) j b Z.m M) ?_)))))));rintro v24 y g0 ⟨n,q,u,rfl⟩;refine WL.nil (bkn (nrm (W.region (vv (I (w64 (a.1+1))) (WL.nil ?_)))));cases H;exact ⟨_,rfl,jn y ⟨n,q,rfl,u⟩⟩
  refine W.exit (thx ?_);cases H;exact ⟨_,rfl,rfl,jn U ⟨k,t,rfl,f⟩⟩
 ·exact jn c0 ⟨G,S,rfl,T⟩
 rintro _ X w_ ⟨rfl,z,f0,_,rfl,h0,rfl,o,s,rfl,x⟩;refine bke ?_;cases p;exact n0 (qq z ⟨o,s,x,rfl⟩)
def jR (p0:Int):Option (Int):=
 ((bT (decide (p0>=240)) (some (decide (p0<=244)))).bind fun a=>
 if a=true then
 some ((w64 ((w64 ((w64 ((w64 (0+1))+1))+1))+1)))
 else
 (bT (decide (p0>=224)) (some (decide (p0<240)))).bind fun b=>
 if b=true then
 some ((w64 ((w64 ((w64 (0+1))+1))+1)))
 else
 (bT (decide (p0>=194)) (some (decide (p0<224)))).bind fun c=>
 if c=true then
 some ((w64 ((w64 (0+1))+1)))
 else
 if (decide (p0<128))=true then
 some ((w64 (0+1)))
 else
 some (0)).bind fun d=>
 some d
theorem pW (A:Own c0 G F) (a:Int){r:Int}(H:jR a=some r): Calls prog 219 #[.int .u8 a] c0.w (aR c0 fun c v=>Own c G (F)/\v=I r):=by
 unfold jR at H;refine en func219 rfl rfl (sr (va (I 0) (wln (sr (va (I 0) (wln (bn H fun k b T=>W.seqJ (Jn c0 fun c l=>Own c G (F)/\l= [(3,I k)]) ?_ ?_)))))))
 ·refine W.block (W.seq (W.block (W.seq (W.block (W.seq (W.block (W.seq (W.block (W.seq (W.seq (W.seq (bn b fun q P b=>W.join (Jn c0 fun c l=>Own c G (F)/\l= [(0,.int .u8 a),(3,I 0),(4,B q)]) ?_ ?_))))))))))))
  ·clear b;refine W.region (va (.int .u8 a) (va (B (decide (a>=240))) ?_));rcases bo (decide (a>=240)) with j|j
   ·have U:=anT j P;refine vb j (wa (.int .u8 a) (wa (B (decide (a<=244))) ?_));cases U;exact vv (B (decide (a<=244))) (wln (jn c0 ⟨A,rfl⟩))
   obtain rfl:=anF j P;exact vb j (pz (vv (B false) (wln (jn c0 ⟨A,rfl⟩))))
  rintro u x ⟨m,g7,_,rfl,l6,rfl,p,rfl⟩;refine nrm (cn b (fun M b=>?_) (fun M b=>?_))
  ·refine W.exit (thx (thx (bke (nrm (W.region (va (I 0) (vv (I (w64 (0+1))) (WL.nil (bkn (nrm (W.region (va (I (w64 (0+1))) (vv (I (w64 ((w64 (0+1))+1))) (WL.nil (bkn (nrm (W.region (va (I (w64 ((w64 (0+1))+1))) (vv (I (w64 ((w64 ((w64 (0+1))+1))+1))) (WL.nil (bkn (nrm (sr (va (I (w64 ((w64 ((w64 (0+1))+1))+1))) (vv (I (w64 ((w64 ((w64 ((w64 (0+1))+1))+1))+1))) (wln (W.exit (bke (nrm ?_)))))))))))))))))))))))))))));cases b;exact jn m ⟨p,rfl⟩
  refine W.skip (nrm (W.seq (W.seq (bn b fun s n b=>W.join (Jn m fun c l=>Own c G (F)/\l= [(0,.int .u8 a),(3,I 0),(11,B s)]) ?_ ?_))))
  ·clear b;refine W.region (va (.int .u8 a) (va (B (decide (a>=224))) ?_));rcases bo (decide (a>=224)) with d|d
   ·have y:=anT d n;refine vb d (wa (.int .u8 a) (wa (B (decide (a<240))) ?_));cases y;exact vv (B (decide (a<240))) (wln (jn m ⟨p,rfl⟩))
   obtain rfl:=anF d n;exact vb d (pz (vv (B false) (wln (jn m ⟨p,rfl⟩))))
  rintro u x ⟨f,X,_,rfl,l16,rfl,g,rfl⟩;refine nrm (cn b (fun N b=>?_) (fun N b=>?_))
  ·refine W.exit (thx (thx (bko rfl (thx (bke (nrm (W.region (va (I 0) (vv (I (w64 (0+1))) (WL.nil (bkn (nrm (W.region (va (I (w64 (0+1))) (vv (I (w64 ((w64 (0+1))+1))) (WL.nil (bkn (nrm (sr (va (I (w64 ((w64 (0+1))+1))) (vv (I (w64 ((w64 ((w64 (0+1))+1))+1))) (wln (W.exit (bke (nrm ?_)))))))))))))))))))))))));cases b;exact jn f ⟨g,rfl⟩
  refine W.skip (nrm (W.seq (W.seq (bn b fun t o b=>W.join (Jn f fun c l=>Own c G (F)/\l= [(0,.int .u8 a),(3,I 0),(18,B t)]) ?_ ?_))))
  ·clear b;refine W.region (va (.int .u8 a) (va (B (decide (a>=194))) ?_));rcases bo (decide (a>=194)) with e|e
   ·have z:=anT e o;refine vb e (wa (.int .u8 a) (wa (B (decide (a<224))) ?_));cases z;exact vv (B (decide (a<224))) (wln (jn f ⟨g,rfl⟩))
   obtain rfl:=anF e o;exact vb e (pz (vv (B false) (wln (jn f ⟨g,rfl⟩))))
  rintro u x ⟨i,Z,_,rfl,b0,rfl,h,rfl⟩;refine nrm (cn b (fun R b=>?_) (fun R b=>?_))
  ·refine W.exit (thx (thx (bko rfl (thx (bko rfl (thx (bke (nrm (W.region (va (I 0) (vv (I (w64 (0+1))) (WL.nil (bkn (nrm (sr (va (I (w64 (0+1))) (vv (I (w64 ((w64 (0+1))+1))) (wln (W.exit (bke (nrm ?_)))))))))))))))))))));cases b;exact jn i ⟨h,rfl⟩
  refine W.skip (nrm (sr (va (.int .u8 a) (vv (B (decide (a<128))) (wln (cn b (fun S b=>?_) (fun S b=>?_)))))))
  ·refine W.exit (thx (bko rfl (thx (bko rfl (thx (bko rfl (thx (bke (nrm (sr (va (I 0) (vv (I (w64 (0+1))) (wln (W.exit (bke (nrm ?_))))))))))))))));cases b;exact jn i ⟨h,rfl⟩
  refine W.skip (nrm (W.exit (bko rfl (thx (bko rfl (thx (bko rfl (thx (bko rfl (thx (bke (nrm ?_))))))))))));cases b;exact jn i ⟨h,rfl⟩
 rintro u x ⟨E,a0,_,rfl,d0,rfl,D,rfl⟩;refine sr (vv (I k) (wln (W.ret ?_)));cases T;exact r1 (qq E ⟨D,rfl⟩)
def mb (p0:Int):Option (Int):=
 (jR p0).bind fun a=>
 if (a==0)=true then
 some 0
 else
 if (a==1)=true then
 some (w64 p0)
 else
 (shn (w64 (7-a))).bind fun b=>
 some (lu .i64 (w64 p0) (w64 ((w64 (1*2 ^ (min b 64)))-1)))
theorem yv (j:Own c0 G F) (e:Int){r:Int}(H:mb e=some r): Calls prog 266 #[.int .u8 e] c0.w (aR c0 fun c v=>Own c G (F)/\v=I r):=by
 unfold mb at H;refine en func266 rfl rfl (sr (va (I 0) (wln (sr (va (.int .u8 e) (bn H fun d k H=>cl (pW j e k) ?_))))));rintro v7 h n ⟨g,rfl⟩;refine va (I d) (wln (sr (va (I d) (wln (W.block (sr (vv (B (d==0)) (wln (cn H (fun l H=>?_) (fun l H=>?_))))))))))
 ·refine sr (va (I 0) (wln (W.ret (bkr ?_))));cases H;exact r1 (qq h ⟨g,rfl⟩)
 refine sr (vv (B (d==1)) (wln (cn H (fun m H=>?_) (fun m H=>?_))))
 ·refine sr (va (.int .u8 e) (vv (I (w64 e)) (wln (W.ret (bkr ?_)))));cases H;exact r1 (qq h ⟨g,rfl⟩)
 refine sr (va (.int .u8 e) (va (I (w64 e)) (va (I d) (va (I (w64 (7-d))) (bn H fun f i H=>vr (I (w64 (1*2 ^ (min f 64)))) (EY (k':= .i64) (a:=1) (b:=(w64 (7-d))) i (by kernel_rfl) _) (va (I (w64 ((w64 (1*2 ^ (min f 64)))-1))) (vv (I (lu .i64 (w64 e) (w64 ((w64 (1*2 ^ (min f 64)))-1)))) (wln (W.ret (bkr ?_))))))))));cases H;exact r1 (qq h ⟨g,rfl⟩)
def kE (p0:Int):Option (Int×Int):=
 (jR p0).bind fun b=>
 if (decide (b<2))=true then
 some (0,0)
 else
 (if (p0==224)=true then
 some (160,191)
 else
 if (p0==240)=true then
 some (144,191)
 else
 if (p0==244)=true then
 some (128,(IntKind.u8.wrap ((IntKind.u8.wrap (191-16))-32)))
 else
 if (p0==237)=true then
 some (128,(IntKind.u8.wrap (191-32)))
 else
 some (128,191)).bind fun a=>
 some (a.1,a.2)
theorem wH (p:Own c0 G F) (b:Int){r:Int×Int}(H:kE b=some r): Calls prog 220 #[.int .u8 b] c0.w (aR c0 fun c v=>Own c G (F)/\v= .tuple #[.int .u8 r.1,.int .u8 r.2]):=by
 unfold kE at H;refine en func220 rfl rfl (sr (vv (.int .u8 0) (wln (W.seq (sr (va (.int .u8 b) (bn H fun o q H=>cl (pW p b q) ?_)))))));rintro v7 e y ⟨f,rfl⟩;refine va (B (decide (o<2))) (wln (cn H (fun s H=>?_) (fun s H=>?_)))
 ·refine sr (vv (.int .u8 0) (wln (W.ret (thr ?_))));cases H;exact r2 (qq e ⟨f,rfl⟩)
 refine W.skip (nrm (sr (va (.int .u8 128) (va (.int .u8 191) (wln (bn H fun d a g=>W.seqJ (Jn e fun c l=>Own c G (F)/\l= [(2,.int .u8 d.1),(3,.int .u8 d.2)]) ?_ ?_))))))
 ·refine sr (va (.int .u8 b) (wln (W.block (W.seq (W.block (W.seq (W.block (W.seq (W.block (W.seq (W.block (W.seq (W.seq (sr (vv (B (b==224)) (wln (cn a (fun j a=>?_) (fun j a=>?_))))))))))))))))))
  ·refine W.exit (thx (thx (bke (nrm (sr (va (.int .u8 160) (wln (W.exit (bko rfl (thx (bko rfl (thx (bko rfl (thx (bke (nrm ?_))))))))))))))));cases a;exact jn e ⟨f,rfl⟩
  refine W.skip (nrm (W.seq (sr (vv (B (b==240)) (wln (cn a (fun k a=>?_) (fun k a=>?_)))))))
  ·refine W.exit (thx (thx (bko rfl (thx (bke (nrm (sr (va (.int .u8 144) (wln (W.exit (bko rfl (thx (bko rfl (thx (bke (nrm ?_))))))))))))))));cases a;exact jn e ⟨f,rfl⟩
  refine W.skip (nrm (W.seq (sr (vv (B (b==244)) (wln (cn a (fun m a=>?_) (fun m a=>?_)))))))
  ·refine W.exit (thx (thx (bko rfl (thx (bko rfl (thx (bke (nrm (W.region (va (.int .u8 191) (vv (.int .u8 (IntKind.u8.wrap (191-16))) (WL.nil (bkn (nrm (sr (va (.int .u8 (IntKind.u8.wrap (191-16))) (vv (.int .u8 (IntKind.u8.wrap ((IntKind.u8.wrap (191-16))-32))) (wln (W.exit (bke (nrm ?_)))))))))))))))))))));cases a;exact jn e ⟨f,rfl⟩
  refine W.skip (nrm (sr (vv (B (b==237)) (wln (cn a (fun n a=>?_) (fun n a=>?_))))))
  ·refine W.exit (thx (bko rfl (thx (bko rfl (thx (bko rfl (thx (bke (nrm (sr (va (.int .u8 191) (vv (.int .u8 (IntKind.u8.wrap (191-32))) (wln (W.exit (bke (nrm ?_))))))))))))))));cases a;exact jn e ⟨f,rfl⟩
  refine W.skip (nrm (W.exit (bko rfl (thx (bko rfl (thx (bko rfl (thx (bko rfl (thx (bke (nrm ?_))))))))))));cases a;exact jn e ⟨f,rfl⟩
 rintro x z ⟨i,t,_,rfl,u,rfl,h,rfl⟩;refine sr (va (.int .u8 d.1) (va (.int .u8 d.2) (va (.int .u8 d.1) (va (.int .u8 d.2) (wln (W.ret ?_))))));cases g;exact r2 (qq i ⟨h,rfl⟩)
def cF (p0:bH):Option (Int):=
 if false=true then
 some 0
 else
 some p0.held
theorem mj {b:Nat}{r0_0:Value}{r0_6:Value}{r0_7:Value}{r0_8:Value}{r0_9:Value}{r0_10:Value}{r0_11:Value}(a:bH) (e:Own c0 G ((Eb b 184 [r0_0,I a.held,I a.needs,.int .u8 a.lo,.int .u8 a.hi,I a.bits,r0_6,r0_7,r0_8,r0_9,r0_10,r0_11])::F)){r:Int}(H:cF a=some r): Calls prog 223 #[.pointer (some ⟨b,1,none⟩)] c0.w (aR c0 fun c v=>Own c G ((Eb b 184 [r0_0,I a.held,I a.needs,.int .u8 a.lo,.int .u8 a.hi,I a.bits,r0_6,r0_7,r0_8,r0_9,r0_10,r0_11])::F)/\v=I r):=by
 unfold cF at H;refine en func223 rfl rfl (sr (va (I 0) (wln (W.seq (sr (va (Qo b 1) (va (B false) (wln (W.cond (t:=false) (by kernel_rfl) (fun d=>?_) (fun d=>?_))))))))))
 ·cases d
 have H:=ie d H;refine W.skip (nrm (sr (vv (Qo b 1) (va (Qo b 1) (vx (le1 1 u_3 (e.on 0 rfl)) (va (I a.held) (wln (W.ret ?_))))))));cases H;exact r1 (qq c0 ⟨e,rfl⟩)
def bN (p0:bH):Option (bH×(List Int)):=
 (cF p0).bind fun a=>
 if (a==0)=true then
 some (p0,([]:List Int))
 else
 some ((⟨0,0,0,0,0⟩:bH),([65533]:List Int))
theorem jf {a:Nat}{r0_0:Value}{r0_6:Value}{r0_7:Value}{r0_8:Value}{r0_9:Value}{r0_10:Value}{r0_11:Value}(b:bH) (q:Own c0 G ((Eb a 184 [r0_0,I b.held,I b.needs,.int .u8 b.lo,.int .u8 b.hi,I b.bits,r0_6,r0_7,r0_8,r0_9,r0_10,r0_11])::F)){r:bH×(List Int)}(H:bN b=some r): Calls prog 167 #[.pointer (some ⟨a,1,none⟩)] c0.w (aR c0 fun c v=>∃d p,Own c G (es true (RI .i32) d 21 p r.2::(Eb a 184 [r0_0,I r.1.held,I r.1.needs,.int .u8 r.1.lo,.int .u8 r.1.hi,I r.1.bits,r0_6,r0_7,r0_8,r0_9,r0_10,r0_11])::F)/\v=d/\OA (RI .i32) c d p r.2):=by
 unfold bN at H;refine en func167 rfl rfl (sr (va (Y) (wln (W.seq (sr (va (Qo a 1) (bn H fun o s H=>cl (mj b q s) ?_)))))));rintro v8 k z ⟨i,rfl⟩;refine va (B (o==0)) (wln (cn H (fun t H=>?_) (fun t H=>?_)))
 ·refine sr (va (Y) (wln (W.ret (thr ?_))));cases H;have l:OA (RI .i32) k (Y) [] []:=OA.nil (aN _);have f:=i.addHole (e:=es true (RI .i32) (Y) 21 [] ([]:List Int)) rfl;exact r1 (qq k ⟨(Y),[],f,rfl,l⟩)
 refine W.skip (nrm (sr (va (Qo a 1) (va (.agg #[I 0,I 0,.int .u8 0,.int .u8 0,I 0]) (va (Qo a 1) (md (sB 179 1 [I 0,I 0,.int .u8 0,.int .u8 0,I 0] [r0_0,I 0,I 0,.int .u8 0,.int .u8 0,I 0,r0_6,r0_7,r0_8,r0_9,r0_10,r0_11] 0 i ⟨rfl,rfl,rfl,rfl,rfl,trivial⟩) ?_))))));rintro u x g;refine wln (sr (me (sl (RI .i32) 21 [[J 65533]] ([65533]:List Int) g ⟨rfl,trivial⟩) ?_));rintro v18 j y ⟨n,h,m⟩;refine va (v18) (wln (W.ret ?_));cases H;exact r1 (qq j ⟨v18,n,h,rfl,m⟩)
def cB (p0:bH) (p1:Int):Option (bH×(List Int)):=
 (jR p1).bind fun a=>
 if (a==0)=true then
 some (p0,([65533]:List Int))
 else
 if (a==1)=true then
 some (p0,([(w32 p1)]:List Int))
 else
 (mb p1).bind fun c=>
 (kE p1).bind fun b=>
 some ((⟨1,(w64 (a-1)),b.1,b.2,c⟩:bH),([]:List Int))
theorem je {a:Nat}{r0_0:Value}{r0_6:Value}{r0_7:Value}{r0_8:Value}{r0_9:Value}{r0_10:Value}{r0_11:Value}(f:bH) (g:Int) (T:Own c0 G ((Eb a 184 [r0_0,I f.held,I f.needs,.int .u8 f.lo,.int .u8 f.hi,I f.bits,r0_6,r0_7,r0_8,r0_9,r0_10,r0_11])::F)){r:bH×(List Int)}(H:cB f g=some r): Calls prog 222 #[.pointer (some ⟨a,1,none⟩),.int .u8 g] c0.w (aR c0 fun c v=>∃k S,Own c G (es true (RI .i32) k 21 S r.2::(Eb a 184 [r0_0,I r.1.held,I r.1.needs,.int .u8 r.1.lo,.int .u8 r.1.hi,I r.1.bits,r0_6,r0_7,r0_8,r0_9,r0_10,r0_11])::F)/\v=k/\OA (RI .i32) c k S r.2):=by
 unfold cB at H;refine en func222 rfl rfl (sr (va (Y) (wln (W.seq (sr (va (.int .u8 g) (bn H fun b X H=>cl (pW T g X) ?_)))))));rintro v7 c6 l6 ⟨j,rfl⟩;refine va (I b) (wln (sr (va (I b) (wln (W.block (sr (vv (B (b==0)) (wln (cn H (fun Z H=>?_) (fun Z H=>?_))))))))))
 ·refine sr (me (sl (RI .i32) 21 [[J 65533]] ([65533]:List Int) j ⟨rfl,trivial⟩) ?_);rintro v13 x h0 ⟨P,U,z⟩;refine va (v13) (wln (W.ret (bkr (thr ?_))));cases H;exact r1 (qq x ⟨v13,P,U,rfl,z⟩)
 refine sr (vv (B (b==1)) (wln (cn H (fun A H=>?_) (fun A H=>?_))))
 ·refine sr (va (.int .u8 g) (va (J (w32 g)) (me (sl (RI .i32) 21 [[J (w32 g)]] ([(w32 g)]:List Int) j ⟨rfl,trivial⟩) ?_)));rintro v19 y i0 ⟨R,l,D⟩;refine va (v19) (wln (W.ret (bkr (thr ?_))));cases H;exact r1 (qq y ⟨v19,R,l,rfl,D⟩)
 refine sr (vv (Qo a 1) (va (Qo a 1) (va (I b) (va (I (w64 (b-1))) (va (.int .u8 g) (bn H fun h E H=>cl (yv j g E) ?_))))));rintro v26 a0 j0 ⟨m,rfl⟩;refine va (.pointer (some ⟨a,1,none⟩)) (va (Qo a 1) (md (sC 3 1 (I 1) [r0_0,I 1,I f.needs,.int .u8 f.lo,.int .u8 f.hi,I f.bits,r0_6,r0_7,r0_8,r0_9,r0_10,r0_11] 0 m ⟨rfl,trivial⟩) ?_));rintro b0 k0 n;refine va (.pointer (some ⟨a,1,none⟩)) (va (Qo a 2) (md (sC 3 2 (I (w64 (b-1))) [r0_0,I 1,I (w64 (b-1)),.int .u8 f.lo,.int .u8 f.hi,I f.bits,r0_6,r0_7,r0_8,r0_9,r0_10,r0_11] 0 n ⟨rfl,trivial⟩) ?_));rintro d0 l0 o;refine va (.pointer (some ⟨a,1,none⟩)) (va (Qo a 5) (md (sC 3 5 (I h) [r0_0,I 1,I (w64 (b-1)),.int .u8 f.lo,.int .u8 f.hi,I h,r0_6,r0_7,r0_8,r0_9,r0_10,r0_11] 0 o ⟨rfl,trivial⟩) ?_));rintro e0 m0 p;refine wln (W.region (vv (Qo a 1) (va (.int .u8 g) (bn H fun d M H=>cl (wH p g M) ?_))));rintro v39 f0 o0 ⟨q,rfl⟩;refine va (.tuple #[.int .u8 d.1,.int .u8 d.2]) (va (.int .u8 d.1) (va (.int .u8 d.2) (va (Qo a 1) (va (Qo a 3) (md (sC 5 3 (.int .u8 d.1) [r0_0,I 1,I (w64 (b-1)),.int .u8 d.1,.int .u8 f.hi,I h,r0_6,r0_7,r0_8,r0_9,r0_10,r0_11] 0 q ⟨rfl,trivial⟩) ?_)))));rintro g0 q0 s;refine va (.pointer (some ⟨a,1,none⟩)) (va (Qo a 4) (md (sC 5 4 (.int .u8 d.2) [r0_0,I 1,I (w64 (b-1)),.int .u8 d.1,.int .u8 d.2,I h,r0_6,r0_7,r0_8,r0_9,r0_10,r0_11] 0 s ⟨rfl,trivial⟩) ?_));rintro i s0 t;refine WL.nil (bkn (nrm (sr (va (Y) (wln (W.ret ?_))))));cases H;have N:OA (RI .i32) i (Y) [] []:=OA.nil (aN _);have u:=t.addHole (e:=es true (RI .i32) (Y) 21 [] ([]:List Int)) rfl;exact r1 (qq i ⟨(Y),[],u,rfl,N⟩)
def dd (p0:bH) (p1:Int):Option (bH×(List Int)):=
 if false=true then
 some (p0,([]:List Int))
 else
 if (p0.held==0)=true then
 (cB p0 p1).bind fun a=>
 some (a.1,a.2)
 else
 (orE (decide (p1<p0.lo)) (some (decide (p1>p0.hi)))).bind fun d=>
 if d=true then
 (bN p0).bind fun b=>
 (cB b.1 p1).bind fun c=>
 (app b.2 c.2).bind fun e=>
 some (c.1,e)
 else
 if (decide ((w64 (p0.needs-1))>0))=true then
 some ((⟨(w64 (p0.held+1)),(w64 (p0.needs-1)),128,191,(sa .i64 (w64 (p0.bits*2 ^ 6)) (w64 (lu .u8 p1 63)))⟩:bH),([]:List Int))
 else
 some ((⟨0,0,0,0,0⟩:bH),([(w32 (sa .i64 (w64 (p0.bits*2 ^ 6)) (w64 (lu .u8 p1 63))))]:List Int))
theorem mi {a:Nat}{r0_0:Value}{r0_6:Value}{r0_7:Value}{r0_8:Value}{r0_9:Value}{r0_10:Value}{r0_11:Value}(b:bH) (d:Int) (h:Own c0 G ((Eb a 184 [r0_0,I b.held,I b.needs,.int .u8 b.lo,.int .u8 b.hi,I b.bits,r0_6,r0_7,r0_8,r0_9,r0_10,r0_11])::F)){r:bH×(List Int)}(H:dd b d=some r): Calls prog 166 #[.pointer (some ⟨a,1,none⟩),.int .u8 d] c0.w (aR c0 fun c v=>∃x y2,Own c G (es true (RI .i32) x 21 y2 r.2::(Eb a 184 [r0_0,I r.1.held,I r.1.needs,.int .u8 r.1.lo,.int .u8 r.1.hi,I r.1.bits,r0_6,r0_7,r0_8,r0_9,r0_10,r0_11])::F)/\v=x/\OA (RI .i32) c x y2 r.2):=by
 unfold dd at H;refine en func166 rfl rfl (sr (va (Y) (wln (W.seq (W.block (sr (va (Qo a 1) (vv (B false) (wln (W.cond (t:=false) (by kernel_rfl) (fun s=>?_) (fun s=>?_)))))))))))
 ·cases s
 have H:=ie s H;refine sr (vv (Qo a 1) (va (Qo a 1) (vx (le1 1 u_3 (h.on 0 rfl)) (vv (B (b.held==0)) (wln (cn H (fun h2 H=>?_) (fun h2 H=>?_)))))))
 ·refine sr (va (Qo a 1) (va (.int .u8 d) (bn H fun z0 h4 H=>cl (je b d h h4) ?_)));rintro v5 X q1 ⟨_,u6,O9,rfl,h7⟩;refine va (v5) (wln (W.ret (bkr (thr ?_))));cases H;exact r1 (qq X ⟨v5,u6,O9,rfl,h7⟩)
 refine W.seq (bn H fun q o H=>W.join (Jn c0 fun c l=>Own c G ((Eb a 184 [r0_0,I b.held,I b.needs,.int .u8 b.lo,.int .u8 b.hi,I b.bits,r0_6,r0_7,r0_8,r0_9,r0_10,r0_11])::F)/\l= [(0,.pointer (some ⟨a,1,none⟩)),(1,.int .u8 d),(18,B q)]) ?_ ?_)
 ·clear H;refine W.region (va (.int .u8 d) (vv (Qo a 1) (va (Qo a 3) (vx (le1 3 u_5 (h.on 0 rfl)) (va (B (decide (d<b.lo))) ?_)))));rcases bo (decide (d<b.lo)) with f|f
  ·obtain rfl:=orT f o;exact vb f (pz (pz (pz (vv (B true) (wln (jn c0 ⟨h,rfl⟩))))))
  have y:=orF f o;refine vb f (wa (.int .u8 d) (wa (Qo a 1) (wa (Qo a 1) (wa (Qo a 4) (wn (vx (le1 4 u_5 (h.on 0 rfl)) (wa (B (decide (d>b.hi))) ?_)))))));cases y;exact vv (B (decide (d>b.hi))) (wln (jn c0 ⟨h,rfl⟩))
 rintro e_ w_ ⟨c1,n1,_,rfl,s1,rfl,i,rfl⟩;refine nrm (cn H (fun b0 H=>?_) (fun b0 H=>?_))
 ·refine sr (va (Qo a 1) (bn H fun u d0 H=>cl (jf b i d0) ?_));rintro v26 d1 t1 ⟨_,g2,z,rfl,e0⟩;refine va (.pointer (some ⟨a,1,none⟩)) (va (.int .u8 d) ?_);have A:=z.sD 2 [1,0];refine bn H fun a1 f0 H=>cl (je u.1 d A f0) ?_;rintro v37 e1 u1 ⟨_,i2,D,rfl,g0⟩;obtain ⟨f1,i0,v1,E,h0⟩:=D.frz 0 rfl g0;refine WL.gh i0 (bn H fun b1 j0 H=>me (ap (RI .i32) (J 0) 4 32 2 E e0.m h0 j0 dD) ?_);rintro v55 Z w1 ⟨q0,M,k0⟩;refine va (v55) (wln (W.ret (bkr (thr ?_))));cases H;have N:=M.sD 3 [2,1];exact r1 (qq Z ⟨v55,q0,N,rfl,k0⟩)
 refine W.skip (bkn (nrm (sr (vv (Qo a 1) (va (Qo a 1) (va (Qo a 5) (vx (le1 5 u_3 (i.on 0 rfl)) (va (I (w64 (b.bits*2 ^ 6))) (va (.int .u8 d) (va (.int .u8 (lu .u8 d 63)) (va (I (w64 (lu .u8 d 63))) (va (I (sa .i64 (w64 (b.bits*2 ^ 6)) (w64 (lu .u8 d 63)))) (va (Qo a 1) (va (Qo a 5) (md (sC 3 5 (I (sa .i64 (w64 (b.bits*2 ^ 6)) (w64 (lu .u8 d 63)))) [r0_0,I b.held,I b.needs,.int .u8 b.lo,.int .u8 b.hi,I (sa .i64 (w64 (b.bits*2 ^ 6)) (w64 (lu .u8 d 63))),r0_6,r0_7,r0_8,r0_9,r0_10,r0_11] 0 i ⟨rfl,trivial⟩) ?_)))))))))))))));rintro g1 x1 P;refine wln (sr (vv (Qo a 1) (va (Qo a 1) (va (Qo a 3) (md (sC 5 3 (.int .u8 128) [r0_0,I b.held,I b.needs,.int .u8 128,.int .u8 b.hi,I (sa .i64 (w64 (b.bits*2 ^ 6)) (w64 (lu .u8 d 63))),r0_6,r0_7,r0_8,r0_9,r0_10,r0_11] 0 P ⟨rfl,trivial⟩) ?_)))));rintro i1 z1 R;refine va (.pointer (some ⟨a,1,none⟩)) (va (Qo a 4) (md (sC 5 4 (.int .u8 191) [r0_0,I b.held,I b.needs,.int .u8 128,.int .u8 191,I (sa .i64 (w64 (b.bits*2 ^ 6)) (w64 (lu .u8 d 63))),r0_6,r0_7,r0_8,r0_9,r0_10,r0_11] 0 R ⟨rfl,trivial⟩) ?_));rintro j1 b2 j;refine wln (sr (vv (Qo a 1) (va (Qo a 1) (vx (le1 1 u_3 (j.on 0 rfl)) (va (I (w64 (b.held+1))) (vv (Qo a 1) (md (sC 3 1 (I (w64 (b.held+1))) [r0_0,I (w64 (b.held+1)),I b.needs,.int .u8 128,.int .u8 191,I (sa .i64 (w64 (b.bits*2 ^ 6)) (w64 (lu .u8 d 63))),r0_6,r0_7,r0_8,r0_9,r0_10,r0_11] 0 j ⟨rfl,trivial⟩) ?_)))))));rintro k1 c2 k;refine wln (sr (vv (Qo a 1) (va (Qo a 2) (vx (le1 2 u_3 (k.on 0 rfl)) (va (I (w64 (b.needs-1))) (va (Qo a 1) (va (Qo a 2) (md (sC 3 2 (I (w64 (b.needs-1))) [r0_0,I (w64 (b.held+1)),I (w64 (b.needs-1)),.int .u8 128,.int .u8 191,I (sa .i64 (w64 (b.bits*2 ^ 6)) (w64 (lu .u8 d 63))),r0_6,r0_7,r0_8,r0_9,r0_10,r0_11] 0 k ⟨rfl,trivial⟩) ?_))))))));rintro n d2 g;refine wln (W.seq (sr (vv (Qo a 1) (va (Qo a 2) (vx (le1 2 u_3 (g.on 0 rfl)) (va (B (decide ((w64 (b.needs-1))>0))) (wln (cn H (fun l0 H=>?_) (fun l0 H=>?_)))))))))
 ·refine sr (va (Y) (wln (W.ret (thr ?_))));cases H;have m0:OA (RI .i32) n (Y) [] []:=OA.nil (aN _);have S:=g.addHole (e:=es true (RI .i32) (Y) 21 [] ([]:List Int)) rfl;exact r1 (qq n ⟨(Y),[],S,rfl,m0⟩)
 refine W.skip (nrm (sr (vv (Qo a 1) (va (Qo a 5) (vx (le1 5 u_3 (g.on 0 rfl)) (vv (J (w32 (sa .i64 (w64 (b.bits*2 ^ 6)) (w64 (lu .u8 d 63))))) (wln (sr (va (Qo a 1) (va (.agg #[I 0,I 0,.int .u8 0,.int .u8 0,I 0]) (va (Qo a 1) (md (sB 179 1 [I 0,I 0,.int .u8 0,.int .u8 0,I 0] [r0_0,I 0,I 0,.int .u8 0,.int .u8 0,I 0,r0_6,r0_7,r0_8,r0_9,r0_10,r0_11] 0 g ⟨rfl,rfl,rfl,rfl,rfl,trivial⟩) ?_))))))))))));rintro m1 e2 T;refine wln (sr (va (J (w32 (sa .i64 (w64 (b.bits*2 ^ 6)) (w64 (lu .u8 d 63))))) (me (sl (RI .i32) 21 [[J (w32 (sa .i64 (w64 (b.bits*2 ^ 6)) (w64 (lu .u8 d 63))))]] ([(w32 (sa .i64 (w64 (b.bits*2 ^ 6)) (w64 (lu .u8 d 63))))]:List Int) T ⟨rfl,trivial⟩) ?_)));rintro p a0 f2 ⟨s0,U,o0⟩;refine va (p) (wln (W.ret ?_));cases H;exact r1 (qq a0 ⟨p,s0,U,rfl,o0⟩)
def gX (sg:Sto) (p0:Option Nat) (p1:List Int):Option (Sto):=
 if p0.isNone=true then
 some sg
 else
 (cL (σ:=Int×Sto) (τ:=Sto) (((p1.length:Int)-0).toNat+1) (fun b=>
 if (decide (b.1<(p1.length:Int)))=true then
 (idx p1 b.1).bind fun f=>
 (p0).bind fun d=>
 (b.2.feed_Feeder[d]?).bind fun a=>
 (dd a.dec f).bind fun e=>
 (b.2.set_feed_Feeder d (⟨a.pen,e.1,a.seg,a.open_⟩:bI)).bind fun c=>
 (gK c p0 e.2).bind fun g=>
 some (.inl ((w64 (b.1+1)),g))
 else
 some (.inr (b.2))) (0,sg)).bind fun h=>
 some h
theorem sy (M:Own c0 G F) (R0:Rel c0 sg G) (hG:Gl [2,4] c0) (j:Option Nat) (k:List Int){r:Sto}(t:Pt 4 c0 v1 j) (u:Sl (RI .u8) c0 v3 k) (H:gX sg j k=some r): Calls prog 107 #[v1,v3] c0.w (aR c0 fun c v=>∃G_:Gm,Own c G_ (F)/\Rel c r G_/\v= .tuple #[]):=by
 unfold gX at H;refine en func107 rfl rfl (W.seq (sr (va (v1) (vr (B j.isNone) (by rcases (t).cs with ⟨p,s⟩|⟨b_,p,s⟩ <;> (subst p; rw [s]; kernel_rfl)) (wln (cn H (fun h5 H=>?_) (fun h5 H=>?_)))))))
 ·refine W.ret (thr ?_);cases H;exact r0 (qq c0 ⟨G,M,R0,rfl⟩)
 refine W.skip (nrm (sr (va (v3) (vx (ln 3 lW u) (va (I 0) (wln (W.block (bn H fun y1 h6 E=>lp h6 (fun d=>Jn c0 fun c l=>∃G_,Own c G_ (F)/\l= [(0,v1),(8,v3),(9,I (k.length:Int)),(10,I d.1)]/\Rel c d.2 G_) (fun x ex e w=>ex= .exit 0/\(Jn c0 fun c l=>∃G_,Own c G_ (F)/\l= []/\Rel c x G_) e w) ?_ ?_ ?_))))))))
 ·clear E h6;intro d b2 i0 c1 H;revert i0 c1;rintro e_ w_ ⟨c8,g9,_,rfl,l8,rfl,z,n,rfl,h⟩;refine sr (va (B (decide (d.1<(k.length:Int)))) (wln (W.seq (cn H (fun j0 H=>?_) (fun j0 H=>?_)))))
  ·refine W.skip (nrm (W.seq (W.block (sr (bn H fun f o H=>?_)))));obtain ⟨h1,k0,b1⟩:=Sl.at (u.mono l8) (aU o);obtain rfl:=k0;refine vx (ix lW u.m o) (vx (l1 u_5 (b1 0 _ rfl)) (va (.int .u8 f) (wln (W.region (vv (v1) (bn H fun g1 l0 H=>?_))))));obtain ⟨g,rfl,q⟩:=((t.mono l8)).get l0;refine va (Q g) (va (Qo g 1) (va (.int .u8 f) (bn H fun a m0 H=>?_)));obtain ⟨v23,v25,s0,o0,q0⟩:=Rel.open_feed_Feeder h m0 q;have N:=n.borrow 0 s0 rfl;refine bn H fun b t0 H=>cl (mi a.dec f N t0) ?_;rintro v31 n1 i ⟨_,z1,P,rfl,u0⟩;have S:=P.sD 2 [1,0];have R:=S.giveB 0 rfl;refine bn H fun y v0 H=>?_;obtain ⟨k1,T,d0,t1,m1⟩:=Rel.put_feed_Feeder R (h.mono i) (E':=[(Eb g 184 [v23,I b.1.held,I b.1.needs,.int .u8 b.1.lo,.int .u8 b.1.hi,I b.1.bits,B a.seg.some,I a.seg.last,I a.seg.pict,I a.seg.conj,B a.seg.odd,v25])]) v0 ⟨g,v23,v25,(tm q),rfl,(o0.mono i),(q0.mono i)⟩;obtain ⟨q1,x0,u1,U,w0⟩:=T.frz 0 rfl u0;refine WL.gh x0 (bn H fun j1 y0 H=>cl (oy U d0.m (hG.m.le (by decide)) j b.2 t.m w0 y0) ?_);rintro v58 g0 w1 ⟨A,X,e0,rfl⟩;refine WL.nil (bkn (nrm (W.region (vv (I (w64 (d.1+1))) (WL.nil ?_)))));cases H;refine ⟨_,rfl,?_⟩;have Z:=X.sD 1 [];exact jn g0 ⟨A,Z,rfl,e0⟩
  refine W.exit (thx ?_);cases H;exact ⟨_,rfl,rfl,jn c8 ⟨z,n,rfl,h⟩⟩
 ·exact jn c0 ⟨G,M,rfl,R0⟩
 rintro _ e_ w_ ⟨rfl,h0,s1,_,rfl,x1,rfl,D,a0,rfl,f0⟩;refine bke ?_;cases E;exact n0 (qq h0 ⟨D,a0,f0,rfl⟩)
def gW (sg:Sto) (p0:Option Nat):Option (Sto):=
 if p0.isNone=true then
 some sg
 else
 (p0).bind fun c=>
 (sg.feed_Feeder[c]?).bind fun a=>
 (bN a.dec).bind fun d=>
 (sg.set_feed_Feeder c (⟨a.pen,d.1,a.seg,a.open_⟩:bI)).bind fun b=>
 (gK b p0 d.2).bind fun f=>
 (dp f p0).bind fun e=>
 some e
theorem sx (l:Own c0 G F) (j:Rel c0 sg G) (hG:Gl [2,4] c0) (f:Option Nat){r:Sto}(g:Pt 4 c0 v1 f) (H:gW sg f=some r): Calls prog 108 #[v1] c0.w (aR c0 fun c v=>∃G_:Gm,Own c G_ (F)/\Rel c r G_/\v= .tuple #[]):=by
 unfold gW at H;refine en func108 rfl rfl (W.seq (sr (va (v1) (vr (B f.isNone) (by rcases (g).cs with ⟨h,i⟩|⟨b_,h,i⟩ <;> (subst h; rw [i]; kernel_rfl)) (wln (cn H (fun h3 H=>?_) (fun h3 H=>?_)))))))
 ·refine W.ret (thr ?_);cases H;exact r0 (qq c0 ⟨G,l,j,rfl⟩)
 refine W.skip (nrm (sr (vv (v1) (bn H fun s0 h6 H=>?_))));obtain ⟨d,rfl,h5⟩:=(g).get h6;refine va (Q d) (va (Qo d 1) (bn H fun a h7 H=>?_));obtain ⟨v8,v10,N,h9,M⟩:=Rel.open_feed_Feeder j h7 h5;have n:=l.borrow 0 N rfl;refine bn H fun b P H=>cl (jf a.dec n P) ?_;rintro v16 l0 e ⟨_,w0,o,rfl,R⟩;have q:=o.sD 2 [1,0];have p:=q.giveB 0 rfl;refine bn H fun b0 S H=>?_;obtain ⟨i0,s,z,q0,k0⟩:=Rel.put_feed_Feeder p (j.mono e) (E':=[(Eb d 184 [v8,I b.1.held,I b.1.needs,.int .u8 b.1.lo,.int .u8 b.1.hi,I b.1.bits,B a.seg.some,I a.seg.last,I a.seg.pict,I a.seg.conj,B a.seg.odd,v10])]) S ⟨d,v8,v10,(tm h5),rfl,(h9.mono e),(M.mono e)⟩;obtain ⟨m0,U,t0,t,T⟩:=s.frz 0 rfl R;refine WL.gh U (bn H fun x0 X H=>cl (oy t z.m (hG.m.le (by decide)) f b.2 g.m T X) ?_);rintro v43 o0 u0 ⟨j0,u,A,rfl⟩;refine wln (W.region (va (Q d) (bn H fun h0 Z H=>cl (jy u A f g.m Z) ?_)));rintro v50 E v0 ⟨k,x,D,rfl⟩;refine WL.nil ?_;cases H;have y:=x.sD 1 [];exact n0 (qq E ⟨k,y,D,rfl⟩)
end Go.Proofs.YtclmdpamofdoiaaGreatDoor
namespace Go.Proofs.YtclmdpamofdoiaaGreatDoor
open Go Go.Lt
set_option maxRecDepth 10000
set_option linter.unusedVariables false
attribute [local irreducible] W WL AC
open Go.RowKit Go.Extern.Stop Go.Stop Go.Extern
def zH (n:Nat):Er->Bool
 | .nil=>true
 | .sent g=>decide (g<n)
 | .fault _ e=>zH n e
def tW (k:Nat):Er->Bool
 | .nil=>false
 | .sent g=>g==k
 | .fault _ e=>tW k e
def pS:Er->Nat
 | .nil=>0
 | .sent _=>0
 | .fault _ e=>pS e+1
def ic (p0 p1:Er):Option Bool:=match p1 with
 | .sent k=>if k<8/\zH 8 p0=true then some (tW k p0) else none
 | _=>none
theorem Cz (v:Value) (w:World):(Extern.ReflectliteType.typeOf #[.iface 350 v]).run Tryz.prog w= .ok (.iface 268 (.agg #[.pointer (some ⟨9,350,none⟩)])) w:=by kernel_rfl
theorem wY (w:World):((Extern.ReflectliteType.method fun t=>do Extern.Rtype.noPackHeld "Comparable" t; pure (.bool (<-typeInfo t).comparable)) #[.agg #[.pointer (some ⟨9,350,none⟩)]]).run Tryz.prog w= .ok (.bool true) w:=by kernel_rfl
theorem rZ (v:Value) (w:World):(Go.method 483 268 v "Comparable").run Tryz.prog w= .ok (347,v) w:=by kernel_rfl
theorem Fw:(Tryz.prog.info? 350).map (·.comparable)=some true:=by kernel_rfl
theorem Fv:(Tryz.prog.info? 371).map (·.size)=some 1:=by kernel_rfl
theorem DY (v:Value) (xT:TypeId) (w:World):(Instr.typeAssert (.iface 350 v) xT 279 true).run Tryz.prog w= .ok (.tuple #[.nilIface,.bool false]) w:=run_typeAssert_lacksB Tryz.underlying279 (by kernel_rfl) (by kernel_rfl) v xT w
theorem yi (v:Value) (xT:TypeId) (w:World):(Instr.typeAssert (.iface 350 v) xT 275 true).run Tryz.prog w= .ok (.tuple #[.nilIface,.bool false]) w:=run_typeAssert_lacksB Tryz.underlying275 (by kernel_rfl) (by kernel_rfl) v xT w
theorem wW (v:Value) (xT:TypeId) (w:World):(Instr.typeAssert (.iface 350 v) xT 277 true).run Tryz.prog w= .ok (.tuple #[.nilIface,.bool false]) w:=run_typeAssert_lacksB Tryz.underlying277 (by kernel_rfl) (by kernel_rfl) v xT w
theorem DX (v:Value) (xT:TypeId) (w:World):(Instr.typeAssert (.iface 144 v) xT 279 true).run Tryz.prog w= .ok (.tuple #[.nilIface,.bool false]) w:=run_typeAssert_lacksB Tryz.underlying279 (by kernel_rfl) (by kernel_rfl) v xT w
theorem wX (v:Value) (xT:TypeId) (w:World):(Instr.typeAssert (.iface 144 v) xT 275 true).run Tryz.prog w= .ok (.tuple #[.iface 144 v,.bool true]) w:=run_typeAssert_hasB Tryz.underlying275 (by kernel_rfl) v xT w
theorem vo (v:Value) (w:World):(Go.method 483 144 v "Unwrap").run Tryz.prog w= .ok (340,v) w:=by kernel_rfl
open Classical in
noncomputable def wt (c:Cx) (E:Value):Nat:=if h:∃p,RE 350 144 c E p then pS h.choose else 0
theorem ws {c:Cx}:∀{p p':Er}{E:Value},RE 350 144 c E p->RE 350 144 c E p'->pS p=pS p'
 | .nil,.nil,_,_,_=>rfl
 | .nil,.sent _,_,h,h'=>rfl
 | .nil,.fault _ _,_,h,h'=>by
  obtain rfl:=h;obtain ⟨b,u,e,_⟩:=h';cases e
 | .sent _,.nil,_,_,_=>rfl
 | .sent _,.sent _,_,_,_=>rfl
 | .sent _,.fault _ _,_,h,h'=>by
  obtain ⟨a,rfl,_⟩:=h;obtain ⟨b,u,e,_⟩:=h';cases e
 | .fault _ _,.nil,_,h,h'=>by
  obtain rfl:=h';obtain ⟨b,u,e,_⟩:=h;cases e
 | .fault _ _,.sent _,_,h,h'=>by
  obtain ⟨a,rfl,_⟩:=h';obtain ⟨b,u,e,_⟩:=h;cases e
 | .fault _ p,.fault _ p',_,h,h'=>by
  obtain ⟨b,u,rfl,_,h1,h2⟩:=h;obtain ⟨b',u',e,_,h1',h2'⟩:=h';cases e;have:=h1.cell.symm.trans h1'.cell;cases this;show pS p+1=pS p'+1;rw [ws h2 h2']
theorem xH {c:Cx}{E:Value}{p:Er}(h:RE 350 144 c E p):wt c E=pS p:=by
 unfold wt;rw [uK ⟨p,h⟩];exact ws (Exists.choose_spec ⟨p,h⟩) h
set_option maxRecDepth 1000000 in
theorem zv {c:Cx}(hG:Gl [0,1,2,3,4,5,6,7] c) (b:Addr) (k:Nat) (hk:k<8) (h2:RE 350 144 c (.iface 350 (.pointer (some b))) (.sent k)) (E:Value) (p0:Er) (h1:RE 350 144 c E p0) (hn:p0.isNil=false) (ha:zH 8 p0=true):
  Calls Tryz.prog 159 #[E,.iface 350 (.pointer (some b)),.bool true] c.w fun e w'=>e= .returned (.bool (tW k p0))/\w'=c.w:=by
 obtain ⟨i,hi,hcmp⟩:=Option.map_eq_some_iff.1 Fw;obtain ⟨j,hj,hjs⟩:=Option.map_eq_some_iff.1 Fv;have nE:=DY;have uE:=yi;have vE:=wW;have nW:=DX;have uW:=wX;have mU:=vo;have hmem:∀g,g<8->g∈ [0,1,2,3,4,5,6,7]:=by decide
 obtain ⟨b',eb,hkm,hkf⟩:=h2;cases eb;obtain ⟨W,hW⟩:∃W,Hid (W=c.w):=⟨_,rfl⟩;rw [<-hW.out]
 go_enter Tryz.func159,Tryz.ntmps159
 go_wp2
 go_loopw [0] (fun E' wl=>wl=W/\∃p,RE 350 144 c E' p/\p.isNil=false/\zH 8 p=true/\tW k p0=tW k p) (fun E' _=>wt c E')
 case atStart=>exact ⟨rfl,p0,h1,hn,ha,rfl⟩
 case round=>
  obtain ⟨rfl,p,hp,hpn,hpa,hiff⟩:=hrel
  cases p with
  | nil=>cases hpn
  | sent g=>
   obtain ⟨a,rfl,hgm,hgf⟩:=hp;by_cases hab:a=b
   ·subst hab;have hgk:g=k:=EL fun hne=>hG.2 g k (hmem g (sI hpa)) (hmem k hk) hne a hgm hkm;have heq:=run_eql_iface_ptr_same (P:=Tryz.prog) wr a Tryz.underlying66 Tryz.underlying350 hi hcmp hj
    go_wp2
    go_ret
    exact ⟨by rw [hiff]; simp [tW,hgk],rfl⟩
   ·obtain ⟨ca,ta,hca⟩:=hgf.blk;obtain ⟨cb,tb,hcb⟩:=hkf.blk;rw [<-hW.out] at hca hcb;have hgk:¬g=k:=fun e=>by
     subst e;have:=hgm.cell.symm.trans hkm.cell;cases this;exact hab rfl
    have heq:=run_eql_iface_ptr_other (P:=Tryz.prog) wr Tryz.underlying66 Tryz.underlying350 hi hcmp hj (by rw [hjs]; decide) hab hca hcb
    go_wp2
    go_ret
    exact ⟨by rw [hiff]; simp [tW,hgk],rfl⟩
  | fault n e1=>
   obtain ⟨fb,u,rfl,hi0,hi1,hre⟩:=hp;have hcell:=hi1.cell;rw [<-hW.out] at hcell;have hty:=run_eql_iface_types (P:=Tryz.prog) 144 350 (.pointer (some ⟨fb,0,none⟩)) (.pointer (some b)) Tryz.underlying66 (by decide) wr;have hlen:=xH hre;have hlen0:=xH (c:=c) (E:= .iface 144 (.pointer (some ⟨fb,0,none⟩))) (p:= .fault n e1) ⟨fb,u,rfl,hi0,hi1,hre⟩;have HC:Hid (RE 350 144 c u e1):=hre
   cases e1 with
   | nil=>
    obtain rfl:=hre
    go_wp2
    go_ret
    exact ⟨by rw [hiff]; simp [tW],rfl⟩
   | sent g=>
    obtain ⟨a,rfl,_⟩:=hre
    go_wp2
    go_roundw
    case rel=>exact ⟨trivial,_,HC.out,rfl,hpa,hiff⟩
    case measure=>
     show wt c (.iface 350 (.pointer (some a)))<_;rw [hlen,hlen0]; simp [pS]
   | fault n2 e2=>
    obtain ⟨fb2,u2,rfl,_⟩:=hre
    go_wp2
    go_roundw
    case rel=>exact ⟨trivial,_,HC.out,rfl,hpa,hiff⟩
    case measure=>
     show wt c (.iface 144 (.pointer (some ⟨fb2,0,none⟩)))<_;rw [hlen,hlen0]; simp [pS]
set_option maxRecDepth 1000000 in
theorem Ir {c:Cx}(hG:Gl [0,1,2,3,4,5,6,7] c) (b:Addr) (k:Nat) (hk:k<8) (h2:RE 350 144 c (.iface 350 (.pointer (some b))) (.sent k)) (E:Value) (p0:Er) (h1:RE 350 144 c E p0) (ha:zH 8 p0=true):
  Calls Tryz.prog 99 #[E,.iface 350 (.pointer (some b))] c.w fun e w'=>e= .returned (.bool (tW k p0))/\w'=c.w:=by
 have h8:= @cV Tryz.prog 158 _ Extern.ReflectliteType.typeOf Tryz.func158 (by kernel_rfl) (by kernel_rfl) (by kernel_rfl) (by kernel_rfl);have h320:= @cV Tryz.prog 347 _ (Extern.ReflectliteType.method fun t=>do Extern.Rtype.noPackHeld "Comparable" t; pure (.bool (<-typeInfo t).comparable)) Tryz.func347 (by kernel_rfl) (by kernel_rfl) (by kernel_rfl) (by kernel_rfl);have h32:∀w,(callFunc 347 #[.agg #[.pointer (some ⟨9,350,none⟩)]]).run Tryz.prog w= .ok (.value (.bool true)) w:=fun w=>by rw [h320,wY]; rfl
 clear h320
 have tT:=Cz;have mR:=rZ
 cases p0 with
 | nil=>
  obtain rfl:=h1;have hn:=run_eql_iface_nil_left (P:=Tryz.prog) c.w 350 (.pointer (some b)) Tryz.underlying66
  clear h2 hG
  go_enter Tryz.func99,Tryz.ntmps99
  go_wp2
  go_ret
  exact ⟨rfl,rfl⟩
 | sent g=>
  have hcon:=zv hG b k hk h2 E (.sent g) h1 rfl ha;obtain ⟨a,rfl,_⟩:=h1
  clear h2 hG
  go_enter Tryz.func99,Tryz.ntmps99
  go_wp2_with (first|(go_at_call 159; refine hcon.mono ?_; rintro e w' ⟨rfl,rfl⟩)|go_in)
  go_ret
  exact ⟨rfl,rfl⟩
 | fault i e=>
  have hcon:=zv hG b k hk h2 E (.fault i e) h1 rfl ha;obtain ⟨fb,u,rfl,_⟩:=h1
  clear h2 hG
  go_enter Tryz.func99,Tryz.ntmps99
  go_wp2_with (first|(go_at_call 159; refine hcon.mono ?_; rintro e w' ⟨rfl,rfl⟩)|go_in)
  go_ret
  exact ⟨rfl,rfl⟩
theorem jM {c0:Cx}{G:Gm}{F:List En}{v1 v2:Value}(O0:Own c0 G F) (hG:Gl [0,1,2,3,4,5,6,7] c0) (p0 p1:Er) (h1:RE 350 144 c0 v1 p0) (h2:RE 350 144 c0 v2 p1){r:Bool}(H:ic p0 p1=some r): Calls Tryz.prog 99 #[v1,v2] c0.w (aR c0 fun c v=>Own c G F/\v= .bool r):=by
 unfold ic at H;split at H
 ·rename_i k;split at H
  ·rename_i hh;obtain rfl:=bj H;obtain ⟨b,rfl,h3⟩:=id h2;refine (Ir hG b k hh.1 h2 v1 p0 h1 hh.2).mono ?_;rintro e w' ⟨rfl,rfl⟩;exact ⟨_,c0,rfl,rfl,Cx.le.refl _,O0,rfl⟩
  ·cases H
 ·cases H
end Go.Proofs.YtclmdpamofdoiaaGreatDoor
namespace Go.Proofs.YtclmdpamofdoiaaGreatDoor
open Go Go.Lt
set_option maxRecDepth 10000
set_option linter.unusedVariables false
attribute [local irreducible] W WL AC
open Tryz
variable {c0:Cx}{G:Gm}{F:List En}{sg:Sto}{v1 v2 v3 v4 v5 v6 v7 v8 v9 v10 v11 v12 v13 v14 v15 v16 v17 v18 v19 v20 v21 v22 v23 v24 v25 v26 v27 v28 v29 v30 v31 v32 v33 v34 v35 v36 v37 v38 v39 v40 v41 v42 v43 v44 v45 v46 v47 v48 v49 v50 v51 v52 v53 v54 v55 v56 v57 v58 v59 v60:Value}
def gq (p0:Int) (p1:Int) (p2:Int):Option (Int):=
 some (aE p1 (aB p0 p2))
theorem mq (e:Own c0 G F) (a:Int) (d:Int) (b:Int){r:Int}(H:gq a d b=some r): Calls prog 246 #[I a,I d,I b] c0.w (aR c0 fun c v=>Own c G (F)/\v=I r):=by
 unfold gq at H;refine en func246 rfl rfl (sr (va (I 0) (wln (sr (va (I d) (va (I a) (va (I b) (va (I (aB a b)) (vv (I (aE d (aB a b))) (wln (W.ret ?_)))))))))));cases H;exact r1 (qq c0 ⟨e,rfl⟩)
def ig (sg:Sto) (p0:Option Nat) (p1:Int) (p2:Int):Option (Sto):=
 (bS sg p0).bind fun e=>
 (gq p1 0 e).bind fun a=>
 (bS sg p0).bind fun f=>
 (gq p2 0 f).bind fun b=>
 if (decide (a<b))=true then
 (eI (w64 (b-a))).bind fun c=>
 (ei sg p0 a c).bind fun d=>
 some d.1
 else
 some sg
theorem mZ (U:Own c0 G F) (e:Rel c0 sg G) (hG:Gl [2,4] c0) (d:Option Nat) (f:Int) (g:Int){r:Sto}(i:Pt 0 c0 v1 d) (H:ig sg d f g=some r): Calls prog 247 #[v1,I f,I g] c0.w (aR c0 fun c v=>∃G_:Gm,Own c G_ (F)/\Rel c r G_/\v= .tuple #[]):=by
 unfold ig at H;refine en func247 rfl rfl (sr (va (I f) (va (v1) (bn H fun S Z H=>cl (cK U e d i Z) ?_))));rintro v9 c8 l8 ⟨X,rfl⟩;refine bn H fun a y H=>cl (mq X f 0 S y) ?_;rintro v16 b0 h0 ⟨l,rfl⟩;refine va (I g) (va (v1) (bn H fun T z H=>cl (cK l e.m d i.m z) ?_));rintro v23 d0 i0 ⟨n,rfl⟩;refine bn H fun b A H=>cl (mq n g 0 T A) ?_;rintro v30 u j0 ⟨h,rfl⟩;refine va (I a) (va (I b) (wln (sr (va (I a) (va (I b) (va (B (decide (a<b))) (wln (cn H (fun D H=>?_) (fun D H=>?_)))))))))
 ·refine W.region (va (v1) (va (I a) (va (I b) (va (I a) (va (I (w64 (b-a))) (bn H fun j E H=>cl (km h (w64 (b-a)) E) ?_))))));rintro v33 e0 k0 ⟨_,o0,o,rfl,M⟩;obtain ⟨f0,P,l0,p,N⟩:=o.frz 0 rfl M;refine WL.gh P (bn H fun a0 R H=>cl (ke p e.m (hG.m.le (by decide)) d a j i.m N R) ?_);rintro v47 x m0 ⟨_,k,q,t,rfl,g0⟩;refine WL.nil ?_;cases H;have s:=q.sD 1 [];exact n0 (qq x ⟨k,s,t,rfl⟩)
 refine W.skip ?_;cases H;exact n0 (qq u ⟨G,h,e.m,rfl⟩)
def kj (sg:Sto) (p0:Option Nat) (p1:Int) (p2:Int):Option (Sto):=
 (bT (decide (p1>=0)) (some (decide (p2>0)))).bind fun f=>
 if f=true then
 (bS sg p0).bind fun b=>
 (gq p1 0 b).bind fun a=>
 (bS sg p0).bind fun c=>
 (gq p2 0 c).bind fun d=>
 (ig sg p0 a (w64 (a+d))).bind fun e=>
 some e
 else
 some sg
theorem xf (o:Own c0 G F) (h:Rel c0 sg G) (hG:Gl [2,4] c0) (f:Option Nat) (b:Int) (d:Int){r:Sto}(i:Pt 0 c0 v1 f) (H:kj sg f b d=some r): Calls prog 192 #[v1,I b,I d] c0.w (aR c0 fun c v=>∃G_:Gm,Own c G_ (F)/\Rel c r G_/\v= .tuple #[]):=by
 unfold kj at H;refine en func192 rfl rfl (W.seq (bn H fun A P H=>W.join (Jn c0 fun c l=>Own c G (F)/\l= [(0,v1),(1,I b),(2,I d),(11,B A)]) ?_ ?_))
 ·clear H;refine W.region (va (I b) (va (B (decide (b>=0))) ?_));rcases bo (decide (b>=0)) with e|e
  ·have T:=anT e P;refine vb e (wa (I d) (wa (B (decide (d>0))) ?_));cases T;exact va (B (decide (d>0))) (wln (jn c0 ⟨o,rfl⟩))
  obtain rfl:=anF e P;exact vb e (pz (va (B false) (wln (jn c0 ⟨o,rfl⟩))))
 rintro e_ w_ ⟨U,g7,_,rfl,l6,rfl,x,rfl⟩;refine nrm (cn H (fun D H=>?_) (fun D H=>?_))
 ·refine sr (va (I b) (va (v1) (bn H fun j E H=>cl (cK x h.m f i.m E) ?_)));rintro v19 Z e0 ⟨p,rfl⟩;refine bn H fun a M H=>cl (mq p b 0 j M) ?_;rintro v26 a0 f0 ⟨q,rfl⟩;refine va (I a) (wln (W.region (va (v1) (vv (I a) (va (I d) (va (v1) (bn H fun k N H=>cl (cK q h.m f i.m N) ?_)))))));rintro v33 b0 g0 ⟨s,rfl⟩;refine bn H fun g R H=>cl (mq s d 0 k R) ?_;rintro v40 d0 h0 ⟨t,rfl⟩;refine va (I (w64 (a+g))) (bn H fun X S H=>cl (mZ t h.m (hG.m.le (by decide)) f a (w64 (a+g)) i.m S) ?_);rintro v47 z i0 ⟨n,u,y,rfl⟩;refine WL.nil ?_;cases H;exact n0 (qq z ⟨n,u,y,rfl⟩)
 refine W.skip ?_;cases H;exact n0 (qq U ⟨G,x,h.m,rfl⟩)
def ly (sg:Sto) (p0:Option Nat) (p1:Int):Option (Sto):=
 (bS sg p0).bind fun a=>
 (ig sg p0 p1 a).bind fun b=>
 some b
theorem xe (l:Own c0 G F) (f:Rel c0 sg G) (hG:Gl [2,4] c0) (a:Option Nat) (b:Int){r:Sto}(j:Pt 0 c0 v1 a) (H:ly sg a b=some r): Calls prog 243 #[v1,I b] c0.w (aR c0 fun c v=>∃G_:Gm,Own c G_ (F)/\Rel c r G_/\v= .tuple #[]):=by
 unfold ly at H;refine en func243 rfl rfl (W.region (va (v1) (va (I b) (va (v1) (bn H fun k o H=>cl (cK l f a j o) ?_)))));rintro v9 s t ⟨n,rfl⟩;refine bn H fun q i H=>cl (mZ n f.m (hG.m.le (by decide)) a b k j.m i) ?_;rintro v16 h p ⟨d,e,g,rfl⟩;refine WL.nil ?_;cases H;exact n0 (qq h ⟨d,e,g,rfl⟩)
def mc (sg:Sto) (p0:Option Nat) (p1:Int):Option (Sto):=
 (bS sg p0).bind fun a=>
 (gq p1 (-1) a).bind fun b=>
 (ig sg p0 0 (w64 (b+1))).bind fun c=>
 some c
theorem yx (p:Own c0 G F) (h:Rel c0 sg G) (hG:Gl [2,4] c0) (a:Option Nat) (b:Int){r:Sto}(n:Pt 0 c0 v1 a) (H:mc sg a b=some r): Calls prog 244 #[v1,I b] c0.w (aR c0 fun c v=>∃G_:Gm,Own c G_ (F)/\Rel c r G_/\v= .tuple #[]):=by
 unfold mc at H;refine en func244 rfl rfl (W.region (va (v1) (va (I b) (va (v1) (bn H fun o s H=>cl (cK p h a n s) ?_)))));rintro v9 z A ⟨q,rfl⟩;refine bn H fun d k H=>cl (mq q b (-1) o k) ?_;rintro v16 t u ⟨f,rfl⟩;refine va (I (w64 (d+1))) (bn H fun y l H=>cl (mZ f h.m (hG.m.le (by decide)) a 0 (w64 (d+1)) n.m l) ?_);rintro v23 j x ⟨e,g,i,rfl⟩;refine WL.nil ?_;cases H;exact n0 (qq j ⟨e,g,i,rfl⟩)
def kH (sg:Sto) (p0:Option Nat):Option (Sto):=
 (bS sg p0).bind fun a=>
 (ig sg p0 0 a).bind fun b=>
 (fv b p0 false).bind fun c=>
 some c
theorem vj (o:Own c0 G F) (g:Rel c0 sg G) (hG:Gl [2,4] c0) (a:Option Nat){r:Sto}(b:Pt 0 c0 v1 a) (H:kH sg a=some r): Calls prog 245 #[v1] c0.w (aR c0 fun c v=>∃G_:Gm,Own c G_ (F)/\Rel c r G_/\v= .tuple #[]):=by
 unfold kH at H;refine en func245 rfl rfl (sr (vv (v1) (bn H fun n q H=>cl (cK o g a b q) ?_)));rintro v9 A D ⟨p,rfl⟩;refine bn H fun y k H=>cl (mZ p g.m (hG.m.le (by decide)) a 0 n b.m k) ?_;rintro v16 t u ⟨s,e,h,rfl⟩;refine wln (W.region (va (v1) (bn H fun z l H=>cl (mo e h a false b.m l) ?_)));rintro v23 j x ⟨d,f,i,rfl⟩;refine WL.nil ?_;cases H;exact n0 (qq j ⟨d,f,i,rfl⟩)
def cY (p0:List ab) (p1:Bool) (p2:Int) (p3:Int):Option ((List ab)×Bool):=
 if (decide ((aE 0 (aB p2 (p0.length:Int)))>=(aE 0 (aB p3 (p0.length:Int)))))=true then
 some (p0,p1)
 else
 (rep (w64 ((aE 0 (aB p3 (p0.length:Int)))-(aE 0 (aB p2 (p0.length:Int))))) (⟨0,([]:List Int)⟩:ab)).bind fun b=>
 (eB p0 p1 (aE 0 (aB p2 (p0.length:Int))) b).bind fun a=>
 some (a.1,a.2)
theorem fR (k:Own c0 G F) (a:List ab) (e:Bool) (b:Int) (d:Int){r:(List ab)×Bool}(g:Sl ah c0 v1 a) (H:cY a e b d=some r): Calls prog 260 #[v1,B e,I b,I d] c0.w (aR c0 fun c v=>∃M,Own c G (F)/\v= .tuple #[M,B r.2]/\Sl ah c M r.1):=by
 unfold cY at H;refine en func260 rfl rfl (sr (va (Y) (va (B false) (wln (sr (va (I b) (va (v1) (vx (ln 3 cy g) (va (I (aB b (a.length:Int))) (vv (I (aE 0 (aB b (a.length:Int)))) (wln (sr (va (I d) (va (v1) (vx (ln 3 cy g) (va (I (aB d (a.length:Int))) (vv (I (aE 0 (aB d (a.length:Int)))) (wln (W.seq (sr (va (I (aE 0 (aB b (a.length:Int)))) (va (I (aE 0 (aB d (a.length:Int)))) (va (B (decide ((aE 0 (aB b (a.length:Int)))>=(aE 0 (aB d (a.length:Int)))))) (wln (cn H (fun P H=>?_) (fun P H=>?_))))))))))))))))))))))))))
 ·refine sr (va (v1) (va (B e) (va (v1) (va (B e) (wln (W.ret (thr ?_)))))));cases H;exact r2 (qq c0 ⟨v1,k,rfl,g⟩)
 refine W.skip (nrm (sr (va (v1) (va (B e) (va (I (aE 0 (aB b (a.length:Int)))) (va (I (aE 0 (aB d (a.length:Int)))) (va (I (aE 0 (aB b (a.length:Int)))) (va (I (w64 ((aE 0 (aB d (a.length:Int)))-(aE 0 (aB b (a.length:Int)))))) (bn H fun h E H=>me (Own.mkS (kl:= .i64) (kc:= .i64) (R:=ah) (z:= .agg #[I 0,Y]) (lz:=[I 0,Y]) (x:=(⟨0,([]:List Int)⟩:ab)) (by_:=32) (i:=(w64 ((aE 0 (aB d (a.length:Int)))-(aE 0 (aB b (a.length:Int)))))) (j:=(w64 ((aE 0 (aB d (a.length:Int)))-(aE 0 (aB b (a.length:Int)))))) true k (aN _) E (pG _) (sW E) cy (by kernel_rfl) rfl rfl (fun _=>⟨(Y),rfl,(Sl.nl _ _)⟩) (by kernel_rfl) (by kernel_rfl)) ?_)))))))));rintro v9 c8 l8 ⟨u6,N,S⟩;obtain ⟨T,t,X,l,s⟩:=N.frz 0 rfl S;refine WL.gh t (bn H fun f u H=>cl (mH l a e (aE 0 (aB b (a.length:Int))) h g.m s u) ?_);rintro v23 U Z ⟨v15,b0,n,rfl,y⟩;refine va (v15) (va (B f.2) (va (v15) (va (B f.2) (wln (W.ret ?_)))));cases H;obtain ⟨q,D,a0,o,A⟩:=n.frz 0 rfl y;have p:=o.sD 2 [];exact A1 D (r2 (qq q ⟨v15,p,rfl,A⟩))
def gR (p0:List ab) (p1:Bool) (p2:Int) (p3:Int) (p4:Int):Option ((List ab)×Bool):=
 if (p2==0)=true then
 (cY p0 p1 p3 p4).bind fun b=>
 some (b.1,b.2)
 else
 if (p2==1)=true then
 if (decide (p3<0))=true then
 some (p0,p1)
 else
 (cY p0 p1 0 (w64 ((aB p3 (p0.length:Int))+1))).bind fun c=>
 some (c.1,c.2)
 else
 if (p2==2)=true then
 (cY p0 p1 p3 (p0.length:Int)).bind fun d=>
 some (d.1,d.2)
 else
 if (p2==3)=true then
 (cY p0 p1 0 (p0.length:Int)).bind fun g=>
 some (g.1,false)
 else
 (orE (decide (p3<0)) (some (decide (p4<1)))).bind fun e=>
 (orE e (some (decide (p3>=(p0.length:Int))))).bind fun f=>
 if f=true then
 some (p0,p1)
 else
 (cY p0 p1 p3 (w64 (p3+(aB p4 (p0.length:Int))))).bind fun a=>
 some (a.1,a.2)
theorem sq (g:Own c0 G F) (a:List ab) (d:Bool) (f:Int) (b:Int) (e:Int){r:(List ab)×Bool}(h:Sl ah c0 v1 a) (H:gR a d f b e=some r): Calls prog 207 #[v1,B d,I f,I b,I e] c0.w (aR c0 fun c v=>∃y1,Own c G (F)/\v= .tuple #[y1,B r.2]/\Sl ah c y1 r.1):=by
 unfold gR at H;refine en func207 rfl rfl (sr (va (Y) (va (B false) (wln (sr (va (v1) (vx (ln 3 cy h) (va (I (a.length:Int)) (wln (W.seq (sr (va (I f) (wln (W.block (sr (vv (B (f==0)) (wln (cn H (fun h3 H=>?_) (fun h3 H=>?_)))))))))))))))))))
 ·refine sr (va (v1) (va (B d) (va (I b) (va (I e) (bn H fun p h4 H=>cl (fR g a d b e h h4) ?_)))));rintro v12 P x0 ⟨v5,O8,rfl,h6⟩;refine va (v5) (va (B p.2) (va (v5) (va (B p.2) (wln (W.ret (bkr (thr ?_)))))));cases H;exact r2 (qq P ⟨v5,O8,rfl,h6⟩)
 refine sr (vv (B (f==1)) (wln (cn H (fun Z H=>?_) (fun Z H=>?_))))
 ·refine W.seq (sr (va (I b) (va (B (decide (b<0))) (wln (cn H (fun a0 H=>?_) (fun a0 H=>?_))))))
  ·refine sr (va (v1) (va (B d) (va (v1) (va (B d) (wln (W.ret (thr (bkr (thr ?_)))))))));cases H;exact r2 (qq c0 ⟨v1,g,rfl,h⟩)
  refine W.skip (nrm (sr (va (v1) (va (B d) (va (I b) (va (I (a.length:Int)) (va (I (aB b (a.length:Int))) (va (I (w64 ((aB b (a.length:Int))+1))) (bn H fun q b0 H=>cl (fR g a d 0 (w64 ((aB b (a.length:Int))+1)) h b0) ?_)))))))));rintro v23 R y0 ⟨v16,D,rfl,d0⟩;refine va (v16) (va (B q.2) (va (v16) (va (B q.2) (wln (W.ret (bkr (thr ?_)))))));cases H;exact r2 (qq R ⟨v16,D,rfl,d0⟩)
 refine sr (vv (B (f==2)) (wln (cn H (fun e0 H=>?_) (fun e0 H=>?_))))
 ·refine sr (va (v1) (va (B d) (va (I b) (va (I (a.length:Int)) (bn H fun s f0 H=>cl (fR g a d b (a.length:Int) h f0) ?_)))));rintro v33 S z0 ⟨v26,E,rfl,g0⟩;refine va (v26) (va (B s.2) (va (v26) (va (B s.2) (wln (W.ret (bkr (thr ?_)))))));cases H;exact r2 (qq S ⟨v26,E,rfl,g0⟩)
 refine sr (vv (B (f==3)) (wln (cn H (fun h0 H=>?_) (fun h0 H=>?_))))
 ·refine sr (va (v1) (va (B d) (va (I (a.length:Int)) (bn H fun k i0 H=>cl (fR g a d 0 (a.length:Int) h i0) ?_))));rintro v43 T a1 ⟨v36,M,rfl,j0⟩;refine va (.tuple #[v36,B k.2]) (va (v36) (va (B k.2) (va (v36) (va (B k.2) (wln (sr (vv (v36) (va (B false) (wln (W.ret (bkr (thr ?_))))))))))));cases H;exact r2 (qq T ⟨v36,M,rfl,j0⟩)
 refine W.skip (bkn (nrm (W.seq (W.seq (bn H fun s0 u H=>bn H fun y o H=>W.join (Jn c0 fun c l=>Own c G (F)/\l= [(0,v1),(1,B d),(3,I b),(4,I e),(12,I (a.length:Int)),(71,B y)]) ?_ ?_)))))
 ·clear H;refine W.region (va (I b) (va (B (decide (b<0))) ?_));rcases bo (decide (b<0)) with i|i
  ·obtain rfl:=orT i u;refine vb i (pz (va (B true) ?_));have x:true=true:=rfl;obtain rfl:=orT x o;exact vb x (pz (ps (va (B true) (wln (jn c0 ⟨g,rfl⟩)))))
  have z:=orF i u;refine vb i (wa (I e) (wa (B (decide (e<1))) ?_));cases z;refine va (B (decide (e<1))) ?_;rcases bo (decide (e<1)) with j|j
  ·obtain rfl:=orT j o;exact vb j (pz (ps (va (B true) (wln (jn c0 ⟨g,rfl⟩)))))
  have A:=orF j o;refine vb j (wa (I b) (wa (I (a.length:Int)) (wa (B (decide (b>=(a.length:Int)))) ?_)));cases A;exact va (B (decide (b>=(a.length:Int)))) (wln (jn c0 ⟨g,rfl⟩))
 rintro e_ w_ ⟨U,w0,_,rfl,b1,rfl,t,rfl⟩;refine nrm (cn H (fun k0 H=>?_) (fun k0 H=>?_))
 ·refine sr (va (v1) (va (B d) (va (v1) (va (B d) (wln (W.ret (thr ?_)))))));cases H;exact r2 (qq U ⟨v1,t,rfl,h.m⟩)
 refine W.skip (nrm (sr (va (v1) (va (B d) (vv (I b) (va (I e) (va (I (a.length:Int)) (va (I (aB e (a.length:Int))) (va (I (w64 (b+(aB e (a.length:Int))))) (bn H fun n l0 H=>cl (fR t a d b (w64 (b+(aB e (a.length:Int)))) h.m l0) ?_))))))))));rintro d1 X c1 ⟨v59,N,rfl,m0⟩;refine va (v59) (va (B n.2) (va (v59) (va (B n.2) (wln (W.ret ?_)))));cases H;exact r2 (qq X ⟨v59,N,rfl,m0⟩)
end Go.Proofs.YtclmdpamofdoiaaGreatDoor
