/- Parts of the proofs of PlayFirst: the walk through the code, and plain Lean. No condition. -/
import Derived.Test.YtclmdpamofdoiaaGreatDoorPfA
import Derived.Test.YtclmdpamofdoiaaGreatDoorProg
import Derived.Shelf.Spec.SlicesInsertGrow
import Derived.Shelf.Slices.Delete
set_option linter.unusedVariables false
set_option linter.unusedSimpArgs false
namespace Go.Proofs.YtclmdpamofdoiaaGreatDoor
open Go Go.Lt
set_option maxRecDepth 10000
set_option linter.unusedVariables false
attribute [local irreducible] W WL AC
open Tryz
variable {c0:Cx} {G:Gm} {F:List En} {sg:Sto} {v1 v2 v3 v4 v5 v6 v7 v8 v9 v10 v11 v12 v13 v14 v15 v16 v17 v18 v19 v20 v21 v22 v23 v24 v25 v26 v27 v28 v29 v30 v31 v32 v33 v34 v35 v36 v37 v38 v39 v40 v41 v42 v43 v44 v45 v46 v47 v48 v49 v50 v51 v52 v53 v54 v55 v56 v57 v58 v59 v60:Value}
def eZ (p0:Int):Option (Bool):=
 (bV (decide (p0≥0)) (some (decide (p0 < 55296)))).bind fun b=>
 (orE b ((bV (decide (p0 > 57343)) (some (decide (p0≤1114111)))).bind fun a=>
 some a)).bind fun c=>
 some c
theorem nt (e:Own c0 G F) (a:Int) {r:Bool} (H:eZ a=some r): Calls prog 110 #[J a] c0.w (aO c0 fun c v=>Own c G (F)∧v=B r):=by
 unfold eZ at H;refine en func110 rfl rfl (sr (va (B false) (wln (W.seq (bn H fun z t H=>bn H fun s n H=>W.join (Jn c0 fun c l=>Own c G (F)∧l= [(2,B s)]) ?_ ?_)))))
 ·clear H;refine W.region (va (J a) (va (B (decide (a≥0))) ?_));rcases bo (decide (a≥0)) with f | f
  ·have x:=anT f t;refine vb f (wa (J a) (wa (B (decide (a < 55296))) ?_));obtain rfl:=si x;refine va (B (decide (a < 55296))) ?_;rcases bo (decide (a < 55296)) with g | g
   ·obtain rfl:=orT g n;exact vb g (pz (pz (pz (vv (B true) (wln (jn c0 ⟨e,rfl⟩))))))
   have i:=orF g n;refine vb g (wa (J a) (wa (B (decide (a > 57343))) (wn (bn i fun m u i=>?_))));rcases bo (decide (a > 57343)) with h | h
   ·have y:=anT h u;refine vb h (wa (J a) (wa (B (decide (a≤1114111))) (wn ?_)));obtain rfl:=si y;refine va (B (decide (a≤1114111))) ?_;obtain rfl:=si i;exact vv (B (decide (a≤1114111))) (wln (jn c0 ⟨e,rfl⟩))
   obtain rfl:=anF h u;refine vb h (pz (wa (B false) ?_));obtain rfl:=si i;exact vv (B false) (wln (jn c0 ⟨e,rfl⟩))
  obtain rfl:=anF f t;refine vb f (pz (va (B false) ?_));have j:false=false:=rfl;have d:=orF j n;refine vb j (wa (J a) (wa (B (decide (a > 57343))) (wn (bn d fun m k d=>?_))));rcases bo (decide (a > 57343)) with b | b
  ·have o:=anT b k;refine vb b (wa (J a) (wa (B (decide (a≤1114111))) (wn ?_)));obtain rfl:=si o;refine va (B (decide (a≤1114111))) ?_;obtain rfl:=si d;exact vv (B (decide (a≤1114111))) (wln (jn c0 ⟨e,rfl⟩))
  obtain rfl:=anF b k;refine vb b (pz (wa (B false) ?_));obtain rfl:=si d;exact vv (B false) (wln (jn c0 ⟨e,rfl⟩))
 rintro E M ⟨q,A,_,rfl,D,rfl,p,rfl⟩;refine nrm (W.ret ?_);obtain rfl:=si H;exact r1 (qq q ⟨p,rfl⟩)
def cQ (p0:Int):Option (Bool):=
 (bV (decide (p0≥0)) (some (decide (p0≤1114111)))).bind fun b=>
 (bV b ((orE (decide (p0 < 55296)) (some (decide (p0 > 57343)))).bind fun a=>
 some a)).bind fun c=>
 some c
theorem mo (g:Own c0 G F) (a:Int) {r:Bool} (H:cQ a=some r): Calls prog 26 #[J a] c0.w (aO c0 fun c v=>Own c G (F)∧v=B r):=by
 unfold cQ at H;refine en func26 rfl rfl (sr (va (B false) (wln (W.seq (bn H fun t n H=>bn H fun m i H=>W.join (Jn c0 fun c l=>Own c G (F)∧l= [(2,B m)]) ?_ ?_)))))
 ·clear H;refine W.region (va (J a) (va (B (decide (a≥0))) ?_));rcases bo (decide (a≥0)) with b | b
  ·have p:=anT b n;refine vb b (wa (J a) (wa (B (decide (a≤1114111))) ?_));obtain rfl:=si p;refine va (B (decide (a≤1114111))) ?_;rcases bo (decide (a≤1114111)) with d | d
   ·have f:=anT d i;refine vb d (wa (J a) (wa (B (decide (a < 55296))) (wn (bn f fun s o f=>?_))));rcases bo (decide (a < 55296)) with e | e
    ·obtain rfl:=orT e o;refine vb e (pz (wa (B true) ?_));obtain rfl:=si f;exact vv (B true) (wln (jn c0 ⟨g,rfl⟩))
    have q:=orF e o;refine vb e (wa (J a) (wa (B (decide (a > 57343))) (wn ?_)));obtain rfl:=si q;refine va (B (decide (a > 57343))) ?_;obtain rfl:=si f;exact vv (B (decide (a > 57343))) (wln (jn c0 ⟨g,rfl⟩))
   obtain rfl:=anF d i;exact vb d (pz (pz (pz (vv (B false) (wln (jn c0 ⟨g,rfl⟩))))))
  obtain rfl:=anF b n;refine vb b (pz (va (B false) ?_));have h:false=false:=rfl;obtain rfl:=anF h i;exact vb h (pz (pz (pz (vv (B false) (wln (jn c0 ⟨g,rfl⟩))))))
 rintro y z ⟨k,u,_,rfl,x,rfl,j,rfl⟩;refine nrm (W.ret ?_);obtain rfl:=si H;exact r1 (qq k ⟨j,rfl⟩)
def iu (p0:ab):Option (Bool):=
 (orE (p0.Kind==0) (some (p0.Kind==3))).bind fun h=>
 if h=true then
 some ((p0.Text.length:Int)==0)
 else
 (bV (p0.Kind != 1) (some (p0.Kind != 2))).bind fun c=>
 (orE c (some (decide ((p0.Text.length:Int) < 1)))).bind fun d=>
 (orE d (some (decide ((p0.Text.length:Int) > 16)))).bind fun e=>
 if e=true then
 some false
 else
 (cM (σ:=Int) (τ:=Bool ⊕ Unit) (((p0.Text.length:Int) - 0).toNat+1) (fun b=>
 if (decide (b < (p0.Text.length:Int)))=true then
 (idx p0.Text b).bind fun f=>
 (cQ f).bind fun g=>
 if (!g)=true then
 some (.inr (.inl false))
 else
 some (.inl ((w64 (b+1))))
 else
 some (.inr (.inr ()))) (0)).bind fun a=>
 match a with
 | .inl a=>
 some a
 | .inr a=>
 some true
def eO (p0:List ab) (p1:Int):Option (Int):=
 (orE (decide (p1 < 0)) (some (decide (p1≥(p0.length:Int))))).bind fun b=>
 if b=true then
 some 0
 else
 (idx p0 p1).bind fun a=>
 some a.Kind
def mi (p0:List ab):Option (Bool):=
 (cM (σ:=Int) (τ:=Bool ⊕ Unit) (((p0.length:Int) - 0).toNat+1) (fun a=>
 if (decide (a < (p0.length:Int)))=true then
 (idx p0 a).bind fun g=>
 (iu g).bind fun h=>
 (orE (!h) ((idx p0 a).bind fun i=>
 (bV (i.Kind==2) ((eO p0 (w64 (a+1))).bind fun j=>
 some (j != 3))).bind fun d=>
 some d)).bind fun c=>
 (orE c ((idx p0 a).bind fun k=>
 (bV (k.Kind==3) ((eO p0 (w64 (a - 1))).bind fun l=>
 some (l != 2))).bind fun f=>
 some f)).bind fun e=>
 if e=true then
 some (.inr (.inl false))
 else
 some (.inl ((w64 (a+1))))
 else
 some (.inr (.inr ()))) (0)).bind fun b=>
 match b with
 | .inl b=>
 some b
 | .inr b=>
 some true
def gZ (p0:Int) (p1:List Int):Option (List ab):=
 (cM (σ:=(List Int)×Int) (τ:=(List Int)) (((p1.length:Int) - 0).toNat+1) (fun a=>
 (bV (decide (a.2 < (p1.length:Int))) (some (decide (a.2 < 16)))).bind fun c=>
 if c=true then
 ((idx p1 a.2).bind fun e=>
 (cQ e).bind fun f=>
 if f=true then
 (idx p1 a.2).bind fun g=>
 (app a.1 ([g]:List Int)).bind fun h=>
 some (h)
 else
 (app a.1 ([65533]:List Int)).bind fun i=>
 some (i)).bind fun j=>
 some (.inl (j,(w64 (a.2+1))))
 else
 some (.inr (a.1))) (([]:List Int),0)).bind fun b=>
 (bV ((b.length:Int)==0) (some (decide (p0 > 1)))).bind fun d=>
 if d=true then
 some ([(⟨0,([]:List Int)⟩:ab),(⟨0,([]:List Int)⟩:ab)]:List ab)
 else
 if ((b.length:Int)==0)=true then
 some ([(⟨0,([]:List Int)⟩:ab)]:List ab)
 else
 if (decide (p0 > 1))=true then
 some ([(⟨2,b⟩:ab),(⟨3,([]:List Int)⟩:ab)]:List ab)
 else
 some ([(⟨1,b⟩:ab)]:List ab)
theorem rX (O0:Own c0 G F) (f:Int) (X:List Int) {r:List ab} (A:Sl (RI .i32) c0 v1 X) (H:gZ f X=some r): Calls prog 198 #[I f,v1] c0.w (aO c0 fun c v=>∃y1 y2,Own c G (es true ag y1 114 y2 r :: F)∧v=y1∧OA ag c y1 y2 r):=by
 unfold gZ at H;refine en func198 rfl rfl (sr (va (Y) (wln (sr (va (Y) (wln (W.seq (sr (va (I 0) (wln (W.block (bn H fun h h3 d=>lp h3 (fun a=>Jn c0 fun c l=>∃v5 E,Own c G (es true (RI .i32) v5 21 E a.1 :: F)∧l= [(0,I f),(1,v1),(5,v5),(6,I a.2)]∧OA (RI .i32) c v5 E a.1) (fun D ex e w=>ex= .exit 0∧(Jn c0 fun c l=>∃v7 Z,Own c G (es true (RI .i32) v7 21 Z D :: F)∧l= [(0,I f),(5,v7)]∧OA (RI .i32) c v7 Z D) e w) ?_ ?_ ?_))))))))))))
 ·clear d h3;intro a l5 x2 z3 H;revert x2 z3;rintro U w_ ⟨c9,v4,_,rfl,l9,rfl,v5,E,b0,rfl,z⟩;refine W.seq (W.seq (bn H fun f1 h0 H=>W.join (Jn c9 fun c l=>Own c G (es true (RI .i32) v5 21 E a.1 :: F)∧l= [(0,I f),(1,v1),(5,v5),(6,I a.2),(15,B f1)]) ?_ ?_))
  ·clear H;refine W.region (va (I a.2) (va (v1) (vx (ln 3 dS A.m) (va (B (decide (a.2 < (X.length:Int)))) ?_))));rcases bo (decide (a.2 < (X.length:Int))) with i | i
   ·have f2:=anT i h0;refine vb i (wa (I a.2) (wa (B (decide (a.2 < 16))) ?_));obtain rfl:=si f2;exact va (B (decide (a.2 < 16))) (wln (jn c9 ⟨b0,rfl⟩))
   obtain rfl:=anF i h0;exact vb i (pz (va (B false) (wln (jn c9 ⟨b0,rfl⟩))))
  rintro U w_ ⟨g0,w4,_,rfl,l0,rfl,d0,rfl⟩;refine nrm (cn H (fun z2 H=>?_) (fun z2 H=>?_))
  ·refine W.skip (nrm (bn H fun T b g2=>W.seqJ (Jn g0 fun c l=>∃v28 x,Own c G (es true (RI .i32) v28 21 x T :: F)∧l= [(0,I f),(1,v1),(5,v28),(6,I a.2)]∧OA (RI .i32) c v28 x T) ?_ ?_))
   ·refine W.block (sr (va (v1) (va (I a.2) (bn b fun d2 i0 b=>?_))));obtain ⟨k4,b3,v3⟩:=Sl.at (A.mono (l9.trans l0)) (aX i0);obtain rfl:=b3;refine vx (ix dS A.m i0) (vx (l1 nc (v3 0 _ rfl)) (bn b fun m4 c3 b=>cl (mo d0 d2 c3) ?_));rintro v40 p4 t3 ⟨e0,rfl⟩;refine wln (cn b (fun d3 b=>?_) (fun d3 b=>?_))
    ·refine W.region (va (v5) (va (v1) (va (I a.2) (bn b fun S j0 b=>?_))));obtain ⟨l4,e3,w3⟩:=Sl.at (A.mono (l9.trans (l0.trans t3))) (aX j0);obtain rfl:=e3;refine vx (ix dS A.m j0) (vx (l1 nc (w3 0 _ rfl)) (me (sl (RI .i32) 21 [[J S]] ([S]:List Int) e0 ⟨rfl,trivial⟩) ?_));rintro v50 q4 a5 ⟨i5,j2,f3⟩;obtain ⟨r4,i3,b5,k2,g3⟩:=j2.frz 0 rfl f3;refine WL.gh i3 (bn b fun n4 j3 b=>me (ap (RI .i32) (J 0) 4 32 1 k2 z.m g3 j3 dS) ?_);rintro v60 u2 c5 ⟨x3,l2,k3⟩;refine va (v60) (WL.nil (bkn (nrm ?_)));obtain rfl:=si b;have m2:=l2.sD 2 [1];exact jn u2 ⟨v60,x3,m2,rfl,k3⟩
    refine W.region (va (v5) (me (sl (RI .i32) 21 [[J 65533]] ([65533]:List Int) e0 ⟨rfl,trivial⟩) ?_));rintro k5 s4 d5 ⟨j5,n2,l3⟩;obtain ⟨t4,n3,e5,o2,m3⟩:=n2.frz 0 rfl l3;refine WL.gh n3 (bn b fun o4 o3 b=>me (ap (RI .i32) (J 0) 4 32 1 o2 z.m m3 o3 dS) ?_);rintro m0 v2 f5 ⟨y3,p2,p3⟩;refine va (m0) (WL.nil (bkn (nrm ?_)));obtain rfl:=si b;have q2:=p2.sD 2 [1];exact jn v2 ⟨m0,y3,q2,rfl,p3⟩
   rintro U w_ ⟨w2,x4,_,rfl,g5,rfl,v28,x,s2,rfl,q3⟩;refine W.region (va (I a.2) (vv (I (w64 (a.2+1))) (WL.nil ?_)));obtain rfl:=si g2;exact ⟨_,rfl,jn w2 ⟨v28,x,s2,rfl,q3⟩⟩
  refine W.exit (thx ?_);obtain rfl:=si H;exact ⟨_,rfl,rfl,jn g0 ⟨v5,E,d0,rfl,z.m⟩⟩
 ·have s3:OA (RI .i32) c0 (Y) [] []:=OA.nil (aM _);have t2:=O0.addHole (e:=es true (RI .i32) (Y) 21 [] ([]:List Int)) rfl;exact jn c0 ⟨(Y),[],t2,rfl,s3⟩
 rintro _ U w_ ⟨rfl,y,y4,_,rfl,h5,rfl,v7,Z,f0,rfl,g⟩;refine bke (nrm (sr (va (I f) (vv (B (decide (f > 1))) (wln (W.seq (W.seq (bn d fun g1 k0 d=>W.join (Jn y fun c l=>Own c G (es true (RI .i32) v7 21 Z h :: F)∧l= [(5,v7),(7,B (decide (f > 1))),(40,B g1)]) ?_ ?_))))))))
 ·clear d;refine W.region (va (v7) (vx (lnO 3 dS g) (va (B ((h.length:Int)==0)) ?_)));rcases bo ((h.length:Int)==0) with j | j
  ·have i2:=anT j k0;refine vb j (wa (B (decide (f > 1))) ?_);obtain rfl:=si i2;exact va (B (decide (f > 1))) (wln (jn y ⟨f0,rfl⟩))
  obtain rfl:=anF j k0;exact vb j (ps (va (B false) (wln (jn y ⟨f0,rfl⟩))))
 rintro U w_ ⟨u4,z4,_,rfl,u,rfl,t,rfl⟩;refine nrm (cn d (fun h1 d=>?_) (fun h1 d=>?_))
 ·refine sr (vv (.agg #[I 0,Y]) (me (sl ag 114 [[I 0,Y],[I 0,Y]] ([(⟨0,([]:List Int)⟩:ab),(⟨0,([]:List Int)⟩:ab)]:List ab) t ⟨⟨(Y),rfl,(Sl.nl _ _)⟩,⟨(Y),rfl,(Sl.nl _ _)⟩,trivial⟩) ?_));rintro M a1 e4 ⟨x1,o0,i1⟩;refine va (M) (wln (W.ret (thr ?_)));obtain rfl:=si d;have q0:=o0.sD 2 [0];exact r1 (qq a1 ⟨M,x1,q0,rfl,i1⟩)
 refine W.skip (nrm (W.seq (sr (va (v7) (vx (lnO 3 dS g.m) (va (B ((h.length:Int)==0)) (wln (cn d (fun j1 d=>?_) (fun j1 d=>?_)))))))))
 ·refine sr (va (.agg #[I 0,Y]) (me (sl ag 114 [[I 0,Y]] ([(⟨0,([]:List Int)⟩:ab)]:List ab) t ⟨⟨(Y),rfl,(Sl.nl _ _)⟩,trivial⟩) ?_));rintro N b1 f4 ⟨z1,s0,k1⟩;refine va (N) (wln (W.ret (thr ?_)));obtain rfl:=si d;have t0:=s0.sD 2 [0];exact r1 (qq b1 ⟨N,z1,t0,rfl,k1⟩)
 refine W.skip (nrm (W.seq (sr (va (B (decide (f > 1))) (wln (cn d (fun m1 d=>?_) (fun m1 d=>?_)))))))
 ·refine sr (va (v7) ?_);obtain ⟨k,n,o,rfl⟩:=((g.mono u)).form;refine va (.agg #[I 2,.slice k n o]) (va (.agg #[I 3,Y]) ?_);obtain ⟨c4,q1,g4,u0,n1⟩:=t.frz 0 rfl (g.mono u);refine WL.gh q1 (me (sl ag 114 [[I 2,.slice k n o],[I 3,Y]] ([(⟨2,h⟩:ab),(⟨3,([]:List Int)⟩:ab)]:List ab) u0 ⟨⟨(.slice k n o),rfl,n1⟩,⟨(Y),rfl,(Sl.nl _ _)⟩,trivial⟩) ?_);rintro P c1 h4 ⟨b2,v0,s1⟩;refine va (P) (wln (W.ret (thr ?_)));obtain rfl:=si d;have w0:=v0.sD 2 [0];exact r1 (qq c1 ⟨P,b2,w0,rfl,s1⟩)
 refine W.skip (nrm (sr (va (v7) ?_)));obtain ⟨p,q,s,rfl⟩:=((g.mono u)).form;refine va (.agg #[I 1,.slice p q s]) ?_;obtain ⟨d4,u1,i4,x0,t1⟩:=t.frz 0 rfl (g.mono u);refine WL.gh u1 (me (sl ag 114 [[I 1,.slice p q s]] ([(⟨1,h⟩:ab)]:List ab) x0 ⟨⟨(.slice p q s),rfl,t1⟩,trivial⟩) ?_);rintro R d1 j4 ⟨c2,y0,w1⟩;refine va (R) (wln (W.ret ?_));obtain rfl:=si d;have z0:=y0.sD 2 [0];exact r1 (qq d1 ⟨R,c2,z0,rfl,w1⟩)
def ju (p0:Int):Option (Bool):=
 (eZ p0).bind fun a=>
 some (!a)
theorem vL (d:Own c0 G F) (a:Int) {r:Bool} (H:ju a=some r): Calls prog 316 #[J a] c0.w (aO c0 fun c v=>Own c G (F)∧v=B r):=by
 unfold ju at H;refine en func316 rfl rfl (sr (va (B false) (wln (sr (va (J a) (bn H fun b g H=>cl (nt d a g) ?_))))));rintro v7 f h ⟨e,rfl⟩;refine vv (B (!b)) (wln (W.ret ?_));obtain rfl:=si H;exact r1 (qq f ⟨e,rfl⟩)
def cH (p0:List Int):Option (Int):=
 (cM (σ:=Int) (τ:=Int ⊕ Unit) (((p0.length:Int) - 0).toNat+1) (fun b=>
 if (decide (b < (p0.length:Int)))=true then
 (idx p0 b).bind fun c=>
 (ju c).bind fun d=>
 if d=true then
 some (.inr (.inl b))
 else
 some (.inl ((w64 (b+1))))
 else
 some (.inr (.inr ()))) (0)).bind fun a=>
 match a with
 | .inl a=>
 some a
 | .inr a=>
 some (-1)
theorem jF (U:Own c0 G F) (d:List Int) {r:Int} (j:Sl (RI .i32) c0 v1 d) (H:cH d=some r): Calls prog 214 #[v1,.func (.func 316) #[] #[]] c0.w (aO c0 fun c v=>Own c G (F)∧v=I r):=by
 unfold cH at H;refine en func214 rfl rfl (sr (va (I 0) (wln (W.seq (sr (va (v1) (vx (ln 3 dS j) (va (I 0) (wln (W.block (bn H fun b N i=>lp N (fun a=>Jn c0 fun c l=>Own c G (F)∧l= [(0,v1),(1,.func (.func 316) #[] #[]),(7,I (d.length:Int)),(8,I a)]) (fun t=>match t with | .inl k=>(fun R ex e w=>ex= .ret∧(Jn c0 fun c l=>Own c G (F)∧l= [(4,I R)]) e w) k | .inr k=>(fun b0 ex e w=>ex= .exit 0∧(Jn c0 fun c l=>Own c G (F)∧l= []) e w) k) ?_ ?_ ?_)))))))))))
 ·clear i N;intro a j0 y T H;revert y T;rintro x S ⟨X,g6,_,rfl,Z,rfl,q,rfl⟩;refine sr (va (B (decide (a < (d.length:Int)))) (wln (W.seq (cn H (fun A H=>?_) (fun A H=>?_)))))
  ·refine W.skip (nrm (W.seq (W.block (sr (vv (I a) (wln (sr (va (.func (.func 316) #[] #[]) (va (v1) (va (I a) (bn H fun n h H=>?_)))))))))));obtain ⟨a0,D,P⟩:=Sl.at (j.mono Z) (aX h);obtain rfl:=D;refine vx (ix dS j.m h) (vx (l1 nc (P 0 _ rfl)) (bn H fun d0 E H=>cl (vL q n E) ?_));rintro v22 g g0 ⟨f,rfl⟩;refine wln (cn H (fun M H=>?_) (fun M H=>?_))
   ·refine sr (vv (I a) (wln (W.ret (bkr (thr ?_)))));obtain rfl:=si H;exact ⟨_,rfl,⟨rfl,jn g ⟨f,rfl⟩⟩⟩
   refine W.skip (bkn (nrm (W.region (vv (I (w64 (a+1))) (WL.nil ?_)))));obtain rfl:=si H;exact ⟨_,rfl,jn g ⟨f,rfl⟩⟩
  refine W.exit (thx ?_);obtain rfl:=si H;exact ⟨_,rfl,rfl,jn X ⟨q,rfl⟩⟩
 ·exact jn c0 ⟨U,rfl⟩
 rcases b with b | b
 ·intro z; revert z;rintro _ x S ⟨rfl,s,e0,_,rfl,h0,rfl,o,rfl⟩;refine bkr (thr ?_);obtain rfl:=si i;exact r1 (qq s ⟨o,rfl⟩)
 rintro _ x S ⟨rfl,u,f0,_,rfl,i0,rfl,p,rfl⟩;refine bke (nrm (sr (va (I (-1)) (wln (W.ret ?_)))));obtain rfl:=si i;exact r1 (qq u ⟨p,rfl⟩)
def bS (p0:List Int):Option (Bool):=
 (cH p0).bind fun a=>
 some (decide (a≥0))
theorem ji (d:Own c0 G F) (b:List Int) {r:Bool} (g:Sl (RI .i32) c0 v1 b) (H:bS b=some r): Calls prog 152 #[v1,.func (.func 316) #[] #[]] c0.w (aO c0 fun c v=>Own c G (F)∧v=B r):=by
 unfold bS at H;refine en func152 rfl rfl (sr (va (B false) (wln (sr (va (v1) (va (.func (.func 316) #[] #[]) (bn H fun a h H=>cl (jF d b g h) ?_)))))));rintro v9 f i ⟨e,rfl⟩;refine vv (B (decide (a≥0))) (wln (W.ret ?_));obtain rfl:=si H;exact r1 (qq f ⟨e,rfl⟩)
def kI (p0:ab):Option (Bool):=
 (if (p0.Kind==0)=true then
 some (p0.Kind==0)
 else
 some (p0.Kind==3)).bind fun e=>
 if e=true then
 some ((p0.Text.length:Int)==0)
 else
 (if (p0.Kind==1)=true then
 some (p0.Kind==1)
 else
 some (p0.Kind==2)).bind fun d=>
 if d=true then
 (bV (decide ((p0.Text.length:Int) > 0)) (some (decide ((p0.Text.length:Int)≤16)))).bind fun a=>
 (bV a ((bS p0.Text).bind fun c=>
 some (!c))).bind fun b=>
 some b
 else
 some false
theorem xE (O0:Own c0 G F) (a:ab) {r:Bool} (s:Sl (RI .i32) c0 v1 a.Text) (H:kI a=some r): Calls prog 303 #[.agg #[I a.Kind,v1]] c0.w (aO c0 fun c v=>Own c G (F)∧v=B r):=by
 unfold kI at H;refine en func303 rfl rfl (sr ?_);obtain ⟨a3,a4,a5,rfl⟩:=(s).form;refine me (bx 114 [I a.Kind,.slice a3 a4 a5] O0) ?_;rintro v10 z l9 ⟨i,rfl,P,u⟩;refine va (B false) (wln (W.seq (sr (va (Q i) (vx (l1 u_3 (u 0 _ rfl)) (wln (W.block (bn H fun e0 d e=>W.seqJ (Jn z fun c l=>Own c G (F)∧l= [(1,Q i),(4,I a.Kind),(5,B e0)]) ?_ ?_))))))))
 ·refine sr (vv (B (a.Kind==0)) (wln (cn d (fun U d=>?_) (fun U d=>?_))))
  ·refine W.skip (nrm ?_);obtain rfl:=si d;exact jn z ⟨P,rfl⟩
  refine W.region (vv (B (a.Kind==3)) (wln ?_));obtain rfl:=si d;exact jn z ⟨P,rfl⟩
 rintro T w_ ⟨n,k0,_,rfl,o0,rfl,q,rfl⟩;refine cn e (fun X e=>?_) (fun X e=>?_)
 ·refine sr (va (Qo i (0+1)) (vx (l1 dS ((mm u) 1 _ rfl)) (vx (ln 3 dS s.m) (vv (B ((a.Text.length:Int)==0)) (wln (W.ret (bkr (thr ?_))))))));obtain rfl:=si e;exact r1 (qq n ⟨q,rfl⟩)
 refine bn e fun D f b=>W.seqJ (Jn n fun c l=>Own c G (F)∧l= [(1,Q i),(12,B D)]) ?_ ?_
 ·refine sr (vv (B (a.Kind==1)) (wln (cn f (fun Z f=>?_) (fun Z f=>?_))))
  ·refine W.skip (nrm ?_);obtain rfl:=si f;exact jn n ⟨q,rfl⟩
  refine W.region (vv (B (a.Kind==2)) (wln ?_));obtain rfl:=si f;exact jn n ⟨q,rfl⟩
 rintro T w_ ⟨o,l0,_,rfl,q0,rfl,k,rfl⟩;refine cn b (fun a0 b=>?_) (fun a0 b=>?_)
 ·refine W.seq (bn b fun j0 x b=>bn b fun A t b=>W.join (Jn o fun c l=>Own c G (F)∧l= [(2,B A)]) ?_ ?_)
  ·clear b;refine W.region (va (Qo i (0+1)) (vx (l1 dS ((mm u) 1 _ rfl)) (vx (ln 3 dS s.m) (va (B (decide ((a.Text.length:Int) > 0))) ?_))));rcases bo (decide ((a.Text.length:Int) > 0)) with g | g
   ·have E:=anT g x;refine vb g (wa (Qo i (0+1)) (wn (vx (l1 dS ((mm u) 1 _ rfl)) (wn (vx (ln 3 dS s.m) (wa (B (decide ((a.Text.length:Int)≤16))) ?_))))));obtain rfl:=si E;refine va (B (decide ((a.Text.length:Int)≤16))) ?_;rcases bo (decide ((a.Text.length:Int)≤16)) with h | h
    ·have p:=anT h t;refine vb h (wa (Qo i (0+1)) (wn (vx (l1 dS ((mm u) 1 _ rfl)) (wn (bn p fun j b0 p=>cl (ji k a.Text s.m b0) ?_)))));rintro v43 R s0 ⟨M,rfl⟩;refine wa (B (!j)) ?_;obtain rfl:=si p;exact vv (B (!j)) (wln (jn R ⟨M,rfl⟩))
    obtain rfl:=anF h t;exact vb h (pz (pz (vv (B false) (wln (jn o ⟨k,rfl⟩)))))
   obtain rfl:=anF g x;refine vb g (pz (pz (va (B false) ?_)));have y:false=false:=rfl;obtain rfl:=anF y t;exact vb y (pz (pz (vv (B false) (wln (jn o ⟨k,rfl⟩)))))
  rintro T w_ ⟨S,m0,_,rfl,t0,rfl,N,rfl⟩;refine nrm (W.ret (bkr (thr ?_)));obtain rfl:=si b;exact r1 (qq S ⟨N,rfl⟩)
 refine W.skip (bkn (nrm (sr (va (B false) (wln (W.ret ?_))))));obtain rfl:=si b;exact r1 (qq o ⟨k,rfl⟩)
def kH (p0:List ab):Option (Bool):=
 (cM (σ:=Bool×Int) (τ:=Bool ⊕ Bool) (((p0.length:Int) - 0).toNat+1) (fun b=>
 if (decide (b.2 < (p0.length:Int)))=true then
 (idx p0 b.2).bind fun c=>
 (kI c).bind fun e=>
 (orE (!e) (some (!(b.1==(c.Kind==3))))).bind fun d=>
 if d=true then
 some (.inr (.inl false))
 else
 some (.inl (c.Kind==2,(w64 (b.2+1))))
 else
 some (.inr (.inr (b.1)))) (false,0)).bind fun a=>
 match a with
 | .inl a=>
 some a
 | .inr a=>
 some (!a)
theorem tl (O0:Own c0 G F) (p:List ab) {r:Bool} (M:Sl ag c0 v1 p) (H:kH p=some r): Calls prog 281 #[v1] c0.w (aO c0 fun c v=>Own c G (F)∧v=B r):=by
 unfold kH at H;refine en func281 rfl rfl (sr (va (B false) (wln (sr (va (B false) (wln (W.seq (sr (va (v1) (vx (ln 3 cG M) (va (I 0) (wln (W.block (bn H fun d h3 A=>lp h3 (fun b=>Jn c0 fun c l=>Own c G (F)∧l= [(3,B b.1),(6,v1),(7,I (p.length:Int)),(8,I b.2)]) (fun t=>match t with | .inl R=>(fun s0 ex e w=>ex= .ret∧(Jn c0 fun c l=>Own c G (F)∧l= [(2,B s0)]) e w) R | .inr R=>(fun N ex e w=>ex= .exit 0∧(Jn c0 fun c l=>Own c G (F)∧l= [(3,B N)]) e w) R) ?_ ?_ ?_))))))))))))))
 ·clear A h3;intro b h1 g0 t0 H;revert g0 t0;rintro E P ⟨c5,g6,_,rfl,l5,rfl,O7,rfl⟩;refine sr (va (B (decide (b.2 < (p.length:Int)))) (wln (W.seq (cn H (fun i0 H=>?_) (fun i0 H=>?_)))))
  ·refine W.skip (nrm (W.seq (W.block (sr (bn H fun a y H=>?_)))));obtain ⟨x0,j0,q0⟩:=Sl.at (M.mono l5) (aX y);obtain ⟨v16,rfl,o⟩:=j0;refine vx (ix cG M.m y) (vx (lN 114 q0) (me (al 114 [I 0,Y] O7) ?_));rintro v21 y0 o0 ⟨g,rfl,T⟩;obtain ⟨j,k,n,rfl⟩:=((o.mono o0)).form;refine md (sA 114 [I a.Kind,.slice j k n] 0 T ⟨rfl,o.m.one,trivial⟩) ?_;rintro d0 c1 s;refine wln (W.seq (W.seq (bn H fun q k0 H=>bn H fun D z H=>W.join (Jn d0 fun c l=>Own c G ((Eb g 114 [I a.Kind,.slice j k n]) :: F)∧l= [(5,Q g),(6,v1),(7,I (p.length:Int)),(8,I b.2),(21,B D)]) ?_ ?_)))
   ·clear H;refine W.region (vx (leN 114 0 [I a.Kind,.slice j k n] (s.on 0 rfl)) (cl (xE s a o.m k0) ?_));rintro v34 u d1 ⟨h,rfl⟩;refine va (B (!q)) ?_;rcases bo (!q) with f | f
    ·obtain rfl:=orT f z;exact vb f (pz (pz (ps (va (B true) (wln (jn u ⟨h,rfl⟩))))))
    have S:=orF f z;refine vb f (wa (B b.1) (wa (Q g) (wn (vx (le1 0 u_3 (h.on 0 rfl)) (wa (B (a.Kind==3)) (wa (B (!(b.1==(a.Kind==3)))) ?_))))));obtain rfl:=si S;exact va (B (!(b.1==(a.Kind==3)))) (wln (jn u ⟨h,rfl⟩))
   rintro E P ⟨x,z0,_,rfl,e1,rfl,i,rfl⟩;refine nrm (cn H (fun m0 H=>?_) (fun m0 H=>?_))
   ·refine sr (va (B false) (wln (W.ret (thr (bkr (thr ?_))))));obtain rfl:=si H;refine ⟨_,rfl,⟨rfl,?_⟩⟩;have U:=i.sD 1 [];exact jn x ⟨U,rfl⟩
   refine W.skip (nrm (W.region (va (Q g) (vx (le1 0 u_3 (i.on 0 rfl)) (vv (B (a.Kind==2)) (WL.nil (bkn (nrm (W.region (vv (I (w64 (b.2+1))) (WL.nil ?_)))))))))));obtain rfl:=si H;refine ⟨_,rfl,?_⟩;have X:=i.sD 1 [];exact jn x ⟨X,rfl⟩
  refine W.exit (thx ?_);obtain rfl:=si H;exact ⟨_,rfl,rfl,jn c5 ⟨O7,rfl⟩⟩
 ·exact jn c0 ⟨O0,rfl⟩
 rcases d with d | d
 ·intro h0; revert h0;rintro _ E P ⟨rfl,e0,a1,_,rfl,f1,rfl,Z,rfl⟩;refine bkr (thr ?_);obtain rfl:=si A;exact r1 (qq e0 ⟨Z,rfl⟩)
 rintro _ E P ⟨rfl,f0,b1,_,rfl,g1,rfl,a0,rfl⟩;refine bke (nrm (sr (va (B d) (vv (B (!d)) (wln (W.ret ?_))))));obtain rfl:=si A;exact r1 (qq f0 ⟨a0,rfl⟩)
def ew (p0:Int):Option (List ab):=
 (rep (aE 0 (aB p0 1024)) (⟨0,([]:List Int)⟩:ab)).bind fun a=>
 some a
theorem jS (f:Own c0 G F) (a:Int) {r:List ab} (H:ew a=some r): Calls prog 187 #[I a] c0.w (aO c0 fun c v=>∃b e,Own c G (es true ag b 114 e r :: F)∧v=b∧OA ag c b e r):=by
 unfold ew at H;refine en func187 rfl rfl (sr (va (Y) (wln (sr (va (I a) (va (I (aB a 1024)) (va (I (aE 0 (aB a 1024))) (bn H fun m d H=>me (Own.mkS (kl:= .i64) (kc:= .i64) (R:=ag) (z:= .agg #[I 0,Y]) (lz:=[I 0,Y]) (x:=(⟨0,([]:List Int)⟩:ab)) (by_:=32) (i:=(aE 0 (aB a 1024))) (j:=(aE 0 (aB a 1024))) true f (aM _) d (oN _) (rR d) cG (by kernel_rfl) rfl rfl (fun _=>⟨(Y),rfl,(Sl.nl _ _)⟩) (by kernel_rfl) (by kernel_rfl)) ?_))))))));rintro v6 h n ⟨l,g,k⟩;refine va (v6) (wln (W.ret ?_));obtain rfl:=si H;exact r1 (qq h ⟨v6,l,g,rfl,k⟩)
def kF (sg:Sto) (p0:Int):Option (Sto×(Option Nat)):=
 (ew (aE 1 p0)).bind fun b=>
 (some (sg.add_row_Row (⟨b,false⟩:bf))).bind fun a=>
 some (a,(some sg.row_Row.length))
theorem tV (N:Own c0 G F) (R:Rel c0 sg G) (g:Int) {r:Sto×(Option Nat)} (H:kF sg g=some r): Calls prog 171 #[I g] c0.w (aO c0 fun c v=>∃M,∃G_:Gm,Own c G_ (F)∧Rel c r.1 G_∧eI G G_∧v=M∧Pt 0 c M r.2):=by
 unfold kF at H;refine en func171 rfl rfl (sr (va (.pointer none) (wln (sr (va (I g) (va (I (aE 1 g)) (bn H fun j S H=>cl (jS N (aE 1 g) S) ?_)))))));rintro v2 c9 T ⟨_,D,P,rfl,z⟩;obtain ⟨d,e,f,rfl⟩:=(z).form;refine va (.agg #[.slice d e f,B false]) (me (al 253 [.slice d e f,B false] P) ?_);rintro v17 U l16 ⟨a,rfl,l⟩;have m:=l.sD 2 [0,1];refine bn H fun A q H=>?_;obtain ⟨i,k,s,a0,t,n,h,X,u,o⟩:=Rel.new_row_Row (E:=[(Eb a 253 [.slice d e f,B false]),es true ag (.slice d e f) 114 D j]) (F:=F) (x:=(⟨j,false⟩:bf)) (b:=a) m (R.mono (T.trans l16)) (fun c_ hle_=>⟨a,(.slice d e f),D,rfl,rfl,((z.mono l16).mono hle_)⟩);rw [bm q] at h;refine WL.gh s.1 ?_;have Z:=eI.nil (eI.refl _) u;have p:=(eI.refl _).trans o;have y:Pt 0 i (Q a) (some sg.row_Row.length):=⟨a,rfl,t⟩;refine va (Q a) (wln (W.ret ?_));obtain rfl:=si H;exact r1 (qq i ⟨(Q a),k,n,h,p,rfl,y⟩)
def lB (p0:ab):Option (ab):=
 (gb p0.Text).bind fun a=>
 some (⟨p0.Kind,a⟩:ab)
theorem qV (E:Own c0 G F) (a:ab) {r:ab} (t:Sl (RI .i32) c0 v1 a.Text) (H:lB a=some r): Calls prog 195 #[.agg #[I a.Kind,v1]] c0.w (aO c0 fun c v=>∃i D,Own c G (es true (RI .i32) i 21 D r.Text :: F)∧v= .agg #[I r.Kind,i]∧OA (RI .i32) c i D r.Text):=by
 unfold lB at H;refine en func195 rfl rfl (sr ?_);obtain ⟨N,P,R,rfl⟩:=(t).form;refine me (bx 114 [I a.Kind,.slice N P R] E) ?_;rintro v10 c9 l9 ⟨o,rfl,M,x⟩;refine me (al 114 [I 0,Y] M) ?_;rintro v14 U X ⟨T,rfl,j⟩;refine wln (W.seq (rD [] (Kp G0 []) j ?_));intro p Z k;have d0:Kp G0 [] p:=Kp.nil0;refine ta 0 (Q o) (tx 1 (fun S u=>l1 u_3 ((mm x) 0 _ rfl)) (ta 2 (Qo o (0+1)) (tx 3 (fun S u=>l1 dS ((mm x) 1 _ rfl)) (bn H fun e0 s H=>o1 4 (gc 4 (vA k a.Text t.m s) ?_)))));rintro v19 q a0 ⟨_,A,l,rfl,g⟩;have y:Kp G0 [] q:=Kp.nil0;refine ⟨.inr y,?_⟩;obtain ⟨b,d,e,rfl⟩:=(g).form;refine ta 5 (.agg #[I a.Kind,.slice b d e]) (o1 6 (gD 6 (sA 114 [I a.Kind,.slice b d e] 1 l ⟨rfl,(g).one,trivial⟩) ?_));rintro f b0 h;have z:Kp G0 [] f:=Kp.nil0;refine ⟨.inr z,dn (nrm (W.ret ?_))⟩;obtain rfl:=si H;have n:=h.sD 2 [0];exact kE (c:=f) (vs:=[I a.Kind,.slice b d e]) rfl (by kernel_rfl) (by kernel_rfl) (by kernel_rfl) (h.on 1 rfl _ rfl).1 ⟨_,f,rfl,rfl,pt,(.slice b d e),A,n,rfl,g.m⟩
def qv (sg:Sto) (p0:List ab):Option (Sto×(Option Nat)×Er):=
 (orE ((p0.length:Int)==0) (some (decide ((p0.length:Int) > 1024)))).bind fun k=>
 if k=true then
 some (sg,(none:Option Nat),(Er.sent 2))
 else
 (kH p0).bind fun h=>
 if (!h)=true then
 some (sg,(none:Option Nat),(Er.sent 4))
 else
 (kF sg (p0.length:Int)).bind fun c=>
 (cM (σ:=Int×Sto) (τ:=Sto) (((p0.length:Int) - 0).toNat+1) (fun a=>
 if (decide (a.1 < (p0.length:Int)))=true then
 (idx p0 a.1).bind fun i=>
 (c.2).bind fun e=>
 (a.2.row_Row[e]?).bind fun b=>
 (lB i).bind fun j=>
 (idx b.cells a.1).bind fun l=>
 (oQ b.cells a.1 j).bind fun g=>
 (a.2.set_row_Row e (⟨g,b.wrap⟩:bf)).bind fun d=>
 some (.inl ((w64 (a.1+1)),d))
 else
 some (.inr (a.2))) (0,c.1)).bind fun f=>
 some (f,c.2,Er.nil)
theorem Dg (O0:Own c0 G F) (R0:Rel c0 sg G) (hG:Gl [2,4] c0) (d:List ab) {r:Sto×(Option Nat)×Er} (j:Sl ag c0 v1 d) (H:qv sg d=some r): Calls prog 237 #[v1] c0.w (aO c0 fun c v=>∃y1 y2,∃G_:Gm,Own c G_ (F)∧Rel c r.1 G_∧v= .tuple #[y1,y2]∧Pt 0 c y1 r.2.1∧RE 350 144 c y2 r.2.2):=by
 unfold qv at H;refine en func237 rfl rfl (sr (va (.pointer none) (va (.nilIface) (wln (W.seq (W.block (W.seq (bn H fun m2 h3 H=>W.join (Jn c0 fun c l=>Own c G (F)∧l= [(0,v1),(7,B m2)]) ?_ ?_))))))))
 ·clear H;refine W.region (va (v1) (vx (ln 3 cG j) (va (B ((d.length:Int)==0)) ?_)));rcases bo ((d.length:Int)==0) with M | M
  ·obtain rfl:=orT M h3;exact vb M (pz (ps (vv (B true) (wln (jn c0 ⟨O0,rfl⟩)))))
  have H5:=orF M h3;refine vb M (wa (v1) (wn (vx (ln 3 cG j) (wa (B (decide ((d.length:Int) > 1024))) ?_))));obtain rfl:=si H5;exact vv (B (decide ((d.length:Int) > 1024))) (wln (jn c0 ⟨O0,rfl⟩))
 rintro e_ w_ ⟨c6,g7,_,rfl,l6,rfl,O8,rfl⟩;refine nrm (cn H (fun p2 H=>?_) (fun p2 H=>?_))
 ·refine W.seq (rD [] (Kp G0 []) O8 ?_);intro g0 g3 w1;have j4:Kp G0 [] g0:=Kp.nil0;obtain ⟨v16,i0⟩:=(hG.mono (l6.trans g3)).get 2 (by decide);refine tx 0 (fun c' p=>l1 zl i0.m.im) (ta 1 (.pointer none) (ta 2 (v16) (dn (nrm (W.ret (bkr (thr ?_)))))));obtain rfl:=si H;exact r2 (qq g0 ⟨(.pointer none),v16,G,w1,R0.m,rfl,rfl,i0⟩)
 refine sr (va (v1) (bn H fun Z q2 H=>cl (tl O8 d j.m q2) ?_));rintro v24 e4 t0 ⟨e0,rfl⟩;refine vv (B (!Z)) (wln (cn H (fun s2 H=>?_) (fun s2 H=>?_)))
 ·refine W.seq (rD [] (Kp G0 []) e0 ?_);intro h0 i3 x1;have k4:Kp G0 [] h0:=Kp.nil0;obtain ⟨v29,j0⟩:=(hG.mono (l6.trans (t0.trans i3))).get 4 (by decide);refine tx 0 (fun c' p=>l1 zl j0.m.im) (ta 1 (.pointer none) (ta 2 (v29) (dn (nrm (W.ret (bkr (thr ?_)))))));obtain rfl:=si H;exact r2 (qq h0 ⟨(.pointer none),v29,G,x1,R0.m,rfl,rfl,j0⟩)
 refine W.skip (bkn (nrm (sr (va (v1) (vx (ln 3 cG j.m) (bn H fun b4 u2 H=>cl (tV e0 R0.m (d.length:Int) u2) ?_))))));rintro v32 E j3 ⟨_,t1,z1,g2,d4,rfl,k0⟩;refine va (v32) (wln (W.seq (sr (va (v1) (vx (ln 3 cG j.m) (va (I 0) (wln (W.block (bn H fun a4 l0 d0=>lp l0 (fun a=>Jn E fun c l=>∃G_,Own c G_ (F)∧l= [(4,v32),(25,v1),(26,I (d.length:Int)),(27,I a.1)]∧Rel c a.2 G_) (fun b0 ex e w=>ex= .exit 1∧(Jn E fun c l=>∃G_,Own c G_ (F)∧l= [(4,v32)]∧Rel c b0 G_) e w) ?_ ?_ ?_)))))))))
 ·clear d0 l0;intro a p4 o2 p3 H;revert o2 p3;rintro e_ w_ ⟨i2,i4,_,rfl,u0,rfl,i,f0,rfl,y⟩;refine sr (va (B (decide (a.1 < (d.length:Int)))) (wln (W.seq (cn H (fun v2 H=>?_) (fun v2 H=>?_)))))
  ·refine W.skip (nrm (W.seq (W.block (sr (va (I a.1) (bn H fun b m0 H=>?_))))));obtain ⟨z3,w2,l3⟩:=Sl.at (j.mono (l6.trans (t0.trans (j3.trans u0)))) (aX m0);obtain ⟨v53,rfl,N⟩:=w2;refine vx (ix cG j.m m0) (vx (lN 114 l3) (me (al 114 [I 0,Y] f0) ?_));rintro v58 f4 q ⟨n,rfl,b2⟩;refine va (I a.1) ?_;obtain ⟨f,g,h,rfl⟩:=((N.mono q)).form;refine md (sA 114 [I b.Kind,.slice f g h] 0 b2 ⟨rfl,N.m.one,trivial⟩) ?_;rintro g4 S c2;refine wln (rD [8] (Kp i [(Eb n 114 [I b.Kind,.slice f g h])]) c2 ?_);intro j2 U s;have w0:Kp i [(Eb n 114 [I b.Kind,.slice f g h])] j2:=(Kp.cons (s.on 0 rfl) (Kp.nil s));refine ta 0 (v32) (bn H fun x3 x2 H=>?_);obtain ⟨o,rfl,o0⟩:=((k0.mono (u0.trans (q.trans (S.trans U))))).get x2;refine ta 1 (Q o) (ta 2 (Q o) (bn H fun p1 z2 H=>?_));obtain ⟨X,l4,s0,q0⟩:=Rel.open_row_Row (y.mono (q.trans (S.trans U))) z2 o0;refine tkx 3 w0 (fun c' p hk=>le1 0 cG (hk.gon s0 0 rfl)) (ta 4 (I a.1) (tkx 5 w0 (fun c' p hk=>leN 114 0 [I b.Kind,.slice f g h] (hk.on 0 rfl)) (bn H fun k a3 H=>o1 6 (gc 6 (qV s b N.m a3) ?_))));rintro o4 k2 k3 ⟨n4,m4,t,rfl,b3⟩;have m3:Kp i [(Eb n 114 [I b.Kind,.slice f g h])] k2:=(Kp.cons (t.on 1 rfl) (Kp.nil t));refine ⟨.inr m3,bn H fun c4 c3 H=>tx 7 (fun c' p=>ixO cG q0.m c3) ?_⟩;obtain ⟨l2,d3,v0,x,P⟩:=t.frz 0 rfl b3;have n3:Kp i [(Eb n 114 [I b.Kind,.slice f g h])] l2:=(Kp.cons (x.on 1 rfl) (Kp.nil x));refine AC.gh d3 v0 (fun _=>n3) ?_;obtain ⟨z,A,D,rfl⟩:=(P).form;have e2:=x.borrow 1 s0 rfl;refine bn H fun q1 e3 H=>o1 8 (gD 8 (Own.stW (R:=ag) (T:=114) (us:=[I k.Kind,.slice z A D]) (x':=k) (u:= .agg #[I k.Kind,.slice z A D]) 0 e2 (by kernel_rfl) rfl q0.m e3 rfl (by kernel_rfl) ⟨rfl,P.one,trivial⟩ rfl ⟨(.slice z A D),rfl,P⟩) ?_);rintro h1 m1 ⟨x0,f2,f3⟩;have a1:=f2.giveB 1 rfl;refine bn H fun s1 j1 H=>?_;obtain ⟨y0,b1,f1,w3,u3⟩:=Rel.put_row_Row a1 (y.mono (q.trans (S.trans (U.trans (k3.trans (v0.trans m1)))))) (E':=[(Eb o 253 [X,B p1.wrap]),es true ag X 114 x0 q1]) j1 ⟨o,X,x0,(tm o0),rfl,f3⟩;refine ⟨.inl rfl,dn (bkn (nrm (W.region (vv (I (w64 (a.1+1))) (WL.nil ?_)))))⟩;obtain rfl:=si H;refine ⟨_,rfl,?_⟩;have c1:=b1.sD 2 [];exact jn h1 ⟨y0,c1,rfl,f1⟩
  refine W.exit (thx ?_);obtain rfl:=si H;exact ⟨_,rfl,rfl,jn i2 ⟨i,f0,rfl,y⟩⟩
 ·exact jn E ⟨t1,z1,rfl,g2⟩
 rintro _ e_ w_ ⟨rfl,i1,v3,_,rfl,y3,rfl,z0,d1,rfl,g1⟩;refine bke (nrm (sr (vv (v32) (va (.nilIface) (wln (W.ret ?_))))));obtain rfl:=si d0;exact r2 (qq i1 ⟨v32,.nilIface,z0,d1,g1,rfl,k0.m,rfl⟩)
def bN (sg:Sto) (p0:Option Nat):Option (Int):=
 if p0.isNone=true then
 some 0
 else
 (p0).bind fun b=>
 (sg.row_Row[b]?).bind fun a=>
 some (a.cells.length:Int)
theorem cF (d:Own c0 G F) (k:Rel c0 sg G) (f:Option Nat) {r:Int} (j:Pt 0 c0 v1 f) (H:bN sg f=some r): Calls prog 124 #[v1] c0.w (aO c0 fun c v=>Own c G (F)∧v=I r):=by
 unfold bN at H;refine en func124 rfl rfl (sr (va (I 0) (wln (W.seq (sr (va (v1) (vr (B f.isNone) (by rcases (j).cs with ⟨a,b⟩ | ⟨q,a,b⟩ <;> (subst a; rw [b]; kernel_rfl)) (wln (cn H (fun l H=>?_) (fun l H=>?_))))))))))
 ·refine sr (va (I 0) (wln (W.ret (thr ?_))));obtain rfl:=si H;exact r1 (qq c0 ⟨d,rfl⟩)
 refine W.skip (nrm (sr (va (v1) (bn H fun p n H=>?_))));obtain ⟨g,rfl,m⟩:=(j).get n;refine vv (Q g) (bn H fun e o H=>?_);obtain ⟨v8,s,i,h⟩:=Rel.open_row_Row k o m;refine vx (le1 0 cG (d.gon i 0 rfl)) (vx (lnO 3 cG h) (va (I (e.cells.length:Int)) (wln (W.ret ?_))));obtain rfl:=si H;exact r1 (qq c0 ⟨d,rfl⟩)
def eC (sg:Sto) (p0:Option Nat):Option (List ab):=
 (bN sg p0).bind fun b=>
 (cM (σ:=(List ab)×Int) (τ:=(List ab)) ((b - 0).toNat+1) (fun a=>
 if (decide (a.2 < b))=true then
 (p0).bind fun c=>
 (sg.row_Row[c]?).bind fun d=>
 (idx d.cells a.2).bind fun e=>
 (lB e).bind fun f=>
 (app a.1 ([f]:List ab)).bind fun g=>
 some (.inl (g,(w64 (a.2+1))))
 else
 some (.inr (a.1))) (([]:List ab),0)).bind fun h=>
 some h
theorem ll (O0:Own c0 G F) (R0:Rel c0 sg G) (M:Option Nat) {r:List ab} (h2:Pt 0 c0 v1 M) (H:eC sg M=some r): Calls prog 125 #[v1] c0.w (aO c0 fun c v=>∃N y2,Own c G (es true ag N 114 y2 r :: F)∧v=N∧OA ag c N y2 r):=by
 unfold eC at H;refine en func125 rfl rfl (sr (va (Y) (wln (sr (va (Y) (wln (W.seq (sr (va (v1) (bn H fun E h3 H=>cl (cF O0 R0 M h2 h3) ?_))))))))));rintro v9 o l8 ⟨O5,rfl⟩;refine va (I 0) (wln (W.block (bn H fun j2 x p=>lp x (fun a=>Jn o fun c l=>∃v12 f,Own c G (es true ag v12 114 f a.1 :: F)∧l= [(0,v1),(3,v12),(6,I E),(7,I a.2)]∧OA ag c v12 f a.1) (fun k ex e w=>ex= .exit 0∧(Jn o fun c l=>∃v14 g,Own c G (es true ag v14 114 g k :: F)∧l= [(3,v14)]∧OA ag c v14 g k) e w) ?_ ?_ ?_)))
 ·clear p x;intro a n2 h0 f1 H;revert h0 f1;rintro e_ w_ ⟨e0,z1,_,rfl,l16,rfl,v12,f,d,rfl,y⟩;refine sr (va (B (decide (a.2 < E))) (wln (W.seq (cn H (fun j0 H=>?_) (fun j0 H=>?_)))))
  ·refine W.skip (nrm (W.seq (W.block (sr (vv (I a.2) (wln (W.region (va (v12) (va (v1) (bn H fun m1 l0 H=>?_))))))))));obtain ⟨u,rfl,k0⟩:=((h2.mono (l8.trans l16))).get l0;refine vv (Q u) (bn H fun p1 m0 H=>?_);obtain ⟨v28,k2,z,h⟩:=Rel.open_row_Row (R0.mono (l8.trans l16)) m0 k0;refine vx (le1 0 cG (d.gon z 0 rfl)) (va (I a.2) (bn H fun b i H=>vx (ixO cG h i) ?_));obtain ⟨n1,o0,d1⟩:=OA.at h i;obtain ⟨v36,rfl,q0⟩:=o0;refine vr (.agg #[I b.Kind,v36]) (rx (by kernel_rfl) (zE (T:=114) (l:=[I b.Kind,v36]) (by kernel_rfl) (by kernel_rfl) (d.gon z 1 rfl) (h.blk i) (at2 (j:=0) d1 rfl))) (bn H fun n s0 H=>cl (qV d b q0 s0) ?_);rintro v47 t1 c2 ⟨v39,l2,P,rfl,t0⟩;obtain ⟨u1,u0,d2,R,A⟩:=P.frz 0 rfl t0;refine WL.gh u0 ?_;obtain ⟨q,s,t,rfl⟩:=(A).form;refine me (sl ag 114 [[I n.Kind,.slice q s t]] ([n]:List ab) R ⟨⟨(.slice q s t),rfl,A⟩,trivial⟩) ?_;rintro v59 w1 e2 ⟨m2,S,v0⟩;obtain ⟨x1,x0,f2,U,w0⟩:=S.frz 0 rfl v0;refine WL.gh x0 (bn H fun s1 y0 H=>me (ap ag (.agg #[I 0,Y]) 32 46 2 U y.m w0 y0 cG) ?_);rintro D f0 g2 ⟨e1,X,z0⟩;refine va (D) (WL.nil (bkn (nrm (W.region (vv (I (w64 (a.2+1))) (WL.nil ?_))))));obtain rfl:=si H;refine ⟨_,rfl,?_⟩;have Z:=X.sD 3 [2];exact jn f0 ⟨D,e1,Z,rfl,z0⟩
  refine W.exit (thx ?_);obtain rfl:=si H;exact ⟨_,rfl,rfl,jn e0 ⟨v12,f,d,rfl,y⟩⟩
 ·have a1:OA ag o (Y) [] []:=OA.nil (aM _);have a0:=O5.addHole (e:=es true ag (Y) 114 [] ([]:List ab)) rfl;exact jn o ⟨(Y),[],a0,rfl,a1⟩
 rintro _ e_ w_ ⟨rfl,g0,b2,_,rfl,i2,rfl,v14,g,b0,rfl,b1⟩;refine bke (nrm (sr (vv (v14) (wln (W.ret ?_)))));obtain rfl:=si p;exact r1 (qq g0 ⟨v14,g,b0,rfl,b1⟩)
def ge (sg:Sto) (p0:Option Nat) (p1:Int):Option (ab×Bool):=
 (orE (decide (p1 < 0)) ((bN sg p0).bind fun c=>
 some (decide (p1≥c)))).bind fun f=>
 if f=true then
 some ((⟨0,([]:List Int)⟩:ab),false)
 else
 (p0).bind fun a=>
 (sg.row_Row[a]?).bind fun b=>
 (idx b.cells p1).bind fun d=>
 (lB d).bind fun e=>
 some (e,true)
theorem qB (O0:Own c0 G F) (Z:Rel c0 sg G) (E:Option Nat) (a:Int) {r:ab×Bool} (h2:Pt 0 c0 v1 E) (H:ge sg E a=some r): Calls prog 321 #[v1,I a] c0.w (aO c0 fun c v=>∃M y2,Own c G (es true (RI .i32) M 21 y2 r.1.Text :: F)∧v= .tuple #[.agg #[I r.1.Kind,M],B r.2]∧OA (RI .i32) c M y2 r.1.Text):=by
 unfold ge at H;refine en func321 rfl rfl (sr (me (al 114 [I 0,Y] O0) ?_));rintro v6 c5 l5 ⟨b3,rfl,S⟩;refine va (B false) (wln (W.seq (W.seq (bn H fun e0 h7 H=>W.join (Jn c5 fun c l=>Own c G ((Eb b3 114 [I 0,Y]) :: F)∧l= [(0,v1),(1,I a),(4,Q b3),(13,B e0)]) ?_ ?_))))
 ·clear H;refine W.region (va (I a) (va (B (decide (a < 0))) ?_));rcases bo (decide (a < 0)) with p | p
  ·obtain rfl:=orT p h7;exact vb p (pz (pz (va (B true) (wln (jn c5 ⟨S,rfl⟩)))))
  have D:=orF p h7;refine vb p (wa (I a) (wa (v1) (wn (bn D fun q f0 D=>cl (cF S Z.m E h2.m f0) ?_))));rintro v16 b0 e1 ⟨N,rfl⟩;refine wa (B (decide (a≥q))) ?_;obtain rfl:=si D;exact va (B (decide (a≥q))) (wln (jn b0 ⟨N,rfl⟩))
 rintro e_ w_ ⟨b1,d1,_,rfl,A,rfl,d,rfl⟩;refine nrm (cn H (fun h0 H=>?_) (fun h0 H=>?_))
 ·refine sr (va (.agg #[I 0,Y]) (md (sA 114 [I 0,Y] 0 d ⟨rfl,rfl,trivial⟩) ?_));rintro i f1 P;refine va (B false) (wln (W.ret (thr ?_)));obtain rfl:=si H;have i0:OA (RI .i32) i (Y) [] []:=OA.nil (aM _);have t:=P.addHole (e:=es true (RI .i32) (Y) 21 [] ([]:List Int)) rfl;have R:=t.sD 2 [0];exact qr (c:=i) (vs:=[I 0,Y]) (v:=B false) rfl (by kernel_rfl) (by kernel_rfl) (by kernel_rfl) (by kernel_rfl) (t.on 1 rfl _ rfl).1 ⟨_,i,rfl,rfl,pt,(Y),[],R,rfl,i0⟩
 refine W.skip (nrm (sr (va (v1) (bn H fun y0 k0 H=>?_))));obtain ⟨x,rfl,j0⟩:=((h2.mono (l5.trans A))).get k0;refine vv (Q x) (bn H fun a1 l0 H=>?_);obtain ⟨v33,i1,z,k⟩:=Rel.open_row_Row (Z.mono (l5.trans A)) l0 j0;refine vx (le1 0 cG (d.gon z 0 rfl)) (va (I a) (bn H fun b n H=>vx (ixO cG k n) ?_));obtain ⟨z0,m0,u0⟩:=OA.at k n;obtain ⟨v41,rfl,o0⟩:=m0;refine vr (.agg #[I b.Kind,v41]) (rx (by kernel_rfl) (zE (T:=114) (l:=[I b.Kind,v41]) (by kernel_rfl) (by kernel_rfl) (d.gon z 1 rfl) (k.blk n) (at2 (j:=0) u0 rfl))) (bn H fun s q0 H=>cl (qV d b o0 q0) ?_);rintro v52 c1 g1 ⟨v44,v0,U,rfl,o⟩;obtain ⟨f,g,h,rfl⟩:=(o).form;refine md (sA 114 [I s.Kind,.slice f g h] 1 U ⟨rfl,(o).one,trivial⟩) ?_;rintro y h1 u;refine va (B true) (wln (W.ret ?_));obtain rfl:=si H;have X:=u.sD 2 [0];exact qr (c:=y) (vs:=[I s.Kind,.slice f g h]) (v:=B true) rfl (by kernel_rfl) (by kernel_rfl) (by kernel_rfl) (by kernel_rfl) (u.on 1 rfl _ rfl).1 ⟨_,y,rfl,rfl,pt,(.slice f g h),v0,X,rfl,o.m⟩
def gY (sg:Sto) (p0:Option Nat) (p1:Int):Option (Int):=
 (orE (decide (p1 < 0)) ((bN sg p0).bind fun e=>
 some (decide (p1≥e)))).bind fun d=>
 if d=true then
 some 0
 else
 (p0).bind fun a=>
 (sg.row_Row[a]?).bind fun b=>
 (idx b.cells p1).bind fun c=>
 some c.Kind
theorem qA (q:Own c0 G F) (s:Rel c0 sg G) (p:Option Nat) (a:Int) {r:Int} (y:Pt 0 c0 v1 p) (H:gY sg p a=some r): Calls prog 282 #[v1,I a] c0.w (aO c0 fun c v=>Own c G (F)∧v=I r):=by
 unfold gY at H;refine en func282 rfl rfl (sr (va (I 0) (wln (W.seq (W.seq (bn H fun u E H=>W.join (Jn c0 fun c l=>Own c G (F)∧l= [(0,v1),(1,I a),(12,B u)]) ?_ ?_))))))
 ·clear H;refine W.region (va (I a) (va (B (decide (a < 0))) ?_));rcases bo (decide (a < 0)) with f | f
  ·obtain rfl:=orT f E;exact vb f (pz (pz (va (B true) (wln (jn c0 ⟨q,rfl⟩)))))
  have o:=orF f E;refine vb f (wa (I a) (wa (v1) (wn (bn o fun n R o=>cl (cF q s p y R) ?_))));rintro v12 t a0 ⟨P,rfl⟩;refine wa (B (decide (a≥n))) ?_;obtain rfl:=si o;exact va (B (decide (a≥n))) (wln (jn t ⟨P,rfl⟩))
 rintro e_ w_ ⟨i,X,_,rfl,m,rfl,b,rfl⟩;refine nrm (cn H (fun x H=>?_) (fun x H=>?_))
 ·refine sr (va (I 0) (wln (W.ret (thr ?_))));obtain rfl:=si H;exact r1 (qq i ⟨b,rfl⟩)
 refine W.skip (nrm (sr (va (v1) (bn H fun S A H=>?_))));obtain ⟨h,rfl,z⟩:=((y.mono m)).get A;refine vv (Q h) (bn H fun U D H=>?_);obtain ⟨v24,b0,k,d⟩:=Rel.open_row_Row (s.mono m) D z;refine vx (le1 0 cG (b.gon k 0 rfl)) (va (I a) (bn H fun g e H=>vx (ixO cG d e) (va (Qo (sb v24) (a.toNat * 2)) ?_)));obtain ⟨T,M,N⟩:=OA.at d e;obtain ⟨v32,rfl,Z⟩:=M;refine vr (I g.Kind) (rx (by kernel_rfl) (mu u_3 rfl (b.gon k 1 rfl) (d.blk e) (at1 (j:=0) N rfl))) (va (I g.Kind) (wln (W.ret ?_)));obtain rfl:=si H;exact r1 (qq i ⟨b,rfl⟩)
def fV (sg:Sto) (p0:Option Nat) (p1:Int) (p2:ab):Option (Sto):=
 (p0).bind fun d=>
 (sg.row_Row[d]?).bind fun e=>
 (lB p2).bind fun f=>
 (idx e.cells p1).bind fun g=>
 (oQ e.cells p1 f).bind fun b=>
 (sg.set_row_Row d (⟨b,e.wrap⟩:bf)).bind fun a=>
 if (p1==(w64 ((b.length:Int) - 1)))=true then
 (a.set_row_Row d (⟨b,false⟩:bf)).bind fun c=>
 some c
 else
 some a
theorem nU (O0:Own c0 G F) (R0:Rel c0 sg G) (p0:Option Nat) (o:Int) (p:ab) {r:Sto} (h2:Pt 0 c0 v1 p0) (h4:Sl (RI .i32) c0 v3 p.Text) (H:fV sg p0 o p=some r): Calls prog 283 #[v1,I o,.agg #[I p.Kind,v3]] c0.w (aO c0 fun c v=>∃G_:Gm,Own c G_ (F)∧Rel c r G_∧v= .tuple #[]):=by
 unfold fV at H;refine en func283 rfl rfl (sr ?_);obtain ⟨a5,a6,a7,rfl⟩:=(h4).form;refine me (bx 114 [I p.Kind,.slice a5 a6 a7] O0) ?_;rintro v12 b2 l ⟨b8,rfl,O9,f1⟩;refine wln (W.seq (rD [8] (Kp G []) O9 ?_));intro k0 n s;have i1:Kp G [] k0:=(Kp.nil s);refine ta 0 (v1) (bn H fun d2 s0 H=>?_);obtain ⟨a,rfl,i⟩:=((h2.mono (l.trans n))).get s0;refine ta 1 (Q a) (ta 2 (Q a) (bn H fun g1 t0 H=>?_));obtain ⟨v20,e2,A,z⟩:=Rel.open_row_Row (R0.mono (l.trans n)) t0 i;refine tkx 3 i1 (fun c' E hk=>le1 0 cG (hk.gon A 0 rfl)) (ta 4 (I o) (tx 5 (fun c' E=>lN 114 (mm f1)) (bn H fun q u0 H=>o1 6 (gc 6 (qV s p h4.m u0) ?_))));rintro v33 l0 d1 ⟨v25,f2,t,rfl,v0⟩;have j1:Kp G [] l0:=(Kp.nil t);refine ⟨.inr j1,bn H fun x1 w0 H=>tx 7 (fun c' E=>ixO cG z.m w0) ?_⟩;obtain ⟨m0,x0,M,x,j⟩:=t.frz 0 rfl v0;have k1:Kp G [] m0:=(Kp.nil x);refine AC.gh x0 M (fun _=>k1) ?_;obtain ⟨f,g,h,rfl⟩:=(j).form;have Z:=x.borrow 1 A rfl;refine bn H fun b z0 H=>o1 8 (gD 8 (Own.stW (R:=ag) (T:=114) (us:=[I q.Kind,.slice f g h]) (x':=q) (u:= .agg #[I q.Kind,.slice f g h]) 0 Z (by kernel_rfl) rfl z.m z0 rfl (by kernel_rfl) ⟨rfl,j.one,trivial⟩ rfl ⟨(.slice f g h),rfl,j⟩) ?_);rintro o0 e1 ⟨d,a0,k⟩;have b0:=a0.giveB 1 rfl;refine bn H fun P a1 H=>?_;obtain ⟨U,e,y,D,y1⟩:=Rel.put_row_Row b0 (R0.mono (l.trans (n.trans (d1.trans (M.trans e1))))) (E':=[(Eb a 253 [v20,B g1.wrap]),es true ag v20 114 d b]) a1 ⟨a,v20,d,(tm i),rfl,k⟩;refine ⟨.inl rfl,dn (nrm (sr (va (I o) (vv (Q a) (va (Q a) (vx (le1 0 cG (e.gon D 0 rfl)) (vx (lnO 3 cG k) (va (I (w64 ((b.length:Int) - 1))) (va (B (o==(w64 ((b.length:Int) - 1)))) (wln (cn H (fun b1 H=>?_) (fun b1 H=>?_))))))))))))⟩
 ·refine W.region (vv (Q a) (va (Qo a 1) (md (gC 4 1 (B false) [v20,B false] 0 e D ⟨rfl,trivial⟩) ?_)));rintro q0 N d0;refine bn H fun S c1 H=>?_;obtain ⟨X,e0,i0,c2,z1⟩:=Rel.put_row_Row d0 (y.mono N) (E':=[(Eb a 253 [v20,B false]),es true ag v20 114 d b]) c1 ⟨a,v20,d,(tm i),rfl,(k.mono N)⟩;refine WL.nil ?_;obtain rfl:=si H;have f0:=e0.sD 1 [];exact n0 (qq q0 ⟨X,f0,i0,rfl⟩)
 refine W.skip ?_;obtain rfl:=si H;have g0:=e.sD 1 [];exact n0 (qq o0 ⟨U,g0,y,rfl⟩)
def dQ (sg:Sto) (p0:Option Nat) (p1:Int) (p2:List ab):Option (Sto×Er):=
 (orE p0.isNone (some (decide (p1 < 0)))).bind fun q=>
 (orE q ((p0).bind fun d=>
 (sg.row_Row[d]?).bind fun f=>
 some (decide (p1 > (f.cells.length:Int))))).bind fun r=>
 (orE r ((p0).bind fun e=>
 (sg.row_Row[e]?).bind fun g=>
 some (decide ((p2.length:Int) > (w64 ((g.cells.length:Int) - p1)))))).bind fun c=>
 if c=true then
 some (sg,(Er.sent 2))
 else
 (kH p2).bind fun i=>
 if (!i)=true then
 some (sg,(Er.sent 4))
 else
 if ((p2.length:Int)==0)=true then
 some (sg,Er.nil)
 else
 ((gY sg p0 p1).bind fun j=>
 if (j==3)=true then
 (fV sg p0 (w64 (p1 - 1)) (⟨0,([]:List Int)⟩:ab)).bind fun k=>
 some (k)
 else
 some (sg)).bind fun b=>
 ((gY b p0 (w64 (p1+(p2.length:Int)))).bind fun l=>
 if (l==3)=true then
 (fV b p0 (w64 (p1+(p2.length:Int))) (⟨0,([]:List Int)⟩:ab)).bind fun m=>
 some (m)
 else
 some (b)).bind fun p=>
 (cM (σ:=Int×Sto) (τ:=Sto) (((p2.length:Int) - 0).toNat+1) (fun a=>
 if (decide (a.1 < (p2.length:Int)))=true then
 (idx p2 a.1).bind fun n=>
 (fV a.2 p0 (w64 (p1+a.1)) n).bind fun o=>
 some (.inl ((w64 (a.1+1)),o))
 else
 some (.inr (a.2))) (0,p)).bind fun h=>
 some (h,Er.nil)
theorem jM (A:Own c0 G F) (o:Rel c0 sg G) (hG:Gl [2,4] c0) (j:Option Nat) (a:Int) (f:List ab) {r:Sto×Er} (s:Pt 0 c0 v1 j) (x:Sl ag c0 v3 f) (H:dQ sg j a f=some r): Calls prog 234 #[v1,I a,v3] c0.w (aO c0 fun c v=>∃y1,∃G_:Gm,Own c G_ (F)∧Rel c r.1 G_∧v=y1∧RE 350 144 c y1 r.2):=by
 unfold dQ at H;refine en func234 rfl rfl (sr (va (.nilIface) (wln (W.seq (W.block (W.seq (bn H fun u4 h5 H=>bn H fun v4 h6 H=>bn H fun j1 h7 H=>W.join (Jn c0 fun c l=>Own c G (F)∧l= [(0,v1),(1,I a),(2,v3),(10,B j1)]) ?_ ?_)))))))
 ·clear H;refine W.region (va (v1) (vr (B j.isNone) (by rcases (s).cs with ⟨q0,s0⟩ | ⟨b_,q0,s0⟩ <;> (subst q0; rw [s0]; kernel_rfl)) ?_));rcases bo (j.isNone) with h8 | h8
  ·obtain rfl:=orT h8 h5;refine vb h8 (pz (va (B true) ?_));have h9:true=true:=rfl;obtain rfl:=orT h9 h6;refine vb h9 (pz (pz (pz (ps (va (B true) ?_)))));have m0:true=true:=rfl;obtain rfl:=orT m0 h7;exact vb m0 (pz (pz (pz (pz (pz (vv (B true) (wln (jn c0 ⟨A,rfl⟩))))))))
  have g2:=orF h8 h5;refine vb h8 (wa (I a) (wa (B (decide (a < 0))) ?_));obtain rfl:=si g2;refine va (B (decide (a < 0))) ?_;rcases bo (decide (a < 0)) with q | q
  ·obtain rfl:=orT q h6;refine vb q (pz (pz (pz (ps (va (B true) ?_)))));have o0:true=true:=rfl;obtain rfl:=orT o0 h7;exact vb o0 (pz (pz (pz (pz (pz (vv (B true) (wln (jn c0 ⟨A,rfl⟩))))))))
  have k:=orF q h6;refine vb q (wa (I a) (wa (v1) (wn (bn k fun i4 a3 k=>?_))));obtain ⟨p,rfl,z2⟩:=(s).get a3;refine va (Q p) (wa (Q p) (wn (bn k fun y b3 k=>?_)));obtain ⟨v19,d5,d3,c3⟩:=Rel.open_row_Row o b3 z2;refine vx (le1 0 cG (A.gon d3 0 rfl)) (wn (vx (lnO 3 cG c3) (wa (B (decide (a > (y.cells.length:Int)))) ?_)));obtain rfl:=si k;refine va (B (decide (a > (y.cells.length:Int)))) ?_;rcases bo (decide (a > (y.cells.length:Int))) with t | t
  ·obtain rfl:=orT t h7;exact vb t (pz (pz (pz (pz (pz (vv (B true) (wln (jn c0 ⟨A,rfl⟩))))))))
  have n:=orF t h7;refine vb t (wa (v3) (wn (vx (ln 3 cG x) (wa (Q p) (wn (bn n fun j4 f3 n=>?_))))));have e3:=(s).get2 f3;refine va (Q p) (wa (Q p) (wn (bn n fun i g3 n=>?_)));obtain ⟨v29,e5,i3,h3⟩:=Rel.open_row_Row o g3 e3;refine vx (le1 0 cG (A.gon i3 0 rfl)) (wn (vx (lnO 3 cG h3) (wa (I a) (wa (I (w64 ((i.cells.length:Int) - a))) (wa (B (decide ((f.length:Int) > (w64 ((i.cells.length:Int) - a))))) ?_)))));obtain rfl:=si n;exact vv (B (decide ((f.length:Int) > (w64 ((i.cells.length:Int) - a))))) (wln (jn c0 ⟨A,rfl⟩))
 rintro e_ w_ ⟨s2,w4,_,rfl,d0,rfl,j0,rfl⟩;refine nrm (cn H (fun j3 H=>?_) (fun j3 H=>?_))
 ·refine sr ?_;obtain ⟨v40,t0⟩:=(hG.mono d0).get 2 (by decide);refine vx (l1 zl t0.im) (va (v40) (wln (W.ret (bkr (thr ?_)))));obtain rfl:=si H;exact r1 (qq s2 ⟨v40,G,j0,o.m,rfl,t0⟩)
 refine sr (va (v3) (bn H fun e0 k3 H=>cl (tl j0 f x.m k3) ?_));rintro v48 X w0 ⟨N,rfl⟩;refine vv (B (!e0)) (wln (cn H (fun l3 H=>?_) (fun l3 H=>?_)))
 ·refine sr ?_;obtain ⟨v50,u0⟩:=(hG.mono (d0.trans w0)).get 4 (by decide);refine vx (l1 zl u0.im) (va (v50) (wln (W.ret (bkr (thr ?_)))));obtain rfl:=si H;exact r1 (qq X ⟨v50,G,N,o.m,rfl,u0⟩)
 refine sr (va (v3) (vx (ln 3 cG x.m) (vv (B ((f.length:Int)==0)) (wln (cn H (fun n3 H=>?_) (fun n3 H=>?_))))))
 ·refine sr (va (.nilIface) (wln (W.ret (bkr (thr ?_)))));obtain rfl:=si H;exact r1 (qq X ⟨.nilIface,G,N,o.m,rfl,rfl⟩)
 refine W.skip (bkn (nrm (bn H fun z1 g i2=>W.seqJ (Jn X fun c l=>∃G_,Own c G_ (F)∧l= [(0,v1),(1,I a),(2,v3)]∧Rel c z1 G_) ?_ ?_)))
 ·refine sr (va (v1) (va (I a) (bn g fun w1 o3 g=>cl (qA N o.m j a s.m o3) ?_)));rintro f5 t2 z4 ⟨k0,rfl⟩;refine va (B (w1==3)) (wln (cn g (fun p3 g=>?_) (fun p3 g=>?_)))
  ·refine W.region (va (v1) (va (I a) (va (I (w64 (a - 1))) (va (.agg #[I 0,Y]) (bn g fun r4 q3 g=>cl (nU k0 o.m j (w64 (a - 1)) (⟨0,([]:List Int)⟩:ab) s.m (Sl.nl _ _) q3) ?_)))));rintro g5 u2 a5 ⟨c2,j2,n2,rfl⟩;refine wln ?_;obtain rfl:=si g;exact jn u2 ⟨c2,j2,rfl,n2⟩
  refine W.skip (nrm ?_);obtain rfl:=si g;exact jn t2 ⟨G,k0,rfl,o.m⟩
 rintro e_ w_ ⟨v2,x4,_,rfl,x3,rfl,d2,k2,rfl,R⟩;refine bn i2 fun b2 h d=>W.seqJ (Jn v2 fun c l=>∃G_,Own c G_ (F)∧l= [(0,v1),(1,I a),(2,v3)]∧Rel c b2 G_) ?_ ?_
 ·refine sr (va (I a) (va (v3) (vx (ln 3 cG x.m) (vv (I (w64 (a+(f.length:Int)))) (wln (sr (va (v1) (va (I (w64 (a+(f.length:Int)))) (bn h fun x1 s3 h=>cl (qA k2 R j (w64 (a+(f.length:Int))) s.m s3) ?_)))))))));rintro i5 w2 b5 ⟨l0,rfl⟩;refine va (B (x1==3)) (wln (cn h (fun t3 h=>?_) (fun t3 h=>?_)))
  ·refine W.region (va (v1) (va (I (w64 (a+(f.length:Int)))) (va (.agg #[I 0,Y]) (bn h fun s4 u3 h=>cl (nU l0 R.m j (w64 (a+(f.length:Int))) (⟨0,([]:List Int)⟩:ab) s.m (Sl.nl _ _) u3) ?_))));rintro j5 x2 c5 ⟨e2,l2,o2,rfl⟩;refine wln ?_;obtain rfl:=si h;exact jn x2 ⟨e2,l2,rfl,o2⟩
  refine W.skip (nrm ?_);obtain rfl:=si h;exact jn w2 ⟨d2,l0,rfl,R.m⟩
 rintro e_ w_ ⟨Z,y4,_,rfl,y3,rfl,f2,m2,rfl,q2⟩;refine W.seq (sr (va (v3) (vx (ln 3 cG x.m) (va (I 0) (wln (W.block (bn d fun n4 v0 D=>lp v0 (fun b=>Jn Z fun c l=>∃G_,Own c G_ (F)∧l= [(0,v1),(1,I a),(69,v3),(70,I (f.length:Int)),(71,I b.1)]∧Rel c b.2 G_) (fun h0 ex e w=>ex= .exit 1∧(Jn Z fun c l=>∃G_,Own c G_ (F)∧l= []∧Rel c h0 G_) e w) ?_ ?_ ?_)))))))
 ·clear D v0;intro b k5 y2 z3 d;revert y2 z3;rintro e_ w_ ⟨g1,f4,_,rfl,s1,rfl,x0,E,rfl,P⟩;refine sr (va (B (decide (b.1 < (f.length:Int)))) (wln (W.seq (cn d (fun k1 d=>?_) (fun k1 d=>?_)))))
  ·refine W.skip (nrm (W.seq (W.block (sr (va (I b.1) (bn d fun z a0 d=>?_))))));obtain ⟨b4,m1,u1⟩:=Sl.at (x.mono (d0.trans (w0.trans (x3.trans (y3.trans s1))))) (aX a0);obtain ⟨o4,rfl,u⟩:=m1;refine vx (ix cG x.m a0) (vx (lN 114 u1) (me (al 114 [I 0,Y] E) ?_));rintro p4 d4 t1 ⟨c4,rfl,a1⟩;refine va (I b.1) ?_;obtain ⟨S,T,U,rfl⟩:=((u.mono t1)).form;refine md (sA 114 [I z.Kind,.slice S T U] 0 a1 ⟨rfl,u.m.one,trivial⟩) ?_;rintro e4 k4 M;refine wln (W.region (va (v1) (va (I a) (va (I b.1) (va (I (w64 (a+b.1))) (vx (leN 114 0 [I z.Kind,.slice S T U] (M.on 0 rfl)) (bn d fun t4 n1 d=>cl (nU M P.m j (w64 (a+b.1)) z s.m u.m n1) ?_)))))));rintro q4 h1 l4 ⟨y0,b1,e1,rfl⟩;refine WL.nil (bkn (nrm (W.region (vv (I (w64 (b.1+1))) (WL.nil ?_)))));obtain rfl:=si d;refine ⟨_,rfl,?_⟩;have c1:=b1.sD 1 [];exact jn h1 ⟨y0,c1,rfl,e1⟩
  refine W.exit (thx ?_);obtain rfl:=si d;exact ⟨_,rfl,rfl,jn g1 ⟨x0,E,rfl,P⟩⟩
 ·exact jn Z ⟨f2,m2,rfl,q2⟩
 rintro _ e_ w_ ⟨rfl,i1,g4,_,rfl,m4,rfl,z0,d1,rfl,f1⟩;refine bke (nrm (sr (va (.nilIface) (wln (W.ret ?_)))));obtain rfl:=si D;exact r1 (qq i1 ⟨.nilIface,z0,d1,f1,rfl,rfl⟩)
def fa (sg:Sto) (p0:Option Nat) (p1:Bool):Option (Sto):=
 if (!p0.isNone)=true then
 (p0).bind fun b=>
 (sg.row_Row[b]?).bind fun c=>
 (sg.set_row_Row b (⟨c.cells,p1⟩:bf)).bind fun a=>
 some a
 else
 some sg
theorem lW (j:Own c0 G F) (g:Rel c0 sg G) (h:Option Nat) (a:Bool) {r:Sto} (s:Pt 0 c0 v1 h) (H:fa sg h a=some r): Calls prog 242 #[v1,B a] c0.w (aO c0 fun c v=>∃G_:Gm,Own c G_ (F)∧Rel c r G_∧v= .tuple #[]):=by
 unfold fa at H;refine en func242 rfl rfl (sr (va (v1) (vr (B (!h.isNone)) (by rcases (s).cs with ⟨d,e⟩ | ⟨P,d,e⟩ <;> (subst d; rw [e]; kernel_rfl)) (wln (cn H (fun z H=>?_) (fun z H=>?_))))))
 ·refine W.region (va (v1) (va (B a) (bn H fun N A H=>?_)));obtain ⟨b,rfl,t⟩:=(s).get A;refine va (Q b) (va (Qo b 1) (bn H fun u D H=>?_));obtain ⟨v8,y,p,o⟩:=Rel.open_row_Row g D t;refine md (gC 4 1 (B a) [v8,B a] 0 j p ⟨rfl,trivial⟩) ?_;rintro n f k;refine bn H fun x q H=>?_;obtain ⟨i,l,m,M,E⟩:=Rel.put_row_Row k (g.mono f) (E':=[(Eb b 253 [v8,B a]),es true ag v8 114 y u.cells]) q ⟨b,v8,y,(tm t),rfl,(o.mono f)⟩;refine WL.nil ?_;obtain rfl:=si H;exact n0 (qq n ⟨i,l,m,rfl⟩)
 refine W.skip ?_;obtain rfl:=si H;exact n0 (qq c0 ⟨G,j,g,rfl⟩)
def jr (sg:Sto) (p0:Option Nat):Option (Bool):=
 (bV (!p0.isNone) ((p0).bind fun c=>
 (sg.row_Row[c]?).bind fun a=>
 some a.wrap)).bind fun b=>
 some b
theorem vD (h:Own c0 G F) (q:Rel c0 sg G) (e:Option Nat) {r:Bool} (o:Pt 0 c0 v1 e) (H:jr sg e=some r): Calls prog 126 #[v1] c0.w (aO c0 fun c v=>Own c G (F)∧v=B r):=by
 unfold jr at H;refine en func126 rfl rfl (sr (va (B false) (wln (W.seq (bn H fun m p H=>W.join (Jn c0 fun c l=>Own c G (F)∧l= [(2,B m)]) ?_ ?_)))))
 ·clear H;refine W.region (va (v1) (vr (B (!e.isNone)) (by rcases (o).cs with ⟨f,g⟩ | ⟨E,f,g⟩ <;> (subst f; rw [g]; kernel_rfl)) ?_));rcases bo (!e.isNone) with b | b
  ·have a:=anT b p;refine vb b (wa (v1) (wn (bn a fun z t a=>?_)));obtain ⟨j,rfl,s⟩:=(o).get t;refine va (Q j) (wa (Qo j 1) (wn (bn a fun d u a=>?_)));obtain ⟨v10,D,n,y⟩:=Rel.open_row_Row q u s;refine vx (le1 1 u_4 (h.gon n 0 rfl)) ?_;obtain rfl:=si a;exact vv (B d.wrap) (wln (jn c0 ⟨h,rfl⟩))
  obtain rfl:=anF b p;exact vb b (pz (pz (vv (B false) (wln (jn c0 ⟨h,rfl⟩)))))
 rintro M N ⟨k,x,_,rfl,A,rfl,i,rfl⟩;refine nrm (W.ret ?_);obtain rfl:=si H;exact r1 (qq k ⟨i,rfl⟩)
def ek (p0:List ab) (p1:Bool) (p2:Int) (p3:List ab):Option ((List ab)×Bool):=
 (cM (σ:=Bool×(List ab)×Int) (τ:=(Bool×(List ab))) (((p0.length:Int) - 0).toNat+1) (fun a=>
 if (decide (a.2.2 < (p0.length:Int)))=true then
 (bV (decide (a.2.2≥p2)) (some (decide (a.2.2 < (w64 (p2+(p3.length:Int))))))).bind fun c=>
 (idx p0 a.2.2).bind fun e=>
 (if c=true then
 (idx p3 (w64 (a.2.2 - p2))).bind fun f=>
 some (f.Kind,f.Text)
 else
 some (e.Kind,e.Text)).bind fun b=>
 (bV (!c) ((bV (b.1==2) (some (decide ((w64 (a.2.2+1))≥p2)))).bind fun l=>
 (bV l (some (decide ((w64 (a.2.2+1)) < (w64 (p2+(p3.length:Int))))))).bind fun m=>
 (orE m ((bV (b.1==3) (some (decide ((w64 (a.2.2 - 1))≥p2)))).bind fun o=>
 (bV o (some (decide ((w64 (a.2.2 - 1)) < (w64 (p2+(p3.length:Int))))))).bind fun p=>
 some p)).bind fun n=>
 some n)).bind fun d=>
 (if d=true then
 some (0,([]:List Int))
 else
 some (b.1,b.2)).bind fun g=>
 ((bV ((w64 (a.2.2+1))==(p0.length:Int)) ((orE c (some d)).bind fun i=>
 some i)).bind fun h=>
 if h=true then
 some (false)
 else
 some (a.1)).bind fun q=>
 (app a.2.1 ([(⟨g.1,g.2⟩:ab)]:List ab)).bind fun j=>
 some (.inl (q,j,(w64 (a.2.2+1))))
 else
 some (.inr (a.1,a.2.1))) (p1,([]:List ab),0)).bind fun k=>
 some (k.2,k.1)
set_option maxHeartbeats 4000000 in
theorem mj (O0:Own c0 G F) (p0:List ab) (p1:Bool) (b:Int) (f:List ab) {r:(List ab)×Bool} (h2:Sl ag c0 v1 p0) (h4:Sl ag c0 v3 f) (H:ek p0 p1 b f=some r): Calls prog 254 #[v1,B p1,I b,v3] c0.w (aO c0 fun c v=>∃y1 y2,Own c G (es true ag y1 114 y2 r.1 :: F)∧v= .tuple #[y1,B r.2]∧OA ag c y1 y2 r.1):=by
 unfold ek at H;refine en func254 rfl rfl (sr (va (Y) (va (B false) (wln (sr (va (Y) (wln (W.seq (sr (va (I 0) (wln (W.block (bn H fun b3 h5 H6=>lp h5 (fun a=>Jn c0 fun c l=>∃v7 P,Own c G (es true ag v7 114 P a.2.1 :: F)∧l= [(0,v1),(1,B a.1),(2,I b),(3,v3),(10,v7),(11,I a.2.2)]∧OA ag c v7 P a.2.1) (fun j0 ex e w=>ex= .exit 0∧(Jn c0 fun c l=>∃v9 o0,Own c G (es true ag v9 114 o0 j0.2 :: F)∧l= [(1,B j0.1),(10,v9)]∧OA ag c v9 o0 j0.2) e w) ?_ ?_ ?_)))))))))))))
 ·clear H6 h5;intro a v6 x4 o5 H;revert x4 o5;rintro e_ w_ ⟨m0,q6,_,rfl,x2,rfl,v7,P,s0,rfl,d2⟩;refine W.seq (sr (va (I a.2.2) (va (v1) (vx (ln 3 cG h2.m) (va (B (decide (a.2.2 < (p0.length:Int)))) (wln (cn H (fun y4 H=>?_) (fun y4 H=>?_))))))))
  ·refine W.skip (nrm (W.seq (W.block (W.seq (bn H fun j e2 H=>W.join (Jn m0 fun c l=>Own c G (es true ag v7 114 P a.2.1 :: F)∧l= [(0,v1),(1,B a.1),(2,I b),(3,v3),(10,v7),(11,I a.2.2),(12,B j)]) ?_ ?_)))))
   ·clear H;refine W.region (va (I a.2.2) (va (I b) (va (B (decide (a.2.2≥b))) ?_)));rcases bo (decide (a.2.2≥b)) with S | S
    ·have l4:=anT S e2;refine vb S (wa (I a.2.2) (wa (I b) (wa (v3) (wn (vx (ln 3 cG h4.m) (wa (I (w64 (b+(f.length:Int)))) (wa (B (decide (a.2.2 < (w64 (b+(f.length:Int)))))) ?_)))))));obtain rfl:=si l4;exact vv (B (decide (a.2.2 < (w64 (b+(f.length:Int)))))) (wln (jn m0 ⟨s0,rfl⟩))
    obtain rfl:=anF S e2;exact vb S (pz (pz (pz (vv (B false) (wln (jn m0 ⟨s0,rfl⟩))))))
   rintro e_ w_ ⟨o6,r6,_,rfl,z2,rfl,t4,rfl⟩;refine nrm (sr (va (v1) (va (I a.2.2) (bn H fun g4 f2 H=>?_))));obtain ⟨k6,z4,l5⟩:=Sl.at (h2.mono (x2.trans z2)) (aX f2);obtain ⟨v32,rfl,i1⟩:=z4;refine vx (ix cG h2.m f2) (vx (lN 114 l5) (me (al 114 [I 0,Y] t4) ?_));rintro v37 p6 a3 ⟨i,rfl,u4⟩;obtain ⟨t1,u1,w1,rfl⟩:=((i1.mono a3)).form;refine md (sA 114 [I g4.Kind,.slice t1 u1 w1] 0 u4 ⟨rfl,i1.m.one,trivial⟩) ?_;rintro c2 k5 s1;refine wln (bn H fun h y l0=>W.seqJ (Jn c2 fun c l=>∃v45,Own c G ((Eb i 114 [I h.1,v45]) :: es true ag v7 114 P a.2.1 :: F)∧l= [(0,v1),(1,B a.1),(2,I b),(3,v3),(10,v7),(11,I a.2.2),(12,B j),(13,Q i)]∧Sl (RI .i32) c v45 h.2) ?_ ?_)
   ·refine sr (va (B j) (wln (cn y (fun a5 y=>?_) (fun a5 y=>?_))))
    ·refine W.region (va (v3) (va (I a.2.2) (va (I b) (va (I (w64 (a.2.2 - b))) (bn y fun i4 g2 y=>?_)))));obtain ⟨l6,b5,m5⟩:=Sl.at (h4.mono (x2.trans (z2.trans (a3.trans k5)))) (aX g2);obtain ⟨v51,rfl,j1⟩:=b5;refine vx (ix cG h4.m g2) (vx (lN 114 m5) ?_);obtain ⟨x1,z1,b2,rfl⟩:=(j1).form;refine md (sA 114 [I i4.Kind,.slice x1 z1 b2] 0 s1 ⟨rfl,j1.one,trivial⟩) ?_;rintro w4 t6 v4;refine wln ?_;obtain rfl:=si y;exact jn w4 ⟨(.slice x1 z1 b2),v4,rfl,j1.m⟩
    refine W.skip (nrm ?_);obtain rfl:=si y;exact jn c2 ⟨(.slice t1 u1 w1),s1,rfl,i1.m⟩
   rintro e_ w_ ⟨n,s6,_,rfl,u6,rfl,v45,g,rfl,d5⟩;refine W.seq (bn l0 fun t i2 l0=>W.join (Jn n fun c l=>Own c G ((Eb i 114 [I h.1,v45]) :: es true ag v7 114 P a.2.1 :: F)∧l= [(0,v1),(1,B a.1),(2,I b),(3,v3),(10,v7),(11,I a.2.2),(12,B j),(13,Q i),(14,B t)]) ?_ ?_)
   ·clear l0;refine W.region (va (B j) (va (B (!j)) ?_));rcases bo (!j) with T | T
    ·have d:=anT T i2;refine vb T (wa (Q i) (wn (vx (le1 0 u_3 (g.on 0 rfl)) (wa (B (h.1==2)) (wn (bn d fun w5 j2 d=>?_))))));rcases bo (h.1==2) with U | U
     ·have n4:=anT U j2;refine vb U (wa (I a.2.2) (wa (I (w64 (a.2.2+1))) (wa (I b) (wa (B (decide ((w64 (a.2.2+1))≥b))) (wn ?_)))));obtain rfl:=si n4;refine va (B (decide ((w64 (a.2.2+1))≥b))) (wn (bn d fun s3 k2 d=>?_));rcases bo (decide ((w64 (a.2.2+1))≥b)) with X | X
      ·have o4:=anT X k2;refine vb X (wa (I a.2.2) (wa (I (w64 (a.2.2+1))) (wa (I b) (wa (v3) (wn (vx (ln 3 cG h4.m) (wa (I (w64 (b+(f.length:Int)))) (wa (B (decide ((w64 (a.2.2+1)) < (w64 (b+(f.length:Int)))))) (wn ?_)))))))));obtain rfl:=si o4;refine va (B (decide ((w64 (a.2.2+1)) < (w64 (b+(f.length:Int)))))) (wn (bn d fun a1 l2 d=>?_));rcases bo (decide ((w64 (a.2.2+1)) < (w64 (b+(f.length:Int))))) with Z | Z
       ·obtain rfl:=orT Z l2;refine vb Z (pz (pz (pz (pz (pz (pz (pz (pz (pz (wa (B true) ?_))))))))));obtain rfl:=si d;exact vv (B true) (wln (jn n ⟨g,rfl⟩))
       have q:=orF Z l2;refine vb Z (wa (Q i) (wn (vx (le1 0 u_3 (g.on 0 rfl)) (wa (B (h.1==3)) (wn (bn q fun b1 m2 q=>?_))))));rcases bo (h.1==3) with a0 | a0
       ·have p4:=anT a0 m2;refine vb a0 (wa (I a.2.2) (wa (I (w64 (a.2.2 - 1))) (wa (I b) (wa (B (decide ((w64 (a.2.2 - 1))≥b))) (wn ?_)))));obtain rfl:=si p4;refine va (B (decide ((w64 (a.2.2 - 1))≥b))) (wn (bn q fun A n2 q=>?_));rcases bo (decide ((w64 (a.2.2 - 1))≥b)) with b0 | b0
        ·have q4:=anT b0 n2;refine vb b0 (wa (I a.2.2) (wa (I (w64 (a.2.2 - 1))) (wa (I b) (wa (v3) (wn (vx (ln 3 cG h4.m) (wa (I (w64 (b+(f.length:Int)))) (wa (B (decide ((w64 (a.2.2 - 1)) < (w64 (b+(f.length:Int)))))) (wn ?_)))))))));obtain rfl:=si q4;refine va (B (decide ((w64 (a.2.2 - 1)) < (w64 (b+(f.length:Int)))))) (wn ?_);obtain rfl:=si q;refine va (B (decide ((w64 (a.2.2 - 1)) < (w64 (b+(f.length:Int)))))) ?_;obtain rfl:=si d;exact vv (B (decide ((w64 (a.2.2 - 1)) < (w64 (b+(f.length:Int)))))) (wln (jn n ⟨g,rfl⟩))
        obtain rfl:=anF b0 n2;refine vb b0 (pz (pz (pz (ps (wa (B false) (wn ?_))))));obtain rfl:=si q;refine va (B false) ?_;obtain rfl:=si d;exact vv (B false) (wln (jn n ⟨g,rfl⟩))
       obtain rfl:=anF a0 m2;refine vb a0 (pz (pz (wa (B false) (wn (bn q fun A e5 q=>?_)))));have o2:false=false:=rfl;obtain rfl:=anF o2 e5;refine vb o2 (pz (pz (pz (ps (wa (B false) (wn ?_))))));obtain rfl:=si q;refine va (B false) ?_;obtain rfl:=si d;exact vv (B false) (wln (jn n ⟨g,rfl⟩))
      obtain rfl:=anF X k2;refine vb X (pz (pz (pz (ps (wa (B false) (wn (bn d fun a1 f5 d=>?_)))))));have q2:false=false:=rfl;have s:=orF q2 f5;refine vb q2 (wa (Q i) (wn (vx (le1 0 u_3 (g.on 0 rfl)) (wa (B (h.1==3)) (wn (bn s fun b1 s2 s=>?_))))));rcases bo (h.1==3) with d0 | d0
      ·have r4:=anT d0 s2;refine vb d0 (wa (I a.2.2) (wa (I (w64 (a.2.2 - 1))) (wa (I b) (wa (B (decide ((w64 (a.2.2 - 1))≥b))) (wn ?_)))));obtain rfl:=si r4;refine va (B (decide ((w64 (a.2.2 - 1))≥b))) (wn (bn s fun A t2 s=>?_));rcases bo (decide ((w64 (a.2.2 - 1))≥b)) with e0 | e0
       ·have s4:=anT e0 t2;refine vb e0 (wa (I a.2.2) (wa (I (w64 (a.2.2 - 1))) (wa (I b) (wa (v3) (wn (vx (ln 3 cG h4.m) (wa (I (w64 (b+(f.length:Int)))) (wa (B (decide ((w64 (a.2.2 - 1)) < (w64 (b+(f.length:Int)))))) (wn ?_)))))))));obtain rfl:=si s4;refine va (B (decide ((w64 (a.2.2 - 1)) < (w64 (b+(f.length:Int)))))) (wn ?_);obtain rfl:=si s;refine va (B (decide ((w64 (a.2.2 - 1)) < (w64 (b+(f.length:Int)))))) ?_;obtain rfl:=si d;exact vv (B (decide ((w64 (a.2.2 - 1)) < (w64 (b+(f.length:Int)))))) (wln (jn n ⟨g,rfl⟩))
       obtain rfl:=anF e0 t2;refine vb e0 (pz (pz (pz (ps (wa (B false) (wn ?_))))));obtain rfl:=si s;refine va (B false) ?_;obtain rfl:=si d;exact vv (B false) (wln (jn n ⟨g,rfl⟩))
      obtain rfl:=anF d0 s2;refine vb d0 (pz (pz (wa (B false) (wn (bn s fun A g5 s=>?_)))));have u2:false=false:=rfl;obtain rfl:=anF u2 g5;refine vb u2 (pz (pz (pz (ps (wa (B false) (wn ?_))))));obtain rfl:=si s;refine va (B false) ?_;obtain rfl:=si d;exact vv (B false) (wln (jn n ⟨g,rfl⟩))
     obtain rfl:=anF U j2;refine vb U (pz (pz (wa (B false) (wn (bn d fun s3 i5 d=>?_)))));have v2:false=false:=rfl;obtain rfl:=anF v2 i5;refine vb v2 (pz (pz (pz (ps (wa (B false) (wn (bn d fun a1 j5 d=>?_)))))));have w2:false=false:=rfl;have k:=orF w2 j5;refine vb w2 (wa (Q i) (wn (vx (le1 0 u_3 (g.on 0 rfl)) (wa (B (h.1==3)) (wn (bn k fun b1 c1 k=>?_))))));rcases bo (h.1==3) with D | D
     ·have c3:=anT D c1;refine vb D (wa (I a.2.2) (wa (I (w64 (a.2.2 - 1))) (wa (I b) (wa (B (decide ((w64 (a.2.2 - 1))≥b))) (wn ?_)))));obtain rfl:=si c3;refine va (B (decide ((w64 (a.2.2 - 1))≥b))) (wn (bn k fun A d1 k=>?_));rcases bo (decide ((w64 (a.2.2 - 1))≥b)) with E | E
      ·have d3:=anT E d1;refine vb E (wa (I a.2.2) (wa (I (w64 (a.2.2 - 1))) (wa (I b) (wa (v3) (wn (vx (ln 3 cG h4.m) (wa (I (w64 (b+(f.length:Int)))) (wa (B (decide ((w64 (a.2.2 - 1)) < (w64 (b+(f.length:Int)))))) (wn ?_)))))))));obtain rfl:=si d3;refine va (B (decide ((w64 (a.2.2 - 1)) < (w64 (b+(f.length:Int)))))) (wn ?_);obtain rfl:=si k;refine va (B (decide ((w64 (a.2.2 - 1)) < (w64 (b+(f.length:Int)))))) ?_;obtain rfl:=si d;exact vv (B (decide ((w64 (a.2.2 - 1)) < (w64 (b+(f.length:Int)))))) (wln (jn n ⟨g,rfl⟩))
      obtain rfl:=anF E d1;refine vb E (pz (pz (pz (ps (wa (B false) (wn ?_))))));obtain rfl:=si k;refine va (B false) ?_;obtain rfl:=si d;exact vv (B false) (wln (jn n ⟨g,rfl⟩))
     obtain rfl:=anF D c1;refine vb D (pz (pz (wa (B false) (wn (bn k fun A t3 k=>?_)))));have e1:false=false:=rfl;obtain rfl:=anF e1 t3;refine vb e1 (pz (pz (pz (ps (wa (B false) (wn ?_))))));obtain rfl:=si k;refine va (B false) ?_;obtain rfl:=si d;exact vv (B false) (wln (jn n ⟨g,rfl⟩))
    obtain rfl:=anF T i2;exact vb T (pz (pz (pz (pz (pz (pz (pz (pz (pz (pz (pz (pz (pz (pz (pz (pz (pz (pz (pz (vv (B false) (wln (jn n ⟨g,rfl⟩))))))))))))))))))))))
   rintro e_ w_ ⟨y0,x5,_,rfl,c6,rfl,q0,rfl⟩;refine nrm (bn l0 fun p x e3=>W.seqJ (Jn y0 fun c l=>∃u,Own c G ((Eb i 114 [I p.1,u]) :: es true ag v7 114 P a.2.1 :: F)∧l= [(0,v1),(1,B a.1),(2,I b),(3,v3),(10,v7),(11,I a.2.2),(12,B j),(13,Q i),(14,B t)]∧Sl (RI .i32) c u p.2) ?_ ?_)
   ·refine sr (va (B t) (wln (cn x (fun u3 x=>?_) (fun u3 x=>?_))))
    ·refine W.region (va (.agg #[I 0,Y]) (md (sA 114 [I 0,Y] 0 q0 ⟨rfl,rfl,trivial⟩) ?_));rintro n3 d6 g3;refine wln ?_;obtain rfl:=si x;exact jn n3 ⟨(Y),g3,rfl,(Sl.nl _ _)⟩
    refine W.skip (nrm ?_);obtain rfl:=si x;exact jn y0 ⟨v45,q0,rfl,d5.m⟩
   rintro e_ w_ ⟨z,y5,_,rfl,e6,rfl,u,g0,rfl,f1⟩;refine bn e3 fun k4 o f0=>W.seqJ (Jn z fun c l=>Own c G ((Eb i 114 [I p.1,u]) :: es true ag v7 114 P a.2.1 :: F)∧l= [(0,v1),(1,B k4),(2,I b),(3,v3),(10,v7),(11,I a.2.2),(13,Q i)]) ?_ ?_
   ·refine W.seq (bn o fun n1 g1 o=>W.join (Jn z fun c l=>Own c G ((Eb i 114 [I p.1,u]) :: es true ag v7 114 P a.2.1 :: F)∧l= [(0,v1),(1,B a.1),(2,I b),(3,v3),(10,v7),(11,I a.2.2),(13,Q i),(97,B n1)]) ?_ ?_)
    ·clear o;refine W.region (va (I a.2.2) (va (I (w64 (a.2.2+1))) (va (v1) (vx (ln 3 cG h2.m) (va (B ((w64 (a.2.2+1))==(p0.length:Int))) ?_)))));rcases bo ((w64 (a.2.2+1))==(p0.length:Int)) with M | M
     ·have R:=anT M g1;refine vb M (wa (B j) (wn (bn R fun q5 h1 R=>?_)));rcases bo (j) with N | N
      ·obtain rfl:=orT N h1;refine vb N (ps (wa (B true) ?_));obtain rfl:=si R;exact va (B true) (wln (jn z ⟨g0,rfl⟩))
      have f3:=orF N h1;refine vb N (wa (B t) (wn ?_));obtain rfl:=si f3;refine va (B t) ?_;obtain rfl:=si R;exact va (B t) (wln (jn z ⟨g0,rfl⟩))
     obtain rfl:=anF M g1;exact vb M (pz (pz (va (B false) (wln (jn z ⟨g0,rfl⟩)))))
    rintro e_ w_ ⟨z0,z5,_,rfl,f6,rfl,t0,rfl⟩;refine nrm (cn o (fun w3 o=>?_) (fun w3 o=>?_))
    ·refine W.region (va (B false) (wln ?_));obtain rfl:=si o;exact jn z0 ⟨t0,rfl⟩
    refine W.skip (nrm ?_);obtain rfl:=si o;exact jn z0 ⟨t0,rfl⟩
   rintro e_ w_ ⟨t5,a6,_,rfl,e4,rfl,u0,rfl⟩;refine W.region (va (v7) (vx (leN 114 0 [I p.1,u] (u0.on 0 rfl)) ?_));obtain ⟨v0,w0,x0,rfl⟩:=((f1.mono e4)).form;refine me (sl ag 114 [[I p.1,.slice v0 w0 x0]] ([(⟨p.1,p.2⟩:ab)]:List ab) u0 ⟨⟨(.slice v0 w0 x0),rfl,f1.m⟩,trivial⟩) ?_;rintro n6 u5 g6 ⟨m6,h3,x3⟩;obtain ⟨v5,z3,h6,i3,y3⟩:=h3.frz 0 rfl x3;refine WL.gh z3 (bn f0 fun r5 a4 f0=>me (ap ag (.agg #[I 0,Y]) 32 46 2 i3 d2.m y3 a4 cG) ?_);rintro m1 o3 i6 ⟨f4,j3,b4⟩;refine va (m1) (WL.nil (bkn (nrm (W.region (va (I a.2.2) (vv (I (w64 (a.2.2+1))) (WL.nil ?_)))))));obtain rfl:=si f0;refine ⟨_,rfl,?_⟩;have k3:=j3.sD 3 [2];exact jn o3 ⟨m1,f4,k3,rfl,b4⟩
  refine W.exit (thx ?_);obtain rfl:=si H;exact ⟨_,rfl,rfl,jn m0 ⟨v7,P,s0,rfl,d2⟩⟩
 ·have c4:OA ag c0 (Y) [] []:=OA.nil (aM _);have l3:=O0.addHole (e:=es true ag (Y) 114 [] ([]:List ab)) rfl;exact jn c0 ⟨(Y),[],l3,rfl,c4⟩
 rintro _ e_ w_ ⟨rfl,q3,b6,_,rfl,j6,rfl,v9,o0,m3,rfl,d4⟩;refine bke (nrm (sr (va (v9) (va (B b3.1) (va (v9) (va (B b3.1) (wln (W.ret ?_))))))));obtain rfl:=si H6;exact r2 (qq q3 ⟨v9,o0,m3,rfl,d4⟩)
def fX (p0:Int) (p1:Int) (p2:Int):Option (Int):=
 some (aE p1 (aB p0 p2))
theorem lY (e:Own c0 G F) (a:Int) (d:Int) (b:Int) {r:Int} (H:fX a d b=some r): Calls prog 246 #[I a,I d,I b] c0.w (aO c0 fun c v=>Own c G (F)∧v=I r):=by
 unfold fX at H;refine en func246 rfl rfl (sr (va (I 0) (wln (sr (va (I d) (va (I a) (va (I b) (va (I (aB a b)) (vv (I (aE d (aB a b))) (wln (W.ret ?_)))))))))));obtain rfl:=si H;exact r1 (qq c0 ⟨e,rfl⟩)
def gP (sg:Sto) (p0:Option Nat) (p1:Int) (p2:Int):Option (Sto):=
 (bN sg p0).bind fun e=>
 (fX p1 0 e).bind fun a=>
 (bN sg p0).bind fun f=>
 (fX p2 0 f).bind fun b=>
 if (decide (a < b))=true then
 (ew (w64 (b - a))).bind fun c=>
 (dQ sg p0 a c).bind fun d=>
 some d.1
 else
 some sg
theorem mF (U:Own c0 G F) (e:Rel c0 sg G) (hG:Gl [2,4] c0) (d:Option Nat) (f:Int) (g:Int) {r:Sto} (i:Pt 0 c0 v1 d) (H:gP sg d f g=some r): Calls prog 247 #[v1,I f,I g] c0.w (aO c0 fun c v=>∃G_:Gm,Own c G_ (F)∧Rel c r G_∧v= .tuple #[]):=by
 unfold gP at H;refine en func247 rfl rfl (sr (va (I f) (va (v1) (bn H fun S Z H=>cl (cF U e d i Z) ?_))));rintro v9 c8 l8 ⟨X,rfl⟩;refine bn H fun a y H=>cl (lY X f 0 S y) ?_;rintro v16 b0 h0 ⟨l,rfl⟩;refine va (I g) (va (v1) (bn H fun T z H=>cl (cF l e.m d i.m z) ?_));rintro v23 d0 i0 ⟨n,rfl⟩;refine bn H fun b A H=>cl (lY n g 0 T A) ?_;rintro v30 u j0 ⟨h,rfl⟩;refine va (I a) (va (I b) (wln (sr (va (I a) (va (I b) (va (B (decide (a < b))) (wln (cn H (fun D H=>?_) (fun D H=>?_)))))))))
 ·refine W.region (va (v1) (va (I a) (va (I b) (va (I a) (va (I (w64 (b - a))) (bn H fun j E H=>cl (jS h (w64 (b - a)) E) ?_))))));rintro v33 e0 k0 ⟨_,o0,o,rfl,M⟩;obtain ⟨f0,P,l0,p,N⟩:=o.frz 0 rfl M;refine WL.gh P (bn H fun a0 R H=>cl (jM p e.m (hG.m.le (by decide)) d a j i.m N R) ?_);rintro v47 x m0 ⟨_,k,q,t,rfl,g0⟩;refine WL.nil ?_;obtain rfl:=si H;have s:=q.sD 1 [];exact n0 (qq x ⟨k,s,t,rfl⟩)
 refine W.skip ?_;obtain rfl:=si H;exact n0 (qq u ⟨G,h,e.m,rfl⟩)
def jR (sg:Sto) (p0:Option Nat) (p1:Int) (p2:Int):Option (Sto):=
 (bV (decide (p1≥0)) (some (decide (p2 > 0)))).bind fun f=>
 if f=true then
 (bN sg p0).bind fun b=>
 (fX p1 0 b).bind fun a=>
 (bN sg p0).bind fun c=>
 (fX p2 0 c).bind fun d=>
 (gP sg p0 a (w64 (a+d))).bind fun e=>
 some e
 else
 some sg
theorem we (o:Own c0 G F) (h:Rel c0 sg G) (hG:Gl [2,4] c0) (f:Option Nat) (b:Int) (d:Int) {r:Sto} (i:Pt 0 c0 v1 f) (H:jR sg f b d=some r): Calls prog 192 #[v1,I b,I d] c0.w (aO c0 fun c v=>∃G_:Gm,Own c G_ (F)∧Rel c r G_∧v= .tuple #[]):=by
 unfold jR at H;refine en func192 rfl rfl (W.seq (bn H fun A P H=>W.join (Jn c0 fun c l=>Own c G (F)∧l= [(0,v1),(1,I b),(2,I d),(11,B A)]) ?_ ?_))
 ·clear H;refine W.region (va (I b) (va (B (decide (b≥0))) ?_));rcases bo (decide (b≥0)) with e | e
  ·have T:=anT e P;refine vb e (wa (I d) (wa (B (decide (d > 0))) ?_));obtain rfl:=si T;exact va (B (decide (d > 0))) (wln (jn c0 ⟨o,rfl⟩))
  obtain rfl:=anF e P;exact vb e (pz (va (B false) (wln (jn c0 ⟨o,rfl⟩))))
 rintro e_ w_ ⟨U,g7,_,rfl,l6,rfl,x,rfl⟩;refine nrm (cn H (fun D H=>?_) (fun D H=>?_))
 ·refine sr (va (I b) (va (v1) (bn H fun j E H=>cl (cF x h.m f i.m E) ?_)));rintro v19 Z e0 ⟨p,rfl⟩;refine bn H fun a M H=>cl (lY p b 0 j M) ?_;rintro v26 a0 f0 ⟨q,rfl⟩;refine va (I a) (wln (W.region (va (v1) (vv (I a) (va (I d) (va (v1) (bn H fun k N H=>cl (cF q h.m f i.m N) ?_)))))));rintro v33 b0 g0 ⟨s,rfl⟩;refine bn H fun g R H=>cl (lY s d 0 k R) ?_;rintro v40 d0 h0 ⟨t,rfl⟩;refine va (I (w64 (a+g))) (bn H fun X S H=>cl (mF t h.m (hG.m.le (by decide)) f a (w64 (a+g)) i.m S) ?_);rintro v47 z i0 ⟨n,u,y,rfl⟩;refine WL.nil ?_;obtain rfl:=si H;exact n0 (qq z ⟨n,u,y,rfl⟩)
 refine W.skip ?_;obtain rfl:=si H;exact n0 (qq U ⟨G,x,h.m,rfl⟩)
def kW (sg:Sto) (p0:Option Nat) (p1:Int):Option (Sto):=
 (bN sg p0).bind fun a=>
 (gP sg p0 p1 a).bind fun b=>
 some b
theorem wd (l:Own c0 G F) (f:Rel c0 sg G) (hG:Gl [2,4] c0) (a:Option Nat) (b:Int) {r:Sto} (j:Pt 0 c0 v1 a) (H:kW sg a b=some r): Calls prog 243 #[v1,I b] c0.w (aO c0 fun c v=>∃G_:Gm,Own c G_ (F)∧Rel c r G_∧v= .tuple #[]):=by
 unfold kW at H;refine en func243 rfl rfl (W.region (va (v1) (va (I b) (va (v1) (bn H fun k o H=>cl (cF l f a j o) ?_)))));rintro v9 s t ⟨n,rfl⟩;refine bn H fun q i H=>cl (mF n f.m (hG.m.le (by decide)) a b k j.m i) ?_;rintro v16 h p ⟨d,e,g,rfl⟩;refine WL.nil ?_;obtain rfl:=si H;exact n0 (qq h ⟨d,e,g,rfl⟩)
def lM (sg:Sto) (p0:Option Nat) (p1:Int):Option (Sto):=
 (bN sg p0).bind fun a=>
 (fX p1 (-1) a).bind fun b=>
 (gP sg p0 0 (w64 (b+1))).bind fun c=>
 some c
theorem xA (p:Own c0 G F) (h:Rel c0 sg G) (hG:Gl [2,4] c0) (a:Option Nat) (b:Int) {r:Sto} (n:Pt 0 c0 v1 a) (H:lM sg a b=some r): Calls prog 244 #[v1,I b] c0.w (aO c0 fun c v=>∃G_:Gm,Own c G_ (F)∧Rel c r G_∧v= .tuple #[]):=by
 unfold lM at H;refine en func244 rfl rfl (W.region (va (v1) (va (I b) (va (v1) (bn H fun o s H=>cl (cF p h a n s) ?_)))));rintro v9 z A ⟨q,rfl⟩;refine bn H fun d k H=>cl (lY q b (-1) o k) ?_;rintro v16 t u ⟨f,rfl⟩;refine va (I (w64 (d+1))) (bn H fun y l H=>cl (mF f h.m (hG.m.le (by decide)) a 0 (w64 (d+1)) n.m l) ?_);rintro v23 j x ⟨e,g,i,rfl⟩;refine WL.nil ?_;obtain rfl:=si H;exact n0 (qq j ⟨e,g,i,rfl⟩)
def ki (sg:Sto) (p0:Option Nat):Option (Sto):=
 (bN sg p0).bind fun a=>
 (gP sg p0 0 a).bind fun b=>
 (fa b p0 false).bind fun c=>
 some c
theorem uq (o:Own c0 G F) (g:Rel c0 sg G) (hG:Gl [2,4] c0) (a:Option Nat) {r:Sto} (b:Pt 0 c0 v1 a) (H:ki sg a=some r): Calls prog 245 #[v1] c0.w (aO c0 fun c v=>∃G_:Gm,Own c G_ (F)∧Rel c r G_∧v= .tuple #[]):=by
 unfold ki at H;refine en func245 rfl rfl (sr (vv (v1) (bn H fun n q H=>cl (cF o g a b q) ?_)));rintro v9 A D ⟨p,rfl⟩;refine bn H fun y k H=>cl (mF p g.m (hG.m.le (by decide)) a 0 n b.m k) ?_;rintro v16 t u ⟨s,e,h,rfl⟩;refine wln (W.region (va (v1) (bn H fun z l H=>cl (lW e h a false b.m l) ?_)));rintro v23 j x ⟨d,f,i,rfl⟩;refine WL.nil ?_;obtain rfl:=si H;exact n0 (qq j ⟨d,f,i,rfl⟩)
def cP (p0:List ab) (p1:Bool) (p2:Int) (p3:Int):Option ((List ab)×Bool):=
 if (decide ((aE 0 (aB p2 (p0.length:Int)))≥(aE 0 (aB p3 (p0.length:Int)))))=true then
 some (p0,p1)
 else
 (rep (w64 ((aE 0 (aB p3 (p0.length:Int))) - (aE 0 (aB p2 (p0.length:Int))))) (⟨0,([]:List Int)⟩:ab)).bind fun b=>
 (ek p0 p1 (aE 0 (aB p2 (p0.length:Int))) b).bind fun a=>
 some (a.1,a.2)
theorem fE (k:Own c0 G F) (a:List ab) (e:Bool) (b:Int) (d:Int) {r:(List ab)×Bool} (g:Sl ag c0 v1 a) (H:cP a e b d=some r): Calls prog 260 #[v1,B e,I b,I d] c0.w (aO c0 fun c v=>∃M,Own c G (F)∧v= .tuple #[M,B r.2]∧Sl ag c M r.1):=by
 unfold cP at H;refine en func260 rfl rfl (sr (va (Y) (va (B false) (wln (sr (va (I b) (va (v1) (vx (ln 3 cG g) (va (I (aB b (a.length:Int))) (vv (I (aE 0 (aB b (a.length:Int)))) (wln (sr (va (I d) (va (v1) (vx (ln 3 cG g) (va (I (aB d (a.length:Int))) (vv (I (aE 0 (aB d (a.length:Int)))) (wln (W.seq (sr (va (I (aE 0 (aB b (a.length:Int)))) (va (I (aE 0 (aB d (a.length:Int)))) (va (B (decide ((aE 0 (aB b (a.length:Int)))≥(aE 0 (aB d (a.length:Int)))))) (wln (cn H (fun P H=>?_) (fun P H=>?_))))))))))))))))))))))))))
 ·refine sr (va (v1) (va (B e) (va (v1) (va (B e) (wln (W.ret (thr ?_)))))));obtain rfl:=si H;exact r2 (qq c0 ⟨v1,k,rfl,g⟩)
 refine W.skip (nrm (sr (va (v1) (va (B e) (va (I (aE 0 (aB b (a.length:Int)))) (va (I (aE 0 (aB d (a.length:Int)))) (va (I (aE 0 (aB b (a.length:Int)))) (va (I (w64 ((aE 0 (aB d (a.length:Int))) - (aE 0 (aB b (a.length:Int)))))) (bn H fun h E H=>me (Own.mkS (kl:= .i64) (kc:= .i64) (R:=ag) (z:= .agg #[I 0,Y]) (lz:=[I 0,Y]) (x:=(⟨0,([]:List Int)⟩:ab)) (by_:=32) (i:=(w64 ((aE 0 (aB d (a.length:Int))) - (aE 0 (aB b (a.length:Int)))))) (j:=(w64 ((aE 0 (aB d (a.length:Int))) - (aE 0 (aB b (a.length:Int)))))) true k (aM _) E (oN _) (rR E) cG (by kernel_rfl) rfl rfl (fun _=>⟨(Y),rfl,(Sl.nl _ _)⟩) (by kernel_rfl) (by kernel_rfl)) ?_)))))))));rintro v9 c8 l8 ⟨u6,N,S⟩;obtain ⟨T,t,X,l,s⟩:=N.frz 0 rfl S;refine WL.gh t (bn H fun f u H=>cl (mj l a e (aE 0 (aB b (a.length:Int))) h g.m s u) ?_);rintro v23 U Z ⟨v15,b0,n,rfl,y⟩;refine va (v15) (va (B f.2) (va (v15) (va (B f.2) (wln (W.ret ?_)))));obtain rfl:=si H;obtain ⟨q,D,a0,o,A⟩:=n.frz 0 rfl y;have p:=o.sD 2 [];exact zS D (r2 (qq q ⟨v15,p,rfl,A⟩))
def gF (p0:List ab) (p1:Bool) (p2:Int) (p3:Int) (p4:Int):Option ((List ab)×Bool):=
 if (p2==0)=true then
 (cP p0 p1 p3 p4).bind fun b=>
 some (b.1,b.2)
 else
 if (p2==1)=true then
 if (decide (p3 < 0))=true then
 some (p0,p1)
 else
 (cP p0 p1 0 (w64 ((aB p3 (p0.length:Int))+1))).bind fun c=>
 some (c.1,c.2)
 else
 if (p2==2)=true then
 (cP p0 p1 p3 (p0.length:Int)).bind fun d=>
 some (d.1,d.2)
 else
 if (p2==3)=true then
 (cP p0 p1 0 (p0.length:Int)).bind fun g=>
 some (g.1,false)
 else
 (orE (decide (p3 < 0)) (some (decide (p4 < 1)))).bind fun e=>
 (orE e (some (decide (p3≥(p0.length:Int))))).bind fun f=>
 if f=true then
 some (p0,p1)
 else
 (cP p0 p1 p3 (w64 (p3+(aB p4 (p0.length:Int))))).bind fun a=>
 some (a.1,a.2)
theorem rm (g:Own c0 G F) (a:List ab) (d:Bool) (f:Int) (b:Int) (e:Int) {r:(List ab)×Bool} (h:Sl ag c0 v1 a) (H:gF a d f b e=some r): Calls prog 207 #[v1,B d,I f,I b,I e] c0.w (aO c0 fun c v=>∃y1,Own c G (F)∧v= .tuple #[y1,B r.2]∧Sl ag c y1 r.1):=by
 unfold gF at H;refine en func207 rfl rfl (sr (va (Y) (va (B false) (wln (sr (va (v1) (vx (ln 3 cG h) (va (I (a.length:Int)) (wln (W.seq (sr (va (I f) (wln (W.block (sr (vv (B (f==0)) (wln (cn H (fun h3 H=>?_) (fun h3 H=>?_)))))))))))))))))))
 ·refine sr (va (v1) (va (B d) (va (I b) (va (I e) (bn H fun p h4 H=>cl (fE g a d b e h h4) ?_)))));rintro v12 P x0 ⟨v5,O8,rfl,h6⟩;refine va (v5) (va (B p.2) (va (v5) (va (B p.2) (wln (W.ret (bkr (thr ?_)))))));obtain rfl:=si H;exact r2 (qq P ⟨v5,O8,rfl,h6⟩)
 refine sr (vv (B (f==1)) (wln (cn H (fun Z H=>?_) (fun Z H=>?_))))
 ·refine W.seq (sr (va (I b) (va (B (decide (b < 0))) (wln (cn H (fun a0 H=>?_) (fun a0 H=>?_))))))
  ·refine sr (va (v1) (va (B d) (va (v1) (va (B d) (wln (W.ret (thr (bkr (thr ?_)))))))));obtain rfl:=si H;exact r2 (qq c0 ⟨v1,g,rfl,h⟩)
  refine W.skip (nrm (sr (va (v1) (va (B d) (va (I b) (va (I (a.length:Int)) (va (I (aB b (a.length:Int))) (va (I (w64 ((aB b (a.length:Int))+1))) (bn H fun q b0 H=>cl (fE g a d 0 (w64 ((aB b (a.length:Int))+1)) h b0) ?_)))))))));rintro v23 R y0 ⟨v16,D,rfl,d0⟩;refine va (v16) (va (B q.2) (va (v16) (va (B q.2) (wln (W.ret (bkr (thr ?_)))))));obtain rfl:=si H;exact r2 (qq R ⟨v16,D,rfl,d0⟩)
 refine sr (vv (B (f==2)) (wln (cn H (fun e0 H=>?_) (fun e0 H=>?_))))
 ·refine sr (va (v1) (va (B d) (va (I b) (va (I (a.length:Int)) (bn H fun s f0 H=>cl (fE g a d b (a.length:Int) h f0) ?_)))));rintro v33 S z0 ⟨v26,E,rfl,g0⟩;refine va (v26) (va (B s.2) (va (v26) (va (B s.2) (wln (W.ret (bkr (thr ?_)))))));obtain rfl:=si H;exact r2 (qq S ⟨v26,E,rfl,g0⟩)
 refine sr (vv (B (f==3)) (wln (cn H (fun h0 H=>?_) (fun h0 H=>?_))))
 ·refine sr (va (v1) (va (B d) (va (I (a.length:Int)) (bn H fun k i0 H=>cl (fE g a d 0 (a.length:Int) h i0) ?_))));rintro v43 T a1 ⟨v36,M,rfl,j0⟩;refine va (.tuple #[v36,B k.2]) (va (v36) (va (B k.2) (va (v36) (va (B k.2) (wln (sr (vv (v36) (va (B false) (wln (W.ret (bkr (thr ?_))))))))))));obtain rfl:=si H;exact r2 (qq T ⟨v36,M,rfl,j0⟩)
 refine W.skip (bkn (nrm (W.seq (W.seq (bn H fun s0 u H=>bn H fun y o H=>W.join (Jn c0 fun c l=>Own c G (F)∧l= [(0,v1),(1,B d),(3,I b),(4,I e),(12,I (a.length:Int)),(71,B y)]) ?_ ?_)))))
 ·clear H;refine W.region (va (I b) (va (B (decide (b < 0))) ?_));rcases bo (decide (b < 0)) with i | i
  ·obtain rfl:=orT i u;refine vb i (pz (va (B true) ?_));have x:true=true:=rfl;obtain rfl:=orT x o;exact vb x (pz (ps (va (B true) (wln (jn c0 ⟨g,rfl⟩)))))
  have z:=orF i u;refine vb i (wa (I e) (wa (B (decide (e < 1))) ?_));obtain rfl:=si z;refine va (B (decide (e < 1))) ?_;rcases bo (decide (e < 1)) with j | j
  ·obtain rfl:=orT j o;exact vb j (pz (ps (va (B true) (wln (jn c0 ⟨g,rfl⟩)))))
  have A:=orF j o;refine vb j (wa (I b) (wa (I (a.length:Int)) (wa (B (decide (b≥(a.length:Int)))) ?_)));obtain rfl:=si A;exact va (B (decide (b≥(a.length:Int)))) (wln (jn c0 ⟨g,rfl⟩))
 rintro e_ w_ ⟨U,w0,_,rfl,b1,rfl,t,rfl⟩;refine nrm (cn H (fun k0 H=>?_) (fun k0 H=>?_))
 ·refine sr (va (v1) (va (B d) (va (v1) (va (B d) (wln (W.ret (thr ?_)))))));obtain rfl:=si H;exact r2 (qq U ⟨v1,t,rfl,h.m⟩)
 refine W.skip (nrm (sr (va (v1) (va (B d) (vv (I b) (va (I e) (va (I (a.length:Int)) (va (I (aB e (a.length:Int))) (va (I (w64 (b+(aB e (a.length:Int))))) (bn H fun n l0 H=>cl (fE t a d b (w64 (b+(aB e (a.length:Int)))) h.m l0) ?_))))))))));rintro d1 X c1 ⟨v59,N,rfl,m0⟩;refine va (v59) (va (B n.2) (va (v59) (va (B n.2) (wln (W.ret ?_)))));obtain rfl:=si H;exact r2 (qq X ⟨v59,N,rfl,m0⟩)
def bL (sg:Sto) (p0:Option Nat):Option (Int):=
 if p0.isNone=true then
 some 0
 else
 (p0).bind fun b=>
 (sg.grid_Grid[b]?).bind fun a=>
 some (a.rows.length:Int)
theorem bH (d:Own c0 G F) (k:Rel c0 sg G) (f:Option Nat) {r:Int} (j:Pt 1 c0 v1 f) (H:bL sg f=some r): Calls prog 78 #[v1] c0.w (aO c0 fun c v=>Own c G (F)∧v=I r):=by
 unfold bL at H;refine en func78 rfl rfl (sr (va (I 0) (wln (W.seq (sr (va (v1) (vr (B f.isNone) (by rcases (j).cs with ⟨a,b⟩ | ⟨q,a,b⟩ <;> (subst a; rw [b]; kernel_rfl)) (wln (cn H (fun l H=>?_) (fun l H=>?_))))))))))
 ·refine sr (va (I 0) (wln (W.ret (thr ?_))));obtain rfl:=si H;exact r1 (qq c0 ⟨d,rfl⟩)
 refine W.skip (nrm (sr (va (v1) (bn H fun p n H=>?_))));obtain ⟨g,rfl,m⟩:=(j).get n;refine vv (Q g) (bn H fun e o H=>?_);obtain ⟨v8,s,i,h⟩:=Rel.open_grid_Grid k o m;refine vx (le1 0 mh (d.gon i 0 rfl)) (vx (lnO 3 mh h) (va (I (e.rows.length:Int)) (wln (W.ret ?_))));obtain rfl:=si H;exact r1 (qq c0 ⟨d,rfl⟩)
def lA (sg:Sto) (p0:Option Nat) (p1:Int) (p2:Int) (p3:Int):Option (gW×Bool):=
 (bL sg p0).bind fun b=>
 (bL sg p0).bind fun a=>
 (bV (decide ((aE 0 (aB p1 b)) < (aE 0 (aB p2 a)))) (some (decide (p3 > 0)))).bind fun c=>
 some ((⟨(aE 0 (aB p1 b)),(aE 0 (aB p2 a)),(aB p3 (w64 ((aE 0 (aB p2 a)) - (aE 0 (aB p1 b)))))⟩:gW),c)
theorem un (S:Own c0 G F) (z:Rel c0 sg G) (j:Option Nat) (d:Int) (e:Int) (f:Int) {r:gW×Bool} (R:Pt 1 c0 v1 j) (H:lA sg j d e f=some r): Calls prog 238 #[v1,I d,I e,I f] c0.w (aO c0 fun c v=>Own c G (F)∧v= .tuple #[.agg #[I r.1.from_,I r.1.to_,I r.1.n],B r.2]):=by
 unfold lA at H;refine en func238 rfl rfl (sr (me (al 300 [I 0,I 0,I 0] S) ?_));rintro v6 c5 l5 ⟨D,rfl,T⟩;refine va (B false) (wln (sr (va (I d) (va (v1) (bn H fun b X H=>cl (bH T z.m j R.m X) ?_)))));rintro v13 Z e0 ⟨U,rfl⟩;refine va (I (aB d b)) (va (I (aE 0 (aB d b))) (va (I e) (va (v1) (bn H fun a P H=>cl (bH U z.m j R.m P) ?_))));rintro v20 a0 f0 ⟨s,rfl⟩;refine va (I (aB e a)) (va (I (aE 0 (aB e a))) (va (I (aE 0 (aB d b))) (va (I (aE 0 (aB e a))) (wln (sr (va (I (aE 0 (aB d b))) (va (I (aE 0 (aB e a))) (va (I f) (va (I (aE 0 (aB e a))) (va (I (aE 0 (aB d b))) (va (I (w64 ((aE 0 (aB e a)) - (aE 0 (aB d b))))) (va (I (aB f (w64 ((aE 0 (aB e a)) - (aE 0 (aB d b)))))) (va (.agg #[I (aE 0 (aB d b)),I (aE 0 (aB e a)),I (aB f (w64 ((aE 0 (aB e a)) - (aE 0 (aB d b)))))]) (me (al 300 [I 0,I 0,I 0] s) ?_))))))))))))));rintro v24 b0 g0 ⟨A,rfl,t⟩;refine md (sA 300 [I (aE 0 (aB d b)),I (aE 0 (aB e a)),I (aB f (w64 ((aE 0 (aB e a)) - (aE 0 (aB d b)))))] 0 t ⟨rfl,rfl,rfl,trivial⟩) ?_;rintro E h0 h;refine wln (W.seq (bn H fun i p H=>W.join (Jn E fun c l=>Own c G ((Eb A 300 [I (aE 0 (aB d b)),I (aE 0 (aB e a)),I (aB f (w64 ((aE 0 (aB e a)) - (aE 0 (aB d b)))))]) :: (Eb D 300 [I (aE 0 (aB d b)),I (aE 0 (aB e a)),I (aB f (w64 ((aE 0 (aB e a)) - (aE 0 (aB d b)))))]) :: F)∧l= [(8,Q D),(9,B i)]) ?_ ?_))
 ·clear H;refine W.region (vx (leN 300 0 [I (aE 0 (aB d b)),I (aE 0 (aB e a)),I (aB f (w64 ((aE 0 (aB e a)) - (aE 0 (aB d b)))))] (h.on 0 rfl)) (va (I (aE 0 (aB d b))) (va (I (aE 0 (aB e a))) (va (B (decide ((aE 0 (aB d b)) < (aE 0 (aB e a))))) ?_))));rcases bo (decide ((aE 0 (aB d b)) < (aE 0 (aB e a)))) with g | g
  ·have q:=anT g p;refine vb g (wa (I f) (wa (B (decide (f > 0))) ?_));obtain rfl:=si q;refine va (B (decide (f > 0))) (md (sA 300 [I (aE 0 (aB d b)),I (aE 0 (aB e a)),I (aB f (w64 ((aE 0 (aB e a)) - (aE 0 (aB d b)))))] 1 h ⟨rfl,rfl,rfl,trivial⟩) ?_);rintro M i0 u;exact va (B (decide (f > 0))) (wln (jn M ⟨u,rfl⟩))
  obtain rfl:=anF g p;refine vb g (pz (va (B false) (md (sA 300 [I (aE 0 (aB d b)),I (aE 0 (aB e a)),I (aB f (w64 ((aE 0 (aB e a)) - (aE 0 (aB d b)))))] 1 h ⟨rfl,rfl,rfl,trivial⟩) ?_)));rintro N j0 x;exact va (B false) (wln (jn N ⟨x,rfl⟩))
 rintro e_ w_ ⟨o,d0,_,rfl,k0,rfl,k,rfl⟩;refine nrm (W.ret ?_);obtain rfl:=si H;have y:=k.sD 2 [];exact qr (c:=o) (vs:=[I (aE 0 (aB d b)),I (aE 0 (aB e a)),I (aB f (w64 ((aE 0 (aB e a)) - (aE 0 (aB d b)))))]) (v:=B i) rfl (by kernel_rfl) (by kernel_rfl) (by kernel_rfl) (by kernel_rfl) (k.on 1 rfl _ rfl).1 ⟨_,o,rfl,rfl,pt,y,rfl⟩
def bA (sg:Sto) (p0:Option Nat) (p1:Int):Option (Option Nat):=
 (orE (decide (p1 < 0)) ((bL sg p0).bind fun e=>
 some (decide (p1≥e)))).bind fun d=>
 if d=true then
 some (none:Option Nat)
 else
 (p0).bind fun a=>
 (sg.grid_Grid[a]?).bind fun b=>
 (idx b.rows p1).bind fun c=>
 some c
theorem cU (p:Own c0 G F) (q:Rel c0 sg G) (o:Option Nat) (a:Int) {r:Option Nat} (x:Pt 1 c0 v1 o) (H:bA sg o a=some r): Calls prog 118 #[v1,I a] c0.w (aO c0 fun c v=>∃P,Own c G (F)∧v=P∧Pt 0 c P r):=by
 unfold bA at H;refine en func118 rfl rfl (sr (va (.pointer none) (wln (W.seq (W.seq (bn H fun t D H=>W.join (Jn c0 fun c l=>Own c G (F)∧l= [(0,v1),(1,I a),(12,B t)]) ?_ ?_))))))
 ·clear H;refine W.region (va (I a) (va (B (decide (a < 0))) ?_));rcases bo (decide (a < 0)) with f | f
  ·obtain rfl:=orT f D;exact vb f (pz (pz (va (B true) (wln (jn c0 ⟨p,rfl⟩)))))
  have n:=orF f D;refine vb f (wa (I a) (wa (v1) (wn (bn n fun m S n=>cl (bH p q o x S) ?_))));rintro v12 s b0 ⟨R,rfl⟩;refine wa (B (decide (a≥m))) ?_;obtain rfl:=si n;exact va (B (decide (a≥m))) (wln (jn s ⟨R,rfl⟩))
 rintro e_ w_ ⟨h,a0,_,rfl,k,rfl,b,rfl⟩;refine nrm (cn H (fun u H=>?_) (fun u H=>?_))
 ·refine sr (va (.pointer none) (wln (W.ret (thr ?_))));obtain rfl:=si H;exact r1 (qq h ⟨(.pointer none),b,rfl,rfl⟩)
 refine W.skip (nrm (sr (va (v1) (bn H fun T z H=>?_))));obtain ⟨g,rfl,y⟩:=((x.mono k)).get z;refine vv (Q g) (bn H fun X A H=>?_);obtain ⟨v24,d0,i,d⟩:=Rel.open_grid_Grid (q.mono k) A y;refine vx (le1 0 mh (b.gon i 0 rfl)) (va (I a) (bn H fun Z e H=>vx (ixO mh d e) ?_));obtain ⟨U,E,N⟩:=OA.at d e;obtain ⟨v32,rfl,M⟩:=E;refine vr v32 (rx (by kernel_rfl) (mu Af rfl (b.gon i 1 rfl) (d.blk e) (at1 (j:=0) N rfl))) (va (v32) (wln (W.ret ?_)));obtain rfl:=si H;exact r1 (qq h ⟨v32,b,rfl,M⟩)
def eD (sg:Sto) (p0:Option Nat) (p1:Int) (p2:Option Nat):Option (Sto×Bool):=
 (orE p2.isNone ((bA sg p0 p1).bind fun h=>
 (bN sg h).bind fun e=>
 (bN sg p2).bind fun f=>
 some (e != f))).bind fun g=>
 if g=true then
 some (sg,false)
 else
 (p0).bind fun b=>
 (sg.grid_Grid[b]?).bind fun c=>
 (idx c.rows p1).bind fun i=>
 (oQ c.rows p1 p2).bind fun d=>
 (sg.set_grid_Grid b (⟨d⟩:bZ)).bind fun a=>
 some (a,true)
theorem pC (M:Own c0 G F) (e:Rel c0 sg G) (z:Option Nat) (f:Int) (g:Option Nat) {r:Sto×Bool} (h2:Pt 1 c0 v1 z) (j:Pt 0 c0 v3 g) (H:eD sg z f g=some r): Calls prog 119 #[v1,I f,v3] c0.w (aO c0 fun c v=>∃G_:Gm,Own c G_ (F)∧Rel c r.1 G_∧v=B r.2):=by
 unfold eD at H;refine en func119 rfl rfl (sr (va (B false) (wln (W.seq (W.seq (bn H fun g0 h5 H=>W.join (Jn c0 fun c l=>Own c G (F)∧l= [(0,v1),(1,I f),(2,v3),(17,B g0)]) ?_ ?_))))))
 ·clear H;refine W.region (va (v3) (vr (B g.isNone) (by rcases (j).cs with ⟨p,q⟩ | ⟨b_,p,q⟩ <;> (subst p; rw [q]; kernel_rfl)) ?_));rcases bo (g.isNone) with k | k
  ·obtain rfl:=orT k h5;exact vb k (pz (pz (pz (ps (va (B true) (wln (jn c0 ⟨M,rfl⟩)))))))
  have a:=orF k h5;refine vb k (wa (v1) (wa (I f) (wn (bn a fun x0 h8 a=>cl (cU M e z f h2 h8) ?_))));rintro v9 d1 h1 ⟨_,N,rfl,h0⟩;refine wn (bn a fun n i0 a=>cl (cF N e.m x0 h0 i0) ?_);rintro v23 e1 i1 ⟨P,rfl⟩;refine wa (v3) (wn (bn a fun o k0 a=>cl (cF P e.m g j.m k0) ?_));rintro v30 d0 j1 ⟨S,rfl⟩;refine wa (B (n != o)) ?_;obtain rfl:=si a;exact va (B (n != o)) (wln (jn d0 ⟨S,rfl⟩))
 rintro e_ w_ ⟨e0,f1,_,rfl,d,rfl,h,rfl⟩;refine nrm (cn H (fun l0 H=>?_) (fun l0 H=>?_))
 ·refine sr (va (B false) (wln (W.ret (thr ?_))));obtain rfl:=si H;exact r1 (qq e0 ⟨G,h,e.m,rfl⟩)
 refine W.skip (nrm (sr (va (v1) (bn H fun z0 m0 H=>?_))));obtain ⟨b,rfl,s⟩:=((h2.mono d)).get m0;refine vv (Q b) (bn H fun a1 o0 H=>?_);obtain ⟨v42,k1,x,t⟩:=Rel.open_grid_Grid (e.mono d) o0 s;refine vx (le1 0 mh (h.gon x 0 rfl)) (va (I f) (va (v3) (bn H fun b1 q0 H=>vx (ixO mh t q0) ?_)));obtain ⟨i,rfl⟩:=((j.mono d)).form;have U:=h.borrow 1 x rfl;refine bn H fun A s0 H=>md (Own.stW (R:=(RP 0)) (T:=168) (us:=[.pointer i]) (x':=g) (u:= .pointer i) 0 U (by kernel_rfl) rfl t s0 rfl (by kernel_rfl) ⟨j.m.one,trivial⟩ rfl ⟨(.pointer i),rfl,j.m⟩) ?_;rintro f0 w0 ⟨y,X,u0⟩;have Z:=X.giveB 1 rfl;refine bn H fun D v0 H=>?_;obtain ⟨E,a0,b0,g1,c1⟩:=Rel.put_grid_Grid Z (e.mono (d.trans w0)) (E':=[(Eb b 176 [v42]),es true (RP 0) v42 168 y A]) v0 ⟨b,v42,y,(tm s),rfl,u0⟩;refine wln (sr (va (B true) (wln (W.ret ?_))));obtain rfl:=si H;exact r1 (qq f0 ⟨E,a0,b0,rfl⟩)
def eM (sg:Sto) (p0:gW) (p1:Option Nat) (p2:List (Option Nat)):Option (Sto):=
 (cM (σ:=Int×Sto) (τ:=Sto) (((p2.length:Int) - 0).toNat+1) (fun a=>
 if (decide (a.1 < (p2.length:Int)))=true then
 (idx p2 a.1).bind fun c=>
 (eD a.2 p1 (w64 (p0.from_+a.1)) c).bind fun d=>
 some (.inl ((w64 (a.1+1)),d.1))
 else
 some (.inr (a.2))) (0,sg)).bind fun b=>
 (bA b p1 (w64 (p0.from_ - 1))).bind fun e=>
 (fa b e false).bind fun f=>
 some f
theorem mS (O0:Own c0 G F) (R0:Rel c0 sg G) (b:gW) (g:Option Nat) (h:List (Option Nat)) {r:Sto} (h2:Pt 1 c0 v1 g) (s:Sl (RP 0) c0 v3 h) (H:eM sg b g h=some r): Calls prog 239 #[.agg #[I b.from_,I b.to_,I b.n],v1,v3] c0.w (aO c0 fun c v=>∃G_:Gm,Own c G_ (F)∧Rel c r G_∧v= .tuple #[]):=by
 unfold eM at H;refine en func239 rfl rfl (sr (me (bx 300 [I b.from_,I b.to_,I b.n] O0) ?_));rintro v9 q l8 ⟨f,rfl,O6,m7⟩;refine wln (W.seq (sr (va (v3) (vx (ln 3 mh s.m) (va (I 0) (wln (W.block (bn H fun h1 o d=>lp o (fun a=>Jn q fun c l=>∃G_,Own c G_ (F)∧l= [(1,v1),(3,Q f),(8,v3),(9,I (h.length:Int)),(10,I a.1)]∧Rel c a.2 G_) (fun t ex e w=>ex= .exit 0∧(Jn q fun c l=>∃G_,Own c G_ (F)∧l= [(1,v1),(3,Q f)]∧Rel c t G_) e w) ?_ ?_ ?_))))))))
 ·clear d o;intro a i1 X l0 H;revert X l0;rintro e_ w_ ⟨S,b1,_,rfl,i0,rfl,y,i,rfl,j⟩;refine sr (va (B (decide (a.1 < (h.length:Int)))) (wln (W.seq (cn H (fun Z H=>?_) (fun Z H=>?_)))))
  ·refine W.skip (nrm (W.seq (W.block (sr (va (I a.1) (bn H fun u p H=>?_))))));obtain ⟨u0,b0,j0⟩:=Sl.at (s.mono (l8.trans i0)) (aX p);obtain ⟨v23,rfl,d0⟩:=b0;refine vx (ix mh s.m p) (vx (l1 Af (j0 0 _ rfl)) (va (I a.1) (va (v23) (wln (W.region (va (v1) (va (Q f) (vx (l1 u_3 ((mm m7) 0 _ rfl)) (va (I a.1) (va (I (w64 (b.from_+a.1))) (va (v23) (bn H fun w0 e0 H=>cl (pC i j g (w64 (b.from_+a.1)) u h2.m d0 e0) ?_))))))))))));rintro v31 T d1 ⟨z,D,P,rfl⟩;refine WL.nil (bkn (nrm (W.region (vv (I (w64 (a.1+1))) (WL.nil ?_)))));obtain rfl:=si H;exact ⟨_,rfl,jn T ⟨z,D,rfl,P⟩⟩
  refine W.exit (thx ?_);obtain rfl:=si H;exact ⟨_,rfl,rfl,jn S ⟨y,i,rfl,j⟩⟩
 ·exact jn q ⟨G,O6,rfl,R0.m⟩
 rintro _ e_ w_ ⟨rfl,z0,c1,_,rfl,e1,rfl,y0,E,rfl,k⟩;refine bke (nrm (W.region (va (v1) (va (Q f) (vx (l1 u_3 ((mm m7) 0 _ rfl)) (va (I (w64 (b.from_ - 1))) (bn d fun x f0 d=>cl (cU E k g (w64 (b.from_ - 1)) h2.m f0) ?_)))))));rintro v39 a1 f1 ⟨_,M,rfl,g0⟩;refine bn d fun x0 h0 d=>cl (lW M k.m x false g0 h0) ?_;rintro v53 U g1 ⟨A,N,R,rfl⟩;refine WL.nil ?_;obtain rfl:=si d;exact n0 (qq U ⟨A,N,R,rfl⟩)
def jP (sg:Sto) (p0:Option Nat) (p1:Int) (p2:Int):Option (List (Option Nat)):=
 (cM (σ:=(List (Option Nat))×Int) (τ:=(List (Option Nat))) ((p2 - p1).toNat+1) (fun a=>
 if (decide (a.2 < p2))=true then
 (bA sg p0 a.2).bind fun b=>
 (app a.1 ([b]:List (Option Nat))).bind fun c=>
 some (.inl (c,(w64 (a.2+1))))
 else
 some (.inr (a.1))) (([]:List (Option Nat)),p1)).bind fun d=>
 some d
theorem rG (O0:Own c0 G F) (R0:Rel c0 sg G) (o:Option Nat) (f:Int) (d:Int) {r:List (Option Nat)} (h2:Pt 1 c0 v1 o) (H:jP sg o f d=some r): Calls prog 240 #[v1,I f,I d] c0.w (aO c0 fun c v=>∃q y2,Own c G (es true (RP 0) q 168 y2 r :: F)∧v=q∧OA (RP 0) c q y2 r):=by
 unfold jP at H;refine en func240 rfl rfl (sr (va (Y) (wln (sr (va (Y) (wln (W.seq (sr (vv (I f) (wln (W.block (bn H fun b1 T s=>lp T (fun a=>Jn c0 fun c l=>∃v5 g,Own c G (es true (RP 0) v5 168 g a.1 :: F)∧l= [(0,v1),(2,I d),(7,v5),(8,I a.2)]∧OA (RP 0) c v5 g a.1) (fun b ex e w=>ex= .exit 0∧(Jn c0 fun c l=>∃v7 h,Own c G (es true (RP 0) v7 168 h b :: F)∧l= [(7,v7)]∧OA (RP 0) c v7 h b) e w) ?_ ?_ ?_))))))))))))
 ·clear s T;intro a d1 N f0 H;revert N f0;rintro e_ w_ ⟨c9,u0,_,rfl,l9,rfl,v5,g,i,rfl,k⟩;refine W.seq (sr (va (I a.2) (va (I d) (va (B (decide (a.2 < d))) (wln (cn H (fun P H=>?_) (fun P H=>?_)))))))
  ·refine W.skip (nrm (W.seq (W.block (W.region (va (v5) (va (v1) (va (I a.2) (bn H fun p R H=>cl (cU i R0.m o a.2 h2.m R) ?_))))))));rintro v18 q0 w0 ⟨_,t,rfl,n⟩;obtain ⟨j,rfl⟩:=(n).form;refine me (sl (RP 0) 168 [[.pointer j]] ([p]:List (Option Nat)) t ⟨⟨(.pointer j),rfl,n⟩,trivial⟩) ?_;rintro v31 s0 x0 ⟨c1,u,S⟩;obtain ⟨t0,X,y0,x,U⟩:=u.frz 0 rfl S;refine WL.gh X (bn H fun o0 Z H=>me (ap (RP 0) (.pointer none) 8 174 1 x k.m U Z mh) ?_);rintro v41 E z0 ⟨e0,y,a0⟩;refine va (v41) (WL.nil (bkn (nrm (W.region (va (I a.2) (vv (I (w64 (a.2+1))) (WL.nil ?_)))))));obtain rfl:=si H;refine ⟨_,rfl,?_⟩;have z:=y.sD 2 [1];exact jn E ⟨v41,e0,z,rfl,a0⟩
  refine W.exit (thx ?_);obtain rfl:=si H;exact ⟨_,rfl,rfl,jn c9 ⟨v5,g,i,rfl,k⟩⟩
 ·have b0:OA (RP 0) c0 (Y) [] []:=OA.nil (aM _);have A:=O0.addHole (e:=es true (RP 0) (Y) 168 [] ([]:List (Option Nat))) rfl;exact jn c0 ⟨(Y),[],A,rfl,b0⟩
 rintro _ e_ w_ ⟨rfl,M,v0,_,rfl,a1,rfl,v7,h,D,rfl,d0⟩;refine bke (nrm (sr (vv (v7) (wln (W.ret ?_)))));obtain rfl:=si s;exact r1 (qq M ⟨v7,h,D,rfl,d0⟩)
def ci (sg:Sto) (p0:Option Nat):Option (Int):=
 (bA sg p0 0).bind fun a=>
 (bN sg a).bind fun b=>
 some b
theorem cL (i:Own c0 G F) (d:Rel c0 sg G) (a:Option Nat) {r:Int} (k:Pt 1 c0 v1 a) (H:ci sg a=some r): Calls prog 77 #[v1] c0.w (aO c0 fun c v=>Own c G (F)∧v=I r):=by
 unfold ci at H;refine en func77 rfl rfl (sr (va (I 0) (wln (sr (va (v1) (bn H fun g l H=>cl (cU i d a 0 k l) ?_))))));rintro v4 o p ⟨_,j,rfl,n⟩;refine bn H fun h f H=>cl (cF j d.m g n f) ?_;rintro v18 e q ⟨b,rfl⟩;refine va (I h) (wln (W.ret ?_));obtain rfl:=si H;exact r1 (qq e ⟨b,rfl⟩)
def iP (sg:Sto) (p0:Option Nat) (p1:Int):Option (Sto×(List (Option Nat))):=
 (cM (σ:=(List (Option Nat))×Int×Sto) (τ:=((List (Option Nat))×Sto)) ((p1 - 0).toNat+1) (fun a=>
 if (decide (a.2.1 < p1))=true then
 (ci a.2.2 p0).bind fun d=>
 (kF a.2.2 d).bind fun b=>
 (app a.1 ([b.2]:List (Option Nat))).bind fun e=>
 some (.inl (e,(w64 (a.2.1+1)),b.1))
 else
 some (.inr (a.1,a.2.2))) (([]:List (Option Nat)),0,sg)).bind fun c=>
 some (c.2,c.1)
theorem pA (O0:Own c0 G F) (R0:Rel c0 sg G) (p:Option Nat) (f:Int) {r:Sto×(List (Option Nat))} (h2:Pt 1 c0 v1 p) (H:iP sg p f=some r): Calls prog 241 #[v1,I f] c0.w (aO c0 fun c v=>∃t y2,∃G_:Gm,Own c G_ (es true (RP 0) t 168 y2 r.2 :: F)∧Rel c r.1 G_∧eI G G_∧v=t∧OA (RP 0) c t y2 r.2):=by
 unfold iP at H;refine en func241 rfl rfl (sr (va (Y) (wln (sr (va (Y) (wln (W.seq (sr (va (I f) (va (I 0) (wln (W.block (bn H fun t1 h3 z=>lp h3 (fun a=>Jn c0 fun c l=>∃v5 g G_,Own c G_ (es true (RP 0) v5 168 g a.1 :: F)∧l= [(0,v1),(5,v5),(6,I f),(7,I a.2.1)]∧Rel c a.2.2 G_∧eI G G_∧OA (RP 0) c v5 g a.1) (fun b ex e w=>ex= .exit 0∧(Jn c0 fun c l=>∃v7 h G_,Own c G_ (es true (RP 0) v7 168 h b.1 :: F)∧l= [(5,v7)]∧Rel c b.2 G_∧eI G G_∧OA (RP 0) c v7 h b.1) e w) ?_ ?_ ?_)))))))))))))
 ·clear z h3;intro a w1 e0 u0 H;revert e0 u0;rintro e_ w_ ⟨c9,h1,_,rfl,l9,rfl,v5,g,u,i,rfl,d,j,n⟩;refine sr (va (B (decide (a.2.1 < f))) (wln (W.seq (cn H (fun f0 H=>?_) (fun f0 H=>?_)))))
  ·refine W.skip (nrm (W.seq (W.block (W.region (va (v5) (va (v1) (bn H fun q g0 H=>cl (cL i d p h2.m g0) ?_)))))));rintro v23 d1 j1 ⟨A,rfl⟩;refine bn H fun s h0 H=>cl (tV A d.m q h0) ?_;rintro v25 e1 k1 ⟨_,x,D,T,X,rfl,o⟩;have Z:=j.trans X;obtain ⟨k,rfl⟩:=(o).form;refine me (sl (RP 0) 168 [[.pointer k]] ([s.2]:List (Option Nat)) D ⟨⟨(.pointer k),rfl,o⟩,trivial⟩) ?_;rintro v39 f1 m1 ⟨u1,E,j0⟩;obtain ⟨g1,l0,n1,M,k0⟩:=E.frz 0 rfl j0;refine WL.gh l0 (bn H fun c1 m0 H=>me (ap (RP 0) (.pointer none) 8 174 1 M n.m k0 m0 mh) ?_);rintro v49 b0 q1 ⟨t0,N,o0⟩;refine va (v49) (WL.nil (bkn (nrm (W.region (vv (I (w64 (a.2.1+1))) (WL.nil ?_))))));obtain rfl:=si H;refine ⟨_,rfl,?_⟩;have P:=N.sD 2 [1];exact jn b0 ⟨v49,t0,x,P,rfl,T.m,Z,o0⟩
  refine W.exit (thx ?_);obtain rfl:=si H;exact ⟨_,rfl,rfl,jn c9 ⟨v5,g,u,i,rfl,d,j,n⟩⟩
 ·have q0:OA (RP 0) c0 (Y) [] []:=OA.nil (aM _);have R:=O0.addHole (e:=es true (RP 0) (Y) 168 [] ([]:List (Option Nat))) rfl;exact jn c0 ⟨(Y),[],G,R,rfl,R0,(eI.refl _),q0⟩
 rintro _ e_ w_ ⟨rfl,d0,i1,_,rfl,s1,rfl,v7,h,y,S,rfl,U,a0,s0⟩;refine bke (nrm (sr (vv (v7) (wln (W.ret ?_)))));obtain rfl:=si z;exact r1 (qq d0 ⟨v7,h,y,S,U,a0,rfl,s0⟩)
def ke (sg:Sto) (p0:Option Nat) (p1:Int) (p2:Int) (p3:Int):Option (Sto):=
 (lA sg p0 p1 p2 p3).bind fun a=>
 if a.2=true then
 (jP sg p0 (w64 (a.1.from_+a.1.n)) a.1.to_).bind fun c=>
 (iP sg p0 a.1.n).bind fun b=>
 (app c b.2).bind fun d=>
 (eM b.1 a.1 p0 d).bind fun e=>
 some e
 else
 some sg
theorem qz (O0:Own c0 G F) (h:Rel c0 sg G) (g:Option Nat) (k:Int) (l:Int) (o:Int) {r:Sto} (j:Pt 1 c0 v1 g) (H:ke sg g k l o=some r): Calls prog 188 #[v1,I k,I l,I o] c0.w (aO c0 fun c v=>∃G_:Gm,Own c G_ (F)∧Rel c r G_∧v= .tuple #[]):=by
 unfold ke at H;refine en func188 rfl rfl (sr (va (v1) (va (I k) (va (I l) (va (I o) (bn H fun a h3 H=>cl (un O0 h g k l o j h3) ?_))))));rintro v9 c8 l8 ⟨O5,rfl⟩;refine va (.tuple #[.agg #[I a.1.from_,I a.1.to_,I a.1.n],B a.2]) (va (.agg #[I a.1.from_,I a.1.to_,I a.1.n]) (va (B a.2) (me (al 300 [I 0,I 0,I 0] O5) ?_)));rintro v13 j1 k1 ⟨b,rfl,M⟩;refine md (sA 300 [I a.1.from_,I a.1.to_,I a.1.n] 0 M ⟨rfl,rfl,rfl,trivial⟩) ?_;rintro T m1 p;refine va (B a.2) (wln (sr (va (B a.2) (wln (cn H (fun e0 H=>?_) (fun e0 H=>?_))))))
 ·refine rD [] (Kp G0 [(Eb b 300 [I a.1.from_,I a.1.to_,I a.1.n])]) p ?_;intro U n1 q;have e:Kp G0 [(Eb b 300 [I a.1.from_,I a.1.to_,I a.1.n])] U:=(Kp.cons (q.on 0 rfl) Kp.nil0);refine tkx 0 e (fun i f d=>leN 300 0 [I a.1.from_,I a.1.to_,I a.1.n] (d.on 0 rfl)) (ta 1 (v1) (ta 2 (v1) (ta 3 (Q b) (tkx 4 e (fun i f d=>le1 0 u_3 (d.on 0 rfl)) (ta 5 (Qo b 2) (tkx 6 e (fun i f d=>le1 2 u_3 (d.on 0 rfl)) (ta 7 (I (w64 (a.1.from_+a.1.n))) (ta 8 (Qo b 1) (tkx 9 e (fun i f d=>le1 1 u_3 (d.on 0 rfl)) (ta 11 (v1) (ta 12 (Qo b 2) (tkx 13 e (fun i f d=>le1 2 u_3 (d.on 0 rfl)) (bn H fun e1 f0 H=>o1 10 (gc 10 (rG q h.m g (w64 (a.1.from_+a.1.n)) a.1.to_ j.m f0) ?_))))))))))))));rintro v21 X q1 ⟨_,w1,s,rfl,g0⟩;have v0:Kp G0 [(Eb b 300 [I a.1.from_,I a.1.to_,I a.1.n])] X:=(Kp.cons (s.on 1 rfl) Kp.nil0);refine ⟨.inr v0,bn H fun f1 h0 H=>o1 14 (gc 14 (pA s h.m g a.1.n j.m h0) ?_)⟩;rintro v32 Z s1 ⟨_,x1,h1,t,R,i1,rfl,i0⟩;have w0:Kp G0 [(Eb b 300 [I a.1.from_,I a.1.to_,I a.1.n])] Z:=(Kp.cons (t.on 2 rfl) Kp.nil0);refine ⟨.inr w0,?_⟩;obtain ⟨a0,k0,t0,u,j0⟩:=t.frz 0 rfl i0;have x0:Kp G0 [(Eb b 300 [I a.1.from_,I a.1.to_,I a.1.n])] a0:=(Kp.cons (u.on 2 rfl) Kp.nil0);refine AC.gh k0 t0 (fun _=>x0) (bn H fun D l0 H=>o1 15 (gm 15 (ap (RP 0) (.pointer none) 8 174 1 u g0.m j0 l0 mh) ?_));rintro v52 b0 t1 ⟨y1,x,m0⟩;have y0:Kp G0 [(Eb b 300 [I a.1.from_,I a.1.to_,I a.1.n])] b0:=(Kp.cons (x.on 2 rfl) Kp.nil0);refine ⟨.inr y0,?_⟩;obtain ⟨d0,q0,u0,y,o0⟩:=x.frz 1 rfl m0;have z0:Kp G0 [(Eb b 300 [I a.1.from_,I a.1.to_,I a.1.n])] d0:=(Kp.cons (y.on 2 rfl) Kp.nil0);refine AC.gh q0 u0 (fun _=>z0) (bn H fun g1 s0 H=>o1 16 (gc 16 (mS y R.m a.1 g D j.m o0 s0) ?_));rintro z1 A u1 ⟨E,z,S,rfl⟩;have a1:Kp G0 [(Eb b 300 [I a.1.from_,I a.1.to_,I a.1.n])] A:=(Kp.cons (z.on 2 rfl) Kp.nil0);refine ⟨.inr a1,dn ?_⟩;obtain rfl:=si H;have N:=z.sD 3 [];exact n0 (qq A ⟨E,N,S,rfl⟩)
 refine W.skip ?_;obtain rfl:=si H;have P:=p.sD 1 [];exact n0 (qq T ⟨G,P,h.m,rfl⟩)
def jQ (sg:Sto) (p0:Option Nat) (p1:Int) (p2:Int) (p3:Int):Option (Sto):=
 (lA sg p0 p1 p2 p3).bind fun a=>
 if a.2=true then
 (iP sg p0 a.1.n).bind fun b=>
 (jP b.1 p0 a.1.from_ (w64 (a.1.to_ - a.1.n))).bind fun d=>
 (app b.2 d).bind fun e=>
 (eM b.1 a.1 p0 e).bind fun c=>
 (bA c p0 (w64 (a.1.to_ - 1))).bind fun f=>
 (fa c f false).bind fun g=>
 some g
 else
 some sg
theorem rH (O0:Own c0 G F) (D:Rel c0 sg G) (f:Option Nat) (k:Int) (l:Int) (o:Int) {r:Sto} (i:Pt 1 c0 v1 f) (H:jQ sg f k l o=some r): Calls prog 189 #[v1,I k,I l,I o] c0.w (aO c0 fun c v=>∃G_:Gm,Own c G_ (F)∧Rel c r G_∧v= .tuple #[]):=by
 unfold jQ at H;refine en func189 rfl rfl (sr (va (v1) (va (I k) (va (I l) (va (I o) (bn H fun a h3 H=>cl (un O0 D f k l o i h3) ?_))))));rintro v9 c8 l8 ⟨O5,rfl⟩;refine va (.tuple #[.agg #[I a.1.from_,I a.1.to_,I a.1.n],B a.2]) (va (.agg #[I a.1.from_,I a.1.to_,I a.1.n]) (va (B a.2) (me (al 300 [I 0,I 0,I 0] O5) ?_)));rintro v13 y1 b2 ⟨b,rfl,P⟩;refine md (sA 300 [I a.1.from_,I a.1.to_,I a.1.n] 0 P ⟨rfl,rfl,rfl,trivial⟩) ?_;rintro Z c2 p;refine va (B a.2) (wln (sr (va (B a.2) (wln (cn H (fun j0 H=>?_) (fun j0 H=>?_))))))
 ·refine W.seq (rD [] (Kp G0 [(Eb b 300 [I a.1.from_,I a.1.to_,I a.1.n])]) p ?_);intro a0 d2 q;have e:Kp G0 [(Eb b 300 [I a.1.from_,I a.1.to_,I a.1.n])] a0:=(Kp.cons (q.on 0 rfl) Kp.nil0);refine tkx 0 e (fun j g d=>leN 300 0 [I a.1.from_,I a.1.to_,I a.1.n] (d.on 0 rfl)) (ta 1 (v1) (ta 2 (v1) (ta 3 (Qo b 2) (tkx 4 e (fun j g d=>le1 2 u_3 (d.on 0 rfl)) (ta 6 (v1) (ta 7 (Q b) (tkx 8 e (fun j g d=>le1 0 u_3 (d.on 0 rfl)) (ta 9 (Qo b 1) (tkx 10 e (fun j g d=>le1 1 u_3 (d.on 0 rfl)) (ta 11 (Qo b 2) (tkx 12 e (fun j g d=>le1 2 u_3 (d.on 0 rfl)) (ta 13 (I (w64 (a.1.to_ - a.1.n))) (bn H fun n1 k0 H=>o1 5 (gc 5 (pA q D.m f a.1.n i.m k0) ?_))))))))))))));rintro v21 b0 e2 ⟨_,l2,u1,s,z,x1,rfl,l0⟩;have d1:Kp G0 [(Eb b 300 [I a.1.from_,I a.1.to_,I a.1.n])] b0:=(Kp.cons (s.on 1 rfl) Kp.nil0);refine ⟨.inr d1,bn H fun q1 m0 H=>o1 14 (gc 14 (rG s z f a.1.from_ (w64 (a.1.to_ - a.1.n)) i.m m0) ?_)⟩;rintro v32 d0 f2 ⟨_,m2,t,rfl,o0⟩;have e1:Kp G0 [(Eb b 300 [I a.1.from_,I a.1.to_,I a.1.n])] d0:=(Kp.cons (t.on 2 rfl) Kp.nil0);refine ⟨.inr e1,?_⟩;obtain ⟨e0,s0,b1,u,q0⟩:=t.frz 0 rfl o0;have f1:Kp G0 [(Eb b 300 [I a.1.from_,I a.1.to_,I a.1.n])] e0:=(Kp.cons (u.on 2 rfl) Kp.nil0);refine AC.gh s0 b1 (fun _=>f1) (bn H fun E t0 H=>o1 15 (gm 15 (ap (RP 0) (.pointer none) 8 174 1 u l0.m q0 t0 mh) ?_));rintro v52 f0 g2 ⟨n2,x,u0⟩;have g1:Kp G0 [(Eb b 300 [I a.1.from_,I a.1.to_,I a.1.n])] f0:=(Kp.cons (x.on 2 rfl) Kp.nil0);refine ⟨.inr g1,?_⟩;obtain ⟨g0,w0,c1,y,v0⟩:=x.frz 1 rfl u0;have h1:Kp G0 [(Eb b 300 [I a.1.from_,I a.1.to_,I a.1.n])] g0:=(Kp.cons (y.on 2 rfl) Kp.nil0);refine AC.gh w0 c1 (fun _=>h1) (bn H fun s1 x0 H=>o1 16 (gc 16 (mS y z.m a.1 f E i.m v0 x0) ?_));rintro o2 h0 i2 ⟨w1,h,A,rfl⟩;have i1:Kp G0 [(Eb b 300 [I a.1.from_,I a.1.to_,I a.1.n])] h0:=(Kp.cons (h.on 2 rfl) Kp.nil0);refine ⟨.inr i1,dn (nrm (W.region (va (v1) (va (Qo b 1) (vx (le1 1 u_3 (h.on 2 rfl)) (va (I (w64 (a.1.to_ - 1))) (bn H fun M y0 H=>cl (cU h A f (w64 (a.1.to_ - 1)) i.m y0) ?_)))))))⟩;rintro q2 z1 j2 ⟨_,R,rfl,z0⟩;refine bn H fun t1 a1 H=>cl (lW R A.m M false z0 a1) ?_;rintro s2 i0 k2 ⟨N,S,X,rfl⟩;refine WL.nil ?_;obtain rfl:=si H;have T:=S.sD 3 [];exact n0 (qq i0 ⟨N,T,X,rfl⟩)
 refine W.skip ?_;obtain rfl:=si H;have U:=p.sD 1 [];exact n0 (qq Z ⟨G,U,D.m,rfl⟩)
def iW (sg:Sto) (p0:Option Nat):Option (List ak):=
 (bL sg p0).bind fun c=>
 (cM (σ:=(List ak)×Int) (τ:=(List ak)) ((c - 0).toNat+1) (fun a=>
 if (decide (a.2 < c))=true then
 (p0).bind fun d=>
 (sg.grid_Grid[d]?).bind fun b=>
 (idx b.rows a.2).bind fun e=>
 (idx b.rows a.2).bind fun f=>
 (eC sg e).bind fun g=>
 (jr sg f).bind fun h=>
 (app a.1 ([(⟨g,h⟩:ak)]:List ak)).bind fun i=>
 some (.inl (i,(w64 (a.2+1))))
 else
 some (.inr (a.1))) (([]:List ak),0)).bind fun j=>
 some j
theorem th (O0:Own c0 G F) (z:Rel c0 sg G) (p0:Option Nat) {r:List ak} (h2:Pt 1 c0 v1 p0) (H:iW sg p0=some r): Calls prog 79 #[v1] c0.w (aO c0 fun c v=>∃y1 y2,Own c G (es true an y1 48 y2 r :: F)∧v=y1∧OA an c y1 y2 r):=by
 unfold iW at H;refine en func79 rfl rfl (sr (va (Y) (wln (sr (va (Y) (wln (W.seq (sr (va (v1) (bn H fun g0 h3 H=>cl (bH O0 z p0 h2 h3) ?_))))))))));rintro v9 A l8 ⟨O5,rfl⟩;refine va (I 0) (wln (W.block (bn H fun j3 Z D=>lp Z (fun a=>Jn A fun c l=>∃v12 n,Own c G (es true an v12 48 n a.1 :: F)∧l= [(0,v1),(3,v12),(6,I g0),(7,I a.2)]∧OA an c v12 n a.1) (fun y ex e w=>ex= .exit 0∧(Jn A fun c l=>∃v14 o,Own c G (es true an v14 48 o y :: F)∧l= [(3,v14)]∧OA an c v14 o y) e w) ?_ ?_ ?_)))
 ·clear D Z;intro a p3 a1 o2 H;revert a1 o2;rintro e_ w_ ⟨s0,c3,_,rfl,l16,rfl,v12,n,E,rfl,a0⟩;refine sr (va (B (decide (a.2 < g0))) (wln (W.seq (cn H (fun c1 H=>?_) (fun c1 H=>?_)))))
  ·refine W.skip (nrm (W.seq (W.block (sr (vv (I a.2) (wln (rD [] (Kp G []) E ?_)))))));intro t0 d0 M;have k:Kp G [] t0:=(Kp.nil M);refine ta 0 (v12) (ta 1 (v1) (bn H fun v2 e1 H=>?_));obtain ⟨d,rfl,d1⟩:=((h2.mono (l8.trans (l16.trans d0)))).get e1;refine ta 2 (Q d) (ta 3 (Q d) (bn H fun z2 f1 H=>?_));obtain ⟨v31,k3,i,b⟩:=Rel.open_grid_Grid (z.mono (l8.trans (l16.trans d0))) f1 d1;refine tkx 4 k (fun t f g=>le1 0 mh (g.gon i 0 rfl)) (ta 5 (I a.2) (bn H fun i0 u H=>tx 6 (fun t f=>ixO mh b u) ?_));obtain ⟨w2,g1,e2⟩:=OA.at b u;obtain ⟨v39,rfl,h1⟩:=g1;refine AC.takeK 7 (v39) k rfl (by kernel_rfl) (by kernel_rfl) (by kernel_rfl) (fun t f g=>(rx (by kernel_rfl) (mu Af rfl (g.gon i 1 rfl) (b.blk u) (at1 (j:=0) e2 rfl)))) (ta 9 (Q d) (ta 10 (Q d) (ta 11 (Q d) (tkx 12 k (fun t f g=>le1 0 mh (g.gon i 0 rfl)) (ta 13 (I a.2) (bn H fun j0 x H=>tx 14 (fun t f=>ixO mh b x) ?_))))));obtain ⟨x2,i1,f2⟩:=OA.at b x;obtain ⟨v45,rfl,j1⟩:=i1;refine AC.takeK 15 (v45) k rfl (by kernel_rfl) (by kernel_rfl) (by kernel_rfl) (fun t f g=>(rx (by kernel_rfl) (mu Af rfl (g.gon i 1 rfl) (b.blk x) (at1 (j:=0) f2 rfl)))) (bn H fun k0 k1 H=>o1 8 (gc 8 (ll M z.m i0 h1 k1) ?_));rintro v48 u0 e3 ⟨_,l3,N,rfl,b0⟩;have g2:Kp G [] u0:=(Kp.nil N);refine ⟨.inr g2,bn H fun h m1 H=>o1 16 (gc 16 (vD N z.m j0 j1.m m1) ?_)⟩;rintro n3 v0 e0 ⟨P,rfl⟩;have i2:Kp G [] v0:=(Kp.nil P);refine ⟨.inr i2,?_⟩;obtain ⟨p,q,s,rfl⟩:=((b0.mono e0)).form;refine ta 17 (.agg #[.slice p q s,B h]) ?_;obtain ⟨w0,p1,b2,R,n1⟩:=P.frz 0 rfl (b0.mono e0);have j2:Kp G [] w0:=(Kp.nil R);refine AC.gh p1 b2 (fun _=>j2) (o1 18 (gm 18 (sl an 48 [[.slice p q s,B h]] ([(⟨k0,h⟩:ak)]:List ak) R ⟨⟨(.slice p q s),rfl,n1⟩,trivial⟩) ?_));rintro o3 x0 f3 ⟨m3,S,q1⟩;have k2:Kp G [] x0:=(Kp.nil S);refine ⟨.inr k2,?_⟩;obtain ⟨y0,t1,d2,T,s1⟩:=S.frz 0 rfl q1;have l2:Kp G [] y0:=(Kp.nil T);refine AC.gh t1 d2 (fun _=>l2) (bn H fun b3 u1 H=>o1 19 (gm 19 (ap an (.agg #[Y,B false]) 32 27 2 T a0.m s1 u1 gX) ?_));rintro f0 X g3 ⟨n2,U,w1⟩;have m2:Kp G [] X:=(Kp.nil U);refine ⟨.inr m2,ta 20 (f0) (dn (bkn (nrm (W.region (vv (I (w64 (a.2+1))) (WL.nil ?_))))))⟩;obtain rfl:=si H;refine ⟨_,rfl,?_⟩;have m0:=U.sD 3 [2];exact jn X ⟨f0,n2,m0,rfl,w1⟩
  refine W.exit (thx ?_);obtain rfl:=si H;exact ⟨_,rfl,rfl,jn s0 ⟨v12,n,E,rfl,a0⟩⟩
 ·have x1:OA an A (Y) [] []:=OA.nil (aM _);have o0:=O5.addHole (e:=es true an (Y) 48 [] ([]:List ak)) rfl;exact jn A ⟨(Y),[],o0,rfl,x1⟩
 rintro _ e_ w_ ⟨rfl,z0,d3,_,rfl,i3,rfl,v14,o,q0,rfl,z1⟩;refine bke (nrm (sr (vv (v14) (wln (W.ret ?_)))));obtain rfl:=si D;exact r1 (qq z0 ⟨v14,o,q0,rfl,z1⟩)
def dK (p0:List ak) (p1:Int) (p2:Int) (p3:Int) (p4:Bool):Option (List ak):=
 (orE (decide ((aE 0 (aB p1 (p0.length:Int)))≥(aE 0 (aB p2 (p0.length:Int))))) (some (decide (p3 < 1)))).bind fun j=>
 if j=true then
 some p0
 else
 (cM (σ:=(List ak)×Int) (τ:=(List ak)) (((p0.length:Int) - 0).toNat+1) (fun a=>
 if (decide (a.2 < (p0.length:Int)))=true then
 (idx p0 a.2).bind fun c=>
 ((bV (decide (a.2≥(aE 0 (aB p1 (p0.length:Int))))) (some (decide (a.2 < (aE 0 (aB p2 (p0.length:Int))))))).bind fun k=>
 if k=true then
 (if (!p4)=true then
 some ((w64 (a.2 - (aB p3 (w64 ((aE 0 (aB p2 (p0.length:Int))) - (aE 0 (aB p1 (p0.length:Int)))))))))
 else
 some ((w64 (a.2+(aB p3 (w64 ((aE 0 (aB p2 (p0.length:Int))) - (aE 0 (aB p1 (p0.length:Int)))))))))).bind fun b=>
 (idx p0 a.2).bind fun n=>
 (rep (n.Cells.length:Int) (⟨0,([]:List Int)⟩:ab)).bind fun o=>
 (bV (decide (b≥(aE 0 (aB p1 (p0.length:Int))))) (some (decide (b < (aE 0 (aB p2 (p0.length:Int))))))).bind fun l=>
 if l=true then
 (idx p0 b).bind fun d=>
 some (d.Cells,d.Wrap)
 else
 some (o,false)
 else
 some (c.Cells,c.Wrap)).bind fun e=>
 ((orE ((w64 (a.2+1))==(aE 0 (aB p1 (p0.length:Int)))) ((bV (!p4) (some ((w64 (a.2+1))==(aE 0 (aB p2 (p0.length:Int)))))).bind fun g=>
 some g)).bind fun f=>
 if f=true then
 some (false)
 else
 some (e.2)).bind fun i=>
 (app a.1 ([(⟨e.1,i⟩:ak)]:List ak)).bind fun h=>
 some (.inl (h,(w64 (a.2+1))))
 else
 some (.inr (a.1))) (([]:List ak),0)).bind fun m=>
 some m
theorem kp (O0:Own c0 G F) (a:List ak) (f:Int) (d:Int) (g:Int) (q:Bool) {r:List ak} (U:Sl an c0 v1 a) (H:dK a f d g q=some r): Calls prog 144 #[v1,I f,I d,I g,B q] c0.w (aO c0 fun c v=>∃y1,Own c G (F)∧v=y1∧Sl an c y1 r):=by
 unfold dK at H;refine en func144 rfl rfl (sr (va (Y) (wln (sr (va (v1) (vx (ln 3 gX U) (va (I (a.length:Int)) (wln (sr (va (I f) (va (I (a.length:Int)) (va (I (aB f (a.length:Int))) (vv (I (aE 0 (aB f (a.length:Int)))) (wln (sr (va (I d) (va (I (a.length:Int)) (va (I (aB d (a.length:Int))) (vv (I (aE 0 (aB d (a.length:Int)))) (wln (W.seq (W.seq (bn H fun j3 h3 H=>W.join (Jn c0 fun c l=>Own c G (F)∧l= [(0,v1),(1,I (aE 0 (aB f (a.length:Int)))),(2,I (aE 0 (aB d (a.length:Int)))),(3,I g),(4,B q),(11,I (a.length:Int)),(32,B j3)]) ?_ ?_)))))))))))))))))))))))
 ·clear H;refine W.region (va (I (aE 0 (aB f (a.length:Int)))) (va (I (aE 0 (aB d (a.length:Int)))) (va (B (decide ((aE 0 (aB f (a.length:Int)))≥(aE 0 (aB d (a.length:Int)))))) ?_)));rcases bo (decide ((aE 0 (aB f (a.length:Int)))≥(aE 0 (aB d (a.length:Int))))) with h4 | h4
  ·obtain rfl:=orT h4 h3;exact vb h4 (pz (va (B true) (wln (jn c0 ⟨O0,rfl⟩))))
  have H5:=orF h4 h3;refine vb h4 (wa (I g) (wa (B (decide (g < 1))) ?_));obtain rfl:=si H5;exact va (B (decide (g < 1))) (wln (jn c0 ⟨O0,rfl⟩))
 rintro T w_ ⟨c6,g7,_,rfl,l6,rfl,O8,rfl⟩;refine nrm (cn H (fun r4 H=>?_) (fun r4 H=>?_))
 ·refine sr (vv (v1) (wln (W.ret (thr ?_))));obtain rfl:=si H;exact r1 (qq c6 ⟨v1,O8,rfl,U.m⟩)
 refine W.skip (nrm (sr (va (I g) (va (I (aE 0 (aB d (a.length:Int)))) (va (I (aE 0 (aB f (a.length:Int)))) (va (I (w64 ((aE 0 (aB d (a.length:Int))) - (aE 0 (aB f (a.length:Int)))))) (vv (I (aB g (w64 ((aE 0 (aB d (a.length:Int))) - (aE 0 (aB f (a.length:Int))))))) (wln (sr (va (Y) (wln (W.seq (sr (va (I 0) (wln (W.block (bn H fun h6 w1 j1=>lp w1 (fun b=>Jn c6 fun c l=>∃v15 p,Own c G (es true an v15 48 p b.1 :: F)∧l= [(0,v1),(1,I (aE 0 (aB f (a.length:Int)))),(2,I (aE 0 (aB d (a.length:Int)))),(3,I (aB g (w64 ((aE 0 (aB d (a.length:Int))) - (aE 0 (aB f (a.length:Int))))))),(4,B q),(11,I (a.length:Int)),(12,v15),(13,I b.2)]∧OA an c v15 p b.1) (fun k0 ex e w=>ex= .exit 0∧(Jn c6 fun c l=>∃v17 f1,Own c G (es true an v17 48 f1 k0 :: F)∧l= [(12,v17)]∧OA an c v17 f1 k0) e w) ?_ ?_ ?_)))))))))))))))))
 ·clear j1 w1;intro b w6 q4 g5 H;revert q4 g5;rintro T w_ ⟨o4,p6,_,rfl,d1,rfl,v15,p,k1,rfl,x1⟩;refine W.seq (sr (va (I b.2) (va (I (a.length:Int)) (va (B (decide (b.2 < (a.length:Int)))) (wln (cn H (fun s4 H=>?_) (fun s4 H=>?_)))))))
  ·refine W.skip (nrm (W.seq (W.block (sr (va (v1) (va (I b.2) (bn H fun e0 z1 H=>?_)))))));obtain ⟨e6,t4,c5⟩:=Sl.at (U.mono (l6.trans d1)) (aX z1);obtain ⟨v31,rfl,z0⟩:=t4;refine vx (ix gX U.m z1) (vx (lN 48 c5) (me (al 48 [Y,B false] k1) ?_));rintro v36 k6 e1 ⟨k,rfl,k4⟩;obtain ⟨f0,g0,h0,rfl⟩:=((z0.mono e1)).form;refine md (sA 48 [.slice f0 g0 h0,B e0.Wrap] 0 k4 ⟨z0.m.one,rfl,trivial⟩) ?_;rintro i0 g2 m1;refine wln (bn H fun E s f4=>W.seqJ (Jn i0 fun c l=>∃v44,Own c G ((Eb k 48 [v44,B E.2]) :: es true an v15 48 p b.1 :: F)∧l= [(0,v1),(1,I (aE 0 (aB f (a.length:Int)))),(2,I (aE 0 (aB d (a.length:Int)))),(3,I (aB g (w64 ((aE 0 (aB d (a.length:Int))) - (aE 0 (aB f (a.length:Int))))))),(4,B q),(11,I (a.length:Int)),(12,v15),(13,I b.2),(14,Q k)]∧Sl ag c v44 E.1) ?_ ?_)
   ·refine W.seq (bn s fun k3 b2 s=>W.join (Jn i0 fun c l=>Own c G ((Eb k 48 [.slice f0 g0 h0,B e0.Wrap]) :: es true an v15 48 p b.1 :: F)∧l= [(0,v1),(1,I (aE 0 (aB f (a.length:Int)))),(2,I (aE 0 (aB d (a.length:Int)))),(3,I (aB g (w64 ((aE 0 (aB d (a.length:Int))) - (aE 0 (aB f (a.length:Int))))))),(4,B q),(11,I (a.length:Int)),(12,v15),(13,I b.2),(14,Q k),(55,B k3)]) ?_ ?_)
    ·clear s;refine W.region (va (I b.2) (va (I (aE 0 (aB f (a.length:Int)))) (va (B (decide (b.2≥(aE 0 (aB f (a.length:Int)))))) ?_)));rcases bo (decide (b.2≥(aE 0 (aB f (a.length:Int))))) with X | X
     ·have g4:=anT X b2;refine vb X (wa (I b.2) (wa (I (aE 0 (aB d (a.length:Int)))) (wa (B (decide (b.2 < (aE 0 (aB d (a.length:Int)))))) ?_)));obtain rfl:=si g4;exact va (B (decide (b.2 < (aE 0 (aB d (a.length:Int)))))) (wln (jn i0 ⟨m1,rfl⟩))
     obtain rfl:=anF X b2;exact vb X (pz (ps (va (B false) (wln (jn i0 ⟨m1,rfl⟩)))))
    rintro T w_ ⟨j0,q6,_,rfl,i2,rfl,o0,rfl⟩;refine nrm (cn s (fun v4 s=>?_) (fun v4 s=>?_))
    ·refine sr (va (I b.2) (va (I (aB g (w64 ((aE 0 (aB d (a.length:Int))) - (aE 0 (aB f (a.length:Int))))))) (vv (I (w64 (b.2+(aB g (w64 ((aE 0 (aB d (a.length:Int))) - (aE 0 (aB f (a.length:Int))))))))) (wln (bn s fun n M h=>W.seqJ (Jn j0 fun c l=>Own c G ((Eb k 48 [.slice f0 g0 h0,B e0.Wrap]) :: es true an v15 48 p b.1 :: F)∧l= [(0,v1),(1,I (aE 0 (aB f (a.length:Int)))),(2,I (aE 0 (aB d (a.length:Int)))),(3,I (aB g (w64 ((aE 0 (aB d (a.length:Int))) - (aE 0 (aB f (a.length:Int))))))),(4,B q),(11,I (a.length:Int)),(12,v15),(13,I b.2),(14,Q k),(15,I n)]) ?_ ?_)))))
     ·refine sr (va (B q) (va (B (!q)) (wln (cn M (fun w4 M=>?_) (fun w4 M=>?_)))))
      ·refine W.region (va (I b.2) (va (I (aB g (w64 ((aE 0 (aB d (a.length:Int))) - (aE 0 (aB f (a.length:Int))))))) (vv (I (w64 (b.2 - (aB g (w64 ((aE 0 (aB d (a.length:Int))) - (aE 0 (aB f (a.length:Int))))))))) (wln ?_))));obtain rfl:=si M;exact jn j0 ⟨o0,rfl⟩
      refine W.skip (nrm ?_);obtain rfl:=si M;exact jn j0 ⟨o0,rfl⟩
     rintro T w_ ⟨m6,r6,_,rfl,j2,rfl,l4,rfl⟩;refine sr (va (v1) (va (I b.2) (bn h fun h1 c2 h=>?_)));obtain ⟨f6,x4,d5⟩:=Sl.at (U.mono (l6.trans (d1.trans (e1.trans (g2.trans (i2.trans j2)))))) (aX c2);obtain ⟨t6,rfl,y4⟩:=x4;refine vx (ix gX U.m c2) (va (Qo (sb v1) (so v1+b.2.toNat * 2)) (vx (l1 cG (d5 0 _ rfl)) (vx (ln 3 cG y4) (bn h fun d4 d2 h=>me (Own.mkS (kl:= .i64) (kc:= .i64) (R:=ag) (z:= .agg #[I 0,Y]) (lz:=[I 0,Y]) (x:=(⟨0,([]:List Int)⟩:ab)) (by_:=32) (i:=(h1.Cells.length:Int)) (j:=(h1.Cells.length:Int)) true l4 (aM _) d2 (oN _) (rR d2) cG (by kernel_rfl) rfl rfl (fun _=>⟨(Y),rfl,(Sl.nl _ _)⟩) (by kernel_rfl) (by kernel_rfl)) ?_))));rintro u6 n6 b5 ⟨f5,m4,b1⟩;obtain ⟨N,P,S,rfl⟩:=(b1).form;refine va (.agg #[.slice N P S,B false]) (md (sA 48 [.slice N P S,B false] 1 m4 ⟨(b1).one,rfl,trivial⟩) ?_);rintro v0 k2 n1;refine wln (W.seq (bn h fun l3 e2 h=>W.join (Jn v0 fun c l=>Own c G (es true ag (.slice N P S) 114 f5 d4 :: (Eb k 48 [.slice N P S,B false]) :: es true an v15 48 p b.1 :: F)∧l= [(0,v1),(1,I (aE 0 (aB f (a.length:Int)))),(2,I (aE 0 (aB d (a.length:Int)))),(3,I (aB g (w64 ((aE 0 (aB d (a.length:Int))) - (aE 0 (aB f (a.length:Int))))))),(4,B q),(11,I (a.length:Int)),(12,v15),(13,I b.2),(14,Q k),(15,I n),(79,B l3)]) ?_ ?_))
     ·clear h;refine W.region (va (I n) (va (I (aE 0 (aB f (a.length:Int)))) (va (B (decide (n≥(aE 0 (aB f (a.length:Int)))))) ?_)));rcases bo (decide (n≥(aE 0 (aB f (a.length:Int))))) with Z | Z
      ·have i4:=anT Z e2;refine vb Z (wa (I n) (wa (I (aE 0 (aB d (a.length:Int)))) (wa (B (decide (n < (aE 0 (aB d (a.length:Int)))))) ?_)));obtain rfl:=si i4;exact va (B (decide (n < (aE 0 (aB d (a.length:Int)))))) (wln (jn v0 ⟨n1,rfl⟩))
      obtain rfl:=anF Z e2;exact vb Z (pz (ps (va (B false) (wln (jn v0 ⟨n1,rfl⟩)))))
     rintro T w_ ⟨o6,s6,_,rfl,l2,rfl,q1,rfl⟩;refine nrm (cn h (fun z4 h=>?_) (fun z4 h=>?_))
     ·refine W.region (va (v1) (va (I n) (bn h fun e4 f2 h=>?_)));obtain ⟨g6,a5,e5⟩:=Sl.at (U.mono (l6.trans (d1.trans (e1.trans (g2.trans (i2.trans (j2.trans (b5.trans (k2.trans l2))))))))) (aX f2);obtain ⟨v6,rfl,c1⟩:=a5;refine vx (ix gX U.m f2) (vx (lN 48 e5) ?_);obtain ⟨s1,t1,u1,rfl⟩:=(c1).form;refine md (sA 48 [.slice s1 t1 u1,B e4.Wrap] 1 q1 ⟨c1.one,rfl,trivial⟩) ?_;rintro c3 t5 n2;refine wln ?_;obtain rfl:=si h;have o2:=n2.sD 3 [1,2];exact jn c3 ⟨(.slice s1 t1 u1),o2,rfl,c1.m⟩
     refine W.skip (nrm ?_);obtain rfl:=si h;obtain ⟨d3,n3,u5,q2,m3⟩:=q1.frz 0 rfl (b1.mono (k2.trans l2));have s2:=q2.sD 3 [1,2];exact ⟨d3,_,_,n3.symm,pt,us,(.slice N P S),s2,rfl,m3⟩
    refine W.skip (nrm ?_);obtain rfl:=si s;exact jn j0 ⟨(.slice f0 g0 h0),o0,rfl,z0.m⟩
   rintro T w_ ⟨u,p5,_,rfl,v5,rfl,v44,d0,rfl,w0⟩;refine bn f4 fun t o b0=>W.seqJ (Jn u fun c l=>Own c G ((Eb k 48 [v44,B t]) :: es true an v15 48 p b.1 :: F)∧l= [(0,v1),(1,I (aE 0 (aB f (a.length:Int)))),(2,I (aE 0 (aB d (a.length:Int)))),(3,I (aB g (w64 ((aE 0 (aB d (a.length:Int))) - (aE 0 (aB f (a.length:Int))))))),(4,B q),(11,I (a.length:Int)),(12,v15),(13,I b.2),(14,Q k)]) ?_ ?_
   ·refine W.seq (bn o fun i1 x0 o=>W.join (Jn u fun c l=>Own c G ((Eb k 48 [v44,B E.2]) :: es true an v15 48 p b.1 :: F)∧l= [(0,v1),(1,I (aE 0 (aB f (a.length:Int)))),(2,I (aE 0 (aB d (a.length:Int)))),(3,I (aB g (w64 ((aE 0 (aB d (a.length:Int))) - (aE 0 (aB f (a.length:Int))))))),(4,B q),(11,I (a.length:Int)),(12,v15),(13,I b.2),(14,Q k),(97,B i1)]) ?_ ?_)
    ·clear o;refine W.region (va (I b.2) (va (I (w64 (b.2+1))) (va (I (aE 0 (aB f (a.length:Int)))) (va (B ((w64 (b.2+1))==(aE 0 (aB f (a.length:Int))))) ?_))));rcases bo ((w64 (b.2+1))==(aE 0 (aB f (a.length:Int)))) with y | y
     ·obtain rfl:=orT y x0;exact vb y (pz (pz (pz (pz (va (B true) (wln (jn u ⟨d0,rfl⟩)))))))
     have D:=orF y x0;refine vb y (wa (B q) (wa (B (!q)) (wn (bn D fun i5 y0 D=>?_))));rcases bo (!q) with A | A
     ·have m2:=anT A y0;refine vb A (wa (I b.2) (wa (I (w64 (b.2+1))) (wa (I (aE 0 (aB d (a.length:Int)))) (wa (B ((w64 (b.2+1))==(aE 0 (aB d (a.length:Int))))) (wn ?_)))));obtain rfl:=si m2;refine va (B ((w64 (b.2+1))==(aE 0 (aB d (a.length:Int))))) ?_;obtain rfl:=si D;exact va (B ((w64 (b.2+1))==(aE 0 (aB d (a.length:Int))))) (wln (jn u ⟨d0,rfl⟩))
     obtain rfl:=anF A y0;refine vb A (pz (pz (wa (B false) ?_)));obtain rfl:=si D;exact va (B false) (wln (jn u ⟨d0,rfl⟩))
    rintro T w_ ⟨e3,q5,_,rfl,w5,rfl,l0,rfl⟩;refine nrm (cn o (fun o3 o=>?_) (fun o3 o=>?_))
    ·refine W.region (va (Qo k 1) (md (sC 4 1 (B false) [v44,B false] 0 l0 ⟨rfl,trivial⟩) ?_));rintro f3 x5 t2;refine wln ?_;obtain rfl:=si o;exact jn f3 ⟨t2,rfl⟩
    refine W.skip (nrm ?_);obtain rfl:=si o;exact jn e3 ⟨l0,rfl⟩
   rintro T w_ ⟨l5,r5,_,rfl,a4,rfl,m0,rfl⟩;refine W.region (va (v15) (vx (leN 48 0 [v44,B t] (m0.on 0 rfl)) ?_));obtain ⟨q0,s0,t0,rfl⟩:=((w0.mono a4)).form;refine me (sl an 48 [[.slice q0 s0 t0,B t]] ([(⟨E.1,t⟩:ak)]:List ak) m0 ⟨⟨(.slice q0 s0 t0),rfl,w0.m⟩,trivial⟩) ?_;rintro j6 m5 y5 ⟨i6,u2,q3⟩;obtain ⟨n5,t3,z5,v2,s3⟩:=u2.frz 0 rfl q3;refine WL.gh t3 (bn b0 fun j5 u3 b0=>me (ap an (.agg #[Y,B false]) 32 27 2 v2 x1.m s3 u3 gX) ?_);rintro g1 g3 a6 ⟨c4,w2,v3⟩;refine va (g1) (WL.nil (bkn (nrm (W.region (va (I b.2) (vv (I (w64 (b.2+1))) (WL.nil ?_)))))));obtain rfl:=si b0;refine ⟨_,rfl,?_⟩;have x2:=w2.sD 3 [2];exact jn g3 ⟨g1,c4,x2,rfl,v3⟩
  refine W.exit (thx ?_);obtain rfl:=si H;exact ⟨_,rfl,rfl,jn o4 ⟨v15,p,k1,rfl,x1⟩⟩
 ·have w3:OA an c6 (Y) [] []:=OA.nil (aM _);have y2:=O8.addHole (e:=es true an (Y) 48 [] ([]:List ak)) rfl;exact jn c6 ⟨(Y),[],y2,rfl,w3⟩
 rintro _ T w_ ⟨rfl,o5,s5,_,rfl,b6,rfl,v17,f1,z2,rfl,x3⟩;refine bke (nrm (sr (vv (v17) (wln (W.ret ?_)))));obtain rfl:=si j1;obtain ⟨i3,z3,d6,a3,y3⟩:=z2.frz 0 rfl x3;have b3:=a3.sD 1 [];exact zS z3 (r1 (qq i3 ⟨v17,b3,rfl,y3⟩))
def jq (p0:List Int):Option (List Int):=
 (rep 0 0).bind fun g=>
 (rep (p0.length:Int) 0).bind fun h=>
 (cM (σ:=(List Int)×Int) (τ:=(List Int)) (((p0.length:Int) - 0).toNat+1) (fun a=>
 if (decide (a.2 < (p0.length:Int)))=true then
 (idx p0 a.2).bind fun b=>
 ((eZ b).bind fun d=>
 if (!d)=true then
 some (65533)
 else
 some (b)).bind fun f=>
 (app a.1 ([f]:List Int)).bind fun e=>
 some (.inl (e,(w64 (a.2+1))))
 else
 some (.inr (a.1))) (g,0)).bind fun c=>
 some c
theorem tU (O0:Own c0 G F) (n:List Int) {r:List Int} (p:Sl (RI .i32) c0 v1 n) (H:jq n=some r): Calls prog 72 #[v1] c0.w (aO c0 fun c v=>∃P y2,Own c G (es true (RI .i32) P 21 y2 r :: F)∧v=P∧OA (RI .i32) c P y2 r):=by
 unfold jq at H;refine en func72 rfl rfl (sr (va (Y) (wln (sr (va (v1) (vx (ln 3 dS p) (bn H fun b2 h3 H=>bn H fun d2 h4 H=>me (Own.mkS (kl:= .i64) (kc:= .i64) (R:=(RI .i32)) (z:=J 0) (lz:=[J 0]) (x:=0) (by_:=4) (i:=0) (j:=(n.length:Int)) true O0 (aM _) h3 (Fs h4) (rR h4) dS (by kernel_rfl) rfl rfl (fun _=>rfl) (by kernel_rfl) (by kernel_rfl)) ?_)))))));rintro v9 M l8 ⟨u6,O5,h7⟩;refine va (v9) (wln (W.seq (sr (va (v1) (vx (ln 3 dS p.m) (va (I 0) (wln (W.block (bn H fun f1 A q=>lp A (fun a=>Jn M fun c l=>∃v12 f,Own c G (es true (RI .i32) v12 21 f a.1 :: F)∧l= [(3,v12),(9,v1),(10,I (n.length:Int)),(11,I a.2)]∧OA (RI .i32) c v12 f a.1) (fun h ex e w=>ex= .exit 0∧(Jn M fun c l=>∃v14 k,Own c G (es true (RI .i32) v14 21 k h :: F)∧l= [(3,v14)]∧OA (RI .i32) c v14 k h) e w) ?_ ?_ ?_)))))))))
 ·clear q A;intro a c2 f0 x0 H;revert f0 x0;rintro e_ w_ ⟨u,m1,_,rfl,l16,rfl,v12,f,s,rfl,D⟩;refine sr (va (B (decide (a.2 < (n.length:Int)))) (wln (W.seq (cn H (fun g0 H=>?_) (fun g0 H=>?_)))))
  ·refine W.skip (nrm (W.seq (W.block (sr (bn H fun g E H=>?_)))));obtain ⟨e1,h0,u0⟩:=Sl.at (p.mono (l8.trans l16)) (aX E);obtain rfl:=h0;refine vx (ix dS p.m E) (vx (l1 nc (u0 0 _ rfl)) (va (J g) (wln (bn H fun d b o=>W.seqJ (Jn u fun c l=>Own c G (es true (RI .i32) v12 21 f a.1 :: F)∧l= [(3,v12),(5,J d),(9,v1),(10,I (n.length:Int)),(11,I a.2)]) ?_ ?_))))
   ·refine sr (va (J g) (bn b fun N i0 b=>cl (nt s g i0) ?_));rintro v36 y q1 ⟨t,rfl⟩;refine va (B (!N)) (wln (cn b (fun j0 b=>?_) (fun j0 b=>?_)))
    ·refine W.region (va (J 65533) (wln ?_));obtain rfl:=si b;exact jn y ⟨t,rfl⟩
    refine W.skip (nrm ?_);obtain rfl:=si b;exact jn y ⟨t,rfl⟩
   rintro e_ w_ ⟨i1,n1,_,rfl,s1,rfl,S,rfl⟩;refine W.region (va (v12) (va (J d) (me (sl (RI .i32) 21 [[J d]] ([d]:List Int) S ⟨rfl,trivial⟩) ?_)));rintro v48 j1 t1 ⟨z1,T,l0⟩;obtain ⟨k1,o0,u1,U,m0⟩:=T.frz 0 rfl l0;refine WL.gh o0 (bn o fun h1 q0 o=>me (ap (RI .i32) (J 0) 4 32 1 U D.m m0 q0 dS) ?_);rintro v58 b0 w1 ⟨v0,X,s0⟩;refine va (v58) (WL.nil (bkn (nrm (W.region (vv (I (w64 (a.2+1))) (WL.nil ?_))))));obtain rfl:=si o;refine ⟨_,rfl,?_⟩;have Z:=X.sD 2 [1];exact jn b0 ⟨v58,v0,Z,rfl,s0⟩
  refine W.exit (thx ?_);obtain rfl:=si H;exact ⟨_,rfl,rfl,jn u ⟨v12,f,s,rfl,D⟩⟩
 ·exact jn M ⟨v9,u6,O5,rfl,h7⟩
 rintro _ e_ w_ ⟨rfl,d0,p1,_,rfl,x1,rfl,v14,k,a0,rfl,t0⟩;refine bke (nrm (sr (vv (v14) (wln (W.ret ?_)))));obtain rfl:=si q;exact r1 (qq d0 ⟨v14,k,a0,rfl,t0⟩)
def oB (p0:Int) (p1:List Int):Option (List ab):=
 (if (decide (p0≥2))=true then
 (app ([(⟨0,([]:List Int)⟩:ab)]:List ab) ([(⟨0,([]:List Int)⟩:ab)]:List ab)).bind fun e=>
 some (e)
 else
 some (([(⟨0,([]:List Int)⟩:ab)]:List ab))).bind fun c=>
 if ((p1.length:Int)==0)=true then
 some c
 else
 (slc p1 0 (aB (p1.length:Int) 16)).bind fun f=>
 (jq f).bind fun g=>
 (idx c 0).bind fun k=>
 (oQ c 0 (⟨1,g⟩:ab)).bind fun a=>
 (if (decide (p0≥2))=true then
 (idx a 0).bind fun h=>
 (oQ a 0 (⟨2,h.Text⟩:ab)).bind fun b=>
 (idx b 1).bind fun i=>
 (oQ b 1 (⟨3,i.Text⟩:ab)).bind fun d=>
 some (d)
 else
 some (a)).bind fun j=>
 some j
theorem BO (O0:Own c0 G F) (i:Int) (A:List Int) {r:List ab} (h2:Sl (RI .i32) c0 v1 A) (H:oB i A=some r): Calls prog 235 #[I i,v1] c0.w (aO c0 fun c v=>∃y1 y2,Own c G (es true ag y1 114 y2 r :: F)∧v=y1∧OA ag c y1 y2 r):=by
 unfold oB at H;refine en func235 rfl rfl (sr (va (Y) (wln (sr (va (.agg #[I 0,Y]) (me (sl ag 114 [[I 0,Y]] ([(⟨0,([]:List Int)⟩:ab)]:List ab) O0 ⟨⟨(Y),rfl,(Sl.nl _ _)⟩,trivial⟩) ?_))))));rintro v7 c6 l6 ⟨u4,O3,h5⟩;refine va (v7) (wln (bn H fun a0 h b=>W.seqJ (Jn c6 fun c l=>∃v10 n,Own c G (es true ag v10 114 n a0 :: F)∧l= [(0,I i),(1,v1),(5,v10)]∧OA ag c v10 n a0) ?_ ?_))
 ·refine sr (va (I i) (va (B (decide (i≥2))) (wln (cn h (fun b1 h=>?_) (fun b1 h=>?_)))))
  ·refine W.region (va (v7) (va (.agg #[I 0,Y]) (me (sl ag 114 [[I 0,Y]] ([(⟨0,([]:List Int)⟩:ab)]:List ab) O3 ⟨⟨(Y),rfl,(Sl.nl _ _)⟩,trivial⟩) ?_)));rintro v17 d3 l16 ⟨t3,h0,c1⟩;obtain ⟨e3,e1,k3,i0,d1⟩:=h0.frz 0 rfl c1;refine WL.gh e1 (bn h fun b3 f1 h=>me (ap ag (.agg #[I 0,Y]) 32 46 1 i0 h5.m d1 f1 cG) ?_);rintro v27 w0 l3 ⟨k2,j0,g1⟩;refine va (v27) (wln ?_);obtain rfl:=si h;have k0:=j0.sD 2 [1];exact jn w0 ⟨v27,k2,k0,rfl,g1⟩
  refine W.skip (nrm ?_);obtain rfl:=si h;exact jn c6 ⟨v7,u4,O3,rfl,h5⟩
 rintro e_ w_ ⟨x0,i3,_,rfl,g2,rfl,v10,n,D,rfl,p⟩;refine W.seq (sr (va (v1) (vx (ln 3 dS h2.m) (va (B ((A.length:Int)==0)) (wln (cn b (fun h1 b=>?_) (fun h1 b=>?_)))))))
 ·refine sr (vv (v10) (wln (W.ret (thr ?_))));obtain rfl:=si b;exact r1 (qq x0 ⟨v10,n,D,rfl,p⟩)
 refine W.skip (nrm (sr (va (v10) (vv (v1) (vx (ln 3 dS h2.m) (va (I (aB (A.length:Int) 16)) (bn b fun e0 i1 b=>?_)))))));obtain ⟨v38,j1,k1⟩:=uU (k':= .i64) dS (by kernel_rfl) (h2.mono (l6.trans g2)) i1;refine vr v38 (rx (by kernel_rfl) (j1 _)) (bn b fun s m1 b=>cl (tU D e0 k1 m1) ?_);rintro v42 f3 m3 ⟨_,l2,m0,rfl,N⟩;obtain ⟨e,f,g,rfl⟩:=(N).form;refine va (.agg #[I 1,.slice e f g]) (bn b fun c3 q1 b=>vx (ixO cG p.m q1) ?_);obtain ⟨g3,s1,n3,o0,P⟩:=m0.frz 0 rfl N;refine WL.gh s1 (bn b fun x2 t1 b=>md (Own.stW (R:=ag) (T:=114) (us:=[I 1,.slice e f g]) (x':=(⟨1,s⟩:ab)) (u:= .agg #[I 1,.slice e f g]) 1 o0 (by kernel_rfl) rfl p.m t1 rfl (by kernel_rfl) ⟨rfl,P.one,trivial⟩ rfl ⟨(.slice e f g),rfl,P⟩) ?_);rintro M o3 ⟨m2,E,k⟩;refine wln (bn b fun z a g0=>W.seqJ (Jn M fun c l=>∃d o,Own c G (es true ag d 114 o z :: es false (RI .i32) (.slice e f g) 21 l2 s :: F)∧l= [(5,d)]∧OA ag c d o z) ?_ ?_)
 ·refine sr (va (I i) (va (B (decide (i≥2))) (wln (cn a (fun u1 a=>?_) (fun u1 a=>?_)))))
  ·refine W.region (vv (v10) (bn a fun t S a=>vx (ixO cG k S) (va (Qo (sb v10) ((0:Int).toNat * 2)) ?_)));obtain ⟨t2,w1,i2⟩:=OA.at k S;obtain ⟨X,rfl,x1⟩:=w1;refine bn a fun z2 z1 a=>md (Own.stO (R:=ag) (T:=3) (us:=[I 2]) (x':=(⟨2,t.Text⟩:ab)) (u:=I 2) (x:=(⟨2,t.Text⟩:ab)) (j:=0) (l':=[I 2,X]) 1 E (by kernel_rfl) rfl k z1 i2 rfl (by kernel_rfl) ⟨rfl,trivial⟩ (by kernel_rfl) rfl ⟨X,rfl,x1⟩) ?_;rintro h3 p3 ⟨u3,q0,q⟩;refine bn a fun y U a=>vx (ixO cG q U) (va (Qo (sb v10) ((1:Int).toNat * 2)) ?_);obtain ⟨u2,b2,j2⟩:=OA.at q U;obtain ⟨Z,rfl,c2⟩:=b2;refine bn a fun a3 d2 a=>md (Own.stO (R:=ag) (T:=3) (us:=[I 3]) (x':=(⟨3,y.Text⟩:ab)) (u:=I 3) (x:=(⟨3,y.Text⟩:ab)) (j:=0) (l':=[I 3,Z]) 1 q0 (by kernel_rfl) rfl q d2 j2 rfl (by kernel_rfl) ⟨rfl,trivial⟩ (by kernel_rfl) rfl ⟨Z,rfl,c2⟩) ?_;rintro z0 q3 ⟨n2,s0,e2⟩;refine wln ?_;obtain rfl:=si a;have t0:=s0.sD 2 [1,0];exact jn z0 ⟨v10,n2,t0,rfl,e2⟩
  refine W.skip (nrm ?_);obtain rfl:=si a;have u0:=E.sD 2 [1,0];exact jn M ⟨v10,m2,u0,rfl,k⟩
 rintro e_ w_ ⟨a1,j3,_,rfl,s3,rfl,d,o,v0,rfl,f2⟩;refine sr (vv (d) (wln (W.ret ?_)));obtain rfl:=si g0;have b0:=v0.sD 2 [0];exact r1 (qq a1 ⟨d,o,b0,rfl,f2⟩)
def lm (sg:Sto) (p0:Option Nat) (p1:Int) (p2:Int) (p3:List Int):Option (Sto×Er):=
 (oB p2 p3).bind fun b=>
 (dQ sg p0 p1 b).bind fun a=>
 some (a.1,a.2)
theorem vH (u:Own c0 G F) (x:Rel c0 sg G) (hG:Gl [2,4] c0) (d:Option Nat) (a:Int) (b:Int) (e:List Int) {r:Sto×Er} (y:Pt 0 c0 v1 d) (z:Sl (RI .i32) c0 v3 e) (H:lm sg d a b e=some r): Calls prog 178 #[v1,I a,I b,v3] c0.w (aO c0 fun c v=>∃t,∃G_:Gm,Own c G_ (F)∧Rel c r.1 G_∧v=t∧RE 350 144 c t r.2):=by
 unfold lm at H;refine en func178 rfl rfl (sr (va (.nilIface) (wln (sr (va (v1) (va (I a) (va (I b) (va (v3) (bn H fun s A H=>cl (BO u b e z A) ?_)))))))));rintro v6 E N ⟨_,T,g,rfl,D⟩;obtain ⟨M,o,P,h,n⟩:=g.frz 0 rfl D;refine WL.gh o (bn H fun S p H=>cl (jM h x.m (hG.m.le (by decide)) d a s y.m n p) ?_);rintro v20 l R ⟨_,f,i,k,rfl,q⟩;refine va (v20) (wln (W.ret ?_));obtain rfl:=si H;have j:=i.sD 1 [];exact r1 (qq l ⟨v20,f,j,k,rfl,q⟩)
def ou (sg:Sto) (p0:Option Nat) (p1:Int):Option (Int×nC×Bool):=
 (ge sg p0 p1).bind fun b=>
 ((bV b.2 (some (b.1.Kind==3))).bind fun d=>
 if d=true then
 (ge sg p0 (w64 (p1 - 1))).bind fun c=>
 some ((w64 (p1 - 1)),c.2,c.1.Kind,c.1.Text)
 else
 some (p1,b.2,b.1.Kind,b.1.Text)).bind fun a=>
 (bV a.2.1 (some (a.2.2.1==1))).bind fun e=>
 if e=true then
 some (a.1,(⟨1,a.2.2.2⟩:nC),true)
 else
 (bV a.2.1 (some (a.2.2.1==2))).bind fun f=>
 if f=true then
 some (a.1,(⟨2,a.2.2.2⟩:nC),true)
 else
 some (0,(⟨0,([]:List Int)⟩:nC),false)
theorem BI (O0:Own c0 G F) (R0:Rel c0 sg G) (p0:Option Nat) (j:Int) {r:Int×nC×Bool} (h2:Pt 0 c0 v1 p0) (H:ou sg p0 j=some r): Calls prog 319 #[v1,I j] c0.w (aO c0 fun c v=>∃y1 y2,Own c G (es true (RI .i32) y1 21 y2 r.2.1.Text :: F)∧v= .tuple #[I r.1,.agg #[I r.2.1.Wide,y1],B r.2.2]∧OA (RI .i32) c y1 y2 r.2.1.Text):=by
 unfold ou at H;refine en func319 rfl rfl (sr (va (I 0) (me (al 165 [I 0,Y] O0) ?_)));rintro v6 c5 l5 ⟨u,rfl,O4⟩;refine va (B false) (wln (sr (va (v1) (va (I j) (bn H fun f h7 H=>cl (qB O4 R0.m p0 j h2.m h7) ?_)))));rintro v16 d3 l3 ⟨v8,u9,k1,rfl,e0⟩;refine va (.tuple #[.agg #[I f.1.Kind,v8],B f.2]) (va (.agg #[I f.1.Kind,v8]) (va (B f.2) (me (al 114 [I 0,Y] k1) ?_)));rintro v20 e3 k2 ⟨b,rfl,m1⟩;obtain ⟨N,P,R,rfl⟩:=((e0.mono k2)).form;refine md (sA 114 [I f.1.Kind,.slice N P R] 0 m1 ⟨rfl,e0.m.one,trivial⟩) ?_;rintro S m3 U;refine va (B f.2) (wln (bn H fun a g d=>W.seqJ (Jn S fun c l=>∃v28 i,Own c G (es true (RI .i32) v28 21 i a.2.2.2 :: (Eb b 114 [I a.2.2.1,v28]) :: (Eb u 165 [I 0,Y]) :: F)∧l= [(1,I a.1),(5,Q u),(6,B a.2.1),(7,Q b)]∧OA (RI .i32) c v28 i a.2.2.2) ?_ ?_))
 ·refine W.seq (bn g fun y0 q0 g=>W.join (Jn S fun c l=>Own c G ((Eb b 114 [I f.1.Kind,.slice N P R]) :: es true (RI .i32) (.slice N P R) 21 u9 f.1.Text :: (Eb u 165 [I 0,Y]) :: F)∧l= [(0,v1),(1,I j),(5,Q u),(6,B f.2),(7,Q b),(19,B y0)]) ?_ ?_)
  ·clear g;refine W.region (va (B f.2) ?_);rcases bo (f.2) with x | x
   ·have h1:=anT x q0;refine vb x (wa (Q b) (wn (vx (le1 0 u_3 (U.on 0 rfl)) (wa (B (f.1.Kind==3)) ?_))));obtain rfl:=si h1;exact va (B (f.1.Kind==3)) (wln (jn S ⟨U,rfl⟩))
   obtain rfl:=anF x q0;exact vb x (pz (ps (va (B false) (wln (jn S ⟨U,rfl⟩)))))
  rintro e_ w_ ⟨x1,h3,_,rfl,n3,rfl,h0,rfl⟩;refine nrm (cn g (fun e2 g=>?_) (fun e2 g=>?_))
  ·refine sr (va (I j) (vv (I (w64 (j - 1))) (wln (W.region (va (v1) (va (I (w64 (j - 1))) (bn g fun h f2 g=>cl (qB h0 R0.m p0 (w64 (j - 1)) h2.m f2) ?_)))))));rintro v49 f3 o3 ⟨v41,s2,n1,rfl,f0⟩;refine va (.tuple #[.agg #[I h.1.Kind,v41],B h.2]) (va (.agg #[I h.1.Kind,v41]) (va (B h.2) ?_));obtain ⟨l0,m0,o0,rfl⟩:=(f0).form;refine md (sA 114 [I h.1.Kind,.slice l0 m0 o0] 1 n1 ⟨rfl,(f0).one,trivial⟩) ?_;rintro z1 p3 q1;refine va (B h.2) (wln ?_);obtain rfl:=si g;have s1:=q1.sD 4 [0,1,3];exact jn z1 ⟨(.slice l0 m0 o0),s2,s1,rfl,f0.m⟩
  refine W.skip (nrm ?_);obtain rfl:=si g;have t1:=h0.sD 3 [1,0,2];exact jn x1 ⟨(.slice N P R),u9,t1,rfl,e0.m⟩
 rintro e_ w_ ⟨a0,i3,_,rfl,q3,rfl,v28,i,X,rfl,k⟩;refine W.seq (W.block (W.seq (bn d fun z0 s0 d=>W.join (Jn a0 fun c l=>Own c G (es true (RI .i32) v28 21 i a.2.2.2 :: (Eb b 114 [I a.2.2.1,v28]) :: (Eb u 165 [I 0,Y]) :: F)∧l= [(1,I a.1),(5,Q u),(6,B a.2.1),(7,Q b),(28,B z0)]) ?_ ?_)))
 ·clear d;refine W.region (va (B a.2.1) ?_);rcases bo (a.2.1) with y | y
  ·have i1:=anT y s0;refine vb y (wa (Q b) (wn (vx (le1 0 u_3 (X.on 1 rfl)) (wa (B (a.2.2.1==1)) ?_))));obtain rfl:=si i1;exact vv (B (a.2.2.1==1)) (wln (jn a0 ⟨X,rfl⟩))
  obtain rfl:=anF y s0;exact vb y (pz (ps (vv (B false) (wln (jn a0 ⟨X,rfl⟩)))))
 rintro e_ w_ ⟨b0,j3,_,rfl,u0,rfl,M,rfl⟩;refine nrm (cn d (fun g2 d=>?_) (fun g2 d=>?_))
 ·refine W.seq (rD [] (Kp G0 [(Eb b 114 [I a.2.2.1,v28])]) M ?_);intro b2 l2 i0;have o2:Kp G0 [(Eb b 114 [I a.2.2.1,v28])] b2:=(Kp.cons (i0.on 1 rfl) Kp.nil0);refine ta 0 (I a.1) (ta 1 (Qo b 1) (tkx 2 o2 (fun c' j2 hk=>le1 1 dS (hk.on 0 rfl)) ?_));obtain ⟨n,o,p,rfl⟩:=((k.mono (u0.trans l2))).form;refine ta 3 (.agg #[I 1,.slice n o p]) (ta 4 (I a.1) (o1 5 (gD 5 (sA 165 [I 1,.slice n o p] 2 i0 ⟨rfl,k.m.one,trivial⟩) ?_)));rintro d0 s3 Z;have p2:Kp G0 [(Eb b 114 [I a.2.2.1,(.slice n o p)])] d0:=(Kp.cons (Z.on 1 rfl) Kp.nil0);refine ⟨.inr p2,ta 6 (B true) (dn (nrm (W.ret (bkr (thr ?_)))))⟩;obtain rfl:=si d;have u1:=Z.sD 3 [0];exact zu (c:=d0) (vs:=[I 1,.slice n o p]) (v:=B true) (v':=I a.1) rfl (by kernel_rfl) (by kernel_rfl) (by kernel_rfl) (by kernel_rfl) (by kernel_rfl) (Z.on 2 rfl _ rfl).1 ⟨_,d0,rfl,rfl,pt,(.slice n o p),i,u1,rfl,k.m⟩
 refine W.seq (bn d fun a1 t0 d=>W.join (Jn b0 fun c l=>Own c G (es true (RI .i32) v28 21 i a.2.2.2 :: (Eb b 114 [I a.2.2.1,v28]) :: (Eb u 165 [I 0,Y]) :: F)∧l= [(1,I a.1),(5,Q u),(7,Q b),(39,B a1)]) ?_ ?_)
 ·clear d;refine W.region (va (B a.2.1) ?_);rcases bo (a.2.1) with z | z
  ·have j1:=anT z t0;refine vb z (wa (Q b) (wn (vx (le1 0 u_3 (M.on 1 rfl)) (wa (B (a.2.2.1==2)) ?_))));obtain rfl:=si j1;exact vv (B (a.2.2.1==2)) (wln (jn b0 ⟨M,rfl⟩))
  obtain rfl:=anF z t0;exact vb z (pz (ps (vv (B false) (wln (jn b0 ⟨M,rfl⟩)))))
 rintro e_ w_ ⟨g3,k3,_,rfl,m2,rfl,j0,rfl⟩;refine nrm (cn d (fun i2 d=>?_) (fun i2 d=>?_))
 ·refine W.seq (rD [] (Kp G0 [(Eb b 114 [I a.2.2.1,v28])]) j0 ?_);intro c2 n2 k0;have q2:Kp G0 [(Eb b 114 [I a.2.2.1,v28])] c2:=(Kp.cons (k0.on 1 rfl) Kp.nil0);refine ta 0 (I a.1) (ta 1 (Qo b 1) (tkx 2 q2 (fun c' j2 hk=>le1 1 dS (hk.on 0 rfl)) ?_));obtain ⟨q,s,t,rfl⟩:=((k.mono (u0.trans (m2.trans n2)))).form;refine ta 3 (.agg #[I 2,.slice q s t]) (ta 4 (I a.1) (o1 5 (gD 5 (sA 165 [I 2,.slice q s t] 2 k0 ⟨rfl,k.m.one,trivial⟩) ?_)));rintro D a3 A;have e1:Kp G0 [(Eb b 114 [I a.2.2.1,(.slice q s t)])] D:=(Kp.cons (A.on 1 rfl) Kp.nil0);refine ⟨.inr e1,ta 6 (B true) (dn (nrm (W.ret (bkr (thr ?_)))))⟩;obtain rfl:=si d;have v0:=A.sD 3 [0];exact zu (c:=D) (vs:=[I 2,.slice q s t]) (v:=B true) (v':=I a.1) rfl (by kernel_rfl) (by kernel_rfl) (by kernel_rfl) (by kernel_rfl) (by kernel_rfl) (A.on 2 rfl _ rfl).1 ⟨_,D,rfl,rfl,pt,(.slice q s t),i,v0,rfl,k.m⟩
 refine W.skip (bkn (nrm (sr (va (.agg #[I 0,Y]) (va (I 0) (md (sA 165 [I 0,Y] 2 j0 ⟨rfl,rfl,trivial⟩) ?_))))));rintro E c3 w0;refine va (B false) (wln (W.ret ?_));obtain rfl:=si d;have c1:OA (RI .i32) E (Y) [] []:=OA.nil (aM _);have T:=w0.addHole (e:=es true (RI .i32) (Y) 21 [] ([]:List Int)) rfl;have x0:=T.sD 4 [0];exact zu (c:=E) (vs:=[I 0,Y]) (v:=B false) (v':=I 0) rfl (by kernel_rfl) (by kernel_rfl) (by kernel_rfl) (by kernel_rfl) (by kernel_rfl) (T.on 3 rfl _ rfl).1 ⟨_,E,rfl,rfl,pt,(Y),[],x0,rfl,c1⟩
def nn (sg:Sto) (p0:Option Nat) (p1:Int) (p2:Int):Option (Sto×Bool):=
 (ou sg p0 p1).bind fun a=>
 (orE (!a.2.2) (some (decide ((a.2.1.Text.length:Int)≥16)))).bind fun c=>
 if c=true then
 some (sg,false)
 else
 (app a.2.1.Text ([p2]:List Int)).bind fun d=>
 (lm sg p0 a.1 a.2.1.Wide d).bind fun b=>
 some (b.1,b.2.isNil)
theorem zO (O0:Own c0 G F) (R:Rel c0 sg G) (hG:Gl [2,4] c0) (q:Option Nat) (s:Int) (h:Int) {r:Sto×Bool} (h2:Pt 0 c0 v1 q) (H:nn sg q s h=some r): Calls prog 308 #[v1,I s,J h] c0.w (aO c0 fun c v=>∃G_:Gm,Own c G_ (F)∧Rel c r.1 G_∧v=B r.2):=by
 unfold nn at H;refine en func308 rfl rfl (sr (va (B false) (wln (sr (va (v1) (va (I s) (bn H fun a h3 H=>cl (BI O0 R q s h2 h3) ?_)))))));rintro v12 q1 u1 ⟨v4,u5,O8,rfl,p⟩;refine va (.tuple #[I a.1,.agg #[I a.2.1.Wide,v4],B a.2.2]) (va (I a.1) (va (.agg #[I a.2.1.Wide,v4]) (va (B a.2.2) (me (al 165 [I 0,Y] O8) ?_))));rintro v16 s1 a1 ⟨b,rfl,a0⟩;refine va (I a.1) ?_;obtain ⟨d,e,f,rfl⟩:=((p.mono a1)).form;refine md (sA 165 [I a.2.1.Wide,.slice d e f] 0 a0 ⟨rfl,p.m.one,trivial⟩) ?_;rintro j w1 i;refine va (B a.2.2) (wln (W.seq (W.seq (bn H fun S M H=>W.join (Jn j fun c l=>Own c G ((Eb b 165 [I a.2.1.Wide,.slice d e f]) :: es true (RI .i32) (.slice d e f) 21 u5 a.2.1.Text :: F)∧l= [(0,v1),(2,J h),(7,I a.1),(8,Q b),(24,B S)]) ?_ ?_))))
 ·clear H;refine W.region (va (B a.2.2) (va (B (!a.2.2)) ?_));rcases bo (!a.2.2) with g | g
  ·obtain rfl:=orT g M;exact vb g (pz (pz (va (B true) (wln (jn j ⟨i,rfl⟩)))))
  have Z:=orF g M;refine vb g (wa (Qo b 1) (wn (vx (le1 1 dS (i.on 0 rfl)) (wn (vx (lnO 3 dS p.m) (wa (B (decide ((a.2.1.Text.length:Int)≥16))) ?_))))));obtain rfl:=si Z;exact va (B (decide ((a.2.1.Text.length:Int)≥16))) (wln (jn j ⟨i,rfl⟩))
 rintro e_ w_ ⟨g0,t1,_,rfl,x1,rfl,t,rfl⟩;refine nrm (cn H (fun o0 H=>?_) (fun o0 H=>?_))
 ·refine sr (va (B false) (wln (W.ret (thr ?_))));obtain rfl:=si H;have b0:=t.sD 2 [];exact r1 (qq g0 ⟨G,b0,R.m,rfl⟩)
 refine W.skip (nrm (W.seq (rD [] (Kp G0 [(Eb b 165 [I a.2.1.Wide,.slice d e f])]) t ?_)));intro h0 y1 u;have P:Kp G0 [(Eb b 165 [I a.2.1.Wide,.slice d e f])] h0:=(Kp.cons (u.on 0 rfl) Kp.nil0);refine ta 0 (v1) (ta 1 (I a.1) (ta 2 (Q b) (tkx 3 P (fun c' N T=>le1 0 u_3 (T.on 0 rfl)) (ta 4 (Qo b 1) (tkx 5 P (fun c' N T=>le1 1 dS (T.on 0 rfl)) (ta 6 (J h) (o1 7 (gm 7 (sl (RI .i32) 21 [[J h]] ([h]:List Int) u ⟨rfl,trivial⟩) ?_))))))));rintro v40 i0 z1 ⟨d2,x,q0⟩;have d1:Kp G0 [(Eb b 165 [I a.2.1.Wide,.slice d e f])] i0:=(Kp.cons (x.on 1 rfl) Kp.nil0);refine ⟨.inr d1,?_⟩;obtain ⟨j0,t0,b1,y,s0⟩:=x.frz 0 rfl q0;have e1:Kp G0 [(Eb b 165 [I a.2.1.Wide,.slice d e f])] j0:=(Kp.cons (y.on 1 rfl) Kp.nil0);refine AC.gh t0 b1 (fun _=>e1) (bn H fun U u0 H=>o1 8 (gm 8 (ap (RI .i32) (J 0) 4 32 2 y p.m s0 u0 dS) ?_));rintro v52 k0 b2 ⟨e2,z,v0⟩;have f1:Kp G0 [(Eb b 165 [I a.2.1.Wide,.slice d e f])] k0:=(Kp.cons (z.on 1 rfl) Kp.nil0);refine ⟨.inr f1,?_⟩;obtain ⟨l0,x0,c1,A,w0⟩:=z.frz 2 rfl v0;have g1:Kp G0 [(Eb b 165 [I a.2.1.Wide,.slice d e f])] l0:=(Kp.cons (A.on 1 rfl) Kp.nil0);refine AC.gh x0 c1 (fun _=>g1) (bn H fun o y0 H=>o1 9 (gc 9 (vH A R.m (hG.m.le (by decide)) q a.1 a.2.1.Wide U h2.m w0 y0) ?_));rintro v60 E c2 ⟨_,X,D,e0,rfl,z0⟩;have h1:Kp G0 [(Eb b 165 [I a.2.1.Wide,.slice d e f])] E:=(Kp.cons (D.on 1 rfl) Kp.nil0);refine ⟨.inr h1,AC.take 10 (B o.2.isNil) rfl (by kernel_rfl) (by kernel_rfl) (fun c' N=>(by rcases (z0).cs with ⟨k,n⟩ | ⟨b_,k,n⟩ | ⟨b_,k,n⟩ <;> (subst k; rw [n]; kernel_rfl))) (ta 11 (B o.2.isNil) (dn (nrm (W.ret ?_))))⟩;obtain rfl:=si H;have d0:=D.sD 3 [];exact r1 (qq E ⟨X,d0,e0,rfl⟩)
def my (sg:Sto) (p0:Int) (p1:Int):Option (Sto×(Option Nat)):=
 (some (sg.add_grid_Grid (⟨([]:List (Option Nat))⟩:bZ))).bind fun c=>
 (cM (σ:=Int×Sto) (τ:=Sto) (((aE 1 (aB p1 1024)) - 0).toNat+1) (fun a=>
 if (decide (a.1 < (aE 1 (aB p1 1024))))=true then
 (a.2.grid_Grid[sg.grid_Grid.length]?).bind fun f=>
 (kF a.2 p0).bind fun d=>
 (app f.rows ([d.2]:List (Option Nat))).bind fun g=>
 (d.1.set_grid_Grid sg.grid_Grid.length (⟨g⟩:bZ)).bind fun b=>
 some (.inl ((w64 (a.1+1)),b))
 else
 some (.inr (a.2))) (0,c)).bind fun e=>
 some (e,(some sg.grid_Grid.length))
theorem vJ (O0:Own c0 G F) (R0:Rel c0 sg G) (y:Int) (n:Int) {r:Sto×(Option Nat)} (H:my sg y n=some r): Calls prog 112 #[I y,I n] c0.w (aO c0 fun c v=>∃y1,∃G_:Gm,Own c G_ (F)∧Rel c r.1 G_∧eI G G_∧v=y1∧Pt 1 c y1 r.2):=by
 unfold my at H;refine en func112 rfl rfl (sr (va (.pointer none) (wln (sr (va (.agg #[Y]) ?_)))));have h2:OA (RP 0) c0 (Y) [] []:=OA.nil (aM _);have O1:=O0.addHole (e:=es true (RP 0) (Y) 168 [] ([]:List (Option Nat))) rfl;refine me (al 176 [(Y)] O1) ?_;rintro v6 c5 l5 ⟨a,rfl,O4⟩;have O7:=O4.sD 2 [0,1];refine bn H fun q2 h8 H=>?_;obtain ⟨z,l0,t1,l9,p,q0,U,l3,u1,a16⟩:=Rel.new_grid_Grid (E:=[(Eb a 176 [(Y)]),es true (RP 0) (Y) 168 [] ([]:List (Option Nat))]) (F:=F) (x:=(⟨([]:List (Option Nat))⟩:bZ)) (b:=a) O7 (R0.mono l5) (fun c_ hle_=>⟨a,(Y),[],rfl,rfl,((h2.mono l5).mono hle_)⟩);rw [bm h8] at U;refine WL.gh t1.1 ?_;have v1:=eI.nil (eI.refl _) u1;have c1:=(eI.refl _).trans a16;have w1:Pt 1 z (Q a) (some sg.grid_Grid.length):=⟨a,rfl,p⟩;refine va (Q a) (wln (W.seq (sr (va (I n) (va (I (aB n 1024)) (va (I (aE 1 (aB n 1024))) (va (I 0) (wln (W.block (bn H fun e3 a0 D=>lp a0 (fun d=>Jn z fun c l=>∃G_,Own c G_ (F)∧l= [(0,I y),(5,Q a),(10,I (aE 1 (aB n 1024))),(11,I d.1)]∧Rel c d.2 G_∧eI G G_) (fun A ex e w=>ex= .exit 0∧(Jn z fun c l=>∃G_,Own c G_ (F)∧l= [(5,Q a)]∧Rel c A G_∧eI G G_) e w) ?_ ?_ ?_))))))))))
 ·clear D a0;intro d t3 s1 s2 H;revert s1 s2;rintro e_ w_ ⟨h1,j3,_,rfl,j2,rfl,f,M,rfl,o,X⟩;refine sr (va (B (decide (d.1 < (aE 1 (aB n 1024))))) (wln (W.seq (cn H (fun x1 H=>?_) (fun x1 H=>?_)))))
  ·refine W.skip (nrm (W.seq (W.block (rD [8,11] (Kp f []) M ?_))));intro i1 e0 N;have m2:Kp f [] i1:=(Kp.nil N);refine ta 0 (Q a) (ta 1 (Q a) (ta 2 (Q a) (ta 3 (Q a) (bn H fun f3 z1 H=>?_))));obtain ⟨v35,p3,b0,b2⟩:=Rel.open_grid_Grid (o.mono e0) z1 (tm p);refine tkx 4 m2 (fun c' n3 hk=>le1 0 mh (hk.gon b0 0 rfl)) (ta 5 (I y) (bn H fun i0 c2 H=>o1 6 (gc 6 (tV N o.m y c2) ?_)));rintro v40 j1 k2 ⟨_,h3,P,z0,k,rfl,d0⟩;have d1:=X.trans k;have n2:Kp f [] j1:=(Kp.adds P k);refine ⟨.inr n2,?_⟩;obtain ⟨Z,rfl⟩:=(d0).form;refine o1 7 (gm 7 (sl (RP 0) 168 [[.pointer Z]] ([i0.2]:List (Option Nat)) P ⟨⟨(.pointer Z),rfl,d0⟩,trivial⟩) ?_);rintro v55 k1 f0 ⟨q3,R,d2⟩;have o2:Kp f [] k1:=(Kp.adds R k);refine ⟨.inr o2,?_⟩;obtain ⟨m1,f2,s,S,e2⟩:=R.frz 0 rfl d2;have p2:Kp f [] m1:=(Kp.adds S k);refine AC.gh f2 s (fun _=>p2) (bn H fun j0 g2 H=>?_);have s0:=S.borrow 1 (k.get b0) rfl;refine o1 8 (gm 8 (ap (RP 0) (.pointer none) 8 174 0 s0 b2.m e2 g2 mh) ?_);rintro s3 i3 g0 ⟨h0,t0,q⟩;have u0:=t0.giveB 1 rfl;refine ⟨.inl rfl,ta 9 (Q a) (ta 10 (Q a) ?_)⟩;obtain ⟨g,h,i,rfl⟩:=(q).form;refine o1 11 (gD 11 (Own.stGB (T:=174) (j:=0) (us:=[.slice g h i]) (nw:=[.slice g h i]) (v:= .slice g h i) 0 u0 (by kernel_rfl) rfl rfl rfl rfl (by kernel_rfl) ⟨(q).one,trivial⟩ (by kernel_rfl) rfl) ?_);rintro n1 u v0;refine bn H fun k0 i2 H=>?_;obtain ⟨m0,w0,a1,m3,e1⟩:=Rel.put_grid_Grid v0 (z0.mono (f0.trans (s.trans (g0.trans u)))) (E':=[(Eb a 176 [.slice g h i]),es true (RP 0) (.slice g h i) 168 h0 j0]) i2 ⟨a,(.slice g h i),h0,((j2.trans (e0.trans (k2.trans (f0.trans (s.trans (g0.trans u)))))).t _ _ _ p),rfl,(q.mono u)⟩;have f1:=e1 _ d1 v1;refine ⟨.inl rfl,dn (bkn (nrm (W.region (vv (I (w64 (d.1+1))) (WL.nil ?_)))))⟩;obtain rfl:=si H;refine ⟨_,rfl,?_⟩;have x0:=w0.sD 1 [];exact jn n1 ⟨m0,x0,rfl,a1,f1⟩
  refine W.exit (thx ?_);obtain rfl:=si H;exact ⟨_,rfl,rfl,jn h1 ⟨f,M,rfl,o,X⟩⟩
 ·exact jn z ⟨l0,q0,rfl,U,c1⟩
 rintro _ e_ w_ ⟨rfl,q1,k3,_,rfl,o3,rfl,o0,y0,rfl,b1,g1⟩;refine bke (nrm (sr (vv (Q a) (wln (W.ret ?_)))));obtain rfl:=si D;exact r1 (qq q1 ⟨(Q a),o0,y0,b1,g1,rfl,w1.m⟩)
def mJ (sg:Sto) (p0:Int) (p1:Int):Option (Sto×(Option Nat)):=
 (my sg p0 p1).bind fun b=>
 (some (b.1.add_place_Pen (⟨b.2,(⟨0,0,false⟩:ai),true⟩:bi))).bind fun a=>
 some (a,(some b.1.place_Pen.length))
theorem yR (N:Own c0 G F) (R:Rel c0 sg G) (e:Int) (f:Int) {r:Sto×(Option Nat)} (H:mJ sg e f=some r): Calls prog 73 #[I e,I f] c0.w (aO c0 fun c v=>∃M,∃G_:Gm,Own c G_ (F)∧Rel c r.1 G_∧eI G G_∧v=M∧Pt 2 c M r.2):=by
 unfold mJ at H;refine en func73 rfl rfl (sr (va (.pointer none) (wln (sr (va (I e) (va (I f) (bn H fun k U H=>cl (vJ N R e f U) ?_)))))));rintro v2 c8 l8 ⟨_,G4,P,S,T,rfl,z⟩;have h:=(eI.refl _).trans T;obtain ⟨d,rfl⟩:=(z).form;refine va (.agg #[.pointer d,I 0,I 0,B false,B true]) (me (al 126 [.pointer d,I 0,I 0,B false,B true] P) ?_);rintro v15 X j ⟨a,rfl,m⟩;have n:=m.sD 1 [0];refine bn H fun D s H=>?_;obtain ⟨i,l,t,b0,u,o,g,Z,y,p⟩:=Rel.new_place_Pen (E:=[(Eb a 126 [.pointer d,I 0,I 0,B false,B true])]) (F:=F) (x:=(⟨k.2,(⟨0,0,false⟩:ai),true⟩:bi)) (b:=a) n (S.mono j) (fun c_ hle_=>⟨a,(.pointer d),rfl,rfl,(z.mono (j.trans hle_))⟩);rw [bm s] at g;refine WL.gh t.1 ?_;have a0:=eI.nil h y;have q:=h.trans p;have A:Pt 2 i (Q a) (some k.1.place_Pen.length):=⟨a,rfl,u⟩;refine va (Q a) (wln (W.ret ?_));obtain rfl:=si H;exact r1 (qq i ⟨(Q a),l,o,g,q,rfl,A⟩)
def gE (p0:Int) (p1:Int):Option (List ak):=
 (cM (σ:=(List ak)×Int) (τ:=(List ak)) ((p1 - 0).toNat+1) (fun a=>
 if (decide (a.2 < p1))=true then
 (rep p0 (⟨0,([]:List Int)⟩:ab)).bind fun b=>
 (app a.1 ([(⟨b,false⟩:ak)]:List ak)).bind fun c=>
 some (.inl (c,(w64 (a.2+1))))
 else
 some (.inr (a.1))) (([]:List ak),0)).bind fun d=>
 some d
theorem rk (O0:Own c0 G F) (b:Int) (k:Int) {r:List ak} (H:gE b k=some r): Calls prog 104 #[I b,I k] c0.w (aO c0 fun c v=>∃u y2,Own c G (es true an u 48 y2 r :: F)∧v=u∧OA an c u y2 r):=by
 unfold gE at H;refine en func104 rfl rfl (sr (va (Y) (wln (sr (va (Y) (wln (W.seq (sr (va (I 0) (wln (W.block (bn H fun k1 h1 y=>lp h1 (fun a=>Jn c0 fun c l=>∃v3 n,Own c G (es true an v3 48 n a.1 :: F)∧l= [(0,I b),(1,I k),(5,v3),(6,I a.2)]∧OA an c v3 n a.1) (fun h ex e w=>ex= .exit 0∧(Jn c0 fun c l=>∃v5 o,Own c G (es true an v5 48 o h :: F)∧l= [(5,v5)]∧OA an c v5 o h) e w) ?_ ?_ ?_))))))))))))
 ·clear y h1;intro a q1 a0 q0 H;revert a0 q0;rintro e_ w_ ⟨c7,g8,_,rfl,l7,rfl,v3,n,U,rfl,p⟩;refine W.seq (sr (va (I a.2) (va (I k) (va (B (decide (a.2 < k))) (wln (cn H (fun d0 H=>?_) (fun d0 H=>?_)))))))
  ·refine W.skip (nrm (W.seq (W.block (W.region (va (v3) (va (I b) (bn H fun t q H=>me (Own.mkS (kl:= .i64) (kc:= .i64) (R:=ag) (z:= .agg #[I 0,Y]) (lz:=[I 0,Y]) (x:=(⟨0,([]:List Int)⟩:ab)) (by_:=32) (i:=b) (j:=b) true U (aM _) q (oN _) (rR q) cG (by kernel_rfl) rfl rfl (fun _=>⟨(Y),rfl,(Sl.nl _ _)⟩) (by kernel_rfl) (by kernel_rfl)) ?_)))))));rintro v20 y0 d1 ⟨m1,A,s⟩;obtain ⟨d,f,g,rfl⟩:=(s).form;refine va (.agg #[.slice d f g,B false]) ?_;obtain ⟨z0,f0,e1,D,e0⟩:=A.frz 0 rfl s;refine WL.gh f0 (me (sl an 48 [[.slice d f g,B false]] ([(⟨t,false⟩:ak)]:List ak) D ⟨⟨(.slice d f g),rfl,e0⟩,trivial⟩) ?_);rintro v32 a1 f1 ⟨n1,E,g0⟩;obtain ⟨b1,i0,g1,M,h0⟩:=E.frz 0 rfl g0;refine WL.gh i0 (bn H fun x0 j0 H=>me (ap an (.agg #[Y,B false]) 32 27 2 M p.m h0 j0 gX) ?_);rintro v42 X i1 ⟨o0,N,k0⟩;refine va (v42) (WL.nil (bkn (nrm (W.region (va (I a.2) (vv (I (w64 (a.2+1))) (WL.nil ?_)))))));obtain rfl:=si H;refine ⟨_,rfl,?_⟩;have P:=N.sD 3 [2];exact jn X ⟨v42,o0,P,rfl,k0⟩
  refine W.exit (thx ?_);obtain rfl:=si H;exact ⟨_,rfl,rfl,jn c7 ⟨v3,n,U,rfl,p⟩⟩
 ·have l0:OA an c0 (Y) [] []:=OA.nil (aM _);have S:=O0.addHole (e:=es true an (Y) 48 [] ([]:List ak)) rfl;exact jn c0 ⟨(Y),[],S,rfl,l0⟩
 rintro _ e_ w_ ⟨rfl,Z,c1,_,rfl,j1,rfl,v5,o,T,rfl,m0⟩;refine bke (nrm (sr (vv (v5) (wln (W.ret ?_)))));obtain rfl:=si y;exact r1 (qq Z ⟨v5,o,T,rfl,m0⟩)
def gA (p0:Int) (p1:Int):Option (aa):=
 (gE p0 p1).bind fun a=>
 some (⟨a,(⟨0,0,false⟩:ai),true⟩:aa)
theorem rh (n:Own c0 G F) (d:Int) (e:Int) {r:aa} (H:gA d e=some r): Calls prog 63 #[I d,I e] c0.w (aO c0 fun c v=>∃i l,Own c G (es true an i 48 l r.L :: F)∧v= .agg #[i,I r.At.Row,I r.At.Col,B r.At.Pending,B r.Auto]∧OA an c i l r.L):=by
 unfold gA at H;refine en func63 rfl rfl (sr (me (al 31 [Y,I 0,I 0,B false,B false] n) ?_));rintro v4 z A ⟨y,rfl,o⟩;refine wln (sr (va (I d) (va (I e) (bn H fun x p H=>cl (rk o d e p) ?_))));rintro v6 s t ⟨_,q,j,rfl,h⟩;obtain ⟨a,a16,b,rfl⟩:=(h).form;refine va (.agg #[.slice a a16 b,I 0,I 0,B false,B true]) (md (sA 31 [.slice a a16 b,I 0,I 0,B false,B true] 1 j ⟨(h).one,rfl,rfl,rfl,rfl,trivial⟩) ?_);rintro g u f;refine wln (W.ret ?_);obtain rfl:=si H;have k:=f.sD 2 [0];exact kE (c:=g) (vs:=[.slice a a16 b,I 0,I 0,B false,B true]) rfl (by kernel_rfl) (by kernel_rfl) (by kernel_rfl) (f.on 1 rfl _ rfl).1 ⟨_,g,rfl,rfl,pt,(.slice a a16 b),q,k,rfl,h.m⟩
def gQ (p0:Int):Option (Int):=
 some (aE 1 (aB p0 1024))
theorem mG (b:Own c0 G F) (a:Int) {r:Int} (H:gQ a=some r): Calls prog 183 #[I a] c0.w (aO c0 fun c v=>Own c G (F)∧v=I r):=by
 unfold gQ at H;refine en func183 rfl rfl (sr (va (I 0) (wln (sr (va (I a) (va (I (aB a 1024)) (vv (I (aE 1 (aB a 1024))) (wln (W.ret ?_)))))))));obtain rfl:=si H;exact r1 (qq c0 ⟨b,rfl⟩)
def kX (p0:Int) (p1:Int):Option (Int):=
 some (aE 0 (aB p0 (w64 (p1 - 1))))
theorem rJ (d:Own c0 G F) (b:Int) (a:Int) {r:Int} (H:kX b a=some r): Calls prog 184 #[I b,I a] c0.w (aO c0 fun c v=>Own c G (F)∧v=I r):=by
 unfold kX at H;refine en func184 rfl rfl (sr (va (I 0) (wln (sr (va (I b) (va (I a) (va (I (w64 (a - 1))) (va (I (aB b (w64 (a - 1)))) (vv (I (aE 0 (aB b (w64 (a - 1))))) (wln (W.ret ?_)))))))))));obtain rfl:=si H;exact r1 (qq c0 ⟨d,rfl⟩)
def fZ (p0:ai) (p1:Int) (p2:Int):Option (ai):=
 (gQ p1).bind fun a=>
 (gQ p2).bind fun e=>
 (kX p0.Row e).bind fun c=>
 (kX p0.Col a).bind fun d=>
 (bV p0.Pending (some (p0.Col==(w64 (a - 1))))).bind fun b=>
 some (⟨c,d,b⟩:ai)
theorem ey (O0:Own c0 G F) (a:ai) (n:Int) (o:Int) {r:ai} (H:fZ a n o=some r): Calls prog 117 #[.agg #[I a.Row,I a.Col,B a.Pending],I n,I o] c0.w (aO c0 fun c v=>Own c G (F)∧v= .agg #[I r.Row,I r.Col,B r.Pending]):=by
 unfold fZ at H;refine en func117 rfl rfl (sr (me (bx 29 [I a.Row,I a.Col,B a.Pending] O0) ?_));rintro v5 c4 l4 ⟨k,rfl,O2,m⟩;refine me (al 29 [I 0,I 0,B false] O2) ?_;rintro v9 c8 l8 ⟨R,rfl,O7⟩;refine wln (sr (va (I n) (bn H fun b Z H=>cl (mG O7 n Z) ?_)));rintro v16 l0 o0 ⟨z,rfl⟩;refine va (I o) (bn H fun j a0 H=>cl (mG z o a0) ?_);rintro v23 S q0 ⟨A,rfl⟩;refine va (I b) (va (I j) (wln (W.seq (bn H fun d b0 H=>bn H fun e d0 H=>bn H fun i x H=>W.join (Jn S fun c l=>Own c G ((Eb R 29 [I d,I e,B i]) :: F)∧l= [(6,Q R)]) ?_ ?_))))
 ·clear H;refine rD [] (Kp G0 []) A ?_;intro T s0 D;have y0:Kp G0 [] T:=Kp.nil0;refine ta 0 (Q k) (tx 1 (fun h g=>l1 u_3 ((mm m) 0 _ rfl)) (ta 2 (I j) (ta 4 (Qo k (0+1)) (tx 5 (fun h g=>l1 u_3 ((mm m) 1 _ rfl)) (ta 6 (I b) (ta 8 (Qo k (0+2)) (tx 9 (fun h g=>l1 u_4 ((mm m) 2 _ rfl)) (o1 3 (gc 3 (rJ D a.Row j b0) ?_)))))))));rintro v35 U t0 ⟨E,rfl⟩;have e0:Kp G0 [] U:=Kp.nil0;refine ⟨.inr e0,o1 7 (gc 7 (rJ E a.Col b d0) ?_)⟩;rintro v42 X u0 ⟨p,rfl⟩;have f0:Kp G0 [] X:=Kp.nil0;refine ⟨.inr f0,?_⟩;rcases bo (a.Pending) with f | f
  ·have y:=anT f x;refine AC.takeb 10 f rfl (by kernel_rfl) (by kernel_rfl) (fun h g=>(by kernel_rfl)) (ta 11 (Qo k (0+1)) (tx 12 (fun h g=>l1 u_3 ((mm m) 1 _ rfl)) (ta 13 (I b) (ta 14 (I (w64 (b - 1))) (ta 15 (B (a.Col==(w64 (b - 1)))) ?_)))));obtain rfl:=si y;refine ta 16 (B (a.Col==(w64 (b - 1)))) (ta 17 (.agg #[I d,I e,B (a.Col==(w64 (b - 1)))]) (o1 18 (gD 18 (sA 29 [I d,I e,B (a.Col==(w64 (b - 1)))] 0 p ⟨rfl,rfl,rfl,trivial⟩) ?_)));rintro s v0 M;have g0:Kp G0 [] s:=Kp.nil0;exact ⟨.inr g0,dn (nrm (jn s ⟨M,rfl⟩))⟩
  obtain rfl:=anF f x;refine AC.takeb 10 f rfl (by kernel_rfl) (by kernel_rfl) (fun h g=>(by kernel_rfl)) (tp 11 (tp 12 (tp 13 (tp 14 (tp 15 (ta 16 (B false) (ta 17 (.agg #[I d,I e,B false]) (o1 18 (gD 18 (sA 29 [I d,I e,B false] 0 p ⟨rfl,rfl,rfl,trivial⟩) ?_)))))))));rintro t w0 N;have h0:Kp G0 [] t:=Kp.nil0;exact ⟨.inr h0,dn (nrm (jn t ⟨N,rfl⟩))⟩
 rintro e_ w_ ⟨u,m0,_,rfl,x0,rfl,q,rfl⟩;refine nrm (W.ret ?_);obtain rfl:=si H;have P:=q.sD 1 [];exact kE (c:=u) (vs:=[I d,I e,B i]) rfl (by kernel_rfl) (by kernel_rfl) (by kernel_rfl) (q.on 0 rfl _ rfl).1 ⟨_,u,rfl,rfl,pt,P,rfl⟩
def gp (sg:Sto) (p0:Option Nat):Option (Sto×Bool):=
 (orE p0.isNone ((p0).bind fun i=>
 (sg.place_Pen[i]?).bind fun d=>
 some d.G.isNone)).bind fun h=>
 if h=true then
 some (sg,false)
 else
 (p0).bind fun c=>
 (sg.place_Pen[c]?).bind fun a=>
 (ci sg a.G).bind fun e=>
 (bL sg a.G).bind fun f=>
 (fZ a.At e f).bind fun g=>
 (sg.set_place_Pen c (⟨a.G,g,a.Auto⟩:bi)).bind fun b=>
 some (b,true)
theorem nI (S:Own c0 G F) (h:Rel c0 sg G) (t:Option Nat) {r:Sto×Bool} (T:Pt 2 c0 v1 t) (H:gp sg t=some r): Calls prog 176 #[v1] c0.w (aO c0 fun c v=>∃G_:Gm,Own c G_ (F)∧Rel c r.1 G_∧v=B r.2):=by
 unfold gp at H;refine en func176 rfl rfl (sr (va (B false) (wln (W.seq (W.seq (bn H fun o0 h3 H=>W.join (Jn c0 fun c l=>Own c G (F)∧l= [(0,v1),(11,B o0)]) ?_ ?_))))))
 ·clear H;refine W.region (va (v1) (vr (B t.isNone) (by rcases (T).cs with ⟨e,f⟩ | ⟨b_,e,f⟩ <;> (subst e; rw [f]; kernel_rfl)) ?_));rcases bo (t.isNone) with k | k
  ·obtain rfl:=orT k h3;exact vb k (pz (pz (ps (va (B true) (wln (jn c0 ⟨S,rfl⟩))))))
  have i:=orF k h3;refine vb k (wa (v1) (wn (bn i fun n1 h8 i=>?_)));obtain ⟨b6,rfl,h7⟩:=(T).get h8;refine va (Q b6) (wa (Q b6) (wn (bn i fun q h9 i=>?_)));obtain ⟨v10,s0,q0⟩:=Rel.open_place_Pen h h9 h7;refine vx (le1 0 eW (S.gon s0 0 rfl)) (wn (vr (B q.G.isNone) (by rcases (q0).cs with ⟨e,f⟩ | ⟨b_,e,f⟩ <;> (subst e; rw [f]; kernel_rfl)) ?_));obtain rfl:=si i;exact va (B q.G.isNone) (wln (jn c0 ⟨S,rfl⟩))
 rintro e_ w_ ⟨h0,k1,_,rfl,o,rfl,u,rfl⟩;refine nrm (cn H (fun t0 H=>?_) (fun t0 H=>?_))
 ·refine sr (va (B false) (wln (W.ret (thr ?_))));obtain rfl:=si H;exact r1 (qq h0 ⟨G,u,h.m,rfl⟩)
 refine W.skip (nrm (W.seq (rD [18] (Kp G []) u ?_)));intro i0 p x;have s:Kp G [] i0:=(Kp.nil x);refine ta 0 (v1) (ta 1 (v1) (bn H fun i1 u0 H=>?_));obtain ⟨b,rfl,D⟩:=((T.mono (o.trans p))).get u0;refine ta 2 (Q b) (ta 3 (Qo b 1) (bn H fun d v0 H=>?_));obtain ⟨v27,g,j⟩:=Rel.open_place_Pen (h.mono (o.trans p)) v0 D;refine tkx 4 s (fun c' E n=>leN 29 1 [I d.At.Row,I d.At.Col,B d.At.Pending] (n.gon g 0 rfl)) (ta 5 (Q b) (ta 6 (Q b) (ta 7 (Q b) (tkx 8 s (fun c' E n=>le1 0 eW (n.gon g 0 rfl)) (ta 10 (Q b) (ta 11 (Q b) (ta 12 (Q b) (tkx 13 s (fun c' E n=>le1 0 eW (n.gon g 0 rfl)) (bn H fun U x0 H=>o1 9 (gc 9 (cL x h.m d.G j x0) ?_))))))))));rintro v36 j0 M ⟨y,rfl⟩;have b1:Kp G [] j0:=(Kp.nil y);refine ⟨.inr b1,bn H fun X y0 H=>o1 14 (gc 14 (bH y h.m d.G j.m y0) ?_)⟩;rintro v44 k0 N ⟨z,rfl⟩;have c1:Kp G [] k0:=(Kp.nil z);refine ⟨.inr c1,bn H fun a z0 H=>o1 15 (gc 15 (ey z d.At U X z0) ?_)⟩;rintro v52 l0 P ⟨A,rfl⟩;have d1:Kp G [] l0:=(Kp.nil A);refine ⟨.inr d1,ta 16 (Q b) (ta 17 (Qo b 1) (o1 18 (gD 18 (gB 29 1 [I a.Row,I a.Col,B a.Pending] [v27,I a.Row,I a.Col,B a.Pending,B d.Auto] 0 A g ⟨rfl,rfl,rfl,trivial⟩) ?_)))⟩;rintro m0 R b0;refine bn H fun Z a1 H=>?_;obtain ⟨a0,d0,e0,m1,j1⟩:=Rel.put_place_Pen b0 (h.mono (o.trans (p.trans (M.trans (N.trans (P.trans R)))))) (E':=[(Eb b 126 [v27,I a.Row,I a.Col,B a.Pending,B d.Auto])]) a1 ⟨b,v27,(tm D),rfl,(j.mono (M.trans (N.trans (P.trans R))))⟩;refine ⟨.inl rfl,dn (nrm (sr (va (B true) (wln (W.ret ?_)))))⟩;obtain rfl:=si H;exact r1 (qq m0 ⟨a0,d0,e0,rfl⟩)
def dw (p0:ai):Option (ai):=
 some (⟨p0.Row,0,false⟩:ai)
theorem jN (f:Own c0 G F) (a:ai) {r:ai} (H:dw a=some r): Calls prog 180 #[.agg #[I a.Row,I a.Col,B a.Pending]] c0.w (aO c0 fun c v=>Own c G (F)∧v= .agg #[I r.Row,I r.Col,B r.Pending]):=by
 unfold dw at H;refine en func180 rfl rfl (sr (me (bx 29 [I a.Row,I a.Col,B a.Pending] f) ?_));rintro v5 m o ⟨i,rfl,g,j⟩;refine me (al 29 [I 0,I 0,B false] g) ?_;rintro v9 n p ⟨l,rfl,h⟩;refine wln (sr (va (Q i) (vx (l1 u_3 ((mm j) 0 _ rfl)) (va (.agg #[I a.Row,I 0,B false]) (md (sA 29 [I a.Row,I 0,B false] 0 h ⟨rfl,rfl,rfl,trivial⟩) ?_)))));rintro d k b;refine wln (W.ret ?_);obtain rfl:=si H;have e:=b.sD 1 [];exact kE (c:=d) (vs:=[I a.Row,I 0,B false]) rfl (by kernel_rfl) (by kernel_rfl) (by kernel_rfl) (b.on 0 rfl _ rfl).1 ⟨_,d,rfl,rfl,pt,e,rfl⟩
def mD (p0:ai) (p1:Int):Option (ai×Bool):=
 (gQ p1).bind fun a=>
 if (decide (p0.Row≥(w64 (a - 1))))=true then
 some ((⟨p0.Row,p0.Col,false⟩:ai),true)
 else
 some ((⟨(w64 (p0.Row+1)),p0.Col,false⟩:ai),false)
theorem nX (x:Own c0 G F) (a:ai) (f:Int) {r:ai×Bool} (H:mD a f=some r): Calls prog 236 #[.agg #[I a.Row,I a.Col,B a.Pending],I f] c0.w (aO c0 fun c v=>Own c G (F)∧v= .tuple #[.agg #[I r.1.Row,I r.1.Col,B r.1.Pending],B r.2]):=by
 unfold mD at H;refine en func236 rfl rfl (sr (me (al 29 [I a.Row,I a.Col,B a.Pending] x) ?_));rintro v4 c3 l3 ⟨d,rfl,y⟩;refine me (al 29 [I 0,I 0,B false] y) ?_;rintro v8 c7 l7 ⟨Z,rfl,z⟩;refine va (B false) (wln (sr (va (Qo d 2) (md (sC 4 2 (B false) [I a.Row,I a.Col,B false] 1 z ⟨rfl,trivial⟩) ?_))));rintro E P A;refine wln (W.seq (W.seq (rD [] (Kp G0 [(Eb d 29 [I a.Row,I a.Col,B false])]) A ?_)));intro o R g;have t:Kp G0 [(Eb d 29 [I a.Row,I a.Col,B false])] o:=(Kp.cons (g.on 1 rfl) Kp.nil0);refine ta 0 (Q d) (tkx 1 t (fun c' N D=>le1 0 u_3 (D.on 0 rfl)) (ta 2 (I f) (bn H fun e q H=>o1 3 (gc 3 (mG g f q) ?_))));rintro v20 p S ⟨b,rfl⟩;have u:Kp G0 [(Eb d 29 [I a.Row,I a.Col,B false])] p:=(Kp.cons (b.on 1 rfl) Kp.nil0);refine ⟨.inr u,ta 4 (I (w64 (e - 1))) (ta 5 (B (decide (a.Row≥(w64 (e - 1))))) (dn (nrm (cn H (fun s H=>?_) (fun s H=>?_)))))⟩
 ·refine sr (vx (leN 29 0 [I a.Row,I a.Col,B false] (b.on 1 rfl)) (md (sA 29 [I a.Row,I a.Col,B false] 0 b ⟨rfl,rfl,rfl,trivial⟩) ?_));rintro k T h;refine va (B true) (wln (W.ret (thr ?_)));obtain rfl:=si H;have m:=h.sD 2 [];exact qr (c:=k) (vs:=[I a.Row,I a.Col,B false]) (v:=B true) rfl (by kernel_rfl) (by kernel_rfl) (by kernel_rfl) (by kernel_rfl) (h.on 0 rfl _ rfl).1 ⟨_,k,rfl,rfl,pt,m,rfl⟩
 refine W.skip (nrm (sr (va (Q d) (vx (le1 0 u_3 (b.on 1 rfl)) (va (I (w64 (a.Row+1))) (va (Q d) (md (sC 3 0 (I (w64 (a.Row+1))) [I (w64 (a.Row+1)),I a.Col,B false] 1 b ⟨rfl,trivial⟩) ?_)))))));rintro M U i;refine wln (sr (vx (leN 29 0 [I (w64 (a.Row+1)),I a.Col,B false] (i.on 1 rfl)) (md (sA 29 [I (w64 (a.Row+1)),I a.Col,B false] 0 i ⟨rfl,rfl,rfl,trivial⟩) ?_)));rintro l X j;refine va (B false) (wln (W.ret ?_));obtain rfl:=si H;have n:=j.sD 2 [];exact qr (c:=l) (vs:=[I (w64 (a.Row+1)),I a.Col,B false]) (v:=B false) rfl (by kernel_rfl) (by kernel_rfl) (by kernel_rfl) (by kernel_rfl) (j.on 0 rfl _ rfl).1 ⟨_,l,rfl,rfl,pt,n,rfl⟩
def fk (sg:Sto) (p0:Option Nat):Option (Sto):=
 (gp sg p0).bind fun b=>
 if (!b.2)=true then
 some b.1
 else
 (p0).bind fun j=>
 (b.1.place_Pen[j]?).bind fun f=>
 (bL b.1 f.G).bind fun g=>
 (mD f.At g).bind fun e=>
 (p0).bind fun d=>
 (b.1.place_Pen[d]?).bind fun c=>
 (b.1.set_place_Pen d (⟨c.G,e.1,c.Auto⟩:bi)).bind fun a=>
 if e.2=true then
 (bL a c.G).bind fun h=>
 (ke a c.G 0 h 1).bind fun i=>
 some i
 else
 some a
theorem mY (O0:Own c0 G F) (R0:Rel c0 sg G) (p0:Option Nat) {r:Sto} (h2:Pt 2 c0 v1 p0) (H:fk sg p0=some r): Calls prog 181 #[v1] c0.w (aO c0 fun c v=>∃G_:Gm,Own c G_ (F)∧Rel c r G_∧v= .tuple #[]):=by
 unfold fk at H;refine en func181 rfl rfl (W.seq (sr (va (v1) (bn H fun y2 h3 H=>cl (nI O0 R0 p0 h2 h3) ?_))));rintro v9 c8 l8 ⟨d,O5,n,rfl⟩;refine va (B (!y2.2)) (wln (cn H (fun d2 H=>?_) (fun d2 H=>?_)))
 ·refine W.ret (thr ?_);obtain rfl:=si H;exact r0 (qq c8 ⟨d,O5,n,rfl⟩)
 refine W.skip (nrm (W.seq (bn H fun n3 e2 H=>bn H fun e f2 H=>bn H fun j h0 H=>bn H fun a x H=>W.join (Jn c8 fun c l=>∃t,Own c d ((Eb t 29 [I a.1.Row,I a.1.Col,B a.1.Pending]) :: F)∧l= [(0,v1),(2,Q t),(3,B a.2)]) ?_ ?_)))
 ·clear H;refine rD [] (Kp d []) O5 ?_;intro p1 l16 q;have m0:Kp d [] p1:=(Kp.nil q);refine ta 0 (v1) ?_;obtain ⟨g,rfl,g2⟩:=((h2.mono (l8.trans l16))).get e2;refine ta 1 (Q g) (ta 2 (Qo g 1) ?_);obtain ⟨v21,j0,i0⟩:=Rel.open_place_Pen (n.mono l16) f2 g2;refine tkx 3 m0 (fun c' z i=>leN 29 1 [I e.At.Row,I e.At.Col,B e.At.Pending] (i.gon j0 0 rfl)) (ta 4 (Q g) (ta 5 (Q g) (ta 6 (Q g) (tkx 7 m0 (fun c' z i=>le1 0 eW (i.gon j0 0 rfl)) (mn2 8 13 ?_ ?_)))))
  ·refine gc 8 (bH q n.m e.G i0 h0) ?_;rintro v29 q1 o3 ⟨s,rfl⟩;have m2:Kp d [] q1:=(Kp.nil s);refine ⟨.inr m2,mn2 9 13 ?_ ?_⟩
   ·refine gc 9 (nX s e.At j x) ?_;rintro v36 s1 p3 ⟨M,rfl⟩;have n2:Kp d [] s1:=(Kp.nil M);refine ⟨.inr n2,ta 10 (.tuple #[.agg #[I a.1.Row,I a.1.Col,B a.1.Pending],B a.2]) (ta 11 (.agg #[I a.1.Row,I a.1.Col,B a.1.Pending]) (ta 12 (B a.2) (o1 13 (gm 13 (al 29 [I 0,I 0,B false] M) ?_))))⟩;rintro v41 t1 q3 ⟨k1,rfl,N⟩;have o2:Kp d [] t1:=(Kp.nil N);refine ⟨.inr o2,o1 14 (gD 14 (sA 29 [I a.1.Row,I a.1.Col,B a.1.Pending] 0 N ⟨rfl,rfl,rfl,trivial⟩) ?_)⟩;rintro e0 s3 P;have p2:Kp d [] e0:=(Kp.nil P);exact ⟨.inr p2,ta 15 (B a.2) (dn (nrm (jn e0 ⟨k1,P,rfl⟩)))⟩
   refine gm 13 (al 29 [I 0,I 0,B false] s) ?_;rintro v49 u1 t3 ⟨m1,rfl,R⟩;have q2:Kp d [] u1:=(Kp.nil R);refine ⟨.inr q2,o1 9 (gc 9 (nX R e.At j x) ?_)⟩;rintro v56 w1 u3 ⟨S,rfl⟩;have s2:Kp d [] w1:=(Kp.nil S);refine ⟨.inr s2,ta 10 (.tuple #[.agg #[I a.1.Row,I a.1.Col,B a.1.Pending],B a.2]) (ta 11 (.agg #[I a.1.Row,I a.1.Col,B a.1.Pending]) (ta 12 (B a.2) (o1 14 (gD 14 (sA 29 [I a.1.Row,I a.1.Col,B a.1.Pending] 0 S ⟨rfl,rfl,rfl,trivial⟩) ?_))))⟩;rintro f0 v3 T;have t2:Kp d [] f0:=(Kp.nil T);exact ⟨.inr t2,ta 15 (B a.2) (dn (nrm (jn f0 ⟨m1,T,rfl⟩)))⟩
  refine gm 13 (al 29 [I 0,I 0,B false] q) ?_;rintro a4 x1 w3 ⟨n1,rfl,U⟩;have u2:Kp d [] x1:=(Kp.nil U);refine ⟨.inr u2,o1 8 (gc 8 (bH U n.m e.G i0.m h0) ?_)⟩;rintro b4 y1 x3 ⟨X,rfl⟩;have v2:Kp d [] y1:=(Kp.nil X);refine ⟨.inr v2,o1 9 (gc 9 (nX X e.At j x) ?_)⟩;rintro c4 z1 y3 ⟨Z,rfl⟩;have w2:Kp d [] z1:=(Kp.nil Z);refine ⟨.inr w2,ta 10 (.tuple #[.agg #[I a.1.Row,I a.1.Col,B a.1.Pending],B a.2]) (ta 11 (.agg #[I a.1.Row,I a.1.Col,B a.1.Pending]) (ta 12 (B a.2) (o1 14 (gD 14 (sA 29 [I a.1.Row,I a.1.Col,B a.1.Pending] 0 Z ⟨rfl,rfl,rfl,trivial⟩) ?_))))⟩;rintro g0 z3 a0;have x2:Kp d [] g0:=(Kp.nil a0);exact ⟨.inr x2,ta 15 (B a.2) (dn (nrm (jn g0 ⟨n1,a0,rfl⟩)))⟩
 rintro e_ w_ ⟨l3,m3,_,rfl,A,rfl,t,b0,rfl⟩;refine nrm (sr (va (v1) (vx (leN 29 0 [I a.1.Row,I a.1.Col,B a.1.Pending] (b0.on 0 rfl)) (bn H fun d3 i2 H=>?_))));obtain ⟨b,rfl,k0⟩:=((h2.mono (l8.trans A))).get i2;refine va (Q b) (va (Qo b 1) (bn H fun f j2 H=>?_));obtain ⟨E,k2,y⟩:=Rel.open_place_Pen (n.mono A) j2 k0;refine md (gB 29 1 [I a.1.Row,I a.1.Col,B a.1.Pending] [E,I a.1.Row,I a.1.Col,B a.1.Pending,B f.Auto] 0 b0 k2 ⟨rfl,rfl,rfl,trivial⟩) ?_;rintro c2 l0 j1;refine bn H fun h1 z0 H=>?_;obtain ⟨k,d0,h,u,b3⟩:=Rel.put_place_Pen j1 (n.mono (A.trans l0)) (E':=[(Eb b 126 [E,I a.1.Row,I a.1.Col,B a.1.Pending,B f.Auto])]) z0 ⟨b,E,(tm k0),rfl,(y.mono l0)⟩;refine wln (sr (va (B a.2) (wln (cn H (fun a1 H=>?_) (fun a1 H=>?_)))))
 ·refine rD [9] (Kp k []) d0 ?_;intro w0 e3 o;have D:Kp k [] w0:=(Kp.nil o);refine ta 0 (Q b) (ta 1 (Q b) (ta 2 (Q b) (tkx 3 D (fun c' z i=>le1 0 eW (i.gon u 0 rfl)) (ta 4 (Q b) (ta 5 (Q b) (ta 6 (Q b) (tkx 7 D (fun c' z i=>le1 0 eW (i.gon u 0 rfl)) (bn H fun g1 b1 H=>o1 8 (gc 8 (bH o h.m f.G y.m b1) ?_)))))))));rintro i3 x0 f3 ⟨p,rfl⟩;have f1:Kp k [] x0:=(Kp.nil p);refine ⟨.inr f1,bn H fun k3 c1 H=>o1 9 (gc 9 (qz p h.m f.G 0 g1 1 y.m c1) ?_)⟩;rintro j3 y0 g3 ⟨o0,q0,u0,rfl⟩;refine ⟨.inl rfl,dn ?_⟩;obtain rfl:=si H;have s0:=q0.sD 1 [];exact n0 (qq y0 ⟨o0,s0,u0,rfl⟩)
 refine W.skip ?_;obtain rfl:=si H;have t0:=d0.sD 1 [];exact n0 (qq c2 ⟨k,t0,h,rfl⟩)
def fI (sg:Sto) (p0:Option Nat):Option (Sto):=
 (p0).bind fun c=>
 (sg.place_Pen[c]?).bind fun e=>
 (bA sg e.G e.At.Row).bind fun f=>
 (fa sg f true).bind fun d=>
 (d.place_Pen[c]?).bind fun a=>
 (dw a.At).bind fun g=>
 (d.set_place_Pen c (⟨a.G,g,a.Auto⟩:bi)).bind fun b=>
 (fk b p0).bind fun h=>
 some h
theorem oF (O0:Own c0 G F) (n:Rel c0 sg G) (q:Option Nat) {r:Sto} (U:Pt 2 c0 v1 q) (H:fI sg q=some r): Calls prog 233 #[v1] c0.w (aO c0 fun c v=>∃G_:Gm,Own c G_ (F)∧Rel c r G_∧v= .tuple #[]):=by
 unfold fI at H;refine en func233 rfl rfl (W.seq (rD [10] (Kp G []) O0 ?_));intro c3 l3 y;have p5:Kp G [] c3:=(Kp.nil y);refine ta 0 (v1) (bn H fun a1 h8 H=>?_);obtain ⟨b,rfl,o⟩:=((U.mono l3)).get h8;refine ta 1 (Q b) (ta 2 (Q b) (bn H fun l h9 H=>?_));obtain ⟨v10,h,R⟩:=Rel.open_place_Pen (n.mono l3) h9 o;refine tkx 3 p5 (fun c' f0 p=>le1 0 eW (p.gon h 0 rfl)) (ta 4 (Q b) (ta 5 (Q b) (ta 6 (Qo b 1) (ta 7 (Qo b 1) (tkx 8 p5 (fun c' f0 p=>le1 1 u_3 (p.gon h 0 rfl)) (bn H fun s S H=>o1 9 (gc 9 (cU y n.m l.G l.At.Row R S) ?_)))))));rintro v14 N b1 ⟨_,e,rfl,T⟩;have h0:Kp G [] N:=(Kp.nil e);refine ⟨.inr h0,bn H fun q0 X H=>o1 10 (gc 10 (lW e n.m s true T X) ?_)⟩;rintro v29 w0 c1 ⟨t0,f,g,rfl⟩;refine ⟨.inl rfl,dn (nrm (sr (vv (Q b) (va (Q b) (va (Qo b 1) (bn H fun d Z H=>?_))))))⟩;obtain ⟨v31,i,a0⟩:=Rel.open_place_Pen g Z (tm o);refine vx (leN 29 1 [I d.At.Row,I d.At.Col,B d.At.Pending] (f.gon i 0 rfl)) (bn H fun a b0 H=>cl (jN f d.At b0) ?_);rintro v40 x0 j ⟨x,rfl⟩;refine va (Q b) (va (Qo b 1) (md (gB 29 1 [I a.Row,I a.Col,B a.Pending] [v31,I a.Row,I a.Col,B a.Pending,B d.Auto] 0 x i ⟨rfl,rfl,rfl,trivial⟩) ?_));rintro y0 k z;refine bn H fun t d0 H=>?_;obtain ⟨u0,A,E,z0,v0⟩:=Rel.put_place_Pen z (g.mono (j.trans k)) (E':=[(Eb b 126 [v31,I a.Row,I a.Col,B a.Pending,B d.Auto])]) d0 ⟨b,v31,(tm o),rfl,(a0.mono (j.trans k))⟩;refine wln (W.region (va (Q b) (bn H fun s0 e0 H=>cl (mY A E q U.m e0) ?_)));rintro v55 P d1 ⟨u,D,M,rfl⟩;refine WL.nil ?_;obtain rfl:=si H;exact n0 (qq P ⟨u,D,M,rfl⟩)
def js (sg:Sto) (p0:Option Nat) (p1:Int):Option (Sto):=
 ((p0).bind fun k=>
 (sg.place_Pen[k]?).bind fun l=>
 if l.At.Pending=true then
 (fI sg p0).bind fun m=>
 some (m)
 else
 some (sg)).bind fun b=>
 (p0).bind fun d=>
 (b.place_Pen[d]?).bind fun a=>
 (ci b a.G).bind fun e=>
 (orE (p1==1) (some (decide (a.At.Col < (w64 (e - 1)))))).bind fun f=>
 if f=true then
 some b
 else
 if a.Auto=true then
 (bA b a.G a.At.Row).bind fun g=>
 (ew 1).bind fun h=>
 (dQ b g (w64 (e - 1)) h).bind fun i=>
 (fI i.1 p0).bind fun j=>
 some j
 else
 (b.set_place_Pen d (⟨a.G,(⟨a.At.Row,(w64 (a.At.Col - 1)),a.At.Pending⟩:ai),a.Auto⟩:bi)).bind fun c=>
 some c
theorem tW (T:Own c0 G F) (X:Rel c0 sg G) (hG:Gl [2,4] c0) (u:Option Nat) (n:Int) {r:Sto} (t:Pt 2 c0 v1 u) (H:js sg u n=some r): Calls prog 177 #[v1,I n] c0.w (aO c0 fun c v=>∃G_:Gm,Own c G_ (F)∧Rel c r G_∧v= .tuple #[]):=by
 unfold js at H;refine en func177 rfl rfl (bn H fun g2 g d=>W.seqJ (Jn c0 fun c l=>∃G_,Own c G_ (F)∧l= [(0,v1),(1,I n)]∧Rel c g2 G_) ?_ ?_)
 ·refine sr (va (v1) (bn g fun b3 h7 g=>?_));obtain ⟨s,rfl,h6⟩:=(t).get h7;refine va (Q s) (va (Qo s 1) (va (Qo s 3) (bn g fun i3 h8 g=>?_)));obtain ⟨v9,e1,z2⟩:=Rel.open_place_Pen X h8 h6;refine vx (le1 3 u_4 (T.gon e1 0 rfl)) (wln (cn g (fun f1 g=>?_) (fun f1 g=>?_)))
  ·refine W.region (va (Q s) (bn g fun n3 g1 g=>cl (oF T X u t g1) ?_));rintro v19 w0 c3 ⟨h0,l0,t0,rfl⟩;refine wln ?_;obtain rfl:=si g;exact jn w0 ⟨h0,l0,rfl,t0⟩
  refine W.skip (nrm ?_);obtain rfl:=si g;exact jn c0 ⟨G,T,rfl,X⟩
 rintro e_ w_ ⟨v2,x2,_,rfl,b2,rfl,f,x,rfl,i⟩;refine sr (va (v1) (bn d fun p2 h1 d=>?_));obtain ⟨a,rfl,E⟩:=((t.mono b2)).get h1;refine vv (Q a) (bn d fun b i1 d=>?_);obtain ⟨v30,h,q⟩:=Rel.open_place_Pen i i1 E;refine vx (le1 0 eW (x.gon h 0 rfl)) (bn d fun e j1 d=>cl (cL x i b.G q j1) ?_);rintro v39 p N ⟨o,rfl⟩;refine vv (I (w64 (e - 1))) (wln (W.block (W.seq (bn d fun a0 M d=>W.join (Jn p fun c l=>Own c f (F)∧l= [(0,Q a),(4,I (w64 (e - 1))),(27,B a0)]) ?_ ?_))))
 ·clear d;refine W.region (va (I n) (va (B (n==1)) ?_));rcases bo (n==1) with k | k
  ·obtain rfl:=orT k M;exact vb k (pz (pz (pz (ps (vv (B true) (wln (jn p ⟨o,rfl⟩)))))))
  have k0:=orF k M;refine vb k (wa (Q a) (wa (Q a) (wa (Qo a 1) (wa (Qo a 2) (wn (vx (le1 2 u_3 (o.gon h 0 rfl)) (wa (I (w64 (e - 1))) (wa (B (decide (b.At.Col < (w64 (e - 1))))) ?_))))))));obtain rfl:=si k0;exact vv (B (decide (b.At.Col < (w64 (e - 1))))) (wln (jn p ⟨o,rfl⟩))
 rintro e_ w_ ⟨x0,y2,_,rfl,P,rfl,j,rfl⟩;refine nrm (cn d (fun k1 d=>?_) (fun k1 d=>?_))
 ·refine W.ret (bkr ?_);obtain rfl:=si d;exact r0 (qq x0 ⟨f,j,i.m,rfl⟩)
 refine sr (vv (Q a) (va (Qo a 4) (vx (le1 4 u_4 (j.gon h 0 rfl)) (va (B b.Auto) (wln (cn d (fun m1 d=>?_) (fun m1 d=>?_)))))))
 ·refine W.seq (rD [12] (Kp f []) j ?_);intro y0 d3 y;have S:Kp f [] y0:=(Kp.nil y);refine ta 0 (Q a) (ta 1 (Q a) (ta 2 (Q a) (tkx 3 S (fun c' z1 hk=>le1 0 eW (hk.gon h 0 rfl)) (ta 4 (Q a) (ta 5 (Q a) (ta 6 (Qo a 1) (ta 7 (Qo a 1) (tkx 8 S (fun c' z1 hk=>le1 1 u_3 (hk.gon h 0 rfl)) (ta 10 (I (w64 (e - 1))) (bn d fun e0 n1 d=>o1 9 (gc 9 (cU y i.m b.G b.At.Row q.m n1) ?_)))))))))));rintro v55 z0 e3 ⟨_,z,rfl,q1⟩;have d2:Kp f [] z0:=(Kp.nil z);refine ⟨.inr d2,bn d fun f0 s1 d=>o1 11 (gc 11 (jS z 1 s1) ?_)⟩;rintro k3 a1 f3 ⟨_,j3,A,rfl,t1⟩;have e2:Kp f [] a1:=(Kp.nil A);refine ⟨.inr e2,?_⟩;obtain ⟨b1,w1,c2,D,u1⟩:=A.frz 0 rfl t1;have f2:Kp f [] b1:=(Kp.nil D);refine AC.gh w1 c2 (fun _=>f2) (bn d fun s2 x1 d=>o1 12 (gc 12 (jM D i.m (hG.m.le (by decide)) e0 (w64 (e - 1)) f0 q1.m u1 x1) ?_));rintro l3 w2 g3 ⟨_,u2,m0,u0,rfl,a3⟩;refine ⟨.inl rfl,dn (nrm (W.region (va (Q a) (bn d fun t2 y1 d=>cl (oF m0 u0 u t.m y1) ?_))))⟩;rintro m3 c1 h3 ⟨i0,o0,v0,rfl⟩;refine WL.nil (bkn ?_);obtain rfl:=si d;have q0:=o0.sD 1 [];exact n0 (qq c1 ⟨i0,q0,v0,rfl⟩)
 refine W.region (vv (Q a) (va (Qo a 1) (va (Qo a 2) (vx (le1 2 u_3 (j.gon h 0 rfl)) (va (I (w64 (b.At.Col - 1))) (va (Q a) (va (Qo a 1) (va (Qo a 2) (md (gC 3 2 (I (w64 (b.At.Col - 1))) [v30,I b.At.Row,I (w64 (b.At.Col - 1)),B b.At.Pending,B b.Auto] 0 j h ⟨rfl,trivial⟩) ?_)))))))));rintro d1 R s0;refine bn d fun g0 b0 d=>?_;obtain ⟨j0,U,Z,l2,i2⟩:=Rel.put_place_Pen s0 (i.mono (N.trans (P.trans R))) (E':=[(Eb a 126 [v30,I b.At.Row,I (w64 (b.At.Col - 1)),B b.At.Pending,B b.Auto])]) b0 ⟨a,v30,(tm E),rfl,(q.mono (N.trans (P.trans R)))⟩;refine WL.nil (bkn ?_);obtain rfl:=si d;exact n0 (qq d1 ⟨j0,U,Z,rfl⟩)
def kj (p0:ai) (p1:Int) (p2:Int) (p3:Bool):Option (ai):=
 (gQ p2).bind fun a=>
 if (decide (p0.Col < (w64 (a - (aE 1 (aB p1 2))))))=true then
 some (⟨p0.Row,(w64 (p0.Col+(aE 1 (aB p1 2)))),false⟩:ai)
 else
 some (⟨p0.Row,(w64 (a - 1)),p3⟩:ai)
theorem vK (s:Own c0 G F) (a:ai) (b:Int) (h:Int) (e:Bool) {r:ai} (H:kj a b h e=some r): Calls prog 179 #[.agg #[I a.Row,I a.Col,B a.Pending],I b,I h,B e] c0.w (aO c0 fun c v=>Own c G (F)∧v= .agg #[I r.Row,I r.Col,B r.Pending]):=by
 unfold kj at H;refine en func179 rfl rfl (sr (me (bx 29 [I a.Row,I a.Col,B a.Pending] s) ?_));rintro v5 E N ⟨f,rfl,t,g⟩;refine me (al 29 [I 0,I 0,B false] t) ?_;rintro v9 M P ⟨D,rfl,u⟩;refine wln (sr (va (I b) (va (I (aB b 2)) (va (I (aE 1 (aB b 2))) (va (I h) (bn H fun d p H=>cl (mG u h p) ?_))))));rintro v16 x y ⟨i,rfl⟩;refine va (I (aE 1 (aB b 2))) (va (I d) (wln (W.seq (sr (va (Qo f (0+1)) (vx (l1 u_3 ((mm g) 1 _ rfl)) (va (I d) (va (I (aE 1 (aB b 2))) (va (I (w64 (d - (aE 1 (aB b 2))))) (va (B (decide (a.Col < (w64 (d - (aE 1 (aB b 2))))))) (wln (cn H (fun q H=>?_) (fun q H=>?_)))))))))))))
 ·refine sr (va (Q f) (vx (l1 u_3 ((mm g) 0 _ rfl)) (va (Qo f (0+1)) (vx (l1 u_3 ((mm g) 1 _ rfl)) (va (I (aE 1 (aB b 2))) (va (I (w64 (a.Col+(aE 1 (aB b 2))))) (va (.agg #[I a.Row,I (w64 (a.Col+(aE 1 (aB b 2)))),B false]) (md (sA 29 [I a.Row,I (w64 (a.Col+(aE 1 (aB b 2)))),B false] 0 i ⟨rfl,rfl,rfl,trivial⟩) ?_))))))));rintro l z j;refine wln (W.ret (thr ?_));obtain rfl:=si H;have n:=j.sD 1 [];exact kE (c:=l) (vs:=[I a.Row,I (w64 (a.Col+(aE 1 (aB b 2)))),B false]) rfl (by kernel_rfl) (by kernel_rfl) (by kernel_rfl) (j.on 0 rfl _ rfl).1 ⟨_,l,rfl,rfl,pt,n,rfl⟩
 refine W.skip (nrm (sr (va (Q f) (vx (l1 u_3 ((mm g) 0 _ rfl)) (va (I d) (va (I (w64 (d - 1))) (va (B e) (va (.agg #[I a.Row,I (w64 (d - 1)),B e]) (md (sA 29 [I a.Row,I (w64 (d - 1)),B e] 0 i ⟨rfl,rfl,rfl,trivial⟩) ?_)))))))));rintro m A k;refine wln (W.ret ?_);obtain rfl:=si H;have o:=k.sD 1 [];exact kE (c:=m) (vs:=[I a.Row,I (w64 (d - 1)),B e]) rfl (by kernel_rfl) (by kernel_rfl) (by kernel_rfl) (k.on 0 rfl _ rfl).1 ⟨_,m,rfl,rfl,pt,o,rfl⟩
def iQ (sg:Sto) (p0:Option Nat) (p1:Int) (p2:List Int):Option (Sto×ai):=
 (gp sg p0).bind fun d=>
 if (!d.2)=true then
 some (d.1,(⟨0,0,false⟩:ai))
 else
 ((p0).bind fun i=>
 (d.1.place_Pen[i]?).bind fun j=>
 (ci d.1 j.G).bind fun k=>
 if (decide ((aE 1 (aB p1 2)) > k))=true then
 some (1,([65533]:List Int))
 else
 some ((aE 1 (aB p1 2)),p2)).bind fun c=>
 (js d.1 p0 c.1).bind fun f=>
 (p0).bind fun e=>
 (f.place_Pen[e]?).bind fun a=>
 (bA f a.G a.At.Row).bind fun l=>
 (lm f l a.At.Col c.1 c.2).bind fun g=>
 (g.1.place_Pen[e]?).bind fun b=>
 (ci g.1 b.G).bind fun m=>
 (kj (⟨a.At.Row,a.At.Col,false⟩:ai) c.1 m b.Auto).bind fun n=>
 (g.1.set_place_Pen e (⟨b.G,n,b.Auto⟩:bi)).bind fun h=>
 some (h,(⟨a.At.Row,a.At.Col,false⟩:ai))
theorem pB (O0:Own c0 G F) (R0:Rel c0 sg G) (hG:Gl [2,4] c0) (p0:Option Nat) (o:Int) (p2:List Int) {r:Sto×ai} (h2:Pt 2 c0 v1 p0) (h4:Sl (RI .i32) c0 v3 p2) (H:iQ sg p0 o p2=some r): Calls prog 115 #[v1,I o,v3] c0.w (aO c0 fun c v=>∃G_:Gm,Own c G_ (F)∧Rel c r.1 G_∧v= .agg #[I r.2.Row,I r.2.Col,B r.2.Pending]):=by
 unfold iQ at H;refine en func115 rfl rfl (sr (me (al 29 [I 0,I 0,B false] O0) ?_));rintro v8 c7 l7 ⟨b5,rfl,O6⟩;refine wln (W.seq (sr (va (v1) (bn H fun u3 h9 H=>cl (nI O6 R0.m p0 h2.m h9) ?_))));rintro v15 e2 u0 ⟨j0,R,P,rfl⟩;refine va (B (!u3.2)) (wln (cn H (fun n2 H=>?_) (fun n2 H=>?_)))
 ·refine sr (va (.agg #[I 0,I 0,B false]) (md (sA 29 [I 0,I 0,B false] 0 R ⟨rfl,rfl,rfl,trivial⟩) ?_));rintro t0 s4 k0;refine wln (W.ret (thr ?_));obtain rfl:=si H;have u1:=k0.sD 1 [];exact kE (c:=t0) (vs:=[I 0,I 0,B false]) rfl (by kernel_rfl) (by kernel_rfl) (by kernel_rfl) (k0.on 0 rfl _ rfl).1 ⟨_,t0,rfl,rfl,pt,j0,u1,P.m,rfl⟩
 refine W.skip (nrm (sr (va (I o) (va (I (aB o 2)) (vv (I (aE 1 (aB o 2))) (wln (bn H fun f g d=>W.seqJ (Jn e2 fun c l=>∃v22,Own c j0 ((Eb b5 29 [I 0,I 0,B false]) :: F)∧l= [(0,v1),(1,I f.1),(2,v22),(6,Q b5)]∧Sl (RI .i32) c v22 f.2) ?_ ?_)))))))
 ·refine sr (va (I (aE 1 (aB o 2))) (va (v1) (bn g fun f4 q2 g=>?_)));obtain ⟨s0,rfl,o2⟩:=((h2.mono (l7.trans u0))).get q2;refine vv (Q s0) (bn g fun j1 s2 g=>?_);obtain ⟨v27,u2,t2⟩:=Rel.open_place_Pen P s2 o2;refine vx (le1 0 eW (R.gon u2 0 rfl)) (bn g fun n1 v2 g=>cl (cL R P j1.G t2 v2) ?_);rintro v36 f2 t4 ⟨l0,rfl⟩;refine va (B (decide ((aE 1 (aB o 2)) > n1))) (wln (cn g (fun w2 g=>?_) (fun w2 g=>?_)))
  ·refine W.region (me (sl (RI .i32) 21 [[J 65533]] ([65533]:List Int) l0 ⟨rfl,trivial⟩) ?_);rintro v42 n4 u4 ⟨w4,w1,x2⟩;refine va (I 1) (va (v42) (wln ?_));obtain rfl:=si g;obtain ⟨g2,z2,v4,x1,y2⟩:=w1.frz 0 rfl x2;have y1:=x1.sD 2 [1];exact ⟨g2,_,_,z2.symm,pt,us,v42,y1,rfl,y2⟩
  refine W.skip (nrm ?_);obtain rfl:=si g;exact jn f2 ⟨v3,l0,rfl,h4.m⟩
 rintro e_ w_ ⟨o4,q4,_,rfl,i3,rfl,v22,z1,rfl,a3⟩;refine sr (va (v1) (va (I f.1) (bn d fun l4 b3 d=>cl (tW z1 P.m (hG.m.le (by decide)) p0 f.1 h2.m b3) ?_)));rintro x4 p4 j3 ⟨j,b2,Z,rfl⟩;refine wln (W.seq (rD [] (Kp j []) b2 ?_));intro i2 v0 m0;have w0:Kp j [] i2:=(Kp.nil m0);refine ta 0 (v1) (bn d fun g4 c3 d=>?_);obtain ⟨b,rfl,e0⟩:=((h2.mono (l7.trans (u0.trans (i3.trans (j3.trans v0)))))).get c3;refine ta 1 (Q b) (ta 2 (Qo b 1) (ta 3 (Qo b 1) (bn d fun a d3 d=>?_)));obtain ⟨y4,f0,e3⟩:=Rel.open_place_Pen (Z.mono v0) d3 e0;refine tkx 4 w0 (fun u k h=>le1 1 u_3 (h.gon f0 0 rfl)) (ta 5 (Q b) (ta 6 (Q b) (ta 7 (Qo b 1) (ta 8 (Qo b 2) (tkx 9 w0 (fun u k h=>le1 2 u_3 (h.gon f0 0 rfl)) (ta 10 (.agg #[I a.At.Row,I a.At.Col,B false]) (o1 11 (gm 11 (al 29 [I 0,I 0,B false] m0) ?_))))))));rintro z4 j2 l3 ⟨i,rfl,o0⟩;have q3:Kp j [] j2:=(Kp.nil o0);refine ⟨.inr q3,o1 12 (gD 12 (sA 29 [I a.At.Row,I a.At.Col,B false] 0 o0 ⟨rfl,rfl,rfl,trivial⟩) ?_)⟩;rintro k2 m3 q0;have s3:Kp j [] k2:=(Kp.nil q0);refine ⟨.inr s3,dn (nrm (W.seq (rD [11] (Kp j [(Eb i 29 [I a.At.Row,I a.At.Col,B false])]) q0 ?_)))⟩;intro l2 n3 U;have g0:Kp j [(Eb i 29 [I a.At.Row,I a.At.Col,B false])] l2:=(Kp.cons (U.on 0 rfl) (Kp.nil U));refine ta 0 (Q b) (ta 1 (Q b) (ta 2 (Q b) (tkx 3 g0 (fun u k h=>le1 0 eW (h.gon f0 0 rfl)) (ta 4 (Q i) (tkx 5 g0 (fun u k h=>le1 0 u_3 (h.on 0 rfl)) (ta 7 (Qo i 1) (tkx 8 g0 (fun u k h=>le1 1 u_3 (h.on 0 rfl)) (ta 9 (I f.1) (ta 10 (v22) (bn d fun q1 f3 d=>o1 6 (gc 6 (cU U Z.m a.G a.At.Row e3.m f3) ?_)))))))))));rintro a5 m2 o3 ⟨_,X,rfl,g3⟩;have t3:Kp j [(Eb i 29 [I a.At.Row,I a.At.Col,B false])] m2:=(Kp.cons (X.on 0 rfl) (Kp.nil X));refine ⟨.inr t3,bn d fun m4 h3 d=>o1 11 (gc 11 (vH X Z.m (hG.m.le (by decide)) q1 a.At.Col f.1 f.2 g3 a3.m h3) ?_)⟩;rintro c5 a4 i1 ⟨_,N,c2,a0,rfl,r4⟩;refine ⟨.inl rfl,dn (nrm (W.seq (rD [15] (Kp N [(Eb i 29 [I a.At.Row,I a.At.Col,B false])]) c2 ?_)))⟩;intro b1 y p;have E:Kp N [(Eb i 29 [I a.At.Row,I a.At.Col,B false])] b1:=(Kp.cons (p.on 0 rfl) (Kp.nil p));refine ta 0 (Q b) (tkx 1 E (fun u k h=>leN 29 0 [I a.At.Row,I a.At.Col,B false] (h.on 0 rfl)) (ta 2 (I f.1) (ta 3 (Q b) (ta 4 (Q b) (ta 5 (Q b) (bn d fun n e1 d=>?_))))));obtain ⟨M,x,d0⟩:=Rel.open_place_Pen (a0.mono y) e1 (tm e0);refine tkx 6 E (fun u k h=>le1 0 eW (h.gon x 0 rfl)) (ta 8 (Q b) (ta 9 (Q b) (ta 10 (Qo b 4) (tkx 11 E (fun u k h=>le1 4 u_4 (h.gon x 0 rfl)) (bn d fun s1 f1 d=>o1 7 (gc 7 (cL p a0.m n.G d0 f1) ?_))))));rintro j4 c1 z ⟨q,rfl⟩;have k1:Kp N [(Eb i 29 [I a.At.Row,I a.At.Col,B false])] c1:=(Kp.cons (q.on 0 rfl) (Kp.nil q));refine ⟨.inr k1,bn d fun e g1 d=>o1 12 (gc 12 (vK q (⟨a.At.Row,a.At.Col,false⟩:ai) f.1 s1 n.Auto g1) ?_)⟩;rintro k4 d1 A ⟨s,rfl⟩;have m1:Kp N [(Eb i 29 [I a.At.Row,I a.At.Col,B false])] d1:=(Kp.cons (s.on 0 rfl) (Kp.nil s));refine ⟨.inr m1,ta 13 (Q b) (ta 14 (Qo b 1) (o1 15 (gD 15 (gB 29 1 [I e.Row,I e.Col,B e.Pending] [M,I e.Row,I e.Col,B e.Pending,B n.Auto] 0 s x ⟨rfl,rfl,rfl,trivial⟩) ?_)))⟩;rintro b4 D y0;refine bn d fun t1 h1 d=>?_;obtain ⟨x0,S,a1,c4,z3⟩:=Rel.put_place_Pen y0 (a0.mono (y.trans (z.trans (A.trans D)))) (E':=[(Eb b 126 [M,I e.Row,I e.Col,B e.Pending,B n.Auto])]) h1 ⟨b,M,((l3.trans (m3.trans (n3.trans (o3.trans (i1.trans (y.trans (z.trans (A.trans D)))))))).t _ _ _ e0),rfl,(d0.mono (z.trans (A.trans D)))⟩;refine ⟨.inl rfl,dn (nrm (sr (vx (leN 29 0 [I a.At.Row,I a.At.Col,B false] (S.on 0 rfl)) (md (sA 29 [I a.At.Row,I a.At.Col,B false] 1 S ⟨rfl,rfl,rfl,trivial⟩) ?_))))⟩;rintro b0 i4 T;refine wln (W.ret ?_);obtain rfl:=si d;have z0:=T.sD 2 [];exact kE (c:=b0) (vs:=[I a.At.Row,I a.At.Col,B false]) rfl (by kernel_rfl) (by kernel_rfl) (by kernel_rfl) (T.on 1 rfl _ rfl).1 ⟨_,b0,rfl,rfl,pt,x0,z0,a1.m,rfl⟩
def dV (p0:Int) (p1:Int):Option (Int):=
 if (decide (p0 < 0))=true then
 some 0
 else
 if (decide (p0≥p1))=true then
 some (w64 (p1 - 1))
 else
 some p0
theorem lX (d:Own c0 G F) (a:Int) (b:Int) {r:Int} (H:dV a b=some r): Calls prog 206 #[I a,I b] c0.w (aO c0 fun c v=>Own c G (F)∧v=I r):=by
 unfold dV at H;refine en func206 rfl rfl (sr (va (I 0) (wln (W.seq (sr (va (I a) (va (B (decide (a < 0))) (wln (cn H (fun e H=>?_) (fun e H=>?_))))))))))
 ·refine sr (va (I 0) (wln (W.ret (thr ?_))));obtain rfl:=si H;exact r1 (qq c0 ⟨d,rfl⟩)
 refine W.skip (nrm (W.seq (sr (va (I a) (va (I b) (va (B (decide (a≥b))) (wln (cn H (fun f H=>?_) (fun f H=>?_)))))))))
 ·refine sr (va (I b) (vv (I (w64 (b - 1))) (wln (W.ret (thr ?_)))));obtain rfl:=si H;exact r1 (qq c0 ⟨d,rfl⟩)
 refine W.skip (nrm (sr (vv (I a) (wln (W.ret ?_)))));obtain rfl:=si H;exact r1 (qq c0 ⟨d,rfl⟩)
def bY (p0:Int):Option (Int):=
 if (decide (p0 < 1))=true then
 some 1
 else
 if (decide (p0 > 1024))=true then
 some 1024
 else
 some p0
theorem dP (b:Own c0 G F) (a:Int) {r:Int} (H:bY a=some r): Calls prog 137 #[I a] c0.w (aO c0 fun c v=>Own c G (F)∧v=I r):=by
 unfold bY at H;refine en func137 rfl rfl (sr (va (I 0) (wln (W.seq (sr (va (I a) (va (B (decide (a < 1))) (wln (cn H (fun d H=>?_) (fun d H=>?_))))))))))
 ·refine sr (va (I 1) (wln (W.ret (thr ?_))));obtain rfl:=si H;exact r1 (qq c0 ⟨b,rfl⟩)
 refine W.skip (nrm (W.seq (sr (va (I a) (va (B (decide (a > 1024))) (wln (cn H (fun e H=>?_) (fun e H=>?_))))))))
 ·refine sr (va (I 1024) (wln (W.ret (thr ?_))));obtain rfl:=si H;exact r1 (qq c0 ⟨b,rfl⟩)
 refine W.skip (nrm (sr (vv (I a) (wln (W.ret ?_)))));obtain rfl:=si H;exact r1 (qq c0 ⟨b,rfl⟩)
def eN (p0:ai) (p1:Int) (p2:Int):Option (ai):=
 (bY p2).bind fun b=>
 (dV p0.Row b).bind fun c=>
 (bY p1).bind fun d=>
 (dV p0.Col d).bind fun e=>
 (bV p0.Pending ((bY p1).bind fun f=>
 some (p0.Col==(w64 (f - 1))))).bind fun a=>
 some (⟨c,e,a⟩:ai)
theorem mT (O0:Own c0 G F) (a:ai) (h:Int) (o:Int) {r:ai} (H:eN a h o=some r): Calls prog 139 #[.agg #[I a.Row,I a.Col,B a.Pending],I h,I o] c0.w (aO c0 fun c v=>Own c G (F)∧v= .agg #[I r.Row,I r.Col,B r.Pending]):=by
 unfold eN at H;refine en func139 rfl rfl (sr (me (bx 29 [I a.Row,I a.Col,B a.Pending] O0) ?_));rintro v5 c4 l4 ⟨m,rfl,O2,n⟩;refine me (al 29 [I 0,I 0,B false] O2) ?_;rintro v9 c8 l8 ⟨T,rfl,O7⟩;refine wln (W.seq (bn H fun y e0 H=>bn H fun b f0 H=>bn H fun z g0 H=>bn H fun d h0 H=>bn H fun k x H=>W.join (Jn c8 fun c l=>Own c G ((Eb T 29 [I b,I d,B k]) :: F)∧l= [(6,Q T)]) ?_ ?_))
 ·clear H;refine rD [] (Kp G0 []) O7 ?_;intro U y0 A;have i1:Kp G0 [] U:=Kp.nil0;refine ta 0 (Q m) (tx 1 (fun j g=>l1 u_3 ((mm n) 0 _ rfl)) (ta 2 (I o) (ta 5 (Qo m (0+1)) (tx 6 (fun j g=>l1 u_3 ((mm n) 1 _ rfl)) (ta 7 (I h) (ta 10 (Qo m (0+2)) (tx 11 (fun j g=>l1 u_4 ((mm n) 2 _ rfl)) (o1 3 (gc 3 (dP A o e0) ?_)))))))));rintro v23 X z0 ⟨D,rfl⟩;have j0:Kp G0 [] X:=Kp.nil0;refine ⟨.inr j0,o1 4 (gc 4 (lX D a.Row y f0) ?_)⟩;rintro v30 Z a1 ⟨E,rfl⟩;have k0:Kp G0 [] Z:=Kp.nil0;refine ⟨.inr k0,o1 8 (gc 8 (dP E h g0) ?_)⟩;rintro v37 a0 c1 ⟨M,rfl⟩;have l0:Kp G0 [] a0:=Kp.nil0;refine ⟨.inr l0,o1 9 (gc 9 (lX M a.Col z h0) ?_)⟩;rintro v44 b0 d1 ⟨p,rfl⟩;have m0:Kp G0 [] b0:=Kp.nil0;refine ⟨.inr m0,?_⟩;rcases bo (a.Pending) with f | f
  ·have i:=anT f x;refine bn i fun e i0 i=>AC.takeb 12 f rfl (by kernel_rfl) (by kernel_rfl) (fun j g=>(by kernel_rfl)) (ta 13 (Qo m (0+1)) (tx 14 (fun j g=>l1 u_3 ((mm n) 1 _ rfl)) (ta 15 (I h) (o1 16 (gc 16 (dP p h i0) ?_)))));rintro v54 d0 e1 ⟨N,rfl⟩;have o0:Kp G0 [] d0:=Kp.nil0;refine ⟨.inr o0,ta 17 (I (w64 (e - 1))) (ta 18 (B (a.Col==(w64 (e - 1)))) ?_)⟩;obtain rfl:=si i;refine ta 19 (B (a.Col==(w64 (e - 1)))) (ta 20 (.agg #[I b,I d,B (a.Col==(w64 (e - 1)))]) (o1 21 (gD 21 (sA 29 [I b,I d,B (a.Col==(w64 (e - 1)))] 0 N ⟨rfl,rfl,rfl,trivial⟩) ?_)));rintro s f1 P;have q0:Kp G0 [] s:=Kp.nil0;exact ⟨.inr q0,dn (nrm (jn s ⟨P,rfl⟩))⟩
  obtain rfl:=anF f x;refine AC.takeb 12 f rfl (by kernel_rfl) (by kernel_rfl) (fun j g=>(by kernel_rfl)) (tp 13 (tp 14 (tp 15 (tp 16 (tp 17 (tp 18 (ta 19 (B false) (ta 20 (.agg #[I b,I d,B false]) (o1 21 (gD 21 (sA 29 [I b,I d,B false] 0 p ⟨rfl,rfl,rfl,trivial⟩) ?_))))))))));rintro t g1 R;have s0:Kp G0 [] t:=Kp.nil0;exact ⟨.inr s0,dn (nrm (jn t ⟨R,rfl⟩))⟩
 rintro e_ w_ ⟨u,x0,_,rfl,h1,rfl,q,rfl⟩;refine nrm (W.ret ?_);obtain rfl:=si H;have S:=q.sD 1 [];exact kE (c:=u) (vs:=[I b,I d,B k]) rfl (by kernel_rfl) (by kernel_rfl) (by kernel_rfl) (q.on 0 rfl _ rfl).1 ⟨_,u,rfl,rfl,pt,S,rfl⟩
def db (p0:aa):Option (Int):=
 (idx p0.L 0).bind fun a=>
 some (a.Cells.length:Int)
theorem jd (l:Own c0 G F) (a:aa) {r:Int} (g:Sl an c0 v1 a.L) (H:db a=some r): Calls prog 83 #[.agg #[v1,I a.At.Row,I a.At.Col,B a.At.Pending,B a.Auto]] c0.w (aO c0 fun c v=>Own c G (F)∧v=I r):=by
 unfold db at H;refine en func83 rfl rfl (sr ?_);obtain ⟨d,e,f,rfl⟩:=(g).form;refine me (bx 31 [.slice d e f,I a.At.Row,I a.At.Col,B a.At.Pending,B a.Auto] l) ?_;rintro v10 p q ⟨o,rfl,n,t⟩;refine va (I 0) (wln (sr (va (Q o) (vx (l1 gX (t 0 _ rfl)) (bn H fun k b H=>?_)))));obtain ⟨s,h,j⟩:=Sl.at (g.mono q) (aX b);obtain ⟨v15,rfl,i⟩:=h;refine vx (ix gX g.m b) (va (Qo (sb (.slice d e f)) (so (.slice d e f)+(0:Int).toNat * 2)) (vx (l1 cG (j 0 _ rfl)) (vx (ln 3 cG i) (va (I (k.Cells.length:Int)) (wln (W.ret ?_))))));obtain rfl:=si H;exact r1 (qq p ⟨n,rfl⟩)
def cf (p0:aa):Option (aa):=
 (db p0).bind fun a=>
 (eN p0.At a (p0.L.length:Int)).bind fun b=>
 some (⟨p0.L,b,p0.Auto⟩:aa)
theorem dy (S:Own c0 G F) (a:aa) {r:aa} (h:Sl an c0 v1 a.L) (H:cf a=some r): Calls prog 136 #[.agg #[v1,I a.At.Row,I a.At.Col,B a.At.Pending,B a.Auto]] c0.w (aO c0 fun c v=>∃R,Own c G (F)∧v= .agg #[R,I r.At.Row,I r.At.Col,B r.At.Pending,B r.Auto]∧Sl an c R r.L):=by
 unfold cf at H;refine en func136 rfl rfl (sr ?_);obtain ⟨d,e,f,rfl⟩:=(h).form;refine me (al 31 [.slice d e f,I a.At.Row,I a.At.Col,B a.At.Pending,B a.Auto] S) ?_;rintro v9 c8 l8 ⟨g,rfl,T⟩;refine me (al 31 [Y,I 0,I 0,B false,B false] T) ?_;rintro v13 X a0 ⟨U,rfl,x⟩;refine wln (W.seq (rD [9] (Kp G0 [(Eb g 31 [.slice d e f,I a.At.Row,I a.At.Col,B a.At.Pending,B a.Auto])]) x ?_));intro z b0 l;have k:Kp G0 [(Eb g 31 [.slice d e f,I a.At.Row,I a.At.Col,B a.At.Pending,B a.Auto])] z:=(Kp.cons (l.on 1 rfl) Kp.nil0);refine ta 0 (.pointer (some ⟨g,1,none⟩)) (tkx 1 k (fun t j i=>leN 29 1 [I a.At.Row,I a.At.Col,B a.At.Pending] (i.on 0 rfl)) (tkx 2 k (fun t j i=>leN 31 0 [.slice d e f,I a.At.Row,I a.At.Col,B a.At.Pending,B a.Auto] (i.on 0 rfl)) (ta 4 (Q g) (tkx 5 k (fun t j i=>le1 0 gX (i.on 0 rfl)) (tx 6 (fun t j=>ln 3 gX h.m) (bn H fun u E H=>o1 3 (gc 3 (jd l a h.m E) ?_)))))));rintro v23 A d0 ⟨n,rfl⟩;have N:Kp G0 [(Eb g 31 [.slice d e f,I a.At.Row,I a.At.Col,B a.At.Pending,B a.Auto])] A:=(Kp.cons (n.on 1 rfl) Kp.nil0);refine ⟨.inr N,bn H fun b M H=>o1 7 (gc 7 (mT n a.At u (a.L.length:Int) M) ?_)⟩;rintro v31 D e0 ⟨o,rfl⟩;have P:Kp G0 [(Eb g 31 [.slice d e f,I a.At.Row,I a.At.Col,B a.At.Pending,B a.Auto])] D:=(Kp.cons (o.on 1 rfl) Kp.nil0);refine ⟨.inr P,ta 8 (.pointer (some ⟨g,1,none⟩)) (o1 9 (gD 9 (sB 29 1 [I b.Row,I b.Col,B b.Pending] [.slice d e f,I b.Row,I b.Col,B b.Pending,B a.Auto] 1 o ⟨rfl,rfl,rfl,trivial⟩) ?_))⟩;rintro Z f0 p;refine ⟨.inl rfl,dn (nrm (sr (vx (leN 31 0 [.slice d e f,I b.Row,I b.Col,B b.Pending,B a.Auto] (p.on 1 rfl)) (md (sA 31 [.slice d e f,I b.Row,I b.Col,B b.Pending,B a.Auto] 0 p ⟨h.m.one,rfl,rfl,rfl,rfl,trivial⟩) ?_))))⟩;rintro s g0 q;refine wln (W.ret ?_);obtain rfl:=si H;have y:=q.sD 2 [];exact kE (c:=s) (vs:=[.slice d e f,I b.Row,I b.Col,B b.Pending,B a.Auto]) rfl (by kernel_rfl) (by kernel_rfl) (by kernel_rfl) (q.on 0 rfl _ rfl).1 ⟨_,s,rfl,rfl,pt,(.slice d e f),y,rfl,h.m⟩
def dd (p0:aa):Option (aa):=
 (cf p0).bind fun a=>
 if (decide ((w64 (a.At.Row+1)) < (a.L.length:Int)))=true then
 some (⟨a.L,(⟨(w64 (a.At.Row+1)),a.At.Col,false⟩:ai),a.Auto⟩:aa)
 else
 (dK a.L 0 (a.L.length:Int) 1 true).bind fun b=>
 some (⟨b,(⟨a.At.Row,a.At.Col,false⟩:ai),a.Auto⟩:aa)
theorem jX (Z:Own c0 G F) (b:aa) {r:aa} (S:Sl an c0 v1 b.L) (H:dd b=some r): Calls prog 200 #[.agg #[v1,I b.At.Row,I b.At.Col,B b.At.Pending,B b.Auto]] c0.w (aO c0 fun c v=>∃X,Own c G (F)∧v= .agg #[X,I r.At.Row,I r.At.Col,B r.At.Pending,B r.Auto]∧Sl an c X r.L):=by
 unfold dd at H;refine en func200 rfl rfl (sr ?_);obtain ⟨M,N,P,rfl⟩:=(S).form;refine me (al 31 [.slice M N P,I b.At.Row,I b.At.Col,B b.At.Pending,B b.Auto] Z) ?_;rintro v9 c8 l8 ⟨d,rfl,O7⟩;refine me (al 31 [Y,I 0,I 0,B false,B false] O7) ?_;rintro v13 e0 l0 ⟨d0,rfl,o⟩;refine wln (sr (vx (leN 31 0 [.slice M N P,I b.At.Row,I b.At.Col,B b.At.Pending,B b.Auto] (o.on 1 rfl)) (bn H fun a R H=>cl (dy o b S.m R) ?_)));rintro v22 f0 m0 ⟨v15,y,rfl,i⟩;obtain ⟨f,g,h,rfl⟩:=(i).form;refine md (sA 31 [.slice f g h,I a.At.Row,I a.At.Col,B a.At.Pending,B a.Auto] 1 y ⟨i.one,rfl,rfl,rfl,rfl,trivial⟩) ?_;rintro g0 o0 z;refine wln (sr (va (Qo d 1) (va (Qo d 3) (md (sC 4 3 (B false) [.slice f g h,I a.At.Row,I a.At.Col,B false,B a.Auto] 1 z ⟨rfl,trivial⟩) ?_))));rintro h0 q0 e;refine wln (W.seq (sr (vv (Qo d 1) (vx (le1 1 u_3 (e.on 1 rfl)) (va (I (w64 (a.At.Row+1))) (va (Q d) (vx (le1 0 gX (e.on 1 rfl)) (vx (ln 3 gX i.m) (va (B (decide ((w64 (a.At.Row+1)) < (a.L.length:Int)))) (wln (cn H (fun T H=>?_) (fun T H=>?_))))))))))))
 ·refine sr (vv (Qo d 1) (vx (le1 1 u_3 (e.on 1 rfl)) (va (I (w64 (a.At.Row+1))) (vv (Qo d 1) (md (sC 3 1 (I (w64 (a.At.Row+1))) [.slice f g h,I (w64 (a.At.Row+1)),I a.At.Col,B false,B a.Auto] 1 e ⟨rfl,trivial⟩) ?_)))));rintro i0 s0 p;refine wln (sr (vx (leN 31 0 [.slice f g h,I (w64 (a.At.Row+1)),I a.At.Col,B false,B a.Auto] (p.on 1 rfl)) (md (sA 31 [.slice f g h,I (w64 (a.At.Row+1)),I a.At.Col,B false,B a.Auto] 0 p ⟨i.m.one,rfl,rfl,rfl,rfl,trivial⟩) ?_)));rintro u t0 q;refine wln (W.ret (thr ?_));obtain rfl:=si H;have A:=q.sD 2 [];exact kE (c:=u) (vs:=[.slice f g h,I (w64 (a.At.Row+1)),I a.At.Col,B false,B a.Auto]) rfl (by kernel_rfl) (by kernel_rfl) (by kernel_rfl) (q.on 0 rfl _ rfl).1 ⟨_,u,rfl,rfl,pt,(.slice f g h),A,rfl,i.m⟩
 refine W.skip (nrm (sr (va (Q d) (vx (le1 0 gX (e.on 1 rfl)) (va (Q d) (vx (le1 0 gX (e.on 1 rfl)) (vx (ln 3 gX i.m) (bn H fun b0 U H=>cl (kp e a.L 0 (a.L.length:Int) 1 true i.m U) ?_))))))));rintro v37 j0 u0 ⟨_,D,rfl,n⟩;refine va (Q d) ?_;obtain ⟨j,k,l,rfl⟩:=(n).form;refine md (sC 27 0 (.slice j k l) [.slice j k l,I a.At.Row,I a.At.Col,B false,B a.Auto] 1 D ⟨n.one,trivial⟩) ?_;rintro k0 v0 s;refine wln (sr (vx (leN 31 0 [.slice j k l,I a.At.Row,I a.At.Col,B false,B a.Auto] (s.on 1 rfl)) (md (sA 31 [.slice j k l,I a.At.Row,I a.At.Col,B false,B a.Auto] 0 s ⟨n.m.one,rfl,rfl,rfl,rfl,trivial⟩) ?_)));rintro x w0 t;refine wln (W.ret ?_);obtain rfl:=si H;have E:=t.sD 2 [];exact kE (c:=x) (vs:=[.slice j k l,I a.At.Row,I a.At.Col,B false,B a.Auto]) rfl (by kernel_rfl) (by kernel_rfl) (by kernel_rfl) (t.on 0 rfl _ rfl).1 ⟨_,x,rfl,rfl,pt,(.slice j k l),E,rfl,n.m⟩
def ce (p0:aa) (p1:Int) (p2:ak):Option (aa):=
 (app ([]:List ak) p0.L).bind fun a=>
 (idx a p1).bind fun c=>
 (oQ a p1 p2).bind fun b=>
 some (⟨b,p0.At,p0.Auto⟩:aa)
theorem ga (O0:Own c0 G F) (a:aa) (x:Int) (f:ak) {r:aa} (M:Sl an c0 v1 a.L) (t:Sl ag c0 v3 f.Cells) (H:ce a x f=some r): Calls prog 145 #[.agg #[v1,I a.At.Row,I a.At.Col,B a.At.Pending,B a.Auto],I x,.agg #[v3,B f.Wrap]] c0.w (aO c0 fun c v=>∃y y2,Own c G (es true an y 48 y2 r.L :: F)∧v= .agg #[y,I r.At.Row,I r.At.Col,B r.At.Pending,B r.Auto]∧OA an c y y2 r.L):=by
 unfold ce at H;refine en func145 rfl rfl (sr ?_);obtain ⟨a5,a6,a7,rfl⟩:=(M).form;refine me (al 31 [.slice a5 a6 a7,I a.At.Row,I a.At.Col,B a.At.Pending,B a.Auto] O0) ?_;rintro v11 m0 X ⟨s,rfl,O9⟩;obtain ⟨g,h,i,rfl⟩:=((t.mono X)).form;refine me (bx 48 [.slice g h i,B f.Wrap] O9) ?_;rintro v19 o0 w0 ⟨k0,rfl,z,Z⟩;refine me (al 31 [Y,I 0,I 0,B false,B false] z) ?_;rintro v23 q0 x0 ⟨l0,rfl,A⟩;refine wln (sr (me (sl an 48 [] ([]:List ak) A trivial) ?_));rintro v28 s0 y0 ⟨d1,k,N⟩;refine va (Q s) (vx (le1 0 gX (k.on 2 rfl)) (bn H fun f1 P H=>me (ap an (.agg #[Y,B false]) 32 27 0 k N M.m P gX) ?_));rintro v34 t0 z0 ⟨e1,D,j⟩;refine va (Q s) ?_;obtain ⟨b,d,e,rfl⟩:=(j).form;refine md (sC 27 0 (.slice b d e) [.slice b d e,I a.At.Row,I a.At.Col,B a.At.Pending,B a.Auto] 2 D ⟨(j).one,trivial⟩) ?_;rintro u0 a1 l;refine wln (sr (va (Q s) (vx (le1 0 gX (l.on 2 rfl)) (va (I x) (vx (lN 48 (mm Z)) (bn H fun j0 S H=>vx (ixO gX j.m S) (bn H fun i0 U H=>md (Own.stW (R:=an) (T:=48) (us:=[.slice g h i,B f.Wrap]) (x':=f) (u:= .agg #[.slice g h i,B f.Wrap]) 0 l (by kernel_rfl) rfl j.m U rfl (by kernel_rfl) ⟨t.m.one,rfl,trivial⟩ rfl ⟨(.slice g h i),rfl,t.m⟩) ?_)))))));rintro v0 b1 ⟨a0,n,q⟩;refine wln (sr (vx (leN 31 0 [.slice b d e,I a.At.Row,I a.At.Col,B a.At.Pending,B a.Auto] (n.on 2 rfl)) (md (sA 31 [.slice b d e,I a.At.Row,I a.At.Col,B a.At.Pending,B a.Auto] 1 n ⟨(q).one,rfl,rfl,rfl,rfl,trivial⟩) ?_)));rintro p c1 o;refine wln (W.ret ?_);obtain rfl:=si H;have E:=o.sD 3 [0];exact kE (c:=p) (vs:=[.slice b d e,I a.At.Row,I a.At.Col,B a.At.Pending,B a.Auto]) rfl (by kernel_rfl) (by kernel_rfl) (by kernel_rfl) (o.on 1 rfl _ rfl).1 ⟨_,p,rfl,rfl,pt,(.slice b d e),a0,E,rfl,q.m⟩
def cr (p0:aa):Option (aa):=
 (idx p0.L p0.At.Row).bind fun b=>
 (ce p0 p0.At.Row (⟨b.Cells,true⟩:ak)).bind fun a=>
 (dd (⟨a.L,(⟨a.At.Row,0,false⟩:ai),a.Auto⟩:aa)).bind fun c=>
 some c
theorem lc (O0:Own c0 G F) (a:aa) {r:aa} (y:Sl an c0 v1 a.L) (H:cr a=some r): Calls prog 196 #[.agg #[v1,I a.At.Row,I a.At.Col,B a.At.Pending,B a.Auto]] c0.w (aO c0 fun c v=>∃y1,Own c G (F)∧v= .agg #[y1,I r.At.Row,I r.At.Col,B r.At.Pending,B r.Auto]∧Sl an c y1 r.L):=by
 unfold cr at H;refine en func196 rfl rfl (sr ?_);obtain ⟨g,h,i,rfl⟩:=(y).form;refine me (al 31 [.slice g h i,I a.At.Row,I a.At.Col,B a.At.Pending,B a.Auto] O0) ?_;rintro v9 c8 l8 ⟨e,rfl,O7⟩;refine me (al 31 [Y,I 0,I 0,B false,B false] O7) ?_;rintro v13 a1 l0 ⟨z0,rfl,T⟩;refine wln (W.seq (rD [14] (Kp G0 [(Eb e 31 [.slice g h i,I a.At.Row,I a.At.Col,B a.At.Pending,B a.Auto])]) T ?_));intro e0 m0 z;have k:Kp G0 [(Eb e 31 [.slice g h i,I a.At.Row,I a.At.Col,B a.At.Pending,B a.Auto])] e0:=(Kp.cons (z.on 1 rfl) Kp.nil0);refine tkx 0 k (fun t f j=>leN 31 0 [.slice g h i,I a.At.Row,I a.At.Col,B a.At.Pending,B a.Auto] (j.on 0 rfl)) (ta 1 (Qo e 1) (ta 2 (Qo e 1) (tkx 3 k (fun t f j=>le1 1 u_3 (j.on 0 rfl)) (ta 4 (Q e) (tkx 5 k (fun t f j=>le1 0 gX (j.on 0 rfl)) (ta 6 (Qo e 1) (ta 7 (Qo e 1) (tkx 8 k (fun t f j=>le1 1 u_3 (j.on 0 rfl)) (bn H fun S P H=>?_)))))))));obtain ⟨y0,g0,s0⟩:=Sl.at (y.mono (l8.trans (l0.trans m0))) (aX P);obtain ⟨v21,rfl,R⟩:=g0;refine tx 9 (fun t f=>ix gX y.m P) (ta 10 (Qo (sb (.slice g h i)) (so (.slice g h i)+a.At.Row.toNat * 2)) (tx 11 (fun t f=>l1 cG ((mm s0) 0 _ rfl)) ?_));obtain ⟨a0,b0,d0,rfl⟩:=(R).form;refine ta 12 (.agg #[.slice a0 b0 d0,B true]) (bn H fun b h0 H=>o1 13 (gc 13 (ga z a a.At.Row (⟨S.Cells,true⟩:ak) y.m R h0) ?_));rintro v35 f0 f1 ⟨v27,j1,A,rfl,u⟩;have t0:Kp G0 [(Eb e 31 [.slice g h i,I a.At.Row,I a.At.Col,B a.At.Pending,B a.Auto])] f0:=(Kp.cons (A.on 2 rfl) Kp.nil0);refine ⟨.inr t0,?_⟩;obtain ⟨l,n,o,rfl⟩:=(u).form;refine o1 14 (gD 14 (sA 31 [.slice l n o,I b.At.Row,I b.At.Col,B b.At.Pending,B b.Auto] 2 A ⟨(u).one,rfl,rfl,rfl,rfl,trivial⟩) ?_);rintro b1 o0 D;refine ⟨.inl rfl,dn (nrm (sr (vv (Qo e 1) (vx (le1 1 u_3 (D.on 2 rfl)) (va (.agg #[I b.At.Row,I 0,B false]) (va (Qo e 1) (md (sB 29 1 [I b.At.Row,I 0,B false] [.slice l n o,I b.At.Row,I 0,B false,B b.Auto] 2 D ⟨rfl,rfl,rfl,trivial⟩) ?_)))))))⟩;rintro c1 q0 E;refine wln (sr (vx (leN 31 0 [.slice l n o,I b.At.Row,I 0,B false,B b.Auto] (E.on 2 rfl)) ?_));obtain ⟨d1,j0,g1,U,i0⟩:=E.frz 0 rfl (u.mono (o0.trans q0));refine WL.gh j0 (bn H fun d k0 H=>cl (jX U (⟨b.L,(⟨b.At.Row,0,false⟩:ai),b.Auto⟩:aa) i0 k0) ?_);rintro v56 e1 h1 ⟨v49,X,rfl,x⟩;obtain ⟨p,q,s,rfl⟩:=(x).form;refine md (sA 31 [.slice p q s,I d.At.Row,I d.At.Col,B d.At.Pending,B d.Auto] 1 X ⟨x.one,rfl,rfl,rfl,rfl,trivial⟩) ?_;rintro N i1 M;refine wln (W.ret ?_);obtain rfl:=si H;have Z:=M.sD 3 [];exact kE (c:=N) (vs:=[.slice p q s,I d.At.Row,I d.At.Col,B d.At.Pending,B d.Auto]) rfl (by kernel_rfl) (by kernel_rfl) (by kernel_rfl) (M.on 1 rfl _ rfl).1 ⟨_,N,rfl,rfl,pt,(.slice p q s),Z,rfl,x.m⟩
def bX (p0:aa) (p1:Int) (p2:Int) (p3:List ab):Option (aa):=
 (idx p0.L p1).bind fun d=>
 (idx p0.L p1).bind fun b=>
 (ek d.Cells b.Wrap p2 p3).bind fun a=>
 (ce p0 p1 (⟨a.1,a.2⟩:ak)).bind fun c=>
 some c
theorem kM (O0:Own c0 G F) (d:aa) (f:Int) (s:Int) (M:List ab) {r:aa} (g:Sl an c0 v1 d.L) (h4:Sl ag c0 v3 M) (H:bX d f s M=some r): Calls prog 197 #[.agg #[v1,I d.At.Row,I d.At.Col,B d.At.Pending,B d.Auto],I f,I s,v3] c0.w (aO c0 fun c v=>∃P y2,Own c G (es true an P 48 y2 r.L :: F)∧v= .agg #[P,I r.At.Row,I r.At.Col,B r.At.Pending,B r.Auto]∧OA an c P y2 r.L):=by
 unfold bX at H;refine en func197 rfl rfl (sr ?_);obtain ⟨h,i,n,rfl⟩:=(g).form;refine me (bx 31 [.slice h i n,I d.At.Row,I d.At.Col,B d.At.Pending,B d.Auto] O0) ?_;rintro v12 d1 A ⟨b8,rfl,O9,q⟩;refine me (al 31 [Y,I 0,I 0,B false,B false] O9) ?_;rintro v16 e1 D ⟨c1,rfl,R⟩;refine wln (W.seq (rD [] (Kp G0 []) R ?_));intro f0 E S;have n1:Kp G0 [] f0:=Kp.nil0;refine ta 0 (Q b8) (tx 1 (fun o e=>l1 gX ((mm q) 0 _ rfl)) (ta 2 (I f) (bn H fun v0 x H=>?_)));obtain ⟨a1,h0,q0⟩:=Sl.at (g.mono (A.trans (D.trans E))) (aX x);obtain ⟨v24,rfl,i0⟩:=h0;refine tx 3 (fun o e=>ix gX g.m x) (ta 4 (Qo (sb (.slice h i n)) (so (.slice h i n)+f.toNat * 2)) (tx 5 (fun o e=>l1 cG ((mm q0) 0 _ rfl)) (ta 6 (Q b8) (tx 7 (fun o e=>l1 gX ((mm q) 0 _ rfl)) (ta 8 (I f) (bn H fun N y H=>?_))))));obtain ⟨b1,j0,s0⟩:=Sl.at (g.mono (A.trans (D.trans E))) (aX y);obtain ⟨v30,rfl,h1⟩:=j0;refine tx 9 (fun o e=>ix gX g.m y) (ta 10 (Qo (sb (.slice h i n)) (so (.slice h i n)+f.toNat * 2+1)) (tx 11 (fun o e=>l1 u_4 ((mm s0) 1 _ rfl)) (ta 12 (I s) (ta 13 (v3) (bn H fun b k0 H=>o1 14 (gc 14 (mj S v0.Cells N.Wrap s M i0 h4.m k0) ?_))))));rintro v41 g0 i1 ⟨v33,q1,T,rfl,z⟩;have t0:Kp G0 [] g0:=Kp.nil0;refine ⟨.inr t0,ta 15 (.tuple #[v33,B b.2]) (ta 16 (v33) (ta 17 (B b.2) (ta 18 (v33) (ta 19 (B b.2) (dn (nrm (sr (vx (lN 31 (mm q)) (va (I f) (va (v33) (va (B b.2) ?_)))))))))))⟩;obtain ⟨a0,b0,d0,rfl⟩:=(z).form;refine va (.agg #[.slice a0 b0 d0,B b.2]) ?_;obtain ⟨f1,m0,j1,U,l0⟩:=T.frz 0 rfl z;refine WL.gh m0 (bn H fun a o0 H=>cl (ga U d f (⟨b.1,b.2⟩:ak) g.m l0 o0) ?_);rintro v59 g1 k1 ⟨v51,u0,X,rfl,p⟩;obtain ⟨j,k,l,rfl⟩:=(p).form;refine md (sA 31 [.slice j k l,I a.At.Row,I a.At.Col,B a.At.Pending,B a.Auto] 2 X ⟨(p).one,rfl,rfl,rfl,rfl,trivial⟩) ?_;rintro u m1 t;refine wln (W.ret ?_);obtain rfl:=si H;have Z:=t.sD 3 [0];exact kE (c:=u) (vs:=[.slice j k l,I a.At.Row,I a.At.Col,B a.At.Pending,B a.Auto]) rfl (by kernel_rfl) (by kernel_rfl) (by kernel_rfl) (t.on 2 rfl _ rfl).1 ⟨_,u,rfl,rfl,pt,(.slice j k l),u0,Z,rfl,p.m⟩
def fA (p0:ai) (p1:Int) (p2:Int) (p3:Bool):Option (ai):=
 (if (decide (p1 > 1))=true then
 some (2)
 else
 some (1)).bind fun a=>
 (bY p2).bind fun b=>
 if (decide (p0.Col≥(w64 (b - a))))=true then
 (bY p2).bind fun c=>
 some (⟨p0.Row,(w64 (c - 1)),p3⟩:ai)
 else
 some (⟨p0.Row,(w64 (p0.Col+a)),false⟩:ai)
theorem pG (O0:Own c0 G F) (a:ai) (n:Int) (g:Int) (h:Bool) {r:ai} (H:fA a n g h=some r): Calls prog 199 #[.agg #[I a.Row,I a.Col,B a.Pending],I n,I g,B h] c0.w (aO c0 fun c v=>Own c G (F)∧v= .agg #[I r.Row,I r.Col,B r.Pending]):=by
 unfold fA at H;refine en func199 rfl rfl (sr (me (bx 29 [I a.Row,I a.Col,B a.Pending] O0) ?_));rintro v5 c4 l4 ⟨i,rfl,O2,m⟩;refine me (al 29 [I 0,I 0,B false] O2) ?_;rintro v9 t l8 ⟨M,rfl,E⟩;refine wln (sr (va (I 1) (wln (bn H fun d f b=>W.seqJ (Jn t fun c l=>Own c G ((Eb M 29 [I 0,I 0,B false]) :: F)∧l= [(2,I g),(3,B h),(4,Q i),(8,Q M),(9,I d)]) ?_ ?_))))
 ·refine sr (va (I n) (va (B (decide (n > 1))) (wln (cn f (fun T f=>?_) (fun T f=>?_)))))
  ·refine W.region (va (I 2) (wln ?_));obtain rfl:=si f;exact jn t ⟨E,rfl⟩
  refine W.skip (nrm ?_);obtain rfl:=si f;exact jn t ⟨E,rfl⟩
 rintro e_ w_ ⟨i0,j0,_,rfl,k0,rfl,u,rfl⟩;refine W.seq (W.seq (rD [] (Kp G0 []) u ?_));intro N l0 x;have u0:Kp G0 [] N:=Kp.nil0;refine ta 0 (.pointer (some ⟨i,0+1,none⟩)) (tx 1 (fun c' a0=>l1 u_3 ((mm m) 1 _ rfl)) (ta 2 (I g) (ta 4 (I d) (bn b fun k U b=>o1 3 (gc 3 (dP x g U) ?_)))));rintro v28 P m0 ⟨o,rfl⟩;have b0:Kp G0 [] P:=Kp.nil0;refine ⟨.inr b0,ta 5 (I (w64 (k - d))) (ta 6 (B (decide (a.Col≥(w64 (k - d))))) (dn (nrm (cn b (fun X b=>?_) (fun X b=>?_)))))⟩
 ·refine W.seq (rD [] (Kp G0 []) o ?_);intro R o0 y;have v0:Kp G0 [] R:=Kp.nil0;refine ta 0 (Q i) (tx 1 (fun c' a0=>l1 u_3 ((mm m) 0 _ rfl)) (ta 2 (I g) (ta 5 (B h) (bn b fun e Z b=>o1 3 (gc 3 (dP y g Z) ?_)))));rintro v40 S q0 ⟨z,rfl⟩;have d0:Kp G0 [] S:=Kp.nil0;refine ⟨.inr d0,ta 4 (I (w64 (e - 1))) (ta 6 (.agg #[I a.Row,I (w64 (e - 1)),B h]) (o1 7 (gD 7 (sA 29 [I a.Row,I (w64 (e - 1)),B h] 0 z ⟨rfl,rfl,rfl,trivial⟩) ?_)))⟩;rintro j s0 p;have e0:Kp G0 [] j:=Kp.nil0;refine ⟨.inr e0,dn (nrm (W.ret (thr ?_)))⟩;obtain rfl:=si b;have A:=p.sD 1 [];exact kE (c:=j) (vs:=[I a.Row,I (w64 (e - 1)),B h]) rfl (by kernel_rfl) (by kernel_rfl) (by kernel_rfl) (p.on 0 rfl _ rfl).1 ⟨_,j,rfl,rfl,pt,A,rfl⟩
 refine W.skip (nrm (sr (va (Q i) (vx (l1 u_3 ((mm m) 0 _ rfl)) (va (Qo i (0+1)) (vx (l1 u_3 ((mm m) 1 _ rfl)) (va (I d) (va (I (w64 (a.Col+d))) (va (.agg #[I a.Row,I (w64 (a.Col+d)),B false]) (md (sA 29 [I a.Row,I (w64 (a.Col+d)),B false] 0 o ⟨rfl,rfl,rfl,trivial⟩) ?_))))))))));rintro s t0 q;refine wln (W.ret ?_);obtain rfl:=si b;have D:=q.sD 1 [];exact kE (c:=s) (vs:=[I a.Row,I (w64 (a.Col+d)),B false]) rfl (by kernel_rfl) (by kernel_rfl) (by kernel_rfl) (q.on 0 rfl _ rfl).1 ⟨_,s,rfl,rfl,pt,D,rfl⟩
def aU (p0:aa) (p1:Int) (p2:List Int):Option (aa×ai):=
 (cf p0).bind fun c=>
 (db c).bind fun d=>
 (if (decide ((aE 1 (aB p1 2)) > d))=true then
 some (1,([65533]:List Int))
 else
 some ((aE 1 (aB p1 2)),p2)).bind fun g=>
 (if c.At.Pending=true then
 (cr c).bind fun e=>
 some (e.L,e.At.Row,e.At.Col,e.At.Pending,e.Auto)
 else
 some (c.L,c.At.Row,c.At.Col,c.At.Pending,c.Auto)).bind fun a=>
 ((bV (g.1==2) (some (a.2.2.1==(w64 (d - 1))))).bind fun i=>
 if i=true then
 if a.2.2.2.2=true then
 (rep 1 (⟨0,([]:List Int)⟩:ab)).bind fun j=>
 (bX (⟨a.1,(⟨a.2.1,a.2.2.1,a.2.2.2.1⟩:ai),a.2.2.2.2⟩:aa) a.2.1 (w64 (d - 1)) j).bind fun k=>
 (cr k).bind fun f=>
 some (f.L,f.At.Row,f.At.Col,f.At.Pending,f.Auto)
 else
 some (a.1,a.2.1,(w64 (d - 2)),a.2.2.2.1,a.2.2.2.2)
 else
 some (a.1,a.2.1,a.2.2.1,a.2.2.2.1,a.2.2.2.2)).bind fun b=>
 (gZ g.1 g.2).bind fun l=>
 (bX (⟨b.1,(⟨b.2.1,b.2.2.1,b.2.2.2.1⟩:ai),b.2.2.2.2⟩:aa) b.2.1 b.2.2.1 l).bind fun h=>
 (fA (⟨b.2.1,b.2.2.1,false⟩:ai) g.1 d h.Auto).bind fun m=>
 some ((⟨h.L,m,h.Auto⟩:aa),(⟨b.2.1,b.2.2.1,false⟩:ai))
theorem oH (O0:Own c0 G F) (u:aa) (p1:Int) (p2:List Int) {r:aa×ai} (h2:Sl an c0 v1 u.L) (h4:Sl (RI .i32) c0 v3 p2) (H:aU u p1 p2=some r): Calls prog 128 #[.agg #[v1,I u.At.Row,I u.At.Col,B u.At.Pending,B u.Auto],I p1,v3] c0.w (aO c0 fun c v=>∃y1 y2,Own c G (es true an y1 48 y2 r.1.L :: F)∧v= .tuple #[.agg #[y1,I r.1.At.Row,I r.1.At.Col,B r.1.At.Pending,B r.1.Auto],.agg #[I r.2.Row,I r.2.Col,B r.2.Pending]]∧OA an c y1 y2 r.1.L):=by
 unfold aU at H;refine en func128 rfl rfl (sr ?_);obtain ⟨a5,a6,a7,rfl⟩:=(h2).form;refine me (al 31 [.slice a5 a6 a7,I u.At.Row,I u.At.Col,B u.At.Pending,B u.Auto] O0) ?_;rintro v11 n7 x7 ⟨f,rfl,O9⟩;refine me (al 31 [Y,I 0,I 0,B false,B false] O9) ?_;rintro v15 o7 y7 ⟨D,rfl,v4⟩;refine me (al 29 [I 0,I 0,B false] v4) ?_;rintro v19 p7 z7 ⟨E,rfl,s1⟩;refine wln (sr (vx (leN 31 0 [.slice a5 a6 a7,I u.At.Row,I u.At.Col,B u.At.Pending,B u.Auto] (s1.on 2 rfl)) (bn H fun h k5 H=>cl (dy s1 u h2.m k5) ?_)));rintro v28 q7 a8 ⟨v21,w4,rfl,e0⟩;obtain ⟨a0,b0,d0,rfl⟩:=(e0).form;refine md (sA 31 [.slice a0 b0 d0,I h.At.Row,I h.At.Col,B h.At.Pending,B h.Auto] 2 w4 ⟨e0.one,rfl,rfl,rfl,rfl,trivial⟩) ?_;rintro r7 c8 t1;refine wln (sr (va (I p1) (va (I (aB p1 2)) (vv (I (aE 1 (aB p1 2))) (wln (sr (vx (leN 31 0 [.slice a0 b0 d0,I h.At.Row,I h.At.Col,B h.At.Pending,B h.Auto] (t1.on 2 rfl)) (bn H fun e l5 H=>cl (jd t1 h e0.m l5) ?_))))))));rintro v40 b2 d8 ⟨u1,rfl⟩;refine va (I e) (wln (bn H fun n Z s4=>W.seqJ (Jn b2 fun c l=>∃v43,Own c G ((Eb E 29 [I 0,I 0,B false]) :: (Eb D 31 [Y,I 0,I 0,B false,B false]) :: (Eb f 31 [.slice a0 b0 d0,I h.At.Row,I h.At.Col,B h.At.Pending,B h.Auto]) :: F)∧l= [(1,I n.1),(2,v43),(3,Q f),(6,Q D),(7,Q E),(8,I e)]∧Sl (RI .i32) c v43 n.2) ?_ ?_))
 ·refine sr (va (I (aE 1 (aB p1 2))) (va (I e) (va (B (decide ((aE 1 (aB p1 2)) > e))) (wln (cn Z (fun m5 Z=>?_) (fun m5 Z=>?_))))))
  ·refine sr (va (I 1) (wln (W.region (me (sl (RI .i32) 21 [[J 65533]] ([65533]:List Int) u1 ⟨rfl,trivial⟩) ?_))));rintro v49 s7 e8 ⟨l8,x4,n5⟩;refine va (v49) (wln ?_);obtain rfl:=si Z;obtain ⟨g5,p5,f8,y4,o5⟩:=x4.frz 0 rfl n5;have z4:=y4.sD 4 [1,2,3];exact ⟨g5,_,_,p5.symm,pt,us,v49,z4,rfl,o5⟩
  refine W.skip (nrm ?_);obtain rfl:=si Z;exact jn b2 ⟨v3,u1,rfl,h4.m⟩
 rintro e_ w_ ⟨c2,u7,_,rfl,g8,rfl,v43,v0,rfl,q5⟩;refine bn s4 fun b M t4=>W.seqJ (Jn c2 fun c l=>∃p,Own c G ((Eb E 29 [I 0,I 0,B false]) :: (Eb D 31 [Y,I 0,I 0,B false,B false]) :: (Eb f 31 [p,I b.2.1,I b.2.2.1,B b.2.2.2.1,B b.2.2.2.2]) :: F)∧l= [(1,I n.1),(2,v43),(3,Q f),(6,Q D),(7,Q E),(8,I e)]∧Sl an c p b.1) ?_ ?_
 ·refine sr (va (Qo f 1) (va (Qo f 3) (vx (le1 3 u_4 (v0.on 2 rfl)) (wln (cn M (fun r5 M=>?_) (fun r5 M=>?_))))))
  ·refine W.region (vx (leN 31 0 [.slice a0 b0 d0,I h.At.Row,I h.At.Col,B h.At.Pending,B h.Auto] (v0.on 2 rfl)) (bn M fun U s5 M=>cl (lc v0 h e0.m s5) ?_));rintro n8 t7 h8 ⟨m8,b5,rfl,k1⟩;obtain ⟨w1,x1,z1,rfl⟩:=(k1).form;refine md (sA 31 [.slice w1 x1 z1,I U.At.Row,I U.At.Col,B U.At.Pending,B U.Auto] 2 b5 ⟨k1.one,rfl,rfl,rfl,rfl,trivial⟩) ?_;rintro h5 i8 c5;refine wln ?_;obtain rfl:=si M;exact jn h5 ⟨(.slice w1 x1 z1),c5,rfl,k1.m⟩
  refine W.skip (nrm ?_);obtain rfl:=si M;exact jn c2 ⟨(.slice a0 b0 d0),v0,rfl,e0.m⟩
 rintro e_ w_ ⟨x0,v7,_,rfl,j8,rfl,p,f1,rfl,m1⟩;refine bn t4 fun a g N=>W.seqJ (Jn x0 fun c l=>∃y,Own c G ((Eb E 29 [I 0,I 0,B false]) :: (Eb D 31 [Y,I 0,I 0,B false,B false]) :: (Eb f 31 [y,I a.2.1,I a.2.2.1,B a.2.2.2.1,B a.2.2.2.2]) :: F)∧l= [(1,I n.1),(2,v43),(3,Q f),(6,Q D),(7,Q E),(8,I e)]∧Sl an c y a.1) ?_ ?_
 ·refine W.seq (bn g fun e3 d2 g=>W.join (Jn x0 fun c l=>Own c G ((Eb E 29 [I 0,I 0,B false]) :: (Eb D 31 [Y,I 0,I 0,B false,B false]) :: (Eb f 31 [p,I b.2.1,I b.2.2.1,B b.2.2.2.1,B b.2.2.2.2]) :: F)∧l= [(1,I n.1),(2,v43),(3,Q f),(6,Q D),(7,Q E),(8,I e),(35,B e3)]) ?_ ?_)
  ·clear g;refine W.region (va (I n.1) (va (B (n.1==2)) ?_));rcases bo (n.1==2) with f0 | f0
   ·have u4:=anT f0 d2;refine vb f0 (wa (Qo f 1) (wa (Qo f 2) (wn (vx (le1 2 u_3 (f1.on 2 rfl)) (wa (I e) (wa (I (w64 (e - 1))) (wa (B (b.2.2.1==(w64 (e - 1)))) ?_)))))));obtain rfl:=si u4;exact va (B (b.2.2.1==(w64 (e - 1)))) (wln (jn x0 ⟨f1,rfl⟩))
   obtain rfl:=anF f0 d2;exact vb f0 (pz (pz (pz (va (B false) (wln (jn x0 ⟨f1,rfl⟩))))))
  rintro e_ w_ ⟨i5,w7,_,rfl,k8,rfl,w0,rfl⟩;refine nrm (cn g (fun t5 g=>?_) (fun t5 g=>?_))
  ·refine sr (va (Qo f 4) (vx (le1 4 u_4 (w0.on 2 rfl)) (wln (cn g (fun g3 g=>?_) (fun g3 g=>?_)))))
   ·refine rD [9] (Kp G0 [(Eb f 31 [p,I b.2.1,I b.2.2.1,B b.2.2.2.1,B b.2.2.2.2])]) w0 ?_;intro n2 h6 z0;have n1:Kp G0 [(Eb f 31 [p,I b.2.1,I b.2.2.1,B b.2.2.2.1,B b.2.2.2.2])] n2:=(Kp.cons (z0.on 2 rfl) Kp.nil0);refine tkx 0 n1 (fun c' S A=>leN 31 0 [p,I b.2.1,I b.2.2.1,B b.2.2.2.1,B b.2.2.2.2] (A.on 0 rfl)) (ta 1 (Qo f 1) (ta 2 (Qo f 1) (tkx 3 n1 (fun c' S A=>le1 1 u_3 (A.on 0 rfl)) (ta 4 (I e) (ta 5 (I (w64 (e - 1))) (bn g fun o4 j1 g=>o1 6 (gm 6 (Own.mkS (kl:= .i64) (kc:= .i64) (R:=ag) (z:= .agg #[I 0,Y]) (lz:=[I 0,Y]) (x:=(⟨0,([]:List Int)⟩:ab)) (by_:=32) (i:=1) (j:=1) true z0 (aM _) j1 (oN _) (rR j1) cG (by kernel_rfl) rfl rfl (fun _=>⟨(Y),rfl,(Sl.nl _ _)⟩) (by kernel_rfl) (by kernel_rfl)) ?_)))))));rintro d7 o2 i6 ⟨z6,a1,h3⟩;have b4:Kp G0 [(Eb f 31 [p,I b.2.1,I b.2.2.1,B b.2.2.2.1,B b.2.2.2.2])] o2:=(Kp.cons (a1.on 3 rfl) Kp.nil0);refine ⟨.inr b4,?_⟩;obtain ⟨q2,j3,y3,b1,i3⟩:=a1.frz 0 rfl h3;have c4:Kp G0 [(Eb f 31 [p,I b.2.1,I b.2.2.1,B b.2.2.2.1,B b.2.2.2.2])] q2:=(Kp.cons (b1.on 3 rfl) Kp.nil0);refine AC.gh j3 y3 (fun _=>c4) (bn g fun p4 k3 g=>o1 7 (gc 7 (kM b1 (⟨b.1,(⟨b.2.1,b.2.2.1,b.2.2.2.1⟩:ai),b.2.2.2.2⟩:aa) b.2.1 (w64 (e - 1)) o4 m1.m i3 k3) ?_));rintro f7 s2 j6 ⟨e7,b7,c1,rfl,l3⟩;have d4:Kp G0 [(Eb f 31 [p,I b.2.1,I b.2.2.1,B b.2.2.2.1,B b.2.2.2.2])] s2:=(Kp.cons (c1.on 4 rfl) Kp.nil0);refine ⟨.inr d4,?_⟩;obtain ⟨t2,n3,z3,d1,m3⟩:=c1.frz 0 rfl l3;have e4:Kp G0 [(Eb f 31 [p,I b.2.1,I b.2.2.1,B b.2.2.2.1,B b.2.2.2.2])] t2:=(Kp.cons (d1.on 4 rfl) Kp.nil0);refine AC.gh n3 z3 (fun _=>e4) (bn g fun X o3 g=>o1 8 (gc 8 (lc d1 p4 m3 o3) ?_));rintro h7 u2 k6 ⟨g7,e1,rfl,t0⟩;have f4:Kp G0 [(Eb f 31 [p,I b.2.1,I b.2.2.1,B b.2.2.2.1,B b.2.2.2.2])] u2:=(Kp.cons (e1.on 4 rfl) Kp.nil0);refine ⟨.inr f4,?_⟩;obtain ⟨g1,h1,i1,rfl⟩:=(t0).form;refine o1 9 (gD 9 (sA 31 [.slice g1 h1 i1,I X.At.Row,I X.At.Col,B X.At.Pending,B X.Auto] 4 e1 ⟨t0.one,rfl,rfl,rfl,rfl,trivial⟩) ?_);rintro v2 l6 e2;refine ⟨.inl rfl,dn (nrm ?_)⟩;obtain rfl:=si g;have f2:=e2.sD 5 [2,3,4];exact jn v2 ⟨(.slice g1 h1 i1),f2,rfl,t0.m⟩
   refine W.region (va (I e) (va (I (w64 (e - 2))) (va (Qo f 1) (va (Qo f 2) (md (sC 3 2 (I (w64 (e - 2))) [p,I b.2.1,I (w64 (e - 2)),B b.2.2.2.1,B b.2.2.2.2] 2 w0 ⟨rfl,trivial⟩) ?_)))));rintro w2 m6 g2;refine wln ?_;obtain rfl:=si g;exact jn w2 ⟨p,g2,rfl,m1.m⟩
  refine W.skip (nrm ?_);obtain rfl:=si g;exact jn i5 ⟨p,w0,rfl,m1.m⟩
 rintro e_ w_ ⟨y5,f6,_,rfl,n6,rfl,y,h0,rfl,p3⟩;refine sr (vv (Qo f 1) (vx (le1 1 u_3 (h0.on 2 rfl)) (va (Qo f 1) (va (Qo f 2) (vx (le1 2 u_3 (h0.on 2 rfl)) (va (.agg #[I a.2.1,I a.2.2.1,B false]) (me (al 29 [I 0,I 0,B false] h0) ?_)))))));rintro i7 z5 o6 ⟨o,rfl,i2⟩;refine md (sA 29 [I a.2.1,I a.2.2.1,B false] 0 i2 ⟨rfl,rfl,rfl,trivial⟩) ?_;rintro b6 p6 j2;refine wln (W.seq (rD [9] (Kp G0 [(Eb f 31 [y,I a.2.1,I a.2.2.1,B a.2.2.2.1,B a.2.2.2.2]),(Eb o 29 [I a.2.1,I a.2.2.1,B false])]) j2 ?_));intro x2 q6 i0;have u0:Kp G0 [(Eb f 31 [y,I a.2.1,I a.2.2.1,B a.2.2.2.1,B a.2.2.2.2]),(Eb o 29 [I a.2.1,I a.2.2.1,B false])] x2:=(Kp.cons (i0.on 3 rfl) (Kp.cons (i0.on 0 rfl) Kp.nil0));refine tkx 0 u0 (fun c' S A=>leN 31 0 [y,I a.2.1,I a.2.2.1,B a.2.2.2.1,B a.2.2.2.2] (A.on 0 rfl)) (ta 1 (Q o) (tkx 2 u0 (fun c' S A=>le1 0 u_3 (A.on 1 rfl)) (ta 3 (Qo o 1) (tkx 4 u0 (fun c' S A=>le1 1 u_3 (A.on 1 rfl)) (ta 5 (I n.1) (ta 6 (v43) (bn N fun q4 q3 N=>o1 7 (gc 7 (rX i0 n.1 n.2 q5.m q3) ?_))))))));rintro j7 z2 r6 ⟨_,c7,j0,rfl,s3⟩;have g4:Kp G0 [(Eb f 31 [y,I a.2.1,I a.2.2.1,B a.2.2.2.1,B a.2.2.2.2]),(Eb o 29 [I a.2.1,I a.2.2.1,B false])] z2:=(Kp.cons (j0.on 4 rfl) (Kp.cons (j0.on 1 rfl) Kp.nil0));refine ⟨.inr g4,?_⟩;obtain ⟨a3,u3,a4,k0,t3⟩:=j0.frz 0 rfl s3;have i4:Kp G0 [(Eb f 31 [y,I a.2.1,I a.2.2.1,B a.2.2.2.1,B a.2.2.2.2]),(Eb o 29 [I a.2.1,I a.2.2.1,B false])] a3:=(Kp.cons (k0.on 4 rfl) (Kp.cons (k0.on 1 rfl) Kp.nil0));refine AC.gh u3 a4 (fun _=>i4) (bn N fun k w3 N=>o1 8 (gc 8 (kM k0 (⟨a.1,(⟨a.2.1,a.2.2.1,a.2.2.2.1⟩:ai),a.2.2.2.2⟩:aa) a.2.1 a.2.2.1 q4 p3.m t3 w3) ?_));rintro l7 b3 s6 ⟨k7,m4,l0,rfl,T⟩;have j4:Kp G0 [(Eb f 31 [y,I a.2.1,I a.2.2.1,B a.2.2.2.1,B a.2.2.2.2]),(Eb o 29 [I a.2.1,I a.2.2.1,B false])] b3:=(Kp.cons (l0.on 5 rfl) (Kp.cons (l0.on 2 rfl) Kp.nil0));refine ⟨.inr j4,?_⟩;obtain ⟨q,s,t,rfl⟩:=(T).form;refine o1 9 (gD 9 (sA 31 [.slice q s t,I k.At.Row,I k.At.Col,B k.At.Pending,B k.Auto] 5 l0 ⟨(T).one,rfl,rfl,rfl,rfl,trivial⟩) ?_);rintro c6 t6 m0;refine ⟨.inl rfl,dn (nrm (sr (vx (leN 29 0 [I a.2.1,I a.2.2.1,B false] (m0.on 2 rfl)) (va (I n.1) (va (I e) (va (Qo f 4) (vx (le1 4 u_4 (m0.on 5 rfl)) (bn N fun d x3 N=>cl (pG m0 (⟨a.2.1,a.2.2.1,false⟩:ai) n.1 e k.Auto x3) ?_))))))))⟩;rintro m7 d6 u6 ⟨k2,rfl⟩;refine va (.pointer (some ⟨f,1,none⟩)) (md (sB 29 1 [I d.Row,I d.Col,B d.Pending] [.slice q s t,I d.Row,I d.Col,B d.Pending,B k.Auto] 5 k2 ⟨rfl,rfl,rfl,trivial⟩) ?_);rintro e6 v6 l2;refine wln (W.seq (rD [] (Kp G0 [(Eb f 31 [.slice q s t,I d.Row,I d.Col,B d.Pending,B k.Auto]),(Eb o 29 [I a.2.1,I a.2.2.1,B false])]) l2 ?_));intro c3 w6 o0;have q1:Kp G0 [(Eb f 31 [.slice q s t,I d.Row,I d.Col,B d.Pending,B k.Auto]),(Eb o 29 [I a.2.1,I a.2.2.1,B false])] c3:=(Kp.cons (o0.on 5 rfl) (Kp.cons (o0.on 2 rfl) Kp.nil0));refine tkx 0 q1 (fun c' S A=>leN 31 0 [.slice q s t,I d.Row,I d.Col,B d.Pending,B k.Auto] (A.on 0 rfl)) (tkx 1 q1 (fun c' S A=>leN 29 0 [I a.2.1,I a.2.2.1,B false] (A.on 1 rfl)) (o1 2 (gD 2 (sA 31 [.slice q s t,I d.Row,I d.Col,B d.Pending,B k.Auto] 4 o0 ⟨T.m.one,rfl,rfl,rfl,rfl,trivial⟩) ?_)));rintro d3 x6 q0;have k4:Kp G0 [(Eb f 31 [.slice q s t,I d.Row,I d.Col,B d.Pending,B k.Auto]),(Eb o 29 [I a.2.1,I a.2.2.1,B false])] d3:=(Kp.cons (q0.on 5 rfl) (Kp.cons (q0.on 2 rfl) Kp.nil0));refine ⟨.inr k4,o1 3 (gD 3 (sA 29 [I a.2.1,I a.2.2.1,B false] 3 q0 ⟨rfl,rfl,rfl,trivial⟩) ?_)⟩;rintro s0 y6 P;have l4:Kp G0 [(Eb f 31 [.slice q s t,I d.Row,I d.Col,B d.Pending,B k.Auto]),(Eb o 29 [I a.2.1,I a.2.2.1,B false])] s0:=(Kp.cons (P.on 5 rfl) (Kp.cons (P.on 2 rfl) Kp.nil0));refine ⟨.inr l4,dn (nrm (W.ret ?_))⟩;obtain rfl:=si N;have m2:=P.sD 6 [0];exact GJ (c:=s0) (vs:=[.slice q s t,I d.Row,I d.Col,B d.Pending,B k.Auto]) (vs':=[I a.2.1,I a.2.2.1,B false]) rfl (by kernel_rfl) (by kernel_rfl) (by kernel_rfl) (P.on 4 rfl _ rfl).1 (by kernel_rfl) (by kernel_rfl) (by kernel_rfl) (P.on 3 rfl _ rfl).1 ⟨_,s0,rfl,rfl,pt,(.slice q s t),m4,m2,rfl,T.m⟩
end Go.Proofs.YtclmdpamofdoiaaGreatDoor
namespace Go.Proofs.YtclmdpamofdoiaaGreatDoor
open Go Go.Lt
set_option maxRecDepth 10000
set_option linter.unusedVariables false
attribute [local irreducible] W WL AC
theorem sZ {Q:Program} (w:World) (dT sT ty E:TypeId) (g o dLen dCap:Nat) (a:Addr) (sLen sCap n size:Nat) (us vs:List Value) (T:TypeId)
  (hu:Q.underlying dT=some (.slice E)) (hs:(Q.info? E).map (·.size)=some size) (hn:Nat.min sLen dLen=n) (hul:us.length=n * size)
  (hsrc:∀j v,us[j]? = some v→w.cell? (a.add j)=some v) (hrow:w.heap[g]? = some (.cells vs.toArray T (0,0))) (hl:o+us.length≤vs.length) (h1:∀v∈us,v.oneCell'=true):
  (Builtin.copy_ #[dT,sT] ty #[.slice (some ⟨g,o,none⟩) dLen dCap,.slice (some a) sLen sCap]).run Q w= .ok (goInt n) (w.setRow g (vs.take o++us++vs.drop (o+us.length)).toArray):=by
 obtain ⟨i,hi,hsz⟩:=Option.map_eq_some_iff.1 hs;have hf:=Hx (P:=Q) (w:=w) size n a sLen sCap us hul hsrc;have hst:=yb Q g o T us 0 vs.toArray w hrow (by simpa using hl) h1;simp only [qf] at hst;simp [Builtin.copy_,bM hu,Builtin.lenOf,sizeOf,typeInfo,hi,hsz,hn,hf,hst]
set_option maxHeartbeats 4000000 in
set_option maxRecDepth 100000 in
theorem Bx {w:World} {g n cap i vb m vc:Nat} {vs us vs2:List Value} {T T2:TypeId} (hrow:w.heap[g]? = some (.cells vs.toArray T (0,0))) (hrow2:w.heap[vb]? = some (.cells vs2.toArray T2 (0,0)))
  (hi:i < n) (hm:0 < m) (hroom:n+m≤cap) (hcap:cap * 2≤vs.length) (hc63:cap≤9223372036854775807) (hvb:vb≠g) (hul:us.length=m * 2) (hus:∀(j:Nat) (v:Value),us[j]? = some v→vs2[j]? = some v)
  (h1:∀v∈vs.take (n * 2),v.oneCell'=true) (h2:∀v∈us,v.oneCell'=true):
  Calls Tryz.prog 250 #[.slice (some ⟨g,0,none⟩) n cap,.int .i64 i,.slice (some ⟨vb,0,none⟩) m vc] w fun e w'=>
   e= .returned (.slice (some ⟨g,0,none⟩) (n+m) cap)∧w'=(w.drew.setRow g (vs.take ((i+m) * 2)++(vs.drop (i * 2)).take ((n - i) * 2)++vs.drop ((n+m) * 2)).toArray).setRow g (vs.take (i * 2)++us++(vs.drop (i * 2)).take ((n - i) * 2)++vs.drop ((n+m) * 2)).toArray:=by
 have hsz:(Tryz.prog.info? 114).map (·.size)=some 2:=by kernel_rfl
 have hov:∀lb cb,(callFunc 284 #[.slice (some ⟨vb,0,none⟩) m vc,.slice (some ⟨g,(i+m) * 2,none⟩) lb cb]).run Tryz.prog w= .ok (.value (.bool false)) w:=fun lb cb=>by
  rw [dt Tryz.func284 (by kernel_rfl) (by kernel_rfl) (by kernel_rfl) (e:=Extern.SlicesOverlaps.overlaps #[46,46] #[4]) (by kernel_rfl)];rw [Lib.run_overlaps_apart w 46 4 114 Tryz.underlying46 2 (fun w=>by kernel_rfl) ⟨vb,0,none⟩ ⟨g,(i+m) * 2,none⟩ m vc lb cb hvb T2 T vs2.length vs.length (by simp [World.shape?,hrow2]) (by simp [World.shape?,hrow]) (by omega) (by simp [World.frozen?,hrow2]) (by simp [World.frozen?,hrow2])];rfl
 have hdl:((vs.drop (i * 2)).take ((n - i) * 2)).length=(n - i) * 2:=by rw [ay,br]; omega
 have hcp1:∀ty dc sc,(Builtin.copy_ #[46,46] ty #[.slice (some ⟨g,(i+m) * 2,none⟩) (n+m - (i+m)) dc,.slice (some ⟨g,i * 2,none⟩) (n+m - i) sc]).run Tryz.prog w.drew= .ok (goInt ((n - i:Nat):Int)) (w.drew.setRow g (vs.take ((i+m) * 2)++(vs.drop (i * 2)).take ((n - i) * 2)++vs.drop ((n+m) * 2)).toArray):=fun ty dc sc=>by
  have:=sZ (Q:=Tryz.prog) w.drew 46 46 ty 114 g ((i+m) * 2) (n+m - (i+m)) dc ⟨g,i * 2,none⟩ (n+m - i) sc (n - i) 2 ((vs.drop (i * 2)).take ((n - i) * 2)) vs T Tryz.underlying46 hsz (by simp only [AO]; split <;> omega) hdl
   (fun j v hj=>by
    rw [fq];rw [aR] at hj;split at hj
    ·rw [bK] at hj;rw [gt w.drew g (i * 2+j) vs.toArray T (0,0) hrow,bW];exact hj
    ·cases hj) hrow (by rw [hdl]; omega) (fun v hv=>h1 v (by rw [show (n - i) * 2=n * 2 - i * 2 by omega,←iq] at hv; exact fF hv))
  rw [hdl,show (i+m) * 2+(n - i) * 2=(n+m) * 2 by omega] at this;exact this
 obtain ⟨W1,hW1⟩:∃W1,W1=w.drew.setRow g (vs.take ((i+m) * 2)++(vs.drop (i * 2)).take ((n - i) * 2)++vs.drop ((n+m) * 2)).toArray:=⟨_,rfl⟩;have hr1:W1.heap[g]? = some (.cells (vs.take ((i+m) * 2)++(vs.drop (i * 2)).take ((n - i) * 2)++vs.drop ((n+m) * 2)).toArray T (0,0)):=by
  rw [hW1];exact Ai w.drew g vs.toArray _ T (0,0) hrow
 have hr2:W1.heap[vb]? = some (.cells vs2.toArray T2 (0,0)):=by
  rw [hW1,Fm w.drew g vb _ hvb];exact hrow2
 have hA2:(vs.take ((i+m) * 2)++(vs.drop (i * 2)).take ((n - i) * 2)++vs.drop ((n+m) * 2)).take (i * 2)=vs.take (i * 2):=by
  rw [aK,cZ (by rw [ay]; omega),fh,cz (by omega)]
 have hA3:(vs.take ((i+m) * 2)++(vs.drop (i * 2)).take ((n - i) * 2)++vs.drop ((n+m) * 2)).drop (i * 2+m * 2)=(vs.drop (i * 2)).take ((n - i) * 2)++vs.drop ((n+m) * 2):=by
  have hl:(vs.take ((i+m) * 2)).length=i * 2+m * 2:=by rw [ay]; omega
  rw [aK,←hl,kw]
 have hcp2:∀ty dc,(Builtin.copy_ #[46,46] ty #[.slice (some ⟨g,i * 2,none⟩) (n+m - i) dc,.slice (some ⟨vb,0,none⟩) m vc]).run Tryz.prog W1= .ok (goInt m) (W1.setRow g (vs.take (i * 2)++us++(vs.drop (i * 2)).take ((n - i) * 2)++vs.drop ((n+m) * 2)).toArray):=fun ty dc=>by
  have:=sZ (Q:=Tryz.prog) W1 46 46 ty 114 g (i * 2) (n+m - i) dc ⟨vb,0,none⟩ m vc m 2 us _ T Tryz.underlying46 hsz (by simp only [AO]; split <;> omega) hul
   (fun j v hj=>by
    rw [fq,gt W1 vb (0+j) vs2.toArray T2 (0,0) hr2,bW,je];exact hus j v hj) hr1 (by simp only [aA,ay,br]; omega) h2
  rw [hul,hA2,hA3,←aK] at this;exact this
 rw [←hW1] at hcp1⊢;have hw1:IntKind.i64.wrap ((i:Int)+(m:Int))=(i:Int)+(m:Int):=by rw [Ad]; omega
 have hb1:(0:Int)≤(i:Int)+(m:Int):=by omega
 have hin:i≤n:=by omega
 have hz1:¬((m:Int)=0):=by omega
 have hz2:¬((i:Int)=(n:Int)):=by omega
 have htn:((i:Int)+(m:Int)).toNat=i+m:=by omega
 have hb2:¬(cap=i+m):=by omega
 have hb3:(i:Int)≤(n:Int)+(m:Int):=by omega
 have hb4:¬(cap=i):=by omega
 have mixed:Tryz.prog.follows Departure.mixedOrders=true:=by kernel_rfl
 clear hA2 hA3 hr1 hr2 hW1 hdl h1 h2 hus hul
 go_enter Tryz.func250,Tryz.ntmps250
 go_wp2_with (simp only [hov])
 go_region_law_o (refine step_copy_runI rfl _ _ 46 46 rfl _ _ (by simp [Act.eval,Act.put]) (by simp [Act.eval,Act.put]) (hcp1 _ _ _) ?_)
 go_wp2_with (at_builtin; refine wpList_copy_runI _ rfl _ _ 46 46 rfl _ _ rfl rfl (hcp2 _ _) ?_)
 go_ret
 exact ⟨rfl,by simp only [aK]⟩
def nE (k:Nat):List Value:=(Builtin.zeroCells (Value.agg #[.int .i64 0,.slice none 0 0]).cells k).toList
theorem oq (k:Nat):(nE k).length=k * 2:=by
 unfold nE;rw [Hy,px];rfl
set_option maxHeartbeats 4000000 in
set_option maxRecDepth 100000 in
theorem CW {w:World} {g n cap i vb m vc:Nat} {vs us vs2:List Value} {T T2:TypeId} (hrow:w.heap[g]? = some (.cells vs.toArray T (0,0))) (hrow2:w.heap[vb]? = some (.cells vs2.toArray T2 (0,0)))
  (hi:i < n) (hm:0 < m) (hnc:n≤cap) (hroom:cap < n+m) (hcap:cap * 2≤vs.length) (hbig:(n+m) * 128≤140737488355328) (hul:us.length=m * 2) (hus:∀(j:Nat) (v:Value),us[j]? = some v→vs2[j]? = some v)
  (h1:∀v∈vs.take (n * 2),v.oneCell'=true) (h2:∀v∈us,v.oneCell'=true):
  Calls Tryz.prog 250 #[.slice (some ⟨g,0,none⟩) n cap,.int .i64 i,.slice (some ⟨vb,0,none⟩) m vc] w fun e w'=>
   e= .returned (.slice (some ⟨w.heap.size,0,none⟩) (n+m) (grownCap w (n+m) cap 114))∧
   w'=(((w.drew.alloc (.cells (vs.take (i * 2)++nE (n+m - i)++nE (grownCap w (n+m) cap 114 - (n+m))).toArray 114)).setRow w.heap.size (vs.take (i * 2)++us++(nE (n+m - i)++nE (grownCap w (n+m) cap 114 - (n+m))).drop (m * 2)).toArray).drew).setRow w.heap.size
    (vs.take (i * 2)++us++(vs.drop (i * 2)).take ((n - i) * 2)++(nE (n+m - i)++nE (grownCap w (n+m) cap 114 - (n+m))).drop ((n+m - i) * 2)).toArray:=by
 have hsz:(Tryz.prog.info? 114).map (·.size)=some 2:=by kernel_rfl
 obtain ⟨ti,hti,hzz⟩:=Option.map_eq_some_iff.1 (show (Tryz.prog.info? 114).map (fun i=>(i.zero,i.size,i.bytes))=some (some (Value.agg #[.int .i64 0,.slice none 0 0]),2,32) by kernel_rfl);simp only [gU] at hzz;obtain ⟨hz0,hz3,hz4⟩:=hzz;have hold:(Builtin.firstCells ti.size i (.slice (some ⟨g,0,none⟩) i cap)).run Tryz.prog w.drew= .ok (vs.take (i * 2)).toArray w.drew:=by
  rw [hz3];exact Hx w.drew 2 i ⟨g,0,none⟩ i cap (vs.take (i * 2)) (by rw [ay]; omega) (fun j v hj=>by
   rw [fq,je,gt w.drew g j vs.toArray T (0,0) hrow,bW];rw [aR] at hj;split at hj
   ·exact hj
   ·cases hj)
 obtain ⟨N,hN⟩:∃N,N=w.heap.size:=⟨_,rfl⟩;obtain ⟨Gc,hGc⟩:∃Gc,Gc=grownCap w (n+m) cap 114:=⟨_,rfl⟩;obtain ⟨Zs,hZs⟩:∃Zs,Zs=nE (n+m - i)++nE (Gc - (n+m)):=⟨_,rfl⟩;have hZl:Zs.length=(n+m - i) * 2+(Gc - (n+m)) * 2:=by rw [hZs,aA,oq,oq]
 obtain ⟨W2,hW2⟩:∃W2,W2=w.drew.alloc (.cells (vs.take (i * 2)++Zs).toArray 114):=⟨_,rfl⟩;have hkk:(n:Int)+(m:Int) - (i:Int)=((n+m - i:Nat):Int):=by omega
 have hrz:∀ty,(Builtin.append_ #[46,3] ty #[.slice (some ⟨g,0,none⟩) i cap,.int .i64 ((n:Int)+(m:Int) - (i:Int))]).run Tryz.prog w= .ok (.slice (some ⟨N,0,none⟩) (n+m) Gc) W2:=fun ty=>by
  have h:=Lib.run_append_grow_zeros (P:=Tryz.prog) w 46 3 ty 114 ti _ .i64 .i64 Tryz.underlying46 Tryz.underlying3 hti hz0 (some ⟨g,0,none⟩) i cap (vs.take (i * 2)) hold (n+m - i) (by omega) (by omega) (by omega) (by omega) (by rw [hz4]; omega) (by rw [hz4,show i+(n+m - i)=n+m by omega]; exact growslice_fits hroom (by omega));rw [show i+(n+m - i)=n+m by omega] at h;rw [hkk,hN,hGc,hW2,h,hZs,←hGc]
  congr 3
  rw [←aK];apply HV;simp [nE]
 have hNg:g < N:=by rw [hN]; exact (Array.getElem?_eq_some_iff.1 hrow).1
 have hNv:vb < N:=by rw [hN]; exact (Array.getElem?_eq_some_iff.1 hrow2).1
 have r2N:W2.heap[N]? = some (.cells (vs.take (i * 2)++Zs).toArray 114 (0,0)):=by
  rw [hW2,hN];exact CY w.drew _
 have r2g:W2.heap[g]? = some (.cells vs.toArray T (0,0)):=by
  rw [hW2,cg w.drew _ g (by rw [hN] at hNg; exact hNg)];exact hrow
 have r2v:W2.heap[vb]? = some (.cells vs2.toArray T2 (0,0)):=by
  rw [hW2,cg w.drew _ vb (by rw [hN] at hNv; exact hNv)];exact hrow2
 have ht:(vs.take (i * 2)).length=i * 2:=by rw [ay]; omega
 have hGe:n+m≤Gc:=by rw [hGc]; exact G5 w _ _ _
 obtain ⟨W3,hW3⟩:∃W3,W3=W2.setRow N (vs.take (i * 2)++us++Zs.drop (m * 2)).toArray:=⟨_,rfl⟩;have hcpA:∀ty dc,(Builtin.copy_ #[46,46] ty #[.slice (some ⟨N,i * 2,none⟩) (n+m - i) dc,.slice (some ⟨vb,0,none⟩) m vc]).run Tryz.prog W2= .ok (goInt m) W3:=fun ty dc=>by
  have:=sZ (Q:=Tryz.prog) W2 46 46 ty 114 N (i * 2) (n+m - i) dc ⟨vb,0,none⟩ m vc m 2 us _ 114 Tryz.underlying46 hsz (by simp only [AO]; split <;> omega) hul
   (fun j v hj=>by
    rw [fq,gt W2 vb (0+j) vs2.toArray T2 (0,0) r2v,bW,je];exact hus j v hj) r2N (by simp only [aA,ht,hZl]; omega) h2
  rw [hul,cZ (by omega),aC (by omega),←dm,List.drop_left' ht] at this;rw [hW3];exact this
 have r3N:W3.heap[N]? = some (.cells (vs.take (i * 2)++us++Zs.drop (m * 2)).toArray 114 (0,0)):=by
  rw [hW3];exact Ai W2 N _ _ _ (0,0) r2N
 have r3g:W3.heap[g]? = some (.cells vs.toArray T (0,0)):=by
  rw [hW3,Fm W2 N g _ (by omega)];exact r2g
 have hcpB:∀ty dc sc,(Builtin.copy_ #[46,46] ty #[.slice (some ⟨N,(i+m) * 2,none⟩) (n+m - (i+m)) dc,.slice (some ⟨g,i * 2,none⟩) (n - i) sc]).run Tryz.prog W3.drew= .ok (goInt ((n - i:Nat):Int)) (W3.drew.setRow N (vs.take (i * 2)++us++(vs.drop (i * 2)).take ((n - i) * 2)++Zs.drop ((n+m - i) * 2)).toArray):=fun ty dc sc=>by
  have hdl:((vs.drop (i * 2)).take ((n - i) * 2)).length=(n - i) * 2:=by rw [ay,br]; omega
  have hau:(vs.take (i * 2)++us).length=(i+m) * 2:=by rw [aA,ht,hul]; omega
  have:=sZ (Q:=Tryz.prog) W3.drew 46 46 ty 114 N ((i+m) * 2) (n+m - (i+m)) dc ⟨g,i * 2,none⟩ (n - i) sc (n - i) 2 ((vs.drop (i * 2)).take ((n - i) * 2)) _ 114 Tryz.underlying46 hsz (by simp only [AO]; split <;> omega) hdl
   (fun j v hj=>by
    rw [fq];rw [aR] at hj;split at hj
    ·rw [bK] at hj;rw [gt W3.drew g (i * 2+j) vs.toArray T (0,0) r3g,bW];exact hj
    ·cases hj) r3N (by rw [hdl,aA,hau,br,hZl]; omega) (fun v hv=>h1 v (by rw [show (n - i) * 2=n * 2 - i * 2 by omega,←iq] at hv; exact fF hv))
  rw [hdl] at this;rw [this]
  congr 3
  rw [←hau,DB,←dm,kw,dm,show m * 2+(n - i) * 2=(n+m - i) * 2 by omega]
 have hN2:w.heap.size=N:=hN.symm;have hG2:grownCap w (n+m) cap 114=Gc:=hGc.symm;rw [hG2,←hZs,show vs.take (i * 2)++nE (n+m - i)++nE (Gc - (n+m))=vs.take (i * 2)++Zs by rw [hZs,aK],hN2,←hW2,←hW3];have hG63:Gc≤9223372036854775807:=by
  have:=xo w (n+m) cap 114 (by unfold maxLen; omega);rw [←hGc] at this;unfold maxLen at this;omega
 have hGi:¬(Gc=i):=by omega
 have hGim:¬(Gc=i+m):=by omega
 have hci:¬(cap=i):=by omega
 have hw1:IntKind.i64.wrap ((i:Int)+(m:Int))=(i:Int)+(m:Int):=by rw [Ad]; omega
 have hb1:(0:Int)≤(i:Int)+(m:Int):=by omega
 have hin:i≤n:=by omega
 have htn:((i:Int)+(m:Int)).toNat=i+m:=by omega
 have hb3:(i:Int)≤(n:Int):=by omega
 have hz1:¬((m:Int)=0):=by omega
 have hz2:¬((i:Int)=(n:Int)):=by omega
 have hz5:(cap:Int) < (n:Int)+(m:Int):=by omega
 have mixed:Tryz.prog.follows Departure.mixedOrders=true:=by kernel_rfl
 clear hkk hold hZs hZl hW2 hW3 r2N r2g r2v r3N r3g hN hN2 hG2 hGc ht hti hz0 hz3 hz4 h1 h2 hus hul hNg hNv hrow hrow2
 go_enter Tryz.func250,Tryz.ntmps250
 go_wp2_with (first
  | (at_builtin; refine Lib.wpList_append_run _ rfl _ _ _ _ rfl _ _ rfl rfl _ _ (hrz _) ?_)
  | (at_builtin; refine wpList_copy_runI _ rfl _ _ 46 46 rfl _ _ rfl rfl (hcpA _ _) ?_))
 go_region_law_o (refine step_copy_runI rfl _ _ 46 46 rfl (.slice (some ⟨N,(i+m) * 2,none⟩) (n+m - (i+m)) (Gc - (i+m))) (.slice (some ⟨g,i * 2,none⟩) (n - i) (cap - i)) (by simp [Act.eval,Act.put]) (by simp [Act.eval,Act.put]) (hcpB _ _ _) ?_)
 go_wp2
 go_ret
 exact ⟨rfl,by simp only [aK]⟩
section
variable {c c':Cx} {α:Type} {R:Rp α}
theorem _root_.Go.Lt.AR.take {vs:List Value} {xs:List α} (h:AR R c vs xs) (k:Nat):AR R c (vs.take (k * R.size)) (xs.take k):=fun i x hx=>by
 rw [aR] at hx;split at hx
 ·rename_i hik
  have hm:=jJ (s:=R.size) hik;rw [iq,fh,cz (by omega)];exact h i x hx
 ·cases hx
theorem _root_.Go.Lt.AR.drop {vs:List Value} {xs:List α} (h:AR R c vs xs) (k:Nat):AR R c (vs.drop (k * R.size)) (xs.drop k):=fun i x hx=>by
 rw [bK] at hx;rw [dm,←ip];exact h _ x hx
theorem _root_.Go.Lt.AR.more {vs ts:List Value} {xs:List α} (h:AR R c vs xs) (hl:xs.length * R.size≤vs.length):AR R c (vs++ts) xs:=fun i x hx=>by
 have hi:=(List.getElem?_eq_some_iff.1 hx).1;have hm:=jJ (s:=R.size) hi;rw [jk (by omega)];exact h i x hx
theorem _root_.Go.Lt.AR.app {vs us:List Value} {xs ys:List α} (h:AR R c vs xs) (hl:vs.length=xs.length * R.size) (k:AR R c us ys):AR R c (vs++us) (xs++ys):=fun i x hx=>by
 rw [fH] at hx;split at hx
 ·rename_i hi
  have hm:=jJ (s:=R.size) hi;rw [jk (by omega)];exact h i x hx
 ·rename_i hi
  rw [show i * R.size=vs.length+(i - xs.length) * R.size by rw [hl,←ip]; congr 1; omega,←dm,kw];exact k _ x hx
theorem _root_.Go.Lt.AR.ones {vs:List Value} {xs:List α} (h:AR R c vs xs) (hp:0 < R.size):∀v∈vs.take (xs.length * R.size),v.oneCell'=true:=fun v hv=>by
 obtain ⟨j,hj⟩:=List.mem_iff_getElem?.1 hv;rw [aR] at hj;split at hj
 ·rename_i hlt
  have hq:j / R.size < xs.length:=by rw [Nat.div_lt_iff_lt_mul hp]; exact hlt
  have hc:=h _ _ (ah hq);refine R.one hc v (List.mem_iff_getElem?.2 ⟨j % R.size,?_⟩);rw [aR,ae (HQ _ hp),bK,Nat.mul_comm,Nat.div_add_mod];exact hj
 ·cases hj
end
def jK (p0:List ab) (p1:Int) (p2:List ab):Option (List ab):=if 0≤p1∧p1 < p0.length∧1≤p2.length∧p0.length+p2.length≤far then some (p0.take p1.toNat++p2++p0.drop p1.toNat) else none
theorem _root_.Go.Lt.OA.some {c:Cx} {α:Type} {R:Rp α} {v:Value} {vs:List Value} {xs:List α} (h:OA R c v vs xs) (hn:1≤xs.length):∃g cap,v= .slice (some ⟨g,0,none⟩) xs.length cap∧xs.length≤cap∧cap≤maxLen∧cap * R.size≤vs.length∧AR R c vs xs:=by
 rcases h.2.1 with ⟨_,rfl⟩ | ⟨g,cap,h1,h2,h3,h4⟩
 ·simp at hn
 ·exact ⟨g,cap,h1,h2,h3,h4,h.2.2⟩
theorem uw {c0:Cx} {G:Gm} {F:List En} {v0 v2:Value} {u0 u2:List Value} (p0:List ab) (p1:Int) (p2:List ab) (O0:Own c0 G (es true ag v0 114 u0 p0 :: es true ag v2 114 u2 p2 :: F)) (h0:OA ag c0 v0 u0 p0) (h2:OA ag c0 v2 u2 p2) {r:List ab} (H:jK p0 p1 p2=some r): Calls Tryz.prog 250 #[v0,.int .i64 p1,v2] c0.w (aO c0 fun c v=>∃y1:Value,∃y2:List Value,Own c G (es true ag y1 114 y2 r :: F)∧v=y1∧OA ag c y1 y2 r):=by
 unfold jK at H;split at H
 ·rename_i hc;obtain ⟨hc1,hc2,hc3,hc4⟩:=hc;obtain ⟨i,rfl⟩:∃i:Nat,p1=(i:Int):=⟨p1.toNat,by omega⟩;rw [bT] at H;obtain rfl:=bm H;obtain ⟨g,cap,rfl,a1,a2,a3,a4⟩:=h0.some (by omega);obtain ⟨vb,vc,rfl,b1,b2,b3,b4⟩:=h2.some hc3;have hsz:ag.size=2:=rfl;have hon0:=O0.on 0 rfl g rfl;have hon2:=O0.on 1 rfl vb rfl;have hne:vb≠g:=fun e=>O0.m.2 (.inl 0) (.inl 1) _ _ rfl rfl (by simp) g rfl (by rw [←e]; rfl);have o0:=a4.ones (by decide);have o2:=b4.ones (by decide);rw [hsz] at o0 o2 a3 b3;unfold maxLen at a2 b2;unfold far at hc4;have ht0:(u0.take (i * 2)).length=i * 2:=by rw [ay]; omega
  have ht2:(u2.take (p2.length * 2)).length=p2.length * 2:=by rw [ay]; omega
  have htl:((u0.drop (i * 2)).take ((p0.length - i) * 2)).length=(p0.length - i) * 2:=by rw [ay,br]; omega
  have hus:∀(j:Nat) (v:Value),(u2.take (p2.length * 2))[j]? = some v→u2[j]? = some v:=fun j v hj=>by
   rw [aR] at hj;split at hj
   ·exact hj
   ·cases hj
  have hAR:∀(c:Cx) (ts:List Value),c0.le c→AR ag c (u0.take (i * 2)++u2.take (p2.length * 2)++(u0.drop (i * 2)).take ((p0.length - i) * 2)++ts) (p0.take i++p2++p0.drop i):=fun c ts hle=>by
   have k0:AR ag c (u0.take (i * 2)) (p0.take i):=(a4.take i).mono hle;have k2:AR ag c (u2.take (p2.length * 2)) p2:=by
    have:=(b4.take p2.length).mono hle;rwa [aC (az p2.length)] at this
   have k1:AR ag c ((u0.drop (i * 2)).take ((p0.length - i) * 2)) (p0.drop i):=by
    have:=((a4.drop i).take (p0.length - i)).mono hle;rwa [aC (l:=p0.drop i) (by rw [br]; exact az _)] at this
   refine AR.more (AR.app (AR.app k0 ?_ k2) ?_ k1) ?_
   ·rw [ht0,ay,cz (by omega),hsz]
   ·rw [aA,ht0,ht2,aA,ay,cz (by omega),hsz,ip]
   ·simp only [aA];rw [ht0,ht2,htl,ay,br,cz (by omega),hsz];omega
  have hrl:(p0.take i++p2++p0.drop i).length=p0.length+p2.length:=by
   rw [aA,aA,ay,br];omega
  rcases aN cap (p0.length+p2.length) with hg | hg
  ·refine (CW (vs:=u0) (us:=u2.take (p2.length * 2)) (vs2:=u2) hon0.1 hon2.1 (by omega) (by omega) a1 hg a3 (by omega) ht2 hus o0 o2).mono ?_;rintro e w' ⟨rfl,rfl⟩;obtain ⟨Gc,hGc⟩:∃Gc,Gc=grownCap c0.w (p0.length+p2.length) cap 114:=⟨_,rfl⟩;have hGe:p0.length+p2.length≤Gc:=by rw [hGc]; exact G5 _ _ _ _
   have hGm:Gc≤maxLen:=by rw [hGc]; exact xo _ _ _ _ (by unfold maxLen; omega)
   rw [←hGc];obtain ⟨Zs,hZs⟩:∃Zs,Zs=nE (p0.length+p2.length - i)++nE (Gc - (p0.length+p2.length)):=⟨_,rfl⟩;have hZl:Zs.length=(p0.length+p2.length - i) * 2+(Gc - (p0.length+p2.length)) * 2:=by rw [hZs,aA,oq,oq]
   rw [aK (u0.take (i * 2)),←hZs];have hd:=Cx.drew_le c0;obtain ⟨c1,e1,e2,e3,e4,e5⟩:=Cx.new ⟨c0.w.drew,c0.A,c0.t⟩ (u0.take (i * 2)++Zs) 114 0;have O1:=Own.cons (O0.keep hd) e2 (fun _=>id) (e:=⟨.slice (some ⟨c0.w.heap.size,0,none⟩) (p0.length+p2.length) Gc,114,u0.take (i * 2)++Zs,0⟩) (fun b hb=>by
    simp only [blk,aQ] at hb;subst hb;exact ⟨e3,e5⟩) (fun b hb=>by
    simp only [blk,aQ] at hb;subst hb;exact az _)
   obtain ⟨c2,f1,f2,f3,f4⟩:=Cx.row (m:=u0.take (i * 2)++u2.take (p2.length * 2)++Zs.drop (p2.length * 2)) e3 0 e5 (fun o ho=>by omega) 0 (az _);have O2:=Own.set O1 0 rfl f2 (fun b hb=>by rw [hb]; rfl) (e':=⟨.slice (some ⟨c0.w.heap.size,0,none⟩) (p0.length+p2.length) Gc,114,u0.take (i * 2)++u2.take (p2.length * 2)++Zs.drop (p2.length * 2),0⟩) (fun b hb=>by
    simp only [blk,aQ] at hb;subst hb;exact ⟨f3,f4⟩) (fun b hb=> .inl hb)
   have hd2:=Cx.drew_le c2;obtain ⟨c3,g1,g2,g3,g4⟩:=Cx.row (c:=⟨c2.w.drew,c2.A,c2.t⟩) (m:=u0.take (i * 2)++u2.take (p2.length * 2)++(u0.drop (i * 2)).take ((p0.length - i) * 2)++Zs.drop ((p0.length+p2.length - i) * 2)) (T:=114) (b:=c0.w.heap.size) f3 0 f4 (fun o ho=>by omega) 0 (az _);have O3:=Own.set (O2.keep hd2) 0 rfl g2 (fun b hb=>by rw [hb]; rfl) (e':=es true ag (.slice (some ⟨c0.w.heap.size,0,none⟩) (p0.length+p2.length) Gc) 114 (u0.take (i * 2)++u2.take (p2.length * 2)++(u0.drop (i * 2)).take ((p0.length - i) * 2)++Zs.drop ((p0.length+p2.length - i) * 2)) (p0.take i++p2++p0.drop i)) (fun b hb=>by
    simp only [es,blk,aQ] at hb;subst hb;exact ⟨g3,g4⟩) (fun b hb=> .inl hb)
   have hle:=hd.le.trans (e2.le.trans (f2.le.trans (hd2.le.trans g2.le)));have O4:=O3.selD 3 [0] (by kernel_rfl) (by kernel_rfl);refine ⟨_,c3,rfl,by rw [g1]; show _=(c2.w.drew).setRow _ _; rw [f1,e1]; rfl,hle,_,_,O4,rfl,by decide,.inr ⟨_,Gc,by rw [hrl],by rw [hrl]; exact hGe,hGm,?_⟩,hAR c3 _ hle⟩;rw [hsz,aA,aA,aA,ht0,ht2,htl,br,hZl];omega
  ·refine (Bx (vs:=u0) (us:=u2.take (p2.length * 2)) (vs2:=u2) hon0.1 hon2.1 (by omega) (by omega) hg a3 a2 hne ht2 hus o0 o2).mono ?_;rintro e w' ⟨rfl,rfl⟩;have hd:=Cx.drew_le c0;obtain ⟨c2,f1,f2,f3,f4⟩:=Cx.row (c:=⟨c0.w.drew,c0.A,c0.t⟩) (l:=u0) (T:=114) (b:=g) (m:=u0.take ((i+p2.length) * 2)++(u0.drop (i * 2)).take ((p0.length - i) * 2)++u0.drop ((p0.length+p2.length) * 2)) hon0.1 0 hon0.2 (fun o ho=>by omega) 0 (az _);have O2:=Own.set (O0.keep hd) 0 rfl f2 (fun b hb=>by rw [hb]; rfl) (e':=⟨.slice (some ⟨g,0,none⟩) p0.length cap,114,u0.take ((i+p2.length) * 2)++(u0.drop (i * 2)).take ((p0.length - i) * 2)++u0.drop ((p0.length+p2.length) * 2),0⟩) (fun b hb=>by
    simp only [blk,aQ] at hb;subst hb;exact ⟨f3,f4⟩) (fun b hb=> .inl hb)
   obtain ⟨c3,g1,g2,g3,g4⟩:=Cx.row (c:=c2) (m:=u0.take (i * 2)++u2.take (p2.length * 2)++(u0.drop (i * 2)).take ((p0.length - i) * 2)++u0.drop ((p0.length+p2.length) * 2)) (T:=114) (b:=g) f3 0 f4 (fun o ho=>by omega) 0 (az _);have O3:=Own.set O2 0 rfl g2 (fun b hb=>by rw [hb]; rfl) (e':=es true ag (.slice (some ⟨g,0,none⟩) (p0.length+p2.length) cap) 114 (u0.take (i * 2)++u2.take (p2.length * 2)++(u0.drop (i * 2)).take ((p0.length - i) * 2)++u0.drop ((p0.length+p2.length) * 2)) (p0.take i++p2++p0.drop i)) (fun b hb=>by
    simp only [es,blk,aQ] at hb;subst hb;exact ⟨g3,g4⟩) (fun b hb=> .inl hb)
   have hle:=hd.le.trans (f2.le.trans g2.le);have O4:=O3.selD 2 [0] (by kernel_rfl) (by kernel_rfl);refine ⟨_,c3,rfl,by rw [g1,f1],hle,_,_,O4,rfl,by decide,.inr ⟨g,cap,by rw [hrl],by rw [hrl]; exact hg,by unfold maxLen; exact a2,?_⟩,hAR c3 _ hle⟩;rw [hsz,aA,aA,aA,ht0,ht2,htl,br];omega
 ·cases H
theorem CX (k:Nat):∀v∈nE k,v.oneCell'=true:=fun v hv=>by
 unfold nE Builtin.zeroCells at hv;simp only [Ii,List.mem_map] at hv;obtain ⟨a,_,rfl⟩:=hv;have h2:(Value.agg #[.int .i64 0,.slice none 0 0]).cells= #[.int .i64 0,.slice none 0 0]:=rfl;rw [h2];show (#[Value.int .i64 0,Value.slice none 0 0][a % 2]!).oneCell'=true;rcases Nat.mod_two_eq_zero_or_one a with h | h <;> rw [h] <;> rfl
theorem sE {P:Program} {ops:Array Oper} {o:Oper} {a:Act} {w:World} {K:Act→World→Prop} {Q:Exit→Act→World→Prop} {E:Prop}
  (hg:o.guard=none) (d x:Operand) (dT sT:TypeId) (hop:o.op=Op.call { callee:=Callee.builtin Builtin.append,args:= #[d,x],argTypes:= #[dT,sT]})
  (v u:Value) (hd:a.eval d=v) (hx:a.eval x=u) {v':Value} {w':World} (hr:(Builtin.append_ #[dT,sT] o.type #[v,u]).run P w= .ok v' w') (hK:K (a.put o.dst v') w'):
  if Region.wanted o (yielded ops a.tmps)=true then Oper.wp P o a w K Q else E:=by
 have hw:Region.wanted o (yielded ops a.tmps)=true:=by simp [Region.wanted,hg]
 rw [ae hw];unfold Oper.wp;simp [execOp,hop,resolve,invoke,builtin,hd,hx,hr,Result.andThen];exact hK
theorem sw {P:Program} (w:World) {ops:Array Oper} {rest:List Oper} {o:Oper} {a:Act} {Q:Exit→Act→World→Prop} (hgd:o.guard=none) (d:Operand) (t:TypeId)
  (ho:o.op= .call { callee:= .builtin .clear,args:= #[d],argTypes:= #[t]}) (v:Value) (hd:a.eval d=v) {v':Value} {w':World}
  (hr:(Builtin.clear_ #[t] o.type #[v]).run P w= .ok v' w') (h:wpList P ops Q rest (a.put o.dst v') w'):wpList P ops Q (o :: rest) a w:=
 wpList_plain hgd fun _ hK=>by
  unfold Oper.wp execOp;simp only [ho,resolve,invoke,builtin,fm,qd,ny,List.map_toArray,ss,Gj,hd,hr];exact hK _ _ h
theorem BG {Q:Program} (w:World) (t ty E:TypeId) (g o k c:Nat) (z:Value) (vs:List Value) (T:TypeId) (hk:k≠0)
  (hu:Q.underlying t=some (.slice E)) (hz:∀w,(zeroValue E).run Q w= .ok z w) (hrow:w.heap[g]? = some (.cells vs.toArray T (0,0))) (hl:o+(Builtin.zeroCells z.cells k).toList.length≤vs.length) (h1:∀v∈(Builtin.zeroCells z.cells k).toList,v.oneCell'=true):
  (Builtin.clear_ #[t] ty #[.slice (some ⟨g,o,none⟩) k c]).run Q w= .ok (.tuple #[]) (w.setRow g (vs.take o++(Builtin.zeroCells z.cells k).toList++vs.drop (o+(Builtin.zeroCells z.cells k).toList.length)).toArray):=by
 have hst:=yb Q g o T (Builtin.zeroCells z.cells k).toList 0 vs.toArray w hrow (by simpa using hl) h1;simp only [qf] at hst
 cases k with
 | zero=>exact absurd rfl hk
 | succ k=>
  simp [Builtin.clear_,bM hu,hz,hst]
set_option maxHeartbeats 4000000 in
set_option maxRecDepth 100000 in
theorem EB {w:World} {g n cap i j:Nat} {vs:List Value} (hrow:w.heap[g]? = some (.cells vs.toArray 114 (0,0)))
  (hij:i < j) (hjn:j≤n) (hnc:n≤cap) (hcap:cap * 2≤vs.length) (hc63:cap≤9223372036854775807) (h1:∀v∈vs.take (n * 2),v.oneCell'=true):
  Calls Tryz.prog 253 #[.slice (some ⟨g,0,none⟩) n cap,.int .i64 i,.int .i64 j] w fun e w'=>
   e= .returned (.slice (some ⟨g,0,none⟩) (i+(n - j)) cap)∧w'=(w.drew.setRow g (vs.take (i * 2)++(vs.drop (j * 2)).take ((n - j) * 2)++vs.drop ((i+(n - j)) * 2)).toArray).setRow g
    (vs.take (i * 2)++(vs.drop (j * 2)).take ((n - j) * 2)++nE (j - i)++vs.drop (n * 2)).toArray:=by
 obtain ⟨ti,hti,hzz⟩:=Option.map_eq_some_iff.1 (show (Tryz.prog.info? 114).map (fun i=>i.size)=some 2 by kernel_rfl);have hul:((vs.drop (j * 2)).take ((n - j) * 2)).length=(n - j) * 2:=by rw [ay,br]; omega
 have ht:(vs.take (i * 2)).length=i * 2:=by rw [ay]; omega
 obtain ⟨W1,hW1⟩:∃W1,W1=w.drew.setRow g (vs.take (i * 2)++(vs.drop (j * 2)).take ((n - j) * 2)++vs.drop ((i+(n - j)) * 2)).toArray:=⟨_,rfl⟩;have hap:∀ty a k,(∀x v,((vs.drop (j * 2)).take ((n - j) * 2))[x]? = some v→w.drew.cell? (a.add x)=some v)→
   (Builtin.append_ #[46,46] ty #[.slice (some ⟨g,0,none⟩) i cap,.slice (some a) (n - j) k]).run Tryz.prog w.drew= .ok (.slice (some ⟨g,0,none⟩) (i+(n - j)) cap) W1:=fun ty a k hx=>by
  have:=Ik (P:=Tryz.prog) w.drew 46 ty 114 ti Tryz.underlying46 hti g i cap vs.toArray hrow a (n - j) k ((vs.drop (j * 2)).take ((n - j) * 2)) (by rw [hul,hzz]) hx (fun v hv=>h1 v (by rw [show (n - j) * 2=n * 2 - j * 2 by omega,←iq] at hv; exact fF hv)) (by omega) (by rw [hzz,hul]; simp; omega);rw [this,hW1,hzz,hul];simp only [List.toList_toArray,rN];rw [show i * 2+(n - j) * 2=(i+(n - j)) * 2 by omega]
 have hr1:W1.heap[g]? = some (.cells (vs.take (i * 2)++(vs.drop (j * 2)).take ((n - j) * 2)++vs.drop ((i+(n - j)) * 2)).toArray 114 (0,0)):=by
  rw [hW1];exact Ai w.drew g vs.toArray _ 114 (0,0) hrow
 have hau:(vs.take (i * 2)++(vs.drop (j * 2)).take ((n - j) * 2)).length=(i+(n - j)) * 2:=by rw [aA,ht,hul]; omega
 have hcl:∀ty c,(Builtin.clear_ #[46] ty #[.slice (some ⟨g,(i+(n - j)) * 2,none⟩) (n - (i+(n - j))) c]).run Tryz.prog W1= .ok (.tuple #[]) (W1.setRow g (vs.take (i * 2)++(vs.drop (j * 2)).take ((n - j) * 2)++nE (j - i)++vs.drop (n * 2)).toArray):=fun ty c=>by
  have hzl:=oq (j - i);unfold nE at hzl;have:=BG (Q:=Tryz.prog) W1 46 ty 114 g ((i+(n - j)) * 2) (j - i) c (Value.agg #[.int .i64 0,.slice none 0 0]) _ 114 (by omega) Tryz.underlying46 (fun w=>by kernel_rfl) hr1 (by rw [hzl,aA,hau,br]; omega) (fun v hv=>by
   exact CX _ v hv)
  rw [hzl] at this;rw [show n - (i+(n - j))=j - i by omega,this]
  congr 3
  rw [←hau,DB,←dm,kw,dm,hau,show (i+(n - j)) * 2+(j - i) * 2=n * 2 by omega];rfl
 have hcell:∀(x:Nat) (v:Value),((vs.drop (j * 2)).take ((n - j) * 2))[x]? = some v→w.drew.cell? ((⟨g,j * 2,none⟩:Addr).add x)=some v:=fun x v hx=>by
  rw [fq];rw [aR] at hx;split at hx
  ·rw [bK] at hx;rw [gt w.drew g (j * 2+x) vs.toArray 114 (0,0) hrow,bW];exact hx
  ·cases hx
 have hnil:cap=j→∀(x:Nat) (v:Value),((vs.drop (j * 2)).take ((n - j) * 2))[x]? = some v→w.drew.cell? ((⟨g,0,none⟩:Addr).add x)=some v:=fun e x v hx=>by
  rw [show (n - j) * 2=0 by omega,ez] at hx;cases hx
 have hWW:cap=j→W1=w.drew:=fun e=>by
  rw [hW1,show n - j=0 by omega,tZ,ez,eB,qf,gM];exact setRow_self w.drew g vs.toArray _ (0,0) hrow
 have hap1:=fun ty k=>hap ty ⟨g,j * 2,none⟩ k hcell;have hap2:=fun (e:cap=j) ty k=>hap ty ⟨g,0,none⟩ k (hnil e);rw [←hW1];have hmixed:Tryz.prog.follows Departure.mixedOrders=true:=by kernel_rfl
 have z1:¬((i:Int)=(j:Int)):=by omega
 have z2:(0:Int)≤(i:Int):=by omega
 have z3:(i:Int)≤(j:Int):=by omega
 have z4:(j:Int)≤(n:Int):=by omega
 have z5:¬(cap=i+(n - j)):=by omega
 have z6:i≤cap:=by omega
 have z7:j≤cap:=by omega
 have z8:i+(n - j)≤n:=by omega
 have z9:n≤cap:=hnc;have z10:¬(n=i):=by omega
 clear hW1 hul ht hr1 hau hap hcell hnil h1 hti hzz hcap hrow
 by_cases hcj:cap=j
 ·have hap3:=hap2 hcj
  clear hap1 hap2 hWW
  subst hcj;obtain rfl:n=cap:=by omega
  simp only [nB,qf,tZ,ez,eB] at hap3 hcl z5⊢
  go_enter Tryz.func253,Tryz.ntmps253
  go_wp2_with fail
  go_region_law_o (refine sE rfl (.tmp 22) (.tmp 25) 46 46 rfl (.slice (some ⟨g,0,none⟩) i n) (.slice (some ⟨g,0,none⟩) 0 0) (by simp [Act.eval,Act.put]) (by simp [Act.eval,Act.put]) (hap3 _ _) ?_)
  go_wp2_with (at_builtin; refine sw _ rfl _ 46 rfl _ rfl (hcl _ _) ?_)
  go_ret
  exact ⟨rfl,by simp only [aK]⟩
 ·clear hap2 hWW
  go_enter Tryz.func253,Tryz.ntmps253
  go_wp2_with fail
  go_region_law_o (refine sE rfl (.tmp 22) (.tmp 25) 46 46 rfl (.slice (some ⟨g,0,none⟩) i cap) (.slice (some ⟨g,j * 2,none⟩) (n - j) (cap - j)) (by simp [Act.eval,Act.put]) (by simp [Act.eval,Act.put]) (hap1 _ _) ?_)
  go_wp2_with (at_builtin; refine sw _ rfl _ 46 rfl _ rfl (hcl _ _) ?_)
  go_ret
  exact ⟨rfl,by simp only [aK]⟩
def jL (p0:List ab) (p1 p2:Int):Option (List ab):=if 0≤p1∧p1 < p2∧p2≤p0.length then some (p0.take p1.toNat++p0.drop p2.toNat) else none
theorem ux {c0:Cx} {G:Gm} {F:List En} {v0:Value} {u0:List Value} (p0:List ab) (p1 p2:Int) (O0:Own c0 G (es true ag v0 114 u0 p0 :: F)) (h0:OA ag c0 v0 u0 p0) {r:List ab} (H:jL p0 p1 p2=some r): Calls Tryz.prog 253 #[v0,.int .i64 p1,.int .i64 p2] c0.w (aO c0 fun c v=>∃y1:Value,∃y2:List Value,Own c G (es true ag y1 114 y2 r :: F)∧v=y1∧OA ag c y1 y2 r):=by
 unfold jL at H;split at H
 ·rename_i hc;obtain ⟨hc1,hc2,hc3⟩:=hc;obtain ⟨i,rfl⟩:∃i:Nat,p1=(i:Int):=⟨p1.toNat,by omega⟩;obtain ⟨j,rfl⟩:∃j:Nat,p2=(j:Int):=⟨p2.toNat,by omega⟩;rw [bT,bT] at H;obtain rfl:=bm H;obtain ⟨g,cap,rfl,a1,a2,a3,a4⟩:=h0.some (by omega);have hsz:ag.size=2:=rfl;have hon0:=O0.on 0 rfl g rfl;have o0:=a4.ones (by decide);rw [hsz] at o0 a3;unfold maxLen at a2;have ht0:(u0.take (i * 2)).length=i * 2:=by rw [ay]; omega
  have htl:((u0.drop (j * 2)).take ((p0.length - j) * 2)).length=(p0.length - j) * 2:=by rw [ay,br]; omega
  have hrl:(p0.take i++p0.drop j).length=i+(p0.length - j):=by
   rw [aA,ay,br];omega
  have hAR:∀(c:Cx) (ts:List Value),c0.le c→AR ag c (u0.take (i * 2)++(u0.drop (j * 2)).take ((p0.length - j) * 2)++ts) (p0.take i++p0.drop j):=fun c ts hle=>by
   have k0:AR ag c (u0.take (i * 2)) (p0.take i):=(a4.take i).mono hle;have k1:AR ag c ((u0.drop (j * 2)).take ((p0.length - j) * 2)) (p0.drop j):=by
    have:=((a4.drop j).take (p0.length - j)).mono hle;rwa [aC (l:=p0.drop j) (by rw [br]; exact az _)] at this
   refine AR.more (AR.app k0 ?_ k1) ?_
   ·rw [ht0,ay,cz (by omega),hsz]
   ·rw [hrl,hsz,aA,ht0,htl];omega
  refine (EB (vs:=u0) hon0.1 (by omega) (by omega) a1 a3 (by omega) o0).mono ?_;rintro e w' ⟨rfl,rfl⟩;have hd:=Cx.drew_le c0;obtain ⟨c2,f1,f2,f3,f4⟩:=Cx.row (c:=⟨c0.w.drew,c0.A,c0.t⟩) (l:=u0) (T:=114) (b:=g) (m:=u0.take (i * 2)++(u0.drop (j * 2)).take ((p0.length - j) * 2)++u0.drop ((i+(p0.length - j)) * 2)) hon0.1 0 hon0.2 (fun o ho=>by omega) 0 (az _);have O2:=Own.set (O0.keep hd) 0 rfl f2 (fun b hb=>by rw [hb]; rfl) (e':=⟨.slice (some ⟨g,0,none⟩) p0.length cap,114,u0.take (i * 2)++(u0.drop (j * 2)).take ((p0.length - j) * 2)++u0.drop ((i+(p0.length - j)) * 2),0⟩) (fun b hb=>by
   simp only [blk,aQ] at hb;subst hb;exact ⟨f3,f4⟩) (fun b hb=> .inl hb)
  obtain ⟨c3,g1,g2,g3,g4⟩:=Cx.row (c:=c2) (m:=u0.take (i * 2)++(u0.drop (j * 2)).take ((p0.length - j) * 2)++nE (j - i)++u0.drop (p0.length * 2)) (T:=114) (b:=g) f3 0 f4 (fun o ho=>by omega) 0 (az _);have O3:=Own.set O2 0 rfl g2 (fun b hb=>by rw [hb]; rfl) (e':=es true ag (.slice (some ⟨g,0,none⟩) (i+(p0.length - j)) cap) 114 (u0.take (i * 2)++(u0.drop (j * 2)).take ((p0.length - j) * 2)++nE (j - i)++u0.drop (p0.length * 2)) (p0.take i++p0.drop j)) (fun b hb=>by
   simp only [es,blk,aQ] at hb;subst hb;exact ⟨g3,g4⟩) (fun b hb=> .inl hb)
  have hle:=hd.le.trans (f2.le.trans g2.le);refine ⟨_,c3,rfl,by rw [g1,f1],hle,_,_,O3,rfl,by decide,.inr ⟨g,cap,by rw [hrl],by rw [hrl]; omega,by unfold maxLen; exact a2,?_⟩,?_⟩
  ·rw [hsz,aA,aA,aA,ht0,htl,oq,br];omega
  ·rw [aK];exact hAR c3 _ hle
 ·cases H
end Go.Proofs.YtclmdpamofdoiaaGreatDoor
