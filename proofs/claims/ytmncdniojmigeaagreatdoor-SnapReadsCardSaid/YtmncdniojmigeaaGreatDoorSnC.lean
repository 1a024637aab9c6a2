/- Parts of the proofs of SnapReads, SnapTells, SnapSpoilt: the walk through the code, and plain Lean. No condition. -/
import Derived.Test.YtmncdniojmigeaaGreatDoorSnA
import Derived.Test.YtmncdniojmigeaaGreatDoorProg
import Derived.Test.YtmncdniojmigeaaGreatDoorSnB
import Derived.OpenShut
import Derived.LaidLaws
import Derived.Handed
import Derived.Lay
import Derived.JoinedOf
import Derived.KernelRfl
import Derived.Shelf.Vars
import Derived.ChangeMaps5
import Derived.Lib.SplitLaws
import Derived.Lib.Atoi
import Derived.Lib.ItoaNum
set_option linter.unusedVariables false
set_option linter.unusedSimpArgs false
namespace Go.Proofs.YtmncdniojmigeaaGreatDoor
open Go Go.Lt
set_option maxRecDepth 10000
set_option linter.unusedVariables false
attribute [local irreducible] W WL AC
open Tryz
variable {c0:Cx} {G:Gm} {F:List En} {sg:Sto} {v1 v2 v3 v4 v5 v6 v7 v8 v9 v10 v11 v12 v13 v14 v15 v16 v17 v18 v19 v20 v21 v22 v23 v24 v25 v26 v27 v28 v29 v30 v31 v32 v33 v34 v35 v36 v37 v38 v39 v40 v41 v42 v43 v44 v45 v46 v47 v48 v49 v50 v51 v52 v53 v54 v55 v56 v57 v58 v59 v60:Value}
def cm (sg:Sto) (p0:ByteArray):Option (Sto×Bool):=
 (bv).bind fun v=>
 (orE (!v) (some (decide ((bN p0) > 20000)))).bind fun u=>
 if u=true then
 (bv).bind fun p=>
 some (sg,p)
 else
 (fi sg p0).bind fun a=>
 if a.2.2.isNil=true then
 (bT a.2.1).bind fun q=>
 (cj q ((ce a.2.1).bind fun r=>
 some (eqS r p0))).bind fun h=>
 some (a.1,h)
 else
 (ed (σ:=Int×Int) (τ:=Int) (((bN p0) - 0).toNat+1) (fun b=>
 if (decide (b.2 < (bN p0)))=true then
 ((gg p0 b.2).bind fun s=>
 if (s==10)=true then
 some ((w64 (b.1+1)))
 else
 some (b.1)).bind fun t=>
 some (.inl (t,(w64 (b.2+1))))
 else
 some (.inr (b.1))) (0,0)).bind fun o=>
 (iK a.2.2).bind fun d=>
 (gv a.2.2).bind fun c=>
 (orE ((a.2.1.Lines.length:Int) != 0) (some (a.2.1.Wide != 0))).bind fun i=>
 (orE i (some (decide (d < 0)))).bind fun j=>
 (orE j (some (decide (d > o)))).bind fun k=>
 (orE k ((cj (c != 2) (some (c != 5))).bind fun m=>
 (cj m (some (c != 6))).bind fun n=>
 some n)).bind fun l=>
 if l=true then
 some (a.1,false)
 else
 (fB a.2.2).bind fun g=>
 (cj ((c==6)==(decide (g≥0))) ((orE (c != 5) (some (decide (d≥3)))).bind fun f=>
 some f)).bind fun e=>
 some (a.1,e)
theorem iu (O0:Own c0 G F) (R0:Rel c0 sg G) (hG:Gl [0,1,2,3,4,5,6,7] c0) (hB:Tb6 c0) (hU:Eh c0) (hT:Et c0) (j:ByteArray) {r:Sto×Bool} (H:cm sg j=some r): Calls prog 7 #[.string j] c0.w (aX c0 fun c v=>∃G_:Gm,Own c G_ (F)∧Rel c r.1 G_∧v=B r.2):=by
 unfold cm at H;refine en func7 rfl rfl (sr (va (B false) (wln (W.seq (W.seq (bn H fun t1 h1 H=>bn H fun k3 h2 H=>W.join (Jn c0 fun c l=>Own c G (F)∧l= [(0,.string j),(15,B k3)]) ?_ ?_))))))
 ·clear H;refine W.region (cl (cv O0 hB hT h1) ?_);rintro v8 c7 l7 ⟨O4,rfl⟩;refine va (B (!t1)) ?_;rcases bo (!t1) with h9 | h9
  ·obtain rfl:=orT h9 h2;exact vb h9 (pz (ps (va (B true) (wln (jn c7 ⟨O4,rfl⟩)))))
  have q2:=orF h9 h2;refine vb h9 (wa (.string j) (wn (vr (I (bN j)) (rx (by kernel_rfl) (dy (ty:=3) u_9 _)) (wa (B (decide ((bN j) > 20000))) ?_))));obtain rfl:=si q2;exact va (B (decide ((bN j) > 20000))) (wln (jn c7 ⟨O4,rfl⟩))
 rintro e_ w_ ⟨t4,x4,_,rfl,c5,rfl,p1,rfl⟩;refine nrm (cn H (fun m3 H=>?_) (fun m3 H=>?_))
 ·refine sr (bn H fun n2 n3 H=>cl (cv p1 hB.m hT.m n3) ?_);rintro v24 e3 d5 ⟨t2,rfl⟩;refine va (B n2) (wln (W.ret (thr ?_)));obtain rfl:=si H;exact r1 (qq e3 ⟨G,t2,R0.m,rfl⟩)
 refine W.skip (nrm (sr (va (.string j) (bn H fun a p3 H=>cl (jz p1 R0.m (hG.m.le (by decide)) hU.m hT.m j p3) ?_))));rintro v35 u4 e5 ⟨v26,v28,p,u2,s0,rfl,X,h0⟩;refine va (.tuple #[.agg #[I a.2.1.Wide,I a.2.1.High,v26,I a.2.1.At.Row,I a.2.1.At.Col,B a.2.1.At.Pending,B a.2.1.Auto],v28]) (va (.agg #[I a.2.1.Wide,I a.2.1.High,v26,I a.2.1.At.Row,I a.2.1.At.Col,B a.2.1.At.Pending,B a.2.1.Auto]) (va (v28) (me (al 49 [I 0,I 0,Y,I 0,I 0,B false,B false] u2) ?_)));rintro v39 v4 y3 ⟨n,rfl,v2⟩;obtain ⟨q,s,t,rfl⟩:=((X.mono y3)).form;refine md (sA 49 [I a.2.1.Wide,I a.2.1.High,.slice q s t,I a.2.1.At.Row,I a.2.1.At.Col,B a.2.1.At.Pending,B a.2.1.Auto] 0 v2 ⟨rfl,rfl,X.m.one,rfl,rfl,rfl,rfl,trivial⟩) ?_;rintro f0 f5 m0;refine va (v28) (wln (W.seq (sr (va (v28) (vr (B a.2.2.isNil) (by rcases h0.m.cs with ⟨g1,i1⟩ | ⟨b_,g1,i1⟩ | ⟨b_,g1,i1⟩ <;> (subst g1; rw [i1]; kernel_rfl)) (wln (cn H (fun q3 H=>?_) (fun q3 H=>?_))))))))
 ·refine W.seq (bn H fun o2 s3 H=>bn H fun f2 q1 H=>W.join (Jn f0 fun c l=>Own c p ((Eb n 49 [I a.2.1.Wide,I a.2.1.High,.slice q s t,I a.2.1.At.Row,I a.2.1.At.Col,B a.2.1.At.Pending,B a.2.1.Auto]) :: F)∧l= [(2,B f2)]) ?_ ?_)
  ·clear H;refine W.region (vx (leN 49 0 [I a.2.1.Wide,I a.2.1.High,.slice q s t,I a.2.1.At.Row,I a.2.1.At.Col,B a.2.1.At.Pending,B a.2.1.Auto] (m0.on 0 rfl)) (cl (eZ m0 a.2.1 X.m s3) ?_));rintro v53 f3 g5 ⟨o0,rfl⟩;rcases bo (o2) with Z | Z
   ·have k0:=anT Z q1;refine vb Z (wn (vx (leN 49 0 [I a.2.1.Wide,I a.2.1.High,.slice q s t,I a.2.1.At.Row,I a.2.1.At.Col,B a.2.1.At.Pending,B a.2.1.Auto] (o0.on 0 rfl)) (wn (bn k0 fun e0 t3 k0=>cl (fm o0 a.2.1 X.m t3) ?_))));rintro m5 g3 h5 ⟨x2,rfl⟩;refine wa (.string j) (wn (vr (B (eqS e0 j)) (dP (by kernel_rfl)) ?_));obtain rfl:=si k0;exact vv (B (eqS e0 j)) (wln (jn g3 ⟨x2,rfl⟩))
   obtain rfl:=anF Z q1;exact vb Z (pz (pz (vv (B false) (wln (jn f3 ⟨o0,rfl⟩)))))
  rintro e_ w_ ⟨h3,y4,_,rfl,i5,rfl,y2,rfl⟩;refine nrm (W.ret (thr ?_));obtain rfl:=si H;have z2:=y2.sD 1 [];exact r1 (qq h3 ⟨p,z2,s0.m,rfl⟩)
 refine W.skip (nrm (sr (va (I 0) (wln (W.seq (sr (va (I 0) (wln (W.block (bn H fun T s1 d=>lp s1 (fun g=>Jn f0 fun c l=>Own c p ((Eb n 49 [I a.2.1.Wide,I a.2.1.High,.slice q s t,I a.2.1.At.Row,I a.2.1.At.Col,B a.2.1.At.Pending,B a.2.1.Auto]) :: F)∧l= [(0,.string j),(3,Q n),(4,v28),(5,I g.1),(6,I g.2)]) (fun n1 ex e w=>ex= .exit 0∧(Jn f0 fun c l=>Own c p ((Eb n 49 [I a.2.1.Wide,I a.2.1.High,.slice q s t,I a.2.1.At.Row,I a.2.1.At.Col,B a.2.1.At.Pending,B a.2.1.Auto]) :: F)∧l= [(3,Q n),(4,v28),(5,I n1)]) e w) ?_ ?_ ?_))))))))))
 ·clear d s1;intro g n5 l3 z3 H;revert l3 z3;rintro e_ w_ ⟨g0,z4,_,rfl,j5,rfl,q0,rfl⟩;refine W.seq (sr (va (I g.2) (va (.string j) (vr (I (bN j)) (rx (by kernel_rfl) (dy (ty:=3) u_9 _)) (va (B (decide (g.2 < (bN j)))) (wln (cn H (fun u3 H=>?_) (fun u3 H=>?_))))))))
  ·refine W.skip (nrm (bn H fun p2 u s2=>W.seqJ (Jn g0 fun c l=>Own c p ((Eb n 49 [I a.2.1.Wide,I a.2.1.High,.slice q s t,I a.2.1.At.Row,I a.2.1.At.Col,B a.2.1.At.Pending,B a.2.1.Auto]) :: F)∧l= [(0,.string j),(3,Q n),(4,v28),(5,I p2),(6,I g.2)]) ?_ ?_))
   ·refine W.block (sr (va (.string j) (va (I g.2) (bn u fun k1 v3 u=>vr (.int .u8 k1) (rx (by kernel_rfl) (cp (k:= .i64) u_9 v3 _)) (va (B (k1==10)) (wln (cn u (fun w3 u=>?_) (fun w3 u=>?_))))))))
    ·refine W.region (va (I g.1) (vv (I (w64 (g.1+1))) (WL.nil (bkn (nrm ?_)))));obtain rfl:=si u;exact jn g0 ⟨q0,rfl⟩
    refine W.skip (bkn (nrm ?_));obtain rfl:=si u;exact jn g0 ⟨q0,rfl⟩
   rintro e_ w_ ⟨j3,a5,_,rfl,k5,rfl,a3,rfl⟩;refine W.region (va (I g.2) (vv (I (w64 (g.2+1))) (WL.nil ?_)));obtain rfl:=si s2;exact ⟨_,rfl,jn j3 ⟨a3,rfl⟩⟩
  refine W.exit (thx ?_);obtain rfl:=si H;exact ⟨_,rfl,rfl,jn g0 ⟨q0,rfl⟩⟩
 ·exact jn f0 ⟨m0,rfl⟩
 rintro _ e_ w_ ⟨rfl,w4,b5,_,rfl,l5,rfl,b3,rfl⟩;refine bke (nrm (sr (va (v28) (bn d fun f x3 d=>cl (pJ b3 hU.m a.2.2 h0.m x3) ?_))));rintro q4 d4 l4 ⟨c3,rfl⟩;refine va (v28) (bn d fun b j2 d=>cl (np c3 (hG.m.le (by decide)) a.2.2 h0.m j2) ?_);rintro r4 o m4 ⟨i,rfl⟩;refine va (I f) (va (I b) (wln (W.seq (W.seq (bn d fun e4 u0 d=>bn d fun f4 d0 d=>bn d fun g4 S d=>bn d fun g2 x d=>W.join (Jn o fun c l=>Own c p ((Eb n 49 [I a.2.1.Wide,I a.2.1.High,.slice q s t,I a.2.1.At.Row,I a.2.1.At.Col,B a.2.1.At.Pending,B a.2.1.Auto]) :: F)∧l= [(4,v28),(7,I f),(8,I b),(77,B g2)]) ?_ ?_)))))
 ·clear d;refine W.region (va (Qo n 2) (vx (le1 2 dX (i.on 0 rfl)) (vx (ln 3 dX X.m) (va (B ((a.2.1.Lines.length:Int) != 0)) ?_))));rcases bo ((a.2.1.Lines.length:Int) != 0) with y | y
  ·obtain rfl:=orT y u0;refine vb y (pz (ps (va (B true) ?_)));have v0:true=true:=rfl;obtain rfl:=orT v0 d0;refine vb v0 (pz (va (B true) ?_));have w0:true=true:=rfl;obtain rfl:=orT w0 S;refine vb w0 (pz (ps (va (B true) ?_)));have x0:true=true:=rfl;obtain rfl:=orT x0 x;exact vb x0 (pz (pz (pz (pz (pz (va (B true) (wln (jn o ⟨i,rfl⟩))))))))
  have u1:=orF y u0;refine vb y (wa (Q n) (wn (vx (le1 0 u_3 (i.on 0 rfl)) (wa (B (a.2.1.Wide != 0)) ?_))));obtain rfl:=si u1;refine va (B (a.2.1.Wide != 0)) ?_;rcases bo (a.2.1.Wide != 0) with z | z
  ·obtain rfl:=orT z d0;refine vb z (pz (va (B true) ?_));have y0:true=true:=rfl;obtain rfl:=orT y0 S;refine vb y0 (pz (ps (va (B true) ?_)));have z0:true=true:=rfl;obtain rfl:=orT z0 x;exact vb z0 (pz (pz (pz (pz (pz (va (B true) (wln (jn o ⟨i,rfl⟩))))))))
  have v1:=orF z d0;refine vb z (wa (I f) (wa (B (decide (f < 0))) ?_));obtain rfl:=si v1;refine va (B (decide (f < 0))) ?_;rcases bo (decide (f < 0)) with A | A
  ·obtain rfl:=orT A S;refine vb A (pz (ps (va (B true) ?_)));have a1:true=true:=rfl;obtain rfl:=orT a1 x;exact vb a1 (pz (pz (pz (pz (pz (va (B true) (wln (jn o ⟨i,rfl⟩))))))))
  have w1:=orF A S;refine vb A (wa (I f) (wa (I T) (wa (B (decide (f > T))) ?_)));obtain rfl:=si w1;refine va (B (decide (f > T))) ?_;rcases bo (decide (f > T)) with D | D
  ·obtain rfl:=orT D x;exact vb D (pz (pz (pz (pz (pz (va (B true) (wln (jn o ⟨i,rfl⟩))))))))
  have h:=orF D x;refine vb D (wa (I b) (wa (B (b != 2)) (wn (bn h fun h4 b1 h=>?_))));rcases bo (b != 2) with E | E
  ·have x1:=anT E b1;refine vb E (wa (I b) (wa (B (b != 5)) (wn ?_)));obtain rfl:=si x1;refine va (B (b != 5)) (wn (bn h fun i2 c1 h=>?_));rcases bo (b != 5) with M | M
   ·have y1:=anT M c1;refine vb M (wa (I b) (wa (B (b != 6)) (wn ?_)));obtain rfl:=si y1;refine va (B (b != 6)) ?_;obtain rfl:=si h;exact va (B (b != 6)) (wln (jn o ⟨i,rfl⟩))
   obtain rfl:=anF M c1;refine vb M (pz (wa (B false) ?_));obtain rfl:=si h;exact va (B false) (wln (jn o ⟨i,rfl⟩))
  obtain rfl:=anF E b1;refine vb E (pz (wa (B false) (wn (bn h fun i2 k2 h=>?_))));have d1:false=false:=rfl;obtain rfl:=anF d1 k2;refine vb d1 (pz (wa (B false) ?_));obtain rfl:=si h;exact va (B false) (wln (jn o ⟨i,rfl⟩))
 rintro e_ w_ ⟨t0,i4,_,rfl,n4,rfl,l0,rfl⟩;refine nrm (cn d (fun l2 d=>?_) (fun l2 d=>?_))
 ·refine sr (va (B false) (wln (W.ret (thr ?_))));obtain rfl:=si d;have b2:=l0.sD 1 [];exact r1 (qq t0 ⟨p,b2,s0.m,rfl⟩)
 refine W.skip (nrm (W.seq (bn d fun U m2 d=>bn d fun m1 e1 d=>W.join (Jn t0 fun c l=>Own c p ((Eb n 49 [I a.2.1.Wide,I a.2.1.High,.slice q s t,I a.2.1.At.Row,I a.2.1.At.Col,B a.2.1.At.Pending,B a.2.1.Auto]) :: F)∧l= [(2,B m1)]) ?_ ?_)))
 ·clear d;refine W.region (va (I b) (va (B (b==6)) (va (v28) (cl (lg l0 hU.m a.2.2 h0.m m2) ?_))));rintro s4 b0 o4 ⟨a0,rfl⟩;refine va (B (decide (U≥0))) (va (B ((b==6)==(decide (U≥0)))) ?_);rcases bo ((b==6)==(decide (U≥0))) with N | N
  ·have R:=anT N e1;refine vb N (wa (I b) (wa (B (b != 5)) (wn (bn R fun a4 f1 R=>?_))));rcases bo (b != 5) with P | P
   ·obtain rfl:=orT P f1;refine vb P (pz (wa (B true) ?_));obtain rfl:=si R;exact vv (B true) (wln (jn b0 ⟨a0,rfl⟩))
   have z1:=orF P f1;refine vb P (wa (I f) (wa (B (decide (f≥3))) (wn ?_)));obtain rfl:=si z1;refine va (B (decide (f≥3))) ?_;obtain rfl:=si R;exact vv (B (decide (f≥3))) (wln (jn b0 ⟨a0,rfl⟩))
  obtain rfl:=anF N e1;exact vb N (pz (pz (pz (vv (B false) (wln (jn b0 ⟨a0,rfl⟩))))))
 rintro e_ w_ ⟨e2,j4,_,rfl,p4,rfl,c2,rfl⟩;refine nrm (W.ret ?_);obtain rfl:=si d;have d2:=c2.sD 1 [];exact r1 (qq e2 ⟨p,d2,s0.m,rfl⟩)
def ck (sg:Sto) (p0:af):Option (Sto×Bool):=
 (bv).bind fun n=>
 (orE (!n) ((cu p0).bind fun o=>
 some o)).bind fun m=>
 if m=true then
 (bv).bind fun g=>
 some (sg,g)
 else
 (eG p0).bind fun a=>
 (bT p0).bind fun h=>
 if (!h)=true then
 (cj (eqS a (⟨#[]⟩:ByteArray)) ((eK p0).bind fun i=>
 some (!i))).bind fun c=>
 some (sg,c)
 else
 (fi sg a).bind fun b=>
 (eK p0).bind fun j=>
 (cj j ((ce p0).bind fun k=>
 some (eqS a k))).bind fun d=>
 (cj d (some b.2.2.isNil)).bind fun e=>
 (cj e ((dm p0 b.2.1).bind fun l=>
 some l)).bind fun f=>
 some (b.1,f)
theorem ir (O0:Own c0 G F) (R0:Rel c0 sg G) (hG:Gl [0,1,4,5,6] c0) (hB:Tb6 c0) (hU:Eh c0) (hT:Et c0) (b:af) {r:Sto×Bool} (j:Sl aJ c0 v1 b.Lines) (H:ck sg b=some r): Calls prog 5 #[.agg #[I b.Wide,I b.High,v1,I b.At.Row,I b.At.Col,B b.At.Pending,B b.Auto]] c0.w (aX c0 fun c v=>∃G_:Gm,Own c G_ (F)∧Rel c r.1 G_∧v=B r.2):=by
 unfold ck at H;refine en func5 rfl rfl (sr ?_);obtain ⟨a3,a4,a5,rfl⟩:=(j).form;refine me (bx 49 [I b.Wide,I b.High,.slice a3 a4 a5,I b.At.Row,I b.At.Col,B b.At.Pending,B b.Auto] O0) ?_;rintro v10 c9 l9 ⟨b6,rfl,O7,p⟩;refine va (B false) (wln (W.seq (W.seq (bn H fun k0 z1 H=>bn H fun x1 g0 H=>W.join (Jn c9 fun c l=>Own c G (F)∧l= [(1,Q b6),(11,B x1)]) ?_ ?_))))
 ·clear H;refine W.region (cl (cv O7 hB.m hT.m z1) ?_);rintro v18 p1 p3 ⟨b0,rfl⟩;refine va (B (!k0)) ?_;rcases bo (!k0) with i | i
  ·obtain rfl:=orT i g0;exact vb i (pz (va (B true) (wln (jn p1 ⟨b0,rfl⟩))))
  have x:=orF i g0;refine vb i (wn (vx (lN 49 (mm p)) (wn (bn x fun o2 b2 x=>cl (go b0 b j.m b2) ?_))));rintro v27 q1 q3 ⟨d1,rfl⟩;obtain rfl:=si x;exact va (B o2) (wln (jn q1 ⟨d1,rfl⟩))
 rintro e_ w_ ⟨j3,n3,_,rfl,s3,rfl,d0,rfl⟩;refine nrm (cn H (fun c2 H=>?_) (fun c2 H=>?_))
 ·refine sr (bn H fun a1 d2 H=>cl (cv d0 hB.m hT.m d2) ?_);rintro v41 s1 t3 ⟨e1,rfl⟩;refine va (B a1) (wln (W.ret (thr ?_)));obtain rfl:=si H;exact r1 (qq s1 ⟨G,e1,R0.m,rfl⟩)
 refine W.skip (nrm (sr (vx (lN 49 (mm p)) (bn H fun d e2 H=>cl (lT d0 hB.m hT.m b j.m e2) ?_))));rintro v48 k3 u3 ⟨f1,rfl⟩;refine va (.string d) (wln (W.seq (sr (vx (lN 49 (mm p)) (bn H fun b1 f2 H=>cl (eZ f1 b j.m f2) ?_)))));rintro v55 f0 v3 ⟨z,rfl⟩;refine va (B (!b1)) (wln (cn H (fun g2 H=>?_) (fun g2 H=>?_)))
 ·refine W.seq (bn H fun w0 h0 H=>W.join (Jn f0 fun c l=>Own c G (F)∧l= [(2,B w0)]) ?_ ?_)
  ·clear H;refine W.region (va (.string d) (vr (B (eqS d (⟨#[]⟩:ByteArray))) (dP (by kernel_rfl)) ?_));rcases bo (eqS d (⟨#[]⟩:ByteArray)) with k | k
   ·have y:=anT k h0;refine vb k (wn (vx (lN 49 (mm p)) (wn (bn y fun q i2 y=>cl (iT z b j.m i2) ?_))));rintro b4 t1 w3 ⟨g1,rfl⟩;refine wa (B (!q)) ?_;obtain rfl:=si y;exact vv (B (!q)) (wln (jn t1 ⟨g1,rfl⟩))
   obtain rfl:=anF k h0;exact vb k (pz (ps (vv (B false) (wln (jn f0 ⟨z,rfl⟩)))))
  rintro e_ w_ ⟨u1,o3,_,rfl,x3,rfl,h1,rfl⟩;refine nrm (W.ret (thr ?_));obtain rfl:=si H;exact r1 (qq u1 ⟨G,h1,R0.m,rfl⟩)
 refine W.skip (nrm (sr (va (.string d) (bn H fun a j2 H=>cl (jz z R0.m (hG.m.le (by decide)) hU.m hT.m d j2) ?_))));rintro c4 l3 y3 ⟨j0,u,a0,i1,m1,rfl,U,k2⟩;refine va (.tuple #[.agg #[I a.2.1.Wide,I a.2.1.High,j0,I a.2.1.At.Row,I a.2.1.At.Col,B a.2.1.At.Pending,B a.2.1.Auto],u]) (va (.agg #[I a.2.1.Wide,I a.2.1.High,j0,I a.2.1.At.Row,I a.2.1.At.Col,B a.2.1.At.Pending,B a.2.1.Auto]) (va (u) (me (al 49 [I 0,I 0,Y,I 0,I 0,B false,B false] i1) ?_)));rintro d4 m3 m2 ⟨n1,rfl,j1⟩;obtain ⟨A,D,E,rfl⟩:=((U.mono m2)).form;refine md (sA 49 [I a.2.1.Wide,I a.2.1.High,.slice A D E,I a.2.1.At.Row,I a.2.1.At.Col,B a.2.1.At.Pending,B a.2.1.Auto] 0 j1 ⟨rfl,rfl,U.m.one,rfl,rfl,rfl,rfl,trivial⟩) ?_;rintro w1 z3 k1;refine va (u) (wln (W.seq (bn H fun c1 l2 H=>bn H fun y2 i0 H=>bn H fun z2 X H=>bn H fun x0 t H=>W.join (Jn w1 fun c l=>Own c a0 ((Eb n1 49 [I a.2.1.Wide,I a.2.1.High,.slice A D E,I a.2.1.At.Row,I a.2.1.At.Col,B a.2.1.At.Pending,B a.2.1.Auto]) :: F)∧l= [(2,B x0)]) ?_ ?_)))
 ·clear H;refine W.region (vx (lN 49 (mm p)) (cl (iT k1 b j.m l2) ?_));rintro g3 t0 c3 ⟨e0,rfl⟩;rcases bo (c1) with e | e
  ·have n:=anT e i0;refine vb e (wa (.string d) (wn (vx (lN 49 (mm p)) (wn (bn n fun s y0 n=>cl (fm e0 b j.m y0) ?_)))));rintro h3 M d3 ⟨h,rfl⟩;refine wn (vr (B (eqS d s)) (dP (by kernel_rfl)) ?_);obtain rfl:=si n;refine va (B (eqS d s)) ?_;rcases bo (eqS d s) with f | f
   ·have l0:=anT f X;refine vb f (wa (u) (wn (vr (B a.2.2.isNil) (by rcases k2.m.cs with ⟨S,T⟩ | ⟨b_,S,T⟩ | ⟨b_,S,T⟩ <;> (subst S; rw [T]; kernel_rfl)) ?_)));obtain rfl:=si l0;refine va (B a.2.2.isNil) ?_;rcases bo (a.2.2.isNil) with g | g
    ·have o:=anT g t;refine vb g (wn (vx (lN 49 (mm p)) (wn (vx (leN 49 0 [I a.2.1.Wide,I a.2.1.High,.slice A D E,I a.2.1.At.Row,I a.2.1.At.Col,B a.2.1.At.Pending,B a.2.1.Auto] (h.on 0 rfl)) (wn (bn o fun Z z0 o=>cl (jB h b a.2.1 j.m U.m z0) ?_))))));rintro i3 u0 e3 ⟨m0,rfl⟩;obtain rfl:=si o;exact vv (B Z) (wln (jn u0 ⟨m0,rfl⟩))
    obtain rfl:=anF g t;exact vb g (pz (ps (vv (B false) (wln (jn M ⟨h,rfl⟩)))))
   obtain rfl:=anF f X;refine vb f (pz (va (B false) ?_));have N:false=false:=rfl;obtain rfl:=anF N t;exact vb N (pz (ps (vv (B false) (wln (jn M ⟨h,rfl⟩)))))
  obtain rfl:=anF e i0;refine vb e (pz (pz (va (B false) ?_)));have P:false=false:=rfl;obtain rfl:=anF P X;refine vb P (pz (va (B false) ?_));have R:false=false:=rfl;obtain rfl:=anF R t;exact vb R (pz (ps (vv (B false) (wln (jn t0 ⟨e0,rfl⟩)))))
 rintro e_ w_ ⟨v0,b3,_,rfl,f3,rfl,o0,rfl⟩;refine nrm (W.ret ?_);obtain rfl:=si H;have q0:=o0.sD 1 [];exact r1 (qq v0 ⟨a0,q0,m1.m,rfl⟩)
def cf (sg:Sto) (p0:af) (p1:Int) (p2:Int):Option (Sto×Bool):=
 (bv).bind fun A=>
 (orE (!A) ((cu p0).bind fun D=>
 some D)).bind fun z=>
 (orE z ((bT p0).bind fun r=>
 some (!r))).bind fun m=>
 if m=true then
 (bv).bind fun s=>
 some (sg,s)
 else
 (ce p0).bind fun b=>
 (dvg (IntKind.u64.wrap (w64 (3+(p0.Lines.length:Int))))).bind fun E=>
 (ed (σ:=ByteArray×Int×Int×Int) (τ:=ByteArray) (((bN b) - 0).toNat+1) (fun a=>
 if (decide (a.2.2.2 < (bN b)))=true then
 (((cj (a.2.1==(w64 ((IntKind.u64.wrap p1).tmod (IntKind.u64.wrap (w64 (3+(p0.Lines.length:Int))))))) (some (a.2.2.1==p2))).bind fun n=>
 (cj n ((orE (a.2.2.2==0) ((gg b (w64 (a.2.2.2 - 1))).bind fun t=>
 some (t==10))).bind fun p=>
 (orE p ((gg b (w64 (a.2.2.2 - 1))).bind fun u=>
 some (u==32))).bind fun q=>
 some q)).bind fun o=>
 if o=true then
 (ek a.1 (⟨#[63]⟩:ByteArray)).bind fun v=>
 some (v)
 else
 some (a.1)).bind fun y=>
 (dY b a.2.2.2 (w64 (a.2.2.2+1))).bind fun w=>
 (ek y w).bind fun d=>
 (gg b a.2.2.2).bind fun x=>
 if (x==10)=true then
 some (d,(w64 (a.2.1+1)),0)
 else
 (gg b a.2.2.2).bind fun i=>
 if (i==32)=true then
 some (d,a.2.1,(w64 (a.2.2.1+1)))
 else
 some (d,a.2.1,a.2.2.1)).bind fun e=>
 some (.inl (e.1,e.2.1,e.2.2,(w64 (a.2.2.2+1))))
 else
 some (.inr (a.1))) ((⟨#[]⟩:ByteArray),0,0,0)).bind fun f=>
 if (eqS f b)=true then
 some (sg,true)
 else
 (fi sg f).bind fun c=>
 (gv c.2.2).bind fun j=>
 (cj (j==6) ((iK c.2.2).bind fun k=>
 some (k==(w64 ((IntKind.u64.wrap p1).tmod (IntKind.u64.wrap (w64 (3+(p0.Lines.length:Int))))))))).bind fun g=>
 (cj g ((fB c.2.2).bind fun l=>
 some (l==p2))).bind fun h=>
 some (c.1,h)
theorem ik (O0:Own c0 G F) (R0:Rel c0 sg G) (hG:Gl [0,1,2,3,4,5,6,7] c0) (hB:Tb6 c0) (hU:Eh c0) (hT:Et c0) (g:af) (n:Int) (p:Int) {r:Sto×Bool} (h2:Sl aJ c0 v1 g.Lines) (H:cf sg g n p=some r): Calls prog 8 #[.agg #[I g.Wide,I g.High,v1,I g.At.Row,I g.At.Col,B g.At.Pending,B g.Auto],I n,I p] c0.w (aX c0 fun c v=>∃G_:Gm,Own c G_ (F)∧Rel c r.1 G_∧v=B r.2):=by
 unfold cf at H;refine en func8 rfl rfl (sr ?_);obtain ⟨a3,a4,a5,rfl⟩:=(h2).form;refine me (bx 49 [I g.Wide,I g.High,.slice a3 a4 a5,I g.At.Row,I g.At.Col,B g.At.Pending,B g.Auto] O0) ?_;rintro v10 c9 l9 ⟨b6,rfl,O7,m8⟩;refine va (B false) (wln (W.seq (W.seq (bn H fun i2 j4 H=>bn H fun d6 y1 H=>bn H fun e3 a1 H=>W.join (Jn c9 fun c l=>Own c G (F)∧l= [(1,I n),(2,I p),(3,Q b6),(24,B e3)]) ?_ ?_))))
 ·clear H;refine W.region (cl (cv O7 hB.m hT.m j4) ?_);rintro v19 e4 h6 ⟨s1,rfl⟩;refine va (B (!i2)) ?_;rcases bo (!i2) with N | N
  ·obtain rfl:=orT N y1;refine vb N (pz (va (B true) ?_));have z1:true=true:=rfl;obtain rfl:=orT z1 a1;exact vb z1 (pz (ps (va (B true) (wln (jn e4 ⟨s1,rfl⟩)))))
  have k0:=orF N y1;refine vb N (wn (vx (lN 49 (mm m8)) (wn (bn k0 fun j2 k4 k0=>cl (go s1 g h2.m k4) ?_))));rintro v29 f4 i6 ⟨t1,rfl⟩;obtain rfl:=si k0;refine va (B j2) ?_;rcases bo (j2) with P | P
  ·obtain rfl:=orT P a1;exact vb P (pz (ps (va (B true) (wln (jn f4 ⟨t1,rfl⟩)))))
  have l0:=orF P a1;refine vb P (wn (vx (lN 49 (mm m8)) (wn (bn l0 fun g1 l4 l0=>cl (eZ t1 g h2.m l4) ?_))));rintro v38 g4 j6 ⟨z3,rfl⟩;refine wa (B (!g1)) ?_;obtain rfl:=si l0;exact va (B (!g1)) (wln (jn g4 ⟨z3,rfl⟩))
 rintro e_ w_ ⟨c6,e6,_,rfl,k6,rfl,u1,rfl⟩;refine nrm (cn H (fun m4 H=>?_) (fun m4 H=>?_))
 ·refine sr (bn H fun u3 n4 H=>cl (cv u1 hB.m hT.m n4) ?_);rintro v52 h4 l6 ⟨b4,rfl⟩;refine va (B u3) (wln (W.ret (thr ?_)));obtain rfl:=si H;exact r1 (qq h4 ⟨G,b4,R0.m,rfl⟩)
 refine W.skip (nrm (sr (vx (lN 49 (mm m8)) (bn H fun h o4 H=>cl (fm u1 g h2.m o4) ?_))));rintro v59 x0 m6 ⟨c4,rfl⟩;refine va (.string h) (wln (sr (va (I n) (va (.int .u64 (IntKind.u64.wrap n)) (va (Qo b6 (0+2)) (vx (l1 dX ((mm m8) 2 _ rfl)) (vx (ln 3 dX h2.m) (va (I (w64 (3+(g.Lines.length:Int)))) (va (.int .u64 (IntKind.u64.wrap (w64 (3+(g.Lines.length:Int))))) (bn H fun a6 p4 H=>vr (.int .u64 ((IntKind.u64.wrap n).tmod (IntKind.u64.wrap (w64 (3+(g.Lines.length:Int)))))) (de (a:=(IntKind.u64.wrap n)) (b:=(IntKind.u64.wrap (w64 (3+(g.Lines.length:Int))))) p4 (by kernel_rfl) _) (vv (I (w64 ((IntKind.u64.wrap n).tmod (IntKind.u64.wrap (w64 (3+(g.Lines.length:Int))))))) (wln (sr (va (.string (⟨#[]⟩:ByteArray)) (vv (I 0) (wln (W.seq (sr (va (I 0) (wln (W.block (bn H fun z b2 j=>lp b2 (fun d=>Jn x0 fun c l=>Own c G (F)∧l= [(1,I (w64 ((IntKind.u64.wrap n).tmod (IntKind.u64.wrap (w64 (3+(g.Lines.length:Int))))))),(2,I p),(7,.string h),(8,.string d.1),(9,I d.2.1),(10,I d.2.2.1),(11,I d.2.2.2)]) (fun q1 ex e w=>ex= .exit 0∧(Jn x0 fun c l=>Own c G (F)∧l= [(1,I (w64 ((IntKind.u64.wrap n).tmod (IntKind.u64.wrap (w64 (3+(g.Lines.length:Int))))))),(2,I p),(7,.string h),(8,.string q1)]) e w) ?_ ?_ ?_))))))))))))))))))))))
 ·clear j b2;intro d q6 i4 w4 H;revert i4 w4;rintro e_ w_ ⟨s,f6,_,rfl,n6,rfl,y,rfl⟩;refine W.seq (sr (va (I d.2.2.2) (va (.string h) (vr (I (bN h)) (rx (by kernel_rfl) (dy (ty:=3) u_9 _)) (va (B (decide (d.2.2.2 < (bN h)))) (wln (cn H (fun q4 H=>?_) (fun q4 H=>?_))))))))
  ·refine W.skip (nrm (bn H fun e0 w3 x3=>W.seqJ (Jn s fun c l=>Own c G (F)∧l= [(1,I (w64 ((IntKind.u64.wrap n).tmod (IntKind.u64.wrap (w64 (3+(g.Lines.length:Int))))))),(2,I p),(7,.string h),(8,.string e0.1),(9,I e0.2.1),(10,I e0.2.2),(11,I d.2.2.2)]) ?_ ?_))
   ·refine W.block (bn w3 fun k1 o i=>W.seqJ (Jn s fun c l=>Own c G (F)∧l= [(1,I (w64 ((IntKind.u64.wrap n).tmod (IntKind.u64.wrap (w64 (3+(g.Lines.length:Int))))))),(2,I p),(7,.string h),(8,.string k1),(9,I d.2.1),(10,I d.2.2.1),(11,I d.2.2.2)]) ?_ ?_)
    ·refine W.seq (bn o fun h5 c2 o=>bn o fun f3 e1 o=>W.join (Jn s fun c l=>Own c G (F)∧l= [(1,I (w64 ((IntKind.u64.wrap n).tmod (IntKind.u64.wrap (w64 (3+(g.Lines.length:Int))))))),(2,I p),(7,.string h),(8,.string d.1),(9,I d.2.1),(10,I d.2.2.1),(11,I d.2.2.2),(68,B f3)]) ?_ ?_)
     ·clear o;refine W.region (va (I d.2.1) (va (I (w64 ((IntKind.u64.wrap n).tmod (IntKind.u64.wrap (w64 (3+(g.Lines.length:Int))))))) (va (B (d.2.1==(w64 ((IntKind.u64.wrap n).tmod (IntKind.u64.wrap (w64 (3+(g.Lines.length:Int)))))))) ?_)));rcases bo (d.2.1==(w64 ((IntKind.u64.wrap n).tmod (IntKind.u64.wrap (w64 (3+(g.Lines.length:Int))))))) with R | R
      ·have y3:=anT R c2;refine vb R (wa (I d.2.2.1) (wa (I p) (wa (B (d.2.2.1==p)) ?_)));obtain rfl:=si y3;refine va (B (d.2.2.1==p)) ?_;rcases bo (d.2.2.1==p) with S | S
       ·have q:=anT S e1;refine vb S (wa (I d.2.2.2) (wa (B (d.2.2.2==0)) (wn (bn q fun i5 d2 q=>?_))));rcases bo (d.2.2.2==0) with T | T
        ·obtain rfl:=orT T d2;refine vb T (pz (pz (ps (wa (B true) (wn (bn q fun g3 r4 q=>?_))))));have e2:true=true:=rfl;obtain rfl:=orT e2 r4;refine vb e2 (pz (pz (ps (wa (B true) ?_))));obtain rfl:=si q;exact va (B true) (wln (jn s ⟨y,rfl⟩))
        have m0:=orF T d2;refine vb T (wa (.string h) (wa (I d.2.2.2) (wa (I (w64 (d.2.2.2 - 1))) (wn (bn m0 fun E s4 m0=>vr (.int .u8 E) (rx (by kernel_rfl) (cp (k:= .i64) u_9 s4 _)) (wa (B (E==10)) (wn ?_)))))));obtain rfl:=si m0;refine va (B (E==10)) (wn (bn q fun g3 f2 q=>?_));rcases bo (E==10) with U | U
        ·obtain rfl:=orT U f2;refine vb U (pz (pz (ps (wa (B true) ?_))));obtain rfl:=si q;exact va (B true) (wln (jn s ⟨y,rfl⟩))
        have o0:=orF U f2;refine vb U (wa (.string h) (wa (I d.2.2.2) (wa (I (w64 (d.2.2.2 - 1))) (wn (bn o0 fun M t4 o0=>vr (.int .u8 M) (rx (by kernel_rfl) (cp (k:= .i64) u_9 t4 _)) (wa (B (M==32)) (wn ?_)))))));obtain rfl:=si o0;refine va (B (M==32)) ?_;obtain rfl:=si q;exact va (B (M==32)) (wln (jn s ⟨y,rfl⟩))
       obtain rfl:=anF S e1;exact vb S (pz (pz (pz (pz (pz (pz (pz (pz (va (B false) (wln (jn s ⟨y,rfl⟩)))))))))))
      obtain rfl:=anF R c2;refine vb R (pz (ps (va (B false) ?_)));have g2:false=false:=rfl;obtain rfl:=anF g2 e1;exact vb g2 (pz (pz (pz (pz (pz (pz (pz (pz (va (B false) (wln (jn s ⟨y,rfl⟩)))))))))))
     rintro e_ w_ ⟨x1,g6,_,rfl,o6,rfl,w1,rfl⟩;refine nrm (cn o (fun u4 o=>?_) (fun u4 o=>?_))
     ·refine W.region (va (.string d.1) (bn o fun h1 v4 o=>vr (.string h1) (rx (by kernel_rfl) (bf v4 _)) (va (.string h1) (wln ?_))));obtain rfl:=si o;exact jn x1 ⟨w1,rfl⟩
     refine W.skip (nrm ?_);obtain rfl:=si o;exact jn x1 ⟨w1,rfl⟩
    rintro e_ w_ ⟨y0,j5,_,rfl,p6,rfl,a0,rfl⟩;refine sr (va (.string k1) (va (.string h) (vv (I d.2.2.2) (va (I (w64 (d.2.2.2+1))) (bn i fun v3 h3 i=>vr (.string v3) (rx (by kernel_rfl) (bU (k:= .i64) (k':= .i64) u_9 h3 _)) (bn i fun i1 i3 i=>vr (.string i1) (rx (by kernel_rfl) (bf i3 _)) (va (.string i1) (wln (sr (va (.string h) (va (I d.2.2.2) (bn i fun j1 j3 i=>vr (.int .u8 j1) (rx (by kernel_rfl) (cp (k:= .i64) u_9 j3 _)) (va (B (j1==10)) (wln (cn i (fun k3 i=>?_) (fun k3 i=>?_))))))))))))))))
    ·refine sr (va (I d.2.1) (vv (I (w64 (d.2.1+1))) (wln (W.region (va (I 0) (WL.nil (bkn (nrm ?_))))))));obtain rfl:=si i;exact jn y0 ⟨a0,rfl⟩
    refine sr (va (.string h) (va (I d.2.2.2) (bn i fun f0 l3 i=>vr (.int .u8 f0) (rx (by kernel_rfl) (cp (k:= .i64) u_9 l3 _)) (va (B (f0==32)) (wln (cn i (fun m3 i=>?_) (fun m3 i=>?_)))))))
    ·refine W.region (va (I d.2.2.1) (vv (I (w64 (d.2.2.1+1))) (WL.nil (bkn (nrm ?_)))));obtain rfl:=si i;exact jn y0 ⟨a0,rfl⟩
    refine W.skip (bkn (nrm ?_));obtain rfl:=si i;exact jn y0 ⟨a0,rfl⟩
   rintro e_ w_ ⟨w2,k5,_,rfl,n5,rfl,k2,rfl⟩;refine W.region (va (I d.2.2.2) (vv (I (w64 (d.2.2.2+1))) (WL.nil ?_)));obtain rfl:=si x3;exact ⟨_,rfl,jn w2 ⟨k2,rfl⟩⟩
  refine W.exit (thx ?_);obtain rfl:=si H;exact ⟨_,rfl,rfl,jn s ⟨y,rfl⟩⟩
 ·exact jn x0 ⟨c4,rfl⟩
 rintro _ e_ w_ ⟨rfl,x2,l5,_,rfl,o5,rfl,q0,rfl⟩;refine bke (nrm (W.seq (sr (va (.string z) (va (.string h) (vr (B (eqS z h)) (dP (by kernel_rfl)) (wln (cn j (fun n3 j=>?_) (fun n3 j=>?_)))))))))
 ·refine sr (va (B true) (wln (W.ret (thr ?_))));obtain rfl:=si j;exact r1 (qq x2 ⟨G,q0,R0.m,rfl⟩)
 refine W.skip (nrm (sr (va (.string z) (bn j fun f o3 j=>cl (jz q0 R0.m (hG.m.le (by decide)) hU.m hT.m z o3) ?_))));rintro v5 e5 p5 ⟨f1,t,j0,l2,u2,rfl,z0,b0⟩;refine va (.tuple #[.agg #[I f.2.1.Wide,I f.2.1.High,f1,I f.2.1.At.Row,I f.2.1.At.Col,B f.2.1.At.Pending,B f.2.1.Auto],t]) (va (.agg #[I f.2.1.Wide,I f.2.1.High,f1,I f.2.1.At.Row,I f.2.1.At.Col,B f.2.1.At.Pending,B f.2.1.Auto]) (va (t) (me (al 49 [I 0,I 0,Y,I 0,I 0,B false,B false] l2) ?_)));rintro w5 f5 t3 ⟨v2,rfl,m2⟩;obtain ⟨u0,v0,w0,rfl⟩:=((z0.mono t3)).form;refine md (sA 49 [I f.2.1.Wide,I f.2.1.High,.slice u0 v0 w0,I f.2.1.At.Row,I f.2.1.At.Col,B f.2.1.At.Pending,B f.2.1.Auto] 0 m2 ⟨rfl,rfl,z0.m.one,rfl,rfl,rfl,rfl,trivial⟩) ?_;rintro y2 q5 n2;refine va (t) (wln (W.seq (bn j fun g0 p3 j=>bn j fun x4 b1 j=>bn j fun m1 d0 j=>W.join (Jn y2 fun c l=>Own c j0 ((Eb v2 49 [I f.2.1.Wide,I f.2.1.High,.slice u0 v0 w0,I f.2.1.At.Row,I f.2.1.At.Col,B f.2.1.At.Pending,B f.2.1.Auto]) :: F)∧l= [(6,B m1)]) ?_ ?_)))
 ·clear j;refine W.region (va (t) (cl (np n2 (hG.m.le (by decide)) f.2.2 b0.m p3) ?_));rintro x5 z2 r5 ⟨s0,rfl⟩;refine va (B (g0==6)) ?_;rcases bo (g0==6) with u | u
  ·have X:=anT u b1;refine vb u (wa (t) (wn (bn X fun A q3 X=>cl (pJ s0 hU.m f.2.2 b0.m q3) ?_)));rintro y5 b3 s5 ⟨t0,rfl⟩;refine wa (I (w64 ((IntKind.u64.wrap n).tmod (IntKind.u64.wrap (w64 (3+(g.Lines.length:Int))))))) (wa (B (A==(w64 ((IntKind.u64.wrap n).tmod (IntKind.u64.wrap (w64 (3+(g.Lines.length:Int)))))))) ?_);obtain rfl:=si X;refine va (B (A==(w64 ((IntKind.u64.wrap n).tmod (IntKind.u64.wrap (w64 (3+(g.Lines.length:Int)))))))) ?_;rcases bo (A==(w64 ((IntKind.u64.wrap n).tmod (IntKind.u64.wrap (w64 (3+(g.Lines.length:Int))))))) with x | x
   ·have Z:=anT x d0;refine vb x (wa (t) (wn (bn Z fun D s3 Z=>cl (lg t0 hU.m f.2.2 b0.m s3) ?_)));rintro z5 c3 t5 ⟨o2,rfl⟩;refine wa (I p) (wa (B (D==p)) ?_);obtain rfl:=si Z;exact vv (B (D==p)) (wln (jn c3 ⟨o2,rfl⟩))
   obtain rfl:=anF x d0;exact vb x (pz (pz (vv (B false) (wln (jn b3 ⟨t0,rfl⟩)))))
  obtain rfl:=anF u b1;refine vb u (pz (pz (va (B false) ?_)));have c1:false=false:=rfl;obtain rfl:=anF c1 d0;exact vb c1 (pz (pz (vv (B false) (wln (jn z2 ⟨s0,rfl⟩)))))
 rintro e_ w_ ⟨d3,m5,_,rfl,u5,rfl,q2,rfl⟩;refine nrm (W.ret ?_);obtain rfl:=si j;have s2:=q2.sD 1 [];exact r1 (qq d3 ⟨j0,s2,u2.m,rfl⟩)
end Go.Proofs.YtmncdniojmigeaaGreatDoor
namespace Go.Lt
open Go.ChangeShapes Go.WideShapes Go.RowKit
def C0 (w:World):Cx:=⟨w,fun _ _=>False,fun _ _=>none⟩
theorem uO (w:World):Own (C0 w) (fun _ _=>[]) []:=
 ⟨⟨fun i e h=>by cases i <;> simp [at_] at h,fun i j e e' h=>by cases i <;> simp [at_] at h⟩,fun _ _ _=>rfl⟩
theorem im0 {w:World} {b o:Nat} {v:Value} (h:w.cell? ⟨b,o,none⟩=some v):Im (C0 w) b o v:=by
 refine ⟨?_,id,h⟩;unfold World.cell? at h;split at h
 ·rename_i hh; exact (Array.getElem?_eq_some_iff.1 hh).1
 ·cases h
def Rd (P:Program) (t:TypeId) {α:Type} (R:Rp α) (K:α→Prop):Prop:=
 P.cellsOf t=R.size∧∀{H:Type} {enc:TypeId×Value→H} {w:World} {sp:Nat→Bool} {held:Bool} {fuel:Nat} {cs:List Value} {x:DataW H×List MemPlace},
  DataW.trod enc P w 0 sp held fuel t cs=some x→∃y,R.cells (C0 w) cs y∧K y
theorem Rd.int {P:Program} {t:TypeId} {k:IntKind} (ht:P.underlying t=some (.int k)) (hc:P.cellsOf t=1):Rd P t (RI k) (fun n=>(Lit.int k n).wf=true):=
 ⟨hc,fun h=>by obtain ⟨n,rfl,_,hw⟩:=DataW.trod_int ht h; exact ⟨n,rfl,hw⟩⟩
theorem Rd.bool {P:Program} {t:TypeId} (ht:P.underlying t=some .bool) (hc:P.cellsOf t=1):Rd P t RB (fun _=>True):=
 ⟨hc,fun h=>by obtain ⟨n,rfl,_⟩:=DataW.trod_bool ht h; exact ⟨n,rfl,trivial⟩⟩
theorem vN {α:Type} {Q:Nat→α→Prop}:∀n,(∀i,i < n→∃x,Q i x)→∃xs:List α,xs.length=n∧∀i x,xs[i]? = some x→Q i x
 | 0,_=>⟨[],rfl,fun i x h=>by simp at h⟩
 | n+1,h=>by
  obtain ⟨xs,hl,hx⟩:=vN n fun i hi=>h i (Nat.lt_succ_of_lt hi);obtain ⟨y,hy⟩:=h n (iF n);refine ⟨xs++ [y],by simp [hl],fun i x hi=>?_⟩;rw [List.getElem?_append] at hi;split at hi
  ·exact hx i x hi
  ·rename_i hn
   have h1:=(List.getElem?_eq_some_iff.1 hi).1;simp only [aj,aM] at h1;obtain rfl:i=n:=by omega
   rw [hl,Nat.sub_self] at hi;cases hi;exact hy
theorem pD {w:World} {a:Addr} {n:Nat} {cs:List Value} (h:w.cells? 0 a n=some cs):cs.length=n∧∀j u,cs[j]? = some u→w.cell? (a.add j)=some u:=by
 unfold World.cells? at h;rw [ai (dw _)] at h;have hl:cs.length=n:=by simpa using mapM_some_length h
 refine ⟨hl,fun j u hu=>?_⟩;have hjn:j < n:=by have:=(List.getElem?_eq_some_iff.1 hu).1; omega
 have hj:=mapM_some_get h j j (wB hjn);rw [hu] at hj;exact hj
theorem Rd.slice {P:Program} {t e:TypeId} {α:Type} {R:Rp α} {K:α→Prop} (ht:P.underlying t=some (.slice e)) (hc:P.cellsOf t=1) (h0:0 < R.size) (h:Rd P e R K):Rd P t (RL R) (fun xs=>xs.length≤maxLen∧∀x∈xs,K x):=by
 refine ⟨hc,fun {H enc w sp held fuel cs x} hd=>?_⟩;rcases DataW.trod_slice ht hd with ⟨rfl,_⟩ | ⟨a,len,cap,elems,rest,n,_,rfl,_,_,hl,hm,hlen,hel,_,_⟩
 ·exact ⟨[],⟨_,rfl,Sl.nl R _⟩,dw _,fun x hx=>by cases hx⟩
 ·obtain ⟨b,o,s⟩:=a;have key:∀i,i < len→∃x,K x∧∃b' off l,(some ⟨b,o,s⟩:Option Addr)=some ⟨b',off,none⟩∧R.cells (C0 w) l x∧∀j u,l[j]? = some u→Im (C0 w) b' (off+i * R.size+j) u:=by
   intro i hi;have hs:s=none:=by
    have hE:=hel 0 (by omega);rw [aq (show 0 < elems.length by omega),uC] at hE;obtain ⟨cs,hcs,_⟩:=hE;obtain ⟨c1,c2⟩:=pD hcs;have hp:0 < cs.length:=by rw [c1,h.1]; exact h0
    have:=World.cell?_spot (c2 0 _ (aq hp));simpa [Addr.add] using this
   subst hs;have hE:=hel i hi;rw [aq (show i < elems.length by omega),uC] at hE;obtain ⟨cs,hcs,hr⟩:=hE;obtain ⟨c1,c2⟩:=pD hcs;obtain ⟨x,hx,hk⟩:=h.2 hr;refine ⟨x,hk,b,o,cs,rfl,hx,fun j u hu=>im0 ?_⟩;have:=c2 j u hu;rw [uD,uD,h.1] at this;exact this
  obtain ⟨xs,hxl,hxs⟩:=vN len key;subst hxl;refine ⟨xs,⟨_,rfl,some ⟨b,o,s⟩,cap,rfl,hl,hm,fun i x hx=>(hxs i x hx).2⟩,dI hl hm,fun x hx=>?_⟩;obtain ⟨i,hi⟩:=List.mem_iff_getElem?.1 hx;exact (hxs i x hi).1
theorem Rd.field {P:Program} {H:Type} {enc:TypeId×Value→H} {w:World} {sp:Nat→Bool} {held:Bool} {n:Nat} {cs:List Value} {fs:Array Field} {xs:List (DataW H×List MemPlace)}
  (hf:∀(i:Nat) (f:Field),fs[i]? = some f→DataW.trod enc P w 0 sp held n f.type ((cs.drop f.offset).take (P.cellsOf f.type))=xs[i]?) (hx:xs.length=fs.size)
  (i:Nat) {f:Field} (hi:fs[i]? = some f) {α:Type} {R:Rp α} {K:α→Prop} (h:Rd P f.type R K):∃y,R.cells (C0 w) ((cs.drop f.offset).take R.size) y∧K y:=by
 have hlt:=(Array.getElem?_eq_some_iff.1 hi).1;have:=hf i f hi;rw [aq (show i < xs.length by omega),h.1] at this;exact h.2 this
section
variable {P:Program} {H:Type} {enc:TypeId×Value→H} {w:World} {sp:Nat→Bool} {held:Bool} {t:TypeId} {v:Value} {d:DataW H} {p:List MemPlace}
theorem qY {α:Type} {R:Rp α} {K:α→Prop} {fs:Array Field} (ht:P.underlying t=some (.struct fs)) (h:Rd P t R K) (hok:Value.okWide P w .any 0 t v) (hd:DataW.Trod enc P w 0 sp held t v d p):
  ∃cs x,v= .agg cs∧R.cells (C0 w) cs.toList x∧K x:=by
 obtain ⟨fuel,hd⟩:=hd;obtain ⟨x,hx,hk⟩:=h.2 hd;unfold Value.okWide at hok;rw [ht] at hok;obtain ⟨cs,rfl,_⟩:=hok;exact ⟨cs,x,rfl,hx,hk⟩
end
theorem gL {H:Type} {enc:TypeId×Value→H} {P:Program} (hl:laidOutB P=true) {w w':World} (h:∀k,k < w.heap.size→w'.heap[k]? = w.heap[k]?) {sp:Nat→Bool}:
  ∀{ts:List TypeId} {vs:List Value} {ds:List (DataW H)} {ps:List MemPlace},(ts.all fun t=>P.readableRec t && decide (t < P.types.size))=true→(∀x∈ps,x.block < w.heap.size)→(∀x∈ps,sp x.block=true)→
  DataW.TrodAll enc P w 0 (fun _=>true) true ts vs ds ps→DataW.TrodAll enc P w' 0 sp true ts vs ds ps
 | [],[],[],_,_,_,_,hA=>hA
 | [],_ :: _,_,_,_,_,_,hA=>hA.elim
 | [],[],_ :: _,_,_,_,_,hA=>hA.elim
 | _ :: _,[],_,_,_,_,_,hA=>hA.elim
 | _ :: _,_ :: _,[],_,_,_,_,hA=>hA.elim
 | t :: ts,v :: vs,d :: ds,ps,hr,hlt,hsp,hA=>by
  obtain ⟨p,q,h1,h2,rfl⟩:=hA;simp only [List.all_cons,ax,aa] at hr;refine ⟨p,q,WideElems.Trod_stays hl hr.1.1 hr.1.2 h1 (fun x hx=>?_) (fun x hx=>hsp x (dc _ hx)),gL hl h hr.2 (fun x hx=>hlt x (iD _ hx)) (fun x hx=>hsp x (iD _ hx)) h2,rfl⟩;have hb:=hlt x (dc _ hx)
  cases x with
  | cell b o=>exact cy (w:=w) (h b hb)
  | map b=>exact h b hb
theorem ly {H:Type} {enc:TypeId×Value→H} {P:Program} {f:Func} {s:ChangeSpec} {apart fresh handsOn again:Bool} {w w':World} {args:Array Value} {v:Value} {ds gs:List (DataW H)} {ps before:List MemPlace}
  (hW:DataW.Whole enc P f.params.toList s.vars apart w args.toList ds gs before) (he:before=ps++ [])
  (hr:∀(b:Nat) (sp:Nat→Bool) (hd:Bool),DataW.TrodAll enc P w' b sp hd f.resultTypes.toList (v.resultList f.resultTypes.size) (s.fn H (ds++gs)).results [])
  (ha:∀sp:Nat→Bool,(∀x∈ps,sp x.block=true)→DataW.TrodAll enc P w' 0 sp true f.params.toList args.toList (s.fn H (ds++gs)).args ps)
  (hv:∀sp:Nat→Bool,DataW.TrodVars enc P w' sp s.vars (s.fn H (ds++gs)).vars [])
  (hg:Gr w w') (ho:∀(j:Nat) (t:TypeId) (r:Value),f.resultTypes[j]? = some t→(v.resultList f.resultTypes.size)[j]? = some r→Value.okWide P w' .any 0 t r):s.post enc P f apart fresh handsOn again w args v w':=by
 rw [cS] at he;subst he;have hlt:∀x∈before,x.block < w.heap.size:=fun x hx=>hW.lt x hx;refine ⟨ds,gs,before,[],before,[],hW,hr _ _ _,ha _ (fun x hx=>fk (hlt x hx)),hv _,wT (fun x hx=>⟨hx,.inr (.inl hx)⟩) (hg.frame (· ∈before)),fun _=>?_⟩;obtain ⟨_,_,_,_,_,hz,hn⟩:=hW;refine ⟨ho,_,_,([]++before)++ [],⟨[]++before,[],trodAll_append (ha _ fun _ _=>rfl) (hr _ _ _),hv _,rfl,fun b off hb=>?_,fun e=>?_⟩,fun x hx _=>by simpa using hx⟩
 ·have hb':MemPlace.cell b off∈before:=by simpa using hb
  have:=hlt _ hb';rw [hg.2.1 ⟨b,off,none⟩ this];exact hz b off (by simpa using hb')
 ·simpa using hn e
theorem ry {P:Program} {laid:List (String×DataW Unit)} {w:World} (h:(laid.filter fun x=>x.2.handleName?.isSome)= []):laidMetH P laid w=laidMet P laid w:=by
 unfold laidMetH;rw [h]
theorem nS {P:Program} {W:World} {ti tp te ts:TypeId} {ms:Array (String×TypeId)} {f:Field} (hi:P.underlying ti=some (.interface ms)) (hrow:∀u,P.typeName? 3 u=some "*errors.errorString"→u=tp)
  (hp:P.underlying tp=some (.pointer te)) (he:P.underlying te=some (.struct #[f])) (hft:f.type=ts) (hfo:f.offset=0) (hs:P.underlying ts=some .string) (hc:P.cellsOf te=1) (hcs:P.cellsOf ts=1):
  ∀{laid:List (String×DataW Unit)} {ps:List MemPlace},DataW.LaidVars P W laid ps→(∀b off,MemPlace.cell b off∈ps→(∃c t,W.heap[b]? = some (.cells c t (0,0)))∧∀u v,W.cell? ⟨b,off,none⟩=some (.iface u v)→Value.okWide P W .any 0 u v)→
  ∀n text g,(n,DataW.iface "*errors.errorString" (.ptr (.agg [.lit (.string text)])))∈laid→P.globalNamed n=some g→(P.globals[g]?).map (·.type)=some ti→∃a s,W.cell? ⟨g,0,none⟩=some (.iface tp (.pointer (some a)))∧W.cell? a=some (.string s)∧s.data.toList=text∧∃c t,W.heap[a.block]? = some (.cells c t (0,0))
 | [],_,_,_,_,_,_,hm,_,_=>by cases hm
 | (n',d) :: r,ps,⟨g',t,cs,fuel,p,q,hg',ht',hv,hd,hr,e⟩,hrows,n,text,g,hm,hg,ht=>by
  subst e;rcases List.mem_cons.1 hm with hh | hm
  ·cases hh;obtain rfl:=ao (hg.symm.trans hg');obtain rfl:=ao (ht.symm.trans ht');obtain ⟨l⟩:=cs;have ok:∀u v,l= [.iface u v]→Value.okWide P W .any 0 u v:=fun u v e=>by
    subst e;exact (hrows g 0 (by simp [MemPlace.row])).2 u v (by simpa using gB hg hv 0)
   obtain ⟨a,s,rfl,h1,h2,_,rfl⟩:=errorString_of_trod hi hrow hp he hft hfo hs hc hcs hd ok;exact ⟨a,s,by simpa using gB hg hv 0,h1,h2,(hrows a.block a.off (by simp [MemPlace.row])).1⟩
  ·exact nS hi hrow hp he hft hfo hs hc hcs hr (fun b off hb=>hrows b off (iD _ hb)) n text g hm hg ht
theorem qe {P:Program} {f:FuncId} {fn:Func} {s:ChangeSpec} {c:OpenClaim} (l1:laidOutB P=true) (l2:mapsRowed P=true) (l3:(P.stops== [])=true) (l4:(P.stopKnobs== [])=true) (l5:P.stopsHeard=true) (l6:P.mayEnter=true)
  (l7:(c.lifted==P.liftsFinal)=true) (l8:(P.make==some c.make)=true) (l9:(c.plainKeys==P.plainKeys)=true)
  (a0:c.wf (OpenSpec.ofChange s)=true) (a1:(fn.params.all (P.readableRec ·) && namedTie P c.named s.vars && (c.stops== []) && (c.knobs== []))=true)
  (a2:(c.inPlace==P.inPlace f)=true) (a3:(c.unfollowed==P.unfollowed f)=true) (a4:(c.recurses==P.recurses f)=true) (a5:(c.named==P.varsNamed f)=true)
  (a6:((c.maps==(fn.params.toList++s.plain.varTypes P).any (P.mapsRec ·)) && (c.ifaces==(fn.params.toList++s.plain.varTypes P).any (P.ifacesRec ·)) && (c.mapsOut==P.mapsAmong fn.resultTypes.toList) &&
   (c.loops==(fn.params.toList++s.plain.varTypes P).any (P.loopsFrom ·)) && (c.wideKeys==(fn.params.toList++s.plain.varTypes P++fn.resultTypes.toList).any (P.wideKeysFrom ·)) &&
   s.vars.all (P.varReadable ·) && fn.resultTypes.all (fun t=>P.readableRec t && decide (t < P.types.size)) && (c.ifacesOut==fn.resultTypes.toList.any (P.ifacesRec ·)) && (c.loopsOut==fn.resultTypes.toList.any (P.loopsFrom ·)))=true)
  (a7:(c.shortTexts.isNone && (c.kinds==(if c.domain.isEmpty then [] else fn.params.toList.map fun t=>match P.underlying t with | some (.int k)=>some k | _=>none)) && (c.pinned==c.pinnedBy) &&
   (c.veiled==(fn.params.toList++s.plain.varTypes P++fn.resultTypes.toList).any (P.veiledRec ·)) && c.veiledFits P fn.params.toList (fn.params.toList++s.plain.varTypes P++fn.resultTypes.toList))=true):joinedFacts P f fn s c=true:=by
 simp only [ax] at a1 a6 a7;obtain ⟨⟨⟨b1,b2⟩,b3⟩,b4⟩:=a1;obtain ⟨⟨⟨⟨⟨⟨⟨⟨c1,c2⟩,c3⟩,c4⟩,c5⟩,c6⟩,c7⟩,c8⟩,c9⟩:=a6;obtain ⟨⟨⟨⟨d1,d2⟩,d3⟩,d4⟩,d5⟩:=a7;unfold joinedFacts;simp only [ax];exact ⟨⟨⟨⟨⟨⟨⟨⟨⟨⟨⟨⟨⟨⟨⟨⟨⟨⟨⟨⟨⟨⟨⟨⟨⟨⟨⟨⟨⟨⟨⟨a0,l1⟩,l2⟩,b1⟩,b2⟩,b3⟩,l3⟩,b4⟩,l4⟩,a2⟩,a3⟩,a4⟩,a5⟩,c1⟩,c2⟩,c3⟩,c4⟩,c5⟩,c6⟩,c7⟩,c8⟩,c9⟩,l9⟩,d1⟩,l5⟩,l6⟩,l7⟩,l8⟩,d2⟩,d3⟩,d4⟩,d5⟩
end Go.Lt
namespace Go.Proofs.YtmncdniojmigeaaGreatDoor
open Go Go.Lt
set_option linter.unusedVariables false
theorem wL {α:Type} {cs:List α} (h:cs.length=7):∃a0 a1 a2 a3 a4 a5 a6,cs= [a0,a1,a2,a3,a4,a5,a6]:=by
 match cs,h with
 | [a0,a1,a2,a3,a4,a5,a6],_=>exact ⟨_,_,_,_,_,_,_,rfl⟩
theorem wM {α:Type} {cs:List α} (h:cs.length=3):∃a0 a1 a2,cs= [a0,a1,a2]:=by
 match cs,h with
 | [a0,a1,a2],_=>exact ⟨_,_,_,rfl⟩
theorem vZ {α:Type} {cs:List α} (h:cs.length=2):∃a0 a1,cs= [a0,a1]:=by
 match cs,h with
 | [a0,a1],_=>exact ⟨_,_,rfl⟩
def K_3 (n:Int):Prop:=(Lit.int .i64 n).wf=true
theorem D_3:Rd Tryz.prog 3 (RI .i64) K_3:=Rd.int Tryz.underlying3 (by kernel_rfl)
def wy (n:Int):Prop:=(Lit.int .i32 n).wf=true
theorem xf:Rd Tryz.prog 21 (RI .i32) wy:=Rd.int Tryz.underlying21 (by kernel_rfl)
def wv (xs:List Int):Prop:=xs.length≤maxLen∧∀x∈xs,wy x
theorem xc:Rd Tryz.prog 92 (RL (RI .i32)) wv:=Rd.slice Tryz.underlying92 (by kernel_rfl) (by decide) xf
def wu (x:ak):Prop:=K_3 x.Kind∧wv x.Text
theorem xb:Rd Tryz.prog 94 bG wu:=by
 refine ⟨by kernel_rfl,fun {H enc w sp held fuel cs x} h=>?_⟩;obtain ⟨xs,n,rfl,rfl,hl,hn,hf⟩:=kn Tryz.underlying94 h;replace hl:=hl.trans (show Tryz.prog.cellsOf 94=2 by kernel_rfl);obtain ⟨a0,a1,rfl⟩:=vZ hl;obtain ⟨y0,e0,k0⟩:=Rd.field hf hn 0 rfl D_3;have e0: [a0]= [.int .i64 y0]:=e0;cases e0;obtain ⟨y1,e1,k1⟩:=Rd.field hf hn 1 rfl xc;obtain ⟨v1,e1,s1⟩:=e1;have e1: [a1]= [v1]:=e1;cases e1;exact ⟨⟨y0,y1⟩,⟨_,rfl,s1⟩,k0,k1⟩
def wt (xs:List ak):Prop:=xs.length≤maxLen∧∀x∈xs,wu x
theorem xa:Rd Tryz.prog 95 (RL bG) wt:=Rd.slice Tryz.underlying95 (by kernel_rfl) (by decide) xb
def K_4 (_:Bool):Prop:=True
theorem D_4:Rd Tryz.prog 4 RB K_4:=Rd.bool Tryz.underlying4 (by kernel_rfl)
def wq (x:ah):Prop:=wt x.Cells∧K_4 x.Wrap
theorem wZ:Rd Tryz.prog 97 aJ wq:=by
 refine ⟨by kernel_rfl,fun {H enc w sp held fuel cs x} h=>?_⟩;obtain ⟨xs,n,rfl,rfl,hl,hn,hf⟩:=kn Tryz.underlying97 h;replace hl:=hl.trans (show Tryz.prog.cellsOf 97=2 by kernel_rfl);obtain ⟨a0,a1,rfl⟩:=vZ hl;obtain ⟨y0,e0,k0⟩:=Rd.field hf hn 0 rfl xa;obtain ⟨v0,e0,s0⟩:=e0;have e0: [a0]= [v0]:=e0;cases e0;obtain ⟨y1,e1,k1⟩:=Rd.field hf hn 1 rfl D_4;have e1: [a1]= [.bool y1]:=e1;cases e1;exact ⟨⟨y0,y1⟩,⟨_,rfl,s0⟩,k0,k1⟩
def wx (xs:List ah):Prop:=xs.length≤maxLen∧∀x∈xs,wq x
theorem xe:Rd Tryz.prog 45 (RL aJ) wx:=Rd.slice Tryz.underlying45 (by kernel_rfl) (by decide) wZ
def ww (x:aF):Prop:=K_3 x.Row∧K_3 x.Col∧K_4 x.Pending
theorem xd:Rd Tryz.prog 47 oV ww:=by
 refine ⟨by kernel_rfl,fun {H enc w sp held fuel cs x} h=>?_⟩;obtain ⟨xs,n,rfl,rfl,hl,hn,hf⟩:=kn Tryz.underlying47 h;replace hl:=hl.trans (show Tryz.prog.cellsOf 47=3 by kernel_rfl);obtain ⟨a0,a1,a2,rfl⟩:=wM hl;obtain ⟨y0,e0,k0⟩:=Rd.field hf hn 0 rfl D_3;have e0: [a0]= [.int .i64 y0]:=e0;cases e0;obtain ⟨y1,e1,k1⟩:=Rd.field hf hn 1 rfl D_3;have e1: [a1]= [.int .i64 y1]:=e1;cases e1;obtain ⟨y2,e2,k2⟩:=Rd.field hf hn 2 rfl D_4;have e2: [a2]= [.bool y2]:=e2;cases e2;exact ⟨⟨y0,y1,y2⟩,rfl,k0,k1,k2⟩
def wY (x:af):Prop:=K_3 x.Wide∧K_3 x.High∧wx x.Lines∧ww x.At∧K_4 x.Auto
theorem wz:Rd Tryz.prog 49 qs wY:=by
 refine ⟨by kernel_rfl,fun {H enc w sp held fuel cs x} h=>?_⟩;obtain ⟨xs,n,rfl,rfl,hl,hn,hf⟩:=kn Tryz.underlying49 h;replace hl:=hl.trans (show Tryz.prog.cellsOf 49=7 by kernel_rfl);obtain ⟨a0,a1,a2,a3,a4,a5,a6,rfl⟩:=wL hl;obtain ⟨y0,e0,k0⟩:=Rd.field hf hn 0 rfl D_3;have e0: [a0]= [.int .i64 y0]:=e0;cases e0;obtain ⟨y1,e1,k1⟩:=Rd.field hf hn 1 rfl D_3;have e1: [a1]= [.int .i64 y1]:=e1;cases e1;obtain ⟨y2,e2,k2⟩:=Rd.field hf hn 2 rfl xe;obtain ⟨v2,e2,s2⟩:=e2;have e2: [a2]= [v2]:=e2;cases e2;obtain ⟨y3,e3,k3⟩:=Rd.field hf hn 3 rfl xd;have e3: [a3,a4,a5]= [.int .i64 y3.Row,.int .i64 y3.Col,.bool y3.Pending]:=e3;cases e3;obtain ⟨y4,e4,k4⟩:=Rd.field hf hn 4 rfl D_4;have e4: [a6]= [.bool y4]:=e4;cases e4;exact ⟨⟨y0,y1,y2,y3,y4⟩,⟨_,rfl,s2⟩,k0,k1,k2,k3,k4⟩
theorem uM (w:World):Rel (C0 w) ⟨[],[]⟩ (fun _ _=>[]):=
 ⟨⟨fun k x h=>by simp at h,fun _ _=>rfl⟩,⟨fun k x h=>by simp at h,fun _ _=>rfl⟩⟩
theorem vK: "*" ++ "errors.errorString" = "*errors.errorString" :=by decide
set_option maxRecDepth 100000 in
theorem rV (u:TypeId) (h:Tryz.prog.typeName? 3 u=some "*errors.errorString"):u=230:=
 typeName_ptr_named (nm:= "errors.errorString") (by rw [vK]; kernel_rfl) (by kernel_rfl) (by decide) u (by rw [vK]; exact h)
set_option maxRecDepth 100000 in
theorem dg {W:World} {laid:List (String×DataW Unit)} (h:laidMetH Tryz.prog laid W) (hf:(laid.filter fun x=>x.2.handleName?.isSome)= []) (n:String) (text:List UInt8) (g:Nat)
  (hm:(n,DataW.iface "*errors.errorString" (.ptr (.agg [.lit (.string text)])))∈laid) (hg:Tryz.prog.globalNamed n=some g) (ht:(Tryz.prog.globals[g]?).map (·.type)=some 31):
  ∃a s,Im (C0 W) g 0 (.iface 230 (.pointer (some a)))∧W.cell? a=some (.string s)∧s.data.toList=text∧RE 230 87 (C0 W) (.iface 230 (.pointer (some a))) (.sent g):=by
 rw [ry hf] at h;obtain ⟨ps,hl,_,hr⟩:=h;obtain ⟨a,s,h1,h2,h3,cs,t,h4⟩:=nS Tryz.underlying31 rV Tryz.underlying230 Tryz.underlying232 rfl rfl Tryz.underlying9 (by kernel_rfl) (by kernel_rfl) hl hr n text g hm hg ht;exact ⟨a,s,im0 h1,h2,h3,a,rfl,im0 h1,(Array.getElem?_eq_some_iff.1 h4).1,fun _=>id,cs,t,h4⟩
theorem qi {W:World} {n:List Nat} (tx:Nat→List UInt8) (h:∀g,g∈n→∃a s,Im (C0 W) g 0 (.iface 230 (.pointer (some a)))∧W.cell? a=some (.string s)∧s.data.toList=tx g∧RE 230 87 (C0 W) (.iface 230 (.pointer (some a))) (.sent g))
  (hd:∀g,g∈n→∀g',g'∈n→tx g=tx g'→g=g'):Gl n (C0 W):=by
 refine ⟨fun g hg=>?_,fun g g' hg hg' hne a h1 h2=>?_⟩
 ·obtain ⟨a,_,_,_,_,h4⟩:=h g hg;exact ⟨_,h4⟩
 ·obtain ⟨a1,s1,e1,e2,e3,_⟩:=h g hg;obtain ⟨a2,s2,f1,f2,f3,_⟩:=h g' hg';have q1:=e1.cell.symm.trans h1.cell;have q2:=f1.cell.symm.trans h2.cell;cases q1;cases q2;have q3:=e2.symm.trans f2;cases q3;exact hne (hd g hg g' hg' (e3.symm.trans f3))
end Go.Proofs.YtmncdniojmigeaaGreatDoor
namespace Go.Proofs.YtmncdniojmigeaaGreatDoor
open Go Go.Lt Go.RowKit
theorem fZ {H:Type} {enc:TypeId×Value→H} {a:Assume} {C:Checked} {os:Os} {f:FuncId} {fn:Func} {s:ChangeSpec} {conds:List PathCond} {apart fresh handsOn again:Bool} {X:World→Array Value→Prop}
  (hX:∀(w w':World) (args:Array Value),w.heap=w'.heap→X w args→X w' args)
  (own:ownKnob C.prog.godebug=none) (started:os.Started) (noInit:C.prog.inits.idxOf? f=none) (hfn:C.prog.funcs[f]? = some fn)
  (witness:∃(w:World) (tape:Tape) (i:Input),w.os=os∧(w.forCall tape i).Shaped C.prog∧i.vars= []∧Input.okWide C.prog (w.forCall tape i) .any w.heap.size f i∧
   ((s.pre enc C.prog fn conds apart (w.forCall tape i).memory i.args∧X (w.forCall tape i).memory i.args)∧sizedMet enc C.prog fn (OpenSpec.ofChange s) apart (w.forCall tape i).memory i.args)∧a.holds C.prog (lone (Frame.enter C.prog f i.args .normal) [] (w.forCall tape i)))
  (contract:∀(W:World) (base:Nat) (args:Array Value) (ds gs:List (DataW H)) (before:List MemPlace),
   (∀(j:Nat) t v,fn.params[j]? = some t→args[j]? = some v→Value.okWide C.prog W .any base t v)→
   DataW.Whole enc C.prog fn.params.toList s.vars apart W args.toList ds gs before→
   conds.all (PathCond.test C.prog ⟨fn.params.toList,ds,s.plain.varTypes C.prog,gs⟩)=true→
   (DataW.weightsEach C.prog (fn.params.toList++s.plain.varTypes C.prog) (ds++gs)).all (· ≤reachBytes)=true→X W args→
   W.ShapedOpen C.prog→
   a.holds C.prog (lone (Frame.enter C.prog f args .normal) [] W)→
   Calls C.prog f args W fun e W'=>∃v,e= .returned v∧s.post enc C.prog fn apart fresh handsOn again W args v W'):
  ReturnsInHanded a C os f .any (fun w args=>(s.pre enc C.prog fn conds apart w args∧X w args)∧sizedMet enc C.prog fn (OpenSpec.ofChange s) apart w args) (s.post enc C.prog fn apart fresh handsOn again):=by
 refine returnsInHanded_of_calls own started noInit witness ?_;intro w tape i _ hsh _ hok hpre hholds;obtain ⟨_,_,_,fn',hfn',_,_,_,_,hval⟩:=hok;have e:fn'=fn:=ao (hfn'.symm.trans hfn);subst e;obtain ⟨⟨⟨ds,gs,before,hw,hc⟩,hx⟩,hz⟩:=hpre;have hw':=DataW.Whole.of_heap (w':=w.forCall tape i) (by rfl) hw;refine (contract (w.forCall tape i) w.heap.size i.args ds gs before hval hw' hc (hz.weights hw) (hX _ _ _ (by rfl) hx) hsh hholds).mono fun e W' ⟨v,he,hp⟩=>?_;subst he;exact ChangeSpec.post_blind hp
theorem mO {P:Program} {W:World} {name:String} {k:IntKind} {zs:List Int} {g:Nat} {t e:TypeId} {n:Nat}
  (hg:P.globalNamed name=some g) (hty:(P.globals[g]?).map (·.type)=some t) (ht:P.underlying t=some (.array n e)) (he:P.underlying e=some (.int k)) (hce:P.cellsOf e=1) (hct:P.cellsOf t=n) (hn:0 < zs.length):
  ∀{laid:List (String×DataW Unit)} {ps:List MemPlace},DataW.LaidVars P W laid ps→(∀b off,MemPlace.cell b off∈ps→(∃c t,W.heap[b]? = some (.cells c t (0,0)))∧∀u v,W.cell? ⟨b,off,none⟩=some (.iface u v)→Value.okWide P W .any 0 u v)→
  (name,Lib.tabData k zs)∈laid→Lib.TabIs P W name k zs∧∃c t,W.heap[g]? = some (.cells c t (0,0))
 | [],_,_,_,hm=>by cases hm
 | (n',d) :: r,ps,⟨g',t',cs,fuel,p,q,hg',ht',hv,hd,hr,e2⟩,hrows,hm=>by
  subst e2;rcases List.mem_cons.1 hm with hh | hm
  ·cases hh;obtain rfl:=ao (hg.symm.trans hg');obtain rfl:=ao (hty.symm.trans ht');have hcs:=Lib.cells_of_tab ht he hce hct hd;have hsz:cs.size=zs.length:=by
    have:=cP List.length hcs;simpa using this
   refine ⟨by unfold Lib.TabIs; rw [hv,←hcs],(hrows g 0 ?_).1⟩;refine dc _ (dc _ ?_);unfold MemPlace.row;rw [hsz];exact List.mem_map.2 ⟨0,List.mem_range.2 hn,by simp⟩
  ·exact mO hg hty ht he hce hct hn hr (fun b off hb=>hrows b off (iD _ hb)) hm
theorem pi {W:World} (h:W.ShapedOpen Tryz.prog):∃m,W.cell? ⟨9,0,none⟩=some (.int .i64 m):=
 cell_of_shapedOpen_int (t:=3) (zero:= #[.int .i64 0]) h (eT (by kernel_rfl)) (by kernel_rfl) rfl (by kernel_rfl) (by kernel_rfl) (by kernel_rfl)
theorem et0 {W:World} {laid:List (String×DataW Unit)} (hs:W.ShapedOpen Tryz.prog) (hf:(laid.filter fun x=>x.2.handleName?.isSome)= []) (h:laidMetH Tryz.prog laid W) (hm:("internal/strconv.uint64pow10",Lib.tabData .u64 Lib.pow10Tab)∈laid):Et (C0 W):=by
 rw [ry hf] at h;obtain ⟨ps,hl,_,hr⟩:=h;obtain ⟨h1,c,t,h2⟩:=mO (t:=201) (e:=56) (n:=20) lP (by kernel_rfl) (by kernel_rfl) (by kernel_rfl) (by kernel_rfl) (by kernel_rfl) (by decide) hl hr hm;obtain ⟨m,h3⟩:=pi hs;exact ⟨⟨m,im0 h3⟩,⟨(Array.getElem?_eq_some_iff.1 h2).1,fun _=>id,c,t,h2⟩,h1⟩
theorem pa:Tryz.prog.globalNamed "math/bits.deBruijn64tab" = some 16:=by kernel_rfl
theorem tb0 {W:World} {laid:List (String×DataW Unit)} (hf:(laid.filter fun x=>x.2.handleName?.isSome)= []) (h:laidMetH Tryz.prog laid W) (hm:("math/bits.deBruijn64tab",Lib.tabData .u8 uH)∈laid):Tb6 (C0 W):=by
 rw [ry hf] at h;obtain ⟨ps,hl,_,hr⟩:=h;obtain ⟨h1,_⟩:=mO (t:=228) (e:=5) (n:=64) pa (by kernel_rfl) (by kernel_rfl) (by kernel_rfl) (by kernel_rfl) (by kernel_rfl) (by decide) hl hr hm;intro j x hx;refine im0 ?_;rw [gB pa h1 j,bP,fU,hx];rfl
end Go.Proofs.YtmncdniojmigeaaGreatDoor
namespace Go.Lt
theorem bi {n:Int} (h: -9223372036854775808≤n∧n≤9223372036854775807):w64 n=n:=by
 unfold w64;rw [IntKind.wrap_i64];omega
theorem uF {n:Int} (h: -2147483648≤n∧n≤2147483647):w32 n=n:=by
 unfold w32;rw [IntKind.wrap_i32];omega
theorem bsm {α β:Type} (a:α) (f:α→Option β):(some a).bind f=f a:=by simp
theorem kU {σ τ:Type} {step:σ→Option (σ ⊕ τ)} (Inv:σ→Prop) (μ:σ→Nat) (post:τ→Prop)
  (h:∀s,Inv s→(∃s',step s=some (.inl s')∧Inv s'∧μ s' < μ s)∨∃t,step s=some (.inr t)∧post t):
  ∀(fuel:Nat) (s:σ),Inv s→μ s < fuel→∃t,ed fuel step s=some t∧post t:=by
 intro fuel
 induction fuel with
 | zero=>intro s _ hm; omega
 | succ k ih=>
  intro s hs hm;rcases h s hs with ⟨s',h1,h2,h3⟩ | ⟨t,h1,h2⟩
  ·obtain ⟨t,h4,h5⟩:=ih s' h2 (by omega);exact ⟨t,by simp [ed,h1,h4],h5⟩
  ·exact ⟨t,by simp [ed,h1],h2⟩
theorem bV (a b:Bool):orE a (some b)=some (a || b):=by cases a <;> rfl
theorem bF (a b:Bool):cj a (some b)=some (a && b):=by cases a <;> rfl
theorem gS (x:Option Bool):orE true x=some true:=rfl
theorem dF (x:Option Bool):orE false x=x:=rfl
theorem fT (x:Option Bool):cj true x=x:=rfl
theorem qp (x:Option Bool):cj false x=some false:=rfl
theorem ui {α:Type} (xs:List α) (i:Nat):idx xs (i:Int)=xs[i]? :=by
 unfold idx;rw [ai (Int.natCast_nonneg i)];rfl
theorem dj {α:Type} {xs:List α} {i:Nat} (h:i < xs.length):idx xs (i:Int)=some xs[i]:=by
 rw [ui,aq h]
theorem lJ {α:Type} {xs ys:List α} (h:xs.length+ys.length≤1099511627776):app xs ys=some (xs++ys):=by
 unfold app far;rw [ai h]
theorem gV {τ:Type} {step:Int→Option (Int ⊕ τ)} {n:Nat} (hn:n≤9223372036854775807) (post:τ→Prop) (Inv:Nat→Prop) (h0:Inv 0)
  (h:∀i:Nat,i < n→Inv i→(step i=some (.inl ((i+1:Nat):Int))∧Inv (i+1))∨∃t,step i=some (.inr t)∧post t)
  (hend:Inv n→∃t,step n=some (.inr t)∧post t):∃t,ed (((n:Int) - 0).toNat+1) step 0=some t∧post t:=by
 refine kU (fun s:Int=>∃i:Nat,s=(i:Int)∧i≤n∧Inv i) (fun s:Int=>n - s.toNat) post (fun s ⟨i,hs,hi,hI⟩=>?_) _ _ ⟨0,rfl,dw _,h0⟩ (by simp);subst hs;rcases aG i n with hlt | hge
 ·rcases h i hlt hI with ⟨h1,h2⟩ | h1
  ·exact .inl ⟨_,h1,⟨i+1,rfl,hlt,h2⟩,by simp; omega⟩
  ·exact .inr h1
 ·obtain rfl:i=n:=by omega
  exact .inr (hend hI)
theorem jt {σ τ:Type} {step:σ→Option (σ ⊕ τ)} {n:Nat} (Inv:Nat→σ→Prop) (post:τ→Prop)
  (h:∀i s,i < n→Inv i s→(∃s',step s=some (.inl s')∧Inv (i+1) s')∨∃t,step s=some (.inr t)∧post t)
  (hend:∀s,Inv n s→∃t,step s=some (.inr t)∧post t) {fuel:Nat} {s:σ} (h0:Inv 0 s) (hf:n < fuel):∃t,ed fuel step s=some t∧post t:=by
 have key:∀fuel i s,i≤n→n - i < fuel→Inv i s→∃t,ed fuel step s=some t∧post t:=by
  intro fuel
  induction fuel with
  | zero=>intro i s _ hm; omega
  | succ k ih=>
   intro i s hi hm hs;rcases aG i n with hlt | hge
   ·rcases h i s hlt hs with ⟨s',h1,h2⟩ | ⟨t,h1,h2⟩
    ·obtain ⟨t,h4,h5⟩:=ih (i+1) s' hlt (by omega) h2;exact ⟨t,by simp [ed,h1,h4],h5⟩
    ·exact ⟨t,by simp [ed,h1],h2⟩
   ·obtain rfl:i=n:=by omega
    obtain ⟨t,h1,h2⟩:=hend s hs;exact ⟨t,by simp [ed,h1],h2⟩
 exact key fuel 0 s (dw _) (by omega) h0
theorem gt {σ τ β:Type} {step:σ→Option (σ ⊕ τ)} {n:Nat} (Inv:Nat→σ→Prop) (post:τ→Prop) {fuel:Nat} {s:σ} {k:τ→Option β} {r:Option β}
  (h:∀i s,i < n→Inv i s→(∃s',step s=some (.inl s')∧Inv (i+1) s')∨∃t,step s=some (.inr t)∧post t)
  (hend:∀s,Inv n s→∃t,step s=some (.inr t)∧post t) (h0:Inv 0 s) (hf:n < fuel) (hk:∀t,post t→k t=r):(ed fuel step s).bind k=r:=by
 obtain ⟨t,h1,h2⟩:=jt Inv post h hend h0 hf;rw [h1];exact hk t h2
theorem jR {σ τ β:Type} {step:σ→Option (σ ⊕ τ)} {n:Nat} (Inv:Nat→σ→Prop) (post:τ→Prop) {fuel:Nat} {s:σ} {k:τ→Option β} {p:β→Prop}
  (h:∀i s,i < n→Inv i s→(∃s',step s=some (.inl s')∧Inv (i+1) s')∨∃t,step s=some (.inr t)∧post t)
  (hend:∀s,Inv n s→∃t,step s=some (.inr t)∧post t) (h0:Inv 0 s) (hf:n < fuel) (hk:∀t,post t→∃r,k t=some r∧p r):∃r,(ed fuel step s).bind k=some r∧p r:=by
 obtain ⟨t,h1,h2⟩:=jt Inv post h hend h0 hf;rw [h1];exact hk t h2
theorem nT {σ τ γ:Type} {step:σ→Option (σ ⊕ τ)} {n:Nat} (Inv:Nat→σ→Prop) (post:τ→Prop) {fuel:Nat} {s:σ} {k:τ→Option (γ×Bool)}
  (h:∀i s,i < n→Inv i s→(∃s',step s=some (.inl s')∧Inv (i+1) s')∨∃t,step s=some (.inr t)∧post t)
  (hend:∀s,Inv n s→∃t,step s=some (.inr t)∧post t) (h0:Inv 0 s) (hf:n < fuel) (hk:∀t,post t→∃r,k t=some (r,true)):∃r,(ed fuel step s).bind k=some (r,true):=by
 obtain ⟨t,h1,h2⟩:=jt Inv post h hend h0 hf;rw [h1];exact hk t h2
theorem jp {i n:Nat} (h:i < n) (hn:n≤9223372036854775807):w64 ((i:Int)+1)=((i+1:Nat):Int):=by
 rw [bi (by omega)];simp
theorem dlt {i n:Nat} (h:i < n):decide ((i:Int) < (n:Int))=true:=by simp; exact h
end Go.Lt
namespace Go.Proofs.YtmncdniojmigeaaGreatDoor
open Go Go.Lt
theorem mj (s:ByteArray):mkS (blS s)=s:=by cases s; rfl
theorem dE (l:List UInt8):blS (mkS l)=l:=by simp [blS,mkS]
theorem qV {a b:ByteArray} (h:blS a=blS b):a=b:=by rw [←mj a,←mj b,h]
theorem qU (s:ByteArray):(blS s).length=s.size:=by
 show s.data.toList.length=s.data.size;exact wC
theorem fg (l:List UInt8):(mkS l).size=l.length:=by rw [←qU,dE]
theorem tS (s:ByteArray):bN s=((blS s).length:Int):=by rw [qU]; rfl
theorem iz (l:List UInt8):bN (mkS l)=(l.length:Int):=by rw [tS,dE]
theorem qT (a b:ByteArray):eqS a b=true↔a=b:=by
 unfold eqS;rw [bd];exact ⟨fun h=>qV h,fun h=>by rw [h]⟩
theorem ej (a:ByteArray):eqS a a=true:=(qT a a).2 rfl
theorem nf {a b:ByteArray} (h:a≠b):eqS a b=false:=by
 rw [Bool.eq_false_iff];exact fun e=>h ((qT a b).1 e)
theorem cM {a b:List UInt8} (h:a.length+b.length≤1099511627776):ek (mkS a) (mkS b)=some (mkS (a++b)):=by
 unfold ek far;rw [fg,fg,ai h]
 congr 1
theorem jO {a:List UInt8} {i j:Nat} (h:i≤j) (h2:j≤a.length):dY (mkS a) i j=some (mkS ((a.drop i).take (j - i))):=by
 unfold dY;rw [fg,ai (by omega)]
 congr 1
 apply qV;rw [dE];show ((mkS a).extract _ _).data.toList=_;simp [mkS,ByteArray.data_extract]
theorem kH {a:List UInt8} {i:Nat} (h:i < a.length):gg (mkS a) i=some ((a[i].toNat:Nat):Int):=by
 unfold gg;have h2:i < (mkS a).size:=by rw [fg]; exact h
 rw [ai (by omega),fV];have:(mkS a)[i]? = some a[i]:=by
  rw [ByteArray.getElem?_lt' _ _ h2];simp [mkS,ByteArray.getElem_eq_getElem_data];rfl
 rw [this];rfl
def bA (c:UInt8):List UInt8→List (List UInt8)
 | []=>[[]]
 | x :: t=>if x=c then [] :: bA c t else match bA c t with
  | []=>[[x]]
  | h :: r=>(x :: h) :: r
def bR (c:UInt8):List (List UInt8)→List UInt8
 | []=>[]
 | [x]=>x
 | x :: y :: r=>x++c :: bR c (y :: r)
theorem jP (c:UInt8):∀s,bA c s≠ []
 | []=>by simp [bA]
 | x :: t=>by
  unfold bA;split
  ·simp
  ·split <;> simp
theorem gQ {c x:UInt8} (h:x≠c) (t:List UInt8):∃w r,bA c t=w :: r∧bA c (x :: t)=(x :: w) :: r:=by
 cases e:bA c t with
 | nil=>exact absurd e (jP c t)
 | cons w r=>exact ⟨w,r,rfl,by rw [bA,ag h,e]⟩
theorem kv (c:UInt8) (x:List UInt8) {r:List (List UInt8)} (h:r≠ []):bR c (x :: r)=x++c :: bR c r:=by
 cases r with
 | nil=>exact absurd rfl h
 | cons y r=>rfl
theorem qf (c x:UInt8) (w:List UInt8) (r:List (List UInt8)):bR c ((x :: w) :: r)=x :: bR c (w :: r):=by
 cases r <;> rfl
theorem gq (c:UInt8):∀s,bR c (bA c s)=s
 | []=>rfl
 | x :: t=>by
  by_cases h:x=c
  ·subst h;rw [bA,ai rfl,kv _ _ (jP _ _),gq x t];rfl
  ·obtain ⟨w,r,e1,e2⟩:=gQ h t;have:=gq c t;rw [e1] at this;rw [e2,qf,this]
theorem lu (c:UInt8):∀s,∀w∈bA c s,c∉w
 | [],w,hw=>by simp [bA] at hw; subst hw; simp
 | x :: t,w,hw=>by
  by_cases h:x=c
  ·rw [bA,ai h] at hw;rcases List.mem_cons.1 hw with rfl | hw
   ·simp
   ·exact lu c t w hw
  ·obtain ⟨v,r,e1,e2⟩:=gQ h t;rw [e2] at hw;rcases List.mem_cons.1 hw with rfl | hw
   ·have:=lu c t v (by rw [e1]; simp);simp only [dJ,not_or];exact ⟨fun e=>h e.symm,this⟩
   ·exact lu c t w (by rw [e1]; simp [hw])
theorem lv {c:UInt8}:∀{w:List UInt8} (_:c∉w) (t:List UInt8),bA c (w++c :: t)=w :: bA c t
 | [],_,t=>by rw [cR,bA,ai rfl]
 | x :: w,h,t=>by
  have hx:x≠c:=fun e=>h (by simp [e]);have ih:=lv (c:=c) (w:=w) (fun e=>h (by simp [e])) t;rw [dd,bA,ag hx,ih]
theorem lr {c:UInt8}:∀{w:List UInt8} (_:c∉w),bA c w= [w]
 | [],_=>rfl
 | x :: w,h=>by
  have hx:x≠c:=fun e=>h (by simp [e]);have ih:=lr (c:=c) (w:=w) (fun e=>h (by simp [e]));rw [bA,ag hx,ih]
theorem ko {c:UInt8}:∀{ws:List (List UInt8)} (_:ws≠ []) (_:∀w∈ws,c∉w),bA c (bR c ws)=ws
 | [],h,_=>absurd rfl h
 | [x],_,h=>lr (h x (by simp))
 | x :: y :: r,_,h=>by
  rw [bR,lv (h x (by simp)),ko (by simp) (fun w hw=>h w (aI _ hw))]
theorem iy (c:UInt8):∀s:List UInt8,(bA c s).length=s.count c+1
 | []=>rfl
 | x :: t=>by
  by_cases h:x=c
  ·subst h;rw [bA,ai rfl,aj,iy x t,wp]
  ·obtain ⟨w,r,e1,e2⟩:=gQ h t;have:=iy c t;rw [e1] at this;rw [e2,aj,List.count_cons_of_ne h,←this];rfl
theorem pu {b c:UInt8} (h:b≠c) (l:List UInt8):(b :: l).idxOf c=l.idxOf c+1:=by
 rw [List.idxOf_cons];have:(b==c)=false:=by simpa using h
 rw [this];rfl
theorem nX (c:UInt8):∀s:List UInt8,Lib.index s [c]=if c∈s then ((s.idxOf c:Nat):Int) else -1
 | []=>rfl
 | b :: l=>by
  unfold Lib.index;by_cases h:b=c
  ·subst h;simp
  ·have hb:([c].isPrefixOf (b :: l))=false:=by
    have:(c==b)=false:=by simpa using fun e:c=b=>h e.symm
    simp [List.isPrefixOf,this]
   rw [hb,nX c l];simp only [bC,fY,dJ];by_cases hm:c∈l
   ·rw [ai hm,ai (Or.inr hm),pu h];have:((((l.idxOf c:Nat):Int))== -1)=false:=by rw [bc]; omega
    rw [this];simp
   ·have:¬(c=b∨c∈l):=fun q=>q.elim (fun e=>h e.symm) hm;rw [ag hm,ag this];rfl
theorem mu {c:UInt8} {s:List UInt8} (h:c∈s):∃w t,s=w++c :: t∧c∉w∧s.idxOf c=w.length:=by
 induction s with
 | nil=>cases h
 | cons b l ih=>
  by_cases e:b=c
  ·subst e;exact ⟨[],l,rfl,by simp,by simp⟩
  ·rcases List.mem_cons.1 h with h | h
   ·exact absurd h.symm e
   ·obtain ⟨w,t,rfl,h1,h2⟩:=ih h;refine ⟨b :: w,t,rfl,?_,?_⟩
    ·simp only [dJ,not_or];exact ⟨fun q=>e q.symm,h1⟩
    ·rw [pu e,h2];rfl
theorem rg (c:UInt8):∀(k:Nat) (s:List UInt8),s.count c=k→Lib.splitK [c] 0 k s=bA c s:=by
 intro k
 induction k with
 | zero=>
  intro s h;rw [lr (by rw [←wX]; exact h)];rfl
 | succ k ih=>
  intro s h;have hm:c∈s:=List.count_pos_iff.1 (by omega);obtain ⟨w,t,rfl,h1,h2⟩:=mu hm;rw [lv h1];unfold Lib.splitK;rw [nX,ai hm,h2];have:((w.length:Int)== -1)=false:=by rw [bc]; omega
  rw [this];simp only [bC,fY];have hc:t.count c=k:=by
   rw [dt,wp,List.count_eq_zero.2 h1] at h;omega
  simp only [pR,fV,ae];rw [tu,show w++c :: t=(w++ [c])++t by simp,show w.length+1=(w++ [c]).length by simp,iq,ih t hc]
theorem pb {p0:ByteArray} (c:UInt8) (h:p0.size < 4294967281):dZ p0 ⟨#[c]⟩=some ((bA c (blS p0)).map mkS):=by
 have hs:(⟨#[c]⟩:ByteArray).size=1:=rfl;unfold dZ;rw [ai ⟨h,by rw [hs]; omega⟩]
 congr 1
 have hd:=Lib.splitB_data ⟨#[c]⟩ 0 (Lib.countB p0 ⟨#[c]⟩) p0;have hk:Lib.countB p0 ⟨#[c]⟩=(blS p0).count c:=by
  show Lib.count (blS p0) [c]=_;exact Lib.count_one c (blS p0)
 have h2:(Lib.splitB ⟨#[c]⟩ 0 (Lib.countB p0 ⟨#[c]⟩) p0).map blS=bA c (blS p0):=by
  refine hd.trans ?_;rw [hk];exact rg c _ _ rfl
 rw [←h2,fE]
 conv=>lhs; rw [←ny (Lib.splitB ⟨#[c]⟩ 0 (Lib.countB p0 ⟨#[c]⟩) p0)]
 exact ff fun s _=>(mj s).symm
theorem qN (c:UInt8):∀ws:List (List UInt8),Lib.join ws [c]=bR c ws
 | []=>rfl
 | [x]=>Lib.join_one x [c]
 | x :: y :: r=>by
  rw [bR,←qN c (y :: r),Lib.join_cons,Lib.join_cons];simp [Lib.joinTail]
theorem po {ws:List (List UInt8)} (c:UInt8) (h:ws.length≤140737488355328) (h2:(bR c ws).length≤140737488355328):eu (ws.map mkS) ⟨#[c]⟩=some (mkS (bR c ws)):=by
 unfold eu;have e:(ws.map mkS).map blS=ws:=by
  rw [fE]
  conv=>rhs; rw [←ny ws]
  exact ff fun l _=>dE l
 have e2:blS ⟨#[c]⟩= [c]:=rfl;rw [e,e2,qN,an,ai ⟨h,h2⟩]
end Go.Proofs.YtmncdniojmigeaaGreatDoor
namespace Go.Proofs.YtmncdniojmigeaaGreatDoor
open Go Go.Lt
def ne:List UInt8:=[48,49,50,51,52,53,54,55,56,57,97,98,99,100,101,102]
def hd (n:Nat):UInt8:=ne.getD n 0
def uh (b:UInt8):Option Nat:=if ne.contains b then some (ne.idxOf b) else none
theorem qS:∀n:Fin 16,uh (hd n)=some n.val:=by decide +kernel
theorem uG:∀b:Fin 256,∀n,uh (UInt8.ofNat b)=some n→n < 16∧hd n=UInt8.ofNat b:=by
 have:∀b:Fin 256,(match uh (UInt8.ofNat b) with | some n=>decide (n < 16) && (hd n==UInt8.ofNat b) | none=>true)=true:=by decide +kernel
 intro b n h;have:=this b;rw [h] at this;simpa using this
theorem uu {b:UInt8} {n:Nat} (h:uh b=some n):n < 16∧hd n=b:=by
 have:=uG ⟨b.toNat,b.toNat_lt⟩ n (by simpa using h);simpa using this
def nd (B u:Nat):List UInt8:=if h:u < B∨B < 2 then [hd u] else nd B (u / B)++ [hd (u % B)]
termination_by u
decreasing_by exact xq (by omega) (by omega)
def nvF (B:Nat):Nat→List UInt8→Option Nat
 | acc,[]=>some acc
 | acc,b :: l=>match uh b with
  | some d=>if d < B then nvF B (acc * B+d) l else none
  | none=>none
def fig (B:Nat) (b:UInt8):Bool:=match uh b with
 | some d=>decide (d < B)
 | none=>false
theorem mq {B:Nat} {b:UInt8} (h:fig B b=true):∃d,uh b=some d∧d < B∧d < 16∧hd d=b:=by
 unfold fig at h
 cases e:uh b with
 | none=>rw [e] at h; cases h
 | some d=>
  rw [e] at h;have:=uu e;exact ⟨d,rfl,eT h,this⟩
theorem qx {B d:Nat} {b:UInt8} (h:uh b=some d) (hd:d < B):fig B b=true:=by
 unfold fig;rw [h];exact fk hd
section
variable {B:Nat} (h2:2≤B) (h16:B≤16)
theorem kP (b:UInt8):∀(l:List UInt8) (acc:Nat),nvF B acc (l++ [b])=(nvF B acc l).bind fun n=>nvF B n [b]
 | [],acc=>rfl
 | x :: l,acc=>by
  simp only [dd,nvF]
  cases uh x with
  | none=>rfl
  | some d=>
   simp only;split
   ·exact kP b l _
   ·rfl
theorem oF {acc d:Nat} (hd':d < B) (h:d < 16):nvF B acc [hd d]=some (acc * B+d):=by
 simp only [nvF,qS ⟨d,h⟩,ai hd']
include h2 h16
omit h2 h16 in
theorem sn (u:Nat):nd B u≠ []:=by
 unfold nd;split <;> simp
omit h2 h16 in
theorem eU {u:Nat} (h:u < B):nd B u= [hd u]:=by
 unfold nd;rw [rJ (.inl h)]
omit h16 in
theorem jr {u:Nat} (h:¬u < B):nd B u=nd B (u / B)++ [hd (u % B)]:=by
 conv=>lhs; unfold nd
 rw [rK (by omega)]
theorem oN {u:Nat} (h:¬u < B):u / B < u:=xq (by omega) (by omega)
theorem ux:∀u:Nat,nvF B 0 (nd B u)=some u:=by
 intro u
 induction u using Nat.strongRecOn with
 | ind u ih=>
  by_cases h:u < B
  ·rw [eU h,oF h (by omega)];simp
  ·have hm:u % B < B:=tt _ (by omega);rw [jr h2 h,kP,ih (u / B) (oN h2 h16 h),gj,oF hm (by omega)]
   congr 1
   have:=Nat.div_add_mod u B;rw [lK] at this;exact this
theorem mF:∀u:Nat,∀b∈nd B u,fig B b=true:=by
 intro u
 induction u using Nat.strongRecOn with
 | ind u ih=>
  intro b hb;by_cases h:u < B
  ·rw [eU h,wW] at hb;subst hb;exact qx (qS ⟨u,by omega⟩) h
  ·have hm:u % B < B:=tt _ (by omega);rw [jr h2 h] at hb;rcases List.mem_append.1 hb with hb | hb
   ·exact ih (u / B) (oN h2 h16 h) b hb
   ·rw [wW] at hb;subst hb;exact qx (qS ⟨u % B,by omega⟩) hm
theorem mC:∀(k u:Nat),u < B ^ (k+1)→(nd B u).length≤k+1:=by
 intro k
 induction k with
 | zero=>intro u h; rw [eU (by simpa using h)]; simp
 | succ k ih=>
  intro u h;by_cases h10:u < B
  ·rw [eU h10]; simp
  ·rw [jr h2 h10,ac,ae];have:=ih (u / B) (by rw [vD (by omega)]; rw [Nat.pow_succ] at h; exact h);omega
theorem uc:∀u:Nat,(nd B u).head? = some 48→u=0:=by
 intro u
 induction u using Nat.strongRecOn with
 | ind u ih=>
  intro hh;by_cases h:u < B
  ·rw [eU h,iX,aQ] at hh;have:=qS ⟨u,by omega⟩;rw [hh] at this;have e:uh 48=some 0:=by decide
   rw [e] at this;simpa using this.symm
  ·rw [jr h2 h,List.head?_append] at hh
   cases e:(nd B (u / B)).head? with
   | none=>
    have:=sn (B:=B) (u / B)
    cases e2:nd B (u / B) with
    | nil=>exact absurd e2 this
    | cons a l=>rw [e2] at e; cases e
   | some a=>
    rw [e] at hh;have:=ih (u / B) (oN h2 h16 h) (by rw [e]; simpa using hh);have h3:0 < u / B:=Nat.div_pos (by omega) (by omega);omega
theorem vT:∀(l:List UInt8) (m:Nat),l≠ []→nvF B 0 l=some m→(l.head? = some 48→l.length=1)→nd B m=l:=by
 suffices ∀(n:Nat) (l:List UInt8) (m:Nat),l.length=n→l≠ []→nvF B 0 l=some m→(l.head? = some 48→l.length=1)→nd B m=l∧(1 < l.length→0 < m) from fun l m h1 h2 h3=>(this _ l m rfl h1 h2 h3).1
 intro n
 induction n with
 | zero=>intro l m hn h1; exact absurd (dO hn) h1
 | succ n ih=>
  intro l m hn h1 h2' h3;obtain ⟨l0,b,rfl⟩:∃l0 b,l=l0++ [b]:=⟨l.dropLast,l.getLast h1,(List.dropLast_concat_getLast h1).symm⟩;rw [kP] at h2';obtain ⟨m0,e1,e2⟩:=Option.bind_eq_some_iff.1 h2';obtain ⟨d,hdB,hb,rfl⟩:∃d,d < B∧hd d=b∧m=m0 * B+d:=by
   simp only [nvF] at e2
   cases e:uh b with
   | none=>rw [e] at e2; cases e2
   | some d=>
    rw [e] at e2;simp only at e2;split at e2
    ·exact ⟨d,by assumption,(uu e).2,(ao e2).symm⟩
    ·cases e2
  cases l0 with
  | nil=>
   simp only [nvF,aQ] at e1;subst e1;refine ⟨?_,fun h=>by simp at h⟩;rw [pQ,gk,eU hdB,hb];rfl
  | cons x t=>
   have hx:x≠48:=fun e=>by
    subst e;have:=h3 rfl;simp at this
   have hlen:(x :: t).length=n:=by rw [ac] at hn; simpa using hn
   obtain ⟨i1,i2⟩:=ih (x :: t) m0 hlen (by simp) e1 (fun e=>by simp at e; exact absurd e hx);have hm0:0 < m0:=by
    by_cases ht:1 < (x :: t).length
    ·exact i2 ht
    ·have:t= []:=by
      cases t with
      | nil=>rfl
      | cons y s=>simp at ht
     subst this;rcases jI m0 with q | q
     ·subst q;rw [eU (by omega)] at i1;simp only [xr,and_true] at i1;exact absurd i1.symm (by rw [show hd 0=48 from rfl]; exact hx)
     ·exact q
   have hq:(m0 * B+d) / B=m0:=by
    rw [lK,Nat.mul_add_div (by omega),Nat.div_eq_of_lt hdB,pR]
   have hr:(m0 * B+d) % B=d:=by
    rw [lK,Nat.mul_add_mod,Nat.mod_eq_of_lt hdB]
   have hge:B≤m0 * B:=Nat.le_mul_of_pos_left _ hm0;refine ⟨?_,fun _=>by omega⟩;rw [jr h2 (by omega),hq,hr,i1,hb]
omit h2 h16 in
theorem mh:∀(l:List UInt8) (acc:Nat),(∀b∈l,fig B b=true)→∃m,nvF B acc l=some m∧m+1≤(acc+1) * B ^ l.length
 | [],acc,_=>⟨acc,rfl,by simp⟩
 | x :: l,acc,h=>by
  obtain ⟨d,e,hdB,_⟩:=mq (h x (by simp));obtain ⟨m,h1,h3⟩:=mh l (acc * B+d) (fun b hb=>h b (by simp [hb]));refine ⟨m,by simp only [nvF,e,ai hdB]; exact h1,dI h3 ?_⟩;rw [aj,Nat.pow_succ,lK (B ^ l.length) B,←Nat.mul_assoc];refine iM _ ?_;rw [eX];omega
end
end Go.Proofs.YtmncdniojmigeaaGreatDoor
namespace Go.Proofs.YtmncdniojmigeaaGreatDoor
open Go Go.Lt
theorem wh:∀u:Nat,Lib.decDigits u=nd 10 u:=by
  have hd10:∀d:Fin 10,UInt8.ofNat (48+d.val)=hd d.val:=by decide
  intro u
  induction u using Nat.strongRecOn with
  | ind u ih=>
    by_cases h:u < 10
    · rw [Lib.decDigits_one h,eU h,←hd10 ⟨u,h⟩]
    · conv=>lhs; unfold Lib.decDigits
      rw [rK h,jr (by omega) h,ih (u / 10) (by omega),hd10 ⟨u % 10,by omega⟩]
theorem mo {n:Int} (h0:0≤n) (h1:n≤1000000000):dk n=some (mkS (nd 10 n.toNat)):=by
  unfold dk;rw [ai (by omega)]
  congr 2
  show (if n < 0 then 45 :: Lib.decDigits n.natAbs else Lib.decDigits n.toNat)=_;rw [ag (by omega),wh]
abbrev FIG:ByteArray:=⟨#[48,49,50,51,52,53,54,55,56,57,97,98,99,100,101,102]⟩
theorem oM (d:Nat) (h:d < 16):dY FIG (d:Int) (w64 ((d:Int)+1))=some (mkS [hd d]):=by
  rw [bi (by omega)];have:=jO (a:=ne) (i:=d) (j:=d+1) (by omega) (by show d+1≤16; omega);have e:((d+1:Nat):Int)=(d:Int)+1:=by omega
  rw [e] at this;rw [show FIG=mkS ne from rfl,this]
  congr 2
  have key:∀d:Fin 16,(ne.drop d.val).take (d.val+1 - d.val)= [hd d.val]:=by decide
  exact key ⟨d,h⟩
theorem cY (g:Int→Int→Option ByteArray) {B K:Nat} (h2:2≤B) (h16:B≤16) (hK:K≤1000000000000) (hg:∀n:Nat,n < K→g n B=some (mkS (nd B n))) (hl:∀n:Nat,n < K→(nd B n).length≤1000) (n:Nat) (hn:n < B * K):
    (if (decide ((n:Int) < (B:Int)))=true then (dY FIG (n:Int) (w64 ((n:Int)+1))).bind fun a=>some a
     else (dvg (B:Int)).bind fun e=>(dvg (B:Int)).bind fun f=>(dvg (B:Int)).bind fun g_=>(dY FIG ((n:Int).tmod (B:Int)) (w64 (((n:Int).tmod (B:Int))+1))).bind fun b=>(g (w64 ((n:Int).tdiv (B:Int))) (B:Int)).bind fun c=>(ek c b).bind fun d=>some d)=some (mkS (nd B n)):=by
  by_cases h:n < B
  · rw [ai (fk (by omega)),oM n (by omega),bsm,eU h]
  · have e1:(n:Int).tdiv (B:Int)=((n / B:Nat):Int):=rfl
    have e2:(n:Int).tmod (B:Int)=((n % B:Nat):Int):=rfl;have hm:n % B < B:=tt _ (by omega);have hq:n / B < K:=(vD (by omega)).2 (by rw [lK]; exact hn);have hdv:dvg (B:Int)=some ():=by
      unfold dvg;rw [ag (by omega)]
    rw [ag (by rw [aa]; omega),hdv,bsm,bsm,bsm,e2,oM _ (by omega),bsm,e1,jr h2 h];have:=hl _ hq;generalize n / B=q at hq this⊢;rw [bi (by omega),hg _ hq,bsm,cM (by simp only [ae]; omega),bsm]
section
variable {B:Nat} (h2:2≤B) (h16:B≤16)
include h2 h16
theorem bS (n:Nat) (h:n < 100000000):(nd B n).length≤1000:=by
  have h3:=mC h2 h16 26 n (by
    have:2 ^ 27≤B ^ 27:=Nat.pow_le_pow_left h2 27;show n < B ^ 27;omega)
  omega
theorem uB (n:Nat) (hn:n < B):aR n B=some (mkS (nd B n)):=by
  unfold aR;rw [ai (fk (by omega)),oM n (by omega),bsm,eU (by omega)]
end
theorem vq (n:Nat) (hn:n < 10):aR n (10:Int)=some (mkS (nd 10 n)):=uB (B:=10) (by omega) (by omega) n hn
theorem vp (n:Nat) (hn:n < 100):bt n (10:Int)=some (mkS (nd 10 n)):=cY aR (B:=10) (K:=10) (by omega) (by omega) (by omega) vq (fun m hm=>bS (by omega) (by omega) m (by omega)) n (by omega)
theorem vo (n:Nat) (hn:n < 1000):br n (10:Int)=some (mkS (nd 10 n)):=cY bt (B:=10) (K:=100) (by omega) (by omega) (by omega) vp (fun m hm=>bS (by omega) (by omega) m (by omega)) n (by omega)
theorem vn (n:Nat) (hn:n < 10000):bq n (10:Int)=some (mkS (nd 10 n)):=cY br (B:=10) (K:=1000) (by omega) (by omega) (by omega) vo (fun m hm=>bS (by omega) (by omega) m (by omega)) n (by omega)
theorem vm (n:Nat) (hn:n < 100000):bp n (10:Int)=some (mkS (nd 10 n)):=cY bq (B:=10) (K:=10000) (by omega) (by omega) (by omega) vn (fun m hm=>bS (by omega) (by omega) m (by omega)) n (by omega)
theorem vl (n:Nat) (hn:n < 1000000):bm n (10:Int)=some (mkS (nd 10 n)):=cY bp (B:=10) (K:=100000) (by omega) (by omega) (by omega) vm (fun m hm=>bS (by omega) (by omega) m (by omega)) n (by omega)
theorem vk (n:Nat) (hn:n < 1000000):bl n (10:Int)=some (mkS (nd 10 n)):=cY bm (B:=10) (K:=1000000) (by omega) (by omega) (by omega) vl (fun m hm=>bS (by omega) (by omega) m (by omega)) n (by omega)
theorem vj (n:Nat) (hn:n < 1000000):bk n (10:Int)=some (mkS (nd 10 n)):=cY bl (B:=10) (K:=1000000) (by omega) (by omega) (by omega) vk (fun m hm=>bS (by omega) (by omega) m (by omega)) n (by omega)
theorem vi (n:Nat) (hn:n < 1000000):bj n (10:Int)=some (mkS (nd 10 n)):=cY bk (B:=10) (K:=1000000) (by omega) (by omega) (by omega) vj (fun m hm=>bS (by omega) (by omega) m (by omega)) n (by omega)
theorem jT {n:Int} (h0:0≤n) (h1:n < 1000000):bb n 10=some (mkS (nd 10 n.toNat)):=by
  have:=cY bj (B:=10) (K:=1000000) (by omega) (by omega) (by omega) vi (fun m hm=>bS (by omega) (by omega) m (by omega)) n.toNat (by omega);rw [show ((n.toNat:Nat):Int)=n by omega] at this;exact this
theorem vh (n:Nat) (hn:n < 16):aR n (16:Int)=some (mkS (nd 16 n)):=uB (B:=16) (by omega) (by omega) n hn
theorem vg (n:Nat) (hn:n < 256):bt n (16:Int)=some (mkS (nd 16 n)):=cY aR (B:=16) (K:=16) (by omega) (by omega) (by omega) vh (fun m hm=>bS (by omega) (by omega) m (by omega)) n (by omega)
theorem vf (n:Nat) (hn:n < 4096):br n (16:Int)=some (mkS (nd 16 n)):=cY bt (B:=16) (K:=256) (by omega) (by omega) (by omega) vg (fun m hm=>bS (by omega) (by omega) m (by omega)) n (by omega)
theorem ve (n:Nat) (hn:n < 65536):bq n (16:Int)=some (mkS (nd 16 n)):=cY br (B:=16) (K:=4096) (by omega) (by omega) (by omega) vf (fun m hm=>bS (by omega) (by omega) m (by omega)) n (by omega)
theorem vd (n:Nat) (hn:n < 1048576):bp n (16:Int)=some (mkS (nd 16 n)):=cY bq (B:=16) (K:=65536) (by omega) (by omega) (by omega) ve (fun m hm=>bS (by omega) (by omega) m (by omega)) n (by omega)
theorem vc (n:Nat) (hn:n < 16777216):bm n (16:Int)=some (mkS (nd 16 n)):=cY bp (B:=16) (K:=1048576) (by omega) (by omega) (by omega) vd (fun m hm=>bS (by omega) (by omega) m (by omega)) n (by omega)
theorem uZ (n:Nat) (hn:n < 16777216):bl n (16:Int)=some (mkS (nd 16 n)):=cY bm (B:=16) (K:=16777216) (by omega) (by omega) (by omega) vc (fun m hm=>bS (by omega) (by omega) m (by omega)) n (by omega)
theorem uY (n:Nat) (hn:n < 16777216):bk n (16:Int)=some (mkS (nd 16 n)):=cY bl (B:=16) (K:=16777216) (by omega) (by omega) (by omega) uZ (fun m hm=>bS (by omega) (by omega) m (by omega)) n (by omega)
theorem uX (n:Nat) (hn:n < 16777216):bj n (16:Int)=some (mkS (nd 16 n)):=cY bk (B:=16) (K:=16777216) (by omega) (by omega) (by omega) uY (fun m hm=>bS (by omega) (by omega) m (by omega)) n (by omega)
theorem oa {n:Int} (h0:0≤n) (h1:n < 16777216):bb n 16=some (mkS (nd 16 n.toNat)):=by
  have:=cY bj (B:=16) (K:=16777216) (by omega) (by omega) (by omega) uX (fun m hm=>bS (by omega) (by omega) m (by omega)) n.toNat (by omega);rw [show ((n.toNat:Nat):Int)=n by omega] at this;exact this
end Go.Proofs.YtmncdniojmigeaaGreatDoor
namespace Go.Proofs.YtmncdniojmigeaaGreatDoor
open Go Go.Lt
abbrev D36:ByteArray:=⟨#[48,49,50,51,52,53,54,55,56,57,97,98,99,100,101,102,103,104,105,106,107,108,109,110,111,112,113,114,115,116,117,118,119,120,121,122]⟩
theorem qk (l:List UInt8):oR (l.map fun b=>(b.toNat:Int))=mkS l:=by
 unfold oR mkS
 congr 2
 rw [fE]
 conv=>rhs; rw [←ny l]
 exact ff fun b _=>by simp
theorem wk (u:Nat) (h:u < 16777216):mY .u64 (u:Int) 15=((u % 16:Nat):Int):=by
 have e1:(BitVec.ofInt 64 (u:Int) &&& BitVec.ofInt 64 15).toNat=u % 16:=by
  have b1:(BitVec.ofInt 64 (u:Int)).toNat=u:=by rw [BitVec.toNat_ofInt]; omega
  have b2:(BitVec.ofInt 64 15).toNat=15:=rfl;rw [BitVec.toNat_and,b1,b2];exact Nat.and_two_pow_sub_one_eq_mod u 4
 show IntKind.u64.wrap ((BitVec.ofInt 64 (u:Int) &&& BitVec.ofInt 64 15).toNat:Int)=_;rw [e1];have hm:u % 16 < 16:=tt _ (by omega);rw [iG];omega
theorem sU (d:Nat) (h:d < 16):gg D36 (d:Int)=some ((hd d).toNat:Int):=by
 have key:∀d:Fin 16,gg D36 (d.val:Int)=some ((hd d.val).toNat:Int):=by decide +kernel
 exact key ⟨d,h⟩
theorem rC {l:List Int} {j:Nat} (x:Int) (h:j < l.length):(l.set j x).drop j=x :: l.drop (j+1):=by
 rw [dx (by rw [gE]; exact h),List.getElem_set_self,List.drop_set_of_lt (by omega)]
theorem qC {l:List Int} {ds:List UInt8} {i:Nat} (d:Nat) (hl:l.length=65) (hi:0 < i) (hi2:i≤65) (hd':l.drop i=ds.map fun b=>(b.toNat:Int)):
  ∃x l',nH 65 l (w64 ((i:Int) - 1))=some x∧lW l (w64 ((i:Int) - 1)) ((hd d).toNat:Int)=some l'∧l'.length=65∧l'.drop (i - 1)=(hd d :: ds).map fun b=>(b.toNat:Int):=by
 have e:w64 ((i:Int) - 1)=((i - 1:Nat):Int):=by rw [bi (by omega)]; omega
 have hlt:i - 1 < l.length:=by omega
 refine ⟨l[i - 1],l.set (i - 1) ((hd d).toNat:Int),?_,?_,by rw [gE,hl],?_⟩
 ·unfold nH;rw [e,ai (by omega),dj hlt]
 ·unfold lW;rw [e,ai (by omega),fV]
 ·rw [rC _ hlt,show i - 1+1=i by omega,hd'];rfl
theorem sP {n:Nat} (hn:n < 16777216):dA (n:Int) 16=some (mkS (nd 16 n)):=by
 have e16:IntKind.u64.wrap 16=16:=by decide
 have e15:IntKind.u64.wrap ((16:Int) - 1)=15:=by decide
 have en:IntKind.u64.wrap (n:Int)=(n:Int):=by rw [iG]; omega
 have hp:dh 16=some true:=by decide +kernel
 have ht:ei 16=some 4:=by decide +kernel
 have h4:shn (IntKind.u64.wrap 4)=some 4:=by decide +kernel
 unfold dA dQ;rw [ag (by decide),en];unfold dB;simp only [e16,e15,hp,ht,h4,bsm,bV];rw [ag (by decide),show decide ((n:Int) < 0)=false by simp];simp only [bC,fY,bsm,gi];have key:∃t,ed (((n:Int) - 16).toNat+2) (fun (b:Int×List Int×Int)=>
   if (decide (b.1≥16))=true then
   (gg D36 (mY .u64 b.1 15)).bind fun s=>
   (nH 65 b.2.1 (w64 (b.2.2 - 1))).bind fun z=>
   (lW b.2.1 (w64 (b.2.2 - 1)) s).bind fun o=>
   some (.inl ((b.1.fdiv (2 ^ (min 4 64))),o,(w64 (b.2.2 - 1))))
   else
   some (.inr (b.1,b.2.1,b.2.2))) ((n:Int),(List.replicate 65 (0:Int)),65)=some t∧∃(u k:Nat) (l:List Int) (ds:List UInt8),t=((u:Int),l,((65 - k:Nat):Int))∧l.length=65∧l.drop (65 - k)=(ds.map fun b=>(b.toNat:Int))∧k≤5∧u < 16∧nd 16 n=nd 16 u++ds:=by
  refine kU (fun a:Int×List Int×Int=>∃(u k:Nat) (l:List Int) (ds:List UInt8),a=((u:Int),l,((65 - k:Nat):Int))∧l.length=65∧l.drop (65 - k)=(ds.map fun b=>(b.toNat:Int))∧k≤5∧u < 16 ^ (6 - k)∧u≤n∧nd 16 n=nd 16 u++ds) (fun a=>(a.1 - 16).toNat+(if a.1≥16 then 1 else 0)) _ (fun a hI=>?_) _ _ ⟨n,0,_,[],rfl,by simp,by simp,by omega,hn,aB _,by simp⟩ (by split <;> omega);obtain ⟨u,k,l,ds,rfl,hl,hd',hk,hu,hun,hnd⟩:=hI;simp only;by_cases hc:u < 16
  ·right
   rw [ag (by rw [aa]; omega)];exact ⟨_,rfl,u,k,l,ds,rfl,hl,hd',hk,hc,hnd⟩
  ·left
   have hk4:k≤4∧u / 16 < 16 ^ (6 - (k+1)):=by
    have:k=0∨k=1∨k=2∨k=3∨k=4∨k=5:=by omega
    rcases this with rfl | rfl | rfl | rfl | rfl | rfl <;> simp at hu⊢ <;> omega
   rw [ai (fk (by omega)),wk u (by omega),sU _ (by omega),bsm];obtain ⟨x,l',h1,h2,h3,h5⟩:=qC (u % 16) hl (by omega) (by omega) hd';rw [h1,bsm,h2,bsm];have ef:(u:Int).fdiv (2 ^ (min 4 64))=((u / 16:Nat):Int):=by
    rw [show ((2:Int) ^ (min 4 64))=16 from rfl,Int.fdiv_eq_ediv_of_nonneg _ (by decide)];rfl
   refine ⟨_,rfl,⟨u / 16,k+1,l',hd (u % 16) :: ds,?_,h3,by rw [show 65 - (k+1)=65 - k - 1 by omega]; exact h5,by omega,hk4.2,by omega,?_⟩,?_⟩
   ·rw [ef]
    congr 2
    rw [bi (by omega)];omega
   ·rw [hnd,jr (B:=16) (by omega) hc,aA];rfl
   ·simp only [ef];split <;> split <;> omega
 obtain ⟨t,ht',u,k,l,ds,rfl,hl,hd',hk,hu,hnd⟩:=key;rw [show (List.replicate 65 (0:Int))=List.replicate 65 0 from rfl] at ht';simp only [ht',bsm];rw [sU u hu,bsm];obtain ⟨x,l',h1,h2,h3,h5⟩:=qC u hl (i:=65 - k) (by omega) (by omega) hd';rw [h1,bsm,h2,bsm,bsm];have e:w64 (((65 - k:Nat):Int) - 1)=((65 - k - 1:Nat):Int):=by rw [bi (by omega)]; omega
 have hsl:slc l' (w64 (((65 - k:Nat):Int) - 1)) (l'.length:Int)=some ((hd u :: ds).map fun b=>(b.toNat:Int)):=by
  unfold slc;rw [e,ai (by omega),fV,h5]
  congr 1
  refine bw ?_;have:=cP List.length h5;rw [fq] at this;omega
 simp only [hsl,bsm,qk];rw [hnd,eU hu];rfl
theorem tc:∀b:Fin 256,∀d,uh (UInt8.ofNat b)=some d→(48≤b.val∧b.val≤57∧d+48=b.val)∨(97≤b.val∧b.val≤102∧d+87=b.val):=by
 have h:∀b:Fin 256,(match uh (UInt8.ofNat b) with | some d=>(decide (48≤b.val) && decide (b.val≤57) && decide (d+48=b.val)) || (decide (97≤b.val) && decide (b.val≤102) && decide (d+87=b.val)) | none=>true)=true:=by decide +kernel
 intro b d hd';have:=h b;rw [hd'] at this;simp only [bh,ax,aa] at this;rcases this with ⟨⟨a,b⟩,c⟩ | ⟨⟨a,b⟩,c⟩
 ·exact .inl ⟨a,b,c⟩
 ·exact .inr ⟨a,b,c⟩
theorem py {b:UInt8} {d:Nat} (h:uh b=some d):(48≤b.toNat∧b.toNat≤57∧d+48=b.toNat)∨(97≤b.toNat∧b.toNat≤102∧d+87=b.toNat):=tc ⟨b.toNat,b.toNat_lt⟩ d (by simpa using h)
theorem ue:∀b:Fin 256,97≤b.val→b.val≤102→bI (b.val:Int)=some (b.val:Int):=by
 have h:∀b:Fin 256,(!(decide (97≤b.val) && decide (b.val≤102)) || (bI (b.val:Int)==some (b.val:Int)))=true:=by decide +kernel
 intro b h1 h2;have:=h b;simp only [h1,h2,iL,Bool.and_self,ci,kD,bd] at this;exact this
theorem uK {w:List UInt8} (h:w.length≤1000):s2b (mkS w)=some (w.map fun b=>(b.toNat:Int)):=by
 unfold s2b;rw [fg,ai (by omega)]
 congr 1
theorem rf {α:Type} {l:List α} {i:Nat} (h:i < l.length):l.take (i+1)=l.take i++ [l[i]]:=ay h
theorem vM {i:Nat} (h:i≤5):16 ^ i≤1048576:=by
 have:i=0∨i=1∨i=2∨i=3∨i=4∨i=5:=by omega
 rcases this with rfl | rfl | rfl | rfl | rfl | rfl <;> decide
theorem uN {w:List UInt8} (h0:w≠ []) (h6:w.length≤6) (hf:∀b∈w,fig 16 b=true):∃m:Nat,nvF 16 0 w=some m∧m < 16777216∧db (mkS w) 16 32=some ((m:Int),Er.nil):=by
 obtain ⟨m0,hm0,hb0⟩:=mh w 0 hf;have hlt0:m0 < 16777216:=by
  have:(16:Nat) ^ w.length≤16 ^ 6:=wo (by omega) h6;omega
 refine ⟨m0,hm0,hlt0,?_⟩;have he:eqS (mkS w) (⟨#[]⟩:ByteArray)=false:=nf fun e=>h0 (by
  have:=cP blS e;rw [dE] at this;exact this)
 have e16:IntKind.u8.wrap 16=16:=by decide
 have e16':IntKind.u64.wrap 16=16:=by decide
 have e32:shn (IntKind.u64.wrap 32)=some 32:=by decide +kernel
 have emx:IntKind.u64.wrap ((IntKind.u64.wrap (1 * 2 ^ (min 32 64))) - 1)=4294967295:=by decide +kernel
 unfold db;rw [he,ag (by decide)];simp only [bF,bV,bsm];rw [ai (by decide),bsm,ag (by decide),ag (by decide),bsm,ag (show ¬((16:Int)==10)=true by decide),ai (show ((16:Int)==16)=true by decide),bsm,e32,bsm,uK (by omega),bsm];simp only [e16,e16',emx];refine gt (n:=w.length) (fun i (a:Bool×Int×Int)=>∃m:Nat,a=(false,(m:Int),(i:Int))∧nvF 16 0 (w.take i)=some m) (fun t=>t=(false,(m0:Int))) (fun i a hi hI=>?_) (fun a hI=>?_) ⟨0,rfl,rfl⟩ (by rw [an]; omega) (fun t ht=>by
  rw [ht];simp only;unfold cj;rfl)
 ·obtain ⟨m,rfl,hm⟩:=hI
  left
  have hbd:m < 1048576:=by
   obtain ⟨m',h1,h2⟩:=mh (w.take i) 0 (fun b hb=>hf b (dM hb));rw [hm] at h1;cases h1;rw [aC,eR (by omega)] at h2;have:=vM (i:=i) (by omega);omega
  obtain ⟨d,e1,e2,e3,e4⟩:=mq (hf _ (aw hi));have hstep:nvF 16 0 (w.take (i+1))=some (m * 16+d):=by
   rw [rf hi,kP,hm,gj,←e4,oF e2 e3]
  simp only;rw [ai (by rw [aa,an]; omega),dj (by rw [an]; exact hi),bsm,cG];have hw1:IntKind.u64.wrap ((m:Int) * 16)=(m:Int) * 16:=by rw [iG]; omega
  have hw2:IntKind.u64.wrap (d:Int)=(d:Int):=by rw [iG]; omega
  have hw3:IntKind.u64.wrap ((m:Int) * 16+(d:Int))=(m:Int) * 16+(d:Int):=by rw [iG]; omega
  rw [ag (by simp)];rcases py e1 with ⟨q1,q2,q3⟩ | ⟨q1,q2,q3⟩
  ·have hd':IntKind.u8.wrap (((w[i]).toNat:Int) - 48)=(d:Int):=by rw [rI]; omega
   rw [ai (by rw [ax,aa,aa]; omega),hd',ag (by rw [aa]; omega),ag (by rw [aa]; omega),hw1,hw2,hw3,ag (by rw [bh,aa,aa]; omega),bsm];refine ⟨_,rfl,m * 16+d,?_,hstep⟩
   congr 2
   rw [bi (by omega)]; omega
  ·have hl:=ue ⟨(w[i]).toNat,(w[i]).toNat_lt⟩ q1 q2;simp only at hl;have hd':IntKind.u8.wrap ((IntKind.u8.wrap (((w[i]).toNat:Int) - 97))+10)=(d:Int):=by rw [rI,rI]; omega
   rw [ag (by rw [ax,aa,aa]; omega),hl,bsm,bsm,bF,bsm,ai (by rw [ax,aa,aa]; omega),bsm,hd',ag (by rw [aa]; omega),ag (by rw [aa]; omega),hw1,hw2,hw3,ag (by rw [bh,aa,aa]; omega),bsm];refine ⟨_,rfl,m * 16+d,?_,hstep⟩
   congr 2
   rw [bi (by omega)]; omega
 ·obtain ⟨m,rfl,hm⟩:=hI;rw [cg,hm0] at hm;cases hm;refine ⟨_,by simp only; rw [ag (by rw [aa,an]; omega)],rfl⟩
theorem tX {w:List UInt8} (h0:w≠ []) (h6:w.length≤6) (hf:∀b∈w,fig 16 b=true):∃m:Nat,nvF 16 0 w=some m∧m < 16777216∧dK (mkS w) 16 32=some ((m:Int),Er.nil):=by
 obtain ⟨m,h1,h2,h3⟩:=uN h0 h6 hf;refine ⟨m,h1,h2,?_⟩;have he:eqS (mkS w) (⟨#[]⟩:ByteArray)=false:=nf fun e=>h0 (by
  have:=cP blS e;rw [dE] at this;exact this)
 have hpos:0 < w.length:=List.length_pos_iff.2 h0;have hx:gg (mkS w) 0=some (((w[0]).toNat:Nat):Int):=kH (a:=w) (i:=0) hpos;obtain ⟨d,e1,e2,e3,e4⟩:=mq (hf _ (aw hpos));have hb:=py e1;have s31:shn (IntKind.u64.wrap (w64 (32 - 1)))=some 31:=by decide +kernel
 have e31:IntKind.u64.wrap (1 * 2 ^ (min 31 64))=2147483648:=by decide +kernel
 unfold dK eg;rw [he,ag (by decide),hx,bsm,ag (by rw [bd]; omega),ag (by rw [bd]; omega),bsm];simp only;rw [h3,bsm];simp only [Er.isNil,ci];rw [show cj false none=some false from rfl,bsm,ag (by decide),ag (by decide),bsm,s31,bsm,e31];simp only [jN,bF,bsm];rw [ag (by rw [ol,aa]; omega)];simp only [Bool.false_and,bC,fY,bsm,Er.isNil,ci];rw [bi (by omega)]
theorem ke {p:UInt8→Bool}:∀{l:List UInt8},l.dropWhile p= []↔∀b∈l,p b=true
 | []=>by simp
 | x :: l=>by
  by_cases h:p x=true
  ·rw [tw h,ke];simp [h]
  ·rw [tz h];simp [h]
theorem oZ (cs:List UInt8) (p:UInt8→Bool) (hp:∀b,cs.contains b=p b) (d:List UInt8):Lib.trimS d cs= []↔∀b∈d,p b=true:=by
 have e:∀l:List UInt8,l.dropWhile (cs.contains ·)= []↔∀b∈l,p b=true:=fun l=>by
  rw [ke];simp only [hp]
 constructor
 ·intro h b hb;unfold Lib.trimS Lib.trimLeftS at h;rw [e] at h;have h2:∀x∈Lib.trimRightS d cs,p x=true:=h;unfold Lib.trimRightS at h2;have key:∀l:List UInt8,(∀x∈l.dropWhile (cs.contains ·),p x=true)→∀x∈l,p x=true:=by
   intro l
   induction l with
   | nil=>intro _ x hx; cases hx
   | cons y l ih=>
    intro hh x hx;by_cases hy:cs.contains y=true
    ·rw [tw hy] at hh;rcases List.mem_cons.1 hx with rfl | hx
     ·rw [←hp]; exact hy
     ·exact ih hh x hx
    ·rw [tz hy] at hh;exact hh x hx
  exact key d.reverse (fun x hx=>h2 x (List.mem_reverse.2 hx)) b (List.mem_reverse.2 hb)
 ·intro h;have hr:Lib.trimRightS d cs= []:=by
   unfold Lib.trimRightS;rw [(e d.reverse).2 (fun b hb=>h b (List.mem_reverse.1 hb))];rfl
  unfold Lib.trimS;rw [hr];rfl
def sS:List UInt8:=[48,49,50,51,52,53,54,55,56,57]
theorem pC (b:UInt8):sS.contains b=fig 10 b:=by
 have h:∀n:Fin 256,sS.contains (UInt8.ofNat n)=fig 10 (UInt8.ofNat n):=by decide +kernel
 have:=h ⟨b.toNat,b.toNat_lt⟩;simpa using this
theorem px (b:UInt8):ne.contains b=fig 16 b:=by
 have h:∀n:Fin 256,ne.contains (UInt8.ofNat n)=fig 16 (UInt8.ofNat n):=by decide +kernel
 have:=h ⟨b.toNat,b.toNat_lt⟩;simpa using this
theorem rQ {d:List UInt8} (h:d.length≤9223372036854775807):cw (mkS d) ⟨#[48,49,50,51,52,53,54,55,56,57]⟩=some (mkS (Lib.trimS d sS)):=by
 unfold cw;rw [fg,dE,ai ⟨h,by decide,by decide⟩];rfl
theorem rP {d:List UInt8} (h:d.length≤9223372036854775807):cw (mkS d) ⟨#[48,49,50,51,52,53,54,55,56,57,97,98,99,100,101,102]⟩=some (mkS (Lib.trimS d ne)):=by
 unfold cw;rw [fg,dE,ai ⟨h,by decide,by decide⟩];rfl
def ph (B k:Nat) (w:List UInt8):Prop:=w≠ []∧w.length≤k∧(w.head? = some 48→w.length≤1)∧∀b∈w,fig B b=true
theorem qJ {B k:Nat} (h2:2≤B) (h16:B≤16) {n:Nat} (h:n < B ^ (k+1)):ph B (k+1) (nd B n):=by
 refine ⟨sn n,mC h2 h16 k n h,fun hh=>?_,mF h2 h16 n⟩;have:=uc h2 h16 n hh;subst this;rw [eU (by omega)];simp
theorem qI {B k:Nat} (h2:2≤B) (h16:B≤16) {w:List UInt8} (h:ph B k w):∃n,nvF B 0 w=some n∧n < B ^ k∧nd B n=w:=by
 obtain ⟨h0,hk,hz,hf⟩:=h;obtain ⟨m,hm,hb⟩:=mh w 0 hf;have hp:B ^ w.length≤B ^ k:=wo (by omega) hk;refine ⟨m,hm,by omega,vT h2 h16 w m h0 hm fun e=>?_⟩;have h1:=hz e;have h3:w.length≠0:=fun q=>h0 (dO q);omega
theorem mD {B:Nat} (h2:2≤B) (h16:B≤16) {a b:Nat} (h:nd B a=nd B b):a=b:=by
 have h1:=ux h2 h16 a;rw [h,ux h2 h16 b] at h1;exact (ao h1).symm
theorem kQ (B k:Nat) (cs:ByteArray) (csl:List UInt8) (hcs:∀b,csl.contains b=fig B b) (w:List UInt8) (hw:w.length≤9223372036854775807) (htr:cw (mkS w) cs=some (mkS (Lib.trimS w csl))) {α:Type} {f:Bool→Option α} {r:Option α}
  (hbad:¬ph B k w→f true=r) (hgood:ph B k w→f false=r):
  ((orE ((bN (mkS w))==0) (some (decide ((bN (mkS w)) > (k:Int))))).bind fun h=>
   (orE h ((cj (decide ((bN (mkS w)) > 1)) ((gg (mkS w) 0).bind fun j=>some (j==48))).bind fun c=>some c)).bind fun b=>
   (orE b ((cw (mkS w) cs).bind fun g=>some (!(eqS g (⟨#[]⟩:ByteArray))))).bind f)=r:=by
 rw [iz,bV,bsm]
 cases w with
 | nil=>exact hbad (fun h=>h.1 rfl)
 | cons x t=>
  have e0:(((x :: t).length:Int)==0)=false:=by rw [bc]; simp only [aj]; omega
  rw [e0,kD];by_cases hk:(x :: t).length≤k
  ·rw [show decide (((x :: t).length:Int) > (k:Int))=false by rw [bQ]; omega,dF];have hi:gg (mkS (x :: t)) 0=some ((x.toNat:Nat):Int):=kH (a:=x :: t) (i:=0) (by simp);rw [hi,bsm,bF,bsm,bsm];by_cases hz:(decide (((x :: t).length:Int) > 1) && (((x.toNat:Nat):Int)==48))=true
   ·rw [hz,gS,bsm];simp only [ax,bd,aa] at hz;refine hbad (fun h=>?_);have hx:x=48:=UInt8.toNat_inj.1 (by have:=hz.2; show x.toNat=48; omega);have:=h.2.2.1 (by rw [hx]; rfl);omega
   ·rw [Bool.eq_false_iff.2 hz,dF,htr,bsm,bsm];have hz2:(x :: t).head? = some 48→(x :: t).length≤1:=fun e=>by
     simp only [iX,aQ] at e;subst e;simp only [ax,bd,aa,not_and] at hz;rcases aG 1 ((48 :: t:List UInt8).length) with q | q
     ·exact absurd rfl (hz (by omega))
     ·exact q
    by_cases ha:∀b∈x :: t,fig B b=true
    ·rw [(oZ csl _ hcs _).2 ha];exact hgood ⟨by simp,hk,hz2,ha⟩
    ·have:eqS (mkS (Lib.trimS (x :: t) csl)) ⟨#[]⟩=false:=nf fun e=>ha ((oZ csl _ hcs _).1 (by
      have:=cP blS e;rw [dE] at this;exact this))
     rw [this];exact hbad (fun h=>ha h.2.2.2)
  ·rw [show decide (((x :: t).length:Int) > (k:Int))=true by rw [aa]; omega,gS,bsm,gS,bsm];exact hbad (fun h=>hk h.2.1)
theorem sT:∀(l:List UInt8) (acc:Nat),Lib.decFrom acc l=nvF 10 acc l
 | [],_=>rfl
 | b :: l,acc=>by
  have h:∀n:Fin 256,Lib.digitVal (UInt8.ofNat n)=(match uh (UInt8.ofNat n) with | some d=>if d < 10 then some d else none | none=>none):=by decide +kernel
  have hb:Lib.digitVal b=(match uh b with | some d=>if d < 10 then some d else none | none=>none):=by
   have:=h ⟨b.toNat,b.toNat_lt⟩;simpa using this
  simp only [Lib.decFrom,nvF,hb]
  cases uh b with
  | none=>rfl
  | some d=>
   simp only;by_cases hd':d < 10
   ·simp only [ai hd'];exact sT l _
   ·simp only [ag hd']
theorem td {d:List UInt8} {m:Nat} (h0:d≠ []) (h9:d.length≤9) (ha:∀b∈d,fig 10 b=true) (hm:nvF 10 0 d=some m):fh (mkS d)=some ((m:Int),Er.nil):=by
 unfold fh;rw [fg,ai (by omega),dE]
 cases d with
 | nil=>exact absurd rfl h0
 | cons x t=>
  have hx:=ha x (by simp);unfold Lib.atoi;have h1:(x==45)=false:=by
   rw [bc];intro e;subst e;exact absurd hx (by decide)
  have h2:(x==43)=false:=by
   rw [bc];intro e;subst e;exact absurd hx (by decide)
  show Option.map _ (if (x==45)=true then _ else if (x==43)=true then _ else _)=_;rw [h1,h2];simp only [bC,fY,Lib.decNat,List.isEmpty_cons,sT,hm];rfl
theorem pg (w:List UInt8) (hs:w.length≤9223372036854775807) (lim:Int):(∃n:Nat,n < 10000∧w=nd 10 n∧cx (mkS w) lim=some ((n:Int),decide ((n:Int) < lim)))∨((∀n:Nat,n < 10000→w≠nd 10 n)∧cx (mkS w) lim=some (0,false)):=by
 by_cases hn:ph 10 4 w
 ·left
  obtain ⟨n,hv,hb,he⟩:=qI (by omega) (by omega) hn;refine ⟨n,hb,he.symm,?_⟩;unfold cx;refine kQ 10 4 _ sS pC w hs (rQ hs) (fun h=>absurd hn h) fun _=>?_;rw [ag (by simp),td hn.1 (by have:=hn.2.1; omega) hn.2.2.2 hv,bsm];simp only [Er.isNil,bF,bsm,ol]
 ·right
  refine ⟨fun n hb e=>hn (by rw [e]; exact qJ (k:=3) (by omega) (by omega) hb),?_⟩;unfold cx;exact kQ 10 4 _ sS pC w hs (rQ hs) (fun _=>by rw [ai rfl]) fun h=>absurd h hn
abbrev mV (ns:List Nat):List Int:=List.map (fun (n:Nat)=>(n:Int)) ns
def fd (ns:List Nat):List UInt8:=bR 43 (ns.map (nd 16))
theorem sR {w:List UInt8} (h:∀b∈w,fig 16 b=true):(43:UInt8)∉w:=fun q=>absurd (h 43 q) (by decide)
theorem kq {ns:List Nat} (h:ns≠ []):bA 43 (fd ns)=ns.map (nd 16):=
 ko (by simpa using h) (fun w hw=>by
  obtain ⟨n,_,rfl⟩:=List.mem_map.1 hw;exact sR (mF (by omega) (by omega) n))
theorem ra {m:Nat} (h:m < 16777216):w32 (m:Int)=(m:Int):=uF (by omega)
theorem pV (w:List UInt8) (hw:w.length≤10000000):(∃ns:List Nat,ns≠ []∧(∀n∈ns,n < 16777216)∧w=fd ns∧eJ (mkS w)=some (mV ns,true))∨((∀ns:List Nat,ns≠ []→(∀n∈ns,n < 16777216)→w≠fd ns)∧eJ (mkS w)=some ([],false)):=by
 have hcount:=iy 43 w;have hcl:w.count 43≤w.length:=nB;have key:∃r,eJ (mkS w)=some r∧((∃ns:List Nat,r=(mV ns,true)∧bA 43 w=ns.map (nd 16)∧∀n∈ns,n < 16777216)∨(r=([],false)∧∃x∈bA 43 w,¬ph 16 6 x)):=by
  unfold eJ;rw [pb 43 (by rw [fg]; omega),bsm,dE];generalize hws:bA 43 w=ws at hcount⊢;have hlen:∀x∈ws,x.length≤w.length:=fun x hx=>by
   have h1:=gq 43 w;rw [hws] at h1;rw [←h1];have gen:∀l:List (List UInt8),x∈l→x.length≤(bR 43 l).length:=by
    intro l
    induction l with
    | nil=>intro h; cases h
    | cons y r ih=>
     intro h
     cases r with
     | nil=>rw [List.mem_singleton.1 h]; exact aB _
     | cons z s=>
      rw [bR,ac,aj];rcases List.mem_cons.1 h with rfl | h
      ·omega
      ·have:=ih h; omega
   exact gen ws hx
  refine jR (n:=ws.length) (fun i (a:List Int×Int)=>∃ns:List Nat,a=(mV ns,(i:Int))∧ws.take i=ns.map (nd 16)∧∀n∈ns,n < 16777216) (fun t=>(t= .inl ([],false)∧∃x∈ws,¬ph 16 6 x)∨∃ns:List Nat,t= .inr (mV ns)∧ws=ns.map (nd 16)∧∀n∈ns,n < 16777216) (fun i a hi hI=>?_) (fun a hI=>?_) ⟨[],rfl,rfl,by simp⟩ (by rw [an]; omega) (fun t ht=>?_)
  ·obtain ⟨ns,rfl,htk,hns⟩:=hI;have hmem:=aw hi;have hl1:=hlen _ hmem;simp only;rw [ai (by rw [aa,an]; omega),dj (by rw [an]; exact hi),bsm,cG];by_cases hn:ph 16 6 ws[i]
   ·left
    obtain ⟨m,hv,hb,he⟩:=qI (by omega) (by omega) hn;obtain ⟨m',hv',hb',hp⟩:=tX hn.1 hn.2.1 hn.2.2.2;rw [hv] at hv';cases hv';have hnl:ns.length=i:=by
     have:=cP List.length htk;rw [aC,an] at this;omega
    refine ⟨_,kQ 16 6 _ ne px ws[i] (by omega) (rP (by omega)) (r:=(some (.inl (mV (ns++ [m]),w64 ((i:Int)+1))):Option ((List Int×Int) ⊕ ((List Int×Bool) ⊕ List Int)))) (fun h=>absurd hn h) (fun _=>?_),ns++ [m],?_,?_,?_⟩
    ·rw [ag (by simp),hp,bsm];simp only [Er.isNil,ci];rw [ag (by simp),ra hb',lJ (by simp only [an,ae]; omega),bsm];simp [mV]
    ·rw [bi (by omega)];rfl
    ·rw [ay hi,htk,fH,←he];rfl
    ·intro n hn';rcases List.mem_append.1 hn' with h | h
     ·exact hns n h
     ·rw [List.mem_singleton.1 h]; exact hb'
   ·right
    exact ⟨_,kQ 16 6 _ ne px ws[i] (by omega) (rP (by omega)) (r:=(some (.inr (.inl ([],false))):Option ((List Int×Int) ⊕ ((List Int×Bool) ⊕ List Int)))) (fun _=>by rw [ai rfl]) (fun h=>absurd h hn),.inl ⟨rfl,_,hmem,hn⟩⟩
  ·obtain ⟨ns,rfl,htk,hns⟩:=hI;rw [cg] at htk;exact ⟨_,by simp only; rw [ag (by rw [aa,an]; omega)],.inr ⟨ns,rfl,htk,hns⟩⟩
  ·rcases ht with ⟨rfl,h⟩ | ⟨ns,rfl,h1,h2⟩
   ·exact ⟨_,rfl,.inr ⟨rfl,h⟩⟩
   ·exact ⟨_,rfl,.inl ⟨ns,rfl,h1,h2⟩⟩
 obtain ⟨r,hr,h⟩:=key;rcases h with ⟨ns,rfl,h1,h2⟩ | ⟨rfl,x,hx,hn⟩
 ·left
  have hne:ns≠ []:=fun e=>jP 43 w (by rw [h1,e]; rfl);refine ⟨ns,hne,h2,?_,hr⟩;have:=gq 43 w;rw [h1] at this;exact this.symm
 ·right
  refine ⟨fun ns hne hb e=>?_,hr⟩;subst e;rw [kq hne] at hx;obtain ⟨n,hn',rfl⟩:=List.mem_map.1 hx;exact hn (qJ (k:=5) (by omega) (by omega) (hb n hn'))
theorem sZ {a b:ak} (h1:a.Kind=b.Kind) (h2:a.Text=b.Text):a=b:=by
 cases a; cases b; simp_all
def vld (r:Int):Bool:=decide (0≤r) && decide (r≤1114111) && (decide (r < 55296) || decide (r > 57343))
theorem rn (r:Int):ct r=some (vld r):=by
 simp only [ct,bF,bV,bsm,vld,ge_iff_le]
theorem ri (r:Int):fj r=some (vld r):=by
 simp only [fj,bF,bV,bsm,vld,aQ];rw [Bool.eq_iff_iff];simp;omega
def rgt (c:ak):Bool:=
 if c.Kind=0∨c.Kind=3 then c.Text.isEmpty else (decide (c.Kind=1) || decide (c.Kind=2)) && decide (1≤c.Text.length) && decide (c.Text.length≤16) && c.Text.all vld
theorem kk {α:Type} (p:α→Bool) (l:List α) (i:Nat) (h:i < l.length):(l.take (i+1)).all p=((l.take i).all p && p l[i]):=by
 rw [ay h,List.all_append];simp
theorem ll {α:Type} {p:α→Bool} {l:List α} {i:Nat} (h:i < l.length) (hp:p l[i]=false):l.all p=false:=by
 rw [List.all_eq_false];exact ⟨_,aw h,by simp [hp]⟩
theorem lR {α:Type} (l:List α):((l.length:Int)==0)=l.isEmpty:=by
 cases l <;> simp <;> omega
theorem rq (c:ak):cq c=some (rgt c):=by
 unfold cq rgt;simp only [bV,bF,bsm];by_cases h1:c.Kind=0∨c.Kind=3
 ·have e:(c.Kind==0 || c.Kind==3)=true:=by rcases h1 with h | h <;> simp [h]
  rw [ai e,ai h1,lR]
 ·have e:(c.Kind==0 || c.Kind==3)=false:=by simp; omega
  rw [ag (by rw [e]; simp),ag h1];by_cases h2:((c.Kind=1∨c.Kind=2)∧1≤c.Text.length∧c.Text.length≤16)
  ·have e2:(((c.Kind != 1 && c.Kind != 2) || decide ((c.Text.length:Int) < 1)) || decide ((c.Text.length:Int) > 16))=false:=by
    simp; omega
   rw [ag (by rw [e2]; simp)];obtain ⟨t,h3,h4⟩:=gV (τ:=Bool ⊕ Unit) (n:=c.Text.length) (by omega) (fun t=>match t with | .inl b=>b=c.Text.all vld | .inr _=>c.Text.all vld=true) (fun i=>(c.Text.take i).all vld=true) (by simp)
    (step:=fun s_44=>
     if (decide (s_44 < (c.Text.length:Int)))=true then
     (idx c.Text s_44).bind fun x_54=>
     (ct x_54).bind fun x_56=>
     if (!x_56)=true then
     some (.inr (.inl false))
     else
     some (.inl ((w64 (s_44+1))))
     else
     some (.inr (.inr ())))
    (fun i hi hI=>by
     have e3:w64 ((i:Int)+1)=((i+1:Nat):Int):=by rw [bi (by omega)]; simp
     simp only [jo,hi,iL,gi,dj hi,bsm,rn,e3]
     cases hv:vld c.Text[i] with
     | true=>exact .inl ⟨by simp,by rw [kk _ _ _ hi,hI,hv]; rfl⟩
     | false=>exact .inr ⟨.inl false,by simp,(ll hi hv).symm⟩)
    (fun hI=>⟨.inr (),by simp,by simpa using hI⟩)
   rw [h3];simp only [bsm];have e4:(decide (c.Kind=1) || decide (c.Kind=2))=true:=by simp; exact h2.1
   rw [e4,fk h2.2.1,fk h2.2.2]
   cases t with
   | inl b=>simp only at h4; simp [h4]
   | inr u=>simp only at h4; simp [h4]
  ·have e2:(((c.Kind != 1 && c.Kind != 2) || decide ((c.Text.length:Int) < 1)) || decide ((c.Text.length:Int) > 16))=true:=by
    simp; omega
   rw [ai e2]
   congr 1
   symm
   simp only [Bool.and_eq_false_iff,gf,bQ];omega
theorem pE (r:Int):ez r=some (!vld r):=by simp [ez,ri]
theorem nI (l:List Int) (hl:l.length≤9223372036854775807):aK l=some (!l.all vld):=by
 unfold aK be;obtain ⟨t,h3,h4⟩:=gV (τ:=Int ⊕ Unit) (n:=l.length) (by omega) (fun t=>match t with | .inl i=>0≤i∧l.all vld=false | .inr _=>l.all vld=true) (fun i=>(l.take i).all vld=true) (by simp)
  (step:=fun s_7=>
   if (decide (s_7 < (l.length:Int)))=true then
   (idx l s_7).bind fun x_16=>
   (ez x_16).bind fun x_18=>
   if x_18=true then
   some (.inr (.inl s_7))
   else
   some (.inl ((w64 (s_7+1))))
   else
   some (.inr (.inr ())))
  (fun i hi hI=>by
   have e3:w64 ((i:Int)+1)=((i+1:Nat):Int):=by rw [bi (by omega)]; simp
   simp only [jo,hi,iL,gi,dj hi,bsm,pE,e3]
   cases hv:vld l[i] with
   | true=>exact .inl ⟨by simp,by rw [kk _ _ _ hi,hI,hv]; rfl⟩
   | false=>exact .inr ⟨.inl i,by simp,by omega,ll hi hv⟩)
  (fun hI=>⟨.inr (),by simp,by simpa using hI⟩)
 rw [h3];simp only [bsm]
 cases t with
 | inl b=>simp only at h4; simp [h4.1,h4.2]
 | inr u=>simp only at h4; simp [h4]
theorem ni (c:ak):eM c=some (rgt c):=by
 unfold eM rgt;by_cases h1:c.Kind=0∨c.Kind=3
 ·rw [ai h1];rcases h1 with h | h <;> simp [h,lR]
 ·have n0:(c.Kind==0)=false:=by simp; omega
  have n3:(c.Kind==3)=false:=by simp; omega
  rw [ag h1];simp only [n0,n3,bC,fY,bsm];by_cases h2:c.Kind=1∨c.Kind=2
  ·have e:(if (c.Kind==1)=true then some (c.Kind==1) else some (c.Kind==2):Option Bool)=some true:=by rcases h2 with h | h <;> simp [h]
   have e2:(decide (c.Kind=1) || decide (c.Kind=2))=true:=by simp; exact h2
   rw [e,e2];simp only [bsm,gi,bF,ol];by_cases h3:1≤c.Text.length∧c.Text.length≤16
   ·rw [nI _ (by omega)];have e4:(decide ((c.Text.length:Int) > 0) && decide ((c.Text.length:Int)≤16))=true:=by simp; omega
    have e5:(decide (1≤c.Text.length) && decide (c.Text.length≤16))=true:=by simp; exact h3
    rw [e4,e5];simp [fT]
   ·have e4:(decide ((c.Text.length:Int) > 0) && decide ((c.Text.length:Int)≤16))=false:=by simp; omega
    have e5:(decide (1≤c.Text.length) && decide (c.Text.length≤16))=false:=by simp; omega
    rw [e4,e5];simp [qp]
  ·have n1:(c.Kind==1)=false:=by simp; omega
   have n2:(c.Kind==2)=false:=by simp; omega
   have e2:(decide (c.Kind=1) || decide (c.Kind=2))=false:=by simp; omega
   rw [e2];simp [n1,n2]
def kd (l:List ak) (i:Nat):Int:=match l[i]? with | some c=>c.Kind | none=>0
theorem lQ {l:List ak} {i:Nat} (h:i < l.length):kd l i=l[i].Kind:=by simp [kd,aq h]
theorem sF {l:List ak} {i:Nat} (h:l.length≤i):kd l i=0:=by simp [kd,cO h]
def Snd (l:List ak):Prop:=∀i (h:i < l.length),rgt l[i]=true∧(l[i].Kind=2→kd l (i+1)=3)∧(l[i].Kind=3→0 < i∧kd l (i - 1)=2)
theorem sa (l:List ak) (i:Int):bM l i=some (if 0≤i then kd l i.toNat else 0):=by
 unfold bM;simp only [bV,bsm];by_cases h0:i < 0
 ·rw [ai (by simp [h0]),ag (by omega)]
 ·by_cases h1:i < l.length
  ·obtain ⟨k,rfl⟩:=Int.eq_ofNat_of_zero_le (show 0≤i by omega);have hk:k < l.length:=by omega
   rw [ag (by simp; omega),ai (by omega),dj hk];simp [lQ hk]
  ·rw [ai (by simp; omega),ai (by omega),sF (by omega)]
theorem rp (l:List ak) (hl:l.length≤9223372036854775807):∃b,da l=some b∧(b=true↔Snd l):=by
 unfold da;obtain ⟨t,h3,h4⟩:=gV (τ:=Bool ⊕ Unit) (n:=l.length) (by omega) (fun t=>match t with | .inl b=>b=false∧¬Snd l | .inr _=>Snd l)
  (fun i=>∀j (h:j < l.length),j < i→rgt l[j]=true∧(l[j].Kind=2→kd l (j+1)=3)∧(l[j].Kind=3→0 < j∧kd l (j - 1)=2)) (fun j _ h=>by omega)
  (step:=fun s_5=>
   if (decide (s_5 < (l.length:Int)))=true then
   (idx l s_5).bind fun x_13=>
   (cq x_13).bind fun x_15=>
   (orE (!x_15) ((idx l s_5).bind fun x_21=>
   (cj (x_21.Kind==2) ((bM l (w64 (s_5+1))).bind fun x_30=>
   some (x_30 != 3))).bind fun d_25=>
   some d_25)).bind fun d_17=>
   (orE d_17 ((idx l s_5).bind fun x_36=>
   (cj (x_36.Kind==3) ((bM l (w64 (s_5 - 1))).bind fun x_45=>
   some (x_45 != 2))).bind fun d_40=>
   some d_40)).bind fun d_32=>
   if d_32=true then
   some (.inr (.inl false))
   else
   some (.inl ((w64 (s_5+1))))
   else
   some (.inr (.inr ())))
  (fun i hi hI=>by
   have e3:w64 ((i:Int)+1)=((i+1:Nat):Int):=by rw [bi (by omega)]; simp
   have e4:w64 ((i:Int) - 1)=(i:Int) - 1:=bi (by omega);simp only [jo,hi,iL,gi,dj hi,bsm,rq,sa,e3,e4,bF,bV];by_cases hk:rgt l[i]=true∧(l[i].Kind=2→kd l (i+1)=3)∧(l[i].Kind=3→0 < i∧kd l (i - 1)=2)
   ·refine .inl ⟨?_,fun j h hj=>?_⟩
    ·rw [ag];obtain ⟨h1,h2,h5⟩:=hk;simp only [h1,ci,kD,bh,ax,bd,lH,ne_eq,not_or,not_and,Decidable.not_not];refine ⟨fun h=>?_,fun h=>?_⟩
     ·rw [ai (by omega)]; simpa using h2 h
     ·obtain ⟨h6,h7⟩:=h5 h;rw [ai (by omega),show ((i:Int) - 1).toNat=i - 1 by omega]; exact h7
    ·by_cases hji:j=i
     ·subst hji; exact hk
     ·exact hI j h (by omega)
   ·refine .inr ⟨.inl false,?_,rfl,fun hs=>hk (hs i hi)⟩;rw [ai]
    cases h1:rgt l[i] with
    | false=>simp
    | true=>
     simp only [h1,true_and] at hk;have hk:(l[i].Kind=2∧¬kd l (i+1)=3)∨(l[i].Kind=3∧¬(0 < i∧kd l (i - 1)=2)):=by
      by_cases hA:l[i].Kind=2→kd l (i+1)=3
      ·exact .inr (Classical.not_imp.1 fun hB=>hk ⟨hA,hB⟩)
      ·exact .inl (Classical.not_imp.1 hA)
     simp only [ci,kD,bh,ax,bd,lH,ne_eq];rcases hk with ⟨h,h2⟩ | ⟨h,h2⟩
     ·refine .inl ⟨h,?_⟩;rw [ai (by omega)]; simpa using h2
     ·refine .inr ⟨h,?_⟩;by_cases h0:i=0
      ·subst h0; simp
      ·rw [ai (by omega),show ((i:Int) - 1).toNat=i - 1 by omega];exact fun h3=>h2 ⟨by omega,h3⟩)
  (fun hI=>⟨.inr (),by simp,fun j h=>hI j h h⟩)
 rw [h3];simp only [bsm]
 cases t with
 | inl b=>exact ⟨b,rfl,by simp only at h4; rw [h4.1]; simp [h4.2]⟩
 | inr u=>exact ⟨true,rfl,by simpa using h4⟩
theorem nh (l:List ak) (hl:l.length≤9223372036854775807):∃b,fA l=some b∧(b=true↔Snd l):=by
 unfold fA
 let ld:Nat→Bool:=fun i=>match i with | 0=>false | k+1=>decide (kd l k=2)
 have key:∀i (h:i < l.length),((rgt l[i]=true∧(ld i=decide (l[i].Kind=3)))↔rgt l[i]=true∧(l[i].Kind=3→0 < i∧kd l (i - 1)=2)∧(0 < i→kd l (i - 1)=2→l[i].Kind=3)):=fun i h=>by
  cases i with
  | zero=>simp [ld]
  | succ k=>simp only [ld,wV,decide_eq_decide]; constructor <;> (rintro ⟨a,b⟩; exact ⟨a,by omega⟩)
 have snd:Snd l↔(∀i (h:i < l.length),rgt l[i]=true∧ld i=decide (l[i].Kind=3))∧ld l.length=false:=by
  constructor
  ·intro hs;refine ⟨fun i h=>(key i h).2 ⟨(hs i h).1,(hs i h).2.2,fun h0 h2=>?_⟩,?_⟩
   ·have:=(hs (i - 1) (by omega)).2.1 (by rw [←lQ]; exact h2);rw [show i - 1+1=i by omega,lQ h] at this;exact this
   ·cases hn:l.length with
    | zero=>rfl
    | succ k=>
     simp only [ld,bQ];intro h2;have:=(hs k (by omega)).2.1 (by rw [←lQ]; exact h2);rw [sF (by omega)] at this;cases this
  ·rintro ⟨h1,h2⟩ i h;have hk:=(key i h).1 (h1 i h);refine ⟨hk.1,fun h3=>?_,hk.2.1⟩;by_cases hn:i+1 < l.length
   ·have:=((key (i+1) hn).1 (h1 (i+1) hn)).2.2 (by omega) (by rw [wV,lQ h]; exact h3);rw [lQ hn]; exact this
   ·exfalso
    have e:l.length=i+1:=by omega
    rw [e] at h2;simp only [ld,bQ] at h2;rw [lQ h] at h2;exact h2 h3
 obtain ⟨t,h3,h4⟩:=kU (τ:=Bool ⊕ Bool) (fun s:Bool×Int=>∃i:Nat,s=(ld i,(i:Int))∧i≤l.length∧∀j (h:j < l.length),j < i→rgt l[j]=true∧ld j=decide (l[j].Kind=3)) (fun s=>l.length - s.2.toNat)
  (fun t=>match t with | .inl b=>b=false∧¬Snd l | .inr b=>(b=false↔Snd l))
  (step:=fun s_9=>
   if (decide (s_9.2 < (l.length:Int)))=true then
   (idx l s_9.2).bind fun x_12=>
   (eM x_12).bind fun x_18=>
   (orE (!x_18) (some (!(s_9.1==(x_12.Kind==3))))).bind fun d_20=>
   if d_20=true then
   some (.inr (.inl false))
   else
   some (.inl (x_12.Kind==2,(w64 (s_9.2+1))))
   else
   some (.inr (.inr (s_9.1))))
  (by
   rintro s ⟨i,rfl,hi,hI⟩;rcases aG i l.length with hlt | hge
   ·have e3:w64 ((i:Int)+1)=((i+1:Nat):Int):=by rw [bi (by omega)]; simp
    simp only [jo,hlt,iL,gi,dj hlt,bsm,ni,bV,e3];by_cases hk:rgt l[i]=true∧ld i=decide (l[i].Kind=3)
    ·refine .inl ⟨_,?_,⟨i+1,rfl,hlt,fun j h hj=>?_⟩,?_⟩
     ·rw [ag]
      ·simp only [ld,lQ hlt]; rfl
      ·rw [hk.1,hk.2]; simp; rfl
     ·by_cases hji:j=i
      ·subst hji; exact hk
      ·exact hI j h (by omega)
     ·simp; omega
    ·refine .inr ⟨.inl false,?_,rfl,fun hs=>hk ((snd.1 hs).1 i hlt)⟩;rw [ai]
     cases h1:rgt l[i] with
     | false=>simp
     | true=>
      simp only [h1,true_and] at hk;simp only [ci,kD,pS,bc,ne_eq];exact hk
   ·obtain rfl:i=l.length:=by omega
    refine .inr ⟨.inr (ld l.length),by simp,?_⟩;simp only;rw [snd];exact ⟨fun h=>⟨fun j hj=>hI j hj hj,h⟩,fun h=>h.2⟩) (((l.length:Int) - 0).toNat+1) (false,0) ⟨0,rfl,dw _,fun j _ h=>by omega⟩ (by simp)
 rw [h3];simp only [bsm]
 cases t with
 | inl b=>exact ⟨b,rfl,by simp only at h4; rw [h4.1]; simp [h4.2]⟩
 | inr b=>exact ⟨!b,rfl,by simp only at h4; rw [←h4]; cases b <;> simp⟩
theorem rj (a:List Int) (ha:a.length≤9223372036854775807) (b:List Int):∃t,cJ a b=some t∧(t=true↔a=b):=by
 unfold cJ;by_cases hl:a.length=b.length
 ·rw [ag (by simp [hl])];obtain ⟨t,h3,h4⟩:=gV (τ:=Bool ⊕ Unit) (n:=a.length) (by omega) (fun t=>match t with | .inl b'=>b'=false∧a≠b | .inr _=>a=b) (fun i=>∀j,j < i→a[j]? = b[j]?) (fun j h=>by omega)
   (step:=fun s_13=>
    if (decide (s_13 < (a.length:Int)))=true then
    (idx a s_13).bind fun x_21=>
    (idx b s_13).bind fun x_25=>
    if (x_21 != x_25)=true then
    some (.inr (.inl false))
    else
    some (.inl ((w64 (s_13+1))))
    else
    some (.inr (.inr ())))
   (fun i hi hI=>by
    have e3:w64 ((i:Int)+1)=((i+1:Nat):Int):=by rw [bi (by omega)]; simp
    simp only [jo,hi,iL,gi,dj hi,dj (show i < b.length by omega),bsm,e3];by_cases hk:a[i]=b[i]
    ·refine .inl ⟨by rw [ag (by simp [hk])],fun j hj=>?_⟩;by_cases hji:j=i
     ·subst hji; rw [aq hi,aq (show j < b.length by omega),hk]
     ·exact hI j (by omega)
    ·exact .inr ⟨.inl false,by rw [ai (by simpa using hk)],rfl,fun e=>hk (by subst e; rfl)⟩)
   (fun hI=>⟨.inr (),by simp,by
    apply ip;intro j;rcases aG j a.length with h | h
    ·exact hI j h
    ·rw [cO h,cO (by omega)]⟩)
  rw [h3];simp only [bsm]
  cases t with
  | inl b'=>exact ⟨b',rfl,by simp only at h4; rw [h4.1]; simp [h4.2]⟩
  | inr u=>exact ⟨true,rfl,by simpa using h4⟩
 ·rw [ai (by simp; omega)];exact ⟨false,rfl,by simp; intro e; subst e; exact hl rfl⟩
def Sht (l:List ak):Prop:=∀i (h:i < l.length),l[i].Text.length≤1000000
theorem Snd.sht {l:List ak} (h:Snd l):Sht l:=fun i hi=>by
 have:=(h i hi).1;unfold rgt at this;split at this
 ·have e:l[i].Text= []:=by simpa using this
  rw [e]; simp
 ·simp at this; omega
theorem pU (a:List ak) (ha:a.length≤9223372036854775807) (hs:Sht a) (b:List ak):∃t,cI a b=some t∧(t=true↔a=b):=by
 unfold cI;by_cases hl:a.length=b.length
 ·rw [ag (by simp [hl])];obtain ⟨t,h3,h4⟩:=gV (τ:=Bool ⊕ Unit) (n:=a.length) (by omega) (fun t=>match t with | .inl b'=>b'=false∧a≠b | .inr _=>a=b) (fun i=>∀j,j < i→a[j]? = b[j]?) (fun j h=>by omega)
   (step:=fun s_13=>
    if (decide (s_13 < (a.length:Int)))=true then
    (idx a s_13).bind fun x_21=>
    (idx b s_13).bind fun x_26=>
    (orE (x_21.Kind != x_26.Kind) ((idx a s_13).bind fun x_34=>
    (idx b s_13).bind fun x_39=>
    (cJ x_34.Text x_39.Text).bind fun x_42=>
    some (!x_42))).bind fun d_30=>
    if d_30=true then
    some (.inr (.inl false))
    else
    some (.inl ((w64 (s_13+1))))
    else
    some (.inr (.inr ())))
   (fun i hi hI=>by
    have e3:w64 ((i:Int)+1)=((i+1:Nat):Int):=by rw [bi (by omega)]; simp
    obtain ⟨t,ht,ht2⟩:=rj a[i].Text (by have:=hs i hi; omega) b[i].Text;simp only [jo,hi,iL,gi,dj hi,dj (show i < b.length by omega),bsm,e3,ht,bV];by_cases hk:a[i]=b[i]
    ·refine .inl ⟨by rw [ag (by rw [ht2.2 (by rw [hk])]; simp [hk])],fun j hj=>?_⟩;by_cases hji:j=i
     ·subst hji; rw [aq hi,aq (show j < b.length by omega),hk]
     ·exact hI j (by omega)
    ·refine .inr ⟨.inl false,?_,rfl,fun e=>hk (by subst e; rfl)⟩;rw [ai];by_cases hkk:a[i].Kind=b[i].Kind
     ·have:t=false:=by
       cases t with
       | false=>rfl
       | true=>exact absurd (sZ hkk (ht2.1 rfl)) hk
      simp [this]
     ·simp [hkk])
   (fun hI=>⟨.inr (),by simp,by
    apply ip;intro j;rcases aG j a.length with h | h
    ·exact hI j h
    ·rw [cO h,cO (by omega)]⟩)
  rw [h3];simp only [bsm]
  cases t with
  | inl b'=>exact ⟨b',rfl,by simp only at h4; rw [h4.1]; simp [h4.2]⟩
  | inr u=>exact ⟨true,rfl,by simpa using h4⟩
 ·rw [ai (by simp; omega)];exact ⟨false,rfl,by simp; intro e; subst e; exact hl rfl⟩
theorem rk {a:List ak} (ha:a.length≤9223372036854775807) (hs:Sht a):cI a a=some true:=by
 obtain ⟨t,h1,h2⟩:=pU a ha hs a;rw [h1,h2.2 rfl]
theorem mP (c:UInt8) (x:List UInt8):∀l:List (List UInt8),l≠ []→bR c (l++ [x])=bR c l++c :: x
 | [],h=>absurd rfl h
 | [y],_=>rfl
 | y :: z :: r,_=>by
  have:=mP c x (z :: r) (by simp);show y++c :: bR c (z :: r++ [x])=(y++c :: bR c (z :: r))++c :: x;rw [this,aA];rfl
theorem mG (c b:UInt8):∀l:List (List UInt8),b∈bR c l→b=c∨∃w∈l,b∈w
 | [],h=>by cases h
 | [y],h=> .inr ⟨y,by simp,h⟩
 | y :: z :: r,h=>by
  rcases List.mem_append.1 h with h | h
  ·exact .inr ⟨y,by simp,h⟩
  ·rcases List.mem_cons.1 h with h | h
   ·exact .inl h
   ·rcases mG c b (z :: r) h with h | ⟨w,h1,h2⟩
    ·exact .inl h
    ·exact .inr ⟨w,aI _ h1,h2⟩
theorem kT (c:UInt8) (k:Nat):∀l:List (List UInt8),(∀w∈l,w.length≤k)→(bR c l).length≤(k+1) * l.length
 | [],_=>by simp [bR]
 | [y],h=>by have:=h y (by simp); simp only [bR,ae]; omega
 | y :: z :: r,h=>by
  have h1:=h y (by simp);have h2:=kT c k (z :: r) (fun w hw=>h w (aI _ hw));rw [bR,ac,aj,aj,Nat.mul_add];omega
theorem kM {ns:List Nat} {b:UInt8} (h:b∈fd ns):b=43∨fig 16 b=true:=by
 rcases mG _ _ _ h with h | ⟨w,h1,h2⟩
 ·exact .inl h
 ·obtain ⟨n,_,rfl⟩:=List.mem_map.1 h1;exact .inr (mF (by omega) (by omega) n b h2)
theorem kN {ns:List Nat} (h:∀n∈ns,n < 16777216):(fd ns).length≤7 * ns.length:=by
 have:=kT 43 6 (ns.map (nd 16)) (fun w hw=>by
  obtain ⟨n,hn,rfl⟩:=List.mem_map.1 hw;exact mC (by omega) (by omega) 5 n (h n hn))
 rw [an] at this;exact this
theorem tW {ns:List Nat} (h:ns≠ []):fd ns≠ []:=by
 cases ns with
 | nil=>exact absurd rfl h
 | cons n r=>
  have:=sn (B:=16) n
  cases r with
  | nil=>exact this
  | cons m s=>
   show nd 16 n++43 :: bR 43 ((m :: s).map (nd 16))≠ [];simp
theorem mz {a b:List Nat} (ha:a≠ []) (hb:b≠ []) (h:fd a=fd b):a=b:=by
 have h1:=kq ha;rw [h,kq hb] at h1;have inj:∀(x y:List Nat),x.map (nd 16)=y.map (nd 16)→x=y:=by
  intro x
  induction x with
  | nil=>intro y hy; cases y with
   | nil=>rfl
   | cons _ _=>cases hy
  | cons u x ih=>intro y hy; cases y with
   | nil=>cases hy
   | cons v y=>
    obtain ⟨e1,e2⟩:=az hy;rw [mD (by omega) (by omega) e1,ih y e2]
 exact (inj b a h1).symm
theorem rt (ns:List Nat) (n:Nat) (h:ns≠ []):fd (ns++ [n])=fd ns++43 :: nd 16 n:=by
 unfold fd;rw [fH];exact mP 43 (nd 16 n) _ (by simpa using h)
def dV (c:ak):List UInt8:=if c.Kind=0 then [46] else if c.Kind=3 then [61] else if c.Kind=2 then 62 :: fd (c.Text.map Int.toNat) else fd (c.Text.map Int.toNat)
theorem sJ (ns:List Nat):(mV ns).map Int.toNat=ns:=by
 show (ns.map _).map _=ns;rw [fE]
 conv=>rhs; rw [←ny ns]
 exact ff fun n _=>rfl
theorem qu {r:Int} (h:vld r=true):0≤r∧r≤1114111:=by
 unfold vld at h;simp only [ax,aa] at h;exact ⟨h.1.1,h.1.2⟩
theorem sq {t:List Int} (h:∀r∈t,vld r=true):mV (t.map Int.toNat)=t:=by
 show (t.map _).map _=t;rw [fE]
 conv=>rhs; rw [←ny t]
 exact ff fun r hr=>by
  have:=qu (h r hr);show ((r.toNat:Nat):Int)=r;omega
theorem fO {c:ak} (h:rgt c=true):(c=⟨0,[]⟩∧dV c= [46])∨(c=⟨3,[]⟩∧dV c= [61])∨∃(k:Int) (ns:List Nat),(k=1∨k=2)∧c=⟨k,mV ns⟩∧ns≠ []∧ns.length≤16∧(∀n∈ns,n≤1114111)∧dV c=if k=2 then 62 :: fd ns else fd ns:=by
 obtain ⟨k,t⟩:=c;unfold rgt at h;simp only at h;by_cases h0:k=0
 ·subst h0;simp at h;subst h;exact .inl ⟨rfl,rfl⟩
 ·by_cases h3:k=3
  ·subst h3;simp at h;subst h;exact .inr (.inl ⟨rfl,rfl⟩)
  ·right; right
   rw [ag (by omega),ax,ax,ax,bh,aa,aa,aa,aa,lq] at h;obtain ⟨⟨⟨hk,a⟩,b⟩,h2⟩:=h;have h1:=And.intro a b;refine ⟨k,t.map Int.toNat,hk,by rw [sq h2],?_,by rw [an]; exact h1.2,?_,?_⟩
   ·intro e;have:=cP List.length e;rw [an,aM] at this;omega
   ·intro n hn;obtain ⟨r,hr,rfl⟩:=List.mem_map.1 hn;have:=qu (h2 r hr);omega
   ·unfold dV;simp only [ag h0,ag h3]
theorem tE {c:ak} (h:rgt c=true):fP c=some (mkS (dV c)):=by
 rcases fO h with ⟨rfl,e⟩ | ⟨rfl,e⟩ | ⟨k,ns,hk,rfl,hne,hl,hns,e⟩
 ·rw [e]; rfl
 ·rw [e]; rfl
 ·rw [e];have hb:=kN (ns:=ns) (fun n hn=>by have:=hns n hn; omega);unfold fP;simp only;rw [ag (by rw [bd]; omega),ag (by rw [bd]; omega)];refine gt (n:=ns.length) (fun i (a:List ByteArray×Int)=>a=((ns.take i).map (fun n=>mkS (nd 16 n)),(i:Int))) (fun t=>t=ns.map (fun n=>mkS (nd 16 n))) (fun i a hi hI=>?_) (fun a hI=>?_) rfl (by rw [an]; omega) (fun t ht=>?_)
  ·subst hI
   left
   have hm:=hns _ (aw hi);simp only;rw [ai (by rw [aa,an]; omega),dj (by rw [an]; exact hi),bsm,cG,bi (n:=((ns[i]:Nat):Int)) (by omega),sP (by omega),bsm,lJ (by rw [an,aC,ae]; omega),bsm];refine ⟨_,rfl,?_⟩;rw [ay hi,fH,bi (by omega)];rfl
  ·subst hI;refine ⟨_,by simp only; rw [ag (by rw [aa,an]; omega)],?_⟩;rw [cg]
  ·subst ht;have e1:ns.map (fun n=>mkS (nd 16 n))=(ns.map (nd 16)).map mkS:=by rw [fE]; rfl
   rw [e1,po 43 (by rw [an]; omega) (by
    have:(bR 43 (ns.map (nd 16))).length≤7 * ns.length:=hb;omega),bsm]
   rcases hk with rfl | rfl
   ·rw [ag (by decide),ag (by decide)];rfl
   ·rw [ai (by decide),ai rfl,show (⟨#[62]⟩:ByteArray)=mkS [62] from rfl,cM (by
     have:(bR 43 (ns.map (nd 16))).length≤7 * ns.length:=hb;simp only [ae]; omega),bsm]
    rfl
theorem pY {c:ak} (h:rgt c=true):dl c=some (mkS (dV c)):=by
 rcases fO h with ⟨rfl,e⟩ | ⟨rfl,e⟩ | ⟨k,ns,hk,rfl,hne,hl,hns,e⟩
 ·rw [e]; rfl
 ·rw [e]; rfl
 ·rw [e];have hb16:∀m:List Nat,(∀n∈m,n≤1114111)→m.length≤16→(fd m).length≤112:=fun m h1 h2=>by
   have:=kN (ns:=m) (fun n hn=>by have:=h1 n hn; omega);omega
  unfold dl;simp only;rw [ag (by rw [bd]; omega),ag (by rw [bd]; omega)];refine gt (n:=ns.length) (fun i (a:ByteArray×Int)=>a=(mkS (fd (ns.take i)),(i:Int))) (fun t=>t=mkS (fd ns)) (fun i a hi hI=>?_) (fun a hI=>?_) rfl (by rw [an]; omega) (fun t ht=>?_)
  ·subst hI
   left
   have hm:=hns _ (aw hi);have hl6:=mC (B:=16) (by omega) (by omega) 5 ns[i] (by omega);have hpl:=hb16 (ns.take i) (fun n hn=>hns n (dM hn)) (by rw [aC]; omega);simp only;rw [ai (by rw [aa,an]; omega)];by_cases h0:i=0
   ·subst h0;rw [ag (by simp),bsm,dj (by rw [an]; exact hi),bsm,cG,bi (n:=((ns[0]:Nat):Int)) (by omega),oa (by omega) (by omega),bsm,fV,cM (by omega),bsm];refine ⟨_,rfl,?_⟩;rw [ay hi];rfl
   ·rw [ai (by rw [aa]; omega),show (⟨#[43]⟩:ByteArray)=mkS [43] from rfl,cM (by simp only [ae]; omega),bsm,bsm,dj (by rw [an]; exact hi),bsm,cG,bi (n:=((ns[i]:Nat):Int)) (by omega),oa (by omega) (by omega),bsm,fV,
     cM (by rw [ac,ae]; omega),bsm]
    refine ⟨_,rfl,?_⟩;rw [ay hi,rt _ _ (by
     intro q;have:=cP List.length q;rw [aC,aM] at this;omega),bi (by omega),aA]
    rfl
  ·subst hI;refine ⟨_,by simp only; rw [ag (by rw [aa,an]; omega)],?_⟩;rw [cg]
  ·subst ht;have:=hb16 ns hns hl;rcases hk with rfl | rfl
   ·rw [ag (by decide),ag (by decide)]
   ·rw [ai (by decide),ai rfl,show (⟨#[62]⟩:ByteArray)=mkS [62] from rfl,cM (by simp only [ae]; omega),bsm];rfl
theorem sc (w:List UInt8):dz (mkS w) ⟨#[62]⟩=some (w.head? ==some 62):=by
 unfold dz cV;rw [show (⟨#[62]⟩:ByteArray)=mkS [62] from rfl,iz,iz]
 cases w with
 | nil=>rfl
 | cons x t=>
  rw [show decide (((x :: t).length:Int)≥(([62]:List UInt8).length:Int))=true by rw [aa]; simp only [aj,aM]; omega];have:=jO (a:=x :: t) (i:=0) (j:=1) (by omega) (by simp);rw [show ((0:Nat):Int)=0 from rfl,show ((1:Nat):Int)=(([62]:List UInt8).length:Int) from rfl] at this;rw [this,bsm];simp only [cj,gj,tv,iX];have e:(x :: t).take (1 - 0)= [x]:=rfl;rw [e];by_cases hx:x=62
  ·subst hx;rw [ej];rfl
  ·rw [nf (fun q=>hx (by
    have:=cP blS q;rw [dE,dE] at this;exact (az this).1))]
   have:(some x==some (62:UInt8))=false:=by simpa using hx
   rw [this];simp
theorem js {a b:List UInt8} (h:a≠b):eqS (mkS a) (mkS b)=false:=nf fun e=>h (by
 have:=cP blS e
 rwa [dE,dE] at this)
theorem lz {ns:List Nat} (h:ns≠ []):(fd ns).head?≠some 62:=by
 intro q;have hm:(62:UInt8)∈fd ns:=by
  cases e:fd ns with
  | nil=>exact absurd e (tW h)
  | cons x t=>
   rw [e] at q;simp at q;rw [q];simp
 rcases kM hm with h | h
 ·exact absurd h (by decide)
 ·exact absurd h (by decide)
theorem kL {ns:List Nat} (h:ns≠ []) (b:UInt8) (hb:fig 16 b=false) (h43:b≠43):fd ns≠ [b]:=fun q=>by
 rcases kM (ns:=ns) (b:=b) (by rw [q]; simp) with h | h
 ·exact h43 h
 ·rw [hb] at h; cases h
theorem qG (w:List UInt8) (hw:w.length≤10000000):(∃c,rgt c=true∧w=dV c∧gu (mkS w)=some (c,true))∨((∀c,rgt c=true→w≠dV c)∧∃c,gu (mkS w)=some (c,false)):=by
 unfold gu;by_cases h1:w= [46]
 ·left
  subst h1;exact ⟨⟨0,[]⟩,rfl,rfl,by rw [show (⟨#[46]⟩:ByteArray)=mkS [46] from rfl,ai (ej _)]⟩
 by_cases h2:w= [61]
 ·left
  subst h2;exact ⟨⟨3,[]⟩,rfl,rfl,by rw [ag (by rw [show (⟨#[46]⟩:ByteArray)=mkS [46] from rfl,js (by decide)]; decide),show (⟨#[61]⟩:ByteArray)=mkS [61] from rfl,ai (ej _)]⟩
 rw [show (⟨#[46]⟩:ByteArray)=mkS [46] from rfl,js h1,ag (by decide),show (⟨#[61]⟩:ByteArray)=mkS [61] from rfl,js h2,ag (by decide),sc,bsm];obtain ⟨v,k,hk,hv,hb,hlen⟩:∃(v:List UInt8) (k:Int),(k=1∨k=2)∧(w=if k=2 then 62 :: v else v)∧(if (w.head? ==some 62)=true then (dY (mkS w) 1 (bN (mkS w))).bind fun e=>some (e,(2:Int)) else some (mkS w,1))=some (mkS v,k)∧(v.length≤10000000∧(k=1→w.head?≠some 62)):=by
  by_cases h:w.head? = some 62
  ·obtain ⟨t,rfl⟩:∃t,w=62 :: t:=by
    cases w with
    | nil=>cases h
    | cons x t=>simp at h; exact ⟨t,by rw [h]⟩
   refine ⟨t,2,.inr rfl,by rw [ai rfl],?_,by simp only [aj] at hw; omega,fun e=>by omega⟩;rw [ai (by rfl),iz];have:=jO (a:=62 :: t) (i:=1) (j:=(62 :: t).length) (by simp) (aB _);rw [show ((1:Nat):Int)=1 from rfl] at this;rw [this,bsm];simp
  ·exact ⟨w,1,.inl rfl,by rw [ag (by decide)],by rw [ag (by simpa using h)],hw,fun _=>h⟩
 rw [hb,bsm];simp only;have hno:∀c,rgt c=true→w=dV c→∃ns:List Nat,ns≠ []∧(∀n∈ns,n≤1114111)∧v=fd ns∧c=⟨k,mV ns⟩:=by
  intro c hc e;rcases fO hc with ⟨_,e2⟩ | ⟨_,e2⟩ | ⟨k',ns,hk',rfl,hne,_,hns,e2⟩
  ·exact absurd (e.trans e2) h1
  ·exact absurd (e.trans e2) h2
  ·rw [e2] at e;rcases hk with rfl | rfl
   ·rcases hk' with rfl | rfl
    ·rw [ag (by decide)] at hv e;exact ⟨ns,hne,hns,by rw [←hv]; exact e,rfl⟩
    ·rw [ai rfl] at e;exact absurd (by rw [e]; rfl) (hlen.2 rfl)
   ·rw [ai rfl] at hv;rcases hk' with rfl | rfl
    ·rw [ag (by decide)] at e;exact absurd (by rw [←e,hv]; rfl) (lz hne)
    ·rw [ai rfl,hv] at e;exact ⟨ns,hne,hns,(az e).2,rfl⟩
 rcases pV v hlen.1 with ⟨ns,hne,hns,hvw,hr⟩ | ⟨hbad,hr⟩
 ·rw [hr,bsm];simp only;rw [ni,fT];simp only [bsm];by_cases hg:rgt ⟨k,mV ns⟩=true
  ·left
   refine ⟨_,hg,?_,by rw [hg]⟩;rw [hv,hvw];unfold dV;simp only [sJ];rcases hk with rfl | rfl
   ·rw [ag (by decide),ag (by decide),ag (by decide)]
   ·rw [ai rfl,ag (by decide),ag (by decide)]
  ·right
   refine ⟨fun c hc e=>?_,_,by rw [Bool.eq_false_iff.2 hg]⟩;obtain ⟨ns',hne',_,hv',rfl⟩:=hno c hc e;have:=mz hne hne' (hvw.symm.trans hv');subst this;exact hg hc
 ·rw [hr,bsm];simp only
  right
  refine ⟨fun c hc e=>?_,_,by rw [show ∀x,cj false x=some false from fun _=>rfl,bsm]⟩;obtain ⟨ns',hne',hns',hv',rfl⟩:=hno c hc e;exact hbad ns' hne' (fun n hn=>by have:=hns' n hn; omega) hv'
theorem qH {c:ak} (h:rgt c=true):gu (mkS (dV c))=some (c,true):=by
 have hl:(dV c).length≤10000000:=by
  rcases fO h with ⟨_,e⟩ | ⟨_,e⟩ | ⟨k,ns,hk,rfl,hne,hl,hns,e⟩
  ·rw [e]; decide
  ·rw [e]; decide
  ·have:=kN (ns:=ns) (fun n hn=>by have:=hns n hn; omega);rw [e];split
   ·simp only [aj]; omega
   ·omega
 rcases qG (dV c) hl with ⟨d,hd,e,h2⟩ | ⟨h1,_⟩
 ·
  have:d=c:=by
   rcases fO h with ⟨rfl,e1⟩ | ⟨rfl,e1⟩ | ⟨k,ns,hk,rfl,hne,_,hns,e1⟩ <;> rcases fO hd with ⟨rfl,e2⟩ | ⟨rfl,e2⟩ | ⟨k',ns',hk',rfl,hne',_,hns',e2⟩ <;> have e:=e1.symm.trans (e.trans e2)
   ·rfl
   ·exact absurd e (by decide)
   ·exfalso
    rcases hk' with rfl | rfl
    ·rw [ag (by decide)] at e;exact kL hne' 46 (by decide) (by decide) e.symm
    ·rw [ai rfl] at e;exact absurd (az e).1 (by decide)
   ·exact absurd e (by decide)
   ·rfl
   ·exfalso
    rcases hk' with rfl | rfl
    ·rw [ag (by decide)] at e;exact kL hne' 61 (by decide) (by decide) e.symm
    ·rw [ai rfl] at e;exact absurd (az e).1 (by decide)
   ·exfalso
    rcases hk with rfl | rfl
    ·rw [ag (by decide)] at e;exact kL hne 46 (by decide) (by decide) e
    ·rw [ai rfl] at e;exact absurd (az e).1 (by decide)
   ·exfalso
    rcases hk with rfl | rfl
    ·rw [ag (by decide)] at e;exact kL hne 61 (by decide) (by decide) e
    ·rw [ai rfl] at e;exact absurd (az e).1 (by decide)
   ·rcases hk with rfl | rfl <;> rcases hk' with rfl | rfl
    ·rw [ag (by decide),ag (by decide)] at e;rw [mz hne hne' e]
    ·rw [ag (by decide),ai rfl] at e;exact absurd (by rw [e]; rfl) (lz hne)
    ·rw [ai rfl,ag (by decide)] at e;exact absurd (by rw [←e]; rfl) (lz hne')
    ·rw [ai rfl,ai rfl] at e;rw [mz hne hne' (az e).2]
  rw [this] at h2;exact h2
 ·exact absurd rfl (h1 c h)
def nL (c:aF) (W H:Int):Prop:=(0≤c.Row∧c.Row < H)∧(0≤c.Col∧c.Col < W)∧(c.Pending=true→c.Col=W - 1)
theorem sV (c:aF) {W H:Int} (hW:1≤W∧W≤1024) (hH:1≤H∧H≤1024):∃b,ey c W H=some b∧(b=true↔nL c W H):=by
 have sW:oL 1 (mW W 1024)=W:=by unfold oL mW; omega
 have sH:oL 1 (mW H 1024)=H:=by unfold oL mW; omega
 unfold ey gw fF fG;simp only [bsm,sW,sH,bF];refine ⟨_,rfl,?_⟩;rw [bi (n:=H - 1) (by omega),bi (n:=W - 1) (by omega)];simp only [ax,bd,and_true];unfold nL oL mW
 cases c.Pending with
 | true=>
  constructor
  ·rintro ⟨a,b,d⟩;have d':c.Col=W - 1:=by simpa using d.symm
   omega
  ·intro h;have:=h.2.2 rfl;exact ⟨by omega,by omega,by simp [this]⟩
 | false=>
  constructor
  ·rintro ⟨a,b,_⟩;exact ⟨by omega,by omega,fun q=>by cases q⟩
  ·intro h;exact ⟨by omega,by omega,by simp⟩
theorem rr (c:aF) {W H:Int} (hW:1≤W∧W≤1024) (hH:1≤H∧H≤1024):∃b,cZ c W H=some b∧(b=true↔nL c W H):=by
 have sW:bB W=some W:=by
  unfold bB;rw [ag (by rw [aa]; omega),ag (by rw [aa]; omega)]
 have sH:bB H=some H:=by
  unfold bB;rw [ag (by rw [aa]; omega),ag (by rw [aa]; omega)]
 unfold cZ;simp only [sW,sH,bsm,bF,bV];refine ⟨_,rfl,?_⟩;rw [bi (n:=W - 1) (by omega)];unfold nL;simp only [ax,bh,pS,bd,aa]
 cases c.Pending with
 | true=>
  constructor
  ·rintro ⟨⟨⟨⟨a,b⟩,d⟩,e⟩,f⟩;exact ⟨⟨a,b⟩,⟨d,e⟩,fun _=>f.elim (fun q=>by cases q) id⟩
  ·rintro ⟨⟨a,b⟩,⟨d,e⟩,f⟩;exact ⟨⟨⟨⟨a,b⟩,d⟩,e⟩,.inr (f rfl)⟩
 | false=>
  constructor
  ·rintro ⟨⟨⟨⟨a,b⟩,d⟩,e⟩,f⟩;exact ⟨⟨a,b⟩,⟨d,e⟩,fun q=>by cases q⟩
  ·rintro ⟨⟨a,b⟩,⟨d,e⟩,f⟩;exact ⟨⟨⟨⟨a,b⟩,d⟩,e⟩,.inl rfl⟩
structure VwP (v:af):Prop where
 high:v.High=(v.Lines.length:Int)
 h1:1≤v.High
 h2:v.High≤1024
 w1:1≤v.Wide
 w2:v.Wide≤1024
 cur:nL v.At v.Wide v.High
 lines:∀l∈v.Lines,(l.Cells.length:Int)=v.Wide∧Snd l.Cells
def VwL (v:af):Prop:=v.Lines.length≤9223372036854775807∧∀l∈v.Lines,l.Cells.length≤9223372036854775807
theorem iP (v:af) (hv:VwL v):∃b,eK v=some b∧(b=true↔VwP v):=by
 unfold eK;simp only [bV,bsm]
 cases hg:((((v.High != (v.Lines.length:Int) || decide (v.High < 1)) || decide (v.High > 1024)) || decide (v.Wide < 1)) || decide (v.Wide > 1024)) with
 | true=>
  rw [gS,bsm,ai rfl];refine ⟨_,rfl,fun q=>(by cases q),fun q=>?_⟩;simp only [bh,lH,aa] at hg;obtain ⟨a1,a2,a3,a4,a5,_,_⟩:=q;omega
 | false=>
  simp only [gf,wA,bQ] at hg;obtain ⟨⟨⟨⟨a1,a2⟩,a3⟩,a4⟩,a5⟩:=hg;obtain ⟨b,b1,b2⟩:=sV v.At (W:=v.Wide) (H:=v.High) (by omega) (by omega);rw [b1,bsm,dF,bsm]
  cases b with
  | false=>
   rw [ai (by decide)];exact ⟨_,rfl,fun q=>(by cases q),fun q=>b2.2 q.cur⟩
  | true=>
   rw [ag (by simp)];refine jR (n:=v.Lines.length) (p:=fun b=>(b=true↔VwP v)) (fun i (a:Int)=>a=(i:Int)∧∀l∈v.Lines.take i,(l.Cells.length:Int)=v.Wide∧Snd l.Cells) (fun t=>(t= .inl false∧¬∀l∈v.Lines,(l.Cells.length:Int)=v.Wide∧Snd l.Cells)∨(t= .inr ()∧∀l∈v.Lines,(l.Cells.length:Int)=v.Wide∧Snd l.Cells)) (fun i a hi hI=>?_) (fun a hI=>?_) ⟨rfl,by simp⟩ (by omega) (fun t ht=>?_)
   ·obtain ⟨rfl,h⟩:=hI;have hm:=aw hi;have hl:=hv.1;obtain ⟨z,z1,z2⟩:=nh v.Lines[i].Cells (hv.2 _ hm);rw [ai (dlt hi),dj hi,bsm,z1,bsm];by_cases hc:(v.Lines[i].Cells.length:Int)=v.Wide∧Snd v.Lines[i].Cells
    ·left
     rw [show ((v.Lines[i].Cells.length:Int) != v.Wide)=false by simpa using hc.1,z2.2 hc.2,dF,bsm,ag (by simp),jp hi (by omega)];refine ⟨_,rfl,rfl,fun l hlm=>?_⟩;rw [ay hi] at hlm;rcases List.mem_append.1 hlm with q | q
     ·exact h l q
     ·rw [List.mem_singleton.1 q]; exact hc
    ·right
     have:orE ((v.Lines[i].Cells.length:Int) != v.Wide) (some (!z))=some true:=by
      rw [bV]
      congr 1
      cases z with
      | false=>simp
      | true=>
       have:¬(v.Lines[i].Cells.length:Int)=v.Wide:=fun q=>hc ⟨q,z2.1 rfl⟩;simpa using this
     rw [this,bsm,ai rfl];exact ⟨_,rfl,.inl ⟨rfl,fun q=>hc (q _ hm)⟩⟩
   ·obtain ⟨rfl,h⟩:=hI;rw [cg] at h;exact ⟨_,by rw [ag (by simp)],.inr ⟨rfl,h⟩⟩
   ·rcases ht with ⟨rfl,h⟩ | ⟨rfl,h⟩
    ·exact ⟨_,rfl,fun q=>(by cases q),fun q=>absurd q.lines h⟩
    ·exact ⟨_,rfl,fun _=>⟨a1,by omega,by omega,by omega,by omega,b2.1 rfl,h⟩,fun _=>rfl⟩
theorem jq (v:af) (hv:VwL v):∃b,bT v=some b∧(b=true↔VwP v):=by
 unfold bT;simp only [bV,bsm]
 cases hg:((((v.High != (v.Lines.length:Int) || decide (v.High < 1)) || decide (v.High > 1024)) || decide (v.Wide < 1)) || decide (v.Wide > 1024)) with
 | true=>
  rw [gS,bsm,ai rfl];refine ⟨_,rfl,fun q=>(by cases q),fun q=>?_⟩;simp only [bh,lH,aa] at hg;obtain ⟨a1,a2,a3,a4,a5,_,_⟩:=q;omega
 | false=>
  simp only [gf,wA,bQ] at hg;obtain ⟨⟨⟨⟨a1,a2⟩,a3⟩,a4⟩,a5⟩:=hg;obtain ⟨b,b1,b2⟩:=rr v.At (W:=v.Wide) (H:=v.High) (by omega) (by omega);rw [b1,bsm,dF,bsm]
  cases b with
  | false=>
   rw [ai (by decide)];exact ⟨_,rfl,fun q=>(by cases q),fun q=>b2.2 q.cur⟩
  | true=>
   rw [ag (by simp)];refine jR (n:=v.Lines.length) (p:=fun b=>(b=true↔VwP v)) (fun i (a:Int)=>a=(i:Int)∧∀l∈v.Lines.take i,(l.Cells.length:Int)=v.Wide∧Snd l.Cells) (fun t=>(t= .inl false∧¬∀l∈v.Lines,(l.Cells.length:Int)=v.Wide∧Snd l.Cells)∨(t= .inr ()∧∀l∈v.Lines,(l.Cells.length:Int)=v.Wide∧Snd l.Cells)) (fun i a hi hI=>?_) (fun a hI=>?_) ⟨rfl,by simp⟩ (by omega) (fun t ht=>?_)
   ·obtain ⟨rfl,h⟩:=hI;have hm:=aw hi;have hl:=hv.1;obtain ⟨z,z1,z2⟩:=rp v.Lines[i].Cells (hv.2 _ hm);rw [ai (dlt hi),dj hi,bsm,bsm,z1,bsm];by_cases hc:(v.Lines[i].Cells.length:Int)=v.Wide∧Snd v.Lines[i].Cells
    ·left
     rw [show ((v.Lines[i].Cells.length:Int) != v.Wide)=false by simpa using hc.1,z2.2 hc.2,dF,bsm,ag (by simp),jp hi (by omega)];refine ⟨_,rfl,rfl,fun l hlm=>?_⟩;rw [ay hi] at hlm;rcases List.mem_append.1 hlm with q | q
     ·exact h l q
     ·rw [List.mem_singleton.1 q]; exact hc
    ·right
     have:orE ((v.Lines[i].Cells.length:Int) != v.Wide) (some (!z))=some true:=by
      rw [bV]
      congr 1
      cases z with
      | false=>simp
      | true=>
       have:¬(v.Lines[i].Cells.length:Int)=v.Wide:=fun q=>hc ⟨q,z2.1 rfl⟩;simpa using this
     rw [this,bsm,ai rfl];exact ⟨_,rfl,.inl ⟨rfl,fun q=>hc (q _ hm)⟩⟩
   ·obtain ⟨rfl,h⟩:=hI;rw [cg] at h;exact ⟨_,by rw [ag (by simp)],.inr ⟨rfl,h⟩⟩
   ·rcases ht with ⟨rfl,h⟩ | ⟨rfl,h⟩
    ·exact ⟨_,rfl,fun q=>(by cases q),fun q=>absurd q.lines h⟩
    ·exact ⟨_,rfl,fun _=>⟨a1,by omega,by omega,by omega,by omega,b2.1 rfl,h⟩,fun _=>rfl⟩
def bW (ws:List (List UInt8)):List UInt8:=bR 32 ws++ [10]
def eD (l:ah):List (List UInt8):=[if l.Wrap then 43 else 45] :: l.Cells.map dV
def cD:List ah→List UInt8
 | []=>[]
 | l :: r=>bW (eD l)++cD r
def fI:List UInt8:=[115,99,114,101,101,110]
def cH:List UInt8:=[112,101,110,100,105,110,103]
def iw:List UInt8:=[97,117,116,111]
def wOn:List UInt8:=[111,110]
def jd:List UInt8:=[111,102,102]
def fC (W H:Int):List (List UInt8):=[fI,nd 10 W.toNat,nd 10 H.toNat]
def cX (c:aF):List (List UInt8):=[[97,116],nd 10 c.Row.toNat,nd 10 c.Col.toNat]++(if c.Pending then [cH] else [])
def gI (a:Bool):List (List UInt8):=[iw,if a then wOn else jd]
def fa (v:af):List UInt8:=bW (fC v.Wide v.High)++(bW (cX v.At)++(bW (gI v.Auto)++cD v.Lines))
theorem iR:∀a b:List ah,cD (a++b)=cD a++cD b
 | [],_=>rfl
 | l :: r,b=>by rw [dd,cD,cD,iR r b,aA]
theorem ku (l:ah):cD [l]=bW (eD l):=by rw [cD,cD,cS]
theorem jU {c:ak} (h:rgt c=true):(dV c).length≤113:=by
 rcases fO h with ⟨_,e⟩ | ⟨_,e⟩ | ⟨k,ns,hk,rfl,hne,hl,hns,e⟩
 ·rw [e]; decide
 ·rw [e]; decide
 ·have:=kN (ns:=ns) (fun n hn=>by have:=hns n hn; omega);rw [e];split
  ·simp only [aj]; omega
  ·omega
theorem iO {l:List ak} (h:Snd l):∀c∈l,rgt c=true:=fun c hc=>by
 obtain ⟨i,hi,rfl⟩:=List.mem_iff_getElem.1 hc;exact (h i hi).1
theorem my {l:ah} (h:∀c∈l.Cells,rgt c=true) (hl:l.Cells.length≤1024):(bW (eD l)).length≤116851∧(bR 32 (eD l)).length≤116850:=by
 have:=kT 32 113 (eD l) (fun w hw=>by
  rcases List.mem_cons.1 hw with rfl | hw
  ·simp
  ·obtain ⟨c,hc,rfl⟩:=List.mem_map.1 hw;exact jU (h c hc))
 unfold eD at this;rw [aj,an] at this;unfold bW;rw [ac,ae];unfold eD;omega
theorem gT:∀ls:List ah,(∀l∈ls,(∀c∈l.Cells,rgt c=true)∧l.Cells.length≤1024)→(cD ls).length≤116851 * ls.length
 | [],_=>by simp [cD]
 | l :: r,h=>by
  have h1:=(my (h l (by simp)).1 (h l (by simp)).2).1;have h2:=gT r (fun x hx=>h x (aI _ hx));rw [cD,ac,aj];omega
theorem mn {ws:List (List UInt8)} (h1:ws.length≤1000000) (h2:(bR 32 ws).length≤1000000):eF (ws.map mkS)=some (mkS (bW ws)):=by
 unfold eF;rw [po 32 (by omega) (by omega),bsm,show (⟨#[10]⟩:ByteArray)=mkS [10] from rfl,cM (by simp only [ae]; omega),bsm];rfl
theorem gz {n:Int} (h:0≤n) (h2:n≤1024):(nd 10 n.toNat).length≤4:=mC (by omega) (by omega) 3 _ (by omega)
theorem mr {a b:List UInt8} (h:a.length+b.length≤1000000000):pK a (mkS b)=some (a++b):=by
 unfold pK;rw [fg,dE,ai (by omega)]
theorem na {v:af} (h:VwP v):(bR 32 (fC v.Wide v.High)).length≤50∧(bR 32 (cX v.At)).length≤50∧(bR 32 (gI v.Auto)).length≤50:=by
 have a1:=h.h1; have a2:=h.h2; have a3:=h.w1; have a4:=h.w2; have c:=h.cur;have l1:=gz (n:=v.Wide) (by omega) (by omega);have l2:=gz (n:=v.High) (by omega) (by omega);have l3:=gz (n:=v.At.Row) c.1.1 (by have:=c.1.2; omega);have l4:=gz (n:=v.At.Col) c.2.1.1 (by have:=c.2.1.2; omega);refine ⟨?_,?_,?_⟩
 ·simp only [fC,bR,fI,ac,aj,aM]; omega
 ·unfold cX;cases v.At.Pending
  ·simp only [bC,fY,cS,bR,ac,aj,aM]; omega
  ·simp only [gi,dd,cR,bR,cH,ac,aj,aM]; omega
 ·cases v.Auto <;> decide
theorem et (ws:List (List UInt8)):(bW ws).length=(bR 32 ws).length+1:=by
 unfold bW;rw [ac,ae]
theorem tG {v:af} (h:VwP v) (hv:VwL v):eG v=some (mkS (fa v)):=by
 obtain ⟨b,b1,b2⟩:=iP v hv;have a1:=h.h1; have a2:=h.h2; have a3:=h.w1; have a4:=h.w2; have c:=h.cur;obtain ⟨l0,l1,l2⟩:=na h;have hln:∀l∈v.Lines,(∀c∈l.Cells,rgt c=true)∧l.Cells.length≤1024:=fun l hl=>by
  obtain ⟨q1,q2⟩:=h.lines l hl;exact ⟨iO q2,by omega⟩
 have hhi:=h.high;unfold eG;rw [b1,b2.2 h,bsm,ag (by decide),mo (by omega) (by omega),bsm,mo (by omega) (by omega),bsm];rw [show ([(⟨#[115,99,114,101,101,110]⟩:ByteArray),mkS (nd 10 v.Wide.toNat),mkS (nd 10 v.High.toNat)]:List ByteArray)=(fC v.Wide v.High).map mkS from rfl,mn (by simp [fC]) (by omega),bsm,mr (by rw [et]; simp only [aM]; omega),bsm,
  mo c.1.1 (by have:=c.1.2; omega),bsm,mo c.2.1.1 (by have:=c.2.1.2; omega),bsm]
 have hx:(if v.At.Pending=true then
   (app ([(⟨#[97,116]⟩:ByteArray),mkS (nd 10 v.At.Row.toNat),mkS (nd 10 v.At.Col.toNat)]:List ByteArray) ([(⟨#[112,101,110,100,105,110,103]⟩:ByteArray)]:List ByteArray)).bind fun l=>some (l)
   else some (([(⟨#[97,116]⟩:ByteArray),mkS (nd 10 v.At.Row.toNat),mkS (nd 10 v.At.Col.toNat)]:List ByteArray)))=some ((cX v.At).map mkS):=by
  unfold cX
  cases v.At.Pending with
  | true=>rw [ai rfl,lJ (by simp),bsm]; rfl
  | false=>rw [ag (by decide)]; rfl
 rw [hx,bsm,mn (by unfold cX; cases v.At.Pending <;> simp) (by omega),bsm,mr (by rw [cR,et,et]; omega),bsm];have hp:eE v.Auto (⟨#[111,110]⟩:ByteArray) (⟨#[111,102,102]⟩:ByteArray)=some (mkS (if v.Auto then wOn else jd)):=by
  unfold eE
  cases v.Auto <;> rfl
 rw [hp,bsm,show ([(⟨#[97,117,116,111]⟩:ByteArray),mkS (if v.Auto then wOn else jd)]:List ByteArray)=(gI v.Auto).map mkS from rfl,mn (by simp [gI]) (by omega),bsm,
  mr (by rw [cR,ac,et,et,et]; omega),bsm]
 have hall:=gT v.Lines hln;refine gt (n:=v.Lines.length) (fun i (a:Int×List UInt8)=>a=((i:Int),([]++bW (fC v.Wide v.High)++bW (cX v.At)++bW (gI v.Auto))++cD (v.Lines.take i))) (fun t=>t=fa v) (fun i a hi hI=>?_) (fun a hI=>?_) (by simp [cD]) (by omega) (fun t ht=>by rw [ht])
 ·subst hI
  left
  have hm:=aw hi;obtain ⟨r1,r2⟩:=hln _ hm;obtain ⟨y1,y2⟩:=my r1 r2;have htk:=gT (v.Lines.take i) (fun l hl=>hln l (dM hl));rw [aC,eR (by omega)] at htk;simp only;rw [ai (dlt hi),dj hi,bsm];have hpw:eE v.Lines[i].Wrap (⟨#[43]⟩:ByteArray) (⟨#[45]⟩:ByteArray)=some (mkS [if v.Lines[i].Wrap then 43 else 45]):=by
   unfold eE
   cases v.Lines[i].Wrap <;> rfl
  rw [hpw,bsm];have hin:∃t,ed (((v.Lines[i].Cells.length:Int) - 0).toNat+1) (fun (b:List ByteArray×Int)=>
    if (decide (b.2 < (v.Lines[i].Cells.length:Int)))=true then
    (idx v.Lines[i].Cells b.2).bind fun s=>
    (fP s).bind fun t=>
    (app b.1 ([t]:List ByteArray)).bind fun u=>
    some (.inl (u,(w64 (b.2+1))))
    else
    some (.inr (b.1))) (([mkS [if v.Lines[i].Wrap then 43 else 45]]:List ByteArray),0)=some t∧t=(eD v.Lines[i]).map mkS:=by
   refine jt (n:=v.Lines[i].Cells.length) (fun j (a:List ByteArray×Int)=>a=(mkS [if v.Lines[i].Wrap then 43 else 45] :: (v.Lines[i].Cells.take j).map (fun c=>mkS (dV c)),(j:Int))) _ (fun j a hj hJ=>?_) (fun a hJ=>?_) rfl (by omega)
   ·subst hJ
    left
    simp only;rw [ai (dlt hj),dj hj,bsm,tE (r1 _ (aw hj)),bsm,lJ (by rw [aj,an,aC,ae]; omega),bsm,bi (by omega)];refine ⟨_,rfl,?_⟩;rw [ay hj,fH];rfl
   ·subst hJ;refine ⟨_,by simp only; rw [ag (by simp)],?_⟩;rw [cg];unfold eD;rw [iH,fE];rfl
  obtain ⟨t,ht,rfl⟩:=hin;rw [ht,bsm,mn (by unfold eD; rw [aj,an]; omega) (by omega),bsm,mr (by
   simp only [ac,aM,et];rw [et] at y1;omega),bsm,bi (by omega)]
  refine ⟨_,rfl,?_⟩;rw [ay hi,iR,ku];simp only [aA];rfl
 ·subst hI;refine ⟨_,by simp only; rw [ag (by simp)],?_⟩;rw [cg];unfold fa;simp only [cR,aA]
theorem tF {v:af} (h:¬VwP v) (hv:VwL v):eG v=some ⟨#[]⟩:=by
 obtain ⟨b,b1,b2⟩:=iP v hv;unfold eG
 cases b with
 | true=>exact absurd (b2.1 rfl) h
 | false=>rw [b1,bsm,ai (by decide)]
theorem sd (c:UInt8):∀(w:List UInt8) (ws:List (List UInt8)),bR c (w :: ws)=w++(ws.map (fun x=>c :: x)).flatten
 | w,[]=>by simp [bR]
 | w,x :: r=>by
  rw [bR,sd c x r];simp
theorem kp {v:af} (h:VwP v):ce v=some (mkS (fa v)):=by
 have a1:=h.h1; have a2:=h.h2; have a3:=h.w1; have a4:=h.w2; have c:=h.cur;have hhi:=h.high;have hln:∀l∈v.Lines,(∀c∈l.Cells,rgt c=true)∧l.Cells.length≤1024:=fun l hl=>by
  obtain ⟨q1,q2⟩:=h.lines l hl;exact ⟨iO q2,by omega⟩
 have b1:=gz (n:=v.Wide) (by omega) (by omega);have b2:=gz (n:=v.High) (by omega) (by omega);have b3:=gz (n:=v.At.Row) c.1.1 (by have:=c.1.2; omega);have b4:=gz (n:=v.At.Col) c.2.1.1 (by have:=c.2.1.2; omega);have hall:=gT v.Lines hln;have c1:(⟨#[115,99,114,101,101,110,32]⟩:ByteArray)=mkS (fI++ [32]):=rfl;have c2:(⟨#[32]⟩:ByteArray)=mkS [32]:=rfl;have c3:(⟨#[10,97,116,32]⟩:ByteArray)=mkS [10,97,116,32]:=rfl;have c4:(⟨#[32,112,101,110,100,105,110,103]⟩:ByteArray)=mkS (32 :: cH):=rfl;have c5:(⟨#[10,97,117,116,111,32,111,110,10]⟩:ByteArray)=mkS (10 :: iw++32 :: wOn++ [10]):=rfl;have c6:(⟨#[10,97,117,116,111,32,111,102,102,10]⟩:ByteArray)=mkS (10 :: iw++32 :: jd++ [10]):=rfl;have s1:(fI++ [32]).length=7:=rfl;have s2:fI.length=6:=rfl;unfold ce;rw [jT (by omega) (by omega),bsm,c1,c2,c3,c4,c5,c6,cM (by omega),bsm,cM (by simp only [ac,ae]; omega),bsm,jT (by omega) (by omega),bsm,cM (by simp only [ac,ae]; omega),bsm,
  cM (by simp only [ac,aj,aM]; omega),bsm,jT c.1.1 (by have:=c.1.2; omega),bsm,cM (by simp only [ac,aj,aM]; omega),bsm,cM (by simp only [ac,aj,aM]; omega),bsm,
  jT c.2.1.1 (by have:=c.2.1.2; omega),bsm,cM (by simp only [ac,aj,aM]; omega),bsm]
 generalize hX:fI++ [32]++nd 10 v.Wide.toNat++ [32]++nd 10 v.High.toNat++ [10,97,116,32]++nd 10 v.At.Row.toNat++ [32]++nd 10 v.At.Col.toNat=X;have hXl:X.length≤40:=by
  rw [←hX];simp only [ac,aj,aM,fI];omega
 have hp:(if v.At.Pending=true then (ek (mkS X) (mkS (32 :: cH))).bind fun s=>some (s) else some (mkS X))=some (mkS (X++if v.At.Pending then 32 :: cH else [])):=by
  cases v.At.Pending with
  | true=>rw [ai rfl,cM (by simp only [aj,cH,aM]; omega),bsm]; rfl
  | false=>rw [ag (by decide)]; simp
 rw [hp,bsm];have hpl:(if v.At.Pending then 32 :: cH else []:List UInt8).length≤8:=by cases v.At.Pending <;> decide
 have ha:(if v.Auto=true then (ek (mkS (X++if v.At.Pending then 32 :: cH else [])) (mkS (10 :: iw++32 :: wOn++ [10]))).bind fun t=>some (t)
   else (ek (mkS (X++if v.At.Pending then 32 :: cH else [])) (mkS (10 :: iw++32 :: jd++ [10]))).bind fun u=>some (u))=some (mkS (X++(if v.At.Pending then 32 :: cH else [])++(10 :: iw++32 :: (if v.Auto then wOn else jd)++ [10]))):=by
  cases v.Auto with
  | true=>rw [ai rfl,cM (by rw [ac]; simp only [iw,wOn,ac,aj,aM]; omega),bsm]; rfl
  | false=>rw [ag (by decide),cM (by rw [ac]; simp only [iw,jd,ac,aj,aM]; omega),bsm]; rfl
 rw [ha,bsm];have hhead:X++(if v.At.Pending then 32 :: cH else [])++(10 :: iw++32 :: (if v.Auto then wOn else jd)++ [10])=bW (fC v.Wide v.High)++(bW (cX v.At)++bW (gI v.Auto)):=by
  rw [←hX];unfold bW fC cX gI
  cases v.At.Pending <;> simp [bR,aA]
 rw [hhead];have hhl:(bW (fC v.Wide v.High)++(bW (cX v.At)++bW (gI v.Auto))).length≤153:=by
  obtain ⟨q0,q1,q2⟩:=na h;simp only [ac,et];omega
 generalize hY:bW (fC v.Wide v.High)++(bW (cX v.At)++bW (gI v.Auto))=Y at hhl;have hview:fa v=Y++cD v.Lines:=by
  rw [←hY];unfold fa;simp only [aA]
 rw [hview];refine gt (n:=v.Lines.length) (fun i (a:ByteArray×Int)=>a=(mkS (Y++cD (v.Lines.take i)),(i:Int))) (fun t=>t=mkS (Y++cD v.Lines)) (fun i a hi hI=>?_) (fun a hI=>?_) (by simp [cD]) (by omega) (fun t ht=>by rw [ht])
 ·subst hI
  left
  have hm:=aw hi;obtain ⟨r1,r2⟩:=hln _ hm;obtain ⟨y1,y2⟩:=my r1 r2;have htk:=gT (v.Lines.take i) (fun l hl=>hln l (dM hl));rw [aC,eR (by omega)] at htk;simp only;rw [ai (dlt hi)];simp only [dj hi,bsm];have hw:(if v.Lines[i].Wrap=true then (ek (mkS (Y++cD (v.Lines.take i))) (⟨#[43]⟩:ByteArray)).bind fun w=>some (w) else (ek (mkS (Y++cD (v.Lines.take i))) (⟨#[45]⟩:ByteArray)).bind fun x=>some (x))=some (mkS (Y++cD (v.Lines.take i)++ [if v.Lines[i].Wrap then 43 else 45])):=by
   cases v.Lines[i].Wrap with
   | true=>rw [ai rfl,show (⟨#[43]⟩:ByteArray)=mkS [43] from rfl,cM (by rw [ac,ae]; omega),bsm]; rfl
   | false=>rw [ag (by decide),show (⟨#[45]⟩:ByteArray)=mkS [45] from rfl,cM (by rw [ac,ae]; omega),bsm]; rfl
  rw [hw,bsm];generalize hZ:Y++cD (v.Lines.take i)++ [if v.Lines[i].Wrap then 43 else 45]=Z;have hZl:Z.length≤130000000:=by
   rw [←hZ];simp only [ac,ae];omega
  have hcl:∀m:List ak,(∀c∈m,rgt c=true)→((m.map (fun c=>32 :: dV c)).flatten).length≤114 * m.length:=by
   intro m
   induction m with
   | nil=>intro _; simp
   | cons x m ih=>
    intro hh;have q1:=jU (hh x (by simp));have q2:=ih (fun c hc=>hh c (aI _ hc));simp only [iH,km,ac,aj];omega
  refine ⟨_,gt (n:=v.Lines[i].Cells.length) (fun j (a:ByteArray×Int)=>a=(mkS (Z++((v.Lines[i].Cells.take j).map (fun c=>32 :: dV c)).flatten),(j:Int))) (fun t=>t=mkS (Z++(v.Lines[i].Cells.map (fun c=>32 :: dV c)).flatten)) (r:=(some (.inl (mkS (Z++(v.Lines[i].Cells.map (fun c=>32 :: dV c)).flatten++ [10]),w64 ((i:Int)+1))):Option ((ByteArray×Int) ⊕ ByteArray))) (fun j a hj hJ=>?_) (fun a hJ=>?_) (by simp) (by omega) (fun t ht=>?_),?_⟩
  ·subst hJ
   left
   have q1:=hcl (v.Lines[i].Cells.take j) (fun c hc=>r1 c (dM hc));rw [aC,eR (by omega)] at q1;have q2:=jU (r1 _ (aw hj));simp only;rw [ai (dlt hj),cM (by rw [ac,ae]; omega),bsm,dj hj,bsm,pY (r1 _ (aw hj)),bsm,cM (by simp only [ac,ae]; omega),bsm,bi (by omega)];refine ⟨_,rfl,?_⟩;rw [ay hj,fH,List.flatten_append];simp [aA]
  ·subst hJ;refine ⟨_,by simp only; rw [ag (by simp)],?_⟩;rw [cg]
  ·subst ht;have q1:=hcl v.Lines[i].Cells r1;rw [show (⟨#[10]⟩:ByteArray)=mkS [10] from rfl,cM (by rw [ac,ae]; omega),bsm]
  ·rw [ay hi,iR,ku,bi (by omega)];refine Prod.ext ?_ rfl;show mkS _=mkS _
   congr 1
   rw [←hZ];unfold bW eD;rw [sd,fE];simp only [aA];rfl
 ·subst hI;refine ⟨_,by simp only; rw [ag (by simp)],?_⟩;rw [cg]
def gH (g:Sto→ByteArray→Option (Sto×Bool)) (sg:Sto) (p0:ab):Option (Sto×ab):=
 if p0.bad=true then
 some (sg,p0)
 else
 (if (decide (p0.at_≥(p0.words.length:Int)))=true then some (true,sg) else (idx p0.words p0.at_).bind fun c=>
 (g sg c).bind fun b=>
 some (!b.2,b.1)).bind fun a=>
 if a.1=true then
 some (a.2,(⟨p0.words,p0.at_,true⟩:ab))
 else
 some (a.2,(⟨p0.words,(w64 (p0.at_+1)),p0.bad⟩:ab))
theorem tR (sg:Sto) (p:ab) (d:Nat):aL sg p d=gH (fun s w=>bE s w d) sg p:=rfl
theorem tQ (sg:Sto) (p:ab) (d:Nat):aH sg p d=gH (fun s w=>bu s w d) sg p:=rfl
theorem tM (sg:Sto) (p:ab) (a:Int) (k:Nat) (b:Int):aV sg p a k b=gH (fun s w=>cc s w a k b) sg p:=rfl
theorem tL (sg:Sto) (p:ab) (a:Int) (k:Nat) (b:Int):aU sg p a k b=gH (fun s w=>bZ s w a k b) sg p:=rfl
theorem tK (sg:Sto) (p:ab) (a:Int) (k:Nat) (b:Int):aT sg p a k b=gH (fun s w=>bY s w a k b) sg p:=rfl
theorem tJ (sg:Sto) (p:ab) (a:Int) (k:Nat) (b:Int):aS sg p a k b=gH (fun s w=>bX s w a k b) sg p:=rfl
theorem tP (sg:Sto) (p:ab) (q:Option Nat):aO sg p q=gH (fun s w=>bL s w q) sg p:=rfl
theorem tN (sg:Sto) (p:ab) (q:Option Nat):aN sg p q=gH (fun s w=>bK s w q) sg p:=rfl
abbrev Ps (ws:List (List UInt8)) (k:Nat) (b:Bool):ab:=⟨ws.map mkS,(k:Int),b⟩
theorem rT (g:Sto→ByteArray→Option (Sto×Bool)) (s:Sto) (ws:List (List UInt8)) (k:Nat):gH g s (Ps ws k true)=some (s,Ps ws k true):=rfl
theorem rR (g:Sto→ByteArray→Option (Sto×Bool)) (s:Sto) {ws:List (List UInt8)} {k:Nat} (h:ws.length≤k):gH g s (Ps ws k false)=some (s,Ps ws k true):=by
 unfold gH;rw [ag (by simp),ai (by simp only [aa,an]; omega)];rfl
theorem tH {g:Sto→ByteArray→Option (Sto×Bool)} {s s':Sto} {ws:List (List UInt8)} {k:Nat} (h:k < ws.length) (hl:ws.length≤1000000000) (hg:g s (mkS ws[k])=some (s',true)):gH g s (Ps ws k false)=some (s',Ps ws (k+1) false):=by
 unfold gH;rw [ag (by simp),ag (by simp only [aa,an]; omega)];simp only;rw [dj (by rw [an]; exact h),bsm,cG,hg,bsm,bsm,ag (by simp),bi (by omega)];rfl
theorem tI {g:Sto→ByteArray→Option (Sto×Bool)} {s s':Sto} {ws:List (List UInt8)} {k:Nat} (h:k < ws.length) (hg:g s (mkS ws[k])=some (s',false)):gH g s (Ps ws k false)=some (s',Ps ws k true):=by
 unfold gH;rw [ag (by simp),ag (by simp only [aa,an]; omega)];simp only;rw [dj (by rw [an]; exact h),bsm,cG,hg,bsm,bsm,ai (by simp)]
theorem uV (x:List UInt8) (ws:List (List UInt8)) (k:Nat):av (Ps ws k true) (mkS x)=some (Ps ws k true):=rfl
theorem uU (x:List UInt8) {ws:List (List UInt8)} {k:Nat} (h:ws.length≤k):av (Ps ws k false) (mkS x)=some (Ps ws k true):=by
 unfold av;rw [ag (by simp),show decide ((Ps ws k false).at_≥((Ps ws k false).words.length:Int))=true by simp only [aa,an]; omega,gS,bsm,ai rfl]
theorem uy (x:List UInt8) {ws:List (List UInt8)} {k:Nat} (h:k < ws.length) (hl:ws.length≤1000000000):av (Ps ws k false) (mkS x)=some (if ws[k]=x then Ps ws (k+1) false else Ps ws k true):=by
 unfold av;rw [ag (by simp),show decide ((Ps ws k false).at_≥((Ps ws k false).words.length:Int))=false by simp only [bQ,an]; omega,dF];simp only;rw [dj (by rw [an]; exact h),bsm,cG];unfold iA;rw [bsm,bsm];by_cases e:ws[k]=x
 ·rw [e,ej,ag (by simp),ai rfl,bi (by omega)];rfl
 ·rw [js e,ai (by simp),ag e]
theorem ng (ws:List (List UInt8)) (k:Nat) (b:Bool):bg (Ps ws k b)=some (if b=true∨k < ws.length then Er.fault (k:Int) (Er.sent 5) else Er.nil):=by
 unfold bg cT;rw [bV,bsm];by_cases h:b=true∨k < ws.length
 ·rw [ai (by
   rw [bh,aa,an];rcases h with h | h
   ·exact .inl h
   ·exact .inr (by simp only; omega)),ai h,bsm]
 ·rw [ag (by
   rw [bh,aa,an];rintro (q | q)
   ·exact h (.inl q)
   ·exact h (.inr (by simp only at q; omega))),ag h]
end Go.Proofs.YtmncdniojmigeaaGreatDoor
namespace Go.Proofs.YtmncdniojmigeaaGreatDoor
open Go Go.Lt
def isN (lo hi:Int) (w:List UInt8):Prop:=∃m:Nat,m < 10000∧w=nd 10 m∧lo≤(m:Int)∧(m:Int) < hi
theorem tY (w:List UInt8) (hs:w.length≤9223372036854775807) (lo hi:Int):∃(n:Int) (ok:Bool),cx (mkS w) hi=some (n,ok)∧((ok && decide (n≥lo))=true↔isN lo hi w)∧(isN lo hi w→0≤n∧w=nd 10 n.toNat∧lo≤n∧n < hi):=by
 rcases pg w hs hi with ⟨m,hm,e,h⟩ | ⟨hno,h⟩
 ·refine ⟨_,_,h,?_,?_⟩
  ·rw [ax,aa,aa];constructor
   ·rintro ⟨a,b⟩;exact ⟨m,hm,e,b,a⟩
   ·rintro ⟨m',_,e',a,b⟩;have:=mD (by omega) (by omega) (e.symm.trans e');subst this;exact ⟨b,a⟩
  ·rintro ⟨m',_,e',a,b⟩;have:=mD (by omega) (by omega) (e.symm.trans e');subst this;exact ⟨by omega,e,a,b⟩
 ·refine ⟨_,_,h,?_,?_⟩
  ·constructor
   ·intro q; cases q
   ·rintro ⟨m',h',e',_⟩;exact absurd e' (hno m' h')
  ·rintro ⟨m',h',e',_⟩;exact absurd e' (hno m' h')
abbrev St (r:am) (L:List ah):Sto:=⟨[r],L⟩
section
variable (r:am) (L:List ah) (w:List UInt8) (hs:w.length≤9223372036854775807) (lo hi:Int)
include hs
theorem sN:∃(n:Int) (b:Bool),cc (St r L) (mkS w) hi 0 lo=some (St ⟨r.rest,r.n,⟨n,r.v.High,r.v.Lines,r.v.At,r.v.Auto⟩⟩ L,b)∧(b=true↔isN lo hi w)∧(isN lo hi w→0≤n∧w=nd 10 n.toNat∧lo≤n∧n < hi):=by
 obtain ⟨n,ok,h1,h2,h3⟩:=tY w hs lo hi;refine ⟨n,_,?_,h2,h3⟩;unfold cc;rw [h1,bsm];simp only [au,bsm,Sto.set_snap_reader,ae,dv,ai,cB,bF]
theorem sM:∃(n:Int) (b:Bool),bZ (St r L) (mkS w) hi 0 lo=some (St ⟨r.rest,r.n,⟨r.v.Wide,n,r.v.Lines,r.v.At,r.v.Auto⟩⟩ L,b)∧(b=true↔isN lo hi w)∧(isN lo hi w→0≤n∧w=nd 10 n.toNat∧lo≤n∧n < hi):=by
 obtain ⟨n,ok,h1,h2,h3⟩:=tY w hs lo hi;refine ⟨n,_,?_,h2,h3⟩;unfold bZ;rw [h1,bsm];simp only [au,bsm,Sto.set_snap_reader,ae,dv,ai,cB,bF]
theorem sL:∃(n:Int) (b:Bool),bY (St r L) (mkS w) hi 0 lo=some (St ⟨r.rest,r.n,⟨r.v.Wide,r.v.High,r.v.Lines,⟨n,r.v.At.Col,r.v.At.Pending⟩,r.v.Auto⟩⟩ L,b)∧(b=true↔isN lo hi w)∧(isN lo hi w→0≤n∧w=nd 10 n.toNat∧lo≤n∧n < hi):=by
 obtain ⟨n,ok,h1,h2,h3⟩:=tY w hs lo hi;refine ⟨n,_,?_,h2,h3⟩;unfold bY;rw [h1,bsm];simp only [au,bsm,Sto.set_snap_reader,ae,dv,ai,cB,bF]
theorem sK:∃(n:Int) (b:Bool),bX (St r L) (mkS w) hi 0 lo=some (St ⟨r.rest,r.n,⟨r.v.Wide,r.v.High,r.v.Lines,⟨r.v.At.Row,n,r.v.At.Pending⟩,r.v.Auto⟩⟩ L,b)∧(b=true↔isN lo hi w)∧(isN lo hi w→0≤n∧w=nd 10 n.toNat∧lo≤n∧n < hi):=by
 obtain ⟨n,ok,h1,h2,h3⟩:=tY w hs lo hi;refine ⟨n,_,?_,h2,h3⟩;unfold bX;rw [h1,bsm];simp only [au,bsm,Sto.set_snap_reader,ae,dv,ai,cB,bF]
end
theorem ow (r:am) (L:List ah) (w:List UInt8) (hW:1≤r.v.Wide∧r.v.Wide≤1024) (hH:1≤r.v.High∧r.v.High≤1024):∃b,bL (St r L) (mkS w) (some 0)=some (St ⟨r.rest,r.n,⟨r.v.Wide,r.v.High,r.v.Lines,⟨r.v.At.Row,r.v.At.Col,true⟩,r.v.Auto⟩⟩ L,b)∧(b=true↔w=cH∧nL ⟨r.v.At.Row,r.v.At.Col,true⟩ r.v.Wide r.v.High):=by
 obtain ⟨b,b1,b2⟩:=sV ⟨r.v.At.Row,r.v.At.Col,true⟩ hW hH;unfold bL;simp only [au,bsm,Sto.set_snap_reader,ae,dv,ai,cB,b1,bF];refine ⟨_,rfl,?_⟩;rw [ax,b2,show (⟨#[112,101,110,100,105,110,103]⟩:ByteArray)=mkS cH from rfl];by_cases e:w=cH
 ·rw [e,ej]; simp
 ·rw [js e]; simp [e]
theorem oS (r:am) (L:List ah) (w:List UInt8):bK (St r L) (mkS w) (some 0)=some (St ⟨r.rest,r.n,⟨r.v.Wide,r.v.High,r.v.Lines,r.v.At,decide (w=wOn)⟩⟩ L,decide (w=wOn∨w=jd)):=by
 have e1:eqS (mkS w) (⟨#[111,110]⟩:ByteArray)=decide (w=wOn):=by
  rw [show (⟨#[111,110]⟩:ByteArray)=mkS wOn from rfl];by_cases e:w=wOn
  ·rw [e,ej]; rfl
  ·rw [js e]; simp [e]
 have e2:eqS (mkS w) (⟨#[111,102,102]⟩:ByteArray)=decide (w=jd):=by
  rw [show (⟨#[111,102,102]⟩:ByteArray)=mkS jd from rfl];by_cases e:w=jd
  ·rw [e,ej]; rfl
  ·rw [js e]; simp [e]
 unfold bK;simp only [au,bsm,Sto.set_snap_reader,ae,dv,ai,cB,e1,e2,bV]
 congr 2
 simp
end Go.Proofs.YtmncdniojmigeaaGreatDoor
namespace Go.Proofs.YtmncdniojmigeaaGreatDoor
open Go Go.Lt
structure Pre (ok:Nat→List UInt8→Prop) (ws:List (List UInt8)) (k:Nat) (b:Bool) (m:Nat):Prop where
 good:∀j,j < k→∃h:j < ws.length,ok j ws[j]
 le:k≤m
 bad:b=true→k < m∧∀h:k < ws.length,¬ok k ws[k]
 all:b=false→k=m
theorem Pre.start (ok:Nat→List UInt8→Prop) (ws:List (List UInt8)):Pre ok ws 0 false 0:=⟨fun j h=>by omega,aB _,fun h=>by (cases h),fun _=>rfl⟩
theorem Pre.more {ok:Nat→List UInt8→Prop} {ws:List (List UInt8)} {k m:Nat} (P:Pre ok ws k true m):Pre ok ws k true (m+1):=
 ⟨P.good,by have:=P.le; omega,fun h=>⟨by have:=(P.bad h).1; omega,(P.bad h).2⟩,fun h=>by (cases h)⟩
theorem Pre.next {ok:Nat→List UInt8→Prop} {ws:List (List UInt8)} {m:Nat} (P:Pre ok ws m false m) (h:m < ws.length) (hok:ok m ws[m]):Pre ok ws (m+1) false (m+1):=
 ⟨fun j hj=>by
  rcases aG j m with q | q
  ·exact P.good j q
  ·have:j=m:=by omega
   subst this;exact ⟨h,hok⟩,aB _,fun q=>by (cases q),fun _=>rfl⟩
theorem Pre.no {ok:Nat→List UInt8→Prop} {ws:List (List UInt8)} {m:Nat} (P:Pre ok ws m false m) (h:∀h:m < ws.length,¬ok m ws[m]):Pre ok ws m true (m+1):=
 ⟨P.good,Nat.le_succ _,fun _=>⟨iF _,h⟩,fun q=>by (cases q)⟩
theorem gy {ok:Nat→List UInt8→Prop} {g:Sto→ByteArray→Option (Sto×Bool)} {s:Sto} {ws:List (List UInt8)} {k m:Nat} {b:Bool} (hl:ws.length≤1000000000) (P:Pre ok ws k b m)
  (hg:b=false→∀w∈ws,∃s' c,g s (mkS w)=some (s',c)∧(c=true↔ok m w)):
  ∃s' k' b',gH g s (Ps ws k b)=some (s',Ps ws k' b')∧Pre ok ws k' b' (m+1)∧((b'=true∧(s'=s∨∃w∈ws,g s (mkS w)=some (s',false)))∨(b'=false∧b=false∧∃h:m < ws.length,g s (mkS ws[m])=some (s',true))):=by
 cases b with
 | true=>exact ⟨s,k,true,rT g s ws k,P.more,.inl ⟨rfl,.inl rfl⟩⟩
 | false=>
  have:=P.all rfl;subst this;by_cases h:k < ws.length
  ·obtain ⟨s',c,h1,h2⟩:=hg rfl _ (aw h)
   cases c with
   | true=>exact ⟨s',k+1,false,tH h hl h1,P.next h (h2.1 rfl),.inr ⟨rfl,rfl,h,h1⟩⟩
   | false=>exact ⟨s',k,true,tI h h1,P.no (fun _ q=>by (cases h2.2 q)),.inl ⟨rfl,.inr ⟨_,aw h,h1⟩⟩⟩
  ·exact ⟨s,k,true,rR g s (by omega),P.no (fun q=>absurd q h),.inl ⟨rfl,.inl rfl⟩⟩
theorem qg {ok:Nat→List UInt8→Prop} (x:List UInt8) {ws:List (List UInt8)} {k m:Nat} {b:Bool} (hl:ws.length≤1000000000) (P:Pre ok ws k b m) (hx:∀w,ok m w↔w=x):
  ∃k' b',av (Ps ws k b) (mkS x)=some (Ps ws k' b')∧Pre ok ws k' b' (m+1):=by
 cases b with
 | true=>exact ⟨k,true,uV x ws k,P.more⟩
 | false=>
  have:=P.all rfl;subst this;by_cases h:k < ws.length
  ·by_cases e:ws[k]=x
   ·exact ⟨k+1,false,by rw [uy x h hl,ai e],P.next h ((hx _).2 e)⟩
   ·exact ⟨k,true,by rw [uy x h hl,ag e],P.no (fun _ q=>e ((hx _).1 q))⟩
  ·exact ⟨k,true,uU x (by omega),P.no (fun q=>absurd q h)⟩
def vC (ok:Nat→List UInt8→Prop) (ws:List (List UInt8)) (m:Nat):Prop:=ws.length=m∧∀j (h:j < ws.length),ok j ws[j]
def pP (ok:Nat→List UInt8→Prop) (ws:List (List UInt8)) (m k:Nat):Prop:=(∀j,j < k→∃h:j < ws.length,ok j ws[j])∧k≤m∧(k < m→∀h:k < ws.length,¬ok k ws[k])
theorem Pre.fin {ok:Nat→List UInt8→Prop} {ws:List (List UInt8)} {k m:Nat} {b:Bool} (P:Pre ok ws k b m):(¬(b=true∨k < ws.length)∧b=false∧vC ok ws m)∨((b=true∨k < ws.length)∧¬vC ok ws m∧pP ok ws m k):=by
 cases b with
 | true=>
  right
  refine ⟨.inl rfl,fun F=>?_,P.good,P.le,fun _=>(P.bad rfl).2⟩;obtain ⟨h1,h2⟩:=P.bad rfl;exact h2 (by rw [F.1]; exact h1) (F.2 k (by rw [F.1]; exact h1))
 | false=>
  have:=P.all rfl;subst this;by_cases h:k < ws.length
  ·right
   exact ⟨.inr h,fun F=>by have:=F.1; omega,P.good,aB _,fun q=>by omega⟩
  ·left
   refine ⟨fun q=>q.elim (fun q=>by (cases q)) h,rfl,?_,fun j hj=>?_⟩
   ·rcases aG 0 k with q | q
    ·obtain ⟨q1,_⟩:=P.good (k - 1) (by omega);omega
    ·omega
   ·obtain ⟨_,q⟩:=P.good j (by omega);exact q
def ok0 (j:Nat) (w:List UInt8):Prop:=match j with
 | 0=>w=fI
 | 1=>isN 1 1025 w
 | 2=>isN 1 1025 w
 | _=>False
theorem uv:∀{ws:List (List UInt8)} (h:2 < ws.length),ws.take 3= [ws[0],ws[1],ws[2]]
 | x :: y :: z :: t,_=>rfl
theorem vY (r:am) (L:List ah) (ws:List (List UInt8)) (hn:r.n=0) (hl:ws.length≤1000000000) (hw:∀w∈ws,w.length≤9223372036854775807):
  ∃(r':am) (k:Nat) (b:Bool),aE (St r L) (some 0) (Ps ws 0 false)=some (St r' L,Ps ws k b,if b=true∨k < ws.length then Er.fault (k:Int) (Er.sent 5) else Er.nil)∧Pre ok0 ws k b 3∧r'.rest=r.rest∧r'.n=r.n∧
   (b=false→∃W H:Int,(1≤W∧W≤1024)∧(1≤H∧H≤1024)∧ws.take 3=fC W H∧r'.v=⟨W,H,r.v.Lines,r.v.At,r.v.Auto⟩):=by
 unfold aE;simp only [bsm,au,hn];rw [ai (by decide)];simp only [fQ,fy,fx,bsm];obtain ⟨k1,b1,e1,P1⟩:=qg (ok:=ok0) fI hl (Pre.start ok0 ws) (fun w=>gF);rw [show (⟨#[115,99,114,101,101,110]⟩:ByteArray)=mkS fI from rfl,e1,bsm,tM];obtain ⟨s2,k2,b2,e2,P2,Q2⟩:=gy (g:=fun s w=>cc s w 1025 0 1) (s:=St r L) hl P1 (fun _ w hm=>by
  obtain ⟨n,b,h1,h2,_⟩:=sN r L w (hw w hm) 1 1025;exact ⟨_,_,h1,h2⟩)
 obtain ⟨W,r2,rfl,hr2,hr2n,hr2v⟩:∃(W:Int) (r2:am),s2=St r2 L∧r2.rest=r.rest∧r2.n=r.n∧r2.v.Lines=r.v.Lines∧r2.v.At=r.v.At∧r2.v.Auto=r.v.Auto∧(b2=false→r2.v.Wide=W∧(1≤W∧W < 1025)∧∃h:1 < ws.length,ws[1]=nd 10 W.toNat):=by
  rcases Q2 with ⟨q,h | ⟨w,hm,h⟩⟩ | ⟨q,_,h,hg⟩
  ·exact ⟨0,r,h,rfl,rfl,rfl,rfl,rfl,fun e=>by rw [q] at e; cases e⟩
  ·obtain ⟨n,b,h1,_⟩:=sN r L w (hw w hm) 1 1025;rw [h1] at h;cases h;exact ⟨0,_,rfl,rfl,rfl,rfl,rfl,rfl,fun e=>by rw [q] at e; cases e⟩
  ·obtain ⟨n,b,h1,h2,h3⟩:=sN r L ws[1] (hw _ (aw h)) 1 1025;have hg':cc (St r L) (mkS ws[1]) 1025 0 1=some (s2,true):=hg;rw [h1] at hg';cases hg';obtain ⟨_,c2,c3,c4⟩:=h3 (h2.1 rfl);exact ⟨n,_,rfl,rfl,rfl,rfl,rfl,rfl,fun _=>⟨rfl,⟨c3,c4⟩,h,c2⟩⟩
 rw [e2,bsm];simp only;rw [tL];obtain ⟨s3,k3,b3,e3,P3,Q3⟩:=gy (g:=fun s w=>bZ s w 1025 0 1) (s:=St r2 L) hl P2 (fun _ w hm=>by
  obtain ⟨n,b,h1,h2,_⟩:=sM r2 L w (hw w hm) 1 1025;exact ⟨_,_,h1,h2⟩)
 obtain ⟨a1,a2,a3,a4⟩:=hr2v;obtain ⟨H,r3,rfl,hr3,hr3n,hr3v⟩:∃(H:Int) (r3:am),s3=St r3 L∧r3.rest=r.rest∧r3.n=r.n∧(b3=false→b2=false∧r3.v=⟨r2.v.Wide,H,r2.v.Lines,r2.v.At,r2.v.Auto⟩∧(1≤H∧H < 1025)∧∃h:2 < ws.length,ws[2]=nd 10 H.toNat):=by
  rcases Q3 with ⟨q,h | ⟨w,hm,h⟩⟩ | ⟨q,qb,h,hg⟩
  ·exact ⟨0,r2,h,hr2,hr2n,fun e=>by rw [q] at e; cases e⟩
  ·obtain ⟨n,b,h1,_⟩:=sM r2 L w (hw w hm) 1 1025;rw [h1] at h;cases h;exact ⟨0,_,rfl,hr2,hr2n,fun e=>by rw [q] at e; cases e⟩
  ·obtain ⟨n,b,h1,h2,h3⟩:=sM r2 L ws[2] (hw _ (aw h)) 1 1025;have hg':bZ (St r2 L) (mkS ws[2]) 1025 0 1=some (s3,true):=hg;rw [h1] at hg';cases hg';obtain ⟨_,c2,c3,c4⟩:=h3 (h2.1 rfl);exact ⟨n,_,rfl,hr2,hr2n,fun _=>⟨qb,rfl,⟨c3,c4⟩,h,c2⟩⟩
 rw [e3,bsm,bsm];simp only;rw [ng,bsm];refine ⟨r3,k3,b3,rfl,P3,hr3,hr3n.trans hn,fun hb=>?_⟩;obtain ⟨qb,v3,hH,hh2,w2⟩:=hr3v hb;obtain ⟨vW,hW,hh1,w1⟩:=a4 qb;obtain ⟨hh0,w0⟩:=P3.good 0 (by have:=P3.all hb; omega);refine ⟨W,H,⟨hW.1,by omega⟩,⟨hH.1,by omega⟩,?_,by rw [v3,vW,a1,a2,a3]⟩;have hw0:ws[0]=fI:=w0;rw [uv hh2,hw0,w1,w2];rfl
def ok2 (j:Nat) (w:List UInt8):Prop:=match j with
 | 0=>w=iw
 | 1=>w=wOn∨w=jd
 | _=>False
theorem vJ:∀{ws:List (List UInt8)} (h:1 < ws.length),ws.take 2= [ws[0],ws[1]]
 | x :: y :: t,_=>rfl
theorem vV (r:am) (L:List ah) (ws:List (List UInt8)) (hn:r.n≠0∧r.n≠1) (hl:ws.length≤1000000000):
  ∃(r':am) (k:Nat) (b:Bool),aE (St r L) (some 0) (Ps ws 0 false)=some (St r' L,Ps ws k b,if b=true∨k < ws.length then Er.fault (k:Int) (Er.sent 5) else Er.nil)∧Pre ok2 ws k b 2∧r'.rest=r.rest∧r'.n=r.n∧
   (b=false→∃a:Bool,ws.take 2=gI a∧r'.v=⟨r.v.Wide,r.v.High,r.v.Lines,r.v.At,a⟩):=by
 unfold aE;simp only [bsm,au];rw [ag (by rw [bd]; exact hn.1),ag (by rw [bd]; exact hn.2)];simp only [fQ,bsm];obtain ⟨k1,b1,e1,P1⟩:=qg (ok:=ok2) iw hl (Pre.start ok2 ws) (fun w=>gF);rw [show (⟨#[97,117,116,111]⟩:ByteArray)=mkS iw from rfl,e1,bsm,tN];obtain ⟨s2,k2,b2,e2,P2,Q2⟩:=gy (g:=fun s w=>bK s w (some 0)) (s:=St r L) hl P1 (fun _ w hm=>⟨_,_,oS r L w,by rw [aa]; exact gF⟩);obtain ⟨r2,rfl,hr2,hr2n,hr2v⟩:∃r2:am,s2=St r2 L∧r2.rest=r.rest∧r2.n=r.n∧(b2=false→∃h:1 < ws.length,(ws[1]=wOn∨ws[1]=jd)∧r2.v=⟨r.v.Wide,r.v.High,r.v.Lines,r.v.At,decide (ws[1]=wOn)⟩):=by
  rcases Q2 with ⟨q,h | ⟨w,hm,h⟩⟩ | ⟨q,qb,h,hg⟩
  ·exact ⟨r,h,rfl,rfl,fun e=>by rw [q] at e; cases e⟩
  ·rw [oS] at h;have h1:=cP Prod.fst (ao h);exact ⟨_,h1.symm,rfl,rfl,fun e=>by rw [q] at e; cases e⟩
  ·have hg':bK (St r L) (mkS ws[1]) (some 0)=some (s2,true):=hg;rw [oS] at hg';have h1:=cP Prod.fst (ao hg');have h2:=cP Prod.snd (ao hg');exact ⟨_,h1.symm,rfl,rfl,fun _=>⟨h,eT h2,rfl⟩⟩
 rw [e2,bsm,bsm];simp only;rw [ng,bsm];refine ⟨r2,k2,b2,rfl,P2,hr2,hr2n,fun hb=>?_⟩;obtain ⟨h1,w1,v2⟩:=hr2v hb;obtain ⟨hh0,w0⟩:=P2.good 0 (by have:=P2.all hb; omega);have hw0:ws[0]=iw:=w0;refine ⟨decide (ws[1]=wOn),?_,v2⟩;rw [vJ h1,hw0];unfold gI;rcases w1 with e | e <;> rw [e] <;> decide
def ok1 (W H:Int) (ws:List (List UInt8)) (j:Nat) (w:List UInt8):Prop:=match j with
 | 0=>w= [97,116]
 | 1=>isN 0 H w
 | 2=>isN 0 W w
 | 3=>w=cH∧∃h:2 < ws.length,ws[2]=nd 10 (W - 1).toNat
 | _=>False
theorem vX (r:am) (L:List ah) (ws:List (List UInt8)) (hn:r.n=1) (hl:ws.length≤1000000000) (hw:∀w∈ws,w.length≤9223372036854775807) (hW:1≤r.v.Wide∧r.v.Wide≤1024) (hH:1≤r.v.High∧r.v.High≤1024) (hp:r.v.At.Pending=false):
  ∃(r':am) (k:Nat) (b:Bool) (m:Nat),aE (St r L) (some 0) (Ps ws 0 false)=some (St r' L,Ps ws k b,if b=true∨k < ws.length then Er.fault (k:Int) (Er.sent 5) else Er.nil)∧Pre (ok1 r.v.Wide r.v.High ws) ws k b m∧(m=4∧(4≤ws.length∨∃j,∃h:j < ws.length,¬ok1 r.v.Wide r.v.High ws j ws[j])∨m=3∧ws.length≤k)∧r'.rest=r.rest∧r'.n=r.n∧
   (b=false→∃c:aF,nL c r.v.Wide r.v.High∧ws.take m=cX c∧r'.v=⟨r.v.Wide,r.v.High,r.v.Lines,c,r.v.Auto⟩):=by
 unfold aE;simp only [bsm,au,hn];rw [ag (by decide),ai (by decide)];simp only [fQ,fw,fv,bsm];obtain ⟨k1,b1,e1,P1⟩:=qg (ok:=ok1 r.v.Wide r.v.High ws) [97,116] hl (Pre.start _ ws) (fun w=>gF);rw [show (⟨#[97,116]⟩:ByteArray)=mkS [97,116] from rfl,e1,bsm,tK];obtain ⟨s2,k2,b2,e2,P2,Q2⟩:=gy (g:=fun s w=>bY s w r.v.High 0 0) (s:=St r L) hl P1 (fun _ w hm=>by
  obtain ⟨n,b,h1,h2,_⟩:=sL r L w (hw w hm) 0 r.v.High;exact ⟨_,_,h1,h2⟩)
 obtain ⟨R,r2,rfl,hr2,hr2n,hv2,hR⟩:∃(R:Int) (r2:am),s2=St r2 L∧r2.rest=r.rest∧r2.n=r.n∧r2.v=⟨r.v.Wide,r.v.High,r.v.Lines,⟨R,r.v.At.Col,r.v.At.Pending⟩,r.v.Auto⟩∧(b2=false→(0≤R∧R < r.v.High)∧∃h:1 < ws.length,ws[1]=nd 10 R.toNat):=by
  rcases Q2 with ⟨q,h | ⟨w,hm,h⟩⟩ | ⟨q,_,h,hg⟩
  ·exact ⟨r.v.At.Row,r,h,rfl,rfl,rfl,fun e=>by rw [q] at e; cases e⟩
  ·obtain ⟨n,b,h1,_⟩:=sL r L w (hw w hm) 0 r.v.High;rw [h1] at h;cases h;exact ⟨n,_,rfl,rfl,rfl,rfl,fun e=>by rw [q] at e; cases e⟩
  ·obtain ⟨n,b,h1,h2,h3⟩:=sL r L ws[1] (hw _ (aw h)) 0 r.v.High;have hg':bY (St r L) (mkS ws[1]) r.v.High 0 0=some (s2,true):=hg;rw [h1] at hg';cases hg';obtain ⟨_,c2,c3,c4⟩:=h3 (h2.1 rfl);exact ⟨n,_,rfl,rfl,rfl,rfl,fun _=>⟨⟨c3,c4⟩,h,c2⟩⟩
 rw [e2,bsm];simp only [au,bsm];have hv2W:r2.v.Wide=r.v.Wide:=by rw [hv2]
 rw [hv2W,tJ];obtain ⟨s3,k3,b3,e3,P3,Q3⟩:=gy (g:=fun s w=>bX s w r.v.Wide 0 0) (s:=St r2 L) hl P2 (fun _ w hm=>by
  obtain ⟨n,b,h1,h2,_⟩:=sK r2 L w (hw w hm) 0 r.v.Wide;exact ⟨_,_,h1,h2⟩)
 obtain ⟨C,r3,rfl,hr3,hr3n,hv3,hC⟩:∃(C:Int) (r3:am),s3=St r3 L∧r3.rest=r.rest∧r3.n=r.n∧r3.v=⟨r.v.Wide,r.v.High,r.v.Lines,⟨R,C,r.v.At.Pending⟩,r.v.Auto⟩∧(b3=false→b2=false∧(0≤C∧C < r.v.Wide)∧∃h:2 < ws.length,ws[2]=nd 10 C.toNat):=by
  rcases Q3 with ⟨q,h | ⟨w,hm,h⟩⟩ | ⟨q,qb,h,hg⟩
  ·exact ⟨r.v.At.Col,r2,h,hr2,hr2n,hv2,fun e=>by rw [q] at e; cases e⟩
  ·obtain ⟨n,b,h1,_⟩:=sK r2 L w (hw w hm) 0 r.v.Wide;rw [h1] at h;cases h;exact ⟨n,_,rfl,hr2,hr2n,by simp only [hv2],fun e=>by rw [q] at e; cases e⟩
  ·obtain ⟨n,b,h1,h2,h3⟩:=sK r2 L ws[2] (hw _ (aw h)) 0 r.v.Wide;have hg':bX (St r2 L) (mkS ws[2]) r.v.Wide 0 0=some (s3,true):=hg;rw [h1] at hg';cases hg';obtain ⟨_,c2,c3,c4⟩:=h3 (h2.1 rfl);exact ⟨n,_,rfl,hr2,hr2n,by simp only [hv2],fun _=>⟨qb,⟨c3,c4⟩,h,c2⟩⟩
 rw [e3,bsm];simp only;have three:b3=false→∃h:2 < ws.length,(0≤R∧R < r.v.High)∧(0≤C∧C < r.v.Wide)∧ws.take 3= [[97,116],nd 10 R.toNat,nd 10 C.toNat]:=fun hb=>by
  obtain ⟨qb,hc,h2,w2⟩:=hC hb;obtain ⟨hr,h1,w1⟩:=hR qb;obtain ⟨h0,w0⟩:=P3.good 0 (by have:=P3.all hb; omega);have hw0:ws[0]= [97,116]:=w0;exact ⟨h2,hr,hc,by rw [uv h2,hw0,w1,w2]⟩
 by_cases hk:k3 < ws.length
 ·rw [ai (by simp only [aa,an]; omega),tP];have hv3W:r3.v.Wide=r.v.Wide:=by rw [hv3]
  have hv3H:r3.v.High=r.v.High:=by rw [hv3]
  have hv3C:r3.v.At.Col=C:=by rw [hv3]
  have hv3R:r3.v.At.Row=R:=by rw [hv3]
  have hcheck:b3=false→∀w,(w=cH∧nL ⟨r3.v.At.Row,r3.v.At.Col,true⟩ r3.v.Wide r3.v.High)↔ok1 r.v.Wide r.v.High ws 3 w:=fun hb w=>by
   obtain ⟨h2,hr,hc,_⟩:=three hb;obtain ⟨_,_,_,w2⟩:=hC hb;rw [hv3W,hv3H,hv3C,hv3R];show _↔(w=cH∧∃h:2 < ws.length,ws[2]=nd 10 (r.v.Wide - 1).toNat);constructor
   ·rintro ⟨a,_,_,c⟩;have:C=r.v.Wide - 1:=c rfl;exact ⟨a,h2,by rw [w2,this]⟩
   ·rintro ⟨a,_,c⟩;rw [w2] at c;have:=mD (B:=10) (by omega) (by omega) c;exact ⟨a,hr,hc,fun _=>by show C=_; omega⟩
  obtain ⟨s4,k4,b4,e4,P4,Q4⟩:=gy (g:=fun s w=>bL s w (some 0)) (s:=St r3 L) hl P3 (fun hb w hm=>by
   obtain ⟨b,h1,h2⟩:=ow r3 L w (by rw [hv3W]; exact hW) (by rw [hv3H]; exact hH);exact ⟨_,_,h1,h2.trans (hcheck hb w)⟩)
  obtain ⟨r4,rfl,hr4,hr4n,hv4⟩:∃r4:am,s4=St r4 L∧r4.rest=r.rest∧r4.n=r.n∧(b4=false→b3=false∧r4.v=⟨r.v.Wide,r.v.High,r.v.Lines,⟨R,C,true⟩,r.v.Auto⟩∧∃h:3 < ws.length,ws[3]=cH∧C=r.v.Wide - 1):=by
   rcases Q4 with ⟨q,h | ⟨w,hm,h⟩⟩ | ⟨q,qb,h,hg⟩
   ·exact ⟨r3,h,hr3,hr3n,fun e=>by rw [q] at e; cases e⟩
   ·obtain ⟨b,h1,_⟩:=ow r3 L w (by rw [hv3W]; exact hW) (by rw [hv3H]; exact hH);rw [h1] at h;cases h;exact ⟨_,rfl,hr3,hr3n,fun e=>by rw [q] at e; cases e⟩
   ·obtain ⟨b,h1,h2⟩:=ow r3 L ws[3] (by rw [hv3W]; exact hW) (by rw [hv3H]; exact hH);have hg':bL (St r3 L) (mkS ws[3]) (some 0)=some (s4,true):=hg;rw [h1] at hg';cases hg';obtain ⟨c1,_,_,c2⟩:=h2.1 rfl;have c3:C=r.v.Wide - 1:=by have:=c2 rfl; rw [hv3W] at this; simp only at this; rw [hv3C] at this; exact this
    exact ⟨_,rfl,hr3,hr3n,fun _=>⟨qb,by simp only [hv3],h,c1,c3⟩⟩
  rw [e4,bsm,bsm];simp only;rw [ng,bsm];have more:4≤ws.length∨∃j,∃h:j < ws.length,¬ok1 r.v.Wide r.v.High ws j ws[j]:=by
   rcases ut b3 with hb3 | hb3
   ·exact .inr ⟨k3,hk,(P3.bad hb3).2 hk⟩
   ·have:=P3.all hb3
    left; omega
  refine ⟨r4,k4,b4,4,rfl,P4,.inl ⟨rfl,more⟩,hr4,hr4n.trans hn,fun hb=>?_⟩;obtain ⟨qb,v4,h3,w3,c3⟩:=hv4 hb;obtain ⟨h2,hr,hc,t3⟩:=three qb;refine ⟨⟨R,C,true⟩,⟨hr,hc,fun _=>c3⟩,?_,v4⟩;rw [ay h3,t3,w3];rfl
 ·rw [ag (by simp only [aa,an]; omega),bsm];simp only;rw [ng,bsm];refine ⟨r3,k3,b3,3,rfl,P3,.inr ⟨rfl,by omega⟩,hr3,hr3n.trans hn,fun hb=>?_⟩;obtain ⟨h2,hr,hc,t3⟩:=three hb;refine ⟨⟨R,C,r.v.At.Pending⟩,⟨hr,hc,fun q=>by rw [hp] at q; cases q⟩,?_,hv3⟩;rw [t3,hp];rfl
def okC (j:Nat) (w:List UInt8):Prop:=match j with
 | 0=>w= [43]∨w= [45]
 | _+1=>∃c,rgt c=true∧w=dV c
abbrev Sl1 (r:am) (L:List ah) (l:ah):Sto:=⟨[r],L++ [l]⟩
theorem uj (L:List ah) (l:ah):(L++ [l])[L.length]? = some l:=by simp
theorem uJ (L:List ah) (l l':ah):(L++ [l]).set L.length l'=L++ [l']:=by simp
theorem om (r:am) (L:List ah) (l:ah) (w:List UInt8):bE (Sl1 r L l) (mkS w) L.length=some (Sl1 r L ⟨l.Cells,decide (w= [43])⟩,decide (w= [43]∨w= [45])):=by
 have e1:eqS (mkS w) (⟨#[43]⟩:ByteArray)=decide (w= [43]):=by
  rw [show (⟨#[43]⟩:ByteArray)=mkS [43] from rfl];by_cases e:w= [43]
  ·rw [e,ej]; rfl
  ·rw [js e]; simp [e]
 have e2:eqS (mkS w) (⟨#[45]⟩:ByteArray)=decide (w= [45]):=by
  rw [show (⟨#[45]⟩:ByteArray)=mkS [45] from rfl];by_cases e:w= [45]
  ·rw [e,ej]; rfl
  ·rw [js e]; simp [e]
 unfold bE;simp only [uj,bsm,Sto.set_api_Line,ac,ae,iF,ai,uJ,e1,e2,bV]
 congr 2
 simp
theorem oO (r:am) (L:List ah) (l:ah) (w:List UInt8) (hw:w.length≤10000000) (hl:l.Cells.length≤1000000):∃(c:ak) (b:Bool),bu (Sl1 r L l) (mkS w) L.length=some (Sl1 r L ⟨l.Cells++ [c],l.Wrap⟩,b)∧(b=true↔∃c,rgt c=true∧w=dV c)∧(b=true→rgt c=true∧w=dV c):=by
 have hap:∀c,app l.Cells [c]=some (l.Cells++ [c]):=fun c=>lJ (by simp only [ae]; omega);rcases qG w hw with ⟨c,h1,h2,h3⟩ | ⟨h1,c,h3⟩
 ·refine ⟨c,true,?_,⟨fun _=>⟨c,h1,h2⟩,fun _=>rfl⟩,fun _=>⟨h1,h2⟩⟩;unfold bu;simp only [h3,uj,bsm,hap,Sto.set_api_Line,ac,ae,iF,ai,uJ]
 ·refine ⟨c,false,?_,⟨fun q=>by (cases q),fun ⟨d,d1,d2⟩=>absurd d2 (h1 d d1)⟩,fun q=>by (cases q)⟩;unfold bu;simp only [h3,uj,bsm,hap,Sto.set_api_Line,ac,ae,iF,ai,uJ]
theorem vU (r:am) (L:List ah) (ws:List (List UInt8)) (W:Nat) (hW:r.v.Wide=(W:Int)) (hW2:W≤1024) (hLn:r.v.Lines.length≤1000000) (hl:ws.length≤1000000000) (hw:∀w∈ws,w.length≤10000000):
  ∃(r':am) (l:ah) (k:Nat) (b:Bool) (e:Er),aZ (St r L) (some 0) (Ps ws 0 false)=some (Sl1 r' L l,Ps ws k b,e)∧Pre okC ws k b (W+1)∧r'.rest=r.rest∧r'.n=r.n∧
   ((b=true∨k < ws.length)→e=Er.fault (k:Int) (Er.sent 5))∧
   (¬(b=true∨k < ws.length)→l.Cells.length=W∧ws=eD l∧(∀c∈l.Cells,rgt c=true)∧((Snd l.Cells∧e=Er.nil∧r'.v=⟨r.v.Wide,r.v.High,r.v.Lines++ [l],r.v.At,r.v.Auto⟩)∨(¬Snd l.Cells∧e=Er.sent 4))):=by
 unfold aZ;rw [bsm,tR];have hst:(Sto.add_api_Line (St r L) (⟨[],false⟩:ah))=Sl1 r L ⟨[],false⟩:=rfl;rw [hst];obtain ⟨s1,k1,b1,e1,P1,Q1⟩:=gy (ok:=okC) (g:=fun s w=>bE s w L.length) (s:=Sl1 r L ⟨[],false⟩) hl (Pre.start okC ws) (fun _ w hm=>⟨_,_,om r L _ w,by rw [aa]; exact gF⟩);obtain ⟨l1,rfl,hc1,hw1⟩:∃l1:ah,s1=Sl1 r L l1∧l1.Cells= []∧(b1=false→ws.take 1=eD l1):=by
  rcases Q1 with ⟨q,h | ⟨w,hm,h⟩⟩ | ⟨q,qb,h,hg⟩
  ·exact ⟨_,h,rfl,fun e=>by rw [q] at e; cases e⟩
  ·rw [om] at h;exact ⟨_,(cP Prod.fst (ao h)).symm,rfl,fun e=>by rw [q] at e; cases e⟩
  ·have hg':bE (Sl1 r L ⟨[],false⟩) (mkS ws[0]) L.length=some (s1,true):=hg;rw [om] at hg';have h2:=eT (cP Prod.snd (ao hg'));refine ⟨_,(cP Prod.fst (ao hg')).symm,rfl,fun _=>?_⟩;have ht:ws.take 1= [ws[0]]:=by
    cases ws with
    | nil=>simp at h
    | cons x t=>rfl
   rw [ht];unfold eD;rcases h2 with e | e <;> rw [e] <;> rfl
 rw [show (St r L).api_Line.length=L.length from rfl,e1,bsm,bsm];simp only [au,bsm];have key:∃t,ed ((r.v.Wide - 0).toNat+1) (fun (b:Int×List ByteArray×Int×Bool×Sto)=>
   if (decide (b.1 < r.v.Wide))=true then
   (aH b.2.2.2.2 (⟨b.2.1,b.2.2.1,b.2.2.2.1⟩:ab) L.length).bind fun d=>
   some (.inl ((w64 (b.1+1)),d.2.words,d.2.at_,d.2.bad,d.1))
   else
   some (.inr (b.2.1,b.2.2.1,b.2.2.2.1,b.2.2.2.2))) (0,ws.map mkS,(k1:Int),b1,Sl1 r L l1)=some t∧∃(k:Nat) (b:Bool) (l:ah),t=(ws.map mkS,(k:Int),b,Sl1 r L l)∧Pre okC ws k b (W+1)∧l.Cells.length≤W∧(b=false→ws.take (W+1)=eD l∧l.Cells.length=W∧∀c∈l.Cells,rgt c=true):=by
  refine jt (n:=W) (fun i (a:Int×List ByteArray×Int×Bool×Sto)=>∃(k:Nat) (b:Bool) (l:ah),a=((i:Int),ws.map mkS,(k:Int),b,Sl1 r L l)∧Pre okC ws k b (i+1)∧l.Cells.length≤i∧(b=false→ws.take (i+1)=eD l∧l.Cells.length=i∧∀c∈l.Cells,rgt c=true)) _ (fun i a hi hI=>?_) (fun a hI=>?_) ⟨k1,b1,l1,rfl,P1,by rw [hc1]; exact aB _,fun hb=>⟨hw1 hb,by rw [hc1]; rfl,fun c hc=>by rw [hc1] at hc; cases hc⟩⟩ (by omega)
  ·obtain ⟨k,b,l,rfl,P,hcl,hr⟩:=hI
   left
   simp only;rw [ai (by rw [aa]; omega),tQ];obtain ⟨s2,k2,b2,e2,P2,Q2⟩:=gy (ok:=okC) (g:=fun s w=>bu s w L.length) (s:=Sl1 r L l) hl P (fun _ w hm=>by
    obtain ⟨c,b,h1,h2,_⟩:=oO r L l w (hw w hm) (by omega);exact ⟨_,_,h1,h2⟩)
   rw [e2,bsm];obtain ⟨l2,rfl,hc2,hw2⟩:∃l2:ah,s2=Sl1 r L l2∧l2.Cells.length≤i+1∧(b2=false→ws.take (i+1+1)=eD l2∧l2.Cells.length=i+1∧∀c∈l2.Cells,rgt c=true):=by
    rcases Q2 with ⟨q,h | ⟨w,hm,h⟩⟩ | ⟨q,qb,h,hg⟩
    ·exact ⟨l,h,by omega,fun e=>by rw [q] at e; cases e⟩
    ·obtain ⟨c,b',h1,_,_⟩:=oO r L l w (hw w hm) (by omega);rw [h1] at h;exact ⟨_,(cP Prod.fst (ao h)).symm,by simp only [ac,ae]; omega,fun e=>by rw [q] at e; cases e⟩
    ·obtain ⟨c,b',h1,h2,h3⟩:=oO r L l ws[i+1] (hw _ (aw h)) (by omega);have hg':bu (Sl1 r L l) (mkS ws[i+1]) L.length=some (s2,true):=hg;rw [h1] at hg';have hb':b'=true:=cP Prod.snd (ao hg');obtain ⟨w1,w2⟩:=h3 hb';obtain ⟨t1,t2,t3⟩:=hr qb;refine ⟨_,(cP Prod.fst (ao hg')).symm,by simp only [ac,ae]; omega,fun _=>⟨?_,by simp only [ac,ae]; omega,fun x hx=>(List.mem_append.1 hx).elim (t3 x) (fun q=>by rw [List.mem_singleton.1 q]; exact w1)⟩⟩;rw [ay h,t1,w2];unfold eD;rw [fH];rfl
   refine ⟨_,rfl,k2,b2,l2,?_,P2,hc2,hw2⟩;rw [bi (by omega)];rfl
  ·obtain ⟨k,b,l,rfl,P,hcl,hr⟩:=hI;exact ⟨_,by simp only; rw [ag (by rw [aa]; omega)],k,b,l,rfl,P,hcl,hr⟩
 obtain ⟨t,ht,k,b,l,rfl,P,hcl,hr⟩:=key;rw [ht,bsm];simp only;rw [ng,bsm];by_cases hbad:b=true∨k < ws.length
 ·simp only [ai hbad,Er.isNil,jN,gi];exact ⟨r,l,k,b,_,rfl,P,rfl,rfl,fun _=>rfl,fun h=>absurd hbad h⟩
 ·have hb:b=false:=by
   cases b with
   | false=>rfl
   | true=>exact absurd (.inl rfl) hbad
  obtain ⟨t1,t2,t3⟩:=hr hb;have hk:=P.all hb;have hws:ws=eD l:=by
   rw [←t1];refine (bw ?_).symm;rcases aG k ws.length with q | q
   ·exact absurd (.inr q) hbad
   ·omega
  obtain ⟨z,z1,z2⟩:=nh l.Cells (by omega);simp only [ag hbad,Er.isNil,ci,bC,fY,uj,bsm,z1]
  cases z with
  | false=>
   rw [ai (by decide)];exact ⟨r,l,k,b,_,rfl,P,rfl,rfl,fun h=>absurd h hbad,fun _=>⟨t2,hws,t3,.inr ⟨fun q=>by (cases z2.2 q),rfl⟩⟩⟩
  | true=>
   rw [ag (by decide)];simp only [au,bsm,Sto.set_snap_reader,ae,dv,ai,cB];rw [lJ (by rw [ae]; omega),bsm];exact ⟨⟨r.rest,r.n,⟨r.v.Wide,r.v.High,r.v.Lines++ [l],r.v.At,r.v.Auto⟩⟩,l,k,b,_,rfl,P,rfl,rfl,fun h=>absurd h hbad,fun _=>⟨t2,hws,t3,.inl ⟨z2.1 rfl,rfl,rfl⟩⟩⟩
theorem uz {c:UInt8}:∀{s:List UInt8},c∉s→Lib.indexByte s c= -1
 | [],_=>rfl
 | b :: l,h=>by
  have hb:(b==c)=false:=by
   rw [bc];exact fun e=>h (by rw [e]; simp)
  unfold Lib.indexByte;rw [hb,uz (fun q=>h (by simp [q]))];rfl
theorem uA {c:UInt8} (t:List UInt8):∀{w:List UInt8},c∉w→Lib.indexByte (w++c :: t) c=(w.length:Int)
 | [],_=>by
  rw [cR];unfold Lib.indexByte;rw [lj];rfl
 | b :: l,h=>by
  have hb:(b==c)=false:=by
   rw [bc];exact fun e=>h (by rw [e]; simp)
  rw [dd];unfold Lib.indexByte;rw [hb,uA t (fun q=>h (by simp [q]))];have:(((l.length:Int))== -1)=false:=by rw [bc]; omega
  rw [this];simp
theorem tZ (r:am) (L:List ah) (s:List UInt8) (hr:r.rest=mkS s) (h:(10:UInt8)∉s):cE (St r L) (some 0)=some (St r L,[],false):=by
 unfold cE;simp only [bsm,au,hr];unfold er;rw [dE,show ((10:Int).toNat.toUInt8)=10 from rfl,uz h,bsm,ai (by decide)]
theorem sm (r:am) (L:List ah) (w t:List UInt8) (hr:r.rest=mkS (w++10 :: t)) (h:(10:UInt8)∉w) (hl:(w++10 :: t).length≤10000000):cE (St r L) (some 0)=some (St ⟨mkS t,r.n,r.v⟩ L,(bA 32 w).map mkS,true):=by
 have hlen:(w++10 :: t).length=w.length+t.length+1:=by rw [ac,aj]; omega
 unfold cE;simp only [bsm,au,hr];unfold er;rw [dE,show ((10:Int).toNat.toUInt8)=10 from rfl,uA t h,bsm,ag (by rw [aa]; omega)];have h1:=jO (a:=w++10 :: t) (i:=0) (j:=w.length) (dw _) (by omega);have h2:=jO (a:=w++10 :: t) (i:=w.length+1) (j:=(w++10 :: t).length) (by omega) (aB _);rw [show ((0:Nat):Int)=0 from rfl,tv,Nat.sub_zero,tu] at h1;have e2:((w++10 :: t).drop (w.length+1)).take ((w++10 :: t).length - (w.length+1))=t:=by
  rw [show w++10 :: t=(w++ [10])++t by simp,show w.length+1=(w++ [10]).length by simp,iq];exact bw (by simp only [ac,aj,aM]; omega)
 rw [e2] at h2;rw [h1,bsm,bi (by omega),iz,show ((w.length:Int)+1)=((w.length+1:Nat):Int) by omega,h2,bsm];simp only [Sto.set_snap_reader,ae,dv,ai,cB,bsm];rw [pb 32 (by rw [fg]; omega),bsm,dE]
theorem qO (lo hi:Int) (w:List UInt8):¬isN lo hi (63 :: w):=by
 rintro ⟨m,_,e,_⟩;have:=mF (B:=10) (by omega) (by omega) m 63 (by rw [←e]; simp);exact absurd this (by decide)
theorem vt (w:List UInt8) {c:ak} (h:rgt c=true):(63 :: w)≠dV c:=by
 intro q;rcases fO h with ⟨_,e⟩ | ⟨_,e⟩ | ⟨k,ns,hk,rfl,hne,hl,hns,e⟩
 ·rw [e] at q;exact absurd (az q).1 (by decide)
 ·rw [e] at q;exact absurd (az q).1 (by decide)
 ·rw [e] at q;rcases hk with rfl | rfl
  ·rw [ag (by decide)] at q;rcases kM (ns:=ns) (b:=63) (by rw [←q]; simp) with h | h
   ·exact absurd h (by decide)
   ·exact absurd h (by decide)
  ·rw [ai rfl] at q;exact absurd (az q).1 (by decide)
theorem vR (j:Nat) (w:List UInt8):¬ok0 j (63 :: w):=by
 match j with
 | 0=>intro q; exact absurd (az (show (63 :: w:List UInt8)=fI from q)).1 (by decide)
 | 1=>exact qO _ _ _
 | 2=>exact qO _ _ _
 | j+3=>exact id
theorem vQ (W H:Int) (ws:List (List UInt8)) (j:Nat) (w:List UInt8):¬ok1 W H ws j (63 :: w):=by
 match j with
 | 0=>intro q; exact absurd (az (show (63 :: w:List UInt8)= [97,116] from q)).1 (by decide)
 | 1=>exact qO _ _ _
 | 2=>exact qO _ _ _
 | 3=>intro q; exact absurd (az (show (63 :: w:List UInt8)=cH from q.1)).1 (by decide)
 | j+4=>exact id
theorem vP (j:Nat) (w:List UInt8):¬ok2 j (63 :: w):=by
 match j with
 | 0=>intro q; exact absurd (az (show (63 :: w:List UInt8)=iw from q)).1 (by decide)
 | 1=>
  rintro (q | q)
  ·exact absurd (az (show (63 :: w:List UInt8)=wOn from q)).1 (by decide)
  ·exact absurd (az (show (63 :: w:List UInt8)=jd from q)).1 (by decide)
 | j+2=>exact id
theorem vO (j:Nat) (w:List UInt8):¬okC j (63 :: w):=by
 match j with
 | 0=>
  rintro (q | q)
  ·exact absurd (az q).1 (by decide)
  ·exact absurd (az q).1 (by decide)
 | j+1=>rintro ⟨c,h,e⟩; exact vt w h e
theorem pP.uniq {ok:Nat→List UInt8→Prop} {ws:List (List UInt8)} {m k p:Nat} (h:pP ok ws m k) (hp:p < m) (hp2:p < ws.length) (hg:∀j,j < p→∀h:j < ws.length,ok j ws[j]) (hb:¬ok p ws[p]):k=p:=by
 obtain ⟨h1,h2,h3⟩:=h;rcases Nat.lt_trichotomy k p with q | q | q
 ·exact absurd (hg k q (by omega)) (h3 (by omega) (by omega))
 ·exact q
 ·obtain ⟨_,g⟩:=h1 p q;exact absurd g hb
abbrev wi:aF:=⟨0,0,false⟩
abbrev lM:af:=⟨0,0,[],wi,false⟩
def Stg:Nat→af→List UInt8→Prop
 | 0,v,d=>v=lM∧d= []
 | 1,v,d=>∃W H:Int,(1≤W∧W≤1024)∧(1≤H∧H≤1024)∧v=⟨W,H,[],wi,false⟩∧d=bW (fC W H)
 | 2,v,d=>∃(W H:Int) (c:aF),(1≤W∧W≤1024)∧(1≤H∧H≤1024)∧nL c W H∧v=⟨W,H,[],c,false⟩∧d=bW (fC W H)++bW (cX c)
 | j+3,v,d=>(1≤v.Wide∧v.Wide≤1024)∧(1≤v.High∧v.High≤1024)∧nL v.At v.Wide v.High∧v.Lines.length=j∧(j:Int)≤v.High∧(∀l∈v.Lines,(l.Cells.length:Int)=v.Wide∧Snd l.Cells)∧d=fa v
theorem Stg.fin {j:Nat} {v:af} {d:List UInt8} (h:Stg (j+3) v d) (hj:(j:Int)=v.High):VwP v∧d=fa v:=by
 obtain ⟨a,b,c,e,f,g,k⟩:=h;exact ⟨⟨by omega,b.1,b.2,a.1,a.2,c,g⟩,k⟩
def pZ (i:Nat) (v:af) (ws:List (List UInt8)):Nat→List UInt8→Prop:=match i with
 | 0=>ok0
 | 1=>ok1 v.Wide v.High ws
 | 2=>ok2
 | _=>okC
inductive Why (i:Nat) (v:af) (ws:List (List UInt8)):Er→Prop
 | word (m k:Nat) (h:pP (pZ i v ws) ws m k) (hf:¬vC (pZ i v ws) ws m) (hm:(i=0→m=3)∧(i=1→m=4∧(4≤ws.length∨∃j,∃h:j < ws.length,¬pZ i v ws j ws[j])∨m=3∧ws.length≤k)∧(i=2→m=2)∧(3≤i→(m:Int)=v.Wide+1)):Why i v ws (.fault (k:Int) (.sent 5))
 | row (l:ah) (h:3≤i) (hw:ws=eD l) (hl:(l.Cells.length:Int)=v.Wide) (hr:∀c∈l.Cells,rgt c=true) (hs:¬Snd l.Cells):Why i v ws (.sent 4)
theorem we (r:am) (L:List ah) (d:List UInt8) (ws:List (List UInt8)) (i:Nat) (hi:i < 3) (hn:r.n=(i:Int)) (S:Stg i r.v d) (hws:ws≠ []) (hl:ws.length≤1000000000) (hw:∀w∈ws,w.length≤9223372036854775807):
  ∃(r':am) (p:ab) (e:Er),aE (St r L) (some 0) (Ps ws 0 false)=some (St r' L,p,e)∧r'.rest=r.rest∧r'.n=r.n∧((e=Er.nil∧Stg (i+1) r'.v (d++bW ws))∨Why i r.v ws e):=by
 have hcase:i=0∨i=1∨i=2:=by omega
 rcases hcase with rfl | rfl | rfl
 ·obtain ⟨r',k,b,h,P,h1,h2,h3⟩:=vY r L ws (by rw [hn]; rfl) hl hw;refine ⟨r',_,_,h,h1,h2,?_⟩;obtain ⟨hv,rfl⟩:=S;rcases P.fin with ⟨q1,q2,F⟩ | ⟨q1,F,Wr⟩
  ·left
   rw [ag q1];obtain ⟨W,H,hW,hH,ht,hv'⟩:=h3 q2;rw [bw (by rw [F.1]; exact aB _)] at ht;refine ⟨rfl,W,H,hW,hH,by rw [hv',hv],by rw [ht,cR]⟩
  ·right
   rw [ai q1];exact .word 3 k Wr F ⟨fun _=>rfl,fun h=>by omega,fun h=>by omega,fun h=>by omega⟩
 ·obtain ⟨W,H,hW,hH,hv,rfl⟩:=S;have vW:r.v.Wide=W:=by rw [hv]
  have vH:r.v.High=H:=by rw [hv]
  obtain ⟨r',k,b,m,h,P,hm,h1,h2,h3⟩:=vX r L ws (by rw [hn]; rfl) hl hw (by rw [vW]; exact hW) (by rw [vH]; exact hH) (by rw [hv]);refine ⟨r',_,_,h,h1,h2,?_⟩;rcases P.fin with ⟨q1,q2,F⟩ | ⟨q1,F,Wr⟩
  ·left
   rw [ag q1];obtain ⟨c,hc,ht,hv'⟩:=h3 q2;rw [bw (by rw [F.1]; exact aB _)] at ht;rw [vW,vH] at hc;exact ⟨rfl,W,H,c,hW,hH,hc,by rw [hv',hv],by rw [ht]⟩
  ·right
   rw [ai q1];exact .word m k Wr F ⟨fun h=>by omega,fun _=>hm,fun h=>by omega,fun h=>by omega⟩
 ·obtain ⟨W,H,c,hW,hH,hc,hv,rfl⟩:=S;obtain ⟨r',k,b,h,P,h1,h2,h3⟩:=vV r L ws (by rw [hn]; decide) hl;refine ⟨r',_,_,h,h1,h2,?_⟩;rcases P.fin with ⟨q1,q2,F⟩ | ⟨q1,F,Wr⟩
  ·left
   rw [ag q1];obtain ⟨a,ht,hv'⟩:=h3 q2;rw [bw (by rw [F.1]; exact aB _)] at ht;rw [hv] at hv';refine ⟨rfl,?_⟩;show Stg (0+3) r'.v _;unfold Stg;rw [hv',ht];exact ⟨hW,hH,hc,rfl,by show ((0:Nat):Int)≤H; omega,fun l hl=>(by cases hl),by unfold fa; simp [cD,aA]⟩
  ·right
   rw [ai q1];exact .word 2 k Wr F ⟨fun h=>by omega,fun h=>by omega,fun _=>rfl,fun h=>by omega⟩
theorem wE (r:am) (L:List ah) (d:List UInt8) (ws:List (List UInt8)) (j:Nat) (S:Stg (j+3) r.v d) (hj:(j:Int) < r.v.High) (hl:ws.length≤1000000000) (hw:∀w∈ws,w.length≤10000000):
  ∃(r':am) (l:ah) (p:ab) (e:Er),aZ (St r L) (some 0) (Ps ws 0 false)=some (St r' (L++ [l]),p,e)∧r'.rest=r.rest∧r'.n=r.n∧((e=Er.nil∧Stg (j+4) r'.v (d++bW ws))∨Why (j+3) r.v ws e):=by
 obtain ⟨hW,hH,hc,hlen,hjH,hrows,hd⟩:=S;obtain ⟨r',l,k,b,e,h,P,h1,h2,h3,h4⟩:=vU r L ws r.v.Wide.toNat (by omega) (by omega) (by omega) hl hw;refine ⟨r',l,_,e,h,h1,h2,?_⟩;by_cases hb:b=true∨k < ws.length
 ·right
  rw [h3 hb];rcases P.fin with ⟨q1,_,_⟩ | ⟨_,F,Wr⟩
  ·exact absurd hb q1
  ·exact .word _ k Wr F ⟨fun h=>by omega,fun h=>by omega,fun h=>by omega,fun _=>by omega⟩
 ·obtain ⟨g1,g2,gr,g3⟩:=h4 hb;rcases g3 with ⟨hs,rfl,hv⟩ | ⟨hs,rfl⟩
  ·left
   refine ⟨rfl,?_⟩;show Stg (j+1+3) r'.v _;unfold Stg;rw [hv];refine ⟨hW,hH,hc,by rw [ac,hlen,ae],by show ((j+1:Nat):Int)≤r.v.High; omega,fun x hx=>?_,?_⟩
   ·rcases List.mem_append.1 hx with q | q
    ·exact hrows x q
    ·rw [List.mem_singleton.1 q]; exact ⟨by show (l.Cells.length:Int)=r.v.Wide; omega,hs⟩
   ·rw [hd,g2];unfold fa;simp only [iR,ku,aA]
  ·right
   exact .row l (by omega) g2 (by omega) gr hs
theorem qd (w:List UInt8):bW (bA 32 w)=w++ [10]:=by
 unfold bW;rw [gq]
inductive Bad (s:List UInt8):Er→Prop
 | stop (n:Nat) (v:af) (d rest:List UInt8) (S:Stg n v d) (hs:s=d++rest) (h:(10∉rest∧((n:Int) < 3∨(n:Int) < 3+v.High))∨((n:Int)=3+v.High∧3≤n∧rest≠ [])):Bad s (.fault (n:Int) (.sent 6))
 | line (n:Nat) (v:af) (d w t:List UInt8) (e:Er) (S:Stg n v d) (hs:s=d++(w++10 :: t)) (hw:10∉w) (hn:(n:Int) < 3∨(n:Int) < 3+v.High) (h:Why n v (bA 32 w) e):Bad s (.fault (n:Int) e)
theorem Stg.high {n:Nat} {v:af} {d:List UInt8} (h:Stg n v d):0≤v.High∧v.High≤1024∧(3≤n→(n:Int)≤3+v.High):=by
 match n,h with
 | 0,h=>obtain ⟨rfl,_⟩:=h; exact ⟨by decide,by decide,fun q=>by omega⟩
 | 1,h=>obtain ⟨W,H,_,hH,rfl,_⟩:=h; exact ⟨by show 0≤H; omega,by show H≤1024; omega,fun q=>by omega⟩
 | 2,h=>obtain ⟨W,H,c,_,hH,_,rfl,_⟩:=h; exact ⟨by show 0≤H; omega,by show H≤1024; omega,fun q=>by omega⟩
 | j+3,h=>obtain ⟨_,hH,_,_,hj,_⟩:=h; exact ⟨by omega,by omega,fun _=>by omega⟩
theorem pX (rest:List UInt8):(10:UInt8)∉rest∨∃w t,rest=w++10 :: t∧(10:UInt8)∉w:=by
 by_cases h:(10:UInt8)∈rest
 ·obtain ⟨w,t,e,h1,_⟩:=mu h;exact .inr ⟨w,t,e,h1⟩
 ·exact .inl h
theorem rM {s d w t:List UInt8} (hs:s.length≤10000000) (e:s=d++(w++10 :: t)):bA 32 w≠ []∧(bA 32 w).length≤1000000000∧(∀x∈bA 32 w,x.length≤10000000)∧(w++10 :: t).length≤10000000:=by
 have hlen:=cP List.length e;simp only [ac,aj] at hlen;have hc:=iy 32 w;have hc2:w.count 32≤w.length:=nB;refine ⟨jP 32 w,by omega,fun x hx=>?_,by simp only [ac,aj]; omega⟩;have gen:∀l:List (List UInt8),x∈l→x.length≤(bR 32 l).length:=by
  intro l
  induction l with
  | nil=>intro h; cases h
  | cons y r ih=>
   intro h
   cases r with
   | nil=>rw [List.mem_singleton.1 h]; exact aB _
   | cons z q=>
    rw [bR,ac,aj];rcases List.mem_cons.1 h with rfl | h
    ·omega
    ·have:=ih h; omega
 have:=gen _ hx;rw [gq] at this;omega
theorem rA {σ τ β:Type} {step:σ→Option (σ ⊕ τ)} (Inv:σ→Prop) (μ:σ→Nat) (post:τ→Prop) {fuel:Nat} {s:σ} {k:τ→Option β} {p:β→Prop}
  (h:∀s,Inv s→(∃s',step s=some (.inl s')∧Inv s'∧μ s' < μ s)∨∃t,step s=some (.inr t)∧post t) (h0:Inv s) (hf:μ s < fuel) (hk:∀t,post t→∃r,k t=some r∧p r):∃r,(ed fuel step s).bind k=some r∧p r:=by
 obtain ⟨t,h1,h2⟩:=kU Inv μ post h fuel s h0 hf;rw [h1];exact hk t h2
theorem qA {s d w t:List UInt8} (e:s=d++(w++10 :: t)):s=(d++bW (bA 32 w))++t:=by
 rw [qd,e];simp
theorem tq (s:List UInt8) (hs:s.length≤10000000):∃res:Sto×Er,ee (St ⟨mkS s,0,lM⟩ []) (some 0)=some res∧∃(r:am) (L:List ah),res.1=St r L∧((res.2=Er.nil∧VwP r.v∧s=fa r.v)∨Bad s res.2):=by
 unfold ee;refine rA (fun a:Sto=>∃(r:am) (L:List ah) (n:Nat) (d rest:List UInt8),a=St r L∧r.n=(n:Int)∧r.rest=mkS rest∧s=d++rest∧Stg n r.v d) (fun a=>1500 - ((a.snap_reader.head?.map (fun (q:am)=>q.n)).getD 0).toNat) (fun t:(Sto×Er) ⊕ Sto=>(∃(r:am) (L:List ah) (e:Er),t= .inl (St r L,e)∧Bad s e)∨∃(r:am) (L:List ah) (n:Nat) (d rest:List UInt8),t= .inr (St r L)∧r.n=(n:Int)∧r.rest=mkS rest∧s=d++rest∧Stg n r.v d∧3≤n∧(n:Int)=3+r.v.High) (fun a hI=>?_) ⟨_,[],0,[],s,rfl,rfl,rfl,rfl,rfl,rfl⟩ (by simp) (fun t ht=>?_)
 ·obtain ⟨r,L,n,d,rest,rfl,hn,hr,he,S⟩:=hI;obtain ⟨g1,g2,g3⟩:=S.high;simp only [bsm,au,bV];rw [hn,bi (n:=3+r.v.High) (by omega)];by_cases hgo:(n:Int) < 3∨(n:Int) < 3+r.v.High
  ·rw [ai (by rw [bh,aa,aa]; exact hgo)];rcases pX rest with h10 | ⟨w,t,rfl,h10⟩
   ·right
    rw [tZ r L rest hr h10,bsm];simp only [jN,gi,au,bsm,cT,hn];exact ⟨_,rfl,.inl ⟨r,L,_,rfl,.stop n r.v d rest S he (.inl ⟨h10,hgo⟩)⟩⟩
   ·obtain ⟨q1,q2,q3,q4⟩:=rM hs he;rw [sm r L w t hr h10 q4,bsm];simp only [ci,bC,fY,au,bsm,hn];by_cases h3:n < 3
    ·rw [ai (by rw [aa]; omega)];obtain ⟨r',p,e,h1,h2,h4,h5⟩:=we ⟨mkS t,r.n,r.v⟩ L d (bA 32 w) n h3 hn S q1 q2 (fun x hx=>by have:=q3 x hx; omega);rw [hn] at h1 h4;have h1':=h1;simp only at h2 h4;rw [show (⟨(bA 32 w).map mkS,0,false⟩:ab)=Ps (bA 32 w) 0 false from rfl,h1',bsm];rcases h5 with ⟨rfl,S'⟩ | hy
     ·left
      simp only [Er.isNil,ci,bC,fY,au,bsm,Sto.set_snap_reader,ae,dv,ai,cB,h4];refine ⟨_,rfl,⟨_,L,n+1,_,t,rfl,by show w64 ((n:Int)+1)=_; rw [bi (by omega)]; omega,h2,qA he,S'⟩,?_⟩;simp only [iX,eQ,xl,hn];rw [bi (by omega)];omega
     ·right
      have hnn:e.isNil=false:=by cases hy <;> rfl
      simp only [hnn,jN,gi,au,bsm,cT,h4];exact ⟨_,rfl,.inl ⟨_,L,_,rfl,.line n r.v d w t e S he h10 hgo hy⟩⟩
    ·rw [ag (by rw [aa]; omega)];obtain ⟨j,rfl⟩:∃j,n=j+3:=⟨n - 3,by omega⟩;obtain ⟨r',l,p,e,h1,h2,h4,h5⟩:=wE ⟨mkS t,r.n,r.v⟩ L d (bA 32 w) j S (by show (j:Int) < r.v.High; omega) q2 q3;rw [hn] at h1 h4;have h1':=h1;simp only at h2 h4;rw [show (⟨(bA 32 w).map mkS,0,false⟩:ab)=Ps (bA 32 w) 0 false from rfl,h1',bsm];rcases h5 with ⟨rfl,S'⟩ | hy
     ·left
      simp only [Er.isNil,ci,bC,fY,au,bsm,Sto.set_snap_reader,ae,dv,ai,cB,h4];refine ⟨_,rfl,⟨_,L++ [l],j+4,_,t,rfl,by show w64 (((j+3:Nat):Int)+1)=_; rw [bi (by omega)]; omega,h2,qA he,S'⟩,?_⟩;simp only [iX,eQ,xl,hn];rw [bi (by omega)];omega
     ·right
      have hnn:e.isNil=false:=by cases hy <;> rfl
      simp only [hnn,jN,gi,au,bsm,cT,h4];exact ⟨_,rfl,.inl ⟨_,_,_,rfl,.line (j+3) r.v d w t e S he h10 hgo hy⟩⟩
  ·right
   rw [ag (by rw [bh,aa,aa]; exact hgo)];exact ⟨_,rfl,.inr ⟨r,L,n,d,rest,rfl,hn,hr,he,S,by omega,by have:=g3 (by omega); omega⟩⟩
 ·rcases ht with ⟨r,L,e,rfl,hb⟩ | ⟨r,L,n,d,rest,rfl,hn,hr,he,S,h3,hH⟩
  ·exact ⟨_,rfl,r,L,rfl,.inr hb⟩
  ·simp only [bsm,au,hr];by_cases hne:rest= []
   ·subst hne;rw [show (⟨#[]⟩:ByteArray)=mkS [] from rfl,ej,ag (by decide)];obtain ⟨j,rfl⟩:∃j,n=j+3:=⟨n - 3,by omega⟩;obtain ⟨v1,v2⟩:=S.fin (by omega);exact ⟨_,rfl,r,L,rfl,.inl ⟨rfl,v1,by rw [he,v2,cS]⟩⟩
   ·rw [show (⟨#[]⟩:ByteArray)=mkS [] from rfl,js hne,ai (by decide)];simp only [cT,bsm,hn];exact ⟨_,rfl,r,L,rfl,.inr (.stop n r.v d rest S he (.inr ⟨hH,h3,hne⟩))⟩
inductive qr (s:List UInt8):Er→Prop
 | stop (n:Nat) (h:Bad s (.fault (n:Int) (.sent 6))):qr s (.fault (n:Int) (.sent 1))
 | line (n:Nat) (e:Er) (he:e≠ .sent 6) (h:Bad s (.fault (n:Int) e)):qr s (.fault (n:Int) e)
theorem lx (s:List UInt8) (hs:s.length≤1048576):∃(st:Sto) (v:af) (e:Er),fi ⟨[],[]⟩ (mkS s)=some (st,v,e)∧((e=Er.nil∧VwP v∧s=fa v)∨(v=lM∧qr s e)):=by
 obtain ⟨⟨st,e⟩,h1,r,L,h2,h3⟩:=tq s (by omega);simp only at h2 h3;subst h2;unfold fi;rw [ag (by rw [aa,iz]; omega),bsm];have hst:Sto.add_snap_reader (⟨[],[]⟩:Sto) (⟨mkS s,0,lM⟩:am)=St ⟨mkS s,0,lM⟩ []:=rfl;rw [hst];simp only [aM];rw [h1,bsm];rcases h3 with ⟨rfl,hv,he⟩ | hb
 ·refine ⟨St r L,r.v,Er.nil,?_,.inl ⟨rfl,hv,he⟩⟩;simp only [ju,bsm,cj,Er.isNil];rfl
 ·cases hb with
  | stop n v d rest S he h=>
   refine ⟨St r L,lM,_,?_,.inr ⟨rfl,.stop n (.stop n v d rest S he h)⟩⟩;rfl
  | line n v d w t e S he hw hn hy=>
   cases hy with
   | word m k a b c=>
    refine ⟨St r L,lM,_,?_,.inr ⟨rfl,.line n _ (fun q=>by cases q) (.line n v d w t _ S he hw hn (.word m k a b c))⟩⟩;rfl
   | row l a b c g f=>
    refine ⟨St r L,lM,_,?_,.inr ⟨rfl,.line n _ (fun q=>by cases q) (.line n v d w t _ S he hw hn (.row l a b c g f))⟩⟩;rfl
end Go.Proofs.YtmncdniojmigeaaGreatDoor
namespace Go.Proofs.YtmncdniojmigeaaGreatDoor
open Go Go.Lt
set_option maxRecDepth 100000 in
theorem oo:bv=some true:=by kernel_rfl
theorem VwP.l {v:af} (h:VwP v):VwL v:=by
 have h1:=h.high; have h2:=h.h2; have h3:=h.w2;exact ⟨by omega,fun l hl=>by have:=(h.lines l hl).1; omega⟩
theorem gU (ws:List (List UInt8)):1≤(bW ws).count 10:=by
 unfold bW;rw [dt];have:([10]:List UInt8).count 10=1:=by decide
 omega
theorem nR:∀ls:List ah,ls.length≤(cD ls).count 10
 | []=>by simp
 | l :: r=>by
  have h1:=gU (eD l);have h2:=nR r;rw [cD,dt,aj];omega
theorem Stg.cnt {n:Nat} {v:af} {d:List UInt8} (h:Stg n v d):n≤d.count 10:=by
 match n,h with
 | 0,_=>omega
 | 1,h=>obtain ⟨W,H,_,_,_,rfl⟩:=h; exact gU _
 | 2,h=>
  obtain ⟨W,H,c,_,_,_,_,rfl⟩:=h;have h1:=gU (fC W H);have h2:=gU (cX c);rw [dt];omega
 | j+3,h=>
  obtain ⟨_,_,_,hl,_,_,rfl⟩:=h;have h1:=gU (fC v.Wide v.High);have h2:=gU (cX v.At);have h3:=gU (gI v.Auto);have h4:=nR v.Lines;unfold fa;rw [dt,dt,dt];omega
theorem qr.law {s:List UInt8} {e:Er} (h:qr s e):e.isNil=false∧∃(n:Nat) (c g:Int),iK e=some (n:Int)∧n≤s.count 10∧gv e=some c∧fB e=some g∧(c=2∨c=5∨c=6)∧((c==6)=decide (g≥0))∧(c=5→3≤n):=by
 have cnt:∀{n:Nat} {v:af} {d rest:List UInt8},Stg n v d→s=d++rest→n≤s.count 10:=fun S e=>by
  have:=S.cnt;rw [e,dt];omega
 cases h with
 | stop n hb=>
  refine ⟨rfl,n,2,-1,rfl,?_,rfl,rfl,.inl rfl,rfl,fun q=>by omega⟩;generalize hx:Er.fault (n:Int) (.sent 6)=x at hb
  cases hb with
  | stop n' v d rest S he h=>
   have:n=n':=by injection hx; omega
   subst this;exact cnt S he
  | line n' v d w t e S he hw hn hy=>
   have:n=n':=by injection hx; omega
   subst this;exact cnt S he
 | line n e hne hb=>
  generalize hx:Er.fault (n:Int) e=x at hb
  cases hb with
  | stop n' v d rest S he h=>
   injection hx with _ h2
   exact absurd h2 hne
  | line n' v d w t e' S he hw hn hy=>
   injection hx with h1 h2
   subst h2;have:n=n':=by omega
   subst this
   cases hy with
   | word m k a b c=>
    refine ⟨rfl,n,6,k,rfl,cnt S he,rfl,rfl,.inr (.inr rfl),?_,fun q=>by omega⟩;simp
   | row l a b c g f=>exact ⟨rfl,n,5,-1,rfl,cnt S he,rfl,rfl,.inr (.inl rfl),rfl,fun _=>a⟩
theorem mw (s0:ByteArray):∃st,cm ⟨[],[]⟩ s0=some (st,true):=by
 obtain ⟨s,rfl⟩:∃s,s0=mkS s:=⟨blS s0,(mj s0).symm⟩;unfold cm;rw [oo,bsm,ci,dF,bsm,iz];by_cases hs:s.length > 20000
 ·rw [ai (fk (by omega)),bsm];exact ⟨_,rfl⟩
 ·rw [ag (by rw [aa]; omega)];obtain ⟨st,v,e,h1,h2⟩:=lx s (by omega);rw [h1,bsm];rcases h2 with ⟨rfl,hv,he⟩ | ⟨rfl,ht⟩
  ·obtain ⟨b,b1,b2⟩:=jq v hv.l;simp only [Er.isNil,gi];rw [b1,b2.2 hv,bsm,kp hv,bsm,he,ej];exact ⟨st,rfl⟩
  ·obtain ⟨hn,n,c,g,q1,q2,q3,q4,q5,q6,q7⟩:=ht.law;simp only [hn,bC,fY];refine nT (n:=s.length) (fun i (a:Int×Int)=>a=((((s.take i).count 10:Nat):Int),(i:Int))) (fun t=>t=((s.count 10:Nat):Int)) (fun i a hi hI=>?_) (fun a hI=>?_) (by simp) (by omega) (fun t ht=>?_)
   ·subst hI
    left
    simp only;rw [ai (by rw [aa]; omega),kH hi,bsm];have hcnt:(s.take (i+1)).count 10=(s.take i).count 10+(if s[i]=10 then 1 else 0):=by
     rw [ay hi,dt];by_cases h:s[i]=10
     ·rw [h]; rfl
     ·rw [ag h,wX (l:=[s[i]]) |>.2 (by simpa using fun q:(10:UInt8)=s[i]=>h q.symm)]
    have hle:(s.take i).count 10≤i:=dI nB (by rw [aC]; omega);by_cases h:s[i]=10
    ·rw [ai (by rw [bd,h]; rfl),bsm,bi (by omega),bi (by omega)];refine ⟨_,rfl,?_⟩;rw [hcnt,ai h];rfl
    ·rw [ag (by
      rw [bd];intro q;exact h (UInt8.toNat_inj.1 (by show (s[i]).toNat=10; omega))),bsm,bi (by omega)]
     refine ⟨_,rfl,?_⟩;rw [hcnt,ag h];rfl
   ·subst hI;refine ⟨_,by simp only; rw [ag (by simp)],?_⟩;rw [cg]
   ·subst ht;rw [q1,bsm,q3,bsm];simp only [bV,bF,bsm];rw [ag (by
     simp only [bh,ax,lH,aa,aM];omega),q4,bsm,q6]
    refine ⟨st,?_⟩;simp only [lj,fT,bsm]
    congr 2
    rw [ol,bh,lH,aa];omega
end Go.Proofs.YtmncdniojmigeaaGreatDoor
namespace Go.Proofs.YtmncdniojmigeaaGreatDoor
open Go Go.Lt
def cC:List (List (List UInt8))→List UInt8
 | []=>[]
 | ws :: r=>bW ws++cC r
def Cln (ws:List (List UInt8)):Prop:=ws≠ []∧∀w∈ws,(10:UInt8)∉w∧(32:UInt8)∉w
theorem Cln.no10 {ws:List (List UInt8)} (h:Cln ws):(10:UInt8)∉bR 32 ws:=fun q=>by
 rcases mG 32 10 ws q with e | ⟨w,hw,hb⟩
 ·exact absurd e (by decide)
 ·exact (h.2 w hw).1 hb
theorem Cln.split {ws:List (List UInt8)} (h:Cln ws):bA 32 (bR 32 ws)=ws:=ko h.1 fun w hw=>(h.2 w hw).2
theorem qh:∀{a b t u:List UInt8},(10:UInt8)∉a→(10:UInt8)∉b→a++10 :: t=b++10 :: u→a=b∧t=u
 | [],[],_,_,_,_,h=>⟨rfl,(az h).2⟩
 | [],y :: b,_,_,_,hb,h=>absurd (az h).1 (fun e=>hb (by rw [e]; exact aP))
 | x :: a,[],_,_,ha,_,h=>absurd (az h).1 (fun e=>ha (by rw [e]; exact aP))
 | x :: a,y :: b,_,_,ha,hb,h=>by
  obtain ⟨e,h'⟩:=az h;obtain ⟨p,q⟩:=qh (fun m=>ha (aI _ m)) (fun m=>hb (aI _ m)) h';exact ⟨by rw [e,p],q⟩
theorem su {a b:List (List UInt8)} {t u:List UInt8} (ha:Cln a) (hb:Cln b) (h:bW a++t=bW b++u):a=b∧t=u:=by
 unfold bW at h;rw [aA,aA] at h;obtain ⟨p,q⟩:=qh ha.no10 hb.no10 h;exact ⟨by rw [←ha.split,p,hb.split],q⟩
theorem pk (a:List (List UInt8)) (t:List UInt8):bW a++t≠ []:=by unfold bW; simp
theorem sv (a:List (List UInt8)) (t:List UInt8):(10:UInt8)∈bW a++t:=by unfold bW; simp
theorem lB:∀(D E:List (List (List UInt8))) (t:List UInt8),(∀x∈D,Cln x)→(∀x∈E,Cln x)→cC D++t=cC E→D.length≤E.length∧D=E.take D.length∧t=cC (E.drop D.length)
 | [],E,t,_,_,h=>⟨dw _,rfl,h⟩
 | x :: D,[],t,_,_,h=>absurd (show bW x++(cC D++t)= [] by rw [←aA]; exact h) (pk _ _)
 | x :: D,y :: E,t,hD,hE,h=>by
  rw [cC,cC,aA] at h;obtain ⟨e,h'⟩:=su (hD x aP) (hE y aP) h;subst e;obtain ⟨p,q,r⟩:=lB D E t (fun z hz=>hD z (aI _ hz)) (fun z hz=>hE z (aI _ hz)) h';refine ⟨by rw [aj,aj]; omega,?_,r⟩;rw [aj,jb,←q]
def aW (v:af):List (List (List UInt8)):=fC v.Wide v.High :: cX v.At :: gI v.Auto :: v.Lines.map eD
theorem pj:∀ls:List ah,cD ls=cC (ls.map eD)
 | []=>rfl
 | l :: r=>by rw [cD,iH,cC,pj r]
theorem iN (v:af):fa v=cC (aW v):=by
 unfold fa aW;rw [cC,cC,cC,pj]
theorem fM (v:af):(aW v).length=3+v.Lines.length:=by
 unfold aW;simp only [aj,an];omega
def wb (b:UInt8):Prop:=b≠10∧b≠32∧b≠63
theorem sQ {B:Nat} {b:UInt8} (h:fig B b=true):wb b:=by
 obtain ⟨d,h1,h2,h3,rfl⟩:=mq h;have:∀d:Fin 16,wb (hd d.val):=by unfold wb; decide
 exact this ⟨d,h3⟩
theorem qK (n:Nat):∀b∈nd 10 n,wb b:=fun b hb=>sQ (mF (B:=10) (by omega) (by omega) n b hb)
theorem qD (ns:List Nat):∀b∈fd ns,wb b:=fun b hb=>by
 rcases kM hb with rfl | h
 ·unfold wb; decide
 ·exact sQ h
theorem uk (c:ak):∀b∈dV c,wb b:=fun b hb=>by
 unfold dV at hb;split at hb
 ·rw [List.mem_singleton.1 hb]; unfold wb; decide
 split at hb
 ·rw [List.mem_singleton.1 hb]; unfold wb; decide
 split at hb
 ·rcases List.mem_cons.1 hb with rfl | hb
  ·unfold wb; decide
  ·exact qD _ b hb
 ·exact qD _ b hb
theorem rZ (l:ah):∀w∈eD l,∀b∈w,wb b:=fun w hw=>by
 unfold eD at hw;rcases List.mem_cons.1 hw with rfl | hw
 ·intro b hb;rw [List.mem_singleton.1 hb];unfold wb;split <;> decide
 ·obtain ⟨c,_,rfl⟩:=List.mem_map.1 hw;exact uk c
theorem kE (v:af):∀x∈aW v,∀w∈x,∀b∈w,wb b:=fun x hx w hw=>by
 unfold aW at hx;rcases List.mem_cons.1 hx with rfl | hx
 ·unfold fC at hw;rcases List.mem_cons.1 hw with rfl | hw
  ·unfold wb; decide
  rcases List.mem_cons.1 hw with rfl | hw
  ·exact qK _
  ·rw [List.mem_singleton.1 hw]; exact qK _
 rcases List.mem_cons.1 hx with rfl | hx
 ·unfold cX at hw;rcases List.mem_append.1 hw with hw | hw
  ·rcases List.mem_cons.1 hw with rfl | hw
   ·unfold wb; decide
   rcases List.mem_cons.1 hw with rfl | hw
   ·exact qK _
   ·rw [List.mem_singleton.1 hw]; exact qK _
  ·split at hw
   ·rw [List.mem_singleton.1 hw]; unfold wb; decide
   ·cases hw
 rcases List.mem_cons.1 hx with rfl | hx
 ·unfold gI at hw;rcases List.mem_cons.1 hw with rfl | hw
  ·unfold wb; decide
  ·rw [List.mem_singleton.1 hw];unfold wb;split <;> decide
 ·obtain ⟨l,_,rfl⟩:=List.mem_map.1 hx;exact rZ l w hw
theorem sX {x:List (List UInt8)} (h0:x≠ []) (h:∀w∈x,∀b∈w,b≠10∧b≠32):Cln x:=⟨h0,fun w hw=>⟨fun q=>(h w hw _ q).1 rfl,fun q=>(h w hw _ q).2 rfl⟩⟩
theorem qw (v:af):∀x∈aW v,x≠ []:=fun x hx=>by
 unfold aW at hx;rcases List.mem_cons.1 hx with rfl | hx
 ·exact fun q=>by cases q
 rcases List.mem_cons.1 hx with rfl | hx
 ·exact fun q=>by cases q
 rcases List.mem_cons.1 hx with rfl | hx
 ·exact fun q=>by cases q
 ·obtain ⟨l,_,rfl⟩:=List.mem_map.1 hx;exact fun q=>by cases q
theorem iJ (v:af):∀x∈aW v,Cln x:=fun x hx=>sX (qw v x hx) fun w hw b hb=>⟨(kE v x hx w hw b hb).1,(kE v x hx w hw b hb).2.1⟩
theorem rS {E:List (List (List UInt8))} (h:∀x∈E,Cln x) (n:Nat):∀x∈E.take n,Cln x:=fun x hx=>h x (dM hx)
theorem Stg.lines:∀{n:Nat} {v:af} {d:List UInt8},Stg n v d→d=cC ((aW v).take n)∧((aW v).take n).length=n
 | 0,_,_,⟨_,h⟩=>⟨h,rfl⟩
 | 1,_,_,⟨W,H,_,_,e,h⟩=>by subst e; exact ⟨h.trans (cS _).symm,rfl⟩
 | 2,_,_,⟨W,H,c,_,_,_,e,h⟩=>by
  subst e;refine ⟨h.trans ?_,rfl⟩;show _=bW (fC W H)++(bW (cX c)++ []);rw [cS]
 | j+3,v,_,⟨_,_,_,hl,_,_,h⟩=>by
  have:(aW v).length=j+3:=by rw [fM]; omega
  rw [bw (by omega)];exact ⟨h.trans (iN v),this⟩
theorem Stg.sized:∀{n:Nat} {v:af} {d:List UInt8},Stg n v d→1≤n→(1≤v.Wide∧v.Wide≤1024)∧(1≤v.High∧v.High≤1024)
 | 0,_,_,_,h=>by omega
 | 1,_,_,⟨W,H,h1,h2,e,_⟩,_=>by subst e; exact ⟨h1,h2⟩
 | 2,_,_,⟨W,H,c,h1,h2,_,e,h⟩,_=>by subst e; exact ⟨h1,h2⟩
 | j+3,v,_,⟨h1,h2,_⟩,_=>⟨h1,h2⟩
theorem kG {a b:Int} (ha:0≤a) (hb:0≤b) (h:nd 10 a.toNat=nd 10 b.toNat):a=b:=by
 have:=mD (B:=10) (by omega) (by omega) h;omega
theorem nY {W H W' H':Int} (h1:0≤W) (h2:0≤H) (h3:0≤W') (h4:0≤H') (h:fC W H=fC W' H'):W=W'∧H=H':=by
 unfold fC at h
 injection h with _ h
 injection h with a h
 injection h with b _
 exact ⟨kG h1 h3 a,kG h2 h4 b⟩
theorem gP {n:Nat} {v' v:af} {d:List UInt8} (S:Stg n v' d) (hv:VwP v) (h1:1≤n) (h:(aW v').take n=(aW v).take n):v'.Wide=v.Wide∧v'.High=v.High:=by
 obtain ⟨a,b⟩:=S.sized h1;have c:=hv.w1; have d:=hv.h1;obtain ⟨m,rfl⟩:∃m,n=m+1:=⟨n - 1,by omega⟩;unfold aW at h;rw [jb,jb] at h;exact nY (by omega) (by omega) (by omega) (by omega) (az h).1
theorem Bad.where {E:List (List (List UInt8))} (hE:∀x∈E,Cln x) {e:Er} (h:Bad (cC E) e):∃(n:Nat) (v:af) (d:List UInt8),Stg n v d∧n≤E.length∧(aW v).take n=E.take n∧
  ((e= .fault (n:Int) (.sent 6)∧((n=E.length∧((n:Int) < 3∨(n:Int) < 3+v.High))∨((n:Int)=3+v.High∧3≤n∧n < E.length)))∨∃(e':Er) (hn:n < E.length),e= .fault (n:Int) e'∧Why n v E[n] e'):=by
 generalize hs:cC E=s at h;have pre:∀{n:Nat} {v:af} {d rest:List UInt8},Stg n v d→s=d++rest→n≤E.length∧(aW v).take n=E.take n∧rest=cC (E.drop n):=fun {n v d rest} S he=>by
  obtain ⟨h1,h2⟩:=S.lines;obtain ⟨a,b,c⟩:=lB ((aW v).take n) E rest (rS (iJ v) n) hE (by rw [←h1,←he,hs]);rw [h2] at a b c;exact ⟨a,b,c⟩
 cases h with
 | stop n v d rest S he h=>
  obtain ⟨a,b,c⟩:=pre S he;refine ⟨n,v,d,S,a,b,.inl ⟨rfl,?_⟩⟩;rcases h with ⟨h,h'⟩ | ⟨h1,h2,h3⟩
  ·left
   refine ⟨?_,h'⟩;rcases aG n E.length with q | q
   ·rw [c,dx q,cC] at h;exact absurd (sv _ _) h
   ·omega
  ·right
   refine ⟨h1,h2,?_⟩;rcases aG n E.length with q | q
   ·exact q
   ·rw [c,lL q] at h3;exact absurd rfl h3
 | line n v d w t e' S he hw hn hy=>
  obtain ⟨a,b,c⟩:=pre S he;have q:n < E.length:=by
   rcases aG n E.length with q | q
   ·exact q
   ·rw [lL q] at c;exact absurd c (by rw [cC]; simp)
  refine ⟨n,v,d,S,a,b,.inr ⟨e',q,rfl,?_⟩⟩;rw [dx q,cC] at c;unfold bW at c;rw [aA] at c;have hc:=hE _ (aw q);obtain ⟨r,_⟩:=qh hw hc.no10 c;rw [r,hc.split] at hy;exact hy
theorem jS (c:aF):3≤(cX c).length∧(cX c).length≤4:=by
 unfold cX;by_cases h:c.Pending=true <;> simp [h]
theorem kF {v:af} {i:Nat} (h:i+3 < (aW v).length) (hi:i < v.Lines.length):(aW v)[i+3]=eD v.Lines[i]:=by
 show (v.Lines.map eD)[i]'(by rw [an]; exact hi)=_;rw [cG]
theorem uP {v:af} {l:ah} (hs:Snd l.Cells):∀j (h:j < (eD l).length),okC j (eD l)[j]
 | 0,_=>by
  show ([if l.Wrap=true then (43:UInt8) else 45]= [43]∨ [if l.Wrap=true then (43:UInt8) else 45]= [45]);by_cases h:l.Wrap=true <;> simp [h]
 | j+1,h=>by
  have hj:j < l.Cells.length:=by unfold eD at h; simpa using h
  have e:(eD l)[j+1]=dV l.Cells[j]:=by
   show (l.Cells.map dV)[j]'(by rw [an]; exact hj)=_;rw [cG]
  rw [e];exact ⟨l.Cells[j],iO hs _ (aw hj),rfl⟩
theorem sj {v:af} (hv:VwP v):∀j (h:j < (cX v.At).length),ok1 v.Wide v.High (cX v.At) j (cX v.At)[j]:=by
 obtain ⟨⟨a1,a2⟩,⟨b1,b2⟩,c⟩:=hv.cur;have w2:=hv.w2; have h2:=hv.h2;intro j h
 match j,h with
 | 0,_=>rfl
 | 1,_=>exact ⟨v.At.Row.toNat,by omega,rfl,by omega,by omega⟩
 | 2,_=>exact ⟨v.At.Col.toNat,by omega,rfl,by omega,by omega⟩
 | 3,h=>
  cases hp:v.At.Pending with
  | false=>
   have:(cX v.At).length=3:=by unfold cX; rw [hp]; rfl
   omega
  | true=>
   have e:cX v.At= [[97,116],nd 10 v.At.Row.toNat,nd 10 v.At.Col.toNat,cH]:=by unfold cX; rw [hp]; rfl
   simp only [e];exact ⟨rfl,by simp,by rw [←c hp]; rfl⟩
 | j+4,h=>have:=(jS v.At).2; omega
theorem qF {n:Nat} {v' v:af} {d:List UInt8} (S:Stg n v' d) (hv:VwP v) (hs:(aW v').take n=(aW v).take n) (hn:n < (aW v).length):∀j (h:j < (aW v)[n].length),pZ n v' (aW v)[n] j (aW v)[n][j]:=by
 have w1:=hv.w1; have w2:=hv.w2; have h1:=hv.h1; have h2:=hv.h2
 match n,S,hs,hn with
 | 0,S,hs,hn=>
  intro j h;show ok0 j (fC v.Wide v.High)[j]
  match j,h with
  | 0,_=>rfl
  | 1,_=>exact ⟨v.Wide.toNat,by omega,rfl,by omega,by omega⟩
  | 2,_=>exact ⟨v.High.toNat,by omega,rfl,by omega,by omega⟩
  | j+3,h=>exact absurd h (by show ¬j+3 < 3; omega)
 | 1,S,hs,hn=>
  obtain ⟨eW,eH⟩:=gP S hv (by omega) hs;intro j h;show ok1 v'.Wide v'.High (cX v.At) j (cX v.At)[j];rw [eW,eH];exact sj hv j h
 | 2,S,hs,hn=>
  intro j h;show ok2 j (gI v.Auto)[j]
  match j,h with
  | 0,_=>rfl
  | 1,_=>
   show (if v.Auto=true then wOn else jd)=wOn∨(if v.Auto=true then wOn else jd)=jd;cases v.Auto
   ·right; rfl
   ·left; rfl
  | j+2,h=>exact absurd h (by show ¬j+2 < 2; omega)
 | i+3,S,hs,hn=>
  have hi:i < v.Lines.length:=by rw [fM] at hn; omega
  have e:=kF hn hi;intro j h;show okC j (aW v)[i+3][j];simp only [e];exact uP (v:=v) (hv.lines _ (aw hi)).2 j (by rw [←e]; exact h)
theorem ov (l:ah):(eD l).length=l.Cells.length+1:=by
 unfold eD;rw [aj,an]
theorem rE {a b:ak} (ha:rgt a=true) (hb:rgt b=true) (h:dV a=dV b):a=b:=by
 have h1:=qH ha;rw [h,qH hb] at h1;exact (Prod.mk.inj (ao h1)).1.symm
theorem kt {α β:Type} {f:α→β}:∀{a b:List α},(∀x∈a,∀y∈b,f x=f y→x=y)→a.map f=b.map f→a=b
 | [],[],_,_=>rfl
 | [],_ :: _,_,h=>by cases h
 | _ :: _,[],_,h=>by cases h
 | x :: a,y :: b,H,h=>by
  rw [iH,iH] at h;obtain ⟨h1,h2⟩:=az h;rw [H x aP y aP h1,kt (fun p hp q hq=>H p (aI _ hp) q (aI _ hq)) h2]
theorem pf {a b:ah} (ha:∀c∈a.Cells,rgt c=true) (hb:∀c∈b.Cells,rgt c=true) (h:eD a=eD b):a=b:=by
 unfold eD at h;obtain ⟨h1,h2⟩:=az h;have e:=kt (fun x hx y hy=>rE (ha x hx) (hb y hy)) h2;have e2:a.Wrap=b.Wrap:=by
  revert h1
  cases a.Wrap <;> cases b.Wrap <;> decide
 cases a;cases b;simp only at e e2;rw [e,e2]
theorem rN {n:Nat} {v' v:af} {d:List UInt8} (S:Stg n v' d) (hv:VwP v) (hs:(aW v').take n=(aW v).take n) (hn:n < (aW v).length) {e:Er} (h:Why n v' (aW v)[n] e):False:=by
 have ok:=qF S hv hs hn
 cases h with
 | word m k W F hm=>
  refine F ⟨?_,ok⟩;obtain ⟨m0,m1,m2,m3⟩:=hm
  match n,S,hs,hn,ok,W,F,m0,m1,m2,m3 with
  | 0,_,_,_,_,_,_,m0,_,_,_=>rw [m0 rfl]; rfl
  | 1,_,_,_,ok,W,_,_,m1,_,_=>
   have hl:=jS v.At;rcases m1 rfl with ⟨rfl,h4 | ⟨j,hj,hno⟩⟩ | ⟨rfl,hk⟩
   ·show (cX v.At).length=4;have:4≤(cX v.At).length:=h4;omega
   ·exact absurd (ok j hj) hno
   ·show (cX v.At).length=3;have:(cX v.At).length≤k:=hk;have:=W.2.1;omega
  | 2,_,_,_,_,_,_,_,_,m2,_=>rw [m2 rfl]; rfl
  | i+3,S,hs,hn,_,_,_,_,_,_,m3=>
   have hi:i < v.Lines.length:=by rw [fM] at hn; omega
   rw [kF hn hi,ov];have h1:=m3 (by omega);rw [(gP S hv (by omega) hs).1] at h1;have:=(hv.lines _ (aw hi)).1;omega
 | row l h3 hw hl hr hns=>
  obtain ⟨i,rfl⟩:∃i,n=i+3:=⟨n - 3,by omega⟩;have hi:i < v.Lines.length:=by rw [fM] at hn; omega
  rw [kF hn hi] at hw;have hsn:=(hv.lines _ (aw hi)).2;exact hns (by rw [←pf (iO hsn) hr hw]; exact hsn)
theorem qv {v:af} (hv:VwP v) {e:Er} (h:Bad (fa v) e):False:=by
 rw [iN] at h;obtain ⟨n,v',d,S,hn,heq,hc⟩:=Bad.where (iJ v) h;have hlen:=fM v;have hh:=hv.high;rcases hc with ⟨_,h | h⟩ | ⟨e',hlt,_,hy⟩
 ·obtain ⟨h1,h2⟩:=h;have:=(gP S hv (by omega) heq).2;omega
 ·obtain ⟨h1,h2,h3⟩:=h;have:=(gP S hv (by omega) heq).2;omega
 ·exact rN S hv heq hlt hy
theorem tD {v:af} (hv:VwP v) {e:Er} (h:qr (fa v) e):False:=by
 cases h with
 | stop n h=>exact qv hv h
 | line n e he h=>exact qv hv h
theorem rc {v w:af} (hv:VwP v) (hw:VwP w) (h:aW v=aW w):v=w:=by
 unfold aW at h;obtain ⟨h0,h⟩:=az h;obtain ⟨h1,h⟩:=az h;obtain ⟨h2,h3⟩:=az h;have a1:=hv.w1; have a2:=hv.h1; have a3:=hw.w1; have a4:=hw.h1;obtain ⟨eW,eH⟩:=nY (by omega) (by omega) (by omega) (by omega) h0;obtain ⟨⟨c1,_⟩,⟨c2,_⟩,_⟩:=hv.cur;obtain ⟨⟨d1,_⟩,⟨d2,_⟩,_⟩:=hw.cur;have eA:v.At=w.At:=by
  unfold cX at h1;have r:nd 10 v.At.Row.toNat=nd 10 w.At.Row.toNat:=(az (az h1).2).1;have c:nd 10 v.At.Col.toNat=nd 10 w.At.Col.toNat:=(az (az (az h1).2).2).1;have p:=(az (az (az h1).2).2).2;have r':=kG c1 d1 r;have c':=kG c2 d2 c;have p':v.At.Pending=w.At.Pending:=by
   revert p
   cases v.At.Pending <;> cases w.At.Pending
   ·intro _; rfl
   ·intro q; cases q
   ·intro q; cases q
   ·intro _; rfl
  cases hA:v.At
  cases hB:w.At
  rw [hA,hB] at r' c' p';simp only at r' c' p';rw [r',c',p']
 have eO:v.Auto=w.Auto:=by
  unfold gI at h2;have o:=(az (az h2).2).1
  revert o
  cases v.Auto <;> cases w.Auto
  ·intro _; rfl
  ·intro q; exact absurd q (by decide)
  ·intro q; exact absurd q (by decide)
  ·intro _; rfl
 have eL:v.Lines=w.Lines:=kt (fun x hx y hy=>pf (iO (hv.lines x hx).2) (iO (hw.lines y hy).2)) h3;cases v;cases w;simp only at eW eH eA eO eL;rw [eW,eH,eA,eO,eL]
theorem mH {D E:List (List (List UInt8))} (hD:∀x∈D,Cln x) (hE:∀x∈E,Cln x) (h:cC D=cC E):D=E:=by
 obtain ⟨a,b,c⟩:=lB D E [] hD hE (by rw [cS]; exact h);rcases aG D.length E.length with q | q
 ·rw [dx q,cC] at c;exact absurd c.symm (pk _ _)
 ·rw [bw q] at b;exact b
theorem rb {v w:af} (hv:VwP v) (hw:VwP w) (h:fa v=fa w):v=w:=
 rc hv hw (mH (iJ v) (iJ w) (by rw [←iN,←iN,h]))
theorem uQ:∀(n:Nat) (v:af) (ws:List (List UInt8)) (j:Nat) (w:List UInt8),¬pZ n v ws j (63 :: w)
 | 0,_,_,j,w=>vR j w
 | 1,v,ws,j,w=>vQ v.Wide v.High ws j w
 | 2,_,_,j,w=>vP j w
 | n+3,_,_,j,w=>vO j w
theorem ru:∀(n:Nat) (v:af) (ws ws':List (List UInt8)) (j:Nat) (w:List UInt8),(n=1→j≠3)→pZ n v ws j w→pZ n v ws' j w
 | 0,_,_,_,_,_,_,h=>h
 | 1,_,_,_,0,_,_,h=>h
 | 1,_,_,_,1,_,_,h=>h
 | 1,_,_,_,2,_,_,h=>h
 | 1,_,_,_,3,_,q,_=>absurd rfl (q rfl)
 | 1,_,_,_,j+4,_,_,h=>h
 | 2,_,_,_,_,_,_,h=>h
 | n+3,_,_,_,_,_,_,h=>h
structure Spo (v:af) (E:List (List (List UInt8))) (q p:Nat):Prop where
 cln:∀x∈E,Cln x
 len:E.length=(aW v).length
 hq:q < E.length
 same:E.take q=(aW v).take q
 hp:p < E[q].length
 wlen:E[q].length=((aW v)[q]'(by rw [←len]; exact hq)).length
 bad:∃w,E[q][p]=63 :: w
 good:∀j (h:j < p),E[q][j]'(by omega)=((aW v)[q]'(by rw [←len]; exact hq))[j]'(by rw [←wlen]; omega)
theorem vS (v:af) {x:List (List UInt8)} (hx:x∈aW v) {w:List UInt8} (h:(63 :: w)∈x):False:=
 (kE v x hx _ h 63 aP).2.2 rfl
theorem Spo.at {v:af} {E:List (List (List UInt8))} {q p:Nat} (P:Spo v E q p) (hv:VwP v) {e:Er} (h:Bad (cC E) e):e= .fault (q:Int) (.fault (p:Int) (.sent 5)):=by
 obtain ⟨cln,len,hq,same,hp,wlen,⟨w,bad⟩,good⟩:=P;have hmem:(63 :: w)∈E[q]:=by rw [←bad]; exact aw hp
 obtain ⟨n,v',d,S,hn,heq,hc⟩:=Bad.where cln h;have hnq:n≤q:=by
  rcases aG q n with hlt | hge
  ·have h1:(aW v').take n=E.take n:=heq;have h2:E[q]∈E.take n:=by
    have:(E.take n)[q]'(by rw [aC]; omega)=E[q]:=io;rw [←this];exact aw _
   rw [←h1] at h2;exact (vS v' (dM h2) hmem).elim
  ·exact hge
 have hs:(aW v').take n=(aW v).take n:=by
  have:(E.take q).take n=((aW v).take q).take n:=by rw [same]
  rw [jJ,jJ,eR hnq] at this;rw [heq,this]
 have hlen:=fM v;have hh:=hv.high;rcases hc with ⟨_,h | h⟩ | ⟨e',hlt,he,hy⟩
 ·omega
 ·obtain ⟨h1,h2,h3⟩:=h;have:=(gP S hv (by omega) hs).2;omega
 ·rcases aG n q with hl | hg
  ·have e1:E[n]=(aW v)[n]'(by omega):=by
    have a:(E.take q)[n]'(by rw [aC]; omega)=E[n]:=io;have b:((aW v).take q)[n]'(by rw [aC]; omega)=(aW v)[n]'(by omega):=io;rw [←a,←b];simp only [same]
   rw [e1] at hy;exact (rN S hv hs (by omega) hy).elim
  ·have:n=q:=by omega
   subst this;have ok:=qF S hv hs (by omega);rw [he]
   cases hy with
   | word m k W F hm=>
    have pm:p < m:=by
     obtain ⟨m0,m1,m2,m3⟩:=hm;have hk:=W.2.1;have hcase:n=0∨n=1∨n=2∨3≤n:=by omega
     rcases hcase with rfl | rfl | rfl | h3
     ·have:=m0 rfl;have w':E[0].length=3:=wlen;omega
     ·have hl:=jS v.At;have w':E[1].length=(cX v.At).length:=wlen;rcases m1 rfl with ⟨rfl,_⟩ | ⟨rfl,hk'⟩ <;> omega
     ·have:=m2 rfl;have w':E[2].length=2:=wlen;omega
     ·obtain ⟨i,rfl⟩:∃i,n=i+3:=⟨n - 3,by omega⟩;have hi:i < v.Lines.length:=by omega
      have h1:=m3 (by omega);rw [(gP S hv (by omega) hs).1] at h1;rw [kF (by omega) hi,ov] at wlen;have:=(hv.lines _ (aw hi)).1;omega
    have:=pP.uniq W pm hp (fun j hj hjl=>?_) (by rw [bad]; exact uQ _ _ _ _ _)
    ·rw [this]
    ·rw [good j hj];refine ru _ _ _ _ _ _ (fun h1=>?_) (ok j (by rw [←wlen]; exact hjl));subst h1;have hl:=jS v.At;have w':E[1].length=(cX v.At).length:=wlen;omega
   | row l h3 hw hl hr hns=>
    rw [hw] at hmem;exact absurd rfl (rZ l _ hmem 63 aP).2.2
theorem Spo.told {v:af} {E:List (List (List UInt8))} {q p:Nat} (P:Spo v E q p) (hv:VwP v) {e:Er} (h:qr (cC E) e):e= .fault (q:Int) (.fault (p:Int) (.sent 5)):=by
 cases h with
 | stop n h=>
  have:=P.at hv h
  injection this with _ h2
  cases h2
 | line n e he h=>exact P.at hv h
theorem Spo.no {v:af} {E:List (List (List UInt8))} {q p:Nat} (P:Spo v E q p) {w:af} (h:cC E=fa w):False:=by
 rw [iN] at h;have e:=mH P.cln (iJ w) h;obtain ⟨x,hx⟩:=P.bad;have h1:E[q]'P.hq∈aW w:=by rw [←e]; exact aw P.hq
 have h2:(63 :: x)∈E[q]'P.hq:=by rw [←hx]; exact aw P.hp
 exact vS w h1 h2
def ins (q p:Int):Int→Int→Bool→List UInt8→List UInt8
 | _,_,_,[]=>[]
 | n,w,s,b :: t=>(if n=q∧w=p∧s=true then [63] else [])++b :: (if b=10 then ins q p (n+1) 0 true t else if b=32 then ins q p n (w+1) true t else ins q p n w false t)
theorem mp (q p:Int):∀(t:List UInt8) (n w:Int) (s:Bool),(ins q p n w s t).length≤2 * t.length
 | [],_,_,_=>dw _
 | b :: t,n,w,s=>by
  have h1:=mp q p t (n+1) 0 true;have h2:=mp q p t n (w+1) true;have h3:=mp q p t n w false;have h4:((if n=q∧w=p∧s=true then [63] else []):List UInt8).length≤1:=by split <;> simp
  rw [ins,ac,aj,aj];have h5:(if b=10 then ins q p (n+1) 0 true t else if b=32 then ins q p n (w+1) true t else ins q p n w false t).length≤2 * t.length:=by
   split
   ·exact h1
   split
   ·exact h2
   ·exact h3
  omega
theorem sO (q p n w:Int):∀(x t:List UInt8),(10:UInt8)∉x→(32:UInt8)∉x→ins q p n w false (x++t)=x++ins q p n w false t
 | [],_,_,_=>rfl
 | b :: x,t,h1,h2=>by
  have e1:b≠10:=fun e=>h1 (by rw [e]; exact aP);have e2:b≠32:=fun e=>h2 (by rw [e]; exact aP);rw [dd,ins,ag (by simp),ag e1,ag e2,sO q p n w x t (fun m=>h1 (aI _ m)) (fun m=>h2 (aI _ m))];rfl
theorem qP (q p n w:Int) (s:Bool) (c:UInt8) (t:List UInt8) (hc:c=10∨c=32):ins q p n w s (c :: t)=(if n=q∧w=p∧s=true then [63] else [])++c :: (if c=10 then ins q p (n+1) 0 true t else ins q p n (w+1) true t):=by
 rw [ins];rcases hc with rfl | rfl <;> simp
theorem pq (q p n w:Int) (c:UInt8) (t:List UInt8) (hc:c=10∨c=32):∀x:List UInt8,(10:UInt8)∉x→(32:UInt8)∉x→ins q p n w true (x++c :: t)=(if n=q∧w=p then 63 :: x else x)++c :: (if c=10 then ins q p (n+1) 0 true t else ins q p n (w+1) true t)
 | [],_,_=>by
  rw [cR,qP q p n w true c t hc];by_cases h:n=q∧w=p
  ·rw [ai ⟨h.1,h.2,rfl⟩,ai h]
  ·rw [ag (fun g=>h ⟨g.1,g.2.1⟩),ag h]
 | b :: x,h1,h2=>by
  have e1:b≠10:=fun e=>h1 (by rw [e]; exact aP);have e2:b≠32:=fun e=>h2 (by rw [e]; exact aP);rw [dd,ins,ag e1,ag e2,sO q p n w x _ (fun m=>h1 (aI _ m)) (fun m=>h2 (aI _ m)),qP q p n w false c t hc,ag (show ¬(n=q∧w=p∧false=true) from fun g=>by cases g.2.2)];by_cases h:n=q∧w=p
  ·rw [ai ⟨h.1,h.2,rfl⟩,ai h];simp
  ·rw [ag (fun g=>h ⟨g.1,g.2.1⟩),ag h];simp
def mkW (q p n:Int):Int→List (List UInt8)→List (List UInt8)
 | _,[]=>[]
 | w,x :: r=>(if n=q∧w=p then 63 :: x else x) :: mkW q p n (w+1) r
def mkL (q p:Int):Int→List (List (List UInt8))→List (List (List UInt8))
 | _,[]=>[]
 | n,ws :: r=>mkW q p n 0 ws :: mkL q p (n+1) r
theorem pr (q p n:Int) (t:List UInt8):∀(ws:List (List UInt8)) (w:Int),ws≠ []→(∀x∈ws,(10:UInt8)∉x∧(32:UInt8)∉x)→ins q p n w true (bR 32 ws++10 :: t)=bR 32 (mkW q p n w ws)++10 :: ins q p (n+1) 0 true t
 | [],_,h,_=>absurd rfl h
 | [x],w,_,h=>by
  rw [mkW,mkW,bR,bR,pq q p n w 10 t (.inl rfl) x (h x aP).1 (h x aP).2,ai rfl]
 | x :: y :: r,w,_,h=>by
  have hx:=h x aP;have hr:∀z∈y :: r,(10:UInt8)∉z∧(32:UInt8)∉z:=fun z hz=>h z (aI _ hz);have e:mkW q p n w (x :: y :: r)=(if n=q∧w=p then 63 :: x else x) :: mkW q p n (w+1) (y :: r):=rfl;have hne:mkW q p n (w+1) (y :: r)≠ []:=by rw [mkW]; simp
  rw [kv 32 x (r:=y :: r) (by simp),aA,dd,pq q p n w 32 _ (.inr rfl) x hx.1 hx.2,ag (show ¬((32:UInt8)=10) by decide),pr q p n t (y :: r) (w+1) (by simp) hr,e,kv 32 _ hne,aA,dd]
theorem nV (q p:Int):∀(E:List (List (List UInt8))) (n:Int),(∀x∈E,Cln x)→ins q p n 0 true (cC E)=cC (mkL q p n E)
 | [],_,_=>rfl
 | ws :: r,n,h=>by
  have h1:=h ws aP;rw [cC,mkL,cC];unfold bW;rw [aA,aA,vF,vF,pr q p n _ ws 0 h1.1 h1.2,nV q p r (n+1) (fun x hx=>h x (aI _ hx))]
theorem mi (q p n:Int):∀(ws:List (List UInt8)) (w:Int),(mkW q p n w ws).length=ws.length
 | [],_=>rfl
 | x :: r,w=>by rw [mkW,aj,aj,mi q p n r]
theorem qL (q p:Int):∀(E:List (List (List UInt8))) (n:Int),(mkL q p n E).length=E.length
 | [],_=>rfl
 | x :: r,w=>by rw [mkL,aj,aj,qL q p r]
theorem oG (q p n:Int):∀(ws:List (List UInt8)) (w:Int) (j:Nat),(mkW q p n w ws)[j]? = ws[j]?.map fun x=>if n=q∧w+(j:Int)=p then 63 :: x else x
 | [],_,_=>rfl
 | x :: r,w,0=>by rw [mkW]; simp
 | x :: r,w,j+1=>by
  rw [mkW,fr,fr,oG q p n r (w+1) j,show w+1+(j:Int)=w+((j+1:Nat):Int) by omega]
theorem qa (q p:Int):∀(E:List (List (List UInt8))) (n:Int) (i:Nat),(mkL q p n E)[i]? = E[i]?.map fun ws=>mkW q p (n+(i:Int)) 0 ws
 | [],_,_=>rfl
 | x :: r,n,0=>by rw [mkL]; simp
 | x :: r,n,i+1=>by
  rw [mkL,fr,fr,qa q p r (n+1) i,show n+1+(i:Int)=n+((i+1:Nat):Int) by omega]
theorem ss {q p n:Int} {ws:List (List UInt8)} (h:n≠q∨p < 0∨(ws.length:Int)≤p):mkW q p n 0 ws=ws:=by
 apply ip;intro j;rw [oG];by_cases hj:j < ws.length
 ·rw [aq hj,eQ,ag (by omega)]
 ·rw [cO (by omega)]; rfl
theorem uR {q p:Int} {E:List (List (List UInt8))} (h:∀(i:Nat) (hi:i < E.length),(i:Int)=q→p < 0∨(E[i].length:Int)≤p):mkL q p 0 E=E:=by
 apply ip;intro i;rw [qa];by_cases hi:i < E.length
 ·rw [aq hi,eQ,ss];by_cases e:(i:Int)=q
  ·exact .inr (h i hi e)
  ·left; omega
 ·rw [cO (by omega)]; rfl
theorem ud {v:af} {q p:Nat} (hq:q < (aW v).length) (hp:p < (aW v)[q].length):Spo v (mkL q p 0 (aW v)) q p:=by
 have get:∀{i:Nat} (hi:i < (aW v).length) (h':i < (mkL q p 0 (aW v)).length),(mkL q p 0 (aW v))[i]=mkW q p (i:Int) 0 (aW v)[i]:=fun {i} hi h'=>by
  have:=qa q p (aW v) 0 i;rw [aq hi,aq h',eQ,show (0:Int)+(i:Int)=(i:Int) by omega] at this;exact ao this
 have hl:=qL q p (aW v) 0;have hq':q < (mkL (q:Int) (p:Int) 0 (aW v)).length:=by rw [hl]; exact hq
 have eq_:=get hq hq';have wl:=mi q p (q:Int) (aW v)[q] 0;have getw:∀{j:Nat} (hj:j < (aW v)[q].length) (h':j < (mkL (q:Int) (p:Int) 0 (aW v))[q].length),(mkL (q:Int) (p:Int) 0 (aW v))[q][j]=if j=p then 63 :: (aW v)[q][j] else (aW v)[q][j]:=fun {j} hj h'=>by
  have h2:j < (mkW (q:Int) (p:Int) (q:Int) 0 (aW v)[q]).length:=by rw [wl]; exact hj
  have:=oG q p (q:Int) (aW v)[q] 0 j;rw [aq hj,aq h2,eQ] at this;have t:=ao this;simp only [eq_];rw [t];by_cases e:j=p
  ·rw [ai e,ai ⟨rfl,by omega⟩]
  ·rw [ag e,ag (by omega)]
 have hp':p < (mkL (q:Int) (p:Int) 0 (aW v))[q].length:=by rw [eq_,wl]; exact hp
 refine ⟨fun x hx=>?_,hl,hq',?_,hp',by rw [eq_,wl],⟨(aW v)[q][p],by rw [getw hp,ai rfl]⟩,fun j hj=>by rw [getw (by omega),ag (by omega)]⟩
 ·obtain ⟨i,hi,rfl⟩:=List.mem_iff_getElem.1 hx;have hi':i < (aW v).length:=by rw [←hl]; exact hi
  rw [get hi' hi];have hm:=aw hi';have hne:=qw v _ hm;refine sX (fun e=>hne (List.length_eq_zero_iff.1 (by rw [←mi q p (i:Int) _ 0,e]; rfl))) fun w hw b hb=>?_;obtain ⟨j,hj,rfl⟩:=List.mem_iff_getElem.1 hw;have hj':j < (aW v)[i].length:=by rw [mi] at hj; exact hj
  have:=oG q p (i:Int) (aW v)[i] 0 j;rw [aq hj,aq hj',eQ] at this;rw [ao this] at hb;have old:∀b∈(aW v)[i][j],b≠10∧b≠32:=fun b hb=>⟨(kE v _ hm _ (aw hj') b hb).1,(kE v _ hm _ (aw hj') b hb).2.1⟩;split at hb
  ·rcases List.mem_cons.1 hb with rfl | hb
   ·exact ⟨by decide,by decide⟩
   ·exact old b hb
  ·exact old b hb
 ·apply xn
  ·rw [aC,aC,hl]
  ·intro i h1 h2;rw [aC] at h1;rw [io,io,get (by omega) (by omega)];exact ss (.inl (by omega))
def fR:List ah→Nat
 | []=>0
 | l :: r=>l.Cells.length+fR r
theorem oc:∀a b:List ah,fR (a++b)=fR a+fR b
 | [],_=>by rw [cR,fR]; omega
 | l :: r,b=>by rw [dd,fR,fR,oc r b]; omega
theorem qj (l:List ah) {i:Nat} (h:i < l.length):fR (l.take (i+1))=fR (l.take i)+l[i].Cells.length:=by
 rw [ay h,oc,fR,fR];omega
theorem kW (v:af) (hv:VwL v):∃b,cu v=some b∧(VwP v→b=false→fR v.Lines < 3000∧v.Lines.length≤1100):=by
 have hl:=hv.1;unfold cu;refine jR (n:=v.Lines.length) (p:=fun b=>VwP v→b=false→fR v.Lines < 3000∧v.Lines.length≤1100) (fun i (a:Int×Int)=>a.2=(i:Int)∧(VwP v→a.1=((fR (v.Lines.take i):Nat):Int)∧fR (v.Lines.take i)≤5000)) (fun t:Int=>VwP v→t≥3000∨(fR v.Lines < 3000)) (fun i a hi hI=>?_) (fun a hI=>?_) ⟨rfl,fun _=>⟨rfl,by rw [nx,fR]; omega⟩⟩ (by omega) (fun t ht=>?_)
 ·obtain ⟨n,j⟩:=a;obtain ⟨rfl,h⟩:=hI;simp only at h⊢;rw [bF,bsm];by_cases hc:n < 3000
  ·left
   rw [ai (by rw [ax,aa,aa]; omega),dj hi,bsm,jp hi (by omega)];refine ⟨_,rfl,rfl,fun P=>?_⟩;obtain ⟨h1,h2⟩:=h P;have hw:=(P.lines _ (aw hi)).1;have h3:=P.w2;rw [qj _ hi,bi (by omega)];omega
  ·right
   rw [ag (by rw [ax,aa,aa]; omega)];exact ⟨_,rfl,fun _=> .inl (by omega)⟩
 ·obtain ⟨n,j⟩:=a;obtain ⟨rfl,h⟩:=hI;simp only at h⊢;rw [bF,bsm,ag (by rw [ax,aa,aa]; omega)];refine ⟨_,rfl,fun P=>?_⟩;obtain ⟨h1,h2⟩:=h P;rw [cg] at h1;omega
 ·rw [bV,bsm];refine ⟨_,rfl,fun P q=>?_⟩;rw [gf,bQ,bQ] at q;have:=ht P;omega
theorem mJ:∀ls:List ah,(∀l∈ls,∀c∈l.Cells,rgt c=true)→(cD ls).length≤114 * fR ls+115 * ls.length
 | [],_=>by rw [cD]; exact dw _
 | l :: r,h=>by
  have h1:=mJ r (fun x hx=>h x (aI _ hx));have h2:(bR 32 (eD l)).length≤(113+1) * (eD l).length:=kT 32 113 (eD l) fun w hw=>by
   unfold eD at hw;rcases List.mem_cons.1 hw with rfl | hw
   ·simp
   ·obtain ⟨c,hc,rfl⟩:=List.mem_map.1 hw;exact jU (h l aP c hc)
  rw [ov] at h2;rw [cD,ac,et,fR,aj];omega
theorem oX {v:af} (P:VwP v) (h:fR v.Lines < 3000):(fa v).length≤470000:=by
 have h1:=mJ v.Lines fun l hl=>iO (P.lines l hl).2;obtain ⟨a,b,c⟩:=na P;have h2:=P.high; have h3:=P.h2;unfold fa;rw [ac,ac,ac,et,et,et];omega
theorem qc {a:List ah} (ha:a.length≤1000000) (hs:∀x∈a,x.Cells.length≤1000000∧Sht x.Cells):dp a a=some true:=by
 unfold dp;rw [ag (by simp)];refine gt (n:=a.length) (fun i (q:Int)=>q=(i:Int)) (fun t=>t= .inr ()) (fun i q hi e=>?_) (fun q e=>?_) rfl (by omega) (fun t ht=>by rw [ht])
 ·subst e
  left
  have hm:=hs _ (aw hi);refine ⟨_,?_,rfl⟩;simp only [dlt hi,gi,dj hi,bsm,jp hi (by omega),rk (show a[i].Cells.length≤9223372036854775807 by omega) hm.2,lj,ci,dF,bC,fY]
 ·subst e;exact ⟨_,by rw [ag (by simp)],rfl⟩
theorem pd {v:af} (P:VwP v):dm v v=some true:=by
 have h2:=P.high; have h3:=P.h2; have h4:=P.w2;unfold dm;rw [qc (by omega) (fun x hx=>⟨by have:=(P.lines x hx).1; omega,(P.lines x hx).2.sht⟩)];simp only [lj,fT,bF,bsm,Bool.and_self]
theorem mv (v:af) (hv:VwL v):∃st,ck ⟨[],[]⟩ v=some (st,true):=by
 obtain ⟨g,g1,g2⟩:=kW v hv;unfold ck;rw [oo,bsm,ci,dF,g1,bsm,bsm]
 cases g with
 | true=>
  rw [ai rfl,bsm];exact ⟨_,rfl⟩
 | false=>
  rw [ag (by simp)];obtain ⟨b,b1,b2⟩:=jq v hv;obtain ⟨c,c1,c2⟩:=iP v hv;by_cases P:VwP v
  ·obtain ⟨h1,h2⟩:=g2 P rfl;have hlen:=oX P h1;obtain ⟨st,w,e,r1,r2⟩:=lx (fa v) (by omega);have key:e=Er.nil∧w=v:=by
    rcases r2 with ⟨rfl,Q,he⟩ | ⟨_,ht⟩
    ·exact ⟨rfl,(rb P Q he).symm⟩
    ·exact (tD P ht).elim
   obtain ⟨rfl,rfl⟩:=key;rw [tG P hv,bsm,b1,bsm,b2.2 P,ag (by simp),r1,bsm,c1,bsm,c2.2 P,fT,kp P,bsm,bsm,ej,fT,bsm];simp only [Er.isNil];rw [fT,pd P,bsm,bsm];exact ⟨st,rfl⟩
  ·have hb:b=false:=by
    cases b with
    | false=>rfl
    | true=>exact absurd (b2.1 rfl) P
   have hc:c=false:=by
    cases c with
    | false=>rfl
    | true=>exact absurd (c2.1 rfl) P
   rw [tF P hv,bsm,b1,bsm,hb,ai (by simp),ej,fT,c1,bsm,bsm,hc];exact ⟨_,rfl⟩
def pv (T:List UInt8) (i:Nat):Bool:=match i with
 | 0=>true
 | j+1=>T[j]? ==some 10 || T[j]? ==some 32
theorem mg {T:List UInt8} {i:Nat} (h:i < T.length):pv T (i+1)=(T[i]==10 || T[i]==32):=by
 show (T[i]? ==some 10 || T[i]? ==some 32)=_;rw [aq h];rfl
theorem qz (b c:UInt8):(((b.toNat:Nat):Int)==((c.toNat:Nat):Int))=(b==c):=by
 by_cases e:b=c
 ·rw [e]; simp
 ·rw [show (b==c)=false by simpa using e,bc];intro q;exact e (UInt8.toNat_inj.1 (by omega))
theorem vL {T:List UInt8} {i:Nat} (h:i < T.length) (hl:T.length≤1000000000):(orE ((i:Int)==0) ((gg (mkS T) (w64 ((i:Int) - 1))).bind fun t=>some (t==10))).bind (fun p=>(orE p ((gg (mkS T) (w64 ((i:Int) - 1))).bind fun u=>some (u==32))).bind fun q=>some q)=some (pv T i):=by
 match i,h with
 | 0,h=>rfl
 | j+1,h=>
  have hj:j < T.length:=by omega
  rw [show (((j+1:Nat):Int)==0)=false by rw [bc]; omega,dF,show w64 (((j+1:Nat):Int) - 1)=(j:Int) by rw [bi (by omega)]; omega,kH hj,bsm,bsm,bsm,bV,bsm,mg hj,show (10:Int)=(((10:UInt8).toNat:Nat):Int) from rfl,show (32:Int)=(((32:UInt8).toNat:Nat):Int) from rfl,qz,qz]
theorem lU (v:af) (hv:VwL v) (line word:Int):∃st,cf ⟨[],[]⟩ v line word=some (st,true):=by
 obtain ⟨g,g1,g2⟩:=kW v hv;obtain ⟨b,b1,b2⟩:=jq v hv;unfold cf;rw [oo,bsm,ci,dF,g1,bsm,bsm,b1,bsm];by_cases hgo:g=true∨b=false
 ·rw [show orE g (some (!b))=some true by rcases hgo with rfl | rfl <;> simp [bV,gS],bsm,ai rfl,bsm];exact ⟨_,rfl⟩
 ·have hg:g=false:=by
   cases g with
   | false=>rfl
   | true=>exact absurd (.inl rfl) hgo
  have hb:b=true:=by
   cases b with
   | true=>rfl
   | false=>exact absurd (.inr rfl) hgo
  subst hg hb;have P:=b2.1 rfl;obtain ⟨h1,h2⟩:=g2 P rfl;have hlen:=oX P h1;have hH:=P.high; have hH2:=P.h2; have hH1:=P.h1;rw [dF,bsm,ag (by simp),kp P,bsm,iz];have e3:w64 (3+(v.Lines.length:Int))=3+(v.Lines.length:Int):=bi (by omega);have e4:IntKind.u64.wrap (3+(v.Lines.length:Int))=3+(v.Lines.length:Int):=by
   show (3+(v.Lines.length:Int)) % 18446744073709551616=_;omega
  rw [e3,e4];have hq0:0≤IntKind.u64.wrap line:=by
   show 0≤line % 18446744073709551616;omega
  obtain ⟨q,hq,hqlt⟩:∃q:Nat,(IntKind.u64.wrap line).tmod (3+(v.Lines.length:Int))=(q:Int)∧q < (aW v).length:=by
   rw [fM];have a1:0≤(IntKind.u64.wrap line).tmod (3+(v.Lines.length:Int)):=Int.tmod_nonneg _ hq0;have a2:(IntKind.u64.wrap line).tmod (3+(v.Lines.length:Int)) < 3+(v.Lines.length:Int):=Int.tmod_lt_of_pos _ (by omega);exact ⟨((IntKind.u64.wrap line).tmod (3+(v.Lines.length:Int))).toNat,by omega,by omega⟩
  rw [hq];have hqw:w64 (q:Int)=(q:Int):=bi (by rw [fM] at hqlt; omega);rw [hqw,show dvg (3+(v.Lines.length:Int))=some () by unfold dvg; rw [ag (by omega)],bsm];generalize hT:fa v=T;rw [hT] at hlen;refine nT (n:=T.length) (fun i (a:ByteArray×Int×Int×Int)=>∃(out:List UInt8) (n w:Int),a=(mkS out,n,w,(i:Int))∧out.length≤2 * i∧(0≤n∧n≤(i:Int))∧(0≤w∧w≤(i:Int))∧ins (q:Int) word 0 0 true T=out++ins (q:Int) word n w (pv T i) (T.drop i)) (fun t=>t=mkS (ins (q:Int) word 0 0 true T)) (fun i a hi hI=>?_) (fun a hI=>?_) ⟨[],0,0,rfl,dw _,⟨by omega,by omega⟩,⟨by omega,by omega⟩,rfl⟩ (by omega) (fun t ht=>?_)
  ·obtain ⟨out,n,w,rfl,ho,hn,hw,he⟩:=hI
   left
   simp only;rw [ai (by rw [aa]; omega),vL hi (by omega)];simp only [bF,bsm];rw [jp hi (by omega),show dY (mkS T) (i:Int) ((i+1:Nat):Int)=some (mkS [T[i]]) by
    rw [jO (by omega) (by omega),dx hi,show i+1 - i=1 by omega,jb,nx]]
   rw [dx hi,ins] at he;obtain ⟨o2,hy,ho2,he2⟩:∃o2:List UInt8,(if (n==(q:Int) && w==word && pv T i)=true then (ek (mkS out) (⟨#[63]⟩:ByteArray)).bind fun v=>some v else some (mkS out))=some (mkS o2)∧o2.length≤2 * i+1∧out++(if n=(q:Int)∧w=word∧pv T i=true then [63] else [])=o2:=by
    by_cases hc:n=(q:Int)∧w=word∧pv T i=true
    ·rw [ai (by rw [ax,ax,bd,bd]; exact ⟨⟨hc.1,hc.2.1⟩,hc.2.2⟩),ai hc,show (⟨#[63]⟩:ByteArray)=mkS [63] from rfl,cM (by simp only [ae]; omega),bsm];exact ⟨_,rfl,by simp only [ac,ae]; omega,rfl⟩
    ·rw [ag (by rw [ax,ax,bd,bd]; exact fun g=>hc ⟨g.1.1,g.1.2,g.2⟩),ag hc];exact ⟨_,rfl,by omega,by simp⟩
   rw [hy,bsm,bsm,cM (by simp only [ae]; omega),bsm,kH hi,bsm];rw [←aA,he2] at he;have he3:ins (q:Int) word 0 0 true T=(o2++ [T[i]])++(if T[i]=10 then ins (q:Int) word (n+1) 0 true (T.drop (i+1)) else if T[i]=32 then ins (q:Int) word n (w+1) true (T.drop (i+1)) else ins (q:Int) word n w false (T.drop (i+1))):=by
    rw [he]; simp
   have e10:(((T[i].toNat:Nat):Int)==10)=(T[i]==10):=qz T[i] 10;have e32:(((T[i].toNat:Nat):Int)==32)=(T[i]==32):=qz T[i] 32;have hol:(o2++ [T[i]]).length≤2 * (i+1):=by simp only [ac,ae]; omega
   rw [bsm,e10,e32];by_cases c1:T[i]=10
   ·rw [ai (by rw [bd]; exact c1),bsm];refine ⟨_,rfl,o2++ [T[i]],n+1,0,?_,hol,⟨by omega,by omega⟩,⟨by omega,by omega⟩,?_⟩
    ·rw [bi (by omega)]
    ·rw [he3,ai c1,mg hi,show (T[i]==10 || T[i]==32)=true by rw [c1]; rfl]
   ·by_cases c2:T[i]=32
    ·rw [ag (by rw [bd]; exact c1),ai (by rw [bd]; exact c2),bsm];refine ⟨_,rfl,o2++ [T[i]],n,w+1,?_,hol,⟨by omega,by omega⟩,⟨by omega,by omega⟩,?_⟩
     ·rw [bi (by omega)]
     ·rw [he3,ag c1,ai c2,mg hi,show (T[i]==10 || T[i]==32)=true by rw [c2]; rfl]
    ·rw [ag (by rw [bd]; exact c1),ag (by rw [bd]; exact c2),bsm];refine ⟨_,rfl,o2++ [T[i]],n,w,rfl,hol,⟨by omega,by omega⟩,⟨by omega,by omega⟩,?_⟩;rw [he3,ag c1,ag c2,mg hi,show (T[i]==10 || T[i]==32)=false by rw [gf,bc,bc]; exact ⟨c1,c2⟩]
  ·obtain ⟨out,n,w,rfl,ho,hn,hw,he⟩:=hI;refine ⟨_,by simp only; rw [ag (by simp)],?_⟩;rw [he,List.drop_length,ins,cS]
  ·subst ht;have hin:ins (q:Int) word 0 0 true T=cC (mkL (q:Int) word 0 (aW v)):=by
    rw [←hT,iN,nV _ _ _ _ (iJ v)]
   by_cases hp:0≤word∧word < ((aW v)[q].length:Int)
   ·obtain ⟨p,rfl⟩:∃p:Nat,word=(p:Int):=⟨word.toNat,by omega⟩;have S:=ud hqlt (p:=p) (by omega);have hne:ins (q:Int) (p:Int) 0 0 true T≠T:=fun e=>by
     rw [hin,←hT] at e;exact S.no e
    have hl2:(ins (q:Int) (p:Int) 0 0 true T).length≤1048576:=by
     have:=mp (q:Int) (p:Int) T 0 0 true;omega
    rw [js hne,ag (by simp)];obtain ⟨st,w,e,r1,r2⟩:=lx _ hl2;rw [r1,bsm];rcases r2 with ⟨_,_,he⟩ | ⟨_,ht⟩
    ·rw [hin] at he;exact (S.no he).elim
    ·rw [hin] at ht;have he:=S.told P ht;subst he;have c6:gv (Er.fault (q:Int) (Er.fault (p:Int) (Er.sent 5)))=some 6:=rfl;have cA:iK (Er.fault (q:Int) (Er.fault (p:Int) (Er.sent 5)))=some (q:Int):=rfl;have cW:fB (Er.fault (q:Int) (Er.fault (p:Int) (Er.sent 5)))=some (p:Int):=rfl;refine ⟨st,?_⟩;rw [c6,cA,cW];simp [bF]
   ·have hid:mkL (q:Int) word 0 (aW v)=aW v:=uR fun i hi e=>by
     have:i=q:=by omega
     subst this;omega
    rw [hin,hid,←iN,hT,ej,ai rfl];exact ⟨_,rfl⟩
end Go.Proofs.YtmncdniojmigeaaGreatDoor
