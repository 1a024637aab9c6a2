/- Parts of the proofs of UcdBook: the walk through the code, and plain Lean. No condition. -/
import Derived.Test.YtjghgpnafaoojaaUxA
import Derived.Test.YtjghgpnafaoojaaProg
import Derived.Maps.Own
import Derived.Maps.OwnSet
import Derived.WideKeyArr
import Derived.Great.BuildSlice
import Derived.Great.FillDense
import Derived.OpenShut
import Derived.LaidLaws
import Derived.Handed
import Derived.Lay
import Derived.JoinedOf
import Derived.KernelRfl
set_option linter.unusedVariables false
set_option linter.unusedSimpArgs false
namespace Go.Proofs.Ytjghgpnafaoojaa
open Go Go.Lt
set_option maxRecDepth 10000
set_option linter.unusedVariables false
attribute [local irreducible] W WL AC
open Try
variable {c0:Cx} {G:Gm} {F:List En} {sg:Sto} {v1 v2 v3 v4 v5 v6 v7 v8 v9 v10 v11 v12 v13 v14 v15 v16 v17 v18 v19 v20 v21 v22 v23 v24 v25 v26 v27 v28 v29 v30 v31 v32 v33 v34 v35 v36 v37 v38 v39 v40 v41 v42 v43 v44 v45 v46 v47 v48 v49 v50 v51 v52 v53 v54 v55 v56 v57 v58 v59 v60:Value}
def cb (p0:Int):Option (av):=
 (orE (decide (p0 < 0)) (some (decide (p0≥512)))).bind fun a=>
 (orE a (some (decide ((p0.tmod 16) > 13)))).bind fun b=>
 if b=true then
 some (⟨0,false,0,0⟩:av)
 else
 some (⟨(p0.tmod 16),((w64 (p0.tdiv 16)).tmod 2)==1,((w64 (p0.tdiv 32)).tmod 4),(w64 (p0.tdiv 128))⟩:av)
theorem gK (z:Own c0 G F) (a:Int) {r:av} (H:cb a=some r): Calls prog 11 #[I a] c0.w (ay c0 fun c v=>Own c G (F)∧v= .agg #[I r.Break,B r.Pict,I r.Conj,I r.East]):=by
 unfold cb at H;refine en func11 rfl rfl (sr (me (al 28 [I 0,B false,I 0,I 0] z) ?_));rintro v4 e S ⟨q,rfl,k⟩;refine wln (W.seq (W.seq (bn H fun D u H=>bn H fun s m H=>W.join (Jn e fun c l=>Own c G ((Eb q 28 [I 0,B false,I 0,I 0]) :: F)∧l= [(0,I a),(2,Q q),(13,B s)]) ?_ ?_)))
 ·clear H;refine W.region (va (I a) (va (B (decide (a < 0))) ?_));rcases bo (decide (a < 0)) with d | d
  ·obtain rfl:=orT d u;refine vb d (pz (va (B true) ?_));have x:true=true:=rfl;obtain rfl:=orT x m;exact vb x (pz (ps (va (B true) (wln (jn e ⟨k,rfl⟩)))))
  have y:=orF d u;refine vb d (wa (I a) (wa (B (decide (a≥512))) ?_));obtain rfl:=si y;refine va (B (decide (a≥512))) ?_;rcases bo (decide (a≥512)) with b | b
  ·obtain rfl:=orT b m;exact vb b (pz (ps (va (B true) (wln (jn e ⟨k,rfl⟩)))))
  have n:=orF b m;refine vb b (wa (I a) (wa (I (a.tmod 16)) (wa (B (decide ((a.tmod 16) > 13))) ?_)));obtain rfl:=si n;exact va (B (decide ((a.tmod 16) > 13))) (wln (jn e ⟨k,rfl⟩))
 rintro R T ⟨A,E,_,rfl,M,rfl,f,rfl⟩;refine nrm (cn H (fun t H=>?_) (fun t H=>?_))
 ·refine sr (va (.agg #[I 0,B false,I 0,I 0]) (md (sA 28 [I 0,B false,I 0,I 0] 0 f ⟨rfl,rfl,rfl,rfl,trivial⟩) ?_));rintro i N g;refine wln (W.ret (thr ?_));obtain rfl:=si H;have o:=g.sD 1 [];exact kp (c:=i) (vs:=[I 0,B false,I 0,I 0]) rfl (by kernel_rfl) (by kernel_rfl) (by kernel_rfl) (g.on 0 rfl _ rfl).1 ⟨_,i,rfl,rfl,pt,o,rfl⟩
 refine W.skip (nrm (sr (va (I a) (va (I (a.tmod 16)) (va (I a) (va (I (w64 (a.tdiv 16))) (va (I ((w64 (a.tdiv 16)).tmod 2)) (va (B (((w64 (a.tdiv 16)).tmod 2)==1)) (va (I a) (va (I (w64 (a.tdiv 32))) (va (I ((w64 (a.tdiv 32)).tmod 4)) (va (I a) (va (I (w64 (a.tdiv 128))) (va (.agg #[I (a.tmod 16),B (((w64 (a.tdiv 16)).tmod 2)==1),I ((w64 (a.tdiv 32)).tmod 4),I (w64 (a.tdiv 128))]) (md (sA 28 [I (a.tmod 16),B (((w64 (a.tdiv 16)).tmod 2)==1),I ((w64 (a.tdiv 32)).tmod 4),I (w64 (a.tdiv 128))] 0 f ⟨rfl,rfl,rfl,rfl,trivial⟩) ?_)))))))))))))));rintro j P h;refine wln (W.ret ?_);obtain rfl:=si H;have p:=h.sD 1 [];exact kp (c:=j) (vs:=[I (a.tmod 16),B (((w64 (a.tdiv 16)).tmod 2)==1),I ((w64 (a.tdiv 32)).tmod 4),I (w64 (a.tdiv 128))]) rfl (by kernel_rfl) (by kernel_rfl) (by kernel_rfl) (h.on 0 rfl _ rfl).1 ⟨_,j,rfl,rfl,pt,p,rfl⟩
def dT (p0:av):Option (Int):=
 (orE (decide (p0.Break < 0)) (some (decide (p0.Break > 13)))).bind fun f=>
 (orE f (some (decide (p0.Conj < 0)))).bind fun a=>
 (orE a (some (decide (p0.Conj > 3)))).bind fun b=>
 (orE b (some (decide (p0.East < 0)))).bind fun c=>
 (orE c (some (decide (p0.East > 3)))).bind fun d=>
 if d=true then
 some (-1)
 else
 (if p0.Pict=true then
 some ((w64 ((w64 ((w64 (p0.Break+(w64 (32 * p0.Conj))))+(w64 (128 * p0.East))))+16)))
 else
 some ((w64 ((w64 (p0.Break+(w64 (32 * p0.Conj))))+(w64 (128 * p0.East)))))).bind fun e=>
 some e
theorem gL (O0:Own c0 G F) (a:av) {r:Int} (H:dT a=some r): Calls prog 9 #[.agg #[I a.Break,B a.Pict,I a.Conj,I a.East]] c0.w (ay c0 fun c v=>Own c G (F)∧v=I r):=by
 unfold dT at H;refine en func9 rfl rfl (sr (me (bx 28 [I a.Break,B a.Pict,I a.Conj,I a.East] O0) ?_));rintro v5 m l4 ⟨b,rfl,p,d⟩;refine va (I 0) (wln (W.seq (W.seq (bn H fun q0 h6 H=>bn H fun j0 S H=>bn H fun k0 t H=>bn H fun l0 s H=>bn H fun R e H=>W.join (Jn m fun c l=>Own c G (F)∧l= [(1,Q b),(31,B R)]) ?_ ?_))))
 ·clear H;refine W.region (va (Q b) (vx (l1 u_3 (d 0 _ rfl)) (va (B (decide (a.Break < 0))) ?_)));rcases bo (decide (a.Break < 0)) with g | g
  ·obtain rfl:=orT g h6;refine vb g (pz (ps (va (B true) ?_)));have u:true=true:=rfl;obtain rfl:=orT u S;refine vb u (pz (ps (va (B true) ?_)));have x:true=true:=rfl;obtain rfl:=orT x t;refine vb x (pz (ps (va (B true) ?_)));have y:true=true:=rfl;obtain rfl:=orT y s;refine vb y (pz (ps (va (B true) ?_)));have z:true=true:=rfl;obtain rfl:=orT z e;exact vb z (pz (ps (va (B true) (wln (jn m ⟨p,rfl⟩)))))
  have T:=orF g h6;refine vb g (wa (Q b) (wn (vx (l1 u_3 (d 0 _ rfl)) (wa (B (decide (a.Break > 13))) ?_))));obtain rfl:=si T;refine va (B (decide (a.Break > 13))) ?_;rcases bo (decide (a.Break > 13)) with h | h
  ·obtain rfl:=orT h S;refine vb h (pz (ps (va (B true) ?_)));have A:true=true:=rfl;obtain rfl:=orT A t;refine vb A (pz (ps (va (B true) ?_)));have D:true=true:=rfl;obtain rfl:=orT D s;refine vb D (pz (ps (va (B true) ?_)));have E:true=true:=rfl;obtain rfl:=orT E e;exact vb E (pz (ps (va (B true) (wln (jn m ⟨p,rfl⟩)))))
  have U:=orF h S;refine vb h (wa (Qo b (0+2)) (wn (vx (l1 u_3 (d 2 _ rfl)) (wa (B (decide (a.Conj < 0))) ?_))));obtain rfl:=si U;refine va (B (decide (a.Conj < 0))) ?_;rcases bo (decide (a.Conj < 0)) with i | i
  ·obtain rfl:=orT i t;refine vb i (pz (ps (va (B true) ?_)));have M:true=true:=rfl;obtain rfl:=orT M s;refine vb M (pz (ps (va (B true) ?_)));have N:true=true:=rfl;obtain rfl:=orT N e;exact vb N (pz (ps (va (B true) (wln (jn m ⟨p,rfl⟩)))))
  have X:=orF i t;refine vb i (wa (Qo b (0+2)) (wn (vx (l1 u_3 (d 2 _ rfl)) (wa (B (decide (a.Conj > 3))) ?_))));obtain rfl:=si X;refine va (B (decide (a.Conj > 3))) ?_;rcases bo (decide (a.Conj > 3)) with j | j
  ·obtain rfl:=orT j s;refine vb j (pz (ps (va (B true) ?_)));have P:true=true:=rfl;obtain rfl:=orT P e;exact vb P (pz (ps (va (B true) (wln (jn m ⟨p,rfl⟩)))))
  have Z:=orF j s;refine vb j (wa (Qo b (0+3)) (wn (vx (l1 u_3 (d 3 _ rfl)) (wa (B (decide (a.East < 0))) ?_))));obtain rfl:=si Z;refine va (B (decide (a.East < 0))) ?_;rcases bo (decide (a.East < 0)) with k | k
  ·obtain rfl:=orT k e;exact vb k (pz (ps (va (B true) (wln (jn m ⟨p,rfl⟩)))))
  have a0:=orF k e;refine vb k (wa (Qo b (0+3)) (wn (vx (l1 u_3 (d 3 _ rfl)) (wa (B (decide (a.East > 3))) ?_))));obtain rfl:=si a0;exact va (B (decide (a.East > 3))) (wln (jn m ⟨p,rfl⟩))
 rintro e_ w_ ⟨o,s0,_,rfl,u0,rfl,q,rfl⟩;refine nrm (cn H (fun f0 H=>?_) (fun f0 H=>?_))
 ·refine sr (va (I (-1)) (wln (W.ret (thr ?_))));obtain rfl:=si H;exact r1 (qq o ⟨q,rfl⟩)
 refine W.skip (nrm (sr (va (Q b) (vx (l1 u_3 ((mm d) 0 _ rfl)) (va (Qo b (0+2)) (vx (l1 u_3 ((mm d) 2 _ rfl)) (va (I (w64 (32 * a.Conj))) (va (I (w64 (a.Break+(w64 (32 * a.Conj))))) (va (Qo b (0+3)) (vx (l1 u_3 ((mm d) 3 _ rfl)) (va (I (w64 (128 * a.East))) (vv (I (w64 ((w64 (a.Break+(w64 (32 * a.Conj))))+(w64 (128 * a.East))))) (wln (bn H fun n f b0=>W.seqJ (Jn o fun c l=>Own c G (F)∧l= [(3,I n)]) ?_ ?_))))))))))))))
 ·refine sr (va (Qo b (0+1)) (vx (l1 underlying4 ((mm d) 1 _ rfl)) (wln (cn f (fun g0 f=>?_) (fun g0 f=>?_)))))
  ·refine W.region (va (I (w64 ((w64 (a.Break+(w64 (32 * a.Conj))))+(w64 (128 * a.East))))) (vv (I (w64 ((w64 ((w64 (a.Break+(w64 (32 * a.Conj))))+(w64 (128 * a.East))))+16))) (wln ?_)));obtain rfl:=si f;exact jn o ⟨q,rfl⟩
  refine W.skip (nrm ?_);obtain rfl:=si f;exact jn o ⟨q,rfl⟩
 rintro e_ w_ ⟨e0,t0,_,rfl,v0,rfl,d0,rfl⟩;refine sr (vv (I n) (wln (W.ret ?_)));obtain rfl:=si b0;exact r1 (qq e0 ⟨d0,rfl⟩)
def aY:Option (Bool):=
 (fH 128512).bind fun d=>
 (dT d).bind fun e=>
 (cW (e==144) ((fH 2381).bind fun f=>
 (dT f).bind fun g=>
 some (g==68))).bind fun c=>
 (cW c ((cb 68).bind fun a=>
 some (a.Break==4 && (a.Pict==false && (a.Conj==2 && (a.East==0 && true)))))).bind fun b=>
 some b
theorem cX (N:Own c0 G F) {r:Bool} (H:aY=some r): Calls prog 4 #[] c0.w (ay c0 fun c v=>Own c G (F)∧v=B r):=by
 unfold aY at H;refine en func4 rfl rfl (sr (va (B false) (wln (W.seq (bn H fun E R H=>bn H fun k S H=>bn H fun X A H=>bn H fun m n H=>W.join (Jn c0 fun c l=>Own c G (F)∧l= [(0,B m)]) ?_ ?_)))))
 ·clear H;refine W.region (cl (jg N 128512 R) ?_);rintro v10 c9 l9 ⟨P,rfl⟩;refine cl (gL P E S) ?_;rintro v16 s a0 ⟨h,rfl⟩;refine va (B (k==144)) ?_;rcases bo (k==144) with d | d
  ·have b:=anT d A;refine vb d (wn (bn b fun M y b=>cl (jg h 2381 y) ?_));rintro v25 U b0 ⟨o,rfl⟩;refine wn (bn b fun g z b=>cl (gL o M z) ?_);rintro v32 t d0 ⟨i,rfl⟩;refine wa (B (g==68)) ?_;obtain rfl:=si b;refine va (B (g==68)) ?_;rcases bo (g==68) with e | e
   ·have f:=anT e n;refine vb e (wn (bn f fun a D f=>cl (gK i 68 D) ?_));rintro v41 u e0 ⟨p,rfl⟩;refine wa (.agg #[I 4,B false,I 2,I 0]) (wn (vr (B (a.Break==4 && (a.Pict==false && (a.Conj==2 && (a.East==0 && true))))) (kZ (T:=28) (xs:= #[I a.Break,B a.Pict,I a.Conj,I a.East]) (ys:= #[I 4,B false,I 2,I 0]) (r:=(a.Break==4 && (a.Pict==false && (a.Conj==2 && (a.East==0 && true))))) underlying28 (by kernel_rfl) (by kernel_rfl) (EqP.int (by kernel_rfl) u_3 rfl rfl (EqP.bool (by kernel_rfl) underlying4 rfl rfl (EqP.int (by kernel_rfl) u_3 rfl rfl (EqP.int (by kernel_rfl) u_3 rfl rfl EqP.nil)))) (by kernel_rfl) _) ?_));obtain rfl:=si f;exact vv (B (a.Break==4 && (a.Pict==false && (a.Conj==2 && (a.East==0 && true))))) (wln (jn u ⟨p,rfl⟩))
   obtain rfl:=anF e n;exact vb e (pz (ps (vv (B false) (wln (jn t ⟨i,rfl⟩)))))
  obtain rfl:=anF d A;refine vb d (pz (ps (va (B false) ?_)));have j:false=false:=rfl;obtain rfl:=anF j n;exact vb j (pz (ps (vv (B false) (wln (jn s ⟨h,rfl⟩)))))
 rintro e_ w_ ⟨x,Z,_,rfl,f0,rfl,q,rfl⟩;refine nrm (W.ret ?_);obtain rfl:=si H;exact r1 (qq x ⟨q,rfl⟩)
def dA:Option (List aa):=
 (dh).bind fun c=>
 (aU (σ:=(List aa)×Int) (τ:=(List aa)) (((c.length:Int) - 0).toNat+1) (fun a=>
 if (decide (a.2 < (c.length:Int)))=true then
 (idx c a.2).bind fun b=>
 (app a.1 ([(⟨b.1,b.2.1,b.2.2⟩:aa)]:List aa)).bind fun d=>
 some (.inl (d,(w64 (a.2+1))))
 else
 some (.inr (a.1))) (([]:List aa),0)).bind fun f=>
 (aT f).bind fun e=>
 some e
theorem jj (O0:Own c0 G F) {r:List aa} (H:dA=some r): Calls prog 13 #[] c0.w (ay c0 fun c v=>∃y y2,Own c G (es true ab y 52 y2 r :: F)∧v=y∧OA ab c y y2 r):=by
 unfold dA at H;refine en func13 rfl rfl (sr (va (Y) (wln (sr (va (Y) (wln (W.seq (sr (bn H fun h h1 H=>cl (gi O0 h1) ?_)))))))));rintro v2 q l9 ⟨_,u3,O6,rfl,s⟩;refine vx (lnO 3 cp s) (va (I 0) (wln (W.block (bn H fun u0 t d=>lp t (fun b=>Jn q fun c l=>∃v13 g,Own c G (es true ab v13 52 g b.1 :: es true aQ v2 55 u3 h :: F)∧l= [(1,v13),(4,v2),(5,I (h.length:Int)),(6,I b.2)]∧OA ab c v13 g b.1) (fun o ex e w=>ex= .exit 0∧(Jn q fun c l=>∃v15 p,Own c G (es true ab v15 52 p o :: es true aQ v2 55 u3 h :: F)∧l= [(1,v15)]∧OA ab c v15 p o) e w) ?_ ?_ ?_))))
 ·clear d t;intro b f2 b0 y0 H;revert b0 y0;rintro e_ w_ ⟨X,s1,_,rfl,s0,rfl,v13,g,i,rfl,u⟩;refine sr (va (B (decide (b.2 < (h.length:Int)))) (wln (W.seq (cn H (fun d0 H=>?_) (fun d0 H=>?_)))))
  ·refine W.skip (nrm (W.seq (W.block (sr (bn H fun a n H=>vx (ixO cp s.m n) ?_)))));obtain ⟨e1,e0,t0⟩:=OA.at (s.mono s0) n;obtain rfl:=e0;refine vr (.agg #[I a.1,I a.2.1,I a.2.2]) (rx (by kernel_rfl) (iV (T:=55) (l:=[I a.1,I a.2.1,I a.2.2]) (by kernel_rfl) (by kernel_rfl) (i.on 1 rfl) (s.m.blk n) (at2 (j:=0) t0 rfl))) (me (al 55 [I 0,I 0,I 0] i) ?_);rintro v32 j1 u1 ⟨k,rfl,z⟩;refine md (sA 55 [I a.1,I a.2.1,I a.2.2] 0 z ⟨rfl,rfl,rfl,trivial⟩) ?_;rintro k1 v1 f;refine wln (W.region (va (v13) (va (Q k) (vx (le1 0 u_3 (f.on 0 rfl)) (va (Qo k 1) (vx (le1 1 u_3 (f.on 0 rfl)) (va (Qo k 2) (vx (le1 2 u_3 (f.on 0 rfl)) (va (.agg #[I a.1,I a.2.1,I a.2.2]) (me (sl ab 52 [[I a.1,I a.2.1,I a.2.2]] ([(⟨a.1,a.2.1,a.2.2⟩:aa)]:List aa) f ⟨rfl,trivial⟩) ?_))))))))));rintro v39 m1 w1 ⟨e2,A,f0⟩;obtain ⟨n1,h0,x1,D,g0⟩:=A.frz 0 rfl f0;refine WL.gh h0 (bn H fun g1 i0 H=>me (ap ab (ae 0 0 0) 24 33 2 D u.m g0 i0 aL) ?_);rintro v49 Z z1 ⟨w0,E,j0⟩;refine va (v49) (WL.nil (bkn (nrm (W.region (vv (I (w64 (b.2+1))) (WL.nil ?_))))));obtain rfl:=si H;refine ⟨_,rfl,?_⟩;have M:=E.sD 4 [2,3];exact jn Z ⟨v49,w0,M,rfl,j0⟩
  refine W.exit (thx ?_);obtain rfl:=si H;exact ⟨_,rfl,rfl,jn X ⟨v13,g,i,rfl,u⟩⟩
 ·have k0:OA ab q (Y) [] []:=OA.nil (au _);have N:=O6.addHole (e:=es true ab (Y) 52 [] ([]:List aa)) rfl;exact jn q ⟨(Y),[],N,rfl,k0⟩
 rintro _ e_ w_ ⟨rfl,p1,t1,_,rfl,b2,rfl,v15,p,P,rfl,l0⟩;refine bke (nrm (sr (va (v15) ?_)));obtain ⟨q1,o0,c2,R,m0⟩:=P.frz 0 rfl l0;refine WL.gh o0 (bn d fun i1 p0 d=>cl (ct R u0 m0 p0) ?_);rintro x a0 d2 ⟨_,x0,S,rfl,q0⟩;refine va (x) (wln (W.ret ?_));obtain rfl:=si d;have U:=S.sD 3 [0];exact r1 (qq a0 ⟨x,x0,U,rfl,q0⟩)
def dl:Option (List aa):=
 (cP).bind fun c=>
 (aU (σ:=(List aa)×Int) (τ:=(List aa)) (((c.length:Int) - 0).toNat+1) (fun a=>
 if (decide (a.2 < (c.length:Int)))=true then
 (idx c a.2).bind fun b=>
 (app a.1 ([(⟨(w64 b.1),(w64 b.2),1⟩:aa)]:List aa)).bind fun d=>
 some (.inl (d,(w64 (a.2+1))))
 else
 some (.inr (a.1))) (([]:List aa),0)).bind fun f=>
 (aT f).bind fun e=>
 some e
theorem iJ (O0:Own c0 G F) {r:List aa} (H:dl=some r): Calls prog 15 #[] c0.w (ay c0 fun c v=>∃y y2,Own c G (es true ab y 52 y2 r :: F)∧v=y∧OA ab c y y2 r):=by
 unfold dl at H;refine en func15 rfl rfl (sr (va (Y) (wln (sr (va (Y) (wln (W.seq (sr (bn H fun g h1 H=>cl (fJ O0 h1) ?_)))))))));rintro v2 p l9 ⟨_,u3,O6,rfl,q⟩;refine vx (lnO 3 gU q) (va (I 0) (wln (W.block (bn H fun u0 t d=>lp t (fun b=>Jn p fun c l=>∃v13 f,Own c G (es true ab v13 52 f b.1 :: es true dB v2 59 u3 g :: F)∧l= [(1,v13),(4,v2),(5,I (g.length:Int)),(6,I b.2)]∧OA ab c v13 f b.1) (fun n ex e w=>ex= .exit 0∧(Jn p fun c l=>∃v15 o,Own c G (es true ab v15 52 o n :: es true dB v2 59 u3 g :: F)∧l= [(1,v15)]∧OA ab c v15 o n) e w) ?_ ?_ ?_))))
 ·clear d t;intro b f2 b0 y0 H;revert b0 y0;rintro e_ w_ ⟨X,s1,_,rfl,s0,rfl,v13,f,h,rfl,u⟩;refine sr (va (B (decide (b.2 < (g.length:Int)))) (wln (W.seq (cn H (fun d0 H=>?_) (fun d0 H=>?_)))))
  ·refine W.skip (nrm (W.seq (W.block (sr (bn H fun a k H=>vx (ixO gU q.m k) ?_)))));obtain ⟨e1,e0,t0⟩:=OA.at (q.mono s0) k;obtain rfl:=e0;refine vr (.agg #[J a.1,J a.2]) (rx (by kernel_rfl) (iV (T:=59) (l:=[J a.1,J a.2]) (by kernel_rfl) (by kernel_rfl) (h.on 1 rfl) (q.m.blk k) (at2 (j:=0) t0 rfl))) (me (al 59 [J 0,J 0] h) ?_);rintro v32 j1 u1 ⟨s,rfl,z⟩;refine md (sA 59 [J a.1,J a.2] 0 z ⟨rfl,rfl,trivial⟩) ?_;rintro k1 v1 i;refine wln (W.region (va (v13) (va (Q s) (vx (le1 0 eC (i.on 0 rfl)) (va (I (w64 a.1)) (va (Qo s 1) (vx (le1 1 eC (i.on 0 rfl)) (va (I (w64 a.2)) (va (.agg #[I (w64 a.1),I (w64 a.2),I 1]) (me (sl ab 52 [[I (w64 a.1),I (w64 a.2),I 1]] ([(⟨(w64 a.1),(w64 a.2),1⟩:aa)]:List aa) i ⟨rfl,trivial⟩) ?_))))))))));rintro v39 m1 w1 ⟨e2,A,f0⟩;obtain ⟨n1,h0,x1,D,g0⟩:=A.frz 0 rfl f0;refine WL.gh h0 (bn H fun g1 i0 H=>me (ap ab (ae 0 0 0) 24 33 2 D u.m g0 i0 aL) ?_);rintro v49 Z z1 ⟨w0,E,j0⟩;refine va (v49) (WL.nil (bkn (nrm (W.region (vv (I (w64 (b.2+1))) (WL.nil ?_))))));obtain rfl:=si H;refine ⟨_,rfl,?_⟩;have M:=E.sD 4 [2,3];exact jn Z ⟨v49,w0,M,rfl,j0⟩
  refine W.exit (thx ?_);obtain rfl:=si H;exact ⟨_,rfl,rfl,jn X ⟨v13,f,h,rfl,u⟩⟩
 ·have k0:OA ab p (Y) [] []:=OA.nil (au _);have N:=O6.addHole (e:=es true ab (Y) 52 [] ([]:List aa)) rfl;exact jn p ⟨(Y),[],N,rfl,k0⟩
 rintro _ e_ w_ ⟨rfl,p1,t1,_,rfl,b2,rfl,v15,o,P,rfl,l0⟩;refine bke (nrm (sr (va (v15) ?_)));obtain ⟨q1,o0,c2,R,m0⟩:=P.frz 0 rfl l0;refine WL.gh o0 (bn d fun i1 p0 d=>cl (ct R u0 m0 p0) ?_);rintro x a0 d2 ⟨_,x0,S,rfl,q0⟩;refine va (x) (wln (W.ret ?_));obtain rfl:=si d;have U:=S.sD 3 [0];exact r1 (qq a0 ⟨x,x0,U,rfl,q0⟩)
def dq:Option (List aa):=
 (cR).bind fun c=>
 (aU (σ:=(List aa)×Int) (τ:=(List aa)) (((c.length:Int) - 0).toNat+1) (fun a=>
 if (decide (a.2 < (c.length:Int)))=true then
 (idx c a.2).bind fun b=>
 (app a.1 ([(⟨b.1,b.2.1,b.2.2⟩:aa)]:List aa)).bind fun d=>
 some (.inl (d,(w64 (a.2+1))))
 else
 some (.inr (a.1))) (([]:List aa),0)).bind fun f=>
 (aT f).bind fun e=>
 some e
theorem iL (O0:Own c0 G F) {r:List aa} (H:dq=some r): Calls prog 16 #[] c0.w (ay c0 fun c v=>∃y y2,Own c G (es true ab y 52 y2 r :: F)∧v=y∧OA ab c y y2 r):=by
 unfold dq at H;refine en func16 rfl rfl (sr (va (Y) (wln (sr (va (Y) (wln (W.seq (sr (bn H fun h h1 H=>cl (fM O0 h1) ?_)))))))));rintro v2 q l9 ⟨_,u3,O6,rfl,s⟩;refine vx (lnO 3 cp s) (va (I 0) (wln (W.block (bn H fun u0 t d=>lp t (fun b=>Jn q fun c l=>∃v13 g,Own c G (es true ab v13 52 g b.1 :: es true aQ v2 55 u3 h :: F)∧l= [(1,v13),(4,v2),(5,I (h.length:Int)),(6,I b.2)]∧OA ab c v13 g b.1) (fun o ex e w=>ex= .exit 0∧(Jn q fun c l=>∃v15 p,Own c G (es true ab v15 52 p o :: es true aQ v2 55 u3 h :: F)∧l= [(1,v15)]∧OA ab c v15 p o) e w) ?_ ?_ ?_))))
 ·clear d t;intro b f2 b0 y0 H;revert b0 y0;rintro e_ w_ ⟨X,s1,_,rfl,s0,rfl,v13,g,i,rfl,u⟩;refine sr (va (B (decide (b.2 < (h.length:Int)))) (wln (W.seq (cn H (fun d0 H=>?_) (fun d0 H=>?_)))))
  ·refine W.skip (nrm (W.seq (W.block (sr (bn H fun a n H=>vx (ixO cp s.m n) ?_)))));obtain ⟨e1,e0,t0⟩:=OA.at (s.mono s0) n;obtain rfl:=e0;refine vr (.agg #[I a.1,I a.2.1,I a.2.2]) (rx (by kernel_rfl) (iV (T:=55) (l:=[I a.1,I a.2.1,I a.2.2]) (by kernel_rfl) (by kernel_rfl) (i.on 1 rfl) (s.m.blk n) (at2 (j:=0) t0 rfl))) (me (al 55 [I 0,I 0,I 0] i) ?_);rintro v32 j1 u1 ⟨k,rfl,z⟩;refine md (sA 55 [I a.1,I a.2.1,I a.2.2] 0 z ⟨rfl,rfl,rfl,trivial⟩) ?_;rintro k1 v1 f;refine wln (W.region (va (v13) (va (Q k) (vx (le1 0 u_3 (f.on 0 rfl)) (va (Qo k 1) (vx (le1 1 u_3 (f.on 0 rfl)) (va (Qo k 2) (vx (le1 2 u_3 (f.on 0 rfl)) (va (.agg #[I a.1,I a.2.1,I a.2.2]) (me (sl ab 52 [[I a.1,I a.2.1,I a.2.2]] ([(⟨a.1,a.2.1,a.2.2⟩:aa)]:List aa) f ⟨rfl,trivial⟩) ?_))))))))));rintro v39 m1 w1 ⟨e2,A,f0⟩;obtain ⟨n1,h0,x1,D,g0⟩:=A.frz 0 rfl f0;refine WL.gh h0 (bn H fun g1 i0 H=>me (ap ab (ae 0 0 0) 24 33 2 D u.m g0 i0 aL) ?_);rintro v49 Z z1 ⟨w0,E,j0⟩;refine va (v49) (WL.nil (bkn (nrm (W.region (vv (I (w64 (b.2+1))) (WL.nil ?_))))));obtain rfl:=si H;refine ⟨_,rfl,?_⟩;have M:=E.sD 4 [2,3];exact jn Z ⟨v49,w0,M,rfl,j0⟩
  refine W.exit (thx ?_);obtain rfl:=si H;exact ⟨_,rfl,rfl,jn X ⟨v13,g,i,rfl,u⟩⟩
 ·have k0:OA ab q (Y) [] []:=OA.nil (au _);have N:=O6.addHole (e:=es true ab (Y) 52 [] ([]:List aa)) rfl;exact jn q ⟨(Y),[],N,rfl,k0⟩
 rintro _ e_ w_ ⟨rfl,p1,t1,_,rfl,b2,rfl,v15,p,P,rfl,l0⟩;refine bke (nrm (sr (va (v15) ?_)));obtain ⟨q1,o0,c2,R,m0⟩:=P.frz 0 rfl l0;refine WL.gh o0 (bn d fun i1 p0 d=>cl (ct R u0 m0 p0) ?_);rintro x a0 d2 ⟨_,x0,S,rfl,q0⟩;refine va (x) (wln (W.ret ?_));obtain rfl:=si d;have U:=S.sD 3 [0];exact r1 (qq a0 ⟨x,x0,U,rfl,q0⟩)
def dp:Option (List aa):=
 (cQ).bind fun c=>
 (aU (σ:=(List aa)×Int) (τ:=(List aa)) (((c.length:Int) - 0).toNat+1) (fun a=>
 if (decide (a.2 < (c.length:Int)))=true then
 (idx c a.2).bind fun b=>
 (app a.1 ([(⟨b.1,b.2.1,b.2.2⟩:aa)]:List aa)).bind fun d=>
 some (.inl (d,(w64 (a.2+1))))
 else
 some (.inr (a.1))) (([]:List aa),0)).bind fun f=>
 (aT f).bind fun e=>
 some e
theorem iK (O0:Own c0 G F) {r:List aa} (H:dp=some r): Calls prog 17 #[] c0.w (ay c0 fun c v=>∃y y2,Own c G (es true ab y 52 y2 r :: F)∧v=y∧OA ab c y y2 r):=by
 unfold dp at H;refine en func17 rfl rfl (sr (va (Y) (wln (sr (va (Y) (wln (W.seq (sr (bn H fun h h1 H=>cl (fL O0 h1) ?_)))))))));rintro v2 q l9 ⟨_,u3,O6,rfl,s⟩;refine vx (lnO 3 cp s) (va (I 0) (wln (W.block (bn H fun u0 t d=>lp t (fun b=>Jn q fun c l=>∃v13 g,Own c G (es true ab v13 52 g b.1 :: es true aQ v2 55 u3 h :: F)∧l= [(1,v13),(4,v2),(5,I (h.length:Int)),(6,I b.2)]∧OA ab c v13 g b.1) (fun o ex e w=>ex= .exit 0∧(Jn q fun c l=>∃v15 p,Own c G (es true ab v15 52 p o :: es true aQ v2 55 u3 h :: F)∧l= [(1,v15)]∧OA ab c v15 p o) e w) ?_ ?_ ?_))))
 ·clear d t;intro b f2 b0 y0 H;revert b0 y0;rintro e_ w_ ⟨X,s1,_,rfl,s0,rfl,v13,g,i,rfl,u⟩;refine sr (va (B (decide (b.2 < (h.length:Int)))) (wln (W.seq (cn H (fun d0 H=>?_) (fun d0 H=>?_)))))
  ·refine W.skip (nrm (W.seq (W.block (sr (bn H fun a n H=>vx (ixO cp s.m n) ?_)))));obtain ⟨e1,e0,t0⟩:=OA.at (s.mono s0) n;obtain rfl:=e0;refine vr (.agg #[I a.1,I a.2.1,I a.2.2]) (rx (by kernel_rfl) (iV (T:=55) (l:=[I a.1,I a.2.1,I a.2.2]) (by kernel_rfl) (by kernel_rfl) (i.on 1 rfl) (s.m.blk n) (at2 (j:=0) t0 rfl))) (me (al 55 [I 0,I 0,I 0] i) ?_);rintro v32 j1 u1 ⟨k,rfl,z⟩;refine md (sA 55 [I a.1,I a.2.1,I a.2.2] 0 z ⟨rfl,rfl,rfl,trivial⟩) ?_;rintro k1 v1 f;refine wln (W.region (va (v13) (va (Q k) (vx (le1 0 u_3 (f.on 0 rfl)) (va (Qo k 1) (vx (le1 1 u_3 (f.on 0 rfl)) (va (Qo k 2) (vx (le1 2 u_3 (f.on 0 rfl)) (va (.agg #[I a.1,I a.2.1,I a.2.2]) (me (sl ab 52 [[I a.1,I a.2.1,I a.2.2]] ([(⟨a.1,a.2.1,a.2.2⟩:aa)]:List aa) f ⟨rfl,trivial⟩) ?_))))))))));rintro v39 m1 w1 ⟨e2,A,f0⟩;obtain ⟨n1,h0,x1,D,g0⟩:=A.frz 0 rfl f0;refine WL.gh h0 (bn H fun g1 i0 H=>me (ap ab (ae 0 0 0) 24 33 2 D u.m g0 i0 aL) ?_);rintro v49 Z z1 ⟨w0,E,j0⟩;refine va (v49) (WL.nil (bkn (nrm (W.region (vv (I (w64 (b.2+1))) (WL.nil ?_))))));obtain rfl:=si H;refine ⟨_,rfl,?_⟩;have M:=E.sD 4 [2,3];exact jn Z ⟨v49,w0,M,rfl,j0⟩
  refine W.exit (thx ?_);obtain rfl:=si H;exact ⟨_,rfl,rfl,jn X ⟨v13,g,i,rfl,u⟩⟩
 ·have k0:OA ab q (Y) [] []:=OA.nil (au _);have N:=O6.addHole (e:=es true ab (Y) 52 [] ([]:List aa)) rfl;exact jn q ⟨(Y),[],N,rfl,k0⟩
 rintro _ e_ w_ ⟨rfl,p1,t1,_,rfl,b2,rfl,v15,p,P,rfl,l0⟩;refine bke (nrm (sr (va (v15) ?_)));obtain ⟨q1,o0,c2,R,m0⟩:=P.frz 0 rfl l0;refine WL.gh o0 (bn d fun i1 p0 d=>cl (ct R u0 m0 p0) ?_);rintro x a0 d2 ⟨_,x0,S,rfl,q0⟩;refine va (x) (wln (W.ret ?_));obtain rfl:=si d;have U:=S.sD 3 [0];exact r1 (qq a0 ⟨x,x0,U,rfl,q0⟩)
def ca (p0:List aa) (p1:Int):Option (List aa):=
 (aU (σ:=(List aa)×Int) (τ:=(List aa)) (((p0.length:Int) - 0).toNat+1) (fun a=>
 if (decide (a.2 < (p0.length:Int)))=true then
 (idx a.1 a.2).bind fun d=>
 (idx a.1 a.2).bind fun b=>
 (gV a.1 a.2 (⟨b.Lo,b.Hi,(w64 (d.Val * p1))⟩:aa)).bind fun c=>
 some (.inl (c,(w64 (a.2+1))))
 else
 some (.inr (a.1))) (p0,0)).bind fun e=>
 some e
theorem eL {h:Value} {o:List Value} (n:List aa) (g:Int) (O0:Own c0 G (es true ab h 52 o n :: F)) {r:List aa} (N:OA ab c0 h o n) (H:ca n g=some r): Calls prog 14 #[h,I g] c0.w (ay c0 fun c v=>∃t y2,Own c G (es true ab t 52 y2 r :: F)∧v=t∧OA ab c t y2 r):=by
 unfold ca at H;refine en func14 rfl rfl (sr (va (Y) (wln (W.seq (sr (va (h) (vx (lnO 3 aL N) (va (I 0) (wln (W.block (bn H fun v0 U y=>lp U (fun a=>Jn c0 fun c l=>∃v4 p,Own c G (es true ab v4 52 p a.1 :: F)∧l= [(0,v4),(1,I g),(7,I (n.length:Int)),(8,I a.2)]∧OA ab c v4 p a.1) (fun m ex e w=>ex= .exit 0∧(Jn c0 fun c l=>∃v6 q,Own c G (es true ab v6 52 q m :: F)∧l= [(0,v6)]∧OA ab c v6 q m) e w) ?_ ?_ ?_)))))))))))
 ·clear y U;intro a w0 M g0 H;revert M g0;rintro e_ w_ ⟨c8,g9,_,rfl,l8,rfl,v4,p,i,rfl,f⟩;refine sr (va (B (decide (a.2 < (n.length:Int)))) (wln (W.seq (cn H (fun P H=>?_) (fun P H=>?_)))))
  ·refine W.skip (nrm (W.seq (W.block (sr (vv (I a.2) (wln (W.region (va (v4) (va (I a.2) (bn H fun b k H=>vx (ixO aL f k) (va (Qo (sb v4) (a.2.toNat * 3+2)) ?_)))))))))));obtain ⟨l0,S,d0⟩:=OA.at f k;obtain rfl:=S;refine vr (I b.Val) (rx (by kernel_rfl) (fF u_3 rfl (i.on 0 rfl) (f.blk k) (at1 (j:=2) d0 rfl))) (va (I g) (va (I (w64 (b.Val * g))) (bn H fun d s H=>vx (ixO aL f s) (va (Qo (sb v4) (a.2.toNat * 3+2)) ?_))));obtain ⟨m0,X,e0⟩:=OA.at f s;obtain rfl:=X;refine bn H fun q0 Z H=>md (Own.stO (R:=ab) (T:=3) (us:=[I (w64 (b.Val * g))]) (x':=(⟨d.Lo,d.Hi,(w64 (b.Val * g))⟩:aa)) (u:=I (w64 (b.Val * g))) (x:=(⟨d.Lo,d.Hi,(w64 (b.Val * g))⟩:aa)) (j:=2) (l':=[I d.Lo,I d.Hi,I (w64 (b.Val * g))]) 0 i (by kernel_rfl) rfl f Z e0 rfl (by kernel_rfl) ⟨rfl,trivial⟩ (by kernel_rfl) rfl rfl) ?_;rintro D t0 ⟨f0,z,a0⟩;refine WL.nil (bkn (nrm (W.region (vv (I (w64 (a.2+1))) (WL.nil ?_)))));obtain rfl:=si H;exact ⟨_,rfl,jn D ⟨v4,f0,z,rfl,a0⟩⟩
  refine W.exit (thx ?_);obtain rfl:=si H;exact ⟨_,rfl,rfl,jn c8 ⟨v4,p,i,rfl,f⟩⟩
 ·exact jn c0 ⟨h,o,O0,rfl,N⟩
 rintro _ e_ w_ ⟨rfl,E,s0,_,rfl,u0,rfl,v6,q,A,rfl,b0⟩;refine bke (nrm (sr (vv (v6) (wln (W.ret ?_)))));obtain rfl:=si y;exact r1 (qq E ⟨v6,q,A,rfl,b0⟩)
def cI (p0:List aa) (p1:Int) (p2:Int) (p3:Int):Option (List aa):=
 if (decide (p1 > p2))=true then
 some p0
 else
 (app p0 ([(⟨p1,p2,p3⟩:aa)]:List aa)).bind fun a=>
 some a
theorem eZ {a:Value} {f:List Value} (g:List aa) (b:Int) (d:Int) (e:Int) (i:Own c0 G (es true ab a 52 f g :: F)) {r:List aa} (n:OA ab c0 a f g) (H:cI g b d e=some r): Calls prog 40 #[a,I b,I d,I e] c0.w (ay c0 fun c v=>∃h t,Own c G (es true ab h 52 t r :: F)∧v=h∧OA ab c h t r):=by
 unfold cI at H;refine en func40 rfl rfl (sr (va (Y) (wln (W.seq (sr (va (I b) (va (I d) (va (B (decide (b > d))) (wln (cn H (fun y H=>?_) (fun y H=>?_)))))))))))
 ·refine sr (vv (a) (wln (W.ret (thr ?_))));obtain rfl:=si H;exact r1 (qq c0 ⟨a,f,i,rfl,n⟩)
 refine W.skip (nrm (sr (va (a) (va (I b) (va (I d) (va (I e) (va (.agg #[I b,I d,I e]) (me (sl ab 52 [[I b,I d,I e]] ([(⟨b,d,e⟩:aa)]:List aa) i ⟨rfl,trivial⟩) ?_))))))));rintro v7 N P ⟨R,u,z⟩;obtain ⟨E,o,M,x,A⟩:=u.frz 0 rfl z;refine WL.gh o (bn H fun D p H=>me (ap ab (ae 0 0 0) 24 33 1 x n.m A p aL) ?_);rintro v17 l l16 ⟨s,j,q⟩;refine va (v17) (wln (W.ret ?_));obtain rfl:=si H;have k:=j.sD 2 [1];exact r1 (qq l ⟨v17,s,k,rfl,q⟩)
def dg (p0:List aa) (p1:List aa):Option (List aa):=
 (aU (σ:=(List aa)×(List aa)×Int×Int) (τ:=((List aa)×(List aa)×Int)) (((p0.length:Int) - 0).toNat+1) (fun a=>
 if (decide (a.2.2.2 < (p0.length:Int)))=true then
 (idx p0 a.2.2.2).bind fun c=>
 (aU (σ:=(List aa)×Int) (τ:=((List aa)×Int)) (((a.1.length:Int) - a.2.2.1).toNat+1) (fun e=>
 (cW (decide (e.2 < (a.1.length:Int))) ((idx a.1 e.2).bind fun q=>
 some (decide (q.Hi < c.Lo)))).bind fun o=>
 if o=true then
 (idx a.1 e.2).bind fun r=>
 (app e.1 ([r]:List aa)).bind fun s=>
 some (.inl (s,(w64 (e.2+1))))
 else
 some (.inr (e.1,e.2))) (a.2.1,a.2.2.1)).bind fun h=>
 (aU (σ:=(List aa)×Int×Int) (τ:=((List aa)×(List aa)×Int×Int)) (((a.1.length:Int) - h.2).toNat+1) (fun b=>
 (cW (decide (b.2.1 < (a.1.length:Int))) ((idx a.1 b.2.1).bind fun t=>
 some (decide (t.Lo≤c.Hi)))).bind fun p=>
 if p=true then
 (idx a.1 b.2.1).bind fun d=>
 (cI b.1 d.Lo (gH d.Hi (w64 (c.Lo - 1))) d.Val).bind fun u=>
 (cI u b.2.2 (w64 (d.Lo - 1)) c.Val).bind fun v=>
 (cI v (iY d.Lo b.2.2) (gH d.Hi c.Hi) (w64 (c.Val+d.Val))).bind fun i=>
 if (decide (d.Hi > c.Hi))=true then
 (idx a.1 b.2.1).bind fun j=>
 (gV a.1 b.2.1 (⟨(w64 (c.Hi+1)),j.Hi,j.Val⟩:aa)).bind fun k=>
 some (.inr (k,i,b.2.1,(w64 (d.Hi+1))))
 else
 some (.inl (i,(w64 (b.2.1+1)),(w64 (d.Hi+1))))
 else
 some (.inr (a.1,b.1,b.2.1,b.2.2))) (h.1,h.2,c.Lo)).bind fun g=>
 (cI g.2.1 g.2.2.2 c.Hi c.Val).bind fun l=>
 some (.inl (g.1,l,g.2.2.1,(w64 (a.2.2.2+1))))
 else
 some (.inr (a.1,a.2.1,a.2.2.1))) (p1,([]:List aa),0,0)).bind fun f=>
 (slc f.1 f.2.2 f.1.length).bind fun m=>
 (app f.2.1 m).bind fun n=>
 some n
theorem jf {e1:Value} {f2:List Value} (S:List aa) (p1:List aa) (O0:Own c0 G (es true ab e1 52 f2 p1 :: F)) {r:List aa} (h2:Sl ab c0 v1 S) (h3:OA ab c0 e1 f2 p1) (H:dg S p1=some r): Calls prog 18 #[v1,e1] c0.w (ay c0 fun c v=>∃y1 y2,Own c G (es true ab y1 52 y2 r :: F)∧v=y1∧OA ab c y1 y2 r):=by
 unfold dg at H;refine en func18 rfl rfl (sr (va (Y) (wln (sr (va (Y) (wln (sr (va (I 0) (wln (W.seq (sr (va (v1) (vx (ln 3 aL h2) (va (I 0) (wln (W.block (bn H fun j5 h4 H5=>lp h4 (fun b=>Jn c0 fun c l=>∃v6 u7 v8 z,Own c G (es true ab v6 52 u7 b.2.1 :: es true ab v8 52 z b.1 :: F)∧l= [(1,v8),(5,v6),(6,I b.2.2.1),(11,v1),(12,I (S.length:Int)),(13,I b.2.2.2)]∧OA ab c v6 u7 b.2.1∧OA ab c v8 z b.1) (fun y ex e w=>ex= .exit 0∧(Jn c0 fun c l=>∃v10 c2 v12 d2,Own c G (es true ab v10 52 c2 y.2.1 :: es true ab v12 52 d2 y.1 :: F)∧l= [(1,v12),(5,v10),(6,I y.2.2)]∧OA ab c v10 c2 y.2.1∧OA ab c v12 d2 y.1) e w) ?_ ?_ ?_)))))))))))))))))
 ·clear H5 h4;intro b a3 Z i0 H;revert Z i0;rintro e_ w_ ⟨a6,n8,_,rfl,r6,rfl,v6,u7,v8,z,n2,rfl,p2,n⟩;refine sr (va (B (decide (b.2.2.2 < (S.length:Int)))) (wln (W.seq (cn H (fun f6 H=>?_) (fun f6 H=>?_)))))
  ·refine W.skip (nrm (W.seq (W.block (sr (bn H fun a q2 H=>?_)))));obtain ⟨c8,g6,u6⟩:=Sl.at (h2.mono r6) (aH q2);obtain rfl:=g6;refine vx (ix aL h2.m q2) (vx (lN 52 u6) (me (al 52 [I 0,I 0,I 0] n2) ?_));rintro v30 k8 b0 ⟨h,rfl,s5⟩;refine md (sA 52 [I a.Lo,I a.Hi,I a.Val] 0 s5 ⟨rfl,rfl,rfl,trivial⟩) ?_;rintro i1 d0 t5;refine wln (W.seq (W.block (bn H fun f8 s2 g=>lp s2 (fun i=>Jn i1 fun c l=>∃v35 e0,Own c G (es true ab v35 52 e0 i.1 :: (Eb h 52 [I a.Lo,I a.Hi,I a.Val]) :: es true ab v8 52 z b.1 :: F)∧l= [(1,v8),(5,v35),(6,I i.2),(8,Q h),(11,v1),(12,I (S.length:Int)),(13,I b.2.2.2)]∧OA ab c v35 e0 i.1) (fun X ex e w=>ex= .exit 2∧(Jn i1 fun c l=>∃v37 c1,Own c G (es true ab v37 52 c1 X.1 :: (Eb h 52 [I a.Lo,I a.Hi,I a.Val]) :: es true ab v8 52 z b.1 :: F)∧l= [(1,v8),(5,v37),(6,I X.2),(8,Q h),(11,v1),(12,I (S.length:Int)),(13,I b.2.2.2)]∧OA ab c v37 c1 X.1) e w) ?_ ?_ ?_)))
   ·clear g s2;intro i a3 Z i0 H;revert Z i0;rintro e_ w_ ⟨b6,o8,_,rfl,w2,rfl,v35,e0,u5,rfl,t2⟩;refine W.seq (W.seq (bn H fun w3 u2 H=>W.join (Jn b6 fun c l=>Own c G (es true ab v35 52 e0 i.1 :: (Eb h 52 [I a.Lo,I a.Hi,I a.Val]) :: es true ab v8 52 z b.1 :: F)∧l= [(1,v8),(5,v35),(6,I i.2),(8,Q h),(11,v1),(12,I (S.length:Int)),(13,I b.2.2.2),(30,B w3)]) ?_ ?_))
    ·clear H;refine rD [] (Kp G0 [es true ab v8 52 z b.1,(Eb h 52 [I a.Lo,I a.Hi,I a.Val])]) u5 ?_;intro j1 s6 b1;have x2:Kp G0 [es true ab v8 52 z b.1,(Eb h 52 [I a.Lo,I a.Hi,I a.Val])] j1:=(Kp.cons (b1.on 2 rfl) (Kp.cons (b1.on 1 rfl) Kp.nil0));refine ta 0 (I i.2) (ta 1 (v8) (tx 2 (fun N q=>lnO 3 aL n.m) (ta 3 (B (decide (i.2 < (b.1.length:Int)))) ?_)));rcases bo (decide (i.2 < (b.1.length:Int))) with a0 | a0
     ·have g1:=anT a0 u2;refine bn g1 fun y0 t1 g1=>AC.takeb 4 a0 rfl (by kernel_rfl) (by kernel_rfl) (fun N q=>(by kernel_rfl)) (ta 5 (v8) (ta 6 (I i.2) (tx 7 (fun N q=>ixO aL n.m t1) (ta 8 (Qo (sb v8) (i.2.toNat * 3+1)) ?_))));obtain ⟨d8,i6,w6⟩:=OA.at (n.mono (b0.trans (d0.trans (w2.trans s6)))) t1;obtain rfl:=i6;refine AC.takeK 9 (I y0.Hi) x2 rfl (by kernel_rfl) (by kernel_rfl) (by kernel_rfl) (fun N q hk=>(rx (by kernel_rfl) (fF u_3 rfl (hk.on 0 rfl) (n.m.blk t1) (at1 (j:=1) w6 rfl)))) (ta 10 (Q h) (tkx 11 x2 (fun N q hk=>le1 0 u_3 (hk.on 1 rfl)) (ta 12 (B (decide (y0.Hi < a.Lo))) ?_)));obtain rfl:=si g1;exact ta 13 (B (decide (y0.Hi < a.Lo))) (dn (nrm (jn j1 ⟨b1,rfl⟩)))
     obtain rfl:=anF a0 u2;exact AC.takeb 4 a0 rfl (by kernel_rfl) (by kernel_rfl) (fun N q=>(by kernel_rfl)) (tp 5 (tp 6 (tp 7 (tp 8 (tp 9 (tp 10 (tp 11 (tp 12 (ta 13 (B false) (dn (nrm (jn j1 ⟨b1,rfl⟩))))))))))))
    rintro e_ w_ ⟨c6,p8,_,rfl,t6,rfl,h1,rfl⟩;refine nrm (cn H (fun j6 H=>?_) (fun j6 H=>?_))
    ·refine W.skip (nrm (W.block (sr (va (v35) (va (v8) (va (I i.2) (bn H fun o u1 H=>vx (ixO aL n.m u1) ?_)))))));obtain ⟨e8,k6,x6⟩:=OA.at (n.mono (b0.trans (d0.trans (w2.trans t6)))) u1;obtain rfl:=k6;refine vr (.agg #[I o.Lo,I o.Hi,I o.Val]) (rx (by kernel_rfl) (iV (T:=52) (l:=[I o.Lo,I o.Hi,I o.Val]) (by kernel_rfl) (by kernel_rfl) (h1.on 2 rfl) (n.m.blk u1) (at2 (j:=0) x6 rfl))) (me (sl ab 52 [[I o.Lo,I o.Hi,I o.Val]] ([o]:List aa) h1 ⟨rfl,trivial⟩) ?_);rintro w8 l8 r8 ⟨u8,v5,l6⟩;obtain ⟨m8,n6,s8,w5,m6⟩:=v5.frz 0 rfl l6;refine WL.gh n6 (bn H fun j8 o6 H=>me (ap ab (ae 0 0 0) 24 33 1 w5 t2.m m6 o6 aL) ?_);rintro z2 d6 t8 ⟨y6,x5,p6⟩;refine va (z2) (wln (W.region (va (I i.2) (vv (I (w64 (i.2+1))) (WL.nil (bkn ?_))))));obtain rfl:=si H;refine ⟨_,rfl,?_⟩;have y5:=x5.sD 4 [1,2,3];exact jn d6 ⟨z2,y6,y5,rfl,p6⟩
    refine W.exit (thx ?_);obtain rfl:=si H;exact ⟨_,rfl,rfl,jn c6 ⟨v35,e0,h1,rfl,t2.m⟩⟩
   ·have z5:=t5.sD 3 [1,0,2];exact jn i1 ⟨v6,u7,z5,rfl,p2.m⟩
   rintro _ e_ w_ ⟨rfl,k1,q8,_,rfl,x1,rfl,v37,c1,o2,rfl,q6⟩;refine bke (nrm (sr (va (Q h) (vx (le1 0 u_3 (o2.on 1 rfl)) (va (I a.Lo) (wln (W.seq (W.block (bn g fun v0 v2 a1=>lp v2 (fun d=>Jn k1 fun c l=>∃E f0,Own c G (es true ab E 52 f0 d.1 :: (Eb h 52 [I a.Lo,I a.Hi,I a.Val]) :: es true ab v8 52 z b.1 :: F)∧l= [(1,v8),(5,E),(6,I d.2.1),(8,Q h),(9,I d.2.2),(11,v1),(12,I (S.length:Int)),(13,I b.2.2.2)]∧OA ab c E f0 d.1) (fun s ex e w=>ex= .exit 4∧(Jn k1 fun c l=>∃g0 i2 h0 d1,Own c G (es true ab g0 52 i2 s.2.1 :: es true ab h0 52 d1 s.1 :: (Eb h 52 [I a.Lo,I a.Hi,I a.Val]) :: F)∧l= [(1,h0),(5,g0),(6,I s.2.2.1),(8,Q h),(9,I s.2.2.2),(11,v1),(12,I (S.length:Int)),(13,I b.2.2.2)]∧OA ab c g0 i2 s.2.1∧OA ab c h0 d1 s.1) e w) ?_ ?_ ?_)))))))))
   ·clear a1 v2;intro d a3 Z i0 g;revert Z i0;rintro e_ w_ ⟨e6,q7,_,rfl,z1,rfl,E,f0,b3,rfl,m1⟩;refine W.seq (W.seq (bn g fun x3 n1 g=>W.join (Jn e6 fun c l=>Own c G (es true ab E 52 f0 d.1 :: (Eb h 52 [I a.Lo,I a.Hi,I a.Val]) :: es true ab v8 52 z b.1 :: F)∧l= [(1,v8),(5,E),(6,I d.2.1),(8,Q h),(9,I d.2.2),(11,v1),(12,I (S.length:Int)),(13,I b.2.2.2),(55,B x3)]) ?_ ?_))
    ·clear g;refine rD [] (Kp G0 [es true ab v8 52 z b.1,(Eb h 52 [I a.Lo,I a.Hi,I a.Val])]) b3 ?_;intro o0 a5 U;have b2:Kp G0 [es true ab v8 52 z b.1,(Eb h 52 [I a.Lo,I a.Hi,I a.Val])] o0:=(Kp.cons (U.on 2 rfl) (Kp.cons (U.on 1 rfl) Kp.nil0));refine ta 0 (I d.2.1) (ta 1 (v8) (tx 2 (fun N q=>lnO 3 aL n.m) (ta 3 (B (decide (d.2.1 < (b.1.length:Int)))) ?_)));rcases bo (decide (d.2.1 < (b.1.length:Int))) with P | P
     ·have j0:=anT P n1;refine bn j0 fun z0 s0 j0=>AC.takeb 4 P rfl (by kernel_rfl) (by kernel_rfl) (fun N q=>(by kernel_rfl)) (ta 5 (v8) (ta 6 (I d.2.1) (tx 7 (fun N q=>ixO aL n.m s0) (ta 8 (Qo (sb v8) (d.2.1.toNat * 3)) ?_))));obtain ⟨a7,y3,g5⟩:=OA.at (n.mono (b0.trans (d0.trans (x1.trans (z1.trans a5))))) s0;obtain rfl:=y3;refine AC.takeK 9 (I z0.Lo) b2 rfl (by kernel_rfl) (by kernel_rfl) (by kernel_rfl) (fun N q hk=>(rx (by kernel_rfl) (fF u_3 rfl (hk.on 0 rfl) (n.m.blk s0) (at1 (j:=0) g5 rfl)))) (ta 10 (Qo h 1) (tkx 11 b2 (fun N q hk=>le1 1 u_3 (hk.on 1 rfl)) (ta 12 (B (decide (z0.Lo≤a.Hi))) ?_)));obtain rfl:=si j0;exact ta 13 (B (decide (z0.Lo≤a.Hi))) (dn (nrm (jn o0 ⟨U,rfl⟩)))
     obtain rfl:=anF P n1;exact AC.takeb 4 P rfl (by kernel_rfl) (by kernel_rfl) (fun N q=>(by kernel_rfl)) (tp 5 (tp 6 (tp 7 (tp 8 (tp 9 (tp 10 (tp 11 (tp 12 (ta 13 (B false) (dn (nrm (jn o0 ⟨U,rfl⟩))))))))))))
    rintro e_ w_ ⟨q3,r7,_,rfl,w1,rfl,k0,rfl⟩;refine nrm (cn g (fun z3 g=>?_) (fun z3 g=>?_))
    ·refine W.skip (nrm (W.block (sr (va (v8) (va (I d.2.1) (bn g fun f t0 g=>vx (ixO aL n.m t0) ?_))))));obtain ⟨b7,a4,h5⟩:=OA.at (n.mono (b0.trans (d0.trans (x1.trans (z1.trans w1))))) t0;obtain rfl:=a4;refine vr (.agg #[I f.Lo,I f.Hi,I f.Val]) (rx (by kernel_rfl) (iV (T:=52) (l:=[I f.Lo,I f.Hi,I f.Val]) (by kernel_rfl) (by kernel_rfl) (k0.on 2 rfl) (n.m.blk t0) (at2 (j:=0) h5 rfl))) (me (al 52 [I 0,I 0,I 0] k0) ?_);rintro i8 j7 b5 ⟨p,rfl,c3⟩;refine md (sA 52 [I f.Lo,I f.Hi,I f.Val] 0 c3 ⟨rfl,rfl,rfl,trivial⟩) ?_;rintro k7 c5 M;refine wln (sr (va (E) (va (Q p) (vx (le1 0 u_3 (M.on 0 rfl)) (va (Qo p 1) (vx (le1 1 u_3 (M.on 0 rfl)) (va (Q h) (vx (le1 0 u_3 (M.on 2 rfl)) (va (I (w64 (a.Lo - 1))) (va (I (gH f.Hi (w64 (a.Lo - 1)))) (va (Qo p 2) (vx (le1 2 u_3 (M.on 0 rfl)) ?_))))))))))));have d3:=M.sD 4 [1,0,2,3];refine bn g fun p5 b4 g=>cl (eZ d.1 f.Lo (gH f.Hi (w64 (a.Lo - 1))) f.Val d3 m1.m b4) ?_;rintro j2 l7 d5 ⟨_,g8,l0,rfl,c4⟩;refine va (j2) (wln (sr (va (j2) (va (I d.2.2) (va (Q p) (vx (le1 0 u_3 (l0.on 1 rfl)) (va (I (w64 (f.Lo - 1))) (va (Qo h 2) (vx (le1 2 u_3 (l0.on 2 rfl)) (bn g fun q5 d4 g=>cl (eZ p5 d.2.2 (w64 (f.Lo - 1)) a.Val l0 c4 d4) ?_))))))))));rintro k2 m7 e5 ⟨_,h8,A,rfl,e4⟩;refine va (k2) (wln (sr (va (k2) (va (Q p) (vx (le1 0 u_3 (A.on 1 rfl)) (va (I d.2.2) (va (I (iY f.Lo d.2.2)) (va (Qo p 1) (vx (le1 1 u_3 (A.on 1 rfl)) (va (Qo h 1) (vx (le1 1 u_3 (A.on 2 rfl)) (va (I (gH f.Hi a.Hi)) (va (Qo h 2) (vx (le1 2 u_3 (A.on 2 rfl)) (va (Qo p 2) (vx (le1 2 u_3 (A.on 1 rfl)) (va (I (w64 (a.Val+f.Val))) (bn g fun e7 f4 g=>cl (eZ q5 (iY f.Lo d.2.2) (gH f.Hi a.Hi) (w64 (a.Val+f.Val)) A e4 f4) ?_))))))))))))))))));rintro w0 s3 f5 ⟨_,e2,D,rfl,q1⟩;refine va (w0) (wln (sr (va (Qo p 1) (vx (le1 1 u_3 (D.on 1 rfl)) (vv (I (w64 (f.Hi+1))) (wln (W.seq (sr (va (Qo p 1) (vx (le1 1 u_3 (D.on 1 rfl)) (va (Qo h 1) (vx (le1 1 u_3 (D.on 2 rfl)) (va (B (decide (f.Hi > a.Hi))) (wln (cn g (fun g4 g=>?_) (fun g4 g=>?_))))))))))))))))
     ·refine sr (va (v8) (va (I d.2.1) (va (Qo h 1) (vx (le1 1 u_3 (D.on 2 rfl)) (va (I (w64 (a.Hi+1))) (bn g fun t s1 g=>vx (ixO aL n.m s1) (va (Qo (sb v8) (d.2.1.toNat * 3)) ?_)))))));obtain ⟨c7,i4,i5⟩:=OA.at (n.mono (b0.trans (d0.trans (x1.trans (z1.trans (w1.trans (b5.trans (c5.trans (d5.trans (e5.trans f5)))))))))) s1;obtain rfl:=i4;refine bn g fun d7 j4 g=>md (Own.stO (R:=ab) (T:=3) (us:=[I (w64 (a.Hi+1))]) (x':=(⟨(w64 (a.Hi+1)),t.Hi,t.Val⟩:aa)) (u:=I (w64 (a.Hi+1))) (x:=(⟨(w64 (a.Hi+1)),t.Hi,t.Val⟩:aa)) (j:=0) (l':=[I (w64 (a.Hi+1)),I t.Hi,I t.Val]) 3 D (by kernel_rfl) rfl n.m j4 i5 rfl (by kernel_rfl) ⟨rfl,trivial⟩ (by kernel_rfl) rfl rfl) ?_;rintro t3 w7 ⟨l5,e3,k4⟩;refine wln (W.exit (thx (bko rfl ?_)));obtain rfl:=si g;refine ⟨_,rfl,rfl,?_⟩;have f3:=e3.sD 4 [0,3,2];exact jn t3 ⟨w0,e2,v8,l5,f3,rfl,q1.m,k4⟩
     refine W.skip (nrm (W.region (va (I d.2.1) (vv (I (w64 (d.2.1+1))) (WL.nil (bkn ?_))))));obtain rfl:=si g;refine ⟨_,rfl,?_⟩;have g3:=D.sD 4 [0,2,3];exact jn s3 ⟨w0,e2,g3,rfl,q1⟩
    refine W.exit (thx ?_);obtain rfl:=si g;refine ⟨_,rfl,rfl,?_⟩;have i3:=k0.sD 3 [0,2,1];exact jn q3 ⟨E,f0,v8,z,i3,rfl,m1.m,n.m⟩
   ·exact jn k1 ⟨v37,c1,o2,rfl,q6⟩
   rintro _ e_ w_ ⟨rfl,n7,s7,_,rfl,x7,rfl,g0,i2,h0,d1,m0,rfl,l4,m4⟩;refine bke (nrm (W.region (va (g0) (va (I v0.2.2.2) (va (Qo h 1) (vx (le1 1 u_3 (m0.on 2 rfl)) (va (Qo h 2) (vx (le1 2 u_3 (m0.on 2 rfl)) (bn a1 fun f7 n4 a1=>cl (eZ v0.2.1 v0.2.2.2 a.Hi a.Val m0 l4 n4) ?_)))))))));rintro l2 u3 y7 ⟨_,m5,j3,rfl,o4⟩;refine va (l2) (WL.nil (bkn (nrm (W.region (vv (I (w64 (b.2.2.2+1))) (WL.nil ?_))))));obtain rfl:=si a1;refine ⟨_,rfl,?_⟩;have k3:=j3.sD 3 [0,1];exact jn u3 ⟨l2,m5,h0,d1,k3,rfl,o4,m4.m⟩
  refine W.exit (thx ?_);obtain rfl:=si H;exact ⟨_,rfl,rfl,jn a6 ⟨v6,u7,v8,z,n2,rfl,p2,n⟩⟩
 ·have q4:OA ab c0 (Y) [] []:=OA.nil (au _);have l3:=O0.addHole (e:=es true ab (Y) 52 [] ([]:List aa)) rfl;exact jn c0 ⟨(Y),[],e1,f2,l3,rfl,q4,h3⟩
 rintro _ e_ w_ ⟨rfl,o7,t7,_,rfl,z7,rfl,v10,c2,v12,d2,m3,rfl,r4,s4⟩;refine bke (nrm (sr (va (v10) (va (v12) (va (I j5.2.2) (bn H5 fun g7 t4 H5=>?_))))));obtain ⟨p7,v4,a8,n3,u4⟩:=m3.frz 1 rfl s4;refine WL.gh v4 ?_;obtain ⟨o5,w4,x4⟩:=iR (k:= .i64) aL (by kernel_rfl) u4 t4;refine vr o5 (rx (by kernel_rfl) (w4 _)) (bn H5 fun h7 y4 H5=>me (ap ab (ae 0 0 0) 24 33 0 n3 r4.m x4 y4 aL) ?_);rintro m2 v3 b8 ⟨n5,o3,z4⟩;refine va (m2) (wln (W.ret ?_));obtain rfl:=si H5;have p3:=o3.sD 2 [0];exact r1 (qq v3 ⟨m2,n5,p3,rfl,z4⟩)
end Go.Proofs.Ytjghgpnafaoojaa
namespace Go.Lt
open Go.WideElems (Fit rg)
open Go.Maps (Keyed has)
theorem mJ {w w':World} {k o:Nat} (h:w'.heap[k]? = w.heap[k]?):w'.cell? ⟨k,o,none⟩=w.cell? ⟨k,o,none⟩:=cU (w:=w) (a:=⟨k,o,none⟩) h
abbrev dm (P:Program) (k et:TypeId) (l:List MapEntry):DataW Unit:= .map ((l.map (rg P k (plainElem (H:=Unit) P et))).foldr DataW.insert [])
structure MO {α:Type} (P:Program) (k et:TypeId) (q:IntKind) (kv:α→Value) (ok:α→Prop) (e:En) (n:Nat) (m:α→Option Int):Prop where
 v:∃b,e.v= .map (some b)
 lim:e.lim=0
 fit:Fit P k (plainElem (H:=Unit) P et) (unE e.vs).toArray e.T
 size:(unE e.vs).length≤n
 rd:∀a l,ok a→keyOf P k (kv a)=some l→has (dm P k et (unE e.vs)) l=(m a).isSome∧∀x,m a=some x→∀z,(dm P k et (unE e.vs)).atKey l z= .lit (.int q x)
section
variable {α:Type} {P:Program} {k et t:TypeId} {q:IntKind} {kv:α→Value} {ok:α→Prop} {e:En} {n:Nat} {m:α→Option Int} {c:Cx} {G:Gm} {F:List En}
theorem MO.owns (h:MO P k et q kv ok e n m) {b:Nat} (hb:e.v= .map (some b)) (hon:e.on c):c.w.ownsMap P k (plainElem (H:=Unit) P et) b n (dm P k et (unE e.vs)):=by
 have h1:=(hon b (by rw [hb]; rfl)).1;unfold En.ob at h1;rw [hb] at h1;exact ⟨_,_,h1,h.fit,by simpa using h.size,by simp [dm]⟩
theorem Own.mkM {ρ:Operand→Value} {o:Oper} (P:Program) (k et:TypeId) (q:IntKind) (kv:α→Value) (ok:α→Prop) (O:Own c G F) (hx:execOp ρ o=(do pure (Next.value (←Instr.makeMap t none)):Sem Next)):
  ∃v c',(execOp ρ o).run P c.w= .ok (.value v) c'.w∧c.le c'∧∃b e,v= .map (some b)∧e.v= .map (some b)∧Own c' G (e :: F)∧MO P k et q kv ok e 0 (fun _=>none):=by
 have hr:(execOp ρ o).run P c.w= .ok (.value (.map (some c.w.heap.size))) (c.w.alloc (.map #[] 0)):=rx hx rfl
 let c':Cx:=⟨c.w.alloc (.map #[] 0),fun k p=>(k < c.w.heap.size∧c.A k p)∨k=c.w.heap.size,c.t⟩
 have hold:∀k,k < c.w.heap.size→c'.w.heap[k]? = c.w.heap[k]? :=fun k hk=>dk _ _ _ hk;have hb:c.but (fun _=>False) c':=⟨⟨rfl,rfl,by simp [c'],fun k p hk hA=>⟨mJ (hold k hk),by rintro (h | h); exact hA h.2; omega⟩,fun k hk _=>hold k hk,fun a ha _=>by simp only [World.frozen?,hold _ ha],fun _ _ _ h=>h⟩,rfl,
  fun k hk _=>⟨hold k hk,fun p=>⟨by rintro (h | h); exact h.2; omega,fun h=> .inl ⟨hk,h⟩⟩⟩⟩
 have hnew:c'.w.heap[c.w.heap.size]? = some (.map #[] 0):=heap_alloc_new c.w _;refine ⟨_,c',hr,hb.le,c.w.heap.size,⟨.map (some c.w.heap.size),0,[],0⟩,rfl,rfl,O.cons hb (fun _=>id) (fun b hb=>?_) (fun b hb=>?_),⟨⟨_,rfl⟩,rfl,?_,aj _,fun a l _ _=>⟨rfl,fun x hx=>by cases hx⟩⟩⟩
 ·simp only [bk,aq] at hb;subst hb;exact ⟨hnew,fun o=>⟨fun _=>aG _,fun _=> .inr rfl⟩⟩
 ·simp only [bk,aq] at hb; omega
 ·obtain ⟨es,cl,h1,h2,h3,_⟩:=World.ownsMap_made c.w P k (plainElem (H:=Unit) P et);have:=hnew.symm.trans h1;cases this;exact h2
theorem MO.look (h:MO P k et q kv ok e n m) (hon:e.on c) (K:Keyed P k) (ht:P.underlying t=some (.map k et)) (he:P.underlying et=some (.int q)) (hz:(zeroValue et).run P c.w= .ok (.int q 0) c.w) {b:Nat} (hb:e.v= .map (some b)) {a:α} (ha:ok a) {l:Lit} (hl:keyOf P k (kv a)=some l):
  (Instr.lookup t (.map (some b)) (kv a) true).run P c.w= .ok (.tuple #[.int q ((m a).getD 0),.bool (m a).isSome]) c.w:=by
 have hw0:(Lit.int q 0).wf=true:=by cases q <;> decide
 obtain ⟨v,ps,hr,hv⟩:=(h.owns hb hon).look_ok K ht hz (plainElem_int he hw0) hl;obtain ⟨h1,h2⟩:=h.rd a l ha hl;obtain ⟨x,rfl,hx,_⟩:=plainElem_int_inv he hv;rw [hr,h1]
 cases hm:m a with
 | none=>
  have:=Maps.atKey_of_not_has (D:=dm P k et (unE e.vs)) (k:=l) (by rw [h1,hm]; rfl) (.lit (.int q 0));rw [this] at hx;simp only [ck,pM,Lit.int.injEq,nJ] at hx;rw [←hx.1];rfl
 | some y=>
  rw [h2 y hm] at hx;simp only [ck,pM,Lit.int.injEq,nJ] at hx;rw [←hx.1];rfl
theorem Own.upM [DecidableEq α] {ρ:Operand→Value} {o:Oper} {x:Int} (i:Nat) (O:Own c G F) (hi:F[i]? = some e) (h:MO P k et q kv ok e n m) (K:Keyed P k) (ht:P.underlying t=some (.map k et)) (he:P.underlying et=some (.int q)) (hn:n < maxLen) (hw:(Lit.int q x).wf=true)
  (inj:∀a b,ok a→ok b→kv a=kv b→a=b) {b:Nat} (hb:e.v= .map (some b)) {a:α} (ha:ok a) {l:Lit} (hl:keyOf P k (kv a)=some l)
  (hx:execOp ρ o=(do Instr.mapUpdate t (.map (some b)) (kv a) (.int q x); pure Next.skip:Sem Next)):
  ∃c',(execOp ρ o).run P c.w= .ok .skip c'.w∧c.le c'∧∃e',e'.v= .map (some b)∧Own c' G (F.set i e')∧MO P k et q kv ok e' (n+1) (fun a'=>if a'=a then some x else m a'):=by
 have hon:=O.on i hi;have ho:=h.owns hb hon;obtain ⟨w',hr,⟨es,cl,g1,g2,g3,g4⟩,tu⟩:=ho.store K ht hn hl (plainElem_int he hw);have hA:=(hon b (by rw [hb]; rfl)).2;rw [h.lim] at hA;have hg:=tu.grown;have hfr:=tu.frozen;have hsame:∀k,k < c.w.heap.size→k≠b→w'.heap[k]? = c.w.heap[k]? :=fun k hk hkb=>hg.block k hk (by simpa using hkb)
 let c':Cx:=⟨w',c.A,c.t⟩
 have hbut:c.but (fun k=>k=b) c':=by
  refine ⟨⟨hg.os,hg.output,hg.size,fun k o hk hn=>⟨mJ (hsame k hk ?_),hn⟩,fun k hk hn=>hsame k hk ?_,fun a _ _=>hfr a,fun _ _ _ h=>h⟩,rfl,fun k hk hkb=>⟨hsame k hk hkb,fun _=>Iff.rfl⟩⟩
  ·rintro rfl;exact hn ((hA o).2 (aG _))
  ·rintro rfl;exact hn 0 ((hA 0).2 (aG _))
 have hun:unE (mkE es.toList)=es.toList:=jP _;refine ⟨c',by rw [hx]; exact rs hr,hbut.le,⟨.map (some b),cl,mkE es.toList,0⟩,rfl,O.set i hi hbut (fun b' h'=>by subst h'; rw [hb]; rfl) (fun b' h'=>?_) (fun b' h'=> .inl (by rw [hb]; exact h')),⟨⟨_,rfl⟩,rfl,?_,?_,fun a' l' ha' hl'=>?_⟩⟩
 ·simp only [bk,aq] at h';subst h';refine ⟨?_,hA⟩;simp only [En.ob,mp,mI,hun];simpa using g1
 ·simp only [hun]; simpa using g2
 ·simp only [hun]; simpa using g3
 ·simp only [hun];have hd:dm P k et es.toList=(dm P k et (unE e.vs)).put l (.lit (.int q x)):=g4.symm;rw [hd];have hkl:=K.key hl;by_cases haa:a'=a
  ·subst haa;rw [hl] at hl';cases hl';rw [ad rfl];exact ⟨Maps.has_put_same ⟨_,rfl⟩ hkl _,fun y hy z=>by cases hy; exact Maps.atKey_put_same ⟨_,rfl⟩ hkl _ z⟩
  ·have hne:l'≠l:=fun h'=>by
    subst h';exact haa (inj _ _ ha' ha (K.inj hl' hl))
   rw [af haa,Maps.has_put_other hne];obtain ⟨r1,r2⟩:=h.rd a' l' ha' hl';exact ⟨r1,fun y hy z=>by rw [Maps.atKey_put_other hne]; exact r2 y hy z⟩
end
def aV (q:IntKind) (xs:List Int):Value:= .agg (xs.map (Value.int q)).toArray
theorem nx {q:IntKind} {xs ys:List Int} (h:aV q xs=aV q ys):xs=ys:=by
 simp only [aV,Value.agg.injEq] at h;have h:=fI Array.toList h;simp only at h;exact (List.map_inj_right fun a b hab=>by simpa using hab).1 h
theorem ku {P:Program} {k e:TypeId} {q:IntKind} {n:Nat} (A:WideMaps.ArrKey P k e n) (he:P.underlying e=some (.int q)) (hsz:∃m,P.types.size=m+1) {xs:List Int} (hn:xs.length=n) (hw:∀x∈xs,(Lit.int q x).wf=true):
  ∃l,keyOf P k (aV q xs)=some l:=by
 have hkt:=A.keyType hsz;obtain ⟨m,hm⟩:=hsz;unfold keyOf;simp only [A.hu];rw [ad (by simp [hkt,aV,Value.formed,A.size,hn,A.hu]),hm];unfold Program.keyLits;simp only [A.hu,Value.cells,aV];rw [ad (by rw [A.size]; simpa using hn)]
 suffices ∃ls,(List.range n).mapM (fun i=>P.keyLits (m+1) e ((((xs.map (Value.int q)).toArray.toList).drop (i * P.cellsOf e)).take (P.cellsOf e)))=some ls by
  obtain ⟨ls,h⟩:=this;rw [h];exact ⟨_,rfl⟩
 rw [A.one];have:∀L:List Nat,(∀i∈L,i < n)→∃ls,L.mapM (fun i=>P.keyLits (m+1) e ((((xs.map (Value.int q)).toArray.toList).drop (i * 1)).take 1))=some ls:=by
  intro L
  induction L with
  | nil=>exact fun _=>⟨[],rfl⟩
  | cons i L ih=>
   intro h;obtain ⟨ls,h2⟩:=ih fun j hj=>h j (List.mem_cons_of_mem _ hj);have hi:=h i (by simp);have hx:xs[i]? = some (xs[i]'(by omega)):=ai (by omega);have h1:(((xs.map (Value.int q)).toArray.toList).drop (i * 1)).take 1= [.int q (xs[i]'(by omega))]:=by
    rw [gN,aA (by simp; omega)];simp
   rw [List.mapM_cons,h1,h2];unfold Program.keyLits;have hwi:=hw _ (a9 (l:=xs) (n:=i) (by omega));simp [he,hwi]
 exact this _ fun i hi=>List.mem_range.1 hi
end Go.Lt
namespace Go.Proofs.Ytjghgpnafaoojaa
open Go Go.Lt
set_option maxRecDepth 10000
set_option linter.unusedVariables false
attribute [local irreducible] W WL AC
open Try
variable {c0:Cx} {G:Gm} {F:List En}
def fi (lo hi:Int) (xs:List aa):Option (List aa):=
 aU (σ:=List aa×Int) (τ:=List aa) ((hi+1 - lo).toNat+1) (fun s=>
  if decide (s.2≤hi)=true then
   (bW (IntKind.i32.wrap s.2)).bind fun c=>
    if (c != 0)=true then (app s.1 [⟨s.2,s.2,c⟩]).bind fun ys=>some (.inl (ys,w64 (s.2+1)))
    else some (.inl (s.1,w64 (s.2+1)))
  else some (.inr s.1)) (xs,lo)
theorem jF {b:Nat} {v:Value} {vs:List Value} {xs r:List aa} (lo hi:Int) (O0:Own c0 G (⟨.pointer (some ⟨b,0,none⟩),33,[v],0⟩ :: es true ab v 52 vs xs :: F)) (h0:OA ab c0 v vs xs) (H:fi lo hi xs=some r): Calls prog 41 #[I lo,I hi,Q b] c0.w (ay c0 fun c u=>u= .tuple #[]∧∃v' vs',Own c G (⟨.pointer (some ⟨b,0,none⟩),33,[v'],0⟩ :: es true ab v' 52 vs' r :: F)∧OA ab c v' vs' r):=by
 unfold fi at H;refine en func41 rfl rfl (sr (vv (I lo) (wln (W.block ?_))));refine lp H (fun s=>Jn c0 fun c l=>∃v vs,Own c G (⟨.pointer (some ⟨b,0,none⟩),33,[v],0⟩ :: es true ab v 52 vs s.1 :: F)∧l= [(1,I hi),(2,Q b),(5,I s.2)]∧OA ab c v vs s.1) (fun t x e w=>x= .exit 0∧Jn c0 (fun c l=>∃v vs,Own c G (⟨.pointer (some ⟨b,0,none⟩),33,[v],0⟩ :: es true ab v 52 vs t :: F)∧OA ab c v vs t) e w) ?_ ?_ ?_
 ·clear H;rintro ⟨xs,q⟩ x e w H ⟨c,g,l,rfl,hc,rfl,v,vs,O,rfl,h⟩;refine W.seq <| sr <| va (I q) <| va (I hi) <| va (B (decide (q≤hi))) <| wln <| cn H (fun d0 H=>?_) (fun d0 H=>?_)
  ·refine W.skip <| nrm <| W.seq <| W.block <| sr <| va (I q) <| va (J (IntKind.i32.wrap q)) <| bn H fun a h1 H=>cl (eN O _ h1) ?_;rintro _ c1 k1 ⟨O1,rfl⟩;refine va (I a) <| wln <| sr <| va (I a) <| va (B (a != 0)) <| wln <| cn H (fun d1 H=>?_) (fun d1 H=>?_)
   ·refine W.region <| vx (le1 0 aL (O1.on 0 rfl)) <| va (I q) <| va (I q) <| va (I a) <| va (.agg #[I q,I q,I a]) <| me (sl ab 52 [[I q,I q,I a]] [⟨q,q,a⟩] O1 ⟨rfl,trivial⟩) ?_;rintro v23 c2 k2 ⟨vs2,O2,h2⟩;obtain ⟨c3,w3,k3,O3,S3⟩:=O2.frz 0 rfl h2;refine WL.gh w3 <| bn H fun ys h3 H=>me (ap ab (ae 0 0 0) 24 33 2 O3 h.m S3 h3 aL) ?_;rintro v24 c4 k4 ⟨vs4,O4,h4⟩;refine md (sC 33 0 v24 [v24] 1 O4 ⟨h4.one,trivial⟩) ?_;rintro c5 k5 O5;refine WL.nil <| bkn <| nrm <| W.region <| va (I q) <| va (I (w64 (q+1))) <| va (I (w64 (q+1))) <| WL.nil ?_;obtain rfl:=si H;have M:=O5.sD 3 [1,2];exact ⟨_,rfl,c5,_,_,rfl,pt,us,v24,vs4,M,rfl,h4.m⟩
   ·refine W.skip <| bkn <| nrm <| W.region <| va (I q) <| va (I (w64 (q+1))) <| va (I (w64 (q+1))) <| WL.nil ?_;obtain rfl:=si H;exact ⟨_,rfl,c1,_,_,rfl,pt,us,v,vs,O1,rfl,h.m⟩
  ·refine W.exit <| thx ?_;obtain rfl:=si H;exact ⟨_,rfl,rfl,c,_,[],rfl,pt,rfl,v,vs,O,h⟩
 ·exact jn c0 ⟨v,vs,O0,rfl,h0⟩
 ·rintro _ e w ⟨rfl,c,g,l,rfl,hc,rfl,v,vs,O,h⟩;exact bke (n0 (qq c ⟨rfl,v,vs,O,h⟩))
def cj:Option (List aa):=
 (fi 4352 4607 []).bind fun a=>(fi 43360 43388 a).bind fun b=>(fi 44032 55291 b).bind fun c=>aT c
theorem gp (O0:Own c0 G F) {r:List aa} (H:cj=some r): Calls prog 19 #[] c0.w (ay c0 fun c v=>∃y y2,Own c G (es true ab y 52 y2 r :: F)∧v=y∧OA ab c y y2 r):=by
 unfold cj at H;have k0:OA ab c0 (Y) [] []:=OA.nil (au _);have N:=O0.addHole (e:=es true ab (Y) 52 [] ([]:List aa)) rfl;refine en func19 rfl rfl <| sr <| va (Y) <| wln <| sr <| me (al 33 [Y] N) ?_;rintro v1 c1 k1 ⟨b,rfl,O1⟩;refine wln <| sr <| va (.func (.func 41) #[] #[Q b]) <| va (.func (.func 41) #[] #[Q b]) <| wln <| sr <| va (.func (.func 41) #[] #[Q b]) <| bn H fun xa h1 H=>cl (jF 4352 4607 O1 k0.m h1) ?_;rintro _ c2 k2 ⟨rfl,va2,vs2,O2,h2⟩;refine wln <| sr <| va (.func (.func 41) #[] #[Q b]) <| bn H fun xb h3 H=>cl (jF 43360 43388 O2 h2 h3) ?_;rintro _ c3 k3 ⟨rfl,va3,vs3,O3,h4⟩;refine wln <| sr <| va (.func (.func 41) #[] #[Q b]) <| bn H fun xc h5 H=>cl (jF 44032 55291 O3 h4 h5) ?_;rintro _ c4 k4 ⟨rfl,va4,vs4,O4,h6⟩;refine wln <| sr <| vx (le1 0 aL (O4.on 0 rfl)) ?_;obtain ⟨c5,w5,k5,O5,S5⟩:=O4.frz 1 rfl h6;refine WL.gh w5 <| cl (ct O5 xc S5 H) ?_;rintro v6 c6 k6 ⟨y,y2,O6,rfl,h7⟩;refine va v6 <| wln <| W.ret ?_;have M:=O6.sD 3 [0];exact r1 <| qq c6 ⟨v6,y2,M,rfl,h7⟩
abbrev eB (b:Nat) (sv:Value) (m1 m2 t:Nat):En:=⟨.pointer (some ⟨b,0,none⟩),71,[sv,.map (some m1),.map (some m2),.pointer (some ⟨t,0,none⟩)],0⟩
def wh (l:List aa) (p:Int):Int×Bool:=
 match l with
 | []=>(0,true)
 | s :: _=>if s.Lo≥p+256 then (0,true) else if s.Lo≤p then (if s.Hi≥p+255 then (s.Val,true) else (0,false)) else (0,false)
theorem mx {b m1 m2 t:Nat} {sv:Value} {l:List aa} {p:Int} (O0:Own c0 G (eB b sv m1 m2 t :: F)) (S:Sl ab c0 sv l) (h0:0≤p) (h1:p≤1114111):
    Calls prog 71 #[Q b,I p] c0.w (ay c0 fun c v=>Own c G (eB b sv m1 m2 t :: F)∧v= .tuple #[I (wh l p).1,B (wh l p).2]):=by
 have w1:w64 (p+256)=p+256:=ax (by omega)
 have w2:w64 (p+255)=p+255:=ax (by omega)
 have w3:w64 (w64 (p+256) - 1)=p+255:=by rw [w1,←w2]; congr 1; omega
 refine en func71 rfl rfl <| sr <| va (I 0) <| va (B false) <| wln <| W.seq <| W.block <| sr <| va (Q b) <| va (Q b) <| va (Q b) <| vx (le1 0 aL (O0.on 0 rfl)) <| vx (ln 3 aL S) ?_
 cases l with
 | nil=>
  refine va (B true) <| va (B true) <| ps <| ps <| ps <| ps <| ps <| ps <| ps <| ps <| ps <| ps <| va (B true) <| va (B true) <| wln ?_
  refine W.cond (t:=true) (by kernel_rfl) (fun _=>?_) (fun h=>by cases h)
  exact sr <| va (I 0) <| va (B true) <| wln <| W.ret <| r2 <| qq c0 ⟨O0,rfl⟩
 | cons s l=>
  obtain ⟨lc,hlc,hcell⟩:=S.at (i:=0) (x:=s) rfl
  obtain rfl:=hlc
  have hix:idx (s :: l) 0=some s:=rfl
  have m0:Im c0 (sb sv) (so sv+(0:Int).toNat * 3) (I s.Lo):=hcell 0 _ rfl
  have m1':Im c0 (sb sv) (so sv+(0:Int).toNat * 3+1) (I s.Hi):=hcell 1 _ rfl
  have m2':Im c0 (sb sv) (so sv+(0:Int).toNat * 3+2) (I s.Val):=hcell 2 _ rfl
  have e1:(s.Lo≥w64 (p+256))=(s.Lo≥p+256):=by rw [w1]
  refine va (B false) <| va (B false) <| wn <| va (Q b) <| wn <| va (Q b) <| wn <| va (Q b) <| wn <| vx (le1 0 aL (O0.on 0 rfl)) <| wn <| vx (ix aL S hix) <| wn <| va (.pointer (some ⟨sb sv,so sv+(0:Int).toNat * 3,none⟩)) <| wn <| vx (l1 u_3 m0) <| wn <| va (I p) <| wn <| va (I (w64 (p+256))) <| wn <| va (B (decide (s.Lo≥w64 (p+256)))) <| va (B (decide (s.Lo≥w64 (p+256)))) <| va (B (decide (s.Lo≥w64 (p+256)))) <| wln ?_
  refine W.cond (t:=decide (s.Lo≥w64 (p+256))) (by kernel_rfl) (fun d=>?_) (fun d=>?_)
  · refine sr <| va (I 0) <| va (B true) <| wln <| W.ret <| r2 (v:=I 0) (v':=B true) <| qq c0 ⟨O0,?_⟩
    rw [ag,w1] at d
    simp only [wh,ad d]
  · rw [aZ,w1] at d
    refine sr <| va (Q b) <| va (Q b) <| va (Q b) <| vx (le1 0 aL (O0.on 0 rfl)) <| vx (ix aL S hix) <| va (.pointer (some ⟨sb sv,so sv+(0:Int).toNat * 3,none⟩)) <| vx (l1 u_3 m0) <| va (I p) ?_
    by_cases h:s.Lo≤p
    · refine vb (b:=true) (du h) <| va (B true) <| wn <| va (Q b) <| wn <| va (Q b) <| wn <| va (Q b) <| wn <| vx (le1 0 aL (O0.on 0 rfl)) <| wn <| vx (ix aL S hix) <| wn <| va (.pointer (some ⟨sb sv,so sv+(0:Int).toNat * 3+1,none⟩)) <| wn <| vx (l1 u_3 m1') <| wn <| va (I p) <| wn <| va (I (w64 (p+256))) <| wn <| va (I (w64 (w64 (p+256) - 1))) <| wn <| va (B (decide (s.Hi≥w64 (w64 (p+256) - 1)))) <| va (B (decide (s.Hi≥w64 (w64 (p+256) - 1)))) <| va (B (decide (s.Hi≥w64 (w64 (p+256) - 1)))) <| wln ?_
      refine W.cond (t:=decide (s.Hi≥w64 (w64 (p+256) - 1))) (by kernel_rfl) (fun g=>?_) (fun g=>?_)
      · rw [ag,w3] at g
        refine sr <| va (Q b) <| va (Q b) <| va (Q b) <| vx (le1 0 aL (O0.on 0 rfl)) <| vx (ix aL S hix) <| va (.pointer (some ⟨sb sv,so sv+(0:Int).toNat * 3+2,none⟩)) <| vx (l1 u_3 m2') <| va (I s.Val) <| va (B true) <| wln <| W.ret <| r2 (v:=I s.Val) (v':=B true) <| qq c0 ⟨O0,?_⟩
        simp only [wh,af d,ad h,ad g]
      · rw [aZ,w3] at g
        refine W.skip <| bkn <| nrm <| sr <| va (I 0) <| va (B false) <| wln <| W.ret <| r2 (v:=I 0) (v':=B false) <| qq c0 ⟨O0,?_⟩
        simp only [wh,af d,ad h,af g]
    · refine vb (b:=false) (cf h) <| va (B false) <| ps <| ps <| ps <| ps <| ps <| ps <| ps <| ps <| ps <| ps <| ps <| va (B false) <| va (B false) <| wln ?_
      refine W.cond (t:=false) (by kernel_rfl) (fun h=>by cases h) (fun _=>?_)
      refine W.skip <| bkn <| nrm <| sr <| va (I 0) <| va (B false) <| wln <| W.ret <| r2 (v:=I 0) (v':=B false) <| qq c0 ⟨O0,?_⟩
      simp only [wh,af d,af h]
def da:Rp (List Int) where
  size:=256
  cells:=fun _ l x=>l=x.map (Value.int .u16)∧x.length=256
  len:=fun h=>by rw [h.1,aD]; exact h.2
  one:=fun h v hv=>by
    rw [h.1] at hv
    obtain ⟨y,_,rfl⟩:=List.mem_map.1 hv
    rfl
  mono:=fun _ h=>h
theorem ou:WideMaps.ArrKey prog 78 65 256:=⟨underlying78,by kernel_rfl,by kernel_rfl,by kernel_rfl⟩
theorem nY:Go.Maps.Keyed prog 78:=Go.Maps.Keyed.of_law ou.law
theorem nX:Go.Maps.Keyed prog 3:=Go.Maps.int_keyed underlying3
theorem nM:∃m,prog.types.size=m+1:=⟨prog.types.size - 1,by kernel_rfl⟩
def iT (x:List Int):Prop:=x.length=256∧∀v∈x,0≤v∧v≤65535
theorem mO {v:Int} (h:0≤v∧v≤65535):(Lit.int .u16 v).wf=true:=by
  simp only [Lit.wf,ac,ag];exact ⟨h.1,h.2⟩
theorem ly:(prog.info? 78).map (fun i=>(i.zero,i.size,i.bytes))=some (some (aV .u16 (List.replicate 256 0)),256,512):=by kernel_rfl
theorem slB {ρ:Operand→Value} {o:Oper} {x:List Int} (O:Own c0 G F) (hx:x.length=256) (ho:execOp ρ o=(do pure (Next.value (←Instr.buildSlice 67 1 #[(0,aV .u16 x)])):Sem Next)):
    ∃v c',(execOp ρ o).run prog c0.w= .ok (.value v) c'.w∧c0.le c'∧∃vs,Own c' G (es true da v 78 vs [x] :: F)∧OA da c' v vs [x]:=by
  obtain ⟨ie,hie,hz⟩:=Option.map_eq_some_iff.1 ly;simp only [ck] at hz;obtain ⟨z1,z2,z3⟩:=hz;have hf:=Great.fill_whole (s:=256) (by decide) [aV .u16 x] ((Array.range (1 * 256)).map ((aV .u16 (List.replicate 256 0)).cells[· % (aV .u16 (List.replicate 256 0)).cells.size]!)) (by simp [aV,Value.cells,hx]) (by simp);have hr:=run_buildSlice (P:=prog) c0.w 67 78 1 #[(0,aV .u16 x)] _ ie _ underlying67 hie z1 (by rw [z2]; decide) (by rw [z2]; decide) (by rw [z2]; exact hf);refine Own.newS (R:=da) (xs:=[x]) (cap:=1) (vs:=x.map (Value.int .u16)) true O (by decide) (fun i y hy=>?_) (aj _) (by decide) (by show 1 * 256≤_; rw [aD,hx]; decide) (rx ho ?_)
  · cases i with
    | succ i=>simp at hy
    | zero=>
      simp only [fP,aq] at hy;subst hy;refine ⟨?_,hx⟩;show ((x.map (Value.int .u16)).drop (0 * 256)).take 256=_;rw [jm,gQ,bR (by rw [aD,hx]; exact aj _)]
  · rw [hr]
    simp [aV,Value.cells]
theorem pj {ρ:Operand→Value} {o:Oper} {v u:Value} {vs:List Value} {xs:List (List Int)} {x:List Int} {m:Bool} (k:Nat) (O:Own c0 G F) (hk:F[k]? = some (es m da v 78 vs xs)) (h:OA da c0 v vs xs) (hS:Sl da c0 u [x]) (hl:xs.length≤100000)
    (ho:execOp ρ o=(do pure (Next.value (←Builtin.append_ #[67,67] 67 #[v,u])):Sem Next)):
    ∃v' c',(execOp ρ o).run prog c0.w= .ok (.value v') c'.w∧c0.le c'∧∃vs',Own c' G (F.set k (es m da v' 78 vs' (xs++ [x])))∧OA da c' v' vs' (xs++ [x]):=by
  obtain ⟨nw,n1,n2,n3,n4⟩:=hS.flat;obtain ⟨ua,ucap,rfl,hu1,hu2,hu3⟩:=hS;obtain ⟨ub,uo,_,hua,_⟩:=hu3 0 x rfl;subst hua;have happ:app xs [x]=some (xs++ [x]):=by
    unfold app;rw [ad (by unfold far; simp; omega)]
  have hz:(aV .u16 (List.replicate 256 0)).cells.size=da.size:=by simp [aV,Value.cells,da]
  have hb:(xs.length+ [x].length) * 512≤140737488355328:=by simp; omega
  obtain ⟨v',c',h1,h2,h3⟩:=gj (R:=da) (P:=prog) (E:=78) (t:=67) (ty:=67) (ucap:=ucap) k O hk h n1 (fun _=>⟨ub,uo,rfl,fun j w hw=>(n2 j w hw).cell⟩) n3 n4 happ underlying67 ly hz hb;exact ⟨v',c',rx ho h1,h2,h3⟩
def kn (bl:List (List Int)) (x:List Int):Option Int:=if x∈bl then some (bl.idxOf x:Int) else none
def adB (bl:List (List Int)) (x:List Int):List (List Int):=if x∈bl then bl else bl++ [x]
def okI (x:Int):Prop:=(Lit.int .i64 x).wf=true
abbrev eTb (t:Nat) (fs:List Value) (bv:Value):En:=⟨.pointer (some ⟨t,0,none⟩),69,fs++ [bv],0⟩
def Bd (c:Cx) (G:Gm) (F:List En) (b t:Nat) (sv:Value) (fs:List Value) (bl:List (List Int)) (ev:Int→Option Int) (N:Nat):Prop:=
  ∃m1 m2 bv bvs e1 e2 n1 n2,Own c G (eB b sv m1 m2 t :: eTb t fs bv :: es true da bv 78 bvs bl :: e1 :: e2 :: F)∧OA da c bv bvs bl∧e1.v= .map (some m1)∧e2.v= .map (some m2)∧
    MO prog 78 65 .u16 (aV .u16) iT e1 n1 (kn bl)∧MO prog 3 65 .u16 I okI e2 n2 ev∧n1≤bl.length∧n2≤N
theorem kJ (w:World):(zeroValue 65).run prog w= .ok (.int .u16 0) w:=by kernel_rfl
theorem jV {c:Cx} {e:En} {b:Nat} {x:List Int} (h:e.on c) (hb:blk e.v=some b) (hv:e.vs=x.map (Value.int .u16)) (hx:x.length=256):(Instr.loadAt 78 (.pointer (some ⟨b,0,none⟩))).run prog c.w= .ok (aV .u16 x) c.w:=by
  refine iV (T:=78) (l:=x.map (Value.int .u16)) (by kernel_rfl) (by rw [aD,hx]; kernel_rfl) h hb ?_;rw [hv,gQ,bR (aj _)]
theorem nb {bl:List (List Int)} {x:List Int} (h:x∉bl) (a:List Int):(if a=x then some (bl.length:Int) else kn bl a)=kn (bl++ [x]) a:=by
  unfold kn;by_cases ha:a=x
  · subst ha
    rw [ad rfl,ad (by simp),px,af h];simp
  · rw [af ha]
    by_cases hm:a∈bl
    · rw [ad hm,ad (by simp [hm]),px,ad hm]
    · rw [af hm,af (by simp [hm,ha])]
theorem mN {n:Int} (h:0≤n) (h':n≤65535):IntKind.u16.wrap n=n:=by
  unfold IntKind.wrap;show (if (false && decide (n % 65536≥_))=true then _ else n % 65536)=n;rw [af (by simp)];omega
theorem lK {b t:Nat} {sv:Value} {fs:List Value} {bl:List (List Int)} {ev:Int→Option Int} {N:Nat} {x:List Int} (hB:Bd c0 G F b t sv fs bl ev N) (hx:iT x) (hf:fs.length=4352) (hl:bl.length≤60000):
    Calls prog 72 #[Q b,aV .u16 x] c0.w (ay c0 fun c v=>v= .int .u16 (bl.idxOf x:Int)∧Bd c G F b t sv fs (adB bl x) ev N):=by
 obtain ⟨m1,m2,bv,bvs,e1,e2,n1,n2,O0,hA,v1,v2,M1,M2,l1',l2⟩:=hB
 obtain ⟨kl,hkl⟩:=ku ou jx nM hx.1 fun v hv=>mO (hx.2 v hv)
 have hwr:IntKind.u16.wrap (bl.length:Int)=(bl.length:Int):=mN (by omega) (by omega)
 refine en func72 rfl rfl <| sr <| me (al 78 (x.map (Value.int .u16)) O0) ?_
 rintro _ c1 k1 ⟨b3,rfl,O1⟩
 refine va (.int .u16 0) <| wln <| W.seq <| rD [] (Kp G0 [⟨.pointer (some ⟨b3,0,none⟩),78,x.map (Value.int .u16),0⟩,eB b sv m1 m2 t,e1]) O1 ?_
 intro c2 k2 O2
 have p:Kp G0 [⟨.pointer (some ⟨b3,0,none⟩),78,x.map (Value.int .u16),0⟩,eB b sv m1 m2 t,e1] c2:=Kp.cons (O2.on 0 rfl) (Kp.cons (O2.on 1 rfl) (Kp.cons (O2.on 4 rfl) Kp.nil0))
 refine ta 0 (Q b) <| ta 1 (Q b) <| ta 2 (.pointer (some ⟨b,1,none⟩)) <| tkx 3 p (fun c' _ k=>le1 1 lU (k.on 1 rfl)) <| tkx 4 p (fun c' _ k=>jV (k.on 0 rfl) rfl rfl hx.1) <| tkx 5 p (fun c' _ k=>M1.look (k.on 2 rfl) nY lU jx (kJ _) v1 hx hkl) ?_
 refine ta 6 (.tuple #[.int .u16 ((kn bl x).getD 0),B (kn bl x).isSome]) <| ta 7 (.int .u16 ((kn bl x).getD 0)) <| ta 8 (B (kn bl x).isSome) <| ta 9 (.int .u16 ((kn bl x).getD 0)) <| ta 10 (B (kn bl x).isSome) <| dn <| nrm ?_
 by_cases hm:x∈bl
 · have hk:kn bl x=some (bl.idxOf x:Int):=by unfold kn; rw [ad hm]
   have ha:adB bl x=bl:=by unfold adB; rw [ad hm]
   rw [hk,ha]
   refine W.seq <| sr <| va (B true) <| va (B false) <| wln ?_
   refine W.cond (t:=false) (by kernel_rfl) (fun h=>by cases h) (fun _=>?_)
   refine W.skip <| nrm <| sr <| va (.int .u16 (bl.idxOf x:Int)) <| va (.int .u16 (bl.idxOf x:Int)) <| wln <| W.ret ?_
   exact r1 <| qq c2 ⟨rfl,m1,m2,bv,bvs,e1,e2,n1,n2,O2.tail,hA.m,v1,v2,M1,M2,l1',l2⟩
 · have hk:kn bl x=none:=by unfold kn; rw [af hm]
   have ha:adB bl x=bl++ [x]:=by unfold adB; rw [af hm]
   have hi:bl.idxOf x=bl.length:=oy hm
   rw [hk,ha,hi]
   refine W.seq <| sr <| va (B false) <| va (B true) <| wln ?_
   refine W.cond (t:=true) (by kernel_rfl) (fun _=>?_) (fun h=>by cases h)
   refine sr <| va (Q b) <| va (Q b) <| va (.pointer (some ⟨b,3,none⟩)) <| vx (le1 3 jy (O2.on 1 rfl)) <| va (Q t) <| va (.pointer (some ⟨t,4352,none⟩)) <| vx (fF ik rfl (O2.on 2 rfl) rfl (by show (fs++ [bv])[4352]? = some bv; rw [←hf]; simp)) <| vx (lnO 3 ik hA.m) <| va (.int .u16 (IntKind.u16.wrap (bl.length:Int))) ?_
   rw [hwr]
   refine va (.int .u16 (bl.length:Int)) <| wln <| W.seq <| rD [] (Kp G0 [⟨.pointer (some ⟨b3,0,none⟩),78,x.map (Value.int .u16),0⟩,eB b sv m1 m2 t]) O2 ?_
   intro c3 k3 O3
   have p3:Kp G0 [⟨.pointer (some ⟨b3,0,none⟩),78,x.map (Value.int .u16),0⟩,eB b sv m1 m2 t] c3:=Kp.cons (O3.on 0 rfl) (Kp.cons (O3.on 1 rfl) Kp.nil0)
   refine ta 0 (Q b) <| ta 1 (Q b) <| ta 2 (.pointer (some ⟨b,1,none⟩)) <| tkx 3 p3 (fun c' _ k=>le1 1 lU (k.on 1 rfl)) <| tkx 4 p3 (fun c' _ k=>jV (k.on 0 rfl) rfl rfl hx.1) <| ta 5 (.int .u16 (bl.length:Int)) <| o1 6 <| gD 6 (Own.upM 4 O3 rfl M1 nY lU jx (by unfold maxLen; omega) (mO (v:=(bl.length:Int)) ⟨by omega,by omega⟩) (fun a a' _ _ h=>nx h) v1 hx hkl (by kernel_rfl)) ?_
   rintro c4 k4 ⟨e1',v1',O4,M1'⟩
   have p4:Kp G0 [⟨.pointer (some ⟨b3,0,none⟩),78,x.map (Value.int .u16),0⟩,eB b sv m1 m2 t] c4:=Kp.cons (O4.on 0 rfl) (Kp.cons (O4.on 1 rfl) Kp.nil0)
   refine ⟨.inr p4,dn <| nrm ?_⟩
   refine rD [16] (Kp G0 [⟨.pointer (some ⟨b3,0,none⟩),78,x.map (Value.int .u16),0⟩,eB b sv m1 m2 t,eTb t fs bv]) O4 ?_
   intro c5 k5 O5
   have p5:Kp G0 [⟨.pointer (some ⟨b3,0,none⟩),78,x.map (Value.int .u16),0⟩,eB b sv m1 m2 t,eTb t fs bv] c5:=Kp.cons (O5.on 0 rfl) (Kp.cons (O5.on 1 rfl) (Kp.cons (O5.on 2 rfl) Kp.nil0))
   refine ta 0 (Q b) <| ta 1 (Q b) <| ta 2 (.pointer (some ⟨b,3,none⟩)) <| tkx 3 p5 (fun c' _ k=>le1 3 jy (k.on 1 rfl)) <| ta 4 (Q b) <| ta 5 (Q b) <| ta 6 (.pointer (some ⟨b,3,none⟩)) <| tkx 7 p5 (fun c' _ k=>le1 3 jy (k.on 1 rfl)) <| ta 8 (Q t) <| ta 9 (.pointer (some ⟨t,4352,none⟩)) <| tkx 10 p5 (fun c' _ k=>fF ik rfl (k.on 2 rfl) rfl (by show (fs++ [bv])[4352]? = some bv; rw [←hf]; simp)) <| tkx 11 p5 (fun c' _ k=>jV (k.on 0 rfl) rfl rfl hx.1) ?_
   refine o1 12 <| gm 12 (slB O5 hx.1 (by kernel_rfl)) ?_
   rintro v12 c6 k6 ⟨vs6,O6,h6⟩
   obtain ⟨c7,w7,k7,O7,S7⟩:=O6.frz 0 rfl h6
   have p6:Kp G0 [⟨.pointer (some ⟨b3,0,none⟩),78,x.map (Value.int .u16),0⟩,eB b sv m1 m2 t,eTb t fs bv] c6:=Kp.cons (O6.on 1 rfl) (Kp.cons (O6.on 2 rfl) (Kp.cons (O6.on 3 rfl) Kp.nil0))
   have p7:Kp G0 [⟨.pointer (some ⟨b3,0,none⟩),78,x.map (Value.int .u16),0⟩,eB b sv m1 m2 t,eTb t fs bv] c7:=Kp.cons (O7.on 1 rfl) (Kp.cons (O7.on 2 rfl) (Kp.cons (O7.on 3 rfl) Kp.nil0))
   refine ⟨.inr p6,AC.gh w7 k7 (fun _=>p7) <| o1 13 <| gm 13 (pj 4 O7 rfl hA.m S7 (by omega) (by kernel_rfl)) ?_⟩
   rintro v13 c8 k8 ⟨vs8,O8,h8⟩
   have p8:Kp G0 [⟨.pointer (some ⟨b3,0,none⟩),78,x.map (Value.int .u16),0⟩,eB b sv m1 m2 t,eTb t fs bv] c8:=Kp.cons (O8.on 1 rfl) (Kp.cons (O8.on 2 rfl) (Kp.cons (O8.on 3 rfl) Kp.nil0))
   refine ⟨.inr p8,ta 14 (Q t) <| ta 15 (.pointer (some ⟨t,4352,none⟩)) <| o1 16 <| gD 16 (Own.st (T:=67) (b:=t) (j:=4352) (v:=v13) (e:=eTb t fs bv) (us:=[v13]) (nw:=fs++ [v13]) 3 O8 (by kernel_rfl) rfl rfl rfl (lJ h8.one) (by kernel_rfl) ⟨h8.one,trivial⟩ ?_ ?_) ?_⟩
   · show Nat.ble (4352+1) (fs++ [bv]).length=true
     rw [am,hf]; rfl
   · show (fs++ [bv]).take 4352++ [v13]++(fs++ [bv]).drop (4352+1)=fs++ [v13]
     rw [←hf,List.take_left,nD (by simp)]
     simp
   rintro c9 k9 O9
   refine ⟨.inl rfl,dn <| nrm <| sr <| va (.int .u16 (bl.length:Int)) <| va (.int .u16 (bl.length:Int)) <| wln <| W.ret ?_⟩
   have M:=O9.sD 7 [2,3,4,5,6]
   exact r1 <| qq c9 ⟨rfl,m1,m2,v13,vs8,e1',e2,n1+1,n2,M,h8.m,v1',v2,⟨M1'.v,M1'.lim,M1'.fit,M1'.size,fun a l ha hl=>by rw [←nb hm]; exact M1'.rd a l ha hl⟩,M2,by simp; omega,l2⟩
def eI (l:List aa) (p:Int):Option (List aa):=
 aU (σ:=List aa) (τ:=List aa) (l.length+1) (fun l=>
  (cW (decide ((l.length:Int) > 0)) ((idx l 0).bind fun s=>some (decide (s.Hi < p)))).bind fun d=>
  if d=true then (slc l 1 l.length).bind fun l'=>some (.inl l') else some (.inr l)) l
def gz (s:aa) (p:Int) (x:List Int):Option (List Int):=
 aU (σ:=List Int×Int) (τ:=List Int) 300 (fun st=>
  if decide (st.2≤gH s.Hi (w64 (w64 (p+256) - 1)))=true then (gV st.1 (w64 (st.2 - p)) (IntKind.u16.wrap s.Val)).bind fun x'=>some (.inl (x',w64 (st.2+1)))
  else some (.inr st.1)) (x,iY s.Lo p)
def eG (l:List aa) (p:Int):Option (List Int):=
 aU (σ:=List Int×Int) (τ:=List Int) (((l.length:Int) - 0).toNat+1) (fun st=>
  if decide (st.2 < (l.length:Int))=true then (idx l st.2).bind fun s=>
   if decide (s.Lo≥w64 (p+256))=true then some (.inr st.1)
   else (gz s p st.1).bind fun x=>some (.inl (x,w64 (st.2+1)))
  else some (.inr st.1)) (List.replicate 256 0,0)
theorem nn {b t:Nat} {sv:Value} {fs:List Value} {bl:List (List Int)} {ev:Int→Option Int} {N:Nat} {l r:List aa} {x:List Int} {p:Int} (hB:Bd c0 G F b t sv fs bl ev N) (S0:Sl ab c0 sv l) (hf:fs.length=4352) (hl:bl.length≤60000) (hN:N≤60000) (h0:0≤p) (h1:p≤1113856)
    (H1:eI l p=some r) (H2:eG r p=some x) (hx:iT x) (hv:okI (wh r p).1):
    Calls prog 43 #[Q b,I p] c0.w (ay c0 fun c v=>∃sv',Sl ab c sv' r∧
      (if (wh r p).2=true∧(ev (wh r p).1).isSome=true then v= .int .u16 ((ev (wh r p).1).getD 0)∧Bd c G F b t sv' fs bl ev N
       else v= .int .u16 (bl.idxOf x:Int)∧Bd c G F b t sv' fs (adB bl x) (if (wh r p).2=true then fun a=>if a=(wh r p).1 then some (bl.idxOf x:Int) else ev a else ev) (N+1))):=by
 obtain ⟨m1,m2,bv,bvs,e1,e2,n1,n2,O0,hA,v1,v2,M1,M2,l1',l2⟩:=hB
 generalize hF1:eTb t fs bv :: es true da bv 78 bvs bl :: e1 :: e2 :: F=F1 at O0
 unfold eI at H1
 refine en func43 rfl rfl <| sr <| va (.int .u16 0) <| wln <| W.seq <| W.block ?_
 refine lp H1 (fun l=>Jn c0 fun c ls=>∃sv,Own c G (eB b sv m1 m2 t :: F1)∧ls= [(0,Q b),(1,I p)]∧Sl ab c sv l) (fun t' x e w=>x= .exit 0∧Jn c0 (fun c ls=>∃sv,Own c G (eB b sv m1 m2 t :: F1)∧ls= [(0,Q b),(1,I p)]∧Sl ab c sv t') e w) ?_ ?_ ?_
 · clear H1 H2 hx S0 O0 hv
   rintro l x e w H ⟨c,g,ls,rfl,hc,rfl,sv,O,rfl,S⟩
   refine W.seq <| sr <| va (Q b) <| va (Q b) <| va (Q b) <| vx (le1 0 aL (O.on 0 rfl)) <| vx (ln 3 aL S) <| va (B (decide ((l.length:Int) > 0))) <| va (B (decide ((l.length:Int) > 0))) <| bn H fun d hd H=>?_
   rcases bo (decide ((l.length:Int) > 0)) with h | h
   · rw [h] at hd⊢
     refine bn (anT rfl hd) fun s hs hd=>?_
     obtain ⟨lc,hlc,hcell⟩:=S.at (aH hs)
     obtain rfl:=hlc
     obtain rfl:=si hd
     refine wn <| va (Q b) <| wn <| va (Q b) <| wn <| va (Q b) <| wn <| vx (le1 0 aL (O.on 0 rfl)) <| wn <| vx (ix aL S hs) <| wn <| va (.pointer (some ⟨sb sv,so sv+(0:Int).toNat * 3+1,none⟩)) <| wn <| vx (l1 u_3 (hcell 1 _ rfl)) <| wn <| va (I p) <| wn <| va (B (decide (s.Hi < p))) <| va (B (decide (s.Hi < p))) <| wln <| cn H (fun d1 H=>?_) (fun d1 H=>?_)
     · refine W.skip <| nrm <| W.block <| bn H fun l2 hl2 H=>?_
       obtain ⟨v5,w5,x5⟩:=iR (k:= .i64) aL (by kernel_rfl) S hl2
       refine W.region <| va (Q b) <| va (Q b) <| va (Q b) <| va (Q b) <| vx (le1 0 aL (O.on 0 rfl)) <| vx (w5 _) <| va (Q b) <| va (Q b) <| md (sC 33 0 v5 [v5,.map (some m1),.map (some m2),.pointer (some ⟨t,0,none⟩)] 0 O ⟨x5.one,trivial⟩) ?_
       rintro c5 k5 O5
       obtain rfl:=si H
       refine WL.nil <| bkn ?_
       exact ⟨_,rfl,c5,_,_,rfl,pt,us,v5,O5,rfl,x5.m⟩
     · refine W.exit <| thx ?_
       obtain rfl:=si H
       exact ⟨_,rfl,rfl,c,_,_,rfl,pt,us,sv,O,rfl,S⟩
   · rw [h] at hd⊢
     obtain rfl:=anF rfl hd
     refine ps <| ps <| ps <| ps <| ps <| ps <| ps <| ps <| ps <| va (B false) <| wln <| cn H (fun d1 H=>by cases d1) (fun d1 H=>?_)
     refine W.exit <| thx ?_
     obtain rfl:=si H
     exact ⟨_,rfl,rfl,c,_,_,rfl,pt,us,sv,O,rfl,S⟩
 · exact jn c0 ⟨sv,O0,rfl,S0⟩
 rintro _ e w ⟨rfl,c,g,ls,rfl,hc,rfl,sv',O,rfl,S⟩
 subst hF1
 have hkI:=Maps.keyOf_int_mk u_3 hv
 refine bke <| nrm <| sr <| va (Q b) <| va (I p) <| cl (mx O S h0 (by omega)) ?_
 rintro _ c2 k2 ⟨O2,rfl⟩
 generalize hval:(wh r p).1=val at hv hkI⊢
 generalize hev:(wh r p).2=even
 refine va (.tuple #[I val,B even]) <| va (I val) <| va (B even) <| va (I val) <| va (B even) <| wln <| W.seqJ (Jn c0 fun c ls=>(Own c G (eB b sv' m1 m2 t :: eTb t fs bv :: es true da bv 78 bvs bl :: e1 :: e2 :: F)∧Sl ab c sv' r∧OA da c bv bvs bl∧¬(even=true∧(ev val).isSome=true))∧ls= [(0,Q b),(1,I p),(5,I val),(6,B even)]) ?_ ?_
 refine sr <| va (Q b) <| va (Q b) <| va (.pointer (some ⟨b,2,none⟩)) <| vx (le1 2 lT (O2.on 0 rfl)) <| va (I val) <| vx (M2.look (O2.on 4 rfl) nX lT jx (kJ _) v2 hv hkI) ?_
 refine va (.tuple #[.int .u16 ((ev val).getD 0),B (ev val).isSome]) <| va (.int .u16 ((ev val).getD 0)) <| va (B (ev val).isSome) <| va (.int .u16 ((ev val).getD 0)) <| va (B (ev val).isSome) <| wln <| sr <| va (B even) <| va (B even) ?_
 cases even with
 | false=>
  refine ps <| va (B false) <| wln <| W.cond (t:=false) (by kernel_rfl) (fun h=>by cases h) (fun _=>?_)
  refine W.skip <| nrm ?_
  exact jn c2 ⟨⟨O2,S.m,hA.m,by simp⟩,rfl⟩
 | true=>
  refine wn <| va (B (ev val).isSome) <| va (B (ev val).isSome) <| wln <| W.cond (t:=(ev val).isSome) (by kernel_rfl) (fun d=>?_) (fun d=>?_)
  · refine sr <| va (.int .u16 ((ev val).getD 0)) <| va (.int .u16 ((ev val).getD 0)) <| wln <| W.ret <| thr ?_
    refine r1 (v:= .int .u16 ((ev val).getD 0)) <| qq c2 ⟨sv',S.m,?_⟩
    rw [ad ⟨rfl,d⟩]
    exact ⟨rfl,m1,m2,bv,bvs,e1,e2,n1,n2,O2,hA.m,v1,v2,M1,M2,l1',l2⟩
  · refine W.skip <| nrm ?_
    exact jn c2 ⟨⟨O2,S.m,hA.m,by simp [d]⟩,rfl⟩
 rintro e w ⟨c3,g3,ls3,rfl,k3,rfl,⟨O3,S3,hA3,hne⟩,rfl⟩
 unfold eG at H2
 refine sr <| me (al 78 (List.replicate 256 (Value.int .u16 0)) O3) ?_
 rintro _ c4 k4 ⟨b9,rfl,O4⟩
 refine wln <| W.seq <| sr <| va (Q b) <| va (Q b) <| va (Q b) <| vx (le1 0 aL (O4.on 1 rfl)) <| vx (ln 3 aL S3.m) <| va (I 0) <| wln <| W.block ?_
 refine lp H2 (fun st=>Jn c4 fun c ls=>(Own c G (⟨.pointer (some ⟨b9,0,none⟩),78,st.1.map (Value.int .u16),0⟩ :: eB b sv' m1 m2 t :: eTb t fs bv :: es true da bv 78 bvs bl :: e1 :: e2 :: F)∧st.1.length=256)∧ls= [(0,Q b),(1,I p),(5,I val),(6,B even),(9,Q b9),(62,sv'),(63,I (r.length:Int)),(64,I st.2)]) (fun x x' e w=>x'= .exit 2∧Jn c4 (fun c ls=>Own c G (⟨.pointer (some ⟨b9,0,none⟩),78,x.map (Value.int .u16),0⟩ :: eB b sv' m1 m2 t :: eTb t fs bv :: es true da bv 78 bvs bl :: e1 :: e2 :: F)∧ls= [(0,Q b),(1,I p),(5,I val),(6,B even),(9,Q b9)]) e w) ?_ ?_ ?_
 · clear H2
   have S4:=S3.m k4
   clear O4 O3 S3
   rintro st y e w H ⟨c,g,ls,rfl,hc,rfl,⟨O,hlen⟩,rfl⟩
   refine sr <| va (B (decide (st.2 < (r.length:Int)))) <| wln <| W.seq <| cn H (fun d0 H=>?_) (fun d0 H=>?_)
   · refine W.skip <| nrm <| W.seq <| W.block <| sr <| bn H fun s hs H=>vx (ix aL S4.m hs) ?_
     obtain ⟨lc,hlc,hcell⟩:=(S4.mono hc).at (aH hs)
     obtain rfl:=hlc
     refine vx (lN 52 hcell) <| me (al 52 [I 0,I 0,I 0] O) ?_
     rintro _ c5 k5 ⟨b11,rfl,O5⟩
     refine md (sA 52 [I s.Lo,I s.Hi,I s.Val] 0 O5 ⟨rfl,rfl,rfl,trivial⟩) ?_
     rintro c6 k6 O6
     refine wln <| W.seq <| sr <| va (Q b11) <| vx (le1 0 u_3 (O6.on 0 rfl)) <| va (I p) <| va (I (w64 (p+256))) <| va (B (decide (s.Lo≥w64 (p+256)))) <| wln <| cn H (fun d1 H=>?_) (fun d1 H=>?_)
     · refine W.exit <| thx ?_
       obtain rfl:=si H
       have M:=O6.sD 2 [1]
       exact ⟨_,rfl,rfl,c6,_,_,rfl,pt,us,M,rfl⟩
     · refine W.skip <| nrm <| sr <| va (Q b11) <| vx (le1 0 u_3 (O6.on 0 rfl)) <| va (I p) <| va (I (iY s.Lo p)) <| va (I (iY s.Lo p)) <| wln <| W.block <| bn H fun x1 hx1 H=>?_
       unfold gz at hx1
       refine lp hx1 (fun s2=>Jn c6 fun c ls=>(Own c G (⟨.pointer (some ⟨b11,0,none⟩),52,[I s.Lo,I s.Hi,I s.Val],0⟩ :: ⟨.pointer (some ⟨b9,0,none⟩),78,s2.1.map (Value.int .u16),0⟩ :: eB b sv' m1 m2 t :: eTb t fs bv :: es true da bv 78 bvs bl :: e1 :: e2 :: F)∧s2.1.length=256)∧ls= [(0,Q b),(1,I p),(5,I val),(6,B even),(9,Q b9),(11,Q b11),(12,I s2.2),(62,sv'),(63,I (r.length:Int)),(64,I st.2)]) (fun x2 x' e w=>x'= .exit 4∧Jn c6 (fun c ls=>(Own c G (⟨.pointer (some ⟨b9,0,none⟩),78,x2.map (Value.int .u16),0⟩ :: eB b sv' m1 m2 t :: eTb t fs bv :: es true da bv 78 bvs bl :: e1 :: e2 :: F)∧x2.length=256)∧ls= [(0,Q b),(1,I p),(5,I val),(6,B even),(9,Q b9),(62,sv'),(63,I (r.length:Int)),(64,I st.2)]) e w) ?_ ?_ ?_
       · clear hx1 H O6 O5 O
         rintro s2 y2 e w H ⟨c7,g7,ls7,rfl,k7,rfl,⟨O7,hl7⟩,rfl⟩
         refine W.seq <| sr <| va (I s2.2) <| va (.pointer (some ⟨b11,1,none⟩)) <| vx (le1 1 u_3 (O7.on 0 rfl)) <| va (I p) <| va (I (w64 (p+256))) <| va (I (w64 (w64 (p+256) - 1))) <| va (I (gH s.Hi (w64 (w64 (p+256) - 1)))) <| va (B (decide (s2.2≤gH s.Hi (w64 (w64 (p+256) - 1))))) <| wln <| cn H (fun d2 H=>?_) (fun d2 H=>?_)
         · refine W.skip <| nrm <| W.seq <| W.block <| bn H fun x3 hx3 H=>?_
           have hs3:=hx3
           unfold gV at hs3
           split at hs3
           · rename_i hi3
             obtain rfl:=si hs3
             have hi4:(w64 (s2.2 - p)).toNat < 256:=by rw [hl7] at hi3; omega
             have hix:=dR (P:=prog) (T:=78) (E:=65) (n:=256) (sz:=1) (b:=b9) (j:=0) (k:= .i64) (i:=w64 (s2.2 - p)) underlying78 (by kernel_rfl) hi3.1 (by rw [hl7] at hi3; exact hi3.2)
             refine W.region <| va (I s2.2) <| va (I p) <| va (I (w64 (s2.2 - p))) <| va (.pointer (some ⟨b11,2,none⟩)) <| vx (le1 2 u_3 (O7.on 0 rfl)) <| va (.int .u16 (IntKind.u16.wrap s.Val)) <| vx (hix _) <| md (Own.st (T:=65) (b:=b9) (j:=0+(w64 (s2.2 - p)).toNat * 1) (v:= .int .u16 (IntKind.u16.wrap s.Val)) (us:=[.int .u16 (IntKind.u16.wrap s.Val)]) (nw:=(s2.1.set (w64 (s2.2 - p)).toNat (IntKind.u16.wrap s.Val)).map (Value.int .u16)) 1 O7 (by kernel_rfl) rfl rfl rfl rfl (by kernel_rfl) ⟨rfl,trivial⟩ ?_ ?_) ?_
             · exact dD (by simp only [aD,an,aC,hl7]; omega)
             · simp only [List.map_set,an,aC,cC,gN]
               rw [List.set_eq_take_append_cons_drop,ad (by rw [aD,hl7]; exact hi4)]
               simp
             rintro c8 k8 O8
             refine WL.nil <| bkn <| nrm <| W.region <| va (I s2.2) <| va (I (w64 (s2.2+1))) <| va (I (w64 (s2.2+1))) <| WL.nil ?_
             obtain rfl:=si H
             exact ⟨_,rfl,c8,_,_,rfl,pt,us,⟨O8,by rw [dW]; exact hl7⟩,rfl⟩
           · cases hs3
         · refine W.exit <| thx ?_
           obtain rfl:=si H
           exact ⟨_,rfl,rfl,c7,_,_,rfl,pt,us,⟨O7.tail,hl7⟩,rfl⟩
       · exact jn c6 ⟨⟨O6,hlen⟩,rfl⟩
       rintro _ e w ⟨rfl,c7,g7,ls7,rfl,k7,rfl,⟨O7,hl7⟩,rfl⟩
       refine bke <| bkn <| nrm <| W.region <| va (I (w64 (st.2+1))) <| va (I (w64 (st.2+1))) <| WL.nil ?_
       obtain rfl:=si H
       exact ⟨_,rfl,c7,_,_,rfl,pt,us,⟨O7,hl7⟩,rfl⟩
   · refine W.exit <| thx ?_
     obtain rfl:=si H
     exact ⟨_,rfl,rfl,c,_,_,rfl,pt,us,O,rfl⟩
 · exact jn c4 ⟨⟨O4,rfl⟩,rfl⟩
 rintro _ e w ⟨rfl,c5,g5,ls5,rfl,k5,rfl,O5,rfl⟩
 refine bke <| nrm ?_
 have hi:bl.idxOf x≤bl.length:=List.idxOf_le_length
 have hBd:Bd c5 G F b t sv' fs bl ev N:=⟨m1,m2,bv,bvs,e1,e2,n1,n2,O5.tail,hA3.m,v1,v2,M1,M2,l1',l2⟩
 refine sr <| va (Q b) <| vx (jV (O5.on 0 rfl) rfl rfl hx.1) <| cl (lK hBd hx hf hl) ?_
 rintro _ c6 k6 ⟨rfl,m1',m2',bv',bvs',e1',e2',n1',n2',O6,hA6,v1',v2',M1',M2',l1'',l2'⟩
 refine va (.int .u16 (bl.idxOf x:Int)) <| wln <| W.seq <| sr <| va (B even) <| wln ?_
 refine W.cond (t:=even) (by kernel_rfl) (fun d=>?_) (fun d=>?_)
 · subst d
   refine W.region <| va (Q b) <| va (Q b) <| va (.pointer (some ⟨b,2,none⟩)) <| vx (le1 2 lT (O6.on 0 rfl)) <| va (I val) <| va (.int .u16 (bl.idxOf x:Int)) <| md (Own.upM 4 O6 rfl M2' nX lT jx (by unfold maxLen; omega) (mO (v:=(bl.idxOf x:Int)) ⟨by omega,by omega⟩) (fun a a' _ _ h=>by simpa using h) v2' hv hkI (by kernel_rfl)) ?_
   rintro c7 k7 ⟨e2'',v2'',O7,M2''⟩
   refine WL.nil <| nrm <| sr <| va (.int .u16 (bl.idxOf x:Int)) <| va (.int .u16 (bl.idxOf x:Int)) <| wln <| W.ret ?_
   refine r1 (v:= .int .u16 (bl.idxOf x:Int)) <| qq c7 ⟨sv',S3.m,?_⟩
   rw [af hne,ad rfl]
   exact ⟨rfl,m1',m2',bv',bvs',e1',e2'',n1',n2'+1,O7,hA6.m,v1',v2'',M1',M2'',l1'',by omega⟩
 · subst d
   refine W.skip <| nrm <| sr <| va (.int .u16 (bl.idxOf x:Int)) <| va (.int .u16 (bl.idxOf x:Int)) <| wln <| W.ret ?_
   refine r1 (v:= .int .u16 (bl.idxOf x:Int)) <| qq c6 ⟨sv',S3.m,?_⟩
   rw [af hne,af (by simp)]
   exact ⟨rfl,m1',m2',bv',bvs',e1',e2',n1',n2',O6,hA6,v1',v2',M1',M2',l1'',by omega⟩
structure PS where
  bl:List (List Int)
  ev:Int→Option Int
  fs:List Int
def pst (L:Nat→List aa) (X:Nat→List Int):Nat→PS
  | 0=>⟨[],fun _=>none,[]⟩
  | i+1=>if (wh (L (i+1)) (256 * i)).2=true∧((pst L X i).ev (wh (L (i+1)) (256 * i)).1).isSome=true then ⟨(pst L X i).bl,(pst L X i).ev,(pst L X i).fs++ [((pst L X i).ev (wh (L (i+1)) (256 * i)).1).getD 0]⟩
    else ⟨adB (pst L X i).bl (X i),if (wh (L (i+1)) (256 * i)).2=true then fun a=>if a=(wh (L (i+1)) (256 * i)).1 then some ((pst L X i).bl.idxOf (X i):Int) else (pst L X i).ev a else (pst L X i).ev,(pst L X i).fs++ [((pst L X i).bl.idxOf (X i):Int)]⟩
theorem mB (bl:List (List Int)) (x:List Int):(adB bl x).length≤bl.length+1:=by
  unfold adB; split <;> simp
theorem gw (L:Nat→List aa) (X:Nat→List Int) (i:Nat):(pst L X i).bl.length≤i∧(pst L X i).fs.length=i:=by
  induction i with
  | zero=>exact ⟨aj _,rfl⟩
  | succ i ih=>
    unfold pst;split
    · exact ⟨by simp only; omega,by simp; omega⟩
    · exact ⟨by have:=mB (pst L X i).bl (X i); simp only; omega,by simp; omega⟩
def cnt:Option Unit:=aU (σ:=Int) (τ:=Unit) 4353 (fun i=>if decide (i < 4352)=true then some (.inl (w64 (i+1))) else some (.inr ())) 0
theorem nm:cnt=some ():=by kernel_rfl
def fc (fs:List Int):List Value:=fs.map (Value.int .u16)++List.replicate (4352 - fs.length) (Value.int .u16 0)
theorem lD {fs:List Int} (h:fs.length≤4352):(fc fs).length=4352:=by
  unfold fc;rw [am,aD,nG];omega
theorem ni {fs:List Int} {bv:Value} {n:Int} {j:Nat} (hj:fs.length=j) (h:j < 4352):(fc fs++ [bv]).take j++ [Value.int .u16 n]++(fc fs++ [bv]).drop (j+1)=fc (fs++ [n])++ [bv]:=by
  subst hj;unfold fc;have e:4352 - fs.length=(4352 - (fs++ [n]).length)+1:=by simp; omega
  rw [e,List.replicate_succ];have h1:(fs.map (Value.int .u16)).length=fs.length:=aD ..;rw [bM (fs.map _),kb (by omega),←h1,aO,←cv,eU];simp
theorem ldK {c:Cx} {T:TypeId} {b j:Nat} {v:Value} {d:TypeDesc} (hT:prog.underlying T=some d) (hd:(match d with | .struct _ | .array _ _=>false | _=>true)=true) (h:c.w.cell? ⟨b,j,none⟩=some v):(Instr.loadAt T (.pointer (some ⟨b,j,none⟩))).run prog c.w= .ok v c.w:=by
  cases d <;> simp_all [Instr.loadAt,Instr.sureAddr,loadVar,isAgg,aI hT,load,Sem.run]
theorem Bd.mono {c:Cx} {b t:Nat} {sv:Value} {fs:List Value} {bl:List (List Int)} {ev:Int→Option Int} {N M:Nat} (h:Bd c G F b t sv fs bl ev N) (hN:N≤M):Bd c G F b t sv fs bl ev M:=by
  obtain ⟨m1,m2,bv,bvs,e1,e2,n1,n2,O0,hA,v1,v2,M1,M2,l1',l2⟩:=h;exact ⟨m1,m2,bv,bvs,e1,e2,n1,n2,O0,hA,v1,v2,M1,M2,l1',bp l2 hN⟩
theorem ld {c:Cx} {b t j:Nat} {fs:List Value} {v:Value} (L:Nat→List aa) (X:Nat→List Int)
    (h:∃sv',Sl ab c sv' (L (j+1))∧
      (if (wh (L (j+1)) (256 * j)).2=true∧((pst L X j).ev (wh (L (j+1)) (256 * j)).1).isSome=true then v= .int .u16 (((pst L X j).ev (wh (L (j+1)) (256 * j)).1).getD 0)∧Bd c G F b t sv' fs (pst L X j).bl (pst L X j).ev j
       else v= .int .u16 ((pst L X j).bl.idxOf (X j):Int)∧Bd c G F b t sv' fs (adB (pst L X j).bl (X j)) (if (wh (L (j+1)) (256 * j)).2=true then fun a=>if a=(wh (L (j+1)) (256 * j)).1 then some ((pst L X j).bl.idxOf (X j):Int) else (pst L X j).ev a else (pst L X j).ev) (j+1))):
    ∃sv' n,Sl ab c sv' (L (j+1))∧v= .int .u16 n∧Bd c G F b t sv' fs (pst L X (j+1)).bl (pst L X (j+1)).ev (j+1)∧(pst L X (j+1)).fs=(pst L X j).fs++ [n]:=by
  obtain ⟨sv',S,h⟩:=h;by_cases hc:(wh (L (j+1)) (256 * j)).2=true∧((pst L X j).ev (wh (L (j+1)) (256 * j)).1).isSome=true
  · rw [ad hc] at h
    refine ⟨sv',_,S,h.1,?_,?_⟩
    · simp only [pst,ad hc]; exact h.2.mono (Nat.le_succ _)
    · simp only [pst,ad hc]
  · rw [af hc] at h
    refine ⟨sv',_,S,h.1,?_,?_⟩
    · simp only [pst,af hc]; exact h.2
    · simp only [pst,af hc]
theorem my {sv:Value} {l:List aa} (O0:Own c0 G F) (S0:Sl ab c0 sv l) (hR:aS l=some true) (L:Nat→List aa) (X:Nat→List Int) (hL:L 0=l)
    (hst:∀i:Nat,i < 4352→eI (L i) (256 * i)=some (L (i+1))∧eG (L (i+1)) (256 * i)=some (X i)∧iT (X i)∧okI (wh (L (i+1)) (256 * i)).1):
    Calls prog 20 #[sv] c0.w (ay c0 fun c v=>∃t bv bvs,v=Q t∧Own c G (eTb t ((pst L X 4352).fs.map (Value.int .u16)) bv :: es true da bv 78 bvs (pst L X 4352).bl :: F)∧OA da c bv bvs (pst L X 4352).bl):=by
 obtain ⟨a0,n0,q0,rfl⟩:=S0.form
 refine en func20 rfl rfl <| sr <| va (.pointer none) <| wln <| W.seq <| sr <| va (.slice a0 n0 q0) <| cl (dE O0 l S0 hR) ?_
 rintro _ c1 k1 ⟨O1,rfl⟩
 refine va (B false) <| wln <| W.cond (t:=false) (by kernel_rfl) (fun h=>by cases h) (fun _=>?_)
 refine W.skip <| nrm <| sr <| va (.slice a0 n0 q0) <| me (Own.mkM (t:=63) prog 78 65 .u16 (aV .u16) iT O1 (by kernel_rfl)) ?_
 rintro _ c2 k2 ⟨m1,e1,rfl,v1,O2,M1⟩
 refine me (Own.mkM (t:=64) prog 3 65 .u16 I okI O2 (by kernel_rfl)) ?_
 rintro _ c3 k3 ⟨m2,e2,rfl,v2,O3,M2⟩
 refine va (.agg (List.replicate 4352 (Value.int .u16 0)++ [Y]).toArray) <| me (al 69 (List.replicate 4352 (Value.int .u16 0)++ [Y]) O3) ?_
 rintro _ c4 k4 ⟨t,rfl,O4⟩
 refine va (.agg #[.slice a0 n0 q0,.map (some m1),.map (some m2),Q t]) <| me (al 71 [.slice a0 n0 q0,.map (some m1),.map (some m2),Q t] O4) ?_
 rintro _ c5 k5 ⟨b,rfl,O5⟩
 have hA0:OA da c5 (Y) [] []:=OA.nil (au _)
 have O6:=O5.addHole (e:=es true da (Y) 78 [] ([]:List (List Int))) rfl
 have O7:=O6.sD 5 [1,2,0,4,3]
 have hBd:Bd c5 G F b t (.slice a0 n0 q0) (fc []) [] (fun _=>none) 0:=⟨m1,m2,Y,[],e1,e2,0,0,O7,hA0,v1,v2,⟨M1.v,M1.lim,M1.fit,M1.size,M1.rd⟩,M2,aj _,aj _⟩
 refine va (Q b) <| wln <| W.seq <| W.seq <| W.region <| va (I 0) <| WL.nil <| nrm ?_
 have hc:=nm
 unfold cnt at hc
 refine W.block <| lp hc (fun i=>Jn c5 fun c ls=>∃(j:Nat) (sv:Value),i=(j:Int)∧j≤4352∧Sl ab c sv (L j)∧Bd c G F b t sv (fc (pst L X j).fs) (pst L X j).bl (pst L X j).ev j∧ls= [(3,Q b),(15,I i)]) (fun _ x e w=>x= .exit 0∧Jn c5 (fun c ls=>∃sv,Bd c G F b t sv (fc (pst L X 4352).fs) (pst L X 4352).bl (pst L X 4352).ev 4352∧ls= [(3,Q b)]) e w) ?_ ?_ ?_
 · rintro i y e w H ⟨c,g,ls,rfl,hle,rfl,j,sv,rfl,hj,S,hB,rfl⟩
   refine sr <| va (B (decide ((j:Int) < 4352))) <| wln <| W.seq <| cn H (fun d0 H=>?_) (fun d0 H=>?_)
   · rw [ag] at d0
     have hj':j < 4352:=by omega
     obtain ⟨t1,t2,t3,t4⟩:=hst j hj'
     obtain ⟨p1,p2⟩:=gw L X j
     refine W.skip <| nrm <| W.seq <| W.block <| sr <| va (I (j:Int)) <| va (I (j:Int)) <| wln ?_
     obtain ⟨m1',m2',bv,bvs,e1',e2',n1,n2,O,hA,v1',v2',M1',M2',l1,l2⟩:=hB
     refine rD [] (fun c=>c.w.cell? ⟨b,3,none⟩=some (Q t)) O ?_
     intro c6 k6 O6
     have p6:c6.w.cell? ⟨b,3,none⟩=some (Q t):=(O6.on 0 rfl).cell rfl 3
     have hB6:Bd c6 G F b t sv (fc (pst L X j).fs) (pst L X j).bl (pst L X j).ev j:=⟨m1',m2',bv,bvs,e1',e2',n1,n2,O6,hA.m,v1',v2',M1',M2',l1,l2⟩
     have hix:=dR (P:=prog) (T:=66) (E:=65) (n:=4352) (sz:=1) (b:=t) (j:=0) (k:= .i64) (i:=(j:Int)) underlying66 (by kernel_rfl) (iP j) d0
     have hw:w64 ((j:Int) * 256)=256 * j:=by rw [ax (by omega)]; omega
     refine ta 0 (Q b) <| ta 1 (Q b) <| ta 2 (.pointer (some ⟨b,3,none⟩)) <| tkx 3 p6 (fun c' _ k=>ldK jy rfl k) <| ta 4 (I (j:Int)) <| ta 5 (Q b) <| ta 6 (I (j:Int)) <| ta 7 (I (w64 ((j:Int) * 256))) ?_
     rw [hw]
     refine ta 9 (Q t) <| ta 10 (Q t) <| o1 8 <| gc 8 (nn hB6 S.m (lD (by omega)) (by omega) (by omega) (by omega) (by omega) t1 t2 t3 t4) ?_
     rintro v8 c8 k8 hp
     obtain ⟨sv8,n8,S8,rfl,hB8,hfs⟩:=ld L X hp
     obtain ⟨m1'',m2'',bv'',bvs'',e1'',e2'',n1'',n2'',O8,hA8,v1'',v2'',M1'',M2'',l1'',l2''⟩:=hB8
     refine ⟨.inr ((O8.on 0 rfl).cell rfl 3),tx 11 (fun c' _=>hix _) <| o1 12 <| gD 12 (Own.st (T:=65) (b:=t) (j:=0+(j:Int).toNat * 1) (v:= .int .u16 n8) (e:=eTb t (fc (pst L X j).fs) bv'') (us:=[.int .u16 n8]) (nw:=fc ((pst L X j).fs++ [n8])++ [bv'']) 1 O8 (by kernel_rfl) rfl rfl rfl rfl (by kernel_rfl) ⟨rfl,trivial⟩ ?_ ?_) ?_⟩
     · refine dD ?_
       show _≤(fc (pst L X j).fs++ [bv'']).length
       rw [am,lD (by omega)]
       simp only [an,aC]
       omega
     · simp only [cC,gN,pB,an,aC]
       exact ni p2 hj'
     rintro c9 k9 O9
     refine ⟨.inr ((O9.on 0 rfl).cell rfl 3),dn <| bkn <| nrm <| W.region <| va (I (w64 ((j:Int)+1))) <| va (I (w64 ((j:Int)+1))) <| WL.nil ?_⟩
     obtain rfl:=si H
     refine ⟨_,rfl,c9,_,_,rfl,pt,us,j+1,sv8,by rw [ax (by omega)]; omega,by omega,S8.m,?_,rfl⟩
     rw [hfs]
     exact ⟨m1'',m2'',bv'',bvs'',e1'',e2'',n1'',n2'',O9,hA8.m,v1'',v2'',M1'',M2'',l1'',l2''⟩
   · rw [aZ] at d0
     refine W.exit <| thx ?_
     obtain rfl:=si H
     obtain rfl:j=4352:=by omega
     exact ⟨_,rfl,rfl,c,_,_,rfl,pt,us,sv,hB,rfl⟩
 · exact jn c5 ⟨0,_,rfl,by omega,hL▸ S0.m,hBd,rfl⟩
 rintro _ e w ⟨rfl,c,g,ls,rfl,hle,rfl,sv,hB,rfl⟩
 obtain ⟨m1',m2',bv,bvs,e1',e2',n1,n2,O8,hA,_⟩:=hB
 refine bke <| nrm <| sr <| va (Q b) <| va (Q b) <| va (.pointer (some ⟨b,3,none⟩)) <| vx (le1 3 jy (O8.on 0 rfl)) <| va (Q t) <| wln <| W.ret ?_
 have M:=O8.sD 5 [1,2]
 have e:fc (pst L X 4352).fs=(pst L X 4352).fs.map (Value.int .u16):=by
   unfold fc
   rw [(gw L X 4352).2]
   simp
 rw [e] at M
 exact r1 (v:=Q t) <| qq c ⟨t,bv,bvs,rfl,M,hA⟩
def Tb (c:Cx) (t:Nat) (fs:List Int) (bl:List (List Int)):Prop:=(∀j u,(fs.map (Value.int .u16))[j]? = some u→Im c t j u)∧∃bv,Im c t 4352 bv∧Sl da c bv bl
theorem Tb.mono {c c':Cx} {t:Nat} {fs:List Int} {bl:List (List Int)} (h:Tb c t fs bl) (k:c.le c'):Tb c' t fs bl:=by
  obtain ⟨h1,bv,h2,h3⟩:=h;exact ⟨fun j u hu=>(h1 j u hu).mono k,bv,h2.mono k,h3.mono k⟩
def Bk (c:Cx) (v:Value) (fs:List Int) (bl:List (List Int)):Prop:=∃b t,v=Q b∧Im c b 0 (Q t)∧Tb c t fs bl
theorem Bk.mono {c c':Cx} {v:Value} {fs:List Int} {bl:List (List Int)} (h:Bk c v fs bl) (k:c.le c'):Bk c' v fs bl:=by
  obtain ⟨b,t,h1,h2,h3⟩:=h;exact ⟨b,t,h1,h2.mono k,h3.mono k⟩
theorem np {t:Nat} {n:Int} (O0:Own c0 G F) (h:n < 0∨n > 1114111):Calls prog 26 #[Q t,I n] c0.w (ay c0 fun c v=>v=I 0∧Own c G F):=by
 refine en func26 rfl rfl <| sr <| va (I 0) <| wln <| W.seq <| sr <| va (Q t) <| va (B false) <| va (B false) <| wn <| va (I n) <| wn ?_
 rcases bo (decide (n < 0)) with d | d
 · refine vb d <| va (B true) <| va (B true) <| ps <| ps <| va (B true) <| va (B true) <| ps <| ps <| ps <| ps <| ps <| ps <| va (B true) <| wln ?_
   refine W.cond (t:=true) (by kernel_rfl) (fun _=>?_) (fun h=>by cases h)
   exact sr <| va (I 0) <| wln <| W.ret <| thr <| r1 (v:=I 0) <| qq c0 ⟨rfl,O0⟩
 · have d2:n > 1114111:=by
     rw [aZ] at d
     omega
   refine vb d <| va (B false) <| va (B false) <| wn <| va (I n) <| wn <| vb (b:=true) (du d2) <| va (B true) <| va (B true) <| ps <| ps <| ps <| ps <| ps <| ps <| va (B true) <| wln ?_
   refine W.cond (t:=true) (by kernel_rfl) (fun _=>?_) (fun h=>by cases h)
   exact sr <| va (I 0) <| wln <| W.ret <| thr <| r1 (v:=I 0) <| qq c0 ⟨rfl,O0⟩
theorem om {t i:Nat} {n y:Int} {fs:List Int} {bl:List (List Int)} {x:List Int} (O0:Own c0 G F) (T0:Tb c0 t fs bl) (h0:0≤n) (h1:n≤1114111) (hi:fs[(n.tdiv 256).toNat]? = some (i:Int)) (hx:bl[i]? = some x) (hl:x.length=256) (hy:x[(n.tmod 256).toNat]? = some y) (hy0:0≤y∧y≤65535):
    Calls prog 26 #[Q t,I n] c0.w (ay c0 fun c v=>v=I y∧Own c G F):=by
 have hd0:0≤n.tdiv 256:=Int.tdiv_nonneg h0 (by decide)
 have hd1:n.tdiv 256 < 4352:=by
   rw [bZ h0]; omega
 have hm0:0≤n.tmod 256:=Int.tmod_nonneg _ h0
 have hm1:n.tmod 256 < 256:=Int.tmod_lt_of_pos _ (by decide)
 have hq:w64 (n.tdiv 256)=n.tdiv 256:=ax (by omega)
 obtain ⟨T1,bv,T2,T3⟩:=T0
 have hne:decide ((bl.length:Int)=0)=false:=by
   rw [aZ]
   have:=(List.getElem?_eq_some_iff.1 hx).1
   omega
 refine en func26 rfl rfl <| sr <| va (I 0) <| wln <| W.seq <| sr <| va (Q t) <| va (B false) <| va (B false) <| wn <| va (I n) <| wn <| vb (b:=false) (cf (by omega:¬n < 0)) <| va (B false) <| va (B false) <| wn <| va (I n) <| wn <| vb (b:=false) (cf (by omega:¬n > 1114111)) <| va (B false) <| va (B false) <| wn <| va (Q t) <| wn <| va (Q t) <| wn <| va (.pointer (some ⟨t,4352,none⟩)) <| wn <| vx (l1 ik T2) <| wn <| vx (ln 3 ik T3) <| wn <| vb hne <| va (B false) <| wln ?_
 refine W.cond (t:=false) (by kernel_rfl) (fun h=>by cases h) (fun _=>?_)
 refine W.skip <| nrm <| W.seq <| rD [] (Kp G0 []) O0 ?_
 intro c1 k1 O1
 have hcell:(fs.map (Value.int .u16))[(n.tdiv 256).toNat]? = some (.int .u16 (i:Int)):=by rw [ff,hi]; rfl
 have I1:Im c0 t (0+(n.tdiv 256).toNat * 1) (.int .u16 (i:Int)):=by simpa using T1 _ _ hcell
 have hbx:idx bl (i:Int)=some x:=by unfold idx; rw [ad (by omega)]; simpa using hx
 obtain ⟨lc,⟨hlc,_⟩,hcc⟩:=T3.at hx
 have hcy:lc[(n.tmod 256).toNat]? = some (.int .u16 y):=by rw [hlc,ff,hy]; rfl
 have I2:Im c0 (sb bv) (so bv+(i:Int).toNat * da.size+(n.tmod 256).toNat * 1) (.int .u16 y):=by simpa using hcc _ _ hcy
 have ix1:=dR (P:=prog) (T:=66) (E:=65) (n:=4352) (sz:=1) (b:=t) (j:=0) (k:= .i64) (i:=n.tdiv 256) underlying66 (by kernel_rfl) hd0 hd1
 have ix2:=fun c' (k:c0.le c')=>hC (P:=prog) (T:=67) (E:=78) (k:= .u16) ik (by kernel_rfl) (T3.mono k) hbx
 have ix3:=dR (P:=prog) (T:=78) (E:=65) (n:=256) (sz:=1) (b:=sb bv) (j:=so bv+(i:Int).toNat * da.size) (k:= .i64) (i:=n.tmod 256) underlying78 (by kernel_rfl) hm0 hm1
 refine ta 0 (Q t) <| ta 1 (Q t) <| ta 2 (.pointer (some ⟨t,4352,none⟩)) <| tx 3 (fun c' k=>l1 ik (T2.mono (k1.trans k))) <| ta 4 (Q t) <| ta 5 (I n) <| ta 6 (I (w64 (n.tdiv 256))) ?_
 rw [hq]
 refine ta 7 (Q t) <| ta 8 (Q t) <| tx 9 (fun c' _=>ix1 _) <| tx 10 (fun c' k=>l1 jx (I1.mono (k1.trans k))) <| ta 11 (I n) <| ta 12 (I (n.tmod 256)) <| tx 13 (fun c' k=>ix2 c' (k1.trans k) _) <| tx 14 (fun c' _=>ix3 _) <| tx 15 (fun c' k=>l1 jx (I2.mono (k1.trans k))) ?_
 have hc:w64 y=y:=ax (by omega)
 refine ta 16 (I (w64 y)) ?_
 rw [hc]
 refine ta 17 (I y) <| dn <| nrm <| W.ret ?_
 exact r1 (v:=I y) <| qq c1 ⟨rfl,O1⟩
theorem kD {t:Nat} {fs:List Int} {bl:List (List Int)} (O0:Own c0 G F) (T0:Tb c0 t fs bl):Calls prog 21 #[Q t] c0.w (ay c0 fun c v=>v=I (bl.length:Int)∧Own c G F):=by
 obtain ⟨T1,bv,T2,T3⟩:=T0
 refine en func21 rfl rfl <| sr <| va (I 0) <| wln <| W.seq <| sr <| va (Q t) <| va (B false) <| wln ?_
 refine W.cond (t:=false) (by kernel_rfl) (fun h=>by cases h) (fun _=>?_)
 refine W.skip <| nrm <| sr <| va (Q t) <| va (Q t) <| va (.pointer (some ⟨t,4352,none⟩)) <| vx (l1 ik T2) <| vx (ln 3 ik T3) <| va (I (bl.length:Int)) <| wln <| W.ret ?_
 exact r1 (v:=I (bl.length:Int)) <| qq c0 ⟨rfl,O0⟩
theorem ic {v:Value} {fs:List Int} {bl:List (List Int)} (O0:Own c0 G F) (hB:Bk c0 v fs bl):Calls prog 6 #[v] c0.w (ay c0 fun c v=>v=I (bl.length:Int)∧Own c G F):=by
 obtain ⟨b,t,rfl,h1,hT⟩:=hB
 refine en func6 rfl rfl <| sr <| va (I 0) <| wln <| W.seq <| sr <| va (Q b) <| va (B false) <| wln ?_
 refine W.cond (t:=false) (by kernel_rfl) (fun h=>by cases h) (fun _=>?_)
 refine W.skip <| nrm <| sr <| va (Q b) <| va (Q b) <| va (Q b) <| vx (l1 jy h1) <| cl (kD O0 hT) ?_
 rintro _ c1 k1 ⟨rfl,O1⟩
 refine va (I (bl.length:Int)) <| wln <| W.ret ?_
 exact r1 (v:=I (bl.length:Int)) <| qq c1 ⟨rfl,O1⟩
theorem jI (O0:Own c0 G F):Calls prog 6 #[.pointer none] c0.w (ay c0 fun c v=>v=I 0∧Own c G F):=by
 refine en func6 rfl rfl <| sr <| va (I 0) <| wln <| W.seq <| sr <| va (.pointer none) <| va (B true) <| wln ?_
 refine W.cond (t:=true) (by kernel_rfl) (fun _=>?_) (fun h=>by cases h)
 exact sr <| va (I 0) <| wln <| W.ret <| thr <| r1 (v:=I 0) <| qq c0 ⟨rfl,O0⟩
abbrev pV (r:av):Value:= .agg #[I r.Break,B r.Pict,I r.Conj,I r.East]
theorem nq (O0:Own c0 G F) (n:Int):Calls prog 8 #[.pointer none,J n] c0.w (ay c0 fun c v=>v=pV ⟨0,false,0,0⟩∧Own c G F):=by
 refine en func8 rfl rfl <| sr <| me (al 28 [I 0,B false,I 0,I 0] O0) ?_
 rintro _ c1 k1 ⟨b,rfl,O1⟩
 refine wln <| W.seq <| sr <| va (.pointer none) <| va (B true) <| wln ?_
 refine W.cond (t:=true) (by kernel_rfl) (fun _=>?_) (fun h=>by cases h)
 refine sr <| va (.agg #[I 0,B false,I 0,I 0]) <| md (sA 28 [I 0,B false,I 0,I 0] 0 O1 ⟨rfl,rfl,rfl,rfl,trivial⟩) ?_
 rintro c2 k2 O2
 refine wln <| W.ret <| thr ?_
 have o:=O2.sD 1 []
 exact kp (c:=c2) (vs:=[I 0,B false,I 0,I 0]) rfl (by kernel_rfl) (by kernel_rfl) (by kernel_rfl) (O2.on 0 rfl _ rfl).1 ⟨_,c2,rfl,rfl,pt,rfl,o⟩
theorem mK {v:Value} {fs:List Int} {bl:List (List Int)} {n y:Int} {r:av} (O0:Own c0 G F) (hB:Bk c0 v fs bl) (hn:w64 n=n)
    (hG:∀(c:Cx) (F':List En) (t:Nat),Own c G F'→Tb c t fs bl→Calls prog 26 #[Q t,I n] c.w (ay c fun c' v=>v=I y∧Own c' G F')) (H:cb y=some r):
    Calls prog 8 #[v,J n] c0.w (ay c0 fun c u=>u=pV r∧Own c G F):=by
 obtain ⟨bb,t,rfl,h1,hT⟩:=hB
 refine en func8 rfl rfl <| sr <| me (al 28 [I 0,B false,I 0,I 0] O0) ?_
 rintro _ c1 k1 ⟨b,rfl,O1⟩
 refine wln <| W.seq <| sr <| va (Q bb) <| va (B false) <| wln ?_
 refine W.cond (t:=false) (by kernel_rfl) (fun h=>by cases h) (fun _=>?_)
 refine W.skip <| nrm <| sr <| va (Q bb) <| va (Q bb) <| va (Q bb) <| vx (l1 jy (mi h1)) <| va (J n) <| va (I (w64 n)) ?_
 rw [hn]
 refine cl (hG c1 _ t O1 (hT.mono k1)) ?_
 rintro _ c2 k2 ⟨rfl,O2⟩
 refine cl (gK O2 y H) ?_
 rintro _ c3 k3 ⟨O3,rfl⟩
 refine md (sA 28 [I r.Break,B r.Pict,I r.Conj,I r.East] 0 O3 ⟨rfl,rfl,rfl,rfl,trivial⟩) ?_
 rintro c4 k4 O4
 refine wln <| W.ret ?_
 have o:=O4.sD 1 []
 exact kp (c:=c4) (vs:=[I r.Break,B r.Pict,I r.Conj,I r.East]) rfl (by kernel_rfl) (by kernel_rfl) (by kernel_rfl) (O4.on 0 rfl _ rfl).1 ⟨_,c4,rfl,rfl,pt,rfl,o⟩
def ib:Option (List aa):=
 (dA).bind fun g=>(dl).bind fun p=>(ca p 16).bind fun p'=>(dq).bind fun c=>(ca c 32).bind fun c'=>(dp).bind fun e=>(ca e 128).bind fun e'=>
 (cK [g,p',c',e']).bind fun s=>(cj).bind fun y=>dg s y
theorem ol {l:List aa} (O0:Own c0 G F) (H:ib=some l) (hR:aS l=some true) (L:Nat→List aa) (X:Nat→List Int) (hL:L 0=l) (hst:∀i:Nat,i < 4352→eI (L i) (256 * i)=some (L (i+1))∧eG (L (i+1)) (256 * i)=some (X i)∧iT (X i)∧okI (wh (L (i+1)) (256 * i)).1): Calls prog 5 #[] c0.w (ay c0 fun c v=>Bk c v (pst L X 4352).fs (pst L X 4352).bl∧Own c G F):=by
 unfold ib at H;refine en func5 rfl rfl <| sr <| va (.pointer none) <| wln <| sr <| bn H fun g h1 H=>cl (jj O0 h1) ?_;rintro v1 c1 k1 ⟨_,y1,O1,rfl,q1⟩;refine bn H fun p h2 H=>cl (iJ O1 h2) ?_;rintro v2 c2 k2 ⟨_,y2,O2,rfl,q2⟩;refine bn H fun p' h3 H=>cl (eL p 16 O2 q2 h3) ?_;rintro v3 c3 k3 ⟨_,y3,O3,rfl,q3⟩;refine bn H fun c h4 H=>cl (iL O3 h4) ?_;rintro v4 c4 k4 ⟨_,y4,O4,rfl,q4⟩;refine bn H fun c' h5 H=>cl (eL c 32 O4 q4 h5) ?_;rintro v5 c5 k5 ⟨_,y5,O5,rfl,q5⟩;refine bn H fun e h6 H=>cl (iK O5 h6) ?_;rintro v6 c6 k6 ⟨_,y6,O6,rfl,q6⟩;refine bn H fun e' h7 H=>cl (eL e 128 O6 q6 h7) ?_;rintro v7 c7 k7 ⟨_,y7,O7,rfl,q7⟩;obtain ⟨d1,w1,l1,P1,S1⟩:=O7.frz 0 rfl q7;obtain ⟨d2,w2,l2,P2,S2⟩:=P1.frz 1 rfl (q5.mono (by repeat (first | assumption | refine Cx.le.trans ?_ (by assumption))));obtain ⟨d3,w3,l3,P3,S3⟩:=P2.frz 2 rfl (q3.mono (by repeat (first | assumption | refine Cx.le.trans ?_ (by assumption))));obtain ⟨d4,w4,l4,P4,S4⟩:=P3.frz 3 rfl (q1.mono (by repeat (first | assumption | refine Cx.le.trans ?_ (by assumption))));obtain ⟨a7,n7,b7,rfl⟩:=S1.form;obtain ⟨a5,n5,b5,rfl⟩:=S2.form;obtain ⟨a3,n3,b3,rfl⟩:=S3.form;obtain ⟨a1,n1,b1,rfl⟩:=S4.form;refine WL.gh (w4.trans (w3.trans (w2.trans w1))) <| me (sl (RL ab) 33 [[.slice a1 n1 b1],[.slice a3 n3 b3],[.slice a5 n5 b5],[.slice a7 n7 b7]] [g,p',c',e'] P4 ⟨⟨_,rfl,S4⟩,⟨_,rfl,S3.m⟩,⟨_,rfl,S2.m⟩,⟨_,rfl,S1.m⟩,trivial⟩) ?_;rintro v8 c8 k8 ⟨y8,O8,q8⟩;obtain ⟨d5,w5,l5,P5,S5⟩:=O8.frz 0 rfl q8;refine WL.gh w5 <| bn H fun s h9 H=>cl (jh P5 _ S5 h9) ?_;rintro v9 c9 k9 ⟨_,y9,O9,rfl,q9⟩;refine va v9 <| wln <| sr <| va v9 <| bn H fun y h10 H=>cl (gp O9 h10) ?_;rintro v10 c10 k10 ⟨_,y10,O10,rfl,q10⟩;obtain ⟨d6,w6,l6,P6,S6⟩:=O10.frz 1 rfl q9.m;refine WL.gh w6 <| cl (jf s y P6 S6 q10.m H) ?_;rintro v11 c11 k11 ⟨_,y11,O11,rfl,q11⟩;obtain ⟨d7,w7,l7,P7,S7⟩:=O11.frz 0 rfl q11;refine WL.gh w7 <| va v11 <| wln <| sr <| va v11 <| cl (my P7 S7 hR L X hL hst) ?_;rintro _ c12 k12 ⟨t,bv,bvs,rfl,O12,h12⟩;obtain ⟨d8,w8,l8,P8,S8⟩:=O12.frz 1 rfl h12;obtain ⟨d9,w9,l9,P9,I9⟩:=P8.frzB 0 rfl;refine WL.gh (w9.trans w8) <| va (.agg #[Q t]) <| me (bx 41 [Q t] P9) ?_;rintro _ c13 k13 ⟨b,rfl,O13,I13⟩;refine va (Q b) <| wln <| W.ret ?_;have T:Tb d9 t (pst L X 4352).fs (pst L X 4352).bl:=⟨fun j u hu=>by
   have hlt:=(List.getElem?_eq_some_iff.1 hu).1;have:=I9 j u (by rw [az hlt]; exact hu);simpa using this,bv,by
   have:=I9 4352 bv (by rw [aE (by rw [aD,(gw L X 4352).2]; exact aj _),aD,(gw L X 4352).2]; rfl);simpa using this,S8.m⟩
 refine r1 (v:=Q b) <| qq c13 ⟨⟨b,t,rfl,by simpa using I13 0 _ rfl,T.mono k13⟩,?_⟩;exact O13.sD 9 []
end Go.Proofs.Ytjghgpnafaoojaa
namespace Go.Proofs.Ytjghgpnafaoojaa
open Go Go.Lt
set_option maxRecDepth 10000
set_option linter.unusedVariables false
attribute [local irreducible] W WL AC
open Try
variable {c0:Cx} {G:Gm} {F:List En} {v1:Value}
theorem pc (n:Nat) (hn:n≤100000):∀k:Nat,k≤n→aU (σ:=Int) (τ:=Unit) (k+1) (fun i=>if decide (i < (n:Int))=true then some (.inl (w64 (i+1))) else some (.inr ())) ((n:Int) - k)=some ():=by
  intro k
  induction k with
  | zero=>
    intro _;simp only [aU];rw [af (by simp)];rfl
  | succ k ih=>
    intro hk;unfold aU;show (if decide ((n:Int) - ((k+1:Nat):Int) < (n:Int))=true then some (Sum.inl (w64 ((n:Int) - ((k+1:Nat):Int)+1))) else some (Sum.inr ())).bind _=some ();rw [ad (by simp; omega)];simp only [fO];rw [ax (by omega),show (n:Int) - ((k+1:Nat):Int)+1=(n:Int) - k by omega];exact ih (by omega)
theorem oP (r:av) {ρ:Operand→Value} {o:Oper} (hx:execOp ρ o=(do pure (Next.value (←(do eqGuard .neq 28 (.const .nilIface) (.const .nilIface) (pV r) (pV r); binOp .neq 28 (pV r) (pV r)))):Sem Next)) (w:World):(execOp ρ o).run prog w= .ok (.value (B false)) w:=by
  have:=kX (P:=prog) (T:=28) (xs:= #[I r.Break,B r.Pict,I r.Conj,I r.East]) (ys:= #[I r.Break,B r.Pict,I r.Conj,I r.East]) (r:=(r.Break==r.Break && (r.Pict==r.Pict && (r.Conj==r.Conj && (r.East==r.East && true))))) underlying28 (by kernel_rfl) (by kernel_rfl) (EqP.int (by kernel_rfl) underlying3 rfl rfl (EqP.bool (by kernel_rfl) underlying4 rfl rfl (EqP.int (by kernel_rfl) underlying3 rfl rfl (EqP.int (by kernel_rfl) underlying3 rfl rfl EqP.nil)))) hx w;simpa using this
theorem kC {rs:List Int} (O0:Own c0 G F) (S:Sl (RI .i32) c0 v1 rs) (hw:aY=some true) {all:List aa} (H:ib=some all) (hR:aS all=some true) (L:Nat→List aa) (X:Nat→List Int) (hL:L 0=all)
    (hst:∀i:Nat,i < 4352→eI (L i) (256 * i)=some (L (i+1))∧eG (L (i+1)) (256 * i)=some (X i)∧iT (X i)∧okI (wh (L (i+1)) (256 * i)).1)
    (hb1:20≤(pst L X 4352).bl.length) (hb2:(pst L X 4352).bl.length≤200) (h32:∀n∈rs,-2147483648≤n∧n≤2147483647)
    (hq:∀n:Int,0≤n→n≤1114111→∃(i:Nat) (x:List Int) (y:Int) (r:av),(pst L X 4352).fs[(n.tdiv 256).toNat]? = some (i:Int)∧(pst L X 4352).bl[i]? = some x∧x.length=256∧x[(n.tmod 256).toNat]? = some y∧(0≤y∧y≤65535)∧cb y=some r∧aM n=some r)
    (hr:∀n:Int,-2147483648≤n→n≤2147483647→∃r,aM n=some r):
    Calls prog 3 #[v1] c0.w (ay c0 fun c v=>v=B true∧Own c G F):=by
 generalize hbl:(pst L X 4352).bl=bl at hb1 hb2 hq
 generalize hfs:(pst L X 4352).fs=fs at hq
 refine en func3 rfl rfl <| sr <| va (B false) <| wln <| W.seq <| sr <| cl (cX O0 hw) ?_
 rintro _ c1 k1 ⟨O1,rfl⟩
 refine va (B false) <| va (B false) <| wn <| va v1 <| wn <| vx (ln 3 kh S.m) <| wn <| va (B (decide ((rs.length:Int) > 500))) <| va (B (decide ((rs.length:Int) > 500))) <| wln ?_
 refine W.cond (t:=decide ((rs.length:Int) > 500)) (by kernel_rfl) (fun d=>?_) (fun d=>?_)
 · refine sr <| cl (cX O1 hw) ?_
   rintro _ c2 k2 ⟨O2,rfl⟩
   exact va (B true) <| wln <| W.ret <| thr <| r1 (v:=B true) <| qq c2 ⟨rfl,O2⟩
 refine W.skip <| nrm <| sr <| cl (ol O1 H hR L X hL hst) ?_
 rintro v3 c3 k3 ⟨hB,O3⟩
 rw [hbl,hfs] at hB
 have hB':=hB
 obtain ⟨bb,tt,rfl,_,_⟩:=hB'
 refine va (Q bb) <| wln <| W.seq <| sr <| va (Q bb) <| va (B false) <| va (B false) <| wn <| va (Q bb) <| wn <| cl (ic O3 hB) ?_
 rintro _ c4 k4 ⟨rfl,O4⟩
 refine wn <| vb (b:=false) (cf (by omega:¬(bl.length:Int) < 20)) <| va (B false) <| va (B false) <| wn <| va (Q bb) <| wn <| cl (ic O4 (hB.mono k4)) ?_
 rintro _ c5 k5 ⟨rfl,O5⟩
 refine wn <| vb (b:=false) (cf (by omega:¬(bl.length:Int) > 200)) <| va (B false) <| wln ?_
 refine W.cond (t:=false) (by kernel_rfl) (fun h=>by cases h) (fun _=>?_)
 refine W.skip <| nrm <| W.seq <| sr <| va (I 0) <| wln ?_
 have hlen:rs.length≤500:=by rw [aZ] at d; omega
 have hc:=pc rs.length (by omega) rs.length (aj _)
 rw [Int.sub_self] at hc
 refine W.block <| lp hc (fun i=>Jn c5 fun c ls=>∃j:Nat,i=(j:Int)∧j≤rs.length∧Own c G F∧ls= [(0,v1),(3,Q bb),(4,I i)]) (fun _ x e w=>x= .exit 0∧Jn c5 (fun c ls=>Own c G F∧ls= [(0,v1)]) e w) ?_ ?_ ?_
 · rintro i y e w H ⟨c,g,ls,rfl,hle,rfl,j,rfl,hj,O,rfl⟩
   refine W.seq <| sr <| va (I (j:Int)) <| va v1 <| vx (ln 3 kh S.m) <| va (B (decide ((j:Int) < (rs.length:Int)))) <| wln <| cn H (fun d0 H=>?_) (fun d0 H=>?_)
   · rw [ag] at d0
     have hj':j < rs.length:=by omega
     obtain ⟨n,hn⟩:∃n,rs[j]? = some n:=⟨_,ai hj'⟩
     have hni:idx rs (j:Int)=some n:=by unfold idx; rw [ad (by omega)]; simpa using hn
     obtain ⟨n1,n2⟩:=h32 n (ox hn)
     obtain ⟨lc,hlc,hcell⟩:=S.at (aH hni)
     obtain rfl:=hlc
     have I0:Im c0 (sb v1) (so v1+(j:Int).toNat * (RI .i32).size) (J n):=hcell 0 _ rfl
     obtain ⟨q,hq'⟩:=hr n n1 n2
     refine W.skip <| nrm <| W.seq <| W.block <| sr <| va v1 <| va (I (j:Int)) <| vx (ix kh S.m hni) <| vx (l1 eC (mi I0)) <| cl (fk O n hq') ?_
     rintro _ c6 k6 ⟨O6,rfl⟩
     refine me (al 28 [I 0,B false,I 0,I 0] O6) ?_
     rintro _ c7 k7 ⟨b5,rfl,O7⟩
     refine md (sA 28 [I q.Break,B q.Pict,I q.Conj,I q.East] 0 O7 ⟨rfl,rfl,rfl,rfl,trivial⟩) ?_
     rintro c8 k8 O8
     obtain ⟨r',hr'⟩:∃r':av,r'=if n < 0∨n > 1114111 then ⟨0,false,0,0⟩ else q:=⟨_,rfl⟩
     refine wln <| W.seqJ (Jn c8 fun c ls=>Own c G (⟨.pointer (some ⟨b5,0,none⟩),28,[I r'.Break,B r'.Pict,I r'.Conj,I r'.East],0⟩ :: F)∧ls= [(0,v1),(3,Q bb),(4,I (j:Int)),(5,Q b5)]) ?_ ?_
     · refine sr <| va v1 <| va (I (j:Int)) <| vx (ix kh S.m hni) <| vx (l1 eC (mi I0)) ?_
       by_cases g0:n < 0
       · refine vb (b:=true) (du g0) <| va (B true) <| ps <| ps <| ps <| ps <| ps <| va (B true) <| wln <| W.cond (t:=true) (by kernel_rfl) (fun _=>?_) (fun h=>by cases h)
         refine W.region <| va (.agg #[I 0,B false,I 0,I 0]) <| md (sA 28 [I 0,B false,I 0,I 0] 0 O8 ⟨rfl,rfl,rfl,rfl,trivial⟩) ?_
         rintro c9 k9 O9
         rw [ad (.inl g0)] at hr'
         subst hr'
         exact WL.nil <| nrm (jn c9 ⟨O9,rfl⟩)
       · refine vb (b:=false) (cf g0) <| va (B false) <| wn <| va v1 <| wn <| va (I (j:Int)) <| wn <| vx (ix kh S.m hni) <| wn <| vx (l1 eC (mi I0)) <| wn ?_
         by_cases g1:n > 1114111
         · refine vb (b:=true) (du g1) <| va (B true) <| wln <| W.cond (t:=true) (by kernel_rfl) (fun _=>?_) (fun h=>by cases h)
           refine W.region <| va (.agg #[I 0,B false,I 0,I 0]) <| md (sA 28 [I 0,B false,I 0,I 0] 0 O8 ⟨rfl,rfl,rfl,rfl,trivial⟩) ?_
           rintro c9 k9 O9
           rw [ad (.inr g1)] at hr'
           subst hr'
           exact WL.nil <| nrm (jn c9 ⟨O9,rfl⟩)
         · refine vb (b:=false) (cf g1) <| va (B false) <| wln <| W.cond (t:=false) (by kernel_rfl) (fun h=>by cases h) (fun _=>?_)
           rw [af (by omega)] at hr'
           subst hr'
           exact W.skip <| nrm (jn c8 ⟨O8,rfl⟩)
     rintro e9 w9 ⟨c9,g9,ls9,rfl,k9,rfl,O9,rfl⟩
     refine W.seq <| rD [] (Kp G0 [⟨.pointer (some ⟨b5,0,none⟩),28,[I r'.Break,B r'.Pict,I r'.Conj,I r'.East],0⟩]) O9 ?_
     intro c10 k10 O10
     have p10:Kp G0 [⟨.pointer (some ⟨b5,0,none⟩),28,[I r'.Break,B r'.Pict,I r'.Conj,I r'.East],0⟩] c10:=Kp.cons (O10.on 0 rfl) Kp.nil0
     have hcall:Calls prog 8 #[Q bb,J n] c10.w (ay c10 fun c u=>u=pV r'∧Own c G (⟨.pointer (some ⟨b5,0,none⟩),28,[I r'.Break,B r'.Pict,I r'.Conj,I r'.East],0⟩ :: F)):=by
       by_cases g0:n < 0∨n > 1114111
       · rw [ad g0] at hr'
         subst hr'
         exact mK (y:=0) O10 (hB.mono (by repeat (first | assumption | refine Cx.le.trans ?_ (by assumption)))) (ax (by omega)) (fun c F' t O _=>np O g0) rfl
       · rw [af g0] at hr'
         subst hr'
         obtain ⟨i',x,y',r,q1,q2,q3,q4,q5,q6,q7⟩:=hq n (by omega) (by omega)
         rw [hq'] at q7
         cases q7
         exact mK (y:=y') O10 (hB.mono (by repeat (first | assumption | refine Cx.le.trans ?_ (by assumption)))) (ax (by omega)) (fun c F' t O T=>om O T (by omega) (by omega) q1 q2 q3 q4 q5) q6
     refine ta 0 (Q bb) <| ta 1 v1 <| ta 2 (I (j:Int)) <| tx 3 (fun c' k=>ix kh (S.m (by repeat (first | assumption | refine Cx.le.trans ?_ (by assumption)))) hni) <| tx 4 (fun c' k=>l1 eC (mi I0 (by repeat (first | assumption | refine Cx.le.trans ?_ (by assumption))))) <| tkx 6 p10 (fun c' _ k=>leN 28 0 [I r'.Break,B r'.Pict,I r'.Conj,I r'.East] (k.on 0 rfl)) <| o1 5 <| gc 5 hcall ?_
     rintro _ c11 k11 ⟨rfl,O11⟩
     refine ⟨.inr (Kp.cons (O11.on 0 rfl) Kp.nil0),AC.take 7 (B false) rfl (by kernel_rfl) (by kernel_rfl) (fun c' _=>oP r' (by kernel_rfl) _) <| dn <| nrm ?_⟩
     refine W.cond (t:=false) (by kernel_rfl) (fun h=>by cases h) (fun _=>?_)
     refine W.skip <| bkn <| nrm <| W.region <| va (I (j:Int)) <| va (I (w64 ((j:Int)+1))) <| va (I (w64 ((j:Int)+1))) <| WL.nil ?_
     obtain rfl:=si H
     exact ⟨_,rfl,c11,_,_,rfl,pt,us,j+1,by rw [ax (by omega)]; omega,by omega,O11.tail,rfl⟩
   · refine W.exit <| thx ?_
     obtain rfl:=si H
     exact ⟨_,rfl,rfl,c,_,_,rfl,pt,us,O,rfl⟩
 · exact jn c5 ⟨0,rfl,by omega,O5,rfl⟩
 rintro _ e w ⟨rfl,c,g,ls,rfl,hle,rfl,O,rfl⟩
 refine bke <| nrm <| sr <| va (.pointer none) <| wln <| sr <| va (.pointer none) <| cl (nq O 65) ?_
 rintro _ c6 k6 ⟨rfl,O6⟩
 refine va (pV ⟨0,false,0,0⟩) <| va (B true) <| va (B true) <| wn <| va (.pointer none) <| wn <| cl (jI O6) ?_
 rintro _ c7 k7 ⟨rfl,O7⟩
 refine wn <| va (B true) <| va (B true) <| va (B true) <| wln <| W.ret ?_
 exact r1 (v:=B true) <| qq c7 ⟨rfl,O7⟩
end Go.Proofs.Ytjghgpnafaoojaa
namespace Go.Lt
open Go.ChangeShapes Go.WideShapes Go.RowKit
def C0 (w:World):Cx:=⟨w,fun _ _=>False,fun _ _=>none⟩
theorem oN (w:World):Own (C0 w) (fun _ _=>[]) []:=
 ⟨⟨fun i e h=>by cases i <;> simp [at_] at h,fun i j e e' h=>by cases i <;> simp [at_] at h⟩,fun _ _ _=>rfl⟩
theorem im0 {w:World} {b o:Nat} {v:Value} (h:w.cell? ⟨b,o,none⟩=some v):Im (C0 w) b o v:=by
 refine ⟨?_,id,h⟩;unfold World.cell? at h;split at h
 ·rename_i hh; exact (Array.getElem?_eq_some_iff.1 hh).1
 ·cases h
theorem oC {n:Int} (h:(Lit.int .i32 n).wf=true): -2147483648≤n∧n≤2147483647:=by
 simp only [Lit.wf,IntKind.min,IntKind.max,IntKind.signed,IntKind.bits,ac,ag,ne] at h;omega
def Rd (P:Program) (t:TypeId) {α:Type} (R:Rp α) (K:α→Prop):Prop:=
 P.cellsOf t=R.size∧∀{H:Type} {enc:TypeId×Value→H} {w:World} {sp:Nat→Bool} {held:Bool} {fuel:Nat} {cs:List Value} {x:DataW H×List MemPlace},
  DataW.trod enc P w 0 sp held fuel t cs=some x→∃y,R.cells (C0 w) cs y∧K y
theorem Rd.int {P:Program} {t:TypeId} {k:IntKind} (ht:P.underlying t=some (.int k)) (hc:P.cellsOf t=1):Rd P t (RI k) (fun n=>(Lit.int k n).wf=true):=
 ⟨hc,fun h=>by obtain ⟨n,rfl,_,hw⟩:=DataW.trod_int ht h; exact ⟨n,rfl,hw⟩⟩
theorem nR {α:Type} {Q:Nat→α→Prop}:∀n,(∀i,i < n→∃x,Q i x)→∃xs:List α,xs.length=n∧∀i x,xs[i]? = some x→Q i x
 | 0,_=>⟨[],rfl,fun i x h=>by simp at h⟩
 | n+1,h=>by
  obtain ⟨xs,hl,hx⟩:=nR n fun i hi=>h i (Nat.lt_succ_of_lt hi);obtain ⟨y,hy⟩:=h n (pE n);refine ⟨xs++ [y],by simp [hl],fun i x hi=>?_⟩;rw [List.getElem?_append] at hi;split at hi
  ·exact hx i x hi
  ·rename_i hn
   have h1:=(List.getElem?_eq_some_iff.1 hi).1;simp only [an,aC] at h1;obtain rfl:i=n:=by omega
   rw [hl,jo] at hi;cases hi;exact hy
theorem jd {w:World} {a:Addr} {n:Nat} {cs:List Value} (h:w.cells? 0 a n=some cs):cs.length=n∧∀j u,cs[j]? = some u→w.cell? (a.add j)=some u:=by
 unfold World.cells? at h;rw [ad (aG _)] at h;have hl:cs.length=n:=by simpa using mapM_some_length h
 refine ⟨hl,fun j u hu=>?_⟩;have hjn:j < n:=by have:=(List.getElem?_eq_some_iff.1 hu).1; omega
 have hj:=mapM_some_get h j j (gZ hjn);rw [hu] at hj;exact hj
theorem Rd.slice {P:Program} {t e:TypeId} {α:Type} {R:Rp α} {K:α→Prop} (ht:P.underlying t=some (.slice e)) (hc:P.cellsOf t=1) (h0:0 < R.size) (h:Rd P e R K):Rd P t (RL R) (fun xs=>xs.length≤maxLen∧∀x∈xs,K x):=by
 refine ⟨hc,fun {H enc w sp held fuel cs x} hd=>?_⟩;rcases DataW.trod_slice ht hd with ⟨rfl,_⟩ | ⟨a,len,cap,elems,rest,n,_,rfl,_,_,hl,hm,hlen,hel,_,_⟩
 ·exact ⟨[],⟨_,rfl,Sl.nl R _⟩,aG _,fun x hx=>by cases hx⟩
 ·obtain ⟨b,o,s⟩:=a;have key:∀i,i < len→∃x,K x∧∃b' off l,(some ⟨b,o,s⟩:Option Addr)=some ⟨b',off,none⟩∧R.cells (C0 w) l x∧∀j u,l[j]? = some u→Im (C0 w) b' (off+i * R.size+j) u:=by
   intro i hi;have hs:s=none:=by
    have hE:=hel 0 (by omega);rw [ai (show 0 < elems.length by omega),mL] at hE;obtain ⟨cs,hcs,_⟩:=hE;obtain ⟨c1,c2⟩:=jd hcs;have hp:0 < cs.length:=by rw [c1,h.1]; exact h0
    have:=World.cell?_spot (c2 0 _ (ai hp));simpa [Addr.add] using this
   subst hs;have hE:=hel i hi;rw [ai (show i < elems.length by omega),mL] at hE;obtain ⟨cs,hcs,hr⟩:=hE;obtain ⟨c1,c2⟩:=jd hcs;obtain ⟨x,hx,hk⟩:=h.2 hr;refine ⟨x,hk,b,o,cs,rfl,hx,fun j u hu=>im0 ?_⟩;have:=c2 j u hu;rw [mM,mM,h.1] at this;exact this
  obtain ⟨xs,hxl,hxs⟩:=nR len key;subst hxl;refine ⟨xs,⟨_,rfl,some ⟨b,o,s⟩,cap,rfl,hl,hm,fun i x hx=>(hxs i x hx).2⟩,bp hl hm,fun x hx=>?_⟩;obtain ⟨i,hi⟩:=List.mem_iff_getElem?.1 hx;exact (hxs i x hi).1
section
variable {P:Program} {H:Type} {enc:TypeId×Value→H} {w:World} {sp:Nat→Bool} {held:Bool} {t:TypeId} {v:Value} {d:DataW H} {p:List MemPlace}
theorem kE {e:TypeId} {α:Type} {R:Rp α} {K:List α→Prop} (ht:P.underlying t=some (.slice e)) (h:Rd P t (RL R) K) (hok:Value.okWide P w .any 0 t v) (hd:DataW.Trod enc P w 0 sp held t v d p):
  ∃xs,Sl R (C0 w) v xs∧K xs:=by
 obtain ⟨fuel,hd⟩:=hd;obtain ⟨xs,⟨u,hu,hs⟩,hk⟩:=h.2 hd;have:v.cells= #[v]:=by
  unfold Value.okWide at hok;simp only [ht] at hok;unfold Cell.okWide at hok
  cases v <;> simp [ht,Cell.ok] at hok⊢
  all_goals rfl
 rw [this] at hu;cases hu;exact ⟨xs,hs,hk⟩
end
theorem fy {H:Type} {enc:TypeId×Value→H} {P:Program} (hl:laidOutB P=true) {w w':World} (h:∀k,k < w.heap.size→w'.heap[k]? = w.heap[k]?) {sp:Nat→Bool}:
  ∀{ts:List TypeId} {vs:List Value} {ds:List (DataW H)} {ps:List MemPlace},(ts.all fun t=>P.readableRec t && decide (t < P.types.size))=true→(∀x∈ps,x.block < w.heap.size)→(∀x∈ps,sp x.block=true)→
  DataW.TrodAll enc P w 0 (fun _=>true) true ts vs ds ps→DataW.TrodAll enc P w' 0 sp true ts vs ds ps
 | [],[],[],_,_,_,_,hA=>hA
 | [],_ :: _,_,_,_,_,_,hA=>hA.elim
 | [],[],_ :: _,_,_,_,_,hA=>hA.elim
 | _ :: _,[],_,_,_,_,_,hA=>hA.elim
 | _ :: _,_ :: _,[],_,_,_,_,hA=>hA.elim
 | t :: ts,v :: vs,d :: ds,ps,hr,hlt,hsp,hA=>by
  obtain ⟨p,q,h1,h2,rfl⟩:=hA;simp only [List.all_cons,ac,ag] at hr;refine ⟨p,q,WideElems.Trod_stays hl hr.1.1 hr.1.2 h1 (fun x hx=>?_) (fun x hx=>hsp x (cV _ hx)),fy hl h hr.2 (fun x hx=>hlt x (gr _ hx)) (fun x hx=>hsp x (gr _ hx)) h2,rfl⟩;have hb:=hlt x (cV _ hx)
  cases x with
  | cell b o=>exact cU (w:=w) (h b hb)
  | map b=>exact h b hb
theorem kt {H:Type} {enc:TypeId×Value→H} {P:Program} {f:Func} {s:ChangeSpec} {apart fresh handsOn again:Bool} {w w':World} {args:Array Value} {v:Value} {ds gs:List (DataW H)} {ps before:List MemPlace}
  (hW:DataW.Whole enc P f.params.toList s.vars apart w args.toList ds gs before) (he:before=ps++ [])
  (hr:∀(b:Nat) (sp:Nat→Bool) (hd:Bool),DataW.TrodAll enc P w' b sp hd f.resultTypes.toList (v.resultList f.resultTypes.size) (s.fn H (ds++gs)).results [])
  (ha:∀sp:Nat→Bool,(∀x∈ps,sp x.block=true)→DataW.TrodAll enc P w' 0 sp true f.params.toList args.toList (s.fn H (ds++gs)).args ps)
  (hv:∀sp:Nat→Bool,DataW.TrodVars enc P w' sp s.vars (s.fn H (ds++gs)).vars [])
  (hg:Gr w w') (ho:∀(j:Nat) (t:TypeId) (r:Value),f.resultTypes[j]? = some t→(v.resultList f.resultTypes.size)[j]? = some r→Value.okWide P w' .any 0 t r):s.post enc P f apart fresh handsOn again w args v w':=by
 rw [kI] at he;subst he;have hlt:∀x∈before,x.block < w.heap.size:=fun x hx=>hW.lt x hx;refine ⟨ds,gs,before,[],before,[],hW,hr _ _ _,ha _ (fun x hx=>du (hlt x hx)),hv _,pk (fun x hx=>⟨hx,.inr (.inl hx)⟩) (hg.frame (· ∈before)),fun _=>?_⟩;obtain ⟨_,_,_,_,_,hz,hn⟩:=hW;refine ⟨ho,_,_,([]++before)++ [],⟨[]++before,[],trodAll_append (ha _ fun _ _=>rfl) (hr _ _ _),hv _,rfl,fun b off hb=>?_,fun e=>?_⟩,fun x hx _=>by simpa using hx⟩
 ·have hb':MemPlace.cell b off∈before:=by simpa using hb
  have:=hlt _ hb';rw [hg.2.1 ⟨b,off,none⟩ this];exact hz b off (by simpa using hb')
 ·simpa using hn e
end Go.Lt
namespace Go.Proofs.Ytjghgpnafaoojaa
open Go Go.Lt
set_option linter.unusedVariables false
def oz (n:Int):Prop:=(Lit.int .i32 n).wf=true
theorem pn:Rd Try.prog 21 (RI .i32) oz:=Rd.int Try.underlying21 (by kernel_rfl)
def pl (xs:List Int):Prop:=xs.length≤maxLen∧∀x∈xs,oz x
theorem pm:Rd Try.prog 22 (RL (RI .i32)) pl:=Rd.slice Try.underlying22 (by kernel_rfl) (by decide) pn
end Go.Proofs.Ytjghgpnafaoojaa
namespace Go.Lt
theorem fU {σ τ β:Type} {step:σ→Option (σ ⊕ τ)} {fuel:Nat} {s:σ} {k:τ→Option β} {p:β→Prop} (Inv:σ→Prop) (μ:σ→Nat) (post:τ→Prop)
  (h:∀s,Inv s→(∃s',step s=some (.inl s')∧Inv s'∧μ s' < μ s)∨∃t,step s=some (.inr t)∧post t) (h0:Inv s) (hf:μ s < fuel) (hk:∀t,post t→∃r,k t=some r∧p r):∃r,(aU fuel step s).bind k=some r∧p r:=by
 obtain ⟨t,e1,e2⟩:=fG Inv μ post h fuel s h0 hf;rw [e1];exact hk t e2
theorem mz {α σ τ:Type} {x:Option α} {k:α→Option (σ ⊕ τ)} {A:σ→Prop} {B:τ→Prop} (post:α→Prop) (hx:∃t,x=some t∧post t)
  (hk:∀t,post t→(∃s',k t=some (.inl s')∧A s')∨∃u,k t=some (.inr u)∧B u):(∃s',x.bind k=some (.inl s')∧A s')∨∃t,x.bind k=some (.inr t)∧B t:=by
 obtain ⟨t,e1,e2⟩:=hx;rw [e1];exact hk t e2
variable {α:Type} {lo hi:α→Int}
def fA (lo hi:α→Int):List α→Bool
 | []=>true
 | x :: l=>decide (lo x≤hi x) && (match l with | []=>true | y :: _=>decide (hi x < lo y)) && fA lo hi l
theorem io:∀{T:List α},fA lo hi T=true→∀i (h:i < T.length),lo T[i]≤hi T[i]
 | [],_,i,h=>by simp at h
 | x :: l,hs,i,h=>by
  simp only [fA,ac,ag] at hs
  cases i with
  | zero=>exact hs.1.1
  | succ i=>exact io hs.2 i (by simpa using h)
theorem fz:∀{T:List α},fA lo hi T=true→∀i j (h:j < T.length),(hij:i < j)→hi (T[i]'(by omega)) < lo T[j]
 | [],_,i,j,h,_=>by simp at h
 | x :: l,hs,i,j,h,hij=>by
  have hs0:=hs;simp only [fA,ac,ag] at hs
  cases j with
  | zero=>omega
  | succ j=>
   have hj:j < l.length:=by simpa using h
   cases i with
   | succ i=>exact fz hs.2 i j hj (by omega)
   | zero=>
    cases l with
    | nil=>simp at hj
    | cons y l'=>
     have h1:hi x < lo y:=by simpa using hs.1.2
     cases j with
     | zero=>exact h1
     | succ j=>
      have h2:=fz hs.2 0 (j+1) hj (by omega);have h3:=io hs.2 0 (by simp);simp only [nC] at h2 h3;simp only [nC,List.getElem_cons_succ] at h2⊢;omega
def onn (lo hi:α→Int) (r:Int) (x:α):Bool:=decide (lo x≤r) && decide (r≤hi x)
theorem eW {r:Int} {x:α}:onn lo hi r x=true↔lo x≤r∧r≤hi x:=by simp [onn]
theorem ll {T:List α} (hs:fA lo hi T=true) {r:Int} {i j:Nat} (hi':i < T.length) (hj:j < T.length) (h1:onn lo hi r T[i]=true) (h2:onn lo hi r T[j]=true):i=j:=by
 rw [eW] at h1 h2;rcases pv i j with h | h | h
 ·have:=fz hs i j hj h;omega
 ·exact h
 ·have:=fz hs j i hi' h;omega
def fnd (lo hi:α→Int) (T:List α) (r:Int):Option α:=T.find? (onn lo hi r)
theorem nh {T:List α} (hs:fA lo hi T=true) {r:Int} {x:α} (hx:x∈T) (h:onn lo hi r x=true):fnd lo hi T r=some x:=by
 unfold fnd;obtain ⟨i,hi',rfl⟩:=List.mem_iff_getElem.1 hx;rw [List.find?_eq_some_iff_getElem];refine ⟨h,i,hi',rfl,fun j hj=>?_⟩
 cases hb:onn lo hi r (T[j]'(by omega)) with
 | false=>rfl
 | true=>exact absurd (ll hs (by omega) hi' hb h) (by omega)
theorem iC {T:List α} {r:Int} {x:α} (h:fnd lo hi T r=some x):x∈T∧onn lo hi r x=true:=⟨List.mem_of_find?_eq_some h,List.find?_some h⟩
theorem oQ {a b:Nat} (h:a+b≤4611686018427387904):w64 ((IntKind.u64.wrap (w64 ((a:Int)+(b:Int)))).fdiv (2 ^ 1))=(((a+b) / 2:Nat):Int):=by
 have e0:w64 ((a:Int)+(b:Int))=((a+b:Nat):Int):=by rw [ax (by omega)]; simp
 have h1:IntKind.u64.wrap ((a+b:Nat):Int)=((a+b:Nat):Int):=by
  have:((a+b:Nat):Int) % 18446744073709551616=((a+b:Nat):Int):=pC (by omega) (by omega);simpa [IntKind.wrap,IntKind.bits,IntKind.signed] using this
 have e2:(((a+b:Nat):Int)).fdiv (2 ^ 1)=(((a+b) / 2:Nat):Int):=by
  rw [Int.fdiv_eq_ediv_of_nonneg _ (by decide)];omega
 rw [e0,h1,e2,ax (by omega)]
theorem kj {T:List α} (hs:fA lo hi T=true) (hl:T.length≤1000000) (r:Int) {step:Int×Int→Option (Int×Int ⊕ Int)}
  (h1:∀a b:Nat,(hab:a < b)→(hb:b≤T.length)→step ((a:Int),(b:Int))=some (.inl (if r≤hi (T[(a+b) / 2]'(by omega)) then ((a:Int),(((a+b) / 2:Nat):Int)) else (((((a+b) / 2+1:Nat):Int)),(b:Int)))))
  (h2:∀a:Nat,step ((a:Int),(a:Int))=some (.inr (a:Int))):
  ∃i:Nat,aU (((T.length:Int) - 0).toNat+1) step (0,(T.length:Int))=some (i:Int)∧i≤T.length∧(∀j (h:j < T.length),j < i→hi T[j] < r)∧(∀j (h:j < T.length),i≤j→r≤hi T[j]):=by
 have hmono:∀j k (h:k < T.length),(hjk:j≤k)→hi (T[j]'(by omega))≤hi T[k]:=fun j k h hjk=>by
  rcases aN j k with hlt | hge
  ·have e1:=fz hs j k h hlt;have e2:=io hs k h;omega
  ·obtain rfl:j=k:=by omega
   exact fg _
 obtain ⟨t,e1,i,e2,e3,e4,e5⟩:=fG (step:=step) (fun q=>∃a b:Nat,q=((a:Int),(b:Int))∧a≤b∧b≤T.length∧(∀j (h:j < T.length),j < a→hi T[j] < r)∧(∀j (h:j < T.length),b≤j→r≤hi T[j]))
  (fun q=>(q.2 - q.1).toNat) (fun t=>∃i:Nat,t=(i:Int)∧i≤T.length∧(∀j (h:j < T.length),j < i→hi T[j] < r)∧(∀j (h:j < T.length),i≤j→r≤hi T[j]))
  (by
   rintro q ⟨a,b,rfl,hab,hb,c1,c2⟩;rcases aN a b with hlt | hge
   ·left
    rw [h1 a b hlt hb];refine ⟨_,rfl,?_⟩;by_cases hr:r≤hi (T[(a+b) / 2]'(by omega))
    ·rw [ad hr];exact ⟨⟨a,(a+b) / 2,rfl,by omega,by omega,c1,fun j h hj=>jr hr (hmono _ _ h hj)⟩,by simp only; omega⟩
    ·rw [af hr];refine ⟨⟨(a+b) / 2+1,b,rfl,by omega,hb,fun j h hj=>?_,c2⟩,by simp only; omega⟩;have:=hmono j ((a+b) / 2) (by omega) (by omega);omega
   ·right
    obtain rfl:a=b:=by omega
    exact ⟨_,h2 a,a,rfl,hb,c1,c2⟩)
  (((T.length:Int) - 0).toNat+1) (0,(T.length:Int)) ⟨0,T.length,rfl,aG _,aj _,fun j h hj=>by omega,fun j h hj=>by omega⟩ (by simp only; omega)
 subst e2;exact ⟨i,e1,e3,e4,e5⟩
def nU (v:Option Int):Int ⊕ Unit:=match v with | some x=> .inl x | none=> .inr ()
theorem lv {n:Nat} (hn:n≤1000000) {v:Option Int} {step:Int→Option (Int ⊕ (Int ⊕ Unit))}
  (h1:∀k:Nat,k < n→step (k:Int)=if v=some ((k:Int)+1) then some (.inr (.inl ((k:Int)+1))) else some (.inl ((k+1:Nat):Int)))
  (h2:step (n:Int)=some (.inr (.inr ()))) (hv:∀x,v=some x→1≤x∧x≤n):aU (((n:Int) - 0).toNat+1) step 0=some (nU v):=by
 refine jW (fun s=>∃k:Nat,s=(k:Int)∧k≤n∧∀j:Nat,j < k→v≠some ((j:Int)+1)) (fun s=>((n:Int) - s).toNat) ?_ ⟨0,rfl,aG _,fun j hj=>by omega⟩ (by omega);rintro s ⟨k,rfl,hk,hno⟩;rcases aN k n with hlt | hge
 ·rw [h1 k hlt];by_cases he:v=some ((k:Int)+1)
  ·rw [ad he]
   right
   subst he;rfl
  ·rw [af he];refine .inl ⟨_,rfl,⟨k+1,rfl,by omega,fun j hj=>?_⟩,by omega⟩;by_cases hjk:j=k
   ·subst hjk; exact he
   ·exact hno j (by omega)
 ·obtain rfl:k=n:=by omega
  rw [h2]
  right
  cases v with
  | none=>rfl
  | some x=>
   obtain ⟨e1,e2⟩:=hv x rfl;exact absurd (show some x=some (((x - 1).toNat:Int)+1) by congr 1; omega) (hno (x - 1).toNat (by omega))
theorem fT {n fuel:Nat} {β:Type} {kk:Int ⊕ Unit→Option β} {rr:Option β} (hn:n≤1000000) {v:Option Int} {step:Int→Option (Int ⊕ (Int ⊕ Unit))}
  (h1:∀k:Nat,k < n→step (k:Int)=if v=some ((k:Int)+1) then some (.inr (.inl ((k:Int)+1))) else some (.inl ((k+1:Nat):Int)))
  (h2:step (n:Int)=some (.inr (.inr ()))) (hv:∀x,v=some x→1≤x∧x≤n) (hf:fuel=((n:Int) - 0).toNat+1) (hk:kk (nU v)=rr):(aU fuel step 0).bind kk=rr:=by
 subst hf;rw [lv hn h1 h2 hv];exact hk
def lk (T:List (Int×Int×Int)) (r:Int):Option Int:=(fnd (fun x=>x.1) (fun x=>x.2.1) T r).map (fun x=>x.2.2)
def gW (l:List (Int×Int)) (r:Int):Bool:=l.any (onn (fun x=>x.1) (fun x=>x.2) r)
def ofv (T:List (Int×Int×Int)) (v:Int):List (Int×Int):=(T.filter (fun x=>x.2.2==v)).map (fun x=>(x.1,x.2.1))
theorem iz {T:List (Int×Int×Int)} (hs:fA (fun x=>x.1) (fun x=>x.2.1) T=true) (v r:Int):gW (ofv T v) r=decide (lk T r=some v):=by
 unfold gW ofv lk;rw [List.any_map,List.any_filter]
 cases hf:fnd (fun x=>x.1) (fun x=>x.2.1) T r with
 | none=>
  simp only [Option.map_none,reduceCtorEq,decide_false];rw [pA];intro x hx;unfold fnd at hf;have:=List.find?_eq_none.1 hf x hx;simp only [Function.comp,ac,not_and];intro _;simpa [onn] using this
 | some x=>
  obtain ⟨h1,h2⟩:=iC hf;simp only [kH,aq];by_cases hv:x.2.2=v
  ·rw [du hv,jL];exact ⟨x,h1,by simp only [Function.comp,ac,ga]; exact ⟨hv,h2⟩⟩
  ·rw [cf hv,pA];intro y hy;simp only [Function.comp,ac,ga,not_and];intro e
   cases hb:onn (fun x:Int×Int=>x.1) (fun x=>x.2) r (y.1,y.2.1) with
   | false=>simp
   | true=>
    have:=nh hs hy (show onn (fun x:Int×Int×Int=>x.1) (fun x=>x.2.1) r y=true from hb);rw [hf] at this;cases this;exact absurd e hv
theorem hH {T:List (Int×Int×Int)} {p:Int→Bool} (h:T.all (fun x=>p x.2.2)=true) {r v:Int} (hv:lk T r=some v):p v=true:=by
 unfold lk at hv;obtain ⟨x,hx,rfl⟩:=Option.map_eq_some_iff.1 hv;exact List.all_eq_true.1 h x (iC hx).1
end Go.Lt
namespace Go.Proofs.Ytjghgpnafaoojaa
open Go Go.Lt
set_option maxRecDepth 100000
def gT:List (Int×Int×Int):=match dh with | some t=>t | none=>[]
def pT:List (Int×Int):=match cP with | some t=>t | none=>[]
def cT:List (Int×Int×Int):=match cR with | some t=>t | none=>[]
def eT:List (Int×Int×Int):=match cQ with | some t=>t | none=>[]
theorem oR:fA (fun x=>x.1) (fun x=>x.2.1) gT=true:=by kernel_rfl
theorem pd:fA (fun x=>x.1) (fun x=>x.2.1) cT=true:=by kernel_rfl
theorem oY:fA (fun x=>x.1) (fun x=>x.2.1) eT=true:=by kernel_rfl
theorem oS:gT.length≤1000000:=by
 have:Nat.ble gT.length 1000000=true:=by kernel_rfl
 exact aw this
theorem oK:pT.length≤1000000:=by
 have:Nat.ble pT.length 1000000=true:=by kernel_rfl
 exact aw this
theorem pe:cT.length≤1000000:=by
 have:Nat.ble cT.length 1000000=true:=by kernel_rfl
 exact aw this
theorem oZ:eT.length≤1000000:=by
 have:Nat.ble eT.length 1000000=true:=by kernel_rfl
 exact aw this
theorem n9:gT.all (fun x=>decide (1≤x.2.2) && decide (x.2.2≤8))=true:=by kernel_rfl
theorem oo:cT.all (fun x=>decide (1≤x.2.2) && decide (x.2.2≤3))=true:=by kernel_rfl
theorem oe:eT.all (fun x=>decide (1≤x.2.2) && decide (x.2.2≤3))=true:=by kernel_rfl
def hcl (r:Int):Int:=
 if (4352≤r∧r≤4447)∨(43360≤r∧r≤43388) then 9
 else if (4448≤r∧r≤4519)∨(55216≤r∧r≤55238) then 10
 else if (4520≤r∧r≤4607)∨(55243≤r∧r≤55291) then 11
 else if r < 44032∨55203 < r then 0
 else if (r - 44032) % 28=0 then 12 else 13
def r32 (r:Int):Prop:= -2147483648≤r∧r≤2147483647
theorem r32.w {r:Int} (h:r32 r):w64 r=r:=by unfold r32 at h; exact ax (by omega)
theorem dX {α:Type} {b:Bool} {p:Prop} [Decidable p] (h:b=true↔p) (x y:α):(if b=true then x else y)=if p then x else y:=by
 by_cases hp:p
 ·rw [ad hp,ad (h.2 hp)]
 ·rw [af hp,af (fun e=>hp (h.1 e))]
theorem fC {α:Type} {p:Prop} [Decidable p] (x y:α):(if p then some x else some y)=some (if p then x else y):=by split <;> rfl
theorem iB (r:Int) (h:r32 r):bW r=some (hcl r):=by
 unfold r32 at h;unfold bW co bm hcl;simp only [fa,bsm,dL];have hw:44032≤r→r≤55203→(w32 (r - 44032)).tmod 28=(r - 44032) % 28:=fun h1 h2=>by
  rw [kM (by omega),bY (by omega)]
 rw [dX (p:=(4352≤r∧r≤4447)∨(43360≤r∧r≤43388)) (by simp),dX (p:=(4448≤r∧r≤4519)∨(55216≤r∧r≤55238)) (by simp),dX (p:=(4520≤r∧r≤4607)∨(55243≤r∧r≤55291)) (by simp)];rw [dX (p:=r < 44032∨55203 < r) (by simp)];by_cases hs:r < 44032∨55203 < r
 ·simp only [ad hs,fC]
 ·simp only [af hs];rw [hw (by omega) (by omega)];rw [dX (p:=(r - 44032) % 28=0) (by simp)];simp only [fC]
theorem kq (r:Int) (h1:44032≤r) (h2:r≤55203):∃x,aF r=some x∧(x.1≠0∧(x.2.2=0↔(r - 44032) % 28=0)):=by
 have hw:w64 r=r:=ax (by omega);unfold aF;simp only [hw,dL,bsm];rw [af (by simp; omega)];refine fU (fun q=>∃i:Nat,i≤19∧q=((44032+588 * (i:Int),4352+(i:Int)):Int×Int)∧44032+588 * (i:Int)≤r) (fun q=>(4371 - q.2).toNat)
  (fun t=>∃x:Int×Int×Int,t= .inl x∧(x.1≠0∧(x.2.2=0↔(r - 44032) % 28=0))) ?_ ⟨0,by omega,by simp,by omega⟩ (by simp only; omega) ?_
 ·rintro q ⟨i,hi,rfl,hir⟩;by_cases hi2:i=19
  ·subst hi2;omega
  dsimp only
  rw [ad (by simp; omega)];refine mz (fun t=>(∃x:Int×Int×Int,t= .inl x∧(x.1≠0∧(x.2.2=0↔(r - 44032) % 28=0)))∨(t= .inr (44032+588 * ((i+1:Nat):Int))∧44032+588 * ((i+1:Nat):Int)≤r))
   (fG (fun q=>∃j:Nat,j≤21∧q=((44032+588 * (i:Int)+28 * (j:Int),4449+(j:Int)):Int×Int)∧44032+588 * (i:Int)+28 * (j:Int)≤r) (fun q=>(4470 - q.2).toNat) _ ?_ _ _ ⟨0,by omega,by simp,by omega⟩ (by simp only; omega)) ?_
  ·rintro q ⟨j,hj,rfl,hjr⟩
   dsimp only
   by_cases hj2:j=21
   ·subst hj2
    right
    refine ⟨.inr (44032+588 * ((i+1:Nat):Int)),?_,.inr ⟨rfl,by omega⟩⟩;rw [af (by simp),show (44032+588 * (i:Int)+28 * ((21:Nat):Int))=44032+588 * ((i+1:Nat):Int) by omega]
   ·rw [ad (by simp; omega),ax (by omega)];by_cases hlt:r < 44032+588 * (i:Int)+28 * (j:Int)+28
    ·right
     rw [ad (by simpa using hlt)];rw [show w64 (4519+r)=4519+r from ax (by omega),ax (by omega)];by_cases hz:4519+r - (44032+588 * (i:Int)+28 * (j:Int))=4519
     ·rw [ad (by simpa using hz)];exact ⟨_,rfl,.inl ⟨_,rfl,by show 4352+(i:Int)≠0; omega,by show (0:Int)=0↔_; simp; omega⟩⟩
     ·rw [af (by simpa using hz)];exact ⟨_,rfl,.inl ⟨_,rfl,by show 4352+(i:Int)≠0; omega,by show 4519+r - (44032+588 * (i:Int)+28 * (j:Int))=0↔_; omega⟩⟩
    ·left
     rw [af (by simpa using hlt),ax (by omega)];exact ⟨_,rfl,⟨j+1,by omega,by simp only [ck]; omega,by omega⟩,by omega⟩
  ·rintro t (⟨x,rfl,hx⟩ | ⟨rfl,hx⟩)
   ·exact .inr ⟨_,rfl,x,rfl,hx⟩
   ·refine .inl ⟨_,rfl,⟨i+1,by omega,?_,by omega⟩,?_⟩
    ·rw [ax (by omega)];exact Prod.ext rfl (by show 4352+(i:Int)+1=4352+((i+1:Nat):Int); omega)
    ·rw [ax (by omega)];omega
 ·rintro t ⟨x,rfl,hx⟩;exact ⟨x,rfl,hx⟩
theorem kr (r:Int) (h:r32 r):aK r=some (hcl r):=by
 have hw:=h.w;unfold r32 at h;unfold aK hcl;simp only [hw,fa,bsm,dL];rw [dX (p:=(4352≤r∧r≤4447)∨(43360≤r∧r≤43388)) (by simp),dX (p:=(4448≤r∧r≤4519)∨(55216≤r∧r≤55238)) (by simp),dX (p:=(4520≤r∧r≤4607)∨(55243≤r∧r≤55291)) (by simp)];by_cases hs:r < 44032∨55203 < r
 ·have:aF r=some (0,0,0):=by
   unfold aF;simp only [hw,dL,bsm];rw [ad (by simpa using hs)]
  rw [this];simp only [bsm,ad hs,fC];rfl
 ·obtain ⟨⟨l,v,t⟩,e1,e2,e3⟩:=kq r (by omega) (by omega);have e2':(l==0)=false:=by simpa using e2
  rw [e1];simp only [bsm,e2',cD,iZ,af hs];rw [dX (b:=t==0) (p:=(r - 44032) % 28=0) (by simpa using e3)];simp only [fC]
theorem ir (l:List (Int×Int)) (hl:l.length≤1000000) (r:Int) (h:r32 r):aJ l r=some (gW l r):=by
 have hw:=h.w;unfold aJ;simp only [hw];have key:aU (σ:=Int) (τ:=Bool ⊕ Unit) (((l.length:Int) - 0).toNat+1) (fun s_5=>
   if (decide (s_5 < (l.length:Int)))=true then
   (idx l s_5).bind fun x_15=>
   (cW (decide (r≥x_15.1)) ((idx l s_5).bind fun x_25=>
   some (decide (r≤x_25.2)))).bind fun d_19=>
   if d_19=true then
   some (.inr (.inl true))
   else
   some (.inl ((w64 (s_5+1))))
   else
   some (.inr (.inr ()))) (0)=some (if gW l r=true then .inl true else .inr ()):=by
  refine jW (fun s=>∃k:Nat,s=(k:Int)∧k≤l.length∧(l.take k).any (onn (fun x=>x.1) (fun x=>x.2) r)=false) (fun s=>((l.length:Int) - s).toNat) ?_ ⟨0,rfl,aG _,by simp⟩ (by omega);rintro s ⟨k,rfl,hk,hno⟩;rcases aN k l.length with hlt | hge
  ·have e1:(l.take (k+1)).any (onn (fun x=>x.1) (fun x=>x.2) r)=((l.take k).any (onn (fun x=>x.1) (fun x=>x.2) r) || onn (fun x=>x.1) (fun x=>x.2) r l[k]):=by
    rw [ak hlt,List.any_append];simp
   simp only [dlt hlt,ne,cr hlt,bsm,fa];have e2:(decide (r≥l[k].1) && decide (r≤l[k].2))=onn (fun x:Int×Int=>x.1) (fun x=>x.2) r l[k]:=rfl;rw [e2]
   cases hb:onn (fun x:Int×Int=>x.1) (fun x=>x.2) r l[k] with
   | true=>
    right
    have:gW l r=true:=by
     unfold gW;rw [jL];exact ⟨_,a9 hlt,hb⟩
    rw [ad this];rfl
   | false=>
    left
    rw [ci hlt (by omega)];exact ⟨_,rfl,⟨k+1,rfl,hlt,by rw [e1,hno,hb]; rfl⟩,by omega⟩
  ·obtain rfl:k=l.length:=by omega
   right
   rw [aO] at hno;simp only [dnl,cD,iZ];rw [show gW l r=false from hno];rfl
 rw [key]
 cases gW l r <;> rfl
theorem oa:(match bL,bK,bJ,bI,bH,bG,bF,bE with
 | some a,some b,some c,some d,some e,some f,some g,some h=>[a,b,c,d,e,f,g,h]== [ofv gT 1,ofv gT 2,ofv gT 3,ofv gT 4,ofv gT 5,ofv gT 6,ofv gT 7,ofv gT 8] | _,_,_,_,_,_,_,_=>false)=true:=by kernel_rfl
theorem oq:(match bD,bC,bB with
 | some a,some b,some c=>[a,b,c]== [ofv cT 1,ofv cT 2,ofv cT 3] | _,_,_=>false)=true:=by kernel_rfl
theorem og:(match bA,bz,bw with
 | some a,some b,some c=>[a,b,c]== [ofv eT 1,ofv eT 2,ofv eT 3] | _,_,_=>false)=true:=by kernel_rfl
theorem nS:(bN==some pT)=true:=by kernel_rfl
theorem iu (T:List (Int×Int×Int)) (v:Int):(ofv T v).length≤T.length:=by
 unfold ofv;rw [aD];exact List.length_filter_le _ _
theorem nQ (r:Int) (h:r32 r):bu r=some ((lk gT r).getD (hcl r)):=by
 have hl:=oa;unfold bu;split at hl
 ·rename_i a b c d e f g hh ea eb ec ed ee ef eg eh
  rw [ea,eb,ec,ed,ee,ef,eg,eh];simp only [bsm];have hl2:=eq_of_beq hl;rw [hl2];refine fT (n:=8) (by decide) (v:=lk gT r) (fun k hk=>?_) (by rfl) (fun x hx=>?_) rfl ?_
  ·have hi:idx ([ofv gT 1,ofv gT 2,ofv gT 3,ofv gT 4,ofv gT 5,ofv gT 6,ofv gT 7,ofv gT 8]:List (List (Int×Int))) (k:Int)=some (ofv gT ((k:Int)+1)):=by
    rw [gy]
    match k,hk with
    | 0,_=>rfl
    | 1,_=>rfl
    | 2,_=>rfl
    | 3,_=>rfl
    | 4,_=>rfl
    | 5,_=>rfl
    | 6,_=>rfl
    | 7,_=>rfl
   simp only [hi,bsm];rw [ad (by simp; omega),ir _ (bp (iu _ _) oS) r h,iz oR,ax (by omega)];simp only [bsm];rw [dX (p:=lk gT r=some ((k:Int)+1)) (by simp)];rfl
  ·have:=hH (p:=fun v=>decide (1≤v) && decide (v≤8)) n9 hx;simpa using this
  ·cases lk gT r with
   | none=>show ((aK r).bind fun o=>some o)=_; rw [kr r h]; rfl
   | some x=>rfl
 ·cases hl
theorem nO (r:Int) (h:r32 r):br r=some ((lk cT r).getD 0):=by
 have hl:=oq;unfold br;split at hl
 ·rename_i a b c ea eb ec
  rw [ea,eb,ec];simp only [bsm];have hl2:=eq_of_beq hl;rw [hl2];refine fT (n:=3) (by decide) (v:=lk cT r) (fun k hk=>?_) (by rfl) (fun x hx=>?_) rfl ?_
  ·have hi:idx ([ofv cT 1,ofv cT 2,ofv cT 3]:List (List (Int×Int))) (k:Int)=some (ofv cT ((k:Int)+1)):=by
    rw [gy]
    match k,hk with
    | 0,_=>rfl
    | 1,_=>rfl
    | 2,_=>rfl
   simp only [hi,bsm];rw [ad (by simp; omega),ir _ (bp (iu _ _) pe) r h,iz pd,ax (by omega)];simp only [bsm];rw [dX (p:=lk cT r=some ((k:Int)+1)) (by simp)];rfl
  ·have:=hH (p:=fun v=>decide (1≤v) && decide (v≤3)) oo hx;simpa using this
  ·cases lk cT r <;> rfl
 ·cases hl
theorem nN (r:Int) (h:r32 r):bq r=some ((lk eT r).getD 0):=by
 have hl:=og;unfold bq;split at hl
 ·rename_i a b c ea eb ec
  rw [ea,eb,ec];simp only [bsm];have hl2:=eq_of_beq hl;rw [hl2];refine fT (n:=3) (by decide) (v:=lk eT r) (fun k hk=>?_) (by rfl) (fun x hx=>?_) rfl ?_
  ·have hi:idx ([ofv eT 1,ofv eT 2,ofv eT 3]:List (List (Int×Int))) (k:Int)=some (ofv eT ((k:Int)+1)):=by
    rw [gy]
    match k,hk with
    | 0,_=>rfl
    | 1,_=>rfl
    | 2,_=>rfl
   simp only [hi,bsm];rw [ad (by simp; omega),ir _ (bp (iu _ _) oZ) r h,iz oY,ax (by omega)];simp only [bsm];rw [dX (p:=lk eT r=some ((k:Int)+1)) (by simp)];rfl
  ·have:=hH (p:=fun v=>decide (1≤v) && decide (v≤3)) oe hx;simpa using this
  ·cases lk eT r <;> rfl
 ·cases hl
def pic (r:Int):Bool:=(fnd (fun x:Int×Int=>x.1) (fun x=>x.2) pT r).isSome
theorem mg (r:Int):gW pT r=pic r:=by
 unfold gW pic fnd;rw [pN,List.find?_isSome,jL]
theorem nP (r:Int) (h:r32 r):bt r=some (pic r):=by
 unfold bt;rw [eq_of_beq nS];simp only [bsm];rw [ir _ oK r h,mg];rfl
def pr (r:Int):av:=⟨(lk gT r).getD (hcl r),pic r,(lk cT r).getD 0,(lk eT r).getD 0⟩
theorem mF (r:Int) (h:r32 r):aM r=some (pr r):=by
 unfold aM;rw [nQ r h,nP r h,nO r h,nN r h];rfl
end Go.Proofs.Ytjghgpnafaoojaa
namespace Go.Proofs.Ytjghgpnafaoojaa
open Go Go.Lt
variable {l a b:List aa} {p n:Int}
def sok (s:aa):Bool:=decide (s.Lo≤s.Hi) && decide (s.Hi≤1114111) && decide (1≤s.Val) && decide (s.Val≤65535)
theorem bi {s:aa}:sok s=true↔s.Lo≤s.Hi∧s.Hi≤1114111∧1≤s.Val∧s.Val≤65535:=by
  simp only [sok,ac,ag];omega
def rt:Int→List aa→Bool
  | _,[]=>true
  | p,s :: l=>decide (p < s.Lo) && sok s && rt s.Hi l
def lh:Int→List aa→Int
  | p,[]=>p
  | _,s :: l=>lh s.Hi l
theorem dr:rt p (a++b)=(rt p a && rt (lh p a) b):=by
  induction a generalizing p with
  | nil=>rfl
  | cons s a ih=>simp only [aP,rt,lh,ih,Bool.and_assoc]
theorem fh:lh p (a++b)=lh (lh p a) b:=by
  induction a generalizing p with
  | nil=>rfl
  | cons s a ih=>simp only [aP,lh,ih]
theorem nW (h:rt p a=true):p≤lh p a:=by
  induction a generalizing p with
  | nil=>exact fg _
  | cons s a ih=>
    simp only [rt,ac,ag] at h;have h1:=bi.1 h.1.2;have:=ih h.2;simp only [lh];omega
theorem ba (h:rt p l=true):∀s∈l,p < s.Lo∧s.Lo≤s.Hi∧s.Hi≤1114111∧1≤s.Val∧s.Val≤65535∧s.Hi≤lh p l:=by
  induction l generalizing p with
  | nil=>intro s hs; cases hs
  | cons t l ih=>
    simp only [rt,ac,ag] at h;have h1:=bi.1 h.1.2;intro s hs;simp only [lh];rcases List.mem_cons.1 hs with rfl | hs
    · have:=nW h.2
      omega
    · have:=ih h.2 s hs
      omega
theorem gv (h:rt p l=true) (i:Nat):rt p (l.take i)=true:=by
  rw [←bh i l,dr,ac] at h;exact h.1
theorem iq {i:Nat} (h:i < l.length):rt p (l.take (i+1))=(rt p (l.take i) && (decide (lh p (l.take i) < l[i].Lo) && sok l[i])):=by
  rw [ak h,dr];simp [rt]
theorem jU {i:Nat} (h:i < l.length):lh p (l.take (i+1))=l[i].Hi:=by
  rw [ak h,fh];rfl
theorem mV {i:Nat} (h:i < l.length) (hb:(decide (lh p (l.take i) < l[i].Lo) && sok l[i])=false):rt p l=false:=by
  cases hh:rt p l with
  | false=>rfl
  | true=>
    have:=gv hh (i+1);rw [iq h,hb,Bool.and_false] at this;cases this
theorem gC (hl:l.length≤1000000):aS l=some (rt (-1) l):=by
  unfold aS;refine eX (n:=l.length) (fun i st=>st=(lh (-1) (l.take i),(i:Int))∧rt (-1) (l.take i)=true) (fun t=>match t with | .inl x=>x=false∧rt (-1) l=false | .inr _=>rt (-1) l=true) (fun i st hi hI=>?_) (fun st hI=>?_) ⟨rfl,rfl⟩ (by omega) (fun t ht=>?_)
  · obtain ⟨e,hr⟩:=hI
    subst e;simp only;rw [ad (dlt hi),cr hi,ci hi (by omega)];simp only [bsm,dL];have hs:=iq (p:= -1) hi;by_cases hc:(decide (lh (-1) (l.take i) < l[i].Lo) && sok l[i])=true
    · rw [hr,hc] at hs
      rw [ac,ag,bi] at hc;rw [af (by simp only [cg,ag]; omega)];exact .inl ⟨_,rfl,by rw [jU hi],hs⟩
    · rw [Bool.not_eq_true] at hc
      refine .inr ⟨.inl false,?_,rfl,mV hi hc⟩;rw [ad];rw [Bool.and_eq_false_iff,aZ] at hc;simp only [cg,ag];rcases hc with hc | hc
      · omega
      · have:=mt bi.2 (by rw [hc]; simp)
        omega
  · obtain ⟨e,hr⟩:=hI
    subst e;rw [aO] at hr;exact ⟨.inr (),by simp only; rw [af (by simp)],hr⟩
  · cases t with
    | inl x=>obtain ⟨rfl,h⟩:=ht; rw [h]
    | inr x=>simp only at ht; rw [ht]
def vat (n:Int):List aa→Int
  | []=>0
  | s :: l=>if s.Lo≤n∧n≤s.Hi then s.Val else vat n l
theorem cw (h:∀s∈a,s.Hi < n):vat n (a++b)=vat n b:=by
  induction a with
  | nil=>rfl
  | cons s a ih=>
    have:=h s (by simp);simp only [aP,vat];rw [af (by omega),ih fun t ht=>h t (by simp [ht])]
theorem cq (h:∀s∈b,n < s.Lo∨s.Hi < n):vat n b=0:=by
  induction b with
  | nil=>rfl
  | cons s b ih=>
    have:=h s (by simp);simp only [vat];rw [af (by omega),ih fun t ht=>h t (by simp [ht])]
theorem cL (h:∀s∈b,n < s.Lo∨s.Hi < n):vat n (a++b)=vat n a:=by
  induction a with
  | nil=>exact cq h
  | cons s a ih=>simp only [aP,vat,ih]
theorem jv (h:rt p l=true):0≤vat n l∧vat n l≤65535:=by
  induction l generalizing p with
  | nil=>simp [vat]
  | cons s l ih=>
    have:=ba h s (by simp);simp only [rt,ac,ag] at h;simp only [vat];split
    · omega
    · exact ih h.2
theorem kd {c:Int} (hc:c≤n) (h:∀s∈l,¬(c < s.Lo∧s.Lo≤n)∧¬(c < s.Hi+1∧s.Hi+1≤n)):vat n l=vat c l:=by
  induction l with
  | nil=>rfl
  | cons s l ih=>
    have:=h s (by simp);simp only [vat];rw [ih fun t ht=>h t (by simp [ht])];by_cases q:s.Lo≤n∧n≤s.Hi
    · rw [ad q,ad (by omega)]
    · rw [af q,af (by omega)]
theorem lZ (h:rt p l=true):fA (·.Lo) (·.Hi) l=true:=by
  induction l generalizing p with
  | nil=>rfl
  | cons s l ih=>
    simp only [rt,ac,ag] at h;have h1:=bi.1 h.1.2;simp only [fA,ac,ag];refine ⟨⟨h1.1,?_⟩,ih h.2⟩
    cases l with
    | nil=>rfl
    | cons t l=>
      have h2:=h.2;simp only [rt,ac,ag] at h2;simp only [ag];exact h2.1.1
theorem mj (h:rt (-1) l=true) (hl:l.length≤1000000) (n:Int):cz l n=some (vat n l):=by
  obtain ⟨i,e1,hi,h1,h2⟩:=kj (lZ h) hl n (step:=fun a=>
     if (decide (a.1 < a.2))=true then
     (cO (w64 ((IntKind.u64.wrap (w64 (a.1+a.2))).fdiv (2 ^ 1))) l n).bind fun b=>
     if (!b)=true then
     some (.inl ((w64 ((w64 ((IntKind.u64.wrap (w64 (a.1+a.2))).fdiv (2 ^ 1)))+1)),a.2))
     else
     some (.inl (a.1,(w64 ((IntKind.u64.wrap (w64 (a.1+a.2))).fdiv (2 ^ 1)))))
     else
     some (.inr (a.1)))
    (fun a b hab hb=>by
      simp only;rw [ad (dlt hab),oQ (by omega)];unfold cO;rw [cr (show (a+b) / 2 < l.length by omega)];simp only [bsm];rw [ci (show (a+b) / 2 < l.length by omega) (by omega)];by_cases hr:n≤(l[(a+b) / 2]'(by omega)).Hi
      · rw [af (by simpa using hr),ad hr]
      · rw [ad (by simpa using hr),af hr])
    (fun a=>by simp only; rw [af (by simp)])
  have hat:dt l n=some (i:Int):=by
    unfold dt aX;rw [e1];rfl
  unfold cz;rw [hat];simp only [bsm];have hv:vat n l=vat n (l.drop i):=by
    conv=>lhs; rw [←bh i l]
    refine cw fun s hs=>?_;obtain ⟨j,hj,e⟩:=List.mem_iff_getElem.1 hs;rw [List.getElem_take] at e;rw [ao] at hj;have:=h1 j (by omega) (by omega);rw [e] at this;exact this
  by_cases hlt:i < l.length
  · rw [dlt hlt,cr hlt]
    simp only [gb,bsm];rw [aA hlt] at hv;simp only [vat] at hv;have hge:=h2 i hlt (aj _);by_cases hlo:l[i].Lo≤n
    · rw [ad (by simpa using hlo)]
      rw [ad ⟨hlo,hge⟩] at hv;rw [hv]
    · rw [af (by simpa using hlo)]
      rw [af (fun q=>hlo q.1)] at hv;rw [hv];have hd:=h;rw [←bh (i+1) l,dr,ac,jU hlt] at hd;rw [cq fun s hs=>?_];have:=ba hd.2 s hs;omega
  · rw [show decide ((i:Int) < (l.length:Int))=false by simp; omega]
    simp only [dV,bsm,cD,iZ];rw [nD (by omega)] at hv;rw [hv];rfl
def mrg (t s:aa):Bool:=(t.Val==s.Val) && (t.Hi==s.Lo - 1)
def lyy (l:List aa) (s:aa):List aa:=
 match l.getLast? with
 | some t=>if mrg t s=true then l.dropLast++ [⟨t.Lo,s.Hi,t.Val⟩] else l++ [s]
 | none=>[s]
theorem jS (s:aa):lyy [] s= [s]:=rfl
theorem gG (a:List aa) (t s:aa):lyy (a++ [t]) s=if mrg t s=true then a++ [⟨t.Lo,s.Hi,t.Val⟩] else a++ [t]++ [s]:=by
 unfold lyy;simp
theorem gu (l:List aa):l= []∨∃a t,l=a++ [t]:=by
 rcases List.eq_nil_or_concat l with h | ⟨a,t,h⟩
 ·exact .inl h
 ·exact .inr ⟨a,t,by simpa using h⟩
theorem jT (l:List aa) (s:aa):(lyy l s).length≤l.length+1:=by
 rcases gu l with rfl | ⟨a,t,rfl⟩
 ·simp [jS]
 ·rw [gG];split <;> simp
theorem lx (hl:l.length≤1000000) {s:aa} (h1: -1000000000≤s.Lo) (h2:s.Lo≤1000000000):cJ l s=some (lyy l s):=by
 unfold cJ;rw [ax (n:=(l.length:Int) - 1) (by omega),ax (n:=s.Lo - 1) (by omega)];rcases gu l with rfl | ⟨a,t,rfl⟩
 ·simp only [aC];rw [show decide (((0:Nat):Int) - 1≥0)=false by decide];simp only [dV,bsm,cD,iZ];rw [fq (by simp)];rfl
 ·have hlen:((a++ [t]).length:Int) - 1=(a.length:Int):=by simp
  have hlt:a.length < (a++ [t]).length:=by simp
  have hget:(a++ [t])[a.length]'hlt=t:=by simp
  rw [hlen,cr hlt,hget,show decide ((a.length:Int)≥0)=true by simp,gG];simp only [bsm,fa,fu];by_cases hm:mrg t s=true
  ·rw [ad hm,ad (show (t.Val==s.Val && t.Hi==s.Lo - 1)=true from hm),gB hlt];simp only [bsm]
   congr 1
   rw [List.set_append_right _ _ (aj _),jo];rfl
  ·rw [af hm,af (show ¬(t.Val==s.Val && t.Hi==s.Lo - 1)=true from hm),fq (by simp only [an,aC]; omega)];rfl
def few:List aa→Bool
 | []=>true
 | s :: l=>(match l with | []=>true | t :: _=> !mrg s t) && few l
theorem gI (a:List aa) (t s:aa):few (a++ [t]++ [s])=(few (a++ [t]) && !mrg t s):=by
 induction a with
 | nil=>simp [few]
 | cons x a ih=>
  simp only [aP,few];rw [ih,←Bool.and_assoc]
  congr 1
  cases a <;> rfl
theorem lC (a:List aa) {x y:aa} (h1:x.Lo=y.Lo) (h2:x.Val=y.Val):few (a++ [x])=few (a++ [y]):=by
 rcases gu a with rfl | ⟨c,t,rfl⟩
 ·rfl
 ·rw [gI,gI];simp only [mrg,h1,h2]
def cn:List aa→Int
 | []=>0
 | s :: l=>s.Hi - s.Lo+1+cn l
theorem iG:cn (a++b)=cn a+cn b:=by
 induction a with
 | nil=>simp [cn]
 | cons s a ih=>simp only [aP,cn,ih]; omega
structure fR (l:List aa):Prop where
 r:rt (-1) l=true
 f:few l=true
theorem fR.nil:fR []:=⟨rfl,rfl⟩
theorem fR.lay (h:fR l) {s:aa} (h1:lh (-1) l < s.Lo) (h2:sok s=true):fR (lyy l s)∧lh (-1) (lyy l s)=s.Hi∧(∀n,vat n (lyy l s)=if s.Lo≤n∧n≤s.Hi then s.Val else vat n l)∧cn (lyy l s)=cn l+(s.Hi - s.Lo+1):=by
 have hs:=bi.1 h2;have hadd:rt (-1) (l++ [s])=true:=by
  rw [dr,h.r];simp [rt,h1,h2]
 have hval:∀n,vat n (l++ [s])=if s.Lo≤n∧n≤s.Hi then s.Val else vat n l:=fun n=>by
  split
  ·rename_i q
   rw [cw fun t ht=>by have:=ba h.r t ht; omega];simp only [vat];rw [ad q]
  ·rename_i q
   exact cL fun t ht=>by rw [List.mem_singleton.1 ht]; omega
 rcases gu l with rfl | ⟨c,t,rfl⟩
 ·rw [jS];refine ⟨⟨hadd,rfl⟩,rfl,fun n=>hval n,?_⟩;simp [cn]
 ·rw [gG];have hlh:lh (-1) (c++ [t])=t.Hi:=by rw [fh]; rfl
  rw [hlh] at h1;by_cases hm:mrg t s=true
  ·rw [ad hm];have hm2:t.Val=s.Val∧t.Hi=s.Lo - 1:=by simpa [mrg] using hm
   have ht:=ba h.r t (by simp);have hr:=h.r;rw [dr,ac] at hr;have hr2:=hr.2;simp only [rt,ac,ag,and_true] at hr2;refine ⟨⟨?_,?_⟩,by rw [fh]; rfl,fun n=>?_,?_⟩
   ·rw [dr,hr.1];simp only [rt,fu,mE,ac,ag,bi];omega
   ·exact (lC c (x:=⟨t.Lo,s.Hi,t.Val⟩) (y:=t) rfl rfl).trans h.f
   ·have hc:=fun x hx=>ba hr.1 x hx;by_cases hn:n < t.Lo
    ·rw [cL (b:=[⟨t.Lo,s.Hi,t.Val⟩]) (fun x hx=>by rw [List.mem_singleton.1 hx]; exact .inl hn),af (by omega),cL (b:=[t]) (fun x hx=>by rw [List.mem_singleton.1 hx]; exact .inl hn)]
    ·rw [cw (fun x hx=>by have:=hc x hx; omega),cw (fun x hx=>by have:=hc x hx; omega)];simp only [vat];by_cases q:s.Lo≤n∧n≤s.Hi
     ·rw [ad q,ad (by omega),hm2.1]
     ·rw [af q];by_cases q2:t.Lo≤n∧n≤t.Hi
      ·rw [ad q2,ad (by omega)]
      ·rw [af q2,af (by omega)]
   ·rw [iG,iG];simp only [cn];omega
  ·rw [af hm];refine ⟨⟨hadd,?_⟩,by rw [fh]; rfl,fun n=>hval n,?_⟩
   ·rw [gI,h.f];simpa using hm
   ·rw [iG];simp [cn]
def fw (l:List aa):List aa:=l.foldl lyy []
theorem jY (l:List aa) (s:aa):fw (l++ [s])=lyy (fw l) s:=by simp [fw]
theorem eY (h:rt (-1) l=true):fR (fw l)∧lh (-1) (fw l)=lh (-1) l∧(∀n,vat n (fw l)=vat n l)∧cn (fw l)=cn l∧(fw l).length≤l.length:=by
 have key:∀m,m≤l.length→fR (fw (l.take m))∧lh (-1) (fw (l.take m))=lh (-1) (l.take m)∧(∀n,vat n (fw (l.take m))=vat n (l.take m))∧cn (fw (l.take m))=cn (l.take m)∧(fw (l.take m)).length≤m:=by
  intro m
  induction m with
  | zero=>intro _; exact ⟨fR.nil,rfl,fun _=>rfl,rfl,aj _⟩
  | succ m ih=>
   intro hm;have hlt:m < l.length:=by omega
   obtain ⟨i1,i2,i3,i4,i5⟩:=ih (by omega);have hs:=gv h (m+1);rw [iq hlt,ac,ac,ag] at hs;obtain ⟨g1,g2,g3,g4⟩:=i1.lay (s:=l[m]) (by rw [i2]; exact hs.2.1) hs.2.2;have hlen:=jT (fw (l.take m)) l[m];rw [ak hlt,jY];refine ⟨g1,by rw [g2,fh]; rfl,fun n=>?_,by rw [g4,i4,iG]; simp [cn],by omega⟩;rw [g3,i3];split
   ·rename_i q
    rw [cw fun t ht=>by have:=ba hs.1 t ht; omega];simp only [vat];rw [ad q]
   ·rename_i q
    exact (cL fun t ht=>by rw [List.mem_singleton.1 ht]; omega).symm
 have:=key l.length (aj _)
 rwa [aO] at this
theorem kw (hl:l.length≤1000000):aT l=some (if rt (-1) l=true then fw l else []):=by
 unfold aT;rw [gC hl];simp only [bsm]
 cases h:rt (-1) l with
 | false=>rfl
 | true=>
  simp only [Bool.not_true,cD,iZ,ne];refine eX (n:=l.length) (fun i st=>st=(fw (l.take i),(i:Int))) (fun u=>u=fw l) (fun i st hi e=>?_) (fun st e=>?_) rfl (by omega) (fun u hu=>by subst hu; rfl)
  ·subst e;simp only;have hs:=ba h _ (a9 hi);have hlen:=(eY (gv h i)).2.2.2.2;rw [ao] at hlen;rw [ad (dlt hi),cr hi,ci hi (by omega)];simp only [bsm];rw [lx (by omega) (by omega) (by omega)];refine .inl ⟨_,rfl,?_⟩;rw [ak hi,jY]
  ·subst e;refine ⟨_,by simp only; rw [af (by simp)],?_⟩;rw [aO]
end Go.Proofs.Ytjghgpnafaoojaa
namespace Go.Proofs.Ytjghgpnafaoojaa
open Go Go.Lt
variable {l x:List aa} {p q:List (List aa)} {n c d:Int}
theorem jc (y:Int) (l:List Int) (z:Int):z∈y :: eK y l↔z∈y :: l:=by
  induction l generalizing y with
  | nil=>rfl
  | cons w l ih=>
    unfold eK;split
    · rename_i e
      subst e;rw [ih w];simp
    · rw [cm,ih w,cm (a:=z) (b:=y)]
theorem mw (y:Int) (l:List Int) (h:(y :: l).Pairwise (fun a b=>a≤b)):(y :: eK y l).Pairwise (fun a b=>a < b):=by
  induction l generalizing y with
  | nil=>simp [eK]
  | cons w l ih=>
    rw [bX] at h;have hw:=h.1 w (by simp);have h2:=h.2;rw [bX] at h2;unfold eK;split
    · rename_i e
      subst e;exact ih w h.2
    · rename_i e
      rw [bX];refine ⟨fun z hz=>?_,ih w h.2⟩;rcases List.mem_cons.1 ((jc w l z).1 hz) with rfl | hz
      · omega
      · have:=h2.1 z hz; omega
theorem lH (l:List Int) (z:Int):z∈fb l↔z∈l:=by
  cases l with
  | nil=>rfl
  | cons y l=>exact jc y l z
theorem mv (l:List Int) (h:l.Pairwise (fun a b=>a≤b)):(fb l).Pairwise (fun a b=>a < b):=by
  cases l with
  | nil=>exact .nil
  | cons y l=>exact mw y l h
def ed1:List aa→List Int
  | []=>[]
  | s :: l=>s.Lo :: (s.Hi+1) :: ed1 l
theorem mr (a b:List aa):ed1 (a++b)=ed1 a++ed1 b:=by
  induction a with
  | nil=>rfl
  | cons s a ih=>simp [ed1,ih]
theorem jZ (a:List aa):(ed1 a).length=2 * a.length:=by
  induction a with
  | nil=>rfl
  | cons s a ih=>simp only [ed1,an,ih]; omega
theorem mq (a:List aa) (z:Int):z∈ed1 a↔∃s∈a,z=s.Lo∨z=s.Hi+1:=by
  induction a with
  | nil=>simp [ed1]
  | cons s a ih=>
    simp only [ed1,cm,ih,pD];constructor
    · rintro (h | h | h)
      · exact .inl (.inl h)
      · exact .inl (.inr h)
      · exact .inr h
    · rintro ((h | h) | h)
      · exact .inl h
      · exact .inr (.inl h)
      · exact .inr (.inr h)
def eds:List (List aa)→List Int
  | []=>[]
  | x :: p=>ed1 x++eds p
theorem mo (p q:List (List aa)):eds (p++q)=eds p++eds q:=by
  induction p with
  | nil=>rfl
  | cons x p ih=>simp [eds,ih]
theorem mn (p:List (List aa)) (z:Int):z∈eds p↔∃x∈p,∃s∈x,z=s.Lo∨z=s.Hi+1:=by
  induction p with
  | nil=>simp [eds]
  | cons x p ih=>simp only [eds,pK,ih,mq,cm,pD]
theorem iD (p:List (List aa)) (h:∀x∈p,x.length≤400):(eds p).length≤800 * p.length:=by
  induction p with
  | nil=>simp [eds]
  | cons x p ih=>
    have h1:=h x (by simp);have h2:=ih fun y hy=>h y (by simp [hy]);simp only [eds,am,jZ,an];omega
def aR (p:List (List aa)):List Int:=fb (srt (eds p))
theorem dM (p:List (List aa)) (z:Int):z∈aR p↔∃x∈p,∃s∈x,z=s.Lo∨z=s.Hi+1:=by
  unfold aR;rw [lH,(fB _).mem_iff,mn]
theorem j9 (p:List (List aa)):(aR p).Pairwise (fun a b=>a < b):=mv _ (gA _)
theorem lF (p:List (List aa)) (h:∀x∈p,x.length≤400):(aR p).length≤800 * p.length:=by
  have h1:=jb (srt (eds p));have h2:=(fB (eds p)).length_eq;have h3:=iD p h;unfold aR;omega
theorem lE (hr:∀x∈p,rt (-1) x=true) (hx:∀x∈p,x.length≤400) (hl:p.length≤6):cE p=some (aR p):=by
  unfold cE;refine eX (n:=p.length) (fun i st=>st=(eds (p.take i),(i:Int))) (fun u=>u=eds p) (fun i st hi e=>?_) (fun st e=>?_) rfl (by omega) (fun u hu=>?_)
  · subst e
    simp only;have hm:=a9 hi;have h60:=hx _ hm;have hrt:=hr _ hm;have hlen:=iD (p.take i) (fun y hy=>hx y (ow hy));rw [ao] at hlen;rw [ad (dlt hi),cr hi];simp only [bsm];refine .inl ⟨(eds (p.take (i+1)),((i+1:Nat):Int)),eX (n:=p[i].length) (fun j st=>st=(eds (p.take i)++ed1 (p[i].take j),(j:Int))) (fun u=>u=eds (p.take (i+1))) (fun j st hj e=>?_) (fun st e=>?_) (by simp [ed1]) (by omega) (fun u hu=>?_),rfl⟩
    · subst e
      simp only;have hs:=ba hrt _ (a9 hj);rw [ad (dlt hj),cr hj,ci hj (by omega)];simp only [bsm];rw [ax (n:=p[i][j].Hi+1) (by omega),fq (by simp only [am,jZ,ao,an,aC]; omega)];refine .inl ⟨_,rfl,?_⟩;rw [ak hj,mr,bM];rfl
    · subst e
      refine ⟨_,by simp only; rw [af (by simp)],?_⟩;rw [aO,ak hi,mo];simp [eds]
    · subst hu
      rw [ci hi (by omega)]
  · subst e
    refine ⟨_,by simp only; rw [af (by simp)],?_⟩;rw [aO]
  · subst hu
    have h3:=iD p hx;unfold dd cZ;rw [ad (by omega)];rfl
def sm (n:Int):List (List aa)→Int
  | []=>0
  | x :: p=>vat n x+sm n p
theorem kU (p q:List (List aa)):sm n (p++q)=sm n p+sm n q:=by
  induction p with
  | nil=>simp [sm]
  | cons x p ih=>simp only [aP,sm,ih]; omega
theorem kR (hr:∀x∈p,rt (-1) x=true):0≤sm n p∧sm n p≤65535 * (p.length:Int):=by
  induction p with
  | nil=>simp [sm]
  | cons x p ih=>
    have h1:=jv (n:=n) (hr x (by simp));have h2:=ih fun y hy=>hr y (by simp [hy]);simp only [sm,an];omega
theorem lW {i:Nat} (h:i < p.length):sm n (p.take (i+1))=sm n (p.take i)+vat n p[i]:=by
  rw [ak h,kU];simp [sm]
theorem lV (hr:∀x∈p,rt (-1) x=true) (i:Nat):sm n (p.take i)≤sm n p:=by
  have h:=kU (n:=n) (p.take i) (p.drop i);rw [bh] at h;have:=(kR (n:=n) (p:=p.drop i) fun x hx=>hr x (List.mem_of_mem_drop hx)).1;omega
theorem kT (h:∀x∈p,vat n x=vat c x):sm n p=sm c p:=by
  induction p with
  | nil=>rfl
  | cons x p ih=>simp only [sm]; rw [h x (by simp),ih fun y hy=>h y (by simp [hy])]
theorem ip (h:∀x∈p,vat n x=0):sm n p=0:=by
  induction p with
  | nil=>rfl
  | cons x p ih=>simp only [sm]; rw [h x (by simp),ih fun y hy=>h y (by simp [hy])]; rfl
theorem kS {i:Nat} (hi:i+1 < (aR p).length) (h1:(aR p)[i]'(by omega)≤n) (h2:n < (aR p)[i+1]):sm n p=sm ((aR p)[i]'(by omega)) p:=by
  have hlt:=j9 p;have hno:∀y∈aR p,¬((aR p)[i]'(by omega) < y∧y≤n):=fun y hy=>by
    obtain ⟨k,hk,rfl⟩:=List.mem_iff_getElem.1 hy;rw [lO] at hlt;rcases pv k (i+1) with q | q | q
    · rcases aN k i with q2 | q2
      · have:=hlt k i hk (by omega) q2; omega
      · obtain rfl:k=i:=by omega
        omega
    · subst q; omega
    · have:=hlt (i+1) k hi hk q; omega
  exact kT fun x hx=>kd h1 fun s hs=>⟨hno _ ((dM p _).2 ⟨x,hx,s,hs,.inl rfl⟩),hno _ ((dM p _).2 ⟨x,hx,s,hs,.inr rfl⟩)⟩
theorem mQ (hx:∀x∈p,x.length≤400) (hl:p.length≤6):∃r,cK p=some r∧((∃x∈p,rt (-1) x=false)→r= [])∧
    ((∀x∈p,rt (-1) x=true)→fR r∧r.length≤10000∧((∀n,sm n p≤65535)→∀n,vat n r=sm n p)∧(∀n,65535 < sm n p→r= [])):=by
  unfold cK;refine fV (n:=p.length) (fun i st=>st=(i:Int)∧∀x∈p.take i,rt (-1) x=true) (fun t=>match t with | .inl y=>y= []∧∃x∈p,rt (-1) x=false | .inr _=>∀x∈p,rt (-1) x=true) (fun i st hi hI=>?_) (fun st hI=>?_) ⟨rfl,fun x hx=>by simp at hx⟩ (by omega) (fun t ht=>?_)
  · obtain ⟨e,hr⟩:=hI
    subst e;have hm:=a9 hi;rw [ad (dlt hi),cr hi,ci hi (by omega)];simp only [bsm];rw [gC (by have:=hx _ hm; omega)];simp only [bsm]
    cases h:rt (-1) p[i] with
    | false=>exact .inr ⟨.inl [],rfl,rfl,_,hm,h⟩
    | true=>
      refine .inl ⟨_,rfl,rfl,fun x hx=>?_⟩;rw [ak hi,pK,dj] at hx;rcases hx with hx | rfl
      · exact hr x hx
      · exact h
  · obtain ⟨e,hr⟩:=hI
    subst e;rw [aO] at hr;exact ⟨.inr (),by rw [af (by simp)],hr⟩
  · cases t with
    | inl y=>
      obtain ⟨rfl,x,h1,h2⟩:=ht;exact ⟨_,rfl,fun _=>rfl,fun h=>by rw [h x h1] at h2; cases h2⟩
    | inr u=>
      simp only at ht⊢;have hr:=ht;rw [lE hr hx hl];simp only [bsm];have hno:(∃x∈p,rt (-1) x=false)→False:=fun ⟨x,h1,h2⟩=>by rw [hr x h1] at h2; cases h2
      have hcl:=lF p hx;have hlt:=j9 p;rw [lO] at hlt;have hmem:∀i (h:i < (aR p).length),0≤(aR p)[i]∧(aR p)[i]≤1114112:=fun i h=>by
        obtain ⟨x,h1,s,h2,h3⟩:=(dM p _).1 (a9 h);have:=ba (hr x h1) s h2;omega
      have inner:∀(i:Nat) (hi:i < (aR p).length),∃t:(List aa) ⊕ Int,(aU (σ:=Int×Int) (τ:=(List aa) ⊕ Int) (((p.length:Int) - 0).toNat+1) (fun c=>
           if (decide (c.2 < (p.length:Int)))=true then
           (idx p c.2).bind fun k=>
           (idx (aR p) (i:Int)).bind fun l=>
           (cz k l).bind fun h=>
           if (decide ((w64 (c.1+h)) > 65535))=true then
           some (.inr (.inl ([]:List aa)))
           else
           some (.inl ((w64 (c.1+h)),(w64 (c.2+1))))
           else
           some (.inr (.inr (c.1)))) (0,0))=some t∧(match t with | .inl y=>y= []∧65535 < sm (aR p)[i] p | .inr v=>v=sm (aR p)[i] p∧sm (aR p)[i] p≤65535):=fun i hi=>by
        refine eE (n:=p.length) (fun j (st:Int×Int)=>st=(sm (aR p)[i] (p.take j),(j:Int))∧sm (aR p)[i] (p.take j)≤65535) (fun (t:(List aa) ⊕ Int)=>match t with | .inl y=>y= []∧65535 < sm (aR p)[i] p | .inr v=>v=sm (aR p)[i] p∧sm (aR p)[i] p≤65535) (fun j st hj hI=>?_) (fun st hI=>?_) ⟨rfl,by simp [sm]⟩ (by omega)
        · obtain ⟨e,hs⟩:=hI
          subst e;simp only;have hm:=a9 hj;have hv:=jv (n:=(aR p)[i]) (hr _ hm);have h0:=kR (n:=(aR p)[i]) (p:=p.take j) fun x hx=>hr x (ow hx);have hsu:=lW (n:=(aR p)[i]) hj;rw [ad (dlt hj),cr hj,cr hi,ci hj (by omega)];simp only [bsm];rw [mj (hr _ hm) (by have:=hx _ hm; omega)];simp only [bsm];rw [ax (by omega),←hsu];by_cases hc:65535 < sm (aR p)[i] (p.take (j+1))
          · rw [ad (by simpa using hc)]
            exact .inr ⟨_,rfl,rfl,Int.lt_of_lt_of_le hc (lV hr _)⟩
          · rw [af (by simpa using hc)]
            exact .inl ⟨_,rfl,rfl,by omega⟩
        · obtain ⟨e,hs⟩:=hI
          subst e;rw [aO] at hs⊢;exact ⟨.inr (sm (aR p)[i] p),by simp only; rw [af (by simp)],rfl,hs⟩
      by_cases he:(aR p).length=0
      · have hnil:=dP he
        have hz:∀n,sm n p=0:=fun n=>ip fun x hx=>cq fun s hs=>by
          have:=(dM p s.Lo).2 ⟨x,hx,s,hs,.inl rfl⟩;rw [hnil] at this;cases this
        rw [hnil];exact ⟨[],rfl,fun _=>rfl,fun _=>⟨fR.nil,by simp,fun _ n=>(hz n).symm,fun n _=>rfl⟩⟩
      · have hpos:0 < (aR p).length:=by omega
        rw [show w64 (0+1)=1 from rfl];refine fV (n:=(aR p).length - 1) (fun i (st:(List aa)×Int)=>st.2=(i:Int)∧∃hi:i < (aR p).length,fR st.1∧lh (-1) st.1 < (aR p)[i]∧(∀n,vat n st.1=if n < (aR p)[i] then sm n p else 0)∧st.1.length≤i)
          (fun (t:(List aa) ⊕ (List aa))=>match t with | .inl y=>y= []∧∃n,65535 < sm n p | .inr y=>fR y∧y.length≤10000∧∀n,vat n y=sm n p) (fun i st hi hI=>?_) (fun st hI=>?_) ⟨rfl,hpos,fR.nil,?_,fun n=>?_,aj _⟩ (by omega) (fun t ht=>?_)
        · obtain ⟨out,i'⟩:=st
          obtain ⟨e,hi1,hL,hlh,hv,hlen⟩:=hI;simp only at e hL hlh hv hlen;subst e;simp only;have hi2:i+1 < (aR p).length:=by omega
          have hcd:=hlt i (i+1) hi1 hi2 (by omega);have hc0:=hmem i hi1;have hd0:=hmem (i+1) hi2;have hconst:∀n,(aR p)[i]≤n→n < (aR p)[i+1]→sm n p=sm (aR p)[i] p:=fun n a b=>kS hi2 a b;rw [ax (n:=(i:Int)+1) (by omega),show (i:Int)+1=((i+1:Nat):Int) by omega,ad (dlt hi2)];obtain ⟨t,e1,e2⟩:=inner i hi1;rw [e1];simp only [bsm]
          cases t with
          | inl y=>exact .inr ⟨_,rfl,e2.1,_,e2.2⟩
          | inr v=>
            obtain ⟨rfl,hle⟩:=e2;simp only;have hge:=(kR (n:=(aR p)[i]) hr).1;by_cases h0:0 < sm (aR p)[i] p
            · rw [ad (by simpa using h0),cr hi1,cr hi2]
              simp only [bsm];rw [ax (by omega),lx (by omega) (by simp only; omega) (by simp only; omega)];obtain ⟨g1,g2,g3,_⟩:=hL.lay (s:=⟨(aR p)[i],(aR p)[i+1] - 1,sm (aR p)[i] p⟩) hlh (bi.2 (by simp only; omega));have hll:=jT out ⟨(aR p)[i],(aR p)[i+1] - 1,sm (aR p)[i] p⟩;refine .inl ⟨_,rfl,rfl,hi2,g1,by rw [g2]; simp only; omega,fun n=>?_,by simp only; omega⟩;simp only;rw [g3,hv];simp only;by_cases q1:(aR p)[i]≤n∧n≤(aR p)[i+1] - 1
              · rw [ad q1,ad (by omega),hconst n q1.1 (by omega)]
              · rw [af q1]
                by_cases q2:n < (aR p)[i]
                · rw [ad q2,ad (by omega)]
                · rw [af q2,af (by omega)]
            · rw [af (by simpa using h0)]
              refine .inl ⟨_,rfl,rfl,hi2,hL,by simp only; omega,fun n=>?_,by simp only; omega⟩;simp only;rw [hv];by_cases q2:n < (aR p)[i]
              · rw [ad q2,ad (by omega)]
              · rw [af q2]
                by_cases q3:n < (aR p)[i+1]
                · rw [ad q3,hconst n (by omega) q3]
                  omega
                · rw [af q3]
        · obtain ⟨out,i'⟩:=st
          obtain ⟨e,hi1,hL,hlh,hv,hlen⟩:=hI;simp only at e hL hlh hv hlen;subst e;simp only;rw [ax (by omega),af (by simp; omega)];refine ⟨_,rfl,hL,by omega,fun n=>?_⟩;rw [hv];split
          · rfl
          · rename_i q
            refine (ip fun x hx=>cq fun s hs=>?_).symm;obtain ⟨k,hk,e⟩:=List.mem_iff_getElem.1 ((dM p (s.Hi+1)).2 ⟨x,hx,s,hs,.inr rfl⟩);have:(aR p)[k]≤(aR p)[(aR p).length - 1]:=by
              rcases aN k ((aR p).length - 1) with q2 | q2
              · exact Int.le_of_lt (hlt k _ hk hi1 q2)
              · obtain rfl:k=(aR p).length - 1:=by omega
                exact fg _
            omega
        · have:=hmem 0 hpos
          simp only [lh];omega
        · simp only [vat]
          split
          · rename_i q
            refine (ip fun x hx=>cq fun s hs=>?_).symm;obtain ⟨k,hk,e⟩:=List.mem_iff_getElem.1 ((dM p s.Lo).2 ⟨x,hx,s,hs,.inl rfl⟩);have:(aR p)[0]≤(aR p)[k]:=by
              rcases eP k with q2 | q2
              · subst q2; exact fg _
              · exact Int.le_of_lt (hlt 0 k hpos hk q2)
            omega
          · rfl
        · cases t with
          | inl y=>
            obtain ⟨rfl,n0,hn0⟩:=ht;exact ⟨_,rfl,fun _=>rfl,fun _=>⟨fR.nil,by simp,fun h=>by have:=h n0; omega,fun _ _=>rfl⟩⟩
          | inr y=>
            obtain ⟨g1,g2,g3⟩:=ht;exact ⟨_,rfl,fun h=>(hno h).elim,fun _=>⟨g1,g2,fun _=>g3,fun n hn=>by have:=(jv (n:=n) g1.r).2; rw [g3] at this; omega⟩⟩
end Go.Proofs.Ytjghgpnafaoojaa
namespace Go.Proofs.Ytjghgpnafaoojaa
open Go Go.Lt
def sp3 (x:Int×Int×Int):aa:=⟨x.1,x.2.1,x.2.2⟩
def sp1 (x:Int×Int):aa:=⟨x.1,x.2,1⟩
theorem ju (T:List (Int×Int×Int)) (n:Int):vat n (T.map sp3)=(lk T n).getD 0:=by
 unfold lk fnd
 induction T with
 | nil=>rfl
 | cons x T ih=>
  rw [ft,gl];unfold vat;have hi:onn (fun x:Int×Int×Int=>x.1) (fun x=>x.2.1) n x=true↔(sp3 x).Lo≤n∧n≤(sp3 x).Hi:=eW
  cases h:onn (fun x:Int×Int×Int=>x.1) (fun x=>x.2.1) n x with
  | true=>rw [ad (hi.1 h)]; rfl
  | false=>
   rw [af (fun h2=>by rw [hi.2 h2] at h; cases h)];exact ih
theorem lQ (n:Int):vat n (pT.map sp1)=if pic n=true then 1 else 0:=by
 unfold pic fnd;generalize pT=T
 induction T with
 | nil=>rfl
 | cons x T ih=>
  rw [ft,gl];unfold vat;have hi:onn (fun x:Int×Int=>x.1) (fun x=>x.2) n x=true↔(sp1 x).Lo≤n∧n≤(sp1 x).Hi:=eW
  cases h:onn (fun x:Int×Int=>x.1) (fun x=>x.2) n x with
  | true=>rw [ad (hi.1 h)]; rfl
  | false=>
   rw [af (fun h2=>by rw [hi.2 h2] at h; cases h)];exact ih
def tms (k:Int) (l:List aa):List aa:=l.map fun s=>⟨s.Lo,s.Hi,s.Val * k⟩
theorem lP (k n:Int) (l:List aa):vat n (tms k l)=vat n l * k:=by
 unfold tms
 induction l with
 | nil=>simp [vat]
 | cons s l ih=>
  rw [ft];unfold vat;split
  ·rfl
  ·exact ih
def gS:List aa:=fw (gT.map sp3)
def pS:List aa:=fw (pT.map sp1)
def cS:List aa:=fw (cT.map sp3)
def eS:List aa:=fw (eT.map sp3)
theorem oc:dA=some gS:=by kernel_rfl
theorem nT:dl=some pS:=by kernel_rfl
theorem ot:dq=some cS:=by kernel_rfl
theorem oh:dp=some eS:=by kernel_rfl
theorem mY:ca pS 16=some (tms 16 pS):=by kernel_rfl
theorem nr:ca cS 32=some (tms 32 cS):=by kernel_rfl
theorem ms:ca eS 128=some (tms 128 eS):=by kernel_rfl
theorem oV:rt (-1) (gT.map sp3)=true:=by kernel_rfl
theorem oM:rt (-1) (pT.map sp1)=true:=by kernel_rfl
theorem ph:rt (-1) (cT.map sp3)=true:=by kernel_rfl
theorem pa:rt (-1) (eT.map sp3)=true:=by kernel_rfl
theorem oU (n:Int):vat n gS=(lk gT n).getD 0:=by rw [gS,(eY oV).2.2.1,ju]
theorem oL (n:Int):vat n pS=if pic n=true then 1 else 0:=by rw [pS,(eY oM).2.2.1,lQ]
theorem pf (n:Int):vat n cS=(lk cT n).getD 0:=by rw [cS,(eY ph).2.2.1,ju]
theorem o9 (n:Int):vat n eS=(lk eT n).getD 0:=by rw [eS,(eY pa).2.2.1,ju]
def i9:List (List aa):=[gS,tms 16 pS,tms 32 cS,tms 128 eS]
theorem nf:∀x∈i9,rt (-1) x=true:=by
 have:i9.all (rt (-1))=true:=by kernel_rfl
 exact List.all_eq_true.1 this
theorem ng:∀x∈i9,x.length≤400:=by
 have:i9.all (fun x=>decide (x.length≤400))=true:=by kernel_rfl
 exact fun x h=>by simpa using List.all_eq_true.1 this x h
def c4 (n:Int):Int:=(lk gT n).getD 0+(if pic n=true then 1 else 0) * 16+(lk cT n).getD 0 * 32+(lk eT n).getD 0 * 128
theorem lA (n:Int):sm n i9=c4 n:=by
 simp only [i9,sm,lP,oU,oL,pf,o9,c4];omega
theorem fx {l:List aa} {n:Int} (h:rt (-1) l=true) (hn:lh (-1) l < n):vat n l=0:=
 cq fun s hs=>by have:=ba h s hs; omega
theorem jD (n:Int):hcl n=0∨(9≤hcl n∧hcl n≤13):=by
 unfold hcl
 repeat' split
 all_goals omega
theorem im (lo hi:Int) (xs:List aa) (V:Int→Int) (h0:0≤lo) (h1:lo≤hi+1) (h2:hi≤100000) (hr:rt (-1) xs=true) (hh:lh (-1) xs < lo) (hV:∀n,vat n xs=V n) (hl:(xs.length:Int)≤lo):
  ∃ys,fi lo hi xs=some ys∧rt (-1) ys=true∧lh (-1) ys < hi+1∧(∀n,vat n ys=if lo≤n∧n≤hi then hcl n else V n)∧(ys.length:Int)≤hi+1:=by
 unfold fi;refine eE (n:=(hi+1 - lo).toNat) (fun i s=>s.2=lo+i∧rt (-1) s.1=true∧lh (-1) s.1 < lo+i∧(∀n,vat n s.1=if lo≤n∧n < lo+i then hcl n else V n)∧(s.1.length:Int)≤lo+i)
  (fun ys=>rt (-1) ys=true∧lh (-1) ys < hi+1∧(∀n,vat n ys=if lo≤n∧n≤hi then hcl n else V n)∧(ys.length:Int)≤hi+1) (fun i s hi' hI=> .inl ?_) (fun s hI=>?_) ?_ (by omega)
 ·obtain ⟨e,r1,r2,r3,r4⟩:=hI;obtain ⟨ys,q⟩:=s;simp only at e r1 r2 r3 r4;subst e;have hq:lo+(i:Int)≤hi:=by omega
  have hz:=fx r1 r2;simp only;rw [ad (by simpa using hq),show IntKind.i32.wrap (lo+(i:Int))=lo+i from kM (by omega),iB _ (by unfold r32; omega),ax (by omega)];simp only [bsm];by_cases hc:hcl (lo+(i:Int))=0
  ·rw [af (by simp [hc])];refine ⟨_,rfl,by simp only; omega,r1,by simp only; omega,fun n=>?_,by simp only; omega⟩;simp only;by_cases hn:n=lo+i
   ·subst hn;rw [ad (by omega),hz,hc]
   ·rw [r3 n];by_cases hm:lo≤n∧n < lo+i
    ·rw [ad hm,ad (by omega)]
    ·rw [af hm,af (by omega)]
  ·have hv:=jD (lo+(i:Int));rw [ad (by simp [hc]),fq (by simp only [an,aC]; omega)];simp only [bsm];have hrt:rt (-1) (ys++ [⟨lo+i,lo+i,hcl (lo+i)⟩])=true:=by
    rw [dr,r1,fu];simp only [rt,mE,ac,ag];exact ⟨r2,bi.2 ⟨by simp only; omega,by simp only; omega,by simp only; omega,by simp only; omega⟩⟩
   refine ⟨_,rfl,by simp only; omega,hrt,?_,fun n=>?_,by simp only [am,an,aC]; omega⟩
   ·simp only [fh,lh]; omega
   ·simp only;by_cases hn:n=lo+i
    ·subst hn;rw [ad (by omega),cw fun s hs=>by have:=ba r1 s hs; omega];simp [vat]
    ·rw [cL fun s hs=>by
      simp only [dj] at hs;subst hs;simp only;omega,r3 n]
     by_cases hm:lo≤n∧n < lo+i
     ·rw [ad hm,ad (by omega)]
     ·rw [af hm,af (by omega)]
 ·obtain ⟨e,r1,r2,r3,r4⟩:=hI;have e2:s.2=hi+1:=by omega
  rw [e2,af (by simp; omega)];refine ⟨_,rfl,r1,by omega,fun n=>?_,by omega⟩;rw [r3 n];by_cases hm:lo≤n∧n≤hi
  ·rw [ad hm,ad (by omega)]
  ·rw [af hm,af (by omega)]
 ·refine ⟨by simp,hr,by simpa using hh,fun n=>?_,by simpa using hl⟩;rw [af (by omega)];exact hV n
theorem il:∃y,cj=some y∧rt (-1) y=true∧(∀n,vat n y=hcl n)∧y.length≤60000:=by
 obtain ⟨a,a1,a2,a3,a4,a5⟩:=im 4352 4607 [] (fun _=>0) (by decide) (by decide) (by decide) rfl (by decide) (fun n=>rfl) (by decide);obtain ⟨b,b1,b2,b3,b4,b5⟩:=im 43360 43388 a _ (by decide) (by decide) (by decide) a2 (by omega) a4 (by omega);obtain ⟨c,c1,c2,c3,c4,c5⟩:=im 44032 55291 b _ (by decide) (by decide) (by decide) b2 (by omega) b4 (by omega);unfold cj;rw [a1];simp only [bsm];rw [b1];simp only [bsm];rw [c1];simp only [bsm];rw [kw (by omega),ad c2];obtain ⟨f1,f2,f3,f4,f5⟩:=eY c2;refine ⟨_,rfl,f1.r,fun n=>?_,by omega⟩;rw [f3,c4];unfold hcl
 repeat' split
 all_goals omega
theorem jN:aY=some true:=by kernel_rfl
def pok (p:av):Prop:=(0≤p.Break∧p.Break≤13)∧(0≤p.Conj∧p.Conj≤3)∧(0≤p.East∧p.East≤3)
instance (p:av):Decidable (pok p):=by unfold pok; infer_instance
def cod (p:av):Int:=p.East * 128+p.Conj * 32+(if p.Pict=true then 16 else 0)+p.Break
theorem mf (c:Int) (hc:0≤c) (h2:c≤511) (h3:c % 16≤13):cb c=some ⟨c % 16,c / 16 % 2==1,c / 32 % 4,c / 128⟩:=by
 unfold cb;simp only [dL,bsm];have t1:c.tmod 16=c % 16:=bY hc;have d1:c.tdiv 16=c / 16:=bZ hc;have d2:c.tdiv 32=c / 32:=bZ hc;have d3:c.tdiv 128=c / 128:=bZ hc;rw [t1,d1,d2,d3,show w64 (c / 16)=c / 16 from ax (by omega),show w64 (c / 32)=c / 32 from ax (by omega),show w64 (c / 128)=c / 128 from ax (by omega)];rw [bY (show 0≤c / 16 by omega),bY (show 0≤c / 32 by omega)];rw [af (by simp; omega)]
theorem iF {p:av} (h:pok p):0≤cod p∧cod p≤511∧cod p % 16≤13∧(⟨cod p % 16,cod p / 16 % 2==1,cod p / 32 % 4,cod p / 128⟩:av)=p:=by
 obtain ⟨b,pi,c,e⟩:=p;unfold pok at h;unfold cod;simp only at h⊢;cases pi
 ·simp only [cD,iZ];refine ⟨by omega,by omega,by omega,?_⟩;rw [show (e * 128+c * 32+0+b) % 16=b by omega,show (e * 128+c * 32+0+b) / 16 % 2=0 by omega,show (e * 128+c * 32+0+b) / 32 % 4=c by omega,show (e * 128+c * 32+0+b) / 128=e by omega];rfl
 ·simp only [ne];refine ⟨by omega,by omega,by omega,?_⟩;rw [show (e * 128+c * 32+16+b) % 16=b by omega,show (e * 128+c * 32+16+b) / 16 % 2=1 by omega,show (e * 128+c * 32+16+b) / 32 % 4=c by omega,show (e * 128+c * 32+16+b) / 128=e by omega];rfl
theorem oT:gT.all (fun x=>decide (x.2.1 < 4352) || (decide (4607 < x.1) && decide (x.2.1 < 43360)) || (decide (43388 < x.1) && decide (x.2.1 < 44032)) || decide (55291 < x.1))=true:=by kernel_rfl
theorem na (n:Int):(lk gT n).getD 0+hcl n=(lk gT n).getD (hcl n):=by
 cases h:lk gT n with
 | none=>simp
 | some v=>
  have:hcl n=0:=by
   unfold lk at h;obtain ⟨x,hx,_⟩:=Option.map_eq_some_iff.1 h;obtain ⟨h1,h2⟩:=iC hx;have h3:=List.all_eq_true.1 oT x h1;rw [eW] at h2;simp only [cg,ac,ag] at h3;unfold hcl
   repeat' split
   all_goals omega
  rw [this];simp
theorem iE (n:Int):c4 n+hcl n=cod (pr n):=by
 have h:=na n;unfold c4 cod pr;simp only
 cases pic n <;> simp <;> omega
theorem jQ (n:Int):pok (pr n):=by
 unfold pok pr;simp only;refine ⟨?_,?_,?_⟩
 ·cases h:lk gT n with
  | none=>have:=jD n; simp; omega
  | some v=>have:=hH (p:=fun v=>decide (1≤v) && decide (v≤8)) n9 h; simp at this⊢; omega
 ·cases h:lk cT n with
  | none=>simp
  | some v=>have:=hH (p:=fun v=>decide (1≤v) && decide (v≤3)) oo h; simp at this⊢; omega
 ·cases h:lk eT n with
  | none=>simp
  | some v=>have:=hH (p:=fun v=>decide (1≤v) && decide (v≤3)) oe h; simp at this⊢; omega
theorem mc (n:Int):cb (cod (pr n))=some (pr n):=by
 obtain ⟨h1,h2,h3,h4⟩:=iF (jQ n);rw [mf _ h1 h2 h3,h4]
theorem oE:∃s,cK i9=some s∧rt (-1) s=true∧s.length≤10000∧∀n,vat n s=c4 n:=by
 obtain ⟨s,h1,_,h2⟩:=mQ ng (by decide);obtain ⟨g1,g2,g3,_⟩:=h2 nf;refine ⟨s,h1,g1.r,g2,fun n=>?_⟩;rw [g3 fun m=>?_,lA];rw [lA];obtain ⟨_,k2,_⟩:=iF (jQ m);have:=iE m;have:=jD m;omega
def drp (p:Int):List aa→List aa
 | []=>[]
 | s :: l=>if s.Hi < p then drp p l else s :: l
theorem mu (p:Int) (l:List aa):eI l p=some (drp p l):=by
 unfold eI;have key:∀(l:List aa) (k:Nat),l.length < k→aU (σ:=List aa) (τ:=List aa) k (fun l=>
   (cW (decide ((l.length:Int) > 0)) ((idx l 0).bind fun s=>some (decide (s.Hi < p)))).bind fun d=>
   if d=true then (slc l 1 l.length).bind fun l'=>some (.inl l') else some (.inr l)) l=some (drp p l):=by
  intro l
  induction l with
  | nil=>
   intro k hk;obtain ⟨k,rfl⟩:∃j,k=j+1:=⟨k - 1,by simp at hk; omega⟩;rfl
  | cons s l ih=>
   intro k hk;obtain ⟨k,rfl⟩:∃j,k=j+1:=⟨k - 1,by simp at hk; omega⟩;unfold aU;have e1:decide (((s :: l).length:Int) > 0)=true:=by simp
   have e2:idx (s :: l) 0=some s:=rfl;have e3:slc (s :: l) 1 (s :: l).length=some l:=by
    unfold slc;rw [ad ⟨by omega,by simp only [an]; omega,by simp⟩];simp
   simp only [e1,e2,e3,cW,ne,fO];unfold drp;by_cases h:s.Hi < p
   ·rw [ad (by simpa using h),ad h];exact ih k (by simp at hk; omega)
   ·rw [af (by simpa using h),af h];rfl
 exact key l _ (by omega)
theorem eV {l:List aa} {p q:Int} (h:rt p l=true) (hq:q≤p):rt q l=true:=by
 cases l with
 | nil=>rfl
 | cons s l=>
  simp only [rt,ac,ag] at h⊢;exact ⟨⟨by omega,h.1.2⟩,h.2⟩
def lyU (l:List aa) (lo hi v:Int):List aa:=if lo > hi then l else l++ [⟨lo,hi,v⟩]
theorem iv {l:List aa} (hl:l.length≤1000000) (lo hi v:Int):cI l lo hi v=some (lyU l lo hi v):=by
 unfold cI lyU;by_cases h:lo > hi
 ·rw [ad (by simpa using h),ad h]
 ·rw [af (by simpa using h),af h,fq (by simp only [an,aC]; omega)];rfl
theorem gx (l:List aa) (lo hi v:Int):(lyU l lo hi v).length≤l.length+1:=by
 unfold lyU; split <;> simp
theorem m9 {l:List aa} {lo hi v:Int} (h:rt (-1) l=true) (h1:lh (-1) l < lo) (h2:hi≤1114111) (h3:1≤v) (h4:v≤65535):
  rt (-1) (lyU l lo hi v)=true∧lh (-1) (lyU l lo hi v)=(if lo > hi then lh (-1) l else hi)∧∀n,vat n (lyU l lo hi v)=vat n l+(if lo≤n∧n≤hi then v else 0):=by
 unfold lyU;by_cases hc:lo > hi
 ·rw [ad hc,ad hc];exact ⟨h,rfl,fun n=>by rw [af (by omega),js]⟩
 ·rw [af hc,af hc];refine ⟨?_,by simp only [fh,lh],fun n=>?_⟩
  ·rw [dr,h,fu];simp only [rt,mE,ac,ag];exact ⟨h1,bi.2 ⟨by simp only; omega,h2,h3,h4⟩⟩
  ·by_cases hn:lo≤n∧n≤hi
   ·rw [ad hn,cw fun s hs=>by have:=ba h s hs; omega,fx h (by omega)];simp [vat,hn]
   ·rw [af hn,cL fun s hs=>by
     simp only [dj] at hs;subst hs;simp only;omega,js]
theorem nc {σ τ:Type} {x:Option (σ ⊕ τ)} {A:σ→Prop} (h:∃r,x=some r∧∃s',r= .inl s'∧A s'):∃s',x=some (.inl s')∧A s':=by
 obtain ⟨r,h1,s',rfl,h2⟩:=h;exact ⟨s',h1,h2⟩
structure Fr (W:Int→Int) (out:List aa) (e:Int):Prop where
 p:0≤e
 r:rt (-1) out=true
 h:lh (-1) out < e
 v:∀n,n < e→vat n out=W n
theorem Fr.lay {W:Int→Int} {out:List aa} {e:Int} (F:Fr W out e) (e':Int) {lo hi v:Int} (h1:e≤e') (h2:∀n,e≤n→n < e'→W n=if lo≤n∧n≤hi then v else 0)
  (h3:lo≤hi→e≤lo∧hi < e'∧hi≤1114111∧1≤v∧v≤65535):Fr W (lyU out lo hi v) e':=by
 by_cases hc:lo > hi
 ·have e1:lyU out lo hi v=out:=by unfold lyU; rw [ad hc]
  rw [e1];refine ⟨by have:=F.p; omega,F.r,by have:=F.h; omega,fun n hn=>?_⟩;by_cases hn2:n < e
  ·exact F.v n hn2
  ·rw [fx F.r (by have:=F.h; omega),h2 n (by omega) hn,af (by omega)]
 ·obtain ⟨g1,g2,g3,g4,g5⟩:=h3 (by omega);obtain ⟨a1,a2,a3⟩:=m9 (lo:=lo) (hi:=hi) F.r (by have:=F.h; omega) g3 g4 g5;rw [af hc] at a2;refine ⟨by have:=F.p; omega,a1,by omega,fun n hn=>?_⟩;rw [a3];by_cases hn2:n < e
  ·rw [F.v n hn2,af (by omega),js]
  ·rw [fx F.r (by have:=F.h; omega),h2 n (by omega) hn,Int.zero_add]
theorem dc {p:Int} {s:aa} {l:List aa}:rt p (s :: l)=true↔p < s.Lo∧sok s=true∧rt s.Hi l=true:=by
 simp only [rt,ac,ag,and_assoc]
theorem cM {n q:Int} {s:aa} {l:List aa} (h:rt q (s :: l)=true):vat n (s :: l)=(if s.Lo≤n∧n≤s.Hi then s.Val else 0)+vat n l:=by
 conv=>lhs; unfold vat
 rw [dc] at h;by_cases hc:s.Lo≤n∧n≤s.Hi
 ·rw [ad hc,ad hc,cq fun t ht=>by have:=ba h.2.2 t ht; omega];omega
 ·rw [af hc,af hc];omega
theorem db {n q:Int} {l:List aa} (h:rt q l=true) (hn:n≤q):vat n l=0:=cq fun t ht=>by have:=ba h t ht; omega
theorem lu {a b0:List aa} (ha:rt (-1) a=true) (hb:rt (-1) b0=true) (la:a.length≤10000) (lb:b0.length≤60000) (hs:∀n,vat n a+vat n b0≤65535):
  ∃r,dg a b0=some r∧rt (-1) r=true∧r.length≤300000∧∀n,vat n r=vat n a+vat n b0:=by
 generalize hW:(fun n=>vat n a+vat n b0)=W at *;have hs':∀n,W n≤65535:=fun n=>by rw [←hW]; exact hs n
 unfold dg;refine fV (n:=a.length) (fun i s=>s.2.2.2=(i:Int)∧s.1.length=b0.length∧∃(t:Nat) (e:Int),s.2.2.1=(t:Int)∧t≤b0.length∧s.2.1.length≤3 * t+4 * i∧Fr W s.2.1 e∧rt (e - 1) (s.1.drop t)=true∧rt (e - 1) (a.drop i)=true∧∀n,e≤n→W n=vat n (s.1.drop t)+vat n (a.drop i))
  (fun u=>u.1.length=b0.length∧∃(t:Nat) (e:Int),u.2.2=(t:Int)∧t≤b0.length∧u.2.1.length≤3 * t+4 * a.length∧Fr W u.2.1 e∧rt (e - 1) (u.1.drop t)=true∧∀n,e≤n→W n=vat n (u.1.drop t)) (fun i s hi hI=> .inl ?_) (fun s hI=>?_) ?_ (by omega) (fun u hu=>?_)
 ·obtain ⟨b,out,at_,i'⟩:=s;obtain ⟨rfl,hbl,t,e,rfl,ht,hlen,F,rb,ra,hv⟩:=hI;simp only at hbl ht hlen F rb ra hv⊢;rw [ad (dlt hi),cr hi];simp only [bsm];rw [aA hi] at ra hv;have hc0:=(ba ha _ (a9 hi)).1;generalize a[i]=c at ra hv hc0⊢;generalize a.drop (i+1)=a' at ra hv⊢;have ra0:=dc.1 ra;have hc:=bi.1 ra0.2.1;have hmem:∀{l:List aa} {k:Nat} (h:k < l.length),l.drop k=l[k] :: l.drop (k+1):=fun h=>aA h;refine nc (fU (fun st=>∃(t:Nat) (e:Int),st.2=(t:Int)∧t≤b0.length∧st.1.length≤3 * t+4 * i∧Fr W st.1 e∧rt (e - 1) (b.drop t)=true∧rt (e - 1) (c :: a')=true∧∀n,e≤n→W n=vat n (b.drop t)+vat n (c :: a'))
   (fun st=>((b.length:Int) - st.2).toNat) (fun st=>∃(t:Nat) (e:Int),st.2=(t:Int)∧t≤b0.length∧st.1.length≤3 * t+4 * i∧Fr W st.1 e∧rt (e - 1) (b.drop t)=true∧rt (e - 1) (c :: a')=true∧(∀n,e≤n→W n=vat n (b.drop t)+vat n (c :: a'))∧∀s∈b.drop t,c.Lo≤s.Hi)
   (fun st hI=>?_) ⟨t,e,rfl,ht,hlen,F,rb,ra,hv⟩ (by simp only; omega) (fun st hI=>?_))
  ·clear F rb ra hv hlen ht
   obtain ⟨out,at_⟩:=st;obtain ⟨t,e,rfl,ht,hlen,F,rb,ra,hv⟩:=hI;simp only at ht hlen F rb ra hv⊢;by_cases htb:t < b.length
   ·have hd:=hmem htb;rw [hd] at rb hv;rw [show decide ((t:Int) < (b.length:Int))=true from dlt htb,gb,cr htb];simp only [bsm];have rb0:=dc.1 rb;have hq:=bi.1 rb0.2.1;by_cases hx:b[t].Hi < c.Lo
    ·rw [ad (by simpa using hx),fq (by simp only [an,aC]; omega),ci htb (by omega)];simp only [bsm];refine .inl ⟨_,rfl,⟨t+1,b[t].Hi+1,rfl,by omega,by simp only [am,an,aC]; omega,?_,eV rb0.2.2 (by omega),dc.2 ⟨by omega,ra0.2⟩,fun n hn=>?_⟩,by omega⟩
     ·have:=F.lay (b[t].Hi+1) (lo:=b[t].Lo) (hi:=b[t].Hi) (v:=b[t].Val) (by omega) (fun n h1 h2=>?_) (fun _=>by omega)
      ·unfold lyU at this;rw [af (by omega)] at this;exact this
      ·rw [hv n h1,cM rb,db rb0.2.2 (by omega),cq fun s hs=>?_]
       ·omega
       ·rcases List.mem_cons.1 hs with rfl | hs
        ·omega
        ·have:=ba ra0.2.2 s hs;omega
     ·rw [hv n (by omega),cM rb,af (by omega)];omega
    ·rw [af (by simpa using hx)];refine .inr ⟨_,rfl,t,e,rfl,ht,hlen,F,by rw [hd]; exact rb,ra,fun n hn=>by rw [hd]; exact hv n hn,fun s hs=>?_⟩;rw [hd] at hs;rcases List.mem_cons.1 hs with rfl | hs
     ·omega
     ·have:=ba rb0.2.2 s hs;omega
   ·rw [show decide ((t:Int) < (b.length:Int))=false by simp; omega,dV];simp only [bsm];rw [af (by simp)];exact .inr ⟨_,rfl,t,e,rfl,ht,hlen,F,rb,ra,hv,fun s hs=>by rw [nE (by omega)] at hs; cases hs⟩
  ·clear F rb ra hv hlen ht
   obtain ⟨out,at_⟩:=st;obtain ⟨t,e,rfl,ht,hlen,F,rb,ra,hv,hh⟩:=hI;simp only at ht hlen F rb ra hv hh⊢;have ra1:=dc.1 ra;refine fU (fun st=>∃(t:Nat) (e:Int),st.2.1=(t:Int)∧t≤b0.length∧st.1.length≤3 * t+4 * i∧Fr W st.1 e∧rt (e - 1) (b.drop t)=true∧e≤st.2.2∧c.Lo≤st.2.2∧st.2.2≤c.Hi+1∧(st.2.2=c.Lo∨st.2.2=e)∧
     (∀n,e≤n→W n=vat n (b.drop t)+(if st.2.2≤n∧n≤c.Hi then c.Val else 0)+vat n a')∧∀s∈b.drop t,st.2.2≤s.Hi)
    (fun st=>((b.length:Int) - st.2.1).toNat)
    (fun u=>u.1.length=b0.length∧∃t:Nat,u.2.2.1=(t:Int)∧t≤b0.length∧u.2.1.length≤3 * t+4 * i+3∧(-1000000000≤u.2.2.2∧u.2.2.2≤1000000000)∧Fr W (lyU u.2.1 u.2.2.2 c.Hi c.Val) (c.Hi+1)∧rt c.Hi (u.1.drop t)=true∧∀n,c.Hi+1≤n→W n=vat n (u.1.drop t)+vat n a')
    (fun st hI=>?_) ⟨t,e,rfl,ht,hlen,F,rb,by simp only; omega,fg _,by simp only; omega,.inl rfl,fun n hn=>?_,hh⟩ (by simp only; omega) (fun u hu=>?_)
   ·clear F rb hv hlen ht hh ra ra1
    obtain ⟨out,at_,fr⟩:=st;obtain ⟨t,e,rfl,ht,hlen,F,rb,g1,g2,g3,g4,hv,hh⟩:=hI;simp only at ht hlen F rb g1 g2 g3 g4 hv hh⊢;have hout:(∀s∈b.drop t,c.Hi < s.Lo)→∃x,(some (Sum.inr (b,out,(t:Int),fr)):Option ((List aa×Int×Int) ⊕ (List aa×List aa×Int×Int)))=some (.inr x)∧(x.1.length=b0.length∧∃t:Nat,x.2.2.1=(t:Int)∧t≤b0.length∧x.2.1.length≤3 * t+4 * i+3∧(-1000000000≤x.2.2.2∧x.2.2.2≤1000000000)∧Fr W (lyU x.2.1 x.2.2.2 c.Hi c.Val) (c.Hi+1)∧rt c.Hi (x.1.drop t)=true∧∀n,c.Hi+1≤n→W n=vat n (x.1.drop t)+vat n a'):=fun hn=>by
     have F1:Fr W (lyU out fr c.Hi c.Val) (c.Hi+1):=F.lay _ (by omega) (fun n h1 h2=>by
      rw [hv n h1,cq fun s hs=>by have:=hn s hs; omega,db ra0.2.2 (by omega)];omega) (fun _=>by omega)
     refine ⟨_,rfl,hbl,t,rfl,ht,by simp only; omega,by simp only; omega,F1,?_,fun n h1=>?_⟩
     ·simp only;generalize b.drop t=r at rb hn
      cases r with
      | nil=>rfl
      | cons s r=>exact dc.2 ⟨hn s (by simp),(dc.1 rb).2⟩
     ·rw [hv n (by omega),af (by omega)];simp only;omega
    by_cases htb:t < b.length
    ·have hd:=hmem htb;rw [show decide ((t:Int) < (b.length:Int))=true from dlt htb,gb,cr htb];simp only [bsm];rw [hd] at rb hv hh;have rb0:=dc.1 rb;have hq:=bi.1 rb0.2.1;have hset:∀y,(b.set t y).drop t=y :: b.drop (t+1):=fun y=>by
      rw [aA (by rw [dW]; exact htb)];rw [List.getElem_set_self,List.drop_set_of_lt (pE _)]
     have hfd:=hh b[t] (List.mem_cons_self ..);have hFp:=F.p;generalize b[t]=d at rb hv hh rb0 hq hfd hd⊢;by_cases hx:d.Lo≤c.Hi
     ·rw [ad (by simpa using hx),show w64 (c.Lo - 1)=c.Lo - 1 from ax (by omega),show w64 (d.Lo - 1)=d.Lo - 1 from ax (by omega),show w64 (d.Hi+1)=d.Hi+1 from ax (by omega),show w64 (c.Hi+1)=c.Hi+1 from ax (by omega),ax (n:=c.Val+d.Val) (by omega),iA,iA,jX,ci htb (by omega)];have F1:Fr W (lyU out d.Lo (min d.Hi (c.Lo - 1)) d.Val) fr:=F.lay fr g1 (fun n h1 h2=>by
       rw [hv n h1,cM rb,db rb0.2.2 (by omega),db ra0.2.2 (by omega),af (by omega:¬(fr≤n∧n≤c.Hi))];by_cases hz:d.Lo≤n
       ·rw [ad (by omega),ad (by omega)]; omega
       ·rw [af (by omega),af (by omega)]; omega) (fun _=>by omega)
      have F2:Fr W (lyU (lyU out d.Lo (min d.Hi (c.Lo - 1)) d.Val) fr (d.Lo - 1) c.Val) (max fr d.Lo):=F1.lay _ (by omega) (fun n h1 h2=>by
       rw [hv n (by omega),cM rb,db rb0.2.2 (by omega),db ra0.2.2 (by omega),ad (by omega:fr≤n∧n≤c.Hi)];rw [af (by omega),ad (by omega)]; omega) (fun _=>by omega)
      have hmid:∀n,max fr d.Lo≤n→n≤min d.Hi c.Hi→W n=c.Val+d.Val:=fun n h1 h2=>by
       rw [hv n (by omega),cM rb,db rb0.2.2 (by omega),db ra0.2.2 (by omega),ad (by omega:fr≤n∧n≤c.Hi),ad (by omega)]; omega
      have F3:Fr W (lyU (lyU (lyU out d.Lo (min d.Hi (c.Lo - 1)) d.Val) fr (d.Lo - 1) c.Val) (max d.Lo fr) (min d.Hi c.Hi) (c.Val+d.Val)) (min d.Hi c.Hi+1):=F2.lay _ (by omega) (fun n h1 h2=>by
       rw [hmid n h1 (by omega),ad (by omega)]) (fun _=>by
       have:=hs' (max fr d.Lo);rw [hmid _ (by omega) (by omega)] at this;omega)
      have l1:=gx out d.Lo (min d.Hi (c.Lo - 1)) d.Val;have l2:=gx (lyU out d.Lo (min d.Hi (c.Lo - 1)) d.Val) fr (d.Lo - 1) c.Val;have l3:=gx (lyU (lyU out d.Lo (min d.Hi (c.Lo - 1)) d.Val) fr (d.Lo - 1) c.Val) (max d.Lo fr) (min d.Hi c.Hi) (c.Val+d.Val);rw [iv (by omega)];simp only [bsm];rw [iv (by omega)];simp only [bsm];rw [iv (by omega)];simp only [bsm];by_cases hy:d.Hi > c.Hi
      ·rw [ad (by simpa using hy),gB htb];simp only [bsm];refine .inr ⟨_,rfl,by simp only [dW]; exact hbl,t,rfl,ht,by simp only; omega,by simp only; omega,?_,?_,fun n h1=>?_⟩
       ·have e1:∀l,lyU l (d.Hi+1) c.Hi c.Val=l:=fun l=>by unfold lyU; rw [ad (by omega)]
        simp only;rw [e1];rw [show min d.Hi c.Hi+1=c.Hi+1 by omega] at F3;exact F3
       ·simp only;rw [hset];exact dc.2 ⟨by simp only; omega,bi.2 (by simp only; omega),rb0.2.2⟩
       ·simp only;have hv':=hv n (by omega);rw [cM rb,af (by omega:¬(fr≤n∧n≤c.Hi))] at hv';rw [hset,hv',cM (s:=⟨c.Hi+1,d.Hi,d.Val⟩) (q:=c.Hi) (dc.2 ⟨by simp only; omega,bi.2 (by simp only; omega),rb0.2.2⟩)];simp only;by_cases hz:n≤d.Hi
        ·rw [ad (by omega),ad (by omega)]; omega
        ·rw [af (by omega),af (by omega)]; omega
      ·rw [af (by simpa using hy)];rw [show min d.Hi c.Hi=d.Hi by omega] at F3 l3⊢;refine .inl ⟨_,rfl,⟨t+1,d.Hi+1,rfl,by omega,by simp only; omega,F3,eV rb0.2.2 (by omega),by simp only; omega,by simp only; omega,by simp only; omega,.inr rfl,fun n h1=>?_,fun s hs=>?_⟩,by simp only; omega⟩
       ·simp only;rw [hv n (by omega),cM rb,af (by omega:¬(d.Lo≤n∧n≤d.Hi))];by_cases hz:n≤c.Hi
        ·rw [ad (by omega),ad (by omega)]; omega
        ·rw [af (by omega),af (by omega)]; omega
       ·have:=ba rb0.2.2 s hs;simp only;omega
     ·rw [af (by simpa using hx)];refine .inr (hout fun s hs=>?_);rw [hd] at hs;rcases List.mem_cons.1 hs with rfl | hs
      ·omega
      ·have:=ba rb0.2.2 s hs;omega
    ·rw [show decide ((t:Int) < (b.length:Int))=false by simp; omega,dV];simp only [bsm];rw [af (by simp)];exact .inr (hout fun s hs=>by rw [nE (by omega)] at hs; cases hs)
   ·simp only;rw [hv n hn,cM ra];omega
   ·obtain ⟨b',out',at',fr'⟩:=u;obtain ⟨k1,t',rfl,k2,k3,k4,k5,k6,k7⟩:=hu;simp only at k1 k2 k3 k4 k5 k6 k7⊢;rw [iv (by omega),ci hi (by omega)];simp only [bsm];have l1:=gx out' fr' c.Hi c.Val;refine ⟨_,rfl,_,rfl,rfl,k1,t',c.Hi+1,rfl,k2,by simp only; omega,k5,eV k6 (by omega),eV ra0.2.2 (by omega),k7⟩
 ·obtain ⟨b,out,at_,i'⟩:=s;obtain ⟨rfl,hbl,t,e,rfl,ht,hlen,F,rb,ra,hv⟩:=hI;simp only at hbl ht hlen F rb ra hv⊢;rw [af (by simp)];refine ⟨_,rfl,hbl,t,e,rfl,ht,hlen,F,rb,fun n hn=>?_⟩;rw [hv n hn,List.drop_length];simp [vat]
 ·refine ⟨rfl,rfl,0,0,rfl,aG _,by simp,⟨fg _,rfl,(by decide:(-1:Int) < 0),fun n hn=>?_⟩,by simpa using hb,by simpa using ha,fun n hn=>?_⟩
  ·rw [←hW];simp only;rw [db ha (by omega),db hb (by omega)];rfl
  ·rw [←hW];simp only [gQ];omega
 ·obtain ⟨b,out,at_⟩:=u;obtain ⟨hbl,t,e,rfl,ht,hlen,F,rb,hv⟩:=hu;simp only at hbl ht hlen F rb hv⊢;rw [mS (by omega) (aj _)];simp only [bsm];rw [bR (by simp),fq (by simp only [bT]; omega)];simp only [bsm];have hF:=F.h;refine ⟨_,rfl,?_,by simp only [am,bT]; omega,fun n=>?_⟩
  ·rw [dr,F.r,fu];exact eV rb (by omega)
  ·rw [show vat n a+vat n b0=W n by rw [←hW]];by_cases hn:n < e
   ·rw [cL fun s hs=>by have:=ba rb s hs; omega,F.v n hn]
   ·rw [cw fun s hs=>by have:=ba F.r s hs; omega,hv n (by omega)]
theorem ja {l:List aa} {q:Int} (p:Int) (h:rt q l=true):
  rt q (drp p l)=true∧(∀s∈drp p l,p≤s.Hi)∧(∀n,p≤n→vat n (drp p l)=vat n l)∧(drp p l).length≤l.length:=by
 induction l generalizing q with
 | nil=>exact ⟨rfl,by simp [drp],fun n _=>rfl,aj _⟩
 | cons s l ih=>
  have h0:=h;simp only [rt,ac,ag] at h;unfold drp;by_cases hs:s.Hi < p
  ·rw [ad hs];have hs2:=bi.1 h.1.2;obtain ⟨a1,a2,a3,a4⟩:=ih h.2;refine ⟨eV a1 (by omega),a2,fun n hn=>?_,by simp only [an]; omega⟩;rw [a3 n hn]
   conv=>rhs; unfold vat
   rw [af (by omega)]
  ·rw [af hs];refine ⟨h0,fun t ht=>?_,fun n _=>rfl,aj _⟩;rcases List.mem_cons.1 ht with rfl | ht
   ·omega
   ·have:=ba h.2 t ht;omega
theorem hU {σ τ:Type} {step:σ→Option (σ ⊕ τ)} {n:Nat} (Inv:Nat→σ→Prop) {t:τ} {fuel:Nat} {s:σ}
  (h:∀i s,i < n→Inv i s→(∃s',step s=some (.inl s')∧Inv (i+1) s')∨step s=some (.inr t)) (hend:∀s,Inv n s→step s=some (.inr t)) (h0:Inv 0 s) (hf:n < fuel):aU fuel step s=some t:=by
 obtain ⟨t',h1,h2⟩:=eE Inv (fun x=>x=t) (fun i s hi hI=>(h i s hi hI).imp id fun h=>⟨t,h,rfl⟩) (fun s hI=>⟨t,hend s hI,rfl⟩) h0 hf;rw [h1,h2]
def pg (p:Int) (f:Int→Int):List Int:=(List.range 256).map fun (j:Nat)=>f (p+(j:Int))
theorem gE (p:Int) (f:Int→Int):(pg p f).length=256:=by simp [pg]
theorem gF {p:Int} {f:Int→Int} {j:Nat} (h:j < 256):(pg p f)[j]? = some (f (p+(j:Int))):=by
 unfold pg;rw [ff,gZ h];rfl
theorem dS {p:Int} {f g:Int→Int} (h:∀n,p≤n→n < p+256→f n=g n):pg p f=pg p g:=by
 unfold pg;refine oB fun j hj=>?_;rw [List.mem_range] at hj;exact h _ (by omega) (by omega)
theorem eD (p v:Int):pg p (fun _=>v)=List.replicate 256 v:=by
 unfold pg;rw [List.map_const',pw]
theorem mW {p n v:Int} {f:Int→Int} (h1:p≤n) (h2:n < p+256):gV (pg p f) (n - p) v=some (pg p fun m=>if m=n then v else f m):=by
 obtain ⟨k,hk⟩:∃k:Nat,n - p=(k:Int):=⟨(n - p).toNat,by omega⟩;have hk2:k < (pg p f).length:=by rw [gE]; omega
 rw [hk,gB hk2]
 congr 1
 refine py fun j=>?_;rw [List.getElem?_set];by_cases hj:j < 256
 ·rw [gF hj,gF hj];by_cases e:k=j
  ·subst e;rw [ad rfl,ad hk2,ad (by omega)]
  ·rw [af e,af (by omega)]
 ·rw [gt (l:=pg p f) (by rw [gE]; omega),gt (l:=pg p _) (by rw [gE]; omega)];rw [af (by omega)]
theorem mP {v:Int} (h:0≤v∧v≤65535):IntKind.u16.wrap v=v:=by
 have:v % 65536=v:=pC h.1 (by omega);simpa [IntKind.wrap,IntKind.bits,IntKind.signed] using this
theorem lB {s:aa} {p:Int} {f:Int→Int} (hs:sok s=true) (h0:0≤p) (h1:p≤1113856) (h2:p≤s.Hi) (h3:s.Lo < p+256):
  gz s p (pg p f)=some (pg p fun n=>if s.Lo≤n∧n≤s.Hi then s.Val else f n):=by
 have hk:=bi.1 hs;unfold gz;have e0:w64 (w64 (p+256) - 1)=p+255:=by rw [show w64 (p+256)=p+256 from ax (by omega),ax (by omega)]; omega
 rw [e0,iA,jX,mP (by omega)];obtain ⟨k,hk2⟩:∃k:Nat,min s.Hi (p+255)+1 - max s.Lo p=(k:Int):=⟨(min s.Hi (p+255)+1 - max s.Lo p).toNat,by omega⟩;refine hU (n:=k) (fun i st=>st=(pg p (fun n=>if max s.Lo p≤n∧n < max s.Lo p+(i:Int) then s.Val else f n),max s.Lo p+(i:Int))) (fun i st hi hI=> .inl ?_) (fun st hI=>?_) ?_ (by omega)
 ·subst hI;simp only;rw [ad (by simp only [ag]; omega),show w64 (max s.Lo p+(i:Int) - p)=max s.Lo p+(i:Int) - p from ax (by omega),mW (by omega) (by omega),show w64 (max s.Lo p+(i:Int)+1)=max s.Lo p+((i+1:Nat):Int) from by rw [ax (by omega)]; omega];refine ⟨_,rfl,?_⟩;rw [ck];refine ⟨dS fun n _ _=>?_,rfl⟩;by_cases e:n=max s.Lo p+(i:Int)
  ·rw [ad e,ad (by omega)]
  ·rw [af e];by_cases e2:max s.Lo p≤n∧n < max s.Lo p+(i:Int)
   ·rw [ad e2,ad (by omega)]
   ·rw [af e2,af (by omega)]
 ·subst hI;simp only;rw [af (by simp only [ag]; omega)];refine fI some (fI Sum.inr (dS fun n _ _=>?_));by_cases e2:s.Lo≤n∧n≤s.Hi
  ·rw [ad e2,ad (by omega)]
  ·rw [af e2,af (by omega)]
 ·rw [ck];refine ⟨dS fun n _ _=>?_,by omega⟩;rw [af (by omega)]
theorem kO {q:Int} {l:List aa} {k:Nat} (h:rt q l=true) (hk:k < l.length) (n:Int):vat n (l.take (k+1))=if l[k].Lo≤n∧n≤l[k].Hi then l[k].Val else vat n (l.take k):=by
 rw [ak hk];have h2:=gv h (k+1);rw [ak hk,dr,ac] at h2;have h3:=h2.2;simp only [rt,ac,ag] at h3;by_cases e:l[k].Lo≤n∧n≤l[k].Hi
 ·rw [ad e,cw fun s hs=>by have:=ba h2.1 s hs; omega];simp [vat,e]
 ·rw [af e,cL fun s hs=>by rw [dj] at hs; subst hs; omega]
theorem kN {q p:Int} {l:List aa} {k:Nat} (h:rt q l=true) (hk:k < l.length) (hp:p≤l[k].Lo) {n:Int} (hn:n < p):vat n (l.take k)=vat n l:=by
 conv=>rhs; rw [←bh k l]
 rw [cL fun s hs=>?_];have h2:rt q (l.take k++l.drop k)=true:=by rw [bh]; exact h
 rw [aA hk,dr,ac] at h2;have h3:=h2.2;simp only [rt,ac,ag] at h3;rw [aA hk] at hs;rcases List.mem_cons.1 hs with rfl | hs
 ·omega
 ·have:=ba h3.2 s hs;have:=bi.1 h3.1.2;omega
theorem ml {l:List aa} {p:Int} (hr:rt (-1) l=true) (hl:l.length≤1000000) (hp:∀s∈l,p≤s.Hi) (h0:0≤p) (h1:p≤1113856):eG l p=some (pg p fun n=>vat n l):=by
 unfold eG;have e0:w64 (p+256)=p+256:=ax (by omega);rw [e0];refine hU (n:=l.length) (fun i st=>st=(pg p (fun n=>vat n (l.take i)),(i:Int))) (fun i st hi hI=>?_) (fun st hI=>?_) ?_ (by omega)
 ·subst hI;simp only;rw [ad (dlt hi),cr hi];simp only [bsm];have hm:=a9 hi;have hs:=ba hr _ hm;by_cases hg:l[i].Lo≥p+256
  ·rw [ad (by simpa using hg)];exact .inr (fI some (fI Sum.inr (dS fun n _ hn=>kN hr hi (p:=p+256) (by omega) hn)))
  ·rw [af (by simpa using hg),lB (bi.2 (by omega)) h0 h1 (hp _ hm) (by omega),ci hi (by omega)];refine .inl ⟨_,rfl,?_⟩;rw [ck];exact ⟨dS fun n _ _=>by rw [kO hr hi],rfl⟩
 ·subst hI;simp only;rw [af (by simp)];rw [aO]
 ·rw [ck];exact ⟨(eD p 0).symm,rfl⟩
theorem jO {l:List aa} {p:Int} (hr:rt (-1) l=true):(0≤(wh l p).1∧(wh l p).1≤65535)∧((wh l p).2=true→(pg p fun n=>vat n l)=List.replicate 256 (wh l p).1):=by
 cases l with
 | nil=>
  refine ⟨by simp [wh],fun _=>?_⟩;rw [←eD p];rfl
 | cons s l=>
  have hs:=ba hr s (by simp);unfold wh;simp only;by_cases h1:s.Lo≥p+256
  ·rw [ad h1];refine ⟨by simp,fun _=>?_⟩;rw [←eD p];refine dS fun n _ hn=>cq fun t ht=>?_;rcases List.mem_cons.1 ht with rfl | ht
   ·omega
   ·simp only [rt,ac] at hr;have:=ba hr.2 t ht;omega
  ·rw [af h1];by_cases h2:s.Lo≤p
   ·rw [ad h2];by_cases h3:s.Hi≥p+255
    ·rw [ad h3];refine ⟨by simp only; omega,fun _=>?_⟩;rw [←eD p];refine dS fun n _ _=>?_;unfold vat;rw [ad (by omega)]
    ·rw [af h3];exact ⟨by simp,fun h=>by cases h⟩
   ·rw [af h2];exact ⟨by simp,fun h=>by cases h⟩
theorem iN {bl:List (List Int)} {x y:List Int} {k:Nat} (h:bl[k]? = some y):(adB bl x)[k]? = some y:=by
 unfold adB; split
 ·exact h
 ·rw [az (List.getElem?_eq_some_iff.1 h).1]; exact h
theorem ka (bl:List (List Int)) (x:List Int):(adB bl x)[bl.idxOf x]? = some x:=by
 unfold adB; split
 ·rename_i h
  have hl:=List.idxOf_lt_length_of_mem h;rw [ai hl,List.getElem_idxOf hl]
 ·rename_i h
  rw [oy h,aE (aj _)];simp
theorem nu {bl:List (List Int)} (x:List Int) (h:bl.Nodup):(adB bl x).Nodup:=by
 unfold adB; split
 ·exact h
 ·rename_i hx
  rw [List.nodup_append];refine ⟨h,by simp,fun a ha b hb=>?_⟩;rw [dj] at hb;subst hb;exact fun e=>hx (e▸ ha)
theorem nt {bl:List (List Int)} {x y:List Int} (h:y∈adB bl x):y∈bl∨y=x:=by
 unfold adB at h; split at h
 ·exact .inl h
 ·simpa using h
structure PsI (X:Nat→List Int) (i:Nat) (s:PS):Prop where
 nd:s.bl.Nodup
 ln:s.fs.length=i
 fs:∀j,j < i→∃k:Nat,s.fs[j]? = some (k:Int)∧s.bl[k]? = some (X j)
 bl:∀x∈s.bl,∃j,j < i∧x=X j
 ev:∀v y,s.ev v=some y→∃k:Nat,y=(k:Int)∧s.bl[k]? = some (List.replicate 256 v)
theorem ma (L:Nat→List aa) (X:Nat→List Int) (N:Nat) (hw:∀i:Nat,i < N→(wh (L (i+1)) (256 * i)).2=true→X i=List.replicate 256 (wh (L (i+1)) (256 * i)).1):
  ∀i,i≤N→PsI X i (pst L X i):=by
 intro i
 induction i with
 | zero=>exact fun _=>⟨by simp [pst],rfl,fun j hj=>by omega,by simp [pst],fun v y h=>by simp [pst] at h⟩
 | succ i ih=>
  intro hi;have I:=ih (by omega);have hwi:=hw i (by omega);unfold pst;generalize pst L X i=s at I⊢;generalize (wh (L (i+1)) (256 * i)).1=v at hwi⊢;generalize (wh (L (i+1)) (256 * i)).2=e at hwi⊢;by_cases hc:e=true∧(s.ev v).isSome=true
  ·rw [ad hc];obtain ⟨y,hy⟩:=Option.isSome_iff_exists.1 hc.2;obtain ⟨k,hk1,hk2⟩:=I.ev v y hy;refine ⟨I.nd,by simp [I.ln],fun j hj=>?_,fun x hx=>?_,I.ev⟩
   ·by_cases e:j=i
    ·subst e;refine ⟨k,?_,by rw [hwi hc.1]; exact hk2⟩;simp only;rw [aE (by rw [I.ln]; exact aj _),I.ln,jo,hy];simp [hk1]
    ·obtain ⟨k,a1,a2⟩:=I.fs j (by omega);exact ⟨k,by simp only; rw [az (by rw [I.ln]; omega)]; exact a1,a2⟩
   ·obtain ⟨j,a1,a2⟩:=I.bl x hx;exact ⟨j,by omega,a2⟩
  ·rw [af hc];refine ⟨nu _ I.nd,by simp [I.ln],fun j hj=>?_,fun x hx=>?_,fun w y hy=>?_⟩
   ·by_cases e:j=i
    ·subst e;refine ⟨s.bl.idxOf (X j),?_,ka _ _⟩;simp only;rw [aE (by rw [I.ln]; exact aj _),I.ln,jo];rfl
    ·obtain ⟨k,a1,a2⟩:=I.fs j (by omega);exact ⟨k,by simp only; rw [az (by rw [I.ln]; omega)]; exact a1,iN a2⟩
   ·rcases nt hx with h | h
    ·obtain ⟨j,a1,a2⟩:=I.bl x h;exact ⟨j,by omega,a2⟩
    ·exact ⟨i,by omega,h⟩
   ·simp only at hy;by_cases he:e=true
    ·rw [ad he] at hy;by_cases hv:w=v
     ·rw [ad hv] at hy;subst hv;cases hy;exact ⟨_,rfl,by rw [←hwi he]; exact ka _ _⟩
     ·rw [af hv] at hy;obtain ⟨k,a1,a2⟩:=I.ev w y hy;exact ⟨k,a1,iN a2⟩
    ·rw [af he] at hy;obtain ⟨k,a1,a2⟩:=I.ev w y hy;exact ⟨k,a1,iN a2⟩
theorem lr {α:Type} [DecidableEq α]:∀{a b:List α},a.Nodup→(∀x∈a,x∈b)→a.length≤b.length:=by
 intro a
 induction a with
 | nil=>intro b _ _; exact aG _
 | cons x a ih=>
  intro b hn hs;rw [pJ] at hn;have hx:=hs x (by simp);have h1:=ih (b:=b.erase x) hn.2 fun y hy=>by
   have hne:y≠x:=fun e=>hn.1 (e▸ hy);exact (List.mem_erase_of_ne hne).2 (hs y (by simp [hy]))
  have h2:=List.length_erase_of_mem hx;have h3:=List.length_pos_of_mem hx;simp only [an];omega
end Go.Proofs.Ytjghgpnafaoojaa
namespace Go.Proofs.Ytjghgpnafaoojaa
open Go Go.Lt
set_option maxRecDepth 100000
theorem fW {α:Type} {p q:α→Bool}:∀{l:List α},(∀x∈l,p x=q x)→l.find? p=l.find? q
 | [],_=>rfl
 | x :: l,h=>by
  rw [gl,gl,h x (by simp),fW fun y hy=>h y (by simp [hy])]
def evn (a b:Nat) (T:List (Int×Int×Int)):Bool:=T.all fun x=>Nat.blt x.2.1.toNat a || Nat.blt b x.1.toNat || (Nat.ble x.1.toNat a && Nat.ble b x.2.1.toNat)
def od (a b:Nat) (T:List (Int×Int)):Bool:=T.all fun x=>Nat.blt x.2.toNat a || Nat.blt b x.1.toNat || (Nat.ble x.1.toNat a && Nat.ble b x.2.toNat)
theorem iM {a b:Nat}:Nat.blt a b=true↔a < b:=by simp [Nat.blt,Nat.lt_iff_add_one_le]
theorem iS {α:Type} {lo hi:α→Int} {a b:Nat} {n:Int} {x:α} (h:(Nat.blt (hi x).toNat a || Nat.blt b (lo x).toNat || (Nat.ble (lo x).toNat a && Nat.ble b (hi x).toNat))=true) (hb:1≤b) (h1:(a:Int)≤n) (h2:n≤(b:Int)):onn lo hi n x=onn lo hi (a:Int) x:=by
 simp only [cg,ac,iM,Nat.ble_eq] at h;rw [pN,eW,eW];omega
theorem iw {a b:Nat} {T:List (Int×Int×Int)} {n:Int} (h:evn a b T=true) (hb:1≤b) (h1:(a:Int)≤n) (h2:n≤(b:Int)):lk T n=lk T (a:Int):=by
 unfold lk fnd;rw [fW fun x hx=>iS (List.all_eq_true.1 h x hx) hb h1 h2]
theorem lf {a b:Nat} {n:Int} (h:od a b pT=true) (hb:1≤b) (h1:(a:Int)≤n) (h2:n≤(b:Int)):pic n=pic (a:Int):=by
 unfold pic fnd;rw [fW fun x hx=>iS (List.all_eq_true.1 h x hx) hb h1 h2]
def sgs:List (Nat×Nat×Int):=[(0,0,-1),(1,2,0),(3,17,-1),(18,18,0),(19,19,-1),(20,23,0),(24,24,-1),(25,25,0),(26,26,-1),(27,28,0),(29,29,-1),(30,31,0),(32,33,-1),(34,34,0),(35,39,-1),(40,40,0),(41,41,-1),(42,42,0),(43,43,-1),(44,45,0),(46,50,-1),(51,76,128),(77,77,-1),(78,163,128),(164,164,-1),(165,165,0),(166,166,-1),(167,168,0),(169,169,-1),(170,171,0),(172,215,-1),(216,248,0),(249,250,128),(251,251,-1),(252,253,0),(254,255,-1),(256,271,0),(272,272,-1),(273,366,0),(367,367,-1),(368,390,128),(391,391,-1),(392,395,128),(396,396,-1),(397,431,0),(432,432,128),(433,433,-1),(434,495,0),(496,506,-1),(507,507,0),(508,510,16),(511,511,-1),(512,766,128),(767,767,-1),(768,1022,128),(1023,1023,-1),(1024,3583,0),(3584,3585,-1),(3586,3599,3),(3600,4351,0)]
def til:Nat→List (Nat×Nat×Int)→Bool
 | p,[]=>p==4352
 | p,x :: l=>(x.1==p) && Nat.ble x.1 x.2.1 && til (x.2.1+1) l
def nV (a b:Nat):Bool:=Nat.blt b 4352 || (Nat.blt 4607 a && Nat.blt b 43360) || (Nat.blt 43388 a && Nat.blt b 44032) || Nat.blt 55291 a
def nK (x:Nat×Nat×Int):Bool:=(x.2.2== -1) || (evn (256 * x.1) (256 * x.2.1+255) gT && od (256 * x.1) (256 * x.2.1+255) pT && evn (256 * x.1) (256 * x.2.1+255) cT && evn (256 * x.1) (256 * x.2.1+255) eT && nV (256 * x.1) (256 * x.2.1+255) && (c4 ((256 * x.1:Nat):Int)==x.2.2) && [0,3,16,128].contains x.2.2)
theorem mU:sgs.all nK=true:=by kernel_rfl
theorem lX:til 0 sgs=true:=by kernel_rfl
theorem kQ:∀{l:List (Nat×Nat×Int)} {p i:Nat},til p l=true→p≤i→i < 4352→∃x∈l,x.1≤i∧i≤x.2.1
 | [],p,i,h,h1,h2=>by
  simp only [til,ga] at h;omega
 | x :: l,p,i,h,h1,h2=>by
  simp only [til,ac,ga,Nat.ble_eq] at h;by_cases hi:i≤x.2.1
  ·exact ⟨x,by simp,by omega,hi⟩
  ·obtain ⟨y,h3,h4⟩:=kQ h.2 (i:=i) (by omega) h2;exact ⟨y,by simp [h3],h4⟩
def Xs (i:Nat):List Int:=pg (256 * (i:Int)) fun n=>cod (pr n)
def unv:List Nat:=sgs.flatMap fun x=>if x.2.2== -1 then (List.range (x.2.1+1 - x.1)).map (x.1+ ·) else []
theorem lS:unv.length=106:=by
 have:Nat.beq unv.length 106=true:=by kernel_rfl
 exact dC this
def mH:List (List Int):=[0,3,16,128].map (List.replicate 256)
theorem ov (i:Nat) (hi:i < 4352):Xs i∈mH++unv.map Xs:=by
 obtain ⟨x,hx,h1,h2⟩:=kQ lX (aG i) hi;have hk:=List.all_eq_true.1 mU x hx;by_cases hv:x.2.2= -1
 ·refine gr _ (oA ?_);unfold unv;rw [List.mem_flatMap];refine ⟨x,hx,?_⟩;rw [ad (by simpa using hv),List.mem_map];exact ⟨i - x.1,by rw [List.mem_range]; omega,by omega⟩
 ·unfold nK at hk;rw [show (x.2.2== -1)=false by simpa using hv,Bool.false_or] at hk;simp only [ac,ga] at hk;obtain ⟨⟨⟨⟨⟨⟨k1,k2⟩,k3⟩,k4⟩,k5⟩,k6⟩,k7⟩:=hk;refine cV _ ?_;have e:Xs i=List.replicate 256 x.2.2:=by
   unfold Xs;rw [←eD (256 * (i:Int))];refine dS fun n n1 n2=>?_;have h0:hcl n=0:=by
    unfold nV at k5;simp only [cg,ac,iM] at k5;unfold hcl
    repeat' split
    all_goals omega
   rw [←iE,h0,js,←k6];have a1:((256 * x.1:Nat):Int)≤n:=by omega
   have a2:n≤((256 * x.2.1+255:Nat):Int):=by omega
   unfold c4;rw [iw k1 (by omega) a1 a2,lf k2 (by omega) a1 a2,iw k3 (by omega) a1 a2,iw k4 (by omega) a1 a2]
  rw [e];exact oA (by simpa using k7)
def dif:List Nat:=[0,3,5,7,9,10,17,26,29,38,46,77,172,178,255,499,502,504,3584,3585]
def sig (i:Nat):Int×Int:=(cod (pr (256 * (i:Int)+200)),cod (pr (256 * (i:Int)+173)))
theorem mT:decide (dif.map sig).Nodup=true:=by kernel_rfl
theorem nk:dif.all (fun i=>Nat.blt i 4352)=true:=by kernel_rfl
theorem lq {α β γ:Type} {f:α→β} {g:α→γ} (h:∀a b,f a=f b→g a=g b):∀{l:List α},(l.map g).Nodup→(l.map f).Nodup
 | [],_=>by simp
 | x :: l,hn=>by
  rw [ft,pJ] at hn⊢;refine ⟨fun hx=>?_,lq h hn.2⟩;obtain ⟨y,h1,h2⟩:=List.mem_map.1 hx;exact hn.1 (List.mem_map.2 ⟨y,h1,h y x h2⟩)
theorem nj:(dif.map Xs).Nodup:=by
 refine lq (g:=sig) (fun a b h=>?_) (po mT);have h1:(Xs a)[200]? = (Xs b)[200]? :=by rw [h]
 have h2:(Xs a)[173]? = (Xs b)[173]? :=by rw [h]
 unfold Xs at h1 h2;rw [gF (by omega),gF (by omega),aq] at h1 h2;exact Prod.ext h1 h2
theorem mb {s:PS} (h:PsI Xs 4352 s):20≤s.bl.length∧s.bl.length≤200:=by
 constructor
 ·refine bp ?_ (lr nj fun x hx=>?_)
  ·rw [aD]; exact aj 20
  ·obtain ⟨i,hi,rfl⟩:=List.mem_map.1 hx;obtain ⟨k,_,h2⟩:=h.fs i (iM.1 (List.all_eq_true.1 nk i hi));exact ox h2
 ·refine bp (lr (b:=mH++unv.map Xs) h.nd fun x hx=>?_) (bp (m:=110) ?_ (by omega))
  ·obtain ⟨j,hj,rfl⟩:=h.bl x hx;exact ov j hj
  ·rw [am,aD,lS];exact aj 110
end Go.Proofs.Ytjghgpnafaoojaa
namespace Go.Proofs.Ytjghgpnafaoojaa
open Go Go.Lt
theorem ns:∃all,ib=some all∧rt (-1) all=true∧all.length≤300000∧∀n,vat n all=cod (pr n):=by
 obtain ⟨s,s1,s2,s3,s4⟩:=oE;obtain ⟨y,y1,y2,y3,y4⟩:=il;obtain ⟨r,r1,r2,r3,r4⟩:=lu s2 y2 s3 y4 fun n=>by
  rw [s4,y3,iE];have:=(iF (jQ n)).2.1;omega
 refine ⟨r,?_,r2,r3,fun n=>by rw [r4,s4,y3,iE]⟩;unfold ib;rw [oc,nT,ot,oh];simp only [bsm];rw [mY,nr,ms];simp only [bsm];unfold i9 at s1;rw [s1,y1];simp only [bsm];exact r1
def Lf (all:List aa):Nat→List aa
 | 0=>all
 | i+1=>drp (256 * (i:Int)) (Lf all i)
theorem fQ {all:List aa} (h:rt (-1) all=true) (i:Nat):rt (-1) (Lf all i)=true∧(Lf all i).length≤all.length∧(∀n:Int,256 * (i:Int) - 256≤n→vat n (Lf all i)=vat n all):=by
 induction i with
 | zero=>exact ⟨h,aj _,fun n _=>rfl⟩
 | succ i ih=>
  obtain ⟨h1,h2,h3⟩:=ih;obtain ⟨g1,_,g3,g4⟩:=ja (256 * (i:Int)) h1;exact ⟨g1,bp g4 h2,fun n hn=>by
   show vat n (drp _ _)=_;rw [g3 n (by omega),h3 n (by omega)]⟩
theorem mX {p v:Int} {f:Int→Int} (h:v∈pg p f):∃n,v=f n:=by
 unfold pg at h;obtain ⟨j,_,rfl⟩:=List.mem_map.1 h;exact ⟨_,rfl⟩
theorem lG (n:Int):0≤cod (pr n)∧cod (pr n)≤65535:=by
 have:=iF (jQ n);omega
theorem mZ {v:Int} (h:0≤v∧v≤65535):okI v:=by
 unfold okI;simp only [Lit.wf,ac,ag];exact ⟨jr (by decide) h.1,jr h.2 (by decide)⟩
theorem gR:∃(all:List aa) (L:Nat→List aa),ib=some all∧aS all=some true∧L 0=all∧
  (∀i:Nat,i < 4352→eI (L i) (256 * i)=some (L (i+1))∧eG (L (i+1)) (256 * i)=some (Xs i)∧iT (Xs i)∧okI (wh (L (i+1)) (256 * i)).1)∧
  (20≤(pst L Xs 4352).bl.length∧(pst L Xs 4352).bl.length≤200)∧
  (∀n:Int,0≤n→n≤1114111→∃(i:Nat) (x:List Int) (y:Int) (r:av),(pst L Xs 4352).fs[(n.tdiv 256).toNat]? = some (i:Int)∧(pst L Xs 4352).bl[i]? = some x∧x.length=256∧x[(n.tmod 256).toNat]? = some y∧(0≤y∧y≤65535)∧cb y=some r∧aM n=some r):=by
 obtain ⟨all,a1,a2,a3,a4⟩:=ns;have hfil:∀i:Nat,i < 4352→(pg (256 * (i:Int)) fun n=>vat n (Lf all (i+1)))=Xs i:=fun i hi=>by
  unfold Xs;refine dS fun n h1 _=>?_;rw [(fQ a2 (i+1)).2.2 n (by omega),a4]
 have hP:=ma (Lf all) Xs 4352 (fun i hi he=>by
  rw [←hfil i hi];exact (jO (fQ a2 (i+1)).1).2 he) 4352 (aj _)
 refine ⟨all,Lf all,a1,by rw [gC (by omega),a2],rfl,fun i hi=>⟨mu _ _,?_,?_,?_⟩,mb hP,fun n h0 h1=>?_⟩
 ·obtain ⟨g1,g2,g3⟩:=fQ a2 (i+1);rw [ml g1 (by omega) (ja (256 * (i:Int)) (fQ a2 i).1).2.1 (by omega) (by omega),hfil i hi]
 ·refine ⟨gE _ _,fun v hv=>?_⟩;obtain ⟨n,rfl⟩:=mX hv;exact lG n
 ·exact mZ (jO (fQ a2 (i+1)).1).1
 ·have hd:n.tdiv 256=n / 256:=bZ h0;have hm:n.tmod 256=n % 256:=bY h0;rw [hd,hm];obtain ⟨k,k1,k2⟩:=hP.fs (n / 256).toNat (by omega);refine ⟨k,_,_,_,k1,k2,gE _ _,gF (by omega),lG _,mc _,?_⟩;rw [show 256 * (((n / 256).toNat:Nat):Int)+(((n % 256).toNat:Nat):Int)=n by omega];exact mF n (by unfold r32; omega)
variable {c0:Cx} {G:Gm} {F:List En} {v1:Value}
theorem ij (rs:List Int) (O0:Own c0 G F) (S:Sl (RI .i32) c0 v1 rs) (h32:∀n∈rs,-2147483648≤n∧n≤2147483647):
  Calls Try.prog 3 #[v1] c0.w (ay c0 fun c v=>Own c G F∧v=B true):=by
 obtain ⟨all,L,h1,h2,h3,h4,h5,h6⟩:=gR;refine (kC O0 S jN h1 h2 L Xs h3 h4 h5.1 h5.2 h32 h6 fun n g1 g2=>⟨_,mF n ⟨g1,g2⟩⟩).mono fun e w h=>?_;obtain ⟨v,c,e1,e2,e3,e4,e5⟩:=h;exact ⟨v,c,e1,e2,e3,e5,e4⟩
end Go.Proofs.Ytjghgpnafaoojaa
