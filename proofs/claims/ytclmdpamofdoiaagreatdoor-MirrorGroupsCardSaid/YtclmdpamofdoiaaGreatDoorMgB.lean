/- Parts of the proofs of MirrorGroups: the walk through the code, and plain Lean. No condition. -/
import Derived.Test.YtclmdpamofdoiaaGreatDoorMgA
import Derived.Test.YtclmdpamofdoiaaGreatDoorProg
import Derived.Shelf.Spec.SlicesInsertGrow
import Derived.Shelf.Slices.Delete
import Derived.WalkKit
import Derived.LaidEql
import Derived.Stop.Asserts
import Derived.RowKitTokens
import Derived.Elder7
set_option linter.unusedVariables false
set_option linter.unusedSimpArgs false
namespace Go.Proofs.YtclmdpamofdoiaaGreatDoor
open Go Go.Lt
set_option maxRecDepth 10000
set_option linter.unusedVariables false
attribute [local irreducible] W WL AC
open Tryz
variable {c0:Cx} {G:Gm} {F:List En} {sg:Sto} {v1 v2 v3 v4 v5 v6 v7 v8 v9 v10 v11 v12 v13 v14 v15 v16 v17 v18 v19 v20 v21 v22 v23 v24 v25 v26 v27 v28 v29 v30 v31 v32 v33 v34 v35 v36 v37 v38 v39 v40 v41 v42 v43 v44 v45 v46 v47 v48 v49 v50 v51 v52 v53 v54 v55 v56 v57 v58 v59 v60:Value}
def iI (sg:Sto) (p0:Int) (p1:Int):Option (Sto×(Option Nat)):=
 (some (sg.add_grid_Grid (⟨([]:List (Option Nat))⟩:cu))).bind fun c=>
 (cw (σ:=Int×Sto) (τ:=Sto) (((aD 1 (ax p1 1024)) - 0).toNat+1) (fun a=>
 if (decide (a.1 < (aD 1 (ax p1 1024))))=true then
 (a.2.grid_Grid[sg.grid_Grid.length]?).bind fun f=>
 (iu a.2 p0).bind fun d=>
 (app f.rows ([d.2]:List (Option Nat))).bind fun g=>
 (d.1.set_grid_Grid sg.grid_Grid.length (⟨g⟩:cu)).bind fun b=>
 some (.inl ((w64 (a.1+1)),b))
 else
 some (.inr (a.2))) (0,c)).bind fun e=>
 some (e,(some sg.grid_Grid.length))
theorem mz (O0:Own c0 G F) (R0:Rel c0 sg G) (y:Int) (n:Int) {r:Sto×(Option Nat)} (H:iI sg y n=some r): Calls prog 112 #[I y,I n] c0.w (aI c0 fun c v=>∃y1,∃G_:Gm,Own c G_ (F)∧Rel c r.1 G_∧dp G G_∧v=y1∧Pt 1 c y1 r.2):=by
 unfold iI at H;refine en func112 rfl rfl (sr (va (.pointer none) (wln (sr (va (.agg #[Y]) ?_)))));have h2:OA (RP 0) c0 (Y) [] []:=OA.nil (aJ _);have O1:=O0.addHole (e:=es true (RP 0) (Y) 168 [] ([]:List (Option Nat))) rfl;refine me (al 176 [(Y)] O1) ?_;rintro v6 c5 l5 ⟨a,rfl,O4⟩;have O7:=O4.sD 2 [0,1];refine bn H fun q2 h8 H=>?_;obtain ⟨z,l0,t1,l9,p,q0,U,l3,u1,a16⟩:=Rel.new_grid_Grid (E:=[(Eb a 176 [(Y)]),es true (RP 0) (Y) 168 [] ([]:List (Option Nat))]) (F:=F) (x:=(⟨([]:List (Option Nat))⟩:cu)) (b:=a) O7 (R0.mono l5) (fun c_ hle_=>⟨a,(Y),[],rfl,rfl,((h2.mono l5).mono hle_)⟩);rw [az h8] at U;refine WL.gh t1.1 ?_;have v1:=dp.nil (dp.refl _) u1;have c1:=(dp.refl _).trans a16;have w1:Pt 1 z (Q a) (some sg.grid_Grid.length):=⟨a,rfl,p⟩;refine va (Q a) (wln (W.seq (sr (va (I n) (va (I (ax n 1024)) (va (I (aD 1 (ax n 1024))) (va (I 0) (wln (W.block (bn H fun e3 a0 D=>lp a0 (fun d=>Jn z fun c l=>∃G_,Own c G_ (F)∧l= [(0,I y),(5,Q a),(10,I (aD 1 (ax n 1024))),(11,I d.1)]∧Rel c d.2 G_∧dp G G_) (fun A ex e w=>ex= .exit 0∧(Jn z fun c l=>∃G_,Own c G_ (F)∧l= [(5,Q a)]∧Rel c A G_∧dp G G_) e w) ?_ ?_ ?_))))))))))
 ·clear D a0;intro d t3 s1 s2 H;revert s1 s2;rintro e_ w_ ⟨h1,j3,_,rfl,j2,rfl,f,M,rfl,o,X⟩;refine sr (va (B (decide (d.1 < (aD 1 (ax n 1024))))) (wln (W.seq (cn H (fun x1 H=>?_) (fun x1 H=>?_)))))
  ·refine W.skip (nrm (W.seq (W.block (rD [8,11] (Kp f []) M ?_))));intro i1 e0 N;have m2:Kp f [] i1:=(Kp.nil N);refine ta 0 (Q a) (ta 1 (Q a) (ta 2 (Q a) (ta 3 (Q a) (bn H fun f3 z1 H=>?_))));obtain ⟨v35,p3,b0,b2⟩:=Rel.open_grid_Grid (o.mono e0) z1 (tm p);refine tkx 4 m2 (fun c' n3 hk=>le1 0 fA (hk.gon b0 0 rfl)) (ta 5 (I y) (bn H fun i0 c2 H=>o1 6 (gc 6 (lm N o.m y c2) ?_)));rintro v40 j1 k2 ⟨_,h3,P,z0,k,rfl,d0⟩;have d1:=X.trans k;have n2:Kp f [] j1:=(Kp.adds P k);refine ⟨.inr n2,?_⟩;obtain ⟨Z,rfl⟩:=(d0).form;refine o1 7 (gm 7 (sl (RP 0) 168 [[.pointer Z]] ([i0.2]:List (Option Nat)) P ⟨⟨(.pointer Z),rfl,d0⟩,trivial⟩) ?_);rintro v55 k1 f0 ⟨q3,R,d2⟩;have o2:Kp f [] k1:=(Kp.adds R k);refine ⟨.inr o2,?_⟩;obtain ⟨m1,f2,s,S,e2⟩:=R.frz 0 rfl d2;have p2:Kp f [] m1:=(Kp.adds S k);refine AC.gh f2 s (fun _=>p2) (bn H fun j0 g2 H=>?_);have s0:=S.borrow 1 (k.get b0) rfl;refine o1 8 (gm 8 (ap (RP 0) (.pointer none) 8 174 0 s0 b2.m e2 g2 fA) ?_);rintro s3 i3 g0 ⟨h0,t0,q⟩;have u0:=t0.giveB 1 rfl;refine ⟨.inl rfl,ta 9 (Q a) (ta 10 (Q a) ?_)⟩;obtain ⟨g,h,i,rfl⟩:=(q).form;refine o1 11 (gD 11 (Own.stGB (T:=174) (j:=0) (us:=[.slice g h i]) (nw:=[.slice g h i]) (v:= .slice g h i) 0 u0 (by kernel_rfl) rfl rfl rfl rfl (by kernel_rfl) ⟨(q).one,trivial⟩ (by kernel_rfl) rfl) ?_);rintro n1 u v0;refine bn H fun k0 i2 H=>?_;obtain ⟨m0,w0,a1,m3,e1⟩:=Rel.put_grid_Grid v0 (z0.mono (f0.trans (s.trans (g0.trans u)))) (E':=[(Eb a 176 [.slice g h i]),es true (RP 0) (.slice g h i) 168 h0 j0]) i2 ⟨a,(.slice g h i),h0,((j2.trans (e0.trans (k2.trans (f0.trans (s.trans (g0.trans u)))))).t _ _ _ p),rfl,(q.mono u)⟩;have f1:=e1 _ d1 v1;refine ⟨.inl rfl,dn (bkn (nrm (W.region (vv (I (w64 (d.1+1))) (WL.nil ?_)))))⟩;obtain rfl:=si H;refine ⟨_,rfl,?_⟩;have x0:=w0.sD 1 [];exact jn n1 ⟨m0,x0,rfl,a1,f1⟩
  refine W.exit (thx ?_);obtain rfl:=si H;exact ⟨_,rfl,rfl,jn h1 ⟨f,M,rfl,o,X⟩⟩
 ·exact jn z ⟨l0,q0,rfl,U,c1⟩
 rintro _ e_ w_ ⟨rfl,q1,k3,_,rfl,o3,rfl,o0,y0,rfl,b1,g1⟩;refine bke (nrm (sr (vv (Q a) (wln (W.ret ?_)))));obtain rfl:=si D;exact r1 (qq q1 ⟨(Q a),o0,y0,b1,g1,rfl,w1.m⟩)
def jm (sg:Sto) (p0:Int) (p1:Int):Option (Sto×(Option Nat)):=
 (iI sg p0 p1).bind fun b=>
 (some (b.1.add_place_Pen (⟨b.2,(⟨0,0,false⟩:ak),true⟩:aU))).bind fun a=>
 some (a,(some b.1.place_Pen.length))
theorem nV (N:Own c0 G F) (R:Rel c0 sg G) (e:Int) (f:Int) {r:Sto×(Option Nat)} (H:jm sg e f=some r): Calls prog 73 #[I e,I f] c0.w (aI c0 fun c v=>∃M,∃G_:Gm,Own c G_ (F)∧Rel c r.1 G_∧dp G G_∧v=M∧Pt 2 c M r.2):=by
 unfold jm at H;refine en func73 rfl rfl (sr (va (.pointer none) (wln (sr (va (I e) (va (I f) (bn H fun k U H=>cl (mz N R e f U) ?_)))))));rintro v2 c8 l8 ⟨_,G4,P,S,T,rfl,z⟩;have h:=(dp.refl _).trans T;obtain ⟨d,rfl⟩:=(z).form;refine va (.agg #[.pointer d,I 0,I 0,B false,B true]) (me (al 126 [.pointer d,I 0,I 0,B false,B true] P) ?_);rintro v15 X j ⟨a,rfl,m⟩;have n:=m.sD 1 [0];refine bn H fun D s H=>?_;obtain ⟨i,l,t,b0,u,o,g,Z,y,p⟩:=Rel.new_place_Pen (E:=[(Eb a 126 [.pointer d,I 0,I 0,B false,B true])]) (F:=F) (x:=(⟨k.2,(⟨0,0,false⟩:ak),true⟩:aU)) (b:=a) n (S.mono j) (fun c_ hle_=>⟨a,(.pointer d),rfl,rfl,(z.mono (j.trans hle_))⟩);rw [az s] at g;refine WL.gh t.1 ?_;have a0:=dp.nil h y;have q:=h.trans p;have A:Pt 2 i (Q a) (some k.1.place_Pen.length):=⟨a,rfl,u⟩;refine va (Q a) (wln (W.ret ?_));obtain rfl:=si H;exact r1 (qq i ⟨(Q a),l,o,g,q,rfl,A⟩)
def dd (p0:Int) (p1:Int):Option (List aS):=
 (cw (σ:=(List aS)×Int) (τ:=(List aS)) ((p1 - 0).toNat+1) (fun a=>
 if (decide (a.2 < p1))=true then
 (rep p0 (⟨0,([]:List Int)⟩:aa)).bind fun b=>
 (app a.1 ([(⟨b,false⟩:aS)]:List aS)).bind fun c=>
 some (.inl (c,(w64 (a.2+1))))
 else
 some (.inr (a.1))) (([]:List aS),0)).bind fun d=>
 some d
theorem jN (O0:Own c0 G F) (b:Int) (k:Int) {r:List aS} (H:dd b k=some r): Calls prog 104 #[I b,I k] c0.w (aI c0 fun c v=>∃u y2,Own c G (es true aK u 48 y2 r :: F)∧v=u∧OA aK c u y2 r):=by
 unfold dd at H;refine en func104 rfl rfl (sr (va (Y) (wln (sr (va (Y) (wln (W.seq (sr (va (I 0) (wln (W.block (bn H fun k1 h1 y=>lp h1 (fun a=>Jn c0 fun c l=>∃v3 n,Own c G (es true aK v3 48 n a.1 :: F)∧l= [(0,I b),(1,I k),(5,v3),(6,I a.2)]∧OA aK c v3 n a.1) (fun h ex e w=>ex= .exit 0∧(Jn c0 fun c l=>∃v5 o,Own c G (es true aK v5 48 o h :: F)∧l= [(5,v5)]∧OA aK c v5 o h) e w) ?_ ?_ ?_))))))))))))
 ·clear y h1;intro a q1 a0 q0 H;revert a0 q0;rintro e_ w_ ⟨c7,g8,_,rfl,l7,rfl,v3,n,U,rfl,p⟩;refine W.seq (sr (va (I a.2) (va (I k) (va (B (decide (a.2 < k))) (wln (cn H (fun d0 H=>?_) (fun d0 H=>?_)))))))
  ·refine W.skip (nrm (W.seq (W.block (W.region (va (v3) (va (I b) (bn H fun t q H=>me (Own.mkS (kl:= .i64) (kc:= .i64) (R:=ac) (z:= .agg #[I 0,Y]) (lz:=[I 0,Y]) (x:=(⟨0,([]:List Int)⟩:aa)) (by_:=32) (i:=b) (j:=b) true U (aJ _) q (oQ _) (ni q) dg (by kernel_rfl) rfl rfl (fun _=>⟨(Y),rfl,(Sl.nl _ _)⟩) (by kernel_rfl) (by kernel_rfl)) ?_)))))));rintro v20 y0 d1 ⟨m1,A,s⟩;obtain ⟨d,f,g,rfl⟩:=(s).form;refine va (.agg #[.slice d f g,B false]) ?_;obtain ⟨z0,f0,e1,D,e0⟩:=A.frz 0 rfl s;refine WL.gh f0 (me (sl aK 48 [[.slice d f g,B false]] ([(⟨t,false⟩:aS)]:List aS) D ⟨⟨(.slice d f g),rfl,e0⟩,trivial⟩) ?_);rintro v32 a1 f1 ⟨n1,E,g0⟩;obtain ⟨b1,i0,g1,M,h0⟩:=E.frz 0 rfl g0;refine WL.gh i0 (bn H fun x0 j0 H=>me (ap aK (.agg #[Y,B false]) 32 27 2 M p.m h0 j0 underlying27) ?_);rintro v42 X i1 ⟨o0,N,k0⟩;refine va (v42) (WL.nil (bkn (nrm (W.region (va (I a.2) (vv (I (w64 (a.2+1))) (WL.nil ?_)))))));obtain rfl:=si H;refine ⟨_,rfl,?_⟩;have P:=N.sD 3 [2];exact jn X ⟨v42,o0,P,rfl,k0⟩
  refine W.exit (thx ?_);obtain rfl:=si H;exact ⟨_,rfl,rfl,jn c7 ⟨v3,n,U,rfl,p⟩⟩
 ·have l0:OA aK c0 (Y) [] []:=OA.nil (aJ _);have S:=O0.addHole (e:=es true aK (Y) 48 [] ([]:List aS)) rfl;exact jn c0 ⟨(Y),[],S,rfl,l0⟩
 rintro _ e_ w_ ⟨rfl,Z,c1,_,rfl,j1,rfl,v5,o,T,rfl,m0⟩;refine bke (nrm (sr (vv (v5) (wln (W.ret ?_)))));obtain rfl:=si y;exact r1 (qq Z ⟨v5,o,T,rfl,m0⟩)
def db (p0:Int) (p1:Int):Option (an):=
 (dd p0 p1).bind fun a=>
 some (⟨a,(⟨0,0,false⟩:ak),true⟩:an)
theorem jM (n:Own c0 G F) (d:Int) (e:Int) {r:an} (H:db d e=some r): Calls prog 63 #[I d,I e] c0.w (aI c0 fun c v=>∃i l,Own c G (es true aK i 48 l r.L :: F)∧v= .agg #[i,I r.At.Row,I r.At.Col,B r.At.Pending,B r.Auto]∧OA aK c i l r.L):=by
 unfold db at H;refine en func63 rfl rfl (sr (me (al 31 [Y,I 0,I 0,B false,B false] n) ?_));rintro v4 z A ⟨y,rfl,o⟩;refine wln (sr (va (I d) (va (I e) (bn H fun x p H=>cl (jN o d e p) ?_))));rintro v6 s t ⟨_,q,j,rfl,h⟩;obtain ⟨a,a16,b,rfl⟩:=(h).form;refine va (.agg #[.slice a a16 b,I 0,I 0,B false,B true]) (md (sA 31 [.slice a a16 b,I 0,I 0,B false,B true] 1 j ⟨(h).one,rfl,rfl,rfl,rfl,trivial⟩) ?_);rintro g u f;refine wln (W.ret ?_);obtain rfl:=si H;have k:=f.sD 2 [0];exact iD (c:=g) (vs:=[.slice a a16 b,I 0,I 0,B false,B true]) rfl (by kernel_rfl) (by kernel_rfl) (by kernel_rfl) (f.on 1 rfl _ rfl).1 ⟨_,g,rfl,rfl,pt,(.slice a a16 b),q,k,rfl,h.m⟩
def ew (p0:Int):Option (Int):=
 some (aD 1 (ax p0 1024))
theorem fU (b:Own c0 G F) (a:Int) {r:Int} (H:ew a=some r): Calls prog 183 #[I a] c0.w (aI c0 fun c v=>Own c G (F)∧v=I r):=by
 unfold ew at H;refine en func183 rfl rfl (sr (va (I 0) (wln (sr (va (I a) (va (I (ax a 1024)) (vv (I (aD 1 (ax a 1024))) (wln (W.ret ?_)))))))));obtain rfl:=si H;exact r1 (qq c0 ⟨b,rfl⟩)
def fR (p0:Int) (p1:Int):Option (Int):=
 some (aD 0 (ax p0 (w64 (p1 - 1))))
theorem jX (d:Own c0 G F) (b:Int) (a:Int) {r:Int} (H:fR b a=some r): Calls prog 184 #[I b,I a] c0.w (aI c0 fun c v=>Own c G (F)∧v=I r):=by
 unfold fR at H;refine en func184 rfl rfl (sr (va (I 0) (wln (sr (va (I b) (va (I a) (va (I (w64 (a - 1))) (va (I (ax b (w64 (a - 1)))) (vv (I (aD 0 (ax b (w64 (a - 1))))) (wln (W.ret ?_)))))))))));obtain rfl:=si H;exact r1 (qq c0 ⟨d,rfl⟩)
def dI (p0:ak) (p1:Int) (p2:Int):Option (ak):=
 (ew p1).bind fun a=>
 (ew p2).bind fun e=>
 (fR p0.Row e).bind fun c=>
 (fR p0.Col a).bind fun d=>
 (bS p0.Pending (some (p0.Col==(w64 (a - 1))))).bind fun b=>
 some (⟨c,d,b⟩:ak)
theorem ce (O0:Own c0 G F) (a:ak) (n:Int) (o:Int) {r:ak} (H:dI a n o=some r): Calls prog 117 #[.agg #[I a.Row,I a.Col,B a.Pending],I n,I o] c0.w (aI c0 fun c v=>Own c G (F)∧v= .agg #[I r.Row,I r.Col,B r.Pending]):=by
 unfold dI at H;refine en func117 rfl rfl (sr (me (bx 29 [I a.Row,I a.Col,B a.Pending] O0) ?_));rintro v5 c4 l4 ⟨k,rfl,O2,m⟩;refine me (al 29 [I 0,I 0,B false] O2) ?_;rintro v9 c8 l8 ⟨R,rfl,O7⟩;refine wln (sr (va (I n) (bn H fun b Z H=>cl (fU O7 n Z) ?_)));rintro v16 l0 o0 ⟨z,rfl⟩;refine va (I o) (bn H fun j a0 H=>cl (fU z o a0) ?_);rintro v23 S q0 ⟨A,rfl⟩;refine va (I b) (va (I j) (wln (W.seq (bn H fun d b0 H=>bn H fun e d0 H=>bn H fun i x H=>W.join (Jn S fun c l=>Own c G ((Eb R 29 [I d,I e,B i]) :: F)∧l= [(6,Q R)]) ?_ ?_))))
 ·clear H;refine rD [] (Kp G0 []) A ?_;intro T s0 D;have y0:Kp G0 [] T:=Kp.nil0;refine ta 0 (Q k) (tx 1 (fun h g=>l1 u_3 ((mm m) 0 _ rfl)) (ta 2 (I j) (ta 4 (Qo k (0+1)) (tx 5 (fun h g=>l1 u_3 ((mm m) 1 _ rfl)) (ta 6 (I b) (ta 8 (Qo k (0+2)) (tx 9 (fun h g=>l1 u_4 ((mm m) 2 _ rfl)) (o1 3 (gc 3 (jX D a.Row j b0) ?_)))))))));rintro v35 U t0 ⟨E,rfl⟩;have e0:Kp G0 [] U:=Kp.nil0;refine ⟨.inr e0,o1 7 (gc 7 (jX E a.Col b d0) ?_)⟩;rintro v42 X u0 ⟨p,rfl⟩;have f0:Kp G0 [] X:=Kp.nil0;refine ⟨.inr f0,?_⟩;rcases bo (a.Pending) with f | f
  ·have y:=anT f x;refine AC.takeb 10 f rfl (by kernel_rfl) (by kernel_rfl) (fun h g=>(by kernel_rfl)) (ta 11 (Qo k (0+1)) (tx 12 (fun h g=>l1 u_3 ((mm m) 1 _ rfl)) (ta 13 (I b) (ta 14 (I (w64 (b - 1))) (ta 15 (B (a.Col==(w64 (b - 1)))) ?_)))));obtain rfl:=si y;refine ta 16 (B (a.Col==(w64 (b - 1)))) (ta 17 (.agg #[I d,I e,B (a.Col==(w64 (b - 1)))]) (o1 18 (gD 18 (sA 29 [I d,I e,B (a.Col==(w64 (b - 1)))] 0 p ⟨rfl,rfl,rfl,trivial⟩) ?_)));rintro s v0 M;have g0:Kp G0 [] s:=Kp.nil0;exact ⟨.inr g0,dn (nrm (jn s ⟨M,rfl⟩))⟩
  obtain rfl:=anF f x;refine AC.takeb 10 f rfl (by kernel_rfl) (by kernel_rfl) (fun h g=>(by kernel_rfl)) (tp 11 (tp 12 (tp 13 (tp 14 (tp 15 (ta 16 (B false) (ta 17 (.agg #[I d,I e,B false]) (o1 18 (gD 18 (sA 29 [I d,I e,B false] 0 p ⟨rfl,rfl,rfl,trivial⟩) ?_)))))))));rintro t w0 N;have h0:Kp G0 [] t:=Kp.nil0;exact ⟨.inr h0,dn (nrm (jn t ⟨N,rfl⟩))⟩
 rintro e_ w_ ⟨u,m0,_,rfl,x0,rfl,q,rfl⟩;refine nrm (W.ret ?_);obtain rfl:=si H;have P:=q.sD 1 [];exact iD (c:=u) (vs:=[I d,I e,B i]) rfl (by kernel_rfl) (by kernel_rfl) (by kernel_rfl) (q.on 0 rfl _ rfl).1 ⟨_,u,rfl,rfl,pt,P,rfl⟩
def eC (sg:Sto) (p0:Option Nat):Option (Sto×Bool):=
 (orE p0.isNone ((p0).bind fun i=>
 (sg.place_Pen[i]?).bind fun d=>
 some d.G.isNone)).bind fun h=>
 if h=true then
 some (sg,false)
 else
 (p0).bind fun c=>
 (sg.place_Pen[c]?).bind fun a=>
 (bq sg a.G).bind fun e=>
 (aV sg a.G).bind fun f=>
 (dI a.At e f).bind fun g=>
 (sg.set_place_Pen c (⟨a.G,g,a.Auto⟩:aU)).bind fun b=>
 some (b,true)
theorem gS (S:Own c0 G F) (h:Rel c0 sg G) (t:Option Nat) {r:Sto×Bool} (T:Pt 2 c0 v1 t) (H:eC sg t=some r): Calls prog 176 #[v1] c0.w (aI c0 fun c v=>∃G_:Gm,Own c G_ (F)∧Rel c r.1 G_∧v=B r.2):=by
 unfold eC at H;refine en func176 rfl rfl (sr (va (B false) (wln (W.seq (W.seq (bn H fun o0 h3 H=>W.join (Jn c0 fun c l=>Own c G (F)∧l= [(0,v1),(11,B o0)]) ?_ ?_))))))
 ·clear H;refine W.region (va (v1) (vr (B t.isNone) (by rcases (T).cs with ⟨e,f⟩ | ⟨b_,e,f⟩ <;> (subst e; rw [f]; kernel_rfl)) ?_));rcases bo (t.isNone) with k | k
  ·obtain rfl:=orT k h3;exact vb k (pz (pz (ps (va (B true) (wln (jn c0 ⟨S,rfl⟩))))))
  have i:=orF k h3;refine vb k (wa (v1) (wn (bn i fun n1 h8 i=>?_)));obtain ⟨b6,rfl,h7⟩:=(T).get h8;refine va (Q b6) (wa (Q b6) (wn (bn i fun q h9 i=>?_)));obtain ⟨v10,s0,q0⟩:=Rel.open_place_Pen h h9 h7;refine vx (le1 0 cP (S.gon s0 0 rfl)) (wn (vr (B q.G.isNone) (by rcases (q0).cs with ⟨e,f⟩ | ⟨b_,e,f⟩ <;> (subst e; rw [f]; kernel_rfl)) ?_));obtain rfl:=si i;exact va (B q.G.isNone) (wln (jn c0 ⟨S,rfl⟩))
 rintro e_ w_ ⟨h0,k1,_,rfl,o,rfl,u,rfl⟩;refine nrm (cn H (fun t0 H=>?_) (fun t0 H=>?_))
 ·refine sr (va (B false) (wln (W.ret (thr ?_))));obtain rfl:=si H;exact r1 (qq h0 ⟨G,u,h.m,rfl⟩)
 refine W.skip (nrm (W.seq (rD [18] (Kp G []) u ?_)));intro i0 p x;have s:Kp G [] i0:=(Kp.nil x);refine ta 0 (v1) (ta 1 (v1) (bn H fun i1 u0 H=>?_));obtain ⟨b,rfl,D⟩:=((T.mono (o.trans p))).get u0;refine ta 2 (Q b) (ta 3 (Qo b 1) (bn H fun d v0 H=>?_));obtain ⟨v27,g,j⟩:=Rel.open_place_Pen (h.mono (o.trans p)) v0 D;refine tkx 4 s (fun c' E n=>leN 29 1 [I d.At.Row,I d.At.Col,B d.At.Pending] (n.gon g 0 rfl)) (ta 5 (Q b) (ta 6 (Q b) (ta 7 (Q b) (tkx 8 s (fun c' E n=>le1 0 cP (n.gon g 0 rfl)) (ta 10 (Q b) (ta 11 (Q b) (ta 12 (Q b) (tkx 13 s (fun c' E n=>le1 0 cP (n.gon g 0 rfl)) (bn H fun U x0 H=>o1 9 (gc 9 (br x h.m d.G j x0) ?_))))))))));rintro v36 j0 M ⟨y,rfl⟩;have b1:Kp G [] j0:=(Kp.nil y);refine ⟨.inr b1,bn H fun X y0 H=>o1 14 (gc 14 (aL y h.m d.G j.m y0) ?_)⟩;rintro v44 k0 N ⟨z,rfl⟩;have c1:Kp G [] k0:=(Kp.nil z);refine ⟨.inr c1,bn H fun a z0 H=>o1 15 (gc 15 (ce z d.At U X z0) ?_)⟩;rintro v52 l0 P ⟨A,rfl⟩;have d1:Kp G [] l0:=(Kp.nil A);refine ⟨.inr d1,ta 16 (Q b) (ta 17 (Qo b 1) (o1 18 (gD 18 (gB 29 1 [I a.Row,I a.Col,B a.Pending] [v27,I a.Row,I a.Col,B a.Pending,B d.Auto] 0 A g ⟨rfl,rfl,rfl,trivial⟩) ?_)))⟩;rintro m0 R b0;refine bn H fun Z a1 H=>?_;obtain ⟨a0,d0,e0,m1,j1⟩:=Rel.put_place_Pen b0 (h.mono (o.trans (p.trans (M.trans (N.trans (P.trans R)))))) (E':=[(Eb b 126 [v27,I a.Row,I a.Col,B a.Pending,B d.Auto])]) a1 ⟨b,v27,(tm D),rfl,(j.mono (M.trans (N.trans (P.trans R))))⟩;refine ⟨.inl rfl,dn (nrm (sr (va (B true) (wln (W.ret ?_)))))⟩;obtain rfl:=si H;exact r1 (qq m0 ⟨a0,d0,e0,rfl⟩)
def cZ (p0:ak):Option (ak):=
 some (⟨p0.Row,0,false⟩:ak)
theorem ej (f:Own c0 G F) (a:ak) {r:ak} (H:cZ a=some r): Calls prog 180 #[.agg #[I a.Row,I a.Col,B a.Pending]] c0.w (aI c0 fun c v=>Own c G (F)∧v= .agg #[I r.Row,I r.Col,B r.Pending]):=by
 unfold cZ at H;refine en func180 rfl rfl (sr (me (bx 29 [I a.Row,I a.Col,B a.Pending] f) ?_));rintro v5 m o ⟨i,rfl,g,j⟩;refine me (al 29 [I 0,I 0,B false] g) ?_;rintro v9 n p ⟨l,rfl,h⟩;refine wln (sr (va (Q i) (vx (l1 u_3 ((mm j) 0 _ rfl)) (va (.agg #[I a.Row,I 0,B false]) (md (sA 29 [I a.Row,I 0,B false] 0 h ⟨rfl,rfl,rfl,trivial⟩) ?_)))));rintro d k b;refine wln (W.ret ?_);obtain rfl:=si H;have e:=b.sD 1 [];exact iD (c:=d) (vs:=[I a.Row,I 0,B false]) rfl (by kernel_rfl) (by kernel_rfl) (by kernel_rfl) (b.on 0 rfl _ rfl).1 ⟨_,d,rfl,rfl,pt,e,rfl⟩
def ia (p0:ak) (p1:Int):Option (ak×Bool):=
 (ew p1).bind fun a=>
 if (decide (p0.Row≥(w64 (a - 1))))=true then
 some ((⟨p0.Row,p0.Col,false⟩:ak),true)
 else
 some ((⟨(w64 (p0.Row+1)),p0.Col,false⟩:ak),false)
theorem ik (x:Own c0 G F) (a:ak) (f:Int) {r:ak×Bool} (H:ia a f=some r): Calls prog 236 #[.agg #[I a.Row,I a.Col,B a.Pending],I f] c0.w (aI c0 fun c v=>Own c G (F)∧v= .tuple #[.agg #[I r.1.Row,I r.1.Col,B r.1.Pending],B r.2]):=by
 unfold ia at H;refine en func236 rfl rfl (sr (me (al 29 [I a.Row,I a.Col,B a.Pending] x) ?_));rintro v4 c3 l3 ⟨d,rfl,y⟩;refine me (al 29 [I 0,I 0,B false] y) ?_;rintro v8 c7 l7 ⟨Z,rfl,z⟩;refine va (B false) (wln (sr (va (Qo d 2) (md (sC 4 2 (B false) [I a.Row,I a.Col,B false] 1 z ⟨rfl,trivial⟩) ?_))));rintro E P A;refine wln (W.seq (W.seq (rD [] (Kp G0 [(Eb d 29 [I a.Row,I a.Col,B false])]) A ?_)));intro o R g;have t:Kp G0 [(Eb d 29 [I a.Row,I a.Col,B false])] o:=(Kp.cons (g.on 1 rfl) Kp.nil0);refine ta 0 (Q d) (tkx 1 t (fun c' N D=>le1 0 u_3 (D.on 0 rfl)) (ta 2 (I f) (bn H fun e q H=>o1 3 (gc 3 (fU g f q) ?_))));rintro v20 p S ⟨b,rfl⟩;have u:Kp G0 [(Eb d 29 [I a.Row,I a.Col,B false])] p:=(Kp.cons (b.on 1 rfl) Kp.nil0);refine ⟨.inr u,ta 4 (I (w64 (e - 1))) (ta 5 (B (decide (a.Row≥(w64 (e - 1))))) (dn (nrm (cn H (fun s H=>?_) (fun s H=>?_)))))⟩
 ·refine sr (vx (leN 29 0 [I a.Row,I a.Col,B false] (b.on 1 rfl)) (md (sA 29 [I a.Row,I a.Col,B false] 0 b ⟨rfl,rfl,rfl,trivial⟩) ?_));rintro k T h;refine va (B true) (wln (W.ret (thr ?_)));obtain rfl:=si H;have m:=h.sD 2 [];exact nN (c:=k) (vs:=[I a.Row,I a.Col,B false]) (v:=B true) rfl (by kernel_rfl) (by kernel_rfl) (by kernel_rfl) (by kernel_rfl) (h.on 0 rfl _ rfl).1 ⟨_,k,rfl,rfl,pt,m,rfl⟩
 refine W.skip (nrm (sr (va (Q d) (vx (le1 0 u_3 (b.on 1 rfl)) (va (I (w64 (a.Row+1))) (va (Q d) (md (sC 3 0 (I (w64 (a.Row+1))) [I (w64 (a.Row+1)),I a.Col,B false] 1 b ⟨rfl,trivial⟩) ?_)))))));rintro M U i;refine wln (sr (vx (leN 29 0 [I (w64 (a.Row+1)),I a.Col,B false] (i.on 1 rfl)) (md (sA 29 [I (w64 (a.Row+1)),I a.Col,B false] 0 i ⟨rfl,rfl,rfl,trivial⟩) ?_)));rintro l X j;refine va (B false) (wln (W.ret ?_));obtain rfl:=si H;have n:=j.sD 2 [];exact nN (c:=l) (vs:=[I (w64 (a.Row+1)),I a.Col,B false]) (v:=B false) rfl (by kernel_rfl) (by kernel_rfl) (by kernel_rfl) (by kernel_rfl) (j.on 0 rfl _ rfl).1 ⟨_,l,rfl,rfl,pt,n,rfl⟩
def dM (sg:Sto) (p0:Option Nat):Option (Sto):=
 (eC sg p0).bind fun b=>
 if (!b.2)=true then
 some b.1
 else
 (p0).bind fun j=>
 (b.1.place_Pen[j]?).bind fun f=>
 (aV b.1 f.G).bind fun g=>
 (ia f.At g).bind fun e=>
 (p0).bind fun d=>
 (b.1.place_Pen[d]?).bind fun c=>
 (b.1.set_place_Pen d (⟨c.G,e.1,c.Auto⟩:aU)).bind fun a=>
 if e.2=true then
 (aV a c.G).bind fun h=>
 (fX a c.G 0 h 1).bind fun i=>
 some i
 else
 some a
theorem gt (O0:Own c0 G F) (R0:Rel c0 sg G) (p0:Option Nat) {r:Sto} (h2:Pt 2 c0 v1 p0) (H:dM sg p0=some r): Calls prog 181 #[v1] c0.w (aI c0 fun c v=>∃G_:Gm,Own c G_ (F)∧Rel c r G_∧v= .tuple #[]):=by
 unfold dM at H;refine en func181 rfl rfl (W.seq (sr (va (v1) (bn H fun y2 h3 H=>cl (gS O0 R0 p0 h2 h3) ?_))));rintro v9 c8 l8 ⟨d,O5,n,rfl⟩;refine va (B (!y2.2)) (wln (cn H (fun d2 H=>?_) (fun d2 H=>?_)))
 ·refine W.ret (thr ?_);obtain rfl:=si H;exact r0 (qq c8 ⟨d,O5,n,rfl⟩)
 refine W.skip (nrm (W.seq (bn H fun n3 e2 H=>bn H fun e f2 H=>bn H fun j h0 H=>bn H fun a x H=>W.join (Jn c8 fun c l=>∃t,Own c d ((Eb t 29 [I a.1.Row,I a.1.Col,B a.1.Pending]) :: F)∧l= [(0,v1),(2,Q t),(3,B a.2)]) ?_ ?_)))
 ·clear H;refine rD [] (Kp d []) O5 ?_;intro p1 l16 q;have m0:Kp d [] p1:=(Kp.nil q);refine ta 0 (v1) ?_;obtain ⟨g,rfl,g2⟩:=((h2.mono (l8.trans l16))).get e2;refine ta 1 (Q g) (ta 2 (Qo g 1) ?_);obtain ⟨v21,j0,i0⟩:=Rel.open_place_Pen (n.mono l16) f2 g2;refine tkx 3 m0 (fun c' z i=>leN 29 1 [I e.At.Row,I e.At.Col,B e.At.Pending] (i.gon j0 0 rfl)) (ta 4 (Q g) (ta 5 (Q g) (ta 6 (Q g) (tkx 7 m0 (fun c' z i=>le1 0 cP (i.gon j0 0 rfl)) (mn2 8 13 ?_ ?_)))))
  ·refine gc 8 (aL q n.m e.G i0 h0) ?_;rintro v29 q1 o3 ⟨s,rfl⟩;have m2:Kp d [] q1:=(Kp.nil s);refine ⟨.inr m2,mn2 9 13 ?_ ?_⟩
   ·refine gc 9 (ik s e.At j x) ?_;rintro v36 s1 p3 ⟨M,rfl⟩;have n2:Kp d [] s1:=(Kp.nil M);refine ⟨.inr n2,ta 10 (.tuple #[.agg #[I a.1.Row,I a.1.Col,B a.1.Pending],B a.2]) (ta 11 (.agg #[I a.1.Row,I a.1.Col,B a.1.Pending]) (ta 12 (B a.2) (o1 13 (gm 13 (al 29 [I 0,I 0,B false] M) ?_))))⟩;rintro v41 t1 q3 ⟨k1,rfl,N⟩;have o2:Kp d [] t1:=(Kp.nil N);refine ⟨.inr o2,o1 14 (gD 14 (sA 29 [I a.1.Row,I a.1.Col,B a.1.Pending] 0 N ⟨rfl,rfl,rfl,trivial⟩) ?_)⟩;rintro e0 s3 P;have p2:Kp d [] e0:=(Kp.nil P);exact ⟨.inr p2,ta 15 (B a.2) (dn (nrm (jn e0 ⟨k1,P,rfl⟩)))⟩
   refine gm 13 (al 29 [I 0,I 0,B false] s) ?_;rintro v49 u1 t3 ⟨m1,rfl,R⟩;have q2:Kp d [] u1:=(Kp.nil R);refine ⟨.inr q2,o1 9 (gc 9 (ik R e.At j x) ?_)⟩;rintro v56 w1 u3 ⟨S,rfl⟩;have s2:Kp d [] w1:=(Kp.nil S);refine ⟨.inr s2,ta 10 (.tuple #[.agg #[I a.1.Row,I a.1.Col,B a.1.Pending],B a.2]) (ta 11 (.agg #[I a.1.Row,I a.1.Col,B a.1.Pending]) (ta 12 (B a.2) (o1 14 (gD 14 (sA 29 [I a.1.Row,I a.1.Col,B a.1.Pending] 0 S ⟨rfl,rfl,rfl,trivial⟩) ?_))))⟩;rintro f0 v3 T;have t2:Kp d [] f0:=(Kp.nil T);exact ⟨.inr t2,ta 15 (B a.2) (dn (nrm (jn f0 ⟨m1,T,rfl⟩)))⟩
  refine gm 13 (al 29 [I 0,I 0,B false] q) ?_;rintro a4 x1 w3 ⟨n1,rfl,U⟩;have u2:Kp d [] x1:=(Kp.nil U);refine ⟨.inr u2,o1 8 (gc 8 (aL U n.m e.G i0.m h0) ?_)⟩;rintro b4 y1 x3 ⟨X,rfl⟩;have v2:Kp d [] y1:=(Kp.nil X);refine ⟨.inr v2,o1 9 (gc 9 (ik X e.At j x) ?_)⟩;rintro c4 z1 y3 ⟨Z,rfl⟩;have w2:Kp d [] z1:=(Kp.nil Z);refine ⟨.inr w2,ta 10 (.tuple #[.agg #[I a.1.Row,I a.1.Col,B a.1.Pending],B a.2]) (ta 11 (.agg #[I a.1.Row,I a.1.Col,B a.1.Pending]) (ta 12 (B a.2) (o1 14 (gD 14 (sA 29 [I a.1.Row,I a.1.Col,B a.1.Pending] 0 Z ⟨rfl,rfl,rfl,trivial⟩) ?_))))⟩;rintro g0 z3 a0;have x2:Kp d [] g0:=(Kp.nil a0);exact ⟨.inr x2,ta 15 (B a.2) (dn (nrm (jn g0 ⟨n1,a0,rfl⟩)))⟩
 rintro e_ w_ ⟨l3,m3,_,rfl,A,rfl,t,b0,rfl⟩;refine nrm (sr (va (v1) (vx (leN 29 0 [I a.1.Row,I a.1.Col,B a.1.Pending] (b0.on 0 rfl)) (bn H fun d3 i2 H=>?_))));obtain ⟨b,rfl,k0⟩:=((h2.mono (l8.trans A))).get i2;refine va (Q b) (va (Qo b 1) (bn H fun f j2 H=>?_));obtain ⟨E,k2,y⟩:=Rel.open_place_Pen (n.mono A) j2 k0;refine md (gB 29 1 [I a.1.Row,I a.1.Col,B a.1.Pending] [E,I a.1.Row,I a.1.Col,B a.1.Pending,B f.Auto] 0 b0 k2 ⟨rfl,rfl,rfl,trivial⟩) ?_;rintro c2 l0 j1;refine bn H fun h1 z0 H=>?_;obtain ⟨k,d0,h,u,b3⟩:=Rel.put_place_Pen j1 (n.mono (A.trans l0)) (E':=[(Eb b 126 [E,I a.1.Row,I a.1.Col,B a.1.Pending,B f.Auto])]) z0 ⟨b,E,(tm k0),rfl,(y.mono l0)⟩;refine wln (sr (va (B a.2) (wln (cn H (fun a1 H=>?_) (fun a1 H=>?_)))))
 ·refine rD [9] (Kp k []) d0 ?_;intro w0 e3 o;have D:Kp k [] w0:=(Kp.nil o);refine ta 0 (Q b) (ta 1 (Q b) (ta 2 (Q b) (tkx 3 D (fun c' z i=>le1 0 cP (i.gon u 0 rfl)) (ta 4 (Q b) (ta 5 (Q b) (ta 6 (Q b) (tkx 7 D (fun c' z i=>le1 0 cP (i.gon u 0 rfl)) (bn H fun g1 b1 H=>o1 8 (gc 8 (aL o h.m f.G y.m b1) ?_)))))))));rintro i3 x0 f3 ⟨p,rfl⟩;have f1:Kp k [] x0:=(Kp.nil p);refine ⟨.inr f1,bn H fun k3 c1 H=>o1 9 (gc 9 (ju p h.m f.G 0 g1 1 y.m c1) ?_)⟩;rintro j3 y0 g3 ⟨o0,q0,u0,rfl⟩;refine ⟨.inl rfl,dn ?_⟩;obtain rfl:=si H;have s0:=q0.sD 1 [];exact n0 (qq y0 ⟨o0,s0,u0,rfl⟩)
 refine W.skip ?_;obtain rfl:=si H;have t0:=d0.sD 1 [];exact n0 (qq c2 ⟨k,t0,h,rfl⟩)
def eJ (sg:Sto) (p0:Option Nat):Option (Sto):=
 (p0).bind fun c=>
 (sg.place_Pen[c]?).bind fun e=>
 (bi sg e.G e.At.Row).bind fun f=>
 (dR sg f true).bind fun d=>
 (d.place_Pen[c]?).bind fun a=>
 (cZ a.At).bind fun g=>
 (d.set_place_Pen c (⟨a.G,g,a.Auto⟩:aU)).bind fun b=>
 (dM b p0).bind fun h=>
 some h
theorem iw (O0:Own c0 G F) (n:Rel c0 sg G) (q:Option Nat) {r:Sto} (U:Pt 2 c0 v1 q) (H:eJ sg q=some r): Calls prog 233 #[v1] c0.w (aI c0 fun c v=>∃G_:Gm,Own c G_ (F)∧Rel c r G_∧v= .tuple #[]):=by
 unfold eJ at H;refine en func233 rfl rfl (W.seq (rD [10] (Kp G []) O0 ?_));intro c3 l3 y;have p5:Kp G [] c3:=(Kp.nil y);refine ta 0 (v1) (bn H fun a1 h8 H=>?_);obtain ⟨b,rfl,o⟩:=((U.mono l3)).get h8;refine ta 1 (Q b) (ta 2 (Q b) (bn H fun l h9 H=>?_));obtain ⟨v10,h,R⟩:=Rel.open_place_Pen (n.mono l3) h9 o;refine tkx 3 p5 (fun c' f0 p=>le1 0 cP (p.gon h 0 rfl)) (ta 4 (Q b) (ta 5 (Q b) (ta 6 (Qo b 1) (ta 7 (Qo b 1) (tkx 8 p5 (fun c' f0 p=>le1 1 u_3 (p.gon h 0 rfl)) (bn H fun s S H=>o1 9 (gc 9 (bA y n.m l.G l.At.Row R S) ?_)))))));rintro v14 N b1 ⟨_,e,rfl,T⟩;have h0:Kp G [] N:=(Kp.nil e);refine ⟨.inr h0,bn H fun q0 X H=>o1 10 (gc 10 (fq e n.m s true T X) ?_)⟩;rintro v29 w0 c1 ⟨t0,f,g,rfl⟩;refine ⟨.inl rfl,dn (nrm (sr (vv (Q b) (va (Q b) (va (Qo b 1) (bn H fun d Z H=>?_))))))⟩;obtain ⟨v31,i,a0⟩:=Rel.open_place_Pen g Z (tm o);refine vx (leN 29 1 [I d.At.Row,I d.At.Col,B d.At.Pending] (f.gon i 0 rfl)) (bn H fun a b0 H=>cl (ej f d.At b0) ?_);rintro v40 x0 j ⟨x,rfl⟩;refine va (Q b) (va (Qo b 1) (md (gB 29 1 [I a.Row,I a.Col,B a.Pending] [v31,I a.Row,I a.Col,B a.Pending,B d.Auto] 0 x i ⟨rfl,rfl,rfl,trivial⟩) ?_));rintro y0 k z;refine bn H fun t d0 H=>?_;obtain ⟨u0,A,E,z0,v0⟩:=Rel.put_place_Pen z (g.mono (j.trans k)) (E':=[(Eb b 126 [v31,I a.Row,I a.Col,B a.Pending,B d.Auto])]) d0 ⟨b,v31,(tm o),rfl,(a0.mono (j.trans k))⟩;refine wln (W.region (va (Q b) (bn H fun s0 e0 H=>cl (gt A E q U.m e0) ?_)));rintro v55 P d1 ⟨u,D,M,rfl⟩;refine WL.nil ?_;obtain rfl:=si H;exact n0 (qq P ⟨u,D,M,rfl⟩)
def fJ (sg:Sto) (p0:Option Nat) (p1:Int):Option (Sto):=
 ((p0).bind fun k=>
 (sg.place_Pen[k]?).bind fun l=>
 if l.At.Pending=true then
 (eJ sg p0).bind fun m=>
 some (m)
 else
 some (sg)).bind fun b=>
 (p0).bind fun d=>
 (b.place_Pen[d]?).bind fun a=>
 (bq b a.G).bind fun e=>
 (orE (p1==1) (some (decide (a.At.Col < (w64 (e - 1)))))).bind fun f=>
 if f=true then
 some b
 else
 if a.Auto=true then
 (bi b a.G a.At.Row).bind fun g=>
 (di 1).bind fun h=>
 (cX b g (w64 (e - 1)) h).bind fun i=>
 (eJ i.1 p0).bind fun j=>
 some j
 else
 (b.set_place_Pen d (⟨a.G,(⟨a.At.Row,(w64 (a.At.Col - 1)),a.At.Pending⟩:ak),a.Auto⟩:aU)).bind fun c=>
 some c
theorem lq (T:Own c0 G F) (X:Rel c0 sg G) (hG:Gl [2,4] c0) (u:Option Nat) (n:Int) {r:Sto} (t:Pt 2 c0 v1 u) (H:fJ sg u n=some r): Calls prog 177 #[v1,I n] c0.w (aI c0 fun c v=>∃G_:Gm,Own c G_ (F)∧Rel c r G_∧v= .tuple #[]):=by
 unfold fJ at H;refine en func177 rfl rfl (bn H fun g2 g d=>W.seqJ (Jn c0 fun c l=>∃G_,Own c G_ (F)∧l= [(0,v1),(1,I n)]∧Rel c g2 G_) ?_ ?_)
 ·refine sr (va (v1) (bn g fun b3 h7 g=>?_));obtain ⟨s,rfl,h6⟩:=(t).get h7;refine va (Q s) (va (Qo s 1) (va (Qo s 3) (bn g fun i3 h8 g=>?_)));obtain ⟨v9,e1,z2⟩:=Rel.open_place_Pen X h8 h6;refine vx (le1 3 u_4 (T.gon e1 0 rfl)) (wln (cn g (fun f1 g=>?_) (fun f1 g=>?_)))
  ·refine W.region (va (Q s) (bn g fun n3 g1 g=>cl (iw T X u t g1) ?_));rintro v19 w0 c3 ⟨h0,l0,t0,rfl⟩;refine wln ?_;obtain rfl:=si g;exact jn w0 ⟨h0,l0,rfl,t0⟩
  refine W.skip (nrm ?_);obtain rfl:=si g;exact jn c0 ⟨G,T,rfl,X⟩
 rintro e_ w_ ⟨v2,x2,_,rfl,b2,rfl,f,x,rfl,i⟩;refine sr (va (v1) (bn d fun p2 h1 d=>?_));obtain ⟨a,rfl,E⟩:=((t.mono b2)).get h1;refine vv (Q a) (bn d fun b i1 d=>?_);obtain ⟨v30,h,q⟩:=Rel.open_place_Pen i i1 E;refine vx (le1 0 cP (x.gon h 0 rfl)) (bn d fun e j1 d=>cl (br x i b.G q j1) ?_);rintro v39 p N ⟨o,rfl⟩;refine vv (I (w64 (e - 1))) (wln (W.block (W.seq (bn d fun a0 M d=>W.join (Jn p fun c l=>Own c f (F)∧l= [(0,Q a),(4,I (w64 (e - 1))),(27,B a0)]) ?_ ?_))))
 ·clear d;refine W.region (va (I n) (va (B (n==1)) ?_));rcases bo (n==1) with k | k
  ·obtain rfl:=orT k M;exact vb k (pz (pz (pz (ps (vv (B true) (wln (jn p ⟨o,rfl⟩)))))))
  have k0:=orF k M;refine vb k (wa (Q a) (wa (Q a) (wa (Qo a 1) (wa (Qo a 2) (wn (vx (le1 2 u_3 (o.gon h 0 rfl)) (wa (I (w64 (e - 1))) (wa (B (decide (b.At.Col < (w64 (e - 1))))) ?_))))))));obtain rfl:=si k0;exact vv (B (decide (b.At.Col < (w64 (e - 1))))) (wln (jn p ⟨o,rfl⟩))
 rintro e_ w_ ⟨x0,y2,_,rfl,P,rfl,j,rfl⟩;refine nrm (cn d (fun k1 d=>?_) (fun k1 d=>?_))
 ·refine W.ret (bkr ?_);obtain rfl:=si d;exact r0 (qq x0 ⟨f,j,i.m,rfl⟩)
 refine sr (vv (Q a) (va (Qo a 4) (vx (le1 4 u_4 (j.gon h 0 rfl)) (va (B b.Auto) (wln (cn d (fun m1 d=>?_) (fun m1 d=>?_)))))))
 ·refine W.seq (rD [12] (Kp f []) j ?_);intro y0 d3 y;have S:Kp f [] y0:=(Kp.nil y);refine ta 0 (Q a) (ta 1 (Q a) (ta 2 (Q a) (tkx 3 S (fun c' z1 hk=>le1 0 cP (hk.gon h 0 rfl)) (ta 4 (Q a) (ta 5 (Q a) (ta 6 (Qo a 1) (ta 7 (Qo a 1) (tkx 8 S (fun c' z1 hk=>le1 1 u_3 (hk.gon h 0 rfl)) (ta 10 (I (w64 (e - 1))) (bn d fun e0 n1 d=>o1 9 (gc 9 (bA y i.m b.G b.At.Row q.m n1) ?_)))))))))));rintro v55 z0 e3 ⟨_,z,rfl,q1⟩;have d2:Kp f [] z0:=(Kp.nil z);refine ⟨.inr d2,bn d fun f0 s1 d=>o1 11 (gc 11 (ey z 1 s1) ?_)⟩;rintro k3 a1 f3 ⟨_,j3,A,rfl,t1⟩;have e2:Kp f [] a1:=(Kp.nil A);refine ⟨.inr e2,?_⟩;obtain ⟨b1,w1,c2,D,u1⟩:=A.frz 0 rfl t1;have f2:Kp f [] b1:=(Kp.nil D);refine AC.gh w1 c2 (fun _=>f2) (bn d fun s2 x1 d=>o1 12 (gc 12 (ei D i.m (hG.m.le (by decide)) e0 (w64 (e - 1)) f0 q1.m u1 x1) ?_));rintro l3 w2 g3 ⟨_,u2,m0,u0,rfl,a3⟩;refine ⟨.inl rfl,dn (nrm (W.region (va (Q a) (bn d fun t2 y1 d=>cl (iw m0 u0 u t.m y1) ?_))))⟩;rintro m3 c1 h3 ⟨i0,o0,v0,rfl⟩;refine WL.nil (bkn ?_);obtain rfl:=si d;have q0:=o0.sD 1 [];exact n0 (qq c1 ⟨i0,q0,v0,rfl⟩)
 refine W.region (vv (Q a) (va (Qo a 1) (va (Qo a 2) (vx (le1 2 u_3 (j.gon h 0 rfl)) (va (I (w64 (b.At.Col - 1))) (va (Q a) (va (Qo a 1) (va (Qo a 2) (md (gC 3 2 (I (w64 (b.At.Col - 1))) [v30,I b.At.Row,I (w64 (b.At.Col - 1)),B b.At.Pending,B b.Auto] 0 j h ⟨rfl,trivial⟩) ?_)))))))));rintro d1 R s0;refine bn d fun g0 b0 d=>?_;obtain ⟨j0,U,Z,l2,i2⟩:=Rel.put_place_Pen s0 (i.mono (N.trans (P.trans R))) (E':=[(Eb a 126 [v30,I b.At.Row,I (w64 (b.At.Col - 1)),B b.At.Pending,B b.Auto])]) b0 ⟨a,v30,(tm E),rfl,(q.mono (N.trans (P.trans R)))⟩;refine WL.nil (bkn ?_);obtain rfl:=si d;exact n0 (qq d1 ⟨j0,U,Z,rfl⟩)
def gH (p0:ak) (p1:Int) (p2:Int) (p3:Bool):Option (ak):=
 (ew p2).bind fun a=>
 if (decide (p0.Col < (w64 (a - (aD 1 (ax p1 2))))))=true then
 some (⟨p0.Row,(w64 (p0.Col+(aD 1 (ax p1 2)))),false⟩:ak)
 else
 some (⟨p0.Row,(w64 (a - 1)),p3⟩:ak)
theorem mA (s:Own c0 G F) (a:ak) (b:Int) (h:Int) (e:Bool) {r:ak} (H:gH a b h e=some r): Calls prog 179 #[.agg #[I a.Row,I a.Col,B a.Pending],I b,I h,B e] c0.w (aI c0 fun c v=>Own c G (F)∧v= .agg #[I r.Row,I r.Col,B r.Pending]):=by
 unfold gH at H;refine en func179 rfl rfl (sr (me (bx 29 [I a.Row,I a.Col,B a.Pending] s) ?_));rintro v5 E N ⟨f,rfl,t,g⟩;refine me (al 29 [I 0,I 0,B false] t) ?_;rintro v9 M P ⟨D,rfl,u⟩;refine wln (sr (va (I b) (va (I (ax b 2)) (va (I (aD 1 (ax b 2))) (va (I h) (bn H fun d p H=>cl (fU u h p) ?_))))));rintro v16 x y ⟨i,rfl⟩;refine va (I (aD 1 (ax b 2))) (va (I d) (wln (W.seq (sr (va (Qo f (0+1)) (vx (l1 u_3 ((mm g) 1 _ rfl)) (va (I d) (va (I (aD 1 (ax b 2))) (va (I (w64 (d - (aD 1 (ax b 2))))) (va (B (decide (a.Col < (w64 (d - (aD 1 (ax b 2))))))) (wln (cn H (fun q H=>?_) (fun q H=>?_)))))))))))))
 ·refine sr (va (Q f) (vx (l1 u_3 ((mm g) 0 _ rfl)) (va (Qo f (0+1)) (vx (l1 u_3 ((mm g) 1 _ rfl)) (va (I (aD 1 (ax b 2))) (va (I (w64 (a.Col+(aD 1 (ax b 2))))) (va (.agg #[I a.Row,I (w64 (a.Col+(aD 1 (ax b 2)))),B false]) (md (sA 29 [I a.Row,I (w64 (a.Col+(aD 1 (ax b 2)))),B false] 0 i ⟨rfl,rfl,rfl,trivial⟩) ?_))))))));rintro l z j;refine wln (W.ret (thr ?_));obtain rfl:=si H;have n:=j.sD 1 [];exact iD (c:=l) (vs:=[I a.Row,I (w64 (a.Col+(aD 1 (ax b 2)))),B false]) rfl (by kernel_rfl) (by kernel_rfl) (by kernel_rfl) (j.on 0 rfl _ rfl).1 ⟨_,l,rfl,rfl,pt,n,rfl⟩
 refine W.skip (nrm (sr (va (Q f) (vx (l1 u_3 ((mm g) 0 _ rfl)) (va (I d) (va (I (w64 (d - 1))) (va (B e) (va (.agg #[I a.Row,I (w64 (d - 1)),B e]) (md (sA 29 [I a.Row,I (w64 (d - 1)),B e] 0 i ⟨rfl,rfl,rfl,trivial⟩) ?_)))))))));rintro m A k;refine wln (W.ret ?_);obtain rfl:=si H;have o:=k.sD 1 [];exact iD (c:=m) (vs:=[I a.Row,I (w64 (d - 1)),B e]) rfl (by kernel_rfl) (by kernel_rfl) (by kernel_rfl) (k.on 0 rfl _ rfl).1 ⟨_,m,rfl,rfl,pt,o,rfl⟩
def gn (sg:Sto) (p0:Option Nat) (p1:Int) (p2:List Int):Option (Sto×ak):=
 (eC sg p0).bind fun d=>
 if (!d.2)=true then
 some (d.1,(⟨0,0,false⟩:ak))
 else
 ((p0).bind fun i=>
 (d.1.place_Pen[i]?).bind fun j=>
 (bq d.1 j.G).bind fun k=>
 if (decide ((aD 1 (ax p1 2)) > k))=true then
 some (1,([65533]:List Int))
 else
 some ((aD 1 (ax p1 2)),p2)).bind fun c=>
 (fJ d.1 p0 c.1).bind fun f=>
 (p0).bind fun e=>
 (f.place_Pen[e]?).bind fun a=>
 (bi f a.G a.At.Row).bind fun l=>
 (kf f l a.At.Col c.1 c.2).bind fun g=>
 (g.1.place_Pen[e]?).bind fun b=>
 (bq g.1 b.G).bind fun m=>
 (gH (⟨a.At.Row,a.At.Col,false⟩:ak) c.1 m b.Auto).bind fun n=>
 (g.1.set_place_Pen e (⟨b.G,n,b.Auto⟩:aU)).bind fun h=>
 some (h,(⟨a.At.Row,a.At.Col,false⟩:ak))
theorem lP (O0:Own c0 G F) (R0:Rel c0 sg G) (hG:Gl [2,4] c0) (p0:Option Nat) (o:Int) (p2:List Int) {r:Sto×ak} (h2:Pt 2 c0 v1 p0) (h4:Sl (RI .i32) c0 v3 p2) (H:gn sg p0 o p2=some r): Calls prog 115 #[v1,I o,v3] c0.w (aI c0 fun c v=>∃G_:Gm,Own c G_ (F)∧Rel c r.1 G_∧v= .agg #[I r.2.Row,I r.2.Col,B r.2.Pending]):=by
 unfold gn at H;refine en func115 rfl rfl (sr (me (al 29 [I 0,I 0,B false] O0) ?_));rintro v8 c7 l7 ⟨b5,rfl,O6⟩;refine wln (W.seq (sr (va (v1) (bn H fun u3 h9 H=>cl (gS O6 R0.m p0 h2.m h9) ?_))));rintro v15 e2 u0 ⟨j0,R,P,rfl⟩;refine va (B (!u3.2)) (wln (cn H (fun n2 H=>?_) (fun n2 H=>?_)))
 ·refine sr (va (.agg #[I 0,I 0,B false]) (md (sA 29 [I 0,I 0,B false] 0 R ⟨rfl,rfl,rfl,trivial⟩) ?_));rintro t0 s4 k0;refine wln (W.ret (thr ?_));obtain rfl:=si H;have u1:=k0.sD 1 [];exact iD (c:=t0) (vs:=[I 0,I 0,B false]) rfl (by kernel_rfl) (by kernel_rfl) (by kernel_rfl) (k0.on 0 rfl _ rfl).1 ⟨_,t0,rfl,rfl,pt,j0,u1,P.m,rfl⟩
 refine W.skip (nrm (sr (va (I o) (va (I (ax o 2)) (vv (I (aD 1 (ax o 2))) (wln (bn H fun f g d=>W.seqJ (Jn e2 fun c l=>∃v22,Own c j0 ((Eb b5 29 [I 0,I 0,B false]) :: F)∧l= [(0,v1),(1,I f.1),(2,v22),(6,Q b5)]∧Sl (RI .i32) c v22 f.2) ?_ ?_)))))))
 ·refine sr (va (I (aD 1 (ax o 2))) (va (v1) (bn g fun f4 q2 g=>?_)));obtain ⟨s0,rfl,o2⟩:=((h2.mono (l7.trans u0))).get q2;refine vv (Q s0) (bn g fun j1 s2 g=>?_);obtain ⟨v27,u2,t2⟩:=Rel.open_place_Pen P s2 o2;refine vx (le1 0 cP (R.gon u2 0 rfl)) (bn g fun n1 v2 g=>cl (br R P j1.G t2 v2) ?_);rintro v36 f2 t4 ⟨l0,rfl⟩;refine va (B (decide ((aD 1 (ax o 2)) > n1))) (wln (cn g (fun w2 g=>?_) (fun w2 g=>?_)))
  ·refine W.region (me (sl (RI .i32) 21 [[J 65533]] ([65533]:List Int) l0 ⟨rfl,trivial⟩) ?_);rintro v42 n4 u4 ⟨w4,w1,x2⟩;refine va (I 1) (va (v42) (wln ?_));obtain rfl:=si g;obtain ⟨g2,z2,v4,x1,y2⟩:=w1.frz 0 rfl x2;have y1:=x1.sD 2 [1];exact ⟨g2,_,_,z2.symm,pt,us,v42,y1,rfl,y2⟩
  refine W.skip (nrm ?_);obtain rfl:=si g;exact jn f2 ⟨v3,l0,rfl,h4.m⟩
 rintro e_ w_ ⟨o4,q4,_,rfl,i3,rfl,v22,z1,rfl,a3⟩;refine sr (va (v1) (va (I f.1) (bn d fun l4 b3 d=>cl (lq z1 P.m (hG.m.le (by decide)) p0 f.1 h2.m b3) ?_)));rintro x4 p4 j3 ⟨j,b2,Z,rfl⟩;refine wln (W.seq (rD [] (Kp j []) b2 ?_));intro i2 v0 m0;have w0:Kp j [] i2:=(Kp.nil m0);refine ta 0 (v1) (bn d fun g4 c3 d=>?_);obtain ⟨b,rfl,e0⟩:=((h2.mono (l7.trans (u0.trans (i3.trans (j3.trans v0)))))).get c3;refine ta 1 (Q b) (ta 2 (Qo b 1) (ta 3 (Qo b 1) (bn d fun a d3 d=>?_)));obtain ⟨y4,f0,e3⟩:=Rel.open_place_Pen (Z.mono v0) d3 e0;refine tkx 4 w0 (fun u k h=>le1 1 u_3 (h.gon f0 0 rfl)) (ta 5 (Q b) (ta 6 (Q b) (ta 7 (Qo b 1) (ta 8 (Qo b 2) (tkx 9 w0 (fun u k h=>le1 2 u_3 (h.gon f0 0 rfl)) (ta 10 (.agg #[I a.At.Row,I a.At.Col,B false]) (o1 11 (gm 11 (al 29 [I 0,I 0,B false] m0) ?_))))))));rintro z4 j2 l3 ⟨i,rfl,o0⟩;have q3:Kp j [] j2:=(Kp.nil o0);refine ⟨.inr q3,o1 12 (gD 12 (sA 29 [I a.At.Row,I a.At.Col,B false] 0 o0 ⟨rfl,rfl,rfl,trivial⟩) ?_)⟩;rintro k2 m3 q0;have s3:Kp j [] k2:=(Kp.nil q0);refine ⟨.inr s3,dn (nrm (W.seq (rD [11] (Kp j [(Eb i 29 [I a.At.Row,I a.At.Col,B false])]) q0 ?_)))⟩;intro l2 n3 U;have g0:Kp j [(Eb i 29 [I a.At.Row,I a.At.Col,B false])] l2:=(Kp.cons (U.on 0 rfl) (Kp.nil U));refine ta 0 (Q b) (ta 1 (Q b) (ta 2 (Q b) (tkx 3 g0 (fun u k h=>le1 0 cP (h.gon f0 0 rfl)) (ta 4 (Q i) (tkx 5 g0 (fun u k h=>le1 0 u_3 (h.on 0 rfl)) (ta 7 (Qo i 1) (tkx 8 g0 (fun u k h=>le1 1 u_3 (h.on 0 rfl)) (ta 9 (I f.1) (ta 10 (v22) (bn d fun q1 f3 d=>o1 6 (gc 6 (bA U Z.m a.G a.At.Row e3.m f3) ?_)))))))))));rintro a5 m2 o3 ⟨_,X,rfl,g3⟩;have t3:Kp j [(Eb i 29 [I a.At.Row,I a.At.Col,B false])] m2:=(Kp.cons (X.on 0 rfl) (Kp.nil X));refine ⟨.inr t3,bn d fun m4 h3 d=>o1 11 (gc 11 (ox X Z.m (hG.m.le (by decide)) q1 a.At.Col f.1 f.2 g3 a3.m h3) ?_)⟩;rintro c5 a4 i1 ⟨_,N,c2,a0,rfl,r4⟩;refine ⟨.inl rfl,dn (nrm (W.seq (rD [15] (Kp N [(Eb i 29 [I a.At.Row,I a.At.Col,B false])]) c2 ?_)))⟩;intro b1 y p;have E:Kp N [(Eb i 29 [I a.At.Row,I a.At.Col,B false])] b1:=(Kp.cons (p.on 0 rfl) (Kp.nil p));refine ta 0 (Q b) (tkx 1 E (fun u k h=>leN 29 0 [I a.At.Row,I a.At.Col,B false] (h.on 0 rfl)) (ta 2 (I f.1) (ta 3 (Q b) (ta 4 (Q b) (ta 5 (Q b) (bn d fun n e1 d=>?_))))));obtain ⟨M,x,d0⟩:=Rel.open_place_Pen (a0.mono y) e1 (tm e0);refine tkx 6 E (fun u k h=>le1 0 cP (h.gon x 0 rfl)) (ta 8 (Q b) (ta 9 (Q b) (ta 10 (Qo b 4) (tkx 11 E (fun u k h=>le1 4 u_4 (h.gon x 0 rfl)) (bn d fun s1 f1 d=>o1 7 (gc 7 (br p a0.m n.G d0 f1) ?_))))));rintro j4 c1 z ⟨q,rfl⟩;have k1:Kp N [(Eb i 29 [I a.At.Row,I a.At.Col,B false])] c1:=(Kp.cons (q.on 0 rfl) (Kp.nil q));refine ⟨.inr k1,bn d fun e g1 d=>o1 12 (gc 12 (mA q (⟨a.At.Row,a.At.Col,false⟩:ak) f.1 s1 n.Auto g1) ?_)⟩;rintro k4 d1 A ⟨s,rfl⟩;have m1:Kp N [(Eb i 29 [I a.At.Row,I a.At.Col,B false])] d1:=(Kp.cons (s.on 0 rfl) (Kp.nil s));refine ⟨.inr m1,ta 13 (Q b) (ta 14 (Qo b 1) (o1 15 (gD 15 (gB 29 1 [I e.Row,I e.Col,B e.Pending] [M,I e.Row,I e.Col,B e.Pending,B n.Auto] 0 s x ⟨rfl,rfl,rfl,trivial⟩) ?_)))⟩;rintro b4 D y0;refine bn d fun t1 h1 d=>?_;obtain ⟨x0,S,a1,c4,z3⟩:=Rel.put_place_Pen y0 (a0.mono (y.trans (z.trans (A.trans D)))) (E':=[(Eb b 126 [M,I e.Row,I e.Col,B e.Pending,B n.Auto])]) h1 ⟨b,M,((l3.trans (m3.trans (n3.trans (o3.trans (i1.trans (y.trans (z.trans (A.trans D)))))))).t _ _ _ e0),rfl,(d0.mono (z.trans (A.trans D)))⟩;refine ⟨.inl rfl,dn (nrm (sr (vx (leN 29 0 [I a.At.Row,I a.At.Col,B false] (S.on 0 rfl)) (md (sA 29 [I a.At.Row,I a.At.Col,B false] 1 S ⟨rfl,rfl,rfl,trivial⟩) ?_))))⟩;rintro b0 i4 T;refine wln (W.ret ?_);obtain rfl:=si d;have z0:=T.sD 2 [];exact iD (c:=b0) (vs:=[I a.At.Row,I a.At.Col,B false]) rfl (by kernel_rfl) (by kernel_rfl) (by kernel_rfl) (T.on 1 rfl _ rfl).1 ⟨_,b0,rfl,rfl,pt,x0,z0,a1.m,rfl⟩
def fo (p0:Int):Option (Bool):=
 (bS (decide (p0≥0)) (some (decide (p0 < 32)))).bind fun b=>
 (orE b ((bS (decide (p0≥127)) (some (decide (p0≤159)))).bind fun a=>
 some a)).bind fun c=>
 some c
theorem jE (e:Own c0 G F) (a:Int) {r:Bool} (H:fo a=some r): Calls prog 134 #[J a] c0.w (aI c0 fun c v=>Own c G (F)∧v=B r):=by
 unfold fo at H;refine en func134 rfl rfl (sr (va (B false) (wln (W.seq (bn H fun z t H=>bn H fun s n H=>W.join (Jn c0 fun c l=>Own c G (F)∧l= [(2,B s)]) ?_ ?_)))))
 ·clear H;refine W.region (va (J a) (va (B (decide (a≥0))) ?_));rcases bo (decide (a≥0)) with f | f
  ·have x:=anT f t;refine vb f (wa (J a) (wa (B (decide (a < 32))) ?_));obtain rfl:=si x;refine va (B (decide (a < 32))) ?_;rcases bo (decide (a < 32)) with g | g
   ·obtain rfl:=orT g n;exact vb g (pz (pz (pz (vv (B true) (wln (jn c0 ⟨e,rfl⟩))))))
   have i:=orF g n;refine vb g (wa (J a) (wa (B (decide (a≥127))) (wn (bn i fun m u i=>?_))));rcases bo (decide (a≥127)) with h | h
   ·have y:=anT h u;refine vb h (wa (J a) (wa (B (decide (a≤159))) (wn ?_)));obtain rfl:=si y;refine va (B (decide (a≤159))) ?_;obtain rfl:=si i;exact vv (B (decide (a≤159))) (wln (jn c0 ⟨e,rfl⟩))
   obtain rfl:=anF h u;refine vb h (pz (wa (B false) ?_));obtain rfl:=si i;exact vv (B false) (wln (jn c0 ⟨e,rfl⟩))
  obtain rfl:=anF f t;refine vb f (pz (va (B false) ?_));have j:false=false:=rfl;have d:=orF j n;refine vb j (wa (J a) (wa (B (decide (a≥127))) (wn (bn d fun m k d=>?_))));rcases bo (decide (a≥127)) with b | b
  ·have o:=anT b k;refine vb b (wa (J a) (wa (B (decide (a≤159))) (wn ?_)));obtain rfl:=si o;refine va (B (decide (a≤159))) ?_;obtain rfl:=si d;exact vv (B (decide (a≤159))) (wln (jn c0 ⟨e,rfl⟩))
  obtain rfl:=anF b k;refine vb b (pz (wa (B false) ?_));obtain rfl:=si d;exact vv (B false) (wln (jn c0 ⟨e,rfl⟩))
 rintro E M ⟨q,A,_,rfl,D,rfl,p,rfl⟩;refine nrm (W.ret ?_);obtain rfl:=si H;exact r1 (qq q ⟨p,rfl⟩)
def ib (p0:ak):Option (ak):=
 (if (decide (p0.Col > 0))=true then
 some ((w64 (p0.Col - 1)))
 else
 some (p0.Col)).bind fun a=>
 some (⟨p0.Row,a,false⟩:ak)
theorem mO (s:Own c0 G F) (a:ak) {r:ak} (H:ib a=some r): Calls prog 182 #[.agg #[I a.Row,I a.Col,B a.Pending]] c0.w (aI c0 fun c v=>Own c G (F)∧v= .agg #[I r.Row,I r.Col,B r.Pending]):=by
 unfold ib at H;refine en func182 rfl rfl (sr (me (al 29 [I a.Row,I a.Col,B a.Pending] s) ?_));rintro v4 E P ⟨e,rfl,t⟩;refine me (al 29 [I 0,I 0,B false] t) ?_;rintro v8 M R ⟨o,rfl,u⟩;refine wln (sr (va (Qo e 2) (md (sC 4 2 (B false) [I a.Row,I a.Col,B false] 1 u ⟨rfl,trivial⟩) ?_)));rintro i z f;refine wln (bn H fun d b k=>W.seqJ (Jn i fun c l=>Own c G ((Eb o 29 [I 0,I 0,B false]) :: (Eb e 29 [I a.Row,I d,B false]) :: F)∧l= [(1,Q e),(2,Q o)]) ?_ ?_)
 ·refine sr (va (Qo e 1) (vx (le1 1 u_3 (f.on 1 rfl)) (va (B (decide (a.Col > 0))) (wln (cn b (fun q b=>?_) (fun q b=>?_))))))
  ·refine W.region (va (Qo e 1) (vx (le1 1 u_3 (f.on 1 rfl)) (va (I (w64 (a.Col - 1))) (va (Qo e 1) (md (sC 3 1 (I (w64 (a.Col - 1))) [I a.Row,I (w64 (a.Col - 1)),B false] 1 f ⟨rfl,trivial⟩) ?_)))));rintro p A m;refine wln ?_;obtain rfl:=si b;exact jn p ⟨m,rfl⟩
  refine W.skip (nrm ?_);obtain rfl:=si b;exact jn i ⟨f,rfl⟩
 rintro N S ⟨x,y,_,rfl,l16,rfl,g,rfl⟩;refine sr (vx (leN 29 0 [I a.Row,I d,B false] (g.on 1 rfl)) (md (sA 29 [I a.Row,I d,B false] 0 g ⟨rfl,rfl,rfl,trivial⟩) ?_));rintro j D h;refine wln (W.ret ?_);obtain rfl:=si k;have n:=h.sD 2 [];exact iD (c:=j) (vs:=[I a.Row,I d,B false]) rfl (by kernel_rfl) (by kernel_rfl) (by kernel_rfl) (h.on 0 rfl _ rfl).1 ⟨_,j,rfl,rfl,pt,n,rfl⟩
def lc (sg:Sto) (p0:Option Nat) (p1:Int):Option (Sto×Bool):=
 (fo p1).bind fun s=>
 if (!s)=true then
 some (sg,false)
 else
 (orE p0.isNone ((p0).bind fun j=>
 (sg.place_Pen[j]?).bind fun l=>
 some l.G.isNone)).bind fun i=>
 if i=true then
 some (sg,true)
 else
 (p0).bind fun k=>
 (sg.place_Pen[k]?).bind fun a=>
 (bq sg a.G).bind fun m=>
 (aV sg a.G).bind fun n=>
 (dI a.At m n).bind fun h=>
 (if (p1==13)=true then
 (cZ h).bind fun o=>
 (p0).bind fun d=>
 (sg.place_Pen[d]?).bind fun f=>
 (sg.set_place_Pen d (⟨f.G,o,f.Auto⟩:aU)).bind fun b=>
 some (b)
 else
 if (p1==10)=true then
 (dM sg p0).bind fun p=>
 some (p)
 else
 if (p1==8)=true then
 (ib h).bind fun q=>
 (p0).bind fun e=>
 (sg.place_Pen[e]?).bind fun g=>
 (sg.set_place_Pen e (⟨g.G,q,g.Auto⟩:aU)).bind fun c=>
 some (c)
 else
 some (sg)).bind fun r=>
 some (r,true)
theorem pE (O0:Own c0 G F) (g:Rel c0 sg G) (p0:Option Nat) (j:Int) {r:Sto×Bool} (S:Pt 2 c0 v1 p0) (H:lc sg p0 j=some r): Calls prog 116 #[v1,J j] c0.w (aI c0 fun c v=>∃G_:Gm,Own c G_ (F)∧Rel c r.1 G_∧v=B r.2):=by
 unfold lc at H;refine en func116 rfl rfl (sr (va (B false) (wln (W.seq (sr (va (J j) (bn H fun o5 h3 H=>cl (jE O0 j h3) ?_)))))));rintro v9 c8 o ⟨O5,rfl⟩;refine va (B (!o5)) (wln (cn H (fun t4 H=>?_) (fun t4 H=>?_)))
 ·refine sr (va (B false) (wln (W.ret (thr ?_))));obtain rfl:=si H;exact r1 (qq c8 ⟨G,O5,g.m,rfl⟩)
 refine W.skip (nrm (W.seq (W.seq (bn H fun c3 s1 H=>W.join (Jn c8 fun c l=>Own c G (F)∧l= [(0,v1),(1,J j),(17,B c3)]) ?_ ?_))))
 ·clear H;refine W.region (va (v1) (vr (B p0.isNone) (by rcases S.m.cs with ⟨y,z⟩ | ⟨b_,y,z⟩ <;> (subst y; rw [z]; kernel_rfl)) ?_));rcases bo (p0.isNone) with x | x
  ·obtain rfl:=orT x s1;exact vb x (pz (pz (ps (va (B true) (wln (jn c8 ⟨O5,rfl⟩))))))
  have u:=orF x s1;refine vb x (wa (v1) (wn (bn u fun a6 v4 u=>?_)));obtain ⟨k1,rfl,u4⟩:=((S.mono o)).get v4;refine va (Q k1) (wa (Q k1) (wn (bn u fun t0 w4 u=>?_)));obtain ⟨v18,y4,x4⟩:=Rel.open_place_Pen (g.mono o) w4 u4;refine vx (le1 0 cP (O5.gon y4 0 rfl)) (wn (vr (B t0.G.isNone) (by rcases (x4).cs with ⟨y,z⟩ | ⟨b_,y,z⟩ <;> (subst y; rw [z]; kernel_rfl)) ?_));obtain rfl:=si u;exact va (B t0.G.isNone) (wln (jn c8 ⟨O5,rfl⟩))
 rintro e_ w_ ⟨m1,w6,_,rfl,n,rfl,a1,rfl⟩;refine nrm (cn H (fun z4 H=>?_) (fun z4 H=>?_))
 ·refine sr (va (B true) (wln (W.ret (thr ?_))));obtain rfl:=si H;exact r1 (qq m1 ⟨G,a1,g.m,rfl⟩)
 refine W.skip (nrm (W.seq (bn H fun b6 a5 H=>bn H fun d b5 H=>bn H fun s t1 H=>bn H fun t l0 H=>bn H fun b R H=>W.join (Jn m1 fun c l=>∃P,Own c G ((Eb P 29 [I b.Row,I b.Col,B b.Pending]) :: F)∧l= [(0,v1),(1,J j),(5,Q P)]) ?_ ?_)))
 ·clear H;refine rD [] (Kp G []) a1 ?_;intro j4 w1 d0;have x0:Kp G [] j4:=(Kp.nil d0);refine ta 0 (v1) ?_;obtain ⟨k,rfl,c5⟩:=((S.mono (o.trans (n.trans w1)))).get a5;refine ta 1 (Q k) (ta 2 (Qo k 1) ?_);obtain ⟨v39,m0,A⟩:=Rel.open_place_Pen (g.mono (o.trans (n.trans w1))) b5 c5;refine tkx 3 x0 (fun c' u1 hk=>leN 29 1 [I d.At.Row,I d.At.Col,B d.At.Pending] (hk.gon m0 0 rfl)) (ta 4 (Q k) (ta 5 (Q k) (ta 6 (Q k) (tkx 7 x0 (fun c' u1 hk=>le1 0 cP (hk.gon m0 0 rfl)) (ta 9 (Q k) (ta 10 (Q k) (ta 11 (Q k) (tkx 12 x0 (fun c' u1 hk=>le1 0 cP (hk.gon m0 0 rfl)) (mn2 8 15 ?_ ?_)))))))))
  ·refine gc 8 (br d0 g.m d.G A t1) ?_;rintro v47 k4 x6 ⟨e0,rfl⟩;have d5:Kp G [] k4:=(Kp.nil e0);refine ⟨.inr d5,mn2 13 15 ?_ ?_⟩
   ·refine gc 13 (aL e0 g.m d.G A.m l0) ?_;rintro v54 l4 y6 ⟨f0,rfl⟩;have e5:Kp G [] l4:=(Kp.nil f0);refine ⟨.inr e5,mn2 14 15 ?_ ?_⟩
    ·refine gc 14 (ce f0 d.At s t R) ?_;rintro h7 m4 z6 ⟨b1,rfl⟩;have f5:Kp G [] m4:=(Kp.nil b1);refine ⟨.inr f5,o1 15 (gm 15 (al 29 [I 0,I 0,B false] b1) ?_)⟩;rintro i7 n4 a7 ⟨f4,rfl,c1⟩;have g5:Kp G [] n4:=(Kp.nil c1);refine ⟨.inr g5,o1 16 (gD 16 (sA 29 [I b.Row,I b.Col,B b.Pending] 0 c1 ⟨rfl,rfl,rfl,trivial⟩) ?_)⟩;rintro n1 b7 d1;have h5:Kp G [] n1:=(Kp.nil d1);exact ⟨.inr h5,dn (nrm (jn n1 ⟨f4,d1,rfl⟩))⟩
    refine gm 15 (al 29 [I 0,I 0,B false] f0) ?_;rintro j7 o4 c7 ⟨g4,rfl,e1⟩;have i5:Kp G [] o4:=(Kp.nil e1);refine ⟨.inr i5,o1 14 (gc 14 (ce e1 d.At s t R) ?_)⟩;rintro k7 p4 d7 ⟨f1,rfl⟩;have j5:Kp G [] p4:=(Kp.nil f1);refine ⟨.inr j5,o1 16 (gD 16 (sA 29 [I b.Row,I b.Col,B b.Pending] 0 f1 ⟨rfl,rfl,rfl,trivial⟩) ?_)⟩;rintro q1 e7 g1;have k5:Kp G [] q1:=(Kp.nil g1);exact ⟨.inr k5,dn (nrm (jn q1 ⟨g4,g1,rfl⟩))⟩
   refine gm 15 (al 29 [I 0,I 0,B false] e0) ?_;rintro l7 q4 f7 ⟨h4,rfl,h1⟩;have l5:Kp G [] q4:=(Kp.nil h1);refine ⟨.inr l5,o1 13 (gc 13 (aL h1 g.m d.G A.m l0) ?_)⟩;rintro m7 r4 g7 ⟨i1,rfl⟩;have m5:Kp G [] r4:=(Kp.nil i1);refine ⟨.inr m5,o1 14 (gc 14 (ce i1 d.At s t R) ?_)⟩;rintro n6 t2 e6 ⟨j1,rfl⟩;have v3:Kp G [] t2:=(Kp.nil j1);refine ⟨.inr v3,o1 16 (gD 16 (sA 29 [I b.Row,I b.Col,B b.Pending] 0 j1 ⟨rfl,rfl,rfl,trivial⟩) ?_)⟩;rintro g0 f6 T;have w3:Kp G [] g0:=(Kp.nil T);exact ⟨.inr w3,dn (nrm (jn g0 ⟨h4,T,rfl⟩))⟩
  refine gm 15 (al 29 [I 0,I 0,B false] d0) ?_;rintro o6 u2 g6 ⟨s2,rfl,U⟩;have x3:Kp G [] u2:=(Kp.nil U);refine ⟨.inr x3,o1 8 (gc 8 (br U g.m d.G A.m t1) ?_)⟩;rintro p6 v2 h6 ⟨X,rfl⟩;have y3:Kp G [] v2:=(Kp.nil X);refine ⟨.inr y3,o1 13 (gc 13 (aL X g.m d.G A.m l0) ?_)⟩;rintro q6 w2 i6 ⟨Z,rfl⟩;have z3:Kp G [] w2:=(Kp.nil Z);refine ⟨.inr z3,o1 14 (gc 14 (ce Z d.At s t R) ?_)⟩;rintro r6 x2 j6 ⟨a0,rfl⟩;have a4:Kp G [] x2:=(Kp.nil a0);refine ⟨.inr a4,o1 16 (gD 16 (sA 29 [I b.Row,I b.Col,B b.Pending] 0 a0 ⟨rfl,rfl,rfl,trivial⟩) ?_)⟩;rintro h0 k6 b0;have b4:Kp G [] h0:=(Kp.nil b0);exact ⟨.inr b4,dn (nrm (jn h0 ⟨s2,b0,rfl⟩))⟩
 rintro e_ w_ ⟨i0,v5,_,rfl,i,rfl,P,h,rfl⟩;refine nrm (bn H fun c4 a c2=>W.seqJ (Jn i0 fun c l=>∃G_,Own c G_ ((Eb P 29 [I b.Row,I b.Col,B b.Pending]) :: F)∧l= []∧Rel c c4 G_) ?_ ?_)
 ·refine sr (va (J j) (wln (W.block (sr (vv (B (j==13)) (wln (cn a (fun d3 a=>?_) (fun d3 a=>?_))))))))
  ·refine W.region (va (v1) (vx (leN 29 0 [I b.Row,I b.Col,B b.Pending] (h.on 0 rfl)) (bn a fun e e3 a=>cl (ej h b e3) ?_)));rintro s6 t5 D ⟨d2,rfl⟩;refine bn a fun c6 f3 a=>?_;obtain ⟨p,rfl,j0⟩:=((S.mono (o.trans (n.trans (i.trans D))))).get f3;refine va (Q p) (va (Qo p 1) (bn a fun u0 g3 a=>?_));obtain ⟨M,j3,i3⟩:=Rel.open_place_Pen (g.mono (o.trans (n.trans (i.trans D)))) g3 j0;refine md (gB 29 1 [I e.Row,I e.Col,B e.Pending] [M,I e.Row,I e.Col,B e.Pending,B u0.Auto] 0 d2 j3 ⟨rfl,rfl,rfl,trivial⟩) ?_;rintro y2 q0 e2;refine bn a fun d4 k3 a=>?_;obtain ⟨x1,f2,n2,x5,q5⟩:=Rel.put_place_Pen e2 (g.mono (o.trans (n.trans (i.trans (D.trans q0))))) (E':=[(Eb p 126 [M,I e.Row,I e.Col,B e.Pending,B u0.Auto])]) k3 ⟨p,M,(tm j0),rfl,(i3.mono q0)⟩;refine WL.nil (bkn (nrm ?_));obtain rfl:=si a;exact jn y2 ⟨x1,f2,rfl,n2⟩
  refine sr (vv (B (j==10)) (wln (cn a (fun l3 a=>?_) (fun l3 a=>?_))))
  ·refine W.region (va (v1) (bn a fun v6 m3 a=>cl (gt h g.m p0 S.m m3) ?_));rintro t6 z2 l6 ⟨y1,g2,o2,rfl⟩;refine WL.nil (bkn (nrm ?_));obtain rfl:=si a;exact jn z2 ⟨y1,g2,rfl,o2⟩
  refine sr (vv (B (j==8)) (wln (cn a (fun n3 a=>?_) (fun n3 a=>?_))))
  ·refine W.region (va (v1) (vx (leN 29 0 [I b.Row,I b.Col,B b.Pending] (h.on 0 rfl)) (bn a fun f o3 a=>cl (mO h b o3) ?_)));rintro u6 u5 E ⟨i2,rfl⟩;refine bn a fun d6 p3 a=>?_;obtain ⟨q,rfl,k0⟩:=((S.mono (o.trans (n.trans (i.trans E))))).get p3;refine va (Q q) (va (Qo q 1) (bn a fun v0 q3 a=>?_));obtain ⟨N,t3,s3⟩:=Rel.open_place_Pen (g.mono (o.trans (n.trans (i.trans E)))) q3 k0;refine md (gB 29 1 [I f.Row,I f.Col,B f.Pending] [N,I f.Row,I f.Col,B f.Pending,B v0.Auto] 0 i2 t3 ⟨rfl,rfl,rfl,trivial⟩) ?_;rintro a3 s0 j2;refine bn a fun e4 u3 a=>?_;obtain ⟨z1,k2,p2,y5,r5⟩:=Rel.put_place_Pen j2 (g.mono (o.trans (n.trans (i.trans (E.trans s0))))) (E':=[(Eb q 126 [N,I f.Row,I f.Col,B f.Pending,B v0.Auto])]) u3 ⟨q,N,(tm k0),rfl,(s3.mono s0)⟩;refine WL.nil (bkn (nrm ?_));obtain rfl:=si a;exact jn a3 ⟨z1,k2,rfl,p2⟩
  refine W.skip (bkn (nrm ?_));obtain rfl:=si a;exact jn i0 ⟨G,h,rfl,g.m⟩
 rintro e_ w_ ⟨b3,w5,_,rfl,m6,rfl,b2,l2,rfl,q2⟩;refine sr (va (B true) (wln (W.ret ?_)));obtain rfl:=si c2;have m2:=l2.sD 1 [];exact r1 (qq b3 ⟨b2,m2,q2,rfl⟩)
def iQ (p0:Int):Option (Bool):=
 (if (p0==1)=true then
 some (p0==1)
 else
 if (p0==2)=true then
 some (p0==2)
 else
 some (p0==3)).bind fun c=>
 if c=true then
 some true
 else
 (if (p0==4)=true then
 some (p0==4)
 else
 some (p0==5)).bind fun a=>
 if a=true then
 some true
 else
 (if (p0==10)=true then
 some (p0==10)
 else
 some (p0==11)).bind fun b=>
 if b=true then
 some true
 else
 some false
theorem nB (o:Own c0 G F) (a:Int) {r:Bool} (H:iQ a=some r): Calls prog 317 #[I a] c0.w (aI c0 fun c v=>Own c G (F)∧v=B r):=by
 unfold iQ at H;refine en func317 rfl rfl (sr (va (B false) (wln (W.seq (sr (va (I a) (wln (W.block (W.seq (W.block (W.block (W.block (W.seq (W.seq (bn H fun E b i=>W.seqJ (Jn c0 fun c l=>Own c G (F)∧l= [(3,I a),(4,B E)]) ?_ ?_)))))))))))))))
 ·refine sr (vv (B (a==1)) (wln (cn b (fun M b=>?_) (fun M b=>?_))))
  ·refine W.skip (nrm ?_);obtain rfl:=si b;exact jn c0 ⟨o,rfl⟩
  refine sr (vv (B (a==2)) (wln (cn b (fun N b=>?_) (fun N b=>?_))))
  ·refine W.skip (nrm ?_);obtain rfl:=si b;exact jn c0 ⟨o,rfl⟩
  refine W.region (vv (B (a==3)) (wln ?_));obtain rfl:=si b;exact jn c0 ⟨o,rfl⟩
 rintro t D ⟨k,U,_,rfl,X,rfl,p,rfl⟩;refine cn i (fun u i=>?_) (fun u i=>?_)
 ·refine W.exit (thx (thx (bke (bkn (bkn (nrm (W.seq (sr (va (B true) (wln (W.ret (thr (bkr (thr ?_))))))))))))));obtain rfl:=si i;exact r1 (qq k ⟨p,rfl⟩)
 refine W.skip (nrm (W.seq (bn i fun q d e=>W.seqJ (Jn k fun c l=>Own c G (F)∧l= [(3,I a),(8,B q)]) ?_ ?_)))
 ·refine sr (vv (B (a==4)) (wln (cn d (fun x d=>?_) (fun x d=>?_))))
  ·refine W.skip (nrm ?_);obtain rfl:=si d;exact jn k ⟨p,rfl⟩
  refine W.region (vv (B (a==5)) (wln ?_));obtain rfl:=si d;exact jn k ⟨p,rfl⟩
 rintro t D ⟨h,P,_,rfl,S,rfl,j,rfl⟩;refine cn e (fun y e=>?_) (fun y e=>?_)
 ·refine W.exit (thx (thx (bko rfl (bke (bkn (nrm (W.seq (sr (va (B true) (wln (W.ret (thr (bkr (thr ?_))))))))))))));obtain rfl:=si e;exact r1 (qq h ⟨j,rfl⟩)
 refine W.skip (nrm (bn e fun s f g=>W.seqJ (Jn h fun c l=>Own c G (F)∧l= [(11,B s)]) ?_ ?_))
 ·refine sr (vv (B (a==10)) (wln (cn f (fun z f=>?_) (fun z f=>?_))))
  ·refine W.skip (nrm ?_);obtain rfl:=si f;exact jn h ⟨j,rfl⟩
  refine W.region (vv (B (a==11)) (wln ?_));obtain rfl:=si f;exact jn h ⟨j,rfl⟩
 rintro t D ⟨n,R,_,rfl,T,rfl,m,rfl⟩;refine cn g (fun A g=>?_) (fun A g=>?_)
 ·refine W.exit (thx (bko rfl (bko rfl (bke (nrm (W.seq (sr (va (B true) (wln (W.ret (thr (bkr (thr ?_)))))))))))));obtain rfl:=si g;exact r1 (qq n ⟨m,rfl⟩)
 refine W.skip (nrm (W.exit (bko rfl (bko rfl (bko rfl (thx (bke (nrm (sr (va (B false) (wln (W.ret ?_))))))))))));obtain rfl:=si g;exact r1 (qq n ⟨m,rfl⟩)
def kh (p0:bv):Option (Int):=
 (iQ p0.Break).bind fun b=>
 if b=true then
 some 0
 else
 (orE (p0.East==1) (some (p0.East==2))).bind fun a=>
 if a=true then
 some 2
 else
 some 1
theorem oz (q:Own c0 G F) (a:bv) {r:Int} (H:kh a=some r): Calls prog 305 #[.agg #[I a.Break,B a.Pict,I a.Conj,I a.East]] c0.w (aI c0 fun c v=>Own c G (F)∧v=I r):=by
 unfold kh at H;refine en func305 rfl rfl (sr (me (bx 238 [I a.Break,B a.Pict,I a.Conj,I a.East] q) ?_));rintro v5 z D ⟨i,rfl,s,k⟩;refine va (I 0) (wln (W.seq (W.block (sr (va (Q i) (vx (l1 u_3 (k 0 _ rfl)) (bn H fun p t H=>cl (nB s a.Break t) ?_)))))));rintro v12 d x ⟨h,rfl⟩;refine va (B p) (wln (cn H (fun n H=>?_) (fun n H=>?_)))
 ·refine sr (va (I 0) (wln (W.ret (bkr (thr ?_)))));obtain rfl:=si H;exact r1 (qq d ⟨h,rfl⟩)
 refine W.seq (bn H fun j g H=>W.join (Jn d fun c l=>Own c G (F)∧l= [(7,B j)]) ?_ ?_)
 ·clear H;refine W.region (va (Qo i (0+3)) (vx (l1 u_3 ((mm k) 3 _ rfl)) (va (B (a.East==1)) ?_)));rcases bo (a.East==1) with b | b
  ·obtain rfl:=orT b g;exact vb b (pz (ps (vv (B true) (wln (jn d ⟨h,rfl⟩)))))
  have m:=orF b g;refine vb b (wa (Qo i (0+3)) (wn (vx (l1 u_3 ((mm k) 3 _ rfl)) (wa (B (a.East==2)) ?_))));obtain rfl:=si m;exact vv (B (a.East==2)) (wln (jn d ⟨h,rfl⟩))
 rintro A E ⟨f,u,_,rfl,y,rfl,e,rfl⟩;refine nrm (cn H (fun o H=>?_) (fun o H=>?_))
 ·refine sr (va (I 2) (wln (W.ret (bkr (thr ?_)))));obtain rfl:=si H;exact r1 (qq f ⟨e,rfl⟩)
 refine W.skip (bkn (nrm (sr (va (I 1) (wln (W.ret ?_))))));obtain rfl:=si H;exact r1 (qq f ⟨e,rfl⟩)
def eU:List (Int×Int×Int):=[(0,9,3),(10,10,2),(11,12,3),(13,13,1),(14,31,3),(127,159,3),(173,173,3),(768,879,4),(1155,1161,4),(1425,1469,4),(1471,1471,4),(1473,1474,4),(1476,1477,4),(1479,1479,4),(1536,1541,7),(1552,1562,4),(1564,1564,3),(1611,1631,4),(1648,1648,4),(1750,1756,4),(1757,1757,7),(1759,1764,4),(1767,1768,4),(1770,1773,4),(1807,1807,7),(1809,1809,4),(1840,1866,4),(1958,1968,4),(2027,2035,4),(2070,2073,4),(2075,2083,4),(2192,2193,7),(2259,2273,4),(2274,2274,7),(2275,2306,4),(2307,2307,8),(2362,2362,4),(2363,2363,8),(2364,2364,4),(2366,2368,8),(2369,2376,4),(2377,2380,8),(2381,2381,4),(2382,2383,8),(2385,2391,4),(2402,2403,4),(2433,2433,4),(2434,2435,8),(2492,2492,4),(2494,2494,4),(2495,2496,8),(2497,2500,4),(2503,2504,8),(2507,2508,8),(2509,2509,4),(2519,2519,4),(2530,2531,4),(2561,2562,4),(2563,2563,8),(2620,2620,4),(2622,2624,8),(2625,2626,4),(2631,2632,4),(2635,2637,4),(2691,2691,8),(2748,2748,4),(2750,2752,8),(2753,2757,4),(2761,2761,8),(2765,2765,4),(2818,2819,8),(2876,2876,4),(2878,2879,4),(2880,2880,8),(2881,2884,4),(2887,2888,8),(2893,2893,4),(2902,2903,4),(3073,3075,8),(3132,3132,4),(3134,3136,4),(3137,3140,8),(3142,3144,4),(3146,3149,4),(3276,3277,4),(3330,3331,8),(3390,3390,4),(3391,3392,8),(3393,3396,4),(3398,3400,8),(3405,3405,4),(3406,3406,7),(3633,3633,4),(3635,3635,8),(3636,3642,4),(3655,3662,4),(3761,3761,4),(3763,3763,8),(3764,3772,4),(3864,3865,4),(3902,3903,8),(3953,3966,4),(4155,4156,8),(4957,4959,4),(6158,6158,3),(6832,6862,4),(7616,7679,4),(8203,8203,3),(8204,8204,4),(8205,8205,5),(8206,8207,3),(8232,8238,3),(8288,8303,3),(8400,8432,4),(12330,12335,4),(12441,12442,4),(42607,42610,4),(64286,64286,4),(65024,65039,4),(65056,65071,4),(65279,65279,3),(65520,65531,3),(69821,69821,7),(69837,69837,7),(127462,127487,6),(127995,127999,4),(917504,917535,3),(917536,917631,4),(917632,917759,3),(917760,917999,4),(918000,921599,3)]
def jp:Option (List (Int×Int×Int)):=
 some eU
theorem nX (d:Own c0 G F) {r:List (Int×Int×Int)} (H:jp=some r): Calls prog 270 #[] c0.w (aI c0 fun c v=>∃a b,Own c G (es true dw a 326 b r :: F)∧v=a∧OA dw c a b r):=by
 unfold jp at H;refine en func270 rfl rfl (sr (va (Y) (wln (sr (va (ai 0 9 3) (va (ai 10 10 2) (va (ai 11 12 3) (va (ai 13 13 1) (va (ai 14 31 3) (va (ai 127 159 3) (va (ai 173 173 3) (va (ai 768 879 4) (va (ai 1155 1161 4) (va (ai 1425 1469 4) (va (ai 1471 1471 4) (va (ai 1473 1474 4) (va (ai 1476 1477 4) (va (ai 1479 1479 4) (va (ai 1536 1541 7) (va (ai 1552 1562 4) (va (ai 1564 1564 3) (va (ai 1611 1631 4) (va (ai 1648 1648 4) (va (ai 1750 1756 4) (va (ai 1757 1757 7) (va (ai 1759 1764 4) (va (ai 1767 1768 4) (va (ai 1770 1773 4) (va (ai 1807 1807 7) (va (ai 1809 1809 4) (va (ai 1840 1866 4) (va (ai 1958 1968 4) (va (ai 2027 2035 4) (va (ai 2070 2073 4) (va (ai 2075 2083 4) (va (ai 2192 2193 7) (va (ai 2259 2273 4) (va (ai 2274 2274 7) (va (ai 2275 2306 4) (va (ai 2307 2307 8) (va (ai 2362 2362 4) (va (ai 2363 2363 8) (va (ai 2364 2364 4) (va (ai 2366 2368 8) (va (ai 2369 2376 4) (va (ai 2377 2380 8) (va (ai 2381 2381 4) (va (ai 2382 2383 8) (va (ai 2385 2391 4) (va (ai 2402 2403 4) (va (ai 2433 2433 4) (va (ai 2434 2435 8) (va (ai 2492 2492 4) (va (ai 2494 2494 4) (va (ai 2495 2496 8) (va (ai 2497 2500 4) (va (ai 2503 2504 8) (va (ai 2507 2508 8) (va (ai 2509 2509 4) (va (ai 2519 2519 4) (va (ai 2530 2531 4) (va (ai 2561 2562 4) (va (ai 2563 2563 8) (va (ai 2620 2620 4) (va (ai 2622 2624 8) (va (ai 2625 2626 4) (va (ai 2631 2632 4) (va (ai 2635 2637 4) (va (ai 2691 2691 8) (va (ai 2748 2748 4) (va (ai 2750 2752 8) (va (ai 2753 2757 4) (va (ai 2761 2761 8) (va (ai 2765 2765 4) (va (ai 2818 2819 8) (va (ai 2876 2876 4) (va (ai 2878 2879 4) (va (ai 2880 2880 8) (va (ai 2881 2884 4) (va (ai 2887 2888 8) (va (ai 2893 2893 4) (va (ai 2902 2903 4) (va (ai 3073 3075 8) (va (ai 3132 3132 4) (va (ai 3134 3136 4) (va (ai 3137 3140 8) (va (ai 3142 3144 4) (va (ai 3146 3149 4) (va (ai 3276 3277 4) (va (ai 3330 3331 8) (va (ai 3390 3390 4) (va (ai 3391 3392 8) (va (ai 3393 3396 4) (va (ai 3398 3400 8) (va (ai 3405 3405 4) (va (ai 3406 3406 7) (va (ai 3633 3633 4) (va (ai 3635 3635 8) (va (ai 3636 3642 4) (va (ai 3655 3662 4) (va (ai 3761 3761 4) (va (ai 3763 3763 8) (va (ai 3764 3772 4) (va (ai 3864 3865 4) (va (ai 3902 3903 8) (va (ai 3953 3966 4) (va (ai 4155 4156 8) (va (ai 4957 4959 4) (va (ai 6158 6158 3) (va (ai 6832 6862 4) (va (ai 7616 7679 4) (va (ai 8203 8203 3) (va (ai 8204 8204 4) (va (ai 8205 8205 5) (va (ai 8206 8207 3) (va (ai 8232 8238 3) (va (ai 8288 8303 3) (va (ai 8400 8432 4) (va (ai 12330 12335 4) (va (ai 12441 12442 4) (va (ai 42607 42610 4) (va (ai 64286 64286 4) (va (ai 65024 65039 4) (va (ai 65056 65071 4) (va (ai 65279 65279 3) (va (ai 65520 65531 3) (va (ai 69821 69821 7) (va (ai 69837 69837 7) (va (ai 127462 127487 6) (va (ai 127995 127999 4) (va (ai 917504 917535 3) (va (ai 917536 917631 4) (va (ai 917632 917759 3) (va (ai 917760 917999 4) (va (ai 918000 921599 3) (me (Own.sl (R:=dw) (E:=326) (ls:=eU.map (fun x=>[I x.1,I x.2.1,I x.2.2])) (vs:=(eU.map (fun x=>[I x.1,I x.2.1,I x.2.2])).flatten) (xs:=eU) true d (aJ _) rfl (jQ.map _ (fun _=>rfl) _) (by kernel_rfl) (by kernel_rfl)) ?_))))))))))))))))))))))))))))))))))))))))))))))))))))))))))))))))))))))))))))))))))))))))))))))))))))))))))))))))))))))))))))))))))))))));rintro v5 f i ⟨h,e,g⟩;refine va (v5) (wln (W.ret ?_));obtain rfl:=si H;exact r1 (qq f ⟨v5,h,e,rfl,g⟩)
def kg (p0:Int) (q0_0:List (Int×Int×Int)) (q1_0:Int):Option (Bool):=
 (idx q0_0 p0).bind fun a=>
 some (decide (a.2.1≥(w64 q1_0)))
theorem oy {d:Nat} {e:Nat} (o:Own c0 G F) (b:Int) (q0_0:List (Int×Int×Int)) (q1_0:Int) {r:Bool} (s:∀j u,([v2]:List Value)[j]? = some u→Im c0 d (0+j) u) (k:Sl dw c0 v2 q0_0) (t:∀j u,([J q1_0]:List Value)[j]? = some u→Im c0 e (0+j) u) (H:kg b q0_0 q1_0=some r): Calls prog 272 #[I b,Q d,Q e] c0.w (aI c0 fun c v=>Own c G (F)∧v=B r):=by
 unfold kg at H;refine en func272 rfl rfl (sr (va (B false) (wln (W.seq (rD [] (Kp G0 []) o ?_)))));intro h q p;have y:Kp G0 [] h:=Kp.nil0;refine tx 0 (fun g a=>l1 dx ((mm s) 0 _ rfl)) (ta 1 (I b) (bn H fun f l H=>?_));obtain ⟨x,i,n⟩:=Sl.at (k.mono q) (aW l);obtain rfl:=i;refine tx 2 (fun g a=>ix dx k.m l) (ta 3 (Qo (sb v2) (so v2+b.toNat * 3+1)) (tx 4 (fun g a=>l1 u_3 ((mm n) 1 _ rfl)) (tx 5 (fun g a=>l1 gW ((mm t) 0 _ rfl)) (ta 6 (I (w64 q1_0)) (ta 7 (B (decide (f.2.1≥(w64 q1_0)))) (ta 8 (B (decide (f.2.1≥(w64 q1_0)))) (dn (nrm (W.ret ?_)))))))));obtain rfl:=si H;exact r1 (qq h ⟨p,rfl⟩)
def dD (p0:Int) (p1:Int) (p2:Int):Option (Bool):=
 (bS (decide (p0≥p1)) (some (decide (p0≤p2)))).bind fun a=>
 some a
theorem eG (f:Own c0 G F) (a:Int) (e:Int) (b:Int) {r:Bool} (H:dD a e b=some r): Calls prog 312 #[J a,J e,J b] c0.w (aI c0 fun c v=>Own c G (F)∧v=B r):=by
 unfold dD at H;refine en func312 rfl rfl (sr (va (B false) (wln (W.seq (bn H fun g h H=>W.join (Jn c0 fun c l=>Own c G (F)∧l= [(6,B g)]) ?_ ?_)))))
 ·clear H;refine W.region (va (J a) (va (J e) (va (B (decide (a≥e))) ?_)));rcases bo (decide (a≥e)) with d | d
  ·have i:=anT d h;refine vb d (wa (J a) (wa (J b) (wa (B (decide (a≤b))) ?_)));obtain rfl:=si i;exact vv (B (decide (a≤b))) (wln (jn c0 ⟨f,rfl⟩))
  obtain rfl:=anF d h;exact vb d (pz (ps (vv (B false) (wln (jn c0 ⟨f,rfl⟩)))))
 rintro m p ⟨k,n,_,rfl,o,rfl,j,rfl⟩;refine nrm (W.ret ?_);obtain rfl:=si H;exact r1 (qq k ⟨j,rfl⟩)
def fk (p0:Int):Option (Bool):=
 (dD p0 44032 55203).bind fun a=>
 some a
theorem kJ (d:Own c0 G F) (a:Int) {r:Bool} (H:fk a=some r): Calls prog 313 #[J a] c0.w (aI c0 fun c v=>Own c G (F)∧v=B r):=by
 unfold fk at H;refine en func313 rfl rfl (sr (va (B false) (wln (sr (va (J a) (bn H fun b g H=>cl (eG d a 44032 55203 g) ?_))))));rintro v7 f h ⟨e,rfl⟩;refine va (B b) (wln (W.ret ?_));obtain rfl:=si H;exact r1 (qq f ⟨e,rfl⟩)
def gG (p0:Int):Option (Int):=
 (dD p0 4352 4447).bind fun i=>
 (orE i ((dD p0 43360 43388).bind fun j=>
 some j)).bind fun h=>
 if h=true then
 some 9
 else
 (dD p0 4448 4519).bind fun c=>
 (orE c ((dD p0 55216 55238).bind fun d=>
 some d)).bind fun a=>
 if a=true then
 some 10
 else
 (dD p0 4520 4607).bind fun e=>
 (orE e ((dD p0 55243 55291).bind fun f=>
 some f)).bind fun b=>
 if b=true then
 some 11
 else
 (fk p0).bind fun g=>
 if (!g)=true then
 some 0
 else
 if (((w32 (p0 - 44032)).tmod 28)==0)=true then
 some 12
 else
 some 13
theorem my (O0:Own c0 G F) (a:Int) {r:Int} (H:gG a=some r): Calls prog 273 #[J a] c0.w (aI c0 fun c v=>Own c G (F)∧v=I r):=by
 unfold gG at H;refine en func273 rfl rfl (sr (va (I 0) (wln (W.seq (W.block (W.seq (bn H fun w0 h1 H=>bn H fun e0 h2 H=>W.join (Jn c0 fun c l=>Own c G (F)∧l= [(0,J a),(3,B e0)]) ?_ ?_)))))))
 ·clear H;refine W.region (va (J a) (cl (eG O0 a 4352 4447 h1) ?_));rintro v8 c7 l7 ⟨S,rfl⟩;rcases bo (w0) with j | j
  ·obtain rfl:=orT j h2;exact vb j (pz (vv (B true) (wln (jn c7 ⟨S,rfl⟩))))
  have e:=orF j h2;refine vb j (wa (J a) (wn (bn e fun A g0 e=>cl (eG S a 43360 43388 g0) ?_)));rintro v17 U l16 ⟨P,rfl⟩;obtain rfl:=si e;exact vv (B A) (wln (jn U ⟨P,rfl⟩))
 rintro e_ w_ ⟨u,a1,_,rfl,d1,rfl,o,rfl⟩;refine nrm (cn H (fun i0 H=>?_) (fun i0 H=>?_))
 ·refine sr (va (I 9) (wln (W.ret (bkr (thr ?_)))));obtain rfl:=si H;exact r1 (qq u ⟨o,rfl⟩)
 refine W.seq (bn H fun M j0 H=>bn H fun D y H=>W.join (Jn u fun c l=>Own c G (F)∧l= [(0,J a),(10,B D)]) ?_ ?_)
 ·clear H;refine W.region (va (J a) (cl (eG o a 4448 4519 j0) ?_));rintro v32 X e1 ⟨p,rfl⟩;rcases bo (M) with b | b
  ·obtain rfl:=orT b y;exact vb b (pz (vv (B true) (wln (jn X ⟨p,rfl⟩))))
  have f:=orF b y;refine vb b (wa (J a) (wn (bn f fun k k0 f=>cl (eG p a 55216 55238 k0) ?_)));rintro v41 Z f1 ⟨R,rfl⟩;obtain rfl:=si f;exact vv (B k) (wln (jn Z ⟨R,rfl⟩))
 rintro e_ w_ ⟨x,b1,_,rfl,g1,rfl,q,rfl⟩;refine nrm (cn H (fun l0 H=>?_) (fun l0 H=>?_))
 ·refine sr (va (I 10) (wln (W.ret (bkr (thr ?_)))));obtain rfl:=si H;exact r1 (qq x ⟨q,rfl⟩)
 refine W.seq (bn H fun N m0 H=>bn H fun E z H=>W.join (Jn x fun c l=>Own c G (F)∧l= [(0,J a),(17,B E)]) ?_ ?_)
 ·clear H;refine W.region (va (J a) (cl (eG q a 4520 4607 m0) ?_));rintro v56 a0 i1 ⟨s,rfl⟩;rcases bo (N) with d | d
  ·obtain rfl:=orT d z;exact vb d (pz (vv (B true) (wln (jn a0 ⟨s,rfl⟩))))
  have g:=orF d z;refine vb d (wa (J a) (wn (bn g fun m o0 g=>cl (eG s a 55243 55291 o0) ?_)));rintro n1 b0 j1 ⟨T,rfl⟩;obtain rfl:=si g;exact vv (B m) (wln (jn b0 ⟨T,rfl⟩))
 rintro e_ w_ ⟨d0,c1,_,rfl,k1,rfl,t,rfl⟩;refine nrm (cn H (fun q0 H=>?_) (fun q0 H=>?_))
 ·refine sr (va (I 11) (wln (W.ret (bkr (thr ?_)))));obtain rfl:=si H;exact r1 (qq d0 ⟨t,rfl⟩)
 refine sr (va (J a) (bn H fun n s0 H=>cl (kJ t a s0) ?_));rintro p1 i m1 ⟨h,rfl⟩;refine vv (B (!n)) (wln (cn H (fun t0 H=>?_) (fun t0 H=>?_)))
 ·refine sr (va (I 0) (wln (W.ret (bkr (thr ?_)))));obtain rfl:=si H;exact r1 (qq i ⟨h,rfl⟩)
 refine sr (va (J a) (va (J (w32 (a - 44032))) (va (J ((w32 (a - 44032)).tmod 28)) (vv (B (((w32 (a - 44032)).tmod 28)==0)) (wln (cn H (fun u0 H=>?_) (fun u0 H=>?_)))))))
 ·refine sr (va (I 12) (wln (W.ret (bkr (thr ?_)))));obtain rfl:=si H;exact r1 (qq i ⟨h,rfl⟩)
 refine W.skip (bkn (nrm (sr (va (I 13) (wln (W.ret ?_))))));obtain rfl:=si H;exact r1 (qq i ⟨h,rfl⟩)
def dP (p0:Int) (p1_0_0:List (Int×Int×Int)) (p1_1_0:Int):Option (Int):=
 (cw (σ:=Int×Int) (τ:=Int) ((p0 - 0).toNat+1) (fun a=>
 if (decide (a.1 < a.2))=true then
 (kg (w64 ((IntKind.u64.wrap (w64 (a.1+a.2))).fdiv (2 ^ 1))) p1_0_0 p1_1_0).bind fun b=>
 if (!b)=true then
 some (.inl ((w64 ((w64 ((IntKind.u64.wrap (w64 (a.1+a.2))).fdiv (2 ^ 1)))+1)),a.2))
 else
 some (.inl (a.1,(w64 ((IntKind.u64.wrap (w64 (a.1+a.2))).fdiv (2 ^ 1)))))
 else
 some (.inr (a.1))) (0,p0)).bind fun c=>
 some c
theorem iv {b1_0:Nat} {b1_1:Nat} (A:Own c0 G F) (b:Int) (p1_0_0:List (Int×Int×Int)) (p1_1_0:Int) {r:Int} (N:∀j u,([v2]:List Value)[j]? = some u→Im c0 b1_0 (0+j) u) (M:Sl dw c0 v2 p1_0_0) (P:∀j u,([J p1_1_0]:List Value)[j]? = some u→Im c0 b1_1 (0+j) u) (H:dP b p1_0_0 p1_1_0=some r): Calls prog 271 #[I b,.func (.func 272) #[] #[Q b1_0,Q b1_1]] c0.w (aI c0 fun c v=>Own c G (F)∧v=I r):=by
 unfold dP at H;refine en func271 rfl rfl (sr (va (I 0) (wln (sr (va (I b) (va (I 0) (va (I b) (wln (W.seq (W.block (bn H fun g y k=>lp y (fun a=>Jn c0 fun c l=>Own c G (F)∧l= [(1,.func (.func 272) #[] #[Q b1_0,Q b1_1]),(5,I a.1),(6,I a.2)]) (fun h ex e w=>ex= .exit 0∧(Jn c0 fun c l=>Own c G (F)∧l= [(5,I h)]) e w) ?_ ?_ ?_)))))))))))
 ·clear k y;intro a X q z H;revert q z;rintro E R ⟨D,Z,_,rfl,l7,rfl,o,rfl⟩;refine W.seq (sr (va (I a.1) (va (I a.2) (va (B (decide (a.1 < a.2))) (wln (cn H (fun s H=>?_) (fun s H=>?_)))))))
  ·refine W.skip (nrm (W.block (sr (va (I a.1) (va (I a.2) (va (I (w64 (a.1+a.2))) (va (.int .u64 (IntKind.u64.wrap (w64 (a.1+a.2)))) (va (.int .u64 ((IntKind.u64.wrap (w64 (a.1+a.2))).fdiv (2 ^ 1))) (vv (I (w64 ((IntKind.u64.wrap (w64 (a.1+a.2))).fdiv (2 ^ 1)))) (wln (sr (va (.func (.func 272) #[] #[Q b1_0,Q b1_1]) (va (I (w64 ((IntKind.u64.wrap (w64 (a.1+a.2))).fdiv (2 ^ 1)))) (bn H fun i t H=>cl (oy o (w64 ((IntKind.u64.wrap (w64 (a.1+a.2))).fdiv (2 ^ 1))) p1_0_0 p1_1_0 (mm N) M.m (mm P) t) ?_))))))))))))));rintro v20 f T ⟨d,rfl⟩;refine va (B (!i)) (wln (cn H (fun x H=>?_) (fun x H=>?_)))
   ·refine W.region (va (I (w64 ((IntKind.u64.wrap (w64 (a.1+a.2))).fdiv (2 ^ 1)))) (vv (I (w64 ((w64 ((IntKind.u64.wrap (w64 (a.1+a.2))).fdiv (2 ^ 1)))+1))) (WL.nil (bkn ?_))));obtain rfl:=si H;exact ⟨_,rfl,jn f ⟨d,rfl⟩⟩
   refine W.region (vv (I (w64 ((IntKind.u64.wrap (w64 (a.1+a.2))).fdiv (2 ^ 1)))) (WL.nil (bkn ?_)));obtain rfl:=si H;exact ⟨_,rfl,jn f ⟨d,rfl⟩⟩
  refine W.exit (thx ?_);obtain rfl:=si H;exact ⟨_,rfl,rfl,jn D ⟨o,rfl⟩⟩
 ·exact jn c0 ⟨A,rfl⟩
 rintro _ E R ⟨rfl,p,S,_,rfl,U,rfl,n,rfl⟩;refine bke (nrm (sr (vv (I g) (wln (W.ret ?_)))));obtain rfl:=si k;exact r1 (qq p ⟨n,rfl⟩)
def mp (p0:Int):Option (Int):=
 (jp).bind fun a=>
 (dP (a.length:Int) a p0).bind fun b=>
 (bS (decide (b < (a.length:Int))) ((idx a b).bind fun d=>
 some (decide (d.1≤(w64 p0))))).bind fun c=>
 if c=true then
 (idx a b).bind fun e=>
 some e.2.2
 else
 (gG p0).bind fun f=>
 some f
theorem qr (O0:Own c0 G F) (i:Int) {r:Int} (H:mp i=some r): Calls prog 227 #[J i] c0.w (aI c0 fun c v=>Own c G (F)∧v=I r):=by
 unfold mp at H;refine en func227 rfl rfl (sr (me (bx 21 [J i] O0) ?_));rintro v5 c4 l4 ⟨b1,rfl,O2,R⟩;refine va (I 0) (wln (sr (bn H fun j h6 H=>cl (nX O2 h6) ?_)));rintro v7 h1 p1 ⟨_,u8,U,rfl,s⟩;refine me (al 323 [Y] U) ?_;rintro v19 i1 E ⟨y,rfl,X⟩;obtain ⟨b,d,e,rfl⟩:=((s.mono E)).form;refine md (sC 323 0 (.slice b d e) [.slice b d e] 0 X ⟨s.m.one,trivial⟩) ?_;rintro j1 v0 t;refine wln (sr (vx (le1 0 dx (t.on 0 rfl)) (vx (lnO 3 dx s.m) ?_)));obtain ⟨k1,l0,q1,Z,g⟩:=t.frz 1 rfl (s.mono (E.trans v0));refine WL.gh l0 ?_;obtain ⟨m1,m0,M,a0,n⟩:=Own.frzB 0 Z rfl;refine WL.gh m0 ?_;have b0:=a0.sD 2 [1];refine va (.func (.func 272) #[] #[Q y,Q b1]) (bn H fun a o0 H=>cl (iv b0 (j.length:Int) j i n g.m (mm R) o0) ?_);rintro v40 i0 N ⟨d0,rfl⟩;refine va (I a) (wln (W.seq (W.seq (bn H fun P z H=>W.join (Jn i0 fun c l=>Own c G (es false dw (.slice b d e) 326 u8 j :: F)∧l= [(1,Q b1),(3,Q y),(4,I a),(23,B P)]) ?_ ?_))))
 ·clear H;refine rD [] (Kp G0 []) d0 ?_;intro p w0 u;have t1:Kp G0 [] p:=Kp.nil0;refine ta 0 (I a) (tx 1 (fun k f=>l1 dx ((mm n) 0 _ rfl)) (tx 2 (fun k f=>ln 3 dx g.m) (ta 3 (B (decide (a < (j.length:Int)))) ?_)));rcases bo (decide (a < (j.length:Int))) with h | h
  ·have o:=anT h z;refine bn o fun q A o=>AC.takeb 4 h rfl (by kernel_rfl) (by kernel_rfl) (fun k f=>(by kernel_rfl)) (tx 5 (fun k f=>l1 dx ((mm n) 0 _ rfl)) (ta 6 (I a) ?_));obtain ⟨e1,q0,y0⟩:=Sl.at (g.mono (M.trans (N.trans w0))) (aW A);obtain rfl:=q0;refine tx 7 (fun k f=>ix dx g.m A) (ta 8 (Qo (sb (.slice b d e)) (so (.slice b d e)+a.toNat * 3)) (tx 9 (fun k f=>l1 u_3 ((mm y0) 0 _ rfl)) (tx 10 (fun k f=>l1 gW ((mm R) 0 _ rfl)) (ta 11 (I (w64 i)) (ta 12 (B (decide (q.1≤(w64 i)))) ?_)))));obtain rfl:=si o;exact ta 13 (B (decide (q.1≤(w64 i)))) (dn (nrm (jn p ⟨u,rfl⟩)))
  obtain rfl:=anF h z;exact AC.takeb 4 h rfl (by kernel_rfl) (by kernel_rfl) (fun k f=>(by kernel_rfl)) (tp 5 (tp 6 (tp 7 (tp 8 (tp 9 (tp 10 (tp 11 (tp 12 (ta 13 (B false) (dn (nrm (jn p ⟨u,rfl⟩))))))))))))
 rintro e_ w_ ⟨j0,n1,_,rfl,x0,rfl,x,rfl⟩;refine nrm (cn H (fun s0 H=>?_) (fun s0 H=>?_))
 ·refine sr (vx (l1 dx ((mm n) 0 _ rfl)) (va (I a) (bn H fun S D H=>?_)));obtain ⟨f1,t0,z0⟩:=Sl.at (g.mono (M.trans (N.trans x0))) (aW D);obtain rfl:=t0;refine vx (ix dx g.m D) (va (Qo (sb (.slice b d e)) (so (.slice b d e)+a.toNat * 3+2)) (vx (l1 u_3 (z0 2 _ rfl)) (va (I S.2.2) (wln (W.ret (thr ?_))))));obtain rfl:=si H;have e0:=x.sD 1 [];exact r1 (qq j0 ⟨e0,rfl⟩)
 refine W.skip (nrm (sr (vx (l1 gW ((mm R) 0 _ rfl)) (bn H fun T u0 H=>cl (my x i u0) ?_))));rintro u1 k0 s1 ⟨f0,rfl⟩;refine va (I T) (wln (W.ret ?_));obtain rfl:=si H;have g0:=f0.sD 1 [];exact r1 (qq k0 ⟨g0,rfl⟩)
def jo (p0:Int) (q0_0:List (Int×Int)) (q1_0:Int):Option (Bool):=
 (idx q0_0 p0).bind fun a=>
 some (decide (a.2≥q1_0))
theorem nW {d:Nat} {e:Nat} (o:Own c0 G F) (b:Int) (q0_0:List (Int×Int)) (q1_0:Int) {r:Bool} (s:∀j u,([v2]:List Value)[j]? = some u→Im c0 d (0+j) u) (k:Sl jK c0 v2 q0_0) (t:∀j u,([J q1_0]:List Value)[j]? = some u→Im c0 e (0+j) u) (H:jo b q0_0 q1_0=some r): Calls prog 275 #[I b,Q d,Q e] c0.w (aI c0 fun c v=>Own c G (F)∧v=B r):=by
 unfold jo at H;refine en func275 rfl rfl (sr (va (B false) (wln (W.seq (rD [] (Kp G0 []) o ?_)))));intro h q p;have y:Kp G0 [] h:=Kp.nil0;refine tx 0 (fun g a=>l1 lD ((mm s) 0 _ rfl)) (ta 1 (I b) (bn H fun f l H=>?_));obtain ⟨x,i,n⟩:=Sl.at (k.mono q) (aW l);obtain rfl:=i;refine tx 2 (fun g a=>ix lD k.m l) (ta 3 (Qo (sb v2) (so v2+b.toNat * 2+1)) (tx 4 (fun g a=>l1 gW ((mm n) 1 _ rfl)) (tx 5 (fun g a=>l1 gW ((mm t) 0 _ rfl)) (ta 6 (B (decide (f.2≥q1_0))) (ta 7 (B (decide (f.2≥q1_0))) (dn (nrm (W.ret ?_))))))));obtain rfl:=si H;exact r1 (qq h ⟨p,rfl⟩)
def eT:List (Int×Int):=[(169,169),(174,174),(8252,8252),(8265,8265),(8482,8482),(8505,8505),(8596,8601),(8617,8618),(8986,8987),(9000,9000),(9096,9096),(9167,9167),(9193,9203),(9208,9210),(9410,9410),(9642,9643),(9654,9654),(9664,9664),(9723,9726),(9728,9733),(9735,9746),(9748,9861),(9872,9989),(9992,10002),(10004,10004),(10006,10006),(10013,10013),(10017,10017),(10024,10024),(10035,10036),(10052,10052),(10055,10055),(10060,10060),(10062,10062),(10067,10069),(10071,10071),(10083,10087),(10133,10135),(10145,10145),(10160,10160),(10175,10175),(10548,10549),(11013,11015),(11035,11036),(11088,11088),(11093,11093),(12336,12336),(12349,12349),(12951,12951),(12953,12953),(126976,127231),(127245,127247),(127279,127279),(127340,127345),(127358,127359),(127374,127374),(127377,127386),(127405,127461),(127489,127503),(127514,127514),(127535,127535),(127538,127546),(127548,127551),(127561,127994),(128000,128317),(128326,128591),(128640,128767),(128884,128895),(128981,129023),(129036,129039),(129096,129103),(129114,129119),(129160,129167),(129198,129279),(129292,129338),(129340,129349),(129351,129791),(130048,131069)]
def iF:Option (List (Int×Int)):=
 some eT
theorem nn (d:Own c0 G F) {r:List (Int×Int)} (H:iF=some r): Calls prog 274 #[] c0.w (aI c0 fun c v=>∃a b,Own c G (es true jK a 329 b r :: F)∧v=a∧OA jK c a b r):=by
 unfold iF at H;refine en func274 rfl rfl (sr (va (Y) (wln (sr (va (JII 169 169) (va (JII 174 174) (va (JII 8252 8252) (va (JII 8265 8265) (va (JII 8482 8482) (va (JII 8505 8505) (va (JII 8596 8601) (va (JII 8617 8618) (va (JII 8986 8987) (va (JII 9000 9000) (va (JII 9096 9096) (va (JII 9167 9167) (va (JII 9193 9203) (va (JII 9208 9210) (va (JII 9410 9410) (va (JII 9642 9643) (va (JII 9654 9654) (va (JII 9664 9664) (va (JII 9723 9726) (va (JII 9728 9733) (va (JII 9735 9746) (va (JII 9748 9861) (va (JII 9872 9989) (va (JII 9992 10002) (va (JII 10004 10004) (va (JII 10006 10006) (va (JII 10013 10013) (va (JII 10017 10017) (va (JII 10024 10024) (va (JII 10035 10036) (va (JII 10052 10052) (va (JII 10055 10055) (va (JII 10060 10060) (va (JII 10062 10062) (va (JII 10067 10069) (va (JII 10071 10071) (va (JII 10083 10087) (va (JII 10133 10135) (va (JII 10145 10145) (va (JII 10160 10160) (va (JII 10175 10175) (va (JII 10548 10549) (va (JII 11013 11015) (va (JII 11035 11036) (va (JII 11088 11088) (va (JII 11093 11093) (va (JII 12336 12336) (va (JII 12349 12349) (va (JII 12951 12951) (va (JII 12953 12953) (va (JII 126976 127231) (va (JII 127245 127247) (va (JII 127279 127279) (va (JII 127340 127345) (va (JII 127358 127359) (va (JII 127374 127374) (va (JII 127377 127386) (va (JII 127405 127461) (va (JII 127489 127503) (va (JII 127514 127514) (va (JII 127535 127535) (va (JII 127538 127546) (va (JII 127548 127551) (va (JII 127561 127994) (va (JII 128000 128317) (va (JII 128326 128591) (va (JII 128640 128767) (va (JII 128884 128895) (va (JII 128981 129023) (va (JII 129036 129039) (va (JII 129096 129103) (va (JII 129114 129119) (va (JII 129160 129167) (va (JII 129198 129279) (va (JII 129292 129338) (va (JII 129340 129349) (va (JII 129351 129791) (va (JII 130048 131069) (me (Own.sl (R:=jK) (E:=329) (ls:=eT.map (fun x=>[J x.1,J x.2])) (vs:=(eT.map (fun x=>[J x.1,J x.2])).flatten) (xs:=eT) true d (aJ _) rfl (jQ.map _ (fun _=>rfl) _) (by kernel_rfl) (by kernel_rfl)) ?_)))))))))))))))))))))))))))))))))))))))))))))))))))))))))))))))))))))))))))))))))));rintro v5 f i ⟨h,e,g⟩;refine va (v5) (wln (W.ret ?_));obtain rfl:=si H;exact r1 (qq f ⟨v5,h,e,rfl,g⟩)
def dF (p0:Int) (p1_0_0:List (Int×Int)) (p1_1_0:Int):Option (Int):=
 (cw (σ:=Int×Int) (τ:=Int) ((p0 - 0).toNat+1) (fun a=>
 if (decide (a.1 < a.2))=true then
 (jo (w64 ((IntKind.u64.wrap (w64 (a.1+a.2))).fdiv (2 ^ 1))) p1_0_0 p1_1_0).bind fun b=>
 if (!b)=true then
 some (.inl ((w64 ((w64 ((IntKind.u64.wrap (w64 (a.1+a.2))).fdiv (2 ^ 1)))+1)),a.2))
 else
 some (.inl (a.1,(w64 ((IntKind.u64.wrap (w64 (a.1+a.2))).fdiv (2 ^ 1)))))
 else
 some (.inr (a.1))) (0,p0)).bind fun c=>
 some c
theorem ic {b1_0:Nat} {b1_1:Nat} (A:Own c0 G F) (b:Int) (p1_0_0:List (Int×Int)) (p1_1_0:Int) {r:Int} (N:∀j u,([v2]:List Value)[j]? = some u→Im c0 b1_0 (0+j) u) (M:Sl jK c0 v2 p1_0_0) (P:∀j u,([J p1_1_0]:List Value)[j]? = some u→Im c0 b1_1 (0+j) u) (H:dF b p1_0_0 p1_1_0=some r): Calls prog 271 #[I b,.func (.func 275) #[] #[Q b1_0,Q b1_1]] c0.w (aI c0 fun c v=>Own c G (F)∧v=I r):=by
 unfold dF at H;refine en func271 rfl rfl (sr (va (I 0) (wln (sr (va (I b) (va (I 0) (va (I b) (wln (W.seq (W.block (bn H fun g y k=>lp y (fun a=>Jn c0 fun c l=>Own c G (F)∧l= [(1,.func (.func 275) #[] #[Q b1_0,Q b1_1]),(5,I a.1),(6,I a.2)]) (fun h ex e w=>ex= .exit 0∧(Jn c0 fun c l=>Own c G (F)∧l= [(5,I h)]) e w) ?_ ?_ ?_)))))))))))
 ·clear k y;intro a X q z H;revert q z;rintro E R ⟨D,Z,_,rfl,l7,rfl,o,rfl⟩;refine W.seq (sr (va (I a.1) (va (I a.2) (va (B (decide (a.1 < a.2))) (wln (cn H (fun s H=>?_) (fun s H=>?_)))))))
  ·refine W.skip (nrm (W.block (sr (va (I a.1) (va (I a.2) (va (I (w64 (a.1+a.2))) (va (.int .u64 (IntKind.u64.wrap (w64 (a.1+a.2)))) (va (.int .u64 ((IntKind.u64.wrap (w64 (a.1+a.2))).fdiv (2 ^ 1))) (vv (I (w64 ((IntKind.u64.wrap (w64 (a.1+a.2))).fdiv (2 ^ 1)))) (wln (sr (va (.func (.func 275) #[] #[Q b1_0,Q b1_1]) (va (I (w64 ((IntKind.u64.wrap (w64 (a.1+a.2))).fdiv (2 ^ 1)))) (bn H fun i t H=>cl (nW o (w64 ((IntKind.u64.wrap (w64 (a.1+a.2))).fdiv (2 ^ 1))) p1_0_0 p1_1_0 (mm N) M.m (mm P) t) ?_))))))))))))));rintro v20 f T ⟨d,rfl⟩;refine va (B (!i)) (wln (cn H (fun x H=>?_) (fun x H=>?_)))
   ·refine W.region (va (I (w64 ((IntKind.u64.wrap (w64 (a.1+a.2))).fdiv (2 ^ 1)))) (vv (I (w64 ((w64 ((IntKind.u64.wrap (w64 (a.1+a.2))).fdiv (2 ^ 1)))+1))) (WL.nil (bkn ?_))));obtain rfl:=si H;exact ⟨_,rfl,jn f ⟨d,rfl⟩⟩
   refine W.region (vv (I (w64 ((IntKind.u64.wrap (w64 (a.1+a.2))).fdiv (2 ^ 1)))) (WL.nil (bkn ?_)));obtain rfl:=si H;exact ⟨_,rfl,jn f ⟨d,rfl⟩⟩
  refine W.exit (thx ?_);obtain rfl:=si H;exact ⟨_,rfl,rfl,jn D ⟨o,rfl⟩⟩
 ·exact jn c0 ⟨A,rfl⟩
 rintro _ E R ⟨rfl,p,S,_,rfl,U,rfl,n,rfl⟩;refine bke (nrm (sr (vv (I g) (wln (W.ret ?_)))));obtain rfl:=si k;exact r1 (qq p ⟨n,rfl⟩)
def kX (p0:Int):Option (Bool):=
 (iF).bind fun a=>
 (dF (a.length:Int) a p0).bind fun b=>
 (bS (decide (b < (a.length:Int))) ((idx a b).bind fun d=>
 some (decide (d.1≤p0)))).bind fun c=>
 some c
theorem pA (O0:Own c0 G F) (j:Int) {r:Bool} (H:kX j=some r): Calls prog 228 #[J j] c0.w (aI c0 fun c v=>Own c G (F)∧v=B r):=by
 unfold kX at H;refine en func228 rfl rfl (sr (me (bx 21 [J j] O0) ?_));rintro v5 c4 l4 ⟨b1,rfl,O2,m3⟩;refine va (B false) (wln (sr (bn H fun h h6 H=>cl (nn O2 h6) ?_)));rintro v7 u0 a1 ⟨_,u8,D,rfl,s⟩;refine me (al 327 [Y] D) ?_;rintro v19 v0 z ⟨U,rfl,E⟩;obtain ⟨d,e,f,rfl⟩:=((s.mono z)).form;refine md (sC 327 0 (.slice d e f) [.slice d e f] 0 E ⟨s.m.one,trivial⟩) ?_;rintro w0 f0 t;refine wln (sr (vx (le1 0 lD (t.on 0 rfl)) (vx (lnO 3 lD s.m) ?_)));obtain ⟨x0,a0,c1,M,n⟩:=t.frz 1 rfl (s.mono (z.trans f0));refine WL.gh a0 ?_;obtain ⟨y0,b0,g0,N,q⟩:=Own.frzB 0 M rfl;refine WL.gh b0 ?_;have P:=N.sD 2 [1];refine va (.func (.func 275) #[] #[Q U,Q b1]) (bn H fun a d0 H=>cl (ic P (h.length:Int) h j q n.m (mm m3) d0) ?_);rintro v40 X h0 ⟨R,rfl⟩;refine va (I a) (wln (W.seq (bn H fun A x H=>W.join (Jn X fun c l=>Own c G (es false jK (.slice d e f) 329 u8 h :: F)∧l= [(2,B A)]) ?_ ?_)))
 ·clear H;refine rD [] (Kp G0 []) R ?_;intro p i0 u;have e1:Kp G0 [] p:=Kp.nil0;refine ta 0 (I a) (tx 1 (fun i b=>l1 lD ((mm q) 0 _ rfl)) (tx 2 (fun i b=>ln 3 lD n.m) (ta 3 (B (decide (a < (h.length:Int)))) ?_)));rcases bo (decide (a < (h.length:Int))) with g | g
  ·have o:=anT g x;refine bn o fun k y o=>AC.takeb 4 g rfl (by kernel_rfl) (by kernel_rfl) (fun i b=>(by kernel_rfl)) (tx 5 (fun i b=>l1 lD ((mm q) 0 _ rfl)) (ta 6 (I a) ?_));obtain ⟨s0,e0,k0⟩:=Sl.at (n.mono (g0.trans (h0.trans i0))) (aW y);obtain rfl:=e0;refine tx 7 (fun i b=>ix lD n.m y) (ta 8 (Qo (sb (.slice d e f)) (so (.slice d e f)+a.toNat * 2)) (tx 9 (fun i b=>l1 gW ((mm k0) 0 _ rfl)) (tx 10 (fun i b=>l1 gW ((mm m3) 0 _ rfl)) (ta 11 (B (decide (k.1≤j))) ?_))));obtain rfl:=si o;exact ta 12 (B (decide (k.1≤j))) (ta 13 (B (decide (k.1≤j))) (dn (nrm (jn p ⟨u,rfl⟩))))
  obtain rfl:=anF g x;exact AC.takeb 4 g rfl (by kernel_rfl) (by kernel_rfl) (fun i b=>(by kernel_rfl)) (tp 5 (tp 6 (tp 7 (tp 8 (tp 9 (tp 10 (tp 11 (ta 12 (B false) (ta 13 (B false) (dn (nrm (jn p ⟨u,rfl⟩))))))))))))
 rintro e_ w_ ⟨Z,z0,_,rfl,d1,rfl,S,rfl⟩;refine nrm (W.ret ?_);obtain rfl:=si H;have T:=S.sD 1 [];exact r1 (qq Z ⟨T,rfl⟩)
def js (p0:Int) (q0_0:List (Int×Int×Int)) (q1_0:Int):Option (Bool):=
 (idx q0_0 p0).bind fun a=>
 some (decide (a.2.1≥(w64 q1_0)))
theorem oe {d:Nat} {e:Nat} (o:Own c0 G F) (b:Int) (q0_0:List (Int×Int×Int)) (q1_0:Int) {r:Bool} (s:∀j u,([v2]:List Value)[j]? = some u→Im c0 d (0+j) u) (k:Sl dw c0 v2 q0_0) (t:∀j u,([J q1_0]:List Value)[j]? = some u→Im c0 e (0+j) u) (H:js b q0_0 q1_0=some r): Calls prog 277 #[I b,Q d,Q e] c0.w (aI c0 fun c v=>Own c G (F)∧v=B r):=by
 unfold js at H;refine en func277 rfl rfl (sr (va (B false) (wln (W.seq (rD [] (Kp G0 []) o ?_)))));intro h q p;have y:Kp G0 [] h:=Kp.nil0;refine tx 0 (fun g a=>l1 dx ((mm s) 0 _ rfl)) (ta 1 (I b) (bn H fun f l H=>?_));obtain ⟨x,i,n⟩:=Sl.at (k.mono q) (aW l);obtain rfl:=i;refine tx 2 (fun g a=>ix dx k.m l) (ta 3 (Qo (sb v2) (so v2+b.toNat * 3+1)) (tx 4 (fun g a=>l1 u_3 ((mm n) 1 _ rfl)) (tx 5 (fun g a=>l1 gW ((mm t) 0 _ rfl)) (ta 6 (I (w64 q1_0)) (ta 7 (B (decide (f.2.1≥(w64 q1_0)))) (ta 8 (B (decide (f.2.1≥(w64 q1_0)))) (dn (nrm (W.ret ?_)))))))));obtain rfl:=si H;exact r1 (qq h ⟨p,rfl⟩)
def eV:List (Int×Int×Int):=[(768,879,3),(1155,1159,3),(1425,1469,3),(1552,1562,3),(1611,1631,3),(2325,2361,1),(2364,2364,3),(2381,2381,2),(2385,2388,3),(2392,2399,1),(2424,2431,1),(2453,2472,1),(2474,2480,1),(2482,2482,1),(2486,2489,1),(2492,2492,3),(2509,2509,2),(2524,2525,1),(2527,2527,1),(2544,2545,1),(2709,2728,1),(2730,2736,1),(2738,2739,1),(2741,2745,1),(2748,2748,3),(2765,2765,2),(2809,2809,1),(2837,2856,1),(2858,2864,1),(2866,2867,1),(2869,2873,1),(2876,2876,3),(2893,2893,2),(2908,2909,1),(2911,2911,1),(2929,2929,1),(3093,3112,1),(3114,3129,1),(3132,3132,3),(3149,3149,2),(3160,3162,1),(3349,3386,1),(3405,3405,2),(6832,6845,3),(7616,7679,3),(8205,8205,3),(8400,8412,3),(12330,12335,3),(12441,12442,3),(65056,65071,3)]
def iN:Option (List (Int×Int×Int)):=
 some eV
theorem nx (d:Own c0 G F) {r:List (Int×Int×Int)} (H:iN=some r): Calls prog 276 #[] c0.w (aI c0 fun c v=>∃a b,Own c G (es true dw a 326 b r :: F)∧v=a∧OA dw c a b r):=by
 unfold iN at H;refine en func276 rfl rfl (sr (va (Y) (wln (sr (va (ai 768 879 3) (va (ai 1155 1159 3) (va (ai 1425 1469 3) (va (ai 1552 1562 3) (va (ai 1611 1631 3) (va (ai 2325 2361 1) (va (ai 2364 2364 3) (va (ai 2381 2381 2) (va (ai 2385 2388 3) (va (ai 2392 2399 1) (va (ai 2424 2431 1) (va (ai 2453 2472 1) (va (ai 2474 2480 1) (va (ai 2482 2482 1) (va (ai 2486 2489 1) (va (ai 2492 2492 3) (va (ai 2509 2509 2) (va (ai 2524 2525 1) (va (ai 2527 2527 1) (va (ai 2544 2545 1) (va (ai 2709 2728 1) (va (ai 2730 2736 1) (va (ai 2738 2739 1) (va (ai 2741 2745 1) (va (ai 2748 2748 3) (va (ai 2765 2765 2) (va (ai 2809 2809 1) (va (ai 2837 2856 1) (va (ai 2858 2864 1) (va (ai 2866 2867 1) (va (ai 2869 2873 1) (va (ai 2876 2876 3) (va (ai 2893 2893 2) (va (ai 2908 2909 1) (va (ai 2911 2911 1) (va (ai 2929 2929 1) (va (ai 3093 3112 1) (va (ai 3114 3129 1) (va (ai 3132 3132 3) (va (ai 3149 3149 2) (va (ai 3160 3162 1) (va (ai 3349 3386 1) (va (ai 3405 3405 2) (va (ai 6832 6845 3) (va (ai 7616 7679 3) (va (ai 8205 8205 3) (va (ai 8400 8412 3) (va (ai 12330 12335 3) (va (ai 12441 12442 3) (va (ai 65056 65071 3) (me (Own.sl (R:=dw) (E:=326) (ls:=eV.map (fun x=>[I x.1,I x.2.1,I x.2.2])) (vs:=(eV.map (fun x=>[I x.1,I x.2.1,I x.2.2])).flatten) (xs:=eV) true d (aJ _) rfl (jQ.map _ (fun _=>rfl) _) (by kernel_rfl) (by kernel_rfl)) ?_)))))))))))))))))))))))))))))))))))))))))))))))))))))));rintro v5 f i ⟨h,e,g⟩;refine va (v5) (wln (W.ret ?_));obtain rfl:=si H;exact r1 (qq f ⟨v5,h,e,rfl,g⟩)
def dH (p0:Int) (p1_0_0:List (Int×Int×Int)) (p1_1_0:Int):Option (Int):=
 (cw (σ:=Int×Int) (τ:=Int) ((p0 - 0).toNat+1) (fun a=>
 if (decide (a.1 < a.2))=true then
 (js (w64 ((IntKind.u64.wrap (w64 (a.1+a.2))).fdiv (2 ^ 1))) p1_0_0 p1_1_0).bind fun b=>
 if (!b)=true then
 some (.inl ((w64 ((w64 ((IntKind.u64.wrap (w64 (a.1+a.2))).fdiv (2 ^ 1)))+1)),a.2))
 else
 some (.inl (a.1,(w64 ((IntKind.u64.wrap (w64 (a.1+a.2))).fdiv (2 ^ 1)))))
 else
 some (.inr (a.1))) (0,p0)).bind fun c=>
 some c
theorem ii {b1_0:Nat} {b1_1:Nat} (A:Own c0 G F) (b:Int) (p1_0_0:List (Int×Int×Int)) (p1_1_0:Int) {r:Int} (N:∀j u,([v2]:List Value)[j]? = some u→Im c0 b1_0 (0+j) u) (M:Sl dw c0 v2 p1_0_0) (P:∀j u,([J p1_1_0]:List Value)[j]? = some u→Im c0 b1_1 (0+j) u) (H:dH b p1_0_0 p1_1_0=some r): Calls prog 271 #[I b,.func (.func 277) #[] #[Q b1_0,Q b1_1]] c0.w (aI c0 fun c v=>Own c G (F)∧v=I r):=by
 unfold dH at H;refine en func271 rfl rfl (sr (va (I 0) (wln (sr (va (I b) (va (I 0) (va (I b) (wln (W.seq (W.block (bn H fun g y k=>lp y (fun a=>Jn c0 fun c l=>Own c G (F)∧l= [(1,.func (.func 277) #[] #[Q b1_0,Q b1_1]),(5,I a.1),(6,I a.2)]) (fun h ex e w=>ex= .exit 0∧(Jn c0 fun c l=>Own c G (F)∧l= [(5,I h)]) e w) ?_ ?_ ?_)))))))))))
 ·clear k y;intro a X q z H;revert q z;rintro E R ⟨D,Z,_,rfl,l7,rfl,o,rfl⟩;refine W.seq (sr (va (I a.1) (va (I a.2) (va (B (decide (a.1 < a.2))) (wln (cn H (fun s H=>?_) (fun s H=>?_)))))))
  ·refine W.skip (nrm (W.block (sr (va (I a.1) (va (I a.2) (va (I (w64 (a.1+a.2))) (va (.int .u64 (IntKind.u64.wrap (w64 (a.1+a.2)))) (va (.int .u64 ((IntKind.u64.wrap (w64 (a.1+a.2))).fdiv (2 ^ 1))) (vv (I (w64 ((IntKind.u64.wrap (w64 (a.1+a.2))).fdiv (2 ^ 1)))) (wln (sr (va (.func (.func 277) #[] #[Q b1_0,Q b1_1]) (va (I (w64 ((IntKind.u64.wrap (w64 (a.1+a.2))).fdiv (2 ^ 1)))) (bn H fun i t H=>cl (oe o (w64 ((IntKind.u64.wrap (w64 (a.1+a.2))).fdiv (2 ^ 1))) p1_0_0 p1_1_0 (mm N) M.m (mm P) t) ?_))))))))))))));rintro v20 f T ⟨d,rfl⟩;refine va (B (!i)) (wln (cn H (fun x H=>?_) (fun x H=>?_)))
   ·refine W.region (va (I (w64 ((IntKind.u64.wrap (w64 (a.1+a.2))).fdiv (2 ^ 1)))) (vv (I (w64 ((w64 ((IntKind.u64.wrap (w64 (a.1+a.2))).fdiv (2 ^ 1)))+1))) (WL.nil (bkn ?_))));obtain rfl:=si H;exact ⟨_,rfl,jn f ⟨d,rfl⟩⟩
   refine W.region (vv (I (w64 ((IntKind.u64.wrap (w64 (a.1+a.2))).fdiv (2 ^ 1)))) (WL.nil (bkn ?_)));obtain rfl:=si H;exact ⟨_,rfl,jn f ⟨d,rfl⟩⟩
  refine W.exit (thx ?_);obtain rfl:=si H;exact ⟨_,rfl,rfl,jn D ⟨o,rfl⟩⟩
 ·exact jn c0 ⟨A,rfl⟩
 rintro _ E R ⟨rfl,p,S,_,rfl,U,rfl,n,rfl⟩;refine bke (nrm (sr (vv (I g) (wln (W.ret ?_)))));obtain rfl:=si k;exact r1 (qq p ⟨n,rfl⟩)
def lf (p0:Int):Option (Int):=
 (iN).bind fun a=>
 (dH (a.length:Int) a p0).bind fun b=>
 (orE (b==(a.length:Int)) ((idx a b).bind fun d=>
 some (decide (d.1 > (w64 p0))))).bind fun c=>
 if c=true then
 some 0
 else
 (idx a b).bind fun e=>
 some e.2.2
theorem pF (O0:Own c0 G F) (k:Int) {r:Int} (H:lf k=some r): Calls prog 229 #[J k] c0.w (aI c0 fun c v=>Own c G (F)∧v=I r):=by
 unfold lf at H;refine en func229 rfl rfl (sr (me (bx 21 [J k] O0) ?_));rintro v5 c4 l4 ⟨b1,rfl,O2,m3⟩;refine va (I 0) (wln (sr (bn H fun i h6 H=>cl (nx O2 h6) ?_)));rintro v7 d1 j1 ⟨_,u8,T,rfl,s⟩;refine me (al 323 [Y] T) ?_;rintro v19 e1 M ⟨y,rfl,U⟩;obtain ⟨b,d,e,rfl⟩:=((s.mono M)).form;refine md (sC 323 0 (.slice b d e) [.slice b d e] 0 U ⟨s.m.one,trivial⟩) ?_;rintro f1 m0 t;refine wln (sr (vx (le1 0 dx (t.on 0 rfl)) (vx (lnO 3 dx s.m) ?_)));obtain ⟨g1,g0,k1,X,g⟩:=t.frz 1 rfl (s.mono (M.trans m0));refine WL.gh g0 ?_;obtain ⟨h1,h0,N,Z,n⟩:=Own.frzB 0 X rfl;refine WL.gh h0 ?_;have a0:=Z.sD 2 [1];refine va (.func (.func 277) #[] #[Q y,Q b1]) (bn H fun a i0 H=>cl (ii a0 (i.length:Int) i k n g.m (mm m3) i0) ?_);rintro v40 f0 P ⟨b0,rfl⟩;refine va (I a) (wln (W.seq (W.seq (bn H fun R A H=>W.join (Jn f0 fun c l=>Own c G (es false dw (.slice b d e) 326 u8 i :: F)∧l= [(3,Q y),(4,I a),(23,B R)]) ?_ ?_))))
 ·clear H;refine rD [] (Kp G0 []) b0 ?_;intro p o0 u;have m1:Kp G0 [] p:=Kp.nil0;refine ta 0 (I a) (tx 1 (fun j f=>l1 dx ((mm n) 0 _ rfl)) (tx 2 (fun j f=>ln 3 dx g.m) (ta 3 (B (a==(i.length:Int))) ?_)));rcases bo (a==(i.length:Int)) with h | h
  ·obtain rfl:=orT h A;exact AC.takeb 4 h rfl (by kernel_rfl) (by kernel_rfl) (fun j f=>(by kernel_rfl)) (tp 5 (tp 6 (tp 7 (tp 8 (tp 9 (tp 10 (tp 11 (tp 12 (ta 13 (B true) (dn (nrm (jn p ⟨u,rfl⟩))))))))))))
  have o:=orF h A;refine bn o fun q D o=>AC.takeb 4 h rfl (by kernel_rfl) (by kernel_rfl) (fun j f=>(by kernel_rfl)) (tx 5 (fun j f=>l1 dx ((mm n) 0 _ rfl)) (ta 6 (I a) ?_));obtain ⟨z0,j0,t0⟩:=Sl.at (g.mono (N.trans (P.trans o0))) (aW D);obtain rfl:=j0;refine tx 7 (fun j f=>ix dx g.m D) (ta 8 (Qo (sb (.slice b d e)) (so (.slice b d e)+a.toNat * 3)) (tx 9 (fun j f=>l1 u_3 ((mm t0) 0 _ rfl)) (tx 10 (fun j f=>l1 gW ((mm m3) 0 _ rfl)) (ta 11 (I (w64 k)) (ta 12 (B (decide (q.1 > (w64 k)))) ?_)))));obtain rfl:=si o;exact ta 13 (B (decide (q.1 > (w64 k)))) (dn (nrm (jn p ⟨u,rfl⟩)))
 rintro e_ w_ ⟨z,i1,_,rfl,q0,rfl,x,rfl⟩;refine nrm (cn H (fun k0 H=>?_) (fun k0 H=>?_))
 ·refine sr (va (I 0) (wln (W.ret (thr ?_))));obtain rfl:=si H;have d0:=x.sD 1 [];exact r1 (qq z ⟨d0,rfl⟩)
 refine W.skip (nrm (sr (vx (l1 dx ((mm n) 0 _ rfl)) (va (I a) (bn H fun S E H=>?_)))));obtain ⟨a1,l0,u0⟩:=Sl.at (g.mono (N.trans (P.trans q0))) (aW E);obtain rfl:=l0;refine vx (ix dx g.m E) (va (Qo (sb (.slice b d e)) (so (.slice b d e)+a.toNat * 3+2)) (vx (l1 u_3 (u0 2 _ rfl)) (va (I S.2.2) (wln (W.ret ?_)))));obtain rfl:=si H;have e0:=x.sD 1 [];exact r1 (qq z ⟨e0,rfl⟩)
def jq (p0:Int) (q0_0:List (Int×Int×Int)) (q1_0:Int):Option (Bool):=
 (idx q0_0 p0).bind fun a=>
 some (decide (a.2.1≥(w64 q1_0)))
theorem nZ {d:Nat} {e:Nat} (o:Own c0 G F) (b:Int) (q0_0:List (Int×Int×Int)) (q1_0:Int) {r:Bool} (s:∀j u,([v2]:List Value)[j]? = some u→Im c0 d (0+j) u) (k:Sl dw c0 v2 q0_0) (t:∀j u,([J q1_0]:List Value)[j]? = some u→Im c0 e (0+j) u) (H:jq b q0_0 q1_0=some r): Calls prog 279 #[I b,Q d,Q e] c0.w (aI c0 fun c v=>Own c G (F)∧v=B r):=by
 unfold jq at H;refine en func279 rfl rfl (sr (va (B false) (wln (W.seq (rD [] (Kp G0 []) o ?_)))));intro h q p;have y:Kp G0 [] h:=Kp.nil0;refine tx 0 (fun g a=>l1 dx ((mm s) 0 _ rfl)) (ta 1 (I b) (bn H fun f l H=>?_));obtain ⟨x,i,n⟩:=Sl.at (k.mono q) (aW l);obtain rfl:=i;refine tx 2 (fun g a=>ix dx k.m l) (ta 3 (Qo (sb v2) (so v2+b.toNat * 3+1)) (tx 4 (fun g a=>l1 u_3 ((mm n) 1 _ rfl)) (tx 5 (fun g a=>l1 gW ((mm t) 0 _ rfl)) (ta 6 (I (w64 q1_0)) (ta 7 (B (decide (f.2.1≥(w64 q1_0)))) (ta 8 (B (decide (f.2.1≥(w64 q1_0)))) (dn (nrm (W.ret ?_)))))))));obtain rfl:=si H;exact r1 (qq h ⟨p,rfl⟩)
def eH:List (Int×Int×Int):=[(4352,4447,1),(8361,8361,3),(8986,8987,1),(9001,9002,1),(9193,9196,1),(9200,9200,1),(9203,9203,1),(9725,9726,1),(9748,9749,1),(9800,9811,1),(9855,9855,1),(9875,9875,1),(9889,9889,1),(9898,9899,1),(9917,9918,1),(9924,9925,1),(9934,9934,1),(9940,9940,1),(9962,9962,1),(9970,9971,1),(9973,9973,1),(9978,9978,1),(9981,9981,1),(9989,9989,1),(9994,9995,1),(10024,10024,1),(10060,10060,1),(10062,10062,1),(10067,10069,1),(10071,10071,1),(10133,10135,1),(10160,10160,1),(10175,10175,1),(11035,11036,1),(11088,11088,1),(11093,11093,1),(11904,11929,1),(11931,12019,1),(12032,12245,1),(12272,12287,1),(12288,12288,2),(12289,12350,1),(12353,12438,1),(12441,12543,1),(12549,12591,1),(12593,12686,1),(12688,12771,1),(12784,12830,1),(12832,12871,1),(12880,19903,1),(19968,42124,1),(42128,42182,1),(43360,43388,1),(44032,55203,1),(63744,64255,1),(65040,65049,1),(65072,65106,1),(65108,65126,1),(65128,65131,1),(65281,65376,2),(65377,65470,3),(65474,65479,3),(65482,65487,3),(65490,65495,3),(65498,65500,3),(65504,65510,2),(65512,65518,3),(94176,94180,1),(94208,100343,1),(100352,101589,1),(110592,110882,1),(126980,126980,1),(127183,127183,1),(127374,127374,1),(127377,127386,1),(127488,127490,1),(127504,127547,1),(127552,127560,1),(127568,127569,1),(127584,127589,1),(127744,127776,1),(127789,127797,1),(127799,127868,1),(127870,127891,1),(127904,127946,1),(127951,127955,1),(127968,127984,1),(127988,127988,1),(127992,128062,1),(128064,128064,1),(128066,128252,1),(128255,128317,1),(128331,128334,1),(128336,128359,1),(128378,128378,1),(128405,128406,1),(128420,128420,1),(128507,128591,1),(128640,128709,1),(128716,128716,1),(128720,128722,1),(128725,128727,1),(128732,128735,1),(128747,128748,1),(128756,128764,1),(128992,129003,1),(129008,129008,1),(129292,129338,1),(129340,129349,1),(129351,129535,1),(129648,129660,1),(129664,129672,1),(129680,129725,1),(129727,129733,1),(129742,129755,1),(129760,129768,1),(129776,129784,1),(131072,196605,1),(196608,262141,1)]
def iM:Option (List (Int×Int×Int)):=
 some eH
theorem nv (d:Own c0 G F) {r:List (Int×Int×Int)} (H:iM=some r): Calls prog 278 #[] c0.w (aI c0 fun c v=>∃a b,Own c G (es true dw a 326 b r :: F)∧v=a∧OA dw c a b r):=by
 unfold iM at H;refine en func278 rfl rfl (sr (va (Y) (wln (sr (va (ai 4352 4447 1) (va (ai 8361 8361 3) (va (ai 8986 8987 1) (va (ai 9001 9002 1) (va (ai 9193 9196 1) (va (ai 9200 9200 1) (va (ai 9203 9203 1) (va (ai 9725 9726 1) (va (ai 9748 9749 1) (va (ai 9800 9811 1) (va (ai 9855 9855 1) (va (ai 9875 9875 1) (va (ai 9889 9889 1) (va (ai 9898 9899 1) (va (ai 9917 9918 1) (va (ai 9924 9925 1) (va (ai 9934 9934 1) (va (ai 9940 9940 1) (va (ai 9962 9962 1) (va (ai 9970 9971 1) (va (ai 9973 9973 1) (va (ai 9978 9978 1) (va (ai 9981 9981 1) (va (ai 9989 9989 1) (va (ai 9994 9995 1) (va (ai 10024 10024 1) (va (ai 10060 10060 1) (va (ai 10062 10062 1) (va (ai 10067 10069 1) (va (ai 10071 10071 1) (va (ai 10133 10135 1) (va (ai 10160 10160 1) (va (ai 10175 10175 1) (va (ai 11035 11036 1) (va (ai 11088 11088 1) (va (ai 11093 11093 1) (va (ai 11904 11929 1) (va (ai 11931 12019 1) (va (ai 12032 12245 1) (va (ai 12272 12287 1) (va (ai 12288 12288 2) (va (ai 12289 12350 1) (va (ai 12353 12438 1) (va (ai 12441 12543 1) (va (ai 12549 12591 1) (va (ai 12593 12686 1) (va (ai 12688 12771 1) (va (ai 12784 12830 1) (va (ai 12832 12871 1) (va (ai 12880 19903 1) (va (ai 19968 42124 1) (va (ai 42128 42182 1) (va (ai 43360 43388 1) (va (ai 44032 55203 1) (va (ai 63744 64255 1) (va (ai 65040 65049 1) (va (ai 65072 65106 1) (va (ai 65108 65126 1) (va (ai 65128 65131 1) (va (ai 65281 65376 2) (va (ai 65377 65470 3) (va (ai 65474 65479 3) (va (ai 65482 65487 3) (va (ai 65490 65495 3) (va (ai 65498 65500 3) (va (ai 65504 65510 2) (va (ai 65512 65518 3) (va (ai 94176 94180 1) (va (ai 94208 100343 1) (va (ai 100352 101589 1) (va (ai 110592 110882 1) (va (ai 126980 126980 1) (va (ai 127183 127183 1) (va (ai 127374 127374 1) (va (ai 127377 127386 1) (va (ai 127488 127490 1) (va (ai 127504 127547 1) (va (ai 127552 127560 1) (va (ai 127568 127569 1) (va (ai 127584 127589 1) (va (ai 127744 127776 1) (va (ai 127789 127797 1) (va (ai 127799 127868 1) (va (ai 127870 127891 1) (va (ai 127904 127946 1) (va (ai 127951 127955 1) (va (ai 127968 127984 1) (va (ai 127988 127988 1) (va (ai 127992 128062 1) (va (ai 128064 128064 1) (va (ai 128066 128252 1) (va (ai 128255 128317 1) (va (ai 128331 128334 1) (va (ai 128336 128359 1) (va (ai 128378 128378 1) (va (ai 128405 128406 1) (va (ai 128420 128420 1) (va (ai 128507 128591 1) (va (ai 128640 128709 1) (va (ai 128716 128716 1) (va (ai 128720 128722 1) (va (ai 128725 128727 1) (va (ai 128732 128735 1) (va (ai 128747 128748 1) (va (ai 128756 128764 1) (va (ai 128992 129003 1) (va (ai 129008 129008 1) (va (ai 129292 129338 1) (va (ai 129340 129349 1) (va (ai 129351 129535 1) (va (ai 129648 129660 1) (va (ai 129664 129672 1) (va (ai 129680 129725 1) (va (ai 129727 129733 1) (va (ai 129742 129755 1) (va (ai 129760 129768 1) (va (ai 129776 129784 1) (va (ai 131072 196605 1) (va (ai 196608 262141 1) (me (Own.sl (R:=dw) (E:=326) (ls:=eH.map (fun x=>[I x.1,I x.2.1,I x.2.2])) (vs:=(eH.map (fun x=>[I x.1,I x.2.1,I x.2.2])).flatten) (xs:=eH) true d (aJ _) rfl (jQ.map _ (fun _=>rfl) _) (by kernel_rfl) (by kernel_rfl)) ?_))))))))))))))))))))))))))))))))))))))))))))))))))))))))))))))))))))))))))))))))))))))))))))))))))))))))))))))))))))))))))));rintro v5 f i ⟨h,e,g⟩;refine va (v5) (wln (W.ret ?_));obtain rfl:=si H;exact r1 (qq f ⟨v5,h,e,rfl,g⟩)
def dG (p0:Int) (p1_0_0:List (Int×Int×Int)) (p1_1_0:Int):Option (Int):=
 (cw (σ:=Int×Int) (τ:=Int) ((p0 - 0).toNat+1) (fun a=>
 if (decide (a.1 < a.2))=true then
 (jq (w64 ((IntKind.u64.wrap (w64 (a.1+a.2))).fdiv (2 ^ 1))) p1_0_0 p1_1_0).bind fun b=>
 if (!b)=true then
 some (.inl ((w64 ((w64 ((IntKind.u64.wrap (w64 (a.1+a.2))).fdiv (2 ^ 1)))+1)),a.2))
 else
 some (.inl (a.1,(w64 ((IntKind.u64.wrap (w64 (a.1+a.2))).fdiv (2 ^ 1)))))
 else
 some (.inr (a.1))) (0,p0)).bind fun c=>
 some c
theorem ig {b1_0:Nat} {b1_1:Nat} (A:Own c0 G F) (b:Int) (p1_0_0:List (Int×Int×Int)) (p1_1_0:Int) {r:Int} (N:∀j u,([v2]:List Value)[j]? = some u→Im c0 b1_0 (0+j) u) (M:Sl dw c0 v2 p1_0_0) (P:∀j u,([J p1_1_0]:List Value)[j]? = some u→Im c0 b1_1 (0+j) u) (H:dG b p1_0_0 p1_1_0=some r): Calls prog 271 #[I b,.func (.func 279) #[] #[Q b1_0,Q b1_1]] c0.w (aI c0 fun c v=>Own c G (F)∧v=I r):=by
 unfold dG at H;refine en func271 rfl rfl (sr (va (I 0) (wln (sr (va (I b) (va (I 0) (va (I b) (wln (W.seq (W.block (bn H fun g y k=>lp y (fun a=>Jn c0 fun c l=>Own c G (F)∧l= [(1,.func (.func 279) #[] #[Q b1_0,Q b1_1]),(5,I a.1),(6,I a.2)]) (fun h ex e w=>ex= .exit 0∧(Jn c0 fun c l=>Own c G (F)∧l= [(5,I h)]) e w) ?_ ?_ ?_)))))))))))
 ·clear k y;intro a X q z H;revert q z;rintro E R ⟨D,Z,_,rfl,l7,rfl,o,rfl⟩;refine W.seq (sr (va (I a.1) (va (I a.2) (va (B (decide (a.1 < a.2))) (wln (cn H (fun s H=>?_) (fun s H=>?_)))))))
  ·refine W.skip (nrm (W.block (sr (va (I a.1) (va (I a.2) (va (I (w64 (a.1+a.2))) (va (.int .u64 (IntKind.u64.wrap (w64 (a.1+a.2)))) (va (.int .u64 ((IntKind.u64.wrap (w64 (a.1+a.2))).fdiv (2 ^ 1))) (vv (I (w64 ((IntKind.u64.wrap (w64 (a.1+a.2))).fdiv (2 ^ 1)))) (wln (sr (va (.func (.func 279) #[] #[Q b1_0,Q b1_1]) (va (I (w64 ((IntKind.u64.wrap (w64 (a.1+a.2))).fdiv (2 ^ 1)))) (bn H fun i t H=>cl (nZ o (w64 ((IntKind.u64.wrap (w64 (a.1+a.2))).fdiv (2 ^ 1))) p1_0_0 p1_1_0 (mm N) M.m (mm P) t) ?_))))))))))))));rintro v20 f T ⟨d,rfl⟩;refine va (B (!i)) (wln (cn H (fun x H=>?_) (fun x H=>?_)))
   ·refine W.region (va (I (w64 ((IntKind.u64.wrap (w64 (a.1+a.2))).fdiv (2 ^ 1)))) (vv (I (w64 ((w64 ((IntKind.u64.wrap (w64 (a.1+a.2))).fdiv (2 ^ 1)))+1))) (WL.nil (bkn ?_))));obtain rfl:=si H;exact ⟨_,rfl,jn f ⟨d,rfl⟩⟩
   refine W.region (vv (I (w64 ((IntKind.u64.wrap (w64 (a.1+a.2))).fdiv (2 ^ 1)))) (WL.nil (bkn ?_)));obtain rfl:=si H;exact ⟨_,rfl,jn f ⟨d,rfl⟩⟩
  refine W.exit (thx ?_);obtain rfl:=si H;exact ⟨_,rfl,rfl,jn D ⟨o,rfl⟩⟩
 ·exact jn c0 ⟨A,rfl⟩
 rintro _ E R ⟨rfl,p,S,_,rfl,U,rfl,n,rfl⟩;refine bke (nrm (sr (vv (I g) (wln (W.ret ?_)))));obtain rfl:=si k;exact r1 (qq p ⟨n,rfl⟩)
def la (p0:Int):Option (Int):=
 (iM).bind fun a=>
 (dG (a.length:Int) a p0).bind fun b=>
 (orE (b==(a.length:Int)) ((idx a b).bind fun d=>
 some (decide (d.1 > (w64 p0))))).bind fun c=>
 if c=true then
 some 0
 else
 (idx a b).bind fun e=>
 some e.2.2
theorem pD (O0:Own c0 G F) (k:Int) {r:Int} (H:la k=some r): Calls prog 230 #[J k] c0.w (aI c0 fun c v=>Own c G (F)∧v=I r):=by
 unfold la at H;refine en func230 rfl rfl (sr (me (bx 21 [J k] O0) ?_));rintro v5 c4 l4 ⟨b1,rfl,O2,m3⟩;refine va (I 0) (wln (sr (bn H fun i h6 H=>cl (nv O2 h6) ?_)));rintro v7 d1 j1 ⟨_,u8,T,rfl,s⟩;refine me (al 323 [Y] T) ?_;rintro v19 e1 M ⟨y,rfl,U⟩;obtain ⟨b,d,e,rfl⟩:=((s.mono M)).form;refine md (sC 323 0 (.slice b d e) [.slice b d e] 0 U ⟨s.m.one,trivial⟩) ?_;rintro f1 m0 t;refine wln (sr (vx (le1 0 dx (t.on 0 rfl)) (vx (lnO 3 dx s.m) ?_)));obtain ⟨g1,g0,k1,X,g⟩:=t.frz 1 rfl (s.mono (M.trans m0));refine WL.gh g0 ?_;obtain ⟨h1,h0,N,Z,n⟩:=Own.frzB 0 X rfl;refine WL.gh h0 ?_;have a0:=Z.sD 2 [1];refine va (.func (.func 279) #[] #[Q y,Q b1]) (bn H fun a i0 H=>cl (ig a0 (i.length:Int) i k n g.m (mm m3) i0) ?_);rintro v40 f0 P ⟨b0,rfl⟩;refine va (I a) (wln (W.seq (W.seq (bn H fun R A H=>W.join (Jn f0 fun c l=>Own c G (es false dw (.slice b d e) 326 u8 i :: F)∧l= [(3,Q y),(4,I a),(23,B R)]) ?_ ?_))))
 ·clear H;refine rD [] (Kp G0 []) b0 ?_;intro p o0 u;have m1:Kp G0 [] p:=Kp.nil0;refine ta 0 (I a) (tx 1 (fun j f=>l1 dx ((mm n) 0 _ rfl)) (tx 2 (fun j f=>ln 3 dx g.m) (ta 3 (B (a==(i.length:Int))) ?_)));rcases bo (a==(i.length:Int)) with h | h
  ·obtain rfl:=orT h A;exact AC.takeb 4 h rfl (by kernel_rfl) (by kernel_rfl) (fun j f=>(by kernel_rfl)) (tp 5 (tp 6 (tp 7 (tp 8 (tp 9 (tp 10 (tp 11 (tp 12 (ta 13 (B true) (dn (nrm (jn p ⟨u,rfl⟩))))))))))))
  have o:=orF h A;refine bn o fun q D o=>AC.takeb 4 h rfl (by kernel_rfl) (by kernel_rfl) (fun j f=>(by kernel_rfl)) (tx 5 (fun j f=>l1 dx ((mm n) 0 _ rfl)) (ta 6 (I a) ?_));obtain ⟨z0,j0,t0⟩:=Sl.at (g.mono (N.trans (P.trans o0))) (aW D);obtain rfl:=j0;refine tx 7 (fun j f=>ix dx g.m D) (ta 8 (Qo (sb (.slice b d e)) (so (.slice b d e)+a.toNat * 3)) (tx 9 (fun j f=>l1 u_3 ((mm t0) 0 _ rfl)) (tx 10 (fun j f=>l1 gW ((mm m3) 0 _ rfl)) (ta 11 (I (w64 k)) (ta 12 (B (decide (q.1 > (w64 k)))) ?_)))));obtain rfl:=si o;exact ta 13 (B (decide (q.1 > (w64 k)))) (dn (nrm (jn p ⟨u,rfl⟩)))
 rintro e_ w_ ⟨z,i1,_,rfl,q0,rfl,x,rfl⟩;refine nrm (cn H (fun k0 H=>?_) (fun k0 H=>?_))
 ·refine sr (va (I 0) (wln (W.ret (thr ?_))));obtain rfl:=si H;have d0:=x.sD 1 [];exact r1 (qq z ⟨d0,rfl⟩)
 refine W.skip (nrm (sr (vx (l1 dx ((mm n) 0 _ rfl)) (va (I a) (bn H fun S E H=>?_)))));obtain ⟨a1,l0,u0⟩:=Sl.at (g.mono (N.trans (P.trans q0))) (aW E);obtain rfl:=l0;refine vx (ix dx g.m E) (va (Qo (sb (.slice b d e)) (so (.slice b d e)+a.toNat * 3+2)) (vx (l1 u_3 (u0 2 _ rfl)) (va (I S.2.2) (wln (W.ret ?_)))));obtain rfl:=si H;have e0:=x.sD 1 [];exact r1 (qq z ⟨e0,rfl⟩)
def kG (p0:Int):Option (bv):=
 (mp p0).bind fun b=>
 (kX p0).bind fun c=>
 (lf p0).bind fun d=>
 (la p0).bind fun a=>
 some (⟨b,c,d,a⟩:bv)
theorem nU (p:Own c0 G F) (a:Int) {r:bv} (H:kG a=some r): Calls prog 174 #[J a] c0.w (aI c0 fun c v=>Own c G (F)∧v= .agg #[I r.Break,B r.Pict,I r.Conj,I r.East]):=by
 unfold kG at H;refine en func174 rfl rfl (sr (me (al 238 [I 0,B false,I 0,I 0] p) ?_));rintro v4 R S ⟨P,rfl,q⟩;refine wln (sr (va (J a) (bn H fun d t H=>cl (qr q a t) ?_)));rintro v11 u A ⟨s,rfl⟩;refine va (J a) (bn H fun e m H=>cl (pA s a m) ?_);rintro v18 x D ⟨i,rfl⟩;refine va (J a) (bn H fun f n H=>cl (pF i a n) ?_);rintro v25 y E ⟨j,rfl⟩;refine va (J a) (bn H fun b o H=>cl (pD j a o) ?_);rintro v32 z M ⟨k,rfl⟩;refine va (.agg #[I d,B e,I f,I b]) (md (sA 238 [I d,B e,I f,I b] 0 k ⟨rfl,rfl,rfl,rfl,trivial⟩) ?_);rintro h N g;refine wln (W.ret ?_);obtain rfl:=si H;have l:=g.sD 1 [];exact iD (c:=h) (vs:=[I d,B e,I f,I b]) rfl (by kernel_rfl) (by kernel_rfl) (by kernel_rfl) (g.on 0 rfl _ rfl).1 ⟨_,h,rfl,rfl,pt,l,rfl⟩
def fQ (p0:Int):Option (Int):=
 (orE (decide (p0 < 0)) (some (decide (p0 > 13)))).bind fun a=>
 if a=true then
 some 0
 else
 some p0
theorem jW (d:Own c0 G F) (a:Int) {r:Int} (H:fQ a=some r): Calls prog 309 #[I a] c0.w (aI c0 fun c v=>Own c G (F)∧v=I r):=by
 unfold fQ at H;refine en func309 rfl rfl (sr (va (I 0) (wln (W.seq (W.seq (bn H fun g h H=>W.join (Jn c0 fun c l=>Own c G (F)∧l= [(0,I a),(8,B g)]) ?_ ?_))))))
 ·clear H;refine W.region (va (I a) (va (B (decide (a < 0))) ?_));rcases bo (decide (a < 0)) with b | b
  ·obtain rfl:=orT b h;exact vb b (pz (va (B true) (wln (jn c0 ⟨d,rfl⟩))))
  have j:=orF b h;refine vb b (wa (I a) (wa (B (decide (a > 13))) ?_));obtain rfl:=si j;exact va (B (decide (a > 13))) (wln (jn c0 ⟨d,rfl⟩))
 rintro k o ⟨f,m,_,rfl,n,rfl,e,rfl⟩;refine nrm (cn H (fun i H=>?_) (fun i H=>?_))
 ·refine sr (va (I 0) (wln (W.ret (thr ?_))));obtain rfl:=si H;exact r1 (qq f ⟨e,rfl⟩)
 refine W.skip (nrm (sr (vv (I a) (wln (W.ret ?_)))));obtain rfl:=si H;exact r1 (qq f ⟨e,rfl⟩)
def fi (p0:Int):Option (Bool):=
 if (p0==1)=true then
 some true
 else
 if (p0==2)=true then
 some true
 else
 if (p0==3)=true then
 some true
 else
 some false
theorem jy (b:Own c0 G F) (a:Int) {r:Bool} (H:fi a=some r): Calls prog 310 #[I a] c0.w (aI c0 fun c v=>Own c G (F)∧v=B r):=by
 unfold fi at H;refine en func310 rfl rfl (sr (va (B false) (wln (W.seq (sr (va (I a) (wln (W.block (W.seq (W.block (W.block (W.block (W.seq (W.seq (sr (vv (B (a==1)) (wln (cn H (fun d H=>?_) (fun d H=>?_)))))))))))))))))))
 ·refine W.exit (thx (thx (bke (bkn (bkn (nrm (W.seq (sr (va (B true) (wln (W.ret (thr (bkr (thr ?_))))))))))))));obtain rfl:=si H;exact r1 (qq c0 ⟨b,rfl⟩)
 refine W.skip (nrm (W.seq (sr (vv (B (a==2)) (wln (cn H (fun e H=>?_) (fun e H=>?_)))))))
 ·refine W.exit (thx (thx (bko rfl (bke (bkn (nrm (W.seq (sr (va (B true) (wln (W.ret (thr (bkr (thr ?_))))))))))))));obtain rfl:=si H;exact r1 (qq c0 ⟨b,rfl⟩)
 refine W.skip (nrm (sr (vv (B (a==3)) (wln (cn H (fun f H=>?_) (fun f H=>?_))))))
 ·refine W.exit (thx (bko rfl (bko rfl (bke (nrm (W.seq (sr (va (B true) (wln (W.ret (thr (bkr (thr ?_)))))))))))));obtain rfl:=si H;exact r1 (qq c0 ⟨b,rfl⟩)
 refine W.skip (nrm (W.exit (bko rfl (bko rfl (bko rfl (thx (bke (nrm (sr (va (B false) (wln (W.ret ?_))))))))))));obtain rfl:=si H;exact r1 (qq c0 ⟨b,rfl⟩)
def fK (p0:Int) (p1:Int):Option (Bool):=
 if (p0==9)=true then
 (orE (p1==9) (some (p1==10))).bind fun a=>
 (orE a (some (p1==12))).bind fun b=>
 (orE b (some (p1==13))).bind fun c=>
 some c
 else
 (if (p0==12)=true then
 some (p0==12)
 else
 some (p0==10)).bind fun e=>
 if e=true then
 (orE (p1==10) (some (p1==11))).bind fun d=>
 some d
 else
 (if (p0==13)=true then
 some (p0==13)
 else
 some (p0==11)).bind fun f=>
 if f=true then
 some (p1==11)
 else
 some false
theorem lu (m:Own c0 G F) (b:Int) (a:Int) {r:Bool} (H:fK b a=some r): Calls prog 311 #[I b,I a] c0.w (aI c0 fun c v=>Own c G (F)∧v=B r):=by
 unfold fK at H;refine en func311 rfl rfl (sr (va (B false) (wln (W.seq (sr (va (I b) (wln (W.block (sr (vv (B (b==9)) (wln (cn H (fun h1 H=>?_) (fun h1 H=>?_)))))))))))))
 ·refine W.seq (bn H fun i0 Z H=>bn H fun j0 A H=>bn H fun x p H=>W.join (Jn c0 fun c l=>Own c G (F)∧l= [(4,B x)]) ?_ ?_)
  ·clear H;refine W.region (va (I a) (va (B (a==9)) ?_));rcases bo (a==9) with n | n
   ·obtain rfl:=orT n Z;refine vb n (pz (va (B true) ?_));have h6:true=true:=rfl;obtain rfl:=orT h6 A;refine vb h6 (pz (va (B true) ?_));have h7:true=true:=rfl;obtain rfl:=orT h7 p;exact vb h7 (pz (vv (B true) (wln (jn c0 ⟨m,rfl⟩))))
   have H8:=orF n Z;refine vb n (wa (I a) (wa (B (a==10)) ?_));obtain rfl:=si H8;refine va (B (a==10)) ?_;rcases bo (a==10) with o | o
   ·obtain rfl:=orT o A;refine vb o (pz (va (B true) ?_));have t:true=true:=rfl;obtain rfl:=orT t p;exact vb t (pz (vv (B true) (wln (jn c0 ⟨m,rfl⟩))))
   have N:=orF o A;refine vb o (wa (I a) (wa (B (a==12)) ?_));obtain rfl:=si N;refine va (B (a==12)) ?_;rcases bo (a==12) with i | i
   ·obtain rfl:=orT i p;exact vb i (pz (vv (B true) (wln (jn c0 ⟨m,rfl⟩))))
   have P:=orF i p;refine vb i (wa (I a) (wa (B (a==13)) ?_));obtain rfl:=si P;exact vv (B (a==13)) (wln (jn c0 ⟨m,rfl⟩))
  rintro z D ⟨U,l0,_,rfl,s0,rfl,S,rfl⟩;refine nrm (W.ret (bkr (thr ?_)));obtain rfl:=si H;exact r1 (qq U ⟨S,rfl⟩)
 refine bn H fun E f d=>W.seqJ (Jn c0 fun c l=>Own c G (F)∧l= [(1,I a),(5,I b),(22,B E)]) ?_ ?_
 ·refine sr (vv (B (b==12)) (wln (cn f (fun a0 f=>?_) (fun a0 f=>?_))))
  ·refine W.skip (nrm ?_);obtain rfl:=si f;exact jn c0 ⟨m,rfl⟩
  refine W.region (vv (B (b==10)) (wln ?_));obtain rfl:=si f;exact jn c0 ⟨m,rfl⟩
 rintro z D ⟨e,m0,_,rfl,t0,rfl,k,rfl⟩;refine cn d (fun b0 d=>?_) (fun b0 d=>?_)
 ·refine W.seq (bn d fun y u d=>W.join (Jn e fun c l=>Own c G (F)∧l= [(4,B y)]) ?_ ?_)
  ·clear d;refine W.region (va (I a) (va (B (a==10)) ?_));rcases bo (a==10) with j | j
   ·obtain rfl:=orT j u;exact vb j (pz (vv (B true) (wln (jn e ⟨k,rfl⟩))))
   have R:=orF j u;refine vb j (wa (I a) (wa (B (a==11)) ?_));obtain rfl:=si R;exact vv (B (a==11)) (wln (jn e ⟨k,rfl⟩))
  rintro z D ⟨X,o0,_,rfl,u0,rfl,T,rfl⟩;refine nrm (W.ret (bkr (thr ?_)));obtain rfl:=si d;exact r1 (qq X ⟨T,rfl⟩)
 refine bn d fun M g h=>W.seqJ (Jn e fun c l=>Own c G (F)∧l= [(1,I a),(31,B M)]) ?_ ?_
 ·refine sr (vv (B (b==13)) (wln (cn g (fun d0 g=>?_) (fun d0 g=>?_))))
  ·refine W.skip (nrm ?_);obtain rfl:=si g;exact jn e ⟨k,rfl⟩
  refine W.region (vv (B (b==11)) (wln ?_));obtain rfl:=si g;exact jn e ⟨k,rfl⟩
 rintro z D ⟨s,q0,_,rfl,v0,rfl,q,rfl⟩;refine cn h (fun e0 h=>?_) (fun e0 h=>?_)
 ·refine sr (va (I a) (vv (B (a==11)) (wln (W.ret (bkr (thr ?_))))));obtain rfl:=si h;exact r1 (qq s ⟨q,rfl⟩)
 refine W.skip (bkn (nrm (sr (va (B false) (wln (W.ret ?_))))));obtain rfl:=si h;exact r1 (qq s ⟨q,rfl⟩)
def iG (p0:Int) (p1:Int):Option (Int):=
 (fQ p0).bind fun b=>
 (fQ p1).bind fun a=>
 (bS (b==1) (some (a==2))).bind fun e=>
 if e=true then
 some 1
 else
 (fi b).bind fun i=>
 (orE i ((fi a).bind fun j=>
 some j)).bind fun f=>
 if f=true then
 some 0
 else
 ((fK b a).bind fun d=>
 if d=true then
 some (d)
 else
 if (a==4)=true then
 some (a==4)
 else
 if (a==5)=true then
 some (a==5)
 else
 if (a==8)=true then
 some (a==8)
 else
 some (b==7)).bind fun k=>
 if k=true then
 some 1
 else
 ((bS (a==0) ((orE (b==5) (some (b==4))).bind fun g=>
 some g)).bind fun c=>
 if c=true then
 some (c)
 else
 (bS (b==6) (some (a==6))).bind fun h=>
 some (h)).bind fun l=>
 if l=true then
 some 2
 else
 some 0
theorem np (O0:Own c0 G F) (E:Int) (M:Int) {r:Int} (H:iG E M=some r): Calls prog 269 #[I E,I M] c0.w (aI c0 fun c v=>Own c G (F)∧v=I r):=by
 unfold iG at H;refine en func269 rfl rfl (sr (va (I 0) (wln (sr (va (I E) (bn H fun b h1 H=>cl (jW O0 E h1) ?_))))));rintro v7 c6 l6 ⟨O3,rfl⟩;refine va (I M) (bn H fun a h8 H=>cl (jW O3 M h8) ?_);rintro v14 y c2 ⟨N,rfl⟩;refine va (I b) (va (I a) (wln (W.seq (W.block (W.seq (bn H fun g0 a0 H=>W.join (Jn y fun c l=>Own c G (F)∧l= [(0,I b),(1,I a),(9,B g0)]) ?_ ?_))))))
 ·clear H;refine W.region (va (I b) (va (B (b==1)) ?_));rcases bo (b==1) with k | k
  ·have q0:=anT k a0;refine vb k (wa (I a) (wa (B (a==2)) ?_));obtain rfl:=si q0;exact vv (B (a==2)) (wln (jn y ⟨N,rfl⟩))
  obtain rfl:=anF k a0;exact vb k (pz (vv (B false) (wln (jn y ⟨N,rfl⟩))))
 rintro z A ⟨U,v1,_,rfl,d2,rfl,P,rfl⟩;refine nrm (cn H (fun z0 H=>?_) (fun z0 H=>?_))
 ·refine sr (va (I 1) (wln (W.ret (bkr (thr ?_)))));obtain rfl:=si H;exact r1 (qq U ⟨P,rfl⟩)
 refine W.seq (bn H fun k0 a1 H=>bn H fun h0 b0 H=>W.join (Jn U fun c l=>Own c G (F)∧l= [(0,I b),(1,I a),(16,B h0)]) ?_ ?_)
 ·clear H;refine W.region (va (I b) (cl (jy P b a1) ?_));rintro v32 w0 e2 ⟨R,rfl⟩;rcases bo (k0) with m | m
  ·obtain rfl:=orT m b0;exact vb m (pz (vv (B true) (wln (jn w0 ⟨R,rfl⟩))))
  have u:=orF m b0;refine vb m (wa (I a) (wn (bn u fun D b1 u=>cl (jy R a b1) ?_)));rintro v41 x0 f2 ⟨u0,rfl⟩;obtain rfl:=si u;exact vv (B D) (wln (jn x0 ⟨u0,rfl⟩))
 rintro z A ⟨X,w1,_,rfl,g2,rfl,S,rfl⟩;refine nrm (cn H (fun c1 H=>?_) (fun c1 H=>?_))
 ·refine sr (va (I 0) (wln (W.ret (bkr (thr ?_)))));obtain rfl:=si H;exact r1 (qq X ⟨S,rfl⟩)
 refine bn H fun m0 d g=>W.seqJ (Jn X fun c l=>Own c G (F)∧l= [(0,I b),(1,I a),(23,B m0)]) ?_ ?_
 ·refine sr (va (I b) (va (I a) (bn d fun l0 d1 d=>cl (lu S b a d1) ?_)));rintro v57 j h2 ⟨i,rfl⟩;refine va (B l0) (wln (cn d (fun e1 d=>?_) (fun e1 d=>?_)))
  ·refine W.skip (nrm ?_);obtain rfl:=si d;exact jn j ⟨i,rfl⟩
  refine sr (va (I a) (vv (B (a==4)) (wln (cn d (fun f1 d=>?_) (fun f1 d=>?_)))))
  ·refine W.skip (nrm ?_);obtain rfl:=si d;exact jn j ⟨i,rfl⟩
  refine sr (va (I a) (vv (B (a==5)) (wln (cn d (fun g1 d=>?_) (fun g1 d=>?_)))))
  ·refine W.skip (nrm ?_);obtain rfl:=si d;exact jn j ⟨i,rfl⟩
  refine sr (va (I a) (vv (B (a==8)) (wln (cn d (fun i1 d=>?_) (fun i1 d=>?_)))))
  ·refine W.skip (nrm ?_);obtain rfl:=si d;exact jn j ⟨i,rfl⟩
  refine W.region (va (I b) (vv (B (b==7)) (wln ?_)));obtain rfl:=si d;exact jn j ⟨i,rfl⟩
 rintro z A ⟨f,x1,_,rfl,i2,rfl,s,rfl⟩;refine cn g (fun j1 g=>?_) (fun j1 g=>?_)
 ·refine sr (va (I 1) (wln (W.ret (bkr (thr ?_)))));obtain rfl:=si g;exact r1 (qq f ⟨s,rfl⟩)
 refine bn g fun o0 e h=>W.seqJ (Jn f fun c l=>Own c G (F)∧l= [(35,B o0)]) ?_ ?_
 ·refine W.seq (bn e fun i0 d0 e=>W.join (Jn f fun c l=>Own c G (F)∧l= [(0,I b),(1,I a),(35,B i0)]) ?_ ?_)
  ·clear e;refine W.region (va (I a) (va (B (a==0)) ?_));rcases bo (a==0) with n | n
   ·have q:=anT n d0;refine vb n (wa (I b) (wa (B (b==5)) (wn (bn q fun s1 e0 q=>?_))));rcases bo (b==5) with o | o
    ·obtain rfl:=orT o e0;refine vb o (pz (wa (B true) ?_));obtain rfl:=si q;exact vv (B true) (wln (jn f ⟨s,rfl⟩))
    have s0:=orF o e0;refine vb o (wa (I b) (wa (B (b==4)) (wn ?_)));obtain rfl:=si s0;refine va (B (b==4)) ?_;obtain rfl:=si q;exact vv (B (b==4)) (wln (jn f ⟨s,rfl⟩))
   obtain rfl:=anF n d0;exact vb n (pz (pz (pz (vv (B false) (wln (jn f ⟨s,rfl⟩))))))
  rintro z A ⟨t,y1,_,rfl,j2,rfl,x,rfl⟩;refine nrm (cn e (fun k1 e=>?_) (fun k1 e=>?_))
  ·refine W.skip (nrm ?_);obtain rfl:=si e;exact jn t ⟨x,rfl⟩
  refine bn e fun j0 f0 e=>W.join (Jn t fun c l=>Own c G (F)∧l= [(35,B j0)]) ?_ ?_
  ·clear e;refine W.region (va (I b) (va (B (b==6)) ?_));rcases bo (b==6) with p | p
   ·have t0:=anT p f0;refine vb p (wa (I a) (wa (B (a==6)) ?_));obtain rfl:=si t0;exact vv (B (a==6)) (wln (jn t ⟨x,rfl⟩))
   obtain rfl:=anF p f0;exact vb p (pz (vv (B false) (wln (jn t ⟨x,rfl⟩))))
  rintro z A ⟨y0,z1,_,rfl,k2,rfl,v0,rfl⟩;refine nrm ?_;obtain rfl:=si e;exact jn y0 ⟨v0,rfl⟩
 rintro z A ⟨Z,b2,_,rfl,l2,rfl,T,rfl⟩;refine cn h (fun m1 h=>?_) (fun m1 h=>?_)
 ·refine sr (va (I 2) (wln (W.ret (bkr (thr ?_)))));obtain rfl:=si h;exact r1 (qq Z ⟨T,rfl⟩)
 refine W.skip (bkn (nrm (sr (va (I 0) (wln (W.ret ?_))))));obtain rfl:=si h;exact r1 (qq Z ⟨T,rfl⟩)
def dZ (p0:Int):Option (Int):=
 ((bS (decide (p0≥240)) (some (decide (p0≤244)))).bind fun a=>
 if a=true then
 some ((w64 ((w64 ((w64 ((w64 (0+1))+1))+1))+1)))
 else
 (bS (decide (p0≥224)) (some (decide (p0 < 240)))).bind fun b=>
 if b=true then
 some ((w64 ((w64 ((w64 (0+1))+1))+1)))
 else
 (bS (decide (p0≥194)) (some (decide (p0 < 224)))).bind fun c=>
 if c=true then
 some ((w64 ((w64 (0+1))+1)))
 else
 if (decide (p0 < 128))=true then
 some ((w64 (0+1)))
 else
 some (0)).bind fun d=>
 some d
theorem iT (A:Own c0 G F) (a:Int) {r:Int} (H:dZ a=some r): Calls prog 219 #[.int .u8 a] c0.w (aI c0 fun c v=>Own c G (F)∧v=I r):=by
 unfold dZ at H;refine en func219 rfl rfl (sr (va (I 0) (wln (sr (va (I 0) (wln (bn H fun k b T=>W.seqJ (Jn c0 fun c l=>Own c G (F)∧l= [(3,I k)]) ?_ ?_)))))))
 ·refine W.block (W.seq (W.block (W.seq (W.block (W.seq (W.block (W.seq (W.block (W.seq (W.seq (W.seq (bn b fun q P b=>W.join (Jn c0 fun c l=>Own c G (F)∧l= [(0,.int .u8 a),(3,I 0),(4,B q)]) ?_ ?_))))))))))))
  ·clear b;refine W.region (va (.int .u8 a) (va (B (decide (a≥240))) ?_));rcases bo (decide (a≥240)) with j | j
   ·have U:=anT j P;refine vb j (wa (.int .u8 a) (wa (B (decide (a≤244))) ?_));obtain rfl:=si U;exact vv (B (decide (a≤244))) (wln (jn c0 ⟨A,rfl⟩))
   obtain rfl:=anF j P;exact vb j (pz (vv (B false) (wln (jn c0 ⟨A,rfl⟩))))
  rintro u x ⟨m,g7,_,rfl,l6,rfl,p,rfl⟩;refine nrm (cn b (fun M b=>?_) (fun M b=>?_))
  ·refine W.exit (thx (thx (bke (nrm (W.region (va (I 0) (vv (I (w64 (0+1))) (WL.nil (bkn (nrm (W.region (va (I (w64 (0+1))) (vv (I (w64 ((w64 (0+1))+1))) (WL.nil (bkn (nrm (W.region (va (I (w64 ((w64 (0+1))+1))) (vv (I (w64 ((w64 ((w64 (0+1))+1))+1))) (WL.nil (bkn (nrm (sr (va (I (w64 ((w64 ((w64 (0+1))+1))+1))) (vv (I (w64 ((w64 ((w64 ((w64 (0+1))+1))+1))+1))) (wln (W.exit (bke (nrm ?_)))))))))))))))))))))))))))));obtain rfl:=si b;exact jn m ⟨p,rfl⟩
  refine W.skip (nrm (W.seq (W.seq (bn b fun s n b=>W.join (Jn m fun c l=>Own c G (F)∧l= [(0,.int .u8 a),(3,I 0),(11,B s)]) ?_ ?_))))
  ·clear b;refine W.region (va (.int .u8 a) (va (B (decide (a≥224))) ?_));rcases bo (decide (a≥224)) with d | d
   ·have y:=anT d n;refine vb d (wa (.int .u8 a) (wa (B (decide (a < 240))) ?_));obtain rfl:=si y;exact vv (B (decide (a < 240))) (wln (jn m ⟨p,rfl⟩))
   obtain rfl:=anF d n;exact vb d (pz (vv (B false) (wln (jn m ⟨p,rfl⟩))))
  rintro u x ⟨f,X,_,rfl,l16,rfl,g,rfl⟩;refine nrm (cn b (fun N b=>?_) (fun N b=>?_))
  ·refine W.exit (thx (thx (bko rfl (thx (bke (nrm (W.region (va (I 0) (vv (I (w64 (0+1))) (WL.nil (bkn (nrm (W.region (va (I (w64 (0+1))) (vv (I (w64 ((w64 (0+1))+1))) (WL.nil (bkn (nrm (sr (va (I (w64 ((w64 (0+1))+1))) (vv (I (w64 ((w64 ((w64 (0+1))+1))+1))) (wln (W.exit (bke (nrm ?_)))))))))))))))))))))))));obtain rfl:=si b;exact jn f ⟨g,rfl⟩
  refine W.skip (nrm (W.seq (W.seq (bn b fun t o b=>W.join (Jn f fun c l=>Own c G (F)∧l= [(0,.int .u8 a),(3,I 0),(18,B t)]) ?_ ?_))))
  ·clear b;refine W.region (va (.int .u8 a) (va (B (decide (a≥194))) ?_));rcases bo (decide (a≥194)) with e | e
   ·have z:=anT e o;refine vb e (wa (.int .u8 a) (wa (B (decide (a < 224))) ?_));obtain rfl:=si z;exact vv (B (decide (a < 224))) (wln (jn f ⟨g,rfl⟩))
   obtain rfl:=anF e o;exact vb e (pz (vv (B false) (wln (jn f ⟨g,rfl⟩))))
  rintro u x ⟨i,Z,_,rfl,b0,rfl,h,rfl⟩;refine nrm (cn b (fun R b=>?_) (fun R b=>?_))
  ·refine W.exit (thx (thx (bko rfl (thx (bko rfl (thx (bke (nrm (W.region (va (I 0) (vv (I (w64 (0+1))) (WL.nil (bkn (nrm (sr (va (I (w64 (0+1))) (vv (I (w64 ((w64 (0+1))+1))) (wln (W.exit (bke (nrm ?_)))))))))))))))))))));obtain rfl:=si b;exact jn i ⟨h,rfl⟩
  refine W.skip (nrm (sr (va (.int .u8 a) (vv (B (decide (a < 128))) (wln (cn b (fun S b=>?_) (fun S b=>?_)))))))
  ·refine W.exit (thx (bko rfl (thx (bko rfl (thx (bko rfl (thx (bke (nrm (sr (va (I 0) (vv (I (w64 (0+1))) (wln (W.exit (bke (nrm ?_))))))))))))))));obtain rfl:=si b;exact jn i ⟨h,rfl⟩
  refine W.skip (nrm (W.exit (bko rfl (thx (bko rfl (thx (bko rfl (thx (bko rfl (thx (bke (nrm ?_))))))))))));obtain rfl:=si b;exact jn i ⟨h,rfl⟩
 rintro u x ⟨E,a0,_,rfl,d0,rfl,D,rfl⟩;refine sr (vv (I k) (wln (W.ret ?_)));obtain rfl:=si T;exact r1 (qq E ⟨D,rfl⟩)
def fj (p0:Int):Option (Int):=
 (dZ p0).bind fun a=>
 if (a==0)=true then
 some 0
 else
 if (a==1)=true then
 some (w64 p0)
 else
 (shn (w64 (7 - a))).bind fun b=>
 some (jS .i64 (w64 p0) (w64 ((w64 (1 * 2 ^ (min b 64))) - 1)))
theorem nq (j:Own c0 G F) (e:Int) {r:Int} (H:fj e=some r): Calls prog 266 #[.int .u8 e] c0.w (aI c0 fun c v=>Own c G (F)∧v=I r):=by
 unfold fj at H;refine en func266 rfl rfl (sr (va (I 0) (wln (sr (va (.int .u8 e) (bn H fun d k H=>cl (iT j e k) ?_))))));rintro v7 h n ⟨g,rfl⟩;refine va (I d) (wln (sr (va (I d) (wln (W.block (sr (vv (B (d==0)) (wln (cn H (fun l H=>?_) (fun l H=>?_))))))))))
 ·refine sr (va (I 0) (wln (W.ret (bkr ?_))));obtain rfl:=si H;exact r1 (qq h ⟨g,rfl⟩)
 refine sr (vv (B (d==1)) (wln (cn H (fun m H=>?_) (fun m H=>?_))))
 ·refine sr (va (.int .u8 e) (vv (I (w64 e)) (wln (W.ret (bkr ?_)))));obtain rfl:=si H;exact r1 (qq h ⟨g,rfl⟩)
 refine sr (va (.int .u8 e) (va (I (w64 e)) (va (I d) (va (I (w64 (7 - d))) (bn H fun f i H=>vr (I (w64 (1 * 2 ^ (min f 64)))) (qI (k':= .i64) (a:=1) (b:=(w64 (7 - d))) i (by kernel_rfl) _) (va (I (w64 ((w64 (1 * 2 ^ (min f 64))) - 1))) (vv (I (jS .i64 (w64 e) (w64 ((w64 (1 * 2 ^ (min f 64))) - 1)))) (wln (W.ret (bkr ?_))))))))));obtain rfl:=si H;exact r1 (qq h ⟨g,rfl⟩)
def eE (p0:Int):Option (Int×Int):=
 (dZ p0).bind fun b=>
 if (decide (b < 2))=true then
 some (0,0)
 else
 (if (p0==224)=true then
 some (160,191)
 else
 if (p0==240)=true then
 some (144,191)
 else
 if (p0==244)=true then
 some (128,(IntKind.u8.wrap ((IntKind.u8.wrap (191 - 16)) - 32)))
 else
 if (p0==237)=true then
 some (128,(IntKind.u8.wrap (191 - 32)))
 else
 some (128,191)).bind fun a=>
 some (a.1,a.2)
theorem mx (p:Own c0 G F) (b:Int) {r:Int×Int} (H:eE b=some r): Calls prog 220 #[.int .u8 b] c0.w (aI c0 fun c v=>Own c G (F)∧v= .tuple #[.int .u8 r.1,.int .u8 r.2]):=by
 unfold eE at H;refine en func220 rfl rfl (sr (vv (.int .u8 0) (wln (W.seq (sr (va (.int .u8 b) (bn H fun o q H=>cl (iT p b q) ?_)))))));rintro v7 e y ⟨f,rfl⟩;refine va (B (decide (o < 2))) (wln (cn H (fun s H=>?_) (fun s H=>?_)))
 ·refine sr (vv (.int .u8 0) (wln (W.ret (thr ?_))));obtain rfl:=si H;exact r2 (qq e ⟨f,rfl⟩)
 refine W.skip (nrm (sr (va (.int .u8 128) (va (.int .u8 191) (wln (bn H fun d a g=>W.seqJ (Jn e fun c l=>Own c G (F)∧l= [(2,.int .u8 d.1),(3,.int .u8 d.2)]) ?_ ?_))))))
 ·refine sr (va (.int .u8 b) (wln (W.block (W.seq (W.block (W.seq (W.block (W.seq (W.block (W.seq (W.block (W.seq (W.seq (sr (vv (B (b==224)) (wln (cn a (fun j a=>?_) (fun j a=>?_))))))))))))))))))
  ·refine W.exit (thx (thx (bke (nrm (sr (va (.int .u8 160) (wln (W.exit (bko rfl (thx (bko rfl (thx (bko rfl (thx (bke (nrm ?_))))))))))))))));obtain rfl:=si a;exact jn e ⟨f,rfl⟩
  refine W.skip (nrm (W.seq (sr (vv (B (b==240)) (wln (cn a (fun k a=>?_) (fun k a=>?_)))))))
  ·refine W.exit (thx (thx (bko rfl (thx (bke (nrm (sr (va (.int .u8 144) (wln (W.exit (bko rfl (thx (bko rfl (thx (bke (nrm ?_))))))))))))))));obtain rfl:=si a;exact jn e ⟨f,rfl⟩
  refine W.skip (nrm (W.seq (sr (vv (B (b==244)) (wln (cn a (fun m a=>?_) (fun m a=>?_)))))))
  ·refine W.exit (thx (thx (bko rfl (thx (bko rfl (thx (bke (nrm (W.region (va (.int .u8 191) (vv (.int .u8 (IntKind.u8.wrap (191 - 16))) (WL.nil (bkn (nrm (sr (va (.int .u8 (IntKind.u8.wrap (191 - 16))) (vv (.int .u8 (IntKind.u8.wrap ((IntKind.u8.wrap (191 - 16)) - 32))) (wln (W.exit (bke (nrm ?_)))))))))))))))))))));obtain rfl:=si a;exact jn e ⟨f,rfl⟩
  refine W.skip (nrm (sr (vv (B (b==237)) (wln (cn a (fun n a=>?_) (fun n a=>?_))))))
  ·refine W.exit (thx (bko rfl (thx (bko rfl (thx (bko rfl (thx (bke (nrm (sr (va (.int .u8 191) (vv (.int .u8 (IntKind.u8.wrap (191 - 32))) (wln (W.exit (bke (nrm ?_))))))))))))))));obtain rfl:=si a;exact jn e ⟨f,rfl⟩
  refine W.skip (nrm (W.exit (bko rfl (thx (bko rfl (thx (bko rfl (thx (bko rfl (thx (bke (nrm ?_))))))))))));obtain rfl:=si a;exact jn e ⟨f,rfl⟩
 rintro x z ⟨i,t,_,rfl,u,rfl,h,rfl⟩;refine sr (va (.int .u8 d.1) (va (.int .u8 d.2) (va (.int .u8 d.1) (va (.int .u8 d.2) (wln (W.ret ?_))))));obtain rfl:=si g;exact r2 (qq i ⟨h,rfl⟩)
def eb (p0:Int) (p1:Int) (p2:Int):Option (Int):=
 some (aD p1 (ax p0 p2))
theorem ft (e:Own c0 G F) (a:Int) (d:Int) (b:Int) {r:Int} (H:eb a d b=some r): Calls prog 246 #[I a,I d,I b] c0.w (aI c0 fun c v=>Own c G (F)∧v=I r):=by
 unfold eb at H;refine en func246 rfl rfl (sr (va (I 0) (wln (sr (va (I d) (va (I a) (va (I b) (va (I (ax a b)) (vv (I (aD d (ax a b))) (wln (W.ret ?_)))))))))));obtain rfl:=si H;exact r1 (qq c0 ⟨e,rfl⟩)
def eu (sg:Sto) (p0:Option Nat) (p1:Int) (p2:Int):Option (Sto):=
 (bb sg p0).bind fun e=>
 (eb p1 0 e).bind fun a=>
 (bb sg p0).bind fun f=>
 (eb p2 0 f).bind fun b=>
 if (decide (a < b))=true then
 (di (w64 (b - a))).bind fun c=>
 (cX sg p0 a c).bind fun d=>
 some d.1
 else
 some sg
theorem fT (U:Own c0 G F) (e:Rel c0 sg G) (hG:Gl [2,4] c0) (d:Option Nat) (f:Int) (g:Int) {r:Sto} (i:Pt 0 c0 v1 d) (H:eu sg d f g=some r): Calls prog 247 #[v1,I f,I g] c0.w (aI c0 fun c v=>∃G_:Gm,Own c G_ (F)∧Rel c r G_∧v= .tuple #[]):=by
 unfold eu at H;refine en func247 rfl rfl (sr (va (I f) (va (v1) (bn H fun S Z H=>cl (bk U e d i Z) ?_))));rintro v9 c8 l8 ⟨X,rfl⟩;refine bn H fun a y H=>cl (ft X f 0 S y) ?_;rintro v16 b0 h0 ⟨l,rfl⟩;refine va (I g) (va (v1) (bn H fun T z H=>cl (bk l e.m d i.m z) ?_));rintro v23 d0 i0 ⟨n,rfl⟩;refine bn H fun b A H=>cl (ft n g 0 T A) ?_;rintro v30 u j0 ⟨h,rfl⟩;refine va (I a) (va (I b) (wln (sr (va (I a) (va (I b) (va (B (decide (a < b))) (wln (cn H (fun D H=>?_) (fun D H=>?_)))))))))
 ·refine W.region (va (v1) (va (I a) (va (I b) (va (I a) (va (I (w64 (b - a))) (bn H fun j E H=>cl (ey h (w64 (b - a)) E) ?_))))));rintro v33 e0 k0 ⟨_,o0,o,rfl,M⟩;obtain ⟨f0,P,l0,p,N⟩:=o.frz 0 rfl M;refine WL.gh P (bn H fun a0 R H=>cl (ei p e.m (hG.m.le (by decide)) d a j i.m N R) ?_);rintro v47 x m0 ⟨_,k,q,t,rfl,g0⟩;refine WL.nil ?_;obtain rfl:=si H;have s:=q.sD 1 [];exact n0 (qq x ⟨k,s,t,rfl⟩)
 refine W.skip ?_;obtain rfl:=si H;exact n0 (qq u ⟨G,h,e.m,rfl⟩)
def hC (sg:Sto) (p0:Option Nat) (p1:Int) (p2:Int):Option (Sto):=
 (bS (decide (p1≥0)) (some (decide (p2 > 0)))).bind fun f=>
 if f=true then
 (bb sg p0).bind fun b=>
 (eb p1 0 b).bind fun a=>
 (bb sg p0).bind fun c=>
 (eb p2 0 c).bind fun d=>
 (eu sg p0 a (w64 (a+d))).bind fun e=>
 some e
 else
 some sg
theorem mM (o:Own c0 G F) (h:Rel c0 sg G) (hG:Gl [2,4] c0) (f:Option Nat) (b:Int) (d:Int) {r:Sto} (i:Pt 0 c0 v1 f) (H:hC sg f b d=some r): Calls prog 192 #[v1,I b,I d] c0.w (aI c0 fun c v=>∃G_:Gm,Own c G_ (F)∧Rel c r G_∧v= .tuple #[]):=by
 unfold hC at H;refine en func192 rfl rfl (W.seq (bn H fun A P H=>W.join (Jn c0 fun c l=>Own c G (F)∧l= [(0,v1),(1,I b),(2,I d),(11,B A)]) ?_ ?_))
 ·clear H;refine W.region (va (I b) (va (B (decide (b≥0))) ?_));rcases bo (decide (b≥0)) with e | e
  ·have T:=anT e P;refine vb e (wa (I d) (wa (B (decide (d > 0))) ?_));obtain rfl:=si T;exact va (B (decide (d > 0))) (wln (jn c0 ⟨o,rfl⟩))
  obtain rfl:=anF e P;exact vb e (pz (va (B false) (wln (jn c0 ⟨o,rfl⟩))))
 rintro e_ w_ ⟨U,g7,_,rfl,l6,rfl,x,rfl⟩;refine nrm (cn H (fun D H=>?_) (fun D H=>?_))
 ·refine sr (va (I b) (va (v1) (bn H fun j E H=>cl (bk x h.m f i.m E) ?_)));rintro v19 Z e0 ⟨p,rfl⟩;refine bn H fun a M H=>cl (ft p b 0 j M) ?_;rintro v26 a0 f0 ⟨q,rfl⟩;refine va (I a) (wln (W.region (va (v1) (vv (I a) (va (I d) (va (v1) (bn H fun k N H=>cl (bk q h.m f i.m N) ?_)))))));rintro v33 b0 g0 ⟨s,rfl⟩;refine bn H fun g R H=>cl (ft s d 0 k R) ?_;rintro v40 d0 h0 ⟨t,rfl⟩;refine va (I (w64 (a+g))) (bn H fun X S H=>cl (fT t h.m (hG.m.le (by decide)) f a (w64 (a+g)) i.m S) ?_);rintro v47 z i0 ⟨n,u,y,rfl⟩;refine WL.nil ?_;obtain rfl:=si H;exact n0 (qq z ⟨n,u,y,rfl⟩)
 refine W.skip ?_;obtain rfl:=si H;exact n0 (qq U ⟨G,x,h.m,rfl⟩)
def gZ (sg:Sto) (p0:Option Nat) (p1:Int):Option (Sto):=
 (bb sg p0).bind fun a=>
 (eu sg p0 p1 a).bind fun b=>
 some b
theorem mL (l:Own c0 G F) (f:Rel c0 sg G) (hG:Gl [2,4] c0) (a:Option Nat) (b:Int) {r:Sto} (j:Pt 0 c0 v1 a) (H:gZ sg a b=some r): Calls prog 243 #[v1,I b] c0.w (aI c0 fun c v=>∃G_:Gm,Own c G_ (F)∧Rel c r G_∧v= .tuple #[]):=by
 unfold gZ at H;refine en func243 rfl rfl (W.region (va (v1) (va (I b) (va (v1) (bn H fun k o H=>cl (bk l f a j o) ?_)))));rintro v9 s t ⟨n,rfl⟩;refine bn H fun q i H=>cl (fT n f.m (hG.m.le (by decide)) a b k j.m i) ?_;rintro v16 h p ⟨d,e,g,rfl⟩;refine WL.nil ?_;obtain rfl:=si H;exact n0 (qq h ⟨d,e,g,rfl⟩)
def iK (sg:Sto) (p0:Option Nat) (p1:Int):Option (Sto):=
 (bb sg p0).bind fun a=>
 (eb p1 (-1) a).bind fun b=>
 (eu sg p0 0 (w64 (b+1))).bind fun c=>
 some c
theorem nt (p:Own c0 G F) (h:Rel c0 sg G) (hG:Gl [2,4] c0) (a:Option Nat) (b:Int) {r:Sto} (n:Pt 0 c0 v1 a) (H:iK sg a b=some r): Calls prog 244 #[v1,I b] c0.w (aI c0 fun c v=>∃G_:Gm,Own c G_ (F)∧Rel c r G_∧v= .tuple #[]):=by
 unfold iK at H;refine en func244 rfl rfl (W.region (va (v1) (va (I b) (va (v1) (bn H fun o s H=>cl (bk p h a n s) ?_)))));rintro v9 z A ⟨q,rfl⟩;refine bn H fun d k H=>cl (ft q b (-1) o k) ?_;rintro v16 t u ⟨f,rfl⟩;refine va (I (w64 (d+1))) (bn H fun y l H=>cl (fT f h.m (hG.m.le (by decide)) a 0 (w64 (d+1)) n.m l) ?_);rintro v23 j x ⟨e,g,i,rfl⟩;refine WL.nil ?_;obtain rfl:=si H;exact n0 (qq j ⟨e,g,i,rfl⟩)
def gQ (sg:Sto) (p0:Option Nat):Option (Sto):=
 (bb sg p0).bind fun a=>
 (eu sg p0 0 a).bind fun b=>
 (dR b p0 false).bind fun c=>
 some c
theorem lI (o:Own c0 G F) (g:Rel c0 sg G) (hG:Gl [2,4] c0) (a:Option Nat) {r:Sto} (b:Pt 0 c0 v1 a) (H:gQ sg a=some r): Calls prog 245 #[v1] c0.w (aI c0 fun c v=>∃G_:Gm,Own c G_ (F)∧Rel c r G_∧v= .tuple #[]):=by
 unfold gQ at H;refine en func245 rfl rfl (sr (vv (v1) (bn H fun n q H=>cl (bk o g a b q) ?_)));rintro v9 A D ⟨p,rfl⟩;refine bn H fun y k H=>cl (fT p g.m (hG.m.le (by decide)) a 0 n b.m k) ?_;rintro v16 t u ⟨s,e,h,rfl⟩;refine wln (W.region (va (v1) (bn H fun z l H=>cl (fq e h a false b.m l) ?_)));rintro v23 j x ⟨d,f,i,rfl⟩;refine WL.nil ?_;obtain rfl:=si H;exact n0 (qq j ⟨d,f,i,rfl⟩)
end Go.Proofs.YtclmdpamofdoiaaGreatDoor
namespace Go.Proofs.YtclmdpamofdoiaaGreatDoor
open Go Go.Lt
set_option maxRecDepth 10000
set_option linter.unusedVariables false
attribute [local irreducible] W WL AC
theorem kH {Q:Program} (w:World) (dT sT ty E:TypeId) (g o dLen dCap:Nat) (a:Addr) (sLen sCap n size:Nat) (us vs:List Value) (T:TypeId)
  (hu:Q.underlying dT=some (.slice E)) (hs:(Q.info? E).map (·.size)=some size) (hn:Nat.min sLen dLen=n) (hul:us.length=n * size)
  (hsrc:∀j v,us[j]? = some v→w.cell? (a.add j)=some v) (hrow:w.heap[g]? = some (.cells vs.toArray T (0,0))) (hl:o+us.length≤vs.length) (h1:∀v∈us,v.oneCell'=true):
  (Builtin.copy_ #[dT,sT] ty #[.slice (some ⟨g,o,none⟩) dLen dCap,.slice (some a) sLen sCap]).run Q w= .ok (goInt n) (w.setRow g (vs.take o++us++vs.drop (o+us.length)).toArray):=by
 obtain ⟨i,hi,hsz⟩:=Option.map_eq_some_iff.1 hs;have hf:=sB (P:=Q) (w:=w) size n a sLen sCap us hul hsrc;have hst:=nK Q g o T us 0 vs.toArray w hrow (by simpa using hl) h1;simp only [jh] at hst;simp [Builtin.copy_,aZ hu,Builtin.lenOf,sizeOf,typeInfo,hi,hsz,hn,hf,hst]
set_option maxHeartbeats 4000000 in
set_option maxRecDepth 100000 in
theorem po {w:World} {g n cap i vb m vc:Nat} {vs us vs2:List Value} {T T2:TypeId} (hrow:w.heap[g]? = some (.cells vs.toArray T (0,0))) (hrow2:w.heap[vb]? = some (.cells vs2.toArray T2 (0,0)))
  (hi:i < n) (hm:0 < m) (hroom:n+m≤cap) (hcap:cap * 2≤vs.length) (hc63:cap≤9223372036854775807) (hvb:vb≠g) (hul:us.length=m * 2) (hus:∀(j:Nat) (v:Value),us[j]? = some v→vs2[j]? = some v)
  (h1:∀v∈vs.take (n * 2),v.oneCell'=true) (h2:∀v∈us,v.oneCell'=true):
  Calls Tryz.prog 250 #[.slice (some ⟨g,0,none⟩) n cap,.int .i64 i,.slice (some ⟨vb,0,none⟩) m vc] w fun e w'=>
   e= .returned (.slice (some ⟨g,0,none⟩) (n+m) cap)∧w'=(w.drew.setRow g (vs.take ((i+m) * 2)++(vs.drop (i * 2)).take ((n - i) * 2)++vs.drop ((n+m) * 2)).toArray).setRow g (vs.take (i * 2)++us++(vs.drop (i * 2)).take ((n - i) * 2)++vs.drop ((n+m) * 2)).toArray:=by
 have hsz:(Tryz.prog.info? 114).map (·.size)=some 2:=by kernel_rfl
 have hov:∀lb cb,(callFunc 284 #[.slice (some ⟨vb,0,none⟩) m vc,.slice (some ⟨g,(i+m) * 2,none⟩) lb cb]).run Tryz.prog w= .ok (.value (.bool false)) w:=fun lb cb=>by
  rw [run_callFunc_extern Tryz.func284 (by kernel_rfl) (by kernel_rfl) (by kernel_rfl) (e:=Extern.SlicesOverlaps.overlaps #[46,46] #[4]) (by kernel_rfl)];rw [Lib.run_overlaps_apart w 46 4 114 Tryz.underlying46 2 (fun w=>by kernel_rfl) ⟨vb,0,none⟩ ⟨g,(i+m) * 2,none⟩ m vc lb cb hvb T2 T vs2.length vs.length (by simp [World.shape?,hrow2]) (by simp [World.shape?,hrow]) (by omega) (by simp [World.frozen?,hrow2]) (by simp [World.frozen?,hrow2])];rfl
 have hdl:((vs.drop (i * 2)).take ((n - i) * 2)).length=(n - i) * 2:=by rw [ae,aH]; omega
 have hcp1:∀ty dc sc,(Builtin.copy_ #[46,46] ty #[.slice (some ⟨g,(i+m) * 2,none⟩) (n+m - (i+m)) dc,.slice (some ⟨g,i * 2,none⟩) (n+m - i) sc]).run Tryz.prog w.drew= .ok (goInt ((n - i:Nat):Int)) (w.drew.setRow g (vs.take ((i+m) * 2)++(vs.drop (i * 2)).take ((n - i) * 2)++vs.drop ((n+m) * 2)).toArray):=fun ty dc sc=>by
  have:=kH (Q:=Tryz.prog) w.drew 46 46 ty 114 g ((i+m) * 2) (n+m - (i+m)) dc ⟨g,i * 2,none⟩ (n+m - i) sc (n - i) 2 ((vs.drop (i * 2)).take ((n - i) * 2)) vs T Tryz.underlying46 hsz (by simp only [oP]; split <;> omega) hdl
   (fun j v hj=>by
    rw [cG];rw [aM] at hj;split at hj
    ·rw [cg] at hj;rw [eh w.drew g (i * 2+j) vs.toArray T (0,0) hrow,aX];exact hj
    ·cases hj) hrow (by rw [hdl]; omega) (fun v hv=>h1 v (by rw [show (n - i) * 2=n * 2 - i * 2 by omega,←dt] at hv; exact eq hv))
  rw [hdl,show (i+m) * 2+(n - i) * 2=(n+m) * 2 by omega] at this;exact this
 obtain ⟨W1,hW1⟩:∃W1,W1=w.drew.setRow g (vs.take ((i+m) * 2)++(vs.drop (i * 2)).take ((n - i) * 2)++vs.drop ((n+m) * 2)).toArray:=⟨_,rfl⟩;have hr1:W1.heap[g]? = some (.cells (vs.take ((i+m) * 2)++(vs.drop (i * 2)).take ((n - i) * 2)++vs.drop ((n+m) * 2)).toArray T (0,0)):=by
  rw [hW1];exact oJ w.drew g vs.toArray _ T (0,0) hrow
 have hr2:W1.heap[vb]? = some (.cells vs2.toArray T2 (0,0)):=by
  rw [hW1,rB w.drew g vb _ hvb];exact hrow2
 have hA2:(vs.take ((i+m) * 2)++(vs.drop (i * 2)).take ((n - i) * 2)++vs.drop ((n+m) * 2)).take (i * 2)=vs.take (i * 2):=by
  rw [aB,cy (by rw [ae]; omega),cC,cW (by omega)]
 have hA3:(vs.take ((i+m) * 2)++(vs.drop (i * 2)).take ((n - i) * 2)++vs.drop ((n+m) * 2)).drop (i * 2+m * 2)=(vs.drop (i * 2)).take ((n - i) * 2)++vs.drop ((n+m) * 2):=by
  have hl:(vs.take ((i+m) * 2)).length=i * 2+m * 2:=by rw [ae]; omega
  rw [aB,←hl,du]
 have hcp2:∀ty dc,(Builtin.copy_ #[46,46] ty #[.slice (some ⟨g,i * 2,none⟩) (n+m - i) dc,.slice (some ⟨vb,0,none⟩) m vc]).run Tryz.prog W1= .ok (goInt m) (W1.setRow g (vs.take (i * 2)++us++(vs.drop (i * 2)).take ((n - i) * 2)++vs.drop ((n+m) * 2)).toArray):=fun ty dc=>by
  have:=kH (Q:=Tryz.prog) W1 46 46 ty 114 g (i * 2) (n+m - i) dc ⟨vb,0,none⟩ m vc m 2 us _ T Tryz.underlying46 hsz (by simp only [oP]; split <;> omega) hul
   (fun j v hj=>by
    rw [cG,eh W1 vb (0+j) vs2.toArray T2 (0,0) hr2,aX,eo];exact hus j v hj) hr1 (by simp only [ab,ae,aH]; omega) h2
  rw [hul,hA2,hA3,←aB] at this;exact this
 rw [←hW1] at hcp1⊢;have hw1:IntKind.i64.wrap ((i:Int)+(m:Int))=(i:Int)+(m:Int):=by rw [oF]; omega
 have hb1:(0:Int)≤(i:Int)+(m:Int):=by omega
 have hin:i≤n:=by omega
 have hz1:¬((m:Int)=0):=by omega
 have hz2:¬((i:Int)=(n:Int)):=by omega
 have htn:((i:Int)+(m:Int)).toNat=i+m:=by omega
 have hb2:¬(cap=i+m):=by omega
 have hb3:(i:Int)≤(n:Int)+(m:Int):=by omega
 have hb4:¬(cap=i):=by omega
 have mixed:Tryz.prog.follows Departure.mixedOrders=true:=by kernel_rfl
 clear hA2 hA3 hr1 hr2 hW1 hdl h1 h2 hus hul
 go_enter Tryz.func250,Tryz.ntmps250
 go_wp2_with (simp only [hov])
 go_region_law_o (refine step_copy_runI rfl _ _ 46 46 rfl _ _ (by simp [Act.eval,Act.put]) (by simp [Act.eval,Act.put]) (hcp1 _ _ _) ?_)
 go_wp2_with (at_builtin; refine wpList_copy_runI _ rfl _ _ 46 46 rfl _ _ rfl rfl (hcp2 _ _) ?_)
 go_ret
 exact ⟨rfl,by simp only [aB]⟩
def gN (k:Nat):List Value:=(Builtin.zeroCells (Value.agg #[.int .i64 0,.slice none 0 0]).cells k).toList
theorem iq (k:Nat):(gN k).length=k * 2:=by
 unfold gN;rw [sH,iX];rfl
set_option maxHeartbeats 4000000 in
set_option maxRecDepth 100000 in
theorem qk {w:World} {g n cap i vb m vc:Nat} {vs us vs2:List Value} {T T2:TypeId} (hrow:w.heap[g]? = some (.cells vs.toArray T (0,0))) (hrow2:w.heap[vb]? = some (.cells vs2.toArray T2 (0,0)))
  (hi:i < n) (hm:0 < m) (hnc:n≤cap) (hroom:cap < n+m) (hcap:cap * 2≤vs.length) (hbig:(n+m) * 128≤140737488355328) (hul:us.length=m * 2) (hus:∀(j:Nat) (v:Value),us[j]? = some v→vs2[j]? = some v)
  (h1:∀v∈vs.take (n * 2),v.oneCell'=true) (h2:∀v∈us,v.oneCell'=true):
  Calls Tryz.prog 250 #[.slice (some ⟨g,0,none⟩) n cap,.int .i64 i,.slice (some ⟨vb,0,none⟩) m vc] w fun e w'=>
   e= .returned (.slice (some ⟨w.heap.size,0,none⟩) (n+m) (grownCap w (n+m) cap 114))∧
   w'=(((w.drew.alloc (.cells (vs.take (i * 2)++gN (n+m - i)++gN (grownCap w (n+m) cap 114 - (n+m))).toArray 114)).setRow w.heap.size (vs.take (i * 2)++us++(gN (n+m - i)++gN (grownCap w (n+m) cap 114 - (n+m))).drop (m * 2)).toArray).drew).setRow w.heap.size
    (vs.take (i * 2)++us++(vs.drop (i * 2)).take ((n - i) * 2)++(gN (n+m - i)++gN (grownCap w (n+m) cap 114 - (n+m))).drop ((n+m - i) * 2)).toArray:=by
 have hsz:(Tryz.prog.info? 114).map (·.size)=some 2:=by kernel_rfl
 obtain ⟨ti,hti,hzz⟩:=Option.map_eq_some_iff.1 (show (Tryz.prog.info? 114).map (fun i=>(i.zero,i.size,i.bytes))=some (some (Value.agg #[.int .i64 0,.slice none 0 0]),2,32) by kernel_rfl);simp only [nd] at hzz;obtain ⟨hz0,hz3,hz4⟩:=hzz;have hold:(Builtin.firstCells ti.size i (.slice (some ⟨g,0,none⟩) i cap)).run Tryz.prog w.drew= .ok (vs.take (i * 2)).toArray w.drew:=by
  rw [hz3];exact sB w.drew 2 i ⟨g,0,none⟩ i cap (vs.take (i * 2)) (by rw [ae]; omega) (fun j v hj=>by
   rw [cG,eo,eh w.drew g j vs.toArray T (0,0) hrow,aX];rw [aM] at hj;split at hj
   ·exact hj
   ·cases hj)
 obtain ⟨N,hN⟩:∃N,N=w.heap.size:=⟨_,rfl⟩;obtain ⟨Gc,hGc⟩:∃Gc,Gc=grownCap w (n+m) cap 114:=⟨_,rfl⟩;obtain ⟨Zs,hZs⟩:∃Zs,Zs=gN (n+m - i)++gN (Gc - (n+m)):=⟨_,rfl⟩;have hZl:Zs.length=(n+m - i) * 2+(Gc - (n+m)) * 2:=by rw [hZs,ab,iq,iq]
 obtain ⟨W2,hW2⟩:∃W2,W2=w.drew.alloc (.cells (vs.take (i * 2)++Zs).toArray 114):=⟨_,rfl⟩;have hkk:(n:Int)+(m:Int) - (i:Int)=((n+m - i:Nat):Int):=by omega
 have hrz:∀ty,(Builtin.append_ #[46,3] ty #[.slice (some ⟨g,0,none⟩) i cap,.int .i64 ((n:Int)+(m:Int) - (i:Int))]).run Tryz.prog w= .ok (.slice (some ⟨N,0,none⟩) (n+m) Gc) W2:=fun ty=>by
  have h:=Lib.run_append_grow_zeros (P:=Tryz.prog) w 46 3 ty 114 ti _ .i64 .i64 Tryz.underlying46 Tryz.underlying3 hti hz0 (some ⟨g,0,none⟩) i cap (vs.take (i * 2)) hold (n+m - i) (by omega) (by omega) (by omega) (by omega) (by rw [hz4]; omega) (by rw [hz4,show i+(n+m - i)=n+m by omega]; exact growslice_fits hroom (by omega));rw [show i+(n+m - i)=n+m by omega] at h;rw [hkk,hN,hGc,hW2,h,hZs,←hGc]
  congr 3
  rw [←aB];apply sY;simp [gN]
 have hNg:g < N:=by rw [hN]; exact (Array.getElem?_eq_some_iff.1 hrow).1
 have hNv:vb < N:=by rw [hN]; exact (Array.getElem?_eq_some_iff.1 hrow2).1
 have r2N:W2.heap[N]? = some (.cells (vs.take (i * 2)++Zs).toArray 114 (0,0)):=by
  rw [hW2,hN];exact heap_alloc_new w.drew _
 have r2g:W2.heap[g]? = some (.cells vs.toArray T (0,0)):=by
  rw [hW2,bW w.drew _ g (by rw [hN] at hNg; exact hNg)];exact hrow
 have r2v:W2.heap[vb]? = some (.cells vs2.toArray T2 (0,0)):=by
  rw [hW2,bW w.drew _ vb (by rw [hN] at hNv; exact hNv)];exact hrow2
 have ht:(vs.take (i * 2)).length=i * 2:=by rw [ae]; omega
 have hGe:n+m≤Gc:=by rw [hGc]; exact sf w _ _ _
 obtain ⟨W3,hW3⟩:∃W3,W3=W2.setRow N (vs.take (i * 2)++us++Zs.drop (m * 2)).toArray:=⟨_,rfl⟩;have hcpA:∀ty dc,(Builtin.copy_ #[46,46] ty #[.slice (some ⟨N,i * 2,none⟩) (n+m - i) dc,.slice (some ⟨vb,0,none⟩) m vc]).run Tryz.prog W2= .ok (goInt m) W3:=fun ty dc=>by
  have:=kH (Q:=Tryz.prog) W2 46 46 ty 114 N (i * 2) (n+m - i) dc ⟨vb,0,none⟩ m vc m 2 us _ 114 Tryz.underlying46 hsz (by simp only [oP]; split <;> omega) hul
   (fun j v hj=>by
    rw [cG,eh W2 vb (0+j) vs2.toArray T2 (0,0) r2v,aX,eo];exact hus j v hj) r2N (by simp only [ab,ht,hZl]; omega) h2
  rw [hul,cy (by omega),au (by omega),←bu,List.drop_left' ht] at this;rw [hW3];exact this
 have r3N:W3.heap[N]? = some (.cells (vs.take (i * 2)++us++Zs.drop (m * 2)).toArray 114 (0,0)):=by
  rw [hW3];exact oJ W2 N _ _ _ (0,0) r2N
 have r3g:W3.heap[g]? = some (.cells vs.toArray T (0,0)):=by
  rw [hW3,rB W2 N g _ (by omega)];exact r2g
 have hcpB:∀ty dc sc,(Builtin.copy_ #[46,46] ty #[.slice (some ⟨N,(i+m) * 2,none⟩) (n+m - (i+m)) dc,.slice (some ⟨g,i * 2,none⟩) (n - i) sc]).run Tryz.prog W3.drew= .ok (goInt ((n - i:Nat):Int)) (W3.drew.setRow N (vs.take (i * 2)++us++(vs.drop (i * 2)).take ((n - i) * 2)++Zs.drop ((n+m - i) * 2)).toArray):=fun ty dc sc=>by
  have hdl:((vs.drop (i * 2)).take ((n - i) * 2)).length=(n - i) * 2:=by rw [ae,aH]; omega
  have hau:(vs.take (i * 2)++us).length=(i+m) * 2:=by rw [ab,ht,hul]; omega
  have:=kH (Q:=Tryz.prog) W3.drew 46 46 ty 114 N ((i+m) * 2) (n+m - (i+m)) dc ⟨g,i * 2,none⟩ (n - i) sc (n - i) 2 ((vs.drop (i * 2)).take ((n - i) * 2)) _ 114 Tryz.underlying46 hsz (by simp only [oP]; split <;> omega) hdl
   (fun j v hj=>by
    rw [cG];rw [aM] at hj;split at hj
    ·rw [cg] at hj;rw [eh W3.drew g (i * 2+j) vs.toArray T (0,0) r3g,aX];exact hj
    ·cases hj) r3N (by rw [hdl,ab,hau,aH,hZl]; omega) (fun v hv=>h1 v (by rw [show (n - i) * 2=n * 2 - i * 2 by omega,←dt] at hv; exact eq hv))
  rw [hdl] at this;rw [this]
  congr 3
  rw [←hau,qz,←bu,du,bu,show m * 2+(n - i) * 2=(n+m - i) * 2 by omega]
 have hN2:w.heap.size=N:=hN.symm;have hG2:grownCap w (n+m) cap 114=Gc:=hGc.symm;rw [hG2,←hZs,show vs.take (i * 2)++gN (n+m - i)++gN (Gc - (n+m))=vs.take (i * 2)++Zs by rw [hZs,aB],hN2,←hW2,←hW3];have hG63:Gc≤9223372036854775807:=by
  have:=nk w (n+m) cap 114 (by unfold maxLen; omega);rw [←hGc] at this;unfold maxLen at this;omega
 have hGi:¬(Gc=i):=by omega
 have hGim:¬(Gc=i+m):=by omega
 have hci:¬(cap=i):=by omega
 have hw1:IntKind.i64.wrap ((i:Int)+(m:Int))=(i:Int)+(m:Int):=by rw [oF]; omega
 have hb1:(0:Int)≤(i:Int)+(m:Int):=by omega
 have hin:i≤n:=by omega
 have htn:((i:Int)+(m:Int)).toNat=i+m:=by omega
 have hb3:(i:Int)≤(n:Int):=by omega
 have hz1:¬((m:Int)=0):=by omega
 have hz2:¬((i:Int)=(n:Int)):=by omega
 have hz5:(cap:Int) < (n:Int)+(m:Int):=by omega
 have mixed:Tryz.prog.follows Departure.mixedOrders=true:=by kernel_rfl
 clear hkk hold hZs hZl hW2 hW3 r2N r2g r2v r3N r3g hN hN2 hG2 hGc ht hti hz0 hz3 hz4 h1 h2 hus hul hNg hNv hrow hrow2
 go_enter Tryz.func250,Tryz.ntmps250
 go_wp2_with (first
  | (at_builtin; refine Lib.wpList_append_run _ rfl _ _ _ _ rfl _ _ rfl rfl _ _ (hrz _) ?_)
  | (at_builtin; refine wpList_copy_runI _ rfl _ _ 46 46 rfl _ _ rfl rfl (hcpA _ _) ?_))
 go_region_law_o (refine step_copy_runI rfl _ _ 46 46 rfl (.slice (some ⟨N,(i+m) * 2,none⟩) (n+m - (i+m)) (Gc - (i+m))) (.slice (some ⟨g,i * 2,none⟩) (n - i) (cap - i)) (by simp [Act.eval,Act.put]) (by simp [Act.eval,Act.put]) (hcpB _ _ _) ?_)
 go_wp2
 go_ret
 exact ⟨rfl,by simp only [aB]⟩
section
variable {c c':Cx} {α:Type} {R:Rp α}
theorem _root_.Go.Lt.AR.take {vs:List Value} {xs:List α} (h:AR R c vs xs) (k:Nat):AR R c (vs.take (k * R.size)) (xs.take k):=fun i x hx=>by
 rw [aM] at hx;split at hx
 ·rename_i hik
  have hm:=ed (s:=R.size) hik;rw [dt,cC,cW (by omega)];exact h i x hx
 ·cases hx
theorem _root_.Go.Lt.AR.drop {vs:List Value} {xs:List α} (h:AR R c vs xs) (k:Nat):AR R c (vs.drop (k * R.size)) (xs.drop k):=fun i x hx=>by
 rw [cg] at hx;rw [bu,←dq];exact h _ x hx
theorem _root_.Go.Lt.AR.more {vs ts:List Value} {xs:List α} (h:AR R c vs xs) (hl:xs.length * R.size≤vs.length):AR R c (vs++ts) xs:=fun i x hx=>by
 have hi:=(List.getElem?_eq_some_iff.1 hx).1;have hm:=ed (s:=R.size) hi;rw [dO (by omega)];exact h i x hx
theorem _root_.Go.Lt.AR.app {vs us:List Value} {xs ys:List α} (h:AR R c vs xs) (hl:vs.length=xs.length * R.size) (k:AR R c us ys):AR R c (vs++us) (xs++ys):=fun i x hx=>by
 rw [ss] at hx;split at hx
 ·rename_i hi
  have hm:=ed (s:=R.size) hi;rw [dO (by omega)];exact h i x hx
 ·rename_i hi
  rw [show i * R.size=vs.length+(i - xs.length) * R.size by rw [hl,←dq]; congr 1; omega,←bu,du];exact k _ x hx
theorem _root_.Go.Lt.AR.ones {vs:List Value} {xs:List α} (h:AR R c vs xs) (hp:0 < R.size):∀v∈vs.take (xs.length * R.size),v.oneCell'=true:=fun v hv=>by
 obtain ⟨j,hj⟩:=List.mem_iff_getElem?.1 hv;rw [aM] at hj;split at hj
 ·rename_i hlt
  have hq:j / R.size < xs.length:=by rw [Nat.div_lt_iff_lt_mul hp]; exact hlt
  have hc:=h _ _ (av hq);refine R.one hc v (List.mem_iff_getElem?.2 ⟨j % R.size,?_⟩);rw [aM,aj (sV _ hp),cg,Nat.mul_comm,Nat.div_add_mod];exact hj
 ·cases hj
end
def gk (p0:List aa) (p1:Int) (p2:List aa):Option (List aa):=if 0≤p1∧p1 < p0.length∧1≤p2.length∧p0.length+p2.length≤far then some (p0.take p1.toNat++p2++p0.drop p1.toNat) else none
theorem _root_.Go.Lt.OA.some {c:Cx} {α:Type} {R:Rp α} {v:Value} {vs:List Value} {xs:List α} (h:OA R c v vs xs) (hn:1≤xs.length):∃g cap,v= .slice (some ⟨g,0,none⟩) xs.length cap∧xs.length≤cap∧cap≤maxLen∧cap * R.size≤vs.length∧AR R c vs xs:=by
 rcases h.2.1 with ⟨_,rfl⟩ | ⟨g,cap,h1,h2,h3,h4⟩
 ·simp at hn
 ·exact ⟨g,cap,h1,h2,h3,h4,h.2.2⟩
theorem lL {c0:Cx} {G:Gm} {F:List En} {v0 v2:Value} {u0 u2:List Value} (p0:List aa) (p1:Int) (p2:List aa) (O0:Own c0 G (es true ac v0 114 u0 p0 :: es true ac v2 114 u2 p2 :: F)) (h0:OA ac c0 v0 u0 p0) (h2:OA ac c0 v2 u2 p2) {r:List aa} (H:gk p0 p1 p2=some r): Calls Tryz.prog 250 #[v0,.int .i64 p1,v2] c0.w (aI c0 fun c v=>∃y1:Value,∃y2:List Value,Own c G (es true ac y1 114 y2 r :: F)∧v=y1∧OA ac c y1 y2 r):=by
 unfold gk at H;split at H
 ·rename_i hc;obtain ⟨hc1,hc2,hc3,hc4⟩:=hc;obtain ⟨i,rfl⟩:∃i:Nat,p1=(i:Int):=⟨p1.toNat,by omega⟩;rw [er] at H;obtain rfl:=az H;obtain ⟨g,cap,rfl,a1,a2,a3,a4⟩:=h0.some (by omega);obtain ⟨vb,vc,rfl,b1,b2,b3,b4⟩:=h2.some hc3;have hsz:ac.size=2:=rfl;have hon0:=O0.on 0 rfl g rfl;have hon2:=O0.on 1 rfl vb rfl;have hne:vb≠g:=fun e=>O0.m.2 (.inl 0) (.inl 1) _ _ rfl rfl (by simp) g rfl (by rw [←e]; rfl);have o0:=a4.ones (by decide);have o2:=b4.ones (by decide);rw [hsz] at o0 o2 a3 b3;unfold maxLen at a2 b2;unfold far at hc4;have ht0:(u0.take (i * 2)).length=i * 2:=by rw [ae]; omega
  have ht2:(u2.take (p2.length * 2)).length=p2.length * 2:=by rw [ae]; omega
  have htl:((u0.drop (i * 2)).take ((p0.length - i) * 2)).length=(p0.length - i) * 2:=by rw [ae,aH]; omega
  have hus:∀(j:Nat) (v:Value),(u2.take (p2.length * 2))[j]? = some v→u2[j]? = some v:=fun j v hj=>by
   rw [aM] at hj;split at hj
   ·exact hj
   ·cases hj
  have hAR:∀(c:Cx) (ts:List Value),c0.le c→AR ac c (u0.take (i * 2)++u2.take (p2.length * 2)++(u0.drop (i * 2)).take ((p0.length - i) * 2)++ts) (p0.take i++p2++p0.drop i):=fun c ts hle=>by
   have k0:AR ac c (u0.take (i * 2)) (p0.take i):=(a4.take i).mono hle;have k2:AR ac c (u2.take (p2.length * 2)) p2:=by
    have:=(b4.take p2.length).mono hle;rwa [au (ah p2.length)] at this
   have k1:AR ac c ((u0.drop (i * 2)).take ((p0.length - i) * 2)) (p0.drop i):=by
    have:=((a4.drop i).take (p0.length - i)).mono hle;rwa [au (l:=p0.drop i) (by rw [aH]; exact ah _)] at this
   refine AR.more (AR.app (AR.app k0 ?_ k2) ?_ k1) ?_
   ·rw [ht0,ae,cW (by omega),hsz]
   ·rw [ab,ht0,ht2,ab,ae,cW (by omega),hsz,dq]
   ·simp only [ab];rw [ht0,ht2,htl,ae,aH,cW (by omega),hsz];omega
  have hrl:(p0.take i++p2++p0.drop i).length=p0.length+p2.length:=by
   rw [ab,ab,ae,aH];omega
  rcases cF cap (p0.length+p2.length) with hg | hg
  ·refine (qk (vs:=u0) (us:=u2.take (p2.length * 2)) (vs2:=u2) hon0.1 hon2.1 (by omega) (by omega) a1 hg a3 (by omega) ht2 hus o0 o2).mono ?_;rintro e w' ⟨rfl,rfl⟩;obtain ⟨Gc,hGc⟩:∃Gc,Gc=grownCap c0.w (p0.length+p2.length) cap 114:=⟨_,rfl⟩;have hGe:p0.length+p2.length≤Gc:=by rw [hGc]; exact sf _ _ _ _
   have hGm:Gc≤maxLen:=by rw [hGc]; exact nk _ _ _ _ (by unfold maxLen; omega)
   rw [←hGc];obtain ⟨Zs,hZs⟩:∃Zs,Zs=gN (p0.length+p2.length - i)++gN (Gc - (p0.length+p2.length)):=⟨_,rfl⟩;have hZl:Zs.length=(p0.length+p2.length - i) * 2+(Gc - (p0.length+p2.length)) * 2:=by rw [hZs,ab,iq,iq]
   rw [aB (u0.take (i * 2)),←hZs];have hd:=Cx.drew_le c0;obtain ⟨c1,e1,e2,e3,e4,e5⟩:=Cx.new ⟨c0.w.drew,c0.A,c0.t⟩ (u0.take (i * 2)++Zs) 114 0;have O1:=Own.cons (O0.keep hd) e2 (fun _=>id) (e:=⟨.slice (some ⟨c0.w.heap.size,0,none⟩) (p0.length+p2.length) Gc,114,u0.take (i * 2)++Zs,0⟩) (fun b hb=>by
    simp only [blk,aR] at hb;subst hb;exact ⟨e3,e5⟩) (fun b hb=>by
    simp only [blk,aR] at hb;subst hb;exact ah _)
   obtain ⟨c2,f1,f2,f3,f4⟩:=Cx.row (m:=u0.take (i * 2)++u2.take (p2.length * 2)++Zs.drop (p2.length * 2)) e3 0 e5 (fun o ho=>by omega) 0 (ah _);have O2:=Own.set O1 0 rfl f2 (fun b hb=>by rw [hb]; rfl) (e':=⟨.slice (some ⟨c0.w.heap.size,0,none⟩) (p0.length+p2.length) Gc,114,u0.take (i * 2)++u2.take (p2.length * 2)++Zs.drop (p2.length * 2),0⟩) (fun b hb=>by
    simp only [blk,aR] at hb;subst hb;exact ⟨f3,f4⟩) (fun b hb=> .inl hb)
   have hd2:=Cx.drew_le c2;obtain ⟨c3,g1,g2,g3,g4⟩:=Cx.row (c:=⟨c2.w.drew,c2.A,c2.t⟩) (m:=u0.take (i * 2)++u2.take (p2.length * 2)++(u0.drop (i * 2)).take ((p0.length - i) * 2)++Zs.drop ((p0.length+p2.length - i) * 2)) (T:=114) (b:=c0.w.heap.size) f3 0 f4 (fun o ho=>by omega) 0 (ah _);have O3:=Own.set (O2.keep hd2) 0 rfl g2 (fun b hb=>by rw [hb]; rfl) (e':=es true ac (.slice (some ⟨c0.w.heap.size,0,none⟩) (p0.length+p2.length) Gc) 114 (u0.take (i * 2)++u2.take (p2.length * 2)++(u0.drop (i * 2)).take ((p0.length - i) * 2)++Zs.drop ((p0.length+p2.length - i) * 2)) (p0.take i++p2++p0.drop i)) (fun b hb=>by
    simp only [es,blk,aR] at hb;subst hb;exact ⟨g3,g4⟩) (fun b hb=> .inl hb)
   have hle:=hd.le.trans (e2.le.trans (f2.le.trans (hd2.le.trans g2.le)));have O4:=O3.selD 3 [0] (by kernel_rfl) (by kernel_rfl);refine ⟨_,c3,rfl,by rw [g1]; show _=(c2.w.drew).setRow _ _; rw [f1,e1]; rfl,hle,_,_,O4,rfl,by decide,.inr ⟨_,Gc,by rw [hrl],by rw [hrl]; exact hGe,hGm,?_⟩,hAR c3 _ hle⟩;rw [hsz,ab,ab,ab,ht0,ht2,htl,aH,hZl];omega
  ·refine (po (vs:=u0) (us:=u2.take (p2.length * 2)) (vs2:=u2) hon0.1 hon2.1 (by omega) (by omega) hg a3 a2 hne ht2 hus o0 o2).mono ?_;rintro e w' ⟨rfl,rfl⟩;have hd:=Cx.drew_le c0;obtain ⟨c2,f1,f2,f3,f4⟩:=Cx.row (c:=⟨c0.w.drew,c0.A,c0.t⟩) (l:=u0) (T:=114) (b:=g) (m:=u0.take ((i+p2.length) * 2)++(u0.drop (i * 2)).take ((p0.length - i) * 2)++u0.drop ((p0.length+p2.length) * 2)) hon0.1 0 hon0.2 (fun o ho=>by omega) 0 (ah _);have O2:=Own.set (O0.keep hd) 0 rfl f2 (fun b hb=>by rw [hb]; rfl) (e':=⟨.slice (some ⟨g,0,none⟩) p0.length cap,114,u0.take ((i+p2.length) * 2)++(u0.drop (i * 2)).take ((p0.length - i) * 2)++u0.drop ((p0.length+p2.length) * 2),0⟩) (fun b hb=>by
    simp only [blk,aR] at hb;subst hb;exact ⟨f3,f4⟩) (fun b hb=> .inl hb)
   obtain ⟨c3,g1,g2,g3,g4⟩:=Cx.row (c:=c2) (m:=u0.take (i * 2)++u2.take (p2.length * 2)++(u0.drop (i * 2)).take ((p0.length - i) * 2)++u0.drop ((p0.length+p2.length) * 2)) (T:=114) (b:=g) f3 0 f4 (fun o ho=>by omega) 0 (ah _);have O3:=Own.set O2 0 rfl g2 (fun b hb=>by rw [hb]; rfl) (e':=es true ac (.slice (some ⟨g,0,none⟩) (p0.length+p2.length) cap) 114 (u0.take (i * 2)++u2.take (p2.length * 2)++(u0.drop (i * 2)).take ((p0.length - i) * 2)++u0.drop ((p0.length+p2.length) * 2)) (p0.take i++p2++p0.drop i)) (fun b hb=>by
    simp only [es,blk,aR] at hb;subst hb;exact ⟨g3,g4⟩) (fun b hb=> .inl hb)
   have hle:=hd.le.trans (f2.le.trans g2.le);have O4:=O3.selD 2 [0] (by kernel_rfl) (by kernel_rfl);refine ⟨_,c3,rfl,by rw [g1,f1],hle,_,_,O4,rfl,by decide,.inr ⟨g,cap,by rw [hrl],by rw [hrl]; exact hg,by unfold maxLen; exact a2,?_⟩,hAR c3 _ hle⟩;rw [hsz,ab,ab,ab,ht0,ht2,htl,aH];omega
 ·cases H
theorem ql (k:Nat):∀v∈gN k,v.oneCell'=true:=fun v hv=>by
 unfold gN Builtin.zeroCells at hv;simp only [tw,List.mem_map] at hv;obtain ⟨a,_,rfl⟩:=hv;have h2:(Value.agg #[.int .i64 0,.slice none 0 0]).cells= #[.int .i64 0,.slice none 0 0]:=rfl;rw [h2];show (#[Value.int .i64 0,Value.slice none 0 0][a % 2]!).oneCell'=true;rcases Nat.mod_two_eq_zero_or_one a with h | h <;> rw [h] <;> rfl
theorem kp {P:Program} {ops:Array Oper} {o:Oper} {a:Act} {w:World} {K:Act→World→Prop} {Q:Exit→Act→World→Prop} {E:Prop}
  (hg:o.guard=none) (d x:Operand) (dT sT:TypeId) (hop:o.op=Op.call { callee:=Callee.builtin Builtin.append,args:= #[d,x],argTypes:= #[dT,sT]})
  (v u:Value) (hd:a.eval d=v) (hx:a.eval x=u) {v':Value} {w':World} (hr:(Builtin.append_ #[dT,sT] o.type #[v,u]).run P w= .ok v' w') (hK:K (a.put o.dst v') w'):
  if Region.wanted o (yielded ops a.tmps)=true then Oper.wp P o a w K Q else E:=by
 have hw:Region.wanted o (yielded ops a.tmps)=true:=by simp [Region.wanted,hg]
 rw [aj hw];unfold Oper.wp;simp [execOp,hop,resolve,invoke,builtin,hd,hx,hr,Result.andThen];exact hK
theorem km {P:Program} (w:World) {ops:Array Oper} {rest:List Oper} {o:Oper} {a:Act} {Q:Exit→Act→World→Prop} (hgd:o.guard=none) (d:Operand) (t:TypeId)
  (ho:o.op= .call { callee:= .builtin .clear,args:= #[d],argTypes:= #[t]}) (v:Value) (hd:a.eval d=v) {v':Value} {w':World}
  (hr:(Builtin.clear_ #[t] o.type #[v]).run P w= .ok v' w') (h:wpList P ops Q rest (a.put o.dst v') w'):wpList P ops Q (o :: rest) a w:=
 wpList_plain hgd fun _ hK=>by
  unfold Oper.wp execOp;simp only [ho,resolve,invoke,builtin,lv,ol,Result.andThen_ok,List.map_toArray,ne,rP,hd,hr];exact hK _ _ h
theorem py {Q:Program} (w:World) (t ty E:TypeId) (g o k c:Nat) (z:Value) (vs:List Value) (T:TypeId) (hk:k≠0)
  (hu:Q.underlying t=some (.slice E)) (hz:∀w,(zeroValue E).run Q w= .ok z w) (hrow:w.heap[g]? = some (.cells vs.toArray T (0,0))) (hl:o+(Builtin.zeroCells z.cells k).toList.length≤vs.length) (h1:∀v∈(Builtin.zeroCells z.cells k).toList,v.oneCell'=true):
  (Builtin.clear_ #[t] ty #[.slice (some ⟨g,o,none⟩) k c]).run Q w= .ok (.tuple #[]) (w.setRow g (vs.take o++(Builtin.zeroCells z.cells k).toList++vs.drop (o+(Builtin.zeroCells z.cells k).toList.length)).toArray):=by
 have hst:=nK Q g o T (Builtin.zeroCells z.cells k).toList 0 vs.toArray w hrow (by simpa using hl) h1;simp only [jh] at hst
 cases k with
 | zero=>exact absurd rfl hk
 | succ k=>
  simp [Builtin.clear_,aZ hu,hz,hst]
set_option maxHeartbeats 4000000 in
set_option maxRecDepth 100000 in
theorem qY {w:World} {g n cap i j:Nat} {vs:List Value} (hrow:w.heap[g]? = some (.cells vs.toArray 114 (0,0)))
  (hij:i < j) (hjn:j≤n) (hnc:n≤cap) (hcap:cap * 2≤vs.length) (hc63:cap≤9223372036854775807) (h1:∀v∈vs.take (n * 2),v.oneCell'=true):
  Calls Tryz.prog 253 #[.slice (some ⟨g,0,none⟩) n cap,.int .i64 i,.int .i64 j] w fun e w'=>
   e= .returned (.slice (some ⟨g,0,none⟩) (i+(n - j)) cap)∧w'=(w.drew.setRow g (vs.take (i * 2)++(vs.drop (j * 2)).take ((n - j) * 2)++vs.drop ((i+(n - j)) * 2)).toArray).setRow g
    (vs.take (i * 2)++(vs.drop (j * 2)).take ((n - j) * 2)++gN (j - i)++vs.drop (n * 2)).toArray:=by
 obtain ⟨ti,hti,hzz⟩:=Option.map_eq_some_iff.1 (show (Tryz.prog.info? 114).map (fun i=>i.size)=some 2 by kernel_rfl);have hul:((vs.drop (j * 2)).take ((n - j) * 2)).length=(n - j) * 2:=by rw [ae,aH]; omega
 have ht:(vs.take (i * 2)).length=i * 2:=by rw [ae]; omega
 obtain ⟨W1,hW1⟩:∃W1,W1=w.drew.setRow g (vs.take (i * 2)++(vs.drop (j * 2)).take ((n - j) * 2)++vs.drop ((i+(n - j)) * 2)).toArray:=⟨_,rfl⟩;have hap:∀ty a k,(∀x v,((vs.drop (j * 2)).take ((n - j) * 2))[x]? = some v→w.drew.cell? (a.add x)=some v)→
   (Builtin.append_ #[46,46] ty #[.slice (some ⟨g,0,none⟩) i cap,.slice (some a) (n - j) k]).run Tryz.prog w.drew= .ok (.slice (some ⟨g,0,none⟩) (i+(n - j)) cap) W1:=fun ty a k hx=>by
  have:=tz (P:=Tryz.prog) w.drew 46 ty 114 ti Tryz.underlying46 hti g i cap vs.toArray hrow a (n - j) k ((vs.drop (j * 2)).take ((n - j) * 2)) (by rw [hul,hzz]) hx (fun v hv=>h1 v (by rw [show (n - j) * 2=n * 2 - j * 2 by omega,←dt] at hv; exact eq hv)) (by omega) (by rw [hzz,hul]; simp; omega);rw [this,hW1,hzz,hul];simp only [List.toList_toArray,ka];rw [show i * 2+(n - j) * 2=(i+(n - j)) * 2 by omega]
 have hr1:W1.heap[g]? = some (.cells (vs.take (i * 2)++(vs.drop (j * 2)).take ((n - j) * 2)++vs.drop ((i+(n - j)) * 2)).toArray 114 (0,0)):=by
  rw [hW1];exact oJ w.drew g vs.toArray _ 114 (0,0) hrow
 have hau:(vs.take (i * 2)++(vs.drop (j * 2)).take ((n - j) * 2)).length=(i+(n - j)) * 2:=by rw [ab,ht,hul]; omega
 have hcl:∀ty c,(Builtin.clear_ #[46] ty #[.slice (some ⟨g,(i+(n - j)) * 2,none⟩) (n - (i+(n - j))) c]).run Tryz.prog W1= .ok (.tuple #[]) (W1.setRow g (vs.take (i * 2)++(vs.drop (j * 2)).take ((n - j) * 2)++gN (j - i)++vs.drop (n * 2)).toArray):=fun ty c=>by
  have hzl:=iq (j - i);unfold gN at hzl;have:=py (Q:=Tryz.prog) W1 46 ty 114 g ((i+(n - j)) * 2) (j - i) c (Value.agg #[.int .i64 0,.slice none 0 0]) _ 114 (by omega) Tryz.underlying46 (fun w=>by kernel_rfl) hr1 (by rw [hzl,ab,hau,aH]; omega) (fun v hv=>by
   exact ql _ v hv)
  rw [hzl] at this;rw [show n - (i+(n - j))=j - i by omega,this]
  congr 3
  rw [←hau,qz,←bu,du,bu,hau,show (i+(n - j)) * 2+(j - i) * 2=n * 2 by omega];rfl
 have hcell:∀(x:Nat) (v:Value),((vs.drop (j * 2)).take ((n - j) * 2))[x]? = some v→w.drew.cell? ((⟨g,j * 2,none⟩:Addr).add x)=some v:=fun x v hx=>by
  rw [cG];rw [aM] at hx;split at hx
  ·rw [cg] at hx;rw [eh w.drew g (j * 2+x) vs.toArray 114 (0,0) hrow,aX];exact hx
  ·cases hx
 have hnil:cap=j→∀(x:Nat) (v:Value),((vs.drop (j * 2)).take ((n - j) * 2))[x]? = some v→w.drew.cell? ((⟨g,0,none⟩:Addr).add x)=some v:=fun e x v hx=>by
  rw [show (n - j) * 2=0 by omega,ba] at hx;cases hx
 have hWW:cap=j→W1=w.drew:=fun e=>by
  rw [hW1,show n - j=0 by omega,lx,ba,bF,jh,fc];exact setRow_self w.drew g vs.toArray _ (0,0) hrow
 have hap1:=fun ty k=>hap ty ⟨g,j * 2,none⟩ k hcell;have hap2:=fun (e:cap=j) ty k=>hap ty ⟨g,0,none⟩ k (hnil e);rw [←hW1];have hmixed:Tryz.prog.follows Departure.mixedOrders=true:=by kernel_rfl
 have z1:¬((i:Int)=(j:Int)):=by omega
 have z2:(0:Int)≤(i:Int):=by omega
 have z3:(i:Int)≤(j:Int):=by omega
 have z4:(j:Int)≤(n:Int):=by omega
 have z5:¬(cap=i+(n - j)):=by omega
 have z6:i≤cap:=by omega
 have z7:j≤cap:=by omega
 have z8:i+(n - j)≤n:=by omega
 have z9:n≤cap:=hnc;have z10:¬(n=i):=by omega
 clear hW1 hul ht hr1 hau hap hcell hnil h1 hti hzz hcap hrow
 by_cases hcj:cap=j
 ·have hap3:=hap2 hcj
  clear hap1 hap2 hWW
  subst hcj;obtain rfl:n=cap:=by omega
  simp only [dJ,jh,lx,ba,bF] at hap3 hcl z5⊢
  go_enter Tryz.func253,Tryz.ntmps253
  go_wp2_with fail
  go_region_law_o (refine kp rfl (.tmp 22) (.tmp 25) 46 46 rfl (.slice (some ⟨g,0,none⟩) i n) (.slice (some ⟨g,0,none⟩) 0 0) (by simp [Act.eval,Act.put]) (by simp [Act.eval,Act.put]) (hap3 _ _) ?_)
  go_wp2_with (at_builtin; refine km _ rfl _ 46 rfl _ rfl (hcl _ _) ?_)
  go_ret
  exact ⟨rfl,by simp only [aB]⟩
 ·clear hap2 hWW
  go_enter Tryz.func253,Tryz.ntmps253
  go_wp2_with fail
  go_region_law_o (refine kp rfl (.tmp 22) (.tmp 25) 46 46 rfl (.slice (some ⟨g,0,none⟩) i cap) (.slice (some ⟨g,j * 2,none⟩) (n - j) (cap - j)) (by simp [Act.eval,Act.put]) (by simp [Act.eval,Act.put]) (hap1 _ _) ?_)
  go_wp2_with (at_builtin; refine km _ rfl _ 46 rfl _ rfl (hcl _ _) ?_)
  go_ret
  exact ⟨rfl,by simp only [aB]⟩
def gl (p0:List aa) (p1 p2:Int):Option (List aa):=if 0≤p1∧p1 < p2∧p2≤p0.length then some (p0.take p1.toNat++p0.drop p2.toNat) else none
theorem lM {c0:Cx} {G:Gm} {F:List En} {v0:Value} {u0:List Value} (p0:List aa) (p1 p2:Int) (O0:Own c0 G (es true ac v0 114 u0 p0 :: F)) (h0:OA ac c0 v0 u0 p0) {r:List aa} (H:gl p0 p1 p2=some r): Calls Tryz.prog 253 #[v0,.int .i64 p1,.int .i64 p2] c0.w (aI c0 fun c v=>∃y1:Value,∃y2:List Value,Own c G (es true ac y1 114 y2 r :: F)∧v=y1∧OA ac c y1 y2 r):=by
 unfold gl at H;split at H
 ·rename_i hc;obtain ⟨hc1,hc2,hc3⟩:=hc;obtain ⟨i,rfl⟩:∃i:Nat,p1=(i:Int):=⟨p1.toNat,by omega⟩;obtain ⟨j,rfl⟩:∃j:Nat,p2=(j:Int):=⟨p2.toNat,by omega⟩;rw [er,er] at H;obtain rfl:=az H;obtain ⟨g,cap,rfl,a1,a2,a3,a4⟩:=h0.some (by omega);have hsz:ac.size=2:=rfl;have hon0:=O0.on 0 rfl g rfl;have o0:=a4.ones (by decide);rw [hsz] at o0 a3;unfold maxLen at a2;have ht0:(u0.take (i * 2)).length=i * 2:=by rw [ae]; omega
  have htl:((u0.drop (j * 2)).take ((p0.length - j) * 2)).length=(p0.length - j) * 2:=by rw [ae,aH]; omega
  have hrl:(p0.take i++p0.drop j).length=i+(p0.length - j):=by
   rw [ab,ae,aH];omega
  have hAR:∀(c:Cx) (ts:List Value),c0.le c→AR ac c (u0.take (i * 2)++(u0.drop (j * 2)).take ((p0.length - j) * 2)++ts) (p0.take i++p0.drop j):=fun c ts hle=>by
   have k0:AR ac c (u0.take (i * 2)) (p0.take i):=(a4.take i).mono hle;have k1:AR ac c ((u0.drop (j * 2)).take ((p0.length - j) * 2)) (p0.drop j):=by
    have:=((a4.drop j).take (p0.length - j)).mono hle;rwa [au (l:=p0.drop j) (by rw [aH]; exact ah _)] at this
   refine AR.more (AR.app k0 ?_ k1) ?_
   ·rw [ht0,ae,cW (by omega),hsz]
   ·rw [hrl,hsz,ab,ht0,htl];omega
  refine (qY (vs:=u0) hon0.1 (by omega) (by omega) a1 a3 (by omega) o0).mono ?_;rintro e w' ⟨rfl,rfl⟩;have hd:=Cx.drew_le c0;obtain ⟨c2,f1,f2,f3,f4⟩:=Cx.row (c:=⟨c0.w.drew,c0.A,c0.t⟩) (l:=u0) (T:=114) (b:=g) (m:=u0.take (i * 2)++(u0.drop (j * 2)).take ((p0.length - j) * 2)++u0.drop ((i+(p0.length - j)) * 2)) hon0.1 0 hon0.2 (fun o ho=>by omega) 0 (ah _);have O2:=Own.set (O0.keep hd) 0 rfl f2 (fun b hb=>by rw [hb]; rfl) (e':=⟨.slice (some ⟨g,0,none⟩) p0.length cap,114,u0.take (i * 2)++(u0.drop (j * 2)).take ((p0.length - j) * 2)++u0.drop ((i+(p0.length - j)) * 2),0⟩) (fun b hb=>by
   simp only [blk,aR] at hb;subst hb;exact ⟨f3,f4⟩) (fun b hb=> .inl hb)
  obtain ⟨c3,g1,g2,g3,g4⟩:=Cx.row (c:=c2) (m:=u0.take (i * 2)++(u0.drop (j * 2)).take ((p0.length - j) * 2)++gN (j - i)++u0.drop (p0.length * 2)) (T:=114) (b:=g) f3 0 f4 (fun o ho=>by omega) 0 (ah _);have O3:=Own.set O2 0 rfl g2 (fun b hb=>by rw [hb]; rfl) (e':=es true ac (.slice (some ⟨g,0,none⟩) (i+(p0.length - j)) cap) 114 (u0.take (i * 2)++(u0.drop (j * 2)).take ((p0.length - j) * 2)++gN (j - i)++u0.drop (p0.length * 2)) (p0.take i++p0.drop j)) (fun b hb=>by
   simp only [es,blk,aR] at hb;subst hb;exact ⟨g3,g4⟩) (fun b hb=> .inl hb)
  have hle:=hd.le.trans (f2.le.trans g2.le);refine ⟨_,c3,rfl,by rw [g1,f1],hle,_,_,O3,rfl,by decide,.inr ⟨g,cap,by rw [hrl],by rw [hrl]; omega,by unfold maxLen; exact a2,?_⟩,?_⟩
  ·rw [hsz,ab,ab,ab,ht0,htl,iq,aH];omega
  ·rw [aB];exact hAR c3 _ hle
 ·cases H
end Go.Proofs.YtclmdpamofdoiaaGreatDoor
namespace Go.Proofs.YtclmdpamofdoiaaGreatDoor
open Go Go.Lt
set_option maxRecDepth 10000
set_option linter.unusedVariables false
attribute [local irreducible] W WL AC
open Tryz
variable {c0:Cx} {G:Gm} {F:List En} {sg:Sto} {v1 v2 v3 v4 v5 v6 v7 v8 v9 v10 v11 v12 v13 v14 v15 v16 v17 v18 v19 v20 v21 v22 v23 v24 v25 v26 v27 v28 v29 v30 v31 v32 v33 v34 v35 v36 v37 v38 v39 v40 v41 v42 v43 v44 v45 v46 v47 v48 v49 v50 v51 v52 v53 v54 v55 v56 v57 v58 v59 v60:Value}
def fG (p0:List aa) (p1:Int) (q0_0:Int):Option (List aa):=
 (di p1).bind fun c=>
 (gk p0 q0_0 c).bind fun d=>
 (slc d 0 (p0.length:Int)).bind fun a=>
 ((idx a (w64 ((p0.length:Int) - 1))).bind fun e=>
 if (e.Kind==2)=true then
 (idx a (w64 ((p0.length:Int) - 1))).bind fun g=>
 (gM a (w64 ((p0.length:Int) - 1)) (⟨0,([]:List Int)⟩:aa)).bind fun b=>
 some (b)
 else
 some (a)).bind fun f=>
 some f
theorem lh {e:Value} {q:List Value} {p:Nat} (b:List aa) (o:Int) (q0_0:Int) (O0:Own c0 G (es true ac e 114 q b :: F)) {r:List aa} (S:OA ac c0 e q b) (m2:∀j u,([I q0_0]:List Value)[j]? = some u→Im c0 p (0+j) u) (H:fG b o q0_0=some r): Calls prog 249 #[e,I o,Q p] c0.w (aI c0 fun c v=>∃t y2,Own c G (es true ac t 114 y2 r :: F)∧v=t∧OA ac c t y2 r):=by
 unfold fG at H;refine en func249 rfl rfl (sr (va (Y) (wln (sr (va (e) (vx (lnO 3 dg S) (va (I (b.length:Int)) (wln (W.seq (rD [] (Kp G0 []) O0 ?_))))))))));intro c3 l3 O4;have p5:Kp G0 [] c3:=Kp.nil0;refine ta 0 (e) (tx 1 (fun c' i0=>l1 u_3 ((mm m2) 0 _ rfl)) (ta 2 (I o) (ta 5 (I (b.length:Int)) (bn H fun s h6 H=>o1 3 (gc 3 (ey O4 o h6) ?_)))));rintro v7 M g1 ⟨_,u8,y,rfl,h9⟩;have k0:Kp G0 [] M:=Kp.nil0;refine ⟨.inr k0,?_⟩;have z:=y.sD 2 [1,0];refine bn H fun b1 U H=>o1 4 (gc 4 (lL b q0_0 s z S.m h9 U) ?_);rintro v19 h i1 ⟨_,m0,A,rfl,X⟩;have l0:Kp G0 [] h:=Kp.nil0;refine ⟨.inr l0,bn H fun c1 Z H=>?_⟩;obtain ⟨v30,a0,g,d⟩:=Own.cutH (k':= .i64) 0 A rfl dg X (by kernel_rfl) Z;refine AC.take 6 (v30) rfl (by kernel_rfl) (by kernel_rfl) (fun c' i0=>(rx (by kernel_rfl) (a0 _))) (ta 7 (v30) (dn (nrm (bn H fun n a x=>W.seqJ (Jn h fun c l=>∃v36 f,Own c G (es true ac v36 114 f n :: F)∧l= [(0,v36)]∧OA ac c v36 f n) ?_ ?_))))
 ·refine sr (va (v30) (va (I (b.length:Int)) (va (I (w64 ((b.length:Int) - 1))) (bn a fun k i a=>vx (ixO dg d i) (va (Qo (sb v30) ((w64 ((b.length:Int) - 1)).toNat * 2)) ?_)))));obtain ⟨y0,b0,j0⟩:=OA.at d i;obtain ⟨v42,rfl,f1⟩:=b0;refine vr (I k.Kind) (rx (by kernel_rfl) (ee u_3 rfl (g.on 0 rfl) (d.blk i) (at1 (j:=0) j0 rfl))) (va (B (k.Kind==2)) (wln (cn a (fun d0 a=>?_) (fun d0 a=>?_))))
  ·refine W.region (va (v30) (va (I (b.length:Int)) (va (I (w64 ((b.length:Int) - 1))) (va (.agg #[I 0,Y]) (bn a fun d1 e0 a=>vx (ixO dg d e0) (bn a fun a1 f0 a=>md (Own.stW (R:=ac) (T:=114) (us:=[I 0,Y]) (x':=(⟨0,([]:List Int)⟩:aa)) (u:= .agg #[I 0,Y]) 0 g (by kernel_rfl) rfl d f0 rfl (by kernel_rfl) ⟨rfl,rfl,trivial⟩ rfl ⟨(Y),rfl,(Sl.nl _ _)⟩) ?_))))));rintro N j1 ⟨o0,D,g0⟩;refine wln ?_;obtain rfl:=si a;exact jn N ⟨v30,o0,D,rfl,g0⟩
  refine W.skip (nrm ?_);obtain rfl:=si a;exact jn h ⟨v30,m0,g,rfl,d⟩
 rintro e_ w_ ⟨P,e1,_,rfl,k1,rfl,v36,f,E,rfl,h0⟩;refine sr (vv (v36) (wln (W.ret ?_)));obtain rfl:=si x;exact r1 (qq P ⟨v36,f,E,rfl,h0⟩)
def ff (p0:List aa) (p1:Int):Option (List aa):=
 (bS (decide (p1 < (p0.length:Int))) ((idx p0 p1).bind fun d=>
 some (d.Kind==3))).bind fun c=>
 if c=true then
 (idx p0 (w64 (p1 - 1))).bind fun e=>
 (gM p0 (w64 (p1 - 1)) (⟨0,([]:List Int)⟩:aa)).bind fun a=>
 (idx a p1).bind fun f=>
 (gM a p1 (⟨0,([]:List Int)⟩:aa)).bind fun b=>
 some b
 else
 some p0
theorem iS {a:Value} {e:List Value} (f:List aa) (b:Int) (o:Own c0 G (es true ac a 114 e f :: F)) {r:List aa} (d:OA ac c0 a e f) (H:ff f b=some r): Calls prog 252 #[a,I b] c0.w (aI c0 fun c v=>∃U,Own c G (es true ac a 114 U r :: F)∧v= .tuple #[]∧OA ac c a U r):=by
 unfold ff at H;refine en func252 rfl rfl (W.seq (bn H fun y E H=>W.join (Jn c0 fun c l=>Own c G (es true ac a 114 e f :: F)∧l= [(0,a),(1,I b),(15,B y)]) ?_ ?_))
 ·clear H;refine W.region (va (I b) (va (a) (vx (lnO 3 dg d) (va (B (decide (b < (f.length:Int)))) ?_))));rcases bo (decide (b < (f.length:Int))) with g | g
  ·have n:=anT g E;refine vb g (wa (a) (wa (I b) (wn (bn n fun h p n=>vx (ixO dg d p) (wa (Qo (sb a) (b.toNat * 2)) (wn ?_))))));obtain ⟨l0,X,Z⟩:=OA.at d p;obtain ⟨v9,rfl,h0⟩:=X;refine vr (I h.Kind) (rx (by kernel_rfl) (ee u_3 rfl (o.on 0 rfl) (d.blk p) (at1 (j:=0) Z rfl))) (wa (B (h.Kind==3)) ?_);obtain rfl:=si n;exact va (B (h.Kind==3)) (wln (jn c0 ⟨o,rfl⟩))
  obtain rfl:=anF g E;exact vb g (pz (pz (pz (va (B false) (wln (jn c0 ⟨o,rfl⟩))))))
 rintro e_ w_ ⟨t,g0,_,rfl,i0,rfl,i,rfl⟩;refine nrm (cn H (fun z H=>?_) (fun z H=>?_))
 ·refine W.region (va (a) (va (I b) (va (I (w64 (b - 1))) (va (a) (va (I b) (vv (.agg #[I 0,Y]) (bn H fun d0 A H=>vx (ixO dg d.m A) (bn H fun a0 D H=>md (Own.stW (R:=ac) (T:=114) (us:=[I 0,Y]) (x':=(⟨0,([]:List Int)⟩:aa)) (u:= .agg #[I 0,Y]) 0 i (by kernel_rfl) rfl d.m D rfl (by kernel_rfl) ⟨rfl,rfl,trivial⟩ rfl ⟨(Y),rfl,(Sl.nl _ _)⟩) ?_))))))));rintro f0 j0 ⟨m0,q,k⟩;refine bn H fun e0 M H=>vx (ixO dg k M) (bn H fun b0 N H=>md (Own.stW (R:=ac) (T:=114) (us:=[I 0,Y]) (x':=(⟨0,([]:List Int)⟩:aa)) (u:= .agg #[I 0,Y]) 0 q (by kernel_rfl) rfl k N rfl (by kernel_rfl) ⟨rfl,rfl,trivial⟩ rfl ⟨(Y),rfl,(Sl.nl _ _)⟩) ?_);rintro x k0 ⟨S,s,P⟩;refine WL.nil ?_;obtain rfl:=si H;exact n0 (qq x ⟨S,s,rfl,P⟩)
 refine W.skip ?_;obtain rfl:=si H;exact n0 (qq t ⟨e,i,rfl,d.m⟩)
def cR (sg:Sto) (p0:Option Nat) (p1:Int) (p2:Int) (p3_0_0:Int):Option (Sto):=
 (bb sg p0).bind fun a=>
 (orE (decide (p1 < 0)) (some (decide (p1≥a)))).bind fun g=>
 (orE g (some (decide (p2 < 1)))).bind fun b=>
 if b=true then
 some sg
 else
 (dA sg p0).bind fun c=>
 (ff c p1).bind fun d=>
 (fG d (ax p2 (w64 (a - p1))) p3_0_0).bind fun e=>
 (cX sg p0 0 e).bind fun f=>
 some f.1
theorem ga {b3_0:Nat} (O0:Own c0 G F) (i:Rel c0 sg G) (hG:Gl [2,4] c0) (h:Option Nat) (a:Int) (d:Int) (p3_0_0:Int) {r:Sto} (t:Pt 0 c0 v1 h) (m3:∀j u,([I p3_0_0]:List Value)[j]? = some u→Im c0 b3_0 (0+j) u) (H:cR sg h a d p3_0_0=some r): Calls prog 248 #[v1,I a,I d,.func (.func 249) #[] #[Q b3_0]] c0.w (aI c0 fun c v=>∃G_:Gm,Own c G_ (F)∧Rel c r G_∧v= .tuple #[]):=by
 unfold cR at H;refine en func248 rfl rfl (sr (va (v1) (bn H fun b h4 H=>cl (bk O0 i h t h4) ?_)));rintro v10 k l9 ⟨q,rfl⟩;refine va (I b) (wln (W.seq (W.seq (bn H fun w0 o H=>bn H fun s g H=>W.join (Jn k fun c l=>Own c G (F)∧l= [(0,v1),(1,I a),(2,I d),(3,.func (.func 249) #[] #[Q b3_0]),(8,I b),(22,B s)]) ?_ ?_))))
 ·clear H;refine W.region (va (I a) (va (B (decide (a < 0))) ?_));rcases bo (decide (a < 0)) with e | e
  ·obtain rfl:=orT e o;refine vb e (pz (ps (va (B true) ?_)));have p:true=true:=rfl;obtain rfl:=orT p g;exact vb p (pz (va (B true) (wln (jn k ⟨q,rfl⟩))))
  have D:=orF e o;refine vb e (wa (I a) (wa (I b) (wa (B (decide (a≥b))) ?_)));obtain rfl:=si D;refine va (B (decide (a≥b))) ?_;rcases bo (decide (a≥b)) with f | f
  ·obtain rfl:=orT f g;exact vb f (pz (va (B true) (wln (jn k ⟨q,rfl⟩))))
  have E:=orF f g;refine vb f (wa (I d) (wa (B (decide (d < 1))) ?_));obtain rfl:=si E;exact va (B (decide (d < 1))) (wln (jn k ⟨q,rfl⟩))
 rintro e_ w_ ⟨X,x0,_,rfl,z0,rfl,n,rfl⟩;refine nrm (cn H (fun a0 H=>?_) (fun a0 H=>?_))
 ·refine W.ret (thr ?_);obtain rfl:=si H;exact r0 (qq X ⟨G,n,i.m,rfl⟩)
 refine W.skip (nrm (sr (va (v1) (bn H fun x b0 H=>cl (eZ n i.m h t.m b0) ?_))));rintro v26 s0 a1 ⟨_,f1,M,rfl,d0⟩;refine va (v26) (wln (sr (va (v26) (va (I a) (bn H fun y e0 H=>cl (iS x a M d0 e0) ?_)))));rintro v44 t0 b1 ⟨g1,N,rfl,f0⟩;refine wln (W.region (va (v1) (va (.func (.func 249) #[] #[Q b3_0]) (va (v26) (va (I d) (va (I b) (va (I a) (va (I (w64 (b - a))) (va (I (ax d (w64 (b - a)))) (bn H fun z g0 H=>cl (lh y (ax d (w64 (b - a))) p3_0_0 N f0 (mm m3) g0) ?_))))))))));rintro v47 u0 c1 ⟨_,h1,P,rfl,h0⟩;obtain ⟨v0,j0,d1,R,i0⟩:=P.frz 0 rfl h0;refine WL.gh j0 (bn H fun q0 k0 H=>cl (ei R i.m (hG.m.le (by decide)) h 0 z t.m i0 k0) ?_);rintro i1 Z e1 ⟨_,A,S,U,rfl,y0⟩;refine WL.nil ?_;obtain rfl:=si H;have T:=S.sD 1 [];exact n0 (qq Z ⟨A,T,U,rfl⟩)
def gA (sg:Sto) (p0:Option Nat) (p1:Int) (p2:Int):Option (Sto):=
 (cR sg p0 p1 p2 p1).bind fun a=>
 some a
theorem mu (j:Own c0 G F) (l:Rel c0 sg G) (hG:Gl [2,4] c0) (d:Option Nat) (a:Int) (b:Int) {r:Sto} (o:Pt 0 c0 v1 d) (H:gA sg d a b=some r): Calls prog 193 #[v1,I a,I b] c0.w (aI c0 fun c v=>∃G_:Gm,Own c G_ (F)∧Rel c r G_∧v= .tuple #[]):=by
 unfold gA at H;refine en func193 rfl rfl (sr (me (bx 3 [I a] j) ?_));rintro v7 t u ⟨n,rfl,k,h⟩;refine wln (W.region (va (v1) (vx (l1 u_3 (h 0 _ rfl)) (va (I b) (va (.func (.func 249) #[] #[Q n]) (bn H fun s p H=>cl (ga k l.m (hG.m.le (by decide)) d a b a o.m h p) ?_))))));rintro v14 g q ⟨i,e,f,rfl⟩;refine WL.nil ?_;obtain rfl:=si H;exact n0 (qq g ⟨i,e,f,rfl⟩)
def fH (p0:List aa) (p1:Int) (q0_0:Int):Option (List aa):=
 (ff p0 (w64 (q0_0+p1))).bind fun d=>
 (gl d q0_0 (w64 (q0_0+p1))).bind fun a=>
 (di p1).bind fun b=>
 (app a b).bind fun c=>
 some c
theorem lj {b:Value} {f:List Value} {e:Nat} (d:List aa) (a:Int) (q0_0:Int) (P:Own c0 G (es true ac b 114 f d :: F)) {r:List aa} (S:OA ac c0 b f d) (g:∀j u,([I q0_0]:List Value)[j]? = some u→Im c0 e (0+j) u) (H:fH d a q0_0=some r): Calls prog 251 #[b,I a,Q e] c0.w (aI c0 fun c v=>∃h N,Own c G (es true ac h 114 N r :: F)∧v=h∧OA ac c h N r):=by
 unfold fH at H;refine en func251 rfl rfl (sr (va (Y) (wln (sr (va (b) (vx (l1 u_3 (g 0 _ rfl)) (va (I a) (va (I (w64 (q0_0+a))) (bn H fun M T H=>cl (iS d (w64 (q0_0+a)) P S T) ?_)))))))));rintro v12 b0 g0 ⟨u5,R,rfl,U⟩;refine wln (sr (va (b) (vx (l1 u_3 ((mm g) 0 _ rfl)) (vx (l1 u_3 ((mm g) 0 _ rfl)) (va (I a) (va (I (w64 (q0_0+a))) (bn H fun X q H=>cl (lM M q0_0 (w64 (q0_0+a)) R U q) ?_)))))));rintro v15 d0 h0 ⟨_,l0,i,rfl,s⟩;refine va (I a) (bn H fun Z t H=>cl (ey i a t) ?_);rintro v25 e0 i0 ⟨_,m0,k,rfl,x⟩;obtain ⟨f0,z,j0,l,y⟩:=k.frz 0 rfl x;refine WL.gh z (bn H fun a0 A H=>me (ap ac (.agg #[I 0,Y]) 32 46 1 l s.m y A dg) ?_);rintro v43 p k0 ⟨E,n,D⟩;refine va (v43) (wln (W.ret ?_));obtain rfl:=si H;have o:=n.sD 2 [1];exact r1 (qq p ⟨v43,E,o,rfl,D⟩)
def cS (sg:Sto) (p0:Option Nat) (p1:Int) (p2:Int) (p3_0_0:Int):Option (Sto):=
 (bb sg p0).bind fun a=>
 (orE (decide (p1 < 0)) (some (decide (p1≥a)))).bind fun g=>
 (orE g (some (decide (p2 < 1)))).bind fun b=>
 if b=true then
 some sg
 else
 (dA sg p0).bind fun c=>
 (ff c p1).bind fun d=>
 (fH d (ax p2 (w64 (a - p1))) p3_0_0).bind fun e=>
 (cX sg p0 0 e).bind fun f=>
 some f.1
theorem gb {b3_0:Nat} (O0:Own c0 G F) (i:Rel c0 sg G) (hG:Gl [2,4] c0) (h:Option Nat) (a:Int) (d:Int) (p3_0_0:Int) {r:Sto} (t:Pt 0 c0 v1 h) (m3:∀j u,([I p3_0_0]:List Value)[j]? = some u→Im c0 b3_0 (0+j) u) (H:cS sg h a d p3_0_0=some r): Calls prog 248 #[v1,I a,I d,.func (.func 251) #[] #[Q b3_0]] c0.w (aI c0 fun c v=>∃G_:Gm,Own c G_ (F)∧Rel c r G_∧v= .tuple #[]):=by
 unfold cS at H;refine en func248 rfl rfl (sr (va (v1) (bn H fun b h4 H=>cl (bk O0 i h t h4) ?_)));rintro v10 k l9 ⟨q,rfl⟩;refine va (I b) (wln (W.seq (W.seq (bn H fun w0 o H=>bn H fun s g H=>W.join (Jn k fun c l=>Own c G (F)∧l= [(0,v1),(1,I a),(2,I d),(3,.func (.func 251) #[] #[Q b3_0]),(8,I b),(22,B s)]) ?_ ?_))))
 ·clear H;refine W.region (va (I a) (va (B (decide (a < 0))) ?_));rcases bo (decide (a < 0)) with e | e
  ·obtain rfl:=orT e o;refine vb e (pz (ps (va (B true) ?_)));have p:true=true:=rfl;obtain rfl:=orT p g;exact vb p (pz (va (B true) (wln (jn k ⟨q,rfl⟩))))
  have D:=orF e o;refine vb e (wa (I a) (wa (I b) (wa (B (decide (a≥b))) ?_)));obtain rfl:=si D;refine va (B (decide (a≥b))) ?_;rcases bo (decide (a≥b)) with f | f
  ·obtain rfl:=orT f g;exact vb f (pz (va (B true) (wln (jn k ⟨q,rfl⟩))))
  have E:=orF f g;refine vb f (wa (I d) (wa (B (decide (d < 1))) ?_));obtain rfl:=si E;exact va (B (decide (d < 1))) (wln (jn k ⟨q,rfl⟩))
 rintro e_ w_ ⟨X,x0,_,rfl,z0,rfl,n,rfl⟩;refine nrm (cn H (fun a0 H=>?_) (fun a0 H=>?_))
 ·refine W.ret (thr ?_);obtain rfl:=si H;exact r0 (qq X ⟨G,n,i.m,rfl⟩)
 refine W.skip (nrm (sr (va (v1) (bn H fun x b0 H=>cl (eZ n i.m h t.m b0) ?_))));rintro v26 s0 a1 ⟨_,f1,M,rfl,d0⟩;refine va (v26) (wln (sr (va (v26) (va (I a) (bn H fun y e0 H=>cl (iS x a M d0 e0) ?_)))));rintro v44 t0 b1 ⟨g1,N,rfl,f0⟩;refine wln (W.region (va (v1) (va (.func (.func 251) #[] #[Q b3_0]) (va (v26) (va (I d) (va (I b) (va (I a) (va (I (w64 (b - a))) (va (I (ax d (w64 (b - a)))) (bn H fun z g0 H=>cl (lj y (ax d (w64 (b - a))) p3_0_0 N f0 (mm m3) g0) ?_))))))))));rintro v47 u0 c1 ⟨_,h1,P,rfl,h0⟩;obtain ⟨v0,j0,d1,R,i0⟩:=P.frz 0 rfl h0;refine WL.gh j0 (bn H fun q0 k0 H=>cl (ei R i.m (hG.m.le (by decide)) h 0 z t.m i0 k0) ?_);rintro i1 Z e1 ⟨_,A,S,U,rfl,y0⟩;refine WL.nil ?_;obtain rfl:=si H;have T:=S.sD 1 [];exact n0 (qq Z ⟨A,T,U,rfl⟩)
def gE (sg:Sto) (p0:Option Nat) (p1:Int) (p2:Int):Option (Sto):=
 (cS sg p0 p1 p2 p1).bind fun a=>
 some a
theorem mv (j:Own c0 G F) (l:Rel c0 sg G) (hG:Gl [2,4] c0) (d:Option Nat) (a:Int) (b:Int) {r:Sto} (o:Pt 0 c0 v1 d) (H:gE sg d a b=some r): Calls prog 194 #[v1,I a,I b] c0.w (aI c0 fun c v=>∃G_:Gm,Own c G_ (F)∧Rel c r G_∧v= .tuple #[]):=by
 unfold gE at H;refine en func194 rfl rfl (sr (me (bx 3 [I a] j) ?_));rintro v7 t u ⟨n,rfl,k,h⟩;refine wln (W.region (va (v1) (vx (l1 u_3 (h 0 _ rfl)) (va (I b) (va (.func (.func 251) #[] #[Q n]) (bn H fun s p H=>cl (gb k l.m (hG.m.le (by decide)) d a b a o.m h p) ?_))))));rintro v14 g q ⟨i,e,f,rfl⟩;refine WL.nil ?_;obtain rfl:=si H;exact n0 (qq g ⟨i,e,f,rfl⟩)
def fS (p0:Int) (p1:Int) (p2:Int) (p3:Int):Option (ak):=
 (dI (⟨p0,p1,false⟩:ak) p2 p3).bind fun a=>
 some a
theorem jY (j:Own c0 G F) (b:Int) (d:Int) (e:Int) (f:Int) {r:ak} (H:fS b d e f=some r): Calls prog 121 #[I b,I d,I e,I f] c0.w (aI c0 fun c v=>Own c G (F)∧v= .agg #[I r.Row,I r.Col,B r.Pending]):=by
 unfold fS at H;refine en func121 rfl rfl (sr (me (al 29 [I 0,I 0,B false] j) ?_));rintro v4 s t ⟨q,rfl,k⟩;refine wln (sr (va (I b) (va (I d) (va (.agg #[I b,I d,B false]) (va (I e) (va (I f) (bn H fun a m H=>cl (ce k (⟨b,d,false⟩:ak) e f m) ?_)))))));rintro v11 n o ⟨l,rfl⟩;refine md (sA 29 [I a.Row,I a.Col,B a.Pending] 0 l ⟨rfl,rfl,rfl,trivial⟩) ?_;rintro h p g;refine wln (W.ret ?_);obtain rfl:=si H;have i:=g.sD 1 [];exact iD (c:=h) (vs:=[I a.Row,I a.Col,B a.Pending]) rfl (by kernel_rfl) (by kernel_rfl) (by kernel_rfl) (g.on 0 rfl _ rfl).1 ⟨_,h,rfl,rfl,pt,i,rfl⟩
def kY (p0:List aa) (p1:Int):Option (List aa):=
 (slc p0 0 p1).bind fun a=>
 ((bS (decide (p1 > 0)) ((idx a (w64 (p1 - 1))).bind fun d=>
 some (d.Kind==2))).bind fun b=>
 if b=true then
 (idx a (w64 (p1 - 1))).bind fun f=>
 (gM a (w64 (p1 - 1)) (⟨0,([]:List Int)⟩:aa)).bind fun c=>
 some (c)
 else
 some (a)).bind fun e=>
 some e
theorem pB {h:Value} {f:List Value} (x:List aa) (a:Int) (O0:Own c0 G (es true ac h 114 f x :: F)) {r:List aa} (h1:OA ac c0 h f x) (H:kY x a=some r): Calls prog 185 #[h,I a] c0.w (aI c0 fun c v=>∃y y2,Own c G (es true ac y 114 y2 r :: F)∧v=y∧OA ac c y y2 r):=by
 unfold kY at H;refine en func185 rfl rfl (sr (va (Y) (wln (sr (va (h) (vv (I a) (bn H fun d0 h2 H=>?_)))))));obtain ⟨v3,h4,s,i⟩:=Own.cutHM (k2:= .i64) (k':= .i64) 0 O0 rfl dg h1 (by kernel_rfl) h2;refine vr v3 (rx (by kernel_rfl) (h4 _)) (va (v3) (wln (bn H fun q b H8=>W.seqJ (Jn c0 fun c l=>∃v9 g,Own c G (es true ac v9 114 g q :: F)∧l= [(0,v9)]∧OA ac c v9 g q) ?_ ?_)))
 ·refine W.seq (bn b fun t p b=>W.join (Jn c0 fun c l=>Own c G (es true ac v3 114 f d0 :: F)∧l= [(0,v3),(1,I a),(19,B t)]) ?_ ?_)
  ·clear b;refine W.region (va (I a) (va (B (decide (a > 0))) ?_));rcases bo (decide (a > 0)) with d | d
   ·have k:=anT d p;refine vb d (wa (v3) (wa (I a) (wa (I (w64 (a - 1))) (wn (bn k fun e n k=>vx (ixO dg i n) (wa (Qo (sb v3) ((w64 (a - 1)).toNat * 2)) (wn ?_)))))));obtain ⟨l0,N,a0⟩:=OA.at i n;obtain ⟨v18,rfl,u0⟩:=N;refine vr (I e.Kind) (rx (by kernel_rfl) (ee u_3 rfl (s.on 0 rfl) (i.blk n) (at1 (j:=0) a0 rfl))) (wa (B (e.Kind==2)) ?_);obtain rfl:=si k;exact va (B (e.Kind==2)) (wln (jn c0 ⟨s,rfl⟩))
   obtain rfl:=anF d p;exact vb d (pz (pz (pz (ps (va (B false) (wln (jn c0 ⟨s,rfl⟩)))))))
  rintro e_ w_ ⟨D,s0,_,rfl,v0,rfl,o,rfl⟩;refine nrm (cn b (fun P b=>?_) (fun P b=>?_))
  ·refine W.region (va (v3) (va (I a) (va (I (w64 (a - 1))) (va (.agg #[I 0,Y]) (bn b fun q0 S b=>vx (ixO dg i.m S) (bn b fun o0 U b=>md (Own.stW (R:=ac) (T:=114) (us:=[I 0,Y]) (x':=(⟨0,([]:List Int)⟩:aa)) (u:= .agg #[I 0,Y]) 0 o (by kernel_rfl) rfl i.m U rfl (by kernel_rfl) ⟨rfl,rfl,trivial⟩ rfl ⟨(Y),rfl,(Sl.nl _ _)⟩) ?_))))));rintro E w0 ⟨b0,z,X⟩;refine wln ?_;obtain rfl:=si b;exact jn E ⟨v3,b0,z,rfl,X⟩
  refine W.skip (nrm ?_);obtain rfl:=si b;exact jn D ⟨v3,f,o,rfl,i.m⟩
 rintro e_ w_ ⟨M,t0,_,rfl,x0,rfl,v9,g,A,rfl,Z⟩;refine sr (vv (v9) (wln (W.ret ?_)));obtain rfl:=si H8;exact r1 (qq M ⟨v9,g,A,rfl,Z⟩)
def mq (sg:Sto) (p0:List aa):Option (Sto×(Option Nat)):=
 (mo sg p0).bind fun a=>
 if (!a.2.2.isNil)=true then
 some (a.1,(none:Option Nat))
 else
 some (a.1,a.2.1)
theorem qs (l:Own c0 G F) (m:Rel c0 sg G) (hG:Gl [2,4] c0) (f:List aa) {r:Sto×(Option Nat)} (o:Sl ac c0 v1 f) (H:mq sg f=some r): Calls prog 186 #[v1] c0.w (aI c0 fun c v=>∃k,∃G_:Gm,Own c G_ (F)∧Rel c r.1 G_∧v=k∧Pt 0 c k r.2):=by
 unfold mq at H;refine en func186 rfl rfl (sr (va (.pointer none) (wln (sr (va (v1) (bn H fun j p H=>cl (qp l m (hG.le (by decide)) f o p) ?_))))));rintro v13 e t ⟨v4,v6,g,h,d,rfl,q,s⟩;refine va (.tuple #[v4,v6]) (va (v4) (va (v6) (va (v4) (va (v6) (wln (W.seq (sr (va (v6) (vr (B (!j.2.2.isNil)) (by rcases (s).cs with ⟨a,b⟩ | ⟨n,a,b⟩ | ⟨n,a,b⟩ <;> (subst a; rw [b]; kernel_rfl)) (wln (cn H (fun i H=>?_) (fun i H=>?_))))))))))))
 ·refine sr (va (.pointer none) (wln (W.ret (thr ?_))));obtain rfl:=si H;exact r1 (qq e ⟨(.pointer none),g,h,d,rfl,rfl⟩)
 refine W.skip (nrm (sr (vv (v4) (wln (W.ret ?_)))));obtain rfl:=si H;exact r1 (qq e ⟨v4,g,h,d,rfl,q⟩)
def iJ (sg:Sto) (p0:Option Nat) (p1:Int):Option (Sto×(Option Nat)):=
 if p0.isNone=true then
 some (sg,(none:Option Nat))
 else
 (dA sg p0).bind fun c=>
 (bb sg p0).bind fun d=>
 (kY c (ax (aD 1 (ax p1 1024)) d)).bind fun a=>
 (di (w64 ((aD 1 (ax p1 1024)) - (a.length:Int)))).bind fun e=>
 (app a e).bind fun f=>
 (mq sg f).bind fun b=>
 some (b.1,b.2)
theorem ns (o:Own c0 G F) (f:Rel c0 sg G) (hG:Gl [2,4] c0) (b:Option Nat) (a:Int) {r:Sto×(Option Nat)} (j:Pt 0 c0 v1 b) (H:iJ sg b a=some r): Calls prog 120 #[v1,I a] c0.w (aI c0 fun c v=>∃y1,∃G_:Gm,Own c G_ (F)∧Rel c r.1 G_∧v=y1∧Pt 0 c y1 r.2):=by
 unfold iJ at H;refine en func120 rfl rfl (sr (va (.pointer none) (wln (W.seq (sr (va (v1) (vr (B b.isNone) (by rcases (j).cs with ⟨g,i⟩ | ⟨b_,g,i⟩ <;> (subst g; rw [i]; kernel_rfl)) (wln (cn H (fun h3 H=>?_) (fun h3 H=>?_))))))))))
 ·refine sr (va (.pointer none) (wln (W.ret (thr ?_))));obtain rfl:=si H;exact r1 (qq c0 ⟨(.pointer none),G,o,f,rfl,rfl⟩)
 refine W.skip (nrm (sr (va (I a) (va (I (ax a 1024)) (vv (I (aD 1 (ax a 1024))) (wln (sr (va (v1) (bn H fun k h4 H=>cl (eZ o f b j h4) ?_)))))))));rintro v5 k0 u0 ⟨_,u6,O9,rfl,h7⟩;refine va (I (aD 1 (ax a 1024))) (va (v1) (bn H fun d E H=>cl (bk O9 f.m b j.m E) ?_));rintro v20 l0 v0 ⟨p,rfl⟩;refine va (I (ax (aD 1 (ax a 1024)) d)) (bn H fun e M H=>cl (pB k (ax (aD 1 (ax a 1024)) d) p h7.m M) ?_);rintro v23 m0 w0 ⟨_,c1,q,rfl,h⟩;refine va (v23) (wln (sr (va (v23) (va (I (aD 1 (ax a 1024))) (va (v23) (vx (lnO 3 dg h) (va (I (w64 ((aD 1 (ax a 1024)) - (e.length:Int)))) (bn H fun i0 N H=>cl (ey q (w64 ((aD 1 (ax a 1024)) - (e.length:Int))) N) ?_))))))));rintro v33 o0 x0 ⟨_,d1,s,rfl,P⟩;obtain ⟨q0,S,y0,t,R⟩:=s.frz 0 rfl P;refine WL.gh S (bn H fun l T H=>me (ap ac (.agg #[I 0,Y]) 32 46 1 t h.m R T dg) ?_);rintro v51 s0 z0 ⟨e1,u,U⟩;obtain ⟨t0,Z,a1,x,X⟩:=u.frz 1 rfl U;refine WL.gh Z (bn H fun j0 a0 H=>cl (qs x f.m (hG.m.le (by decide)) l X a0) ?_);rintro v57 D b1 ⟨_,n,y,A,rfl,b0⟩;refine va (v57) (wln (W.ret ?_));obtain rfl:=si H;have z:=y.sD 2 [];exact r1 (qq D ⟨v57,n,z,A,rfl,b0⟩)
def gY (sg:Sto) (p0:Option Nat) (p1:Int) (p2:Int):Option (Sto):=
 (orE p0.isNone ((p0).bind fun u=>
 (sg.place_Pen[u]?).bind fun v=>
 some v.G.isNone)).bind fun t=>
 if t=true then
 some sg
 else
 (p0).bind fun l=>
 (sg.place_Pen[l]?).bind fun e=>
 (bq sg e.G).bind fun o=>
 (aV sg e.G).bind fun p=>
 (dI e.At o p).bind fun b=>
 (iI sg (aD 1 (ax p1 1024)) (aD 1 (ax p2 1024))).bind fun c=>
 (cw (σ:=Int×Sto) (τ:=Sto) (((aD 1 (ax p2 1024)) - 0).toNat+1) (fun a=>
 if (decide (a.1 < (aD 1 (ax p2 1024))))=true then
 ((p0).bind fun m=>
 (a.2.place_Pen[m]?).bind fun n=>
 (bi a.2 n.G (w64 ((aD 0 (w64 ((w64 (b.Row - (aD 1 (ax p2 1024))))+1)))+a.1))).bind fun j=>
 if (!j.isNone)=true then
 (iJ a.2 j (aD 1 (ax p1 1024))).bind fun k=>
 (eY k.1 c.2 a.1 k.2).bind fun q=>
 some (q.1)
 else
 some (a.2)).bind fun s=>
 some (.inl ((w64 (a.1+1)),s))
 else
 some (.inr (a.2))) (0,c.1)).bind fun i=>
 (p0).bind fun d=>
 (i.place_Pen[d]?).bind fun f=>
 (i.set_place_Pen d (⟨c.2,f.At,f.Auto⟩:aU)).bind fun h=>
 (fS (w64 (b.Row - (aD 0 (w64 ((w64 (b.Row - (aD 1 (ax p2 1024))))+1))))) b.Col (aD 1 (ax p1 1024)) (aD 1 (ax p2 1024))).bind fun r=>
 (h.set_place_Pen d (⟨c.2,r,f.Auto⟩:aU)).bind fun g=>
 some g
theorem mK (O0:Own c0 G F) (z:Rel c0 sg G) (hG:Gl [2,4] c0) (p0:Option Nat) (o:Int) (b:Int) {r:Sto} (h2:Pt 2 c0 v1 p0) (H:gY sg p0 o b=some r): Calls prog 75 #[v1,I o,I b] c0.w (aI c0 fun c v=>∃G_:Gm,Own c G_ (F)∧Rel c r G_∧v= .tuple #[]):=by
 unfold gY at H;refine en func75 rfl rfl (W.seq (W.seq (bn H fun q5 h3 H=>W.join (Jn c0 fun c l=>Own c G (F)∧l= [(0,v1),(1,I o),(2,I b),(19,B q5)]) ?_ ?_)))
 ·clear H;refine W.region (va (v1) (vr (B p0.isNone) (by rcases (h2).cs with ⟨t,u⟩ | ⟨b_,t,u⟩ <;> (subst t; rw [u]; kernel_rfl)) ?_));rcases bo (p0.isNone) with h4 | h4
  ·obtain rfl:=orT h4 h3;exact vb h4 (pz (pz (ps (va (B true) (wln (jn c0 ⟨O0,rfl⟩))))))
  have H5:=orF h4 h3;refine vb h4 (wa (v1) (wn (bn H5 fun g8 h8 H5=>?_)));obtain ⟨b6,rfl,h7⟩:=(h2).get h8;refine va (Q b6) (wa (Q b6) (wn (bn H5 fun k2 h9 H5=>?_)));obtain ⟨v10,t5,s5⟩:=Rel.open_place_Pen z h9 h7;refine vx (le1 0 cP (O0.gon t5 0 rfl)) (wn (vr (B k2.G.isNone) (by rcases (s5).cs with ⟨t,u⟩ | ⟨b_,t,u⟩ <;> (subst t; rw [u]; kernel_rfl)) ?_));obtain rfl:=si H5;exact va (B k2.G.isNone) (wln (jn c0 ⟨O0,rfl⟩))
 rintro e_ w_ ⟨c2,f8,_,rfl,Z,rfl,m1,rfl⟩;refine nrm (cn H (fun u5 H=>?_) (fun u5 H=>?_))
 ·refine W.ret (thr ?_);obtain rfl:=si H;exact r0 (qq c2 ⟨G,m1,z.m,rfl⟩)
 refine W.skip (nrm (sr (va (I o) (va (I (ax o 1024)) (va (I (aD 1 (ax o 1024))) (va (I b) (va (I (ax b 1024)) (va (I (aD 1 (ax b 1024))) (va (I (aD 1 (ax o 1024))) (va (I (aD 1 (ax b 1024))) (wln (W.seq (bn H fun i7 v5 H=>bn H fun h w5 H=>bn H fun D g2 H=>bn H fun E x0 H=>bn H fun a X H=>W.join (Jn c2 fun c l=>∃n,Own c G ((Eb n 29 [I a.Row,I a.Col,B a.Pending]) :: F)∧l= [(0,v1),(1,I (aD 1 (ax o 1024))),(2,I (aD 1 (ax b 1024))),(6,Q n)]) ?_ ?_)))))))))))))
 ·clear H;refine rD [] (Kp G []) m1 ?_;intro g5 j2 k0;have f1:Kp G [] g5:=(Kp.nil k0);refine ta 0 (v1) ?_;obtain ⟨s,rfl,y5⟩:=((h2.mono (Z.trans j2))).get v5;refine ta 1 (Q s) (ta 2 (Qo s 1) ?_);obtain ⟨v31,y0,M⟩:=Rel.open_place_Pen (z.mono (Z.trans j2)) w5 y5;refine tkx 3 f1 (fun c' i2 hk=>leN 29 1 [I h.At.Row,I h.At.Col,B h.At.Pending] (hk.gon y0 0 rfl)) (ta 4 (Q s) (ta 5 (Q s) (ta 6 (Q s) (tkx 7 f1 (fun c' i2 hk=>le1 0 cP (hk.gon y0 0 rfl)) (ta 9 (Q s) (ta 10 (Q s) (ta 11 (Q s) (tkx 12 f1 (fun c' i2 hk=>le1 0 cP (hk.gon y0 0 rfl)) (mn2 8 15 ?_ ?_)))))))))
  ·refine gc 8 (br k0 z.m h.G M g2) ?_;rintro v39 h5 i8 ⟨l0,rfl⟩;have z5:Kp G [] h5:=(Kp.nil l0);refine ⟨.inr z5,mn2 13 15 ?_ ?_⟩
   ·refine gc 13 (aL l0 z.m h.G M.m x0) ?_;rintro v46 i5 j8 ⟨m0,rfl⟩;have a6:Kp G [] i5:=(Kp.nil m0);refine ⟨.inr a6,mn2 14 15 ?_ ?_⟩
    ·refine gc 14 (ce m0 h.At D E X) ?_;rintro v53 j5 k8 ⟨n1,rfl⟩;have c6:Kp G [] j5:=(Kp.nil n1);refine ⟨.inr c6,o1 15 (gm 15 (al 29 [I 0,I 0,B false] n1) ?_)⟩;rintro v58 k5 l8 ⟨a5,rfl,q1⟩;have d6:Kp G [] k5:=(Kp.nil q1);refine ⟨.inr d6,o1 16 (gD 16 (sA 29 [I a.Row,I a.Col,B a.Pending] 0 q1 ⟨rfl,rfl,rfl,trivial⟩) ?_)⟩;rintro d2 m8 s1;have e6:Kp G [] d2:=(Kp.nil s1);exact ⟨.inr e6,dn (nrm (jn d2 ⟨a5,s1,rfl⟩))⟩
    refine gm 15 (al 29 [I 0,I 0,B false] m0) ?_;rintro u8 l5 n8 ⟨c5,rfl,t1⟩;have f6:Kp G [] l5:=(Kp.nil t1);refine ⟨.inr f6,o1 14 (gc 14 (ce t1 h.At D E X) ?_)⟩;rintro v8 m5 o8 ⟨u1,rfl⟩;have g6:Kp G [] m5:=(Kp.nil u1);refine ⟨.inr g6,o1 16 (gD 16 (sA 29 [I a.Row,I a.Col,B a.Pending] 0 u1 ⟨rfl,rfl,rfl,trivial⟩) ?_)⟩;rintro e2 p8 w1;have h6:Kp G [] e2:=(Kp.nil w1);exact ⟨.inr h6,dn (nrm (jn e2 ⟨c5,w1,rfl⟩))⟩
   refine gm 15 (al 29 [I 0,I 0,B false] l0) ?_;rintro w8 n5 q8 ⟨d5,rfl,x1⟩;have i6:Kp G [] n5:=(Kp.nil x1);refine ⟨.inr i6,o1 13 (gc 13 (aL x1 z.m h.G M.m x0) ?_)⟩;rintro x8 o5 r8 ⟨y1,rfl⟩;have j6:Kp G [] o5:=(Kp.nil y1);refine ⟨.inr j6,o1 14 (gc 14 (ce y1 h.At D E X) ?_)⟩;rintro y8 p5 s8 ⟨z1,rfl⟩;have k6:Kp G [] p5:=(Kp.nil z1);refine ⟨.inr k6,o1 16 (gD 16 (sA 29 [I a.Row,I a.Col,B a.Pending] 0 z1 ⟨rfl,rfl,rfl,trivial⟩) ?_)⟩;rintro f2 t8 b2;have l6:Kp G [] f2:=(Kp.nil b2);exact ⟨.inr l6,dn (nrm (jn f2 ⟨d5,b2,rfl⟩))⟩
  refine gm 15 (al 29 [I 0,I 0,B false] k0) ?_;rintro v7 l3 l7 ⟨k3,rfl,d0⟩;have q4:Kp G [] l3:=(Kp.nil d0);refine ⟨.inr q4,o1 8 (gc 8 (br d0 z.m h.G M.m g2) ?_)⟩;rintro w7 m3 m7 ⟨e0,rfl⟩;have r4:Kp G [] m3:=(Kp.nil e0);refine ⟨.inr r4,o1 13 (gc 13 (aL e0 z.m h.G M.m x0) ?_)⟩;rintro x7 n3 n7 ⟨f0,rfl⟩;have s4:Kp G [] n3:=(Kp.nil f0);refine ⟨.inr s4,o1 14 (gc 14 (ce f0 h.At D E X) ?_)⟩;rintro y7 o3 o7 ⟨g0,rfl⟩;have t4:Kp G [] o3:=(Kp.nil g0);refine ⟨.inr t4,o1 16 (gD 16 (sA 29 [I a.Row,I a.Col,B a.Pending] 0 g0 ⟨rfl,rfl,rfl,trivial⟩) ?_)⟩;rintro s0 p7 h0;have u4:Kp G [] s0:=(Kp.nil h0);exact ⟨.inr u4,dn (nrm (jn s0 ⟨k3,h0,rfl⟩))⟩
 rintro e_ w_ ⟨t6,y6,_,rfl,b1,rfl,n,i0,rfl⟩;refine nrm (sr (va (Q n) (vx (le1 0 u_3 (i0.on 0 rfl)) (va (I (aD 1 (ax b 1024))) (va (I (w64 (a.Row - (aD 1 (ax b 1024))))) (va (I (w64 ((w64 (a.Row - (aD 1 (ax b 1024))))+1))) (vv (I (aD 0 (w64 ((w64 (a.Row - (aD 1 (ax b 1024))))+1)))) (wln (sr (va (I (aD 1 (ax o 1024))) (va (I (aD 1 (ax b 1024))) (bn H fun w4 u3 H=>cl (mz i0 z.m (aD 1 (ax o 1024)) (aD 1 (ax b 1024)) u3) ?_))))))))))));rintro q R c1 ⟨_,l2,t2,d3,q6,rfl,y⟩;refine va (q) (wln (W.seq (sr (va (I (aD 1 (ax b 1024))) (va (I 0) (wln (W.block (bn H fun u7 u0 g=>lp u0 (fun f=>Jn R fun c l=>∃G_,Own c G_ ((Eb n 29 [I a.Row,I a.Col,B a.Pending]) :: F)∧l= [(0,v1),(1,I (aD 1 (ax o 1024))),(2,I (aD 1 (ax b 1024))),(6,Q n),(7,I (aD 0 (w64 ((w64 (a.Row - (aD 1 (ax b 1024))))+1)))),(8,q),(50,I (aD 1 (ax b 1024))),(51,I f.1)]∧Rel c f.2 G_) (fun i1 ex e w=>ex= .exit 0∧(Jn R fun c l=>∃G_,Own c G_ ((Eb n 29 [I a.Row,I a.Col,B a.Pending]) :: F)∧l= [(0,v1),(1,I (aD 1 (ax o 1024))),(2,I (aD 1 (ax b 1024))),(6,Q n),(7,I (aD 0 (w64 ((w64 (a.Row - (aD 1 (ax b 1024))))+1)))),(8,q)]∧Rel c i1 G_) e w) ?_ ?_ ?_))))))))
 ·clear g u0;intro f z8 r5 m6 H;revert r5 m6;rintro e_ w_ ⟨t0,z6,_,rfl,o4,rfl,a0,N,rfl,x⟩;refine sr (va (B (decide (f.1 < (aD 1 (ax b 1024))))) (wln (W.seq (cn H (fun v3 H=>?_) (fun v3 H=>?_)))))
  ·refine W.skip (nrm (bn H fun y4 d q2=>W.seqJ (Jn t0 fun c l=>∃G_,Own c G_ ((Eb n 29 [I a.Row,I a.Col,B a.Pending]) :: F)∧l= [(0,v1),(1,I (aD 1 (ax o 1024))),(2,I (aD 1 (ax b 1024))),(6,Q n),(7,I (aD 0 (w64 ((w64 (a.Row - (aD 1 (ax b 1024))))+1)))),(8,q),(50,I (aD 1 (ax b 1024))),(51,I f.1)]∧Rel c y4 G_) ?_ ?_))
   ·refine W.block (sr (vv (I f.1) (wln (sr (va (v1) (bn d fun j7 x3 d=>?_))))));obtain ⟨q0,rfl,w3⟩:=((h2.mono (Z.trans (b1.trans (c1.trans o4))))).get x3;refine vv (Q q0) (bn d fun p4 y3 d=>?_);obtain ⟨z7,a4,z3⟩:=Rel.open_place_Pen x y3 w3;refine vx (le1 0 cP (N.gon a4 0 rfl)) (va (I (aD 0 (w64 ((w64 (a.Row - (aD 1 (ax b 1024))))+1)))) (va (I f.1) (va (I (w64 ((aD 0 (w64 ((w64 (a.Row - (aD 1 (ax b 1024))))+1)))+f.1))) (bn d fun g1 b4 d=>cl (bA N x p4.G (w64 ((aD 0 (w64 ((w64 (a.Row - (aD 1 (ax b 1024))))+1)))+f.1)) z3 b4) ?_))));rintro U p3 q7 ⟨_,j0,rfl,v0⟩;refine va (U) (wln (sr (va (U) (vr (B (!g1.isNone)) (by rcases (v0).cs with ⟨t,u⟩ | ⟨b_,t,u⟩ <;> (subst t; rw [u]; kernel_rfl)) (wln (cn d (fun c4 d=>?_) (fun c4 d=>?_)))))))
    ·refine W.region (va (q) (va (I f.1) (va (U) (va (I (aD 1 (ax o 1024))) (bn d fun x4 d4 d=>cl (ns j0 x.m (hG.m.le (by decide)) g1 (aD 1 (ax o 1024)) v0 d4) ?_)))));rintro a8 u6 r7 ⟨_,n6,u2,e3,rfl,e4⟩;refine bn d fun e8 f4 d=>cl (ja u2 e3 w4.2 f.1 x4.2 y.m e4 f4) ?_;rintro b8 q3 s7 ⟨m2,v2,f3,rfl⟩;refine WL.nil (bkn (nrm ?_));obtain rfl:=si d;exact jn q3 ⟨m2,v2,rfl,f3⟩
    refine W.skip (bkn (nrm ?_));obtain rfl:=si d;exact jn p3 ⟨a0,j0,rfl,x.m⟩
   rintro e_ w_ ⟨s3,a7,_,rfl,t7,rfl,n2,w2,rfl,g3⟩;refine W.region (vv (I (w64 (f.1+1))) (WL.nil ?_));obtain rfl:=si q2;exact ⟨_,rfl,jn s3 ⟨n2,w2,rfl,g3⟩⟩
  refine W.exit (thx ?_);obtain rfl:=si H;exact ⟨_,rfl,rfl,jn t0 ⟨a0,N,rfl,x⟩⟩
 ·exact jn R ⟨l2,t2,rfl,d3⟩
 rintro _ e_ w_ ⟨rfl,v6,b7,_,rfl,A,rfl,o6,x2,rfl,o0⟩;refine bke (nrm (sr (va (v1) (va (q) (bn g fun k7 g4 g=>?_)))));obtain ⟨j,rfl,S⟩:=((h2.mono (Z.trans (b1.trans (c1.trans A))))).get g4;refine vv (Q j) ?_;obtain ⟨p,rfl⟩:=((y.mono A)).form;refine bn g fun i i4 g=>?_;obtain ⟨c8,j4,c7⟩:=Rel.open_place_Pen o0 i4 S;refine md (gC 124 0 (.pointer p) [.pointer p,I i.At.Row,I i.At.Col,B i.At.Pending,B i.Auto] 0 x2 j4 ⟨y.m.one,trivial⟩) ?_;rintro w6 T y2;refine bn g fun z4 l4 g=>?_;obtain ⟨p6,P,i3,k4,r6⟩:=Rel.put_place_Pen y2 (o0.mono T) (E':=[(Eb j 126 [.pointer p,I i.At.Row,I i.At.Col,B i.At.Pending,B i.Auto])]) l4 ⟨j,(.pointer p),(tm S),rfl,(y.mono (A.trans T))⟩;refine wln (W.region (va (Q j) (va (Q n) (vx (le1 0 u_3 (P.on 0 rfl)) (va (I (aD 0 (w64 ((w64 (a.Row - (aD 1 (ax b 1024))))+1)))) (va (I (w64 (a.Row - (aD 0 (w64 ((w64 (a.Row - (aD 1 (ax b 1024))))+1)))))) (va (Qo n 1) (vx (le1 1 u_3 (P.on 0 rfl)) (va (I (aD 1 (ax o 1024))) (va (I (aD 1 (ax b 1024))) (bn g fun k m4 g=>cl (jY P (w64 (a.Row - (aD 0 (w64 ((w64 (a.Row - (aD 1 (ax b 1024))))+1))))) a.Col (aD 1 (ax o 1024)) (aD 1 (ax b 1024)) m4) ?_)))))))))));rintro d8 x6 d1 ⟨z2,rfl⟩;refine va (Q j) (va (Qo j 1) (md (gB 29 1 [I k.Row,I k.Col,B k.Pending] [.pointer p,I k.Row,I k.Col,B k.Pending,B i.Auto] 0 z2 k4 ⟨rfl,rfl,rfl,trivial⟩) ?_));rintro t3 e1 a3;refine bn g fun v4 n4 g=>?_;obtain ⟨o2,b3,j3,d7,s6⟩:=Rel.put_place_Pen a3 (i3.mono (d1.trans e1)) (E':=[(Eb j 126 [.pointer p,I k.Row,I k.Col,B k.Pending,B i.Auto])]) n4 ⟨j,(.pointer p),(tm S),rfl,(y.mono (A.trans (T.trans (d1.trans e1))))⟩;refine WL.nil ?_;obtain rfl:=si g;have c3:=b3.sD 1 [];exact n0 (qq t3 ⟨o2,c3,j3,rfl⟩)
def fZ (p0:Int):Option (Bool):=
 (bS (decide (p0≥2)) (some (decide (p0≤12)))).bind fun a=>
 some a
theorem nY (d:Own c0 G F) (a:Int) {r:Bool} (H:fZ a=some r): Calls prog 162 #[I a] c0.w (aI c0 fun c v=>Own c G (F)∧v=B r):=by
 unfold fZ at H;refine en func162 rfl rfl (sr (va (B false) (wln (W.seq (bn H fun e f H=>W.join (Jn c0 fun c l=>Own c G (F)∧l= [(2,B e)]) ?_ ?_)))))
 ·clear H;refine W.region (va (I a) (va (B (decide (a≥2))) ?_));rcases bo (decide (a≥2)) with b | b
  ·have g:=anT b f;refine vb b (wa (I a) (wa (B (decide (a≤12))) ?_));obtain rfl:=si g;exact vv (B (decide (a≤12))) (wln (jn c0 ⟨d,rfl⟩))
  obtain rfl:=anF b f;exact vb b (pz (vv (B false) (wln (jn c0 ⟨d,rfl⟩))))
 rintro j n ⟨i,k,_,rfl,m,rfl,h,rfl⟩;refine nrm (W.ret ?_);obtain rfl:=si H;exact r1 (qq i ⟨h,rfl⟩)
def eK (p0:aw):Option (Er):=
 (fZ p0.Kind).bind fun d=>
 if (!d)=true then
 some (Er.sent 4)
 else
 (bS (decide (p0.Kind≤4)) (some (p0.Kind != 2))).bind fun a=>
 (bS a ((orE (decide (p0.A < 0)) (some (decide (p0.A > 2)))).bind fun c=>
 some c)).bind fun b=>
 if b=true then
 some (Er.sent 2)
 else
 some Er.nil
theorem kL (S:Own c0 G F) (hG:Gl [2,4] c0) (a:aw) {r:Er} (h2:Sl (RI .u8) c0 v1 a.Bytes) (H:eK a=some r): Calls prog 103 #[.agg #[I a.Kind,I a.A,I a.B,v1]] c0.w (aI c0 fun c v=>∃R,Own c G (F)∧v=R∧RE 350 144 c R r):=by
 unfold eK at H;refine en func103 rfl rfl (sr ?_);obtain ⟨U,X,Z,rfl⟩:=(h2).form;refine me (bx 38 [I a.Kind,I a.A,I a.B,.slice U X Z] S) ?_;rintro v10 c9 P ⟨i,rfl,T,k⟩;refine va (.nilIface) (wln (W.seq (W.block (sr (va (Q i) (vx (l1 u_3 (k 0 _ rfl)) (bn H fun u D H=>cl (nY T a.Kind D) ?_)))))));rintro v17 b l16 ⟨d,rfl⟩;refine vv (B (!u)) (wln (cn H (fun E H=>?_) (fun E H=>?_)))
 ·refine sr ?_;obtain ⟨v19,o⟩:=(hG.mono (P.trans l16)).get 4 (by decide);refine vx (l1 oU o.im) (va (v19) (wln (W.ret (bkr (thr ?_)))));obtain rfl:=si H;exact r1 (qq b ⟨v19,d,rfl,o⟩)
 refine W.seq (bn H fun a0 p H=>bn H fun x j H=>W.join (Jn b fun c l=>Own c G (F)∧l= [(9,B x)]) ?_ ?_)
 ·clear H;refine W.region (va (Q i) (vx (l1 u_3 ((mm k) 0 _ rfl)) (va (B (decide (a.Kind≤4))) ?_)));rcases bo (decide (a.Kind≤4)) with e | e
  ·have y:=anT e p;refine vb e (wa (Q i) (wn (vx (l1 u_3 ((mm k) 0 _ rfl)) (wa (B (a.Kind != 2)) ?_))));obtain rfl:=si y;refine va (B (a.Kind != 2)) ?_;rcases bo (a.Kind != 2) with f | f
   ·have h:=anT f j;refine vb f (wa (Qo i (0+1)) (wn (vx (l1 u_3 ((mm k) 1 _ rfl)) (wa (B (decide (a.A < 0))) (wn (bn h fun b0 q h=>?_))))));rcases bo (decide (a.A < 0)) with g | g
    ·obtain rfl:=orT g q;refine vb g (pz (ps (wa (B true) ?_)));obtain rfl:=si h;exact vv (B true) (wln (jn b ⟨d,rfl⟩))
    have z:=orF g q;refine vb g (wa (Qo i (0+1)) (wn (vx (l1 u_3 ((mm k) 1 _ rfl)) (wa (B (decide (a.A > 2))) (wn ?_)))));obtain rfl:=si z;refine va (B (decide (a.A > 2))) ?_;obtain rfl:=si h;exact vv (B (decide (a.A > 2))) (wln (jn b ⟨d,rfl⟩))
   obtain rfl:=anF f j;exact vb f (pz (pz (pz (pz (vv (B false) (wln (jn b ⟨d,rfl⟩)))))))
  obtain rfl:=anF e p;refine vb e (pz (ps (va (B false) ?_)));have s:false=false:=rfl;obtain rfl:=anF s j;exact vb s (pz (pz (pz (pz (vv (B false) (wln (jn b ⟨d,rfl⟩)))))))
 rintro e_ w_ ⟨n,e0,_,rfl,N,rfl,m,rfl⟩;refine nrm (cn H (fun M H=>?_) (fun M H=>?_))
 ·refine sr ?_;obtain ⟨v38,t⟩:=(hG.mono (P.trans (l16.trans N))).get 2 (by decide);refine vx (l1 oU t.im) (va (v38) (wln (W.ret (bkr (thr ?_)))));obtain rfl:=si H;exact r1 (qq n ⟨v38,m,rfl,t⟩)
 refine W.skip (bkn (nrm (sr (va (.nilIface) (wln (W.ret ?_))))));obtain rfl:=si H;exact r1 (qq n ⟨.nilIface,m,rfl,rfl⟩)
def fY (sg:Sto) (p0:Option Nat) (p1:aw):Option (Sto):=
 (p0).bind fun e=>
 (sg.place_Pen[e]?).bind fun b=>
 (aV sg b.G).bind fun f=>
 if (p1.Kind==10)=true then
 (fX sg b.G 0 f p1.A).bind fun i=>
 some i
 else
 if (p1.Kind==11)=true then
 (fP sg b.G 0 f p1.A).bind fun j=>
 some j
 else
 if (p1.Kind==8)=true then
 (fP sg b.G b.At.Row f p1.A).bind fun g=>
 (g.place_Pen[e]?).bind fun c=>
 (cZ c.At).bind fun d=>
 (g.set_place_Pen e (⟨c.G,d,c.Auto⟩:aU)).bind fun a=>
 some a
 else
 if (p1.Kind==9)=true then
 (fX sg b.G b.At.Row f p1.A).bind fun h=>
 (h.place_Pen[e]?).bind fun c=>
 (cZ c.At).bind fun d=>
 (h.set_place_Pen e (⟨c.G,d,c.Auto⟩:aU)).bind fun a=>
 some a
 else
 (cZ b.At).bind fun d=>
 (sg.set_place_Pen e (⟨b.G,d,b.Auto⟩:aU)).bind fun a=>
 some a
theorem jD (O0:Own c0 G F) (s:Rel c0 sg G) (p0:Option Nat) (f:aw) {r:Sto} (h2:Pt 2 c0 v1 p0) (h4:Sl (RI .u8) c0 v3 f.Bytes) (H:fY sg p0 f=some r): Calls prog 122 #[v1,.agg #[I f.Kind,I f.A,I f.B,v3]] c0.w (aI c0 fun c v=>∃G_:Gm,Own c G_ (F)∧Rel c r G_∧v= .tuple #[]):=by
 unfold fY at H;refine en func122 rfl rfl (sr ?_);obtain ⟨a5,a6,a7,rfl⟩:=(h4).form;refine me (bx 38 [I f.Kind,I f.A,I f.B,.slice a5 a6 a7] O0) ?_;rintro v12 q3 x ⟨t,rfl,O9,q⟩;refine wln (sr (va (v1) (bn H fun z3 y1 H=>?_)));obtain ⟨a,rfl,l⟩:=((h2.mono x)).get y1;refine vv (Q a) (bn H fun e z1 H=>?_);obtain ⟨v17,g,n⟩:=Rel.open_place_Pen (s.mono x) z1 l;refine vx (le1 0 cP (O9.gon g 0 rfl)) (bn H fun i b2 H=>cl (aL O9 s.m e.G n b2) ?_);rintro v26 s3 b0 ⟨k,rfl⟩;refine va (I i) (wln (W.seq (sr (va (Q t) (vx (l1 u_3 ((mm q) 0 _ rfl)) (wln (W.block (sr (vv (B (f.Kind==10)) (wln (cn H (fun c2 H=>?_) (fun c2 H=>?_))))))))))))
 ·refine W.seq (rD [7] (Kp G []) k ?_);intro n1 a4 M;have u2:Kp G [] n1:=(Kp.nil M);refine ta 0 (Q a) (ta 1 (Q a) (ta 2 (Q a) (tkx 3 u2 (fun p h j=>le1 0 cP (j.gon g 0 rfl)) (ta 4 (I i) (ta 5 (Qo t (0+1)) (tx 6 (fun p h=>l1 u_3 ((mm q) 1 _ rfl)) (bn H fun j3 d2 H=>o1 7 (gc 7 (ju M s.m e.G 0 i f.A n.m d2) ?_))))))));rintro v37 q1 b4 ⟨z0,c1,j1,rfl⟩;refine ⟨.inl rfl,dn (nrm (W.ret (bkr (thr ?_))))⟩;obtain rfl:=si H;exact r0 (qq q1 ⟨z0,c1,j1,rfl⟩)
 refine sr (vv (B (f.Kind==11)) (wln (cn H (fun e2 H=>?_) (fun e2 H=>?_))))
 ·refine W.seq (rD [7] (Kp G []) k ?_);intro s1 c4 N;have v2:Kp G [] s1:=(Kp.nil N);refine ta 0 (Q a) (ta 1 (Q a) (ta 2 (Q a) (tkx 3 v2 (fun p h j=>le1 0 cP (j.gon g 0 rfl)) (ta 4 (I i) (ta 5 (Qo t (0+1)) (tx 6 (fun p h=>l1 u_3 ((mm q) 1 _ rfl)) (bn H fun k3 f2 H=>o1 7 (gc 7 (jV N s.m e.G 0 i f.A n.m f2) ?_))))))));rintro v48 t1 d4 ⟨a1,d1,k1,rfl⟩;refine ⟨.inl rfl,dn (nrm (W.ret (bkr (thr ?_))))⟩;obtain rfl:=si H;exact r0 (qq t1 ⟨a1,d1,k1,rfl⟩)
 refine sr (vv (B (f.Kind==8)) (wln (cn H (fun g2 H=>?_) (fun g2 H=>?_))))
 ·refine rD [12] (Kp G []) k ?_;intro u1 e4 P;have g0:Kp G [] u1:=(Kp.nil P);refine ta 0 (Q a) (ta 1 (Q a) (ta 2 (Q a) (tkx 3 g0 (fun p h j=>le1 0 cP (j.gon g 0 rfl)) (ta 4 (Q a) (ta 5 (Q a) (ta 6 (Qo a 1) (ta 7 (Qo a 1) (tkx 8 g0 (fun p h j=>le1 1 u_3 (j.gon g 0 rfl)) (ta 9 (I i) (ta 10 (Qo t (0+1)) (tx 11 (fun p h=>l1 u_3 ((mm q) 1 _ rfl)) (bn H fun l3 i2 H=>o1 12 (gc 12 (jV P s.m e.G e.At.Row i f.A n.m i2) ?_)))))))))))));rintro v59 t3 f4 ⟨n3,R,U,rfl⟩;refine ⟨.inl rfl,dn (bkn (nrm (W.region (vv (Q a) (va (Q a) (va (Qo a 1) (bn H fun d j2 H=>?_)))))))⟩;obtain ⟨D,Z,k2⟩:=Rel.open_place_Pen U j2 (tm l);refine vx (leN 29 1 [I d.At.Row,I d.At.Col,B d.At.Pending] (R.gon Z 0 rfl)) (bn H fun b l2 H=>cl (ej R d.At l2) ?_);rintro j4 u3 d0 ⟨e1,rfl⟩;refine va (Q a) (va (Qo a 1) (md (gB 29 1 [I b.Row,I b.Col,B b.Pending] [D,I b.Row,I b.Col,B b.Pending,B d.Auto] 0 e1 Z ⟨rfl,rfl,rfl,trivial⟩) ?_));rintro w1 e0 f1;refine bn H fun o m2 H=>?_;obtain ⟨b1,g1,m1,y3,p3⟩:=Rel.put_place_Pen f1 (U.mono (d0.trans e0)) (E':=[(Eb a 126 [D,I b.Row,I b.Col,B b.Pending,B d.Auto])]) m2 ⟨a,D,(tm l),rfl,(k2.mono (d0.trans e0))⟩;refine WL.nil ?_;obtain rfl:=si H;exact n0 (qq w1 ⟨b1,g1,m1,rfl⟩)
 refine sr (vv (B (f.Kind==9)) (wln (cn H (fun n2 H=>?_) (fun n2 H=>?_))))
 ·refine rD [12] (Kp G []) k ?_;intro x1 g4 S;have h0:Kp G [] x1:=(Kp.nil S);refine ta 0 (Q a) (ta 1 (Q a) (ta 2 (Q a) (tkx 3 h0 (fun p h j=>le1 0 cP (j.gon g 0 rfl)) (ta 4 (Q a) (ta 5 (Q a) (ta 6 (Qo a 1) (ta 7 (Qo a 1) (tkx 8 h0 (fun p h j=>le1 1 u_3 (j.gon g 0 rfl)) (ta 9 (I i) (ta 10 (Qo t (0+1)) (tx 11 (fun p h=>l1 u_3 ((mm q) 1 _ rfl)) (bn H fun m3 o2 H=>o1 12 (gc 12 (ju S s.m e.G e.At.Row i f.A n.m o2) ?_)))))))))))));rintro k4 w3 i4 ⟨o3,T,X,rfl⟩;refine ⟨.inl rfl,dn (bkn (nrm (W.region (vv (Q a) (va (Q a) (va (Qo a 1) (bn H fun d p2 H=>?_)))))))⟩;obtain ⟨E,a0,q2⟩:=Rel.open_place_Pen X p2 (tm l);refine vx (leN 29 1 [I d.At.Row,I d.At.Col,B d.At.Pending] (T.gon a0 0 rfl)) (bn H fun b s2 H=>cl (ej T d.At s2) ?_);rintro h3 x3 f0 ⟨i1,rfl⟩;refine va (Q a) (va (Qo a 1) (md (gB 29 1 [I b.Row,I b.Col,B b.Pending] [E,I b.Row,I b.Col,B b.Pending,B d.Auto] 0 i1 a0 ⟨rfl,rfl,rfl,trivial⟩) ?_));rintro u0 u k0;refine bn H fun o w0 H=>?_;obtain ⟨i0,l0,s0,d3,x2⟩:=Rel.put_place_Pen k0 (X.mono (f0.trans u)) (E':=[(Eb a 126 [E,I b.Row,I b.Col,B b.Pending,B d.Auto])]) w0 ⟨a,E,(tm l),rfl,(q2.mono (f0.trans u))⟩;refine WL.nil ?_;obtain rfl:=si H;exact n0 (qq u0 ⟨i0,l0,s0,rfl⟩)
 refine W.skip (bkn (nrm (W.region (vv (Q a) (va (Q a) (va (Qo a 1) (vx (leN 29 1 [I e.At.Row,I e.At.Col,B e.At.Pending] (k.gon g 0 rfl)) (bn H fun b x0 H=>cl (ej k e.At x0) ?_))))))));rintro i3 c3 y ⟨m0,rfl⟩;refine va (Q a) (va (Qo a 1) (md (gB 29 1 [I b.Row,I b.Col,B b.Pending] [v17,I b.Row,I b.Col,B b.Pending,B e.Auto] 0 m0 g ⟨rfl,rfl,rfl,trivial⟩) ?_));rintro v0 z o0;refine bn H fun o y0 H=>?_;obtain ⟨j0,q0,t0,e3,y2⟩:=Rel.put_place_Pen o0 (s.mono (x.trans (b0.trans (y.trans z)))) (E':=[(Eb a 126 [v17,I b.Row,I b.Col,B b.Pending,B e.Auto])]) y0 ⟨a,v17,(tm l),rfl,(n.mono (b0.trans (y.trans z)))⟩;refine WL.nil ?_;obtain rfl:=si H;exact n0 (qq v0 ⟨j0,q0,t0,rfl⟩)
def gR (sg:Sto) (p0:Option Nat) (p1:Int):Option (Sto):=
 (p0).bind fun f=>
 (sg.place_Pen[f]?).bind fun b=>
 (bi sg b.G b.At.Row).bind fun a=>
 if (p1==0)=true then
 (gZ sg a b.At.Col).bind fun c=>
 some c
 else
 if (p1==1)=true then
 (iK sg a b.At.Col).bind fun d=>
 some d
 else
 (gQ sg a).bind fun e=>
 some e
theorem lJ (O0:Own c0 G F) (h:Rel c0 sg G) (hG:Gl [2,4] c0) (Z:Option Nat) (d:Int) {r:Sto} (h2:Pt 2 c0 v1 Z) (H:gR sg Z d=some r): Calls prog 190 #[v1,I d] c0.w (aI c0 fun c v=>∃G_:Gm,Own c G_ (F)∧Rel c r G_∧v= .tuple #[]):=by
 unfold gR at H;refine en func190 rfl rfl (W.seq (rD [] (Kp G []) O0 ?_));intro c3 X q;have p5:Kp G [] c3:=(Kp.nil q);refine ta 0 (v1) (bn H fun o0 h8 H=>?_);obtain ⟨a,rfl,h7⟩:=((h2.mono X)).get h8;refine ta 1 (Q a) (ta 2 (Q a) (bn H fun g h9 H=>?_));obtain ⟨v10,f,E⟩:=Rel.open_place_Pen (h.mono X) h9 h7;refine tkx 3 p5 (fun c' U j=>le1 0 cP (j.gon f 0 rfl)) (ta 4 (Q a) (ta 5 (Q a) (ta 6 (Qo a 1) (ta 7 (Qo a 1) (tkx 8 p5 (fun c' U j=>le1 1 u_3 (j.gon f 0 rfl)) (bn H fun e M H=>o1 9 (gc 9 (bA q h.m g.G g.At.Row E M) ?_)))))));rintro v14 y q0 ⟨_,b,rfl,i⟩;have a0:Kp G [] y:=(Kp.nil b);refine ⟨.inr a0,ta 10 (v14) (dn (nrm (sr (va (I d) (wln (W.block (sr (vv (B (d==0)) (wln (cn H (fun N H=>?_) (fun N H=>?_)))))))))))⟩
 ·refine W.region (va (v14) (vv (Q a) (va (Qo a 1) (va (Qo a 2) (vx (le1 2 u_3 (b.gon f 0 rfl)) (bn H fun k0 P H=>cl (mL b h.m (hG.m.le (by decide)) e g.At.Col i P) ?_))))));rintro v30 z s0 ⟨k,o,t,rfl⟩;refine WL.nil (bkn ?_);obtain rfl:=si H;exact n0 (qq z ⟨k,o,t,rfl⟩)
 refine sr (vv (B (d==1)) (wln (cn H (fun R H=>?_) (fun R H=>?_))))
 ·refine W.region (va (v14) (vv (Q a) (va (Qo a 1) (va (Qo a 2) (vx (le1 2 u_3 (b.gon f 0 rfl)) (bn H fun l0 S H=>cl (nt b h.m (hG.m.le (by decide)) e g.At.Col i S) ?_))))));rintro v38 A t0 ⟨l,p,u,rfl⟩;refine WL.nil (bkn ?_);obtain rfl:=si H;exact n0 (qq A ⟨l,p,u,rfl⟩)
 refine W.region (va (v14) (bn H fun m0 T H=>cl (lI b h.m (hG.m.le (by decide)) e i T) ?_));rintro v45 D u0 ⟨n,s,x,rfl⟩;refine WL.nil (bkn ?_);obtain rfl:=si H;exact n0 (qq D ⟨n,s,x,rfl⟩)
def hU (sg:Sto) (p0:Option Nat) (p1:Int):Option (Sto):=
 (gR sg p0 p1).bind fun c=>
 (p0).bind fun b=>
 (c.place_Pen[b]?).bind fun p=>
 (aV c p.G).bind fun d=>
 (cw (σ:=Int×Sto) (τ:=Sto) ((d - 0).toNat+1) (fun a=>
 if (decide (a.1 < d))=true then
 ((orE (p1==2) ((bS (p1==0) ((a.2.place_Pen[b]?).bind fun j=>
 some (decide (a.1 > j.At.Row)))).bind fun f=>
 some f)).bind fun e=>
 (orE e ((bS (p1==1) ((a.2.place_Pen[b]?).bind fun k=>
 some (decide (a.1 < k.At.Row)))).bind fun h=>
 some h)).bind fun g=>
 if g=true then
 (a.2.place_Pen[b]?).bind fun l=>
 (bi a.2 l.G a.1).bind fun m=>
 (gQ a.2 m).bind fun n=>
 some (n)
 else
 some (a.2)).bind fun o=>
 some (.inl ((w64 (a.1+1)),o))
 else
 some (.inr (a.2))) (0,c)).bind fun i=>
 some i
theorem mN (O0:Own c0 G F) (R0:Rel c0 sg G) (hG:Gl [2,4] c0) (p0:Option Nat) (f:Int) {r:Sto} (h2:Pt 2 c0 v1 p0) (H:hU sg p0 f=some r): Calls prog 191 #[v1,I f] c0.w (aI c0 fun c v=>∃G_:Gm,Own c G_ (F)∧Rel c r G_∧v= .tuple #[]):=by
 unfold hU at H;refine en func191 rfl rfl (sr (va (v1) (va (I f) (bn H fun s3 h3 H=>cl (lJ O0 R0 (hG.le (by decide)) p0 f h2 h3) ?_))));rintro v9 c8 l8 ⟨G4,O5,R6,rfl⟩;refine wln (sr (va (v1) (bn H fun f3 j1 H=>?_)));obtain ⟨b,rfl,n⟩:=((h2.mono l8)).get j1;refine vv (Q b) (bn H fun l2 k1 H=>?_);obtain ⟨v14,n1,m1⟩:=Rel.open_place_Pen R6 k1 n;refine vx (le1 0 cP (O5.gon n1 0 rfl)) (bn H fun A q1 H=>cl (aL O5 R6 l2.G m1 q1) ?_);rintro v23 R g3 ⟨x0,rfl⟩;refine va (I 0) (wln (W.block (bn H fun v2 U T=>lp U (fun a=>Jn R fun c l=>∃G_,Own c G_ (F)∧l= [(0,Q b),(1,I f),(12,I A),(13,I a.1)]∧Rel c a.2 G_) (fun S ex e w=>ex= .exit 0∧(Jn R fun c l=>∃G_,Own c G_ (F)∧l= []∧Rel c S G_) e w) ?_ ?_ ?_)))
 ·clear T U;intro a t3 i1 m2 H;revert i1 m2;rintro e_ w_ ⟨i,y2,_,rfl,i3,rfl,D,g,rfl,j⟩;refine sr (va (B (decide (a.1 < A))) (wln (W.seq (cn H (fun t1 H=>?_) (fun t1 H=>?_)))))
  ·refine W.skip (nrm (bn H fun t0 d w0=>W.seqJ (Jn i fun c l=>∃G_,Own c G_ (F)∧l= [(0,Q b),(1,I f),(12,I A),(13,I a.1)]∧Rel c t0 G_) ?_ ?_))
   ·refine W.block (sr (vv (I a.1) (wln (W.seq (bn d fun q2 X d=>bn d fun j0 z d=>W.join (Jn i fun c l=>Own c D (F)∧l= [(0,Q b),(1,I f),(4,I a.1),(12,I A),(13,I a.1),(43,B j0)]) ?_ ?_)))))
    ·clear d;refine W.region (va (I f) (va (B (f==2)) ?_));rcases bo (f==2) with o | o
     ·obtain rfl:=orT o X;refine vb o (pz (pz (pz (pz (pz (ps (va (B true) ?_)))))));have Z:true=true:=rfl;obtain rfl:=orT Z z;exact vb Z (pz (pz (pz (pz (pz (ps (va (B true) (wln (jn i ⟨g,rfl⟩)))))))))
     have u:=orF o X;refine vb o (wa (I f) (wa (B (f==0)) (wn (bn u fun s2 a0 u=>?_))));rcases bo (f==0) with p | p
     ·have E:=anT p a0;refine vb p (wa (I a.1) (wa (Q b) (wa (Q b) (wa (Qo b 1) (wa (Qo b 1) (wn (bn E fun k u1 E=>?_)))))));obtain ⟨v44,w1,c3⟩:=Rel.open_place_Pen j u1 (tm n);refine vx (le1 1 u_3 (g.gon w1 0 rfl)) (wa (B (decide (a.1 > k.At.Row))) (wn ?_));obtain rfl:=si E;refine va (B (decide (a.1 > k.At.Row))) ?_;obtain rfl:=si u;refine va (B (decide (a.1 > k.At.Row))) ?_;rcases bo (decide (a.1 > k.At.Row)) with q | q
      ·obtain rfl:=orT q z;exact vb q (pz (pz (pz (pz (pz (ps (va (B true) (wln (jn i ⟨g,rfl⟩)))))))))
      have x:=orF q z;refine vb q (wa (I f) (wa (B (f==1)) (wn (bn x fun k0 b0 x=>?_))));rcases bo (f==1) with s | s
      ·have M:=anT s b0;refine vb s (wa (I a.1) (wa (Q b) (wa (Q b) (wa (Qo b 1) (wa (Qo b 1) (wn (bn M fun h x1 M=>?_)))))));obtain ⟨v53,y1,d3⟩:=Rel.open_place_Pen j x1 (tm n);refine vx (le1 1 u_3 (g.gon y1 0 rfl)) (wa (B (decide (a.1 < h.At.Row))) (wn ?_));obtain rfl:=si M;refine va (B (decide (a.1 < h.At.Row))) ?_;obtain rfl:=si x;exact va (B (decide (a.1 < h.At.Row))) (wln (jn i ⟨g,rfl⟩))
      obtain rfl:=anF s b0;refine vb s (pz (pz (pz (ps (wa (B false) ?_)))));obtain rfl:=si x;exact va (B false) (wln (jn i ⟨g,rfl⟩))
     obtain rfl:=anF p a0;refine vb p (pz (pz (pz (ps (wa (B false) ?_)))));obtain rfl:=si u;refine va (B false) ?_;have d0:false=false:=rfl;have y:=orF d0 z;refine vb d0 (wa (I f) (wa (B (f==1)) (wn (bn y fun k0 e0 y=>?_))));rcases bo (f==1) with t | t
     ·have N:=anT t e0;refine vb t (wa (I a.1) (wa (Q b) (wa (Q b) (wa (Qo b 1) (wa (Qo b 1) (wn (bn N fun h z1 N=>?_)))))));obtain ⟨n3,b2,e3⟩:=Rel.open_place_Pen j z1 (tm n);refine vx (le1 1 u_3 (g.gon b2 0 rfl)) (wa (B (decide (a.1 < h.At.Row))) (wn ?_));obtain rfl:=si N;refine va (B (decide (a.1 < h.At.Row))) ?_;obtain rfl:=si y;exact va (B (decide (a.1 < h.At.Row))) (wln (jn i ⟨g,rfl⟩))
     obtain rfl:=anF t e0;refine vb t (pz (pz (pz (ps (wa (B false) ?_)))));obtain rfl:=si y;exact va (B false) (wln (jn i ⟨g,rfl⟩))
    rintro e_ w_ ⟨e1,z2,_,rfl,k2,rfl,P,rfl⟩;refine nrm (cn d (fun c2 d=>?_) (fun c2 d=>?_))
    ·refine W.region (vv (Q b) (va (Q b) (bn d fun m0 d2 d=>?_)));obtain ⟨o3,f2,e2⟩:=Rel.open_place_Pen (j.mono k2) d2 (tm n);refine vx (le1 0 cP (P.gon f2 0 rfl)) (va (I a.1) (bn d fun s0 g2 d=>cl (bA P j.m m0.G a.1 e2 g2) ?_));rintro p3 x2 j3 ⟨_,z0,rfl,i2⟩;refine bn d fun w2 j2 d=>cl (lI z0 j.m (hG.m.le (by decide)) s0 i2 j2) ?_;rintro q3 f1 k3 ⟨u0,a1,c1,rfl⟩;refine WL.nil (bkn (nrm ?_));obtain rfl:=si d;exact jn f1 ⟨u0,a1,rfl,c1⟩
    refine W.skip (bkn (nrm ?_));obtain rfl:=si d;exact jn e1 ⟨D,P,rfl,j.m⟩
   rintro e_ w_ ⟨g1,a3,_,rfl,l3,rfl,v0,b1,rfl,d1⟩;refine W.region (vv (I (w64 (a.1+1))) (WL.nil ?_));obtain rfl:=si w0;exact ⟨_,rfl,jn g1 ⟨v0,b1,rfl,d1⟩⟩
  refine W.exit (thx ?_);obtain rfl:=si H;exact ⟨_,rfl,rfl,jn i ⟨D,g,rfl,j⟩⟩
 ·exact jn R ⟨G4,x0,rfl,R6.m⟩
 rintro _ e_ w_ ⟨rfl,h1,b3,_,rfl,m3,rfl,f0,g0,rfl,h0⟩;refine bke ?_;obtain rfl:=si T;exact n0 (qq h1 ⟨f0,g0,h0,rfl⟩)
def iL (sg:Sto) (p0:Option Nat) (p1:aw):Option (Sto):=
 (p0).bind fun e=>
 (sg.place_Pen[e]?).bind fun a=>
 (bi sg a.G a.At.Row).bind fun c=>
 if (p1.Kind==2)=true then
 (bq sg a.G).bind fun f=>
 (aV sg a.G).bind fun g=>
 (fS p1.A p1.B f g).bind fun h=>
 (sg.set_place_Pen e (⟨a.G,h,a.Auto⟩:aU)).bind fun d=>
 some d
 else
 if (p1.Kind==3)=true then
 (gR sg p0 p1.A).bind fun i=>
 some i
 else
 if (p1.Kind==4)=true then
 (hU sg p0 p1.A).bind fun j=>
 some j
 else
 if (p1.Kind==5)=true then
 (hC sg c a.At.Col p1.A).bind fun k=>
 some k
 else
 if (p1.Kind==6)=true then
 (gA sg c a.At.Col p1.A).bind fun l=>
 some l
 else
 if (p1.Kind==7)=true then
 (gE sg c a.At.Col p1.A).bind fun m=>
 some m
 else
 if (p1.Kind==12)=true then
 (sg.set_place_Pen e (⟨a.G,a.At,p1.A != 0⟩:aU)).bind fun b=>
 some b
 else
 some sg
theorem nu (O0:Own c0 G F) (k:Rel c0 sg G) (hG:Gl [2,4] c0) (D:Option Nat) (b:aw) {r:Sto} (h2:Pt 2 c0 v1 D) (h4:Sl (RI .u8) c0 v3 b.Bytes) (H:iL sg D b=some r): Calls prog 123 #[v1,.agg #[I b.Kind,I b.A,I b.B,v3]] c0.w (aI c0 fun c v=>∃G_:Gm,Own c G_ (F)∧Rel c r G_∧v= .tuple #[]):=by
 unfold iL at H;refine en func123 rfl rfl (sr ?_);obtain ⟨a5,a6,a7,rfl⟩:=(h4).form;refine me (bx 38 [I b.Kind,I b.A,I b.B,.slice a5 a6 a7] O0) ?_;rintro v12 e4 q ⟨n,rfl,O9,i⟩;refine wln (W.seq (rD [] (Kp G []) O9 ?_));intro b2 s E;have e0:Kp G [] b2:=(Kp.nil E);refine ta 0 (v1) (bn H fun g4 n2 H=>?_);obtain ⟨a,rfl,x⟩:=((h2.mono (q.trans s))).get n2;refine ta 1 (Q a) (ta 2 (Q a) (bn H fun d o2 H=>?_));obtain ⟨v20,h,o⟩:=Rel.open_place_Pen (k.mono (q.trans s)) o2 x;refine tkx 3 e0 (fun l f j=>le1 0 cP (j.gon h 0 rfl)) (ta 4 (Q a) (ta 5 (Q a) (ta 6 (Qo a 1) (ta 7 (Qo a 1) (tkx 8 e0 (fun l f j=>le1 1 u_3 (j.gon h 0 rfl)) (bn H fun p p2 H=>o1 9 (gc 9 (bA E k.m d.G d.At.Row o p2) ?_)))))));rintro v24 U t ⟨_,g,rfl,y⟩;have d3:Kp G [] U:=(Kp.nil g);refine ⟨.inr d3,ta 10 (v24) (dn (nrm (sr (va (Q n) (vx (l1 u_3 ((mm i) 0 _ rfl)) (wln (W.block (sr (vv (B (b.Kind==2)) (wln (cn H (fun q2 H=>?_) (fun q2 H=>?_))))))))))))⟩
 ·refine rD [18] (Kp G []) g ?_;intro c2 X M;have f0:Kp G [] c2:=(Kp.nil M);refine ta 0 (Q a) (ta 1 (Qo n (0+1)) (tx 2 (fun l f=>l1 u_3 ((mm i) 1 _ rfl)) (ta 3 (Qo n (0+2)) (tx 4 (fun l f=>l1 u_3 ((mm i) 2 _ rfl)) (ta 5 (Q a) (ta 6 (Q a) (ta 7 (Q a) (tkx 8 f0 (fun l f j=>le1 0 cP (j.gon h 0 rfl)) (ta 10 (Q a) (ta 11 (Q a) (ta 12 (Q a) (tkx 13 f0 (fun l f j=>le1 0 cP (j.gon h 0 rfl)) (bn H fun f1 s2 H=>o1 9 (gc 9 (br M k.m d.G o.m s2) ?_))))))))))))));rintro v43 d2 Z ⟨N,rfl⟩;have e3:Kp G [] d2:=(Kp.nil N);refine ⟨.inr e3,bn H fun g1 t2 H=>o1 14 (gc 14 (aL N k.m d.G o.m t2) ?_)⟩;rintro v51 e2 a0 ⟨P,rfl⟩;have f3:Kp G [] e2:=(Kp.nil P);refine ⟨.inr f3,bn H fun e u2 H=>o1 15 (gc 15 (jY P b.A b.B f1 g1 u2) ?_)⟩;rintro v59 f2 b0 ⟨R,rfl⟩;have g3:Kp G [] f2:=(Kp.nil R);refine ⟨.inr g3,ta 16 (Q a) (ta 17 (Qo a 1) (o1 18 (gD 18 (gB 29 1 [I e.Row,I e.Col,B e.Pending] [v20,I e.Row,I e.Col,B e.Pending,B d.Auto] 0 R h ⟨rfl,rfl,rfl,trivial⟩) ?_)))⟩;rintro g2 d0 n1;refine bn H fun h1 v2 H=>?_;obtain ⟨i1,q1,w1,f4,d4⟩:=Rel.put_place_Pen n1 (k.mono (q.trans (s.trans (t.trans (X.trans (Z.trans (a0.trans (b0.trans d0)))))))) (E':=[(Eb a 126 [v20,I e.Row,I e.Col,B e.Pending,B d.Auto])]) v2 ⟨a,v20,(tm x),rfl,(o.mono (t.trans (X.trans (Z.trans (a0.trans (b0.trans d0))))))⟩;refine ⟨.inl rfl,dn (bkn ?_)⟩;obtain rfl:=si H;exact n0 (qq g2 ⟨i1,q1,w1,rfl⟩)
 refine sr (vv (B (b.Kind==3)) (wln (cn H (fun w2 H=>?_) (fun w2 H=>?_))))
 ·refine W.region (va (Q a) (va (Qo n (0+1)) (vx (l1 u_3 ((mm i) 1 _ rfl)) (bn H fun y3 x2 H=>cl (lJ g k.m (hG.m.le (by decide)) D b.A h2.m x2) ?_))));rintro n4 i2 i4 ⟨j1,s1,x1,rfl⟩;refine WL.nil (bkn ?_);obtain rfl:=si H;exact n0 (qq i2 ⟨j1,s1,x1,rfl⟩)
 refine sr (vv (B (b.Kind==4)) (wln (cn H (fun y2 H=>?_) (fun y2 H=>?_))))
 ·refine W.region (va (Q a) (va (Qo n (0+1)) (vx (l1 u_3 ((mm i) 1 _ rfl)) (bn H fun z3 z2 H=>cl (mN g k.m (hG.m.le (by decide)) D b.A h2.m z2) ?_))));rintro o4 j2 j4 ⟨k1,t1,y1,rfl⟩;refine WL.nil (bkn ?_);obtain rfl:=si H;exact n0 (qq j2 ⟨k1,t1,y1,rfl⟩)
 refine sr (vv (B (b.Kind==5)) (wln (cn H (fun a3 H=>?_) (fun a3 H=>?_))))
 ·refine rD [8] (Kp G []) g ?_;intro k2 k4 S;have h3:Kp G [] k2:=(Kp.nil S);refine ta 0 (v24) (ta 1 (Q a) (ta 2 (Q a) (ta 3 (Qo a 1) (ta 4 (Qo a 2) (tkx 5 h3 (fun l f j=>le1 2 u_3 (j.gon h 0 rfl)) (ta 6 (Qo n (0+1)) (tx 7 (fun l f=>l1 u_3 ((mm i) 1 _ rfl)) (bn H fun a4 b3 H=>o1 8 (gc 8 (mM S k.m (hG.m.le (by decide)) p d.At.Col b.A y.m b3) ?_)))))))));rintro p4 l2 l4 ⟨m1,u1,z1,rfl⟩;refine ⟨.inl rfl,dn (bkn ?_)⟩;obtain rfl:=si H;exact n0 (qq l2 ⟨m1,u1,z1,rfl⟩)
 refine sr (vv (B (b.Kind==6)) (wln (cn H (fun c3 H=>?_) (fun c3 H=>?_))))
 ·refine rD [8] (Kp G []) g ?_;intro m2 m4 T;have i3:Kp G [] m2:=(Kp.nil T);refine ta 0 (v24) (ta 1 (Q a) (ta 2 (Q a) (ta 3 (Qo a 1) (ta 4 (Qo a 2) (tkx 5 i3 (fun l f j=>le1 2 u_3 (j.gon h 0 rfl)) (ta 6 (Qo n (0+1)) (tx 7 (fun l f=>l1 u_3 ((mm i) 1 _ rfl)) (bn H fun b4 x0 H=>o1 8 (gc 8 (mu T k.m (hG.m.le (by decide)) p d.At.Col b.A y.m x0) ?_)))))))));rintro w3 t0 s3 ⟨g0,j0,o0,rfl⟩;refine ⟨.inl rfl,dn (bkn ?_)⟩;obtain rfl:=si H;exact n0 (qq t0 ⟨g0,j0,o0,rfl⟩)
 refine sr (vv (B (b.Kind==7)) (wln (cn H (fun y0 H=>?_) (fun y0 H=>?_))))
 ·refine rD [8] (Kp G []) g ?_;intro u0 t3 u;have d1:Kp G [] u0:=(Kp.nil u);refine ta 0 (v24) (ta 1 (Q a) (ta 2 (Q a) (ta 3 (Qo a 1) (ta 4 (Qo a 2) (tkx 5 d1 (fun l f j=>le1 2 u_3 (j.gon h 0 rfl)) (ta 6 (Qo n (0+1)) (tx 7 (fun l f=>l1 u_3 ((mm i) 1 _ rfl)) (bn H fun c4 z0 H=>o1 8 (gc 8 (mv u k.m (hG.m.le (by decide)) p d.At.Col b.A y.m z0) ?_)))))))));rintro x3 v0 u3 ⟨h0,k0,q0,rfl⟩;refine ⟨.inl rfl,dn (bkn ?_)⟩;obtain rfl:=si H;exact n0 (qq v0 ⟨h0,k0,q0,rfl⟩)
 refine sr (vv (B (b.Kind==12)) (wln (cn H (fun a1 H=>?_) (fun a1 H=>?_))))
 ·refine W.region (va (Q a) (va (Qo n (0+1)) (vx (l1 u_3 ((mm i) 1 _ rfl)) (va (B (b.A != 0)) (va (Q a) (va (Qo a 4) (md (gC 4 4 (B (b.A != 0)) [v20,I d.At.Row,I d.At.Col,B d.At.Pending,B (b.A != 0)] 0 g h ⟨rfl,trivial⟩) ?_)))))));rintro w0 z l0;refine bn H fun e1 b1 H=>?_;obtain ⟨i0,m0,s0,p3,l3⟩:=Rel.put_place_Pen l0 (k.mono (q.trans (s.trans (t.trans z)))) (E':=[(Eb a 126 [v20,I d.At.Row,I d.At.Col,B d.At.Pending,B (b.A != 0)])]) b1 ⟨a,v20,(tm x),rfl,(o.mono (t.trans z))⟩;refine WL.nil (bkn ?_);obtain rfl:=si H;exact n0 (qq w0 ⟨i0,m0,s0,rfl⟩)
 refine W.skip (bkn ?_);obtain rfl:=si H;exact n0 (qq U ⟨G,g,k.m,rfl⟩)
def kZ (sg:Sto) (p0:Option Nat) (p1:aw):Option (Sto×Er):=
 (eK p1).bind fun g=>
 if (!g.isNil)=true then
 some (sg,g)
 else
 (orE p0.isNone ((p0).bind fun i=>
 (sg.place_Pen[i]?).bind fun j=>
 some j.G.isNone)).bind fun h=>
 if h=true then
 some (sg,Er.nil)
 else
 (p0).bind fun d=>
 (sg.place_Pen[d]?).bind fun b=>
 (bq sg b.G).bind fun k=>
 (aV sg b.G).bind fun l=>
 (dI b.At k l).bind fun e=>
 (sg.set_place_Pen d (⟨b.G,e,b.Auto⟩:aU)).bind fun f=>
 (f.set_place_Pen d (⟨b.G,(⟨e.Row,e.Col,false⟩:ak),b.Auto⟩:aU)).bind fun a=>
 (if (p1.Kind==8)=true then
 (fY a p0 p1).bind fun c=>
 some (c)
 else
 if (p1.Kind==9)=true then
 (fY a p0 p1).bind fun c=>
 some (c)
 else
 (if (p1.Kind==10)=true then
 some (p1.Kind==10)
 else
 some (p1.Kind==11)).bind fun o=>
 if o=true then
 (fY a p0 p1).bind fun c=>
 some (c)
 else
 (iL a p0 p1).bind fun m=>
 some (m)).bind fun n=>
 some (n,Er.nil)
theorem pC (O0:Own c0 G F) (t:Rel c0 sg G) (hG:Gl [2,4] c0) (s:Option Nat) (e:aw) {r:Sto×Er} (u:Pt 2 c0 v1 s) (P:Sl (RI .u8) c0 v3 e.Bytes) (H:kZ sg s e=some r): Calls prog 76 #[v1,.agg #[I e.Kind,I e.A,I e.B,v3]] c0.w (aI c0 fun c v=>∃y1,∃G_:Gm,Own c G_ (F)∧Rel c r.1 G_∧v=y1∧RE 350 144 c y1 r.2):=by
 unfold kZ at H;refine en func76 rfl rfl (sr ?_);obtain ⟨a5,a6,a7,rfl⟩:=(P).form;refine me (bx 38 [I e.Kind,I e.A,I e.B,.slice a5 a6 a7] O0) ?_;rintro v12 w4 p ⟨b8,rfl,O9,k⟩;refine va (.nilIface) (wln (W.seq (sr (vx (lN 38 k) (bn H fun x3 z2 H=>cl (kL O9 (hG.m.le (by decide)) e P.m z2) ?_)))));rintro v14 D q ⟨_,x,rfl,o0⟩;refine va (v14) (wln (sr (va (v14) (vr (B (!x3.isNil)) (by rcases (o0).cs with ⟨h,i⟩ | ⟨b_,h,i⟩ | ⟨b_,h,i⟩ <;> (subst h; rw [i]; kernel_rfl)) (wln (cn H (fun a3 H=>?_) (fun a3 H=>?_)))))))
 ·refine sr (vv (v14) (wln (W.ret (thr ?_))));obtain rfl:=si H;exact r1 (qq D ⟨v14,G,x,t.m,rfl,o0⟩)
 refine W.skip (nrm (W.seq (W.seq (bn H fun n1 q0 H=>W.join (Jn D fun c l=>Own c G (F)∧l= [(0,v1),(3,Q b8),(19,B n1)]) ?_ ?_))))
 ·clear H;refine W.region (va (v1) (vr (B s.isNone) (by rcases u.m.cs with ⟨h,i⟩ | ⟨b_,h,i⟩ <;> (subst h; rw [i]; kernel_rfl)) ?_));rcases bo (s.isNone) with o | o
  ·obtain rfl:=orT o q0;exact vb o (pz (pz (ps (va (B true) (wln (jn D ⟨x,rfl⟩))))))
  have n:=orF o q0;refine vb o (wa (v1) (wn (bn n fun i4 c3 n=>?_)));obtain ⟨m0,rfl,b3⟩:=((u.mono (p.trans q))).get c3;refine va (Q m0) (wa (Q m0) (wn (bn n fun e0 d3 n=>?_)));obtain ⟨v30,f3,e3⟩:=Rel.open_place_Pen (t.mono (p.trans q)) d3 b3;refine vx (le1 0 cP (x.gon f3 0 rfl)) (wn (vr (B e0.G.isNone) (by rcases (e3).cs with ⟨h,i⟩ | ⟨b_,h,i⟩ <;> (subst h; rw [i]; kernel_rfl)) ?_));obtain rfl:=si n;exact va (B e0.G.isNone) (wln (jn D ⟨x,rfl⟩))
 rintro e_ w_ ⟨s2,y4,_,rfl,U,rfl,h0,rfl⟩;refine nrm (cn H (fun g3 H=>?_) (fun g3 H=>?_))
 ·refine sr (va (.nilIface) (wln (W.ret (thr ?_))));obtain rfl:=si H;exact r1 (qq s2 ⟨.nilIface,G,h0,t.m,rfl,rfl⟩)
 refine W.skip (nrm (W.seq (rD [18] (Kp G []) h0 ?_)));intro t2 X i0;have f0:Kp G [] t2:=(Kp.nil i0);refine ta 0 (v1) (ta 1 (v1) (bn H fun j4 h3 H=>?_));obtain ⟨a,rfl,S⟩:=((u.mono (p.trans (q.trans (U.trans X))))).get h3;refine ta 2 (Q a) (ta 3 (Qo a 1) (bn H fun d i3 H=>?_));obtain ⟨v47,N,M⟩:=Rel.open_place_Pen (t.mono (p.trans (q.trans (U.trans X)))) i3 S;refine tkx 4 f0 (fun c' s0 T=>leN 29 1 [I d.At.Row,I d.At.Col,B d.At.Pending] (T.gon N 0 rfl)) (ta 5 (Q a) (ta 6 (Q a) (ta 7 (Q a) (tkx 8 f0 (fun c' s0 T=>le1 0 cP (T.gon N 0 rfl)) (ta 10 (Q a) (ta 11 (Q a) (ta 12 (Q a) (tkx 13 f0 (fun c' s0 T=>le1 0 cP (T.gon N 0 rfl)) (bn H fun z1 j3 H=>o1 9 (gc 9 (br i0 t.m d.G M j3) ?_))))))))));rintro v56 u2 Z ⟨j0,rfl⟩;have s3:Kp G [] u2:=(Kp.nil j0);refine ⟨.inr s3,bn H fun b2 k3 H=>o1 14 (gc 14 (aL j0 t.m d.G M.m k3) ?_)⟩;rintro c5 v2 a0 ⟨k0,rfl⟩;have t3:Kp G [] v2:=(Kp.nil k0);refine ⟨.inr t3,bn H fun b l3 H=>o1 15 (gc 15 (ce k0 d.At z1 b2 l3) ?_)⟩;rintro d5 w2 b0 ⟨l0,rfl⟩;have u3:Kp G [] w2:=(Kp.nil l0);refine ⟨.inr u3,ta 16 (Q a) (ta 17 (Qo a 1) (o1 18 (gD 18 (gB 29 1 [I b.Row,I b.Col,B b.Pending] [v47,I b.Row,I b.Col,B b.Pending,B d.Auto] 0 l0 N ⟨rfl,rfl,rfl,trivial⟩) ?_)))⟩;rintro x4 d0 k2;refine bn H fun e2 n3 H=>?_;obtain ⟨t4,l2,o2,m3,u4⟩:=Rel.put_place_Pen k2 (t.mono (p.trans (q.trans (U.trans (X.trans (Z.trans (a0.trans (b0.trans d0)))))))) (E':=[(Eb a 126 [v47,I b.Row,I b.Col,B b.Pending,B d.Auto])]) n3 ⟨a,v47,(tm S),rfl,(M.mono (Z.trans (a0.trans (b0.trans d0))))⟩;refine ⟨.inl rfl,dn (nrm (sr (vv (Q a) (va (Qo a 1) (va (Qo a 3) (md (gC 4 3 (B false) [v47,I b.Row,I b.Col,B false,B d.Auto] 0 l2 m3 ⟨rfl,trivial⟩) ?_))))))⟩;rintro E t0 m2;refine bn H fun f2 o3 H=>?_;obtain ⟨g2,y,z,z4,v4⟩:=Rel.put_place_Pen m2 (o2.mono t0) (E':=[(Eb a 126 [v47,I b.Row,I b.Col,B false,B d.Auto])]) o3 ⟨a,v47,(tm S),rfl,(M.mono (Z.trans (a0.trans (b0.trans (d0.trans t0)))))⟩;refine wln (bn H fun c2 f j2=>W.seqJ (Jn E fun c l=>∃G_,Own c G_ (F)∧l= []∧Rel c c2 G_) ?_ ?_)
 ·refine sr (va (Q b8) (vx (l1 u_3 ((mm k) 0 _ rfl)) (wln (W.block (W.seq (W.block (W.seq (W.block (W.block (W.block (W.seq (W.seq (sr (vv (B (e.Kind==8)) (wln (cn f (fun p3 f=>?_) (fun p3 f=>?_)))))))))))))))))
  ·refine W.exit (thx (thx (bke (bkn (bkn (nrm (sr (va (Q a) (vx (lN 38 (mm k)) (bn f fun g0 q3 f=>cl (jD y z s e u.m P.m q3) ?_))))))))));rintro e5 x2 b5 ⟨i2,n2,p2,rfl⟩;refine wln (W.exit (bko rfl (thx (bke (nrm ?_)))));obtain rfl:=si f;exact jn x2 ⟨i2,n2,rfl,p2⟩
  refine W.skip (nrm (W.seq (sr (vv (B (e.Kind==9)) (wln (cn f (fun q1 f=>?_) (fun q1 f=>?_)))))))
  ·refine W.exit (thx (thx (bko rfl (bke (bkn (nrm (sr (va (Q a) (vx (lN 38 (mm k)) (bn f fun g0 s1 f=>cl (jD y z s e u.m P.m s1) ?_))))))))));rintro p4 i1 k4 ⟨u0,y0,c1,rfl⟩;refine wln (W.exit (bko rfl (thx (bke (nrm ?_)))));obtain rfl:=si f;exact jn i1 ⟨u0,y0,rfl,c1⟩
  refine W.skip (nrm (bn f fun d2 j g=>W.seqJ (Jn E fun c l=>Own c g2 (F)∧l= [(0,Q a),(3,Q b8),(48,B d2)]) ?_ ?_))
  ·refine sr (vv (B (e.Kind==10)) (wln (cn j (fun t1 j=>?_) (fun t1 j=>?_))))
   ·refine W.skip (nrm ?_);obtain rfl:=si j;exact jn E ⟨y,rfl⟩
   refine W.region (vv (B (e.Kind==11)) (wln ?_));obtain rfl:=si j;exact jn E ⟨y,rfl⟩
  rintro e_ w_ ⟨e4,f4,_,rfl,l4,rfl,R,rfl⟩;refine cn g (fun u1 g=>?_) (fun u1 g=>?_)
  ·refine W.exit (thx (bko rfl (bko rfl (bke (nrm (sr (va (Q a) (vx (lN 38 (mm k)) (bn g fun g0 w1 g=>cl (jD R z.m s e u.m P.m w1) ?_)))))))));rintro q4 j1 m4 ⟨v0,z0,d1,rfl⟩;refine wln (W.exit (bko rfl (thx (bke (nrm ?_)))));obtain rfl:=si g;exact jn j1 ⟨v0,z0,rfl,d1⟩
  refine W.skip (nrm (W.exit (bko rfl (bko rfl (bko rfl (thx (bke (nrm (sr (va (Q a) (vx (lN 38 (mm k)) (bn g fun s4 x1 g=>cl (nu R z.m (hG.m.le (by decide)) s e u.m P.m x1) ?_))))))))))));rintro r4 k1 n4 ⟨w0,a1,e1,rfl⟩;refine wln (W.exit (bke (nrm ?_)));obtain rfl:=si g;exact jn k1 ⟨w0,a1,rfl,e1⟩
 rintro e_ w_ ⟨m1,g4,_,rfl,o4,rfl,x0,b1,rfl,f1⟩;refine sr (va (.nilIface) (wln (W.ret ?_)));obtain rfl:=si j2;exact r1 (qq m1 ⟨.nilIface,x0,b1,f1,rfl,rfl⟩)
def bJ (p0:aw):Option (Int):=
 (orE (decide (p0.Kind < 2)) (some (decide (p0.Kind > 12)))).bind fun d=>
 if d=true then
 some 5
 else
 (orE (p0.Kind==3) (some (p0.Kind==4))).bind fun a=>
 (bS a ((orE (decide (p0.A < 0)) (some (decide (p0.A > 2)))).bind fun c=>
 some c)).bind fun b=>
 if b=true then
 some 3
 else
 some 0
theorem je (Z:Own c0 G F) (a:aw) {r:Int} (h2:Sl (RI .u8) c0 v1 a.Bytes) (H:bJ a=some r): Calls prog 15 #[.agg #[I a.Kind,I a.A,I a.B,v1]] c0.w (aI c0 fun c v=>Own c G (F)∧v=I r):=by
 unfold bJ at H;refine en func15 rfl rfl (sr ?_);obtain ⟨a3,a4,a5,rfl⟩:=(h2).form;refine me (bx 38 [I a.Kind,I a.A,I a.B,.slice a3 a4 a5] Z) ?_;rintro v10 z l9 ⟨e,rfl,S,k⟩;refine va (I 0) (wln (W.seq (W.seq (bn H fun T s H=>W.join (Jn z fun c l=>Own c G (F)∧l= [(1,Q e),(10,B T)]) ?_ ?_))))
 ·clear H;refine W.region (va (Q e) (vx (l1 u_3 (k 0 _ rfl)) (va (B (decide (a.Kind < 2))) ?_)));rcases bo (decide (a.Kind < 2)) with f | f
  ·obtain rfl:=orT f s;exact vb f (pz (ps (va (B true) (wln (jn z ⟨S,rfl⟩)))))
  have M:=orF f s;refine vb f (wa (Q e) (wn (vx (l1 u_3 (k 0 _ rfl)) (wa (B (decide (a.Kind > 12))) ?_))));obtain rfl:=si M;exact va (B (decide (a.Kind > 12))) (wln (jn z ⟨S,rfl⟩))
 rintro e_ w_ ⟨b,i0,_,rfl,k0,rfl,d,rfl⟩;refine nrm (cn H (fun U H=>?_) (fun U H=>?_))
 ·refine sr (va (I 5) (wln (W.ret (thr ?_))));obtain rfl:=si H;exact r1 (qq b ⟨d,rfl⟩)
 refine W.skip (nrm (W.seq (W.seq (bn H fun e0 t H=>bn H fun D o H=>W.join (Jn b fun c l=>Own c G (F)∧l= [(28,B D)]) ?_ ?_))))
 ·clear H;refine W.region (va (Q e) (vx (l1 u_3 ((mm k) 0 _ rfl)) (va (B (a.Kind==3)) ?_)));rcases bo (a.Kind==3) with g | g
  ·obtain rfl:=orT g t;refine vb g (pz (ps (va (B true) ?_)));have u:true=true:=rfl;have m:=anT u o;refine vb u (wa (Qo e (0+1)) (wn (vx (l1 u_3 ((mm k) 1 _ rfl)) (wa (B (decide (a.A < 0))) (wn (bn m fun E x m=>?_))))));rcases bo (decide (a.A < 0)) with h | h
   ·obtain rfl:=orT h x;refine vb h (pz (ps (wa (B true) ?_)));obtain rfl:=si m;exact va (B true) (wln (jn b ⟨d,rfl⟩))
   have N:=orF h x;refine vb h (wa (Qo e (0+1)) (wn (vx (l1 u_3 ((mm k) 1 _ rfl)) (wa (B (decide (a.A > 2))) (wn ?_)))));obtain rfl:=si N;refine va (B (decide (a.A > 2))) ?_;obtain rfl:=si m;exact va (B (decide (a.A > 2))) (wln (jn b ⟨d,rfl⟩))
  have P:=orF g t;refine vb g (wa (Q e) (wn (vx (l1 u_3 ((mm k) 0 _ rfl)) (wa (B (a.Kind==4)) ?_))));obtain rfl:=si P;refine va (B (a.Kind==4)) ?_;rcases bo (a.Kind==4) with i | i
  ·have n:=anT i o;refine vb i (wa (Qo e (0+1)) (wn (vx (l1 u_3 ((mm k) 1 _ rfl)) (wa (B (decide (a.A < 0))) (wn (bn n fun E y n=>?_))))));rcases bo (decide (a.A < 0)) with j | j
   ·obtain rfl:=orT j y;refine vb j (pz (ps (wa (B true) ?_)));obtain rfl:=si n;exact va (B true) (wln (jn b ⟨d,rfl⟩))
   have R:=orF j y;refine vb j (wa (Qo e (0+1)) (wn (vx (l1 u_3 ((mm k) 1 _ rfl)) (wa (B (decide (a.A > 2))) (wn ?_)))));obtain rfl:=si R;refine va (B (decide (a.A > 2))) ?_;obtain rfl:=si n;exact va (B (decide (a.A > 2))) (wln (jn b ⟨d,rfl⟩))
  obtain rfl:=anF i o;exact vb i (pz (pz (pz (pz (va (B false) (wln (jn b ⟨d,rfl⟩)))))))
 rintro e_ w_ ⟨q,j0,_,rfl,l0,rfl,p,rfl⟩;refine nrm (cn H (fun X H=>?_) (fun X H=>?_))
 ·refine sr (va (I 3) (wln (W.ret (thr ?_))));obtain rfl:=si H;exact r1 (qq q ⟨p,rfl⟩)
 refine W.skip (nrm (sr (va (I 0) (wln (W.ret ?_)))));obtain rfl:=si H;exact r1 (qq q ⟨p,rfl⟩)
def cQ (p0:List Int):Option (Int×Int):=
 (idx p0 0).bind fun k=>
 (dZ k).bind fun b=>
 if (decide (b < 2))=true then
 some (b,b)
 else
 (idx p0 0).bind fun h=>
 (eE h).bind fun c=>
 (cw (σ:=Int×Int×Int) (τ:=Int) ((b - 1).toNat+1) (fun a=>
 (bS (decide (a.2.2 < b)) (some (decide (a.2.2 < (p0.length:Int))))).bind fun d=>
 (bS d ((idx p0 a.2.2).bind fun i=>
 some (decide (i≥a.1)))).bind fun e=>
 (bS e ((idx p0 a.2.2).bind fun j=>
 some (decide (j≤a.2.1)))).bind fun f=>
 if f=true then
 some (.inl (128,191,(w64 (a.2.2+1))))
 else
 some (.inr (a.2.2))) (c.1,c.2,1)).bind fun g=>
 some (g,b)
theorem jt (O0:Own c0 G F) (y:List Int) {r:Int×Int} (f:Sl (RI .u8) c0 v1 y) (H:cQ y=some r): Calls prog 161 #[v1] c0.w (aI c0 fun c v=>Own c G (F)∧v= .tuple #[I r.1,I r.2]):=by
 unfold cQ at H;refine en func161 rfl rfl (sr (vv (I 0) (wln (sr (va (v1) (bn H fun c1 h3 H=>?_))))));obtain ⟨u1,h5,m6⟩:=Sl.at f (aW h3);obtain rfl:=h5;refine vx (ix dX f h3) (vx (l1 u_5 (m6 0 _ rfl)) (bn H fun b h7 H=>cl (iT O0 c1 h7) ?_));rintro v13 j0 u ⟨O9,rfl⟩;refine va (I b) (wln (W.seq (sr (va (I b) (va (B (decide (b < 2))) (wln (cn H (fun o0 H=>?_) (fun o0 H=>?_))))))))
 ·refine sr (vv (I b) (vv (I b) (wln (W.ret (thr ?_)))));obtain rfl:=si H;exact r2 (qq j0 ⟨O9,rfl⟩)
 refine W.skip (nrm (sr (va (v1) (bn H fun e0 N H=>?_))));obtain ⟨i1,q0,x0⟩:=Sl.at (f.mono u) (aW N);obtain rfl:=q0;refine vx (ix dX f.m N) (vx (l1 u_5 (x0 0 _ rfl)) (bn H fun d s0 H=>cl (mx O9 e0 s0) ?_));rintro v25 s a0 ⟨g0,rfl⟩;refine va (.tuple #[.int .u8 d.1,.int .u8 d.2]) (va (.int .u8 d.1) (va (.int .u8 d.2) (va (.int .u8 d.1) (va (.int .u8 d.2) (wln (sr (va (I 1) (wln (W.seq (W.block (bn H fun x P D=>lp P (fun a=>Jn s fun c l=>Own c G (F)∧l= [(0,v1),(4,I b),(5,.int .u8 a.1),(6,.int .u8 a.2.1),(7,I a.2.2)]) (fun A ex e w=>ex= .exit 0∧(Jn s fun c l=>Own c G (F)∧l= [(4,I b),(7,I A)]) e w) ?_ ?_ ?_)))))))))))
 ·clear D P;intro a w1 m0 b1 H;revert m0 b1;rintro e_ w_ ⟨g,n1,_,rfl,b0,rfl,n,rfl⟩;refine W.seq (W.seq (bn H fun e1 R H=>bn H fun f1 t H=>bn H fun d0 o H=>W.join (Jn g fun c l=>Own c G (F)∧l= [(0,v1),(4,I b),(7,I a.2.2),(47,B d0)]) ?_ ?_))
  ·clear H;refine W.region (va (I a.2.2) (va (I b) (va (B (decide (a.2.2 < b))) ?_)));rcases bo (decide (a.2.2 < b)) with h | h
   ·have f0:=anT h R;refine vb h (wa (I a.2.2) (wa (v1) (wn (vx (ln 3 dX f.m) (wa (B (decide (a.2.2 < (y.length:Int)))) ?_)))));obtain rfl:=si f0;refine va (B (decide (a.2.2 < (y.length:Int)))) ?_;rcases bo (decide (a.2.2 < (y.length:Int))) with i | i
    ·have p:=anT i t;refine vb i (wa (v1) (wa (I a.2.2) (wn (bn p fun k S p=>?_))));obtain ⟨j1,u0,y0⟩:=Sl.at (f.mono (u.trans (a0.trans b0))) (aW S);obtain rfl:=u0;refine vx (ix dX f.m S) (wn (vx (l1 u_5 (y0 0 _ rfl)) (wa (.int .u8 a.1) (wa (B (decide (k≥a.1))) ?_))));obtain rfl:=si p;refine va (B (decide (k≥a.1))) ?_;rcases bo (decide (k≥a.1)) with j | j
     ·have q:=anT j o;refine vb j (wa (v1) (wa (I a.2.2) (wn (bn q fun z T q=>?_))));obtain ⟨k1,v0,z0⟩:=Sl.at (f.mono (u.trans (a0.trans b0))) (aW T);obtain rfl:=v0;refine vx (ix dX f.m T) (wn (vx (l1 u_5 (z0 0 _ rfl)) (wa (.int .u8 a.2.1) (wa (B (decide (z≤a.2.1))) ?_))));obtain rfl:=si q;exact va (B (decide (z≤a.2.1))) (wln (jn g ⟨n,rfl⟩))
     obtain rfl:=anF j o;exact vb j (pz (pz (pz (va (B false) (wln (jn g ⟨n,rfl⟩))))))
    obtain rfl:=anF i t;refine vb i (pz (pz (pz (va (B false) ?_))));have U:false=false:=rfl;obtain rfl:=anF U o;exact vb U (pz (pz (pz (va (B false) (wln (jn g ⟨n,rfl⟩))))))
   obtain rfl:=anF h R;refine vb h (pz (pz (va (B false) ?_)));have X:false=false:=rfl;obtain rfl:=anF X t;refine vb X (pz (pz (pz (va (B false) ?_))));have Z:false=false:=rfl;obtain rfl:=anF Z o;exact vb Z (pz (pz (pz (va (B false) (wln (jn g ⟨n,rfl⟩))))))
  rintro e_ w_ ⟨M,p1,_,rfl,s1,rfl,E,rfl⟩;refine nrm (cn H (fun w0 H=>?_) (fun w0 H=>?_))
  ·refine W.skip (nrm (W.block (sr (va (.int .u8 128) (va (.int .u8 191) (wln (W.region (va (I a.2.2) (vv (I (w64 (a.2.2+1))) (WL.nil (bkn ?_)))))))))));obtain rfl:=si H;exact ⟨_,rfl,jn M ⟨E,rfl⟩⟩
  refine W.exit (thx ?_);obtain rfl:=si H;exact ⟨_,rfl,rfl,jn M ⟨E,rfl⟩⟩
 ·exact jn s ⟨g0,rfl⟩
 rintro _ e_ w_ ⟨rfl,k0,q1,_,rfl,t1,rfl,h0,rfl⟩;refine bke (nrm (sr (va (I x) (va (I b) (va (I x) (va (I b) (wln (W.ret ?_))))))));obtain rfl:=si D;exact r2 (qq k0 ⟨h0,rfl⟩)
def eD (p0:List Int):Option (Int):=
 (idx p0 0).bind fun e=>
 (fj e).bind fun f=>
 (slc p0 1 p0.length).bind fun b=>
 (cw (σ:=Int×Int) (τ:=Int) (((b.length:Int) - 0).toNat+1) (fun a=>
 if (decide (a.2 < (b.length:Int)))=true then
 (idx b a.2).bind fun d=>
 some (.inl ((qm .i64 (w64 (a.1 * 2 ^ 6)) (w64 (jS .u8 d 63))),(w64 (a.2+1))))
 else
 some (.inr (a.1))) (f,0)).bind fun c=>
 some (w32 c)
theorem mr (X:Own c0 G F) (R:List Int) {r:Int} (s:Sl (RI .u8) c0 v1 R) (H:eD R=some r): Calls prog 218 #[v1] c0.w (aI c0 fun c v=>Own c G (F)∧v=J r):=by
 unfold eD at H;refine en func218 rfl rfl (sr (va (J 0) (wln (sr (va (v1) (bn H fun T E H=>?_))))));obtain ⟨k0,h5,m6⟩:=Sl.at s (aW E);obtain rfl:=h5;refine vx (ix dX s E) (vx (l1 u_5 (m6 0 _ rfl)) (bn H fun U h7 H=>cl (nq X T h7) ?_));rintro v13 f M ⟨Z,rfl⟩;refine va (I U) (wln (W.seq (sr (va (v1) (bn H fun h y H=>?_)))));obtain ⟨v15,z,g⟩:=jk (k:= .i64) dX (by kernel_rfl) (s.mono M) y;refine vr v15 (rx (by kernel_rfl) (z _)) (vx (ln 3 dX g) (va (I 0) (wln (W.block (bn H fun d p j=>lp p (fun a=>Jn f fun c l=>Own c G (F)∧l= [(3,I a.1),(11,v15),(12,I (h.length:Int)),(13,I a.2)]) (fun i ex e w=>ex= .exit 0∧(Jn f fun c l=>Own c G (F)∧l= [(3,I i)]) e w) ?_ ?_ ?_)))))
 ·clear j p;intro a l0 x S H;revert x S;rintro e_ w_ ⟨o,h0,_,rfl,N,rfl,n,rfl⟩;refine sr (va (B (decide (a.2 < (h.length:Int)))) (wln (W.seq (cn H (fun A H=>?_) (fun A H=>?_)))))
  ·refine W.skip (nrm (W.seq (W.block (sr (bn H fun b q H=>?_)))));obtain ⟨e0,D,P⟩:=Sl.at (g.mono N) (aW q);obtain rfl:=D;refine vx (ix dX g.m q) (vx (l1 u_5 (P 0 _ rfl)) (va (.int .u8 b) (wln (W.region (va (I a.1) (va (I (w64 (a.1 * 2 ^ 6))) (va (.int .u8 b) (va (.int .u8 (jS .u8 b 63)) (va (I (w64 (jS .u8 b 63))) (vv (I (qm .i64 (w64 (a.1 * 2 ^ 6)) (w64 (jS .u8 b 63)))) (WL.nil (bkn (nrm (W.region (vv (I (w64 (a.2+1))) (WL.nil ?_))))))))))))))));obtain rfl:=si H;exact ⟨_,rfl,jn o ⟨n,rfl⟩⟩
  refine W.exit (thx ?_);obtain rfl:=si H;exact ⟨_,rfl,rfl,jn o ⟨n,rfl⟩⟩
 ·exact jn f ⟨Z,rfl⟩
 rintro _ e_ w_ ⟨rfl,u,i0,_,rfl,j0,rfl,t,rfl⟩;refine bke (nrm (sr (va (I d) (vv (J (w32 d)) (wln (W.ret ?_))))));obtain rfl:=si j;exact r1 (qq u ⟨t,rfl⟩)
def eP (p0:List Int) (p1:Int):Option (aY):=
 (cQ p0).bind fun a=>
 if (a.1==0)=true then
 some (⟨65533,p1,1,(w64 (p1+1)),true⟩:aY)
 else
 if (decide (a.1 < a.2))=true then
 some (⟨65533,p1,a.1,(w64 (p1+(ax (w64 (a.1+1)) (p0.length:Int)))),true⟩:aY)
 else
 (slc p0 0 a.1).bind fun b=>
 (eD b).bind fun c=>
 some (⟨c,p1,a.1,(w64 (p1+a.1)),false⟩:aY)
theorem mI (M:Own c0 G F) (d:List Int) (b:Int) {r:aY} (n:Sl (RI .u8) c0 v1 d) (H:eP d b=some r): Calls prog 160 #[v1,I b] c0.w (aI c0 fun c v=>Own c G (F)∧v= .agg #[J r.R,I r.At,I r.Len,I r.Known,B r.Bad]):=by
 unfold eP at H;refine en func160 rfl rfl (sr (me (al 224 [J 0,I 0,I 0,I 0,B false] M) ?_));rintro v6 c5 S ⟨b3,rfl,N⟩;refine wln (sr (va (v1) (bn H fun a P H=>cl (jt N d n.m P) ?_)));rintro v13 T E ⟨l,rfl⟩;refine va (.tuple #[I a.1,I a.2]) (va (I a.1) (va (I a.2) (va (I a.1) (va (I a.2) (wln (W.seq (W.block (sr (va (I a.1) (vv (B (a.1==0)) (wln (cn H (fun u H=>?_) (fun u H=>?_)))))))))))))
 ·refine sr (vv (I b) (va (I (w64 (b+1))) (va (.agg #[J 65533,I b,I 1,I (w64 (b+1)),B true]) (md (sA 224 [J 65533,I b,I 1,I (w64 (b+1)),B true] 0 l ⟨rfl,rfl,rfl,rfl,rfl,trivial⟩) ?_))));rintro i l16 f;refine wln (W.ret (bkr (thr ?_)));obtain rfl:=si H;have p:=f.sD 1 [];exact iD (c:=i) (vs:=[J 65533,I b,I 1,I (w64 (b+1)),B true]) rfl (by kernel_rfl) (by kernel_rfl) (by kernel_rfl) (f.on 0 rfl _ rfl).1 ⟨_,i,rfl,rfl,pt,p,rfl⟩
 refine sr (va (I a.1) (va (I a.2) (vv (B (decide (a.1 < a.2))) (wln (cn H (fun x H=>?_) (fun x H=>?_))))))
 ·refine sr (va (I b) (va (I a.1) (va (I b) (va (I a.1) (va (I (w64 (a.1+1))) (va (v1) (vx (ln 3 dX n.m) (va (I (ax (w64 (a.1+1)) (d.length:Int))) (va (I (w64 (b+(ax (w64 (a.1+1)) (d.length:Int))))) (va (.agg #[J 65533,I b,I a.1,I (w64 (b+(ax (w64 (a.1+1)) (d.length:Int)))),B true]) (md (sA 224 [J 65533,I b,I a.1,I (w64 (b+(ax (w64 (a.1+1)) (d.length:Int)))),B true] 0 l ⟨rfl,rfl,rfl,rfl,rfl,trivial⟩) ?_)))))))))));rintro j X g;refine wln (W.ret (bkr (thr ?_)));obtain rfl:=si H;have q:=g.sD 1 [];exact iD (c:=j) (vs:=[J 65533,I b,I a.1,I (w64 (b+(ax (w64 (a.1+1)) (d.length:Int)))),B true]) rfl (by kernel_rfl) (by kernel_rfl) (by kernel_rfl) (g.on 0 rfl _ rfl).1 ⟨_,j,rfl,rfl,pt,q,rfl⟩
 refine W.skip (bkn (nrm (sr (va (v1) (va (I a.1) (bn H fun o y H=>?_))))));obtain ⟨v23,z,A⟩:=kv (k':= .i64) dX (by kernel_rfl) (n.mono (S.trans E)) y;refine vr v23 (rx (by kernel_rfl) (z _)) (bn H fun e D H=>cl (mr l o A D) ?_);rintro v32 U Z ⟨s,rfl⟩;refine va (I b) (va (I a.1) (va (I b) (va (I a.1) (va (I (w64 (b+a.1))) (va (.agg #[J e,I b,I a.1,I (w64 (b+a.1)),B false]) (md (sA 224 [J e,I b,I a.1,I (w64 (b+a.1)),B false] 0 s ⟨rfl,rfl,rfl,rfl,rfl,trivial⟩) ?_))))));rintro k a0 h;refine wln (W.ret ?_);obtain rfl:=si H;have t:=h.sD 1 [];exact iD (c:=k) (vs:=[J e,I b,I a.1,I (w64 (b+a.1)),B false]) rfl (by kernel_rfl) (by kernel_rfl) (by kernel_rfl) (h.on 0 rfl _ rfl).1 ⟨_,k,rfl,rfl,pt,t,rfl⟩
def dY (p0:List Int):Option (List aY):=
 (cw (σ:=(List aY)×Int) (τ:=(List aY)) (((p0.length:Int) - 0).toNat+1) (fun a=>
 if (decide (a.2 < (p0.length:Int)))=true then
 (slc p0 a.2 p0.length).bind fun c=>
 (eP c a.2).bind fun b=>
 (app a.1 ([b]:List aY)).bind fun d=>
 some (.inl (d,(w64 (a.2+b.Len))))
 else
 some (.inr (a.1))) (([]:List aY),0)).bind fun e=>
 some e
theorem iR (O0:Own c0 G F) (o:List Int) {r:List aY} (X:Sl (RI .u8) c0 v1 o) (H:dY o=some r): Calls prog 100 #[v1] c0.w (aI c0 fun c v=>∃q y2,Own c G (es true bN q 224 y2 r :: F)∧v=q∧OA bN c q y2 r):=by
 unfold dY at H;refine en func100 rfl rfl (sr (va (Y) (wln (sr (va (Y) (wln (W.seq (sr (va (I 0) (wln (W.block (bn H fun k1 h3 s=>lp h3 (fun b=>Jn c0 fun c l=>∃v5 f,Own c G (es true bN v5 224 f b.1 :: F)∧l= [(0,v1),(3,v5),(4,I b.2)]∧OA bN c v5 f b.1) (fun d ex e w=>ex= .exit 0∧(Jn c0 fun c l=>∃v7 g,Own c G (es true bN v7 224 g d :: F)∧l= [(3,v7)]∧OA bN c v7 g d) e w) ?_ ?_ ?_))))))))))))
 ·clear s h3;intro b n1 P l0 H;revert P l0;rintro e_ w_ ⟨c9,b1,_,rfl,l9,rfl,v5,f,h,rfl,n⟩;refine W.seq (sr (va (I b.2) (va (v1) (vx (ln 3 dX X.m) (va (B (decide (b.2 < (o.length:Int)))) (wln (cn H (fun S H=>?_) (fun S H=>?_))))))))
  ·refine W.skip (nrm (W.block (sr (va (v1) (va (I b.2) (bn H fun p T H=>?_))))));obtain ⟨v18,U,Z⟩:=jk (k:= .i64) dX (by kernel_rfl) (X.mono l9) T;refine vr v18 (rx (by kernel_rfl) (U _)) (va (I b.2) (bn H fun a a0 H=>cl (mI h p b.2 Z a0) ?_));rintro v27 w0 d1 ⟨t,rfl⟩;refine me (al 224 [J 0,I 0,I 0,I 0,B false] t) ?_;rintro v31 x0 e1 ⟨E,rfl,u⟩;refine md (sA 224 [J a.R,I a.At,I a.Len,I a.Known,B a.Bad] 0 u ⟨rfl,rfl,rfl,rfl,rfl,trivial⟩) ?_;rintro y0 f1 i;refine wln (sr (va (v5) (vx (leN 224 0 [J a.R,I a.At,I a.Len,I a.Known,B a.Bad] (i.on 0 rfl)) (me (sl bN 224 [[J a.R,I a.At,I a.Len,I a.Known,B a.Bad]] ([a]:List aY) i ⟨rfl,trivial⟩) ?_))));rintro v38 z0 g1 ⟨m1,x,d0⟩;obtain ⟨a1,f0,h1,y,e0⟩:=x.frz 0 rfl d0;refine WL.gh f0 (bn H fun v0 g0 H=>me (ap bN (.agg #[J 0,I 0,I 0,I 0,B false]) 40 150 2 y n.m e0 g0 oI) ?_);rintro v48 M i1 ⟨k0,j,h0⟩;refine va (v48) (wln (W.region (va (I b.2) (va (Qo E 2) (vx (le1 2 u_3 (j.on 1 rfl)) (vv (I (w64 (b.2+a.Len))) (WL.nil (bkn ?_))))))));obtain rfl:=si H;refine ⟨_,rfl,?_⟩;have z:=j.sD 3 [2];exact jn M ⟨v48,k0,z,rfl,h0⟩
  refine W.exit (thx ?_);obtain rfl:=si H;exact ⟨_,rfl,rfl,jn c9 ⟨v5,f,h,rfl,n⟩⟩
 ·have i0:OA bN c0 (Y) [] []:=OA.nil (aJ _);have A:=O0.addHole (e:=es true bN (Y) 224 [] ([]:List aY)) rfl;exact jn c0 ⟨(Y),[],A,rfl,i0⟩
 rintro _ e_ w_ ⟨rfl,N,c1,_,rfl,j1,rfl,v7,g,D,rfl,j0⟩;refine bke (nrm (sr (vv (v7) (wln (W.ret ?_)))));obtain rfl:=si s;exact r1 (qq N ⟨v7,g,D,rfl,j0⟩)
def eQ (p0:List Int):Option (Int):=
 (dY p0).bind fun c=>
 if ((c.length:Int)==0)=true then
 some 0
 else
 (idx c (w64 ((c.length:Int) - 1))).bind fun a=>
 (slc p0 a.At p0.length).bind fun f=>
 (cQ f).bind fun b=>
 (orE (!a.Bad) (some (b.1==0))).bind fun d=>
 (orE d (some (decide (b.1≥b.2)))).bind fun e=>
 if e=true then
 some 0
 else
 some a.Len
theorem mJ (O0:Own c0 G F) (z:List Int) {r:Int} (h2:Sl (RI .u8) c0 v1 z) (H:eQ z=some r): Calls prog 101 #[v1] c0.w (aI c0 fun c v=>Own c G (F)∧v=I r):=by
 unfold eQ at H;refine en func101 rfl rfl (sr (va (I 0) (wln (sr (va (v1) (bn H fun p h3 H=>cl (iR O0 z h2 h3) ?_))))));rintro v4 U h0 ⟨_,u5,x,rfl,o⟩;refine va (v4) (wln (W.seq (sr (va (v4) (vx (lnO 3 oI o) (va (B ((p.length:Int)==0)) (wln (cn H (fun X H=>?_) (fun X H=>?_)))))))))
 ·refine sr (va (I 0) (wln (W.ret (thr ?_))));obtain rfl:=si H;have M:=x.sD 1 [];exact r1 (qq U ⟨M,rfl⟩)
 refine W.skip (nrm (sr (vv (v4) (vx (lnO 3 oI o) (va (I (w64 ((p.length:Int) - 1))) (bn H fun a m H=>vx (ixO oI o m) ?_))))));obtain ⟨q0,Z,k0⟩:=OA.at o m;obtain rfl:=Z;refine vr (.agg #[J a.R,I a.At,I a.Len,I a.Known,B a.Bad]) (rx (by kernel_rfl) (qS (T:=224) (l:=[J a.R,I a.At,I a.Len,I a.Known,B a.Bad]) (by kernel_rfl) (by kernel_rfl) (x.on 0 rfl) (o.blk m) (at2 (j:=0) k0 rfl))) (me (al 224 [J 0,I 0,I 0,I 0,B false] x) ?_);rintro v22 t0 i0 ⟨d,rfl,N⟩;refine md (sA 224 [J a.R,I a.At,I a.Len,I a.Known,B a.Bad] 0 N ⟨rfl,rfl,rfl,rfl,rfl,trivial⟩) ?_;rintro u0 j0 q;refine wln (W.seq (sr (va (v1) (va (Qo d 1) (vx (le1 1 u_3 (q.on 0 rfl)) (bn H fun A b0 H=>?_))))));obtain ⟨v26,d0,e0⟩:=jk (k:= .i64) dX (by kernel_rfl) (h2.mono (h0.trans (i0.trans j0))) b0;refine vr v26 (rx (by kernel_rfl) (d0 _)) (bn H fun b f0 H=>cl (jt q A e0 f0) ?_);rintro v35 h w0 ⟨g,rfl⟩;refine va (.tuple #[I b.1,I b.2]) (va (I b.1) (va (I b.2) (va (I b.1) (va (I b.2) (wln (W.seq (bn H fun m0 t H=>bn H fun y n H=>W.join (Jn h fun c l=>Own c G ((Eb d 224 [J a.R,I a.At,I a.Len,I a.Known,B a.Bad]) :: es true bN v4 224 u5 p :: F)∧l= [(4,Q d),(37,B y)]) ?_ ?_)))))))
 ·clear H;refine W.region (va (Qo d 4) (vx (le1 4 u_4 (g.on 0 rfl)) (va (B (!a.Bad)) ?_)));rcases bo (!a.Bad) with e | e
  ·obtain rfl:=orT e t;refine vb e (pz (va (B true) ?_));have u:true=true:=rfl;obtain rfl:=orT u n;exact vb u (pz (ps (va (B true) (wln (jn h ⟨g,rfl⟩)))))
  have D:=orF e t;refine vb e (wa (I b.1) (wa (B (b.1==0)) ?_));obtain rfl:=si D;refine va (B (b.1==0)) ?_;rcases bo (b.1==0) with f | f
  ·obtain rfl:=orT f n;exact vb f (pz (ps (va (B true) (wln (jn h ⟨g,rfl⟩)))))
  have E:=orF f n;refine vb f (wa (I b.1) (wa (I b.2) (wa (B (decide (b.1≥b.2))) ?_)));obtain rfl:=si E;exact va (B (decide (b.1≥b.2))) (wln (jn h ⟨g,rfl⟩))
 rintro e_ w_ ⟨s,v0,_,rfl,x0,rfl,i,rfl⟩;refine nrm (cn H (fun g0 H=>?_) (fun g0 H=>?_))
 ·refine sr (va (I 0) (wln (W.ret (thr ?_))));obtain rfl:=si H;have P:=i.sD 2 [];exact r1 (qq s ⟨P,rfl⟩)
 refine W.skip (nrm (sr (va (Qo d 2) (vx (le1 2 u_3 (i.on 0 rfl)) (va (I a.Len) (wln (W.ret ?_)))))));obtain rfl:=si H;have S:=i.sD 2 [];exact r1 (qq s ⟨S,rfl⟩)
def dB (p0:aw):Option (Bool):=
 (orE (p0.Kind==1) (some (p0.Kind==13))).bind fun c=>
 (orE c ((eK p0).bind fun b=>
 some b.isNil)).bind fun a=>
 some a
theorem iZ (N:Own c0 G F) (hG:Gl [2,4] c0) (a:aw) {r:Bool} (E:Sl (RI .u8) c0 v1 a.Bytes) (H:dB a=some r): Calls prog 62 #[.agg #[I a.Kind,I a.A,I a.B,v1]] c0.w (aI c0 fun c v=>Own c G (F)∧v=B r):=by
 unfold dB at H;refine en func62 rfl rfl (sr ?_);obtain ⟨P,R,S,rfl⟩:=(E).form;refine me (bx 38 [I a.Kind,I a.A,I a.B,.slice P R S] N) ?_;rintro v10 o l9 ⟨x,rfl,n,q⟩;refine va (B false) (wln (W.seq (bn H fun U j H=>bn H fun p g H=>W.join (Jn o fun c l=>Own c G (F)∧l= [(2,B p)]) ?_ ?_)))
 ·clear H;refine W.region (va (Q x) (vx (l1 u_3 (q 0 _ rfl)) (va (B (a.Kind==1)) ?_)));rcases bo (a.Kind==1) with b | b
  ·obtain rfl:=orT b j;refine vb b (pz (ps (va (B true) ?_)));have k:true=true:=rfl;obtain rfl:=orT k g;exact vb k (pz (ps (vv (B true) (wln (jn o ⟨n,rfl⟩)))))
  have s:=orF b j;refine vb b (wa (Q x) (wn (vx (l1 u_3 (q 0 _ rfl)) (wa (B (a.Kind==13)) ?_))));obtain rfl:=si s;refine va (B (a.Kind==13)) ?_;rcases bo (a.Kind==13) with d | d
  ·obtain rfl:=orT d g;exact vb d (pz (ps (vv (B true) (wln (jn o ⟨n,rfl⟩)))))
  have f:=orF d g;refine vb d (wn (vx (lN 38 q) (wn (bn f fun e D f=>cl (kL n (hG.m.le (by decide)) a E.m D) ?_))));rintro v19 y Z ⟨_,t,rfl,M⟩;refine wn (vr (B e.isNil) (by rcases (M).cs with ⟨h,i⟩ | ⟨T,h,i⟩ | ⟨T,h,i⟩ <;> (subst h; rw [i]; kernel_rfl)) ?_);obtain rfl:=si f;exact vv (B e.isNil) (wln (jn y ⟨t,rfl⟩))
 rintro e_ w_ ⟨z,X,_,rfl,a0,rfl,u,rfl⟩;refine nrm (W.ret ?_);obtain rfl:=si H;exact r1 (qq z ⟨u,rfl⟩)
end Go.Proofs.YtclmdpamofdoiaaGreatDoor
