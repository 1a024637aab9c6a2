/- Parts of the proofs of ReadbackTrips: the walk through the code, and plain Lean. No condition. -/
import Derived.Test.YtclmdpamofdoiaaGreatDoorRtA
import Derived.Test.YtclmdpamofdoiaaGreatDoorProg
import Derived.Test.YtclmdpamofdoiaaGreatDoorRtB
import Derived.Test.YtclmdpamofdoiaaGreatDoorRtC
import Derived.Laws.Cover4
import Derived.OpenShut
import Derived.LaidLaws
import Derived.Handed
import Derived.Lay
import Derived.JoinedOf
import Derived.KernelRfl
set_option linter.unusedVariables false
set_option linter.unusedSimpArgs false
namespace Go.Proofs.YtclmdpamofdoiaaGreatDoor
open Go Go.Lt
set_option maxRecDepth 10000
set_option linter.unusedVariables false
attribute [local irreducible] W WL AC
open Tryz
variable {c0:Cx} {G:Gm} {F:List En} {sg:Sto} {v1 v2 v3 v4 v5 v6 v7 v8 v9 v10 v11 v12 v13 v14 v15 v16 v17 v18 v19 v20 v21 v22 v23 v24 v25 v26 v27 v28 v29 v30 v31 v32 v33 v34 v35 v36 v37 v38 v39 v40 v41 v42 v43 v44 v45 v46 v47 v48 v49 v50 v51 v52 v53 v54 v55 v56 v57 v58 v59 v60:Value}
def jo (sg:Sto) (p0:Int) (p1:Int):Option (Sto×(Option Nat)):=
 (mG sg p0 p1).bind fun b=>
 (ni b.1 b.2).bind fun c=>
 (some (c.1.add_screen_Screen (⟨c.2,b.2⟩:ey))).bind fun a=>
 some (a,(some c.1.screen_Screen.length))
theorem sv (O0:Own c0 G F) (R0:Rel c0 sg G) (g:Int) (h:Int) {r:Sto×(Option Nat)} (H:jo sg g h=some r): Calls prog 32 #[I g,I h] c0.w (aT c0 fun c v=>∃y1,∃G_:Gm,Own c G_ (F)∧Rel c r.1 G_∧dZ G G_∧v=y1∧Pt 5 c y1 r.2):=by
 unfold jo at H;refine en func32 rfl rfl (sr (va (.pointer none) (wln (sr (va (I g) (va (I h) (bn H fun n h1 H=>cl (yT O0 R0 g h h1) ?_)))))));rintro v2 c8 l8 ⟨_,G4,O5,R6,a7,rfl,p⟩;have D:=(dZ.refl _).trans a7;refine va (v2) (wln (sr (va (v2) (bn H fun o R H=>cl (zW O5 R6 n.2 p R) ?_))));rintro v12 j0 m ⟨_,i0,t,A,M,rfl,l⟩;have j:=D.trans M;refine va (v2) ?_;obtain ⟨d,rfl⟩:=(l).form;obtain ⟨e,rfl⟩:=((p.mono m)).form;refine va (.agg #[.pointer d,.pointer e]) (me (al 131 [.pointer d,.pointer e] t) ?_);rintro v26 k0 f ⟨a,rfl,u⟩;have y:=u.sD 1 [0];refine bn H fun q S H=>?_;obtain ⟨k,s,T,o0,U,z,i,l0,X,N⟩:=Rel.new_screen_Screen (E:=[(Eb a 131 [.pointer d,.pointer e])]) (F:=F) (x:=(⟨o.2,n.2⟩:ey)) (b:=a) y (A.mono f) (fun c_ hle_=>⟨a,(.pointer d),(.pointer e),rfl,rfl,(l.mono (f.trans hle_)),(p.mono ((m.trans f).trans hle_))⟩);rw [bb S] at i;refine WL.gh T.1 ?_;have m0:=dZ.nil j X;have P:=j.trans N;have Z:Pt 5 k (Q a) (some o.1.screen_Screen.length):=⟨a,rfl,U⟩;refine va (Q a) (wln (W.ret ?_));obtain rfl:=si H;exact r1 (qq k ⟨(Q a),s,z,i,P,rfl,Z⟩)
def fv (sg:Sto) (p0:Option Nat) (p1:bu):Option (Sto×Er):=
 if p0.isNone=true then
 some (sg,(Er.sent 7))
 else
 if (p1.Kind==0)=true then
 (p0).bind fun g=>
 (sg.screen_Screen[g]?).bind fun i=>
 (gt sg i.Feeder p1.Bytes).bind fun o=>
 some (o,Er.nil)
 else
 if (p1.Kind==1)=true then
 (p0).bind fun h=>
 (sg.screen_Screen[h]?).bind fun j=>
 (gq sg j.Feeder).bind fun p=>
 some (p,Er.nil)
 else
 if (p1.Kind==13)=true then
 (p0).bind fun a=>
 (sg.screen_Screen[a]?).bind fun k=>
 (cX sg k.Feeder).bind fun c=>
 (c.screen_Screen[a]?).bind fun l=>
 (kJ c l.pen p1.A p1.B).bind fun q=>
 some (q,Er.nil)
 else
 (kv p1).bind fun d=>
 if (!d.isNil)=true then
 some (sg,d)
 else
 (p0).bind fun b=>
 (sg.screen_Screen[b]?).bind fun m=>
 (cX sg m.Feeder).bind fun e=>
 (e.screen_Screen[b]?).bind fun n=>
 (ot e n.pen p1).bind fun f=>
 some (f.1,f.2)
theorem nj (O0:Own c0 G F) (d:Rel c0 sg G) (hG:Gl [2,4,7] c0) (p0:Option Nat) (a:bu) {r:Sto×Er} (t:Pt 5 c0 v1 p0) (z:Sl (RI .u8) c0 v3 a.Bytes) (H:fv sg p0 a=some r): Calls prog 66 #[v1,.agg #[I a.Kind,I a.A,I a.B,v3]] c0.w (aT c0 fun c v=>∃y1,∃G_:Gm,Own c G_ (F)∧Rel c r.1 G_∧v=y1∧RE 350 144 c y1 r.2):=by
 unfold fv at H;refine en func66 rfl rfl (sr ?_);obtain ⟨a5,a6,a7,rfl⟩:=(z).form;refine me (bx 38 [I a.Kind,I a.A,I a.B,.slice a5 a6 a7] O0) ?_;rintro v12 s1 b ⟨y,rfl,l,h⟩;refine va (.nilIface) (wln (W.seq (sr (va (v1) (vr (B p0.isNone) (by rcases t.m.cs with ⟨e,f⟩ | ⟨b_,e,f⟩ <;> (subst e; rw [f]; kernel_rfl)) (wln (cn H (fun c2 H=>?_) (fun c2 H=>?_))))))))
 ·refine sr ?_;obtain ⟨v14,S⟩:=(hG.mono b).get 7 (by decide);refine vx (l1 xM S.im) (va (v14) (wln (W.ret (thr ?_))));obtain rfl:=si H;exact r1 (qq s1 ⟨v14,G,l,d.m,rfl,S⟩)
 refine W.skip (nrm (W.seq (sr (va (Q y) (vx (l1 u_3 (h 0 _ rfl)) (wln (W.block (sr (vv (B (a.Kind==0)) (wln (cn H (fun d2 H=>?_) (fun d2 H=>?_))))))))))))
 ·refine rD [6] (Kp G []) l ?_;intro t1 Z E;have i3:Kp G [] t1:=(Kp.nil E);refine ta 0 (v1) (bn H fun t3 f2 H=>?_);obtain ⟨P,rfl,e2⟩:=((t.mono (b.trans Z))).get f2;refine ta 1 (Q P) (ta 2 (Q P) (bn H fun u0 g2 H=>?_));obtain ⟨v24,v26,j2,i2,n4⟩:=Rel.open_screen_Screen (d.mono (b.trans Z)) g2 e2;refine tkx 3 i3 (fun n g u=>le1 0 Ak (u.gon j2 0 rfl)) (ta 4 (Qo y (0+3)) (tx 5 (fun n g=>l1 tM ((mm h) 3 _ rfl)) (bn H fun f4 k2 H=>o1 6 (gc 6 (qP E d.m (hG.m.le (by decide)) u0.Feeder a.Bytes i2 z.m k2) ?_))));rintro v35 u1 r4 ⟨d1,g1,k1,rfl⟩;refine ⟨.inl rfl,dn (bkn (nrm (sr (va (.nilIface) (wln (W.ret ?_))))))⟩;obtain rfl:=si H;exact r1 (qq u1 ⟨.nilIface,d1,g1,k1,rfl,rfl⟩)
 refine sr (vv (B (a.Kind==1)) (wln (cn H (fun l2 H=>?_) (fun l2 H=>?_))))
 ·refine W.region (va (v1) (bn H fun u3 n2 H=>?_));obtain ⟨R,rfl,m2⟩:=((t.mono b)).get n2;refine vv (Q R) (bn H fun v0 o2 H=>?_);obtain ⟨v41,v43,q2,p2,o4⟩:=Rel.open_screen_Screen (d.mono b) o2 m2;refine vx (le1 0 Ak (l.gon q2 0 rfl)) (bn H fun g4 s2 H=>cl (qO l d.m (hG.m.le (by decide)) v0.Feeder p2 s2) ?_);rintro v52 w1 s4 ⟨e1,h1,m1,rfl⟩;refine WL.nil (bkn (nrm (sr (va (.nilIface) (wln (W.ret ?_))))));obtain rfl:=si H;exact r1 (qq w1 ⟨.nilIface,e1,h1,m1,rfl,rfl⟩)
 refine sr (vv (B (a.Kind==13)) (wln (cn H (fun t2 H=>?_) (fun t2 H=>?_))))
 ·refine sr (va (v1) (bn H fun w3 u2 H=>?_));obtain ⟨i,rfl,T⟩:=((t.mono b)).get u2;refine vv (Q i) (bn H fun w0 v2 H=>?_);obtain ⟨v58,v60,x2,w2,p4⟩:=Rel.open_screen_Screen (d.mono b) v2 T;refine vx (le1 0 Ak (l.gon x2 0 rfl)) (bn H fun i4 y2 H=>cl (iS l d.m w0.Feeder w2 y2) ?_);rintro v4 m4 t4 ⟨D,i1,N,rfl⟩;refine wln (rD [8] (Kp D []) i1 ?_);intro x1 h3 M;have j3:Kp D [] x1:=(Kp.nil M);refine ta 0 (Q i) (ta 1 (Q i) (ta 2 (Qo i 1) (bn H fun x0 z2 H=>?_)));obtain ⟨w4,x4,b3,q4,a3⟩:=Rel.open_screen_Screen (N.mono h3) z2 (tm T);refine tkx 3 j3 (fun n g u=>le1 1 tw (u.gon b3 0 rfl)) (ta 4 (Qo y (0+1)) (tx 5 (fun n g=>l1 u_3 ((mm h) 1 _ rfl)) (ta 6 (Qo y (0+2)) (tx 7 (fun n g=>l1 u_3 ((mm h) 2 _ rfl)) (bn H fun j4 c3 H=>o1 8 (gc 8 (vP M N.m (hG.m.le (by decide)) x0.pen a.A a.B a3 c3) ?_))))));rintro y4 z1 u4 ⟨f1,j1,n1,rfl⟩;refine ⟨.inl rfl,dn (bkn (nrm (sr (va (.nilIface) (wln (W.ret ?_))))))⟩;obtain rfl:=si H;exact r1 (qq z1 ⟨.nilIface,f1,j1,n1,rfl,rfl⟩)
 refine W.seq (sr (vx (lN 38 h) (bn H fun c1 d3 H=>cl (sF l (hG.m.le (by decide)) a z.m d3) ?_)));rintro k b2 a0 ⟨_,q,rfl,U⟩;refine va (k) (wln (sr (va (k) (vr (B (!c1.isNil)) (by rcases (U).cs with ⟨e,f⟩ | ⟨b_,e,f⟩ | ⟨b_,e,f⟩ <;> (subst e; rw [f]; kernel_rfl)) (wln (cn H (fun e3 H=>?_) (fun e3 H=>?_)))))))
 ·refine sr (vv (k) (wln (W.ret (thr (bkr (thr ?_))))));obtain rfl:=si H;exact r1 (qq b2 ⟨k,G,q,d.m,rfl,U⟩)
 refine W.skip (nrm (sr (va (v1) (bn H fun x3 f3 H=>?_))));obtain ⟨j,rfl,X⟩:=((t.mono (b.trans a0))).get f3;refine vv (Q j) (bn H fun y0 g3 H=>?_);obtain ⟨a4,b4,j0,i0,q3⟩:=Rel.open_screen_Screen (d.mono (b.trans a0)) g3 X;refine vx (le1 0 Ak (q.gon j0 0 rfl)) (bn H fun k4 k0 H=>cl (iS q d.m y0.Feeder i0 k0) ?_);rintro c4 p3 y3 ⟨o,d0,s,rfl⟩;refine wln (W.seq (rD [5] (Kp o []) d0 ?_));intro g0 t0 p;have b1:Kp o [] g0:=(Kp.nil p);refine ta 0 (Q j) (ta 1 (Q j) (ta 2 (Qo j 1) (bn H fun z0 l0 H=>?_)));obtain ⟨d4,e4,o0,s3,m0⟩:=Rel.open_screen_Screen (s.mono t0) l0 (tm X);refine tkx 3 b1 (fun n g u=>le1 1 tw (u.gon o0 0 rfl)) (tx 4 (fun n g=>lN 38 (mm h)) (bn H fun l4 q0 H=>o1 5 (gc 5 (BZ p s.m (hG.m.le (by decide)) z0.pen a m0 z.m q0) ?_)));rintro x h0 z3 ⟨_,b0,e0,f0,rfl,s0⟩;refine ⟨.inl rfl,ta 6 (x) (dn (nrm (W.ret (bkr (thr ?_)))))⟩;obtain rfl:=si H;exact r1 (qq h0 ⟨x,b0,e0,f0,rfl,s0⟩)
def dS (sg:Sto) (p0:Option Nat) (p1:List bu):Option (Sto×Er):=
 (cJ (σ:=Er×Int×Sto) (τ:=(Er×Sto)) (((p1.length:Int) - 0).toNat+1) (fun a=>
 if (decide (a.2.1 < (p1.length:Int)))=true then
 ((idx p1 a.2.1).bind fun f=>
 (fv a.2.2 p0 f).bind fun b=>
 (bT (!b.2.isNil) (some a.1.isNil)).bind fun e=>
 if e=true then
 (qe a.2.1 b.2).bind fun g=>
 some (g,b.1)
 else
 some (a.1,b.1)).bind fun c=>
 some (.inl (c.1,(w64 (a.2.1+1)),c.2))
 else
 some (.inr (a.1,a.2.2))) (Er.nil,0,sg)).bind fun d=>
 some (d.2,d.1)
theorem qL (O0:Own c0 G F) (R0:Rel c0 sg G) (hG:Gl [2,4,7] c0) (p0:Option Nat) (j:List bu) {r:Sto×Er} (h2:Pt 5 c0 v1 p0) (Z:Sl vH c0 v3 j) (H:dS sg p0 j=some r): Calls prog 33 #[v1,v3] c0.w (aT c0 fun c v=>∃y1,∃G_:Gm,Own c G_ (F)∧Rel c r.1 G_∧v=y1∧RE 350 144 c y1 r.2):=by
 unfold dS at H;refine en func33 rfl rfl (sr (va (.nilIface) (wln (sr (va (.nilIface) (wln (W.seq (sr (va (v3) (vx (ln 3 underlying22 Z) (va (I 0) (wln (W.block (bn H fun o2 h5 H6=>lp h5 (fun a=>Jn c0 fun c l=>∃v7 G_,Own c G_ (F)∧l= [(0,v1),(5,v7),(9,v3),(10,I (j.length:Int)),(11,I a.2.1)]∧Rel c a.2.2 G_∧RE 350 144 c v7 a.1) (fun u ex e w=>ex= .exit 0∧(Jn c0 fun c l=>∃v8 G_,Own c G_ (F)∧l= [(5,v8)]∧Rel c u.2 G_∧RE 350 144 c v8 u.1) e w) ?_ ?_ ?_))))))))))))))
 ·clear H6 h5;intro a p2 a1 n1 H;revert a1 n1;rintro X w_ ⟨c9,d2,_,rfl,l9,rfl,v7,d0,y,rfl,M,s⟩;refine sr (va (B (decide (a.2.1 < (j.length:Int)))) (wln (W.seq (cn H (fun b1 H=>?_) (fun b1 H=>?_)))))
  ·refine W.skip (nrm (bn H fun x b g0=>W.seqJ (Jn c9 fun c l=>∃v19 G_,Own c G_ (F)∧l= [(0,v1),(5,v19),(9,v3),(10,I (j.length:Int)),(11,I a.2.1)]∧Rel c x.2 G_∧RE 350 144 c v19 x.1) ?_ ?_))
   ·refine W.block (sr (va (I a.2.1) (bn b fun d P b=>?_)));obtain ⟨x1,c1,m1⟩:=Sl.at (Z.mono l9) (bz P);obtain ⟨v24,rfl,t⟩:=c1;refine vx (ix underlying22 Z.m P) (vx (lN 38 m1) (me (al 38 [I 0,I 0,I 0,Y] y) ?_));rintro v29 b2 k1 ⟨u0,rfl,j0⟩;refine va (I a.2.1) ?_;obtain ⟨n,o,p,rfl⟩:=((t.mono k1)).form;refine md (sA 38 [I d.Kind,I d.A,I d.B,.slice n o p] 0 j0 ⟨rfl,rfl,rfl,t.m.one,trivial⟩) ?_;rintro c2 i2 z;refine wln (sr (va (v1) (vx (leN 38 0 [I d.Kind,I d.A,I d.B,.slice n o p] (z.on 0 rfl)) (bn b fun i d1 b=>cl (nj z M.m (hG.m.le (by decide)) p0 d h2.m t.m d1) ?_))));rintro v36 q j2 ⟨_,k,D,N,rfl,R⟩;refine va (v36) (wln (W.seq (bn b fun U S b=>W.join (Jn q fun c l=>Own c k ((Eb u0 38 [I d.Kind,I d.A,I d.B,.slice n o p]) :: F)∧l= [(0,v1),(5,v7),(6,I a.2.1),(8,v36),(9,v3),(10,I (j.length:Int)),(11,I a.2.1),(24,B U)]) ?_ ?_)))
    ·clear b;refine W.region (va (v36) (vr (B (!i.2.isNil)) (by rcases (R).cs with ⟨f,g⟩ | ⟨T,f,g⟩ | ⟨T,f,g⟩ <;> (subst f; rw [g]; kernel_rfl)) ?_));rcases bo (!i.2.isNil) with h | h
     ·have h0:=anT h S;refine vb h (wa (v7) (wn (vr (B a.1.isNil) (by rcases s.m.cs with ⟨f,g⟩ | ⟨T,f,g⟩ | ⟨T,f,g⟩ <;> (subst f; rw [g]; kernel_rfl)) ?_)));obtain rfl:=si h0;exact va (B a.1.isNil) (wln (jn q ⟨D,rfl⟩))
     obtain rfl:=anF h S;exact vb h (pz (va (B false) (wln (jn q ⟨D,rfl⟩))))
    rintro X w_ ⟨v0,e2,_,rfl,k2,rfl,E,rfl⟩;refine nrm (cn b (fun f1 b=>?_) (fun f1 b=>?_))
    ·refine W.region (va (I a.2.1) (va (v36) (bn b fun z1 g1 b=>cl (tJ E a.2.1 i.2 R.m g1) ?_)));rintro v55 w0 l2 ⟨_,k0,rfl,h1⟩;refine va (v55) (WL.nil (bkn (nrm ?_)));obtain rfl:=si b;have l0:=k0.sD 1 [];exact jn w0 ⟨v55,k,l0,rfl,N.m,h1⟩
    refine W.skip (bkn (nrm ?_));obtain rfl:=si b;have m0:=E.sD 1 [];exact jn v0 ⟨v7,k,m0,rfl,N.m,s.m⟩
   rintro X w_ ⟨x0,f2,_,rfl,m2,rfl,v19,e0,o0,rfl,s0,i1⟩;refine W.region (vv (I (w64 (a.2.1+1))) (WL.nil ?_));obtain rfl:=si g0;exact ⟨_,rfl,jn x0 ⟨v19,e0,o0,rfl,s0,i1⟩⟩
  refine W.exit (thx ?_);obtain rfl:=si H;exact ⟨_,rfl,rfl,jn c9 ⟨v7,d0,y,rfl,M,s⟩⟩
 ·exact jn c0 ⟨.nilIface,G,O0,rfl,R0,rfl⟩
 rintro _ X w_ ⟨rfl,y0,g2,_,rfl,n2,rfl,v8,f0,q0,rfl,t0,j1⟩;refine bke (nrm (sr (vv (v8) (wln (W.ret ?_)))));obtain rfl:=si H6;exact r1 (qq y0 ⟨v8,f0,q0,t0,rfl,j1⟩)
def dg (sg:Sto) (p0:Option Nat):Option (eW):=
 if p0.isNone=true then
 some (⟨0,0,([]:List am),(⟨0,0,false⟩:ah),false⟩:eW)
 else
 (p0).bind fun b=>
 (sg.screen_Screen[b]?).bind fun d=>
 (d.pen).bind fun c=>
 (sg.place_Pen[c]?).bind fun a=>
 (bX sg a.G).bind fun e=>
 (bL sg a.G).bind fun f=>
 (iJ sg a.G).bind fun g=>
 some (⟨e,f,g,a.At,a.Auto⟩:eW)
theorem kh (O0:Own c0 G F) (o:Rel c0 sg G) (U:Option Nat) {r:eW} (h2:Pt 5 c0 v1 U) (H:dg sg U=some r): Calls prog 37 #[v1] c0.w (aT c0 fun c v=>∃X y2,Own c G (es true cY X 48 y2 r.Lines :: F)∧v= .agg #[I r.Wide,I r.High,X,I r.At.Row,I r.At.Col,B r.At.Pending,B r.Auto]∧OA cY c X y2 r.Lines):=by
 unfold dg at H;refine en func37 rfl rfl (sr (me (al 45 [I 0,I 0,Y,I 0,I 0,B false,B false] O0) ?_));rintro v6 c5 T ⟨b3,rfl,y⟩;refine wln (W.seq (sr (va (v1) (vr (B U.isNone) (by rcases h2.m.cs with ⟨N,P⟩ | ⟨b_,N,P⟩ <;> (subst N; rw [P]; kernel_rfl)) (wln (cn H (fun h7 H=>?_) (fun h7 H=>?_)))))))
 ·refine sr (va (.agg #[I 0,I 0,Y,I 0,I 0,B false,B false]) (md (sA 45 [I 0,I 0,Y,I 0,I 0,B false,B false] 0 y ⟨rfl,rfl,rfl,rfl,rfl,rfl,rfl,trivial⟩) ?_));rintro S l9 O8;refine wln (W.ret (thr ?_));obtain rfl:=si H;have g0:OA cY S (Y) [] []:=OA.nil (aX _);have z:=O8.addHole (e:=es true cY (Y) 48 [] ([]:List am)) rfl;have Z:=z.sD 2 [0];exact rV (c:=S) (vs:=[I 0,I 0,Y,I 0,I 0,B false,B false]) rfl (by kernel_rfl) (by kernel_rfl) (by kernel_rfl) (z.on 1 rfl _ rfl).1 ⟨_,S,rfl,rfl,pt,(Y),[],Z,rfl,g0⟩
 refine W.skip (nrm (sr (va (v1) (bn H fun e1 i0 H=>?_))));obtain ⟨b,rfl,h0⟩:=((h2.mono T)).get i0;refine va (Q b) (va (Qo b 1) (bn H fun g1 j0 H=>?_));obtain ⟨v17,v19,q,i1,l0⟩:=Rel.open_screen_Screen (o.mono T) j0 h0;refine vx (le1 1 tw (y.gon q 0 rfl)) (bn H fun f1 o0 H=>?_);obtain ⟨d,rfl,m0⟩:=(l0).get o0;refine vv (Q d) (bn H fun a q0 H=>?_);obtain ⟨v26,t,s⟩:=Rel.open_place_Pen (o.mono T) q0 m0;refine vx (le1 0 eJ (y.gon t 0 rfl)) (va (v26) (wln (W.seq (rD [] (Kp G []) y ?_))));intro b0 j1 A;have l:Kp G [] b0:=(Kp.nil A);refine ta 0 (v26) (ta 2 (v26) (ta 4 (v26) (ta 6 (Q b) (ta 7 (Q b) (ta 8 (Qo b 1) (tkx 9 l (fun R x f=>le1 1 tw (f.gon q 0 rfl)) (ta 10 (Q d) (ta 11 (Qo d 1) (tkx 12 l (fun R x f=>leN 29 1 [I a.At.Row,I a.At.Col,B a.At.Pending] (f.gon t 0 rfl)) (ta 13 (Q b) (ta 14 (Q b) (ta 15 (Qo b 1) (tkx 16 l (fun R x f=>le1 1 tw (f.gon q 0 rfl)) (ta 17 (Q d) (ta 18 (Qo d 4) (tkx 19 l (fun R x f=>le1 4 u_4 (f.gon t 0 rfl)) (bn H fun g s0 H=>o1 1 (gc 1 (cC A o.m a.G s.m s0) ?_))))))))))))))))));rintro v38 d0 k1 ⟨D,rfl⟩;have v0:Kp G [] d0:=(Kp.nil D);refine ⟨.inr v0,bn H fun h t0 H=>o1 3 (gc 3 (bF D o.m a.G s.m t0) ?_)⟩;rintro v46 e0 m1 ⟨E,rfl⟩;have w0:Kp G [] e0:=(Kp.nil E);refine ⟨.inr w0,bn H fun h1 u0 H=>o1 5 (gc 5 (sE E o.m a.G s.m u0) ?_)⟩;rintro v49 f0 n1 ⟨_,z0,M,rfl,u⟩;have x0:Kp G [] f0:=(Kp.nil M);refine ⟨.inr x0,?_⟩;obtain ⟨i,j,k,rfl⟩:=(u).form;refine ta 20 (.agg #[I g,I h,.slice i j k,I a.At.Row,I a.At.Col,B a.At.Pending,B a.Auto]) (o1 21 (gD 21 (sA 45 [I g,I h,.slice i j k,I a.At.Row,I a.At.Col,B a.At.Pending,B a.Auto] 1 M ⟨rfl,rfl,(u).one,rfl,rfl,rfl,rfl,trivial⟩) ?_));rintro p p1 n;have y0:Kp G [] p:=(Kp.nil n);refine ⟨.inr y0,dn (nrm (W.ret ?_))⟩;obtain rfl:=si H;have a0:=n.sD 2 [0];exact rV (c:=p) (vs:=[I g,I h,.slice i j k,I a.At.Row,I a.At.Col,B a.At.Pending,B a.Auto]) rfl (by kernel_rfl) (by kernel_rfl) (by kernel_rfl) (n.on 1 rfl _ rfl).1 ⟨_,p,rfl,rfl,pt,(.slice i j k),z0,a0,rfl,u.m⟩
end Go.Proofs.YtclmdpamofdoiaaGreatDoor
namespace Go.Lt
theorem aG {n:Int} (h: -9223372036854775808≤n∧n≤9223372036854775807):w64 n=n:=by
 unfold w64;rw [Ae];omega
theorem wJ {n:Int} (h: -2147483648≤n∧n≤2147483647):w32 n=n:=by
 unfold w32;rw [IntKind.wrap_i32];omega
theorem bsm {α β:Type} (a:α) (f:α→Option β):(some a).bind f=f a:=by simp
theorem kH {σ τ:Type} {step:σ→Option (σ ⊕ τ)} (Inv:σ→Prop) (μ:σ→Nat) (post:τ→Prop)
  (h:∀s,Inv s→(∃s',step s=some (.inl s')∧Inv s'∧μ s' < μ s)∨∃t,step s=some (.inr t)∧post t):
  ∀(fuel:Nat) (s:σ),Inv s→μ s < fuel→∃t,cJ fuel step s=some t∧post t:=by
 intro fuel
 induction fuel with
 | zero=>intro s _ hm; omega
 | succ k ih=>
  intro s hs hm;rcases h s hs with ⟨s',h1,h2,h3⟩ | ⟨t,h1,h2⟩
  ·obtain ⟨t,h4,h5⟩:=ih s' h2 (by omega);exact ⟨t,by simp [cJ,h1,h4],h5⟩
  ·exact ⟨t,by simp [cJ,h1],h2⟩
theorem oM {σ τ:Type} {step:σ→Option (σ ⊕ τ)} (Inv:σ→Prop) (μ:σ→Nat) {t:τ}
  (h:∀s,Inv s→(∃s',step s=some (.inl s')∧Inv s'∧μ s' < μ s)∨step s=some (.inr t)) {fuel:Nat} {s:σ} (h0:Inv s) (hm:μ s < fuel):cJ fuel step s=some t:=by
 obtain ⟨t',h1,h2⟩:=kH Inv μ (fun x=>x=t) (fun s hs=>(h s hs).imp id fun h=>⟨t,h,rfl⟩) fuel s h0 hm;rw [h1,h2]
theorem bM (a b:Bool):orE a (some b)=some (a || b):=by cases a <;> rfl
theorem bf (a b:Bool):bT a (some b)=some (a && b):=by cases a <;> rfl
theorem yj (x:Option Bool):orE true x=some true:=rfl
theorem ft (x:Option Bool):orE false x=x:=rfl
theorem gj (x:Option Bool):bT true x=x:=rfl
theorem gR (x:Option Bool):bT false x=some false:=rfl
theorem uj {α:Type} (xs:List α) (i:Nat):idx xs (i:Int)=xs[i]? :=by
 unfold idx;rw [ae (I0 i)];rfl
theorem aZ {α:Type} {xs:List α} {i:Nat} (h:i < xs.length):idx xs (i:Int)=some xs[i]:=by
 rw [uj,af h]
theorem jS {α:Type} {xs:List α} {i:Nat} (h:i < xs.length) (x:α):nF xs (i:Int) x=some (xs.set i x):=by
 unfold nF;rw [ae ⟨I0 i,by omega⟩];rfl
theorem cR {α:Type} {xs ys:List α} (h:xs.length+ys.length≤1099511627776):app xs ys=some (xs++ys):=by
 unfold app far;rw [ae h]
theorem nG {α:Type} {n:Int} (x:α) (h:0≤n∧n≤1099511627776):rep n x=some (List.replicate n.toNat x):=by
 unfold rep far;rw [ae (by omega)]
theorem rp {α:Type} {xs:List α} {i j:Nat} (h:i≤j) (h2:j≤xs.length):slc xs i j=some ((xs.drop i).take (j - i)):=by
 unfold slc;rw [ae (by omega)]
 congr 2
 omega
theorem gu (x y:Int):aV x y=max x y:=by unfold aV; split <;> omega
theorem dB (x y:Int):aL x y=min x y:=by unfold aL; split <;> omega
theorem rC {τ:Type} {step:Int→Option (Int ⊕ τ)} {n:Nat} (hn:n≤9223372036854775807) (post:τ→Prop) (Inv:Nat→Prop) (h0:Inv 0)
  (h:∀i:Nat,i < n→Inv i→(step i=some (.inl ((i+1:Nat):Int))∧Inv (i+1))∨∃t,step i=some (.inr t)∧post t)
  (hend:Inv n→∃t,step n=some (.inr t)∧post t):∃t,cJ (((n:Int) - 0).toNat+1) step 0=some t∧post t:=by
 refine kH (fun s:Int=>∃i:Nat,s=(i:Int)∧i≤n∧Inv i) (fun s:Int=>n - s.toNat) post (fun s ⟨i,hs,hi,hI⟩=>?_) _ _ ⟨0,rfl,cZ _,h0⟩ (by simp);subst hs;rcases aP i n with hlt | hge
 ·rcases h i hlt hI with ⟨h1,h2⟩ | h1
  ·exact .inl ⟨_,h1,⟨i+1,rfl,hlt,h2⟩,by simp; omega⟩
  ·exact .inr h1
 ·obtain rfl:i=n:=by omega
  exact .inr (hend hI)
theorem fc {σ τ:Type} {step:σ→Option (σ ⊕ τ)} {n:Nat} (Inv:Nat→σ→Prop) (post:τ→Prop)
  (h:∀i s,i < n→Inv i s→(∃s',step s=some (.inl s')∧Inv (i+1) s')∨∃t,step s=some (.inr t)∧post t)
  (hend:∀s,Inv n s→∃t,step s=some (.inr t)∧post t) {fuel:Nat} {s:σ} (h0:Inv 0 s) (hf:n < fuel):∃t,cJ fuel step s=some t∧post t:=by
 have key:∀fuel i s,i≤n→n - i < fuel→Inv i s→∃t,cJ fuel step s=some t∧post t:=by
  intro fuel
  induction fuel with
  | zero=>intro i s _ hm; omega
  | succ k ih=>
   intro i s hi hm hs;rcases aP i n with hlt | hge
   ·rcases h i s hlt hs with ⟨s',h1,h2⟩ | ⟨t,h1,h2⟩
    ·obtain ⟨t,h4,h5⟩:=ih (i+1) s' hlt (by omega) h2;exact ⟨t,by simp [cJ,h1,h4],h5⟩
    ·exact ⟨t,by simp [cJ,h1],h2⟩
   ·obtain rfl:i=n:=by omega
    obtain ⟨t,h1,h2⟩:=hend s hs;exact ⟨t,by simp [cJ,h1],h2⟩
 exact key fuel 0 s (cZ _) (by omega) h0
theorem xy {α β:Type} {x:Option α} {k:α→Option β} {a:α} {r:Option β} (h:x=some a) (h2:k a=r):x.bind k=r:=by rw [h]; exact h2
theorem jF {σ τ β:Type} {step:σ→Option (σ ⊕ τ)} {n:Nat} (Inv:Nat→σ→Prop) (post:τ→Prop) {fuel:Nat} {s:σ} {k:τ→Option β} {r:Option β}
  (h:∀i s,i < n→Inv i s→(∃s',step s=some (.inl s')∧Inv (i+1) s')∨∃t,step s=some (.inr t)∧post t)
  (hend:∀s,Inv n s→∃t,step s=some (.inr t)∧post t) (h0:Inv 0 s) (hf:n < fuel) (hk:∀t,post t→k t=r):(cJ fuel step s).bind k=r:=by
 obtain ⟨t,h1,h2⟩:=fc Inv post h hend h0 hf;rw [h1];exact hk t h2
theorem og {σ τ β:Type} {step:σ→Option (σ ⊕ τ)} {n:Nat} (Inv:Nat→σ→Prop) (post:τ→Prop) {fuel:Nat} {s:σ} {k:τ→Option β} {p:β→Prop}
  (h:∀i s,i < n→Inv i s→(∃s',step s=some (.inl s')∧Inv (i+1) s')∨∃t,step s=some (.inr t)∧post t)
  (hend:∀s,Inv n s→∃t,step s=some (.inr t)∧post t) (h0:Inv 0 s) (hf:n < fuel) (hk:∀t,post t→∃r,k t=some r∧p r):∃r,(cJ fuel step s).bind k=some r∧p r:=by
 obtain ⟨t,h1,h2⟩:=fc Inv post h hend h0 hf;rw [h1];exact hk t h2
theorem wB {σ τ γ:Type} {step:σ→Option (σ ⊕ τ)} {n:Nat} (Inv:Nat→σ→Prop) (post:τ→Prop) {fuel:Nat} {s:σ} {k:τ→Option (γ×Bool)}
  (h:∀i s,i < n→Inv i s→(∃s',step s=some (.inl s')∧Inv (i+1) s')∨∃t,step s=some (.inr t)∧post t)
  (hend:∀s,Inv n s→∃t,step s=some (.inr t)∧post t) (h0:Inv 0 s) (hf:n < fuel) (hk:∀t,post t→∃r,k t=some (r,true)):∃r,(cJ fuel step s).bind k=some (r,true):=by
 obtain ⟨t,h1,h2⟩:=fc Inv post h hend h0 hf;rw [h1];exact hk t h2
theorem uV {α τ:Type} {step:List α×Int→Option (List α×Int ⊕ τ)} {n fuel:Nat} (f:Nat→α) {t:τ}
  (h:∀i,i < n→step ((List.range i).map f,(i:Int))=some (.inl ((List.range i).map f++ [f i],((i+1:Nat):Int))))
  (hend:step ((List.range n).map f,(n:Int))=some (.inr t)) (hf:n < fuel):cJ fuel step ([],0)=some t:=by
 obtain ⟨t',h1,h2⟩:=fc (step:=step) (n:=n) (fuel:=fuel) (s:=([],0)) (fun i s=>s=((List.range i).map f,(i:Int))) (fun t'=>t'=t)
  (fun i s hi e=>by subst e; exact .inl ⟨_,h i hi,by rw [oU,bd]; rfl⟩) (fun s e=>by subst e; exact ⟨t,hend,rfl⟩) rfl hf
 rw [h1,h2]
theorem dC {i n:Nat} (h:i < n) (hn:n≤9223372036854775807):w64 ((i:Int)+1)=((i+1:Nat):Int):=by
 rw [aG (by omega)];simp
theorem dlt {i n:Nat} (h:i < n):decide ((i:Int) < (n:Int))=true:=by simp; exact h
theorem dnl (n:Nat):decide ((n:Int) < (n:Int))=false:=by simp
end Go.Lt
namespace Go.Lt
open Go
variable {c:Cx}
def uF (l:List Int):ByteArray:=runesBytes l
theorem xX {P:Program} {c:Cx} {src dst e:TypeId} {v:Value} {xs:List Int} (hs:P.underlying src=some (.slice e)) (he:P.underlying e=some (.int .i32)) (hd:P.underlying dst=some .string) (h:Sl (RI .i32) c v xs):
  (convert src dst v).run P c.w= .ok (.string (uF xs)) c.w:=by
 obtain ⟨a,cap,rfl,_,_,h4⟩:=h;rw [run_convert_runes_string c.w src dst e a xs.length cap hs he hd]
 cases xs with
 | nil=>
  cases a with
  | none=>rfl
  | some ad=>
   have:=run_runesToString (P:=P) c.w ad 0 cap [] (by simp [loadCells,loadCellsFrom]);exact this
 | cons y t=>
  obtain ⟨b,off,l,rfl,_,_⟩:=h4 0 y rfl;have hl:=IC (P:=P) (w:=c.w) ⟨b,off,none⟩ ((y :: t).map (Value.int .i32)) (fun j v hj=>by
   rw [bK,Hg] at hj;obtain ⟨x,hx,rfl⟩:=hj;obtain ⟨b',off',l',e,hl,hc⟩:=h4 j x hx;cases e;have:=(hc 0 _ (by rw [show l'= [.int .i32 x] from hl]; rfl)).cell;rw [show off+j * (RI .i32).size+0=off+j by show off+j * 1+0=off+j; omega] at this;rw [dj];exact this)
  rw [bZ] at hl;rw [run_runesToString c.w ⟨b,off,none⟩ (y :: t).length cap (y :: t) hl];rfl
end Go.Lt
namespace Go.Proofs.YtclmdpamofdoiaaGreatDoor
open Go Go.Lt
set_option maxRecDepth 10000
set_option linter.unusedVariables false
attribute [local irreducible] W WL AC
open Tryz
variable {c0:Cx} {G:Gm} {F:List En} {sg:Sto} {v1 v2 v3 v4 v5 v6 v7 v8 v9 v10 v11 v12 v13 v14 v15 v16 v17 v18 v19 v20 v21 v22 v23 v24 v25 v26 v27 v28 v29 v30 v31 v32 v33 v34 v35 v36 v37 v38 v39 v40 v41 v42 v43 v44 v45 v46 v47 v48 v49 v50 v51 v52 v53 v54 v55 v56 v57 v58 v59 v60:Value}
def iB (p0:List aa):Option (List Int):=
 (cJ (σ:=(List Int)×Int) (τ:=(List Int)) (((p0.length:Int) - 0).toNat+1) (fun a=>
 if (decide (a.2 < (p0.length:Int)))=true then
 ((idx p0 a.2).bind fun b=>
 if (b.Kind==0)=true then
 (app a.1 ([32]:List Int)).bind fun c=>
 some (c)
 else
 (if (b.Kind==1)=true then
 some (b.Kind==1)
 else
 some (b.Kind==2)).bind fun f=>
 if f=true then
 (app a.1 b.Text).bind fun d=>
 some (d)
 else
 some (a.1)).bind fun e=>
 some (.inl (e,(w64 (a.2+1))))
 else
 some (.inr (a.1))) (([]:List Int),0)).bind fun g=>
 some g
theorem oZ (O0:Own c0 G F) (n:List aa) {r:List Int} (P:Sl az c0 v1 n) (H:iB n=some r): Calls prog 67 #[v1] c0.w (aT c0 fun c v=>∃S y2,Own c G (es true (RI .i32) S 21 y2 r :: F)∧v=S∧OA (RI .i32) c S y2 r):=by
 unfold iB at H;refine en func67 rfl rfl (sr (va (Y) (wln (sr (va (Y) (wln (W.seq (sr (va (v1) (vx (ln 3 eH P) (va (I 0) (wln (W.block (bn H fun t2 h3 X=>lp h3 (fun b=>Jn c0 fun c l=>∃v5 o,Own c G (es true (RI .i32) v5 21 o b.1 :: F)∧l= [(3,v5),(6,v1),(7,I (n.length:Int)),(8,I b.2)]∧OA (RI .i32) c v5 o b.1) (fun t ex e w=>ex= .exit 0∧(Jn c0 fun c l=>∃v7 x,Own c G (es true (RI .i32) v7 21 x t :: F)∧l= [(3,v7)]∧OA (RI .i32) c v7 x t) e w) ?_ ?_ ?_))))))))))))))
 ·clear X h3;intro b v2 u0 s1 H;revert u0 s1;rintro N R ⟨c9,f2,_,rfl,l9,rfl,v5,o,y,rfl,j⟩;refine sr (va (B (decide (b.2 < (n.length:Int)))) (wln (W.seq (cn H (fun v0 H=>?_) (fun v0 H=>?_)))))
  ·refine W.skip (nrm (bn H fun u d U=>W.seqJ (Jn c9 fun c l=>∃v19 k,Own c G (es true (RI .i32) v19 21 k u :: F)∧l= [(3,v19),(6,v1),(7,I (n.length:Int)),(8,I b.2)]∧OA (RI .i32) c v19 k u) ?_ ?_))
   ·refine W.block (sr (bn d fun a E d=>?_));obtain ⟨x1,w0,n1⟩:=Sl.at (P.mono l9) (bz E);obtain ⟨v25,rfl,s⟩:=w0;refine vx (ix eH P.m E) (vx (lN 114 n1) (me (al 114 [I 0,Y] y) ?_));rintro v30 c2 m1 ⟨i,rfl,Z⟩;obtain ⟨z,A,D,rfl⟩:=((s.mono m1)).form;refine md (sA 114 [I a.Kind,.slice z A D] 0 Z ⟨rfl,s.m.one,trivial⟩) ?_;rintro q k2 h;refine wln (sr (va (Q i) (vx (le1 0 u_3 (h.on 0 rfl)) (wln (W.block (sr (vv (B (a.Kind==0)) (wln (cn d (fun y0 d=>?_) (fun y0 d=>?_))))))))))
    ·refine W.region (va (v5) (me (sl (RI .i32) 21 [[J 32]] ([32]:List Int) h ⟨rfl,trivial⟩) ?_));rintro v41 d2 l2 ⟨u2,a0,z0⟩;obtain ⟨e2,b1,m2,b0,a1⟩:=a0.frz 0 rfl z0;refine WL.gh b1 (bn d fun z1 c1 d=>me (ap (RI .i32) (J 0) 4 32 2 b0 j.m a1 c1 cS) ?_);rintro v51 l0 n2 ⟨p1,d0,d1⟩;refine va (v51) (WL.nil (bkn (bkn (nrm ?_))));obtain rfl:=si d;have e0:=d0.sD 3 [2];exact jn l0 ⟨v51,p1,e0,rfl,d1⟩
    refine bn d fun T g f=>W.seqJ (Jn q fun c l=>Own c G ((Eb i 114 [I a.Kind,.slice z A D]) :: es true (RI .i32) v5 21 o b.1 :: F)∧l= [(3,v5),(5,Q i),(6,v1),(7,I (n.length:Int)),(8,I b.2),(19,B T)]) ?_ ?_
    ·refine sr (vv (B (a.Kind==1)) (wln (cn g (fun e1 g=>?_) (fun e1 g=>?_))))
     ·refine W.skip (nrm ?_);obtain rfl:=si g;exact jn q ⟨h,rfl⟩
     refine W.region (vv (B (a.Kind==2)) (wln ?_));obtain rfl:=si g;exact jn q ⟨h,rfl⟩
    rintro N R ⟨m0,g2,_,rfl,o2,rfl,p,rfl⟩;refine cn f (fun f1 f=>?_) (fun f1 f=>?_)
    ·refine W.region (va (v5) (va (Qo i 1) (vx (le1 1 cS (p.on 0 rfl)) (bn f fun b2 g1 f=>me (ap (RI .i32) (J 0) 4 32 1 p j.m s.m g1 cS) ?_))));rintro M o0 p2 ⟨q1,f0,h1⟩;refine va (M) (WL.nil (bkn (bkn (nrm ?_))));obtain rfl:=si f;have g0:=f0.sD 2 [1];exact jn o0 ⟨M,q1,g0,rfl,h1⟩
    refine W.skip (bkn (bkn (nrm ?_)));obtain rfl:=si f;have h0:=p.sD 2 [1];exact jn m0 ⟨v5,o,h0,rfl,j.m⟩
   rintro N R ⟨q0,i2,_,rfl,q2,rfl,v19,k,i0,rfl,i1⟩;refine W.region (vv (I (w64 (b.2+1))) (WL.nil ?_));obtain rfl:=si U;exact ⟨_,rfl,jn q0 ⟨v19,k,i0,rfl,i1⟩⟩
  refine W.exit (thx ?_);obtain rfl:=si H;exact ⟨_,rfl,rfl,jn c9 ⟨v5,o,y,rfl,j⟩⟩
 ·have j1:OA (RI .i32) c0 (Y) [] []:=OA.nil (aX _);have j0:=O0.addHole (e:=es true (RI .i32) (Y) 21 [] ([]:List Int)) rfl;exact jn c0 ⟨(Y),[],j0,rfl,j1⟩
 rintro _ N R ⟨rfl,s0,j2,_,rfl,s2,rfl,v7,x,k0,rfl,k1⟩;refine bke (nrm (sr (vv (v7) (wln (W.ret ?_)))));obtain rfl:=si X;exact r1 (qq s0 ⟨v7,x,k0,rfl,k1⟩)
def jc (p0:List aa):Option (List aa):=
 (bT (decide ((w64 ((p0.length:Int) - 1))≥0)) ((idx p0 (w64 ((p0.length:Int) - 1))).bind fun b=>
 some (b.Kind==0))).bind fun a=>
 if a=true then
 (slc p0 0 (w64 ((p0.length:Int) - 1))).bind fun c=>
 some c
 else
 some p0
theorem tf (j:Own c0 G F) (a:List aa) {r:List aa} (b:Sl az c0 v1 a) (H:jc a=some r): Calls prog 68 #[v1] c0.w (aT c0 fun c v=>∃u,Own c G (F)∧v=u∧Sl az c u r):=by
 unfold jc at H;refine en func68 rfl rfl (sr (va (Y) (wln (W.seq (sr (va (v1) (vx (ln 3 eH b) (vv (I (w64 ((a.length:Int) - 1))) (wln (W.seq (bn H fun i q H=>W.join (Jn c0 fun c l=>Own c G (F)∧l= [(0,v1),(3,I (w64 ((a.length:Int) - 1))),(16,B i)]) ?_ ?_)))))))))))
 ·clear H;refine W.region (va (I (w64 ((a.length:Int) - 1))) (va (B (decide ((w64 ((a.length:Int) - 1))≥0))) ?_));rcases bo (decide ((w64 ((a.length:Int) - 1))≥0)) with d | d
  ·have h:=anT d q;refine vb d (wa (v1) (wa (I (w64 ((a.length:Int) - 1))) (wn (bn h fun e s h=>?_))));obtain ⟨E,x,y⟩:=Sl.at b (bz s);obtain ⟨v10,rfl,D⟩:=x;refine vx (ix eH b s) (wa (Qo (sb v1) (so v1+(w64 ((a.length:Int) - 1)).toNat * 2)) (wn (vx (l1 u_3 (y 0 _ rfl)) (wa (B (e.Kind==0)) ?_))));obtain rfl:=si h;exact va (B (e.Kind==0)) (wln (jn c0 ⟨j,rfl⟩))
  obtain rfl:=anF d q;exact vb d (pz (pz (pz (va (B false) (wln (jn c0 ⟨j,rfl⟩))))))
 rintro M N ⟨g,A,_,rfl,t,rfl,f,rfl⟩;refine nrm (cn H (fun k H=>?_) (fun k H=>?_))
 ·refine sr (va (v1) (va (I (w64 ((a.length:Int) - 1))) (bn H fun z n H=>?_)));obtain ⟨v20,o,p⟩:=rT (k':= .i64) eH (by kernel_rfl) (b.mono t) n;refine vr v20 (rx (by kernel_rfl) (o _)) (va (v20) (wln (W.ret (thr ?_))));obtain rfl:=si H;exact r1 (qq g ⟨v20,f,rfl,p⟩)
 refine W.skip (nrm (sr (vv (v1) (wln (W.ret ?_)))));obtain rfl:=si H;exact r1 (qq g ⟨v1,f,rfl,b.m⟩)
def iZ (p0:List aa):Option (List aa):=
 (cJ (σ:=Int) (τ:=Int) (((p0.length:Int) - 0).toNat+1) (fun a=>
 (bT (decide (a > 0)) ((idx p0 (w64 (a - 1))).bind fun c=>
 some (c.Kind==0))).bind fun b=>
 if b=true then
 some (.inl ((w64 (a - 1))))
 else
 some (.inr (a))) ((p0.length:Int))).bind fun e=>
 (slc p0 0 e).bind fun d=>
 some d
theorem td (O0:Own c0 G F) (s:List aa) {r:List aa} (h:Sl az c0 v1 s) (H:iZ s=some r): Calls prog 69 #[v1] c0.w (aT c0 fun c v=>∃Z,Own c G (F)∧v=Z∧Sl az c Z r):=by
 unfold iZ at H;refine en func69 rfl rfl (sr (va (Y) (wln (sr (va (v1) (vx (ln 3 eH h) (va (I (s.length:Int)) (wln (W.seq (W.block (bn H fun T E g=>lp E (fun a=>Jn c0 fun c l=>Own c G (F)∧l= [(0,v1),(3,I a)]) (fun q ex e w=>ex= .exit 0∧(Jn c0 fun c l=>Own c G (F)∧l= [(0,v1),(3,I q)]) e w) ?_ ?_ ?_)))))))))))
 ·clear g E;intro a j0 z X H;revert z X;rintro y U ⟨o,g6,_,rfl,l5,rfl,u,rfl⟩;refine W.seq (W.seq (bn H fun p k H=>W.join (Jn o fun c l=>Own c G (F)∧l= [(0,v1),(3,I a),(16,B p)]) ?_ ?_))
  ·clear H;refine W.region (va (I a) (va (B (decide (a > 0))) ?_));rcases bo (decide (a > 0)) with b | b
   ·have d:=anT b k;refine vb b (wa (v1) (wa (I a) (wa (I (w64 (a - 1))) (wn (bn d fun f n d=>?_)))));obtain ⟨d0,A,S⟩:=Sl.at (h.mono l5) (bz n);obtain ⟨v18,rfl,h0⟩:=A;refine vx (ix eH h.m n) (wa (Qo (sb v1) (so v1+(w64 (a - 1)).toNat * 2)) (wn (vx (l1 u_3 (S 0 _ rfl)) (wa (B (f.Kind==0)) ?_))));obtain rfl:=si d;exact va (B (f.Kind==0)) (wln (jn o ⟨u,rfl⟩))
   obtain rfl:=anF b k;exact vb b (pz (pz (pz (ps (va (B false) (wln (jn o ⟨u,rfl⟩)))))))
  rintro y U ⟨j,f0,_,rfl,i0,rfl,i,rfl⟩;refine nrm (cn H (fun D H=>?_) (fun D H=>?_))
  ·refine W.skip (nrm (W.block (W.region (va (I a) (vv (I (w64 (a - 1))) (WL.nil (bkn ?_)))))));obtain rfl:=si H;exact ⟨_,rfl,jn j ⟨i,rfl⟩⟩
  refine W.exit (thx ?_);obtain rfl:=si H;exact ⟨_,rfl,rfl,jn j ⟨i,rfl⟩⟩
 ·exact jn c0 ⟨O0,rfl⟩
 rintro _ y U ⟨rfl,x,g0,_,rfl,R,rfl,t,rfl⟩;refine bke (nrm (sr (va (v1) (va (I T) (bn g fun e0 M g=>?_)))));obtain ⟨v34,N,P⟩:=rT (k':= .i64) eH (by kernel_rfl) (h.mono R) M;refine vr v34 (rx (by kernel_rfl) (N _)) (va (v34) (wln (W.ret ?_)));obtain rfl:=si g;exact r1 (qq x ⟨v34,t,rfl,P⟩)
def eC (p0:eW):Option (List (List Int)):=
 (cJ (σ:=(List (List Int))×(List Int)×Int) (τ:=(List (List Int))) (((p0.Lines.length:Int) - 0).toNat+1) (fun a=>
 if (decide (a.2.2 < (p0.Lines.length:Int)))=true then
 ((idx p0.Lines a.2.2).bind fun b=>
 (bT b.Wrap (some (decide (a.2.2 < (w64 ((p0.Lines.length:Int) - 1)))))).bind fun d=>
 if d=true then
 (jc b.Cells).bind fun f=>
 (iB f).bind fun g=>
 (app a.2.1 g).bind fun h=>
 some (a.1,h)
 else
 (iZ b.Cells).bind fun i=>
 (iB i).bind fun j=>
 (app a.2.1 j).bind fun k=>
 (app a.1 ([k]:List (List Int))).bind fun l=>
 some (l,([]:List Int))).bind fun c=>
 some (.inl (c.1,c.2,(w64 (a.2.2+1))))
 else
 some (.inr (a.1))) (([]:List (List Int)),([]:List Int),0)).bind fun e=>
 some e
theorem oD (O0:Own c0 G F) (d:eW) {r:List (List Int)} (P:Sl cY c0 v1 d.Lines) (H:eC d=some r): Calls prog 23 #[.agg #[I d.Wide,I d.High,v1,I d.At.Row,I d.At.Col,B d.At.Pending,B d.Auto]] c0.w (aT c0 fun c v=>∃y1 y2,Own c G (es true (RL (RI .i32)) y1 32 y2 r :: F)∧v=y1∧OA (RL (RI .i32)) c y1 y2 r):=by
 unfold eC at H;refine en func23 rfl rfl (sr ?_);obtain ⟨T,U,X,rfl⟩:=(P).form;refine me (bx 45 [I d.Wide,I d.High,.slice T U X,I d.At.Row,I d.At.Col,B d.At.Pending,B d.Auto] O0) ?_;rintro v10 M l9 ⟨A,rfl,O7,m8⟩;refine va (Y) (wln (sr (va (Y) (wln (sr (va (Y) (wln (W.seq (sr (va (Qo A (0+2)) (vx (l1 A0 (m8 2 _ rfl)) (vx (ln 3 A0 P.m) (va (I 0) (wln (W.block (bn H fun r4 g0 Z=>lp g0 (fun a=>Jn M fun c l=>∃v13 p v15 g,Own c G (es true (RI .i32) v13 21 p a.2.1 :: es true (RL (RI .i32)) v15 32 g a.1 :: F)∧l= [(1,Q A),(3,v15),(4,v13),(8,.slice T U X),(9,I (d.Lines.length:Int)),(10,I a.2.2)]∧OA (RI .i32) c v13 p a.2.1∧OA (RL (RI .i32)) c v15 g a.1) (fun o ex e w=>ex= .exit 0∧(Jn M fun c l=>∃v17 q,Own c G (es true (RL (RI .i32)) v17 32 q o :: F)∧l= [(3,v17)]∧OA (RL (RI .i32)) c v17 q o) e w) ?_ ?_ ?_))))))))))))))))
 ·clear Z g0;intro a v5 w2 t3 H;revert w2 t3;rintro e_ w_ ⟨f0,i5,_,rfl,n3,rfl,v13,p,v15,g,a0,rfl,h0,R⟩;refine sr (va (B (decide (a.2.2 < (d.Lines.length:Int)))) (wln (W.seq (cn H (fun x2 H=>?_) (fun x2 H=>?_)))))
  ·refine W.skip (nrm (bn H fun h b l2=>W.seqJ (Jn f0 fun c l=>∃v30 s v32 t,Own c G (es true (RI .i32) v30 21 s h.2 :: es true (RL (RI .i32)) v32 32 t h.1 :: F)∧l= [(1,Q A),(3,v32),(4,v30),(8,.slice T U X),(9,I (d.Lines.length:Int)),(10,I a.2.2)]∧OA (RI .i32) c v30 s h.2∧OA (RL (RI .i32)) c v32 t h.1) ?_ ?_))
   ·refine W.block (sr (va (I a.2.2) (bn b fun f i0 b=>?_)));obtain ⟨q4,z2,p3⟩:=Sl.at (P.mono (l9.trans n3)) (bz i0);obtain ⟨v38,rfl,n⟩:=z2;refine vx (ix A0 P.m i0) (vx (lN 48 p3) (me (al 48 [Y,B false] a0) ?_));rintro v43 c5 o3 ⟨i,rfl,n2⟩;refine va (I a.2.2) ?_;obtain ⟨b0,d0,e0,rfl⟩:=((n.mono o3)).form;refine md (sA 48 [.slice b0 d0 e0,B f.Wrap] 0 n2 ⟨n.m.one,rfl,trivial⟩) ?_;rintro E k5 u;refine wln (W.seq (W.seq (bn b fun f1 j0 b=>W.join (Jn E fun c l=>Own c G ((Eb i 48 [.slice b0 d0 e0,B f.Wrap]) :: es true (RI .i32) v13 21 p a.2.1 :: es true (RL (RI .i32)) v15 32 g a.1 :: F)∧l= [(1,Q A),(3,v15),(4,v13),(6,Q i),(8,.slice T U X),(9,I (d.Lines.length:Int)),(10,I a.2.2),(24,B f1)]) ?_ ?_)))
    ·clear b;refine W.region (va (Qo i 1) (vx (le1 1 u_4 (u.on 0 rfl)) ?_));rcases bo (f.Wrap) with j | j
     ·have m2:=anT j j0;refine vb j (wa (I a.2.2) (wa (Qo A (0+2)) (wn (vx (l1 A0 ((mm m8) 2 _ rfl)) (wn (vx (ln 3 A0 P.m) (wa (I (w64 ((d.Lines.length:Int) - 1))) (wa (B (decide (a.2.2 < (w64 ((d.Lines.length:Int) - 1))))) ?_))))))));obtain rfl:=si m2;exact va (B (decide (a.2.2 < (w64 ((d.Lines.length:Int) - 1))))) (wln (jn E ⟨u,rfl⟩))
     obtain rfl:=anF j j0;exact vb j (pz (pz (pz (va (B false) (wln (jn E ⟨u,rfl⟩))))))
    rintro e_ w_ ⟨d5,j5,_,rfl,l5,rfl,k,rfl⟩;refine nrm (cn b (fun b3 b=>?_) (fun b3 b=>?_))
    ·refine sr (va (v13) (va (Q i) (vx (le1 0 eH (k.on 0 rfl)) (bn b fun g2 c3 b=>cl (tf k f.Cells n.m c3) ?_))));rintro v60 e5 m5 ⟨_,o2,rfl,d3⟩;refine bn b fun x4 e3 b=>cl (oZ o2 g2 d3 e3) ?_;rintro s5 f5 n5 ⟨_,r5,p2,rfl,f3⟩;obtain ⟨g5,h3,o5,q2,g3⟩:=p2.frz 0 rfl f3;refine WL.gh h3 (bn b fun y4 i3 b=>me (ap (RI .i32) (J 0) 4 32 2 q2 h0.m g3 i3 cS) ?_);rintro k0 v2 p5 ⟨s3,s2,j3⟩;refine va (k0) (wln (W.exit (thx (bke (nrm ?_)))));obtain rfl:=si b;have t2:=s2.sD 4 [2,3];exact jn v2 ⟨k0,s3,v15,g,t2,rfl,j3,R.m⟩
    refine W.skip (nrm (sr (va (v15) (va (v13) (va (Q i) (vx (le1 0 eH (k.on 0 rfl)) (bn b fun i2 k3 b=>cl (td k f.Cells n.m k3) ?_)))))));rintro t5 h5 q5 ⟨_,u2,rfl,l3⟩;refine bn b fun z4 m3 b=>cl (oZ u2 i2 l3 m3) ?_;rintro u5 x3 g4 ⟨_,s4,l0,rfl,h1⟩;obtain ⟨y3,j1,h4,m0,i1⟩:=l0.frz 0 rfl h1;refine WL.gh j1 (bn b fun j2 k1 b=>me (ap (RI .i32) (J 0) 4 32 2 m0 h0.m i1 k1 cS) ?_);rintro v4 z3 i4 ⟨t4,o0,m1⟩;obtain ⟨b4,n1,j4,q0,N⟩:=o0.frz 2 rfl m1;refine WL.gh n1 ?_;obtain ⟨x,y,z,rfl⟩:=(N).form;refine me (sl (RL (RI .i32)) 32 [[.slice x y z]] ([j2]:List (List Int)) q0 ⟨⟨(.slice x y z),rfl,N⟩,trivial⟩) ?_;rintro w4 c4 k4 ⟨u4,s0,p1⟩;obtain ⟨d4,s1,l4,t0,q1⟩:=s0.frz 0 rfl p1;refine WL.gh s1 (bn b fun b5 t1 b=>me (ap (RL (RI .i32)) (Y) 24 25 4 t0 R.m q1 t1 nt) ?_);rintro S D m4 ⟨e2,u0,u1⟩;refine va (S) (wln (W.region (va (Y) (WL.nil (bkn (nrm ?_))))));obtain rfl:=si b;have w1:OA (RI .i32) D (Y) [] []:=OA.nil (aX _);have v0:=u0.addHole (e:=es true (RI .i32) (Y) 21 [] ([]:List Int)) rfl;have w0:=v0.sD 6 [0,5];exact jn D ⟨(Y),[],S,e2,w0,rfl,w1,u1⟩
   rintro e_ w_ ⟨d1,e4,_,rfl,n4,rfl,v30,s,v32,t,x0,rfl,x1,z1⟩;refine W.region (vv (I (w64 (a.2.2+1))) (WL.nil ?_));obtain rfl:=si l2;exact ⟨_,rfl,jn d1 ⟨v30,s,v32,t,x0,rfl,x1,z1⟩⟩
  refine W.exit (thx ?_);obtain rfl:=si H;refine ⟨_,rfl,rfl,?_⟩;have y0:=a0.sD 2 [1];exact jn f0 ⟨v15,g,y0,rfl,R⟩
 ·have b2:OA (RI .i32) M (Y) [] []:=OA.nil (aX _);have z0:=O7.addHole (e:=es true (RI .i32) (Y) 21 [] ([]:List Int)) rfl;have c2:OA (RL (RI .i32)) M (Y) [] []:=OA.nil (aX _);have a1:=z0.addHole (e:=es true (RL (RI .i32)) (Y) 32 [] ([]:List (List Int))) rfl;have b1:=a1.sD 2 [1,0];exact jn M ⟨(Y),[],(Y),[],b1,rfl,b2,c2⟩
 rintro _ e_ w_ ⟨rfl,e1,f4,_,rfl,o4,rfl,v17,q,c1,rfl,d2⟩;refine bke (nrm (sr (vv (v17) (wln (W.ret ?_)))));obtain rfl:=si Z;exact r1 (qq e1 ⟨v17,q,c1,rfl,d2⟩)
def gk (p0:eW):Option (List Int):=
 (eC p0).bind fun d=>
 (cJ (σ:=(List (List Int))) (τ:=(List (List Int))) (((d.length:Int) - 0).toNat+1) (fun b=>
 (bT (decide ((b.length:Int) > 0)) ((idx b (w64 ((b.length:Int) - 1))).bind fun g=>
 some ((g.length:Int)==0))).bind fun e=>
 if e=true then
 (slc b 0 (w64 ((b.length:Int) - 1))).bind fun h=>
 some (.inl (h))
 else
 some (.inr (b))) (d)).bind fun c=>
 (cJ (σ:=(List Int)×Int) (τ:=(List Int)) (((c.length:Int) - 0).toNat+1) (fun a=>
 if (decide (a.2 < (c.length:Int)))=true then
 (idx c a.2).bind fun i=>
 (if (decide (a.2 > 0))=true then
 (app a.1 ([10]:List Int)).bind fun j=>
 some (j)
 else
 some (a.1)).bind fun l=>
 (app l i).bind fun k=>
 some (.inl (k,(w64 (a.2+1))))
 else
 some (.inr (a.1))) (([]:List Int),0)).bind fun f=>
 some f
theorem pa (O0:Own c0 G F) (d:eW) {r:List Int} (h2:Sl cY c0 v1 d.Lines) (H:gk d=some r): Calls prog 25 #[.agg #[I d.Wide,I d.High,v1,I d.At.Row,I d.At.Col,B d.At.Pending,B d.Auto]] c0.w (aT c0 fun c v=>∃y1 y2,Own c G (es true (RI .i32) y1 21 y2 r :: F)∧v=y1∧OA (RI .i32) c y1 y2 r):=by
 unfold gk at H;refine en func25 rfl rfl (sr ?_);obtain ⟨a3,a4,a5,rfl⟩:=(h2).form;refine me (bx 45 [I d.Wide,I d.High,.slice a3 a4 a5,I d.At.Row,I d.At.Col,B d.At.Pending,B d.Auto] O0) ?_;rintro v10 c9 l9 ⟨b6,rfl,O7,m8⟩;refine va (Y) (wln (sr (vx (lN 45 m8) (bn H fun k4 t1 H=>cl (oD O7 d h2.m t1) ?_))));rintro v12 f0 b4 ⟨_,h4,i1,rfl,u1⟩;refine va (v12) (wln (W.seq (W.block (bn H fun N h0 b=>lp h0 (fun j=>Jn f0 fun c l=>∃v23,Own c G (F)∧l= [(3,v23)]∧Sl (RL (RI .i32)) c v23 j) (fun e1 ex e w=>ex= .exit 0∧(Jn f0 fun c l=>∃v24,Own c G (F)∧l= [(3,v24)]∧Sl (RL (RI .i32)) c v24 e1) e w) ?_ ?_ ?_))))
 ·clear b h0;intro j v2 D X H;revert D X;rintro A U ⟨y,w3,_,rfl,c4,rfl,v23,d0,rfl,g⟩;refine W.seq (W.seq (bn H fun x0 i0 H=>W.join (Jn y fun c l=>Own c G (F)∧l= [(3,v23),(21,B x0)]) ?_ ?_))
  ·clear H;refine W.region (va (v23) (vx (ln 3 nt g) (va (B (decide ((j.length:Int) > 0))) ?_)));rcases bo (decide ((j.length:Int) > 0)) with k | k
   ·have t:=anT k i0;refine vb k (wa (v23) (wa (v23) (wn (vx (ln 3 nt g) (wa (I (w64 ((j.length:Int) - 1))) (wn (bn t fun Z j0 t=>?_)))))));obtain ⟨l3,x1,t2⟩:=Sl.at g (bz j0);obtain ⟨v39,rfl,z1⟩:=x1;refine vx (ix nt g j0) (wn (vx (l1 cS (t2 0 _ rfl)) (wn (vx (ln 3 cS z1) (wa (B ((Z.length:Int)==0)) ?_)))));obtain rfl:=si t;exact va (B ((Z.length:Int)==0)) (wln (jn y ⟨d0,rfl⟩))
   obtain rfl:=anF k i0;exact vb k (pz (pz (pz (pz (va (B false) (wln (jn y ⟨d0,rfl⟩)))))))
  rintro A U ⟨g0,x3,_,rfl,q2,rfl,e0,rfl⟩;refine nrm (cn H (fun b2 H=>?_) (fun b2 H=>?_))
  ·refine W.skip (nrm (W.block (W.region (vv (v23) (vx (ln 3 nt g.m) (va (I (w64 ((j.length:Int) - 1))) (bn H fun p3 c2 H=>?_)))))));obtain ⟨v49,d2,e2⟩:=rT (k':= .i64) nt (by kernel_rfl) (g.mono q2) c2;refine vr v49 (rx (by kernel_rfl) (d2 _)) (va (v49) (WL.nil (bkn ?_)));obtain rfl:=si H;exact ⟨_,rfl,jn g0 ⟨v49,e0,rfl,e2⟩⟩
  refine W.exit (thx ?_);obtain rfl:=si H;exact ⟨_,rfl,rfl,jn g0 ⟨v23,e0,rfl,g.m⟩⟩
 ·obtain ⟨s1,g2,d4,j1,f2⟩:=i1.frz 0 rfl u1;have k1:=j1.sD 1 [];exact ⟨s1,_,_,g2.symm,pt,us,v12,k1,rfl,f2⟩
 rintro _ A U ⟨rfl,p,y3,_,rfl,e4,rfl,v24,m1,rfl,E⟩;refine bke (nrm (sr (va (Y) (wln (W.seq (sr (va (v24) (vx (ln 3 nt E) (va (I 0) (wln (W.block (bn b fun o3 k0 b0=>lp k0 (fun a=>Jn p fun c l=>∃h n,Own c G (es true (RI .i32) h 21 n a.1 :: F)∧l= [(4,h),(27,v24),(28,I (N.length:Int)),(29,I a.2)]∧OA (RI .i32) c h n a.1) (fun q ex e w=>ex= .exit 2∧(Jn p fun c l=>∃i s,Own c G (es true (RI .i32) i 21 s q :: F)∧l= [(4,i)]∧OA (RI .i32) c i s q) e w) ?_ ?_ ?_))))))))))))
 ·clear b0 k0;intro a v2 D X b;revert D X;rintro A U ⟨z,z3,_,rfl,s2,rfl,h,n,x,rfl,M⟩;refine sr (va (B (decide (a.2 < (N.length:Int)))) (wln (W.seq (cn b (fun i2 b=>?_) (fun i2 b=>?_)))))
  ·refine W.skip (nrm (W.seq (W.block (sr (va (I a.2) (bn b fun q3 l0 b=>?_))))));obtain ⟨m3,j2,u2⟩:=Sl.at (E.mono s2) (bz l0);obtain ⟨T,rfl,k2⟩:=j2;refine vx (ix nt E.m l0) (vx (l1 cS (u2 0 _ rfl)) (va (I a.2) (va (T) (wln (bn b fun a0 f u=>W.seqJ (Jn z fun c l=>∃o P,Own c G (es true (RI .i32) o 21 P a0 :: F)∧l= [(4,o),(6,T),(27,v24),(28,I (N.length:Int)),(29,I a.2)]∧OA (RI .i32) c o P a0) ?_ ?_)))))
   ·refine sr (va (I a.2) (va (B (decide (a.2 > 0))) (wln (cn f (fun l2 f=>?_) (fun l2 f=>?_)))))
    ·refine W.region (va (h) (me (sl (RI .i32) 21 [[J 10]] ([10]:List Int) x ⟨rfl,trivial⟩) ?_));rintro j4 u3 f4 ⟨i4,n1,m2⟩;obtain ⟨v3,o2,g4,p1,n2⟩:=n1.frz 0 rfl m2;refine WL.gh o2 (bn f fun s3 p2 f=>me (ap (RI .i32) (J 0) 4 32 1 p1 M.m n2 p2 cS) ?_);rintro R u0 h3 ⟨f1,q1,y0⟩;refine va (R) (wln ?_);obtain rfl:=si f;have m0:=q1.sD 2 [1];exact jn u0 ⟨R,f1,m0,rfl,y0⟩
    refine W.skip (nrm ?_);obtain rfl:=si f;exact jn z ⟨h,n,x,rfl,M⟩
   rintro A U ⟨e3,f3,_,rfl,i3,rfl,o,P,o0,rfl,z0⟩;refine W.region (va (o) (va (T) (bn u fun t3 a1 u=>me (ap (RI .i32) (J 0) 4 32 0 o0 z0 k2.m a1 cS) ?_)));rintro S v0 j3 ⟨g1,q0,b1⟩;refine va (S) (WL.nil (bkn (nrm (W.region (vv (I (w64 (a.2+1))) (WL.nil ?_))))));obtain rfl:=si u;exact ⟨_,rfl,jn v0 ⟨S,g1,q0,rfl,b1⟩⟩
  refine W.exit (thx ?_);obtain rfl:=si b;exact ⟨_,rfl,rfl,jn z ⟨h,n,x,rfl,M⟩⟩
 ·have c1:OA (RI .i32) p (Y) [] []:=OA.nil (aX _);have s0:=m1.addHole (e:=es true (RI .i32) (Y) 21 [] ([]:List Int)) rfl;exact jn p ⟨(Y),[],s0,rfl,c1⟩
 rintro _ A U ⟨rfl,w0,g3,_,rfl,k3,rfl,i,s,t0,rfl,d1⟩;refine bke (nrm (sr (vv (i) (wln (W.ret ?_)))));obtain rfl:=si b0;exact r1 (qq w0 ⟨i,s,t0,rfl,d1⟩)
def kK (p0:Int):Option (Int):=
 (dE p0).bind fun a=>
 if (!a)=true then
 some 0
 else
 if (decide (p0 < 128))=true then
 some 1
 else
 if (decide (p0 < 2048))=true then
 some 2
 else
 if (decide (p0 < 65536))=true then
 some 3
 else
 some 4
theorem vR (h:Own c0 G F) (a:Int) {r:Int} (H:kK a=some r): Calls prog 169 #[J a] c0.w (aT c0 fun c v=>Own c G (F)∧v=I r):=by
 unfold kK at H;refine en func169 rfl rfl (sr (va (I 0) (wln (W.seq (W.block (sr (va (J a) (bn H fun e i H=>cl (ki h a i) ?_))))))));rintro v7 d l ⟨b,rfl⟩;refine vv (B (!e)) (wln (cn H (fun j H=>?_) (fun j H=>?_)))
 ·refine sr (va (I 0) (wln (W.ret (bkr (thr ?_)))));obtain rfl:=si H;exact r1 (qq d ⟨b,rfl⟩)
 refine sr (va (J a) (vv (B (decide (a < 128))) (wln (cn H (fun k H=>?_) (fun k H=>?_)))))
 ·refine sr (va (I 1) (wln (W.ret (bkr (thr ?_)))));obtain rfl:=si H;exact r1 (qq d ⟨b,rfl⟩)
 refine sr (va (J a) (vv (B (decide (a < 2048))) (wln (cn H (fun f H=>?_) (fun f H=>?_)))))
 ·refine sr (va (I 2) (wln (W.ret (bkr (thr ?_)))));obtain rfl:=si H;exact r1 (qq d ⟨b,rfl⟩)
 refine sr (va (J a) (vv (B (decide (a < 65536))) (wln (cn H (fun g H=>?_) (fun g H=>?_)))))
 ·refine sr (va (I 3) (wln (W.ret (bkr (thr ?_)))));obtain rfl:=si H;exact r1 (qq d ⟨b,rfl⟩)
 refine W.skip (bkn (nrm (sr (va (I 4) (wln (W.ret ?_))))));obtain rfl:=si H;exact r1 (qq d ⟨b,rfl⟩)
def nH (p0:Int):Option (Int):=
 if (p0==2)=true then
 some 192
 else
 if (p0==3)=true then
 some 224
 else
 if (p0==4)=true then
 some 240
 else
 some 0
theorem vQ (b:Own c0 G F) (a:Int) {r:Int} (H:nH a=some r): Calls prog 170 #[I a] c0.w (aT c0 fun c v=>Own c G (F)∧v= .int .u8 r):=by
 unfold nH at H;refine en func170 rfl rfl (sr (va (.int .u8 0) (wln (W.seq (sr (va (I a) (wln (W.block (sr (vv (B (a==2)) (wln (cn H (fun d H=>?_) (fun d H=>?_)))))))))))))
 ·refine sr (va (.int .u8 192) (wln (W.ret (bkr (thr ?_)))));obtain rfl:=si H;exact r1 (qq c0 ⟨b,rfl⟩)
 refine sr (vv (B (a==3)) (wln (cn H (fun e H=>?_) (fun e H=>?_))))
 ·refine sr (va (.int .u8 224) (wln (W.ret (bkr (thr ?_)))));obtain rfl:=si H;exact r1 (qq c0 ⟨b,rfl⟩)
 refine sr (vv (B (a==4)) (wln (cn H (fun f H=>?_) (fun f H=>?_))))
 ·refine sr (va (.int .u8 240) (wln (W.ret (bkr (thr ?_)))));obtain rfl:=si H;exact r1 (qq c0 ⟨b,rfl⟩)
 refine W.skip (bkn (nrm (sr (va (.int .u8 0) (wln (W.ret ?_))))));obtain rfl:=si H;exact r1 (qq c0 ⟨b,rfl⟩)
def kL (p0:Int):Option (List Int):=
 (kK p0).bind fun b=>
 if (b==0)=true then
 some ([]:List Int)
 else
 (rep b 0).bind fun f=>
 (cJ (σ:=Int×(List Int)×Int) (τ:=(Int×(List Int))) (((w64 (b - 1)) - 0).toNat+1) (fun a=>
 if (decide (a.2.2 > 0))=true then
 (idx a.2.1 a.2.2).bind fun h=>
 (nF a.2.1 a.2.2 (iQ .u8 128 (IntKind.u8.wrap (fy .i32 a.1 63)))).bind fun d=>
 some (.inl ((a.1.fdiv (2 ^ 6)),d,(w64 (a.2.2 - 1))))
 else
 some (.inr (a.1,a.2.1))) (p0,f,(w64 (b - 1)))).bind fun c=>
 (nH b).bind fun g=>
 (idx c.2 0).bind fun i=>
 (nF c.2 0 (iQ .u8 g (IntKind.u8.wrap c.1))).bind fun e=>
 some e
theorem vS (O0:Own c0 G F) (q:Int) {r:List Int} (H:kL q=some r): Calls prog 111 #[J q] c0.w (aT c0 fun c v=>∃D y2,Own c G (es true (RI .u8) D 5 y2 r :: F)∧v=D∧OA (RI .u8) c D y2 r):=by
 unfold kL at H;refine en func111 rfl rfl (sr (va (Y) (wln (sr (va (J q) (bn H fun b h1 H=>cl (vR O0 q h1) ?_))))));rintro v7 c6 l6 ⟨M,rfl⟩;refine va (I b) (wln (W.seq (sr (va (I b) (va (B (b==0)) (wln (cn H (fun h8 H=>?_) (fun h8 H=>?_))))))))
 ·refine sr (va (Y) (wln (W.ret (thr ?_))));obtain rfl:=si H;have e0:OA (RI .u8) c6 (Y) [] []:=OA.nil (aX _);have O9:=M.addHole (e:=es true (RI .u8) (Y) 5 [] ([]:List Int)) rfl;exact r1 (qq c6 ⟨(Y),[],O9,rfl,e0⟩)
 refine W.skip (nrm (sr (va (I b) (bn H fun e1 t H=>me (Own.mkS (kl:= .i64) (kc:= .i64) (R:=(RI .u8)) (z:= .int .u8 0) (lz:=[.int .u8 0]) (x:=0) (by_:=1) (i:=b) (j:=b) true M (aX _) t (AZ _) (zu t) tM (by kernel_rfl) rfl rfl (fun _=>rfl) (by kernel_rfl) (by kernel_rfl)) ?_))));rintro v16 n n1 ⟨q0,E,f0⟩;refine va (v16) (wln (W.seq (sr (va (I b) (vv (I (w64 (b - 1))) (wln (W.block (bn H fun d y f=>lp y (fun a=>Jn n fun c l=>∃v19 k,Own c G (es true (RI .u8) v19 5 k a.2.1 :: F)∧l= [(0,J a.1),(3,I b),(4,v19),(5,I a.2.2)]∧OA (RI .u8) c v19 k a.2.1) (fun g ex e w=>ex= .exit 0∧(Jn n fun c l=>∃v21 p,Own c G (es true (RI .u8) v21 5 p g.2 :: F)∧l= [(0,J g.1),(3,I b),(4,v21)]∧OA (RI .u8) c v21 p g.2) e w) ?_ ?_ ?_))))))))
 ·clear f y;intro a v1 d0 u0 H;revert d0 u0;rintro e_ w_ ⟨X,k1,_,rfl,p1,rfl,v19,k,s,rfl,o⟩;refine W.seq (sr (va (I a.2.2) (va (B (decide (a.2.2 > 0))) (wln (cn H (fun g0 H=>?_) (fun g0 H=>?_))))))
  ·refine W.skip (nrm (W.seq (W.block (sr (va (v19) (va (I a.2.2) (va (J a.1) (va (J (fy .i32 a.1 63)) (va (.int .u8 (IntKind.u8.wrap (fy .i32 a.1 63))) (va (.int .u8 (iQ .u8 128 (IntKind.u8.wrap (fy .i32 a.1 63)))) (bn H fun f1 h0 H=>vx (ixO tM o h0) (bn H fun c1 i0 H=>md (Own.stW (R:=(RI .u8)) (T:=5) (us:=[.int .u8 (iQ .u8 128 (IntKind.u8.wrap (fy .i32 a.1 63)))]) (x':=(iQ .u8 128 (IntKind.u8.wrap (fy .i32 a.1 63)))) (u:= .int .u8 (iQ .u8 128 (IntKind.u8.wrap (fy .i32 a.1 63)))) 0 s (by kernel_rfl) rfl o i0 rfl (by kernel_rfl) ⟨rfl,trivial⟩ rfl rfl) ?_))))))))))));rintro Z q1 ⟨s0,N,j0⟩;refine wln (W.region (va (J a.1) (vv (J (a.1.fdiv (2 ^ 6))) (WL.nil (bkn (nrm (W.region (va (I a.2.2) (vv (I (w64 (a.2.2 - 1))) (WL.nil ?_))))))))));obtain rfl:=si H;exact ⟨_,rfl,jn Z ⟨v19,s0,N,rfl,j0⟩⟩
  refine W.exit (thx ?_);obtain rfl:=si H;exact ⟨_,rfl,rfl,jn X ⟨v19,k,s,rfl,o⟩⟩
 ·exact jn n ⟨v16,q0,E,rfl,f0⟩
 rintro _ e_ w_ ⟨rfl,i1,m1,_,rfl,s1,rfl,v21,p,P,rfl,A⟩;refine bke (nrm (sr (va (v21) (va (I b) (bn f fun h k0 f=>cl (vQ P b k0) ?_)))));rintro v50 j1 t1 ⟨S,rfl⟩;refine va (J d.1) (va (.int .u8 (IntKind.u8.wrap d.1)) (va (.int .u8 (iQ .u8 h (IntKind.u8.wrap d.1))) (bn f fun g1 l0 f=>vx (ixO tM A.m l0) (bn f fun d1 m0 f=>md (Own.stW (R:=(RI .u8)) (T:=5) (us:=[.int .u8 (iQ .u8 h (IntKind.u8.wrap d.1))]) (x':=(iQ .u8 h (IntKind.u8.wrap d.1))) (u:= .int .u8 (iQ .u8 h (IntKind.u8.wrap d.1))) 0 S (by kernel_rfl) rfl A.m m0 rfl (by kernel_rfl) ⟨rfl,trivial⟩ rfl rfl) ?_))));rintro a0 u1 ⟨t0,U,o0⟩;refine wln (sr (vv (v21) (wln (W.ret ?_))));obtain rfl:=si f;exact r1 (qq a0 ⟨v21,t0,U,rfl,o0⟩)
def lB (p0:List Int):Option ((List Int)×Er):=
 (cJ (σ:=(List Int)×Int) (τ:=((List Int)×Er) ⊕ (List Int)) (((p0.length:Int) - 0).toNat+1) (fun a=>
 if (decide (a.2 < (p0.length:Int)))=true then
 (idx p0 a.2).bind fun c=>
 (dE c).bind fun d=>
 if (!d)=true then
 (qe a.2 (Er.sent 0)).bind fun e=>
 some (.inr (.inl (([]:List Int),e)))
 else
 (kL c).bind fun f=>
 (app a.1 f).bind fun g=>
 some (.inl (g,(w64 (a.2+1))))
 else
 some (.inr (.inr (a.1)))) (([]:List Int),0)).bind fun b=>
 match b with
 | .inl b=>
 some b
 | .inr b=>
 some (b,Er.nil)
theorem xm (O0:Own c0 G F) (hG:Gl [0] c0) (i:List Int) {r:(List Int)×Er} (A:Sl (RI .i32) c0 v1 i) (H:lB i=some r): Calls prog 71 #[v1] c0.w (aT c0 fun c v=>∃M y2 y3,Own c G (es true (RI .u8) M 5 y2 r.1 :: F)∧v= .tuple #[M,y3]∧OA (RI .u8) c M y2 r.1∧RE 350 144 c y3 r.2):=by
 unfold lB at H;refine en func71 rfl rfl (sr (va (Y) (va (.nilIface) (wln (sr (va (Y) (wln (W.seq (sr (va (v1) (vx (ln 3 cS A) (va (I 0) (wln (W.block (bn H fun d h3 z=>lp h3 (fun a=>Jn c0 fun c l=>∃v5 j,Own c G (es true (RI .u8) v5 5 j a.1 :: F)∧l= [(4,v5),(7,v1),(8,I (i.length:Int)),(9,I a.2)]∧OA (RI .u8) c v5 j a.1) (fun t=>match t with | .inl D=>(fun h ex e w=>ex= .ret∧(Jn c0 fun c l=>∃v9 g v11,Own c G (es true (RI .u8) v9 5 g h.1 :: F)∧l= [(2,v9),(3,v11)]∧OA (RI .u8) c v9 g h.1∧RE 350 144 c v11 h.2) e w) D | .inr D=>(fun f ex e w=>ex= .exit 0∧(Jn c0 fun c l=>∃v7 k,Own c G (es true (RI .u8) v7 5 k f :: F)∧l= [(4,v7)]∧OA (RI .u8) c v7 k f) e w) D) ?_ ?_ ?_)))))))))))))))
 ·clear z h3;intro a l2 i0 j1 H;revert i0 j1;rintro e_ w_ ⟨d0,z1,_,rfl,x,rfl,v5,j,n,rfl,q⟩;refine sr (va (B (decide (a.2 < (i.length:Int)))) (wln (W.seq (cn H (fun k0 H=>?_) (fun k0 H=>?_)))))
  ·refine W.skip (nrm (W.seq (W.block (sr (va (I a.2) (bn H fun b s H=>?_))))));obtain ⟨p1,l0,g1⟩:=Sl.at (A.mono x) (bz s);obtain rfl:=l0;refine vx (ix cS A.m s) (vx (l1 mf (g1 0 _ rfl)) (va (I a.2) (va (J b) (wln (W.seq (sr (va (J b) (bn H fun E m0 H=>cl (ki n b m0) ?_))))))));rintro v30 u1 f1 ⟨o,rfl⟩;refine va (B (!E)) (wln (cn H (fun q0 H=>?_) (fun q0 H=>?_)))
   ·refine sr (va (I a.2) ?_);obtain ⟨v32,u⟩:=(hG.mono (x.trans f1)).get 0 (by decide);refine vx (l1 xM u.im) (bn H fun q1 s0 H=>cl (tJ o a.2 (Er.sent 0) u s0) ?_);rintro v35 p d2 ⟨_,N,rfl,t0⟩;refine va (Y) (va (v35) (wln (W.ret (thr (bkr (thr ?_))))));obtain rfl:=si H;refine ⟨_,rfl,⟨rfl,?_⟩⟩;have u0:OA (RI .u8) p (Y) [] []:=OA.nil (aX _);have P:=N.addHole (e:=es true (RI .u8) (Y) 5 [] ([]:List Int)) rfl;have R:=P.sD 2 [0];exact jn p ⟨(Y),[],v35,R,rfl,u0,t0⟩
   refine W.skip (nrm (W.region (va (v5) (va (J b) (bn H fun s1 v0 H=>cl (vS o b v0) ?_)))));rintro v47 w1 e2 ⟨_,k2,S,rfl,w0⟩;obtain ⟨x1,y0,f2,T,x0⟩:=S.frz 0 rfl w0;refine WL.gh y0 (bn H fun t1 z0 H=>me (ap (RI .u8) (.int .u8 0) 1 33 1 T q.m x0 z0 tM) ?_);rintro y e0 g2 ⟨h1,U,a1⟩;refine va (y) (WL.nil (bkn (nrm (W.region (vv (I (w64 (a.2+1))) (WL.nil ?_))))));obtain rfl:=si H;refine ⟨_,rfl,?_⟩;have X:=U.sD 2 [1];exact jn e0 ⟨y,h1,X,rfl,a1⟩
  refine W.exit (thx ?_);obtain rfl:=si H;exact ⟨_,rfl,rfl,jn d0 ⟨v5,j,n,rfl,q⟩⟩
 ·have b1:OA (RI .u8) c0 (Y) [] []:=OA.nil (aX _);have Z:=O0.addHole (e:=es true (RI .u8) (Y) 5 [] ([]:List Int)) rfl;exact jn c0 ⟨(Y),[],Z,rfl,b1⟩
 rcases d with d | d
 ·intro j0; revert j0;rintro _ e_ w_ ⟨rfl,f0,b2,_,rfl,i2,rfl,v9,g,v11,a0,rfl,c1,d1⟩;refine bkr (thr ?_);obtain rfl:=si z;exact r2 (qq f0 ⟨v9,g,v11,a0,rfl,c1,d1⟩)
 rintro _ e_ w_ ⟨rfl,g0,c2,_,rfl,j2,rfl,v7,k,b0,rfl,e1⟩;refine bke (nrm (sr (vv (v7) (va (.nilIface) (wln (W.ret ?_))))));obtain rfl:=si z;exact r2 (qq g0 ⟨v7,k,.nilIface,b0,rfl,e1,rfl⟩)
def gK (p0:eW):Option (List Int):=
 (gk p0).bind fun a=>
 (gJ a).bind fun b=>
 (lB b).bind fun c=>
 some c.1
theorem oE (M:Own c0 G F) (hG:Gl [0] c0) (a:eW) {r:List Int} (n:Sl cY c0 v1 a.Lines) (H:gK a=some r): Calls prog 29 #[.agg #[I a.Wide,I a.High,v1,I a.At.Row,I a.At.Col,B a.At.Pending,B a.Auto]] c0.w (aT c0 fun c v=>∃b E,Own c G (es true (RI .u8) b 5 E r :: F)∧v=b∧OA (RI .u8) c b E r):=by
 unfold gK at H;refine en func29 rfl rfl (sr ?_);obtain ⟨P,R,S,rfl⟩:=(n).form;refine me (bx 45 [I a.Wide,I a.High,.slice P R S,I a.At.Row,I a.At.Col,B a.At.Pending,B a.Auto] M) ?_;rintro v10 c9 l9 ⟨b6,rfl,N,T⟩;refine va (Y) (wln (sr (vx (lN 45 T) (bn H fun A k H=>cl (pa N a n.m k) ?_))));rintro v12 U d0 ⟨_,i0,d,rfl,l⟩;obtain ⟨X,p,e0,e,o⟩:=d.frz 0 rfl l;refine WL.gh p (bn H fun D q H=>cl (oC e A o q) ?_);rintro v26 Z f0 ⟨_,j0,f,rfl,s⟩;obtain ⟨a0,u,g0,g,t⟩:=f.frz 0 rfl s;refine WL.gh u (bn H fun k0 x H=>cl (xm g (hG.m.le (by decide)) D t x) ?_);rintro v50 j h0 ⟨v40,z,v43,h,rfl,y,b0⟩;refine va (.tuple #[v40,v43]) (va (v40) (va (v43) (va (v40) (va (v43) (wln (sr (vv (v40) (wln (W.ret ?_)))))))));obtain rfl:=si H;have i:=h.sD 3 [0];exact r1 (qq j ⟨v40,z,i,rfl,y⟩)
def fR (p0:List (List Int)) (p1:List (List Int)):Option (Bool):=
 if ((p0.length:Int) != (p1.length:Int))=true then
 some false
 else
 (cJ (σ:=Int) (τ:=Bool ⊕ Unit) (((p0.length:Int) - 0).toNat+1) (fun a=>
 if (decide (a < (p0.length:Int)))=true then
 (idx p0 a).bind fun d=>
 (idx p1 a).bind fun e=>
 (orE (!(eqS (uF d) (uF e))) ((idx p0 a).bind fun f=>
 (idx p1 a).bind fun g=>
 some ((f.length:Int) != (g.length:Int)))).bind fun c=>
 if c=true then
 some (.inr (.inl false))
 else
 some (.inl ((w64 (a+1))))
 else
 some (.inr (.inr ()))) (0)).bind fun b=>
 match b with
 | .inl b=>
 some b
 | .inr b=>
 some true
theorem qk (O0:Own c0 G F) (x:List (List Int)) (X:List (List Int)) {r:Bool} (n:Sl (RL (RI .i32)) c0 v1 x) (p:Sl (RL (RI .i32)) c0 v3 X) (H:fR x X=some r): Calls prog 22 #[v1,v3] c0.w (aT c0 fun c v=>Own c G (F)∧v=B r):=by
 unfold fR at H;refine en func22 rfl rfl (sr (va (B false) (wln (W.seq (sr (va (v1) (vx (ln 3 nt n) (va (v3) (vx (ln 3 nt p) (va (B ((x.length:Int) != (X.length:Int))) (wln (cn H (fun h5 H=>?_) (fun h5 H=>?_)))))))))))))
 ·refine sr (va (B false) (wln (W.ret (thr ?_))));obtain rfl:=si H;exact r1 (qq c0 ⟨O0,rfl⟩)
 refine W.skip (nrm (W.seq (sr (va (I 0) (wln (W.block (bn H fun h h6 S=>lp h6 (fun a=>Jn c0 fun c l=>Own c G (F)∧l= [(0,v1),(1,v3),(5,I a)]) (fun t=>match t with | .inl x_=>(fun c1 ex e w=>ex= .ret∧(Jn c0 fun c l=>Own c G (F)∧l= [(4,B c1)]) e w) x_ | .inr x_=>(fun e1 ex e w=>ex= .exit 0∧(Jn c0 fun c l=>Own c G (F)∧l= []) e w) x_) ?_ ?_ ?_)))))))
 ·clear S h6;intro a w1 i0 d1 H;revert i0 d1;rintro U Z ⟨c8,g9,_,rfl,u,rfl,y,rfl⟩;refine W.seq (sr (va (I a) (va (v1) (vx (ln 3 nt n.m) (va (B (decide (a < (x.length:Int)))) (wln (cn H (fun k0 H=>?_) (fun k0 H=>?_))))))))
  ·refine W.skip (nrm (W.seq (W.block (W.seq (bn H fun i E H=>bn H fun j M H=>bn H fun T N H=>W.join (Jn c8 fun c l=>Own c G (F)∧l= [(0,v1),(1,v3),(5,I a),(40,B T)]) ?_ ?_)))))
   ·clear H;refine rD [] (Kp G0 []) y ?_;intro o k z;have u1:Kp G0 [] o:=Kp.nil0;refine ta 0 (v1) (ta 1 (I a) ?_);obtain ⟨g1,l0,y0⟩:=Sl.at (n.mono (u.trans k)) (bz E);obtain ⟨v24,rfl,m0⟩:=l0;refine tx 2 (fun d b=>ix nt n.m E) (tx 3 (fun d b=>l1 cS ((mm y0) 0 _ rfl)) (AC.take 4 (.string (uF i)) rfl (by kernel_rfl) (by kernel_rfl) (fun d b=>(rx (by kernel_rfl) (xX cS mf u_9 m0.m))) (ta 5 (v3) (ta 6 (I a) ?_))));obtain ⟨h1,o0,z0⟩:=Sl.at (p.mono (u.trans k)) (bz M);obtain ⟨v29,rfl,q0⟩:=o0;refine tx 7 (fun d b=>ix nt p.m M) (tx 8 (fun d b=>l1 cS ((mm z0) 0 _ rfl)) (AC.take 9 (.string (uF j)) rfl (by kernel_rfl) (by kernel_rfl) (fun d b=>(rx (by kernel_rfl) (xX cS mf u_9 q0.m))) (AC.take 10 (B (!(eqS (uF i) (uF j)))) rfl (by kernel_rfl) (by kernel_rfl) (fun d b=>(Eh (by kernel_rfl))) ?_)));rcases bo (!(eqS (uF i) (uF j))) with g | g
    ·obtain rfl:=orT g N;exact AC.takeb 11 g rfl (by kernel_rfl) (by kernel_rfl) (fun d b=>(by kernel_rfl)) (tp 12 (tp 13 (tp 14 (tp 15 (tp 16 (tp 17 (tp 18 (tp 19 (tp 20 (tp 21 (tp 22 (ta 23 (B true) (dn (nrm (jn o ⟨z,rfl⟩)))))))))))))))
    have f:=orF g N;refine bn f fun q P f=>bn f fun s R f=>AC.takeb 11 g rfl (by kernel_rfl) (by kernel_rfl) (fun d b=>(by kernel_rfl)) (ta 12 (v1) (ta 13 (I a) ?_));obtain ⟨i1,s0,a1⟩:=Sl.at (n.mono (u.trans k)) (bz P);obtain ⟨v38,rfl,t0⟩:=s0;refine tx 14 (fun d b=>ix nt n.m P) (tx 15 (fun d b=>l1 cS ((mm a1) 0 _ rfl)) (tx 16 (fun d b=>ln 3 cS t0) (ta 17 (v3) (ta 18 (I a) ?_))));obtain ⟨j1,u0,b1⟩:=Sl.at (p.mono (u.trans k)) (bz R);obtain ⟨v43,rfl,v0⟩:=u0;refine tx 19 (fun d b=>ix nt p.m R) (tx 20 (fun d b=>l1 cS ((mm b1) 0 _ rfl)) (tx 21 (fun d b=>ln 3 cS v0) (ta 22 (B ((q.length:Int) != (s.length:Int))) ?_)));obtain rfl:=si f;exact ta 23 (B ((q.length:Int) != (s.length:Int))) (dn (nrm (jn o ⟨z,rfl⟩)))
   rintro U Z ⟨D,k1,_,rfl,q1,rfl,A,rfl⟩;refine nrm (cn H (fun w0 H=>?_) (fun w0 H=>?_))
   ·refine sr (va (B false) (wln (W.ret (bkr (thr ?_)))));obtain rfl:=si H;exact ⟨_,rfl,⟨rfl,jn D ⟨A,rfl⟩⟩⟩
   refine W.skip (bkn (nrm (W.region (va (I a) (vv (I (w64 (a+1))) (WL.nil ?_))))));obtain rfl:=si H;exact ⟨_,rfl,jn D ⟨A,rfl⟩⟩
  refine W.exit (thx ?_);obtain rfl:=si H;exact ⟨_,rfl,rfl,jn c8 ⟨y,rfl⟩⟩
 ·exact jn c0 ⟨O0,rfl⟩
 rcases h with h | h
 ·intro j0; revert j0;rintro _ U Z ⟨rfl,f0,m1,_,rfl,s1,rfl,d0,rfl⟩;refine bkr (thr ?_);obtain rfl:=si S;exact r1 (qq f0 ⟨d0,rfl⟩)
 rintro _ U Z ⟨rfl,g0,n1,_,rfl,t1,rfl,e0,rfl⟩;refine bke (nrm (sr (va (B true) (wln (W.ret ?_)))));obtain rfl:=si S;exact r1 (qq g0 ⟨e0,rfl⟩)
def du (sg:Sto):Option (Sto×Bool):=
 (jo sg 3 2).bind fun a=>
 (if a.2.isNone=true then some (true,a.1) else (fv a.1 a.2 (⟨0,0,0,([97,98,228,184,128,99]:List Int)⟩:bu)).bind fun c=>
 some (!c.2.isNil,c.1)).bind fun b=>
 if b.1=true then
 some (b.2,false)
 else
 (dg b.2 a.2).bind fun e=>
 (gk e).bind fun f=>
 (ka f ([97,98,19968,99]:List Int)).bind fun g=>
 (bT g ((dg b.2 a.2).bind fun h=>
 (gK h).bind fun i=>
 some ((i.length:Int)==6))).bind fun d=>
 some (b.2,d)
theorem mo (O0:Own c0 G F) (R0:Rel c0 sg G) (hG:Gl [0,2,4,7] c0) {r:Sto×Bool} (H:du sg=some r): Calls prog 20 #[] c0.w (aT c0 fun c v=>∃G_:Gm,Own c G_ (F)∧Rel c r.1 G_∧v=B r.2):=by
 unfold du at H;refine en func20 rfl rfl (sr (va (B false) (wln (sr (bn H fun g h1 H=>cl (sv O0 R0 3 2 h1) ?_)))));rintro v2 c8 l8 ⟨_,G4,O5,R6,a7,rfl,z⟩;refine va (v2) (wln (W.seq (W.seq (bn H fun M N H=>W.join (Jn c8 fun c l=>∃G_,Own c G_ (F)∧l= [(1,v2),(12,B M.1)]∧Rel c M.2 G_) ?_ ?_))))
 ·clear H;refine W.region (va (v2) (vr (B g.2.isNone) (by rcases (z).cs with ⟨a,b⟩ | ⟨b_,a,b⟩ <;> (subst a; rw [b]; kernel_rfl)) ?_));rcases bo (g.2.isNone) with e | e
  ·obtain rfl:=bb (it e N);exact vb e (pz (pz (pz (va (B true) (wln (jn c8 ⟨G4,O5,rfl,R6⟩))))))
  have o:=ie e N;refine vb e (wa (v2) (wn (me (sl (RI .u8) 5 [[.int .u8 97],[.int .u8 98],[.int .u8 228],[.int .u8 184],[.int .u8 128],[.int .u8 99]] ([97,98,228,184,128,99]:List Int) O5 ⟨rfl,rfl,rfl,rfl,rfl,rfl,trivial⟩) ?_)));rintro v17 f3 l16 ⟨y3,u0,s1⟩;refine wn (me (Own.mark (T:=33) 0 u0 rfl s1 (by kernel_rfl) tM u_5 (by kernel_rfl)) ?_);rintro v21 g3 p3 ⟨v0,P⟩;have w0:=v0.sD 1 [];refine wn ?_;obtain ⟨i1,j1,k1,rfl⟩:=(P).form;refine va (.agg #[I 0,I 0,I 0,.slice i1 j1 k1]) (wn (bn o fun y t1 o=>cl (nj w0 R6.m (hG.m.le (by decide)) g.2 (⟨0,0,0,([97,98,228,184,128,99]:List Int)⟩:bu) z.m P t1) ?_));rintro v27 n1 q3 ⟨_,t0,x0,f1,rfl,u1⟩;refine wn (vr (B (!y.2.isNil)) (by rcases (u1).cs with ⟨a,b⟩ | ⟨b_,a,b⟩ | ⟨b_,a,b⟩ <;> (subst a; rw [b]; kernel_rfl)) ?_);obtain rfl:=si o;exact va (B (!y.2.isNil)) (wln (jn n1 ⟨t0,x0,rfl,f1⟩))
 rintro e_ w_ ⟨E,o3,_,rfl,s3,rfl,n,A,rfl,k⟩;refine nrm (cn H (fun v1 H=>?_) (fun v1 H=>?_))
 ·refine sr (va (B false) (wln (W.ret (thr ?_))));obtain rfl:=si H;exact r1 (qq E ⟨n,A,k,rfl⟩)
 refine W.skip (nrm (W.seq (bn H fun h w1 H=>bn H fun i x1 H=>bn H fun q0 y1 H=>bn H fun k0 R H=>W.join (Jn E fun c l=>∃v46 t v48 u v50 x,Own c n (es false (RI .i32) v46 21 t ([97,98,19968,99]:List Int) :: es false (RI .i32) v48 21 u i :: es false cY v50 48 x h.Lines :: F)∧l= [(0,B k0)]∧OA (RI .i32) c v46 t ([97,98,19968,99]:List Int)∧OA (RI .i32) c v48 u i∧OA cY c v50 x h.Lines) ?_ ?_)))
 ·clear H;refine W.region (va (v2) (cl (kh A k g.2 z.m w1) ?_));rintro v60 i3 t3 ⟨v52,S,z0,rfl,p⟩;obtain ⟨j3,b2,u3,a1,z1⟩:=z0.frz 0 rfl p;refine WL.gh b2 (cl (pa a1 h z1 x1) ?_);rintro Z k3 v3 ⟨_,U,b1,rfl,q⟩;refine me (sl (RI .i32) 21 [[J 97],[J 98],[J 19968],[J 99]] ([97,98,19968,99]:List Int) b1 ⟨rfl,rfl,rfl,rfl,trivial⟩) ?_;rintro a0 l3 i2 ⟨X,c1,s⟩;obtain ⟨m3,d2,j2,d1,c2⟩:=c1.frz 1 rfl (q.mono i2);refine WL.gh d2 ?_;obtain ⟨n3,f2,w3,e1,e2⟩:=d1.frz 0 rfl (s.mono j2);refine WL.gh f2 (cl (qp e1 i ([97,98,19968,99]:List Int) c2.m e2 y1) ?_);rintro a4 q1 x3 ⟨D,rfl⟩;rcases bo (q0) with f | f
  ·have d:=anT f R;refine vb f (wa (v2) (wn (bn d fun s0 g2 d=>cl (kh D k.m g.2 z.m g2) ?_)));rintro c3 n2 x2 ⟨b4,z3,b0,rfl,h2⟩;refine wn ?_;obtain ⟨o2,m0,y2,d0,l0⟩:=b0.frz 0 rfl h2;refine WL.gh m0 (bn d fun j o0 d=>cl (oE d0 (hG.m.le (by decide)) s0 l0 o0) ?_);rintro d3 i0 z2 ⟨_,b3,e0,rfl,p0⟩;refine wn (vx (lnO 3 tM p0) (wa (B ((j.length:Int)==6)) ?_));obtain rfl:=si d;refine vv (B ((j.length:Int)==6)) (wln ?_);have f0:=e0.sD 5 [2,3,4];exact jn i0 ⟨a0,X,Z,U,v52,S,f0,rfl,s.m,q.m,p.m⟩
  obtain rfl:=anF f R;exact vb f (pz (pz (ps (vv (B false) (wln (jn q1 ⟨a0,X,Z,U,v52,S,D,rfl,s.m,q.m,p.m⟩))))))
 rintro e_ w_ ⟨j0,q2,_,rfl,a3,rfl,v46,t,v48,u,v50,x,g0,rfl,t2,u2,w2⟩;refine nrm (W.ret ?_);obtain rfl:=si H;have h0:=g0.sD 3 [];exact r1 (qq j0 ⟨n,h0,k.m,rfl⟩)
def fS (p0:Int):Option (Int):=
 (cG p0).bind fun d=>
 if (!d)=true then
 some 0
 else
 (if (decide (p0 > 127))=true then
 some (2)
 else
 some (1)).bind fun a=>
 (if (decide (p0 > 2047))=true then
 some (3)
 else
 some (a)).bind fun b=>
 (if (decide (p0 > 65535))=true then
 some (4)
 else
 some (b)).bind fun c=>
 some c
theorem qo (M:Own c0 G F) (a:Int) {r:Int} (H:fS a=some r): Calls prog 70 #[J a] c0.w (aT c0 fun c v=>Own c G (F)∧v=I r):=by
 unfold fS at H;refine en func70 rfl rfl (sr (va (I 0) (wln (W.seq (sr (va (J a) (bn H fun E N H=>cl (mn M a N) ?_)))))));rintro v7 i l6 ⟨m,rfl⟩;refine va (B (!E)) (wln (cn H (fun P H=>?_) (fun P H=>?_)))
 ·refine sr (va (I 0) (wln (W.ret (thr ?_))));obtain rfl:=si H;exact r1 (qq i ⟨m,rfl⟩)
 refine W.skip (nrm (sr (va (I 1) (wln (bn H fun n f p=>W.seqJ (Jn i fun c l=>Own c G (F)∧l= [(0,J a),(3,I n)]) ?_ ?_)))))
 ·refine sr (va (J a) (va (B (decide (a > 127))) (wln (cn f (fun y f=>?_) (fun y f=>?_)))))
  ·refine W.region (va (I 2) (wln ?_));obtain rfl:=si f;exact jn i ⟨m,rfl⟩
  refine W.skip (nrm ?_);obtain rfl:=si f;exact jn i ⟨m,rfl⟩
 rintro x D ⟨g,R,_,rfl,U,rfl,j,rfl⟩;refine bn p fun o b q=>W.seqJ (Jn g fun c l=>Own c G (F)∧l= [(0,J a),(3,I o)]) ?_ ?_
 ·refine sr (va (J a) (va (B (decide (a > 2047))) (wln (cn b (fun z b=>?_) (fun z b=>?_)))))
  ·refine W.region (va (I 3) (wln ?_));obtain rfl:=si b;exact jn g ⟨j,rfl⟩
  refine W.skip (nrm ?_);obtain rfl:=si b;exact jn g ⟨j,rfl⟩
 rintro x D ⟨h,S,_,rfl,X,rfl,k,rfl⟩;refine bn q fun e d s=>W.seqJ (Jn h fun c l=>Own c G (F)∧l= [(3,I e)]) ?_ ?_
 ·refine sr (va (J a) (va (B (decide (a > 65535))) (wln (cn d (fun A d=>?_) (fun A d=>?_)))))
  ·refine W.region (va (I 4) (wln ?_));obtain rfl:=si d;exact jn h ⟨k,rfl⟩
  refine W.skip (nrm ?_);obtain rfl:=si d;exact jn h ⟨k,rfl⟩
 rintro x D ⟨u,T,_,rfl,Z,rfl,t,rfl⟩;refine sr (vv (I e) (wln (W.ret ?_)));obtain rfl:=si s;exact r1 (qq u ⟨t,rfl⟩)
def fT (p0:Int):Option (List Int):=
 (fS p0).bind fun a=>
 if (a==1)=true then
 some ([(IntKind.u8.wrap (w64 p0))]:List Int)
 else
 if (a==2)=true then
 some ([(IntKind.u8.wrap (w64 (192+(w64 ((w64 p0).tdiv 64))))),(IntKind.u8.wrap (w64 (128+((w64 p0).tmod 64))))]:List Int)
 else
 if (a==3)=true then
 some ([(IntKind.u8.wrap (w64 (224+(w64 ((w64 p0).tdiv 4096))))),(IntKind.u8.wrap (w64 (128+((w64 ((w64 p0).tdiv 64)).tmod 64)))),(IntKind.u8.wrap (w64 (128+((w64 p0).tmod 64))))]:List Int)
 else
 if (a==4)=true then
 some ([(IntKind.u8.wrap (w64 (240+(w64 ((w64 p0).tdiv 262144))))),(IntKind.u8.wrap (w64 (128+((w64 ((w64 p0).tdiv 4096)).tmod 64)))),(IntKind.u8.wrap (w64 (128+((w64 ((w64 p0).tdiv 64)).tmod 64)))),(IntKind.u8.wrap (w64 (128+((w64 p0).tmod 64))))]:List Int)
 else
 some ([]:List Int)
theorem qr (P:Own c0 G F) (a:Int) {r:List Int} (H:fT a=some r): Calls prog 27 #[J a] c0.w (aT c0 fun c v=>∃f N,Own c G (es true (RI .u8) f 5 N r :: F)∧v=f∧OA (RI .u8) c f N r):=by
 unfold fT at H;refine en func27 rfl rfl (sr (va (Y) (wln (sr (va (J a) (vv (I (w64 a)) (wln (sr (va (J a) (bn H fun b S H=>cl (qo P a S) ?_))))))))));rintro v7 o l6 ⟨d,rfl⟩;refine va (I b) (wln (W.seq (sr (va (I b) (va (B (b==1)) (wln (cn H (fun T H=>?_) (fun T H=>?_))))))))
 ·refine sr (va (I (w64 a)) (va (.int .u8 (IntKind.u8.wrap (w64 a))) (me (sl (RI .u8) 5 [[.int .u8 (IntKind.u8.wrap (w64 a))]] ([(IntKind.u8.wrap (w64 a))]:List Int) d ⟨rfl,trivial⟩) ?_)));rintro v13 k U ⟨A,R,p⟩;refine va (v13) (wln (W.ret (thr ?_)));obtain rfl:=si H;exact r1 (qq k ⟨v13,A,R,rfl,p⟩)
 refine W.skip (nrm (W.seq (sr (va (I b) (va (B (b==2)) (wln (cn H (fun q H=>?_) (fun q H=>?_))))))))
 ·refine sr (va (I (w64 a)) (va (I (w64 ((w64 a).tdiv 64))) (va (I (w64 (192+(w64 ((w64 a).tdiv 64))))) (va (.int .u8 (IntKind.u8.wrap (w64 (192+(w64 ((w64 a).tdiv 64)))))) (va (I (w64 a)) (va (I ((w64 a).tmod 64)) (va (I (w64 (128+((w64 a).tmod 64)))) (va (.int .u8 (IntKind.u8.wrap (w64 (128+((w64 a).tmod 64))))) (me (sl (RI .u8) 5 [[.int .u8 (IntKind.u8.wrap (w64 (192+(w64 ((w64 a).tdiv 64)))))],[.int .u8 (IntKind.u8.wrap (w64 (128+((w64 a).tmod 64))))]] ([(IntKind.u8.wrap (w64 (192+(w64 ((w64 a).tdiv 64))))),(IntKind.u8.wrap (w64 (128+((w64 a).tmod 64))))]:List Int) d ⟨rfl,rfl,trivial⟩) ?_)))))))));rintro v19 l X ⟨D,g,s⟩;refine va (v19) (wln (W.ret (thr ?_)));obtain rfl:=si H;exact r1 (qq l ⟨v19,D,g,rfl,s⟩)
 refine W.skip (nrm (W.seq (sr (va (I b) (va (B (b==3)) (wln (cn H (fun t H=>?_) (fun t H=>?_))))))))
 ·refine sr (va (I (w64 a)) (va (I (w64 ((w64 a).tdiv 4096))) (va (I (w64 (224+(w64 ((w64 a).tdiv 4096))))) (va (.int .u8 (IntKind.u8.wrap (w64 (224+(w64 ((w64 a).tdiv 4096)))))) (va (I (w64 a)) (va (I (w64 ((w64 a).tdiv 64))) (va (I ((w64 ((w64 a).tdiv 64)).tmod 64)) (va (I (w64 (128+((w64 ((w64 a).tdiv 64)).tmod 64)))) (va (.int .u8 (IntKind.u8.wrap (w64 (128+((w64 ((w64 a).tdiv 64)).tmod 64))))) (va (I (w64 a)) (va (I ((w64 a).tmod 64)) (va (I (w64 (128+((w64 a).tmod 64)))) (va (.int .u8 (IntKind.u8.wrap (w64 (128+((w64 a).tmod 64))))) (me (sl (RI .u8) 5 [[.int .u8 (IntKind.u8.wrap (w64 (224+(w64 ((w64 a).tdiv 4096)))))],[.int .u8 (IntKind.u8.wrap (w64 (128+((w64 ((w64 a).tdiv 64)).tmod 64))))],[.int .u8 (IntKind.u8.wrap (w64 (128+((w64 a).tmod 64))))]] ([(IntKind.u8.wrap (w64 (224+(w64 ((w64 a).tdiv 4096))))),(IntKind.u8.wrap (w64 (128+((w64 ((w64 a).tdiv 64)).tmod 64)))),(IntKind.u8.wrap (w64 (128+((w64 a).tmod 64))))]:List Int) d ⟨rfl,rfl,rfl,trivial⟩) ?_))))))))))))));rintro v25 m Z ⟨E,h,u⟩;refine va (v25) (wln (W.ret (thr ?_)));obtain rfl:=si H;exact r1 (qq m ⟨v25,E,h,rfl,u⟩)
 refine W.skip (nrm (W.seq (sr (va (I b) (va (B (b==4)) (wln (cn H (fun x H=>?_) (fun x H=>?_))))))))
 ·refine sr (va (I (w64 a)) (va (I (w64 ((w64 a).tdiv 262144))) (va (I (w64 (240+(w64 ((w64 a).tdiv 262144))))) (va (.int .u8 (IntKind.u8.wrap (w64 (240+(w64 ((w64 a).tdiv 262144)))))) (va (I (w64 a)) (va (I (w64 ((w64 a).tdiv 4096))) (va (I ((w64 ((w64 a).tdiv 4096)).tmod 64)) (va (I (w64 (128+((w64 ((w64 a).tdiv 4096)).tmod 64)))) (va (.int .u8 (IntKind.u8.wrap (w64 (128+((w64 ((w64 a).tdiv 4096)).tmod 64))))) (va (I (w64 a)) (va (I (w64 ((w64 a).tdiv 64))) (va (I ((w64 ((w64 a).tdiv 64)).tmod 64)) (va (I (w64 (128+((w64 ((w64 a).tdiv 64)).tmod 64)))) (va (.int .u8 (IntKind.u8.wrap (w64 (128+((w64 ((w64 a).tdiv 64)).tmod 64))))) (va (I (w64 a)) (va (I ((w64 a).tmod 64)) (va (I (w64 (128+((w64 a).tmod 64)))) (va (.int .u8 (IntKind.u8.wrap (w64 (128+((w64 a).tmod 64))))) (me (sl (RI .u8) 5 [[.int .u8 (IntKind.u8.wrap (w64 (240+(w64 ((w64 a).tdiv 262144)))))],[.int .u8 (IntKind.u8.wrap (w64 (128+((w64 ((w64 a).tdiv 4096)).tmod 64))))],[.int .u8 (IntKind.u8.wrap (w64 (128+((w64 ((w64 a).tdiv 64)).tmod 64))))],[.int .u8 (IntKind.u8.wrap (w64 (128+((w64 a).tmod 64))))]] ([(IntKind.u8.wrap (w64 (240+(w64 ((w64 a).tdiv 262144))))),(IntKind.u8.wrap (w64 (128+((w64 ((w64 a).tdiv 4096)).tmod 64)))),(IntKind.u8.wrap (w64 (128+((w64 ((w64 a).tdiv 64)).tmod 64)))),(IntKind.u8.wrap (w64 (128+((w64 a).tmod 64))))]:List Int) d ⟨rfl,rfl,rfl,rfl,trivial⟩) ?_)))))))))))))))))));rintro v31 n a0 ⟨M,i,y⟩;refine va (v31) (wln (W.ret (thr ?_)));obtain rfl:=si H;exact r1 (qq n ⟨v31,M,i,rfl,y⟩)
 refine W.skip (nrm (sr (va (Y) (wln (W.ret ?_)))));obtain rfl:=si H;have z:OA (RI .u8) o (Y) [] []:=OA.nil (aX _);have j:=d.addHole (e:=es true (RI .u8) (Y) 5 [] ([]:List Int)) rfl;exact r1 (qq o ⟨(Y),[],j,rfl,z⟩)
def dU (p0:List Int):Option ((List Int)×Int):=
 (cJ (σ:=(List Int)×Int) (τ:=((List Int)×Int) ⊕ (List Int)) (((p0.length:Int) - 0).toNat+1) (fun a=>
 if (decide (a.2 < (p0.length:Int)))=true then
 (idx p0 a.2).bind fun c=>
 (cG c).bind fun d=>
 if (!d)=true then
 some (.inr (.inl (([]:List Int),a.2)))
 else
 (idx p0 a.2).bind fun e=>
 (fT e).bind fun f=>
 (app a.1 f).bind fun g=>
 some (.inl (g,(w64 (a.2+1))))
 else
 some (.inr (.inr (a.1)))) (([]:List Int),0)).bind fun b=>
 match b with
 | .inl b=>
 some b
 | .inr b=>
 some (b,(-1))
theorem qM (O0:Own c0 G F) (y:List Int) {r:(List Int)×Int} (d:Sl (RI .i32) c0 v1 y) (H:dU y=some r): Calls prog 38 #[v1] c0.w (aT c0 fun c v=>∃M y2,Own c G (es true (RI .u8) M 5 y2 r.1 :: F)∧v= .tuple #[M,I r.2]∧OA (RI .u8) c M y2 r.1):=by
 unfold dU at H;refine en func38 rfl rfl (sr (va (Y) (va (I 0) (wln (sr (va (Y) (wln (W.seq (sr (va (I 0) (wln (W.block (bn H fun f h3 x=>lp h3 (fun a=>Jn c0 fun c l=>∃v5 i,Own c G (es true (RI .u8) v5 5 i a.1 :: F)∧l= [(0,v1),(4,v5),(5,I a.2)]∧OA (RI .u8) c v5 i a.1) (fun t=>match t with | .inl z=>(fun h ex e w=>ex= .ret∧(Jn c0 fun c l=>∃v9 b,Own c G (es true (RI .u8) v9 5 b h.1 :: F)∧l= [(2,v9),(3,I h.2)]∧OA (RI .u8) c v9 b h.1) e w) z | .inr z=>(fun g ex e w=>ex= .exit 0∧(Jn c0 fun c l=>∃v7 j,Own c G (es true (RI .u8) v7 5 j g :: F)∧l= [(4,v7)]∧OA (RI .u8) c v7 j g) e w) z) ?_ ?_ ?_)))))))))))))
 ·clear x h3;intro a f2 h0 h1 H;revert h0 h1;rintro e_ w_ ⟨b0,t1,_,rfl,u,rfl,v5,i,k,rfl,p⟩;refine W.seq (sr (va (I a.2) (va (v1) (vx (ln 3 cS d.m) (va (B (decide (a.2 < (y.length:Int)))) (wln (cn H (fun j0 H=>?_) (fun j0 H=>?_))))))))
  ·refine W.skip (nrm (W.seq (W.block (W.seq (sr (va (v1) (va (I a.2) (bn H fun A q H=>?_))))))));obtain ⟨k1,k0,d1⟩:=Sl.at (d.mono u) (bz q);obtain rfl:=k0;refine vx (ix cS d.m q) (vx (l1 mf (d1 0 _ rfl)) (bn H fun D l0 H=>cl (mn k A l0) ?_));rintro v29 o c1 ⟨n,rfl⟩;refine va (B (!D)) (wln (cn H (fun o0 H=>?_) (fun o0 H=>?_)))
   ·refine sr (va (I a.2) (va (Y) (va (I a.2) (wln (W.ret (thr (bkr (thr ?_))))))));obtain rfl:=si H;refine ⟨_,rfl,⟨rfl,?_⟩⟩;have q0:OA (RI .u8) o (Y) [] []:=OA.nil (aX _);have N:=n.addHole (e:=es true (RI .u8) (Y) 5 [] ([]:List Int)) rfl;have P:=N.sD 2 [0];exact jn o ⟨(Y),[],P,rfl,q0⟩
   refine W.skip (nrm (W.region (va (v5) (va (v1) (va (I a.2) (bn H fun E s H=>?_))))));obtain ⟨m1,s0,e1⟩:=Sl.at (d.mono (u.trans c1)) (bz s);obtain rfl:=s0;refine vx (ix cS d.m s) (vx (l1 mf (e1 0 _ rfl)) (bn H fun n1 t0 H=>cl (qr n E t0) ?_));rintro v39 q1 x1 ⟨_,e2,R,rfl,u0⟩;obtain ⟨s1,w0,z1,S,v0⟩:=R.frz 0 rfl u0;refine WL.gh w0 (bn H fun p1 x0 H=>me (ap (RI .u8) (.int .u8 0) 1 33 1 S p.m v0 x0 tM) ?_);rintro v57 d0 b2 ⟨f1,T,y0⟩;refine va (v57) (WL.nil (bkn (nrm (W.region (va (I a.2) (vv (I (w64 (a.2+1))) (WL.nil ?_)))))));obtain rfl:=si H;refine ⟨_,rfl,?_⟩;have U:=T.sD 2 [1];exact jn d0 ⟨v57,f1,U,rfl,y0⟩
  refine W.exit (thx ?_);obtain rfl:=si H;exact ⟨_,rfl,rfl,jn b0 ⟨v5,i,k,rfl,p⟩⟩
 ·have z0:OA (RI .u8) c0 (Y) [] []:=OA.nil (aX _);have X:=O0.addHole (e:=es true (RI .u8) (Y) 5 [] ([]:List Int)) rfl;exact jn c0 ⟨(Y),[],X,rfl,z0⟩
 rcases f with f | f
 ·intro i0; revert i0;rintro _ e_ w_ ⟨rfl,e0,u1,_,rfl,c2,rfl,v9,b,Z,rfl,a1⟩;refine bkr (thr ?_);obtain rfl:=si x;exact r2 (qq e0 ⟨v9,b,Z,rfl,a1⟩)
 rintro _ e_ w_ ⟨rfl,f0,w1,_,rfl,d2,rfl,v7,j,a0,rfl,b1⟩;refine bke (nrm (sr (vv (v7) (va (I (-1)) (wln (W.ret ?_))))));obtain rfl:=si x;exact r2 (qq f0 ⟨v7,j,a0,rfl,b1⟩)
def fg (p0:List Int) (p1:List Int):Option (Bool):=
 some (eqS (tU p0) (tU p1))
theorem pL (d:Own c0 G F) (a:List Int) (b:List Int) {r:Bool} (e:Sl (RI .u8) c0 v1 a) (f:Sl (RI .u8) c0 v3 b) (H:fg a b=some r): Calls prog 28 #[v1,v3] c0.w (aT c0 fun c v=>Own c G (F)∧v=B r):=by
 unfold fg at H;refine en func28 rfl rfl (sr (va (B false) (wln (sr (va (v1) (vr (.string (tU a)) (rx (by kernel_rfl) (x9 tM u_5 u_9 e)) (va (v3) (vr (.string (tU b)) (rx (by kernel_rfl) (x9 tM u_5 u_9 f)) (vr (B (eqS (tU a) (tU b))) (Ej (by kernel_rfl)) (va (B (eqS (tU a) (tU b))) (wln (W.ret ?_))))))))))));obtain rfl:=si H;exact r1 (qq c0 ⟨d,rfl⟩)
def dh (sg:Sto) (p0:List Int) (p1:Int):Option (Sto×Bool):=
 (du sg).bind fun a=>
 (orE (!a.2) (some (decide ((p0.length:Int) > 200)))).bind fun v=>
 if v=true then
 (du a.1).bind fun k=>
 some (k.1,k.2)
 else
 (dU p0).bind fun f=>
 if (decide (f.2≥0))=true then
 some (a.1,true)
 else
 (cJ (σ:=Int) (τ:=(Sto×Bool) ⊕ Unit) (((p0.length:Int) - 0).toNat+1) (fun d=>
 if (decide (d < (p0.length:Int)))=true then
 (idx p0 d).bind fun s=>
 (dP s).bind fun t=>
 if t=true then
 some (.inr (.inl (a.1,true)))
 else
 some (.inl ((w64 (d+1))))
 else
 some (.inr (.inr ()))) (0)).bind fun b=>
 match b with
 | .inl b=>
 some b
 | .inr b=>
 (ek p0).bind fun g=>
 (cJ (σ:=Int) (τ:=(Sto×Bool) ⊕ Unit) (((g.length:Int) - 0).toNat+1) (fun e=>
 if (decide (e < (g.length:Int)))=true then
 (idx g e).bind fun u=>
 if (decide ((u.length:Int) > 16))=true then
 some (.inr (.inl (a.1,true)))
 else
 some (.inl ((w64 (e+1))))
 else
 some (.inr (.inr ()))) (0)).bind fun c=>
 match c with
 | .inl c=>
 some c
 | .inr c=>
 (jz a.1 p0 (w64 (2+(w64 ((IntKind.u64.wrap p1).tmod 20))))).bind fun h=>
 (jo h.1 (w64 (2+(w64 ((IntKind.u64.wrap p1).tmod 20)))) h.2).bind fun i=>
 (dS i.1 i.2 ([(⟨0,0,0,f.1⟩:bu),(⟨1,0,0,([]:List Int)⟩:bu)]:List bu)).bind fun l=>
 (dg l.1 i.2).bind fun j=>
 (bT (j.High==h.2) ((eC j).bind fun o=>
 (fR o ([p0]:List (List Int))).bind fun p=>
 some p)).bind fun m=>
 (bT m ((gK j).bind fun q=>
 (fg q f.1).bind fun r=>
 some r)).bind fun n=>
 some (l.1,n)
theorem mS (O0:Own c0 G F) (R0:Rel c0 sg G) (hG:Gl [0,2,4,7] c0) (R:List Int) (g:Int) {r:Sto×Bool} (U:Sl (RI .i32) c0 v1 R) (H:dh sg R g=some r): Calls prog 6 #[v1,I g] c0.w (aT c0 fun c v=>∃G_:Gm,Own c G_ (F)∧Rel c r.1 G_∧v=B r.2):=by
 unfold dh at H;refine en func6 rfl rfl (sr (va (B false) (wln (W.seq (W.seq (bn H fun i2 h3 H=>bn H fun j6 h4 H=>W.join (Jn c0 fun c l=>∃G_,Own c G_ (F)∧l= [(0,v1),(1,I g),(19,B j6)]∧Rel c i2.1 G_) ?_ ?_))))))
 ·clear H;refine W.region (cl (mo O0 R0 (hG.le (by decide)) h3) ?_);rintro v10 c9 l9 ⟨G5,O6,R7,rfl⟩;refine va (B (!i2.2)) ?_;rcases bo (!i2.2) with f0 | f0
  ·obtain rfl:=orT f0 h4;exact vb f0 (pz (ps (va (B true) (wln (jn c9 ⟨G5,O6,rfl,R7⟩)))))
  have t5:=orF f0 h4;refine vb f0 (wa (v1) (wn (vx (ln 3 cS U.m) (wa (B (decide ((R.length:Int) > 200))) ?_))));obtain rfl:=si t5;exact va (B (decide ((R.length:Int) > 200))) (wln (jn c9 ⟨G5,O6,rfl,R7⟩))
 rintro e_ w_ ⟨e9,g9,_,rfl,w2,rfl,o,n2,rfl,d0⟩;refine nrm (cn H (fun k6 H=>?_) (fun k6 H=>?_))
 ·refine sr (bn H fun n5 l6 H=>cl (mo n2 d0 (hG.m.le (by decide)) l6) ?_);rintro v26 f6 m9 ⟨q5,u5,c6,rfl⟩;refine va (B n5.2) (wln (W.ret (thr ?_)));obtain rfl:=si H;exact r1 (qq f6 ⟨q5,u5,c6,rfl⟩)
 refine W.skip (nrm (sr (va (v1) (bn H fun b m6 H=>cl (qM n2 R U.m m6) ?_))));rintro v36 e0 x2 ⟨v28,h0,o2,rfl,u1⟩;refine va (.tuple #[v28,I b.2]) (va (v28) (va (I b.2) (va (v28) (va (I b.2) (wln (W.seq (sr (va (I b.2) (va (B (decide (b.2≥0))) (wln (cn H (fun n6 H=>?_) (fun n6 H=>?_))))))))))))
 ·refine sr (va (B true) (wln (W.ret (thr ?_))));obtain rfl:=si H;have v5:=o2.sD 1 [];exact r1 (qq e0 ⟨o,v5,d0.m,rfl⟩)
 refine W.skip (nrm (W.seq (sr (va (I 0) (wln (W.block (bn H fun q0 t2 d=>lp t2 (fun h=>Jn e0 fun c l=>Own c o (es true (RI .u8) v28 5 h0 b.1 :: F)∧l= [(0,v1),(1,I g),(5,v28),(7,I h)]) (fun t=>match t with | .inl x_=>(fun g0 ex e w=>ex= .ret∧(Jn e0 fun c l=>∃G_,Own c G_ (F)∧l= [(4,B g0.2)]∧Rel c g0.1 G_) e w) x_ | .inr x_=>(fun f7 ex e w=>ex= .exit 0∧(Jn e0 fun c l=>Own c o (es true (RI .u8) v28 5 h0 b.1 :: F)∧l= [(0,v1),(1,I g),(5,v28)]) e w) x_) ?_ ?_ ?_)))))))
 ·clear d t2;intro h d7 m1 g2 H;revert m1 g2;rintro e_ w_ ⟨g6,h9,_,rfl,y6,rfl,p2,rfl⟩;refine W.seq (sr (va (I h) (va (v1) (vx (ln 3 cS U.m) (va (B (decide (h < (R.length:Int)))) (wln (cn H (fun p6 H=>?_) (fun p6 H=>?_))))))))
  ·refine W.skip (nrm (W.seq (W.block (sr (va (v1) (va (I h) (bn H fun o5 u2 H=>?_)))))));obtain ⟨m8,q6,a7⟩:=Sl.at (U.mono (w2.trans (x2.trans y6))) (bz u2);obtain rfl:=q6;refine vx (ix cS U.m u2) (vx (l1 mf (a7 0 _ rfl)) (bn H fun b9 r6 H=>cl (oQ p2 o5 r6) ?_));rintro v58 s2 n9 ⟨q2,rfl⟩;refine wln (cn H (fun s6 H=>?_) (fun s6 H=>?_))
   ·refine sr (va (B true) (wln (W.ret (bkr (thr ?_)))));obtain rfl:=si H;refine ⟨_,rfl,⟨rfl,?_⟩⟩;have x5:=q2.sD 1 [];exact jn s2 ⟨o,x5,rfl,d0.m⟩
   refine W.skip (bkn (nrm (W.region (va (I h) (vv (I (w64 (h+1))) (WL.nil ?_))))));obtain rfl:=si H;exact ⟨_,rfl,jn s2 ⟨q2,rfl⟩⟩
  refine W.exit (thx ?_);obtain rfl:=si H;exact ⟨_,rfl,rfl,jn g6 ⟨p2,rfl⟩⟩
 ·exact jn e0 ⟨o2,rfl⟩
 rcases q0 with q0 | q0
 ·intro n1; revert n1;rintro _ e_ w_ ⟨rfl,h6,i9,_,rfl,o9,rfl,s5,y5,rfl,d6⟩;refine bkr (thr ?_);obtain rfl:=si d;exact r1 (qq h6 ⟨s5,y5,d6,rfl⟩)
 rintro _ e_ w_ ⟨rfl,f9,j9,_,rfl,z0,rfl,z5,rfl⟩;refine bke (nrm (sr (va (v1) (bn d fun b0 t6 d=>cl (nM z5 R U.m t6) ?_))));rintro P x0 a1 ⟨_,f2,a6,rfl,y0⟩;refine va (P) (wln (W.seq (sr (va (I 0) (wln (W.block (bn d fun s0 v2 f=>lp v2 (fun i=>Jn x0 fun c l=>Own c o (es true (RL (RI .i32)) P 32 f2 b0 :: es true (RI .u8) v28 5 h0 b.1 :: F)∧l= [(0,v1),(1,I g),(5,v28),(8,P),(9,I i)]) (fun t=>match t with | .inl x_=>(fun g0 ex e w=>ex= .ret∧(Jn x0 fun c l=>∃G_,Own c G_ (F)∧l= [(4,B g0.2)]∧Rel c g0.1 G_) e w) x_ | .inr x_=>(fun g7 ex e w=>ex= .exit 2∧(Jn x0 fun c l=>Own c o (es true (RL (RI .i32)) P 32 f2 b0 :: es true (RI .u8) v28 5 h0 b.1 :: F)∧l= [(0,v1),(1,I g),(5,v28)]) e w) x_) ?_ ?_ ?_)))))))
 ·clear f v2;intro i d7 m1 g2 d;revert m1 g2;rintro e_ w_ ⟨k1,k9,_,rfl,z6,rfl,w0,rfl⟩;refine W.seq (sr (va (I i) (va (P) (vx (lnO 3 nt y0.m) (va (B (decide (i < (b0.length:Int)))) (wln (cn d (fun u6 d=>?_) (fun u6 d=>?_))))))))
  ·refine W.skip (nrm (W.seq (W.block (sr (va (P) (va (I i) (bn d fun p5 w1 d=>vx (ixO nt y0.m w1) ?_)))))));obtain ⟨n8,v6,b7⟩:=OA.at (y0.mono z6) w1;obtain ⟨c7,rfl,w6⟩:=v6;refine vr c7 (rx (by kernel_rfl) (ry cS rfl (w0.on 0 rfl) (y0.m.blk w1) (at1 (j:=0) b7 rfl))) (vx (ln 3 cS w6) (va (B (decide ((p5.length:Int) > 16))) (wln (cn d (fun x6 d=>?_) (fun x6 d=>?_)))))
   ·refine sr (va (B true) (wln (W.ret (bkr (thr ?_)))));obtain rfl:=si d;refine ⟨_,rfl,⟨rfl,?_⟩⟩;have b6:=w0.sD 2 [];exact jn k1 ⟨o,b6,rfl,d0.m⟩
   refine W.skip (bkn (nrm (W.region (va (I i) (vv (I (w64 (i+1))) (WL.nil ?_))))));obtain rfl:=si d;exact ⟨_,rfl,jn k1 ⟨w0,rfl⟩⟩
  refine W.exit (thx ?_);obtain rfl:=si d;exact ⟨_,rfl,rfl,jn k1 ⟨w0,rfl⟩⟩
 ·exact jn x0 ⟨a6,rfl⟩
 rcases s0 with s0 | s0
 ·intro n1; revert n1;rintro _ e_ w_ ⟨rfl,a4,c8,_,rfl,i8,rfl,y2,z2,rfl,x3⟩;refine bkr (thr ?_);obtain rfl:=si f;exact r1 (qq a4 ⟨y2,z2,x3,rfl⟩)
 rintro _ e_ w_ ⟨rfl,m7,d8,_,rfl,X,rfl,a3,rfl⟩;refine bke (nrm (sr (va (I g) (va (.int .u64 (IntKind.u64.wrap g)) (va (.int .u64 ((IntKind.u64.wrap g).tmod 20)) (va (I (w64 ((IntKind.u64.wrap g).tmod 20))) (vv (I (w64 (2+(w64 ((IntKind.u64.wrap g).tmod 20))))) (wln (sr (va (v1) (va (I (w64 (2+(w64 ((IntKind.u64.wrap g).tmod 20))))) (bn f fun n g4 f=>cl (tT a3 d0.m R (w64 (2+(w64 ((IntKind.u64.wrap g).tmod 20)))) U.m g4) ?_))))))))))));rintro r8 n7 Z ⟨h7,b3,y3,rfl⟩;refine va (I n.2) (wln (sr (va (I (w64 (2+(w64 ((IntKind.u64.wrap g).tmod 20))))) (va (I n.2) (bn f fun j2 i4 f=>cl (sv b3 y3 (w64 (2+(w64 ((IntKind.u64.wrap g).tmod 20)))) n.2 i4) ?_)))));rintro t0 o7 a0 ⟨_,i7,c3,z3,l7,rfl,q1⟩;refine va (t0) (wln (sr (va (t0) (va (v28) ?_))));obtain ⟨s,u,x,rfl⟩:=((u1.mono (z0.trans (a1.trans (X.trans (Z.trans a0)))))).form;refine va (.agg #[I 0,I 0,I 0,.slice s u x]) (va (.agg #[I 1,I 0,I 0,Y]) ?_);obtain ⟨p7,k4,x1,d3,j4⟩:=c3.frz 1 rfl (u1.mono (z0.trans (a1.trans (X.trans (Z.trans a0)))));refine WL.gh k4 (me (sl vH 38 [[I 0,I 0,I 0,.slice s u x],[I 1,I 0,I 0,Y]] ([(⟨0,0,0,b.1⟩:bu),(⟨1,0,0,([]:List Int)⟩:bu)]:List bu) d3 ⟨⟨(.slice s u x),rfl,j4⟩,⟨(Y),rfl,(Sl.nl _ _)⟩,trivial⟩) ?_);rintro m5 q7 y1 ⟨k5,e3,l4⟩;obtain ⟨r7,n4,z1,f3,m4⟩:=e3.frz 0 rfl l4;refine WL.gh n4 (bn f fun d9 o4 f=>cl (qL f3 z3.m (hG.m.le (by decide)) j2.2 ([(⟨0,0,0,b.1⟩:bu),(⟨1,0,0,([]:List Int)⟩:bu)]:List bu) q1.m m4 o4) ?_);rintro s8 s7 b2 ⟨_,d1,g3,f1,rfl,f8⟩;refine wln (sr (va (t0) (bn f fun a p4 f=>cl (kh g3 f1 j2.2 q1.m p4) ?_)));rintro u8 t7 c2 ⟨t8,l5,i3,rfl,D⟩;refine me (al 45 [I 0,I 0,Y,I 0,I 0,B false,B false] i3) ?_;rintro v8 u7 k ⟨j1,rfl,j3⟩;obtain ⟨y,z,A,rfl⟩:=((D.mono k)).form;refine md (sA 45 [I a.Wide,I a.High,.slice y z A,I a.At.Row,I a.At.Col,B a.At.Pending,B a.Auto] 0 j3 ⟨rfl,rfl,D.m.one,rfl,rfl,rfl,rfl,trivial⟩) ?_;rintro b4 N S;refine wln (W.seq (bn f fun e7 s1 f=>bn f fun k2 j0 f=>W.join (Jn b4 fun c l=>Own c d1 ((Eb j1 45 [I a.Wide,I a.High,.slice y z A,I a.At.Row,I a.At.Col,B a.At.Pending,B a.Auto]) :: es false cY (.slice y z A) 48 l5 a.Lines :: es false vH m5 38 k5 ([(⟨0,0,0,b.1⟩:bu),(⟨1,0,0,([]:List Int)⟩:bu)]:List bu) :: es true (RL (RI .i32)) P 32 f2 b0 :: es false (RI .u8) (.slice s u x) 5 h0 b.1 :: F)∧l= [(4,B k2)]) ?_ ?_))
 ·clear f;refine W.region (va (Qo j1 1) (vx (le1 1 u_3 (S.on 0 rfl)) (va (I n.2) (va (B (a.High==n.2)) ?_))));rcases bo (a.High==n.2) with E | E
  ·have p:=anT E s1;refine vb E (wn (vx (leN 45 0 [I a.Wide,I a.High,.slice y z A,I a.At.Row,I a.At.Col,B a.At.Pending,B a.Auto] (S.on 0 rfl)) (wn ?_)));obtain ⟨v7,r4,k0,k3,q4⟩:=S.frz 1 rfl (D.mono (k.trans N));refine WL.gh r4 (bn p fun l2 s4 p=>cl (oD k3 a q4 s4) ?_);rintro w8 w7 l0 ⟨_,o8,l3,rfl,t4⟩;refine wa (v1) (wn ?_);obtain ⟨g1,h1,i1,rfl⟩:=((U.mono (w2.trans (x2.trans (z0.trans (a1.trans (X.trans (Z.trans (a0.trans (x1.trans (y1.trans (z1.trans (b2.trans (c2.trans (k.trans (N.trans (k0.trans l0))))))))))))))))).form;refine me (sl (RL (RI .i32)) 32 [[.slice g1 h1 i1]] ([R]:List (List Int)) l3 ⟨⟨(.slice g1 h1 i1),rfl,U.m⟩,trivial⟩) ?_;rintro x8 x7 m0 ⟨p8,m3,u4⟩;refine wn ?_;obtain ⟨y7,w4,o0,n3,v4⟩:=m3.frz 1 rfl (t4.mono m0);refine WL.gh w4 ?_;obtain ⟨z7,y4,d2,o3,x4⟩:=n3.frz 0 rfl (u4.mono o0);refine WL.gh y4 (bn p fun b1 z4 p=>cl (qk o3 l2 ([R]:List (List Int)) v4.m x4 z4) ?_);rintro y8 c4 e2 ⟨T,rfl⟩;obtain rfl:=si p;refine va (B b1) ?_;rcases bo (b1) with M | M
   ·have q:=anT M j0;refine vb M (wn (vx (leN 45 0 [I a.Wide,I a.High,.slice y z A,I a.At.Row,I a.At.Col,B a.At.Pending,B a.Auto] (T.on 2 rfl)) (wn ?_)));have a5:=T.slf 3 rfl (D.mono (k.trans (N.trans (k0.trans (l0.trans (m0.trans (o0.trans (d2.trans e2))))))));refine bn q fun m2 b5 q=>cl (oE T (hG.m.le (by decide)) a a5 b5) ?_;rintro z8 a8 i5 ⟨_,q8,p3,rfl,c5⟩;refine wa (.slice s u x) (wn ?_);obtain ⟨b8,e5,j5,e1,d5⟩:=p3.frz 0 rfl c5;refine WL.gh e5 ?_;have f5:=e1.slf 7 rfl (u1.mono (z0.trans (a1.trans (X.trans (Z.trans (a0.trans (x1.trans (y1.trans (z1.trans (b2.trans (c2.trans (k.trans (N.trans (k0.trans (l0.trans (m0.trans (o0.trans (d2.trans (e2.trans (i5.trans j5))))))))))))))))))));refine bn q fun c1 g5 q=>cl (pL e1 m2 b.1 d5 f5 g5) ?_;rintro a9 d4 j8 ⟨q3,rfl⟩;obtain rfl:=si q;refine vv (B c1) (wln ?_);have s3:=q3.sD 8 [3,4,5,6,7];exact jn d4 ⟨s3,rfl⟩
   obtain rfl:=anF M j0;refine vb M (pz (pz (vv (B false) (wln ?_))));have t3:=T.sD 7 [2,3,4,5,6];exact jn c4 ⟨t3,rfl⟩
  obtain rfl:=anF E s1;refine vb E (pz (pz (ps (va (B false) ?_))));have t1:false=false:=rfl;obtain rfl:=anF t1 j0;refine vb t1 (pz (pz (vv (B false) (wln ?_))));obtain ⟨e4,h5,k8,u3,g8⟩:=S.frz 1 rfl (D.mono (k.trans N));exact ⟨e4,_,_,h5.symm,pt,us,u3,rfl⟩
 rintro e_ w_ ⟨f4,e8,_,rfl,l8,rfl,v3,rfl⟩;refine nrm (W.ret ?_);obtain rfl:=si f;have w3:=v3.sD 5 [];exact r1 (qq f4 ⟨d1,w3,f1.m,rfl⟩)
end Go.Proofs.YtclmdpamofdoiaaGreatDoor
namespace Go.Lt
open Go.ChangeShapes Go.WideShapes Go.RowKit
def C0 (w:World):Cx:=⟨w,fun _ _=>False,fun _ _=>none⟩
theorem II (w:World):Own (C0 w) (fun _ _=>[]) []:=
 ⟨⟨fun i e h=>by cases i <;> simp [at_] at h,fun i j e e' h=>by cases i <;> simp [at_] at h⟩,fun _ _ _=>rfl⟩
theorem im0 {w:World} {b o:Nat} {v:Value} (h:w.cell? ⟨b,o,none⟩=some v):Im (C0 w) b o v:=by
 refine ⟨?_,id,h⟩;unfold World.cell? at h;split at h
 ·rename_i hh; exact (Array.getElem?_eq_some_iff.1 hh).1
 ·cases h
theorem IB {n:Int} (h:(Lit.int .i32 n).wf=true): -2147483648≤n∧n≤2147483647:=by
 simp only [Lit.wf,IntKind.min,IntKind.max,IntKind.signed,IntKind.bits,av,ak,bw] at h;omega
def Rd (P:Program) (t:TypeId) {α:Type} (R:Rp α) (K:α→Prop):Prop:=
 P.cellsOf t=R.size∧∀{H:Type} {enc:TypeId×Value→H} {w:World} {sp:Nat→Bool} {held:Bool} {fuel:Nat} {cs:List Value} {x:DataW H×List MemPlace},
  DataW.trod enc P w 0 sp held fuel t cs=some x→∃y,R.cells (C0 w) cs y∧K y
theorem Rd.int {P:Program} {t:TypeId} {k:IntKind} (ht:P.underlying t=some (.int k)) (hc:P.cellsOf t=1):Rd P t (RI k) (fun n=>(Lit.int k n).wf=true):=
 ⟨hc,fun h=>by obtain ⟨n,rfl,_,hw⟩:=DataW.trod_int ht h; exact ⟨n,rfl,hw⟩⟩
theorem HJ {α:Type} {Q:Nat→α→Prop}:∀n,(∀i,i < n→∃x,Q i x)→∃xs:List α,xs.length=n∧∀i x,xs[i]? = some x→Q i x
 | 0,_=>⟨[],rfl,fun i x h=>by simp at h⟩
 | n+1,h=>by
  obtain ⟨xs,hl,hx⟩:=HJ n fun i hi=>h i (I6 hi);obtain ⟨y,hy⟩:=h n (Jg n);refine ⟨xs++ [y],by simp [hl],fun i x hi=>?_⟩;rw [fp] at hi;split at hi
  ·exact hx i x hi
  ·rename_i hn
   have h1:=(List.getElem?_eq_some_iff.1 hi).1;simp only [aA,aH] at h1;obtain rfl:i=n:=by omega
   rw [hl,mh] at hi;cases hi;exact hy
theorem yR {w:World} {a:Addr} {n:Nat} {cs:List Value} (h:w.cells? 0 a n=some cs):cs.length=n∧∀j u,cs[j]? = some u→w.cell? (a.add j)=some u:=by
 unfold World.cells? at h;rw [ae (cZ _)] at h;have hl:cs.length=n:=by simpa using mapM_some_length h
 refine ⟨hl,fun j u hu=>?_⟩;have hjn:j < n:=by have:=(List.getElem?_eq_some_iff.1 hu).1; omega
 have hj:=mapM_some_get h j j (di hjn);rw [hu] at hj;exact hj
theorem Rd.slice {P:Program} {t e:TypeId} {α:Type} {R:Rp α} {K:α→Prop} (ht:P.underlying t=some (.slice e)) (hc:P.cellsOf t=1) (h0:0 < R.size) (h:Rd P e R K):Rd P t (RL R) (fun xs=>xs.length≤maxLen∧∀x∈xs,K x):=by
 refine ⟨hc,fun {H enc w sp held fuel cs x} hd=>?_⟩;rcases DataW.trod_slice ht hd with ⟨rfl,_⟩ | ⟨a,len,cap,elems,rest,n,_,rfl,_,_,hl,hm,hlen,hel,_,_⟩
 ·exact ⟨[],⟨_,rfl,Sl.nl R _⟩,cZ _,fun x hx=>by cases hx⟩
 ·obtain ⟨b,o,s⟩:=a;have key:∀i,i < len→∃x,K x∧∃b' off l,(some ⟨b,o,s⟩:Option Addr)=some ⟨b',off,none⟩∧R.cells (C0 w) l x∧∀j u,l[j]? = some u→Im (C0 w) b' (off+i * R.size+j) u:=by
   intro i hi;have hs:s=none:=by
    have hE:=hel 0 (by omega);rw [af (show 0 < elems.length by omega),FP] at hE;obtain ⟨cs,hcs,_⟩:=hE;obtain ⟨c1,c2⟩:=yR hcs;have hp:0 < cs.length:=by rw [c1,h.1]; exact h0
    have:=World.cell?_spot (c2 0 _ (af hp));simpa [Addr.add] using this
   subst hs;have hE:=hel i hi;rw [af (show i < elems.length by omega),FP] at hE;obtain ⟨cs,hcs,hr⟩:=hE;obtain ⟨c1,c2⟩:=yR hcs;obtain ⟨x,hx,hk⟩:=h.2 hr;refine ⟨x,hk,b,o,cs,rfl,hx,fun j u hu=>im0 ?_⟩;have:=c2 j u hu;rw [FR,FR,h.1] at this;exact this
  obtain ⟨xs,hxl,hxs⟩:=HJ len key;subst hxl;refine ⟨xs,⟨_,rfl,some ⟨b,o,s⟩,cap,rfl,hl,hm,fun i x hx=>(hxs i x hx).2⟩,cx hl hm,fun x hx=>?_⟩;obtain ⟨i,hi⟩:=List.mem_iff_getElem?.1 hx;exact (hxs i x hi).1
section
variable {P:Program} {H:Type} {enc:TypeId×Value→H} {w:World} {sp:Nat→Bool} {held:Bool} {t:TypeId} {v:Value} {d:DataW H} {p:List MemPlace}
theorem B5 {e:TypeId} {α:Type} {R:Rp α} {K:List α→Prop} (ht:P.underlying t=some (.slice e)) (h:Rd P t (RL R) K) (hok:Value.okWide P w .any 0 t v) (hd:DataW.Trod enc P w 0 sp held t v d p):
  ∃xs,Sl R (C0 w) v xs∧K xs:=by
 obtain ⟨fuel,hd⟩:=hd;obtain ⟨xs,⟨u,hu,hs⟩,hk⟩:=h.2 hd;have:v.cells= #[v]:=by
  unfold Value.okWide at hok;simp only [ht] at hok;unfold Cell.okWide at hok
  cases v <;> simp [ht,Cell.ok] at hok⊢
  all_goals rfl
 rw [this] at hu;cases hu;exact ⟨xs,hs,hk⟩
end
theorem rO {H:Type} {enc:TypeId×Value→H} {P:Program} (hl:laidOutB P=true) {w w':World} (h:∀k,k < w.heap.size→w'.heap[k]? = w.heap[k]?) {sp:Nat→Bool}:
  ∀{ts:List TypeId} {vs:List Value} {ds:List (DataW H)} {ps:List MemPlace},(ts.all fun t=>P.readableRec t && decide (t < P.types.size))=true→(∀x∈ps,x.block < w.heap.size)→(∀x∈ps,sp x.block=true)→
  DataW.TrodAll enc P w 0 (fun _=>true) true ts vs ds ps→DataW.TrodAll enc P w' 0 sp true ts vs ds ps
 | [],[],[],_,_,_,_,hA=>hA
 | [],_ :: _,_,_,_,_,_,hA=>hA.elim
 | [],[],_ :: _,_,_,_,_,hA=>hA.elim
 | _ :: _,[],_,_,_,_,_,hA=>hA.elim
 | _ :: _,_ :: _,[],_,_,_,_,hA=>hA.elim
 | t :: ts,v :: vs,d :: ds,ps,hr,hlt,hsp,hA=>by
  obtain ⟨p,q,h1,h2,rfl⟩:=hA;simp only [List.all_cons,av,ak] at hr;refine ⟨p,q,WideElems.Trod_stays hl hr.1.1 hr.1.2 h1 (fun x hx=>?_) (fun x hx=>hsp x (fk _ hx)),rO hl h hr.2 (fun x hx=>hlt x (tX _ hx)) (fun x hx=>hsp x (tX _ hx)) h2,rfl⟩;have hb:=hlt x (fk _ hx)
  cases x with
  | cell b o=>exact ma (w:=w) (h b hb)
  | map b=>exact h b hb
theorem Bv {H:Type} {enc:TypeId×Value→H} {P:Program} {f:Func} {s:ChangeSpec} {apart fresh handsOn again:Bool} {w w':World} {args:Array Value} {v:Value} {ds gs:List (DataW H)} {ps before:List MemPlace}
  (hW:DataW.Whole enc P f.params.toList s.vars apart w args.toList ds gs before) (he:before=ps++ [])
  (hr:∀(b:Nat) (sp:Nat→Bool) (hd:Bool),DataW.TrodAll enc P w' b sp hd f.resultTypes.toList (v.resultList f.resultTypes.size) (s.fn H (ds++gs)).results [])
  (ha:∀sp:Nat→Bool,(∀x∈ps,sp x.block=true)→DataW.TrodAll enc P w' 0 sp true f.params.toList args.toList (s.fn H (ds++gs)).args ps)
  (hv:∀sp:Nat→Bool,DataW.TrodVars enc P w' sp s.vars (s.fn H (ds++gs)).vars [])
  (hg:Gr w w') (ho:∀(j:Nat) (t:TypeId) (r:Value),f.resultTypes[j]? = some t→(v.resultList f.resultTypes.size)[j]? = some r→Value.okWide P w' .any 0 t r):s.post enc P f apart fresh handsOn again w args v w':=by
 rw [dI] at he;subst he;have hlt:∀x∈before,x.block < w.heap.size:=fun x hx=>hW.lt x hx;refine ⟨ds,gs,before,[],before,[],hW,hr _ _ _,ha _ (fun x hx=>vh (hlt x hx)),hv _,IV (fun x hx=>⟨hx,.inr (.inl hx)⟩) (hg.frame (· ∈before)),fun _=>?_⟩;obtain ⟨_,_,_,_,_,hz,hn⟩:=hW;refine ⟨ho,_,_,([]++before)++ [],⟨[]++before,[],trodAll_append (ha _ fun _ _=>rfl) (hr _ _ _),hv _,rfl,fun b off hb=>?_,fun e=>?_⟩,fun x hx _=>by simpa using hx⟩
 ·have hb':MemPlace.cell b off∈before:=by simpa using hb
  have:=hlt _ hb';rw [hg.2.1 ⟨b,off,none⟩ this];exact hz b off (by simpa using hb')
 ·simpa using hn e
theorem HU {P:Program} {laid:List (String×DataW Unit)} {w:World} (h:(laid.filter fun x=>x.2.handleName?.isSome)= []):laidMetH P laid w=laidMet P laid w:=by
 unfold laidMetH;rw [h]
theorem wy {P:Program} {W:World} {ti tp te ts:TypeId} {ms:Array (String×TypeId)} {f:Field} (hi:P.underlying ti=some (.interface ms)) (hrow:∀u,P.typeName? 3 u=some "*errors.errorString"→u=tp)
  (hp:P.underlying tp=some (.pointer te)) (he:P.underlying te=some (.struct #[f])) (hft:f.type=ts) (hfo:f.offset=0) (hs:P.underlying ts=some .string) (hc:P.cellsOf te=1) (hcs:P.cellsOf ts=1):
  ∀{laid:List (String×DataW Unit)} {ps:List MemPlace},DataW.LaidVars P W laid ps→(∀b off,MemPlace.cell b off∈ps→(∃c t,W.heap[b]? = some (.cells c t (0,0)))∧∀u v,W.cell? ⟨b,off,none⟩=some (.iface u v)→Value.okWide P W .any 0 u v)→
  ∀n text g,(n,DataW.iface "*errors.errorString" (.ptr (.agg [.lit (.string text)])))∈laid→P.globalNamed n=some g→(P.globals[g]?).map (·.type)=some ti→∃a s,W.cell? ⟨g,0,none⟩=some (.iface tp (.pointer (some a)))∧W.cell? a=some (.string s)∧s.data.toList=text∧∃c t,W.heap[a.block]? = some (.cells c t (0,0))
 | [],_,_,_,_,_,_,hm,_,_=>by cases hm
 | (n',d) :: r,ps,⟨g',t,cs,fuel,p,q,hg',ht',hv,hd,hr,e⟩,hrows,n,text,g,hm,hg,ht=>by
  subst e;rcases List.mem_cons.1 hm with hh | hm
  ·cases hh;obtain rfl:=bb (hg.symm.trans hg');obtain rfl:=bb (ht.symm.trans ht');obtain ⟨l⟩:=cs;have ok:∀u v,l= [.iface u v]→Value.okWide P W .any 0 u v:=fun u v e=>by
    subst e;exact (hrows g 0 (by simp [MemPlace.row])).2 u v (by simpa using Jq hg hv 0)
   obtain ⟨a,s,rfl,h1,h2,_,rfl⟩:=errorString_of_trod hi hrow hp he hft hfo hs hc hcs hd ok;exact ⟨a,s,by simpa using Jq hg hv 0,h1,h2,(hrows a.block a.off (by simp [MemPlace.row])).1⟩
  ·exact wy hi hrow hp he hft hfo hs hc hcs hr (fun b off hb=>hrows b off (tX _ hb)) n text g hm hg ht
theorem GJ {P:Program} {f:FuncId} {fn:Func} {s:ChangeSpec} {c:OpenClaim} (l1:laidOutB P=true) (l2:mapsRowed P=true) (l3:(P.stops== [])=true) (l4:(P.stopKnobs== [])=true) (l5:P.stopsHeard=true) (l6:P.mayEnter=true)
  (l7:(c.lifted==P.liftsFinal)=true) (l8:(P.make==some c.make)=true) (l9:(c.plainKeys==P.plainKeys)=true)
  (a0:c.wf (OpenSpec.ofChange s)=true) (a1:(fn.params.all (P.readableRec ·) && namedTie P c.named s.vars && (c.stops== []) && (c.knobs== []))=true)
  (a2:(c.inPlace==P.inPlace f)=true) (a3:(c.unfollowed==P.unfollowed f)=true) (a4:(c.recurses==P.recurses f)=true) (a5:(c.named==P.varsNamed f)=true)
  (a6:((c.maps==(fn.params.toList++s.plain.varTypes P).any (P.mapsRec ·)) && (c.ifaces==(fn.params.toList++s.plain.varTypes P).any (P.ifacesRec ·)) && (c.mapsOut==P.mapsAmong fn.resultTypes.toList) &&
   (c.loops==(fn.params.toList++s.plain.varTypes P).any (P.loopsFrom ·)) && (c.wideKeys==(fn.params.toList++s.plain.varTypes P++fn.resultTypes.toList).any (P.wideKeysFrom ·)) &&
   s.vars.all (P.varReadable ·) && fn.resultTypes.all (fun t=>P.readableRec t && decide (t < P.types.size)) && (c.ifacesOut==fn.resultTypes.toList.any (P.ifacesRec ·)) && (c.loopsOut==fn.resultTypes.toList.any (P.loopsFrom ·)))=true)
  (a7:(c.shortTexts.isNone && (c.kinds==(if c.domain.isEmpty then [] else fn.params.toList.map fun t=>match P.underlying t with | some (.int k)=>some k | _=>none)) && (c.pinned==c.pinnedBy) &&
   (c.veiled==(fn.params.toList++s.plain.varTypes P++fn.resultTypes.toList).any (P.veiledRec ·)) && c.veiledFits P fn.params.toList (fn.params.toList++s.plain.varTypes P++fn.resultTypes.toList))=true):joinedFacts P f fn s c=true:=by
 simp only [av] at a1 a6 a7;obtain ⟨⟨⟨b1,b2⟩,b3⟩,b4⟩:=a1;obtain ⟨⟨⟨⟨⟨⟨⟨⟨c1,c2⟩,c3⟩,c4⟩,c5⟩,c6⟩,c7⟩,c8⟩,c9⟩:=a6;obtain ⟨⟨⟨⟨d1,d2⟩,d3⟩,d4⟩,d5⟩:=a7;unfold joinedFacts;simp only [av];exact ⟨⟨⟨⟨⟨⟨⟨⟨⟨⟨⟨⟨⟨⟨⟨⟨⟨⟨⟨⟨⟨⟨⟨⟨⟨⟨⟨⟨⟨⟨⟨a0,l1⟩,l2⟩,b1⟩,b2⟩,b3⟩,l3⟩,b4⟩,l4⟩,a2⟩,a3⟩,a4⟩,a5⟩,c1⟩,c2⟩,c3⟩,c4⟩,c5⟩,c6⟩,c7⟩,c8⟩,c9⟩,l9⟩,d1⟩,l5⟩,l6⟩,l7⟩,l8⟩,d2⟩,d3⟩,d4⟩,d5⟩
end Go.Lt
namespace Go.Proofs.YtclmdpamofdoiaaGreatDoor
open Go Go.Lt
set_option linter.unusedVariables false
def Iw (n:Int):Prop:=(Lit.int .i32 n).wf=true
theorem I2:Rd Tryz.prog 21 (RI .i32) Iw:=Rd.int Tryz.underlying21 (by kernel_rfl)
def IY (xs:List Int):Prop:=xs.length≤maxLen∧∀x∈xs,Iw x
theorem I1:Rd Tryz.prog 32 (RL (RI .i32)) IY:=Rd.slice Tryz.underlying32 (by kernel_rfl) (by decide) I2
theorem IG (w:World):Rel (C0 w) ⟨[],[],[],[],[],[],[]⟩ (fun _ _=>[]):=
 ⟨⟨fun k x h=>by simp at h,fun _ _=>rfl⟩,⟨fun k x h=>by simp at h,fun _ _=>rfl⟩,⟨fun k x h=>by simp at h,fun _ _=>rfl⟩,⟨fun k x h=>by simp at h,fun _ _=>rfl⟩,⟨fun k x h=>by simp at h,fun _ _=>rfl⟩,⟨fun k x h=>by simp at h,fun _ _=>rfl⟩,⟨fun k x h=>by simp at h,fun _ _=>rfl⟩⟩
theorem Hx: "*" ++ "errors.errorString" = "*errors.errorString" :=by decide
set_option maxRecDepth 100000 in
theorem Co (u:TypeId) (h:Tryz.prog.typeName? 3 u=some "*errors.errorString"):u=350:=
 typeName_ptr_named (nm:= "errors.errorString") (by rw [Hx]; kernel_rfl) (by kernel_rfl) (by decide) u (by rw [Hx]; exact h)
set_option maxRecDepth 100000 in
theorem uk {W:World} {laid:List (String×DataW Unit)} (h:laidMetH Tryz.prog laid W) (hf:(laid.filter fun x=>x.2.handleName?.isSome)= []) (n:String) (text:List UInt8) (g:Nat)
  (hm:(n,DataW.iface "*errors.errorString" (.ptr (.agg [.lit (.string text)])))∈laid) (hg:Tryz.prog.globalNamed n=some g) (ht:(Tryz.prog.globals[g]?).map (·.type)=some 66):
  ∃a s,Im (C0 W) g 0 (.iface 350 (.pointer (some a)))∧W.cell? a=some (.string s)∧s.data.toList=text∧RE 350 144 (C0 W) (.iface 350 (.pointer (some a))) (.sent g):=by
 rw [HU hf] at h;obtain ⟨ps,hl,_,hr⟩:=h;obtain ⟨a,s,h1,h2,h3,cs,t,h4⟩:=wy Tryz.underlying66 Co Tryz.underlying350 Tryz.underlying371 rfl rfl Tryz.underlying9 (by kernel_rfl) (by kernel_rfl) hl hr n text g hm hg ht;exact ⟨a,s,im0 h1,h2,h3,a,rfl,im0 h1,(Array.getElem?_eq_some_iff.1 h4).1,fun _=>id,cs,t,h4⟩
theorem GM {W:World} {n:List Nat} (tx:Nat→List UInt8) (h:∀g,g∈n→∃a s,Im (C0 W) g 0 (.iface 350 (.pointer (some a)))∧W.cell? a=some (.string s)∧s.data.toList=tx g∧RE 350 144 (C0 W) (.iface 350 (.pointer (some a))) (.sent g))
  (hd:∀g,g∈n→∀g',g'∈n→tx g=tx g'→g=g'):Gl n (C0 W):=by
 refine ⟨fun g hg=>?_,fun g g' hg hg' hne a h1 h2=>?_⟩
 ·obtain ⟨a,_,_,_,_,h4⟩:=h g hg;exact ⟨_,h4⟩
 ·obtain ⟨a1,s1,e1,e2,e3,_⟩:=h g hg;obtain ⟨a2,s2,f1,f2,f3,_⟩:=h g' hg';have q1:=e1.cell.symm.trans h1.cell;have q2:=f1.cell.symm.trans h2.cell;cases q1;cases q2;have q3:=e2.symm.trans f2;cases q3;exact hne (hd g hg g' hg' (e3.symm.trans f3))
end Go.Proofs.YtclmdpamofdoiaaGreatDoor
namespace Go.Proofs.YtclmdpamofdoiaaGreatDoor
structure Sg where
 some:Bool
 last:Int
 pict:Int
 conj:Int
 odd:Bool
def sg0:Sg:=⟨false,0,0,0,false⟩
def nxP (s:Int) (p:ao):Int:=if p.Pict=true then 1 else if s=1∧p.Break=4 then 1 else if s=1∧p.Break=5 then 2 else 0
def nxC (s:Int) (p:ao):Int:=if p.Conj=1 then 1 else if s=0 then 0 else if p.Conj=2 then 2 else if p.Conj=3 then s else 0
def sgN (s:Sg) (p:ao):Sg:=⟨true,p.Break,nxP s.pict p,nxC s.conj p,p.Break==6 && !(s.some && s.last==6 && s.odd)⟩
def sgF (l:List ao):Sg:=l.foldl sgN sg0
def sgJ (pj:Int→Int→Int) (s:Sg) (p:ao):Bool:=
 s.some && ((p.Conj==1 && s.conj==2) || (p.Pict && s.pict==2) || pj s.last p.Break==1 || (pj s.last p.Break==2 && s.last==6 && s.odd))
def cj:List ao→Nat→Bool
 | [],_=>false
 | x :: l,n=>if x.Conj=1 then decide (0 < n) else if x.Conj=2 then cj l (n+1) else if x.Conj=3 then cj l n else false
def pk:List ao→Bool
 | []=>false
 | x :: l=>if x.Pict=true then true else if x.Break=4 then pk l else false
def ri:List ao→Nat
 | []=>0
 | x :: l=>if x.Break=6 then ri l+1 else 0
def rj (pj:Int→Int→Int) (l:List ao) (p:ao):Bool:=
 match l with
 | []=>false
 | a :: l'=>pj a.Break p.Break==1 || (p.Conj==1 && cj (a :: l') 0) || (p.Pict && (!a.Pict && a.Break==5 && pk l')) || (pj a.Break p.Break==2 && p.Break==6 && ri (a :: l') % 2==1)
def pst:List ao→Int
 | []=>0
 | x :: l=>nxP (pst l) x
def cst:List ao→Int
 | []=>0
 | x :: l=>nxC (cst l) x
def hb:List ao→Int
 | []=>0
 | x :: _=>x.Break
def od:List ao→Bool
 | []=>false
 | x :: l=>x.Break==6 && !(!l.isEmpty && hb l==6 && od l)
theorem F9 (l:List ao):sgF l=⟨!l.reverse.isEmpty,hb l.reverse,pst l.reverse,cst l.reverse,od l.reverse⟩:=by
 have key:∀r:List ao,sgF r.reverse=⟨!r.isEmpty,hb r,pst r,cst r,od r⟩:=by
  intro r
  induction r with
  | nil=>rfl
  | cons x r ih=>
   unfold sgF at ih⊢;rw [I7,lu,ih];rfl
 have:=key l.reverse
 rwa [It] at this
theorem Gh (l:List ao):pk l=decide (pst l=1):=by
 induction l with
 | nil=>rfl
 | cons x l ih=>
  unfold pk pst nxP;by_cases h1:x.Pict=true
  ·rw [ae h1,ae h1]; rfl
  ·rw [ab h1,ab h1];by_cases h2:x.Break=4
   ·rw [ae h2,ih];by_cases h3:pst l=1
    ·rw [ae ⟨h3,h2⟩]; simp [h3]
    ·rw [ab (fun q=>h3 q.1),ab (fun q=>h3 q.1)]; simp [h3]
   ·rw [ab h2,ab (fun q=>h2 q.2)];split <;> rfl
theorem G3 (l:List ao) (n:Nat):cj l n=decide (cst l=2∨(cst l≠0∧0 < n)):=by
 induction l generalizing n with
 | nil=>rfl
 | cons x l ih=>
  unfold cj cst nxC;by_cases h1:x.Conj=1
  ·rw [ae h1,ae h1];simp
  ·rw [ab h1,ab h1];by_cases h2:x.Conj=2
   ·rw [ae h2,ih];by_cases h0:cst l=0
    ·rw [ae h0]; simp [h0]
    ·rw [ab h0,ae h2]; simp [h0]
   ·rw [ab h2];by_cases h3:x.Conj=3
    ·rw [ae h3,ih];by_cases h0:cst l=0
     ·rw [ae h0,h0]
     ·rw [ab h0,ab h2,ae h3]
    ·rw [ab h3];by_cases h0:cst l=0
     ·rw [ae h0]; rfl
     ·rw [ab h0,ab h2,ab h3]; rfl
theorem HB (l:List ao):od l=(ri l % 2==1):=by
 induction l with
 | nil=>rfl
 | cons x l ih=>
  unfold od ri;by_cases h:x.Break=6
  ·rw [ae h,ih];have hb':(x.Break==6)=true:=by simp [h]
   rw [hb',dN]
   cases l with
   | nil=>rfl
   | cons y l=>
    by_cases h2:y.Break=6
    ·have e:(hb (y :: l)==6)=true:=by simp [hb,h2]
     rw [e];simp only [I9,eX,dN];rw [ce];simp only [dq,eG,aN];omega
    ·have e:(hb (y :: l)==6)=false:=by simp [hb,h2]
     rw [e];simp only [DY,jk,eX];have:ri (y :: l)=0:=by unfold ri; rw [ab h2]
     rw [this];rfl
  ·rw [ab h];simp [h]
theorem F8 (pj:Int→Int→Int) (hp:∀a b,pj a b=2→(a=6↔b=6)) (l:List ao) (p:ao):sgJ pj (sgF l) p=rj pj l.reverse p:=by
 rw [F9];generalize l.reverse=r
 cases r with
 | nil=>rfl
 | cons a r=>
  unfold sgJ rj;simp only [I9,eX,dN,hb];rw [G3,Gh,←HB];have e1:(cst (a :: r)==2)=decide (cst (a :: r)=2∨(cst (a :: r)≠0∧0 < 0)):=by
   rw [ce]; simp
  have e2:(pst (a :: r)==2)=(!a.Pict && a.Break==5 && decide (pst r=1)):=by
   rw [ce];simp only [aN,av,dq,ak];show nxP (pst r) a=2↔_;unfold nxP;by_cases h1:a.Pict=true
   ·rw [ae h1,h1]; simp
   ·rw [ab h1];simp only [Af] at h1;by_cases h2:pst r=1∧a.Break=4
    ·rw [ae h2]; simp [h1,h2]
    ·rw [ab h2];by_cases h3:pst r=1∧a.Break=5
     ·rw [ae h3]; simp [h1,h3]
     ·rw [ab h3];simp only [h1];constructor
      ·intro e; exact absurd e (by decide)
      ·rintro ⟨⟨_,q1⟩,q2⟩; exact absurd ⟨q2,q1⟩ h3
  have e3:(pj a.Break p.Break==2 && a.Break==6 && od (a :: r))=(pj a.Break p.Break==2 && p.Break==6 && od (a :: r)):=by
   by_cases h:pj a.Break p.Break=2
   ·have e6:(a.Break==6)=(p.Break==6):=by
     rw [ce,aN,aN];exact hp _ _ h
    rw [e6]
   ·have e7:(pj a.Break p.Break==2)=false:=by rw [eG]; exact h
    rw [e7];rfl
  rw [e1,e2,e3]
  cases (p.Conj==1 && decide (cst (a :: r)=2∨(cst (a :: r)≠0∧0 < 0))) <;> cases (p.Pict && (!a.Pict && a.Break==5 && decide (pst r=1))) <;> cases (pj a.Break p.Break==1) <;> rfl
structure Sq (s t:Sg):Prop where
 pict:s.pict=t.pict
 conj:s.conj=t.conj
 odd:s.odd=t.odd
theorem F7 {s t:Sg} (h:Sq s t) (h1:s.odd=true→s.some=true∧s.last=6) (h2:t.odd=true→t.some=true∧t.last=6) (p:ao):sgN s p=sgN t p:=by
 unfold sgN;rw [h.pict,h.conj]
 congr 2
 have:(s.some && s.last==6 && s.odd)=(t.some && t.last==6 && t.odd):=by
  have ho:=h.odd;rw [ce];simp only [av,aN];constructor
  ·rintro ⟨_,q⟩;have:=h2 (ho▸ q);exact ⟨this,ho▸ q⟩
  ·rintro ⟨_,q⟩;have:=h1 (ho▸ q);exact ⟨this,ho▸ q⟩
 rw [this]
end Go.Proofs.YtclmdpamofdoiaaGreatDoor
namespace Go.Proofs.YtclmdpamofdoiaaGreatDoor
def DQ (c:List (List Int)) (r:Int):List (List Int):=c.dropLast++ [c.getLast?.getD []++ [r]]
theorem kC (c:List (List Int)) (x:List Int) (r:Int):DQ (c++ [x]) r=c++ [x++ [r]]:=by
 unfold DQ;simp
section
variable (pj:Int→Int→Int) (pr:Int→ao)
def clS (l:List Int):List (List Int)×Sg:=l.foldl (fun a r=>(if sgJ pj a.2 (pr r)=true then DQ a.1 r else a.1++ [[r]],sgN a.2 (pr r))) ([],sg0)
def cls (l:List Int):List (List Int):=(clS pj pr l).1
def jn (l:List Int) (r:Int):Bool:=sgJ pj (sgF (l.map pr)) (pr r)
theorem nT (l:List ao) (x:ao):sgF (l++ [x])=sgN (sgF l) x:=by
 unfold sgF;rw [lu];rfl
theorem Ii (l:List Int):(clS pj pr l).2=sgF (l.map pr):=by
 have key:∀(l:List Int) (a:List (List Int)×Sg),(l.foldl (fun a r=>(if sgJ pj a.2 (pr r)=true then DQ a.1 r else a.1++ [[r]],sgN a.2 (pr r))) a).2=(l.map pr).foldl sgN a.2:=by
  intro l
  induction l with
  | nil=>intro a; rfl
  | cons r l ih=>intro a; rw [tL,ih,eV,tL]
 exact key l _
theorem un:cls pj pr []= []:=rfl
theorem lM (l:List Int) (r:Int):cls pj pr (l++ [r])=if jn pj pr l r=true then DQ (cls pj pr l) r else cls pj pr l++ [[r]]:=by
 unfold cls jn;rw [←Ii pj];unfold clS;rw [lu];rfl
theorem tD {l:List Int} {r:Int} (h:jn pj pr l r=true):l≠ []:=by
 rintro rfl;simp [jn,sgJ,sgF,sg0] at h
end
theorem nS {P:List Int→Prop} (h0:P []) (h1:∀l r,P l→P (l++ [r])) (l:List Int):P l:=by
 have key:∀l:List Int,P l.reverse:=by
  intro l
  induction l with
  | nil=>exact h0
  | cons r l ih=>rw [I7]; exact h1 _ _ ih
 have:=key l.reverse
 rwa [It] at this
theorem fq {α:Type} {l:List α} (h:l≠ []):∃l0 x,l=l0++ [x]:=⟨l.dropLast,l.getLast h,(List.dropLast_concat_getLast h).symm⟩
variable {pj:Int→Int→Int} {pr:Int→ao}
theorem kP (l:List Int):(cls pj pr l).flatten=l∧(∀c∈cls pj pr l,c≠ [])∧(l≠ []→cls pj pr l≠ []):=by
 refine nS (P:=fun l=>(cls pj pr l).flatten=l∧(∀c∈cls pj pr l,c≠ [])∧(l≠ []→cls pj pr l≠ [])) ⟨rfl,fun c hc=>by simp [un] at hc,fun h=>absurd rfl h⟩ (fun l r ih=>?_) l;obtain ⟨h1,h2,h3⟩:=ih;rw [lM];split
 ·rename_i hj
  obtain ⟨c0,x,e⟩:=fq (h3 (tD pj pr hj));rw [e] at h1 h2⊢;rw [kC];refine ⟨?_,fun c hc=>?_,fun _=>by simp⟩
  ·rw [←h1]; simp
  ·rcases List.mem_append.1 hc with hc | hc
   ·exact h2 c (fk _ hc)
   ·rw [List.mem_singleton.1 hc]; simp
 ·refine ⟨by rw [my,h1]; simp,fun c hc=>?_,fun _=>by simp⟩;rcases List.mem_append.1 hc with hc | hc
  ·exact h2 c hc
  ·rw [List.mem_singleton.1 hc]; simp
theorem yQ {l:List Int} {x:Int} {c0:List (List Int)} {c:List Int} (h:cls pj pr (l++ [x])=c0++ [c]):∃c',c=c'++ [x]:=by
 obtain ⟨h1,h2,_⟩:=kP (pj:=pj) (pr:=pr) (l++ [x]);rw [h] at h1 h2;obtain ⟨c',y,rfl⟩:=fq (h2 c (by simp));refine ⟨c',?_⟩;rw [my] at h1;simp only [fV,Ji,dI] at h1;rw [←aC] at h1;have:=Hm h1 rfl;rw [List.singleton_inj.1 this]
section
variable (pj:Int→Int→Int) (pr:Int→ao)
def sts (l:List Int):List Nat:=(List.range l.length).filter fun i=> !jn pj pr (l.take i) (l.getD i 0)
theorem ux (l:List Int) (r:Int):sts pj pr (l++ [r])=sts pj pr l++(if jn pj pr l r=true then [] else [l.length]):=by
 unfold sts;rw [ai,Hp,oU,List.filter_append]
 congr 1
 ·refine List.filter_congr fun i hi=>?_;have hi:=List.mem_range.1 hi;rw [dA (by omega)]
  congr 2
  rw [an,an,ax hi]
 ·rw [List.filter_cons,List.filter_nil];have e1:(l++ [r]).take l.length=l:=by simp
  have e2:(l++ [r]).getD l.length 0=r:=by simp
  rw [e1,e2]
  cases jn pj pr l r <;> rfl
end
theorem zk {l:List Int} {i:Nat} (h:i∈sts pj pr l):i < l.length:=by
 unfold sts at h;exact List.mem_range.1 (List.mem_filter.1 h).1
theorem FZ {l:List Int} (h:l≠ []):sts pj pr l≠ []:=by
 refine nS (P:=fun l=>l≠ []→sts pj pr l≠ []) (fun h=>absurd rfl h) (fun l r ih _=>?_) l h;rw [ux];split
 ·rename_i hj
  intro e;exact ih (tD pj pr hj) (by simpa using e)
 ·simp
def slx (l:List Int) (a b:Nat):List Int:=(l.drop a).take (b - a)
def pcs (l:List Int) (a:List Nat):List (List Int):=(List.range (a.length - 1)).map fun i=>slx l (a.getD i 0) (a.getD (i+1) 0)
theorem uM (l:List Int) (B:List Nat) (a b:Nat):pcs l (B++ [a]++ [b])=pcs l (B++ [a])++ [slx l a b]:=by
 unfold pcs;have e1:(B++ [a]++ [b]).length - 1=B.length+1:=by simp
 have e2:(B++ [a]).length - 1=B.length:=by simp
 rw [e1,e2,oU,bd]
 congr 1
 ·refine cV fun i hi=>?_;have hi:=List.mem_range.1 hi;have g:∀j,j < B.length+1→(B++ [a]++ [b]).getD j 0=(B++ [a]).getD j 0:=fun j hj=>by
   rw [an,an,ax (by simp; omega)]
  rw [g i (by omega),g (i+1) (by omega)]
 ·simp
theorem D5 {l:List Int} {a b:Nat} (h:b≤l.length) (r:List Int):slx (l++r) a b=slx l a b:=by
 unfold slx;rcases aP a l.length with ha | ha
 ·rw [gU (by omega),dA (by simp; omega)]
 ·rw [show b - a=0 by omega,eU,eU]
theorem Az {l:List Int} {A:List Nat} (h:∀a∈A,a≤l.length) (r:List Int):pcs (l++r) A=pcs l A:=by
 unfold pcs;refine cV fun i hi=>?_;have hi:=List.mem_range.1 hi;refine D5 ?_ r;rw [an,af (by omega)];exact h _ (aB _)
theorem xQ {l:List Int} {a:Nat} (h:a≤l.length) (r:Int):slx (l++ [r]) a (l.length+1)=slx l a l.length++ [r]:=by
 unfold slx;rw [gU h,aK (by simp; omega),aK (by simp)]
theorem EB (l:List Int):pcs l (sts pj pr l++ [l.length])=cls pj pr l:=by
 refine nS (P:=fun l=>pcs l (sts pj pr l++ [l.length])=cls pj pr l) rfl (fun l r ih=>?_) l;have hle:∀a∈sts pj pr l++ [l.length],a≤l.length:=fun a ha=>by
  rcases List.mem_append.1 ha with ha | ha
  ·exact tu (zk ha)
  ·rw [List.mem_singleton.1 ha]; exact aw _
 rw [lM,ux,ai,Hp];split
 ·rename_i hj
  obtain ⟨B,a,e⟩:=fq (FZ (pj:=pj) (pr:=pr) (tD pj pr hj));rw [e] at ih hle⊢;rw [dI,uM,←ih,uM,kC,xQ (hle a (by simp)),Az (fun x hx=>hle x (fk _ hx))]
 ·rw [uM,Az hle,ih,xQ (aw _)];simp [slx]
structure Sil (pj:Int→Int→Int) (pr:Int→ao) (sil:Int→Bool):Prop where
 s:∀r,sil r=true→((pr r).Break=1∨(pr r).Break=2∨(pr r).Break=3)∧(pr r).Pict=false∧(pr r).Conj=0
 ja:∀a b,(a=1∨a=2∨a=3)→pj a b≠0→a=1∧b=2
 jb:∀a b,(b=1∨b=2∨b=3)→pj a b≠0→a=1∧b=2
 b:∀r,(pr r).Break=1∨(pr r).Break=2→sil r=true
variable {sil:Int→Bool}
theorem Sil.state (h:Sil pj pr sil) (l:List Int) {x:Int} (hx:sil x=true):sgF ((l++ [x]).map pr)=⟨true,(pr x).Break,0,0,false⟩:=by
 obtain ⟨h1,h2,h3⟩:=h.s x hx;rw [bd,kG,nT];unfold sgN nxP nxC;rw [h2,h3,ab (by simp),ab (by omega),ab (by omega),ab (by omega)]
 congr 1
 ·split <;> rfl
 ·have e:((pr x).Break==6)=false:=by rw [eG]; omega
  rw [e,jk]
theorem Sil.no (h:Sil pj pr sil) (l:List Int) {x r:Int} (hx:sil x=true) (hr:sil r=false):jn pj pr (l++ [x]) r=false:=by
 obtain ⟨h1,_,_⟩:=h.s x hx;unfold jn;rw [h.state l hx];have hz:pj (pr x).Break (pr r).Break=0:=Classical.byContradiction fun hne=>by
  have:=h.b r (.inr (h.ja _ _ h1 hne).2);rw [hr] at this;cases this
 simp [sgJ,hz]
theorem Sil.new (h:Sil pj pr sil) (l:List Int) {x:Int} (hx:sil x=true) (p:ao):sgN (sgF ((l++ [x]).map pr)) p=sgN sg0 p:=by
 rw [h.state l hx];exact F7 (s:=⟨true,(pr x).Break,0,0,false⟩) (t:=sg0) ⟨rfl,rfl,rfl⟩ (fun e=>by simp at e) (fun e=>by simp [sg0] at e) p
theorem Sil.yes (h:Sil pj pr sil) {l:List Int} {r:Int} (hr:sil r=true) (hj:jn pj pr l r=true):∃l0 x,l=l0++ [x]∧sil x=true:=by
 obtain ⟨l0,x,rfl⟩:=fq (tD pj pr hj);refine ⟨l0,x,rfl,?_⟩;obtain ⟨h1,h2,h3⟩:=h.s r hr;unfold jn at hj;rw [bd,kG,nT] at hj;have hl:(sgN (sgF (l0.map pr)) (pr x)).last=(pr x).Break:=rfl;unfold sgJ at hj;rw [h2,h3,hl] at hj;have hz:pj (pr x).Break (pr r).Break≠0:=fun e=>by
  rw [e] at hj;simp at hj
 exact h.b x (.inl (h.jb _ _ h1 hz).1)
theorem Sil.all (h:Sil pj pr sil) (l:List Int):∀c∈cls pj pr l,(∀x∈c,sil x=true)∨∀x∈c,sil x=false:=by
 refine nS (P:=fun l=>∀c∈cls pj pr l,(∀x∈c,sil x=true)∨∀x∈c,sil x=false) (fun c hc=>by simp [un] at hc) (fun l r ih=>?_) l;rw [lM];split
 ·rename_i hj
  obtain ⟨l0,x,rfl⟩:=fq (tD pj pr hj);obtain ⟨c0,c,e⟩:=fq ((kP (pj:=pj) (pr:=pr) (l0++ [x])).2.2 (by simp));obtain ⟨c',rfl⟩:=yQ e;rw [e] at ih⊢;rw [kC];intro d hd;rcases List.mem_append.1 hd with hd | hd
  ·exact ih d (fk _ hd)
  ·rw [List.mem_singleton.1 hd];have hc:=ih (c'++ [x]) (by simp)
   cases hr:sil r with
   | true=>
    obtain ⟨l1,y,e1,hy⟩:=h.yes hr hj;have:x=y:=List.singleton_inj.1 (Hm e1 rfl);subst this
    left
    rcases hc with hc | hc
    ·intro z hz;rcases List.mem_append.1 hz with hz | hz
     ·exact hc z hz
     ·rw [List.mem_singleton.1 hz]; exact hr
    ·have:=hc x (by simp);rw [hy] at this;cases this
   | false=>
    right
    rcases hc with hc | hc
    ·have:=h.no l0 (hc x (by simp)) hr;rw [this] at hj;cases hj
    ·intro z hz;rcases List.mem_append.1 hz with hz | hz
     ·exact hc z hz
     ·rw [List.mem_singleton.1 hz]; exact hr
 ·intro d hd;rcases List.mem_append.1 hd with hd | hd
  ·exact ih d hd
  ·rw [List.mem_singleton.1 hd]
   cases hr:sil r with
   | true=>left; intro z hz; rw [List.mem_singleton.1 hz]; exact hr
   | false=>right; intro z hz; rw [List.mem_singleton.1 hz]; exact hr
end Go.Proofs.YtclmdpamofdoiaaGreatDoor
namespace Go.Lt
theorem wA {σ τ β:Type} {step:σ→Option (σ ⊕ τ)} {fuel:Nat} {s:σ} {k:τ→Option β} {r:Option β} (Inv:σ→Prop) (μ:σ→Nat) (post:τ→Prop)
  (h:∀s,Inv s→(∃s',step s=some (.inl s')∧Inv s'∧μ s' < μ s)∨∃t,step s=some (.inr t)∧post t) (h0:Inv s) (hf:μ s < fuel) (hk:∀t,post t→k t=r):(cJ fuel step s).bind k=r:=by
 obtain ⟨t,e1,e2⟩:=kH Inv μ post h fuel s h0 hf;rw [e1];exact hk t e2
theorem BG {σ τ β:Type} {step:σ→Option (σ ⊕ τ)} {fuel:Nat} {s:σ} {k:τ→Option β} {p:β→Prop} (Inv:σ→Prop) (μ:σ→Nat) (post:τ→Prop)
  (h:∀s,Inv s→(∃s',step s=some (.inl s')∧Inv s'∧μ s' < μ s)∨∃t,step s=some (.inr t)∧post t) (h0:Inv s) (hf:μ s < fuel) (hk:∀t,post t→∃r,k t=some r∧p r):∃r,(cJ fuel step s).bind k=some r∧p r:=by
 obtain ⟨t,e1,e2⟩:=kH Inv μ post h fuel s h0 hf;rw [e1];exact hk t e2
theorem Ft {α σ τ:Type} {x:Option α} {k:α→Option (σ ⊕ τ)} {A:σ→Prop} {B:τ→Prop} (post:α→Prop) (hx:∃t,x=some t∧post t)
  (hk:∀t,post t→(∃s',k t=some (.inl s')∧A s')∨∃u,k t=some (.inr u)∧B u):(∃s',x.bind k=some (.inl s')∧A s')∨∃t,x.bind k=some (.inr t)∧B t:=by
 obtain ⟨t,e1,e2⟩:=hx;rw [e1];exact hk t e2
variable {α:Type} {lo hi:α→Int}
def rQ (lo hi:α→Int):List α→Bool
 | []=>true
 | x :: l=>decide (lo x≤hi x) && (match l with | []=>true | y :: _=>decide (hi x < lo y)) && rQ lo hi l
theorem wO:∀{T:List α},rQ lo hi T=true→∀i (h:i < T.length),lo T[i]≤hi T[i]
 | [],_,i,h=>by simp at h
 | x :: l,hs,i,h=>by
  simp only [rQ,av,ak] at hs
  cases i with
  | zero=>exact hs.1.1
  | succ i=>exact wO hs.2 i (by simpa using h)
theorem qz:∀{T:List α},rQ lo hi T=true→∀i j (h:j < T.length),(hij:i < j)→hi (T[i]'(by omega)) < lo T[j]
 | [],_,i,j,h,_=>by simp at h
 | x :: l,hs,i,j,h,hij=>by
  have hs0:=hs;simp only [rQ,av,ak] at hs
  cases j with
  | zero=>omega
  | succ j=>
   have hj:j < l.length:=by simpa using h
   cases i with
   | succ i=>exact qz hs.2 i j hj (by omega)
   | zero=>
    cases l with
    | nil=>simp at hj
    | cons y l'=>
     have h1:hi x < lo y:=by simpa using hs.1.2
     cases j with
     | zero=>exact h1
     | succ j=>
      have h2:=qz hs.2 0 (j+1) hj (by omega);have h3:=wO hs.2 0 (by simp);simp only [Hj] at h2 h3;simp only [Hj,Hk] at h2⊢;omega
def onn (lo hi:α→Int) (r:Int) (x:α):Bool:=decide (lo x≤r) && decide (r≤hi x)
theorem mz {r:Int} {x:α}:onn lo hi r x=true↔lo x≤r∧r≤hi x:=by simp [onn]
theorem CX {T:List α} (hs:rQ lo hi T=true) {r:Int} {i j:Nat} (hi':i < T.length) (hj:j < T.length) (h1:onn lo hi r T[i]=true) (h2:onn lo hi r T[j]=true):i=j:=by
 rw [mz] at h1 h2;rcases Nat.lt_trichotomy i j with h | h | h
 ·have:=qz hs i j hj h;omega
 ·exact h
 ·have:=qz hs j i hi' h;omega
def fnd (lo hi:α→Int) (T:List α) (r:Int):Option α:=T.find? (onn lo hi r)
theorem zL {T:List α} (hs:rQ lo hi T=true) {r:Int} {x:α} (hx:x∈T) (h:onn lo hi r x=true):fnd lo hi T r=some x:=by
 unfold fnd;obtain ⟨i,hi',rfl⟩:=List.mem_iff_getElem.1 hx;rw [List.find?_eq_some_iff_getElem];refine ⟨h,i,hi',rfl,fun j hj=>?_⟩
 cases hb:onn lo hi r (T[j]'(by omega)) with
 | false=>rfl
 | true=>exact absurd (CX hs (by omega) hi' hb h) (by omega)
theorem yG {T:List α} {r:Int} (h:∀i (h:i < T.length),onn lo hi r T[i]=false):fnd lo hi T r=none:=by
 unfold fnd;rw [List.find?_eq_none];intro x hx;obtain ⟨i,hi',rfl⟩:=List.mem_iff_getElem.1 hx;simp [h i hi']
theorem sm {T:List α} {r:Int} {x:α} (h:fnd lo hi T r=some x):x∈T∧onn lo hi r x=true:=⟨List.mem_of_find?_eq_some h,List.find?_some h⟩
theorem xi {T:List α} (hs:rQ lo hi T=true) {r:Int} {i:Nat} (h1:∀j (h:j < T.length),j < i→hi T[j] < r) (h2:∀j (h:j < T.length),i≤j→r≤hi T[j]):
  fnd lo hi T r=if h:i < T.length then (if lo T[i]≤r then some T[i] else none) else none:=by
 have hno:∀j (h:j < T.length),j≠i→onn lo hi r T[j]=false:=fun j h hne=>by
  cases hb:onn lo hi r T[j] with
  | false=>rfl
  | true=>
   rw [mz] at hb;rcases aP j i with hj | hj
   ·have:=h1 j h hj;omega
   ·have h3:=qz hs i j h (by omega);have h4:=h2 i (by omega) (aw _);omega
 split
 ·rename_i hi'
  split
  ·rename_i hl
   exact zL hs (aB hi') (mz.2 ⟨hl,h2 i hi' (aw _)⟩)
  ·rename_i hl
   refine yG fun j h=>?_;by_cases hj:j=i
   ·subst hj
    cases hb:onn lo hi r T[j] with
    | false=>rfl
    | true=>exact absurd (mz.1 hb).1 hl
   ·exact hno j h hj
 ·rename_i hi'
  exact yG fun j h=>hno j h (by omega)
theorem EX {a b:Nat} (h:a+b≤4611686018427387904):w64 ((IntKind.u64.wrap (w64 ((a:Int)+(b:Int)))).fdiv (2 ^ 1))=(((a+b) / 2:Nat):Int):=by
 have e0:w64 ((a:Int)+(b:Int))=((a+b:Nat):Int):=by rw [aG (by omega)]; simp
 have h1:IntKind.u64.wrap ((a+b:Nat):Int)=((a+b:Nat):Int):=by
  have:((a+b:Nat):Int) % 18446744073709551616=((a+b:Nat):Int):=Int.emod_eq_of_lt (by omega) (by omega);simpa [IntKind.wrap,IntKind.bits,IntKind.signed] using this
 have e2:(((a+b:Nat):Int)).fdiv (2 ^ 1)=(((a+b) / 2:Nat):Int):=by
  rw [DW _ (by decide)];omega
 rw [e0,h1,e2,aG (by omega)]
theorem qA {T:List α} (hs:rQ lo hi T=true) (hl:T.length≤1000000) (r:Int) {step:Int×Int→Option (Int×Int ⊕ Int)}
  (h1:∀a b:Nat,(hab:a < b)→(hb:b≤T.length)→step ((a:Int),(b:Int))=some (.inl (if r≤hi (T[(a+b) / 2]'(by omega)) then ((a:Int),(((a+b) / 2:Nat):Int)) else (((((a+b) / 2+1:Nat):Int)),(b:Int)))))
  (h2:∀a:Nat,step ((a:Int),(a:Int))=some (.inr (a:Int))):
  ∃i:Nat,cJ (((T.length:Int) - 0).toNat+1) step (0,(T.length:Int))=some (i:Int)∧i≤T.length∧(∀j (h:j < T.length),j < i→hi T[j] < r)∧(∀j (h:j < T.length),i≤j→r≤hi T[j]):=by
 have hmono:∀j k (h:k < T.length),(hjk:j≤k)→hi (T[j]'(by omega))≤hi T[k]:=fun j k h hjk=>by
  rcases aP j k with hlt | hge
  ·have e1:=qz hs j k h hlt;have e2:=wO hs k h;omega
  ·obtain rfl:j=k:=by omega
   exact AZ _
 obtain ⟨t,e1,i,e2,e3,e4,e5⟩:=kH (step:=step) (fun q=>∃a b:Nat,q=((a:Int),(b:Int))∧a≤b∧b≤T.length∧(∀j (h:j < T.length),j < a→hi T[j] < r)∧(∀j (h:j < T.length),b≤j→r≤hi T[j]))
  (fun q=>(q.2 - q.1).toNat) (fun t=>∃i:Nat,t=(i:Int)∧i≤T.length∧(∀j (h:j < T.length),j < i→hi T[j] < r)∧(∀j (h:j < T.length),i≤j→r≤hi T[j]))
  (by
   rintro q ⟨a,b,rfl,hab,hb,c1,c2⟩;rcases aP a b with hlt | hge
   ·left
    rw [h1 a b hlt hb];refine ⟨_,rfl,?_⟩;by_cases hr:r≤hi (T[(a+b) / 2]'(by omega))
    ·rw [ae hr];exact ⟨⟨a,(a+b) / 2,rfl,by omega,by omega,c1,fun j h hj=>Int.le_trans hr (hmono _ _ h hj)⟩,by simp only; omega⟩
    ·rw [ab hr];refine ⟨⟨(a+b) / 2+1,b,rfl,by omega,hb,fun j h hj=>?_,c2⟩,by simp only; omega⟩;have:=hmono j ((a+b) / 2) (by omega) (by omega);omega
   ·right
    obtain rfl:a=b:=by omega
    exact ⟨_,h2 a,a,rfl,hb,c1,c2⟩)
  (((T.length:Int) - 0).toNat+1) (0,(T.length:Int)) ⟨0,T.length,rfl,cZ _,aw _,fun j h hj=>by omega,fun j h hj=>by omega⟩ (by simp only; omega)
 subst e2;exact ⟨i,e1,e3,e4,e5⟩
def HP (v:Option Int):Int ⊕ Unit:=match v with | some x=> .inl x | none=> .inr ()
theorem C7 {n:Nat} (hn:n≤1000000) {v:Option Int} {step:Int→Option (Int ⊕ (Int ⊕ Unit))}
  (h1:∀k:Nat,k < n→step (k:Int)=if v=some ((k:Int)+1) then some (.inr (.inl ((k:Int)+1))) else some (.inl ((k+1:Nat):Int)))
  (h2:step (n:Int)=some (.inr (.inr ()))) (hv:∀x,v=some x→1≤x∧x≤n):cJ (((n:Int) - 0).toNat+1) step 0=some (HP v):=by
 refine oM (fun s=>∃k:Nat,s=(k:Int)∧k≤n∧∀j:Nat,j < k→v≠some ((j:Int)+1)) (fun s=>((n:Int) - s).toNat) ?_ ⟨0,rfl,cZ _,fun j hj=>by omega⟩ (by omega);rintro s ⟨k,rfl,hk,hno⟩;rcases aP k n with hlt | hge
 ·rw [h1 k hlt];by_cases he:v=some ((k:Int)+1)
  ·rw [ae he]
   right
   subst he;rfl
  ·rw [ab he];refine .inl ⟨_,rfl,⟨k+1,rfl,by omega,fun j hj=>?_⟩,by omega⟩;by_cases hjk:j=k
   ·subst hjk; exact he
   ·exact hno j (by omega)
 ·obtain rfl:k=n:=by omega
  rw [h2]
  right
  cases v with
  | none=>rfl
  | some x=>
   obtain ⟨e1,e2⟩:=hv x rfl;exact absurd (show some x=some (((x - 1).toNat:Int)+1) by congr 1; omega) (hno (x - 1).toNat (by omega))
theorem sU {n fuel:Nat} {β:Type} {kk:Int ⊕ Unit→Option β} {rr:Option β} (hn:n≤1000000) {v:Option Int} {step:Int→Option (Int ⊕ (Int ⊕ Unit))}
  (h1:∀k:Nat,k < n→step (k:Int)=if v=some ((k:Int)+1) then some (.inr (.inl ((k:Int)+1))) else some (.inl ((k+1:Nat):Int)))
  (h2:step (n:Int)=some (.inr (.inr ()))) (hv:∀x,v=some x→1≤x∧x≤n) (hf:fuel=((n:Int) - 0).toNat+1) (hk:kk (HP v)=rr):(cJ fuel step 0).bind kk=rr:=by
 subst hf;rw [C7 hn h1 h2 hv];exact hk
def lk (T:List (Int×Int×Int)) (r:Int):Option Int:=(fnd (fun x=>x.1) (fun x=>x.2.1) T r).map (fun x=>x.2.2)
def vL (l:List (Int×Int)) (r:Int):Bool:=l.any (onn (fun x=>x.1) (fun x=>x.2) r)
def ofv (T:List (Int×Int×Int)) (v:Int):List (Int×Int):=(T.filter (fun x=>x.2.2==v)).map (fun x=>(x.1,x.2.1))
theorem xg {T:List (Int×Int×Int)} (hs:rQ (fun x=>x.1) (fun x=>x.2.1) T=true) (v r:Int):vL (ofv T v) r=decide (lk T r=some v):=by
 unfold vL ofv lk;rw [List.any_map,List.any_filter]
 cases hf:fnd (fun x=>x.1) (fun x=>x.2.1) T r with
 | none=>
  simp only [Jr,reduceCtorEq,decide_false];rw [Jb];intro x hx;unfold fnd at hf;have:=List.find?_eq_none.1 hf x hx;simp only [Function.comp,av,yq];intro _;simpa [onn] using this
 | some x=>
  obtain ⟨h1,h2⟩:=sm hf;simp only [dH,aM];by_cases hv:x.2.2=v
  ·rw [vh hv,Ad];exact ⟨x,h1,by simp only [Function.comp,av,aN]; exact ⟨hv,h2⟩⟩
  ·rw [decide_eq_false hv,Jb];intro y hy;simp only [Function.comp,av,aN,yq];intro e
   cases hb:onn (fun x:Int×Int=>x.1) (fun x=>x.2) r (y.1,y.2.1) with
   | false=>simp
   | true=>
    have:=zL hs hy (show onn (fun x:Int×Int×Int=>x.1) (fun x=>x.2.1) r y=true from hb);rw [hf] at this;cases this;exact absurd e hv
theorem C6 {T:List (Int×Int×Int)} {p:Int→Bool} (h:T.all (fun x=>p x.2.2)=true) {r v:Int} (hv:lk T r=some v):p v=true:=by
 unfold lk at hv;obtain ⟨x,hx,rfl⟩:=Option.map_eq_some_iff.1 hv;exact List.all_eq_true.1 h x (sm hx).1
end Go.Lt
namespace Go.Proofs.YtclmdpamofdoiaaGreatDoor
open Go Go.Lt
set_option maxRecDepth 100000
def gT:List (Int×Int×Int):=match mI with | some t=>t | none=>[]
def pT:List (Int×Int):=match lC with | some t=>t | none=>[]
def cT:List (Int×Int×Int):=match lH with | some t=>t | none=>[]
def eT:List (Int×Int×Int):=match lG with | some t=>t | none=>[]
theorem HX:mI=some gT:=rfl
theorem HN:lC=some pT:=rfl
theorem Il:lH=some cT:=rfl
theorem Ie:lG=some eT:=rfl
theorem E2:rQ (fun x=>x.1) (fun x=>x.2.1) gT=true:=by kernel_rfl
theorem HL:rQ (fun x=>x.1) (fun x=>x.2) pT=true:=by kernel_rfl
theorem G8:rQ (fun x=>x.1) (fun x=>x.2.1) cT=true:=by kernel_rfl
theorem GT:rQ (fun x=>x.1) (fun x=>x.2.1) eT=true:=by kernel_rfl
theorem GP:gT.length≤1000000:=by
 have:Nat.ble gT.length 1000000=true:=by kernel_rfl
 exact bp this
theorem Gu:pT.length≤1000000:=by
 have:Nat.ble pT.length 1000000=true:=by kernel_rfl
 exact bp this
theorem Ha:cT.length≤1000000:=by
 have:Nat.ble cT.length 1000000=true:=by kernel_rfl
 exact bp this
theorem GU:eT.length≤1000000:=by
 have:Nat.ble eT.length 1000000=true:=by kernel_rfl
 exact bp this
theorem IK:gT.all (fun x=>decide (1≤x.2.2) && decide (x.2.2≤8))=true:=by kernel_rfl
theorem IR:cT.all (fun x=>decide (1≤x.2.2) && decide (x.2.2≤3))=true:=by kernel_rfl
theorem IP:eT.all (fun x=>decide (1≤x.2.2) && decide (x.2.2≤3))=true:=by kernel_rfl
def hcl (r:Int):Int:=
 if (4352≤r∧r≤4447)∨(43360≤r∧r≤43388) then 9
 else if (4448≤r∧r≤4519)∨(55216≤r∧r≤55238) then 10
 else if (4520≤r∧r≤4607)∨(55243≤r∧r≤55291) then 11
 else if r < 44032∨55203 < r then 0
 else if (r - 44032) % 28=0 then 12 else 13
def r32 (r:Int):Prop:= -2147483648≤r∧r≤2147483647
theorem r32.w {r:Int} (h:r32 r):w64 r=r:=by unfold r32 at h; exact aG (by omega)
theorem oW {α:Type} {b:Bool} {p:Prop} [Decidable p] (h:b=true↔p) (x y:α):(if b=true then x else y)=if p then x else y:=by
 by_cases hp:p
 ·rw [ae hp,ae (h.2 hp)]
 ·rw [ab hp,ab (fun e=>hp (h.1 e))]
theorem rR {α:Type} {p:Prop} [Decidable p] (x y:α):(if p then some x else some y)=some (if p then x else y):=by split <;> rfl
theorem sj (r:Int) (h:r32 r):kb r=some (hcl r):=by
 unfold r32 at h;unfold kb jQ gA hcl;simp only [bf,bsm,bM];have hw:44032≤r→r≤55203→(w32 (r - 44032)).tmod 28=(r - 44032) % 28:=fun h1 h2=>by
  rw [wJ (by omega),fX (by omega)]
 rw [oW (p:=(4352≤r∧r≤4447)∨(43360≤r∧r≤43388)) (by simp),oW (p:=(4448≤r∧r≤4519)∨(55216≤r∧r≤55238)) (by simp),oW (p:=(4520≤r∧r≤4607)∨(55243≤r∧r≤55291)) (by simp)];rw [oW (p:=r < 44032∨55203 < r) (by simp)];by_cases hs:r < 44032∨55203 < r
 ·simp only [ae hs,rR]
 ·simp only [ab hs];rw [hw (by omega) (by omega)];rw [oW (p:=(r - 44032) % 28=0) (by simp)];simp only [rR]
theorem Bm (r:Int) (h1:44032≤r) (h2:r≤55203):∃x,dt r=some x∧(x.1≠0∧(x.2.2=0↔(r - 44032) % 28=0)):=by
 have hw:w64 r=r:=aG (by omega);unfold dt;simp only [hw,bM,bsm];rw [ab (by simp; omega)];refine BG (fun q=>∃i:Nat,i≤19∧q=((44032+588 * (i:Int),4352+(i:Int)):Int×Int)∧44032+588 * (i:Int)≤r) (fun q=>(4371 - q.2).toNat)
  (fun t=>∃x:Int×Int×Int,t= .inl x∧(x.1≠0∧(x.2.2=0↔(r - 44032) % 28=0))) ?_ ⟨0,by omega,by simp,by omega⟩ (by simp only; omega) ?_
 ·rintro q ⟨i,hi,rfl,hir⟩;by_cases hi2:i=19
  ·subst hi2;omega
  dsimp only
  rw [ae (by simp; omega)];refine Ft (fun t=>(∃x:Int×Int×Int,t= .inl x∧(x.1≠0∧(x.2.2=0↔(r - 44032) % 28=0)))∨(t= .inr (44032+588 * ((i+1:Nat):Int))∧44032+588 * ((i+1:Nat):Int)≤r))
   (kH (fun q=>∃j:Nat,j≤21∧q=((44032+588 * (i:Int)+28 * (j:Int),4449+(j:Int)):Int×Int)∧44032+588 * (i:Int)+28 * (j:Int)≤r) (fun q=>(4470 - q.2).toNat) _ ?_ _ _ ⟨0,by omega,by simp,by omega⟩ (by simp only; omega)) ?_
  ·rintro q ⟨j,hj,rfl,hjr⟩
   dsimp only
   by_cases hj2:j=21
   ·subst hj2
    right
    refine ⟨.inr (44032+588 * ((i+1:Nat):Int)),?_,.inr ⟨rfl,by omega⟩⟩;rw [ab (by simp),show (44032+588 * (i:Int)+28 * ((21:Nat):Int))=44032+588 * ((i+1:Nat):Int) by omega]
   ·rw [ae (by simp; omega),aG (by omega)];by_cases hlt:r < 44032+588 * (i:Int)+28 * (j:Int)+28
    ·right
     rw [ae (by simpa using hlt)];rw [show w64 (4519+r)=4519+r from aG (by omega),aG (by omega)];by_cases hz:4519+r - (44032+588 * (i:Int)+28 * (j:Int))=4519
     ·rw [ae (by simpa using hz)];exact ⟨_,rfl,.inl ⟨_,rfl,by show 4352+(i:Int)≠0; omega,by show (0:Int)=0↔_; simp; omega⟩⟩
     ·rw [ab (by simpa using hz)];exact ⟨_,rfl,.inl ⟨_,rfl,by show 4352+(i:Int)≠0; omega,by show 4519+r - (44032+588 * (i:Int)+28 * (j:Int))=0↔_; omega⟩⟩
    ·left
     rw [ab (by simpa using hlt),aG (by omega)];exact ⟨_,rfl,⟨j+1,by omega,by simp only [fM]; omega,by omega⟩,by omega⟩
  ·rintro t (⟨x,rfl,hx⟩ | ⟨rfl,hx⟩)
   ·exact .inr ⟨_,rfl,x,rfl,hx⟩
   ·refine .inl ⟨_,rfl,⟨i+1,by omega,?_,by omega⟩,?_⟩
    ·rw [aG (by omega)];exact Prod.ext rfl (by show 4352+(i:Int)+1=4352+((i+1:Nat):Int); omega)
    ·rw [aG (by omega)];omega
 ·rintro t ⟨x,rfl,hx⟩;exact ⟨x,rfl,hx⟩
theorem Bo (r:Int) (h:r32 r):ej r=some (hcl r):=by
 have hw:=h.w;unfold r32 at h;unfold ej hcl;simp only [hw,bf,bsm,bM];rw [oW (p:=(4352≤r∧r≤4447)∨(43360≤r∧r≤43388)) (by simp),oW (p:=(4448≤r∧r≤4519)∨(55216≤r∧r≤55238)) (by simp),oW (p:=(4520≤r∧r≤4607)∨(55243≤r∧r≤55291)) (by simp)];by_cases hs:r < 44032∨55203 < r
 ·have:dt r=some (0,0,0):=by
   unfold dt;simp only [hw,bM,bsm];rw [ae (by simpa using hs)]
  rw [this];simp only [bsm,ae hs,rR];rfl
 ·obtain ⟨⟨l,v,t⟩,e1,e2,e3⟩:=Bm r (by omega) (by omega);have e2':(l==0)=false:=by simpa using e2
  rw [e1];simp only [bsm,e2',aj,aU,ab hs];rw [oW (b:=t==0) (p:=(r - 44032) % 28=0) (by simpa using e3)];simp only [rR]
theorem wY (l:List (Int×Int)) (hl:l.length≤1000000) (r:Int) (h:r32 r):dG l r=some (vL l r):=by
 have hw:=h.w;unfold dG;simp only [hw];have key:cJ (σ:=Int) (τ:=Bool ⊕ Unit) (((l.length:Int) - 0).toNat+1) (fun s_5=>
   if (decide (s_5 < (l.length:Int)))=true then
   (idx l s_5).bind fun x_15=>
   (bT (decide (r≥x_15.1)) ((idx l s_5).bind fun x_25=>
   some (decide (r≤x_25.2)))).bind fun d_19=>
   if d_19=true then
   some (.inr (.inl true))
   else
   some (.inl ((w64 (s_5+1))))
   else
   some (.inr (.inr ()))) (0)=some (if vL l r=true then .inl true else .inr ()):=by
  refine oM (fun s=>∃k:Nat,s=(k:Int)∧k≤l.length∧(l.take k).any (onn (fun x=>x.1) (fun x=>x.2) r)=false) (fun s=>((l.length:Int) - s).toNat) ?_ ⟨0,rfl,cZ _,by simp⟩ (by omega);rintro s ⟨k,rfl,hk,hno⟩;rcases aP k l.length with hlt | hge
  ·have e1:(l.take (k+1)).any (onn (fun x=>x.1) (fun x=>x.2) r)=((l.take k).any (onn (fun x=>x.1) (fun x=>x.2) r) || onn (fun x=>x.1) (fun x=>x.2) r l[k]):=by
    rw [aq hlt,List.any_append];simp
   simp only [dlt hlt,bw,aZ hlt,bsm,bf];have e2:(decide (r≥l[k].1) && decide (r≤l[k].2))=onn (fun x:Int×Int=>x.1) (fun x=>x.2) r l[k]:=rfl;rw [e2]
   cases hb:onn (fun x:Int×Int=>x.1) (fun x=>x.2) r l[k] with
   | true=>
    right
    have:vL l r=true:=by
     unfold vL;rw [Ad];exact ⟨_,aB hlt,hb⟩
    rw [ae this];rfl
   | false=>
    left
    rw [dC hlt (by omega)];exact ⟨_,rfl,⟨k+1,rfl,hlt,by rw [e1,hno,hb]; rfl⟩,by omega⟩
  ·obtain rfl:k=l.length:=by omega
   right
   rw [cy] at hno;simp only [dnl,aj,aU];rw [show vL l r=false from hno];rfl
 rw [key]
 cases vL l r <;> rfl
theorem HW:(match ir,iq,ip,io,il,ik,ii,ig with
 | some a,some b,some c,some d,some e,some f,some g,some h=>[a,b,c,d,e,f,g,h]== [ofv gT 1,ofv gT 2,ofv gT 3,ofv gT 4,ofv gT 5,ofv gT 6,ofv gT 7,ofv gT 8] | _,_,_,_,_,_,_,_=>false)=true:=by kernel_rfl
theorem Ik:(match ic,ib,hU with
 | some a,some b,some c=>[a,b,c]== [ofv cT 1,ofv cT 2,ofv cT 3] | _,_,_=>false)=true:=by kernel_rfl
theorem Ic:(match gZ,gY,gX with
 | some a,some b,some c=>[a,b,c]== [ofv eT 1,ofv eT 2,ofv eT 3] | _,_,_=>false)=true:=by kernel_rfl
theorem HM:(iI==some pT)=true:=by kernel_rfl
theorem xc (T:List (Int×Int×Int)) (v:Int):(ofv T v).length≤T.length:=by
 unfold ofv;rw [bZ];exact tY _ _
theorem HH (r:Int) (h:r32 r):gQ r=some ((lk gT r).getD (hcl r)):=by
 have hl:=HW;unfold gQ;split at hl
 ·rename_i a b c d e f g hh ea eb ec ed ee ef eg eh
  rw [ea,eb,ec,ed,ee,ef,eg,eh];simp only [bsm];have hl2:=eq_of_beq hl;rw [hl2];refine sU (n:=8) (by decide) (v:=lk gT r) (fun k hk=>?_) (by rfl) (fun x hx=>?_) rfl ?_
  ·have hi:idx ([ofv gT 1,ofv gT 2,ofv gT 3,ofv gT 4,ofv gT 5,ofv gT 6,ofv gT 7,ofv gT 8]:List (List (Int×Int))) (k:Int)=some (ofv gT ((k:Int)+1)):=by
    rw [uj]
    match k,hk with
    | 0,_=>rfl
    | 1,_=>rfl
    | 2,_=>rfl
    | 3,_=>rfl
    | 4,_=>rfl
    | 5,_=>rfl
    | 6,_=>rfl
    | 7,_=>rfl
   simp only [hi,bsm];rw [ae (by simp; omega),wY _ (cx (xc _ _) GP) r h,xg E2,aG (by omega)];simp only [bsm];rw [oW (p:=lk gT r=some ((k:Int)+1)) (by simp)];rfl
  ·have:=C6 (p:=fun v=>decide (1≤v) && decide (v≤8)) IK hx;simpa using this
  ·cases lk gT r with
   | none=>show ((ej r).bind fun o=>some o)=_; rw [Bo r h]; rfl
   | some x=>rfl
 ·cases hl
theorem HF (r:Int) (h:r32 r):gO r=some ((lk cT r).getD 0):=by
 have hl:=Ik;unfold gO;split at hl
 ·rename_i a b c ea eb ec
  rw [ea,eb,ec];simp only [bsm];have hl2:=eq_of_beq hl;rw [hl2];refine sU (n:=3) (by decide) (v:=lk cT r) (fun k hk=>?_) (by rfl) (fun x hx=>?_) rfl ?_
  ·have hi:idx ([ofv cT 1,ofv cT 2,ofv cT 3]:List (List (Int×Int))) (k:Int)=some (ofv cT ((k:Int)+1)):=by
    rw [uj]
    match k,hk with
    | 0,_=>rfl
    | 1,_=>rfl
    | 2,_=>rfl
   simp only [hi,bsm];rw [ae (by simp; omega),wY _ (cx (xc _ _) Ha) r h,xg G8,aG (by omega)];simp only [bsm];rw [oW (p:=lk cT r=some ((k:Int)+1)) (by simp)];rfl
  ·have:=C6 (p:=fun v=>decide (1≤v) && decide (v≤3)) IR hx;simpa using this
  ·cases lk cT r <;> rfl
 ·cases hl
theorem HE (r:Int) (h:r32 r):gN r=some ((lk eT r).getD 0):=by
 have hl:=Ic;unfold gN;split at hl
 ·rename_i a b c ea eb ec
  rw [ea,eb,ec];simp only [bsm];have hl2:=eq_of_beq hl;rw [hl2];refine sU (n:=3) (by decide) (v:=lk eT r) (fun k hk=>?_) (by rfl) (fun x hx=>?_) rfl ?_
  ·have hi:idx ([ofv eT 1,ofv eT 2,ofv eT 3]:List (List (Int×Int))) (k:Int)=some (ofv eT ((k:Int)+1)):=by
    rw [uj]
    match k,hk with
    | 0,_=>rfl
    | 1,_=>rfl
    | 2,_=>rfl
   simp only [hi,bsm];rw [ae (by simp; omega),wY _ (cx (xc _ _) GU) r h,xg GT,aG (by omega)];simp only [bsm];rw [oW (p:=lk eT r=some ((k:Int)+1)) (by simp)];rfl
  ·have:=C6 (p:=fun v=>decide (1≤v) && decide (v≤3)) IP hx;simpa using this
  ·cases lk eT r <;> rfl
 ·cases hl
def pic (r:Int):Bool:=(fnd (fun x:Int×Int=>x.1) (fun x=>x.2) pT r).isSome
theorem EV (r:Int):vL pT r=pic r:=by
 unfold vL pic fnd;rw [ce,List.find?_isSome,Ad]
theorem HG (r:Int) (h:r32 r):gP r=some (pic r):=by
 unfold gP;rw [eq_of_beq HM];simp only [bsm];rw [wY _ Gu r h,EV];rfl
def pr (r:Int):ao:=⟨(lk gT r).getD (hcl r),pic r,(lk cT r).getD 0,(lk eT r).getD 0⟩
theorem HD (r:Int) (h:r32 r):ez r=some (pr r):=by
 unfold ez;rw [HH r h,HG r h,HF r h,HE r h];rfl
theorem pY {a b n:Nat} (h:a < b) (hb:b≤n):(a+b) / 2 < n:=by omega
theorem GN (r:Int) (h:r32 r):qd r=some ((lk gT r).getD (hcl r)):=by
 have hw:=h.w;have hlen:=GP;unfold qd;rw [HX];simp only [bsm];obtain ⟨i,e1,e2,e3,e4⟩:=qA E2 GP r (step:=fun s_7=>
  if (decide (s_7.1 < s_7.2))=true then
  (nh (w64 ((IntKind.u64.wrap (w64 (s_7.1+s_7.2))).fdiv (2 ^ 1))) gT r).bind fun x_22=>
  if (!x_22)=true then
  some (.inl ((w64 ((w64 ((IntKind.u64.wrap (w64 (s_7.1+s_7.2))).fdiv (2 ^ 1)))+1)),s_7.2))
  else
  some (.inl (s_7.1,(w64 ((IntKind.u64.wrap (w64 (s_7.1+s_7.2))).fdiv (2 ^ 1)))))
  else
  some (.inr (s_7.1))) (fun a b hab hb=>by
   simp only;rw [ae (by simp; omega),EX (by omega)];unfold nh;rw [aZ (pY hab hb),hw];simp only [bsm];by_cases hr:r≤(gT[(a+b) / 2]'(pY hab hb)).2.1
   ·rw [ab (by simpa using hr),ae hr]
   ·rw [ae (by simpa using hr),ab hr,aG (by omega)];rfl) (fun a=>by simp only; rw [ab (by simp)])
 unfold gb;rw [e1];simp only [bsm,hw];have hf:=xi E2 e3 e4;unfold lk;rw [hf];by_cases hi:i < gT.length
 ·rw [vJ hi,aZ hi];simp only [bsm,bf];by_cases hlo:gT[i].1≤r
  ·rw [ae (by simp; exact ⟨hi,hlo⟩),ae hlo];rfl
  ·rw [ab (by simp; omega),ab hlo,sj r h];rfl
 ·rw [vK hi,show decide ((i:Int) < (gT.length:Int))=false by simp; omega,gR];simp only [bsm];rw [ab (by decide),sj r h];rfl
theorem Fi (r:Int) (h:r32 r):ox r=some ((lk cT r).getD 0):=by
 have hw:=h.w;have hlen:=Ha;unfold ox;rw [Il];simp only [bsm];obtain ⟨i,e1,e2,e3,e4⟩:=qA G8 Ha r (step:=fun s_7=>
  if (decide (s_7.1 < s_7.2))=true then
  (mM (w64 ((IntKind.u64.wrap (w64 (s_7.1+s_7.2))).fdiv (2 ^ 1))) cT r).bind fun x_22=>
  if (!x_22)=true then
  some (.inl ((w64 ((w64 ((IntKind.u64.wrap (w64 (s_7.1+s_7.2))).fdiv (2 ^ 1)))+1)),s_7.2))
  else
  some (.inl (s_7.1,(w64 ((IntKind.u64.wrap (w64 (s_7.1+s_7.2))).fdiv (2 ^ 1)))))
  else
  some (.inr (s_7.1))) (fun a b hab hb=>by
   simp only;rw [ae (by simp; omega),EX (by omega)];unfold mM;rw [aZ (pY hab hb),hw];simp only [bsm];by_cases hr:r≤(cT[(a+b) / 2]'(pY hab hb)).2.1
   ·rw [ab (by simpa using hr),ae hr]
   ·rw [ae (by simpa using hr),ab hr,aG (by omega)];rfl) (fun a=>by simp only; rw [ab (by simp)])
 unfold fH;rw [e1];simp only [bsm,hw];have hf:=xi G8 e3 e4;unfold lk;rw [hf];by_cases hi:i < cT.length
 ·rw [vJ hi,aZ hi];simp only [bsm,bM];by_cases hlo:cT[i].1≤r
  ·rw [ab (by simp; omega),ae hlo];rfl
  ·rw [ae (by simp; omega),ab hlo];rfl
 ·rw [vK hi,show ((i:Int)==(cT.length:Int))=true by simp; omega,yj];simp only [bsm];rw [ae trivial];rfl
theorem E7 (r:Int) (h:r32 r):ou r=some ((lk eT r).getD 0):=by
 have hw:=h.w;have hlen:=GU;unfold ou;rw [Ie];simp only [bsm];obtain ⟨i,e1,e2,e3,e4⟩:=qA GT GU r (step:=fun s_7=>
  if (decide (s_7.1 < s_7.2))=true then
  (mK (w64 ((IntKind.u64.wrap (w64 (s_7.1+s_7.2))).fdiv (2 ^ 1))) eT r).bind fun x_22=>
  if (!x_22)=true then
  some (.inl ((w64 ((w64 ((IntKind.u64.wrap (w64 (s_7.1+s_7.2))).fdiv (2 ^ 1)))+1)),s_7.2))
  else
  some (.inl (s_7.1,(w64 ((IntKind.u64.wrap (w64 (s_7.1+s_7.2))).fdiv (2 ^ 1)))))
  else
  some (.inr (s_7.1))) (fun a b hab hb=>by
   simp only;rw [ae (by simp; omega),EX (by omega)];unfold mK;rw [aZ (pY hab hb),hw];simp only [bsm];by_cases hr:r≤(eT[(a+b) / 2]'(pY hab hb)).2.1
   ·rw [ab (by simpa using hr),ae hr]
   ·rw [ae (by simpa using hr),ab hr,aG (by omega)];rfl) (fun a=>by simp only; rw [ab (by simp)])
 unfold fG;rw [e1];simp only [bsm,hw];have hf:=xi GT e3 e4;unfold lk;rw [hf];by_cases hi:i < eT.length
 ·rw [vJ hi,aZ hi];simp only [bsm,bM];by_cases hlo:eT[i].1≤r
  ·rw [ab (by simp; omega),ae hlo];rfl
  ·rw [ae (by simp; omega),ab hlo];rfl
 ·rw [vK hi,show ((i:Int)==(eT.length:Int))=true by simp; omega,yj];simp only [bsm];rw [ae trivial];rfl
theorem EA (r:Int) (h:r32 r):om r=some (pic r):=by
 have hlen:=Gu;unfold om;rw [HN];simp only [bsm];obtain ⟨i,e1,e2,e3,e4⟩:=qA HL Gu r (step:=fun s_7=>
  if (decide (s_7.1 < s_7.2))=true then
  (mH (w64 ((IntKind.u64.wrap (w64 (s_7.1+s_7.2))).fdiv (2 ^ 1))) pT r).bind fun x_22=>
  if (!x_22)=true then
  some (.inl ((w64 ((w64 ((IntKind.u64.wrap (w64 (s_7.1+s_7.2))).fdiv (2 ^ 1)))+1)),s_7.2))
  else
  some (.inl (s_7.1,(w64 ((IntKind.u64.wrap (w64 (s_7.1+s_7.2))).fdiv (2 ^ 1)))))
  else
  some (.inr (s_7.1))) (fun a b hab hb=>by
   simp only;rw [ae (by simp; omega),EX (by omega)];unfold mH;rw [aZ (pY hab hb)];simp only [bsm];by_cases hr:r≤(pT[(a+b) / 2]'(pY hab hb)).2
   ·rw [ab (by simpa using hr),ae hr]
   ·rw [ae (by simpa using hr),ab hr,aG (by omega)];rfl) (fun a=>by simp only; rw [ab (by simp)])
 unfold fF;rw [e1];simp only [bsm];have hf:=xi HL e3 e4;unfold pic;rw [hf];by_cases hi:i < pT.length
 ·rw [vJ hi,aZ hi];simp only [bsm,bf];by_cases hlo:pT[i].1≤r
  ·rw [ae hlo];simp [hi,hlo]
  ·rw [ab hlo];simp [hlo]
 ·rw [vK hi,show decide ((i:Int) < (pT.length:Int))=false by simp; omega,gR];rfl
theorem zi (r:Int) (h:r32 r):nc r=some (pr r):=by
 unfold nc;rw [GN r h,EA r h,Fi r h,E7 r h];rfl
end Go.Proofs.YtclmdpamofdoiaaGreatDoor
namespace Go.Proofs.YtclmdpamofdoiaaGreatDoor
open Go Go.Lt
def bl:aa:=⟨0,[]⟩
def vld (r:Int):Bool:=decide (0≤r) && decide (r≤1114111) && (decide (r < 55296) || decide (r > 57343))
theorem qD (r:Int):cG r=some (vld r):=by
 simp only [cG,bf,bM,bsm,vld,zK]
theorem nU (r:Int):dE r=some (vld r):=by
 simp only [dE,bf,bM,bsm,vld,aM];rw [ce];simp;omega
def rgt (c:aa):Bool:=
 if c.Kind=0∨c.Kind=3 then c.Text.isEmpty else (decide (c.Kind=1) || decide (c.Kind=2)) && decide (1≤c.Text.length) && decide (c.Text.length≤16) && c.Text.all vld
theorem ra {α:Type} (p:α→Bool) (l:List α) (i:Nat) (h:i < l.length):(l.take (i+1)).all p=((l.take i).all p && p l[i]):=by
 rw [aq h,List.all_append];simp
theorem sI {α:Type} {p:α→Bool} {l:List α} {i:Nat} (h:i < l.length) (hp:p l[i]=false):l.all p=false:=by
 rw [List.all_eq_false];exact ⟨_,aB h,by simp [hp]⟩
theorem tE {α:Type} (l:List α):((l.length:Int)==0)=l.isEmpty:=by
 cases l <;> simp <;> omega
theorem Bn (c:aa):gW c=some (rgt c):=by
 unfold gW rgt;simp only [bM,bf,bsm];by_cases h1:c.Kind=0∨c.Kind=3
 ·have e:(c.Kind==0 || c.Kind==3)=true:=by rcases h1 with h | h <;> simp [h]
  rw [ae e,ae h1,tE]
 ·have e:(c.Kind==0 || c.Kind==3)=false:=by simp; omega
  rw [ab (by rw [e]; simp),ab h1];by_cases h2:((c.Kind=1∨c.Kind=2)∧1≤c.Text.length∧c.Text.length≤16)
  ·have e2:(((c.Kind != 1 && c.Kind != 2) || decide ((c.Text.length:Int) < 1)) || decide ((c.Text.length:Int) > 16))=false:=by
    simp; omega
   rw [ab (by rw [e2]; simp)];obtain ⟨t,h3,h4⟩:=rC (τ:=Bool ⊕ Unit) (n:=c.Text.length) (by omega) (fun t=>match t with | .inl b=>b=c.Text.all vld | .inr _=>c.Text.all vld=true) (fun i=>(c.Text.take i).all vld=true) (by simp)
    (step:=fun s_44=>
     if (decide (s_44 < (c.Text.length:Int)))=true then
     (idx c.Text s_44).bind fun x_54=>
     (cG x_54).bind fun x_56=>
     if (!x_56)=true then
     some (.inr (.inl false))
     else
     some (.inl ((w64 (s_44+1))))
     else
     some (.inr (.inr ())))
    (fun i hi hI=>by
     have e3:w64 ((i:Int)+1)=((i+1:Nat):Int):=by rw [aG (by omega)]; simp
     simp only [pP,hi,lL,bw,aZ hi,bsm,qD,e3]
     cases hv:vld c.Text[i] with
     | true=>exact .inl ⟨by simp,by rw [ra _ _ _ hi,hI,hv]; rfl⟩
     | false=>exact .inr ⟨.inl false,by simp,(sI hi hv).symm⟩)
    (fun hI=>⟨.inr (),by simp,by simpa using hI⟩)
   rw [h3];simp only [bsm];have e4:(decide (c.Kind=1) || decide (c.Kind=2))=true:=by simp; exact h2.1
   rw [e4,vh h2.2.1,vh h2.2.2]
   cases t with
   | inl b=>simp only at h4; simp [h4]
   | inr u=>simp only at h4; simp [h4]
  ·have e2:(((c.Kind != 1 && c.Kind != 2) || decide ((c.Text.length:Int) < 1)) || decide ((c.Text.length:Int) > 16))=true:=by
    simp; omega
   rw [ae e2]
   congr 1
   symm
   simp only [tZ,vI,kg];omega
theorem yS (r:Int):jf r=some (!vld r):=by simp [jf,nU]
theorem vN (l:List Int) (hl:l.length≤9223372036854775807):bP l=some (!l.all vld):=by
 unfold bP cv;obtain ⟨t,h3,h4⟩:=rC (τ:=Int ⊕ Unit) (n:=l.length) (by omega) (fun t=>match t with | .inl i=>0≤i∧l.all vld=false | .inr _=>l.all vld=true) (fun i=>(l.take i).all vld=true) (by simp)
  (step:=fun s_7=>
   if (decide (s_7 < (l.length:Int)))=true then
   (idx l s_7).bind fun x_16=>
   (jf x_16).bind fun x_18=>
   if x_18=true then
   some (.inr (.inl s_7))
   else
   some (.inl ((w64 (s_7+1))))
   else
   some (.inr (.inr ())))
  (fun i hi hI=>by
   have e3:w64 ((i:Int)+1)=((i+1:Nat):Int):=by rw [aG (by omega)]; simp
   simp only [pP,hi,lL,bw,aZ hi,bsm,yS,e3]
   cases hv:vld l[i] with
   | true=>exact .inl ⟨by simp,by rw [ra _ _ _ hi,hI,hv]; rfl⟩
   | false=>exact .inr ⟨.inl i,by simp,by omega,sI hi hv⟩)
  (fun hI=>⟨.inr (),by simp,by simpa using hI⟩)
 rw [h3];simp only [bsm]
 cases t with
 | inl b=>simp only at h4; simp [h4.1,h4.2]
 | inr u=>simp only at h4; simp [h4]
theorem zT (c:aa):kx c=some (rgt c):=by
 unfold kx rgt;by_cases h1:c.Kind=0∨c.Kind=3
 ·rw [ae h1];rcases h1 with h | h <;> simp [h,tE]
 ·have n0:(c.Kind==0)=false:=by simp; omega
  have n3:(c.Kind==3)=false:=by simp; omega
  rw [ab h1];simp only [n0,n3,aj,aU,bsm];by_cases h2:c.Kind=1∨c.Kind=2
  ·have e:(if (c.Kind==1)=true then some (c.Kind==1) else some (c.Kind==2):Option Bool)=some true:=by rcases h2 with h | h <;> simp [h]
   have e2:(decide (c.Kind=1) || decide (c.Kind=2))=true:=by simp; exact h2
   rw [e,e2];simp only [bsm,bw,bf,dN];by_cases h3:1≤c.Text.length∧c.Text.length≤16
   ·rw [vN _ (by omega)];have e4:(decide ((c.Text.length:Int) > 0) && decide ((c.Text.length:Int)≤16))=true:=by simp; omega
    have e5:(decide (1≤c.Text.length) && decide (c.Text.length≤16))=true:=by simp; exact h3
    rw [e4,e5];simp [gj]
   ·have e4:(decide ((c.Text.length:Int) > 0) && decide ((c.Text.length:Int)≤16))=false:=by simp; omega
    have e5:(decide (1≤c.Text.length) && decide (c.Text.length≤16))=false:=by simp; omega
    rw [e4,e5];simp [gR]
  ·have n1:(c.Kind==1)=false:=by simp; omega
   have n2:(c.Kind==2)=false:=by simp; omega
   have e2:(decide (c.Kind=1) || decide (c.Kind=2))=false:=by simp; omega
   rw [e2];simp [n1,n2]
def kd (l:List aa) (i:Nat):Int:=match l[i]? with | some c=>c.Kind | none=>0
theorem jU {l:List aa} {i:Nat} (h:i < l.length):kd l i=l[i].Kind:=by simp [kd,af h]
theorem mq {l:List aa} {i:Nat} (h:l.length≤i):kd l i=0:=by simp [kd,aQ h]
def Snd (l:List aa):Prop:=∀i (h:i < l.length),rgt l[i]=true∧(l[i].Kind=2→kd l (i+1)=3)∧(l[i].Kind=3→0 < i∧kd l (i - 1)=2)
theorem CF (l:List aa) (i:Int):eD l i=some (if 0≤i then kd l i.toNat else 0):=by
 unfold eD;simp only [bM,bsm];by_cases h0:i < 0
 ·rw [ae (by simp [h0]),ab (by omega)]
 ·by_cases h1:i < l.length
  ·obtain ⟨k,rfl⟩:=Int.eq_ofNat_of_zero_le (show 0≤i by omega);have hk:k < l.length:=by omega
   rw [ab (by simp; omega),ae (by omega),aZ hk];simp [jU hk]
  ·rw [ae (by simp; omega),ae (by omega),mq (by omega)]
theorem Ho (l:List aa) (hl:l.length≤9223372036854775807):∃b,ml l=some b∧(b=true↔Snd l):=by
 unfold ml;obtain ⟨t,h3,h4⟩:=rC (τ:=Bool ⊕ Unit) (n:=l.length) (by omega) (fun t=>match t with | .inl b=>b=false∧¬Snd l | .inr _=>Snd l)
  (fun i=>∀j (h:j < l.length),j < i→rgt l[j]=true∧(l[j].Kind=2→kd l (j+1)=3)∧(l[j].Kind=3→0 < j∧kd l (j - 1)=2)) (fun j _ h=>by omega)
  (step:=fun s_5=>
   if (decide (s_5 < (l.length:Int)))=true then
   (idx l s_5).bind fun x_13=>
   (gW x_13).bind fun x_15=>
   (orE (!x_15) ((idx l s_5).bind fun x_21=>
   (bT (x_21.Kind==2) ((eD l (w64 (s_5+1))).bind fun x_30=>
   some (x_30 != 3))).bind fun d_25=>
   some d_25)).bind fun d_17=>
   (orE d_17 ((idx l s_5).bind fun x_36=>
   (bT (x_36.Kind==3) ((eD l (w64 (s_5 - 1))).bind fun x_45=>
   some (x_45 != 2))).bind fun d_40=>
   some d_40)).bind fun d_32=>
   if d_32=true then
   some (.inr (.inl false))
   else
   some (.inl ((w64 (s_5+1))))
   else
   some (.inr (.inr ())))
  (fun i hi hI=>by
   have e3:w64 ((i:Int)+1)=((i+1:Nat):Int):=by rw [aG (by omega)]; simp
   have e4:w64 ((i:Int) - 1)=(i:Int) - 1:=aG (by omega);simp only [pP,hi,lL,bw,aZ hi,bsm,Bn,CF,e3,e4,bf,bM];by_cases hk:rgt l[i]=true∧(l[i].Kind=2→kd l (i+1)=3)∧(l[i].Kind=3→0 < i∧kd l (i - 1)=2)
   ·refine .inl ⟨?_,fun j h hj=>?_⟩
    ·rw [ab];obtain ⟨h1,h2,h5⟩:=hk;simp only [h1,cW,jP,aE,av,aN,lW,uO,IJ,yq,Decidable.not_not];refine ⟨fun h=>?_,fun h=>?_⟩
     ·rw [ae (by omega)]; simpa using h2 h
     ·obtain ⟨h6,h7⟩:=h5 h;rw [ae (by omega),show ((i:Int) - 1).toNat=i - 1 by omega]; exact h7
    ·by_cases hji:j=i
     ·subst hji; exact hk
     ·exact hI j h (by omega)
   ·refine .inr ⟨.inl false,?_,rfl,fun hs=>hk (hs i hi)⟩;rw [ae]
    cases h1:rgt l[i] with
    | false=>simp
    | true=>
     simp only [h1,uw] at hk;have hk:(l[i].Kind=2∧¬kd l (i+1)=3)∨(l[i].Kind=3∧¬(0 < i∧kd l (i - 1)=2)):=by
      by_cases hA:l[i].Kind=2→kd l (i+1)=3
      ·exact .inr (Classical.not_imp.1 fun hB=>hk ⟨hA,hB⟩)
      ·exact .inl (Classical.not_imp.1 hA)
     simp only [cW,jP,aE,av,aN,lW,uO];rcases hk with ⟨h,h2⟩ | ⟨h,h2⟩
     ·refine .inl ⟨h,?_⟩;rw [ae (by omega)]; simpa using h2
     ·refine .inr ⟨h,?_⟩;by_cases h0:i=0
      ·subst h0; simp
      ·rw [ae (by omega),show ((i:Int) - 1).toNat=i - 1 by omega];exact fun h3=>h2 ⟨by omega,h3⟩)
  (fun hI=>⟨.inr (),by simp,fun j h=>hI j h h⟩)
 rw [h3];simp only [bsm]
 cases t with
 | inl b=>exact ⟨b,rfl,by simp only at h4; rw [h4.1]; simp [h4.2]⟩
 | inr u=>exact ⟨true,rfl,by simpa using h4⟩
theorem vj (l:List aa) (hl:l.length≤9223372036854775807):∃b,kw l=some b∧(b=true↔Snd l):=by
 unfold kw
 let ld:Nat→Bool:=fun i=>match i with | 0=>false | k+1=>decide (kd l k=2)
 have key:∀i (h:i < l.length),((rgt l[i]=true∧(ld i=decide (l[i].Kind=3)))↔rgt l[i]=true∧(l[i].Kind=3→0 < i∧kd l (i - 1)=2)∧(0 < i→kd l (i - 1)=2→l[i].Kind=3)):=fun i h=>by
  cases i with
  | zero=>simp [ld]
  | succ k=>simp only [ld,qw,Jd]; constructor <;> (rintro ⟨a,b⟩; exact ⟨a,by omega⟩)
 have snd:Snd l↔(∀i (h:i < l.length),rgt l[i]=true∧ld i=decide (l[i].Kind=3))∧ld l.length=false:=by
  constructor
  ·intro hs;refine ⟨fun i h=>(key i h).2 ⟨(hs i h).1,(hs i h).2.2,fun h0 h2=>?_⟩,?_⟩
   ·have:=(hs (i - 1) (by omega)).2.1 (by rw [←jU]; exact h2);rw [show i - 1+1=i by omega,jU h] at this;exact this
   ·cases hn:l.length with
    | zero=>rfl
    | succ k=>
     simp only [ld,kg];intro h2;have:=(hs k (by omega)).2.1 (by rw [←jU]; exact h2);rw [mq (by omega)] at this;cases this
  ·rintro ⟨h1,h2⟩ i h;have hk:=(key i h).1 (h1 i h);refine ⟨hk.1,fun h3=>?_,hk.2.1⟩;by_cases hn:i+1 < l.length
   ·have:=((key (i+1) hn).1 (h1 (i+1) hn)).2.2 (by omega) (by rw [qw,jU h]; exact h3);rw [jU hn]; exact this
   ·exfalso
    have e:l.length=i+1:=by omega
    rw [e] at h2;simp only [ld,kg] at h2;rw [jU h] at h2;exact h2 h3
 obtain ⟨t,h3,h4⟩:=kH (τ:=Bool ⊕ Bool) (fun s:Bool×Int=>∃i:Nat,s=(ld i,(i:Int))∧i≤l.length∧∀j (h:j < l.length),j < i→rgt l[j]=true∧ld j=decide (l[j].Kind=3)) (fun s=>l.length - s.2.toNat)
  (fun t=>match t with | .inl b=>b=false∧¬Snd l | .inr b=>(b=false↔Snd l))
  (step:=fun s_9=>
   if (decide (s_9.2 < (l.length:Int)))=true then
   (idx l s_9.2).bind fun x_12=>
   (kx x_12).bind fun x_18=>
   (orE (!x_18) (some (!(s_9.1==(x_12.Kind==3))))).bind fun d_20=>
   if d_20=true then
   some (.inr (.inl false))
   else
   some (.inl (x_12.Kind==2,(w64 (s_9.2+1))))
   else
   some (.inr (.inr (s_9.1))))
  (by
   rintro s ⟨i,rfl,hi,hI⟩;rcases aP i l.length with hlt | hge
   ·have e3:w64 ((i:Int)+1)=((i+1:Nat):Int):=by rw [aG (by omega)]; simp
    simp only [pP,hlt,lL,bw,aZ hlt,bsm,zT,bM,e3];by_cases hk:rgt l[i]=true∧ld i=decide (l[i].Kind=3)
    ·refine .inl ⟨_,?_,⟨i+1,rfl,hlt,fun j h hj=>?_⟩,?_⟩
     ·rw [ab]
      ·simp only [ld,jU hlt]; rfl
      ·rw [hk.1,hk.2]; simp; rfl
     ·by_cases hji:j=i
      ·subst hji; exact hk
      ·exact hI j h (by omega)
     ·simp; omega
    ·refine .inr ⟨.inl false,?_,rfl,fun hs=>hk ((snd.1 hs).1 i hlt)⟩;rw [ae]
     cases h1:rgt l[i] with
     | false=>simp
     | true=>
      simp only [h1,uw] at hk;simp only [cW,jP,dq,eG,uO];exact hk
   ·obtain rfl:i=l.length:=by omega
    refine .inr ⟨.inr (ld l.length),by simp,?_⟩;simp only;rw [snd];exact ⟨fun h=>⟨fun j hj=>hI j hj hj,h⟩,fun h=>h.2⟩) (((l.length:Int) - 0).toNat+1) (false,0) ⟨0,rfl,cZ _,fun j _ h=>by omega⟩ (by simp)
 rw [h3];simp only [bsm]
 cases t with
 | inl b=>exact ⟨b,rfl,by simp only at h4; rw [h4.1]; simp [h4.2]⟩
 | inr b=>exact ⟨!b,rfl,by simp only at h4; rw [←h4]; cases b <;> simp⟩
def Sht (l:List aa):Prop:=∀i (h:i < l.length),l[i].Text.length≤1000000
theorem Snd.sht {l:List aa} (h:Snd l):Sht l:=fun i hi=>by
 have:=(h i hi).1;unfold rgt at this;split at this
 ·have e:l[i].Text= []:=by simpa using this
  rw [e]; simp
 ·simp at this; omega
def fY (r:Int):Int:=if vld r=true then r else 65533
def fx (t:List Int):List Int:=(t.take 16).map fY
def dO (wide:Int) (t:List Int):List aa:=
 if t= [] then (if wide > 1 then [bl,bl] else [bl]) else if wide > 1 then [⟨2,t⟩,⟨3,[]⟩] else [⟨1,t⟩]
theorem uv (r:Int):vld (fY r)=true:=by
 unfold fY;split
 ·assumption
 ·rfl
theorem GQ (t:List Int):∀x∈fx t,vld x=true:=fun x hx=>by
 obtain ⟨y,_,rfl⟩:=List.mem_map.1 hx;exact uv y
theorem GS (t:List Int):(fx t).length≤16:=by simp [fx]; omega
theorem AM (t:List Int):(fx t).length=min 16 t.length:=by simp [fx]
theorem CA {k:Int} (hk:k=1∨k=2) {t:List Int} (h1:1≤t.length) (h2:t.length≤16) (hv:∀x∈t,vld x=true):rgt ⟨k,t⟩=true:=by
 unfold rgt;rw [ab (by simp; omega)];simp only [av,aE,ak,sK];exact ⟨⟨⟨hk,h1⟩,h2⟩,hv⟩
theorem A6 (wide:Int) {t:List Int} (hv:∀x∈t,vld x=true) (h2:t.length≤16):Snd (dO wide t):=by
 unfold dO;have hb:rgt bl=true:=rfl;have h3:rgt ⟨3,[]⟩=true:=rfl;by_cases ht:t= []
 ·rw [ae ht];split
  ·intro i hi
   match i,hi with
   | 0,_=>exact ⟨hb,fun h=>by simp [bl] at h,fun h=>by simp [bl] at h⟩
   | 1,_=>exact ⟨hb,fun h=>by simp [bl] at h,fun h=>by simp [bl] at h⟩
  ·intro i hi
   match i,hi with
   | 0,_=>exact ⟨hb,fun h=>by simp [bl] at h,fun h=>by simp [bl] at h⟩
 ·rw [ab ht];have h1:1≤t.length:=by
   rcases jh t.length with h | h
   ·exact absurd (cf h) ht
   ·exact h
  split
  ·intro i hi
   match i,hi with
   | 0,_=>exact ⟨CA (.inr rfl) h1 h2 hv,fun _=>rfl,fun h=>by simp at h⟩
   | 1,_=>exact ⟨h3,fun h=>by simp at h,fun _=>⟨by omega,rfl⟩⟩
  ·intro i hi
   match i,hi with
   | 0,_=>exact ⟨CA (.inl rfl) h1 h2 hv,fun h=>by simp at h,fun h=>by simp at h⟩
theorem zw (wide:Int) (t:List Int) (ht:t.length≤9223372036854775807):la wide t=some (dO wide (fx t)):=by
 unfold la;rw [oM (s:=(([]:List Int),(0:Int))) (t:=fx t) (fun st:List Int×Int=>∃i:Nat,st=((fx t).take i,(i:Int))∧i≤(fx t).length) (fun st=>(fx t).length - st.2.toNat) ?_ ⟨0,rfl,cZ _⟩ (by simp [fx]; omega)]
 ·simp only [bsm,bf];unfold dO;by_cases h0:fx t= []
  ·rw [ae h0,h0];by_cases hw:wide > 1
   ·simp [hw,bl]
   ·simp [hw,bl]
  ·have h1:(((fx t).length:Int)==0)=false:=by
    rw [eG];intro e;exact h0 (cf (by omega))
   rw [ab h0];simp only [h1,jk,aj,aU];by_cases hw:wide > 1
   ·simp [hw]
   ·simp [hw]
 ·rintro st ⟨i,rfl,hi⟩;have hl:=AM t;rcases aP i (fx t).length with hlt | hge
  ·refine .inl ⟨_,?_,⟨i+1,rfl,hlt⟩,by simp; omega⟩;have e3:w64 ((i:Int)+1)=((i+1:Nat):Int):=by rw [aG (by omega)]; simp
   have hit:i < t.length:=by omega
   have d1:(decide ((i:Int) < (t.length:Int)) && decide ((i:Int) < 16))=true:=by simp; omega
   have hx:(fx t)[i]=fY t[i]:=by simp [fx]
   simp only [bf,bsm,d1,bw,aZ hit,qD,e3];have happ:∀x,x=fY t[i]→app ((fx t).take i) [x]=some ((fx t).take (i+1)):=fun x hxx=>by
    rw [cR (by rw [ay]; simp; omega),aq hlt,hx,hxx]
   cases hv:vld t[i] with
   | true=>
    simp only [bw];rw [happ _ (by simp [fY,hv])];rfl
   | false=>
    simp only [aj,aU];rw [happ _ (by simp [fY,hv])];rfl
  ·obtain rfl:i=(fx t).length:=by omega
   have d1:(decide (((fx t).length:Int) < (t.length:Int)) && decide (((fx t).length:Int) < 16))=false:=by simp; omega
   exact .inr (by simp only [bf,bsm,d1,aj,aU]; simp)
end Go.Proofs.YtclmdpamofdoiaaGreatDoor
namespace Go.Proofs.YtclmdpamofdoiaaGreatDoor
open Go Go.Lt
def Sto.sr (s:Sto) (k:Nat) (x:bh):Sto:={ s with row_Row:=s.row_Row.set k x}
theorem cz {α:Type} {l:List α} {k:Nat} {x:α} (h:l[k]? = some x):k < l.length:=(List.getElem?_eq_some_iff.1 h).1
theorem ud {s:Sto} {k:Nat} {x:bh} (h:k < s.row_Row.length):s.set_row_Row k x=some (s.sr k x):=by
 unfold Sto.set_row_Row;rw [ae h];rfl
theorem F4 (s:Sto) (k:Nat) (x:bh):(s.sr k x).row_Row.length=s.row_Row.length:=by simp [Sto.sr]
theorem rn {s:Sto} {k:Nat} {x:bh} (h:k < s.row_Row.length):(s.sr k x).row_Row[k]? = some x:=by simp [Sto.sr,h]
theorem xO {s:Sto} {k j:Nat} {x:bh} (h:k≠j):(s.sr k x).row_Row[j]? = s.row_Row[j]? :=by simp [Sto.sr,h]
theorem An (s:Sto) (k:Nat) (x y:bh):(s.sr k x).sr k y=s.sr k y:=by simp [Sto.sr]
theorem xP {s:Sto} {k:Nat} {x:bh} (h:s.row_Row[k]? = some x):s.sr k x=s:=by
 have:s.row_Row.set k x=s.row_Row:=by
  apply bQ;intro j;by_cases hj:k=j
  ·subst hj; rw [bi (cz h),h]
  ·rw [aR hj]
 simp [Sto.sr,this]
theorem AX (s:Sto) (x:bh):(s.add_row_Row x).row_Row[s.row_Row.length]? = some x:=by simp [Sto.add_row_Row]
theorem Hc (s:Sto) (x y:bh):(s.add_row_Row x).sr s.row_Row.length y=s.add_row_Row y:=by simp [Sto.sr,Sto.add_row_Row]
variable {s:Sto} {k:Nat} {l:List aa} {w:Bool}
theorem iT (h:s.row_Row[k]? = some ⟨l,w⟩):bN s (some k)=some (l.length:Int):=by simp [bN,h]
theorem uf {c:aa} (h:c.Text.length≤1000000):ll c=some c:=by
 simp only [ll,eN,cR (show ([]:List Int).length+c.Text.length≤1099511627776 by simp; omega),bsm,bm]
theorem Cz (h:s.row_Row[k]? = some ⟨l,w⟩):iY s (some k)=some w:=by simp [iY,h,bT]
theorem uG (h:s.row_Row[k]? = some ⟨l,w⟩) (on:Bool):eP s (some k) on=some (s.sr k ⟨l,on⟩):=by
 simp [eP,h,ud (cz h)]
theorem qC (h:s.row_Row[k]? = some ⟨l,w⟩) (hl:l.length≤1000000) (hs:Sht l):er s (some k)=some l:=by
 unfold er;rw [iT h];simp only [bsm];rw [oM (s:=(([]:List aa),(0:Int))) (t:=l) (fun st:List aa×Int=>∃i:Nat,st=(l.take i,(i:Int))∧i≤l.length) (fun st=>l.length - st.2.toNat) ?_ ⟨0,rfl,cZ _⟩ (by simp)]
 ·rfl
 ·rintro st ⟨i,rfl,hi⟩;rcases aP i l.length with hlt | hge
  ·refine .inl ⟨(l.take (i+1),((i+1:Nat):Int)),?_,⟨i+1,rfl,hlt⟩,by simp; omega⟩;have e3:w64 ((i:Int)+1)=((i+1:Nat):Int):=by rw [aG (by omega)]; simp
   simp only [pP,hlt,lL,bw,bsm,h,aZ hlt,uf (hs i hlt),e3];rw [cR (by rw [ay]; simp; omega),aq hlt];rfl
  ·obtain rfl:i=l.length:=by omega
   exact .inr (by simp)
theorem yd (h:s.row_Row[k]? = some ⟨l,w⟩) {i:Nat} (hi:i < l.length) (hs:Sht l):fO s (some k) i=some (l[i],true):=by
 unfold fO;rw [iT h];simp only [bsm,bM];rw [ab (by simp; omega)];simp only [h,bsm,aZ hi,uf (hs i hi)]
theorem yb (h:s.row_Row[k]? = some ⟨l,w⟩) (i:Nat):gM s (some k) i=some (kd l i):=by
 unfold gM;rw [iT h];simp only [bsm,bM];by_cases hi:i < l.length
 ·rw [ab (by simp; omega)];simp only [h,bsm,aZ hi,jU hi]
 ·rw [ae (by simp; omega),mq (by omega)]
theorem wV (h:s.row_Row[k]? = some ⟨l,w⟩) {i:Nat} (hi:i < l.length) (hl:l.length≤1000000) {c:aa} (hc:c.Text.length≤1000000):
  fI s (some k) i c=some (s.sr k ⟨l.set i c,w && !decide (i+1=l.length)⟩):=by
 unfold fI;have e:w64 (((l.set i c).length:Int) - 1)=(l.length:Int) - 1:=by rw [bY,aG (by omega)]
 simp only [h,bsm,uf hc,aZ hi,jS hi,ud (cz h),e];by_cases hn:i+1=l.length
 ·rw [ae (by simp; omega),ud (by rw [F4]; exact cz h),An];simp [hn]
 ·rw [ab (by simp; omega)];simp [hn]
def sd (n:Int):Nat:=(max 1 (min n 1024)).toNat
theorem uA (n:Int):1≤sd n∧sd n≤1024:=by unfold sd; omega
theorem wk {n:Nat} (h:1≤n) (h2:n≤1024):sd n=n:=by unfold sd; omega
theorem tl (n:Int):em n=some (List.replicate (max 0 (min n 1024)).toNat bl):=by
 unfold em;simp only [gu,dB];rw [nG _ (by omega)];rfl
theorem wW (n:Int):ku s n=some (s.add_row_Row ⟨List.replicate (sd n) bl,false⟩,some s.row_Row.length):=by
 unfold ku;rw [tl];simp only [bsm,gu];rw [show (max 0 (min (max 1 n) 1024)).toNat=sd n by unfold sd; omega]
theorem sL (n:Nat):Snd (List.replicate n bl):=fun i h=>by
 rw [iO];exact ⟨rfl,fun h=>by simp [bl] at h,fun h=>by simp [bl] at h⟩
theorem Ge (hl:1≤l.length) (hl2:l.length≤1024) (hs:Snd l):qc s l=some (s.add_row_Row ⟨l,false⟩,some s.row_Row.length,Er.nil):=by
 unfold qc;obtain ⟨b,h1,h2⟩:=vj l (by omega);have hb:b=true:=h2.2 hs;subst hb;simp only [bM,bsm,h1];rw [ab (by rw [aE,aN,ak]; omega),ab (by simp),wW,wk hl hl2];simp only [bsm];rw [oM (s:=((0:Int),s.add_row_Row ⟨List.replicate l.length bl,false⟩)) (t:=s.add_row_Row ⟨l,false⟩) (fun st:Int×Sto=>∃i:Nat,st=((i:Int),s.add_row_Row ⟨l.take i++List.replicate (l.length - i) bl,false⟩)∧i≤l.length) (fun st=>l.length - st.1.toNat) ?_ ⟨0,by simp,cZ _⟩ (by simp)]
 ·rfl
 ·rintro st ⟨i,rfl,hi⟩;rcases aP i l.length with hlt | hge
  ·refine .inl ⟨_,?_,⟨i+1,rfl,hlt⟩,by simp; omega⟩;have e3:w64 ((i:Int)+1)=((i+1:Nat):Int):=by rw [aG (by omega)]; simp
   have hlen:(l.take i++List.replicate (l.length - i) bl).length=l.length:=by simp; omega
   simp only [pP,hlt,lL,bw,aZ hlt,bsm,AX,uf (hs.sht i hlt),e3];rw [aZ (show i < (l.take i++List.replicate (l.length - i) bl).length by omega)];simp only [bsm];rw [jS (show i < (l.take i++List.replicate (l.length - i) bl).length by omega)];simp only [bsm];rw [ud (cz (AX _ _)),Hc];simp only [bsm];have:(l.take i++List.replicate (l.length - i) bl).set i l[i]=l.take (i+1)++List.replicate (l.length - (i+1)) bl:=by
    rw [lg _ _ (by rw [ay]; omega),ay,cq hi,mh,show l.length - i=(l.length - (i+1))+1 by omega,vX,qx,aq hlt,aC];rfl
   rw [this]
  ·obtain rfl:i=l.length:=by omega
   exact .inr (by simp)
def tch (l:List aa) (a n j:Nat):Bool:=(decide (a≤j) && decide (j < a+n)) || (decide (kd l j=2) && decide (a≤j+1) && decide (j+1 < a+n)) || (decide (kd l j=3) && decide (a+1≤j) && decide (j < a+n+1))
def pc (l:List aa) (a:Nat) (p:List aa) (j:Nat):aa:=
 if a≤j∧j < a+p.length then p.getD (j - a) bl else if tch l a p.length j=true then bl else l.getD j bl
def pl (l:List aa) (a:Nat) (p:List aa):List aa:=(List.range l.length).map (pc l a p)
def pw (l:List aa) (w:Bool) (a n:Nat):Bool:=w && !(decide (0 < l.length) && tch l a n (l.length - 1))
theorem iU (l:List aa) (a:Nat) (p:List aa):(pl l a p).length=l.length:=by simp [pl]
theorem ru {a:Nat} {p:List aa} {j:Nat} (h:j < l.length):(pl l a p)[j]? = some (pc l a p j):=by simp [pl,h]
theorem FH {a:Nat} {p:List aa} {j:Nat} (h:j < (pl l a p).length):(pl l a p)[j]=pc l a p j:=by simp [pl]
theorem Db {a:Nat} {p:List aa} {j:Nat} (h:j < l.length):kd (pl l a p) j=(pc l a p j).Kind:=by simp [kd,ru h]
theorem Snd.two (h:Snd l) {j:Nat} (hj:kd l j=2):kd l (j+1)=3:=by
 have hlt:j < l.length:=by
  rcases aP j l.length with h | h
  ·exact h
  ·rw [mq h] at hj; cases hj
 exact (h j hlt).2.1 (by rw [←jU hlt]; exact hj)
theorem Snd.three (h:Snd l) {j:Nat} (hj:kd l j=3):0 < j∧kd l (j - 1)=2:=by
 have hlt:j < l.length:=by
  rcases aP j l.length with h | h
  ·exact h
  ·rw [mq h] at hj; cases hj
 exact (h j hlt).2.2 (by rw [←jU hlt]; exact hj)
theorem tC {j:Nat} (h:kd l j≠0):j < l.length:=by
 rcases aP j l.length with h' | h'
 ·exact h'
 ·exact absurd (mq h') h
theorem Snd.rg (h:Snd l) {j:Nat} (hj:j < l.length):rgt (l.getD j bl)=true:=by
 rw [an,af hj];exact (h j hj).1
theorem mY (l:List aa) (j:Nat):(l.getD j bl).Kind=kd l j:=by
 rw [an,kd]
 cases l[j]? <;> rfl
theorem Snd.paint {a:Nat} {p:List aa} (h:Snd l) (hp:Snd p) (ha:a+p.length≤l.length):Snd (pl l a p):=fun j hj=>by
 rw [iU] at hj;rw [FH];have kpc:∀i,i < l.length→(pc l a p i).Kind=if a≤i∧i < a+p.length then kd p (i - a) else if tch l a p.length i=true then 0 else kd l i:=fun i hi=>by
  unfold pc;split
  ·exact mY _ _
  ·split
   ·rfl
   ·exact mY _ _
 have kall:∀i,kd (pl l a p) i=if i < l.length then (if a≤i∧i < a+p.length then kd p (i - a) else if tch l a p.length i=true then 0 else kd l i) else 0:=fun i=>by
  by_cases hi:i < l.length
  ·rw [ae hi,Db hi,kpc i hi]
  ·rw [ab hi,mq (by rw [iU]; omega)]
 refine ⟨?_,fun h2=>?_,fun h3=>?_⟩
 ·unfold pc;split
  ·exact hp.rg (by omega)
  ·split
   ·rfl
   ·exact h.rg hj
 ·rw [kpc j hj] at h2;rw [kall];by_cases hin:a≤j∧j < a+p.length
  ·rw [ae hin] at h2;have h4:=hp.two h2;have h5:j - a+1 < p.length:=tC (by rw [h4]; decide);rw [ae (by omega),ae (by omega),show j+1 - a=j - a+1 by omega]; exact h4
  ·rw [ab hin] at h2;split at h2
   ·cases h2
   ·rename_i ht
    have h4:=h.two h2;have h5:j+1 < l.length:=tC (by rw [h4]; decide);simp only [tch,h2,lL,dN,aE,av,ak,IJ,yq] at ht;have h6:¬(a≤j+1∧j+1 < a+p.length):=by omega
    have h7:¬tch l a p.length (j+1)=true:=by
     simp only [tch,h4,aE,av,ak];omega
    rw [ae h5,ab h6,ab h7]; exact h4
 ·rw [kpc j hj] at h3;by_cases hin:a≤j∧j < a+p.length
  ·rw [ae hin] at h3;have h4:=hp.three h3;refine ⟨by omega,?_⟩;rw [kall,ae (by omega),ae (by omega),show j - 1 - a=j - a - 1 by omega]; exact h4.2
  ·rw [ab hin] at h3;split at h3
   ·cases h3
   ·rename_i ht
    have h4:=h.three h3;refine ⟨h4.1,?_⟩;simp only [tch,h3,lL,dN,aE,av,ak,IJ,yq] at ht;have h6:¬(a≤j - 1∧j - 1 < a+p.length):=by omega
    have h7:¬tch l a p.length (j - 1)=true:=by
     simp only [tch,h4.2,aE,av,ak];omega
    rw [kall,ae (by omega),ab h6,ab h7]; exact h4.2
theorem nY (l:List aa) (w:Bool) (a:Nat) (p:List aa) (hl:l.length≤1000000) (ha:a≤1000000) (hp:p.length≤1000000):gV l w a p=some (pl l a p,pw l w a p.length):=by
 unfold gV;rw [oM (s:=(w,([]:List aa),(0:Int))) (t:=(pw l w a p.length,pl l a p)) (fun st:Bool×List aa×Int=>∃i:Nat,st=(if i < l.length then w else pw l w a p.length,(pl l a p).take i,(i:Int))∧i≤l.length) (fun st=>l.length - st.2.2.toNat) ?_ ⟨0,?_,cZ _⟩ (by simp)]
 ·rfl
 ·rintro st ⟨i,rfl,hi⟩;rcases aP i l.length with hlt | hge
  ·refine .inl ⟨_,?_,⟨i+1,rfl,hlt⟩,by simp; omega⟩;have e3:w64 ((i:Int)+1)=((i+1:Nat):Int):=by rw [aG (by omega)]; simp
   have e4:w64 ((a:Int)+(p.length:Int))=((a+p.length:Nat):Int):=by rw [aG (by omega)]; simp
   have e5:w64 ((i:Int) - (a:Int))=(i:Int) - a:=aG (by omega);have e6:w64 ((i:Int) - 1)=(i:Int) - 1:=aG (by omega);have hd:decide ((i:Int) < (l.length:Int))=true:=by simp; exact hlt
   simp only [hd,bw,ae hlt,aZ hlt,bsm,bf,bM,e3,e4,e5,e6];have happ:∀x:aa,x=pc l a p i→app ((pl l a p).take i) [x]=some ((pl l a p).take (i+1)):=fun x hx=>by
    subst hx;rw [cR (by rw [ay,iU]; simp; omega),aq (show i < (pl l a p).length by rw [iU]; exact hlt),FH]
   by_cases hin:a≤i∧i < a+p.length
   ·have c1:(decide ((i:Int)≥a) && decide ((i:Int) < ((a+p.length:Nat):Int)))=true:=by simp; omega
    obtain ⟨q,hq⟩:∃q:Nat,q=i - a:=⟨_,rfl⟩;have c2:(i:Int) - a=(q:Int):=by omega
    have hqp:q < p.length:=by omega
    simp only [c1,bw,c2,aZ hqp,bsm,cW,gR,jk,aj,aU,Bool.true_or,FA];rw [happ ⟨p[q].Kind,p[q].Text⟩ (by rw [pc,ae hin,←hq,an,af hqp]; rfl)];by_cases hn:i+1=l.length
    ·have c3:(((i+1:Nat):Int)==(l.length:Int))=true:=by simp; omega
     have c4:pw l w a p.length=false:=by
      have:tch l a p.length (l.length - 1)=true:=by simp [tch]; omega
      simp [pw,this]; omega
     simp only [c3,bw,bsm,c4];rw [ab (by omega)]
    ·have c3:(((i+1:Nat):Int)==(l.length:Int))=false:=by simp; omega
     simp only [c3,aj,aU,bsm];rw [ae (show i+1 < l.length by omega)]
   ·have c1:(decide ((i:Int)≥a) && decide ((i:Int) < ((a+p.length:Nat):Int)))=false:=by simp; omega
    have c5:((l[i].Kind==2 && decide (((i+1:Nat):Int)≥a) && decide (((i+1:Nat):Int) < ((a+p.length:Nat):Int))) || (l[i].Kind==3 && decide ((i:Int) - 1≥a) && decide ((i:Int) - 1 < ((a+p.length:Nat):Int))))=tch l a p.length i:=by
     rw [ce];simp only [tch,jU hlt,aE,av,aN,ak];omega
    simp only [c1,aj,aU,bsm,eX,gj,jP,dN];simp only [c5]
    cases ht:tch l a p.length i with
    | true=>
     simp only [bw,bsm,FA];rw [happ ⟨0,[]⟩ (by rw [pc,ab hin,ae ht]; rfl)];by_cases hn:i+1=l.length
     ·have c3:(((i+1:Nat):Int)==(l.length:Int))=true:=by simp; omega
      have c4:pw l w a p.length=false:=by
       have e:l.length - 1=i:=by omega
       simp [pw,e,ht]; omega
      simp only [c3,bw,bsm,c4];rw [ab (by omega)]
     ·have c3:(((i+1:Nat):Int)==(l.length:Int))=false:=by simp; omega
      simp only [c3,aj,aU,bsm];rw [ae (show i+1 < l.length by omega)]
    | false=>
     simp only [aj,aU,bsm,DY];rw [happ ⟨l[i].Kind,l[i].Text⟩ (by rw [pc,ab hin,ab (by simp [ht]),an,af hlt]; rfl)];by_cases hn:i+1=l.length
     ·have c4:pw l w a p.length=w:=by
       have e:l.length - 1=i:=by omega
       simp [pw,e,ht]
      simp only [bsm,c4,ite_self]
     ·simp only [bsm];rw [ae (show i+1 < l.length by omega)]
  ·obtain rfl:i=l.length:=by omega
   refine .inr ?_;have e:(pl l a p).take l.length=pl l a p:=aK (by rw [iU]; exact aw _);simp [e]
 ·by_cases h0:0 < l.length
  ·simp [h0]
  ·simp [h0,pw]
end Go.Proofs.YtclmdpamofdoiaaGreatDoor
namespace Go.Proofs.YtclmdpamofdoiaaGreatDoor
open Go Go.Lt
variable {s:Sto} {k:Nat} {l p:List aa} {w:Bool}
theorem BD {i j:Nat} (h:i≠j) (c:aa):kd (l.set i c) j=kd l j:=by simp [kd,aR h]
theorem nW (h:s.row_Row[k]? = some ⟨l,w⟩) (hs:Snd l) (hl:l.length≤1024) (hp:Snd p) {a:Nat} (hn:1≤p.length) (ha:a+p.length≤l.length):
  dK s (some k) a p=some (s.sr k ⟨pl l a p,pw l w a p.length⟩,Er.nil):=by
 unfold dK;have hk:=cz h;obtain ⟨b,hb1,hb2⟩:=vj p (by omega);have hb:b=true:=hb2.2 hp;subst hb;have e1:w64 ((l.length:Int) - (a:Int))=(l.length:Int) - a:=aG (by omega);have e2:w64 ((a:Int)+(p.length:Int))=((a+p.length:Nat):Int):=by rw [aG (by omega)]; simp
 have o1:decide ((a:Int) < 0)=false:=by simp
 have o2:decide ((a:Int) > (l.length:Int))=false:=by simp; omega
 have o3:decide ((p.length:Int) > (l.length:Int) - (a:Int))=false:=by simp; omega
 have o4:((p.length:Int)==0)=false:=by rw [eG]; omega
 simp only [bI,ft,o1,o2,o3,o4,h,e1,e2,hb1,bsm,aj,aU,cW,yb h a];obtain ⟨l1,hl1⟩:∃l1,l1=if kd l a=3 then l.set (a - 1) bl else l:=⟨_,rfl⟩;have hlen1:l1.length=l.length:=by rw [hl1]; split <;> simp
 have left:(if (kd l a==3)=true then (fI s (some k) (w64 ((a:Int) - 1)) (⟨0,([]:List Int)⟩:aa)).bind fun x_60=>(some (x_60):Option (Sto)) else (some (s):Option (Sto)))=some (s.sr k ⟨l1,w⟩):=by
  by_cases h3:kd l a=3
  ·have h4:=hs.three h3;have h5:a < l.length:=tC (by rw [h3]; decide);rw [ae (by simpa using h3),show w64 ((a:Int) - 1)=((a - 1:Nat):Int) by rw [aG (by omega)]; omega,wV h (by omega) (by omega) (by simp)];rw [hl1,ae h3];have:decide (a - 1+1=l.length)=false:=by simp; omega
   simp only [bsm,this,eX,FA];rfl
  ·rw [ab (by simpa using h3),hl1,ab h3,xP h]
 rw [left];simp only [bsm];obtain ⟨l2,hl2⟩:∃l2,l2=if kd l (a+p.length)=3 then l1.set (a+p.length) bl else l1:=⟨_,rfl⟩;obtain ⟨w2,hw2⟩:∃w2,w2=(w && !(decide (kd l (a+p.length)=3) && decide (a+p.length+1=l.length))):=⟨_,rfl⟩;have hlen2:l2.length=l.length:=by rw [hl2]; split <;> simp [hlen1]
 have hget1:(s.sr k ⟨l1,w⟩).row_Row[k]? = some ⟨l1,w⟩:=rn hk;have hkd1:kd l1 (a+p.length)=kd l (a+p.length):=by
  rw [hl1]; split
  ·exact BD (by omega) _
  ·rfl
 have right:((gM (s.sr k ⟨l1,w⟩) (some k) ((a+p.length:Nat):Int)).bind fun x_71=>
   if (x_71==3)=true then
   (fI (s.sr k ⟨l1,w⟩) (some k) ((a+p.length:Nat):Int) (⟨0,([]:List Int)⟩:aa)).bind fun x_77=>
   (some (x_77):Option (Sto))
   else
   (some (s.sr k ⟨l1,w⟩):Option (Sto)))=some (s.sr k ⟨l2,w2⟩):=by
  rw [yb hget1,hkd1];simp only [bsm];by_cases h3:kd l (a+p.length)=3
  ·have h5:a+p.length < l.length:=tC (by rw [h3]; decide);rw [ae (by simpa using h3),wV hget1 (by omega) (by omega) (by simp)];simp only [bsm,An];rw [hl2,ae h3,hw2,hlen1];simp only [h3,lL,dN];rfl
  ·rw [ab (by simpa using h3),hl2,ab h3,hw2];simp [h3]
 rw [right];simp only [bsm];rw [oM (s:=((0:Int),s.sr k ⟨l2,w2⟩)) (t:=s.sr k ⟨l2.take a++p++l2.drop (a+p.length),w2 && !decide (a+p.length=l.length)⟩)
  (fun st:Int×Sto=>∃i:Nat,st=((i:Int),s.sr k ⟨l2.take a++p.take i++l2.drop (a+i),w2 && !(decide (0 < i) && decide (a+i=l.length))⟩)∧i≤p.length) (fun st=>p.length - st.1.toNat) ?_ ⟨0,?_,cZ _⟩ (by simp)]
 ·simp only [bsm,aM,fM,qv]
  congr 1
  congr 1
  ·
   apply bQ;intro j;rcases aP j l.length with hj | hj
   ·rw [ru hj];have g1:∀j,j < l.length→j≠a+p.length→l1[j]? = some (if kd l a=3∧j=a - 1 then bl else l.getD j bl):=fun j hj _=>by
     rw [hl1];split
     ·rename_i h3
      by_cases hja:j=a - 1
      ·subst hja;rw [bi (by omega),ae ⟨h3,rfl⟩]
      ·rw [aR (rd hja),ab (fun e=>hja e.2),af hj,an,af hj]; rfl
     ·rename_i h3
      rw [ab (fun e=>h3 e.1),af hj,an,af hj]; rfl
    have lw:(l2.take a).length=a:=by rw [ay]; omega
    rcases aP j a with hja | hja
    ·rw [aC,ax (by omega),aO,ae hja];have e:l2[j]? = l1[j]? :=by
      rw [hl2]; split
      ·exact aR (by omega)
      ·rfl
     have hp0:¬(a≤j∧j < a+p.length):=by omega
     rw [e,g1 j hj (by omega),pc,ab hp0]
     congr 1
     by_cases hc:kd l a=3∧j=a - 1
     ·rw [ae hc,ae];have h4:=hs.three hc.1;simp only [tch,aE,av,ak];refine .inl (.inr ⟨⟨?_,?_⟩,?_⟩)
      ·rw [hc.2]; exact h4.2
      ·omega
      ·omega
     ·rw [ab hc,ab];simp only [tch,aE,av,ak,IJ,yq];refine ⟨⟨fun h=>by omega,fun h2=>?_⟩,fun h=>by omega⟩;have h3:=hs.two h2.1;have:j+1=a:=by omega
      rw [this] at h3;exact absurd ⟨h3,by omega⟩ hc
    ·rcases aP j (a+p.length) with hjn | hjn
     ·rw [aC,aI (by omega),ax (by omega),lw,pc,ae ⟨hja,hjn⟩,an,af (by omega)];rfl
     ·rw [aI (by rw [ai]; omega),bO,ai,lw,show a+p.length+(j - (a+p.length))=j by omega];rw [pc,ab (by omega)];by_cases hc:kd l (a+p.length)=3∧j=a+p.length
      ·rw [hl2,ae hc.1,hc.2,bi (by omega),ae];simp only [tch,aE,av,ak];exact .inr ⟨⟨hc.1,by omega⟩,by omega⟩
      ·have e:l2[j]? = some (l.getD j bl):=by
        have e2:l1[j]? = some (l.getD j bl):=by
         rw [hl1]; split
         ·rw [aR (by omega),an,af hj]; rfl
         ·rw [an,af hj]; rfl
        rw [hl2]; split
        ·rename_i h3
         rw [aR (fun e=>hc ⟨h3,e.symm⟩),e2]
        ·exact e2
       rw [e,ab];simp only [tch,aE,av,ak,IJ,yq];refine ⟨⟨fun h=>by omega,fun h=>by omega⟩,fun h2=>?_⟩;intro h4;have:j=a+p.length:=by omega
       exact hc ⟨by rw [←this]; exact h2.1,this⟩
   ·rw [aQ (l:=pl l a p) (by rw [iU]; exact hj),aQ (by simp only [ai,ay,be]; omega)]
  ·
   rw [hw2,pw,Bool.and_assoc]
   congr 1
   rw [←Bool.not_or]
   congr 1
   have h2:kd l (l.length - 1)≠2:=fun h2=>by
    have:=hs.two h2;rw [show l.length - 1+1=l.length by omega,mq (aw _)] at this;cases this
   rw [ce];simp only [tch,aE,av,ak];constructor
   ·rintro (⟨h3,h4⟩ | h4)
    ·refine ⟨by omega,.inr ⟨⟨?_,by omega⟩,by omega⟩⟩;rw [show l.length - 1=a+p.length by omega]; exact h3
    ·exact ⟨by omega,.inl (.inl ⟨by omega,by omega⟩)⟩
   ·rintro ⟨h0,(⟨h3,h4⟩ | ⟨⟨h3,_⟩,_⟩) | ⟨⟨h3,h4⟩,h5⟩⟩
    ·exact .inr (by omega)
    ·exact absurd h3 h2
    ·by_cases hx:a+p.length=l.length
     ·exact .inr hx
     ·have:l.length - 1=a+p.length:=by omega
      exact .inl ⟨by rw [←this]; exact h3,by omega⟩
 ·rintro st ⟨i,rfl,hi⟩;rcases aP i p.length with hlt | hge
  ·refine .inl ⟨_,?_,⟨i+1,rfl,hlt⟩,by simp; omega⟩;have e3:w64 ((i:Int)+1)=((i+1:Nat):Int):=by rw [aG (by omega)]; simp
   have e4:w64 ((a:Int)+(i:Int))=((a+i:Nat):Int):=by rw [aG (by omega)]; simp
   have hd:decide ((i:Int) < (p.length:Int))=true:=by simp; exact hlt
   have hli:(l2.take a++p.take i++l2.drop (a+i)).length=l.length:=by
    simp only [ai,ay,be]; omega
   simp only [hd,bw,aZ hlt,bsm,e3,e4];rw [wV (rn hk) (by rw [hli]; omega) (by rw [hli]; omega) (hp.sht i hlt)];simp only [bsm,An,hli];have hset:(l2.take a++p.take i++l2.drop (a+i)).set (a+i) p[i]=l2.take a++p.take (i+1)++l2.drop (a+(i+1)):=by
    have hx:(l2.take a++p.take i).length=a+i:=by simp only [ai,ay]; omega
    rw [lg _ _ (by omega),hx,mh,qR (show a+i < l2.length by omega),qx,aq hlt];simp only [aC,cK,bm,rL]
   rw [hset];have hwe:((w2 && !(decide (0 < i) && decide (a+i=l.length))) && !decide (a+i+1=l.length))=(w2 && !(decide (0 < i+1) && decide (a+(i+1)=l.length))):=by
    have:decide (a+i=l.length)=false:=by simp; omega
    rw [this];simp [rL]
   rw [hwe]
  ·obtain rfl:i=p.length:=by omega
   refine .inr ?_;have:decide (0 < p.length)=true:=by simp; omega
   simp [this]
 ·simp
def cl (n:Int) (m:Nat):Nat:=(max 0 (min n m)).toNat
theorem mU (n:Int) (m:Nat):cl n m≤m:=by unfold cl; omega
end Go.Proofs.YtclmdpamofdoiaaGreatDoor
namespace Go.Proofs.YtclmdpamofdoiaaGreatDoor
open Go Go.Lt
variable {s:Sto} {g k W:Nat} {ks:List Nat} {l p:List aa} {w:Bool}
def Sto.sg (s:Sto) (g:Nat) (x:bS):Sto:={ s with grid_Grid:=s.grid_Grid.set g x}
theorem xS {x:bS} (h:g < s.grid_Grid.length):s.set_grid_Grid g x=some (s.sg g x):=by
 simp only [Sto.set_grid_Grid,h,bw];rfl
theorem Cm {x:bS} (h:g < s.grid_Grid.length):(s.sg g x).grid_Grid[g]? = some x:=by simp [Sto.sg,h]
theorem Hz (s:Sto) (g:Nat) (x y:bS):(s.sg g x).sg g y=s.sg g y:=by simp [Sto.sg]
theorem HA {x:bS} (h:s.grid_Grid[g]? = some x):s.sg g x=s:=by
 obtain ⟨h1,h2⟩:=List.getElem?_eq_some_iff.1 h;unfold Sto.sg;rw [←h2,tW]
def ln (s:Sto) (k:Nat):am:=match s.row_Row[k]? with | some r=>⟨r.cells,r.wrap⟩ | none=>⟨[],false⟩
theorem nb {r:bh} (h:s.row_Row[k]? = some r):ln s k=⟨r.cells,r.wrap⟩:=by simp [ln,h]
def Rw (s:Sto) (W k:Nat):Prop:=∃r,s.row_Row[k]? = some r∧Snd r.cells∧r.cells.length=W
structure Gw (s:Sto) (g:Nat) (ks:List Nat) (W:Nat):Prop where
 g:s.grid_Grid[g]? = some ⟨ks.map some⟩
 r:∀k∈ks,Rw s W k
 h1:1≤ks.length
 h2:ks.length≤1024
 w1:1≤W
 w2:W≤1024
theorem Gw.at (h:Gw s g ks W) {i:Nat} (hi:i < ks.length):Rw s W ks[i]:=h.r _ (aB hi)
theorem eA (h:Gw s g ks W):bL s (some g)=some (ks.length:Int):=by simp [bL,h.g]
theorem eM (h:Gw s g ks W) {i:Nat} (hi:i < ks.length):bv s (some g) i=some (some ks[i]):=by
 unfold bv;rw [eA h];simp only [bsm,bM];rw [ab (by simp; omega)];simp only [bsm,h.g];rw [aZ (by simpa using hi)];simp
theorem sk (h:Gw s g ks W) {i:Int} (hi:i < 0∨(ks.length:Int)≤i):bv s (some g) i=some none:=by
 unfold bv;rw [eA h];simp only [bsm,bM];rw [ae (by simp; omega)]
theorem wI (h:Rw s W k):bN s (some k)=some (W:Int):=by
 obtain ⟨r,h1,_,h3⟩:=h;rw [iT (l:=r.cells) (w:=r.wrap) h1,h3]
theorem iV (h:Gw s g ks W):bX s (some g)=some (W:Int):=by
 unfold bX;rw [show (0:Int)=((0:Nat):Int) from rfl,eM h (show 0 < ks.length from h.h1)];simp only [bsm];rw [wI (h.at h.h1)];rfl
theorem yC (h:Gw s g ks W) {i:Nat} (hi:i < ks.length) (hk:Rw s W k):eu s (some g) i (some k)=some (s.sg g ⟨(ks.set i k).map some⟩,true):=by
 unfold eu;rw [eM h hi];simp only [bsm,wI (h.at hi),wI hk,bI,ft];rw [ab (by simp)];simp only [h.g,bsm];rw [aZ (by simpa using hi),jS (by simpa using hi)];simp only [bsm];rw [xS (cz h.g)];simp
theorem Gw.set (h:Gw s g ks W) {i:Nat} (hk:Rw s W k):Gw (s.sg g ⟨(ks.set i k).map some⟩) g (ks.set i k) W:=
 ⟨Cm (cz h.g),fun j hj=>by
  rcases qQ hj with hj | rfl
  ·exact h.r j hj
  ·exact hk,by simpa using h.h1,by simpa using h.h2,h.w1,h.w2⟩
theorem zJ (h:Gw s g ks W):iJ s (some g)=some (ks.map (ln s)):=by
 have hh:=h.h2;have hw:=h.w2;unfold iJ;rw [eA h];simp only [bsm];obtain ⟨t,h1,h2⟩:=fc (σ:=(List am)×Int) (τ:=List am) (n:=ks.length) (fuel:=((ks.length:Int) - 0).toNat+1) (s:=(([]:List am),0))
  (fun i q=>q=((ks.take i).map (ln s),(i:Int))) (fun t=>t=ks.map (ln s))
  (step:=fun s_9=>
 if (decide (s_9.2 < (ks.length:Int)))=true then
 (s.grid_Grid[g]?).bind fun o_19=>
 (idx o_19.rows s_9.2).bind fun x_21=>
 (idx o_19.rows s_9.2).bind fun x_28=>
 (er s x_21).bind fun x_30=>
 (iY s x_28).bind fun x_31=>
 (app s_9.1 ([(⟨x_30,x_31⟩:am)]:List am)).bind fun x_34=>
 some (.inl (x_34,(w64 (s_9.2+1))))
 else
 some (.inr (s_9.1)))
  (fun i q hi e=>by
   subst e;refine .inl ⟨_,?_,rfl⟩;obtain ⟨r,r1,r2,r3⟩:=h.at hi;have e5:w64 ((i:Int)+1)=((i+1:Nat):Int):=by rw [aG (by omega)]; simp
   have hd:decide ((i:Int) < (ks.length:Int))=true:=by simp; exact hi
   have hi2:i < (ks.map some).length:=by simpa using hi
   simp only [hd,bw,bsm,h.g,aZ hi2,dM,e5];rw [qC (l:=r.cells) (w:=r.wrap) r1 (by omega) r2.sht,Cz (l:=r.cells) (w:=r.wrap) r1];simp only [bsm];rw [cR (by simp; omega)];simp only [bsm];rw [aq hi,bd];simp [nb r1])
  (fun q e=>⟨_,by subst e; simp,rfl⟩)
  (by simp) (by omega)
 subst h2;rw [h1];rfl
def Okl (W:Nat) (x:am):Prop:=Snd x.Cells∧x.Cells.length=W
theorem vM (h:Gw s g ks W):∀x∈ks.map (ln s),Okl W x:=fun x hx=>by
 obtain ⟨k,hk,rfl⟩:=List.mem_map.1 hx;obtain ⟨r,r1,r2,r3⟩:=h.r k hk;rw [nb r1];exact ⟨r2,r3⟩
theorem F3 {a b:Sto} (h1:a.row_Row=b.row_Row) (h2:a.grid_Grid=b.grid_Grid) (h3: { a with row_Row:=b.row_Row,grid_Grid:=b.grid_Grid}=b):a=b:=
 DX (show a= { a with row_Row:=b.row_Row,grid_Grid:=b.grid_Grid} by rw [←h1,←h2]) h3
def Sto.rst (s:Sto):Sto:={ s with row_Row:=[],grid_Grid:=[]}
def Sto.oth (s:Sto):Sto:={ s with row_Row:=[],grid_Grid:=[],place_Pen:=[]}
theorem kr {a b:Sto} (h:a.rst=b.rst):a.place_Pen=b.place_Pen:=by
 have:=mN Sto.place_Pen h;exact this
theorem qB {a b:Sto} (h:a.rst=b.rst):a.oth=b.oth:=by
 have:=mN (fun x:Sto=>({ x with place_Pen:=[]}:Sto)) h;exact this
def Sto.addr (s:Sto) (xs:List bh):Sto:={ s with row_Row:=s.row_Row++xs}
theorem DN (s:Sto) (xs:List bh):(s.addr xs).row_Row.length=s.row_Row.length+xs.length:=by simp [Sto.addr]
theorem y9 {xs:List bh} (h:k < s.row_Row.length):(s.addr xs).row_Row[k]? = s.row_Row[k]? :=ax h
theorem sJ {xs:List bh} {i:Nat} (h:i < xs.length):(s.addr xs).row_Row[s.row_Row.length+i]? = some xs[i]:=by
 simp [Sto.addr,aI,h]
theorem DO (s:Sto) (xs:List bh) (x:bh):(s.addr xs).add_row_Row x=s.addr (xs++ [x]):=by simp [Sto.addr,Sto.add_row_Row]
theorem za (s:Sto):s.addr []=s:=by simp [Sto.addr]
theorem Rw.lt (h:Rw s W k):k < s.row_Row.length:=by obtain ⟨r,h,_⟩:=h; exact cz h
theorem Rw.addr {xs:List bh} (h:Rw s W k):Rw (s.addr xs) W k:=by
 obtain ⟨r,h1,h2⟩:=h;exact ⟨r,by rw [y9 (cz h1)]; exact h1,h2⟩
theorem Gw.addr {xs:List bh} (h:Gw s g ks W):Gw (s.addr xs) g ks W:=⟨h.g,fun k hk=>(h.r k hk).addr,h.h1,h.h2,h.w1,h.w2⟩
theorem uP {xs:List bh} (h:k < s.row_Row.length):ln (s.addr xs) k=ln s k:=by unfold ln; rw [y9 h]
theorem C5 {xs:List bh} {i:Nat} (h:i < xs.length):ln (s.addr xs) (s.row_Row.length+i)=⟨xs[i].cells,xs[i].wrap⟩:=nb (sJ h)
def lr (x:am):bh:=⟨x.Cells,x.Wrap⟩
theorem FK {L:List am} (h1:1≤L.length) (h2:L.length≤1024)
  (hok:∀i (h:i < L.length),1≤L[i].Cells.length∧L[i].Cells.length≤1024∧Snd L[i].Cells∧L[i].Cells.length=(L[0]'(by omega)).Cells.length):
  Gw ((s.addr (L.map lr)).add_grid_Grid ⟨(List.range' s.row_Row.length L.length).map some⟩) s.grid_Grid.length (List.range' s.row_Row.length L.length) (L[0]'(by omega)).Cells.length∧
   (List.range' s.row_Row.length L.length).map (ln ((s.addr (L.map lr)).add_grid_Grid ⟨(List.range' s.row_Row.length L.length).map some⟩))=L:=by
 have hr:∀i (h:i < L.length),((s.addr (L.map lr)).add_grid_Grid ⟨(List.range' s.row_Row.length L.length).map some⟩).row_Row[s.row_Row.length+i]? = some (lr L[i]):=fun i h=>by
  have:=sJ (s:=s) (xs:=L.map lr) (i:=i) (by simpa using h);rw [dM] at this;exact this
 refine ⟨⟨by simp [Sto.add_grid_Grid,Sto.addr],fun k hk=>?_,by simpa using h1,by simpa using h2,(hok 0 (by omega)).1,(hok 0 (by omega)).2.1⟩,?_⟩
 ·rw [zf] at hk;have hi:k - s.row_Row.length < L.length:=by omega
  have:=hr _ hi;rw [show s.row_Row.length+(k - s.row_Row.length)=k by omega] at this;exact ⟨_,this,(hok _ hi).2.2.1,(hok _ hi).2.2.2⟩
 ·refine Jj (by simp) fun i h1 h2=>?_;rw [dM,List.getElem_range',mX,nb (hr i h2)];rfl
theorem icl (a:Int) (m:Nat):aV 0 (aL a (m:Int))=((cl a m:Nat):Int):=by simp only [gu,dB,cl]; omega
theorem wm (h:Gw s g ks W) (a b n:Int):lj s (some g) a b n=some (⟨(cl a ks.length:Nat),(cl b ks.length:Nat),min n ((cl b ks.length:Int) - (cl a ks.length:Int))⟩,decide (cl a ks.length < cl b ks.length) && decide (0 < n)):=by
 have h1:=mU a ks.length;have h2:=mU b ks.length;have hh:=h.h2;unfold lj;rw [eA h];simp only [bsm,icl,bf];rw [dB,aG (by omega)];simp
theorem tz (h:Gw s g ks W) {a b:Nat} (hab:a≤b) (hb:b≤ks.length):jG s (some g) a b=some (((ks.drop a).take (b - a)).map some):=by
 have hh:=h.h2;unfold jG;obtain ⟨t,h1,h2⟩:=fc (σ:=(List (Option Nat))×Int) (τ:=List (Option Nat)) (n:=b - a) (fuel:=((b:Int) - (a:Int)).toNat+1) (s:=(([]:List (Option Nat)),(a:Int)))
  (fun i q=>q=(((ks.drop a).take i).map some,((a+i:Nat):Int))) (fun t=>t=((ks.drop a).take (b - a)).map some)
  (step:=fun s_8=>
 if (decide (s_8.2 < (b:Int)))=true then
 (bv s (some g) s_8.2).bind fun x_16=>
 (app s_8.1 ([x_16]:List (Option Nat))).bind fun x_18=>
 some (.inl (x_18,(w64 (s_8.2+1))))
 else
 some (.inr (s_8.1)))
  (fun i q hi e=>by
   subst e;refine .inl ⟨_,?_,rfl⟩;have e5:w64 (((a+i:Nat):Int)+1)=((a+(i+1):Nat):Int):=by rw [aG (by omega)]; simp; omega
   have hd:decide (((a+i:Nat):Int) < (b:Int))=true:=by simp; omega
   simp only [hd,bw];rw [eM h (show a+i < ks.length by omega)];simp only [bsm,e5];rw [cR (by simp; omega)];simp only [bsm];rw [aq (by simp; omega),bd];simp)
  (fun q e=>by
   subst e;have hd:decide (((a+(b - a):Nat):Int) < (b:Int))=false:=by simp; omega
   exact ⟨_,by simp only [hd]; rfl,rfl⟩)
  (by simp) (by omega)
 subst h2;rw [h1];rfl
def bk (W:Nat):bh:=⟨List.replicate W bl,false⟩
theorem qT (h:Gw s g ks W) {n:Nat} (hn:n≤1024):iA s (some g) n=some (s.addr (List.replicate n (bk W)),(List.range' s.row_Row.length n).map some):=by
 unfold iA;obtain ⟨t,h1,h2⟩:=fc (σ:=(List (Option Nat))×Int×Sto) (τ:=(List (Option Nat))×Sto) (n:=n) (fuel:=((n:Int) - 0).toNat+1) (s:=(([]:List (Option Nat)),0,s))
  (fun i q=>q=((List.range' s.row_Row.length i).map some,(i:Int),s.addr (List.replicate i (bk W)))) (fun t=>t=((List.range' s.row_Row.length n).map some,s.addr (List.replicate n (bk W))))
  (step:=fun s_8=>
 if (decide (s_8.2.1 < (n:Int)))=true then
 (bX s_8.2.2 (some g)).bind fun x_13=>
 (ku s_8.2.2 x_13).bind fun x_14=>
 (app s_8.1 ([x_14.2]:List (Option Nat))).bind fun x_16=>
 some (.inl (x_16,(w64 (s_8.2.1+1)),x_14.1))
 else
 some (.inr (s_8.1,s_8.2.2)))
  (fun i q hi e=>by
   subst e;refine .inl ⟨_,?_,rfl⟩;have e5:w64 ((i:Int)+1)=((i+1:Nat):Int):=by rw [aG (by omega)]; simp
   have hd:decide ((i:Int) < (n:Int))=true:=by simp; exact hi
   simp only [hd,bw];rw [iV (h.addr (xs:=List.replicate i (bk W)))];simp only [bsm,wW,wk h.w1 h.w2,e5];rw [cR (by simp; omega)];simp only [bsm];rw [DO,DN,IX,bd,Iu];simp [bk])
  (fun q e=>⟨_,by subst e; simp,rfl⟩)
  (by simp [za]) (by omega)
 subst h2;rw [h1];rfl
def ov (ks:List Nat) (F:Nat) (p:List Nat):List Nat:=ks.take F++p++ks.drop (F+p.length)
theorem sR {F:Nat} {p:List Nat} (h:F+p.length≤ks.length):(ov ks F p).length=ks.length:=by simp [ov]; omega
theorem Gx {F i:Nat} {p:List Nat} (h:F+p.length≤ks.length) (hi:i < p.length):(ov ks F (p.take i)).set (F+i) p[i]=ov ks F (p.take (i+1)):=by
 unfold ov;have h1:(ks.take F++p.take i).length=F+i:=by simp; omega
 rw [lg _ _ (by omega),h1,mh,ay,ay,cq (tu hi),cq (show i+1≤p.length by omega),qR (show F+i < ks.length by omega),qx,aq hi];simp only [aC,cK,bm,rL]
def off (s:Sto) (k:Nat):Sto:=s.sr k ⟨(ln s k).Cells,false⟩
theorem yE (h:Rw s W k):eP s (some k) false=some (off s k):=by
 obtain ⟨r,h1,_⟩:=h;rw [uG (l:=r.cells) (w:=r.wrap) h1];unfold off;rw [nb h1]
theorem Rw.off {j:Nat} (h:Rw s W j) (hk:Rw s W k):Rw (off s k) W j:=by
 obtain ⟨r,h1,h2,h3⟩:=h;obtain ⟨q,k1,k2,k3⟩:=hk;by_cases e:k=j
 ·subst e;exact ⟨_,rn (cz k1),by rw [nb k1]; exact ⟨k2,k3⟩⟩
 ·exact ⟨r,(xO e).trans h1,h2,h3⟩
theorem Gw.off (h:Gw s g ks W) (hk:Rw s W k):Gw (off s k) g ks W:=⟨h.g,fun j hj=>(h.r j hj).off hk,h.h1,h.h2,h.w1,h.w2⟩
theorem GD {j:Nat} (hk:Rw s W k):ln (off s k) j=if j=k then ⟨(ln s k).Cells,false⟩ else ln s j:=by
 by_cases e:k=j
 ·subst e;rw [ae rfl];exact nb (rn hk.lt)
 ·rw [ab (rd e)];unfold ln;rw [show (Go.Proofs.YtclmdpamofdoiaaGreatDoor.off s k).row_Row[j]? = s.row_Row[j]? from xO e]
theorem yt (x:bS) (j:Nat):ln (s.sg g x) j=ln s j:=rfl
def offa (s:Sto) (ks:List Nat) (F:Nat):Sto:=if F=0 then s else off s (ks.getD (F - 1) 0)
theorem uB (h:Gw s g ks W) {F:Nat} {p:List Nat} (hp:F+p.length≤ks.length) (hr:∀k∈p,Rw s W k) (st:gL) (hF:st.from_=(F:Int)):
  eB s st (some g) (p.map some)=some (offa (s.sg g ⟨(ov ks F p).map some⟩) (ov ks F p) F)∧Gw (s.sg g ⟨(ov ks F p).map some⟩) g (ov ks F p) W:=by
 have hh:=h.h2;have key:∀i,i≤p.length→Gw (s.sg g ⟨(ov ks F (p.take i)).map some⟩) g (ov ks F (p.take i)) W:=fun i hi=>
  ⟨Cm (cz h.g),fun k hk=>by
   unfold ov at hk;rw [Js,Js] at hk;rcases hk with (hk | hk) | hk
   ·exact h.r k (gS hk)
   ·exact hr k (gS hk)
   ·exact h.r k (jE hk),by rw [sR (by simp; omega)]; exact h.h1,by rw [sR (by simp; omega)]; exact h.h2,h.w1,h.w2⟩
 have kend:=key p.length (aw _);rw [cy] at kend;refine ⟨?_,kend⟩;unfold eB;rw [hF];obtain ⟨t,h1,h2⟩:=fc (σ:=Int×Sto) (τ:=Sto) (n:=p.length) (fuel:=(((p.map some).length:Int) - 0).toNat+1) (s:=((0:Int),s))
  (fun i q=>q=((i:Int),s.sg g ⟨(ov ks F (p.take i)).map some⟩)) (fun t=>t=s.sg g ⟨(ov ks F p).map some⟩)
  (step:=fun s_7=>
 if (decide (s_7.1 < ((p.map some).length:Int)))=true then
 (idx (p.map some) s_7.1).bind fun x_11=>
 (eu s_7.2 (some g) (w64 ((F:Int)+s_7.1)) x_11).bind fun x_22=>
 some (.inl ((w64 (s_7.1+1)),x_22.1))
 else
 some (.inr (s_7.2)))
  (fun i q hi e=>by
   subst e;refine .inl ⟨_,?_,rfl⟩;have e5:w64 ((i:Int)+1)=((i+1:Nat):Int):=by rw [aG (by omega)]; simp
   have e6:w64 ((F:Int)+(i:Int))=((F+i:Nat):Int):=by rw [aG (by omega)]; simp
   have hd:decide ((i:Int) < ((p.map some).length:Int))=true:=by simp; exact hi
   have hi2:i < (p.map some).length:=by simpa using hi
   have hk:=key i (tu hi);simp only [hd,bw,aZ hi2,bsm,dM,e5,e6];have hl:(ov ks F (p.take i)).length=ks.length:=sR (by simp; omega);rw [yC hk (show F+i < (ov ks F (p.take i)).length by omega) (hr _ (aB hi))];simp only [bsm];rw [Gx hp hi,Hz])
  (fun q e=>by
   subst e;rw [cy];exact ⟨_,by simp,rfl⟩)
  (by
   simp only [eU,fM];refine ⟨rfl,(HA ?_).symm⟩;rw [h.g];simp [ov]) (by simp)
 subst h2;rw [h1];simp only [bsm];unfold offa;by_cases h0:F=0
 ·subst h0;rw [ae rfl,sk kend (by left; rw [aG (by omega)]; omega)];rfl
 ·have e7:w64 ((F:Int) - 1)=((F - 1:Nat):Int):=by rw [aG (by omega)]; omega
  have hl:(ov ks F p).length=ks.length:=sR hp;have hlt:F - 1 < (ov ks F p).length:=by omega
  rw [ab h0,e7,eM kend hlt];simp only [bsm];rw [yE (kend.at hlt),an,af hlt];rfl
def dl:am:=⟨[],false⟩
def mvb (W:Nat) (L:List am) (F T m:Nat) (up:Bool) (i:Nat):am:=
 if F≤i∧i < T then (if up=true then (if i+m < T then L.getD (i+m) dl else ⟨List.replicate W bl,false⟩) else (if F+m≤i then L.getD (i - m) dl else ⟨List.replicate W bl,false⟩)) else L.getD i dl
def mvl (W:Nat) (L:List am) (F T m:Nat) (up:Bool) (i:Nat):am:=
 if i+1=F∨(up=false∧i+1=T) then ⟨(mvb W L F T m up i).Cells,false⟩ else mvb W L F T m up i
def mv (W:Nat) (L:List am) (F T:Nat) (n:Int) (up:Bool):List am:=
 if F < T∧0 < n then (List.range L.length).map (mvl W L F T (min n ((T:Int) - (F:Int))).toNat up) else L
theorem gd {i:Nat} (h:i < ks.length):ks.getD i 0=ks[i]:=by rw [an,af h]; rfl
theorem gdl {L:List am} {i:Nat} (h:i < L.length):L.getD i dl=L[i]:=by rw [an,af h]; rfl
theorem AE (nd:ks.Nodup) {i j:Nat} (hj:j < ks.length) (hij:i < j):ks.getD i 0≠ks.getD j 0:=by
 rw [gd hj,gd (Nat.lt_trans hij hj)];exact List.pairwise_iff_getElem.1 nd i j _ _ hij
theorem C2 {h:Nat} {f:Nat→Nat} (hf:∀i j,i < j→j < h→f i≠f j):((List.range h).map f).Nodup:=by
 rw [List.Nodup,List.pairwise_map];exact List.pairwise_lt_range.imp_of_mem fun _ hb hlt=>hf _ _ hlt (List.mem_range.1 hb)
def kfu (ks:List Nat) (N F T m i:Nat):Nat:=if i < F∨T≤i then ks.getD i 0 else if i+m < T then ks.getD (i+m) 0 else N+(i+m - T)
def kfd (ks:List Nat) (N F T m i:Nat):Nat:=if i < F∨T≤i then ks.getD i 0 else if i < F+m then N+(i - F) else ks.getD (i - m) 0
theorem HO {F T m:Nat} (N:Nat) (h1:F+m≤T) (h2:T≤ks.length):ov ks F ((ks.drop (F+m)).take (T - (F+m))++List.range' N m)=(List.range ks.length).map (kfu ks N F T m):=by
 refine bQ fun i=>?_;rcases aP i ks.length with hi | hi
 ·rw [bK,di hi,dH];have e:((ks.drop (F+m)).take (T - (F+m))++List.range' N m).length=T - F:=by simp; omega
  have et:(ks.take F).length=F:=by simp; omega
  have ex:((ks.drop (F+m)).take (T - (F+m))).length=T - (F+m):=by simp; omega
  unfold ov;rw [e,aC,fp,et];unfold kfu;by_cases c1:i < F
  ·rw [ae c1,ae (Or.inl c1),aO,ae c1,gd hi,af hi]
  ·rw [ab c1,fp,e];by_cases c2:T≤i
   ·rw [ab (by omega),ae (Or.inr c2),bO,show F+(T - F)+(i - F - (T - F))=i by omega,gd hi,af hi]
   ·rw [ae (by omega),ab (by omega),fp,ex];by_cases c3:i+m < T
    ·rw [ae (by omega),ae c3,aO,ae (by omega),bO,show F+m+(i - F)=i+m by omega,gd (by omega),af (by omega)]
    ·rw [ab (by omega),ab c3,Iv (by omega),mX]
     congr 1
     omega
 ·rw [aQ (by rw [sR (by simp; omega)]; exact hi),aQ (by simpa using hi)]
theorem EL {F T m:Nat} (N:Nat) (h1:F+m≤T) (h2:T≤ks.length):ov ks F (List.range' N m++(ks.drop F).take (T - m - F))=(List.range ks.length).map (kfd ks N F T m):=by
 refine bQ fun i=>?_;rcases aP i ks.length with hi | hi
 ·rw [bK,di hi,dH];have e:(List.range' N m++(ks.drop F).take (T - m - F)).length=T - F:=by simp; omega
  have et:(ks.take F).length=F:=by simp; omega
  have ex:(List.range' N m).length=m:=by simp
  unfold ov;rw [e,aC,fp,et];unfold kfd;by_cases c1:i < F
  ·rw [ae c1,ae (Or.inl c1),aO,ae c1,gd hi,af hi]
  ·rw [ab c1,fp,e];by_cases c2:T≤i
   ·rw [ab (by omega),ae (Or.inr c2),bO,show F+(T - F)+(i - F - (T - F))=i by omega,gd hi,af hi]
   ·rw [ae (by omega),ab (by omega),fp,ex];by_cases c3:i < F+m
    ·rw [ae (by omega),ae c3,Iv (by omega),mX]
    ·rw [ab (by omega),ab c3,aO,ae (by omega),bO,show F+(i - F - m)=i - m by omega,gd (by omega),af (by omega)]
 ·rw [aQ (by rw [sR (by simp; omega)]; exact hi),aQ (by simpa using hi)]
theorem GG (nd:ks.Nodup) {N F T m:Nat} (hN:∀k∈ks,k < N) (h1:F+m≤T) (h2:T≤ks.length) (i j:Nat) (hij:i < j) (hj:j < ks.length):kfu ks N F T m i≠kfu ks N F T m j:=by
 have lt:∀i,i < ks.length→ks.getD i 0 < N:=fun i hi=>by rw [gd hi]; exact hN _ (aB hi)
 have ne:∀a b,a < b→b < ks.length→ks.getD a 0≠ks.getD b 0:=fun a b hab hb=>AE nd hb hab;have ne2:∀a b,b < a→a < ks.length→ks.getD a 0≠ks.getD b 0:=fun a b hab ha=>(AE nd ha hab).symm;unfold kfu
 repeat' split
 all_goals first
  | exact ne _ _ (by omega) (by omega)
  | exact ne2 _ _ (by omega) (by omega)
  | (have:=lt i (by omega); omega)
  | (have:=lt j (by omega); omega)
  | (have:=lt (i+m) (by omega); omega)
  | (have:=lt (j+m) (by omega); omega)
  | omega
theorem GH (nd:ks.Nodup) {N F T m:Nat} (hN:∀k∈ks,k < N) (h1:F+m≤T) (h2:T≤ks.length) (i j:Nat) (hij:i < j) (hj:j < ks.length):kfd ks N F T m i≠kfd ks N F T m j:=by
 have lt:∀i,i < ks.length→ks.getD i 0 < N:=fun i hi=>by rw [gd hi]; exact hN _ (aB hi)
 have ne:∀a b,a < b→b < ks.length→ks.getD a 0≠ks.getD b 0:=fun a b hab hb=>AE nd hb hab;have ne2:∀a b,b < a→a < ks.length→ks.getD a 0≠ks.getD b 0:=fun a b hab ha=>(AE nd ha hab).symm;unfold kfd
 repeat' split
 all_goals first
  | exact ne _ _ (by omega) (by omega)
  | exact ne2 _ _ (by omega) (by omega)
  | (have:=lt i (by omega); omega)
  | (have:=lt j (by omega); omega)
  | (have:=lt (i - m) (by omega); omega)
  | (have:=lt (j - m) (by omega); omega)
  | omega
theorem xe {h:Nat} {f:Nat→Nat} {B:Nat→am} (hf:∀i j,i < j→j < h→f i≠f j) (hB:∀i,i < h→ln s (f i)=B i) {j:Nat} (hj:j < h) (hk:Rw s W (f j)) (i:Nat) (hi:i < h):
  ln (off s (f j)) (f i)=if i=j then ⟨(B j).Cells,false⟩ else B i:=by
 rw [GD hk,hB j hj];by_cases e:i=j
 ·subst e; rw [ae rfl,ae rfl]
 ·rw [ab,ab e,hB i hi];rcases IW e with h | h
  ·exact hf i j h hj
  ·exact (hf j i h hi).symm
theorem yk (s:Sto) (ks:List Nat) (F:Nat):(offa s ks F).rst=s.rst:=by
 unfold offa;split <;> rfl
theorem lA {h i:Nat} {f:Nat→Nat} (hi:i < h):((List.range h).map f).getD i 0=f i:=by
 rw [gd (by simpa using hi)];simp
structure Rf (s s':Sto) (g:Nat) (ks:List Nat) (g':Nat) (ks':List Nat):Prop where
 gl:s.grid_Grid.length≤s'.grid_Grid.length
 rl:s.row_Row.length≤s'.row_Row.length
 gr:∀j,j < s.grid_Grid.length→j≠g→s'.grid_Grid[j]? = s.grid_Grid[j]?
 rw:∀j,j < s.row_Row.length→j∉ks→s'.row_Row[j]? = s.row_Row[j]?
 ng:g'=g∨s.grid_Grid.length≤g'
 nr:∀r∈ks',r∈ks∨s.row_Row.length≤r
theorem Rf.self (s:Sto) (g:Nat) (ks:List Nat):Rf s s g ks g ks:=⟨aw _,aw _,fun _ _ _=>rfl,fun _ _ _=>rfl,.inl rfl,fun _ h=> .inl h⟩
theorem Rf.rowoff {s':Sto} {ks':List Nat} (h:Rf s s' g ks g ks') {i:Nat} (hi:i∈ks'):Rf s (off s' i) g ks g ks':=by
 have e:(off s' i).row_Row=s'.row_Row.set i ⟨(ln s' i).Cells,false⟩:=rfl;refine ⟨h.gl,by rw [e,bY]; exact h.rl,h.gr,fun j h1 h2=>?_,h.ng,h.nr⟩;rw [e,aR ?_]
 ·exact h.rw j h1 h2
 ·rintro rfl;rcases h.nr _ hi with q | q
  ·exact h2 q
  ·omega
theorem Rf.aboff {s':Sto} {ks':List Nat} (h:Rf s s' g ks g ks') (F:Nat) (hF:F≤ks'.length):Rf s (offa s' ks' F) g ks g ks':=by
 unfold Go.Proofs.YtclmdpamofdoiaaGreatDoor.offa;split
 ·exact h
 ·refine h.rowoff ?_;rw [gd (by omega)];exact aB _
theorem Rf.lay (xs:List bh) (x:bS) {ks':List Nat} (h:∀r∈ks',r∈ks∨s.row_Row.length≤r):Rf s ((s.addr xs).sg g x) g ks g ks':=by
 have e:((s.addr xs).sg g x).row_Row=s.row_Row++xs:=rfl;have e2:((s.addr xs).sg g x).grid_Grid=s.grid_Grid.set g x:=rfl;exact ⟨by rw [e2,bY]; exact aw _,by rw [e,ai]; omega,fun j _ hj=>by rw [e2,aR (rd hj)],fun j hj _=>by rw [e,ax hj],.inl rfl,h⟩
theorem EP {N F T m:Nat} (hm:T≤ks.length) {r:Nat} (hr:r∈(List.range ks.length).map (kfu ks N F T m)):r∈ks∨N≤r:=by
 obtain ⟨i,hi,rfl⟩:=List.mem_map.1 hr;have hi:=List.mem_range.1 hi;unfold kfu;split
 ·rw [gd hi]; exact .inl (aB _)
 ·split
  ·rw [gd (by omega)]; exact .inl (aB _)
  ·exact .inr (by omega)
theorem EQ {N F T m:Nat} (hm:T≤ks.length) {r:Nat} (hr:r∈(List.range ks.length).map (kfd ks N F T m)):r∈ks∨N≤r:=by
 obtain ⟨i,hi,rfl⟩:=List.mem_map.1 hr;have hi:=List.mem_range.1 hi;unfold kfd;split
 ·rw [gd hi]; exact .inl (aB _)
 ·split
  ·exact .inr (by omega)
  ·rw [gd (by omega)]; exact .inl (aB _)
theorem zh (h:Gw s g ks W) (nd:ks.Nodup) (a b n:Int):∃s' ks',jX s (some g) a b n=some s'∧(Gw s' g ks' W∧ks'.Nodup∧ks'.length=ks.length∧
  ks'.map (ln s')=mv W (ks.map (ln s)) (cl a ks.length) (cl b ks.length) n true)∧s'.rst=s.rst∧Rf s s' g ks g ks':=by
 have hF:=mU a ks.length;have hT:=mU b ks.length;have hh:=h.h2;have hN:∀k∈ks,k < s.row_Row.length:=fun k hk=>(h.r k hk).lt;unfold jX;rw [wm h];simp only [bsm];generalize cl a ks.length=F at *;generalize cl b ks.length=T at *;unfold mv;by_cases hc:F < T∧0 < n
 ·obtain ⟨m,hm⟩:∃m:Nat,min n ((T:Int) - (F:Int))=(m:Int):=⟨(min n ((T:Int) - (F:Int))).toNat,by omega⟩;have hm2:F+m≤T∧1≤m:=by omega
  rw [ae (by simp; omega),ae hc,hm,aG (by omega),show ((F:Int)+(m:Int))=((F+m:Nat):Int) by simp,tz h hm2.1 hT];simp only [bsm];rw [qT h (by omega)];simp only [bsm];rw [cR (by simp; omega),←bd];simp only [bsm];have h1:=h.addr (xs:=List.replicate m (bk W));have hlen:((ks.drop (F+m)).take (T - (F+m))++List.range' s.row_Row.length m).length=T - F:=by simp; omega
  obtain ⟨h3,h4⟩:=uB h1 (F:=F) (p:=(ks.drop (F+m)).take (T - (F+m))++List.range' s.row_Row.length m) (by rw [hlen]; omega) (fun k hk=>by
   rcases List.mem_append.1 hk with hk | hk
   ·exact h1.r k (jE (gS hk))
   ·rw [zf] at hk;have:=sJ (s:=s) (xs:=List.replicate m (bk W)) (i:=k - s.row_Row.length) (by simp; omega);rw [show s.row_Row.length+(k - s.row_Row.length)=k by omega,iO] at this;exact ⟨_,this,sL W,by simp [bk]⟩) ⟨(F:Int),(T:Int),(m:Int)⟩ rfl
  rw [h3];rw [HO s.row_Row.length hm2.1 hT] at h4⊢;have ne:=GG nd (N:=s.row_Row.length) (F:=F) (T:=T) (m:=m) hN hm2.1 hT;have hB:∀i,i < ks.length→ln ((s.addr (List.replicate m (bk W))).sg g ⟨((List.range ks.length).map (kfu ks s.row_Row.length F T m)).map some⟩) (kfu ks s.row_Row.length F T m i)=mvb W (ks.map (ln s)) F T m true i:=by
   intro i hi;rw [yt];have old:∀j,j < ks.length→ln (s.addr (List.replicate m (bk W))) (ks.getD j 0)=(ks.map (ln s)).getD j dl:=fun j hj=>by
    rw [gdl (by simpa using hj),gd hj,uP (hN _ (aB hj)),dM]
   unfold kfu mvb;by_cases c1:i < F∨T≤i
   ·rw [ae c1,ab (show ¬(F≤i∧i < T) by omega),old i hi]
   ·rw [ab c1,ae (show F≤i∧i < T by omega),ae rfl];by_cases c2:i+m < T
    ·rw [ae c2,ae c2,old _ (by omega)]
    ·rw [ab c2,ab c2,C5 (by simp; omega),iO];rfl
  refine ⟨_,(List.range ks.length).map (kfu ks s.row_Row.length F T m),rfl,⟨?_,C2 ne,by simp,?_⟩,yk _ _ _,(Rf.lay _ _ fun r hr=>EP hT hr).aboff F (by simp; omega)⟩
  ·unfold offa;split
   ·exact h4
   ·refine h4.off ?_;rw [lA (by omega)];exact h4.r _ (List.mem_map.2 ⟨F - 1,List.mem_range.2 (by omega),rfl⟩)
  ·rw [bZ,Hi];refine cV fun i hi=>?_;have hi:=List.mem_range.1 hi;simp only [Function.comp,bR];unfold offa mvl;by_cases h0:F=0
   ·rw [ae h0,ab (by simp; omega),hB i hi]
   ·rw [ab h0,lA (by omega),xe ne hB (by omega) (h4.r _ (List.mem_map.2 ⟨F - 1,List.mem_range.2 (by omega),rfl⟩)) i hi];by_cases e:i=F - 1
    ·rw [ae e,ae (by omega),e]
    ·rw [ab e,ab (by simp; omega)]
 ·rw [ab (by simp; omega),ab hc];exact ⟨s,ks,rfl,⟨h,nd,rfl,rfl⟩,rfl,Rf.self _ _ _⟩
theorem yM (h:Gw s g ks W) (nd:ks.Nodup) (a b n:Int):∃s' ks',jH s (some g) a b n=some s'∧(Gw s' g ks' W∧ks'.Nodup∧ks'.length=ks.length∧
  ks'.map (ln s')=mv W (ks.map (ln s)) (cl a ks.length) (cl b ks.length) n false)∧s'.rst=s.rst∧Rf s s' g ks g ks':=by
 have hF:=mU a ks.length;have hT:=mU b ks.length;have hh:=h.h2;have hN:∀k∈ks,k < s.row_Row.length:=fun k hk=>(h.r k hk).lt;unfold jH;rw [wm h];simp only [bsm];generalize cl a ks.length=F at *;generalize cl b ks.length=T at *;unfold mv;by_cases hc:F < T∧0 < n
 ·obtain ⟨m,hm⟩:∃m:Nat,min n ((T:Int) - (F:Int))=(m:Int):=⟨(min n ((T:Int) - (F:Int))).toNat,by omega⟩;have hm2:F+m≤T∧1≤m:=by omega
  have h1:=h.addr (xs:=List.replicate m (bk W));rw [ae (by simp; omega),ae hc,hm,qT h (by omega)];simp only [bsm];rw [aG (by omega),show ((T:Int) - (m:Int))=((T - m:Nat):Int) by omega,tz h1 (by omega) (by omega)];simp only [bsm];rw [cR (by simp; omega),←bd];simp only [bsm];have hlen:(List.range' s.row_Row.length m++(ks.drop F).take (T - m - F)).length=T - F:=by simp; omega
  obtain ⟨h3,h4⟩:=uB h1 (F:=F) (p:=List.range' s.row_Row.length m++(ks.drop F).take (T - m - F)) (by rw [hlen]; omega) (fun k hk=>by
   rcases List.mem_append.1 hk with hk | hk
   ·rw [zf] at hk;have:=sJ (s:=s) (xs:=List.replicate m (bk W)) (i:=k - s.row_Row.length) (by simp; omega);rw [show s.row_Row.length+(k - s.row_Row.length)=k by omega,iO] at this;exact ⟨_,this,sL W,by simp [bk]⟩
   ·exact h1.r k (jE (gS hk))) ⟨(F:Int),(T:Int),(m:Int)⟩ rfl
  rw [h3];rw [EL s.row_Row.length hm2.1 hT] at h4⊢;have ne:=GH nd (N:=s.row_Row.length) (F:=F) (T:=T) (m:=m) hN hm2.1 hT;have hB:∀i,i < ks.length→ln ((s.addr (List.replicate m (bk W))).sg g ⟨((List.range ks.length).map (kfd ks s.row_Row.length F T m)).map some⟩) (kfd ks s.row_Row.length F T m i)=mvb W (ks.map (ln s)) F T m false i:=by
   intro i hi;rw [yt];have old:∀j,j < ks.length→ln (s.addr (List.replicate m (bk W))) (ks.getD j 0)=(ks.map (ln s)).getD j dl:=fun j hj=>by
    rw [gdl (by simpa using hj),gd hj,uP (hN _ (aB hj)),dM]
   unfold kfd mvb;by_cases c1:i < F∨T≤i
   ·rw [ae c1,ab (show ¬(F≤i∧i < T) by omega),old i hi]
   ·rw [ab c1,ae (show F≤i∧i < T by omega),ab (show ¬(false=true) by simp)];by_cases c2:i < F+m
    ·rw [ae c2,ab (show ¬(F+m≤i) by omega),C5 (by simp; omega),iO];rfl
    ·rw [ab c2,ae (show F+m≤i by omega),old _ (by omega)]
  have hmem:∀j,j < ks.length→kfd ks s.row_Row.length F T m j∈(List.range ks.length).map (kfd ks s.row_Row.length F T m):=fun j hj=>List.mem_map.2 ⟨j,List.mem_range.2 hj,rfl⟩;have h5:Gw (offa ((s.addr (List.replicate m (bk W))).sg g ⟨((List.range ks.length).map (kfd ks s.row_Row.length F T m)).map some⟩) ((List.range ks.length).map (kfd ks s.row_Row.length F T m)) F) g ((List.range ks.length).map (kfd ks s.row_Row.length F T m)) W:=by
   unfold offa;split
   ·exact h4
   ·refine h4.off ?_;rw [lA (by omega)];exact h4.r _ (hmem _ (by omega))
  have hC:∀i,i < ks.length→ln (offa ((s.addr (List.replicate m (bk W))).sg g ⟨((List.range ks.length).map (kfd ks s.row_Row.length F T m)).map some⟩) ((List.range ks.length).map (kfd ks s.row_Row.length F T m)) F) (kfd ks s.row_Row.length F T m i)=
    if i+1=F then ⟨(mvb W (ks.map (ln s)) F T m false i).Cells,false⟩ else mvb W (ks.map (ln s)) F T m false i:=by
   intro i hi;unfold offa;by_cases h0:F=0
   ·rw [ae h0,ab (by omega),hB i hi]
   ·rw [ab h0,lA (by omega),xe ne hB (by omega) (h4.r _ (hmem _ (by omega))) i hi];by_cases e:i=F - 1
    ·rw [ae e,ae (by omega),e]
    ·rw [ab e,ab (by omega)]
  have hlt:T - 1 < ((List.range ks.length).map (kfd ks s.row_Row.length F T m)).length:=by simp; omega
  simp only [bsm];rw [aG (by omega),show ((T:Int) - 1)=((T - 1:Nat):Int) by omega,eM h5 hlt];simp only [bsm];rw [yE (h5.at hlt)];simp only [bsm,dM,xC];refine ⟨_,(List.range ks.length).map (kfd ks s.row_Row.length F T m),rfl,⟨h5.off (h5.r _ (hmem _ (by omega))),C2 ne,by simp,?_⟩,yk _ _ _,((Rf.lay _ _ fun r hr=>EQ hT hr).aboff F (by simp; omega)).rowoff (hmem _ (by omega))⟩;rw [bZ,Hi];refine cV fun i hi=>?_;have hi:=List.mem_range.1 hi;simp only [Function.comp,bR];rw [xe ne hC (by omega) (h5.r _ (hmem _ (by omega))) i hi];unfold mvl;by_cases e:i=T - 1
  ·rw [ae e,ab (show ¬(T - 1+1=F) by omega),ae (show i+1=F∨(false=false∧i+1=T) from Or.inr ⟨rfl,by omega⟩),e]
  ·rw [ab e];by_cases e2:i+1=F
   ·rw [ae e2,ae (Or.inl e2)]
   ·rw [ab e2,ab (show ¬(i+1=F∨(false=false∧i+1=T)) by simp; omega)]
 ·rw [ab (by simp; omega),ab hc];exact ⟨s,ks,rfl,⟨h,nd,rfl,rfl⟩,rfl,Rf.self _ _ _⟩
theorem pX {L:List am} (hl:L.length≤1024) (hW:W≤1024) (hL:∀x∈L,x.Cells.length=W) (a b n:Int) (up:Bool):
  fP L a b n up=some (mv W L (cl a L.length) (cl b L.length) n up):=by
 have hF:=mU a L.length;have hT:=mU b L.length;unfold fP;simp only [icl,bM,bsm];generalize cl a L.length=F at *;generalize cl b L.length=T at *;unfold mv;by_cases hc:F < T∧0 < n
 ·obtain ⟨m,hm⟩:∃m:Nat,min n ((T:Int) - (F:Int))=(m:Int):=⟨(min n ((T:Int) - (F:Int))).toNat,by omega⟩;have hm2:F+m≤T∧1≤m:=by omega
  rw [ab (by rw [aE,ak,ak]; omega),ae hc,aG (by omega),dB,hm,bR];obtain ⟨t,h1,h2⟩:=fc (σ:=(List am)×Int) (τ:=List am) (n:=L.length) (fuel:=((L.length:Int) - 0).toNat+1) (s:=(([]:List am),0))
   (fun i q=>q=((List.range i).map (mvl W L F T m up),(i:Int))) (fun t=>t=(List.range L.length).map (mvl W L F T m up))
   (step:=fun s_41=>
 if (decide (s_41.2 < (L.length:Int)))=true then
 (idx L s_41.2).bind fun x_48=>
 ((bT (decide (s_41.2≥(F:Int))) (some (decide (s_41.2 < (T:Int))))).bind fun d_57=>
 if d_57=true then
 (if (!up)=true then
 (some ((w64 (s_41.2 - (m:Int)))):Option (Int))
 else
 (some ((w64 (s_41.2+(m:Int)))):Option (Int))).bind fun z_68=>
 (idx L s_41.2).bind fun x_79=>
 (rep (x_79.Cells.length:Int) (⟨0,([]:List Int)⟩:aa)).bind fun x_83=>
 (bT (decide (z_68≥(F:Int))) (some (decide (z_68 < (T:Int))))).bind fun d_90=>
 if d_90=true then
 (idx L z_68).bind fun x_98=>
 (some (x_98.Cells,x_98.Wrap):Option ((List aa)×Bool))
 else
 (some (x_83,false):Option ((List aa)×Bool))
 else
 (some (x_48.Cells,x_48.Wrap):Option ((List aa)×Bool))).bind fun z_53=>
 ((orE ((w64 (s_41.2+1))==(F:Int)) ((bT (!up) (some ((w64 (s_41.2+1))==(T:Int)))).bind fun d_111=>
 some d_111)).bind fun d_107=>
 if d_107=true then
 (some (false):Option (Bool))
 else
 (some (z_53.2):Option (Bool))).bind fun z_102=>
 (app s_41.1 ([(⟨z_53.1,z_102⟩:am)]:List am)).bind fun x_124=>
 some (.inl (x_124,(w64 (s_41.2+1))))
 else
 some (.inr (s_41.1)))
   (fun i q hi e=>by
    subst e;refine .inl ⟨_,?_,rfl⟩;have e5:w64 ((i:Int)+1)=((i+1:Nat):Int):=by rw [aG (by omega)]; simp
    have hd:decide ((i:Int) < (L.length:Int))=true:=by simp; exact hi
    have hlw:=hL _ (aB hi);simp only [hd,bw,aZ hi,bsm,e5,bf];have hz:(if (decide ((i:Int)≥(F:Int)) && decide ((i:Int) < (T:Int)))=true then
      (if (!up)=true then (some ((w64 ((i:Int) - (m:Int)))):Option (Int)) else (some ((w64 ((i:Int)+(m:Int)))):Option (Int))).bind fun z_68=>
      (rep (L[i].Cells.length:Int) (⟨0,([]:List Int)⟩:aa)).bind fun x_83=>
      if (decide (z_68≥(F:Int)) && decide (z_68 < (T:Int)))=true then
      (idx L z_68).bind fun x_98=>(some (x_98.Cells,x_98.Wrap):Option ((List aa)×Bool))
      else (some (x_83,false):Option ((List aa)×Bool))
      else (some (L[i].Cells,L[i].Wrap):Option ((List aa)×Bool)))=some ((mvb W L F T m up i).Cells,(mvb W L F T m up i).Wrap):=by
     unfold mvb;by_cases c1:F≤i∧i < T
     ·rw [ae (by simp; omega),ae c1]
      cases up with
      | true=>
       rw [ab (by simp),ae rfl];simp only [bsm];rw [nG _ (by omega),aG (by omega),show ((i:Int)+(m:Int))=((i+m:Nat):Int) by simp];simp only [bsm];by_cases c2:i+m < T
       ·rw [ae (by simp; omega),ae c2,aZ (show i+m < L.length by omega),gdl (by omega)];rfl
       ·rw [ab (by simp; omega),ab c2,bR,hlw];rfl
      | false=>
       rw [ae (by simp),ab (by simp)];simp only [bsm];rw [nG _ (by omega),aG (by omega)];simp only [bsm];by_cases c2:F+m≤i
       ·rw [show ((i:Int) - (m:Int))=((i - m:Nat):Int) by omega,ae (by simp; omega),ae c2,aZ (show i - m < L.length by omega),gdl (by omega)];rfl
       ·rw [ab (by simp; omega),ab c2,bR,hlw];rfl
     ·rw [ab (by simp; omega),ab c1,gdl hi]
    rw [hz];simp only [bsm];have hy:(orE (((i+1:Nat):Int)==(F:Int)) (some (!up && (((i+1:Nat):Int)==(T:Int)))))=some (decide (i+1=F∨(up=false∧i+1=T))):=by
     rw [bM]
     congr 1
     rw [ce];simp only [aE,aN,av,dq,ak,Int.ofNat_inj]
    rw [hy];simp only [bsm];have hx:∀y:Bool,(if decide (i+1=F∨(up=false∧i+1=T))=true then (some false:Option Bool) else some y)=some (if i+1=F∨(up=false∧i+1=T) then false else y):=fun y=>by
     by_cases c:i+1=F∨(up=false∧i+1=T)
     ·rw [ae (by simpa using c),ae c]
     ·rw [ab (by simpa using c),ab c]
    rw [hx];simp only [bsm];rw [cR (by simp; omega)];simp only [bsm];have hz3:(⟨(mvb W L F T m up i).Cells,if i+1=F∨(up=false∧i+1=T) then false else (mvb W L F T m up i).Wrap⟩:am)=mvl W L F T m up i:=by
     unfold mvl;split <;> rfl
    rw [hz3,oU,bd];rfl)
   (fun q e=>⟨_,by subst e; simp,rfl⟩)
   (by simp) (by omega)
  subst h2;rw [h1];rfl
 ·rw [ae (by rw [aE,ak,ak]; omega),ab hc]
end Go.Proofs.YtclmdpamofdoiaaGreatDoor
namespace Go.Proofs.YtclmdpamofdoiaaGreatDoor
open Go Go.Lt
variable {s:Sto} {k:Nat} {l p:List aa} {w:Bool}
theorem tA (p:List Int) (hp:p.length≤1000000):gJ p=some (p.map fY):=by
 unfold gJ;rw [nG _ (by omega),nG _ (by omega)];simp only [bsm];obtain ⟨t,h1,h2⟩:=fc (σ:=(List Int)×Int) (τ:=List Int) (n:=p.length) (fuel:=((p.length:Int) - 0).toNat+1) (s:=(List.replicate (0:Int).toNat 0,0))
  (fun i q=>q=((p.take i).map fY,(i:Int))) (fun t=>t=p.map fY)
  (step:=fun s_12=>
 if (decide (s_12.2 < (p.length:Int)))=true then
 (idx p s_12.2).bind fun x_15=>
 ((dE x_15).bind fun x_21=>
 if (!x_21)=true then
 (some (65533):Option (Int))
 else
 (some (x_15):Option (Int))).bind fun z_19=>
 (app s_12.1 ([z_19]:List Int)).bind fun x_29=>
 some (.inl (x_29,(w64 (s_12.2+1))))
 else
 some (.inr (s_12.1)))
  (fun i q hi e=>by
   subst e;refine .inl ⟨_,?_,rfl⟩;have e5:w64 ((i:Int)+1)=((i+1:Nat):Int):=by rw [aG (by omega)]; simp
   have hd:decide ((i:Int) < (p.length:Int))=true:=by simp; exact hi
   simp only [hd,bw,aZ hi,bsm,nU,e5];have hz:(if (!vld p[i])=true then (some (65533):Option Int) else some p[i])=some (fY p[i]):=by
    unfold fY
    cases vld p[i] <;> rfl
   rw [hz];simp only [bsm];rw [cR (by simp; omega)];simp only [bsm];rw [aq hi,bd];rfl)
  (fun q e=>⟨_,by subst e; simp,rfl⟩)
  rfl (by omega)
 subst h2;rw [h1];rfl
theorem AW (wide:Int) (t:List Int) (ht:t.length≤9223372036854775807):oy wide t=some (dO wide (fx t)):=by
 unfold oy;have hz:(if (decide (wide≥2))=true then (app ([(⟨0,([]:List Int)⟩:aa)]:List aa) ([(⟨0,([]:List Int)⟩:aa)]:List aa)).bind fun x_14=>(some (x_14):Option ((List aa))) else
   (some (([(⟨0,([]:List Int)⟩:aa)]:List aa)):Option ((List aa))))=some (if 2≤wide then [bl,bl] else [bl]):=by
  by_cases h:2≤wide
  ·rw [ae (by simpa using h),ae h,cR (by simp)];rfl
  ·rw [ab (by simpa using h),ab h];rfl
 rw [hz];simp only [bsm];unfold dO;by_cases h0:t= []
 ·subst h0;rw [ae (show ((([]:List Int).length:Int)==0)=true from rfl),ae (show fx []= [] from rfl)];by_cases h:2≤wide
  ·rw [ae h,ae (show wide > 1 by omega)]
  ·rw [ab h,ab (show ¬(wide > 1) by omega)]
 ·have hl:0 < t.length:=List.length_pos_iff.2 h0;have hf:fx t≠ []:=by
   have:=AM t;intro h;rw [h,aH] at this;omega
  rw [ab (by rw [aN]; omega),ab hf,dB,show (min (t.length:Int) 16)=((min t.length 16:Nat):Int) by omega,show (0:Int)=((0:Nat):Int) from rfl,rp (cZ _) (Nat.min_le_left _ _)];simp only [bsm];rw [tA _ (by simp; omega)];have ef:((t.drop 0).take (min t.length 16 - 0)).map fY=fx t:=by
   unfold fx;rw [ns,tq]
   congr 1
   rcases Nat.le_total t.length 16 with h | h
   ·rw [cq h,aK (aw _),aK h]
   ·rw [Nat.min_eq_right h]
  rw [ef];by_cases h:2≤wide
  ·rw [ae h,ae (show wide > 1 by omega),show decide (wide≥2)=true by simpa using h];rfl
  ·rw [ab h,ab (show ¬(wide > 1) by omega),show decide (wide≥2)=false by simpa using h];rfl
theorem A3 (wide:Int) (t:List Int):1≤(dO wide t).length∧(dO wide t).length≤2:=by
 unfold dO
 repeat' split
 all_goals simp
theorem zm (wide:Int) (t:List Int):Snd (dO wide (fx t)):=A6 wide (GQ t) (GS t)
theorem FL {t:List Int} (h:∀x∈t,vld x=true) (hl:t.length≤16):fx t=t:=by
 unfold fx;rw [aK hl]
 conv=>rhs; rw [←List.map_id t]
 refine cV fun x hx=>?_;unfold fY;rw [ae (h x hx)];rfl
theorem C4 (h:s.row_Row[k]? = some ⟨l,w⟩) (hs:Snd l) (hl:l.length≤1024) {a:Nat} (wide:Int) {t:List Int} (ht:t.length≤9223372036854775807) (ha:a+(dO wide (fx t)).length≤l.length):
  kY s (some k) a wide t=some (s.sr k ⟨pl l a (dO wide (fx t)),pw l w a (dO wide (fx t)).length⟩,Er.nil):=by
 unfold kY;rw [AW wide t ht];simp only [bsm];rw [nW h hs hl (zm wide t) (A3 wide _).1 ha];rfl
def mat (l:List aa) (i:Int):Option Nat:=if 0≤i∧i < l.length then (if kd l i.toNat=0 then none else if kd l i.toNat=3 then some (i.toNat - 1) else some i.toNat) else none
theorem wX (h:s.row_Row[k]? = some ⟨l,w⟩) {i:Int} (hi:¬(0≤i∧i < l.length)):fO s (some k) i=some (bl,false):=by
 unfold fO;rw [iT h];simp only [bsm,bM];rw [ae (by simp; omega)];rfl
theorem GI (hs:Snd l) (j:Nat):kd l j=0∨kd l j=1∨kd l j=2∨kd l j=3:=by
 rcases aP j l.length with h | h
 ·have:=(hs j h).1;unfold rgt at this;rw [jU h];split at this
  ·omega
  ·simp only [av,aE,ak] at this;omega
 ·exact .inl (mq h)
theorem EN (h:s.row_Row[k]? = some ⟨l,w⟩) (hs:Snd l) (i:Int) (hi: -9223372036854775808≤i∧i≤9223372036854775807):
  oo s (some k) i=some (match mat l i with | some j=>((j:Int),⟨kd l j,(l.getD j bl).Text⟩,true) | none=>(0,⟨0,[]⟩,false)):=by
 unfold oo mat;by_cases hin:0≤i∧i < l.length
 ·obtain ⟨j,rfl⟩:∃j:Nat,i=(j:Int):=⟨i.toNat,by omega⟩;have hj:j < l.length:=by omega
  rw [ae hin,yd h hj hs.sht,bR];have hkd:=jU hj;have hgd:l.getD j bl=l[j]:=by rw [an,af hj]; rfl
  simp only [bsm,gj];by_cases h3:kd l j=3
  ·obtain ⟨p1,p2⟩:=hs.three h3;have hj2:j - 1 < l.length:=by omega
   have hkd2:=jU hj2;rw [ae (by rw [aN,←hkd]; exact h3),aG (by omega),show ((j:Int) - 1)=((j - 1:Nat):Int) by omega,yd h hj2 hs.sht];simp only [bsm,gj];rw [ab (show ¬kd l j=0 by omega),ae h3,ab (by rw [aN,←hkd2]; omega),ae (by rw [aN,←hkd2]; exact p2)];simp only;rw [p2,an,af hj2];rfl
  ·rw [ab (by rw [aN,←hkd]; exact h3)];simp only [bsm,gj];rcases GI hs j with h0 | h1 | h2 | h4
   ·rw [ab (by rw [aN,←hkd]; omega),ab (by rw [aN,←hkd]; omega),ae h0]
   ·rw [ae (by rw [aN,←hkd]; exact h1),ab (by omega),ab h3];simp only;rw [h1,hgd]
   ·rw [ab (by rw [aN,←hkd]; omega),ae (by rw [aN,←hkd]; exact h2),ab (by omega),ab h3];simp only;rw [h2,hgd]
   ·exact absurd h4 h3
 ·rw [ab hin,wX h hin];rfl
theorem FT (n:Int):0≤IntKind.u64.wrap n∧IntKind.u64.wrap n < 18446744073709551616:=by
 simp only [IntKind.wrap,IntKind.signed,IntKind.bits,jk,aj,aU];omega
theorem AA {a j:Nat} (h:a≤j∧j < a+p.length):pc l a p j=p.getD (j - a) bl:=by unfold pc; rw [ae h]
theorem zE {a j:Nat} (h:¬(a≤j∧j < a+p.length)):pc l a p j=if tch l a p.length j=true then bl else l.getD j bl:=by unfold pc; rw [ab h]
end Go.Proofs.YtclmdpamofdoiaaGreatDoor
namespace Go.Proofs.YtclmdpamofdoiaaGreatDoor
open Go Go.Lt
variable {s C:Sto} {g k W:Nat} {ks:List Nat} {l p:List aa} {w:Bool} {q:ag}
def Sto.sp (s:Sto) (k:Nat) (x:bj):Sto:={ s with place_Pen:=s.place_Pen.set k x}
theorem iE {x:bj} (h:k < s.place_Pen.length):s.set_place_Pen k x=some (s.sp k x):=by
 simp only [Sto.set_place_Pen,h,bw];rfl
theorem wP {x:bj} (h:k < s.place_Pen.length):(s.sp k x).place_Pen[k]? = some x:=by simp [Sto.sp,h]
theorem wh (s:Sto) (k:Nat) (x y:bj):(s.sp k x).sp k y=s.sp k y:=by simp [Sto.sp]
theorem Gw.sp (h:Gw s g ks W) (k:Nat) (x:bj):Gw (s.sp k x) g ks W:=⟨h.g,h.r,h.h1,h.h2,h.w1,h.w2⟩
def ownG (C:Sto) (k g:Nat):Prop:=∃x,C.place_Pen[k]? = some x∧x.G=some g
def ownR (C:Sto) (k r:Nat):Prop:=∃g y,ownG C k g∧C.grid_Grid[g]? = some y∧some r∈y.rows
structure Fr (C s:Sto) (k g:Nat) (ks:List Nat):Prop where
 pl:C.place_Pen.length≤s.place_Pen.length
 gl:C.grid_Grid.length≤s.grid_Grid.length
 rl:C.row_Row.length≤s.row_Row.length
 pn:∀j,j < C.place_Pen.length→j≠k→s.place_Pen[j]? = C.place_Pen[j]?
 gr:∀j,j < C.grid_Grid.length→¬ownG C k j→s.grid_Grid[j]? = C.grid_Grid[j]?
 rw:∀j,j < C.row_Row.length→¬ownR C k j→s.row_Row[j]? = C.row_Row[j]?
 ng:ownG C k g∨C.grid_Grid.length≤g
 nr:∀r∈ks,ownR C k r∨C.row_Row.length≤r
theorem Fr.self {p:bj} (h:s.place_Pen[k]? = some p) (hg:p.G=some g) (hk:s.grid_Grid[g]? = some ⟨ks.map some⟩):Fr s s k g ks:=
 ⟨aw _,aw _,aw _,fun _ _ _=>rfl,fun _ _ _=>rfl,fun _ _ _=>rfl,.inl ⟨p,h,hg⟩,fun r hr=> .inl ⟨g,_,⟨p,h,hg⟩,hk,List.mem_map.2 ⟨r,hr,rfl⟩⟩⟩
theorem Fr.new (h1:C.place_Pen.length≤s.place_Pen.length) (h2:C.grid_Grid.length≤s.grid_Grid.length) (h3:C.row_Row.length≤s.row_Row.length) (h4:∀j,j < C.place_Pen.length→s.place_Pen[j]? = C.place_Pen[j]?)
  (h5:∀j,j < C.grid_Grid.length→s.grid_Grid[j]? = C.grid_Grid[j]?) (h6:∀j,j < C.row_Row.length→s.row_Row[j]? = C.row_Row[j]?) (h7:C.grid_Grid.length≤g) (h8:∀r∈ks,C.row_Row.length≤r):Fr C s k g ks:=
 ⟨h1,h2,h3,fun j a _=>h4 j a,fun j a _=>h5 j a,fun j a _=>h6 j a,.inr h7,fun r hr=> .inr (h8 r hr)⟩
theorem Fr.step {s':Sto} {g':Nat} {ks':List Nat} (h:Fr C s k g ks) (f:Rf s s' g ks g' ks') (hp:s'.place_Pen=s.place_Pen):Fr C s' k g' ks':=by
 refine ⟨by rw [hp]; exact h.pl,cx h.gl f.gl,cx h.rl f.rl,fun j a b=>by rw [hp]; exact h.pn j a b,fun j a b=>?_,fun j a b=>?_,?_,fun r hr=>?_⟩
 ·have:=h.gl;rw [f.gr j (by omega) ?_,h.gr j a b];rintro rfl;rcases h.ng with q | q
  ·exact b q
  ·omega
 ·have:=h.rl;rw [f.rw j (by omega) ?_,h.rw j a b];intro hj;rcases h.nr j hj with q | q
  ·exact b q
  ·omega
 ·rcases f.ng with rfl | q
  ·exact h.ng
  ·exact .inr (cx h.gl q)
 ·rcases f.nr r hr with q | q
  ·exact h.nr r q
  ·exact .inr (cx h.rl q)
theorem Fr.sp (h:Fr C s k g ks) (x:bj):Fr C (s.sp k x) k g ks:=
 ⟨by simp only [Sto.sp,bY]; exact h.pl,h.gl,h.rl,fun j a b=>by simp only [Sto.sp]; rw [aR (rd b)]; exact h.pn j a b,h.gr,h.rw,h.ng,h.nr⟩
theorem Fr.sr (h:Fr C s k g ks) {i:Nat} (hi:i∈ks) (r:bh):Fr C (s.sr i r) k g ks:=by
 refine h.step (s':=s.sr i r) ⟨aw _,by simp [Sto.sr],fun _ _ _=>rfl,fun j _ b=>?_,.inl rfl,fun r hr=> .inl hr⟩ rfl;exact xO (fun e=>b (e▸ hi))
theorem Fr.addp (h:Fr C s k g ks) (x:bj):Fr C (s.add_place_Pen x) k g ks:=
 ⟨by have:=h.pl; simp only [Sto.add_place_Pen,ai]; omega,h.gl,h.rl,fun j a b=>by have:=h.pl; simp only [Sto.add_place_Pen]; rw [ax (by omega)]; exact h.pn j a b,h.gr,h.rw,h.ng,h.nr⟩
structure Rgp (s s':Sto):Prop where
 r:s'.row_Row=s.row_Row
 g:s'.grid_Grid=s.grid_Grid
 p:s'.place_Pen=s.place_Pen
theorem Rgp.self (s:Sto):Rgp s s:=⟨rfl,rfl,rfl⟩
theorem Rgp.symm {s s':Sto} (h:Rgp s s'):Rgp s' s:=⟨h.r.symm,h.g.symm,h.p.symm⟩
theorem Rgp.ownG {s s':Sto} (h:Rgp s s') (k g:Nat):ownG s' k g↔ownG s k g:=by unfold Go.Proofs.YtclmdpamofdoiaaGreatDoor.ownG; rw [h.p]
theorem Rgp.ownR {s s':Sto} (h:Rgp s s') (k r:Nat):ownR s' k r↔ownR s k r:=by unfold Go.Proofs.YtclmdpamofdoiaaGreatDoor.ownR; rw [h.g]; simp only [h.ownG]
theorem Fr.rgp {C' s':Sto} (h:Fr C s k g ks) (hC:Rgp C C') (hs:Rgp s s'):Fr C' s' k g ks:=by
 refine ⟨by rw [hC.p,hs.p]; exact h.pl,by rw [hC.g,hs.g]; exact h.gl,by rw [hC.r,hs.r]; exact h.rl,?_,?_,?_,?_,?_⟩
 ·rw [hC.p,hs.p]; exact h.pn
 ·rw [hC.g,hs.g]; simp only [hC.ownG]; exact h.gr
 ·rw [hC.r,hs.r]; simp only [hC.ownR]; exact h.rw
 ·rw [hC.g,hC.ownG]; exact h.ng
 ·rw [hC.r]; simp only [hC.ownR]; exact h.nr
theorem Fr.trans {B:Sto} {g0:Nat} {ks0:List Nat} (h:Fr B C k g0 ks0) (hg:∀j,ownG C k j→j=g0) (hr:∀j,ownR C k j→j∈ks0) (h':Fr C s k g ks):Fr B s k g ks:=by
 have hl:=h.gl;have hl2:=h.rl;have hl3:=h.pl;refine ⟨cx h.pl h'.pl,cx h.gl h'.gl,cx h.rl h'.rl,fun j a b=>?_,fun j a b=>?_,fun j a b=>?_,?_,fun r hr'=>?_⟩
 ·rw [h'.pn j (by omega) b,h.pn j a b]
 ·rw [h'.gr j (by omega) ?_,h.gr j a b];intro q;obtain rfl:=hg j q;rcases h.ng with q | q
  ·exact b q
  ·omega
 ·rw [h'.rw j (by omega) ?_,h.rw j a b];intro q;rcases h.nr j (hr j q) with q | q
  ·exact b q
  ·omega
 ·rcases h'.ng with q | q
  ·obtain rfl:=hg g q; exact h.ng
  ·exact .inr (by omega)
 ·rcases h'.nr r hr' with q | q
  ·exact h.nr r (hr r q)
  ·exact .inr (by omega)
structure Pv (C s:Sto) (k g_ W:Nat) (q:ag) (ks:List Nat):Prop where
 p:s.place_Pen[k]? = some ⟨some g_,q.At,q.Auto⟩
 g:Gw s g_ ks W
 nd:ks.Nodup
 l:ks.map (ln s)=q.L
 o:s.oth=C.oth
 f:Fr C s k g_ ks
theorem Pv.self (h:Pv C s k g W q ks):Pv s s k g W q ks:=⟨h.p,h.g,h.nd,h.l,rfl,Fr.self h.p rfl h.g.g⟩
theorem Pv.oG (h:Pv C s k g W q ks) (j:Nat) (hj:ownG s k j):j=g:=by
 obtain ⟨x,h1,h2⟩:=hj;rw [h.p] at h1;cases h1;exact (bb h2).symm
theorem Pv.oR (h:Pv C s k g W q ks) (j:Nat) (hj:ownR s k j):j∈ks:=by
 obtain ⟨g',y,h1,h2,h3⟩:=hj;obtain rfl:=h.oG g' h1;rw [h.g.g] at h2;cases h2;obtain ⟨r,h4,h5⟩:=List.mem_map.1 h3;cases h5;exact h4
theorem Pv.len (h:Pv C s k g W q ks):q.L.length=ks.length:=by rw [←h.l,bZ]
theorem Pv.ok (h:Pv C s k g W q ks):∀x∈q.L,Okl W x:=by rw [←h.l]; exact vM h.g
theorem Pv.at (h:Pv C s k g W q ks) {i:Nat} (hi:i < ks.length):q.L[i]'(by rw [h.len]; exact hi)=ln s ks[i]:=by
 have:=h.l;have e:q.L[i]? = (ks.map (ln s))[i]? :=by rw [this]
 rw [af (by rw [h.len]; exact hi),bK,af hi] at e;exact bb e
theorem Pv.set (h:Pv C s k g W q ks) (c:ah) (a:Bool):Pv C (s.sp k ⟨some g,c,a⟩) k g W ⟨q.L,c,a⟩ ks:=
 ⟨wP (cz h.p),h.g.sp _ _,h.nd,h.l,h.o,h.f.sp _⟩
theorem Pv.row (h:Pv C s k g W q ks) {i:Nat} (hi:i < ks.length) {r:bh} (hr:Snd r.cells) (hl:r.cells.length=W):Pv C (s.sr ks[i] r) k g W ⟨q.L.set i ⟨r.cells,r.wrap⟩,q.At,q.Auto⟩ ks:=by
 have hlt:=(h.g.at hi).lt;refine ⟨h.p,⟨h.g.g,fun j hj=>?_,h.g.h1,h.g.h2,h.g.w1,h.g.w2⟩,h.nd,?_,h.o,h.f.sr (aB hi) _⟩
 ·by_cases e:ks[i]=j
  ·subst e; exact ⟨r,rn hlt,hr,hl⟩
  ·obtain ⟨r0,h1,h2⟩:=h.g.r j hj;exact ⟨r0,(xO e).trans h1,h2⟩
 ·refine bQ fun j=>?_;rw [bK,lq];rcases aP j ks.length with hj | hj
  ·rw [af hj,dH];by_cases e:i=j
   ·subst e;rw [ae rfl,ae (by rw [h.len]; exact hi),nb (rn hlt)]
   ·have hne:ks[i]≠ks[j]:=by
     rcases IW e with h1 | h1
     ·exact List.pairwise_iff_getElem.1 h.nd i j _ _ h1
     ·exact (List.pairwise_iff_getElem.1 h.nd j i _ _ h1).symm
    rw [ab e,af (by rw [h.len]; exact hj),h.at hj];unfold ln;rw [xO hne]
  ·rw [aQ hj,ab (by omega),aQ (by rw [h.len]; exact hj)];rfl
def hc (c:ah) (W h:Nat):ah:=⟨max 0 (min c.Row ((h:Int) - 1)),max 0 (min c.Col ((W:Int) - 1)),c.Pending && (c.Col==(W:Int) - 1)⟩
theorem sq {n:Nat} (h1:1≤n) (h2:n≤1024):gF n=some (n:Int):=by
 unfold gF;rw [gu,dB]
 congr 1
 omega
theorem uJ {n:Nat} (h1:1≤n) (h2:n≤1024):cm n=some (n:Int):=by
 unfold cm;rw [ab (by simp; omega),ab (by simp; omega)]
theorem oA (c:ah) {W h:Nat} (w1:1≤W) (w2:W≤1024) (h1:1≤h) (h2:h≤1024):fL c W h=some (hc c W h):=by
 unfold fL kN;rw [sq w1 w2,sq h1 h2];simp only [bsm,bf];rw [aG (by omega),aG (by omega),gu,dB,gu,dB];rfl
theorem uI (n:Int) {m:Nat} (h1:1≤m) (h2:m≤1024):gx n m=some (max 0 (min n ((m:Int) - 1))):=by
 unfold gx;rw [aG (by omega)];by_cases a:n < 0
 ·rw [ae (by simpa using a)]
  congr 1
  omega
 ·rw [ab (by simpa using a)];by_cases b:(m:Int)≤n
  ·rw [ae (by simpa using b)]
   congr 1
   omega
  ·rw [ab (by simpa using b)]
   congr 1
   omega
theorem uK (c:ah) {W h:Nat} (w1:1≤W) (w2:W≤1024) (h1:1≤h) (h2:h≤1024):iH c W h=some (hc c W h):=by
 unfold iH;rw [uJ h1 h2,uJ w1 w2];simp only [bsm,bf];rw [uI _ h1 h2,uI _ w1 w2,aG (by omega)];rfl
structure Hd (c:ah) (W h:Nat):Prop where
 rr:0≤c.Row∧c.Row < (h:Int)
 cc:0≤c.Col∧c.Col < (W:Int)
 pp:c.Pending=true→c.Col=(W:Int) - 1
theorem se (c:ah) {W h:Nat} (w1:1≤W) (h1:1≤h):Hd (hc c W h) W h:=by
 refine ⟨by simp only [hc]; omega,by simp only [hc]; omega,fun hp=>?_⟩;simp only [hc,av,aN] at hp⊢;omega
theorem Dj {c:ah} {W h:Nat} (hd:Hd c W h):hc c W h=c:=by
 obtain ⟨h1,h2,h3⟩:=hd;obtain ⟨a,b,d⟩:=c;simp only at h1 h2 h3;unfold hc;simp only [ah.mk.injEq];refine ⟨by omega,by omega,?_⟩
 cases d with
 | false=>rfl
 | true=>rw [h3 rfl]; simp
theorem wu (h:Pv C s k g W q ks):ge s (some k)=some (s.sp k ⟨some g,hc q.At W ks.length,q.Auto⟩,true):=by
 unfold ge;simp only [bI,ft,bsm,h.p,aj,aU];rw [iV h.g,eA h.g];simp only [bsm];rw [oA _ h.g.w1 h.g.w2 h.g.h1 h.g.h2];simp only [bsm];rw [iE (cz h.p)];rfl
theorem rX (h:Pv C s k g W q ks):cU q=some (W:Int):=by
 have hl:=h.len;have h1:=h.g.h1;have h0:idx q.L (0:Int)=some (q.L[0]'(by omega)):=aZ (i:=0) (by omega);unfold cU;rw [h0];simp only [bsm];rw [(h.ok _ (aB _)).2]
theorem nZ (h:Pv C s k g W q ks):bW q=some ⟨q.L,hc q.At W ks.length,q.Auto⟩:=by
 unfold bW;rw [rX h];simp only [bsm];rw [h.len,uK _ h.g.w1 h.g.w2 h.g.h1 h.g.h2];rfl
theorem uN (h:Pv C s k g W q ks):∃s' q' ks',eZ s (some k)=some s'∧dz q=some q'∧Pv C s' k g W q' ks'∧ks'.length=ks.length∧
  Hd q'.At W ks.length∧q'.At.Pending=false∧q'.At.Col=(hc q.At W ks.length).Col∧q'.Auto=q.Auto:=by
 have h1:=h.set (hc q.At W ks.length) q.Auto;have hd:=se q.At h.g.w1 h.g.h1;have hh:=h.g.h2;unfold eZ dz;rw [wu h,nZ h];generalize hc q.At W ks.length=c at *;simp only [bsm,cW,aj,aU];rw [h1.p];simp only [bsm];rw [eA h1.g];simp only [bsm];unfold mB;rw [sq h.g.h1 h.g.h2];simp only [bsm];rw [aG (by omega),aG (by have:=hd.rr; omega),h.len];have hr:=hd.rr;by_cases he:(ks.length:Int) - 1≤c.Row
 ·rw [ae (by simpa using he),ab (by simp; omega)];have h2:=h1.set ⟨c.Row,c.Col,false⟩ q.Auto;rw [wh] at h2;simp only [bsm];rw [iE (by rw [show (s.sp k ⟨some g,c,q.Auto⟩).place_Pen.length=s.place_Pen.length by simp [Sto.sp]]; exact cz h.p),wh];simp only [bsm,bw];rw [eA h2.g];simp only [bsm];obtain ⟨s',ks',u1,⟨u2,u3,u4,u5⟩,u6,u7⟩:=zh h2.g h2.nd 0 (ks.length:Int) 1;have hm:=pX (W:=W) (L:=q.L) (by rw [h.len]; exact hh) h.g.w2 (fun x hx=>(h.ok x hx).2) 0 (ks.length:Int) 1 true;rw [h.len] at hm;rw [u1,hm];refine ⟨s',_,ks',rfl,rfl,⟨?_,u2,u3,?_,(qB u6).trans h2.o,h2.f.step u7 (kr u6)⟩,u4,⟨hr,hd.cc,fun e=>by cases e⟩,rfl,rfl,rfl⟩
  ·rw [kr u6]; exact h2.p
  ·rw [u5,h2.l]
 ·rw [ab (by simpa using he),ae (by simp; omega)];have h2:=h1.set ⟨c.Row+1,c.Col,false⟩ q.Auto;rw [wh] at h2;simp only [bsm];rw [iE (by rw [show (s.sp k ⟨some g,c,q.Auto⟩).place_Pen.length=s.place_Pen.length by simp [Sto.sp]]; exact cz h.p),wh];simp only [bsm,aj,aU];exact ⟨_,_,ks,rfl,rfl,h2,rfl,⟨by simp only; omega,hd.cc,fun e=>by cases e⟩,rfl,rfl,rfl⟩
theorem rW (h:Pv C s k g W q ks) {i:Nat} (hi:i < ks.length) (x:am):bV q i x=some ⟨q.L.set i x,q.At,q.Auto⟩:=by
 have hl:=h.len;have hh:=h.g.h2;unfold bV;rw [cR (by simp; omega),bm];simp only [bsm];rw [aZ (show i < q.L.length by omega),jS (show i < q.L.length by omega)];rfl
theorem AL (h:Pv C s k g W q ks) (hd:0≤q.At.Row∧q.At.Row < (ks.length:Int)):∃s' q' ks',fw s (some k)=some s'∧ci q=some q'∧Pv C s' k g W q' ks'∧ks'.length=ks.length∧
  Hd q'.At W ks.length∧q'.At.Pending=false∧q'.At.Col=0∧q'.Auto=q.Auto:=by
 obtain ⟨i,hi⟩:∃i:Nat,q.At.Row=(i:Int):=⟨q.At.Row.toNat,by omega⟩;have hik:i < ks.length:=by omega
 have hl:=h.len;obtain ⟨r,r1,r2,r3⟩:=h.g.at hik;have hrow:=h.row hik (r:=⟨r.cells,true⟩) r2 r3;have h2:=hrow.set ⟨q.At.Row,0,false⟩ q.Auto;have w1:=h.g.w1;unfold fw ci;simp only [bsm,h.p,hi];rw [eM h.g hik];simp only [bsm];rw [uG (l:=r.cells) (w:=r.wrap) r1];simp only [bsm];rw [hrow.p];simp only [bsm,dk];rw [iE (cz hrow.p)];simp only [bsm];rw [aZ (show i < q.L.length by omega),h.at hik,nb r1];simp only [bsm];rw [rW h hik];simp only [bsm,hi];obtain ⟨s',q',ks',n1,n2,n3,n4,n5,n6,n7,n8⟩:=uN h2;rw [hi] at n1 n2;rw [n1,n2];refine ⟨s',q',ks',rfl,rfl,n3,n4,n5,n6,?_,n8⟩;rw [n7];simp only [hc];omega
theorem yi (h:Pv C s k g W q ks) {i a:Nat} (hi:i < ks.length) (hp:Snd p) (hn:1≤p.length) (ha:a+p.length≤W):∃s' q',dK s (some ks[i]) a p=some (s',Er.nil)∧bB q i a p=some q'∧
  Pv C s' k g W q' ks∧q'.At=q.At∧q'.Auto=q.Auto∧q'.L=q.L.set i ⟨pl (ln s ks[i]).Cells a p,pw (ln s ks[i]).Cells (ln s ks[i]).Wrap a p.length⟩:=by
 obtain ⟨r,r1,r2,r3⟩:=h.g.at hi;have w2:=h.g.w2;have hl:=h.len;have hrow:=h.row hi (r:=⟨pl r.cells a p,pw r.cells r.wrap a p.length⟩) (r2.paint hp (by rw [r3]; exact ha)) (by rw [iU]; exact r3);refine ⟨_,_,nW (l:=r.cells) (w:=r.wrap) r1 r2 (by omega) hp hn (by omega),?_,hrow,rfl,rfl,by rw [nb r1]⟩;unfold bB;rw [aZ (show i < q.L.length by omega),h.at hi,nb r1];simp only [bsm];rw [nY _ _ _ _ (by omega) (by omega) (by omega)];simp only [bsm];rw [rW h hi];rfl
end Go.Proofs.YtclmdpamofdoiaaGreatDoor
namespace Go.Proofs.YtclmdpamofdoiaaGreatDoor
open Go Go.Lt
def ca (c:ah) (d W:Nat) (au:Bool):ah:=if c.Col < (W:Int) - d then ⟨c.Row,c.Col+d,false⟩ else ⟨c.Row,(W:Int) - 1,au⟩
theorem BT (c:ah) {d W:Nat} (hd:d=1∨d=2) (w1:1≤W) (w2:W≤1024) (hc:0≤c.Col∧c.Col < (W:Int)) (au:Bool):kf c d W au=some (ca c d W au):=by
 unfold kf ca;rw [sq w1 w2];simp only [bsm,gu,dB];rw [show max (1:Int) (min (d:Int) 2)=(d:Int) by omega,aG (by omega),aG (by omega),aG (by omega)];by_cases h:c.Col < (W:Int) - d
 ·rw [ae (by simpa using h),ae h]
 ·rw [ab (by simpa using h),ab h]
theorem sQ (c:ah) {d W:Nat} (hd:d=1∨d=2) (w1:1≤W) (w2:W≤1024) (hc:0≤c.Col∧c.Col < (W:Int)) (au:Bool):jM c d W au=some (ca c d W au):=by
 unfold jM ca;have hz:(if decide ((d:Int) > 1)=true then (some 2:Option Int) else some 1)=some (d:Int):=by
  rcases hd with rfl | rfl <;> rfl
 rw [hz];simp only [bsm];rw [uJ w1 w2];simp only [bsm];rw [aG (by omega),aG (by omega),aG (by omega)];by_cases h:c.Col < (W:Int) - d
 ·rw [ab (by simp; omega),ae h]
 ·rw [ae (by simp; omega),ab h]
variable {s C:Sto} {g k W:Nat} {ks:List Nat} {q:ag}
theorem Ij {c:ah} {d h:Nat} (hd:d=1∨d=2) (w1:1≤W) (hc:0≤c.Col∧c.Col < (W:Int)) (hr:0≤c.Row∧c.Row < (h:Int)) (au:Bool):Hd (ca c d W au) W h:=by
 unfold ca;by_cases h:c.Col < (W:Int) - d
 ·rw [ae h];exact ⟨hr,by simp only; omega,fun e=>by cases e⟩
 ·rw [ab h];exact ⟨hr,by simp only; omega,fun _=>rfl⟩
theorem nv (d:Nat) (hd:d=1∨d=2) (t:List Int):(dO (d:Int) t).length=d:=by
 unfold dO;rcases hd with rfl | rfl <;> (repeat' split) <;> first | rfl | (exfalso; omega)
def fld (q:ag):(List am)×Int×Int×Bool×Bool:=(q.L,q.At.Row,q.At.Col,q.At.Pending,q.Auto)
def rp1 (q:ag):Option ((List am)×Int×Int×Bool×Bool):=
 if q.At.Pending=true then
 (ci q).bind fun x_34=>
 (some (x_34.L,x_34.At.Row,x_34.At.Col,x_34.At.Pending,x_34.Auto):Option ((List am)×Int×Int×Bool×Bool))
 else
 (some (q.L,q.At.Row,q.At.Col,q.At.Pending,q.Auto):Option ((List am)×Int×Int×Bool×Bool))
def rp2 (d W:Int) (z_28:(List am)×Int×Int×Bool×Bool):Option ((List am)×Int×Int×Bool×Bool):=
 (bT (d==2) (some (z_28.2.2.1==(w64 (W - 1))))).bind fun d_40=>
 if d_40=true then
 if z_28.2.2.2.2=true then
 (rep 1 (⟨0,([]:List Int)⟩:aa)).bind fun x_58=>
 (bB (⟨z_28.1,(⟨z_28.2.1,z_28.2.2.1,z_28.2.2.2.1⟩:ah),z_28.2.2.2.2⟩:ag) z_28.2.1 (w64 (W - 1)) x_58).bind fun x_59=>
 (ci x_59).bind fun x_60=>
 (some (x_60.L,x_60.At.Row,x_60.At.Col,x_60.At.Pending,x_60.Auto):Option ((List am)×Int×Int×Bool×Bool))
 else
 (some (z_28.1,z_28.2.1,(w64 (W - 2)),z_28.2.2.2.1,z_28.2.2.2.2):Option ((List am)×Int×Int×Bool×Bool))
 else
 (some (z_28.1,z_28.2.1,z_28.2.2.1,z_28.2.2.2.1,z_28.2.2.2.2):Option ((List am)×Int×Int×Bool×Bool))
def cp1 (s:Sto) (p0:Option Nat):Option Sto:=
 (p0).bind fun k_3=>
 (s.place_Pen[k_3]?).bind fun o_6=>
 if o_6.At.Pending=true then
 (fw s p0).bind fun x_9=>
 (some (x_9):Option (Sto))
 else
 (some (s):Option (Sto))
theorem FE (h:Pv C s k g W q ks) (hd:Hd q.At W ks.length):∃s' q' ks',cp1 s (some k)=some s'∧rp1 q=some (fld q')∧Pv C s' k g W q' ks'∧ks'.length=ks.length∧Hd q'.At W ks.length∧q'.Auto=q.Auto∧q'.At.Pending=false:=by
 unfold cp1 rp1;simp only [bsm,h.p]
 cases hp:q.At.Pending with
 | false=>
  simp only [aj,aU];exact ⟨s,q,ks,rfl,by unfold fld; rw [hp],h,rfl,hd,rfl,hp⟩
 | true=>
  simp only [bw];obtain ⟨s',q',ks',a1,a2,a3,a4,a5,a6,a7,a8⟩:=AL h hd.rr;rw [a1,a2];exact ⟨s',q',ks',rfl,rfl,a3,a4,a5,a8,a6⟩
theorem Au (h:Pv C s k g W q ks) (hd:Hd q.At W ks.length) {d:Nat} (hdd:d=1∨d=2) (hdw:d≤W):
  ∃s' q' ks' z,jd s (some k) d=some s'∧rp1 q=some z∧rp2 d W z=some (fld q')∧Pv C s' k g W q' ks'∧ks'.length=ks.length∧(0≤q'.At.Row∧q'.At.Row < (ks.length:Int))∧(0≤q'.At.Col∧q'.At.Col+d≤(W:Int))∧q'.Auto=q.Auto:=by
 obtain ⟨s1,q1,ks1,a1,a2,v1,n1,hd1,au1,pe1⟩:=FE h hd;have w1:=h.g.w1;have w2:=h.g.w2;have hcc:=hd1.cc;unfold jd
 change ∃s' q' ks' z,((cp1 s (some k)).bind _)=some s'∧_
 rw [a1];simp only [bsm,v1.p];rw [iV v1.g];simp only [bsm,bM];have e1:w64 ((W:Int) - 1)=((W - 1:Nat):Int):=by rw [aG (by omega)]; omega
 have e2:w64 ((W:Int) - 2)=(W:Int) - 2:=aG (by omega);rw [e1];unfold rp2;by_cases hA:d=1∨q1.At.Col < (W:Int) - 1
 ·rw [ae (by simp only [aE,aN,ak]; omega)];refine ⟨s1,q1,ks1,_,rfl,a2,?_,v1,n1,hd1.rr,by omega,au1⟩;simp only [fld,bf,bsm,e1];rw [ab (by simp only [av,aN]; omega)]
 ·rw [ab (by simp only [aE,aN,ak]; omega)];have hd2:d=2:=by omega
  have hcol:q1.At.Col=(W:Int) - 1:=by omega
  obtain ⟨i,hi⟩:∃i:Nat,q1.At.Row=(i:Int):=⟨q1.At.Row.toNat,by have:=hd1.rr; omega⟩;have hik:i < ks1.length:=by have:=hd1.rr; omega
  cases hau:q1.Auto with
  | true=>
   simp only [bw];rw [hi,eM v1.g hik];simp only [bsm];rw [show em 1=some [bl] from tl 1];simp only [bsm];obtain ⟨s2,q2,b1,b2,v2,at2,au2,_⟩:=yi (p:=[bl]) (a:=W - 1) v1 hik (sL 1) (by decide) (by simp; omega);rw [b1];simp only [bsm];obtain ⟨s3,q3,ks3,c1,c2,v3,n3,hd3,pe3,co3,au3⟩:=AL v2 (by rw [at2,n1]; exact hd1.rr);rw [c1];refine ⟨s3,q3,ks3,_,rfl,a2,?_,v3,n3.trans n1,by rw [←n1]; exact hd3.rr,by rw [co3]; omega,by rw [au3,au2,au1]⟩;simp only [fld,bf,bsm,e1];rw [ae (by simp only [av,aN]; omega)];simp only [hau,bw];rw [nG _ (by decide),hi];simp only [bsm];rw [show (List.replicate (1:Int).toNat (⟨0,[]⟩:aa))= [bl] from rfl];have b2':bB ⟨q1.L,⟨(i:Int),q1.At.Col,q1.At.Pending⟩,true⟩ i ((W - 1:Nat):Int) [bl]=some q2:=by rw [←hi,←hau]; rw [←hi] at b2; exact b2
   rw [b2'];simp only [bsm];rw [c2];rfl
  | false=>
   simp only [aj,aU];rw [iE (cz v1.p)];simp only [bsm];have e3:w64 (q1.At.Col - 1)=(W:Int) - 2:=by rw [aG (by omega)]; omega
   have v2:=v1.set ⟨q1.At.Row,(W:Int) - 2,q1.At.Pending⟩ q1.Auto;rw [hau] at v2;rw [e3];refine ⟨_,_,ks1,_,rfl,a2,?_,v2,n1,hd1.rr,by simp only; omega,by simp only; rw [←hau]; exact au1⟩;simp only [fld,bf,bsm,e1,e2];rw [ae (by simp only [av,aN]; omega)];simp only [hau,aj,aU]
def cl2 (p1:Int) (t:List Int) (W:Nat):Nat×List Int:=if max 1 (min p1 2) > (W:Int) then (1,[65533]) else ((max 1 (min p1 2)).toNat,t)
theorem Dy (p1:Int) (t:List Int) (w1:1≤W):((cl2 p1 t W).1=1∨(cl2 p1 t W).1=2)∧(cl2 p1 t W).1≤W:=by
 unfold cl2;split
 ·exact ⟨.inl rfl,w1⟩
 ·simp only;omega
theorem vi (p1:Int) (t:List Int):(if (decide ((aV 1 (aL p1 2)) > (W:Int)))=true then (some (1,([65533]:List Int)):Option (Int×(List Int))) else (some ((aV 1 (aL p1 2)),t):Option (Int×(List Int))))=some (((cl2 p1 t W).1:Int),(cl2 p1 t W).2):=by
 rw [dB,gu];unfold cl2;by_cases h:max 1 (min p1 2) > (W:Int)
 ·rw [ae (by simpa using h),ae h];rfl
 ·rw [ab (by simpa using h),ab h];simp only;rw [ph (by omega)]
theorem zB (h:Pv C s k g W q ks) (p1:Int) (t:List Int) (ht:t.length≤1000000):∃(s':Sto) (q':ag) (ks':List Nat) (i a:Nat),i < ks.length∧iC s (some k) p1 t=some (s',⟨(i:Int),(a:Int),false⟩)∧aD q p1 t=some (q',⟨(i:Int),(a:Int),false⟩)∧
  Pv C s' k g W q' ks'∧ks'.length=ks.length∧Hd q'.At W ks.length∧q'.Auto=q.Auto∧a+(cl2 p1 t W).1≤W∧
  ∃l0 w0,l0.length=W∧q'.L[i]? = some ⟨pl l0 a (dO (cl2 p1 t W).1 (fx (cl2 p1 t W).2)),w0⟩:=by
 have hl:(cl2 p1 t W).2.length≤1000000:=by unfold cl2; split <;> simp; exact ht
 obtain ⟨hdd,hdw⟩:=Dy p1 t h.g.w1;have hce:=vi (W:=W) p1 t;have w1:=h.g.w1;have w2:=h.g.w2;have h1:=h.set (hc q.At W ks.length) q.Auto;have hd:=se q.At h.g.w1 h.g.h1;unfold iC aD;rw [wu h,nZ h];generalize hc q.At W ks.length=c at *;simp only [bsm,cW,aj,aU,h1.p];rw [iV h1.g,rX h1];simp only [bsm];rw [hce];generalize (cl2 p1 t W).2=t2 at *;generalize (cl2 p1 t W).1=d at *;simp only [bsm];obtain ⟨s2,q2,ks2,z,a1,a2,a3,v2,n2,hr,hcl,au⟩:=Au h1 hd hdd hdw;rw [a1];obtain ⟨i,hi⟩:∃i:Nat,q2.At.Row=(i:Int):=⟨q2.At.Row.toNat,by omega⟩;obtain ⟨a,ha⟩:∃a:Nat,q2.At.Col=(a:Int):=⟨q2.At.Col.toNat,by omega⟩;have hik:i < ks2.length:=by omega
 obtain ⟨L2,⟨row2,col2,pd2⟩,ua2⟩:=q2;simp only at hi ha hr hcl au;subst hi ha;simp only [bsm,v2.p];rw [eM v2.g hik];simp only [bsm];unfold kY;rw [AW _ _ (by omega)];simp only [bsm];have hsl:=nv d hdd (fx t2);obtain ⟨s3,q3,b1,b2,v3,at3,au3,l3⟩:=yi (p:=dO d (fx t2)) (a:=a) v2 hik (zm _ _) (by rw [hsl]; omega) (by rw [hsl]; omega);rw [b1];simp only [bsm,v3.p];rw [iV v3.g];simp only [bsm];have hc2:0≤(⟨(i:Int),(a:Int),false⟩:ah).Col∧(⟨(i:Int),(a:Int),false⟩:ah).Col < (W:Int):=by simp only; omega
 rw [BT _ hdd w1 w2 hc2];simp only [bsm];rw [iE (cz v3.p)];simp only [bsm];have v4:=v3.set (ca ⟨(i:Int),(a:Int),false⟩ d W q3.Auto) q3.Auto
 change ∃s' q' ks' i_1 a_1,_∧_∧((rp1 ⟨q.L,c,q.Auto⟩).bind fun z_28=>(rp2 d W z_28).bind _)=_∧_
 rw [a2];simp only [bsm];rw [a3];simp only [fld,bsm];rw [zw _ _ (by omega)];simp only [bsm];rw [b2];simp only [bsm];rw [sQ _ hdd w1 w2 hc2];simp only [bsm];refine ⟨_,_,ks2,i,a,by omega,rfl,rfl,v4,n2,Ij hdd w1 hc2 (by simp only; omega) _,by simp only; rw [au3,au],by omega,(ln s2 ks2[i]).Cells,pw (ln s2 ks2[i]).Cells (ln s2 ks2[i]).Wrap a (dO d (fx t2)).length,?_,?_⟩
 ·have:=v2.ok _ (aB (show i < L2.length by have:=v2.len; simp only at this; omega));rw [v2.at hik] at this;exact this.2
 ·simp only;rw [l3,bi (by have:=v2.len; simp only at this⊢; omega)]
end Go.Proofs.YtclmdpamofdoiaaGreatDoor
namespace Go.Proofs.YtclmdpamofdoiaaGreatDoor
open Go Go.Lt
variable {s:Sto} {k g W:Nat} {l p p':List aa} {w:Bool} {q:ag} {ks:List Nat}
theorem oJ (l:List aa) (a n j:Nat):tch l a n j=true↔(a≤j∧j < a+n)∨(kd l j=2∧a≤j+1∧j+1 < a+n)∨(kd l j=3∧a+1≤j∧j < a+n+1):=by
 simp only [tch,aE,av,ak];omega
theorem xa {c j:Nat} (h:¬(c≤j∧j < c+p.length)):pc l c p j=if (kd l j=2∧j+1=c∧0 < p.length)∨(kd l j=3∧j=c+p.length∧0 < p.length) then bl else l.getD j bl:=by
 rw [zE h];by_cases ht:tch l c p.length j=true
 ·rw [ae ht,ae];rw [oJ] at ht;omega
 ·rw [ab ht,ab];rw [oJ] at ht;omega
theorem Dc {c j:Nat} (hj:j < l.length) (h:¬(c≤j∧j < c+p.length)):kd (pl l c p) j=if (kd l j=2∧j+1=c∧0 < p.length)∨(kd l j=3∧j=c+p.length∧0 < p.length) then 0 else kd l j:=by
 rw [Db hj,xa h];split
 ·rfl
 ·exact mY l j
theorem wZ {a c:Nat} (h1:a≤c) (h2:c+p.length≤a+p'.length) (h3:a+p'.length≤l.length):pl (pl l c p) a p'=pl l a p':=by
 apply bQ;intro j;rcases aP j l.length with hj | hj
 ·rw [ru (by rw [iU]; exact hj),ru hj]
  congr 1
  by_cases hi:a≤j∧j < a+p'.length
  ·rw [AA hi,AA hi]
  ·have hc:¬(c≤j∧j < c+p.length):=by omega
   have hg:(pl l c p).getD j bl=pc l c p j:=by rw [an,ru hj]; rfl
   rw [xa hi,xa hi,Dc hj hc,hg,xa hc];by_cases hA:(kd l j=2∧j+1=c∧0 < p.length)∨(kd l j=3∧j=c+p.length∧0 < p.length)
   ·rw [ae hA,ae hA,ab (by omega),ae (by omega)]
   ·rw [ab hA,ab hA]
 ·rw [aQ (by rw [iU,iU]; exact hj),aQ (by rw [iU]; exact hj)]
theorem Aw {a c:Nat} (h1:a≤c) (h2:c+p.length≤a+p'.length) (h3:a+p'.length≤l.length):pw (pl l c p) (pw l w c p.length) a p'.length=pw l w a p'.length:=by
 unfold pw;rw [iU];by_cases hl:0 < l.length
 ·have e:(tch l c p.length (l.length - 1) || tch (pl l c p) a p'.length (l.length - 1))=tch l a p'.length (l.length - 1):=by
   rw [ce,aE,oJ,oJ,oJ];by_cases hc:c≤l.length - 1∧l.length - 1 < c+p.length
   ·omega
   ·rw [Dc (by omega) hc];split <;> omega
  rw [show decide (0 < l.length)=true by simpa using hl,dN,dN,Bool.and_assoc,←Bool.not_or,e,dN]
 ·rw [show decide (0 < l.length)=false by simpa using hl];simp
end Go.Proofs.YtclmdpamofdoiaaGreatDoor
namespace Go.Proofs.YtclmdpamofdoiaaGreatDoor
open Go Go.Lt
variable {s C:Sto} {k g W:Nat} {l p p':List aa} {w:Bool} {q:ag} {ks:List Nat}
def rdy (q:ag) (W H d:Nat):Option ((List am)×Int×Int×Bool×Bool):=(rp1 ⟨q.L,hc q.At W H,q.Auto⟩).bind (rp2 d W)
def Bt (L:List am) (i a d W:Nat) (au:Bool) (t:List Int):ag:=
 ⟨L.set i ⟨pl (L.getD i dl).Cells a (dO d (fx t)),pw (L.getD i dl).Cells (L.getD i dl).Wrap a d⟩,ca ⟨(i:Int),(a:Int),false⟩ d W au,au⟩
theorem rY {L:List am} {c:ah} {au:Bool} {i a:Nat} (hi:i < L.length) (hL:L.length≤1024) (hw:(L.getD i dl).Cells.length≤1024) (hp:p.length≤1000000) (ha:a≤1000000):
  bB ⟨L,c,au⟩ i a p=some ⟨L.set i ⟨pl (L.getD i dl).Cells a p,pw (L.getD i dl).Cells (L.getD i dl).Wrap a p.length⟩,c,au⟩:=by
 unfold bB bV;simp only [gdl hi] at hw⊢;simp only [aZ hi,bsm];rw [nY _ _ _ _ (by omega) ha hp];simp only [bsm];rw [cR (by simp; omega),bm];simp only [bsm];rw [aZ hi,jS hi];rfl
theorem jT {L2:List am} {i a d:Nat} {pd au:Bool} (hdd:d=1∨d=2) (h:Pv C s k g W q ks) (hr:rdy q W ks.length d=some (L2,(i:Int),(a:Int),pd,au)) (hi:i < ks.length) (ha:a+d≤W) (hL:L2.length=ks.length) (hok:∀x∈L2,Okl W x) (p1:Int) (t:List Int) (ht:t.length≤1000000)
  (hcl:(cl2 p1 t W).1=d):aD q p1 t=some (Bt L2 i a d W au (cl2 p1 t W).2,⟨(i:Int),(a:Int),false⟩):=by
 have hl:(cl2 p1 t W).2.length≤1000000:=by unfold cl2; split <;> simp; exact ht
 have hce:=vi (W:=W) p1 t;have w1:=h.g.w1;have w2:=h.g.w2;have h1:=h.set (hc q.At W ks.length) q.Auto;have h2:=h.g.h2;unfold aD;rw [nZ h];unfold rdy at hr;generalize hc q.At W ks.length=c at *;simp only [bsm];rw [rX h1];simp only [bsm];rw [hce,hcl];generalize (cl2 p1 t W).2=t2 at *;simp only [bsm];have hsl:=nv d hdd (fx t2);have hc2:0≤(⟨(i:Int),(a:Int),false⟩:ah).Col∧(⟨(i:Int),(a:Int),false⟩:ah).Col < (W:Int):=by simp only; omega
 obtain ⟨z,hz1,hz2⟩:=bs hr
 change ((rp1 ⟨q.L,c,q.Auto⟩).bind fun z_28=>(rp2 d W z_28).bind _)=_
 rw [hz1];simp only [bsm];rw [hz2];simp only [bsm];rw [zw _ _ (by omega)];simp only [bsm];have hlt:i < L2.length:=by omega
 have hcells:(L2.getD i dl).Cells.length=W:=by
  rw [gdl hlt];exact (hok _ (aB hlt)).2
 rw [rY hlt (by omega) (by omega) (by omega) (by omega)];simp only [bsm];rw [sQ _ hdd w1 w2 hc2];simp only [bsm,Bt,hsl]
theorem CI (h:Pv C s k g W q ks) {d:Nat} (hdd:d=1∨d=2) (hdw:d≤W):∃L2 i a pd,rdy q W ks.length d=some (L2,((i:Nat):Int),((a:Nat):Int),pd,q.Auto)∧i < ks.length∧a+d≤W∧L2.length=ks.length∧(∀x∈L2,Okl W x):=by
 have h1:=h.set (hc q.At W ks.length) q.Auto;have hd:=se q.At h.g.w1 h.g.h1;obtain ⟨s2,q2,ks2,z,_,a2,a3,v2,n2,hr,hcl,au⟩:=Au h1 hd hdd hdw;obtain ⟨i,hi⟩:∃i:Nat,q2.At.Row=(i:Int):=⟨q2.At.Row.toNat,by omega⟩;obtain ⟨a,ha⟩:∃a:Nat,q2.At.Col=(a:Int):=⟨q2.At.Col.toNat,by omega⟩;refine ⟨q2.L,i,a,q2.At.Pending,?_,by omega,by omega,by rw [v2.len,n2],v2.ok⟩;unfold rdy;rw [a2];simp only [bsm];rw [a3];simp only [fld,hi,ha,au]
theorem Eu (h:Pv C s k g W q ks):∃L1 i c,rp1 ⟨q.L,hc q.At W ks.length,q.Auto⟩=some (L1,((i:Nat):Int),((c:Nat):Int),false,q.Auto)∧i < ks.length∧c+1≤W∧L1.length=ks.length∧(∀x∈L1,Okl W x):=by
 have h1:=h.set (hc q.At W ks.length) q.Auto;have hd:=se q.At h.g.w1 h.g.h1;obtain ⟨s2,q2,ks2,a1,a2,v2,n2,hd2,au,pe⟩:=FE h1 hd;have hr:=hd2.rr;have hcc:=hd2.cc;obtain ⟨i,hi⟩:∃i:Nat,q2.At.Row=(i:Int):=⟨q2.At.Row.toNat,by omega⟩;obtain ⟨a,ha⟩:∃a:Nat,q2.At.Col=(a:Int):=⟨q2.At.Col.toNat,by omega⟩;refine ⟨q2.L,i,a,?_,by omega,by omega,by rw [v2.len,n2],v2.ok⟩;rw [a2];simp only [fld,hi,ha,au,pe]
theorem As (W:Int) (z:(List am)×Int×Int×Bool×Bool):rp2 1 W z=some z:=by
 unfold rp2;simp only [bf,bsm];rw [ab (by simp)]
theorem Bu (h:Pv C s k g W q ks) {p1 p2:Int} {t1 t2:List Int} (ht1:t1.length≤1000000) (ht2:t2.length≤1000000) (hc1:(cl2 p1 t1 W).1=1) {q':ag} {at_:ah} (hp:aD q p1 t1=some (q',at_))
  {s' C':Sto} {ks':List Nat} (h':Pv C' s' k g W q' ks') (hk:ks'.length=ks.length):aD ⟨q'.L,at_,q'.Auto⟩ p2 t2=aD q p2 t2:=by
 obtain ⟨L1,i,c,e1,hi,hcw,hL1,hok1⟩:=Eu h;have w1:=h.g.w1;have w2:=h.g.w2;have hh2:=h.g.h2;have r1:rdy q W ks.length 1=some (L1,(i:Int),(c:Int),false,q.Auto):=by
  unfold rdy;rw [e1];exact As (W:Int) _
 have hq:=jT (.inl rfl) h r1 hi hcw hL1 hok1 p1 t1 ht1 hc1;rw [hp] at hq;simp only [aM,fM] at hq;obtain ⟨rfl,rfl⟩:=hq;simp only [Bt];have hlt:i < L1.length:=by omega
 generalize hX:(⟨pl (L1.getD i dl).Cells c (dO (1:Nat) (fx (cl2 p1 t1 W).2)),pw (L1.getD i dl).Cells (L1.getD i dl).Wrap c 1⟩:am)=X;have hst:=nv 1 (.inl rfl) (fx (cl2 p1 t1 W).2);have hcells:(L1.getD i dl).Cells.length=W:=by
  rw [gdl hlt];exact (hok1 _ (aB hlt)).2
 have hXc:X.Cells.length=W:=by rw [←hX]; simp only [iU]; exact hcells
 have h2:=h'.set ⟨(i:Int),(c:Int),false⟩ q.Auto;simp only [Bt] at h2;rw [hX] at h2;have hcid:hc ⟨(i:Int),(c:Int),false⟩ W ks.length=⟨(i:Int),(c:Int),false⟩:=Dj ⟨by simp only; omega,by simp only; omega,fun e=>by cases e⟩;have e2:rp1 ⟨L1.set i X,hc ⟨(i:Int),(c:Int),false⟩ W ks'.length,q.Auto⟩=some (L1.set i X,(i:Int),(c:Int),false,q.Auto):=by
  rw [hk,hcid];unfold rp1;simp only [aj,aU]
 have hg:(L1.set i X).getD i dl=X:=by
  rw [an,bi hlt];rfl
 have hokX:∀x∈L1.set i X,Okl W x:=h2.ok;obtain ⟨hdd,hdw⟩:=Dy p2 t2 w1;have over:∀(a d:Nat),d=1∨d=2→a≤c→c+1≤a+d→a+d≤W→∀p:List aa,p.length=d→(L1.set i X).set i ⟨pl ((L1.set i X).getD i dl).Cells a p,pw ((L1.set i X).getD i dl).Cells ((L1.set i X).getD i dl).Wrap a d⟩=L1.set i ⟨pl (L1.getD i dl).Cells a p,pw (L1.getD i dl).Cells (L1.getD i dl).Wrap a d⟩:=by
  intro a d _ g1 g2 g3 p hpl;rw [hg,List.set_set]
  congr 1
  rw [←hX];simp only;have o1:=wZ (l:=(L1.getD i dl).Cells) (p:=dO (1:Nat) (fx (cl2 p1 t1 W).2)) (p':=p) g1 (by omega) (by omega);have o2:=Aw (l:=(L1.getD i dl).Cells) (w:=(L1.getD i dl).Wrap) (p:=dO (1:Nat) (fx (cl2 p1 t1 W).2)) (p':=p) g1 (by omega) (by omega);rw [hst,hpl] at o2;rw [o1,o2]
 have fin:∀(a d:Nat) (pd pd':Bool),d=1∨d=2→(cl2 p2 t2 W).1=d→a≤c→c+1≤a+d→a+d≤W→rdy q W ks.length d=some (L1,(i:Int),(a:Int),pd,q.Auto)→rdy ⟨L1.set i X,⟨(i:Int),(c:Int),false⟩,q.Auto⟩ W ks'.length d=some (L1.set i X,(i:Int),(a:Int),pd',q.Auto)→
   aD ⟨L1.set i X,⟨(i:Int),(c:Int),false⟩,q.Auto⟩ p2 t2=aD q p2 t2:=by
  intro a d pd pd' g0 g1 g2 g3 g4 b1 b2;rw [jT g0 h b1 hi g4 hL1 hok1 p2 t2 ht2 g1,jT g0 h2 b2 (by omega) g4 (by rw [bY]; omega) hokX p2 t2 ht2 g1];have:=over a d g0 g2 g3 g4 (dO d (fx (cl2 p2 t2 W).2)) (nv d g0 _);unfold Bt;rw [this]
 have f1:∀(L:List am) (d:Nat),d=2→c+1 < W→rp2 d W (L,(i:Int),(c:Int),false,q.Auto)=some (L,(i:Int),(c:Int),false,q.Auto):=by
  intro L d hd hcn;unfold rp2;simp only [bf,bsm];rw [aG (by omega),ab (by simp only [av,aN]; omega)]
 rcases hdd with hd1 | hd2
 ·refine fin c 1 false false (.inl rfl) hd1 (aw _) (aw _) hcw r1 ?_;unfold rdy;rw [e2];exact As (W:Int) _
 ·by_cases hcn:c+1 < W
  ·refine fin c 2 false false (.inr rfl) hd2 (aw _) (by omega) (by omega) ?_ ?_
   ·unfold rdy;rw [e1];exact f1 _ 2 rfl hcn
   ·unfold rdy;rw [e2];exact f1 _ 2 rfl hcn
  ·have hcW:(c:Int)=(W:Int) - 1:=by omega
   have ew1:w64 ((W:Int) - 1)=((W - 1:Nat):Int):=by rw [aG (by omega)]; omega
   have ew2:w64 ((W:Int) - 2)=((W - 2:Nat):Int):=by rw [aG (by omega)]; omega
   cases hau:q.Auto with
   | true=>
    have hpa:∀L:List am,L.length=ks.length→(L.getD i dl).Cells.length=W→rp2 (2:Nat) W (L,(i:Int),(c:Int),false,true)=
      (ci ⟨L.set i ⟨pl (L.getD i dl).Cells (W - 1) [bl],pw (L.getD i dl).Cells (L.getD i dl).Wrap (W - 1) 1⟩,⟨(i:Int),(c:Int),false⟩,true⟩).bind fun x_60=>(some (x_60.L,x_60.At.Row,x_60.At.Col,x_60.At.Pending,x_60.Auto):Option ((List am)×Int×Int×Bool×Bool)):=by
     intro L hL hLw;unfold rp2;simp only [bf,bsm];rw [ae (by simp only [av,aN]; rw [ew1]; omega)];simp only [bw];rw [nG _ (by decide)];simp only [bsm];rw [show (List.replicate (1:Int).toNat (⟨0,[]⟩:aa))= [bl] from rfl,ew1,rY (by omega) (by omega) (by omega) (by decide) (by omega)];simp only [bsm];rfl
    obtain ⟨L2,i2,a2,pd2,g1,g2,g3,g4,g5⟩:=CI h (.inr rfl) (by omega:2≤W);have hsame:rdy ⟨L1.set i X,⟨(i:Int),(c:Int),false⟩,true⟩ W ks'.length 2=rdy q W ks.length 2:=by
     rw [hau] at e1 e2;unfold rdy;rw [hau,e1,e2];simp only [bsm];rw [hpa _ (by rw [bY]; omega) (by rw [hg]; exact hXc),hpa _ hL1 hcells];rw [over (W - 1) 1 (.inl rfl) (by omega) (by omega) (by omega) [bl] rfl]
    rw [hau] at h2;rw [jT (.inr rfl) h g1 g2 g3 g4 g5 p2 t2 ht2 hd2,jT (.inr rfl) h2 (hsame.trans g1) (by omega) g3 (by omega) g5 p2 t2 ht2 hd2]
   | false=>
    have hna:∀L:List am,rp2 (2:Nat) W (L,(i:Int),(c:Int),false,q.Auto)=some (L,(i:Int),((W - 2:Nat):Int),false,q.Auto):=by
     intro L;unfold rp2;simp only [bf,bsm];rw [ae (by simp only [av,aN]; rw [ew1]; omega)];simp only [hau,aj,aU];rw [ew2]
    have key:=fin (W - 2) 2 false false (.inr rfl) hd2 (by omega) (by omega) (by omega) (by unfold rdy; rw [e1]; exact hna _) (by unfold rdy; rw [e2]; exact hna _);rw [hau] at key;exact key
end Go.Proofs.YtclmdpamofdoiaaGreatDoor
namespace Go.Proofs.YtclmdpamofdoiaaGreatDoor
open Go Go.Lt
variable {s:Sto} {k g W:Nat} {l p p':List aa} {w:Bool} {q:ag} {ks:List Nat}
theorem E4 {x:Int} (h:vld x=true):fY x=x:=by unfold fY; rw [ae h]
theorem zM (x:Int):fY (fY x)=fY x:=E4 (uv x)
theorem Dl {t:List Int} (ht:t.length≤15) (x:Int):fx (t++ [fY x])=fx (t++ [x]):=by
 unfold fx;rw [aK (by simp; omega),aK (by simp; omega),bd,bd];simp [zM]
theorem Ci {d:Nat} (hd:d=1∨d=2) {t:List Int} (ht:t≠ []):dO (d:Int) t=if d=2 then [⟨2,t⟩,⟨3,[]⟩] else [⟨1,t⟩]:=by
 unfold dO;rw [ab ht];rcases hd with rfl | rfl <;> rfl
theorem BA {l0:List aa} {a d:Nat} {t:List Int} (hdd:d=1∨d=2) (h:s.row_Row[k]? = some ⟨pl l0 a (dO d t),w⟩) (hs:Snd (pl l0 a (dO d t))) (hl:l0.length≤1024) (ha:a+d≤l0.length) (ht1:1≤t.length) (ht2:t.length≤15) (x:Int):
  nf s (some k) a x=some (s.sr k ⟨pl l0 a (dO d (fx (t++ [x]))),pw (pl l0 a (dO d t)) w a d⟩,true):=by
 have hne:t≠ []:=fun e=>by rw [e] at ht1; simp at ht1
 have hsl:=nv d hdd t;have hc:pc l0 a (dO d t) a=⟨(d:Int),t⟩:=by
  rw [AA ⟨aw _,by rw [hsl]; omega⟩,mh,Ci hdd hne];rcases hdd with rfl | rfl <;> rfl
 have hkd:kd (pl l0 a (dO d t)) a=(d:Int):=by rw [Db (by omega),hc]
 have hm:mat (pl l0 a (dO d t)) (a:Int)=some a:=by
  unfold mat;rw [ae (by rw [iU]; omega),bR,hkd,ab (by omega),ab (by omega)]
 unfold nf;rw [EN h hs a (by omega),hm];have hg:(pl l0 a (dO d t)).getD a bl=⟨(d:Int),t⟩:=by rw [an,ru (by omega),hc]; rfl
 simp only [bsm,cW,ft,hg,hkd];rw [ab (by simp; omega),cR (by simp; omega)];simp only [bsm];have hsl2:=nv d hdd (fx (t++ [x]));rw [C4 h hs (by rw [iU]; exact hl) _ (by simp; omega) (by rw [hsl2,iU]; exact ha),wZ (aw a) (by omega) (by omega),hsl2];simp only [bsm,Er.isNil]
def zb (b:Int):Bool:=b==1 || b==2 || b==3 || b==4 || b==5 || b==10 || b==11
def b2 (x:ao):Bool:= !zb x.Break && (x.East==1 || x.East==2)
theorem zZ (b:Int):lJ b=some (zb b):=by
 unfold lJ zb;by_cases h1:b=1
 ·subst h1; rfl
 by_cases h2:b=2
 ·subst h2; rfl
 by_cases h3:b=3
 ·subst h3; rfl
 by_cases h4:b=4
 ·subst h4; rfl
 by_cases h5:b=5
 ·subst h5; rfl
 by_cases h6:b=10
 ·subst h6; rfl
 by_cases h7:b=11
 ·subst h7; rfl
 simp [h1,h2,h3,h4,h5,h6,h7]
theorem DK (x:ao):∃n,mw x=some n∧(n==2)=b2 x:=by
 unfold mw b2;rw [zZ];simp only [bsm,bM]
 cases zb x.Break with
 | true=>exact ⟨0,rfl,rfl⟩
 | false=>
  cases h:(x.East==1 || x.East==2) with
  | true=>exact ⟨2,by simp [h],rfl⟩
  | false=>exact ⟨1,by simp [h],rfl⟩
def gz (y:aS) (r:Int) (x:ao):aS:=⟨true,x.Pict,y.wide || (b2 x || (y.some && ((r==65039 && y.pict) || x.Pict || x.Break==6)))⟩
def wz (y:aS):Int:=if y.wide=true then 2 else 1
theorem vd (y:aS) (r:Int) (x:ao):bU y r x=some (gz y r x,wz (gz y r x)):=by
 have hw:cg y r x=some (b2 x || (y.some && ((r==65039 && y.pict) || x.Pict || x.Break==6))):=by
  unfold cg;obtain ⟨n,h1,h2⟩:=DK x;rw [h1];simp only [bsm,h2,bf,bM]
  cases b2 x <;> cases y.some <;> rfl
 unfold bU;rw [hw];simp only [bsm,bM,aj,aU];unfold wz gz;split <;> simp_all
structure Cv (c:aJ) (t:List Int):Prop where
 n:c.n=(t.length:Int)
 h:t.length≤16
 t:(a16 c.text).take t.length=t
theorem ur {c:aJ} {t:List Int} (h:Cv c t):bE c=some (decide (t.length=16)):=by
 unfold bE cQ;simp only [aj,aU,bsm,h.n]
 congr 1
 rw [ce,aN,ak];omega
theorem Dw {c:aJ} {t:List Int} (h:Cv c t) (h2:t.length < 16) (x:Int):∃c',ba c x=some (c',true)∧Cv c' (t++ [x]):=by
 unfold ba;rw [ur h];simp only [ft,bsm];rw [ab (by simp; omega),h.n,aZ (by rw [nB]; exact h2)];simp only [bsm];refine ⟨_,rfl,by simp only; rw [aG (by omega)]; simp,by simp; omega,?_⟩;simp only;rw [zc,bR,ai];simp only [aA,aH];rw [aq (by rw [bY,nB]; exact h2),List.take_set_of_le (aw _),h.t,List.getElem_set_self]
theorem xl {c:aJ} {t:List Int} (h:Cv c t):bD c=some t:=by
 unfold bD;simp only [aj,aU,h.n];have:=rp (xs:=a16 c.text) (i:=0) (j:=t.length) (cZ _) (by rw [nB]; exact h.h);rw [show ((0:Nat):Int)=0 by rfl] at this;rw [this];simp only [bsm,ns,tq,h.t];unfold eN;rw [cR (by have:=h.h; simp; omega)];rfl
end Go.Proofs.YtclmdpamofdoiaaGreatDoor
namespace Go.Proofs.YtclmdpamofdoiaaGreatDoor
open Go Go.Lt
variable {s C:Sto} {k g W j:Nat} {w:Bool} {q:ag} {ks:List Nat}
def Sto.sc (s:Sto) (j:Nat) (x:aY):Sto:={ s with widen_Cluster:=s.widen_Cluster.set j x}
theorem sN {x:aY} (h:j < s.widen_Cluster.length):s.set_widen_Cluster j x=some (s.sc j x):=by
 unfold Sto.set_widen_Cluster;rw [ae h];rfl
theorem pW {x:aY} (h:j < s.widen_Cluster.length):(s.sc j x).widen_Cluster[j]? = some x:=by simp [Sto.sc,h]
theorem wo (s:Sto) (j:Nat) (x y:aY):(s.sc j x).sc j y=s.sc j y:=by simp [Sto.sc]
theorem Gw.sc (h:Gw s g ks W) (j:Nat) (x:aY):Gw (s.sc j x) g ks W:=⟨h.g,h.r,h.h1,h.h2,h.w1,h.w2⟩
theorem Gw.addc (h:Gw s g ks W) (x:aY):Gw (s.add_widen_Cluster x) g ks W:=⟨h.g,h.r,h.h1,h.h2,h.w1,h.w2⟩
theorem Pv.sc (h:Pv s s k g W q ks) (j:Nat) (x:aY):Pv (s.sc j x) (s.sc j x) k g W q ks:=
 ⟨h.p,h.g.sc j x,h.nd,h.l,rfl,h.f.rgp ⟨rfl,rfl,rfl⟩ ⟨rfl,rfl,rfl⟩⟩
theorem Pv.addc (h:Pv s s k g W q ks) (x:aY):Pv (s.add_widen_Cluster x) (s.add_widen_Cluster x) k g W q ks:=
 ⟨h.p,h.g.addc x,h.nd,h.l,rfl,h.f.rgp ⟨rfl,rfl,rfl⟩ ⟨rfl,rfl,rfl⟩⟩
theorem sS {a b:Sto} (h:a.oth=b.oth):a.widen_Cluster=b.widen_Cluster:=by
 have:=mN Sto.widen_Cluster h;exact this
structure Wc (s:Sto) (j:Nat) (c:ah) (y:aS) (t:List Int) (n:Int):Prop where
 x:∃b,s.widen_Cluster[j]? = some ⟨c,n,b,y⟩∧Cv b t
theorem Wc.lt {c:ah} {y:aS} {t:List Int} {n:Int} (h:Wc s j c y t n):j < s.widen_Cluster.length:=by
 obtain ⟨b,h,_⟩:=h.x;exact cz h
theorem Ed (r:Int):((dE r).bind fun x_6=>if (!x_6)=true then (some (65533):Option (Int)) else (some (r):Option (Int)))=some (fY r):=by
 rw [nU];unfold fY
 cases vld r <;> rfl
theorem DP {c:ah} {y:aS} {t:List Int} {n:Int} (h:Wc s j c y t n) (ht:t.length < 16) (r:Int) (x:ao):
  ∃b',eY s (some j) r x=some (s.sc j ⟨c,n,b',gz y (fY r) x⟩,wz (gz y (fY r) x))∧Cv b' (t++ [fY r]):=by
 have hj:=h.lt;obtain ⟨b,hb,hv⟩:=h.x;obtain ⟨b',h1,h2⟩:=Dw hv ht (fY r);refine ⟨b',?_,h2⟩;unfold eY;rw [Ed];simp only [bsm,hb,h1];rw [sN hj];simp only [bsm,vd];rw [sN (by simp [Sto.sc]; exact hj),wo];rfl
theorem Fo (t:List Int) (h:2≤W):cl2 2 t W=(2,t):=by
 unfold cl2;rw [ab (by omega)];rfl
theorem AU (t:List Int) (h:1≤W):cl2 1 t W=(1,t):=by
 unfold cl2;rw [ab (by omega)];rfl
theorem AV (t:List Int):cl2 2 t 1=(1,[65533]):=by
 unfold cl2;rw [ae (by decide)]
structure On (C s:Sto) (k g W H j:Nat) (q0:ag) (y:aS) (t:List Int) (q:ag) (c:ah) (ks:List Nat):Prop where
 v:Pv s s k g W q ks
 f:Fr C s k g ks
 w:Wc s j c y t (wz y)
 n:ks.length=H
 p:aD q0 (wz y) t=some (q,c)
theorem DJ {q0:ag} (h:Pv C s k g W q0 ks) (r:Int) (x:ao):∃s' q' c ks',kI s (some k) r x=some (s',some s.widen_Cluster.length)∧
  On C s' k g W ks.length s.widen_Cluster.length q0 (gz ⟨false,false,false⟩ (fY r) x) [fY r] q' c ks'∧∃z,s'.oth=(s.add_widen_Cluster z).oth:=by
 unfold kI;simp only [bI,ft,bsm,h.p,aj,aU];have h0:Wc (s.add_widen_Cluster ⟨⟨0,0,false⟩,0,⟨(0,0,0,0,0,0,0,0,0,0,0,0,0,0,0,0),0⟩,⟨false,false,false⟩⟩) s.widen_Cluster.length ⟨0,0,false⟩ ⟨false,false,false⟩ [] 0:=
  ⟨⟨⟨(0,0,0,0,0,0,0,0,0,0,0,0,0,0,0,0),0⟩,by simp [Sto.add_widen_Cluster],⟨rfl,by simp,rfl⟩⟩⟩
 obtain ⟨b,h1,h2⟩:=DP h0 (by simp) r x;have hlt:=h0.lt;rw [h1];have hv:=(h.self.addc ⟨⟨0,0,false⟩,0,⟨(0,0,0,0,0,0,0,0,0,0,0,0,0,0,0,0),0⟩,⟨false,false,false⟩⟩).sc s.widen_Cluster.length ⟨⟨0,0,false⟩,0,b,gz ⟨false,false,false⟩ (fY r) x⟩;have hR:Rgp s (s.add_widen_Cluster ⟨⟨0,0,false⟩,0,⟨(0,0,0,0,0,0,0,0,0,0,0,0,0,0,0,0),0⟩,⟨false,false,false⟩⟩):=⟨rfl,rfl,rfl⟩;have hA:∀z,((s.add_widen_Cluster ⟨⟨0,0,false⟩,0,⟨(0,0,0,0,0,0,0,0,0,0,0,0,0,0,0,0),0⟩,⟨false,false,false⟩⟩).sc s.widen_Cluster.length z)=s.add_widen_Cluster z:=fun z=>by
  simp [Sto.sc,Sto.add_widen_Cluster]
 generalize hs1:s.add_widen_Cluster ⟨⟨0,0,false⟩,0,⟨(0,0,0,0,0,0,0,0,0,0,0,0,0,0,0,0),0⟩,⟨false,false,false⟩⟩=s1 at *;simp only [bsm];rw [pW hlt];simp only [bsm];rw [sN (by simp [Sto.sc]; exact hlt),wo];simp only [bsm];rw [xl h2];simp only [bsm,bm];have hv2:=hv.sc s.widen_Cluster.length ⟨⟨0,0,false⟩,wz (gz ⟨false,false,false⟩ (fY r) x),b,gz ⟨false,false,false⟩ (fY r) x⟩;simp only [wo] at hv2;obtain ⟨s3,q3,ks3,i,a,p1,p2,p3,p4,p5,p6,p7,_⟩:=zB hv2 (wz (gz ⟨false,false,false⟩ (fY r) x)) [fY r] (by simp);rw [p2];have hcl:s3.widen_Cluster=(s1.sc s.widen_Cluster.length ⟨⟨0,0,false⟩,wz (gz ⟨false,false,false⟩ (fY r) x),b,gz ⟨false,false,false⟩ (fY r) x⟩).widen_Cluster:=sS p4.o;have hg3:s3.widen_Cluster[s.widen_Cluster.length]? = some ⟨⟨0,0,false⟩,wz (gz ⟨false,false,false⟩ (fY r) x),b,gz ⟨false,false,false⟩ (fY r) x⟩:=by
  rw [hcl];exact pW hlt
 simp only [bsm];rw [hg3];simp only [bsm];rw [sN (cz hg3)];refine ⟨_,q3,_,ks3,rfl,⟨p4.self.sc _ _,?_,⟨_,pW (cz hg3),by simpa using h2⟩,p5,p3⟩,⟨⟨(i:Int),(a:Int),false⟩,wz (gz ⟨false,false,false⟩ (fY r) x),b,gz ⟨false,false,false⟩ (fY r) x⟩,?_⟩
 ·exact (h.f.trans h.oG h.oR (p4.f.rgp (C':=s) ⟨hR.symm.r,hR.symm.g,hR.symm.p⟩ (Rgp.self _))).rgp (Rgp.self _) ⟨rfl,rfl,rfl⟩
 ·rw [←hA];have:=mN (fun y:Sto=>y.sc s.widen_Cluster.length ⟨⟨(i:Int),(a:Int),false⟩,wz (gz ⟨false,false,false⟩ (fY r) x),b,gz ⟨false,false,false⟩ (fY r) x⟩) p4.o;refine this.trans ?_;show (((s1.sc _ _).sc _ _).oth)=_;rw [wo]
theorem ut (y:aS):(y.wide=false∧wz y=1)∨(y.wide=true∧wz y=2):=by
 unfold wz;cases y.wide
 ·exact .inl ⟨rfl,rfl⟩
 ·exact .inr ⟨rfl,rfl⟩
theorem EY {y:aS} (h:y.wide=true) (r:Int) (x:ao):(gz y r x).wide=true:=by
 unfold gz;simp [h]
theorem Fp (p1:Int) (t t':List Int) (W:Nat):(cl2 p1 t W).1=(cl2 p1 t' W).1:=by
 unfold cl2;split <;> rfl
theorem BF {q0:ag} {y:aS} {t:List Int} {c:ah} {H:Nat} (h:On C s k g W H j q0 y t q c ks) (ht:t.length=16) (r:Int) (x:ao):
  dD s (some j) (some k) r x=some (s,false):=by
 obtain ⟨b,hb,hv⟩:=h.w.x;unfold dD;simp only [bI,ft,bsm,h.v.p,hb,ur hv,ht];rfl
theorem ER {C0 s0:Sto} {ks0:List Nat} {q0:ag} {H:Nat} (h0:Pv C0 s0 k g W q0 ks0) (hH:ks0.length=H) {y:aS} {t:List Int} {c:ah} (h:On C s k g W H j q0 y t q c ks) (ht1:1≤t.length) (ht:t.length < 16) (hvt:∀x∈t,vld x=true) (r:Int) (x:ao):
  ∃s' q' c' ks',dD s (some j) (some k) r x=some (s',true)∧On C s' k g W H j q0 (gz y (fY r) x) (t++ [fY r]) q' c' ks'∧∃z,s'.oth=(s.sc j z).oth:=by
 have hj:=h.w.lt;obtain ⟨b',e1,e2⟩:=DP h.w ht r x;obtain ⟨b,hb,hv⟩:=h.w.x;have w1:=h0.g.w1;have w2:=h0.g.w2;unfold dD;have hfull:decide (t.length=16)=false:=by simp; omega
 simp only [bI,ft,bsm,h.v.p,hb,ur hv,hfull,aj,aU,e1];have htl:(t++ [fY r]).length≤1000000:=by simp; omega
 generalize hy':gz y (fY r) x=y' at *;rw [pW hj];simp only [bsm];rw [sN (by simp [Sto.sc]; exact hj),wo];simp only [bsm];have hv2:=h.v.sc j ⟨c,wz y',b',y'⟩;have hfr:Fr C (s.sc j ⟨c,wz y',b',y'⟩) k g ks:=h.f.rgp (Rgp.self _) ⟨rfl,rfl,rfl⟩;by_cases hw:wz y'=wz y
 ·rw [ab (by simp [hw])];simp only [hv2.p,bsm];rw [iV hv2.g];simp only [bsm];obtain ⟨hdd,hdw⟩:=Dy (wz y) t w1;obtain ⟨L2,i,a,pd,r1,r2,r3,r4,r5⟩:=CI h0 hdd hdw;have hq:=jT hdd h0 r1 r2 r3 r4 r5 (wz y) t (by omega) rfl;have hq':=jT hdd h0 r1 r2 r3 r4 r5 (wz y) (t++ [fY r]) htl (Fp _ _ _ _);rw [h.p] at hq;simp only [aM,fM] at hq;obtain ⟨hq1,rfl⟩:=hq;by_cases hle:wz y'≤(W:Int)
  ·rw [ae (by simpa using hle)];have hcl:∀t2:List Int,cl2 (wz y) t2 W=((wz y).toNat,t2):=fun t2=>by
    rw [hw] at hle;rcases ut y with ⟨_,q1⟩ | ⟨_,q1⟩
    ·rw [q1]; exact AU t2 w1
    ·rw [q1]; exact Fo t2 (by omega)
   rw [hcl] at hq1 r3 hdd hdw r1 hq';rw [hcl] at hq';simp only at hq1 r3 hdd hdw r1 hq';generalize (wz y).toNat=d at *;have hik:i < ks.length:=by rw [h.n,←hH]; exact r2
   rw [eM hv2.g hik];simp only [bsm];have hfx:fx t=t:=FL hvt (by omega);obtain ⟨⟨rc,rw_⟩,hr0,hsn,hlw⟩:=h.v.g.at hik;simp only at hsn hlw;have hlt:i < L2.length:=by rw [r4]; exact r2
   have hat:=h.v.at hik;rw [nb hr0] at hat;have hqL:q.L=L2.set i ⟨pl (L2.getD i dl).Cells a (dO d (fx t)),pw (L2.getD i dl).Cells (L2.getD i dl).Wrap a d⟩:=by rw [hq1]; rfl
   have hgi:q.L[i]'(by rw [h.v.len]; exact hik)=⟨pl (L2.getD i dl).Cells a (dO d (fx t)),pw (L2.getD i dl).Cells (L2.getD i dl).Wrap a d⟩:=by
    have:q.L[i]? = some ⟨pl (L2.getD i dl).Cells a (dO d (fx t)),pw (L2.getD i dl).Cells (L2.getD i dl).Wrap a d⟩:=by rw [hqL,bi hlt]
    rw [af (by rw [h.v.len]; exact hik)] at this;exact bb this
   rw [hgi] at hat;simp only [am.mk.injEq] at hat;obtain ⟨hrc,hrw⟩:=hat;subst hrc hrw;have hcells:(L2.getD i dl).Cells.length=W:=by
    rw [gdl hlt];exact (r5 _ (aB hlt)).2
   have hq1A:q.At=ca ⟨(i:Int),(a:Int),false⟩ d W q0.Auto∧q.Auto=q0.Auto:=by rw [hq1]; exact ⟨rfl,rfl⟩
   generalize hl0:(L2.getD i dl).Cells=l0 at *;generalize hw0:(L2.getD i dl).Wrap=w0 at *;rw [hfx] at hr0 hsn hqL hlw hgi;have hr0':(s.sc j ⟨⟨(i:Int),(a:Int),false⟩,wz y',b',y'⟩).row_Row[ks[i]]? = some ⟨pl l0 a (dO d t),pw l0 w0 a d⟩:=hr0;have hst:=nv d hdd t;have hst2:=nv d hdd (fx (t++ [r]));rw [BA hdd hr0' hsn (by omega) (by omega) ht1 (by omega) r];simp only [bsm];have o1:=wZ (l:=l0) (p:=dO d t) (p':=dO d (fx (t++ [r]))) (aw a) (by omega) (by omega);have o2:=Aw (l:=l0) (w:=w0) (p:=dO d t) (p':=dO d (fx (t++ [r]))) (aw a) (by omega) (by omega);rw [hst,hst2] at o2;have hsn2:Snd (pl l0 a (dO d (fx (t++ [r])))):=by
    rw [←o1];exact hsn.paint (zm _ _) (by rw [iU]; omega)
   have hv4:=hv2.row hik (r:=⟨pl l0 a (dO d (fx (t++ [r]))),pw (pl l0 a (dO d t)) (pw l0 w0 a d) a d⟩) hsn2 (by simp only [iU]; exact hcells);refine ⟨_,_,_,ks,rfl,⟨hv4.self,hfr.sr (aB hik) _,⟨b',pW hj,e2⟩,h.n,?_⟩,_,rfl⟩;rw [hw,hq'];have hfx2:=Dl (t:=t) (by omega) r;rw [o2,hqL,hq1A.1,hq1A.2,List.set_set,←hfx2];unfold Bt;rw [hl0,hw0]
  ·rw [ab (by simpa using hle)];have hW:W=1:=by
    rcases ut y' with ⟨_,q1⟩ | ⟨_,q1⟩ <;> omega
   refine ⟨_,q,_,ks,rfl,⟨hv2,hfr,⟨b',pW hj,e2⟩,h.n,?_⟩,_,rfl⟩;rw [hw,hq'];have h2:wz y=2:=by
    rcases ut y with ⟨_,q1⟩ | ⟨_,q1⟩
    ·rw [hw,q1] at hle; omega
    ·exact q1
   rw [hq1,h2,hW,AV,AV]
 ·rw [ae (by simpa using hw)];have hy1:wz y=1∧wz y'=2:=by
   rcases ut y with ⟨_,q1⟩ | ⟨q1,q2⟩
   ·rcases ut y' with ⟨_,q3⟩ | ⟨_,q3⟩
    ·rw [q1,q3] at hw; exact absurd rfl hw
    ·exact ⟨q1,q3⟩
   ·have:=EY q1 (fY r) x;rw [hy'] at this;unfold wz at hw;rw [this,q1] at hw;exact absurd rfl hw
  simp only [hv2.p,bsm];rw [iE (cz hv2.p)];simp only [bsm];have hv3:=hv2.set c q.Auto;have hc3:((s.sc j ⟨c,wz y',b',y'⟩).sp k ⟨some g,c,q.Auto⟩).widen_Cluster[j]? = some ⟨c,wz y',b',y'⟩:=pW hj;rw [hc3];simp only [bsm];rw [xl e2];simp only [bsm];obtain ⟨s4,q4,ks4,i,a,p1,p2,p3,p4,p5,p6,p7,_⟩:=zB hv3 (wz y') (t++ [fY r]) htl;rw [p2];simp only [bsm];have hc4:s4.widen_Cluster[j]? = some ⟨c,wz y',b',y'⟩:=by
   rw [sS p4.o];exact hc3
  rw [hc4];simp only [bsm];rw [sN (cz hc4)];refine ⟨_,q4,_,ks4,rfl,⟨p4.self.sc _ _,?_,⟨b',pW (cz hc4),e2⟩,p5.trans h.n,?_⟩,⟨⟨(i:Int),(a:Int),false⟩,wz y',b',y'⟩,?_⟩
  ·have h3:=p4.f;have:=h.f.trans h.v.oG h.v.oR (h3.rgp (C':=s) ⟨rfl,rfl,rfl⟩ (Rgp.self _));exact this.rgp (Rgp.self _) ⟨rfl,rfl,rfl⟩
  ·rw [←p3];exact (Bu h0 (by omega) htl (by rw [hy1.1,AU _ w1]) h.p h.v (h.n.trans hH.symm)).symm
  ·have:=mN (fun y:Sto=>y.sc j ⟨⟨(i:Int),(a:Int),false⟩,wz y',b',y'⟩) p4.o;refine this.trans ?_;show (((s.sc _ _).sc _ _).oth)=_;rw [wo]
def gf (t:List Int) (x:List ao):aS:=(t.zip x).foldl (fun y p=>gz y p.1 p.2) ⟨false,false,false⟩
theorem xH {α β:Type}:∀(t:List α) (x:List β) (r:α) (h:t.length < x.length),(t++ [r]).zip x=t.zip x++ [(r,x[t.length])]
 | [],[],_,h=>by simp at h
 | [],b :: x,r,_=>by simp
 | a :: t,[],_,h=>by simp at h
 | a :: t,b :: x,r,h=>by
  have:=xH t x r (by simpa using h);simp only [cK,xB,this,aA,Hk]
theorem E1 {t:List Int} {x:List ao} (h:t.length < x.length) (r:Int):gf (t++ [r]) x=gz (gf t x) r x[t.length]:=by
 unfold gf;rw [xH t x r h,lu];rfl
theorem xG {α β:Type}:∀(t:List α) (x:List β) (n:Nat),t.length≤n→t.zip (x.take n)=t.zip x
 | [],_,_,_=>rfl
 | _ :: _,[],_,_=>by simp
 | _ :: _,_ :: _,0,h=>by simp at h
 | a :: t,b :: x,n+1,h=>by
  rw [Iz,xB,xB,xG t x n (by simpa using h)]
theorem EZ (t:List Int) (x:List ao) {n:Nat} (h:t.length≤n):gf t (x.take n)=gf t x:=by
 unfold gf;rw [xG _ _ _ h]
end Go.Proofs.YtclmdpamofdoiaaGreatDoor
namespace Go.Proofs.YtclmdpamofdoiaaGreatDoor
open Go Go.Lt
variable {s C:Sto} {g k W:Nat} {ks:List Nat} {q:ag}
def bls (W H:Nat):List am:=List.replicate H ⟨List.replicate W bl,false⟩
theorem DG {W H:Nat} (w1:1≤W) (w2:W≤1024) (h1:1≤H):∀i (h:i < (bls W H).length),1≤(bls W H)[i].Cells.length∧(bls W H)[i].Cells.length≤1024∧Snd (bls W H)[i].Cells∧(bls W H)[i].Cells.length=((bls W H)[0]'(by omega)).Cells.length:=fun i h=>by
 have e:∀j (hj:j < (bls W H).length),(bls W H)[j]=⟨List.replicate W bl,false⟩:=fun j hj=>by
  unfold bls;exact iO _
 rw [e i h,e 0 (by omega)];simp only [dR];exact ⟨w1,w2,sL W,trivial⟩
theorem yD (n m:Int):mu s n m=some ((s.addr ((bls (sd n) (sd m)).map lr)).add_grid_Grid ⟨(List.range' s.row_Row.length (sd m)).map some⟩,some s.grid_Grid.length):=by
 have hsd:=uA m;have hL:∀i,((bls (sd n) (sd m)).map lr).take i=List.replicate (min i (sd m)) ⟨List.replicate (sd n) bl,false⟩:=fun i=>by
  unfold bls;rw [List.map_replicate,List.take_replicate];rfl
 have hlen:((bls (sd n) (sd m)).map lr).length=sd m:=by simp [bls]
 have hH:aV 1 (aL m 1024)=(sd m:Int):=by
  rw [dB,gu];unfold sd;omega
 unfold mu;rw [hH];simp only [bsm];obtain ⟨t,h3,h4⟩:=fc (σ:=Int×Sto) (τ:=Sto) (n:=sd m) (fuel:=(((sd m:Nat):Int) - 0).toNat+1) (s:=(0,s.add_grid_Grid (⟨([]:List (Option Nat))⟩:bS)))
  (fun i q=>q=((i:Int),(s.addr (((bls (sd n) (sd m)).map lr).take i)).add_grid_Grid ⟨(List.range' s.row_Row.length i).map some⟩))
  (fun t=>t=(s.addr ((bls (sd n) (sd m)).map lr)).add_grid_Grid ⟨(List.range' s.row_Row.length (sd m)).map some⟩)
  (step:=fun s_12=>
 if (decide (s_12.1 < ((sd m:Nat):Int)))=true then
 (s_12.2.grid_Grid[s.grid_Grid.length]?).bind fun o_19=>
 (ku s_12.2 n).bind fun x_21=>
 (app o_19.rows ([x_21.2]:List (Option Nat))).bind fun x_23=>
 (x_21.1.set_grid_Grid s.grid_Grid.length (⟨x_23⟩:bS)).bind fun s_26001=>
 some (.inl ((w64 (s_12.1+1)),s_26001))
 else
 some (.inr (s_12.2)))
  (fun i q hi e=>by
   subst e;refine .inl ⟨_,?_,rfl⟩;have e5:w64 ((i:Int)+1)=((i+1:Nat):Int):=by rw [aG (by omega)]; simp
   have hd:decide ((i:Int) < ((sd m:Nat):Int))=true:=by simp; exact hi
   have hg:((s.addr (((bls (sd n) (sd m)).map lr).take i)).add_grid_Grid ⟨(List.range' s.row_Row.length i).map some⟩).grid_Grid[s.grid_Grid.length]? = some ⟨(List.range' s.row_Row.length i).map some⟩:=by
    simp [Sto.add_grid_Grid,Sto.addr]
   simp only [hd,bw];rw [hg,wW];simp only [bsm];rw [cR (by simp; omega)];simp only [bsm];have hlt:s.grid_Grid.length < (((s.addr (((bls (sd n) (sd m)).map lr).take i)).add_grid_Grid ⟨(List.range' s.row_Row.length i).map some⟩).add_row_Row ⟨List.replicate (sd n) bl,false⟩).grid_Grid.length:=by
    simp [Sto.add_grid_Grid,Sto.addr,Sto.add_row_Row]
   rw [xS hlt,e5];simp only [bsm]
   congr 4
   refine F3 ?_ ?_ rfl
   ·simp only [Sto.sg,Sto.add_grid_Grid,Sto.add_row_Row,Sto.addr];rw [hL,hL,cq (by omega),cq (by omega),Iu,aC]
   ·simp only [Sto.sg,Sto.add_grid_Grid,Sto.add_row_Row,Sto.addr];rw [lg _ _ (aw _),mh,qx,IX,bd,hL,cq (by omega)];simp)
  (fun q e=>⟨q.2,by subst e; simp,by subst e; simp only; rw [aK (by omega)]⟩)
  (by simp [za]) (by omega)
 subst h4;rw [h3];rfl
theorem Fr.of_grid (xs:List bh) (x:bS) {n:Nat} (hn:n=s.grid_Grid.length) {m:Nat}:Fr s ((s.addr xs).add_grid_Grid x) k n (List.range' s.row_Row.length m):=by
 subst hn;refine Fr.new (aw _) ?_ ?_ (fun _ _=>rfl) (fun j hj=>?_) (fun j hj=>?_) (aw _) (fun r hr=>(List.mem_range'_1.1 hr).1)
 ·simp [Sto.add_grid_Grid,Sto.addr]
 ·simp [Sto.add_grid_Grid,Sto.addr]
 ·simp only [Sto.add_grid_Grid,Sto.addr]; exact ax hj
 ·simp only [Sto.add_grid_Grid,Sto.addr]; exact ax hj
theorem Gw.addp (h:Gw s g ks W) (x:bj):Gw (s.add_place_Pen x) g ks W:=⟨h.g,h.r,h.h1,h.h2,h.w1,h.w2⟩
theorem Bw (n m:Int):∃s' ks,mG s n m=some (s',some s.place_Pen.length)∧Pv s s' s.place_Pen.length s.grid_Grid.length (sd n) ⟨bls (sd n) (sd m),⟨0,0,false⟩,true⟩ ks:=by
 have h1:=uA n;have h2:=uA m;have hb:(bls (sd n) (sd m)).length=sd m:=by simp [bls]
 have h0:((bls (sd n) (sd m))[0]'(by omega)).Cells.length=sd n:=by simp [bls]
 obtain ⟨g1,g2⟩:=FK (s:=s) (L:=bls (sd n) (sd m)) (by omega) (by omega) (DG h1.1 h1.2 h2.1);rw [h0] at g1;rw [hb] at g1 g2;unfold mG;rw [yD];refine ⟨_,_,rfl,⟨?_,g1.addp _,?_,?_,rfl,(Fr.of_grid _ _ rfl).addp _⟩⟩
 ·simp [Sto.add_place_Pen,Sto.add_grid_Grid,Sto.addr]
 ·exact I8
 ·exact g2
end Go.Proofs.YtclmdpamofdoiaaGreatDoor
