/- Parts of the proofs of PlayFirst: the walk through the code, and plain Lean. No condition. -/
import Derived.Test.YtclmdpamofdoiaaGreatDoorPfA
import Derived.Test.YtclmdpamofdoiaaGreatDoorProg
import Derived.WalkKit
import Derived.LaidEql
import Derived.Stop.Asserts
import Derived.RowKitTokens
import Derived.Elder7
import Derived.Test.YtclmdpamofdoiaaGreatDoorPfB
import Derived.Test.YtclmdpamofdoiaaGreatDoorPfC
set_option linter.unusedVariables false
set_option linter.unusedSimpArgs false
namespace Go.Proofs.YtclmdpamofdoiaaGreatDoor
open Go Go.Lt
set_option maxRecDepth 10000
set_option linter.unusedVariables false
attribute [local irreducible] W WL AC
open Tryz
variable {c0:Cx} {G:Gm} {F:List En} {sg:Sto} {v1 v2 v3 v4 v5 v6 v7 v8 v9 v10 v11 v12 v13 v14 v15 v16 v17 v18 v19 v20 v21 v22 v23 v24 v25 v26 v27 v28 v29 v30 v31 v32 v33 v34 v35 v36 v37 v38 v39 v40 v41 v42 v43 v44 v45 v46 v47 v48 v49 v50 v51 v52 v53 v54 v55 v56 v57 v58 v59 v60:Value}
def mN (p0:Int):Option (Bool):=
 (bV (decide (p0≥2)) (some (decide (p0≤12)))).bind fun a=>
 some a
theorem yU (d:Own c0 G F) (a:Int) {r:Bool} (H:mN a=some r): Calls prog 162 #[I a] c0.w (aO c0 fun c v=>Own c G (F)∧v=B r):=by
 unfold mN at H;refine en func162 rfl rfl (sr (va (B false) (wln (W.seq (bn H fun e f H=>W.join (Jn c0 fun c l=>Own c G (F)∧l= [(2,B e)]) ?_ ?_)))))
 ·clear H;refine W.region (va (I a) (va (B (decide (a≥2))) ?_));rcases bo (decide (a≥2)) with b | b
  ·have g:=anT b f;refine vb b (wa (I a) (wa (B (decide (a≤12))) ?_));obtain rfl:=si g;exact vv (B (decide (a≤12))) (wln (jn c0 ⟨d,rfl⟩))
  obtain rfl:=anF b f;exact vb b (pz (vv (B false) (wln (jn c0 ⟨d,rfl⟩))))
 rintro j n ⟨i,k,_,rfl,m,rfl,h,rfl⟩;refine nrm (W.ret ?_);obtain rfl:=si H;exact r1 (qq i ⟨h,rfl⟩)
def kG (p0:aS):Option (Er):=
 (mN p0.Kind).bind fun d=>
 if (!d)=true then
 some (Er.sent 4)
 else
 (bV (decide (p0.Kind≤4)) (some (p0.Kind != 2))).bind fun a=>
 (bV a ((orE (decide (p0.A < 0)) (some (decide (p0.A > 2)))).bind fun c=>
 some c)).bind fun b=>
 if b=true then
 some (Er.sent 2)
 else
 some Er.nil
theorem tj (S:Own c0 G F) (hG:Gl [2,4] c0) (a:aS) {r:Er} (h2:Sl (RI .u8) c0 v1 a.Bytes) (H:kG a=some r): Calls prog 103 #[.agg #[I a.Kind,I a.A,I a.B,v1]] c0.w (aO c0 fun c v=>∃R,Own c G (F)∧v=R∧RE 350 144 c R r):=by
 unfold kG at H;refine en func103 rfl rfl (sr ?_);obtain ⟨U,X,Z,rfl⟩:=(h2).form;refine me (bx 38 [I a.Kind,I a.A,I a.B,.slice U X Z] S) ?_;rintro v10 c9 P ⟨i,rfl,T,k⟩;refine va (.nilIface) (wln (W.seq (W.block (sr (va (Q i) (vx (l1 u_3 (k 0 _ rfl)) (bn H fun u D H=>cl (yU T a.Kind D) ?_)))))));rintro v17 b l16 ⟨d,rfl⟩;refine vv (B (!u)) (wln (cn H (fun E H=>?_) (fun E H=>?_)))
 ·refine sr ?_;obtain ⟨v19,o⟩:=(hG.mono (P.trans l16)).get 4 (by decide);refine vx (l1 zl o.im) (va (v19) (wln (W.ret (bkr (thr ?_)))));obtain rfl:=si H;exact r1 (qq b ⟨v19,d,rfl,o⟩)
 refine W.seq (bn H fun a0 p H=>bn H fun x j H=>W.join (Jn b fun c l=>Own c G (F)∧l= [(9,B x)]) ?_ ?_)
 ·clear H;refine W.region (va (Q i) (vx (l1 u_3 ((mm k) 0 _ rfl)) (va (B (decide (a.Kind≤4))) ?_)));rcases bo (decide (a.Kind≤4)) with e | e
  ·have y:=anT e p;refine vb e (wa (Q i) (wn (vx (l1 u_3 ((mm k) 0 _ rfl)) (wa (B (a.Kind != 2)) ?_))));obtain rfl:=si y;refine va (B (a.Kind != 2)) ?_;rcases bo (a.Kind != 2) with f | f
   ·have h:=anT f j;refine vb f (wa (Qo i (0+1)) (wn (vx (l1 u_3 ((mm k) 1 _ rfl)) (wa (B (decide (a.A < 0))) (wn (bn h fun b0 q h=>?_))))));rcases bo (decide (a.A < 0)) with g | g
    ·obtain rfl:=orT g q;refine vb g (pz (ps (wa (B true) ?_)));obtain rfl:=si h;exact vv (B true) (wln (jn b ⟨d,rfl⟩))
    have z:=orF g q;refine vb g (wa (Qo i (0+1)) (wn (vx (l1 u_3 ((mm k) 1 _ rfl)) (wa (B (decide (a.A > 2))) (wn ?_)))));obtain rfl:=si z;refine va (B (decide (a.A > 2))) ?_;obtain rfl:=si h;exact vv (B (decide (a.A > 2))) (wln (jn b ⟨d,rfl⟩))
   obtain rfl:=anF f j;exact vb f (pz (pz (pz (pz (vv (B false) (wln (jn b ⟨d,rfl⟩)))))))
  obtain rfl:=anF e p;refine vb e (pz (ps (va (B false) ?_)));have s:false=false:=rfl;obtain rfl:=anF s j;exact vb s (pz (pz (pz (pz (vv (B false) (wln (jn b ⟨d,rfl⟩)))))))
 rintro e_ w_ ⟨n,e0,_,rfl,N,rfl,m,rfl⟩;refine nrm (cn H (fun M H=>?_) (fun M H=>?_))
 ·refine sr ?_;obtain ⟨v38,t⟩:=(hG.mono (P.trans (l16.trans N))).get 2 (by decide);refine vx (l1 zl t.im) (va (v38) (wln (W.ret (bkr (thr ?_)))));obtain rfl:=si H;exact r1 (qq n ⟨v38,m,rfl,t⟩)
 refine W.skip (bkn (nrm (sr (va (.nilIface) (wln (W.ret ?_))))));obtain rfl:=si H;exact r1 (qq n ⟨.nilIface,m,rfl,rfl⟩)
def iX (sg:Sto) (p0:Option Nat) (p1:aS):Option (Sto):=
 (p0).bind fun e=>
 (sg.place_Pen[e]?).bind fun b=>
 (bL sg b.G).bind fun f=>
 if (p1.Kind==10)=true then
 (ke sg b.G 0 f p1.A).bind fun i=>
 some i
 else
 if (p1.Kind==11)=true then
 (jQ sg b.G 0 f p1.A).bind fun j=>
 some j
 else
 if (p1.Kind==8)=true then
 (jQ sg b.G b.At.Row f p1.A).bind fun g=>
 (g.place_Pen[e]?).bind fun c=>
 (dw c.At).bind fun d=>
 (g.set_place_Pen e (⟨c.G,d,c.Auto⟩:bi)).bind fun a=>
 some a
 else
 if (p1.Kind==9)=true then
 (ke sg b.G b.At.Row f p1.A).bind fun h=>
 (h.place_Pen[e]?).bind fun c=>
 (dw c.At).bind fun d=>
 (h.set_place_Pen e (⟨c.G,d,c.Auto⟩:bi)).bind fun a=>
 some a
 else
 (dw b.At).bind fun d=>
 (sg.set_place_Pen e (⟨b.G,d,b.Auto⟩:bi)).bind fun a=>
 some a
theorem qJ (O0:Own c0 G F) (s:Rel c0 sg G) (p0:Option Nat) (f:aS) {r:Sto} (h2:Pt 2 c0 v1 p0) (h4:Sl (RI .u8) c0 v3 f.Bytes) (H:iX sg p0 f=some r): Calls prog 122 #[v1,.agg #[I f.Kind,I f.A,I f.B,v3]] c0.w (aO c0 fun c v=>∃G_:Gm,Own c G_ (F)∧Rel c r G_∧v= .tuple #[]):=by
 unfold iX at H;refine en func122 rfl rfl (sr ?_);obtain ⟨a5,a6,a7,rfl⟩:=(h4).form;refine me (bx 38 [I f.Kind,I f.A,I f.B,.slice a5 a6 a7] O0) ?_;rintro v12 q3 x ⟨t,rfl,O9,q⟩;refine wln (sr (va (v1) (bn H fun z3 y1 H=>?_)));obtain ⟨a,rfl,l⟩:=((h2.mono x)).get y1;refine vv (Q a) (bn H fun e z1 H=>?_);obtain ⟨v17,g,n⟩:=Rel.open_place_Pen (s.mono x) z1 l;refine vx (le1 0 eW (O9.gon g 0 rfl)) (bn H fun i b2 H=>cl (bH O9 s.m e.G n b2) ?_);rintro v26 s3 b0 ⟨k,rfl⟩;refine va (I i) (wln (W.seq (sr (va (Q t) (vx (l1 u_3 ((mm q) 0 _ rfl)) (wln (W.block (sr (vv (B (f.Kind==10)) (wln (cn H (fun c2 H=>?_) (fun c2 H=>?_))))))))))))
 ·refine W.seq (rD [7] (Kp G []) k ?_);intro n1 a4 M;have u2:Kp G [] n1:=(Kp.nil M);refine ta 0 (Q a) (ta 1 (Q a) (ta 2 (Q a) (tkx 3 u2 (fun p h j=>le1 0 eW (j.gon g 0 rfl)) (ta 4 (I i) (ta 5 (Qo t (0+1)) (tx 6 (fun p h=>l1 u_3 ((mm q) 1 _ rfl)) (bn H fun j3 d2 H=>o1 7 (gc 7 (qz M s.m e.G 0 i f.A n.m d2) ?_))))))));rintro v37 q1 b4 ⟨z0,c1,j1,rfl⟩;refine ⟨.inl rfl,dn (nrm (W.ret (bkr (thr ?_))))⟩;obtain rfl:=si H;exact r0 (qq q1 ⟨z0,c1,j1,rfl⟩)
 refine sr (vv (B (f.Kind==11)) (wln (cn H (fun e2 H=>?_) (fun e2 H=>?_))))
 ·refine W.seq (rD [7] (Kp G []) k ?_);intro s1 c4 N;have v2:Kp G [] s1:=(Kp.nil N);refine ta 0 (Q a) (ta 1 (Q a) (ta 2 (Q a) (tkx 3 v2 (fun p h j=>le1 0 eW (j.gon g 0 rfl)) (ta 4 (I i) (ta 5 (Qo t (0+1)) (tx 6 (fun p h=>l1 u_3 ((mm q) 1 _ rfl)) (bn H fun k3 f2 H=>o1 7 (gc 7 (rH N s.m e.G 0 i f.A n.m f2) ?_))))))));rintro v48 t1 d4 ⟨a1,d1,k1,rfl⟩;refine ⟨.inl rfl,dn (nrm (W.ret (bkr (thr ?_))))⟩;obtain rfl:=si H;exact r0 (qq t1 ⟨a1,d1,k1,rfl⟩)
 refine sr (vv (B (f.Kind==8)) (wln (cn H (fun g2 H=>?_) (fun g2 H=>?_))))
 ·refine rD [12] (Kp G []) k ?_;intro u1 e4 P;have g0:Kp G [] u1:=(Kp.nil P);refine ta 0 (Q a) (ta 1 (Q a) (ta 2 (Q a) (tkx 3 g0 (fun p h j=>le1 0 eW (j.gon g 0 rfl)) (ta 4 (Q a) (ta 5 (Q a) (ta 6 (Qo a 1) (ta 7 (Qo a 1) (tkx 8 g0 (fun p h j=>le1 1 u_3 (j.gon g 0 rfl)) (ta 9 (I i) (ta 10 (Qo t (0+1)) (tx 11 (fun p h=>l1 u_3 ((mm q) 1 _ rfl)) (bn H fun l3 i2 H=>o1 12 (gc 12 (rH P s.m e.G e.At.Row i f.A n.m i2) ?_)))))))))))));rintro v59 t3 f4 ⟨n3,R,U,rfl⟩;refine ⟨.inl rfl,dn (bkn (nrm (W.region (vv (Q a) (va (Q a) (va (Qo a 1) (bn H fun d j2 H=>?_)))))))⟩;obtain ⟨D,Z,k2⟩:=Rel.open_place_Pen U j2 (tm l);refine vx (leN 29 1 [I d.At.Row,I d.At.Col,B d.At.Pending] (R.gon Z 0 rfl)) (bn H fun b l2 H=>cl (jN R d.At l2) ?_);rintro j4 u3 d0 ⟨e1,rfl⟩;refine va (Q a) (va (Qo a 1) (md (gB 29 1 [I b.Row,I b.Col,B b.Pending] [D,I b.Row,I b.Col,B b.Pending,B d.Auto] 0 e1 Z ⟨rfl,rfl,rfl,trivial⟩) ?_));rintro w1 e0 f1;refine bn H fun o m2 H=>?_;obtain ⟨b1,g1,m1,y3,p3⟩:=Rel.put_place_Pen f1 (U.mono (d0.trans e0)) (E':=[(Eb a 126 [D,I b.Row,I b.Col,B b.Pending,B d.Auto])]) m2 ⟨a,D,(tm l),rfl,(k2.mono (d0.trans e0))⟩;refine WL.nil ?_;obtain rfl:=si H;exact n0 (qq w1 ⟨b1,g1,m1,rfl⟩)
 refine sr (vv (B (f.Kind==9)) (wln (cn H (fun n2 H=>?_) (fun n2 H=>?_))))
 ·refine rD [12] (Kp G []) k ?_;intro x1 g4 S;have h0:Kp G [] x1:=(Kp.nil S);refine ta 0 (Q a) (ta 1 (Q a) (ta 2 (Q a) (tkx 3 h0 (fun p h j=>le1 0 eW (j.gon g 0 rfl)) (ta 4 (Q a) (ta 5 (Q a) (ta 6 (Qo a 1) (ta 7 (Qo a 1) (tkx 8 h0 (fun p h j=>le1 1 u_3 (j.gon g 0 rfl)) (ta 9 (I i) (ta 10 (Qo t (0+1)) (tx 11 (fun p h=>l1 u_3 ((mm q) 1 _ rfl)) (bn H fun m3 o2 H=>o1 12 (gc 12 (qz S s.m e.G e.At.Row i f.A n.m o2) ?_)))))))))))));rintro k4 w3 i4 ⟨o3,T,X,rfl⟩;refine ⟨.inl rfl,dn (bkn (nrm (W.region (vv (Q a) (va (Q a) (va (Qo a 1) (bn H fun d p2 H=>?_)))))))⟩;obtain ⟨E,a0,q2⟩:=Rel.open_place_Pen X p2 (tm l);refine vx (leN 29 1 [I d.At.Row,I d.At.Col,B d.At.Pending] (T.gon a0 0 rfl)) (bn H fun b s2 H=>cl (jN T d.At s2) ?_);rintro h3 x3 f0 ⟨i1,rfl⟩;refine va (Q a) (va (Qo a 1) (md (gB 29 1 [I b.Row,I b.Col,B b.Pending] [E,I b.Row,I b.Col,B b.Pending,B d.Auto] 0 i1 a0 ⟨rfl,rfl,rfl,trivial⟩) ?_));rintro u0 u k0;refine bn H fun o w0 H=>?_;obtain ⟨i0,l0,s0,d3,x2⟩:=Rel.put_place_Pen k0 (X.mono (f0.trans u)) (E':=[(Eb a 126 [E,I b.Row,I b.Col,B b.Pending,B d.Auto])]) w0 ⟨a,E,(tm l),rfl,(q2.mono (f0.trans u))⟩;refine WL.nil ?_;obtain rfl:=si H;exact n0 (qq u0 ⟨i0,l0,s0,rfl⟩)
 refine W.skip (bkn (nrm (W.region (vv (Q a) (va (Q a) (va (Qo a 1) (vx (leN 29 1 [I e.At.Row,I e.At.Col,B e.At.Pending] (k.gon g 0 rfl)) (bn H fun b x0 H=>cl (jN k e.At x0) ?_))))))));rintro i3 c3 y ⟨m0,rfl⟩;refine va (Q a) (va (Qo a 1) (md (gB 29 1 [I b.Row,I b.Col,B b.Pending] [v17,I b.Row,I b.Col,B b.Pending,B e.Auto] 0 m0 g ⟨rfl,rfl,rfl,trivial⟩) ?_));rintro v0 z o0;refine bn H fun o y0 H=>?_;obtain ⟨j0,q0,t0,e3,y2⟩:=Rel.put_place_Pen o0 (s.mono (x.trans (b0.trans (y.trans z)))) (E':=[(Eb a 126 [v17,I b.Row,I b.Col,B b.Pending,B e.Auto])]) y0 ⟨a,v17,(tm l),rfl,(n.mono (b0.trans (y.trans z)))⟩;refine WL.nil ?_;obtain rfl:=si H;exact n0 (qq v0 ⟨j0,q0,t0,rfl⟩)
def lC (sg:Sto) (p0:Option Nat) (p1:Int):Option (Sto):=
 (p0).bind fun f=>
 (sg.place_Pen[f]?).bind fun b=>
 (bA sg b.G b.At.Row).bind fun a=>
 if (p1==0)=true then
 (kW sg a b.At.Col).bind fun c=>
 some c
 else
 if (p1==1)=true then
 (lM sg a b.At.Col).bind fun d=>
 some d
 else
 (ki sg a).bind fun e=>
 some e
theorem ur (O0:Own c0 G F) (h:Rel c0 sg G) (hG:Gl [2,4] c0) (Z:Option Nat) (d:Int) {r:Sto} (h2:Pt 2 c0 v1 Z) (H:lC sg Z d=some r): Calls prog 190 #[v1,I d] c0.w (aO c0 fun c v=>∃G_:Gm,Own c G_ (F)∧Rel c r G_∧v= .tuple #[]):=by
 unfold lC at H;refine en func190 rfl rfl (W.seq (rD [] (Kp G []) O0 ?_));intro c3 X q;have p5:Kp G [] c3:=(Kp.nil q);refine ta 0 (v1) (bn H fun o0 h8 H=>?_);obtain ⟨a,rfl,h7⟩:=((h2.mono X)).get h8;refine ta 1 (Q a) (ta 2 (Q a) (bn H fun g h9 H=>?_));obtain ⟨v10,f,E⟩:=Rel.open_place_Pen (h.mono X) h9 h7;refine tkx 3 p5 (fun c' U j=>le1 0 eW (j.gon f 0 rfl)) (ta 4 (Q a) (ta 5 (Q a) (ta 6 (Qo a 1) (ta 7 (Qo a 1) (tkx 8 p5 (fun c' U j=>le1 1 u_3 (j.gon f 0 rfl)) (bn H fun e M H=>o1 9 (gc 9 (cU q h.m g.G g.At.Row E M) ?_)))))));rintro v14 y q0 ⟨_,b,rfl,i⟩;have a0:Kp G [] y:=(Kp.nil b);refine ⟨.inr a0,ta 10 (v14) (dn (nrm (sr (va (I d) (wln (W.block (sr (vv (B (d==0)) (wln (cn H (fun N H=>?_) (fun N H=>?_)))))))))))⟩
 ·refine W.region (va (v14) (vv (Q a) (va (Qo a 1) (va (Qo a 2) (vx (le1 2 u_3 (b.gon f 0 rfl)) (bn H fun k0 P H=>cl (wd b h.m (hG.m.le (by decide)) e g.At.Col i P) ?_))))));rintro v30 z s0 ⟨k,o,t,rfl⟩;refine WL.nil (bkn ?_);obtain rfl:=si H;exact n0 (qq z ⟨k,o,t,rfl⟩)
 refine sr (vv (B (d==1)) (wln (cn H (fun R H=>?_) (fun R H=>?_))))
 ·refine W.region (va (v14) (vv (Q a) (va (Qo a 1) (va (Qo a 2) (vx (le1 2 u_3 (b.gon f 0 rfl)) (bn H fun l0 S H=>cl (xA b h.m (hG.m.le (by decide)) e g.At.Col i S) ?_))))));rintro v38 A t0 ⟨l,p,u,rfl⟩;refine WL.nil (bkn ?_);obtain rfl:=si H;exact n0 (qq A ⟨l,p,u,rfl⟩)
 refine W.region (va (v14) (bn H fun m0 T H=>cl (uq b h.m (hG.m.le (by decide)) e i T) ?_));rintro v45 D u0 ⟨n,s,x,rfl⟩;refine WL.nil (bkn ?_);obtain rfl:=si H;exact n0 (qq D ⟨n,s,x,rfl⟩)
def mC (sg:Sto) (p0:Option Nat) (p1:Int):Option (Sto):=
 (lC sg p0 p1).bind fun c=>
 (p0).bind fun b=>
 (c.place_Pen[b]?).bind fun p=>
 (bL c p.G).bind fun d=>
 (cM (σ:=Int×Sto) (τ:=Sto) ((d - 0).toNat+1) (fun a=>
 if (decide (a.1 < d))=true then
 ((orE (p1==2) ((bV (p1==0) ((a.2.place_Pen[b]?).bind fun j=>
 some (decide (a.1 > j.At.Row)))).bind fun f=>
 some f)).bind fun e=>
 (orE e ((bV (p1==1) ((a.2.place_Pen[b]?).bind fun k=>
 some (decide (a.1 < k.At.Row)))).bind fun h=>
 some h)).bind fun g=>
 if g=true then
 (a.2.place_Pen[b]?).bind fun l=>
 (bA a.2 l.G a.1).bind fun m=>
 (ki a.2 m).bind fun n=>
 some (n)
 else
 some (a.2)).bind fun o=>
 some (.inl ((w64 (a.1+1)),o))
 else
 some (.inr (a.2))) (0,c)).bind fun i=>
 some i
theorem wg (O0:Own c0 G F) (R0:Rel c0 sg G) (hG:Gl [2,4] c0) (p0:Option Nat) (f:Int) {r:Sto} (h2:Pt 2 c0 v1 p0) (H:mC sg p0 f=some r): Calls prog 191 #[v1,I f] c0.w (aO c0 fun c v=>∃G_:Gm,Own c G_ (F)∧Rel c r G_∧v= .tuple #[]):=by
 unfold mC at H;refine en func191 rfl rfl (sr (va (v1) (va (I f) (bn H fun s3 h3 H=>cl (ur O0 R0 (hG.le (by decide)) p0 f h2 h3) ?_))));rintro v9 c8 l8 ⟨G4,O5,R6,rfl⟩;refine wln (sr (va (v1) (bn H fun f3 j1 H=>?_)));obtain ⟨b,rfl,n⟩:=((h2.mono l8)).get j1;refine vv (Q b) (bn H fun l2 k1 H=>?_);obtain ⟨v14,n1,m1⟩:=Rel.open_place_Pen R6 k1 n;refine vx (le1 0 eW (O5.gon n1 0 rfl)) (bn H fun A q1 H=>cl (bH O5 R6 l2.G m1 q1) ?_);rintro v23 R g3 ⟨x0,rfl⟩;refine va (I 0) (wln (W.block (bn H fun v2 U T=>lp U (fun a=>Jn R fun c l=>∃G_,Own c G_ (F)∧l= [(0,Q b),(1,I f),(12,I A),(13,I a.1)]∧Rel c a.2 G_) (fun S ex e w=>ex= .exit 0∧(Jn R fun c l=>∃G_,Own c G_ (F)∧l= []∧Rel c S G_) e w) ?_ ?_ ?_)))
 ·clear T U;intro a t3 i1 m2 H;revert i1 m2;rintro e_ w_ ⟨i,y2,_,rfl,i3,rfl,D,g,rfl,j⟩;refine sr (va (B (decide (a.1 < A))) (wln (W.seq (cn H (fun t1 H=>?_) (fun t1 H=>?_)))))
  ·refine W.skip (nrm (bn H fun t0 d w0=>W.seqJ (Jn i fun c l=>∃G_,Own c G_ (F)∧l= [(0,Q b),(1,I f),(12,I A),(13,I a.1)]∧Rel c t0 G_) ?_ ?_))
   ·refine W.block (sr (vv (I a.1) (wln (W.seq (bn d fun q2 X d=>bn d fun j0 z d=>W.join (Jn i fun c l=>Own c D (F)∧l= [(0,Q b),(1,I f),(4,I a.1),(12,I A),(13,I a.1),(43,B j0)]) ?_ ?_)))))
    ·clear d;refine W.region (va (I f) (va (B (f==2)) ?_));rcases bo (f==2) with o | o
     ·obtain rfl:=orT o X;refine vb o (pz (pz (pz (pz (pz (ps (va (B true) ?_)))))));have Z:true=true:=rfl;obtain rfl:=orT Z z;exact vb Z (pz (pz (pz (pz (pz (ps (va (B true) (wln (jn i ⟨g,rfl⟩)))))))))
     have u:=orF o X;refine vb o (wa (I f) (wa (B (f==0)) (wn (bn u fun s2 a0 u=>?_))));rcases bo (f==0) with p | p
     ·have E:=anT p a0;refine vb p (wa (I a.1) (wa (Q b) (wa (Q b) (wa (Qo b 1) (wa (Qo b 1) (wn (bn E fun k u1 E=>?_)))))));obtain ⟨v44,w1,c3⟩:=Rel.open_place_Pen j u1 (tm n);refine vx (le1 1 u_3 (g.gon w1 0 rfl)) (wa (B (decide (a.1 > k.At.Row))) (wn ?_));obtain rfl:=si E;refine va (B (decide (a.1 > k.At.Row))) ?_;obtain rfl:=si u;refine va (B (decide (a.1 > k.At.Row))) ?_;rcases bo (decide (a.1 > k.At.Row)) with q | q
      ·obtain rfl:=orT q z;exact vb q (pz (pz (pz (pz (pz (ps (va (B true) (wln (jn i ⟨g,rfl⟩)))))))))
      have x:=orF q z;refine vb q (wa (I f) (wa (B (f==1)) (wn (bn x fun k0 b0 x=>?_))));rcases bo (f==1) with s | s
      ·have M:=anT s b0;refine vb s (wa (I a.1) (wa (Q b) (wa (Q b) (wa (Qo b 1) (wa (Qo b 1) (wn (bn M fun h x1 M=>?_)))))));obtain ⟨v53,y1,d3⟩:=Rel.open_place_Pen j x1 (tm n);refine vx (le1 1 u_3 (g.gon y1 0 rfl)) (wa (B (decide (a.1 < h.At.Row))) (wn ?_));obtain rfl:=si M;refine va (B (decide (a.1 < h.At.Row))) ?_;obtain rfl:=si x;exact va (B (decide (a.1 < h.At.Row))) (wln (jn i ⟨g,rfl⟩))
      obtain rfl:=anF s b0;refine vb s (pz (pz (pz (ps (wa (B false) ?_)))));obtain rfl:=si x;exact va (B false) (wln (jn i ⟨g,rfl⟩))
     obtain rfl:=anF p a0;refine vb p (pz (pz (pz (ps (wa (B false) ?_)))));obtain rfl:=si u;refine va (B false) ?_;have d0:false=false:=rfl;have y:=orF d0 z;refine vb d0 (wa (I f) (wa (B (f==1)) (wn (bn y fun k0 e0 y=>?_))));rcases bo (f==1) with t | t
     ·have N:=anT t e0;refine vb t (wa (I a.1) (wa (Q b) (wa (Q b) (wa (Qo b 1) (wa (Qo b 1) (wn (bn N fun h z1 N=>?_)))))));obtain ⟨n3,b2,e3⟩:=Rel.open_place_Pen j z1 (tm n);refine vx (le1 1 u_3 (g.gon b2 0 rfl)) (wa (B (decide (a.1 < h.At.Row))) (wn ?_));obtain rfl:=si N;refine va (B (decide (a.1 < h.At.Row))) ?_;obtain rfl:=si y;exact va (B (decide (a.1 < h.At.Row))) (wln (jn i ⟨g,rfl⟩))
     obtain rfl:=anF t e0;refine vb t (pz (pz (pz (ps (wa (B false) ?_)))));obtain rfl:=si y;exact va (B false) (wln (jn i ⟨g,rfl⟩))
    rintro e_ w_ ⟨e1,z2,_,rfl,k2,rfl,P,rfl⟩;refine nrm (cn d (fun c2 d=>?_) (fun c2 d=>?_))
    ·refine W.region (vv (Q b) (va (Q b) (bn d fun m0 d2 d=>?_)));obtain ⟨o3,f2,e2⟩:=Rel.open_place_Pen (j.mono k2) d2 (tm n);refine vx (le1 0 eW (P.gon f2 0 rfl)) (va (I a.1) (bn d fun s0 g2 d=>cl (cU P j.m m0.G a.1 e2 g2) ?_));rintro p3 x2 j3 ⟨_,z0,rfl,i2⟩;refine bn d fun w2 j2 d=>cl (uq z0 j.m (hG.m.le (by decide)) s0 i2 j2) ?_;rintro q3 f1 k3 ⟨u0,a1,c1,rfl⟩;refine WL.nil (bkn (nrm ?_));obtain rfl:=si d;exact jn f1 ⟨u0,a1,rfl,c1⟩
    refine W.skip (bkn (nrm ?_));obtain rfl:=si d;exact jn e1 ⟨D,P,rfl,j.m⟩
   rintro e_ w_ ⟨g1,a3,_,rfl,l3,rfl,v0,b1,rfl,d1⟩;refine W.region (vv (I (w64 (a.1+1))) (WL.nil ?_));obtain rfl:=si w0;exact ⟨_,rfl,jn g1 ⟨v0,b1,rfl,d1⟩⟩
  refine W.exit (thx ?_);obtain rfl:=si H;exact ⟨_,rfl,rfl,jn i ⟨D,g,rfl,j⟩⟩
 ·exact jn R ⟨G4,x0,rfl,R6.m⟩
 rintro _ e_ w_ ⟨rfl,h1,b3,_,rfl,m3,rfl,f0,g0,rfl,h0⟩;refine bke ?_;obtain rfl:=si T;exact n0 (qq h1 ⟨f0,g0,h0,rfl⟩)
def fY (sg:Sto) (p0:Option Nat) (p1:aS):Option (Sto):=
 (p0).bind fun e=>
 (sg.place_Pen[e]?).bind fun a=>
 (bA sg a.G a.At.Row).bind fun c=>
 if (p1.Kind==2)=true then
 (ci sg a.G).bind fun f=>
 (bL sg a.G).bind fun g=>
 (jc p1.A p1.B f g).bind fun h=>
 (sg.set_place_Pen e (⟨a.G,h,a.Auto⟩:bi)).bind fun d=>
 some d
 else
 if (p1.Kind==3)=true then
 (lC sg p0 p1.A).bind fun i=>
 some i
 else
 if (p1.Kind==4)=true then
 (mC sg p0 p1.A).bind fun j=>
 some j
 else
 if (p1.Kind==5)=true then
 (jR sg c a.At.Col p1.A).bind fun k=>
 some k
 else
 if (p1.Kind==6)=true then
 (ka sg c a.At.Col p1.A).bind fun l=>
 some l
 else
 if (p1.Kind==7)=true then
 (kb sg c a.At.Col p1.A).bind fun m=>
 some m
 else
 if (p1.Kind==12)=true then
 (sg.set_place_Pen e (⟨a.G,a.At,p1.A != 0⟩:bi)).bind fun b=>
 some b
 else
 some sg
theorem xB (O0:Own c0 G F) (k:Rel c0 sg G) (hG:Gl [2,4] c0) (D:Option Nat) (b:aS) {r:Sto} (h2:Pt 2 c0 v1 D) (h4:Sl (RI .u8) c0 v3 b.Bytes) (H:fY sg D b=some r): Calls prog 123 #[v1,.agg #[I b.Kind,I b.A,I b.B,v3]] c0.w (aO c0 fun c v=>∃G_:Gm,Own c G_ (F)∧Rel c r G_∧v= .tuple #[]):=by
 unfold fY at H;refine en func123 rfl rfl (sr ?_);obtain ⟨a5,a6,a7,rfl⟩:=(h4).form;refine me (bx 38 [I b.Kind,I b.A,I b.B,.slice a5 a6 a7] O0) ?_;rintro v12 e4 q ⟨n,rfl,O9,i⟩;refine wln (W.seq (rD [] (Kp G []) O9 ?_));intro b2 s E;have e0:Kp G [] b2:=(Kp.nil E);refine ta 0 (v1) (bn H fun g4 n2 H=>?_);obtain ⟨a,rfl,x⟩:=((h2.mono (q.trans s))).get n2;refine ta 1 (Q a) (ta 2 (Q a) (bn H fun d o2 H=>?_));obtain ⟨v20,h,o⟩:=Rel.open_place_Pen (k.mono (q.trans s)) o2 x;refine tkx 3 e0 (fun l f j=>le1 0 eW (j.gon h 0 rfl)) (ta 4 (Q a) (ta 5 (Q a) (ta 6 (Qo a 1) (ta 7 (Qo a 1) (tkx 8 e0 (fun l f j=>le1 1 u_3 (j.gon h 0 rfl)) (bn H fun p p2 H=>o1 9 (gc 9 (cU E k.m d.G d.At.Row o p2) ?_)))))));rintro v24 U t ⟨_,g,rfl,y⟩;have d3:Kp G [] U:=(Kp.nil g);refine ⟨.inr d3,ta 10 (v24) (dn (nrm (sr (va (Q n) (vx (l1 u_3 ((mm i) 0 _ rfl)) (wln (W.block (sr (vv (B (b.Kind==2)) (wln (cn H (fun q2 H=>?_) (fun q2 H=>?_))))))))))))⟩
 ·refine rD [18] (Kp G []) g ?_;intro c2 X M;have f0:Kp G [] c2:=(Kp.nil M);refine ta 0 (Q a) (ta 1 (Qo n (0+1)) (tx 2 (fun l f=>l1 u_3 ((mm i) 1 _ rfl)) (ta 3 (Qo n (0+2)) (tx 4 (fun l f=>l1 u_3 ((mm i) 2 _ rfl)) (ta 5 (Q a) (ta 6 (Q a) (ta 7 (Q a) (tkx 8 f0 (fun l f j=>le1 0 eW (j.gon h 0 rfl)) (ta 10 (Q a) (ta 11 (Q a) (ta 12 (Q a) (tkx 13 f0 (fun l f j=>le1 0 eW (j.gon h 0 rfl)) (bn H fun f1 s2 H=>o1 9 (gc 9 (cL M k.m d.G o.m s2) ?_))))))))))))));rintro v43 d2 Z ⟨N,rfl⟩;have e3:Kp G [] d2:=(Kp.nil N);refine ⟨.inr e3,bn H fun g1 t2 H=>o1 14 (gc 14 (bH N k.m d.G o.m t2) ?_)⟩;rintro v51 e2 a0 ⟨P,rfl⟩;have f3:Kp G [] e2:=(Kp.nil P);refine ⟨.inr f3,bn H fun e u2 H=>o1 15 (gc 15 (rK P b.A b.B f1 g1 u2) ?_)⟩;rintro v59 f2 b0 ⟨R,rfl⟩;have g3:Kp G [] f2:=(Kp.nil R);refine ⟨.inr g3,ta 16 (Q a) (ta 17 (Qo a 1) (o1 18 (gD 18 (gB 29 1 [I e.Row,I e.Col,B e.Pending] [v20,I e.Row,I e.Col,B e.Pending,B d.Auto] 0 R h ⟨rfl,rfl,rfl,trivial⟩) ?_)))⟩;rintro g2 d0 n1;refine bn H fun h1 v2 H=>?_;obtain ⟨i1,q1,w1,f4,d4⟩:=Rel.put_place_Pen n1 (k.mono (q.trans (s.trans (t.trans (X.trans (Z.trans (a0.trans (b0.trans d0)))))))) (E':=[(Eb a 126 [v20,I e.Row,I e.Col,B e.Pending,B d.Auto])]) v2 ⟨a,v20,(tm x),rfl,(o.mono (t.trans (X.trans (Z.trans (a0.trans (b0.trans d0))))))⟩;refine ⟨.inl rfl,dn (bkn ?_)⟩;obtain rfl:=si H;exact n0 (qq g2 ⟨i1,q1,w1,rfl⟩)
 refine sr (vv (B (b.Kind==3)) (wln (cn H (fun w2 H=>?_) (fun w2 H=>?_))))
 ·refine W.region (va (Q a) (va (Qo n (0+1)) (vx (l1 u_3 ((mm i) 1 _ rfl)) (bn H fun y3 x2 H=>cl (ur g k.m (hG.m.le (by decide)) D b.A h2.m x2) ?_))));rintro n4 i2 i4 ⟨j1,s1,x1,rfl⟩;refine WL.nil (bkn ?_);obtain rfl:=si H;exact n0 (qq i2 ⟨j1,s1,x1,rfl⟩)
 refine sr (vv (B (b.Kind==4)) (wln (cn H (fun y2 H=>?_) (fun y2 H=>?_))))
 ·refine W.region (va (Q a) (va (Qo n (0+1)) (vx (l1 u_3 ((mm i) 1 _ rfl)) (bn H fun z3 z2 H=>cl (wg g k.m (hG.m.le (by decide)) D b.A h2.m z2) ?_))));rintro o4 j2 j4 ⟨k1,t1,y1,rfl⟩;refine WL.nil (bkn ?_);obtain rfl:=si H;exact n0 (qq j2 ⟨k1,t1,y1,rfl⟩)
 refine sr (vv (B (b.Kind==5)) (wln (cn H (fun a3 H=>?_) (fun a3 H=>?_))))
 ·refine rD [8] (Kp G []) g ?_;intro k2 k4 S;have h3:Kp G [] k2:=(Kp.nil S);refine ta 0 (v24) (ta 1 (Q a) (ta 2 (Q a) (ta 3 (Qo a 1) (ta 4 (Qo a 2) (tkx 5 h3 (fun l f j=>le1 2 u_3 (j.gon h 0 rfl)) (ta 6 (Qo n (0+1)) (tx 7 (fun l f=>l1 u_3 ((mm i) 1 _ rfl)) (bn H fun a4 b3 H=>o1 8 (gc 8 (we S k.m (hG.m.le (by decide)) p d.At.Col b.A y.m b3) ?_)))))))));rintro p4 l2 l4 ⟨m1,u1,z1,rfl⟩;refine ⟨.inl rfl,dn (bkn ?_)⟩;obtain rfl:=si H;exact n0 (qq l2 ⟨m1,u1,z1,rfl⟩)
 refine sr (vv (B (b.Kind==6)) (wln (cn H (fun c3 H=>?_) (fun c3 H=>?_))))
 ·refine rD [8] (Kp G []) g ?_;intro m2 m4 T;have i3:Kp G [] m2:=(Kp.nil T);refine ta 0 (v24) (ta 1 (Q a) (ta 2 (Q a) (ta 3 (Qo a 1) (ta 4 (Qo a 2) (tkx 5 i3 (fun l f j=>le1 2 u_3 (j.gon h 0 rfl)) (ta 6 (Qo n (0+1)) (tx 7 (fun l f=>l1 u_3 ((mm i) 1 _ rfl)) (bn H fun b4 x0 H=>o1 8 (gc 8 (vB T k.m (hG.m.le (by decide)) p d.At.Col b.A y.m x0) ?_)))))))));rintro w3 t0 s3 ⟨g0,j0,o0,rfl⟩;refine ⟨.inl rfl,dn (bkn ?_)⟩;obtain rfl:=si H;exact n0 (qq t0 ⟨g0,j0,o0,rfl⟩)
 refine sr (vv (B (b.Kind==7)) (wln (cn H (fun y0 H=>?_) (fun y0 H=>?_))))
 ·refine rD [8] (Kp G []) g ?_;intro u0 t3 u;have d1:Kp G [] u0:=(Kp.nil u);refine ta 0 (v24) (ta 1 (Q a) (ta 2 (Q a) (ta 3 (Qo a 1) (ta 4 (Qo a 2) (tkx 5 d1 (fun l f j=>le1 2 u_3 (j.gon h 0 rfl)) (ta 6 (Qo n (0+1)) (tx 7 (fun l f=>l1 u_3 ((mm i) 1 _ rfl)) (bn H fun c4 z0 H=>o1 8 (gc 8 (vC u k.m (hG.m.le (by decide)) p d.At.Col b.A y.m z0) ?_)))))))));rintro x3 v0 u3 ⟨h0,k0,q0,rfl⟩;refine ⟨.inl rfl,dn (bkn ?_)⟩;obtain rfl:=si H;exact n0 (qq v0 ⟨h0,k0,q0,rfl⟩)
 refine sr (vv (B (b.Kind==12)) (wln (cn H (fun a1 H=>?_) (fun a1 H=>?_))))
 ·refine W.region (va (Q a) (va (Qo n (0+1)) (vx (l1 u_3 ((mm i) 1 _ rfl)) (va (B (b.A != 0)) (va (Q a) (va (Qo a 4) (md (gC 4 4 (B (b.A != 0)) [v20,I d.At.Row,I d.At.Col,B d.At.Pending,B (b.A != 0)] 0 g h ⟨rfl,trivial⟩) ?_)))))));rintro w0 z l0;refine bn H fun e1 b1 H=>?_;obtain ⟨i0,m0,s0,p3,l3⟩:=Rel.put_place_Pen l0 (k.mono (q.trans (s.trans (t.trans z)))) (E':=[(Eb a 126 [v20,I d.At.Row,I d.At.Col,B d.At.Pending,B (b.A != 0)])]) b1 ⟨a,v20,(tm x),rfl,(o.mono (t.trans z))⟩;refine WL.nil (bkn ?_);obtain rfl:=si H;exact n0 (qq w0 ⟨i0,m0,s0,rfl⟩)
 refine W.skip (bkn ?_);obtain rfl:=si H;exact n0 (qq U ⟨G,g,k.m,rfl⟩)
def ox (sg:Sto) (p0:Option Nat) (p1:aS):Option (Sto×Er):=
 (kG p1).bind fun g=>
 if (!g.isNil)=true then
 some (sg,g)
 else
 (orE p0.isNone ((p0).bind fun i=>
 (sg.place_Pen[i]?).bind fun j=>
 some j.G.isNone)).bind fun h=>
 if h=true then
 some (sg,Er.nil)
 else
 (p0).bind fun d=>
 (sg.place_Pen[d]?).bind fun b=>
 (ci sg b.G).bind fun k=>
 (bL sg b.G).bind fun l=>
 (fZ b.At k l).bind fun e=>
 (sg.set_place_Pen d (⟨b.G,e,b.Auto⟩:bi)).bind fun f=>
 (f.set_place_Pen d (⟨b.G,(⟨e.Row,e.Col,false⟩:ai),b.Auto⟩:bi)).bind fun a=>
 (if (p1.Kind==8)=true then
 (iX a p0 p1).bind fun c=>
 some (c)
 else
 if (p1.Kind==9)=true then
 (iX a p0 p1).bind fun c=>
 some (c)
 else
 (if (p1.Kind==10)=true then
 some (p1.Kind==10)
 else
 some (p1.Kind==11)).bind fun o=>
 if o=true then
 (iX a p0 p1).bind fun c=>
 some (c)
 else
 (fY a p0 p1).bind fun m=>
 some (m)).bind fun n=>
 some (n,Er.nil)
theorem BK (O0:Own c0 G F) (t:Rel c0 sg G) (hG:Gl [2,4] c0) (s:Option Nat) (e:aS) {r:Sto×Er} (u:Pt 2 c0 v1 s) (P:Sl (RI .u8) c0 v3 e.Bytes) (H:ox sg s e=some r): Calls prog 76 #[v1,.agg #[I e.Kind,I e.A,I e.B,v3]] c0.w (aO c0 fun c v=>∃y1,∃G_:Gm,Own c G_ (F)∧Rel c r.1 G_∧v=y1∧RE 350 144 c y1 r.2):=by
 unfold ox at H;refine en func76 rfl rfl (sr ?_);obtain ⟨a5,a6,a7,rfl⟩:=(P).form;refine me (bx 38 [I e.Kind,I e.A,I e.B,.slice a5 a6 a7] O0) ?_;rintro v12 w4 p ⟨b8,rfl,O9,k⟩;refine va (.nilIface) (wln (W.seq (sr (vx (lN 38 k) (bn H fun x3 z2 H=>cl (tj O9 (hG.m.le (by decide)) e P.m z2) ?_)))));rintro v14 D q ⟨_,x,rfl,o0⟩;refine va (v14) (wln (sr (va (v14) (vr (B (!x3.isNil)) (by rcases (o0).cs with ⟨h,i⟩ | ⟨b_,h,i⟩ | ⟨b_,h,i⟩ <;> (subst h; rw [i]; kernel_rfl)) (wln (cn H (fun a3 H=>?_) (fun a3 H=>?_)))))))
 ·refine sr (vv (v14) (wln (W.ret (thr ?_))));obtain rfl:=si H;exact r1 (qq D ⟨v14,G,x,t.m,rfl,o0⟩)
 refine W.skip (nrm (W.seq (W.seq (bn H fun n1 q0 H=>W.join (Jn D fun c l=>Own c G (F)∧l= [(0,v1),(3,Q b8),(19,B n1)]) ?_ ?_))))
 ·clear H;refine W.region (va (v1) (vr (B s.isNone) (by rcases u.m.cs with ⟨h,i⟩ | ⟨b_,h,i⟩ <;> (subst h; rw [i]; kernel_rfl)) ?_));rcases bo (s.isNone) with o | o
  ·obtain rfl:=orT o q0;exact vb o (pz (pz (ps (va (B true) (wln (jn D ⟨x,rfl⟩))))))
  have n:=orF o q0;refine vb o (wa (v1) (wn (bn n fun i4 c3 n=>?_)));obtain ⟨m0,rfl,b3⟩:=((u.mono (p.trans q))).get c3;refine va (Q m0) (wa (Q m0) (wn (bn n fun e0 d3 n=>?_)));obtain ⟨v30,f3,e3⟩:=Rel.open_place_Pen (t.mono (p.trans q)) d3 b3;refine vx (le1 0 eW (x.gon f3 0 rfl)) (wn (vr (B e0.G.isNone) (by rcases (e3).cs with ⟨h,i⟩ | ⟨b_,h,i⟩ <;> (subst h; rw [i]; kernel_rfl)) ?_));obtain rfl:=si n;exact va (B e0.G.isNone) (wln (jn D ⟨x,rfl⟩))
 rintro e_ w_ ⟨s2,y4,_,rfl,U,rfl,h0,rfl⟩;refine nrm (cn H (fun g3 H=>?_) (fun g3 H=>?_))
 ·refine sr (va (.nilIface) (wln (W.ret (thr ?_))));obtain rfl:=si H;exact r1 (qq s2 ⟨.nilIface,G,h0,t.m,rfl,rfl⟩)
 refine W.skip (nrm (W.seq (rD [18] (Kp G []) h0 ?_)));intro t2 X i0;have f0:Kp G [] t2:=(Kp.nil i0);refine ta 0 (v1) (ta 1 (v1) (bn H fun j4 h3 H=>?_));obtain ⟨a,rfl,S⟩:=((u.mono (p.trans (q.trans (U.trans X))))).get h3;refine ta 2 (Q a) (ta 3 (Qo a 1) (bn H fun d i3 H=>?_));obtain ⟨v47,N,M⟩:=Rel.open_place_Pen (t.mono (p.trans (q.trans (U.trans X)))) i3 S;refine tkx 4 f0 (fun c' s0 T=>leN 29 1 [I d.At.Row,I d.At.Col,B d.At.Pending] (T.gon N 0 rfl)) (ta 5 (Q a) (ta 6 (Q a) (ta 7 (Q a) (tkx 8 f0 (fun c' s0 T=>le1 0 eW (T.gon N 0 rfl)) (ta 10 (Q a) (ta 11 (Q a) (ta 12 (Q a) (tkx 13 f0 (fun c' s0 T=>le1 0 eW (T.gon N 0 rfl)) (bn H fun z1 j3 H=>o1 9 (gc 9 (cL i0 t.m d.G M j3) ?_))))))))));rintro v56 u2 Z ⟨j0,rfl⟩;have s3:Kp G [] u2:=(Kp.nil j0);refine ⟨.inr s3,bn H fun b2 k3 H=>o1 14 (gc 14 (bH j0 t.m d.G M.m k3) ?_)⟩;rintro c5 v2 a0 ⟨k0,rfl⟩;have t3:Kp G [] v2:=(Kp.nil k0);refine ⟨.inr t3,bn H fun b l3 H=>o1 15 (gc 15 (ey k0 d.At z1 b2 l3) ?_)⟩;rintro d5 w2 b0 ⟨l0,rfl⟩;have u3:Kp G [] w2:=(Kp.nil l0);refine ⟨.inr u3,ta 16 (Q a) (ta 17 (Qo a 1) (o1 18 (gD 18 (gB 29 1 [I b.Row,I b.Col,B b.Pending] [v47,I b.Row,I b.Col,B b.Pending,B d.Auto] 0 l0 N ⟨rfl,rfl,rfl,trivial⟩) ?_)))⟩;rintro x4 d0 k2;refine bn H fun e2 n3 H=>?_;obtain ⟨t4,l2,o2,m3,u4⟩:=Rel.put_place_Pen k2 (t.mono (p.trans (q.trans (U.trans (X.trans (Z.trans (a0.trans (b0.trans d0)))))))) (E':=[(Eb a 126 [v47,I b.Row,I b.Col,B b.Pending,B d.Auto])]) n3 ⟨a,v47,(tm S),rfl,(M.mono (Z.trans (a0.trans (b0.trans d0))))⟩;refine ⟨.inl rfl,dn (nrm (sr (vv (Q a) (va (Qo a 1) (va (Qo a 3) (md (gC 4 3 (B false) [v47,I b.Row,I b.Col,B false,B d.Auto] 0 l2 m3 ⟨rfl,trivial⟩) ?_))))))⟩;rintro E t0 m2;refine bn H fun f2 o3 H=>?_;obtain ⟨g2,y,z,z4,v4⟩:=Rel.put_place_Pen m2 (o2.mono t0) (E':=[(Eb a 126 [v47,I b.Row,I b.Col,B false,B d.Auto])]) o3 ⟨a,v47,(tm S),rfl,(M.mono (Z.trans (a0.trans (b0.trans (d0.trans t0)))))⟩;refine wln (bn H fun c2 f j2=>W.seqJ (Jn E fun c l=>∃G_,Own c G_ (F)∧l= []∧Rel c c2 G_) ?_ ?_)
 ·refine sr (va (Q b8) (vx (l1 u_3 ((mm k) 0 _ rfl)) (wln (W.block (W.seq (W.block (W.seq (W.block (W.block (W.block (W.seq (W.seq (sr (vv (B (e.Kind==8)) (wln (cn f (fun p3 f=>?_) (fun p3 f=>?_)))))))))))))))))
  ·refine W.exit (thx (thx (bke (bkn (bkn (nrm (sr (va (Q a) (vx (lN 38 (mm k)) (bn f fun g0 q3 f=>cl (qJ y z s e u.m P.m q3) ?_))))))))));rintro e5 x2 b5 ⟨i2,n2,p2,rfl⟩;refine wln (W.exit (bko rfl (thx (bke (nrm ?_)))));obtain rfl:=si f;exact jn x2 ⟨i2,n2,rfl,p2⟩
  refine W.skip (nrm (W.seq (sr (vv (B (e.Kind==9)) (wln (cn f (fun q1 f=>?_) (fun q1 f=>?_)))))))
  ·refine W.exit (thx (thx (bko rfl (bke (bkn (nrm (sr (va (Q a) (vx (lN 38 (mm k)) (bn f fun g0 s1 f=>cl (qJ y z s e u.m P.m s1) ?_))))))))));rintro p4 i1 k4 ⟨u0,y0,c1,rfl⟩;refine wln (W.exit (bko rfl (thx (bke (nrm ?_)))));obtain rfl:=si f;exact jn i1 ⟨u0,y0,rfl,c1⟩
  refine W.skip (nrm (bn f fun d2 j g=>W.seqJ (Jn E fun c l=>Own c g2 (F)∧l= [(0,Q a),(3,Q b8),(48,B d2)]) ?_ ?_))
  ·refine sr (vv (B (e.Kind==10)) (wln (cn j (fun t1 j=>?_) (fun t1 j=>?_))))
   ·refine W.skip (nrm ?_);obtain rfl:=si j;exact jn E ⟨y,rfl⟩
   refine W.region (vv (B (e.Kind==11)) (wln ?_));obtain rfl:=si j;exact jn E ⟨y,rfl⟩
  rintro e_ w_ ⟨e4,f4,_,rfl,l4,rfl,R,rfl⟩;refine cn g (fun u1 g=>?_) (fun u1 g=>?_)
  ·refine W.exit (thx (bko rfl (bko rfl (bke (nrm (sr (va (Q a) (vx (lN 38 (mm k)) (bn g fun g0 w1 g=>cl (qJ R z.m s e u.m P.m w1) ?_)))))))));rintro q4 j1 m4 ⟨v0,z0,d1,rfl⟩;refine wln (W.exit (bko rfl (thx (bke (nrm ?_)))));obtain rfl:=si g;exact jn j1 ⟨v0,z0,rfl,d1⟩
  refine W.skip (nrm (W.exit (bko rfl (bko rfl (bko rfl (thx (bke (nrm (sr (va (Q a) (vx (lN 38 (mm k)) (bn g fun s4 x1 g=>cl (xB R z.m (hG.m.le (by decide)) s e u.m P.m x1) ?_))))))))))));rintro r4 k1 n4 ⟨w0,a1,e1,rfl⟩;refine wln (W.exit (bke (nrm ?_)));obtain rfl:=si g;exact jn k1 ⟨w0,a1,rfl,e1⟩
 rintro e_ w_ ⟨m1,g4,_,rfl,o4,rfl,x0,b1,rfl,f1⟩;refine sr (va (.nilIface) (wln (W.ret ?_)));obtain rfl:=si j2;exact r1 (qq m1 ⟨.nilIface,x0,b1,f1,rfl,rfl⟩)
def fy (p0:aS):Option (Int):=
 (orE (decide (p0.Kind < 2)) (some (decide (p0.Kind > 12)))).bind fun d=>
 if d=true then
 some 5
 else
 (orE (p0.Kind==3) (some (p0.Kind==4))).bind fun a=>
 (bV a ((orE (decide (p0.A < 0)) (some (decide (p0.A > 2)))).bind fun c=>
 some c)).bind fun b=>
 if b=true then
 some 3
 else
 some 0
theorem pF (Z:Own c0 G F) (a:aS) {r:Int} (h2:Sl (RI .u8) c0 v1 a.Bytes) (H:fy a=some r): Calls prog 15 #[.agg #[I a.Kind,I a.A,I a.B,v1]] c0.w (aO c0 fun c v=>Own c G (F)∧v=I r):=by
 unfold fy at H;refine en func15 rfl rfl (sr ?_);obtain ⟨a3,a4,a5,rfl⟩:=(h2).form;refine me (bx 38 [I a.Kind,I a.A,I a.B,.slice a3 a4 a5] Z) ?_;rintro v10 z l9 ⟨e,rfl,S,k⟩;refine va (I 0) (wln (W.seq (W.seq (bn H fun T s H=>W.join (Jn z fun c l=>Own c G (F)∧l= [(1,Q e),(10,B T)]) ?_ ?_))))
 ·clear H;refine W.region (va (Q e) (vx (l1 u_3 (k 0 _ rfl)) (va (B (decide (a.Kind < 2))) ?_)));rcases bo (decide (a.Kind < 2)) with f | f
  ·obtain rfl:=orT f s;exact vb f (pz (ps (va (B true) (wln (jn z ⟨S,rfl⟩)))))
  have M:=orF f s;refine vb f (wa (Q e) (wn (vx (l1 u_3 (k 0 _ rfl)) (wa (B (decide (a.Kind > 12))) ?_))));obtain rfl:=si M;exact va (B (decide (a.Kind > 12))) (wln (jn z ⟨S,rfl⟩))
 rintro e_ w_ ⟨b,i0,_,rfl,k0,rfl,d,rfl⟩;refine nrm (cn H (fun U H=>?_) (fun U H=>?_))
 ·refine sr (va (I 5) (wln (W.ret (thr ?_))));obtain rfl:=si H;exact r1 (qq b ⟨d,rfl⟩)
 refine W.skip (nrm (W.seq (W.seq (bn H fun e0 t H=>bn H fun D o H=>W.join (Jn b fun c l=>Own c G (F)∧l= [(28,B D)]) ?_ ?_))))
 ·clear H;refine W.region (va (Q e) (vx (l1 u_3 ((mm k) 0 _ rfl)) (va (B (a.Kind==3)) ?_)));rcases bo (a.Kind==3) with g | g
  ·obtain rfl:=orT g t;refine vb g (pz (ps (va (B true) ?_)));have u:true=true:=rfl;have m:=anT u o;refine vb u (wa (Qo e (0+1)) (wn (vx (l1 u_3 ((mm k) 1 _ rfl)) (wa (B (decide (a.A < 0))) (wn (bn m fun E x m=>?_))))));rcases bo (decide (a.A < 0)) with h | h
   ·obtain rfl:=orT h x;refine vb h (pz (ps (wa (B true) ?_)));obtain rfl:=si m;exact va (B true) (wln (jn b ⟨d,rfl⟩))
   have N:=orF h x;refine vb h (wa (Qo e (0+1)) (wn (vx (l1 u_3 ((mm k) 1 _ rfl)) (wa (B (decide (a.A > 2))) (wn ?_)))));obtain rfl:=si N;refine va (B (decide (a.A > 2))) ?_;obtain rfl:=si m;exact va (B (decide (a.A > 2))) (wln (jn b ⟨d,rfl⟩))
  have P:=orF g t;refine vb g (wa (Q e) (wn (vx (l1 u_3 ((mm k) 0 _ rfl)) (wa (B (a.Kind==4)) ?_))));obtain rfl:=si P;refine va (B (a.Kind==4)) ?_;rcases bo (a.Kind==4) with i | i
  ·have n:=anT i o;refine vb i (wa (Qo e (0+1)) (wn (vx (l1 u_3 ((mm k) 1 _ rfl)) (wa (B (decide (a.A < 0))) (wn (bn n fun E y n=>?_))))));rcases bo (decide (a.A < 0)) with j | j
   ·obtain rfl:=orT j y;refine vb j (pz (ps (wa (B true) ?_)));obtain rfl:=si n;exact va (B true) (wln (jn b ⟨d,rfl⟩))
   have R:=orF j y;refine vb j (wa (Qo e (0+1)) (wn (vx (l1 u_3 ((mm k) 1 _ rfl)) (wa (B (decide (a.A > 2))) (wn ?_)))));obtain rfl:=si R;refine va (B (decide (a.A > 2))) ?_;obtain rfl:=si n;exact va (B (decide (a.A > 2))) (wln (jn b ⟨d,rfl⟩))
  obtain rfl:=anF i o;exact vb i (pz (pz (pz (pz (va (B false) (wln (jn b ⟨d,rfl⟩)))))))
 rintro e_ w_ ⟨q,j0,_,rfl,l0,rfl,p,rfl⟩;refine nrm (cn H (fun X H=>?_) (fun X H=>?_))
 ·refine sr (va (I 3) (wln (W.ret (thr ?_))));obtain rfl:=si H;exact r1 (qq q ⟨p,rfl⟩)
 refine W.skip (nrm (sr (va (I 0) (wln (W.ret ?_)))));obtain rfl:=si H;exact r1 (qq q ⟨p,rfl⟩)
def cS (p0:aa) (p1:Int) (p2:Int) (p3:Int) (p4:Int):Option (aa):=
 (idx p0.L p1).bind fun d=>
 (idx p0.L p1).bind fun b=>
 (gF d.Cells b.Wrap p2 p3 p4).bind fun a=>
 (ce p0 p1 (⟨a.1,a.2⟩:ak)).bind fun c=>
 some c
theorem kO (O0:Own c0 G F) (d:aa) (f:Int) (q:Int) (s:Int) (t:Int) {r:aa} (g:Sl an c0 v1 d.L) (H:cS d f q s t=some r): Calls prog 141 #[.agg #[v1,I d.At.Row,I d.At.Col,B d.At.Pending,B d.Auto],I f,I q,I s,I t] c0.w (aO c0 fun c v=>∃P y2,Own c G (es true an P 48 y2 r.L :: F)∧v= .agg #[P,I r.At.Row,I r.At.Col,B r.At.Pending,B r.Auto]∧OA an c P y2 r.L):=by
 unfold cS at H;refine en func141 rfl rfl (sr ?_);obtain ⟨h,i,j,rfl⟩:=(g).form;refine me (bx 31 [.slice h i j,I d.At.Row,I d.At.Col,B d.At.Pending,B d.Auto] O0) ?_;rintro v10 c9 l9 ⟨b6,rfl,O7,M⟩;refine me (al 31 [Y,I 0,I 0,B false,B false] O7) ?_;rintro v14 a1 D ⟨z0,rfl,R⟩;refine wln (W.seq (rD [] (Kp G0 []) R ?_));intro e0 E S;have g1:Kp G0 [] e0:=Kp.nil0;refine ta 0 (Q b6) (tx 1 (fun o e=>l1 gX ((mm M) 0 _ rfl)) (ta 2 (I f) (bn H fun t0 y H=>?_)));obtain ⟨x0,g0,m0⟩:=Sl.at (g.mono (l9.trans (D.trans E))) (aX y);obtain ⟨v22,rfl,h0⟩:=g0;refine tx 3 (fun o e=>ix gX g.m y) (ta 4 (Qo (sb (.slice h i j)) (so (.slice h i j)+f.toNat * 2)) (tx 5 (fun o e=>l1 cG ((mm m0) 0 _ rfl)) (ta 6 (Q b6) (tx 7 (fun o e=>l1 gX ((mm M) 0 _ rfl)) (ta 8 (I f) (bn H fun N z H=>?_))))));obtain ⟨y0,i0,o0⟩:=Sl.at (g.mono (l9.trans (D.trans E))) (aX z);obtain ⟨v28,rfl,c1⟩:=i0;refine tx 9 (fun o e=>ix gX g.m z) (ta 10 (Qo (sb (.slice h i j)) (so (.slice h i j)+f.toNat * 2+1)) (tx 11 (fun o e=>l1 u_4 ((mm o0) 1 _ rfl)) (ta 12 (I q) (ta 13 (I s) (ta 14 (I t) (bn H fun b j0 H=>o1 15 (gc 15 (rm S t0.Cells N.Wrap q s t h0 j0) ?_)))))));rintro v38 f0 d1 ⟨v31,T,rfl,A⟩;have q0:Kp G0 [] f0:=Kp.nil0;refine ⟨.inr q0,ta 16 (.tuple #[v31,B b.2]) (ta 17 (v31) (ta 18 (B b.2) (ta 19 (v31) (ta 20 (B b.2) (dn (nrm (sr (vx (lN 31 (mm M)) (va (I f) (va (v31) (va (B b.2) ?_)))))))))))⟩;obtain ⟨Z,a0,b0,rfl⟩:=(A).form;refine va (.agg #[.slice Z a0 b0,B b.2]) (bn H fun a k0 H=>cl (ga T d f (⟨b.1,b.2⟩:ak) g.m A k0) ?_);rintro v52 b1 e1 ⟨v44,s0,U,rfl,p⟩;obtain ⟨k,l,n,rfl⟩:=(p).form;refine md (sA 31 [.slice k l n,I a.At.Row,I a.At.Col,B a.At.Pending,B a.Auto] 1 U ⟨(p).one,rfl,rfl,rfl,rfl,trivial⟩) ?_;rintro x f1 u;refine wln (W.ret ?_);obtain rfl:=si H;have X:=u.sD 2 [0];exact kE (c:=x) (vs:=[.slice k l n,I a.At.Row,I a.At.Col,B a.At.Pending,B a.Auto]) rfl (by kernel_rfl) (by kernel_rfl) (by kernel_rfl) (u.on 1 rfl _ rfl).1 ⟨_,x,rfl,rfl,pt,(.slice k l n),s0,X,rfl,p.m⟩
def fw (p0:aa) (p1:Int) (p2:Int):Option (aa):=
 (idx ([2,1,3]:List Int) p2).bind fun k=>
 (cS p0 p0.At.Row k p0.At.Col 0).bind fun b=>
 (cM (σ:=Int×(List ak)×Int×Int×Bool×Bool) (τ:=((List ak)×Int×Int×Bool×Bool)) (((b.L.length:Int) - 0).toNat+1) (fun a=>
 (bV (decide (a.1 < (a.2.1.length:Int))) (some (p1==4))).bind fun f=>
 if f=true then
 ((orE (p2==2) ((bV (p2==0) (some (decide (a.1 > a.2.2.1)))).bind fun h=>
 some h)).bind fun g=>
 (orE g ((bV (p2==1) (some (decide (a.1 < a.2.2.1)))).bind fun j=>
 some j)).bind fun i=>
 if i=true then
 (cS (⟨a.2.1,(⟨a.2.2.1,a.2.2.2.1,a.2.2.2.2.1⟩:ai),a.2.2.2.2.2⟩:aa) a.1 3 0 0).bind fun d=>
 some (d.L,d.At.Row,d.At.Col,d.At.Pending,d.Auto)
 else
 some (a.2.1,a.2.2.1,a.2.2.2.1,a.2.2.2.2.1,a.2.2.2.2.2)).bind fun e=>
 some (.inl ((w64 (a.1+1)),e.1,e.2.1,e.2.2.1,e.2.2.2.1,e.2.2.2.2))
 else
 some (.inr (a.2.1,a.2.2.1,a.2.2.2.1,a.2.2.2.2.1,a.2.2.2.2.2))) (0,b.L,b.At.Row,b.At.Col,b.At.Pending,b.Auto)).bind fun c=>
 some (⟨c.1,(⟨c.2.1,c.2.2.1,c.2.2.2.1⟩:ai),c.2.2.2.2⟩:aa)
theorem pE (O0:Own c0 G F) (b:aa) (t:Int) (g:Int) {r:aa} (h2:Sl an c0 v1 b.L) (H:fw b t g=some r): Calls prog 140 #[.agg #[v1,I b.At.Row,I b.At.Col,B b.At.Pending,B b.Auto],I t,I g] c0.w (aO c0 fun c v=>∃y1 y2,Own c G (es true an y1 48 y2 r.L :: F)∧v= .agg #[y1,I r.At.Row,I r.At.Col,B r.At.Pending,B r.Auto]∧OA an c y1 y2 r.L):=by
 unfold fw at H;refine en func140 rfl rfl (sr ?_);obtain ⟨a3,a4,a5,rfl⟩:=(h2).form;refine me (al 31 [.slice a3 a4 a5,I b.At.Row,I b.At.Col,B b.At.Pending,B b.Auto] O0) ?_;rintro v9 c8 l8 ⟨f,rfl,O7⟩;refine me (al 31 [Y,I 0,I 0,B false,B false] O7) ?_;rintro v13 n4 t4 ⟨n,rfl,w2⟩;refine wln (sr (me (sl (RI .i64) 3 [[I 2],[I 1],[I 3]] ([2,1,3]:List Int) w2 ⟨rfl,rfl,rfl,trivial⟩) ?_));rintro v18 o4 u4 ⟨q,x2,b1⟩;refine va (v18) (wln (W.seq (rD [12] (Kp G0 [(Eb f 31 [.slice a3 a4 a5,I b.At.Row,I b.At.Col,B b.At.Pending,B b.Auto]),es true (RI .i64) v18 3 q ([2,1,3]:List Int)]) x2 ?_)));intro c3 o3 l0;have g0:Kp G0 [(Eb f 31 [.slice a3 a4 a5,I b.At.Row,I b.At.Col,B b.At.Pending,B b.Auto]),es true (RI .i64) v18 3 q ([2,1,3]:List Int)] c3:=(Kp.cons (l0.on 2 rfl) (Kp.cons (l0.on 0 rfl) Kp.nil0));refine tkx 0 g0 (fun c' f0 X=>leN 31 0 [.slice a3 a4 a5,I b.At.Row,I b.At.Col,B b.At.Pending,B b.Auto] (X.on 0 rfl)) (ta 1 (Qo f 1) (ta 2 (Qo f 1) (tkx 3 g0 (fun c' f0 X=>le1 1 u_3 (X.on 0 rfl)) (ta 4 (v18) (ta 5 (I g) (bn H fun e1 c1 H=>tx 6 (fun c' f0=>ixO rP b1.m c1) ?_))))));obtain ⟨l4,h3,s3⟩:=OA.at (b1.mono o3) c1;obtain rfl:=h3;refine AC.takeK 7 (I e1) g0 rfl (by kernel_rfl) (by kernel_rfl) (by kernel_rfl) (fun c' f0 X=>(rx (by kernel_rfl) (mu u_3 rfl (X.on 1 rfl) (b1.m.blk c1) (at1 (j:=0) s3 rfl)))) (ta 8 (Qo f 1) (ta 9 (Qo f 2) (tkx 10 g0 (fun c' f0 X=>le1 2 u_3 (X.on 0 rfl)) (bn H fun u i3 H=>o1 11 (gc 11 (kO l0 b b.At.Row e1 b.At.Col 0 h2.m i3) ?_)))));rintro v35 d3 v4 ⟨v27,u3,m0,rfl,d1⟩;have t3:Kp G0 [(Eb f 31 [.slice a3 a4 a5,I b.At.Row,I b.At.Col,B b.At.Pending,B b.Auto]),es true (RI .i64) v18 3 q ([2,1,3]:List Int)] d3:=(Kp.cons (m0.on 3 rfl) (Kp.cons (m0.on 1 rfl) Kp.nil0));refine ⟨.inr t3,?_⟩;obtain ⟨j1,k1,m1,rfl⟩:=(d1).form;refine o1 12 (gD 12 (sA 31 [.slice j1 k1 m1,I u.At.Row,I u.At.Col,B u.At.Pending,B u.Auto] 3 m0 ⟨(d1).one,rfl,rfl,rfl,rfl,trivial⟩) ?_);rintro z0 w4 z2;refine ⟨.inl rfl,dn (nrm (W.seq (sr (va (I 0) (wln (W.block (bn H fun d n1 i1=>lp n1 (fun a=>Jn z0 fun c l=>∃v44 s,Own c G (es true an v44 48 s a.2.1 :: es true (RI .i64) v18 3 q ([2,1,3]:List Int) :: (Eb n 31 [Y,I 0,I 0,B false,B false]) :: (Eb f 31 [v44,I a.2.2.1,I a.2.2.2.1,B a.2.2.2.2.1,B a.2.2.2.2.2]) :: F)∧l= [(1,I t),(2,I g),(3,Q f),(6,Q n),(8,I a.1)]∧OA an c v44 s a.2.1) (fun i ex e w=>ex= .exit 0∧(Jn z0 fun c l=>∃v46 h0,Own c G (es true an v46 48 h0 i.1 :: es true (RI .i64) v18 3 q ([2,1,3]:List Int) :: (Eb n 31 [Y,I 0,I 0,B false,B false]) :: (Eb f 31 [v46,I i.2.1,I i.2.2.1,B i.2.2.2.1,B i.2.2.2.2]) :: F)∧l= [(3,Q f),(6,Q n)]∧OA an c v46 h0 i.1) e w) ?_ ?_ ?_)))))))⟩
 ·clear i1 n1;intro a b5 f3 v3 H;revert f3 v3;rintro e_ w_ ⟨a1,q4,_,rfl,x4,rfl,v44,s,o0,rfl,d0⟩;refine W.seq (W.seq (bn H fun j2 q1 H=>W.join (Jn a1 fun c l=>Own c G (es true an v44 48 s a.2.1 :: es true (RI .i64) v18 3 q ([2,1,3]:List Int) :: (Eb n 31 [Y,I 0,I 0,B false,B false]) :: (Eb f 31 [v44,I a.2.2.1,I a.2.2.2.1,B a.2.2.2.2.1,B a.2.2.2.2.2]) :: F)∧l= [(1,I t),(2,I g),(3,Q f),(6,Q n),(8,I a.1),(30,B j2)]) ?_ ?_))
  ·clear H;refine W.region (va (I a.1) (va (Q f) (vx (le1 0 gX (o0.on 3 rfl)) (vx (lnO 3 gX d0) (va (B (decide (a.1 < (a.2.1.length:Int)))) ?_)))));rcases bo (decide (a.1 < (a.2.1.length:Int))) with y | y
   ·have q2:=anT y q1;refine vb y (wa (I t) (wa (B (t==4)) ?_));obtain rfl:=si q2;exact va (B (t==4)) (wln (jn a1 ⟨o0,rfl⟩))
   obtain rfl:=anF y q1;exact vb y (pz (va (B false) (wln (jn a1 ⟨o0,rfl⟩))))
  rintro e_ w_ ⟨o,r4,_,rfl,p3,rfl,k,rfl⟩;refine nrm (cn H (fun j3 H=>?_) (fun j3 H=>?_))
  ·refine W.skip (nrm (bn H fun p h s2=>W.seqJ (Jn o fun c l=>∃N i0,Own c G (es true an N 48 i0 p.1 :: es true (RI .i64) v18 3 q ([2,1,3]:List Int) :: (Eb n 31 [Y,I 0,I 0,B false,B false]) :: (Eb f 31 [N,I p.2.1,I p.2.2.1,B p.2.2.2.1,B p.2.2.2.2]) :: F)∧l= [(1,I t),(2,I g),(3,Q f),(6,Q n),(8,I a.1)]∧OA an c N i0 p.1) ?_ ?_))
   ·refine W.block (W.seq (bn h fun c4 s1 h=>bn h fun k2 e0 h=>W.join (Jn o fun c l=>Own c G (es true an v44 48 s a.2.1 :: es true (RI .i64) v18 3 q ([2,1,3]:List Int) :: (Eb n 31 [Y,I 0,I 0,B false,B false]) :: (Eb f 31 [v44,I a.2.2.1,I a.2.2.2.1,B a.2.2.2.2.1,B a.2.2.2.2.2]) :: F)∧l= [(1,I t),(2,I g),(3,Q f),(6,Q n),(8,I a.1),(56,B k2)]) ?_ ?_))
    ·clear h;refine W.region (va (I g) (va (B (g==2)) ?_));rcases bo (g==2) with z | z
     ·obtain rfl:=orT z s1;refine vb z (pz (pz (pz (pz (ps (va (B true) ?_))))));have t1:true=true:=rfl;obtain rfl:=orT t1 e0;exact vb t1 (pz (pz (pz (pz (ps (va (B true) (wln (jn o ⟨k,rfl⟩))))))))
     have Z:=orF z s1;refine vb z (wa (I g) (wa (B (g==0)) (wn (bn Z fun d4 u1 Z=>?_))));rcases bo (g==0) with A | A
     ·have t2:=anT A u1;refine vb A (wa (I a.1) (wa (Qo f 1) (wa (Qo f 1) (wn (vx (le1 1 u_3 (k.on 3 rfl)) (wa (B (decide (a.1 > a.2.2.1))) (wn ?_)))))));obtain rfl:=si t2;refine va (B (decide (a.1 > a.2.2.1))) ?_;obtain rfl:=si Z;refine va (B (decide (a.1 > a.2.2.1))) ?_;rcases bo (decide (a.1 > a.2.2.1)) with D | D
      ·obtain rfl:=orT D e0;exact vb D (pz (pz (pz (pz (ps (va (B true) (wln (jn o ⟨k,rfl⟩))))))))
      have a0:=orF D e0;refine vb D (wa (I g) (wa (B (g==1)) (wn (bn a0 fun l2 w1 a0=>?_))));rcases bo (g==1) with E | E
      ·have u2:=anT E w1;refine vb E (wa (I a.1) (wa (Qo f 1) (wa (Qo f 1) (wn (vx (le1 1 u_3 (k.on 3 rfl)) (wa (B (decide (a.1 < a.2.2.1))) (wn ?_)))))));obtain rfl:=si u2;refine va (B (decide (a.1 < a.2.2.1))) ?_;obtain rfl:=si a0;exact va (B (decide (a.1 < a.2.2.1))) (wln (jn o ⟨k,rfl⟩))
      obtain rfl:=anF E w1;refine vb E (pz (pz (ps (wa (B false) ?_))));obtain rfl:=si a0;exact va (B false) (wln (jn o ⟨k,rfl⟩))
     obtain rfl:=anF A u1;refine vb A (pz (pz (ps (wa (B false) ?_))));obtain rfl:=si Z;refine va (B false) ?_;have x1:false=false:=rfl;have b0:=orF x1 e0;refine vb x1 (wa (I g) (wa (B (g==1)) (wn (bn b0 fun l2 z1 b0=>?_))));rcases bo (g==1) with M | M
     ·have v2:=anT M z1;refine vb M (wa (I a.1) (wa (Qo f 1) (wa (Qo f 1) (wn (vx (le1 1 u_3 (k.on 3 rfl)) (wa (B (decide (a.1 < a.2.2.1))) (wn ?_)))))));obtain rfl:=si v2;refine va (B (decide (a.1 < a.2.2.1))) ?_;obtain rfl:=si b0;exact va (B (decide (a.1 < a.2.2.1))) (wln (jn o ⟨k,rfl⟩))
     obtain rfl:=anF M z1;refine vb M (pz (pz (ps (wa (B false) ?_))));obtain rfl:=si b0;exact va (B false) (wln (jn o ⟨k,rfl⟩))
    rintro e_ w_ ⟨e3,s4,_,rfl,q3,rfl,q0,rfl⟩;refine nrm (cn h (fun k3 h=>?_) (fun k3 h=>?_))
    ·refine W.region (vx (leN 31 0 [v44,I a.2.2.1,I a.2.2.2.1,B a.2.2.2.2.1,B a.2.2.2.2.2] (q0.on 3 rfl)) (va (I a.1) ?_));obtain ⟨p4,m3,y4,b3,l3⟩:=q0.frz 0 rfl (d0.mono (p3.trans q3));refine WL.gh m3 (bn h fun x n3 h=>cl (kO b3 (⟨a.2.1,(⟨a.2.2.1,a.2.2.2.1,a.2.2.2.2.1⟩:ai),a.2.2.2.2.2⟩:aa) a.1 3 0 0 l3 n3) ?_);rintro m4 z3 g4 ⟨z4,n2,b2,rfl,T⟩;obtain ⟨s0,t0,u0,rfl⟩:=(T).form;refine md (sA 31 [.slice s0 t0 u0,I x.At.Row,I x.At.Col,B x.At.Pending,B x.Auto] 4 b2 ⟨(T).one,rfl,rfl,rfl,rfl,trivial⟩) ?_;rintro g2 h4 c2;refine WL.nil (bkn (nrm ?_));obtain rfl:=si h;have d2:=c2.sD 5 [0,2,3,4];exact jn g2 ⟨(.slice s0 t0 u0),n2,d2,rfl,T.m⟩
    refine W.skip (bkn (nrm ?_));obtain rfl:=si h;exact jn e3 ⟨v44,s,q0,rfl,d0.m⟩
   rintro e_ w_ ⟨i2,e4,_,rfl,i4,rfl,N,i0,e2,rfl,m2⟩;refine W.region (va (I a.1) (vv (I (w64 (a.1+1))) (WL.nil ?_)));obtain rfl:=si s2;exact ⟨_,rfl,jn i2 ⟨N,i0,e2,rfl,m2⟩⟩
  refine W.exit (thx ?_);obtain rfl:=si H;exact ⟨_,rfl,rfl,jn o ⟨v44,s,k,rfl,d0.m⟩⟩
 ·exact jn z0 ⟨(.slice j1 k1 m1),u3,z2,rfl,d1.m⟩
 rintro _ e_ w_ ⟨rfl,b4,f4,_,rfl,j4,rfl,v46,h0,j0,rfl,U⟩;refine bke (nrm (sr (vx (leN 31 0 [v46,I d.2.1,I d.2.2.1,B d.2.2.2.1,B d.2.2.2.2] (j0.on 3 rfl)) ?_)));obtain ⟨P,R,S,rfl⟩:=(U).form;refine md (sA 31 [.slice P R S,I d.2.1,I d.2.2.1,B d.2.2.2.1,B d.2.2.2.2] 2 j0 ⟨(U).one,rfl,rfl,rfl,rfl,trivial⟩) ?_;rintro y0 k4 k0;refine wln (W.ret ?_);obtain rfl:=si i1;have f2:=k0.sD 4 [0];exact kE (c:=y0) (vs:=[.slice P R S,I d.2.1,I d.2.2.1,B d.2.2.2.1,B d.2.2.2.2]) rfl (by kernel_rfl) (by kernel_rfl) (by kernel_rfl) (k0.on 2 rfl _ rfl).1 ⟨_,y0,rfl,rfl,pt,(.slice P R S),h0,f2,rfl,U.m⟩
def fK (p0:aa) (p1:aS):Option (aa):=
 (cf p0).bind fun a=>
 (idx a.L a.At.Row).bind fun c=>
 (if (p1.Kind==2)=true then
 (db (⟨a.L,(⟨a.At.Row,a.At.Col,false⟩:ai),a.Auto⟩:aa)).bind fun o=>
 (eN (⟨p1.A,p1.B,false⟩:ai) o (a.L.length:Int)).bind fun h=>
 some (c.Cells,false,a.L,h.Row,h.Col,h.Pending,a.Auto)
 else
 (if (p1.Kind==3)=true then
 some (p1.Kind==3)
 else
 some (p1.Kind==4)).bind fun p=>
 if p=true then
 (fw (⟨a.L,(⟨a.At.Row,a.At.Col,false⟩:ai),a.Auto⟩:aa) p1.Kind p1.A).bind fun f=>
 some (c.Cells,false,f.L,f.At.Row,f.At.Col,f.At.Pending,f.Auto)
 else
 if (p1.Kind==5)=true then
 (cS (⟨a.L,(⟨a.At.Row,a.At.Col,false⟩:ai),a.Auto⟩:aa) a.At.Row 4 a.At.Col p1.A).bind fun g=>
 some (c.Cells,false,g.L,g.At.Row,g.At.Col,g.At.Pending,g.Auto)
 else
 if (p1.Kind==6)=true then
 (fc c.Cells a.At.Col p1.A).bind fun j=>
 some (j.1,j.2,a.L,a.At.Row,a.At.Col,false,a.Auto)
 else
 if (p1.Kind==7)=true then
 (fe c.Cells a.At.Col p1.A).bind fun i=>
 some (i.1,i.2,a.L,a.At.Row,a.At.Col,false,a.Auto)
 else
 (if (p1.Kind==8)=true then
 some (p1.Kind==8)
 else
 some (p1.Kind==9)).bind fun m=>
 if m=true then
 (dK a.L a.At.Row (a.L.length:Int) p1.A (p1.Kind==9)).bind fun k=>
 some (c.Cells,false,k,a.At.Row,0,false,a.Auto)
 else
 (if (p1.Kind==10)=true then
 some (p1.Kind==10)
 else
 some (p1.Kind==11)).bind fun n=>
 if n=true then
 (dK a.L 0 (a.L.length:Int) p1.A (p1.Kind==10)).bind fun l=>
 some (c.Cells,false,l,a.At.Row,a.At.Col,false,a.Auto)
 else
 if (p1.Kind==12)=true then
 some (c.Cells,false,a.L,a.At.Row,a.At.Col,false,p1.A != 0)
 else
 some (c.Cells,false,a.L,a.At.Row,a.At.Col,false,a.Auto)).bind fun b=>
 (if b.2.1=true then
 (ce (⟨b.2.2.1,(⟨b.2.2.2.1,b.2.2.2.2.1,b.2.2.2.2.2.1⟩:ai),b.2.2.2.2.2.2⟩:aa) a.At.Row (⟨b.1,false⟩:ak)).bind fun d=>
 some (d.L,d.At.Row,d.At.Col,d.At.Pending,d.Auto)
 else
 some (b.2.2.1,b.2.2.2.1,b.2.2.2.2.1,b.2.2.2.2.2.1,b.2.2.2.2.2.2)).bind fun e=>
 some (⟨e.1,(⟨e.2.1,e.2.2.1,e.2.2.2.1⟩:ai),e.2.2.2.2⟩:aa)
theorem rV (O0:Own c0 G F) (x:aa) (b:aS) {r:aa} (h2:Sl an c0 v1 x.L) (h4:Sl (RI .u8) c0 v3 b.Bytes) (H:fK x b=some r): Calls prog 90 #[.agg #[v1,I x.At.Row,I x.At.Col,B x.At.Pending,B x.Auto],.agg #[I b.Kind,I b.A,I b.B,v3]] c0.w (aO c0 fun c v=>∃y1,Own c G (F)∧v= .agg #[y1,I r.At.Row,I r.At.Col,B r.At.Pending,B r.Auto]∧Sl an c y1 r.L):=by
 unfold fK at H;refine en func90 rfl rfl (sr ?_);obtain ⟨a5,a6,a7,rfl⟩:=(h2).form;refine me (al 31 [.slice a5 a6 a7,I x.At.Row,I x.At.Col,B x.At.Pending,B x.Auto] O0) ?_;rintro v11 c8 y5 ⟨g,rfl,O9⟩;obtain ⟨d5,e5,f5,rfl⟩:=((h4.mono y5)).form;refine me (bx 38 [I b.Kind,I b.A,I b.B,.slice d5 e5 f5] O9) ?_;rintro v19 d8 k8 ⟨n,rfl,v4,p⟩;refine me (al 31 [Y,I 0,I 0,B false,B false] v4) ?_;rintro v23 e8 l8 ⟨s,rfl,b2⟩;refine wln (sr (vx (leN 31 0 [.slice a5 a6 a7,I x.At.Row,I x.At.Col,B x.At.Pending,B x.Auto] (b2.on 1 rfl)) (bn H fun a p5 H=>cl (dy b2 x h2.m p5) ?_)));rintro v32 f8 m8 ⟨v25,w4,rfl,k⟩;obtain ⟨h,i,j,rfl⟩:=(k).form;refine md (sA 31 [.slice h i j,I a.At.Row,I a.At.Col,B a.At.Pending,B a.Auto] 1 w4 ⟨k.one,rfl,rfl,rfl,rfl,trivial⟩) ?_;rintro g8 z5 x4;refine wln (sr (va (Qo g 1) (va (Qo g 3) (md (sC 4 3 (B false) [.slice h i j,I a.At.Row,I a.At.Col,B false,B a.Auto] 1 x4 ⟨rfl,trivial⟩) ?_))));rintro y0 b6 g0;refine wln (sr (vv (Qo g 1) (vx (le1 1 u_3 (g0.on 1 rfl)) (va (I a.At.Row) (wln (sr (va (Q g) (vx (le1 0 gX (g0.on 1 rfl)) (va (I a.At.Row) (bn H fun s1 j2 H=>?_))))))))));obtain ⟨q7,q5,d6⟩:=Sl.at (k.mono (z5.trans b6)) (aX j2);obtain ⟨v44,rfl,z⟩:=q5;refine vx (ix gX k.m j2) (va (Qo (sb (.slice h i j)) (so (.slice h i j)+a.At.Row.toNat * 2)) (vx (l1 cG (d6 0 _ rfl)) (va (v44) (wln (sr (va (B false) (wln (bn H fun f y u4=>W.seqJ (Jn y0 fun c l=>∃v48 v49,Own c G ((Eb s 31 [Y,I 0,I 0,B false,B false]) :: (Eb g 31 [v48,I f.2.2.2.1,I f.2.2.2.2.1,B f.2.2.2.2.2.1,B f.2.2.2.2.2.2]) :: F)∧l= [(2,Q g),(4,Q s),(5,I a.At.Row),(6,v49),(7,B f.2.1)]∧Sl an c v48 f.2.2.1∧Sl ag c v49 f.1) ?_ ?_))))))))
 ·refine sr (va (Q n) (vx (l1 u_3 ((mm p) 0 _ rfl)) (wln (W.block (sr (vv (B (b.Kind==2)) (wln (cn y (fun r5 y=>?_) (fun r5 y=>?_)))))))))
  ·refine rD [12] (Kp G0 [(Eb g 31 [.slice h i j,I a.At.Row,I a.At.Col,B false,B a.Auto])]) g0 ?_;intro j5 n8 c2;have k2:Kp G0 [(Eb g 31 [.slice h i j,I a.At.Row,I a.At.Col,B false,B a.Auto])] j5:=(Kp.cons (c2.on 1 rfl) Kp.nil0);refine ta 0 (.pointer (some ⟨n,0+1,none⟩)) (tx 1 (fun c' z0=>l1 u_3 ((mm p) 1 _ rfl)) (ta 2 (Qo n (0+2)) (tx 3 (fun c' z0=>l1 u_3 ((mm p) 2 _ rfl)) (ta 4 (.agg #[I b.A,I b.B,B false]) (tkx 5 k2 (fun c' z0 hk=>leN 31 0 [.slice h i j,I a.At.Row,I a.At.Col,B false,B a.Auto] (hk.on 0 rfl)) (ta 7 (Q g) (tkx 8 k2 (fun c' z0 hk=>le1 0 gX (hk.on 0 rfl)) (tx 9 (fun c' z0=>ln 3 gX k.m) (bn y fun s4 s5 y=>o1 6 (gc 6 (jd c2 (⟨a.L,(⟨a.At.Row,a.At.Col,false⟩:ai),a.Auto⟩:aa) k.m s5) ?_))))))))));rintro v60 k5 o8 ⟨d2,rfl⟩;have e6:Kp G0 [(Eb g 31 [.slice h i j,I a.At.Row,I a.At.Col,B false,B a.Auto])] k5:=(Kp.cons (d2.on 1 rfl) Kp.nil0);refine ⟨.inr e6,bn y fun D t5 y=>o1 10 (gc 10 (mT d2 (⟨b.A,b.B,false⟩:ai) s4 (a.L.length:Int) t5) ?_)⟩;rintro v8 l5 p8 ⟨e2,rfl⟩;have f6:Kp G0 [(Eb g 31 [.slice h i j,I a.At.Row,I a.At.Col,B false,B a.Auto])] l5:=(Kp.cons (e2.on 1 rfl) Kp.nil0);refine ⟨.inr f6,ta 11 (.pointer (some ⟨g,1,none⟩)) (o1 12 (gD 12 (sB 29 1 [I D.Row,I D.Col,B D.Pending] [.slice h i j,I D.Row,I D.Col,B D.Pending,B a.Auto] 1 e2 ⟨rfl,rfl,rfl,trivial⟩) ?_))⟩;rintro m5 q8 y4;refine ⟨.inl rfl,dn (bkn (nrm ?_))⟩;obtain rfl:=si y;exact jn m5 ⟨(.slice h i j),v44,y4,rfl,k.m,z.m⟩
  refine bn y fun t4 f0 e=>W.seqJ (Jn y0 fun c l=>Own c G ((Eb s 31 [Y,I 0,I 0,B false,B false]) :: (Eb g 31 [.slice h i j,I a.At.Row,I a.At.Col,B false,B a.Auto]) :: F)∧l= [(2,Q g),(3,Q n),(4,Q s),(5,I a.At.Row),(6,v44),(7,B false),(22,I b.Kind),(37,B t4)]) ?_ ?_
  ·refine sr (vv (B (b.Kind==3)) (wln (cn f0 (fun u5 f0=>?_) (fun u5 f0=>?_))))
   ·refine W.skip (nrm ?_);obtain rfl:=si f0;exact jn y0 ⟨g0,rfl⟩
   refine W.region (vv (B (b.Kind==4)) (wln ?_));obtain rfl:=si f0;exact jn y0 ⟨g0,rfl⟩
  rintro e_ w_ ⟨k1,j8,_,rfl,r8,rfl,q,rfl⟩;refine cn e (fun v5 e=>?_) (fun v5 e=>?_)
  ·refine W.region (vx (leN 31 0 [.slice h i j,I a.At.Row,I a.At.Col,B false,B a.Auto] (q.on 1 rfl)) (va (Q n) (vx (l1 u_3 ((mm p) 0 _ rfl)) (va (Qo n (0+1)) (vx (l1 u_3 ((mm p) 1 _ rfl)) (bn e fun d0 w5 e=>cl (pE q (⟨a.L,(⟨a.At.Row,a.At.Col,false⟩:ai),a.Auto⟩:aa) b.Kind b.A k.m w5) ?_))))));rintro x8 h8 s8 ⟨w8,u8,z4,rfl,q1⟩;obtain ⟨f2,g2,i2,rfl⟩:=(q1).form;refine md (sA 31 [.slice f2 g2 i2,I d0.At.Row,I d0.At.Col,B d0.At.Pending,B d0.Auto] 2 z4 ⟨(q1).one,rfl,rfl,rfl,rfl,trivial⟩) ?_;rintro i8 c6 b5;refine WL.nil (bkn (nrm ?_));obtain rfl:=si e;obtain ⟨n5,q3,t8,c5,x5⟩:=b5.frz 0 rfl (q1.mono c6);have m2:=c5.sD 3 [1,2];exact ⟨n5,_,_,q3.symm,pt,us,(.slice f2 g2 i2),v44,m2,rfl,x5,z.m⟩
  refine sr (vv (B (b.Kind==5)) (wln (cn e (fun s3 e=>?_) (fun s3 e=>?_))))
  ·refine W.region (vx (leN 31 0 [.slice h i j,I a.At.Row,I a.At.Col,B false,B a.Auto] (q.on 1 rfl)) (va (I a.At.Row) (va (Qo g 1) (va (Qo g 2) (vx (le1 2 u_3 (q.on 1 rfl)) (va (Qo n (0+1)) (vx (l1 u_3 ((mm p) 1 _ rfl)) (bn e fun e0 t3 e=>cl (kO q (⟨a.L,(⟨a.At.Row,a.At.Col,false⟩:ai),a.Auto⟩:aa) a.At.Row 4 a.At.Col b.A k.m t3) ?_))))))));rintro u7 l6 y6 ⟨t7,r7,n2,rfl,s0⟩;obtain ⟨c1,d1,e1,rfl⟩:=(s0).form;refine md (sA 31 [.slice c1 d1 e1,I e0.At.Row,I e0.At.Col,B e0.At.Pending,B e0.Auto] 2 n2 ⟨(s0).one,rfl,rfl,rfl,rfl,trivial⟩) ?_;rintro m6 q4 o2;refine WL.nil (bkn (nrm ?_));obtain rfl:=si e;obtain ⟨i3,w3,z6,p2,u3⟩:=o2.frz 0 rfl (s0.mono q4);have q2:=p2.sD 3 [1,2];exact ⟨i3,_,_,w3.symm,pt,us,(.slice c1 d1 e1),v44,q2,rfl,u3,z.m⟩
  refine sr (vv (B (b.Kind==6)) (wln (cn e (fun x3 e=>?_) (fun x3 e=>?_))))
  ·refine W.region (va (v44) (va (Qo g 1) (va (Qo g 2) (vx (le1 2 u_3 (q.on 1 rfl)) (va (Qo n (0+1)) (vx (l1 u_3 ((mm p) 1 _ rfl)) (bn e fun x0 y3 e=>cl (pi q s1.Cells a.At.Col b.A z.m y3) ?_)))))));rintro v7 j3 b7 ⟨X,s2,rfl,z3⟩;refine va (.tuple #[X,B x0.2]) (va (X) (va (B x0.2) (va (X) (va (B x0.2) (WL.nil (bkn (nrm ?_)))))));obtain rfl:=si e;exact jn j3 ⟨(.slice h i j),X,s2,rfl,k.m,z3⟩
  refine sr (vv (B (b.Kind==7)) (wln (cn e (fun a4 e=>?_) (fun a4 e=>?_))))
  ·refine W.region (va (v44) (va (Qo g 1) (va (Qo g 2) (vx (le1 2 u_3 (q.on 1 rfl)) (va (Qo n (0+1)) (vx (l1 u_3 ((mm p) 1 _ rfl)) (bn e fun b0 b4 e=>cl (pm q s1.Cells a.At.Col b.A z.m b4) ?_)))))));rintro w7 k3 c7 ⟨Z,t2,rfl,c4⟩;refine va (.tuple #[Z,B b0.2]) (va (Z) (va (B b0.2) (va (Z) (va (B b0.2) (WL.nil (bkn (nrm ?_)))))));obtain rfl:=si e;exact jn k3 ⟨(.slice h i j),Z,t2,rfl,k.m,c4⟩
  refine bn e fun x1 M t=>W.seqJ (Jn k1 fun c l=>Own c G ((Eb s 31 [Y,I 0,I 0,B false,B false]) :: (Eb g 31 [.slice h i j,I a.At.Row,I a.At.Col,B false,B a.Auto]) :: F)∧l= [(2,Q g),(3,Q n),(4,Q s),(5,I a.At.Row),(6,v44),(7,B false),(22,I b.Kind),(80,B x1)]) ?_ ?_
  ·refine sr (vv (B (b.Kind==8)) (wln (cn M (fun d4 M=>?_) (fun d4 M=>?_))))
   ·refine W.skip (nrm ?_);obtain rfl:=si M;exact jn k1 ⟨q,rfl⟩
   refine W.region (vv (B (b.Kind==9)) (wln ?_));obtain rfl:=si M;exact jn k1 ⟨q,rfl⟩
  rintro e_ w_ ⟨q0,t6,_,rfl,d7,rfl,P,rfl⟩;refine cn t (fun e4 t=>?_) (fun e4 t=>?_)
  ·refine sr (va (Q g) (vx (le1 0 gX (P.on 1 rfl)) (va (I a.At.Row) (va (Q g) (vx (le1 0 gX (P.on 1 rfl)) (vx (ln 3 gX k.m) (va (Qo n (0+1)) (vx (l1 u_3 ((mm p) 1 _ rfl)) (va (Q n) (vx (l1 u_3 ((mm p) 0 _ rfl)) (va (B (b.Kind==9)) (bn t fun h6 f4 t=>cl (kp P a.L a.At.Row (a.L.length:Int) b.A (b.Kind==9) k.m f4) ?_))))))))))));rintro x7 n6 e7 ⟨_,u2,rfl,t0⟩;refine va (Q g) ?_;obtain ⟨S,T,U,rfl⟩:=(t0).form;refine md (sC 27 0 (.slice S T U) [.slice S T U,I a.At.Row,I a.At.Col,B false,B a.Auto] 1 u2 ⟨t0.one,trivial⟩) ?_;rintro o6 f7 v2;refine wln (W.region (va (Qo g 1) (va (Qo g 2) (md (sC 3 2 (I 0) [.slice S T U,I a.At.Row,I 0,B false,B a.Auto] 1 v2 ⟨rfl,trivial⟩) ?_))));rintro l3 g7 w2;refine WL.nil (bkn (nrm ?_));obtain rfl:=si t;exact jn l3 ⟨(.slice S T U),v44,w2,rfl,t0.m,z.m⟩
  refine bn t fun z1 N o=>W.seqJ (Jn q0 fun c l=>Own c G ((Eb s 31 [Y,I 0,I 0,B false,B false]) :: (Eb g 31 [.slice h i j,I a.At.Row,I a.At.Col,B false,B a.Auto]) :: F)∧l= [(2,Q g),(3,Q n),(4,Q s),(5,I a.At.Row),(6,v44),(7,B false),(22,I b.Kind),(98,B z1)]) ?_ ?_
  ·refine sr (vv (B (b.Kind==10)) (wln (cn N (fun g4 N=>?_) (fun g4 N=>?_))))
   ·refine W.skip (nrm ?_);obtain rfl:=si N;exact jn q0 ⟨P,rfl⟩
   refine W.region (vv (B (b.Kind==11)) (wln ?_));obtain rfl:=si N;exact jn q0 ⟨P,rfl⟩
  rintro e_ w_ ⟨m3,u6,_,rfl,h7,rfl,R,rfl⟩;refine cn o (fun i4 o=>?_) (fun i4 o=>?_)
  ·refine W.region (va (Q g) (vx (le1 0 gX (R.on 1 rfl)) (va (Q g) (vx (le1 0 gX (R.on 1 rfl)) (vx (ln 3 gX k.m) (va (Qo n (0+1)) (vx (l1 u_3 ((mm p) 1 _ rfl)) (va (Q n) (vx (l1 u_3 ((mm p) 0 _ rfl)) (va (B (b.Kind==10)) (bn o fun i6 j4 o=>cl (kp R a.L 0 (a.L.length:Int) b.A (b.Kind==10) k.m j4) ?_)))))))))));rintro y7 p6 i7 ⟨_,x2,rfl,u0⟩;refine va (Q g) ?_;obtain ⟨i0,j0,k0,rfl⟩:=(u0).form;refine md (sC 27 0 (.slice i0 j0 k0) [.slice i0 j0 k0,I a.At.Row,I a.At.Col,B false,B a.Auto] 1 x2 ⟨u0.one,trivial⟩) ?_;rintro n3 j7 y2;refine WL.nil (bkn (nrm ?_));obtain rfl:=si o;exact jn n3 ⟨(.slice i0 j0 k0),v44,y2,rfl,u0.m,z.m⟩
  refine sr (vv (B (b.Kind==12)) (wln (cn o (fun k4 o=>?_) (fun k4 o=>?_))))
  ·refine W.region (va (Qo n (0+1)) (vx (l1 u_3 ((mm p) 1 _ rfl)) (va (B (b.A != 0)) (va (Qo g 4) (md (sC 4 4 (B (b.A != 0)) [.slice h i j,I a.At.Row,I a.At.Col,B false,B (b.A != 0)] 1 R ⟨rfl,trivial⟩) ?_)))));rintro o3 k7 z2;refine WL.nil (bkn (nrm ?_));obtain rfl:=si o;exact jn o3 ⟨(.slice h i j),v44,z2,rfl,k.m,z.m⟩
  refine W.skip (bkn (nrm ?_));obtain rfl:=si o;exact jn m3 ⟨(.slice h i j),v44,R,rfl,k.m,z.m⟩
 rintro e_ w_ ⟨i1,v6,_,rfl,l7,rfl,v48,v49,h0,rfl,m1,n1⟩;refine bn u4 fun d u l2=>W.seqJ (Jn i1 fun c l=>∃a0,Own c G ((Eb s 31 [Y,I 0,I 0,B false,B false]) :: (Eb g 31 [a0,I d.2.1,I d.2.2.1,B d.2.2.2.1,B d.2.2.2.2]) :: F)∧l= [(2,Q g),(4,Q s)]∧Sl an c a0 d.1) ?_ ?_
 ·refine sr (va (B f.2.1) (wln (cn u (fun l4 u=>?_) (fun l4 u=>?_))))
  ·refine W.region (vx (leN 31 0 [v48,I f.2.2.2.1,I f.2.2.2.2.1,B f.2.2.2.2.2.1,B f.2.2.2.2.2.2] (h0.on 1 rfl)) (va (I a.At.Row) (va (v49) ?_)));obtain ⟨f3,g3,h3,rfl⟩:=(n1).form;refine va (.agg #[.slice f3 g3 h3,B false]) (bn u fun E m4 u=>cl (ga h0 (⟨f.2.2.1,(⟨f.2.2.2.1,f.2.2.2.2.1,f.2.2.2.2.2.1⟩:ai),f.2.2.2.2.2.2⟩:aa) a.At.Row (⟨f.1,false⟩:ak) m1 n1 m4) ?_);rintro a8 q6 m7 ⟨z7,s7,a3,rfl,v0⟩;obtain ⟨f1,g1,h1,rfl⟩:=(v0).form;refine md (sA 31 [.slice f1 g1 h1,I E.At.Row,I E.At.Col,B E.At.Pending,B E.Auto] 2 a3 ⟨(v0).one,rfl,rfl,rfl,rfl,trivial⟩) ?_;rintro r6 r4 b3;refine wln ?_;obtain rfl:=si u;obtain ⟨p3,o4,n7,c3,n4⟩:=b3.frz 0 rfl (v0.mono r4);have d3:=c3.sD 3 [1,2];exact ⟨p3,_,_,o4.symm,pt,us,(.slice f1 g1 h1),d3,rfl,n4⟩
  refine W.skip (nrm ?_);obtain rfl:=si u;exact jn i1 ⟨v48,h0,rfl,m1⟩
 rintro e_ w_ ⟨s6,w6,_,rfl,o7,rfl,a0,a1,rfl,w0⟩;refine sr (vx (leN 31 0 [a0,I d.2.1,I d.2.2.1,B d.2.2.2.1,B d.2.2.2.2] (a1.on 1 rfl)) ?_);obtain ⟨l0,m0,o0,rfl⟩:=(w0).form;refine md (sA 31 [.slice l0 m0 o0,I d.2.1,I d.2.2.1,B d.2.2.2.1,B d.2.2.2.2] 0 a1 ⟨w0.one,rfl,rfl,rfl,rfl,trivial⟩) ?_;rintro j1 p7 b1;refine wln (W.ret ?_);obtain rfl:=si l2;have e3:=b1.sD 2 [];exact kE (c:=j1) (vs:=[.slice l0 m0 o0,I d.2.1,I d.2.2.1,B d.2.2.2.1,B d.2.2.2.2]) rfl (by kernel_rfl) (by kernel_rfl) (by kernel_rfl) (b1.on 0 rfl _ rfl).1 ⟨_,j1,rfl,rfl,pt,(.slice l0 m0 o0),e3,rfl,w0.m⟩
def jB (sg:Sto) (p0:Int) (p1:Int):Option (Sto×(Option Nat)):=
 (mJ sg p0 p1).bind fun b=>
 (nq b.1 b.2).bind fun c=>
 (some (c.1.add_screen_Screen (⟨c.2,b.2⟩:eF))).bind fun a=>
 some (a,(some c.1.screen_Screen.length))
theorem pb (O0:Own c0 G F) (R0:Rel c0 sg G) (g:Int) (h:Int) {r:Sto×(Option Nat)} (H:jB sg g h=some r): Calls prog 32 #[I g,I h] c0.w (aO c0 fun c v=>∃y1,∃G_:Gm,Own c G_ (F)∧Rel c r.1 G_∧eI G G_∧v=y1∧Pt 5 c y1 r.2):=by
 unfold jB at H;refine en func32 rfl rfl (sr (va (.pointer none) (wln (sr (va (I g) (va (I h) (bn H fun n h1 H=>cl (yR O0 R0 g h h1) ?_)))))));rintro v2 c8 l8 ⟨_,G4,O5,R6,a7,rfl,p⟩;have D:=(eI.refl _).trans a7;refine va (v2) (wln (sr (va (v2) (bn H fun o R H=>cl (zQ O5 R6 n.2 p R) ?_))));rintro v12 j0 m ⟨_,i0,t,A,M,rfl,l⟩;have j:=D.trans M;refine va (v2) ?_;obtain ⟨d,rfl⟩:=(l).form;obtain ⟨e,rfl⟩:=((p.mono m)).form;refine va (.agg #[.pointer d,.pointer e]) (me (al 131 [.pointer d,.pointer e] t) ?_);rintro v26 k0 f ⟨a,rfl,u⟩;have y:=u.sD 1 [0];refine bn H fun q S H=>?_;obtain ⟨k,s,T,o0,U,z,i,l0,X,N⟩:=Rel.new_screen_Screen (E:=[(Eb a 131 [.pointer d,.pointer e])]) (F:=F) (x:=(⟨o.2,n.2⟩:eF)) (b:=a) y (A.mono f) (fun c_ hle_=>⟨a,(.pointer d),(.pointer e),rfl,rfl,(l.mono (f.trans hle_)),(p.mono ((m.trans f).trans hle_))⟩);rw [bm S] at i;refine WL.gh T.1 ?_;have m0:=eI.nil j X;have P:=j.trans N;have Z:Pt 5 k (Q a) (some o.1.screen_Screen.length):=⟨a,rfl,U⟩;refine va (Q a) (wln (W.ret ?_));obtain rfl:=si H;exact r1 (qq k ⟨(Q a),s,z,i,P,rfl,Z⟩)
def eG (sg:Sto) (p0:Option Nat) (p1:aS):Option (Sto×Er):=
 if p0.isNone=true then
 some (sg,(Er.sent 7))
 else
 if (p1.Kind==0)=true then
 (p0).bind fun g=>
 (sg.screen_Screen[g]?).bind fun i=>
 (gK sg i.Feeder p1.Bytes).bind fun o=>
 some (o,Er.nil)
 else
 if (p1.Kind==1)=true then
 (p0).bind fun h=>
 (sg.screen_Screen[h]?).bind fun j=>
 (gJ sg j.Feeder).bind fun p=>
 some (p,Er.nil)
 else
 if (p1.Kind==13)=true then
 (p0).bind fun a=>
 (sg.screen_Screen[a]?).bind fun k=>
 (dg sg k.Feeder).bind fun c=>
 (c.screen_Screen[a]?).bind fun l=>
 (kV c l.pen p1.A p1.B).bind fun q=>
 some (q,Er.nil)
 else
 (kG p1).bind fun d=>
 if (!d.isNil)=true then
 some (sg,d)
 else
 (p0).bind fun b=>
 (sg.screen_Screen[b]?).bind fun m=>
 (dg sg m.Feeder).bind fun e=>
 (e.screen_Screen[b]?).bind fun n=>
 (ox e n.pen p1).bind fun f=>
 some (f.1,f.2)
theorem lu (O0:Own c0 G F) (d:Rel c0 sg G) (hG:Gl [2,4,7] c0) (p0:Option Nat) (a:aS) {r:Sto×Er} (t:Pt 5 c0 v1 p0) (z:Sl (RI .u8) c0 v3 a.Bytes) (H:eG sg p0 a=some r): Calls prog 66 #[v1,.agg #[I a.Kind,I a.A,I a.B,v3]] c0.w (aO c0 fun c v=>∃y1,∃G_:Gm,Own c G_ (F)∧Rel c r.1 G_∧v=y1∧RE 350 144 c y1 r.2):=by
 unfold eG at H;refine en func66 rfl rfl (sr ?_);obtain ⟨a5,a6,a7,rfl⟩:=(z).form;refine me (bx 38 [I a.Kind,I a.A,I a.B,.slice a5 a6 a7] O0) ?_;rintro v12 s1 b ⟨y,rfl,l,h⟩;refine va (.nilIface) (wln (W.seq (sr (va (v1) (vr (B p0.isNone) (by rcases t.m.cs with ⟨e,f⟩ | ⟨b_,e,f⟩ <;> (subst e; rw [f]; kernel_rfl)) (wln (cn H (fun c2 H=>?_) (fun c2 H=>?_))))))))
 ·refine sr ?_;obtain ⟨v14,S⟩:=(hG.mono b).get 7 (by decide);refine vx (l1 zl S.im) (va (v14) (wln (W.ret (thr ?_))));obtain rfl:=si H;exact r1 (qq s1 ⟨v14,G,l,d.m,rfl,S⟩)
 refine W.skip (nrm (W.seq (sr (va (Q y) (vx (l1 u_3 (h 0 _ rfl)) (wln (W.block (sr (vv (B (a.Kind==0)) (wln (cn H (fun d2 H=>?_) (fun d2 H=>?_))))))))))))
 ·refine rD [6] (Kp G []) l ?_;intro t1 Z E;have i3:Kp G [] t1:=(Kp.nil E);refine ta 0 (v1) (bn H fun t3 f2 H=>?_);obtain ⟨P,rfl,e2⟩:=((t.mono (b.trans Z))).get f2;refine ta 1 (Q P) (ta 2 (Q P) (bn H fun u0 g2 H=>?_));obtain ⟨v24,v26,j2,i2,n4⟩:=Rel.open_screen_Screen (d.mono (b.trans Z)) g2 e2;refine tkx 3 i3 (fun n g u=>le1 0 Ag (u.gon j2 0 rfl)) (ta 4 (Qo y (0+3)) (tx 5 (fun n g=>l1 lG ((mm h) 3 _ rfl)) (bn H fun f4 k2 H=>o1 6 (gc 6 (ry E d.m (hG.m.le (by decide)) u0.Feeder a.Bytes i2 z.m k2) ?_))));rintro v35 u1 r4 ⟨d1,g1,k1,rfl⟩;refine ⟨.inl rfl,dn (bkn (nrm (sr (va (.nilIface) (wln (W.ret ?_))))))⟩;obtain rfl:=si H;exact r1 (qq u1 ⟨.nilIface,d1,g1,k1,rfl,rfl⟩)
 refine sr (vv (B (a.Kind==1)) (wln (cn H (fun l2 H=>?_) (fun l2 H=>?_))))
 ·refine W.region (va (v1) (bn H fun u3 n2 H=>?_));obtain ⟨R,rfl,m2⟩:=((t.mono b)).get n2;refine vv (Q R) (bn H fun v0 o2 H=>?_);obtain ⟨v41,v43,q2,p2,o4⟩:=Rel.open_screen_Screen (d.mono b) o2 m2;refine vx (le1 0 Ag (l.gon q2 0 rfl)) (bn H fun g4 s2 H=>cl (ru l d.m (hG.m.le (by decide)) v0.Feeder p2 s2) ?_);rintro v52 w1 s4 ⟨e1,h1,m1,rfl⟩;refine WL.nil (bkn (nrm (sr (va (.nilIface) (wln (W.ret ?_))))));obtain rfl:=si H;exact r1 (qq w1 ⟨.nilIface,e1,h1,m1,rfl,rfl⟩)
 refine sr (vv (B (a.Kind==13)) (wln (cn H (fun t2 H=>?_) (fun t2 H=>?_))))
 ·refine sr (va (v1) (bn H fun w3 u2 H=>?_));obtain ⟨i,rfl,T⟩:=((t.mono b)).get u2;refine vv (Q i) (bn H fun w0 v2 H=>?_);obtain ⟨v58,v60,x2,w2,p4⟩:=Rel.open_screen_Screen (d.mono b) v2 T;refine vx (le1 0 Ag (l.gon x2 0 rfl)) (bn H fun i4 y2 H=>cl (jj l d.m w0.Feeder w2 y2) ?_);rintro v4 m4 t4 ⟨D,i1,N,rfl⟩;refine wln (rD [8] (Kp D []) i1 ?_);intro x1 h3 M;have j3:Kp D [] x1:=(Kp.nil M);refine ta 0 (Q i) (ta 1 (Q i) (ta 2 (Qo i 1) (bn H fun x0 z2 H=>?_)));obtain ⟨w4,x4,b3,q4,a3⟩:=Rel.open_screen_Screen (N.mono h3) z2 (tm T);refine tkx 3 j3 (fun n g u=>le1 1 uf (u.gon b3 0 rfl)) (ta 4 (Qo y (0+1)) (tx 5 (fun n g=>l1 u_3 ((mm h) 1 _ rfl)) (ta 6 (Qo y (0+2)) (tx 7 (fun n g=>l1 u_3 ((mm h) 2 _ rfl)) (bn H fun j4 c3 H=>o1 8 (gc 8 (wb M N.m (hG.m.le (by decide)) x0.pen a.A a.B a3 c3) ?_))))));rintro y4 z1 u4 ⟨f1,j1,n1,rfl⟩;refine ⟨.inl rfl,dn (bkn (nrm (sr (va (.nilIface) (wln (W.ret ?_))))))⟩;obtain rfl:=si H;exact r1 (qq z1 ⟨.nilIface,f1,j1,n1,rfl,rfl⟩)
 refine W.seq (sr (vx (lN 38 h) (bn H fun c1 d3 H=>cl (tj l (hG.m.le (by decide)) a z.m d3) ?_)));rintro k b2 a0 ⟨_,q,rfl,U⟩;refine va (k) (wln (sr (va (k) (vr (B (!c1.isNil)) (by rcases (U).cs with ⟨e,f⟩ | ⟨b_,e,f⟩ | ⟨b_,e,f⟩ <;> (subst e; rw [f]; kernel_rfl)) (wln (cn H (fun e3 H=>?_) (fun e3 H=>?_)))))))
 ·refine sr (vv (k) (wln (W.ret (thr (bkr (thr ?_))))));obtain rfl:=si H;exact r1 (qq b2 ⟨k,G,q,d.m,rfl,U⟩)
 refine W.skip (nrm (sr (va (v1) (bn H fun x3 f3 H=>?_))));obtain ⟨j,rfl,X⟩:=((t.mono (b.trans a0))).get f3;refine vv (Q j) (bn H fun y0 g3 H=>?_);obtain ⟨a4,b4,j0,i0,q3⟩:=Rel.open_screen_Screen (d.mono (b.trans a0)) g3 X;refine vx (le1 0 Ag (q.gon j0 0 rfl)) (bn H fun k4 k0 H=>cl (jj q d.m y0.Feeder i0 k0) ?_);rintro c4 p3 y3 ⟨o,d0,s,rfl⟩;refine wln (W.seq (rD [5] (Kp o []) d0 ?_));intro g0 t0 p;have b1:Kp o [] g0:=(Kp.nil p);refine ta 0 (Q j) (ta 1 (Q j) (ta 2 (Qo j 1) (bn H fun z0 l0 H=>?_)));obtain ⟨d4,e4,o0,s3,m0⟩:=Rel.open_screen_Screen (s.mono t0) l0 (tm X);refine tkx 3 b1 (fun n g u=>le1 1 uf (u.gon o0 0 rfl)) (tx 4 (fun n g=>lN 38 (mm h)) (bn H fun l4 q0 H=>o1 5 (gc 5 (BK p s.m (hG.m.le (by decide)) z0.pen a m0 z.m q0) ?_)));rintro x h0 z3 ⟨_,b0,e0,f0,rfl,s0⟩;refine ⟨.inl rfl,ta 6 (x) (dn (nrm (W.ret (bkr (thr ?_)))))⟩;obtain rfl:=si H;exact r1 (qq h0 ⟨x,b0,e0,f0,rfl,s0⟩)
def kN (sg:Sto) (p0:Option Nat) (p1:List aS):Option (Sto×Er):=
 (cM (σ:=Er×Int×Sto) (τ:=(Er×Sto)) (((p1.length:Int) - 0).toNat+1) (fun a=>
 if (decide (a.2.1 < (p1.length:Int)))=true then
 ((idx p1 a.2.1).bind fun f=>
 (eG a.2.2 p0 f).bind fun b=>
 (bV (!b.2.isNil) (some a.1.isNil)).bind fun e=>
 if e=true then
 (ul a.2.1 b.2).bind fun g=>
 some (g,b.1)
 else
 some (a.1,b.1)).bind fun c=>
 some (.inl (c.1,(w64 (a.2.1+1)),c.2))
 else
 some (.inr (a.1,a.2.2))) (Er.nil,0,sg)).bind fun d=>
 some (d.2,d.1)
theorem qZ (O0:Own c0 G F) (R0:Rel c0 sg G) (hG:Gl [2,4,7] c0) (p0:Option Nat) (j:List aS) {r:Sto×Er} (h2:Pt 5 c0 v1 p0) (Z:Sl io c0 v3 j) (H:kN sg p0 j=some r): Calls prog 33 #[v1,v3] c0.w (aO c0 fun c v=>∃y1,∃G_:Gm,Own c G_ (F)∧Rel c r.1 G_∧v=y1∧RE 350 144 c y1 r.2):=by
 unfold kN at H;refine en func33 rfl rfl (sr (va (.nilIface) (wln (sr (va (.nilIface) (wln (W.seq (sr (va (v3) (vx (ln 3 oa Z) (va (I 0) (wln (W.block (bn H fun o2 h5 H6=>lp h5 (fun a=>Jn c0 fun c l=>∃v7 G_,Own c G_ (F)∧l= [(0,v1),(5,v7),(9,v3),(10,I (j.length:Int)),(11,I a.2.1)]∧Rel c a.2.2 G_∧RE 350 144 c v7 a.1) (fun u ex e w=>ex= .exit 0∧(Jn c0 fun c l=>∃v8 G_,Own c G_ (F)∧l= [(5,v8)]∧Rel c u.2 G_∧RE 350 144 c v8 u.1) e w) ?_ ?_ ?_))))))))))))))
 ·clear H6 h5;intro a p2 a1 n1 H;revert a1 n1;rintro X w_ ⟨c9,d2,_,rfl,l9,rfl,v7,d0,y,rfl,M,s⟩;refine sr (va (B (decide (a.2.1 < (j.length:Int)))) (wln (W.seq (cn H (fun b1 H=>?_) (fun b1 H=>?_)))))
  ·refine W.skip (nrm (bn H fun x b g0=>W.seqJ (Jn c9 fun c l=>∃v19 G_,Own c G_ (F)∧l= [(0,v1),(5,v19),(9,v3),(10,I (j.length:Int)),(11,I a.2.1)]∧Rel c x.2 G_∧RE 350 144 c v19 x.1) ?_ ?_))
   ·refine W.block (sr (va (I a.2.1) (bn b fun d P b=>?_)));obtain ⟨x1,c1,m1⟩:=Sl.at (Z.mono l9) (aX P);obtain ⟨v24,rfl,t⟩:=c1;refine vx (ix oa Z.m P) (vx (lN 38 m1) (me (al 38 [I 0,I 0,I 0,Y] y) ?_));rintro v29 b2 k1 ⟨u0,rfl,j0⟩;refine va (I a.2.1) ?_;obtain ⟨n,o,p,rfl⟩:=((t.mono k1)).form;refine md (sA 38 [I d.Kind,I d.A,I d.B,.slice n o p] 0 j0 ⟨rfl,rfl,rfl,t.m.one,trivial⟩) ?_;rintro c2 i2 z;refine wln (sr (va (v1) (vx (leN 38 0 [I d.Kind,I d.A,I d.B,.slice n o p] (z.on 0 rfl)) (bn b fun i d1 b=>cl (lu z M.m (hG.m.le (by decide)) p0 d h2.m t.m d1) ?_))));rintro v36 q j2 ⟨_,k,D,N,rfl,R⟩;refine va (v36) (wln (W.seq (bn b fun U S b=>W.join (Jn q fun c l=>Own c k ((Eb u0 38 [I d.Kind,I d.A,I d.B,.slice n o p]) :: F)∧l= [(0,v1),(5,v7),(6,I a.2.1),(8,v36),(9,v3),(10,I (j.length:Int)),(11,I a.2.1),(24,B U)]) ?_ ?_)))
    ·clear b;refine W.region (va (v36) (vr (B (!i.2.isNil)) (by rcases (R).cs with ⟨f,g⟩ | ⟨T,f,g⟩ | ⟨T,f,g⟩ <;> (subst f; rw [g]; kernel_rfl)) ?_));rcases bo (!i.2.isNil) with h | h
     ·have h0:=anT h S;refine vb h (wa (v7) (wn (vr (B a.1.isNil) (by rcases s.m.cs with ⟨f,g⟩ | ⟨T,f,g⟩ | ⟨T,f,g⟩ <;> (subst f; rw [g]; kernel_rfl)) ?_)));obtain rfl:=si h0;exact va (B a.1.isNil) (wln (jn q ⟨D,rfl⟩))
     obtain rfl:=anF h S;exact vb h (pz (va (B false) (wln (jn q ⟨D,rfl⟩))))
    rintro X w_ ⟨v0,e2,_,rfl,k2,rfl,E,rfl⟩;refine nrm (cn b (fun f1 b=>?_) (fun f1 b=>?_))
    ·refine W.region (va (I a.2.1) (va (v36) (bn b fun z1 g1 b=>cl (yX E a.2.1 i.2 R.m g1) ?_)));rintro v55 w0 l2 ⟨_,k0,rfl,h1⟩;refine va (v55) (WL.nil (bkn (nrm ?_)));obtain rfl:=si b;have l0:=k0.sD 1 [];exact jn w0 ⟨v55,k,l0,rfl,N.m,h1⟩
    refine W.skip (bkn (nrm ?_));obtain rfl:=si b;have m0:=E.sD 1 [];exact jn v0 ⟨v7,k,m0,rfl,N.m,s.m⟩
   rintro X w_ ⟨x0,f2,_,rfl,m2,rfl,v19,e0,o0,rfl,s0,i1⟩;refine W.region (vv (I (w64 (a.2.1+1))) (WL.nil ?_));obtain rfl:=si g0;exact ⟨_,rfl,jn x0 ⟨v19,e0,o0,rfl,s0,i1⟩⟩
  refine W.exit (thx ?_);obtain rfl:=si H;exact ⟨_,rfl,rfl,jn c9 ⟨v7,d0,y,rfl,M,s⟩⟩
 ·exact jn c0 ⟨.nilIface,G,O0,rfl,R0,rfl⟩
 rintro _ X w_ ⟨rfl,y0,g2,_,rfl,n2,rfl,v8,f0,q0,rfl,t0,j1⟩;refine bke (nrm (sr (vv (v8) (wln (W.ret ?_)))));obtain rfl:=si H6;exact r1 (qq y0 ⟨v8,f0,q0,t0,rfl,j1⟩)
def dH (sg:Sto) (p0:Option Nat):Option (gu):=
 if p0.isNone=true then
 some (⟨0,0,([]:List ak),(⟨0,0,false⟩:ai),false⟩:gu)
 else
 (p0).bind fun b=>
 (sg.screen_Screen[b]?).bind fun d=>
 (d.pen).bind fun c=>
 (sg.place_Pen[c]?).bind fun a=>
 (ci sg a.G).bind fun e=>
 (bL sg a.G).bind fun f=>
 (iW sg a.G).bind fun g=>
 some (⟨e,f,g,a.At,a.Auto⟩:gu)
theorem ko (O0:Own c0 G F) (o:Rel c0 sg G) (U:Option Nat) {r:gu} (h2:Pt 5 c0 v1 U) (H:dH sg U=some r): Calls prog 37 #[v1] c0.w (aO c0 fun c v=>∃X y2,Own c G (es true an X 48 y2 r.Lines :: F)∧v= .agg #[I r.Wide,I r.High,X,I r.At.Row,I r.At.Col,B r.At.Pending,B r.Auto]∧OA an c X y2 r.Lines):=by
 unfold dH at H;refine en func37 rfl rfl (sr (me (al 45 [I 0,I 0,Y,I 0,I 0,B false,B false] O0) ?_));rintro v6 c5 T ⟨b3,rfl,y⟩;refine wln (W.seq (sr (va (v1) (vr (B U.isNone) (by rcases h2.m.cs with ⟨N,P⟩ | ⟨b_,N,P⟩ <;> (subst N; rw [P]; kernel_rfl)) (wln (cn H (fun h7 H=>?_) (fun h7 H=>?_)))))))
 ·refine sr (va (.agg #[I 0,I 0,Y,I 0,I 0,B false,B false]) (md (sA 45 [I 0,I 0,Y,I 0,I 0,B false,B false] 0 y ⟨rfl,rfl,rfl,rfl,rfl,rfl,rfl,trivial⟩) ?_));rintro S l9 O8;refine wln (W.ret (thr ?_));obtain rfl:=si H;have g0:OA an S (Y) [] []:=OA.nil (aM _);have z:=O8.addHole (e:=es true an (Y) 48 [] ([]:List ak)) rfl;have Z:=z.sD 2 [0];exact kE (c:=S) (vs:=[I 0,I 0,Y,I 0,I 0,B false,B false]) rfl (by kernel_rfl) (by kernel_rfl) (by kernel_rfl) (z.on 1 rfl _ rfl).1 ⟨_,S,rfl,rfl,pt,(Y),[],Z,rfl,g0⟩
 refine W.skip (nrm (sr (va (v1) (bn H fun e1 i0 H=>?_))));obtain ⟨b,rfl,h0⟩:=((h2.mono T)).get i0;refine va (Q b) (va (Qo b 1) (bn H fun g1 j0 H=>?_));obtain ⟨v17,v19,q,i1,l0⟩:=Rel.open_screen_Screen (o.mono T) j0 h0;refine vx (le1 1 uf (y.gon q 0 rfl)) (bn H fun f1 o0 H=>?_);obtain ⟨d,rfl,m0⟩:=(l0).get o0;refine vv (Q d) (bn H fun a q0 H=>?_);obtain ⟨v26,t,s⟩:=Rel.open_place_Pen (o.mono T) q0 m0;refine vx (le1 0 eW (y.gon t 0 rfl)) (va (v26) (wln (W.seq (rD [] (Kp G []) y ?_))));intro b0 j1 A;have l:Kp G [] b0:=(Kp.nil A);refine ta 0 (v26) (ta 2 (v26) (ta 4 (v26) (ta 6 (Q b) (ta 7 (Q b) (ta 8 (Qo b 1) (tkx 9 l (fun R x f=>le1 1 uf (f.gon q 0 rfl)) (ta 10 (Q d) (ta 11 (Qo d 1) (tkx 12 l (fun R x f=>leN 29 1 [I a.At.Row,I a.At.Col,B a.At.Pending] (f.gon t 0 rfl)) (ta 13 (Q b) (ta 14 (Q b) (ta 15 (Qo b 1) (tkx 16 l (fun R x f=>le1 1 uf (f.gon q 0 rfl)) (ta 17 (Q d) (ta 18 (Qo d 4) (tkx 19 l (fun R x f=>le1 4 u_4 (f.gon t 0 rfl)) (bn H fun g s0 H=>o1 1 (gc 1 (cL A o.m a.G s.m s0) ?_))))))))))))))))));rintro v38 d0 k1 ⟨D,rfl⟩;have v0:Kp G [] d0:=(Kp.nil D);refine ⟨.inr v0,bn H fun h t0 H=>o1 3 (gc 3 (bH D o.m a.G s.m t0) ?_)⟩;rintro v46 e0 m1 ⟨E,rfl⟩;have w0:Kp G [] e0:=(Kp.nil E);refine ⟨.inr w0,bn H fun h1 u0 H=>o1 5 (gc 5 (th E o.m a.G s.m u0) ?_)⟩;rintro v49 f0 n1 ⟨_,z0,M,rfl,u⟩;have x0:Kp G [] f0:=(Kp.nil M);refine ⟨.inr x0,?_⟩;obtain ⟨i,j,k,rfl⟩:=(u).form;refine ta 20 (.agg #[I g,I h,.slice i j k,I a.At.Row,I a.At.Col,B a.At.Pending,B a.Auto]) (o1 21 (gD 21 (sA 45 [I g,I h,.slice i j k,I a.At.Row,I a.At.Col,B a.At.Pending,B a.Auto] 1 M ⟨rfl,rfl,(u).one,rfl,rfl,rfl,rfl,trivial⟩) ?_));rintro p p1 n;have y0:Kp G [] p:=(Kp.nil n);refine ⟨.inr y0,dn (nrm (W.ret ?_))⟩;obtain rfl:=si H;have a0:=n.sD 2 [0];exact kE (c:=p) (vs:=[I g,I h,.slice i j k,I a.At.Row,I a.At.Col,B a.At.Pending,B a.Auto]) rfl (by kernel_rfl) (by kernel_rfl) (by kernel_rfl) (n.on 1 rfl _ rfl).1 ⟨_,p,rfl,rfl,pt,(.slice i j k),z0,a0,rfl,u.m⟩
def iJ:Option (List (Int×Int)):=
 some ([(13,13)]:List (Int×Int))
theorem pX (d:Own c0 G F) {r:List (Int×Int)} (H:iJ=some r): Calls prog 286 #[] c0.w (aO c0 fun c v=>∃a b,Own c G (es true aV a 342 b r :: F)∧v=a∧OA aV c a b r):=by
 unfold iJ at H;refine en func286 rfl rfl (sr (va (Y) (wln (sr (va (III 13 13) (me (sl aV 342 [[I 13,I 13]] ([(13,13)]:List (Int×Int)) d ⟨rfl,trivial⟩) ?_))))));rintro v5 f i ⟨h,e,g⟩;refine va (v5) (wln (W.ret ?_));obtain rfl:=si H;exact r1 (qq f ⟨v5,h,e,rfl,g⟩)
def iI:Option (List (Int×Int)):=
 some ([(10,10)]:List (Int×Int))
theorem pW (d:Own c0 G F) {r:List (Int×Int)} (H:iI=some r): Calls prog 287 #[] c0.w (aO c0 fun c v=>∃a b,Own c G (es true aV a 342 b r :: F)∧v=a∧OA aV c a b r):=by
 unfold iI at H;refine en func287 rfl rfl (sr (va (Y) (wln (sr (va (III 10 10) (me (sl aV 342 [[I 10,I 10]] ([(10,10)]:List (Int×Int)) d ⟨rfl,trivial⟩) ?_))))));rintro v5 f i ⟨h,e,g⟩;refine va (v5) (wln (W.ret ?_));obtain rfl:=si H;exact r1 (qq f ⟨v5,h,e,rfl,g⟩)
def iH:Option (List (Int×Int)):=
 some ([(0,9),(11,12),(14,31),(127,159),(173,173),(1564,1564),(6158,6158),(8203,8203),(8206,8207),(8232,8238),(8288,8303),(65279,65279),(65520,65531),(917504,917535),(917632,917759),(918000,921599)]:List (Int×Int))
theorem pV (d:Own c0 G F) {r:List (Int×Int)} (H:iH=some r): Calls prog 288 #[] c0.w (aO c0 fun c v=>∃a b,Own c G (es true aV a 342 b r :: F)∧v=a∧OA aV c a b r):=by
 unfold iH at H;refine en func288 rfl rfl (sr (va (Y) (wln (sr (va (III 0 9) (va (III 11 12) (va (III 14 31) (va (III 127 159) (va (III 173 173) (va (III 1564 1564) (va (III 6158 6158) (va (III 8203 8203) (va (III 8206 8207) (va (III 8232 8238) (va (III 8288 8303) (va (III 65279 65279) (va (III 65520 65531) (va (III 917504 917535) (va (III 917632 917759) (va (III 918000 921599) (me (sl aV 342 [[I 0,I 9],[I 11,I 12],[I 14,I 31],[I 127,I 159],[I 173,I 173],[I 1564,I 1564],[I 6158,I 6158],[I 8203,I 8203],[I 8206,I 8207],[I 8232,I 8238],[I 8288,I 8303],[I 65279,I 65279],[I 65520,I 65531],[I 917504,I 917535],[I 917632,I 917759],[I 918000,I 921599]] ([(0,9),(11,12),(14,31),(127,159),(173,173),(1564,1564),(6158,6158),(8203,8203),(8206,8207),(8232,8238),(8288,8303),(65279,65279),(65520,65531),(917504,917535),(917632,917759),(918000,921599)]:List (Int×Int)) d ⟨rfl,rfl,rfl,rfl,rfl,rfl,rfl,rfl,rfl,rfl,rfl,rfl,rfl,rfl,rfl,rfl,trivial⟩) ?_)))))))))))))))))))));rintro v5 f i ⟨h,e,g⟩;refine va (v5) (wln (W.ret ?_));obtain rfl:=si H;exact r1 (qq f ⟨v5,h,e,rfl,g⟩)
def fP:List (Int×Int):=[(768,879),(1155,1161),(1425,1469),(1471,1471),(1473,1474),(1476,1477),(1479,1479),(1552,1562),(1611,1631),(1648,1648),(1750,1756),(1759,1764),(1767,1768),(1770,1773),(1809,1809),(1840,1866),(1958,1968),(2027,2035),(2070,2073),(2075,2083),(2259,2273),(2275,2306),(2362,2362),(2364,2364),(2369,2376),(2381,2381),(2385,2391),(2402,2403),(2433,2433),(2492,2492),(2494,2494),(2497,2500),(2509,2509),(2519,2519),(2530,2531),(2561,2562),(2620,2620),(2625,2626),(2631,2632),(2635,2637),(2748,2748),(2753,2757),(2765,2765),(2876,2876),(2878,2879),(2881,2884),(2893,2893),(2902,2903),(3132,3132),(3134,3136),(3142,3144),(3146,3149),(3276,3277),(3390,3390),(3393,3396),(3405,3405),(3633,3633),(3636,3642),(3655,3662),(3761,3761),(3764,3772),(3864,3865),(3953,3966),(4957,4959),(6832,6862),(7616,7679),(8204,8204),(8400,8432),(12330,12335),(12441,12442),(42607,42610),(64286,64286),(65024,65039),(65056,65071),(127995,127999),(917536,917631),(917760,917999)]
def iG:Option (List (Int×Int)):=
 some fP
theorem pU (d:Own c0 G F) {r:List (Int×Int)} (H:iG=some r): Calls prog 289 #[] c0.w (aO c0 fun c v=>∃a b,Own c G (es true aV a 342 b r :: F)∧v=a∧OA aV c a b r):=by
 unfold iG at H;refine en func289 rfl rfl (sr (va (Y) (wln (sr (va (III 768 879) (va (III 1155 1161) (va (III 1425 1469) (va (III 1471 1471) (va (III 1473 1474) (va (III 1476 1477) (va (III 1479 1479) (va (III 1552 1562) (va (III 1611 1631) (va (III 1648 1648) (va (III 1750 1756) (va (III 1759 1764) (va (III 1767 1768) (va (III 1770 1773) (va (III 1809 1809) (va (III 1840 1866) (va (III 1958 1968) (va (III 2027 2035) (va (III 2070 2073) (va (III 2075 2083) (va (III 2259 2273) (va (III 2275 2306) (va (III 2362 2362) (va (III 2364 2364) (va (III 2369 2376) (va (III 2381 2381) (va (III 2385 2391) (va (III 2402 2403) (va (III 2433 2433) (va (III 2492 2492) (va (III 2494 2494) (va (III 2497 2500) (va (III 2509 2509) (va (III 2519 2519) (va (III 2530 2531) (va (III 2561 2562) (va (III 2620 2620) (va (III 2625 2626) (va (III 2631 2632) (va (III 2635 2637) (va (III 2748 2748) (va (III 2753 2757) (va (III 2765 2765) (va (III 2876 2876) (va (III 2878 2879) (va (III 2881 2884) (va (III 2893 2893) (va (III 2902 2903) (va (III 3132 3132) (va (III 3134 3136) (va (III 3142 3144) (va (III 3146 3149) (va (III 3276 3277) (va (III 3390 3390) (va (III 3393 3396) (va (III 3405 3405) (va (III 3633 3633) (va (III 3636 3642) (va (III 3655 3662) (va (III 3761 3761) (va (III 3764 3772) (va (III 3864 3865) (va (III 3953 3966) (va (III 4957 4959) (va (III 6832 6862) (va (III 7616 7679) (va (III 8204 8204) (va (III 8400 8432) (va (III 12330 12335) (va (III 12441 12442) (va (III 42607 42610) (va (III 64286 64286) (va (III 65024 65039) (va (III 65056 65071) (va (III 127995 127999) (va (III 917536 917631) (va (III 917760 917999) (me (Own.sl (R:=aV) (E:=342) (ls:=fP.map (fun x=>[I x.1,I x.2])) (vs:=(fP.map (fun x=>[I x.1,I x.2])).flatten) (xs:=fP) true d (aM _) rfl (nY.map _ (fun _=>rfl) _) (by kernel_rfl) (by kernel_rfl)) ?_))))))))))))))))))))))))))))))))))))))))))))))))))))))))))))))))))))))))))))))))));rintro v5 f i ⟨h,e,g⟩;refine va (v5) (wln (W.ret ?_));obtain rfl:=si H;exact r1 (qq f ⟨v5,h,e,rfl,g⟩)
def iF:Option (List (Int×Int)):=
 some ([(8205,8205)]:List (Int×Int))
theorem pS (d:Own c0 G F) {r:List (Int×Int)} (H:iF=some r): Calls prog 290 #[] c0.w (aO c0 fun c v=>∃a b,Own c G (es true aV a 342 b r :: F)∧v=a∧OA aV c a b r):=by
 unfold iF at H;refine en func290 rfl rfl (sr (va (Y) (wln (sr (va (III 8205 8205) (me (sl aV 342 [[I 8205,I 8205]] ([(8205,8205)]:List (Int×Int)) d ⟨rfl,trivial⟩) ?_))))));rintro v5 f i ⟨h,e,g⟩;refine va (v5) (wln (W.ret ?_));obtain rfl:=si H;exact r1 (qq f ⟨v5,h,e,rfl,g⟩)
def iE:Option (List (Int×Int)):=
 some ([(127462,127487)]:List (Int×Int))
theorem pR (d:Own c0 G F) {r:List (Int×Int)} (H:iE=some r): Calls prog 291 #[] c0.w (aO c0 fun c v=>∃a b,Own c G (es true aV a 342 b r :: F)∧v=a∧OA aV c a b r):=by
 unfold iE at H;refine en func291 rfl rfl (sr (va (Y) (wln (sr (va (III 127462 127487) (me (sl aV 342 [[I 127462,I 127487]] ([(127462,127487)]:List (Int×Int)) d ⟨rfl,trivial⟩) ?_))))));rintro v5 f i ⟨h,e,g⟩;refine va (v5) (wln (W.ret ?_));obtain rfl:=si H;exact r1 (qq f ⟨v5,h,e,rfl,g⟩)
def iD:Option (List (Int×Int)):=
 some ([(1536,1541),(1757,1757),(1807,1807),(2192,2193),(2274,2274),(3406,3406),(69821,69821),(69837,69837)]:List (Int×Int))
theorem pQ (d:Own c0 G F) {r:List (Int×Int)} (H:iD=some r): Calls prog 292 #[] c0.w (aO c0 fun c v=>∃a b,Own c G (es true aV a 342 b r :: F)∧v=a∧OA aV c a b r):=by
 unfold iD at H;refine en func292 rfl rfl (sr (va (Y) (wln (sr (va (III 1536 1541) (va (III 1757 1757) (va (III 1807 1807) (va (III 2192 2193) (va (III 2274 2274) (va (III 3406 3406) (va (III 69821 69821) (va (III 69837 69837) (me (sl aV 342 [[I 1536,I 1541],[I 1757,I 1757],[I 1807,I 1807],[I 2192,I 2193],[I 2274,I 2274],[I 3406,I 3406],[I 69821,I 69821],[I 69837,I 69837]] ([(1536,1541),(1757,1757),(1807,1807),(2192,2193),(2274,2274),(3406,3406),(69821,69821),(69837,69837)]:List (Int×Int)) d ⟨rfl,rfl,rfl,rfl,rfl,rfl,rfl,rfl,trivial⟩) ?_)))))))))))));rintro v5 f i ⟨h,e,g⟩;refine va (v5) (wln (W.ret ?_));obtain rfl:=si H;exact r1 (qq f ⟨v5,h,e,rfl,g⟩)
def fO:List (Int×Int):=[(2307,2307),(2363,2363),(2366,2368),(2377,2380),(2382,2383),(2434,2435),(2495,2496),(2503,2504),(2507,2508),(2563,2563),(2622,2624),(2691,2691),(2750,2752),(2761,2761),(2818,2819),(2880,2880),(2887,2888),(3073,3075),(3137,3140),(3330,3331),(3391,3392),(3398,3400),(3635,3635),(3763,3763),(3902,3903),(4155,4156)]
def iC:Option (List (Int×Int)):=
 some fO
theorem pP (d:Own c0 G F) {r:List (Int×Int)} (H:iC=some r): Calls prog 293 #[] c0.w (aO c0 fun c v=>∃a b,Own c G (es true aV a 342 b r :: F)∧v=a∧OA aV c a b r):=by
 unfold iC at H;refine en func293 rfl rfl (sr (va (Y) (wln (sr (va (III 2307 2307) (va (III 2363 2363) (va (III 2366 2368) (va (III 2377 2380) (va (III 2382 2383) (va (III 2434 2435) (va (III 2495 2496) (va (III 2503 2504) (va (III 2507 2508) (va (III 2563 2563) (va (III 2622 2624) (va (III 2691 2691) (va (III 2750 2752) (va (III 2761 2761) (va (III 2818 2819) (va (III 2880 2880) (va (III 2887 2888) (va (III 3073 3075) (va (III 3137 3140) (va (III 3330 3331) (va (III 3391 3392) (va (III 3398 3400) (va (III 3635 3635) (va (III 3763 3763) (va (III 3902 3903) (va (III 4155 4156) (me (Own.sl (R:=aV) (E:=342) (ls:=fO.map (fun x=>[I x.1,I x.2])) (vs:=(fO.map (fun x=>[I x.1,I x.2])).flatten) (xs:=fO) true d (aM _) rfl (nY.map _ (fun _=>rfl) _) (by kernel_rfl) (by kernel_rfl)) ?_)))))))))))))))))))))))))))))));rintro v5 f i ⟨h,e,g⟩;refine va (v5) (wln (W.ret ?_));obtain rfl:=si H;exact r1 (qq f ⟨v5,h,e,rfl,g⟩)
def dN (p0:List (Int×Int)) (p1:Int):Option (Bool):=
 (cM (σ:=Int) (τ:=Bool ⊕ Unit) (((p0.length:Int) - 0).toNat+1) (fun b=>
 if (decide (b < (p0.length:Int)))=true then
 (idx p0 b).bind fun d=>
 (bV (decide ((w64 p1)≥d.1)) ((idx p0 b).bind fun e=>
 some (decide ((w64 p1)≤e.2)))).bind fun c=>
 if c=true then
 some (.inr (.inl true))
 else
 some (.inl ((w64 (b+1))))
 else
 some (.inr (.inr ()))) (0)).bind fun a=>
 match a with
 | .inl a=>
 some a
 | .inr a=>
 some false
theorem jH (O0:Own c0 G F) (A:List (Int×Int)) (b:Int) {r:Bool} (g:Sl aV c0 v1 A) (H:dN A b=some r): Calls prog 294 #[v1,J b] c0.w (aO c0 fun c v=>Own c G (F)∧v=B r):=by
 unfold dN at H;refine en func294 rfl rfl (sr (va (B false) (wln (W.seq (sr (va (I 0) (wln (W.block (bn H fun h h3 u=>lp h3 (fun a=>Jn c0 fun c l=>Own c G (F)∧l= [(0,v1),(1,J b),(5,I a)]) (fun t=>match t with | .inl E=>(fun g0 ex e w=>ex= .ret∧(Jn c0 fun c l=>Own c G (F)∧l= [(4,B g0)]) e w) E | .inr E=>(fun l0 ex e w=>ex= .exit 0∧(Jn c0 fun c l=>Own c G (F)∧l= []) e w) E) ?_ ?_ ?_)))))))))
 ·clear u h3;intro a v0 S h0 H;revert S h0;rintro z D ⟨k,g6,_,rfl,l5,rfl,x,rfl⟩;refine W.seq (sr (va (I a) (va (v1) (vx (ln 3 wo g.m) (va (B (decide (a < (A.length:Int)))) (wln (cn H (fun U H=>?_) (fun U H=>?_))))))))
  ·refine W.skip (nrm (W.seq (W.block (W.seq (bn H fun i p H=>bn H fun y q H=>W.join (Jn k fun c l=>Own c G (F)∧l= [(0,v1),(1,J b),(5,I a),(29,B y)]) ?_ ?_)))))
   ·clear H;refine W.region (va (J b) (va (I (w64 b)) (va (v1) (va (I a) ?_))));obtain ⟨j0,X,e0⟩:=Sl.at (g.mono l5) (aX p);obtain rfl:=X;refine vx (ix wo g.m p) (va (Qo (sb v1) (so v1+a.toNat * 2)) (vx (l1 u_3 (e0 0 _ rfl)) (va (B (decide ((w64 b)≥i.1))) ?_)));rcases bo (decide ((w64 b)≥i.1)) with d | d
    ·have f:=anT d q;refine vb d (wa (J b) (wa (I (w64 b)) (wa (v1) (wa (I a) (wn (bn f fun j s f=>?_))))));obtain ⟨k0,Z,f0⟩:=Sl.at (g.mono l5) (aX s);obtain rfl:=Z;refine vx (ix wo g.m s) (wa (Qo (sb v1) (so v1+a.toNat * 2+1)) (wn (vx (l1 u_3 (f0 1 _ rfl)) (wa (B (decide ((w64 b)≤j.2))) ?_))));obtain rfl:=si f;exact va (B (decide ((w64 b)≤j.2))) (wln (jn k ⟨x,rfl⟩))
    obtain rfl:=anF d q;exact vb d (pz (pz (pz (pz (va (B false) (wln (jn k ⟨x,rfl⟩)))))))
   rintro z D ⟨o,m0,_,rfl,s0,rfl,n,rfl⟩;refine nrm (cn H (fun a0 H=>?_) (fun a0 H=>?_))
   ·refine sr (va (B true) (wln (W.ret (bkr (thr ?_)))));obtain rfl:=si H;exact ⟨_,rfl,⟨rfl,jn o ⟨n,rfl⟩⟩⟩
   refine W.skip (bkn (nrm (W.region (va (I a) (vv (I (w64 (a+1))) (WL.nil ?_))))));obtain rfl:=si H;exact ⟨_,rfl,jn o ⟨n,rfl⟩⟩
  refine W.exit (thx ?_);obtain rfl:=si H;exact ⟨_,rfl,rfl,jn k ⟨x,rfl⟩⟩
 ·exact jn c0 ⟨O0,rfl⟩
 rcases h with h | h
 ·intro T; revert T;rintro _ z D ⟨rfl,P,o0,_,rfl,t0,rfl,M,rfl⟩;refine bkr (thr ?_);obtain rfl:=si u;exact r1 (qq P ⟨M,rfl⟩)
 rintro _ z D ⟨rfl,R,q0,_,rfl,u0,rfl,N,rfl⟩;refine bke (nrm (sr (va (B false) (wln (W.ret ?_)))));obtain rfl:=si u;exact r1 (qq R ⟨N,rfl⟩)
def dC (p0:Int):Option (Int×Int×Int):=
 (orE (decide ((w64 p0) < 44032)) (some (decide ((w64 p0) > 55203)))).bind fun e=>
 if e=true then
 some (0,0,0)
 else
 (cM (σ:=Int×Int) (τ:=(Int×Int×Int) ⊕ Unit) (((4370:Int) - 4352).toNat+2) (fun d=>
 if (decide (d.2≤4370))=true then
 (cM (σ:=Int×Int) (τ:=(Int×Int×Int) ⊕ Int) (((4469:Int) - 4449).toNat+2) (fun a=>
 if (decide (a.2≤4469))=true then
 if (decide ((w64 p0) < (w64 (a.1+28))))=true then
 (if ((w64 ((w64 (4519+(w64 p0))) - a.1))==4519)=true then
 some (0)
 else
 some ((w64 ((w64 (4519+(w64 p0))) - a.1)))).bind fun f=>
 some (.inr (.inl (d.2,a.2,f)))
 else
 some (.inl ((w64 (a.1+28)),(w64 (a.2+1))))
 else
 some (.inr (.inr (a.1)))) (d.1,4449)).bind fun b=>
 match b with
 | .inl b=>
 some (.inr (.inl b))
 | .inr b=>
 some (.inl (b,(w64 (d.2+1))))
 else
 some (.inr (.inr ()))) (44032,4352)).bind fun c=>
 match c with
 | .inl c=>
 some c
 | .inr c=>
 some (0,0,0)
theorem pY (T:Own c0 G F) (d:Int) {r:Int×Int×Int} (H:dC d=some r): Calls prog 315 #[J d] c0.w (aO c0 fun c v=>Own c G (F)∧v= .tuple #[I r.1,I r.2.1,I r.2.2]):=by
 unfold dC at H;refine en func315 rfl rfl (sr (vv (I 0) (va (I 0) (wln (sr (va (J d) (vv (I (w64 d)) (wln (W.seq (W.seq (bn H fun R h1 H=>W.join (Jn c0 fun c l=>Own c G (F)∧l= [(5,I (w64 d)),(17,B R)]) ?_ ?_)))))))))))
 ·clear H;refine W.region (va (I (w64 d)) (va (B (decide ((w64 d) < 44032))) ?_));rcases bo (decide ((w64 d) < 44032)) with A | A
  ·obtain rfl:=orT A h1;exact vb A (pz (va (B true) (wln (jn c0 ⟨T,rfl⟩))))
  have H3:=orF A h1;refine vb A (wa (I (w64 d)) (wa (B (decide ((w64 d) > 55203))) ?_));obtain rfl:=si H3;exact va (B (decide ((w64 d) > 55203))) (wln (jn c0 ⟨T,rfl⟩))
 rintro j n ⟨x,g5,_,rfl,l4,rfl,O6,rfl⟩;refine nrm (cn H (fun k0 H=>?_) (fun k0 H=>?_))
 ·refine sr (vv (I 0) (va (I 0) (wln (W.ret (thr ?_)))));obtain rfl:=si H;exact r3 (qq x ⟨O6,rfl⟩)
 refine W.skip (nrm (sr (va (I 44032) (wln (W.seq (sr (va (I 4352) (wln (W.block (bn H fun k N s=>lp N (fun b=>Jn x fun c l=>Own c G (F)∧l= [(5,I (w64 d)),(6,I b.1),(7,I b.2)]) (fun t=>match t with | .inl o=>(fun f ex e w=>ex= .ret∧(Jn x fun c l=>Own c G (F)∧l= [(2,I f.1),(3,I f.2.1),(4,I f.2.2)]) e w) o | .inr o=>(fun t0 ex e w=>ex= .exit 0∧(Jn x fun c l=>Own c G (F)∧l= []) e w) o) ?_ ?_ ?_))))))))))
 ·clear s N;intro b s0 y D H;revert y D;rintro j n ⟨h,v0,_,rfl,c1,rfl,M,rfl⟩;refine W.seq (sr (va (I b.2) (va (B (decide (b.2≤4370))) (wln (cn H (fun l0 H=>?_) (fun l0 H=>?_))))))
  ·refine W.skip (nrm (W.seq (W.block (sr (va (I 4449) (wln (W.block (bn H fun m P u=>lp P (fun a=>Jn h fun c l=>Own c G (F)∧l= [(5,I (w64 d)),(6,I a.1),(7,I b.2),(8,I a.2)]) (fun t=>match t with | .inl o=>(fun f ex e w=>ex= .ret∧(Jn h fun c l=>Own c G (F)∧l= [(2,I f.1),(3,I f.2.1),(4,I f.2.2)]) e w) o | .inr o=>(fun E ex e w=>ex= .exit 2∧(Jn h fun c l=>Own c G (F)∧l= [(5,I (w64 d)),(6,I E),(7,I b.2)]) e w) o) ?_ ?_ ?_))))))))
   ·clear u P;intro a s0 y D H;revert y D;rintro j n ⟨i,w0,_,rfl,d1,rfl,q,rfl⟩;refine W.seq (sr (va (I a.2) (va (B (decide (a.2≤4469))) (wln (cn H (fun m0 H=>?_) (fun m0 H=>?_))))))
    ·refine W.skip (nrm (W.seq (W.block (W.seq (sr (va (I (w64 d)) (va (I a.1) (va (I (w64 (a.1+28))) (va (B (decide ((w64 d) < (w64 (a.1+28))))) (wln (cn H (fun o0 H=>?_) (fun o0 H=>?_))))))))))))
     ·refine sr (va (I (w64 d)) (va (I (w64 (4519+(w64 d)))) (va (I a.1) (vv (I (w64 ((w64 (4519+(w64 d))) - a.1))) (wln (bn H fun p g S=>W.seqJ (Jn i fun c l=>Own c G (F)∧l= [(7,I b.2),(8,I a.2),(9,I p)]) ?_ ?_))))))
      ·refine sr (va (I (w64 ((w64 (4519+(w64 d))) - a.1))) (va (B ((w64 ((w64 (4519+(w64 d))) - a.1))==4519)) (wln (cn g (fun q0 g=>?_) (fun q0 g=>?_)))))
       ·refine W.region (va (I 0) (wln ?_));obtain rfl:=si g;exact jn i ⟨q,rfl⟩
       refine W.skip (nrm ?_);obtain rfl:=si g;exact jn i ⟨q,rfl⟩
      rintro j n ⟨e0,x0,_,rfl,e1,rfl,U,rfl⟩;refine sr (va (I b.2) (va (I a.2) (va (I p) (va (I b.2) (va (I a.2) (va (I p) (wln (W.ret (thr (bkr (thr ?_)))))))))));obtain rfl:=si S;exact ⟨_,rfl,⟨rfl,jn e0 ⟨U,rfl⟩⟩⟩
     refine W.skip (nrm (W.region (va (I a.1) (vv (I (w64 (a.1+28))) (WL.nil (bkn (nrm (W.region (va (I a.2) (vv (I (w64 (a.2+1))) (WL.nil ?_)))))))))));obtain rfl:=si H;exact ⟨_,rfl,jn i ⟨q,rfl⟩⟩
    refine W.exit (thx ?_);obtain rfl:=si H;exact ⟨_,rfl,rfl,jn i ⟨q,rfl⟩⟩
   ·exact jn h ⟨M,rfl⟩
   rcases m with m | m
   ·intro z; revert z;rintro _ j n ⟨rfl,f0,y0,_,rfl,f1,rfl,X,rfl⟩;refine bkr (bkr (thr ?_));obtain rfl:=si u;exact ⟨_,rfl,⟨rfl,jn f0 ⟨X,rfl⟩⟩⟩
   rintro _ j n ⟨rfl,g0,z0,_,rfl,g1,rfl,Z,rfl⟩;refine bke (bkn (nrm (W.region (va (I b.2) (vv (I (w64 (b.2+1))) (WL.nil ?_))))));obtain rfl:=si u;exact ⟨_,rfl,jn g0 ⟨Z,rfl⟩⟩
  refine W.exit (thx ?_);obtain rfl:=si H;exact ⟨_,rfl,rfl,jn h ⟨M,rfl⟩⟩
 ·exact jn x ⟨O6,rfl⟩
 rcases k with k | k
 ·intro z; revert z;rintro _ j n ⟨rfl,h0,a1,_,rfl,i1,rfl,a0,rfl⟩;refine bkr (thr ?_);obtain rfl:=si s;exact r3 (qq h0 ⟨a0,rfl⟩)
 rintro _ j n ⟨rfl,i0,b1,_,rfl,j1,rfl,b0,rfl⟩;refine bke (nrm (sr (vv (I 0) (va (I 0) (wln (W.ret ?_))))));obtain rfl:=si s;exact r3 (qq i0 ⟨b0,rfl⟩)
def ep (p0:Int):Option (Int):=
 (bV (decide ((w64 p0)≥4352)) (some (decide ((w64 p0)≤4447)))).bind fun j=>
 (orE j ((bV (decide ((w64 p0)≥43360)) (some (decide ((w64 p0)≤43388)))).bind fun c=>
 some c)).bind fun b=>
 if b=true then
 some 9
 else
 (bV (decide ((w64 p0)≥4448)) (some (decide ((w64 p0)≤4519)))).bind fun d=>
 (orE d ((bV (decide ((w64 p0)≥55216)) (some (decide ((w64 p0)≤55238)))).bind fun f=>
 some f)).bind fun e=>
 if e=true then
 some 10
 else
 (bV (decide ((w64 p0)≥4520)) (some (decide ((w64 p0)≤4607)))).bind fun g=>
 (orE g ((bV (decide ((w64 p0)≥55243)) (some (decide ((w64 p0)≤55291)))).bind fun i=>
 some i)).bind fun h=>
 if h=true then
 some 11
 else
 (dC p0).bind fun a=>
 if (a.1==0)=true then
 some 0
 else
 if (a.2.2==0)=true then
 some 12
 else
 some 13
theorem pZ (z:Own c0 G F) (a:Int) {r:Int} (H:ep a=some r): Calls prog 295 #[J a] c0.w (aO c0 fun c v=>Own c G (F)∧v=I r):=by
 unfold ep at H;refine en func295 rfl rfl (sr (va (I 0) (wln (sr (va (J a) (vv (I (w64 a)) (wln (W.seq (W.seq (bn H fun s1 h1 H=>bn H fun i0 h2 H=>W.join (Jn c0 fun c l=>Own c G (F)∧l= [(0,J a),(3,I (w64 a)),(22,B i0)]) ?_ ?_))))))))))
 ·clear H;refine W.region (va (I (w64 a)) (va (B (decide ((w64 a)≥4352))) ?_));rcases bo (decide ((w64 a)≥4352)) with M | M
  ·have H4:=anT M h1;refine vb M (wa (I (w64 a)) (wa (B (decide ((w64 a)≤4447))) ?_));obtain rfl:=si H4;refine va (B (decide ((w64 a)≤4447))) ?_;rcases bo (decide ((w64 a)≤4447)) with P | P
   ·obtain rfl:=orT P h2;exact vb P (pz (pz (pz (va (B true) (wln (jn c0 ⟨z,rfl⟩))))))
   have S:=orF P h2;refine vb P (wa (I (w64 a)) (wa (B (decide ((w64 a)≥43360))) (wn (bn S fun j0 h7 S=>?_))));rcases bo (decide ((w64 a)≥43360)) with R | R
   ·have H9:=anT R h7;refine vb R (wa (I (w64 a)) (wa (B (decide ((w64 a)≤43388))) (wn ?_)));obtain rfl:=si H9;refine va (B (decide ((w64 a)≤43388))) ?_;obtain rfl:=si S;exact va (B (decide ((w64 a)≤43388))) (wln (jn c0 ⟨z,rfl⟩))
   obtain rfl:=anF R h7;refine vb R (pz (wa (B false) ?_));obtain rfl:=si S;exact va (B false) (wln (jn c0 ⟨z,rfl⟩))
  obtain rfl:=anF M h1;refine vb M (pz (va (B false) ?_));have U:false=false:=rfl;have s:=orF U h2;refine vb U (wa (I (w64 a)) (wa (B (decide ((w64 a)≥43360))) (wn (bn s fun j0 X s=>?_))));rcases bo (decide ((w64 a)≥43360)) with h | h
  ·have s0:=anT h X;refine vb h (wa (I (w64 a)) (wa (B (decide ((w64 a)≤43388))) (wn ?_)));obtain rfl:=si s0;refine va (B (decide ((w64 a)≤43388))) ?_;obtain rfl:=si s;exact va (B (decide ((w64 a)≤43388))) (wln (jn c0 ⟨z,rfl⟩))
  obtain rfl:=anF h X;refine vb h (pz (wa (B false) ?_));obtain rfl:=si s;exact va (B false) (wln (jn c0 ⟨z,rfl⟩))
 rintro e_ w_ ⟨d,t1,_,rfl,w1,rfl,f,rfl⟩;refine nrm (cn H (fun c1 H=>?_) (fun c1 H=>?_))
 ·refine sr (va (I 9) (wln (W.ret (thr ?_))));obtain rfl:=si H;exact r1 (qq d ⟨f,rfl⟩)
 refine W.skip (nrm (W.seq (W.seq (bn H fun p1 Z H=>bn H fun k0 E H=>W.join (Jn d fun c l=>Own c G (F)∧l= [(0,J a),(3,I (w64 a)),(36,B k0)]) ?_ ?_))))
 ·clear H;refine W.region (va (I (w64 a)) (va (B (decide ((w64 a)≥4448))) ?_));rcases bo (decide ((w64 a)≥4448)) with i | i
  ·have t0:=anT i Z;refine vb i (wa (I (w64 a)) (wa (B (decide ((w64 a)≤4519))) ?_));obtain rfl:=si t0;refine va (B (decide ((w64 a)≤4519))) ?_;rcases bo (decide ((w64 a)≤4519)) with j | j
   ·obtain rfl:=orT j E;exact vb j (pz (pz (pz (va (B true) (wln (jn d ⟨f,rfl⟩))))))
   have t:=orF j E;refine vb j (wa (I (w64 a)) (wa (B (decide ((w64 a)≥55216))) (wn (bn t fun l0 a0 t=>?_))));rcases bo (decide ((w64 a)≥55216)) with k | k
   ·have u0:=anT k a0;refine vb k (wa (I (w64 a)) (wa (B (decide ((w64 a)≤55238))) (wn ?_)));obtain rfl:=si u0;refine va (B (decide ((w64 a)≤55238))) ?_;obtain rfl:=si t;exact va (B (decide ((w64 a)≤55238))) (wln (jn d ⟨f,rfl⟩))
   obtain rfl:=anF k a0;refine vb k (pz (wa (B false) ?_));obtain rfl:=si t;exact va (B false) (wln (jn d ⟨f,rfl⟩))
  obtain rfl:=anF i Z;refine vb i (pz (va (B false) ?_));have b0:false=false:=rfl;have u:=orF b0 E;refine vb b0 (wa (I (w64 a)) (wa (B (decide ((w64 a)≥55216))) (wn (bn u fun l0 d0 u=>?_))));rcases bo (decide ((w64 a)≥55216)) with m | m
  ·have v0:=anT m d0;refine vb m (wa (I (w64 a)) (wa (B (decide ((w64 a)≤55238))) (wn ?_)));obtain rfl:=si v0;refine va (B (decide ((w64 a)≤55238))) ?_;obtain rfl:=si u;exact va (B (decide ((w64 a)≤55238))) (wln (jn d ⟨f,rfl⟩))
  obtain rfl:=anF m d0;refine vb m (pz (wa (B false) ?_));obtain rfl:=si u;exact va (B false) (wln (jn d ⟨f,rfl⟩))
 rintro e_ w_ ⟨e,u1,_,rfl,x1,rfl,g,rfl⟩;refine nrm (cn H (fun d1 H=>?_) (fun d1 H=>?_))
 ·refine sr (va (I 10) (wln (W.ret (thr ?_))));obtain rfl:=si H;exact r1 (qq e ⟨g,rfl⟩)
 refine W.skip (nrm (W.seq (W.seq (bn H fun q1 e0 H=>bn H fun m0 N H=>W.join (Jn e fun c l=>Own c G (F)∧l= [(0,J a),(50,B m0)]) ?_ ?_))))
 ·clear H;refine W.region (va (I (w64 a)) (va (B (decide ((w64 a)≥4520))) ?_));rcases bo (decide ((w64 a)≥4520)) with n | n
  ·have w0:=anT n e0;refine vb n (wa (I (w64 a)) (wa (B (decide ((w64 a)≤4607))) ?_));obtain rfl:=si w0;refine va (B (decide ((w64 a)≤4607))) ?_;rcases bo (decide ((w64 a)≤4607)) with o | o
   ·obtain rfl:=orT o N;exact vb o (pz (pz (pz (va (B true) (wln (jn e ⟨g,rfl⟩))))))
   have x:=orF o N;refine vb o (wa (I (w64 a)) (wa (B (decide ((w64 a)≥55243))) (wn (bn x fun o0 f0 x=>?_))));rcases bo (decide ((w64 a)≥55243)) with p | p
   ·have x0:=anT p f0;refine vb p (wa (I (w64 a)) (wa (B (decide ((w64 a)≤55291))) (wn ?_)));obtain rfl:=si x0;refine va (B (decide ((w64 a)≤55291))) ?_;obtain rfl:=si x;exact va (B (decide ((w64 a)≤55291))) (wln (jn e ⟨g,rfl⟩))
   obtain rfl:=anF p f0;refine vb p (pz (wa (B false) ?_));obtain rfl:=si x;exact va (B false) (wln (jn e ⟨g,rfl⟩))
  obtain rfl:=anF n e0;refine vb n (pz (va (B false) ?_));have g0:false=false:=rfl;have y:=orF g0 N;refine vb g0 (wa (I (w64 a)) (wa (B (decide ((w64 a)≥55243))) (wn (bn y fun o0 h0 y=>?_))));rcases bo (decide ((w64 a)≥55243)) with q | q
  ·have y0:=anT q h0;refine vb q (wa (I (w64 a)) (wa (B (decide ((w64 a)≤55291))) (wn ?_)));obtain rfl:=si y0;refine va (B (decide ((w64 a)≤55291))) ?_;obtain rfl:=si y;exact va (B (decide ((w64 a)≤55291))) (wln (jn e ⟨g,rfl⟩))
  obtain rfl:=anF q h0;refine vb q (pz (wa (B false) ?_));obtain rfl:=si y;exact va (B false) (wln (jn e ⟨g,rfl⟩))
 rintro e_ w_ ⟨z0,v1,_,rfl,y1,rfl,T,rfl⟩;refine nrm (cn H (fun e1 H=>?_) (fun e1 H=>?_))
 ·refine sr (va (I 11) (wln (W.ret (thr ?_))));obtain rfl:=si H;exact r1 (qq z0 ⟨T,rfl⟩)
 refine W.skip (nrm (sr (va (J a) (bn H fun b f1 H=>cl (pY T a f1) ?_))));rintro b2 D z1 ⟨A,rfl⟩;refine va (.tuple #[I b.1,I b.2.1,I b.2.2]) (va (I b.1) (va (I b.2.1) (va (I b.2.2) (va (I b.1) (va (I b.2.1) (va (I b.2.2) (wln (W.seq (sr (va (I b.1) (va (B (b.1==0)) (wln (cn H (fun i1 H=>?_) (fun i1 H=>?_))))))))))))))
 ·refine sr (va (I 0) (wln (W.ret (thr ?_))));obtain rfl:=si H;exact r1 (qq D ⟨A,rfl⟩)
 refine W.skip (nrm (W.seq (sr (va (I b.2.2) (va (B (b.2.2==0)) (wln (cn H (fun j1 H=>?_) (fun j1 H=>?_))))))))
 ·refine sr (va (I 12) (wln (W.ret (thr ?_))));obtain rfl:=si H;exact r1 (qq D ⟨A,rfl⟩)
 refine W.skip (nrm (sr (va (I 13) (wln (W.ret ?_)))));obtain rfl:=si H;exact r1 (qq D ⟨A,rfl⟩)
def ii (p0:Int):Option (Int):=
 (iJ).bind fun d=>
 (iI).bind fun e=>
 (iH).bind fun f=>
 (iG).bind fun g=>
 (iF).bind fun h=>
 (iE).bind fun i=>
 (iD).bind fun j=>
 (iC).bind fun c=>
 (cM (σ:=Int) (τ:=Int ⊕ Unit) (((([d,e,f,g,h,i,j,c]:List (List (Int×Int))).length:Int) - 0).toNat+1) (fun b=>
 if (decide (b < (([d,e,f,g,h,i,j,c]:List (List (Int×Int))).length:Int)))=true then
 (idx ([d,e,f,g,h,i,j,c]:List (List (Int×Int))) b).bind fun k=>
 (dN k p0).bind fun l=>
 if l=true then
 some (.inr (.inl (w64 (b+1))))
 else
 some (.inl ((w64 (b+1))))
 else
 some (.inr (.inr ()))) (0)).bind fun a=>
 match a with
 | .inl a=>
 some a
 | .inr a=>
 (ep p0).bind fun m=>
 some m
theorem sk (O0:Own c0 G F) (p0:Int) {r:Int} (H:ii p0=some r): Calls prog 255 #[J p0] c0.w (aO c0 fun c v=>Own c G (F)∧v=I r):=by
 unfold ii at H;refine en func255 rfl rfl (sr (va (I 0) (wln (sr (bn H fun x h1 H=>cl (pX O0 h1) ?_)))));rintro v2 c9 l9 ⟨_,u3,O6,rfl,h4⟩;refine bn H fun y x3 H=>cl (pW O6 x3) ?_;rintro v12 q5 q4 ⟨_,u1,g3,rfl,y3⟩;refine bn H fun z z3 H=>cl (pV g3 z3) ?_;rintro v22 r5 t1 ⟨_,v1,h3,rfl,a4⟩;refine bn H fun A b4 H=>cl (pU h3 b4) ?_;rintro v32 s5 j1 ⟨_,w1,i3,rfl,c4⟩;refine bn H fun D d4 H=>cl (pS i3 d4) ?_;rintro v42 t5 b1 ⟨_,x1,j3,rfl,e4⟩;refine bn H fun E f4 H=>cl (pR j3 f4) ?_;rintro v52 u5 w0 ⟨_,y1,k3,rfl,g4⟩;refine bn H fun M i4 H=>cl (pQ k3 i4) ?_;rintro c6 v5 u ⟨_,z1,l3,rfl,j4⟩;refine bn H fun h k4 H=>cl (pP l3 k4) ?_;rintro d6 w5 k ⟨_,b2,m3,rfl,l4⟩;obtain ⟨x5,m4,n,n3,m1⟩:=m3.frz 7 rfl (h4.mono (q4.trans (t1.trans (j1.trans (b1.trans (w0.trans (u.trans k)))))));refine WL.gh m4 ?_;obtain ⟨y5,n4,o,o3,n1⟩:=n3.frz 6 rfl (y3.mono (t1.trans (j1.trans (b1.trans (w0.trans (u.trans (k.trans n)))))));refine WL.gh n4 ?_;obtain ⟨z5,o4,p,p3,p1⟩:=o3.frz 5 rfl (a4.mono (j1.trans (b1.trans (w0.trans (u.trans (k.trans (n.trans o)))))));refine WL.gh o4 ?_;obtain ⟨a6,p4,q,q3,q1⟩:=p3.frz 4 rfl (c4.mono (b1.trans (w0.trans (u.trans (k.trans (n.trans (o.trans p)))))));refine WL.gh p4 ?_;obtain ⟨b6,o2,s,s3,s1⟩:=q3.frz 3 rfl (e4.mono (w0.trans (u.trans (k.trans (n.trans (o.trans (p.trans q)))))));refine WL.gh o2 ?_;obtain ⟨z4,p2,b,c2,e1⟩:=s3.frz 2 rfl (g4.mono (u.trans (k.trans (n.trans (o.trans (p.trans (q.trans s)))))));refine WL.gh p2 ?_;obtain ⟨a5,q2,d,d2,f1⟩:=c2.frz 1 rfl (j4.mono (k.trans (n.trans (o.trans (p.trans (q.trans (s.trans b)))))));refine WL.gh q2 ?_;obtain ⟨b5,s2,f,e2,g1⟩:=d2.frz 0 rfl (l4.mono (n.trans (o.trans (p.trans (q.trans (s.trans (b.trans d)))))));refine WL.gh s2 ?_;obtain ⟨N,P,R,rfl⟩:=((m1.mono (o.trans (p.trans (q.trans (s.trans (b.trans (d.trans f)))))))).form;obtain ⟨S,T,U,rfl⟩:=((n1.mono (p.trans (q.trans (s.trans (b.trans (d.trans f))))))).form;obtain ⟨X,Z,a0,rfl⟩:=((p1.mono (q.trans (s.trans (b.trans (d.trans f)))))).form;obtain ⟨b0,d0,e0,rfl⟩:=((q1.mono (s.trans (b.trans (d.trans f))))).form;obtain ⟨f0,g0,h0,rfl⟩:=((s1.mono (b.trans (d.trans f)))).form;obtain ⟨i0,j0,k0,rfl⟩:=((e1.mono (d.trans f))).form;obtain ⟨l0,m0,o0,rfl⟩:=((f1.mono f)).form;obtain ⟨q0,s0,t0,rfl⟩:=(g1).form;refine me (sl (RL aV) 333 [[.slice N P R],[.slice S T U],[.slice X Z a0],[.slice b0 d0 e0],[.slice f0 g0 h0],[.slice i0 j0 k0],[.slice l0 m0 o0],[.slice q0 s0 t0]] ([x,y,z,A,D,E,M,h]:List (List (Int×Int))) e2 ⟨⟨(.slice N P R),rfl,m1.m⟩,⟨(.slice S T U),rfl,n1.m⟩,⟨(.slice X Z a0),rfl,p1.m⟩,⟨(.slice b0 d0 e0),rfl,q1.m⟩,⟨(.slice f0 g0 h0),rfl,s1.m⟩,⟨(.slice i0 j0 k0),rfl,e1.m⟩,⟨(.slice l0 m0 o0),rfl,f1.m⟩,⟨(.slice q0 s0 t0),rfl,g1⟩,trivial⟩) ?_;rintro g u0 i5 ⟨k1,f2,v0⟩;refine va (g) (wln (W.seq (sr (va (I 0) (wln (W.block (bn H fun a1 i1 i=>lp i1 (fun a=>Jn u0 fun c l=>Own c G (es true (RL aV) g 333 k1 ([x,y,z,A,D,E,M,h]:List (List (Int×Int))) :: es false aV (.slice q0 s0 t0) 342 b2 h :: es false aV (.slice l0 m0 o0) 342 z1 M :: es false aV (.slice i0 j0 k0) 342 y1 E :: es false aV (.slice f0 g0 h0) 342 x1 D :: es false aV (.slice b0 d0 e0) 342 w1 A :: es false aV (.slice X Z a0) 342 v1 z :: es false aV (.slice S T U) 342 u1 y :: es false aV (.slice N P R) 342 u3 x :: F)∧l= [(0,J p0),(3,g),(4,I a)]) (fun t=>match t with | .inl x_=>(fun r4 ex e w=>ex= .ret∧(Jn u0 fun c l=>Own c G (F)∧l= [(2,I r4)]) e w) x_ | .inr x_=>(fun w4 ex e w=>ex= .exit 0∧(Jn u0 fun c l=>Own c G (es true (RL aV) g 333 k1 ([x,y,z,A,D,E,M,h]:List (List (Int×Int))) :: es false aV (.slice q0 s0 t0) 342 b2 h :: es false aV (.slice l0 m0 o0) 342 z1 M :: es false aV (.slice i0 j0 k0) 342 y1 E :: es false aV (.slice f0 g0 h0) 342 x1 D :: es false aV (.slice b0 d0 e0) 342 w1 A :: es false aV (.slice X Z a0) 342 v1 z :: es false aV (.slice S T U) 342 u1 y :: es false aV (.slice N P R) 342 u3 x :: F)∧l= [(0,J p0)]) e w) x_) ?_ ?_ ?_)))))))
 ·clear i i1;intro a e6 v3 u4 H;revert v3 u4;rintro e_ w_ ⟨l2,d5,_,rfl,a3,rfl,y0,rfl⟩;refine W.seq (sr (va (I a) (va (g) (vx (lnO 3 wm v0.m) (va (B (decide (a < (([x,y,z,A,D,E,M,h]:List (List (Int×Int))).length:Int)))) (wln (cn H (fun t2 H=>?_) (fun t2 H=>?_))))))))
  ·refine W.skip (nrm (W.seq (W.block (sr (va (g) (va (I a) (bn H fun e3 z0 H=>vx (ixO wm v0.m z0) ?_)))))));obtain ⟨v4,u2,b3⟩:=OA.at (v0.mono a3) z0;obtain ⟨c3,rfl,w2⟩:=u2;refine vr c3 (rx (by kernel_rfl) (mu wo rfl (y0.on 0 rfl) (v0.m.blk z0) (at1 (j:=0) b3 rfl))) (va (J p0) (bn H fun p5 x2 H=>cl (jH y0 e3 p0 w2 x2) ?_));rintro n5 d1 j5 ⟨c1,rfl⟩;refine wln (cn H (fun y2 H=>?_) (fun y2 H=>?_))
   ·refine sr (va (I a) (vv (I (w64 (a+1))) (wln (W.ret (bkr (thr ?_))))));obtain rfl:=si H;refine ⟨_,rfl,⟨rfl,?_⟩⟩;have g2:=c1.sD 9 [];exact jn d1 ⟨g2,rfl⟩
   refine W.skip (bkn (nrm (W.region (va (I a) (vv (I (w64 (a+1))) (WL.nil ?_))))));obtain rfl:=si H;exact ⟨_,rfl,jn d1 ⟨c1,rfl⟩⟩
  refine W.exit (thx ?_);obtain rfl:=si H;exact ⟨_,rfl,rfl,jn l2 ⟨y0,rfl⟩⟩
 ·exact jn u0 ⟨f2,rfl⟩
 rcases a1 with a1 | a1
 ·intro w3; revert w3;rintro _ e_ w_ ⟨rfl,m2,e5,_,rfl,k5,rfl,h2,rfl⟩;refine bkr (thr ?_);obtain rfl:=si i;exact r1 (qq m2 ⟨h2,rfl⟩)
 rintro _ e_ w_ ⟨rfl,c5,f5,_,rfl,l5,rfl,i2,rfl⟩;refine bke (nrm (sr (va (J p0) (bn i fun f3 z2 i=>cl (pZ i2 p0 z2) ?_))));rintro o5 n2 m5 ⟨j2,rfl⟩;refine va (I f3) (wln (W.ret ?_));obtain rfl:=si i;have k2:=j2.sD 9 [];exact r1 (qq n2 ⟨k2,rfl⟩)
def gk:List (Int×Int):=[(169,169),(174,174),(8252,8252),(8265,8265),(8482,8482),(8505,8505),(8596,8601),(8617,8618),(8986,8987),(9000,9000),(9096,9096),(9167,9167),(9193,9203),(9208,9210),(9410,9410),(9642,9643),(9654,9654),(9664,9664),(9723,9726),(9728,9733),(9735,9746),(9748,9861),(9872,9989),(9992,10002),(10004,10004),(10006,10006),(10013,10013),(10017,10017),(10024,10024),(10035,10036),(10052,10052),(10055,10055),(10060,10060),(10062,10062),(10067,10069),(10071,10071),(10083,10087),(10133,10135),(10145,10145),(10160,10160),(10175,10175),(10548,10549),(11013,11015),(11035,11036),(11088,11088),(11093,11093),(12336,12336),(12349,12349),(12951,12951),(12953,12953),(126976,127231),(127245,127247),(127279,127279),(127340,127345),(127358,127359),(127374,127374),(127377,127386),(127405,127461),(127489,127503),(127514,127514),(127535,127535),(127538,127546),(127548,127551),(127561,127994),(128000,128317),(128326,128591),(128640,128767),(128884,128895),(128981,129023),(129036,129039),(129096,129103),(129114,129119),(129160,129167),(129198,129279),(129292,129338),(129340,129349),(129351,129791),(130048,131069)]
def iV:Option (List (Int×Int)):=
 some gk
theorem qG (d:Own c0 G F) {r:List (Int×Int)} (H:iV=some r): Calls prog 296 #[] c0.w (aO c0 fun c v=>∃a b,Own c G (es true aV a 342 b r :: F)∧v=a∧OA aV c a b r):=by
 unfold iV at H;refine en func296 rfl rfl (sr (va (Y) (wln (sr (va (III 169 169) (va (III 174 174) (va (III 8252 8252) (va (III 8265 8265) (va (III 8482 8482) (va (III 8505 8505) (va (III 8596 8601) (va (III 8617 8618) (va (III 8986 8987) (va (III 9000 9000) (va (III 9096 9096) (va (III 9167 9167) (va (III 9193 9203) (va (III 9208 9210) (va (III 9410 9410) (va (III 9642 9643) (va (III 9654 9654) (va (III 9664 9664) (va (III 9723 9726) (va (III 9728 9733) (va (III 9735 9746) (va (III 9748 9861) (va (III 9872 9989) (va (III 9992 10002) (va (III 10004 10004) (va (III 10006 10006) (va (III 10013 10013) (va (III 10017 10017) (va (III 10024 10024) (va (III 10035 10036) (va (III 10052 10052) (va (III 10055 10055) (va (III 10060 10060) (va (III 10062 10062) (va (III 10067 10069) (va (III 10071 10071) (va (III 10083 10087) (va (III 10133 10135) (va (III 10145 10145) (va (III 10160 10160) (va (III 10175 10175) (va (III 10548 10549) (va (III 11013 11015) (va (III 11035 11036) (va (III 11088 11088) (va (III 11093 11093) (va (III 12336 12336) (va (III 12349 12349) (va (III 12951 12951) (va (III 12953 12953) (va (III 126976 127231) (va (III 127245 127247) (va (III 127279 127279) (va (III 127340 127345) (va (III 127358 127359) (va (III 127374 127374) (va (III 127377 127386) (va (III 127405 127461) (va (III 127489 127503) (va (III 127514 127514) (va (III 127535 127535) (va (III 127538 127546) (va (III 127548 127551) (va (III 127561 127994) (va (III 128000 128317) (va (III 128326 128591) (va (III 128640 128767) (va (III 128884 128895) (va (III 128981 129023) (va (III 129036 129039) (va (III 129096 129103) (va (III 129114 129119) (va (III 129160 129167) (va (III 129198 129279) (va (III 129292 129338) (va (III 129340 129349) (va (III 129351 129791) (va (III 130048 131069) (me (Own.sl (R:=aV) (E:=342) (ls:=gk.map (fun x=>[I x.1,I x.2])) (vs:=(gk.map (fun x=>[I x.1,I x.2])).flatten) (xs:=gk) true d (aM _) rfl (nY.map _ (fun _=>rfl) _) (by kernel_rfl) (by kernel_rfl)) ?_)))))))))))))))))))))))))))))))))))))))))))))))))))))))))))))))))))))))))))))))))));rintro v5 f i ⟨h,e,g⟩;refine va (v5) (wln (W.ret ?_));obtain rfl:=si H;exact r1 (qq f ⟨v5,h,e,rfl,g⟩)
def ig (p0:Int):Option (Bool):=
 (iV).bind fun a=>
 (dN a p0).bind fun b=>
 some b
theorem sj (l:Own c0 G F) (a:Int) {r:Bool} (H:ig a=some r): Calls prog 256 #[J a] c0.w (aO c0 fun c v=>Own c G (F)∧v=B r):=by
 unfold ig at H;refine en func256 rfl rfl (sr (va (B false) (wln (sr (bn H fun j n H=>cl (qG l n) ?_)))));rintro v2 t u ⟨_,x,m,rfl,o⟩;refine va (J a) ?_;obtain ⟨p,h,q,b,g⟩:=m.frz 0 rfl o;refine WL.gh h (bn H fun k i H=>cl (jH b j a g i) ?_);rintro v21 f s ⟨d,rfl⟩;refine va (B k) (wln (W.ret ?_));obtain rfl:=si H;have e:=d.sD 1 [];exact r1 (qq f ⟨e,rfl⟩)
def fN:List (Int×Int):=[(2325,2361),(2392,2399),(2424,2431),(2453,2472),(2474,2480),(2482,2482),(2486,2489),(2524,2525),(2527,2527),(2544,2545),(2709,2728),(2730,2736),(2738,2739),(2741,2745),(2809,2809),(2837,2856),(2858,2864),(2866,2867),(2869,2873),(2908,2909),(2911,2911),(2929,2929),(3093,3112),(3114,3129),(3160,3162),(3349,3386)]
def iB:Option (List (Int×Int)):=
 some fN
theorem pO (d:Own c0 G F) {r:List (Int×Int)} (H:iB=some r): Calls prog 297 #[] c0.w (aO c0 fun c v=>∃a b,Own c G (es true aV a 342 b r :: F)∧v=a∧OA aV c a b r):=by
 unfold iB at H;refine en func297 rfl rfl (sr (va (Y) (wln (sr (va (III 2325 2361) (va (III 2392 2399) (va (III 2424 2431) (va (III 2453 2472) (va (III 2474 2480) (va (III 2482 2482) (va (III 2486 2489) (va (III 2524 2525) (va (III 2527 2527) (va (III 2544 2545) (va (III 2709 2728) (va (III 2730 2736) (va (III 2738 2739) (va (III 2741 2745) (va (III 2809 2809) (va (III 2837 2856) (va (III 2858 2864) (va (III 2866 2867) (va (III 2869 2873) (va (III 2908 2909) (va (III 2911 2911) (va (III 2929 2929) (va (III 3093 3112) (va (III 3114 3129) (va (III 3160 3162) (va (III 3349 3386) (me (Own.sl (R:=aV) (E:=342) (ls:=fN.map (fun x=>[I x.1,I x.2])) (vs:=(fN.map (fun x=>[I x.1,I x.2])).flatten) (xs:=fN) true d (aM _) rfl (nY.map _ (fun _=>rfl) _) (by kernel_rfl) (by kernel_rfl)) ?_)))))))))))))))))))))))))))))));rintro v5 f i ⟨h,e,g⟩;refine va (v5) (wln (W.ret ?_));obtain rfl:=si H;exact r1 (qq f ⟨v5,h,e,rfl,g⟩)
def iA:Option (List (Int×Int)):=
 some ([(2381,2381),(2509,2509),(2765,2765),(2893,2893),(3149,3149),(3405,3405)]:List (Int×Int))
theorem pN (d:Own c0 G F) {r:List (Int×Int)} (H:iA=some r): Calls prog 298 #[] c0.w (aO c0 fun c v=>∃a b,Own c G (es true aV a 342 b r :: F)∧v=a∧OA aV c a b r):=by
 unfold iA at H;refine en func298 rfl rfl (sr (va (Y) (wln (sr (va (III 2381 2381) (va (III 2509 2509) (va (III 2765 2765) (va (III 2893 2893) (va (III 3149 3149) (va (III 3405 3405) (me (sl aV 342 [[I 2381,I 2381],[I 2509,I 2509],[I 2765,I 2765],[I 2893,I 2893],[I 3149,I 3149],[I 3405,I 3405]] ([(2381,2381),(2509,2509),(2765,2765),(2893,2893),(3149,3149),(3405,3405)]:List (Int×Int)) d ⟨rfl,rfl,rfl,rfl,rfl,rfl,trivial⟩) ?_)))))))))));rintro v5 f i ⟨h,e,g⟩;refine va (v5) (wln (W.ret ?_));obtain rfl:=si H;exact r1 (qq f ⟨v5,h,e,rfl,g⟩)
def iz:Option (List (Int×Int)):=
 some ([(768,879),(1155,1159),(1425,1469),(1552,1562),(1611,1631),(2364,2364),(2385,2388),(2492,2492),(2748,2748),(2876,2876),(3132,3132),(6832,6845),(7616,7679),(8205,8205),(8400,8412),(12330,12335),(12441,12442),(65056,65071)]:List (Int×Int))
theorem pM (d:Own c0 G F) {r:List (Int×Int)} (H:iz=some r): Calls prog 299 #[] c0.w (aO c0 fun c v=>∃a b,Own c G (es true aV a 342 b r :: F)∧v=a∧OA aV c a b r):=by
 unfold iz at H;refine en func299 rfl rfl (sr (va (Y) (wln (sr (va (III 768 879) (va (III 1155 1159) (va (III 1425 1469) (va (III 1552 1562) (va (III 1611 1631) (va (III 2364 2364) (va (III 2385 2388) (va (III 2492 2492) (va (III 2748 2748) (va (III 2876 2876) (va (III 3132 3132) (va (III 6832 6845) (va (III 7616 7679) (va (III 8205 8205) (va (III 8400 8412) (va (III 12330 12335) (va (III 12441 12442) (va (III 65056 65071) (me (sl aV 342 [[I 768,I 879],[I 1155,I 1159],[I 1425,I 1469],[I 1552,I 1562],[I 1611,I 1631],[I 2364,I 2364],[I 2385,I 2388],[I 2492,I 2492],[I 2748,I 2748],[I 2876,I 2876],[I 3132,I 3132],[I 6832,I 6845],[I 7616,I 7679],[I 8205,I 8205],[I 8400,I 8412],[I 12330,I 12335],[I 12441,I 12442],[I 65056,I 65071]] ([(768,879),(1155,1159),(1425,1469),(1552,1562),(1611,1631),(2364,2364),(2385,2388),(2492,2492),(2748,2748),(2876,2876),(3132,3132),(6832,6845),(7616,7679),(8205,8205),(8400,8412),(12330,12335),(12441,12442),(65056,65071)]:List (Int×Int)) d ⟨rfl,rfl,rfl,rfl,rfl,rfl,rfl,rfl,rfl,rfl,rfl,rfl,rfl,rfl,rfl,rfl,rfl,rfl,trivial⟩) ?_)))))))))))))))))))))));rintro v5 f i ⟨h,e,g⟩;refine va (v5) (wln (W.ret ?_));obtain rfl:=si H;exact r1 (qq f ⟨v5,h,e,rfl,g⟩)
def ic (p0:Int):Option (Int):=
 (iB).bind fun c=>
 (iA).bind fun d=>
 (iz).bind fun e=>
 (cM (σ:=Int) (τ:=Int ⊕ Unit) (((([c,d,e]:List (List (Int×Int))).length:Int) - 0).toNat+1) (fun b=>
 if (decide (b < (([c,d,e]:List (List (Int×Int))).length:Int)))=true then
 (idx ([c,d,e]:List (List (Int×Int))) b).bind fun f=>
 (dN f p0).bind fun g=>
 if g=true then
 some (.inr (.inl (w64 (b+1))))
 else
 some (.inl ((w64 (b+1))))
 else
 some (.inr (.inr ()))) (0)).bind fun a=>
 match a with
 | .inl a=>
 some a
 | .inr a=>
 some 0
theorem se (O0:Own c0 G F) (E:Int) {r:Int} (H:ic E=some r): Calls prog 257 #[J E] c0.w (aO c0 fun c v=>Own c G (F)∧v=I r):=by
 unfold ic at H;refine en func257 rfl rfl (sr (va (I 0) (wln (sr (bn H fun b h1 H=>cl (pO O0 h1) ?_)))));rintro v2 c9 l9 ⟨_,u3,O6,rfl,h4⟩;refine bn H fun d a1 H=>cl (pN O6 a1) ?_;rintro v12 g2 p1 ⟨_,b0,h0,rfl,b1⟩;refine bn H fun f c1 H=>cl (pM h0 c1) ?_;rintro v22 h2 U ⟨_,d0,i0,rfl,d1⟩;obtain ⟨i2,e1,X,j0,P⟩:=i0.frz 2 rfl (h4.mono (p1.trans U));refine WL.gh e1 ?_;obtain ⟨j2,f1,Z,k0,R⟩:=j0.frz 1 rfl (b1.mono (U.trans X));refine WL.gh f1 ?_;obtain ⟨k2,g1,a0,l0,S⟩:=k0.frz 0 rfl (d1.mono (X.trans Z));refine WL.gh g1 ?_;obtain ⟨h,i,k,rfl⟩:=((P.mono (Z.trans a0))).form;obtain ⟨n,o,p,rfl⟩:=((R.mono a0)).form;obtain ⟨q,s,u,rfl⟩:=(S).form;refine me (sl (RL aV) 333 [[.slice h i k],[.slice n o p],[.slice q s u]] ([b,d,f]:List (List (Int×Int))) l0 ⟨⟨(.slice h i k),rfl,P.m⟩,⟨(.slice n o p),rfl,R.m⟩,⟨(.slice q s u),rfl,S⟩,trivial⟩) ?_;rintro v56 x o2 ⟨e0,m0,y⟩;refine va (v56) (wln (W.seq (sr (va (I 0) (wln (W.block (bn H fun g T z=>lp T (fun a=>Jn x fun c l=>Own c G (es true (RL aV) v56 333 e0 ([b,d,f]:List (List (Int×Int))) :: es false aV (.slice q s u) 342 d0 f :: es false aV (.slice n o p) 342 b0 d :: es false aV (.slice h i k) 342 u3 b :: F)∧l= [(0,J E),(3,v56),(4,I a)]) (fun t=>match t with | .inl x_=>(fun t1 ex e w=>ex= .ret∧(Jn x fun c l=>Own c G (F)∧l= [(2,I t1)]) e w) x_ | .inr x_=>(fun y1 ex e w=>ex= .exit 0∧(Jn x fun c l=>Own c G (es true (RL aV) v56 333 e0 ([b,d,f]:List (List (Int×Int))) :: es false aV (.slice q s u) 342 d0 f :: es false aV (.slice n o p) 342 b0 d :: es false aV (.slice h i k) 342 u3 b :: F)∧l= []) e w) x_) ?_ ?_ ?_)))))))
 ·clear z T;intro a u2 y0 x1 H;revert y0 x1;rintro e_ w_ ⟨u0,l2,_,rfl,q1,rfl,A,rfl⟩;refine W.seq (sr (va (I a) (va (v56) (vx (lnO 3 wm y.m) (va (B (decide (a < (([b,d,f]:List (List (Int×Int))).length:Int)))) (wln (cn H (fun i1 H=>?_) (fun i1 H=>?_))))))))
  ·refine W.skip (nrm (W.seq (W.block (sr (va (v56) (va (I a) (bn H fun g0 D H=>vx (ixO wm y.m D) ?_)))))));obtain ⟨e2,j1,s1⟩:=OA.at (y.mono q1) D;obtain ⟨v1,rfl,k1⟩:=j1;refine vr v1 (rx (by kernel_rfl) (mu wo rfl (A.on 0 rfl) (y.m.blk D) (at1 (j:=0) s1 rfl))) (va (J E) (bn H fun f2 m1 H=>cl (jH A g0 E k1 m1) ?_));rintro t2 N p2 ⟨M,rfl⟩;refine wln (cn H (fun n1 H=>?_) (fun n1 H=>?_))
   ·refine sr (va (I a) (vv (I (w64 (a+1))) (wln (W.ret (bkr (thr ?_))))));obtain rfl:=si H;refine ⟨_,rfl,⟨rfl,?_⟩⟩;have o0:=M.sD 4 [];exact jn N ⟨o0,rfl⟩
   refine W.skip (bkn (nrm (W.region (va (I a) (vv (I (w64 (a+1))) (WL.nil ?_))))));obtain rfl:=si H;exact ⟨_,rfl,jn N ⟨M,rfl⟩⟩
  refine W.exit (thx ?_);obtain rfl:=si H;exact ⟨_,rfl,rfl,jn u0 ⟨A,rfl⟩⟩
 ·exact jn x ⟨m0,rfl⟩
 rcases g with g | g
 ·intro z0; revert z0;rintro _ e_ w_ ⟨rfl,v0,m2,_,rfl,q2,rfl,q0,rfl⟩;refine bkr (thr ?_);obtain rfl:=si z;exact r1 (qq v0 ⟨q0,rfl⟩)
 rintro _ e_ w_ ⟨rfl,w0,n2,_,rfl,s2,rfl,s0,rfl⟩;refine bke (nrm (sr (va (I 0) (wln (W.ret ?_)))));obtain rfl:=si z;have t0:=s0.sD 4 [];exact r1 (qq w0 ⟨t0,rfl⟩)
def fu:List (Int×Int):=[(4352,4447),(8986,8987),(9001,9002),(9193,9196),(9200,9200),(9203,9203),(9725,9726),(9748,9749),(9800,9811),(9855,9855),(9875,9875),(9889,9889),(9898,9899),(9917,9918),(9924,9925),(9934,9934),(9940,9940),(9962,9962),(9970,9971),(9973,9973),(9978,9978),(9981,9981),(9989,9989),(9994,9995),(10024,10024),(10060,10060),(10062,10062),(10067,10069),(10071,10071),(10133,10135),(10160,10160),(10175,10175),(11035,11036),(11088,11088),(11093,11093),(11904,11929),(11931,12019),(12032,12245),(12272,12287),(12289,12350),(12353,12438),(12441,12543),(12549,12591),(12593,12686),(12688,12771),(12784,12830),(12832,12871),(12880,19903),(19968,42124),(42128,42182),(43360,43388),(44032,55203),(63744,64255),(65040,65049),(65072,65106),(65108,65126),(65128,65131),(94176,94180),(94208,100343),(100352,101589),(110592,110882),(126980,126980),(127183,127183),(127374,127374),(127377,127386),(127488,127490),(127504,127547),(127552,127560),(127568,127569),(127584,127589),(127744,127776),(127789,127797),(127799,127868),(127870,127891),(127904,127946),(127951,127955),(127968,127984),(127988,127988),(127992,128062),(128064,128064),(128066,128252),(128255,128317),(128331,128334),(128336,128359),(128378,128378),(128405,128406),(128420,128420),(128507,128591),(128640,128709),(128716,128716),(128720,128722),(128725,128727),(128732,128735),(128747,128748),(128756,128764),(128992,129003),(129008,129008),(129292,129338),(129340,129349),(129351,129535),(129648,129660),(129664,129672),(129680,129725),(129727,129733),(129742,129755),(129760,129768),(129776,129784),(131072,196605),(196608,262141)]
def iy:Option (List (Int×Int)):=
 some fu
theorem pL (d:Own c0 G F) {r:List (Int×Int)} (H:iy=some r): Calls prog 300 #[] c0.w (aO c0 fun c v=>∃a b,Own c G (es true aV a 342 b r :: F)∧v=a∧OA aV c a b r):=by
 unfold iy at H;refine en func300 rfl rfl (sr (va (Y) (wln (sr (va (III 4352 4447) (va (III 8986 8987) (va (III 9001 9002) (va (III 9193 9196) (va (III 9200 9200) (va (III 9203 9203) (va (III 9725 9726) (va (III 9748 9749) (va (III 9800 9811) (va (III 9855 9855) (va (III 9875 9875) (va (III 9889 9889) (va (III 9898 9899) (va (III 9917 9918) (va (III 9924 9925) (va (III 9934 9934) (va (III 9940 9940) (va (III 9962 9962) (va (III 9970 9971) (va (III 9973 9973) (va (III 9978 9978) (va (III 9981 9981) (va (III 9989 9989) (va (III 9994 9995) (va (III 10024 10024) (va (III 10060 10060) (va (III 10062 10062) (va (III 10067 10069) (va (III 10071 10071) (va (III 10133 10135) (va (III 10160 10160) (va (III 10175 10175) (va (III 11035 11036) (va (III 11088 11088) (va (III 11093 11093) (va (III 11904 11929) (va (III 11931 12019) (va (III 12032 12245) (va (III 12272 12287) (va (III 12289 12350) (va (III 12353 12438) (va (III 12441 12543) (va (III 12549 12591) (va (III 12593 12686) (va (III 12688 12771) (va (III 12784 12830) (va (III 12832 12871) (va (III 12880 19903) (va (III 19968 42124) (va (III 42128 42182) (va (III 43360 43388) (va (III 44032 55203) (va (III 63744 64255) (va (III 65040 65049) (va (III 65072 65106) (va (III 65108 65126) (va (III 65128 65131) (va (III 94176 94180) (va (III 94208 100343) (va (III 100352 101589) (va (III 110592 110882) (va (III 126980 126980) (va (III 127183 127183) (va (III 127374 127374) (va (III 127377 127386) (va (III 127488 127490) (va (III 127504 127547) (va (III 127552 127560) (va (III 127568 127569) (va (III 127584 127589) (va (III 127744 127776) (va (III 127789 127797) (va (III 127799 127868) (va (III 127870 127891) (va (III 127904 127946) (va (III 127951 127955) (va (III 127968 127984) (va (III 127988 127988) (va (III 127992 128062) (va (III 128064 128064) (va (III 128066 128252) (va (III 128255 128317) (va (III 128331 128334) (va (III 128336 128359) (va (III 128378 128378) (va (III 128405 128406) (va (III 128420 128420) (va (III 128507 128591) (va (III 128640 128709) (va (III 128716 128716) (va (III 128720 128722) (va (III 128725 128727) (va (III 128732 128735) (va (III 128747 128748) (va (III 128756 128764) (va (III 128992 129003) (va (III 129008 129008) (va (III 129292 129338) (va (III 129340 129349) (va (III 129351 129535) (va (III 129648 129660) (va (III 129664 129672) (va (III 129680 129725) (va (III 129727 129733) (va (III 129742 129755) (va (III 129760 129768) (va (III 129776 129784) (va (III 131072 196605) (va (III 196608 262141) (me (Own.sl (R:=aV) (E:=342) (ls:=fu.map (fun x=>[I x.1,I x.2])) (vs:=(fu.map (fun x=>[I x.1,I x.2])).flatten) (xs:=fu) true d (aM _) rfl (nY.map _ (fun _=>rfl) _) (by kernel_rfl) (by kernel_rfl)) ?_))))))))))))))))))))))))))))))))))))))))))))))))))))))))))))))))))))))))))))))))))))))))))))))))))))))))))))))))));rintro v5 f i ⟨h,e,g⟩;refine va (v5) (wln (W.ret ?_));obtain rfl:=si H;exact r1 (qq f ⟨v5,h,e,rfl,g⟩)
def iw:Option (List (Int×Int)):=
 some ([(12288,12288),(65281,65376),(65504,65510)]:List (Int×Int))
theorem pK (d:Own c0 G F) {r:List (Int×Int)} (H:iw=some r): Calls prog 301 #[] c0.w (aO c0 fun c v=>∃a b,Own c G (es true aV a 342 b r :: F)∧v=a∧OA aV c a b r):=by
 unfold iw at H;refine en func301 rfl rfl (sr (va (Y) (wln (sr (va (III 12288 12288) (va (III 65281 65376) (va (III 65504 65510) (me (sl aV 342 [[I 12288,I 12288],[I 65281,I 65376],[I 65504,I 65510]] ([(12288,12288),(65281,65376),(65504,65510)]:List (Int×Int)) d ⟨rfl,rfl,rfl,trivial⟩) ?_))))))));rintro v5 f i ⟨h,e,g⟩;refine va (v5) (wln (W.ret ?_));obtain rfl:=si H;exact r1 (qq f ⟨v5,h,e,rfl,g⟩)
def iv:Option (List (Int×Int)):=
 some ([(8361,8361),(65377,65470),(65474,65479),(65482,65487),(65490,65495),(65498,65500),(65512,65518)]:List (Int×Int))
theorem pJ (d:Own c0 G F) {r:List (Int×Int)} (H:iv=some r): Calls prog 302 #[] c0.w (aO c0 fun c v=>∃a b,Own c G (es true aV a 342 b r :: F)∧v=a∧OA aV c a b r):=by
 unfold iv at H;refine en func302 rfl rfl (sr (va (Y) (wln (sr (va (III 8361 8361) (va (III 65377 65470) (va (III 65474 65479) (va (III 65482 65487) (va (III 65490 65495) (va (III 65498 65500) (va (III 65512 65518) (me (sl aV 342 [[I 8361,I 8361],[I 65377,I 65470],[I 65474,I 65479],[I 65482,I 65487],[I 65490,I 65495],[I 65498,I 65500],[I 65512,I 65518]] ([(8361,8361),(65377,65470),(65474,65479),(65482,65487),(65490,65495),(65498,65500),(65512,65518)]:List (Int×Int)) d ⟨rfl,rfl,rfl,rfl,rfl,rfl,rfl,trivial⟩) ?_))))))))))));rintro v5 f i ⟨h,e,g⟩;refine va (v5) (wln (W.ret ?_));obtain rfl:=si H;exact r1 (qq f ⟨v5,h,e,rfl,g⟩)
def ib (p0:Int):Option (Int):=
 (iy).bind fun c=>
 (iw).bind fun d=>
 (iv).bind fun e=>
 (cM (σ:=Int) (τ:=Int ⊕ Unit) (((([c,d,e]:List (List (Int×Int))).length:Int) - 0).toNat+1) (fun b=>
 if (decide (b < (([c,d,e]:List (List (Int×Int))).length:Int)))=true then
 (idx ([c,d,e]:List (List (Int×Int))) b).bind fun f=>
 (dN f p0).bind fun g=>
 if g=true then
 some (.inr (.inl (w64 (b+1))))
 else
 some (.inl ((w64 (b+1))))
 else
 some (.inr (.inr ()))) (0)).bind fun a=>
 match a with
 | .inl a=>
 some a
 | .inr a=>
 some 0
theorem sa (O0:Own c0 G F) (E:Int) {r:Int} (H:ib E=some r): Calls prog 258 #[J E] c0.w (aO c0 fun c v=>Own c G (F)∧v=I r):=by
 unfold ib at H;refine en func258 rfl rfl (sr (va (I 0) (wln (sr (bn H fun b h1 H=>cl (pL O0 h1) ?_)))));rintro v2 c9 l9 ⟨_,u3,O6,rfl,h4⟩;refine bn H fun d a1 H=>cl (pK O6 a1) ?_;rintro v12 g2 p1 ⟨_,b0,h0,rfl,b1⟩;refine bn H fun f c1 H=>cl (pJ h0 c1) ?_;rintro v22 h2 U ⟨_,d0,i0,rfl,d1⟩;obtain ⟨i2,e1,X,j0,P⟩:=i0.frz 2 rfl (h4.mono (p1.trans U));refine WL.gh e1 ?_;obtain ⟨j2,f1,Z,k0,R⟩:=j0.frz 1 rfl (b1.mono (U.trans X));refine WL.gh f1 ?_;obtain ⟨k2,g1,a0,l0,S⟩:=k0.frz 0 rfl (d1.mono (X.trans Z));refine WL.gh g1 ?_;obtain ⟨h,i,k,rfl⟩:=((P.mono (Z.trans a0))).form;obtain ⟨n,o,p,rfl⟩:=((R.mono a0)).form;obtain ⟨q,s,u,rfl⟩:=(S).form;refine me (sl (RL aV) 333 [[.slice h i k],[.slice n o p],[.slice q s u]] ([b,d,f]:List (List (Int×Int))) l0 ⟨⟨(.slice h i k),rfl,P.m⟩,⟨(.slice n o p),rfl,R.m⟩,⟨(.slice q s u),rfl,S⟩,trivial⟩) ?_;rintro v56 x o2 ⟨e0,m0,y⟩;refine va (v56) (wln (W.seq (sr (va (I 0) (wln (W.block (bn H fun g T z=>lp T (fun a=>Jn x fun c l=>Own c G (es true (RL aV) v56 333 e0 ([b,d,f]:List (List (Int×Int))) :: es false aV (.slice q s u) 342 d0 f :: es false aV (.slice n o p) 342 b0 d :: es false aV (.slice h i k) 342 u3 b :: F)∧l= [(0,J E),(3,v56),(4,I a)]) (fun t=>match t with | .inl x_=>(fun t1 ex e w=>ex= .ret∧(Jn x fun c l=>Own c G (F)∧l= [(2,I t1)]) e w) x_ | .inr x_=>(fun y1 ex e w=>ex= .exit 0∧(Jn x fun c l=>Own c G (es true (RL aV) v56 333 e0 ([b,d,f]:List (List (Int×Int))) :: es false aV (.slice q s u) 342 d0 f :: es false aV (.slice n o p) 342 b0 d :: es false aV (.slice h i k) 342 u3 b :: F)∧l= []) e w) x_) ?_ ?_ ?_)))))))
 ·clear z T;intro a u2 y0 x1 H;revert y0 x1;rintro e_ w_ ⟨u0,l2,_,rfl,q1,rfl,A,rfl⟩;refine W.seq (sr (va (I a) (va (v56) (vx (lnO 3 wm y.m) (va (B (decide (a < (([b,d,f]:List (List (Int×Int))).length:Int)))) (wln (cn H (fun i1 H=>?_) (fun i1 H=>?_))))))))
  ·refine W.skip (nrm (W.seq (W.block (sr (va (v56) (va (I a) (bn H fun g0 D H=>vx (ixO wm y.m D) ?_)))))));obtain ⟨e2,j1,s1⟩:=OA.at (y.mono q1) D;obtain ⟨v1,rfl,k1⟩:=j1;refine vr v1 (rx (by kernel_rfl) (mu wo rfl (A.on 0 rfl) (y.m.blk D) (at1 (j:=0) s1 rfl))) (va (J E) (bn H fun f2 m1 H=>cl (jH A g0 E k1 m1) ?_));rintro t2 N p2 ⟨M,rfl⟩;refine wln (cn H (fun n1 H=>?_) (fun n1 H=>?_))
   ·refine sr (va (I a) (vv (I (w64 (a+1))) (wln (W.ret (bkr (thr ?_))))));obtain rfl:=si H;refine ⟨_,rfl,⟨rfl,?_⟩⟩;have o0:=M.sD 4 [];exact jn N ⟨o0,rfl⟩
   refine W.skip (bkn (nrm (W.region (va (I a) (vv (I (w64 (a+1))) (WL.nil ?_))))));obtain rfl:=si H;exact ⟨_,rfl,jn N ⟨M,rfl⟩⟩
  refine W.exit (thx ?_);obtain rfl:=si H;exact ⟨_,rfl,rfl,jn u0 ⟨A,rfl⟩⟩
 ·exact jn x ⟨m0,rfl⟩
 rcases g with g | g
 ·intro z0; revert z0;rintro _ e_ w_ ⟨rfl,v0,m2,_,rfl,q2,rfl,q0,rfl⟩;refine bkr (thr ?_);obtain rfl:=si z;exact r1 (qq v0 ⟨q0,rfl⟩)
 rintro _ e_ w_ ⟨rfl,w0,n2,_,rfl,s2,rfl,s0,rfl⟩;refine bke (nrm (sr (va (I 0) (wln (W.ret ?_)))));obtain rfl:=si z;have t0:=s0.sD 4 [];exact r1 (qq w0 ⟨t0,rfl⟩)
def dM (p0:Int):Option (aw):=
 (ii p0).bind fun b=>
 (ig p0).bind fun c=>
 (ic p0).bind fun d=>
 (ib p0).bind fun a=>
 some (⟨b,c,d,a⟩:aw)
theorem nx (p:Own c0 G F) (a:Int) {r:aw} (H:dM a=some r): Calls prog 201 #[J a] c0.w (aO c0 fun c v=>Own c G (F)∧v= .agg #[I r.Break,B r.Pict,I r.Conj,I r.East]):=by
 unfold dM at H;refine en func201 rfl rfl (sr (me (al 238 [I 0,B false,I 0,I 0] p) ?_));rintro v4 R S ⟨P,rfl,q⟩;refine wln (sr (va (J a) (bn H fun d t H=>cl (sk q a t) ?_)));rintro v11 u A ⟨s,rfl⟩;refine va (J a) (bn H fun e m H=>cl (sj s a m) ?_);rintro v18 x D ⟨i,rfl⟩;refine va (J a) (bn H fun f n H=>cl (se i a n) ?_);rintro v25 y E ⟨j,rfl⟩;refine va (J a) (bn H fun b o H=>cl (sa j a o) ?_);rintro v32 z M ⟨k,rfl⟩;refine va (.agg #[I d,B e,I f,I b]) (md (sA 238 [I d,B e,I f,I b] 0 k ⟨rfl,rfl,rfl,rfl,trivial⟩) ?_);rintro h N g;refine wln (W.ret ?_);obtain rfl:=si H;have l:=g.sD 1 [];exact kE (c:=h) (vs:=[I d,B e,I f,I b]) rfl (by kernel_rfl) (by kernel_rfl) (by kernel_rfl) (g.on 0 rfl _ rfl).1 ⟨_,h,rfl,rfl,pt,l,rfl⟩
def eQ (p0:List Int) (p1:Int):Option (Bool):=
 (idx p0 0).bind fun c=>
 (idx ([0,0,192,224,240]:List Int) p1).bind fun d=>
 (orE (decide ((w64 ((w64 c) - d)) < 0)) ((idx ([0,128,32,16,8]:List Int) p1).bind fun l=>
 some (decide ((w64 ((w64 c) - d))≥l)))).bind fun j=>
 if j=true then
 some false
 else
 (cM (σ:=Int×Int×Int) (τ:=Bool ⊕ (Int×Int)) ((p1 - 1).toNat+1) (fun a=>
 if (decide (a.2.2 < p1))=true then
 if (decide (a.2.2 < (p0.length:Int)))=true then
 (idx p0 a.2.2).bind fun e=>
 (orE (decide ((w64 ((w64 e) - 128)) < 0)) (some (decide ((w64 ((w64 e) - 128)) > 63)))).bind fun k=>
 if k=true then
 some (.inr (.inl false))
 else
 some (.inl ((w64 ((w64 (a.1 * 64))+(w64 ((w64 e) - 128)))),(w64 ((w64 ((w64 ((w64 (a.2.1 * 64))+63)) - 63))+(w64 ((w64 e) - 128)))),(w64 (a.2.2+1))))
 else
 some (.inl ((w64 (a.1 * 64)),(w64 ((w64 (a.2.1 * 64))+63)),(w64 (a.2.2+1))))
 else
 some (.inr (.inr (a.1,a.2.1)))) ((w64 ((w64 c) - d)),(w64 ((w64 c) - d)),1)).bind fun b=>
 match b with
 | .inl b=>
 some b
 | .inr b=>
 (idx ([0,0,128,2048,65536]:List Int) p1).bind fun f=>
 (idx ([0,127,2047,65535,1114111]:List Int) p1).bind fun g=>
 (bV (decide ((aE b.1 f)≤(aB b.2 g))) ((orE (decide ((aE b.1 f) < 55296)) (some (decide ((aB b.2 g) > 57343)))).bind fun i=>
 some i)).bind fun h=>
 some h
theorem qH (O0:Own c0 G F) (p0:List Int) (n:Int) {r:Bool} (Z:Sl (RI .u8) c0 v1 p0) (H:eQ p0 n=some r): Calls prog 163 #[v1,I n] c0.w (aO c0 fun c v=>Own c G (F)∧v=B r):=by
 unfold eQ at H;refine en func163 rfl rfl (sr (va (B false) (wln (sr (me (sl (RI .i64) 3 [[I 0],[I 0],[I 192],[I 224],[I 240]] ([0,0,192,224,240]:List Int) O0 ⟨rfl,rfl,rfl,rfl,rfl,trivial⟩) ?_)))));rintro v7 c6 l6 ⟨z,O3,h5⟩;refine va (v7) (wln (sr (me (sl (RI .i64) 3 [[I 0],[I 128],[I 32],[I 16],[I 8]] ([0,128,32,16,8]:List Int) O3 ⟨rfl,rfl,rfl,rfl,rfl,trivial⟩) ?_)));rintro v12 o3 i0 ⟨u9,O8,X⟩;refine va (v12) (wln (W.seq (rD [] (Kp G0 [es true (RI .i64) v7 3 z ([0,0,192,224,240]:List Int)]) O8 ?_)));intro N R E;have w2:Kp G0 [es true (RI .i64) v7 3 z ([0,0,192,224,240]:List Int)] N:=(Kp.cons (E.on 1 rfl) Kp.nil0);refine ta 0 (v1) (bn H fun f u0 H=>?_);obtain ⟨i3,z1,p2⟩:=Sl.at (Z.mono (l6.trans (i0.trans R))) (aX u0);obtain rfl:=z1;refine tx 1 (fun c' h0=>ix lG Z.m u0) (tx 2 (fun c' h0=>l1 u_5 ((mm p2) 0 _ rfl)) (ta 3 (I (w64 f)) (ta 4 (v7) (ta 5 (I n) (bn H fun h a0 H=>tx 6 (fun c' h0=>ixO rP h5.m a0) ?_)))));obtain ⟨j3,b2,q2⟩:=OA.at (h5.mono (i0.trans R)) a0;obtain rfl:=b2;refine AC.takeK 7 (I h) w2 rfl (by kernel_rfl) (by kernel_rfl) (by kernel_rfl) (fun c' h0 hk=>(rx (by kernel_rfl) (mu u_3 rfl (hk.on 0 rfl) (h5.m.blk a0) (at1 (j:=0) q2 rfl)))) (ta 8 (I (w64 ((w64 f) - h))) (ta 9 (I (w64 ((w64 f) - h))) (dn (nrm (W.seq (W.seq (bn H fun f1 v0 H=>W.join (Jn N fun c l=>Own c G (es true (RI .i64) v12 3 u9 ([0,128,32,16,8]:List Int) :: es true (RI .i64) v7 3 z ([0,0,192,224,240]:List Int) :: F)∧l= [(0,v1),(1,I n),(7,I (w64 ((w64 f) - h))),(34,B f1)]) ?_ ?_)))))))
 ·clear H;refine W.region (va (I (w64 ((w64 f) - h))) (va (B (decide ((w64 ((w64 f) - h)) < 0))) ?_));rcases bo (decide ((w64 ((w64 f) - h)) < 0)) with s | s
  ·obtain rfl:=orT s v0;exact vb s (pz (pz (pz (va (B true) (wln (jn N ⟨E,rfl⟩))))))
  have T:=orF s v0;refine vb s (wa (I (w64 ((w64 f) - h))) (wa (v12) (wa (I n) (wn (bn T fun A b0 T=>vx (ixO rP X.m b0) (wn ?_))))));obtain ⟨k3,c2,s2⟩:=OA.at (X.mono R) b0;obtain rfl:=c2;refine vr (I A) (rx (by kernel_rfl) (mu u_3 rfl (E.on 0 rfl) (X.m.blk b0) (at1 (j:=0) s2 rfl))) (wa (B (decide ((w64 ((w64 f) - h))≥A))) ?_);obtain rfl:=si T;exact va (B (decide ((w64 ((w64 f) - h))≥A))) (wln (jn N ⟨E,rfl⟩))
 rintro U w_ ⟨p,s3,_,rfl,l2,rfl,q0,rfl⟩;refine nrm (cn H (fun d2 H=>?_) (fun d2 H=>?_))
 ·refine sr (va (B false) (wln (W.ret (thr ?_))));obtain rfl:=si H;have n1:=q0.sD 2 [];exact r1 (qq p ⟨n1,rfl⟩)
 refine W.skip (nrm (sr (vv (I (w64 ((w64 f) - h))) (vv (I (w64 ((w64 f) - h))) (wln (W.seq (sr (va (I 1) (wln (W.block (bn H fun b w0 k=>lp w0 (fun a=>Jn p fun c l=>Own c G (es true (RI .i64) v12 3 u9 ([0,128,32,16,8]:List Int) :: es true (RI .i64) v7 3 z ([0,0,192,224,240]:List Int) :: F)∧l= [(0,v1),(1,I n),(8,I a.1),(9,I a.2.1),(10,I a.2.2)]) (fun t=>match t with | .inl x_=>(fun x2 ex e w=>ex= .ret∧(Jn p fun c l=>Own c G (F)∧l= [(4,B x2)]) e w) x_ | .inr x_=>(fun S ex e w=>ex= .exit 0∧(Jn p fun c l=>Own c G (es true (RI .i64) v12 3 u9 ([0,128,32,16,8]:List Int) :: es true (RI .i64) v7 3 z ([0,0,192,224,240]:List Int) :: F)∧l= [(1,I n),(8,I S.1),(9,I S.2)]) e w) x_) ?_ ?_ ?_)))))))))))
 ·clear k w0;intro a b4 x1 a3 H;revert x1 a3;rintro U w_ ⟨q,t3,_,rfl,m2,rfl,M,rfl⟩;refine W.seq (sr (va (I a.2.2) (va (I n) (va (B (decide (a.2.2 < n))) (wln (cn H (fun e2 H=>?_) (fun e2 H=>?_)))))))
  ·refine W.skip (nrm (W.seq (W.block (sr (va (I a.1) (vv (I (w64 (a.1 * 64))) (wln (sr (va (I a.2.1) (va (I (w64 (a.2.1 * 64))) (vv (I (w64 ((w64 (a.2.1 * 64))+63))) (wln (sr (va (I a.2.2) (va (v1) (vx (ln 3 lG Z.m) (va (B (decide (a.2.2 < (p0.length:Int)))) (wln (cn H (fun f2 H=>?_) (fun f2 H=>?_))))))))))))))))))))
   ·refine sr (va (v1) (va (I a.2.2) (bn H fun d x0 H=>?_)));obtain ⟨l3,g2,t2⟩:=Sl.at (Z.mono (l6.trans (i0.trans (R.trans (l2.trans m2))))) (aX x0);obtain rfl:=g2;refine vx (ix lG Z.m x0) (vx (l1 u_5 (t2 0 _ rfl)) (va (I (w64 d)) (vv (I (w64 ((w64 d) - 128))) (wln (W.seq (W.seq (bn H fun g1 y0 H=>W.join (Jn q fun c l=>Own c G (es true (RI .i64) v12 3 u9 ([0,128,32,16,8]:List Int) :: es true (RI .i64) v7 3 z ([0,0,192,224,240]:List Int) :: F)∧l= [(0,v1),(1,I n),(8,I (w64 (a.1 * 64))),(9,I (w64 ((w64 (a.2.1 * 64))+63))),(10,I a.2.2),(11,I (w64 ((w64 d) - 128))),(62,B g1)]) ?_ ?_)))))))
    ·clear H;refine W.region (va (I (w64 ((w64 d) - 128))) (va (B (decide ((w64 ((w64 d) - 128)) < 0))) ?_));rcases bo (decide ((w64 ((w64 d) - 128)) < 0)) with u | u
     ·obtain rfl:=orT u y0;exact vb u (pz (va (B true) (wln (jn q ⟨M,rfl⟩))))
     have k1:=orF u y0;refine vb u (wa (I (w64 ((w64 d) - 128))) (wa (B (decide ((w64 ((w64 d) - 128)) > 63))) ?_));obtain rfl:=si k1;exact va (B (decide ((w64 ((w64 d) - 128)) > 63))) (wln (jn q ⟨M,rfl⟩))
    rintro U w_ ⟨t0,u3,_,rfl,x3,rfl,s0,rfl⟩;refine nrm (cn H (fun i2 H=>?_) (fun i2 H=>?_))
    ·refine sr (va (B false) (wln (W.ret (thr (bkr (thr ?_))))));obtain rfl:=si H;refine ⟨_,rfl,⟨rfl,?_⟩⟩;have q1:=s0.sD 2 [];exact jn t0 ⟨q1,rfl⟩
    refine W.skip (nrm (sr (va (I (w64 (a.1 * 64))) (va (I (w64 ((w64 d) - 128))) (vv (I (w64 ((w64 (a.1 * 64))+(w64 ((w64 d) - 128))))) (wln (W.region (va (I (w64 ((w64 (a.2.1 * 64))+63))) (va (I (w64 ((w64 ((w64 (a.2.1 * 64))+63)) - 63))) (va (I (w64 ((w64 d) - 128))) (vv (I (w64 ((w64 ((w64 ((w64 (a.2.1 * 64))+63)) - 63))+(w64 ((w64 d) - 128))))) (WL.nil (bkn (nrm (W.region (va (I a.2.2) (vv (I (w64 (a.2.2+1))) (WL.nil ?_))))))))))))))))));obtain rfl:=si H;exact ⟨_,rfl,jn t0 ⟨s0,rfl⟩⟩
   refine W.skip (bkn (nrm (W.region (va (I a.2.2) (vv (I (w64 (a.2.2+1))) (WL.nil ?_))))));obtain rfl:=si H;exact ⟨_,rfl,jn q ⟨M,rfl⟩⟩
  refine W.exit (thx ?_);obtain rfl:=si H;exact ⟨_,rfl,rfl,jn q ⟨M,rfl⟩⟩
 ·exact jn p ⟨q0,rfl⟩
 rcases b with b | b
 ·intro y1; revert y1;rintro _ U w_ ⟨rfl,w1,v3,_,rfl,y3,rfl,s1,rfl⟩;refine bkr (thr ?_);obtain rfl:=si k;exact r1 (qq w1 ⟨s1,rfl⟩)
 rintro _ U w_ ⟨rfl,p3,w3,_,rfl,z3,rfl,t1,rfl⟩;refine bke (nrm (sr (me (sl (RI .i64) 3 [[I 0],[I 0],[I 128],[I 2048],[I 65536]] ([0,0,128,2048,65536]:List Int) t1 ⟨rfl,rfl,rfl,rfl,rfl,trivial⟩) ?_)));rintro k0 q3 a4 ⟨y2,u1,d0⟩;refine va (k0) (wln (sr (me (sl (RI .i64) 3 [[I 0],[I 127],[I 2047],[I 65535],[I 1114111]] ([0,127,2047,65535,1114111]:List Int) u1 ⟨rfl,rfl,rfl,rfl,rfl,trivial⟩) ?_)));rintro l0 P o2 ⟨z2,o,e0⟩;refine va (l0) (wln (sr (va (I b.1) (va (k0) (va (I n) (bn k fun i f0 k=>vx (ixO rP d0.m f0) ?_))))));obtain ⟨m3,j2,u2⟩:=OA.at (d0.mono o2) f0;obtain rfl:=j2;refine vr (I i) (rx (by kernel_rfl) (mu u_3 rfl (o.on 1 rfl) (d0.m.blk f0) (at1 (j:=0) u2 rfl))) (vv (I (aE b.1 i)) (wln (sr (va (I b.2) (va (l0) (va (I n) (bn k fun g g0 k=>vx (ixO rP e0 g0) ?_)))))));obtain ⟨n3,k2,v2⟩:=OA.at e0 g0;obtain rfl:=k2;refine vr (I g) (rx (by kernel_rfl) (mu u_3 rfl (o.on 0 rfl) (e0.blk g0) (at1 (j:=0) v2 rfl))) (vv (I (aB b.2 g)) (wln (W.seq (bn k fun o0 z0 k=>W.join (Jn P fun c l=>Own c G (es true (RI .i64) l0 3 z2 ([0,127,2047,65535,1114111]:List Int) :: es true (RI .i64) k0 3 y2 ([0,0,128,2048,65536]:List Int) :: es true (RI .i64) v12 3 u9 ([0,128,32,16,8]:List Int) :: es true (RI .i64) v7 3 z ([0,0,192,224,240]:List Int) :: F)∧l= [(4,B o0)]) ?_ ?_))))
 ·clear k;refine W.region (va (I (aE b.1 i)) (va (I (aB b.2 g)) (va (B (decide ((aE b.1 i)≤(aB b.2 g)))) ?_)));rcases bo (decide ((aE b.1 i)≤(aB b.2 g))) with x | x
  ·have D:=anT x z0;refine vb x (wa (I (aE b.1 i)) (wa (B (decide ((aE b.1 i) < 55296))) (wn (bn D fun b3 a1 D=>?_))));rcases bo (decide ((aE b.1 i) < 55296)) with y | y
   ·obtain rfl:=orT y a1;refine vb y (pz (wa (B true) ?_));obtain rfl:=si D;exact vv (B true) (wln (jn P ⟨o,rfl⟩))
   have m1:=orF y a1;refine vb y (wa (I (aB b.2 g)) (wa (B (decide ((aB b.2 g) > 57343))) (wn ?_)));obtain rfl:=si m1;refine va (B (decide ((aB b.2 g) > 57343))) ?_;obtain rfl:=si D;exact vv (B (decide ((aB b.2 g) > 57343))) (wln (jn P ⟨o,rfl⟩))
  obtain rfl:=anF x z0;exact vb x (pz (pz (pz (vv (B false) (wln (jn P ⟨o,rfl⟩))))))
 rintro U w_ ⟨e1,f3,_,rfl,h3,rfl,b1,rfl⟩;refine nrm (W.ret ?_);obtain rfl:=si k;have c1:=b1.sD 4 [];exact r1 (qq e1 ⟨c1,rfl⟩)
def bP (p0:List Int):Option (Int):=
 (cM (σ:=Int) (τ:=Int ⊕ Unit) (((4:Int) - 1).toNat+2) (fun a=>
 if (decide (a≤4))=true then
 (bV (decide ((p0.length:Int)≥1)) (some (decide ((p0.length:Int)≤a)))).bind fun c=>
 (bV c ((eQ p0 a).bind fun e=>
 some e)).bind fun d=>
 if d=true then
 some (.inr (.inl a))
 else
 some (.inl ((w64 (a+1))))
 else
 some (.inr (.inr ()))) (1)).bind fun b=>
 match b with
 | .inl b=>
 some b
 | .inr b=>
 some 0
theorem gN (O0:Own c0 G F) (f:List Int) {r:Int} (y:Sl (RI .u8) c0 v1 f) (H:bP f=some r): Calls prog 105 #[v1] c0.w (aO c0 fun c v=>Own c G (F)∧v=I r):=by
 unfold bP at H;refine en func105 rfl rfl (sr (va (I 0) (wln (W.seq (sr (va (I 1) (wln (W.block (bn H fun i h3 s=>lp h3 (fun a=>Jn c0 fun c l=>Own c G (F)∧l= [(0,v1),(3,I a)]) (fun t=>match t with | .inl A=>(fun e0 ex e w=>ex= .ret∧(Jn c0 fun c l=>Own c G (F)∧l= [(2,I e0)]) e w) A | .inr A=>(fun i0 ex e w=>ex= .exit 0∧(Jn c0 fun c l=>Own c G (F)∧l= []) e w) A) ?_ ?_ ?_)))))))))
 ·clear s h3;intro a t0 U f0 H;revert U f0;rintro x z ⟨k,g6,_,rfl,l5,rfl,j,rfl⟩;refine W.seq (sr (va (I a) (va (B (decide (a≤4))) (wln (cn H (fun Z H=>?_) (fun Z H=>?_))))))
  ·refine W.skip (nrm (W.seq (W.block (W.seq (bn H fun h0 p H=>bn H fun u h H=>W.join (Jn k fun c l=>Own c G (F)∧l= [(0,v1),(3,I a),(21,B u)]) ?_ ?_)))))
   ·clear H;refine W.region (va (v1) (vx (ln 3 lG y.m) (va (B (decide ((f.length:Int)≥1))) ?_)));rcases bo (decide ((f.length:Int)≥1)) with b | b
    ·have E:=anT b p;refine vb b (wa (v1) (wn (vx (ln 3 lG y.m) (wa (I a) (wa (B (decide ((f.length:Int)≤a))) ?_)))));obtain rfl:=si E;refine va (B (decide ((f.length:Int)≤a))) ?_;rcases bo (decide ((f.length:Int)≤a)) with d | d
     ·have g:=anT d h;refine vb d (wa (v1) (wa (I a) (wn (bn g fun D a0 g=>cl (qH j f a y.m a0) ?_))));rintro v24 R m0 ⟨M,rfl⟩;obtain rfl:=si g;exact va (B D) (wln (jn R ⟨M,rfl⟩))
     obtain rfl:=anF d h;exact vb d (pz (ps (va (B false) (wln (jn k ⟨j,rfl⟩)))))
    obtain rfl:=anF b p;refine vb b (pz (pz (va (B false) ?_)));have q:false=false:=rfl;obtain rfl:=anF q h;exact vb q (pz (ps (va (B false) (wln (jn k ⟨j,rfl⟩)))))
   rintro x z ⟨o,j0,_,rfl,o0,rfl,n,rfl⟩;refine nrm (cn H (fun d0 H=>?_) (fun d0 H=>?_))
   ·refine sr (vv (I a) (wln (W.ret (bkr (thr ?_)))));obtain rfl:=si H;exact ⟨_,rfl,⟨rfl,jn o ⟨n,rfl⟩⟩⟩
   refine W.skip (bkn (nrm (W.region (va (I a) (vv (I (w64 (a+1))) (WL.nil ?_))))));obtain rfl:=si H;exact ⟨_,rfl,jn o ⟨n,rfl⟩⟩
  refine W.exit (thx ?_);obtain rfl:=si H;exact ⟨_,rfl,rfl,jn k ⟨j,rfl⟩⟩
 ·exact jn c0 ⟨O0,rfl⟩
 rcases i with i | i
 ·intro X; revert X;rintro _ x z ⟨rfl,S,k0,_,rfl,q0,rfl,N,rfl⟩;refine bkr (thr ?_);obtain rfl:=si s;exact r1 (qq S ⟨N,rfl⟩)
 rintro _ x z ⟨rfl,T,l0,_,rfl,s0,rfl,P,rfl⟩;refine bke (nrm (sr (va (I 0) (wln (W.ret ?_)))));obtain rfl:=si s;exact r1 (qq T ⟨P,rfl⟩)
def eq (p0:List Int):Option (Int):=
 (idx p0 0).bind fun e=>
 (idx ([0,0,192,224,240]:List Int) (p0.length:Int)).bind fun c=>
 (cM (σ:=Int×Int) (τ:=Int) (((p0.length:Int) - 1).toNat+1) (fun a=>
 if (decide (a.2 < (p0.length:Int)))=true then
 (idx p0 a.2).bind fun d=>
 some (.inl ((w64 ((w64 ((w64 (a.1 * 64))+(w64 d))) - 128)),(w64 (a.2+1))))
 else
 some (.inr (a.1))) ((w64 ((w64 e) - c)),1)).bind fun b=>
 some (w32 b)
theorem mn (O0:Own c0 G F) (E:List Int) {r:Int} (h:Sl (RI .u8) c0 v1 E) (H:eq E=some r): Calls prog 164 #[v1] c0.w (aO c0 fun c v=>Own c G (F)∧v=J r):=by
 unfold eq at H;refine en func164 rfl rfl (sr (va (J 0) (wln (sr (me (sl (RI .i64) 3 [[I 0],[I 0],[I 192],[I 224],[I 240]] ([0,0,192,224,240]:List Int) O0 ⟨rfl,rfl,rfl,rfl,rfl,trivial⟩) ?_)))));rintro v7 c6 l6 ⟨q,O3,A⟩;refine va (v7) (wln (W.seq (rD [] (Kp G0 [es true (RI .i64) v7 3 q ([0,0,192,224,240]:List Int)]) O3 ?_)));intro o D P;have g0:Kp G0 [es true (RI .i64) v7 3 q ([0,0,192,224,240]:List Int)] o:=(Kp.cons (P.on 0 rfl) Kp.nil0);refine ta 0 (v1) (bn H fun k x H=>?_);obtain ⟨m0,T,d0⟩:=Sl.at (h.mono (l6.trans D)) (aX x);obtain rfl:=T;refine tx 1 (fun n g=>ix lG h.m x) (tx 2 (fun n g=>l1 u_5 ((mm d0) 0 _ rfl)) (ta 3 (I (w64 k)) (ta 4 (v7) (ta 5 (v1) (tx 6 (fun n g=>ln 3 lG h.m) (bn H fun f i H=>tx 7 (fun n g=>ixO rP A.m i) ?_))))));obtain ⟨o0,U,e0⟩:=OA.at (A.mono D) i;obtain rfl:=U;refine AC.takeK 8 (I f) g0 rfl (by kernel_rfl) (by kernel_rfl) (by kernel_rfl) (fun n g hk=>(rx (by kernel_rfl) (mu u_3 rfl (hk.on 0 rfl) (A.m.blk i) (at1 (j:=0) e0 rfl)))) (ta 9 (I (w64 ((w64 k) - f))) (ta 10 (I (w64 ((w64 k) - f))) (dn (nrm (W.seq (sr (va (I 1) (wln (W.block (bn H fun d y s=>lp y (fun a=>Jn o fun c l=>Own c G (es true (RI .i64) v7 3 q ([0,0,192,224,240]:List Int) :: F)∧l= [(0,v1),(4,I a.1),(5,I a.2)]) (fun p ex e w=>ex= .exit 0∧(Jn o fun c l=>Own c G (es true (RI .i64) v7 3 q ([0,0,192,224,240]:List Int) :: F)∧l= [(4,I p)]) e w) ?_ ?_ ?_))))))))))
 ·clear s y;intro a w0 S h0 H;revert S h0;rintro e_ w_ ⟨u,t0,_,rfl,a0,rfl,t,rfl⟩;refine W.seq (sr (va (I a.2) (va (v1) (vx (ln 3 lG h.m) (va (B (decide (a.2 < (E.length:Int)))) (wln (cn H (fun X H=>?_) (fun X H=>?_))))))))
  ·refine W.skip (nrm (W.seq (W.block (W.region (va (I a.1) (va (I (w64 (a.1 * 64))) (va (v1) (va (I a.2) (bn H fun b z H=>?_)))))))));obtain ⟨q0,Z,f0⟩:=Sl.at (h.mono (l6.trans (D.trans a0))) (aX z);obtain rfl:=Z;refine vx (ix lG h.m z) (vx (l1 u_5 (f0 0 _ rfl)) (va (I (w64 b)) (va (I (w64 ((w64 (a.1 * 64))+(w64 b)))) (vv (I (w64 ((w64 ((w64 (a.1 * 64))+(w64 b))) - 128))) (WL.nil (bkn (nrm (W.region (va (I a.2) (vv (I (w64 (a.2+1))) (WL.nil ?_)))))))))));obtain rfl:=si H;exact ⟨_,rfl,jn u ⟨t,rfl⟩⟩
  refine W.exit (thx ?_);obtain rfl:=si H;exact ⟨_,rfl,rfl,jn u ⟨t,rfl⟩⟩
 ·exact jn o ⟨P,rfl⟩
 rintro _ e_ w_ ⟨rfl,R,u0,_,rfl,v0,rfl,M,rfl⟩;refine bke (nrm (sr (va (I d) (vv (J (w32 d)) (wln (W.ret ?_))))));obtain rfl:=si s;have N:=M.sD 1 [];exact r1 (qq R ⟨N,rfl⟩)
def jt (p0:List Int) (p1:Int):Option ((List Int)×(List Int)):=none
theorem oK (g:Own c0 G F) (b:List Int) (d:Int) {r:(List Int)×(List Int)} (h:Sl (RI .u8) c0 v1 b) (H:jt b d=some r):
    Calls prog 106 #[v1,.int .u8 d] c0.w (aO c0 fun c v=>∃a e f,Own c G (es true (RI .i32) a 21 e r.1 :: F)∧v= .tuple #[a,f]∧OA (RI .i32) c a e r.1∧Sl (RI .u8) c f r.2):=by
 unfold jt at H
 cases H
def dF (p0:List Int) (p1:Int):Option ((List Int)×(List Int)):=
 (app ([]:List Int) p0).bind fun g=>
 (app g ([p1]:List Int)).bind fun b=>
 (bP b).bind fun a=>
 (bV (decide (a > 0)) (some (decide (a > (b.length:Int))))).bind fun d=>
 if d=true then
 some (([]:List Int),b)
 else
 if (decide (a > 0))=true then
 (eq b).bind fun e=>
 some (([e]:List Int),([]:List Int))
 else
 if ((p0.length:Int)==0)=true then
 some (([65533]:List Int),([]:List Int))
 else
 (jt ([]:List Int) p1).bind fun c=>
 (app ([65533]:List Int) c.1).bind fun f=>
 some (f,c.2)
theorem oJ (O0:Own c0 G F) (P:List Int) (d:Int) {r:(List Int)×(List Int)} (h2:Sl (RI .u8) c0 v1 P) (H:dF P d=some r): Calls prog 106 #[v1,.int .u8 d] c0.w (aO c0 fun c v=>∃R y2 y3,Own c G (es true (RI .i32) R 21 y2 r.1 :: F)∧v= .tuple #[R,y3]∧OA (RI .i32) c R y2 r.1∧Sl (RI .u8) c y3 r.2):=by
 unfold dF at H;refine en func106 rfl rfl (sr (vv (Y) (wln (sr (me (sl (RI .u8) 5 [] ([]:List Int) O0 trivial) ?_)))));rintro v7 c6 l6 ⟨u4,O3,h5⟩;refine va (v1) (bn H fun o3 h8 H=>me (ap (RI .u8) (.int .u8 0) 1 107 0 O3 h5 h2.m h8 rB) ?_);rintro v13 n2 z2 ⟨i3,O9,o0⟩;refine va (.int .u8 d) (me (sl (RI .u8) 5 [[.int .u8 d]] ([d]:List Int) O9 ⟨rfl,trivial⟩) ?_);rintro v18 o2 a3 ⟨u1,T,q0⟩;obtain ⟨p2,u0,b3,U,t0⟩:=T.frz 0 rfl q0;refine WL.gh u0 (bn H fun h v0 H=>me (ap (RI .u8) (.int .u8 0) 1 107 1 U o0.m t0 v0 rB) ?_);rintro v28 q2 c3 ⟨w1,X,i⟩;refine va (v28) (wln (sr (va (v28) ?_)));obtain ⟨s2,x0,u,Z,w0⟩:=X.frz 1 rfl i;refine WL.gh x0 (bn H fun a y0 H=>cl (gN Z h w0 y0) ?_);rintro v39 k x ⟨p,rfl⟩;refine va (I a) (wln (W.seq (W.seq (bn H fun M t H=>W.join (Jn k fun c l=>Own c G (es false (RI .u8) v18 5 u1 ([d]:List Int) :: es false (RI .u8) v28 5 w1 h :: F)∧l= [(0,v1),(1,.int .u8 d),(6,v28),(7,I a),(25,B M)]) ?_ ?_))))
 ·clear H;refine W.region (va (I a) (va (B (decide (a > 0))) ?_));rcases bo (decide (a > 0)) with g | g
  ·have S:=anT g t;refine vb g (wa (I a) (wa (v28) (wn (vx (lnO 3 rB i.m) (wa (B (decide (a > (h.length:Int)))) ?_)))));obtain rfl:=si S;exact va (B (decide (a > (h.length:Int)))) (wln (jn k ⟨p,rfl⟩))
  obtain rfl:=anF g t;exact vb g (pz (pz (va (B false) (wln (jn k ⟨p,rfl⟩)))))
 rintro e_ w_ ⟨s,x2,_,rfl,y,rfl,f,rfl⟩;refine nrm (cn H (fun z0 H=>?_) (fun z0 H=>?_))
 ·refine sr (va (v28) (va (Y) (va (v28) (wln (W.ret (thr ?_))))));obtain rfl:=si H;have a1:OA (RI .i32) s (Y) [] []:=OA.nil (aM _);have q:=f.addHole (e:=es true (RI .i32) (Y) 21 [] ([]:List Int)) rfl;have b1:=q.slf 2 rfl (i.mono (u.trans (x.trans y)));have a0:=q.sD 3 [0];exact r2 (qq s ⟨(Y),[],v28,a0,rfl,a1,b1⟩)
 refine W.skip (nrm (W.seq (sr (va (I a) (va (B (decide (a > 0))) (wln (cn H (fun c1 H=>?_) (fun c1 H=>?_))))))))
 ·refine sr (va (v28) ?_);have d1:=f.slf 1 rfl (i.mono (u.trans (x.trans y)));refine bn H fun o e1 H=>cl (mn f h d1 e1) ?_;rintro l3 t2 d3 ⟨b0,rfl⟩;refine me (sl (RI .i32) 21 [[J o]] ([o]:List Int) b0 ⟨rfl,trivial⟩) ?_;rintro z l0 e3 ⟨x1,d0,f1⟩;refine va (z) (va (Y) (wln (W.ret (thr ?_))));obtain rfl:=si H;have e0:=d0.sD 3 [0];exact r2 (qq l0 ⟨z,x1,(Y),e0,rfl,f1,(Sl.nl _ _)⟩)
 refine W.skip (nrm (W.seq (sr (va (v1) (vx (ln 3 rB h2.m) (va (B ((P.length:Int)==0)) (wln (cn H (fun g1 H=>?_) (fun g1 H=>?_)))))))))
 ·refine sr (me (sl (RI .i32) 21 [[J 65533]] ([65533]:List Int) f ⟨rfl,trivial⟩) ?_);rintro A m0 f3 ⟨z1,f0,h1⟩;refine va (A) (va (Y) (wln (W.ret (thr ?_))));obtain rfl:=si H;have g0:=f0.sD 3 [0];exact r2 (qq m0 ⟨A,z1,(Y),g0,rfl,h1,(Sl.nl _ _)⟩)
 refine W.skip (nrm (sr (va (.int .u8 d) (bn H fun l2 i1 H=>cl (oK f ([]:List Int) d (Sl.nl _ _) i1) ?_))));rintro m3 u2 g3 ⟨j,j3,b,h0,rfl,j1,k1⟩;refine va (.tuple #[j,b]) (va (j) (va (b) (va (j) (va (b) (wln (sr (me (sl (RI .i32) 21 [[J 65533]] ([65533]:List Int) h0 ⟨rfl,trivial⟩) ?_)))))));rintro n3 v2 t1 ⟨k3,i0,m1⟩;refine va (j) ?_;obtain ⟨w2,q1,h3,j0,n1⟩:=i0.frz 1 rfl (j1.mono t1);refine WL.gh q1 (bn H fun m2 s1 H=>me (ap (RI .i32) (J 0) 4 32 0 j0 m1.m n1 s1 dS) ?_);rintro n E k2 ⟨b2,k0,N⟩;refine va (b) (va (n) (va (b) (wln (W.ret ?_))));obtain rfl:=si H;have D:=k0.sD 4 [0];exact r2 (qq E ⟨n,b2,b,D,rfl,N,k1.m⟩)
def gi (p0:List Int) (p1:Int):Option ((List Int)×(List Int)):=
 (app ([]:List Int) p0).bind fun g=>
 (app g ([p1]:List Int)).bind fun b=>
 (bP b).bind fun a=>
 (bV (decide (a > 0)) (some (decide (a > (b.length:Int))))).bind fun d=>
 if d=true then
 some (([]:List Int),b)
 else
 if (decide (a > 0))=true then
 (eq b).bind fun e=>
 some (([e]:List Int),([]:List Int))
 else
 if ((p0.length:Int)==0)=true then
 some (([65533]:List Int),([]:List Int))
 else
 (dF ([]:List Int) p1).bind fun c=>
 (app ([65533]:List Int) c.1).bind fun f=>
 some (f,c.2)
theorem qI (O0:Own c0 G F) (P:List Int) (d:Int) {r:(List Int)×(List Int)} (h2:Sl (RI .u8) c0 v1 P) (H:gi P d=some r): Calls prog 106 #[v1,.int .u8 d] c0.w (aO c0 fun c v=>∃R y2 y3,Own c G (es true (RI .i32) R 21 y2 r.1 :: F)∧v= .tuple #[R,y3]∧OA (RI .i32) c R y2 r.1∧Sl (RI .u8) c y3 r.2):=by
 unfold gi at H;refine en func106 rfl rfl (sr (vv (Y) (wln (sr (me (sl (RI .u8) 5 [] ([]:List Int) O0 trivial) ?_)))));rintro v7 c6 l6 ⟨u4,O3,h5⟩;refine va (v1) (bn H fun o3 h8 H=>me (ap (RI .u8) (.int .u8 0) 1 107 0 O3 h5 h2.m h8 rB) ?_);rintro v13 n2 z2 ⟨i3,O9,o0⟩;refine va (.int .u8 d) (me (sl (RI .u8) 5 [[.int .u8 d]] ([d]:List Int) O9 ⟨rfl,trivial⟩) ?_);rintro v18 o2 a3 ⟨u1,T,q0⟩;obtain ⟨p2,u0,b3,U,t0⟩:=T.frz 0 rfl q0;refine WL.gh u0 (bn H fun h v0 H=>me (ap (RI .u8) (.int .u8 0) 1 107 1 U o0.m t0 v0 rB) ?_);rintro v28 q2 c3 ⟨w1,X,i⟩;refine va (v28) (wln (sr (va (v28) ?_)));obtain ⟨s2,x0,u,Z,w0⟩:=X.frz 1 rfl i;refine WL.gh x0 (bn H fun a y0 H=>cl (gN Z h w0 y0) ?_);rintro v39 k x ⟨p,rfl⟩;refine va (I a) (wln (W.seq (W.seq (bn H fun M t H=>W.join (Jn k fun c l=>Own c G (es false (RI .u8) v18 5 u1 ([d]:List Int) :: es false (RI .u8) v28 5 w1 h :: F)∧l= [(0,v1),(1,.int .u8 d),(6,v28),(7,I a),(25,B M)]) ?_ ?_))))
 ·clear H;refine W.region (va (I a) (va (B (decide (a > 0))) ?_));rcases bo (decide (a > 0)) with g | g
  ·have S:=anT g t;refine vb g (wa (I a) (wa (v28) (wn (vx (lnO 3 rB i.m) (wa (B (decide (a > (h.length:Int)))) ?_)))));obtain rfl:=si S;exact va (B (decide (a > (h.length:Int)))) (wln (jn k ⟨p,rfl⟩))
  obtain rfl:=anF g t;exact vb g (pz (pz (va (B false) (wln (jn k ⟨p,rfl⟩)))))
 rintro e_ w_ ⟨s,x2,_,rfl,y,rfl,f,rfl⟩;refine nrm (cn H (fun z0 H=>?_) (fun z0 H=>?_))
 ·refine sr (va (v28) (va (Y) (va (v28) (wln (W.ret (thr ?_))))));obtain rfl:=si H;have a1:OA (RI .i32) s (Y) [] []:=OA.nil (aM _);have q:=f.addHole (e:=es true (RI .i32) (Y) 21 [] ([]:List Int)) rfl;have b1:=q.slf 2 rfl (i.mono (u.trans (x.trans y)));have a0:=q.sD 3 [0];exact r2 (qq s ⟨(Y),[],v28,a0,rfl,a1,b1⟩)
 refine W.skip (nrm (W.seq (sr (va (I a) (va (B (decide (a > 0))) (wln (cn H (fun c1 H=>?_) (fun c1 H=>?_))))))))
 ·refine sr (va (v28) ?_);have d1:=f.slf 1 rfl (i.mono (u.trans (x.trans y)));refine bn H fun o e1 H=>cl (mn f h d1 e1) ?_;rintro l3 t2 d3 ⟨b0,rfl⟩;refine me (sl (RI .i32) 21 [[J o]] ([o]:List Int) b0 ⟨rfl,trivial⟩) ?_;rintro z l0 e3 ⟨x1,d0,f1⟩;refine va (z) (va (Y) (wln (W.ret (thr ?_))));obtain rfl:=si H;have e0:=d0.sD 3 [0];exact r2 (qq l0 ⟨z,x1,(Y),e0,rfl,f1,(Sl.nl _ _)⟩)
 refine W.skip (nrm (W.seq (sr (va (v1) (vx (ln 3 rB h2.m) (va (B ((P.length:Int)==0)) (wln (cn H (fun g1 H=>?_) (fun g1 H=>?_)))))))))
 ·refine sr (me (sl (RI .i32) 21 [[J 65533]] ([65533]:List Int) f ⟨rfl,trivial⟩) ?_);rintro A m0 f3 ⟨z1,f0,h1⟩;refine va (A) (va (Y) (wln (W.ret (thr ?_))));obtain rfl:=si H;have g0:=f0.sD 3 [0];exact r2 (qq m0 ⟨A,z1,(Y),g0,rfl,h1,(Sl.nl _ _)⟩)
 refine W.skip (nrm (sr (va (.int .u8 d) (bn H fun l2 i1 H=>cl (oJ f ([]:List Int) d (Sl.nl _ _) i1) ?_))));rintro m3 u2 g3 ⟨j,j3,b,h0,rfl,j1,k1⟩;refine va (.tuple #[j,b]) (va (j) (va (b) (va (j) (va (b) (wln (sr (me (sl (RI .i32) 21 [[J 65533]] ([65533]:List Int) h0 ⟨rfl,trivial⟩) ?_)))))));rintro n3 v2 t1 ⟨k3,i0,m1⟩;refine va (j) ?_;obtain ⟨w2,q1,h3,j0,n1⟩:=i0.frz 1 rfl (j1.mono t1);refine WL.gh q1 (bn H fun m2 s1 H=>me (ap (RI .i32) (J 0) 4 32 0 j0 m1.m n1 s1 dS) ?_);rintro n E k2 ⟨b2,k0,N⟩;refine va (b) (va (n) (va (b) (wln (W.ret ?_))));obtain rfl:=si H;have D:=k0.sD 4 [0];exact r2 (qq E ⟨n,b2,b,D,rfl,N,k1.m⟩)
def dO (p0:List Int) (p1:List Int):Option ((List Int)×(List Int)):=
 (cM (σ:=(List Int)×(List Int)×Int) (τ:=((List Int)×(List Int))) (((p1.length:Int) - 0).toNat+1) (fun a=>
 if (decide (a.2.2 < (p1.length:Int)))=true then
 (idx p1 a.2.2).bind fun d=>
 (gi a.1 d).bind fun b=>
 (app a.2.1 b.1).bind fun e=>
 some (.inl (b.2,e,(w64 (a.2.2+1))))
 else
 some (.inr (a.1,a.2.1))) (p0,([]:List Int),0)).bind fun c=>
 some (c.2,c.1)
theorem mU (O0:Own c0 G F) (p0:List Int) (n:List Int) {r:(List Int)×(List Int)} (h2:Sl (RI .u8) c0 v1 p0) (k:Sl (RI .u8) c0 v3 n) (H:dO p0 n=some r): Calls prog 65 #[v1,v3] c0.w (aO c0 fun c v=>∃p y2 y3,Own c G (es true (RI .i32) p 21 y2 r.1 :: F)∧v= .tuple #[p,y3]∧OA (RI .i32) c p y2 r.1∧Sl (RI .u8) c y3 r.2):=by
 unfold dO at H;refine en func65 rfl rfl (sr (vv (Y) (wln (sr (va (Y) (wln (W.seq (sr (va (I 0) (wln (W.block (bn H fun f1 h5 q=>lp h5 (fun a=>Jn c0 fun c l=>∃v7 f v9,Own c G (es true (RI .i32) v7 21 f a.2.1 :: F)∧l= [(0,v9),(1,v3),(6,v7),(7,I a.2.2)]∧OA (RI .i32) c v7 f a.2.1∧Sl (RI .u8) c v9 a.1) (fun b ex e w=>ex= .exit 0∧(Jn c0 fun c l=>∃v10 d v12,Own c G (es true (RI .i32) v10 21 d b.2 :: F)∧l= [(0,v12),(6,v10)]∧OA (RI .i32) c v10 d b.2∧Sl (RI .u8) c v12 b.1) e w) ?_ ?_ ?_))))))))))))
 ·clear q h5;intro a h1 M k0 H;revert M k0;rintro e_ w_ ⟨A,z0,_,rfl,g0,rfl,v7,f,v9,g,rfl,h,i⟩;refine W.seq (sr (va (I a.2.2) (va (v3) (vx (ln 3 lG k.m) (va (B (decide (a.2.2 < (n.length:Int)))) (wln (cn H (fun N H=>?_) (fun N H=>?_))))))))
  ·refine W.skip (nrm (W.seq (W.block (sr (va (Y) (wln (sr (va (v9) (va (v3) (va (I a.2.2) (bn H fun o j H=>?_)))))))))));obtain ⟨t0,P,h0⟩:=Sl.at (k.mono g0) (aX j);obtain rfl:=P;refine vx (ix lG k.m j) (vx (l1 u_5 (h0 0 _ rfl)) (bn H fun v0 R H=>cl (qI g a.1 o i R) ?_));rintro v37 x0 b1 ⟨v27,g1,v30,s,rfl,S,T⟩;refine va (.tuple #[v27,v30]) (va (v27) (va (v30) (va (v27) (va (v30) (wln (W.region (va (v7) (va (v27) ?_))))))));obtain ⟨y0,X,c1,t,U⟩:=s.frz 0 rfl S;refine WL.gh X (bn H fun w0 Z H=>me (ap (RI .i32) (J 0) 4 32 1 t h.m U Z dS) ?_);rintro v47 D d1 ⟨j0,u,a0⟩;refine va (v47) (WL.nil (bkn (nrm (W.region (va (I a.2.2) (vv (I (w64 (a.2.2+1))) (WL.nil ?_)))))));obtain rfl:=si H;refine ⟨_,rfl,?_⟩;have x:=u.sD 2 [1];exact jn D ⟨v47,j0,v30,x,rfl,a0,T.m⟩
  refine W.exit (thx ?_);obtain rfl:=si H;exact ⟨_,rfl,rfl,jn A ⟨v7,f,v9,g,rfl,h,i⟩⟩
 ·have d0:OA (RI .i32) c0 (Y) [] []:=OA.nil (aM _);have y:=O0.addHole (e:=es true (RI .i32) (Y) 21 [] ([]:List Int)) rfl;exact jn c0 ⟨(Y),[],v1,y,rfl,d0,h2⟩
 rintro _ e_ w_ ⟨rfl,E,a1,_,rfl,e1,rfl,v10,d,v12,z,rfl,e0,f0⟩;refine bke (nrm (sr (va (v10) (va (v12) (va (v10) (va (v12) (wln (W.ret ?_))))))));obtain rfl:=si q;exact r2 (qq E ⟨v10,d,v12,z,rfl,e0,f0⟩)
def gH (p0:List Int):Option (List bU):=
 (cM (σ:=(List bU)×Int) (τ:=(List bU)) (((p0.length:Int) - 0).toNat+1) (fun a=>
 if (decide (a.2 < (p0.length:Int)))=true then
 (cM (σ:=Int) (τ:=Int) (((p0.length:Int) - (w64 (a.2+0))).toNat+1) (fun c=>
 (bV (decide ((w64 (a.2+c)) < (p0.length:Int))) ((slc p0 a.2 (w64 ((w64 (a.2+c))+1))).bind fun h=>
 (bP h).bind fun i=>
 some (decide (i > 0)))).bind fun g=>
 if g=true then
 (slc p0 a.2 (w64 (a.2+(w64 (c+1))))).bind fun j=>
 (bP j).bind fun k=>
 if (k==(w64 (c+1)))=true then
 some (.inr ((w64 (c+1))))
 else
 some (.inl ((w64 (c+1))))
 else
 some (.inr (c))) (0)).bind fun b=>
 (if (decide (b > 0))=true then
 (slc p0 a.2 (w64 (a.2+b))).bind fun l=>
 (dO ([]:List Int) l).bind fun e=>
 if ((e.2.length:Int)==0)=true then
 (idx e.1 0).bind fun m=>
 some (m,b,(w64 (a.2+b)),false)
 else
 some (65533,(aE b 1),(aB (w64 ((w64 (a.2+b))+1)) (p0.length:Int)),true)
 else
 some (65533,(aE b 1),(w64 (a.2+1)),true)).bind fun d=>
 (app a.1 ([(⟨d.1,a.2,d.2.1,d.2.2.1,d.2.2.2⟩:bU)]:List bU)).bind fun f=>
 some (.inl (f,(w64 (a.2+d.2.1))))
 else
 some (.inr (a.1))) (([]:List bU),0)).bind fun n=>
 some n
theorem rp (O0:Own c0 G F) (n:List Int) {r:List bU} (u:Sl (RI .u8) c0 v1 n) (H:gH n=some r): Calls prog 64 #[v1] c0.w (aO c0 fun c v=>∃y1 y2,Own c G (es true bj y1 106 y2 r :: F)∧v=y1∧OA bj c y1 y2 r):=by
 unfold gH at H;refine en func64 rfl rfl (sr (va (Y) (wln (sr (va (Y) (wln (sr (va (I 0) (wln (W.seq (W.block (bn H fun p4 h3 H4=>lp h3 (fun a=>Jn c0 fun c l=>∃v5 o,Own c G (es true bj v5 106 o a.1 :: F)∧l= [(0,v1),(3,v5),(4,I a.2)]∧OA bj c v5 o a.1) (fun P ex e w=>ex= .exit 0∧(Jn c0 fun c l=>∃v7 u8,Own c G (es true bj v7 106 u8 P :: F)∧l= [(3,v7)]∧OA bj c v7 u8 P) e w) ?_ ?_ ?_))))))))))))
 ·clear H4 h3;intro a m3 E T H;revert E T;rintro D S ⟨X,h4,_,rfl,l9,rfl,v5,o,d0,rfl,l0⟩;refine W.seq (sr (va (I a.2) (va (v1) (vx (ln 3 lG u.m) (va (B (decide (a.2 < (n.length:Int)))) (wln (cn H (fun i2 H=>?_) (fun i2 H=>?_))))))))
  ·refine W.skip (nrm (W.block (sr (va (I 0) (wln (W.seq (W.block (bn H fun b m0 b0=>lp m0 (fun f=>Jn X fun c l=>Own c G (es true bj v5 106 o a.1 :: F)∧l= [(0,v1),(3,v5),(4,I a.2),(5,I f)]) (fun Z ex e w=>ex= .exit 2∧(Jn X fun c l=>Own c G (es true bj v5 106 o a.1 :: F)∧l= [(0,v1),(3,v5),(4,I a.2),(5,I Z)]) e w) ?_ ?_ ?_))))))))
   ·clear b0 m0;intro f m3 E T H;revert E T;rintro D S ⟨i0,i4,_,rfl,q0,rfl,e0,rfl⟩;refine W.seq (W.seq (bn H fun z0 o0 H=>W.join (Jn i0 fun c l=>Own c G (es true bj v5 106 o a.1 :: F)∧l= [(0,v1),(3,v5),(4,I a.2),(5,I f),(29,B z0)]) ?_ ?_))
    ·clear H;refine W.region (va (I a.2) (va (I f) (va (I (w64 (a.2+f))) (va (v1) (vx (ln 3 lG u.m) (va (B (decide ((w64 (a.2+f)) < (n.length:Int)))) ?_))))));rcases bo (decide ((w64 (a.2+f)) < (n.length:Int))) with i | i
     ·have h:=anT i o0;refine vb i (wa (v1) (wa (I a.2) (wa (I a.2) (wa (I f) (wa (I (w64 (a.2+f))) (wa (I (w64 ((w64 (a.2+f))+1))) (wn (bn h fun j1 j2 h=>?_))))))));obtain ⟨v29,l2,m2⟩:=uF (k:= .i64) (k':= .i64) lG (by kernel_rfl) (u.mono (l9.trans q0)) j2;refine vr v29 (rx (by kernel_rfl) (l2 _)) (wn (bn h fun U n2 h=>cl (gN e0 j1 m2 n2) ?_));rintro v38 d2 l4 ⟨t1,rfl⟩;refine wa (B (decide (U > 0))) ?_;obtain rfl:=si h;exact va (B (decide (U > 0))) (wln (jn d2 ⟨t1,rfl⟩))
     obtain rfl:=anF i o0;exact vb i (pz (pz (pz (pz (ps (va (B false) (wln (jn i0 ⟨e0,rfl⟩))))))))
    rintro D S ⟨e2,j4,_,rfl,e3,rfl,f0,rfl⟩;refine nrm (cn H (fun o2 H=>?_) (fun o2 H=>?_))
    ·refine W.skip (nrm (W.block (sr (va (I f) (vv (I (w64 (f+1))) (wln (sr (va (v1) (vv (I a.2) (va (I (w64 (f+1))) (va (I (w64 (a.2+(w64 (f+1))))) (bn H fun k1 p2 H=>?_))))))))))));obtain ⟨v47,q2,s2⟩:=uF (k:= .i64) (k':= .i64) lG (by kernel_rfl) (u.mono (l9.trans (q0.trans e3))) p2;refine vr v47 (rx (by kernel_rfl) (q2 _)) (bn H fun m1 t2 H=>cl (gN f0 k1 s2 t2) ?_);rintro v56 j0 m4 ⟨g0,rfl⟩;refine va (I (w64 (f+1))) (va (B (m1==(w64 (f+1)))) (wln (cn H (fun u2 H=>?_) (fun u2 H=>?_))))
     ·refine W.exit (bko rfl ?_);obtain rfl:=si H;exact ⟨_,rfl,rfl,jn j0 ⟨g0,rfl⟩⟩
     refine W.skip (bkn ?_);obtain rfl:=si H;exact ⟨_,rfl,jn j0 ⟨g0,rfl⟩⟩
    refine W.exit (thx ?_);obtain rfl:=si H;exact ⟨_,rfl,rfl,jn e2 ⟨f0,rfl⟩⟩
   ·exact jn X ⟨d0,rfl⟩
   rintro _ D S ⟨rfl,e4,k4,_,rfl,f3,rfl,u1,rfl⟩;refine bke (nrm (sr (va (I a.2) (va (I b) (va (I (aE b 1)) (va (I a.2) (va (I (w64 (a.2+1))) (va (.agg #[J 65533,I a.2,I (aE b 1),I (w64 (a.2+1)),B true]) (me (al 106 [J 0,I 0,I 0,I 0,B false] u1) ?_)))))))));rintro r4 f4 g3 ⟨q,rfl,w1⟩;refine md (sA 106 [J 65533,I a.2,I (aE b 1),I (w64 (a.2+1)),B true] 0 w1 ⟨rfl,rfl,rfl,rfl,rfl,trivial⟩) ?_;rintro k0 i3 h0;refine wln (bn b0 fun d g x=>W.seqJ (Jn k0 fun c l=>Own c G ((Eb q 106 [J d.1,I a.2,I d.2.1,I d.2.2.1,B d.2.2.2]) :: es true bj v5 106 o a.1 :: F)∧l= [(0,v1),(3,v5),(4,I a.2),(6,Q q)]) ?_ ?_)
   ·refine sr (va (I b) (va (B (decide (b > 0))) (wln (cn g (fun v2 g=>?_) (fun v2 g=>?_)))))
    ·refine sr (va (v1) (vv (I a.2) (va (I b) (va (I (w64 (a.2+b))) (bn g fun n1 w2 g=>?_)))));obtain ⟨l3,x2,z2⟩:=uF (k:= .i64) (k':= .i64) lG (by kernel_rfl) (u.mono (l9.trans (f3.trans (g3.trans i3)))) w2;refine vr l3 (rx (by kernel_rfl) (x2 _)) (bn g fun p1 a3 g=>cl (mU h0 ([]:List Int) n1 (Sl.nl _ _) z2 a3) ?_);rintro s4 g4 n4 ⟨s,q4,t,x1,rfl,M,b3⟩;refine va (.tuple #[s,t]) (va (s) (va (t) (va (s) (va (t) (wln (sr (va (I a.2) (va (I b) (va (I (w64 (a.2+b))) (va (I (w64 ((w64 (a.2+b))+1))) (va (v1) (vx (ln 3 lG u.m) (va (I (aB (w64 ((w64 (a.2+b))+1)) (n.length:Int))) (va (Qo q 3) (md (sC 3 3 (I (aB (w64 ((w64 (a.2+b))+1)) (n.length:Int))) [J 65533,I a.2,I (aE b 1),I (aB (w64 ((w64 (a.2+b))+1)) (n.length:Int)),B true] 1 x1 ⟨rfl,trivial⟩) ?_)))))))))))))));rintro f2 j3 A;refine wln (sr (va (t) (vx (ln 3 rB b3.m) (va (B ((p1.2.length:Int)==0)) (wln (cn g (fun c3 g=>?_) (fun c3 g=>?_)))))))
     ·refine W.region (va (s) (bn g fun p N g=>vx (ixO dS M.m N) ?_));obtain ⟨b4,d3,k3⟩:=OA.at (M.mono j3) N;obtain rfl:=d3;refine vr (J p) (rx (by kernel_rfl) (mu nc rfl (A.on 0 rfl) (M.m.blk N) (at1 (j:=0) k3 rfl))) (va (I a.2) (va (I b) (va (I a.2) (va (I b) (va (I (w64 (a.2+b))) (va (.agg #[J p,I a.2,I b,I (w64 (a.2+b)),B false]) (md (sA 106 [J p,I a.2,I b,I (w64 (a.2+b)),B false] 1 A ⟨rfl,rfl,rfl,rfl,rfl,trivial⟩) ?_)))))));rintro g2 o4 z1;refine wln ?_;obtain rfl:=si g;have b2:=z1.sD 3 [1,2];exact jn g2 ⟨b2,rfl⟩
     refine W.skip (nrm ?_);obtain rfl:=si g;have c2:=A.sD 3 [1,2];exact jn f2 ⟨c2,rfl⟩
    refine W.skip (nrm ?_);obtain rfl:=si g;exact jn k0 ⟨h0,rfl⟩
   rintro D S ⟨q3,u3,_,rfl,w3,rfl,y,rfl⟩;refine sr (va (v5) (vx (leN 106 0 [J d.1,I a.2,I d.2.1,I d.2.2.1,B d.2.2.2] (y.on 0 rfl)) (me (sl bj 106 [[J d.1,I a.2,I d.2.1,I d.2.2.1,B d.2.2.2]] ([(⟨d.1,a.2,d.2.1,d.2.2.1,d.2.2.2⟩:bU)]:List bU) y ⟨rfl,trivial⟩) ?_)));rintro d4 s3 x3 ⟨c4,s0,a1⟩;obtain ⟨t3,c1,y3,t0,b1⟩:=s0.frz 0 rfl a1;refine WL.gh c1 (bn x fun o3 d1 x=>me (ap bj (.agg #[J 0,I 0,I 0,I 0,B false]) 40 103 2 t0 l0.m b1 d1 wq) ?_);rintro R x0 z3 ⟨i1,z,e1⟩;refine va (R) (wln (W.region (va (I a.2) (va (Qo q 2) (vx (le1 2 u_3 (z.on 1 rfl)) (vv (I (w64 (a.2+d.2.1))) (WL.nil (bkn ?_))))))));obtain rfl:=si x;refine ⟨_,rfl,?_⟩;have u0:=z.sD 3 [2];exact jn x0 ⟨R,i1,u0,rfl,e1⟩
  refine W.exit (thx ?_);obtain rfl:=si H;exact ⟨_,rfl,rfl,jn X ⟨v5,o,d0,rfl,l0⟩⟩
 ·have f1:OA bj c0 (Y) [] []:=OA.nil (aM _);have v0:=O0.addHole (e:=es true bj (Y) 106 [] ([]:List bU)) rfl;exact jn c0 ⟨(Y),[],v0,rfl,f1⟩
 rintro _ D S ⟨rfl,y0,v3,_,rfl,a4,rfl,v7,u8,w0,rfl,g1⟩;refine bke (nrm (sr (vv (v7) (wln (W.ret ?_)))));obtain rfl:=si H4;exact r1 (qq y0 ⟨v7,u8,w0,rfl,g1⟩)
def fB (p0:List Int):Option (List aw):=
 (cM (σ:=(List aw)×Int) (τ:=(List aw)) (((p0.length:Int) - 0).toNat+1) (fun a=>
 if (decide (a.2 < (p0.length:Int)))=true then
 (idx p0 a.2).bind fun b=>
 (dM b).bind fun c=>
 (app a.1 ([c]:List aw)).bind fun d=>
 some (.inl (d,(w64 (a.2+1))))
 else
 some (.inr (a.1))) (([]:List aw),0)).bind fun e=>
 some e
theorem pH (O0:Own c0 G F) (n:List Int) {r:List aw} (k:Sl (RI .i32) c0 v1 n) (H:fB n=some r): Calls prog 132 #[v1] c0.w (aO c0 fun c v=>∃p y2,Own c G (es true cE p 238 y2 r :: F)∧v=p∧OA cE c p y2 r):=by
 unfold fB at H;refine en func132 rfl rfl (sr (va (Y) (wln (sr (va (Y) (wln (W.seq (sr (va (I 0) (wln (W.block (bn H fun c1 S q=>lp S (fun a=>Jn c0 fun c l=>∃v5 f,Own c G (es true cE v5 238 f a.1 :: F)∧l= [(0,v1),(3,v5),(4,I a.2)]∧OA cE c v5 f a.1) (fun d ex e w=>ex= .exit 0∧(Jn c0 fun c l=>∃v7 g,Own c G (es true cE v7 238 g d :: F)∧l= [(3,v7)]∧OA cE c v7 g d) e w) ?_ ?_ ?_))))))))))))
 ·clear q S;intro a e1 M g0 H;revert M g0;rintro e_ w_ ⟨c9,v0,_,rfl,l9,rfl,v5,f,h,rfl,i⟩;refine W.seq (sr (va (I a.2) (va (v1) (vx (ln 3 dS k.m) (va (B (decide (a.2 < (n.length:Int)))) (wln (cn H (fun N H=>?_) (fun N H=>?_))))))))
  ·refine W.skip (nrm (W.seq (W.block (W.region (va (v5) (va (v1) (va (I a.2) (bn H fun o j H=>?_))))))));obtain ⟨m0,P,e0⟩:=Sl.at (k.mono l9) (aX j);obtain rfl:=P;refine vx (ix dS k.m j) (vx (l1 nc (e0 0 _ rfl)) (bn H fun b R H=>cl (nx h o R) ?_));rintro v27 s0 x0 ⟨s,rfl⟩;refine me (sl cE 238 [[I b.Break,B b.Pict,I b.Conj,I b.East]] ([b]:List aw) s ⟨rfl,trivial⟩) ?_;rintro v32 t0 y0 ⟨d1,t,T⟩;obtain ⟨u0,X,z0,u,U⟩:=t.frz 0 rfl T;refine WL.gh X (bn H fun q0 Z H=>me (ap cE (.agg #[I 0,B false,I 0,I 0]) 32 191 1 u i.m U Z jU) ?_);rintro v42 D a1 ⟨f0,x,a0⟩;refine va (v42) (WL.nil (bkn (nrm (W.region (va (I a.2) (vv (I (w64 (a.2+1))) (WL.nil ?_)))))));obtain rfl:=si H;refine ⟨_,rfl,?_⟩;have y:=x.sD 2 [1];exact jn D ⟨v42,f0,y,rfl,a0⟩
  refine W.exit (thx ?_);obtain rfl:=si H;exact ⟨_,rfl,rfl,jn c9 ⟨v5,f,h,rfl,i⟩⟩
 ·have b0:OA cE c0 (Y) [] []:=OA.nil (aM _);have z:=O0.addHole (e:=es true cE (Y) 238 [] ([]:List aw)) rfl;exact jn c0 ⟨(Y),[],z,rfl,b0⟩
 rintro _ e_ w_ ⟨rfl,E,w0,_,rfl,b1,rfl,v7,g,A,rfl,d0⟩;refine bke (nrm (sr (vv (v7) (wln (W.ret ?_)))));obtain rfl:=si q;exact r1 (qq E ⟨v7,g,A,rfl,d0⟩)
def kg:Option (List ByteArray):=
 some ([(⟨#[48,48,48,48,49,49,48,48,49,48,48,48,48,48]⟩:ByteArray),(⟨#[48,48,49,48,48,48,48,48,48,48,48,48,48,48]⟩:ByteArray),(⟨#[48,48,48,48,48,48,48,48,48,48,48,48,48,48]⟩:ByteArray),(⟨#[48,48,48,48,48,48,48,48,48,48,48,48,48,48]⟩:ByteArray),(⟨#[50,48,48,48,49,49,48,48,49,48,48,48,48,48]⟩:ByteArray),(⟨#[50,48,48,48,49,49,48,48,49,48,48,48,48,48]⟩:ByteArray),(⟨#[48,48,48,48,49,49,50,48,49,48,48,48,48,48]⟩:ByteArray),(⟨#[49,48,48,48,49,49,49,49,49,49,49,49,49,49]⟩:ByteArray),(⟨#[48,48,48,48,49,49,48,48,49,48,48,48,48,48]⟩:ByteArray),(⟨#[48,48,48,48,49,49,48,48,49,49,49,48,49,49]⟩:ByteArray),(⟨#[48,48,48,48,49,49,48,48,49,48,49,49,48,48]⟩:ByteArray),(⟨#[48,48,48,48,49,49,48,48,49,48,48,49,48,48]⟩:ByteArray),(⟨#[48,48,48,48,49,49,48,48,49,48,49,49,48,48]⟩:ByteArray),(⟨#[48,48,48,48,49,49,48,48,49,48,48,49,48,48]⟩:ByteArray)]:List ByteArray)
theorem qE (d:Own c0 G F) {r:List ByteArray} (H:kg=some r): Calls prog 259 #[] c0.w (aO c0 fun c v=>∃a b,Own c G (es true RS a 9 b r :: F)∧v=a∧OA RS c a b r):=by
 unfold kg at H;refine en func259 rfl rfl (sr (va (Y) (wln (sr (me (sl RS 9 [[.string (⟨#[48,48,48,48,49,49,48,48,49,48,48,48,48,48]⟩:ByteArray)],[.string (⟨#[48,48,49,48,48,48,48,48,48,48,48,48,48,48]⟩:ByteArray)],[.string (⟨#[48,48,48,48,48,48,48,48,48,48,48,48,48,48]⟩:ByteArray)],[.string (⟨#[48,48,48,48,48,48,48,48,48,48,48,48,48,48]⟩:ByteArray)],[.string (⟨#[50,48,48,48,49,49,48,48,49,48,48,48,48,48]⟩:ByteArray)],[.string (⟨#[50,48,48,48,49,49,48,48,49,48,48,48,48,48]⟩:ByteArray)],[.string (⟨#[48,48,48,48,49,49,50,48,49,48,48,48,48,48]⟩:ByteArray)],[.string (⟨#[49,48,48,48,49,49,49,49,49,49,49,49,49,49]⟩:ByteArray)],[.string (⟨#[48,48,48,48,49,49,48,48,49,48,48,48,48,48]⟩:ByteArray)],[.string (⟨#[48,48,48,48,49,49,48,48,49,49,49,48,49,49]⟩:ByteArray)],[.string (⟨#[48,48,48,48,49,49,48,48,49,48,49,49,48,48]⟩:ByteArray)],[.string (⟨#[48,48,48,48,49,49,48,48,49,48,48,49,48,48]⟩:ByteArray)],[.string (⟨#[48,48,48,48,49,49,48,48,49,48,49,49,48,48]⟩:ByteArray)],[.string (⟨#[48,48,48,48,49,49,48,48,49,48,48,49,48,48]⟩:ByteArray)]] ([(⟨#[48,48,48,48,49,49,48,48,49,48,48,48,48,48]⟩:ByteArray),(⟨#[48,48,49,48,48,48,48,48,48,48,48,48,48,48]⟩:ByteArray),(⟨#[48,48,48,48,48,48,48,48,48,48,48,48,48,48]⟩:ByteArray),(⟨#[48,48,48,48,48,48,48,48,48,48,48,48,48,48]⟩:ByteArray),(⟨#[50,48,48,48,49,49,48,48,49,48,48,48,48,48]⟩:ByteArray),(⟨#[50,48,48,48,49,49,48,48,49,48,48,48,48,48]⟩:ByteArray),(⟨#[48,48,48,48,49,49,50,48,49,48,48,48,48,48]⟩:ByteArray),(⟨#[49,48,48,48,49,49,49,49,49,49,49,49,49,49]⟩:ByteArray),(⟨#[48,48,48,48,49,49,48,48,49,48,48,48,48,48]⟩:ByteArray),(⟨#[48,48,48,48,49,49,48,48,49,49,49,48,49,49]⟩:ByteArray),(⟨#[48,48,48,48,49,49,48,48,49,48,49,49,48,48]⟩:ByteArray),(⟨#[48,48,48,48,49,49,48,48,49,48,48,49,48,48]⟩:ByteArray),(⟨#[48,48,48,48,49,49,48,48,49,48,49,49,48,48]⟩:ByteArray),(⟨#[48,48,48,48,49,49,48,48,49,48,48,49,48,48]⟩:ByteArray)]:List ByteArray) d ⟨rfl,rfl,rfl,rfl,rfl,rfl,rfl,rfl,rfl,rfl,rfl,rfl,rfl,rfl,trivial⟩) ?_)))));rintro v5 f i ⟨h,e,g⟩;refine va (v5) (wln (W.ret ?_));obtain rfl:=si H;exact r1 (qq f ⟨v5,h,e,rfl,g⟩)
def cX (p0:Int) (p1:Int):Option (Int):=
 ((orE (decide (p0 < 0)) (some (decide (p0 > 13)))).bind fun f=>
 if f=true then
 some (0)
 else
 some (p0)).bind fun g=>
 ((orE (decide (p1 < 0)) (some (decide (p1 > 13)))).bind fun a=>
 if a=true then
 some (0)
 else
 some (p1)).bind fun e=>
 (kg).bind fun b=>
 (idx b g).bind fun c=>
 (Fi c e).bind fun d=>
 some (w64 ((w64 d) - 48))
theorem qF (N:Own c0 G F) (e:Int) (d:Int) {r:Int} (H:cX e d=some r): Calls prog 202 #[I e,I d] c0.w (aO c0 fun c v=>Own c G (F)∧v=I r):=by
 unfold cX at H;refine en func202 rfl rfl (sr (va (I 0) (wln (bn H fun m g H2=>W.seqJ (Jn c0 fun c l=>Own c G (F)∧l= [(0,I m),(1,I d)]) ?_ ?_))))
 ·refine W.seq (bn g fun X h3 g=>W.join (Jn c0 fun c l=>Own c G (F)∧l= [(0,I e),(1,I d),(10,B X)]) ?_ ?_)
  ·clear g;refine W.region (va (I e) (va (B (decide (e < 0))) ?_));rcases bo (decide (e < 0)) with n | n
   ·obtain rfl:=orT n h3;exact vb n (pz (va (B true) (wln (jn c0 ⟨N,rfl⟩))))
   have H5:=orF n h3;refine vb n (wa (I e) (wa (B (decide (e > 13))) ?_));obtain rfl:=si H5;exact va (B (decide (e > 13))) (wln (jn c0 ⟨N,rfl⟩))
  rintro A D ⟨U,g7,_,rfl,l6,rfl,S,rfl⟩;refine nrm (cn g (fun Z g=>?_) (fun Z g=>?_))
  ·refine W.region (va (I 0) (wln ?_));obtain rfl:=si g;exact jn U ⟨S,rfl⟩
  refine W.skip (nrm ?_);obtain rfl:=si g;exact jn U ⟨S,rfl⟩
 rintro A D ⟨i,m0,_,rfl,s0,rfl,s,rfl⟩;refine bn H2 fun q a b=>W.seqJ (Jn i fun c l=>Own c G (F)∧l= [(0,I m),(1,I q)]) ?_ ?_
 ·refine W.seq (bn a fun z y a=>W.join (Jn i fun c l=>Own c G (F)∧l= [(0,I m),(1,I d),(16,B z)]) ?_ ?_)
  ·clear a;refine W.region (va (I d) (va (B (decide (d < 0))) ?_));rcases bo (decide (d < 0)) with h | h
   ·obtain rfl:=orT h y;exact vb h (pz (va (B true) (wln (jn i ⟨s,rfl⟩))))
   have M:=orF h y;refine vb h (wa (I d) (wa (B (decide (d > 13))) ?_));obtain rfl:=si M;exact va (B (decide (d > 13))) (wln (jn i ⟨s,rfl⟩))
  rintro A D ⟨x,o0,_,rfl,t0,rfl,t,rfl⟩;refine nrm (cn a (fun b0 a=>?_) (fun b0 a=>?_))
  ·refine W.region (va (I 0) (wln ?_));obtain rfl:=si a;exact jn x ⟨t,rfl⟩
  refine W.skip (nrm ?_);obtain rfl:=si a;exact jn x ⟨t,rfl⟩
 rintro A D ⟨l0,q0,_,rfl,u0,rfl,P,rfl⟩;refine sr (bn b fun k0 d0 b=>cl (qE P d0) ?_);rintro v38 T v0 ⟨_,w0,u,rfl,o⟩;refine va (I m) (bn b fun E p b=>vx (ixO underlying315 o p) ?_);obtain ⟨j0,e0,g0⟩:=OA.at o p;obtain rfl:=e0;refine vr (.string E) (rx (by kernel_rfl) (mu underlying9 rfl (u.on 0 rfl) (o.blk p) (at1 (j:=0) g0 rfl))) (va (I q) (bn b fun f f0 b=>vr (.int .u8 f) (rx (by kernel_rfl) (zq (k:= .i64) underlying9 f0 _)) (va (I (w64 f)) (vv (I (w64 ((w64 f) - 48))) (wln (W.ret ?_))))));obtain rfl:=si b;have R:=u.sD 1 [];exact r1 (qq T ⟨R,rfl⟩)
def eu (p0:List aw) (p1:Int):Option (Bool):=
 (idx p0 p1).bind fun i=>
 if (i.Conj != 1)=true then
 some false
 else
 (cM (σ:=Int×Int) (τ:=Bool ⊕ Unit) (((w64 (p1 - 1)) - 0).toNat+2) (fun a=>
 if (decide (a.2≥0))=true then
 (idx p0 a.2).bind fun d=>
 if (d.Conj==1)=true then
 some (.inr (.inl (decide (a.1 > 0))))
 else
 ((idx p0 a.2).bind fun e=>
 if (e.Conj==2)=true then
 some ((w64 (a.1+1)))
 else
 some (a.1)).bind fun h=>
 (idx p0 a.2).bind fun f=>
 (bV (f.Conj != 2) ((idx p0 a.2).bind fun g=>
 some (g.Conj != 3))).bind fun c=>
 if c=true then
 some (.inr (.inl false))
 else
 some (.inl (h,(w64 (a.2 - 1))))
 else
 some (.inr (.inr ()))) (0,(w64 (p1 - 1)))).bind fun b=>
 match b with
 | .inl b=>
 some b
 | .inr b=>
 some false
theorem nW (O0:Own c0 G F) (p0:List aw) (j:Int) {r:Bool} (f:Sl cE c0 v1 p0) (H:eu p0 j=some r): Calls prog 203 #[v1,I j] c0.w (aO c0 fun c v=>Own c G (F)∧v=B r):=by
 unfold eu at H;refine en func203 rfl rfl (sr (va (B false) (wln (W.seq (sr (va (v1) (va (I j) (bn H fun d1 h3 H=>?_))))))));obtain ⟨z1,h5,m6⟩:=Sl.at f (aX h3);obtain rfl:=h5;refine vx (ix jU f h3) (va (Qo (sb v1) (so v1+j.toNat * 4+2)) (vx (l1 u_3 (m6 2 _ rfl)) (va (B (d1.Conj != 1)) (wln (cn H (fun h7 H=>?_) (fun h7 H=>?_))))))
 ·refine sr (va (B false) (wln (W.ret (thr ?_))));obtain rfl:=si H;exact r1 (qq c0 ⟨O0,rfl⟩)
 refine W.skip (nrm (sr (va (I 0) (wln (W.seq (sr (va (I j) (vv (I (w64 (j - 1))) (wln (W.block (bn H fun i h8 T=>lp h8 (fun a=>Jn c0 fun c l=>Own c G (F)∧l= [(0,v1),(5,I a.1),(6,I a.2)]) (fun t=>match t with | .inl X=>(fun b1 ex e w=>ex= .ret∧(Jn c0 fun c l=>Own c G (F)∧l= [(4,B b1)]) e w) X | .inr X=>(fun e1 ex e w=>ex= .exit 0∧(Jn c0 fun c l=>Own c G (F)∧l= []) e w) X) ?_ ?_ ?_)))))))))))
 ·clear T h8;intro a b2 h0 c1 H;revert h0 c1;rintro x y ⟨g,n1,_,rfl,n,rfl,k,rfl⟩;refine W.seq (sr (va (I a.2) (va (B (decide (a.2≥0))) (wln (cn H (fun j0 H=>?_) (fun j0 H=>?_))))))
  ·refine W.skip (nrm (W.seq (W.block (W.seq (sr (va (v1) (va (I a.2) (bn H fun Z E H=>?_))))))));obtain ⟨h1,k0,w0⟩:=Sl.at (f.mono n) (aX E);obtain rfl:=k0;refine vx (ix jU f.m E) (va (Qo (sb v1) (so v1+a.2.toNat * 4+2)) (vx (l1 u_3 (w0 2 _ rfl)) (va (B (Z.Conj==1)) (wln (cn H (fun l0 H=>?_) (fun l0 H=>?_))))))
   ·refine sr (va (I a.1) (vv (B (decide (a.1 > 0))) (wln (W.ret (thr (bkr (thr ?_)))))));obtain rfl:=si H;exact ⟨_,rfl,⟨rfl,jn g ⟨k,rfl⟩⟩⟩
   refine W.skip (nrm (bn H fun u d b=>W.seqJ (Jn g fun c l=>Own c G (F)∧l= [(0,v1),(5,I u),(6,I a.2)]) ?_ ?_))
   ·refine sr (va (v1) (va (I a.2) (bn d fun a0 M d=>?_)));obtain ⟨i1,m0,x0⟩:=Sl.at (f.mono n) (aX M);obtain rfl:=m0;refine vx (ix jU f.m M) (va (Qo (sb v1) (so v1+a.2.toNat * 4+2)) (vx (l1 u_3 (x0 2 _ rfl)) (va (B (a0.Conj==2)) (wln (cn d (fun o0 d=>?_) (fun o0 d=>?_))))))
    ·refine W.region (va (I a.1) (vv (I (w64 (a.1+1))) (wln ?_)));obtain rfl:=si d;exact jn g ⟨k,rfl⟩
    refine W.skip (nrm ?_);obtain rfl:=si d;exact jn g ⟨k,rfl⟩
   rintro x y ⟨p,q1,_,rfl,S,rfl,z,rfl⟩;refine W.seq (bn b fun q N b=>bn b fun U P b=>W.join (Jn p fun c l=>Own c G (F)∧l= [(0,v1),(5,I u),(6,I a.2),(48,B U)]) ?_ ?_)
   ·clear b;refine W.region (va (v1) (va (I a.2) ?_));obtain ⟨j1,s0,y0⟩:=Sl.at (f.mono (n.trans S)) (aX N);obtain rfl:=s0;refine vx (ix jU f.m N) (va (Qo (sb v1) (so v1+a.2.toNat * 4+2)) (vx (l1 u_3 (y0 2 _ rfl)) (va (B (q.Conj != 2)) ?_)));rcases bo (q.Conj != 2) with h | h
    ·have o:=anT h P;refine vb h (wa (v1) (wa (I a.2) (wn (bn o fun s R o=>?_))));obtain ⟨k1,t0,z0⟩:=Sl.at (f.mono (n.trans S)) (aX R);obtain rfl:=t0;refine vx (ix jU f.m R) (wa (Qo (sb v1) (so v1+a.2.toNat * 4+2)) (wn (vx (l1 u_3 (z0 2 _ rfl)) (wa (B (s.Conj != 3)) ?_))));obtain rfl:=si o;exact va (B (s.Conj != 3)) (wln (jn p ⟨z,rfl⟩))
    obtain rfl:=anF h P;exact vb h (pz (pz (pz (va (B false) (wln (jn p ⟨z,rfl⟩))))))
   rintro x y ⟨D,s1,_,rfl,w1,rfl,A,rfl⟩;refine nrm (cn b (fun u0 b=>?_) (fun u0 b=>?_))
   ·refine sr (va (B false) (wln (W.ret (bkr (thr ?_)))));obtain rfl:=si b;exact ⟨_,rfl,⟨rfl,jn D ⟨A,rfl⟩⟩⟩
   refine W.skip (bkn (nrm (W.region (va (I a.2) (vv (I (w64 (a.2 - 1))) (WL.nil ?_))))));obtain rfl:=si b;exact ⟨_,rfl,jn D ⟨A,rfl⟩⟩
  refine W.exit (thx ?_);obtain rfl:=si H;exact ⟨_,rfl,rfl,jn g ⟨k,rfl⟩⟩
 ·exact jn c0 ⟨O0,rfl⟩
 rcases i with i | i
 ·intro i0; revert i0;rintro _ x y ⟨rfl,f0,t1,_,rfl,x1,rfl,d0,rfl⟩;refine bkr (thr ?_);obtain rfl:=si T;exact r1 (qq f0 ⟨d0,rfl⟩)
 rintro _ x y ⟨rfl,g0,u1,_,rfl,y1,rfl,e0,rfl⟩;refine bke (nrm (sr (va (B false) (wln (W.ret ?_)))));obtain rfl:=si T;exact r1 (qq g0 ⟨e0,rfl⟩)
def eP (p0:List aw) (p1:Int):Option (Bool):=
 (idx p0 p1).bind fun j=>
 (orE (!j.Pict) (some (decide (p1 < 2)))).bind fun i=>
 (orE i ((idx p0 (w64 (p1 - 1))).bind fun e=>
 some (e.Break != 5))).bind fun c=>
 (orE c ((idx p0 (w64 (p1 - 1))).bind fun f=>
 some f.Pict)).bind fun d=>
 if d=true then
 some false
 else
 (cM (σ:=Int) (τ:=Bool ⊕ Unit) (((w64 (p1 - 2)) - 0).toNat+2) (fun b=>
 if (decide (b≥0))=true then
 (idx p0 b).bind fun g=>
 if g.Pict=true then
 some (.inr (.inl true))
 else
 (idx p0 b).bind fun h=>
 if (h.Break != 4)=true then
 some (.inr (.inl false))
 else
 some (.inl ((w64 (b - 1))))
 else
 some (.inr (.inr ()))) ((w64 (p1 - 2)))).bind fun a=>
 match a with
 | .inl a=>
 some a
 | .inr a=>
 some false
theorem oI (u:Own c0 G F) (p0:List aw) (b:Int) {r:Bool} (d:Sl cE c0 v1 p0) (H:eP p0 b=some r): Calls prog 204 #[v1,I b] c0.w (aO c0 fun c v=>Own c G (F)∧v=B r):=by
 unfold eP at H;refine en func204 rfl rfl (sr (va (B false) (wln (W.seq (W.seq (bn H fun U h3 H=>bn H fun u1 h4 H=>bn H fun i1 h5 H=>bn H fun X x H=>W.join (Jn c0 fun c l=>Own c G (F)∧l= [(0,v1),(1,I b),(32,B X)]) ?_ ?_))))))
 ·clear H;refine W.region (va (v1) (va (I b) ?_));obtain ⟨d2,h8,m9⟩:=Sl.at d (aX h3);obtain rfl:=h8;refine vx (ix jU d h3) (va (Qo (sb v1) (so v1+b.toNat * 4+1)) (vx (l1 u_4 (m9 1 _ rfl)) (va (B (!U.Pict)) ?_)));rcases bo (!U.Pict) with g | g
  ·obtain rfl:=orT g h4;refine vb g (pz (va (B true) ?_));have z:true=true:=rfl;obtain rfl:=orT z h5;refine vb z (pz (pz (pz (ps (va (B true) ?_)))));have A:true=true:=rfl;obtain rfl:=orT A x;exact vb A (pz (pz (pz (va (B true) (wln (jn c0 ⟨u,rfl⟩))))))
  have g0:=orF g h4;refine vb g (wa (I b) (wa (B (decide (b < 2))) ?_));obtain rfl:=si g0;refine va (B (decide (b < 2))) ?_;rcases bo (decide (b < 2)) with h | h
  ·obtain rfl:=orT h h5;refine vb h (pz (pz (pz (ps (va (B true) ?_)))));have D:true=true:=rfl;obtain rfl:=orT D x;exact vb D (pz (pz (pz (va (B true) (wln (jn c0 ⟨u,rfl⟩))))))
  have p:=orF h h5;refine vb h (wa (v1) (wa (I b) (wa (I (w64 (b - 1))) (wn (bn p fun k E p=>?_)))));obtain ⟨k1,o0,a1⟩:=Sl.at d (aX E);obtain rfl:=o0;refine vx (ix jU d E) (wa (Qo (sb v1) (so v1+(w64 (b - 1)).toNat * 4)) (wn (vx (l1 u_3 (a1 0 _ rfl)) (wa (B (k.Break != 5)) ?_))));obtain rfl:=si p;refine va (B (k.Break != 5)) ?_;rcases bo (k.Break != 5) with i | i
  ·obtain rfl:=orT i x;exact vb i (pz (pz (pz (va (B true) (wln (jn c0 ⟨u,rfl⟩))))))
  have q:=orF i x;refine vb i (wa (v1) (wa (I b) (wa (I (w64 (b - 1))) (wn (bn q fun e0 M q=>?_)))));obtain ⟨m1,q0,b1⟩:=Sl.at d (aX M);obtain rfl:=q0;refine vx (ix jU d M) (wa (Qo (sb v1) (so v1+(w64 (b - 1)).toNat * 4+1)) (wn (vx (l1 u_4 (b1 1 _ rfl)) ?_)));obtain rfl:=si q;exact va (B e0.Pict) (wln (jn c0 ⟨u,rfl⟩))
 rintro Z w_ ⟨f,w1,_,rfl,S,rfl,y,rfl⟩;refine nrm (cn H (fun t0 H=>?_) (fun t0 H=>?_))
 ·refine sr (va (B false) (wln (W.ret (thr ?_))));obtain rfl:=si H;exact r1 (qq f ⟨y,rfl⟩)
 refine W.skip (nrm (W.seq (sr (va (I b) (vv (I (w64 (b - 2))) (wln (W.block (bn H fun j N s=>lp N (fun a=>Jn f fun c l=>Own c G (F)∧l= [(0,v1),(5,I a)]) (fun t=>match t with | .inl x_=>(fun f1 ex e w=>ex= .ret∧(Jn f fun c l=>Own c G (F)∧l= [(4,B f1)]) e w) x_ | .inr x_=>(fun h1 ex e w=>ex= .exit 0∧(Jn f fun c l=>Own c G (F)∧l= []) e w) x_) ?_ ?_ ?_))))))))
 ·clear s N;intro a e2 l0 g1 H;revert l0 g1;rintro Z w_ ⟨o,x1,_,rfl,T,rfl,n,rfl⟩;refine W.seq (sr (va (I a) (va (B (decide (a≥0))) (wln (cn H (fun v0 H=>?_) (fun v0 H=>?_))))))
  ·refine W.skip (nrm (W.seq (W.block (W.seq (sr (va (v1) (va (I a) (bn H fun t1 P H=>?_))))))));obtain ⟨n1,w0,c1⟩:=Sl.at (d.mono (S.trans T)) (aX P);obtain rfl:=w0;refine vx (ix jU d.m P) (va (Qo (sb v1) (so v1+a.toNat * 4+1)) (vx (l1 u_4 (c1 1 _ rfl)) (wln (cn H (fun x0 H=>?_) (fun x0 H=>?_)))))
   ·refine sr (va (B true) (wln (W.ret (thr (bkr (thr ?_))))));obtain rfl:=si H;exact ⟨_,rfl,⟨rfl,jn o ⟨n,rfl⟩⟩⟩
   refine W.skip (nrm (sr (va (v1) (va (I a) (bn H fun f0 R H=>?_)))));obtain ⟨q1,y0,d1⟩:=Sl.at (d.mono (S.trans T)) (aX R);obtain rfl:=y0;refine vx (ix jU d.m R) (va (Qo (sb v1) (so v1+a.toNat * 4)) (vx (l1 u_3 (d1 0 _ rfl)) (va (B (f0.Break != 4)) (wln (cn H (fun z0 H=>?_) (fun z0 H=>?_))))))
   ·refine sr (va (B false) (wln (W.ret (bkr (thr ?_)))));obtain rfl:=si H;exact ⟨_,rfl,⟨rfl,jn o ⟨n,rfl⟩⟩⟩
   refine W.skip (bkn (nrm (W.region (va (I a) (vv (I (w64 (a - 1))) (WL.nil ?_))))));obtain rfl:=si H;exact ⟨_,rfl,jn o ⟨n,rfl⟩⟩
  refine W.exit (thx ?_);obtain rfl:=si H;exact ⟨_,rfl,rfl,jn o ⟨n,rfl⟩⟩
 ·exact jn f ⟨y,rfl⟩
 rcases j with j | j
 ·intro m0; revert m0;rintro _ Z w_ ⟨rfl,j0,y1,_,rfl,b2,rfl,h0,rfl⟩;refine bkr (thr ?_);obtain rfl:=si s;exact r1 (qq j0 ⟨h0,rfl⟩)
 rintro _ Z w_ ⟨rfl,k0,z1,_,rfl,c2,rfl,i0,rfl⟩;refine bke (nrm (sr (va (B false) (wln (W.ret ?_)))));obtain rfl:=si s;exact r1 (qq k0 ⟨i0,rfl⟩)
def eo (p0:List aw) (p1:Int):Option (Bool):=
 (orE (decide (p1 < 1)) (some (decide (p1≥(p0.length:Int))))).bind fun n=>
 if n=true then
 some false
 else
 (idx p0 (w64 (p1 - 1))).bind fun h=>
 (idx p0 p1).bind fun i=>
 (cX h.Break i.Break).bind fun b=>
 (orE (b==1) ((eu p0 p1).bind fun j=>
 some j)).bind fun c=>
 (orE c ((eP p0 p1).bind fun k=>
 some k)).bind fun d=>
 if d=true then
 some true
 else
 (orE (b != 2) ((idx p0 p1).bind fun l=>
 some (l.Break != 6))).bind fun e=>
 if e=true then
 some false
 else
 (cM (σ:=Int×Int) (τ:=Int) (((w64 (p1 - 1)) - 0).toNat+2) (fun a=>
 (bV (decide (a.2≥0)) ((idx p0 a.2).bind fun m=>
 some (m.Break==6))).bind fun f=>
 if f=true then
 some (.inl ((w64 (a.1+1)),(w64 (a.2 - 1))))
 else
 some (.inr (a.1))) (0,(w64 (p1 - 1)))).bind fun g=>
 some ((g.tmod 2)==1)
theorem pI (O0:Own c0 G F) (q:List aw) (b:Int) {r:Bool} (f:Sl cE c0 v1 q) (H:eo q b=some r): Calls prog 133 #[v1,I b] c0.w (aO c0 fun c v=>Own c G (F)∧v=B r):=by
 unfold eo at H;refine en func133 rfl rfl (sr (va (B false) (wln (W.seq (W.seq (bn H fun m1 h3 H=>W.join (Jn c0 fun c l=>Own c G (F)∧l= [(0,v1),(1,I b),(15,B m1)]) ?_ ?_))))))
 ·clear H;refine W.region (va (I b) (va (B (decide (b < 1))) ?_));rcases bo (decide (b < 1)) with M | M
  ·obtain rfl:=orT M h3;exact vb M (pz (pz (va (B true) (wln (jn c0 ⟨O0,rfl⟩)))))
  have H5:=orF M h3;refine vb M (wa (I b) (wa (v1) (wn (vx (ln 3 jU f) (wa (B (decide (b≥(q.length:Int)))) ?_)))));obtain rfl:=si H5;exact va (B (decide (b≥(q.length:Int)))) (wln (jn c0 ⟨O0,rfl⟩))
 rintro D P ⟨c6,g7,_,rfl,U,rfl,O8,rfl⟩;refine nrm (cn H (fun q1 H=>?_) (fun q1 H=>?_))
 ·refine sr (va (B false) (wln (W.ret (thr ?_))));obtain rfl:=si H;exact r1 (qq c6 ⟨O8,rfl⟩)
 refine W.skip (nrm (W.seq (rD [] (Kp G0 []) O8 ?_)));intro h1 p d1;have f3:Kp G0 [] h1:=Kp.nil0;refine ta 0 (v1) (ta 1 (I b) (ta 2 (I (w64 (b - 1))) (bn H fun z0 h0 H=>?_)));obtain ⟨s2,s1,i2⟩:=Sl.at (f.mono (U.trans p)) (aX h0);obtain rfl:=s1;refine tx 3 (fun c' N=>ix jU f.m h0) (ta 4 (Qo (sb v1) (so v1+(w64 (b - 1)).toNat * 4)) (tx 5 (fun c' N=>l1 u_3 ((mm i2) 0 _ rfl)) (ta 6 (v1) (ta 7 (I b) (bn H fun a1 i0 H=>?_)))));obtain ⟨t2,t1,j2⟩:=Sl.at (f.mono (U.trans p)) (aX i0);obtain rfl:=t1;refine tx 8 (fun c' N=>ix jU f.m i0) (ta 9 (Qo (sb v1) (so v1+b.toNat * 4)) (tx 10 (fun c' N=>l1 u_3 ((mm j2) 0 _ rfl)) (bn H fun d u1 H=>o1 11 (gc 11 (qF d1 z0.Break a1.Break u1) ?_))));rintro v30 z t0 ⟨a0,rfl⟩;have m2:Kp G0 [] z:=Kp.nil0;refine ⟨.inr m2,ta 12 (I d) (dn (nrm (W.seq (W.seq (bn H fun q2 j0 H=>bn H fun w0 E H=>W.join (Jn z fun c l=>Own c G (F)∧l= [(0,v1),(1,I b),(5,I d),(39,B w0)]) ?_ ?_)))))⟩
 ·clear H;refine W.region (va (I d) (va (B (d==1)) ?_));rcases bo (d==1) with h | h
  ·obtain rfl:=orT h j0;refine vb h (pz (ps (va (B true) ?_)));have k0:true=true:=rfl;obtain rfl:=orT k0 E;exact vb k0 (pz (ps (va (B true) (wln (jn z ⟨a0,rfl⟩)))))
  have s:=orF h j0;refine vb h (wa (v1) (wa (I b) (wn (bn s fun R x1 s=>cl (nW a0 q b f.m x1) ?_))));rintro v43 i1 b3 ⟨b0,rfl⟩;obtain rfl:=si s;refine va (B R) ?_;rcases bo (R) with i | i
  ·obtain rfl:=orT i E;exact vb i (pz (ps (va (B true) (wln (jn i1 ⟨b0,rfl⟩)))))
  have t:=orF i E;refine vb i (wa (v1) (wa (I b) (wn (bn t fun b1 y1 t=>cl (oI b0 q b f.m y1) ?_))));rintro v52 j1 c3 ⟨e1,rfl⟩;obtain rfl:=si t;exact va (B b1) (wln (jn j1 ⟨e1,rfl⟩))
 rintro D P ⟨n,w2,_,rfl,u0,rfl,y,rfl⟩;refine nrm (cn H (fun z1 H=>?_) (fun z1 H=>?_))
 ·refine sr (va (B true) (wln (W.ret (thr ?_))));obtain rfl:=si H;exact r1 (qq n ⟨y,rfl⟩)
 refine W.skip (nrm (W.seq (W.seq (bn H fun x0 l0 H=>W.join (Jn n fun c l=>Own c G (F)∧l= [(0,v1),(1,I b),(49,B x0)]) ?_ ?_))))
 ·clear H;refine W.region (va (I d) (va (B (d != 2)) ?_));rcases bo (d != 2) with j | j
  ·obtain rfl:=orT j l0;exact vb j (pz (pz (pz (va (B true) (wln (jn n ⟨y,rfl⟩))))))
  have u:=orF j l0;refine vb j (wa (v1) (wa (I b) (wn (bn u fun S m0 u=>?_))));obtain ⟨u2,b2,k2⟩:=Sl.at (f.mono (U.trans (p.trans (t0.trans u0)))) (aX m0);obtain rfl:=b2;refine vx (ix jU f.m m0) (wa (Qo (sb v1) (so v1+b.toNat * 4)) (wn (vx (l1 u_3 (k2 0 _ rfl)) (wa (B (S.Break != 6)) ?_))));obtain rfl:=si u;exact va (B (S.Break != 6)) (wln (jn n ⟨y,rfl⟩))
 rintro D P ⟨o,x2,_,rfl,f2,rfl,d0,rfl⟩;refine nrm (cn H (fun c2 H=>?_) (fun c2 H=>?_))
 ·refine sr (va (B false) (wln (W.ret (thr ?_))));obtain rfl:=si H;exact r1 (qq o ⟨d0,rfl⟩)
 refine W.skip (nrm (sr (va (I 0) (wln (W.seq (sr (va (I b) (vv (I (w64 (b - 1))) (wln (W.block (bn H fun g o0 Z=>lp o0 (fun a=>Jn o fun c l=>Own c G (F)∧l= [(0,v1),(6,I a.1),(7,I a.2)]) (fun X ex e w=>ex= .exit 0∧(Jn o fun c l=>Own c G (F)∧l= [(6,I X)]) e w) ?_ ?_ ?_)))))))))))
 ·clear Z o0;intro a g3 n1 n2 H;revert n1 n2;rintro D P ⟨A,y2,_,rfl,g2,rfl,e0,rfl⟩;refine W.seq (W.seq (bn H fun y0 q0 H=>W.join (Jn A fun c l=>Own c G (F)∧l= [(0,v1),(6,I a.1),(7,I a.2),(61,B y0)]) ?_ ?_))
  ·clear H;refine W.region (va (I a.2) (va (B (decide (a.2≥0))) ?_));rcases bo (decide (a.2≥0)) with k | k
   ·have x:=anT k q0;refine vb k (wa (v1) (wa (I a.2) (wn (bn x fun T s0 x=>?_))));obtain ⟨v2,d2,l2⟩:=Sl.at (f.mono (U.trans (p.trans (t0.trans (u0.trans (f2.trans g2)))))) (aX s0);obtain rfl:=d2;refine vx (ix jU f.m s0) (wa (Qo (sb v1) (so v1+a.2.toNat * 4)) (wn (vx (l1 u_3 (l2 0 _ rfl)) (wa (B (T.Break==6)) ?_))));obtain rfl:=si x;exact va (B (T.Break==6)) (wln (jn A ⟨e0,rfl⟩))
   obtain rfl:=anF k q0;exact vb k (pz (pz (pz (va (B false) (wln (jn A ⟨e0,rfl⟩))))))
  rintro D P ⟨g0,z2,_,rfl,d3,rfl,f0,rfl⟩;refine nrm (cn H (fun e2 H=>?_) (fun e2 H=>?_))
  ·refine W.skip (nrm (W.seq (W.block (W.region (va (I a.1) (vv (I (w64 (a.1+1))) (WL.nil (bkn (nrm (W.region (va (I a.2) (vv (I (w64 (a.2 - 1))) (WL.nil ?_)))))))))))));obtain rfl:=si H;exact ⟨_,rfl,jn g0 ⟨f0,rfl⟩⟩
  refine W.exit (thx ?_);obtain rfl:=si H;exact ⟨_,rfl,rfl,jn g0 ⟨f0,rfl⟩⟩
 ·exact jn o ⟨d0,rfl⟩
 rintro _ D P ⟨rfl,k1,a3,_,rfl,e3,rfl,g1,rfl⟩;refine bke (nrm (sr (va (I g) (va (I (g.tmod 2)) (vv (B ((g.tmod 2)==1)) (wln (W.ret ?_)))))));obtain rfl:=si Z;exact r1 (qq k1 ⟨g1,rfl⟩)
def fg (p0:List Int):Option (List Int):=
 (fB p0).bind fun b=>
 (cM (σ:=(List Int)×Int) (τ:=(List Int)) (((b.length:Int) - 0).toNat+1) (fun a=>
 if (decide (a.2 < (b.length:Int)))=true then
 ((eo b a.2).bind fun d=>
 if (!d)=true then
 (app a.1 ([a.2]:List Int)).bind fun e=>
 some (e)
 else
 some (a.1)).bind fun f=>
 some (.inl (f,(w64 (a.2+1))))
 else
 some (.inr (a.1))) (([]:List Int),0)).bind fun c=>
 some c
theorem po (O0:Own c0 G F) (x:List Int) {r:List Int} (h2:Sl (RI .i32) c0 v1 x) (H:fg x=some r): Calls prog 85 #[v1] c0.w (aO c0 fun c v=>∃A y2,Own c G (es true (RI .i64) A 3 y2 r :: F)∧v=A∧OA (RI .i64) c A y2 r):=by
 unfold fg at H;refine en func85 rfl rfl (sr (va (Y) (wln (sr (va (Y) (wln (sr (va (v1) (bn H fun f h3 H=>cl (pH O0 x h2 h3) ?_)))))))));rintro v4 k q1 ⟨_,y,O8,rfl,u⟩;refine va (v4) (wln (W.seq (sr (va (I 0) (wln (W.block (bn H fun g1 t p=>lp t (fun a=>Jn k fun c l=>∃v15 d,Own c G (es true (RI .i64) v15 3 d a.1 :: es false cE v4 238 y f :: F)∧l= [(3,v15),(4,v4),(5,I a.2)]∧OA (RI .i64) c v15 d a.1) (fun g ex e w=>ex= .exit 0∧(Jn k fun c l=>∃v17 h,Own c G (es true (RI .i64) v17 3 h g :: es false cE v4 238 y f :: F)∧l= [(3,v17)]∧OA (RI .i64) c v17 h g) e w) ?_ ?_ ?_)))))))
 ·clear p t;intro a d2 g0 a1 H;revert g0 a1;rintro e_ w_ ⟨s,k1,_,rfl,x0,rfl,v15,d,j,rfl,n⟩;refine W.seq (sr (va (I a.2) (va (v4) (vx (lnO 3 jU u.m) (va (B (decide (a.2 < (f.length:Int)))) (wln (cn H (fun h0 H=>?_) (fun h0 H=>?_))))))))
  ·refine W.skip (nrm (bn H fun o b D=>W.seqJ (Jn s fun c l=>∃v29 i,Own c G (es true (RI .i64) v29 3 i o :: es false cE v4 238 y f :: F)∧l= [(3,v29),(4,v4),(5,I a.2)]∧OA (RI .i64) c v29 i o) ?_ ?_))
   ·refine W.block (sr (va (v4) (va (I a.2) ?_)));have i0:=j.slf 1 rfl (u.mono x0);refine bn b fun z j0 b=>cl (pI j f a.2 i0 j0) ?_;rintro v38 Z s1 ⟨q,rfl⟩;refine va (B (!z)) (wln (cn b (fun k0 b=>?_) (fun k0 b=>?_)))
    ·refine W.region (va (v15) (va (I a.2) (me (sl (RI .i64) 3 [[I a.2]] ([a.2]:List Int) q ⟨rfl,trivial⟩) ?_)));rintro v44 i1 t1 ⟨c2,E,l0⟩;obtain ⟨j1,o0,u1,M,m0⟩:=E.frz 0 rfl l0;refine WL.gh o0 (bn b fun h1 q0 b=>me (ap (RI .i64) (I 0) 8 89 1 M n.m m0 q0 rP) ?_);rintro v54 a0 w1 ⟨y0,N,s0⟩;refine va (v54) (WL.nil (bkn (nrm ?_)));obtain rfl:=si b;have P:=N.sD 3 [1,2];exact jn a0 ⟨v54,y0,P,rfl,s0⟩
    refine W.skip (bkn (nrm ?_));obtain rfl:=si b;exact jn Z ⟨v15,d,q,rfl,n.m⟩
   rintro e_ w_ ⟨b0,m1,_,rfl,x1,rfl,v29,i,R,rfl,t0⟩;refine W.region (va (I a.2) (vv (I (w64 (a.2+1))) (WL.nil ?_)));obtain rfl:=si D;exact ⟨_,rfl,jn b0 ⟨v29,i,R,rfl,t0⟩⟩
  refine W.exit (thx ?_);obtain rfl:=si H;exact ⟨_,rfl,rfl,jn s ⟨v15,d,j,rfl,n⟩⟩
 ·have u0:OA (RI .i64) k (Y) [] []:=OA.nil (aM _);have S:=O8.addHole (e:=es true (RI .i64) (Y) 3 [] ([]:List Int)) rfl;obtain ⟨d0,v0,z1,T,p1⟩:=S.frz 1 rfl u;exact ⟨d0,_,_,v0.symm,pt,us,(Y),[],T,rfl,u0.m⟩
 rintro _ e_ w_ ⟨rfl,e0,n1,_,rfl,b2,rfl,v17,h,U,rfl,w0⟩;refine bke (nrm (sr (vv (v17) (wln (W.ret ?_)))));obtain rfl:=si p;have X:=U.sD 2 [0];exact r1 (qq e0 ⟨v17,h,X,rfl,w0⟩)
def er (p0:List Int):Option (List (List Int)):=
 (fg p0).bind fun i=>
 (app i ([(p0.length:Int)]:List Int)).bind fun b=>
 (cM (σ:=(List (List Int))×Int) (τ:=(List (List Int))) (((b.length:Int) - (w64 (0+1))).toNat+1) (fun a=>
 if (decide ((w64 (a.2+1)) < (b.length:Int)))=true then
 (idx b a.2).bind fun d=>
 (idx b (w64 (a.2+1))).bind fun e=>
 (slc p0 d e).bind fun f=>
 (app ([]:List Int) f).bind fun g=>
 (app a.1 ([g]:List (List Int))).bind fun h=>
 some (.inl (h,(w64 (a.2+1))))
 else
 some (.inr (a.1))) (([]:List (List Int)),0)).bind fun c=>
 some c
theorem nV (O0:Own c0 G F) (g:List Int) {r:List (List Int)} (h2:Sl (RI .i32) c0 v1 g) (H:er g=some r): Calls prog 40 #[v1] c0.w (aO c0 fun c v=>∃y1 y2,Own c G (es true (RL (RI .i32)) y1 32 y2 r :: F)∧v=y1∧OA (RL (RI .i32)) c y1 y2 r):=by
 unfold er at H;refine en func40 rfl rfl (sr (va (Y) (wln (sr (va (Y) (wln (sr (va (v1) (bn H fun c4 h3 H=>cl (po O0 g h2 h3) ?_)))))))));rintro v4 m3 g2 ⟨_,u5,O8,rfl,h6⟩;refine va (v1) (vx (ln 3 dS h2.m) (me (sl (RI .i64) 3 [[I (g.length:Int)]] ([(g.length:Int)]:List Int) O8 ⟨rfl,trivial⟩) ?_));rintro v17 n3 l16 ⟨e0,s0,g1⟩;obtain ⟨o3,i1,i2,t0,h1⟩:=s0.frz 0 rfl g1;refine WL.gh i1 (bn H fun b j1 H=>me (ap (RI .i64) (I 0) 8 89 1 t0 h6.m h1 j1 rP) ?_);rintro v27 h j2 ⟨d,u0,f⟩;refine va (v27) (wln (W.seq (sr (va (I 0) (wln (W.block (bn H fun i3 Z y=>lp Z (fun a=>Jn h fun c l=>∃v30 o,Own c G (es true (RL (RI .i32)) v30 32 o a.1 :: es false (RI .i64) v17 3 e0 ([(g.length:Int)]:List Int) :: es true (RI .i64) v27 3 d b :: F)∧l= [(0,v1),(3,v30),(4,v27),(5,I a.2)]∧OA (RL (RI .i32)) c v30 o a.1) (fun n ex e w=>ex= .exit 0∧(Jn h fun c l=>∃v32 p,Own c G (es true (RL (RI .i32)) v32 32 p n :: es false (RI .i64) v17 3 e0 ([(g.length:Int)]:List Int) :: es true (RI .i64) v27 3 d b :: F)∧l= [(3,v32)]∧OA (RL (RI .i32)) c v32 p n) e w) ?_ ?_ ?_)))))))
 ·clear y Z;intro a d4 f1 w2 H;revert f1 w2;rintro e_ w_ ⟨x0,p3,_,rfl,t,rfl,v30,o,z,rfl,a0⟩;refine W.seq (sr (va (I a.2) (va (I (w64 (a.2+1))) (va (v27) (vx (lnO 3 rP f.m) (va (B (decide ((w64 (a.2+1)) < (b.length:Int)))) (wln (cn H (fun k1 H=>?_) (fun k1 H=>?_)))))))))
  ·refine W.skip (nrm (W.seq (W.block (rD [] (Kp G0 [es true (RI .i64) v27 3 d b]) z ?_))));intro y0 u A;have d0:Kp G0 [es true (RI .i64) v27 3 d b] y0:=(Kp.cons (A.on 2 rfl) Kp.nil0);refine ta 0 (v30) (ta 2 (v1) (ta 3 (v27) (ta 4 (I a.2) (bn H fun l0 q H=>tx 5 (fun x i=>ixO rP f.m q) ?_))));obtain ⟨f3,m1,m2⟩:=OA.at (f.mono (t.trans u)) q;obtain rfl:=m1;refine AC.takeK 6 (I l0) d0 rfl (by kernel_rfl) (by kernel_rfl) (by kernel_rfl) (fun x i hk=>(rx (by kernel_rfl) (mu u_3 rfl (hk.on 0 rfl) (f.m.blk q) (at1 (j:=0) m2 rfl)))) (ta 7 (v27) (ta 8 (I a.2) (ta 9 (I (w64 (a.2+1))) (bn H fun m0 s H=>tx 10 (fun x i=>ixO rP f.m s) ?_))));obtain ⟨g3,n1,n2⟩:=OA.at (f.mono (t.trans u)) s;obtain rfl:=n1;refine AC.takeK 11 (I m0) d0 rfl (by kernel_rfl) (by kernel_rfl) (by kernel_rfl) (fun x i hk=>(rx (by kernel_rfl) (mu u_3 rfl (hk.on 0 rfl) (f.m.blk s) (at1 (j:=0) n2 rfl)))) (bn H fun k3 p1 H=>?_);obtain ⟨v54,q1,s1⟩:=uF (k:= .i64) (k':= .i64) dS (by kernel_rfl) (h2.mono (g2.trans (l16.trans (i2.trans (j2.trans (t.trans u)))))) p1;refine AC.take 12 (v54) rfl (by kernel_rfl) (by kernel_rfl) (fun x i=>(rx (by kernel_rfl) (q1 _))) (o1 1 (gm 1 (sl (RI .i32) 21 [] ([]:List Int) A trivial) ?_));rintro z3 z0 q3 ⟨w3,D,t1⟩;have o2:Kp G0 [es true (RI .i64) v27 3 d b] z0:=(Kp.cons (D.on 3 rfl) Kp.nil0);refine ⟨.inr o2,bn H fun o0 u1 H=>o1 13 (gm 13 (ap (RI .i32) (J 0) 4 32 0 D t1 s1.m u1 dS) ?_)⟩;rintro a4 a1 s3 ⟨x3,E,w1⟩;have p2:Kp G0 [es true (RI .i64) v27 3 d b] a1:=(Kp.cons (E.on 3 rfl) Kp.nil0);refine ⟨.inr p2,?_⟩;obtain ⟨b1,x1,k2,M,b0⟩:=E.frz 0 rfl w1;have q2:Kp G0 [es true (RI .i64) v27 3 d b] b1:=(Kp.cons (M.on 3 rfl) Kp.nil0);refine AC.gh x1 k2 (fun _=>q2) ?_;obtain ⟨S,T,U,rfl⟩:=(b0).form;refine o1 14 (gm 14 (sl (RL (RI .i32)) 32 [[.slice S T U]] ([o0]:List (List Int)) M ⟨⟨(.slice S T U),rfl,b0⟩,trivial⟩) ?_);rintro b4 c1 t3 ⟨y3,N,z1⟩;have s2:Kp G0 [es true (RI .i64) v27 3 d b] c1:=(Kp.cons (N.on 4 rfl) Kp.nil0);refine ⟨.inr s2,?_⟩;obtain ⟨d1,c2,l2,P,b2⟩:=N.frz 0 rfl z1;have t2:Kp G0 [es true (RI .i64) v27 3 d b] d1:=(Kp.cons (P.on 4 rfl) Kp.nil0);refine AC.gh c2 l2 (fun _=>t2) (bn H fun l3 d2 H=>o1 15 (gm 15 (ap (RL (RI .i32)) (Y) 24 25 2 P a0.m b2 d2 zm) ?_));rintro f0 X u3 ⟨v2,R,e2⟩;have u2:Kp G0 [es true (RI .i64) v27 3 d b] X:=(Kp.cons (R.on 4 rfl) Kp.nil0);refine ⟨.inr u2,ta 16 (f0) (dn (bkn (nrm (W.region (va (I a.2) (vv (I (w64 (a.2+1))) (WL.nil ?_)))))))⟩;obtain rfl:=si H;refine ⟨_,rfl,?_⟩;have v0:=R.sD 5 [2,3,4];exact jn X ⟨f0,v2,v0,rfl,e2⟩
  refine W.exit (thx ?_);obtain rfl:=si H;exact ⟨_,rfl,rfl,jn x0 ⟨v30,o,z,rfl,a0⟩⟩
 ·have f2:OA (RL (RI .i32)) h (Y) [] []:=OA.nil (aM _);have w0:=u0.addHole (e:=es true (RL (RI .i32)) (Y) 32 [] ([]:List (List Int))) rfl;exact jn h ⟨(Y),[],w0,rfl,f2⟩
 rintro _ e_ w_ ⟨rfl,e1,c3,_,rfl,v3,rfl,v32,p,g0,rfl,i0⟩;refine bke (nrm (sr (vv (v32) (wln (W.ret ?_)))));obtain rfl:=si y;have h0:=g0.sD 3 [0];exact r1 (qq e1 ⟨v32,p,h0,rfl,i0⟩)
def em (p0:List Int):Option (List Int):=
 (slc p0 0 (aB (p0.length:Int) 16)).bind fun a=>
 (app ([]:List Int) a).bind fun b=>
 some b
theorem ml (n:Own c0 G F) (a:List Int) {r:List Int} (j:Sl (RI .i32) c0 v1 a) (H:em a=some r): Calls prog 130 #[v1] c0.w (aO c0 fun c v=>∃b l,Own c G (es true (RI .i32) b 21 l r :: F)∧v=b∧OA (RI .i32) c b l r):=by
 unfold em at H;refine en func130 rfl rfl (sr (va (Y) (wln (sr (me (sl (RI .i32) 21 [] ([]:List Int) n trivial) ?_)))));rintro v7 x s ⟨y,o,p⟩;refine vv (v1) (vx (ln 3 dS j.m) (va (I (aB (a.length:Int) 16)) (bn H fun t q H=>?_)));obtain ⟨v9,f,g⟩:=uU (k':= .i64) dS (by kernel_rfl) (j.mono s) q;refine vr v9 (rx (by kernel_rfl) (f _)) (bn H fun u h H=>me (ap (RI .i32) (J 0) 4 32 0 o p g h dS) ?_);rintro v17 e l16 ⟨k,d,i⟩;refine va (v17) (wln (W.ret ?_));obtain rfl:=si H;exact r1 (qq e ⟨v17,k,d,rfl,i⟩)
def jD (p0:List Int):Option (Int):=
 (cM (σ:=(List aw)×Int) (τ:=(List aw)) (((p0.length:Int) - 0).toNat+1) (fun a=>
 if (decide (a.2 < (p0.length:Int)))=true then
 (idx p0 a.2).bind fun b=>
 (dM b).bind fun c=>
 (app a.1 ([c]:List aw)).bind fun d=>
 some (.inl (d,(w64 (a.2+1))))
 else
 some (.inr (a.1))) (([]:List aw),0)).bind fun f=>
 (gG p0 f).bind fun e=>
 some e
theorem rY (O0:Own c0 G F) (h:List Int) {r:Int} (g:Sl (RI .i32) c0 v1 h) (H:jD h=some r): Calls prog 148 #[v1] c0.w (aO c0 fun c v=>Own c G (F)∧v=I r):=by
 unfold jD at H;refine en func148 rfl rfl (sr (va (I 0) (wln (sr (va (Y) (wln (W.seq (sr (va (I 0) (wln (W.block (bn H fun l0 X f=>lp X (fun a=>Jn c0 fun c l=>∃v5 i,Own c G (es true cE v5 238 i a.1 :: F)∧l= [(0,v1),(3,v5),(4,I a.2)]∧OA cE c v5 i a.1) (fun d ex e w=>ex= .exit 0∧(Jn c0 fun c l=>∃v7 o,Own c G (es true cE v7 238 o d :: F)∧l= [(0,v1),(3,v7)]∧OA cE c v7 o d) e w) ?_ ?_ ?_))))))))))))
 ·clear f X;intro a q1 R o0 H;revert R o0;rintro e_ w_ ⟨c9,d1,_,rfl,l9,rfl,v5,i,j,rfl,k⟩;refine W.seq (sr (va (I a.2) (va (v1) (vx (ln 3 dS g.m) (va (B (decide (a.2 < (h.length:Int)))) (wln (cn H (fun S H=>?_) (fun S H=>?_))))))))
  ·refine W.skip (nrm (W.seq (W.block (W.region (va (v5) (va (v1) (va (I a.2) (bn H fun p n H=>?_))))))));obtain ⟨v0,T,k0⟩:=Sl.at (g.mono l9) (aX n);obtain rfl:=T;refine vx (ix dS g.m n) (vx (l1 nc (k0 0 _ rfl)) (bn H fun b U H=>cl (nx j p U) ?_));rintro v27 y0 f1 ⟨s,rfl⟩;refine me (sl cE 238 [[I b.Break,B b.Pict,I b.Conj,I b.East]] ([b]:List aw) s ⟨rfl,trivial⟩) ?_;rintro v32 z0 g1 ⟨n1,t,Z⟩;obtain ⟨a1,b0,h1,u,a0⟩:=t.frz 0 rfl Z;refine WL.gh b0 (bn H fun x0 d0 H=>me (ap cE (.agg #[I 0,B false,I 0,I 0]) 32 191 1 u k.m a0 d0 jU) ?_);rintro v42 N i1 ⟨m0,x,e0⟩;refine va (v42) (WL.nil (bkn (nrm (W.region (va (I a.2) (vv (I (w64 (a.2+1))) (WL.nil ?_)))))));obtain rfl:=si H;refine ⟨_,rfl,?_⟩;have y:=x.sD 2 [1];exact jn N ⟨v42,m0,y,rfl,e0⟩
  refine W.exit (thx ?_);obtain rfl:=si H;exact ⟨_,rfl,rfl,jn c9 ⟨v5,i,j,rfl,k⟩⟩
 ·have f0:OA cE c0 (Y) [] []:=OA.nil (aM _);have z:=O0.addHole (e:=es true cE (Y) 238 [] ([]:List aw)) rfl;exact jn c0 ⟨(Y),[],z,rfl,f0⟩
 rintro _ e_ w_ ⟨rfl,b1,e1,_,rfl,j1,rfl,v7,o,A,rfl,g0⟩;refine bke (nrm (sr (va (v1) (va (v7) ?_))));obtain ⟨c1,i0,k1,D,h0⟩:=A.frz 0 rfl g0;refine WL.gh i0 (bn f fun q j0 f=>cl (rn D h l0 g.m h0 j0) ?_);rintro p1 P m1 ⟨E,rfl⟩;refine va (I q) (wln (W.ret ?_));obtain rfl:=si f;have M:=E.sD 1 [];exact r1 (qq P ⟨M,rfl⟩)
def gg (p0:List Int):Option (Int):=
 (idx p0 0).bind fun c=>
 (dr c).bind fun d=>
 if d=true then
 some 0
 else
 (em p0).bind fun a=>
 (jD a).bind fun b=>
 some b
theorem qD (y:Own c0 G F) (b:List Int) {r:Int} (a:Sl (RI .i32) c0 v1 b) (H:gg b=some r): Calls prog 129 #[v1] c0.w (aO c0 fun c v=>Own c G (F)∧v=I r):=by
 unfold gg at H;refine en func129 rfl rfl (sr (va (I 0) (wln (W.seq (sr (va (v1) (bn H fun x u H=>?_)))))));obtain ⟨T,z,D⟩:=Sl.at a (aX u);obtain rfl:=z;refine vx (ix dS a u) (vx (l1 nc (D 0 _ rfl)) (bn H fun X A H=>cl (jG y x A) ?_));rintro v13 k N ⟨j,rfl⟩;refine wln (cn H (fun n H=>?_) (fun n H=>?_))
 ·refine sr (va (I 0) (wln (W.ret (thr ?_))));obtain rfl:=si H;exact r1 (qq k ⟨j,rfl⟩)
 refine W.skip (nrm (sr (va (v1) (bn H fun d o H=>cl (ml j b a.m o) ?_))));rintro v16 E P ⟨_,U,f,rfl,p⟩;obtain ⟨M,s,R,g,q⟩:=f.frz 0 rfl p;refine WL.gh s (bn H fun e t H=>cl (rY g d q t) ?_);rintro v35 l S ⟨h,rfl⟩;refine va (I e) (wln (W.ret ?_));obtain rfl:=si H;have i:=h.sD 1 [];exact r1 (qq l ⟨i,rfl⟩)
def gy (p0:aa) (p1:List Int):Option (aa):=
 (er p1).bind fun c=>
 (cM (σ:=Int×(List ak)×Int×Int×Bool×Bool) (τ:=((List ak)×Int×Int×Bool×Bool)) (((c.length:Int) - 0).toNat+1) (fun a=>
 if (decide (a.1 < (c.length:Int)))=true then
 ((idx c a.1).bind fun j=>
 (idx j 0).bind fun k=>
 (dr k).bind fun l=>
 if (!l)=true then
 (idx c a.1).bind fun m=>
 (idx c a.1).bind fun n=>
 (gg m).bind fun o=>
 (em n).bind fun p=>
 (aU (⟨a.2.1,(⟨a.2.2.1,a.2.2.2.1,a.2.2.2.2.1⟩:ai),a.2.2.2.2.2⟩:aa) o p).bind fun f=>
 some (f.1.L,f.1.At.Row,f.1.At.Col,f.1.At.Pending,f.1.Auto)
 else
 (idx c a.1).bind fun i=>
 (cM (σ:=Int×(List ak)×Int×Int×Bool×Bool) (τ:=((List ak)×Int×Int×Bool×Bool)) (((i.length:Int) - 0).toNat+1) (fun b=>
 (idx c a.1).bind fun q=>
 if (decide (b.1 < (q.length:Int)))=true then
 (idx c a.1).bind fun r=>
 (idx r b.1).bind fun s=>
 (cB (⟨b.2.1,(⟨b.2.2.1,b.2.2.2.1,b.2.2.2.2.1⟩:ai),b.2.2.2.2.2⟩:aa) s).bind fun g=>
 some (.inl ((w64 (b.1+1)),g.1.L,g.1.At.Row,g.1.At.Col,g.1.At.Pending,g.1.Auto))
 else
 some (.inr (b.2.1,b.2.2.1,b.2.2.2.1,b.2.2.2.2.1,b.2.2.2.2.2))) (0,a.2.1,a.2.2.1,a.2.2.2.1,a.2.2.2.2.1,a.2.2.2.2.2)).bind fun e=>
 some (e.1,e.2.1,e.2.2.1,e.2.2.2.1,e.2.2.2.2)).bind fun h=>
 some (.inl ((w64 (a.1+1)),h.1,h.2.1,h.2.2.1,h.2.2.2.1,h.2.2.2.2))
 else
 some (.inr (a.2.1,a.2.2.1,a.2.2.2.1,a.2.2.2.2.1,a.2.2.2.2.2))) (0,p0.L,p0.At.Row,p0.At.Col,p0.At.Pending,p0.Auto)).bind fun d=>
 some (⟨d.1,(⟨d.2.1,d.2.2.1,d.2.2.2.1⟩:ai),d.2.2.2.2⟩:aa)
theorem rf (O0:Own c0 G F) (y:aa) (p1:List Int) {r:aa} (h2:Sl an c0 v1 y.L) (h4:Sl (RI .i32) c0 v3 p1) (H:gy y p1=some r): Calls prog 84 #[.agg #[v1,I y.At.Row,I y.At.Col,B y.At.Pending,B y.Auto],v3] c0.w (aO c0 fun c v=>∃y1,Own c G (F)∧v= .agg #[y1,I r.At.Row,I r.At.Col,B r.At.Pending,B r.Auto]∧Sl an c y1 r.L):=by
 unfold gy at H;refine en func84 rfl rfl (sr ?_);obtain ⟨a5,a6,a7,rfl⟩:=(h2).form;refine me (al 31 [.slice a5 a6 a7,I y.At.Row,I y.At.Col,B y.At.Pending,B y.Auto] O0) ?_;rintro v11 u6 x6 ⟨o,rfl,O9⟩;refine me (al 31 [Y,I 0,I 0,B false,B false] O9) ?_;rintro v15 v6 y6 ⟨q,rfl,a4⟩;refine wln (sr (va (v3) (bn H fun k k4 H=>cl (nV a4 p1 h4.m k4) ?_)));rintro v17 x0 z6 ⟨_,n,b4,rfl,i⟩;refine va (v17) (wln (W.seq (sr (va (I 0) (wln (W.block (bn H fun h x1 t1=>lp x1 (fun a=>Jn x0 fun c l=>∃v28,Own c G (es true (RL (RI .i32)) v17 32 n k :: (Eb q 31 [Y,I 0,I 0,B false,B false]) :: (Eb o 31 [v28,I a.2.2.1,I a.2.2.2.1,B a.2.2.2.2.1,B a.2.2.2.2.2]) :: F)∧l= [(2,Q o),(4,Q q),(5,v17),(6,I a.1)]∧Sl an c v28 a.2.1) (fun t ex e w=>ex= .exit 0∧(Jn x0 fun c l=>∃v29,Own c G (es true (RL (RI .i32)) v17 32 n k :: (Eb q 31 [Y,I 0,I 0,B false,B false]) :: (Eb o 31 [v29,I t.2.1,I t.2.2.1,B t.2.2.2.1,B t.2.2.2.2]) :: F)∧l= [(2,Q o),(4,Q q)]∧Sl an c v29 t.1) e w) ?_ ?_ ?_)))))))
 ·clear t1 x1;intro a m5 z0 n1 H;revert z0 n1;rintro e_ w_ ⟨w1,w6,_,rfl,E,rfl,v28,i0,rfl,e1⟩;refine W.seq (sr (va (I a.1) (va (v17) (vx (lnO 3 zm i.m) (va (B (decide (a.1 < (k.length:Int)))) (wln (cn H (fun m4 H=>?_) (fun m4 H=>?_))))))))
  ·refine W.skip (nrm (bn H fun x d z3=>W.seqJ (Jn w1 fun c l=>∃v40,Own c G (es true (RL (RI .i32)) v17 32 n k :: (Eb q 31 [Y,I 0,I 0,B false,B false]) :: (Eb o 31 [v40,I x.2.1,I x.2.2.1,B x.2.2.2.1,B x.2.2.2.2]) :: F)∧l= [(2,Q o),(4,Q q),(5,v17),(6,I a.1)]∧Sl an c v40 x.1) ?_ ?_))
   ·refine W.block (W.seq (sr (va (v17) (va (I a.1) (bn d fun s6 f1 d=>vx (ixO zm i.m f1) ?_)))));obtain ⟨k6,n4,d5⟩:=OA.at (i.mono E) f1;obtain ⟨v45,rfl,z1⟩:=n4;refine vr v45 (rx (by kernel_rfl) (mu dS rfl (i0.on 0 rfl) (i.m.blk f1) (at1 (j:=0) d5 rfl))) (bn d fun p3 b2 d=>?_);obtain ⟨l6,o4,e5⟩:=Sl.at z1 (aX b2);obtain rfl:=o4;refine vx (ix dS z1 b2) (vx (l1 nc (e5 0 _ rfl)) (bn d fun q3 p4 d=>cl (jG i0 p3 p4) ?_));rintro v57 y0 e0 ⟨u1,rfl⟩;refine va (B (!q3)) (wln (cn d (fun q4 d=>?_) (fun q4 d=>?_)))
    ·refine W.seq (rD [15] (Kp G0 [(Eb o 31 [v28,I a.2.2.1,I a.2.2.2.1,B a.2.2.2.2.1,B a.2.2.2.2.2]),es true (RL (RI .i32)) v17 32 n k]) u1 ?_);intro f4 c2 j0;have k1:Kp G0 [(Eb o 31 [v28,I a.2.2.1,I a.2.2.2.1,B a.2.2.2.2.1,B a.2.2.2.2.2]),es true (RL (RI .i32)) v17 32 n k] f4:=(Kp.cons (j0.on 2 rfl) (Kp.cons (j0.on 0 rfl) Kp.nil0));refine tkx 0 k1 (fun z s A=>leN 31 0 [v28,I a.2.2.1,I a.2.2.2.1,B a.2.2.2.2.1,B a.2.2.2.2.2] (A.on 0 rfl)) (ta 1 (v17) (ta 2 (I a.1) (bn d fun s3 g1 d=>tx 3 (fun z s=>ixO zm i.m g1) ?_)));obtain ⟨m6,r4,f5⟩:=OA.at (i.mono (E.trans (e0.trans c2))) g1;obtain ⟨k5,rfl,s4⟩:=r4;refine AC.takeK 4 (k5) k1 rfl (by kernel_rfl) (by kernel_rfl) (by kernel_rfl) (fun z s A=>(rx (by kernel_rfl) (mu dS rfl (A.on 1 rfl) (i.m.blk g1) (at1 (j:=0) f5 rfl)))) (ta 6 (v17) (ta 7 (I a.1) (bn d fun t3 h1 d=>tx 8 (fun z s=>ixO zm i.m h1) ?_)));obtain ⟨n6,t4,g5⟩:=OA.at (i.mono (E.trans (e0.trans c2))) h1;obtain ⟨l5,rfl,u4⟩:=t4;refine AC.takeK 9 (l5) k1 rfl (by kernel_rfl) (by kernel_rfl) (by kernel_rfl) (fun z s A=>(rx (by kernel_rfl) (mu dS rfl (A.on 1 rfl) (i.m.blk h1) (at1 (j:=0) g5 rfl)))) (bn d fun u3 v4 d=>o1 5 (gc 5 (qD j0 s3 s4 v4) ?_));rintro e7 g4 b7 ⟨k0,rfl⟩;have h5:Kp G0 [(Eb o 31 [v28,I a.2.2.1,I a.2.2.2.1,B a.2.2.2.2.1,B a.2.2.2.2.2]),es true (RL (RI .i32)) v17 32 n k] g4:=(Kp.cons (k0.on 2 rfl) (Kp.cons (k0.on 0 rfl) Kp.nil0));refine ⟨.inr h5,bn d fun w3 w4 d=>o1 10 (gc 10 (ml k0 t3 u4.m w4) ?_)⟩;rintro f7 i4 c7 ⟨_,d7,l0,rfl,x4⟩;have i5:Kp G0 [(Eb o 31 [v28,I a.2.2.1,I a.2.2.2.1,B a.2.2.2.2.1,B a.2.2.2.2.2]),es true (RL (RI .i32)) v17 32 n k] i4:=(Kp.cons (l0.on 3 rfl) (Kp.cons (l0.on 1 rfl) Kp.nil0));refine ⟨.inr i5,?_⟩;obtain ⟨j4,z4,c5,m0,y4⟩:=l0.frz 0 rfl x4;have j5:Kp G0 [(Eb o 31 [v28,I a.2.2.1,I a.2.2.2.1,B a.2.2.2.2.1,B a.2.2.2.2.2]),es true (RL (RI .i32)) v17 32 n k] j4:=(Kp.cons (m0.on 3 rfl) (Kp.cons (m0.on 1 rfl) Kp.nil0));refine AC.gh z4 c5 (fun _=>j5) (bn d fun f b5 d=>o1 11 (gc 11 (oH m0 (⟨a.2.1,(⟨a.2.2.1,a.2.2.2.1,a.2.2.2.2.1⟩:ai),a.2.2.2.2.2⟩:aa) u3 w3 e1.m y4 b5) ?_));rintro q6 m2 c6 ⟨d2,p6,M,rfl,X⟩;have l3:Kp G0 [(Eb o 31 [v28,I a.2.2.1,I a.2.2.2.1,B a.2.2.2.2.1,B a.2.2.2.2.2]),es true (RL (RI .i32)) v17 32 n k] m2:=(Kp.cons (M.on 4 rfl) (Kp.cons (M.on 2 rfl) Kp.nil0));refine ⟨.inr l3,ta 12 (.tuple #[.agg #[d2,I f.1.At.Row,I f.1.At.Col,B f.1.At.Pending,B f.1.Auto],.agg #[I f.2.Row,I f.2.Col,B f.2.Pending]]) (ta 13 (.agg #[d2,I f.1.At.Row,I f.1.At.Col,B f.1.At.Pending,B f.1.Auto]) (ta 14 (.agg #[I f.2.Row,I f.2.Col,B f.2.Pending]) ?_))⟩;obtain ⟨o0,q0,s0,rfl⟩:=(X).form;refine o1 15 (gD 15 (sA 31 [.slice o0 q0 s0,I f.1.At.Row,I f.1.At.Col,B f.1.At.Pending,B f.1.Auto] 4 M ⟨(X).one,rfl,rfl,rfl,rfl,trivial⟩) ?_);rintro u5 f3 e2;refine ⟨.inl rfl,dn (nrm (W.exit (thx (bke (nrm ?_)))))⟩;obtain rfl:=si d;obtain ⟨n2,w2,d6,f2,v2⟩:=e2.frz 0 rfl (X.mono f3);have g2:=f2.sD 5 [2,3,4];exact ⟨n2,_,_,w2.symm,pt,us,(.slice o0 q0 s0),g2,rfl,v2⟩
    refine W.skip (nrm (sr (va (I 0) (wln (W.block (bn d fun o5 _ d=>bn d fun o6 a1 f0=>lp a1 (fun b=>Jn y0 fun c l=>∃p,Own c G (es true (RL (RI .i32)) v17 32 n k :: (Eb q 31 [Y,I 0,I 0,B false,B false]) :: (Eb o 31 [p,I b.2.2.1,I b.2.2.2.1,B b.2.2.2.2.1,B b.2.2.2.2.2]) :: F)∧l= [(2,Q o),(4,Q q),(5,v17),(6,I a.1),(7,I b.1)]∧Sl an c p b.2.1) (fun u ex e w=>ex= .exit 2∧(Jn y0 fun c l=>∃D,Own c G (es true (RL (RI .i32)) v17 32 n k :: (Eb q 31 [Y,I 0,I 0,B false,B false]) :: (Eb o 31 [D,I u.2.1,I u.2.2.1,B u.2.2.2.1,B u.2.2.2.2]) :: F)∧l= [(2,Q o),(4,Q q),(5,v17),(6,I a.1)]∧Sl an c D u.1) e w) ?_ ?_ ?_))))))
    ·clear f0 a1;intro b m5 z0 n1 d;revert z0 n1;rintro e_ w_ ⟨o2,w5,_,rfl,i1,rfl,p,N,rfl,b1⟩;refine W.seq (sr (va (I b.1) (va (v17) (va (I a.1) (bn d fun x3 Z d=>vx (ixO zm i.m Z) ?_)))));obtain ⟨p5,x2,h3⟩:=OA.at (i.mono (E.trans (e0.trans i1))) Z;obtain ⟨n3,rfl,y2⟩:=x2;refine vr n3 (rx (by kernel_rfl) (mu dS rfl (N.on 0 rfl) (i.m.blk Z) (at1 (j:=0) h3 rfl))) (vx (ln 3 dS y2) (va (B (decide (b.1 < (x3.length:Int)))) (wln (cn d (fun z2 d=>?_) (fun z2 d=>?_)))))
     ·refine W.skip (nrm (W.seq (W.block (rD [12] (Kp G0 [(Eb o 31 [p,I b.2.2.1,I b.2.2.2.1,B b.2.2.2.2.1,B b.2.2.2.2.2]),es true (RL (RI .i32)) v17 32 n k]) N ?_))));intro p2 g3 P;have j1:Kp G0 [(Eb o 31 [p,I b.2.2.1,I b.2.2.2.1,B b.2.2.2.2.1,B b.2.2.2.2.2]),es true (RL (RI .i32)) v17 32 n k] p2:=(Kp.cons (P.on 2 rfl) (Kp.cons (P.on 0 rfl) Kp.nil0));refine tkx 0 j1 (fun z s A=>leN 31 0 [p,I b.2.2.1,I b.2.2.2.1,B b.2.2.2.2.1,B b.2.2.2.2.2] (A.on 0 rfl)) (ta 1 (v17) (ta 2 (I a.1) (bn d fun t6 a0 d=>tx 3 (fun z s=>ixO zm i.m a0) ?_)));obtain ⟨q5,a3,i3⟩:=OA.at (i.mono (E.trans (e0.trans (i1.trans g3)))) a0;obtain ⟨o3,rfl,c1⟩:=a3;refine AC.takeK 4 (o3) j1 rfl (by kernel_rfl) (by kernel_rfl) (by kernel_rfl) (fun z s A=>(rx (by kernel_rfl) (mu dS rfl (A.on 1 rfl) (i.m.blk a0) (at1 (j:=0) i3 rfl)))) (ta 5 (I b.1) (bn d fun y3 d1 d=>?_));obtain ⟨r5,b3,j3⟩:=Sl.at c1 (aX d1);obtain rfl:=b3;refine tx 6 (fun z s=>ix dS c1 d1) (tx 7 (fun z s=>l1 nc ((mm j3) 0 _ rfl)) (bn d fun g c3 d=>o1 8 (gc 8 (rW P (⟨b.2.1,(⟨b.2.2.1,b.2.2.2.1,b.2.2.2.2.1⟩:ai),b.2.2.2.2.2⟩:aa) y3 b1.m c3) ?_)));rintro r6 q2 e6 ⟨m1,R,rfl,b0⟩;have m3:Kp G0 [(Eb o 31 [p,I b.2.2.1,I b.2.2.2.1,B b.2.2.2.2.1,B b.2.2.2.2.2]),es true (RL (RI .i32)) v17 32 n k] q2:=(Kp.cons (R.on 2 rfl) (Kp.cons (R.on 0 rfl) Kp.nil0));refine ⟨.inr m3,ta 9 (.tuple #[.agg #[m1,I g.1.At.Row,I g.1.At.Col,B g.1.At.Pending,B g.1.Auto],B g.2]) (ta 10 (.agg #[m1,I g.1.At.Row,I g.1.At.Col,B g.1.At.Pending,B g.1.Auto]) (ta 11 (B g.2) ?_))⟩;obtain ⟨t0,u0,v0,rfl⟩:=(b0).form;refine o1 12 (gD 12 (sA 31 [.slice t0 u0 v0,I g.1.At.Row,I g.1.At.Col,B g.1.At.Pending,B g.1.Auto] 2 R ⟨b0.one,rfl,rfl,rfl,rfl,trivial⟩) ?_);rintro s2 f6 i2;refine ⟨.inl rfl,dn (bkn (nrm (W.region (va (I b.1) (vv (I (w64 (b.1+1))) (WL.nil ?_))))))⟩;obtain rfl:=si d;exact ⟨_,rfl,jn s2 ⟨(.slice t0 u0 v0),i2,rfl,b0.m⟩⟩
     refine W.exit (thx ?_);obtain rfl:=si d;exact ⟨_,rfl,rfl,jn o2 ⟨p,N,rfl,b1⟩⟩
    ·exact jn y0 ⟨v28,u1,rfl,e1.m⟩
    rintro _ e_ w_ ⟨rfl,t2,x5,_,rfl,g6,rfl,D,j2,rfl,d3⟩;refine bke (bkn (nrm ?_));obtain rfl:=si f0;exact jn t2 ⟨D,j2,rfl,d3⟩
   rintro e_ w_ ⟨u2,y5,_,rfl,h6,rfl,v40,k2,rfl,e3⟩;refine W.region (va (I a.1) (vv (I (w64 (a.1+1))) (WL.nil ?_)));obtain rfl:=si z3;exact ⟨_,rfl,jn u2 ⟨v40,k2,rfl,e3⟩⟩
  refine W.exit (thx ?_);obtain rfl:=si H;exact ⟨_,rfl,rfl,jn w1 ⟨v28,i0,rfl,e1⟩⟩
 ·exact jn x0 ⟨(.slice a5 a6 a7),b4,rfl,h2.m⟩
 rintro _ e_ w_ ⟨rfl,v5,z5,_,rfl,i6,rfl,v29,g0,rfl,d0⟩;refine bke (nrm (sr (vx (leN 31 0 [v29,I h.2.1,I h.2.2.1,B h.2.2.2.1,B h.2.2.2.2] (g0.on 2 rfl)) ?_)));obtain ⟨S,T,U,rfl⟩:=(d0).form;refine md (sA 31 [.slice S T U,I h.2.1,I h.2.2.1,B h.2.2.2.1,B h.2.2.2.2] 1 g0 ⟨d0.one,rfl,rfl,rfl,rfl,trivial⟩) ?_;rintro w0 j6 h0;refine wln (W.ret ?_);obtain rfl:=si t1;have l2:=h0.sD 3 [];exact kE (c:=w0) (vs:=[.slice S T U,I h.2.1,I h.2.2.1,B h.2.2.2.1,B h.2.2.2.2]) rfl (by kernel_rfl) (by kernel_rfl) (by kernel_rfl) (h0.on 1 rfl _ rfl).1 ⟨_,w0,rfl,rfl,pt,(.slice S T U),l2,rfl,d0.m⟩
def dp (p0:ao):Option (Int):=
 (dO ([]:List Int) p0.Raw).bind fun a=>
 some (a.2.length:Int)
theorem kL (u:Own c0 G F) (a:ao) {r:Int} (A:Sl an c0 v1 a.P.L) (D:Sl (RI .i32) c0 v3 a.Group) (q:Sl (RI .u8) c0 v5 a.Raw) (H:dp a=some r): Calls prog 17 #[.agg #[v1,I a.P.At.Row,I a.P.At.Col,B a.P.At.Pending,B a.P.Auto,v3,v5,I a.Parts]] c0.w (aO c0 fun c v=>Own c G (F)∧v=I r):=by
 unfold dp at H;refine en func17 rfl rfl (sr ?_);obtain ⟨x,y,z,rfl⟩:=(A).form;obtain ⟨f,g,h,rfl⟩:=(D).form;obtain ⟨i,j,k,rfl⟩:=(q).form;refine me (bx 35 [.slice x y z,I a.P.At.Row,I a.P.At.Col,B a.P.At.Pending,B a.P.Auto,.slice f g h,.slice i j k,I a.Parts] u) ?_;rintro v20 E N ⟨l,rfl,b,s⟩;refine va (I 0) (wln (sr (va (Qo l (0+6)) (vx (l1 lG (s 6 _ rfl)) (bn H fun t o H=>cl (mU b ([]:List Int) a.Raw (Sl.nl _ _) q.m o) ?_)))));rintro v32 n R ⟨v22,S,v25,d,rfl,M,p⟩;refine va (.tuple #[v22,v25]) (va (v22) (va (v25) (va (v22) (va (v25) (wln (sr (va (v25) (vx (ln 3 rB p) (va (I (t.2.length:Int)) (wln (W.ret ?_)))))))))));obtain rfl:=si H;have e:=d.sD 1 [];exact r1 (qq n ⟨e,rfl⟩)
def dJ (p0:ao) (p1:List Int):Option (ao):=
 (app ([]:List Int) p0.Raw).bind fun k=>
 (app k p1).bind fun d=>
 (gH d).bind fun c=>
 ((dp (⟨p0.P,p0.Group,d,p0.Parts⟩:ao)).bind fun f=>
 if (decide (f > 0))=true then
 (slc c 0 (w64 ((c.length:Int) - 1))).bind fun g=>
 some (g)
 else
 some (c)).bind fun b=>
 (cM (σ:=Int×(List Int)) (τ:=(List Int)) (((b.length:Int) - p0.Parts).toNat+1) (fun a=>
 if (decide (a.1 < (b.length:Int)))=true then
 (idx b a.1).bind fun h=>
 (app ([]:List Int) a.2).bind fun i=>
 (app i ([h.R]:List Int)).bind fun j=>
 some (.inl ((w64 (a.1+1)),j))
 else
 some (.inr (a.2))) (p0.Parts,p0.Group)).bind fun e=>
 some (⟨p0.P,e,d,(b.length:Int)⟩:ao)
theorem nv (O0:Own c0 G F) (a:ao) (p1:List Int) {r:ao} (h2:Sl an c0 v1 a.P.L) (h4:Sl (RI .i32) c0 v3 a.Group) (h6:Sl (RI .u8) c0 v5 a.Raw) (h8:Sl (RI .u8) c0 v7 p1) (H:dJ a p1=some r): Calls prog 16 #[.agg #[v1,I a.P.At.Row,I a.P.At.Col,B a.P.At.Pending,B a.P.Auto,v3,v5,I a.Parts],v7] c0.w (aO c0 fun c v=>∃y1 y2 y3,Own c G (F)∧v= .agg #[y1,I r.P.At.Row,I r.P.At.Col,B r.P.At.Pending,B r.P.Auto,y2,y3,I r.Parts]∧Sl an c y1 r.P.L∧Sl (RI .i32) c y2 r.Group∧Sl (RI .u8) c y3 r.Raw):=by
 unfold dJ at H;refine en func16 rfl rfl (sr ?_);obtain ⟨j,h,i,rfl⟩:=(h2).form;obtain ⟨E,M,N,rfl⟩:=(h4).form;obtain ⟨r6,a16,s6,rfl⟩:=(h6).form;refine me (al 35 [.slice j h i,I a.P.At.Row,I a.P.At.Col,B a.P.At.Pending,B a.P.Auto,.slice E M N,.slice r6 a16 s6,I a.Parts] O0) ?_;rintro v21 o9 z9 ⟨g,rfl,l6⟩;refine me (al 35 [Y,I 0,I 0,B false,B false,Y,Y,I 0] l6) ?_;rintro v25 p9 l24 ⟨u,rfl,m6⟩;refine wln (sr (me (sl (RI .u8) 5 [] ([]:List Int) m6 trivial) ?_));rintro v30 q9 l29 ⟨u27,p2,y6⟩;refine va (.pointer (some ⟨g,6,none⟩)) (vx (le1 6 lG (p2.on 2 rfl)) (bn H fun x_7 z6 H=>me (ap (RI .u8) (.int .u8 0) 1 33 0 p2 y6 h6.m z6 lG) ?_));rintro v36 r9 l35 ⟨u33,n6,a7⟩;refine va (v7) (bn H fun A b7 H=>me (ap (RI .u8) (.int .u8 0) 1 33 0 n6 a7 h8.m b7 lG) ?_);rintro v42 s9 l41 ⟨a1,o6,z⟩;refine va (.pointer (some ⟨g,6,none⟩)) ?_;obtain ⟨b,d,f,rfl⟩:=(z).form;refine md (sC 33 6 (.slice b d f) [.slice j h i,I a.P.At.Row,I a.P.At.Col,B a.P.At.Pending,B a.P.Auto,.slice E M N,.slice b d f,I a.Parts] 2 o6 ⟨(z).one,trivial⟩) ?_;rintro t9 i2 q2;refine wln (sr (va (Qo g 6) (vx (le1 6 lG (q2.on 2 rfl)) ?_)));obtain ⟨u9,d7,z2,p6,c7⟩:=q2.frz 0 rfl (z.mono i2);refine WL.gh d7 (bn H fun y e7 H=>cl (rp p6 A c7 e7) ?_);rintro v53 u6 a3 ⟨_,b1,w1,rfl,y0⟩;refine va (v53) (wln (bn H fun s t o=>W.seqJ (Jn u6 fun c l=>∃p,Own c G (es false bj v53 106 b1 y :: es false (RI .u8) (.slice b d f) 5 a1 A :: (Eb u 35 [Y,I 0,I 0,B false,B false,Y,Y,I 0]) :: (Eb g 35 [.slice j h i,I a.P.At.Row,I a.P.At.Col,B a.P.At.Pending,B a.P.Auto,.slice E M N,.slice b d f,I a.Parts]) :: F)∧l= [(2,Q g),(4,Q u),(5,p)]∧Sl bj c p s) ?_ ?_))
 ·refine sr (vx (leN 35 0 [.slice j h i,I a.P.At.Row,I a.P.At.Col,B a.P.At.Pending,B a.P.Auto,.slice E M N,.slice b d f,I a.Parts] (w1.on 3 rfl)) ?_);have g7:=w1.slf 1 rfl (z.mono (i2.trans (z2.trans a3)));refine bn t fun k6 h7 t=>cl (kL w1 (⟨a.P,a.Group,A,a.Parts⟩:ao) h2.m h4.m g7 h7) ?_;rintro v72 v9 j2 ⟨s2,rfl⟩;refine va (B (decide (k6 > 0))) (wln (cn t (fun i7 t=>?_) (fun i7 t=>?_)))
  ·refine W.region (vv (v53) (vx (lnO 3 wq y0.m) (va (I (w64 ((y.length:Int) - 1))) (bn t fun m9 j7 t=>?_))));obtain ⟨v6,l7,l77,q6,k7⟩:=s2.frz 0 rfl (y0.mono j2);refine WL.gh l7 ?_;obtain ⟨k2,m7,n7⟩:=uU (k':= .i64) wq (by kernel_rfl) k7 j7;refine vr k2 (rx (by kernel_rfl) (m7 _)) (va (k2) (wln ?_));obtain rfl:=si t;exact jn v6 ⟨k2,q6,rfl,n7⟩
  refine W.skip (nrm ?_);obtain rfl:=si t;obtain ⟨w6,o7,q7,t2,y9⟩:=s2.frz 0 rfl (y0.mono j2);have p7:=t2.slf 0 rfl (y0.mono (j2.trans q7));exact ⟨w6,_,_,o7.symm,pt,us,v53,t2,rfl,p7⟩
 rintro e_ w_ ⟨z1,w9,_,rfl,r7,rfl,p,u2,rfl,z0⟩;refine W.seq (sr (va (Qo g 7) (vx (le1 7 u_3 (u2.on 3 rfl)) (va (I a.Parts) (wln (W.block (bn o fun x8 w2 o2=>lp w2 (fun n=>Jn z1 fun c l=>∃k,Own c G (es false bj v53 106 b1 y :: es false (RI .u8) (.slice b d f) 5 a1 A :: (Eb u 35 [Y,I 0,I 0,B false,B false,Y,Y,I 0]) :: (Eb g 35 [.slice j h i,I a.P.At.Row,I a.P.At.Col,B a.P.At.Pending,B a.P.Auto,k,.slice b d f,I a.Parts]) :: F)∧l= [(2,Q g),(4,Q u),(5,p),(6,I n.1)]∧Sl (RI .i32) c k n.2) (fun n2 ex e w=>ex= .exit 0∧(Jn z1 fun c l=>∃S,Own c G (es false bj v53 106 b1 y :: es false (RI .u8) (.slice b d f) 5 a1 A :: (Eb u 35 [Y,I 0,I 0,B false,B false,Y,Y,I 0]) :: (Eb g 35 [.slice j h i,I a.P.At.Row,I a.P.At.Col,B a.P.At.Pending,B a.P.Auto,S,.slice b d f,I a.Parts]) :: F)∧l= [(2,Q g),(4,Q u),(5,p)]∧Sl (RI .i32) c S n2) e w) ?_ ?_ ?_)))))))
 ·clear o2 w2;intro n xx_ x6 u7 o;revert x6 u7;rintro e_ w_ ⟨v2,x9,_,rfl,s7,rfl,k,c1,rfl,D⟩;refine W.seq (sr (va (I n.1) (va (p) (vx (ln 3 wq z0.m) (va (B (decide (n.1 < (s.length:Int)))) (wln (cn o (fun i4 o=>?_) (fun i4 o=>?_))))))))
  ·refine W.skip (nrm (W.seq (W.block (bn o fun q b2 o=>bn o fun n9 m0 o=>bn o fun l2 o0 o=>W.join (Jn v2 fun c l=>∃x0 v0 x w0,Own c G (es false (RI .i32) x0 21 v0 ([q.R]:List Int) :: es true (RI .i32) x 21 w0 l2 :: es false bj v53 106 b1 y :: es false (RI .u8) (.slice b d f) 5 a1 A :: (Eb u 35 [Y,I 0,I 0,B false,B false,Y,Y,I 0]) :: (Eb g 35 [.slice j h i,I a.P.At.Row,I a.P.At.Col,B a.P.At.Pending,B a.P.Auto,x,.slice b d f,I a.Parts]) :: F)∧l= [(2,Q g),(4,Q u),(5,p),(6,I n.1)]∧OA (RI .i32) c x0 v0 ([q.R]:List Int)∧OA (RI .i32) c x w0 l2) ?_ ?_))))
   ·clear o;refine rD [12] (Kp G0 [(Eb g 35 [.slice j h i,I a.P.At.Row,I a.P.At.Col,B a.P.At.Pending,B a.P.Auto,k,.slice b d f,I a.Parts])]) c1 ?_;intro k3 z4 T;have j5:Kp G0 [(Eb g 35 [.slice j h i,I a.P.At.Row,I a.P.At.Col,B a.P.At.Pending,B a.P.Auto,k,.slice b d f,I a.Parts])] k3:=(Kp.cons (T.on 3 rfl) Kp.nil0);refine ta 1 (.pointer (some ⟨g,5,none⟩)) (tkx 2 j5 (fun c' x2 hk=>le1 5 dS (hk.on 0 rfl)) (ta 4 (p) (ta 5 (I n.1) ?_)));obtain ⟨z7,j4,i5⟩:=Sl.at (z0.mono (s7.trans z4)) (aX b2);obtain rfl:=j4;refine tx 6 (fun c' x2=>ix wq z0.m b2) (ta 7 (Qo (sb p) (so p+n.1.toNat * 5)) (tx 8 (fun c' x2=>l1 nc ((mm i5) 0 _ rfl)) (mn2 0 9 ?_ ?_)))
    ·refine gm 0 (sl (RI .i32) 21 [] ([]:List Int) T trivial) ?_;rintro e9 l3 k8 ⟨y8,U,c2⟩;have k5:Kp G0 [(Eb g 35 [.slice j h i,I a.P.At.Row,I a.P.At.Col,B a.P.At.Pending,B a.P.Auto,k,.slice b d f,I a.Parts])] l3:=(Kp.cons (U.on 4 rfl) Kp.nil0);refine ⟨.inr k5,mn2 3 9 ?_ ?_⟩
     ·refine gm 3 (ap (RI .i32) (J 0) 4 32 0 U c2 D.m m0 dS) ?_;rintro f9 m3 l8 ⟨z8,d1,k4⟩;have l5:Kp G0 [(Eb g 35 [.slice j h i,I a.P.At.Row,I a.P.At.Col,B a.P.At.Pending,B a.P.Auto,k,.slice b d f,I a.Parts])] m3:=(Kp.cons (d1.on 4 rfl) Kp.nil0);refine ⟨.inr l5,o1 9 (gm 9 (sl (RI .i32) 21 [[J q.R]] ([q.R]:List Int) d1 ⟨rfl,trivial⟩) ?_)⟩;rintro f6 n3 m8 ⟨z5,e1,d2⟩;have m5:Kp G0 [(Eb g 35 [.slice j h i,I a.P.At.Row,I a.P.At.Col,B a.P.At.Pending,B a.P.Auto,k,.slice b d f,I a.Parts])] n3:=(Kp.cons (e1.on 5 rfl) Kp.nil0);refine ⟨.inr m5,?_⟩;obtain ⟨o3,m4,a5,f1,l4⟩:=e1.frz 0 rfl d2;have n5:Kp G0 [(Eb g 35 [.slice j h i,I a.P.At.Row,I a.P.At.Col,B a.P.At.Pending,B a.P.Auto,k,.slice b d f,I a.Parts])] o3:=(Kp.cons (f1.on 5 rfl) Kp.nil0);refine AC.gh m4 a5 (fun _=>n5) (o1 10 (gm 10 (ap (RI .i32) (J 0) 4 32 1 f1 k4.m l4 o0 dS) ?_));rintro g9 p3 n8 ⟨a6,g1,q0⟩;have o5:Kp G0 [(Eb g 35 [.slice j h i,I a.P.At.Row,I a.P.At.Col,B a.P.At.Pending,B a.P.Auto,k,.slice b d f,I a.Parts])] p3:=(Kp.cons (g1.on 5 rfl) Kp.nil0);refine ⟨.inr o5,ta 11 (.pointer (some ⟨g,5,none⟩)) ?_⟩;obtain ⟨Z,a0,b0,rfl⟩:=(q0).form;refine o1 12 (gD 12 (sC 32 5 (.slice Z a0 b0) [.slice j h i,I a.P.At.Row,I a.P.At.Col,B a.P.At.Pending,B a.P.Auto,.slice Z a0 b0,.slice b d f,I a.Parts] 5 g1 ⟨(q0).one,trivial⟩) ?_);rintro q3 o8 b3;exact ⟨.inl rfl,dn (nrm (jn q3 ⟨f6,z5,(.slice Z a0 b0),a6,b3,rfl,d2.m,q0.m⟩))⟩
     refine gm 9 (sl (RI .i32) 21 [[J q.R]] ([q.R]:List Int) U ⟨rfl,trivial⟩) ?_;rintro g6 s3 p8 ⟨b6,h1,e2⟩;have p5:Kp G0 [(Eb g 35 [.slice j h i,I a.P.At.Row,I a.P.At.Col,B a.P.At.Pending,B a.P.Auto,k,.slice b d f,I a.Parts])] s3:=(Kp.cons (h1.on 5 rfl) Kp.nil0);refine ⟨.inr p5,o1 3 (gm 3 (ap (RI .i32) (J 0) 4 32 1 h1 c2.m D.m m0 dS) ?_)⟩;rintro h9 t3 b5 ⟨b9,i1,n4⟩;have q5:Kp G0 [(Eb g 35 [.slice j h i,I a.P.At.Row,I a.P.At.Col,B a.P.At.Pending,B a.P.Auto,k,.slice b d f,I a.Parts])] t3:=(Kp.cons (i1.on 5 rfl) Kp.nil0);refine ⟨.inr q5,?_⟩;obtain ⟨u3,p4,c5,j1,o4⟩:=i1.frz 0 rfl (e2.mono b5);have r5:Kp G0 [(Eb g 35 [.slice j h i,I a.P.At.Row,I a.P.At.Col,B a.P.At.Pending,B a.P.Auto,k,.slice b d f,I a.Parts])] u3:=(Kp.cons (j1.on 5 rfl) Kp.nil0);refine AC.gh p4 c5 (fun _=>r5) (o1 10 (gm 10 (ap (RI .i32) (J 0) 4 32 1 j1 n4.m o4 o0 dS) ?_));rintro i9 w3 q8 ⟨c6,k1,s0⟩;have s5:Kp G0 [(Eb g 35 [.slice j h i,I a.P.At.Row,I a.P.At.Col,B a.P.At.Pending,B a.P.Auto,k,.slice b d f,I a.Parts])] w3:=(Kp.cons (k1.on 5 rfl) Kp.nil0);refine ⟨.inr s5,ta 11 (.pointer (some ⟨g,5,none⟩)) ?_⟩;obtain ⟨d0,e0,f0,rfl⟩:=(s0).form;refine o1 12 (gD 12 (sC 32 5 (.slice d0 e0 f0) [.slice j h i,I a.P.At.Row,I a.P.At.Col,B a.P.At.Pending,B a.P.Auto,.slice d0 e0 f0,.slice b d f,I a.Parts] 5 k1 ⟨(s0).one,trivial⟩) ?_);rintro x3 r8 c3;exact ⟨.inl rfl,dn (nrm (jn x3 ⟨g6,b6,(.slice d0 e0 f0),c6,c3,rfl,e2.m,s0.m⟩))⟩
    refine gm 9 (sl (RI .i32) 21 [[J q.R]] ([q.R]:List Int) T ⟨rfl,trivial⟩) ?_;rintro i6 z3 s8 ⟨d6,m1,f2⟩;have t5:Kp G0 [(Eb g 35 [.slice j h i,I a.P.At.Row,I a.P.At.Col,B a.P.At.Pending,B a.P.Auto,k,.slice b d f,I a.Parts])] z3:=(Kp.cons (m1.on 4 rfl) Kp.nil0);refine ⟨.inr t5,o1 0 (gm 0 (sl (RI .i32) 21 [] ([]:List Int) m1 trivial) ?_)⟩;rintro j9 a4 d5 ⟨c9,n1,q4⟩;have u5:Kp G0 [(Eb g 35 [.slice j h i,I a.P.At.Row,I a.P.At.Col,B a.P.At.Pending,B a.P.Auto,k,.slice b d f,I a.Parts])] a4:=(Kp.cons (n1.on 5 rfl) Kp.nil0);refine ⟨.inr u5,o1 3 (gm 3 (ap (RI .i32) (J 0) 4 32 0 n1 q4 D.m m0 dS) ?_)⟩;rintro k9 b4 e5 ⟨d9,q1,r4⟩;have w5:Kp G0 [(Eb g 35 [.slice j h i,I a.P.At.Row,I a.P.At.Col,B a.P.At.Pending,B a.P.Auto,k,.slice b d f,I a.Parts])] b4:=(Kp.cons (q1.on 5 rfl) Kp.nil0);refine ⟨.inr w5,?_⟩;obtain ⟨c4,t4,f5,s1,s4⟩:=q1.frz 1 rfl (f2.mono (d5.trans e5));have x5:Kp G0 [(Eb g 35 [.slice j h i,I a.P.At.Row,I a.P.At.Col,B a.P.At.Pending,B a.P.Auto,k,.slice b d f,I a.Parts])] c4:=(Kp.cons (s1.on 5 rfl) Kp.nil0);refine AC.gh t4 f5 (fun _=>x5) (o1 10 (gm 10 (ap (RI .i32) (J 0) 4 32 0 s1 r4.m s4 o0 dS) ?_));rintro l9 d4 t8 ⟨e6,t1,t0⟩;have y5:Kp G0 [(Eb g 35 [.slice j h i,I a.P.At.Row,I a.P.At.Col,B a.P.At.Pending,B a.P.Auto,k,.slice b d f,I a.Parts])] d4:=(Kp.cons (t1.on 5 rfl) Kp.nil0);refine ⟨.inr y5,ta 11 (.pointer (some ⟨g,5,none⟩)) ?_⟩;obtain ⟨g0,h0,i0,rfl⟩:=(t0).form;refine o1 12 (gD 12 (sC 32 5 (.slice g0 h0 i0) [.slice j h i,I a.P.At.Row,I a.P.At.Col,B a.P.At.Pending,B a.P.Auto,.slice g0 h0 i0,.slice b d f,I a.Parts] 5 t1 ⟨(t0).one,trivial⟩) ?_);rintro e4 u8 d3;refine ⟨.inl rfl,dn (nrm ?_)⟩;have e3:=d3.sD 6 [1,0,2,3,4,5];exact jn e4 ⟨i6,d6,(.slice g0 h0 i0),e6,e3,rfl,f2.m,t0.m⟩
   rintro e_ w_ ⟨b8,e8,_,rfl,v8,rfl,x0,v0,x,w0,f3,rfl,g8,u4⟩;refine bkn (nrm (W.region (va (I n.1) (vv (I (w64 (n.1+1))) (WL.nil ?_)))));obtain rfl:=si o;refine ⟨_,rfl,?_⟩;obtain ⟨f4,w4,w8,g3,v4⟩:=f3.frz 1 rfl u4;have h3:=g3.sD 6 [2,3,4,5];exact ⟨f4,_,_,w4.symm,pt,us,x,h3,rfl,v4⟩
  refine W.exit (thx ?_);obtain rfl:=si o;exact ⟨_,rfl,rfl,jn v2 ⟨k,c1,rfl,D⟩⟩
 ·exact jn z1 ⟨(.slice E M N),u2,rfl,h4.m⟩
 rintro _ e_ w_ ⟨rfl,c8,f8,_,rfl,g5,rfl,S,i3,rfl,u0⟩;refine bke (nrm (sr (va (p) (vx (ln 3 wq z0.m) (va (Qo g 7) (md (sC 3 7 (I (s.length:Int)) [.slice j h i,I a.P.At.Row,I a.P.At.Col,B a.P.At.Pending,B a.P.Auto,S,.slice b d f,I (s.length:Int)] 3 i3 ⟨rfl,trivial⟩) ?_))))));rintro d8 g2 u1;refine wln (sr (vx (leN 35 0 [.slice j h i,I a.P.At.Row,I a.P.At.Col,B a.P.At.Pending,B a.P.Auto,S,.slice b d f,I (s.length:Int)] (u1.on 3 rfl)) ?_));obtain ⟨j0,k0,l0,rfl⟩:=((u0.mono g2)).form;refine md (sA 35 [.slice j h i,I a.P.At.Row,I a.P.At.Col,B a.P.At.Pending,B a.P.Auto,.slice j0 k0 l0,.slice b d f,I (s.length:Int)] 2 u1 ⟨h2.m.one,rfl,rfl,rfl,rfl,u0.m.one,z.m.one,rfl,trivial⟩) ?_;rintro x1 h5 X;refine wln (W.ret ?_);obtain rfl:=si o2;have x4:=X.slf 1 rfl (z.mono (i2.trans (z2.trans (a3.trans (r7.trans (g5.trans (g2.trans h5)))))));have j3:=X.sD 4 [];exact kE (c:=x1) (vs:=[.slice j h i,I a.P.At.Row,I a.P.At.Col,B a.P.At.Pending,B a.P.Auto,.slice j0 k0 l0,.slice b d f,I (s.length:Int)]) rfl (by kernel_rfl) (by kernel_rfl) (by kernel_rfl) (X.on 2 rfl _ rfl).1 ⟨_,x1,rfl,rfl,pt,(.slice j h i),(.slice j0 k0 l0),(.slice b d f),j3,rfl,h2.m,u0.m,x4⟩
def dX (p0:ao) (p1:Int):Option (ao):=
 ((cQ p1).bind fun c=>
 if (!c)=true then
 some (65533)
 else
 some (p1)).bind fun d=>
 (app ([]:List Int) p0.Group).bind fun a=>
 (app a ([d]:List Int)).bind fun b=>
 some (⟨p0.P,b,p0.Raw,p0.Parts⟩:ao)
theorem nF (O0:Own c0 G F) (a:ao) (t:Int) {r:ao} (S:Sl an c0 v1 a.P.L) (h4:Sl (RI .i32) c0 v3 a.Group) (T:Sl (RI .u8) c0 v5 a.Raw) (H:dX a t=some r): Calls prog 18 #[.agg #[v1,I a.P.At.Row,I a.P.At.Col,B a.P.At.Pending,B a.P.Auto,v3,v5,I a.Parts],J t] c0.w (aO c0 fun c v=>∃y1 U y3 y4,Own c G (es true (RI .i32) U 21 y3 r.Group :: F)∧v= .agg #[y1,I r.P.At.Row,I r.P.At.Col,B r.P.At.Pending,B r.P.Auto,U,y4,I r.Parts]∧Sl an c y1 r.P.L∧OA (RI .i32) c U y3 r.Group∧Sl (RI .u8) c y4 r.Raw):=by
 unfold dX at H;refine en func18 rfl rfl (sr ?_);obtain ⟨k,n,o,rfl⟩:=(S).form;obtain ⟨A,D,E,rfl⟩:=(h4).form;obtain ⟨d,e,f,rfl⟩:=(T).form;refine me (al 35 [.slice k n o,I a.P.At.Row,I a.P.At.Col,B a.P.At.Pending,B a.P.Auto,.slice A D E,.slice d e f,I a.Parts] O0) ?_;rintro v19 d1 n1 ⟨p,rfl,X⟩;refine me (al 35 [Y,I 0,I 0,B false,B false,Y,Y,I 0] X) ?_;rintro v23 h0 q1 ⟨M,rfl,Z⟩;refine wln (bn H fun s b j=>W.seqJ (Jn h0 fun c l=>Own c G ((Eb M 35 [Y,I 0,I 0,B false,B false,Y,Y,I 0]) :: (Eb p 35 [.slice k n o,I a.P.At.Row,I a.P.At.Col,B a.P.At.Pending,B a.P.Auto,.slice A D E,.slice d e f,I a.Parts]) :: F)∧l= [(1,J s),(2,Q p),(4,Q M)]) ?_ ?_)
 ·refine sr (va (J t) (bn b fun w0 i0 b=>cl (mo Z t i0) ?_));rintro v32 N s1 ⟨u,rfl⟩;refine va (B (!w0)) (wln (cn b (fun j0 b=>?_) (fun j0 b=>?_)))
  ·refine W.region (va (J 65533) (wln ?_));obtain rfl:=si b;exact jn N ⟨u,rfl⟩
  refine W.skip (nrm ?_);obtain rfl:=si b;exact jn N ⟨u,rfl⟩
 rintro e_ w_ ⟨e1,m1,_,rfl,t1,rfl,a0,rfl⟩;refine sr (me (sl (RI .i32) 21 [] ([]:List Int) a0 trivial) ?_);rintro v44 f1 u1 ⟨e2,x,l0⟩;refine va (.pointer (some ⟨p,5,none⟩)) (vx (le1 5 dS (x.on 2 rfl)) (bn j fun b1 m0 j=>me (ap (RI .i32) (J 0) 4 32 0 x l0 h4.m m0 dS) ?_));rintro v50 g1 w1 ⟨f2,b0,o0⟩;refine va (J s) (me (sl (RI .i32) 21 [[J s]] ([s]:List Int) b0 ⟨rfl,trivial⟩) ?_);rintro v55 h1 x1 ⟨g2,d0,q0⟩;obtain ⟨i1,t0,z1,e0,s0⟩:=d0.frz 0 rfl q0;refine WL.gh t0 (bn j fun c1 u0 j=>me (ap (RI .i32) (J 0) 4 32 1 e0 o0.m s0 u0 dS) ?_);rintro i2 j1 b2 ⟨v0,f0,q⟩;refine va (.pointer (some ⟨p,5,none⟩)) ?_;obtain ⟨g,h,i,rfl⟩:=(q).form;refine md (sC 32 5 (.slice g h i) [.slice k n o,I a.P.At.Row,I a.P.At.Col,B a.P.At.Pending,B a.P.Auto,.slice g h i,.slice d e f,I a.Parts] 3 f0 ⟨(q).one,trivial⟩) ?_;rintro k1 c2 y;refine wln (sr (vx (leN 35 0 [.slice k n o,I a.P.At.Row,I a.P.At.Col,B a.P.At.Pending,B a.P.Auto,.slice g h i,.slice d e f,I a.Parts] (y.on 3 rfl)) (md (sA 35 [.slice k n o,I a.P.At.Row,I a.P.At.Col,B a.P.At.Pending,B a.P.Auto,.slice g h i,.slice d e f,I a.Parts] 2 y ⟨S.m.one,rfl,rfl,rfl,rfl,q.m.one,T.m.one,rfl,trivial⟩) ?_)));rintro R d2 z;refine wln (W.ret ?_);obtain rfl:=si j;have g0:=z.sD 4 [1];exact kE (c:=R) (vs:=[.slice k n o,I a.P.At.Row,I a.P.At.Col,B a.P.At.Pending,B a.P.Auto,.slice g h i,.slice d e f,I a.Parts]) rfl (by kernel_rfl) (by kernel_rfl) (by kernel_rfl) (z.on 2 rfl _ rfl).1 ⟨_,R,rfl,rfl,pt,(.slice k n o),(.slice g h i),v0,(.slice d e f),g0,rfl,S.m,q.m,T.m⟩
def da (p0:ao):Option (aa):=
 (gy p0.P p0.Group).bind fun a=>
 some a
theorem la (U:Own c0 G F) (a:ao) {r:aa} (N:Sl an c0 v1 a.P.L) (S:Sl (RI .i32) c0 v3 a.Group) (X:Sl (RI .u8) c0 v5 a.Raw) (H:da a=some r): Calls prog 36 #[.agg #[v1,I a.P.At.Row,I a.P.At.Col,B a.P.At.Pending,B a.P.Auto,v3,v5,I a.Parts]] c0.w (aO c0 fun c v=>∃T,Own c G (F)∧v= .agg #[T,I r.At.Row,I r.At.Col,B r.At.Pending,B r.Auto]∧Sl an c T r.L):=by
 unfold da at H;refine en func36 rfl rfl (sr ?_);obtain ⟨D,E,M,rfl⟩:=(N).form;obtain ⟨t,u,x,rfl⟩:=(S).form;obtain ⟨y,z,A,rfl⟩:=(X).form;refine me (bx 35 [.slice D E M,I a.P.At.Row,I a.P.At.Col,B a.P.At.Pending,B a.P.Auto,.slice t u x,.slice y z A,I a.Parts] U) ?_;rintro v20 a0 e0 ⟨i,rfl,o,n⟩;refine me (al 31 [Y,I 0,I 0,B false,B false] o) ?_;rintro v24 b0 f0 ⟨Z,rfl,p⟩;refine wln (sr (va (Q i) (vx (lN 31 (GZ (k:=0) (l:=[.slice D E M,I a.P.At.Row,I a.P.At.Col,B a.P.At.Pending,B a.P.Auto]) (mm n) rfl)) (va (Qo i (0+5)) (vx (l1 dS ((mm n) 5 _ rfl)) (bn H fun b R H=>cl (rf p a.P a.Group N.m S.m R) ?_))))));rintro v33 d0 g0 ⟨v26,q,rfl,g⟩;obtain ⟨d,e,f,rfl⟩:=(g).form;refine md (sA 31 [.slice d e f,I b.At.Row,I b.At.Col,B b.At.Pending,B b.Auto] 0 q ⟨g.one,rfl,rfl,rfl,rfl,trivial⟩) ?_;rintro j h0 h;refine wln (W.ret ?_);obtain rfl:=si H;have s:=h.sD 1 [];exact kE (c:=j) (vs:=[.slice d e f,I b.At.Row,I b.At.Col,B b.At.Pending,B b.Auto]) rfl (by kernel_rfl) (by kernel_rfl) (by kernel_rfl) (h.on 0 rfl _ rfl).1 ⟨_,j,rfl,rfl,pt,(.slice d e f),s,rfl,g.m⟩
def cO (p0:ao):Option (ao):=
 (da p0).bind fun a=>
 some (⟨a,([]:List Int),p0.Raw,p0.Parts⟩:ao)
theorem ij (O0:Own c0 G F) (b:ao) {r:ao} (T:Sl an c0 v1 b.P.L) (X:Sl (RI .i32) c0 v3 b.Group) (q:Sl (RI .u8) c0 v5 b.Raw) (H:cO b=some r): Calls prog 88 #[.agg #[v1,I b.P.At.Row,I b.P.At.Col,B b.P.At.Pending,B b.P.Auto,v3,v5,I b.Parts]] c0.w (aO c0 fun c v=>∃y1 y y3 y4,Own c G (es true (RI .i32) y 21 y3 r.Group :: F)∧v= .agg #[y1,I r.P.At.Row,I r.P.At.Col,B r.P.At.Pending,B r.P.Auto,y,y4,I r.Parts]∧Sl an c y1 r.P.L∧OA (RI .i32) c y y3 r.Group∧Sl (RI .u8) c y4 r.Raw):=by
 unfold cO at H;refine en func88 rfl rfl (sr ?_);obtain ⟨N,R,S,rfl⟩:=(T).form;obtain ⟨l,n,o,rfl⟩:=(X).form;obtain ⟨d,f,g,rfl⟩:=(q).form;refine me (al 35 [.slice N R S,I b.P.At.Row,I b.P.At.Col,B b.P.At.Pending,B b.P.Auto,.slice l n o,.slice d f g,I b.Parts] O0) ?_;rintro v19 g0 l0 ⟨x,rfl,z⟩;refine me (al 35 [Y,I 0,I 0,B false,B false,Y,Y,I 0] z) ?_;rintro v23 h0 m0 ⟨f0,rfl,s⟩;refine wln (sr (vx (leN 35 0 [.slice N R S,I b.P.At.Row,I b.P.At.Col,B b.P.At.Pending,B b.P.Auto,.slice l n o,.slice d f g,I b.Parts] (s.on 1 rfl)) (bn H fun a U H=>cl (la s b T.m X.m q.m U) ?_)));rintro v32 i0 o0 ⟨v25,A,rfl,k⟩;refine va (Q x) ?_;obtain ⟨h,i,j,rfl⟩:=(k).form;refine md (sB 31 0 [.slice h i j,I a.At.Row,I a.At.Col,B a.At.Pending,B a.Auto] [.slice h i j,I a.At.Row,I a.At.Col,B a.At.Pending,B a.Auto,.slice l n o,.slice d f g,I b.Parts] 1 A ⟨k.one,rfl,rfl,rfl,rfl,trivial⟩) ?_;rintro j0 q0 D;refine wln (sr (va (Qo x 5) (md (sC 32 5 (Y) [.slice h i j,I a.At.Row,I a.At.Col,B a.At.Pending,B a.Auto,Y,.slice d f g,I b.Parts] 1 D ⟨rfl,trivial⟩) ?_)));rintro k0 s0 t;refine wln (sr (vx (leN 35 0 [.slice h i j,I a.At.Row,I a.At.Col,B a.At.Pending,B a.Auto,Y,.slice d f g,I b.Parts] (t.on 1 rfl)) (md (sA 35 [.slice h i j,I a.At.Row,I a.At.Col,B a.At.Pending,B a.Auto,Y,.slice d f g,I b.Parts] 0 t ⟨k.m.one,rfl,rfl,rfl,rfl,rfl,q.m.one,rfl,trivial⟩) ?_)));rintro p t0 E;refine wln (W.ret ?_);obtain rfl:=si H;have Z:OA (RI .i32) p (Y) [] []:=OA.nil (aM _);have u:=E.addHole (e:=es true (RI .i32) (Y) 21 [] ([]:List Int)) rfl;have M:=u.sD 3 [0];exact kE (c:=p) (vs:=[.slice h i j,I a.At.Row,I a.At.Col,B a.At.Pending,B a.Auto,Y,.slice d f g,I b.Parts]) rfl (by kernel_rfl) (by kernel_rfl) (by kernel_rfl) (u.on 1 rfl _ rfl).1 ⟨_,p,rfl,rfl,pt,(.slice h i j),(Y),[],(.slice d f g),M,rfl,k.m,Z,q.m⟩
def dI (p0:ao):Option (ao):=
 ((dp p0).bind fun d=>
 if (decide (d > 0))=true then
 (dX p0 65533).bind fun a=>
 some (a.P.L,a.P.At.Row,a.P.At.Col,a.P.At.Pending,a.P.Auto,a.Group,a.Raw,a.Parts)
 else
 some (p0.P.L,p0.P.At.Row,p0.P.At.Col,p0.P.At.Pending,p0.P.Auto,p0.Group,p0.Raw,p0.Parts)).bind fun b=>
 (cO (⟨(⟨b.1,(⟨b.2.1,b.2.2.1,b.2.2.2.1⟩:ai),b.2.2.2.2.1⟩:aa),b.2.2.2.2.2.1,([]:List Int),0⟩:ao)).bind fun c=>
 some c
theorem nu (O0:Own c0 G F) (b:ao) {r:ao} (h2:Sl an c0 v1 b.P.L) (h4:Sl (RI .i32) c0 v3 b.Group) (h6:Sl (RI .u8) c0 v5 b.Raw) (H:dI b=some r): Calls prog 87 #[.agg #[v1,I b.P.At.Row,I b.P.At.Col,B b.P.At.Pending,B b.P.Auto,v3,v5,I b.Parts]] c0.w (aO c0 fun c v=>∃y1 y2 y3 y4,Own c G (es true (RI .i32) y2 21 y3 r.Group :: F)∧v= .agg #[y1,I r.P.At.Row,I r.P.At.Col,B r.P.At.Pending,B r.P.Auto,y2,y4,I r.Parts]∧Sl an c y1 r.P.L∧OA (RI .i32) c y2 y3 r.Group∧Sl (RI .u8) c y4 r.Raw):=by
 unfold dI at H;refine en func87 rfl rfl (sr ?_);obtain ⟨a7,a8,a9,rfl⟩:=(h2).form;obtain ⟨j,k,n,rfl⟩:=(h4).form;obtain ⟨o,p,q,rfl⟩:=(h6).form;refine me (al 35 [.slice a7 a8 a9,I b.P.At.Row,I b.P.At.Col,B b.P.At.Pending,B b.P.Auto,.slice j k n,.slice o p q,I b.Parts] O0) ?_;rintro v19 f2 p2 ⟨s,rfl,y0⟩;refine me (al 35 [Y,I 0,I 0,B false,B false,Y,Y,I 0] y0) ?_;rintro v23 g1 q2 ⟨v0,rfl,h0⟩;refine wln (bn H fun a e t=>W.seqJ (Jn g1 fun c l=>∃v26 v27 v28,Own c G ((Eb v0 35 [Y,I 0,I 0,B false,B false,Y,Y,I 0]) :: (Eb s 35 [v26,I a.2.1,I a.2.2.1,B a.2.2.2.1,B a.2.2.2.2.1,v27,v28,I a.2.2.2.2.2.2.2]) :: F)∧l= [(1,Q s),(2,Q v0)]∧Sl an c v26 a.1∧Sl (RI .i32) c v27 a.2.2.2.2.2.1∧Sl (RI .u8) c v28 a.2.2.2.2.2.2.1) ?_ ?_)
 ·refine sr (vx (leN 35 0 [.slice a7 a8 a9,I b.P.At.Row,I b.P.At.Col,B b.P.At.Pending,B b.P.Auto,.slice j k n,.slice o p q,I b.Parts] (h0.on 1 rfl)) (bn e fun x1 j1 e=>cl (kL h0 b h2.m h4.m h6.m j1) ?_));rintro v35 h1 s2 ⟨x,rfl⟩;refine va (B (decide (x1 > 0))) (wln (cn e (fun k1 e=>?_) (fun k1 e=>?_)))
  ·refine W.region (vx (leN 35 0 [.slice a7 a8 a9,I b.P.At.Row,I b.P.At.Col,B b.P.At.Pending,B b.P.Auto,.slice j k n,.slice o p q,I b.Parts] (x.on 1 rfl)) (bn e fun f m1 e=>cl (nF x b 65533 h2.m h4.m h6.m m1) ?_));rintro v50 g2 t2 ⟨v38,v40,a3,v43,z0,rfl,R,S,T⟩;obtain ⟨j0,k0,l0,rfl⟩:=(R).form;obtain ⟨m0,o0,q0,rfl⟩:=(S).form;obtain ⟨s0,t0,u0,rfl⟩:=(T).form;refine md (sA 35 [.slice j0 k0 l0,I f.P.At.Row,I f.P.At.Col,B f.P.At.Pending,B f.P.Auto,.slice m0 o0 q0,.slice s0 t0 u0,I f.Parts] 2 z0 ⟨R.one,rfl,rfl,rfl,rfl,(S).one,T.one,rfl,trivial⟩) ?_;rintro i2 u1 a1;refine wln ?_;obtain rfl:=si e;obtain ⟨i1,p1,u2,b1,n1⟩:=a1.frz 0 rfl (S.mono u1);have c1:=b1.sD 3 [1,2];exact ⟨i1,_,_,p1.symm,pt,us,(.slice j0 k0 l0),(.slice m0 o0 q0),(.slice s0 t0 u0),c1,rfl,R.m,n1,T.m⟩
  refine W.skip (nrm ?_);obtain rfl:=si e;exact jn h1 ⟨(.slice a7 a8 a9),(.slice j k n),(.slice o p q),x,rfl,h2.m,h4.m,h6.m⟩
 rintro e_ w_ ⟨j2,n2,_,rfl,v2,rfl,v26,v27,v28,d1,rfl,q1,s1,o2⟩;refine sr (va (Qo s 6) (md (sC 33 6 (Y) [v26,I a.2.1,I a.2.2.1,B a.2.2.2.1,B a.2.2.2.2.1,v27,Y,I a.2.2.2.2.2.2.2] 1 d1 ⟨rfl,trivial⟩) ?_));rintro k2 w2 e1;refine wln (sr (va (Qo s 7) (md (sC 3 7 (I 0) [v26,I a.2.1,I a.2.2.1,B a.2.2.2.1,B a.2.2.2.2.1,v27,Y,I 0] 1 e1 ⟨rfl,trivial⟩) ?_)));rintro l2 x2 i0;refine wln (sr (vx (leN 35 0 [v26,I a.2.1,I a.2.2.1,B a.2.2.2.1,B a.2.2.2.2.1,v27,Y,I 0] (i0.on 1 rfl)) (bn t fun d t1 t=>cl (ij i0 (⟨(⟨a.1,(⟨a.2.1,a.2.2.1,a.2.2.2.1⟩:ai),a.2.2.2.2.1⟩:aa),a.2.2.2.2.2.1,([]:List Int),0⟩:ao) q1.m s1.m (Sl.nl _ _) t1) ?_)));rintro e3 m2 z2 ⟨b3,c3,w1,d3,f1,rfl,U,X,Z⟩;obtain ⟨y,z,A,rfl⟩:=(U).form;obtain ⟨D,E,M,rfl⟩:=(X).form;obtain ⟨g,h,i,rfl⟩:=(Z).form;refine md (sA 35 [.slice y z A,I d.P.At.Row,I d.P.At.Col,B d.P.At.Pending,B d.P.Auto,.slice D E M,.slice g h i,I d.Parts] 1 f1 ⟨U.one,rfl,rfl,rfl,rfl,(X).one,Z.one,rfl,trivial⟩) ?_;rintro N e2 u;refine wln (W.ret ?_);obtain rfl:=si t;have w0:=u.sD 3 [0];exact kE (c:=N) (vs:=[.slice y z A,I d.P.At.Row,I d.P.At.Col,B d.P.At.Pending,B d.P.Auto,.slice D E M,.slice g h i,I d.Parts]) rfl (by kernel_rfl) (by kernel_rfl) (by kernel_rfl) (u.on 1 rfl _ rfl).1 ⟨_,N,rfl,rfl,pt,(.slice y z A),(.slice D E M),w1,(.slice g h i),w0,rfl,U.m,X.m,Z.m⟩
def gx (p0:Int) (p1:Int):Option (ao):=
 (gA (aE 1 (aB p0 1024)) (aE 1 (aB p1 1024))).bind fun a=>
 some (⟨a,([]:List Int),([]:List Int),0⟩:ao)
theorem ra (A:Own c0 G F) (g:Int) (h:Int) {r:ao} (H:gx g h=some r): Calls prog 14 #[I g,I h] c0.w (aO c0 fun c v=>∃k x l y n z,Own c G (es true an k 48 x r.P.L :: es true (RI .i32) l 21 y r.Group :: es true (RI .u8) n 5 z r.Raw :: F)∧v= .agg #[k,I r.P.At.Row,I r.P.At.Col,B r.P.At.Pending,B r.P.Auto,l,n,I r.Parts]∧OA an c k x r.P.L∧OA (RI .i32) c l y r.Group∧OA (RI .u8) c n z r.Raw):=by
 unfold gx at H;refine en func14 rfl rfl (sr (me (al 35 [Y,I 0,I 0,B false,B false,Y,Y,I 0] A) ?_));rintro v4 U X ⟨T,rfl,D⟩;refine wln (sr (va (I g) (va (I (aB g 1024)) (va (I (aE 1 (aB g 1024))) (va (I h) (va (I (aB h 1024)) (va (I (aE 1 (aB h 1024))) (bn H fun a E H=>cl (rh D (aE 1 (aB g 1024)) (aE 1 (aB h 1024)) E) ?_))))))));rintro v14 N R ⟨v6,M,o,rfl,j⟩;obtain ⟨b,a16,d,rfl⟩:=(j).form;refine va (.agg #[.slice b a16 d,I a.At.Row,I a.At.Col,B a.At.Pending,B a.Auto,Y,Y,I 0]) (md (sA 35 [.slice b a16 d,I a.At.Row,I a.At.Col,B a.At.Pending,B a.Auto,Y,Y,I 0] 1 o ⟨(j).one,rfl,rfl,rfl,rfl,rfl,rfl,rfl,trivial⟩) ?_);rintro f S p;refine wln (W.ret ?_);obtain rfl:=si H;have t:OA (RI .i32) f (Y) [] []:=OA.nil (aM _);have q:=p.addHole (e:=es true (RI .i32) (Y) 21 [] ([]:List Int)) rfl;have u:OA (RI .u8) f (Y) [] []:=OA.nil (aM _);have i:=q.addHole (e:=es true (RI .u8) (Y) 5 [] ([]:List Int)) rfl;have s:=i.sD 4 [2,1,0];exact kE (c:=f) (vs:=[.slice b a16 d,I a.At.Row,I a.At.Col,B a.At.Pending,B a.Auto,Y,Y,I 0]) rfl (by kernel_rfl) (by kernel_rfl) (by kernel_rfl) (i.on 3 rfl _ rfl).1 ⟨_,f,rfl,rfl,pt,(.slice b a16 d),M,(Y),[],(Y),[],s,rfl,j.m,t,u⟩
def fJ (p0:ao) (p1:aS):Option (ao×Int):=
 if (p1.Kind==0)=true then
 (dJ p0 p1.Bytes).bind fun f=>
 some (f,0)
 else
 if (p1.Kind==1)=true then
 (dI p0).bind fun g=>
 some (g,0)
 else
 if (p1.Kind==13)=true then
 (cO p0).bind fun c=>
 (dq c.P p1.A p1.B).bind fun h=>
 some ((⟨h,c.Group,c.Raw,c.Parts⟩:ao),0)
 else
 (fy p1).bind fun e=>
 (if (e==0)=true then
 (cO p0).bind fun d=>
 (fK d.P p1).bind fun b=>
 some (b.L,b.At.Row,b.At.Col,b.At.Pending,b.Auto,d.Group,d.Raw,d.Parts)
 else
 some (p0.P.L,p0.P.At.Row,p0.P.At.Col,p0.P.At.Pending,p0.P.Auto,p0.Group,p0.Raw,p0.Parts)).bind fun a=>
 some ((⟨(⟨a.1,(⟨a.2.1,a.2.2.1,a.2.2.2.1⟩:ai),a.2.2.2.2.1⟩:aa),a.2.2.2.2.2.1,a.2.2.2.2.2.2.1,a.2.2.2.2.2.2.2⟩:ao),e)
theorem rU (O0:Own c0 G F) (d:ao) (j:aS) {r:ao×Int} (h2:Sl an c0 v1 d.P.L) (h4:Sl (RI .i32) c0 v3 d.Group) (h6:Sl (RI .u8) c0 v5 d.Raw) (h8:Sl (RI .u8) c0 v7 j.Bytes) (H:fJ d j=some r): Calls prog 46 #[.agg #[v1,I d.P.At.Row,I d.P.At.Col,B d.P.At.Pending,B d.P.Auto,v3,v5,I d.Parts],.agg #[I j.Kind,I j.A,I j.B,v7]] c0.w (aO c0 fun c v=>∃y1 y2 y3,Own c G (F)∧v= .tuple #[.agg #[y1,I r.1.P.At.Row,I r.1.P.At.Col,B r.1.P.At.Pending,B r.1.P.Auto,y2,y3,I r.1.Parts],I r.2]∧Sl an c y1 r.1.P.L∧Sl (RI .i32) c y2 r.1.Group∧Sl (RI .u8) c y3 r.1.Raw):=by
 unfold fJ at H;refine en func46 rfl rfl (sr ?_);obtain ⟨a9,E,M,rfl⟩:=(h2).form;obtain ⟨N,R,S,rfl⟩:=(h4).form;obtain ⟨T,a16,U,rfl⟩:=(h6).form;refine me (al 35 [.slice a9 E M,I d.P.At.Row,I d.P.At.Col,B d.P.At.Pending,B d.P.Auto,.slice N R S,.slice T a16 U,I d.Parts] O0) ?_;rintro v21 i7 w5 ⟨X,rfl,d5⟩;obtain ⟨k5,l5,m5,rfl⟩:=((h8.mono w5)).form;refine me (bx 38 [I j.Kind,I j.A,I j.B,.slice k5 l5 m5] d5) ?_;rintro v29 j7 o7 ⟨i1,rfl,e5,Z⟩;refine me (al 35 [Y,I 0,I 0,B false,B false,Y,Y,I 0] e5) ?_;rintro v33 k7 p7 ⟨t3,rfl,D⟩;refine va (I 0) (wln (W.seq (sr (va (Q i1) (vx (l1 u_3 ((mm Z) 0 _ rfl)) (wln (W.block (sr (vv (B (j.Kind==0)) (wln (cn H (fun n5 H=>?_) (fun n5 H=>?_))))))))))))
 ·refine sr (vx (leN 35 0 [.slice a9 E M,I d.P.At.Row,I d.P.At.Col,B d.P.At.Pending,B d.P.Auto,.slice N R S,.slice T a16 U,I d.Parts] (D.on 1 rfl)) (va (Qo i1 (0+3)) (vx (l1 lG ((mm Z) 3 _ rfl)) (bn H fun g o5 H=>cl (nv D d j.Bytes h2.m h4.m h6.m h8.m o5) ?_))));rintro v47 l7 q7 ⟨v36,v38,v40,f5,rfl,g3,h3,i3⟩;obtain ⟨j2,k2,l2,rfl⟩:=(g3).form;obtain ⟨m2,n2,o2,rfl⟩:=(h3).form;obtain ⟨p2,q2,s2,rfl⟩:=(i3).form;refine md (sA 35 [.slice j2 k2 l2,I g.P.At.Row,I g.P.At.Col,B g.P.At.Pending,B g.P.Auto,.slice m2 n2 o2,.slice p2 q2 s2,I g.Parts] 0 f5 ⟨g3.one,rfl,rfl,rfl,rfl,h3.one,i3.one,rfl,trivial⟩) ?_;rintro u3 r7 q3;refine va (I 0) (wln (W.ret (bkr (thr ?_))));obtain rfl:=si H;have g5:=q3.sD 2 [];exact qr (c:=u3) (vs:=[.slice j2 k2 l2,I g.P.At.Row,I g.P.At.Col,B g.P.At.Pending,B g.P.Auto,.slice m2 n2 o2,.slice p2 q2 s2,I g.Parts]) (v:=I 0) rfl (by kernel_rfl) (by kernel_rfl) (by kernel_rfl) (by kernel_rfl) (q3.on 0 rfl _ rfl).1 ⟨_,u3,rfl,rfl,pt,(.slice j2 k2 l2),(.slice m2 n2 o2),(.slice p2 q2 s2),g5,rfl,g3.m,h3.m,i3.m⟩
 refine sr (vv (B (j.Kind==1)) (wln (cn H (fun p5 H=>?_) (fun p5 H=>?_))))
 ·refine sr (vx (leN 35 0 [.slice a9 E M,I d.P.At.Row,I d.P.At.Col,B d.P.At.Pending,B d.P.Auto,.slice N R S,.slice T a16 U,I d.Parts] (D.on 1 rfl)) (bn H fun h q5 H=>cl (nu D d h2.m h4.m h6.m q5) ?_));rintro a8 m7 s7 ⟨x7,y7,u7,z7,h5,rfl,j3,k3,l3⟩;obtain ⟨t2,u2,v2,rfl⟩:=(j3).form;obtain ⟨w2,x2,z2,rfl⟩:=(k3).form;obtain ⟨a3,b3,c3,rfl⟩:=(l3).form;refine md (sA 35 [.slice t2 u2 v2,I h.P.At.Row,I h.P.At.Col,B h.P.At.Pending,B h.P.Auto,.slice w2 x2 z2,.slice a3 b3 c3,I h.Parts] 1 h5 ⟨j3.one,rfl,rfl,rfl,rfl,(k3).one,l3.one,rfl,trivial⟩) ?_;rintro n7 x5 i5;refine va (I 0) (wln (W.ret (bkr (thr ?_))));obtain rfl:=si H;obtain ⟨w3,s5,t7,s3,r5⟩:=i5.frz 0 rfl (k3.mono x5);have j5:=s3.sD 3 [];exact zS s5 (qr (c:=w3) (vs:=[.slice t2 u2 v2,I h.P.At.Row,I h.P.At.Col,B h.P.At.Pending,B h.P.Auto,.slice w2 x2 z2,.slice a3 b3 c3,I h.Parts]) (v:=I 0) rfl (by kernel_rfl) (by kernel_rfl) (by kernel_rfl) (by kernel_rfl) (s3.on 1 rfl _ rfl).1 ⟨_,w3,rfl,rfl,pt,(.slice t2 u2 v2),(.slice w2 x2 z2),(.slice a3 b3 c3),j5,rfl,j3.m,r5,l3.m⟩)
 refine sr (vv (B (j.Kind==13)) (wln (cn H (fun t5 H=>?_) (fun t5 H=>?_))))
 ·refine sr (vx (leN 35 0 [.slice a9 E M,I d.P.At.Row,I d.P.At.Col,B d.P.At.Pending,B d.P.Auto,.slice N R S,.slice T a16 U,I d.Parts] (D.on 1 rfl)) (bn H fun e u5 H=>cl (ij D d h2.m h4.m h6.m u5) ?_));rintro y6 c6 p6 ⟨b8,c8,w7,d8,z3,rfl,m3,j1,k1⟩;obtain ⟨c2,d2,e2,rfl⟩:=(m3).form;obtain ⟨o,p,q,rfl⟩:=(j1).form;obtain ⟨s,t,u,rfl⟩:=(k1).form;refine md (sA 35 [.slice c2 d2 e2,I e.P.At.Row,I e.P.At.Col,B e.P.At.Pending,B e.P.Auto,.slice o p q,.slice s t u,I e.Parts] 2 z3 ⟨m3.one,rfl,rfl,rfl,rfl,(j1).one,k1.one,rfl,trivial⟩) ?_;rintro d6 x4 t1;refine wln (sr (va (Q X) (vx (leN 31 0 [.slice c2 d2 e2,I e.P.At.Row,I e.P.At.Col,B e.P.At.Pending,B e.P.Auto] (t1.on 2 rfl)) (va (Qo i1 (0+1)) (vx (l1 u_3 ((mm Z) 1 _ rfl)) (va (Qo i1 (0+2)) (vx (l1 u_3 ((mm Z) 2 _ rfl)) (bn H fun b m4 H=>cl (pg t1 e.P j.A j.B m3.m m4) ?_))))))));rintro a7 e6 y4 ⟨z6,w6,a4,rfl,a0⟩;refine va (Q X) ?_;obtain ⟨x,y,z,rfl⟩:=(a0).form;refine md (sB 31 0 [.slice x y z,I b.At.Row,I b.At.Col,B b.At.Pending,B b.Auto] [.slice x y z,I b.At.Row,I b.At.Col,B b.At.Pending,B b.Auto,.slice o p q,.slice s t u,I e.Parts] 3 a4 ⟨(a0).one,rfl,rfl,rfl,rfl,trivial⟩) ?_;rintro f6 n3 u1;refine wln (sr (vx (leN 35 0 [.slice x y z,I b.At.Row,I b.At.Col,B b.At.Pending,B b.Auto,.slice o p q,.slice s t u,I e.Parts] (u1.on 3 rfl)) (md (sA 35 [.slice x y z,I b.At.Row,I b.At.Col,B b.At.Pending,B b.Auto,.slice o p q,.slice s t u,I e.Parts] 2 u1 ⟨a0.m.one,rfl,rfl,rfl,rfl,j1.m.one,k1.m.one,rfl,trivial⟩) ?_)));rintro g6 o3 b4;refine va (I 0) (wln (W.ret (bkr (thr ?_))));obtain rfl:=si H;obtain ⟨i6,o4,z4,c4,n4⟩:=b4.frz 0 rfl (a0.mono (n3.trans o3));obtain ⟨d3,q4,q6,w1,p4⟩:=c4.frz 1 rfl (j1.mono (x4.trans (y4.trans (n3.trans (o3.trans z4)))));have d4:=w1.sD 4 [];exact zS o4 (zS q4 (qr (c:=d3) (vs:=[.slice x y z,I b.At.Row,I b.At.Col,B b.At.Pending,B b.Auto,.slice o p q,.slice s t u,I e.Parts]) (v:=I 0) rfl (by kernel_rfl) (by kernel_rfl) (by kernel_rfl) (by kernel_rfl) (w1.on 2 rfl _ rfl).1 ⟨_,d3,rfl,rfl,pt,(.slice x y z),(.slice o p q),(.slice s t u),d4,rfl,n4.m,p4,k1.m⟩))
 refine W.skip (bkn (nrm (sr (vx (lN 38 (mm Z)) (bn H fun n r4 H=>cl (pF D j h8.m r4) ?_)))));rintro b7 e3 r6 ⟨f0,rfl⟩;refine va (I n) (wln (bn H fun a i x3=>W.seqJ (Jn e3 fun c l=>∃b0 d0 e0,Own c G ((Eb t3 35 [Y,I 0,I 0,B false,B false,Y,Y,I 0]) :: (Eb X 35 [b0,I a.2.1,I a.2.2.1,B a.2.2.2.1,B a.2.2.2.2.1,d0,e0,I a.2.2.2.2.2.2.2]) :: F)∧l= [(2,Q X),(4,Q t3),(6,I n)]∧Sl an c b0 a.1∧Sl (RI .i32) c d0 a.2.2.2.2.2.1∧Sl (RI .u8) c e0 a.2.2.2.2.2.2.1) ?_ ?_))
 ·refine sr (va (I n) (va (B (n==0)) (wln (cn i (fun s4 i=>?_) (fun s4 i=>?_)))))
  ·refine sr (vx (leN 35 0 [.slice a9 E M,I d.P.At.Row,I d.P.At.Col,B d.P.At.Pending,B d.P.Auto,.slice N R S,.slice T a16 U,I d.Parts] (f0.on 1 rfl)) (bn i fun f t4 i=>cl (ij f0 d h2.m h4.m h6.m t4) ?_));rintro f7 j6 s6 ⟨c7,d7,x6,e7,e4,rfl,b1,c1,d1⟩;obtain ⟨f2,g2,i2,rfl⟩:=(b1).form;obtain ⟨g0,h0,i0,rfl⟩:=(c1).form;obtain ⟨j0,k0,l0,rfl⟩:=(d1).form;refine md (sA 35 [.slice f2 g2 i2,I f.P.At.Row,I f.P.At.Col,B f.P.At.Pending,B f.P.Auto,.slice g0 h0 i0,.slice j0 k0 l0,I f.Parts] 2 e4 ⟨b1.one,rfl,rfl,rfl,rfl,(c1).one,d1.one,rfl,trivial⟩) ?_;rintro k6 a5 x1;refine wln (W.region (va (Q X) (vx (leN 31 0 [.slice f2 g2 i2,I f.P.At.Row,I f.P.At.Col,B f.P.At.Pending,B f.P.Auto] (x1.on 2 rfl)) (vx (lN 38 (mm Z)) (bn i fun k u4 i=>cl (rV x1 f.P j b1.m h8.m u4) ?_)))));rintro h7 l6 b5 ⟨g7,f4,rfl,e1⟩;refine va (Q X) ?_;obtain ⟨m0,o0,q0,rfl⟩:=(e1).form;refine md (sB 31 0 [.slice m0 o0 q0,I k.At.Row,I k.At.Col,B k.At.Pending,B k.Auto] [.slice m0 o0 q0,I k.At.Row,I k.At.Col,B k.At.Pending,B k.Auto,.slice g0 h0 i0,.slice j0 k0 l0,I f.Parts] 2 f4 ⟨e1.one,rfl,rfl,rfl,rfl,trivial⟩) ?_;rintro m6 c5 g4;refine wln ?_;obtain rfl:=si i;obtain ⟨l4,w4,t6,i4,v4⟩:=g4.frz 0 rfl (c1.mono (a5.trans (b5.trans c5)));have j4:=i4.sD 3 [1,2];exact ⟨l4,_,_,w4.symm,pt,us,(.slice m0 o0 q0),(.slice g0 h0 i0),(.slice j0 k0 l0),j4,rfl,e1.m,v4,d1.m⟩
  refine W.skip (nrm ?_);obtain rfl:=si i;exact jn e3 ⟨(.slice a9 E M),(.slice N R S),(.slice T a16 U),f0,rfl,h2.m,h4.m,h6.m⟩
 rintro e_ w_ ⟨n6,o6,_,rfl,u6,rfl,b0,d0,e0,z1,rfl,f1,g1,h1⟩;refine sr (vx (leN 35 0 [b0,I a.2.1,I a.2.2.1,B a.2.2.2.1,B a.2.2.2.2.1,d0,e0,I a.2.2.2.2.2.2.2] (z1.on 1 rfl)) (va (I n) ?_));obtain ⟨s0,t0,u0,rfl⟩:=(f1).form;obtain ⟨v0,w0,x0,rfl⟩:=(g1).form;obtain ⟨y0,z0,a1,rfl⟩:=(h1).form;refine md (sA 35 [.slice s0 t0 u0,I a.2.1,I a.2.2.1,B a.2.2.2.1,B a.2.2.2.2.1,.slice v0 w0 x0,.slice y0 z0 a1,I a.2.2.2.2.2.2.2] 0 z1 ⟨f1.one,rfl,rfl,rfl,rfl,g1.one,h1.one,rfl,trivial⟩) ?_;rintro f3 v6 b2;refine va (I n) (wln (W.ret ?_));obtain rfl:=si x3;have k4:=b2.sD 2 [];exact qr (c:=f3) (vs:=[.slice s0 t0 u0,I a.2.1,I a.2.2.1,B a.2.2.2.1,B a.2.2.2.2.1,.slice v0 w0 x0,.slice y0 z0 a1,I a.2.2.2.2.2.2.2]) (v:=I n) rfl (by kernel_rfl) (by kernel_rfl) (by kernel_rfl) (by kernel_rfl) (b2.on 0 rfl _ rfl).1 ⟨_,f3,rfl,rfl,pt,(.slice s0 t0 u0),(.slice v0 w0 x0),(.slice y0 z0 a1),k4,rfl,f1.m,g1.m,h1.m⟩
def fD (p0:List aS):Option (Bool):=
 (cM (σ:=Int×Int) (τ:=Bool ⊕ Unit) (((p0.length:Int) - 0).toNat+1) (fun a=>
 (bV (decide (a.2 < (p0.length:Int))) (some (decide (a.2 < 60)))).bind fun d=>
 if d=true then
 (idx p0 a.2).bind fun c=>
 (orE (decide ((w64 (a.1+(c.Bytes.length:Int))) > 600)) ((idx p0 a.2).bind fun h=>
 (bV (h.Kind==13) ((idx p0 a.2).bind fun i=>
 some (decide (i.A > 60)))).bind fun f=>
 (bV f ((idx p0 a.2).bind fun j=>
 some (decide (j.B > 60)))).bind fun g=>
 some g)).bind fun e=>
 if e=true then
 some (.inr (.inl true))
 else
 some (.inl ((w64 (a.1+(c.Bytes.length:Int))),(w64 (a.2+1))))
 else
 some (.inr (.inr ()))) (0,0)).bind fun b=>
 match b with
 | .inl b=>
 some b
 | .inr b=>
 some (decide ((p0.length:Int) > 50))
theorem qb (O0:Own c0 G F) (s:List aS) {r:Bool} (f:Sl io c0 v1 s) (H:fD s=some r): Calls prog 12 #[v1] c0.w (aO c0 fun c v=>Own c G (F)∧v=B r):=by
 unfold fD at H;refine en func12 rfl rfl (sr (va (B false) (wln (sr (va (I 0) (wln (W.seq (sr (va (I 0) (wln (W.block (bn H fun y h3 H4=>lp h3 (fun a=>Jn c0 fun c l=>Own c G (F)∧l= [(0,v1),(3,I a.1),(4,I a.2)]) (fun t=>match t with | .inl x_=>(fun i1 ex e w=>ex= .ret∧(Jn c0 fun c l=>Own c G (F)∧l= [(2,B i1)]) e w) x_ | .inr x_=>(fun t1 ex e w=>ex= .exit 0∧(Jn c0 fun c l=>Own c G (F)∧l= [(0,v1)]) e w) x_) ?_ ?_ ?_))))))))))))
 ·clear H4 h3;intro a g2 t0 j1 H;revert t0 j1;rintro D M ⟨c5,g6,_,rfl,E,rfl,O7,rfl⟩;refine W.seq (W.seq (bn H fun g0 R H=>W.join (Jn c5 fun c l=>Own c G (F)∧l= [(0,v1),(3,I a.1),(4,I a.2),(12,B g0)]) ?_ ?_))
  ·clear H;refine W.region (va (I a.2) (va (v1) (vx (ln 3 oa f.m) (va (B (decide (a.2 < (s.length:Int)))) ?_))));rcases bo (decide (a.2 < (s.length:Int))) with i | i
   ·have k0:=anT i R;refine vb i (wa (I a.2) (wa (B (decide (a.2 < 60))) ?_));obtain rfl:=si k0;exact va (B (decide (a.2 < 60))) (wln (jn c5 ⟨O7,rfl⟩))
   obtain rfl:=anF i R;exact vb i (pz (va (B false) (wln (jn c5 ⟨O7,rfl⟩))))
  rintro D M ⟨g,u1,_,rfl,q,rfl,h,rfl⟩;refine nrm (cn H (fun v0 H=>?_) (fun v0 H=>?_))
  ·refine W.skip (nrm (W.seq (W.block (sr (va (I a.1) (va (v1) (va (I a.2) (bn H fun d S H=>?_))))))));obtain ⟨n1,w0,e1⟩:=Sl.at (f.mono (E.trans q)) (aX S);obtain ⟨v25,rfl,x0⟩:=w0;refine vx (ix oa f.m S) (va (Qo (sb v1) (so v1+a.2.toNat * 4+3)) (vx (l1 lG (e1 3 _ rfl)) (vx (ln 3 lG x0) (vv (I (w64 (a.1+(d.Bytes.length:Int)))) (wln (W.seq (bn H fun h0 T H=>W.join (Jn g fun c l=>Own c G (F)∧l= [(0,v1),(3,I (w64 (a.1+(d.Bytes.length:Int)))),(4,I a.2),(48,B h0)]) ?_ ?_)))))))
   ·clear H;refine W.region (va (I (w64 (a.1+(d.Bytes.length:Int)))) (va (B (decide ((w64 (a.1+(d.Bytes.length:Int))) > 600))) ?_));rcases bo (decide ((w64 (a.1+(d.Bytes.length:Int))) > 600)) with j | j
    ·obtain rfl:=orT j T;exact vb j (pz (pz (pz (pz (pz (pz (pz (pz (pz (pz (pz (va (B true) (wln (jn g ⟨h,rfl⟩))))))))))))))
    have b:=orF j T;refine vb j (wa (v1) (wa (I a.2) (wn (bn b fun z U b=>?_))));obtain ⟨p1,z0,f1⟩:=Sl.at (f.mono (E.trans q)) (aX U);obtain ⟨v34,rfl,z1⟩:=z0;refine vx (ix oa f.m U) (wa (Qo (sb v1) (so v1+a.2.toNat * 4)) (wn (vx (l1 u_3 (f1 0 _ rfl)) (wa (B (z.Kind==13)) (wn (bn b fun m1 X b=>?_))))));rcases bo (z.Kind==13) with k | k
    ·have u:=anT k X;refine vb k (wa (v1) (wa (I a.2) (wn (bn u fun o Z u=>?_))));obtain ⟨q1,a1,g1⟩:=Sl.at (f.mono (E.trans q)) (aX Z);obtain ⟨v43,rfl,b2⟩:=a1;refine vx (ix oa f.m Z) (wa (Qo (sb v1) (so v1+a.2.toNat * 4+1)) (wn (vx (l1 u_3 (g1 1 _ rfl)) (wa (B (decide (o.A > 60))) (wn ?_)))));obtain rfl:=si u;refine va (B (decide (o.A > 60))) (wn (bn b fun i0 a0 b=>?_));rcases bo (decide (o.A > 60)) with n | n
     ·have x:=anT n a0;refine vb n (wa (v1) (wa (I a.2) (wn (bn x fun p b0 x=>?_))));obtain ⟨s1,b1,h1⟩:=Sl.at (f.mono (E.trans q)) (aX b0);obtain ⟨v52,rfl,c2⟩:=b1;refine vx (ix oa f.m b0) (wa (Qo (sb v1) (so v1+a.2.toNat * 4+2)) (wn (vx (l1 u_3 (h1 2 _ rfl)) (wa (B (decide (p.B > 60))) (wn ?_)))));obtain rfl:=si x;refine va (B (decide (p.B > 60))) ?_;obtain rfl:=si b;exact va (B (decide (p.B > 60))) (wln (jn g ⟨h,rfl⟩))
     obtain rfl:=anF n a0;refine vb n (pz (pz (pz (wa (B false) ?_))));obtain rfl:=si b;exact va (B false) (wln (jn g ⟨h,rfl⟩))
    obtain rfl:=anF k X;refine vb k (pz (pz (pz (wa (B false) (wn (bn b fun i0 c1 b=>?_))))));have d0:false=false:=rfl;obtain rfl:=anF d0 c1;refine vb d0 (pz (pz (pz (wa (B false) ?_))));obtain rfl:=si b;exact va (B false) (wln (jn g ⟨h,rfl⟩))
   rintro D M ⟨P,w1,_,rfl,d2,rfl,N,rfl⟩;refine nrm (cn H (fun d1 H=>?_) (fun d1 H=>?_))
   ·refine sr (va (B true) (wln (W.ret (bkr (thr ?_)))));obtain rfl:=si H;exact ⟨_,rfl,⟨rfl,jn P ⟨N,rfl⟩⟩⟩
   refine W.skip (bkn (nrm (W.region (va (I a.2) (vv (I (w64 (a.2+1))) (WL.nil ?_))))));obtain rfl:=si H;exact ⟨_,rfl,jn P ⟨N,rfl⟩⟩
  refine W.exit (thx ?_);obtain rfl:=si H;exact ⟨_,rfl,rfl,jn g ⟨h,rfl⟩⟩
 ·exact jn c0 ⟨O0,rfl⟩
 rcases y with y | y
 ·intro u0; revert u0;rintro _ D M ⟨rfl,q0,x1,_,rfl,e2,rfl,l0,rfl⟩;refine bkr (thr ?_);obtain rfl:=si H4;exact r1 (qq q0 ⟨l0,rfl⟩)
 rintro _ D M ⟨rfl,s0,y1,_,rfl,f2,rfl,o0,rfl⟩;refine bke (nrm (sr (va (v1) (vx (ln 3 oa f.m) (vv (B (decide ((s.length:Int) > 50))) (wln (W.ret ?_)))))));obtain rfl:=si H4;exact r1 (qq s0 ⟨o0,rfl⟩)
def oZ (sg:Sto) (p0:bb):Option (Sto×gu×Er):=
 (jB sg p0.W p0.H).bind fun b=>
 (kN b.1 b.2 p0.Ops).bind fun a=>
 (dH a.1 b.2).bind fun c=>
 some (a.1,c,a.2)
theorem xv (T:Own c0 G F) (X:Rel c0 sg G) (hG:Gl [2,4,7] c0) (b:bb) {r:Sto×gu×Er} (D:Sl io c0 v1 b.Ops) (H:oZ sg b=some r): Calls prog 56 #[.agg #[I b.W,I b.H,v1]] c0.w (aO c0 fun c v=>∃p R S,∃G_:Gm,Own c G_ (es true an p 48 R r.2.1.Lines :: F)∧Rel c r.1 G_∧v= .tuple #[.agg #[I r.2.1.Wide,I r.2.1.High,p,I r.2.1.At.Row,I r.2.1.At.Col,B r.2.1.At.Pending,B r.2.1.Auto],S]∧OA an c p R r.2.1.Lines∧RE 350 144 c S r.2.2):=by
 unfold oZ at H;refine en func56 rfl rfl (sr ?_);obtain ⟨Z,a4,a5,rfl⟩:=(D).form;refine me (bx 79 [I b.W,I b.H,.slice Z a4 a5] T) ?_;rintro v10 c9 l9 ⟨n,rfl,U,o⟩;refine me (al 45 [I 0,I 0,Y,I 0,I 0,B false,B false] U) ?_;rintro v14 h0 l0 ⟨g0,rfl,s⟩;refine va (.nilIface) (wln (sr (va (Q n) (vx (l1 u_3 ((mm o) 0 _ rfl)) (va (Qo n (0+1)) (vx (l1 u_3 ((mm o) 1 _ rfl)) (bn H fun l A H=>cl (pb s X.m b.W b.H A) ?_)))))));rintro v16 i0 m0 ⟨_,e0,t,z,f0,rfl,k⟩;refine va (v16) (wln (sr (va (v16) (va (Qo n (0+2)) (vx (l1 oa ((mm o) 2 _ rfl)) (bn H fun d0 E H=>cl (qZ t z (hG.m.le (by decide)) l.2 b.Ops k D.m E) ?_))))));rintro v25 j0 o0 ⟨_,q,u,i,rfl,M⟩;refine va (v25) (wln (sr (va (v16) (bn H fun a N H=>cl (ko u i l.2 k.m N) ?_))));rintro v42 k0 q0 ⟨v34,P,x,rfl,g⟩;refine va (v25) ?_;obtain ⟨d,e,f,rfl⟩:=(g).form;refine md (sA 45 [I a.Wide,I a.High,.slice d e f,I a.At.Row,I a.At.Col,B a.At.Pending,B a.Auto] 1 x ⟨rfl,rfl,(g).one,rfl,rfl,rfl,rfl,trivial⟩) ?_;rintro j s0 h;refine va (v25) (wln (W.ret ?_));obtain rfl:=si H;have y:=h.sD 2 [0];exact qr (c:=j) (vs:=[I a.Wide,I a.High,.slice d e f,I a.At.Row,I a.At.Col,B a.At.Pending,B a.Auto]) (v:=v25) rfl (by kernel_rfl) (by kernel_rfl) (by kernel_rfl) (by kernel_rfl) (h.on 1 rfl _ rfl).1 ⟨_,j,rfl,rfl,pt,(.slice d e f),P,v25,q,y,i.m,rfl,g.m,M.m⟩
def nk (sg:Sto) (p0:bb):Option (Sto×(List Int)):=
 (jB sg 1 1).bind fun f=>
 (cM (σ:=(List Int)×Int×Sto) (τ:=((List Int)×Sto)) (((p0.Ops.length:Int) - 0).toNat+1) (fun a=>
 if (decide (a.2.1 < (p0.Ops.length:Int)))=true then
 ((idx p0.Ops a.2.1).bind fun d=>
 (eG a.2.2 f.2 (⟨d.Kind,d.A,0,([]:List Int)⟩:aS)).bind fun b=>
 if (!b.2.isNil)=true then
 (app a.1 ([a.2.1]:List Int)).bind fun g=>
 some (g,b.1)
 else
 some (a.1,b.1)).bind fun e=>
 some (.inl (e.1,(w64 (a.2.1+1)),e.2))
 else
 some (.inr (a.1,a.2.2))) (([]:List Int),0,f.1)).bind fun c=>
 some (c.2,c.1)
theorem vF (O0:Own c0 G F) (R0:Rel c0 sg G) (hG:Gl [2,4,7] c0) (g:bb) {r:Sto×(List Int)} (t:Sl io c0 v1 g.Ops) (H:nk sg g=some r): Calls prog 57 #[.agg #[I g.W,I g.H,v1]] c0.w (aO c0 fun c v=>∃y1 y2,∃G_:Gm,Own c G_ (es true (RI .i64) y1 3 y2 r.2 :: F)∧Rel c r.1 G_∧v=y1∧OA (RI .i64) c y1 y2 r.2):=by
 unfold nk at H;refine en func57 rfl rfl (sr ?_);obtain ⟨U,X,Z,rfl⟩:=(t).form;refine me (bx 79 [I g.W,I g.H,.slice U X Z] O0) ?_;rintro v10 c9 l9 ⟨b6,rfl,O7,m8⟩;refine va (Y) (wln (sr (va (Y) (wln (sr (bn H fun k2 h1 H=>cl (pb O7 R0.m 1 1 h1) ?_))))));rintro v12 j c2 ⟨_,d0,i0,v0,x2,rfl,i1⟩;refine va (v12) (wln (W.seq (sr (va (Qo b6 (0+2)) (vx (l1 oa ((mm m8) 2 _ rfl)) (vx (ln 3 oa t.m) (va (I 0) (wln (W.block (bn H fun v2 P x=>lp P (fun a=>Jn j fun c l=>∃v22 h G_,Own c G_ (es true (RI .i64) v22 3 h a.1 :: F)∧l= [(3,v22),(4,v12),(9,.slice U X Z),(10,I (g.Ops.length:Int)),(11,I a.2.1)]∧Rel c a.2.2 G_∧OA (RI .i64) c v22 h a.1) (fun f ex e w=>ex= .exit 0∧(Jn j fun c l=>∃v24 k G_,Own c G_ (es true (RI .i64) v24 3 k f.1 :: F)∧l= [(3,v24)]∧Rel c f.2 G_∧OA (RI .i64) c v24 k f.1) e w) ?_ ?_ ?_))))))))))
 ·clear x P;intro a q3 g1 j2 H;revert g1 j2;rintro e_ w_ ⟨N,e3,_,rfl,d2,rfl,v22,h,e0,y,rfl,D,q⟩;refine sr (va (B (decide (a.2.1 < (g.Ops.length:Int)))) (wln (W.seq (cn H (fun j1 H=>?_) (fun j1 H=>?_)))))
  ·refine W.skip (nrm (bn H fun i b h0=>W.seqJ (Jn N fun c l=>∃v36 n G_,Own c G_ (es true (RI .i64) v36 3 n i.1 :: F)∧l= [(3,v36),(4,v12),(9,.slice U X Z),(10,I (g.Ops.length:Int)),(11,I a.2.1)]∧Rel c i.2 G_∧OA (RI .i64) c v36 n i.1) ?_ ?_))
   ·refine W.block (sr (va (I a.2.1) (bn b fun d R b=>?_)));obtain ⟨t2,k1,f2⟩:=Sl.at (t.mono (l9.trans (c2.trans d2))) (aX R);obtain ⟨v42,rfl,S⟩:=k1;refine vx (ix oa t.m R) (vx (lN 38 f2) (me (al 38 [I 0,I 0,I 0,Y] y) ?_));rintro v47 z2 e2 ⟨M,rfl,j0⟩;refine va (I a.2.1) ?_;obtain ⟨y0,z0,a1,rfl⟩:=((S.mono e2)).form;refine md (sA 38 [I d.Kind,I d.A,I d.B,.slice y0 z0 a1] 0 j0 ⟨rfl,rfl,rfl,S.m.one,trivial⟩) ?_;rintro b3 h3 o;refine wln (sr (va (v12) (va (Q M) (vx (le1 0 u_3 (o.on 0 rfl)) (va (Qo M 1) (vx (le1 1 u_3 (o.on 0 rfl)) (va (.agg #[I d.Kind,I d.A,I 0,Y]) (bn b fun a0 m1 b=>cl (lu o D.m (hG.m.le (by decide)) k2.2 (⟨d.Kind,d.A,0,([]:List Int)⟩:aS) i1.m (Sl.nl _ _) m1) ?_))))))));rintro v54 b1 i3 ⟨_,u,z,E,rfl,n1⟩;refine vr (B (!a0.2.isNil)) (by rcases (n1).cs with ⟨p,s⟩ | ⟨b_,p,s⟩ | ⟨b_,p,s⟩ <;> (subst p; rw [s]; kernel_rfl)) (wln (cn b (fun p1 b=>?_) (fun p1 b=>?_)))
    ·refine W.region (va (v22) (va (I a.2.1) (me (sl (RI .i64) 3 [[I a.2.1]] ([a.2.1]:List Int) z ⟨rfl,trivial⟩) ?_)));rintro p3 c3 j3 ⟨o3,k0,q1⟩;obtain ⟨d3,t1,k3,l0,s1⟩:=k0.frz 0 rfl q1;refine WL.gh t1 (bn b fun w2 u1 b=>me (ap (RI .i64) (I 0) 8 89 2 l0 q.m s1 u1 rP) ?_);rintro T c1 l3 ⟨g2,m0,w1⟩;refine va (T) (WL.nil (bkn (nrm ?_)));obtain rfl:=si b;have o0:=m0.sD 3 [2];exact jn c1 ⟨T,g2,u,o0,rfl,E.m,w1⟩
    refine W.skip (bkn (nrm ?_));obtain rfl:=si b;have q0:=z.sD 2 [1];exact jn b1 ⟨v22,h,u,q0,rfl,E,q.m⟩
   rintro e_ w_ ⟨d1,f3,_,rfl,m3,rfl,v36,n,f0,s0,rfl,w0,x1⟩;refine W.region (vv (I (w64 (a.2.1+1))) (WL.nil ?_));obtain rfl:=si h0;exact ⟨_,rfl,jn d1 ⟨v36,n,f0,s0,rfl,w0,x1⟩⟩
  refine W.exit (thx ?_);obtain rfl:=si H;exact ⟨_,rfl,rfl,jn N ⟨v22,h,e0,y,rfl,D,q⟩⟩
 ·have z1:OA (RI .i64) j (Y) [] []:=OA.nil (aM _);have t0:=i0.addHole (e:=es true (RI .i64) (Y) 3 [] ([]:List Int)) rfl;exact jn j ⟨(Y),[],d0,t0,rfl,v0,z1⟩
 rintro _ e_ w_ ⟨rfl,e1,g3,_,rfl,n3,rfl,v24,k,g0,u0,rfl,x0,b2⟩;refine bke (nrm (sr (vv (v24) (wln (W.ret ?_)))));obtain rfl:=si x;exact r1 (qq e1 ⟨v24,k,g0,u0,x0,rfl,b2⟩)
def oX (p0:bb):Option (Unit):=
 some ()
theorem td (e:Own c0 G F) (a:bb) {r:Unit} (l:Sl io c0 v1 a.Ops) (H:oX a=some r): Calls prog 55 #[.agg #[I a.W,I a.H,v1]] c0.w (aO c0 fun c v=>∃d:Nat,Own c G (F)∧v= .func (.func 97) #[] #[Q d]∧(∀j u,([I a.W,I a.H,v1]:List Value)[j]? = some u→Im c d (0+j) u)):=by
 unfold oX at H;refine en func55 rfl rfl (sr ?_);obtain ⟨g,h,i,rfl⟩:=(l).form;refine me (bx 79 [I a.W,I a.H,.slice g h i] e) ?_;rintro v10 k n ⟨b,rfl,f,m⟩;refine va (.nilFunc) (wln (sr (vv (.func (.func 97) #[] #[Q b]) (wln (W.ret ?_)))));obtain rfl:=si H;exact r1 (qq k ⟨b,f,rfl,m⟩)
def fC (p0:bb):Option (Bool):=
 (fD p0.Ops).bind fun c=>
 (orE c ((bV (decide (p0.W > 60)) (some (decide (p0.H > 60)))).bind fun a=>
 some a)).bind fun b=>
 some b
theorem qa (x:Own c0 G F) (a:bb) {r:Bool} (t:Sl io c0 v1 a.Ops) (H:fC a=some r): Calls prog 43 #[.agg #[I a.W,I a.H,v1]] c0.w (aO c0 fun c v=>Own c G (F)∧v=B r):=by
 unfold fC at H;refine en func43 rfl rfl (sr ?_);obtain ⟨z,A,D,rfl⟩:=(t).form;refine me (bx 79 [I a.W,I a.H,.slice z A D] x) ?_;rintro v10 E T ⟨j,rfl,y,k⟩;refine va (B false) (wln (W.seq (bn H fun u s H=>bn H fun q h H=>W.join (Jn E fun c l=>Own c G (F)∧l= [(2,B q)]) ?_ ?_)))
 ·clear H;refine W.region (va (Qo j (0+2)) (vx (l1 oa (k 2 _ rfl)) (cl (qb y a.Ops t.m s) ?_)));rintro v18 g P ⟨f,rfl⟩;rcases bo (u) with b | b
  ·obtain rfl:=orT b h;exact vb b (pz (pz (pz (pz (vv (B true) (wln (jn g ⟨f,rfl⟩)))))))
  have e:=orF b h;refine vb b (wa (Q j) (wn (vx (l1 u_3 ((mm k) 0 _ rfl)) (wa (B (decide (a.W > 60))) (wn (bn e fun M i e=>?_))))));rcases bo (decide (a.W > 60)) with d | d
  ·have n:=anT d i;refine vb d (wa (Qo j (0+1)) (wn (vx (l1 u_3 ((mm k) 1 _ rfl)) (wa (B (decide (a.H > 60))) (wn ?_)))));obtain rfl:=si n;refine va (B (decide (a.H > 60))) ?_;obtain rfl:=si e;exact vv (B (decide (a.H > 60))) (wln (jn g ⟨f,rfl⟩))
  obtain rfl:=anF d i;refine vb d (pz (ps (wa (B false) ?_)));obtain rfl:=si e;exact vv (B false) (wln (jn g ⟨f,rfl⟩))
 rintro S U ⟨p,N,_,rfl,R,rfl,o,rfl⟩;refine nrm (W.ret ?_);obtain rfl:=si H;exact r1 (qq p ⟨o,rfl⟩)
def dD (sg:Sto):Option (Sto×Bool):=
 (oZ sg (⟨2,1,([(⟨0,0,0,([97]:List Int)⟩:aS),(⟨99,0,0,([]:List Int)⟩:aS)]:List aS)⟩:bb)).bind fun a=>
 (bV (a.2.1.Wide==2) (some (a.2.1.At.Row==0 && (a.2.1.At.Col==1 && (a.2.1.At.Pending==false && true))))).bind fun d=>
 (bV d ((vq a.2.2).bind fun g=>
 some (g==1))).bind fun e=>
 (if e=true then (nk a.1 (⟨2,1,([(⟨0,0,0,([97]:List Int)⟩:aS),(⟨99,0,0,([]:List Int)⟩:aS)]:List aS)⟩:bb)).bind fun c=>
 some ((c.2.length:Int)==1,c.1) else some (false,a.1)).bind fun b=>
 (bV b.1 ((oX (⟨2,1,([(⟨0,0,0,([97]:List Int)⟩:aS),(⟨99,0,0,([]:List Int)⟩:aS)]:List aS)⟩:bb)).bind fun h=>
 some true)).bind fun f=>
 some (b.2,f)
theorem mp (O0:Own c0 G F) (R0:Rel c0 sg G) (hG:Gl [2,4,7] c0) (hT:Et c0) {r:Sto×Bool} (H:dD sg=some r): Calls prog 42 #[] c0.w (aO c0 fun c v=>∃G_:Gm,Own c G_ (F)∧Rel c r.1 G_∧v=B r.2):=by
 unfold dD at H;refine en func42 rfl rfl (sr (va (B false) (wln (sr (me (sl (RI .u8) 5 [[.int .u8 97]] ([97]:List Int) O0 ⟨rfl,trivial⟩) ?_)))));rintro v5 c4 l4 ⟨u2,O1,h3⟩;refine me (Own.mark (T:=33) 0 O1 rfl h3 (by kernel_rfl) lG u_5 (by kernel_rfl)) ?_;rintro v9 c8 l8 ⟨O6,h7⟩;have c1:=O6.sD 1 [];obtain ⟨D,E,M,rfl⟩:=(h7).form;refine va (.agg #[I 0,I 0,I 0,.slice D E M]) (va (.agg #[I 99,I 0,I 0,Y]) (me (sl io 38 [[I 0,I 0,I 0,.slice D E M],[I 99,I 0,I 0,Y]] ([(⟨0,0,0,([97]:List Int)⟩:aS),(⟨99,0,0,([]:List Int)⟩:aS)]:List aS) c1 ⟨⟨(.slice D E M),rfl,h7⟩,⟨(Y),rfl,(Sl.nl _ _)⟩,trivial⟩) ?_));rintro v18 t2 a3 ⟨f2,d1,g⟩;obtain ⟨b,d,e,rfl⟩:=(g).form;refine va (.agg #[I 2,I 1,.slice b d e]) (me (al 79 [I 0,I 0,Y] d1) ?_);rintro v25 v2 a0 ⟨m1,rfl,e1⟩;refine md (sA 79 [I 2,I 1,.slice b d e] 0 e1 ⟨rfl,rfl,g.m.one,trivial⟩) ?_;rintro w2 b0 f0;refine wln (sr (vx (leN 79 0 [I 2,I 1,.slice b d e] (f0.on 0 rfl)) ?_));obtain ⟨x2,t1,p0,f1,s1⟩:=f0.frz 1 rfl (g.mono (a0.trans b0));refine WL.gh t1 (bn H fun a u1 H=>cl (xv f1 R0.m (hG.m.le (by decide)) (⟨2,1,([(⟨0,0,0,([97]:List Int)⟩:aS),(⟨99,0,0,([]:List Int)⟩:aS)]:List aS)⟩:bb) s1 u1) ?_);rintro v43 y2 q0 ⟨v33,g2,v36,x,g1,t,rfl,h0,v1⟩;refine va (.tuple #[.agg #[I a.2.1.Wide,I a.2.1.High,v33,I a.2.1.At.Row,I a.2.1.At.Col,B a.2.1.At.Pending,B a.2.1.Auto],v36]) (va (.agg #[I a.2.1.Wide,I a.2.1.High,v33,I a.2.1.At.Row,I a.2.1.At.Col,B a.2.1.At.Pending,B a.2.1.Auto]) (va (v36) (me (al 45 [I 0,I 0,Y,I 0,I 0,B false,B false] g1) ?_)));rintro v47 z2 d0 ⟨S,rfl,h1⟩;obtain ⟨N,P,R,rfl⟩:=((h0.mono d0)).form;refine md (sA 45 [I a.2.1.Wide,I a.2.1.High,.slice N P R,I a.2.1.At.Row,I a.2.1.At.Col,B a.2.1.At.Pending,B a.2.1.Auto] 0 h1 ⟨rfl,rfl,h0.m.one,rfl,rfl,rfl,rfl,trivial⟩) ?_;rintro U s0 f;refine va (v36) (wln (W.seq (bn H fun l2 i0 H=>bn H fun m2 Z H=>bn H fun z0 u H=>bn H fun a1 h H=>W.join (Jn U fun c l=>∃G_,Own c G_ ((Eb S 45 [I a.2.1.Wide,I a.2.1.High,.slice N P R,I a.2.1.At.Row,I a.2.1.At.Col,B a.2.1.At.Pending,B a.2.1.Auto]) :: es true an (.slice N P R) 48 g2 a.2.1.Lines :: (Eb m1 79 [I 2,I 1,.slice b d e]) :: es false io (.slice b d e) 38 f2 ([(⟨0,0,0,([97]:List Int)⟩:aS),(⟨99,0,0,([]:List Int)⟩:aS)]:List aS) :: F)∧l= [(0,B a1)]∧Rel c z0.2 G_) ?_ ?_)))
 ·clear H;refine W.region (va (Q S) (vx (le1 0 u_3 (f.on 0 rfl)) (va (B (a.2.1.Wide==2)) ?_)));rcases bo (a.2.1.Wide==2) with i | i
  ·have b1:=anT i i0;refine vb i (wa (Qo S 3) (wn (vx (leN 29 3 [I a.2.1.At.Row,I a.2.1.At.Col,B a.2.1.At.Pending] (f.on 0 rfl)) (wa (.agg #[I 0,I 1,B false]) (wn (vr (B (a.2.1.At.Row==0 && (a.2.1.At.Col==1 && (a.2.1.At.Pending==false && true)))) (Cj (T:=29) (xs:= #[I a.2.1.At.Row,I a.2.1.At.Col,B a.2.1.At.Pending]) (ys:= #[I 0,I 1,B false]) (r:=(a.2.1.At.Row==0 && (a.2.1.At.Col==1 && (a.2.1.At.Pending==false && true)))) underlying29 (by kernel_rfl) (by kernel_rfl) (EqP.int (by kernel_rfl) u_3 rfl rfl (EqP.int (by kernel_rfl) u_3 rfl rfl (EqP.bool (by kernel_rfl) u_4 rfl rfl EqP.nil))) (by kernel_rfl) _) ?_))))));obtain rfl:=si b1;refine va (B (a.2.1.At.Row==0 && (a.2.1.At.Col==1 && (a.2.1.At.Pending==false && true)))) ?_;rcases bo ((a.2.1.At.Row==0 && (a.2.1.At.Col==1 && (a.2.1.At.Pending==false && true)))) with j | j
   ·have y:=anT j Z;refine vb j (wa (v36) (wn (bn y fun o w1 y=>cl (Dj f hT.m a.2.2 v1.m w1) ?_)));rintro e3 n1 t0 ⟨q,rfl⟩;refine wa (B (o==1)) ?_;obtain rfl:=si y;refine va (B (o==1)) ?_;rcases bo (o==1) with k | k
    ·have z:=it k u;refine vb k (wn (vx (leN 79 0 [I 2,I 1,.slice b d e] (q.on 2 rfl)) (wn ?_)));have y1:=q.slf 3 rfl (g.mono (a0.trans (b0.trans (p0.trans (q0.trans (d0.trans (s0.trans t0)))))));refine bn z fun p z1 z=>cl (vF q t.m (hG.m.le (by decide)) (⟨2,1,([(⟨0,0,0,([97]:List Int)⟩:aS),(⟨99,0,0,([]:List Int)⟩:aS)]:List aS)⟩:bb) y1 z1) ?_;rintro f3 p1 e2 ⟨_,d3,e0,s,g0,rfl,b2⟩;refine wn (vx (lnO 3 rP b2) (wa (B ((p.2.length:Int)==1)) ?_));obtain rfl:=si z;refine va (B ((p.2.length:Int)==1)) ?_;rcases bo ((p.2.length:Int)==1) with n | n
     ·have A:=anT n h;refine vb n (wn (vx (leN 79 0 [I 2,I 1,.slice b d e] (s.on 3 rfl)) (wn ?_)));have c2:=s.slf 4 rfl (g.mono (a0.trans (b0.trans (p0.trans (q0.trans (d0.trans (s0.trans (t0.trans e2))))))));refine bn A fun q2 d2 A=>cl (td s (⟨2,1,([(⟨0,0,0,([97]:List Int)⟩:aS),(⟨99,0,0,([]:List Int)⟩:aS)]:List aS)⟩:bb) c2 d2) ?_;rintro g3 q1 b3 ⟨s2,i1,rfl,c3⟩;refine wa (B true) ?_;obtain rfl:=si A;refine vv (B true) (wln ?_);have j1:=i1.sD 5 [1,2,3,4];exact jn q1 ⟨e0,j1,rfl,g0.m⟩
     obtain rfl:=anF n h;refine vb n (pz (ps (vv (B false) (wln ?_))));have k1:=s.sD 5 [1,2,3,4];exact jn p1 ⟨e0,k1,rfl,g0⟩
    obtain rfl:=bm (ie k u);refine vb k (pz (pz (va (B false) ?_)));have j0:false=false:=rfl;obtain rfl:=anF j0 h;exact vb j0 (pz (ps (vv (B false) (wln (jn n1 ⟨x,q,rfl,t.m⟩)))))
   obtain rfl:=anF j Z;refine vb j (pz (ps (va (B false) ?_)));have k0:false=false:=rfl;obtain rfl:=bm (ie k0 u);refine vb k0 (pz (pz (va (B false) ?_)));have l0:false=false:=rfl;obtain rfl:=anF l0 h;exact vb l0 (pz (ps (vv (B false) (wln (jn U ⟨x,f,rfl,t.m⟩)))))
  obtain rfl:=anF i i0;refine vb i (pz (pz (va (B false) ?_)));have m0:false=false:=rfl;obtain rfl:=anF m0 Z;refine vb m0 (pz (ps (va (B false) ?_)));have o0:false=false:=rfl;obtain rfl:=bm (ie o0 u);refine vb o0 (pz (pz (va (B false) ?_)));have X:false=false:=rfl;obtain rfl:=anF X h;exact vb X (pz (ps (vv (B false) (wln (jn U ⟨x,f,rfl,t.m⟩)))))
 rintro e_ w_ ⟨y0,n2,_,rfl,p2,rfl,u0,v0,rfl,x0⟩;refine nrm (W.ret ?_);obtain rfl:=si H;have w0:=v0.sD 4 [];exact r1 (qq y0 ⟨u0,w0,x0,rfl⟩)
def jV (p0:gu) (q0_0:Int):Option (Bool):=
 some (p0.At.Row==q0_0)
theorem nh {b:Nat} (f:Own c0 G F) (a:gu) (q0_0:Int) {r:Bool} (l:Sl an c0 v1 a.Lines) (m:∀j u,([I q0_0]:List Value)[j]? = some u→Im c0 b (0+j) u) (H:jV a q0_0=some r): Calls prog 45 #[.agg #[I a.Wide,I a.High,v1,I a.At.Row,I a.At.Col,B a.At.Pending,B a.Auto],Q b] c0.w (aO c0 fun c v=>Own c G (F)∧v=B r):=by
 unfold jV at H;refine en func45 rfl rfl (sr ?_);obtain ⟨h,i,k,rfl⟩:=(l).form;refine me (bx 45 [I a.Wide,I a.High,.slice h i k,I a.At.Row,I a.At.Col,B a.At.Pending,B a.Auto] f) ?_;rintro v11 e o ⟨d,rfl,g,n⟩;refine va (B false) (wln (sr (vv (Qo d (0+3)) (vx (l1 u_3 (n 3 _ rfl)) (vx (l1 u_3 ((mm m) 0 _ rfl)) (vv (B (a.At.Row==q0_0)) (wln (W.ret ?_))))))));obtain rfl:=si H;exact r1 (qq e ⟨g,rfl⟩)
end Go.Proofs.YtclmdpamofdoiaaGreatDoor
