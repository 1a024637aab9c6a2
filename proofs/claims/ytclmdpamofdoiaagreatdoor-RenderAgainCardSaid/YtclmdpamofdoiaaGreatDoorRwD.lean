/- Parts of the proofs of RenderDraws, RenderAgain: the walk through the code, and plain Lean. No condition. -/
import Derived.Test.YtclmdpamofdoiaaGreatDoorRwA
import Derived.Test.YtclmdpamofdoiaaGreatDoorProg
import Derived.Test.YtclmdpamofdoiaaGreatDoorRwB
import Derived.Test.YtclmdpamofdoiaaGreatDoorRwC
import Derived.RangeFuncSeq
import Derived.RangeFuncRecord
import Derived.RangeFuncLeaves
import Derived.OpenShut
import Derived.LaidLaws
import Derived.Handed
import Derived.Lay
import Derived.JoinedOf
import Derived.KernelRfl
import Derived.SizedLaws
set_option linter.unusedVariables false
set_option linter.unusedSimpArgs false
namespace Go.Proofs.YtclmdpamofdoiaaGreatDoor
open Go Go.Lt
set_option maxRecDepth 10000
set_option linter.unusedVariables false
attribute [local irreducible] W WL AC
open Tryz
variable {c0:Cx} {G:Gm} {F:List En} {sg:Sto} {v1 v2 v3 v4 v5 v6 v7 v8 v9 v10 v11 v12 v13 v14 v15 v16 v17 v18 v19 v20 v21 v22 v23 v24 v25 v26 v27 v28 v29 v30 v31 v32 v33 v34 v35 v36 v37 v38 v39 v40 v41 v42 v43 v44 v45 v46 v47 v48 v49 v50 v51 v52 v53 v54 v55 v56 v57 v58 v59 v60:Value}
def dU (p0:aV) (p1:Int) (p2:am):Option (Bool):=
 (mq p2).bind fun d=>
 if (d==2)=true then
 some true
 else
 if (!p0.some)=true then
 some false
 else
 (bD (p1==65039) (some p0.pict)).bind fun a=>
 (orE a (some p2.Pict)).bind fun b=>
 (orE b (some (p2.Break==6))).bind fun c=>
 some c
theorem kH {b:Nat} (d:aV) (o:Int) (a:am) (S:Own c0 G ((Eb b 265 [B d.some,B d.pict,B d.wide]) :: F)) {r:Bool} (H:dU d o a=some r): Calls prog 265 #[Q b,J o,.agg #[I a.Break,B a.Pict,I a.Conj,I a.East]] c0.w (aP c0 fun c v=>Own c G ((Eb b 265 [B d.some,B d.pict,B d.wide]) :: F)∧v=B r):=by
 unfold dU at H;refine en func265 rfl rfl (sr (me (bx 238 [I a.Break,B a.Pict,I a.Conj,I a.East] S) ?_));rintro v5 c4 l4 ⟨p,rfl,T,n⟩;refine va (B false) (wln (W.seq (W.block (sr (vx (lN 238 n) (bn H fun u Z H=>cl (vJ T a Z) ?_))))));rintro v12 e b0 ⟨f,rfl⟩;refine vv (B (u==2)) (wln (cn H (fun P H=>?_) (fun P H=>?_)))
 ·refine sr (va (B true) (wln (W.ret (bkr (thr ?_)))));obtain rfl:=si H;exact r1 (qq e ⟨f,rfl⟩)
 refine sr (vv (Q b) (va (Q b) (vx (le1 0 u_4 (f.on 0 rfl)) (vv (B (!d.some)) (wln (cn H (fun R H=>?_) (fun R H=>?_)))))))
 ·refine sr (va (B false) (wln (W.ret (bkr (thr ?_)))));obtain rfl:=si H;exact r1 (qq e ⟨f,rfl⟩)
 refine W.skip (bkn (nrm (W.seq (bn H fun U q H=>bn H fun X m H=>bn H fun x g H=>W.join (Jn e fun c l=>Own c G ((Eb b 265 [B d.some,B d.pict,B d.wide]) :: F)∧l= [(6,B x)]) ?_ ?_))))
 ·clear H;refine W.region (va (J o) (va (B (o==65039)) ?_));rcases bo (o==65039) with h | h
  ·have y:=anT h q;refine vb h (wa (Q b) (wa (Q b) (wa (Qo b 1) (wn (vx (le1 1 u_4 (f.on 0 rfl)) ?_)))));obtain rfl:=si y;refine va (B d.pict) ?_;rcases bo (d.pict) with i | i
   ·obtain rfl:=orT i m;refine vb i (pz (va (B true) ?_));have s:true=true:=rfl;obtain rfl:=orT s g;exact vb s (pz (ps (vv (B true) (wln (jn e ⟨f,rfl⟩)))))
   have z:=orF i m;refine vb i (wa (Qo p (0+1)) (wn (vx (l1 u_4 ((mm n) 1 _ rfl)) ?_)));obtain rfl:=si z;refine va (B a.Pict) ?_;rcases bo (a.Pict) with j | j
   ·obtain rfl:=orT j g;exact vb j (pz (ps (vv (B true) (wln (jn e ⟨f,rfl⟩)))))
   have A:=orF j g;refine vb j (wa (Q p) (wn (vx (l1 u_3 ((mm n) 0 _ rfl)) (wa (B (a.Break==6)) ?_))));obtain rfl:=si A;exact vv (B (a.Break==6)) (wln (jn e ⟨f,rfl⟩))
  obtain rfl:=anF h q;refine vb h (pz (pz (va (B false) ?_)));have t:false=false:=rfl;have D:=orF t m;refine vb t (wa (Qo p (0+1)) (wn (vx (l1 u_4 ((mm n) 1 _ rfl)) ?_)));obtain rfl:=si D;refine va (B a.Pict) ?_;rcases bo (a.Pict) with k | k
  ·obtain rfl:=orT k g;exact vb k (pz (ps (vv (B true) (wln (jn e ⟨f,rfl⟩)))))
  have E:=orF k g;refine vb k (wa (Q p) (wn (vx (l1 u_3 ((mm n) 0 _ rfl)) (wa (B (a.Break==6)) ?_))));obtain rfl:=si E;exact vv (B (a.Break==6)) (wln (jn e ⟨f,rfl⟩))
 rintro e_ w_ ⟨N,a0,_,rfl,d0,rfl,M,rfl⟩;refine nrm (W.ret ?_);obtain rfl:=si H;exact r1 (qq N ⟨M,rfl⟩)
def dg (p0:aV) (p1:Int) (p2:am):Option (aV×Int):=
 if false=true then
 some (p0,1)
 else
 (orE p0.wide ((dU p0 p1 p2).bind fun b=>
 some b)).bind fun a=>
 if a=true then
 some ((⟨true,p2.Pict,a⟩:aV),2)
 else
 some ((⟨true,p2.Pict,a⟩:aV),1)
theorem lc {a:Nat} (b:aV) (k:Int) (d:am) (T:Own c0 G ((Eb a 265 [B b.some,B b.pict,B b.wide]) :: F)) {r:aV×Int} (H:dg b k d=some r): Calls prog 215 #[Q a,J k,.agg #[I d.Break,B d.Pict,I d.Conj,I d.East]] c0.w (aP c0 fun c v=>Own c G ((Eb a 265 [B r.1.some,B r.1.pict,B r.1.wide]) :: F)∧v=I r.2):=by
 unfold dg at H;refine en func215 rfl rfl (sr (me (bx 238 [I d.Break,B d.Pict,I d.Conj,I d.East] T) ?_));rintro v5 X l4 ⟨x,rfl,m,P⟩;refine va (I 0) (wln (W.seq (sr (va (Q a) (va (B false) (wln (W.cond (t:=false) (by kernel_rfl) (fun n=>?_) (fun n=>?_))))))))
 ·cases n
 have H:=ie n H;refine W.skip (nrm (W.seq (bn H fun e N H=>W.join (Jn X fun c l=>Own c G ((Eb a 265 [B b.some,B b.pict,B e]) :: F)∧l= [(0,Q a),(5,Q x)]) ?_ ?_)))
 ·clear H;refine W.region (vv (Q a) (va (Q a) (va (Qo a 2) (vx (le1 2 u_4 (m.on 0 rfl)) ?_))));rcases bo (b.wide) with j | j
  ·obtain rfl:=orT j N;refine vb j (pz (pz (va (B true) (va (Q a) (va (Qo a 2) (md (sC 4 2 (B true) [B b.some,B b.pict,B true] 0 m ⟨rfl,trivial⟩) ?_))))));rintro y e0 U;exact wln (jn y ⟨U,rfl⟩)
  have g:=orF j N;refine vb j (wa (Q a) (wa (J k) (wn (vx (lN 238 P) (wn (bn g fun f E g=>cl (kH b k d m E) ?_))))));rintro v19 Z f0 ⟨o,rfl⟩;obtain rfl:=si g;refine va (B f) (va (Q a) (va (Qo a 2) (md (sC 4 2 (B f) [B b.some,B b.pict,B f] 0 o ⟨rfl,trivial⟩) ?_)));rintro z g0 p;exact wln (jn z ⟨p,rfl⟩)
 rintro e_ w_ ⟨a0,b0,_,rfl,h0,rfl,q,rfl⟩;refine nrm (W.seq (rD [] (Kp G0 []) q ?_));intro A i0 s;have l0:Kp G0 [] A:=Kp.nil0;refine ta 0 (Q a) (ta 1 (Q a) (ta 2 (Qo x (0+1)) (tx 3 (fun c' d0=>l1 u_4 ((mm P) 1 _ rfl)) (ta 4 (Q a) (ta 5 (Q a) (o1 6 (gD 6 (sC 4 0 (B true) [B true,B b.pict,B e] 0 s ⟨rfl,trivial⟩) ?_)))))));rintro D j0 u;have R:Kp G0 [] D:=Kp.nil0;refine ⟨.inr R,ta 7 (Q a) (ta 8 (Qo a 1) (o1 9 (gD 9 (sC 4 1 (B d.Pict) [B true,B d.Pict,B e] 0 u ⟨rfl,trivial⟩) ?_)))⟩;rintro i k0 h;have S:Kp G0 [] i:=Kp.nil0;refine ⟨.inr S,dn (nrm (W.seq (sr (vv (Q a) (va (Qo a 2) (vx (le1 2 u_4 (h.on 0 rfl)) (wln (cn H (fun M H=>?_) (fun M H=>?_)))))))))⟩
 ·refine sr (va (I 2) (wln (W.ret (thr ?_))));obtain rfl:=si H;exact r1 (qq i ⟨h,rfl⟩)
 refine W.skip (nrm (sr (va (I 1) (wln (W.ret ?_)))));obtain rfl:=si H;exact r1 (qq i ⟨h,rfl⟩)
def lE (p0:List Int):Option (Int):=
 (cv (σ:=Int×Int×Bool×Bool×Bool) (τ:=(Int×Bool×Bool×Bool)) (((p0.length:Int) - 0).toNat+1) (fun a=>
 if (decide (a.2.1 < (p0.length:Int)))=true then
 (idx p0 a.2.1).bind fun c=>
 (nu c).bind fun e=>
 (dg (⟨a.2.2.1,a.2.2.2.1,a.2.2.2.2⟩:aV) c e).bind fun b=>
 some (.inl (b.2,(w64 (a.2.1+1)),b.1.some,b.1.pict,b.1.wide))
 else
 some (.inr (a.1,a.2.2.1,a.2.2.2.1,a.2.2.2.2))) (1,0,false,false,false)).bind fun d=>
 some d.1
theorem ue (T:Own c0 G F) (g:List Int) {r:Int} (n:Sl (RI .i32) c0 v1 g) (H:lE g=some r): Calls prog 153 #[v1] c0.w (aP c0 fun c v=>Own c G (F)∧v=I r):=by
 unfold lE at H;refine en func153 rfl rfl (sr (va (I 0) (wln (sr (me (al 265 [B false,B false,B false] T) ?_)))));rintro v6 k l5 ⟨j,rfl,U⟩;refine wln (sr (va (I 1) (wln (W.seq (sr (va (v1) (vx (ln 3 cy n.m) (va (I 0) (wln (W.block (bn H fun f P q=>lp P (fun a=>Jn k fun c l=>Own c G ((Eb j 265 [B a.2.2.1,B a.2.2.2.1,B a.2.2.2.2]) :: F)∧l= [(3,Q j),(4,I a.1),(7,v1),(8,I (g.length:Int)),(9,I a.2.1)]) (fun b ex e w=>ex= .exit 0∧(Jn k fun c l=>Own c G ((Eb j 265 [B b.2.1,B b.2.2.1,B b.2.2.2]) :: F)∧l= [(4,I b.1)]) e w) ?_ ?_ ?_)))))))))))
 ·clear q P;intro a l0 A S H;revert A S;rintro Z w_ ⟨X,g0,_,rfl,l9,rfl,h,rfl⟩;refine sr (va (B (decide (a.2.1 < (g.length:Int)))) (wln (W.seq (cn H (fun D H=>?_) (fun D H=>?_)))))
  ·refine W.skip (nrm (W.seq (W.block (sr (bn H fun d i H=>?_)))));obtain ⟨d0,E,R⟩:=Sl.at (n.mono (l5.trans l9)) (aR i);obtain rfl:=E;refine vx (ix cy n.m i) (vx (l1 mh (R 0 _ rfl)) (va (J d) (wln (W.region (vv (J d) (bn H fun o M H=>cl (vq h d M) ?_))))));rintro v26 f0 i0 ⟨s,rfl⟩;refine bn H fun p N H=>cl (lc (⟨a.2.2.1,a.2.2.2.1,a.2.2.2.2⟩:aV) d o s N) ?_;rintro v34 y j0 ⟨t,rfl⟩;refine va (I p.2) (WL.nil (bkn (nrm (W.region (vv (I (w64 (a.2.1+1))) (WL.nil ?_))))));obtain rfl:=si H;exact ⟨_,rfl,jn y ⟨t,rfl⟩⟩
  refine W.exit (thx ?_);obtain rfl:=si H;exact ⟨_,rfl,rfl,jn X ⟨h,rfl⟩⟩
 ·exact jn k ⟨U,rfl⟩
 rintro _ Z w_ ⟨rfl,z,h0,_,rfl,k0,rfl,u,rfl⟩;refine bke (nrm (sr (vv (I f.1) (wln (W.ret ?_)))));obtain rfl:=si q;have x:=u.sD 1 [];exact r1 (qq z ⟨x,rfl⟩)
def fu (p0:bu) (p1:am):Option (Bool):=
 if (!p0.some)=true then
 some false
 else
 ((bD (p1.Conj==1) (some (p0.conj==2))).bind fun a=>
 if a=true then
 some (a)
 else
 (bD p1.Pict (some (p0.pict==2))).bind fun c=>
 some (c)).bind fun e=>
 if e=true then
 some true
 else
 (eZ p0.last p1.Break).bind fun b=>
 if (b==1)=true then
 some true
 else
 if (b==2)=true then
 (bD (p0.last==6) (some p0.odd)).bind fun d=>
 some d
 else
 some false
theorem mt {b:Nat} (a:bu) (e:am) (O0:Own c0 G ((Eb b 181 [B a.some,I a.last,I a.pict,I a.conj,B a.odd]) :: F)) {r:Bool} (H:fu a e=some r): Calls prog 224 #[Q b,.agg #[I e.Break,B e.Pict,I e.Conj,I e.East]] c0.w (aP c0 fun c v=>Own c G ((Eb b 181 [B a.some,I a.last,I a.pict,I a.conj,B a.odd]) :: F)∧v=B r):=by
 unfold fu at H;refine en func224 rfl rfl (sr (me (bx 238 [I e.Break,B e.Pict,I e.Conj,I e.East] O0) ?_));rintro v5 s l4 ⟨p,rfl,q,M⟩;refine va (B false) (wln (W.seq (sr (vv (Q b) (va (Q b) (vx (le1 0 u_4 (q.on 0 rfl)) (va (B (!a.some)) (wln (cn H (fun h6 H=>?_) (fun h6 H=>?_))))))))))
 ·refine sr (va (B false) (wln (W.ret (thr ?_))));obtain rfl:=si H;exact r1 (qq s ⟨q,rfl⟩)
 refine W.skip (nrm (W.seq (W.block (bn H fun P f d=>W.seqJ (Jn s fun c l=>Own c G ((Eb b 181 [B a.some,I a.last,I a.pict,I a.conj,B a.odd]) :: F)∧l= [(0,Q b),(3,Q p),(10,B P)]) ?_ ?_))))
 ·refine W.seq (bn f fun z h9 f=>W.join (Jn s fun c l=>Own c G ((Eb b 181 [B a.some,I a.last,I a.pict,I a.conj,B a.odd]) :: F)∧l= [(0,Q b),(3,Q p),(10,B z)]) ?_ ?_)
  ·clear f;refine W.region (va (Qo p (0+2)) (vx (l1 u_3 (M 2 _ rfl)) (va (B (e.Conj==1)) ?_)));rcases bo (e.Conj==1) with j | j
   ·have R:=anT j h9;refine vb j (wa (Q b) (wa (Q b) (wa (Qo b 3) (wn (vx (le1 3 u_3 (q.on 0 rfl)) (wa (B (a.conj==2)) ?_))))));obtain rfl:=si R;exact vv (B (a.conj==2)) (wln (jn s ⟨q,rfl⟩))
   obtain rfl:=anF j h9;exact vb j (pz (pz (ps (vv (B false) (wln (jn s ⟨q,rfl⟩))))))
  rintro E N ⟨o,u0,_,rfl,y0,rfl,n,rfl⟩;refine nrm (cn f (fun e0 f=>?_) (fun e0 f=>?_))
  ·refine W.skip (nrm ?_);obtain rfl:=si f;exact jn o ⟨n,rfl⟩
  refine bn f fun A x f=>W.join (Jn o fun c l=>Own c G ((Eb b 181 [B a.some,I a.last,I a.pict,I a.conj,B a.odd]) :: F)∧l= [(0,Q b),(3,Q p),(10,B A)]) ?_ ?_
  ·clear f;refine W.region (va (Qo p (0+1)) (vx (l1 u_4 ((mm M) 1 _ rfl)) ?_));rcases bo (e.Pict) with k | k
   ·have S:=anT k x;refine vb k (wa (Q b) (wa (Q b) (wa (Qo b 2) (wn (vx (le1 2 u_3 (n.on 0 rfl)) (wa (B (a.pict==2)) ?_))))));obtain rfl:=si S;exact vv (B (a.pict==2)) (wln (jn o ⟨n,rfl⟩))
   obtain rfl:=anF k x;exact vb k (pz (pz (ps (vv (B false) (wln (jn o ⟨n,rfl⟩))))))
  rintro E N ⟨Z,v0,_,rfl,z0,rfl,U,rfl⟩;refine nrm ?_;obtain rfl:=si f;exact jn Z ⟨U,rfl⟩
 rintro E N ⟨a0,w0,_,rfl,a1,rfl,t,rfl⟩;refine cn d (fun f0 d=>?_) (fun f0 d=>?_)
 ·refine sr (va (B true) (wln (W.ret (bkr (thr ?_)))));obtain rfl:=si d;exact r1 (qq a0 ⟨t,rfl⟩)
 refine W.skip (bkn (nrm (W.seq (W.seq (rD [] (Kp G0 [(Eb b 181 [B a.some,I a.last,I a.pict,I a.conj,B a.odd])]) t ?_)))));intro b0 c1 u;have l0:Kp G0 [(Eb b 181 [B a.some,I a.last,I a.pict,I a.conj,B a.odd])] b0:=(Kp.cons (u.on 0 rfl) Kp.nil0);refine ta 0 (Q b) (ta 1 (Q b) (ta 2 (Qo b 1) (tkx 3 l0 (fun c' k0 hk=>le1 1 u_3 (hk.on 0 rfl)) (ta 4 (Q p) (tx 5 (fun c' k0=>l1 u_3 ((mm M) 0 _ rfl)) (bn d fun i g0 d=>o1 6 (gc 6 (sN u a.last e.Break g0) ?_)))))));rintro v44 h d1 ⟨g,rfl⟩;have m0:Kp G0 [(Eb b 181 [B a.some,I a.last,I a.pict,I a.conj,B a.odd])] h:=(Kp.cons (g.on 0 rfl) Kp.nil0);refine ⟨.inr m0,dn (nrm (W.block (sr (vv (B (i==1)) (wln (cn d (fun h0 d=>?_) (fun h0 d=>?_)))))))⟩
 ·refine sr (va (B true) (wln (W.ret (bkr (thr ?_)))));obtain rfl:=si d;exact r1 (qq h ⟨g,rfl⟩)
 refine sr (vv (B (i==2)) (wln (cn d (fun i0 d=>?_) (fun i0 d=>?_))))
 ·refine W.seq (bn d fun D y d=>W.join (Jn h fun c l=>Own c G ((Eb b 181 [B a.some,I a.last,I a.pict,I a.conj,B a.odd]) :: F)∧l= [(4,B D)]) ?_ ?_)
  ·clear d;refine W.region (vv (Q b) (va (Qo b 1) (vx (le1 1 u_3 (g.on 0 rfl)) (va (B (a.last==6)) ?_))));rcases bo (a.last==6) with m | m
   ·have T:=anT m y;refine vb m (wa (Q b) (wa (Q b) (wa (Qo b 4) (wn (vx (le1 4 u_4 (g.on 0 rfl)) ?_)))));obtain rfl:=si T;exact vv (B a.odd) (wln (jn h ⟨g,rfl⟩))
   obtain rfl:=anF m y;exact vb m (pz (pz (vv (B false) (wln (jn h ⟨g,rfl⟩)))))
  rintro E N ⟨d0,x0,_,rfl,e1,rfl,X,rfl⟩;refine nrm (W.ret (bkr (thr ?_)));obtain rfl:=si d;exact r1 (qq d0 ⟨X,rfl⟩)
 refine W.skip (bkn (nrm (sr (va (B false) (wln (W.ret ?_))))));obtain rfl:=si d;exact r1 (qq h ⟨g,rfl⟩)
def eX (p0:bu) (p1:am):Option (Int):=
 if p1.Pict=true then
 some 1
 else
 (bD (p0.pict==1) (some (p1.Break==4))).bind fun a=>
 if a=true then
 some 1
 else
 (bD (p0.pict==1) (some (p1.Break==5))).bind fun b=>
 if b=true then
 some 2
 else
 some 0
theorem lV {b:Nat} (a:bu) (d:am) (A:Own c0 G ((Eb b 181 [B a.some,I a.last,I a.pict,I a.conj,B a.odd]) :: F)) {r:Int} (H:eX a d=some r): Calls prog 225 #[Q b,.agg #[I d.Break,B d.Pict,I d.Conj,I d.East]] c0.w (aP c0 fun c v=>Own c G ((Eb b 181 [B a.some,I a.last,I a.pict,I a.conj,B a.odd]) :: F)∧v=I r):=by
 unfold eX at H;refine en func225 rfl rfl (sr (me (bx 238 [I d.Break,B d.Pict,I d.Conj,I d.East] A) ?_));rintro v5 k T ⟨j,rfl,i,s⟩;refine va (I 0) (wln (W.seq (W.block (sr (va (Qo j (0+1)) (vx (l1 u_4 (s 1 _ rfl)) (va (B d.Pict) (wln (cn H (fun E H=>?_) (fun E H=>?_))))))))))
 ·refine sr (va (I 1) (wln (W.ret (bkr (thr ?_)))));obtain rfl:=si H;exact r1 (qq k ⟨i,rfl⟩)
 refine W.seq (bn H fun p y H=>W.join (Jn k fun c l=>Own c G ((Eb b 181 [B a.some,I a.last,I a.pict,I a.conj,B a.odd]) :: F)∧l= [(0,Q b),(3,Q j),(8,B p)]) ?_ ?_)
 ·clear H;refine W.region (vv (Q b) (va (Qo b 2) (vx (le1 2 u_3 (i.on 0 rfl)) (va (B (a.pict==1)) ?_))));rcases bo (a.pict==1) with h | h
  ·have z:=anT h y;refine vb h (wa (Q j) (wn (vx (l1 u_3 (s 0 _ rfl)) (wa (B (d.Break==4)) ?_))));obtain rfl:=si z;exact vv (B (d.Break==4)) (wln (jn k ⟨i,rfl⟩))
  obtain rfl:=anF h y;exact vb h (pz (ps (vv (B false) (wln (jn k ⟨i,rfl⟩)))))
 rintro D M ⟨g,N,_,rfl,R,rfl,f,rfl⟩;refine nrm (cn H (fun u H=>?_) (fun u H=>?_))
 ·refine sr (va (I 1) (wln (W.ret (bkr (thr ?_)))));obtain rfl:=si H;exact r1 (qq g ⟨f,rfl⟩)
 refine W.seq (bn H fun q o H=>W.join (Jn g fun c l=>Own c G ((Eb b 181 [B a.some,I a.last,I a.pict,I a.conj,B a.odd]) :: F)∧l= [(19,B q)]) ?_ ?_)
 ·clear H;refine W.region (vv (Q b) (va (Qo b 2) (vx (le1 2 u_3 (f.on 0 rfl)) (va (B (a.pict==1)) ?_))));rcases bo (a.pict==1) with e | e
  ·have t:=anT e o;refine vb e (wa (Q j) (wn (vx (l1 u_3 ((mm s) 0 _ rfl)) (wa (B (d.Break==5)) ?_))));obtain rfl:=si t;exact vv (B (d.Break==5)) (wln (jn g ⟨f,rfl⟩))
  obtain rfl:=anF e o;exact vb e (pz (ps (vv (B false) (wln (jn g ⟨f,rfl⟩)))))
 rintro D M ⟨n,P,_,rfl,S,rfl,m,rfl⟩;refine nrm (cn H (fun x H=>?_) (fun x H=>?_))
 ·refine sr (va (I 2) (wln (W.ret (bkr (thr ?_)))));obtain rfl:=si H;exact r1 (qq n ⟨m,rfl⟩)
 refine W.skip (bkn (nrm (sr (va (I 0) (wln (W.ret ?_))))));obtain rfl:=si H;exact r1 (qq n ⟨m,rfl⟩)
def eN (p0:bu) (p1:am):Option (Int):=
 if (p1.Conj==1)=true then
 some 1
 else
 if (p0.conj==0)=true then
 some 0
 else
 if (p1.Conj==2)=true then
 some 2
 else
 if (p1.Conj==3)=true then
 some p0.conj
 else
 some 0
theorem lG {b:Nat} (d:bu) (a:am) (i:Own c0 G ((Eb b 181 [B d.some,I d.last,I d.pict,I d.conj,B d.odd]) :: F)) {r:Int} (H:eN d a=some r): Calls prog 226 #[Q b,.agg #[I a.Break,B a.Pict,I a.Conj,I a.East]] c0.w (aP c0 fun c v=>Own c G ((Eb b 181 [B d.some,I d.last,I d.pict,I d.conj,B d.odd]) :: F)∧v=I r):=by
 unfold eN at H;refine en func226 rfl rfl (sr (me (bx 238 [I a.Break,B a.Pict,I a.Conj,I a.East] i) ?_));rintro v5 f n ⟨g,rfl,e,h⟩;refine va (I 0) (wln (W.seq (W.block (sr (va (Qo g (0+2)) (vx (l1 u_3 (h 2 _ rfl)) (vv (B (a.Conj==1)) (wln (cn H (fun j H=>?_) (fun j H=>?_))))))))))
 ·refine sr (va (I 1) (wln (W.ret (bkr (thr ?_)))));obtain rfl:=si H;exact r1 (qq f ⟨e,rfl⟩)
 refine sr (vv (Q b) (va (Qo b 3) (vx (le1 3 u_3 (e.on 0 rfl)) (vv (B (d.conj==0)) (wln (cn H (fun k H=>?_) (fun k H=>?_)))))))
 ·refine sr (va (I 0) (wln (W.ret (bkr (thr ?_)))));obtain rfl:=si H;exact r1 (qq f ⟨e,rfl⟩)
 refine sr (va (Qo g (0+2)) (vx (l1 u_3 (h 2 _ rfl)) (vv (B (a.Conj==2)) (wln (cn H (fun l H=>?_) (fun l H=>?_))))))
 ·refine sr (va (I 2) (wln (W.ret (bkr (thr ?_)))));obtain rfl:=si H;exact r1 (qq f ⟨e,rfl⟩)
 refine sr (va (Qo g (0+2)) (vx (l1 u_3 (h 2 _ rfl)) (vv (B (a.Conj==3)) (wln (cn H (fun m H=>?_) (fun m H=>?_))))))
 ·refine sr (vv (Q b) (va (Qo b 3) (vx (le1 3 u_3 (e.on 0 rfl)) (va (I d.conj) (wln (W.ret (bkr (thr ?_))))))));obtain rfl:=si H;exact r1 (qq f ⟨e,rfl⟩)
 refine W.skip (bkn (nrm (sr (va (I 0) (wln (W.ret ?_))))));obtain rfl:=si H;exact r1 (qq f ⟨e,rfl⟩)
def dj (p0:bu) (p1:am):Option (bu×Bool):=
 if false=true then
 some (p0,false)
 else
 (fu p0 p1).bind fun d=>
 (eX p0 p1).bind fun e=>
 (eN p0 p1).bind fun f=>
 (bD (p1.Break==6) ((bD p0.some (some (p0.last==6))).bind fun b=>
 (bD b (some p0.odd)).bind fun c=>
 some (!c))).bind fun a=>
 some ((⟨true,p1.Break,e,f,a⟩:bu),d)
theorem mP {a:Nat} (b:bu) (f:am) (O0:Own c0 G ((Eb a 181 [B b.some,I b.last,I b.pict,I b.conj,B b.odd]) :: F)) {r:bu×Bool} (H:dj b f=some r): Calls prog 173 #[Q a,.agg #[I f.Break,B f.Pict,I f.Conj,I f.East]] c0.w (aP c0 fun c v=>Own c G ((Eb a 181 [B r.1.some,I r.1.last,I r.1.pict,I r.1.conj,B r.1.odd]) :: F)∧v=B r.2):=by
 unfold dj at H;refine en func173 rfl rfl (sr (me (bx 238 [I f.Break,B f.Pict,I f.Conj,I f.East] O0) ?_));rintro v5 c4 l4 ⟨A,rfl,O2,o⟩;refine va (B false) (wln (W.seq (sr (va (Q a) (va (B false) (wln (W.cond (t:=false) (by kernel_rfl) (fun E=>?_) (fun E=>?_))))))))
 ·cases E
 have H:=ie E H;refine W.skip (nrm (sr (va (Q a) (vx (lN 238 o) (bn H fun i h8 H=>cl (mt b f O2 h8) ?_)))));rintro v14 j1 n1 ⟨P,rfl⟩;refine va (B i) (wln (W.seq (rD [] (Kp G0 []) P ?_)));intro i0 q1 R;have f2:Kp G0 [] i0:=Kp.nil0;refine ta 0 (Q a) (ta 1 (Q a) (ta 2 (Q a) (tx 3 (fun c' z=>lN 238 (mm o)) (ta 5 (Q a) (tx 6 (fun c' z=>lN 238 (mm o)) (bn H fun d v0 H=>o1 4 (gc 4 (lV b f R v0) ?_)))))));rintro v25 j0 s1 ⟨S,rfl⟩;have y0:Kp G0 [] j0:=Kp.nil0;refine ⟨.inr y0,bn H fun e w0 H=>o1 7 (gc 7 (lG b f S w0) ?_)⟩;rintro v34 k0 t1 ⟨T,rfl⟩;have z0:Kp G0 [] k0:=Kp.nil0;refine ⟨.inr z0,ta 8 (Q a) (ta 9 (Qo a 2) (o1 10 (gD 10 (sC 3 2 (I d) [B b.some,I b.last,I d,I b.conj,B b.odd] 0 T ⟨rfl,trivial⟩) ?_)))⟩;rintro l0 u1 U;have a1:Kp G0 [] l0:=Kp.nil0;refine ⟨.inr a1,ta 11 (Q a) (ta 12 (Qo a 3) (o1 13 (gD 13 (sC 3 3 (I e) [B b.some,I b.last,I d,I e,B b.odd] 0 U ⟨rfl,trivial⟩) ?_)))⟩;rintro p v1 h;have c1:Kp G0 [] p:=Kp.nil0;refine ⟨.inr c1,dn (nrm (W.seq (bn H fun n s H=>W.join (Jn p fun c l=>Own c G ((Eb a 181 [B b.some,I b.last,I d,I e,B n]) :: F)∧l= [(0,Q a),(3,Q A),(5,B i)]) ?_ ?_)))⟩
 ·clear H;refine W.region (va (Q a) (va (Q A) (vx (l1 u_3 ((mm o) 0 _ rfl)) (va (B (f.Break==6)) ?_))));rcases bo (f.Break==6) with j | j
  ·have g:=anT j s;refine vb j (wa (Q a) (wa (Q a) (wa (Q a) (wn (vx (le1 0 u_4 (h.on 0 rfl)) (wn (bn g fun h1 u g=>?_)))))));rcases bo (b.some) with k | k
   ·have M:=anT k u;refine vb k (wa (Q a) (wa (Q a) (wa (Qo a 1) (wn (vx (le1 1 u_3 (h.on 0 rfl)) (wa (B (b.last==6)) (wn ?_)))))));obtain rfl:=si M;refine va (B (b.last==6)) (wn (bn g fun D x g=>?_));rcases bo (b.last==6) with m | m
    ·have N:=anT m x;refine vb m (wa (Q a) (wa (Q a) (wa (Qo a 4) (wn (vx (le1 4 u_4 (h.on 0 rfl)) (wn ?_))))));obtain rfl:=si N;refine va (B b.odd) (wa (B (!b.odd)) ?_);obtain rfl:=si g;refine va (B (!b.odd)) (va (Q a) (va (Qo a 4) (md (sC 4 4 (B (!b.odd)) [B b.some,I b.last,I d,I e,B (!b.odd)] 0 h ⟨rfl,trivial⟩) ?_)));rintro m0 w1 X;exact wln (jn m0 ⟨X,rfl⟩)
    obtain rfl:=anF m x;refine vb m (pz (pz (wa (B false) (wa (B (!false)) ?_))));obtain rfl:=si g;refine va (B (!false)) (va (Q a) (va (Qo a 4) (md (sC 4 4 (B (!false)) [B b.some,I b.last,I d,I e,B (!false)] 0 h ⟨rfl,trivial⟩) ?_)));rintro o0 x1 Z;exact wln (jn o0 ⟨Z,rfl⟩)
   obtain rfl:=anF k u;refine vb k (pz (pz (ps (wa (B false) (wn (bn g fun D x0 g=>?_))))));have y:false=false:=rfl;obtain rfl:=anF y x0;refine vb y (pz (pz (wa (B false) (wa (B (!false)) ?_))));obtain rfl:=si g;refine va (B (!false)) (va (Q a) (va (Qo a 4) (md (sC 4 4 (B (!false)) [B b.some,I b.last,I d,I e,B (!false)] 0 h ⟨rfl,trivial⟩) ?_)));rintro q0 y1 a0;exact wln (jn q0 ⟨a0,rfl⟩)
  obtain rfl:=anF j s;refine vb j (pz (pz (pz (pz (pz (pz (pz (pz (pz (va (B false) (va (Q a) (va (Qo a 4) (md (sC 4 4 (B false) [B b.some,I b.last,I d,I e,B false] 0 h ⟨rfl,trivial⟩) ?_)))))))))))));rintro s0 z1 b0;exact wln (jn s0 ⟨b0,rfl⟩)
 rintro e_ w_ ⟨k1,m1,_,rfl,b2,rfl,d0,rfl⟩;refine nrm (W.seq (rD [] (Kp G0 []) d0 ?_));intro t0 c2 e0;have g2:Kp G0 [] t0:=Kp.nil0;refine ta 0 (Q a) (ta 1 (Q a) (ta 2 (Q A) (tx 3 (fun c' z=>l1 u_3 ((mm o) 0 _ rfl)) (ta 4 (Q a) (ta 5 (Q a) (o1 6 (gD 6 (sC 4 0 (B true) [B true,I b.last,I d,I e,B n] 0 e0 ⟨rfl,trivial⟩) ?_)))))));rintro u0 d2 f0;have d1:Kp G0 [] u0:=Kp.nil0;refine ⟨.inr d1,ta 7 (Q a) (ta 8 (Qo a 1) (o1 9 (gD 9 (sC 3 1 (I f.Break) [B true,I f.Break,I d,I e,B n] 0 f0 ⟨rfl,trivial⟩) ?_)))⟩;rintro q e2 g0;have e1:Kp G0 [] q:=Kp.nil0;refine ⟨.inr e1,dn (nrm (sr (vv (B i) (wln (W.ret ?_)))))⟩;obtain rfl:=si H;exact r1 (qq q ⟨g0,rfl⟩)
end Go.Proofs.YtclmdpamofdoiaaGreatDoor
namespace Go.Lt
set_option linter.unusedVariables false
def isC:Obj→Bool
  | .cells _ _ _=>true
  | _=>false
section
variable {P:Program} {n:Nat} {df:List Deferred} {Q:List Deferred→Exit→(Nat→Value)→World→Prop} {e:Nat→Value} {w:World} {a b:Code}
def WR (P:Program) (n:Nat) (c:Code) (Q:List Deferred→Exit→(Nat→Value)→World→Prop) (df:List Deferred) (e:Nat→Value) (w:World):Prop:=
  c.wpIn (fen none) 0 P (fun x a w=>Hk x∧∃e d,a=act ⟨n,d,none⟩ e∧Q d x e w) (act ⟨n,df,none⟩ e) w
theorem WR.of (h:W P ⟨n,df,none⟩ a (Q df) e w):WR P n a Q df e w:=mg h fun x a w ⟨ht,e,ha,hq⟩=>⟨ht,e,df,ha,hq⟩
theorem WR.seq (h:WR P n a (fun d=>qg (fun e w=>WR P n b Q d e w) (Q d)) df e w):WR P n (a.seq b) Q df e w:=
  wpIn_seq (mg h fun x a' w' ⟨ht,e',d,ha,hQ⟩=>by
    subst ha
    cases x with
    | normal=>exact hQ
    | _=>exact ⟨ht,e',d,rfl,hQ⟩)
theorem WR.block {id:Nat} (h:WR P n a (fun d=>mu id (Q d)) df e w):WR P n (.block id a) Q df e w:=
  wpIn_block (mg h fun x a' w' ⟨ht,e',d,ha,hQ⟩=>by
    subst ha
    cases x with
    | exit i=>
      simp only [Exit.inBlock];by_cases hi:i=id
      · subst hi
        rw [ae rfl];exact ⟨trivial,e',d,rfl,by simpa [mu] using hQ⟩
      · rw [ab hi]
        have:Nat.beq i id=false:=by
          cases hb:Nat.beq i id with
          | false=>rfl
          | true=>exact absurd (nP hb) hi
        exact ⟨trivial,e',d,rfl,by simpa [mu,this] using hQ⟩
    | _=>exact ⟨ht,e',d,rfl,hQ⟩)
def FL (P:Program) (fn:Func) (n:Nat) (R:Ending→World→Prop) (df:List Deferred):Exit→(Nat→Value)→World→Prop
  | .normal,e,w=>LeavesInM (fen none) 0 P fn (act ⟨n,[],none⟩ e).tmps R df .returning w
  | .ret,e,w=>LeavesInM (fen none) 0 P fn (act ⟨n,[],none⟩ e).tmps R df .returning w
  | _,_,_=>False
theorem enR {f:FuncId} {fn:Func} {code:Code} {l:List Value} {R:Ending→World→Prop} (hf:P.funcs[f]? = some fn) (hb:fn.body=some code) (hn:fn.ntmps=n)
    (h:WR P n code (FL P fn n R) [] (ar l) w) (hl:Nat.ble l.length n=true:=by rfl):Calls P f l.toArray w R:=by
  subst hn;have hl:=bE hl;refine (GT (n:=0)).1 (callsIn_of_wp_marks hf hb trivial ?_);rw [rq,←DU _ l hl];refine mg h ?_;rintro x a w' ⟨_,e',d,rfl,hq⟩
  cases x <;> first | exact hq | exact hq.elim
def BH (D:Nat):Deferred:={ target:= .collected D,args:= #[]}
theorem Gy {fn:Func} {tm:Array Value} {R:Ending→World→Prop} {D:Nat} {v:Value} (hD:w.heap[D]? = some (.deferred (some [])))
    (hr:(results fn tm).run P (w.putObj D (.deferred none))= .ok v (w.putObj D (.deferred none))) (hR:R (.returned v) (w.putObj D (.deferred none))):LeavesInM (fen none) 0 P fn tm R [BH D] .returning w:=
  ⟨by simp,.inl ⟨D,_,rfl,run_takeDeferred hD,v,hr,hR⟩⟩
def Ez (fn:FuncId) (tm:Array Value) (ps:Array Tmp) (assign body:Code) (D:Nat) (st:LoopState) (pe:Option Code):Loop:={ state:=st,pending:=pe,fn,tmps:=tm,params:=ps,assign,body,defers:=D}
theorem WR.range {g:Operand} {ps:Array Tmp} {assign body:Code} {gf:Nat} {lb:Array Value} (hg:ev n e g= .func (.func gf) #[] lb) (eg:∀args w,(callFunc gf args).run P w= .ok (.enter gf args) w)
    (h:∀(fn:FuncId) (rc:LoopState→Option Code→Loop),rc=Ez fn (act ⟨n,df,none⟩ e).tmps ps assign body w.heap.size→Calls P gf (#[.func (.yield (w.heap.size+1)) #[] #[]]++lb) ((w.alloc (.deferred (some []))).alloc (.loop (rc .ready none)))
      fun x w3=>∃v,x= .returned v∧
        ((w3.heap[w.heap.size+1]? = some (.loop (rc .ready none))∧Q (BH w.heap.size :: df) .normal e (w3.putObj (w.heap.size+1) (.loop (rc .exhausted none))))∨
         ∃c,w3.heap[w.heap.size+1]? = some (.loop (rc .done (some c)))∧WR P n c Q (BH w.heap.size :: df) e (w3.putObj (w.heap.size+1) (.loop (rc .exhausted (some c)))))):
    WR P n (.rangeFunc g ps assign body) Q df e w:=by
  refine wpIn_rangeFunc (fun fn _=>?_);have hg':(act ⟨n,df,none⟩ e).eval g= .func (.func gf) #[] lb:=by rw [mc]; exact hg
  have h:=h fn _ rfl;have h1:=run_enterLoop_outer (P:=P) (w:=w) fn (act ⟨n,df,none⟩ e).tmps ps assign body;have h2:∀W:World,(resolve (act ⟨n,df,none⟩ e).eval (rangeCall g (w.heap.size+1)) 0).run P W= .ok { target:= .fn (.func gf) lb,args:= #[.func (.yield (w.heap.size+1)) #[] #[]]} W:=fun W=>by
    simp only [resolve,hg'];simp [go_sem]
  have h3:∀W:World,(invoke (.fn (.func gf) lb) #[.func (.yield (w.heap.size+1)) #[] #[]]).run P W= .ok (.enter gf (#[.func (.yield (w.heap.size+1)) #[] #[]]++lb)) W:=fun W=>by
    simp [invoke,go_sem,eg]
  refine Exists.intro (w.heap.size+1) (Exists.intro [BH w.heap.size] (Exists.intro _ (Exists.intro { target:= .fn (.func gf) lb,args:= #[.func (.yield (w.heap.size+1)) #[] #[]]} (Exists.intro _ (Exists.intro gf (Exists.intro (#[.func (.yield (w.heap.size+1)) #[] #[]]++lb) (Exists.intro _ ⟨h1,h2 _,fun _ _=>trivial,h3 _,fun hd=>(by cases hd),?_⟩)))))));refine tY (h.mono fun x w3 hx=>?_);obtain ⟨v,rfl,hv⟩:=hx;rcases hv with ⟨k1,k2⟩ | ⟨c,k1,k2⟩
  · exact ⟨none,_,run_endLoop k1 (by simp [Ez]),trivial,e,BH w.heap.size :: df,rfl,k2⟩
  · exact ⟨some c,_,run_endLoop k1 (by simp [Ez]),k2⟩
end
theorem WL.round {P:Program} {ops:Array Oper} {n:Fr} {Q:Exit→(Nat→Value)→World→Prop} {rest:List Oper} {e:Nat→Value} {o:Oper} {w:World} {l:Nat} {args:Array Value} (hg:o.guard=none)
    (hr:(execOp (ev n e) o).run P w=(Instr.yield l args).run P w) (hy:YieldAt (fen n.ro) 0 P l args w fun x w'=>∃v,x= .returned v∧WL P ops n Q rest (upO e o.dst v) w'):WL P ops n Q (o :: rest) e w:=by
  obtain ⟨fn,tm,assign,body,hy1,hR⟩:=hy;refine uE hg fun K hK=>⟨fun _ _=>trivial,?_⟩;rw [mc,qj (hr.trans hy1) (by simp),Oper.uponIn_round];refine ⟨fun h=>(by cases h),hR.mono ?_⟩;rintro x w' ⟨v,rfl,h⟩;simp only [pu];exact hK _ _ h
theorem ym {F:Fence} {m:Nat} {P:Program} {l:Nat} {args:Array Value} {w:World} {R R':Ending→World→Prop} (h:YieldAt F m P l args w R) (hr:∀x w',R x w'→R' x w'):YieldAt F m P l args w R':=by
  obtain ⟨fn,tm,assign,body,hy,hR⟩:=h;exact ⟨fn,tm,assign,body,hy,hR.mono hr⟩
def rdQ (l:Nat) (r:LoopState→Option Code→Loop) (R:Ending→World→Prop):Exit→(Nat→Value)→World→Prop
  | .normal,_,w=>w.heap[l]? = some (.loop (r .busy none))∧R (.returned (.bool true)) (w.putObj l (.loop (r .ready none)))
  | .ret,_,w=>w.heap[l]? = some (.loop (r .busy none))∧R (.returned (.bool false)) (w.putObj l (.loop (r .done (some .ret))))
  | .exit i,_,w=>w.heap[l]? = some (.loop (r .busy none))∧R (.returned (.bool false)) (w.putObj l (.loop (r .done (some (.exit i)))))
  | _,_,_=>False
theorem Ct (n:Fr) (e:Nat→Value) (d:Nat) (v:Value):(act n e).tmps.setIfInBounds d v=(act n (up e d v)).tmps:=mM Act.tmps (pu n e (some d) v)
theorem HR (n:Nat) (df:List Deferred) (r0:Option Nat) (l:Nat) (e:Nat→Value) (p1 p2:Nat) (a1 a2:Value):
    ((#[p1,p2]:Array Tmp).zip #[a1,a2]).foldl (fun t (p,v)=>t.setIfInBounds p v) (act ⟨n,df,r0⟩ e).tmps=(act ⟨n,[],some l⟩ (up (up e p1 a1) p2 a2)).tmps:=by
  have hz:((#[p1,p2]:Array Tmp).zip #[a1,a2])= #[(p1,a1),(p2,a2)]:=by simp
  rw [hz,←Array.foldl_toList];show ((act ⟨n,df,r0⟩ e).tmps.setIfInBounds p1 a1).setIfInBounds p2 a2=_;rw [Ct,Ct];rfl
theorem Cf {P:Program} {n:Nat} {r0:Option Nat} {w:World} {l:Nat} {fn:FuncId} {tm:Array Value} {ps:Array Tmp} {assign body:Code} {D:Nat} {rc:LoopState→Option Code→Loop} (hrc:rc=Ez fn tm ps assign body D) {args:Array Value} {R:Ending→World→Prop} {e1:Nat→Value}
    (hl:w.heap[l]? = some (.loop (rc .ready none))) (hs:args.size=ps.size) (he:(ps.zip args).foldl (fun t (p,v)=>t.setIfInBounds p v) tm=(act ⟨n,[],some l⟩ e1).tmps)
    (h:W P ⟨n,[],some l⟩ assign (qg (fun e2 w1=>w1.heap[l]? = some (.loop (rc .ready none))∧
      W P ⟨n,[],some l⟩ body (rdQ l rc R) e2 (w1.putObj l (.loop (rc .busy none)))) (fun _ _ _=>False)) e1 w):YieldAt (fen r0) 0 P l args w R:=by
  subst hrc;refine ⟨fn,_,assign,body,run_yield hl hs,roundIn_of_wpIn trivial ?_⟩;have hz:(fen r0).inRound l=fen (some l):=rfl;rw [hz];have ha:({ tmps:=(ps.zip args).foldl (fun t (p,v)=>t.setIfInBounds p v) tm,defers:=[]}:Act)=act ⟨n,[],some l⟩ e1:=by rw [he]; rfl
  show assign.wpIn (fen (some l)) 0 P _ ({ tmps:=(ps.zip args).foldl (fun t (p,v)=>t.setIfInBounds p v) tm,defers:=[]}:Act) w;rw [ha];refine mg h ?_;rintro x a w1 ⟨ht,e2,rfl,hq⟩
  cases x with
  | normal=>
    obtain ⟨h1,h2⟩:=hq;refine ⟨_,run_beginRound h1 rfl,mg h2 ?_⟩;rintro y a' w2 ⟨_,e3,rfl,hy⟩
    cases y with
    | normal=>exact ⟨_,_,run_endRound none hy.1,hy.2⟩
    | ret=>exact ⟨_,_,run_endRound (some .ret) hy.1,hy.2⟩
    | exit i=>exact ⟨_,_,run_endRound (some (.exit i)) hy.1,hy.2⟩
    | _=>exact hy.elim
  | _=>exact hq.elim
structure Rec (c:Cx) (l D:Nat) (r:Loop):Prop where
  rc:c.w.heap[l]? = some (.loop r)
  nl:∀o,¬c.A l o
  def_:c.w.heap[D]? = some (.deferred (some []))
  nD:∀o,¬c.A D o
theorem Rec.mono {c c':Cx} {l D:Nat} {r:Loop} (h:Rec c l D r) (k:c.le c'):Rec c' l D r:=by
  have hl:=(Array.getElem?_eq_some_iff.1 h.rc).1;have hD:=(Array.getElem?_eq_some_iff.1 h.def_).1;exact ⟨(k.block l hl h.nl).trans h.rc,fun o=>(k.cell l o hl (h.nl o)).2,(k.block D hD h.nD).trans h.def_,fun o=>(k.cell D o hD (h.nD o)).2⟩
def Cx.turn (c:Cx) (l:Nat) (o:Obj):Cx:=⟨c.w.putObj l o,c.A,c.t⟩
theorem Cx.turn_lw {c:Cx} {l:Nat} {o o':Obj} (h:c.w.heap[l]? = some o) (ho:isC o=false) (ho':isC o'=false):c.lw (c.turn l o'):=by
  have hlt:=(Array.getElem?_eq_some_iff.1 h).1;have same:∀k,k≠l→(c.w.putObj l o').heap[k]? = c.w.heap[k]? :=fun k hk=>World.putObj_heap_other hk;have at_l:(c.w.putObj l o').heap[l]? = some o':=World.putObj_heap_same hlt;refine ⟨rfl,rfl,by simp [Cx.turn,World.putObj],fun k q hk hA=>⟨?_,hA⟩,fun k vs T f hk _=>?_,fun a _ _=>?_,fun _ _ _ h=>h⟩
  · show (c.w.putObj l o').cell? _=_
    by_cases e:k=l
    · subst e
      unfold World.cell?;rw [at_l,h]
      cases o <;> cases o' <;> first | rfl | (simp [isC] at ho ho')
    · exact mf (w:=c.w) (a:=⟨k,q,none⟩) (same k e)
  · refine same k fun e=>?_
    subst e;rw [h] at hk;cases hk;simp [isC] at ho
  · show (c.w.putObj l o').frozen? a=_
    by_cases e:a.block=l
    · unfold World.frozen?
      rw [e,at_l,h]
      cases o <;> cases o' <;> first | rfl | (simp [isC] at ho ho')
    · unfold World.frozen?
      rw [same _ e]
theorem Own.turn {c:Cx} {G:Gm} {F:List En} {l:Nat} {o o':Obj} (O:Own c G F) (h:c.w.heap[l]? = some o) (ho:isC o=false):Own (c.turn l o') G F:=
  ⟨⟨fun i e he b hb=>by
    have h1:=O.m.1 i e he b hb;refine ⟨?_,h1.2⟩;have hne:b≠l:=fun e2=>by
      subst e2;rw [h] at h1;have:=h1.1;cases this;simp [isC] at ho
    exact (World.putObj_heap_other hne).trans h1.1,O.m.2⟩,O.t0⟩
theorem Own.front {c:Cx} {G:Gm} {Fm F:List En} {e:En} (O:Own c G (Fm++e :: F)):Own c G (e :: (Fm++F)):=
  ⟨ol.re O.m (fun k=>match k with | .inl 0=> .inl Fm.length | .inl (k+1)=>if k < Fm.length then .inl k else .inl (k+1) | .inr x=> .inr x) (fun k e' h=>by
    match k,h with
    | .inl 0,h=>simpa [at_] using h
    | .inl (k+1),h=>
      simp only [at_,fq] at h;by_cases hk:k < Fm.length
      · simp only [ae hk,at_]; rw [aB hk] at h⊢; exact h
      · simp only [ab hk,at_]
        rw [aY (by omega)] at h⊢;rw [show k+1 - Fm.length=(k - Fm.length)+1 by omega,fq]; exact h
    | .inr x,h=>exact h) (fun k k' e1 e2 h1 h2 he=>by
    match k,k' with
    | .inl 0,.inl 0=>rfl
    | .inl 0,.inl (j+1)=>simp only at he; split at he <;> (simp at he; try omega)
    | .inl (i+1),.inl 0=>simp only at he; split at he <;> (simp at he; try omega)
    | .inl (i+1),.inl (j+1)=>simp only at he; split at he <;> split at he <;> (simp at he; try omega) <;> (first | (subst he; rfl) | omega)
    | .inl 0,.inr x=>simp at he
    | .inr x,.inl 0=>simp at he
    | .inl (i+1),.inr x=>simp only at he; split at he <;> simp at he
    | .inr x,.inl (j+1)=>simp only at he; split at he <;> simp at he
    | .inr x,.inr y=>simpa using he),O.t0⟩
theorem Own.behind {c:Cx} {G:Gm} {Fm F:List En} {e:En} (O:Own c G (e :: (Fm++F))):Own c G (Fm++e :: F):=
  ⟨ol.re O.m (fun k=>match k with | .inl k=>if k < Fm.length then .inl (k+1) else if k=Fm.length then .inl 0 else .inl k | .inr x=> .inr x) (fun k e' h=>by
    match k,h with
    | .inl k,h=>
      simp only [at_] at h;by_cases hk:k < Fm.length
      · simp only [ae hk,at_,fq]; rw [aB hk] at h⊢; exact h
      · by_cases hk2:k=Fm.length
        · subst hk2; simpa [at_] using h
        · simp only [ab hk,ab hk2,at_]
          rw [aY (by omega)] at h;rw [show k - Fm.length=(k - 1 - Fm.length)+1 by omega,fq] at h;rw [show k=(k - 1)+1 by omega,fq,aY (by omega)];exact h
    | .inr x,h=>exact h) (fun k k' e1 e2 h1 h2 he=>by
    match k,k' with
    | .inl i,.inl j=>
      simp only at he;split at he <;> split at he <;> (try split at he) <;> (try split at he) <;> (simp at he; try omega) <;> (first | (subst he; rfl) | (congr 1; omega) | omega)
    | .inl i,.inr x=>simp only at he; split at he <;> (try split at he) <;> simp at he
    | .inr x,.inl j=>simp only at he; split at he <;> (try split at he) <;> simp at he
    | .inr x,.inr y=>simpa using he),O.t0⟩
def Bod {σ:Type} (J:σ→Cx→List En→Prop):Prop:=
  ∀s c F,J s c F→∃G Fm,Own c G (Fm++F)∧∀c' F',c.le c'→Own c' G (Fm++F')→J s c' F'
theorem Bod.new {σ:Type} {J:σ→Cx→List En→Prop} (hJ:Bod J) {s:σ} {c:Cx} {F:List En} (h:J s c F):∃G Fx,Own c G Fx∧∀c' e,c.le c'→Own c' G (e :: Fx)→J s c' (e :: F):=by
  obtain ⟨G,Fm,O,k⟩:=hJ s c F h;exact ⟨G,_,O,fun c' e hc O'=>k c' _ hc O'.behind⟩
theorem Bod.op {σ:Type} {J:σ→Cx→List En→Prop} (hJ:Bod J) {s:σ} {c:Cx} {F:List En} {e:En} (h:J s c (e :: F)):∃G Fx,Own c G (e :: Fx)∧∀c' e',c.le c'→Own c' G (e' :: Fx)→J s c' (e' :: F):=by
  obtain ⟨G,Fm,O,k⟩:=hJ s c _ h;exact ⟨G,_,O.front,fun c' e' hc O'=>k c' _ hc O'.behind⟩
theorem Bod.drop {σ:Type} {J:σ→Cx→List En→Prop} (hJ:Bod J) {s:σ} {c:Cx} {F:List En} {e:En} (h:J s c (e :: F)):J s c F:=by
  obtain ⟨G,Fm,O,k⟩:=hJ s c _ h;exact k c _ (Cx.le.refl c) O.front.tail
abbrev JnW (c0:Cx) (q:Cx→List (Nat×Value)→Prop):(Nat→Value)→World→Prop:=fun e w=>∃c e0 l,w=c.w∧c0.lw c∧e=ups e0 l∧q c l
theorem jnW {c0:Cx} {q:Cx→List (Nat×Value)→Prop} {e:Nat→Value} {l:List (Nat×Value)} (c:Cx) (h:q c l) (k:c0.lw c) (u:l.map (fun x=>e x.1)=l.map (fun x=>x.2):=by kernel_rfl):JnW c0 q e c.w:=⟨c,e,l,rfl,k,us u,h⟩
def IP {σ:Type} (P:Program) (l:Nat) (J:σ→Cx→List En→Prop) (args:Array Value) (c:Cx) (F:List En) (s':σ) (b:Bool):Prop:=
  YieldAt (fen none) 0 P l args c.w fun x w'=>∃c',w'=c'.w∧c.lw c'∧x= .returned (.bool b)∧J s' c' F
theorem ye {α:Type} {R:Rp α} {c:Cx} {P:Program} {v:Value} {xs zs:List α} {T E:TypeId} {i j:Int} {k k' k2:IntKind} (hT:P.underlying T=some (.slice E)) (hE:(P.info? E).map (·.size)=some R.size) (h:Sl R c v xs) (hz:slc xs i j=some zs):
    ∃v',(∀w,(Instr.sliceAt T v (some (.int k i)) (some (.int k' j)) (some (.int k2 j))).run P w= .ok v' w)∧Sl R c v' zs:=by
  obtain ⟨h1,h2,h3,rfl⟩:=oW hz;obtain ⟨ti,hti,hsz⟩:=Option.map_eq_some_iff.1 hE;have hh:=h;obtain ⟨a,cap,rfl,h4,h5,h6⟩:=h;have hcut:=Sl.cut (l:=i.toNat) (h:=j.toNat) (m:=j.toNat) hh (by omega) (by omega) (by omega) (by omega);rw [show (j - i).toNat=j.toNat - i.toNat by omega];refine ⟨_,fun w=>?_,hcut⟩;have e1:0≤i∧i≤j:=⟨h1,h2⟩;have e2:0≤j∧j≤(cap:Int):=⟨by omega,by omega⟩;have e4:0≤j∧j≤j:=⟨by omega,A9 _⟩;have e3:((j.toNat:Nat):Int)=j:=by omega
  simp [Instr.sliceAt,bL hT,Instr.slice,Instr.sliceBounds,Instr.sliceBound,asIntOf,e1,e2,e3,e4,sizeOf,typeInfo,hti,hsz]
theorem WR.sr {P:Program} {n:Nat} {df:List Deferred} {Q:List Deferred→Exit→(Nat→Value)→World→Prop} {e:Nat→Value} {w:World} {b:Code} {id:Nat} {l:List Oper}
    (h:WL P l.toArray ⟨n,df,none⟩ (qg (fun e w=>WR P n b Q df e w) (Q df)) l e w):WR P n ((Code.region id l.toArray false).seq b) Q df e w:=WR.seq (WR.of (W.region h))
theorem Cx.loop (c:Cx) (r:Loop):∃c':Cx,c'.w=(c.w.alloc (.deferred (some []))).alloc (.loop r)∧c.but (fun _=>False) c'∧Rec c' (c.w.heap.size+1) c.w.heap.size r:=by
  have hb:∀k,k < c.w.heap.size→((c.w.alloc (.deferred (some []))).alloc (.loop r)).heap[k]? = c.w.heap[k]? :=fun k hk=>
    (dZ _ _ _ (by simp; omega)).trans (dZ _ _ _ hk)
  refine ⟨⟨(c.w.alloc (.deferred (some []))).alloc (.loop r),fun k o=>k < c.w.heap.size∧c.A k o,c.t⟩,rfl,⟨⟨rfl,rfl,by simp; omega,fun k o hk hA=>⟨mf (w:=c.w) (a:=⟨k,o,none⟩) (hb k hk),fun h=>hA h.2⟩,fun k hk _=>hb k hk,fun a ha _=>?_,fun _ _ _ h=>h⟩,rfl,fun k hk _=>⟨hb k hk,fun o=>⟨fun h=>h.2,fun h=>⟨hk,h⟩⟩⟩⟩,?_,?_,?_,?_⟩
  · unfold World.frozen?
    rw [hb _ ha]
  · have:=World.alloc_heap_new (c.w.alloc (.deferred (some []))) (.loop r)
    rwa [World.size_alloc] at this
  · intro o h; omega
  · exact (dZ _ _ _ (by simp)).trans (World.alloc_heap_new c.w _)
  · intro o h; omega
theorem Cx.le.turn {cb c:Cx} (h:cb.le c) {l:Nat} {o o':Obj} (hl:cb.w.heap.size≤l) (hc:c.w.heap[l]? = some o) (ho:isC o=false) (ho':isC o'=false):cb.le (c.turn l o'):=by
  have k:=h.lw.trans (Cx.turn_lw hc ho ho');refine ⟨k.os,k.output,k.size,k.cell,fun i hi hA=>?_,k.frz,k.t⟩;exact (World.putObj_heap_other (by omega)).trans (h.block i hi hA)
theorem Rec.turn {c:Cx} {l D:Nat} {r:Loop} (h:Rec c l D r) (r':Loop):Rec (c.turn l (.loop r')) l D r':=by
  have hlt:=(Array.getElem?_eq_some_iff.1 h.rc).1;have hne:D≠l:=fun e=>by
    have h1:=h.rc;rw [←e,h.def_] at h1;cases h1
  exact ⟨World.putObj_heap_same hlt,h.nl,(World.putObj_heap_other hne).trans h.def_,h.nD⟩
theorem Ht {P:Program} {fn:Func} {n:Nat} {R:Ending→World→Prop} {c:Cx} {e:Nat→Value} {D t:Nat} {v:Value} (hD:c.w.heap[D]? = some (.deferred (some []))) (h:R (.returned v) (c.turn D (.deferred none)).w)
    (hr:fn.results= #[.tmp t]:=by rfl) (hv:ev n e (.tmp t)=v:=by kernel_rfl):FL P fn n R [BH D] .ret e c.w:=by
  refine Gy hD (results_tmp hr _ _ _) ?_;rw [gE];show R (.returned (ev n e (.tmp t))) _;rw [hv];exact h
section
variable {P:Program} {α:Type} {R:Rp α} {c:Cx} {G:Gm} {F:List En}
end
end Go.Lt
namespace Go.Proofs.YtclmdpamofdoiaaGreatDoor
open Go Go.Lt
set_option maxRecDepth 10000
set_option linter.unusedVariables false
attribute [local irreducible] W WL AC
def kf {σ:Type} (y:σ→Int→List Int→Option (σ×Bool)) (l:List Int) (s:σ):Option σ:=
 (cv (σ:=bu×Int×Int×σ) (τ:=σ ⊕ (Int×σ)) (((l.length:Int) - 0).toNat+1) (fun a=>
 if (decide (a.2.2.1 < (l.length:Int)))=true then
 (idx l a.2.2.1).bind fun r=>
 (nu r).bind fun p=>
 (dj a.1 p).bind fun b=>
 (orE b.2 (some (a.2.2.1==0))).bind fun t=>
 if t=true then
 some (.inl (b.1,a.2.1,(w64 (a.2.2.1+1)),a.2.2.2))
 else
 (slc l a.2.1 a.2.2.1).bind fun x=>
 (y a.2.2.2 a.2.1 x).bind fun z=>
 if (!z.2)=true then
 some (.inr (.inl z.1))
 else
 some (.inl (b.1,a.2.2.1,(w64 (a.2.2.1+1)),z.1))
 else
 some (.inr (.inr (a.2.1,a.2.2.2)))) ((⟨false,0,0,0,false⟩:bu),0,0,s)).bind fun u=>match u with
 | .inl s'=>some s'
 | .inr v=>if (decide ((l.length:Int) > 0))=true then (slc l v.1 (l.length:Int)).bind fun x=>(y v.2 v.1 x).bind fun z=>some z.1 else some v.2
open Tryz
variable {c0:Cx} {G:Gm} {F:List En} {v1:Value}
set_option maxHeartbeats 1000000 in
theorem vF {σ:Type} {Bd:σ→Cx→List En→Prop} (hJ:Bod Bd) {y:σ→Int→List Int→Option (σ×Bool)} (lr:Nat)
    (hY:∀s i x z c F v,y s i x=some z→Bd s c F→Sl (RI .i32) c v x→IP Tryz.prog lr Bd #[.int .i64 i,v] c F z.1 z.2) {l:List Int} {s0 s1:σ} {bc:Nat}
    (hb:Im c0 bc 0 v1) (hl:Sl (RI .i32) c0 v1 l) (h0:Bd s0 c0 F) (H:kf y l s0=some s1):
    Calls Tryz.prog 172 #[.func (.yield lr) #[] #[],.pointer (some ⟨bc,0,none⟩)] c0.w fun x w'=>∃c',w'=c'.w∧c0.lw c'∧x= .returned (.tuple #[])∧Bd s1 c' F:=by
  unfold kf at H
  obtain ⟨u,H1,H2⟩:=bs H
  obtain ⟨G,Fx,O,shut⟩:=hJ.new h0
  refine en func172 rfl rfl (sr (me (al 181 [B false,I 0,I 0,I 0,B false] O) ?_))
  rintro v3 c1 k1 ⟨j,rfl,O1⟩
  have h1:Bd s0 c1 (Eb j 181 [B false,I 0,I 0,I 0,B false] :: F):=shut c1 _ k1 O1
  refine wln (sr (va (I 0) (wln (W.seq (sr (vx (l1 cy (hb.mono k1)) (vx (ln 3 cy (hl.mono k1)) (va (I 0) (wln (W.block (lp H1 (fun a=>JnW c1 fun c sl=>Bd a.2.2.2 c (Eb j 181 [B a.1.some,I a.1.last,I a.1.pict,I a.1.conj,B a.1.odd] :: F)∧sl= [(0,.func (.yield lr) #[] #[]),(1,Q bc),(3,Q j),(4,I a.2.1),(7,v1),(8,I (l.length:Int)),(9,I a.2.2.1)])
    (fun b ex e w=>match b with | .inl s'=>ex= .ret∧JnW c1 (fun c sl=>Bd s' c F∧sl= []) e w | .inr v=>ex= .exit 0∧(JnW c1 fun c sl=>Bd v.2 c F∧sl= [(0,.func (.yield lr) #[] #[]),(1,Q bc),(4,I v.1)]) e w) ?_ ?_ ?_)))))))))))
  · clear H H1 H2
    intro a x e w H
    rintro ⟨c,e0,_,rfl,kc,rfl,hJc,rfl⟩
    obtain ⟨G2,Fx2,O2,sh2⟩:=hJ.op hJc
    have kq:=k1.lw.trans kc
    refine sr (va (B (decide (a.2.2.1 < (l.length:Int)))) (wln (W.seq (cn H (fun D H=>?_) (fun D H=>?_)))))
    · refine W.skip (nrm (W.seq (W.block (sr (bn H fun r hi H=>?_)))))
      obtain ⟨d0,E,Rr⟩:=Sl.at (hl.lw kq) (aR hi)
      obtain rfl:=E
      refine va (I a.2.2.1) (vx (ix cy (hl.lw kq) hi) (vx (l1 mh (Rr 0 _ rfl)) (va (I a.2.2.1) (va (J r) (wln ?_)))))
      refine W.seq (sr (va (J r) (bn H fun p hp H=>cl (vq O2 r hp) ?_)))
      rintro v15 c2 k2 ⟨O3,rfl⟩
      refine bn H fun b hb2 H=>cl (mP a.1 p O3 hb2) ?_
      rintro v16 c3 k3 ⟨O4,rfl⟩
      have hJ3:=sh2 c3 _ (k2.trans k3) O4
      have kc3:c1.lw c3:=kc.trans (k2.trans k3).lw
      refine bn H fun t ht H=>?_
      rcases bo b.2 with hb3 | hb3
      · obtain rfl:=orT hb3 ht
        refine vb hb3 (pz (va (B true) (wln (cn H (fun _ H=>?_) (fun h H=>by cases h)))))
        refine W.exit (thx (bke (nrm (W.region (vv (I (w64 (a.2.2.1+1))) (WL.nil ?_))))))
        obtain rfl:=si H
        exact ⟨_,rfl,jnW c3 ⟨hJ3,rfl⟩ kc3⟩
      · have ht2:=orF hb3 ht
        obtain rfl:=si ht2
        refine vb hb3 (wa (I a.2.2.1) (wa (B (a.2.2.1==0)) (va (B (a.2.2.1==0)) (wln (cn H (fun h H=>?_) (fun h H=>?_))))))
        · refine W.exit (thx (bke (nrm (W.region (vv (I (w64 (a.2.2.1+1))) (WL.nil ?_))))))
          obtain rfl:=si H
          exact ⟨_,rfl,jnW c3 ⟨hJ3,rfl⟩ kc3⟩
        · refine W.skip (nrm (W.seq (sr (bn H fun x hx H=>bn H fun z hz H=>?_))))
          have kq3:=k1.lw.trans kc3
          obtain ⟨v27,hv,hs⟩:=ye (P:=Tryz.prog) (k:= .i64) (k':= .i64) (k2:= .i64) cy (by kernel_rfl) (hl.lw kq3) hx
          refine va (.func (.yield lr) #[] #[]) (va (I a.2.1) (vx (l1 cy (hb.lw kq3)) (va (I a.2.1) (vv (I a.2.2.1) (vx (hv _) (WL.round (l:=lr) (args:= #[.int .i64 a.2.1,v27]) rfl (by kernel_rfl) (ym (hY _ _ _ _ _ _ _ hz hJ3 hs) ?_)))))))
          rintro ex w' ⟨c4,rfl,k4,rfl,hJ4⟩
          refine ⟨_,rfl,va (B (!z.2)) (wln (cn H (fun h H=>?_) (fun h H=>?_)))⟩
          · refine W.ret (thr (bkr (thr ?_)))
            obtain rfl:=si H
            exact ⟨_,rfl,rfl,jnW c4 ⟨hJ.drop hJ4,rfl⟩ (kc3.trans k4)⟩
          · refine W.skip (nrm (W.region (vv (I a.2.2.1) (WL.nil (bkn (nrm (W.region (vv (I (w64 (a.2.2.1+1))) (WL.nil ?_)))))))))
            obtain rfl:=si H
            exact ⟨_,rfl,jnW c4 ⟨hJ4,rfl⟩ (kc3.trans k4)⟩
    · refine W.exit (thx ?_)
      obtain rfl:=si H
      exact ⟨_,rfl,rfl,jnW c ⟨hJ.drop hJc,rfl⟩ kc⟩
  · exact jnW c1 ⟨h1,rfl⟩ (Cx.le.refl c1).lw
  · rintro ex e w hx
    cases u with
    | inl s'=>
      obtain ⟨rfl,c,e0,_,rfl,kc,rfl,hJc,rfl⟩:=hx
      obtain rfl:=si H2
      refine bkr (thr ?_)
      exact r0 ⟨c,rfl,k1.lw.trans kc,rfl,hJc⟩
    | inr v=>
      obtain ⟨rfl,c,e0,_,rfl,kc,rfl,hJc,rfl⟩:=hx
      have kq:=k1.lw.trans kc
      refine bke (nrm (sr (vx (l1 cy (hb.lw kq)) (vx (ln 3 cy (hl.lw kq)) (va (B (decide ((l.length:Int) > 0))) (wln (cn H2 (fun D H=>?_) (fun D H=>?_))))))))
      · obtain ⟨x,hx,H⟩:=bs H
        obtain ⟨z,hz,H⟩:=bs H
        obtain rfl:=si H
        obtain ⟨v27,hv,hs⟩:=ye (P:=Tryz.prog) (k:= .i64) (k':= .i64) (k2:= .i64) cy (by kernel_rfl) (hl.lw kq) hx
        refine W.region (va (.func (.yield lr) #[] #[]) (va (I v.1) (vx (l1 cy (hb.lw kq)) (va (I v.1) (vx (l1 cy (hb.lw kq)) (vx (ln 3 cy (hl.lw kq)) (vx (l1 cy (hb.lw kq)) (vx (ln 3 cy (hl.lw kq)) (vx (hv _) (WL.round (l:=lr) (args:= #[.int .i64 v.1,v27]) rfl (by kernel_rfl) (ym (hY _ _ _ _ _ _ _ hz hJc hs) ?_)))))))))))
        rintro ex w' ⟨c4,rfl,k4,rfl,hJ4⟩
        exact ⟨_,rfl,WL.nil (n0 ⟨c4,rfl,kq.trans k4,rfl,hJ4⟩)⟩
      · obtain rfl:=si H
        exact W.skip (n0 ⟨c,rfl,kq,rfl,hJc⟩)
end Go.Proofs.YtclmdpamofdoiaaGreatDoor
namespace Go.Proofs.YtclmdpamofdoiaaGreatDoor
open Go Go.Lt
set_option maxRecDepth 10000
set_option linter.unusedVariables false
attribute [local irreducible] W WL AC
open Tryz
variable {c0:Cx} {G:Gm} {F:List En} {v1:Value}
theorem um (O:Own c0 G F) {l:List Int} (hl:Sl (RI .i32) c0 v1 l): Calls Tryz.prog 113 #[v1] c0.w (aP c0 fun c v=>∃b,Own c G F∧v= .func (.func 172) #[] #[.pointer (some ⟨b,0,none⟩)]∧Im c b 0 v1):=by
 obtain ⟨a,cap,rfl,_⟩:=hl;refine en func113 rfl rfl (sr (me (bx 32 [.slice a l.length cap] O) ?_));rintro v c1 k1 ⟨b,rfl,O1,hb⟩;refine va (.nilFunc) (wln (sr (vv (.func (.func 172) #[] #[.pointer (some ⟨b,0,none⟩)]) (wln (W.ret ?_)))));exact r1 (qq c1 ⟨b,O1,rfl,hb 0 _ rfl⟩)
def jT (l:List Int):Option (List Int):=
 kf (fun (out:List Int) i _=>(app out [i]).bind fun o=>some (o,true)) l []
def uD (cb:Cx) (G:Gm) (bo lr D:Nat) (r:Loop) (out:List Int) (c:Cx) (F:List En):Prop:=
  ∃vo vs,Own c G (Eb bo 89 [vo] :: es true (RI .i64) vo 3 vs out :: F)∧OA (RI .i64) c vo vs out∧Rec c lr D r∧cb.le c
theorem uD.bod (cb:Cx) (G:Gm) (bo lr D:Nat) (r:Loop):Bod (uD cb G bo lr D r):=by
  rintro out c F ⟨vo,vs,O,ho,hr,hc⟩;exact ⟨G,[Eb bo 89 [vo],es true (RI .i64) vo 3 vs out],O,fun c' F' k O'=>⟨vo,vs,O',ho.mono k,hr.mono k,hc.trans k⟩⟩
set_option maxHeartbeats 1000000 in
theorem sQ (O0:Own c0 G F) (l:List Int) {r:List Int} (hl:Sl (RI .i32) c0 v1 l) (H:jT l=some r): Calls Tryz.prog 213 #[v1] c0.w (aP c0 fun c v=>∃y1 us1,Own c G (es true (RI .i64) y1 3 us1 r :: F)∧v=y1∧OA (RI .i64) c y1 us1 r):=by
  refine enR func213 rfl rfl (WR.sr (va (.slice none 0 0) (wln (WR.sr (me (al 89 [.slice none 0 0] O0) ?_)))));rintro v3 c1 k1 ⟨bo,rfl,O1⟩;refine wln (WR.seq (WR.sr (va (v1) (cl (um O1 (hl.mono k1)) ?_))));rintro v9 c2 k2 ⟨bc,O2,rfl,hbc⟩;have O3:Own c2 G (es true (RI .i64) (.slice none 0 0) 3 [] [] :: Eb bo 89 [.slice none 0 0] :: F):=Own.addHole O2 rfl;have O4:=O3.sD 2 [1,0];refine wln (WR.block (WR.range rfl (fun args w=>by kernel_rfl) fun fn rc hrc=>?_));obtain ⟨c3,e3,b3,r3⟩:=Cx.loop c2 (rc .ready none);rw [←e3];have k3:=b3.le;have hJ:=uD.bod c2 G bo (c2.w.heap.size+1) c2.w.heap.size (rc .ready none);unfold jT at H;refine (vF hJ (c2.w.heap.size+1) ?_ (hbc.mono k3) (hl.mono ((k1.trans k2).trans k3)) ⟨.slice none 0 0,[],O4.keep b3,OA.nil (by decide),r3,k3⟩ H).mono ?_
  · rintro s i x z c F v hz ⟨vo,vs,O,ho,hr,hc⟩ hs
    obtain ⟨q,hq,hz⟩:=bs hz;obtain rfl:=si hz;refine Cf hrc hr.rc rfl (HR _ _ _ _ _ 7 8 _ _) ?_;refine W.region (va (I i) (WL.nil (nrm ⟨hr.rc,?_⟩)));have k4:=Cx.turn_lw (o':= .loop (rc .busy none)) hr.rc rfl rfl;have Ob:=Own.turn (o':= .loop (rc .busy none)) O hr.rc rfl;have rb:=hr.turn (rc .busy none);have hcb:=hc.turn (o':= .loop (rc .busy none)) (Il _) hr.rc rfl rfl;have hob:=ho.lw k4;show W _ _ _ _ _ (c.turn (c2.w.heap.size+1) (.loop (rc .busy none))).w;generalize c.turn (c2.w.heap.size+1) (.loop (rc .busy none))=cb at k4 Ob rb hcb hob;have fin:∀(cE:Cx) (vo vs) (out:List Int) (e:Nat→Value),cb.le cE→Own cE G (Eb bo 89 [vo] :: es true (RI .i64) vo 3 vs out :: F)→OA (RI .i64) cE vo vs out→
        rdQ (c2.w.heap.size+1) rc (fun x w'=>∃c',w'=c'.w∧c.lw c'∧x= .returned (.bool true)∧uD c2 G bo (c2.w.heap.size+1) c2.w.heap.size (rc .ready none) out c' F) .normal e cE.w:=fun cE vo vs out e kE OE hoE=>by
      have rE:=rb.mono kE;have kt:=Cx.turn_lw (o':= .loop (rc .ready none)) rE.rc rfl rfl;exact ⟨rE.rc,cE.turn _ (.loop (rc .ready none)),rfl,k4.trans (kE.lw.trans kt),rfl,vo,vs,Own.turn OE rE.rc rfl,hoE.lw kt,rE.turn _,(hcb.trans kE).turn (Il _) rE.rc rfl rfl⟩
    refine W.block (W.region (vx (le1 0 uF (Ob.on 0 rfl)) (va (I i) (me (sl (RI .i64) 3 [[I i]] ([i]:List Int) Ob ⟨rfl,trivial⟩) ?_))));rintro v20 c8 k8 ⟨vs8,O8,ho8⟩;obtain ⟨c9,w9,k9,O9,hs9⟩:=O8.frz 0 rfl ho8;refine WL.gh w9 ?_;refine me (ap (RI .i64) (I 0) 8 89 2 O9 ((hob.mono k8).mono k9) hs9 hq uF) ?_;rintro v21 cA kA ⟨vsA,OA_,hoA⟩;obtain ⟨oa,on_,oc,rfl⟩:=hoA.form;refine md (sC 89 0 (.slice oa on_ oc) [.slice oa on_ oc] 1 OA_ ⟨rfl,trivial⟩) ?_;intro cB kB OB;have OC:=OB.sD 3 [1,2];refine WL.nil (bkn ?_);exact fin cB _ _ _ _ (k8.trans (k9.trans (kA.trans kB))) OC (hoA.mono kB)
  · rintro ex w' ⟨c4,rfl,k4,rfl,vo,vs,O,ho,hr,hc⟩
    have kt:=Cx.turn_lw (o':= .loop (rc .exhausted none)) hr.rc rfl rfl;have Ot:=Own.turn (o':= .loop (rc .exhausted none)) O hr.rc rfl;have rt:=hr.turn (rc .exhausted none);have hct:=hc.turn (o':= .loop (rc .exhausted none)) (Il _) hr.rc rfl rfl;have hot:=ho.lw kt;refine ⟨_,rfl,.inl ⟨hr.rc,?_⟩⟩;show mu _ _ _ _ (c4.turn (c2.w.heap.size+1) (.loop (rc .exhausted none))).w;generalize c4.turn (c2.w.heap.size+1) (.loop (rc .exhausted none))=ct at kt Ot rt hct hot;obtain ⟨oa,on_,oc,rfl⟩:=hot.form;refine bkn (nrm (WR.sr (vx (le1 0 uF (Ot.on 0 rfl)) (va (.slice oa on_ oc) (wln (WR.of (W.ret ?_)))))));have kd:=Cx.turn_lw (o':= .deferred none) rt.def_ rfl rfl;exact Ht rt.def_ ⟨_,ct.turn c2.w.heap.size (.deferred none),rfl,rfl,(k1.trans k2).trans (hct.turn (ay _) rt.def_ rfl rfl),_,_,(Own.turn Ot rt.def_ rfl).tail,rfl,hot.lw kd⟩
end Go.Proofs.YtclmdpamofdoiaaGreatDoor
namespace Go.Proofs.YtclmdpamofdoiaaGreatDoor
open Go Go.Lt
set_option maxRecDepth 10000
set_option linter.unusedVariables false
attribute [local irreducible] W WL AC
open Tryz
variable {c0:Cx} {G:Gm} {F:List En} {sg:Sto} {v1 v2 v3 v4 v5 v6 v7 v8 v9 v10 v11 v12 v13 v14 v15 v16 v17 v18 v19 v20 v21 v22 v23 v24 v25 v26 v27 v28 v29 v30 v31 v32 v33 v34 v35 v36 v37 v38 v39 v40 v41 v42 v43 v44 v45 v46 v47 v48 v49 v50 v51 v52 v53 v54 v55 v56 v57 v58 v59 v60:Value}
def gG (p0:List Int):Option (Int):=
 (jT p0).bind fun a=>
 some (a.length:Int)
theorem oS (f:Own c0 G F) (a:List Int) {r:Int} (h:Sl (RI .i32) c0 v1 a) (H:gG a=some r): Calls prog 151 #[v1] c0.w (aP c0 fun c v=>Own c G (F)∧v=I r):=by
 unfold gG at H;refine en func151 rfl rfl (sr (va (I 0) (wln (sr (va (v1) (bn H fun e i H=>cl (sQ f a h i) ?_))))));rintro v4 d k ⟨_,l,g,rfl,j⟩;refine vx (lnO 3 uF j) (va (I (e.length:Int)) (wln (W.ret ?_)));obtain rfl:=si H;have b:=g.sD 1 [];exact r1 (qq d ⟨b,rfl⟩)
def dv (p0:List Int) (p1:List Int):Option (Bool):=
 if ((p0.length:Int) != (p1.length:Int))=true then
 some false
 else
 (cv (σ:=Int) (τ:=Bool ⊕ Unit) (((p0.length:Int) - 0).toNat+1) (fun b=>
 if (decide (b < (p0.length:Int)))=true then
 (idx p0 b).bind fun c=>
 (idx p1 b).bind fun d=>
 if (c != d)=true then
 some (.inr (.inl false))
 else
 some (.inl ((w64 (b+1))))
 else
 some (.inr (.inr ()))) (0)).bind fun a=>
 match a with
 | .inl a=>
 some a
 | .inr a=>
 some true
theorem kZ (A:Own c0 G F) (g:List Int) (u:List Int) {r:Bool} (h:Sl (RI .i32) c0 v1 g) (s:Sl (RI .i32) c0 v3 u) (H:dv g u=some r): Calls prog 150 #[v1,v3] c0.w (aP c0 fun c v=>Own c G (F)∧v=B r):=by
 unfold dv at H;refine en func150 rfl rfl (sr (va (B false) (wln (W.seq (sr (va (v1) (vx (ln 3 cy h) (va (v3) (vx (ln 3 cy s) (va (B ((g.length:Int) != (u.length:Int))) (wln (cn H (fun h5 H=>?_) (fun h5 H=>?_)))))))))))))
 ·refine sr (va (B false) (wln (W.ret (thr ?_))));obtain rfl:=si H;exact r1 (qq c0 ⟨A,rfl⟩)
 refine W.skip (nrm (W.seq (sr (va (v1) (vx (ln 3 cy h) (va (I 0) (wln (W.block (bn H fun b h6 p=>lp h6 (fun a=>Jn c0 fun c l=>Own c G (F)∧l= [(0,v1),(1,v3),(12,I (g.length:Int)),(13,I a)]) (fun t=>match t with | .inl x=>(fun f0 ex e w=>ex= .ret∧(Jn c0 fun c l=>Own c G (F)∧l= [(4,B f0)]) e w) x | .inr x=>(fun i0 ex e w=>ex= .exit 0∧(Jn c0 fun c l=>Own c G (F)∧l= []) e w) x) ?_ ?_ ?_)))))))))
 ·clear p h6;intro a v0 R h0 H;revert R h0;rintro P w_ ⟨c8,g9,_,rfl,l8,rfl,i,rfl⟩;refine sr (va (B (decide (a < (g.length:Int)))) (wln (W.seq (cn H (fun T H=>?_) (fun T H=>?_)))))
  ·refine W.skip (nrm (W.seq (W.block (sr (vv (I a) (wln (W.seq (rD [] (Kp G0 []) i ?_))))))));intro d o j;have u0:Kp G0 [] d:=Kp.nil0;refine ta 0 (v1) (ta 1 (I a) (bn H fun y k H=>?_));obtain ⟨l0,U,d0⟩:=Sl.at (h.mono (l8.trans o)) (aR k);obtain rfl:=U;refine tx 2 (fun q f=>ix cy h.m k) (tx 3 (fun q f=>l1 mh ((mm d0) 0 _ rfl)) (ta 4 (v3) (ta 5 (I a) (bn H fun z n H=>?_))));obtain ⟨m0,X,e0⟩:=Sl.at (s.mono (l8.trans o)) (aR n);obtain rfl:=X;refine tx 6 (fun q f=>ix cy s.m n) (tx 7 (fun q f=>l1 mh ((mm e0) 0 _ rfl)) (ta 8 (B (y != z)) (dn (nrm (cn H (fun Z H=>?_) (fun Z H=>?_))))))
   ·refine sr (va (B false) (wln (W.ret (bkr (thr ?_)))));obtain rfl:=si H;exact ⟨_,rfl,⟨rfl,jn d ⟨j,rfl⟩⟩⟩
   refine W.skip (bkn (nrm (W.region (vv (I (w64 (a+1))) (WL.nil ?_)))));obtain rfl:=si H;exact ⟨_,rfl,jn d ⟨j,rfl⟩⟩
  refine W.exit (thx ?_);obtain rfl:=si H;exact ⟨_,rfl,rfl,jn c8 ⟨i,rfl⟩⟩
 ·exact jn c0 ⟨A,rfl⟩
 rcases b with b | b
 ·intro S; revert S;rintro _ P w_ ⟨rfl,M,o0,_,rfl,s0,rfl,D,rfl⟩;refine bkr (thr ?_);obtain rfl:=si p;exact r1 (qq M ⟨D,rfl⟩)
 rintro _ P w_ ⟨rfl,N,q0,_,rfl,t0,rfl,E,rfl⟩;refine bke (nrm (sr (va (B true) (wln (W.ret ?_)))));obtain rfl:=si p;exact r1 (qq N ⟨E,rfl⟩)
def ce (p0:List Int):Option (Int):=
 (cv (σ:=Int) (τ:=Int ⊕ Unit) (((p0.length:Int) - 0).toNat+1) (fun b=>
 if (decide (b < (p0.length:Int)))=true then
 (idx p0 b).bind fun c=>
 (gV c).bind fun d=>
 if d=true then
 some (.inr (.inl b))
 else
 some (.inl ((w64 (b+1))))
 else
 some (.inr (.inr ()))) (0)).bind fun a=>
 match a with
 | .inl a=>
 some a
 | .inr a=>
 some (-1)
theorem jx (U:Own c0 G F) (d:List Int) {r:Int} (j:Sl (RI .i32) c0 v1 d) (H:ce d=some r): Calls prog 214 #[v1,.func (.func 134) #[] #[]] c0.w (aP c0 fun c v=>Own c G (F)∧v=I r):=by
 unfold ce at H;refine en func214 rfl rfl (sr (va (I 0) (wln (W.seq (sr (va (v1) (vx (ln 3 cy j) (va (I 0) (wln (W.block (bn H fun b N i=>lp N (fun a=>Jn c0 fun c l=>Own c G (F)∧l= [(0,v1),(1,.func (.func 134) #[] #[]),(7,I (d.length:Int)),(8,I a)]) (fun t=>match t with | .inl k=>(fun R ex e w=>ex= .ret∧(Jn c0 fun c l=>Own c G (F)∧l= [(4,I R)]) e w) k | .inr k=>(fun b0 ex e w=>ex= .exit 0∧(Jn c0 fun c l=>Own c G (F)∧l= []) e w) k) ?_ ?_ ?_)))))))))))
 ·clear i N;intro a j0 y T H;revert y T;rintro x S ⟨X,g6,_,rfl,Z,rfl,q,rfl⟩;refine sr (va (B (decide (a < (d.length:Int)))) (wln (W.seq (cn H (fun A H=>?_) (fun A H=>?_)))))
  ·refine W.skip (nrm (W.seq (W.block (sr (vv (I a) (wln (sr (va (.func (.func 134) #[] #[]) (va (v1) (va (I a) (bn H fun n h H=>?_)))))))))));obtain ⟨a0,D,P⟩:=Sl.at (j.mono Z) (aR h);obtain rfl:=D;refine vx (ix cy j.m h) (vx (l1 mh (P 0 _ rfl)) (bn H fun d0 E H=>cl (nC q n E) ?_));rintro v22 g g0 ⟨f,rfl⟩;refine wln (cn H (fun M H=>?_) (fun M H=>?_))
   ·refine sr (vv (I a) (wln (W.ret (bkr (thr ?_)))));obtain rfl:=si H;exact ⟨_,rfl,⟨rfl,jn g ⟨f,rfl⟩⟩⟩
   refine W.skip (bkn (nrm (W.region (vv (I (w64 (a+1))) (WL.nil ?_)))));obtain rfl:=si H;exact ⟨_,rfl,jn g ⟨f,rfl⟩⟩
  refine W.exit (thx ?_);obtain rfl:=si H;exact ⟨_,rfl,rfl,jn X ⟨q,rfl⟩⟩
 ·exact jn c0 ⟨U,rfl⟩
 rcases b with b | b
 ·intro z; revert z;rintro _ x S ⟨rfl,s,e0,_,rfl,h0,rfl,o,rfl⟩;refine bkr (thr ?_);obtain rfl:=si i;exact r1 (qq s ⟨o,rfl⟩)
 rintro _ x S ⟨rfl,u,f0,_,rfl,i0,rfl,p,rfl⟩;refine bke (nrm (sr (va (I (-1)) (wln (W.ret ?_)))));obtain rfl:=si i;exact r1 (qq u ⟨p,rfl⟩)
def bA (p0:List Int):Option (Bool):=
 (ce p0).bind fun a=>
 some (decide (a≥0))
theorem eC (d:Own c0 G F) (b:List Int) {r:Bool} (g:Sl (RI .i32) c0 v1 b) (H:bA b=some r): Calls prog 152 #[v1,.func (.func 134) #[] #[]] c0.w (aP c0 fun c v=>Own c G (F)∧v=B r):=by
 unfold bA at H;refine en func152 rfl rfl (sr (va (B false) (wln (sr (va (v1) (va (.func (.func 134) #[] #[]) (bn H fun a h H=>cl (jx d b g h) ?_)))))));rintro v9 f i ⟨e,rfl⟩;refine vv (B (decide (a≥0))) (wln (W.ret ?_));obtain rfl:=si H;exact r1 (qq f ⟨e,rfl⟩)
def jh (p0:aa):Option (Bool):=
 (if (p0.Kind==0)=true then
 some (p0.Kind==0)
 else
 some (p0.Kind==3)).bind fun h=>
 if h=true then
 some true
 else
 if (p0.Kind==2)=true then
 (bD (2==1) ((dv p0.Text ([65533]:List Int)).bind fun d=>
 some d)).bind fun a=>
 if a=true then
 some true
 else
 (gG p0.Text).bind fun e=>
 (bD (e==1) ((bA p0.Text).bind fun f=>
 some (!f))).bind fun b=>
 (bD b ((lE p0.Text).bind fun g=>
 some (g==2))).bind fun c=>
 some c
 else
 (bD (1==1) ((dv p0.Text ([65533]:List Int)).bind fun d=>
 some d)).bind fun a=>
 if a=true then
 some true
 else
 (gG p0.Text).bind fun e=>
 (bD (e==1) ((bA p0.Text).bind fun f=>
 some (!f))).bind fun b=>
 (bD b ((lE p0.Text).bind fun g=>
 some (g==1))).bind fun c=>
 some c
theorem vA (O0:Own c0 G F) (b:aa) {r:Bool} (j:Sl (RI .i32) c0 v1 b.Text) (H:jh b=some r): Calls prog 95 #[.agg #[I b.Kind,v1]] c0.w (aP c0 fun c v=>Own c G (F)∧v=B r):=by
 unfold jh at H;refine en func95 rfl rfl (sr ?_);obtain ⟨a3,a4,a5,rfl⟩:=(j).form;refine me (bx 114 [I b.Kind,.slice a3 a4 a5] O0) ?_;rintro v10 c9 l9 ⟨f,rfl,O7,k⟩;refine va (B false) (wln (sr (va (I 1) (wln (W.seq (sr (va (Q f) (vx (l1 u_3 (k 0 _ rfl)) (wln (W.block (bn H fun e1 n a=>W.seqJ (Jn c9 fun c l=>Own c G (F)∧l= [(1,Q f),(3,I 1),(5,I b.Kind),(6,B e1)]) ?_ ?_)))))))))))
 ·refine sr (vv (B (b.Kind==0)) (wln (cn n (fun y1 n=>?_) (fun y1 n=>?_))))
  ·refine W.skip (nrm ?_);obtain rfl:=si n;exact jn c9 ⟨O7,rfl⟩
  refine W.region (vv (B (b.Kind==3)) (wln ?_));obtain rfl:=si n;exact jn c9 ⟨O7,rfl⟩
 rintro e_ w_ ⟨p,l3,_,rfl,o3,rfl,o,rfl⟩;refine cn a (fun z1 a=>?_) (fun z1 a=>?_)
 ·refine sr (va (B true) (wln (W.ret (bkr (thr ?_)))));obtain rfl:=si a;exact r1 (qq p ⟨o,rfl⟩)
 refine sr (vv (B (b.Kind==2)) (wln (cn a (fun b2 a=>?_) (fun b2 a=>?_))))
 ·refine W.region (va (I 2) (WL.nil (bkn (nrm (W.seq (W.seq (bn a fun z j0 a=>W.join (Jn p fun c l=>Own c G (F)∧l= [(1,Q f),(3,I 2),(18,B z)]) ?_ ?_)))))))
  ·clear a;refine W.region (va (I 2) (va (B (2==1)) ?_));rcases bo (2==1) with q | q
   ·have M:=anT q j0;refine vb q (wa (Qo f (0+1)) (wn (vx (l1 cy ((mm k) 1 _ rfl)) (wn (me (sl (RI .i32) 21 [[J 65533]] ([65533]:List Int) o ⟨rfl,trivial⟩) ?_)))));rintro v29 h3 p3 ⟨b4,f1,c2⟩;refine wn ?_;obtain ⟨i3,e2,q3,g1,d2⟩:=f1.frz 0 rfl c2;refine WL.gh e2 (bn M fun E f2 M=>cl (kZ g1 b.Text ([65533]:List Int) j.m d2 f2) ?_);rintro v40 s1 s3 ⟨h1,rfl⟩;obtain rfl:=si M;refine va (B E) (wln ?_);have i1:=h1.sD 1 [];exact jn s1 ⟨i1,rfl⟩
   obtain rfl:=anF q j0;exact vb q (pz (pz (va (B false) (wln (jn p ⟨o,rfl⟩)))))
  rintro e_ w_ ⟨i0,m3,_,rfl,t3,rfl,f0,rfl⟩;refine nrm (cn a (fun g2 a=>?_) (fun g2 a=>?_))
  ·refine sr (va (B true) (wln (W.ret (thr ?_))));obtain rfl:=si a;exact r1 (qq i0 ⟨f0,rfl⟩)
  refine W.skip (nrm (W.seq (bn a fun i i2 a=>bn a fun z0 k0 a=>bn a fun A b0 a=>W.join (Jn i0 fun c l=>Own c G (F)∧l= [(2,B A)]) ?_ ?_)))
  ·clear a;refine W.region (va (Qo f (0+1)) (vx (l1 cy ((mm k) 1 _ rfl)) (cl (oS f0 b.Text j.m i2) ?_)));rintro v57 t1 u3 ⟨g0,rfl⟩;refine va (B (i==1)) ?_;rcases bo (i==1) with s | s
   ·have N:=anT s k0;refine vb s (wa (Qo f (0+1)) (wn (vx (l1 cy ((mm k) 1 _ rfl)) (wn (bn N fun d j2 N=>cl (eC g0 b.Text j.m j2) ?_)))));rintro d4 u1 v3 ⟨h0,rfl⟩;refine wa (B (!d)) ?_;obtain rfl:=si N;refine va (B (!d)) ?_;rcases bo (!d) with t | t
    ·have P:=anT t b0;refine vb t (wa (Qo f (0+1)) (wn (vx (l1 cy ((mm k) 1 _ rfl)) (wn (bn P fun e k2 P=>cl (ue h0 b.Text j.m k2) ?_)))));rintro e4 w1 w3 ⟨k1,rfl⟩;refine wa (I 2) (wa (B (e==2)) ?_);obtain rfl:=si P;exact vv (B (e==2)) (wln (jn w1 ⟨k1,rfl⟩))
    obtain rfl:=anF t b0;exact vb t (pz (pz (ps (vv (B false) (wln (jn u1 ⟨h0,rfl⟩))))))
   obtain rfl:=anF s k0;refine vb s (pz (pz (va (B false) ?_)));have l0:false=false:=rfl;obtain rfl:=anF l0 b0;exact vb l0 (pz (pz (ps (vv (B false) (wln (jn t1 ⟨g0,rfl⟩))))))
  rintro e_ w_ ⟨x1,n3,_,rfl,x3,rfl,m1,rfl⟩;refine nrm (W.ret ?_);obtain rfl:=si a;exact r1 (qq x1 ⟨m1,rfl⟩)
 refine W.skip (bkn (nrm (W.seq (W.seq (bn a fun z m0 a=>W.join (Jn p fun c l=>Own c G (F)∧l= [(1,Q f),(3,I 1),(18,B z)]) ?_ ?_)))))
 ·clear a;refine W.region (va (I 1) (va (B (1==1)) ?_));rcases bo (1==1) with u | u
  ·have R:=anT u m0;refine vb u (wa (Qo f (0+1)) (wn (vx (l1 cy ((mm k) 1 _ rfl)) (wn (me (sl (RI .i32) 21 [[J 65533]] ([65533]:List Int) o ⟨rfl,trivial⟩) ?_)))));rintro f4 j3 y3 ⟨c4,n1,l2⟩;refine wn ?_;obtain ⟨k3,n2,z3,p1,m2⟩:=n1.frz 0 rfl l2;refine WL.gh n2 (bn R fun E o2 R=>cl (kZ p1 b.Text ([65533]:List Int) j.m m2 o2) ?_);rintro d3 t0 w2 ⟨q1,rfl⟩;obtain rfl:=si R;refine va (B E) (wln ?_);have o0:=q1.sD 1 [];exact jn t0 ⟨o0,rfl⟩
  obtain rfl:=anF u m0;exact vb u (pz (pz (va (B false) (wln (jn p ⟨o,rfl⟩)))))
 rintro e_ w_ ⟨X,u2,_,rfl,x2,rfl,S,rfl⟩;refine nrm (cn a (fun a1 a=>?_) (fun a1 a=>?_))
 ·refine sr (va (B true) (wln (W.ret (thr ?_))));obtain rfl:=si a;exact r1 (qq X ⟨S,rfl⟩)
 refine W.skip (nrm (W.seq (bn a fun i b1 a=>bn a fun z0 Z a=>bn a fun A D a=>W.join (Jn X fun c l=>Own c G (F)∧l= [(2,B A)]) ?_ ?_)))
 ·clear a;refine W.region (va (Qo f (0+1)) (vx (l1 cy ((mm k) 1 _ rfl)) (cl (oS S b.Text j.m b1) ?_)));rintro e3 u0 y2 ⟨T,rfl⟩;refine va (B (i==1)) ?_;rcases bo (i==1) with g | g
  ·have x:=anT g Z;refine vb g (wa (Qo f (0+1)) (wn (vx (l1 cy ((mm k) 1 _ rfl)) (wn (bn x fun d c1 x=>cl (eC T b.Text j.m c1) ?_)))));rintro f3 v0 z2 ⟨U,rfl⟩;refine wa (B (!d)) ?_;obtain rfl:=si x;refine va (B (!d)) ?_;rcases bo (!d) with h | h
   ·have y:=anT h D;refine vb h (wa (Qo f (0+1)) (wn (vx (l1 cy ((mm k) 1 _ rfl)) (wn (bn y fun e d1 y=>cl (ue U b.Text j.m d1) ?_)))));rintro g3 w0 b3 ⟨q0,rfl⟩;refine wa (I 1) (wa (B (e==1)) ?_);obtain rfl:=si y;exact vv (B (e==1)) (wln (jn w0 ⟨q0,rfl⟩))
   obtain rfl:=anF h D;exact vb h (pz (pz (ps (vv (B false) (wln (jn v0 ⟨U,rfl⟩))))))
  obtain rfl:=anF g Z;refine vb g (pz (pz (va (B false) ?_)));have a0:false=false:=rfl;obtain rfl:=anF a0 D;exact vb a0 (pz (pz (ps (vv (B false) (wln (jn u0 ⟨T,rfl⟩))))))
 rintro e_ w_ ⟨x0,v2,_,rfl,c3,rfl,s0,rfl⟩;refine nrm (W.ret ?_);obtain rfl:=si a;exact r1 (qq x0 ⟨s0,rfl⟩)
def kz (p0:aE):Option (Bool):=
 (kY p0).bind fun h=>
 if (!h)=true then
 some false
 else
 (cv (σ:=Int) (τ:=Bool ⊕ Unit) (((p0.Lines.length:Int) - 0).toNat+1) (fun c=>
 if (decide (c < (p0.Lines.length:Int)))=true then
 (idx p0.Lines c).bind fun e=>
 (cv (σ:=Int) (τ:=Bool ⊕ Unit) (((e.Cells.length:Int) - 0).toNat+1) (fun d=>
 if (decide (d < (e.Cells.length:Int)))=true then
 (idx e.Cells d).bind fun f=>
 (jh f).bind fun g=>
 if (!g)=true then
 some (.inr (.inl false))
 else
 some (.inl ((w64 (d+1))))
 else
 some (.inr (.inr ()))) (0)).bind fun b=>
 match b with
 | .inl b=>
 some (.inr (.inl b))
 | .inr b=>
 some (.inl ((w64 (c+1))))
 else
 some (.inr (.inr ()))) (0)).bind fun a=>
 match a with
 | .inl a=>
 some a
 | .inr a=>
 some true
theorem sM (O0:Own c0 G F) (hG:Gl [1,2,3,4,7] c0) (a:aE) {r:Bool} (E:Sl aL c0 v1 a.Lines) (H:kz a=some r): Calls prog 51 #[.agg #[I a.Wide,I a.High,v1,I a.At.Row,I a.At.Col,B a.At.Pending,B a.Auto]] c0.w (aP c0 fun c v=>Own c G (F)∧v=B r):=by
 unfold kz at H;refine en func51 rfl rfl (sr ?_);obtain ⟨S,T,U,rfl⟩:=(E).form;refine me (bx 45 [I a.Wide,I a.High,.slice S T U,I a.At.Row,I a.At.Col,B a.At.Pending,B a.Auto] O0) ?_;rintro v10 c9 l9 ⟨b6,rfl,O7,m8⟩;refine va (B false) (wln (W.seq (sr (vx (lN 45 m8) (bn H fun b2 h1 H=>cl (wi O7 (hG.m.le (by decide)) a E.m h1) ?_)))));rintro v17 g l16 ⟨X,rfl⟩;refine va (B (!b2)) (wln (cn H (fun i1 H=>?_) (fun i1 H=>?_)))
 ·refine sr (va (B false) (wln (W.ret (thr ?_))));obtain rfl:=si H;exact r1 (qq g ⟨X,rfl⟩)
 refine W.skip (nrm (W.seq (sr (va (Qo b6 (0+2)) (vx (l1 fg ((mm m8) 2 _ rfl)) (vx (ln 3 fg E.m) (va (I 0) (wln (W.block (bn H fun i j0 u=>lp j0 (fun b=>Jn g fun c l=>Own c G (F)∧l= [(11,.slice S T U),(12,I (a.Lines.length:Int)),(13,I b)]) (fun t=>match t with | .inl k=>(fun N ex e w=>ex= .ret∧(Jn g fun c l=>Own c G (F)∧l= [(2,B N)]) e w) k | .inr k=>(fun d2 ex e w=>ex= .exit 0∧(Jn g fun c l=>Own c G (F)∧l= []) e w) k) ?_ ?_ ?_))))))))))
 ·clear u j0;intro b c2 A R H;revert A R;rintro z P ⟨b1,q2,_,rfl,s1,rfl,Z,rfl⟩;refine sr (va (B (decide (b < (a.Lines.length:Int)))) (wln (W.seq (cn H (fun j1 H=>?_) (fun j1 H=>?_)))))
  ·refine W.skip (nrm (W.seq (W.block (sr (bn H fun f k0 H=>?_)))));obtain ⟨k2,k1,x1⟩:=Sl.at (E.mono (l9.trans (l16.trans s1))) (aR k0);obtain ⟨v32,rfl,h⟩:=k1;refine vx (ix fg E.m k0) (vx (lN 48 x1) (me (al 48 [Y,B false] Z) ?_));rintro v37 n2 o0 ⟨y,rfl,s0⟩;obtain ⟨o,p,q,rfl⟩:=((h.mono o0)).form;refine md (sA 48 [.slice o p q,B f.Wrap] 0 s0 ⟨h.m.one,rfl,trivial⟩) ?_;rintro s t1 a0;refine wln (sr (va (Q y) (vx (le1 0 cI (a0.on 0 rfl)) (vx (ln 3 cI h.m) (va (I 0) (wln (W.block (bn H fun j l0 x=>lp l0 (fun d=>Jn s fun c l=>Own c G ((Eb y 48 [.slice o p q,B f.Wrap]) :: F)∧l= [(11,.slice S T U),(12,I (a.Lines.length:Int)),(13,I b),(18,.slice o p q),(19,I (f.Cells.length:Int)),(20,I d)]) (fun t=>match t with | .inl k=>(fun N ex e w=>ex= .ret∧(Jn s fun c l=>Own c G (F)∧l= [(2,B N)]) e w) k | .inr k=>(fun e2 ex e w=>ex= .exit 2∧(Jn s fun c l=>Own c G ((Eb y 48 [.slice o p q,B f.Wrap]) :: F)∧l= [(11,.slice S T U),(12,I (a.Lines.length:Int)),(13,I b)]) e w) k) ?_ ?_ ?_))))))))
   ·clear x l0;intro d c2 A R H;revert A R;rintro z P ⟨c1,s2,_,rfl,u1,rfl,b0,rfl⟩;refine sr (va (B (decide (d < (f.Cells.length:Int)))) (wln (W.seq (cn H (fun m1 H=>?_) (fun m1 H=>?_)))))
    ·refine W.skip (nrm (W.seq (W.block (sr (bn H fun n m0 H=>?_)))));obtain ⟨l2,n1,y1⟩:=Sl.at (h.mono (o0.trans (t1.trans u1))) (aR m0);obtain ⟨v56,rfl,M⟩:=n1;refine vx (ix cI h.m m0) (vx (lN 114 y1) (me (al 114 [I 0,Y] b0) ?_));rintro e3 o2 w1 ⟨m2,rfl,t0⟩;obtain ⟨f0,g0,h0,rfl⟩:=((M.mono w1)).form;refine md (sA 114 [I n.Kind,.slice f0 g0 h0] 0 t0 ⟨rfl,M.m.one,trivial⟩) ?_;rintro p2 x2 d0;refine wln (sr (vx (leN 114 0 [I n.Kind,.slice f0 g0 h0] (d0.on 0 rfl)) (bn H fun q0 p1 H=>cl (vA d0 n M.m p1) ?_)));rintro f3 i0 y2 ⟨e0,rfl⟩;refine va (B (!q0)) (wln (cn H (fun q1 H=>?_) (fun q1 H=>?_)))
     ·refine sr (va (B false) (wln (W.ret (bkr (thr ?_)))));obtain rfl:=si H;refine ⟨_,rfl,⟨rfl,?_⟩⟩;have u0:=e0.sD 2 [];exact jn i0 ⟨u0,rfl⟩
     refine W.skip (bkn (nrm (W.region (vv (I (w64 (d+1))) (WL.nil ?_)))));obtain rfl:=si H;refine ⟨_,rfl,?_⟩;have v0:=e0.sD 2 [1];exact jn i0 ⟨v0,rfl⟩
    refine W.exit (thx ?_);obtain rfl:=si H;exact ⟨_,rfl,rfl,jn c1 ⟨b0,rfl⟩⟩
   ·exact jn s ⟨a0,rfl⟩
   rcases j with j | j
   ·intro D; revert D;rintro _ z P ⟨rfl,d1,t2,_,rfl,z2,rfl,w0,rfl⟩;refine bkr (bkr (thr ?_));obtain rfl:=si x;exact ⟨_,rfl,⟨rfl,jn d1 ⟨w0,rfl⟩⟩⟩
   rintro _ z P ⟨rfl,e1,u2,_,rfl,b3,rfl,x0,rfl⟩;refine bke (bkn (nrm (W.region (vv (I (w64 (b+1))) (WL.nil ?_)))));obtain rfl:=si x;refine ⟨_,rfl,?_⟩;have y0:=x0.sD 1 [];exact jn e1 ⟨y0,rfl⟩
  refine W.exit (thx ?_);obtain rfl:=si H;exact ⟨_,rfl,rfl,jn b1 ⟨Z,rfl⟩⟩
 ·exact jn g ⟨X,rfl⟩
 rcases i with i | i
 ·intro D; revert D;rintro _ z P ⟨rfl,f1,v2,_,rfl,c3,rfl,z0,rfl⟩;refine bkr (thr ?_);obtain rfl:=si u;exact r1 (qq f1 ⟨z0,rfl⟩)
 rintro _ z P ⟨rfl,g1,w2,_,rfl,d3,rfl,a1,rfl⟩;refine bke (nrm (sr (va (B true) (wln (W.ret ?_)))));obtain rfl:=si u;exact r1 (qq g1 ⟨a1,rfl⟩)
def kU (p0:aE):Option (aE):=
 (cv (σ:=Int×(List ah)) (τ:=(List ah)) (((p0.Lines.length:Int) - 0).toNat+1) (fun a=>
 if (decide (a.1 < (p0.Lines.length:Int)))=true then
 (idx p0.Lines a.1).bind fun c=>
 (cv (σ:=(List aa)×Int) (τ:=(List aa)) (((c.Cells.length:Int) - 0).toNat+1) (fun b=>
 if (decide (b.2 < (c.Cells.length:Int)))=true then
 (idx c.Cells b.2).bind fun d=>
 (jC d.Text).bind fun g=>
 (app b.1 ([(⟨d.Kind,g⟩:aa)]:List aa)).bind fun h=>
 some (.inl (h,(w64 (b.2+1))))
 else
 some (.inr (b.1))) (([]:List aa),0)).bind fun f=>
 (app a.2 ([(⟨f,false⟩:ah)]:List ah)).bind fun i=>
 some (.inl ((w64 (a.1+1)),i))
 else
 some (.inr (a.2))) (0,([]:List ah))).bind fun e=>
 some (⟨p0.Wide,p0.High,e,(⟨p0.At.Row,p0.At.Col,false⟩:ai),p0.Auto⟩:aE)
theorem vY (O0:Own c0 G F) (a:aE) {r:aE} (h2:Sl aL c0 v1 a.Lines) (H:kU a=some r): Calls prog 52 #[.agg #[I a.Wide,I a.High,v1,I a.At.Row,I a.At.Col,B a.At.Pending,B a.Auto]] c0.w (aP c0 fun c v=>∃y1 y2,Own c G (es true aL y1 48 y2 r.Lines :: F)∧v= .agg #[I r.Wide,I r.High,y1,I r.At.Row,I r.At.Col,B r.At.Pending,B r.Auto]∧OA aL c y1 y2 r.Lines):=by
 unfold kU at H;refine en func52 rfl rfl (sr ?_);obtain ⟨a3,a4,a5,rfl⟩:=(h2).form;refine me (bx 45 [I a.Wide,I a.High,.slice a3 a4 a5,I a.At.Row,I a.At.Col,B a.At.Pending,B a.Auto] O0) ?_;rintro v10 c9 l9 ⟨b6,rfl,O7,m8⟩;refine me (al 45 [I 0,I 0,Y,I 0,I 0,B false,B false] O7) ?_;rintro v14 n6 p4 ⟨n,rfl,w3⟩;refine wln (sr (vx (lN 45 (mm m8)) (me (al 45 [I 0,I 0,Y,I 0,I 0,B false,B false] w3) ?_)));rintro v18 o6 q4 ⟨f,rfl,x3⟩;refine md (sA 45 [I a.Wide,I a.High,.slice a3 a4 a5,I a.At.Row,I a.At.Col,B a.At.Pending,B a.Auto] 0 x3 ⟨rfl,rfl,h2.m.one,rfl,rfl,rfl,rfl,trivial⟩) ?_;rintro p6 r4 y3;refine wln (sr (va (Qo f 2) (md (sC 27 2 (Y) [I a.Wide,I a.High,Y,I a.At.Row,I a.At.Col,B a.At.Pending,B a.Auto] 0 y3 ⟨rfl,trivial⟩) ?_)));rintro U s4 z3;refine wln (W.seq (sr (va (Qo b6 (0+2)) (vx (l1 fg ((mm m8) 2 _ rfl)) (vx (ln 3 fg h2.m) (va (I 0) (wln (W.block (bn H fun f6 k1 d1=>lp k1 (fun d=>Jn U fun c l=>∃v25 p,Own c G (es true aL v25 48 p d.2 :: (Eb f 45 [I a.Wide,I a.High,v25,I a.At.Row,I a.At.Col,B a.At.Pending,B a.Auto]) :: (Eb n 45 [I 0,I 0,Y,I 0,I 0,B false,B false]) :: F)∧l= [(2,Q n),(3,Q f),(12,.slice a3 a4 a5),(13,I (a.Lines.length:Int)),(14,I d.1)]∧OA aL c v25 p d.2) (fun Z ex e w=>ex= .exit 0∧(Jn U fun c l=>∃v27 b0,Own c G (es true aL v27 48 b0 Z :: (Eb f 45 [I a.Wide,I a.High,v27,I a.At.Row,I a.At.Col,B a.At.Pending,B a.Auto]) :: (Eb n 45 [I 0,I 0,Y,I 0,I 0,B false,B false]) :: F)∧l= [(2,Q n),(3,Q f)]∧OA aL c v27 b0 Z) e w) ?_ ?_ ?_)))))))))
 ·clear d1 k1;intro d c5 w0 c1 H;revert w0 c1;rintro e_ w_ ⟨e4,t6,_,rfl,t4,rfl,v25,p,e1,rfl,m1⟩;refine sr (va (B (decide (d.1 < (a.Lines.length:Int)))) (wln (W.seq (cn H (fun i4 H=>?_) (fun i4 H=>?_)))))
  ·refine W.skip (nrm (W.seq (W.block (sr (bn H fun o n1 H=>?_)))));obtain ⟨d6,j4,x4⟩:=Sl.at (h2.mono (l9.trans (p4.trans (q4.trans (r4.trans (s4.trans t4)))))) (aR n1);obtain ⟨v41,rfl,q⟩:=j4;refine vx (ix fg h2.m n1) (vx (lN 48 x4) (me (al 48 [Y,B false] e1) ?_));rintro v46 q6 u1 ⟨t0,rfl,b4⟩;obtain ⟨R,S,T,rfl⟩:=((q.mono u1)).form;refine md (sA 48 [.slice R S T,B o.Wrap] 0 b4 ⟨q.m.one,rfl,trivial⟩) ?_;rintro X u4 f1;refine wln (sr (va (Y) (wln (W.seq (sr (va (Q t0) (vx (le1 0 cI (f1.on 0 rfl)) (vx (ln 3 cI q.m) (va (I 0) (wln (W.block (bn H fun l3 p1 P=>lp p1 (fun g=>Jn X fun c l=>∃v54 d0,Own c G (es true aw v54 114 d0 g.1 :: (Eb t0 48 [.slice R S T,B o.Wrap]) :: es true aL v25 48 p d.2 :: (Eb f 45 [I a.Wide,I a.High,v25,I a.At.Row,I a.At.Col,B a.At.Pending,B a.Auto]) :: (Eb n 45 [I 0,I 0,Y,I 0,I 0,B false,B false]) :: F)∧l= [(2,Q n),(3,Q f),(6,v54),(12,.slice a3 a4 a5),(13,I (a.Lines.length:Int)),(14,I d.1),(19,.slice R S T),(20,I (o.Cells.length:Int)),(21,I g.2)]∧OA aw c v54 d0 g.1) (fun a0 ex e w=>ex= .exit 2∧(Jn X fun c l=>∃v56 a1,Own c G (es true aw v56 114 a1 a0 :: (Eb t0 48 [.slice R S T,B o.Wrap]) :: es true aL v25 48 p d.2 :: (Eb f 45 [I a.Wide,I a.High,v25,I a.At.Row,I a.At.Col,B a.At.Pending,B a.Auto]) :: (Eb n 45 [I 0,I 0,Y,I 0,I 0,B false,B false]) :: F)∧l= [(2,Q n),(3,Q f),(6,v56),(12,.slice a3 a4 a5),(13,I (a.Lines.length:Int)),(14,I d.1)]∧OA aw c v56 a1 a0) e w) ?_ ?_ ?_))))))))))))
   ·clear P p1;intro g c5 w0 c1 H;revert w0 c1;rintro e_ w_ ⟨f4,u6,_,rfl,v4,rfl,v54,d0,g1,rfl,q1⟩;refine sr (va (B (decide (g.2 < (o.Cells.length:Int)))) (wln (W.seq (cn H (fun k4 H=>?_) (fun k4 H=>?_)))))
    ·refine W.skip (nrm (W.seq (W.block (sr (bn H fun b s1 H=>?_)))));obtain ⟨e6,l4,y4⟩:=Sl.at (q.mono (u1.trans (u4.trans v4))) (aR s1);obtain ⟨z6,rfl,z0⟩:=l4;refine vx (ix cI q.m s1) (vx (lN 114 y4) (me (al 114 [I 0,Y] g1) ?_));rintro a7 r6 w4 ⟨h,rfl,c4⟩;obtain ⟨i,j,k,rfl⟩:=((z0.mono w4)).form;refine md (sA 114 [I b.Kind,.slice i j k] 0 c4 ⟨rfl,z0.m.one,trivial⟩) ?_;rintro s6 v6 d4;refine wln (rD [] (Kp G0 [(Eb h 114 [I b.Kind,.slice i j k])]) d4 ?_);intro g4 w6 h1;have w1:Kp G0 [(Eb h 114 [I b.Kind,.slice i j k])] g4:=(Kp.cons (h1.on 0 rfl) Kp.nil0);refine ta 0 (v54) (ta 1 (Q h) (tkx 2 w1 (fun c' o4 hk=>le1 0 u_3 (hk.on 0 rfl)) (ta 3 (Qo h 1) (tkx 4 w1 (fun c' o4 hk=>le1 1 cy (hk.on 0 rfl)) (bn H fun u3 m4 H=>o1 5 (gc 5 (uk h1 b.Text z0.m m4) ?_))))));rintro b7 h4 x6 ⟨_,y6,i1,rfl,t1⟩;have b5:Kp G0 [(Eb h 114 [I b.Kind,.slice i j k])] h4:=(Kp.cons (i1.on 1 rfl) Kp.nil0);refine ⟨.inr b5,?_⟩;obtain ⟨o0,q0,s0,rfl⟩:=(t1).form;refine ta 6 (.agg #[I b.Kind,.slice o0 q0 s0]) ?_;obtain ⟨l2,q2,i3,j1,n4⟩:=i1.frz 0 rfl t1;have m3:Kp G0 [(Eb h 114 [I b.Kind,.slice i j k])] l2:=(Kp.cons (j1.on 1 rfl) Kp.nil0);refine AC.gh q2 i3 (fun _=>m3) (o1 7 (gm 7 (sl aw 114 [[I b.Kind,.slice o0 q0 s0]] ([(⟨b.Kind,u3⟩:aa)]:List aa) j1 ⟨⟨(.slice o0 q0 s0),rfl,n4⟩,trivial⟩) ?_));rintro i6 m2 r5 ⟨g6,e0,s2⟩;have n3:Kp G0 [(Eb h 114 [I b.Kind,.slice i j k])] m2:=(Kp.cons (e0.on 2 rfl) Kp.nil0);refine ⟨.inr n3,?_⟩;obtain ⟨n2,u2,j3,f0,t2⟩:=e0.frz 0 rfl s2;have o3:Kp G0 [(Eb h 114 [I b.Kind,.slice i j k])] n2:=(Kp.cons (f0.on 2 rfl) Kp.nil0);refine AC.gh u2 j3 (fun _=>o3) (bn H fun l6 v2 H=>o1 8 (gm 8 (ap aw (.agg #[I 0,Y]) 32 46 3 f0 q1.m t2 v2 cI) ?_));rintro b1 u0 s5 ⟨q3,g0,w2⟩;have p3:Kp G0 [(Eb h 114 [I b.Kind,.slice i j k])] u0:=(Kp.cons (g0.on 2 rfl) Kp.nil0);refine ⟨.inr p3,ta 9 (b1) (dn (bkn (nrm (W.region (vv (I (w64 (g.2+1))) (WL.nil ?_))))))⟩;obtain rfl:=si H;refine ⟨_,rfl,?_⟩;have x1:=g0.sD 8 [3,4,5,6,7];exact jn u0 ⟨b1,q3,x1,rfl,w2⟩
    refine W.exit (thx ?_);obtain rfl:=si H;exact ⟨_,rfl,rfl,jn f4 ⟨v54,d0,g1,rfl,q1⟩⟩
   ·have x2:OA aw X (Y) [] []:=OA.nil (aZ _);have z1:=f1.addHole (e:=es true aw (Y) 114 [] ([]:List aa)) rfl;exact jn X ⟨(Y),[],z1,rfl,x2⟩
   rintro _ e_ w_ ⟨rfl,i5,p5,_,rfl,t5,rfl,v56,a1,h0,rfl,x0⟩;refine bke (nrm (W.region (va (Qo f 2) (vx (le1 2 fg (h0.on 3 rfl)) (va (v56) ?_)))));obtain ⟨s,t,u,rfl⟩:=(x0).form;refine va (.agg #[.slice s t u,B false]) ?_;obtain ⟨j5,b3,u5,b2,z2⟩:=h0.frz 0 rfl x0;refine WL.gh b3 (me (sl aL 48 [[.slice s t u,B false]] ([(⟨l3,false⟩:ah)]:List ah) b2 ⟨⟨(.slice s t u),rfl,z2⟩,trivial⟩) ?_);rintro j6 k5 v5 ⟨h6,c2,c3⟩;obtain ⟨l5,e3,w5,d2,d3⟩:=c2.frz 0 rfl c3;refine WL.gh e3 (bn P fun m6 f3 P=>me (ap aL (.agg #[Y,B false]) 32 27 3 d2 m1.m d3 f3 fg) ?_);rintro k6 m5 x5 ⟨s3,e2,M⟩;refine va (.pointer (some ⟨f,2,none⟩)) ?_;obtain ⟨x,y,z,rfl⟩:=(M).form;refine md (sC 27 2 (.slice x y z) [I a.Wide,I a.High,.slice x y z,I a.At.Row,I a.At.Col,B a.At.Pending,B a.Auto] 4 e2 ⟨(M).one,trivial⟩) ?_;rintro o2 y5 f2;refine WL.nil (bkn (nrm (W.region (vv (I (w64 (d.1+1))) (WL.nil ?_)))));obtain rfl:=si P;refine ⟨_,rfl,?_⟩;have g2:=f2.sD 6 [3,4,5];exact jn o2 ⟨(.slice x y z),s3,g2,rfl,M.m⟩
  refine W.exit (thx ?_);obtain rfl:=si H;exact ⟨_,rfl,rfl,jn e4 ⟨v25,p,e1,rfl,m1⟩⟩
 ·have g3:OA aL U (Y) [] []:=OA.nil (aZ _);have i2:=z3.addHole (e:=es true aL (Y) 48 [] ([]:List ah)) rfl;exact jn U ⟨(Y),[],i2,rfl,g3⟩
 rintro _ e_ w_ ⟨rfl,n5,q5,_,rfl,z5,rfl,v27,b0,j2,rfl,N⟩;refine bke (nrm (sr (va (Qo f 3) (va (Qo f 5) (md (sC 4 5 (B false) [I a.Wide,I a.High,v27,I a.At.Row,I a.At.Col,B false,B a.Auto] 1 j2 ⟨rfl,trivial⟩) ?_)))));rintro o5 k3 i0;refine wln (sr (vx (leN 45 0 [I a.Wide,I a.High,v27,I a.At.Row,I a.At.Col,B false,B a.Auto] (i0.on 1 rfl)) ?_));obtain ⟨A,D,E,rfl⟩:=((N.mono k3)).form;refine md (sA 45 [I a.Wide,I a.High,.slice A D E,I a.At.Row,I a.At.Col,B false,B a.Auto] 2 i0 ⟨rfl,rfl,N.m.one,rfl,rfl,rfl,rfl,trivial⟩) ?_;rintro v0 a6 j0;refine wln (W.ret ?_);obtain rfl:=si d1;have k2:=j0.sD 3 [0];exact rF (c:=v0) (vs:=[I a.Wide,I a.High,.slice A D E,I a.At.Row,I a.At.Col,B false,B a.Auto]) rfl (by kernel_rfl) (by kernel_rfl) (by kernel_rfl) (j0.on 2 rfl _ rfl).1 ⟨_,v0,rfl,rfl,pt,(.slice A D E),b0,k2,rfl,N.m⟩
def kR (p0:Int):Option (Int):=
 (dJ p0).bind fun a=>
 if (!a)=true then
 some 0
 else
 if (decide (p0 < 128))=true then
 some 1
 else
 if (decide (p0 < 2048))=true then
 some 2
 else
 if (decide (p0 < 65536))=true then
 some 3
 else
 some 4
theorem vV (h:Own c0 G F) (a:Int) {r:Int} (H:kR a=some r): Calls prog 169 #[J a] c0.w (aP c0 fun c v=>Own c G (F)∧v=I r):=by
 unfold kR at H;refine en func169 rfl rfl (sr (va (I 0) (wln (W.seq (W.block (sr (va (J a) (bn H fun e i H=>cl (ki h a i) ?_))))))));rintro v7 d l ⟨b,rfl⟩;refine vv (B (!e)) (wln (cn H (fun j H=>?_) (fun j H=>?_)))
 ·refine sr (va (I 0) (wln (W.ret (bkr (thr ?_)))));obtain rfl:=si H;exact r1 (qq d ⟨b,rfl⟩)
 refine sr (va (J a) (vv (B (decide (a < 128))) (wln (cn H (fun k H=>?_) (fun k H=>?_)))))
 ·refine sr (va (I 1) (wln (W.ret (bkr (thr ?_)))));obtain rfl:=si H;exact r1 (qq d ⟨b,rfl⟩)
 refine sr (va (J a) (vv (B (decide (a < 2048))) (wln (cn H (fun f H=>?_) (fun f H=>?_)))))
 ·refine sr (va (I 2) (wln (W.ret (bkr (thr ?_)))));obtain rfl:=si H;exact r1 (qq d ⟨b,rfl⟩)
 refine sr (va (J a) (vv (B (decide (a < 65536))) (wln (cn H (fun g H=>?_) (fun g H=>?_)))))
 ·refine sr (va (I 3) (wln (W.ret (bkr (thr ?_)))));obtain rfl:=si H;exact r1 (qq d ⟨b,rfl⟩)
 refine W.skip (bkn (nrm (sr (va (I 4) (wln (W.ret ?_))))));obtain rfl:=si H;exact r1 (qq d ⟨b,rfl⟩)
def nU (p0:Int):Option (Int):=
 if (p0==2)=true then
 some 192
 else
 if (p0==3)=true then
 some 224
 else
 if (p0==4)=true then
 some 240
 else
 some 0
theorem vU (b:Own c0 G F) (a:Int) {r:Int} (H:nU a=some r): Calls prog 170 #[I a] c0.w (aP c0 fun c v=>Own c G (F)∧v= .int .u8 r):=by
 unfold nU at H;refine en func170 rfl rfl (sr (va (.int .u8 0) (wln (W.seq (sr (va (I a) (wln (W.block (sr (vv (B (a==2)) (wln (cn H (fun d H=>?_) (fun d H=>?_)))))))))))))
 ·refine sr (va (.int .u8 192) (wln (W.ret (bkr (thr ?_)))));obtain rfl:=si H;exact r1 (qq c0 ⟨b,rfl⟩)
 refine sr (vv (B (a==3)) (wln (cn H (fun e H=>?_) (fun e H=>?_))))
 ·refine sr (va (.int .u8 224) (wln (W.ret (bkr (thr ?_)))));obtain rfl:=si H;exact r1 (qq c0 ⟨b,rfl⟩)
 refine sr (vv (B (a==4)) (wln (cn H (fun f H=>?_) (fun f H=>?_))))
 ·refine sr (va (.int .u8 240) (wln (W.ret (bkr (thr ?_)))));obtain rfl:=si H;exact r1 (qq c0 ⟨b,rfl⟩)
 refine W.skip (bkn (nrm (sr (va (.int .u8 0) (wln (W.ret ?_))))));obtain rfl:=si H;exact r1 (qq c0 ⟨b,rfl⟩)
def kS (p0:Int):Option (List Int):=
 (kR p0).bind fun b=>
 if (b==0)=true then
 some ([]:List Int)
 else
 (rep b 0).bind fun f=>
 (cv (σ:=Int×(List Int)×Int) (τ:=(Int×(List Int))) (((w64 (b - 1)) - 0).toNat+1) (fun a=>
 if (decide (a.2.2 > 0))=true then
 (idx a.2.1 a.2.2).bind fun h=>
 (nT a.2.1 a.2.2 (iW .u8 128 (IntKind.u8.wrap (fw .i32 a.1 63)))).bind fun d=>
 some (.inl ((a.1.fdiv (2 ^ 6)),d,(w64 (a.2.2 - 1))))
 else
 some (.inr (a.1,a.2.1))) (p0,f,(w64 (b - 1)))).bind fun c=>
 (nU b).bind fun g=>
 (idx c.2 0).bind fun i=>
 (nT c.2 0 (iW .u8 g (IntKind.u8.wrap c.1))).bind fun e=>
 some e
theorem vW (O0:Own c0 G F) (q:Int) {r:List Int} (H:kS q=some r): Calls prog 111 #[J q] c0.w (aP c0 fun c v=>∃D y2,Own c G (es true (RI .u8) D 5 y2 r :: F)∧v=D∧OA (RI .u8) c D y2 r):=by
 unfold kS at H;refine en func111 rfl rfl (sr (va (Y) (wln (sr (va (J q) (bn H fun b h1 H=>cl (vV O0 q h1) ?_))))));rintro v7 c6 l6 ⟨M,rfl⟩;refine va (I b) (wln (W.seq (sr (va (I b) (va (B (b==0)) (wln (cn H (fun h8 H=>?_) (fun h8 H=>?_))))))))
 ·refine sr (va (Y) (wln (W.ret (thr ?_))));obtain rfl:=si H;have e0:OA (RI .u8) c6 (Y) [] []:=OA.nil (aZ _);have O9:=M.addHole (e:=es true (RI .u8) (Y) 5 [] ([]:List Int)) rfl;exact r1 (qq c6 ⟨(Y),[],O9,rfl,e0⟩)
 refine W.skip (nrm (sr (va (I b) (bn H fun e1 t H=>me (Own.mkS (kl:= .i64) (kc:= .i64) (R:=(RI .u8)) (z:= .int .u8 0) (lz:=[.int .u8 0]) (x:=0) (by_:=1) (i:=b) (j:=b) true M (aZ _) t (A9 _) (zB t) tg (by kernel_rfl) rfl rfl (fun _=>rfl) (by kernel_rfl) (by kernel_rfl)) ?_))));rintro v16 n n1 ⟨q0,E,f0⟩;refine va (v16) (wln (W.seq (sr (va (I b) (vv (I (w64 (b - 1))) (wln (W.block (bn H fun d y f=>lp y (fun a=>Jn n fun c l=>∃v19 k,Own c G (es true (RI .u8) v19 5 k a.2.1 :: F)∧l= [(0,J a.1),(3,I b),(4,v19),(5,I a.2.2)]∧OA (RI .u8) c v19 k a.2.1) (fun g ex e w=>ex= .exit 0∧(Jn n fun c l=>∃v21 p,Own c G (es true (RI .u8) v21 5 p g.2 :: F)∧l= [(0,J g.1),(3,I b),(4,v21)]∧OA (RI .u8) c v21 p g.2) e w) ?_ ?_ ?_))))))))
 ·clear f y;intro a v1 d0 u0 H;revert d0 u0;rintro e_ w_ ⟨X,k1,_,rfl,p1,rfl,v19,k,s,rfl,o⟩;refine W.seq (sr (va (I a.2.2) (va (B (decide (a.2.2 > 0))) (wln (cn H (fun g0 H=>?_) (fun g0 H=>?_))))))
  ·refine W.skip (nrm (W.seq (W.block (sr (va (v19) (va (I a.2.2) (va (J a.1) (va (J (fw .i32 a.1 63)) (va (.int .u8 (IntKind.u8.wrap (fw .i32 a.1 63))) (va (.int .u8 (iW .u8 128 (IntKind.u8.wrap (fw .i32 a.1 63)))) (bn H fun f1 h0 H=>vx (ixO tg o h0) (bn H fun c1 i0 H=>md (Own.stW (R:=(RI .u8)) (T:=5) (us:=[.int .u8 (iW .u8 128 (IntKind.u8.wrap (fw .i32 a.1 63)))]) (x':=(iW .u8 128 (IntKind.u8.wrap (fw .i32 a.1 63)))) (u:= .int .u8 (iW .u8 128 (IntKind.u8.wrap (fw .i32 a.1 63)))) 0 s (by kernel_rfl) rfl o i0 rfl (by kernel_rfl) ⟨rfl,trivial⟩ rfl rfl) ?_))))))))))));rintro Z q1 ⟨s0,N,j0⟩;refine wln (W.region (va (J a.1) (vv (J (a.1.fdiv (2 ^ 6))) (WL.nil (bkn (nrm (W.region (va (I a.2.2) (vv (I (w64 (a.2.2 - 1))) (WL.nil ?_))))))))));obtain rfl:=si H;exact ⟨_,rfl,jn Z ⟨v19,s0,N,rfl,j0⟩⟩
  refine W.exit (thx ?_);obtain rfl:=si H;exact ⟨_,rfl,rfl,jn X ⟨v19,k,s,rfl,o⟩⟩
 ·exact jn n ⟨v16,q0,E,rfl,f0⟩
 rintro _ e_ w_ ⟨rfl,i1,m1,_,rfl,s1,rfl,v21,p,P,rfl,A⟩;refine bke (nrm (sr (va (v21) (va (I b) (bn f fun h k0 f=>cl (vU P b k0) ?_)))));rintro v50 j1 t1 ⟨S,rfl⟩;refine va (J d.1) (va (.int .u8 (IntKind.u8.wrap d.1)) (va (.int .u8 (iW .u8 h (IntKind.u8.wrap d.1))) (bn f fun g1 l0 f=>vx (ixO tg A.m l0) (bn f fun d1 m0 f=>md (Own.stW (R:=(RI .u8)) (T:=5) (us:=[.int .u8 (iW .u8 h (IntKind.u8.wrap d.1))]) (x':=(iW .u8 h (IntKind.u8.wrap d.1))) (u:= .int .u8 (iW .u8 h (IntKind.u8.wrap d.1))) 0 S (by kernel_rfl) rfl A.m m0 rfl (by kernel_rfl) ⟨rfl,trivial⟩ rfl rfl) ?_))));rintro a0 u1 ⟨t0,U,o0⟩;refine wln (sr (vv (v21) (wln (W.ret ?_))));obtain rfl:=si f;exact r1 (qq a0 ⟨v21,t0,U,rfl,o0⟩)
def lJ (p0:List Int):Option ((List Int)×Er):=
 (cv (σ:=(List Int)×Int) (τ:=((List Int)×Er) ⊕ (List Int)) (((p0.length:Int) - 0).toNat+1) (fun a=>
 if (decide (a.2 < (p0.length:Int)))=true then
 (idx p0 a.2).bind fun c=>
 (dJ c).bind fun d=>
 if (!d)=true then
 (iM a.2 (Er.sent 0)).bind fun e=>
 some (.inr (.inl (([]:List Int),e)))
 else
 (kS c).bind fun f=>
 (app a.1 f).bind fun g=>
 some (.inl (g,(w64 (a.2+1))))
 else
 some (.inr (.inr (a.1)))) (([]:List Int),0)).bind fun b=>
 match b with
 | .inl b=>
 some b
 | .inr b=>
 some (b,Er.nil)
theorem xy (O0:Own c0 G F) (hG:Gl [0] c0) (i:List Int) {r:(List Int)×Er} (A:Sl (RI .i32) c0 v1 i) (H:lJ i=some r): Calls prog 71 #[v1] c0.w (aP c0 fun c v=>∃M y2 y3,Own c G (es true (RI .u8) M 5 y2 r.1 :: F)∧v= .tuple #[M,y3]∧OA (RI .u8) c M y2 r.1∧RE 350 144 c y3 r.2):=by
 unfold lJ at H;refine en func71 rfl rfl (sr (va (Y) (va (.nilIface) (wln (sr (va (Y) (wln (W.seq (sr (va (v1) (vx (ln 3 cy A) (va (I 0) (wln (W.block (bn H fun d h3 z=>lp h3 (fun a=>Jn c0 fun c l=>∃v5 j,Own c G (es true (RI .u8) v5 5 j a.1 :: F)∧l= [(4,v5),(7,v1),(8,I (i.length:Int)),(9,I a.2)]∧OA (RI .u8) c v5 j a.1) (fun t=>match t with | .inl D=>(fun h ex e w=>ex= .ret∧(Jn c0 fun c l=>∃v9 g v11,Own c G (es true (RI .u8) v9 5 g h.1 :: F)∧l= [(2,v9),(3,v11)]∧OA (RI .u8) c v9 g h.1∧RE 350 144 c v11 h.2) e w) D | .inr D=>(fun f ex e w=>ex= .exit 0∧(Jn c0 fun c l=>∃v7 k,Own c G (es true (RI .u8) v7 5 k f :: F)∧l= [(4,v7)]∧OA (RI .u8) c v7 k f) e w) D) ?_ ?_ ?_)))))))))))))))
 ·clear z h3;intro a l2 i0 j1 H;revert i0 j1;rintro e_ w_ ⟨d0,z1,_,rfl,x,rfl,v5,j,n,rfl,q⟩;refine sr (va (B (decide (a.2 < (i.length:Int)))) (wln (W.seq (cn H (fun k0 H=>?_) (fun k0 H=>?_)))))
  ·refine W.skip (nrm (W.seq (W.block (sr (va (I a.2) (bn H fun b s H=>?_))))));obtain ⟨p1,l0,g1⟩:=Sl.at (A.mono x) (aR s);obtain rfl:=l0;refine vx (ix cy A.m s) (vx (l1 mh (g1 0 _ rfl)) (va (I a.2) (va (J b) (wln (W.seq (sr (va (J b) (bn H fun E m0 H=>cl (ki n b m0) ?_))))))));rintro v30 u1 f1 ⟨o,rfl⟩;refine va (B (!E)) (wln (cn H (fun q0 H=>?_) (fun q0 H=>?_)))
   ·refine sr (va (I a.2) ?_);obtain ⟨v32,u⟩:=(hG.mono (x.trans f1)).get 0 (by decide);refine vx (l1 rS u.im) (bn H fun q1 s0 H=>cl (mU o a.2 (Er.sent 0) u s0) ?_);rintro v35 p d2 ⟨_,N,rfl,t0⟩;refine va (Y) (va (v35) (wln (W.ret (thr (bkr (thr ?_))))));obtain rfl:=si H;refine ⟨_,rfl,⟨rfl,?_⟩⟩;have u0:OA (RI .u8) p (Y) [] []:=OA.nil (aZ _);have P:=N.addHole (e:=es true (RI .u8) (Y) 5 [] ([]:List Int)) rfl;have R:=P.sD 2 [0];exact jn p ⟨(Y),[],v35,R,rfl,u0,t0⟩
   refine W.skip (nrm (W.region (va (v5) (va (J b) (bn H fun s1 v0 H=>cl (vW o b v0) ?_)))));rintro v47 w1 e2 ⟨_,k2,S,rfl,w0⟩;obtain ⟨x1,y0,f2,T,x0⟩:=S.frz 0 rfl w0;refine WL.gh y0 (bn H fun t1 z0 H=>me (ap (RI .u8) (.int .u8 0) 1 33 1 T q.m x0 z0 tg) ?_);rintro y e0 g2 ⟨h1,U,a1⟩;refine va (y) (WL.nil (bkn (nrm (W.region (vv (I (w64 (a.2+1))) (WL.nil ?_))))));obtain rfl:=si H;refine ⟨_,rfl,?_⟩;have X:=U.sD 2 [1];exact jn e0 ⟨y,h1,X,rfl,a1⟩
  refine W.exit (thx ?_);obtain rfl:=si H;exact ⟨_,rfl,rfl,jn d0 ⟨v5,j,n,rfl,q⟩⟩
 ·have b1:OA (RI .u8) c0 (Y) [] []:=OA.nil (aZ _);have Z:=O0.addHole (e:=es true (RI .u8) (Y) 5 [] ([]:List Int)) rfl;exact jn c0 ⟨(Y),[],Z,rfl,b1⟩
 rcases d with d | d
 ·intro j0; revert j0;rintro _ e_ w_ ⟨rfl,f0,b2,_,rfl,i2,rfl,v9,g,v11,a0,rfl,c1,d1⟩;refine bkr (thr ?_);obtain rfl:=si z;exact r2 (qq f0 ⟨v9,g,v11,a0,rfl,c1,d1⟩)
 rintro _ e_ w_ ⟨rfl,g0,c2,_,rfl,j2,rfl,v7,k,b0,rfl,e1⟩;refine bke (nrm (sr (vv (v7) (va (.nilIface) (wln (W.ret ?_))))));obtain rfl:=si z;exact r2 (qq g0 ⟨v7,k,.nilIface,b0,rfl,e1,rfl⟩)
def kT (p0:Int) (p1:List aa):Option (List aM):=
 (cv (σ:=(List aM)×Int) (τ:=(List aM)) (((p1.length:Int) - 0).toNat+1) (fun a=>
 if (decide (a.2 < (p1.length:Int)))=true then
 ((idx p1 a.2).bind fun b=>
 if ((b.Text.length:Int)==0)=true then
 some (a.1)
 else
 (lJ b.Text).bind fun c=>
 (app a.1 ([(⟨2,p0,a.2,([]:List Int)⟩:aM),(⟨0,0,0,c.1⟩:aM)]:List aM)).bind fun d=>
 some (d)).bind fun e=>
 some (.inl (e,(w64 (a.2+1))))
 else
 some (.inr (a.1))) (([]:List aM),0)).bind fun f=>
 some f
theorem vX (O0:Own c0 G F) (hG:Gl [0] c0) (d:Int) (q:List aa) {r:List aM} (E:Sl aw c0 v1 q) (H:kT d q=some r): Calls prog 93 #[I d,v1] c0.w (aP c0 fun c v=>∃N y2,Own c G (es true bJ N 38 y2 r :: F)∧v=N∧OA bJ c N y2 r):=by
 unfold kT at H;refine en func93 rfl rfl (sr (va (Y) (wln (sr (va (Y) (wln (W.seq (sr (va (v1) (vx (ln 3 cI E) (va (I 0) (wln (W.block (bn H fun t2 h3 R=>lp h3 (fun a=>Jn c0 fun c l=>∃v5 s,Own c G (es true bJ v5 38 s a.1 :: F)∧l= [(0,I d),(5,v5),(10,v1),(11,I (q.length:Int)),(12,I a.2)]∧OA bJ c v5 s a.1) (fun p ex e w=>ex= .exit 0∧(Jn c0 fun c l=>∃v7 u,Own c G (es true bJ v7 38 u p :: F)∧l= [(5,v7)]∧OA bJ c v7 u p) e w) ?_ ?_ ?_))))))))))))))
 ·clear R h3;intro a x2 t0 q1 H;revert t0 q1;rintro e_ w_ ⟨c9,f2,_,rfl,l9,rfl,v5,s,x,rfl,o⟩;refine sr (va (B (decide (a.2 < (q.length:Int)))) (wln (W.seq (cn H (fun u0 H=>?_) (fun u0 H=>?_)))))
  ·refine W.skip (nrm (bn H fun t b P=>W.seqJ (Jn c9 fun c l=>∃v19 i,Own c G (es true bJ v19 38 i t :: F)∧l= [(0,I d),(5,v19),(10,v1),(11,I (q.length:Int)),(12,I a.2)]∧OA bJ c v19 i t) ?_ ?_))
   ·refine W.block (sr (va (I a.2) (bn b fun f z b=>?_)));obtain ⟨w1,v0,k1⟩:=Sl.at (E.mono l9) (aR z);obtain ⟨v25,rfl,h⟩:=v0;refine vx (ix cI E.m z) (vx (lN 114 k1) (me (al 114 [I 0,Y] x) ?_));rintro v30 z1 j1 ⟨y,rfl,S⟩;refine va (I a.2) ?_;obtain ⟨h0,i0,j0,rfl⟩:=((h.mono j1)).form;refine md (sA 114 [I f.Kind,.slice h0 i0 j0] 0 S ⟨rfl,h.m.one,trivial⟩) ?_;rintro k0 k2 g;refine wln (W.seq (sr (va (Qo y 1) (vx (le1 1 cy (g.on 0 rfl)) (vx (ln 3 cy h.m) (va (B ((f.Text.length:Int)==0)) (wln (cn b (fun x0 b=>?_) (fun x0 b=>?_)))))))))
    ·refine W.exit (thx (bke (nrm ?_)));obtain rfl:=si b;have T:=g.sD 2 [1];exact jn k0 ⟨v5,s,T,rfl,o.m⟩
    refine W.skip (nrm (sr (va (Qo y 1) (vx (le1 1 cy (g.on 0 rfl)) (bn b fun M y0 b=>cl (xy g (hG.m.le (by decide)) f.Text h.m y0) ?_)))));rintro v49 b2 l2 ⟨v39,u2,v42,U,rfl,A,j2⟩;refine va (.tuple #[v39,v42]) (va (v39) (va (v42) (va (v39) (va (v42) (wln (W.region (va (v5) (va (I d) (va (I a.2) (va (.agg #[I 2,I d,I a.2,Y]) (va (v39) ?_)))))))))));obtain ⟨j,k,n,rfl⟩:=(A).form;refine va (.agg #[I 0,I 0,I 0,.slice j k n]) ?_;obtain ⟨c2,a1,m2,X,z0⟩:=U.frz 0 rfl A;refine WL.gh a1 (me (sl bJ 38 [[I 2,I d,I a.2,Y],[I 0,I 0,I 0,.slice j k n]] ([(⟨2,d,a.2,([]:List Int)⟩:aM),(⟨0,0,0,M.1⟩:aM)]:List aM) X ⟨⟨(Y),rfl,(Sl.nl _ _)⟩,⟨(.slice j k n),rfl,z0⟩,trivial⟩) ?_);rintro w2 d2 n2 ⟨v2,Z,b1⟩;obtain ⟨e2,d1,o2,a0,c1⟩:=Z.frz 0 rfl b1;refine WL.gh d1 (bn b fun x1 e1 b=>me (ap bJ (.agg #[I 0,I 0,I 0,Y]) 48 22 3 a0 o.m c1 e1 nK) ?_);rintro D l0 p2 ⟨m1,b0,f1⟩;refine va (D) (WL.nil (bkn (nrm ?_)));obtain rfl:=si b;have d0:=b0.sD 4 [3];exact jn l0 ⟨D,m1,d0,rfl,f1⟩
   rintro e_ w_ ⟨m0,g2,_,rfl,q2,rfl,v19,i,e0,rfl,g1⟩;refine W.region (vv (I (w64 (a.2+1))) (WL.nil ?_));obtain rfl:=si P;exact ⟨_,rfl,jn m0 ⟨v19,i,e0,rfl,g1⟩⟩
  refine W.exit (thx ?_);obtain rfl:=si H;exact ⟨_,rfl,rfl,jn c9 ⟨v5,s,x,rfl,o⟩⟩
 ·have h1:OA bJ c0 (Y) [] []:=OA.nil (aZ _);have f0:=O0.addHole (e:=es true bJ (Y) 38 [] ([]:List aM)) rfl;exact jn c0 ⟨(Y),[],f0,rfl,h1⟩
 rintro _ e_ w_ ⟨rfl,o0,i2,_,rfl,s2,rfl,v7,u,g0,rfl,i1⟩;refine bke (nrm (sr (vv (v7) (wln (W.ret ?_)))));obtain rfl:=si R;exact r1 (qq o0 ⟨v7,u,g0,rfl,i1⟩)
def fJ (p0:aE):Option ((List aM)×Bool):=
 (kz p0).bind fun i=>
 if (!i)=true then
 some (([]:List aM),false)
 else
 (cv (σ:=(List aM)×Int) (τ:=(List aM)) (((p0.Lines.length:Int) - 0).toNat+1) (fun a=>
 if (decide (a.2 < (p0.Lines.length:Int)))=true then
 (idx p0.Lines a.2).bind fun c=>
 (kT a.2 c.Cells).bind fun d=>
 (app a.1 d).bind fun e=>
 some (.inl (e,(w64 (a.2+1))))
 else
 some (.inr (a.1))) (([(⟨12,0,0,([]:List Int)⟩:aM)]:List aM),0)).bind fun b=>
 (if p0.Auto=true then
 (app b ([(⟨12,1,0,([]:List Int)⟩:aM)]:List aM)).bind fun f=>
 some (f)
 else
 some (b)).bind fun h=>
 (app h ([(⟨2,p0.At.Row,p0.At.Col,([]:List Int)⟩:aM)]:List aM)).bind fun g=>
 some (g,true)
theorem nf (O0:Own c0 G F) (hG:Gl [0,1,2,3,4,7] c0) (a:aE) {r:(List aM)×Bool} (o:Sl aL c0 v1 a.Lines) (H:fJ a=some r): Calls prog 50 #[.agg #[I a.Wide,I a.High,v1,I a.At.Row,I a.At.Col,B a.At.Pending,B a.Auto]] c0.w (aP c0 fun c v=>∃y1 y2,Own c G (es true bJ y1 38 y2 r.1 :: F)∧v= .tuple #[y1,B r.2]∧OA bJ c y1 y2 r.1):=by
 unfold fJ at H;refine en func50 rfl rfl (sr ?_);obtain ⟨a3,a4,a5,rfl⟩:=(o).form;refine me (bx 45 [I a.Wide,I a.High,.slice a3 a4 a5,I a.At.Row,I a.At.Col,B a.At.Pending,B a.Auto] O0) ?_;rintro v10 c9 l9 ⟨f,rfl,O7,q⟩;refine va (Y) (va (B false) (wln (W.seq (sr (vx (lN 45 q) (bn H fun x2 s1 H=>cl (sM O7 (hG.m.le (by decide)) a o.m s1) ?_))))));rintro v17 N l16 ⟨A,rfl⟩;refine va (B (!x2)) (wln (cn H (fun t1 H=>?_) (fun t1 H=>?_)))
 ·refine sr (va (Y) (va (B false) (wln (W.ret (thr ?_)))));obtain rfl:=si H;have u1:OA bJ N (Y) [] []:=OA.nil (aZ _);have u0:=A.addHole (e:=es true bJ (Y) 38 [] ([]:List aM)) rfl;exact r2 (qq N ⟨(Y),[],u0,rfl,u1⟩)
 refine W.skip (nrm (sr (va (.agg #[I 12,I 0,I 0,Y]) (me (sl bJ 38 [[I 12,I 0,I 0,Y]] ([(⟨12,0,0,([]:List Int)⟩:aM)]:List aM) A ⟨⟨(Y),rfl,(Sl.nl _ _)⟩,trivial⟩) ?_))));rintro v25 n n2 ⟨s2,v0,w1⟩;refine va (v25) (wln (W.seq (sr (va (Qo f (0+2)) (vx (l1 fg ((mm q) 2 _ rfl)) (vx (ln 3 fg o.m) (va (I 0) (wln (W.block (bn H fun o3 R z=>lp R (fun b=>Jn n fun c l=>∃v28 i,Own c G (es true bJ v28 38 i b.1 :: F)∧l= [(1,Q f),(4,v28),(13,.slice a3 a4 a5),(14,I (a.Lines.length:Int)),(15,I b.2)]∧OA bJ c v28 i b.1) (fun h ex e w=>ex= .exit 0∧(Jn n fun c l=>∃v30 j,Own c G (es true bJ v30 38 j h :: F)∧l= [(1,Q f),(4,v30)]∧OA bJ c v30 j h) e w) ?_ ?_ ?_))))))))))
 ·clear z R;intro b p4 q1 w2 H;revert q1 w2;rintro e_ w_ ⟨m1,d4,_,rfl,o2,rfl,v28,i,D,rfl,S⟩;refine sr (va (B (decide (b.2 < (a.Lines.length:Int)))) (wln (W.seq (cn H (fun x1 H=>?_) (fun x1 H=>?_)))))
  ·refine W.skip (nrm (W.seq (W.block (sr (va (I b.2) (bn H fun x T H=>?_))))));obtain ⟨n3,z1,q2⟩:=Sl.at (o.mono (l9.trans (l16.trans (n2.trans o2)))) (aR T);obtain ⟨v44,rfl,p⟩:=z1;refine vx (ix fg o.m T) (vx (lN 48 q2) (me (al 48 [Y,B false] D) ?_));rintro v49 w3 p2 ⟨k1,rfl,w0⟩;refine va (I b.2) ?_;obtain ⟨h1,i1,j1,rfl⟩:=((p.mono p2)).form;refine md (sA 48 [.slice h1 i1 j1,B x.Wrap] 0 w0 ⟨p.m.one,rfl,trivial⟩) ?_;rintro x3 f4 E;refine wln (W.region (va (v28) (va (I b.2) (va (Q k1) (vx (le1 0 cI (E.on 0 rfl)) (bn H fun s3 b2 H=>cl (vX E (hG.m.le (by decide)) b.2 x.Cells p.m b2) ?_))))));rintro v56 y3 g4 ⟨_,m4,x0,rfl,c2⟩;obtain ⟨z3,e2,h4,y0,d2⟩:=x0.frz 0 rfl c2;refine WL.gh e2 (bn H fun t3 f2 H=>me (ap bJ (.agg #[I 0,I 0,I 0,Y]) 48 22 2 y0 S.m d2 f2 nK) ?_);rintro X n1 i4 ⟨t2,z0,g2⟩;refine va (X) (WL.nil (bkn (nrm (W.region (vv (I (w64 (b.2+1))) (WL.nil ?_))))));obtain rfl:=si H;refine ⟨_,rfl,?_⟩;have a1:=z0.sD 3 [2];exact jn n1 ⟨X,t2,a1,rfl,g2⟩
  refine W.exit (thx ?_);obtain rfl:=si H;exact ⟨_,rfl,rfl,jn m1 ⟨v28,i,D,rfl,S⟩⟩
 ·exact jn n ⟨v25,s2,v0,rfl,w1⟩
 rintro _ e_ w_ ⟨rfl,P,e4,_,rfl,j4,rfl,v30,j,M,rfl,U⟩;refine bke (nrm (bn z fun y d k=>W.seqJ (Jn P fun c l=>∃g s,Own c G (es true bJ g 38 s y :: F)∧l= [(1,Q f),(4,g)]∧OA bJ c g s y) ?_ ?_))
 ·refine sr (va (Qo f (0+6)) (vx (l1 u_4 ((mm q) 6 _ rfl)) (wln (cn d (fun i2 d=>?_) (fun i2 d=>?_)))))
  ·refine W.region (va (v30) (va (.agg #[I 12,I 1,I 0,Y]) (me (sl bJ 38 [[I 12,I 1,I 0,Y]] ([(⟨12,1,0,([]:List Int)⟩:aM)]:List aM) M ⟨⟨(Y),rfl,(Sl.nl _ _)⟩,trivial⟩) ?_)));rintro o4 b4 k4 ⟨n4,b1,j2⟩;obtain ⟨c4,l2,l4,c1,k2⟩:=b1.frz 0 rfl j2;refine WL.gh l2 (bn d fun u3 m2 d=>me (ap bJ (.agg #[I 0,I 0,I 0,Y]) 48 22 1 c1 U.m k2 m2 nK) ?_);rintro t g0 h3 ⟨u2,d1,i0⟩;refine va (t) (wln ?_);obtain rfl:=si d;have Z:=d1.sD 2 [1];exact jn g0 ⟨t,u2,Z,rfl,i0⟩
  refine W.skip (nrm ?_);obtain rfl:=si d;exact jn P ⟨v30,j,M,rfl,U⟩
 rintro e_ w_ ⟨d3,g3,_,rfl,i3,rfl,g,s,a0,rfl,j0⟩;refine sr (va (g) (vv (Qo f (0+3)) (vx (l1 u_3 ((mm q) 3 _ rfl)) (va (Qo f (0+3)) (va (Qo f (0+4)) (vx (l1 u_3 ((mm q) 4 _ rfl)) (va (.agg #[I 2,I a.At.Row,I a.At.Col,Y]) (me (sl bJ 38 [[I 2,I a.At.Row,I a.At.Col,Y]] ([(⟨2,a.At.Row,a.At.Col,([]:List Int)⟩:aM)]:List aM) a0 ⟨⟨(Y),rfl,(Sl.nl _ _)⟩,trivial⟩) ?_))))))));rintro q3 e3 j3 ⟨p3,b0,k0⟩;obtain ⟨f3,m0,k3,d0,l0⟩:=b0.frz 0 rfl k0;refine WL.gh m0 (bn k fun v3 o0 k=>me (ap bJ (.agg #[I 0,I 0,I 0,Y]) 48 22 1 d0 j0.m l0 o0 nK) ?_);rintro u h0 l3 ⟨s0,e0,q0⟩;refine va (u) (va (B true) (wln (W.ret ?_)));obtain rfl:=si k;have f0:=e0.sD 2 [1];exact r2 (qq h0 ⟨u,s0,f0,rfl,q0⟩)
def dB:Option (Bool):=
 (fJ (⟨2,1,([(⟨([(⟨0,([]:List Int)⟩:aa),(⟨1,([97]:List Int)⟩:aa)]:List aa),false⟩:ah)]:List ah),(⟨0,0,false⟩:ai),false⟩:aE)).bind fun a=>
 (bD a.2 (some ((a.1.length:Int)==4))).bind fun b=>
 (bD b ((idx a.1 1).bind fun e=>
 some (e.B==1))).bind fun c=>
 (bD c ((idx a.1 2).bind fun f=>
 some (eqS (qY f.Bytes) (⟨#[97]⟩:ByteArray)))).bind fun d=>
 some d
theorem iy (O0:Own c0 G F) (hG:Gl [0,1,2,3,4,7] c0) {r:Bool} (H:dB=some r): Calls prog 47 #[] c0.w (aP c0 fun c v=>Own c G (F)∧v=B r):=by
 unfold dB at H;refine en func47 rfl rfl (sr (va (B false) (wln (sr (va (.agg #[I 0,Y]) (me (sl (RI .i32) 21 [[J 97]] ([97]:List Int) O0 ⟨rfl,trivial⟩) ?_))))));rintro v5 c4 l4 ⟨u2,O1,h3⟩;obtain ⟨M,N,P,rfl⟩:=(h3).form;refine va (.agg #[I 1,.slice M N P]) ?_;obtain ⟨s1,o0,c2,O9,m0⟩:=O1.frz 0 rfl h3;refine WL.gh o0 (me (sl aw 114 [[I 0,Y],[I 1,.slice M N P]] ([(⟨0,([]:List Int)⟩:aa),(⟨1,([97]:List Int)⟩:aa)]:List aa) O9 ⟨⟨(Y),rfl,(Sl.nl _ _)⟩,⟨(.slice M N P),rfl,m0⟩,trivial⟩) ?_);rintro v17 t1 l16 ⟨d1,d0,S⟩;obtain ⟨q,s,t,rfl⟩:=(S).form;refine va (.agg #[.slice q s t,B false]) ?_;obtain ⟨u1,q0,d2,e0,p0⟩:=d0.frz 0 rfl S;refine WL.gh q0 (me (sl aL 48 [[.slice q s t,B false]] ([(⟨([(⟨0,([]:List Int)⟩:aa),(⟨1,([97]:List Int)⟩:aa)]:List aa),false⟩:ah)]:List ah) e0 ⟨⟨(.slice q s t),rfl,p0⟩,trivial⟩) ?_);rintro v29 v1 e2 ⟨e1,f0,z⟩;obtain ⟨g,h,i,rfl⟩:=(z).form;refine va (.agg #[I 2,I 1,.slice g h i,I 0,I 0,B false,B false]) (me (al 45 [I 0,I 0,Y,I 0,I 0,B false,B false] f0) ?_);rintro v36 w1 z0 ⟨k0,rfl,g0⟩;refine md (sA 45 [I 2,I 1,.slice g h i,I 0,I 0,B false,B false] 0 g0 ⟨rfl,rfl,z.m.one,rfl,rfl,rfl,rfl,trivial⟩) ?_;rintro x1 a1 R;refine wln (sr (vx (leN 45 0 [I 2,I 1,.slice g h i,I 0,I 0,B false,B false] (R.on 0 rfl)) ?_));obtain ⟨y1,u0,f2,h0,t0⟩:=R.frz 1 rfl (z.mono (z0.trans a1));refine WL.gh u0 (bn H fun a v0 H=>cl (nf h0 (hG.m.le (by decide)) (⟨2,1,([(⟨([(⟨0,([]:List Int)⟩:aa),(⟨1,([97]:List Int)⟩:aa)]:List aa),false⟩:ah)]:List ah),(⟨0,0,false⟩:ai),false⟩:aE) t0 v0) ?_);rintro v52 k g2 ⟨v44,f1,d,rfl,b⟩;refine va (.tuple #[v44,B a.2]) (va (v44) (va (B a.2) (va (v44) (va (B a.2) (wln (W.seq (bn H fun k1 T H=>bn H fun m1 A H=>bn H fun a0 u H=>W.join (Jn k fun c l=>Own c G (es true bJ v44 38 f1 a.1 :: (Eb k0 45 [I 2,I 1,.slice g h i,I 0,I 0,B false,B false]) :: es false aL (.slice g h i) 48 e1 ([(⟨([(⟨0,([]:List Int)⟩:aa),(⟨1,([97]:List Int)⟩:aa)]:List aa),false⟩:ah)]:List ah) :: es false aw (.slice q s t) 114 d1 ([(⟨0,([]:List Int)⟩:aa),(⟨1,([97]:List Int)⟩:aa)]:List aa) :: es false (RI .i32) (.slice M N P) 21 u2 ([97]:List Int) :: F)∧l= [(0,B a0)]) ?_ ?_)))))))
 ·clear H;refine W.region (va (B a.2) ?_);rcases bo (a.2) with n | n
  ·have b0:=anT n T;refine vb n (wa (v44) (wn (vx (lnO 3 nK b) (wa (B ((a.1.length:Int)==4)) ?_))));obtain rfl:=si b0;refine va (B ((a.1.length:Int)==4)) ?_;rcases bo ((a.1.length:Int)==4) with o | o
   ·have x:=anT o A;refine vb o (wa (v44) (wn (bn x fun e D x=>vx (ixO nK b D) (wa (Qo (sb v44) ((1:Int).toNat * 4+2)) (wn ?_)))));obtain ⟨n1,w0,b1⟩:=OA.at b D;obtain ⟨i2,rfl,b2⟩:=w0;refine vr (I e.B) (rx (by kernel_rfl) (mE u_3 rfl (d.on 0 rfl) (b.blk D) (at1 (j:=2) b1 rfl))) (wa (B (e.B==1)) ?_);obtain rfl:=si x;refine va (B (e.B==1)) ?_;rcases bo (e.B==1) with p | p
    ·have y:=anT p u;refine vb p (wa (v44) (wn (bn y fun f E y=>vx (ixO nK b E) (wa (Qo (sb v44) ((2:Int).toNat * 4+3)) (wn ?_)))));obtain ⟨p1,x0,c1⟩:=OA.at b E;obtain ⟨g1,rfl,y0⟩:=x0;refine vr g1 (rx (by kernel_rfl) (mE tg rfl (d.on 0 rfl) (b.blk E) (at1 (j:=3) c1 rfl))) (wn (vr (.string (qY f.Bytes)) (rx (by kernel_rfl) (uL tg u_5 u_9 y0)) (wn (vr (B (eqS (qY f.Bytes) (⟨#[97]⟩:ByteArray))) (Es (by kernel_rfl)) ?_))));obtain rfl:=si y;exact vv (B (eqS (qY f.Bytes) (⟨#[97]⟩:ByteArray))) (wln (jn k ⟨d,rfl⟩))
    obtain rfl:=anF p u;exact vb p (pz (pz (pz (vv (B false) (wln (jn k ⟨d,rfl⟩))))))
   obtain rfl:=anF o A;refine vb o (pz (pz (ps (va (B false) ?_))));have U:false=false:=rfl;obtain rfl:=anF U u;exact vb U (pz (pz (pz (vv (B false) (wln (jn k ⟨d,rfl⟩))))))
  obtain rfl:=anF n T;refine vb n (pz (ps (va (B false) ?_)));have X:false=false:=rfl;obtain rfl:=anF X A;refine vb X (pz (pz (ps (va (B false) ?_))));have Z:false=false:=rfl;obtain rfl:=anF Z u;exact vb Z (pz (pz (pz (vv (B false) (wln (jn k ⟨d,rfl⟩))))))
 rintro e_ w_ ⟨l0,z1,_,rfl,h2,rfl,i0,rfl⟩;refine nrm (W.ret ?_);obtain rfl:=si H;have j0:=i0.sD 5 [];exact r1 (qq l0 ⟨j0,rfl⟩)
def em (p0:aE):Option (Bool):=
 (cv (σ:=Int×Int) (τ:=Int) (((p0.Lines.length:Int) - 0).toNat+1) (fun a=>
 (bD (decide (a.2 < (p0.Lines.length:Int))) (some (decide (a.1 < 400)))).bind fun b=>
 if b=true then
 (idx p0.Lines a.2).bind fun d=>
 some (.inl ((w64 (a.1+(d.Cells.length:Int))),(w64 (a.2+1))))
 else
 some (.inr (a.1))) (0,0)).bind fun e=>
 (orE (decide (e≥400)) (some (decide ((p0.Lines.length:Int) > 100)))).bind fun c=>
 some c
theorem mn (O0:Own c0 G F) (b:aE) {r:Bool} (k:Sl aL c0 v1 b.Lines) (H:em b=some r): Calls prog 48 #[.agg #[I b.Wide,I b.High,v1,I b.At.Row,I b.At.Col,B b.At.Pending,B b.Auto]] c0.w (aP c0 fun c v=>Own c G (F)∧v=B r):=by
 unfold em at H;refine en func48 rfl rfl (sr ?_);obtain ⟨A,D,E,rfl⟩:=(k).form;refine me (bx 45 [I b.Wide,I b.High,.slice A D E,I b.At.Row,I b.At.Col,B b.At.Pending,B b.Auto] O0) ?_;rintro v10 M l9 ⟨h,rfl,O7,S⟩;refine va (B false) (wln (sr (va (I 0) (wln (W.seq (sr (va (I 0) (wln (W.block (bn H fun n u d=>lp u (fun a=>Jn M fun c l=>Own c G (F)∧l= [(1,Q h),(3,I a.1),(4,I a.2)]) (fun T ex e w=>ex= .exit 0∧(Jn M fun c l=>Own c G (F)∧l= [(1,Q h),(3,I T)]) e w) ?_ ?_ ?_))))))))))
 ·clear d u;intro a y0 d0 k0 H;revert d0 k0;rintro R U ⟨i,s0,_,rfl,h0,rfl,p,rfl⟩;refine W.seq (W.seq (bn H fun N x H=>W.join (Jn i fun c l=>Own c G (F)∧l= [(1,Q h),(3,I a.1),(4,I a.2),(13,B N)]) ?_ ?_))
  ·clear H;refine W.region (va (I a.2) (va (Qo h (0+2)) (vx (l1 fg ((mm S) 2 _ rfl)) (vx (ln 3 fg k.m) (va (B (decide (a.2 < (b.Lines.length:Int)))) ?_)))));rcases bo (decide (a.2 < (b.Lines.length:Int))) with f | f
   ·have X:=anT f x;refine vb f (wa (I a.1) (wa (B (decide (a.1 < 400))) ?_));obtain rfl:=si X;exact va (B (decide (a.1 < 400))) (wln (jn i ⟨p,rfl⟩))
   obtain rfl:=anF f x;exact vb f (pz (va (B false) (wln (jn i ⟨p,rfl⟩))))
  rintro R U ⟨t,t0,_,rfl,i0,rfl,q,rfl⟩;refine nrm (cn H (fun e0 H=>?_) (fun e0 H=>?_))
  ·refine W.skip (nrm (W.seq (W.block (W.region (va (I a.1) (va (Qo h (0+2)) (vx (l1 fg ((mm S) 2 _ rfl)) (va (I a.2) (bn H fun o y H=>?_)))))))));obtain ⟨q0,f0,j0⟩:=Sl.at (k.mono (l9.trans (h0.trans i0))) (aR y);obtain ⟨v33,rfl,g0⟩:=f0;refine vx (ix fg k.m y) (va (Qo (sb (.slice A D E)) (so (.slice A D E)+a.2.toNat * 2)) (vx (l1 cI (j0 0 _ rfl)) (vx (ln 3 cI g0) (vv (I (w64 (a.1+(o.Cells.length:Int)))) (WL.nil (bkn (nrm (W.region (va (I a.2) (vv (I (w64 (a.2+1))) (WL.nil ?_)))))))))));obtain rfl:=si H;exact ⟨_,rfl,jn t ⟨q,rfl⟩⟩
  refine W.exit (thx ?_);obtain rfl:=si H;exact ⟨_,rfl,rfl,jn t ⟨q,rfl⟩⟩
 ·exact jn M ⟨O7,rfl⟩
 rintro _ R U ⟨rfl,j,u0,_,rfl,w0,rfl,s,rfl⟩;refine bke (nrm (W.seq (bn d fun P z d=>W.join (Jn j fun c l=>Own c G (F)∧l= [(2,B P)]) ?_ ?_)))
 ·clear d;refine W.region (va (I n) (va (B (decide (n≥400))) ?_));rcases bo (decide (n≥400)) with g | g
  ·obtain rfl:=orT g z;exact vb g (pz (pz (vv (B true) (wln (jn j ⟨s,rfl⟩)))))
  have Z:=orF g z;refine vb g (wa (Qo h (0+2)) (wn (vx (l1 fg ((mm S) 2 _ rfl)) (wn (vx (ln 3 fg k.m) (wa (B (decide ((b.Lines.length:Int) > 100))) ?_))))));obtain rfl:=si Z;exact vv (B (decide ((b.Lines.length:Int) > 100))) (wln (jn j ⟨s,rfl⟩))
 rintro R U ⟨b0,v0,_,rfl,x0,rfl,a0,rfl⟩;refine nrm (W.ret ?_);obtain rfl:=si d;exact r1 (qq b0 ⟨a0,rfl⟩)
def fk (p0:ai) (p1:Int) (p2:Int):Option (Bool):=
 (bD (decide (p0.Row≥0)) ((bf p2).bind fun e=>
 some (decide (p0.Row < e)))).bind fun h=>
 (bD h (some (decide (p0.Col≥0)))).bind fun a=>
 (bD a ((bf p1).bind fun f=>
 some (decide (p0.Col < f)))).bind fun b=>
 (bD b ((orE (!p0.Pending) ((bf p1).bind fun g=>
 some (p0.Col==(w64 (g - 1))))).bind fun d=>
 some d)).bind fun c=>
 some c
theorem pG (O0:Own c0 G F) (b:ai) (q:Int) (M:Int) {r:Bool} (H:fk b q M=some r): Calls prog 146 #[.agg #[I b.Row,I b.Col,B b.Pending],I q,I M] c0.w (aP c0 fun c v=>Own c G (F)∧v=B r):=by
 unfold fk at H;refine en func146 rfl rfl (sr (me (bx 29 [I b.Row,I b.Col,B b.Pending] O0) ?_));rintro v5 c4 l4 ⟨o,rfl,O2,p⟩;refine va (B false) (wln (W.seq (bn H fun z0 h6 H=>bn H fun w0 h7 H=>bn H fun x0 E H=>bn H fun d0 D H=>W.join (Jn c4 fun c l=>Own c G (F)∧l= [(6,B d0)]) ?_ ?_)))
 ·clear H;refine rD [] (Kp G0 []) O2 ?_;intro P c1 N;have h1:Kp G0 [] P:=Kp.nil0;refine ta 0 (Q o) (tx 1 (fun d a=>l1 u_3 ((mm p) 0 _ rfl)) (ta 2 (B (decide (b.Row≥0))) ?_));rcases bo (decide (b.Row≥0)) with f | f
  ·have s:=anT f h6;refine bn s fun k j0 s=>AC.takeb 3 f rfl (by kernel_rfl) (by kernel_rfl) (fun d a=>(by kernel_rfl)) (ta 4 (Q o) (tx 5 (fun d a=>l1 u_3 ((mm p) 0 _ rfl)) (ta 6 (I M) (o1 7 (gc 7 (kj N M j0) ?_)))));rintro v21 z d1 ⟨x,rfl⟩;have o0:Kp G0 [] z:=Kp.nil0;refine ⟨.inr o0,ta 8 (B (decide (b.Row < k))) ?_⟩;obtain rfl:=si s;refine ta 9 (B (decide (b.Row < k))) ?_;rcases bo (decide (b.Row < k)) with g | g
   ·have f0:=anT g h7;refine AC.takeb 10 g rfl (by kernel_rfl) (by kernel_rfl) (fun d a=>(by kernel_rfl)) (ta 11 (Qo o (0+1)) (tx 12 (fun d a=>l1 u_3 ((mm p) 1 _ rfl)) (ta 13 (B (decide (b.Col≥0))) ?_)));obtain rfl:=si f0;refine ta 14 (B (decide (b.Col≥0))) ?_;rcases bo (decide (b.Col≥0)) with h | h
    ·have t:=anT h E;refine bn t fun m k0 t=>AC.takeb 15 h rfl (by kernel_rfl) (by kernel_rfl) (fun d a=>(by kernel_rfl)) (ta 16 (Qo o (0+1)) (tx 17 (fun d a=>l1 u_3 ((mm p) 1 _ rfl)) (ta 18 (I q) (o1 19 (gc 19 (kj x q k0) ?_)))));rintro v33 A e1 ⟨y,rfl⟩;have q0:Kp G0 [] A:=Kp.nil0;refine ⟨.inr q0,ta 20 (B (decide (b.Col < m))) ?_⟩;obtain rfl:=si t;refine ta 21 (B (decide (b.Col < m))) ?_;rcases bo (decide (b.Col < m)) with i | i
     ·have n:=anT i D;refine bn n fun y0 S n=>AC.takeb 22 i rfl (by kernel_rfl) (by kernel_rfl) (fun d a=>(by kernel_rfl)) (ta 23 (Qo o (0+2)) (tx 24 (fun d a=>l1 u_4 ((mm p) 2 _ rfl)) (ta 25 (B (!b.Pending)) ?_)));rcases bo (!b.Pending) with j | j
      ·obtain rfl:=orT j S;refine AC.takeb 26 j rfl (by kernel_rfl) (by kernel_rfl) (fun d a=>(by kernel_rfl)) (tp 27 (tp 28 (tp 29 (tp 30 (tp 31 (tp 32 (ta 33 (B true) ?_)))))));obtain rfl:=si n;exact ta 34 (B true) (ta 35 (B true) (dn (nrm (jn A ⟨y,rfl⟩))))
      have u:=orF j S;refine bn u fun e l0 u=>AC.takeb 26 j rfl (by kernel_rfl) (by kernel_rfl) (fun d a=>(by kernel_rfl)) (ta 27 (Qo o (0+1)) (tx 28 (fun d a=>l1 u_3 ((mm p) 1 _ rfl)) (ta 29 (I q) (o1 30 (gc 30 (kj y q l0) ?_)))));rintro v46 R f1 ⟨g0,rfl⟩;have s0:Kp G0 [] R:=Kp.nil0;refine ⟨.inr s0,ta 31 (I (w64 (e - 1))) (ta 32 (B (b.Col==(w64 (e - 1)))) ?_)⟩;obtain rfl:=si u;refine ta 33 (B (b.Col==(w64 (e - 1)))) ?_;obtain rfl:=si n;exact ta 34 (B (b.Col==(w64 (e - 1)))) (ta 35 (B (b.Col==(w64 (e - 1)))) (dn (nrm (jn R ⟨g0,rfl⟩))))
     obtain rfl:=anF i D;exact AC.takeb 22 i rfl (by kernel_rfl) (by kernel_rfl) (fun d a=>(by kernel_rfl)) (tp 23 (tp 24 (tp 25 (tp 26 (tp 27 (tp 28 (tp 29 (tp 30 (tp 31 (tp 32 (tp 33 (ta 34 (B false) (ta 35 (B false) (dn (nrm (jn A ⟨y,rfl⟩))))))))))))))))
    obtain rfl:=anF h E;refine AC.takeb 15 h rfl (by kernel_rfl) (by kernel_rfl) (fun d a=>(by kernel_rfl)) (tp 16 (tp 17 (tp 18 (tp 19 (tp 20 (ta 21 (B false) ?_))))));have T:false=false:=rfl;obtain rfl:=anF T D;exact AC.takeb 22 T rfl (by kernel_rfl) (by kernel_rfl) (fun d a=>(by kernel_rfl)) (tp 23 (tp 24 (tp 25 (tp 26 (tp 27 (tp 28 (tp 29 (tp 30 (tp 31 (tp 32 (tp 33 (ta 34 (B false) (ta 35 (B false) (dn (nrm (jn z ⟨x,rfl⟩))))))))))))))))
   obtain rfl:=anF g h7;refine AC.takeb 10 g rfl (by kernel_rfl) (by kernel_rfl) (fun d a=>(by kernel_rfl)) (tp 11 (tp 12 (tp 13 (ta 14 (B false) ?_))));have U:false=false:=rfl;obtain rfl:=anF U E;refine AC.takeb 15 U rfl (by kernel_rfl) (by kernel_rfl) (fun d a=>(by kernel_rfl)) (tp 16 (tp 17 (tp 18 (tp 19 (tp 20 (ta 21 (B false) ?_))))));have X:false=false:=rfl;obtain rfl:=anF X D;exact AC.takeb 22 X rfl (by kernel_rfl) (by kernel_rfl) (fun d a=>(by kernel_rfl)) (tp 23 (tp 24 (tp 25 (tp 26 (tp 27 (tp 28 (tp 29 (tp 30 (tp 31 (tp 32 (tp 33 (ta 34 (B false) (ta 35 (B false) (dn (nrm (jn z ⟨x,rfl⟩))))))))))))))))
  obtain rfl:=anF f h6;refine AC.takeb 3 f rfl (by kernel_rfl) (by kernel_rfl) (fun d a=>(by kernel_rfl)) (tp 4 (tp 5 (tp 6 (tp 7 (tp 8 (ta 9 (B false) ?_))))));have Z:false=false:=rfl;obtain rfl:=anF Z h7;refine AC.takeb 10 Z rfl (by kernel_rfl) (by kernel_rfl) (fun d a=>(by kernel_rfl)) (tp 11 (tp 12 (tp 13 (ta 14 (B false) ?_))));have a0:false=false:=rfl;obtain rfl:=anF a0 E;refine AC.takeb 15 a0 rfl (by kernel_rfl) (by kernel_rfl) (fun d a=>(by kernel_rfl)) (tp 16 (tp 17 (tp 18 (tp 19 (tp 20 (ta 21 (B false) ?_))))));have b0:false=false:=rfl;obtain rfl:=anF b0 D;exact AC.takeb 22 b0 rfl (by kernel_rfl) (by kernel_rfl) (fun d a=>(by kernel_rfl)) (tp 23 (tp 24 (tp 25 (tp 26 (tp 27 (tp 28 (tp 29 (tp 30 (tp 31 (tp 32 (tp 33 (ta 34 (B false) (ta 35 (B false) (dn (nrm (jn P ⟨N,rfl⟩))))))))))))))))
 rintro e_ w_ ⟨i0,a1,_,rfl,g1,rfl,h0,rfl⟩;refine nrm (W.ret ?_);obtain rfl:=si H;exact r1 (qq i0 ⟨h0,rfl⟩)
def fj (p0:aE):Option (Bool):=
 (orE (p0.High != (p0.Lines.length:Int)) (some (decide (p0.High < 1)))).bind fun c=>
 (orE c (some (decide (p0.High > 1024)))).bind fun d=>
 (orE d (some (decide (p0.Wide < 1)))).bind fun e=>
 (orE e (some (decide (p0.Wide > 1024)))).bind fun f=>
 (orE f ((fk p0.At p0.Wide p0.High).bind fun i=>
 some (!i))).bind fun g=>
 if g=true then
 some false
 else
 (cv (σ:=Int) (τ:=Bool ⊕ Unit) (((p0.Lines.length:Int) - 0).toNat+1) (fun b=>
 if (decide (b < (p0.Lines.length:Int)))=true then
 (idx p0.Lines b).bind fun j=>
 (orE ((j.Cells.length:Int) != p0.Wide) ((idx p0.Lines b).bind fun k=>
 (fm k.Cells).bind fun l=>
 some (!l))).bind fun h=>
 if h=true then
 some (.inr (.inl false))
 else
 some (.inl ((w64 (b+1))))
 else
 some (.inr (.inr ()))) (0)).bind fun a=>
 match a with
 | .inl a=>
 some a
 | .inr a=>
 some true
theorem pF (O0:Own c0 G F) (a:aE) {r:Bool} (z:Sl aL c0 v1 a.Lines) (H:fj a=some r): Calls prog 91 #[.agg #[I a.Wide,I a.High,v1,I a.At.Row,I a.At.Col,B a.At.Pending,B a.Auto]] c0.w (aP c0 fun c v=>Own c G (F)∧v=B r):=by
 unfold fj at H;refine en func91 rfl rfl (sr ?_);obtain ⟨R,S,T,rfl⟩:=(z).form;refine me (bx 45 [I a.Wide,I a.High,.slice R S T,I a.At.Row,I a.At.Col,B a.At.Pending,B a.Auto] O0) ?_;rintro v10 M l9 ⟨d,rfl,E,g⟩;refine va (B false) (wln (W.seq (W.seq (bn H fun w2 m0 H=>bn H fun x2 U H=>bn H fun y2 D H=>bn H fun z2 o H=>bn H fun i1 h H=>W.join (Jn M fun c l=>Own c G (F)∧l= [(1,Q d),(39,B i1)]) ?_ ?_))))
 ·clear H;refine W.region (va (Qo d (0+1)) (vx (l1 u_3 (g 1 _ rfl)) (va (Qo d (0+2)) (vx (l1 fg (g 2 _ rfl)) (vx (ln 3 fg z.m) (va (B (a.High != (a.Lines.length:Int))) ?_))))));rcases bo (a.High != (a.Lines.length:Int)) with p | p
  ·obtain rfl:=orT p m0;refine vb p (pz (ps (va (B true) ?_)));have o0:true=true:=rfl;obtain rfl:=orT o0 U;refine vb o0 (pz (ps (va (B true) ?_)));have q0:true=true:=rfl;obtain rfl:=orT q0 D;refine vb q0 (pz (ps (va (B true) ?_)));have s0:true=true:=rfl;obtain rfl:=orT s0 o;refine vb s0 (pz (ps (va (B true) ?_)));have t0:true=true:=rfl;obtain rfl:=orT t0 h;exact vb t0 (pz (pz (pz (pz (va (B true) (wln (jn M ⟨E,rfl⟩)))))))
  have n1:=orF p m0;refine vb p (wa (Qo d (0+1)) (wn (vx (l1 u_3 (g 1 _ rfl)) (wa (B (decide (a.High < 1))) ?_))));obtain rfl:=si n1;refine va (B (decide (a.High < 1))) ?_;rcases bo (decide (a.High < 1)) with q | q
  ·obtain rfl:=orT q U;refine vb q (pz (ps (va (B true) ?_)));have u0:true=true:=rfl;obtain rfl:=orT u0 D;refine vb u0 (pz (ps (va (B true) ?_)));have v0:true=true:=rfl;obtain rfl:=orT v0 o;refine vb v0 (pz (ps (va (B true) ?_)));have w0:true=true:=rfl;obtain rfl:=orT w0 h;exact vb w0 (pz (pz (pz (pz (va (B true) (wln (jn M ⟨E,rfl⟩)))))))
  have p1:=orF q U;refine vb q (wa (Qo d (0+1)) (wn (vx (l1 u_3 (g 1 _ rfl)) (wa (B (decide (a.High > 1024))) ?_))));obtain rfl:=si p1;refine va (B (decide (a.High > 1024))) ?_;rcases bo (decide (a.High > 1024)) with s | s
  ·obtain rfl:=orT s D;refine vb s (pz (ps (va (B true) ?_)));have x0:true=true:=rfl;obtain rfl:=orT x0 o;refine vb x0 (pz (ps (va (B true) ?_)));have y0:true=true:=rfl;obtain rfl:=orT y0 h;exact vb y0 (pz (pz (pz (pz (va (B true) (wln (jn M ⟨E,rfl⟩)))))))
  have q1:=orF s D;refine vb s (wa (Q d) (wn (vx (l1 u_3 (g 0 _ rfl)) (wa (B (decide (a.Wide < 1))) ?_))));obtain rfl:=si q1;refine va (B (decide (a.Wide < 1))) ?_;rcases bo (decide (a.Wide < 1)) with u | u
  ·obtain rfl:=orT u o;refine vb u (pz (ps (va (B true) ?_)));have z0:true=true:=rfl;obtain rfl:=orT z0 h;exact vb z0 (pz (pz (pz (pz (va (B true) (wln (jn M ⟨E,rfl⟩)))))))
  have s1:=orF u o;refine vb u (wa (Q d) (wn (vx (l1 u_3 (g 0 _ rfl)) (wa (B (decide (a.Wide > 1024))) ?_))));obtain rfl:=si s1;refine va (B (decide (a.Wide > 1024))) ?_;rcases bo (decide (a.Wide > 1024)) with x | x
  ·obtain rfl:=orT x h;exact vb x (pz (pz (pz (pz (va (B true) (wln (jn M ⟨E,rfl⟩)))))))
  have N:=orF x h;refine vb x (wa (Qo d (0+3)) (wn (vx (lN 29 (AH (k:=3) (l:=[I a.At.Row,I a.At.Col,B a.At.Pending]) g rfl)) (wa (Q d) (wn (vx (l1 u_3 (g 0 _ rfl)) (wa (Qo d (0+1)) (wn (vx (l1 u_3 (g 1 _ rfl)) (wn (bn N fun X d2 N=>cl (pG E a.At a.Wide a.High d2) ?_)))))))))));rintro v42 x1 i3 ⟨t1,rfl⟩;refine wa (B (!X)) ?_;obtain rfl:=si N;exact va (B (!X)) (wln (jn x1 ⟨t1,rfl⟩))
 rintro e_ w_ ⟨n,d3,_,rfl,e1,rfl,e0,rfl⟩;refine nrm (cn H (fun e2 H=>?_) (fun e2 H=>?_))
 ·refine sr (va (B false) (wln (W.ret (thr ?_))));obtain rfl:=si H;exact r1 (qq n ⟨e0,rfl⟩)
 refine W.skip (nrm (W.seq (sr (va (I 0) (wln (W.block (bn H fun A a1 P=>lp a1 (fun b=>Jn n fun c l=>Own c G (F)∧l= [(1,Q d),(3,I b)]) (fun t=>match t with | .inl x_=>(fun s2 ex e w=>ex= .ret∧(Jn n fun c l=>Own c G (F)∧l= [(2,B s2)]) e w) x_ | .inr x_=>(fun u2 ex e w=>ex= .exit 0∧(Jn n fun c l=>Own c G (F)∧l= []) e w) x_) ?_ ?_ ?_)))))))
 ·clear P a1;intro b s3 b2 t2 H;revert b2 t2;rintro e_ w_ ⟨i0,e3,_,rfl,f1,rfl,f0,rfl⟩;refine W.seq (sr (va (I b) (va (Qo d (0+2)) (vx (l1 fg ((mm g) 2 _ rfl)) (vx (ln 3 fg z.m) (va (B (decide (b < (a.Lines.length:Int)))) (wln (cn H (fun f2 H=>?_) (fun f2 H=>?_)))))))))
  ·refine W.skip (nrm (W.seq (W.block (W.seq (bn H fun Z b1 H=>bn H fun j1 c1 H=>W.join (Jn i0 fun c l=>Own c G (F)∧l= [(1,Q d),(3,I b),(66,B j1)]) ?_ ?_)))))
   ·clear H;refine rD [] (Kp G0 []) f0 ?_;intro j0 g1 g0;have n3:Kp G0 [] j0:=Kp.nil0;refine ta 0 (.pointer (some ⟨d,0+2,none⟩)) (tx 1 (fun i f=>l1 fg ((mm g) 2 _ rfl)) (ta 2 (I b) ?_));obtain ⟨b3,g2,o2⟩:=Sl.at (z.mono (l9.trans (e1.trans (f1.trans g1)))) (aR b1);obtain ⟨o3,rfl,i2⟩:=g2;refine tx 3 (fun i f=>ix fg z.m b1) (ta 4 (Qo (sb (.slice R S T)) (so (.slice R S T)+b.toNat * 2)) (tx 5 (fun i f=>l1 cI ((mm o2) 0 _ rfl)) (tx 6 (fun i f=>ln 3 cI i2) (ta 7 (Q d) (tx 8 (fun i f=>l1 u_3 ((mm g) 0 _ rfl)) (ta 9 (B ((Z.Cells.length:Int) != a.Wide)) ?_))))));rcases bo ((Z.Cells.length:Int) != a.Wide) with y | y
    ·obtain rfl:=orT y c1;exact AC.takeb 10 y rfl (by kernel_rfl) (by kernel_rfl) (fun i f=>(by kernel_rfl)) (tp 11 (tp 12 (tp 13 (tp 14 (tp 15 (tp 16 (tp 17 (tp 18 (ta 19 (B true) (dn (nrm (jn j0 ⟨g0,rfl⟩))))))))))))
    have j:=orF y c1;refine bn j fun m1 d1 j=>bn j fun a0 j2 j=>AC.takeb 10 y rfl (by kernel_rfl) (by kernel_rfl) (fun i f=>(by kernel_rfl)) (ta 11 (Qo d (0+2)) (tx 12 (fun i f=>l1 fg ((mm g) 2 _ rfl)) (ta 13 (I b) ?_)));obtain ⟨c3,k2,p2⟩:=Sl.at (z.mono (l9.trans (e1.trans (f1.trans g1)))) (aR d1);obtain ⟨p3,rfl,l2⟩:=k2;refine tx 14 (fun i f=>ix fg z.m d1) (ta 15 (Qo (sb (.slice R S T)) (so (.slice R S T)+b.toNat * 2)) (tx 16 (fun i f=>l1 cI ((mm p2) 0 _ rfl)) (o1 17 (gc 17 (pH g0 m1.Cells l2 j2) ?_))));rintro q3 k0 j3 ⟨u1,rfl⟩;have q2:Kp G0 [] k0:=Kp.nil0;refine ⟨.inr q2,ta 18 (B (!a0)) ?_⟩;obtain rfl:=si j;exact ta 19 (B (!a0)) (dn (nrm (jn k0 ⟨u1,rfl⟩)))
   rintro e_ w_ ⟨l0,f3,_,rfl,k3,rfl,h0,rfl⟩;refine nrm (cn H (fun m2 H=>?_) (fun m2 H=>?_))
   ·refine sr (va (B false) (wln (W.ret (bkr (thr ?_)))));obtain rfl:=si H;exact ⟨_,rfl,⟨rfl,jn l0 ⟨h0,rfl⟩⟩⟩
   refine W.skip (bkn (nrm (W.region (va (I b) (vv (I (w64 (b+1))) (WL.nil ?_))))));obtain rfl:=si H;exact ⟨_,rfl,jn l0 ⟨h0,rfl⟩⟩
  refine W.exit (thx ?_);obtain rfl:=si H;exact ⟨_,rfl,rfl,jn i0 ⟨f0,rfl⟩⟩
 ·exact jn n ⟨e0,rfl⟩
 rcases A with A | A
 ·intro c2; revert c2;rintro _ e_ w_ ⟨rfl,y1,g3,_,rfl,l3,rfl,w1,rfl⟩;refine bkr (thr ?_);obtain rfl:=si P;exact r1 (qq y1 ⟨w1,rfl⟩)
 rintro _ e_ w_ ⟨rfl,z1,h3,_,rfl,m3,rfl,h1,rfl⟩;refine bke (nrm (sr (va (B true) (wln (W.ret ?_)))));obtain rfl:=si P;exact r1 (qq z1 ⟨h1,rfl⟩)
def ei (p0:aa):Option (Bool):=
 (orE (p0.Kind==0) (some (p0.Kind==3))).bind fun l=>
 (orE l ((bD (p0.Kind==1) (some ((p0.Text.length:Int)==1))).bind fun d=>
 (bD d ((idx p0.Text 0).bind fun g=>
 some (g==65533))).bind fun e=>
 some e)).bind fun c=>
 if c=true then
 some true
 else
 (cv (σ:=Int) (τ:=Bool ⊕ Unit) (((p0.Text.length:Int) - 0).toNat+1) (fun b=>
 if (decide (b < (p0.Text.length:Int)))=true then
 (idx p0.Text b).bind fun h=>
 (dS h).bind fun i=>
 if i=true then
 some (.inr (.inl false))
 else
 some (.inl ((w64 (b+1))))
 else
 some (.inr (.inr ()))) (0)).bind fun a=>
 match a with
 | .inl a=>
 some a
 | .inr a=>
 (ep p0.Text).bind fun j=>
 (bD ((j.length:Int)==1) ((gN p0.Text).bind fun k=>
 some (k==p0.Kind))).bind fun f=>
 some f
theorem pE (O0:Own c0 G F) (a:aa) {r:Bool} (i:Sl (RI .i32) c0 v1 a.Text) (H:ei a=some r): Calls prog 92 #[.agg #[I a.Kind,v1]] c0.w (aP c0 fun c v=>Own c G (F)∧v=B r):=by
 unfold ei at H;refine en func92 rfl rfl (sr ?_);obtain ⟨a3,a4,a5,rfl⟩:=(i).form;refine me (bx 114 [I a.Kind,.slice a3 a4 a5] O0) ?_;rintro v10 A l9 ⟨f,rfl,M,h⟩;refine va (B false) (wln (W.seq (W.seq (bn H fun y2 h0 H=>bn H fun w0 P H=>W.join (Jn A fun c l=>Own c G (F)∧l= [(1,Q f),(29,B w0)]) ?_ ?_))))
 ·clear H;refine W.region (va (Q f) (vx (l1 u_3 (h 0 _ rfl)) (va (B (a.Kind==0)) ?_)));rcases bo (a.Kind==0) with n | n
  ·obtain rfl:=orT n h0;refine vb n (pz (ps (va (B true) ?_)));have i0:true=true:=rfl;obtain rfl:=orT i0 P;exact vb i0 (pz (pz (pz (pz (pz (pz (pz (pz (va (B true) (wln (jn A ⟨M,rfl⟩)))))))))))
  have b1:=orF n h0;refine vb n (wa (Q f) (wn (vx (l1 u_3 (h 0 _ rfl)) (wa (B (a.Kind==3)) ?_))));obtain rfl:=si b1;refine va (B (a.Kind==3)) ?_;rcases bo (a.Kind==3) with o | o
  ·obtain rfl:=orT o P;exact vb o (pz (pz (pz (pz (pz (pz (pz (pz (va (B true) (wln (jn A ⟨M,rfl⟩)))))))))))
  have d:=orF o P;refine vb o (wa (Q f) (wn (vx (l1 u_3 (h 0 _ rfl)) (wa (B (a.Kind==1)) (wn (bn d fun t2 j0 d=>?_))))));rcases bo (a.Kind==1) with p | p
  ·have c1:=anT p j0;refine vb p (wa (Qo f (0+1)) (wn (vx (l1 cy (h 1 _ rfl)) (wn (vx (ln 3 cy i.m) (wa (B ((a.Text.length:Int)==1)) (wn ?_)))))));obtain rfl:=si c1;refine va (B ((a.Text.length:Int)==1)) (wn (bn d fun x0 k0 d=>?_));rcases bo ((a.Text.length:Int)==1) with q | q
   ·have D:=anT q k0;refine vb q (wa (Qo f (0+1)) (wn (vx (l1 cy (h 1 _ rfl)) (wn (bn D fun y l0 D=>?_)))));obtain ⟨v2,s1,g2⟩:=Sl.at (i.mono l9) (aR l0);obtain rfl:=s1;refine vx (ix cy i.m l0) (wn (vx (l1 mh (g2 0 _ rfl)) (wa (B (y==65533)) (wn ?_))));obtain rfl:=si D;refine va (B (y==65533)) ?_;obtain rfl:=si d;exact va (B (y==65533)) (wln (jn A ⟨M,rfl⟩))
   obtain rfl:=anF q k0;refine vb q (pz (pz (ps (wa (B false) ?_))));obtain rfl:=si d;exact va (B false) (wln (jn A ⟨M,rfl⟩))
  obtain rfl:=anF p j0;refine vb p (pz (pz (wa (B false) (wn (bn d fun x0 t1 d=>?_)))));have m0:false=false:=rfl;obtain rfl:=anF m0 t1;refine vb m0 (pz (pz (ps (wa (B false) ?_))));obtain rfl:=si d;exact va (B false) (wln (jn A ⟨M,rfl⟩))
 rintro U X ⟨k,z2,_,rfl,d2,rfl,Z,rfl⟩;refine nrm (cn H (fun u1 H=>?_) (fun u1 H=>?_))
 ·refine sr (va (B true) (wln (W.ret (thr ?_))));obtain rfl:=si H;exact r1 (qq k ⟨Z,rfl⟩)
 refine W.skip (nrm (W.seq (sr (va (I 0) (wln (W.block (bn H fun x o0 g=>lp o0 (fun b=>Jn k fun c l=>Own c G (F)∧l= [(1,Q f),(3,I b)]) (fun t=>match t with | .inl x_=>(fun l2 ex e w=>ex= .ret∧(Jn k fun c l=>Own c G (F)∧l= [(2,B l2)]) e w) x_ | .inr x_=>(fun n2 ex e w=>ex= .exit 0∧(Jn k fun c l=>Own c G (F)∧l= [(1,Q f)]) e w) x_) ?_ ?_ ?_)))))))
 ·clear g o0;intro b o3 p1 m2 H;revert p1 m2;rintro U X ⟨i1,b3,_,rfl,e2,rfl,a0,rfl⟩;refine W.seq (sr (va (I b) (va (Qo f (0+1)) (vx (l1 cy ((mm h) 1 _ rfl)) (vx (ln 3 cy i.m) (va (B (decide (b < (a.Text.length:Int)))) (wln (cn H (fun w1 H=>?_) (fun w1 H=>?_)))))))))
  ·refine W.skip (nrm (W.seq (W.block (sr (va (Qo f (0+1)) (vx (l1 cy ((mm h) 1 _ rfl)) (va (I b) (bn H fun a1 q0 H=>?_))))))));obtain ⟨w2,x1,i2⟩:=Sl.at (i.mono (l9.trans (d2.trans e2))) (aR q0);obtain rfl:=x1;refine vx (ix cy i.m q0) (vx (l1 mh (i2 0 _ rfl)) (bn H fun x2 y1 H=>cl (po a0 a1 y1) ?_));rintro v56 e0 f3 ⟨b0,rfl⟩;refine wln (cn H (fun z1 H=>?_) (fun z1 H=>?_))
   ·refine sr (va (B false) (wln (W.ret (bkr (thr ?_)))));obtain rfl:=si H;exact ⟨_,rfl,⟨rfl,jn e0 ⟨b0,rfl⟩⟩⟩
   refine W.skip (bkn (nrm (W.region (va (I b) (vv (I (w64 (b+1))) (WL.nil ?_))))));obtain rfl:=si H;exact ⟨_,rfl,jn e0 ⟨b0,rfl⟩⟩
  refine W.exit (thx ?_);obtain rfl:=si H;exact ⟨_,rfl,rfl,jn i1 ⟨a0,rfl⟩⟩
 ·exact jn k ⟨Z,rfl⟩
 rcases x with x | x
 ·intro q1; revert q1;rintro _ U X ⟨rfl,j1,c3,_,rfl,g3,rfl,d1,rfl⟩;refine bkr (thr ?_);obtain rfl:=si g;exact r1 (qq j1 ⟨d1,rfl⟩)
 rintro _ U X ⟨rfl,k1,d3,_,rfl,h3,rfl,e1,rfl⟩;refine bke (nrm (W.seq (bn g fun j b2 g=>bn g fun y0 s0 g=>W.join (Jn k1 fun c l=>∃T S,Own c G (es true (RL (RI .i32)) T 32 S j :: F)∧l= [(2,B y0)]∧OA (RL (RI .i32)) c T S j) ?_ ?_)))
 ·clear g;refine rD [] (Kp G0 []) e1 ?_;intro m1 i3 f1;have m3:Kp G0 [] m1:=Kp.nil0;refine ta 0 (.pointer (some ⟨f,0+1,none⟩)) (tx 1 (fun N u=>l1 cy ((mm h) 1 _ rfl)) (o1 2 (gc 2 (oe f1 a.Text i.m b2) ?_)));rintro u0 f0 j3 ⟨_,t0,d0,rfl,R⟩;have j2:Kp G0 [] f0:=Kp.nil0;refine ⟨.inr j2,tx 3 (fun N u=>lnO 3 underlying25 R) (ta 4 (B ((j.length:Int)==1)) ?_)⟩;rcases bo ((j.length:Int)==1) with s | s
  ·have E:=anT s s0;refine bn E fun z c2 E=>AC.takeb 5 s rfl (by kernel_rfl) (by kernel_rfl) (fun N u=>(by kernel_rfl)) (ta 6 (Qo f (0+1)) (tx 7 (fun N u=>l1 cy ((mm h) 1 _ rfl)) (ta 9 (Q f) (tx 10 (fun N u=>l1 u_3 ((mm h) 0 _ rfl)) (o1 8 (gc 8 (rH d0 a.Text i.m c2) ?_))))));rintro n3 g0 k3 ⟨g1,rfl⟩;have k2:Kp G0 [] g0:=Kp.nil0;refine ⟨.inr k2,ta 11 (B (z==a.Kind)) ?_⟩;obtain rfl:=si E;exact ta 12 (B (z==a.Kind)) (ta 13 (B (z==a.Kind)) (dn (nrm (jn g0 ⟨u0,t0,g1,rfl,R.m⟩))))
  obtain rfl:=anF s s0;exact AC.takeb 5 s rfl (by kernel_rfl) (by kernel_rfl) (fun N u=>(by kernel_rfl)) (tp 6 (tp 7 (tp 9 (tp 10 (tp 8 (tp 11 (ta 12 (B false) (ta 13 (B false) (dn (nrm (jn f0 ⟨u0,t0,d0,rfl,R⟩)))))))))))
 rintro U X ⟨n1,e3,_,rfl,l3,rfl,T,S,h1,rfl,u2⟩;refine nrm (W.ret ?_);obtain rfl:=si g;have v0:=h1.sD 1 [];exact r1 (qq n1 ⟨v0,rfl⟩)
def dV (p0:aE):Option (Bool):=
 (fj p0).bind fun j=>
 if (!j)=true then
 some false
 else
 (cv (σ:=Int) (τ:=Bool ⊕ Unit) (((p0.Lines.length:Int) - 0).toNat+1) (fun a=>
 if (decide (a < (p0.Lines.length:Int)))=true then
 (idx p0.Lines a).bind fun e=>
 (cv (σ:=Int) (τ:=Bool ⊕ Unit) (((e.Cells.length:Int) - 0).toNat+1) (fun d=>
 (idx p0.Lines a).bind fun f=>
 if (decide (d < (f.Cells.length:Int)))=true then
 (idx p0.Lines a).bind fun g=>
 (idx g.Cells d).bind fun h=>
 (ei h).bind fun i=>
 if (!i)=true then
 some (.inr (.inl false))
 else
 some (.inl ((w64 (d+1))))
 else
 some (.inr (.inr ()))) (0)).bind fun c=>
 match c with
 | .inl c=>
 some (.inr (.inl c))
 | .inr c=>
 some (.inl ((w64 (a+1))))
 else
 some (.inr (.inr ()))) (0)).bind fun b=>
 match b with
 | .inl b=>
 some b
 | .inr b=>
 some true
theorem kM (O0:Own c0 G F) (d:aE) {r:Bool} (h:Sl aL c0 v1 d.Lines) (H:dV d=some r): Calls prog 49 #[.agg #[I d.Wide,I d.High,v1,I d.At.Row,I d.At.Col,B d.At.Pending,B d.Auto]] c0.w (aP c0 fun c v=>Own c G (F)∧v=B r):=by
 unfold dV at H;refine en func49 rfl rfl (sr ?_);obtain ⟨q,s,u,rfl⟩:=(h).form;refine me (bx 45 [I d.Wide,I d.High,.slice q s u,I d.At.Row,I d.At.Col,B d.At.Pending,B d.Auto] O0) ?_;rintro v10 c9 l9 ⟨n,rfl,O7,M⟩;refine va (B false) (wln (W.seq (sr (vx (lN 45 M) (bn H fun k1 v0 H=>cl (pF O7 d h.m v0) ?_)))));rintro v17 f l16 ⟨N,rfl⟩;refine va (B (!k1)) (wln (cn H (fun w0 H=>?_) (fun w0 H=>?_)))
 ·refine sr (va (B false) (wln (W.ret (thr ?_))));obtain rfl:=si H;exact r1 (qq f ⟨N,rfl⟩)
 refine W.skip (nrm (W.seq (sr (va (I 0) (wln (W.block (bn H fun i U o=>lp U (fun a=>Jn f fun c l=>Own c G (F)∧l= [(1,Q n),(3,I a)]) (fun t=>match t with | .inl k=>(fun A ex e w=>ex= .ret∧(Jn f fun c l=>Own c G (F)∧l= [(2,B A)]) e w) k | .inr k=>(fun p1 ex e w=>ex= .exit 0∧(Jn f fun c l=>Own c G (F)∧l= []) e w) k) ?_ ?_ ?_)))))))
 ·clear o U;intro a m1 y E H;revert y E;rintro x D ⟨g,z1,_,rfl,e0,rfl,P,rfl⟩;refine W.seq (sr (va (I a) (va (Qo n (0+2)) (vx (l1 fg ((mm M) 2 _ rfl)) (vx (ln 3 fg h.m) (va (B (decide (a < (d.Lines.length:Int)))) (wln (cn H (fun x0 H=>?_) (fun x0 H=>?_)))))))))
  ·refine W.skip (nrm (W.seq (W.block (sr (va (I 0) (wln (W.block (bn H fun n1 _ H=>bn H fun j X p=>lp X (fun b=>Jn g fun c l=>Own c G (F)∧l= [(1,Q n),(3,I a),(4,I b)]) (fun t=>match t with | .inl k=>(fun A ex e w=>ex= .ret∧(Jn g fun c l=>Own c G (F)∧l= [(2,B A)]) e w) k | .inr k=>(fun q1 ex e w=>ex= .exit 2∧(Jn g fun c l=>Own c G (F)∧l= [(1,Q n),(3,I a)]) e w) k) ?_ ?_ ?_))))))))
   ·clear p X;intro b m1 y E H;revert y E;rintro x D ⟨o0,b2,_,rfl,f0,rfl,R,rfl⟩;refine W.seq (sr (va (I b) (va (Qo n (0+2)) (vx (l1 fg ((mm M) 2 _ rfl)) (va (I a) (bn H fun g0 Z H=>?_))))));obtain ⟨u1,y0,h1⟩:=Sl.at (h.mono (l9.trans (l16.trans (e0.trans f0)))) (aR Z);obtain ⟨v40,rfl,z0⟩:=y0;refine vx (ix fg h.m Z) (va (Qo (sb (.slice q s u)) (so (.slice q s u)+a.toNat * 2)) (vx (l1 cI (h1 0 _ rfl)) (vx (ln 3 cI z0) (va (B (decide (b < (g0.Cells.length:Int)))) (wln (cn H (fun a1 H=>?_) (fun a1 H=>?_)))))))
    ·refine W.skip (nrm (W.seq (W.block (sr (va (Qo n (0+2)) (vx (l1 fg ((mm M) 2 _ rfl)) (va (I a) (bn H fun y1 a0 H=>?_))))))));obtain ⟨w1,b1,i1⟩:=Sl.at (h.mono (l9.trans (l16.trans (e0.trans f0)))) (aR a0);obtain ⟨v47,rfl,b0⟩:=b1;refine vx (ix fg h.m a0) (va (Qo (sb (.slice q s u)) (so (.slice q s u)+a.toNat * 2)) (vx (l1 cI (i1 0 _ rfl)) (va (I b) (bn H fun h0 d0 H=>?_))));obtain ⟨x1,c1,j1⟩:=Sl.at b0 (aR d0);obtain ⟨v53,rfl,d1⟩:=c1;refine vx (ix cI b0 d0) (vx (lN 114 j1) (bn H fun i0 e1 H=>cl (pE R h0 d1 e1) ?_));rintro m2 T g2 ⟨S,rfl⟩;refine va (B (!i0)) (wln (cn H (fun f1 H=>?_) (fun f1 H=>?_)))
     ·refine sr (va (B false) (wln (W.ret (bkr (thr ?_)))));obtain rfl:=si H;exact ⟨_,rfl,⟨rfl,jn T ⟨S,rfl⟩⟩⟩
     refine W.skip (bkn (nrm (W.region (va (I b) (vv (I (w64 (b+1))) (WL.nil ?_))))));obtain rfl:=si H;exact ⟨_,rfl,jn T ⟨S,rfl⟩⟩
    refine W.exit (thx ?_);obtain rfl:=si H;exact ⟨_,rfl,rfl,jn o0 ⟨R,rfl⟩⟩
   ·exact jn g ⟨P,rfl⟩
   rcases j with j | j
   ·intro z; revert z;rintro _ x D ⟨rfl,q0,c2,_,rfl,i2,rfl,j0,rfl⟩;refine bkr (bkr (thr ?_));obtain rfl:=si p;exact ⟨_,rfl,⟨rfl,jn q0 ⟨j0,rfl⟩⟩⟩
   rintro _ x D ⟨rfl,s0,d2,_,rfl,j2,rfl,k0,rfl⟩;refine bke (bkn (nrm (W.region (va (I a) (vv (I (w64 (a+1))) (WL.nil ?_))))));obtain rfl:=si p;exact ⟨_,rfl,jn s0 ⟨k0,rfl⟩⟩
  refine W.exit (thx ?_);obtain rfl:=si H;exact ⟨_,rfl,rfl,jn g ⟨P,rfl⟩⟩
 ·exact jn f ⟨N,rfl⟩
 rcases i with i | i
 ·intro z; revert z;rintro _ x D ⟨rfl,t0,e2,_,rfl,k2,rfl,l0,rfl⟩;refine bkr (thr ?_);obtain rfl:=si o;exact r1 (qq t0 ⟨l0,rfl⟩)
 rintro _ x D ⟨rfl,u0,f2,_,rfl,l2,rfl,m0,rfl⟩;refine bke (nrm (sr (va (B true) (wln (W.ret ?_)))));obtain rfl:=si o;exact r1 (qq u0 ⟨m0,rfl⟩)
def eJ (p0:aE):Option (aE):=
 (cv (σ:=(List ah)×Int) (τ:=(List ah)) (((p0.Lines.length:Int) - 0).toNat+1) (fun a=>
 if (decide (a.2 < (p0.Lines.length:Int)))=true then
 (idx p0.Lines a.2).bind fun b=>
 (app a.1 ([(⟨b.Cells,false⟩:ah)]:List ah)).bind fun c=>
 some (.inl (c,(w64 (a.2+1))))
 else
 some (.inr (a.1))) (([]:List ah),0)).bind fun d=>
 some (⟨p0.Wide,p0.High,d,(⟨p0.At.Row,p0.At.Col,false⟩:ai),p0.Auto⟩:aE)
theorem mS (O0:Own c0 G F) (a:aE) {r:aE} (A:Sl aL c0 v1 a.Lines) (H:eJ a=some r): Calls prog 53 #[.agg #[I a.Wide,I a.High,v1,I a.At.Row,I a.At.Col,B a.At.Pending,B a.Auto]] c0.w (aP c0 fun c v=>∃X y2,Own c G (es true aL X 48 y2 r.Lines :: F)∧v= .agg #[I r.Wide,I r.High,X,I r.At.Row,I r.At.Col,B r.At.Pending,B r.Auto]∧OA aL c X y2 r.Lines):=by
 unfold eJ at H;refine en func53 rfl rfl (sr ?_);obtain ⟨q,x,y,rfl⟩:=(A).form;refine me (al 45 [I a.Wide,I a.High,.slice q x y,I a.At.Row,I a.At.Col,B a.At.Pending,B a.Auto] O0) ?_;rintro v9 c8 l8 ⟨h,rfl,O7⟩;refine me (al 45 [I 0,I 0,Y,I 0,I 0,B false,B false] O7) ?_;rintro v13 k x0 ⟨j,rfl,Z⟩;refine wln (sr (va (Y) (wln (W.seq (sr (va (I 0) (wln (W.block (bn H fun e2 P D=>lp P (fun b=>Jn k fun c l=>∃v16 o,Own c G (es true aL v16 48 o b.1 :: (Eb j 45 [I 0,I 0,Y,I 0,I 0,B false,B false]) :: (Eb h 45 [I a.Wide,I a.High,.slice q x y,I a.At.Row,I a.At.Col,B a.At.Pending,B a.Auto]) :: F)∧l= [(1,Q h),(2,Q j),(3,v16),(4,I b.2)]∧OA aL c v16 o b.1) (fun z ex e w=>ex= .exit 0∧(Jn k fun c l=>∃v18 p,Own c G (es true aL v18 48 p z :: (Eb j 45 [I 0,I 0,Y,I 0,I 0,B false,B false]) :: (Eb h 45 [I a.Wide,I a.High,.slice q x y,I a.At.Row,I a.At.Col,B a.At.Pending,B a.Auto]) :: F)∧l= [(1,Q h),(2,Q j),(3,v18)]∧OA aL c v18 p z) e w) ?_ ?_ ?_)))))))))
 ·clear D P;intro b g2 l0 b1 H;revert l0 b1;rintro e_ w_ ⟨j0,s1,_,rfl,y0,rfl,v16,o,i,rfl,R⟩;refine W.seq (sr (va (I b.2) (va (Qo h 2) (vx (le1 2 fg (i.on 2 rfl)) (vx (ln 3 fg A.m) (va (B (decide (b.2 < (a.Lines.length:Int)))) (wln (cn H (fun m0 H=>?_) (fun m0 H=>?_)))))))))
  ·refine W.skip (nrm (W.seq (W.block (W.region (va (v16) (va (Qo h 2) (vx (le1 2 fg (i.on 2 rfl)) (va (I b.2) (bn H fun U S H=>?_)))))))));obtain ⟨h1,o0,z0⟩:=Sl.at (A.mono (l8.trans (x0.trans y0))) (aR S);obtain ⟨v32,rfl,T⟩:=o0;refine vx (ix fg A.m S) (va (Qo (sb (.slice q x y)) (so (.slice q x y)+b.2.toNat * 2)) (vx (l1 cI (z0 0 _ rfl)) ?_));obtain ⟨s,t,u,rfl⟩:=(T).form;refine va (.agg #[.slice s t u,B false]) (me (sl aL 48 [[.slice s t u,B false]] ([(⟨U.Cells,false⟩:ah)]:List ah) i ⟨⟨(.slice s t u),rfl,T⟩,trivial⟩) ?_);rintro v41 k1 u1 ⟨f2,a0,q0⟩;obtain ⟨m1,t0,w1,b0,s0⟩:=a0.frz 0 rfl q0;refine WL.gh t0 (bn H fun j1 u0 H=>me (ap aL (.agg #[Y,B false]) 32 27 1 b0 R.m s0 u0 fg) ?_);rintro v51 k0 x1 ⟨a1,d0,v0⟩;refine va (v51) (WL.nil (bkn (nrm (W.region (va (I b.2) (vv (I (w64 (b.2+1))) (WL.nil ?_)))))));obtain rfl:=si H;refine ⟨_,rfl,?_⟩;have e0:=d0.sD 4 [1,2,3];exact jn k0 ⟨v51,a1,e0,rfl,v0⟩
  refine W.exit (thx ?_);obtain rfl:=si H;exact ⟨_,rfl,rfl,jn j0 ⟨v16,o,i,rfl,R⟩⟩
 ·have w0:OA aL k (Y) [] []:=OA.nil (aZ _);have f0:=Z.addHole (e:=es true aL (Y) 48 [] ([]:List ah)) rfl;exact jn k ⟨(Y),[],f0,rfl,w0⟩
 rintro _ e_ w_ ⟨rfl,n1,t1,_,rfl,z1,rfl,v18,p,g0,rfl,n⟩;refine bke (nrm (sr (va (v18) (va (Qo h 2) ?_))));obtain ⟨d,f,g,rfl⟩:=(n).form;refine md (sC 27 2 (.slice d f g) [I a.Wide,I a.High,.slice d f g,I a.At.Row,I a.At.Col,B a.At.Pending,B a.Auto] 2 g0 ⟨(n).one,trivial⟩) ?_;rintro p1 b2 h0;refine wln (sr (va (Qo h 3) (va (Qo h 5) (md (sC 4 5 (B false) [I a.Wide,I a.High,.slice d f g,I a.At.Row,I a.At.Col,B false,B a.Auto] 2 h0 ⟨rfl,trivial⟩) ?_))));rintro q1 c2 E;refine wln (sr (vx (leN 45 0 [I a.Wide,I a.High,.slice d f g,I a.At.Row,I a.At.Col,B false,B a.Auto] (E.on 2 rfl)) (md (sA 45 [I a.Wide,I a.High,.slice d f g,I a.At.Row,I a.At.Col,B false,B a.Auto] 1 E ⟨rfl,rfl,n.m.one,rfl,rfl,rfl,rfl,trivial⟩) ?_)));rintro N d2 M;refine wln (W.ret ?_);obtain rfl:=si D;have i0:=M.sD 3 [0];exact rF (c:=N) (vs:=[I a.Wide,I a.High,.slice d f g,I a.At.Row,I a.At.Col,B false,B a.Auto]) rfl (by kernel_rfl) (by kernel_rfl) (by kernel_rfl) (M.on 1 rfl _ rfl).1 ⟨_,N,rfl,rfl,pt,(.slice d f g),p,i0,rfl,n.m⟩
def eo (p0:aE):Option (Int):=
 (cv (σ:=Int×Int) (τ:=Int) (((p0.Lines.length:Int) - 0).toNat+1) (fun b=>
 if (decide (b.2 < (p0.Lines.length:Int)))=true then
 (idx p0.Lines b.2).bind fun c=>
 (cv (σ:=Int×Int) (τ:=Int) (((c.Cells.length:Int) - 0).toNat+1) (fun a=>
 (idx p0.Lines b.2).bind fun e=>
 if (decide (a.2 < (e.Cells.length:Int)))=true then
 ((idx p0.Lines b.2).bind fun f=>
 (idx f.Cells a.2).bind fun g=>
 if (decide ((g.Text.length:Int) > 0))=true then
 some ((w64 (a.1+1)))
 else
 some (a.1)).bind fun h=>
 some (.inl (h,(w64 (a.2+1))))
 else
 some (.inr (a.1))) (b.1,0)).bind fun d=>
 some (.inl (d,(w64 (b.2+1))))
 else
 some (.inr (b.1))) (0,0)).bind fun i=>
 some i
theorem nZ (O0:Own c0 G F) (d:aE) {r:Int} (j:Sl aL c0 v1 d.Lines) (H:eo d=some r): Calls prog 54 #[.agg #[I d.Wide,I d.High,v1,I d.At.Row,I d.At.Col,B d.At.Pending,B d.Auto]] c0.w (aP c0 fun c v=>Own c G (F)∧v=I r):=by
 unfold eo at H;refine en func54 rfl rfl (sr ?_);obtain ⟨n,o,p,rfl⟩:=(j).form;refine me (bx 45 [I d.Wide,I d.High,.slice n o p,I d.At.Row,I d.At.Col,B d.At.Pending,B d.Auto] O0) ?_;rintro v10 X l9 ⟨g,rfl,O7,Z⟩;refine va (I 0) (wln (sr (va (I 0) (wln (W.seq (sr (va (I 0) (wln (W.block (bn H fun U D y=>lp D (fun b=>Jn X fun c l=>Own c G (F)∧l= [(1,Q g),(3,I b.1),(4,I b.2)]) (fun a0 ex e w=>ex= .exit 0∧(Jn X fun c l=>Own c G (F)∧l= [(3,I a0)]) e w) ?_ ?_ ?_))))))))))
 ·clear y D;intro b b1 q s H;revert q s;rintro t x ⟨h,k1,_,rfl,S,rfl,A,rfl⟩;refine W.seq (sr (va (I b.2) (va (Qo g (0+2)) (vx (l1 fg ((mm Z) 2 _ rfl)) (vx (ln 3 fg j.m) (va (B (decide (b.2 < (d.Lines.length:Int)))) (wln (cn H (fun m0 H=>?_) (fun m0 H=>?_)))))))))
  ·refine W.skip (nrm (W.seq (W.block (sr (va (I 0) (wln (W.block (bn H fun c1 _ H=>bn H fun i1 E z=>lp E (fun a=>Jn h fun c l=>Own c G (F)∧l= [(1,Q g),(3,I a.1),(4,I b.2),(5,I a.2)]) (fun u ex e w=>ex= .exit 2∧(Jn h fun c l=>Own c G (F)∧l= [(1,Q g),(3,I u),(4,I b.2)]) e w) ?_ ?_ ?_))))))))
   ·clear z E;intro a b1 q s H;revert q s;rintro t x ⟨i,m1,_,rfl,T,rfl,k,rfl⟩;refine W.seq (sr (va (I a.2) (va (Qo g (0+2)) (vx (l1 fg ((mm Z) 2 _ rfl)) (va (I b.2) (bn H fun b0 M H=>?_))))));obtain ⟨f1,o0,y0⟩:=Sl.at (j.mono (l9.trans (S.trans T))) (aR M);obtain ⟨v32,rfl,q0⟩:=o0;refine vx (ix fg j.m M) (va (Qo (sb (.slice n o p)) (so (.slice n o p)+b.2.toNat * 2)) (vx (l1 cI (y0 0 _ rfl)) (vx (ln 3 cI q0) (va (B (decide (a.2 < (b0.Cells.length:Int)))) (wln (cn H (fun s0 H=>?_) (fun s0 H=>?_)))))))
    ·refine W.skip (nrm (bn H fun e0 f f0=>W.seqJ (Jn i fun c l=>Own c G (F)∧l= [(1,Q g),(3,I e0),(4,I b.2),(5,I a.2)]) ?_ ?_))
     ·refine W.block (sr (va (Qo g (0+2)) (vx (l1 fg ((mm Z) 2 _ rfl)) (va (I b.2) (bn f fun j1 N f=>?_)))));obtain ⟨g1,t0,z0⟩:=Sl.at (j.mono (l9.trans (S.trans T))) (aR N);obtain ⟨v41,rfl,P⟩:=t0;refine vx (ix fg j.m N) (va (Qo (sb (.slice n o p)) (so (.slice n o p)+b.2.toNat * 2)) (vx (l1 cI (z0 0 _ rfl)) (va (I a.2) (bn f fun d0 R f=>?_))));obtain ⟨h1,u0,a1⟩:=Sl.at P (aR R);obtain ⟨v47,rfl,v0⟩:=u0;refine vx (ix cI P R) (va (Qo (sb v41) (so v41+a.2.toNat * 2+1)) (vx (l1 cy (a1 1 _ rfl)) (vx (ln 3 cy v0) (va (B (decide ((d0.Text.length:Int) > 0))) (wln (cn f (fun w0 f=>?_) (fun w0 f=>?_)))))))
      ·refine W.region (va (I a.1) (vv (I (w64 (a.1+1))) (WL.nil (bkn (nrm ?_)))));obtain rfl:=si f;exact jn i ⟨k,rfl⟩
      refine W.skip (bkn (nrm ?_));obtain rfl:=si f;exact jn i ⟨k,rfl⟩
     rintro t x ⟨j0,n1,_,rfl,s1,rfl,g0,rfl⟩;refine W.region (va (I a.2) (vv (I (w64 (a.2+1))) (WL.nil ?_)));obtain rfl:=si f0;exact ⟨_,rfl,jn j0 ⟨g0,rfl⟩⟩
    refine W.exit (thx ?_);obtain rfl:=si H;exact ⟨_,rfl,rfl,jn i ⟨k,rfl⟩⟩
   ·exact jn h ⟨A,rfl⟩
   rintro _ t x ⟨rfl,k0,p1,_,rfl,t1,rfl,h0,rfl⟩;refine bke (bkn (nrm (W.region (va (I b.2) (vv (I (w64 (b.2+1))) (WL.nil ?_))))));obtain rfl:=si z;exact ⟨_,rfl,jn k0 ⟨h0,rfl⟩⟩
  refine W.exit (thx ?_);obtain rfl:=si H;exact ⟨_,rfl,rfl,jn h ⟨A,rfl⟩⟩
 ·exact jn X ⟨O7,rfl⟩
 rintro _ t x ⟨rfl,l0,q1,_,rfl,u1,rfl,i0,rfl⟩;refine bke (nrm (sr (vv (I U) (wln (W.ret ?_)))));obtain rfl:=si y;exact r1 (qq l0 ⟨i0,rfl⟩)
end Go.Proofs.YtclmdpamofdoiaaGreatDoor
namespace Go.Lt
theorem aJ {n:Int} (h: -9223372036854775808≤n∧n≤9223372036854775807):w64 n=n:=by
 unfold w64;rw [Ag];omega
theorem wV {n:Int} (h: -2147483648≤n∧n≤2147483647):w32 n=n:=by
 unfold w32;rw [IntKind.wrap_i32];omega
theorem bsm {α β:Type} (a:α) (f:α→Option β):(some a).bind f=f a:=by simp
theorem mF {σ τ:Type} {step:σ→Option (σ ⊕ τ)} (Inv:σ→Prop) (μ:σ→Nat) (post:τ→Prop)
  (h:∀s,Inv s→(∃s',step s=some (.inl s')∧Inv s'∧μ s' < μ s)∨∃t,step s=some (.inr t)∧post t):
  ∀(fuel:Nat) (s:σ),Inv s→μ s < fuel→∃t,cv fuel step s=some t∧post t:=by
 intro fuel
 induction fuel with
 | zero=>intro s _ hm; omega
 | succ k ih=>
  intro s hs hm;rcases h s hs with ⟨s',h1,h2,h3⟩ | ⟨t,h1,h2⟩
  ·obtain ⟨t,h4,h5⟩:=ih s' h2 (by omega);exact ⟨t,by simp [cv,h1,h4],h5⟩
  ·exact ⟨t,by simp [cv,h1],h2⟩
theorem pb {σ τ:Type} {step:σ→Option (σ ⊕ τ)} (Inv:σ→Prop) (μ:σ→Nat) {t:τ}
  (h:∀s,Inv s→(∃s',step s=some (.inl s')∧Inv s'∧μ s' < μ s)∨step s=some (.inr t)) {fuel:Nat} {s:σ} (h0:Inv s) (hm:μ s < fuel):cv fuel step s=some t:=by
 obtain ⟨t',h1,h2⟩:=mF Inv μ (fun x=>x=t) (fun s hs=>(h s hs).imp id fun h=>⟨t,h,rfl⟩) fuel s h0 hm;rw [h1,h2]
theorem br (a b:Bool):orE a (some b)=some (a || b):=by cases a <;> rfl
theorem ba (a b:Bool):bD a (some b)=some (a && b):=by cases a <;> rfl
theorem sq (x:Option Bool):orE true x=some true:=rfl
theorem cW (x:Option Bool):orE false x=x:=rfl
theorem gH (x:Option Bool):bD true x=x:=rfl
theorem iS (x:Option Bool):bD false x=some false:=rfl
theorem uz {α:Type} (xs:List α) (i:Nat):idx xs (i:Int)=xs[i]? :=by
 unfold idx;rw [ae (IX i)];rfl
theorem aW {α:Type} {xs:List α} {i:Nat} (h:i < xs.length):idx xs (i:Int)=some xs[i]:=by
 rw [uz,af h]
theorem jV {α:Type} {xs:List α} {i:Nat} (h:i < xs.length) (x:α):nT xs (i:Int) x=some (xs.set i x):=by
 unfold nT;rw [ae ⟨IX i,by omega⟩];rfl
theorem eP {α:Type} {xs ys:List α} (h:xs.length+ys.length≤1099511627776):app xs ys=some (xs++ys):=by
 unfold app far;rw [ae h]
theorem oZ {α:Type} {n:Int} (x:α) (h:0≤n∧n≤1099511627776):rep n x=some (List.replicate n.toNat x):=by
 unfold rep far;rw [ae (by omega)]
theorem rC {α:Type} {xs:List α} {i j:Nat} (h:i≤j) (h2:j≤xs.length):slc xs i j=some ((xs.drop i).take (j - i)):=by
 unfold slc;rw [ae (by omega)]
 congr 2
 omega
theorem gZ (x y:Int):bb x y=max x y:=by unfold bb; split <;> omega
theorem dW (x y:Int):aO x y=min x y:=by unfold aO; split <;> omega
theorem pf {τ:Type} {step:Int→Option (Int ⊕ τ)} {n:Nat} (hn:n≤9223372036854775807) (post:τ→Prop) (Inv:Nat→Prop) (h0:Inv 0)
  (h:∀i:Nat,i < n→Inv i→(step i=some (.inl ((i+1:Nat):Int))∧Inv (i+1))∨∃t,step i=some (.inr t)∧post t)
  (hend:Inv n→∃t,step n=some (.inr t)∧post t):∃t,cv (((n:Int) - 0).toNat+1) step 0=some t∧post t:=by
 refine mF (fun s:Int=>∃i:Nat,s=(i:Int)∧i≤n∧Inv i) (fun s:Int=>n - s.toNat) post (fun s ⟨i,hs,hi,hI⟩=>?_) _ _ ⟨0,rfl,dp _,h0⟩ (by simp);subst hs;rcases aG i n with hlt | hge
 ·rcases h i hlt hI with ⟨h1,h2⟩ | h1
  ·exact .inl ⟨_,h1,⟨i+1,rfl,hlt,h2⟩,by simp; omega⟩
  ·exact .inr h1
 ·obtain rfl:i=n:=by omega
  exact .inr (hend hI)
theorem eG {σ τ:Type} {step:σ→Option (σ ⊕ τ)} {n:Nat} (Inv:Nat→σ→Prop) (post:τ→Prop)
  (h:∀i s,i < n→Inv i s→(∃s',step s=some (.inl s')∧Inv (i+1) s')∨∃t,step s=some (.inr t)∧post t)
  (hend:∀s,Inv n s→∃t,step s=some (.inr t)∧post t) {fuel:Nat} {s:σ} (h0:Inv 0 s) (hf:n < fuel):∃t,cv fuel step s=some t∧post t:=by
 have key:∀fuel i s,i≤n→n - i < fuel→Inv i s→∃t,cv fuel step s=some t∧post t:=by
  intro fuel
  induction fuel with
  | zero=>intro i s _ hm; omega
  | succ k ih=>
   intro i s hi hm hs;rcases aG i n with hlt | hge
   ·rcases h i s hlt hs with ⟨s',h1,h2⟩ | ⟨t,h1,h2⟩
    ·obtain ⟨t,h4,h5⟩:=ih (i+1) s' hlt (by omega) h2;exact ⟨t,by simp [cv,h1,h4],h5⟩
    ·exact ⟨t,by simp [cv,h1],h2⟩
   ·obtain rfl:i=n:=by omega
    obtain ⟨t,h1,h2⟩:=hend s hs;exact ⟨t,by simp [cv,h1],h2⟩
 exact key fuel 0 s (dp _) (by omega) h0
theorem xI {α β:Type} {x:Option α} {k:α→Option β} {a:α} {r:Option β} (h:x=some a) (h2:k a=r):x.bind k=r:=by rw [h]; exact h2
theorem gF {σ τ β:Type} {step:σ→Option (σ ⊕ τ)} {n:Nat} (Inv:Nat→σ→Prop) (post:τ→Prop) {fuel:Nat} {s:σ} {k:τ→Option β} {r:Option β}
  (h:∀i s,i < n→Inv i s→(∃s',step s=some (.inl s')∧Inv (i+1) s')∨∃t,step s=some (.inr t)∧post t)
  (hend:∀s,Inv n s→∃t,step s=some (.inr t)∧post t) (h0:Inv 0 s) (hf:n < fuel) (hk:∀t,post t→k t=r):(cv fuel step s).bind k=r:=by
 obtain ⟨t,h1,h2⟩:=eG Inv post h hend h0 hf;rw [h1];exact hk t h2
theorem ga {σ τ β:Type} {step:σ→Option (σ ⊕ τ)} {n:Nat} (Inv:Nat→σ→Prop) (post:τ→Prop) {fuel:Nat} {s:σ} {k:τ→Option β} {p:β→Prop}
  (h:∀i s,i < n→Inv i s→(∃s',step s=some (.inl s')∧Inv (i+1) s')∨∃t,step s=some (.inr t)∧post t)
  (hend:∀s,Inv n s→∃t,step s=some (.inr t)∧post t) (h0:Inv 0 s) (hf:n < fuel) (hk:∀t,post t→∃r,k t=some r∧p r):∃r,(cv fuel step s).bind k=some r∧p r:=by
 obtain ⟨t,h1,h2⟩:=eG Inv post h hend h0 hf;rw [h1];exact hk t h2
theorem uZ {α τ:Type} {step:List α×Int→Option (List α×Int ⊕ τ)} {n fuel:Nat} (f:Nat→α) {t:τ}
  (h:∀i,i < n→step ((List.range i).map f,(i:Int))=some (.inl ((List.range i).map f++ [f i],((i+1:Nat):Int))))
  (hend:step ((List.range n).map f,(n:Int))=some (.inr t)) (hf:n < fuel):cv fuel step ([],0)=some t:=by
 obtain ⟨t',h1,h2⟩:=eG (step:=step) (n:=n) (fuel:=fuel) (s:=([],0)) (fun i s=>s=((List.range i).map f,(i:Int))) (fun t'=>t'=t)
  (fun i s hi e=>by subst e; exact .inl ⟨_,h i hi,by rw [lf,bO]; rfl⟩) (fun s e=>by subst e; exact ⟨t,hend,rfl⟩) rfl hf
 rw [h1,h2]
theorem ci {i n:Nat} (h:i < n) (hn:n≤9223372036854775807):w64 ((i:Int)+1)=((i+1:Nat):Int):=by
 rw [aJ (by omega)];simp
theorem dlt {i n:Nat} (h:i < n):decide ((i:Int) < (n:Int))=true:=by simp; exact h
theorem dnl (n:Nat):decide ((n:Int) < (n:Int))=false:=by simp
end Go.Lt
namespace Go.Proofs.YtclmdpamofdoiaaGreatDoor
open Go Go.Lt
set_option maxRecDepth 10000
set_option linter.unusedVariables false
attribute [local irreducible] W WL AC
open Tryz
variable {c0:Cx} {G:Gm} {F:List En} {sg:Sto} {v1 v2 v3 v4 v5 v6 v7 v8 v9 v10 v11 v12 v13 v14 v15 v16 v17 v18 v19 v20 v21 v22 v23 v24 v25 v26 v27 v28 v29 v30 v31 v32 v33 v34 v35 v36 v37 v38 v39 v40 v41 v42 v43 v44 v45 v46 v47 v48 v49 v50 v51 v52 v53 v54 v55 v56 v57 v58 v59 v60:Value}
def jp (sg:Sto) (p0:Int) (p1:Int):Option (Sto×(Option Nat)):=
 (mG sg p0 p1).bind fun b=>
 (ny b.1 b.2).bind fun c=>
 (some (c.1.add_screen_Screen (⟨c.2,b.2⟩:eB))).bind fun a=>
 some (a,(some c.1.screen_Screen.length))
theorem sL (O0:Own c0 G F) (R0:Rel c0 sg G) (g:Int) (h:Int) {r:Sto×(Option Nat)} (H:jp sg g h=some r): Calls prog 32 #[I g,I h] c0.w (aP c0 fun c v=>∃y1,∃G_:Gm,Own c G_ (F)∧Rel c r.1 G_∧eF G G_∧v=y1∧Pt 5 c y1 r.2):=by
 unfold jp at H;refine en func32 rfl rfl (sr (va (.pointer none) (wln (sr (va (I g) (va (I h) (bn H fun n h1 H=>cl (yT O0 R0 g h h1) ?_)))))));rintro v2 c8 l8 ⟨_,G4,O5,R6,a7,rfl,p⟩;have D:=(eF.refl _).trans a7;refine va (v2) (wln (sr (va (v2) (bn H fun o R H=>cl (zY O5 R6 n.2 p R) ?_))));rintro v12 j0 m ⟨_,i0,t,A,M,rfl,l⟩;have j:=D.trans M;refine va (v2) ?_;obtain ⟨d,rfl⟩:=(l).form;obtain ⟨e,rfl⟩:=((p.mono m)).form;refine va (.agg #[.pointer d,.pointer e]) (me (al 131 [.pointer d,.pointer e] t) ?_);rintro v26 k0 f ⟨a,rfl,u⟩;have y:=u.sD 1 [0];refine bn H fun q S H=>?_;obtain ⟨k,s,T,o0,U,z,i,l0,X,N⟩:=Rel.new_screen_Screen (E:=[(Eb a 131 [.pointer d,.pointer e])]) (F:=F) (x:=(⟨o.2,n.2⟩:eB)) (b:=a) y (A.mono f) (fun c_ hle_=>⟨a,(.pointer d),(.pointer e),rfl,rfl,(l.mono (f.trans hle_)),(p.mono ((m.trans f).trans hle_))⟩);rw [bi S] at i;refine WL.gh T.1 ?_;have m0:=eF.nil j X;have P:=j.trans N;have Z:Pt 5 k (Q a) (some o.1.screen_Screen.length):=⟨a,rfl,U⟩;refine va (Q a) (wln (W.ret ?_));obtain rfl:=si H;exact r1 (qq k ⟨(Q a),s,z,i,P,rfl,Z⟩)
def gL (sg:Sto) (p0:Option Nat) (p1:aM):Option (Sto×Er):=
 if p0.isNone=true then
 some (sg,(Er.sent 7))
 else
 if (p1.Kind==0)=true then
 (p0).bind fun g=>
 (sg.screen_Screen[g]?).bind fun i=>
 (gp sg i.Feeder p1.Bytes).bind fun o=>
 some (o,Er.nil)
 else
 if (p1.Kind==1)=true then
 (p0).bind fun h=>
 (sg.screen_Screen[h]?).bind fun j=>
 (go sg j.Feeder).bind fun p=>
 some (p,Er.nil)
 else
 if (p1.Kind==13)=true then
 (p0).bind fun a=>
 (sg.screen_Screen[a]?).bind fun k=>
 (cY sg k.Feeder).bind fun c=>
 (c.screen_Screen[a]?).bind fun l=>
 (kQ c l.pen p1.A p1.B).bind fun q=>
 some (q,Er.nil)
 else
 (kC p1).bind fun d=>
 if (!d.isNil)=true then
 some (sg,d)
 else
 (p0).bind fun b=>
 (sg.screen_Screen[b]?).bind fun m=>
 (cY sg m.Feeder).bind fun e=>
 (e.screen_Screen[b]?).bind fun n=>
 (oE e n.pen p1).bind fun f=>
 some (f.1,f.2)
theorem rG (O0:Own c0 G F) (d:Rel c0 sg G) (hG:Gl [2,4,7] c0) (p0:Option Nat) (a:aM) {r:Sto×Er} (t:Pt 5 c0 v1 p0) (z:Sl (RI .u8) c0 v3 a.Bytes) (H:gL sg p0 a=some r): Calls prog 66 #[v1,.agg #[I a.Kind,I a.A,I a.B,v3]] c0.w (aP c0 fun c v=>∃y1,∃G_:Gm,Own c G_ (F)∧Rel c r.1 G_∧v=y1∧RE 350 144 c y1 r.2):=by
 unfold gL at H;refine en func66 rfl rfl (sr ?_);obtain ⟨a5,a6,a7,rfl⟩:=(z).form;refine me (bx 38 [I a.Kind,I a.A,I a.B,.slice a5 a6 a7] O0) ?_;rintro v12 s1 b ⟨y,rfl,l,h⟩;refine va (.nilIface) (wln (W.seq (sr (va (v1) (vr (B p0.isNone) (by rcases t.m.cs with ⟨e,f⟩ | ⟨b_,e,f⟩ <;> (subst e; rw [f]; kernel_rfl)) (wln (cn H (fun c2 H=>?_) (fun c2 H=>?_))))))))
 ·refine sr ?_;obtain ⟨v14,S⟩:=(hG.mono b).get 7 (by decide);refine vx (l1 rS S.im) (va (v14) (wln (W.ret (thr ?_))));obtain rfl:=si H;exact r1 (qq s1 ⟨v14,G,l,d.m,rfl,S⟩)
 refine W.skip (nrm (W.seq (sr (va (Q y) (vx (l1 u_3 (h 0 _ rfl)) (wln (W.block (sr (vv (B (a.Kind==0)) (wln (cn H (fun d2 H=>?_) (fun d2 H=>?_))))))))))))
 ·refine rD [6] (Kp G []) l ?_;intro t1 Z E;have i3:Kp G [] t1:=(Kp.nil E);refine ta 0 (v1) (bn H fun t3 f2 H=>?_);obtain ⟨P,rfl,e2⟩:=((t.mono (b.trans Z))).get f2;refine ta 1 (Q P) (ta 2 (Q P) (bn H fun u0 g2 H=>?_));obtain ⟨v24,v26,j2,i2,n4⟩:=Rel.open_screen_Screen (d.mono (b.trans Z)) g2 e2;refine tkx 3 i3 (fun n g u=>le1 0 Ak (u.gon j2 0 rfl)) (ta 4 (Qo y (0+3)) (tx 5 (fun n g=>l1 tg ((mm h) 3 _ rfl)) (bn H fun f4 k2 H=>o1 6 (gc 6 (qX E d.m (hG.m.le (by decide)) u0.Feeder a.Bytes i2 z.m k2) ?_))));rintro v35 u1 r4 ⟨d1,g1,k1,rfl⟩;refine ⟨.inl rfl,dn (bkn (nrm (sr (va (.nilIface) (wln (W.ret ?_))))))⟩;obtain rfl:=si H;exact r1 (qq u1 ⟨.nilIface,d1,g1,k1,rfl,rfl⟩)
 refine sr (vv (B (a.Kind==1)) (wln (cn H (fun l2 H=>?_) (fun l2 H=>?_))))
 ·refine W.region (va (v1) (bn H fun u3 n2 H=>?_));obtain ⟨R,rfl,m2⟩:=((t.mono b)).get n2;refine vv (Q R) (bn H fun v0 o2 H=>?_);obtain ⟨v41,v43,q2,p2,o4⟩:=Rel.open_screen_Screen (d.mono b) o2 m2;refine vx (le1 0 Ak (l.gon q2 0 rfl)) (bn H fun g4 s2 H=>cl (qW l d.m (hG.m.le (by decide)) v0.Feeder p2 s2) ?_);rintro v52 w1 s4 ⟨e1,h1,m1,rfl⟩;refine WL.nil (bkn (nrm (sr (va (.nilIface) (wln (W.ret ?_))))));obtain rfl:=si H;exact r1 (qq w1 ⟨.nilIface,e1,h1,m1,rfl,rfl⟩)
 refine sr (vv (B (a.Kind==13)) (wln (cn H (fun t2 H=>?_) (fun t2 H=>?_))))
 ·refine sr (va (v1) (bn H fun w3 u2 H=>?_));obtain ⟨i,rfl,T⟩:=((t.mono b)).get u2;refine vv (Q i) (bn H fun w0 v2 H=>?_);obtain ⟨v58,v60,x2,w2,p4⟩:=Rel.open_screen_Screen (d.mono b) v2 T;refine vx (le1 0 Ak (l.gon x2 0 rfl)) (bn H fun i4 y2 H=>cl (iY l d.m w0.Feeder w2 y2) ?_);rintro v4 m4 t4 ⟨D,i1,N,rfl⟩;refine wln (rD [8] (Kp D []) i1 ?_);intro x1 h3 M;have j3:Kp D [] x1:=(Kp.nil M);refine ta 0 (Q i) (ta 1 (Q i) (ta 2 (Qo i 1) (bn H fun x0 z2 H=>?_)));obtain ⟨w4,x4,b3,q4,a3⟩:=Rel.open_screen_Screen (N.mono h3) z2 (tm T);refine tkx 3 j3 (fun n g u=>le1 1 tT (u.gon b3 0 rfl)) (ta 4 (Qo y (0+1)) (tx 5 (fun n g=>l1 u_3 ((mm h) 1 _ rfl)) (ta 6 (Qo y (0+2)) (tx 7 (fun n g=>l1 u_3 ((mm h) 2 _ rfl)) (bn H fun j4 c3 H=>o1 8 (gc 8 (vT M N.m (hG.m.le (by decide)) x0.pen a.A a.B a3 c3) ?_))))));rintro y4 z1 u4 ⟨f1,j1,n1,rfl⟩;refine ⟨.inl rfl,dn (bkn (nrm (sr (va (.nilIface) (wln (W.ret ?_))))))⟩;obtain rfl:=si H;exact r1 (qq z1 ⟨.nilIface,f1,j1,n1,rfl,rfl⟩)
 refine W.seq (sr (vx (lN 38 h) (bn H fun c1 d3 H=>cl (sR l (hG.m.le (by decide)) a z.m d3) ?_)));rintro k b2 a0 ⟨_,q,rfl,U⟩;refine va (k) (wln (sr (va (k) (vr (B (!c1.isNil)) (by rcases (U).cs with ⟨e,f⟩ | ⟨b_,e,f⟩ | ⟨b_,e,f⟩ <;> (subst e; rw [f]; kernel_rfl)) (wln (cn H (fun e3 H=>?_) (fun e3 H=>?_)))))))
 ·refine sr (vv (k) (wln (W.ret (thr (bkr (thr ?_))))));obtain rfl:=si H;exact r1 (qq b2 ⟨k,G,q,d.m,rfl,U⟩)
 refine W.skip (nrm (sr (va (v1) (bn H fun x3 f3 H=>?_))));obtain ⟨j,rfl,X⟩:=((t.mono (b.trans a0))).get f3;refine vv (Q j) (bn H fun y0 g3 H=>?_);obtain ⟨a4,b4,j0,i0,q3⟩:=Rel.open_screen_Screen (d.mono (b.trans a0)) g3 X;refine vx (le1 0 Ak (q.gon j0 0 rfl)) (bn H fun k4 k0 H=>cl (iY q d.m y0.Feeder i0 k0) ?_);rintro c4 p3 y3 ⟨o,d0,s,rfl⟩;refine wln (W.seq (rD [5] (Kp o []) d0 ?_));intro g0 t0 p;have b1:Kp o [] g0:=(Kp.nil p);refine ta 0 (Q j) (ta 1 (Q j) (ta 2 (Qo j 1) (bn H fun z0 l0 H=>?_)));obtain ⟨d4,e4,o0,s3,m0⟩:=Rel.open_screen_Screen (s.mono t0) l0 (tm X);refine tkx 3 b1 (fun n g u=>le1 1 tT (u.gon o0 0 rfl)) (tx 4 (fun n g=>lN 38 (mm h)) (bn H fun l4 q0 H=>o1 5 (gc 5 (B3 p s.m (hG.m.le (by decide)) z0.pen a m0 z.m q0) ?_)));rintro x h0 z3 ⟨_,b0,e0,f0,rfl,s0⟩;refine ⟨.inl rfl,ta 6 (x) (dn (nrm (W.ret (bkr (thr ?_)))))⟩;obtain rfl:=si H;exact r1 (qq h0 ⟨x,b0,e0,f0,rfl,s0⟩)
def dw (sg:Sto) (p0:Option Nat) (p1:List aM):Option (Sto×Er):=
 (cv (σ:=Er×Int×Sto) (τ:=(Er×Sto)) (((p1.length:Int) - 0).toNat+1) (fun a=>
 if (decide (a.2.1 < (p1.length:Int)))=true then
 ((idx p1 a.2.1).bind fun f=>
 (gL a.2.2 p0 f).bind fun b=>
 (bD (!b.2.isNil) (some a.1.isNil)).bind fun e=>
 if e=true then
 (iM a.2.1 b.2).bind fun g=>
 some (g,b.1)
 else
 some (a.1,b.1)).bind fun c=>
 some (.inl (c.1,(w64 (a.2.1+1)),c.2))
 else
 some (.inr (a.1,a.2.2))) (Er.nil,0,sg)).bind fun d=>
 some (d.2,d.1)
theorem mZ (O0:Own c0 G F) (R0:Rel c0 sg G) (hG:Gl [2,4,7] c0) (p0:Option Nat) (j:List aM) {r:Sto×Er} (h2:Pt 5 c0 v1 p0) (Z:Sl bJ c0 v3 j) (H:dw sg p0 j=some r): Calls prog 33 #[v1,v3] c0.w (aP c0 fun c v=>∃y1,∃G_:Gm,Own c G_ (F)∧Rel c r.1 G_∧v=y1∧RE 350 144 c y1 r.2):=by
 unfold dw at H;refine en func33 rfl rfl (sr (va (.nilIface) (wln (sr (va (.nilIface) (wln (W.seq (sr (va (v3) (vx (ln 3 nK Z) (va (I 0) (wln (W.block (bn H fun o2 h5 H6=>lp h5 (fun a=>Jn c0 fun c l=>∃v7 G_,Own c G_ (F)∧l= [(0,v1),(5,v7),(9,v3),(10,I (j.length:Int)),(11,I a.2.1)]∧Rel c a.2.2 G_∧RE 350 144 c v7 a.1) (fun u ex e w=>ex= .exit 0∧(Jn c0 fun c l=>∃v8 G_,Own c G_ (F)∧l= [(5,v8)]∧Rel c u.2 G_∧RE 350 144 c v8 u.1) e w) ?_ ?_ ?_))))))))))))))
 ·clear H6 h5;intro a p2 a1 n1 H;revert a1 n1;rintro X w_ ⟨c9,d2,_,rfl,l9,rfl,v7,d0,y,rfl,M,s⟩;refine sr (va (B (decide (a.2.1 < (j.length:Int)))) (wln (W.seq (cn H (fun b1 H=>?_) (fun b1 H=>?_)))))
  ·refine W.skip (nrm (bn H fun x b g0=>W.seqJ (Jn c9 fun c l=>∃v19 G_,Own c G_ (F)∧l= [(0,v1),(5,v19),(9,v3),(10,I (j.length:Int)),(11,I a.2.1)]∧Rel c x.2 G_∧RE 350 144 c v19 x.1) ?_ ?_))
   ·refine W.block (sr (va (I a.2.1) (bn b fun d P b=>?_)));obtain ⟨x1,c1,m1⟩:=Sl.at (Z.mono l9) (aR P);obtain ⟨v24,rfl,t⟩:=c1;refine vx (ix nK Z.m P) (vx (lN 38 m1) (me (al 38 [I 0,I 0,I 0,Y] y) ?_));rintro v29 b2 k1 ⟨u0,rfl,j0⟩;refine va (I a.2.1) ?_;obtain ⟨n,o,p,rfl⟩:=((t.mono k1)).form;refine md (sA 38 [I d.Kind,I d.A,I d.B,.slice n o p] 0 j0 ⟨rfl,rfl,rfl,t.m.one,trivial⟩) ?_;rintro c2 i2 z;refine wln (sr (va (v1) (vx (leN 38 0 [I d.Kind,I d.A,I d.B,.slice n o p] (z.on 0 rfl)) (bn b fun i d1 b=>cl (rG z M.m (hG.m.le (by decide)) p0 d h2.m t.m d1) ?_))));rintro v36 q j2 ⟨_,k,D,N,rfl,R⟩;refine va (v36) (wln (W.seq (bn b fun U S b=>W.join (Jn q fun c l=>Own c k ((Eb u0 38 [I d.Kind,I d.A,I d.B,.slice n o p]) :: F)∧l= [(0,v1),(5,v7),(6,I a.2.1),(8,v36),(9,v3),(10,I (j.length:Int)),(11,I a.2.1),(24,B U)]) ?_ ?_)))
    ·clear b;refine W.region (va (v36) (vr (B (!i.2.isNil)) (by rcases (R).cs with ⟨f,g⟩ | ⟨T,f,g⟩ | ⟨T,f,g⟩ <;> (subst f; rw [g]; kernel_rfl)) ?_));rcases bo (!i.2.isNil) with h | h
     ·have h0:=anT h S;refine vb h (wa (v7) (wn (vr (B a.1.isNil) (by rcases s.m.cs with ⟨f,g⟩ | ⟨T,f,g⟩ | ⟨T,f,g⟩ <;> (subst f; rw [g]; kernel_rfl)) ?_)));obtain rfl:=si h0;exact va (B a.1.isNil) (wln (jn q ⟨D,rfl⟩))
     obtain rfl:=anF h S;exact vb h (pz (va (B false) (wln (jn q ⟨D,rfl⟩))))
    rintro X w_ ⟨v0,e2,_,rfl,k2,rfl,E,rfl⟩;refine nrm (cn b (fun f1 b=>?_) (fun f1 b=>?_))
    ·refine W.region (va (I a.2.1) (va (v36) (bn b fun z1 g1 b=>cl (mU E a.2.1 i.2 R.m g1) ?_)));rintro v55 w0 l2 ⟨_,k0,rfl,h1⟩;refine va (v55) (WL.nil (bkn (nrm ?_)));obtain rfl:=si b;have l0:=k0.sD 1 [];exact jn w0 ⟨v55,k,l0,rfl,N.m,h1⟩
    refine W.skip (bkn (nrm ?_));obtain rfl:=si b;have m0:=E.sD 1 [];exact jn v0 ⟨v7,k,m0,rfl,N.m,s.m⟩
   rintro X w_ ⟨x0,f2,_,rfl,m2,rfl,v19,e0,o0,rfl,s0,i1⟩;refine W.region (vv (I (w64 (a.2.1+1))) (WL.nil ?_));obtain rfl:=si g0;exact ⟨_,rfl,jn x0 ⟨v19,e0,o0,rfl,s0,i1⟩⟩
  refine W.exit (thx ?_);obtain rfl:=si H;exact ⟨_,rfl,rfl,jn c9 ⟨v7,d0,y,rfl,M,s⟩⟩
 ·exact jn c0 ⟨.nilIface,G,O0,rfl,R0,rfl⟩
 rintro _ X w_ ⟨rfl,y0,g2,_,rfl,n2,rfl,v8,f0,q0,rfl,t0,j1⟩;refine bke (nrm (sr (vv (v8) (wln (W.ret ?_)))));obtain rfl:=si H6;exact r1 (qq y0 ⟨v8,f0,q0,t0,rfl,j1⟩)
def dI (sg:Sto) (p0:Option Nat):Option (aE):=
 if p0.isNone=true then
 some (⟨0,0,([]:List ah),(⟨0,0,false⟩:ai),false⟩:aE)
 else
 (p0).bind fun b=>
 (sg.screen_Screen[b]?).bind fun d=>
 (d.pen).bind fun c=>
 (sg.place_Pen[c]?).bind fun a=>
 (cf sg a.G).bind fun e=>
 (bK sg a.G).bind fun f=>
 (iK sg a.G).bind fun g=>
 some (⟨e,f,g,a.At,a.Auto⟩:aE)
theorem mR (O0:Own c0 G F) (o:Rel c0 sg G) (U:Option Nat) {r:aE} (h2:Pt 5 c0 v1 U) (H:dI sg U=some r): Calls prog 37 #[v1] c0.w (aP c0 fun c v=>∃X y2,Own c G (es true aL X 48 y2 r.Lines :: F)∧v= .agg #[I r.Wide,I r.High,X,I r.At.Row,I r.At.Col,B r.At.Pending,B r.Auto]∧OA aL c X y2 r.Lines):=by
 unfold dI at H;refine en func37 rfl rfl (sr (me (al 45 [I 0,I 0,Y,I 0,I 0,B false,B false] O0) ?_));rintro v6 c5 T ⟨b3,rfl,y⟩;refine wln (W.seq (sr (va (v1) (vr (B U.isNone) (by rcases h2.m.cs with ⟨N,P⟩ | ⟨b_,N,P⟩ <;> (subst N; rw [P]; kernel_rfl)) (wln (cn H (fun h7 H=>?_) (fun h7 H=>?_)))))))
 ·refine sr (va (.agg #[I 0,I 0,Y,I 0,I 0,B false,B false]) (md (sA 45 [I 0,I 0,Y,I 0,I 0,B false,B false] 0 y ⟨rfl,rfl,rfl,rfl,rfl,rfl,rfl,trivial⟩) ?_));rintro S l9 O8;refine wln (W.ret (thr ?_));obtain rfl:=si H;have g0:OA aL S (Y) [] []:=OA.nil (aZ _);have z:=O8.addHole (e:=es true aL (Y) 48 [] ([]:List ah)) rfl;have Z:=z.sD 2 [0];exact rF (c:=S) (vs:=[I 0,I 0,Y,I 0,I 0,B false,B false]) rfl (by kernel_rfl) (by kernel_rfl) (by kernel_rfl) (z.on 1 rfl _ rfl).1 ⟨_,S,rfl,rfl,pt,(Y),[],Z,rfl,g0⟩
 refine W.skip (nrm (sr (va (v1) (bn H fun e1 i0 H=>?_))));obtain ⟨b,rfl,h0⟩:=((h2.mono T)).get i0;refine va (Q b) (va (Qo b 1) (bn H fun g1 j0 H=>?_));obtain ⟨v17,v19,q,i1,l0⟩:=Rel.open_screen_Screen (o.mono T) j0 h0;refine vx (le1 1 tT (y.gon q 0 rfl)) (bn H fun f1 o0 H=>?_);obtain ⟨d,rfl,m0⟩:=(l0).get o0;refine vv (Q d) (bn H fun a q0 H=>?_);obtain ⟨v26,t,s⟩:=Rel.open_place_Pen (o.mono T) q0 m0;refine vx (le1 0 eU (y.gon t 0 rfl)) (va (v26) (wln (W.seq (rD [] (Kp G []) y ?_))));intro b0 j1 A;have l:Kp G [] b0:=(Kp.nil A);refine ta 0 (v26) (ta 2 (v26) (ta 4 (v26) (ta 6 (Q b) (ta 7 (Q b) (ta 8 (Qo b 1) (tkx 9 l (fun R x f=>le1 1 tT (f.gon q 0 rfl)) (ta 10 (Q d) (ta 11 (Qo d 1) (tkx 12 l (fun R x f=>leN 29 1 [I a.At.Row,I a.At.Col,B a.At.Pending] (f.gon t 0 rfl)) (ta 13 (Q b) (ta 14 (Q b) (ta 15 (Qo b 1) (tkx 16 l (fun R x f=>le1 1 tT (f.gon q 0 rfl)) (ta 17 (Q d) (ta 18 (Qo d 4) (tkx 19 l (fun R x f=>le1 4 u_4 (f.gon t 0 rfl)) (bn H fun g s0 H=>o1 1 (gc 1 (cL A o.m a.G s.m s0) ?_))))))))))))))))));rintro v38 d0 k1 ⟨D,rfl⟩;have v0:Kp G [] d0:=(Kp.nil D);refine ⟨.inr v0,bn H fun h t0 H=>o1 3 (gc 3 (bG D o.m a.G s.m t0) ?_)⟩;rintro v46 e0 m1 ⟨E,rfl⟩;have w0:Kp G [] e0:=(Kp.nil E);refine ⟨.inr w0,bn H fun h1 u0 H=>o1 5 (gc 5 (sP E o.m a.G s.m u0) ?_)⟩;rintro v49 f0 n1 ⟨_,z0,M,rfl,u⟩;have x0:Kp G [] f0:=(Kp.nil M);refine ⟨.inr x0,?_⟩;obtain ⟨i,j,k,rfl⟩:=(u).form;refine ta 20 (.agg #[I g,I h,.slice i j k,I a.At.Row,I a.At.Col,B a.At.Pending,B a.Auto]) (o1 21 (gD 21 (sA 45 [I g,I h,.slice i j k,I a.At.Row,I a.At.Col,B a.At.Pending,B a.Auto] 1 M ⟨rfl,rfl,(u).one,rfl,rfl,rfl,rfl,trivial⟩) ?_));rintro p p1 n;have y0:Kp G [] p:=(Kp.nil n);refine ⟨.inr y0,dn (nrm (W.ret ?_))⟩;obtain rfl:=si H;have a0:=n.sD 2 [0];exact rF (c:=p) (vs:=[I g,I h,.slice i j k,I a.At.Row,I a.At.Col,B a.At.Pending,B a.Auto]) rfl (by kernel_rfl) (by kernel_rfl) (by kernel_rfl) (n.on 1 rfl _ rfl).1 ⟨_,p,rfl,rfl,pt,(.slice i j k),z0,a0,rfl,u.m⟩
def dD (sg:Sto) (p0:aE):Option (Sto×Bool):=
 (dB).bind fun t=>
 (orE (!t) ((em p0).bind fun u=>
 some u)).bind fun s=>
 if s=true then
 (dB).bind fun h=>
 some (sg,h)
 else
 (fJ p0).bind fun a=>
 (kz p0).bind fun i=>
 (dV p0).bind fun j=>
 (orE (!(i==j)) ((dV p0).bind fun k=>
 some (!(a.2==k)))).bind fun d=>
 (orE d ((kU p0).bind fun l=>
 (eJ p0).bind fun m=>
 (eK l m).bind fun n=>
 some (!n))).bind fun e=>
 if e=true then
 some (sg,false)
 else
 if (!a.2)=true then
 some (sg,(a.1.length:Int)==0)
 else
 (jp sg p0.Wide p0.High).bind fun b=>
 (dw b.1 b.2 a.1).bind fun c=>
 (bD c.2.isNil ((dI c.1 b.2).bind fun o=>
 (eJ p0).bind fun p=>
 (eK o p).bind fun q=>
 some q)).bind fun f=>
 (bD f ((eo p0).bind fun r=>
 some (decide ((a.1.length:Int)≤(w64 (3+(w64 (2 * r)))))))).bind fun g=>
 some (c.1,g)
theorem nh (O0:Own c0 G F) (R0:Rel c0 sg G) (hG:Gl [0,1,2,3,4,7] c0) (d:aE) {r:Sto×Bool} (n:Sl aL c0 v1 d.Lines) (H:dD sg d=some r): Calls prog 9 #[.agg #[I d.Wide,I d.High,v1,I d.At.Row,I d.At.Col,B d.At.Pending,B d.Auto]] c0.w (aP c0 fun c v=>∃G_:Gm,Own c G_ (F)∧Rel c r.1 G_∧v=B r.2):=by
 unfold dD at H;refine en func9 rfl rfl (sr ?_);obtain ⟨a3,a4,a5,rfl⟩:=(n).form;refine me (bx 45 [I d.Wide,I d.High,.slice a3 a4 a5,I d.At.Row,I d.At.Col,B d.At.Pending,B d.Auto] O0) ?_;rintro v10 c9 l9 ⟨b6,rfl,O7,j⟩;refine va (B false) (wln (W.seq (W.seq (bn H fun d1 i5 H=>bn H fun g5 z0 H=>W.join (Jn c9 fun c l=>Own c G (F)∧l= [(1,Q b6),(11,B g5)]) ?_ ?_))))
 ·clear H;refine W.region (cl (iy O7 (hG.m.le (by decide)) i5) ?_);rintro v18 y4 j7 ⟨t0,rfl⟩;refine va (B (!d1)) ?_;rcases bo (!d1) with p | p
  ·obtain rfl:=orT p z0;exact vb p (pz (va (B true) (wln (jn y4 ⟨t0,rfl⟩))))
  have E:=orF p z0;refine vb p (wn (vx (lN 45 (mm j)) (wn (bn E fun z5 j5 E=>cl (mn t0 d n.m j5) ?_))));rintro v27 z4 k7 ⟨s4,rfl⟩;obtain rfl:=si E;exact va (B z5) (wln (jn z4 ⟨s4,rfl⟩))
 rintro e_ w_ ⟨h7,i7,_,rfl,l7,rfl,u0,rfl⟩;refine nrm (cn H (fun k5 H=>?_) (fun k5 H=>?_))
 ·refine sr (bn H fun n4 l5 H=>cl (iy u0 (hG.m.le (by decide)) l5) ?_);rintro v41 b5 m7 ⟨t4,rfl⟩;refine va (B n4) (wln (W.ret (thr ?_)));obtain rfl:=si H;exact r1 (qq b5 ⟨G,t4,R0.m,rfl⟩)
 refine W.skip (nrm (sr (vx (lN 45 (mm j)) (bn H fun a m5 H=>cl (nf u0 (hG.m.le (by decide)) d n.m m5) ?_))));rintro v51 c5 n7 ⟨v43,c1,u4,rfl,f0⟩;refine va (.tuple #[v43,B a.2]) (va (v43) (va (B a.2) (va (v43) (va (B a.2) (wln (W.seq (W.seq (bn H fun j0 n5 H=>bn H fun k0 o5 H=>bn H fun k6 a1 H=>bn H fun s2 g0 H=>W.join (Jn c5 fun c l=>Own c G (es true bJ v43 38 c1 a.1 :: F)∧l= [(1,Q b6),(3,v43),(4,B a.2),(36,B s2)]) ?_ ?_))))))))
 ·clear H;refine rD [] (Kp G0 []) u4 ?_;intro d5 o7 v4;have t7:Kp G0 [] d5:=Kp.nil0;refine tx 0 (fun e b=>lN 45 (mm j)) (tx 2 (fun e b=>lN 45 (mm j)) (o1 1 (gc 1 (sM v4 (hG.m.le (by decide)) d n.m n5) ?_)));rintro v7 e5 p7 ⟨w4,rfl⟩;have u5:Kp G0 [] e5:=Kp.nil0;refine ⟨.inr u5,o1 3 (gc 3 (kM w4 d n.m o5) ?_)⟩;rintro w7 x0 q7 ⟨v0,rfl⟩;have v5:Kp G0 [] x0:=Kp.nil0;refine ⟨.inr v5,ta 4 (B (!(j0==k0))) ?_⟩;rcases bo (!(j0==k0)) with q | q
  ·obtain rfl:=orT q a1;refine AC.takeb 5 q rfl (by kernel_rfl) (by kernel_rfl) (fun e b=>(by kernel_rfl)) (tp 6 (tp 7 (tp 8 (tp 9 (ta 10 (B true) ?_)))));have b1:true=true:=rfl;obtain rfl:=orT b1 g0;exact AC.takeb 11 b1 rfl (by kernel_rfl) (by kernel_rfl) (fun e b=>(by kernel_rfl)) (tp 12 (tp 14 (tp 13 (tp 15 (tp 16 (tp 17 (ta 18 (B true) (dn (nrm (jn x0 ⟨v0,rfl⟩))))))))))
  have M:=orF q a1;refine bn M fun A p5 M=>AC.takeb 5 q rfl (by kernel_rfl) (by kernel_rfl) (fun e b=>(by kernel_rfl)) (ta 6 (B a.2) (tx 7 (fun e b=>lN 45 (mm j)) (o1 8 (gc 8 (kM v0 d n.m p5) ?_))));rintro x7 y0 r7 ⟨w0,rfl⟩;have w5:Kp G0 [] y0:=Kp.nil0;refine ⟨.inr w5,ta 9 (B (!(a.2==A))) ?_⟩;obtain rfl:=si M;refine ta 10 (B (!(a.2==A))) ?_;rcases bo (!(a.2==A)) with s | s
  ·obtain rfl:=orT s g0;exact AC.takeb 11 s rfl (by kernel_rfl) (by kernel_rfl) (fun e b=>(by kernel_rfl)) (tp 12 (tp 14 (tp 13 (tp 15 (tp 16 (tp 17 (ta 18 (B true) (dn (nrm (jn y0 ⟨w0,rfl⟩))))))))))
  have g:=orF s g0;refine bn g fun o4 q5 g=>bn g fun p4 r5 g=>bn g fun l0 s5 g=>AC.takeb 11 s rfl (by kernel_rfl) (by kernel_rfl) (fun e b=>(by kernel_rfl)) (tx 12 (fun e b=>lN 45 (mm j)) (tx 14 (fun e b=>lN 45 (mm j)) (o1 13 (gc 13 (vY w0 d n.m q5) ?_))));rintro z7 f5 s7 ⟨y7,u7,x4,rfl,t5⟩;have x5:Kp G0 [] f5:=Kp.nil0;refine ⟨.inr x5,o1 15 (gc 15 (mS x4 d n.m r5) ?_)⟩;rintro y6 f2 s3 ⟨a8,v6,f1,rfl,u2⟩;have b4:Kp G0 [] f2:=Kp.nil0;refine ⟨.inr b4,?_⟩;obtain ⟨g2,w2,h0,g1,v2⟩:=f1.frz 1 rfl (t5.mono s3);have c4:Kp G0 [] g2:=Kp.nil0;refine AC.gh w2 h0 (fun _=>c4) ?_;obtain ⟨i2,y2,t3,h1,x2⟩:=g1.frz 0 rfl (u2.mono h0);have d4:Kp G0 [] i2:=Kp.nil0;refine AC.gh y2 t3 (fun _=>d4) (o1 16 (gc 16 (mT h1 o4 p4 v2.m x2 s5) ?_));rintro z6 R o6 ⟨i1,rfl⟩;have e4:Kp G0 [] R:=Kp.nil0;refine ⟨.inr e4,ta 17 (B (!l0)) ?_⟩;obtain rfl:=si g;refine ta 18 (B (!l0)) (dn (nrm ?_));have j1:=i1.sD 3 [2];exact jn R ⟨j1,rfl⟩
 rintro e_ w_ ⟨S,m6,_,rfl,u3,rfl,x,rfl⟩;refine nrm (cn H (fun z2 H=>?_) (fun z2 H=>?_))
 ·refine sr (va (B false) (wln (W.ret (thr ?_))));obtain rfl:=si H;have k1:=x.sD 1 [];exact r1 (qq S ⟨G,k1,R0.m,rfl⟩)
 refine W.skip (nrm (W.seq (sr (va (B a.2) (va (B (!a.2)) (wln (cn H (fun b3 H=>?_) (fun b3 H=>?_))))))))
 ·refine sr (va (v43) (vx (lnO 3 nK f0.m) (vv (B ((a.1.length:Int)==0)) (wln (W.ret (thr ?_))))));obtain rfl:=si H;have m1:=x.sD 1 [];exact r1 (qq S ⟨G,m1,R0.m,rfl⟩)
 refine W.skip (nrm (sr (va (Q b6) (vx (l1 u_3 ((mm j) 0 _ rfl)) (va (Qo b6 (0+1)) (vx (l1 u_3 ((mm j) 1 _ rfl)) (bn H fun m0 c3 H=>cl (sL x R0.m d.Wide d.High c3) ?_)))))));rintro z j2 v3 ⟨_,a6,n1,d2,e6,rfl,Z⟩;refine va (z) (wln (W.seq (bn H fun D d3 H=>bn H fun l6 a0 H=>bn H fun t2 y H=>W.join (Jn j2 fun c l=>∃G_,Own c G_ (es false bJ v43 38 c1 a.1 :: F)∧l= [(2,B t2)]∧Rel c D.1 G_) ?_ ?_)))
 ·clear H;refine rD [] (Kp G0 []) n1 ?_;intro k2 w3 p1;have u6:Kp G0 [] k2:=Kp.nil0;refine ta 0 (z) (ta 1 (v43) ?_);obtain ⟨l2,f3,x3,q1,e3⟩:=p1.frz 0 rfl (f0.mono (u3.trans (v3.trans w3)));have f4:Kp G0 [] l2:=Kp.nil0;refine AC.gh f3 x3 (fun _=>f4) (o1 2 (gc 2 (mZ q1 d2.m (hG.m.le (by decide)) m0.2 a.1 Z.m e3 d3) ?_));rintro a7 T p6 ⟨_,t,N,o,rfl,g3⟩;have g4:Kp G0 [] T:=Kp.nil0;refine ⟨.inr g4,AC.take 3 (B D.2.isNil) rfl (by kernel_rfl) (by kernel_rfl) (fun e b=>(by rcases (g3).cs with ⟨b0,e0⟩ | ⟨b_,b0,e0⟩ | ⟨b_,b0,e0⟩ <;> (subst b0; rw [e0]; kernel_rfl))) ?_⟩;rcases bo (D.2.isNil) with h | h
  ·have f:=anT h a0;refine bn f fun q4 h3 f=>bn f fun r4 i3 f=>bn f fun o0 j3 f=>AC.takeb 4 h rfl (by kernel_rfl) (by kernel_rfl) (fun e b=>(by kernel_rfl)) (ta 5 (z) (tx 7 (fun e b=>lN 45 (mm j)) (o1 6 (gc 6 (mR N o m0.2 Z.m h3) ?_))));rintro c7 m2 q6 ⟨b7,w6,s1,rfl,k3⟩;have h4:Kp G0 [] m2:=Kp.nil0;refine ⟨.inr h4,o1 8 (gc 8 (mS s1 d n.m i3) ?_)⟩;rintro e7 n2 y3 ⟨d7,x6,t1,rfl,l3⟩;have i4:Kp G0 [] n2:=Kp.nil0;refine ⟨.inr i4,?_⟩;obtain ⟨o2,n3,i0,u1,m3⟩:=t1.frz 1 rfl (k3.mono y3);have j4:Kp G0 [] o2:=Kp.nil0;refine AC.gh n3 i0 (fun _=>j4) ?_;obtain ⟨p2,p3,z3,w1,o3⟩:=u1.frz 0 rfl (l3.mono i0);have k4:Kp G0 [] p2:=Kp.nil0;refine AC.gh p3 z3 (fun _=>k4) (o1 9 (gc 9 (mT w1 q4 r4 m3.m o3 j3) ?_));rintro f7 U r6 ⟨P,rfl⟩;have l4:Kp G0 [] U:=Kp.nil0;refine ⟨.inr l4,?_⟩;obtain rfl:=si f;refine ta 10 (B o0) ?_;rcases bo (o0) with i | i
   ·have u:=anT i y;refine bn u fun k q3 u=>AC.takeb 11 i rfl (by kernel_rfl) (by kernel_rfl) (fun e b=>(by kernel_rfl)) (ta 12 (v43) (tx 13 (fun e b=>lnO 3 nK f0.m) (tx 14 (fun e b=>lN 45 (mm j)) (o1 15 (gc 15 (nZ P d n.m q3) ?_)))));rintro g7 X s6 ⟨x1,rfl⟩;have m4:Kp G0 [] X:=Kp.nil0;refine ⟨.inr m4,ta 16 (I (w64 (2 * k))) (ta 17 (I (w64 (3+(w64 (2 * k))))) (ta 18 (B (decide ((a.1.length:Int)≤(w64 (3+(w64 (2 * k))))))) ?_))⟩;obtain rfl:=si u;refine ta 19 (B (decide ((a.1.length:Int)≤(w64 (3+(w64 (2 * k))))))) (ta 20 (B (decide ((a.1.length:Int)≤(w64 (3+(w64 (2 * k))))))) (dn (nrm ?_)));have y1:=x1.sD 3 [2];exact jn X ⟨t,y1,rfl,o.m⟩
   obtain rfl:=anF i y;refine AC.takeb 11 i rfl (by kernel_rfl) (by kernel_rfl) (fun e b=>(by kernel_rfl)) (tp 12 (tp 13 (tp 14 (tp 15 (tp 16 (tp 17 (tp 18 (ta 19 (B false) (ta 20 (B false) (dn (nrm ?_)))))))))));have z1:=P.sD 3 [2];exact jn U ⟨t,z1,rfl,o.m⟩
  obtain rfl:=anF h a0;refine AC.takeb 4 h rfl (by kernel_rfl) (by kernel_rfl) (fun e b=>(by kernel_rfl)) (tp 5 (tp 7 (tp 6 (tp 8 (tp 9 (ta 10 (B false) ?_))))));have d0:false=false:=rfl;obtain rfl:=anF d0 y;exact AC.takeb 11 d0 rfl (by kernel_rfl) (by kernel_rfl) (fun e b=>(by kernel_rfl)) (tp 12 (tp 13 (tp 14 (tp 15 (tp 16 (tp 17 (tp 18 (ta 19 (B false) (ta 20 (B false) (dn (nrm (jn T ⟨t,N,rfl,o⟩))))))))))))
 rintro e_ w_ ⟨q2,n6,_,rfl,t6,rfl,e1,b2,rfl,e2⟩;refine nrm (W.ret ?_);obtain rfl:=si H;have c2:=b2.sD 1 [];exact r1 (qq q2 ⟨e1,c2,e2,rfl⟩)
def dE (sg:Sto) (p0:aE):Option (Sto×Bool):=
 (dB).bind fun x=>
 (orE (!x) ((em p0).bind fun y=>
 some y)).bind fun w=>
 (orE w ((dV p0).bind fun o=>
 some (!o))).bind fun k=>
 if k=true then
 (dB).bind fun p=>
 some (sg,p)
 else
 (fJ p0).bind fun b=>
 (jp sg p0.Wide p0.High).bind fun f=>
 (dw f.1 f.2 b.1).bind fun e=>
 (dI e.1 f.2).bind fun q=>
 (fJ q).bind fun c=>
 (orE (!c.2) (some ((b.1.length:Int) != (c.1.length:Int)))).bind fun l=>
 if l=true then
 some (e.1,false)
 else
 (cv (σ:=Int) (τ:=(Sto×Bool) ⊕ Unit) (((b.1.length:Int) - 0).toNat+1) (fun a=>
 if (decide (a < (b.1.length:Int)))=true then
 (idx b.1 a).bind fun r=>
 (idx c.1 a).bind fun s=>
 (orE (r.Kind != s.Kind) ((idx b.1 a).bind fun t=>
 (idx c.1 a).bind fun u=>
 some (t.A != u.A))).bind fun m=>
 (orE m ((idx b.1 a).bind fun v=>
 (idx c.1 a).bind fun h=>
 some (v.B != h.B))).bind fun n=>
 (orE n ((idx b.1 a).bind fun i=>
 (idx c.1 a).bind fun j=>
 some (!(eqS (qY i.Bytes) (qY j.Bytes))))).bind fun g=>
 if g=true then
 some (.inr (.inl (e.1,false)))
 else
 some (.inl ((w64 (a+1))))
 else
 some (.inr (.inr ()))) (0)).bind fun d=>
 match d with
 | .inl d=>
 some d
 | .inr d=>
 some (e.1,true)
theorem ni (O0:Own c0 G F) (R0:Rel c0 sg G) (hG:Gl [0,1,2,3,4,7] c0) (n:aE) {r:Sto×Bool} (h2:Sl aL c0 v1 n.Lines) (H:dE sg n=some r): Calls prog 8 #[.agg #[I n.Wide,I n.High,v1,I n.At.Row,I n.At.Col,B n.At.Pending,B n.Auto]] c0.w (aP c0 fun c v=>∃G_:Gm,Own c G_ (F)∧Rel c r.1 G_∧v=B r.2):=by
 unfold dE at H;refine en func8 rfl rfl (sr ?_);obtain ⟨a3,a4,a5,rfl⟩:=(h2).form;refine me (bx 45 [I n.Wide,I n.High,.slice a3 a4 a5,I n.At.Row,I n.At.Col,B n.At.Pending,B n.Auto] O0) ?_;rintro v10 c9 l9 ⟨b6,rfl,O7,m8⟩;refine va (B false) (wln (W.seq (W.seq (bn H fun v2 d5 H=>bn H fun q7 q2 H=>bn H fun j3 z1 H=>W.join (Jn c9 fun c l=>Own c G (F)∧l= [(1,Q b6),(19,B j3)]) ?_ ?_))))
 ·clear H;refine W.region (cl (iy O7 (hG.m.le (by decide)) d5) ?_);rintro v19 w4 t7 ⟨n2,rfl⟩;refine va (B (!v2)) ?_;rcases bo (!v2) with j0 | j0
  ·obtain rfl:=orT j0 q2;refine vb j0 (pz (va (B true) ?_));have s2:true=true:=rfl;obtain rfl:=orT s2 z1;exact vb s2 (pz (ps (va (B true) (wln (jn w4 ⟨n2,rfl⟩)))))
  have k1:=orF j0 q2;refine vb j0 (wn (vx (lN 45 (mm m8)) (wn (bn k1 fun w2 e5 k1=>cl (mn n2 n h2.m e5) ?_))));rintro v29 x4 u7 ⟨o2,rfl⟩;obtain rfl:=si k1;refine va (B w2) ?_;rcases bo (w2) with k0 | k0
  ·obtain rfl:=orT k0 z1;exact vb k0 (pz (ps (va (B true) (wln (jn x4 ⟨o2,rfl⟩)))))
  have m1:=orF k0 z1;refine vb k0 (wn (vx (lN 45 (mm m8)) (wn (bn m1 fun j2 f5 m1=>cl (kM o2 n h2.m f5) ?_))));rintro v38 y4 v7 ⟨m4,rfl⟩;refine wa (B (!j2)) ?_;obtain rfl:=si m1;exact va (B (!j2)) (wln (jn y4 ⟨m4,rfl⟩))
 rintro e_ w_ ⟨j7,r7,_,rfl,w7,rfl,p2,rfl⟩;refine nrm (cn H (fun g5 H=>?_) (fun g5 H=>?_))
 ·refine sr (bn H fun l4 h5 H=>cl (iy p2 (hG.m.le (by decide)) h5) ?_);rintro v52 z4 x7 ⟨n4,rfl⟩;refine va (B l4) (wln (W.ret (thr ?_)));obtain rfl:=si H;exact r1 (qq z4 ⟨G,n4,R0.m,rfl⟩)
 refine W.skip (nrm (sr (vx (lN 45 (mm m8)) (bn H fun i i5 H=>cl (nf p2 (hG.m.le (by decide)) n h2.m i5) ?_))));rintro z7 k7 y7 ⟨v54,a0,o4,rfl,k⟩;refine va (.tuple #[v54,B i.2]) (va (v54) (va (B i.2) (va (v54) (va (B i.2) (wln (sr (va (Q b6) (vx (l1 u_3 ((mm m8) 0 _ rfl)) (va (Qo b6 (0+1)) (vx (l1 u_3 ((mm m8) 1 _ rfl)) (bn H fun k2 j5 H=>cl (sL o4 R0.m n.Wide n.High j5) ?_)))))))))));rintro g2 l7 l0 ⟨_,h7,p4,v4,i7,rfl,t2⟩;refine va (g2) (wln (sr (va (g2) (va (v54) ?_))));obtain ⟨m7,l5,e1,q4,k5⟩:=p4.frz 0 rfl (k.mono l0);refine WL.gh l5 (bn H fun g7 m5 H=>cl (mZ q4 v4.m (hG.m.le (by decide)) k2.2 i.1 t2.m k5 m5) ?_);rintro a8 n7 f1 ⟨_,D,r4,d1,rfl,s7⟩;refine wln (sr (va (g2) (bn H fun Z n5 H=>cl (mR r4 d1 k2.2 t2.m n5) ?_)));rintro b8 o7 g1 ⟨j1,i1,s4,rfl,o5⟩;obtain ⟨p7,q5,h1,t4,p5⟩:=s4.frz 0 rfl o5;refine WL.gh q5 (bn H fun f r5 H=>cl (nf t4 (hG.m.le (by decide)) Z p5 r5) ?_);rintro z6 o0 d0 ⟨b,y,n1,rfl,h⟩;refine va (.tuple #[b,B f.2]) (va (b) (va (B f.2) (va (b) (va (B f.2) (wln (W.seq (W.seq (bn H fun k3 x1 H=>W.join (Jn o0 fun c l=>Own c D (es true bJ b 38 y f.1 :: es false aL j1 48 i1 Z.Lines :: es false bJ v54 38 a0 i.1 :: F)∧l= [(3,v54),(6,b),(48,B k3)]) ?_ ?_))))))))
 ·clear H;refine W.region (va (B f.2) (va (B (!f.2)) ?_));rcases bo (!f.2) with S | S
  ·obtain rfl:=orT S x1;exact vb S (pz (pz (ps (va (B true) (wln (jn o0 ⟨n1,rfl⟩))))))
  have y2:=orF S x1;refine vb S (wa (v54) (wn (vx (lnO 3 nK k.m) (wa (b) (wn (vx (lnO 3 nK h) (wa (B ((i.1.length:Int) != (f.1.length:Int))) ?_)))))));obtain rfl:=si y2;exact va (B ((i.1.length:Int) != (f.1.length:Int))) (wln (jn o0 ⟨n1,rfl⟩))
 rintro e_ w_ ⟨P,l6,_,rfl,o,rfl,p1,rfl⟩;refine nrm (cn H (fun l3 H=>?_) (fun l3 H=>?_))
 ·refine sr (va (B false) (wln (W.ret (thr ?_))));obtain rfl:=si H;have z2:=p1.sD 3 [];exact r1 (qq P ⟨D,z2,d1.m,rfl⟩)
 refine W.skip (nrm (W.seq (sr (va (I 0) (wln (W.block (bn H fun a1 y1 m0=>lp y1 (fun a=>Jn P fun c l=>Own c D (es true bJ b 38 y f.1 :: es false aL j1 48 i1 Z.Lines :: es false bJ v54 38 a0 i.1 :: F)∧l= [(3,v54),(6,b),(8,I a)]) (fun t=>match t with | .inl x_=>(fun u2 ex e w=>ex= .ret∧(Jn P fun c l=>∃G_,Own c G_ (F)∧l= [(2,B u2.2)]∧Rel c u2.1 G_) e w) x_ | .inr x_=>(fun c6 ex e w=>ex= .exit 0∧(Jn P fun c l=>Own c D (es true bJ b 38 y f.1 :: es false aL j1 48 i1 Z.Lines :: es false bJ v54 38 a0 i.1 :: F)∧l= []) e w) x_) ?_ ?_ ?_)))))))
 ·clear m0 y1;intro a c8 b5 s5 H;revert b5 s5;rintro e_ w_ ⟨t1,m6,_,rfl,p,rfl,q1,rfl⟩;refine W.seq (sr (va (I a) (va (v54) (vx (lnO 3 nK k.m) (va (B (decide (a < (i.1.length:Int)))) (wln (cn H (fun m3 H=>?_) (fun m3 H=>?_))))))))
  ·refine W.skip (nrm (W.seq (W.block (W.seq (bn H fun b1 q0 H=>bn H fun c1 s0 H=>bn H fun j6 b2 H=>bn H fun k6 t0 H=>bn H fun l2 b0 H=>W.join (Jn t1 fun c l=>Own c D (es true bJ b 38 y f.1 :: es false aL j1 48 i1 Z.Lines :: es false bJ v54 38 a0 i.1 :: F)∧l= [(3,v54),(6,b),(8,I a),(106,B l2)]) ?_ ?_)))))
   ·clear H;refine rD [] (Kp G0 [es false bJ v54 38 a0 i.1,es true bJ b 38 y f.1]) q1 ?_;intro R q x;have s:Kp G0 [es false bJ v54 38 a0 i.1,es true bJ b 38 y f.1] R:=(Kp.cons (x.on 2 rfl) (Kp.cons (x.on 0 rfl) Kp.nil0));refine ta 0 (v54) (ta 1 (I a) (tx 2 (fun g d=>ixO nK k.m q0) (ta 3 (Qo (sb v54) (a.toNat * 4)) ?_)));obtain ⟨t5,n3,z3⟩:=OA.at (k.mono (l0.trans (e1.trans (f1.trans (g1.trans (h1.trans (d0.trans (o.trans (p.trans q))))))))) q0;obtain ⟨a7,rfl,q6⟩:=n3;refine AC.takeK 4 (I b1.Kind) s rfl (by kernel_rfl) (by kernel_rfl) (by kernel_rfl) (fun g d u=>(rx (by kernel_rfl) (mE u_3 rfl (u.on 0 rfl) (k.m.blk q0) (at1 (j:=0) z3 rfl)))) (ta 5 (b) (ta 6 (I a) (tx 7 (fun g d=>ixO nK h.m s0) (ta 8 (Qo (sb b) (a.toNat * 4)) ?_))));obtain ⟨u5,o3,b4⟩:=OA.at (h.mono (o.trans (p.trans q))) s0;obtain ⟨b7,rfl,r6⟩:=o3;refine AC.takeK 9 (I c1.Kind) s rfl (by kernel_rfl) (by kernel_rfl) (by kernel_rfl) (fun g d u=>(rx (by kernel_rfl) (mE u_3 rfl (u.on 1 rfl) (h.m.blk s0) (at1 (j:=0) b4 rfl)))) (ta 10 (B (b1.Kind != c1.Kind)) ?_);rcases bo (b1.Kind != c1.Kind) with T | T
    ·obtain rfl:=orT T b2;refine AC.takeb 11 T rfl (by kernel_rfl) (by kernel_rfl) (fun g d=>(by kernel_rfl)) (tp 12 (tp 13 (tp 14 (tp 15 (tp 16 (tp 17 (tp 18 (tp 19 (tp 20 (tp 21 (tp 22 (ta 23 (B true) ?_))))))))))));have c2:true=true:=rfl;obtain rfl:=orT c2 t0;refine AC.takeb 24 c2 rfl (by kernel_rfl) (by kernel_rfl) (fun g d=>(by kernel_rfl)) (tp 25 (tp 26 (tp 27 (tp 28 (tp 29 (tp 30 (tp 31 (tp 32 (tp 33 (tp 34 (tp 35 (ta 36 (B true) ?_))))))))))));have d2:true=true:=rfl;obtain rfl:=orT d2 b0;exact AC.takeb 37 d2 rfl (by kernel_rfl) (by kernel_rfl) (fun g d=>(by kernel_rfl)) (tp 38 (tp 39 (tp 40 (tp 41 (tp 42 (tp 43 (tp 44 (tp 45 (tp 46 (tp 47 (tp 48 (tp 49 (tp 50 (ta 51 (B true) (dn (nrm (jn R ⟨x,rfl⟩)))))))))))))))))
    have E:=orF T b2;refine bn E fun g0 u0 E=>bn E fun h0 v0 E=>AC.takeb 11 T rfl (by kernel_rfl) (by kernel_rfl) (fun g d=>(by kernel_rfl)) (ta 12 (v54) (ta 13 (I a) (tx 14 (fun g d=>ixO nK k.m u0) (ta 15 (Qo (sb v54) (a.toNat * 4+1)) ?_))));obtain ⟨v5,p3,c4⟩:=OA.at (k.mono (l0.trans (e1.trans (f1.trans (g1.trans (h1.trans (d0.trans (o.trans (p.trans q))))))))) u0;obtain ⟨c7,rfl,s6⟩:=p3;refine AC.takeK 16 (I g0.A) s rfl (by kernel_rfl) (by kernel_rfl) (by kernel_rfl) (fun g d u=>(rx (by kernel_rfl) (mE u_3 rfl (u.on 0 rfl) (k.m.blk u0) (at1 (j:=1) c4 rfl)))) (ta 17 (b) (ta 18 (I a) (tx 19 (fun g d=>ixO nK h.m v0) (ta 20 (Qo (sb b) (a.toNat * 4+1)) ?_))));obtain ⟨w5,q3,d4⟩:=OA.at (h.mono (o.trans (p.trans q))) v0;obtain ⟨d7,rfl,t6⟩:=q3;refine AC.takeK 21 (I h0.A) s rfl (by kernel_rfl) (by kernel_rfl) (by kernel_rfl) (fun g d u=>(rx (by kernel_rfl) (mE u_3 rfl (u.on 1 rfl) (h.m.blk v0) (at1 (j:=1) d4 rfl)))) (ta 22 (B (g0.A != h0.A)) ?_);obtain rfl:=si E;refine ta 23 (B (g0.A != h0.A)) ?_;rcases bo (g0.A != h0.A) with U | U
    ·obtain rfl:=orT U t0;refine AC.takeb 24 U rfl (by kernel_rfl) (by kernel_rfl) (fun g d=>(by kernel_rfl)) (tp 25 (tp 26 (tp 27 (tp 28 (tp 29 (tp 30 (tp 31 (tp 32 (tp 33 (tp 34 (tp 35 (ta 36 (B true) ?_))))))))))));have e2:true=true:=rfl;obtain rfl:=orT e2 b0;exact AC.takeb 37 e2 rfl (by kernel_rfl) (by kernel_rfl) (fun g d=>(by kernel_rfl)) (tp 38 (tp 39 (tp 40 (tp 41 (tp 42 (tp 43 (tp 44 (tp 45 (tp 46 (tp 47 (tp 48 (tp 49 (tp 50 (ta 51 (B true) (dn (nrm (jn R ⟨x,rfl⟩)))))))))))))))))
    have M:=orF U t0;refine bn M fun i0 w0 M=>bn M fun z x0 M=>AC.takeb 24 U rfl (by kernel_rfl) (by kernel_rfl) (fun g d=>(by kernel_rfl)) (ta 25 (v54) (ta 26 (I a) (tx 27 (fun g d=>ixO nK k.m w0) (ta 28 (Qo (sb v54) (a.toNat * 4+2)) ?_))));obtain ⟨x5,s3,e4⟩:=OA.at (k.mono (l0.trans (e1.trans (f1.trans (g1.trans (h1.trans (d0.trans (o.trans (p.trans q))))))))) w0;obtain ⟨e7,rfl,u6⟩:=s3;refine AC.takeK 29 (I i0.B) s rfl (by kernel_rfl) (by kernel_rfl) (by kernel_rfl) (fun g d u=>(rx (by kernel_rfl) (mE u_3 rfl (u.on 0 rfl) (k.m.blk w0) (at1 (j:=2) e4 rfl)))) (ta 30 (b) (ta 31 (I a) (tx 32 (fun g d=>ixO nK h.m x0) (ta 33 (Qo (sb b) (a.toNat * 4+2)) ?_))));obtain ⟨y5,t3,f4⟩:=OA.at (h.mono (o.trans (p.trans q))) x0;obtain ⟨f7,rfl,v6⟩:=t3;refine AC.takeK 34 (I z.B) s rfl (by kernel_rfl) (by kernel_rfl) (by kernel_rfl) (fun g d u=>(rx (by kernel_rfl) (mE u_3 rfl (u.on 1 rfl) (h.m.blk x0) (at1 (j:=2) f4 rfl)))) (ta 35 (B (i0.B != z.B)) ?_);obtain rfl:=si M;refine ta 36 (B (i0.B != z.B)) ?_;rcases bo (i0.B != z.B) with X | X
    ·obtain rfl:=orT X b0;exact AC.takeb 37 X rfl (by kernel_rfl) (by kernel_rfl) (fun g d=>(by kernel_rfl)) (tp 38 (tp 39 (tp 40 (tp 41 (tp 42 (tp 43 (tp 44 (tp 45 (tp 46 (tp 47 (tp 48 (tp 49 (tp 50 (ta 51 (B true) (dn (nrm (jn R ⟨x,rfl⟩)))))))))))))))))
    have N:=orF X b0;refine bn N fun e0 y0 N=>bn N fun f0 z0 N=>AC.takeb 37 X rfl (by kernel_rfl) (by kernel_rfl) (fun g d=>(by kernel_rfl)) (ta 38 (v54) (ta 39 (I a) (tx 40 (fun g d=>ixO nK k.m y0) (ta 41 (Qo (sb v54) (a.toNat * 4+3)) ?_))));obtain ⟨z5,u3,g4⟩:=OA.at (k.mono (l0.trans (e1.trans (f1.trans (g1.trans (h1.trans (d0.trans (o.trans (p.trans q))))))))) y0;obtain ⟨i4,rfl,v3⟩:=u3;refine AC.takeK 42 (i4) s rfl (by kernel_rfl) (by kernel_rfl) (by kernel_rfl) (fun g d u=>(rx (by kernel_rfl) (mE tg rfl (u.on 0 rfl) (k.m.blk y0) (at1 (j:=3) g4 rfl)))) (AC.take 43 (.string (qY e0.Bytes)) rfl (by kernel_rfl) (by kernel_rfl) (fun g d=>(rx (by kernel_rfl) (uL tg u_5 u_9 v3.m))) (ta 44 (b) (ta 45 (I a) (tx 46 (fun g d=>ixO nK h.m z0) (ta 47 (Qo (sb b) (a.toNat * 4+3)) ?_)))));obtain ⟨a6,w3,h4⟩:=OA.at (h.mono (o.trans (p.trans q))) z0;obtain ⟨j4,rfl,x3⟩:=w3;refine AC.takeK 48 (j4) s rfl (by kernel_rfl) (by kernel_rfl) (by kernel_rfl) (fun g d u=>(rx (by kernel_rfl) (mE tg rfl (u.on 1 rfl) (h.m.blk z0) (at1 (j:=3) h4 rfl)))) (AC.take 49 (.string (qY f0.Bytes)) rfl (by kernel_rfl) (by kernel_rfl) (fun g d=>(rx (by kernel_rfl) (uL tg u_5 u_9 x3.m))) (AC.take 50 (B (!(eqS (qY e0.Bytes) (qY f0.Bytes)))) rfl (by kernel_rfl) (by kernel_rfl) (fun g d=>(Eo (by kernel_rfl))) ?_));obtain rfl:=si N;exact ta 51 (B (!(eqS (qY e0.Bytes) (qY f0.Bytes)))) (dn (nrm (jn R ⟨x,rfl⟩)))
   rintro e_ w_ ⟨u1,n6,_,rfl,w6,rfl,s1,rfl⟩;refine nrm (cn H (fun y3 H=>?_) (fun y3 H=>?_))
   ·refine sr (va (B false) (wln (W.ret (bkr (thr ?_)))));obtain rfl:=si H;refine ⟨_,rfl,⟨rfl,?_⟩⟩;have b3:=s1.sD 3 [];exact jn u1 ⟨D,b3,rfl,d1.m⟩
   refine W.skip (bkn (nrm (W.region (va (I a) (vv (I (w64 (a+1))) (WL.nil ?_))))));obtain rfl:=si H;exact ⟨_,rfl,jn u1 ⟨s1,rfl⟩⟩
  refine W.exit (thx ?_);obtain rfl:=si H;exact ⟨_,rfl,rfl,jn t1 ⟨q1,rfl⟩⟩
 ·exact jn P ⟨p1,rfl⟩
 rcases a1 with a1 | a1
 ·intro c5; revert c5;rintro _ e_ w_ ⟨rfl,h3,o6,_,rfl,x6,rfl,x2,c3,rfl,f3⟩;refine bkr (thr ?_);obtain rfl:=si m0;exact r1 (qq h3 ⟨x2,c3,f3,rfl⟩)
 rintro _ e_ w_ ⟨rfl,i3,p6,_,rfl,y6,rfl,d3,rfl⟩;refine bke (nrm (sr (va (B true) (wln (W.ret ?_)))));obtain rfl:=si m0;have e3:=d3.sD 3 [];exact r1 (qq i3 ⟨D,e3,d1.m,rfl⟩)
end Go.Proofs.YtclmdpamofdoiaaGreatDoor
namespace Go.Lt
open Go.ChangeShapes Go.WideShapes Go.RowKit
def C0 (w:World):Cx:=⟨w,fun _ _=>False,fun _ _=>none⟩
theorem HF (w:World):Own (C0 w) (fun _ _=>[]) []:=
 ⟨⟨fun i e h=>by cases i <;> simp [at_] at h,fun i j e e' h=>by cases i <;> simp [at_] at h⟩,fun _ _ _=>rfl⟩
theorem im0 {w:World} {b o:Nat} {v:Value} (h:w.cell? ⟨b,o,none⟩=some v):Im (C0 w) b o v:=by
 refine ⟨?_,id,h⟩;unfold World.cell? at h;split at h
 ·rename_i hh; exact (Array.getElem?_eq_some_iff.1 hh).1
 ·cases h
def Rd (P:Program) (t:TypeId) {α:Type} (R:Rp α) (K:α→Prop):Prop:=
 P.cellsOf t=R.size∧∀{H:Type} {enc:TypeId×Value→H} {w:World} {sp:Nat→Bool} {held:Bool} {fuel:Nat} {cs:List Value} {x:DataW H×List MemPlace},
  DataW.trod enc P w 0 sp held fuel t cs=some x→∃y,R.cells (C0 w) cs y∧K y
theorem Rd.int {P:Program} {t:TypeId} {k:IntKind} (ht:P.underlying t=some (.int k)) (hc:P.cellsOf t=1):Rd P t (RI k) (fun n=>(Lit.int k n).wf=true):=
 ⟨hc,fun h=>by obtain ⟨n,rfl,_,hw⟩:=DataW.trod_int ht h; exact ⟨n,rfl,hw⟩⟩
theorem Rd.bool {P:Program} {t:TypeId} (ht:P.underlying t=some .bool) (hc:P.cellsOf t=1):Rd P t RB (fun _=>True):=
 ⟨hc,fun h=>by obtain ⟨n,rfl,_⟩:=DataW.trod_bool ht h; exact ⟨n,rfl,trivial⟩⟩
theorem HB {α:Type} {Q:Nat→α→Prop}:∀n,(∀i,i < n→∃x,Q i x)→∃xs:List α,xs.length=n∧∀i x,xs[i]? = some x→Q i x
 | 0,_=>⟨[],rfl,fun i x h=>by simp at h⟩
 | n+1,h=>by
  obtain ⟨xs,hl,hx⟩:=HB n fun i hi=>h i (I4 hi);obtain ⟨y,hy⟩:=h n (Jd n);refine ⟨xs++ [y],by simp [hl],fun i x hi=>?_⟩;rw [ft] at hi;split at hi
  ·exact hx i x hi
  ·rename_i hn
   have h1:=(List.getElem?_eq_some_iff.1 hi).1;simp only [aI,bd] at h1;obtain rfl:i=n:=by omega
   rw [hl,mj] at hi;cases hi;exact hy
theorem yR {w:World} {a:Addr} {n:Nat} {cs:List Value} (h:w.cells? 0 a n=some cs):cs.length=n∧∀j u,cs[j]? = some u→w.cell? (a.add j)=some u:=by
 unfold World.cells? at h;rw [ae (dp _)] at h;have hl:cs.length=n:=by simpa using mapM_some_length h
 refine ⟨hl,fun j u hu=>?_⟩;have hjn:j < n:=by have:=(List.getElem?_eq_some_iff.1 hu).1; omega
 have hj:=mapM_some_get h j j (dq hjn);rw [hu] at hj;exact hj
theorem Rd.field {P:Program} {H:Type} {enc:TypeId×Value→H} {w:World} {sp:Nat→Bool} {held:Bool} {n:Nat} {cs:List Value} {fs:Array Field} {xs:List (DataW H×List MemPlace)}
  (hf:∀(i:Nat) (f:Field),fs[i]? = some f→DataW.trod enc P w 0 sp held n f.type ((cs.drop f.offset).take (P.cellsOf f.type))=xs[i]?) (hx:xs.length=fs.size)
  (i:Nat) {f:Field} (hi:fs[i]? = some f) {α:Type} {R:Rp α} {K:α→Prop} (h:Rd P f.type R K):∃y,R.cells (C0 w) ((cs.drop f.offset).take R.size) y∧K y:=by
 have hlt:=(Array.getElem?_eq_some_iff.1 hi).1;have:=hf i f hi;rw [af (show i < xs.length by omega),h.1] at this;exact h.2 this
section
variable {P:Program} {H:Type} {enc:TypeId×Value→H} {w:World} {sp:Nat→Bool} {held:Bool} {t:TypeId} {v:Value} {d:DataW H} {p:List MemPlace}
end
theorem oV {H:Type} {enc:TypeId×Value→H} {P:Program} (hl:laidOutB P=true) {w w':World} (h:∀k,k < w.heap.size→w'.heap[k]? = w.heap[k]?) {sp:Nat→Bool}:
  ∀{ts:List TypeId} {vs:List Value} {ds:List (DataW H)} {ps:List MemPlace},(ts.all fun t=>P.readableRec t && decide (t < P.types.size))=true→(∀x∈ps,x.block < w.heap.size)→(∀x∈ps,sp x.block=true)→
  DataW.TrodAll enc P w 0 (fun _=>true) true ts vs ds ps→DataW.TrodAll enc P w' 0 sp true ts vs ds ps
 | [],[],[],_,_,_,_,hA=>hA
 | [],_ :: _,_,_,_,_,_,hA=>hA.elim
 | [],[],_ :: _,_,_,_,_,hA=>hA.elim
 | _ :: _,[],_,_,_,_,_,hA=>hA.elim
 | _ :: _,_ :: _,[],_,_,_,_,hA=>hA.elim
 | t :: ts,v :: vs,d :: ds,ps,hr,hlt,hsp,hA=>by
  obtain ⟨p,q,h1,h2,rfl⟩:=hA;simp only [List.all_cons,aq,an] at hr;refine ⟨p,q,WideElems.Trod_stays hl hr.1.1 hr.1.2 h1 (fun x hx=>?_) (fun x hx=>hsp x (ew _ hx)),oV hl h hr.2 (fun x hx=>hlt x (ur _ hx)) (fun x hx=>hsp x (ur _ hx)) h2,rfl⟩;have hb:=hlt x (ew _ hx)
  cases x with
  | cell b o=>exact mf (w:=w) (h b hb)
  | map b=>exact h b hb
theorem wG {H:Type} {enc:TypeId×Value→H} {P:Program} {f:Func} {s:ChangeSpec} {apart fresh handsOn again:Bool} {w w':World} {args:Array Value} {v:Value} {ds gs:List (DataW H)} {ps before:List MemPlace}
  (hW:DataW.Whole enc P f.params.toList s.vars apart w args.toList ds gs before) (he:before=ps++ [])
  (hr:∀(b:Nat) (sp:Nat→Bool) (hd:Bool),DataW.TrodAll enc P w' b sp hd f.resultTypes.toList (v.resultList f.resultTypes.size) (s.fn H (ds++gs)).results [])
  (ha:∀sp:Nat→Bool,(∀x∈ps,sp x.block=true)→DataW.TrodAll enc P w' 0 sp true f.params.toList args.toList (s.fn H (ds++gs)).args ps)
  (hv:∀sp:Nat→Bool,DataW.TrodVars enc P w' sp s.vars (s.fn H (ds++gs)).vars [])
  (hg:Gr w w') (ho:∀(j:Nat) (t:TypeId) (r:Value),f.resultTypes[j]? = some t→(v.resultList f.resultTypes.size)[j]? = some r→Value.okWide P w' .any 0 t r):s.post enc P f apart fresh handsOn again w args v w':=by
 rw [da] at he;subst he;have hlt:∀x∈before,x.block < w.heap.size:=fun x hx=>hW.lt x hx;refine ⟨ds,gs,before,[],before,[],hW,hr _ _ _,ha _ (fun x hx=>vm (hlt x hx)),hv _,IQ (fun x hx=>⟨hx,.inr (.inl hx)⟩) (hg.frame (· ∈before)),fun _=>?_⟩;obtain ⟨_,_,_,_,_,hz,hn⟩:=hW;refine ⟨ho,_,_,([]++before)++ [],⟨[]++before,[],trodAll_append (ha _ fun _ _=>rfl) (hr _ _ _),hv _,rfl,fun b off hb=>?_,fun e=>?_⟩,fun x hx _=>by simpa using hx⟩
 ·have hb':MemPlace.cell b off∈before:=by simpa using hb
  have:=hlt _ hb';rw [hg.2.1 ⟨b,off,none⟩ this];exact hz b off (by simpa using hb')
 ·simpa using hn e
theorem Gv {P:Program} {laid:List (String×DataW Unit)} {w:World} (h:(laid.filter fun x=>x.2.handleName?.isSome)= []):laidMetH P laid w=laidMet P laid w:=by
 unfold laidMetH;rw [h]
theorem wL {P:Program} {W:World} {ti tp te ts:TypeId} {ms:Array (String×TypeId)} {f:Field} (hi:P.underlying ti=some (.interface ms)) (hrow:∀u,P.typeName? 3 u=some "*errors.errorString"→u=tp)
  (hp:P.underlying tp=some (.pointer te)) (he:P.underlying te=some (.struct #[f])) (hft:f.type=ts) (hfo:f.offset=0) (hs:P.underlying ts=some .string) (hc:P.cellsOf te=1) (hcs:P.cellsOf ts=1):
  ∀{laid:List (String×DataW Unit)} {ps:List MemPlace},DataW.LaidVars P W laid ps→(∀b off,MemPlace.cell b off∈ps→(∃c t,W.heap[b]? = some (.cells c t (0,0)))∧∀u v,W.cell? ⟨b,off,none⟩=some (.iface u v)→Value.okWide P W .any 0 u v)→
  ∀n text g,(n,DataW.iface "*errors.errorString" (.ptr (.agg [.lit (.string text)])))∈laid→P.globalNamed n=some g→(P.globals[g]?).map (·.type)=some ti→∃a s,W.cell? ⟨g,0,none⟩=some (.iface tp (.pointer (some a)))∧W.cell? a=some (.string s)∧s.data.toList=text∧∃c t,W.heap[a.block]? = some (.cells c t (0,0))
 | [],_,_,_,_,_,_,hm,_,_=>by cases hm
 | (n',d) :: r,ps,⟨g',t,cs,fuel,p,q,hg',ht',hv,hd,hr,e⟩,hrows,n,text,g,hm,hg,ht=>by
  subst e;rcases List.mem_cons.1 hm with hh | hm
  ·cases hh;obtain rfl:=bi (hg.symm.trans hg');obtain rfl:=bi (ht.symm.trans ht');obtain ⟨l⟩:=cs;have ok:∀u v,l= [.iface u v]→Value.okWide P W .any 0 u v:=fun u v e=>by
    subst e;exact (hrows g 0 (by simp [MemPlace.row])).2 u v (by simpa using Jl hg hv 0)
   obtain ⟨a,s,rfl,h1,h2,_,rfl⟩:=errorString_of_trod hi hrow hp he hft hfo hs hc hcs hd ok;exact ⟨a,s,by simpa using Jl hg hv 0,h1,h2,(hrows a.block a.off (by simp [MemPlace.row])).1⟩
  ·exact wL hi hrow hp he hft hfo hs hc hcs hr (fun b off hb=>hrows b off (ur _ hb)) n text g hm hg ht
theorem C7 {P:Program} {f:FuncId} {fn:Func} {s:ChangeSpec} {c:OpenClaim} (l1:laidOutB P=true) (l2:mapsRowed P=true) (l3:(P.stops== [])=true) (l4:(P.stopKnobs== [])=true) (l5:P.stopsHeard=true) (l6:P.mayEnter=true)
  (l7:(c.lifted==P.liftsFinal)=true) (l8:(P.make==some c.make)=true) (l9:(c.plainKeys==P.plainKeys)=true)
  (a0:c.wf (OpenSpec.ofChange s)=true) (a1:(fn.params.all (P.readableRec ·) && namedTie P c.named s.vars && (c.stops== []) && (c.knobs== []))=true)
  (a2:(c.inPlace==P.inPlace f)=true) (a3:(c.unfollowed==P.unfollowed f)=true) (a4:(c.recurses==P.recurses f)=true) (a5:(c.named==P.varsNamed f)=true)
  (a6:((c.maps==(fn.params.toList++s.plain.varTypes P).any (P.mapsRec ·)) && (c.ifaces==(fn.params.toList++s.plain.varTypes P).any (P.ifacesRec ·)) && (c.mapsOut==P.mapsAmong fn.resultTypes.toList) &&
   (c.loops==(fn.params.toList++s.plain.varTypes P).any (P.loopsFrom ·)) && (c.wideKeys==(fn.params.toList++s.plain.varTypes P++fn.resultTypes.toList).any (P.wideKeysFrom ·)) &&
   s.vars.all (P.varReadable ·) && fn.resultTypes.all (fun t=>P.readableRec t && decide (t < P.types.size)) && (c.ifacesOut==fn.resultTypes.toList.any (P.ifacesRec ·)) && (c.loopsOut==fn.resultTypes.toList.any (P.loopsFrom ·)))=true)
  (a7:(c.shortTexts.isNone && (c.kinds==(if c.domain.isEmpty then [] else fn.params.toList.map fun t=>match P.underlying t with | some (.int k)=>some k | _=>none)) && (c.pinned==c.pinnedBy) &&
   (c.veiled==(fn.params.toList++s.plain.varTypes P++fn.resultTypes.toList).any (P.veiledRec ·)) && c.veiledFits P fn.params.toList (fn.params.toList++s.plain.varTypes P++fn.resultTypes.toList))=true):joinedFacts P f fn s c=true:=by
 simp only [aq] at a1 a6 a7;obtain ⟨⟨⟨b1,b2⟩,b3⟩,b4⟩:=a1;obtain ⟨⟨⟨⟨⟨⟨⟨⟨c1,c2⟩,c3⟩,c4⟩,c5⟩,c6⟩,c7⟩,c8⟩,c9⟩:=a6;obtain ⟨⟨⟨⟨d1,d2⟩,d3⟩,d4⟩,d5⟩:=a7;unfold joinedFacts;simp only [aq];exact ⟨⟨⟨⟨⟨⟨⟨⟨⟨⟨⟨⟨⟨⟨⟨⟨⟨⟨⟨⟨⟨⟨⟨⟨⟨⟨⟨⟨⟨⟨⟨a0,l1⟩,l2⟩,b1⟩,b2⟩,b3⟩,l3⟩,b4⟩,l4⟩,a2⟩,a3⟩,a4⟩,a5⟩,c1⟩,c2⟩,c3⟩,c4⟩,c5⟩,c6⟩,c7⟩,c8⟩,c9⟩,l9⟩,d1⟩,l5⟩,l6⟩,l7⟩,l8⟩,d2⟩,d3⟩,d4⟩,d5⟩
end Go.Lt
namespace Go.Proofs.YtclmdpamofdoiaaGreatDoor
open Go Go.Lt
set_option linter.unusedVariables false
theorem IG {α:Type} {cs:List α} (h:cs.length=7):∃a0 a1 a2 a3 a4 a5 a6,cs= [a0,a1,a2,a3,a4,a5,a6]:=by
 match cs,h with
 | [a0,a1,a2,a3,a4,a5,a6],_=>exact ⟨_,_,_,_,_,_,_,rfl⟩
theorem IH {α:Type} {cs:List α} (h:cs.length=3):∃a0 a1 a2,cs= [a0,a1,a2]:=by
 match cs,h with
 | [a0,a1,a2],_=>exact ⟨_,_,_,rfl⟩
theorem HM {α:Type} {cs:List α} (h:cs.length=2):∃a0 a1,cs= [a0,a1]:=by
 match cs,h with
 | [a0,a1],_=>exact ⟨_,_,rfl⟩
def K_3 (n:Int):Prop:=(Lit.int .i64 n).wf=true
theorem D_3:Rd Tryz.prog 3 (RI .i64) K_3:=Rd.int Tryz.underlying3 (by kernel_rfl)
def Ir (n:Int):Prop:=(Lit.int .i32 n).wf=true
theorem IZ:Rd Tryz.prog 21 (RI .i32) Ir:=Rd.int Tryz.underlying21 (by kernel_rfl)
def K_4 (_:Bool):Prop:=True
theorem D_4:Rd Tryz.prog 4 RB K_4:=Rd.bool Tryz.underlying4 (by kernel_rfl)
def IW (x:ai):Prop:=K_3 x.Row∧K_3 x.Col∧K_4 x.Pending
theorem IY:Rd Tryz.prog 29 xJ IW:=by
 refine ⟨by kernel_rfl,fun {H enc w sp held fuel cs x} h=>?_⟩;obtain ⟨xs,n,rfl,rfl,hl,hn,hf⟩:=rA Tryz.underlying29 h;replace hl:=hl.trans (show Tryz.prog.cellsOf 29=3 by kernel_rfl);obtain ⟨a0,a1,a2,rfl⟩:=IH hl;obtain ⟨y0,e0,k0⟩:=Rd.field hf hn 0 rfl D_3;have e0: [a0]= [.int .i64 y0]:=e0;cases e0;obtain ⟨y1,e1,k1⟩:=Rd.field hf hn 1 rfl D_3;have e1: [a1]= [.int .i64 y1]:=e1;cases e1;obtain ⟨y2,e2,k2⟩:=Rd.field hf hn 2 rfl D_4;have e2: [a2]= [.bool y2]:=e2;cases e2;exact ⟨⟨y0,y1,y2⟩,rfl,k0,k1,k2⟩
theorem Hu (w:World):Rel (C0 w) ⟨[],[],[],[],[],[]⟩ (fun _ _=>[]):=
 ⟨⟨fun k x h=>by simp at h,fun _ _=>rfl⟩,⟨fun k x h=>by simp at h,fun _ _=>rfl⟩,⟨fun k x h=>by simp at h,fun _ _=>rfl⟩,⟨fun k x h=>by simp at h,fun _ _=>rfl⟩,⟨fun k x h=>by simp at h,fun _ _=>rfl⟩,⟨fun k x h=>by simp at h,fun _ _=>rfl⟩⟩
theorem Hm: "*" ++ "errors.errorString" = "*errors.errorString" :=by decide
set_option maxRecDepth 100000 in
theorem Cu (u:TypeId) (h:Tryz.prog.typeName? 3 u=some "*errors.errorString"):u=350:=
 typeName_ptr_named (nm:= "errors.errorString") (by rw [Hm]; kernel_rfl) (by kernel_rfl) (by decide) u (by rw [Hm]; exact h)
set_option maxRecDepth 100000 in
theorem ll {W:World} {laid:List (String×DataW Unit)} (h:laidMetH Tryz.prog laid W) (hf:(laid.filter fun x=>x.2.handleName?.isSome)= []) (n:String) (text:List UInt8) (g:Nat)
  (hm:(n,DataW.iface "*errors.errorString" (.ptr (.agg [.lit (.string text)])))∈laid) (hg:Tryz.prog.globalNamed n=some g) (ht:(Tryz.prog.globals[g]?).map (·.type)=some 66):
  ∃a s,Im (C0 W) g 0 (.iface 350 (.pointer (some a)))∧W.cell? a=some (.string s)∧s.data.toList=text∧RE 350 144 (C0 W) (.iface 350 (.pointer (some a))) (.sent g):=by
 rw [Gv hf] at h;obtain ⟨ps,hl,_,hr⟩:=h;obtain ⟨a,s,h1,h2,h3,cs,t,h4⟩:=wL Tryz.underlying66 Cu Tryz.underlying350 Tryz.underlying371 rfl rfl Tryz.underlying9 (by kernel_rfl) (by kernel_rfl) hl hr n text g hm hg ht;exact ⟨a,s,im0 h1,h2,h3,a,rfl,im0 h1,(Array.getElem?_eq_some_iff.1 h4).1,fun _=>id,cs,t,h4⟩
theorem Dd {W:World} {n:List Nat} (tx:Nat→List UInt8) (h:∀g,g∈n→∃a s,Im (C0 W) g 0 (.iface 350 (.pointer (some a)))∧W.cell? a=some (.string s)∧s.data.toList=tx g∧RE 350 144 (C0 W) (.iface 350 (.pointer (some a))) (.sent g))
  (hd:∀g,g∈n→∀g',g'∈n→tx g=tx g'→g=g'):Gl n (C0 W):=by
 refine ⟨fun g hg=>?_,fun g g' hg hg' hne a h1 h2=>?_⟩
 ·obtain ⟨a,_,_,_,_,h4⟩:=h g hg;exact ⟨_,h4⟩
 ·obtain ⟨a1,s1,e1,e2,e3,_⟩:=h g hg;obtain ⟨a2,s2,f1,f2,f3,_⟩:=h g' hg';have q1:=e1.cell.symm.trans h1.cell;have q2:=f1.cell.symm.trans h2.cell;cases q1;cases q2;have q3:=e2.symm.trans f2;cases q3;exact hne (hd g hg g' hg' (e3.symm.trans f3))
end Go.Proofs.YtclmdpamofdoiaaGreatDoor
namespace Go.Lt
open Go.ChangeShapes Go.WideShapes Go.RowKit
def RdM (P:Program) (t:TypeId) {α:Type} (R:Rp α) (K:α→Prop):Prop:=
 P.cellsOf t=R.size∧∀{H:Type} {enc:TypeId×Value→H} {w:World} {sp:Nat→Bool} {held:Bool} {fuel:Nat} {cs:List Value} {x:DataW H×List MemPlace},
  DataW.trod enc P w 0 sp held fuel t cs=some x→(∀n∈x.1.weights P t,n≤reachBytes)→∃y,R.cells (C0 w) cs y∧K y
theorem Rd.m {P:Program} {t:TypeId} {α:Type} {R:Rp α} {K:α→Prop} (h:Rd P t R K):RdM P t R K:=⟨h.1,fun hd _=>h.2 hd⟩
theorem tR {H:Type} {P:Program} {e:TypeId}:∀{l:List (DataW H)} {i:Nat} {d:DataW H},l[i]? = some d→∀n∈d.weights P e,n∈DataW.weightsAll P e l
 | d0 :: l,0,d,h,n,hn=>by
  simp only [tb,aK] at h;subst h;simp only [DataW.weightsAll,pv];exact Or.inl hn
 | d0 :: l,i+1,d,h,n,hn=>by
  simp only [fq] at h;simp only [DataW.weightsAll,pv];exact Or.inr (tR h n hn)
 | [],_,_,h,_,_=>by simp at h
theorem RdM.field {P:Program} {H:Type} {enc:TypeId×Value→H} {w:World} {sp:Nat→Bool} {held:Bool} {n:Nat} {cs:List Value} {t:TypeId} {fs:Array Field} {xs:List (DataW H×List MemPlace)}
  (ht:P.underlying t=some (.struct fs)) (hw:∀m∈(DataW.agg (xs.map (·.1)):DataW H).weights P t,m≤reachBytes)
  (hf:∀(i:Nat) (f:Field),fs[i]? = some f→DataW.trod enc P w 0 sp held n f.type ((cs.drop f.offset).take (P.cellsOf f.type))=xs[i]?) (hx:xs.length=fs.size)
  (i:Nat) {f:Field} (hi:fs[i]? = some f) {α:Type} {R:Rp α} {K:α→Prop} (h:RdM P f.type R K):∃y,R.cells (C0 w) ((cs.drop f.offset).take R.size) y∧K y:=by
 have hlt:=(Array.getElem?_eq_some_iff.1 hi).1;have:=hf i f hi;have hxi:=af (show i < xs.length by omega);rw [hxi,h.1] at this;refine h.2 this fun m hm=>hw m ?_;simp only [DataW.weights,ht];refine DataW.weights_mem_each (j:=i) (t:=f.type) (d:=xs[i].1) ?_ ?_ m hm
 ·rw [bz,Hg,hi];rfl
 ·rw [bz,hxi];rfl
end Go.Lt
namespace Go.Lt
theorem zc {P:Program} {H:Type} {enc:TypeId×Value→H} {w:World} {sp:Nat→Bool} {held:Bool} {t:TypeId} {v:Value} {d:DataW H} {p:List MemPlace} {α:Type} {R:Rp α} {K:α→Prop} {fs:Array Field} (ht:P.underlying t=some (.struct fs)) (h:RdM P t R K) (hok:Value.okWide P w .any 0 t v) (hd:DataW.Trod enc P w 0 sp held t v d p)
  (hw:∀n∈d.weights P t,n≤reachBytes):∃cs x,v= .agg cs∧R.cells (C0 w) cs.toList x∧K x:=by
 obtain ⟨fuel,hd⟩:=hd;obtain ⟨x,hx,hk⟩:=h.2 hd hw;unfold Value.okWide at hok;rw [ht] at hok;obtain ⟨cs,rfl,_⟩:=hok;exact ⟨cs,x,rfl,hx,hk⟩
end Go.Lt
namespace Go.Proofs.YtclmdpamofdoiaaGreatDoor
open Go Go.Lt Go.ChangeShapes Go.WideShapes Go.RowKit
set_option maxRecDepth 100000
end Go.Proofs.YtclmdpamofdoiaaGreatDoor
namespace Go.Proofs.YtclmdpamofdoiaaGreatDoor
open Go Go.Lt
def bl:aa:=⟨0,[]⟩
def vld (r:Int):Bool:=decide (0≤r) && decide (r≤1114111) && (decide (r < 55296) || decide (r > 57343))
theorem wD (r:Int):dA r=some (vld r):=by
 simp only [dA,ba,br,bsm,vld,zO]
theorem ot (r:Int):dJ r=some (vld r):=by
 simp only [dJ,ba,br,bsm,vld,aK];rw [cg];simp;omega
def rgt (c:aa):Bool:=
 if c.Kind=0∨c.Kind=3 then c.Text.isEmpty else (decide (c.Kind=1) || decide (c.Kind=2)) && decide (1≤c.Text.length) && decide (c.Text.length≤16) && c.Text.all vld
theorem rp {α:Type} (p:α→Bool) (l:List α) (i:Nat) (h:i < l.length):(l.take (i+1)).all p=((l.take i).all p && p l[i]):=by
 rw [aj h,List.all_append];simp
theorem sY {α:Type} {p:α→Bool} {l:List α} {i:Nat} (h:i < l.length) (hp:p l[i]=false):l.all p=false:=by
 rw [List.all_eq_false];exact ⟨_,ax h,by simp [hp]⟩
theorem tW {α:Type} (l:List α):((l.length:Int)==0)=l.isEmpty:=by
 cases l <;> simp <;> omega
theorem Bv (c:aa):ej c=some (rgt c):=by
 unfold ej rgt;simp only [br,ba,bsm];by_cases h1:c.Kind=0∨c.Kind=3
 ·have e:(c.Kind==0 || c.Kind==3)=true:=by rcases h1 with h | h <;> simp [h]
  rw [ae e,ae h1,tW]
 ·have e:(c.Kind==0 || c.Kind==3)=false:=by simp; omega
  rw [ab (by rw [e]; simp),ab h1];by_cases h2:((c.Kind=1∨c.Kind=2)∧1≤c.Text.length∧c.Text.length≤16)
  ·have e2:(((c.Kind != 1 && c.Kind != 2) || decide ((c.Text.length:Int) < 1)) || decide ((c.Text.length:Int) > 16))=false:=by
    simp; omega
   rw [ab (by rw [e2]; simp)];obtain ⟨t,h3,h4⟩:=pf (τ:=Bool ⊕ Unit) (n:=c.Text.length) (by omega) (fun t=>match t with | .inl b=>b=c.Text.all vld | .inr _=>c.Text.all vld=true) (fun i=>(c.Text.take i).all vld=true) (by simp)
    (step:=fun s_44=>
     if (decide (s_44 < (c.Text.length:Int)))=true then
     (idx c.Text s_44).bind fun x_54=>
     (dA x_54).bind fun x_56=>
     if (!x_56)=true then
     some (.inr (.inl false))
     else
     some (.inl ((w64 (s_44+1))))
     else
     some (.inr (.inr ())))
    (fun i hi hI=>by
     have e3:w64 ((i:Int)+1)=((i+1:Nat):Int):=by rw [aJ (by omega)]; simp
     simp only [nI,hi,kJ,bw,aW hi,bsm,wD,e3]
     cases hv:vld c.Text[i] with
     | true=>exact .inl ⟨by simp,by rw [rp _ _ _ hi,hI,hv]; rfl⟩
     | false=>exact .inr ⟨.inl false,by simp,(sY hi hv).symm⟩)
    (fun hI=>⟨.inr (),by simp,by simpa using hI⟩)
   rw [h3];simp only [bsm];have e4:(decide (c.Kind=1) || decide (c.Kind=2))=true:=by simp; exact h2.1
   rw [e4,vm h2.2.1,vm h2.2.2]
   cases t with
   | inl b=>simp only at h4; simp [h4]
   | inr u=>simp only at h4; simp [h4]
  ·have e2:(((c.Kind != 1 && c.Kind != 2) || decide ((c.Text.length:Int) < 1)) || decide ((c.Text.length:Int) > 16))=true:=by
    simp; omega
   rw [ae e2]
   congr 1
   symm
   simp only [ly,jI,du];omega
theorem yS (r:Int):jj r=some (!vld r):=by simp [jj,ot]
theorem vR (l:List Int) (hl:l.length≤9223372036854775807):bS l=some (!l.all vld):=by
 unfold bS cH;obtain ⟨t,h3,h4⟩:=pf (τ:=Int ⊕ Unit) (n:=l.length) (by omega) (fun t=>match t with | .inl i=>0≤i∧l.all vld=false | .inr _=>l.all vld=true) (fun i=>(l.take i).all vld=true) (by simp)
  (step:=fun s_7=>
   if (decide (s_7 < (l.length:Int)))=true then
   (idx l s_7).bind fun x_16=>
   (jj x_16).bind fun x_18=>
   if x_18=true then
   some (.inr (.inl s_7))
   else
   some (.inl ((w64 (s_7+1))))
   else
   some (.inr (.inr ())))
  (fun i hi hI=>by
   have e3:w64 ((i:Int)+1)=((i+1:Nat):Int):=by rw [aJ (by omega)]; simp
   simp only [nI,hi,kJ,bw,aW hi,bsm,yS,e3]
   cases hv:vld l[i] with
   | true=>exact .inl ⟨by simp,by rw [rp _ _ _ hi,hI,hv]; rfl⟩
   | false=>exact .inr ⟨.inl i,by simp,by omega,sY hi hv⟩)
  (fun hI=>⟨.inr (),by simp,by simpa using hI⟩)
 rw [h3];simp only [bsm]
 cases t with
 | inl b=>simp only at h4; simp [h4.1,h4.2]
 | inr u=>simp only at h4; simp [h4]
theorem vp (c:aa):ju c=some (rgt c):=by
 unfold ju rgt;by_cases h1:c.Kind=0∨c.Kind=3
 ·rw [ae h1];rcases h1 with h | h <;> simp [h,tW]
 ·have n0:(c.Kind==0)=false:=by simp; omega
  have n3:(c.Kind==3)=false:=by simp; omega
  rw [ab h1];simp only [n0,n3,ak,aU,bsm];by_cases h2:c.Kind=1∨c.Kind=2
  ·have e:(if (c.Kind==1)=true then some (c.Kind==1) else some (c.Kind==2):Option Bool)=some true:=by rcases h2 with h | h <;> simp [h]
   have e2:(decide (c.Kind=1) || decide (c.Kind=2))=true:=by simp; exact h2
   rw [e,e2];simp only [bsm,bw,ba,dh];by_cases h3:1≤c.Text.length∧c.Text.length≤16
   ·rw [vR _ (by omega)];have e4:(decide ((c.Text.length:Int) > 0) && decide ((c.Text.length:Int)≤16))=true:=by simp; omega
    have e5:(decide (1≤c.Text.length) && decide (c.Text.length≤16))=true:=by simp; exact h3
    rw [e4,e5];simp [gH]
   ·have e4:(decide ((c.Text.length:Int) > 0) && decide ((c.Text.length:Int)≤16))=false:=by simp; omega
    have e5:(decide (1≤c.Text.length) && decide (c.Text.length≤16))=false:=by simp; omega
    rw [e4,e5];simp [iS]
  ·have n1:(c.Kind==1)=false:=by simp; omega
   have n2:(c.Kind==2)=false:=by simp; omega
   have e2:(decide (c.Kind=1) || decide (c.Kind=2))=false:=by simp; omega
   rw [e2];simp [n1,n2]
def kd (l:List aa) (i:Nat):Int:=match l[i]? with | some c=>c.Kind | none=>0
theorem iU {l:List aa} {i:Nat} (h:i < l.length):kd l i=l[i].Kind:=by simp [kd,af h]
theorem kK {l:List aa} {i:Nat} (h:l.length≤i):kd l i=0:=by simp [kd,aA h]
def Snd (l:List aa):Prop:=∀i (h:i < l.length),rgt l[i]=true∧(l[i].Kind=2→kd l (i+1)=3)∧(l[i].Kind=3→0 < i∧kd l (i - 1)=2)
theorem CJ (l:List aa) (i:Int):dk l i=some (if 0≤i then kd l i.toNat else 0):=by
 unfold dk;simp only [br,bsm];by_cases h0:i < 0
 ·rw [ae (by simp [h0]),ab (by omega)]
 ·by_cases h1:i < l.length
  ·obtain ⟨k,rfl⟩:=FS (show 0≤i by omega);have hk:k < l.length:=by omega
   rw [ab (by simp; omega),ae (by omega),aW hk];simp [iU hk]
  ·rw [ae (by simp; omega),ae (by omega),kK (by omega)]
theorem Bu (l:List aa) (hl:l.length≤9223372036854775807):∃b,fm l=some b∧(b=true↔Snd l):=by
 unfold fm;obtain ⟨t,h3,h4⟩:=pf (τ:=Bool ⊕ Unit) (n:=l.length) (by omega) (fun t=>match t with | .inl b=>b=false∧¬Snd l | .inr _=>Snd l)
  (fun i=>∀j (h:j < l.length),j < i→rgt l[j]=true∧(l[j].Kind=2→kd l (j+1)=3)∧(l[j].Kind=3→0 < j∧kd l (j - 1)=2)) (fun j _ h=>by omega)
  (step:=fun s_5=>
   if (decide (s_5 < (l.length:Int)))=true then
   (idx l s_5).bind fun x_13=>
   (ej x_13).bind fun x_15=>
   (orE (!x_15) ((idx l s_5).bind fun x_21=>
   (bD (x_21.Kind==2) ((dk l (w64 (s_5+1))).bind fun x_30=>
   some (x_30 != 3))).bind fun d_25=>
   some d_25)).bind fun d_17=>
   (orE d_17 ((idx l s_5).bind fun x_36=>
   (bD (x_36.Kind==3) ((dk l (w64 (s_5 - 1))).bind fun x_45=>
   some (x_45 != 2))).bind fun d_40=>
   some d_40)).bind fun d_32=>
   if d_32=true then
   some (.inr (.inl false))
   else
   some (.inl ((w64 (s_5+1))))
   else
   some (.inr (.inr ())))
  (fun i hi hI=>by
   have e3:w64 ((i:Int)+1)=((i+1:Nat):Int):=by rw [aJ (by omega)]; simp
   have e4:w64 ((i:Int) - 1)=(i:Int) - 1:=aJ (by omega);simp only [nI,hi,kJ,bw,aW hi,bsm,Bv,CJ,e3,e4,ba,br];by_cases hk:rgt l[i]=true∧(l[i].Kind=2→kd l (i+1)=3)∧(l[i].Kind=3→0 < i∧kd l (i - 1)=2)
   ·refine .inl ⟨?_,fun j h hj=>?_⟩
    ·rw [ab];obtain ⟨h1,h2,h5⟩:=hk;simp only [h1,cm,di,aC,aq,aS,jQ,wJ,IF,yt,Decidable.not_not];refine ⟨fun h=>?_,fun h=>?_⟩
     ·rw [ae (by omega)]; simpa using h2 h
     ·obtain ⟨h6,h7⟩:=h5 h;rw [ae (by omega),show ((i:Int) - 1).toNat=i - 1 by omega]; exact h7
    ·by_cases hji:j=i
     ·subst hji; exact hk
     ·exact hI j h (by omega)
   ·refine .inr ⟨.inl false,?_,rfl,fun hs=>hk (hs i hi)⟩;rw [ae]
    cases h1:rgt l[i] with
    | false=>simp
    | true=>
     simp only [h1,uG] at hk;have hk:(l[i].Kind=2∧¬kd l (i+1)=3)∨(l[i].Kind=3∧¬(0 < i∧kd l (i - 1)=2)):=by
      by_cases hA:l[i].Kind=2→kd l (i+1)=3
      ·exact .inr (Classical.not_imp.1 fun hB=>hk ⟨hA,hB⟩)
      ·exact .inl (Classical.not_imp.1 hA)
     simp only [cm,di,aC,aq,aS,jQ,wJ];rcases hk with ⟨h,h2⟩ | ⟨h,h2⟩
     ·refine .inl ⟨h,?_⟩;rw [ae (by omega)]; simpa using h2
     ·refine .inr ⟨h,?_⟩;by_cases h0:i=0
      ·subst h0; simp
      ·rw [ae (by omega),show ((i:Int) - 1).toNat=i - 1 by omega];exact fun h3=>h2 ⟨by omega,h3⟩)
  (fun hI=>⟨.inr (),by simp,fun j h=>hI j h h⟩)
 rw [h3];simp only [bsm]
 cases t with
 | inl b=>exact ⟨b,rfl,by simp only at h4; rw [h4.1]; simp [h4.2]⟩
 | inr u=>exact ⟨true,rfl,by simpa using h4⟩
theorem vn (l:List aa) (hl:l.length≤9223372036854775807):∃b,kD l=some b∧(b=true↔Snd l):=by
 unfold kD
 let ld:Nat→Bool:=fun i=>match i with | 0=>false | k+1=>decide (kd l k=2)
 have key:∀i (h:i < l.length),((rgt l[i]=true∧(ld i=decide (l[i].Kind=3)))↔rgt l[i]=true∧(l[i].Kind=3→0 < i∧kd l (i - 1)=2)∧(0 < i→kd l (i - 1)=2→l[i].Kind=3)):=fun i h=>by
  cases i with
  | zero=>simp [ld]
  | succ k=>simp only [ld,xK,decide_eq_decide]; constructor <;> (rintro ⟨a,b⟩; exact ⟨a,by omega⟩)
 have snd:Snd l↔(∀i (h:i < l.length),rgt l[i]=true∧ld i=decide (l[i].Kind=3))∧ld l.length=false:=by
  constructor
  ·intro hs;refine ⟨fun i h=>(key i h).2 ⟨(hs i h).1,(hs i h).2.2,fun h0 h2=>?_⟩,?_⟩
   ·have:=(hs (i - 1) (by omega)).2.1 (by rw [←iU]; exact h2);rw [show i - 1+1=i by omega,iU h] at this;exact this
   ·cases hn:l.length with
    | zero=>rfl
    | succ k=>
     simp only [ld,du];intro h2;have:=(hs k (by omega)).2.1 (by rw [←iU]; exact h2);rw [kK (by omega)] at this;cases this
  ·rintro ⟨h1,h2⟩ i h;have hk:=(key i h).1 (h1 i h);refine ⟨hk.1,fun h3=>?_,hk.2.1⟩;by_cases hn:i+1 < l.length
   ·have:=((key (i+1) hn).1 (h1 (i+1) hn)).2.2 (by omega) (by rw [xK,iU h]; exact h3);rw [iU hn]; exact this
   ·exfalso
    have e:l.length=i+1:=by omega
    rw [e] at h2;simp only [ld,du] at h2;rw [iU h] at h2;exact h2 h3
 obtain ⟨t,h3,h4⟩:=mF (τ:=Bool ⊕ Bool) (fun s:Bool×Int=>∃i:Nat,s=(ld i,(i:Int))∧i≤l.length∧∀j (h:j < l.length),j < i→rgt l[j]=true∧ld j=decide (l[j].Kind=3)) (fun s=>l.length - s.2.toNat)
  (fun t=>match t with | .inl b=>b=false∧¬Snd l | .inr b=>(b=false↔Snd l))
  (step:=fun s_9=>
   if (decide (s_9.2 < (l.length:Int)))=true then
   (idx l s_9.2).bind fun x_12=>
   (ju x_12).bind fun x_18=>
   (orE (!x_18) (some (!(s_9.1==(x_12.Kind==3))))).bind fun d_20=>
   if d_20=true then
   some (.inr (.inl false))
   else
   some (.inl (x_12.Kind==2,(w64 (s_9.2+1))))
   else
   some (.inr (.inr (s_9.1))))
  (by
   rintro s ⟨i,rfl,hi,hI⟩;rcases aG i l.length with hlt | hge
   ·have e3:w64 ((i:Int)+1)=((i+1:Nat):Int):=by rw [aJ (by omega)]; simp
    simp only [nI,hlt,kJ,bw,aW hlt,bsm,vp,br,e3];by_cases hk:rgt l[i]=true∧ld i=decide (l[i].Kind=3)
    ·refine .inl ⟨_,?_,⟨i+1,rfl,hlt,fun j h hj=>?_⟩,?_⟩
     ·rw [ab]
      ·simp only [ld,iU hlt]; rfl
      ·rw [hk.1,hk.2]; simp; rfl
     ·by_cases hji:j=i
      ·subst hji; exact hk
      ·exact hI j h (by omega)
     ·simp; omega
    ·refine .inr ⟨.inl false,?_,rfl,fun hs=>hk ((snd.1 hs).1 i hlt)⟩;rw [ae]
     cases h1:rgt l[i] with
     | false=>simp
     | true=>
      simp only [h1,uG] at hk;simp only [cm,di,cw,eO,wJ];exact hk
   ·obtain rfl:i=l.length:=by omega
    refine .inr ⟨.inr (ld l.length),by simp,?_⟩;simp only;rw [snd];exact ⟨fun h=>⟨fun j hj=>hI j hj hj,h⟩,fun h=>h.2⟩) (((l.length:Int) - 0).toNat+1) (false,0) ⟨0,rfl,dp _,fun j _ h=>by omega⟩ (by simp)
 rw [h3];simp only [bsm]
 cases t with
 | inl b=>exact ⟨b,rfl,by simp only at h4; rw [h4.1]; simp [h4.2]⟩
 | inr b=>exact ⟨!b,rfl,by simp only at h4; rw [←h4]; cases b <;> simp⟩
theorem Bl (a:List Int) (ha:a.length≤9223372036854775807) (b:List Int):∃t,fV a b=some t∧(t=true↔a=b):=by
 unfold fV;by_cases hl:a.length=b.length
 ·rw [ab (by simp [hl])];obtain ⟨t,h3,h4⟩:=pf (τ:=Bool ⊕ Unit) (n:=a.length) (by omega) (fun t=>match t with | .inl b'=>b'=false∧a≠b | .inr _=>a=b) (fun i=>∀j,j < i→a[j]? = b[j]?) (fun j h=>by omega)
   (step:=fun s_13=>
    if (decide (s_13 < (a.length:Int)))=true then
    (idx a s_13).bind fun x_21=>
    (idx b s_13).bind fun x_25=>
    if (x_21 != x_25)=true then
    some (.inr (.inl false))
    else
    some (.inl ((w64 (s_13+1))))
    else
    some (.inr (.inr ())))
   (fun i hi hI=>by
    have e3:w64 ((i:Int)+1)=((i+1:Nat):Int):=by rw [aJ (by omega)]; simp
    simp only [nI,hi,kJ,bw,aW hi,aW (show i < b.length by omega),bsm,e3];by_cases hk:a[i]=b[i]
    ·refine .inl ⟨by rw [ab (by simp [hk])],fun j hj=>?_⟩;by_cases hji:j=i
     ·subst hji; rw [af hi,af (show j < b.length by omega),hk]
     ·exact hI j (by omega)
    ·exact .inr ⟨.inl false,by rw [ae (by simpa using hk)],rfl,fun e=>hk (by subst e; rfl)⟩)
   (fun hI=>⟨.inr (),by simp,by
    apply be;intro j;rcases aG j a.length with h | h
    ·exact hI j h
    ·rw [aA h,aA (by omega)]⟩)
  rw [h3];simp only [bsm]
  cases t with
  | inl b'=>exact ⟨b',rfl,by simp only at h4; rw [h4.1]; simp [h4.2]⟩
  | inr u=>exact ⟨true,rfl,by simpa using h4⟩
 ·rw [ae (by simp; omega)];exact ⟨false,rfl,by simp; intro e; subst e; exact hl rfl⟩
def Sht (l:List aa):Prop:=∀i (h:i < l.length),l[i].Text.length≤1000000
theorem Snd.sht {l:List aa} (h:Snd l):Sht l:=fun i hi=>by
 have:=(h i hi).1;unfold rgt at this;split at this
 ·have e:l[i].Text= []:=by simpa using this
  rw [e]; simp
 ·simp at this; omega
def gj (r:Int):Int:=if vld r=true then r else 65533
def fx (t:List Int):List Int:=(t.take 16).map gj
def dm (wide:Int) (t:List Int):List aa:=
 if t= [] then (if wide > 1 then [bl,bl] else [bl]) else if wide > 1 then [⟨2,t⟩,⟨3,[]⟩] else [⟨1,t⟩]
theorem xS (r:Int):vld (gj r)=true:=by
 unfold gj;split
 ·assumption
 ·rfl
theorem GI (t:List Int):∀x∈fx t,vld x=true:=fun x hx=>by
 obtain ⟨y,_,rfl⟩:=List.mem_map.1 hx;exact xS y
theorem GJ (t:List Int):(fx t).length≤16:=by simp [fx]; omega
theorem AP (t:List Int):(fx t).length=min 16 t.length:=by simp [fx]
theorem CH {k:Int} (hk:k=1∨k=2) {t:List Int} (h1:1≤t.length) (h2:t.length≤16) (hv:∀x∈t,vld x=true):rgt ⟨k,t⟩=true:=by
 unfold rgt;rw [ab (by simp; omega)];simp only [aq,aC,an,tc];exact ⟨⟨⟨hk,h1⟩,h2⟩,hv⟩
theorem Bc (wide:Int) {t:List Int} (hv:∀x∈t,vld x=true) (h2:t.length≤16):Snd (dm wide t):=by
 unfold dm;have hb:rgt bl=true:=rfl;have h3:rgt ⟨3,[]⟩=true:=rfl;by_cases ht:t= []
 ·rw [ae ht];split
  ·intro i hi
   match i,hi with
   | 0,_=>exact ⟨hb,fun h=>by simp [bl] at h,fun h=>by simp [bl] at h⟩
   | 1,_=>exact ⟨hb,fun h=>by simp [bl] at h,fun h=>by simp [bl] at h⟩
  ·intro i hi
   match i,hi with
   | 0,_=>exact ⟨hb,fun h=>by simp [bl] at h,fun h=>by simp [bl] at h⟩
 ·rw [ab ht];have h1:1≤t.length:=by
   rcases kO t.length with h | h
   ·exact absurd (ck h) ht
   ·exact h
  split
  ·intro i hi
   match i,hi with
   | 0,_=>exact ⟨CH (.inr rfl) h1 h2 hv,fun _=>rfl,fun h=>by simp at h⟩
   | 1,_=>exact ⟨h3,fun h=>by simp at h,fun _=>⟨by omega,rfl⟩⟩
  ·intro i hi
   match i,hi with
   | 0,_=>exact ⟨CH (.inl rfl) h1 h2 hv,fun h=>by simp at h,fun h=>by simp at h⟩
theorem zD (wide:Int) (t:List Int) (ht:t.length≤9223372036854775807):lu wide t=some (dm wide (fx t)):=by
 unfold lu;rw [pb (s:=(([]:List Int),(0:Int))) (t:=fx t) (fun st:List Int×Int=>∃i:Nat,st=((fx t).take i,(i:Int))∧i≤(fx t).length) (fun st=>(fx t).length - st.2.toNat) ?_ ⟨0,rfl,dp _⟩ (by simp [fx]; omega)]
 ·simp only [bsm,ba];unfold dm;by_cases h0:fx t= []
  ·rw [ae h0,h0];by_cases hw:wide > 1
   ·simp [hw,bl]
   ·simp [hw,bl]
  ·have h1:(((fx t).length:Int)==0)=false:=by
    rw [eO];intro e;exact h0 (ck (by omega))
   rw [ab h0];simp only [h1,gY,ak,aU];by_cases hw:wide > 1
   ·simp [hw]
   ·simp [hw]
 ·rintro st ⟨i,rfl,hi⟩;have hl:=AP t;rcases aG i (fx t).length with hlt | hge
  ·refine .inl ⟨_,?_,⟨i+1,rfl,hlt⟩,by simp; omega⟩;have e3:w64 ((i:Int)+1)=((i+1:Nat):Int):=by rw [aJ (by omega)]; simp
   have hit:i < t.length:=by omega
   have d1:(decide ((i:Int) < (t.length:Int)) && decide ((i:Int) < 16))=true:=by simp; omega
   have hx:(fx t)[i]=gj t[i]:=by simp [fx]
   simp only [ba,bsm,d1,bw,aW hit,wD,e3];have happ:∀x,x=gj t[i]→app ((fx t).take i) [x]=some ((fx t).take (i+1)):=fun x hxx=>by
    rw [eP (by rw [az]; simp; omega),aj hlt,hx,hxx]
   cases hv:vld t[i] with
   | true=>
    simp only [bw];rw [happ _ (by simp [gj,hv])];rfl
   | false=>
    simp only [ak,aU];rw [happ _ (by simp [gj,hv])];rfl
  ·obtain rfl:i=(fx t).length:=by omega
   have d1:(decide (((fx t).length:Int) < (t.length:Int)) && decide (((fx t).length:Int) < 16))=false:=by simp; omega
   exact .inr (by simp only [ba,bsm,d1,ak,aU]; simp)
def Ah (c:ai) (W H:Int):Prop:=(0≤c.Row∧c.Row < H)∧(0≤c.Col∧c.Col < W)∧(c.Pending=true→c.Col=W - 1)
theorem Du (c:ai) {W H:Int} (hW:1≤W∧W≤1024) (hH:1≤H∧H≤1024):∃b,gU c W H=some b∧(b=true↔Ah c W H):=by
 have sW:bb 1 (aO W 1024)=W:=by unfold bb aO; omega
 have sH:bb 1 (aO H 1024)=H:=by unfold bb aO; omega
 unfold gU dO eQ iQ;simp only [bsm,sW,sH,ba];refine ⟨_,rfl,?_⟩;rw [aJ (n:=H - 1) (by omega),aJ (n:=W - 1) (by omega)];simp only [aq,aS,oT];unfold Ah bb aO
 cases c.Pending with
 | true=>
  constructor
  ·rintro ⟨a,b,d⟩;have d':c.Col=W - 1:=by simpa using d.symm
   omega
  ·intro h;have:=h.2.2 rfl;exact ⟨by omega,by omega,by simp [this]⟩
 | false=>
  constructor
  ·rintro ⟨a,b,_⟩;exact ⟨by omega,by omega,fun q=>by cases q⟩
  ·intro h;exact ⟨by omega,by omega,by simp⟩
theorem Bz (c:ai) {W H:Int} (hW:1≤W∧W≤1024) (hH:1≤H∧H≤1024):∃b,fk c W H=some b∧(b=true↔Ah c W H):=by
 have sW:bf W=some W:=by
  unfold bf;rw [ab (by rw [an]; omega),ab (by rw [an]; omega)]
 have sH:bf H=some H:=by
  unfold bf;rw [ab (by rw [an]; omega),ab (by rw [an]; omega)]
 unfold fk;simp only [sW,sH,bsm,ba,br];refine ⟨_,rfl,?_⟩;rw [aJ (n:=W - 1) (by omega)];unfold Ah;simp only [aq,aC,cw,aS,an]
 cases c.Pending with
 | true=>
  constructor
  ·rintro ⟨⟨⟨⟨a,b⟩,d⟩,e⟩,f⟩;exact ⟨⟨a,b⟩,⟨d,e⟩,fun _=>f.elim (fun q=>by cases q) id⟩
  ·rintro ⟨⟨a,b⟩,⟨d,e⟩,f⟩;exact ⟨⟨⟨⟨a,b⟩,d⟩,e⟩,.inr (f rfl)⟩
 | false=>
  constructor
  ·rintro ⟨⟨⟨⟨a,b⟩,d⟩,e⟩,f⟩;exact ⟨⟨a,b⟩,⟨d,e⟩,fun q=>by cases q⟩
  ·rintro ⟨⟨a,b⟩,⟨d,e⟩,f⟩;exact ⟨⟨⟨⟨a,b⟩,d⟩,e⟩,.inl rfl⟩
structure VwP (v:aE):Prop where
 high:v.High=(v.Lines.length:Int)
 h1:1≤v.High
 h2:v.High≤1024
 w1:1≤v.Wide
 w2:v.Wide≤1024
 cur:Ah v.At v.Wide v.High
 lines:∀l∈v.Lines,(l.Cells.length:Int)=v.Wide∧Snd l.Cells
def VwL (v:aE):Prop:=v.Lines.length≤9223372036854775807∧∀l∈v.Lines,l.Cells.length≤9223372036854775807
theorem yi (v:aE) (hv:VwL v):∃b,fj v=some b∧(b=true↔VwP v):=by
 unfold fj;simp only [br,bsm]
 cases hg:((((v.High != (v.Lines.length:Int) || decide (v.High < 1)) || decide (v.High > 1024)) || decide (v.Wide < 1)) || decide (v.Wide > 1024)) with
 | true=>
  rw [sq,bsm,ae rfl];refine ⟨_,rfl,fun q=>(by cases q),fun q=>?_⟩;simp only [aC,jQ,an] at hg;obtain ⟨a1,a2,a3,a4,a5,_,_⟩:=q;omega
 | false=>
  simp only [jI,bne_eq_false_iff_eq,du] at hg;obtain ⟨⟨⟨⟨a1,a2⟩,a3⟩,a4⟩,a5⟩:=hg;obtain ⟨b,b1,b2⟩:=Bz v.At (W:=v.Wide) (H:=v.High) (by omega) (by omega);rw [b1,bsm,cW,bsm]
  cases b with
  | false=>
   rw [ae (by decide)];exact ⟨_,rfl,fun q=>(by cases q),fun q=>b2.2 q.cur⟩
  | true=>
   rw [ab (by simp)];refine ga (n:=v.Lines.length) (p:=fun b=>(b=true↔VwP v)) (fun i (a:Int)=>a=(i:Int)∧∀l∈v.Lines.take i,(l.Cells.length:Int)=v.Wide∧Snd l.Cells) (fun t=>(t= .inl false∧¬∀l∈v.Lines,(l.Cells.length:Int)=v.Wide∧Snd l.Cells)∨(t= .inr ()∧∀l∈v.Lines,(l.Cells.length:Int)=v.Wide∧Snd l.Cells)) (fun i a hi hI=>?_) (fun a hI=>?_) ⟨rfl,by simp⟩ (by omega) (fun t ht=>?_)
   ·obtain ⟨rfl,h⟩:=hI;have hm:=ax hi;have hl:=hv.1;obtain ⟨z,z1,z2⟩:=Bu v.Lines[i].Cells (hv.2 _ hm);rw [ae (dlt hi),aW hi,bsm,bsm,z1,bsm];by_cases hc:(v.Lines[i].Cells.length:Int)=v.Wide∧Snd v.Lines[i].Cells
    ·left
     rw [show ((v.Lines[i].Cells.length:Int) != v.Wide)=false by simpa using hc.1,z2.2 hc.2,cW,bsm,ab (by simp),ci hi (by omega)];refine ⟨_,rfl,rfl,fun l hlm=>?_⟩;rw [aj hi] at hlm;rcases List.mem_append.1 hlm with q | q
     ·exact h l q
     ·rw [List.mem_singleton.1 q]; exact hc
    ·right
     have:orE ((v.Lines[i].Cells.length:Int) != v.Wide) (some (!z))=some true:=by
      rw [br]
      congr 1
      cases z with
      | false=>simp
      | true=>
       have:¬(v.Lines[i].Cells.length:Int)=v.Wide:=fun q=>hc ⟨q,z2.1 rfl⟩;simpa using this
     rw [this,bsm,ae rfl];exact ⟨_,rfl,.inl ⟨rfl,fun q=>hc (q _ hm)⟩⟩
   ·obtain ⟨rfl,h⟩:=hI;rw [bU] at h;exact ⟨_,by rw [ab (by simp)],.inr ⟨rfl,h⟩⟩
   ·rcases ht with ⟨rfl,h⟩ | ⟨rfl,h⟩
    ·exact ⟨_,rfl,fun q=>(by cases q),fun q=>absurd q.lines h⟩
    ·exact ⟨_,rfl,fun _=>⟨a1,by omega,by omega,by omega,by omega,b2.1 rfl,h⟩,fun _=>rfl⟩
theorem za (l:List aa) (i:Int):kG l i=some (if 0≤i then kd l i.toNat else 0):=by
 unfold kG;simp only [br,bsm];by_cases h0:i < 0
 ·rw [ae (by simp [h0]),ab (by omega)]
 ·by_cases h1:i < l.length
  ·obtain ⟨k,rfl⟩:=FS (show 0≤i by omega);have hk:k < l.length:=by omega
   rw [ab (by simp; omega),ae (by omega),aW hk];simp [iU hk]
  ·rw [ae (by simp; omega),ae (by omega),kK (by omega)]
def zh (l:List aa) (i:Nat) (h:i < l.length):Prop:=rgt l[i]=true∧(l[i].Kind=2→kd l (i+1)=3)∧(l[i].Kind=3→0 < i∧kd l (i - 1)=2)
theorem B9 (l:List aa) (i:Nat) (h:i < l.length) (hl:l.length≤1000000):∃e,kX l (i:Int)=some e∧(e.isNil=true↔zh l i h):=by
 unfold kX;rw [aW h,bsm,vp,bsm];by_cases hr:rgt l[i]=true
 ·rw [hr,ab (by simp),za,za,aJ (n:=(i:Int)+1) (by omega),aJ (n:=(i:Int) - 1) (by omega)];simp only [bsm,ba];have e1:((i:Int)+1).toNat=i+1:=by omega
  rw [ae (show 0≤(i:Int)+1 by omega),e1];by_cases h2:l[i].Kind=2
  ·by_cases h3:kd l (i+1)=3
   ·rw [h2,h3];refine ⟨Er.nil,by simp,?_⟩;simp [Er.isNil,zh,hr,h2,h3]
   ·have:(kd l (i+1) != 3)=true:=by simpa using h3
    rw [h2,this];refine ⟨Er.sent 1,by simp,?_⟩;simp [Er.isNil,zh,hr,h2,h3]
  ·have n2:(l[i].Kind==2)=false:=by simpa using h2
   rw [n2];simp only [gY,ak,aU,bsm];by_cases h3:l[i].Kind=3
   ·by_cases h4:0 < i∧kd l (i - 1)=2
    ·have e2:((i:Int) - 1).toNat=i - 1:=by omega
     rw [ae (show 0≤(i:Int) - 1 by omega),e2,h3,h4.2];refine ⟨Er.nil,by simp,?_⟩;simp [Er.isNil,zh,hr,h3,h4]
    ·refine ⟨Er.sent 1,?_,?_⟩
     ·have:((if 0≤(i:Int) - 1 then kd l ((i:Int) - 1).toNat else 0) != 2)=true:=by
       by_cases h5:0 < i
       ·rw [ae (by omega),show ((i:Int) - 1).toNat=i - 1 by omega];simpa using fun q=>h4 ⟨h5,q⟩
       ·rw [ab (by omega)]; decide
      rw [h3,this];simp
     ·simp only [Er.isNil,zh];constructor
      ·intro q; cases q
      ·intro q; exact absurd (q.2.2 h3) h4
   ·have n3:(l[i].Kind==3)=false:=by simpa using h3
    rw [n3];refine ⟨Er.nil,by simp,?_⟩;simp [Er.isNil,zh,hr,h2,h3]
 ·have:rgt l[i]=false:=by simpa using hr
  rw [this,ae (by decide)];refine ⟨_,rfl,?_⟩;simp [Er.isNil,zh,this]
theorem ma {α:Type} (xs ys:List α) (h:xs.length+ys.length≤1000000000):app xs ys=some (xs++ys):=by
 unfold app far;rw [ae (by omega)]
theorem DO (n:Int):kF n=some (decide (1≤n) && decide (n≤1024)):=by
 unfold kF;simp [ba]
theorem Dt (c:ai) (W H:Int):∃b,gU c W H=some b:=by
 unfold gU dO eQ iQ;simp only [bsm,ba];exact ⟨_,rfl⟩
theorem exL {σ τ:Type} {x:Option (σ ⊕ τ)} {P:σ→Prop} (h:∃r,x=some r∧∃s',r= .inl s'∧P s'):∃s',x=some (.inl s')∧P s':=by
 obtain ⟨r,e,s',rfl,p⟩:=h;exact ⟨s',e,p⟩
def Ern (es:List Er):Prop:=∀x∈es,x.isNil=false
theorem Ern.app {es:List Er} (h:Ern es) {x:Er} (hx:x.isNil=false):Ern (es++ [x]):=fun y hy=>by
 rcases List.mem_append.1 hy with q | q
 ·exact h y q
 ·rw [List.mem_singleton.1 q]; exact hx
theorem DP (v:aE) (hL:v.Lines.length≤100) (hc:∀l∈v.Lines,l.Cells.length≤400):∃es,lS v=some es∧Ern es∧(es= []↔VwP v):=by
 unfold lS;simp only [DO,bsm,br];obtain ⟨E0,hE0,hEn,hE1,hE2⟩:∃E0:List Er,(if (((!(decide (1≤v.Wide) && decide (v.Wide≤1024))) || (!(decide (1≤v.High) && decide (v.High≤1024)))) || (v.High != (v.Lines.length:Int)))=true then (app ([]:List Er) ([(Er.sent 2)]:List Er)).bind fun m=>some (m) else some (([]:List Er)))=some E0∧Ern E0∧E0.length≤1∧(E0= []↔((1≤v.Wide∧v.Wide≤1024)∧(1≤v.High∧v.High≤1024)∧v.High=(v.Lines.length:Int))):=by
  by_cases hg:(((!(decide (1≤v.Wide) && decide (v.Wide≤1024))) || (!(decide (1≤v.High) && decide (v.High≤1024)))) || (v.High != (v.Lines.length:Int)))=true
  ·rw [ae hg,ma _ _ (by simp)];refine ⟨_,rfl,fun x hx=>by simp at hx; subst hx; rfl,by simp,?_⟩;simp only [aC,cw,ly,du,jQ] at hg;simp;omega
  ·rw [ab hg];refine ⟨_,rfl,fun x hx=>(by cases hx),by simp,?_⟩;simp only [aC,cw,ly,du,jQ] at hg;simp;omega
 rw [hE0,bsm];refine ga (n:=v.Lines.length) (p:=fun es=>Ern es∧(es= []↔VwP v))
  (fun i (a:List Er×Int)=>a.2=(i:Int)∧Ern a.1∧a.1.length≤1+i * 401∧(a.1= []↔E0= []∧∀l∈v.Lines.take i,(l.Cells.length:Int)=v.Wide∧Snd l.Cells))
  (fun (t:List Er)=>Ern t∧t.length≤1+v.Lines.length * 401∧(t= []↔E0= []∧∀l∈v.Lines,(l.Cells.length:Int)=v.Wide∧Snd l.Cells))
  (fun i a hi hI=>?_) (fun a hI=>?_) ⟨rfl,hEn,by simpa using hE1,by simp⟩ (by omega) (fun t ht=>?_)
 ·left
  obtain ⟨es,q⟩:=a;obtain ⟨e,hr,hn,hI⟩:=hI;simp only at e hr hn hI;subst e;have hm:=ax hi;have hl:=hc _ hm;simp only;rw [ae (dlt hi),aW hi,bsm];obtain ⟨F0,hF0,hFn,hF1,hF2⟩:∃F0:List Er,(if ((v.Lines[i].Cells.length:Int) != v.Wide)=true then (iM (i:Int) (Er.sent 3)).bind fun n=>(app es ([n]:List Er)).bind fun o=>some (o) else some (es))=some F0∧Ern F0∧F0.length≤es.length+1∧(F0= []↔es= []∧(v.Lines[i].Cells.length:Int)=v.Wide):=by
   by_cases hw:(v.Lines[i].Cells.length:Int)=v.Wide
   ·rw [ab (by simpa using hw)];exact ⟨_,rfl,hr,by omega,by simp [hw]⟩
   ·rw [ae (by simpa using hw)];unfold iM;rw [bsm,ma _ _ (by simp; omega)];exact ⟨_,rfl,hr.app rfl,by simp,by simp [hw]⟩
  rw [hF0,bsm];refine exL (ga (n:=v.Lines[i].Cells.length)
   (fun k (b:List Er×Int)=>b.2=(k:Int)∧Ern b.1∧b.1.length≤F0.length+k∧(b.1= []↔F0= []∧∀j (h:j < v.Lines[i].Cells.length),j < k→zh v.Lines[i].Cells j h))
   (fun (t:List Er)=>Ern t∧t.length≤F0.length+v.Lines[i].Cells.length∧(t= []↔F0= []∧Snd v.Lines[i].Cells))
   (fun k b hk hJ=>?_) (fun b hJ=>?_) ⟨rfl,hFn,by simp,by simp⟩ (by omega) (fun t ht=>?_))
  ·left
   obtain ⟨bs',q⟩:=b;obtain ⟨e,hr',hn',hJ⟩:=hJ;simp only at e hr' hn' hJ;subst e;simp only;rw [ae (dlt hk)];obtain ⟨w,w1,w2⟩:=B9 v.Lines[i].Cells k hk (by omega);rw [w1,bsm];by_cases hw:w.isNil=true
   ·rw [hw,ab (by simp),bsm,ci hk (by omega)];refine ⟨_,rfl,rfl,hr',by simp only; omega,?_⟩;simp only;rw [hJ];constructor
    ·rintro ⟨a,b⟩;refine ⟨a,fun j h hj=>?_⟩;rcases aG j k with p | p
     ·exact b j h p
     ·obtain rfl:j=k:=by omega
      exact w2.1 hw
    ·rintro ⟨a,b⟩;exact ⟨a,fun j h hj=>b j h (by omega)⟩
   ·rw [show w.isNil=false by simpa using hw,ae (by decide)];unfold iM;simp only [bsm];rw [ma _ _ (by simp; omega),bsm,bsm,ci hk (by omega)];refine ⟨_,rfl,rfl,hr'.app rfl,by simp only [av,aI,bd]; omega,?_⟩;simp only;constructor
    ·intro q; simp at q
    ·rintro ⟨_,b⟩;exact absurd (w2.2 (b k hk (by omega))) hw
  ·obtain ⟨bs',q⟩:=b;obtain ⟨e,hr',hn',hJ⟩:=hJ;simp only at e hr' hn' hJ;subst e;refine ⟨_,by rw [ab (by simp)],hr',hn',hJ.trans ⟨fun ⟨a,b⟩=>⟨a,fun j h=>b j h h⟩,fun ⟨a,b⟩=>⟨a,fun j h _=>b j h⟩⟩⟩
  ·rw [ci hi (by omega)];have hlen:=ht.2.1;refine ⟨_,rfl,_,rfl,rfl,ht.1,by simp only; omega,?_⟩;simp only;rw [ht.2.2,hF2,hI,aj hi];simp only [pv,List.mem_singleton];constructor
   ·rintro ⟨⟨⟨a,b⟩,d⟩,e⟩;refine ⟨a,fun l hl=>?_⟩;rcases hl with q | q
    ·exact b l q
    ·subst q; exact ⟨d,e⟩
   ·rintro ⟨a,b⟩;have:=b _ (.inr rfl);exact ⟨⟨⟨a,fun l hl=>b l (.inl hl)⟩,this.1⟩,this.2⟩
 ·obtain ⟨es,q⟩:=a;obtain ⟨e,hr,hn,hI⟩:=hI;simp only at e hr hn hI;subst e;rw [bU] at hI;exact ⟨_,by rw [ab (by simp)],hr,hn,hI⟩
 ·have key:∀b:Bool,(b=true→(E0= []→Ah v.At v.Wide v.High))→(E0= []→Ah v.At v.Wide v.High→b=true)→∃r,((if (!b)=true then (app t ([(Er.sent 7)]:List Er)).bind fun g=>some (g) else some (t)).bind fun h=>some h)=some r∧Ern r∧(r= []↔VwP v):=by
   intro b h1 h2
   cases b with
   | true=>
    rw [ab (by simp),bsm];refine ⟨_,rfl,ht.1,ht.2.2.trans ⟨fun ⟨a,d⟩=>?_,fun q=>?_⟩⟩
    ·obtain ⟨p1,p2,p3⟩:=hE2.1 a;exact ⟨p3,p2.1,p2.2,p1.1,p1.2,h1 rfl a,d⟩
    ·exact ⟨hE2.2 ⟨⟨q.w1,q.w2⟩,⟨q.h1,q.h2⟩,q.high⟩,q.lines⟩
   | false=>
    have hlen:=ht.2.1;rw [ae (by decide),ma _ _ (by simp; omega),bsm,bsm];refine ⟨_,rfl,ht.1.app rfl,⟨fun q=>by simp at q,fun q=>?_⟩⟩;have:=h2 (hE2.2 ⟨⟨q.w1,q.w2⟩,⟨q.h1,q.h2⟩,q.high⟩) q.cur;cases this
  obtain ⟨b,b1⟩:=Dt v.At v.Wide v.High;rw [b1,bsm];refine key b (fun hb h0=>?_) (fun h0 hb=>?_)
  ·obtain ⟨p1,p2,p3⟩:=hE2.1 h0;obtain ⟨b',c1,c2⟩:=Du v.At (W:=v.Wide) (H:=v.High) p1 p2;rw [b1] at c1;obtain rfl:=bi c1;exact c2.1 hb
  ·obtain ⟨p1,p2,p3⟩:=hE2.1 h0;obtain ⟨b',c1,c2⟩:=Du v.At (W:=v.Wide) (H:=v.High) p1 p2;rw [b1] at c1;obtain rfl:=bi c1;exact c2.2 hb
theorem Ca (v:aE) (hL:v.Lines.length≤100) (hc:∀l∈v.Lines,l.Cells.length≤400):∃b,kY v=some b∧(b=true↔VwP v):=by
 unfold kY mz;obtain ⟨es,e1,en,e2⟩:=DP v hL hc;rw [e1,bsm]
 cases es with
 | nil=>exact ⟨_,rfl,by simp [Er.isNil]; exact e2.1 rfl⟩
 | cons x t=>
  have hx:=en x (xM ..);rw [ae (by simp),show idx (x :: t) 0=some x from rfl,bsm,bsm,hx];exact ⟨_,rfl,fun q=>(by cases q),fun q=>by have:=e2.2 q; cases this⟩
end Go.Proofs.YtclmdpamofdoiaaGreatDoor
namespace Go.Proofs.YtclmdpamofdoiaaGreatDoor
structure Sg where
 some:Bool
 last:Int
 pict:Int
 conj:Int
 odd:Bool
def sg0:Sg:=⟨false,0,0,0,false⟩
def nxP (s:Int) (p:am):Int:=if p.Pict=true then 1 else if s=1∧p.Break=4 then 1 else if s=1∧p.Break=5 then 2 else 0
def nxC (s:Int) (p:am):Int:=if p.Conj=1 then 1 else if s=0 then 0 else if p.Conj=2 then 2 else if p.Conj=3 then s else 0
def sgN (s:Sg) (p:am):Sg:=⟨true,p.Break,nxP s.pict p,nxC s.conj p,p.Break==6 && !(s.some && s.last==6 && s.odd)⟩
def sgF (l:List am):Sg:=l.foldl sgN sg0
def sgJ (pj:Int→Int→Int) (s:Sg) (p:am):Bool:=
 s.some && ((p.Conj==1 && s.conj==2) || (p.Pict && s.pict==2) || pj s.last p.Break==1 || (pj s.last p.Break==2 && s.last==6 && s.odd))
def cj:List am→Nat→Bool
 | [],_=>false
 | x :: l,n=>if x.Conj=1 then decide (0 < n) else if x.Conj=2 then cj l (n+1) else if x.Conj=3 then cj l n else false
def pk:List am→Bool
 | []=>false
 | x :: l=>if x.Pict=true then true else if x.Break=4 then pk l else false
def ri:List am→Nat
 | []=>0
 | x :: l=>if x.Break=6 then ri l+1 else 0
def rj (pj:Int→Int→Int) (l:List am) (p:am):Bool:=
 match l with
 | []=>false
 | a :: l'=>pj a.Break p.Break==1 || (p.Conj==1 && cj (a :: l') 0) || (p.Pict && (!a.Pict && a.Break==5 && pk l')) || (pj a.Break p.Break==2 && p.Break==6 && ri (a :: l') % 2==1)
def pst:List am→Int
 | []=>0
 | x :: l=>nxP (pst l) x
def cst:List am→Int
 | []=>0
 | x :: l=>nxC (cst l) x
def hb:List am→Int
 | []=>0
 | x :: _=>x.Break
def od:List am→Bool
 | []=>false
 | x :: l=>x.Break==6 && !(!l.isEmpty && hb l==6 && od l)
theorem F9 (l:List am):sgF l=⟨!l.reverse.isEmpty,hb l.reverse,pst l.reverse,cst l.reverse,od l.reverse⟩:=by
 have key:∀r:List am,sgF r.reverse=⟨!r.isEmpty,hb r,pst r,cst r,od r⟩:=by
  intro r
  induction r with
  | nil=>rfl
  | cons x r ih=>
   unfold sgF at ih⊢;rw [I5,jH,ih];rfl
 have:=key l.reverse
 rwa [Io] at this
theorem Gg (l:List am):pk l=decide (pst l=1):=by
 induction l with
 | nil=>rfl
 | cons x l ih=>
  unfold pk pst nxP;by_cases h1:x.Pict=true
  ·rw [ae h1,ae h1]; rfl
  ·rw [ab h1,ab h1];by_cases h2:x.Break=4
   ·rw [ae h2,ih];by_cases h3:pst l=1
    ·rw [ae ⟨h3,h2⟩]; simp [h3]
    ·rw [ab (fun q=>h3 q.1),ab (fun q=>h3 q.1)]; simp [h3]
   ·rw [ab h2,ab (fun q=>h2 q.2)];split <;> rfl
theorem GS (l:List am) (n:Nat):cj l n=decide (cst l=2∨(cst l≠0∧0 < n)):=by
 induction l generalizing n with
 | nil=>rfl
 | cons x l ih=>
  unfold cj cst nxC;by_cases h1:x.Conj=1
  ·rw [ae h1,ae h1];simp
  ·rw [ab h1,ab h1];by_cases h2:x.Conj=2
   ·rw [ae h2,ih];by_cases h0:cst l=0
    ·rw [ae h0]; simp [h0]
    ·rw [ab h0,ae h2]; simp [h0]
   ·rw [ab h2];by_cases h3:x.Conj=3
    ·rw [ae h3,ih];by_cases h0:cst l=0
     ·rw [ae h0,h0]
     ·rw [ab h0,ab h2,ae h3]
    ·rw [ab h3];by_cases h0:cst l=0
     ·rw [ae h0]; rfl
     ·rw [ab h0,ab h2,ab h3]; rfl
theorem Hs (l:List am):od l=(ri l % 2==1):=by
 induction l with
 | nil=>rfl
 | cons x l ih=>
  unfold od ri;by_cases h:x.Break=6
  ·rw [ae h,ih];have hb':(x.Break==6)=true:=by simp [h]
   rw [hb',dh]
   cases l with
   | nil=>rfl
   | cons y l=>
    by_cases h2:y.Break=6
    ·have e:(hb (y :: l)==6)=true:=by simp [hb,h2]
     rw [e];simp only [I7,fb,dh];rw [cg];simp only [cw,eO,aS];omega
    ·have e:(hb (y :: l)==6)=false:=by simp [hb,h2]
     rw [e];simp only [D6,gY,fb];have:ri (y :: l)=0:=by unfold ri; rw [ab h2]
     rw [this];rfl
  ·rw [ab h];simp [h]
theorem F8 (pj:Int→Int→Int) (hp:∀a b,pj a b=2→(a=6↔b=6)) (l:List am) (p:am):sgJ pj (sgF l) p=rj pj l.reverse p:=by
 rw [F9];generalize l.reverse=r
 cases r with
 | nil=>rfl
 | cons a r=>
  unfold sgJ rj;simp only [I7,fb,dh,hb];rw [GS,Gg,←Hs];have e1:(cst (a :: r)==2)=decide (cst (a :: r)=2∨(cst (a :: r)≠0∧0 < 0)):=by
   rw [cg]; simp
  have e2:(pst (a :: r)==2)=(!a.Pict && a.Break==5 && decide (pst r=1)):=by
   rw [cg];simp only [aS,aq,cw,an];show nxP (pst r) a=2↔_;unfold nxP;by_cases h1:a.Pict=true
   ·rw [ae h1,h1]; simp
   ·rw [ab h1];simp only [tf] at h1;by_cases h2:pst r=1∧a.Break=4
    ·rw [ae h2]; simp [h1,h2]
    ·rw [ab h2];by_cases h3:pst r=1∧a.Break=5
     ·rw [ae h3]; simp [h1,h3]
     ·rw [ab h3];simp only [h1];constructor
      ·intro e; exact absurd e (by decide)
      ·rintro ⟨⟨_,q1⟩,q2⟩; exact absurd ⟨q2,q1⟩ h3
  have e3:(pj a.Break p.Break==2 && a.Break==6 && od (a :: r))=(pj a.Break p.Break==2 && p.Break==6 && od (a :: r)):=by
   by_cases h:pj a.Break p.Break=2
   ·have e6:(a.Break==6)=(p.Break==6):=by
     rw [cg,aS,aS];exact hp _ _ h
    rw [e6]
   ·have e7:(pj a.Break p.Break==2)=false:=by rw [eO]; exact h
    rw [e7];rfl
  rw [e1,e2,e3]
  cases (p.Conj==1 && decide (cst (a :: r)=2∨(cst (a :: r)≠0∧0 < 0))) <;> cases (p.Pict && (!a.Pict && a.Break==5 && decide (pst r=1))) <;> cases (pj a.Break p.Break==1) <;> rfl
structure Sq (s t:Sg):Prop where
 pict:s.pict=t.pict
 conj:s.conj=t.conj
 odd:s.odd=t.odd
theorem F7 {s t:Sg} (h:Sq s t) (h1:s.odd=true→s.some=true∧s.last=6) (h2:t.odd=true→t.some=true∧t.last=6) (p:am):sgN s p=sgN t p:=by
 unfold sgN;rw [h.pict,h.conj]
 congr 2
 have:(s.some && s.last==6 && s.odd)=(t.some && t.last==6 && t.odd):=by
  have ho:=h.odd;rw [cg];simp only [aq,aS];constructor
  ·rintro ⟨_,q⟩;have:=h2 (ho▸ q);exact ⟨this,ho▸ q⟩
  ·rintro ⟨_,q⟩;have:=h1 (ho▸ q);exact ⟨this,ho▸ q⟩
 rw [this]
end Go.Proofs.YtclmdpamofdoiaaGreatDoor
namespace Go.Proofs.YtclmdpamofdoiaaGreatDoor
def DT (c:List (List Int)) (r:Int):List (List Int):=c.dropLast++ [c.getLast?.getD []++ [r]]
theorem mw (c:List (List Int)) (x:List Int) (r:Int):DT (c++ [x]) r=c++ [x++ [r]]:=by
 unfold DT;simp
section
variable (pj:Int→Int→Int) (pr:Int→am)
def clS (l:List Int):List (List Int)×Sg:=l.foldl (fun a r=>(if sgJ pj a.2 (pr r)=true then DT a.1 r else a.1++ [[r]],sgN a.2 (pr r))) ([],sg0)
def cls (l:List Int):List (List Int):=(clS pj pr l).1
def jn (l:List Int) (r:Int):Bool:=sgJ pj (sgF (l.map pr)) (pr r)
theorem rY (l:List am) (x:am):sgF (l++ [x])=sgN (sgF l) x:=by
 unfold sgF;rw [jH];rfl
theorem H7 (l:List Int):(clS pj pr l).2=sgF (l.map pr):=by
 have key:∀(l:List Int) (a:List (List Int)×Sg),(l.foldl (fun a r=>(if sgJ pj a.2 (pr r)=true then DT a.1 r else a.1++ [[r]],sgN a.2 (pr r))) a).2=(l.map pr).foldl sgN a.2:=by
  intro l
  induction l with
  | nil=>intro a; rfl
  | cons r l ih=>intro a; rw [Cc,ih,rP,Cc]
 exact key l _
theorem A0:cls pj pr []= []:=rfl
theorem oM (l:List Int) (r:Int):cls pj pr (l++ [r])=if jn pj pr l r=true then DT (cls pj pr l) r else cls pj pr l++ [[r]]:=by
 unfold cls jn;rw [←H7 pj];unfold clS;rw [jH];rfl
theorem wM {l:List Int} {r:Int} (h:jn pj pr l r=true):l≠ []:=by
 rintro rfl;simp [jn,sgJ,sgF,sg0] at h
end
theorem rX {P:List Int→Prop} (h0:P []) (h1:∀l r,P l→P (l++ [r])) (l:List Int):P l:=by
 have key:∀l:List Int,P l.reverse:=by
  intro l
  induction l with
  | nil=>exact h0
  | cons r l ih=>rw [I5]; exact h1 _ _ ih
 have:=key l.reverse
 rwa [Io] at this
theorem jm {α:Type} {l:List α} (h:l≠ []):∃l0 x,l=l0++ [x]:=⟨l.dropLast,l.getLast h,(List.dropLast_concat_getLast h).symm⟩
variable {pj:Int→Int→Int} {pr:Int→am}
theorem oN (l:List Int):(cls pj pr l).flatten=l∧(∀c∈cls pj pr l,c≠ [])∧(l≠ []→cls pj pr l≠ []):=by
 refine rX (P:=fun l=>(cls pj pr l).flatten=l∧(∀c∈cls pj pr l,c≠ [])∧(l≠ []→cls pj pr l≠ [])) ⟨rfl,fun c hc=>by simp [A0] at hc,fun h=>absurd rfl h⟩ (fun l r ih=>?_) l;obtain ⟨h1,h2,h3⟩:=ih;rw [oM];split
 ·rename_i hj
  obtain ⟨c0,x,e⟩:=jm (h3 (wM pj pr hj));rw [e] at h1 h2⊢;rw [mw];refine ⟨?_,fun c hc=>?_,fun _=>by simp⟩
  ·rw [←h1]; simp
  ·rcases List.mem_append.1 hc with hc | hc
   ·exact h2 c (ew _ hc)
   ·rw [List.mem_singleton.1 hc]; simp
 ·refine ⟨by rw [Iz,h1]; simp,fun c hc=>?_,fun _=>by simp⟩;rcases List.mem_append.1 hc with hc | hc
  ·exact h2 c hc
  ·rw [List.mem_singleton.1 hc]; simp
theorem yP {l:List Int} {x:Int} {c0:List (List Int)} {c:List Int} (h:cls pj pr (l++ [x])=c0++ [c]):∃c',c=c'++ [x]:=by
 obtain ⟨h1,h2,_⟩:=oN (pj:=pj) (pr:=pr) (l++ [x]);rw [h] at h1 h2;obtain ⟨c',y,rfl⟩:=jm (h2 c (by simp));refine ⟨c',?_⟩;rw [Iz] at h1;simp only [nG,List.flatten_nil,da] at h1;rw [←aF] at h1;have:=G6 h1 rfl;rw [List.singleton_inj.1 this]
section
variable (pj:Int→Int→Int) (pr:Int→am)
def sts (l:List Int):List Nat:=(List.range l.length).filter fun i=> !jn pj pr (l.take i) (l.getD i 0)
theorem uH (l:List Int) (r:Int):sts pj pr (l++ [r])=sts pj pr l++(if jn pj pr l r=true then [] else [l.length]):=by
 unfold sts;rw [av,Hc,lf,IV]
 congr 1
 ·refine List.filter_congr fun i hi=>?_;have hi:=List.mem_range.1 hi;rw [dF (by omega)]
  congr 2
  rw [ao,ao,aB hi]
 ·rw [List.filter_cons,List.filter_nil];have e1:(l++ [r]).take l.length=l:=by simp
  have e2:(l++ [r]).getD l.length 0=r:=by simp
  rw [e1,e2]
  cases jn pj pr l r <;> rfl
end
theorem zp {l:List Int} {i:Nat} (h:i∈sts pj pr l):i < l.length:=by
 unfold sts at h;exact List.mem_range.1 (List.mem_filter.1 h).1
theorem FZ {l:List Int} (h:l≠ []):sts pj pr l≠ []:=by
 refine rX (P:=fun l=>l≠ []→sts pj pr l≠ []) (fun h=>absurd rfl h) (fun l r ih _=>?_) l h;rw [uH];split
 ·rename_i hj
  intro e;exact ih (wM pj pr hj) (by simpa using e)
 ·simp
def slx (l:List Int) (a b:Nat):List Int:=(l.drop a).take (b - a)
def pcs (l:List Int) (a:List Nat):List (List Int):=(List.range (a.length - 1)).map fun i=>slx l (a.getD i 0) (a.getD (i+1) 0)
theorem uR (l:List Int) (B:List Nat) (a b:Nat):pcs l (B++ [a]++ [b])=pcs l (B++ [a])++ [slx l a b]:=by
 unfold pcs;have e1:(B++ [a]++ [b]).length - 1=B.length+1:=by simp
 have e2:(B++ [a]).length - 1=B.length:=by simp
 rw [e1,e2,lf,bO]
 congr 1
 ·refine cX fun i hi=>?_;have hi:=List.mem_range.1 hi;have g:∀j,j < B.length+1→(B++ [a]++ [b]).getD j 0=(B++ [a]).getD j 0:=fun j hj=>by
   rw [ao,ao,aB (by simp; omega)]
  rw [g i (by omega),g (i+1) (by omega)]
 ·simp
theorem Ee {l:List Int} {a b:Nat} (h:b≤l.length) (r:List Int):slx (l++r) a b=slx l a b:=by
 unfold slx;rcases aG a l.length with ha | ha
 ·rw [gX (by omega),dF (by simp; omega)]
 ·rw [show b - a=0 by omega,fW,fW]
theorem As {l:List Int} {A:List Nat} (h:∀a∈A,a≤l.length) (r:List Int):pcs (l++r) A=pcs l A:=by
 unfold pcs;refine cX fun i hi=>?_;have hi:=List.mem_range.1 hi;refine Ee ?_ r;rw [ao,af (by omega)];exact h _ (ax _)
theorem xW {l:List Int} {a:Nat} (h:a≤l.length) (r:Int):slx (l++ [r]) a (l.length+1)=slx l a l.length++ [r]:=by
 unfold slx;rw [gX h,aH (by simp; omega),aH (by simp)]
theorem EF (l:List Int):pcs l (sts pj pr l++ [l.length])=cls pj pr l:=by
 refine rX (P:=fun l=>pcs l (sts pj pr l++ [l.length])=cls pj pr l) rfl (fun l r ih=>?_) l;have hle:∀a∈sts pj pr l++ [l.length],a≤l.length:=fun a ha=>by
  rcases List.mem_append.1 ha with ha | ha
  ·exact tP (zp ha)
  ·rw [List.mem_singleton.1 ha]; exact ay _
 rw [oM,uH,av,Hc];split
 ·rename_i hj
  obtain ⟨B,a,e⟩:=jm (FZ (pj:=pj) (pr:=pr) (wM pj pr hj));rw [e] at ih hle⊢;rw [da,uR,←ih,uR,mw,xW (hle a (by simp)),As (fun x hx=>hle x (ew _ hx))]
 ·rw [uR,As hle,ih,xW (ay _)];simp [slx]
structure Sil (pj:Int→Int→Int) (pr:Int→am) (sil:Int→Bool):Prop where
 s:∀r,sil r=true→((pr r).Break=1∨(pr r).Break=2∨(pr r).Break=3)∧(pr r).Pict=false∧(pr r).Conj=0
 ja:∀a b,(a=1∨a=2∨a=3)→pj a b≠0→a=1∧b=2
 jb:∀a b,(b=1∨b=2∨b=3)→pj a b≠0→a=1∧b=2
 b:∀r,(pr r).Break=1∨(pr r).Break=2→sil r=true
variable {sil:Int→Bool}
theorem Sil.state (h:Sil pj pr sil) (l:List Int) {x:Int} (hx:sil x=true):sgF ((l++ [x]).map pr)=⟨true,(pr x).Break,0,0,false⟩:=by
 obtain ⟨h1,h2,h3⟩:=h.s x hx;rw [bO,qH,rY];unfold sgN nxP nxC;rw [h2,h3,ab (by simp),ab (by omega),ab (by omega),ab (by omega)]
 congr 1
 ·split <;> rfl
 ·have e:((pr x).Break==6)=false:=by rw [eO]; omega
  rw [e,gY]
theorem Sil.no (h:Sil pj pr sil) (l:List Int) {x r:Int} (hx:sil x=true) (hr:sil r=false):jn pj pr (l++ [x]) r=false:=by
 obtain ⟨h1,_,_⟩:=h.s x hx;unfold jn;rw [h.state l hx];have hz:pj (pr x).Break (pr r).Break=0:=Classical.byContradiction fun hne=>by
  have:=h.b r (.inr (h.ja _ _ h1 hne).2);rw [hr] at this;cases this
 simp [sgJ,hz]
theorem Sil.new (h:Sil pj pr sil) (l:List Int) {x:Int} (hx:sil x=true) (p:am):sgN (sgF ((l++ [x]).map pr)) p=sgN sg0 p:=by
 rw [h.state l hx];exact F7 (s:=⟨true,(pr x).Break,0,0,false⟩) (t:=sg0) ⟨rfl,rfl,rfl⟩ (fun e=>by simp at e) (fun e=>by simp [sg0] at e) p
theorem Sil.yes (h:Sil pj pr sil) {l:List Int} {r:Int} (hr:sil r=true) (hj:jn pj pr l r=true):∃l0 x,l=l0++ [x]∧sil x=true:=by
 obtain ⟨l0,x,rfl⟩:=jm (wM pj pr hj);refine ⟨l0,x,rfl,?_⟩;obtain ⟨h1,h2,h3⟩:=h.s r hr;unfold jn at hj;rw [bO,qH,rY] at hj;have hl:(sgN (sgF (l0.map pr)) (pr x)).last=(pr x).Break:=rfl;unfold sgJ at hj;rw [h2,h3,hl] at hj;have hz:pj (pr x).Break (pr r).Break≠0:=fun e=>by
  rw [e] at hj;simp at hj
 exact h.b x (.inl (h.jb _ _ h1 hz).1)
theorem Sil.all (h:Sil pj pr sil) (l:List Int):∀c∈cls pj pr l,(∀x∈c,sil x=true)∨∀x∈c,sil x=false:=by
 refine rX (P:=fun l=>∀c∈cls pj pr l,(∀x∈c,sil x=true)∨∀x∈c,sil x=false) (fun c hc=>by simp [A0] at hc) (fun l r ih=>?_) l;rw [oM];split
 ·rename_i hj
  obtain ⟨l0,x,rfl⟩:=jm (wM pj pr hj);obtain ⟨c0,c,e⟩:=jm ((oN (pj:=pj) (pr:=pr) (l0++ [x])).2.2 (by simp));obtain ⟨c',rfl⟩:=yP e;rw [e] at ih⊢;rw [mw];intro d hd;rcases List.mem_append.1 hd with hd | hd
  ·exact ih d (ew _ hd)
  ·rw [List.mem_singleton.1 hd];have hc:=ih (c'++ [x]) (by simp)
   cases hr:sil r with
   | true=>
    obtain ⟨l1,y,e1,hy⟩:=h.yes hr hj;have:x=y:=List.singleton_inj.1 (G6 e1 rfl);subst this
    left
    rcases hc with hc | hc
    ·intro z hz;rcases List.mem_append.1 hz with hz | hz
     ·exact hc z hz
     ·rw [List.mem_singleton.1 hz]; exact hr
    ·have:=hc x (by simp);rw [hy] at this;cases this
   | false=>
    right
    rcases hc with hc | hc
    ·have:=h.no l0 (hc x (by simp)) hr;rw [this] at hj;cases hj
    ·intro z hz;rcases List.mem_append.1 hz with hz | hz
     ·exact hc z hz
     ·rw [List.mem_singleton.1 hz]; exact hr
 ·intro d hd;rcases List.mem_append.1 hd with hd | hd
  ·exact ih d hd
  ·rw [List.mem_singleton.1 hd]
   cases hr:sil r with
   | true=>left; intro z hz; rw [List.mem_singleton.1 hz]; exact hr
   | false=>right; intro z hz; rw [List.mem_singleton.1 hz]; exact hr
end Go.Proofs.YtclmdpamofdoiaaGreatDoor
namespace Go.Lt
theorem wN {σ τ β:Type} {step:σ→Option (σ ⊕ τ)} {fuel:Nat} {s:σ} {k:τ→Option β} {r:Option β} (Inv:σ→Prop) (μ:σ→Nat) (post:τ→Prop)
  (h:∀s,Inv s→(∃s',step s=some (.inl s')∧Inv s'∧μ s' < μ s)∨∃t,step s=some (.inr t)∧post t) (h0:Inv s) (hf:μ s < fuel) (hk:∀t,post t→k t=r):(cv fuel step s).bind k=r:=by
 obtain ⟨t,e1,e2⟩:=mF Inv μ post h fuel s h0 hf;rw [e1];exact hk t e2
theorem BM {σ τ β:Type} {step:σ→Option (σ ⊕ τ)} {fuel:Nat} {s:σ} {k:τ→Option β} {p:β→Prop} (Inv:σ→Prop) (μ:σ→Nat) (post:τ→Prop)
  (h:∀s,Inv s→(∃s',step s=some (.inl s')∧Inv s'∧μ s' < μ s)∨∃t,step s=some (.inr t)∧post t) (h0:Inv s) (hf:μ s < fuel) (hk:∀t,post t→∃r,k t=some r∧p r):∃r,(cv fuel step s).bind k=some r∧p r:=by
 obtain ⟨t,e1,e2⟩:=mF Inv μ post h fuel s h0 hf;rw [e1];exact hk t e2
theorem Fk {α σ τ:Type} {x:Option α} {k:α→Option (σ ⊕ τ)} {A:σ→Prop} {B:τ→Prop} (post:α→Prop) (hx:∃t,x=some t∧post t)
  (hk:∀t,post t→(∃s',k t=some (.inl s')∧A s')∨∃u,k t=some (.inr u)∧B u):(∃s',x.bind k=some (.inl s')∧A s')∨∃t,x.bind k=some (.inr t)∧B t:=by
 obtain ⟨t,e1,e2⟩:=hx;rw [e1];exact hk t e2
variable {α:Type} {lo hi:α→Int}
def rV (lo hi:α→Int):List α→Bool
 | []=>true
 | x :: l=>decide (lo x≤hi x) && (match l with | []=>true | y :: _=>decide (hi x < lo y)) && rV lo hi l
theorem xa:∀{T:List α},rV lo hi T=true→∀i (h:i < T.length),lo T[i]≤hi T[i]
 | [],_,i,h=>by simp at h
 | x :: l,hs,i,h=>by
  simp only [rV,aq,an] at hs
  cases i with
  | zero=>exact hs.1.1
  | succ i=>exact xa hs.2 i (by simpa using h)
theorem qI:∀{T:List α},rV lo hi T=true→∀i j (h:j < T.length),(hij:i < j)→hi (T[i]'(by omega)) < lo T[j]
 | [],_,i,j,h,_=>by simp at h
 | x :: l,hs,i,j,h,hij=>by
  have hs0:=hs;simp only [rV,aq,an] at hs
  cases j with
  | zero=>omega
  | succ j=>
   have hj:j < l.length:=by simpa using h
   cases i with
   | succ i=>exact qI hs.2 i j hj (by omega)
   | zero=>
    cases l with
    | nil=>simp at hj
    | cons y l'=>
     have h1:hi x < lo y:=by simpa using hs.1.2
     cases j with
     | zero=>exact h1
     | succ j=>
      have h2:=qI hs.2 0 (j+1) hj (by omega);have h3:=xa hs.2 0 (by simp);simp only [G1] at h2 h3;simp only [G1,G3] at h2⊢;omega
def onn (lo hi:α→Int) (r:Int) (x:α):Bool:=decide (lo x≤r) && decide (r≤hi x)
theorem ss {r:Int} {x:α}:onn lo hi r x=true↔lo x≤r∧r≤hi x:=by simp [onn]
theorem CT {T:List α} (hs:rV lo hi T=true) {r:Int} {i j:Nat} (hi':i < T.length) (hj:j < T.length) (h1:onn lo hi r T[i]=true) (h2:onn lo hi r T[j]=true):i=j:=by
 rw [ss] at h1 h2;rcases Nat.lt_trichotomy i j with h | h | h
 ·have:=qI hs i j hj h;omega
 ·exact h
 ·have:=qI hs j i hi' h;omega
def fnd (lo hi:α→Int) (T:List α) (r:Int):Option α:=T.find? (onn lo hi r)
theorem Df {T:List α} (hs:rV lo hi T=true) {r:Int} {x:α} (hx:x∈T) (h:onn lo hi r x=true):fnd lo hi T r=some x:=by
 unfold fnd;obtain ⟨i,hi',rfl⟩:=List.mem_iff_getElem.1 hx;rw [List.find?_eq_some_iff_getElem];refine ⟨h,i,hi',rfl,fun j hj=>?_⟩
 cases hb:onn lo hi r (T[j]'(by omega)) with
 | false=>rfl
 | true=>exact absurd (CT hs (by omega) hi' hb h) (by omega)
theorem yG {T:List α} {r:Int} (h:∀i (h:i < T.length),onn lo hi r T[i]=false):fnd lo hi T r=none:=by
 unfold fnd;rw [List.find?_eq_none];intro x hx;obtain ⟨i,hi',rfl⟩:=List.mem_iff_getElem.1 hx;simp [h i hi']
theorem xu {T:List α} {r:Int} {x:α} (h:fnd lo hi T r=some x):x∈T∧onn lo hi r x=true:=⟨List.mem_of_find?_eq_some h,List.find?_some h⟩
theorem xv {T:List α} (hs:rV lo hi T=true) {r:Int} {i:Nat} (h1:∀j (h:j < T.length),j < i→hi T[j] < r) (h2:∀j (h:j < T.length),i≤j→r≤hi T[j]):
  fnd lo hi T r=if h:i < T.length then (if lo T[i]≤r then some T[i] else none) else none:=by
 have hno:∀j (h:j < T.length),j≠i→onn lo hi r T[j]=false:=fun j h hne=>by
  cases hb:onn lo hi r T[j] with
  | false=>rfl
  | true=>
   rw [ss] at hb;rcases aG j i with hj | hj
   ·have:=h1 j h hj;omega
   ·have h3:=qI hs i j h (by omega);have h4:=h2 i (by omega) (ay _);omega
 split
 ·rename_i hi'
  split
  ·rename_i hl
   exact Df hs (ax hi') (ss.2 ⟨hl,h2 i hi' (ay _)⟩)
  ·rename_i hl
   refine yG fun j h=>?_;by_cases hj:j=i
   ·subst hj
    cases hb:onn lo hi r T[j] with
    | false=>rfl
    | true=>exact absurd (ss.1 hb).1 hl
   ·exact hno j h hj
 ·rename_i hi'
  exact yG fun j h=>hno j h (by omega)
theorem ET {a b:Nat} (h:a+b≤4611686018427387904):w64 ((IntKind.u64.wrap (w64 ((a:Int)+(b:Int)))).fdiv (2 ^ 1))=(((a+b) / 2:Nat):Int):=by
 have e0:w64 ((a:Int)+(b:Int))=((a+b:Nat):Int):=by rw [aJ (by omega)]; simp
 have h1:IntKind.u64.wrap ((a+b:Nat):Int)=((a+b:Nat):Int):=by
  have:((a+b:Nat):Int) % 18446744073709551616=((a+b:Nat):Int):=Int.emod_eq_of_lt (by omega) (by omega);simpa [IntKind.wrap,IntKind.bits,IntKind.signed] using this
 have e2:(((a+b:Nat):Int)).fdiv (2 ^ 1)=(((a+b) / 2:Nat):Int):=by
  rw [D4 _ (by decide)];omega
 rw [e0,h1,e2,aJ (by omega)]
theorem qJ {T:List α} (hs:rV lo hi T=true) (hl:T.length≤1000000) (r:Int) {step:Int×Int→Option (Int×Int ⊕ Int)}
  (h1:∀a b:Nat,(hab:a < b)→(hb:b≤T.length)→step ((a:Int),(b:Int))=some (.inl (if r≤hi (T[(a+b) / 2]'(by omega)) then ((a:Int),(((a+b) / 2:Nat):Int)) else (((((a+b) / 2+1:Nat):Int)),(b:Int)))))
  (h2:∀a:Nat,step ((a:Int),(a:Int))=some (.inr (a:Int))):
  ∃i:Nat,cv (((T.length:Int) - 0).toNat+1) step (0,(T.length:Int))=some (i:Int)∧i≤T.length∧(∀j (h:j < T.length),j < i→hi T[j] < r)∧(∀j (h:j < T.length),i≤j→r≤hi T[j]):=by
 have hmono:∀j k (h:k < T.length),(hjk:j≤k)→hi (T[j]'(by omega))≤hi T[k]:=fun j k h hjk=>by
  rcases aG j k with hlt | hge
  ·have e1:=qI hs j k h hlt;have e2:=xa hs k h;omega
  ·obtain rfl:j=k:=by omega
   exact A9 _
 obtain ⟨t,e1,i,e2,e3,e4,e5⟩:=mF (step:=step) (fun q=>∃a b:Nat,q=((a:Int),(b:Int))∧a≤b∧b≤T.length∧(∀j (h:j < T.length),j < a→hi T[j] < r)∧(∀j (h:j < T.length),b≤j→r≤hi T[j]))
  (fun q=>(q.2 - q.1).toNat) (fun t=>∃i:Nat,t=(i:Int)∧i≤T.length∧(∀j (h:j < T.length),j < i→hi T[j] < r)∧(∀j (h:j < T.length),i≤j→r≤hi T[j]))
  (by
   rintro q ⟨a,b,rfl,hab,hb,c1,c2⟩;rcases aG a b with hlt | hge
   ·left
    rw [h1 a b hlt hb];refine ⟨_,rfl,?_⟩;by_cases hr:r≤hi (T[(a+b) / 2]'(by omega))
    ·rw [ae hr];exact ⟨⟨a,(a+b) / 2,rfl,by omega,by omega,c1,fun j h hj=>Int.le_trans hr (hmono _ _ h hj)⟩,by simp only; omega⟩
    ·rw [ab hr];refine ⟨⟨(a+b) / 2+1,b,rfl,by omega,hb,fun j h hj=>?_,c2⟩,by simp only; omega⟩;have:=hmono j ((a+b) / 2) (by omega) (by omega);omega
   ·right
    obtain rfl:a=b:=by omega
    exact ⟨_,h2 a,a,rfl,hb,c1,c2⟩)
  (((T.length:Int) - 0).toNat+1) (0,(T.length:Int)) ⟨0,T.length,rfl,dp _,ay _,fun j h hj=>by omega,fun j h hj=>by omega⟩ (by simp only; omega)
 subst e2;exact ⟨i,e1,e3,e4,e5⟩
def HH (v:Option Int):Int ⊕ Unit:=match v with | some x=> .inl x | none=> .inr ()
theorem C3 {n:Nat} (hn:n≤1000000) {v:Option Int} {step:Int→Option (Int ⊕ (Int ⊕ Unit))}
  (h1:∀k:Nat,k < n→step (k:Int)=if v=some ((k:Int)+1) then some (.inr (.inl ((k:Int)+1))) else some (.inl ((k+1:Nat):Int)))
  (h2:step (n:Int)=some (.inr (.inr ()))) (hv:∀x,v=some x→1≤x∧x≤n):cv (((n:Int) - 0).toNat+1) step 0=some (HH v):=by
 refine pb (fun s=>∃k:Nat,s=(k:Int)∧k≤n∧∀j:Nat,j < k→v≠some ((j:Int)+1)) (fun s=>((n:Int) - s).toNat) ?_ ⟨0,rfl,dp _,fun j hj=>by omega⟩ (by omega);rintro s ⟨k,rfl,hk,hno⟩;rcases aG k n with hlt | hge
 ·rw [h1 k hlt];by_cases he:v=some ((k:Int)+1)
  ·rw [ae he]
   right
   subst he;rfl
  ·rw [ab he];refine .inl ⟨_,rfl,⟨k+1,rfl,by omega,fun j hj=>?_⟩,by omega⟩;by_cases hjk:j=k
   ·subst hjk; exact he
   ·exact hno j (by omega)
 ·obtain rfl:k=n:=by omega
  rw [h2]
  right
  cases v with
  | none=>rfl
  | some x=>
   obtain ⟨e1,e2⟩:=hv x rfl;exact absurd (show some x=some (((x - 1).toNat:Int)+1) by congr 1; omega) (hno (x - 1).toNat (by omega))
theorem tC {n fuel:Nat} {β:Type} {kk:Int ⊕ Unit→Option β} {rr:Option β} (hn:n≤1000000) {v:Option Int} {step:Int→Option (Int ⊕ (Int ⊕ Unit))}
  (h1:∀k:Nat,k < n→step (k:Int)=if v=some ((k:Int)+1) then some (.inr (.inl ((k:Int)+1))) else some (.inl ((k+1:Nat):Int)))
  (h2:step (n:Int)=some (.inr (.inr ()))) (hv:∀x,v=some x→1≤x∧x≤n) (hf:fuel=((n:Int) - 0).toNat+1) (hk:kk (HH v)=rr):(cv fuel step 0).bind kk=rr:=by
 subst hf;rw [C3 hn h1 h2 hv];exact hk
def lk (T:List (Int×Int×Int)) (r:Int):Option Int:=(fnd (fun x=>x.1) (fun x=>x.2.1) T r).map (fun x=>x.2.2)
def vP (l:List (Int×Int)) (r:Int):Bool:=l.any (onn (fun x=>x.1) (fun x=>x.2) r)
def ofv (T:List (Int×Int×Int)) (v:Int):List (Int×Int):=(T.filter (fun x=>x.2.2==v)).map (fun x=>(x.1,x.2.1))
theorem xt {T:List (Int×Int×Int)} (hs:rV (fun x=>x.1) (fun x=>x.2.1) T=true) (v r:Int):vP (ofv T v) r=decide (lk T r=some v):=by
 unfold vP ofv lk;rw [List.any_map,List.any_filter]
 cases hf:fnd (fun x=>x.1) (fun x=>x.2.1) T r with
 | none=>
  simp only [Jm,reduceCtorEq,decide_false];rw [I9];intro x hx;unfold fnd at hf;have:=List.find?_eq_none.1 hf x hx;simp only [Function.comp,aq,yt];intro _;simpa [onn] using this
 | some x=>
  obtain ⟨h1,h2⟩:=xu hf;simp only [gi,aK];by_cases hv:x.2.2=v
  ·rw [vm hv,Af];exact ⟨x,h1,by simp only [Function.comp,aq,aS]; exact ⟨hv,h2⟩⟩
  ·rw [decide_eq_false hv,I9];intro y hy;simp only [Function.comp,aq,aS,yt];intro e
   cases hb:onn (fun x:Int×Int=>x.1) (fun x=>x.2) r (y.1,y.2.1) with
   | false=>simp
   | true=>
    have:=Df hs hy (show onn (fun x:Int×Int×Int=>x.1) (fun x=>x.2.1) r y=true from hb);rw [hf] at this;cases this;exact absurd e hv
theorem C2 {T:List (Int×Int×Int)} {p:Int→Bool} (h:T.all (fun x=>p x.2.2)=true) {r v:Int} (hv:lk T r=some v):p v=true:=by
 unfold lk at hv;obtain ⟨x,hx,rfl⟩:=Option.map_eq_some_iff.1 hv;exact List.all_eq_true.1 h x (xu hx).1
end Go.Lt
namespace Go.Proofs.YtclmdpamofdoiaaGreatDoor
open Go Go.Lt
set_option maxRecDepth 100000
def gT:List (Int×Int×Int):=match mI with | some t=>t | none=>[]
def pT:List (Int×Int):=match lK with | some t=>t | none=>[]
def cT:List (Int×Int×Int):=match lQ with | some t=>t | none=>[]
def eT:List (Int×Int×Int):=match lP with | some t=>t | none=>[]
theorem HP:mI=some gT:=rfl
theorem HE:lK=some pT:=rfl
theorem Ic:lQ=some cT:=rfl
theorem HX:lP=some eT:=rfl
theorem GG:rV (fun x=>x.1) (fun x=>x.2.1) gT=true:=by kernel_rfl
theorem HC:rV (fun x=>x.1) (fun x=>x.2) pT=true:=by kernel_rfl
theorem GU:rV (fun x=>x.1) (fun x=>x.2.1) cT=true:=by kernel_rfl
theorem GL:rV (fun x=>x.1) (fun x=>x.2.1) eT=true:=by kernel_rfl
theorem GH:gT.length≤1000000:=by
 have:Nat.ble gT.length 1000000=true:=by kernel_rfl
 exact bE this
theorem Gn:pT.length≤1000000:=by
 have:Nat.ble pT.length 1000000=true:=by kernel_rfl
 exact bE this
theorem GV:cT.length≤1000000:=by
 have:Nat.ble cT.length 1000000=true:=by kernel_rfl
 exact bE this
theorem GM:eT.length≤1000000:=by
 have:Nat.ble eT.length 1000000=true:=by kernel_rfl
 exact bE this
theorem II:gT.all (fun x=>decide (1≤x.2.2) && decide (x.2.2≤8))=true:=by kernel_rfl
theorem IM:cT.all (fun x=>decide (1≤x.2.2) && decide (x.2.2≤3))=true:=by kernel_rfl
theorem IL:eT.all (fun x=>decide (1≤x.2.2) && decide (x.2.2≤3))=true:=by kernel_rfl
def hcl (r:Int):Int:=
 if (4352≤r∧r≤4447)∨(43360≤r∧r≤43388) then 9
 else if (4448≤r∧r≤4519)∨(55216≤r∧r≤55238) then 10
 else if (4520≤r∧r≤4607)∨(55243≤r∧r≤55291) then 11
 else if r < 44032∨55203 < r then 0
 else if (r - 44032) % 28=0 then 12 else 13
def r32 (r:Int):Prop:= -2147483648≤r∧r≤2147483647
theorem r32.w {r:Int} (h:r32 r):w64 r=r:=by unfold r32 at h; exact aJ (by omega)
theorem px {α:Type} {b:Bool} {p:Prop} [Decidable p] (h:b=true↔p) (x y:α):(if b=true then x else y)=if p then x else y:=by
 by_cases hp:p
 ·rw [ae hp,ae (h.2 hp)]
 ·rw [ab hp,ab (fun e=>hp (h.1 e))]
theorem rW {α:Type} {p:Prop} [Decidable p] (x y:α):(if p then some x else some y)=some (if p then x else y):=by split <;> rfl
theorem sy (r:Int) (h:r32 r):ke r=some (hcl r):=by
 unfold r32 at h;unfold ke jS gw hcl;simp only [ba,bsm,br];have hw:44032≤r→r≤55203→(w32 (r - 44032)).tmod 28=(r - 44032) % 28:=fun h1 h2=>by
  rw [wV (by omega),DZ (by omega)]
 rw [px (p:=(4352≤r∧r≤4447)∨(43360≤r∧r≤43388)) (by simp),px (p:=(4448≤r∧r≤4519)∨(55216≤r∧r≤55238)) (by simp),px (p:=(4520≤r∧r≤4607)∨(55243≤r∧r≤55291)) (by simp)];rw [px (p:=r < 44032∨55203 < r) (by simp)];by_cases hs:r < 44032∨55203 < r
 ·simp only [ae hs,rW]
 ·simp only [ab hs];rw [hw (by omega) (by omega)];rw [px (p:=(r - 44032) % 28=0) (by simp)];simp only [rW]
theorem Bt (r:Int) (h1:44032≤r) (h2:r≤55203):∃x,dz r=some x∧(x.1≠0∧(x.2.2=0↔(r - 44032) % 28=0)):=by
 have hw:w64 r=r:=aJ (by omega);unfold dz;simp only [hw,br,bsm];rw [ab (by simp; omega)];refine BM (fun q=>∃i:Nat,i≤19∧q=((44032+588 * (i:Int),4352+(i:Int)):Int×Int)∧44032+588 * (i:Int)≤r) (fun q=>(4371 - q.2).toNat)
  (fun t=>∃x:Int×Int×Int,t= .inl x∧(x.1≠0∧(x.2.2=0↔(r - 44032) % 28=0))) ?_ ⟨0,by omega,by simp,by omega⟩ (by simp only; omega) ?_
 ·rintro q ⟨i,hi,rfl,hir⟩;by_cases hi2:i=19
  ·subst hi2;omega
  dsimp only
  rw [ae (by simp; omega)];refine Fk (fun t=>(∃x:Int×Int×Int,t= .inl x∧(x.1≠0∧(x.2.2=0↔(r - 44032) % 28=0)))∨(t= .inr (44032+588 * ((i+1:Nat):Int))∧44032+588 * ((i+1:Nat):Int)≤r))
   (mF (fun q=>∃j:Nat,j≤21∧q=((44032+588 * (i:Int)+28 * (j:Int),4449+(j:Int)):Int×Int)∧44032+588 * (i:Int)+28 * (j:Int)≤r) (fun q=>(4470 - q.2).toNat) _ ?_ _ _ ⟨0,by omega,by simp,by omega⟩ (by simp only; omega)) ?_
  ·rintro q ⟨j,hj,rfl,hjr⟩
   dsimp only
   by_cases hj2:j=21
   ·subst hj2
    right
    refine ⟨.inr (44032+588 * ((i+1:Nat):Int)),?_,.inr ⟨rfl,by omega⟩⟩;rw [ab (by simp),show (44032+588 * (i:Int)+28 * ((21:Nat):Int))=44032+588 * ((i+1:Nat):Int) by omega]
   ·rw [ae (by simp; omega),aJ (by omega)];by_cases hlt:r < 44032+588 * (i:Int)+28 * (j:Int)+28
    ·right
     rw [ae (by simpa using hlt)];rw [show w64 (4519+r)=4519+r from aJ (by omega),aJ (by omega)];by_cases hz:4519+r - (44032+588 * (i:Int)+28 * (j:Int))=4519
     ·rw [ae (by simpa using hz)];exact ⟨_,rfl,.inl ⟨_,rfl,by show 4352+(i:Int)≠0; omega,by show (0:Int)=0↔_; simp; omega⟩⟩
     ·rw [ab (by simpa using hz)];exact ⟨_,rfl,.inl ⟨_,rfl,by show 4352+(i:Int)≠0; omega,by show 4519+r - (44032+588 * (i:Int)+28 * (j:Int))=0↔_; omega⟩⟩
    ·left
     rw [ab (by simpa using hlt),aJ (by omega)];exact ⟨_,rfl,⟨j+1,by omega,by simp only [fM]; omega,by omega⟩,by omega⟩
  ·rintro t (⟨x,rfl,hx⟩ | ⟨rfl,hx⟩)
   ·exact .inr ⟨_,rfl,x,rfl,hx⟩
   ·refine .inl ⟨_,rfl,⟨i+1,by omega,?_,by omega⟩,?_⟩
    ·rw [aJ (by omega)];exact Prod.ext rfl (by show 4352+(i:Int)+1=4352+((i+1:Nat):Int); omega)
    ·rw [aJ (by omega)];omega
 ·rintro t ⟨x,rfl,hx⟩;exact ⟨x,rfl,hx⟩
theorem Bx (r:Int) (h:r32 r):el r=some (hcl r):=by
 have hw:=h.w;unfold r32 at h;unfold el hcl;simp only [hw,ba,bsm,br];rw [px (p:=(4352≤r∧r≤4447)∨(43360≤r∧r≤43388)) (by simp),px (p:=(4448≤r∧r≤4519)∨(55216≤r∧r≤55238)) (by simp),px (p:=(4520≤r∧r≤4607)∨(55243≤r∧r≤55291)) (by simp)];by_cases hs:r < 44032∨55203 < r
 ·have:dz r=some (0,0,0):=by
   unfold dz;simp only [hw,br,bsm];rw [ae (by simpa using hs)]
  rw [this];simp only [bsm,ae hs,rW];rfl
 ·obtain ⟨⟨l,v,t⟩,e1,e2,e3⟩:=Bt r (by omega) (by omega);have e2':(l==0)=false:=by simpa using e2
  rw [e1];simp only [bsm,e2',ak,aU,ab hs];rw [px (b:=t==0) (p:=(r - 44032) % 28=0) (by simpa using e3)];simp only [rW]
theorem xk (l:List (Int×Int)) (hl:l.length≤1000000) (r:Int) (h:r32 r):dM l r=some (vP l r):=by
 have hw:=h.w;unfold dM;simp only [hw];have key:cv (σ:=Int) (τ:=Bool ⊕ Unit) (((l.length:Int) - 0).toNat+1) (fun s_5=>
   if (decide (s_5 < (l.length:Int)))=true then
   (idx l s_5).bind fun x_15=>
   (bD (decide (r≥x_15.1)) ((idx l s_5).bind fun x_25=>
   some (decide (r≤x_25.2)))).bind fun d_19=>
   if d_19=true then
   some (.inr (.inl true))
   else
   some (.inl ((w64 (s_5+1))))
   else
   some (.inr (.inr ()))) (0)=some (if vP l r=true then .inl true else .inr ()):=by
  refine pb (fun s=>∃k:Nat,s=(k:Int)∧k≤l.length∧(l.take k).any (onn (fun x=>x.1) (fun x=>x.2) r)=false) (fun s=>((l.length:Int) - s).toNat) ?_ ⟨0,rfl,dp _,by simp⟩ (by omega);rintro s ⟨k,rfl,hk,hno⟩;rcases aG k l.length with hlt | hge
  ·have e1:(l.take (k+1)).any (onn (fun x=>x.1) (fun x=>x.2) r)=((l.take k).any (onn (fun x=>x.1) (fun x=>x.2) r) || onn (fun x=>x.1) (fun x=>x.2) r l[k]):=by
    rw [aj hlt,Ce];simp
   simp only [dlt hlt,bw,aW hlt,bsm,ba];have e2:(decide (r≥l[k].1) && decide (r≤l[k].2))=onn (fun x:Int×Int=>x.1) (fun x=>x.2) r l[k]:=rfl;rw [e2]
   cases hb:onn (fun x:Int×Int=>x.1) (fun x=>x.2) r l[k] with
   | true=>
    right
    have:vP l r=true:=by
     unfold vP;rw [Af];exact ⟨_,ax hlt,hb⟩
    rw [ae this];rfl
   | false=>
    left
    rw [ci hlt (by omega)];exact ⟨_,rfl,⟨k+1,rfl,hlt,by rw [e1,hno,hb]; rfl⟩,by omega⟩
  ·obtain rfl:k=l.length:=by omega
   right
   rw [bU] at hno;simp only [dnl,ak,aU];rw [show vP l r=false from hno];rfl
 rw [key]
 cases vP l r <;> rfl
theorem HO:(match iw,iv,iu,ir,iq,ip,io,il with
 | some a,some b,some c,some d,some e,some f,some g,some h=>[a,b,c,d,e,f,g,h]== [ofv gT 1,ofv gT 2,ofv gT 3,ofv gT 4,ofv gT 5,ofv gT 6,ofv gT 7,ofv gT 8] | _,_,_,_,_,_,_,_=>false)=true:=by kernel_rfl
theorem Ib:(match ik,ij,ii with
 | some a,some b,some c=>[a,b,c]== [ofv cT 1,ofv cT 2,ofv cT 3] | _,_,_=>false)=true:=by kernel_rfl
theorem HW:(match ig,ic,ib with
 | some a,some b,some c=>[a,b,c]== [ofv eT 1,ofv eT 2,ofv eT 3] | _,_,_=>false)=true:=by kernel_rfl
theorem HD:(iJ==some pT)=true:=by kernel_rfl
theorem xp (T:List (Int×Int×Int)) (v:Int):(ofv T v).length≤T.length:=by
 unfold ofv;rw [cM];exact nS _ _
theorem HA (r:Int) (h:r32 r):gS r=some ((lk gT r).getD (hcl r)):=by
 have hl:=HO;unfold gS;split at hl
 ·rename_i a b c d e f g hh ea eb ec ed ee ef eg eh
  rw [ea,eb,ec,ed,ee,ef,eg,eh];simp only [bsm];have hl2:=eq_of_beq hl;rw [hl2];refine tC (n:=8) (by decide) (v:=lk gT r) (fun k hk=>?_) (by rfl) (fun x hx=>?_) rfl ?_
  ·have hi:idx ([ofv gT 1,ofv gT 2,ofv gT 3,ofv gT 4,ofv gT 5,ofv gT 6,ofv gT 7,ofv gT 8]:List (List (Int×Int))) (k:Int)=some (ofv gT ((k:Int)+1)):=by
    rw [uz]
    match k,hk with
    | 0,_=>rfl
    | 1,_=>rfl
    | 2,_=>rfl
    | 3,_=>rfl
    | 4,_=>rfl
    | 5,_=>rfl
    | 6,_=>rfl
    | 7,_=>rfl
   simp only [hi,bsm];rw [ae (by simp; omega),xk _ (dd (xp _ _) GH) r h,xt GG,aJ (by omega)];simp only [bsm];rw [px (p:=lk gT r=some ((k:Int)+1)) (by simp)];rfl
  ·have:=C2 (p:=fun v=>decide (1≤v) && decide (v≤8)) II hx;simpa using this
  ·cases lk gT r with
   | none=>show ((el r).bind fun o=>some o)=_; rw [Bx r h]; rfl
   | some x=>rfl
 ·cases hl
theorem Hy (r:Int) (h:r32 r):gQ r=some ((lk cT r).getD 0):=by
 have hl:=Ib;unfold gQ;split at hl
 ·rename_i a b c ea eb ec
  rw [ea,eb,ec];simp only [bsm];have hl2:=eq_of_beq hl;rw [hl2];refine tC (n:=3) (by decide) (v:=lk cT r) (fun k hk=>?_) (by rfl) (fun x hx=>?_) rfl ?_
  ·have hi:idx ([ofv cT 1,ofv cT 2,ofv cT 3]:List (List (Int×Int))) (k:Int)=some (ofv cT ((k:Int)+1)):=by
    rw [uz]
    match k,hk with
    | 0,_=>rfl
    | 1,_=>rfl
    | 2,_=>rfl
   simp only [hi,bsm];rw [ae (by simp; omega),xk _ (dd (xp _ _) GV) r h,xt GU,aJ (by omega)];simp only [bsm];rw [px (p:=lk cT r=some ((k:Int)+1)) (by simp)];rfl
  ·have:=C2 (p:=fun v=>decide (1≤v) && decide (v≤3)) IM hx;simpa using this
  ·cases lk cT r <;> rfl
 ·cases hl
theorem Hx (r:Int) (h:r32 r):gP r=some ((lk eT r).getD 0):=by
 have hl:=HW;unfold gP;split at hl
 ·rename_i a b c ea eb ec
  rw [ea,eb,ec];simp only [bsm];have hl2:=eq_of_beq hl;rw [hl2];refine tC (n:=3) (by decide) (v:=lk eT r) (fun k hk=>?_) (by rfl) (fun x hx=>?_) rfl ?_
  ·have hi:idx ([ofv eT 1,ofv eT 2,ofv eT 3]:List (List (Int×Int))) (k:Int)=some (ofv eT ((k:Int)+1)):=by
    rw [uz]
    match k,hk with
    | 0,_=>rfl
    | 1,_=>rfl
    | 2,_=>rfl
   simp only [hi,bsm];rw [ae (by simp; omega),xk _ (dd (xp _ _) GM) r h,xt GL,aJ (by omega)];simp only [bsm];rw [px (p:=lk eT r=some ((k:Int)+1)) (by simp)];rfl
  ·have:=C2 (p:=fun v=>decide (1≤v) && decide (v≤3)) IL hx;simpa using this
  ·cases lk eT r <;> rfl
 ·cases hl
def pic (r:Int):Bool:=(fnd (fun x:Int×Int=>x.1) (fun x=>x.2) pT r).isSome
theorem ES (r:Int):vP pT r=pic r:=by
 unfold vP pic fnd;rw [cg,List.find?_isSome,Af]
theorem Hz (r:Int) (h:r32 r):gR r=some (pic r):=by
 unfold gR;rw [eq_of_beq HD];simp only [bsm];rw [xk _ Gn r h,ES];rfl
def pr (r:Int):am:=⟨(lk gT r).getD (hcl r),pic r,(lk cT r).getD 0,(lk eT r).getD 0⟩
theorem Hw (r:Int) (h:r32 r):dL r=some (pr r):=by
 unfold dL;rw [HA r h,Hz r h,Hy r h,Hx r h];rfl
theorem qn {a b n:Nat} (h:a < b) (hb:b≤n):(a+b) / 2 < n:=by omega
theorem GE (r:Int) (h:r32 r):qt r=some ((lk gT r).getD (hcl r)):=by
 have hw:=h.w;have hlen:=GH;unfold qt;rw [HP];simp only [bsm];obtain ⟨i,e1,e2,e3,e4⟩:=qJ GG GH r (step:=fun s_7=>
  if (decide (s_7.1 < s_7.2))=true then
  (nx (w64 ((IntKind.u64.wrap (w64 (s_7.1+s_7.2))).fdiv (2 ^ 1))) gT r).bind fun x_22=>
  if (!x_22)=true then
  some (.inl ((w64 ((w64 ((IntKind.u64.wrap (w64 (s_7.1+s_7.2))).fdiv (2 ^ 1)))+1)),s_7.2))
  else
  some (.inl (s_7.1,(w64 ((IntKind.u64.wrap (w64 (s_7.1+s_7.2))).fdiv (2 ^ 1)))))
  else
  some (.inr (s_7.1))) (fun a b hab hb=>by
   simp only;rw [ae (by simp; omega),ET (by omega)];unfold nx;rw [aW (qn hab hb),hw];simp only [bsm];by_cases hr:r≤(gT[(a+b) / 2]'(qn hab hb)).2.1
   ·rw [ab (by simpa using hr),ae hr]
   ·rw [ae (by simpa using hr),ab hr,aJ (by omega)];rfl) (fun a=>by simp only; rw [ab (by simp)])
 unfold gb;rw [e1];simp only [bsm,hw];have hf:=xv GG e3 e4;unfold lk;rw [hf];by_cases hi:i < gT.length
 ·rw [vN hi,aW hi];simp only [bsm,ba];by_cases hlo:gT[i].1≤r
  ·rw [ae (by simp; exact ⟨hi,hlo⟩),ae hlo];rfl
  ·rw [ab (by simp; omega),ab hlo,sy r h];rfl
 ·rw [vO hi,show decide ((i:Int) < (gT.length:Int))=false by simp; omega,iS];simp only [bsm];rw [ab (by decide),sy r h];rfl
theorem Ff (r:Int) (h:r32 r):oI r=some ((lk cT r).getD 0):=by
 have hw:=h.w;have hlen:=GV;unfold oI;rw [Ic];simp only [bsm];obtain ⟨i,e1,e2,e3,e4⟩:=qJ GU GV r (step:=fun s_7=>
  if (decide (s_7.1 < s_7.2))=true then
  (mL (w64 ((IntKind.u64.wrap (w64 (s_7.1+s_7.2))).fdiv (2 ^ 1))) cT r).bind fun x_22=>
  if (!x_22)=true then
  some (.inl ((w64 ((w64 ((IntKind.u64.wrap (w64 (s_7.1+s_7.2))).fdiv (2 ^ 1)))+1)),s_7.2))
  else
  some (.inl (s_7.1,(w64 ((IntKind.u64.wrap (w64 (s_7.1+s_7.2))).fdiv (2 ^ 1)))))
  else
  some (.inr (s_7.1))) (fun a b hab hb=>by
   simp only;rw [ae (by simp; omega),ET (by omega)];unfold mL;rw [aW (qn hab hb),hw];simp only [bsm];by_cases hr:r≤(cT[(a+b) / 2]'(qn hab hb)).2.1
   ·rw [ab (by simpa using hr),ae hr]
   ·rw [ae (by simpa using hr),ab hr,aJ (by omega)];rfl) (fun a=>by simp only; rw [ab (by simp)])
 unfold fH;rw [e1];simp only [bsm,hw];have hf:=xv GU e3 e4;unfold lk;rw [hf];by_cases hi:i < cT.length
 ·rw [vN hi,aW hi];simp only [bsm,br];by_cases hlo:cT[i].1≤r
  ·rw [ab (by simp; omega),ae hlo];rfl
  ·rw [ae (by simp; omega),ab hlo];rfl
 ·rw [vO hi,show ((i:Int)==(cT.length:Int))=true by simp; omega,sq];simp only [bsm];rw [ae trivial];rfl
theorem E1 (r:Int) (h:r32 r):oF r=some ((lk eT r).getD 0):=by
 have hw:=h.w;have hlen:=GM;unfold oF;rw [HX];simp only [bsm];obtain ⟨i,e1,e2,e3,e4⟩:=qJ GL GM r (step:=fun s_7=>
  if (decide (s_7.1 < s_7.2))=true then
  (mK (w64 ((IntKind.u64.wrap (w64 (s_7.1+s_7.2))).fdiv (2 ^ 1))) eT r).bind fun x_22=>
  if (!x_22)=true then
  some (.inl ((w64 ((w64 ((IntKind.u64.wrap (w64 (s_7.1+s_7.2))).fdiv (2 ^ 1)))+1)),s_7.2))
  else
  some (.inl (s_7.1,(w64 ((IntKind.u64.wrap (w64 (s_7.1+s_7.2))).fdiv (2 ^ 1)))))
  else
  some (.inr (s_7.1))) (fun a b hab hb=>by
   simp only;rw [ae (by simp; omega),ET (by omega)];unfold mK;rw [aW (qn hab hb),hw];simp only [bsm];by_cases hr:r≤(eT[(a+b) / 2]'(qn hab hb)).2.1
   ·rw [ab (by simpa using hr),ae hr]
   ·rw [ae (by simpa using hr),ab hr,aJ (by omega)];rfl) (fun a=>by simp only; rw [ab (by simp)])
 unfold fG;rw [e1];simp only [bsm,hw];have hf:=xv GL e3 e4;unfold lk;rw [hf];by_cases hi:i < eT.length
 ·rw [vN hi,aW hi];simp only [bsm,br];by_cases hlo:eT[i].1≤r
  ·rw [ab (by simp; omega),ae hlo];rfl
  ·rw [ae (by simp; omega),ab hlo];rfl
 ·rw [vO hi,show ((i:Int)==(eT.length:Int))=true by simp; omega,sq];simp only [bsm];rw [ae trivial];rfl
theorem EE (r:Int) (h:r32 r):oB r=some (pic r):=by
 have hlen:=Gn;unfold oB;rw [HE];simp only [bsm];obtain ⟨i,e1,e2,e3,e4⟩:=qJ HC Gn r (step:=fun s_7=>
  if (decide (s_7.1 < s_7.2))=true then
  (mH (w64 ((IntKind.u64.wrap (w64 (s_7.1+s_7.2))).fdiv (2 ^ 1))) pT r).bind fun x_22=>
  if (!x_22)=true then
  some (.inl ((w64 ((w64 ((IntKind.u64.wrap (w64 (s_7.1+s_7.2))).fdiv (2 ^ 1)))+1)),s_7.2))
  else
  some (.inl (s_7.1,(w64 ((IntKind.u64.wrap (w64 (s_7.1+s_7.2))).fdiv (2 ^ 1)))))
  else
  some (.inr (s_7.1))) (fun a b hab hb=>by
   simp only;rw [ae (by simp; omega),ET (by omega)];unfold mH;rw [aW (qn hab hb)];simp only [bsm];by_cases hr:r≤(pT[(a+b) / 2]'(qn hab hb)).2
   ·rw [ab (by simpa using hr),ae hr]
   ·rw [ae (by simpa using hr),ab hr,aJ (by omega)];rfl) (fun a=>by simp only; rw [ab (by simp)])
 unfold fF;rw [e1];simp only [bsm];have hf:=xv HC e3 e4;unfold pic;rw [hf];by_cases hi:i < pT.length
 ·rw [vN hi,aW hi];simp only [bsm,ba];by_cases hlo:pT[i].1≤r
  ·rw [ae hlo];simp [hi,hlo]
  ·rw [ab hlo];simp [hlo]
 ·rw [vO hi,show decide ((i:Int) < (pT.length:Int))=false by simp; omega,iS];rfl
theorem zn (r:Int) (h:r32 r):nu r=some (pr r):=by
 unfold nu;rw [GE r h,EE r h,Ff r h,E1 r h];rfl
end Go.Proofs.YtclmdpamofdoiaaGreatDoor
