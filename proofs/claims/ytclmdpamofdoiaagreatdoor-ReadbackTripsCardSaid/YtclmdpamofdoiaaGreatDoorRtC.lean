/- Parts of the proofs of ReadbackTrips: the walk through the code, and plain Lean. No condition. -/
import Derived.Test.YtclmdpamofdoiaaGreatDoorRtA
import Derived.Test.YtclmdpamofdoiaaGreatDoorProg
import Derived.Test.YtclmdpamofdoiaaGreatDoorRtB
import Derived.Shelf.Spec.SlicesInsertGrow
import Derived.Shelf.Slices.Delete
import Derived.WalkKit
import Derived.LaidEql
import Derived.Stop.Asserts
import Derived.RowKitTokens
import Derived.Elder7
set_option linter.unusedVariables false
set_option linter.unusedSimpArgs false
namespace Go.Proofs.YtclmdpamofdoiaaGreatDoor
open Go Go.Lt
set_option maxRecDepth 10000
set_option linter.unusedVariables false
attribute [local irreducible] W WL AC
open Tryz
variable {c0:Cx} {G:Gm} {F:List En} {sg:Sto} {v1 v2 v3 v4 v5 v6 v7 v8 v9 v10 v11 v12 v13 v14 v15 v16 v17 v18 v19 v20 v21 v22 v23 v24 v25 v26 v27 v28 v29 v30 v31 v32 v33 v34 v35 v36 v37 v38 v39 v40 v41 v42 v43 v44 v45 v46 v47 v48 v49 v50 v51 v52 v53 v54 v55 v56 v57 v58 v59 v60:Value}
def dQ (p0:aS) (p1:Int) (p2:ao):Option (Bool):=
 (mw p2).bind fun d=>
 if (d==2)=true then
 some true
 else
 if (!p0.some)=true then
 some false
 else
 (bT (p1==65039) (some p0.pict)).bind fun a=>
 (orE a (some p2.Pict)).bind fun b=>
 (orE b (some (p2.Break==6))).bind fun c=>
 some c
theorem ky {b:Nat} (d:aS) (o:Int) (a:ao) (S:Own c0 G ((Eb b 265 [B d.some,B d.pict,B d.wide]) :: F)) {r:Bool} (H:dQ d o a=some r): Calls prog 265 #[Q b,J o,.agg #[I a.Break,B a.Pict,I a.Conj,I a.East]] c0.w (aT c0 fun c v=>Own c G ((Eb b 265 [B d.some,B d.pict,B d.wide]) :: F)∧v=B r):=by
 unfold dQ at H;refine en func265 rfl rfl (sr (me (bx 238 [I a.Break,B a.Pict,I a.Conj,I a.East] S) ?_));rintro v5 c4 l4 ⟨p,rfl,T,n⟩;refine va (B false) (wln (W.seq (W.block (sr (vx (lN 238 n) (bn H fun u Z H=>cl (vD T a Z) ?_))))));rintro v12 e b0 ⟨f,rfl⟩;refine vv (B (u==2)) (wln (cn H (fun P H=>?_) (fun P H=>?_)))
 ·refine sr (va (B true) (wln (W.ret (bkr (thr ?_)))));obtain rfl:=si H;exact r1 (qq e ⟨f,rfl⟩)
 refine sr (vv (Q b) (va (Q b) (vx (le1 0 u_4 (f.on 0 rfl)) (vv (B (!d.some)) (wln (cn H (fun R H=>?_) (fun R H=>?_)))))))
 ·refine sr (va (B false) (wln (W.ret (bkr (thr ?_)))));obtain rfl:=si H;exact r1 (qq e ⟨f,rfl⟩)
 refine W.skip (bkn (nrm (W.seq (bn H fun U q H=>bn H fun X m H=>bn H fun x g H=>W.join (Jn e fun c l=>Own c G ((Eb b 265 [B d.some,B d.pict,B d.wide]) :: F)∧l= [(6,B x)]) ?_ ?_))))
 ·clear H;refine W.region (va (J o) (va (B (o==65039)) ?_));rcases bo (o==65039) with h | h
  ·have y:=anT h q;refine vb h (wa (Q b) (wa (Q b) (wa (Qo b 1) (wn (vx (le1 1 u_4 (f.on 0 rfl)) ?_)))));obtain rfl:=si y;refine va (B d.pict) ?_;rcases bo (d.pict) with i | i
   ·obtain rfl:=orT i m;refine vb i (pz (va (B true) ?_));have s:true=true:=rfl;obtain rfl:=orT s g;exact vb s (pz (ps (vv (B true) (wln (jn e ⟨f,rfl⟩)))))
   have z:=orF i m;refine vb i (wa (Qo p (0+1)) (wn (vx (l1 u_4 ((mm n) 1 _ rfl)) ?_)));obtain rfl:=si z;refine va (B a.Pict) ?_;rcases bo (a.Pict) with j | j
   ·obtain rfl:=orT j g;exact vb j (pz (ps (vv (B true) (wln (jn e ⟨f,rfl⟩)))))
   have A:=orF j g;refine vb j (wa (Q p) (wn (vx (l1 u_3 ((mm n) 0 _ rfl)) (wa (B (a.Break==6)) ?_))));obtain rfl:=si A;exact vv (B (a.Break==6)) (wln (jn e ⟨f,rfl⟩))
  obtain rfl:=anF h q;refine vb h (pz (pz (va (B false) ?_)));have t:false=false:=rfl;have D:=orF t m;refine vb t (wa (Qo p (0+1)) (wn (vx (l1 u_4 ((mm n) 1 _ rfl)) ?_)));obtain rfl:=si D;refine va (B a.Pict) ?_;rcases bo (a.Pict) with k | k
  ·obtain rfl:=orT k g;exact vb k (pz (ps (vv (B true) (wln (jn e ⟨f,rfl⟩)))))
  have E:=orF k g;refine vb k (wa (Q p) (wn (vx (l1 u_3 ((mm n) 0 _ rfl)) (wa (B (a.Break==6)) ?_))));obtain rfl:=si E;exact vv (B (a.Break==6)) (wln (jn e ⟨f,rfl⟩))
 rintro e_ w_ ⟨N,a0,_,rfl,d0,rfl,M,rfl⟩;refine nrm (W.ret ?_);obtain rfl:=si H;exact r1 (qq N ⟨M,rfl⟩)
def db (p0:aS) (p1:Int) (p2:ao):Option (aS×Int):=
 if false=true then
 some (p0,1)
 else
 (orE p0.wide ((dQ p0 p1 p2).bind fun b=>
 some b)).bind fun a=>
 if a=true then
 some ((⟨true,p2.Pict,a⟩:aS),2)
 else
 some ((⟨true,p2.Pict,a⟩:aS),1)
theorem kR {a:Nat} (b:aS) (k:Int) (d:ao) (T:Own c0 G ((Eb a 265 [B b.some,B b.pict,B b.wide]) :: F)) {r:aS×Int} (H:db b k d=some r): Calls prog 215 #[Q a,J k,.agg #[I d.Break,B d.Pict,I d.Conj,I d.East]] c0.w (aT c0 fun c v=>Own c G ((Eb a 265 [B r.1.some,B r.1.pict,B r.1.wide]) :: F)∧v=I r.2):=by
 unfold db at H;refine en func215 rfl rfl (sr (me (bx 238 [I d.Break,B d.Pict,I d.Conj,I d.East] T) ?_));rintro v5 X l4 ⟨x,rfl,m,P⟩;refine va (I 0) (wln (W.seq (sr (va (Q a) (va (B false) (wln (W.cond (t:=false) (by kernel_rfl) (fun n=>?_) (fun n=>?_))))))))
 ·cases n
 have H:=ie n H;refine W.skip (nrm (W.seq (bn H fun e N H=>W.join (Jn X fun c l=>Own c G ((Eb a 265 [B b.some,B b.pict,B e]) :: F)∧l= [(0,Q a),(5,Q x)]) ?_ ?_)))
 ·clear H;refine W.region (vv (Q a) (va (Q a) (va (Qo a 2) (vx (le1 2 u_4 (m.on 0 rfl)) ?_))));rcases bo (b.wide) with j | j
  ·obtain rfl:=orT j N;refine vb j (pz (pz (va (B true) (va (Q a) (va (Qo a 2) (md (sC 4 2 (B true) [B b.some,B b.pict,B true] 0 m ⟨rfl,trivial⟩) ?_))))));rintro y e0 U;exact wln (jn y ⟨U,rfl⟩)
  have g:=orF j N;refine vb j (wa (Q a) (wa (J k) (wn (vx (lN 238 P) (wn (bn g fun f E g=>cl (ky b k d m E) ?_))))));rintro v19 Z f0 ⟨o,rfl⟩;obtain rfl:=si g;refine va (B f) (va (Q a) (va (Qo a 2) (md (sC 4 2 (B f) [B b.some,B b.pict,B f] 0 o ⟨rfl,trivial⟩) ?_)));rintro z g0 p;exact wln (jn z ⟨p,rfl⟩)
 rintro e_ w_ ⟨a0,b0,_,rfl,h0,rfl,q,rfl⟩;refine nrm (W.seq (rD [] (Kp G0 []) q ?_));intro A i0 s;have l0:Kp G0 [] A:=Kp.nil0;refine ta 0 (Q a) (ta 1 (Q a) (ta 2 (Qo x (0+1)) (tx 3 (fun c' d0=>l1 u_4 ((mm P) 1 _ rfl)) (ta 4 (Q a) (ta 5 (Q a) (o1 6 (gD 6 (sC 4 0 (B true) [B true,B b.pict,B e] 0 s ⟨rfl,trivial⟩) ?_)))))));rintro D j0 u;have R:Kp G0 [] D:=Kp.nil0;refine ⟨.inr R,ta 7 (Q a) (ta 8 (Qo a 1) (o1 9 (gD 9 (sC 4 1 (B d.Pict) [B true,B d.Pict,B e] 0 u ⟨rfl,trivial⟩) ?_)))⟩;rintro i k0 h;have S:Kp G0 [] i:=Kp.nil0;refine ⟨.inr S,dn (nrm (W.seq (sr (vv (Q a) (va (Qo a 2) (vx (le1 2 u_4 (h.on 0 rfl)) (wln (cn H (fun M H=>?_) (fun M H=>?_)))))))))⟩
 ·refine sr (va (I 2) (wln (W.ret (thr ?_))));obtain rfl:=si H;exact r1 (qq i ⟨h,rfl⟩)
 refine W.skip (nrm (sr (va (I 1) (wln (W.ret ?_)))));obtain rfl:=si H;exact r1 (qq i ⟨h,rfl⟩)
def mL (p0:List Int):Option (Int):=
 (cJ (σ:=Int×Int×Bool×Bool×Bool) (τ:=(Int×Bool×Bool×Bool)) (((p0.length:Int) - 0).toNat+1) (fun a=>
 if (decide (a.2.1 < (p0.length:Int)))=true then
 (idx p0 a.2.1).bind fun c=>
 (nc c).bind fun e=>
 (db (⟨a.2.2.1,a.2.2.2.1,a.2.2.2.2⟩:aS) c e).bind fun b=>
 some (.inl (b.2,(w64 (a.2.1+1)),b.1.some,b.1.pict,b.1.wide))
 else
 some (.inr (a.1,a.2.2.1,a.2.2.2.1,a.2.2.2.2))) (1,0,false,false,false)).bind fun d=>
 some d.1
theorem yY (T:Own c0 G F) (g:List Int) {r:Int} (n:Sl (RI .i32) c0 v1 g) (H:mL g=some r): Calls prog 153 #[v1] c0.w (aT c0 fun c v=>Own c G (F)∧v=I r):=by
 unfold mL at H;refine en func153 rfl rfl (sr (va (I 0) (wln (sr (me (al 265 [B false,B false,B false] T) ?_)))));rintro v6 k l5 ⟨j,rfl,U⟩;refine wln (sr (va (I 1) (wln (W.seq (sr (va (v1) (vx (ln 3 cS n.m) (va (I 0) (wln (W.block (bn H fun f P q=>lp P (fun a=>Jn k fun c l=>Own c G ((Eb j 265 [B a.2.2.1,B a.2.2.2.1,B a.2.2.2.2]) :: F)∧l= [(3,Q j),(4,I a.1),(7,v1),(8,I (g.length:Int)),(9,I a.2.1)]) (fun b ex e w=>ex= .exit 0∧(Jn k fun c l=>Own c G ((Eb j 265 [B b.2.1,B b.2.2.1,B b.2.2.2]) :: F)∧l= [(4,I b.1)]) e w) ?_ ?_ ?_)))))))))))
 ·clear q P;intro a l0 A S H;revert A S;rintro Z w_ ⟨X,g0,_,rfl,l9,rfl,h,rfl⟩;refine sr (va (B (decide (a.2.1 < (g.length:Int)))) (wln (W.seq (cn H (fun D H=>?_) (fun D H=>?_)))))
  ·refine W.skip (nrm (W.seq (W.block (sr (bn H fun d i H=>?_)))));obtain ⟨d0,E,R⟩:=Sl.at (n.mono (l5.trans l9)) (bz i);obtain rfl:=E;refine vx (ix cS n.m i) (vx (l1 mf (R 0 _ rfl)) (va (J d) (wln (W.region (vv (J d) (bn H fun o M H=>cl (vk h d M) ?_))))));rintro v26 f0 i0 ⟨s,rfl⟩;refine bn H fun p N H=>cl (kR (⟨a.2.2.1,a.2.2.2.1,a.2.2.2.2⟩:aS) d o s N) ?_;rintro v34 y j0 ⟨t,rfl⟩;refine va (I p.2) (WL.nil (bkn (nrm (W.region (vv (I (w64 (a.2.1+1))) (WL.nil ?_))))));obtain rfl:=si H;exact ⟨_,rfl,jn y ⟨t,rfl⟩⟩
  refine W.exit (thx ?_);obtain rfl:=si H;exact ⟨_,rfl,rfl,jn X ⟨h,rfl⟩⟩
 ·exact jn k ⟨U,rfl⟩
 rintro _ Z w_ ⟨rfl,z,h0,_,rfl,k0,rfl,u,rfl⟩;refine bke (nrm (sr (vv (I f.1) (wln (W.ret ?_)))));obtain rfl:=si q;have x:=u.sD 1 [];exact r1 (qq z ⟨x,rfl⟩)
def dv (p0:aJ):Option (Int):=
 if false=true then
 some 0
 else
 some p0.n
theorem jN {b:Nat} (a:aJ) (e:Own c0 G ((Eb b 291 [J a.text.1,J a.text.2.1,J a.text.2.2.1,J a.text.2.2.2.1,J a.text.2.2.2.2.1,J a.text.2.2.2.2.2.1,J a.text.2.2.2.2.2.2.1,J a.text.2.2.2.2.2.2.2.1,J a.text.2.2.2.2.2.2.2.2.1,J a.text.2.2.2.2.2.2.2.2.2.1,J a.text.2.2.2.2.2.2.2.2.2.2.1,J a.text.2.2.2.2.2.2.2.2.2.2.2.1,J a.text.2.2.2.2.2.2.2.2.2.2.2.2.1,J a.text.2.2.2.2.2.2.2.2.2.2.2.2.2.1,J a.text.2.2.2.2.2.2.2.2.2.2.2.2.2.2.1,J a.text.2.2.2.2.2.2.2.2.2.2.2.2.2.2.2,I a.n]) :: F)) {r:Int} (H:dv a=some r): Calls prog 318 #[Q b] c0.w (aT c0 fun c v=>Own c G ((Eb b 291 [J a.text.1,J a.text.2.1,J a.text.2.2.1,J a.text.2.2.2.1,J a.text.2.2.2.2.1,J a.text.2.2.2.2.2.1,J a.text.2.2.2.2.2.2.1,J a.text.2.2.2.2.2.2.2.1,J a.text.2.2.2.2.2.2.2.2.1,J a.text.2.2.2.2.2.2.2.2.2.1,J a.text.2.2.2.2.2.2.2.2.2.2.1,J a.text.2.2.2.2.2.2.2.2.2.2.2.1,J a.text.2.2.2.2.2.2.2.2.2.2.2.2.1,J a.text.2.2.2.2.2.2.2.2.2.2.2.2.2.1,J a.text.2.2.2.2.2.2.2.2.2.2.2.2.2.2.1,J a.text.2.2.2.2.2.2.2.2.2.2.2.2.2.2.2,I a.n]) :: F)∧v=I r):=by
 unfold dv at H;refine en func318 rfl rfl (sr (va (I 0) (wln (W.seq (sr (va (Q b) (va (B false) (wln (W.cond (t:=false) (by kernel_rfl) (fun d=>?_) (fun d=>?_))))))))))
 ·cases d
 have H:=ie d H;refine W.skip (nrm (sr (vv (Q b) (va (Qo b 16) (vx (le1 16 u_3 (e.on 0 rfl)) (va (I a.n) (wln (W.ret ?_))))))));obtain rfl:=si H;exact r1 (qq c0 ⟨e,rfl⟩)
def dm (p0:aJ):Option (Bool):=
 (dv p0).bind fun a=>
 some (a==16)
theorem jD {b:Nat} (a:aJ) (e:Own c0 G ((Eb b 291 [J a.text.1,J a.text.2.1,J a.text.2.2.1,J a.text.2.2.2.1,J a.text.2.2.2.2.1,J a.text.2.2.2.2.2.1,J a.text.2.2.2.2.2.2.1,J a.text.2.2.2.2.2.2.2.1,J a.text.2.2.2.2.2.2.2.2.1,J a.text.2.2.2.2.2.2.2.2.2.1,J a.text.2.2.2.2.2.2.2.2.2.2.1,J a.text.2.2.2.2.2.2.2.2.2.2.2.1,J a.text.2.2.2.2.2.2.2.2.2.2.2.2.1,J a.text.2.2.2.2.2.2.2.2.2.2.2.2.2.1,J a.text.2.2.2.2.2.2.2.2.2.2.2.2.2.2.1,J a.text.2.2.2.2.2.2.2.2.2.2.2.2.2.2.2,I a.n]) :: F)) {r:Bool} (H:dm a=some r): Calls prog 306 #[Q b] c0.w (aT c0 fun c v=>Own c G ((Eb b 291 [J a.text.1,J a.text.2.1,J a.text.2.2.1,J a.text.2.2.2.1,J a.text.2.2.2.2.1,J a.text.2.2.2.2.2.1,J a.text.2.2.2.2.2.2.1,J a.text.2.2.2.2.2.2.2.1,J a.text.2.2.2.2.2.2.2.2.1,J a.text.2.2.2.2.2.2.2.2.2.1,J a.text.2.2.2.2.2.2.2.2.2.2.1,J a.text.2.2.2.2.2.2.2.2.2.2.2.1,J a.text.2.2.2.2.2.2.2.2.2.2.2.2.1,J a.text.2.2.2.2.2.2.2.2.2.2.2.2.2.1,J a.text.2.2.2.2.2.2.2.2.2.2.2.2.2.2.1,J a.text.2.2.2.2.2.2.2.2.2.2.2.2.2.2.2,I a.n]) :: F)∧v=B r):=by
 unfold dm at H;refine en func306 rfl rfl (sr (va (B false) (wln (sr (va (Q b) (bn H fun d h H=>cl (jN a e h) ?_))))));rintro v8 g i ⟨f,rfl⟩;refine vv (B (d==16)) (wln (W.ret ?_));obtain rfl:=si H;exact r1 (qq g ⟨f,rfl⟩)
def cI (p0:aJ) (p1:Int):Option (aJ×Bool):=
 (orE false ((dm p0).bind fun c=>
 some c)).bind fun b=>
 if b=true then
 some (p0,false)
 else
 (idx (a16 p0.text) p0.n).bind fun d=>
 (some (xz p0.text p0.n p1)).bind fun a=>
 some ((⟨a,(w64 (p0.n+1))⟩:aJ),true)
theorem jO {d:Nat} (a:aJ) (f:Int) (M:Own c0 G ((Eb d 291 [J a.text.1,J a.text.2.1,J a.text.2.2.1,J a.text.2.2.2.1,J a.text.2.2.2.2.1,J a.text.2.2.2.2.2.1,J a.text.2.2.2.2.2.2.1,J a.text.2.2.2.2.2.2.2.1,J a.text.2.2.2.2.2.2.2.2.1,J a.text.2.2.2.2.2.2.2.2.2.1,J a.text.2.2.2.2.2.2.2.2.2.2.1,J a.text.2.2.2.2.2.2.2.2.2.2.2.1,J a.text.2.2.2.2.2.2.2.2.2.2.2.2.1,J a.text.2.2.2.2.2.2.2.2.2.2.2.2.2.1,J a.text.2.2.2.2.2.2.2.2.2.2.2.2.2.2.1,J a.text.2.2.2.2.2.2.2.2.2.2.2.2.2.2.2,I a.n]) :: F)) {r:aJ×Bool} (H:cI a f=some r): Calls prog 280 #[Q d,J f] c0.w (aT c0 fun c v=>Own c G ((Eb d 291 [J r.1.text.1,J r.1.text.2.1,J r.1.text.2.2.1,J r.1.text.2.2.2.1,J r.1.text.2.2.2.2.1,J r.1.text.2.2.2.2.2.1,J r.1.text.2.2.2.2.2.2.1,J r.1.text.2.2.2.2.2.2.2.1,J r.1.text.2.2.2.2.2.2.2.2.1,J r.1.text.2.2.2.2.2.2.2.2.2.1,J r.1.text.2.2.2.2.2.2.2.2.2.2.1,J r.1.text.2.2.2.2.2.2.2.2.2.2.2.1,J r.1.text.2.2.2.2.2.2.2.2.2.2.2.2.1,J r.1.text.2.2.2.2.2.2.2.2.2.2.2.2.2.1,J r.1.text.2.2.2.2.2.2.2.2.2.2.2.2.2.2.1,J r.1.text.2.2.2.2.2.2.2.2.2.2.2.2.2.2.2,I r.1.n]) :: F)∧v=B r.2):=by
 unfold cI at H;refine en func280 rfl rfl (sr (va (B false) (wln (W.seq (W.seq (bn H fun u R H=>W.join (Jn c0 fun c l=>Own c G ((Eb d 291 [J a.text.1,J a.text.2.1,J a.text.2.2.1,J a.text.2.2.2.1,J a.text.2.2.2.2.1,J a.text.2.2.2.2.2.1,J a.text.2.2.2.2.2.2.1,J a.text.2.2.2.2.2.2.2.1,J a.text.2.2.2.2.2.2.2.2.1,J a.text.2.2.2.2.2.2.2.2.2.1,J a.text.2.2.2.2.2.2.2.2.2.2.1,J a.text.2.2.2.2.2.2.2.2.2.2.2.1,J a.text.2.2.2.2.2.2.2.2.2.2.2.2.1,J a.text.2.2.2.2.2.2.2.2.2.2.2.2.2.1,J a.text.2.2.2.2.2.2.2.2.2.2.2.2.2.2.1,J a.text.2.2.2.2.2.2.2.2.2.2.2.2.2.2.2,I a.n]) :: F)∧l= [(0,Q d),(1,J f),(10,B u)]) ?_ ?_))))))
 ·clear H;refine W.region (va (Q d) (va (B false) ?_));have y:false=false:=rfl;have m:=orF y R;refine vb y (wa (Q d) (wn (bn m fun E S m=>cl (jD a M S) ?_)));rintro v11 p b0 ⟨N,rfl⟩;obtain rfl:=si m;exact va (B E) (wln (jn p ⟨N,rfl⟩))
 rintro e_ w_ ⟨q,a0,_,rfl,d0,rfl,g,rfl⟩;refine nrm (cn H (fun x H=>?_) (fun x H=>?_))
 ·refine sr (va (B false) (wln (W.ret (thr ?_))));obtain rfl:=si H;exact r1 (qq q ⟨g,rfl⟩)
 refine W.skip (nrm (W.seq (rD [9] (Kp G0 [(Eb d 291 [J a.text.1,J a.text.2.1,J a.text.2.2.1,J a.text.2.2.2.1,J a.text.2.2.2.2.1,J a.text.2.2.2.2.2.1,J a.text.2.2.2.2.2.2.1,J a.text.2.2.2.2.2.2.2.1,J a.text.2.2.2.2.2.2.2.2.1,J a.text.2.2.2.2.2.2.2.2.2.1,J a.text.2.2.2.2.2.2.2.2.2.2.1,J a.text.2.2.2.2.2.2.2.2.2.2.2.1,J a.text.2.2.2.2.2.2.2.2.2.2.2.2.1,J a.text.2.2.2.2.2.2.2.2.2.2.2.2.2.1,J a.text.2.2.2.2.2.2.2.2.2.2.2.2.2.2.1,J a.text.2.2.2.2.2.2.2.2.2.2.2.2.2.2.2,I a.n])]) g ?_)));intro s e0 h;have D:Kp G0 [(Eb d 291 [J a.text.1,J a.text.2.1,J a.text.2.2.1,J a.text.2.2.2.1,J a.text.2.2.2.2.1,J a.text.2.2.2.2.2.1,J a.text.2.2.2.2.2.2.1,J a.text.2.2.2.2.2.2.2.1,J a.text.2.2.2.2.2.2.2.2.1,J a.text.2.2.2.2.2.2.2.2.2.1,J a.text.2.2.2.2.2.2.2.2.2.2.1,J a.text.2.2.2.2.2.2.2.2.2.2.2.1,J a.text.2.2.2.2.2.2.2.2.2.2.2.2.1,J a.text.2.2.2.2.2.2.2.2.2.2.2.2.2.1,J a.text.2.2.2.2.2.2.2.2.2.2.2.2.2.2.1,J a.text.2.2.2.2.2.2.2.2.2.2.2.2.2.2.2,I a.n])] s:=(Kp.cons (h.on 0 rfl) Kp.nil0);refine ta 0 (Q d) (ta 1 (Q d) (ta 2 (Q d) (ta 3 (Qo d 16) (tkx 4 D (fun P A U=>le1 16 u_3 (U.on 0 rfl)) (ta 5 (J f) (ta 6 (Q d) (ta 7 (Q d) (bn H fun X e H=>AC.take 8 (.pointer (some ⟨d,0+a.n.toNat * 1,none⟩)) rfl (by kernel_rfl) (by kernel_rfl) (fun P A=>(rx (by kernel_rfl) (uE (k:= .i64) Ai (by kernel_rfl) (p9 e).1 (p9 e).2 _))) (bn H fun b z H=>o1 9 (gD 9 (Own.st (T:=21) (j:=0+a.n.toNat * 1) (us:=[J f]) (nw:=[J b.1,J b.2.1,J b.2.2.1,J b.2.2.2.1,J b.2.2.2.2.1,J b.2.2.2.2.2.1,J b.2.2.2.2.2.2.1,J b.2.2.2.2.2.2.2.1,J b.2.2.2.2.2.2.2.2.1,J b.2.2.2.2.2.2.2.2.2.1,J b.2.2.2.2.2.2.2.2.2.2.1,J b.2.2.2.2.2.2.2.2.2.2.2.1,J b.2.2.2.2.2.2.2.2.2.2.2.2.1,J b.2.2.2.2.2.2.2.2.2.2.2.2.2.1,J b.2.2.2.2.2.2.2.2.2.2.2.2.2.2.1,J b.2.2.2.2.2.2.2.2.2.2.2.2.2.2.2,I a.n]) (v:=J f) 0 h (by kernel_rfl) rfl rfl rfl rfl (by kernel_rfl) ⟨rfl,trivial⟩ (FO e (bp rfl)) (FD (k:= .i32) e z [] [I a.n])) ?_))))))))));rintro Z f0 i;refine ⟨.inl rfl,dn (nrm (sr (vv (Q d) (va (Qo d 16) (vx (le1 16 u_3 (i.on 0 rfl)) (va (I (w64 (a.n+1))) (va (Q d) (va (Qo d 16) (md (sC 3 16 (I (w64 (a.n+1))) [J b.1,J b.2.1,J b.2.2.1,J b.2.2.2.1,J b.2.2.2.2.1,J b.2.2.2.2.2.1,J b.2.2.2.2.2.2.1,J b.2.2.2.2.2.2.2.1,J b.2.2.2.2.2.2.2.2.1,J b.2.2.2.2.2.2.2.2.2.1,J b.2.2.2.2.2.2.2.2.2.2.1,J b.2.2.2.2.2.2.2.2.2.2.2.1,J b.2.2.2.2.2.2.2.2.2.2.2.2.1,J b.2.2.2.2.2.2.2.2.2.2.2.2.2.1,J b.2.2.2.2.2.2.2.2.2.2.2.2.2.2.1,J b.2.2.2.2.2.2.2.2.2.2.2.2.2.2.2,I (w64 (a.n+1))] 0 i ⟨rfl,trivial⟩) ?_)))))))))⟩;rintro t g0 o;refine wln (sr (va (B true) (wln (W.ret ?_))));obtain rfl:=si H;exact r1 (qq t ⟨o,rfl⟩)
def lI (p0:List Int):Option (aJ):=
 (cJ (σ:=Int×Int×Int×Int×Int×Int×Int×Int×Int×Int×Int×Int×Int×Int×Int×Int×Int×Int) (τ:=(Int×Int×Int×Int×Int×Int×Int×Int×Int×Int×Int×Int×Int×Int×Int×Int×Int)) (((p0.length:Int) - 0).toNat+1) (fun b=>
 if (decide (b.1 < (p0.length:Int)))=true then
 (idx p0 b.1).bind fun d=>
 (cI (⟨(b.2.1,b.2.2.1,b.2.2.2.1,b.2.2.2.2.1,b.2.2.2.2.2.1,b.2.2.2.2.2.2.1,b.2.2.2.2.2.2.2.1,b.2.2.2.2.2.2.2.2.1,b.2.2.2.2.2.2.2.2.2.1,b.2.2.2.2.2.2.2.2.2.2.1,b.2.2.2.2.2.2.2.2.2.2.2.1,b.2.2.2.2.2.2.2.2.2.2.2.2.1,b.2.2.2.2.2.2.2.2.2.2.2.2.2.1,b.2.2.2.2.2.2.2.2.2.2.2.2.2.2.1,b.2.2.2.2.2.2.2.2.2.2.2.2.2.2.2.1,b.2.2.2.2.2.2.2.2.2.2.2.2.2.2.2.2.1),b.2.2.2.2.2.2.2.2.2.2.2.2.2.2.2.2.2⟩:aJ) d).bind fun a=>
 if (!a.2)=true then
 some (.inr (a.1.text.1,a.1.text.2.1,a.1.text.2.2.1,a.1.text.2.2.2.1,a.1.text.2.2.2.2.1,a.1.text.2.2.2.2.2.1,a.1.text.2.2.2.2.2.2.1,a.1.text.2.2.2.2.2.2.2.1,a.1.text.2.2.2.2.2.2.2.2.1,a.1.text.2.2.2.2.2.2.2.2.2.1,a.1.text.2.2.2.2.2.2.2.2.2.2.1,a.1.text.2.2.2.2.2.2.2.2.2.2.2.1,a.1.text.2.2.2.2.2.2.2.2.2.2.2.2.1,a.1.text.2.2.2.2.2.2.2.2.2.2.2.2.2.1,a.1.text.2.2.2.2.2.2.2.2.2.2.2.2.2.2.1,a.1.text.2.2.2.2.2.2.2.2.2.2.2.2.2.2.2,a.1.n))
 else
 some (.inl ((w64 (b.1+1)),a.1.text.1,a.1.text.2.1,a.1.text.2.2.1,a.1.text.2.2.2.1,a.1.text.2.2.2.2.1,a.1.text.2.2.2.2.2.1,a.1.text.2.2.2.2.2.2.1,a.1.text.2.2.2.2.2.2.2.1,a.1.text.2.2.2.2.2.2.2.2.1,a.1.text.2.2.2.2.2.2.2.2.2.1,a.1.text.2.2.2.2.2.2.2.2.2.2.1,a.1.text.2.2.2.2.2.2.2.2.2.2.2.1,a.1.text.2.2.2.2.2.2.2.2.2.2.2.2.1,a.1.text.2.2.2.2.2.2.2.2.2.2.2.2.2.1,a.1.text.2.2.2.2.2.2.2.2.2.2.2.2.2.2.1,a.1.text.2.2.2.2.2.2.2.2.2.2.2.2.2.2.2,a.1.n))
 else
 some (.inr (b.2.1,b.2.2.1,b.2.2.2.1,b.2.2.2.2.1,b.2.2.2.2.2.1,b.2.2.2.2.2.2.1,b.2.2.2.2.2.2.2.1,b.2.2.2.2.2.2.2.2.1,b.2.2.2.2.2.2.2.2.2.1,b.2.2.2.2.2.2.2.2.2.2.1,b.2.2.2.2.2.2.2.2.2.2.2.1,b.2.2.2.2.2.2.2.2.2.2.2.2.1,b.2.2.2.2.2.2.2.2.2.2.2.2.2.1,b.2.2.2.2.2.2.2.2.2.2.2.2.2.2.1,b.2.2.2.2.2.2.2.2.2.2.2.2.2.2.2.1,b.2.2.2.2.2.2.2.2.2.2.2.2.2.2.2.2.1,b.2.2.2.2.2.2.2.2.2.2.2.2.2.2.2.2.2))) (0,0,0,0,0,0,0,0,0,0,0,0,0,0,0,0,0,0)).bind fun c=>
 some (⟨(c.1,c.2.1,c.2.2.1,c.2.2.2.1,c.2.2.2.2.1,c.2.2.2.2.2.1,c.2.2.2.2.2.2.1,c.2.2.2.2.2.2.2.1,c.2.2.2.2.2.2.2.2.1,c.2.2.2.2.2.2.2.2.2.1,c.2.2.2.2.2.2.2.2.2.2.1,c.2.2.2.2.2.2.2.2.2.2.2.1,c.2.2.2.2.2.2.2.2.2.2.2.2.1,c.2.2.2.2.2.2.2.2.2.2.2.2.2.1,c.2.2.2.2.2.2.2.2.2.2.2.2.2.2.1,c.2.2.2.2.2.2.2.2.2.2.2.2.2.2.2.1),c.2.2.2.2.2.2.2.2.2.2.2.2.2.2.2.2⟩:aJ)
theorem xv (Z:Own c0 G F) (i:List Int) {r:aJ} (z:Sl (RI .i32) c0 v1 i) (H:lI i=some r): Calls prog 231 #[v1] c0.w (aT c0 fun c v=>Own c G (F)∧v= .agg #[J r.text.1,J r.text.2.1,J r.text.2.2.1,J r.text.2.2.2.1,J r.text.2.2.2.2.1,J r.text.2.2.2.2.2.1,J r.text.2.2.2.2.2.2.1,J r.text.2.2.2.2.2.2.2.1,J r.text.2.2.2.2.2.2.2.2.1,J r.text.2.2.2.2.2.2.2.2.2.1,J r.text.2.2.2.2.2.2.2.2.2.2.1,J r.text.2.2.2.2.2.2.2.2.2.2.2.1,J r.text.2.2.2.2.2.2.2.2.2.2.2.2.1,J r.text.2.2.2.2.2.2.2.2.2.2.2.2.2.1,J r.text.2.2.2.2.2.2.2.2.2.2.2.2.2.2.1,J r.text.2.2.2.2.2.2.2.2.2.2.2.2.2.2.2,I r.n]):=by
 unfold lI at H;refine en func231 rfl rfl (sr (me (al 291 [J 0,J 0,J 0,J 0,J 0,J 0,J 0,J 0,J 0,J 0,J 0,J 0,J 0,J 0,J 0,J 0,I 0] Z) ?_));rintro v6 c5 l5 ⟨g,rfl,O4⟩;refine wln (sr (me (al 291 [J 0,J 0,J 0,J 0,J 0,J 0,J 0,J 0,J 0,J 0,J 0,J 0,J 0,J 0,J 0,J 0,I 0] O4) ?_));rintro v10 y l9 ⟨h,rfl,O8⟩;refine wln (W.seq (sr (va (v1) (vx (ln 3 cS z.m) (va (I 0) (wln (W.block (bn H fun a u j=>lp u (fun b=>Jn y fun c l=>Own c G ((Eb h 291 [J b.2.1,J b.2.2.1,J b.2.2.2.1,J b.2.2.2.2.1,J b.2.2.2.2.2.1,J b.2.2.2.2.2.2.1,J b.2.2.2.2.2.2.2.1,J b.2.2.2.2.2.2.2.2.1,J b.2.2.2.2.2.2.2.2.2.1,J b.2.2.2.2.2.2.2.2.2.2.1,J b.2.2.2.2.2.2.2.2.2.2.2.1,J b.2.2.2.2.2.2.2.2.2.2.2.2.1,J b.2.2.2.2.2.2.2.2.2.2.2.2.2.1,J b.2.2.2.2.2.2.2.2.2.2.2.2.2.2.1,J b.2.2.2.2.2.2.2.2.2.2.2.2.2.2.2.1,J b.2.2.2.2.2.2.2.2.2.2.2.2.2.2.2.2.1,I b.2.2.2.2.2.2.2.2.2.2.2.2.2.2.2.2.2]) :: (Eb g 291 [J 0,J 0,J 0,J 0,J 0,J 0,J 0,J 0,J 0,J 0,J 0,J 0,J 0,J 0,J 0,J 0,I 0]) :: F)∧l= [(2,Q g),(3,Q h),(6,v1),(7,I (i.length:Int)),(8,I b.1)]) (fun d ex e w=>ex= .exit 0∧(Jn y fun c l=>Own c G ((Eb h 291 [J d.1,J d.2.1,J d.2.2.1,J d.2.2.2.1,J d.2.2.2.2.1,J d.2.2.2.2.2.1,J d.2.2.2.2.2.2.1,J d.2.2.2.2.2.2.2.1,J d.2.2.2.2.2.2.2.2.1,J d.2.2.2.2.2.2.2.2.2.1,J d.2.2.2.2.2.2.2.2.2.2.1,J d.2.2.2.2.2.2.2.2.2.2.2.1,J d.2.2.2.2.2.2.2.2.2.2.2.2.1,J d.2.2.2.2.2.2.2.2.2.2.2.2.2.1,J d.2.2.2.2.2.2.2.2.2.2.2.2.2.2.1,J d.2.2.2.2.2.2.2.2.2.2.2.2.2.2.2.1,I d.2.2.2.2.2.2.2.2.2.2.2.2.2.2.2.2]) :: (Eb g 291 [J 0,J 0,J 0,J 0,J 0,J 0,J 0,J 0,J 0,J 0,J 0,J 0,J 0,J 0,J 0,J 0,I 0]) :: F)∧l= [(2,Q g),(3,Q h)]) e w) ?_ ?_ ?_))))))))
 ·clear j u;intro b q0 M X H;revert M X;rintro e_ w_ ⟨E,j0,_,rfl,T,rfl,k,rfl⟩;refine sr (va (B (decide (b.1 < (i.length:Int)))) (wln (W.seq (cn H (fun N H=>?_) (fun N H=>?_)))))
  ·refine W.skip (nrm (W.seq (W.block (sr (bn H fun f x H=>?_)))));obtain ⟨g0,P,U⟩:=Sl.at (z.mono (l5.trans (l9.trans T))) (bz x);obtain rfl:=P;refine vx (ix cS z.m x) (vx (l1 mf (U 0 _ rfl)) (va (J f) (wln (sr (va (J f) (bn H fun A R H=>cl (jO (⟨(b.2.1,b.2.2.1,b.2.2.2.1,b.2.2.2.2.1,b.2.2.2.2.2.1,b.2.2.2.2.2.2.1,b.2.2.2.2.2.2.2.1,b.2.2.2.2.2.2.2.2.1,b.2.2.2.2.2.2.2.2.2.1,b.2.2.2.2.2.2.2.2.2.2.1,b.2.2.2.2.2.2.2.2.2.2.2.1,b.2.2.2.2.2.2.2.2.2.2.2.2.1,b.2.2.2.2.2.2.2.2.2.2.2.2.2.1,b.2.2.2.2.2.2.2.2.2.2.2.2.2.2.1,b.2.2.2.2.2.2.2.2.2.2.2.2.2.2.2.1,b.2.2.2.2.2.2.2.2.2.2.2.2.2.2.2.2.1),b.2.2.2.2.2.2.2.2.2.2.2.2.2.2.2.2.2⟩:aJ) f k R) ?_))))));rintro v31 s l0 ⟨o,rfl⟩;refine va (B (!A.2)) (wln (cn H (fun S H=>?_) (fun S H=>?_)))
   ·refine W.exit (bko rfl (thx ?_));obtain rfl:=si H;exact ⟨_,rfl,rfl,jn s ⟨o,rfl⟩⟩
   refine W.skip (bkn (nrm (W.region (vv (I (w64 (b.1+1))) (WL.nil ?_)))));obtain rfl:=si H;exact ⟨_,rfl,jn s ⟨o,rfl⟩⟩
  refine W.exit (thx ?_);obtain rfl:=si H;exact ⟨_,rfl,rfl,jn E ⟨k,rfl⟩⟩
 ·exact jn y ⟨O8,rfl⟩
 rintro _ e_ w_ ⟨rfl,i0,k0,_,rfl,m0,rfl,p,rfl⟩;refine bke (nrm (sr (vx (leN 291 0 [J a.1,J a.2.1,J a.2.2.1,J a.2.2.2.1,J a.2.2.2.2.1,J a.2.2.2.2.2.1,J a.2.2.2.2.2.2.1,J a.2.2.2.2.2.2.2.1,J a.2.2.2.2.2.2.2.2.1,J a.2.2.2.2.2.2.2.2.2.1,J a.2.2.2.2.2.2.2.2.2.2.1,J a.2.2.2.2.2.2.2.2.2.2.2.1,J a.2.2.2.2.2.2.2.2.2.2.2.2.1,J a.2.2.2.2.2.2.2.2.2.2.2.2.2.1,J a.2.2.2.2.2.2.2.2.2.2.2.2.2.2.1,J a.2.2.2.2.2.2.2.2.2.2.2.2.2.2.2.1,I a.2.2.2.2.2.2.2.2.2.2.2.2.2.2.2.2] (p.on 0 rfl)) (md (sA 291 [J a.1,J a.2.1,J a.2.2.1,J a.2.2.2.1,J a.2.2.2.2.1,J a.2.2.2.2.2.1,J a.2.2.2.2.2.2.1,J a.2.2.2.2.2.2.2.1,J a.2.2.2.2.2.2.2.2.1,J a.2.2.2.2.2.2.2.2.2.1,J a.2.2.2.2.2.2.2.2.2.2.1,J a.2.2.2.2.2.2.2.2.2.2.2.1,J a.2.2.2.2.2.2.2.2.2.2.2.2.1,J a.2.2.2.2.2.2.2.2.2.2.2.2.2.1,J a.2.2.2.2.2.2.2.2.2.2.2.2.2.2.1,J a.2.2.2.2.2.2.2.2.2.2.2.2.2.2.2.1,I a.2.2.2.2.2.2.2.2.2.2.2.2.2.2.2.2] 1 p ⟨rfl,rfl,rfl,rfl,rfl,rfl,rfl,rfl,rfl,rfl,rfl,rfl,rfl,rfl,rfl,rfl,rfl,trivial⟩) ?_))));rintro t o0 q;refine wln (W.ret ?_);obtain rfl:=si j;have D:=q.sD 2 [];exact rV (c:=t) (vs:=[J a.1,J a.2.1,J a.2.2.1,J a.2.2.2.1,J a.2.2.2.2.1,J a.2.2.2.2.2.1,J a.2.2.2.2.2.2.1,J a.2.2.2.2.2.2.2.1,J a.2.2.2.2.2.2.2.2.1,J a.2.2.2.2.2.2.2.2.2.1,J a.2.2.2.2.2.2.2.2.2.2.1,J a.2.2.2.2.2.2.2.2.2.2.2.1,J a.2.2.2.2.2.2.2.2.2.2.2.2.1,J a.2.2.2.2.2.2.2.2.2.2.2.2.2.1,J a.2.2.2.2.2.2.2.2.2.2.2.2.2.2.1,J a.2.2.2.2.2.2.2.2.2.2.2.2.2.2.2.1,I a.2.2.2.2.2.2.2.2.2.2.2.2.2.2.2.2]) rfl (by kernel_rfl) (by kernel_rfl) (by kernel_rfl) (q.on 1 rfl _ rfl).1 ⟨_,t,rfl,rfl,pt,D,rfl⟩
def cD (p0:aJ):Option (List Int):=
 if false=true then
 some ([]:List Int)
 else
 (slc (a16 p0.text) 0 p0.n).bind fun a=>
 (eN a).bind fun b=>
 some b
theorem jC {b:Nat} (a:aJ) (p:Own c0 G ((Eb b 291 [J a.text.1,J a.text.2.1,J a.text.2.2.1,J a.text.2.2.2.1,J a.text.2.2.2.2.1,J a.text.2.2.2.2.2.1,J a.text.2.2.2.2.2.2.1,J a.text.2.2.2.2.2.2.2.1,J a.text.2.2.2.2.2.2.2.2.1,J a.text.2.2.2.2.2.2.2.2.2.1,J a.text.2.2.2.2.2.2.2.2.2.2.1,J a.text.2.2.2.2.2.2.2.2.2.2.2.1,J a.text.2.2.2.2.2.2.2.2.2.2.2.2.1,J a.text.2.2.2.2.2.2.2.2.2.2.2.2.2.1,J a.text.2.2.2.2.2.2.2.2.2.2.2.2.2.2.1,J a.text.2.2.2.2.2.2.2.2.2.2.2.2.2.2.2,I a.n]) :: F)) {r:List Int} (H:cD a=some r): Calls prog 232 #[Q b] c0.w (aT c0 fun c v=>∃h o,Own c G (es true (RI .i32) h 21 o r :: (Eb b 291 [J a.text.1,J a.text.2.1,J a.text.2.2.1,J a.text.2.2.2.1,J a.text.2.2.2.2.1,J a.text.2.2.2.2.2.1,J a.text.2.2.2.2.2.2.1,J a.text.2.2.2.2.2.2.2.1,J a.text.2.2.2.2.2.2.2.2.1,J a.text.2.2.2.2.2.2.2.2.2.1,J a.text.2.2.2.2.2.2.2.2.2.2.1,J a.text.2.2.2.2.2.2.2.2.2.2.2.1,J a.text.2.2.2.2.2.2.2.2.2.2.2.2.1,J a.text.2.2.2.2.2.2.2.2.2.2.2.2.2.1,J a.text.2.2.2.2.2.2.2.2.2.2.2.2.2.2.1,J a.text.2.2.2.2.2.2.2.2.2.2.2.2.2.2.2,I a.n]) :: F)∧v=h∧OA (RI .i32) c h o r):=by
 unfold cD at H;refine en func232 rfl rfl (sr (va (Y) (wln (W.seq (sr (va (Q b) (va (B false) (wln (W.cond (t:=false) (by kernel_rfl) (fun g=>?_) (fun g=>?_))))))))))
 ·cases g
 have H:=ie g H;refine W.skip (nrm (W.seq (rD [] (Kp G0 [(Eb b 291 [J a.text.1,J a.text.2.1,J a.text.2.2.1,J a.text.2.2.2.1,J a.text.2.2.2.2.1,J a.text.2.2.2.2.2.1,J a.text.2.2.2.2.2.2.1,J a.text.2.2.2.2.2.2.2.1,J a.text.2.2.2.2.2.2.2.2.1,J a.text.2.2.2.2.2.2.2.2.2.1,J a.text.2.2.2.2.2.2.2.2.2.2.1,J a.text.2.2.2.2.2.2.2.2.2.2.2.1,J a.text.2.2.2.2.2.2.2.2.2.2.2.2.1,J a.text.2.2.2.2.2.2.2.2.2.2.2.2.2.1,J a.text.2.2.2.2.2.2.2.2.2.2.2.2.2.2.1,J a.text.2.2.2.2.2.2.2.2.2.2.2.2.2.2.2,I a.n])]) p ?_)));intro s M i;have y:Kp G0 [(Eb b 291 [J a.text.1,J a.text.2.1,J a.text.2.2.1,J a.text.2.2.2.1,J a.text.2.2.2.2.1,J a.text.2.2.2.2.2.1,J a.text.2.2.2.2.2.2.1,J a.text.2.2.2.2.2.2.2.1,J a.text.2.2.2.2.2.2.2.2.1,J a.text.2.2.2.2.2.2.2.2.2.1,J a.text.2.2.2.2.2.2.2.2.2.2.1,J a.text.2.2.2.2.2.2.2.2.2.2.2.1,J a.text.2.2.2.2.2.2.2.2.2.2.2.2.1,J a.text.2.2.2.2.2.2.2.2.2.2.2.2.2.1,J a.text.2.2.2.2.2.2.2.2.2.2.2.2.2.2.1,J a.text.2.2.2.2.2.2.2.2.2.2.2.2.2.2.2,I a.n])] s:=(Kp.cons (i.on 0 rfl) Kp.nil0);refine ta 0 (Q b) (ta 1 (Q b) (ta 2 (Q b) (ta 3 (Q b) (ta 4 (Q b) (ta 5 (Qo b 16) (tkx 6 y (fun q l x=>le1 16 u_3 (x.on 0 rfl)) (bn H fun A d H=>AC.take 7 (.slice (some ⟨b,0,none⟩) a.n.toNat 16) rfl (by kernel_rfl) (by kernel_rfl) (fun q l=>(rx (by kernel_rfl) (xY (k:= .i64) Ai (by kernel_rfl) (mZ d).2.1 (mZ d).2.2.1 _))) (bn H fun D u H=>o1 8 (gc 8 (oX i rfl (xR d) (Cb (k:= .i32) d [] [I a.n]) u) ?_)))))))));rintro v8 f E ⟨_,z,e,rfl,j⟩;have m:Kp G0 [(Eb b 291 [J a.text.1,J a.text.2.1,J a.text.2.2.1,J a.text.2.2.2.1,J a.text.2.2.2.2.1,J a.text.2.2.2.2.2.1,J a.text.2.2.2.2.2.2.1,J a.text.2.2.2.2.2.2.2.1,J a.text.2.2.2.2.2.2.2.2.1,J a.text.2.2.2.2.2.2.2.2.2.1,J a.text.2.2.2.2.2.2.2.2.2.2.1,J a.text.2.2.2.2.2.2.2.2.2.2.2.1,J a.text.2.2.2.2.2.2.2.2.2.2.2.2.1,J a.text.2.2.2.2.2.2.2.2.2.2.2.2.2.1,J a.text.2.2.2.2.2.2.2.2.2.2.2.2.2.2.1,J a.text.2.2.2.2.2.2.2.2.2.2.2.2.2.2.2,I a.n])] f:=(Kp.cons (e.on 1 rfl) Kp.nil0);refine ⟨.inr m,ta 9 (v8) (dn (nrm (W.ret ?_)))⟩;obtain rfl:=si H;exact r1 (qq f ⟨v8,z,e,rfl,j⟩)
def gn (p0:List Int):Option (dJ×Bool):=
 (idx p0 0).bind fun d=>
 (eR d).bind fun e=>
 if e=true then
 some ((⟨0,([]:List Int)⟩:dJ),false)
 else
 (lI p0).bind fun b=>
 (cD b).bind fun a=>
 (mL a).bind fun c=>
 some ((⟨c,a⟩:dJ),true)
theorem tQ (O0:Own c0 G F) (s:List Int) {r:dJ×Bool} (q:Sl (RI .i32) c0 v1 s) (H:gn s=some r): Calls prog 175 #[v1] c0.w (aT c0 fun c v=>∃y1,Own c G (F)∧v= .tuple #[.agg #[I r.1.Wide,y1],B r.2]∧Sl (RI .i32) c y1 r.1.Text):=by
 unfold gn at H;refine en func175 rfl rfl (sr (me (al 165 [I 0,Y] O0) ?_));rintro v6 c5 l5 ⟨b3,rfl,O4⟩;refine va (B false) (wln (W.seq (sr (va (v1) (bn H fun e0 h7 H=>?_)))));obtain ⟨a1,h9,d0⟩:=Sl.at (q.mono l5) (bz h7);obtain rfl:=h9;refine vx (ix cS q.m h7) (vx (l1 mf (d0 0 _ rfl)) (bn H fun c1 N H=>cl (lV O4 e0 N) ?_));rintro v17 l0 l16 ⟨i,rfl⟩;refine wln (cn H (fun P H=>?_) (fun P H=>?_))
 ·refine sr (va (.agg #[I 0,Y]) (md (sA 165 [I 0,Y] 0 i ⟨rfl,rfl,trivial⟩) ?_));rintro k v0 j;refine va (B false) (wln (W.ret (thr ?_)));obtain rfl:=si H;have u:=j.sD 1 [];exact uH (c:=k) (vs:=[I 0,Y]) (v:=B false) rfl (by kernel_rfl) (by kernel_rfl) (by kernel_rfl) (by kernel_rfl) (j.on 0 rfl _ rfl).1 ⟨_,k,rfl,rfl,pt,(Y),u,rfl,(Sl.nl _ _)⟩
 refine W.skip (nrm (sr (va (v1) (bn H fun a R H=>cl (xv i s q.m R) ?_))));rintro v28 m0 w0 ⟨x,rfl⟩;refine me (al 291 [J 0,J 0,J 0,J 0,J 0,J 0,J 0,J 0,J 0,J 0,J 0,J 0,J 0,J 0,J 0,J 0,I 0] x) ?_;rintro v32 o0 x0 ⟨k0,rfl,y⟩;refine md (sA 291 [J a.text.1,J a.text.2.1,J a.text.2.2.1,J a.text.2.2.2.1,J a.text.2.2.2.2.1,J a.text.2.2.2.2.2.1,J a.text.2.2.2.2.2.2.1,J a.text.2.2.2.2.2.2.2.1,J a.text.2.2.2.2.2.2.2.2.1,J a.text.2.2.2.2.2.2.2.2.2.1,J a.text.2.2.2.2.2.2.2.2.2.2.1,J a.text.2.2.2.2.2.2.2.2.2.2.2.1,J a.text.2.2.2.2.2.2.2.2.2.2.2.2.1,J a.text.2.2.2.2.2.2.2.2.2.2.2.2.2.1,J a.text.2.2.2.2.2.2.2.2.2.2.2.2.2.2.1,J a.text.2.2.2.2.2.2.2.2.2.2.2.2.2.2.2,I a.n] 0 y ⟨rfl,rfl,rfl,rfl,rfl,rfl,rfl,rfl,rfl,rfl,rfl,rfl,rfl,rfl,rfl,rfl,rfl,trivial⟩) ?_;rintro q0 y0 z;refine wln (sr (bn H fun t S H=>cl (jC a z S) ?_));rintro v37 s0 z0 ⟨_,b1,A,rfl,g⟩;refine va (v37) (wln (sr (va (v37) ?_)));obtain ⟨t0,U,o,D,T⟩:=A.frz 0 rfl g;refine WL.gh U (bn H fun b X H=>cl (yY D t T X) ?_);rintro v56 u0 p ⟨E,rfl⟩;refine va (v37) ?_;obtain ⟨d,e,f,rfl⟩:=((g.mono (o.trans p))).form;refine va (.agg #[I b,.slice d e f]) (md (sA 165 [I b,.slice d e f] 2 E ⟨rfl,g.m.one,trivial⟩) ?_);rintro l b0 h;refine va (B true) (wln (W.ret ?_));obtain rfl:=si H;have Z:=h.slf 0 rfl (g.mono (o.trans (p.trans b0)));have M:=h.sD 3 [];exact uH (c:=l) (vs:=[I b,.slice d e f]) (v:=B true) rfl (by kernel_rfl) (by kernel_rfl) (by kernel_rfl) (by kernel_rfl) (h.on 2 rfl _ rfl).1 ⟨_,l,rfl,rfl,pt,(.slice d e f),M,rfl,Z⟩
def fu (p0:br) (p1:ao):Option (Bool):=
 if (!p0.some)=true then
 some false
 else
 ((bT (p1.Conj==1) (some (p0.conj==2))).bind fun a=>
 if a=true then
 some (a)
 else
 (bT p1.Pict (some (p0.pict==2))).bind fun c=>
 some (c)).bind fun e=>
 if e=true then
 some true
 else
 (dy p0.last p1.Break).bind fun b=>
 if (b==1)=true then
 some true
 else
 if (b==2)=true then
 (bT (p0.last==6) (some p0.odd)).bind fun d=>
 some d
 else
 some false
theorem mx {b:Nat} (a:br) (e:ao) (O0:Own c0 G ((Eb b 181 [B a.some,I a.last,I a.pict,I a.conj,B a.odd]) :: F)) {r:Bool} (H:fu a e=some r): Calls prog 224 #[Q b,.agg #[I e.Break,B e.Pict,I e.Conj,I e.East]] c0.w (aT c0 fun c v=>Own c G ((Eb b 181 [B a.some,I a.last,I a.pict,I a.conj,B a.odd]) :: F)∧v=B r):=by
 unfold fu at H;refine en func224 rfl rfl (sr (me (bx 238 [I e.Break,B e.Pict,I e.Conj,I e.East] O0) ?_));rintro v5 s l4 ⟨p,rfl,q,M⟩;refine va (B false) (wln (W.seq (sr (vv (Q b) (va (Q b) (vx (le1 0 u_4 (q.on 0 rfl)) (va (B (!a.some)) (wln (cn H (fun h6 H=>?_) (fun h6 H=>?_))))))))))
 ·refine sr (va (B false) (wln (W.ret (thr ?_))));obtain rfl:=si H;exact r1 (qq s ⟨q,rfl⟩)
 refine W.skip (nrm (W.seq (W.block (bn H fun P f d=>W.seqJ (Jn s fun c l=>Own c G ((Eb b 181 [B a.some,I a.last,I a.pict,I a.conj,B a.odd]) :: F)∧l= [(0,Q b),(3,Q p),(10,B P)]) ?_ ?_))))
 ·refine W.seq (bn f fun z h9 f=>W.join (Jn s fun c l=>Own c G ((Eb b 181 [B a.some,I a.last,I a.pict,I a.conj,B a.odd]) :: F)∧l= [(0,Q b),(3,Q p),(10,B z)]) ?_ ?_)
  ·clear f;refine W.region (va (Qo p (0+2)) (vx (l1 u_3 (M 2 _ rfl)) (va (B (e.Conj==1)) ?_)));rcases bo (e.Conj==1) with j | j
   ·have R:=anT j h9;refine vb j (wa (Q b) (wa (Q b) (wa (Qo b 3) (wn (vx (le1 3 u_3 (q.on 0 rfl)) (wa (B (a.conj==2)) ?_))))));obtain rfl:=si R;exact vv (B (a.conj==2)) (wln (jn s ⟨q,rfl⟩))
   obtain rfl:=anF j h9;exact vb j (pz (pz (ps (vv (B false) (wln (jn s ⟨q,rfl⟩))))))
  rintro E N ⟨o,u0,_,rfl,y0,rfl,n,rfl⟩;refine nrm (cn f (fun e0 f=>?_) (fun e0 f=>?_))
  ·refine W.skip (nrm ?_);obtain rfl:=si f;exact jn o ⟨n,rfl⟩
  refine bn f fun A x f=>W.join (Jn o fun c l=>Own c G ((Eb b 181 [B a.some,I a.last,I a.pict,I a.conj,B a.odd]) :: F)∧l= [(0,Q b),(3,Q p),(10,B A)]) ?_ ?_
  ·clear f;refine W.region (va (Qo p (0+1)) (vx (l1 u_4 ((mm M) 1 _ rfl)) ?_));rcases bo (e.Pict) with k | k
   ·have S:=anT k x;refine vb k (wa (Q b) (wa (Q b) (wa (Qo b 2) (wn (vx (le1 2 u_3 (n.on 0 rfl)) (wa (B (a.pict==2)) ?_))))));obtain rfl:=si S;exact vv (B (a.pict==2)) (wln (jn o ⟨n,rfl⟩))
   obtain rfl:=anF k x;exact vb k (pz (pz (ps (vv (B false) (wln (jn o ⟨n,rfl⟩))))))
  rintro E N ⟨Z,v0,_,rfl,z0,rfl,U,rfl⟩;refine nrm ?_;obtain rfl:=si f;exact jn Z ⟨U,rfl⟩
 rintro E N ⟨a0,w0,_,rfl,a1,rfl,t,rfl⟩;refine cn d (fun f0 d=>?_) (fun f0 d=>?_)
 ·refine sr (va (B true) (wln (W.ret (bkr (thr ?_)))));obtain rfl:=si d;exact r1 (qq a0 ⟨t,rfl⟩)
 refine W.skip (bkn (nrm (W.seq (W.seq (rD [] (Kp G0 [(Eb b 181 [B a.some,I a.last,I a.pict,I a.conj,B a.odd])]) t ?_)))));intro b0 c1 u;have l0:Kp G0 [(Eb b 181 [B a.some,I a.last,I a.pict,I a.conj,B a.odd])] b0:=(Kp.cons (u.on 0 rfl) Kp.nil0);refine ta 0 (Q b) (ta 1 (Q b) (ta 2 (Qo b 1) (tkx 3 l0 (fun c' k0 hk=>le1 1 u_3 (hk.on 0 rfl)) (ta 4 (Q p) (tx 5 (fun c' k0=>l1 u_3 ((mm M) 0 _ rfl)) (bn d fun i g0 d=>o1 6 (gc 6 (sw u a.last e.Break g0) ?_)))))));rintro v44 h d1 ⟨g,rfl⟩;have m0:Kp G0 [(Eb b 181 [B a.some,I a.last,I a.pict,I a.conj,B a.odd])] h:=(Kp.cons (g.on 0 rfl) Kp.nil0);refine ⟨.inr m0,dn (nrm (W.block (sr (vv (B (i==1)) (wln (cn d (fun h0 d=>?_) (fun h0 d=>?_)))))))⟩
 ·refine sr (va (B true) (wln (W.ret (bkr (thr ?_)))));obtain rfl:=si d;exact r1 (qq h ⟨g,rfl⟩)
 refine sr (vv (B (i==2)) (wln (cn d (fun i0 d=>?_) (fun i0 d=>?_))))
 ·refine W.seq (bn d fun D y d=>W.join (Jn h fun c l=>Own c G ((Eb b 181 [B a.some,I a.last,I a.pict,I a.conj,B a.odd]) :: F)∧l= [(4,B D)]) ?_ ?_)
  ·clear d;refine W.region (vv (Q b) (va (Qo b 1) (vx (le1 1 u_3 (g.on 0 rfl)) (va (B (a.last==6)) ?_))));rcases bo (a.last==6) with m | m
   ·have T:=anT m y;refine vb m (wa (Q b) (wa (Q b) (wa (Qo b 4) (wn (vx (le1 4 u_4 (g.on 0 rfl)) ?_)))));obtain rfl:=si T;exact vv (B a.odd) (wln (jn h ⟨g,rfl⟩))
   obtain rfl:=anF m y;exact vb m (pz (pz (vv (B false) (wln (jn h ⟨g,rfl⟩)))))
  rintro E N ⟨d0,x0,_,rfl,e1,rfl,X,rfl⟩;refine nrm (W.ret (bkr (thr ?_)));obtain rfl:=si d;exact r1 (qq d0 ⟨X,rfl⟩)
 refine W.skip (bkn (nrm (sr (va (B false) (wln (W.ret ?_))))));obtain rfl:=si d;exact r1 (qq h ⟨g,rfl⟩)
def eO (p0:br) (p1:ao):Option (Int):=
 if p1.Pict=true then
 some 1
 else
 (bT (p0.pict==1) (some (p1.Break==4))).bind fun a=>
 if a=true then
 some 1
 else
 (bT (p0.pict==1) (some (p1.Break==5))).bind fun b=>
 if b=true then
 some 2
 else
 some 0
theorem lQ {b:Nat} (a:br) (d:ao) (A:Own c0 G ((Eb b 181 [B a.some,I a.last,I a.pict,I a.conj,B a.odd]) :: F)) {r:Int} (H:eO a d=some r): Calls prog 225 #[Q b,.agg #[I d.Break,B d.Pict,I d.Conj,I d.East]] c0.w (aT c0 fun c v=>Own c G ((Eb b 181 [B a.some,I a.last,I a.pict,I a.conj,B a.odd]) :: F)∧v=I r):=by
 unfold eO at H;refine en func225 rfl rfl (sr (me (bx 238 [I d.Break,B d.Pict,I d.Conj,I d.East] A) ?_));rintro v5 k T ⟨j,rfl,i,s⟩;refine va (I 0) (wln (W.seq (W.block (sr (va (Qo j (0+1)) (vx (l1 u_4 (s 1 _ rfl)) (va (B d.Pict) (wln (cn H (fun E H=>?_) (fun E H=>?_))))))))))
 ·refine sr (va (I 1) (wln (W.ret (bkr (thr ?_)))));obtain rfl:=si H;exact r1 (qq k ⟨i,rfl⟩)
 refine W.seq (bn H fun p y H=>W.join (Jn k fun c l=>Own c G ((Eb b 181 [B a.some,I a.last,I a.pict,I a.conj,B a.odd]) :: F)∧l= [(0,Q b),(3,Q j),(8,B p)]) ?_ ?_)
 ·clear H;refine W.region (vv (Q b) (va (Qo b 2) (vx (le1 2 u_3 (i.on 0 rfl)) (va (B (a.pict==1)) ?_))));rcases bo (a.pict==1) with h | h
  ·have z:=anT h y;refine vb h (wa (Q j) (wn (vx (l1 u_3 (s 0 _ rfl)) (wa (B (d.Break==4)) ?_))));obtain rfl:=si z;exact vv (B (d.Break==4)) (wln (jn k ⟨i,rfl⟩))
  obtain rfl:=anF h y;exact vb h (pz (ps (vv (B false) (wln (jn k ⟨i,rfl⟩)))))
 rintro D M ⟨g,N,_,rfl,R,rfl,f,rfl⟩;refine nrm (cn H (fun u H=>?_) (fun u H=>?_))
 ·refine sr (va (I 1) (wln (W.ret (bkr (thr ?_)))));obtain rfl:=si H;exact r1 (qq g ⟨f,rfl⟩)
 refine W.seq (bn H fun q o H=>W.join (Jn g fun c l=>Own c G ((Eb b 181 [B a.some,I a.last,I a.pict,I a.conj,B a.odd]) :: F)∧l= [(19,B q)]) ?_ ?_)
 ·clear H;refine W.region (vv (Q b) (va (Qo b 2) (vx (le1 2 u_3 (f.on 0 rfl)) (va (B (a.pict==1)) ?_))));rcases bo (a.pict==1) with e | e
  ·have t:=anT e o;refine vb e (wa (Q j) (wn (vx (l1 u_3 ((mm s) 0 _ rfl)) (wa (B (d.Break==5)) ?_))));obtain rfl:=si t;exact vv (B (d.Break==5)) (wln (jn g ⟨f,rfl⟩))
  obtain rfl:=anF e o;exact vb e (pz (ps (vv (B false) (wln (jn g ⟨f,rfl⟩)))))
 rintro D M ⟨n,P,_,rfl,S,rfl,m,rfl⟩;refine nrm (cn H (fun x H=>?_) (fun x H=>?_))
 ·refine sr (va (I 2) (wln (W.ret (bkr (thr ?_)))));obtain rfl:=si H;exact r1 (qq n ⟨m,rfl⟩)
 refine W.skip (bkn (nrm (sr (va (I 0) (wln (W.ret ?_))))));obtain rfl:=si H;exact r1 (qq n ⟨m,rfl⟩)
def eF (p0:br) (p1:ao):Option (Int):=
 if (p1.Conj==1)=true then
 some 1
 else
 if (p0.conj==0)=true then
 some 0
 else
 if (p1.Conj==2)=true then
 some 2
 else
 if (p1.Conj==3)=true then
 some p0.conj
 else
 some 0
theorem lv {b:Nat} (d:br) (a:ao) (i:Own c0 G ((Eb b 181 [B d.some,I d.last,I d.pict,I d.conj,B d.odd]) :: F)) {r:Int} (H:eF d a=some r): Calls prog 226 #[Q b,.agg #[I a.Break,B a.Pict,I a.Conj,I a.East]] c0.w (aT c0 fun c v=>Own c G ((Eb b 181 [B d.some,I d.last,I d.pict,I d.conj,B d.odd]) :: F)∧v=I r):=by
 unfold eF at H;refine en func226 rfl rfl (sr (me (bx 238 [I a.Break,B a.Pict,I a.Conj,I a.East] i) ?_));rintro v5 f n ⟨g,rfl,e,h⟩;refine va (I 0) (wln (W.seq (W.block (sr (va (Qo g (0+2)) (vx (l1 u_3 (h 2 _ rfl)) (vv (B (a.Conj==1)) (wln (cn H (fun j H=>?_) (fun j H=>?_))))))))))
 ·refine sr (va (I 1) (wln (W.ret (bkr (thr ?_)))));obtain rfl:=si H;exact r1 (qq f ⟨e,rfl⟩)
 refine sr (vv (Q b) (va (Qo b 3) (vx (le1 3 u_3 (e.on 0 rfl)) (vv (B (d.conj==0)) (wln (cn H (fun k H=>?_) (fun k H=>?_)))))))
 ·refine sr (va (I 0) (wln (W.ret (bkr (thr ?_)))));obtain rfl:=si H;exact r1 (qq f ⟨e,rfl⟩)
 refine sr (va (Qo g (0+2)) (vx (l1 u_3 (h 2 _ rfl)) (vv (B (a.Conj==2)) (wln (cn H (fun l H=>?_) (fun l H=>?_))))))
 ·refine sr (va (I 2) (wln (W.ret (bkr (thr ?_)))));obtain rfl:=si H;exact r1 (qq f ⟨e,rfl⟩)
 refine sr (va (Qo g (0+2)) (vx (l1 u_3 (h 2 _ rfl)) (vv (B (a.Conj==3)) (wln (cn H (fun m H=>?_) (fun m H=>?_))))))
 ·refine sr (vv (Q b) (va (Qo b 3) (vx (le1 3 u_3 (e.on 0 rfl)) (va (I d.conj) (wln (W.ret (bkr (thr ?_))))))));obtain rfl:=si H;exact r1 (qq f ⟨e,rfl⟩)
 refine W.skip (bkn (nrm (sr (va (I 0) (wln (W.ret ?_))))));obtain rfl:=si H;exact r1 (qq f ⟨e,rfl⟩)
def de (p0:br) (p1:ao):Option (br×Bool):=
 if false=true then
 some (p0,false)
 else
 (fu p0 p1).bind fun d=>
 (eO p0 p1).bind fun e=>
 (eF p0 p1).bind fun f=>
 (bT (p1.Break==6) ((bT p0.some (some (p0.last==6))).bind fun b=>
 (bT b (some p0.odd)).bind fun c=>
 some (!c))).bind fun a=>
 some ((⟨true,p1.Break,e,f,a⟩:br),d)
theorem mQ {a:Nat} (b:br) (f:ao) (O0:Own c0 G ((Eb a 181 [B b.some,I b.last,I b.pict,I b.conj,B b.odd]) :: F)) {r:br×Bool} (H:de b f=some r): Calls prog 173 #[Q a,.agg #[I f.Break,B f.Pict,I f.Conj,I f.East]] c0.w (aT c0 fun c v=>Own c G ((Eb a 181 [B r.1.some,I r.1.last,I r.1.pict,I r.1.conj,B r.1.odd]) :: F)∧v=B r.2):=by
 unfold de at H;refine en func173 rfl rfl (sr (me (bx 238 [I f.Break,B f.Pict,I f.Conj,I f.East] O0) ?_));rintro v5 c4 l4 ⟨A,rfl,O2,o⟩;refine va (B false) (wln (W.seq (sr (va (Q a) (va (B false) (wln (W.cond (t:=false) (by kernel_rfl) (fun E=>?_) (fun E=>?_))))))))
 ·cases E
 have H:=ie E H;refine W.skip (nrm (sr (va (Q a) (vx (lN 238 o) (bn H fun i h8 H=>cl (mx b f O2 h8) ?_)))));rintro v14 j1 n1 ⟨P,rfl⟩;refine va (B i) (wln (W.seq (rD [] (Kp G0 []) P ?_)));intro i0 q1 R;have f2:Kp G0 [] i0:=Kp.nil0;refine ta 0 (Q a) (ta 1 (Q a) (ta 2 (Q a) (tx 3 (fun c' z=>lN 238 (mm o)) (ta 5 (Q a) (tx 6 (fun c' z=>lN 238 (mm o)) (bn H fun d v0 H=>o1 4 (gc 4 (lQ b f R v0) ?_)))))));rintro v25 j0 s1 ⟨S,rfl⟩;have y0:Kp G0 [] j0:=Kp.nil0;refine ⟨.inr y0,bn H fun e w0 H=>o1 7 (gc 7 (lv b f S w0) ?_)⟩;rintro v34 k0 t1 ⟨T,rfl⟩;have z0:Kp G0 [] k0:=Kp.nil0;refine ⟨.inr z0,ta 8 (Q a) (ta 9 (Qo a 2) (o1 10 (gD 10 (sC 3 2 (I d) [B b.some,I b.last,I d,I b.conj,B b.odd] 0 T ⟨rfl,trivial⟩) ?_)))⟩;rintro l0 u1 U;have a1:Kp G0 [] l0:=Kp.nil0;refine ⟨.inr a1,ta 11 (Q a) (ta 12 (Qo a 3) (o1 13 (gD 13 (sC 3 3 (I e) [B b.some,I b.last,I d,I e,B b.odd] 0 U ⟨rfl,trivial⟩) ?_)))⟩;rintro p v1 h;have c1:Kp G0 [] p:=Kp.nil0;refine ⟨.inr c1,dn (nrm (W.seq (bn H fun n s H=>W.join (Jn p fun c l=>Own c G ((Eb a 181 [B b.some,I b.last,I d,I e,B n]) :: F)∧l= [(0,Q a),(3,Q A),(5,B i)]) ?_ ?_)))⟩
 ·clear H;refine W.region (va (Q a) (va (Q A) (vx (l1 u_3 ((mm o) 0 _ rfl)) (va (B (f.Break==6)) ?_))));rcases bo (f.Break==6) with j | j
  ·have g:=anT j s;refine vb j (wa (Q a) (wa (Q a) (wa (Q a) (wn (vx (le1 0 u_4 (h.on 0 rfl)) (wn (bn g fun h1 u g=>?_)))))));rcases bo (b.some) with k | k
   ·have M:=anT k u;refine vb k (wa (Q a) (wa (Q a) (wa (Qo a 1) (wn (vx (le1 1 u_3 (h.on 0 rfl)) (wa (B (b.last==6)) (wn ?_)))))));obtain rfl:=si M;refine va (B (b.last==6)) (wn (bn g fun D x g=>?_));rcases bo (b.last==6) with m | m
    ·have N:=anT m x;refine vb m (wa (Q a) (wa (Q a) (wa (Qo a 4) (wn (vx (le1 4 u_4 (h.on 0 rfl)) (wn ?_))))));obtain rfl:=si N;refine va (B b.odd) (wa (B (!b.odd)) ?_);obtain rfl:=si g;refine va (B (!b.odd)) (va (Q a) (va (Qo a 4) (md (sC 4 4 (B (!b.odd)) [B b.some,I b.last,I d,I e,B (!b.odd)] 0 h ⟨rfl,trivial⟩) ?_)));rintro m0 w1 X;exact wln (jn m0 ⟨X,rfl⟩)
    obtain rfl:=anF m x;refine vb m (pz (pz (wa (B false) (wa (B (!false)) ?_))));obtain rfl:=si g;refine va (B (!false)) (va (Q a) (va (Qo a 4) (md (sC 4 4 (B (!false)) [B b.some,I b.last,I d,I e,B (!false)] 0 h ⟨rfl,trivial⟩) ?_)));rintro o0 x1 Z;exact wln (jn o0 ⟨Z,rfl⟩)
   obtain rfl:=anF k u;refine vb k (pz (pz (ps (wa (B false) (wn (bn g fun D x0 g=>?_))))));have y:false=false:=rfl;obtain rfl:=anF y x0;refine vb y (pz (pz (wa (B false) (wa (B (!false)) ?_))));obtain rfl:=si g;refine va (B (!false)) (va (Q a) (va (Qo a 4) (md (sC 4 4 (B (!false)) [B b.some,I b.last,I d,I e,B (!false)] 0 h ⟨rfl,trivial⟩) ?_)));rintro q0 y1 a0;exact wln (jn q0 ⟨a0,rfl⟩)
  obtain rfl:=anF j s;refine vb j (pz (pz (pz (pz (pz (pz (pz (pz (pz (va (B false) (va (Q a) (va (Qo a 4) (md (sC 4 4 (B false) [B b.some,I b.last,I d,I e,B false] 0 h ⟨rfl,trivial⟩) ?_)))))))))))));rintro s0 z1 b0;exact wln (jn s0 ⟨b0,rfl⟩)
 rintro e_ w_ ⟨k1,m1,_,rfl,b2,rfl,d0,rfl⟩;refine nrm (W.seq (rD [] (Kp G0 []) d0 ?_));intro t0 c2 e0;have g2:Kp G0 [] t0:=Kp.nil0;refine ta 0 (Q a) (ta 1 (Q a) (ta 2 (Q A) (tx 3 (fun c' z=>l1 u_3 ((mm o) 0 _ rfl)) (ta 4 (Q a) (ta 5 (Q a) (o1 6 (gD 6 (sC 4 0 (B true) [B true,I b.last,I d,I e,B n] 0 e0 ⟨rfl,trivial⟩) ?_)))))));rintro u0 d2 f0;have d1:Kp G0 [] u0:=Kp.nil0;refine ⟨.inr d1,ta 7 (Q a) (ta 8 (Qo a 1) (o1 9 (gD 9 (sC 3 1 (I f.Break) [B true,I f.Break,I d,I e,B n] 0 f0 ⟨rfl,trivial⟩) ?_)))⟩;rintro q e2 g0;have e1:Kp G0 [] q:=Kp.nil0;refine ⟨.inr e1,dn (nrm (sr (vv (B i) (wln (W.ret ?_)))))⟩;obtain rfl:=si H;exact r1 (qq q ⟨g0,rfl⟩)
end Go.Proofs.YtclmdpamofdoiaaGreatDoor
namespace Go.Proofs.YtclmdpamofdoiaaGreatDoor
open Go Go.Lt
set_option maxRecDepth 10000
set_option linter.unusedVariables false
attribute [local irreducible] W WL AC
def je {σ:Type} (y:σ→Int→List Int→Option (σ×Bool)) (l:List Int) (s:σ):Option σ:=
 (cJ (σ:=br×Int×Int×σ) (τ:=σ ⊕ (Int×σ)) (((l.length:Int) - 0).toNat+1) (fun a=>
 if (decide (a.2.2.1 < (l.length:Int)))=true then
 (idx l a.2.2.1).bind fun r=>
 (nc r).bind fun p=>
 (de a.1 p).bind fun b=>
 (orE b.2 (some (a.2.2.1==0))).bind fun t=>
 if t=true then
 some (.inl (b.1,a.2.1,(w64 (a.2.2.1+1)),a.2.2.2))
 else
 (slc l a.2.1 a.2.2.1).bind fun x=>
 (y a.2.2.2 a.2.1 x).bind fun z=>
 if (!z.2)=true then
 some (.inr (.inl z.1))
 else
 some (.inl (b.1,a.2.2.1,(w64 (a.2.2.1+1)),z.1))
 else
 some (.inr (.inr (a.2.1,a.2.2.2)))) ((⟨false,0,0,0,false⟩:br),0,0,s)).bind fun u=>match u with
 | .inl s'=>some s'
 | .inr v=>if (decide ((l.length:Int) > 0))=true then (slc l v.1 (l.length:Int)).bind fun x=>(y v.2 v.1 x).bind fun z=>some z.1 else some v.2
open Tryz
variable {c0:Cx} {G:Gm} {F:List En} {v1:Value}
set_option maxHeartbeats 1000000 in
theorem qs {σ:Type} {Bd:σ→Cx→List En→Prop} (hJ:Bod Bd) {y:σ→Int→List Int→Option (σ×Bool)} (lr:Nat)
    (hY:∀s i x z c F v,y s i x=some z→Bd s c F→Sl (RI .i32) c v x→IU Tryz.prog lr Bd #[.int .i64 i,v] c F z.1 z.2) {l:List Int} {s0 s1:σ} {bc:Nat}
    (hb:Im c0 bc 0 v1) (hl:Sl (RI .i32) c0 v1 l) (h0:Bd s0 c0 F) (H:je y l s0=some s1):
    Calls Tryz.prog 172 #[.func (.yield lr) #[] #[],.pointer (some ⟨bc,0,none⟩)] c0.w fun x w'=>∃c',w'=c'.w∧c0.lw c'∧x= .returned (.tuple #[])∧Bd s1 c' F:=by
  unfold je at H
  obtain ⟨u,H1,H2⟩:=bs H
  obtain ⟨G,Fx,O,shut⟩:=hJ.new h0
  refine en func172 rfl rfl (sr (me (al 181 [B false,I 0,I 0,I 0,B false] O) ?_))
  rintro v3 c1 k1 ⟨j,rfl,O1⟩
  have h1:Bd s0 c1 (Eb j 181 [B false,I 0,I 0,I 0,B false] :: F):=shut c1 _ k1 O1
  refine wln (sr (va (I 0) (wln (W.seq (sr (vx (l1 cS (hb.mono k1)) (vx (ln 3 cS (hl.mono k1)) (va (I 0) (wln (W.block (lp H1 (fun a=>JnW c1 fun c sl=>Bd a.2.2.2 c (Eb j 181 [B a.1.some,I a.1.last,I a.1.pict,I a.1.conj,B a.1.odd] :: F)∧sl= [(0,.func (.yield lr) #[] #[]),(1,Q bc),(3,Q j),(4,I a.2.1),(7,v1),(8,I (l.length:Int)),(9,I a.2.2.1)])
    (fun b ex e w=>match b with | .inl s'=>ex= .ret∧JnW c1 (fun c sl=>Bd s' c F∧sl= []) e w | .inr v=>ex= .exit 0∧(JnW c1 fun c sl=>Bd v.2 c F∧sl= [(0,.func (.yield lr) #[] #[]),(1,Q bc),(4,I v.1)]) e w) ?_ ?_ ?_)))))))))))
  · clear H H1 H2
    intro a x e w H
    rintro ⟨c,e0,_,rfl,kc,rfl,hJc,rfl⟩
    obtain ⟨G2,Fx2,O2,sh2⟩:=hJ.op hJc
    have kq:=k1.lw.trans kc
    refine sr (va (B (decide (a.2.2.1 < (l.length:Int)))) (wln (W.seq (cn H (fun D H=>?_) (fun D H=>?_)))))
    · refine W.skip (nrm (W.seq (W.block (sr (bn H fun r hi H=>?_)))))
      obtain ⟨d0,E,Rr⟩:=Sl.at (hl.lw kq) (bz hi)
      obtain rfl:=E
      refine va (I a.2.2.1) (vx (ix cS (hl.lw kq) hi) (vx (l1 mf (Rr 0 _ rfl)) (va (I a.2.2.1) (va (J r) (wln ?_)))))
      refine W.seq (sr (va (J r) (bn H fun p hp H=>cl (vk O2 r hp) ?_)))
      rintro v15 c2 k2 ⟨O3,rfl⟩
      refine bn H fun b hb2 H=>cl (mQ a.1 p O3 hb2) ?_
      rintro v16 c3 k3 ⟨O4,rfl⟩
      have hJ3:=sh2 c3 _ (k2.trans k3) O4
      have kc3:c1.lw c3:=kc.trans (k2.trans k3).lw
      refine bn H fun t ht H=>?_
      rcases bo b.2 with hb3 | hb3
      · obtain rfl:=orT hb3 ht
        refine vb hb3 (pz (va (B true) (wln (cn H (fun _ H=>?_) (fun h H=>by cases h)))))
        refine W.exit (thx (bke (nrm (W.region (vv (I (w64 (a.2.2.1+1))) (WL.nil ?_))))))
        obtain rfl:=si H
        exact ⟨_,rfl,jnW c3 ⟨hJ3,rfl⟩ kc3⟩
      · have ht2:=orF hb3 ht
        obtain rfl:=si ht2
        refine vb hb3 (wa (I a.2.2.1) (wa (B (a.2.2.1==0)) (va (B (a.2.2.1==0)) (wln (cn H (fun h H=>?_) (fun h H=>?_))))))
        · refine W.exit (thx (bke (nrm (W.region (vv (I (w64 (a.2.2.1+1))) (WL.nil ?_))))))
          obtain rfl:=si H
          exact ⟨_,rfl,jnW c3 ⟨hJ3,rfl⟩ kc3⟩
        · refine W.skip (nrm (W.seq (sr (bn H fun x hx H=>bn H fun z hz H=>?_))))
          have kq3:=k1.lw.trans kc3
          obtain ⟨v27,hv,hs⟩:=xZ (P:=Tryz.prog) (k:= .i64) (k':= .i64) (k2:= .i64) cS (by kernel_rfl) (hl.lw kq3) hx
          refine va (.func (.yield lr) #[] #[]) (va (I a.2.1) (vx (l1 cS (hb.lw kq3)) (va (I a.2.1) (vv (I a.2.2.1) (vx (hv _) (WL.round (l:=lr) (args:= #[.int .i64 a.2.1,v27]) rfl (by kernel_rfl) (ym (hY _ _ _ _ _ _ _ hz hJ3 hs) ?_)))))))
          rintro ex w' ⟨c4,rfl,k4,rfl,hJ4⟩
          refine ⟨_,rfl,va (B (!z.2)) (wln (cn H (fun h H=>?_) (fun h H=>?_)))⟩
          · refine W.ret (thr (bkr (thr ?_)))
            obtain rfl:=si H
            exact ⟨_,rfl,rfl,jnW c4 ⟨hJ.drop hJ4,rfl⟩ (kc3.trans k4)⟩
          · refine W.skip (nrm (W.region (vv (I a.2.2.1) (WL.nil (bkn (nrm (W.region (vv (I (w64 (a.2.2.1+1))) (WL.nil ?_)))))))))
            obtain rfl:=si H
            exact ⟨_,rfl,jnW c4 ⟨hJ4,rfl⟩ (kc3.trans k4)⟩
    · refine W.exit (thx ?_)
      obtain rfl:=si H
      exact ⟨_,rfl,rfl,jnW c ⟨hJ.drop hJc,rfl⟩ kc⟩
  · exact jnW c1 ⟨h1,rfl⟩ (Cx.le.refl c1).lw
  · rintro ex e w hx
    cases u with
    | inl s'=>
      obtain ⟨rfl,c,e0,_,rfl,kc,rfl,hJc,rfl⟩:=hx
      obtain rfl:=si H2
      refine bkr (thr ?_)
      exact r0 ⟨c,rfl,k1.lw.trans kc,rfl,hJc⟩
    | inr v=>
      obtain ⟨rfl,c,e0,_,rfl,kc,rfl,hJc,rfl⟩:=hx
      have kq:=k1.lw.trans kc
      refine bke (nrm (sr (vx (l1 cS (hb.lw kq)) (vx (ln 3 cS (hl.lw kq)) (va (B (decide ((l.length:Int) > 0))) (wln (cn H2 (fun D H=>?_) (fun D H=>?_))))))))
      · obtain ⟨x,hx,H⟩:=bs H
        obtain ⟨z,hz,H⟩:=bs H
        obtain rfl:=si H
        obtain ⟨v27,hv,hs⟩:=xZ (P:=Tryz.prog) (k:= .i64) (k':= .i64) (k2:= .i64) cS (by kernel_rfl) (hl.lw kq) hx
        refine W.region (va (.func (.yield lr) #[] #[]) (va (I v.1) (vx (l1 cS (hb.lw kq)) (va (I v.1) (vx (l1 cS (hb.lw kq)) (vx (ln 3 cS (hl.lw kq)) (vx (l1 cS (hb.lw kq)) (vx (ln 3 cS (hl.lw kq)) (vx (hv _) (WL.round (l:=lr) (args:= #[.int .i64 v.1,v27]) rfl (by kernel_rfl) (ym (hY _ _ _ _ _ _ _ hz hJc hs) ?_)))))))))))
        rintro ex w' ⟨c4,rfl,k4,rfl,hJ4⟩
        exact ⟨_,rfl,WL.nil (n0 ⟨c4,rfl,kq.trans k4,rfl,hJ4⟩)⟩
      · obtain rfl:=si H
        exact W.skip (n0 ⟨c,rfl,kq,rfl,hJc⟩)
end Go.Proofs.YtclmdpamofdoiaaGreatDoor
namespace Go.Proofs.YtclmdpamofdoiaaGreatDoor
open Go Go.Lt
set_option maxRecDepth 10000
set_option linter.unusedVariables false
attribute [local irreducible] W WL AC
open Tryz
variable {c0:Cx} {G:Gm} {F:List En} {v1:Value}
theorem pg (O:Own c0 G F) {l:List Int} (hl:Sl (RI .i32) c0 v1 l): Calls Tryz.prog 113 #[v1] c0.w (aT c0 fun c v=>∃b,Own c G F∧v= .func (.func 172) #[] #[.pointer (some ⟨b,0,none⟩)]∧Im c b 0 v1):=by
  obtain ⟨a,cap,rfl,_⟩:=hl;refine en func113 rfl rfl (sr (me (bx 32 [.slice a l.length cap] O) ?_));rintro v c1 k1 ⟨b,rfl,O1,hb⟩;refine va (.nilFunc) (wln (sr (vv (.func (.func 172) #[] #[.pointer (some ⟨b,0,none⟩)]) (wln (W.ret ?_)))));exact r1 (qq c1 ⟨b,O1,rfl,hb 0 _ rfl⟩)
def jy (l:List Int):Option (List dJ):=
 je (fun (out:List dJ) _ x=>(gn x).bind fun z=>if z.2=true then (app out [z.1]).bind fun o=>some (o,true) else some (out,true)) l []
def xE (cb:Cx) (G:Gm) (bo lr D:Nat) (r:Loop) (out:List dJ) (c:Cx) (F:List En):Prop:=
  ∃vo vs,Own c G (Eb bo 161 [vo] :: es true go vo 165 vs out :: F)∧OA go c vo vs out∧Rec c lr D r∧cb.le c
theorem xE.bod (cb:Cx) (G:Gm) (bo lr D:Nat) (r:Loop):Bod (xE cb G bo lr D r):=by
  rintro out c F ⟨vo,vs,O,ho,hr,hc⟩;exact ⟨G,[Eb bo 161 [vo],es true go vo 165 vs out],O,fun c' F' k O'=>⟨vo,vs,O',ho.mono k,hr.mono k,hc.trans k⟩⟩
set_option maxHeartbeats 1000000 in
theorem tR (O0:Own c0 G F) (l:List Int) {r:List dJ} (hl:Sl (RI .i32) c0 v1 l) (H:jy l=some r): Calls Tryz.prog 114 #[v1] c0.w (aT c0 fun c v=>∃y1 us1,Own c G (es true go y1 165 us1 r :: F)∧v=y1∧OA go c y1 us1 r):=by
  refine enR func114 rfl rfl (WR.sr (va (.slice none 0 0) (wln (WR.sr (me (al 161 [.slice none 0 0] O0) ?_)))));rintro v3 c1 k1 ⟨bo,rfl,O1⟩;refine wln (WR.seq (WR.sr (va (v1) (cl (pg O1 (hl.mono k1)) ?_))));rintro v9 c2 k2 ⟨bc,O2,rfl,hbc⟩;have O3:Own c2 G (es true go (.slice none 0 0) 165 [] [] :: Eb bo 161 [.slice none 0 0] :: F):=Own.addHole O2 rfl;have O4:=O3.sD 2 [1,0];refine wln (WR.block (WR.range rfl (fun args w=>by kernel_rfl) fun fn rc hrc=>?_));obtain ⟨c3,e3,b3,r3⟩:=Cx.loop c2 (rc .ready none);rw [←e3];have k3:=b3.le;have hJ:=xE.bod c2 G bo (c2.w.heap.size+1) c2.w.heap.size (rc .ready none);unfold jy at H;refine (qs hJ (c2.w.heap.size+1) ?_ (hbc.mono k3) (hl.mono ((k1.trans k2).trans k3)) ⟨.slice none 0 0,[],O4.keep b3,OA.nil (by decide),r3,k3⟩ H).mono ?_
  · rintro s i x z c F v hz ⟨vo,vs,O,ho,hr,hc⟩ hs
    obtain ⟨q,hq,hz⟩:=bs hz;refine xI hrc hr.rc rfl (FM _ _ _ _ _ 10 11 _ _) ?_;refine W.region (va v (WL.nil (nrm ⟨hr.rc,?_⟩)));have k4:=Cx.turn_lw (o':= .loop (rc .busy none)) hr.rc rfl rfl;have Ob:=Own.turn (o':= .loop (rc .busy none)) O hr.rc rfl;have rb:=hr.turn (rc .busy none);have hcb:=hc.turn (o':= .loop (rc .busy none)) (rf _) hr.rc rfl rfl;have hob:=ho.lw k4;have hsb:=hs.lw k4;show W _ _ _ _ _ (c.turn (c2.w.heap.size+1) (.loop (rc .busy none))).w;generalize c.turn (c2.w.heap.size+1) (.loop (rc .busy none))=cb at k4 Ob rb hcb hob hsb;have fin:∀(cE:Cx) (vo vs) (out:List dJ) (e:Nat→Value),cb.le cE→Own cE G (Eb bo 161 [vo] :: es true go vo 165 vs out :: F)→OA go cE vo vs out→
        rdQ (c2.w.heap.size+1) rc (fun x w'=>∃c',w'=c'.w∧c.lw c'∧x= .returned (.bool true)∧xE c2 G bo (c2.w.heap.size+1) c2.w.heap.size (rc .ready none) out c' F) .normal e cE.w:=fun cE vo vs out e kE OE hoE=>by
      have rE:=rb.mono kE;have kt:=Cx.turn_lw (o':= .loop (rc .ready none)) rE.rc rfl rfl;exact ⟨rE.rc,cE.turn _ (.loop (rc .ready none)),rfl,k4.trans (kE.lw.trans kt),rfl,vo,vs,Own.turn OE rE.rc rfl,hoE.lw kt,rE.turn _,(hcb.trans kE).turn (rf _) rE.rc rfl rfl⟩
    refine W.block (sr (va v (cl (tQ Ob x hsb hq) ?_)));rintro v14 c5 k5 ⟨y1,O5,rfl,hy1⟩;obtain ⟨ya,yn,yc,rfl⟩:=hy1.form;refine va (.tuple #[.agg #[I q.1.Wide,.slice ya yn yc],B q.2]) (va (.agg #[I q.1.Wide,.slice ya yn yc]) (va (B q.2) (me (al 165 [I 0,.slice none 0 0] O5) ?_)));rintro v6 c6 k6 ⟨bx,rfl,O6⟩;refine md (sA 165 [I q.1.Wide,.slice ya yn yc] 0 O6 ⟨rfl,rfl,trivial⟩) ?_;intro c7 k7 O7;have ho7:=((hob.mono k5).mono k6).mono k7;refine va (B q.2) (wln (sr (va (B q.2) (wln (cn hz (fun h hz=>?_) (fun h hz=>?_))))))
    · obtain ⟨o,ho2,hz⟩:=bs hz
      obtain rfl:=si hz;refine W.region (vx (le1 0 xN (O7.on 1 rfl)) (vx (leN 165 0 [I q.1.Wide,.slice ya yn yc] (O7.on 0 rfl)) (me (sl go 165 [[I q.1.Wide,.slice ya yn yc]] ([q.1]:List dJ) O7 ⟨⟨_,rfl,(hy1.mono k6).mono k7⟩,trivial⟩) ?_)));rintro v20 c8 k8 ⟨vs8,O8,ho8⟩;obtain ⟨c9,w9,k9,O9,hs9⟩:=O8.frz 0 rfl ho8;refine WL.gh w9 ?_;refine me (ap go (.agg #[I 0,.slice none 0 0]) 32 161 3 O9 ((ho7.mono k8).mono k9) hs9 ho2 xN) ?_;rintro v21 cA kA ⟨vsA,OA_,hoA⟩;obtain ⟨oa,on_,oc,rfl⟩:=hoA.form;refine md (sC 161 0 (.slice oa on_ oc) [.slice oa on_ oc] 2 OA_ ⟨rfl,trivial⟩) ?_;intro cB kB OB;have OC:=OB.sD 4 [2,3];refine WL.nil (bkn ?_);rw [show (true:Bool)=true from rfl];exact fin cB _ _ _ _ (k5.trans (k6.trans (k7.trans (k8.trans (k9.trans (kA.trans kB)))))) OC (hoA.mono kB)
    · obtain rfl:=si hz
      have OC:=O7.sD 3 [1,2];exact W.skip (bkn (fin c7 _ _ _ _ (k5.trans (k6.trans k7)) OC ho7))
  · rintro ex w' ⟨c4,rfl,k4,rfl,vo,vs,O,ho,hr,hc⟩
    have kt:=Cx.turn_lw (o':= .loop (rc .exhausted none)) hr.rc rfl rfl;have Ot:=Own.turn (o':= .loop (rc .exhausted none)) O hr.rc rfl;have rt:=hr.turn (rc .exhausted none);have hct:=hc.turn (o':= .loop (rc .exhausted none)) (rf _) hr.rc rfl rfl;have hot:=ho.lw kt;refine ⟨_,rfl,.inl ⟨hr.rc,?_⟩⟩;show lX _ _ _ _ (c4.turn (c2.w.heap.size+1) (.loop (rc .exhausted none))).w;generalize c4.turn (c2.w.heap.size+1) (.loop (rc .exhausted none))=ct at kt Ot rt hct hot;obtain ⟨oa,on_,oc,rfl⟩:=hot.form;refine bkn (nrm (WR.sr (vx (le1 0 xN (Ot.on 0 rfl)) (va (.slice oa on_ oc) (wln (WR.of (W.ret ?_)))))));have kd:=Cx.turn_lw (o':= .deferred none) rt.def_ rfl rfl;exact FG rt.def_ ⟨_,ct.turn c2.w.heap.size (.deferred none),rfl,rfl,(k1.trans k2).trans (hct.turn (aw _) rt.def_ rfl rfl),_,_,(Own.turn Ot rt.def_ rfl).tail,rfl,hot.lw kd⟩
end Go.Proofs.YtclmdpamofdoiaaGreatDoor
namespace Go.Proofs.YtclmdpamofdoiaaGreatDoor
open Go Go.Lt
set_option maxRecDepth 10000
set_option linter.unusedVariables false
attribute [local irreducible] W WL AC
open Tryz
variable {c0:Cx} {G:Gm} {F:List En} {sg:Sto} {v1 v2 v3 v4 v5 v6 v7 v8 v9 v10 v11 v12 v13 v14 v15 v16 v17 v18 v19 v20 v21 v22 v23 v24 v25 v26 v27 v28 v29 v30 v31 v32 v33 v34 v35 v36 v37 v38 v39 v40 v41 v42 v43 v44 v45 v46 v47 v48 v49 v50 v51 v52 v53 v54 v55 v56 v57 v58 v59 v60:Value}
def iG (p0:List Int):Option (Int):=
 (jy p0).bind fun b=>
 (cJ (σ:=Int×Int) (τ:=Int) (((b.length:Int) - 0).toNat+1) (fun a=>
 if (decide (a.2 < (b.length:Int)))=true then
 (idx b a.2).bind fun d=>
 some (.inl ((w64 (a.1+d.Wide)),(w64 (a.2+1))))
 else
 some (.inr (a.1))) (0,0)).bind fun c=>
 some c
theorem sx (O0:Own c0 G F) (t:List Int) {r:Int} (h2:Sl (RI .i32) c0 v1 t) (H:iG t=some r): Calls prog 205 #[v1] c0.w (aT c0 fun c v=>Own c G (F)∧v=I r):=by
 unfold iG at H;refine en func205 rfl rfl (sr (va (I 0) (wln (sr (va (I 0) (wln (W.seq (sr (va (v1) (bn H fun d h3 H=>cl (tR O0 t h2 h3) ?_))))))))));rintro v4 g s0 ⟨_,u5,O8,rfl,k⟩;refine vx (lnO 3 xN k) (va (I 0) (wln (W.block (bn H fun i q o=>lp q (fun a=>Jn g fun c l=>Own c G (es true go v4 165 u5 d :: F)∧l= [(3,I a.1),(7,v4),(8,I (d.length:Int)),(9,I a.2)]) (fun n ex e w=>ex= .exit 0∧(Jn g fun c l=>Own c G (es true go v4 165 u5 d :: F)∧l= [(3,I n)]) e w) ?_ ?_ ?_))))
 ·clear o q;intro a v0 S e0 H;revert S e0;rintro e_ w_ ⟨N,o0,_,rfl,Z,rfl,f,rfl⟩;refine sr (va (B (decide (a.2 < (d.length:Int)))) (wln (W.seq (cn H (fun U H=>?_) (fun U H=>?_)))))
  ·refine W.skip (nrm (W.seq (W.block (sr (bn H fun b h H=>vx (ixO xN k.m h) ?_)))));obtain ⟨k0,X,b0⟩:=OA.at (k.mono Z) h;obtain ⟨v26,rfl,s⟩:=X;refine vr (.agg #[I b.Wide,v26]) (rx (by kernel_rfl) (EO (T:=165) (l:=[I b.Wide,v26]) (by kernel_rfl) (by kernel_rfl) (f.on 0 rfl) (k.m.blk h) (at2 (j:=0) b0 rfl))) (me (al 165 [I 0,Y] f) ?_);rintro v31 m0 a0 ⟨M,rfl,u⟩;obtain ⟨A,D,E,rfl⟩:=((s.mono a0)).form;refine md (sA 165 [I b.Wide,.slice A D E] 0 u ⟨rfl,s.m.one,trivial⟩) ?_;rintro P t0 p;refine wln (W.region (va (I a.1) (va (Q M) (vx (le1 0 u_3 (p.on 0 rfl)) (vv (I (w64 (a.1+b.Wide))) (WL.nil (bkn (nrm (W.region (vv (I (w64 (a.2+1))) (WL.nil ?_)))))))))));obtain rfl:=si H;refine ⟨_,rfl,?_⟩;have x:=p.sD 2 [1];exact jn P ⟨x,rfl⟩
  refine W.exit (thx ?_);obtain rfl:=si H;exact ⟨_,rfl,rfl,jn N ⟨f,rfl⟩⟩
 ·exact jn g ⟨O8,rfl⟩
 rintro _ e_ w_ ⟨rfl,R,q0,_,rfl,u0,rfl,y,rfl⟩;refine bke (nrm (sr (vv (I i) (wln (W.ret ?_)))));obtain rfl:=si o;have z:=y.sD 1 [];exact r1 (qq R ⟨z,rfl⟩)
def cH (sg:Sto) (p0:Option Nat) (p1:List Int):Option (Sto):=
 (p0).bind fun c=>
 (sg.fitline_breaker[c]?).bind fun a=>
 (iG p1).bind fun l=>
 (if (decide ((aL l a.w) > a.room))=true then
 (app a.out ([a.line]:List (List Int))).bind fun d=>
 (sg.set_fitline_breaker c (⟨a.w,a.room,d,a.line⟩:bq)).bind fun e=>
 (e.set_fitline_breaker c (⟨a.w,a.room,d,([]:List Int)⟩:bq)).bind fun f=>
 (f.set_fitline_breaker c (⟨a.w,a.w,d,([]:List Int)⟩:bq)).bind fun g=>
 some (g)
 else
 some (sg)).bind fun k=>
 (k.fitline_breaker[c]?).bind fun b=>
 (app b.line p1).bind fun j=>
 (k.set_fitline_breaker c (⟨b.w,b.room,b.out,j⟩:bq)).bind fun h=>
 (h.set_fitline_breaker c (⟨b.w,(w64 (b.room - (aL l a.w))),b.out,j⟩:bq)).bind fun i=>
 some i
theorem pM (O0:Own c0 G F) (R0:Rel c0 sg G) (p0:Option Nat) (p1:List Int) {r:Sto} (h2:Pt 6 c0 v1 p0) (h4:Sl (RI .i32) c0 v3 p1) (H:cH sg p0 p1=some r): Calls prog 135 #[v1,v3] c0.w (aT c0 fun c v=>∃G_:Gm,Own c G_ (F)∧Rel c r G_∧v= .tuple #[]):=by
 unfold cH at H;refine en func135 rfl rfl (W.seq (rD [] (Kp G []) O0 ?_));intro c5 l5 O6;have p7:Kp G [] c5:=(Kp.nil O6);refine ta 0 (v3) (ta 2 (v1) (bn H fun a5 h3 H=>?_));obtain ⟨a,rfl,Z⟩:=((h2.mono l5)).get h3;refine ta 3 (Q a) (ta 4 (Q a) (bn H fun b i3 H=>?_));obtain ⟨v12,d5,v15,f1,D,j3,y0⟩:=Rel.open_fitline_breaker (R0.mono l5) i3 Z;refine tkx 5 p7 (fun c' d1 hk=>le1 0 u_3 (hk.gon D 0 rfl)) (bn H fun p k3 H=>o1 1 (gc 1 (sx O6 p1 h4.m k3) ?_));rintro v25 l0 R ⟨e0,rfl⟩;have z3:Kp G [] l0:=(Kp.nil e0);refine ⟨.inr z3,ta 6 (I (aL p b.w)) (ta 7 (I (aL p b.w)) (dn (nrm (bn H fun d2 o q=>W.seqJ (Jn l0 fun c l=>∃G_,Own c G_ (F)∧l= [(0,Q a),(1,v3),(4,I (aL p b.w))]∧Rel c d2 G_) ?_ ?_))))⟩
 ·refine sr (va (I (aL p b.w)) (vv (Q a) (va (Qo a 1) (vx (le1 1 u_3 (e0.gon D 0 rfl)) (va (B (decide ((aL p b.w) > b.room))) (wln (cn o (fun l3 o=>?_) (fun l3 o=>?_))))))))
  ·refine W.seq (rD [10,13] (Kp G []) e0 ?_);intro c3 S k0;have e1:Kp G [] c3:=(Kp.nil k0);refine ta 0 (Q a) (ta 1 (Q a) (ta 2 (Q a) (ta 3 (Qo a 2) (tkx 4 e1 (fun c' d1 hk=>le1 2 nt (hk.gon D 0 rfl)) (ta 5 (Q a) (ta 6 (Q a) (ta 7 (Qo a 3) (tkx 8 e1 (fun c' d1 hk=>le1 3 cS (hk.gon D 0 rfl)) ?_))))))));have z0:=(y0.mono (R.trans S)).sl (k0.gon D 2 rfl);obtain ⟨y,z,A,rfl⟩:=(z0).form;refine o1 9 (gm 9 (sl (RL (RI .i32)) 32 [[.slice y z A]] ([b.line]:List (List Int)) k0 ⟨⟨(.slice y z A),rfl,z0⟩,trivial⟩) ?_);rintro v41 d3 f0 ⟨e5,t0,m3⟩;have a4:Kp G [] d3:=(Kp.nil t0);refine ⟨.inr a4,?_⟩;obtain ⟨e3,p3,U,u0,o3⟩:=t0.frz 0 rfl m3;have b4:Kp G [] e3:=(Kp.nil u0);refine AC.gh p3 U (fun _=>b4) (bn o fun d0 q3 o=>?_);have l2:=u0.borrow 1 D rfl;refine o1 10 (gm 10 (ap (RL (RI .i32)) (Y) 24 25 0 l2 j3.m o3 q3 nt) ?_);rintro v54 v4 g0 ⟨E,m2,P⟩;have n2:=m2.giveB 1 rfl;refine ⟨.inl rfl,ta 11 (Q a) (ta 12 (Qo a 2) ?_)⟩;obtain ⟨f,g,h,rfl⟩:=(P).form;refine o1 13 (gD 13 (Own.stGB (T:=25) (j:=2) (us:=[.slice f g h]) (nw:=[I b.w,I b.room,.slice f g h,.slice y z A]) (v:= .slice f g h) 0 n2 (by kernel_rfl) rfl rfl rfl rfl (by kernel_rfl) ⟨(P).one,trivial⟩ (by kernel_rfl) rfl) ?_);rintro w4 x p2;refine bn o fun e2 s3 o=>?_;obtain ⟨p4,v0,y2,a1,s4⟩:=Rel.put_fitline_breaker p2 (R0.mono (l5.trans (R.trans (S.trans (f0.trans (U.trans (g0.trans x))))))) (E':=[(Eb a 196 [I b.w,I b.room,.slice f g h,.slice y z A]),es false (RL (RI .i32)) (.slice f g h) 32 E d0,es false (RI .i32) (.slice y z A) 21 f1 b.line]) s3 ⟨a,(.slice f g h),E,(.slice y z A),f1,(tm Z),rfl,(P.mono x),(y0.mono (R.trans (S.trans (f0.trans (U.trans (g0.trans x))))))⟩;refine ⟨.inl rfl,dn (nrm (W.region (vv (Q a) (vv (Q a) (va (Q a) (vx (le1 0 u_3 (v0.gon a1 0 rfl)) (va (Q a) (va (Qo a 3) (md (gC 32 3 (Y) [I b.w,I b.room,.slice f g h,Y] 0 v0 a1 ⟨rfl,trivial⟩) ?_)))))))))⟩;rintro f3 X q2;have b1:OA (RI .i32) f3 (Y) [] []:=OA.nil (aX _);have s2:=q2.addHole (e:=es false (RI .i32) (Y) 21 [] []) rfl;have t2:=s2.giveB 2 rfl;refine bn o fun f2 u3 o=>?_;obtain ⟨q4,u2,z2,t3,t4⟩:=Rel.put_fitline_breaker t2 (y2.mono X) (E':=[(Eb a 196 [I b.w,I b.room,.slice f g h,(Y)]),es false (RL (RI .i32)) (.slice f g h) 32 E d0,es false (RI .i32) (Y) 21 [] ([]:List Int)]) u3 ⟨a,(.slice f g h),E,(Y),[],((R.trans (S.trans (f0.trans (U.trans (g0.trans (x.trans X)))))).t _ _ _ Z),rfl,(P.mono (x.trans X)),b1⟩;refine va (Q a) (va (Qo a 1) (md (gC 3 1 (I b.w) [I b.w,I b.w,.slice f g h,(Y)] 0 u2 t3 ⟨rfl,trivial⟩) ?_));rintro g3 h0 v2;refine bn o fun g2 w3 o=>?_;obtain ⟨k2,w2,a3,z4,u4⟩:=Rel.put_fitline_breaker v2 (z2.mono h0) (E':=[(Eb a 196 [I b.w,I b.w,.slice f g h,(Y)]),es false (RL (RI .i32)) (.slice f g h) 32 E d0,es false (RI .i32) (Y) 21 [] ([]:List Int)]) w3 ⟨a,(.slice f g h),E,(Y),[],((R.trans (S.trans (f0.trans (U.trans (g0.trans (x.trans (X.trans h0))))))).t _ _ _ Z),rfl,(P.mono (x.trans (X.trans h0))),(b1.mono h0)⟩;refine wln ?_;obtain rfl:=si o;have x2:=w2.sD 1 [];exact jn g3 ⟨k2,x2,rfl,a3⟩
  refine W.skip (nrm ?_);obtain rfl:=si o;exact jn l0 ⟨G,e0,rfl,R0.m⟩
 rintro e_ w_ ⟨x4,y4,_,rfl,b5,rfl,r4,w0,rfl,x0⟩;refine sr (vv (Q a) (va (Q a) (va (Qo a 3) (bn q fun d x3 q=>?_))));obtain ⟨s,i0,f5,n4,m0,c1,w1⟩:=Rel.open_fitline_breaker x0 x3 (tm Z);refine vx (le1 3 cS (w0.gon m0 0 rfl)) (va (v3) (bn q fun s0 x1 q=>?_));have h1:=w0.borrow 2 m0 rfl;refine me (ap (RI .i32) (J 0) 4 32 0 h1 w1 h4.m x1 cS) ?_;rintro o4 g4 a0 ⟨N,i1,M⟩;have j1:=i1.giveB 2 rfl;refine va (Q a) (va (Qo a 3) ?_);obtain ⟨i,k,n,rfl⟩:=(M).form;refine md (Own.stGB (T:=32) (j:=3) (us:=[.slice i k n]) (nw:=[I d.w,I d.room,s,.slice i k n]) (v:= .slice i k n) 0 j1 (by kernel_rfl) rfl rfl rfl rfl (by kernel_rfl) ⟨(M).one,trivial⟩ (by kernel_rfl) rfl) ?_;rintro i4 u k1;refine bn q fun i2 y1 q=>?_;obtain ⟨c4,j0,s1,o0,e4⟩:=Rel.put_fitline_breaker k1 (x0.mono (a0.trans u)) (E':=[(Eb a 196 [I d.w,I d.room,s,.slice i k n]),es false (RL (RI .i32)) s 32 i0 d.out,es false (RI .i32) (.slice i k n) 21 N s0]) y1 ⟨a,s,i0,(.slice i k n),N,(tm Z),rfl,(c1.mono (a0.trans u)),(M.mono u)⟩;refine wln (W.region (vv (Q a) (va (Qo a 1) (vx (le1 1 u_3 (j0.gon o0 0 rfl)) (va (I (aL p b.w)) (va (I (w64 (d.room - (aL p b.w)))) (va (Q a) (va (Qo a 1) (md (gC 3 1 (I (w64 (d.room - (aL p b.w)))) [I d.w,I (w64 (d.room - (aL p b.w))),s,.slice i k n] 0 j0 o0 ⟨rfl,trivial⟩) ?_)))))))));rintro u1 b0 m1;refine bn q fun j2 z1 q=>?_;obtain ⟨g1,n1,t1,k4,f4⟩:=Rel.put_fitline_breaker m1 (s1.mono b0) (E':=[(Eb a 196 [I d.w,I (w64 (d.room - (aL p b.w))),s,.slice i k n]),es false (RL (RI .i32)) s 32 i0 d.out,es false (RI .i32) (.slice i k n) 21 N s0]) z1 ⟨a,s,i0,(.slice i k n),N,(tm Z),rfl,(c1.mono (a0.trans (u.trans b0))),(M.mono (u.trans b0))⟩;refine WL.nil ?_;obtain rfl:=si q;exact n0 (qq u1 ⟨g1,n1,t1,rfl⟩)
end Go.Proofs.YtclmdpamofdoiaaGreatDoor
namespace Go.Proofs.YtclmdpamofdoiaaGreatDoor
open Go Go.Lt
set_option maxRecDepth 10000
set_option linter.unusedVariables false
attribute [local irreducible] W WL AC
open Tryz
variable {c0:Cx} {G:Gm} {F:List En} {v1:Value} {sg:Sto}
def kV (sg:Sto) (l:List Int) (w:Int):Option (Sto×List (List Int)):=
 (some (sg.add_fitline_breaker (⟨(aV 1 (aL w 1024)),(aV 1 (aL w 1024)),([]:List (List Int)),([]:List Int)⟩:bq))).bind fun a=>
 (je (fun (s:Sto) _ x=>(idx x 0).bind fun d=>(eR d).bind fun e=>if (!e)=true then (cH s (some sg.fitline_breaker.length) x).bind fun s'=>some (s',true) else some (s,true)) l a).bind fun a2=>
 (a2.fitline_breaker[sg.fitline_breaker.length]?).bind fun o=>
 (app o.out ([o.line]:List (List Int))).bind fun b=>
 some (a2,b)
theorem sO {s:Sto} {k:Nat} {x:bq} (h:s.fitline_breaker[k]? = some x):s.set_fitline_breaker k x=some s:=by
  obtain ⟨hlt,rfl⟩:=List.getElem?_eq_some_iff.1 h;unfold Sto.set_fitline_breaker;rw [ae hlt];cases s;simp
def xD (cb:Cx) (j d k lr D:Nat) (r:Loop) (s:Sto) (c:Cx) (F:List En):Prop:=
  ∃G,Own c G (Eb j 194 [Q d] :: F)∧Rel c s G∧c.t 6 k=some d∧Rec c lr D r∧cb.le c
theorem xD.bod (cb:Cx) (j d k lr D:Nat) (r:Loop):Bod (xD cb j d k lr D r):=by
  rintro s c F ⟨G,O,R,ht,hr,hc⟩;exact ⟨G,[Eb j 194 [Q d]],O,fun c' F' q O'=>⟨G,O',R.mono q,q.t _ _ _ ht,hr.mono q,hc.trans q⟩⟩
set_option maxHeartbeats 1000000 in
theorem tS (O0:Own c0 G F) (R0:Rel c0 sg G) (p0:List Int) (a:Int) {r:Sto×(List (List Int))} (h2:Sl (RI .i32) c0 v1 p0) (H:kV sg p0 a=some r): Calls Tryz.prog 86 #[v1,I a] c0.w (aT c0 fun c v=>∃G_:Gm,Own c G_ (F)∧Rel c r.1 G_∧∃b q,v= .slice b r.2.length q):=by
 unfold kV at H;refine enR func86 rfl rfl (WR.sr (va (Y) (wln (WR.sr (va (I a) (va (I (aL a 1024)) (vv (I (aV 1 (aL a 1024))) (wln (WR.sr (vv (I (aV 1 (aL a 1024))) (va (.agg #[I (aV 1 (aL a 1024)),I (aV 1 (aL a 1024)),Y,Y]) ?_)))))))))));have h4:OA (RL (RI .i32)) c0 (Y) [] []:=OA.nil (aX _);have O3:=O0.addHole (e:=es false (RL (RI .i32)) (Y) 32 [] ([]:List (List Int))) rfl;have h6:OA (RI .i32) c0 (Y) [] []:=OA.nil (aX _);have O5:=O3.addHole (e:=es false (RI .i32) (Y) 21 [] ([]:List Int)) rfl;refine me (al 196 [I (aV 1 (aL a 1024)),I (aV 1 (aL a 1024)),(Y),(Y)] O5) ?_;rintro v10 c9 p ⟨d,rfl,O8⟩;have y:=O8.sD 3 [0,2,1];refine bn H fun u b0 H=>?_;obtain ⟨T,f,d0,t0,e0,z,s,g,f0,R⟩:=Rel.new_fitline_breaker (E:=[(Eb d 196 [I (aV 1 (aL a 1024)),I (aV 1 (aL a 1024)),(Y),(Y)]),es false (RL (RI .i32)) (Y) 32 [] ([]:List (List Int)),es false (RI .i32) (Y) 21 [] ([]:List Int)]) (F:=F) (x:=(⟨(aV 1 (aL a 1024)),(aV 1 (aL a 1024)),([]:List (List Int)),([]:List Int)⟩:bq)) (b:=d) y (R0.mono p) (fun c_ hle_=>⟨d,(Y),[],(Y),[],rfl,rfl,((h4.mono p).mono hle_),((h6.mono p).mono hle_)⟩);rw [bb b0] at s;refine WL.gh d0.1 ?_;have g0:Pt 6 T (Q d) (some sg.fitline_breaker.length):=⟨d,rfl,e0⟩;refine me (al 194 [.pointer none] z) ?_;rintro v29 i1 u0 ⟨j,rfl,A⟩;refine md (sC 194 0 (Q d) [Q d] 0 A ⟨g0.m.one,trivial⟩) ?_;rintro j1 v0 D;have kk:=p.trans (t0.trans (u0.trans v0));have hl:=h2.mono kk;have Rj:=s.mono (u0.trans v0);have tj:=(u0.trans v0).t _ _ _ e0;refine wln (WR.seq (WR.sr (va (v1) (cl (pg D hl) ?_))));rintro v9 c2 k2 ⟨bc,O2,rfl,hbc⟩;refine wln (WR.block (WR.range rfl (fun args w=>by kernel_rfl) fun fn rc hrc=>?_));obtain ⟨c3,e3,b3,r3⟩:=Cx.loop c2 (rc .ready none);rw [←e3];have k3:=b3.le;have hJ:=xD.bod c2 j d sg.fitline_breaker.length (c2.w.heap.size+1) c2.w.heap.size (rc .ready none);obtain ⟨a2,H1,H⟩:=bs H;refine (qs hJ (c2.w.heap.size+1) ?_ (hbc.mono k3) (hl.mono (k2.trans k3)) ⟨_,O2.keep b3,Rj.mono (k2.trans k3),(k2.trans k3).t _ _ _ tj,r3,k3⟩ H1).mono ?_
 · rintro s i x z c F v hz ⟨Gs,O,Rs,ht,hr,hc⟩ hs
   obtain ⟨q,hq,hz⟩:=bs hz;obtain ⟨q2,hq2,hz⟩:=bs hz;refine xI hrc hr.rc rfl (FM _ _ _ _ _ 17 18 _ _) ?_;refine W.region (va v (WL.nil (nrm ⟨hr.rc,?_⟩)));have k4:=Cx.turn_lw (o':= .loop (rc .busy none)) hr.rc rfl rfl;have Ob:=Own.turn (o':= .loop (rc .busy none)) O hr.rc rfl;have rb:=hr.turn (rc .busy none);have hcb:=hc.turn (o':= .loop (rc .busy none)) (rf _) hr.rc rfl rfl;have Rb:=Rs.lw k4;have tb:=k4.t _ _ _ ht;have hsb:=hs.lw k4;show W _ _ _ _ _ (c.turn (c2.w.heap.size+1) (.loop (rc .busy none))).w;generalize c.turn (c2.w.heap.size+1) (.loop (rc .busy none))=cb at k4 Ob rb hcb Rb tb hsb;have fin:∀(cE:Cx) (GE:Gm) (s:Sto) (e:Nat→Value),cb.le cE→Own cE GE (Eb j 194 [Q d] :: F)→Rel cE s GE→
       rdQ (c2.w.heap.size+1) rc (fun x w'=>∃c',w'=c'.w∧c.lw c'∧x= .returned (.bool true)∧xD c2 j d sg.fitline_breaker.length (c2.w.heap.size+1) c2.w.heap.size (rc .ready none) s c' F) .normal e cE.w:=fun cE GE s e kE OE RE=>by
     have rE:=rb.mono kE;have kt:=Cx.turn_lw (o':= .loop (rc .ready none)) rE.rc rfl rfl;exact ⟨rE.rc,cE.turn _ (.loop (rc .ready none)),rfl,k4.trans (kE.lw.trans kt),rfl,GE,Own.turn OE rE.rc rfl,RE.lw kt,kt.t _ _ _ (kE.t _ _ _ tb),rE.turn _,(hcb.trans kE).turn (rf _) rE.rc rfl rfl⟩
   refine W.block (sr ?_);obtain ⟨m0,E0,Rr⟩:=Sl.at hsb (bz hq);obtain rfl:=E0;refine va v (vx (ix cS hsb hq) (vx (l1 mf (Rr 0 _ rfl)) (cl (lV Ob q hq2) ?_)));rintro v22 c5 k5 ⟨O5,rfl⟩;refine va (B (!q2)) (wln (cn hz (fun h hz=>?_) (fun h hz=>?_)))
   · obtain ⟨s',hs',hz⟩:=bs hz
     obtain rfl:=si hz;refine W.region (vx (le1 0 underlying194 (O5.on 0 rfl)) (va v (cl (pM O5 (Rb.mono k5) (some sg.fitline_breaker.length) x ⟨d,rfl,k5.t _ _ _ tb⟩ (hsb.mono k5) hs') ?_)));rintro v26 c6 k6 ⟨G6,O6,R6,rfl⟩;exact WL.nil (bkn (fin c6 _ _ _ (k5.trans k6) O6 R6))
   · obtain rfl:=si hz
     exact W.skip (bkn (fin c5 _ _ _ k5 O5 (Rb.mono k5)))
 · rintro ex w' ⟨c4,rfl,k4,rfl,Gt,O,Rt,ht,hr,hc⟩
   have kt:=Cx.turn_lw (o':= .loop (rc .exhausted none)) hr.rc rfl rfl;have Ot:=Own.turn (o':= .loop (rc .exhausted none)) O hr.rc rfl;have rt:=hr.turn (rc .exhausted none);have hct:=hc.turn (o':= .loop (rc .exhausted none)) (rf _) hr.rc rfl rfl;have Rt2:=Rt.lw kt;have tt:=kt.t _ _ _ ht;refine ⟨_,rfl,.inl ⟨hr.rc,?_⟩⟩;show lX _ _ _ _ (c4.turn (c2.w.heap.size+1) (.loop (rc .exhausted none))).w;generalize c4.turn (c2.w.heap.size+1) (.loop (rc .exhausted none))=ct at kt Ot rt hct Rt2 tt;obtain ⟨ob,hob,H⟩:=bs H;obtain ⟨zz,hzz,H⟩:=bs H;obtain rfl:=si H;obtain ⟨y1,u1,y2,u2,gg,ha1,ha2⟩:=Rel.open_fitline_breaker Rt2 hob tt;obtain ⟨ya,yn,yc,rfl⟩:=ha2.form;refine bkn (nrm (WR.seq (WR.of (rD [9] (Kp Gt [(Eb j 194 [Q d])]) Ot ?_))));intro U w0 i;have k:Kp Gt [(Eb j 194 [Q d])] U:=(Kp.cons (i.on 0 rfl) (Kp.nil i));refine tkx 0 k (fun t o h=>le1 0 underlying194 (h.on 0 rfl)) (ta 1 (Q d) (ta 2 (Qo d 2) (tkx 3 k (fun t o h=>le1 2 nt (h.gon gg 0 rfl)) (tkx 4 k (fun t o h=>le1 0 underlying194 (h.on 0 rfl)) (ta 5 (Q d) (ta 6 (Qo d 3) (tkx 7 k (fun t o h=>le1 3 cS (h.gon gg 0 rfl)) ?_)))))));have h0:=(ha2.mono w0).sl (i.gon gg 2 rfl);refine o1 8 (gm 8 (sl (RL (RI .i32)) 32 [[(.slice ya yn yc)]] ([ob.line]:List (List Int)) i ⟨⟨(.slice ya yn yc),rfl,h0⟩,trivial⟩) ?_);rintro v40 X m1 ⟨q1,l,i0⟩;have z0:Kp Gt [(Eb j 194 [Q d])] X:=(Kp.cons (l.on 1 rfl) (Kp.nil l));refine ⟨.inr z0,?_⟩;obtain ⟨Z,l0,x0,n,k0⟩:=l.frz 0 rfl i0;have a1:Kp Gt [(Eb j 194 [Q d])] Z:=(Kp.cons (n.on 1 rfl) (Kp.nil n));refine AC.gh l0 x0 (fun _=>a1) ?_;have M:=n.borrow 1 gg rfl;refine o1 9 (gm 9 (apl (RL (RI .i32)) (Y) 24 25 0 M (ha1.mono (w0.trans (m1.trans x0))) k0 hzz nt) ?_);rintro v53 a0 n1 ⟨⟨s1,N,o0⟩,va,vq,rfl⟩;have q:=N.giveB 1 rfl;have kE:=w0.trans (m1.trans (x0.trans n1));have rE:=rt.mono kE;have kd:=Cx.turn_lw (o':= .deferred none) rE.def_ rfl rfl;obtain ⟨Gz,Oz,Rz,_⟩:=Rel.put_fitline_breaker q (Rt2.mono kE) (x':=ob) (k:=sg.fitline_breaker.length) (s':=a2) (sO hob) (by rw [kE.t _ _ _ tt]; exact ⟨d,y1,s1,.slice ya yn yc,u2,rfl,rfl,o0,ha2.mono kE⟩);have Oe:=Oz.sD 2 [];refine ⟨.inl rfl,ta 10 (.slice va zz.length vq) (dn (nrm (WR.of (W.ret ?_))))⟩;exact FG rE.def_ ⟨_,a0.turn c2.w.heap.size (.deferred none),rfl,rfl,(kk.trans k2).trans ((hct.trans kE).turn (aw _) rE.def_ rfl rfl),Gz,Own.turn Oe rE.def_ rfl,Rz.lw kd,va,vq,rfl⟩
def jz (sg:Sto) (l:List Int) (w:Int):Option (Sto×Int):=(kV sg l w).bind fun q=>some (q.1,(q.2.length:Int))
theorem tT (O0:Own c0 G F) (R0:Rel c0 sg G) (p0:List Int) (p1:Int) {r:Sto×Int} (h2:Sl (RI .i32) c0 v1 p0) (H:jz sg p0 p1=some r): Calls Tryz.prog 41 #[v1,I p1] c0.w (aT c0 fun c v=>∃G_:Gm,Own c G_ (F)∧Rel c r.1 G_∧v=I r.2):=by
  unfold jz at H;refine en func41 rfl rfl (sr (va (I 0) (wln (sr (va (v1) (va (I p1) (bn H fun q hq H=>cl (tS O0 R0 p0 p1 h2 hq) ?_)))))));rintro v c1 k1 ⟨G1,O1,R1,b,qq_,rfl⟩;refine vv (I q.2.length) (wln (W.ret ?_));obtain rfl:=si H;exact r1 (qq c1 ⟨G1,O1,R1,rfl⟩)
end Go.Proofs.YtclmdpamofdoiaaGreatDoor
namespace Go.Proofs.YtclmdpamofdoiaaGreatDoor
open Go Go.Lt
set_option maxRecDepth 10000
set_option linter.unusedVariables false
attribute [local irreducible] W WL AC
open Tryz
variable {c0:Cx} {G:Gm} {F:List En} {sg:Sto} {v1 v2 v3 v4 v5 v6 v7 v8 v9 v10 v11 v12 v13 v14 v15 v16 v17 v18 v19 v20 v21 v22 v23 v24 v25 v26 v27 v28 v29 v30 v31 v32 v33 v34 v35 v36 v37 v38 v39 v40 v41 v42 v43 v44 v45 v46 v47 v48 v49 v50 v51 v52 v53 v54 v55 v56 v57 v58 v59 v60:Value}
def fJ (p0:Int) (p1:Int) (p2:Int):Option (Int):=
 some (aV p1 (aL p0 p2))
theorem lU (e:Own c0 G F) (a:Int) (d:Int) (b:Int) {r:Int} (H:fJ a d b=some r): Calls prog 246 #[I a,I d,I b] c0.w (aT c0 fun c v=>Own c G (F)∧v=I r):=by
 unfold fJ at H;refine en func246 rfl rfl (sr (va (I 0) (wln (sr (va (I d) (va (I a) (va (I b) (va (I (aL a b)) (vv (I (aV d (aL a b))) (wln (W.ret ?_)))))))))));obtain rfl:=si H;exact r1 (qq c0 ⟨e,rfl⟩)
def gE (sg:Sto) (p0:Option Nat) (p1:Int) (p2:Int):Option (Sto):=
 (bN sg p0).bind fun e=>
 (fJ p1 0 e).bind fun a=>
 (bN sg p0).bind fun f=>
 (fJ p2 0 f).bind fun b=>
 if (decide (a < b))=true then
 (em (w64 (b - a))).bind fun c=>
 (dK sg p0 a c).bind fun d=>
 some d.1
 else
 some sg
theorem mC (U:Own c0 G F) (e:Rel c0 sg G) (hG:Gl [2,4] c0) (d:Option Nat) (f:Int) (g:Int) {r:Sto} (i:Pt 0 c0 v1 d) (H:gE sg d f g=some r): Calls prog 247 #[v1,I f,I g] c0.w (aT c0 fun c v=>∃G_:Gm,Own c G_ (F)∧Rel c r G_∧v= .tuple #[]):=by
 unfold gE at H;refine en func247 rfl rfl (sr (va (I f) (va (v1) (bn H fun S Z H=>cl (cr U e d i Z) ?_))));rintro v9 c8 l8 ⟨X,rfl⟩;refine bn H fun a y H=>cl (lU X f 0 S y) ?_;rintro v16 b0 h0 ⟨l,rfl⟩;refine va (I g) (va (v1) (bn H fun T z H=>cl (cr l e.m d i.m z) ?_));rintro v23 d0 i0 ⟨n,rfl⟩;refine bn H fun b A H=>cl (lU n g 0 T A) ?_;rintro v30 u j0 ⟨h,rfl⟩;refine va (I a) (va (I b) (wln (sr (va (I a) (va (I b) (va (B (decide (a < b))) (wln (cn H (fun D H=>?_) (fun D H=>?_)))))))))
 ·refine W.region (va (v1) (va (I a) (va (I b) (va (I a) (va (I (w64 (b - a))) (bn H fun j E H=>cl (jJ h (w64 (b - a)) E) ?_))))));rintro v33 e0 k0 ⟨_,o0,o,rfl,M⟩;obtain ⟨f0,P,l0,p,N⟩:=o.frz 0 rfl M;refine WL.gh P (bn H fun a0 R H=>cl (jA p e.m (hG.m.le (by decide)) d a j i.m N R) ?_);rintro v47 x m0 ⟨_,k,q,t,rfl,g0⟩;refine WL.nil ?_;obtain rfl:=si H;have s:=q.sD 1 [];exact n0 (qq x ⟨k,s,t,rfl⟩)
 refine W.skip ?_;obtain rfl:=si H;exact n0 (qq u ⟨G,h,e.m,rfl⟩)
def jI (sg:Sto) (p0:Option Nat) (p1:Int) (p2:Int):Option (Sto):=
 (bT (decide (p1≥0)) (some (decide (p2 > 0)))).bind fun f=>
 if f=true then
 (bN sg p0).bind fun b=>
 (fJ p1 0 b).bind fun a=>
 (bN sg p0).bind fun c=>
 (fJ p2 0 c).bind fun d=>
 (gE sg p0 a (w64 (a+d))).bind fun e=>
 some e
 else
 some sg
theorem vU (o:Own c0 G F) (h:Rel c0 sg G) (hG:Gl [2,4] c0) (f:Option Nat) (b:Int) (d:Int) {r:Sto} (i:Pt 0 c0 v1 f) (H:jI sg f b d=some r): Calls prog 192 #[v1,I b,I d] c0.w (aT c0 fun c v=>∃G_:Gm,Own c G_ (F)∧Rel c r G_∧v= .tuple #[]):=by
 unfold jI at H;refine en func192 rfl rfl (W.seq (bn H fun A P H=>W.join (Jn c0 fun c l=>Own c G (F)∧l= [(0,v1),(1,I b),(2,I d),(11,B A)]) ?_ ?_))
 ·clear H;refine W.region (va (I b) (va (B (decide (b≥0))) ?_));rcases bo (decide (b≥0)) with e | e
  ·have T:=anT e P;refine vb e (wa (I d) (wa (B (decide (d > 0))) ?_));obtain rfl:=si T;exact va (B (decide (d > 0))) (wln (jn c0 ⟨o,rfl⟩))
  obtain rfl:=anF e P;exact vb e (pz (va (B false) (wln (jn c0 ⟨o,rfl⟩))))
 rintro e_ w_ ⟨U,g7,_,rfl,l6,rfl,x,rfl⟩;refine nrm (cn H (fun D H=>?_) (fun D H=>?_))
 ·refine sr (va (I b) (va (v1) (bn H fun j E H=>cl (cr x h.m f i.m E) ?_)));rintro v19 Z e0 ⟨p,rfl⟩;refine bn H fun a M H=>cl (lU p b 0 j M) ?_;rintro v26 a0 f0 ⟨q,rfl⟩;refine va (I a) (wln (W.region (va (v1) (vv (I a) (va (I d) (va (v1) (bn H fun k N H=>cl (cr q h.m f i.m N) ?_)))))));rintro v33 b0 g0 ⟨s,rfl⟩;refine bn H fun g R H=>cl (lU s d 0 k R) ?_;rintro v40 d0 h0 ⟨t,rfl⟩;refine va (I (w64 (a+g))) (bn H fun X S H=>cl (mC t h.m (hG.m.le (by decide)) f a (w64 (a+g)) i.m S) ?_);rintro v47 z i0 ⟨n,u,y,rfl⟩;refine WL.nil ?_;obtain rfl:=si H;exact n0 (qq z ⟨n,u,y,rfl⟩)
 refine W.skip ?_;obtain rfl:=si H;exact n0 (qq U ⟨G,x,h.m,rfl⟩)
def kM (sg:Sto) (p0:Option Nat) (p1:Int):Option (Sto):=
 (bN sg p0).bind fun a=>
 (gE sg p0 p1 a).bind fun b=>
 some b
theorem vT (l:Own c0 G F) (f:Rel c0 sg G) (hG:Gl [2,4] c0) (a:Option Nat) (b:Int) {r:Sto} (j:Pt 0 c0 v1 a) (H:kM sg a b=some r): Calls prog 243 #[v1,I b] c0.w (aT c0 fun c v=>∃G_:Gm,Own c G_ (F)∧Rel c r G_∧v= .tuple #[]):=by
 unfold kM at H;refine en func243 rfl rfl (W.region (va (v1) (va (I b) (va (v1) (bn H fun k o H=>cl (cr l f a j o) ?_)))));rintro v9 s t ⟨n,rfl⟩;refine bn H fun q i H=>cl (mC n f.m (hG.m.le (by decide)) a b k j.m i) ?_;rintro v16 h p ⟨d,e,g,rfl⟩;refine WL.nil ?_;obtain rfl:=si H;exact n0 (qq h ⟨d,e,g,rfl⟩)
def lF (sg:Sto) (p0:Option Nat) (p1:Int):Option (Sto):=
 (bN sg p0).bind fun a=>
 (fJ p1 (-1) a).bind fun b=>
 (gE sg p0 0 (w64 (b+1))).bind fun c=>
 some c
theorem xq (p:Own c0 G F) (h:Rel c0 sg G) (hG:Gl [2,4] c0) (a:Option Nat) (b:Int) {r:Sto} (n:Pt 0 c0 v1 a) (H:lF sg a b=some r): Calls prog 244 #[v1,I b] c0.w (aT c0 fun c v=>∃G_:Gm,Own c G_ (F)∧Rel c r G_∧v= .tuple #[]):=by
 unfold lF at H;refine en func244 rfl rfl (W.region (va (v1) (va (I b) (va (v1) (bn H fun o s H=>cl (cr p h a n s) ?_)))));rintro v9 z A ⟨q,rfl⟩;refine bn H fun d k H=>cl (lU q b (-1) o k) ?_;rintro v16 t u ⟨f,rfl⟩;refine va (I (w64 (d+1))) (bn H fun y l H=>cl (mC f h.m (hG.m.le (by decide)) a 0 (w64 (d+1)) n.m l) ?_);rintro v23 j x ⟨e,g,i,rfl⟩;refine WL.nil ?_;obtain rfl:=si H;exact n0 (qq j ⟨e,g,i,rfl⟩)
def ke (sg:Sto) (p0:Option Nat):Option (Sto):=
 (bN sg p0).bind fun a=>
 (gE sg p0 0 a).bind fun b=>
 (eP b p0 false).bind fun c=>
 some c
theorem tH (o:Own c0 G F) (g:Rel c0 sg G) (hG:Gl [2,4] c0) (a:Option Nat) {r:Sto} (b:Pt 0 c0 v1 a) (H:ke sg a=some r): Calls prog 245 #[v1] c0.w (aT c0 fun c v=>∃G_:Gm,Own c G_ (F)∧Rel c r G_∧v= .tuple #[]):=by
 unfold ke at H;refine en func245 rfl rfl (sr (vv (v1) (bn H fun n q H=>cl (cr o g a b q) ?_)));rintro v9 A D ⟨p,rfl⟩;refine bn H fun y k H=>cl (mC p g.m (hG.m.le (by decide)) a 0 n b.m k) ?_;rintro v16 t u ⟨s,e,h,rfl⟩;refine wln (W.region (va (v1) (bn H fun z l H=>cl (lT e h a false b.m l) ?_)));rintro v23 j x ⟨d,f,i,rfl⟩;refine WL.nil ?_;obtain rfl:=si H;exact n0 (qq j ⟨d,f,i,rfl⟩)
def dr (p0:List aa) (p1:Bool) (p2:Int) (p3:Int):Option ((List aa)×Bool):=
 if (decide ((aV 0 (aL p2 (p0.length:Int)))≥(aV 0 (aL p3 (p0.length:Int)))))=true then
 some (p0,p1)
 else
 (rep (w64 ((aV 0 (aL p3 (p0.length:Int))) - (aV 0 (aL p2 (p0.length:Int))))) (⟨0,([]:List Int)⟩:aa)).bind fun b=>
 (gV p0 p1 (aV 0 (aL p2 (p0.length:Int))) b).bind fun a=>
 some (a.1,a.2)
def kF (p0:List aa) (p1:Bool) (p2:Int) (p3:Int) (p4:Int):Option ((List aa)×Bool):=
 if (p2==0)=true then
 (dr p0 p1 p3 p4).bind fun b=>
 some (b.1,b.2)
 else
 if (p2==1)=true then
 if (decide (p3 < 0))=true then
 some (p0,p1)
 else
 (dr p0 p1 0 (w64 ((aL p3 (p0.length:Int))+1))).bind fun c=>
 some (c.1,c.2)
 else
 if (p2==2)=true then
 (dr p0 p1 p3 (p0.length:Int)).bind fun d=>
 some (d.1,d.2)
 else
 if (p2==3)=true then
 (dr p0 p1 0 (p0.length:Int)).bind fun g=>
 some (g.1,false)
 else
 (orE (decide (p3 < 0)) (some (decide (p4 < 1)))).bind fun e=>
 (orE e (some (decide (p3≥(p0.length:Int))))).bind fun f=>
 if f=true then
 some (p0,p1)
 else
 (dr p0 p1 p3 (w64 (p3+(aL p4 (p0.length:Int))))).bind fun a=>
 some (a.1,a.2)
end Go.Proofs.YtclmdpamofdoiaaGreatDoor
namespace Go.Proofs.YtclmdpamofdoiaaGreatDoor
open Go Go.Lt
set_option maxRecDepth 10000
set_option linter.unusedVariables false
attribute [local irreducible] W WL AC
theorem ss {Q:Program} (w:World) (dT sT ty E:TypeId) (g o dLen dCap:Nat) (a:Addr) (sLen sCap n size:Nat) (us vs:List Value) (T:TypeId)
  (hu:Q.underlying dT=some (.slice E)) (hs:(Q.info? E).map (·.size)=some size) (hn:Nat.min sLen dLen=n) (hul:us.length=n * size)
  (hsrc:∀j v,us[j]? = some v→w.cell? (a.add j)=some v) (hrow:w.heap[g]? = some (.cells vs.toArray T (0,0))) (hl:o+us.length≤vs.length) (h1:∀v∈us,v.oneCell'=true):
  (Builtin.copy_ #[dT,sT] ty #[.slice (some ⟨g,o,none⟩) dLen dCap,.slice (some a) sLen sCap]).run Q w= .ok (goInt n) (w.setRow g (vs.take o++us++vs.drop (o+us.length)).toArray):=by
 obtain ⟨i,hi,hsz⟩:=Option.map_eq_some_iff.1 hs;have hf:=Iy (P:=Q) (w:=w) size n a sLen sCap us hul hsrc;have hst:=xW Q g o T us 0 vs.toArray w hrow (by simpa using hl) h1;simp only [np] at hst;simp [Builtin.copy_,bH hu,Builtin.lenOf,sizeOf,typeInfo,hi,hsz,hn,hf,hst]
set_option maxHeartbeats 4000000 in
set_option maxRecDepth 100000 in
theorem BJ {w:World} {g n cap i vb m vc:Nat} {vs us vs2:List Value} {T T2:TypeId} (hrow:w.heap[g]? = some (.cells vs.toArray T (0,0))) (hrow2:w.heap[vb]? = some (.cells vs2.toArray T2 (0,0)))
  (hi:i < n) (hm:0 < m) (hroom:n+m≤cap) (hcap:cap * 2≤vs.length) (hc63:cap≤9223372036854775807) (hvb:vb≠g) (hul:us.length=m * 2) (hus:∀(j:Nat) (v:Value),us[j]? = some v→vs2[j]? = some v)
  (h1:∀v∈vs.take (n * 2),v.oneCell'=true) (h2:∀v∈us,v.oneCell'=true):
  Calls Tryz.prog 250 #[.slice (some ⟨g,0,none⟩) n cap,.int .i64 i,.slice (some ⟨vb,0,none⟩) m vc] w fun e w'=>
   e= .returned (.slice (some ⟨g,0,none⟩) (n+m) cap)∧w'=(w.drew.setRow g (vs.take ((i+m) * 2)++(vs.drop (i * 2)).take ((n - i) * 2)++vs.drop ((n+m) * 2)).toArray).setRow g (vs.take (i * 2)++us++(vs.drop (i * 2)).take ((n - i) * 2)++vs.drop ((n+m) * 2)).toArray:=by
 have hsz:(Tryz.prog.info? 114).map (·.size)=some 2:=by kernel_rfl
 have hov:∀lb cb,(callFunc 284 #[.slice (some ⟨vb,0,none⟩) m vc,.slice (some ⟨g,(i+m) * 2,none⟩) lb cb]).run Tryz.prog w= .ok (.value (.bool false)) w:=fun lb cb=>by
  rw [run_callFunc_extern Tryz.func284 (by kernel_rfl) (by kernel_rfl) (by kernel_rfl) (e:=Extern.SlicesOverlaps.overlaps #[46,46] #[4]) (by kernel_rfl)];rw [Lib.run_overlaps_apart w 46 4 114 Tryz.underlying46 2 (fun w=>by kernel_rfl) ⟨vb,0,none⟩ ⟨g,(i+m) * 2,none⟩ m vc lb cb hvb T2 T vs2.length vs.length (by simp [World.shape?,hrow2]) (by simp [World.shape?,hrow]) (by omega) (by simp [World.frozen?,hrow2]) (by simp [World.frozen?,hrow2])];rfl
 have hdl:((vs.drop (i * 2)).take ((n - i) * 2)).length=(n - i) * 2:=by rw [ay,be]; omega
 have hcp1:∀ty dc sc,(Builtin.copy_ #[46,46] ty #[.slice (some ⟨g,(i+m) * 2,none⟩) (n+m - (i+m)) dc,.slice (some ⟨g,i * 2,none⟩) (n+m - i) sc]).run Tryz.prog w.drew= .ok (goInt ((n - i:Nat):Int)) (w.drew.setRow g (vs.take ((i+m) * 2)++(vs.drop (i * 2)).take ((n - i) * 2)++vs.drop ((n+m) * 2)).toArray):=fun ty dc sc=>by
  have:=ss (Q:=Tryz.prog) w.drew 46 46 ty 114 g ((i+m) * 2) (n+m - (i+m)) dc ⟨g,i * 2,none⟩ (n+m - i) sc (n - i) 2 ((vs.drop (i * 2)).take ((n - i) * 2)) vs T Tryz.underlying46 hsz (by simp only [AY]; split <;> omega) hdl
   (fun j v hj=>by
    rw [dj];rw [aO] at hj;split at hj
    ·rw [bO] at hj;rw [fh w.drew g (i * 2+j) vs.toArray T (0,0) hrow,bJ];exact hj
    ·cases hj) hrow (by rw [hdl]; omega) (fun v hv=>h1 v (by rw [show (n - i) * 2=n * 2 - i * 2 by omega,←fW] at hv; exact jE hv))
  rw [hdl,show (i+m) * 2+(n - i) * 2=(n+m) * 2 by omega] at this;exact this
 obtain ⟨W1,hW1⟩:∃W1,W1=w.drew.setRow g (vs.take ((i+m) * 2)++(vs.drop (i * 2)).take ((n - i) * 2)++vs.drop ((n+m) * 2)).toArray:=⟨_,rfl⟩;have hr1:W1.heap[g]? = some (.cells (vs.take ((i+m) * 2)++(vs.drop (i * 2)).take ((n - i) * 2)++vs.drop ((n+m) * 2)).toArray T (0,0)):=by
  rw [hW1];exact Ao w.drew g vs.toArray _ T (0,0) hrow
 have hr2:W1.heap[vb]? = some (.cells vs2.toArray T2 (0,0)):=by
  rw [hW1,Ga w.drew g vb _ hvb];exact hrow2
 have hA2:(vs.take ((i+m) * 2)++(vs.drop (i * 2)).take ((n - i) * 2)++vs.drop ((n+m) * 2)).take (i * 2)=vs.take (i * 2):=by
  rw [aC,dA (by rw [ay]; omega),ji,cq (by omega)]
 have hA3:(vs.take ((i+m) * 2)++(vs.drop (i * 2)).take ((n - i) * 2)++vs.drop ((n+m) * 2)).drop (i * 2+m * 2)=(vs.drop (i * 2)).take ((n - i) * 2)++vs.drop ((n+m) * 2):=by
  have hl:(vs.take ((i+m) * 2)).length=i * 2+m * 2:=by rw [ay]; omega
  rw [aC,←hl,jj]
 have hcp2:∀ty dc,(Builtin.copy_ #[46,46] ty #[.slice (some ⟨g,i * 2,none⟩) (n+m - i) dc,.slice (some ⟨vb,0,none⟩) m vc]).run Tryz.prog W1= .ok (goInt m) (W1.setRow g (vs.take (i * 2)++us++(vs.drop (i * 2)).take ((n - i) * 2)++vs.drop ((n+m) * 2)).toArray):=fun ty dc=>by
  have:=ss (Q:=Tryz.prog) W1 46 46 ty 114 g (i * 2) (n+m - i) dc ⟨vb,0,none⟩ m vc m 2 us _ T Tryz.underlying46 hsz (by simp only [AY]; split <;> omega) hul
   (fun j v hj=>by
    rw [dj,fh W1 vb (0+j) vs2.toArray T2 (0,0) hr2,bJ,fU];exact hus j v hj) hr1 (by simp only [ai,ay,be]; omega) h2
  rw [hul,hA2,hA3,←aC] at this;exact this
 rw [←hW1] at hcp1⊢;have hw1:IntKind.i64.wrap ((i:Int)+(m:Int))=(i:Int)+(m:Int):=by rw [Ae]; omega
 have hb1:(0:Int)≤(i:Int)+(m:Int):=by omega
 have hin:i≤n:=by omega
 have hz1:¬((m:Int)=0):=by omega
 have hz2:¬((i:Int)=(n:Int)):=by omega
 have htn:((i:Int)+(m:Int)).toNat=i+m:=by omega
 have hb2:¬(cap=i+m):=by omega
 have hb3:(i:Int)≤(n:Int)+(m:Int):=by omega
 have hb4:¬(cap=i):=by omega
 have mixed:Tryz.prog.follows Departure.mixedOrders=true:=by kernel_rfl
 clear hA2 hA3 hr1 hr2 hW1 hdl h1 h2 hus hul
 go_enter Tryz.func250,Tryz.ntmps250
 go_wp2_with (simp only [hov])
 go_region_law_o (refine step_copy_runI rfl _ _ 46 46 rfl _ _ (by simp [Act.eval,Act.put]) (by simp [Act.eval,Act.put]) (hcp1 _ _ _) ?_)
 go_wp2_with (at_builtin; refine wpList_copy_runI _ rfl _ _ 46 46 rfl _ _ rfl rfl (hcp2 _ _) ?_)
 go_ret
 exact ⟨rfl,by simp only [aC]⟩
def nu (k:Nat):List Value:=(Builtin.zeroCells (Value.agg #[.int .i64 0,.slice none 0 0]).cells k).toList
theorem ol (k:Nat):(nu k).length=k * 2:=by
 unfold nu;rw [IA,oV];rfl
set_option maxHeartbeats 4000000 in
set_option maxRecDepth 100000 in
theorem Dg {w:World} {g n cap i vb m vc:Nat} {vs us vs2:List Value} {T T2:TypeId} (hrow:w.heap[g]? = some (.cells vs.toArray T (0,0))) (hrow2:w.heap[vb]? = some (.cells vs2.toArray T2 (0,0)))
  (hi:i < n) (hm:0 < m) (hnc:n≤cap) (hroom:cap < n+m) (hcap:cap * 2≤vs.length) (hbig:(n+m) * 128≤140737488355328) (hul:us.length=m * 2) (hus:∀(j:Nat) (v:Value),us[j]? = some v→vs2[j]? = some v)
  (h1:∀v∈vs.take (n * 2),v.oneCell'=true) (h2:∀v∈us,v.oneCell'=true):
  Calls Tryz.prog 250 #[.slice (some ⟨g,0,none⟩) n cap,.int .i64 i,.slice (some ⟨vb,0,none⟩) m vc] w fun e w'=>
   e= .returned (.slice (some ⟨w.heap.size,0,none⟩) (n+m) (grownCap w (n+m) cap 114))∧
   w'=(((w.drew.alloc (.cells (vs.take (i * 2)++nu (n+m - i)++nu (grownCap w (n+m) cap 114 - (n+m))).toArray 114)).setRow w.heap.size (vs.take (i * 2)++us++(nu (n+m - i)++nu (grownCap w (n+m) cap 114 - (n+m))).drop (m * 2)).toArray).drew).setRow w.heap.size
    (vs.take (i * 2)++us++(vs.drop (i * 2)).take ((n - i) * 2)++(nu (n+m - i)++nu (grownCap w (n+m) cap 114 - (n+m))).drop ((n+m - i) * 2)).toArray:=by
 have hsz:(Tryz.prog.info? 114).map (·.size)=some 2:=by kernel_rfl
 obtain ⟨ti,hti,hzz⟩:=Option.map_eq_some_iff.1 (show (Tryz.prog.info? 114).map (fun i=>(i.zero,i.size,i.bytes))=some (some (Value.agg #[.int .i64 0,.slice none 0 0]),2,32) by kernel_rfl);simp only [fM] at hzz;obtain ⟨hz0,hz3,hz4⟩:=hzz;have hold:(Builtin.firstCells ti.size i (.slice (some ⟨g,0,none⟩) i cap)).run Tryz.prog w.drew= .ok (vs.take (i * 2)).toArray w.drew:=by
  rw [hz3];exact Iy w.drew 2 i ⟨g,0,none⟩ i cap (vs.take (i * 2)) (by rw [ay]; omega) (fun j v hj=>by
   rw [dj,fU,fh w.drew g j vs.toArray T (0,0) hrow,bJ];rw [aO] at hj;split at hj
   ·exact hj
   ·cases hj)
 obtain ⟨N,hN⟩:∃N,N=w.heap.size:=⟨_,rfl⟩;obtain ⟨Gc,hGc⟩:∃Gc,Gc=grownCap w (n+m) cap 114:=⟨_,rfl⟩;obtain ⟨Zs,hZs⟩:∃Zs,Zs=nu (n+m - i)++nu (Gc - (n+m)):=⟨_,rfl⟩;have hZl:Zs.length=(n+m - i) * 2+(Gc - (n+m)) * 2:=by rw [hZs,ai,ol,ol]
 obtain ⟨W2,hW2⟩:∃W2,W2=w.drew.alloc (.cells (vs.take (i * 2)++Zs).toArray 114):=⟨_,rfl⟩;have hkk:(n:Int)+(m:Int) - (i:Int)=((n+m - i:Nat):Int):=by omega
 have hrz:∀ty,(Builtin.append_ #[46,3] ty #[.slice (some ⟨g,0,none⟩) i cap,.int .i64 ((n:Int)+(m:Int) - (i:Int))]).run Tryz.prog w= .ok (.slice (some ⟨N,0,none⟩) (n+m) Gc) W2:=fun ty=>by
  have h:=Lib.run_append_grow_zeros (P:=Tryz.prog) w 46 3 ty 114 ti _ .i64 .i64 Tryz.underlying46 Tryz.underlying3 hti hz0 (some ⟨g,0,none⟩) i cap (vs.take (i * 2)) hold (n+m - i) (by omega) (by omega) (by omega) (by omega) (by rw [hz4]; omega) (by rw [hz4,show i+(n+m - i)=n+m by omega]; exact Dk hroom (by omega));rw [show i+(n+m - i)=n+m by omega] at h;rw [hkk,hN,hGc,hW2,h,hZs,←hGc]
  congr 3
  rw [←aC];apply DZ;simp [nu]
 have hNg:g < N:=by rw [hN]; exact (Array.getElem?_eq_some_iff.1 hrow).1
 have hNv:vb < N:=by rw [hN]; exact (Array.getElem?_eq_some_iff.1 hrow2).1
 have r2N:W2.heap[N]? = some (.cells (vs.take (i * 2)++Zs).toArray 114 (0,0)):=by
  rw [hW2,hN];exact heap_alloc_new w.drew _
 have r2g:W2.heap[g]? = some (.cells vs.toArray T (0,0)):=by
  rw [hW2,dY w.drew _ g (by rw [hN] at hNg; exact hNg)];exact hrow
 have r2v:W2.heap[vb]? = some (.cells vs2.toArray T2 (0,0)):=by
  rw [hW2,dY w.drew _ vb (by rw [hN] at hNv; exact hNv)];exact hrow2
 have ht:(vs.take (i * 2)).length=i * 2:=by rw [ay]; omega
 have hGe:n+m≤Gc:=by rw [hGc]; exact AK w _ _ _
 obtain ⟨W3,hW3⟩:∃W3,W3=W2.setRow N (vs.take (i * 2)++us++Zs.drop (m * 2)).toArray:=⟨_,rfl⟩;have hcpA:∀ty dc,(Builtin.copy_ #[46,46] ty #[.slice (some ⟨N,i * 2,none⟩) (n+m - i) dc,.slice (some ⟨vb,0,none⟩) m vc]).run Tryz.prog W2= .ok (goInt m) W3:=fun ty dc=>by
  have:=ss (Q:=Tryz.prog) W2 46 46 ty 114 N (i * 2) (n+m - i) dc ⟨vb,0,none⟩ m vc m 2 us _ 114 Tryz.underlying46 hsz (by simp only [AY]; split <;> omega) hul
   (fun j v hj=>by
    rw [dj,fh W2 vb (0+j) vs2.toArray T2 (0,0) r2v,bJ,fU];exact hus j v hj) r2N (by simp only [ai,ht,hZl]; omega) h2
  rw [hul,dA (by omega),aK (by omega),←da,List.drop_left' ht] at this;rw [hW3];exact this
 have r3N:W3.heap[N]? = some (.cells (vs.take (i * 2)++us++Zs.drop (m * 2)).toArray 114 (0,0)):=by
  rw [hW3];exact Ao W2 N _ _ _ (0,0) r2N
 have r3g:W3.heap[g]? = some (.cells vs.toArray T (0,0)):=by
  rw [hW3,Ga W2 N g _ (by omega)];exact r2g
 have hcpB:∀ty dc sc,(Builtin.copy_ #[46,46] ty #[.slice (some ⟨N,(i+m) * 2,none⟩) (n+m - (i+m)) dc,.slice (some ⟨g,i * 2,none⟩) (n - i) sc]).run Tryz.prog W3.drew= .ok (goInt ((n - i:Nat):Int)) (W3.drew.setRow N (vs.take (i * 2)++us++(vs.drop (i * 2)).take ((n - i) * 2)++Zs.drop ((n+m - i) * 2)).toArray):=fun ty dc sc=>by
  have hdl:((vs.drop (i * 2)).take ((n - i) * 2)).length=(n - i) * 2:=by rw [ay,be]; omega
  have hau:(vs.take (i * 2)++us).length=(i+m) * 2:=by rw [ai,ht,hul]; omega
  have:=ss (Q:=Tryz.prog) W3.drew 46 46 ty 114 N ((i+m) * 2) (n+m - (i+m)) dc ⟨g,i * 2,none⟩ (n - i) sc (n - i) 2 ((vs.drop (i * 2)).take ((n - i) * 2)) _ 114 Tryz.underlying46 hsz (by simp only [AY]; split <;> omega) hdl
   (fun j v hj=>by
    rw [dj];rw [aO] at hj;split at hj
    ·rw [bO] at hj;rw [fh W3.drew g (i * 2+j) vs.toArray T (0,0) r3g,bJ];exact hj
    ·cases hj) r3N (by rw [hdl,ai,hau,be,hZl]; omega) (fun v hv=>h1 v (by rw [show (n - i) * 2=n * 2 - i * 2 by omega,←fW] at hv; exact jE hv))
  rw [hdl] at this;rw [this]
  congr 3
  rw [←hau,DU,←da,jj,da,show m * 2+(n - i) * 2=(n+m - i) * 2 by omega]
 have hN2:w.heap.size=N:=hN.symm;have hG2:grownCap w (n+m) cap 114=Gc:=hGc.symm;rw [hG2,←hZs,show vs.take (i * 2)++nu (n+m - i)++nu (Gc - (n+m))=vs.take (i * 2)++Zs by rw [hZs,aC],hN2,←hW2,←hW3];have hG63:Gc≤9223372036854775807:=by
  have:=qa w (n+m) cap 114 (by unfold maxLen; omega);rw [←hGc] at this;unfold maxLen at this;omega
 have hGi:¬(Gc=i):=by omega
 have hGim:¬(Gc=i+m):=by omega
 have hci:¬(cap=i):=by omega
 have hw1:IntKind.i64.wrap ((i:Int)+(m:Int))=(i:Int)+(m:Int):=by rw [Ae]; omega
 have hb1:(0:Int)≤(i:Int)+(m:Int):=by omega
 have hin:i≤n:=by omega
 have htn:((i:Int)+(m:Int)).toNat=i+m:=by omega
 have hb3:(i:Int)≤(n:Int):=by omega
 have hz1:¬((m:Int)=0):=by omega
 have hz2:¬((i:Int)=(n:Int)):=by omega
 have hz5:(cap:Int) < (n:Int)+(m:Int):=by omega
 have mixed:Tryz.prog.follows Departure.mixedOrders=true:=by kernel_rfl
 clear hkk hold hZs hZl hW2 hW3 r2N r2g r2v r3N r3g hN hN2 hG2 hGc ht hti hz0 hz3 hz4 h1 h2 hus hul hNg hNv hrow hrow2
 go_enter Tryz.func250,Tryz.ntmps250
 go_wp2_with (first
  | (at_builtin; refine Lib.wpList_append_run _ rfl _ _ _ _ rfl _ _ rfl rfl _ _ (hrz _) ?_)
  | (at_builtin; refine wpList_copy_runI _ rfl _ _ 46 46 rfl _ _ rfl rfl (hcpA _ _) ?_))
 go_region_law_o (refine step_copy_runI rfl _ _ 46 46 rfl (.slice (some ⟨N,(i+m) * 2,none⟩) (n+m - (i+m)) (Gc - (i+m))) (.slice (some ⟨g,i * 2,none⟩) (n - i) (cap - i)) (by simp [Act.eval,Act.put]) (by simp [Act.eval,Act.put]) (hcpB _ _ _) ?_)
 go_wp2
 go_ret
 exact ⟨rfl,by simp only [aC]⟩
section
variable {c c':Cx} {α:Type} {R:Rp α}
theorem _root_.Go.Lt.AR.take {vs:List Value} {xs:List α} (h:AR R c vs xs) (k:Nat):AR R c (vs.take (k * R.size)) (xs.take k):=fun i x hx=>by
 rw [aO] at hx;split at hx
 ·rename_i hik
  have hm:=iF (s:=R.size) hik;rw [fW,ji,cq (by omega)];exact h i x hx
 ·cases hx
theorem _root_.Go.Lt.AR.drop {vs:List Value} {xs:List α} (h:AR R c vs xs) (k:Nat):AR R c (vs.drop (k * R.size)) (xs.drop k):=fun i x hx=>by
 rw [bO] at hx;rw [da,←fi];exact h _ x hx
theorem _root_.Go.Lt.AR.more {vs ts:List Value} {xs:List α} (h:AR R c vs xs) (hl:xs.length * R.size≤vs.length):AR R c (vs++ts) xs:=fun i x hx=>by
 have hi:=(List.getElem?_eq_some_iff.1 hx).1;have hm:=iF (s:=R.size) hi;rw [fN (by omega)];exact h i x hx
theorem _root_.Go.Lt.AR.app {vs us:List Value} {xs ys:List α} (h:AR R c vs xs) (hl:vs.length=xs.length * R.size) (k:AR R c us ys):AR R c (vs++us) (xs++ys):=fun i x hx=>by
 rw [fp] at hx;split at hx
 ·rename_i hi
  have hm:=iF (s:=R.size) hi;rw [fN (by omega)];exact h i x hx
 ·rename_i hi
  rw [show i * R.size=vs.length+(i - xs.length) * R.size by rw [hl,←fi]; congr 1; omega,←da,jj];exact k _ x hx
theorem _root_.Go.Lt.AR.ones {vs:List Value} {xs:List α} (h:AR R c vs xs) (hp:0 < R.size):∀v∈vs.take (xs.length * R.size),v.oneCell'=true:=fun v hv=>by
 obtain ⟨j,hj⟩:=List.mem_iff_getElem?.1 hv;rw [aO] at hj;split at hj
 ·rename_i hlt
  have hq:j / R.size < xs.length:=by rw [Nat.div_lt_iff_lt_mul hp]; exact hlt
  have hc:=h _ _ (af hq);refine R.one hc v (List.mem_iff_getElem?.2 ⟨j % R.size,?_⟩);rw [aO,ae (DT _ hp),bO,Nat.mul_comm,Nat.div_add_mod];exact hj
 ·cases hj
end
def jv (p0:List aa) (p1:Int) (p2:List aa):Option (List aa):=if 0≤p1∧p1 < p0.length∧1≤p2.length∧p0.length+p2.length≤far then some (p0.take p1.toNat++p2++p0.drop p1.toNat) else none
theorem _root_.Go.Lt.OA.some {c:Cx} {α:Type} {R:Rp α} {v:Value} {vs:List Value} {xs:List α} (h:OA R c v vs xs) (hn:1≤xs.length):∃g cap,v= .slice (some ⟨g,0,none⟩) xs.length cap∧xs.length≤cap∧cap≤maxLen∧cap * R.size≤vs.length∧AR R c vs xs:=by
 rcases h.2.1 with ⟨_,rfl⟩ | ⟨g,cap,h1,h2,h3,h4⟩
 ·simp at hn
 ·exact ⟨g,cap,h1,h2,h3,h4,h.2.2⟩
theorem tO {c0:Cx} {G:Gm} {F:List En} {v0 v2:Value} {u0 u2:List Value} (p0:List aa) (p1:Int) (p2:List aa) (O0:Own c0 G (es true az v0 114 u0 p0 :: es true az v2 114 u2 p2 :: F)) (h0:OA az c0 v0 u0 p0) (h2:OA az c0 v2 u2 p2) {r:List aa} (H:jv p0 p1 p2=some r): Calls Tryz.prog 250 #[v0,.int .i64 p1,v2] c0.w (aT c0 fun c v=>∃y1:Value,∃y2:List Value,Own c G (es true az y1 114 y2 r :: F)∧v=y1∧OA az c y1 y2 r):=by
 unfold jv at H;split at H
 ·rename_i hc;obtain ⟨hc1,hc2,hc3,hc4⟩:=hc;obtain ⟨i,rfl⟩:∃i:Nat,p1=(i:Int):=⟨p1.toNat,by omega⟩;rw [bR] at H;obtain rfl:=bb H;obtain ⟨g,cap,rfl,a1,a2,a3,a4⟩:=h0.some (by omega);obtain ⟨vb,vc,rfl,b1,b2,b3,b4⟩:=h2.some hc3;have hsz:az.size=2:=rfl;have hon0:=O0.on 0 rfl g rfl;have hon2:=O0.on 1 rfl vb rfl;have hne:vb≠g:=fun e=>O0.m.2 (.inl 0) (.inl 1) _ _ rfl rfl (by simp) g rfl (by rw [←e]; rfl);have o0:=a4.ones (by decide);have o2:=b4.ones (by decide);rw [hsz] at o0 o2 a3 b3;unfold maxLen at a2 b2;unfold far at hc4;have ht0:(u0.take (i * 2)).length=i * 2:=by rw [ay]; omega
  have ht2:(u2.take (p2.length * 2)).length=p2.length * 2:=by rw [ay]; omega
  have htl:((u0.drop (i * 2)).take ((p0.length - i) * 2)).length=(p0.length - i) * 2:=by rw [ay,be]; omega
  have hus:∀(j:Nat) (v:Value),(u2.take (p2.length * 2))[j]? = some v→u2[j]? = some v:=fun j v hj=>by
   rw [aO] at hj;split at hj
   ·exact hj
   ·cases hj
  have hAR:∀(c:Cx) (ts:List Value),c0.le c→AR az c (u0.take (i * 2)++u2.take (p2.length * 2)++(u0.drop (i * 2)).take ((p0.length - i) * 2)++ts) (p0.take i++p2++p0.drop i):=fun c ts hle=>by
   have k0:AR az c (u0.take (i * 2)) (p0.take i):=(a4.take i).mono hle;have k2:AR az c (u2.take (p2.length * 2)) p2:=by
    have:=(b4.take p2.length).mono hle;rwa [aK (aw p2.length)] at this
   have k1:AR az c ((u0.drop (i * 2)).take ((p0.length - i) * 2)) (p0.drop i):=by
    have:=((a4.drop i).take (p0.length - i)).mono hle;rwa [aK (l:=p0.drop i) (by rw [be]; exact aw _)] at this
   refine AR.more (AR.app (AR.app k0 ?_ k2) ?_ k1) ?_
   ·rw [ht0,ay,cq (by omega),hsz]
   ·rw [ai,ht0,ht2,ai,ay,cq (by omega),hsz,fi]
   ·simp only [ai];rw [ht0,ht2,htl,ay,be,cq (by omega),hsz];omega
  have hrl:(p0.take i++p2++p0.drop i).length=p0.length+p2.length:=by
   rw [ai,ai,ay,be];omega
  rcases aP cap (p0.length+p2.length) with hg | hg
  ·refine (Dg (vs:=u0) (us:=u2.take (p2.length * 2)) (vs2:=u2) hon0.1 hon2.1 (by omega) (by omega) a1 hg a3 (by omega) ht2 hus o0 o2).mono ?_;rintro e w' ⟨rfl,rfl⟩;obtain ⟨Gc,hGc⟩:∃Gc,Gc=grownCap c0.w (p0.length+p2.length) cap 114:=⟨_,rfl⟩;have hGe:p0.length+p2.length≤Gc:=by rw [hGc]; exact AK _ _ _ _
   have hGm:Gc≤maxLen:=by rw [hGc]; exact qa _ _ _ _ (by unfold maxLen; omega)
   rw [←hGc];obtain ⟨Zs,hZs⟩:∃Zs,Zs=nu (p0.length+p2.length - i)++nu (Gc - (p0.length+p2.length)):=⟨_,rfl⟩;have hZl:Zs.length=(p0.length+p2.length - i) * 2+(Gc - (p0.length+p2.length)) * 2:=by rw [hZs,ai,ol,ol]
   rw [aC (u0.take (i * 2)),←hZs];have hd:=Cx.drew_le c0;obtain ⟨c1,e1,e2,e3,e4,e5⟩:=Cx.new ⟨c0.w.drew,c0.A,c0.t⟩ (u0.take (i * 2)++Zs) 114 0;have O1:=Own.cons (O0.keep hd) e2 (fun _=>id) (e:=⟨.slice (some ⟨c0.w.heap.size,0,none⟩) (p0.length+p2.length) Gc,114,u0.take (i * 2)++Zs,0⟩) (fun b hb=>by
    simp only [blk,aM] at hb;subst hb;exact ⟨e3,e5⟩) (fun b hb=>by
    simp only [blk,aM] at hb;subst hb;exact aw _)
   obtain ⟨c2,f1,f2,f3,f4⟩:=Cx.row (m:=u0.take (i * 2)++u2.take (p2.length * 2)++Zs.drop (p2.length * 2)) e3 0 e5 (fun o ho=>by omega) 0 (aw _);have O2:=Own.set O1 0 rfl f2 (fun b hb=>by rw [hb]; rfl) (e':=⟨.slice (some ⟨c0.w.heap.size,0,none⟩) (p0.length+p2.length) Gc,114,u0.take (i * 2)++u2.take (p2.length * 2)++Zs.drop (p2.length * 2),0⟩) (fun b hb=>by
    simp only [blk,aM] at hb;subst hb;exact ⟨f3,f4⟩) (fun b hb=> .inl hb)
   have hd2:=Cx.drew_le c2;obtain ⟨c3,g1,g2,g3,g4⟩:=Cx.row (c:=⟨c2.w.drew,c2.A,c2.t⟩) (m:=u0.take (i * 2)++u2.take (p2.length * 2)++(u0.drop (i * 2)).take ((p0.length - i) * 2)++Zs.drop ((p0.length+p2.length - i) * 2)) (T:=114) (b:=c0.w.heap.size) f3 0 f4 (fun o ho=>by omega) 0 (aw _);have O3:=Own.set (O2.keep hd2) 0 rfl g2 (fun b hb=>by rw [hb]; rfl) (e':=es true az (.slice (some ⟨c0.w.heap.size,0,none⟩) (p0.length+p2.length) Gc) 114 (u0.take (i * 2)++u2.take (p2.length * 2)++(u0.drop (i * 2)).take ((p0.length - i) * 2)++Zs.drop ((p0.length+p2.length - i) * 2)) (p0.take i++p2++p0.drop i)) (fun b hb=>by
    simp only [es,blk,aM] at hb;subst hb;exact ⟨g3,g4⟩) (fun b hb=> .inl hb)
   have hle:=hd.le.trans (e2.le.trans (f2.le.trans (hd2.le.trans g2.le)));have O4:=O3.selD 3 [0] (by kernel_rfl) (by kernel_rfl);refine ⟨_,c3,rfl,by rw [g1]; show _=(c2.w.drew).setRow _ _; rw [f1,e1]; rfl,hle,_,_,O4,rfl,by decide,.inr ⟨_,Gc,by rw [hrl],by rw [hrl]; exact hGe,hGm,?_⟩,hAR c3 _ hle⟩;rw [hsz,ai,ai,ai,ht0,ht2,htl,be,hZl];omega
  ·refine (BJ (vs:=u0) (us:=u2.take (p2.length * 2)) (vs2:=u2) hon0.1 hon2.1 (by omega) (by omega) hg a3 a2 hne ht2 hus o0 o2).mono ?_;rintro e w' ⟨rfl,rfl⟩;have hd:=Cx.drew_le c0;obtain ⟨c2,f1,f2,f3,f4⟩:=Cx.row (c:=⟨c0.w.drew,c0.A,c0.t⟩) (l:=u0) (T:=114) (b:=g) (m:=u0.take ((i+p2.length) * 2)++(u0.drop (i * 2)).take ((p0.length - i) * 2)++u0.drop ((p0.length+p2.length) * 2)) hon0.1 0 hon0.2 (fun o ho=>by omega) 0 (aw _);have O2:=Own.set (O0.keep hd) 0 rfl f2 (fun b hb=>by rw [hb]; rfl) (e':=⟨.slice (some ⟨g,0,none⟩) p0.length cap,114,u0.take ((i+p2.length) * 2)++(u0.drop (i * 2)).take ((p0.length - i) * 2)++u0.drop ((p0.length+p2.length) * 2),0⟩) (fun b hb=>by
    simp only [blk,aM] at hb;subst hb;exact ⟨f3,f4⟩) (fun b hb=> .inl hb)
   obtain ⟨c3,g1,g2,g3,g4⟩:=Cx.row (c:=c2) (m:=u0.take (i * 2)++u2.take (p2.length * 2)++(u0.drop (i * 2)).take ((p0.length - i) * 2)++u0.drop ((p0.length+p2.length) * 2)) (T:=114) (b:=g) f3 0 f4 (fun o ho=>by omega) 0 (aw _);have O3:=Own.set O2 0 rfl g2 (fun b hb=>by rw [hb]; rfl) (e':=es true az (.slice (some ⟨g,0,none⟩) (p0.length+p2.length) cap) 114 (u0.take (i * 2)++u2.take (p2.length * 2)++(u0.drop (i * 2)).take ((p0.length - i) * 2)++u0.drop ((p0.length+p2.length) * 2)) (p0.take i++p2++p0.drop i)) (fun b hb=>by
    simp only [es,blk,aM] at hb;subst hb;exact ⟨g3,g4⟩) (fun b hb=> .inl hb)
   have hle:=hd.le.trans (f2.le.trans g2.le);have O4:=O3.selD 2 [0] (by kernel_rfl) (by kernel_rfl);refine ⟨_,c3,rfl,by rw [g1,f1],hle,_,_,O4,rfl,by decide,.inr ⟨g,cap,by rw [hrl],by rw [hrl]; exact hg,by unfold maxLen; exact a2,?_⟩,hAR c3 _ hle⟩;rw [hsz,ai,ai,ai,ht0,ht2,htl,be];omega
 ·cases H
theorem Dh (k:Nat):∀v∈nu k,v.oneCell'=true:=fun v hv=>by
 unfold nu Builtin.zeroCells at hv;simp only [Jo,List.mem_map] at hv;obtain ⟨a,_,rfl⟩:=hv;have h2:(Value.agg #[.int .i64 0,.slice none 0 0]).cells= #[.int .i64 0,.slice none 0 0]:=rfl;rw [h2];show (#[Value.int .i64 0,Value.slice none 0 0][a % 2]!).oneCell'=true;rcases Nat.mod_two_eq_zero_or_one a with h | h <;> rw [h] <;> rfl
theorem rP {P:Program} {ops:Array Oper} {o:Oper} {a:Act} {w:World} {K:Act→World→Prop} {Q:Exit→Act→World→Prop} {E:Prop}
  (hg:o.guard=none) (d x:Operand) (dT sT:TypeId) (hop:o.op=Op.call { callee:=Callee.builtin Builtin.append,args:= #[d,x],argTypes:= #[dT,sT]})
  (v u:Value) (hd:a.eval d=v) (hx:a.eval x=u) {v':Value} {w':World} (hr:(Builtin.append_ #[dT,sT] o.type #[v,u]).run P w= .ok v' w') (hK:K (a.put o.dst v') w'):
  if Region.wanted o (yielded ops a.tmps)=true then Oper.wp P o a w K Q else E:=by
 have hw:Region.wanted o (yielded ops a.tmps)=true:=by simp [Region.wanted,hg]
 rw [ae hw];unfold Oper.wp;simp [execOp,hop,resolve,invoke,builtin,hd,hx,hr,Result.andThen];exact hK
theorem rN {P:Program} (w:World) {ops:Array Oper} {rest:List Oper} {o:Oper} {a:Act} {Q:Exit→Act→World→Prop} (hgd:o.guard=none) (d:Operand) (t:TypeId)
  (ho:o.op= .call { callee:= .builtin .clear,args:= #[d],argTypes:= #[t]}) (v:Value) (hd:a.eval d=v) {v':Value} {w':World}
  (hr:(Builtin.clear_ #[t] o.type #[v]).run P w= .ok v' w') (h:wpList P ops Q rest (a.put o.dst v') w'):wpList P ops Q (o :: rest) a w:=
 wpList_plain hgd fun _ hK=>by
  unfold Oper.wp execOp;simp only [ho,resolve,invoke,builtin,tn,zd,Result.andThen_ok,List.map_toArray,eV,pO,hd,hr];exact hK _ _ h
theorem BU {Q:Program} (w:World) (t ty E:TypeId) (g o k c:Nat) (z:Value) (vs:List Value) (T:TypeId) (hk:k≠0)
  (hu:Q.underlying t=some (.slice E)) (hz:∀w,(zeroValue E).run Q w= .ok z w) (hrow:w.heap[g]? = some (.cells vs.toArray T (0,0))) (hl:o+(Builtin.zeroCells z.cells k).toList.length≤vs.length) (h1:∀v∈(Builtin.zeroCells z.cells k).toList,v.oneCell'=true):
  (Builtin.clear_ #[t] ty #[.slice (some ⟨g,o,none⟩) k c]).run Q w= .ok (.tuple #[]) (w.setRow g (vs.take o++(Builtin.zeroCells z.cells k).toList++vs.drop (o+(Builtin.zeroCells z.cells k).toList.length)).toArray):=by
 have hst:=xW Q g o T (Builtin.zeroCells z.cells k).toList 0 vs.toArray w hrow (by simpa using hl) h1;simp only [np] at hst
 cases k with
 | zero=>exact absurd rfl hk
 | succ k=>
  simp [Builtin.clear_,bH hu,hz,hst]
set_option maxHeartbeats 4000000 in
set_option maxRecDepth 100000 in
theorem Ff {w:World} {g n cap i j:Nat} {vs:List Value} (hrow:w.heap[g]? = some (.cells vs.toArray 114 (0,0)))
  (hij:i < j) (hjn:j≤n) (hnc:n≤cap) (hcap:cap * 2≤vs.length) (hc63:cap≤9223372036854775807) (h1:∀v∈vs.take (n * 2),v.oneCell'=true):
  Calls Tryz.prog 253 #[.slice (some ⟨g,0,none⟩) n cap,.int .i64 i,.int .i64 j] w fun e w'=>
   e= .returned (.slice (some ⟨g,0,none⟩) (i+(n - j)) cap)∧w'=(w.drew.setRow g (vs.take (i * 2)++(vs.drop (j * 2)).take ((n - j) * 2)++vs.drop ((i+(n - j)) * 2)).toArray).setRow g
    (vs.take (i * 2)++(vs.drop (j * 2)).take ((n - j) * 2)++nu (j - i)++vs.drop (n * 2)).toArray:=by
 obtain ⟨ti,hti,hzz⟩:=Option.map_eq_some_iff.1 (show (Tryz.prog.info? 114).map (fun i=>i.size)=some 2 by kernel_rfl);have hul:((vs.drop (j * 2)).take ((n - j) * 2)).length=(n - j) * 2:=by rw [ay,be]; omega
 have ht:(vs.take (i * 2)).length=i * 2:=by rw [ay]; omega
 obtain ⟨W1,hW1⟩:∃W1,W1=w.drew.setRow g (vs.take (i * 2)++(vs.drop (j * 2)).take ((n - j) * 2)++vs.drop ((i+(n - j)) * 2)).toArray:=⟨_,rfl⟩;have hap:∀ty a k,(∀x v,((vs.drop (j * 2)).take ((n - j) * 2))[x]? = some v→w.drew.cell? (a.add x)=some v)→
   (Builtin.append_ #[46,46] ty #[.slice (some ⟨g,0,none⟩) i cap,.slice (some a) (n - j) k]).run Tryz.prog w.drew= .ok (.slice (some ⟨g,0,none⟩) (i+(n - j)) cap) W1:=fun ty a k hx=>by
  have:=Bi (P:=Tryz.prog) w.drew 46 ty 114 ti Tryz.underlying46 hti g i cap vs.toArray hrow a (n - j) k ((vs.drop (j * 2)).take ((n - j) * 2)) (by rw [hul,hzz]) hx (fun v hv=>h1 v (by rw [show (n - j) * 2=n * 2 - j * 2 by omega,←fW] at hv; exact jE hv)) (by omega) (by rw [hzz,hul]; simp; omega);rw [this,hW1,hzz,hul];simp only [List.toList_toArray,rh];rw [show i * 2+(n - j) * 2=(i+(n - j)) * 2 by omega]
 have hr1:W1.heap[g]? = some (.cells (vs.take (i * 2)++(vs.drop (j * 2)).take ((n - j) * 2)++vs.drop ((i+(n - j)) * 2)).toArray 114 (0,0)):=by
  rw [hW1];exact Ao w.drew g vs.toArray _ 114 (0,0) hrow
 have hau:(vs.take (i * 2)++(vs.drop (j * 2)).take ((n - j) * 2)).length=(i+(n - j)) * 2:=by rw [ai,ht,hul]; omega
 have hcl:∀ty c,(Builtin.clear_ #[46] ty #[.slice (some ⟨g,(i+(n - j)) * 2,none⟩) (n - (i+(n - j))) c]).run Tryz.prog W1= .ok (.tuple #[]) (W1.setRow g (vs.take (i * 2)++(vs.drop (j * 2)).take ((n - j) * 2)++nu (j - i)++vs.drop (n * 2)).toArray):=fun ty c=>by
  have hzl:=ol (j - i);unfold nu at hzl;have:=BU (Q:=Tryz.prog) W1 46 ty 114 g ((i+(n - j)) * 2) (j - i) c (Value.agg #[.int .i64 0,.slice none 0 0]) _ 114 (by omega) Tryz.underlying46 (fun w=>by kernel_rfl) hr1 (by rw [hzl,ai,hau,be]; omega) (fun v hv=>by
   exact Dh _ v hv)
  rw [hzl] at this;rw [show n - (i+(n - j))=j - i by omega,this]
  congr 3
  rw [←hau,DU,←da,jj,da,hau,show (i+(n - j)) * 2+(j - i) * 2=n * 2 by omega];rfl
 have hcell:∀(x:Nat) (v:Value),((vs.drop (j * 2)).take ((n - j) * 2))[x]? = some v→w.drew.cell? ((⟨g,j * 2,none⟩:Addr).add x)=some v:=fun x v hx=>by
  rw [dj];rw [aO] at hx;split at hx
  ·rw [bO] at hx;rw [fh w.drew g (j * 2+x) vs.toArray 114 (0,0) hrow,bJ];exact hx
  ·cases hx
 have hnil:cap=j→∀(x:Nat) (v:Value),((vs.drop (j * 2)).take ((n - j) * 2))[x]? = some v→w.drew.cell? ((⟨g,0,none⟩:Addr).add x)=some v:=fun e x v hx=>by
  rw [show (n - j) * 2=0 by omega,eU] at hx;cases hx
 have hWW:cap=j→W1=w.drew:=fun e=>by
  rw [hW1,show n - j=0 by omega,pN,eU,dI,np,lf];exact setRow_self w.drew g vs.toArray _ (0,0) hrow
 have hap1:=fun ty k=>hap ty ⟨g,j * 2,none⟩ k hcell;have hap2:=fun (e:cap=j) ty k=>hap ty ⟨g,0,none⟩ k (hnil e);rw [←hW1];have hmixed:Tryz.prog.follows Departure.mixedOrders=true:=by kernel_rfl
 have z1:¬((i:Int)=(j:Int)):=by omega
 have z2:(0:Int)≤(i:Int):=by omega
 have z3:(i:Int)≤(j:Int):=by omega
 have z4:(j:Int)≤(n:Int):=by omega
 have z5:¬(cap=i+(n - j)):=by omega
 have z6:i≤cap:=by omega
 have z7:j≤cap:=by omega
 have z8:i+(n - j)≤n:=by omega
 have z9:n≤cap:=hnc;have z10:¬(n=i):=by omega
 clear hW1 hul ht hr1 hau hap hcell hnil h1 hti hzz hcap hrow
 by_cases hcj:cap=j
 ·have hap3:=hap2 hcj
  clear hap1 hap2 hWW
  subst hcj;obtain rfl:n=cap:=by omega
  simp only [mh,np,pN,eU,dI] at hap3 hcl z5⊢
  go_enter Tryz.func253,Tryz.ntmps253
  go_wp2_with fail
  go_region_law_o (refine rP rfl (.tmp 22) (.tmp 25) 46 46 rfl (.slice (some ⟨g,0,none⟩) i n) (.slice (some ⟨g,0,none⟩) 0 0) (by simp [Act.eval,Act.put]) (by simp [Act.eval,Act.put]) (hap3 _ _) ?_)
  go_wp2_with (at_builtin; refine rN _ rfl _ 46 rfl _ rfl (hcl _ _) ?_)
  go_ret
  exact ⟨rfl,by simp only [aC]⟩
 ·clear hap2 hWW
  go_enter Tryz.func253,Tryz.ntmps253
  go_wp2_with fail
  go_region_law_o (refine rP rfl (.tmp 22) (.tmp 25) 46 46 rfl (.slice (some ⟨g,0,none⟩) i cap) (.slice (some ⟨g,j * 2,none⟩) (n - j) (cap - j)) (by simp [Act.eval,Act.put]) (by simp [Act.eval,Act.put]) (hap1 _ _) ?_)
  go_wp2_with (at_builtin; refine rN _ rfl _ 46 rfl _ rfl (hcl _ _) ?_)
  go_ret
  exact ⟨rfl,by simp only [aC]⟩
def jx (p0:List aa) (p1 p2:Int):Option (List aa):=if 0≤p1∧p1 < p2∧p2≤p0.length then some (p0.take p1.toNat++p0.drop p2.toNat) else none
theorem tP {c0:Cx} {G:Gm} {F:List En} {v0:Value} {u0:List Value} (p0:List aa) (p1 p2:Int) (O0:Own c0 G (es true az v0 114 u0 p0 :: F)) (h0:OA az c0 v0 u0 p0) {r:List aa} (H:jx p0 p1 p2=some r): Calls Tryz.prog 253 #[v0,.int .i64 p1,.int .i64 p2] c0.w (aT c0 fun c v=>∃y1:Value,∃y2:List Value,Own c G (es true az y1 114 y2 r :: F)∧v=y1∧OA az c y1 y2 r):=by
 unfold jx at H;split at H
 ·rename_i hc;obtain ⟨hc1,hc2,hc3⟩:=hc;obtain ⟨i,rfl⟩:∃i:Nat,p1=(i:Int):=⟨p1.toNat,by omega⟩;obtain ⟨j,rfl⟩:∃j:Nat,p2=(j:Int):=⟨p2.toNat,by omega⟩;rw [bR,bR] at H;obtain rfl:=bb H;obtain ⟨g,cap,rfl,a1,a2,a3,a4⟩:=h0.some (by omega);have hsz:az.size=2:=rfl;have hon0:=O0.on 0 rfl g rfl;have o0:=a4.ones (by decide);rw [hsz] at o0 a3;unfold maxLen at a2;have ht0:(u0.take (i * 2)).length=i * 2:=by rw [ay]; omega
  have htl:((u0.drop (j * 2)).take ((p0.length - j) * 2)).length=(p0.length - j) * 2:=by rw [ay,be]; omega
  have hrl:(p0.take i++p0.drop j).length=i+(p0.length - j):=by
   rw [ai,ay,be];omega
  have hAR:∀(c:Cx) (ts:List Value),c0.le c→AR az c (u0.take (i * 2)++(u0.drop (j * 2)).take ((p0.length - j) * 2)++ts) (p0.take i++p0.drop j):=fun c ts hle=>by
   have k0:AR az c (u0.take (i * 2)) (p0.take i):=(a4.take i).mono hle;have k1:AR az c ((u0.drop (j * 2)).take ((p0.length - j) * 2)) (p0.drop j):=by
    have:=((a4.drop j).take (p0.length - j)).mono hle;rwa [aK (l:=p0.drop j) (by rw [be]; exact aw _)] at this
   refine AR.more (AR.app k0 ?_ k1) ?_
   ·rw [ht0,ay,cq (by omega),hsz]
   ·rw [hrl,hsz,ai,ht0,htl];omega
  refine (Ff (vs:=u0) hon0.1 (by omega) (by omega) a1 a3 (by omega) o0).mono ?_;rintro e w' ⟨rfl,rfl⟩;have hd:=Cx.drew_le c0;obtain ⟨c2,f1,f2,f3,f4⟩:=Cx.row (c:=⟨c0.w.drew,c0.A,c0.t⟩) (l:=u0) (T:=114) (b:=g) (m:=u0.take (i * 2)++(u0.drop (j * 2)).take ((p0.length - j) * 2)++u0.drop ((i+(p0.length - j)) * 2)) hon0.1 0 hon0.2 (fun o ho=>by omega) 0 (aw _);have O2:=Own.set (O0.keep hd) 0 rfl f2 (fun b hb=>by rw [hb]; rfl) (e':=⟨.slice (some ⟨g,0,none⟩) p0.length cap,114,u0.take (i * 2)++(u0.drop (j * 2)).take ((p0.length - j) * 2)++u0.drop ((i+(p0.length - j)) * 2),0⟩) (fun b hb=>by
   simp only [blk,aM] at hb;subst hb;exact ⟨f3,f4⟩) (fun b hb=> .inl hb)
  obtain ⟨c3,g1,g2,g3,g4⟩:=Cx.row (c:=c2) (m:=u0.take (i * 2)++(u0.drop (j * 2)).take ((p0.length - j) * 2)++nu (j - i)++u0.drop (p0.length * 2)) (T:=114) (b:=g) f3 0 f4 (fun o ho=>by omega) 0 (aw _);have O3:=Own.set O2 0 rfl g2 (fun b hb=>by rw [hb]; rfl) (e':=es true az (.slice (some ⟨g,0,none⟩) (i+(p0.length - j)) cap) 114 (u0.take (i * 2)++(u0.drop (j * 2)).take ((p0.length - j) * 2)++nu (j - i)++u0.drop (p0.length * 2)) (p0.take i++p0.drop j)) (fun b hb=>by
   simp only [es,blk,aM] at hb;subst hb;exact ⟨g3,g4⟩) (fun b hb=> .inl hb)
  have hle:=hd.le.trans (f2.le.trans g2.le);refine ⟨_,c3,rfl,by rw [g1,f1],hle,_,_,O3,rfl,by decide,.inr ⟨g,cap,by rw [hrl],by rw [hrl]; omega,by unfold maxLen; exact a2,?_⟩,?_⟩
  ·rw [hsz,ai,ai,ai,ht0,htl,ol,be];omega
  ·rw [aC];exact hAR c3 _ hle
 ·cases H
end Go.Proofs.YtclmdpamofdoiaaGreatDoor
namespace Go.Proofs.YtclmdpamofdoiaaGreatDoor
open Go Go.Lt
set_option maxRecDepth 10000
set_option linter.unusedVariables false
attribute [local irreducible] W WL AC
open Tryz
variable {c0:Cx} {G:Gm} {F:List En} {sg:Sto} {v1 v2 v3 v4 v5 v6 v7 v8 v9 v10 v11 v12 v13 v14 v15 v16 v17 v18 v19 v20 v21 v22 v23 v24 v25 v26 v27 v28 v29 v30 v31 v32 v33 v34 v35 v36 v37 v38 v39 v40 v41 v42 v43 v44 v45 v46 v47 v48 v49 v50 v51 v52 v53 v54 v55 v56 v57 v58 v59 v60:Value}
def iW (p0:List aa) (p1:Int) (q0_0:Int):Option (List aa):=
 (em p1).bind fun c=>
 (jv p0 q0_0 c).bind fun d=>
 (slc d 0 (p0.length:Int)).bind fun a=>
 ((idx a (w64 ((p0.length:Int) - 1))).bind fun e=>
 if (e.Kind==2)=true then
 (idx a (w64 ((p0.length:Int) - 1))).bind fun g=>
 (nF a (w64 ((p0.length:Int) - 1)) (⟨0,([]:List Int)⟩:aa)).bind fun b=>
 some (b)
 else
 some (a)).bind fun f=>
 some f
theorem sZ {e:Value} {q:List Value} {p:Nat} (b:List aa) (o:Int) (q0_0:Int) (O0:Own c0 G (es true az e 114 q b :: F)) {r:List aa} (S:OA az c0 e q b) (m2:∀j u,([I q0_0]:List Value)[j]? = some u→Im c0 p (0+j) u) (H:iW b o q0_0=some r): Calls prog 249 #[e,I o,Q p] c0.w (aT c0 fun c v=>∃t y2,Own c G (es true az t 114 y2 r :: F)∧v=t∧OA az c t y2 r):=by
 unfold iW at H;refine en func249 rfl rfl (sr (va (Y) (wln (sr (va (e) (vx (lnO 3 eH S) (va (I (b.length:Int)) (wln (W.seq (rD [] (Kp G0 []) O0 ?_))))))))));intro c3 l3 O4;have p5:Kp G0 [] c3:=Kp.nil0;refine ta 0 (e) (tx 1 (fun c' i0=>l1 u_3 ((mm m2) 0 _ rfl)) (ta 2 (I o) (ta 5 (I (b.length:Int)) (bn H fun s h6 H=>o1 3 (gc 3 (jJ O4 o h6) ?_)))));rintro v7 M g1 ⟨_,u8,y,rfl,h9⟩;have k0:Kp G0 [] M:=Kp.nil0;refine ⟨.inr k0,?_⟩;have z:=y.sD 2 [1,0];refine bn H fun b1 U H=>o1 4 (gc 4 (tO b q0_0 s z S.m h9 U) ?_);rintro v19 h i1 ⟨_,m0,A,rfl,X⟩;have l0:Kp G0 [] h:=Kp.nil0;refine ⟨.inr l0,bn H fun c1 Z H=>?_⟩;obtain ⟨v30,a0,g,d⟩:=Own.cutH (k':= .i64) 0 A rfl eH X (by kernel_rfl) Z;refine AC.take 6 (v30) rfl (by kernel_rfl) (by kernel_rfl) (fun c' i0=>(rx (by kernel_rfl) (a0 _))) (ta 7 (v30) (dn (nrm (bn H fun n a x=>W.seqJ (Jn h fun c l=>∃v36 f,Own c G (es true az v36 114 f n :: F)∧l= [(0,v36)]∧OA az c v36 f n) ?_ ?_))))
 ·refine sr (va (v30) (va (I (b.length:Int)) (va (I (w64 ((b.length:Int) - 1))) (bn a fun k i a=>vx (ixO eH d i) (va (Qo (sb v30) ((w64 ((b.length:Int) - 1)).toNat * 2)) ?_)))));obtain ⟨y0,b0,j0⟩:=OA.at d i;obtain ⟨v42,rfl,f1⟩:=b0;refine vr (I k.Kind) (rx (by kernel_rfl) (ry u_3 rfl (g.on 0 rfl) (d.blk i) (at1 (j:=0) j0 rfl))) (va (B (k.Kind==2)) (wln (cn a (fun d0 a=>?_) (fun d0 a=>?_))))
  ·refine W.region (va (v30) (va (I (b.length:Int)) (va (I (w64 ((b.length:Int) - 1))) (va (.agg #[I 0,Y]) (bn a fun d1 e0 a=>vx (ixO eH d e0) (bn a fun a1 f0 a=>md (Own.stW (R:=az) (T:=114) (us:=[I 0,Y]) (x':=(⟨0,([]:List Int)⟩:aa)) (u:= .agg #[I 0,Y]) 0 g (by kernel_rfl) rfl d f0 rfl (by kernel_rfl) ⟨rfl,rfl,trivial⟩ rfl ⟨(Y),rfl,(Sl.nl _ _)⟩) ?_))))));rintro N j1 ⟨o0,D,g0⟩;refine wln ?_;obtain rfl:=si a;exact jn N ⟨v30,o0,D,rfl,g0⟩
  refine W.skip (nrm ?_);obtain rfl:=si a;exact jn h ⟨v30,m0,g,rfl,d⟩
 rintro e_ w_ ⟨P,e1,_,rfl,k1,rfl,v36,f,E,rfl,h0⟩;refine sr (vv (v36) (wln (W.ret ?_)));obtain rfl:=si x;exact r1 (qq P ⟨v36,f,E,rfl,h0⟩)
def jm (p0:List aa) (p1:Int):Option (List aa):=
 (bT (decide (p1 < (p0.length:Int))) ((idx p0 p1).bind fun d=>
 some (d.Kind==3))).bind fun c=>
 if c=true then
 (idx p0 (w64 (p1 - 1))).bind fun e=>
 (nF p0 (w64 (p1 - 1)) (⟨0,([]:List Int)⟩:aa)).bind fun a=>
 (idx a p1).bind fun f=>
 (nF a p1 (⟨0,([]:List Int)⟩:aa)).bind fun b=>
 some b
 else
 some p0
theorem oO {a:Value} {e:List Value} (f:List aa) (b:Int) (o:Own c0 G (es true az a 114 e f :: F)) {r:List aa} (d:OA az c0 a e f) (H:jm f b=some r): Calls prog 252 #[a,I b] c0.w (aT c0 fun c v=>∃U,Own c G (es true az a 114 U r :: F)∧v= .tuple #[]∧OA az c a U r):=by
 unfold jm at H;refine en func252 rfl rfl (W.seq (bn H fun y E H=>W.join (Jn c0 fun c l=>Own c G (es true az a 114 e f :: F)∧l= [(0,a),(1,I b),(15,B y)]) ?_ ?_))
 ·clear H;refine W.region (va (I b) (va (a) (vx (lnO 3 eH d) (va (B (decide (b < (f.length:Int)))) ?_))));rcases bo (decide (b < (f.length:Int))) with g | g
  ·have n:=anT g E;refine vb g (wa (a) (wa (I b) (wn (bn n fun h p n=>vx (ixO eH d p) (wa (Qo (sb a) (b.toNat * 2)) (wn ?_))))));obtain ⟨l0,X,Z⟩:=OA.at d p;obtain ⟨v9,rfl,h0⟩:=X;refine vr (I h.Kind) (rx (by kernel_rfl) (ry u_3 rfl (o.on 0 rfl) (d.blk p) (at1 (j:=0) Z rfl))) (wa (B (h.Kind==3)) ?_);obtain rfl:=si n;exact va (B (h.Kind==3)) (wln (jn c0 ⟨o,rfl⟩))
  obtain rfl:=anF g E;exact vb g (pz (pz (pz (va (B false) (wln (jn c0 ⟨o,rfl⟩))))))
 rintro e_ w_ ⟨t,g0,_,rfl,i0,rfl,i,rfl⟩;refine nrm (cn H (fun z H=>?_) (fun z H=>?_))
 ·refine W.region (va (a) (va (I b) (va (I (w64 (b - 1))) (va (a) (va (I b) (vv (.agg #[I 0,Y]) (bn H fun d0 A H=>vx (ixO eH d.m A) (bn H fun a0 D H=>md (Own.stW (R:=az) (T:=114) (us:=[I 0,Y]) (x':=(⟨0,([]:List Int)⟩:aa)) (u:= .agg #[I 0,Y]) 0 i (by kernel_rfl) rfl d.m D rfl (by kernel_rfl) ⟨rfl,rfl,trivial⟩ rfl ⟨(Y),rfl,(Sl.nl _ _)⟩) ?_))))))));rintro f0 j0 ⟨m0,q,k⟩;refine bn H fun e0 M H=>vx (ixO eH k M) (bn H fun b0 N H=>md (Own.stW (R:=az) (T:=114) (us:=[I 0,Y]) (x':=(⟨0,([]:List Int)⟩:aa)) (u:= .agg #[I 0,Y]) 0 q (by kernel_rfl) rfl k N rfl (by kernel_rfl) ⟨rfl,rfl,trivial⟩ rfl ⟨(Y),rfl,(Sl.nl _ _)⟩) ?_);rintro x k0 ⟨S,s,P⟩;refine WL.nil ?_;obtain rfl:=si H;exact n0 (qq x ⟨S,s,rfl,P⟩)
 refine W.skip ?_;obtain rfl:=si H;exact n0 (qq t ⟨e,i,rfl,d.m⟩)
def dW (sg:Sto) (p0:Option Nat) (p1:Int) (p2:Int) (p3_0_0:Int):Option (Sto):=
 (bN sg p0).bind fun a=>
 (orE (decide (p1 < 0)) (some (decide (p1≥a)))).bind fun g=>
 (orE g (some (decide (p2 < 1)))).bind fun b=>
 if b=true then
 some sg
 else
 (er sg p0).bind fun c=>
 (jm c p1).bind fun d=>
 (iW d (aL p2 (w64 (a - p1))) p3_0_0).bind fun e=>
 (dK sg p0 0 e).bind fun f=>
 some f.1
theorem mO {b3_0:Nat} (O0:Own c0 G F) (i:Rel c0 sg G) (hG:Gl [2,4] c0) (h:Option Nat) (a:Int) (d:Int) (p3_0_0:Int) {r:Sto} (t:Pt 0 c0 v1 h) (m3:∀j u,([I p3_0_0]:List Value)[j]? = some u→Im c0 b3_0 (0+j) u) (H:dW sg h a d p3_0_0=some r): Calls prog 248 #[v1,I a,I d,.func (.func 249) #[] #[Q b3_0]] c0.w (aT c0 fun c v=>∃G_:Gm,Own c G_ (F)∧Rel c r G_∧v= .tuple #[]):=by
 unfold dW at H;refine en func248 rfl rfl (sr (va (v1) (bn H fun b h4 H=>cl (cr O0 i h t h4) ?_)));rintro v10 k l9 ⟨q,rfl⟩;refine va (I b) (wln (W.seq (W.seq (bn H fun w0 o H=>bn H fun s g H=>W.join (Jn k fun c l=>Own c G (F)∧l= [(0,v1),(1,I a),(2,I d),(3,.func (.func 249) #[] #[Q b3_0]),(8,I b),(22,B s)]) ?_ ?_))))
 ·clear H;refine W.region (va (I a) (va (B (decide (a < 0))) ?_));rcases bo (decide (a < 0)) with e | e
  ·obtain rfl:=orT e o;refine vb e (pz (ps (va (B true) ?_)));have p:true=true:=rfl;obtain rfl:=orT p g;exact vb p (pz (va (B true) (wln (jn k ⟨q,rfl⟩))))
  have D:=orF e o;refine vb e (wa (I a) (wa (I b) (wa (B (decide (a≥b))) ?_)));obtain rfl:=si D;refine va (B (decide (a≥b))) ?_;rcases bo (decide (a≥b)) with f | f
  ·obtain rfl:=orT f g;exact vb f (pz (va (B true) (wln (jn k ⟨q,rfl⟩))))
  have E:=orF f g;refine vb f (wa (I d) (wa (B (decide (d < 1))) ?_));obtain rfl:=si E;exact va (B (decide (d < 1))) (wln (jn k ⟨q,rfl⟩))
 rintro e_ w_ ⟨X,x0,_,rfl,z0,rfl,n,rfl⟩;refine nrm (cn H (fun a0 H=>?_) (fun a0 H=>?_))
 ·refine W.ret (thr ?_);obtain rfl:=si H;exact r0 (qq X ⟨G,n,i.m,rfl⟩)
 refine W.skip (nrm (sr (va (v1) (bn H fun x b0 H=>cl (kW n i.m h t.m b0) ?_))));rintro v26 s0 a1 ⟨_,f1,M,rfl,d0⟩;refine va (v26) (wln (sr (va (v26) (va (I a) (bn H fun y e0 H=>cl (oO x a M d0 e0) ?_)))));rintro v44 t0 b1 ⟨g1,N,rfl,f0⟩;refine wln (W.region (va (v1) (va (.func (.func 249) #[] #[Q b3_0]) (va (v26) (va (I d) (va (I b) (va (I a) (va (I (w64 (b - a))) (va (I (aL d (w64 (b - a)))) (bn H fun z g0 H=>cl (sZ y (aL d (w64 (b - a))) p3_0_0 N f0 (mm m3) g0) ?_))))))))));rintro v47 u0 c1 ⟨_,h1,P,rfl,h0⟩;obtain ⟨v0,j0,d1,R,i0⟩:=P.frz 0 rfl h0;refine WL.gh j0 (bn H fun q0 k0 H=>cl (jA R i.m (hG.m.le (by decide)) h 0 z t.m i0 k0) ?_);rintro i1 Z e1 ⟨_,A,S,U,rfl,y0⟩;refine WL.nil ?_;obtain rfl:=si H;have T:=S.sD 1 [];exact n0 (qq Z ⟨A,T,U,rfl⟩)
def jV (sg:Sto) (p0:Option Nat) (p1:Int) (p2:Int):Option (Sto):=
 (dW sg p0 p1 p2 p1).bind fun a=>
 some a
theorem vn (j:Own c0 G F) (l:Rel c0 sg G) (hG:Gl [2,4] c0) (d:Option Nat) (a:Int) (b:Int) {r:Sto} (o:Pt 0 c0 v1 d) (H:jV sg d a b=some r): Calls prog 193 #[v1,I a,I b] c0.w (aT c0 fun c v=>∃G_:Gm,Own c G_ (F)∧Rel c r G_∧v= .tuple #[]):=by
 unfold jV at H;refine en func193 rfl rfl (sr (me (bx 3 [I a] j) ?_));rintro v7 t u ⟨n,rfl,k,h⟩;refine wln (W.region (va (v1) (vx (l1 u_3 (h 0 _ rfl)) (va (I b) (va (.func (.func 249) #[] #[Q n]) (bn H fun s p H=>cl (mO k l.m (hG.m.le (by decide)) d a b a o.m h p) ?_))))));rintro v14 g q ⟨i,e,f,rfl⟩;refine WL.nil ?_;obtain rfl:=si H;exact n0 (qq g ⟨i,e,f,rfl⟩)
def iX (p0:List aa) (p1:Int) (q0_0:Int):Option (List aa):=
 (jm p0 (w64 (q0_0+p1))).bind fun d=>
 (jx d q0_0 (w64 (q0_0+p1))).bind fun a=>
 (em p1).bind fun b=>
 (app a b).bind fun c=>
 some c
theorem s9 {b:Value} {f:List Value} {e:Nat} (d:List aa) (a:Int) (q0_0:Int) (P:Own c0 G (es true az b 114 f d :: F)) {r:List aa} (S:OA az c0 b f d) (g:∀j u,([I q0_0]:List Value)[j]? = some u→Im c0 e (0+j) u) (H:iX d a q0_0=some r): Calls prog 251 #[b,I a,Q e] c0.w (aT c0 fun c v=>∃h N,Own c G (es true az h 114 N r :: F)∧v=h∧OA az c h N r):=by
 unfold iX at H;refine en func251 rfl rfl (sr (va (Y) (wln (sr (va (b) (vx (l1 u_3 (g 0 _ rfl)) (va (I a) (va (I (w64 (q0_0+a))) (bn H fun M T H=>cl (oO d (w64 (q0_0+a)) P S T) ?_)))))))));rintro v12 b0 g0 ⟨u5,R,rfl,U⟩;refine wln (sr (va (b) (vx (l1 u_3 ((mm g) 0 _ rfl)) (vx (l1 u_3 ((mm g) 0 _ rfl)) (va (I a) (va (I (w64 (q0_0+a))) (bn H fun X q H=>cl (tP M q0_0 (w64 (q0_0+a)) R U q) ?_)))))));rintro v15 d0 h0 ⟨_,l0,i,rfl,s⟩;refine va (I a) (bn H fun Z t H=>cl (jJ i a t) ?_);rintro v25 e0 i0 ⟨_,m0,k,rfl,x⟩;obtain ⟨f0,z,j0,l,y⟩:=k.frz 0 rfl x;refine WL.gh z (bn H fun a0 A H=>me (ap az (.agg #[I 0,Y]) 32 46 1 l s.m y A eH) ?_);rintro v43 p k0 ⟨E,n,D⟩;refine va (v43) (wln (W.ret ?_));obtain rfl:=si H;have o:=n.sD 2 [1];exact r1 (qq p ⟨v43,E,o,rfl,D⟩)
def dX (sg:Sto) (p0:Option Nat) (p1:Int) (p2:Int) (p3_0_0:Int):Option (Sto):=
 (bN sg p0).bind fun a=>
 (orE (decide (p1 < 0)) (some (decide (p1≥a)))).bind fun g=>
 (orE g (some (decide (p2 < 1)))).bind fun b=>
 if b=true then
 some sg
 else
 (er sg p0).bind fun c=>
 (jm c p1).bind fun d=>
 (iX d (aL p2 (w64 (a - p1))) p3_0_0).bind fun e=>
 (dK sg p0 0 e).bind fun f=>
 some f.1
theorem mP {b3_0:Nat} (O0:Own c0 G F) (i:Rel c0 sg G) (hG:Gl [2,4] c0) (h:Option Nat) (a:Int) (d:Int) (p3_0_0:Int) {r:Sto} (t:Pt 0 c0 v1 h) (m3:∀j u,([I p3_0_0]:List Value)[j]? = some u→Im c0 b3_0 (0+j) u) (H:dX sg h a d p3_0_0=some r): Calls prog 248 #[v1,I a,I d,.func (.func 251) #[] #[Q b3_0]] c0.w (aT c0 fun c v=>∃G_:Gm,Own c G_ (F)∧Rel c r G_∧v= .tuple #[]):=by
 unfold dX at H;refine en func248 rfl rfl (sr (va (v1) (bn H fun b h4 H=>cl (cr O0 i h t h4) ?_)));rintro v10 k l9 ⟨q,rfl⟩;refine va (I b) (wln (W.seq (W.seq (bn H fun w0 o H=>bn H fun s g H=>W.join (Jn k fun c l=>Own c G (F)∧l= [(0,v1),(1,I a),(2,I d),(3,.func (.func 251) #[] #[Q b3_0]),(8,I b),(22,B s)]) ?_ ?_))))
 ·clear H;refine W.region (va (I a) (va (B (decide (a < 0))) ?_));rcases bo (decide (a < 0)) with e | e
  ·obtain rfl:=orT e o;refine vb e (pz (ps (va (B true) ?_)));have p:true=true:=rfl;obtain rfl:=orT p g;exact vb p (pz (va (B true) (wln (jn k ⟨q,rfl⟩))))
  have D:=orF e o;refine vb e (wa (I a) (wa (I b) (wa (B (decide (a≥b))) ?_)));obtain rfl:=si D;refine va (B (decide (a≥b))) ?_;rcases bo (decide (a≥b)) with f | f
  ·obtain rfl:=orT f g;exact vb f (pz (va (B true) (wln (jn k ⟨q,rfl⟩))))
  have E:=orF f g;refine vb f (wa (I d) (wa (B (decide (d < 1))) ?_));obtain rfl:=si E;exact va (B (decide (d < 1))) (wln (jn k ⟨q,rfl⟩))
 rintro e_ w_ ⟨X,x0,_,rfl,z0,rfl,n,rfl⟩;refine nrm (cn H (fun a0 H=>?_) (fun a0 H=>?_))
 ·refine W.ret (thr ?_);obtain rfl:=si H;exact r0 (qq X ⟨G,n,i.m,rfl⟩)
 refine W.skip (nrm (sr (va (v1) (bn H fun x b0 H=>cl (kW n i.m h t.m b0) ?_))));rintro v26 s0 a1 ⟨_,f1,M,rfl,d0⟩;refine va (v26) (wln (sr (va (v26) (va (I a) (bn H fun y e0 H=>cl (oO x a M d0 e0) ?_)))));rintro v44 t0 b1 ⟨g1,N,rfl,f0⟩;refine wln (W.region (va (v1) (va (.func (.func 251) #[] #[Q b3_0]) (va (v26) (va (I d) (va (I b) (va (I a) (va (I (w64 (b - a))) (va (I (aL d (w64 (b - a)))) (bn H fun z g0 H=>cl (s9 y (aL d (w64 (b - a))) p3_0_0 N f0 (mm m3) g0) ?_))))))))));rintro v47 u0 c1 ⟨_,h1,P,rfl,h0⟩;obtain ⟨v0,j0,d1,R,i0⟩:=P.frz 0 rfl h0;refine WL.gh j0 (bn H fun q0 k0 H=>cl (jA R i.m (hG.m.le (by decide)) h 0 z t.m i0 k0) ?_);rintro i1 Z e1 ⟨_,A,S,U,rfl,y0⟩;refine WL.nil ?_;obtain rfl:=si H;have T:=S.sD 1 [];exact n0 (qq Z ⟨A,T,U,rfl⟩)
def jW (sg:Sto) (p0:Option Nat) (p1:Int) (p2:Int):Option (Sto):=
 (dX sg p0 p1 p2 p1).bind fun a=>
 some a
theorem vp (j:Own c0 G F) (l:Rel c0 sg G) (hG:Gl [2,4] c0) (d:Option Nat) (a:Int) (b:Int) {r:Sto} (o:Pt 0 c0 v1 d) (H:jW sg d a b=some r): Calls prog 194 #[v1,I a,I b] c0.w (aT c0 fun c v=>∃G_:Gm,Own c G_ (F)∧Rel c r G_∧v= .tuple #[]):=by
 unfold jW at H;refine en func194 rfl rfl (sr (me (bx 3 [I a] j) ?_));rintro v7 t u ⟨n,rfl,k,h⟩;refine wln (W.region (va (v1) (vx (l1 u_3 (h 0 _ rfl)) (va (I b) (va (.func (.func 251) #[] #[Q n]) (bn H fun s p H=>cl (mP k l.m (hG.m.le (by decide)) d a b a o.m h p) ?_))))));rintro v14 g q ⟨i,e,f,rfl⟩;refine WL.nil ?_;obtain rfl:=si H;exact n0 (qq g ⟨i,e,f,rfl⟩)
def fQ (p0:List aa) (p1:Int):Option (List aa):=
 (cJ (σ:=(List aa)×Int) (τ:=(List aa)) (((p0.length:Int) - 0).toNat+1) (fun a=>
 if (decide (a.2 < (p0.length:Int)))=true then
 (idx p0 a.2).bind fun b=>
 ((bT (decide (p1 < (p0.length:Int))) ((idx p0 p1).bind fun g=>
 some (g.Kind==3))).bind fun d=>
 (bT d ((orE (a.2==p1) (some ((w64 (a.2+1))==p1))).bind fun f=>
 some f)).bind fun e=>
 if e=true then
 some (0,([]:List Int))
 else
 some (b.Kind,b.Text)).bind fun c=>
 (app a.1 ([(⟨c.1,c.2⟩:aa)]:List aa)).bind fun h=>
 some (.inl (h,(w64 (a.2+1))))
 else
 some (.inr (a.1))) (([]:List aa),0)).bind fun i=>
 some i
def jq (p0:List aa) (p1:Int) (p2:Int):Option ((List aa)×Bool):=
 (orE (decide (p1 < 0)) (some (decide (p1≥(p0.length:Int))))).bind fun l=>
 (orE l (some (decide (p2 < 1)))).bind fun h=>
 if h=true then
 some (p0,false)
 else
 (fQ p0 p1).bind fun c=>
 (cJ (σ:=(List aa)×Int) (τ:=(List aa)) (((p0.length:Int) - 0).toNat+1) (fun a=>
 if (decide (a.2 < (p0.length:Int)))=true then
 (if (decide (a.2 < p1))=true then
 (idx c a.2).bind fun d=>
 some (d.Kind,d.Text)
 else
 some (0,([]:List Int))).bind fun f=>
 (if (decide (a.2≥(w64 (p1+(aL p2 (w64 ((p0.length:Int) - p1)))))))=true then
 (idx c (w64 (a.2 - (aL p2 (w64 ((p0.length:Int) - p1)))))).bind fun e=>
 some (e.Kind,e.Text)
 else
 some (f.1,f.2)).bind fun b=>
 ((bT ((w64 (a.2+1))==(p0.length:Int)) (some (b.1==2))).bind fun i=>
 if i=true then
 some (0,([]:List Int))
 else
 some (b.1,b.2)).bind fun g=>
 (app a.1 ([(⟨g.1,g.2⟩:aa)]:List aa)).bind fun k=>
 some (.inl (k,(w64 (a.2+1))))
 else
 some (.inr (a.1))) (([]:List aa),0)).bind fun j=>
 some (j,true)
def jr (p0:List aa) (p1:Int) (p2:Int):Option ((List aa)×Bool):=
 (orE (decide (p1 < 0)) (some (decide (p1≥(p0.length:Int))))).bind fun j=>
 (orE j (some (decide (p2 < 1)))).bind fun f=>
 if f=true then
 some (p0,false)
 else
 (fQ p0 p1).bind fun h=>
 (fQ h (w64 (p1+(aL p2 (w64 ((p0.length:Int) - p1)))))).bind fun b=>
 (cJ (σ:=(List aa)×Int) (τ:=(List aa)) (((p0.length:Int) - 0).toNat+1) (fun a=>
 if (decide (a.2 < (p0.length:Int)))=true then
 (if (decide (a.2 < p1))=true then
 (idx b a.2).bind fun c=>
 some (c.Kind,c.Text)
 else
 if (decide ((w64 (a.2+(aL p2 (w64 ((p0.length:Int) - p1))))) < (p0.length:Int)))=true then
 (idx b (w64 (a.2+(aL p2 (w64 ((p0.length:Int) - p1)))))).bind fun d=>
 some (d.Kind,d.Text)
 else
 some (0,([]:List Int))).bind fun e=>
 (app a.1 ([(⟨e.1,e.2⟩:aa)]:List aa)).bind fun i=>
 some (.inl (i,(w64 (a.2+1))))
 else
 some (.inr (a.1))) (([]:List aa),0)).bind fun g=>
 some (g,true)
def iN (p0:Int) (p1:Int) (p2:Int) (p3:Int):Option (ah):=
 (fL (⟨p0,p1,false⟩:ah) p2 p3).bind fun a=>
 some a
theorem qZ (j:Own c0 G F) (b:Int) (d:Int) (e:Int) (f:Int) {r:ah} (H:iN b d e f=some r): Calls prog 121 #[I b,I d,I e,I f] c0.w (aT c0 fun c v=>Own c G (F)∧v= .agg #[I r.Row,I r.Col,B r.Pending]):=by
 unfold iN at H;refine en func121 rfl rfl (sr (me (al 29 [I 0,I 0,B false] j) ?_));rintro v4 s t ⟨q,rfl,k⟩;refine wln (sr (va (I b) (va (I d) (va (.agg #[I b,I d,B false]) (va (I e) (va (I f) (bn H fun a m H=>cl (eo k (⟨b,d,false⟩:ah) e f m) ?_)))))));rintro v11 n o ⟨l,rfl⟩;refine md (sA 29 [I a.Row,I a.Col,B a.Pending] 0 l ⟨rfl,rfl,rfl,trivial⟩) ?_;rintro h p g;refine wln (W.ret ?_);obtain rfl:=si H;have i:=g.sD 1 [];exact rV (c:=h) (vs:=[I a.Row,I a.Col,B a.Pending]) rfl (by kernel_rfl) (by kernel_rfl) (by kernel_rfl) (g.on 0 rfl _ rfl).1 ⟨_,h,rfl,rfl,pt,i,rfl⟩
def oq (p0:List aa) (p1:Int):Option (List aa):=
 (slc p0 0 p1).bind fun a=>
 ((bT (decide (p1 > 0)) ((idx a (w64 (p1 - 1))).bind fun d=>
 some (d.Kind==2))).bind fun b=>
 if b=true then
 (idx a (w64 (p1 - 1))).bind fun f=>
 (nF a (w64 (p1 - 1)) (⟨0,([]:List Int)⟩:aa)).bind fun c=>
 some (c)
 else
 some (a)).bind fun e=>
 some e
theorem BX {h:Value} {f:List Value} (x:List aa) (a:Int) (O0:Own c0 G (es true az h 114 f x :: F)) {r:List aa} (h1:OA az c0 h f x) (H:oq x a=some r): Calls prog 185 #[h,I a] c0.w (aT c0 fun c v=>∃y y2,Own c G (es true az y 114 y2 r :: F)∧v=y∧OA az c y y2 r):=by
 unfold oq at H;refine en func185 rfl rfl (sr (va (Y) (wln (sr (va (h) (vv (I a) (bn H fun d0 h2 H=>?_)))))));obtain ⟨v3,h4,s,i⟩:=Own.cutHM (k2:= .i64) (k':= .i64) 0 O0 rfl eH h1 (by kernel_rfl) h2;refine vr v3 (rx (by kernel_rfl) (h4 _)) (va (v3) (wln (bn H fun q b H8=>W.seqJ (Jn c0 fun c l=>∃v9 g,Own c G (es true az v9 114 g q :: F)∧l= [(0,v9)]∧OA az c v9 g q) ?_ ?_)))
 ·refine W.seq (bn b fun t p b=>W.join (Jn c0 fun c l=>Own c G (es true az v3 114 f d0 :: F)∧l= [(0,v3),(1,I a),(19,B t)]) ?_ ?_)
  ·clear b;refine W.region (va (I a) (va (B (decide (a > 0))) ?_));rcases bo (decide (a > 0)) with d | d
   ·have k:=anT d p;refine vb d (wa (v3) (wa (I a) (wa (I (w64 (a - 1))) (wn (bn k fun e n k=>vx (ixO eH i n) (wa (Qo (sb v3) ((w64 (a - 1)).toNat * 2)) (wn ?_)))))));obtain ⟨l0,N,a0⟩:=OA.at i n;obtain ⟨v18,rfl,u0⟩:=N;refine vr (I e.Kind) (rx (by kernel_rfl) (ry u_3 rfl (s.on 0 rfl) (i.blk n) (at1 (j:=0) a0 rfl))) (wa (B (e.Kind==2)) ?_);obtain rfl:=si k;exact va (B (e.Kind==2)) (wln (jn c0 ⟨s,rfl⟩))
   obtain rfl:=anF d p;exact vb d (pz (pz (pz (ps (va (B false) (wln (jn c0 ⟨s,rfl⟩)))))))
  rintro e_ w_ ⟨D,s0,_,rfl,v0,rfl,o,rfl⟩;refine nrm (cn b (fun P b=>?_) (fun P b=>?_))
  ·refine W.region (va (v3) (va (I a) (va (I (w64 (a - 1))) (va (.agg #[I 0,Y]) (bn b fun q0 S b=>vx (ixO eH i.m S) (bn b fun o0 U b=>md (Own.stW (R:=az) (T:=114) (us:=[I 0,Y]) (x':=(⟨0,([]:List Int)⟩:aa)) (u:= .agg #[I 0,Y]) 0 o (by kernel_rfl) rfl i.m U rfl (by kernel_rfl) ⟨rfl,rfl,trivial⟩ rfl ⟨(Y),rfl,(Sl.nl _ _)⟩) ?_))))));rintro E w0 ⟨b0,z,X⟩;refine wln ?_;obtain rfl:=si b;exact jn E ⟨v3,b0,z,rfl,X⟩
  refine W.skip (nrm ?_);obtain rfl:=si b;exact jn D ⟨v3,f,o,rfl,i.m⟩
 rintro e_ w_ ⟨M,t0,_,rfl,x0,rfl,v9,g,A,rfl,Z⟩;refine sr (vv (v9) (wln (W.ret ?_)));obtain rfl:=si H8;exact r1 (qq M ⟨v9,g,A,rfl,Z⟩)
def sn (sg:Sto) (p0:List aa):Option (Sto×(Option Nat)):=
 (qc sg p0).bind fun a=>
 if (!a.2.2.isNil)=true then
 some (a.1,(none:Option Nat))
 else
 some (a.1,a.2.1)
theorem DE (l:Own c0 G F) (m:Rel c0 sg G) (hG:Gl [2,4] c0) (f:List aa) {r:Sto×(Option Nat)} (o:Sl az c0 v1 f) (H:sn sg f=some r): Calls prog 186 #[v1] c0.w (aT c0 fun c v=>∃k,∃G_:Gm,Own c G_ (F)∧Rel c r.1 G_∧v=k∧Pt 0 c k r.2):=by
 unfold sn at H;refine en func186 rfl rfl (sr (va (.pointer none) (wln (sr (va (v1) (bn H fun j p H=>cl (DC l m (hG.le (by decide)) f o p) ?_))))));rintro v13 e t ⟨v4,v6,g,h,d,rfl,q,s⟩;refine va (.tuple #[v4,v6]) (va (v4) (va (v6) (va (v4) (va (v6) (wln (W.seq (sr (va (v6) (vr (B (!j.2.2.isNil)) (by rcases (s).cs with ⟨a,b⟩ | ⟨n,a,b⟩ | ⟨n,a,b⟩ <;> (subst a; rw [b]; kernel_rfl)) (wln (cn H (fun i H=>?_) (fun i H=>?_))))))))))))
 ·refine sr (va (.pointer none) (wln (W.ret (thr ?_))));obtain rfl:=si H;exact r1 (qq e ⟨(.pointer none),g,h,d,rfl,rfl⟩)
 refine W.skip (nrm (sr (vv (v4) (wln (W.ret ?_)))));obtain rfl:=si H;exact r1 (qq e ⟨v4,g,h,d,rfl,q⟩)
def js (sg:Sto) (p0:Option Nat) (p1:Int):Option (Sto×(Option Nat)):=
 if p0.isNone=true then
 some (sg,(none:Option Nat))
 else
 (er sg p0).bind fun c=>
 (bN sg p0).bind fun d=>
 (oq c (aL (aV 1 (aL p1 1024)) d)).bind fun a=>
 (em (w64 ((aV 1 (aL p1 1024)) - (a.length:Int)))).bind fun e=>
 (app a e).bind fun f=>
 (sn sg f).bind fun b=>
 some (b.1,b.2)
theorem xp (o:Own c0 G F) (f:Rel c0 sg G) (hG:Gl [2,4] c0) (b:Option Nat) (a:Int) {r:Sto×(Option Nat)} (j:Pt 0 c0 v1 b) (H:js sg b a=some r): Calls prog 120 #[v1,I a] c0.w (aT c0 fun c v=>∃y1,∃G_:Gm,Own c G_ (F)∧Rel c r.1 G_∧v=y1∧Pt 0 c y1 r.2):=by
 unfold js at H;refine en func120 rfl rfl (sr (va (.pointer none) (wln (W.seq (sr (va (v1) (vr (B b.isNone) (by rcases (j).cs with ⟨g,i⟩ | ⟨b_,g,i⟩ <;> (subst g; rw [i]; kernel_rfl)) (wln (cn H (fun h3 H=>?_) (fun h3 H=>?_))))))))))
 ·refine sr (va (.pointer none) (wln (W.ret (thr ?_))));obtain rfl:=si H;exact r1 (qq c0 ⟨(.pointer none),G,o,f,rfl,rfl⟩)
 refine W.skip (nrm (sr (va (I a) (va (I (aL a 1024)) (vv (I (aV 1 (aL a 1024))) (wln (sr (va (v1) (bn H fun k h4 H=>cl (kW o f b j h4) ?_)))))))));rintro v5 k0 u0 ⟨_,u6,O9,rfl,h7⟩;refine va (I (aV 1 (aL a 1024))) (va (v1) (bn H fun d E H=>cl (cr O9 f.m b j.m E) ?_));rintro v20 l0 v0 ⟨p,rfl⟩;refine va (I (aL (aV 1 (aL a 1024)) d)) (bn H fun e M H=>cl (BX k (aL (aV 1 (aL a 1024)) d) p h7.m M) ?_);rintro v23 m0 w0 ⟨_,c1,q,rfl,h⟩;refine va (v23) (wln (sr (va (v23) (va (I (aV 1 (aL a 1024))) (va (v23) (vx (lnO 3 eH h) (va (I (w64 ((aV 1 (aL a 1024)) - (e.length:Int)))) (bn H fun i0 N H=>cl (jJ q (w64 ((aV 1 (aL a 1024)) - (e.length:Int))) N) ?_))))))));rintro v33 o0 x0 ⟨_,d1,s,rfl,P⟩;obtain ⟨q0,S,y0,t,R⟩:=s.frz 0 rfl P;refine WL.gh S (bn H fun l T H=>me (ap az (.agg #[I 0,Y]) 32 46 1 t h.m R T eH) ?_);rintro v51 s0 z0 ⟨e1,u,U⟩;obtain ⟨t0,Z,a1,x,X⟩:=u.frz 1 rfl U;refine WL.gh Z (bn H fun j0 a0 H=>cl (DE x f.m (hG.m.le (by decide)) l X a0) ?_);rintro v57 D b1 ⟨_,n,y,A,rfl,b0⟩;refine va (v57) (wln (W.ret ?_));obtain rfl:=si H;have z:=y.sD 2 [];exact r1 (qq D ⟨v57,n,z,A,rfl,b0⟩)
def kJ (sg:Sto) (p0:Option Nat) (p1:Int) (p2:Int):Option (Sto):=
 (orE p0.isNone ((p0).bind fun u=>
 (sg.place_Pen[u]?).bind fun v=>
 some v.G.isNone)).bind fun t=>
 if t=true then
 some sg
 else
 (p0).bind fun l=>
 (sg.place_Pen[l]?).bind fun e=>
 (bX sg e.G).bind fun o=>
 (bL sg e.G).bind fun p=>
 (fL e.At o p).bind fun b=>
 (mu sg (aV 1 (aL p1 1024)) (aV 1 (aL p2 1024))).bind fun c=>
 (cJ (σ:=Int×Sto) (τ:=Sto) (((aV 1 (aL p2 1024)) - 0).toNat+1) (fun a=>
 if (decide (a.1 < (aV 1 (aL p2 1024))))=true then
 ((p0).bind fun m=>
 (a.2.place_Pen[m]?).bind fun n=>
 (bv a.2 n.G (w64 ((aV 0 (w64 ((w64 (b.Row - (aV 1 (aL p2 1024))))+1)))+a.1))).bind fun j=>
 if (!j.isNone)=true then
 (js a.2 j (aV 1 (aL p1 1024))).bind fun k=>
 (eu k.1 c.2 a.1 k.2).bind fun q=>
 some (q.1)
 else
 some (a.2)).bind fun s=>
 some (.inl ((w64 (a.1+1)),s))
 else
 some (.inr (a.2))) (0,c.1)).bind fun i=>
 (p0).bind fun d=>
 (i.place_Pen[d]?).bind fun f=>
 (i.set_place_Pen d (⟨c.2,f.At,f.Auto⟩:bj)).bind fun h=>
 (iN (w64 (b.Row - (aV 0 (w64 ((w64 (b.Row - (aV 1 (aL p2 1024))))+1))))) b.Col (aV 1 (aL p1 1024)) (aV 1 (aL p2 1024))).bind fun r=>
 (h.set_place_Pen d (⟨c.2,r,f.Auto⟩:bj)).bind fun g=>
 some g
theorem vP (O0:Own c0 G F) (z:Rel c0 sg G) (hG:Gl [2,4] c0) (p0:Option Nat) (o:Int) (b:Int) {r:Sto} (h2:Pt 2 c0 v1 p0) (H:kJ sg p0 o b=some r): Calls prog 75 #[v1,I o,I b] c0.w (aT c0 fun c v=>∃G_:Gm,Own c G_ (F)∧Rel c r G_∧v= .tuple #[]):=by
 unfold kJ at H;refine en func75 rfl rfl (W.seq (W.seq (bn H fun q5 h3 H=>W.join (Jn c0 fun c l=>Own c G (F)∧l= [(0,v1),(1,I o),(2,I b),(19,B q5)]) ?_ ?_)))
 ·clear H;refine W.region (va (v1) (vr (B p0.isNone) (by rcases (h2).cs with ⟨t,u⟩ | ⟨b_,t,u⟩ <;> (subst t; rw [u]; kernel_rfl)) ?_));rcases bo (p0.isNone) with h4 | h4
  ·obtain rfl:=orT h4 h3;exact vb h4 (pz (pz (ps (va (B true) (wln (jn c0 ⟨O0,rfl⟩))))))
  have H5:=orF h4 h3;refine vb h4 (wa (v1) (wn (bn H5 fun g8 h8 H5=>?_)));obtain ⟨b6,rfl,h7⟩:=(h2).get h8;refine va (Q b6) (wa (Q b6) (wn (bn H5 fun k2 h9 H5=>?_)));obtain ⟨v10,t5,s5⟩:=Rel.open_place_Pen z h9 h7;refine vx (le1 0 eJ (O0.gon t5 0 rfl)) (wn (vr (B k2.G.isNone) (by rcases (s5).cs with ⟨t,u⟩ | ⟨b_,t,u⟩ <;> (subst t; rw [u]; kernel_rfl)) ?_));obtain rfl:=si H5;exact va (B k2.G.isNone) (wln (jn c0 ⟨O0,rfl⟩))
 rintro e_ w_ ⟨c2,f8,_,rfl,Z,rfl,m1,rfl⟩;refine nrm (cn H (fun u5 H=>?_) (fun u5 H=>?_))
 ·refine W.ret (thr ?_);obtain rfl:=si H;exact r0 (qq c2 ⟨G,m1,z.m,rfl⟩)
 refine W.skip (nrm (sr (va (I o) (va (I (aL o 1024)) (va (I (aV 1 (aL o 1024))) (va (I b) (va (I (aL b 1024)) (va (I (aV 1 (aL b 1024))) (va (I (aV 1 (aL o 1024))) (va (I (aV 1 (aL b 1024))) (wln (W.seq (bn H fun i7 v5 H=>bn H fun h w5 H=>bn H fun D g2 H=>bn H fun E x0 H=>bn H fun a X H=>W.join (Jn c2 fun c l=>∃n,Own c G ((Eb n 29 [I a.Row,I a.Col,B a.Pending]) :: F)∧l= [(0,v1),(1,I (aV 1 (aL o 1024))),(2,I (aV 1 (aL b 1024))),(6,Q n)]) ?_ ?_)))))))))))))
 ·clear H;refine rD [] (Kp G []) m1 ?_;intro g5 j2 k0;have f1:Kp G [] g5:=(Kp.nil k0);refine ta 0 (v1) ?_;obtain ⟨s,rfl,y5⟩:=((h2.mono (Z.trans j2))).get v5;refine ta 1 (Q s) (ta 2 (Qo s 1) ?_);obtain ⟨v31,y0,M⟩:=Rel.open_place_Pen (z.mono (Z.trans j2)) w5 y5;refine tkx 3 f1 (fun c' i2 hk=>leN 29 1 [I h.At.Row,I h.At.Col,B h.At.Pending] (hk.gon y0 0 rfl)) (ta 4 (Q s) (ta 5 (Q s) (ta 6 (Q s) (tkx 7 f1 (fun c' i2 hk=>le1 0 eJ (hk.gon y0 0 rfl)) (ta 9 (Q s) (ta 10 (Q s) (ta 11 (Q s) (tkx 12 f1 (fun c' i2 hk=>le1 0 eJ (hk.gon y0 0 rfl)) (mn2 8 15 ?_ ?_)))))))))
  ·refine gc 8 (cC k0 z.m h.G M g2) ?_;rintro v39 h5 i8 ⟨l0,rfl⟩;have z5:Kp G [] h5:=(Kp.nil l0);refine ⟨.inr z5,mn2 13 15 ?_ ?_⟩
   ·refine gc 13 (bF l0 z.m h.G M.m x0) ?_;rintro v46 i5 j8 ⟨m0,rfl⟩;have a6:Kp G [] i5:=(Kp.nil m0);refine ⟨.inr a6,mn2 14 15 ?_ ?_⟩
    ·refine gc 14 (eo m0 h.At D E X) ?_;rintro v53 j5 k8 ⟨n1,rfl⟩;have c6:Kp G [] j5:=(Kp.nil n1);refine ⟨.inr c6,o1 15 (gm 15 (al 29 [I 0,I 0,B false] n1) ?_)⟩;rintro v58 k5 l8 ⟨a5,rfl,q1⟩;have d6:Kp G [] k5:=(Kp.nil q1);refine ⟨.inr d6,o1 16 (gD 16 (sA 29 [I a.Row,I a.Col,B a.Pending] 0 q1 ⟨rfl,rfl,rfl,trivial⟩) ?_)⟩;rintro d2 m8 s1;have e6:Kp G [] d2:=(Kp.nil s1);exact ⟨.inr e6,dn (nrm (jn d2 ⟨a5,s1,rfl⟩))⟩
    refine gm 15 (al 29 [I 0,I 0,B false] m0) ?_;rintro u8 l5 n8 ⟨c5,rfl,t1⟩;have f6:Kp G [] l5:=(Kp.nil t1);refine ⟨.inr f6,o1 14 (gc 14 (eo t1 h.At D E X) ?_)⟩;rintro v8 m5 o8 ⟨u1,rfl⟩;have g6:Kp G [] m5:=(Kp.nil u1);refine ⟨.inr g6,o1 16 (gD 16 (sA 29 [I a.Row,I a.Col,B a.Pending] 0 u1 ⟨rfl,rfl,rfl,trivial⟩) ?_)⟩;rintro e2 p8 w1;have h6:Kp G [] e2:=(Kp.nil w1);exact ⟨.inr h6,dn (nrm (jn e2 ⟨c5,w1,rfl⟩))⟩
   refine gm 15 (al 29 [I 0,I 0,B false] l0) ?_;rintro w8 n5 q8 ⟨d5,rfl,x1⟩;have i6:Kp G [] n5:=(Kp.nil x1);refine ⟨.inr i6,o1 13 (gc 13 (bF x1 z.m h.G M.m x0) ?_)⟩;rintro x8 o5 r8 ⟨y1,rfl⟩;have j6:Kp G [] o5:=(Kp.nil y1);refine ⟨.inr j6,o1 14 (gc 14 (eo y1 h.At D E X) ?_)⟩;rintro y8 p5 s8 ⟨z1,rfl⟩;have k6:Kp G [] p5:=(Kp.nil z1);refine ⟨.inr k6,o1 16 (gD 16 (sA 29 [I a.Row,I a.Col,B a.Pending] 0 z1 ⟨rfl,rfl,rfl,trivial⟩) ?_)⟩;rintro f2 t8 b2;have l6:Kp G [] f2:=(Kp.nil b2);exact ⟨.inr l6,dn (nrm (jn f2 ⟨d5,b2,rfl⟩))⟩
  refine gm 15 (al 29 [I 0,I 0,B false] k0) ?_;rintro v7 l3 l7 ⟨k3,rfl,d0⟩;have q4:Kp G [] l3:=(Kp.nil d0);refine ⟨.inr q4,o1 8 (gc 8 (cC d0 z.m h.G M.m g2) ?_)⟩;rintro w7 m3 m7 ⟨e0,rfl⟩;have r4:Kp G [] m3:=(Kp.nil e0);refine ⟨.inr r4,o1 13 (gc 13 (bF e0 z.m h.G M.m x0) ?_)⟩;rintro x7 n3 n7 ⟨f0,rfl⟩;have s4:Kp G [] n3:=(Kp.nil f0);refine ⟨.inr s4,o1 14 (gc 14 (eo f0 h.At D E X) ?_)⟩;rintro y7 o3 o7 ⟨g0,rfl⟩;have t4:Kp G [] o3:=(Kp.nil g0);refine ⟨.inr t4,o1 16 (gD 16 (sA 29 [I a.Row,I a.Col,B a.Pending] 0 g0 ⟨rfl,rfl,rfl,trivial⟩) ?_)⟩;rintro s0 p7 h0;have u4:Kp G [] s0:=(Kp.nil h0);exact ⟨.inr u4,dn (nrm (jn s0 ⟨k3,h0,rfl⟩))⟩
 rintro e_ w_ ⟨t6,y6,_,rfl,b1,rfl,n,i0,rfl⟩;refine nrm (sr (va (Q n) (vx (le1 0 u_3 (i0.on 0 rfl)) (va (I (aV 1 (aL b 1024))) (va (I (w64 (a.Row - (aV 1 (aL b 1024))))) (va (I (w64 ((w64 (a.Row - (aV 1 (aL b 1024))))+1))) (vv (I (aV 0 (w64 ((w64 (a.Row - (aV 1 (aL b 1024))))+1)))) (wln (sr (va (I (aV 1 (aL o 1024))) (va (I (aV 1 (aL b 1024))) (bn H fun w4 u3 H=>cl (vA i0 z.m (aV 1 (aL o 1024)) (aV 1 (aL b 1024)) u3) ?_))))))))))));rintro q R c1 ⟨_,l2,t2,d3,q6,rfl,y⟩;refine va (q) (wln (W.seq (sr (va (I (aV 1 (aL b 1024))) (va (I 0) (wln (W.block (bn H fun u7 u0 g=>lp u0 (fun f=>Jn R fun c l=>∃G_,Own c G_ ((Eb n 29 [I a.Row,I a.Col,B a.Pending]) :: F)∧l= [(0,v1),(1,I (aV 1 (aL o 1024))),(2,I (aV 1 (aL b 1024))),(6,Q n),(7,I (aV 0 (w64 ((w64 (a.Row - (aV 1 (aL b 1024))))+1)))),(8,q),(50,I (aV 1 (aL b 1024))),(51,I f.1)]∧Rel c f.2 G_) (fun i1 ex e w=>ex= .exit 0∧(Jn R fun c l=>∃G_,Own c G_ ((Eb n 29 [I a.Row,I a.Col,B a.Pending]) :: F)∧l= [(0,v1),(1,I (aV 1 (aL o 1024))),(2,I (aV 1 (aL b 1024))),(6,Q n),(7,I (aV 0 (w64 ((w64 (a.Row - (aV 1 (aL b 1024))))+1)))),(8,q)]∧Rel c i1 G_) e w) ?_ ?_ ?_))))))))
 ·clear g u0;intro f z8 r5 m6 H;revert r5 m6;rintro e_ w_ ⟨t0,z6,_,rfl,o4,rfl,a0,N,rfl,x⟩;refine sr (va (B (decide (f.1 < (aV 1 (aL b 1024))))) (wln (W.seq (cn H (fun v3 H=>?_) (fun v3 H=>?_)))))
  ·refine W.skip (nrm (bn H fun y4 d q2=>W.seqJ (Jn t0 fun c l=>∃G_,Own c G_ ((Eb n 29 [I a.Row,I a.Col,B a.Pending]) :: F)∧l= [(0,v1),(1,I (aV 1 (aL o 1024))),(2,I (aV 1 (aL b 1024))),(6,Q n),(7,I (aV 0 (w64 ((w64 (a.Row - (aV 1 (aL b 1024))))+1)))),(8,q),(50,I (aV 1 (aL b 1024))),(51,I f.1)]∧Rel c y4 G_) ?_ ?_))
   ·refine W.block (sr (vv (I f.1) (wln (sr (va (v1) (bn d fun j7 x3 d=>?_))))));obtain ⟨q0,rfl,w3⟩:=((h2.mono (Z.trans (b1.trans (c1.trans o4))))).get x3;refine vv (Q q0) (bn d fun p4 y3 d=>?_);obtain ⟨z7,a4,z3⟩:=Rel.open_place_Pen x y3 w3;refine vx (le1 0 eJ (N.gon a4 0 rfl)) (va (I (aV 0 (w64 ((w64 (a.Row - (aV 1 (aL b 1024))))+1)))) (va (I f.1) (va (I (w64 ((aV 0 (w64 ((w64 (a.Row - (aV 1 (aL b 1024))))+1)))+f.1))) (bn d fun g1 b4 d=>cl (cM N x p4.G (w64 ((aV 0 (w64 ((w64 (a.Row - (aV 1 (aL b 1024))))+1)))+f.1)) z3 b4) ?_))));rintro U p3 q7 ⟨_,j0,rfl,v0⟩;refine va (U) (wln (sr (va (U) (vr (B (!g1.isNone)) (by rcases (v0).cs with ⟨t,u⟩ | ⟨b_,t,u⟩ <;> (subst t; rw [u]; kernel_rfl)) (wln (cn d (fun c4 d=>?_) (fun c4 d=>?_)))))))
    ·refine W.region (va (q) (va (I f.1) (va (U) (va (I (aV 1 (aL o 1024))) (bn d fun x4 d4 d=>cl (xp j0 x.m (hG.m.le (by decide)) g1 (aV 1 (aL o 1024)) v0 d4) ?_)))));rintro a8 u6 r7 ⟨_,n6,u2,e3,rfl,e4⟩;refine bn d fun e8 f4 d=>cl (pf u2 e3 w4.2 f.1 x4.2 y.m e4 f4) ?_;rintro b8 q3 s7 ⟨m2,v2,f3,rfl⟩;refine WL.nil (bkn (nrm ?_));obtain rfl:=si d;exact jn q3 ⟨m2,v2,rfl,f3⟩
    refine W.skip (bkn (nrm ?_));obtain rfl:=si d;exact jn p3 ⟨a0,j0,rfl,x.m⟩
   rintro e_ w_ ⟨s3,a7,_,rfl,t7,rfl,n2,w2,rfl,g3⟩;refine W.region (vv (I (w64 (f.1+1))) (WL.nil ?_));obtain rfl:=si q2;exact ⟨_,rfl,jn s3 ⟨n2,w2,rfl,g3⟩⟩
  refine W.exit (thx ?_);obtain rfl:=si H;exact ⟨_,rfl,rfl,jn t0 ⟨a0,N,rfl,x⟩⟩
 ·exact jn R ⟨l2,t2,rfl,d3⟩
 rintro _ e_ w_ ⟨rfl,v6,b7,_,rfl,A,rfl,o6,x2,rfl,o0⟩;refine bke (nrm (sr (va (v1) (va (q) (bn g fun k7 g4 g=>?_)))));obtain ⟨j,rfl,S⟩:=((h2.mono (Z.trans (b1.trans (c1.trans A))))).get g4;refine vv (Q j) ?_;obtain ⟨p,rfl⟩:=((y.mono A)).form;refine bn g fun i i4 g=>?_;obtain ⟨c8,j4,c7⟩:=Rel.open_place_Pen o0 i4 S;refine md (gC 124 0 (.pointer p) [.pointer p,I i.At.Row,I i.At.Col,B i.At.Pending,B i.Auto] 0 x2 j4 ⟨y.m.one,trivial⟩) ?_;rintro w6 T y2;refine bn g fun z4 l4 g=>?_;obtain ⟨p6,P,i3,k4,r6⟩:=Rel.put_place_Pen y2 (o0.mono T) (E':=[(Eb j 126 [.pointer p,I i.At.Row,I i.At.Col,B i.At.Pending,B i.Auto])]) l4 ⟨j,(.pointer p),(tm S),rfl,(y.mono (A.trans T))⟩;refine wln (W.region (va (Q j) (va (Q n) (vx (le1 0 u_3 (P.on 0 rfl)) (va (I (aV 0 (w64 ((w64 (a.Row - (aV 1 (aL b 1024))))+1)))) (va (I (w64 (a.Row - (aV 0 (w64 ((w64 (a.Row - (aV 1 (aL b 1024))))+1)))))) (va (Qo n 1) (vx (le1 1 u_3 (P.on 0 rfl)) (va (I (aV 1 (aL o 1024))) (va (I (aV 1 (aL b 1024))) (bn g fun k m4 g=>cl (qZ P (w64 (a.Row - (aV 0 (w64 ((w64 (a.Row - (aV 1 (aL b 1024))))+1))))) a.Col (aV 1 (aL o 1024)) (aV 1 (aL b 1024)) m4) ?_)))))))))));rintro d8 x6 d1 ⟨z2,rfl⟩;refine va (Q j) (va (Qo j 1) (md (gB 29 1 [I k.Row,I k.Col,B k.Pending] [.pointer p,I k.Row,I k.Col,B k.Pending,B i.Auto] 0 z2 k4 ⟨rfl,rfl,rfl,trivial⟩) ?_));rintro t3 e1 a3;refine bn g fun v4 n4 g=>?_;obtain ⟨o2,b3,j3,d7,s6⟩:=Rel.put_place_Pen a3 (i3.mono (d1.trans e1)) (E':=[(Eb j 126 [.pointer p,I k.Row,I k.Col,B k.Pending,B i.Auto])]) n4 ⟨j,(.pointer p),(tm S),rfl,(y.mono (A.trans (T.trans (d1.trans e1))))⟩;refine WL.nil ?_;obtain rfl:=si g;have c3:=b3.sD 1 [];exact n0 (qq t3 ⟨o2,c3,j3,rfl⟩)
def gy (p0:List aa) (p1:Int):Option (List aa):=
 (rep (aV 1 (aL p1 1024)) (⟨0,([]:List Int)⟩:aa)).bind fun i=>
 (cJ (σ:=(List aa)×Int) (τ:=(List aa)) (((aV 1 (aL p1 1024)) - 0).toNat+1) (fun a=>
 (bT (decide (a.2 < (aV 1 (aL p1 1024)))) (some (decide (a.2 < (p0.length:Int))))).bind fun b=>
 if b=true then
 ((orE (decide ((w64 (a.2+1)) < (aV 1 (aL p1 1024)))) ((idx p0 a.2).bind fun f=>
 some (f.Kind != 2))).bind fun c=>
 if c=true then
 (idx p0 a.2).bind fun g=>
 (idx a.1 a.2).bind fun j=>
 (nF a.1 a.2 g).bind fun e=>
 some (e)
 else
 some (a.1)).bind fun h=>
 some (.inl (h,(w64 (a.2+1))))
 else
 some (.inr (a.1))) (i,0)).bind fun d=>
 some d
def gw (p0:ag) (p1:Int) (p2:Int):Option (ag):=
 (bW p0).bind fun d=>
 (cm p1).bind fun f=>
 (cm p2).bind fun c=>
 (cJ (σ:=(List am)×Int) (τ:=((List am)×Int)) ((d.At.Row - c).toNat+2) (fun a=>
 if (decide (a.2≥c))=true then
 (slc a.1 1 a.1.length).bind fun h=>
 some (.inl (h,(w64 (a.2 - 1))))
 else
 some (.inr (a.1,a.2))) (d.L,d.At.Row)).bind fun e=>
 (cJ (σ:=(List am)×Int) (τ:=(List am)) ((c - 0).toNat+1) (fun b=>
 if (decide (b.2 < c))=true then
 (if (decide (b.2 < (e.1.length:Int)))=true then
 (idx e.1 b.2).bind fun i=>
 some (i.Cells)
 else
 some (([]:List aa))).bind fun l=>
 (gy l f).bind fun j=>
 (app b.1 ([(⟨j,false⟩:am)]:List am)).bind fun k=>
 some (.inl (k,(w64 (b.2+1))))
 else
 some (.inr (b.1))) (([]:List am),0)).bind fun g=>
 some (⟨g,(⟨e.2,(aL d.At.Col (w64 (f - 1))),false⟩:ah),d.Auto⟩:ag)
def ir:Option (List (Int×Int)):=
 some ([(13,13)]:List (Int×Int))
theorem pI (d:Own c0 G F) {r:List (Int×Int)} (H:ir=some r): Calls prog 286 #[] c0.w (aT c0 fun c v=>∃a b,Own c G (es true aW a 342 b r :: F)∧v=a∧OA aW c a b r):=by
 unfold ir at H;refine en func286 rfl rfl (sr (va (Y) (wln (sr (va (III 13 13) (me (sl aW 342 [[I 13,I 13]] ([(13,13)]:List (Int×Int)) d ⟨rfl,trivial⟩) ?_))))));rintro v5 f i ⟨h,e,g⟩;refine va (v5) (wln (W.ret ?_));obtain rfl:=si H;exact r1 (qq f ⟨v5,h,e,rfl,g⟩)
def iq:Option (List (Int×Int)):=
 some ([(10,10)]:List (Int×Int))
theorem pH (d:Own c0 G F) {r:List (Int×Int)} (H:iq=some r): Calls prog 287 #[] c0.w (aT c0 fun c v=>∃a b,Own c G (es true aW a 342 b r :: F)∧v=a∧OA aW c a b r):=by
 unfold iq at H;refine en func287 rfl rfl (sr (va (Y) (wln (sr (va (III 10 10) (me (sl aW 342 [[I 10,I 10]] ([(10,10)]:List (Int×Int)) d ⟨rfl,trivial⟩) ?_))))));rintro v5 f i ⟨h,e,g⟩;refine va (v5) (wln (W.ret ?_));obtain rfl:=si H;exact r1 (qq f ⟨v5,h,e,rfl,g⟩)
def ip:Option (List (Int×Int)):=
 some ([(0,9),(11,12),(14,31),(127,159),(173,173),(1564,1564),(6158,6158),(8203,8203),(8206,8207),(8232,8238),(8288,8303),(65279,65279),(65520,65531),(917504,917535),(917632,917759),(918000,921599)]:List (Int×Int))
theorem pG (d:Own c0 G F) {r:List (Int×Int)} (H:ip=some r): Calls prog 288 #[] c0.w (aT c0 fun c v=>∃a b,Own c G (es true aW a 342 b r :: F)∧v=a∧OA aW c a b r):=by
 unfold ip at H;refine en func288 rfl rfl (sr (va (Y) (wln (sr (va (III 0 9) (va (III 11 12) (va (III 14 31) (va (III 127 159) (va (III 173 173) (va (III 1564 1564) (va (III 6158 6158) (va (III 8203 8203) (va (III 8206 8207) (va (III 8232 8238) (va (III 8288 8303) (va (III 65279 65279) (va (III 65520 65531) (va (III 917504 917535) (va (III 917632 917759) (va (III 918000 921599) (me (sl aW 342 [[I 0,I 9],[I 11,I 12],[I 14,I 31],[I 127,I 159],[I 173,I 173],[I 1564,I 1564],[I 6158,I 6158],[I 8203,I 8203],[I 8206,I 8207],[I 8232,I 8238],[I 8288,I 8303],[I 65279,I 65279],[I 65520,I 65531],[I 917504,I 917535],[I 917632,I 917759],[I 918000,I 921599]] ([(0,9),(11,12),(14,31),(127,159),(173,173),(1564,1564),(6158,6158),(8203,8203),(8206,8207),(8232,8238),(8288,8303),(65279,65279),(65520,65531),(917504,917535),(917632,917759),(918000,921599)]:List (Int×Int)) d ⟨rfl,rfl,rfl,rfl,rfl,rfl,rfl,rfl,rfl,rfl,rfl,rfl,rfl,rfl,rfl,rfl,trivial⟩) ?_)))))))))))))))))))));rintro v5 f i ⟨h,e,g⟩;refine va (v5) (wln (W.ret ?_));obtain rfl:=si H;exact r1 (qq f ⟨v5,h,e,rfl,g⟩)
def fE:List (Int×Int):=[(768,879),(1155,1161),(1425,1469),(1471,1471),(1473,1474),(1476,1477),(1479,1479),(1552,1562),(1611,1631),(1648,1648),(1750,1756),(1759,1764),(1767,1768),(1770,1773),(1809,1809),(1840,1866),(1958,1968),(2027,2035),(2070,2073),(2075,2083),(2259,2273),(2275,2306),(2362,2362),(2364,2364),(2369,2376),(2381,2381),(2385,2391),(2402,2403),(2433,2433),(2492,2492),(2494,2494),(2497,2500),(2509,2509),(2519,2519),(2530,2531),(2561,2562),(2620,2620),(2625,2626),(2631,2632),(2635,2637),(2748,2748),(2753,2757),(2765,2765),(2876,2876),(2878,2879),(2881,2884),(2893,2893),(2902,2903),(3132,3132),(3134,3136),(3142,3144),(3146,3149),(3276,3277),(3390,3390),(3393,3396),(3405,3405),(3633,3633),(3636,3642),(3655,3662),(3761,3761),(3764,3772),(3864,3865),(3953,3966),(4957,4959),(6832,6862),(7616,7679),(8204,8204),(8400,8432),(12330,12335),(12441,12442),(42607,42610),(64286,64286),(65024,65039),(65056,65071),(127995,127999),(917536,917631),(917760,917999)]
def io:Option (List (Int×Int)):=
 some fE
theorem pF (d:Own c0 G F) {r:List (Int×Int)} (H:io=some r): Calls prog 289 #[] c0.w (aT c0 fun c v=>∃a b,Own c G (es true aW a 342 b r :: F)∧v=a∧OA aW c a b r):=by
 unfold io at H;refine en func289 rfl rfl (sr (va (Y) (wln (sr (va (III 768 879) (va (III 1155 1161) (va (III 1425 1469) (va (III 1471 1471) (va (III 1473 1474) (va (III 1476 1477) (va (III 1479 1479) (va (III 1552 1562) (va (III 1611 1631) (va (III 1648 1648) (va (III 1750 1756) (va (III 1759 1764) (va (III 1767 1768) (va (III 1770 1773) (va (III 1809 1809) (va (III 1840 1866) (va (III 1958 1968) (va (III 2027 2035) (va (III 2070 2073) (va (III 2075 2083) (va (III 2259 2273) (va (III 2275 2306) (va (III 2362 2362) (va (III 2364 2364) (va (III 2369 2376) (va (III 2381 2381) (va (III 2385 2391) (va (III 2402 2403) (va (III 2433 2433) (va (III 2492 2492) (va (III 2494 2494) (va (III 2497 2500) (va (III 2509 2509) (va (III 2519 2519) (va (III 2530 2531) (va (III 2561 2562) (va (III 2620 2620) (va (III 2625 2626) (va (III 2631 2632) (va (III 2635 2637) (va (III 2748 2748) (va (III 2753 2757) (va (III 2765 2765) (va (III 2876 2876) (va (III 2878 2879) (va (III 2881 2884) (va (III 2893 2893) (va (III 2902 2903) (va (III 3132 3132) (va (III 3134 3136) (va (III 3142 3144) (va (III 3146 3149) (va (III 3276 3277) (va (III 3390 3390) (va (III 3393 3396) (va (III 3405 3405) (va (III 3633 3633) (va (III 3636 3642) (va (III 3655 3662) (va (III 3761 3761) (va (III 3764 3772) (va (III 3864 3865) (va (III 3953 3966) (va (III 4957 4959) (va (III 6832 6862) (va (III 7616 7679) (va (III 8204 8204) (va (III 8400 8432) (va (III 12330 12335) (va (III 12441 12442) (va (III 42607 42610) (va (III 64286 64286) (va (III 65024 65039) (va (III 65056 65071) (va (III 127995 127999) (va (III 917536 917631) (va (III 917760 917999) (me (Own.sl (R:=aW) (E:=342) (ls:=fE.map (fun x=>[I x.1,I x.2])) (vs:=(fE.map (fun x=>[I x.1,I x.2])).flatten) (xs:=fE) true d (aX _) rfl (nQ.map _ (fun _=>rfl) _) (by kernel_rfl) (by kernel_rfl)) ?_))))))))))))))))))))))))))))))))))))))))))))))))))))))))))))))))))))))))))))))))));rintro v5 f i ⟨h,e,g⟩;refine va (v5) (wln (W.ret ?_));obtain rfl:=si H;exact r1 (qq f ⟨v5,h,e,rfl,g⟩)
def il:Option (List (Int×Int)):=
 some ([(8205,8205)]:List (Int×Int))
theorem pE (d:Own c0 G F) {r:List (Int×Int)} (H:il=some r): Calls prog 290 #[] c0.w (aT c0 fun c v=>∃a b,Own c G (es true aW a 342 b r :: F)∧v=a∧OA aW c a b r):=by
 unfold il at H;refine en func290 rfl rfl (sr (va (Y) (wln (sr (va (III 8205 8205) (me (sl aW 342 [[I 8205,I 8205]] ([(8205,8205)]:List (Int×Int)) d ⟨rfl,trivial⟩) ?_))))));rintro v5 f i ⟨h,e,g⟩;refine va (v5) (wln (W.ret ?_));obtain rfl:=si H;exact r1 (qq f ⟨v5,h,e,rfl,g⟩)
def ik:Option (List (Int×Int)):=
 some ([(127462,127487)]:List (Int×Int))
theorem pD (d:Own c0 G F) {r:List (Int×Int)} (H:ik=some r): Calls prog 291 #[] c0.w (aT c0 fun c v=>∃a b,Own c G (es true aW a 342 b r :: F)∧v=a∧OA aW c a b r):=by
 unfold ik at H;refine en func291 rfl rfl (sr (va (Y) (wln (sr (va (III 127462 127487) (me (sl aW 342 [[I 127462,I 127487]] ([(127462,127487)]:List (Int×Int)) d ⟨rfl,trivial⟩) ?_))))));rintro v5 f i ⟨h,e,g⟩;refine va (v5) (wln (W.ret ?_));obtain rfl:=si H;exact r1 (qq f ⟨v5,h,e,rfl,g⟩)
def ii:Option (List (Int×Int)):=
 some ([(1536,1541),(1757,1757),(1807,1807),(2192,2193),(2274,2274),(3406,3406),(69821,69821),(69837,69837)]:List (Int×Int))
theorem pC (d:Own c0 G F) {r:List (Int×Int)} (H:ii=some r): Calls prog 292 #[] c0.w (aT c0 fun c v=>∃a b,Own c G (es true aW a 342 b r :: F)∧v=a∧OA aW c a b r):=by
 unfold ii at H;refine en func292 rfl rfl (sr (va (Y) (wln (sr (va (III 1536 1541) (va (III 1757 1757) (va (III 1807 1807) (va (III 2192 2193) (va (III 2274 2274) (va (III 3406 3406) (va (III 69821 69821) (va (III 69837 69837) (me (sl aW 342 [[I 1536,I 1541],[I 1757,I 1757],[I 1807,I 1807],[I 2192,I 2193],[I 2274,I 2274],[I 3406,I 3406],[I 69821,I 69821],[I 69837,I 69837]] ([(1536,1541),(1757,1757),(1807,1807),(2192,2193),(2274,2274),(3406,3406),(69821,69821),(69837,69837)]:List (Int×Int)) d ⟨rfl,rfl,rfl,rfl,rfl,rfl,rfl,rfl,trivial⟩) ?_)))))))))))));rintro v5 f i ⟨h,e,g⟩;refine va (v5) (wln (W.ret ?_));obtain rfl:=si H;exact r1 (qq f ⟨v5,h,e,rfl,g⟩)
def fD:List (Int×Int):=[(2307,2307),(2363,2363),(2366,2368),(2377,2380),(2382,2383),(2434,2435),(2495,2496),(2503,2504),(2507,2508),(2563,2563),(2622,2624),(2691,2691),(2750,2752),(2761,2761),(2818,2819),(2880,2880),(2887,2888),(3073,3075),(3137,3140),(3330,3331),(3391,3392),(3398,3400),(3635,3635),(3763,3763),(3902,3903),(4155,4156)]
def ig:Option (List (Int×Int)):=
 some fD
theorem pB (d:Own c0 G F) {r:List (Int×Int)} (H:ig=some r): Calls prog 293 #[] c0.w (aT c0 fun c v=>∃a b,Own c G (es true aW a 342 b r :: F)∧v=a∧OA aW c a b r):=by
 unfold ig at H;refine en func293 rfl rfl (sr (va (Y) (wln (sr (va (III 2307 2307) (va (III 2363 2363) (va (III 2366 2368) (va (III 2377 2380) (va (III 2382 2383) (va (III 2434 2435) (va (III 2495 2496) (va (III 2503 2504) (va (III 2507 2508) (va (III 2563 2563) (va (III 2622 2624) (va (III 2691 2691) (va (III 2750 2752) (va (III 2761 2761) (va (III 2818 2819) (va (III 2880 2880) (va (III 2887 2888) (va (III 3073 3075) (va (III 3137 3140) (va (III 3330 3331) (va (III 3391 3392) (va (III 3398 3400) (va (III 3635 3635) (va (III 3763 3763) (va (III 3902 3903) (va (III 4155 4156) (me (Own.sl (R:=aW) (E:=342) (ls:=fD.map (fun x=>[I x.1,I x.2])) (vs:=(fD.map (fun x=>[I x.1,I x.2])).flatten) (xs:=fD) true d (aX _) rfl (nQ.map _ (fun _=>rfl) _) (by kernel_rfl) (by kernel_rfl)) ?_)))))))))))))))))))))))))))))));rintro v5 f i ⟨h,e,g⟩;refine va (v5) (wln (W.ret ?_));obtain rfl:=si H;exact r1 (qq f ⟨v5,h,e,rfl,g⟩)
def dG (p0:List (Int×Int)) (p1:Int):Option (Bool):=
 (cJ (σ:=Int) (τ:=Bool ⊕ Unit) (((p0.length:Int) - 0).toNat+1) (fun b=>
 if (decide (b < (p0.length:Int)))=true then
 (idx p0 b).bind fun d=>
 (bT (decide ((w64 p1)≥d.1)) ((idx p0 b).bind fun e=>
 some (decide ((w64 p1)≤e.2)))).bind fun c=>
 if c=true then
 some (.inr (.inl true))
 else
 some (.inl ((w64 (b+1))))
 else
 some (.inr (.inr ()))) (0)).bind fun a=>
 match a with
 | .inl a=>
 some a
 | .inr a=>
 some false
theorem ju (O0:Own c0 G F) (A:List (Int×Int)) (b:Int) {r:Bool} (g:Sl aW c0 v1 A) (H:dG A b=some r): Calls prog 294 #[v1,J b] c0.w (aT c0 fun c v=>Own c G (F)∧v=B r):=by
 unfold dG at H;refine en func294 rfl rfl (sr (va (B false) (wln (W.seq (sr (va (I 0) (wln (W.block (bn H fun h h3 u=>lp h3 (fun a=>Jn c0 fun c l=>Own c G (F)∧l= [(0,v1),(1,J b),(5,I a)]) (fun t=>match t with | .inl E=>(fun g0 ex e w=>ex= .ret∧(Jn c0 fun c l=>Own c G (F)∧l= [(4,B g0)]) e w) E | .inr E=>(fun l0 ex e w=>ex= .exit 0∧(Jn c0 fun c l=>Own c G (F)∧l= []) e w) E) ?_ ?_ ?_)))))))))
 ·clear u h3;intro a v0 S h0 H;revert S h0;rintro z D ⟨k,g6,_,rfl,l5,rfl,x,rfl⟩;refine W.seq (sr (va (I a) (va (v1) (vx (ln 3 wb g.m) (va (B (decide (a < (A.length:Int)))) (wln (cn H (fun U H=>?_) (fun U H=>?_))))))))
  ·refine W.skip (nrm (W.seq (W.block (W.seq (bn H fun i p H=>bn H fun y q H=>W.join (Jn k fun c l=>Own c G (F)∧l= [(0,v1),(1,J b),(5,I a),(29,B y)]) ?_ ?_)))))
   ·clear H;refine W.region (va (J b) (va (I (w64 b)) (va (v1) (va (I a) ?_))));obtain ⟨j0,X,e0⟩:=Sl.at (g.mono l5) (bz p);obtain rfl:=X;refine vx (ix wb g.m p) (va (Qo (sb v1) (so v1+a.toNat * 2)) (vx (l1 u_3 (e0 0 _ rfl)) (va (B (decide ((w64 b)≥i.1))) ?_)));rcases bo (decide ((w64 b)≥i.1)) with d | d
    ·have f:=anT d q;refine vb d (wa (J b) (wa (I (w64 b)) (wa (v1) (wa (I a) (wn (bn f fun j s f=>?_))))));obtain ⟨k0,Z,f0⟩:=Sl.at (g.mono l5) (bz s);obtain rfl:=Z;refine vx (ix wb g.m s) (wa (Qo (sb v1) (so v1+a.toNat * 2+1)) (wn (vx (l1 u_3 (f0 1 _ rfl)) (wa (B (decide ((w64 b)≤j.2))) ?_))));obtain rfl:=si f;exact va (B (decide ((w64 b)≤j.2))) (wln (jn k ⟨x,rfl⟩))
    obtain rfl:=anF d q;exact vb d (pz (pz (pz (pz (va (B false) (wln (jn k ⟨x,rfl⟩)))))))
   rintro z D ⟨o,m0,_,rfl,s0,rfl,n,rfl⟩;refine nrm (cn H (fun a0 H=>?_) (fun a0 H=>?_))
   ·refine sr (va (B true) (wln (W.ret (bkr (thr ?_)))));obtain rfl:=si H;exact ⟨_,rfl,⟨rfl,jn o ⟨n,rfl⟩⟩⟩
   refine W.skip (bkn (nrm (W.region (va (I a) (vv (I (w64 (a+1))) (WL.nil ?_))))));obtain rfl:=si H;exact ⟨_,rfl,jn o ⟨n,rfl⟩⟩
  refine W.exit (thx ?_);obtain rfl:=si H;exact ⟨_,rfl,rfl,jn k ⟨x,rfl⟩⟩
 ·exact jn c0 ⟨O0,rfl⟩
 rcases h with h | h
 ·intro T; revert T;rintro _ z D ⟨rfl,P,o0,_,rfl,t0,rfl,M,rfl⟩;refine bkr (thr ?_);obtain rfl:=si u;exact r1 (qq P ⟨M,rfl⟩)
 rintro _ z D ⟨rfl,R,q0,_,rfl,u0,rfl,N,rfl⟩;refine bke (nrm (sr (va (B false) (wln (W.ret ?_)))));obtain rfl:=si u;exact r1 (qq R ⟨N,rfl⟩)
def dt (p0:Int):Option (Int×Int×Int):=
 (orE (decide ((w64 p0) < 44032)) (some (decide ((w64 p0) > 55203)))).bind fun e=>
 if e=true then
 some (0,0,0)
 else
 (cJ (σ:=Int×Int) (τ:=(Int×Int×Int) ⊕ Unit) (((4370:Int) - 4352).toNat+2) (fun d=>
 if (decide (d.2≤4370))=true then
 (cJ (σ:=Int×Int) (τ:=(Int×Int×Int) ⊕ Int) (((4469:Int) - 4449).toNat+2) (fun a=>
 if (decide (a.2≤4469))=true then
 if (decide ((w64 p0) < (w64 (a.1+28))))=true then
 (if ((w64 ((w64 (4519+(w64 p0))) - a.1))==4519)=true then
 some (0)
 else
 some ((w64 ((w64 (4519+(w64 p0))) - a.1)))).bind fun f=>
 some (.inr (.inl (d.2,a.2,f)))
 else
 some (.inl ((w64 (a.1+28)),(w64 (a.2+1))))
 else
 some (.inr (.inr (a.1)))) (d.1,4449)).bind fun b=>
 match b with
 | .inl b=>
 some (.inr (.inl b))
 | .inr b=>
 some (.inl (b,(w64 (d.2+1))))
 else
 some (.inr (.inr ()))) (44032,4352)).bind fun c=>
 match c with
 | .inl c=>
 some c
 | .inr c=>
 some (0,0,0)
theorem pJ (T:Own c0 G F) (d:Int) {r:Int×Int×Int} (H:dt d=some r): Calls prog 315 #[J d] c0.w (aT c0 fun c v=>Own c G (F)∧v= .tuple #[I r.1,I r.2.1,I r.2.2]):=by
 unfold dt at H;refine en func315 rfl rfl (sr (vv (I 0) (va (I 0) (wln (sr (va (J d) (vv (I (w64 d)) (wln (W.seq (W.seq (bn H fun R h1 H=>W.join (Jn c0 fun c l=>Own c G (F)∧l= [(5,I (w64 d)),(17,B R)]) ?_ ?_)))))))))))
 ·clear H;refine W.region (va (I (w64 d)) (va (B (decide ((w64 d) < 44032))) ?_));rcases bo (decide ((w64 d) < 44032)) with A | A
  ·obtain rfl:=orT A h1;exact vb A (pz (va (B true) (wln (jn c0 ⟨T,rfl⟩))))
  have H3:=orF A h1;refine vb A (wa (I (w64 d)) (wa (B (decide ((w64 d) > 55203))) ?_));obtain rfl:=si H3;exact va (B (decide ((w64 d) > 55203))) (wln (jn c0 ⟨T,rfl⟩))
 rintro j n ⟨x,g5,_,rfl,l4,rfl,O6,rfl⟩;refine nrm (cn H (fun k0 H=>?_) (fun k0 H=>?_))
 ·refine sr (vv (I 0) (va (I 0) (wln (W.ret (thr ?_)))));obtain rfl:=si H;exact r3 (qq x ⟨O6,rfl⟩)
 refine W.skip (nrm (sr (va (I 44032) (wln (W.seq (sr (va (I 4352) (wln (W.block (bn H fun k N s=>lp N (fun b=>Jn x fun c l=>Own c G (F)∧l= [(5,I (w64 d)),(6,I b.1),(7,I b.2)]) (fun t=>match t with | .inl o=>(fun f ex e w=>ex= .ret∧(Jn x fun c l=>Own c G (F)∧l= [(2,I f.1),(3,I f.2.1),(4,I f.2.2)]) e w) o | .inr o=>(fun t0 ex e w=>ex= .exit 0∧(Jn x fun c l=>Own c G (F)∧l= []) e w) o) ?_ ?_ ?_))))))))))
 ·clear s N;intro b s0 y D H;revert y D;rintro j n ⟨h,v0,_,rfl,c1,rfl,M,rfl⟩;refine W.seq (sr (va (I b.2) (va (B (decide (b.2≤4370))) (wln (cn H (fun l0 H=>?_) (fun l0 H=>?_))))))
  ·refine W.skip (nrm (W.seq (W.block (sr (va (I 4449) (wln (W.block (bn H fun m P u=>lp P (fun a=>Jn h fun c l=>Own c G (F)∧l= [(5,I (w64 d)),(6,I a.1),(7,I b.2),(8,I a.2)]) (fun t=>match t with | .inl o=>(fun f ex e w=>ex= .ret∧(Jn h fun c l=>Own c G (F)∧l= [(2,I f.1),(3,I f.2.1),(4,I f.2.2)]) e w) o | .inr o=>(fun E ex e w=>ex= .exit 2∧(Jn h fun c l=>Own c G (F)∧l= [(5,I (w64 d)),(6,I E),(7,I b.2)]) e w) o) ?_ ?_ ?_))))))))
   ·clear u P;intro a s0 y D H;revert y D;rintro j n ⟨i,w0,_,rfl,d1,rfl,q,rfl⟩;refine W.seq (sr (va (I a.2) (va (B (decide (a.2≤4469))) (wln (cn H (fun m0 H=>?_) (fun m0 H=>?_))))))
    ·refine W.skip (nrm (W.seq (W.block (W.seq (sr (va (I (w64 d)) (va (I a.1) (va (I (w64 (a.1+28))) (va (B (decide ((w64 d) < (w64 (a.1+28))))) (wln (cn H (fun o0 H=>?_) (fun o0 H=>?_))))))))))))
     ·refine sr (va (I (w64 d)) (va (I (w64 (4519+(w64 d)))) (va (I a.1) (vv (I (w64 ((w64 (4519+(w64 d))) - a.1))) (wln (bn H fun p g S=>W.seqJ (Jn i fun c l=>Own c G (F)∧l= [(7,I b.2),(8,I a.2),(9,I p)]) ?_ ?_))))))
      ·refine sr (va (I (w64 ((w64 (4519+(w64 d))) - a.1))) (va (B ((w64 ((w64 (4519+(w64 d))) - a.1))==4519)) (wln (cn g (fun q0 g=>?_) (fun q0 g=>?_)))))
       ·refine W.region (va (I 0) (wln ?_));obtain rfl:=si g;exact jn i ⟨q,rfl⟩
       refine W.skip (nrm ?_);obtain rfl:=si g;exact jn i ⟨q,rfl⟩
      rintro j n ⟨e0,x0,_,rfl,e1,rfl,U,rfl⟩;refine sr (va (I b.2) (va (I a.2) (va (I p) (va (I b.2) (va (I a.2) (va (I p) (wln (W.ret (thr (bkr (thr ?_)))))))))));obtain rfl:=si S;exact ⟨_,rfl,⟨rfl,jn e0 ⟨U,rfl⟩⟩⟩
     refine W.skip (nrm (W.region (va (I a.1) (vv (I (w64 (a.1+28))) (WL.nil (bkn (nrm (W.region (va (I a.2) (vv (I (w64 (a.2+1))) (WL.nil ?_)))))))))));obtain rfl:=si H;exact ⟨_,rfl,jn i ⟨q,rfl⟩⟩
    refine W.exit (thx ?_);obtain rfl:=si H;exact ⟨_,rfl,rfl,jn i ⟨q,rfl⟩⟩
   ·exact jn h ⟨M,rfl⟩
   rcases m with m | m
   ·intro z; revert z;rintro _ j n ⟨rfl,f0,y0,_,rfl,f1,rfl,X,rfl⟩;refine bkr (bkr (thr ?_));obtain rfl:=si u;exact ⟨_,rfl,⟨rfl,jn f0 ⟨X,rfl⟩⟩⟩
   rintro _ j n ⟨rfl,g0,z0,_,rfl,g1,rfl,Z,rfl⟩;refine bke (bkn (nrm (W.region (va (I b.2) (vv (I (w64 (b.2+1))) (WL.nil ?_))))));obtain rfl:=si u;exact ⟨_,rfl,jn g0 ⟨Z,rfl⟩⟩
  refine W.exit (thx ?_);obtain rfl:=si H;exact ⟨_,rfl,rfl,jn h ⟨M,rfl⟩⟩
 ·exact jn x ⟨O6,rfl⟩
 rcases k with k | k
 ·intro z; revert z;rintro _ j n ⟨rfl,h0,a1,_,rfl,i1,rfl,a0,rfl⟩;refine bkr (thr ?_);obtain rfl:=si s;exact r3 (qq h0 ⟨a0,rfl⟩)
 rintro _ j n ⟨rfl,i0,b1,_,rfl,j1,rfl,b0,rfl⟩;refine bke (nrm (sr (vv (I 0) (va (I 0) (wln (W.ret ?_))))));obtain rfl:=si s;exact r3 (qq i0 ⟨b0,rfl⟩)
def ej (p0:Int):Option (Int):=
 (bT (decide ((w64 p0)≥4352)) (some (decide ((w64 p0)≤4447)))).bind fun j=>
 (orE j ((bT (decide ((w64 p0)≥43360)) (some (decide ((w64 p0)≤43388)))).bind fun c=>
 some c)).bind fun b=>
 if b=true then
 some 9
 else
 (bT (decide ((w64 p0)≥4448)) (some (decide ((w64 p0)≤4519)))).bind fun d=>
 (orE d ((bT (decide ((w64 p0)≥55216)) (some (decide ((w64 p0)≤55238)))).bind fun f=>
 some f)).bind fun e=>
 if e=true then
 some 10
 else
 (bT (decide ((w64 p0)≥4520)) (some (decide ((w64 p0)≤4607)))).bind fun g=>
 (orE g ((bT (decide ((w64 p0)≥55243)) (some (decide ((w64 p0)≤55291)))).bind fun i=>
 some i)).bind fun h=>
 if h=true then
 some 11
 else
 (dt p0).bind fun a=>
 if (a.1==0)=true then
 some 0
 else
 if (a.2.2==0)=true then
 some 12
 else
 some 13
theorem pK (z:Own c0 G F) (a:Int) {r:Int} (H:ej a=some r): Calls prog 295 #[J a] c0.w (aT c0 fun c v=>Own c G (F)∧v=I r):=by
 unfold ej at H;refine en func295 rfl rfl (sr (va (I 0) (wln (sr (va (J a) (vv (I (w64 a)) (wln (W.seq (W.seq (bn H fun s1 h1 H=>bn H fun i0 h2 H=>W.join (Jn c0 fun c l=>Own c G (F)∧l= [(0,J a),(3,I (w64 a)),(22,B i0)]) ?_ ?_))))))))))
 ·clear H;refine W.region (va (I (w64 a)) (va (B (decide ((w64 a)≥4352))) ?_));rcases bo (decide ((w64 a)≥4352)) with M | M
  ·have H4:=anT M h1;refine vb M (wa (I (w64 a)) (wa (B (decide ((w64 a)≤4447))) ?_));obtain rfl:=si H4;refine va (B (decide ((w64 a)≤4447))) ?_;rcases bo (decide ((w64 a)≤4447)) with P | P
   ·obtain rfl:=orT P h2;exact vb P (pz (pz (pz (va (B true) (wln (jn c0 ⟨z,rfl⟩))))))
   have S:=orF P h2;refine vb P (wa (I (w64 a)) (wa (B (decide ((w64 a)≥43360))) (wn (bn S fun j0 h7 S=>?_))));rcases bo (decide ((w64 a)≥43360)) with R | R
   ·have H9:=anT R h7;refine vb R (wa (I (w64 a)) (wa (B (decide ((w64 a)≤43388))) (wn ?_)));obtain rfl:=si H9;refine va (B (decide ((w64 a)≤43388))) ?_;obtain rfl:=si S;exact va (B (decide ((w64 a)≤43388))) (wln (jn c0 ⟨z,rfl⟩))
   obtain rfl:=anF R h7;refine vb R (pz (wa (B false) ?_));obtain rfl:=si S;exact va (B false) (wln (jn c0 ⟨z,rfl⟩))
  obtain rfl:=anF M h1;refine vb M (pz (va (B false) ?_));have U:false=false:=rfl;have s:=orF U h2;refine vb U (wa (I (w64 a)) (wa (B (decide ((w64 a)≥43360))) (wn (bn s fun j0 X s=>?_))));rcases bo (decide ((w64 a)≥43360)) with h | h
  ·have s0:=anT h X;refine vb h (wa (I (w64 a)) (wa (B (decide ((w64 a)≤43388))) (wn ?_)));obtain rfl:=si s0;refine va (B (decide ((w64 a)≤43388))) ?_;obtain rfl:=si s;exact va (B (decide ((w64 a)≤43388))) (wln (jn c0 ⟨z,rfl⟩))
  obtain rfl:=anF h X;refine vb h (pz (wa (B false) ?_));obtain rfl:=si s;exact va (B false) (wln (jn c0 ⟨z,rfl⟩))
 rintro e_ w_ ⟨d,t1,_,rfl,w1,rfl,f,rfl⟩;refine nrm (cn H (fun c1 H=>?_) (fun c1 H=>?_))
 ·refine sr (va (I 9) (wln (W.ret (thr ?_))));obtain rfl:=si H;exact r1 (qq d ⟨f,rfl⟩)
 refine W.skip (nrm (W.seq (W.seq (bn H fun p1 Z H=>bn H fun k0 E H=>W.join (Jn d fun c l=>Own c G (F)∧l= [(0,J a),(3,I (w64 a)),(36,B k0)]) ?_ ?_))))
 ·clear H;refine W.region (va (I (w64 a)) (va (B (decide ((w64 a)≥4448))) ?_));rcases bo (decide ((w64 a)≥4448)) with i | i
  ·have t0:=anT i Z;refine vb i (wa (I (w64 a)) (wa (B (decide ((w64 a)≤4519))) ?_));obtain rfl:=si t0;refine va (B (decide ((w64 a)≤4519))) ?_;rcases bo (decide ((w64 a)≤4519)) with j | j
   ·obtain rfl:=orT j E;exact vb j (pz (pz (pz (va (B true) (wln (jn d ⟨f,rfl⟩))))))
   have t:=orF j E;refine vb j (wa (I (w64 a)) (wa (B (decide ((w64 a)≥55216))) (wn (bn t fun l0 a0 t=>?_))));rcases bo (decide ((w64 a)≥55216)) with k | k
   ·have u0:=anT k a0;refine vb k (wa (I (w64 a)) (wa (B (decide ((w64 a)≤55238))) (wn ?_)));obtain rfl:=si u0;refine va (B (decide ((w64 a)≤55238))) ?_;obtain rfl:=si t;exact va (B (decide ((w64 a)≤55238))) (wln (jn d ⟨f,rfl⟩))
   obtain rfl:=anF k a0;refine vb k (pz (wa (B false) ?_));obtain rfl:=si t;exact va (B false) (wln (jn d ⟨f,rfl⟩))
  obtain rfl:=anF i Z;refine vb i (pz (va (B false) ?_));have b0:false=false:=rfl;have u:=orF b0 E;refine vb b0 (wa (I (w64 a)) (wa (B (decide ((w64 a)≥55216))) (wn (bn u fun l0 d0 u=>?_))));rcases bo (decide ((w64 a)≥55216)) with m | m
  ·have v0:=anT m d0;refine vb m (wa (I (w64 a)) (wa (B (decide ((w64 a)≤55238))) (wn ?_)));obtain rfl:=si v0;refine va (B (decide ((w64 a)≤55238))) ?_;obtain rfl:=si u;exact va (B (decide ((w64 a)≤55238))) (wln (jn d ⟨f,rfl⟩))
  obtain rfl:=anF m d0;refine vb m (pz (wa (B false) ?_));obtain rfl:=si u;exact va (B false) (wln (jn d ⟨f,rfl⟩))
 rintro e_ w_ ⟨e,u1,_,rfl,x1,rfl,g,rfl⟩;refine nrm (cn H (fun d1 H=>?_) (fun d1 H=>?_))
 ·refine sr (va (I 10) (wln (W.ret (thr ?_))));obtain rfl:=si H;exact r1 (qq e ⟨g,rfl⟩)
 refine W.skip (nrm (W.seq (W.seq (bn H fun q1 e0 H=>bn H fun m0 N H=>W.join (Jn e fun c l=>Own c G (F)∧l= [(0,J a),(50,B m0)]) ?_ ?_))))
 ·clear H;refine W.region (va (I (w64 a)) (va (B (decide ((w64 a)≥4520))) ?_));rcases bo (decide ((w64 a)≥4520)) with n | n
  ·have w0:=anT n e0;refine vb n (wa (I (w64 a)) (wa (B (decide ((w64 a)≤4607))) ?_));obtain rfl:=si w0;refine va (B (decide ((w64 a)≤4607))) ?_;rcases bo (decide ((w64 a)≤4607)) with o | o
   ·obtain rfl:=orT o N;exact vb o (pz (pz (pz (va (B true) (wln (jn e ⟨g,rfl⟩))))))
   have x:=orF o N;refine vb o (wa (I (w64 a)) (wa (B (decide ((w64 a)≥55243))) (wn (bn x fun o0 f0 x=>?_))));rcases bo (decide ((w64 a)≥55243)) with p | p
   ·have x0:=anT p f0;refine vb p (wa (I (w64 a)) (wa (B (decide ((w64 a)≤55291))) (wn ?_)));obtain rfl:=si x0;refine va (B (decide ((w64 a)≤55291))) ?_;obtain rfl:=si x;exact va (B (decide ((w64 a)≤55291))) (wln (jn e ⟨g,rfl⟩))
   obtain rfl:=anF p f0;refine vb p (pz (wa (B false) ?_));obtain rfl:=si x;exact va (B false) (wln (jn e ⟨g,rfl⟩))
  obtain rfl:=anF n e0;refine vb n (pz (va (B false) ?_));have g0:false=false:=rfl;have y:=orF g0 N;refine vb g0 (wa (I (w64 a)) (wa (B (decide ((w64 a)≥55243))) (wn (bn y fun o0 h0 y=>?_))));rcases bo (decide ((w64 a)≥55243)) with q | q
  ·have y0:=anT q h0;refine vb q (wa (I (w64 a)) (wa (B (decide ((w64 a)≤55291))) (wn ?_)));obtain rfl:=si y0;refine va (B (decide ((w64 a)≤55291))) ?_;obtain rfl:=si y;exact va (B (decide ((w64 a)≤55291))) (wln (jn e ⟨g,rfl⟩))
  obtain rfl:=anF q h0;refine vb q (pz (wa (B false) ?_));obtain rfl:=si y;exact va (B false) (wln (jn e ⟨g,rfl⟩))
 rintro e_ w_ ⟨z0,v1,_,rfl,y1,rfl,T,rfl⟩;refine nrm (cn H (fun e1 H=>?_) (fun e1 H=>?_))
 ·refine sr (va (I 11) (wln (W.ret (thr ?_))));obtain rfl:=si H;exact r1 (qq z0 ⟨T,rfl⟩)
 refine W.skip (nrm (sr (va (J a) (bn H fun b f1 H=>cl (pJ T a f1) ?_))));rintro b2 D z1 ⟨A,rfl⟩;refine va (.tuple #[I b.1,I b.2.1,I b.2.2]) (va (I b.1) (va (I b.2.1) (va (I b.2.2) (va (I b.1) (va (I b.2.1) (va (I b.2.2) (wln (W.seq (sr (va (I b.1) (va (B (b.1==0)) (wln (cn H (fun i1 H=>?_) (fun i1 H=>?_))))))))))))))
 ·refine sr (va (I 0) (wln (W.ret (thr ?_))));obtain rfl:=si H;exact r1 (qq D ⟨A,rfl⟩)
 refine W.skip (nrm (W.seq (sr (va (I b.2.2) (va (B (b.2.2==0)) (wln (cn H (fun j1 H=>?_) (fun j1 H=>?_))))))))
 ·refine sr (va (I 12) (wln (W.ret (thr ?_))));obtain rfl:=si H;exact r1 (qq D ⟨A,rfl⟩)
 refine W.skip (nrm (sr (va (I 13) (wln (W.ret ?_)))));obtain rfl:=si H;exact r1 (qq D ⟨A,rfl⟩)
def gQ (p0:Int):Option (Int):=
 (ir).bind fun d=>
 (iq).bind fun e=>
 (ip).bind fun f=>
 (io).bind fun g=>
 (il).bind fun h=>
 (ik).bind fun i=>
 (ii).bind fun j=>
 (ig).bind fun c=>
 (cJ (σ:=Int) (τ:=Int ⊕ Unit) (((([d,e,f,g,h,i,j,c]:List (List (Int×Int))).length:Int) - 0).toNat+1) (fun b=>
 if (decide (b < (([d,e,f,g,h,i,j,c]:List (List (Int×Int))).length:Int)))=true then
 (idx ([d,e,f,g,h,i,j,c]:List (List (Int×Int))) b).bind fun k=>
 (dG k p0).bind fun l=>
 if l=true then
 some (.inr (.inl (w64 (b+1))))
 else
 some (.inl ((w64 (b+1))))
 else
 some (.inr (.inr ()))) (0)).bind fun a=>
 match a with
 | .inl a=>
 some a
 | .inr a=>
 (ej p0).bind fun m=>
 some m
theorem rJ (O0:Own c0 G F) (p0:Int) {r:Int} (H:gQ p0=some r): Calls prog 255 #[J p0] c0.w (aT c0 fun c v=>Own c G (F)∧v=I r):=by
 unfold gQ at H;refine en func255 rfl rfl (sr (va (I 0) (wln (sr (bn H fun x h1 H=>cl (pI O0 h1) ?_)))));rintro v2 c9 l9 ⟨_,u3,O6,rfl,h4⟩;refine bn H fun y x3 H=>cl (pH O6 x3) ?_;rintro v12 q5 q4 ⟨_,u1,g3,rfl,y3⟩;refine bn H fun z z3 H=>cl (pG g3 z3) ?_;rintro v22 r5 t1 ⟨_,v1,h3,rfl,a4⟩;refine bn H fun A b4 H=>cl (pF h3 b4) ?_;rintro v32 s5 j1 ⟨_,w1,i3,rfl,c4⟩;refine bn H fun D d4 H=>cl (pE i3 d4) ?_;rintro v42 t5 b1 ⟨_,x1,j3,rfl,e4⟩;refine bn H fun E f4 H=>cl (pD j3 f4) ?_;rintro v52 u5 w0 ⟨_,y1,k3,rfl,g4⟩;refine bn H fun M i4 H=>cl (pC k3 i4) ?_;rintro c6 v5 u ⟨_,z1,l3,rfl,j4⟩;refine bn H fun h k4 H=>cl (pB l3 k4) ?_;rintro d6 w5 k ⟨_,b2,m3,rfl,l4⟩;obtain ⟨x5,m4,n,n3,m1⟩:=m3.frz 7 rfl (h4.mono (q4.trans (t1.trans (j1.trans (b1.trans (w0.trans (u.trans k)))))));refine WL.gh m4 ?_;obtain ⟨y5,n4,o,o3,n1⟩:=n3.frz 6 rfl (y3.mono (t1.trans (j1.trans (b1.trans (w0.trans (u.trans (k.trans n)))))));refine WL.gh n4 ?_;obtain ⟨z5,o4,p,p3,p1⟩:=o3.frz 5 rfl (a4.mono (j1.trans (b1.trans (w0.trans (u.trans (k.trans (n.trans o)))))));refine WL.gh o4 ?_;obtain ⟨a6,p4,q,q3,q1⟩:=p3.frz 4 rfl (c4.mono (b1.trans (w0.trans (u.trans (k.trans (n.trans (o.trans p)))))));refine WL.gh p4 ?_;obtain ⟨b6,o2,s,s3,s1⟩:=q3.frz 3 rfl (e4.mono (w0.trans (u.trans (k.trans (n.trans (o.trans (p.trans q)))))));refine WL.gh o2 ?_;obtain ⟨z4,p2,b,c2,e1⟩:=s3.frz 2 rfl (g4.mono (u.trans (k.trans (n.trans (o.trans (p.trans (q.trans s)))))));refine WL.gh p2 ?_;obtain ⟨a5,q2,d,d2,f1⟩:=c2.frz 1 rfl (j4.mono (k.trans (n.trans (o.trans (p.trans (q.trans (s.trans b)))))));refine WL.gh q2 ?_;obtain ⟨b5,s2,f,e2,g1⟩:=d2.frz 0 rfl (l4.mono (n.trans (o.trans (p.trans (q.trans (s.trans (b.trans d)))))));refine WL.gh s2 ?_;obtain ⟨N,P,R,rfl⟩:=((m1.mono (o.trans (p.trans (q.trans (s.trans (b.trans (d.trans f)))))))).form;obtain ⟨S,T,U,rfl⟩:=((n1.mono (p.trans (q.trans (s.trans (b.trans (d.trans f))))))).form;obtain ⟨X,Z,a0,rfl⟩:=((p1.mono (q.trans (s.trans (b.trans (d.trans f)))))).form;obtain ⟨b0,d0,e0,rfl⟩:=((q1.mono (s.trans (b.trans (d.trans f))))).form;obtain ⟨f0,g0,h0,rfl⟩:=((s1.mono (b.trans (d.trans f)))).form;obtain ⟨i0,j0,k0,rfl⟩:=((e1.mono (d.trans f))).form;obtain ⟨l0,m0,o0,rfl⟩:=((f1.mono f)).form;obtain ⟨q0,s0,t0,rfl⟩:=(g1).form;refine me (sl (RL aW) 333 [[.slice N P R],[.slice S T U],[.slice X Z a0],[.slice b0 d0 e0],[.slice f0 g0 h0],[.slice i0 j0 k0],[.slice l0 m0 o0],[.slice q0 s0 t0]] ([x,y,z,A,D,E,M,h]:List (List (Int×Int))) e2 ⟨⟨(.slice N P R),rfl,m1.m⟩,⟨(.slice S T U),rfl,n1.m⟩,⟨(.slice X Z a0),rfl,p1.m⟩,⟨(.slice b0 d0 e0),rfl,q1.m⟩,⟨(.slice f0 g0 h0),rfl,s1.m⟩,⟨(.slice i0 j0 k0),rfl,e1.m⟩,⟨(.slice l0 m0 o0),rfl,f1.m⟩,⟨(.slice q0 s0 t0),rfl,g1⟩,trivial⟩) ?_;rintro g u0 i5 ⟨k1,f2,v0⟩;refine va (g) (wln (W.seq (sr (va (I 0) (wln (W.block (bn H fun a1 i1 i=>lp i1 (fun a=>Jn u0 fun c l=>Own c G (es true (RL aW) g 333 k1 ([x,y,z,A,D,E,M,h]:List (List (Int×Int))) :: es false aW (.slice q0 s0 t0) 342 b2 h :: es false aW (.slice l0 m0 o0) 342 z1 M :: es false aW (.slice i0 j0 k0) 342 y1 E :: es false aW (.slice f0 g0 h0) 342 x1 D :: es false aW (.slice b0 d0 e0) 342 w1 A :: es false aW (.slice X Z a0) 342 v1 z :: es false aW (.slice S T U) 342 u1 y :: es false aW (.slice N P R) 342 u3 x :: F)∧l= [(0,J p0),(3,g),(4,I a)]) (fun t=>match t with | .inl x_=>(fun r4 ex e w=>ex= .ret∧(Jn u0 fun c l=>Own c G (F)∧l= [(2,I r4)]) e w) x_ | .inr x_=>(fun w4 ex e w=>ex= .exit 0∧(Jn u0 fun c l=>Own c G (es true (RL aW) g 333 k1 ([x,y,z,A,D,E,M,h]:List (List (Int×Int))) :: es false aW (.slice q0 s0 t0) 342 b2 h :: es false aW (.slice l0 m0 o0) 342 z1 M :: es false aW (.slice i0 j0 k0) 342 y1 E :: es false aW (.slice f0 g0 h0) 342 x1 D :: es false aW (.slice b0 d0 e0) 342 w1 A :: es false aW (.slice X Z a0) 342 v1 z :: es false aW (.slice S T U) 342 u1 y :: es false aW (.slice N P R) 342 u3 x :: F)∧l= [(0,J p0)]) e w) x_) ?_ ?_ ?_)))))))
 ·clear i i1;intro a e6 v3 u4 H;revert v3 u4;rintro e_ w_ ⟨l2,d5,_,rfl,a3,rfl,y0,rfl⟩;refine W.seq (sr (va (I a) (va (g) (vx (lnO 3 vZ v0.m) (va (B (decide (a < (([x,y,z,A,D,E,M,h]:List (List (Int×Int))).length:Int)))) (wln (cn H (fun t2 H=>?_) (fun t2 H=>?_))))))))
  ·refine W.skip (nrm (W.seq (W.block (sr (va (g) (va (I a) (bn H fun e3 z0 H=>vx (ixO vZ v0.m z0) ?_)))))));obtain ⟨v4,u2,b3⟩:=OA.at (v0.mono a3) z0;obtain ⟨c3,rfl,w2⟩:=u2;refine vr c3 (rx (by kernel_rfl) (ry wb rfl (y0.on 0 rfl) (v0.m.blk z0) (at1 (j:=0) b3 rfl))) (va (J p0) (bn H fun p5 x2 H=>cl (ju y0 e3 p0 w2 x2) ?_));rintro n5 d1 j5 ⟨c1,rfl⟩;refine wln (cn H (fun y2 H=>?_) (fun y2 H=>?_))
   ·refine sr (va (I a) (vv (I (w64 (a+1))) (wln (W.ret (bkr (thr ?_))))));obtain rfl:=si H;refine ⟨_,rfl,⟨rfl,?_⟩⟩;have g2:=c1.sD 9 [];exact jn d1 ⟨g2,rfl⟩
   refine W.skip (bkn (nrm (W.region (va (I a) (vv (I (w64 (a+1))) (WL.nil ?_))))));obtain rfl:=si H;exact ⟨_,rfl,jn d1 ⟨c1,rfl⟩⟩
  refine W.exit (thx ?_);obtain rfl:=si H;exact ⟨_,rfl,rfl,jn l2 ⟨y0,rfl⟩⟩
 ·exact jn u0 ⟨f2,rfl⟩
 rcases a1 with a1 | a1
 ·intro w3; revert w3;rintro _ e_ w_ ⟨rfl,m2,e5,_,rfl,k5,rfl,h2,rfl⟩;refine bkr (thr ?_);obtain rfl:=si i;exact r1 (qq m2 ⟨h2,rfl⟩)
 rintro _ e_ w_ ⟨rfl,c5,f5,_,rfl,l5,rfl,i2,rfl⟩;refine bke (nrm (sr (va (J p0) (bn i fun f3 z2 i=>cl (pK i2 p0 z2) ?_))));rintro o5 n2 m5 ⟨j2,rfl⟩;refine va (I f3) (wln (W.ret ?_));obtain rfl:=si i;have k2:=j2.sD 9 [];exact r1 (qq n2 ⟨k2,rfl⟩)
def fZ:List (Int×Int):=[(169,169),(174,174),(8252,8252),(8265,8265),(8482,8482),(8505,8505),(8596,8601),(8617,8618),(8986,8987),(9000,9000),(9096,9096),(9167,9167),(9193,9203),(9208,9210),(9410,9410),(9642,9643),(9654,9654),(9664,9664),(9723,9726),(9728,9733),(9735,9746),(9748,9861),(9872,9989),(9992,10002),(10004,10004),(10006,10006),(10013,10013),(10017,10017),(10024,10024),(10035,10036),(10052,10052),(10055,10055),(10060,10060),(10062,10062),(10067,10069),(10071,10071),(10083,10087),(10133,10135),(10145,10145),(10160,10160),(10175,10175),(10548,10549),(11013,11015),(11035,11036),(11088,11088),(11093,11093),(12336,12336),(12349,12349),(12951,12951),(12953,12953),(126976,127231),(127245,127247),(127279,127279),(127340,127345),(127358,127359),(127374,127374),(127377,127386),(127405,127461),(127489,127503),(127514,127514),(127535,127535),(127538,127546),(127548,127551),(127561,127994),(128000,128317),(128326,128591),(128640,128767),(128884,128895),(128981,129023),(129036,129039),(129096,129103),(129114,129119),(129160,129167),(129198,129279),(129292,129338),(129340,129349),(129351,129791),(130048,131069)]
def iI:Option (List (Int×Int)):=
 some fZ
theorem qn (d:Own c0 G F) {r:List (Int×Int)} (H:iI=some r): Calls prog 296 #[] c0.w (aT c0 fun c v=>∃a b,Own c G (es true aW a 342 b r :: F)∧v=a∧OA aW c a b r):=by
 unfold iI at H;refine en func296 rfl rfl (sr (va (Y) (wln (sr (va (III 169 169) (va (III 174 174) (va (III 8252 8252) (va (III 8265 8265) (va (III 8482 8482) (va (III 8505 8505) (va (III 8596 8601) (va (III 8617 8618) (va (III 8986 8987) (va (III 9000 9000) (va (III 9096 9096) (va (III 9167 9167) (va (III 9193 9203) (va (III 9208 9210) (va (III 9410 9410) (va (III 9642 9643) (va (III 9654 9654) (va (III 9664 9664) (va (III 9723 9726) (va (III 9728 9733) (va (III 9735 9746) (va (III 9748 9861) (va (III 9872 9989) (va (III 9992 10002) (va (III 10004 10004) (va (III 10006 10006) (va (III 10013 10013) (va (III 10017 10017) (va (III 10024 10024) (va (III 10035 10036) (va (III 10052 10052) (va (III 10055 10055) (va (III 10060 10060) (va (III 10062 10062) (va (III 10067 10069) (va (III 10071 10071) (va (III 10083 10087) (va (III 10133 10135) (va (III 10145 10145) (va (III 10160 10160) (va (III 10175 10175) (va (III 10548 10549) (va (III 11013 11015) (va (III 11035 11036) (va (III 11088 11088) (va (III 11093 11093) (va (III 12336 12336) (va (III 12349 12349) (va (III 12951 12951) (va (III 12953 12953) (va (III 126976 127231) (va (III 127245 127247) (va (III 127279 127279) (va (III 127340 127345) (va (III 127358 127359) (va (III 127374 127374) (va (III 127377 127386) (va (III 127405 127461) (va (III 127489 127503) (va (III 127514 127514) (va (III 127535 127535) (va (III 127538 127546) (va (III 127548 127551) (va (III 127561 127994) (va (III 128000 128317) (va (III 128326 128591) (va (III 128640 128767) (va (III 128884 128895) (va (III 128981 129023) (va (III 129036 129039) (va (III 129096 129103) (va (III 129114 129119) (va (III 129160 129167) (va (III 129198 129279) (va (III 129292 129338) (va (III 129340 129349) (va (III 129351 129791) (va (III 130048 131069) (me (Own.sl (R:=aW) (E:=342) (ls:=fZ.map (fun x=>[I x.1,I x.2])) (vs:=(fZ.map (fun x=>[I x.1,I x.2])).flatten) (xs:=fZ) true d (aX _) rfl (nQ.map _ (fun _=>rfl) _) (by kernel_rfl) (by kernel_rfl)) ?_)))))))))))))))))))))))))))))))))))))))))))))))))))))))))))))))))))))))))))))))))));rintro v5 f i ⟨h,e,g⟩;refine va (v5) (wln (W.ret ?_));obtain rfl:=si H;exact r1 (qq f ⟨v5,h,e,rfl,g⟩)
def gP (p0:Int):Option (Bool):=
 (iI).bind fun a=>
 (dG a p0).bind fun b=>
 some b
theorem rI (l:Own c0 G F) (a:Int) {r:Bool} (H:gP a=some r): Calls prog 256 #[J a] c0.w (aT c0 fun c v=>Own c G (F)∧v=B r):=by
 unfold gP at H;refine en func256 rfl rfl (sr (va (B false) (wln (sr (bn H fun j n H=>cl (qn l n) ?_)))));rintro v2 t u ⟨_,x,m,rfl,o⟩;refine va (J a) ?_;obtain ⟨p,h,q,b,g⟩:=m.frz 0 rfl o;refine WL.gh h (bn H fun k i H=>cl (ju b j a g i) ?_);rintro v21 f s ⟨d,rfl⟩;refine va (B k) (wln (W.ret ?_));obtain rfl:=si H;have e:=d.sD 1 [];exact r1 (qq f ⟨e,rfl⟩)
def fC:List (Int×Int):=[(2325,2361),(2392,2399),(2424,2431),(2453,2472),(2474,2480),(2482,2482),(2486,2489),(2524,2525),(2527,2527),(2544,2545),(2709,2728),(2730,2736),(2738,2739),(2741,2745),(2809,2809),(2837,2856),(2858,2864),(2866,2867),(2869,2873),(2908,2909),(2911,2911),(2929,2929),(3093,3112),(3114,3129),(3160,3162),(3349,3386)]
def ic:Option (List (Int×Int)):=
 some fC
theorem pA (d:Own c0 G F) {r:List (Int×Int)} (H:ic=some r): Calls prog 297 #[] c0.w (aT c0 fun c v=>∃a b,Own c G (es true aW a 342 b r :: F)∧v=a∧OA aW c a b r):=by
 unfold ic at H;refine en func297 rfl rfl (sr (va (Y) (wln (sr (va (III 2325 2361) (va (III 2392 2399) (va (III 2424 2431) (va (III 2453 2472) (va (III 2474 2480) (va (III 2482 2482) (va (III 2486 2489) (va (III 2524 2525) (va (III 2527 2527) (va (III 2544 2545) (va (III 2709 2728) (va (III 2730 2736) (va (III 2738 2739) (va (III 2741 2745) (va (III 2809 2809) (va (III 2837 2856) (va (III 2858 2864) (va (III 2866 2867) (va (III 2869 2873) (va (III 2908 2909) (va (III 2911 2911) (va (III 2929 2929) (va (III 3093 3112) (va (III 3114 3129) (va (III 3160 3162) (va (III 3349 3386) (me (Own.sl (R:=aW) (E:=342) (ls:=fC.map (fun x=>[I x.1,I x.2])) (vs:=(fC.map (fun x=>[I x.1,I x.2])).flatten) (xs:=fC) true d (aX _) rfl (nQ.map _ (fun _=>rfl) _) (by kernel_rfl) (by kernel_rfl)) ?_)))))))))))))))))))))))))))))));rintro v5 f i ⟨h,e,g⟩;refine va (v5) (wln (W.ret ?_));obtain rfl:=si H;exact r1 (qq f ⟨v5,h,e,rfl,g⟩)
def ib:Option (List (Int×Int)):=
 some ([(2381,2381),(2509,2509),(2765,2765),(2893,2893),(3149,3149),(3405,3405)]:List (Int×Int))
theorem py (d:Own c0 G F) {r:List (Int×Int)} (H:ib=some r): Calls prog 298 #[] c0.w (aT c0 fun c v=>∃a b,Own c G (es true aW a 342 b r :: F)∧v=a∧OA aW c a b r):=by
 unfold ib at H;refine en func298 rfl rfl (sr (va (Y) (wln (sr (va (III 2381 2381) (va (III 2509 2509) (va (III 2765 2765) (va (III 2893 2893) (va (III 3149 3149) (va (III 3405 3405) (me (sl aW 342 [[I 2381,I 2381],[I 2509,I 2509],[I 2765,I 2765],[I 2893,I 2893],[I 3149,I 3149],[I 3405,I 3405]] ([(2381,2381),(2509,2509),(2765,2765),(2893,2893),(3149,3149),(3405,3405)]:List (Int×Int)) d ⟨rfl,rfl,rfl,rfl,rfl,rfl,trivial⟩) ?_)))))))))));rintro v5 f i ⟨h,e,g⟩;refine va (v5) (wln (W.ret ?_));obtain rfl:=si H;exact r1 (qq f ⟨v5,h,e,rfl,g⟩)
def hU:Option (List (Int×Int)):=
 some ([(768,879),(1155,1159),(1425,1469),(1552,1562),(1611,1631),(2364,2364),(2385,2388),(2492,2492),(2748,2748),(2876,2876),(3132,3132),(6832,6845),(7616,7679),(8205,8205),(8400,8412),(12330,12335),(12441,12442),(65056,65071)]:List (Int×Int))
theorem px (d:Own c0 G F) {r:List (Int×Int)} (H:hU=some r): Calls prog 299 #[] c0.w (aT c0 fun c v=>∃a b,Own c G (es true aW a 342 b r :: F)∧v=a∧OA aW c a b r):=by
 unfold hU at H;refine en func299 rfl rfl (sr (va (Y) (wln (sr (va (III 768 879) (va (III 1155 1159) (va (III 1425 1469) (va (III 1552 1562) (va (III 1611 1631) (va (III 2364 2364) (va (III 2385 2388) (va (III 2492 2492) (va (III 2748 2748) (va (III 2876 2876) (va (III 3132 3132) (va (III 6832 6845) (va (III 7616 7679) (va (III 8205 8205) (va (III 8400 8412) (va (III 12330 12335) (va (III 12441 12442) (va (III 65056 65071) (me (sl aW 342 [[I 768,I 879],[I 1155,I 1159],[I 1425,I 1469],[I 1552,I 1562],[I 1611,I 1631],[I 2364,I 2364],[I 2385,I 2388],[I 2492,I 2492],[I 2748,I 2748],[I 2876,I 2876],[I 3132,I 3132],[I 6832,I 6845],[I 7616,I 7679],[I 8205,I 8205],[I 8400,I 8412],[I 12330,I 12335],[I 12441,I 12442],[I 65056,I 65071]] ([(768,879),(1155,1159),(1425,1469),(1552,1562),(1611,1631),(2364,2364),(2385,2388),(2492,2492),(2748,2748),(2876,2876),(3132,3132),(6832,6845),(7616,7679),(8205,8205),(8400,8412),(12330,12335),(12441,12442),(65056,65071)]:List (Int×Int)) d ⟨rfl,rfl,rfl,rfl,rfl,rfl,rfl,rfl,rfl,rfl,rfl,rfl,rfl,rfl,rfl,rfl,rfl,rfl,trivial⟩) ?_)))))))))))))))))))))));rintro v5 f i ⟨h,e,g⟩;refine va (v5) (wln (W.ret ?_));obtain rfl:=si H;exact r1 (qq f ⟨v5,h,e,rfl,g⟩)
def gO (p0:Int):Option (Int):=
 (ic).bind fun c=>
 (ib).bind fun d=>
 (hU).bind fun e=>
 (cJ (σ:=Int) (τ:=Int ⊕ Unit) (((([c,d,e]:List (List (Int×Int))).length:Int) - 0).toNat+1) (fun b=>
 if (decide (b < (([c,d,e]:List (List (Int×Int))).length:Int)))=true then
 (idx ([c,d,e]:List (List (Int×Int))) b).bind fun f=>
 (dG f p0).bind fun g=>
 if g=true then
 some (.inr (.inl (w64 (b+1))))
 else
 some (.inl ((w64 (b+1))))
 else
 some (.inr (.inr ()))) (0)).bind fun a=>
 match a with
 | .inl a=>
 some a
 | .inr a=>
 some 0
theorem rH (O0:Own c0 G F) (E:Int) {r:Int} (H:gO E=some r): Calls prog 257 #[J E] c0.w (aT c0 fun c v=>Own c G (F)∧v=I r):=by
 unfold gO at H;refine en func257 rfl rfl (sr (va (I 0) (wln (sr (bn H fun b h1 H=>cl (pA O0 h1) ?_)))));rintro v2 c9 l9 ⟨_,u3,O6,rfl,h4⟩;refine bn H fun d a1 H=>cl (py O6 a1) ?_;rintro v12 g2 p1 ⟨_,b0,h0,rfl,b1⟩;refine bn H fun f c1 H=>cl (px h0 c1) ?_;rintro v22 h2 U ⟨_,d0,i0,rfl,d1⟩;obtain ⟨i2,e1,X,j0,P⟩:=i0.frz 2 rfl (h4.mono (p1.trans U));refine WL.gh e1 ?_;obtain ⟨j2,f1,Z,k0,R⟩:=j0.frz 1 rfl (b1.mono (U.trans X));refine WL.gh f1 ?_;obtain ⟨k2,g1,a0,l0,S⟩:=k0.frz 0 rfl (d1.mono (X.trans Z));refine WL.gh g1 ?_;obtain ⟨h,i,k,rfl⟩:=((P.mono (Z.trans a0))).form;obtain ⟨n,o,p,rfl⟩:=((R.mono a0)).form;obtain ⟨q,s,u,rfl⟩:=(S).form;refine me (sl (RL aW) 333 [[.slice h i k],[.slice n o p],[.slice q s u]] ([b,d,f]:List (List (Int×Int))) l0 ⟨⟨(.slice h i k),rfl,P.m⟩,⟨(.slice n o p),rfl,R.m⟩,⟨(.slice q s u),rfl,S⟩,trivial⟩) ?_;rintro v56 x o2 ⟨e0,m0,y⟩;refine va (v56) (wln (W.seq (sr (va (I 0) (wln (W.block (bn H fun g T z=>lp T (fun a=>Jn x fun c l=>Own c G (es true (RL aW) v56 333 e0 ([b,d,f]:List (List (Int×Int))) :: es false aW (.slice q s u) 342 d0 f :: es false aW (.slice n o p) 342 b0 d :: es false aW (.slice h i k) 342 u3 b :: F)∧l= [(0,J E),(3,v56),(4,I a)]) (fun t=>match t with | .inl x_=>(fun t1 ex e w=>ex= .ret∧(Jn x fun c l=>Own c G (F)∧l= [(2,I t1)]) e w) x_ | .inr x_=>(fun y1 ex e w=>ex= .exit 0∧(Jn x fun c l=>Own c G (es true (RL aW) v56 333 e0 ([b,d,f]:List (List (Int×Int))) :: es false aW (.slice q s u) 342 d0 f :: es false aW (.slice n o p) 342 b0 d :: es false aW (.slice h i k) 342 u3 b :: F)∧l= []) e w) x_) ?_ ?_ ?_)))))))
 ·clear z T;intro a u2 y0 x1 H;revert y0 x1;rintro e_ w_ ⟨u0,l2,_,rfl,q1,rfl,A,rfl⟩;refine W.seq (sr (va (I a) (va (v56) (vx (lnO 3 vZ y.m) (va (B (decide (a < (([b,d,f]:List (List (Int×Int))).length:Int)))) (wln (cn H (fun i1 H=>?_) (fun i1 H=>?_))))))))
  ·refine W.skip (nrm (W.seq (W.block (sr (va (v56) (va (I a) (bn H fun g0 D H=>vx (ixO vZ y.m D) ?_)))))));obtain ⟨e2,j1,s1⟩:=OA.at (y.mono q1) D;obtain ⟨v1,rfl,k1⟩:=j1;refine vr v1 (rx (by kernel_rfl) (ry wb rfl (A.on 0 rfl) (y.m.blk D) (at1 (j:=0) s1 rfl))) (va (J E) (bn H fun f2 m1 H=>cl (ju A g0 E k1 m1) ?_));rintro t2 N p2 ⟨M,rfl⟩;refine wln (cn H (fun n1 H=>?_) (fun n1 H=>?_))
   ·refine sr (va (I a) (vv (I (w64 (a+1))) (wln (W.ret (bkr (thr ?_))))));obtain rfl:=si H;refine ⟨_,rfl,⟨rfl,?_⟩⟩;have o0:=M.sD 4 [];exact jn N ⟨o0,rfl⟩
   refine W.skip (bkn (nrm (W.region (va (I a) (vv (I (w64 (a+1))) (WL.nil ?_))))));obtain rfl:=si H;exact ⟨_,rfl,jn N ⟨M,rfl⟩⟩
  refine W.exit (thx ?_);obtain rfl:=si H;exact ⟨_,rfl,rfl,jn u0 ⟨A,rfl⟩⟩
 ·exact jn x ⟨m0,rfl⟩
 rcases g with g | g
 ·intro z0; revert z0;rintro _ e_ w_ ⟨rfl,v0,m2,_,rfl,q2,rfl,q0,rfl⟩;refine bkr (thr ?_);obtain rfl:=si z;exact r1 (qq v0 ⟨q0,rfl⟩)
 rintro _ e_ w_ ⟨rfl,w0,n2,_,rfl,s2,rfl,s0,rfl⟩;refine bke (nrm (sr (va (I 0) (wln (W.ret ?_)))));obtain rfl:=si z;have t0:=s0.sD 4 [];exact r1 (qq w0 ⟨t0,rfl⟩)
def fa:List (Int×Int):=[(4352,4447),(8986,8987),(9001,9002),(9193,9196),(9200,9200),(9203,9203),(9725,9726),(9748,9749),(9800,9811),(9855,9855),(9875,9875),(9889,9889),(9898,9899),(9917,9918),(9924,9925),(9934,9934),(9940,9940),(9962,9962),(9970,9971),(9973,9973),(9978,9978),(9981,9981),(9989,9989),(9994,9995),(10024,10024),(10060,10060),(10062,10062),(10067,10069),(10071,10071),(10133,10135),(10160,10160),(10175,10175),(11035,11036),(11088,11088),(11093,11093),(11904,11929),(11931,12019),(12032,12245),(12272,12287),(12289,12350),(12353,12438),(12441,12543),(12549,12591),(12593,12686),(12688,12771),(12784,12830),(12832,12871),(12880,19903),(19968,42124),(42128,42182),(43360,43388),(44032,55203),(63744,64255),(65040,65049),(65072,65106),(65108,65126),(65128,65131),(94176,94180),(94208,100343),(100352,101589),(110592,110882),(126980,126980),(127183,127183),(127374,127374),(127377,127386),(127488,127490),(127504,127547),(127552,127560),(127568,127569),(127584,127589),(127744,127776),(127789,127797),(127799,127868),(127870,127891),(127904,127946),(127951,127955),(127968,127984),(127988,127988),(127992,128062),(128064,128064),(128066,128252),(128255,128317),(128331,128334),(128336,128359),(128378,128378),(128405,128406),(128420,128420),(128507,128591),(128640,128709),(128716,128716),(128720,128722),(128725,128727),(128732,128735),(128747,128748),(128756,128764),(128992,129003),(129008,129008),(129292,129338),(129340,129349),(129351,129535),(129648,129660),(129664,129672),(129680,129725),(129727,129733),(129742,129755),(129760,129768),(129776,129784),(131072,196605),(196608,262141)]
def gZ:Option (List (Int×Int)):=
 some fa
theorem pv (d:Own c0 G F) {r:List (Int×Int)} (H:gZ=some r): Calls prog 300 #[] c0.w (aT c0 fun c v=>∃a b,Own c G (es true aW a 342 b r :: F)∧v=a∧OA aW c a b r):=by
 unfold gZ at H;refine en func300 rfl rfl (sr (va (Y) (wln (sr (va (III 4352 4447) (va (III 8986 8987) (va (III 9001 9002) (va (III 9193 9196) (va (III 9200 9200) (va (III 9203 9203) (va (III 9725 9726) (va (III 9748 9749) (va (III 9800 9811) (va (III 9855 9855) (va (III 9875 9875) (va (III 9889 9889) (va (III 9898 9899) (va (III 9917 9918) (va (III 9924 9925) (va (III 9934 9934) (va (III 9940 9940) (va (III 9962 9962) (va (III 9970 9971) (va (III 9973 9973) (va (III 9978 9978) (va (III 9981 9981) (va (III 9989 9989) (va (III 9994 9995) (va (III 10024 10024) (va (III 10060 10060) (va (III 10062 10062) (va (III 10067 10069) (va (III 10071 10071) (va (III 10133 10135) (va (III 10160 10160) (va (III 10175 10175) (va (III 11035 11036) (va (III 11088 11088) (va (III 11093 11093) (va (III 11904 11929) (va (III 11931 12019) (va (III 12032 12245) (va (III 12272 12287) (va (III 12289 12350) (va (III 12353 12438) (va (III 12441 12543) (va (III 12549 12591) (va (III 12593 12686) (va (III 12688 12771) (va (III 12784 12830) (va (III 12832 12871) (va (III 12880 19903) (va (III 19968 42124) (va (III 42128 42182) (va (III 43360 43388) (va (III 44032 55203) (va (III 63744 64255) (va (III 65040 65049) (va (III 65072 65106) (va (III 65108 65126) (va (III 65128 65131) (va (III 94176 94180) (va (III 94208 100343) (va (III 100352 101589) (va (III 110592 110882) (va (III 126980 126980) (va (III 127183 127183) (va (III 127374 127374) (va (III 127377 127386) (va (III 127488 127490) (va (III 127504 127547) (va (III 127552 127560) (va (III 127568 127569) (va (III 127584 127589) (va (III 127744 127776) (va (III 127789 127797) (va (III 127799 127868) (va (III 127870 127891) (va (III 127904 127946) (va (III 127951 127955) (va (III 127968 127984) (va (III 127988 127988) (va (III 127992 128062) (va (III 128064 128064) (va (III 128066 128252) (va (III 128255 128317) (va (III 128331 128334) (va (III 128336 128359) (va (III 128378 128378) (va (III 128405 128406) (va (III 128420 128420) (va (III 128507 128591) (va (III 128640 128709) (va (III 128716 128716) (va (III 128720 128722) (va (III 128725 128727) (va (III 128732 128735) (va (III 128747 128748) (va (III 128756 128764) (va (III 128992 129003) (va (III 129008 129008) (va (III 129292 129338) (va (III 129340 129349) (va (III 129351 129535) (va (III 129648 129660) (va (III 129664 129672) (va (III 129680 129725) (va (III 129727 129733) (va (III 129742 129755) (va (III 129760 129768) (va (III 129776 129784) (va (III 131072 196605) (va (III 196608 262141) (me (Own.sl (R:=aW) (E:=342) (ls:=fa.map (fun x=>[I x.1,I x.2])) (vs:=(fa.map (fun x=>[I x.1,I x.2])).flatten) (xs:=fa) true d (aX _) rfl (nQ.map _ (fun _=>rfl) _) (by kernel_rfl) (by kernel_rfl)) ?_))))))))))))))))))))))))))))))))))))))))))))))))))))))))))))))))))))))))))))))))))))))))))))))))))))))))))))))))));rintro v5 f i ⟨h,e,g⟩;refine va (v5) (wln (W.ret ?_));obtain rfl:=si H;exact r1 (qq f ⟨v5,h,e,rfl,g⟩)
def gY:Option (List (Int×Int)):=
 some ([(12288,12288),(65281,65376),(65504,65510)]:List (Int×Int))
theorem pu (d:Own c0 G F) {r:List (Int×Int)} (H:gY=some r): Calls prog 301 #[] c0.w (aT c0 fun c v=>∃a b,Own c G (es true aW a 342 b r :: F)∧v=a∧OA aW c a b r):=by
 unfold gY at H;refine en func301 rfl rfl (sr (va (Y) (wln (sr (va (III 12288 12288) (va (III 65281 65376) (va (III 65504 65510) (me (sl aW 342 [[I 12288,I 12288],[I 65281,I 65376],[I 65504,I 65510]] ([(12288,12288),(65281,65376),(65504,65510)]:List (Int×Int)) d ⟨rfl,rfl,rfl,trivial⟩) ?_))))))));rintro v5 f i ⟨h,e,g⟩;refine va (v5) (wln (W.ret ?_));obtain rfl:=si H;exact r1 (qq f ⟨v5,h,e,rfl,g⟩)
def gX:Option (List (Int×Int)):=
 some ([(8361,8361),(65377,65470),(65474,65479),(65482,65487),(65490,65495),(65498,65500),(65512,65518)]:List (Int×Int))
theorem pq (d:Own c0 G F) {r:List (Int×Int)} (H:gX=some r): Calls prog 302 #[] c0.w (aT c0 fun c v=>∃a b,Own c G (es true aW a 342 b r :: F)∧v=a∧OA aW c a b r):=by
 unfold gX at H;refine en func302 rfl rfl (sr (va (Y) (wln (sr (va (III 8361 8361) (va (III 65377 65470) (va (III 65474 65479) (va (III 65482 65487) (va (III 65490 65495) (va (III 65498 65500) (va (III 65512 65518) (me (sl aW 342 [[I 8361,I 8361],[I 65377,I 65470],[I 65474,I 65479],[I 65482,I 65487],[I 65490,I 65495],[I 65498,I 65500],[I 65512,I 65518]] ([(8361,8361),(65377,65470),(65474,65479),(65482,65487),(65490,65495),(65498,65500),(65512,65518)]:List (Int×Int)) d ⟨rfl,rfl,rfl,rfl,rfl,rfl,rfl,trivial⟩) ?_))))))))))));rintro v5 f i ⟨h,e,g⟩;refine va (v5) (wln (W.ret ?_));obtain rfl:=si H;exact r1 (qq f ⟨v5,h,e,rfl,g⟩)
def gN (p0:Int):Option (Int):=
 (gZ).bind fun c=>
 (gY).bind fun d=>
 (gX).bind fun e=>
 (cJ (σ:=Int) (τ:=Int ⊕ Unit) (((([c,d,e]:List (List (Int×Int))).length:Int) - 0).toNat+1) (fun b=>
 if (decide (b < (([c,d,e]:List (List (Int×Int))).length:Int)))=true then
 (idx ([c,d,e]:List (List (Int×Int))) b).bind fun f=>
 (dG f p0).bind fun g=>
 if g=true then
 some (.inr (.inl (w64 (b+1))))
 else
 some (.inl ((w64 (b+1))))
 else
 some (.inr (.inr ()))) (0)).bind fun a=>
 match a with
 | .inl a=>
 some a
 | .inr a=>
 some 0
theorem rG (O0:Own c0 G F) (E:Int) {r:Int} (H:gN E=some r): Calls prog 258 #[J E] c0.w (aT c0 fun c v=>Own c G (F)∧v=I r):=by
 unfold gN at H;refine en func258 rfl rfl (sr (va (I 0) (wln (sr (bn H fun b h1 H=>cl (pv O0 h1) ?_)))));rintro v2 c9 l9 ⟨_,u3,O6,rfl,h4⟩;refine bn H fun d a1 H=>cl (pu O6 a1) ?_;rintro v12 g2 p1 ⟨_,b0,h0,rfl,b1⟩;refine bn H fun f c1 H=>cl (pq h0 c1) ?_;rintro v22 h2 U ⟨_,d0,i0,rfl,d1⟩;obtain ⟨i2,e1,X,j0,P⟩:=i0.frz 2 rfl (h4.mono (p1.trans U));refine WL.gh e1 ?_;obtain ⟨j2,f1,Z,k0,R⟩:=j0.frz 1 rfl (b1.mono (U.trans X));refine WL.gh f1 ?_;obtain ⟨k2,g1,a0,l0,S⟩:=k0.frz 0 rfl (d1.mono (X.trans Z));refine WL.gh g1 ?_;obtain ⟨h,i,k,rfl⟩:=((P.mono (Z.trans a0))).form;obtain ⟨n,o,p,rfl⟩:=((R.mono a0)).form;obtain ⟨q,s,u,rfl⟩:=(S).form;refine me (sl (RL aW) 333 [[.slice h i k],[.slice n o p],[.slice q s u]] ([b,d,f]:List (List (Int×Int))) l0 ⟨⟨(.slice h i k),rfl,P.m⟩,⟨(.slice n o p),rfl,R.m⟩,⟨(.slice q s u),rfl,S⟩,trivial⟩) ?_;rintro v56 x o2 ⟨e0,m0,y⟩;refine va (v56) (wln (W.seq (sr (va (I 0) (wln (W.block (bn H fun g T z=>lp T (fun a=>Jn x fun c l=>Own c G (es true (RL aW) v56 333 e0 ([b,d,f]:List (List (Int×Int))) :: es false aW (.slice q s u) 342 d0 f :: es false aW (.slice n o p) 342 b0 d :: es false aW (.slice h i k) 342 u3 b :: F)∧l= [(0,J E),(3,v56),(4,I a)]) (fun t=>match t with | .inl x_=>(fun t1 ex e w=>ex= .ret∧(Jn x fun c l=>Own c G (F)∧l= [(2,I t1)]) e w) x_ | .inr x_=>(fun y1 ex e w=>ex= .exit 0∧(Jn x fun c l=>Own c G (es true (RL aW) v56 333 e0 ([b,d,f]:List (List (Int×Int))) :: es false aW (.slice q s u) 342 d0 f :: es false aW (.slice n o p) 342 b0 d :: es false aW (.slice h i k) 342 u3 b :: F)∧l= []) e w) x_) ?_ ?_ ?_)))))))
 ·clear z T;intro a u2 y0 x1 H;revert y0 x1;rintro e_ w_ ⟨u0,l2,_,rfl,q1,rfl,A,rfl⟩;refine W.seq (sr (va (I a) (va (v56) (vx (lnO 3 vZ y.m) (va (B (decide (a < (([b,d,f]:List (List (Int×Int))).length:Int)))) (wln (cn H (fun i1 H=>?_) (fun i1 H=>?_))))))))
  ·refine W.skip (nrm (W.seq (W.block (sr (va (v56) (va (I a) (bn H fun g0 D H=>vx (ixO vZ y.m D) ?_)))))));obtain ⟨e2,j1,s1⟩:=OA.at (y.mono q1) D;obtain ⟨v1,rfl,k1⟩:=j1;refine vr v1 (rx (by kernel_rfl) (ry wb rfl (A.on 0 rfl) (y.m.blk D) (at1 (j:=0) s1 rfl))) (va (J E) (bn H fun f2 m1 H=>cl (ju A g0 E k1 m1) ?_));rintro t2 N p2 ⟨M,rfl⟩;refine wln (cn H (fun n1 H=>?_) (fun n1 H=>?_))
   ·refine sr (va (I a) (vv (I (w64 (a+1))) (wln (W.ret (bkr (thr ?_))))));obtain rfl:=si H;refine ⟨_,rfl,⟨rfl,?_⟩⟩;have o0:=M.sD 4 [];exact jn N ⟨o0,rfl⟩
   refine W.skip (bkn (nrm (W.region (va (I a) (vv (I (w64 (a+1))) (WL.nil ?_))))));obtain rfl:=si H;exact ⟨_,rfl,jn N ⟨M,rfl⟩⟩
  refine W.exit (thx ?_);obtain rfl:=si H;exact ⟨_,rfl,rfl,jn u0 ⟨A,rfl⟩⟩
 ·exact jn x ⟨m0,rfl⟩
 rcases g with g | g
 ·intro z0; revert z0;rintro _ e_ w_ ⟨rfl,v0,m2,_,rfl,q2,rfl,q0,rfl⟩;refine bkr (thr ?_);obtain rfl:=si z;exact r1 (qq v0 ⟨q0,rfl⟩)
 rintro _ e_ w_ ⟨rfl,w0,n2,_,rfl,s2,rfl,s0,rfl⟩;refine bke (nrm (sr (va (I 0) (wln (W.ret ?_)))));obtain rfl:=si z;have t0:=s0.sD 4 [];exact r1 (qq w0 ⟨t0,rfl⟩)
def ez (p0:Int):Option (ao):=
 (gQ p0).bind fun b=>
 (gP p0).bind fun c=>
 (gO p0).bind fun d=>
 (gN p0).bind fun a=>
 some (⟨b,c,d,a⟩:ao)
theorem rF (p:Own c0 G F) (a:Int) {r:ao} (H:ez a=some r): Calls prog 201 #[J a] c0.w (aT c0 fun c v=>Own c G (F)∧v= .agg #[I r.Break,B r.Pict,I r.Conj,I r.East]):=by
 unfold ez at H;refine en func201 rfl rfl (sr (me (al 238 [I 0,B false,I 0,I 0] p) ?_));rintro v4 R S ⟨P,rfl,q⟩;refine wln (sr (va (J a) (bn H fun d t H=>cl (rJ q a t) ?_)));rintro v11 u A ⟨s,rfl⟩;refine va (J a) (bn H fun e m H=>cl (rI s a m) ?_);rintro v18 x D ⟨i,rfl⟩;refine va (J a) (bn H fun f n H=>cl (rH i a n) ?_);rintro v25 y E ⟨j,rfl⟩;refine va (J a) (bn H fun b o H=>cl (rG j a o) ?_);rintro v32 z M ⟨k,rfl⟩;refine va (.agg #[I d,B e,I f,I b]) (md (sA 238 [I d,B e,I f,I b] 0 k ⟨rfl,rfl,rfl,rfl,trivial⟩) ?_);rintro h N g;refine wln (W.ret ?_);obtain rfl:=si H;have l:=g.sD 1 [];exact rV (c:=h) (vs:=[I d,B e,I f,I b]) rfl (by kernel_rfl) (by kernel_rfl) (by kernel_rfl) (g.on 0 rfl _ rfl).1 ⟨_,h,rfl,rfl,pt,l,rfl⟩
def fe (p0:List Int):Option (List ao):=
 (cJ (σ:=(List ao)×Int) (τ:=(List ao)) (((p0.length:Int) - 0).toNat+1) (fun a=>
 if (decide (a.2 < (p0.length:Int)))=true then
 (idx p0 a.2).bind fun b=>
 (ez b).bind fun c=>
 (app a.1 ([c]:List ao)).bind fun d=>
 some (.inl (d,(w64 (a.2+1))))
 else
 some (.inr (a.1))) (([]:List ao),0)).bind fun e=>
 some e
theorem pm (O0:Own c0 G F) (n:List Int) {r:List ao} (k:Sl (RI .i32) c0 v1 n) (H:fe n=some r): Calls prog 132 #[v1] c0.w (aT c0 fun c v=>∃p y2,Own c G (es true dV p 238 y2 r :: F)∧v=p∧OA dV c p y2 r):=by
 unfold fe at H;refine en func132 rfl rfl (sr (va (Y) (wln (sr (va (Y) (wln (W.seq (sr (va (I 0) (wln (W.block (bn H fun c1 S q=>lp S (fun a=>Jn c0 fun c l=>∃v5 f,Own c G (es true dV v5 238 f a.1 :: F)∧l= [(0,v1),(3,v5),(4,I a.2)]∧OA dV c v5 f a.1) (fun d ex e w=>ex= .exit 0∧(Jn c0 fun c l=>∃v7 g,Own c G (es true dV v7 238 g d :: F)∧l= [(3,v7)]∧OA dV c v7 g d) e w) ?_ ?_ ?_))))))))))))
 ·clear q S;intro a e1 M g0 H;revert M g0;rintro e_ w_ ⟨c9,v0,_,rfl,l9,rfl,v5,f,h,rfl,i⟩;refine W.seq (sr (va (I a.2) (va (v1) (vx (ln 3 cS k.m) (va (B (decide (a.2 < (n.length:Int)))) (wln (cn H (fun N H=>?_) (fun N H=>?_))))))))
  ·refine W.skip (nrm (W.seq (W.block (W.region (va (v5) (va (v1) (va (I a.2) (bn H fun o j H=>?_))))))));obtain ⟨m0,P,e0⟩:=Sl.at (k.mono l9) (bz j);obtain rfl:=P;refine vx (ix cS k.m j) (vx (l1 mf (e0 0 _ rfl)) (bn H fun b R H=>cl (rF h o R) ?_));rintro v27 s0 x0 ⟨s,rfl⟩;refine me (sl dV 238 [[I b.Break,B b.Pict,I b.Conj,I b.East]] ([b]:List ao) s ⟨rfl,trivial⟩) ?_;rintro v32 t0 y0 ⟨d1,t,T⟩;obtain ⟨u0,X,z0,u,U⟩:=t.frz 0 rfl T;refine WL.gh X (bn H fun q0 Z H=>me (ap dV (.agg #[I 0,B false,I 0,I 0]) 32 191 1 u i.m U Z mE) ?_);rintro v42 D a1 ⟨f0,x,a0⟩;refine va (v42) (WL.nil (bkn (nrm (W.region (va (I a.2) (vv (I (w64 (a.2+1))) (WL.nil ?_)))))));obtain rfl:=si H;refine ⟨_,rfl,?_⟩;have y:=x.sD 2 [1];exact jn D ⟨v42,f0,y,rfl,a0⟩
  refine W.exit (thx ?_);obtain rfl:=si H;exact ⟨_,rfl,rfl,jn c9 ⟨v5,f,h,rfl,i⟩⟩
 ·have b0:OA dV c0 (Y) [] []:=OA.nil (aX _);have z:=O0.addHole (e:=es true dV (Y) 238 [] ([]:List ao)) rfl;exact jn c0 ⟨(Y),[],z,rfl,b0⟩
 rintro _ e_ w_ ⟨rfl,E,w0,_,rfl,b1,rfl,v7,g,A,rfl,d0⟩;refine bke (nrm (sr (vv (v7) (wln (W.ret ?_)))));obtain rfl:=si q;exact r1 (qq E ⟨v7,g,A,rfl,d0⟩)
def jZ:Option (List ByteArray):=
 some ([(⟨#[48,48,48,48,49,49,48,48,49,48,48,48,48,48]⟩:ByteArray),(⟨#[48,48,49,48,48,48,48,48,48,48,48,48,48,48]⟩:ByteArray),(⟨#[48,48,48,48,48,48,48,48,48,48,48,48,48,48]⟩:ByteArray),(⟨#[48,48,48,48,48,48,48,48,48,48,48,48,48,48]⟩:ByteArray),(⟨#[50,48,48,48,49,49,48,48,49,48,48,48,48,48]⟩:ByteArray),(⟨#[50,48,48,48,49,49,48,48,49,48,48,48,48,48]⟩:ByteArray),(⟨#[48,48,48,48,49,49,50,48,49,48,48,48,48,48]⟩:ByteArray),(⟨#[49,48,48,48,49,49,49,49,49,49,49,49,49,49]⟩:ByteArray),(⟨#[48,48,48,48,49,49,48,48,49,48,48,48,48,48]⟩:ByteArray),(⟨#[48,48,48,48,49,49,48,48,49,49,49,48,49,49]⟩:ByteArray),(⟨#[48,48,48,48,49,49,48,48,49,48,49,49,48,48]⟩:ByteArray),(⟨#[48,48,48,48,49,49,48,48,49,48,48,49,48,48]⟩:ByteArray),(⟨#[48,48,48,48,49,49,48,48,49,48,49,49,48,48]⟩:ByteArray),(⟨#[48,48,48,48,49,49,48,48,49,48,48,49,48,48]⟩:ByteArray)]:List ByteArray)
theorem ql (d:Own c0 G F) {r:List ByteArray} (H:jZ=some r): Calls prog 259 #[] c0.w (aT c0 fun c v=>∃a b,Own c G (es true RS a 9 b r :: F)∧v=a∧OA RS c a b r):=by
 unfold jZ at H;refine en func259 rfl rfl (sr (va (Y) (wln (sr (me (sl RS 9 [[.string (⟨#[48,48,48,48,49,49,48,48,49,48,48,48,48,48]⟩:ByteArray)],[.string (⟨#[48,48,49,48,48,48,48,48,48,48,48,48,48,48]⟩:ByteArray)],[.string (⟨#[48,48,48,48,48,48,48,48,48,48,48,48,48,48]⟩:ByteArray)],[.string (⟨#[48,48,48,48,48,48,48,48,48,48,48,48,48,48]⟩:ByteArray)],[.string (⟨#[50,48,48,48,49,49,48,48,49,48,48,48,48,48]⟩:ByteArray)],[.string (⟨#[50,48,48,48,49,49,48,48,49,48,48,48,48,48]⟩:ByteArray)],[.string (⟨#[48,48,48,48,49,49,50,48,49,48,48,48,48,48]⟩:ByteArray)],[.string (⟨#[49,48,48,48,49,49,49,49,49,49,49,49,49,49]⟩:ByteArray)],[.string (⟨#[48,48,48,48,49,49,48,48,49,48,48,48,48,48]⟩:ByteArray)],[.string (⟨#[48,48,48,48,49,49,48,48,49,49,49,48,49,49]⟩:ByteArray)],[.string (⟨#[48,48,48,48,49,49,48,48,49,48,49,49,48,48]⟩:ByteArray)],[.string (⟨#[48,48,48,48,49,49,48,48,49,48,48,49,48,48]⟩:ByteArray)],[.string (⟨#[48,48,48,48,49,49,48,48,49,48,49,49,48,48]⟩:ByteArray)],[.string (⟨#[48,48,48,48,49,49,48,48,49,48,48,49,48,48]⟩:ByteArray)]] ([(⟨#[48,48,48,48,49,49,48,48,49,48,48,48,48,48]⟩:ByteArray),(⟨#[48,48,49,48,48,48,48,48,48,48,48,48,48,48]⟩:ByteArray),(⟨#[48,48,48,48,48,48,48,48,48,48,48,48,48,48]⟩:ByteArray),(⟨#[48,48,48,48,48,48,48,48,48,48,48,48,48,48]⟩:ByteArray),(⟨#[50,48,48,48,49,49,48,48,49,48,48,48,48,48]⟩:ByteArray),(⟨#[50,48,48,48,49,49,48,48,49,48,48,48,48,48]⟩:ByteArray),(⟨#[48,48,48,48,49,49,50,48,49,48,48,48,48,48]⟩:ByteArray),(⟨#[49,48,48,48,49,49,49,49,49,49,49,49,49,49]⟩:ByteArray),(⟨#[48,48,48,48,49,49,48,48,49,48,48,48,48,48]⟩:ByteArray),(⟨#[48,48,48,48,49,49,48,48,49,49,49,48,49,49]⟩:ByteArray),(⟨#[48,48,48,48,49,49,48,48,49,48,49,49,48,48]⟩:ByteArray),(⟨#[48,48,48,48,49,49,48,48,49,48,48,49,48,48]⟩:ByteArray),(⟨#[48,48,48,48,49,49,48,48,49,48,49,49,48,48]⟩:ByteArray),(⟨#[48,48,48,48,49,49,48,48,49,48,48,49,48,48]⟩:ByteArray)]:List ByteArray) d ⟨rfl,rfl,rfl,rfl,rfl,rfl,rfl,rfl,rfl,rfl,rfl,rfl,rfl,rfl,trivial⟩) ?_)))));rintro v5 f i ⟨h,e,g⟩;refine va (v5) (wln (W.ret ?_));obtain rfl:=si H;exact r1 (qq f ⟨v5,h,e,rfl,g⟩)
def cP (p0:Int) (p1:Int):Option (Int):=
 ((orE (decide (p0 < 0)) (some (decide (p0 > 13)))).bind fun f=>
 if f=true then
 some (0)
 else
 some (p0)).bind fun g=>
 ((orE (decide (p1 < 0)) (some (decide (p1 > 13)))).bind fun a=>
 if a=true then
 some (0)
 else
 some (p1)).bind fun e=>
 (jZ).bind fun b=>
 (idx b g).bind fun c=>
 (F6 c e).bind fun d=>
 some (w64 ((w64 d) - 48))
theorem qm (N:Own c0 G F) (e:Int) (d:Int) {r:Int} (H:cP e d=some r): Calls prog 202 #[I e,I d] c0.w (aT c0 fun c v=>Own c G (F)∧v=I r):=by
 unfold cP at H;refine en func202 rfl rfl (sr (va (I 0) (wln (bn H fun m g H2=>W.seqJ (Jn c0 fun c l=>Own c G (F)∧l= [(0,I m),(1,I d)]) ?_ ?_))))
 ·refine W.seq (bn g fun X h3 g=>W.join (Jn c0 fun c l=>Own c G (F)∧l= [(0,I e),(1,I d),(10,B X)]) ?_ ?_)
  ·clear g;refine W.region (va (I e) (va (B (decide (e < 0))) ?_));rcases bo (decide (e < 0)) with n | n
   ·obtain rfl:=orT n h3;exact vb n (pz (va (B true) (wln (jn c0 ⟨N,rfl⟩))))
   have H5:=orF n h3;refine vb n (wa (I e) (wa (B (decide (e > 13))) ?_));obtain rfl:=si H5;exact va (B (decide (e > 13))) (wln (jn c0 ⟨N,rfl⟩))
  rintro A D ⟨U,g7,_,rfl,l6,rfl,S,rfl⟩;refine nrm (cn g (fun Z g=>?_) (fun Z g=>?_))
  ·refine W.region (va (I 0) (wln ?_));obtain rfl:=si g;exact jn U ⟨S,rfl⟩
  refine W.skip (nrm ?_);obtain rfl:=si g;exact jn U ⟨S,rfl⟩
 rintro A D ⟨i,m0,_,rfl,s0,rfl,s,rfl⟩;refine bn H2 fun q a b=>W.seqJ (Jn i fun c l=>Own c G (F)∧l= [(0,I m),(1,I q)]) ?_ ?_
 ·refine W.seq (bn a fun z y a=>W.join (Jn i fun c l=>Own c G (F)∧l= [(0,I m),(1,I d),(16,B z)]) ?_ ?_)
  ·clear a;refine W.region (va (I d) (va (B (decide (d < 0))) ?_));rcases bo (decide (d < 0)) with h | h
   ·obtain rfl:=orT h y;exact vb h (pz (va (B true) (wln (jn i ⟨s,rfl⟩))))
   have M:=orF h y;refine vb h (wa (I d) (wa (B (decide (d > 13))) ?_));obtain rfl:=si M;exact va (B (decide (d > 13))) (wln (jn i ⟨s,rfl⟩))
  rintro A D ⟨x,o0,_,rfl,t0,rfl,t,rfl⟩;refine nrm (cn a (fun b0 a=>?_) (fun b0 a=>?_))
  ·refine W.region (va (I 0) (wln ?_));obtain rfl:=si a;exact jn x ⟨t,rfl⟩
  refine W.skip (nrm ?_);obtain rfl:=si a;exact jn x ⟨t,rfl⟩
 rintro A D ⟨l0,q0,_,rfl,u0,rfl,P,rfl⟩;refine sr (bn b fun k0 d0 b=>cl (ql P d0) ?_);rintro v38 T v0 ⟨_,w0,u,rfl,o⟩;refine va (I m) (bn b fun E p b=>vx (ixO underlying315 o p) ?_);obtain ⟨j0,e0,g0⟩:=OA.at o p;obtain rfl:=e0;refine vr (.string E) (rx (by kernel_rfl) (ry u_9 rfl (u.on 0 rfl) (o.blk p) (at1 (j:=0) g0 rfl))) (va (I q) (bn b fun f f0 b=>vr (.int .u8 f) (rx (by kernel_rfl) (zp (k:= .i64) u_9 f0 _)) (va (I (w64 f)) (vv (I (w64 ((w64 f) - 48))) (wln (W.ret ?_))))));obtain rfl:=si b;have R:=u.sD 1 [];exact r1 (qq T ⟨R,rfl⟩)
def el (p0:List ao) (p1:Int):Option (Bool):=
 (idx p0 p1).bind fun i=>
 if (i.Conj != 1)=true then
 some false
 else
 (cJ (σ:=Int×Int) (τ:=Bool ⊕ Unit) (((w64 (p1 - 1)) - 0).toNat+2) (fun a=>
 if (decide (a.2≥0))=true then
 (idx p0 a.2).bind fun d=>
 if (d.Conj==1)=true then
 some (.inr (.inl (decide (a.1 > 0))))
 else
 ((idx p0 a.2).bind fun e=>
 if (e.Conj==2)=true then
 some ((w64 (a.1+1)))
 else
 some (a.1)).bind fun h=>
 (idx p0 a.2).bind fun f=>
 (bT (f.Conj != 2) ((idx p0 a.2).bind fun g=>
 some (g.Conj != 3))).bind fun c=>
 if c=true then
 some (.inr (.inl false))
 else
 some (.inl (h,(w64 (a.2 - 1))))
 else
 some (.inr (.inr ()))) (0,(w64 (p1 - 1)))).bind fun b=>
 match b with
 | .inl b=>
 some b
 | .inr b=>
 some false
theorem nN (O0:Own c0 G F) (p0:List ao) (j:Int) {r:Bool} (f:Sl dV c0 v1 p0) (H:el p0 j=some r): Calls prog 203 #[v1,I j] c0.w (aT c0 fun c v=>Own c G (F)∧v=B r):=by
 unfold el at H;refine en func203 rfl rfl (sr (va (B false) (wln (W.seq (sr (va (v1) (va (I j) (bn H fun d1 h3 H=>?_))))))));obtain ⟨z1,h5,m6⟩:=Sl.at f (bz h3);obtain rfl:=h5;refine vx (ix mE f h3) (va (Qo (sb v1) (so v1+j.toNat * 4+2)) (vx (l1 u_3 (m6 2 _ rfl)) (va (B (d1.Conj != 1)) (wln (cn H (fun h7 H=>?_) (fun h7 H=>?_))))))
 ·refine sr (va (B false) (wln (W.ret (thr ?_))));obtain rfl:=si H;exact r1 (qq c0 ⟨O0,rfl⟩)
 refine W.skip (nrm (sr (va (I 0) (wln (W.seq (sr (va (I j) (vv (I (w64 (j - 1))) (wln (W.block (bn H fun i h8 T=>lp h8 (fun a=>Jn c0 fun c l=>Own c G (F)∧l= [(0,v1),(5,I a.1),(6,I a.2)]) (fun t=>match t with | .inl X=>(fun b1 ex e w=>ex= .ret∧(Jn c0 fun c l=>Own c G (F)∧l= [(4,B b1)]) e w) X | .inr X=>(fun e1 ex e w=>ex= .exit 0∧(Jn c0 fun c l=>Own c G (F)∧l= []) e w) X) ?_ ?_ ?_)))))))))))
 ·clear T h8;intro a b2 h0 c1 H;revert h0 c1;rintro x y ⟨g,n1,_,rfl,n,rfl,k,rfl⟩;refine W.seq (sr (va (I a.2) (va (B (decide (a.2≥0))) (wln (cn H (fun j0 H=>?_) (fun j0 H=>?_))))))
  ·refine W.skip (nrm (W.seq (W.block (W.seq (sr (va (v1) (va (I a.2) (bn H fun Z E H=>?_))))))));obtain ⟨h1,k0,w0⟩:=Sl.at (f.mono n) (bz E);obtain rfl:=k0;refine vx (ix mE f.m E) (va (Qo (sb v1) (so v1+a.2.toNat * 4+2)) (vx (l1 u_3 (w0 2 _ rfl)) (va (B (Z.Conj==1)) (wln (cn H (fun l0 H=>?_) (fun l0 H=>?_))))))
   ·refine sr (va (I a.1) (vv (B (decide (a.1 > 0))) (wln (W.ret (thr (bkr (thr ?_)))))));obtain rfl:=si H;exact ⟨_,rfl,⟨rfl,jn g ⟨k,rfl⟩⟩⟩
   refine W.skip (nrm (bn H fun u d b=>W.seqJ (Jn g fun c l=>Own c G (F)∧l= [(0,v1),(5,I u),(6,I a.2)]) ?_ ?_))
   ·refine sr (va (v1) (va (I a.2) (bn d fun a0 M d=>?_)));obtain ⟨i1,m0,x0⟩:=Sl.at (f.mono n) (bz M);obtain rfl:=m0;refine vx (ix mE f.m M) (va (Qo (sb v1) (so v1+a.2.toNat * 4+2)) (vx (l1 u_3 (x0 2 _ rfl)) (va (B (a0.Conj==2)) (wln (cn d (fun o0 d=>?_) (fun o0 d=>?_))))))
    ·refine W.region (va (I a.1) (vv (I (w64 (a.1+1))) (wln ?_)));obtain rfl:=si d;exact jn g ⟨k,rfl⟩
    refine W.skip (nrm ?_);obtain rfl:=si d;exact jn g ⟨k,rfl⟩
   rintro x y ⟨p,q1,_,rfl,S,rfl,z,rfl⟩;refine W.seq (bn b fun q N b=>bn b fun U P b=>W.join (Jn p fun c l=>Own c G (F)∧l= [(0,v1),(5,I u),(6,I a.2),(48,B U)]) ?_ ?_)
   ·clear b;refine W.region (va (v1) (va (I a.2) ?_));obtain ⟨j1,s0,y0⟩:=Sl.at (f.mono (n.trans S)) (bz N);obtain rfl:=s0;refine vx (ix mE f.m N) (va (Qo (sb v1) (so v1+a.2.toNat * 4+2)) (vx (l1 u_3 (y0 2 _ rfl)) (va (B (q.Conj != 2)) ?_)));rcases bo (q.Conj != 2) with h | h
    ·have o:=anT h P;refine vb h (wa (v1) (wa (I a.2) (wn (bn o fun s R o=>?_))));obtain ⟨k1,t0,z0⟩:=Sl.at (f.mono (n.trans S)) (bz R);obtain rfl:=t0;refine vx (ix mE f.m R) (wa (Qo (sb v1) (so v1+a.2.toNat * 4+2)) (wn (vx (l1 u_3 (z0 2 _ rfl)) (wa (B (s.Conj != 3)) ?_))));obtain rfl:=si o;exact va (B (s.Conj != 3)) (wln (jn p ⟨z,rfl⟩))
    obtain rfl:=anF h P;exact vb h (pz (pz (pz (va (B false) (wln (jn p ⟨z,rfl⟩))))))
   rintro x y ⟨D,s1,_,rfl,w1,rfl,A,rfl⟩;refine nrm (cn b (fun u0 b=>?_) (fun u0 b=>?_))
   ·refine sr (va (B false) (wln (W.ret (bkr (thr ?_)))));obtain rfl:=si b;exact ⟨_,rfl,⟨rfl,jn D ⟨A,rfl⟩⟩⟩
   refine W.skip (bkn (nrm (W.region (va (I a.2) (vv (I (w64 (a.2 - 1))) (WL.nil ?_))))));obtain rfl:=si b;exact ⟨_,rfl,jn D ⟨A,rfl⟩⟩
  refine W.exit (thx ?_);obtain rfl:=si H;exact ⟨_,rfl,rfl,jn g ⟨k,rfl⟩⟩
 ·exact jn c0 ⟨O0,rfl⟩
 rcases i with i | i
 ·intro i0; revert i0;rintro _ x y ⟨rfl,f0,t1,_,rfl,x1,rfl,d0,rfl⟩;refine bkr (thr ?_);obtain rfl:=si T;exact r1 (qq f0 ⟨d0,rfl⟩)
 rintro _ x y ⟨rfl,g0,u1,_,rfl,y1,rfl,e0,rfl⟩;refine bke (nrm (sr (va (B false) (wln (W.ret ?_)))));obtain rfl:=si T;exact r1 (qq g0 ⟨e0,rfl⟩)
def eE (p0:List ao) (p1:Int):Option (Bool):=
 (idx p0 p1).bind fun j=>
 (orE (!j.Pict) (some (decide (p1 < 2)))).bind fun i=>
 (orE i ((idx p0 (w64 (p1 - 1))).bind fun e=>
 some (e.Break != 5))).bind fun c=>
 (orE c ((idx p0 (w64 (p1 - 1))).bind fun f=>
 some f.Pict)).bind fun d=>
 if d=true then
 some false
 else
 (cJ (σ:=Int) (τ:=Bool ⊕ Unit) (((w64 (p1 - 2)) - 0).toNat+2) (fun b=>
 if (decide (b≥0))=true then
 (idx p0 b).bind fun g=>
 if g.Pict=true then
 some (.inr (.inl true))
 else
 (idx p0 b).bind fun h=>
 if (h.Break != 4)=true then
 some (.inr (.inl false))
 else
 some (.inl ((w64 (b - 1))))
 else
 some (.inr (.inr ()))) ((w64 (p1 - 2)))).bind fun a=>
 match a with
 | .inl a=>
 some a
 | .inr a=>
 some false
theorem oH (u:Own c0 G F) (p0:List ao) (b:Int) {r:Bool} (d:Sl dV c0 v1 p0) (H:eE p0 b=some r): Calls prog 204 #[v1,I b] c0.w (aT c0 fun c v=>Own c G (F)∧v=B r):=by
 unfold eE at H;refine en func204 rfl rfl (sr (va (B false) (wln (W.seq (W.seq (bn H fun U h3 H=>bn H fun u1 h4 H=>bn H fun i1 h5 H=>bn H fun X x H=>W.join (Jn c0 fun c l=>Own c G (F)∧l= [(0,v1),(1,I b),(32,B X)]) ?_ ?_))))))
 ·clear H;refine W.region (va (v1) (va (I b) ?_));obtain ⟨d2,h8,m9⟩:=Sl.at d (bz h3);obtain rfl:=h8;refine vx (ix mE d h3) (va (Qo (sb v1) (so v1+b.toNat * 4+1)) (vx (l1 u_4 (m9 1 _ rfl)) (va (B (!U.Pict)) ?_)));rcases bo (!U.Pict) with g | g
  ·obtain rfl:=orT g h4;refine vb g (pz (va (B true) ?_));have z:true=true:=rfl;obtain rfl:=orT z h5;refine vb z (pz (pz (pz (ps (va (B true) ?_)))));have A:true=true:=rfl;obtain rfl:=orT A x;exact vb A (pz (pz (pz (va (B true) (wln (jn c0 ⟨u,rfl⟩))))))
  have g0:=orF g h4;refine vb g (wa (I b) (wa (B (decide (b < 2))) ?_));obtain rfl:=si g0;refine va (B (decide (b < 2))) ?_;rcases bo (decide (b < 2)) with h | h
  ·obtain rfl:=orT h h5;refine vb h (pz (pz (pz (ps (va (B true) ?_)))));have D:true=true:=rfl;obtain rfl:=orT D x;exact vb D (pz (pz (pz (va (B true) (wln (jn c0 ⟨u,rfl⟩))))))
  have p:=orF h h5;refine vb h (wa (v1) (wa (I b) (wa (I (w64 (b - 1))) (wn (bn p fun k E p=>?_)))));obtain ⟨k1,o0,a1⟩:=Sl.at d (bz E);obtain rfl:=o0;refine vx (ix mE d E) (wa (Qo (sb v1) (so v1+(w64 (b - 1)).toNat * 4)) (wn (vx (l1 u_3 (a1 0 _ rfl)) (wa (B (k.Break != 5)) ?_))));obtain rfl:=si p;refine va (B (k.Break != 5)) ?_;rcases bo (k.Break != 5) with i | i
  ·obtain rfl:=orT i x;exact vb i (pz (pz (pz (va (B true) (wln (jn c0 ⟨u,rfl⟩))))))
  have q:=orF i x;refine vb i (wa (v1) (wa (I b) (wa (I (w64 (b - 1))) (wn (bn q fun e0 M q=>?_)))));obtain ⟨m1,q0,b1⟩:=Sl.at d (bz M);obtain rfl:=q0;refine vx (ix mE d M) (wa (Qo (sb v1) (so v1+(w64 (b - 1)).toNat * 4+1)) (wn (vx (l1 u_4 (b1 1 _ rfl)) ?_)));obtain rfl:=si q;exact va (B e0.Pict) (wln (jn c0 ⟨u,rfl⟩))
 rintro Z w_ ⟨f,w1,_,rfl,S,rfl,y,rfl⟩;refine nrm (cn H (fun t0 H=>?_) (fun t0 H=>?_))
 ·refine sr (va (B false) (wln (W.ret (thr ?_))));obtain rfl:=si H;exact r1 (qq f ⟨y,rfl⟩)
 refine W.skip (nrm (W.seq (sr (va (I b) (vv (I (w64 (b - 2))) (wln (W.block (bn H fun j N s=>lp N (fun a=>Jn f fun c l=>Own c G (F)∧l= [(0,v1),(5,I a)]) (fun t=>match t with | .inl x_=>(fun f1 ex e w=>ex= .ret∧(Jn f fun c l=>Own c G (F)∧l= [(4,B f1)]) e w) x_ | .inr x_=>(fun h1 ex e w=>ex= .exit 0∧(Jn f fun c l=>Own c G (F)∧l= []) e w) x_) ?_ ?_ ?_))))))))
 ·clear s N;intro a e2 l0 g1 H;revert l0 g1;rintro Z w_ ⟨o,x1,_,rfl,T,rfl,n,rfl⟩;refine W.seq (sr (va (I a) (va (B (decide (a≥0))) (wln (cn H (fun v0 H=>?_) (fun v0 H=>?_))))))
  ·refine W.skip (nrm (W.seq (W.block (W.seq (sr (va (v1) (va (I a) (bn H fun t1 P H=>?_))))))));obtain ⟨n1,w0,c1⟩:=Sl.at (d.mono (S.trans T)) (bz P);obtain rfl:=w0;refine vx (ix mE d.m P) (va (Qo (sb v1) (so v1+a.toNat * 4+1)) (vx (l1 u_4 (c1 1 _ rfl)) (wln (cn H (fun x0 H=>?_) (fun x0 H=>?_)))))
   ·refine sr (va (B true) (wln (W.ret (thr (bkr (thr ?_))))));obtain rfl:=si H;exact ⟨_,rfl,⟨rfl,jn o ⟨n,rfl⟩⟩⟩
   refine W.skip (nrm (sr (va (v1) (va (I a) (bn H fun f0 R H=>?_)))));obtain ⟨q1,y0,d1⟩:=Sl.at (d.mono (S.trans T)) (bz R);obtain rfl:=y0;refine vx (ix mE d.m R) (va (Qo (sb v1) (so v1+a.toNat * 4)) (vx (l1 u_3 (d1 0 _ rfl)) (va (B (f0.Break != 4)) (wln (cn H (fun z0 H=>?_) (fun z0 H=>?_))))))
   ·refine sr (va (B false) (wln (W.ret (bkr (thr ?_)))));obtain rfl:=si H;exact ⟨_,rfl,⟨rfl,jn o ⟨n,rfl⟩⟩⟩
   refine W.skip (bkn (nrm (W.region (va (I a) (vv (I (w64 (a - 1))) (WL.nil ?_))))));obtain rfl:=si H;exact ⟨_,rfl,jn o ⟨n,rfl⟩⟩
  refine W.exit (thx ?_);obtain rfl:=si H;exact ⟨_,rfl,rfl,jn o ⟨n,rfl⟩⟩
 ·exact jn f ⟨y,rfl⟩
 rcases j with j | j
 ·intro m0; revert m0;rintro _ Z w_ ⟨rfl,j0,y1,_,rfl,b2,rfl,h0,rfl⟩;refine bkr (thr ?_);obtain rfl:=si s;exact r1 (qq j0 ⟨h0,rfl⟩)
 rintro _ Z w_ ⟨rfl,k0,z1,_,rfl,c2,rfl,i0,rfl⟩;refine bke (nrm (sr (va (B false) (wln (W.ret ?_)))));obtain rfl:=si s;exact r1 (qq k0 ⟨i0,rfl⟩)
def ei (p0:List ao) (p1:Int):Option (Bool):=
 (orE (decide (p1 < 1)) (some (decide (p1≥(p0.length:Int))))).bind fun n=>
 if n=true then
 some false
 else
 (idx p0 (w64 (p1 - 1))).bind fun h=>
 (idx p0 p1).bind fun i=>
 (cP h.Break i.Break).bind fun b=>
 (orE (b==1) ((el p0 p1).bind fun j=>
 some j)).bind fun c=>
 (orE c ((eE p0 p1).bind fun k=>
 some k)).bind fun d=>
 if d=true then
 some true
 else
 (orE (b != 2) ((idx p0 p1).bind fun l=>
 some (l.Break != 6))).bind fun e=>
 if e=true then
 some false
 else
 (cJ (σ:=Int×Int) (τ:=Int) (((w64 (p1 - 1)) - 0).toNat+2) (fun a=>
 (bT (decide (a.2≥0)) ((idx p0 a.2).bind fun m=>
 some (m.Break==6))).bind fun f=>
 if f=true then
 some (.inl ((w64 (a.1+1)),(w64 (a.2 - 1))))
 else
 some (.inr (a.1))) (0,(w64 (p1 - 1)))).bind fun g=>
 some ((g.tmod 2)==1)
theorem po (O0:Own c0 G F) (q:List ao) (b:Int) {r:Bool} (f:Sl dV c0 v1 q) (H:ei q b=some r): Calls prog 133 #[v1,I b] c0.w (aT c0 fun c v=>Own c G (F)∧v=B r):=by
 unfold ei at H;refine en func133 rfl rfl (sr (va (B false) (wln (W.seq (W.seq (bn H fun m1 h3 H=>W.join (Jn c0 fun c l=>Own c G (F)∧l= [(0,v1),(1,I b),(15,B m1)]) ?_ ?_))))))
 ·clear H;refine W.region (va (I b) (va (B (decide (b < 1))) ?_));rcases bo (decide (b < 1)) with M | M
  ·obtain rfl:=orT M h3;exact vb M (pz (pz (va (B true) (wln (jn c0 ⟨O0,rfl⟩)))))
  have H5:=orF M h3;refine vb M (wa (I b) (wa (v1) (wn (vx (ln 3 mE f) (wa (B (decide (b≥(q.length:Int)))) ?_)))));obtain rfl:=si H5;exact va (B (decide (b≥(q.length:Int)))) (wln (jn c0 ⟨O0,rfl⟩))
 rintro D P ⟨c6,g7,_,rfl,U,rfl,O8,rfl⟩;refine nrm (cn H (fun q1 H=>?_) (fun q1 H=>?_))
 ·refine sr (va (B false) (wln (W.ret (thr ?_))));obtain rfl:=si H;exact r1 (qq c6 ⟨O8,rfl⟩)
 refine W.skip (nrm (W.seq (rD [] (Kp G0 []) O8 ?_)));intro h1 p d1;have f3:Kp G0 [] h1:=Kp.nil0;refine ta 0 (v1) (ta 1 (I b) (ta 2 (I (w64 (b - 1))) (bn H fun z0 h0 H=>?_)));obtain ⟨s2,s1,i2⟩:=Sl.at (f.mono (U.trans p)) (bz h0);obtain rfl:=s1;refine tx 3 (fun c' N=>ix mE f.m h0) (ta 4 (Qo (sb v1) (so v1+(w64 (b - 1)).toNat * 4)) (tx 5 (fun c' N=>l1 u_3 ((mm i2) 0 _ rfl)) (ta 6 (v1) (ta 7 (I b) (bn H fun a1 i0 H=>?_)))));obtain ⟨t2,t1,j2⟩:=Sl.at (f.mono (U.trans p)) (bz i0);obtain rfl:=t1;refine tx 8 (fun c' N=>ix mE f.m i0) (ta 9 (Qo (sb v1) (so v1+b.toNat * 4)) (tx 10 (fun c' N=>l1 u_3 ((mm j2) 0 _ rfl)) (bn H fun d u1 H=>o1 11 (gc 11 (qm d1 z0.Break a1.Break u1) ?_))));rintro v30 z t0 ⟨a0,rfl⟩;have m2:Kp G0 [] z:=Kp.nil0;refine ⟨.inr m2,ta 12 (I d) (dn (nrm (W.seq (W.seq (bn H fun q2 j0 H=>bn H fun w0 E H=>W.join (Jn z fun c l=>Own c G (F)∧l= [(0,v1),(1,I b),(5,I d),(39,B w0)]) ?_ ?_)))))⟩
 ·clear H;refine W.region (va (I d) (va (B (d==1)) ?_));rcases bo (d==1) with h | h
  ·obtain rfl:=orT h j0;refine vb h (pz (ps (va (B true) ?_)));have k0:true=true:=rfl;obtain rfl:=orT k0 E;exact vb k0 (pz (ps (va (B true) (wln (jn z ⟨a0,rfl⟩)))))
  have s:=orF h j0;refine vb h (wa (v1) (wa (I b) (wn (bn s fun R x1 s=>cl (nN a0 q b f.m x1) ?_))));rintro v43 i1 b3 ⟨b0,rfl⟩;obtain rfl:=si s;refine va (B R) ?_;rcases bo (R) with i | i
  ·obtain rfl:=orT i E;exact vb i (pz (ps (va (B true) (wln (jn i1 ⟨b0,rfl⟩)))))
  have t:=orF i E;refine vb i (wa (v1) (wa (I b) (wn (bn t fun b1 y1 t=>cl (oH b0 q b f.m y1) ?_))));rintro v52 j1 c3 ⟨e1,rfl⟩;obtain rfl:=si t;exact va (B b1) (wln (jn j1 ⟨e1,rfl⟩))
 rintro D P ⟨n,w2,_,rfl,u0,rfl,y,rfl⟩;refine nrm (cn H (fun z1 H=>?_) (fun z1 H=>?_))
 ·refine sr (va (B true) (wln (W.ret (thr ?_))));obtain rfl:=si H;exact r1 (qq n ⟨y,rfl⟩)
 refine W.skip (nrm (W.seq (W.seq (bn H fun x0 l0 H=>W.join (Jn n fun c l=>Own c G (F)∧l= [(0,v1),(1,I b),(49,B x0)]) ?_ ?_))))
 ·clear H;refine W.region (va (I d) (va (B (d != 2)) ?_));rcases bo (d != 2) with j | j
  ·obtain rfl:=orT j l0;exact vb j (pz (pz (pz (va (B true) (wln (jn n ⟨y,rfl⟩))))))
  have u:=orF j l0;refine vb j (wa (v1) (wa (I b) (wn (bn u fun S m0 u=>?_))));obtain ⟨u2,b2,k2⟩:=Sl.at (f.mono (U.trans (p.trans (t0.trans u0)))) (bz m0);obtain rfl:=b2;refine vx (ix mE f.m m0) (wa (Qo (sb v1) (so v1+b.toNat * 4)) (wn (vx (l1 u_3 (k2 0 _ rfl)) (wa (B (S.Break != 6)) ?_))));obtain rfl:=si u;exact va (B (S.Break != 6)) (wln (jn n ⟨y,rfl⟩))
 rintro D P ⟨o,x2,_,rfl,f2,rfl,d0,rfl⟩;refine nrm (cn H (fun c2 H=>?_) (fun c2 H=>?_))
 ·refine sr (va (B false) (wln (W.ret (thr ?_))));obtain rfl:=si H;exact r1 (qq o ⟨d0,rfl⟩)
 refine W.skip (nrm (sr (va (I 0) (wln (W.seq (sr (va (I b) (vv (I (w64 (b - 1))) (wln (W.block (bn H fun g o0 Z=>lp o0 (fun a=>Jn o fun c l=>Own c G (F)∧l= [(0,v1),(6,I a.1),(7,I a.2)]) (fun X ex e w=>ex= .exit 0∧(Jn o fun c l=>Own c G (F)∧l= [(6,I X)]) e w) ?_ ?_ ?_)))))))))))
 ·clear Z o0;intro a g3 n1 n2 H;revert n1 n2;rintro D P ⟨A,y2,_,rfl,g2,rfl,e0,rfl⟩;refine W.seq (W.seq (bn H fun y0 q0 H=>W.join (Jn A fun c l=>Own c G (F)∧l= [(0,v1),(6,I a.1),(7,I a.2),(61,B y0)]) ?_ ?_))
  ·clear H;refine W.region (va (I a.2) (va (B (decide (a.2≥0))) ?_));rcases bo (decide (a.2≥0)) with k | k
   ·have x:=anT k q0;refine vb k (wa (v1) (wa (I a.2) (wn (bn x fun T s0 x=>?_))));obtain ⟨v2,d2,l2⟩:=Sl.at (f.mono (U.trans (p.trans (t0.trans (u0.trans (f2.trans g2)))))) (bz s0);obtain rfl:=d2;refine vx (ix mE f.m s0) (wa (Qo (sb v1) (so v1+a.2.toNat * 4)) (wn (vx (l1 u_3 (l2 0 _ rfl)) (wa (B (T.Break==6)) ?_))));obtain rfl:=si x;exact va (B (T.Break==6)) (wln (jn A ⟨e0,rfl⟩))
   obtain rfl:=anF k q0;exact vb k (pz (pz (pz (va (B false) (wln (jn A ⟨e0,rfl⟩))))))
  rintro D P ⟨g0,z2,_,rfl,d3,rfl,f0,rfl⟩;refine nrm (cn H (fun e2 H=>?_) (fun e2 H=>?_))
  ·refine W.skip (nrm (W.seq (W.block (W.region (va (I a.1) (vv (I (w64 (a.1+1))) (WL.nil (bkn (nrm (W.region (va (I a.2) (vv (I (w64 (a.2 - 1))) (WL.nil ?_)))))))))))));obtain rfl:=si H;exact ⟨_,rfl,jn g0 ⟨f0,rfl⟩⟩
  refine W.exit (thx ?_);obtain rfl:=si H;exact ⟨_,rfl,rfl,jn g0 ⟨f0,rfl⟩⟩
 ·exact jn o ⟨d0,rfl⟩
 rintro _ D P ⟨rfl,k1,a3,_,rfl,e3,rfl,g1,rfl⟩;refine bke (nrm (sr (va (I g) (va (I (g.tmod 2)) (vv (B ((g.tmod 2)==1)) (wln (W.ret ?_)))))));obtain rfl:=si Z;exact r1 (qq k1 ⟨g1,rfl⟩)
def eQ (p0:List Int):Option (List Int):=
 (fe p0).bind fun b=>
 (cJ (σ:=(List Int)×Int) (τ:=(List Int)) (((b.length:Int) - 0).toNat+1) (fun a=>
 if (decide (a.2 < (b.length:Int)))=true then
 ((ei b a.2).bind fun d=>
 if (!d)=true then
 (app a.1 ([a.2]:List Int)).bind fun e=>
 some (e)
 else
 some (a.1)).bind fun f=>
 some (.inl (f,(w64 (a.2+1))))
 else
 some (.inr (a.1))) (([]:List Int),0)).bind fun c=>
 some c
theorem oS (O0:Own c0 G F) (x:List Int) {r:List Int} (h2:Sl (RI .i32) c0 v1 x) (H:eQ x=some r): Calls prog 85 #[v1] c0.w (aT c0 fun c v=>∃A y2,Own c G (es true (RI .i64) A 3 y2 r :: F)∧v=A∧OA (RI .i64) c A y2 r):=by
 unfold eQ at H;refine en func85 rfl rfl (sr (va (Y) (wln (sr (va (Y) (wln (sr (va (v1) (bn H fun f h3 H=>cl (pm O0 x h2 h3) ?_)))))))));rintro v4 k q1 ⟨_,y,O8,rfl,u⟩;refine va (v4) (wln (W.seq (sr (va (I 0) (wln (W.block (bn H fun g1 t p=>lp t (fun a=>Jn k fun c l=>∃v15 d,Own c G (es true (RI .i64) v15 3 d a.1 :: es false dV v4 238 y f :: F)∧l= [(3,v15),(4,v4),(5,I a.2)]∧OA (RI .i64) c v15 d a.1) (fun g ex e w=>ex= .exit 0∧(Jn k fun c l=>∃v17 h,Own c G (es true (RI .i64) v17 3 h g :: es false dV v4 238 y f :: F)∧l= [(3,v17)]∧OA (RI .i64) c v17 h g) e w) ?_ ?_ ?_)))))))
 ·clear p t;intro a d2 g0 a1 H;revert g0 a1;rintro e_ w_ ⟨s,k1,_,rfl,x0,rfl,v15,d,j,rfl,n⟩;refine W.seq (sr (va (I a.2) (va (v4) (vx (lnO 3 mE u.m) (va (B (decide (a.2 < (f.length:Int)))) (wln (cn H (fun h0 H=>?_) (fun h0 H=>?_))))))))
  ·refine W.skip (nrm (bn H fun o b D=>W.seqJ (Jn s fun c l=>∃v29 i,Own c G (es true (RI .i64) v29 3 i o :: es false dV v4 238 y f :: F)∧l= [(3,v29),(4,v4),(5,I a.2)]∧OA (RI .i64) c v29 i o) ?_ ?_))
   ·refine W.block (sr (va (v4) (va (I a.2) ?_)));have i0:=j.slf 1 rfl (u.mono x0);refine bn b fun z j0 b=>cl (po j f a.2 i0 j0) ?_;rintro v38 Z s1 ⟨q,rfl⟩;refine va (B (!z)) (wln (cn b (fun k0 b=>?_) (fun k0 b=>?_)))
    ·refine W.region (va (v15) (va (I a.2) (me (sl (RI .i64) 3 [[I a.2]] ([a.2]:List Int) q ⟨rfl,trivial⟩) ?_)));rintro v44 i1 t1 ⟨c2,E,l0⟩;obtain ⟨j1,o0,u1,M,m0⟩:=E.frz 0 rfl l0;refine WL.gh o0 (bn b fun h1 q0 b=>me (ap (RI .i64) (I 0) 8 89 1 M n.m m0 q0 Cc) ?_);rintro v54 a0 w1 ⟨y0,N,s0⟩;refine va (v54) (WL.nil (bkn (nrm ?_)));obtain rfl:=si b;have P:=N.sD 3 [1,2];exact jn a0 ⟨v54,y0,P,rfl,s0⟩
    refine W.skip (bkn (nrm ?_));obtain rfl:=si b;exact jn Z ⟨v15,d,q,rfl,n.m⟩
   rintro e_ w_ ⟨b0,m1,_,rfl,x1,rfl,v29,i,R,rfl,t0⟩;refine W.region (va (I a.2) (vv (I (w64 (a.2+1))) (WL.nil ?_)));obtain rfl:=si D;exact ⟨_,rfl,jn b0 ⟨v29,i,R,rfl,t0⟩⟩
  refine W.exit (thx ?_);obtain rfl:=si H;exact ⟨_,rfl,rfl,jn s ⟨v15,d,j,rfl,n⟩⟩
 ·have u0:OA (RI .i64) k (Y) [] []:=OA.nil (aX _);have S:=O8.addHole (e:=es true (RI .i64) (Y) 3 [] ([]:List Int)) rfl;obtain ⟨d0,v0,z1,T,p1⟩:=S.frz 1 rfl u;exact ⟨d0,_,_,v0.symm,pt,us,(Y),[],T,rfl,u0.m⟩
 rintro _ e_ w_ ⟨rfl,e0,n1,_,rfl,b2,rfl,v17,h,U,rfl,w0⟩;refine bke (nrm (sr (vv (v17) (wln (W.ret ?_)))));obtain rfl:=si p;have X:=U.sD 2 [0];exact r1 (qq e0 ⟨v17,h,X,rfl,w0⟩)
def ek (p0:List Int):Option (List (List Int)):=
 (eQ p0).bind fun i=>
 (app i ([(p0.length:Int)]:List Int)).bind fun b=>
 (cJ (σ:=(List (List Int))×Int) (τ:=(List (List Int))) (((b.length:Int) - (w64 (0+1))).toNat+1) (fun a=>
 if (decide ((w64 (a.2+1)) < (b.length:Int)))=true then
 (idx b a.2).bind fun d=>
 (idx b (w64 (a.2+1))).bind fun e=>
 (slc p0 d e).bind fun f=>
 (app ([]:List Int) f).bind fun g=>
 (app a.1 ([g]:List (List Int))).bind fun h=>
 some (.inl (h,(w64 (a.2+1))))
 else
 some (.inr (a.1))) (([]:List (List Int)),0)).bind fun c=>
 some c
theorem nM (O0:Own c0 G F) (g:List Int) {r:List (List Int)} (h2:Sl (RI .i32) c0 v1 g) (H:ek g=some r): Calls prog 40 #[v1] c0.w (aT c0 fun c v=>∃y1 y2,Own c G (es true (RL (RI .i32)) y1 32 y2 r :: F)∧v=y1∧OA (RL (RI .i32)) c y1 y2 r):=by
 unfold ek at H;refine en func40 rfl rfl (sr (va (Y) (wln (sr (va (Y) (wln (sr (va (v1) (bn H fun c4 h3 H=>cl (oS O0 g h2 h3) ?_)))))))));rintro v4 m3 g2 ⟨_,u5,O8,rfl,h6⟩;refine va (v1) (vx (ln 3 cS h2.m) (me (sl (RI .i64) 3 [[I (g.length:Int)]] ([(g.length:Int)]:List Int) O8 ⟨rfl,trivial⟩) ?_));rintro v17 n3 l16 ⟨e0,s0,g1⟩;obtain ⟨o3,i1,i2,t0,h1⟩:=s0.frz 0 rfl g1;refine WL.gh i1 (bn H fun b j1 H=>me (ap (RI .i64) (I 0) 8 89 1 t0 h6.m h1 j1 Cc) ?_);rintro v27 h j2 ⟨d,u0,f⟩;refine va (v27) (wln (W.seq (sr (va (I 0) (wln (W.block (bn H fun i3 Z y=>lp Z (fun a=>Jn h fun c l=>∃v30 o,Own c G (es true (RL (RI .i32)) v30 32 o a.1 :: es false (RI .i64) v17 3 e0 ([(g.length:Int)]:List Int) :: es true (RI .i64) v27 3 d b :: F)∧l= [(0,v1),(3,v30),(4,v27),(5,I a.2)]∧OA (RL (RI .i32)) c v30 o a.1) (fun n ex e w=>ex= .exit 0∧(Jn h fun c l=>∃v32 p,Own c G (es true (RL (RI .i32)) v32 32 p n :: es false (RI .i64) v17 3 e0 ([(g.length:Int)]:List Int) :: es true (RI .i64) v27 3 d b :: F)∧l= [(3,v32)]∧OA (RL (RI .i32)) c v32 p n) e w) ?_ ?_ ?_)))))))
 ·clear y Z;intro a d4 f1 w2 H;revert f1 w2;rintro e_ w_ ⟨x0,p3,_,rfl,t,rfl,v30,o,z,rfl,a0⟩;refine W.seq (sr (va (I a.2) (va (I (w64 (a.2+1))) (va (v27) (vx (lnO 3 Cc f.m) (va (B (decide ((w64 (a.2+1)) < (b.length:Int)))) (wln (cn H (fun k1 H=>?_) (fun k1 H=>?_)))))))))
  ·refine W.skip (nrm (W.seq (W.block (rD [] (Kp G0 [es true (RI .i64) v27 3 d b]) z ?_))));intro y0 u A;have d0:Kp G0 [es true (RI .i64) v27 3 d b] y0:=(Kp.cons (A.on 2 rfl) Kp.nil0);refine ta 0 (v30) (ta 2 (v1) (ta 3 (v27) (ta 4 (I a.2) (bn H fun l0 q H=>tx 5 (fun x i=>ixO Cc f.m q) ?_))));obtain ⟨f3,m1,m2⟩:=OA.at (f.mono (t.trans u)) q;obtain rfl:=m1;refine AC.takeK 6 (I l0) d0 rfl (by kernel_rfl) (by kernel_rfl) (by kernel_rfl) (fun x i hk=>(rx (by kernel_rfl) (ry u_3 rfl (hk.on 0 rfl) (f.m.blk q) (at1 (j:=0) m2 rfl)))) (ta 7 (v27) (ta 8 (I a.2) (ta 9 (I (w64 (a.2+1))) (bn H fun m0 s H=>tx 10 (fun x i=>ixO Cc f.m s) ?_))));obtain ⟨g3,n1,n2⟩:=OA.at (f.mono (t.trans u)) s;obtain rfl:=n1;refine AC.takeK 11 (I m0) d0 rfl (by kernel_rfl) (by kernel_rfl) (by kernel_rfl) (fun x i hk=>(rx (by kernel_rfl) (ry u_3 rfl (hk.on 0 rfl) (f.m.blk s) (at1 (j:=0) n2 rfl)))) (bn H fun k3 p1 H=>?_);obtain ⟨v54,q1,s1⟩:=Ek (k:= .i64) (k':= .i64) cS (by kernel_rfl) (h2.mono (g2.trans (l16.trans (i2.trans (j2.trans (t.trans u)))))) p1;refine AC.take 12 (v54) rfl (by kernel_rfl) (by kernel_rfl) (fun x i=>(rx (by kernel_rfl) (q1 _))) (o1 1 (gm 1 (sl (RI .i32) 21 [] ([]:List Int) A trivial) ?_));rintro z3 z0 q3 ⟨w3,D,t1⟩;have o2:Kp G0 [es true (RI .i64) v27 3 d b] z0:=(Kp.cons (D.on 3 rfl) Kp.nil0);refine ⟨.inr o2,bn H fun o0 u1 H=>o1 13 (gm 13 (ap (RI .i32) (J 0) 4 32 0 D t1 s1.m u1 cS) ?_)⟩;rintro a4 a1 s3 ⟨x3,E,w1⟩;have p2:Kp G0 [es true (RI .i64) v27 3 d b] a1:=(Kp.cons (E.on 3 rfl) Kp.nil0);refine ⟨.inr p2,?_⟩;obtain ⟨b1,x1,k2,M,b0⟩:=E.frz 0 rfl w1;have q2:Kp G0 [es true (RI .i64) v27 3 d b] b1:=(Kp.cons (M.on 3 rfl) Kp.nil0);refine AC.gh x1 k2 (fun _=>q2) ?_;obtain ⟨S,T,U,rfl⟩:=(b0).form;refine o1 14 (gm 14 (sl (RL (RI .i32)) 32 [[.slice S T U]] ([o0]:List (List Int)) M ⟨⟨(.slice S T U),rfl,b0⟩,trivial⟩) ?_);rintro b4 c1 t3 ⟨y3,N,z1⟩;have s2:Kp G0 [es true (RI .i64) v27 3 d b] c1:=(Kp.cons (N.on 4 rfl) Kp.nil0);refine ⟨.inr s2,?_⟩;obtain ⟨d1,c2,l2,P,b2⟩:=N.frz 0 rfl z1;have t2:Kp G0 [es true (RI .i64) v27 3 d b] d1:=(Kp.cons (P.on 4 rfl) Kp.nil0);refine AC.gh c2 l2 (fun _=>t2) (bn H fun l3 d2 H=>o1 15 (gm 15 (ap (RL (RI .i32)) (Y) 24 25 2 P a0.m b2 d2 nt) ?_));rintro f0 X u3 ⟨v2,R,e2⟩;have u2:Kp G0 [es true (RI .i64) v27 3 d b] X:=(Kp.cons (R.on 4 rfl) Kp.nil0);refine ⟨.inr u2,ta 16 (f0) (dn (bkn (nrm (W.region (va (I a.2) (vv (I (w64 (a.2+1))) (WL.nil ?_)))))))⟩;obtain rfl:=si H;refine ⟨_,rfl,?_⟩;have v0:=R.sD 5 [2,3,4];exact jn X ⟨f0,v2,v0,rfl,e2⟩
  refine W.exit (thx ?_);obtain rfl:=si H;exact ⟨_,rfl,rfl,jn x0 ⟨v30,o,z,rfl,a0⟩⟩
 ·have f2:OA (RL (RI .i32)) h (Y) [] []:=OA.nil (aX _);have w0:=u0.addHole (e:=es true (RL (RI .i32)) (Y) 32 [] ([]:List (List Int))) rfl;exact jn h ⟨(Y),[],w0,rfl,f2⟩
 rintro _ e_ w_ ⟨rfl,e1,c3,_,rfl,v3,rfl,v32,p,g0,rfl,i0⟩;refine bke (nrm (sr (vv (v32) (wln (W.ret ?_)))));obtain rfl:=si y;have h0:=g0.sD 3 [0];exact r1 (qq e1 ⟨v32,p,h0,rfl,i0⟩)
def mJ (p0:Int):Option (Bool):=
 (bT (decide (p0≥2)) (some (decide (p0≤12)))).bind fun a=>
 some a
theorem yW (d:Own c0 G F) (a:Int) {r:Bool} (H:mJ a=some r): Calls prog 162 #[I a] c0.w (aT c0 fun c v=>Own c G (F)∧v=B r):=by
 unfold mJ at H;refine en func162 rfl rfl (sr (va (B false) (wln (W.seq (bn H fun e f H=>W.join (Jn c0 fun c l=>Own c G (F)∧l= [(2,B e)]) ?_ ?_)))))
 ·clear H;refine W.region (va (I a) (va (B (decide (a≥2))) ?_));rcases bo (decide (a≥2)) with b | b
  ·have g:=anT b f;refine vb b (wa (I a) (wa (B (decide (a≤12))) ?_));obtain rfl:=si g;exact vv (B (decide (a≤12))) (wln (jn c0 ⟨d,rfl⟩))
  obtain rfl:=anF b f;exact vb b (pz (vv (B false) (wln (jn c0 ⟨d,rfl⟩))))
 rintro j n ⟨i,k,_,rfl,m,rfl,h,rfl⟩;refine nrm (W.ret ?_);obtain rfl:=si H;exact r1 (qq i ⟨h,rfl⟩)
def kv (p0:bu):Option (Er):=
 (mJ p0.Kind).bind fun d=>
 if (!d)=true then
 some (Er.sent 4)
 else
 (bT (decide (p0.Kind≤4)) (some (p0.Kind != 2))).bind fun a=>
 (bT a ((orE (decide (p0.A < 0)) (some (decide (p0.A > 2)))).bind fun c=>
 some c)).bind fun b=>
 if b=true then
 some (Er.sent 2)
 else
 some Er.nil
theorem sF (S:Own c0 G F) (hG:Gl [2,4] c0) (a:bu) {r:Er} (h2:Sl (RI .u8) c0 v1 a.Bytes) (H:kv a=some r): Calls prog 103 #[.agg #[I a.Kind,I a.A,I a.B,v1]] c0.w (aT c0 fun c v=>∃R,Own c G (F)∧v=R∧RE 350 144 c R r):=by
 unfold kv at H;refine en func103 rfl rfl (sr ?_);obtain ⟨U,X,Z,rfl⟩:=(h2).form;refine me (bx 38 [I a.Kind,I a.A,I a.B,.slice U X Z] S) ?_;rintro v10 c9 P ⟨i,rfl,T,k⟩;refine va (.nilIface) (wln (W.seq (W.block (sr (va (Q i) (vx (l1 u_3 (k 0 _ rfl)) (bn H fun u D H=>cl (yW T a.Kind D) ?_)))))));rintro v17 b l16 ⟨d,rfl⟩;refine vv (B (!u)) (wln (cn H (fun E H=>?_) (fun E H=>?_)))
 ·refine sr ?_;obtain ⟨v19,o⟩:=(hG.mono (P.trans l16)).get 4 (by decide);refine vx (l1 xM o.im) (va (v19) (wln (W.ret (bkr (thr ?_)))));obtain rfl:=si H;exact r1 (qq b ⟨v19,d,rfl,o⟩)
 refine W.seq (bn H fun a0 p H=>bn H fun x j H=>W.join (Jn b fun c l=>Own c G (F)∧l= [(9,B x)]) ?_ ?_)
 ·clear H;refine W.region (va (Q i) (vx (l1 u_3 ((mm k) 0 _ rfl)) (va (B (decide (a.Kind≤4))) ?_)));rcases bo (decide (a.Kind≤4)) with e | e
  ·have y:=anT e p;refine vb e (wa (Q i) (wn (vx (l1 u_3 ((mm k) 0 _ rfl)) (wa (B (a.Kind != 2)) ?_))));obtain rfl:=si y;refine va (B (a.Kind != 2)) ?_;rcases bo (a.Kind != 2) with f | f
   ·have h:=anT f j;refine vb f (wa (Qo i (0+1)) (wn (vx (l1 u_3 ((mm k) 1 _ rfl)) (wa (B (decide (a.A < 0))) (wn (bn h fun b0 q h=>?_))))));rcases bo (decide (a.A < 0)) with g | g
    ·obtain rfl:=orT g q;refine vb g (pz (ps (wa (B true) ?_)));obtain rfl:=si h;exact vv (B true) (wln (jn b ⟨d,rfl⟩))
    have z:=orF g q;refine vb g (wa (Qo i (0+1)) (wn (vx (l1 u_3 ((mm k) 1 _ rfl)) (wa (B (decide (a.A > 2))) (wn ?_)))));obtain rfl:=si z;refine va (B (decide (a.A > 2))) ?_;obtain rfl:=si h;exact vv (B (decide (a.A > 2))) (wln (jn b ⟨d,rfl⟩))
   obtain rfl:=anF f j;exact vb f (pz (pz (pz (pz (vv (B false) (wln (jn b ⟨d,rfl⟩)))))))
  obtain rfl:=anF e p;refine vb e (pz (ps (va (B false) ?_)));have s:false=false:=rfl;obtain rfl:=anF s j;exact vb s (pz (pz (pz (pz (vv (B false) (wln (jn b ⟨d,rfl⟩)))))))
 rintro e_ w_ ⟨n,e0,_,rfl,N,rfl,m,rfl⟩;refine nrm (cn H (fun M H=>?_) (fun M H=>?_))
 ·refine sr ?_;obtain ⟨v38,t⟩:=(hG.mono (P.trans (l16.trans N))).get 2 (by decide);refine vx (l1 xM t.im) (va (v38) (wln (W.ret (bkr (thr ?_)))));obtain rfl:=si H;exact r1 (qq n ⟨v38,m,rfl,t⟩)
 refine W.skip (bkn (nrm (sr (va (.nilIface) (wln (W.ret ?_))))));obtain rfl:=si H;exact r1 (qq n ⟨.nilIface,m,rfl,rfl⟩)
def iK (sg:Sto) (p0:Option Nat) (p1:bu):Option (Sto):=
 (p0).bind fun e=>
 (sg.place_Pen[e]?).bind fun b=>
 (bL sg b.G).bind fun f=>
 if (p1.Kind==10)=true then
 (jX sg b.G 0 f p1.A).bind fun i=>
 some i
 else
 if (p1.Kind==11)=true then
 (jH sg b.G 0 f p1.A).bind fun j=>
 some j
 else
 if (p1.Kind==8)=true then
 (jH sg b.G b.At.Row f p1.A).bind fun g=>
 (g.place_Pen[e]?).bind fun c=>
 (dk c.At).bind fun d=>
 (g.set_place_Pen e (⟨c.G,d,c.Auto⟩:bj)).bind fun a=>
 some a
 else
 if (p1.Kind==9)=true then
 (jX sg b.G b.At.Row f p1.A).bind fun h=>
 (h.place_Pen[e]?).bind fun c=>
 (dk c.At).bind fun d=>
 (h.set_place_Pen e (⟨c.G,d,c.Auto⟩:bj)).bind fun a=>
 some a
 else
 (dk b.At).bind fun d=>
 (sg.set_place_Pen e (⟨b.G,d,b.Auto⟩:bj)).bind fun a=>
 some a
theorem qt (O0:Own c0 G F) (s:Rel c0 sg G) (p0:Option Nat) (f:bu) {r:Sto} (h2:Pt 2 c0 v1 p0) (h4:Sl (RI .u8) c0 v3 f.Bytes) (H:iK sg p0 f=some r): Calls prog 122 #[v1,.agg #[I f.Kind,I f.A,I f.B,v3]] c0.w (aT c0 fun c v=>∃G_:Gm,Own c G_ (F)∧Rel c r G_∧v= .tuple #[]):=by
 unfold iK at H;refine en func122 rfl rfl (sr ?_);obtain ⟨a5,a6,a7,rfl⟩:=(h4).form;refine me (bx 38 [I f.Kind,I f.A,I f.B,.slice a5 a6 a7] O0) ?_;rintro v12 q3 x ⟨t,rfl,O9,q⟩;refine wln (sr (va (v1) (bn H fun z3 y1 H=>?_)));obtain ⟨a,rfl,l⟩:=((h2.mono x)).get y1;refine vv (Q a) (bn H fun e z1 H=>?_);obtain ⟨v17,g,n⟩:=Rel.open_place_Pen (s.mono x) z1 l;refine vx (le1 0 eJ (O9.gon g 0 rfl)) (bn H fun i b2 H=>cl (bF O9 s.m e.G n b2) ?_);rintro v26 s3 b0 ⟨k,rfl⟩;refine va (I i) (wln (W.seq (sr (va (Q t) (vx (l1 u_3 ((mm q) 0 _ rfl)) (wln (W.block (sr (vv (B (f.Kind==10)) (wln (cn H (fun c2 H=>?_) (fun c2 H=>?_))))))))))))
 ·refine W.seq (rD [7] (Kp G []) k ?_);intro n1 a4 M;have u2:Kp G [] n1:=(Kp.nil M);refine ta 0 (Q a) (ta 1 (Q a) (ta 2 (Q a) (tkx 3 u2 (fun p h j=>le1 0 eJ (j.gon g 0 rfl)) (ta 4 (I i) (ta 5 (Qo t (0+1)) (tx 6 (fun p h=>l1 u_3 ((mm q) 1 _ rfl)) (bn H fun j3 d2 H=>o1 7 (gc 7 (qg M s.m e.G 0 i f.A n.m d2) ?_))))))));rintro v37 q1 b4 ⟨z0,c1,j1,rfl⟩;refine ⟨.inl rfl,dn (nrm (W.ret (bkr (thr ?_))))⟩;obtain rfl:=si H;exact r0 (qq q1 ⟨z0,c1,j1,rfl⟩)
 refine sr (vv (B (f.Kind==11)) (wln (cn H (fun e2 H=>?_) (fun e2 H=>?_))))
 ·refine W.seq (rD [7] (Kp G []) k ?_);intro s1 c4 N;have v2:Kp G [] s1:=(Kp.nil N);refine ta 0 (Q a) (ta 1 (Q a) (ta 2 (Q a) (tkx 3 v2 (fun p h j=>le1 0 eJ (j.gon g 0 rfl)) (ta 4 (I i) (ta 5 (Qo t (0+1)) (tx 6 (fun p h=>l1 u_3 ((mm q) 1 _ rfl)) (bn H fun k3 f2 H=>o1 7 (gc 7 (qW N s.m e.G 0 i f.A n.m f2) ?_))))))));rintro v48 t1 d4 ⟨a1,d1,k1,rfl⟩;refine ⟨.inl rfl,dn (nrm (W.ret (bkr (thr ?_))))⟩;obtain rfl:=si H;exact r0 (qq t1 ⟨a1,d1,k1,rfl⟩)
 refine sr (vv (B (f.Kind==8)) (wln (cn H (fun g2 H=>?_) (fun g2 H=>?_))))
 ·refine rD [12] (Kp G []) k ?_;intro u1 e4 P;have g0:Kp G [] u1:=(Kp.nil P);refine ta 0 (Q a) (ta 1 (Q a) (ta 2 (Q a) (tkx 3 g0 (fun p h j=>le1 0 eJ (j.gon g 0 rfl)) (ta 4 (Q a) (ta 5 (Q a) (ta 6 (Qo a 1) (ta 7 (Qo a 1) (tkx 8 g0 (fun p h j=>le1 1 u_3 (j.gon g 0 rfl)) (ta 9 (I i) (ta 10 (Qo t (0+1)) (tx 11 (fun p h=>l1 u_3 ((mm q) 1 _ rfl)) (bn H fun l3 i2 H=>o1 12 (gc 12 (qW P s.m e.G e.At.Row i f.A n.m i2) ?_)))))))))))));rintro v59 t3 f4 ⟨n3,R,U,rfl⟩;refine ⟨.inl rfl,dn (bkn (nrm (W.region (vv (Q a) (va (Q a) (va (Qo a 1) (bn H fun d j2 H=>?_)))))))⟩;obtain ⟨D,Z,k2⟩:=Rel.open_place_Pen U j2 (tm l);refine vx (leN 29 1 [I d.At.Row,I d.At.Col,B d.At.Pending] (R.gon Z 0 rfl)) (bn H fun b l2 H=>cl (jB R d.At l2) ?_);rintro j4 u3 d0 ⟨e1,rfl⟩;refine va (Q a) (va (Qo a 1) (md (gB 29 1 [I b.Row,I b.Col,B b.Pending] [D,I b.Row,I b.Col,B b.Pending,B d.Auto] 0 e1 Z ⟨rfl,rfl,rfl,trivial⟩) ?_));rintro w1 e0 f1;refine bn H fun o m2 H=>?_;obtain ⟨b1,g1,m1,y3,p3⟩:=Rel.put_place_Pen f1 (U.mono (d0.trans e0)) (E':=[(Eb a 126 [D,I b.Row,I b.Col,B b.Pending,B d.Auto])]) m2 ⟨a,D,(tm l),rfl,(k2.mono (d0.trans e0))⟩;refine WL.nil ?_;obtain rfl:=si H;exact n0 (qq w1 ⟨b1,g1,m1,rfl⟩)
 refine sr (vv (B (f.Kind==9)) (wln (cn H (fun n2 H=>?_) (fun n2 H=>?_))))
 ·refine rD [12] (Kp G []) k ?_;intro x1 g4 S;have h0:Kp G [] x1:=(Kp.nil S);refine ta 0 (Q a) (ta 1 (Q a) (ta 2 (Q a) (tkx 3 h0 (fun p h j=>le1 0 eJ (j.gon g 0 rfl)) (ta 4 (Q a) (ta 5 (Q a) (ta 6 (Qo a 1) (ta 7 (Qo a 1) (tkx 8 h0 (fun p h j=>le1 1 u_3 (j.gon g 0 rfl)) (ta 9 (I i) (ta 10 (Qo t (0+1)) (tx 11 (fun p h=>l1 u_3 ((mm q) 1 _ rfl)) (bn H fun m3 o2 H=>o1 12 (gc 12 (qg S s.m e.G e.At.Row i f.A n.m o2) ?_)))))))))))));rintro k4 w3 i4 ⟨o3,T,X,rfl⟩;refine ⟨.inl rfl,dn (bkn (nrm (W.region (vv (Q a) (va (Q a) (va (Qo a 1) (bn H fun d p2 H=>?_)))))))⟩;obtain ⟨E,a0,q2⟩:=Rel.open_place_Pen X p2 (tm l);refine vx (leN 29 1 [I d.At.Row,I d.At.Col,B d.At.Pending] (T.gon a0 0 rfl)) (bn H fun b s2 H=>cl (jB T d.At s2) ?_);rintro h3 x3 f0 ⟨i1,rfl⟩;refine va (Q a) (va (Qo a 1) (md (gB 29 1 [I b.Row,I b.Col,B b.Pending] [E,I b.Row,I b.Col,B b.Pending,B d.Auto] 0 i1 a0 ⟨rfl,rfl,rfl,trivial⟩) ?_));rintro u0 u k0;refine bn H fun o w0 H=>?_;obtain ⟨i0,l0,s0,d3,x2⟩:=Rel.put_place_Pen k0 (X.mono (f0.trans u)) (E':=[(Eb a 126 [E,I b.Row,I b.Col,B b.Pending,B d.Auto])]) w0 ⟨a,E,(tm l),rfl,(q2.mono (f0.trans u))⟩;refine WL.nil ?_;obtain rfl:=si H;exact n0 (qq u0 ⟨i0,l0,s0,rfl⟩)
 refine W.skip (bkn (nrm (W.region (vv (Q a) (va (Q a) (va (Qo a 1) (vx (leN 29 1 [I e.At.Row,I e.At.Col,B e.At.Pending] (k.gon g 0 rfl)) (bn H fun b x0 H=>cl (jB k e.At x0) ?_))))))));rintro i3 c3 y ⟨m0,rfl⟩;refine va (Q a) (va (Qo a 1) (md (gB 29 1 [I b.Row,I b.Col,B b.Pending] [v17,I b.Row,I b.Col,B b.Pending,B e.Auto] 0 m0 g ⟨rfl,rfl,rfl,trivial⟩) ?_));rintro v0 z o0;refine bn H fun o y0 H=>?_;obtain ⟨j0,q0,t0,e3,y2⟩:=Rel.put_place_Pen o0 (s.mono (x.trans (b0.trans (y.trans z)))) (E':=[(Eb a 126 [v17,I b.Row,I b.Col,B b.Pending,B e.Auto])]) y0 ⟨a,v17,(tm l),rfl,(n.mono (b0.trans (y.trans z)))⟩;refine WL.nil ?_;obtain rfl:=si H;exact n0 (qq v0 ⟨j0,q0,t0,rfl⟩)
def lm (sg:Sto) (p0:Option Nat) (p1:Int):Option (Sto):=
 (p0).bind fun f=>
 (sg.place_Pen[f]?).bind fun b=>
 (bv sg b.G b.At.Row).bind fun a=>
 if (p1==0)=true then
 (kM sg a b.At.Col).bind fun c=>
 some c
 else
 if (p1==1)=true then
 (lF sg a b.At.Col).bind fun d=>
 some d
 else
 (ke sg a).bind fun e=>
 some e
theorem tI (O0:Own c0 G F) (h:Rel c0 sg G) (hG:Gl [2,4] c0) (Z:Option Nat) (d:Int) {r:Sto} (h2:Pt 2 c0 v1 Z) (H:lm sg Z d=some r): Calls prog 190 #[v1,I d] c0.w (aT c0 fun c v=>∃G_:Gm,Own c G_ (F)∧Rel c r G_∧v= .tuple #[]):=by
 unfold lm at H;refine en func190 rfl rfl (W.seq (rD [] (Kp G []) O0 ?_));intro c3 X q;have p5:Kp G [] c3:=(Kp.nil q);refine ta 0 (v1) (bn H fun o0 h8 H=>?_);obtain ⟨a,rfl,h7⟩:=((h2.mono X)).get h8;refine ta 1 (Q a) (ta 2 (Q a) (bn H fun g h9 H=>?_));obtain ⟨v10,f,E⟩:=Rel.open_place_Pen (h.mono X) h9 h7;refine tkx 3 p5 (fun c' U j=>le1 0 eJ (j.gon f 0 rfl)) (ta 4 (Q a) (ta 5 (Q a) (ta 6 (Qo a 1) (ta 7 (Qo a 1) (tkx 8 p5 (fun c' U j=>le1 1 u_3 (j.gon f 0 rfl)) (bn H fun e M H=>o1 9 (gc 9 (cM q h.m g.G g.At.Row E M) ?_)))))));rintro v14 y q0 ⟨_,b,rfl,i⟩;have a0:Kp G [] y:=(Kp.nil b);refine ⟨.inr a0,ta 10 (v14) (dn (nrm (sr (va (I d) (wln (W.block (sr (vv (B (d==0)) (wln (cn H (fun N H=>?_) (fun N H=>?_)))))))))))⟩
 ·refine W.region (va (v14) (vv (Q a) (va (Qo a 1) (va (Qo a 2) (vx (le1 2 u_3 (b.gon f 0 rfl)) (bn H fun k0 P H=>cl (vT b h.m (hG.m.le (by decide)) e g.At.Col i P) ?_))))));rintro v30 z s0 ⟨k,o,t,rfl⟩;refine WL.nil (bkn ?_);obtain rfl:=si H;exact n0 (qq z ⟨k,o,t,rfl⟩)
 refine sr (vv (B (d==1)) (wln (cn H (fun R H=>?_) (fun R H=>?_))))
 ·refine W.region (va (v14) (vv (Q a) (va (Qo a 1) (va (Qo a 2) (vx (le1 2 u_3 (b.gon f 0 rfl)) (bn H fun l0 S H=>cl (xq b h.m (hG.m.le (by decide)) e g.At.Col i S) ?_))))));rintro v38 A t0 ⟨l,p,u,rfl⟩;refine WL.nil (bkn ?_);obtain rfl:=si H;exact n0 (qq A ⟨l,p,u,rfl⟩)
 refine W.region (va (v14) (bn H fun m0 T H=>cl (tH b h.m (hG.m.le (by decide)) e i T) ?_));rintro v45 D u0 ⟨n,s,x,rfl⟩;refine WL.nil (bkn ?_);obtain rfl:=si H;exact n0 (qq D ⟨n,s,x,rfl⟩)
def mA (sg:Sto) (p0:Option Nat) (p1:Int):Option (Sto):=
 (lm sg p0 p1).bind fun c=>
 (p0).bind fun b=>
 (c.place_Pen[b]?).bind fun p=>
 (bL c p.G).bind fun d=>
 (cJ (σ:=Int×Sto) (τ:=Sto) ((d - 0).toNat+1) (fun a=>
 if (decide (a.1 < d))=true then
 ((orE (p1==2) ((bT (p1==0) ((a.2.place_Pen[b]?).bind fun j=>
 some (decide (a.1 > j.At.Row)))).bind fun f=>
 some f)).bind fun e=>
 (orE e ((bT (p1==1) ((a.2.place_Pen[b]?).bind fun k=>
 some (decide (a.1 < k.At.Row)))).bind fun h=>
 some h)).bind fun g=>
 if g=true then
 (a.2.place_Pen[b]?).bind fun l=>
 (bv a.2 l.G a.1).bind fun m=>
 (ke a.2 m).bind fun n=>
 some (n)
 else
 some (a.2)).bind fun o=>
 some (.inl ((w64 (a.1+1)),o))
 else
 some (.inr (a.2))) (0,c)).bind fun i=>
 some i
theorem vV (O0:Own c0 G F) (R0:Rel c0 sg G) (hG:Gl [2,4] c0) (p0:Option Nat) (f:Int) {r:Sto} (h2:Pt 2 c0 v1 p0) (H:mA sg p0 f=some r): Calls prog 191 #[v1,I f] c0.w (aT c0 fun c v=>∃G_:Gm,Own c G_ (F)∧Rel c r G_∧v= .tuple #[]):=by
 unfold mA at H;refine en func191 rfl rfl (sr (va (v1) (va (I f) (bn H fun s3 h3 H=>cl (tI O0 R0 (hG.le (by decide)) p0 f h2 h3) ?_))));rintro v9 c8 l8 ⟨G4,O5,R6,rfl⟩;refine wln (sr (va (v1) (bn H fun f3 j1 H=>?_)));obtain ⟨b,rfl,n⟩:=((h2.mono l8)).get j1;refine vv (Q b) (bn H fun l2 k1 H=>?_);obtain ⟨v14,n1,m1⟩:=Rel.open_place_Pen R6 k1 n;refine vx (le1 0 eJ (O5.gon n1 0 rfl)) (bn H fun A q1 H=>cl (bF O5 R6 l2.G m1 q1) ?_);rintro v23 R g3 ⟨x0,rfl⟩;refine va (I 0) (wln (W.block (bn H fun v2 U T=>lp U (fun a=>Jn R fun c l=>∃G_,Own c G_ (F)∧l= [(0,Q b),(1,I f),(12,I A),(13,I a.1)]∧Rel c a.2 G_) (fun S ex e w=>ex= .exit 0∧(Jn R fun c l=>∃G_,Own c G_ (F)∧l= []∧Rel c S G_) e w) ?_ ?_ ?_)))
 ·clear T U;intro a t3 i1 m2 H;revert i1 m2;rintro e_ w_ ⟨i,y2,_,rfl,i3,rfl,D,g,rfl,j⟩;refine sr (va (B (decide (a.1 < A))) (wln (W.seq (cn H (fun t1 H=>?_) (fun t1 H=>?_)))))
  ·refine W.skip (nrm (bn H fun t0 d w0=>W.seqJ (Jn i fun c l=>∃G_,Own c G_ (F)∧l= [(0,Q b),(1,I f),(12,I A),(13,I a.1)]∧Rel c t0 G_) ?_ ?_))
   ·refine W.block (sr (vv (I a.1) (wln (W.seq (bn d fun q2 X d=>bn d fun j0 z d=>W.join (Jn i fun c l=>Own c D (F)∧l= [(0,Q b),(1,I f),(4,I a.1),(12,I A),(13,I a.1),(43,B j0)]) ?_ ?_)))))
    ·clear d;refine W.region (va (I f) (va (B (f==2)) ?_));rcases bo (f==2) with o | o
     ·obtain rfl:=orT o X;refine vb o (pz (pz (pz (pz (pz (ps (va (B true) ?_)))))));have Z:true=true:=rfl;obtain rfl:=orT Z z;exact vb Z (pz (pz (pz (pz (pz (ps (va (B true) (wln (jn i ⟨g,rfl⟩)))))))))
     have u:=orF o X;refine vb o (wa (I f) (wa (B (f==0)) (wn (bn u fun s2 a0 u=>?_))));rcases bo (f==0) with p | p
     ·have E:=anT p a0;refine vb p (wa (I a.1) (wa (Q b) (wa (Q b) (wa (Qo b 1) (wa (Qo b 1) (wn (bn E fun k u1 E=>?_)))))));obtain ⟨v44,w1,c3⟩:=Rel.open_place_Pen j u1 (tm n);refine vx (le1 1 u_3 (g.gon w1 0 rfl)) (wa (B (decide (a.1 > k.At.Row))) (wn ?_));obtain rfl:=si E;refine va (B (decide (a.1 > k.At.Row))) ?_;obtain rfl:=si u;refine va (B (decide (a.1 > k.At.Row))) ?_;rcases bo (decide (a.1 > k.At.Row)) with q | q
      ·obtain rfl:=orT q z;exact vb q (pz (pz (pz (pz (pz (ps (va (B true) (wln (jn i ⟨g,rfl⟩)))))))))
      have x:=orF q z;refine vb q (wa (I f) (wa (B (f==1)) (wn (bn x fun k0 b0 x=>?_))));rcases bo (f==1) with s | s
      ·have M:=anT s b0;refine vb s (wa (I a.1) (wa (Q b) (wa (Q b) (wa (Qo b 1) (wa (Qo b 1) (wn (bn M fun h x1 M=>?_)))))));obtain ⟨v53,y1,d3⟩:=Rel.open_place_Pen j x1 (tm n);refine vx (le1 1 u_3 (g.gon y1 0 rfl)) (wa (B (decide (a.1 < h.At.Row))) (wn ?_));obtain rfl:=si M;refine va (B (decide (a.1 < h.At.Row))) ?_;obtain rfl:=si x;exact va (B (decide (a.1 < h.At.Row))) (wln (jn i ⟨g,rfl⟩))
      obtain rfl:=anF s b0;refine vb s (pz (pz (pz (ps (wa (B false) ?_)))));obtain rfl:=si x;exact va (B false) (wln (jn i ⟨g,rfl⟩))
     obtain rfl:=anF p a0;refine vb p (pz (pz (pz (ps (wa (B false) ?_)))));obtain rfl:=si u;refine va (B false) ?_;have d0:false=false:=rfl;have y:=orF d0 z;refine vb d0 (wa (I f) (wa (B (f==1)) (wn (bn y fun k0 e0 y=>?_))));rcases bo (f==1) with t | t
     ·have N:=anT t e0;refine vb t (wa (I a.1) (wa (Q b) (wa (Q b) (wa (Qo b 1) (wa (Qo b 1) (wn (bn N fun h z1 N=>?_)))))));obtain ⟨n3,b2,e3⟩:=Rel.open_place_Pen j z1 (tm n);refine vx (le1 1 u_3 (g.gon b2 0 rfl)) (wa (B (decide (a.1 < h.At.Row))) (wn ?_));obtain rfl:=si N;refine va (B (decide (a.1 < h.At.Row))) ?_;obtain rfl:=si y;exact va (B (decide (a.1 < h.At.Row))) (wln (jn i ⟨g,rfl⟩))
     obtain rfl:=anF t e0;refine vb t (pz (pz (pz (ps (wa (B false) ?_)))));obtain rfl:=si y;exact va (B false) (wln (jn i ⟨g,rfl⟩))
    rintro e_ w_ ⟨e1,z2,_,rfl,k2,rfl,P,rfl⟩;refine nrm (cn d (fun c2 d=>?_) (fun c2 d=>?_))
    ·refine W.region (vv (Q b) (va (Q b) (bn d fun m0 d2 d=>?_)));obtain ⟨o3,f2,e2⟩:=Rel.open_place_Pen (j.mono k2) d2 (tm n);refine vx (le1 0 eJ (P.gon f2 0 rfl)) (va (I a.1) (bn d fun s0 g2 d=>cl (cM P j.m m0.G a.1 e2 g2) ?_));rintro p3 x2 j3 ⟨_,z0,rfl,i2⟩;refine bn d fun w2 j2 d=>cl (tH z0 j.m (hG.m.le (by decide)) s0 i2 j2) ?_;rintro q3 f1 k3 ⟨u0,a1,c1,rfl⟩;refine WL.nil (bkn (nrm ?_));obtain rfl:=si d;exact jn f1 ⟨u0,a1,rfl,c1⟩
    refine W.skip (bkn (nrm ?_));obtain rfl:=si d;exact jn e1 ⟨D,P,rfl,j.m⟩
   rintro e_ w_ ⟨g1,a3,_,rfl,l3,rfl,v0,b1,rfl,d1⟩;refine W.region (vv (I (w64 (a.1+1))) (WL.nil ?_));obtain rfl:=si w0;exact ⟨_,rfl,jn g1 ⟨v0,b1,rfl,d1⟩⟩
  refine W.exit (thx ?_);obtain rfl:=si H;exact ⟨_,rfl,rfl,jn i ⟨D,g,rfl,j⟩⟩
 ·exact jn R ⟨G4,x0,rfl,R6.m⟩
 rintro _ e_ w_ ⟨rfl,h1,b3,_,rfl,m3,rfl,f0,g0,rfl,h0⟩;refine bke ?_;obtain rfl:=si T;exact n0 (qq h1 ⟨f0,g0,h0,rfl⟩)
def fK (sg:Sto) (p0:Option Nat) (p1:bu):Option (Sto):=
 (p0).bind fun e=>
 (sg.place_Pen[e]?).bind fun a=>
 (bv sg a.G a.At.Row).bind fun c=>
 if (p1.Kind==2)=true then
 (bX sg a.G).bind fun f=>
 (bL sg a.G).bind fun g=>
 (iN p1.A p1.B f g).bind fun h=>
 (sg.set_place_Pen e (⟨a.G,h,a.Auto⟩:bj)).bind fun d=>
 some d
 else
 if (p1.Kind==3)=true then
 (lm sg p0 p1.A).bind fun i=>
 some i
 else
 if (p1.Kind==4)=true then
 (mA sg p0 p1.A).bind fun j=>
 some j
 else
 if (p1.Kind==5)=true then
 (jI sg c a.At.Col p1.A).bind fun k=>
 some k
 else
 if (p1.Kind==6)=true then
 (jV sg c a.At.Col p1.A).bind fun l=>
 some l
 else
 if (p1.Kind==7)=true then
 (jW sg c a.At.Col p1.A).bind fun m=>
 some m
 else
 if (p1.Kind==12)=true then
 (sg.set_place_Pen e (⟨a.G,a.At,p1.A != 0⟩:bj)).bind fun b=>
 some b
 else
 some sg
theorem xr (O0:Own c0 G F) (k:Rel c0 sg G) (hG:Gl [2,4] c0) (D:Option Nat) (b:bu) {r:Sto} (h2:Pt 2 c0 v1 D) (h4:Sl (RI .u8) c0 v3 b.Bytes) (H:fK sg D b=some r): Calls prog 123 #[v1,.agg #[I b.Kind,I b.A,I b.B,v3]] c0.w (aT c0 fun c v=>∃G_:Gm,Own c G_ (F)∧Rel c r G_∧v= .tuple #[]):=by
 unfold fK at H;refine en func123 rfl rfl (sr ?_);obtain ⟨a5,a6,a7,rfl⟩:=(h4).form;refine me (bx 38 [I b.Kind,I b.A,I b.B,.slice a5 a6 a7] O0) ?_;rintro v12 e4 q ⟨n,rfl,O9,i⟩;refine wln (W.seq (rD [] (Kp G []) O9 ?_));intro b2 s E;have e0:Kp G [] b2:=(Kp.nil E);refine ta 0 (v1) (bn H fun g4 n2 H=>?_);obtain ⟨a,rfl,x⟩:=((h2.mono (q.trans s))).get n2;refine ta 1 (Q a) (ta 2 (Q a) (bn H fun d o2 H=>?_));obtain ⟨v20,h,o⟩:=Rel.open_place_Pen (k.mono (q.trans s)) o2 x;refine tkx 3 e0 (fun l f j=>le1 0 eJ (j.gon h 0 rfl)) (ta 4 (Q a) (ta 5 (Q a) (ta 6 (Qo a 1) (ta 7 (Qo a 1) (tkx 8 e0 (fun l f j=>le1 1 u_3 (j.gon h 0 rfl)) (bn H fun p p2 H=>o1 9 (gc 9 (cM E k.m d.G d.At.Row o p2) ?_)))))));rintro v24 U t ⟨_,g,rfl,y⟩;have d3:Kp G [] U:=(Kp.nil g);refine ⟨.inr d3,ta 10 (v24) (dn (nrm (sr (va (Q n) (vx (l1 u_3 ((mm i) 0 _ rfl)) (wln (W.block (sr (vv (B (b.Kind==2)) (wln (cn H (fun q2 H=>?_) (fun q2 H=>?_))))))))))))⟩
 ·refine rD [18] (Kp G []) g ?_;intro c2 X M;have f0:Kp G [] c2:=(Kp.nil M);refine ta 0 (Q a) (ta 1 (Qo n (0+1)) (tx 2 (fun l f=>l1 u_3 ((mm i) 1 _ rfl)) (ta 3 (Qo n (0+2)) (tx 4 (fun l f=>l1 u_3 ((mm i) 2 _ rfl)) (ta 5 (Q a) (ta 6 (Q a) (ta 7 (Q a) (tkx 8 f0 (fun l f j=>le1 0 eJ (j.gon h 0 rfl)) (ta 10 (Q a) (ta 11 (Q a) (ta 12 (Q a) (tkx 13 f0 (fun l f j=>le1 0 eJ (j.gon h 0 rfl)) (bn H fun f1 s2 H=>o1 9 (gc 9 (cC M k.m d.G o.m s2) ?_))))))))))))));rintro v43 d2 Z ⟨N,rfl⟩;have e3:Kp G [] d2:=(Kp.nil N);refine ⟨.inr e3,bn H fun g1 t2 H=>o1 14 (gc 14 (bF N k.m d.G o.m t2) ?_)⟩;rintro v51 e2 a0 ⟨P,rfl⟩;have f3:Kp G [] e2:=(Kp.nil P);refine ⟨.inr f3,bn H fun e u2 H=>o1 15 (gc 15 (qZ P b.A b.B f1 g1 u2) ?_)⟩;rintro v59 f2 b0 ⟨R,rfl⟩;have g3:Kp G [] f2:=(Kp.nil R);refine ⟨.inr g3,ta 16 (Q a) (ta 17 (Qo a 1) (o1 18 (gD 18 (gB 29 1 [I e.Row,I e.Col,B e.Pending] [v20,I e.Row,I e.Col,B e.Pending,B d.Auto] 0 R h ⟨rfl,rfl,rfl,trivial⟩) ?_)))⟩;rintro g2 d0 n1;refine bn H fun h1 v2 H=>?_;obtain ⟨i1,q1,w1,f4,d4⟩:=Rel.put_place_Pen n1 (k.mono (q.trans (s.trans (t.trans (X.trans (Z.trans (a0.trans (b0.trans d0)))))))) (E':=[(Eb a 126 [v20,I e.Row,I e.Col,B e.Pending,B d.Auto])]) v2 ⟨a,v20,(tm x),rfl,(o.mono (t.trans (X.trans (Z.trans (a0.trans (b0.trans d0))))))⟩;refine ⟨.inl rfl,dn (bkn ?_)⟩;obtain rfl:=si H;exact n0 (qq g2 ⟨i1,q1,w1,rfl⟩)
 refine sr (vv (B (b.Kind==3)) (wln (cn H (fun w2 H=>?_) (fun w2 H=>?_))))
 ·refine W.region (va (Q a) (va (Qo n (0+1)) (vx (l1 u_3 ((mm i) 1 _ rfl)) (bn H fun y3 x2 H=>cl (tI g k.m (hG.m.le (by decide)) D b.A h2.m x2) ?_))));rintro n4 i2 i4 ⟨j1,s1,x1,rfl⟩;refine WL.nil (bkn ?_);obtain rfl:=si H;exact n0 (qq i2 ⟨j1,s1,x1,rfl⟩)
 refine sr (vv (B (b.Kind==4)) (wln (cn H (fun y2 H=>?_) (fun y2 H=>?_))))
 ·refine W.region (va (Q a) (va (Qo n (0+1)) (vx (l1 u_3 ((mm i) 1 _ rfl)) (bn H fun z3 z2 H=>cl (vV g k.m (hG.m.le (by decide)) D b.A h2.m z2) ?_))));rintro o4 j2 j4 ⟨k1,t1,y1,rfl⟩;refine WL.nil (bkn ?_);obtain rfl:=si H;exact n0 (qq j2 ⟨k1,t1,y1,rfl⟩)
 refine sr (vv (B (b.Kind==5)) (wln (cn H (fun a3 H=>?_) (fun a3 H=>?_))))
 ·refine rD [8] (Kp G []) g ?_;intro k2 k4 S;have h3:Kp G [] k2:=(Kp.nil S);refine ta 0 (v24) (ta 1 (Q a) (ta 2 (Q a) (ta 3 (Qo a 1) (ta 4 (Qo a 2) (tkx 5 h3 (fun l f j=>le1 2 u_3 (j.gon h 0 rfl)) (ta 6 (Qo n (0+1)) (tx 7 (fun l f=>l1 u_3 ((mm i) 1 _ rfl)) (bn H fun a4 b3 H=>o1 8 (gc 8 (vU S k.m (hG.m.le (by decide)) p d.At.Col b.A y.m b3) ?_)))))))));rintro p4 l2 l4 ⟨m1,u1,z1,rfl⟩;refine ⟨.inl rfl,dn (bkn ?_)⟩;obtain rfl:=si H;exact n0 (qq l2 ⟨m1,u1,z1,rfl⟩)
 refine sr (vv (B (b.Kind==6)) (wln (cn H (fun c3 H=>?_) (fun c3 H=>?_))))
 ·refine rD [8] (Kp G []) g ?_;intro m2 m4 T;have i3:Kp G [] m2:=(Kp.nil T);refine ta 0 (v24) (ta 1 (Q a) (ta 2 (Q a) (ta 3 (Qo a 1) (ta 4 (Qo a 2) (tkx 5 i3 (fun l f j=>le1 2 u_3 (j.gon h 0 rfl)) (ta 6 (Qo n (0+1)) (tx 7 (fun l f=>l1 u_3 ((mm i) 1 _ rfl)) (bn H fun b4 x0 H=>o1 8 (gc 8 (vn T k.m (hG.m.le (by decide)) p d.At.Col b.A y.m x0) ?_)))))))));rintro w3 t0 s3 ⟨g0,j0,o0,rfl⟩;refine ⟨.inl rfl,dn (bkn ?_)⟩;obtain rfl:=si H;exact n0 (qq t0 ⟨g0,j0,o0,rfl⟩)
 refine sr (vv (B (b.Kind==7)) (wln (cn H (fun y0 H=>?_) (fun y0 H=>?_))))
 ·refine rD [8] (Kp G []) g ?_;intro u0 t3 u;have d1:Kp G [] u0:=(Kp.nil u);refine ta 0 (v24) (ta 1 (Q a) (ta 2 (Q a) (ta 3 (Qo a 1) (ta 4 (Qo a 2) (tkx 5 d1 (fun l f j=>le1 2 u_3 (j.gon h 0 rfl)) (ta 6 (Qo n (0+1)) (tx 7 (fun l f=>l1 u_3 ((mm i) 1 _ rfl)) (bn H fun c4 z0 H=>o1 8 (gc 8 (vp u k.m (hG.m.le (by decide)) p d.At.Col b.A y.m z0) ?_)))))))));rintro x3 v0 u3 ⟨h0,k0,q0,rfl⟩;refine ⟨.inl rfl,dn (bkn ?_)⟩;obtain rfl:=si H;exact n0 (qq v0 ⟨h0,k0,q0,rfl⟩)
 refine sr (vv (B (b.Kind==12)) (wln (cn H (fun a1 H=>?_) (fun a1 H=>?_))))
 ·refine W.region (va (Q a) (va (Qo n (0+1)) (vx (l1 u_3 ((mm i) 1 _ rfl)) (va (B (b.A != 0)) (va (Q a) (va (Qo a 4) (md (gC 4 4 (B (b.A != 0)) [v20,I d.At.Row,I d.At.Col,B d.At.Pending,B (b.A != 0)] 0 g h ⟨rfl,trivial⟩) ?_)))))));rintro w0 z l0;refine bn H fun e1 b1 H=>?_;obtain ⟨i0,m0,s0,p3,l3⟩:=Rel.put_place_Pen l0 (k.mono (q.trans (s.trans (t.trans z)))) (E':=[(Eb a 126 [v20,I d.At.Row,I d.At.Col,B d.At.Pending,B (b.A != 0)])]) b1 ⟨a,v20,(tm x),rfl,(o.mono (t.trans z))⟩;refine WL.nil (bkn ?_);obtain rfl:=si H;exact n0 (qq w0 ⟨i0,m0,s0,rfl⟩)
 refine W.skip (bkn ?_);obtain rfl:=si H;exact n0 (qq U ⟨G,g,k.m,rfl⟩)
def ot (sg:Sto) (p0:Option Nat) (p1:bu):Option (Sto×Er):=
 (kv p1).bind fun g=>
 if (!g.isNil)=true then
 some (sg,g)
 else
 (orE p0.isNone ((p0).bind fun i=>
 (sg.place_Pen[i]?).bind fun j=>
 some j.G.isNone)).bind fun h=>
 if h=true then
 some (sg,Er.nil)
 else
 (p0).bind fun d=>
 (sg.place_Pen[d]?).bind fun b=>
 (bX sg b.G).bind fun k=>
 (bL sg b.G).bind fun l=>
 (fL b.At k l).bind fun e=>
 (sg.set_place_Pen d (⟨b.G,e,b.Auto⟩:bj)).bind fun f=>
 (f.set_place_Pen d (⟨b.G,(⟨e.Row,e.Col,false⟩:ah),b.Auto⟩:bj)).bind fun a=>
 (if (p1.Kind==8)=true then
 (iK a p0 p1).bind fun c=>
 some (c)
 else
 if (p1.Kind==9)=true then
 (iK a p0 p1).bind fun c=>
 some (c)
 else
 (if (p1.Kind==10)=true then
 some (p1.Kind==10)
 else
 some (p1.Kind==11)).bind fun o=>
 if o=true then
 (iK a p0 p1).bind fun c=>
 some (c)
 else
 (fK a p0 p1).bind fun m=>
 some (m)).bind fun n=>
 some (n,Er.nil)
theorem BZ (O0:Own c0 G F) (t:Rel c0 sg G) (hG:Gl [2,4] c0) (s:Option Nat) (e:bu) {r:Sto×Er} (u:Pt 2 c0 v1 s) (P:Sl (RI .u8) c0 v3 e.Bytes) (H:ot sg s e=some r): Calls prog 76 #[v1,.agg #[I e.Kind,I e.A,I e.B,v3]] c0.w (aT c0 fun c v=>∃y1,∃G_:Gm,Own c G_ (F)∧Rel c r.1 G_∧v=y1∧RE 350 144 c y1 r.2):=by
 unfold ot at H;refine en func76 rfl rfl (sr ?_);obtain ⟨a5,a6,a7,rfl⟩:=(P).form;refine me (bx 38 [I e.Kind,I e.A,I e.B,.slice a5 a6 a7] O0) ?_;rintro v12 w4 p ⟨b8,rfl,O9,k⟩;refine va (.nilIface) (wln (W.seq (sr (vx (lN 38 k) (bn H fun x3 z2 H=>cl (sF O9 (hG.m.le (by decide)) e P.m z2) ?_)))));rintro v14 D q ⟨_,x,rfl,o0⟩;refine va (v14) (wln (sr (va (v14) (vr (B (!x3.isNil)) (by rcases (o0).cs with ⟨h,i⟩ | ⟨b_,h,i⟩ | ⟨b_,h,i⟩ <;> (subst h; rw [i]; kernel_rfl)) (wln (cn H (fun a3 H=>?_) (fun a3 H=>?_)))))))
 ·refine sr (vv (v14) (wln (W.ret (thr ?_))));obtain rfl:=si H;exact r1 (qq D ⟨v14,G,x,t.m,rfl,o0⟩)
 refine W.skip (nrm (W.seq (W.seq (bn H fun n1 q0 H=>W.join (Jn D fun c l=>Own c G (F)∧l= [(0,v1),(3,Q b8),(19,B n1)]) ?_ ?_))))
 ·clear H;refine W.region (va (v1) (vr (B s.isNone) (by rcases u.m.cs with ⟨h,i⟩ | ⟨b_,h,i⟩ <;> (subst h; rw [i]; kernel_rfl)) ?_));rcases bo (s.isNone) with o | o
  ·obtain rfl:=orT o q0;exact vb o (pz (pz (ps (va (B true) (wln (jn D ⟨x,rfl⟩))))))
  have n:=orF o q0;refine vb o (wa (v1) (wn (bn n fun i4 c3 n=>?_)));obtain ⟨m0,rfl,b3⟩:=((u.mono (p.trans q))).get c3;refine va (Q m0) (wa (Q m0) (wn (bn n fun e0 d3 n=>?_)));obtain ⟨v30,f3,e3⟩:=Rel.open_place_Pen (t.mono (p.trans q)) d3 b3;refine vx (le1 0 eJ (x.gon f3 0 rfl)) (wn (vr (B e0.G.isNone) (by rcases (e3).cs with ⟨h,i⟩ | ⟨b_,h,i⟩ <;> (subst h; rw [i]; kernel_rfl)) ?_));obtain rfl:=si n;exact va (B e0.G.isNone) (wln (jn D ⟨x,rfl⟩))
 rintro e_ w_ ⟨s2,y4,_,rfl,U,rfl,h0,rfl⟩;refine nrm (cn H (fun g3 H=>?_) (fun g3 H=>?_))
 ·refine sr (va (.nilIface) (wln (W.ret (thr ?_))));obtain rfl:=si H;exact r1 (qq s2 ⟨.nilIface,G,h0,t.m,rfl,rfl⟩)
 refine W.skip (nrm (W.seq (rD [18] (Kp G []) h0 ?_)));intro t2 X i0;have f0:Kp G [] t2:=(Kp.nil i0);refine ta 0 (v1) (ta 1 (v1) (bn H fun j4 h3 H=>?_));obtain ⟨a,rfl,S⟩:=((u.mono (p.trans (q.trans (U.trans X))))).get h3;refine ta 2 (Q a) (ta 3 (Qo a 1) (bn H fun d i3 H=>?_));obtain ⟨v47,N,M⟩:=Rel.open_place_Pen (t.mono (p.trans (q.trans (U.trans X)))) i3 S;refine tkx 4 f0 (fun c' s0 T=>leN 29 1 [I d.At.Row,I d.At.Col,B d.At.Pending] (T.gon N 0 rfl)) (ta 5 (Q a) (ta 6 (Q a) (ta 7 (Q a) (tkx 8 f0 (fun c' s0 T=>le1 0 eJ (T.gon N 0 rfl)) (ta 10 (Q a) (ta 11 (Q a) (ta 12 (Q a) (tkx 13 f0 (fun c' s0 T=>le1 0 eJ (T.gon N 0 rfl)) (bn H fun z1 j3 H=>o1 9 (gc 9 (cC i0 t.m d.G M j3) ?_))))))))));rintro v56 u2 Z ⟨j0,rfl⟩;have s3:Kp G [] u2:=(Kp.nil j0);refine ⟨.inr s3,bn H fun b2 k3 H=>o1 14 (gc 14 (bF j0 t.m d.G M.m k3) ?_)⟩;rintro c5 v2 a0 ⟨k0,rfl⟩;have t3:Kp G [] v2:=(Kp.nil k0);refine ⟨.inr t3,bn H fun b l3 H=>o1 15 (gc 15 (eo k0 d.At z1 b2 l3) ?_)⟩;rintro d5 w2 b0 ⟨l0,rfl⟩;have u3:Kp G [] w2:=(Kp.nil l0);refine ⟨.inr u3,ta 16 (Q a) (ta 17 (Qo a 1) (o1 18 (gD 18 (gB 29 1 [I b.Row,I b.Col,B b.Pending] [v47,I b.Row,I b.Col,B b.Pending,B d.Auto] 0 l0 N ⟨rfl,rfl,rfl,trivial⟩) ?_)))⟩;rintro x4 d0 k2;refine bn H fun e2 n3 H=>?_;obtain ⟨t4,l2,o2,m3,u4⟩:=Rel.put_place_Pen k2 (t.mono (p.trans (q.trans (U.trans (X.trans (Z.trans (a0.trans (b0.trans d0)))))))) (E':=[(Eb a 126 [v47,I b.Row,I b.Col,B b.Pending,B d.Auto])]) n3 ⟨a,v47,(tm S),rfl,(M.mono (Z.trans (a0.trans (b0.trans d0))))⟩;refine ⟨.inl rfl,dn (nrm (sr (vv (Q a) (va (Qo a 1) (va (Qo a 3) (md (gC 4 3 (B false) [v47,I b.Row,I b.Col,B false,B d.Auto] 0 l2 m3 ⟨rfl,trivial⟩) ?_))))))⟩;rintro E t0 m2;refine bn H fun f2 o3 H=>?_;obtain ⟨g2,y,z,z4,v4⟩:=Rel.put_place_Pen m2 (o2.mono t0) (E':=[(Eb a 126 [v47,I b.Row,I b.Col,B false,B d.Auto])]) o3 ⟨a,v47,(tm S),rfl,(M.mono (Z.trans (a0.trans (b0.trans (d0.trans t0)))))⟩;refine wln (bn H fun c2 f j2=>W.seqJ (Jn E fun c l=>∃G_,Own c G_ (F)∧l= []∧Rel c c2 G_) ?_ ?_)
 ·refine sr (va (Q b8) (vx (l1 u_3 ((mm k) 0 _ rfl)) (wln (W.block (W.seq (W.block (W.seq (W.block (W.block (W.block (W.seq (W.seq (sr (vv (B (e.Kind==8)) (wln (cn f (fun p3 f=>?_) (fun p3 f=>?_)))))))))))))))))
  ·refine W.exit (thx (thx (bke (bkn (bkn (nrm (sr (va (Q a) (vx (lN 38 (mm k)) (bn f fun g0 q3 f=>cl (qt y z s e u.m P.m q3) ?_))))))))));rintro e5 x2 b5 ⟨i2,n2,p2,rfl⟩;refine wln (W.exit (bko rfl (thx (bke (nrm ?_)))));obtain rfl:=si f;exact jn x2 ⟨i2,n2,rfl,p2⟩
  refine W.skip (nrm (W.seq (sr (vv (B (e.Kind==9)) (wln (cn f (fun q1 f=>?_) (fun q1 f=>?_)))))))
  ·refine W.exit (thx (thx (bko rfl (bke (bkn (nrm (sr (va (Q a) (vx (lN 38 (mm k)) (bn f fun g0 s1 f=>cl (qt y z s e u.m P.m s1) ?_))))))))));rintro p4 i1 k4 ⟨u0,y0,c1,rfl⟩;refine wln (W.exit (bko rfl (thx (bke (nrm ?_)))));obtain rfl:=si f;exact jn i1 ⟨u0,y0,rfl,c1⟩
  refine W.skip (nrm (bn f fun d2 j g=>W.seqJ (Jn E fun c l=>Own c g2 (F)∧l= [(0,Q a),(3,Q b8),(48,B d2)]) ?_ ?_))
  ·refine sr (vv (B (e.Kind==10)) (wln (cn j (fun t1 j=>?_) (fun t1 j=>?_))))
   ·refine W.skip (nrm ?_);obtain rfl:=si j;exact jn E ⟨y,rfl⟩
   refine W.region (vv (B (e.Kind==11)) (wln ?_));obtain rfl:=si j;exact jn E ⟨y,rfl⟩
  rintro e_ w_ ⟨e4,f4,_,rfl,l4,rfl,R,rfl⟩;refine cn g (fun u1 g=>?_) (fun u1 g=>?_)
  ·refine W.exit (thx (bko rfl (bko rfl (bke (nrm (sr (va (Q a) (vx (lN 38 (mm k)) (bn g fun g0 w1 g=>cl (qt R z.m s e u.m P.m w1) ?_)))))))));rintro q4 j1 m4 ⟨v0,z0,d1,rfl⟩;refine wln (W.exit (bko rfl (thx (bke (nrm ?_)))));obtain rfl:=si g;exact jn j1 ⟨v0,z0,rfl,d1⟩
  refine W.skip (nrm (W.exit (bko rfl (bko rfl (bko rfl (thx (bke (nrm (sr (va (Q a) (vx (lN 38 (mm k)) (bn g fun s4 x1 g=>cl (xr R z.m (hG.m.le (by decide)) s e u.m P.m x1) ?_))))))))))));rintro r4 k1 n4 ⟨w0,a1,e1,rfl⟩;refine wln (W.exit (bke (nrm ?_)));obtain rfl:=si g;exact jn k1 ⟨w0,a1,rfl,e1⟩
 rintro e_ w_ ⟨m1,g4,_,rfl,o4,rfl,x0,b1,rfl,f1⟩;refine sr (va (.nilIface) (wln (W.ret ?_)));obtain rfl:=si j2;exact r1 (qq m1 ⟨.nilIface,x0,b1,f1,rfl,rfl⟩)
def dp (p0:ag) (p1:Int) (p2:Int) (p3:Int) (p4:Int):Option (ag):=
 (idx p0.L p1).bind fun d=>
 (idx p0.L p1).bind fun b=>
 (kF d.Cells b.Wrap p2 p3 p4).bind fun a=>
 (bV p0 p1 (⟨a.1,a.2⟩:am)).bind fun c=>
 some c
def jL (p0:ag) (p1:Int) (p2:Int):Option (ag):=
 (idx ([2,1,3]:List Int) p2).bind fun k=>
 (dp p0 p0.At.Row k p0.At.Col 0).bind fun b=>
 (cJ (σ:=Int×(List am)×Int×Int×Bool×Bool) (τ:=((List am)×Int×Int×Bool×Bool)) (((b.L.length:Int) - 0).toNat+1) (fun a=>
 (bT (decide (a.1 < (a.2.1.length:Int))) (some (p1==4))).bind fun f=>
 if f=true then
 ((orE (p2==2) ((bT (p2==0) (some (decide (a.1 > a.2.2.1)))).bind fun h=>
 some h)).bind fun g=>
 (orE g ((bT (p2==1) (some (decide (a.1 < a.2.2.1)))).bind fun j=>
 some j)).bind fun i=>
 if i=true then
 (dp (⟨a.2.1,(⟨a.2.2.1,a.2.2.2.1,a.2.2.2.2.1⟩:ah),a.2.2.2.2.2⟩:ag) a.1 3 0 0).bind fun d=>
 some (d.L,d.At.Row,d.At.Col,d.At.Pending,d.Auto)
 else
 some (a.2.1,a.2.2.1,a.2.2.2.1,a.2.2.2.2.1,a.2.2.2.2.2)).bind fun e=>
 some (.inl ((w64 (a.1+1)),e.1,e.2.1,e.2.2.1,e.2.2.2.1,e.2.2.2.2))
 else
 some (.inr (a.2.1,a.2.2.1,a.2.2.2.1,a.2.2.2.2.1,a.2.2.2.2.2))) (0,b.L,b.At.Row,b.At.Col,b.At.Pending,b.Auto)).bind fun c=>
 some (⟨c.1,(⟨c.2.1,c.2.2.1,c.2.2.2.1⟩:ah),c.2.2.2.2⟩:ag)
def kZ (p0:ag) (p1:bu):Option (ag):=
 (bW p0).bind fun a=>
 (idx a.L a.At.Row).bind fun c=>
 (if (p1.Kind==2)=true then
 (cU (⟨a.L,(⟨a.At.Row,a.At.Col,false⟩:ah),a.Auto⟩:ag)).bind fun o=>
 (iH (⟨p1.A,p1.B,false⟩:ah) o (a.L.length:Int)).bind fun h=>
 some (c.Cells,false,a.L,h.Row,h.Col,h.Pending,a.Auto)
 else
 (if (p1.Kind==3)=true then
 some (p1.Kind==3)
 else
 some (p1.Kind==4)).bind fun p=>
 if p=true then
 (jL (⟨a.L,(⟨a.At.Row,a.At.Col,false⟩:ah),a.Auto⟩:ag) p1.Kind p1.A).bind fun f=>
 some (c.Cells,false,f.L,f.At.Row,f.At.Col,f.At.Pending,f.Auto)
 else
 if (p1.Kind==5)=true then
 (dp (⟨a.L,(⟨a.At.Row,a.At.Col,false⟩:ah),a.Auto⟩:ag) a.At.Row 4 a.At.Col p1.A).bind fun g=>
 some (c.Cells,false,g.L,g.At.Row,g.At.Col,g.At.Pending,g.Auto)
 else
 if (p1.Kind==6)=true then
 (jq c.Cells a.At.Col p1.A).bind fun j=>
 some (j.1,j.2,a.L,a.At.Row,a.At.Col,false,a.Auto)
 else
 if (p1.Kind==7)=true then
 (jr c.Cells a.At.Col p1.A).bind fun i=>
 some (i.1,i.2,a.L,a.At.Row,a.At.Col,false,a.Auto)
 else
 (if (p1.Kind==8)=true then
 some (p1.Kind==8)
 else
 some (p1.Kind==9)).bind fun m=>
 if m=true then
 (fP a.L a.At.Row (a.L.length:Int) p1.A (p1.Kind==9)).bind fun k=>
 some (c.Cells,false,k,a.At.Row,0,false,a.Auto)
 else
 (if (p1.Kind==10)=true then
 some (p1.Kind==10)
 else
 some (p1.Kind==11)).bind fun n=>
 if n=true then
 (fP a.L 0 (a.L.length:Int) p1.A (p1.Kind==10)).bind fun l=>
 some (c.Cells,false,l,a.At.Row,a.At.Col,false,a.Auto)
 else
 if (p1.Kind==12)=true then
 some (c.Cells,false,a.L,a.At.Row,a.At.Col,false,p1.A != 0)
 else
 some (c.Cells,false,a.L,a.At.Row,a.At.Col,false,a.Auto)).bind fun b=>
 (if b.2.1=true then
 (bV (⟨b.2.2.1,(⟨b.2.2.2.1,b.2.2.2.2.1,b.2.2.2.2.2.1⟩:ah),b.2.2.2.2.2.2⟩:ag) a.At.Row (⟨b.1,false⟩:am)).bind fun d=>
 some (d.L,d.At.Row,d.At.Col,d.At.Pending,d.Auto)
 else
 some (b.2.2.1,b.2.2.2.1,b.2.2.2.2.1,b.2.2.2.2.2.1,b.2.2.2.2.2.2)).bind fun e=>
 some (⟨e.1,(⟨e.2.1,e.2.2.1,e.2.2.2.1⟩:ah),e.2.2.2.2⟩:ag)
end Go.Proofs.YtclmdpamofdoiaaGreatDoor
