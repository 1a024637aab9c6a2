/- Parts of the proofs of ReadbackTrips: the walk through the code, and plain Lean. No condition. -/
import Derived.Test.YtclmdpamofdoiaaGreatDoorRtA
import Derived.Test.YtclmdpamofdoiaaGreatDoorProg
set_option linter.unusedVariables false
set_option linter.unusedSimpArgs false
namespace Go.Proofs.YtclmdpamofdoiaaGreatDoor
open Go Go.Lt
set_option maxRecDepth 10000
set_option linter.unusedVariables false
attribute [local irreducible] W WL AC
open Tryz
variable {c0:Cx} {G:Gm} {F:List En} {sg:Sto} {v1 v2 v3 v4 v5 v6 v7 v8 v9 v10 v11 v12 v13 v14 v15 v16 v17 v18 v19 v20 v21 v22 v23 v24 v25 v26 v27 v28 v29 v30 v31 v32 v33 v34 v35 v36 v37 v38 v39 v40 v41 v42 v43 v44 v45 v46 v47 v48 v49 v50 v51 v52 v53 v54 v55 v56 v57 v58 v59 v60:Value}
def dE (p0:Int):Option (Bool):=
 (bT (decide (p0≥0)) (some (decide (p0 < 55296)))).bind fun b=>
 (orE b ((bT (decide (p0 > 57343)) (some (decide (p0≤1114111)))).bind fun a=>
 some a)).bind fun c=>
 some c
theorem ki (e:Own c0 G F) (a:Int) {r:Bool} (H:dE a=some r): Calls prog 110 #[J a] c0.w (aT c0 fun c v=>Own c G (F)∧v=B r):=by
 unfold dE at H;refine en func110 rfl rfl (sr (va (B false) (wln (W.seq (bn H fun z t H=>bn H fun s n H=>W.join (Jn c0 fun c l=>Own c G (F)∧l= [(2,B s)]) ?_ ?_)))))
 ·clear H;refine W.region (va (J a) (va (B (decide (a≥0))) ?_));rcases bo (decide (a≥0)) with f | f
  ·have x:=anT f t;refine vb f (wa (J a) (wa (B (decide (a < 55296))) ?_));obtain rfl:=si x;refine va (B (decide (a < 55296))) ?_;rcases bo (decide (a < 55296)) with g | g
   ·obtain rfl:=orT g n;exact vb g (pz (pz (pz (vv (B true) (wln (jn c0 ⟨e,rfl⟩))))))
   have i:=orF g n;refine vb g (wa (J a) (wa (B (decide (a > 57343))) (wn (bn i fun m u i=>?_))));rcases bo (decide (a > 57343)) with h | h
   ·have y:=anT h u;refine vb h (wa (J a) (wa (B (decide (a≤1114111))) (wn ?_)));obtain rfl:=si y;refine va (B (decide (a≤1114111))) ?_;obtain rfl:=si i;exact vv (B (decide (a≤1114111))) (wln (jn c0 ⟨e,rfl⟩))
   obtain rfl:=anF h u;refine vb h (pz (wa (B false) ?_));obtain rfl:=si i;exact vv (B false) (wln (jn c0 ⟨e,rfl⟩))
  obtain rfl:=anF f t;refine vb f (pz (va (B false) ?_));have j:false=false:=rfl;have d:=orF j n;refine vb j (wa (J a) (wa (B (decide (a > 57343))) (wn (bn d fun m k d=>?_))));rcases bo (decide (a > 57343)) with b | b
  ·have o:=anT b k;refine vb b (wa (J a) (wa (B (decide (a≤1114111))) (wn ?_)));obtain rfl:=si o;refine va (B (decide (a≤1114111))) ?_;obtain rfl:=si d;exact vv (B (decide (a≤1114111))) (wln (jn c0 ⟨e,rfl⟩))
  obtain rfl:=anF b k;refine vb b (pz (wa (B false) ?_));obtain rfl:=si d;exact vv (B false) (wln (jn c0 ⟨e,rfl⟩))
 rintro E M ⟨q,A,_,rfl,D,rfl,p,rfl⟩;refine nrm (W.ret ?_);obtain rfl:=si H;exact r1 (qq q ⟨p,rfl⟩)
def cG (p0:Int):Option (Bool):=
 (bT (decide (p0≥0)) (some (decide (p0≤1114111)))).bind fun b=>
 (bT b ((orE (decide (p0 < 55296)) (some (decide (p0 > 57343)))).bind fun a=>
 some a)).bind fun c=>
 some c
theorem mn (g:Own c0 G F) (a:Int) {r:Bool} (H:cG a=some r): Calls prog 26 #[J a] c0.w (aT c0 fun c v=>Own c G (F)∧v=B r):=by
 unfold cG at H;refine en func26 rfl rfl (sr (va (B false) (wln (W.seq (bn H fun t n H=>bn H fun m i H=>W.join (Jn c0 fun c l=>Own c G (F)∧l= [(2,B m)]) ?_ ?_)))))
 ·clear H;refine W.region (va (J a) (va (B (decide (a≥0))) ?_));rcases bo (decide (a≥0)) with b | b
  ·have p:=anT b n;refine vb b (wa (J a) (wa (B (decide (a≤1114111))) ?_));obtain rfl:=si p;refine va (B (decide (a≤1114111))) ?_;rcases bo (decide (a≤1114111)) with d | d
   ·have f:=anT d i;refine vb d (wa (J a) (wa (B (decide (a < 55296))) (wn (bn f fun s o f=>?_))));rcases bo (decide (a < 55296)) with e | e
    ·obtain rfl:=orT e o;refine vb e (pz (wa (B true) ?_));obtain rfl:=si f;exact vv (B true) (wln (jn c0 ⟨g,rfl⟩))
    have q:=orF e o;refine vb e (wa (J a) (wa (B (decide (a > 57343))) (wn ?_)));obtain rfl:=si q;refine va (B (decide (a > 57343))) ?_;obtain rfl:=si f;exact vv (B (decide (a > 57343))) (wln (jn c0 ⟨g,rfl⟩))
   obtain rfl:=anF d i;exact vb d (pz (pz (pz (vv (B false) (wln (jn c0 ⟨g,rfl⟩))))))
  obtain rfl:=anF b n;refine vb b (pz (va (B false) ?_));have h:false=false:=rfl;obtain rfl:=anF h i;exact vb h (pz (pz (pz (vv (B false) (wln (jn c0 ⟨g,rfl⟩))))))
 rintro y z ⟨k,u,_,rfl,x,rfl,j,rfl⟩;refine nrm (W.ret ?_);obtain rfl:=si H;exact r1 (qq k ⟨j,rfl⟩)
def ka (p0:List Int) (p1:List Int):Option (Bool):=
 if ((p0.length:Int) != (p1.length:Int))=true then
 some false
 else
 (cJ (σ:=Int) (τ:=Bool ⊕ Unit) (((p0.length:Int) - 0).toNat+1) (fun b=>
 if (decide (b < (p0.length:Int)))=true then
 (idx p0 b).bind fun c=>
 (idx p1 b).bind fun d=>
 if (c != d)=true then
 some (.inr (.inl false))
 else
 some (.inl ((w64 (b+1))))
 else
 some (.inr (.inr ()))) (0)).bind fun a=>
 match a with
 | .inl a=>
 some a
 | .inr a=>
 some true
theorem qp (A:Own c0 G F) (h:List Int) (u:List Int) {r:Bool} (g:Sl (RI .i32) c0 v1 h) (s:Sl (RI .i32) c0 v3 u) (H:ka h u=some r): Calls prog 19 #[v1,v3] c0.w (aT c0 fun c v=>Own c G (F)∧v=B r):=by
 unfold ka at H;refine en func19 rfl rfl (sr (va (B false) (wln (W.seq (sr (va (v1) (vx (ln 3 cS g) (va (v3) (vx (ln 3 cS s) (va (B ((h.length:Int) != (u.length:Int))) (wln (cn H (fun h5 H=>?_) (fun h5 H=>?_)))))))))))))
 ·refine sr (va (B false) (wln (W.ret (thr ?_))));obtain rfl:=si H;exact r1 (qq c0 ⟨A,rfl⟩)
 refine W.skip (nrm (W.seq (sr (va (I 0) (wln (W.block (bn H fun b h6 p=>lp h6 (fun a=>Jn c0 fun c l=>Own c G (F)∧l= [(0,v1),(1,v3),(5,I a)]) (fun t=>match t with | .inl x=>(fun f0 ex e w=>ex= .ret∧(Jn c0 fun c l=>Own c G (F)∧l= [(4,B f0)]) e w) x | .inr x=>(fun i0 ex e w=>ex= .exit 0∧(Jn c0 fun c l=>Own c G (F)∧l= []) e w) x) ?_ ?_ ?_)))))))
 ·clear p h6;intro a v0 R h0 H;revert R h0;rintro P w_ ⟨c8,g9,_,rfl,l8,rfl,i,rfl⟩;refine W.seq (sr (va (I a) (va (v1) (vx (ln 3 cS g.m) (va (B (decide (a < (h.length:Int)))) (wln (cn H (fun T H=>?_) (fun T H=>?_))))))))
  ·refine W.skip (nrm (W.seq (W.block (W.seq (rD [] (Kp G0 []) i ?_)))));intro d o j;have u0:Kp G0 [] d:=Kp.nil0;refine ta 0 (v1) (ta 1 (I a) (bn H fun y k H=>?_));obtain ⟨l0,U,d0⟩:=Sl.at (g.mono (l8.trans o)) (bz k);obtain rfl:=U;refine tx 2 (fun q f=>ix cS g.m k) (tx 3 (fun q f=>l1 mf ((mm d0) 0 _ rfl)) (ta 4 (v3) (ta 5 (I a) (bn H fun z n H=>?_))));obtain ⟨m0,X,e0⟩:=Sl.at (s.mono (l8.trans o)) (bz n);obtain rfl:=X;refine tx 6 (fun q f=>ix cS s.m n) (tx 7 (fun q f=>l1 mf ((mm e0) 0 _ rfl)) (ta 8 (B (y != z)) (dn (nrm (cn H (fun Z H=>?_) (fun Z H=>?_))))))
   ·refine sr (va (B false) (wln (W.ret (bkr (thr ?_)))));obtain rfl:=si H;exact ⟨_,rfl,⟨rfl,jn d ⟨j,rfl⟩⟩⟩
   refine W.skip (bkn (nrm (W.region (va (I a) (vv (I (w64 (a+1))) (WL.nil ?_))))));obtain rfl:=si H;exact ⟨_,rfl,jn d ⟨j,rfl⟩⟩
  refine W.exit (thx ?_);obtain rfl:=si H;exact ⟨_,rfl,rfl,jn c8 ⟨i,rfl⟩⟩
 ·exact jn c0 ⟨A,rfl⟩
 rcases b with b | b
 ·intro S; revert S;rintro _ P w_ ⟨rfl,M,o0,_,rfl,s0,rfl,D,rfl⟩;refine bkr (thr ?_);obtain rfl:=si p;exact r1 (qq M ⟨D,rfl⟩)
 rintro _ P w_ ⟨rfl,N,q0,_,rfl,t0,rfl,E,rfl⟩;refine bke (nrm (sr (va (B true) (wln (W.ret ?_)))));obtain rfl:=si p;exact r1 (qq N ⟨E,rfl⟩)
def gW (p0:aa):Option (Bool):=
 (orE (p0.Kind==0) (some (p0.Kind==3))).bind fun h=>
 if h=true then
 some ((p0.Text.length:Int)==0)
 else
 (bT (p0.Kind != 1) (some (p0.Kind != 2))).bind fun c=>
 (orE c (some (decide ((p0.Text.length:Int) < 1)))).bind fun d=>
 (orE d (some (decide ((p0.Text.length:Int) > 16)))).bind fun e=>
 if e=true then
 some false
 else
 (cJ (σ:=Int) (τ:=Bool ⊕ Unit) (((p0.Text.length:Int) - 0).toNat+1) (fun b=>
 if (decide (b < (p0.Text.length:Int)))=true then
 (idx p0.Text b).bind fun f=>
 (cG f).bind fun g=>
 if (!g)=true then
 some (.inr (.inl false))
 else
 some (.inl ((w64 (b+1))))
 else
 some (.inr (.inr ()))) (0)).bind fun a=>
 match a with
 | .inl a=>
 some a
 | .inr a=>
 some true
def eD (p0:List aa) (p1:Int):Option (Int):=
 (orE (decide (p1 < 0)) (some (decide (p1≥(p0.length:Int))))).bind fun b=>
 if b=true then
 some 0
 else
 (idx p0 p1).bind fun a=>
 some a.Kind
def ml (p0:List aa):Option (Bool):=
 (cJ (σ:=Int) (τ:=Bool ⊕ Unit) (((p0.length:Int) - 0).toNat+1) (fun a=>
 if (decide (a < (p0.length:Int)))=true then
 (idx p0 a).bind fun g=>
 (gW g).bind fun h=>
 (orE (!h) ((idx p0 a).bind fun i=>
 (bT (i.Kind==2) ((eD p0 (w64 (a+1))).bind fun j=>
 some (j != 3))).bind fun d=>
 some d)).bind fun c=>
 (orE c ((idx p0 a).bind fun k=>
 (bT (k.Kind==3) ((eD p0 (w64 (a - 1))).bind fun l=>
 some (l != 2))).bind fun f=>
 some f)).bind fun e=>
 if e=true then
 some (.inr (.inl false))
 else
 some (.inl ((w64 (a+1))))
 else
 some (.inr (.inr ()))) (0)).bind fun b=>
 match b with
 | .inl b=>
 some b
 | .inr b=>
 some true
def la (p0:Int) (p1:List Int):Option (List aa):=
 (cJ (σ:=(List Int)×Int) (τ:=(List Int)) (((p1.length:Int) - 0).toNat+1) (fun a=>
 (bT (decide (a.2 < (p1.length:Int))) (some (decide (a.2 < 16)))).bind fun c=>
 if c=true then
 ((idx p1 a.2).bind fun e=>
 (cG e).bind fun f=>
 if f=true then
 (idx p1 a.2).bind fun g=>
 (app a.1 ([g]:List Int)).bind fun h=>
 some (h)
 else
 (app a.1 ([65533]:List Int)).bind fun i=>
 some (i)).bind fun j=>
 some (.inl (j,(w64 (a.2+1))))
 else
 some (.inr (a.1))) (([]:List Int),0)).bind fun b=>
 (bT ((b.length:Int)==0) (some (decide (p0 > 1)))).bind fun d=>
 if d=true then
 some ([(⟨0,([]:List Int)⟩:aa),(⟨0,([]:List Int)⟩:aa)]:List aa)
 else
 if ((b.length:Int)==0)=true then
 some ([(⟨0,([]:List Int)⟩:aa)]:List aa)
 else
 if (decide (p0 > 1))=true then
 some ([(⟨2,b⟩:aa),(⟨3,([]:List Int)⟩:aa)]:List aa)
 else
 some ([(⟨1,b⟩:aa)]:List aa)
def jf (p0:Int):Option (Bool):=
 (dE p0).bind fun a=>
 some (!a)
theorem vC (d:Own c0 G F) (a:Int) {r:Bool} (H:jf a=some r): Calls prog 316 #[J a] c0.w (aT c0 fun c v=>Own c G (F)∧v=B r):=by
 unfold jf at H;refine en func316 rfl rfl (sr (va (B false) (wln (sr (va (J a) (bn H fun b g H=>cl (ki d a g) ?_))))));rintro v7 f h ⟨e,rfl⟩;refine vv (B (!b)) (wln (W.ret ?_));obtain rfl:=si H;exact r1 (qq f ⟨e,rfl⟩)
def cv (p0:List Int):Option (Int):=
 (cJ (σ:=Int) (τ:=Int ⊕ Unit) (((p0.length:Int) - 0).toNat+1) (fun b=>
 if (decide (b < (p0.length:Int)))=true then
 (idx p0 b).bind fun c=>
 (jf c).bind fun d=>
 if d=true then
 some (.inr (.inl b))
 else
 some (.inl ((w64 (b+1))))
 else
 some (.inr (.inr ()))) (0)).bind fun a=>
 match a with
 | .inl a=>
 some a
 | .inr a=>
 some (-1)
theorem jt (U:Own c0 G F) (d:List Int) {r:Int} (j:Sl (RI .i32) c0 v1 d) (H:cv d=some r): Calls prog 214 #[v1,.func (.func 316) #[] #[]] c0.w (aT c0 fun c v=>Own c G (F)∧v=I r):=by
 unfold cv at H;refine en func214 rfl rfl (sr (va (I 0) (wln (W.seq (sr (va (v1) (vx (ln 3 cS j) (va (I 0) (wln (W.block (bn H fun b N i=>lp N (fun a=>Jn c0 fun c l=>Own c G (F)∧l= [(0,v1),(1,.func (.func 316) #[] #[]),(7,I (d.length:Int)),(8,I a)]) (fun t=>match t with | .inl k=>(fun R ex e w=>ex= .ret∧(Jn c0 fun c l=>Own c G (F)∧l= [(4,I R)]) e w) k | .inr k=>(fun b0 ex e w=>ex= .exit 0∧(Jn c0 fun c l=>Own c G (F)∧l= []) e w) k) ?_ ?_ ?_)))))))))))
 ·clear i N;intro a j0 y T H;revert y T;rintro x S ⟨X,g6,_,rfl,Z,rfl,q,rfl⟩;refine sr (va (B (decide (a < (d.length:Int)))) (wln (W.seq (cn H (fun A H=>?_) (fun A H=>?_)))))
  ·refine W.skip (nrm (W.seq (W.block (sr (vv (I a) (wln (sr (va (.func (.func 316) #[] #[]) (va (v1) (va (I a) (bn H fun n h H=>?_)))))))))));obtain ⟨a0,D,P⟩:=Sl.at (j.mono Z) (bz h);obtain rfl:=D;refine vx (ix cS j.m h) (vx (l1 mf (P 0 _ rfl)) (bn H fun d0 E H=>cl (vC q n E) ?_));rintro v22 g g0 ⟨f,rfl⟩;refine wln (cn H (fun M H=>?_) (fun M H=>?_))
   ·refine sr (vv (I a) (wln (W.ret (bkr (thr ?_)))));obtain rfl:=si H;exact ⟨_,rfl,⟨rfl,jn g ⟨f,rfl⟩⟩⟩
   refine W.skip (bkn (nrm (W.region (vv (I (w64 (a+1))) (WL.nil ?_)))));obtain rfl:=si H;exact ⟨_,rfl,jn g ⟨f,rfl⟩⟩
  refine W.exit (thx ?_);obtain rfl:=si H;exact ⟨_,rfl,rfl,jn X ⟨q,rfl⟩⟩
 ·exact jn c0 ⟨U,rfl⟩
 rcases b with b | b
 ·intro z; revert z;rintro _ x S ⟨rfl,s,e0,_,rfl,h0,rfl,o,rfl⟩;refine bkr (thr ?_);obtain rfl:=si i;exact r1 (qq s ⟨o,rfl⟩)
 rintro _ x S ⟨rfl,u,f0,_,rfl,i0,rfl,p,rfl⟩;refine bke (nrm (sr (va (I (-1)) (wln (W.ret ?_)))));obtain rfl:=si i;exact r1 (qq u ⟨p,rfl⟩)
def bP (p0:List Int):Option (Bool):=
 (cv p0).bind fun a=>
 some (decide (a≥0))
theorem iR (d:Own c0 G F) (b:List Int) {r:Bool} (g:Sl (RI .i32) c0 v1 b) (H:bP b=some r): Calls prog 152 #[v1,.func (.func 316) #[] #[]] c0.w (aT c0 fun c v=>Own c G (F)∧v=B r):=by
 unfold bP at H;refine en func152 rfl rfl (sr (va (B false) (wln (sr (va (v1) (va (.func (.func 316) #[] #[]) (bn H fun a h H=>cl (jt d b g h) ?_)))))));rintro v9 f i ⟨e,rfl⟩;refine vv (B (decide (a≥0))) (wln (W.ret ?_));obtain rfl:=si H;exact r1 (qq f ⟨e,rfl⟩)
def kx (p0:aa):Option (Bool):=
 (if (p0.Kind==0)=true then
 some (p0.Kind==0)
 else
 some (p0.Kind==3)).bind fun e=>
 if e=true then
 some ((p0.Text.length:Int)==0)
 else
 (if (p0.Kind==1)=true then
 some (p0.Kind==1)
 else
 some (p0.Kind==2)).bind fun d=>
 if d=true then
 (bT (decide ((p0.Text.length:Int) > 0)) (some (decide ((p0.Text.length:Int)≤16)))).bind fun a=>
 (bT a ((bP p0.Text).bind fun c=>
 some (!c))).bind fun b=>
 some b
 else
 some false
theorem xw (O0:Own c0 G F) (a:aa) {r:Bool} (s:Sl (RI .i32) c0 v1 a.Text) (H:kx a=some r): Calls prog 303 #[.agg #[I a.Kind,v1]] c0.w (aT c0 fun c v=>Own c G (F)∧v=B r):=by
 unfold kx at H;refine en func303 rfl rfl (sr ?_);obtain ⟨a3,a4,a5,rfl⟩:=(s).form;refine me (bx 114 [I a.Kind,.slice a3 a4 a5] O0) ?_;rintro v10 z l9 ⟨i,rfl,P,u⟩;refine va (B false) (wln (W.seq (sr (va (Q i) (vx (l1 u_3 (u 0 _ rfl)) (wln (W.block (bn H fun e0 d e=>W.seqJ (Jn z fun c l=>Own c G (F)∧l= [(1,Q i),(4,I a.Kind),(5,B e0)]) ?_ ?_))))))))
 ·refine sr (vv (B (a.Kind==0)) (wln (cn d (fun U d=>?_) (fun U d=>?_))))
  ·refine W.skip (nrm ?_);obtain rfl:=si d;exact jn z ⟨P,rfl⟩
  refine W.region (vv (B (a.Kind==3)) (wln ?_));obtain rfl:=si d;exact jn z ⟨P,rfl⟩
 rintro T w_ ⟨n,k0,_,rfl,o0,rfl,q,rfl⟩;refine cn e (fun X e=>?_) (fun X e=>?_)
 ·refine sr (va (Qo i (0+1)) (vx (l1 cS ((mm u) 1 _ rfl)) (vx (ln 3 cS s.m) (vv (B ((a.Text.length:Int)==0)) (wln (W.ret (bkr (thr ?_))))))));obtain rfl:=si e;exact r1 (qq n ⟨q,rfl⟩)
 refine bn e fun D f b=>W.seqJ (Jn n fun c l=>Own c G (F)∧l= [(1,Q i),(12,B D)]) ?_ ?_
 ·refine sr (vv (B (a.Kind==1)) (wln (cn f (fun Z f=>?_) (fun Z f=>?_))))
  ·refine W.skip (nrm ?_);obtain rfl:=si f;exact jn n ⟨q,rfl⟩
  refine W.region (vv (B (a.Kind==2)) (wln ?_));obtain rfl:=si f;exact jn n ⟨q,rfl⟩
 rintro T w_ ⟨o,l0,_,rfl,q0,rfl,k,rfl⟩;refine cn b (fun a0 b=>?_) (fun a0 b=>?_)
 ·refine W.seq (bn b fun j0 x b=>bn b fun A t b=>W.join (Jn o fun c l=>Own c G (F)∧l= [(2,B A)]) ?_ ?_)
  ·clear b;refine W.region (va (Qo i (0+1)) (vx (l1 cS ((mm u) 1 _ rfl)) (vx (ln 3 cS s.m) (va (B (decide ((a.Text.length:Int) > 0))) ?_))));rcases bo (decide ((a.Text.length:Int) > 0)) with g | g
   ·have E:=anT g x;refine vb g (wa (Qo i (0+1)) (wn (vx (l1 cS ((mm u) 1 _ rfl)) (wn (vx (ln 3 cS s.m) (wa (B (decide ((a.Text.length:Int)≤16))) ?_))))));obtain rfl:=si E;refine va (B (decide ((a.Text.length:Int)≤16))) ?_;rcases bo (decide ((a.Text.length:Int)≤16)) with h | h
    ·have p:=anT h t;refine vb h (wa (Qo i (0+1)) (wn (vx (l1 cS ((mm u) 1 _ rfl)) (wn (bn p fun j b0 p=>cl (iR k a.Text s.m b0) ?_)))));rintro v43 R s0 ⟨M,rfl⟩;refine wa (B (!j)) ?_;obtain rfl:=si p;exact vv (B (!j)) (wln (jn R ⟨M,rfl⟩))
    obtain rfl:=anF h t;exact vb h (pz (pz (vv (B false) (wln (jn o ⟨k,rfl⟩)))))
   obtain rfl:=anF g x;refine vb g (pz (pz (va (B false) ?_)));have y:false=false:=rfl;obtain rfl:=anF y t;exact vb y (pz (pz (vv (B false) (wln (jn o ⟨k,rfl⟩)))))
  rintro T w_ ⟨S,m0,_,rfl,t0,rfl,N,rfl⟩;refine nrm (W.ret (bkr (thr ?_)));obtain rfl:=si b;exact r1 (qq S ⟨N,rfl⟩)
 refine W.skip (bkn (nrm (sr (va (B false) (wln (W.ret ?_))))));obtain rfl:=si b;exact r1 (qq o ⟨k,rfl⟩)
def kw (p0:List aa):Option (Bool):=
 (cJ (σ:=Bool×Int) (τ:=Bool ⊕ Bool) (((p0.length:Int) - 0).toNat+1) (fun b=>
 if (decide (b.2 < (p0.length:Int)))=true then
 (idx p0 b.2).bind fun c=>
 (kx c).bind fun e=>
 (orE (!e) (some (!(b.1==(c.Kind==3))))).bind fun d=>
 if d=true then
 some (.inr (.inl false))
 else
 some (.inl (c.Kind==2,(w64 (b.2+1))))
 else
 some (.inr (.inr (b.1)))) (false,0)).bind fun a=>
 match a with
 | .inl a=>
 some a
 | .inr a=>
 some (!a)
theorem sG (O0:Own c0 G F) (p:List aa) {r:Bool} (M:Sl az c0 v1 p) (H:kw p=some r): Calls prog 281 #[v1] c0.w (aT c0 fun c v=>Own c G (F)∧v=B r):=by
 unfold kw at H;refine en func281 rfl rfl (sr (va (B false) (wln (sr (va (B false) (wln (W.seq (sr (va (v1) (vx (ln 3 eH M) (va (I 0) (wln (W.block (bn H fun d h3 A=>lp h3 (fun b=>Jn c0 fun c l=>Own c G (F)∧l= [(3,B b.1),(6,v1),(7,I (p.length:Int)),(8,I b.2)]) (fun t=>match t with | .inl R=>(fun s0 ex e w=>ex= .ret∧(Jn c0 fun c l=>Own c G (F)∧l= [(2,B s0)]) e w) R | .inr R=>(fun N ex e w=>ex= .exit 0∧(Jn c0 fun c l=>Own c G (F)∧l= [(3,B N)]) e w) R) ?_ ?_ ?_))))))))))))))
 ·clear A h3;intro b h1 g0 t0 H;revert g0 t0;rintro E P ⟨c5,g6,_,rfl,l5,rfl,O7,rfl⟩;refine sr (va (B (decide (b.2 < (p.length:Int)))) (wln (W.seq (cn H (fun i0 H=>?_) (fun i0 H=>?_)))))
  ·refine W.skip (nrm (W.seq (W.block (sr (bn H fun a y H=>?_)))));obtain ⟨x0,j0,q0⟩:=Sl.at (M.mono l5) (bz y);obtain ⟨v16,rfl,o⟩:=j0;refine vx (ix eH M.m y) (vx (lN 114 q0) (me (al 114 [I 0,Y] O7) ?_));rintro v21 y0 o0 ⟨g,rfl,T⟩;obtain ⟨j,k,n,rfl⟩:=((o.mono o0)).form;refine md (sA 114 [I a.Kind,.slice j k n] 0 T ⟨rfl,o.m.one,trivial⟩) ?_;rintro d0 c1 s;refine wln (W.seq (W.seq (bn H fun q k0 H=>bn H fun D z H=>W.join (Jn d0 fun c l=>Own c G ((Eb g 114 [I a.Kind,.slice j k n]) :: F)∧l= [(5,Q g),(6,v1),(7,I (p.length:Int)),(8,I b.2),(21,B D)]) ?_ ?_)))
   ·clear H;refine W.region (vx (leN 114 0 [I a.Kind,.slice j k n] (s.on 0 rfl)) (cl (xw s a o.m k0) ?_));rintro v34 u d1 ⟨h,rfl⟩;refine va (B (!q)) ?_;rcases bo (!q) with f | f
    ·obtain rfl:=orT f z;exact vb f (pz (pz (ps (va (B true) (wln (jn u ⟨h,rfl⟩))))))
    have S:=orF f z;refine vb f (wa (B b.1) (wa (Q g) (wn (vx (le1 0 u_3 (h.on 0 rfl)) (wa (B (a.Kind==3)) (wa (B (!(b.1==(a.Kind==3)))) ?_))))));obtain rfl:=si S;exact va (B (!(b.1==(a.Kind==3)))) (wln (jn u ⟨h,rfl⟩))
   rintro E P ⟨x,z0,_,rfl,e1,rfl,i,rfl⟩;refine nrm (cn H (fun m0 H=>?_) (fun m0 H=>?_))
   ·refine sr (va (B false) (wln (W.ret (thr (bkr (thr ?_))))));obtain rfl:=si H;refine ⟨_,rfl,⟨rfl,?_⟩⟩;have U:=i.sD 1 [];exact jn x ⟨U,rfl⟩
   refine W.skip (nrm (W.region (va (Q g) (vx (le1 0 u_3 (i.on 0 rfl)) (vv (B (a.Kind==2)) (WL.nil (bkn (nrm (W.region (vv (I (w64 (b.2+1))) (WL.nil ?_)))))))))));obtain rfl:=si H;refine ⟨_,rfl,?_⟩;have X:=i.sD 1 [];exact jn x ⟨X,rfl⟩
  refine W.exit (thx ?_);obtain rfl:=si H;exact ⟨_,rfl,rfl,jn c5 ⟨O7,rfl⟩⟩
 ·exact jn c0 ⟨O0,rfl⟩
 rcases d with d | d
 ·intro h0; revert h0;rintro _ E P ⟨rfl,e0,a1,_,rfl,f1,rfl,Z,rfl⟩;refine bkr (thr ?_);obtain rfl:=si A;exact r1 (qq e0 ⟨Z,rfl⟩)
 rintro _ E P ⟨rfl,f0,b1,_,rfl,g1,rfl,a0,rfl⟩;refine bke (nrm (sr (va (B d) (vv (B (!d)) (wln (W.ret ?_))))));obtain rfl:=si A;exact r1 (qq f0 ⟨a0,rfl⟩)
def em (p0:Int):Option (List aa):=
 (rep (aV 0 (aL p0 1024)) (⟨0,([]:List Int)⟩:aa)).bind fun a=>
 some a
theorem jJ (f:Own c0 G F) (a:Int) {r:List aa} (H:em a=some r): Calls prog 187 #[I a] c0.w (aT c0 fun c v=>∃b e,Own c G (es true az b 114 e r :: F)∧v=b∧OA az c b e r):=by
 unfold em at H;refine en func187 rfl rfl (sr (va (Y) (wln (sr (va (I a) (va (I (aL a 1024)) (va (I (aV 0 (aL a 1024))) (bn H fun m d H=>me (Own.mkS (kl:= .i64) (kc:= .i64) (R:=az) (z:= .agg #[I 0,Y]) (lz:=[I 0,Y]) (x:=(⟨0,([]:List Int)⟩:aa)) (by_:=32) (i:=(aV 0 (aL a 1024))) (j:=(aV 0 (aL a 1024))) true f (aX _) d (AZ _) (zu d) eH (by kernel_rfl) rfl rfl (fun _=>⟨(Y),rfl,(Sl.nl _ _)⟩) (by kernel_rfl) (by kernel_rfl)) ?_))))))));rintro v6 h n ⟨l,g,k⟩;refine va (v6) (wln (W.ret ?_));obtain rfl:=si H;exact r1 (qq h ⟨v6,l,g,rfl,k⟩)
def ku (sg:Sto) (p0:Int):Option (Sto×(Option Nat)):=
 (em (aV 1 p0)).bind fun b=>
 (some (sg.add_row_Row (⟨b,false⟩:bh))).bind fun a=>
 some (a,(some sg.row_Row.length))
theorem tc (N:Own c0 G F) (R:Rel c0 sg G) (g:Int) {r:Sto×(Option Nat)} (H:ku sg g=some r): Calls prog 171 #[I g] c0.w (aT c0 fun c v=>∃M,∃G_:Gm,Own c G_ (F)∧Rel c r.1 G_∧dZ G G_∧v=M∧Pt 0 c M r.2):=by
 unfold ku at H;refine en func171 rfl rfl (sr (va (.pointer none) (wln (sr (va (I g) (va (I (aV 1 g)) (bn H fun j S H=>cl (jJ N (aV 1 g) S) ?_)))))));rintro v2 c9 T ⟨_,D,P,rfl,z⟩;obtain ⟨d,e,f,rfl⟩:=(z).form;refine va (.agg #[.slice d e f,B false]) (me (al 253 [.slice d e f,B false] P) ?_);rintro v17 U l16 ⟨a,rfl,l⟩;have m:=l.sD 2 [0,1];refine bn H fun A q H=>?_;obtain ⟨i,k,s,a0,t,n,h,X,u,o⟩:=Rel.new_row_Row (E:=[(Eb a 253 [.slice d e f,B false]),es true az (.slice d e f) 114 D j]) (F:=F) (x:=(⟨j,false⟩:bh)) (b:=a) m (R.mono (T.trans l16)) (fun c_ hle_=>⟨a,(.slice d e f),D,rfl,rfl,((z.mono l16).mono hle_)⟩);rw [bb q] at h;refine WL.gh s.1 ?_;have Z:=dZ.nil (dZ.refl _) u;have p:=(dZ.refl _).trans o;have y:Pt 0 i (Q a) (some sg.row_Row.length):=⟨a,rfl,t⟩;refine va (Q a) (wln (W.ret ?_));obtain rfl:=si H;exact r1 (qq i ⟨(Q a),k,n,h,p,rfl,y⟩)
def ll (p0:aa):Option (aa):=
 (eN p0.Text).bind fun a=>
 some (⟨p0.Kind,a⟩:aa)
theorem qG (E:Own c0 G F) (a:aa) {r:aa} (t:Sl (RI .i32) c0 v1 a.Text) (H:ll a=some r): Calls prog 195 #[.agg #[I a.Kind,v1]] c0.w (aT c0 fun c v=>∃i D,Own c G (es true (RI .i32) i 21 D r.Text :: F)∧v= .agg #[I r.Kind,i]∧OA (RI .i32) c i D r.Text):=by
 unfold ll at H;refine en func195 rfl rfl (sr ?_);obtain ⟨N,P,R,rfl⟩:=(t).form;refine me (bx 114 [I a.Kind,.slice N P R] E) ?_;rintro v10 c9 l9 ⟨o,rfl,M,x⟩;refine me (al 114 [I 0,Y] M) ?_;rintro v14 U X ⟨T,rfl,j⟩;refine wln (W.seq (rD [] (Kp G0 []) j ?_));intro p Z k;have d0:Kp G0 [] p:=Kp.nil0;refine ta 0 (Q o) (tx 1 (fun S u=>l1 u_3 ((mm x) 0 _ rfl)) (ta 2 (Qo o (0+1)) (tx 3 (fun S u=>l1 cS ((mm x) 1 _ rfl)) (bn H fun e0 s H=>o1 4 (gc 4 (vm k a.Text t.m s) ?_)))));rintro v19 q a0 ⟨_,A,l,rfl,g⟩;have y:Kp G0 [] q:=Kp.nil0;refine ⟨.inr y,?_⟩;obtain ⟨b,d,e,rfl⟩:=(g).form;refine ta 5 (.agg #[I a.Kind,.slice b d e]) (o1 6 (gD 6 (sA 114 [I a.Kind,.slice b d e] 1 l ⟨rfl,(g).one,trivial⟩) ?_));rintro f b0 h;have z:Kp G0 [] f:=Kp.nil0;refine ⟨.inr z,dn (nrm (W.ret ?_))⟩;obtain rfl:=si H;have n:=h.sD 2 [0];exact rV (c:=f) (vs:=[I a.Kind,.slice b d e]) rfl (by kernel_rfl) (by kernel_rfl) (by kernel_rfl) (h.on 1 rfl _ rfl).1 ⟨_,f,rfl,rfl,pt,(.slice b d e),A,n,rfl,g.m⟩
def qc (sg:Sto) (p0:List aa):Option (Sto×(Option Nat)×Er):=
 (orE ((p0.length:Int)==0) (some (decide ((p0.length:Int) > 1024)))).bind fun k=>
 if k=true then
 some (sg,(none:Option Nat),(Er.sent 2))
 else
 (kw p0).bind fun h=>
 if (!h)=true then
 some (sg,(none:Option Nat),(Er.sent 4))
 else
 (ku sg (p0.length:Int)).bind fun c=>
 (cJ (σ:=Int×Sto) (τ:=Sto) (((p0.length:Int) - 0).toNat+1) (fun a=>
 if (decide (a.1 < (p0.length:Int)))=true then
 (idx p0 a.1).bind fun i=>
 (c.2).bind fun e=>
 (a.2.row_Row[e]?).bind fun b=>
 (ll i).bind fun j=>
 (idx b.cells a.1).bind fun l=>
 (nF b.cells a.1 j).bind fun g=>
 (a.2.set_row_Row e (⟨g,b.wrap⟩:bh)).bind fun d=>
 some (.inl ((w64 (a.1+1)),d))
 else
 some (.inr (a.2))) (0,c.1)).bind fun f=>
 some (f,c.2,Er.nil)
theorem DC (O0:Own c0 G F) (R0:Rel c0 sg G) (hG:Gl [2,4] c0) (d:List aa) {r:Sto×(Option Nat)×Er} (j:Sl az c0 v1 d) (H:qc sg d=some r): Calls prog 237 #[v1] c0.w (aT c0 fun c v=>∃y1 y2,∃G_:Gm,Own c G_ (F)∧Rel c r.1 G_∧v= .tuple #[y1,y2]∧Pt 0 c y1 r.2.1∧RE 350 144 c y2 r.2.2):=by
 unfold qc at H;refine en func237 rfl rfl (sr (va (.pointer none) (va (.nilIface) (wln (W.seq (W.block (W.seq (bn H fun m2 h3 H=>W.join (Jn c0 fun c l=>Own c G (F)∧l= [(0,v1),(7,B m2)]) ?_ ?_))))))))
 ·clear H;refine W.region (va (v1) (vx (ln 3 eH j) (va (B ((d.length:Int)==0)) ?_)));rcases bo ((d.length:Int)==0) with M | M
  ·obtain rfl:=orT M h3;exact vb M (pz (ps (vv (B true) (wln (jn c0 ⟨O0,rfl⟩)))))
  have H5:=orF M h3;refine vb M (wa (v1) (wn (vx (ln 3 eH j) (wa (B (decide ((d.length:Int) > 1024))) ?_))));obtain rfl:=si H5;exact vv (B (decide ((d.length:Int) > 1024))) (wln (jn c0 ⟨O0,rfl⟩))
 rintro e_ w_ ⟨c6,g7,_,rfl,l6,rfl,O8,rfl⟩;refine nrm (cn H (fun p2 H=>?_) (fun p2 H=>?_))
 ·refine W.seq (rD [] (Kp G0 []) O8 ?_);intro g0 g3 w1;have j4:Kp G0 [] g0:=Kp.nil0;obtain ⟨v16,i0⟩:=(hG.mono (l6.trans g3)).get 2 (by decide);refine tx 0 (fun c' p=>l1 xM i0.m.im) (ta 1 (.pointer none) (ta 2 (v16) (dn (nrm (W.ret (bkr (thr ?_)))))));obtain rfl:=si H;exact r2 (qq g0 ⟨(.pointer none),v16,G,w1,R0.m,rfl,rfl,i0⟩)
 refine sr (va (v1) (bn H fun Z q2 H=>cl (sG O8 d j.m q2) ?_));rintro v24 e4 t0 ⟨e0,rfl⟩;refine vv (B (!Z)) (wln (cn H (fun s2 H=>?_) (fun s2 H=>?_)))
 ·refine W.seq (rD [] (Kp G0 []) e0 ?_);intro h0 i3 x1;have k4:Kp G0 [] h0:=Kp.nil0;obtain ⟨v29,j0⟩:=(hG.mono (l6.trans (t0.trans i3))).get 4 (by decide);refine tx 0 (fun c' p=>l1 xM j0.m.im) (ta 1 (.pointer none) (ta 2 (v29) (dn (nrm (W.ret (bkr (thr ?_)))))));obtain rfl:=si H;exact r2 (qq h0 ⟨(.pointer none),v29,G,x1,R0.m,rfl,rfl,j0⟩)
 refine W.skip (bkn (nrm (sr (va (v1) (vx (ln 3 eH j.m) (bn H fun b4 u2 H=>cl (tc e0 R0.m (d.length:Int) u2) ?_))))));rintro v32 E j3 ⟨_,t1,z1,g2,d4,rfl,k0⟩;refine va (v32) (wln (W.seq (sr (va (v1) (vx (ln 3 eH j.m) (va (I 0) (wln (W.block (bn H fun a4 l0 d0=>lp l0 (fun a=>Jn E fun c l=>∃G_,Own c G_ (F)∧l= [(4,v32),(25,v1),(26,I (d.length:Int)),(27,I a.1)]∧Rel c a.2 G_) (fun b0 ex e w=>ex= .exit 1∧(Jn E fun c l=>∃G_,Own c G_ (F)∧l= [(4,v32)]∧Rel c b0 G_) e w) ?_ ?_ ?_)))))))))
 ·clear d0 l0;intro a p4 o2 p3 H;revert o2 p3;rintro e_ w_ ⟨i2,i4,_,rfl,u0,rfl,i,f0,rfl,y⟩;refine sr (va (B (decide (a.1 < (d.length:Int)))) (wln (W.seq (cn H (fun v2 H=>?_) (fun v2 H=>?_)))))
  ·refine W.skip (nrm (W.seq (W.block (sr (va (I a.1) (bn H fun b m0 H=>?_))))));obtain ⟨z3,w2,l3⟩:=Sl.at (j.mono (l6.trans (t0.trans (j3.trans u0)))) (bz m0);obtain ⟨v53,rfl,N⟩:=w2;refine vx (ix eH j.m m0) (vx (lN 114 l3) (me (al 114 [I 0,Y] f0) ?_));rintro v58 f4 q ⟨n,rfl,b2⟩;refine va (I a.1) ?_;obtain ⟨f,g,h,rfl⟩:=((N.mono q)).form;refine md (sA 114 [I b.Kind,.slice f g h] 0 b2 ⟨rfl,N.m.one,trivial⟩) ?_;rintro g4 S c2;refine wln (rD [8] (Kp i [(Eb n 114 [I b.Kind,.slice f g h])]) c2 ?_);intro j2 U s;have w0:Kp i [(Eb n 114 [I b.Kind,.slice f g h])] j2:=(Kp.cons (s.on 0 rfl) (Kp.nil s));refine ta 0 (v32) (bn H fun x3 x2 H=>?_);obtain ⟨o,rfl,o0⟩:=((k0.mono (u0.trans (q.trans (S.trans U))))).get x2;refine ta 1 (Q o) (ta 2 (Q o) (bn H fun p1 z2 H=>?_));obtain ⟨X,l4,s0,q0⟩:=Rel.open_row_Row (y.mono (q.trans (S.trans U))) z2 o0;refine tkx 3 w0 (fun c' p hk=>le1 0 eH (hk.gon s0 0 rfl)) (ta 4 (I a.1) (tkx 5 w0 (fun c' p hk=>leN 114 0 [I b.Kind,.slice f g h] (hk.on 0 rfl)) (bn H fun k a3 H=>o1 6 (gc 6 (qG s b N.m a3) ?_))));rintro o4 k2 k3 ⟨n4,m4,t,rfl,b3⟩;have m3:Kp i [(Eb n 114 [I b.Kind,.slice f g h])] k2:=(Kp.cons (t.on 1 rfl) (Kp.nil t));refine ⟨.inr m3,bn H fun c4 c3 H=>tx 7 (fun c' p=>ixO eH q0.m c3) ?_⟩;obtain ⟨l2,d3,v0,x,P⟩:=t.frz 0 rfl b3;have n3:Kp i [(Eb n 114 [I b.Kind,.slice f g h])] l2:=(Kp.cons (x.on 1 rfl) (Kp.nil x));refine AC.gh d3 v0 (fun _=>n3) ?_;obtain ⟨z,A,D,rfl⟩:=(P).form;have e2:=x.borrow 1 s0 rfl;refine bn H fun q1 e3 H=>o1 8 (gD 8 (Own.stW (R:=az) (T:=114) (us:=[I k.Kind,.slice z A D]) (x':=k) (u:= .agg #[I k.Kind,.slice z A D]) 0 e2 (by kernel_rfl) rfl q0.m e3 rfl (by kernel_rfl) ⟨rfl,P.one,trivial⟩ rfl ⟨(.slice z A D),rfl,P⟩) ?_);rintro h1 m1 ⟨x0,f2,f3⟩;have a1:=f2.giveB 1 rfl;refine bn H fun s1 j1 H=>?_;obtain ⟨y0,b1,f1,w3,u3⟩:=Rel.put_row_Row a1 (y.mono (q.trans (S.trans (U.trans (k3.trans (v0.trans m1)))))) (E':=[(Eb o 253 [X,B p1.wrap]),es true az X 114 x0 q1]) j1 ⟨o,X,x0,(tm o0),rfl,f3⟩;refine ⟨.inl rfl,dn (bkn (nrm (W.region (vv (I (w64 (a.1+1))) (WL.nil ?_)))))⟩;obtain rfl:=si H;refine ⟨_,rfl,?_⟩;have c1:=b1.sD 2 [];exact jn h1 ⟨y0,c1,rfl,f1⟩
  refine W.exit (thx ?_);obtain rfl:=si H;exact ⟨_,rfl,rfl,jn i2 ⟨i,f0,rfl,y⟩⟩
 ·exact jn E ⟨t1,z1,rfl,g2⟩
 rintro _ e_ w_ ⟨rfl,i1,v3,_,rfl,y3,rfl,z0,d1,rfl,g1⟩;refine bke (nrm (sr (vv (v32) (va (.nilIface) (wln (W.ret ?_))))));obtain rfl:=si d0;exact r2 (qq i1 ⟨v32,.nilIface,z0,d1,g1,rfl,k0.m,rfl⟩)
def bN (sg:Sto) (p0:Option Nat):Option (Int):=
 if p0.isNone=true then
 some 0
 else
 (p0).bind fun b=>
 (sg.row_Row[b]?).bind fun a=>
 some (a.cells.length:Int)
theorem cr (d:Own c0 G F) (k:Rel c0 sg G) (f:Option Nat) {r:Int} (j:Pt 0 c0 v1 f) (H:bN sg f=some r): Calls prog 124 #[v1] c0.w (aT c0 fun c v=>Own c G (F)∧v=I r):=by
 unfold bN at H;refine en func124 rfl rfl (sr (va (I 0) (wln (W.seq (sr (va (v1) (vr (B f.isNone) (by rcases (j).cs with ⟨a,b⟩ | ⟨q,a,b⟩ <;> (subst a; rw [b]; kernel_rfl)) (wln (cn H (fun l H=>?_) (fun l H=>?_))))))))))
 ·refine sr (va (I 0) (wln (W.ret (thr ?_))));obtain rfl:=si H;exact r1 (qq c0 ⟨d,rfl⟩)
 refine W.skip (nrm (sr (va (v1) (bn H fun p n H=>?_))));obtain ⟨g,rfl,m⟩:=(j).get n;refine vv (Q g) (bn H fun e o H=>?_);obtain ⟨v8,s,i,h⟩:=Rel.open_row_Row k o m;refine vx (le1 0 eH (d.gon i 0 rfl)) (vx (lnO 3 eH h) (va (I (e.cells.length:Int)) (wln (W.ret ?_))));obtain rfl:=si H;exact r1 (qq c0 ⟨d,rfl⟩)
def er (sg:Sto) (p0:Option Nat):Option (List aa):=
 (bN sg p0).bind fun b=>
 (cJ (σ:=(List aa)×Int) (τ:=(List aa)) ((b - 0).toNat+1) (fun a=>
 if (decide (a.2 < b))=true then
 (p0).bind fun c=>
 (sg.row_Row[c]?).bind fun d=>
 (idx d.cells a.2).bind fun e=>
 (ll e).bind fun f=>
 (app a.1 ([f]:List aa)).bind fun g=>
 some (.inl (g,(w64 (a.2+1))))
 else
 some (.inr (a.1))) (([]:List aa),0)).bind fun h=>
 some h
theorem kW (O0:Own c0 G F) (R0:Rel c0 sg G) (M:Option Nat) {r:List aa} (h2:Pt 0 c0 v1 M) (H:er sg M=some r): Calls prog 125 #[v1] c0.w (aT c0 fun c v=>∃N y2,Own c G (es true az N 114 y2 r :: F)∧v=N∧OA az c N y2 r):=by
 unfold er at H;refine en func125 rfl rfl (sr (va (Y) (wln (sr (va (Y) (wln (W.seq (sr (va (v1) (bn H fun E h3 H=>cl (cr O0 R0 M h2 h3) ?_))))))))));rintro v9 o l8 ⟨O5,rfl⟩;refine va (I 0) (wln (W.block (bn H fun j2 x p=>lp x (fun a=>Jn o fun c l=>∃v12 f,Own c G (es true az v12 114 f a.1 :: F)∧l= [(0,v1),(3,v12),(6,I E),(7,I a.2)]∧OA az c v12 f a.1) (fun k ex e w=>ex= .exit 0∧(Jn o fun c l=>∃v14 g,Own c G (es true az v14 114 g k :: F)∧l= [(3,v14)]∧OA az c v14 g k) e w) ?_ ?_ ?_)))
 ·clear p x;intro a n2 h0 f1 H;revert h0 f1;rintro e_ w_ ⟨e0,z1,_,rfl,l16,rfl,v12,f,d,rfl,y⟩;refine sr (va (B (decide (a.2 < E))) (wln (W.seq (cn H (fun j0 H=>?_) (fun j0 H=>?_)))))
  ·refine W.skip (nrm (W.seq (W.block (sr (vv (I a.2) (wln (W.region (va (v12) (va (v1) (bn H fun m1 l0 H=>?_))))))))));obtain ⟨u,rfl,k0⟩:=((h2.mono (l8.trans l16))).get l0;refine vv (Q u) (bn H fun p1 m0 H=>?_);obtain ⟨v28,k2,z,h⟩:=Rel.open_row_Row (R0.mono (l8.trans l16)) m0 k0;refine vx (le1 0 eH (d.gon z 0 rfl)) (va (I a.2) (bn H fun b i H=>vx (ixO eH h i) ?_));obtain ⟨n1,o0,d1⟩:=OA.at h i;obtain ⟨v36,rfl,q0⟩:=o0;refine vr (.agg #[I b.Kind,v36]) (rx (by kernel_rfl) (EO (T:=114) (l:=[I b.Kind,v36]) (by kernel_rfl) (by kernel_rfl) (d.gon z 1 rfl) (h.blk i) (at2 (j:=0) d1 rfl))) (bn H fun n s0 H=>cl (qG d b q0 s0) ?_);rintro v47 t1 c2 ⟨v39,l2,P,rfl,t0⟩;obtain ⟨u1,u0,d2,R,A⟩:=P.frz 0 rfl t0;refine WL.gh u0 ?_;obtain ⟨q,s,t,rfl⟩:=(A).form;refine me (sl az 114 [[I n.Kind,.slice q s t]] ([n]:List aa) R ⟨⟨(.slice q s t),rfl,A⟩,trivial⟩) ?_;rintro v59 w1 e2 ⟨m2,S,v0⟩;obtain ⟨x1,x0,f2,U,w0⟩:=S.frz 0 rfl v0;refine WL.gh x0 (bn H fun s1 y0 H=>me (ap az (.agg #[I 0,Y]) 32 46 2 U y.m w0 y0 eH) ?_);rintro D f0 g2 ⟨e1,X,z0⟩;refine va (D) (WL.nil (bkn (nrm (W.region (vv (I (w64 (a.2+1))) (WL.nil ?_))))));obtain rfl:=si H;refine ⟨_,rfl,?_⟩;have Z:=X.sD 3 [2];exact jn f0 ⟨D,e1,Z,rfl,z0⟩
  refine W.exit (thx ?_);obtain rfl:=si H;exact ⟨_,rfl,rfl,jn e0 ⟨v12,f,d,rfl,y⟩⟩
 ·have a1:OA az o (Y) [] []:=OA.nil (aX _);have a0:=O5.addHole (e:=es true az (Y) 114 [] ([]:List aa)) rfl;exact jn o ⟨(Y),[],a0,rfl,a1⟩
 rintro _ e_ w_ ⟨rfl,g0,b2,_,rfl,i2,rfl,v14,g,b0,rfl,b1⟩;refine bke (nrm (sr (vv (v14) (wln (W.ret ?_)))));obtain rfl:=si p;exact r1 (qq g0 ⟨v14,g,b0,rfl,b1⟩)
def fO (sg:Sto) (p0:Option Nat) (p1:Int):Option (aa×Bool):=
 (orE (decide (p1 < 0)) ((bN sg p0).bind fun c=>
 some (decide (p1≥c)))).bind fun f=>
 if f=true then
 some ((⟨0,([]:List Int)⟩:aa),false)
 else
 (p0).bind fun a=>
 (sg.row_Row[a]?).bind fun b=>
 (idx b.cells p1).bind fun d=>
 (ll d).bind fun e=>
 some (e,true)
theorem qi (O0:Own c0 G F) (Z:Rel c0 sg G) (E:Option Nat) (a:Int) {r:aa×Bool} (h2:Pt 0 c0 v1 E) (H:fO sg E a=some r): Calls prog 321 #[v1,I a] c0.w (aT c0 fun c v=>∃M y2,Own c G (es true (RI .i32) M 21 y2 r.1.Text :: F)∧v= .tuple #[.agg #[I r.1.Kind,M],B r.2]∧OA (RI .i32) c M y2 r.1.Text):=by
 unfold fO at H;refine en func321 rfl rfl (sr (me (al 114 [I 0,Y] O0) ?_));rintro v6 c5 l5 ⟨b3,rfl,S⟩;refine va (B false) (wln (W.seq (W.seq (bn H fun e0 h7 H=>W.join (Jn c5 fun c l=>Own c G ((Eb b3 114 [I 0,Y]) :: F)∧l= [(0,v1),(1,I a),(4,Q b3),(13,B e0)]) ?_ ?_))))
 ·clear H;refine W.region (va (I a) (va (B (decide (a < 0))) ?_));rcases bo (decide (a < 0)) with p | p
  ·obtain rfl:=orT p h7;exact vb p (pz (pz (va (B true) (wln (jn c5 ⟨S,rfl⟩)))))
  have D:=orF p h7;refine vb p (wa (I a) (wa (v1) (wn (bn D fun q f0 D=>cl (cr S Z.m E h2.m f0) ?_))));rintro v16 b0 e1 ⟨N,rfl⟩;refine wa (B (decide (a≥q))) ?_;obtain rfl:=si D;exact va (B (decide (a≥q))) (wln (jn b0 ⟨N,rfl⟩))
 rintro e_ w_ ⟨b1,d1,_,rfl,A,rfl,d,rfl⟩;refine nrm (cn H (fun h0 H=>?_) (fun h0 H=>?_))
 ·refine sr (va (.agg #[I 0,Y]) (md (sA 114 [I 0,Y] 0 d ⟨rfl,rfl,trivial⟩) ?_));rintro i f1 P;refine va (B false) (wln (W.ret (thr ?_)));obtain rfl:=si H;have i0:OA (RI .i32) i (Y) [] []:=OA.nil (aX _);have t:=P.addHole (e:=es true (RI .i32) (Y) 21 [] ([]:List Int)) rfl;have R:=t.sD 2 [0];exact uH (c:=i) (vs:=[I 0,Y]) (v:=B false) rfl (by kernel_rfl) (by kernel_rfl) (by kernel_rfl) (by kernel_rfl) (t.on 1 rfl _ rfl).1 ⟨_,i,rfl,rfl,pt,(Y),[],R,rfl,i0⟩
 refine W.skip (nrm (sr (va (v1) (bn H fun y0 k0 H=>?_))));obtain ⟨x,rfl,j0⟩:=((h2.mono (l5.trans A))).get k0;refine vv (Q x) (bn H fun a1 l0 H=>?_);obtain ⟨v33,i1,z,k⟩:=Rel.open_row_Row (Z.mono (l5.trans A)) l0 j0;refine vx (le1 0 eH (d.gon z 0 rfl)) (va (I a) (bn H fun b n H=>vx (ixO eH k n) ?_));obtain ⟨z0,m0,u0⟩:=OA.at k n;obtain ⟨v41,rfl,o0⟩:=m0;refine vr (.agg #[I b.Kind,v41]) (rx (by kernel_rfl) (EO (T:=114) (l:=[I b.Kind,v41]) (by kernel_rfl) (by kernel_rfl) (d.gon z 1 rfl) (k.blk n) (at2 (j:=0) u0 rfl))) (bn H fun s q0 H=>cl (qG d b o0 q0) ?_);rintro v52 c1 g1 ⟨v44,v0,U,rfl,o⟩;obtain ⟨f,g,h,rfl⟩:=(o).form;refine md (sA 114 [I s.Kind,.slice f g h] 1 U ⟨rfl,(o).one,trivial⟩) ?_;rintro y h1 u;refine va (B true) (wln (W.ret ?_));obtain rfl:=si H;have X:=u.sD 2 [0];exact uH (c:=y) (vs:=[I s.Kind,.slice f g h]) (v:=B true) rfl (by kernel_rfl) (by kernel_rfl) (by kernel_rfl) (by kernel_rfl) (u.on 1 rfl _ rfl).1 ⟨_,y,rfl,rfl,pt,(.slice f g h),v0,X,rfl,o.m⟩
def gM (sg:Sto) (p0:Option Nat) (p1:Int):Option (Int):=
 (orE (decide (p1 < 0)) ((bN sg p0).bind fun e=>
 some (decide (p1≥e)))).bind fun d=>
 if d=true then
 some 0
 else
 (p0).bind fun a=>
 (sg.row_Row[a]?).bind fun b=>
 (idx b.cells p1).bind fun c=>
 some c.Kind
theorem qh (q:Own c0 G F) (s:Rel c0 sg G) (p:Option Nat) (a:Int) {r:Int} (y:Pt 0 c0 v1 p) (H:gM sg p a=some r): Calls prog 282 #[v1,I a] c0.w (aT c0 fun c v=>Own c G (F)∧v=I r):=by
 unfold gM at H;refine en func282 rfl rfl (sr (va (I 0) (wln (W.seq (W.seq (bn H fun u E H=>W.join (Jn c0 fun c l=>Own c G (F)∧l= [(0,v1),(1,I a),(12,B u)]) ?_ ?_))))))
 ·clear H;refine W.region (va (I a) (va (B (decide (a < 0))) ?_));rcases bo (decide (a < 0)) with f | f
  ·obtain rfl:=orT f E;exact vb f (pz (pz (va (B true) (wln (jn c0 ⟨q,rfl⟩)))))
  have o:=orF f E;refine vb f (wa (I a) (wa (v1) (wn (bn o fun n R o=>cl (cr q s p y R) ?_))));rintro v12 t a0 ⟨P,rfl⟩;refine wa (B (decide (a≥n))) ?_;obtain rfl:=si o;exact va (B (decide (a≥n))) (wln (jn t ⟨P,rfl⟩))
 rintro e_ w_ ⟨i,X,_,rfl,m,rfl,b,rfl⟩;refine nrm (cn H (fun x H=>?_) (fun x H=>?_))
 ·refine sr (va (I 0) (wln (W.ret (thr ?_))));obtain rfl:=si H;exact r1 (qq i ⟨b,rfl⟩)
 refine W.skip (nrm (sr (va (v1) (bn H fun S A H=>?_))));obtain ⟨h,rfl,z⟩:=((y.mono m)).get A;refine vv (Q h) (bn H fun U D H=>?_);obtain ⟨v24,b0,k,d⟩:=Rel.open_row_Row (s.mono m) D z;refine vx (le1 0 eH (b.gon k 0 rfl)) (va (I a) (bn H fun g e H=>vx (ixO eH d e) (va (Qo (sb v24) (a.toNat * 2)) ?_)));obtain ⟨T,M,N⟩:=OA.at d e;obtain ⟨v32,rfl,Z⟩:=M;refine vr (I g.Kind) (rx (by kernel_rfl) (ry u_3 rfl (b.gon k 1 rfl) (d.blk e) (at1 (j:=0) N rfl))) (va (I g.Kind) (wln (W.ret ?_)));obtain rfl:=si H;exact r1 (qq i ⟨b,rfl⟩)
def fI (sg:Sto) (p0:Option Nat) (p1:Int) (p2:aa):Option (Sto):=
 (p0).bind fun d=>
 (sg.row_Row[d]?).bind fun e=>
 (ll p2).bind fun f=>
 (idx e.cells p1).bind fun g=>
 (nF e.cells p1 f).bind fun b=>
 (sg.set_row_Row d (⟨b,e.wrap⟩:bh)).bind fun a=>
 if (p1==(w64 ((b.length:Int) - 1)))=true then
 (a.set_row_Row d (⟨b,false⟩:bh)).bind fun c=>
 some c
 else
 some a
theorem nL (O0:Own c0 G F) (R0:Rel c0 sg G) (p0:Option Nat) (o:Int) (p:aa) {r:Sto} (h2:Pt 0 c0 v1 p0) (h4:Sl (RI .i32) c0 v3 p.Text) (H:fI sg p0 o p=some r): Calls prog 283 #[v1,I o,.agg #[I p.Kind,v3]] c0.w (aT c0 fun c v=>∃G_:Gm,Own c G_ (F)∧Rel c r G_∧v= .tuple #[]):=by
 unfold fI at H;refine en func283 rfl rfl (sr ?_);obtain ⟨a5,a6,a7,rfl⟩:=(h4).form;refine me (bx 114 [I p.Kind,.slice a5 a6 a7] O0) ?_;rintro v12 b2 l ⟨b8,rfl,O9,f1⟩;refine wln (W.seq (rD [8] (Kp G []) O9 ?_));intro k0 n s;have i1:Kp G [] k0:=(Kp.nil s);refine ta 0 (v1) (bn H fun d2 s0 H=>?_);obtain ⟨a,rfl,i⟩:=((h2.mono (l.trans n))).get s0;refine ta 1 (Q a) (ta 2 (Q a) (bn H fun g1 t0 H=>?_));obtain ⟨v20,e2,A,z⟩:=Rel.open_row_Row (R0.mono (l.trans n)) t0 i;refine tkx 3 i1 (fun c' E hk=>le1 0 eH (hk.gon A 0 rfl)) (ta 4 (I o) (tx 5 (fun c' E=>lN 114 (mm f1)) (bn H fun q u0 H=>o1 6 (gc 6 (qG s p h4.m u0) ?_))));rintro v33 l0 d1 ⟨v25,f2,t,rfl,v0⟩;have j1:Kp G [] l0:=(Kp.nil t);refine ⟨.inr j1,bn H fun x1 w0 H=>tx 7 (fun c' E=>ixO eH z.m w0) ?_⟩;obtain ⟨m0,x0,M,x,j⟩:=t.frz 0 rfl v0;have k1:Kp G [] m0:=(Kp.nil x);refine AC.gh x0 M (fun _=>k1) ?_;obtain ⟨f,g,h,rfl⟩:=(j).form;have Z:=x.borrow 1 A rfl;refine bn H fun b z0 H=>o1 8 (gD 8 (Own.stW (R:=az) (T:=114) (us:=[I q.Kind,.slice f g h]) (x':=q) (u:= .agg #[I q.Kind,.slice f g h]) 0 Z (by kernel_rfl) rfl z.m z0 rfl (by kernel_rfl) ⟨rfl,j.one,trivial⟩ rfl ⟨(.slice f g h),rfl,j⟩) ?_);rintro o0 e1 ⟨d,a0,k⟩;have b0:=a0.giveB 1 rfl;refine bn H fun P a1 H=>?_;obtain ⟨U,e,y,D,y1⟩:=Rel.put_row_Row b0 (R0.mono (l.trans (n.trans (d1.trans (M.trans e1))))) (E':=[(Eb a 253 [v20,B g1.wrap]),es true az v20 114 d b]) a1 ⟨a,v20,d,(tm i),rfl,k⟩;refine ⟨.inl rfl,dn (nrm (sr (va (I o) (vv (Q a) (va (Q a) (vx (le1 0 eH (e.gon D 0 rfl)) (vx (lnO 3 eH k) (va (I (w64 ((b.length:Int) - 1))) (va (B (o==(w64 ((b.length:Int) - 1)))) (wln (cn H (fun b1 H=>?_) (fun b1 H=>?_))))))))))))⟩
 ·refine W.region (vv (Q a) (va (Qo a 1) (md (gC 4 1 (B false) [v20,B false] 0 e D ⟨rfl,trivial⟩) ?_)));rintro q0 N d0;refine bn H fun S c1 H=>?_;obtain ⟨X,e0,i0,c2,z1⟩:=Rel.put_row_Row d0 (y.mono N) (E':=[(Eb a 253 [v20,B false]),es true az v20 114 d b]) c1 ⟨a,v20,d,(tm i),rfl,(k.mono N)⟩;refine WL.nil ?_;obtain rfl:=si H;have f0:=e0.sD 1 [];exact n0 (qq q0 ⟨X,f0,i0,rfl⟩)
 refine W.skip ?_;obtain rfl:=si H;have g0:=e.sD 1 [];exact n0 (qq o0 ⟨U,g0,y,rfl⟩)
def dK (sg:Sto) (p0:Option Nat) (p1:Int) (p2:List aa):Option (Sto×Er):=
 (orE p0.isNone (some (decide (p1 < 0)))).bind fun q=>
 (orE q ((p0).bind fun d=>
 (sg.row_Row[d]?).bind fun f=>
 some (decide (p1 > (f.cells.length:Int))))).bind fun r=>
 (orE r ((p0).bind fun e=>
 (sg.row_Row[e]?).bind fun g=>
 some (decide ((p2.length:Int) > (w64 ((g.cells.length:Int) - p1)))))).bind fun c=>
 if c=true then
 some (sg,(Er.sent 2))
 else
 (kw p2).bind fun i=>
 if (!i)=true then
 some (sg,(Er.sent 4))
 else
 if ((p2.length:Int)==0)=true then
 some (sg,Er.nil)
 else
 ((gM sg p0 p1).bind fun j=>
 if (j==3)=true then
 (fI sg p0 (w64 (p1 - 1)) (⟨0,([]:List Int)⟩:aa)).bind fun k=>
 some (k)
 else
 some (sg)).bind fun b=>
 ((gM b p0 (w64 (p1+(p2.length:Int)))).bind fun l=>
 if (l==3)=true then
 (fI b p0 (w64 (p1+(p2.length:Int))) (⟨0,([]:List Int)⟩:aa)).bind fun m=>
 some (m)
 else
 some (b)).bind fun p=>
 (cJ (σ:=Int×Sto) (τ:=Sto) (((p2.length:Int) - 0).toNat+1) (fun a=>
 if (decide (a.1 < (p2.length:Int)))=true then
 (idx p2 a.1).bind fun n=>
 (fI a.2 p0 (w64 (p1+a.1)) n).bind fun o=>
 some (.inl ((w64 (a.1+1)),o))
 else
 some (.inr (a.2))) (0,p)).bind fun h=>
 some (h,Er.nil)
theorem jA (A:Own c0 G F) (o:Rel c0 sg G) (hG:Gl [2,4] c0) (j:Option Nat) (a:Int) (f:List aa) {r:Sto×Er} (s:Pt 0 c0 v1 j) (x:Sl az c0 v3 f) (H:dK sg j a f=some r): Calls prog 234 #[v1,I a,v3] c0.w (aT c0 fun c v=>∃y1,∃G_:Gm,Own c G_ (F)∧Rel c r.1 G_∧v=y1∧RE 350 144 c y1 r.2):=by
 unfold dK at H;refine en func234 rfl rfl (sr (va (.nilIface) (wln (W.seq (W.block (W.seq (bn H fun u4 h5 H=>bn H fun v4 h6 H=>bn H fun j1 h7 H=>W.join (Jn c0 fun c l=>Own c G (F)∧l= [(0,v1),(1,I a),(2,v3),(10,B j1)]) ?_ ?_)))))))
 ·clear H;refine W.region (va (v1) (vr (B j.isNone) (by rcases (s).cs with ⟨q0,s0⟩ | ⟨b_,q0,s0⟩ <;> (subst q0; rw [s0]; kernel_rfl)) ?_));rcases bo (j.isNone) with h8 | h8
  ·obtain rfl:=orT h8 h5;refine vb h8 (pz (va (B true) ?_));have h9:true=true:=rfl;obtain rfl:=orT h9 h6;refine vb h9 (pz (pz (pz (ps (va (B true) ?_)))));have m0:true=true:=rfl;obtain rfl:=orT m0 h7;exact vb m0 (pz (pz (pz (pz (pz (vv (B true) (wln (jn c0 ⟨A,rfl⟩))))))))
  have g2:=orF h8 h5;refine vb h8 (wa (I a) (wa (B (decide (a < 0))) ?_));obtain rfl:=si g2;refine va (B (decide (a < 0))) ?_;rcases bo (decide (a < 0)) with q | q
  ·obtain rfl:=orT q h6;refine vb q (pz (pz (pz (ps (va (B true) ?_)))));have o0:true=true:=rfl;obtain rfl:=orT o0 h7;exact vb o0 (pz (pz (pz (pz (pz (vv (B true) (wln (jn c0 ⟨A,rfl⟩))))))))
  have k:=orF q h6;refine vb q (wa (I a) (wa (v1) (wn (bn k fun i4 a3 k=>?_))));obtain ⟨p,rfl,z2⟩:=(s).get a3;refine va (Q p) (wa (Q p) (wn (bn k fun y b3 k=>?_)));obtain ⟨v19,d5,d3,c3⟩:=Rel.open_row_Row o b3 z2;refine vx (le1 0 eH (A.gon d3 0 rfl)) (wn (vx (lnO 3 eH c3) (wa (B (decide (a > (y.cells.length:Int)))) ?_)));obtain rfl:=si k;refine va (B (decide (a > (y.cells.length:Int)))) ?_;rcases bo (decide (a > (y.cells.length:Int))) with t | t
  ·obtain rfl:=orT t h7;exact vb t (pz (pz (pz (pz (pz (vv (B true) (wln (jn c0 ⟨A,rfl⟩))))))))
  have n:=orF t h7;refine vb t (wa (v3) (wn (vx (ln 3 eH x) (wa (Q p) (wn (bn n fun j4 f3 n=>?_))))));have e3:=(s).get2 f3;refine va (Q p) (wa (Q p) (wn (bn n fun i g3 n=>?_)));obtain ⟨v29,e5,i3,h3⟩:=Rel.open_row_Row o g3 e3;refine vx (le1 0 eH (A.gon i3 0 rfl)) (wn (vx (lnO 3 eH h3) (wa (I a) (wa (I (w64 ((i.cells.length:Int) - a))) (wa (B (decide ((f.length:Int) > (w64 ((i.cells.length:Int) - a))))) ?_)))));obtain rfl:=si n;exact vv (B (decide ((f.length:Int) > (w64 ((i.cells.length:Int) - a))))) (wln (jn c0 ⟨A,rfl⟩))
 rintro e_ w_ ⟨s2,w4,_,rfl,d0,rfl,j0,rfl⟩;refine nrm (cn H (fun j3 H=>?_) (fun j3 H=>?_))
 ·refine sr ?_;obtain ⟨v40,t0⟩:=(hG.mono d0).get 2 (by decide);refine vx (l1 xM t0.im) (va (v40) (wln (W.ret (bkr (thr ?_)))));obtain rfl:=si H;exact r1 (qq s2 ⟨v40,G,j0,o.m,rfl,t0⟩)
 refine sr (va (v3) (bn H fun e0 k3 H=>cl (sG j0 f x.m k3) ?_));rintro v48 X w0 ⟨N,rfl⟩;refine vv (B (!e0)) (wln (cn H (fun l3 H=>?_) (fun l3 H=>?_)))
 ·refine sr ?_;obtain ⟨v50,u0⟩:=(hG.mono (d0.trans w0)).get 4 (by decide);refine vx (l1 xM u0.im) (va (v50) (wln (W.ret (bkr (thr ?_)))));obtain rfl:=si H;exact r1 (qq X ⟨v50,G,N,o.m,rfl,u0⟩)
 refine sr (va (v3) (vx (ln 3 eH x.m) (vv (B ((f.length:Int)==0)) (wln (cn H (fun n3 H=>?_) (fun n3 H=>?_))))))
 ·refine sr (va (.nilIface) (wln (W.ret (bkr (thr ?_)))));obtain rfl:=si H;exact r1 (qq X ⟨.nilIface,G,N,o.m,rfl,rfl⟩)
 refine W.skip (bkn (nrm (bn H fun z1 g i2=>W.seqJ (Jn X fun c l=>∃G_,Own c G_ (F)∧l= [(0,v1),(1,I a),(2,v3)]∧Rel c z1 G_) ?_ ?_)))
 ·refine sr (va (v1) (va (I a) (bn g fun w1 o3 g=>cl (qh N o.m j a s.m o3) ?_)));rintro f5 t2 z4 ⟨k0,rfl⟩;refine va (B (w1==3)) (wln (cn g (fun p3 g=>?_) (fun p3 g=>?_)))
  ·refine W.region (va (v1) (va (I a) (va (I (w64 (a - 1))) (va (.agg #[I 0,Y]) (bn g fun r4 q3 g=>cl (nL k0 o.m j (w64 (a - 1)) (⟨0,([]:List Int)⟩:aa) s.m (Sl.nl _ _) q3) ?_)))));rintro g5 u2 a5 ⟨c2,j2,n2,rfl⟩;refine wln ?_;obtain rfl:=si g;exact jn u2 ⟨c2,j2,rfl,n2⟩
  refine W.skip (nrm ?_);obtain rfl:=si g;exact jn t2 ⟨G,k0,rfl,o.m⟩
 rintro e_ w_ ⟨v2,x4,_,rfl,x3,rfl,d2,k2,rfl,R⟩;refine bn i2 fun b2 h d=>W.seqJ (Jn v2 fun c l=>∃G_,Own c G_ (F)∧l= [(0,v1),(1,I a),(2,v3)]∧Rel c b2 G_) ?_ ?_
 ·refine sr (va (I a) (va (v3) (vx (ln 3 eH x.m) (vv (I (w64 (a+(f.length:Int)))) (wln (sr (va (v1) (va (I (w64 (a+(f.length:Int)))) (bn h fun x1 s3 h=>cl (qh k2 R j (w64 (a+(f.length:Int))) s.m s3) ?_)))))))));rintro i5 w2 b5 ⟨l0,rfl⟩;refine va (B (x1==3)) (wln (cn h (fun t3 h=>?_) (fun t3 h=>?_)))
  ·refine W.region (va (v1) (va (I (w64 (a+(f.length:Int)))) (va (.agg #[I 0,Y]) (bn h fun s4 u3 h=>cl (nL l0 R.m j (w64 (a+(f.length:Int))) (⟨0,([]:List Int)⟩:aa) s.m (Sl.nl _ _) u3) ?_))));rintro j5 x2 c5 ⟨e2,l2,o2,rfl⟩;refine wln ?_;obtain rfl:=si h;exact jn x2 ⟨e2,l2,rfl,o2⟩
  refine W.skip (nrm ?_);obtain rfl:=si h;exact jn w2 ⟨d2,l0,rfl,R.m⟩
 rintro e_ w_ ⟨Z,y4,_,rfl,y3,rfl,f2,m2,rfl,q2⟩;refine W.seq (sr (va (v3) (vx (ln 3 eH x.m) (va (I 0) (wln (W.block (bn d fun n4 v0 D=>lp v0 (fun b=>Jn Z fun c l=>∃G_,Own c G_ (F)∧l= [(0,v1),(1,I a),(69,v3),(70,I (f.length:Int)),(71,I b.1)]∧Rel c b.2 G_) (fun h0 ex e w=>ex= .exit 1∧(Jn Z fun c l=>∃G_,Own c G_ (F)∧l= []∧Rel c h0 G_) e w) ?_ ?_ ?_)))))))
 ·clear D v0;intro b k5 y2 z3 d;revert y2 z3;rintro e_ w_ ⟨g1,f4,_,rfl,s1,rfl,x0,E,rfl,P⟩;refine sr (va (B (decide (b.1 < (f.length:Int)))) (wln (W.seq (cn d (fun k1 d=>?_) (fun k1 d=>?_)))))
  ·refine W.skip (nrm (W.seq (W.block (sr (va (I b.1) (bn d fun z a0 d=>?_))))));obtain ⟨b4,m1,u1⟩:=Sl.at (x.mono (d0.trans (w0.trans (x3.trans (y3.trans s1))))) (bz a0);obtain ⟨o4,rfl,u⟩:=m1;refine vx (ix eH x.m a0) (vx (lN 114 u1) (me (al 114 [I 0,Y] E) ?_));rintro p4 d4 t1 ⟨c4,rfl,a1⟩;refine va (I b.1) ?_;obtain ⟨S,T,U,rfl⟩:=((u.mono t1)).form;refine md (sA 114 [I z.Kind,.slice S T U] 0 a1 ⟨rfl,u.m.one,trivial⟩) ?_;rintro e4 k4 M;refine wln (W.region (va (v1) (va (I a) (va (I b.1) (va (I (w64 (a+b.1))) (vx (leN 114 0 [I z.Kind,.slice S T U] (M.on 0 rfl)) (bn d fun t4 n1 d=>cl (nL M P.m j (w64 (a+b.1)) z s.m u.m n1) ?_)))))));rintro q4 h1 l4 ⟨y0,b1,e1,rfl⟩;refine WL.nil (bkn (nrm (W.region (vv (I (w64 (b.1+1))) (WL.nil ?_)))));obtain rfl:=si d;refine ⟨_,rfl,?_⟩;have c1:=b1.sD 1 [];exact jn h1 ⟨y0,c1,rfl,e1⟩
  refine W.exit (thx ?_);obtain rfl:=si d;exact ⟨_,rfl,rfl,jn g1 ⟨x0,E,rfl,P⟩⟩
 ·exact jn Z ⟨f2,m2,rfl,q2⟩
 rintro _ e_ w_ ⟨rfl,i1,g4,_,rfl,m4,rfl,z0,d1,rfl,f1⟩;refine bke (nrm (sr (va (.nilIface) (wln (W.ret ?_)))));obtain rfl:=si D;exact r1 (qq i1 ⟨.nilIface,z0,d1,f1,rfl,rfl⟩)
def eP (sg:Sto) (p0:Option Nat) (p1:Bool):Option (Sto):=
 if (!p0.isNone)=true then
 (p0).bind fun b=>
 (sg.row_Row[b]?).bind fun c=>
 (sg.set_row_Row b (⟨c.cells,p1⟩:bh)).bind fun a=>
 some a
 else
 some sg
theorem lT (j:Own c0 G F) (g:Rel c0 sg G) (h:Option Nat) (a:Bool) {r:Sto} (s:Pt 0 c0 v1 h) (H:eP sg h a=some r): Calls prog 242 #[v1,B a] c0.w (aT c0 fun c v=>∃G_:Gm,Own c G_ (F)∧Rel c r G_∧v= .tuple #[]):=by
 unfold eP at H;refine en func242 rfl rfl (sr (va (v1) (vr (B (!h.isNone)) (by rcases (s).cs with ⟨d,e⟩ | ⟨P,d,e⟩ <;> (subst d; rw [e]; kernel_rfl)) (wln (cn H (fun z H=>?_) (fun z H=>?_))))))
 ·refine W.region (va (v1) (va (B a) (bn H fun N A H=>?_)));obtain ⟨b,rfl,t⟩:=(s).get A;refine va (Q b) (va (Qo b 1) (bn H fun u D H=>?_));obtain ⟨v8,y,p,o⟩:=Rel.open_row_Row g D t;refine md (gC 4 1 (B a) [v8,B a] 0 j p ⟨rfl,trivial⟩) ?_;rintro n f k;refine bn H fun x q H=>?_;obtain ⟨i,l,m,M,E⟩:=Rel.put_row_Row k (g.mono f) (E':=[(Eb b 253 [v8,B a]),es true az v8 114 y u.cells]) q ⟨b,v8,y,(tm t),rfl,(o.mono f)⟩;refine WL.nil ?_;obtain rfl:=si H;exact n0 (qq n ⟨i,l,m,rfl⟩)
 refine W.skip ?_;obtain rfl:=si H;exact n0 (qq c0 ⟨G,j,g,rfl⟩)
def iY (sg:Sto) (p0:Option Nat):Option (Bool):=
 (bT (!p0.isNone) ((p0).bind fun c=>
 (sg.row_Row[c]?).bind fun a=>
 some a.wrap)).bind fun b=>
 some b
theorem vt (h:Own c0 G F) (q:Rel c0 sg G) (e:Option Nat) {r:Bool} (o:Pt 0 c0 v1 e) (H:iY sg e=some r): Calls prog 126 #[v1] c0.w (aT c0 fun c v=>Own c G (F)∧v=B r):=by
 unfold iY at H;refine en func126 rfl rfl (sr (va (B false) (wln (W.seq (bn H fun m p H=>W.join (Jn c0 fun c l=>Own c G (F)∧l= [(2,B m)]) ?_ ?_)))))
 ·clear H;refine W.region (va (v1) (vr (B (!e.isNone)) (by rcases (o).cs with ⟨f,g⟩ | ⟨E,f,g⟩ <;> (subst f; rw [g]; kernel_rfl)) ?_));rcases bo (!e.isNone) with b | b
  ·have a:=anT b p;refine vb b (wa (v1) (wn (bn a fun z t a=>?_)));obtain ⟨j,rfl,s⟩:=(o).get t;refine va (Q j) (wa (Qo j 1) (wn (bn a fun d u a=>?_)));obtain ⟨v10,D,n,y⟩:=Rel.open_row_Row q u s;refine vx (le1 1 u_4 (h.gon n 0 rfl)) ?_;obtain rfl:=si a;exact vv (B d.wrap) (wln (jn c0 ⟨h,rfl⟩))
  obtain rfl:=anF b p;exact vb b (pz (pz (vv (B false) (wln (jn c0 ⟨h,rfl⟩)))))
 rintro M N ⟨k,x,_,rfl,A,rfl,i,rfl⟩;refine nrm (W.ret ?_);obtain rfl:=si H;exact r1 (qq k ⟨i,rfl⟩)
def gV (p0:List aa) (p1:Bool) (p2:Int) (p3:List aa):Option ((List aa)×Bool):=
 (cJ (σ:=Bool×(List aa)×Int) (τ:=(Bool×(List aa))) (((p0.length:Int) - 0).toNat+1) (fun a=>
 if (decide (a.2.2 < (p0.length:Int)))=true then
 (bT (decide (a.2.2≥p2)) (some (decide (a.2.2 < (w64 (p2+(p3.length:Int))))))).bind fun c=>
 (idx p0 a.2.2).bind fun e=>
 (if c=true then
 (idx p3 (w64 (a.2.2 - p2))).bind fun f=>
 some (f.Kind,f.Text)
 else
 some (e.Kind,e.Text)).bind fun b=>
 (bT (!c) ((bT (b.1==2) (some (decide ((w64 (a.2.2+1))≥p2)))).bind fun l=>
 (bT l (some (decide ((w64 (a.2.2+1)) < (w64 (p2+(p3.length:Int))))))).bind fun m=>
 (orE m ((bT (b.1==3) (some (decide ((w64 (a.2.2 - 1))≥p2)))).bind fun o=>
 (bT o (some (decide ((w64 (a.2.2 - 1)) < (w64 (p2+(p3.length:Int))))))).bind fun p=>
 some p)).bind fun n=>
 some n)).bind fun d=>
 (if d=true then
 some (0,([]:List Int))
 else
 some (b.1,b.2)).bind fun g=>
 ((bT ((w64 (a.2.2+1))==(p0.length:Int)) ((orE c (some d)).bind fun i=>
 some i)).bind fun h=>
 if h=true then
 some (false)
 else
 some (a.1)).bind fun q=>
 (app a.2.1 ([(⟨g.1,g.2⟩:aa)]:List aa)).bind fun j=>
 some (.inl (q,j,(w64 (a.2.2+1))))
 else
 some (.inr (a.1,a.2.1))) (p1,([]:List aa),0)).bind fun k=>
 some (k.2,k.1)
def bL (sg:Sto) (p0:Option Nat):Option (Int):=
 if p0.isNone=true then
 some 0
 else
 (p0).bind fun b=>
 (sg.grid_Grid[b]?).bind fun a=>
 some (a.rows.length:Int)
theorem bF (d:Own c0 G F) (k:Rel c0 sg G) (f:Option Nat) {r:Int} (j:Pt 1 c0 v1 f) (H:bL sg f=some r): Calls prog 78 #[v1] c0.w (aT c0 fun c v=>Own c G (F)∧v=I r):=by
 unfold bL at H;refine en func78 rfl rfl (sr (va (I 0) (wln (W.seq (sr (va (v1) (vr (B f.isNone) (by rcases (j).cs with ⟨a,b⟩ | ⟨q,a,b⟩ <;> (subst a; rw [b]; kernel_rfl)) (wln (cn H (fun l H=>?_) (fun l H=>?_))))))))))
 ·refine sr (va (I 0) (wln (W.ret (thr ?_))));obtain rfl:=si H;exact r1 (qq c0 ⟨d,rfl⟩)
 refine W.skip (nrm (sr (va (v1) (bn H fun p n H=>?_))));obtain ⟨g,rfl,m⟩:=(j).get n;refine vv (Q g) (bn H fun e o H=>?_);obtain ⟨v8,s,i,h⟩:=Rel.open_grid_Grid k o m;refine vx (le1 0 mi (d.gon i 0 rfl)) (vx (lnO 3 mi h) (va (I (e.rows.length:Int)) (wln (W.ret ?_))));obtain rfl:=si H;exact r1 (qq c0 ⟨d,rfl⟩)
def lj (sg:Sto) (p0:Option Nat) (p1:Int) (p2:Int) (p3:Int):Option (gL×Bool):=
 (bL sg p0).bind fun b=>
 (bL sg p0).bind fun a=>
 (bT (decide ((aV 0 (aL p1 b)) < (aV 0 (aL p2 a)))) (some (decide (p3 > 0)))).bind fun c=>
 some ((⟨(aV 0 (aL p1 b)),(aV 0 (aL p2 a)),(aL p3 (w64 ((aV 0 (aL p2 a)) - (aV 0 (aL p1 b)))))⟩:gL),c)
theorem tG (S:Own c0 G F) (z:Rel c0 sg G) (j:Option Nat) (d:Int) (e:Int) (f:Int) {r:gL×Bool} (R:Pt 1 c0 v1 j) (H:lj sg j d e f=some r): Calls prog 238 #[v1,I d,I e,I f] c0.w (aT c0 fun c v=>Own c G (F)∧v= .tuple #[.agg #[I r.1.from_,I r.1.to_,I r.1.n],B r.2]):=by
 unfold lj at H;refine en func238 rfl rfl (sr (me (al 300 [I 0,I 0,I 0] S) ?_));rintro v6 c5 l5 ⟨D,rfl,T⟩;refine va (B false) (wln (sr (va (I d) (va (v1) (bn H fun b X H=>cl (bF T z.m j R.m X) ?_)))));rintro v13 Z e0 ⟨U,rfl⟩;refine va (I (aL d b)) (va (I (aV 0 (aL d b))) (va (I e) (va (v1) (bn H fun a P H=>cl (bF U z.m j R.m P) ?_))));rintro v20 a0 f0 ⟨s,rfl⟩;refine va (I (aL e a)) (va (I (aV 0 (aL e a))) (va (I (aV 0 (aL d b))) (va (I (aV 0 (aL e a))) (wln (sr (va (I (aV 0 (aL d b))) (va (I (aV 0 (aL e a))) (va (I f) (va (I (aV 0 (aL e a))) (va (I (aV 0 (aL d b))) (va (I (w64 ((aV 0 (aL e a)) - (aV 0 (aL d b))))) (va (I (aL f (w64 ((aV 0 (aL e a)) - (aV 0 (aL d b)))))) (va (.agg #[I (aV 0 (aL d b)),I (aV 0 (aL e a)),I (aL f (w64 ((aV 0 (aL e a)) - (aV 0 (aL d b)))))]) (me (al 300 [I 0,I 0,I 0] s) ?_))))))))))))));rintro v24 b0 g0 ⟨A,rfl,t⟩;refine md (sA 300 [I (aV 0 (aL d b)),I (aV 0 (aL e a)),I (aL f (w64 ((aV 0 (aL e a)) - (aV 0 (aL d b)))))] 0 t ⟨rfl,rfl,rfl,trivial⟩) ?_;rintro E h0 h;refine wln (W.seq (bn H fun i p H=>W.join (Jn E fun c l=>Own c G ((Eb A 300 [I (aV 0 (aL d b)),I (aV 0 (aL e a)),I (aL f (w64 ((aV 0 (aL e a)) - (aV 0 (aL d b)))))]) :: (Eb D 300 [I (aV 0 (aL d b)),I (aV 0 (aL e a)),I (aL f (w64 ((aV 0 (aL e a)) - (aV 0 (aL d b)))))]) :: F)∧l= [(8,Q D),(9,B i)]) ?_ ?_))
 ·clear H;refine W.region (vx (leN 300 0 [I (aV 0 (aL d b)),I (aV 0 (aL e a)),I (aL f (w64 ((aV 0 (aL e a)) - (aV 0 (aL d b)))))] (h.on 0 rfl)) (va (I (aV 0 (aL d b))) (va (I (aV 0 (aL e a))) (va (B (decide ((aV 0 (aL d b)) < (aV 0 (aL e a))))) ?_))));rcases bo (decide ((aV 0 (aL d b)) < (aV 0 (aL e a)))) with g | g
  ·have q:=anT g p;refine vb g (wa (I f) (wa (B (decide (f > 0))) ?_));obtain rfl:=si q;refine va (B (decide (f > 0))) (md (sA 300 [I (aV 0 (aL d b)),I (aV 0 (aL e a)),I (aL f (w64 ((aV 0 (aL e a)) - (aV 0 (aL d b)))))] 1 h ⟨rfl,rfl,rfl,trivial⟩) ?_);rintro M i0 u;exact va (B (decide (f > 0))) (wln (jn M ⟨u,rfl⟩))
  obtain rfl:=anF g p;refine vb g (pz (va (B false) (md (sA 300 [I (aV 0 (aL d b)),I (aV 0 (aL e a)),I (aL f (w64 ((aV 0 (aL e a)) - (aV 0 (aL d b)))))] 1 h ⟨rfl,rfl,rfl,trivial⟩) ?_)));rintro N j0 x;exact va (B false) (wln (jn N ⟨x,rfl⟩))
 rintro e_ w_ ⟨o,d0,_,rfl,k0,rfl,k,rfl⟩;refine nrm (W.ret ?_);obtain rfl:=si H;have y:=k.sD 2 [];exact uH (c:=o) (vs:=[I (aV 0 (aL d b)),I (aV 0 (aL e a)),I (aL f (w64 ((aV 0 (aL e a)) - (aV 0 (aL d b)))))]) (v:=B i) rfl (by kernel_rfl) (by kernel_rfl) (by kernel_rfl) (by kernel_rfl) (k.on 1 rfl _ rfl).1 ⟨_,o,rfl,rfl,pt,y,rfl⟩
def bv (sg:Sto) (p0:Option Nat) (p1:Int):Option (Option Nat):=
 (orE (decide (p1 < 0)) ((bL sg p0).bind fun e=>
 some (decide (p1≥e)))).bind fun d=>
 if d=true then
 some (none:Option Nat)
 else
 (p0).bind fun a=>
 (sg.grid_Grid[a]?).bind fun b=>
 (idx b.rows p1).bind fun c=>
 some c
theorem cM (p:Own c0 G F) (q:Rel c0 sg G) (o:Option Nat) (a:Int) {r:Option Nat} (x:Pt 1 c0 v1 o) (H:bv sg o a=some r): Calls prog 118 #[v1,I a] c0.w (aT c0 fun c v=>∃P,Own c G (F)∧v=P∧Pt 0 c P r):=by
 unfold bv at H;refine en func118 rfl rfl (sr (va (.pointer none) (wln (W.seq (W.seq (bn H fun t D H=>W.join (Jn c0 fun c l=>Own c G (F)∧l= [(0,v1),(1,I a),(12,B t)]) ?_ ?_))))))
 ·clear H;refine W.region (va (I a) (va (B (decide (a < 0))) ?_));rcases bo (decide (a < 0)) with f | f
  ·obtain rfl:=orT f D;exact vb f (pz (pz (va (B true) (wln (jn c0 ⟨p,rfl⟩)))))
  have n:=orF f D;refine vb f (wa (I a) (wa (v1) (wn (bn n fun m S n=>cl (bF p q o x S) ?_))));rintro v12 s b0 ⟨R,rfl⟩;refine wa (B (decide (a≥m))) ?_;obtain rfl:=si n;exact va (B (decide (a≥m))) (wln (jn s ⟨R,rfl⟩))
 rintro e_ w_ ⟨h,a0,_,rfl,k,rfl,b,rfl⟩;refine nrm (cn H (fun u H=>?_) (fun u H=>?_))
 ·refine sr (va (.pointer none) (wln (W.ret (thr ?_))));obtain rfl:=si H;exact r1 (qq h ⟨(.pointer none),b,rfl,rfl⟩)
 refine W.skip (nrm (sr (va (v1) (bn H fun T z H=>?_))));obtain ⟨g,rfl,y⟩:=((x.mono k)).get z;refine vv (Q g) (bn H fun X A H=>?_);obtain ⟨v24,d0,i,d⟩:=Rel.open_grid_Grid (q.mono k) A y;refine vx (le1 0 mi (b.gon i 0 rfl)) (va (I a) (bn H fun Z e H=>vx (ixO mi d e) ?_));obtain ⟨U,E,N⟩:=OA.at d e;obtain ⟨v32,rfl,M⟩:=E;refine vr v32 (rx (by kernel_rfl) (ry Aj rfl (b.gon i 1 rfl) (d.blk e) (at1 (j:=0) N rfl))) (va (v32) (wln (W.ret ?_)));obtain rfl:=si H;exact r1 (qq h ⟨v32,b,rfl,M⟩)
def eu (sg:Sto) (p0:Option Nat) (p1:Int) (p2:Option Nat):Option (Sto×Bool):=
 (orE p2.isNone ((bv sg p0 p1).bind fun h=>
 (bN sg h).bind fun e=>
 (bN sg p2).bind fun f=>
 some (e != f))).bind fun g=>
 if g=true then
 some (sg,false)
 else
 (p0).bind fun b=>
 (sg.grid_Grid[b]?).bind fun c=>
 (idx c.rows p1).bind fun i=>
 (nF c.rows p1 p2).bind fun d=>
 (sg.set_grid_Grid b (⟨d⟩:bS)).bind fun a=>
 some (a,true)
theorem pf (M:Own c0 G F) (e:Rel c0 sg G) (z:Option Nat) (f:Int) (g:Option Nat) {r:Sto×Bool} (h2:Pt 1 c0 v1 z) (j:Pt 0 c0 v3 g) (H:eu sg z f g=some r): Calls prog 119 #[v1,I f,v3] c0.w (aT c0 fun c v=>∃G_:Gm,Own c G_ (F)∧Rel c r.1 G_∧v=B r.2):=by
 unfold eu at H;refine en func119 rfl rfl (sr (va (B false) (wln (W.seq (W.seq (bn H fun g0 h5 H=>W.join (Jn c0 fun c l=>Own c G (F)∧l= [(0,v1),(1,I f),(2,v3),(17,B g0)]) ?_ ?_))))))
 ·clear H;refine W.region (va (v3) (vr (B g.isNone) (by rcases (j).cs with ⟨p,q⟩ | ⟨b_,p,q⟩ <;> (subst p; rw [q]; kernel_rfl)) ?_));rcases bo (g.isNone) with k | k
  ·obtain rfl:=orT k h5;exact vb k (pz (pz (pz (ps (va (B true) (wln (jn c0 ⟨M,rfl⟩)))))))
  have a:=orF k h5;refine vb k (wa (v1) (wa (I f) (wn (bn a fun x0 h8 a=>cl (cM M e z f h2 h8) ?_))));rintro v9 d1 h1 ⟨_,N,rfl,h0⟩;refine wn (bn a fun n i0 a=>cl (cr N e.m x0 h0 i0) ?_);rintro v23 e1 i1 ⟨P,rfl⟩;refine wa (v3) (wn (bn a fun o k0 a=>cl (cr P e.m g j.m k0) ?_));rintro v30 d0 j1 ⟨S,rfl⟩;refine wa (B (n != o)) ?_;obtain rfl:=si a;exact va (B (n != o)) (wln (jn d0 ⟨S,rfl⟩))
 rintro e_ w_ ⟨e0,f1,_,rfl,d,rfl,h,rfl⟩;refine nrm (cn H (fun l0 H=>?_) (fun l0 H=>?_))
 ·refine sr (va (B false) (wln (W.ret (thr ?_))));obtain rfl:=si H;exact r1 (qq e0 ⟨G,h,e.m,rfl⟩)
 refine W.skip (nrm (sr (va (v1) (bn H fun z0 m0 H=>?_))));obtain ⟨b,rfl,s⟩:=((h2.mono d)).get m0;refine vv (Q b) (bn H fun a1 o0 H=>?_);obtain ⟨v42,k1,x,t⟩:=Rel.open_grid_Grid (e.mono d) o0 s;refine vx (le1 0 mi (h.gon x 0 rfl)) (va (I f) (va (v3) (bn H fun b1 q0 H=>vx (ixO mi t q0) ?_)));obtain ⟨i,rfl⟩:=((j.mono d)).form;have U:=h.borrow 1 x rfl;refine bn H fun A s0 H=>md (Own.stW (R:=(RP 0)) (T:=168) (us:=[.pointer i]) (x':=g) (u:= .pointer i) 0 U (by kernel_rfl) rfl t s0 rfl (by kernel_rfl) ⟨j.m.one,trivial⟩ rfl ⟨(.pointer i),rfl,j.m⟩) ?_;rintro f0 w0 ⟨y,X,u0⟩;have Z:=X.giveB 1 rfl;refine bn H fun D v0 H=>?_;obtain ⟨E,a0,b0,g1,c1⟩:=Rel.put_grid_Grid Z (e.mono (d.trans w0)) (E':=[(Eb b 176 [v42]),es true (RP 0) v42 168 y A]) v0 ⟨b,v42,y,(tm s),rfl,u0⟩;refine wln (sr (va (B true) (wln (W.ret ?_))));obtain rfl:=si H;exact r1 (qq f0 ⟨E,a0,b0,rfl⟩)
def eB (sg:Sto) (p0:gL) (p1:Option Nat) (p2:List (Option Nat)):Option (Sto):=
 (cJ (σ:=Int×Sto) (τ:=Sto) (((p2.length:Int) - 0).toNat+1) (fun a=>
 if (decide (a.1 < (p2.length:Int)))=true then
 (idx p2 a.1).bind fun c=>
 (eu a.2 p1 (w64 (p0.from_+a.1)) c).bind fun d=>
 some (.inl ((w64 (a.1+1)),d.1))
 else
 some (.inr (a.2))) (0,sg)).bind fun b=>
 (bv b p1 (w64 (p0.from_ - 1))).bind fun e=>
 (eP b e false).bind fun f=>
 some f
theorem mR (O0:Own c0 G F) (R0:Rel c0 sg G) (b:gL) (g:Option Nat) (h:List (Option Nat)) {r:Sto} (h2:Pt 1 c0 v1 g) (s:Sl (RP 0) c0 v3 h) (H:eB sg b g h=some r): Calls prog 239 #[.agg #[I b.from_,I b.to_,I b.n],v1,v3] c0.w (aT c0 fun c v=>∃G_:Gm,Own c G_ (F)∧Rel c r G_∧v= .tuple #[]):=by
 unfold eB at H;refine en func239 rfl rfl (sr (me (bx 300 [I b.from_,I b.to_,I b.n] O0) ?_));rintro v9 q l8 ⟨f,rfl,O6,m7⟩;refine wln (W.seq (sr (va (v3) (vx (ln 3 mi s.m) (va (I 0) (wln (W.block (bn H fun h1 o d=>lp o (fun a=>Jn q fun c l=>∃G_,Own c G_ (F)∧l= [(1,v1),(3,Q f),(8,v3),(9,I (h.length:Int)),(10,I a.1)]∧Rel c a.2 G_) (fun t ex e w=>ex= .exit 0∧(Jn q fun c l=>∃G_,Own c G_ (F)∧l= [(1,v1),(3,Q f)]∧Rel c t G_) e w) ?_ ?_ ?_))))))))
 ·clear d o;intro a i1 X l0 H;revert X l0;rintro e_ w_ ⟨S,b1,_,rfl,i0,rfl,y,i,rfl,j⟩;refine sr (va (B (decide (a.1 < (h.length:Int)))) (wln (W.seq (cn H (fun Z H=>?_) (fun Z H=>?_)))))
  ·refine W.skip (nrm (W.seq (W.block (sr (va (I a.1) (bn H fun u p H=>?_))))));obtain ⟨u0,b0,j0⟩:=Sl.at (s.mono (l8.trans i0)) (bz p);obtain ⟨v23,rfl,d0⟩:=b0;refine vx (ix mi s.m p) (vx (l1 Aj (j0 0 _ rfl)) (va (I a.1) (va (v23) (wln (W.region (va (v1) (va (Q f) (vx (l1 u_3 ((mm m7) 0 _ rfl)) (va (I a.1) (va (I (w64 (b.from_+a.1))) (va (v23) (bn H fun w0 e0 H=>cl (pf i j g (w64 (b.from_+a.1)) u h2.m d0 e0) ?_))))))))))));rintro v31 T d1 ⟨z,D,P,rfl⟩;refine WL.nil (bkn (nrm (W.region (vv (I (w64 (a.1+1))) (WL.nil ?_)))));obtain rfl:=si H;exact ⟨_,rfl,jn T ⟨z,D,rfl,P⟩⟩
  refine W.exit (thx ?_);obtain rfl:=si H;exact ⟨_,rfl,rfl,jn S ⟨y,i,rfl,j⟩⟩
 ·exact jn q ⟨G,O6,rfl,R0.m⟩
 rintro _ e_ w_ ⟨rfl,z0,c1,_,rfl,e1,rfl,y0,E,rfl,k⟩;refine bke (nrm (W.region (va (v1) (va (Q f) (vx (l1 u_3 ((mm m7) 0 _ rfl)) (va (I (w64 (b.from_ - 1))) (bn d fun x f0 d=>cl (cM E k g (w64 (b.from_ - 1)) h2.m f0) ?_)))))));rintro v39 a1 f1 ⟨_,M,rfl,g0⟩;refine bn d fun x0 h0 d=>cl (lT M k.m x false g0 h0) ?_;rintro v53 U g1 ⟨A,N,R,rfl⟩;refine WL.nil ?_;obtain rfl:=si d;exact n0 (qq U ⟨A,N,R,rfl⟩)
def jG (sg:Sto) (p0:Option Nat) (p1:Int) (p2:Int):Option (List (Option Nat)):=
 (cJ (σ:=(List (Option Nat))×Int) (τ:=(List (Option Nat))) ((p2 - p1).toNat+1) (fun a=>
 if (decide (a.2 < p2))=true then
 (bv sg p0 a.2).bind fun b=>
 (app a.1 ([b]:List (Option Nat))).bind fun c=>
 some (.inl (c,(w64 (a.2+1))))
 else
 some (.inr (a.1))) (([]:List (Option Nat)),p1)).bind fun d=>
 some d
theorem qV (O0:Own c0 G F) (R0:Rel c0 sg G) (o:Option Nat) (f:Int) (d:Int) {r:List (Option Nat)} (h2:Pt 1 c0 v1 o) (H:jG sg o f d=some r): Calls prog 240 #[v1,I f,I d] c0.w (aT c0 fun c v=>∃q y2,Own c G (es true (RP 0) q 168 y2 r :: F)∧v=q∧OA (RP 0) c q y2 r):=by
 unfold jG at H;refine en func240 rfl rfl (sr (va (Y) (wln (sr (va (Y) (wln (W.seq (sr (vv (I f) (wln (W.block (bn H fun b1 T s=>lp T (fun a=>Jn c0 fun c l=>∃v5 g,Own c G (es true (RP 0) v5 168 g a.1 :: F)∧l= [(0,v1),(2,I d),(7,v5),(8,I a.2)]∧OA (RP 0) c v5 g a.1) (fun b ex e w=>ex= .exit 0∧(Jn c0 fun c l=>∃v7 h,Own c G (es true (RP 0) v7 168 h b :: F)∧l= [(7,v7)]∧OA (RP 0) c v7 h b) e w) ?_ ?_ ?_))))))))))))
 ·clear s T;intro a d1 N f0 H;revert N f0;rintro e_ w_ ⟨c9,u0,_,rfl,l9,rfl,v5,g,i,rfl,k⟩;refine W.seq (sr (va (I a.2) (va (I d) (va (B (decide (a.2 < d))) (wln (cn H (fun P H=>?_) (fun P H=>?_)))))))
  ·refine W.skip (nrm (W.seq (W.block (W.region (va (v5) (va (v1) (va (I a.2) (bn H fun p R H=>cl (cM i R0.m o a.2 h2.m R) ?_))))))));rintro v18 q0 w0 ⟨_,t,rfl,n⟩;obtain ⟨j,rfl⟩:=(n).form;refine me (sl (RP 0) 168 [[.pointer j]] ([p]:List (Option Nat)) t ⟨⟨(.pointer j),rfl,n⟩,trivial⟩) ?_;rintro v31 s0 x0 ⟨c1,u,S⟩;obtain ⟨t0,X,y0,x,U⟩:=u.frz 0 rfl S;refine WL.gh X (bn H fun o0 Z H=>me (ap (RP 0) (.pointer none) 8 174 1 x k.m U Z mi) ?_);rintro v41 E z0 ⟨e0,y,a0⟩;refine va (v41) (WL.nil (bkn (nrm (W.region (va (I a.2) (vv (I (w64 (a.2+1))) (WL.nil ?_)))))));obtain rfl:=si H;refine ⟨_,rfl,?_⟩;have z:=y.sD 2 [1];exact jn E ⟨v41,e0,z,rfl,a0⟩
  refine W.exit (thx ?_);obtain rfl:=si H;exact ⟨_,rfl,rfl,jn c9 ⟨v5,g,i,rfl,k⟩⟩
 ·have b0:OA (RP 0) c0 (Y) [] []:=OA.nil (aX _);have A:=O0.addHole (e:=es true (RP 0) (Y) 168 [] ([]:List (Option Nat))) rfl;exact jn c0 ⟨(Y),[],A,rfl,b0⟩
 rintro _ e_ w_ ⟨rfl,M,v0,_,rfl,a1,rfl,v7,h,D,rfl,d0⟩;refine bke (nrm (sr (vv (v7) (wln (W.ret ?_)))));obtain rfl:=si s;exact r1 (qq M ⟨v7,h,D,rfl,d0⟩)
def bX (sg:Sto) (p0:Option Nat):Option (Int):=
 (bv sg p0 0).bind fun a=>
 (bN sg a).bind fun b=>
 some b
theorem cC (i:Own c0 G F) (d:Rel c0 sg G) (a:Option Nat) {r:Int} (k:Pt 1 c0 v1 a) (H:bX sg a=some r): Calls prog 77 #[v1] c0.w (aT c0 fun c v=>Own c G (F)∧v=I r):=by
 unfold bX at H;refine en func77 rfl rfl (sr (va (I 0) (wln (sr (va (v1) (bn H fun g l H=>cl (cM i d a 0 k l) ?_))))));rintro v4 o p ⟨_,j,rfl,n⟩;refine bn H fun h f H=>cl (cr j d.m g n f) ?_;rintro v18 e q ⟨b,rfl⟩;refine va (I h) (wln (W.ret ?_));obtain rfl:=si H;exact r1 (qq e ⟨b,rfl⟩)
def iA (sg:Sto) (p0:Option Nat) (p1:Int):Option (Sto×(List (Option Nat))):=
 (cJ (σ:=(List (Option Nat))×Int×Sto) (τ:=((List (Option Nat))×Sto)) ((p1 - 0).toNat+1) (fun a=>
 if (decide (a.2.1 < p1))=true then
 (bX a.2.2 p0).bind fun d=>
 (ku a.2.2 d).bind fun b=>
 (app a.1 ([b.2]:List (Option Nat))).bind fun e=>
 some (.inl (e,(w64 (a.2.1+1)),b.1))
 else
 some (.inr (a.1,a.2.2))) (([]:List (Option Nat)),0,sg)).bind fun c=>
 some (c.2,c.1)
theorem oY (O0:Own c0 G F) (R0:Rel c0 sg G) (p:Option Nat) (f:Int) {r:Sto×(List (Option Nat))} (h2:Pt 1 c0 v1 p) (H:iA sg p f=some r): Calls prog 241 #[v1,I f] c0.w (aT c0 fun c v=>∃t y2,∃G_:Gm,Own c G_ (es true (RP 0) t 168 y2 r.2 :: F)∧Rel c r.1 G_∧dZ G G_∧v=t∧OA (RP 0) c t y2 r.2):=by
 unfold iA at H;refine en func241 rfl rfl (sr (va (Y) (wln (sr (va (Y) (wln (W.seq (sr (va (I f) (va (I 0) (wln (W.block (bn H fun t1 h3 z=>lp h3 (fun a=>Jn c0 fun c l=>∃v5 g G_,Own c G_ (es true (RP 0) v5 168 g a.1 :: F)∧l= [(0,v1),(5,v5),(6,I f),(7,I a.2.1)]∧Rel c a.2.2 G_∧dZ G G_∧OA (RP 0) c v5 g a.1) (fun b ex e w=>ex= .exit 0∧(Jn c0 fun c l=>∃v7 h G_,Own c G_ (es true (RP 0) v7 168 h b.1 :: F)∧l= [(5,v7)]∧Rel c b.2 G_∧dZ G G_∧OA (RP 0) c v7 h b.1) e w) ?_ ?_ ?_)))))))))))))
 ·clear z h3;intro a w1 e0 u0 H;revert e0 u0;rintro e_ w_ ⟨c9,h1,_,rfl,l9,rfl,v5,g,u,i,rfl,d,j,n⟩;refine sr (va (B (decide (a.2.1 < f))) (wln (W.seq (cn H (fun f0 H=>?_) (fun f0 H=>?_)))))
  ·refine W.skip (nrm (W.seq (W.block (W.region (va (v5) (va (v1) (bn H fun q g0 H=>cl (cC i d p h2.m g0) ?_)))))));rintro v23 d1 j1 ⟨A,rfl⟩;refine bn H fun s h0 H=>cl (tc A d.m q h0) ?_;rintro v25 e1 k1 ⟨_,x,D,T,X,rfl,o⟩;have Z:=j.trans X;obtain ⟨k,rfl⟩:=(o).form;refine me (sl (RP 0) 168 [[.pointer k]] ([s.2]:List (Option Nat)) D ⟨⟨(.pointer k),rfl,o⟩,trivial⟩) ?_;rintro v39 f1 m1 ⟨u1,E,j0⟩;obtain ⟨g1,l0,n1,M,k0⟩:=E.frz 0 rfl j0;refine WL.gh l0 (bn H fun c1 m0 H=>me (ap (RP 0) (.pointer none) 8 174 1 M n.m k0 m0 mi) ?_);rintro v49 b0 q1 ⟨t0,N,o0⟩;refine va (v49) (WL.nil (bkn (nrm (W.region (vv (I (w64 (a.2.1+1))) (WL.nil ?_))))));obtain rfl:=si H;refine ⟨_,rfl,?_⟩;have P:=N.sD 2 [1];exact jn b0 ⟨v49,t0,x,P,rfl,T.m,Z,o0⟩
  refine W.exit (thx ?_);obtain rfl:=si H;exact ⟨_,rfl,rfl,jn c9 ⟨v5,g,u,i,rfl,d,j,n⟩⟩
 ·have q0:OA (RP 0) c0 (Y) [] []:=OA.nil (aX _);have R:=O0.addHole (e:=es true (RP 0) (Y) 168 [] ([]:List (Option Nat))) rfl;exact jn c0 ⟨(Y),[],G,R,rfl,R0,(dZ.refl _),q0⟩
 rintro _ e_ w_ ⟨rfl,d0,i1,_,rfl,s1,rfl,v7,h,y,S,rfl,U,a0,s0⟩;refine bke (nrm (sr (vv (v7) (wln (W.ret ?_)))));obtain rfl:=si z;exact r1 (qq d0 ⟨v7,h,y,S,U,a0,rfl,s0⟩)
def jX (sg:Sto) (p0:Option Nat) (p1:Int) (p2:Int) (p3:Int):Option (Sto):=
 (lj sg p0 p1 p2 p3).bind fun a=>
 if a.2=true then
 (jG sg p0 (w64 (a.1.from_+a.1.n)) a.1.to_).bind fun c=>
 (iA sg p0 a.1.n).bind fun b=>
 (app c b.2).bind fun d=>
 (eB b.1 a.1 p0 d).bind fun e=>
 some e
 else
 some sg
theorem qg (O0:Own c0 G F) (h:Rel c0 sg G) (g:Option Nat) (k:Int) (l:Int) (o:Int) {r:Sto} (j:Pt 1 c0 v1 g) (H:jX sg g k l o=some r): Calls prog 188 #[v1,I k,I l,I o] c0.w (aT c0 fun c v=>∃G_:Gm,Own c G_ (F)∧Rel c r G_∧v= .tuple #[]):=by
 unfold jX at H;refine en func188 rfl rfl (sr (va (v1) (va (I k) (va (I l) (va (I o) (bn H fun a h3 H=>cl (tG O0 h g k l o j h3) ?_))))));rintro v9 c8 l8 ⟨O5,rfl⟩;refine va (.tuple #[.agg #[I a.1.from_,I a.1.to_,I a.1.n],B a.2]) (va (.agg #[I a.1.from_,I a.1.to_,I a.1.n]) (va (B a.2) (me (al 300 [I 0,I 0,I 0] O5) ?_)));rintro v13 j1 k1 ⟨b,rfl,M⟩;refine md (sA 300 [I a.1.from_,I a.1.to_,I a.1.n] 0 M ⟨rfl,rfl,rfl,trivial⟩) ?_;rintro T m1 p;refine va (B a.2) (wln (sr (va (B a.2) (wln (cn H (fun e0 H=>?_) (fun e0 H=>?_))))))
 ·refine rD [] (Kp G0 [(Eb b 300 [I a.1.from_,I a.1.to_,I a.1.n])]) p ?_;intro U n1 q;have e:Kp G0 [(Eb b 300 [I a.1.from_,I a.1.to_,I a.1.n])] U:=(Kp.cons (q.on 0 rfl) Kp.nil0);refine tkx 0 e (fun i f d=>leN 300 0 [I a.1.from_,I a.1.to_,I a.1.n] (d.on 0 rfl)) (ta 1 (v1) (ta 2 (v1) (ta 3 (Q b) (tkx 4 e (fun i f d=>le1 0 u_3 (d.on 0 rfl)) (ta 5 (Qo b 2) (tkx 6 e (fun i f d=>le1 2 u_3 (d.on 0 rfl)) (ta 7 (I (w64 (a.1.from_+a.1.n))) (ta 8 (Qo b 1) (tkx 9 e (fun i f d=>le1 1 u_3 (d.on 0 rfl)) (ta 11 (v1) (ta 12 (Qo b 2) (tkx 13 e (fun i f d=>le1 2 u_3 (d.on 0 rfl)) (bn H fun e1 f0 H=>o1 10 (gc 10 (qV q h.m g (w64 (a.1.from_+a.1.n)) a.1.to_ j.m f0) ?_))))))))))))));rintro v21 X q1 ⟨_,w1,s,rfl,g0⟩;have v0:Kp G0 [(Eb b 300 [I a.1.from_,I a.1.to_,I a.1.n])] X:=(Kp.cons (s.on 1 rfl) Kp.nil0);refine ⟨.inr v0,bn H fun f1 h0 H=>o1 14 (gc 14 (oY s h.m g a.1.n j.m h0) ?_)⟩;rintro v32 Z s1 ⟨_,x1,h1,t,R,i1,rfl,i0⟩;have w0:Kp G0 [(Eb b 300 [I a.1.from_,I a.1.to_,I a.1.n])] Z:=(Kp.cons (t.on 2 rfl) Kp.nil0);refine ⟨.inr w0,?_⟩;obtain ⟨a0,k0,t0,u,j0⟩:=t.frz 0 rfl i0;have x0:Kp G0 [(Eb b 300 [I a.1.from_,I a.1.to_,I a.1.n])] a0:=(Kp.cons (u.on 2 rfl) Kp.nil0);refine AC.gh k0 t0 (fun _=>x0) (bn H fun D l0 H=>o1 15 (gm 15 (ap (RP 0) (.pointer none) 8 174 1 u g0.m j0 l0 mi) ?_));rintro v52 b0 t1 ⟨y1,x,m0⟩;have y0:Kp G0 [(Eb b 300 [I a.1.from_,I a.1.to_,I a.1.n])] b0:=(Kp.cons (x.on 2 rfl) Kp.nil0);refine ⟨.inr y0,?_⟩;obtain ⟨d0,q0,u0,y,o0⟩:=x.frz 1 rfl m0;have z0:Kp G0 [(Eb b 300 [I a.1.from_,I a.1.to_,I a.1.n])] d0:=(Kp.cons (y.on 2 rfl) Kp.nil0);refine AC.gh q0 u0 (fun _=>z0) (bn H fun g1 s0 H=>o1 16 (gc 16 (mR y R.m a.1 g D j.m o0 s0) ?_));rintro z1 A u1 ⟨E,z,S,rfl⟩;have a1:Kp G0 [(Eb b 300 [I a.1.from_,I a.1.to_,I a.1.n])] A:=(Kp.cons (z.on 2 rfl) Kp.nil0);refine ⟨.inr a1,dn ?_⟩;obtain rfl:=si H;have N:=z.sD 3 [];exact n0 (qq A ⟨E,N,S,rfl⟩)
 refine W.skip ?_;obtain rfl:=si H;have P:=p.sD 1 [];exact n0 (qq T ⟨G,P,h.m,rfl⟩)
def jH (sg:Sto) (p0:Option Nat) (p1:Int) (p2:Int) (p3:Int):Option (Sto):=
 (lj sg p0 p1 p2 p3).bind fun a=>
 if a.2=true then
 (iA sg p0 a.1.n).bind fun b=>
 (jG b.1 p0 a.1.from_ (w64 (a.1.to_ - a.1.n))).bind fun d=>
 (app b.2 d).bind fun e=>
 (eB b.1 a.1 p0 e).bind fun c=>
 (bv c p0 (w64 (a.1.to_ - 1))).bind fun f=>
 (eP c f false).bind fun g=>
 some g
 else
 some sg
theorem qW (O0:Own c0 G F) (D:Rel c0 sg G) (f:Option Nat) (k:Int) (l:Int) (o:Int) {r:Sto} (i:Pt 1 c0 v1 f) (H:jH sg f k l o=some r): Calls prog 189 #[v1,I k,I l,I o] c0.w (aT c0 fun c v=>∃G_:Gm,Own c G_ (F)∧Rel c r G_∧v= .tuple #[]):=by
 unfold jH at H;refine en func189 rfl rfl (sr (va (v1) (va (I k) (va (I l) (va (I o) (bn H fun a h3 H=>cl (tG O0 D f k l o i h3) ?_))))));rintro v9 c8 l8 ⟨O5,rfl⟩;refine va (.tuple #[.agg #[I a.1.from_,I a.1.to_,I a.1.n],B a.2]) (va (.agg #[I a.1.from_,I a.1.to_,I a.1.n]) (va (B a.2) (me (al 300 [I 0,I 0,I 0] O5) ?_)));rintro v13 y1 b2 ⟨b,rfl,P⟩;refine md (sA 300 [I a.1.from_,I a.1.to_,I a.1.n] 0 P ⟨rfl,rfl,rfl,trivial⟩) ?_;rintro Z c2 p;refine va (B a.2) (wln (sr (va (B a.2) (wln (cn H (fun j0 H=>?_) (fun j0 H=>?_))))))
 ·refine W.seq (rD [] (Kp G0 [(Eb b 300 [I a.1.from_,I a.1.to_,I a.1.n])]) p ?_);intro a0 d2 q;have e:Kp G0 [(Eb b 300 [I a.1.from_,I a.1.to_,I a.1.n])] a0:=(Kp.cons (q.on 0 rfl) Kp.nil0);refine tkx 0 e (fun j g d=>leN 300 0 [I a.1.from_,I a.1.to_,I a.1.n] (d.on 0 rfl)) (ta 1 (v1) (ta 2 (v1) (ta 3 (Qo b 2) (tkx 4 e (fun j g d=>le1 2 u_3 (d.on 0 rfl)) (ta 6 (v1) (ta 7 (Q b) (tkx 8 e (fun j g d=>le1 0 u_3 (d.on 0 rfl)) (ta 9 (Qo b 1) (tkx 10 e (fun j g d=>le1 1 u_3 (d.on 0 rfl)) (ta 11 (Qo b 2) (tkx 12 e (fun j g d=>le1 2 u_3 (d.on 0 rfl)) (ta 13 (I (w64 (a.1.to_ - a.1.n))) (bn H fun n1 k0 H=>o1 5 (gc 5 (oY q D.m f a.1.n i.m k0) ?_))))))))))))));rintro v21 b0 e2 ⟨_,l2,u1,s,z,x1,rfl,l0⟩;have d1:Kp G0 [(Eb b 300 [I a.1.from_,I a.1.to_,I a.1.n])] b0:=(Kp.cons (s.on 1 rfl) Kp.nil0);refine ⟨.inr d1,bn H fun q1 m0 H=>o1 14 (gc 14 (qV s z f a.1.from_ (w64 (a.1.to_ - a.1.n)) i.m m0) ?_)⟩;rintro v32 d0 f2 ⟨_,m2,t,rfl,o0⟩;have e1:Kp G0 [(Eb b 300 [I a.1.from_,I a.1.to_,I a.1.n])] d0:=(Kp.cons (t.on 2 rfl) Kp.nil0);refine ⟨.inr e1,?_⟩;obtain ⟨e0,s0,b1,u,q0⟩:=t.frz 0 rfl o0;have f1:Kp G0 [(Eb b 300 [I a.1.from_,I a.1.to_,I a.1.n])] e0:=(Kp.cons (u.on 2 rfl) Kp.nil0);refine AC.gh s0 b1 (fun _=>f1) (bn H fun E t0 H=>o1 15 (gm 15 (ap (RP 0) (.pointer none) 8 174 1 u l0.m q0 t0 mi) ?_));rintro v52 f0 g2 ⟨n2,x,u0⟩;have g1:Kp G0 [(Eb b 300 [I a.1.from_,I a.1.to_,I a.1.n])] f0:=(Kp.cons (x.on 2 rfl) Kp.nil0);refine ⟨.inr g1,?_⟩;obtain ⟨g0,w0,c1,y,v0⟩:=x.frz 1 rfl u0;have h1:Kp G0 [(Eb b 300 [I a.1.from_,I a.1.to_,I a.1.n])] g0:=(Kp.cons (y.on 2 rfl) Kp.nil0);refine AC.gh w0 c1 (fun _=>h1) (bn H fun s1 x0 H=>o1 16 (gc 16 (mR y z.m a.1 f E i.m v0 x0) ?_));rintro o2 h0 i2 ⟨w1,h,A,rfl⟩;have i1:Kp G0 [(Eb b 300 [I a.1.from_,I a.1.to_,I a.1.n])] h0:=(Kp.cons (h.on 2 rfl) Kp.nil0);refine ⟨.inr i1,dn (nrm (W.region (va (v1) (va (Qo b 1) (vx (le1 1 u_3 (h.on 2 rfl)) (va (I (w64 (a.1.to_ - 1))) (bn H fun M y0 H=>cl (cM h A f (w64 (a.1.to_ - 1)) i.m y0) ?_)))))))⟩;rintro q2 z1 j2 ⟨_,R,rfl,z0⟩;refine bn H fun t1 a1 H=>cl (lT R A.m M false z0 a1) ?_;rintro s2 i0 k2 ⟨N,S,X,rfl⟩;refine WL.nil ?_;obtain rfl:=si H;have T:=S.sD 3 [];exact n0 (qq i0 ⟨N,T,X,rfl⟩)
 refine W.skip ?_;obtain rfl:=si H;have U:=p.sD 1 [];exact n0 (qq Z ⟨G,U,D.m,rfl⟩)
def iJ (sg:Sto) (p0:Option Nat):Option (List am):=
 (bL sg p0).bind fun c=>
 (cJ (σ:=(List am)×Int) (τ:=(List am)) ((c - 0).toNat+1) (fun a=>
 if (decide (a.2 < c))=true then
 (p0).bind fun d=>
 (sg.grid_Grid[d]?).bind fun b=>
 (idx b.rows a.2).bind fun e=>
 (idx b.rows a.2).bind fun f=>
 (er sg e).bind fun g=>
 (iY sg f).bind fun h=>
 (app a.1 ([(⟨g,h⟩:am)]:List am)).bind fun i=>
 some (.inl (i,(w64 (a.2+1))))
 else
 some (.inr (a.1))) (([]:List am),0)).bind fun j=>
 some j
theorem sE (O0:Own c0 G F) (z:Rel c0 sg G) (p0:Option Nat) {r:List am} (h2:Pt 1 c0 v1 p0) (H:iJ sg p0=some r): Calls prog 79 #[v1] c0.w (aT c0 fun c v=>∃y1 y2,Own c G (es true cY y1 48 y2 r :: F)∧v=y1∧OA cY c y1 y2 r):=by
 unfold iJ at H;refine en func79 rfl rfl (sr (va (Y) (wln (sr (va (Y) (wln (W.seq (sr (va (v1) (bn H fun g0 h3 H=>cl (bF O0 z p0 h2 h3) ?_))))))))));rintro v9 A l8 ⟨O5,rfl⟩;refine va (I 0) (wln (W.block (bn H fun j3 Z D=>lp Z (fun a=>Jn A fun c l=>∃v12 n,Own c G (es true cY v12 48 n a.1 :: F)∧l= [(0,v1),(3,v12),(6,I g0),(7,I a.2)]∧OA cY c v12 n a.1) (fun y ex e w=>ex= .exit 0∧(Jn A fun c l=>∃v14 o,Own c G (es true cY v14 48 o y :: F)∧l= [(3,v14)]∧OA cY c v14 o y) e w) ?_ ?_ ?_)))
 ·clear D Z;intro a p3 a1 o2 H;revert a1 o2;rintro e_ w_ ⟨s0,c3,_,rfl,l16,rfl,v12,n,E,rfl,a0⟩;refine sr (va (B (decide (a.2 < g0))) (wln (W.seq (cn H (fun c1 H=>?_) (fun c1 H=>?_)))))
  ·refine W.skip (nrm (W.seq (W.block (sr (vv (I a.2) (wln (rD [] (Kp G []) E ?_)))))));intro t0 d0 M;have k:Kp G [] t0:=(Kp.nil M);refine ta 0 (v12) (ta 1 (v1) (bn H fun v2 e1 H=>?_));obtain ⟨d,rfl,d1⟩:=((h2.mono (l8.trans (l16.trans d0)))).get e1;refine ta 2 (Q d) (ta 3 (Q d) (bn H fun z2 f1 H=>?_));obtain ⟨v31,k3,i,b⟩:=Rel.open_grid_Grid (z.mono (l8.trans (l16.trans d0))) f1 d1;refine tkx 4 k (fun t f g=>le1 0 mi (g.gon i 0 rfl)) (ta 5 (I a.2) (bn H fun i0 u H=>tx 6 (fun t f=>ixO mi b u) ?_));obtain ⟨w2,g1,e2⟩:=OA.at b u;obtain ⟨v39,rfl,h1⟩:=g1;refine AC.takeK 7 (v39) k rfl (by kernel_rfl) (by kernel_rfl) (by kernel_rfl) (fun t f g=>(rx (by kernel_rfl) (ry Aj rfl (g.gon i 1 rfl) (b.blk u) (at1 (j:=0) e2 rfl)))) (ta 9 (Q d) (ta 10 (Q d) (ta 11 (Q d) (tkx 12 k (fun t f g=>le1 0 mi (g.gon i 0 rfl)) (ta 13 (I a.2) (bn H fun j0 x H=>tx 14 (fun t f=>ixO mi b x) ?_))))));obtain ⟨x2,i1,f2⟩:=OA.at b x;obtain ⟨v45,rfl,j1⟩:=i1;refine AC.takeK 15 (v45) k rfl (by kernel_rfl) (by kernel_rfl) (by kernel_rfl) (fun t f g=>(rx (by kernel_rfl) (ry Aj rfl (g.gon i 1 rfl) (b.blk x) (at1 (j:=0) f2 rfl)))) (bn H fun k0 k1 H=>o1 8 (gc 8 (kW M z.m i0 h1 k1) ?_));rintro v48 u0 e3 ⟨_,l3,N,rfl,b0⟩;have g2:Kp G [] u0:=(Kp.nil N);refine ⟨.inr g2,bn H fun h m1 H=>o1 16 (gc 16 (vt N z.m j0 j1.m m1) ?_)⟩;rintro n3 v0 e0 ⟨P,rfl⟩;have i2:Kp G [] v0:=(Kp.nil P);refine ⟨.inr i2,?_⟩;obtain ⟨p,q,s,rfl⟩:=((b0.mono e0)).form;refine ta 17 (.agg #[.slice p q s,B h]) ?_;obtain ⟨w0,p1,b2,R,n1⟩:=P.frz 0 rfl (b0.mono e0);have j2:Kp G [] w0:=(Kp.nil R);refine AC.gh p1 b2 (fun _=>j2) (o1 18 (gm 18 (sl cY 48 [[.slice p q s,B h]] ([(⟨k0,h⟩:am)]:List am) R ⟨⟨(.slice p q s),rfl,n1⟩,trivial⟩) ?_));rintro o3 x0 f3 ⟨m3,S,q1⟩;have k2:Kp G [] x0:=(Kp.nil S);refine ⟨.inr k2,?_⟩;obtain ⟨y0,t1,d2,T,s1⟩:=S.frz 0 rfl q1;have l2:Kp G [] y0:=(Kp.nil T);refine AC.gh t1 d2 (fun _=>l2) (bn H fun b3 u1 H=>o1 19 (gm 19 (ap cY (.agg #[Y,B false]) 32 27 2 T a0.m s1 u1 A0) ?_));rintro f0 X g3 ⟨n2,U,w1⟩;have m2:Kp G [] X:=(Kp.nil U);refine ⟨.inr m2,ta 20 (f0) (dn (bkn (nrm (W.region (vv (I (w64 (a.2+1))) (WL.nil ?_))))))⟩;obtain rfl:=si H;refine ⟨_,rfl,?_⟩;have m0:=U.sD 3 [2];exact jn X ⟨f0,n2,m0,rfl,w1⟩
  refine W.exit (thx ?_);obtain rfl:=si H;exact ⟨_,rfl,rfl,jn s0 ⟨v12,n,E,rfl,a0⟩⟩
 ·have x1:OA cY A (Y) [] []:=OA.nil (aX _);have o0:=O5.addHole (e:=es true cY (Y) 48 [] ([]:List am)) rfl;exact jn A ⟨(Y),[],o0,rfl,x1⟩
 rintro _ e_ w_ ⟨rfl,z0,d3,_,rfl,i3,rfl,v14,o,q0,rfl,z1⟩;refine bke (nrm (sr (vv (v14) (wln (W.ret ?_)))));obtain rfl:=si D;exact r1 (qq z0 ⟨v14,o,q0,rfl,z1⟩)
def fP (p0:List am) (p1:Int) (p2:Int) (p3:Int) (p4:Bool):Option (List am):=
 (orE (decide ((aV 0 (aL p1 (p0.length:Int)))≥(aV 0 (aL p2 (p0.length:Int))))) (some (decide (p3 < 1)))).bind fun j=>
 if j=true then
 some p0
 else
 (cJ (σ:=(List am)×Int) (τ:=(List am)) (((p0.length:Int) - 0).toNat+1) (fun a=>
 if (decide (a.2 < (p0.length:Int)))=true then
 (idx p0 a.2).bind fun c=>
 ((bT (decide (a.2≥(aV 0 (aL p1 (p0.length:Int))))) (some (decide (a.2 < (aV 0 (aL p2 (p0.length:Int))))))).bind fun k=>
 if k=true then
 (if (!p4)=true then
 some ((w64 (a.2 - (aL p3 (w64 ((aV 0 (aL p2 (p0.length:Int))) - (aV 0 (aL p1 (p0.length:Int)))))))))
 else
 some ((w64 (a.2+(aL p3 (w64 ((aV 0 (aL p2 (p0.length:Int))) - (aV 0 (aL p1 (p0.length:Int)))))))))).bind fun b=>
 (idx p0 a.2).bind fun n=>
 (rep (n.Cells.length:Int) (⟨0,([]:List Int)⟩:aa)).bind fun o=>
 (bT (decide (b≥(aV 0 (aL p1 (p0.length:Int))))) (some (decide (b < (aV 0 (aL p2 (p0.length:Int))))))).bind fun l=>
 if l=true then
 (idx p0 b).bind fun d=>
 some (d.Cells,d.Wrap)
 else
 some (o,false)
 else
 some (c.Cells,c.Wrap)).bind fun e=>
 ((orE ((w64 (a.2+1))==(aV 0 (aL p1 (p0.length:Int)))) ((bT (!p4) (some ((w64 (a.2+1))==(aV 0 (aL p2 (p0.length:Int)))))).bind fun g=>
 some g)).bind fun f=>
 if f=true then
 some (false)
 else
 some (e.2)).bind fun i=>
 (app a.1 ([(⟨e.1,i⟩:am)]:List am)).bind fun h=>
 some (.inl (h,(w64 (a.2+1))))
 else
 some (.inr (a.1))) (([]:List am),0)).bind fun m=>
 some m
def gJ (p0:List Int):Option (List Int):=
 (rep 0 0).bind fun g=>
 (rep (p0.length:Int) 0).bind fun h=>
 (cJ (σ:=(List Int)×Int) (τ:=(List Int)) (((p0.length:Int) - 0).toNat+1) (fun a=>
 if (decide (a.2 < (p0.length:Int)))=true then
 (idx p0 a.2).bind fun b=>
 ((dE b).bind fun d=>
 if (!d)=true then
 some (65533)
 else
 some (b)).bind fun f=>
 (app a.1 ([f]:List Int)).bind fun e=>
 some (.inl (e,(w64 (a.2+1))))
 else
 some (.inr (a.1))) (g,0)).bind fun c=>
 some c
theorem oC (O0:Own c0 G F) (n:List Int) {r:List Int} (p:Sl (RI .i32) c0 v1 n) (H:gJ n=some r): Calls prog 72 #[v1] c0.w (aT c0 fun c v=>∃P y2,Own c G (es true (RI .i32) P 21 y2 r :: F)∧v=P∧OA (RI .i32) c P y2 r):=by
 unfold gJ at H;refine en func72 rfl rfl (sr (va (Y) (wln (sr (va (v1) (vx (ln 3 cS p) (bn H fun b2 h3 H=>bn H fun d2 h4 H=>me (Own.mkS (kl:= .i64) (kc:= .i64) (R:=(RI .i32)) (z:=J 0) (lz:=[J 0]) (x:=0) (by_:=4) (i:=0) (j:=(n.length:Int)) true O0 (aX _) h3 (Gg h4) (zu h4) cS (by kernel_rfl) rfl rfl (fun _=>rfl) (by kernel_rfl) (by kernel_rfl)) ?_)))))));rintro v9 M l8 ⟨u6,O5,h7⟩;refine va (v9) (wln (W.seq (sr (va (v1) (vx (ln 3 cS p.m) (va (I 0) (wln (W.block (bn H fun f1 A q=>lp A (fun a=>Jn M fun c l=>∃v12 f,Own c G (es true (RI .i32) v12 21 f a.1 :: F)∧l= [(3,v12),(9,v1),(10,I (n.length:Int)),(11,I a.2)]∧OA (RI .i32) c v12 f a.1) (fun h ex e w=>ex= .exit 0∧(Jn M fun c l=>∃v14 k,Own c G (es true (RI .i32) v14 21 k h :: F)∧l= [(3,v14)]∧OA (RI .i32) c v14 k h) e w) ?_ ?_ ?_)))))))))
 ·clear q A;intro a c2 f0 x0 H;revert f0 x0;rintro e_ w_ ⟨u,m1,_,rfl,l16,rfl,v12,f,s,rfl,D⟩;refine sr (va (B (decide (a.2 < (n.length:Int)))) (wln (W.seq (cn H (fun g0 H=>?_) (fun g0 H=>?_)))))
  ·refine W.skip (nrm (W.seq (W.block (sr (bn H fun g E H=>?_)))));obtain ⟨e1,h0,u0⟩:=Sl.at (p.mono (l8.trans l16)) (bz E);obtain rfl:=h0;refine vx (ix cS p.m E) (vx (l1 mf (u0 0 _ rfl)) (va (J g) (wln (bn H fun d b o=>W.seqJ (Jn u fun c l=>Own c G (es true (RI .i32) v12 21 f a.1 :: F)∧l= [(3,v12),(5,J d),(9,v1),(10,I (n.length:Int)),(11,I a.2)]) ?_ ?_))))
   ·refine sr (va (J g) (bn b fun N i0 b=>cl (ki s g i0) ?_));rintro v36 y q1 ⟨t,rfl⟩;refine va (B (!N)) (wln (cn b (fun j0 b=>?_) (fun j0 b=>?_)))
    ·refine W.region (va (J 65533) (wln ?_));obtain rfl:=si b;exact jn y ⟨t,rfl⟩
    refine W.skip (nrm ?_);obtain rfl:=si b;exact jn y ⟨t,rfl⟩
   rintro e_ w_ ⟨i1,n1,_,rfl,s1,rfl,S,rfl⟩;refine W.region (va (v12) (va (J d) (me (sl (RI .i32) 21 [[J d]] ([d]:List Int) S ⟨rfl,trivial⟩) ?_)));rintro v48 j1 t1 ⟨z1,T,l0⟩;obtain ⟨k1,o0,u1,U,m0⟩:=T.frz 0 rfl l0;refine WL.gh o0 (bn o fun h1 q0 o=>me (ap (RI .i32) (J 0) 4 32 1 U D.m m0 q0 cS) ?_);rintro v58 b0 w1 ⟨v0,X,s0⟩;refine va (v58) (WL.nil (bkn (nrm (W.region (vv (I (w64 (a.2+1))) (WL.nil ?_))))));obtain rfl:=si o;refine ⟨_,rfl,?_⟩;have Z:=X.sD 2 [1];exact jn b0 ⟨v58,v0,Z,rfl,s0⟩
  refine W.exit (thx ?_);obtain rfl:=si H;exact ⟨_,rfl,rfl,jn u ⟨v12,f,s,rfl,D⟩⟩
 ·exact jn M ⟨v9,u6,O5,rfl,h7⟩
 rintro _ e_ w_ ⟨rfl,d0,p1,_,rfl,x1,rfl,v14,k,a0,rfl,t0⟩;refine bke (nrm (sr (vv (v14) (wln (W.ret ?_)))));obtain rfl:=si q;exact r1 (qq d0 ⟨v14,k,a0,rfl,t0⟩)
def oy (p0:Int) (p1:List Int):Option (List aa):=
 (if (decide (p0≥2))=true then
 (app ([(⟨0,([]:List Int)⟩:aa)]:List aa) ([(⟨0,([]:List Int)⟩:aa)]:List aa)).bind fun e=>
 some (e)
 else
 some (([(⟨0,([]:List Int)⟩:aa)]:List aa))).bind fun c=>
 if ((p1.length:Int)==0)=true then
 some c
 else
 (slc p1 0 (aL (p1.length:Int) 16)).bind fun f=>
 (gJ f).bind fun g=>
 (idx c 0).bind fun k=>
 (nF c 0 (⟨1,g⟩:aa)).bind fun a=>
 (if (decide (p0≥2))=true then
 (idx a 0).bind fun h=>
 (nF a 0 (⟨2,h.Text⟩:aa)).bind fun b=>
 (idx b 1).bind fun i=>
 (nF b 1 (⟨3,i.Text⟩:aa)).bind fun d=>
 some (d)
 else
 some (a)).bind fun j=>
 some j
theorem B3 (O0:Own c0 G F) (i:Int) (A:List Int) {r:List aa} (h2:Sl (RI .i32) c0 v1 A) (H:oy i A=some r): Calls prog 235 #[I i,v1] c0.w (aT c0 fun c v=>∃y1 y2,Own c G (es true az y1 114 y2 r :: F)∧v=y1∧OA az c y1 y2 r):=by
 unfold oy at H;refine en func235 rfl rfl (sr (va (Y) (wln (sr (va (.agg #[I 0,Y]) (me (sl az 114 [[I 0,Y]] ([(⟨0,([]:List Int)⟩:aa)]:List aa) O0 ⟨⟨(Y),rfl,(Sl.nl _ _)⟩,trivial⟩) ?_))))));rintro v7 c6 l6 ⟨u4,O3,h5⟩;refine va (v7) (wln (bn H fun a0 h b=>W.seqJ (Jn c6 fun c l=>∃v10 n,Own c G (es true az v10 114 n a0 :: F)∧l= [(0,I i),(1,v1),(5,v10)]∧OA az c v10 n a0) ?_ ?_))
 ·refine sr (va (I i) (va (B (decide (i≥2))) (wln (cn h (fun b1 h=>?_) (fun b1 h=>?_)))))
  ·refine W.region (va (v7) (va (.agg #[I 0,Y]) (me (sl az 114 [[I 0,Y]] ([(⟨0,([]:List Int)⟩:aa)]:List aa) O3 ⟨⟨(Y),rfl,(Sl.nl _ _)⟩,trivial⟩) ?_)));rintro v17 d3 l16 ⟨t3,h0,c1⟩;obtain ⟨e3,e1,k3,i0,d1⟩:=h0.frz 0 rfl c1;refine WL.gh e1 (bn h fun b3 f1 h=>me (ap az (.agg #[I 0,Y]) 32 46 1 i0 h5.m d1 f1 eH) ?_);rintro v27 w0 l3 ⟨k2,j0,g1⟩;refine va (v27) (wln ?_);obtain rfl:=si h;have k0:=j0.sD 2 [1];exact jn w0 ⟨v27,k2,k0,rfl,g1⟩
  refine W.skip (nrm ?_);obtain rfl:=si h;exact jn c6 ⟨v7,u4,O3,rfl,h5⟩
 rintro e_ w_ ⟨x0,i3,_,rfl,g2,rfl,v10,n,D,rfl,p⟩;refine W.seq (sr (va (v1) (vx (ln 3 cS h2.m) (va (B ((A.length:Int)==0)) (wln (cn b (fun h1 b=>?_) (fun h1 b=>?_)))))))
 ·refine sr (vv (v10) (wln (W.ret (thr ?_))));obtain rfl:=si b;exact r1 (qq x0 ⟨v10,n,D,rfl,p⟩)
 refine W.skip (nrm (sr (va (v10) (vv (v1) (vx (ln 3 cS h2.m) (va (I (aL (A.length:Int) 16)) (bn b fun e0 i1 b=>?_)))))));obtain ⟨v38,j1,k1⟩:=rT (k':= .i64) cS (by kernel_rfl) (h2.mono (l6.trans g2)) i1;refine vr v38 (rx (by kernel_rfl) (j1 _)) (bn b fun s m1 b=>cl (oC D e0 k1 m1) ?_);rintro v42 f3 m3 ⟨_,l2,m0,rfl,N⟩;obtain ⟨e,f,g,rfl⟩:=(N).form;refine va (.agg #[I 1,.slice e f g]) (bn b fun c3 q1 b=>vx (ixO eH p.m q1) ?_);obtain ⟨g3,s1,n3,o0,P⟩:=m0.frz 0 rfl N;refine WL.gh s1 (bn b fun x2 t1 b=>md (Own.stW (R:=az) (T:=114) (us:=[I 1,.slice e f g]) (x':=(⟨1,s⟩:aa)) (u:= .agg #[I 1,.slice e f g]) 1 o0 (by kernel_rfl) rfl p.m t1 rfl (by kernel_rfl) ⟨rfl,P.one,trivial⟩ rfl ⟨(.slice e f g),rfl,P⟩) ?_);rintro M o3 ⟨m2,E,k⟩;refine wln (bn b fun z a g0=>W.seqJ (Jn M fun c l=>∃d o,Own c G (es true az d 114 o z :: es false (RI .i32) (.slice e f g) 21 l2 s :: F)∧l= [(5,d)]∧OA az c d o z) ?_ ?_)
 ·refine sr (va (I i) (va (B (decide (i≥2))) (wln (cn a (fun u1 a=>?_) (fun u1 a=>?_)))))
  ·refine W.region (vv (v10) (bn a fun t S a=>vx (ixO eH k S) (va (Qo (sb v10) ((0:Int).toNat * 2)) ?_)));obtain ⟨t2,w1,i2⟩:=OA.at k S;obtain ⟨X,rfl,x1⟩:=w1;refine bn a fun z2 z1 a=>md (Own.stO (R:=az) (T:=3) (us:=[I 2]) (x':=(⟨2,t.Text⟩:aa)) (u:=I 2) (x:=(⟨2,t.Text⟩:aa)) (j:=0) (l':=[I 2,X]) 1 E (by kernel_rfl) rfl k z1 i2 rfl (by kernel_rfl) ⟨rfl,trivial⟩ (by kernel_rfl) rfl ⟨X,rfl,x1⟩) ?_;rintro h3 p3 ⟨u3,q0,q⟩;refine bn a fun y U a=>vx (ixO eH q U) (va (Qo (sb v10) ((1:Int).toNat * 2)) ?_);obtain ⟨u2,b2,j2⟩:=OA.at q U;obtain ⟨Z,rfl,c2⟩:=b2;refine bn a fun a3 d2 a=>md (Own.stO (R:=az) (T:=3) (us:=[I 3]) (x':=(⟨3,y.Text⟩:aa)) (u:=I 3) (x:=(⟨3,y.Text⟩:aa)) (j:=0) (l':=[I 3,Z]) 1 q0 (by kernel_rfl) rfl q d2 j2 rfl (by kernel_rfl) ⟨rfl,trivial⟩ (by kernel_rfl) rfl ⟨Z,rfl,c2⟩) ?_;rintro z0 q3 ⟨n2,s0,e2⟩;refine wln ?_;obtain rfl:=si a;have t0:=s0.sD 2 [1,0];exact jn z0 ⟨v10,n2,t0,rfl,e2⟩
  refine W.skip (nrm ?_);obtain rfl:=si a;have u0:=E.sD 2 [1,0];exact jn M ⟨v10,m2,u0,rfl,k⟩
 rintro e_ w_ ⟨a1,j3,_,rfl,s3,rfl,d,o,v0,rfl,f2⟩;refine sr (vv (d) (wln (W.ret ?_)));obtain rfl:=si g0;have b0:=v0.sD 2 [0];exact r1 (qq a1 ⟨d,o,b0,rfl,f2⟩)
def kY (sg:Sto) (p0:Option Nat) (p1:Int) (p2:Int) (p3:List Int):Option (Sto×Er):=
 (oy p2 p3).bind fun b=>
 (dK sg p0 p1 b).bind fun a=>
 some (a.1,a.2)
theorem vy (u:Own c0 G F) (x:Rel c0 sg G) (hG:Gl [2,4] c0) (d:Option Nat) (a:Int) (b:Int) (e:List Int) {r:Sto×Er} (y:Pt 0 c0 v1 d) (z:Sl (RI .i32) c0 v3 e) (H:kY sg d a b e=some r): Calls prog 178 #[v1,I a,I b,v3] c0.w (aT c0 fun c v=>∃t,∃G_:Gm,Own c G_ (F)∧Rel c r.1 G_∧v=t∧RE 350 144 c t r.2):=by
 unfold kY at H;refine en func178 rfl rfl (sr (va (.nilIface) (wln (sr (va (v1) (va (I a) (va (I b) (va (v3) (bn H fun s A H=>cl (B3 u b e z A) ?_)))))))));rintro v6 E N ⟨_,T,g,rfl,D⟩;obtain ⟨M,o,P,h,n⟩:=g.frz 0 rfl D;refine WL.gh o (bn H fun S p H=>cl (jA h x.m (hG.m.le (by decide)) d a s y.m n p) ?_);rintro v20 l R ⟨_,f,i,k,rfl,q⟩;refine va (v20) (wln (W.ret ?_));obtain rfl:=si H;have j:=i.sD 1 [];exact r1 (qq l ⟨v20,f,j,k,rfl,q⟩)
def oo (sg:Sto) (p0:Option Nat) (p1:Int):Option (Int×dJ×Bool):=
 (fO sg p0 p1).bind fun b=>
 ((bT b.2 (some (b.1.Kind==3))).bind fun d=>
 if d=true then
 (fO sg p0 (w64 (p1 - 1))).bind fun c=>
 some ((w64 (p1 - 1)),c.2,c.1.Kind,c.1.Text)
 else
 some (p1,b.2,b.1.Kind,b.1.Text)).bind fun a=>
 (bT a.2.1 (some (a.2.2.1==1))).bind fun e=>
 if e=true then
 some (a.1,(⟨1,a.2.2.2⟩:dJ),true)
 else
 (bT a.2.1 (some (a.2.2.1==2))).bind fun f=>
 if f=true then
 some (a.1,(⟨2,a.2.2.2⟩:dJ),true)
 else
 some (0,(⟨0,([]:List Int)⟩:dJ),false)
theorem BW (O0:Own c0 G F) (R0:Rel c0 sg G) (p0:Option Nat) (j:Int) {r:Int×dJ×Bool} (h2:Pt 0 c0 v1 p0) (H:oo sg p0 j=some r): Calls prog 319 #[v1,I j] c0.w (aT c0 fun c v=>∃y1 y2,Own c G (es true (RI .i32) y1 21 y2 r.2.1.Text :: F)∧v= .tuple #[I r.1,.agg #[I r.2.1.Wide,y1],B r.2.2]∧OA (RI .i32) c y1 y2 r.2.1.Text):=by
 unfold oo at H;refine en func319 rfl rfl (sr (va (I 0) (me (al 165 [I 0,Y] O0) ?_)));rintro v6 c5 l5 ⟨u,rfl,O4⟩;refine va (B false) (wln (sr (va (v1) (va (I j) (bn H fun f h7 H=>cl (qi O4 R0.m p0 j h2.m h7) ?_)))));rintro v16 d3 l3 ⟨v8,u9,k1,rfl,e0⟩;refine va (.tuple #[.agg #[I f.1.Kind,v8],B f.2]) (va (.agg #[I f.1.Kind,v8]) (va (B f.2) (me (al 114 [I 0,Y] k1) ?_)));rintro v20 e3 k2 ⟨b,rfl,m1⟩;obtain ⟨N,P,R,rfl⟩:=((e0.mono k2)).form;refine md (sA 114 [I f.1.Kind,.slice N P R] 0 m1 ⟨rfl,e0.m.one,trivial⟩) ?_;rintro S m3 U;refine va (B f.2) (wln (bn H fun a g d=>W.seqJ (Jn S fun c l=>∃v28 i,Own c G (es true (RI .i32) v28 21 i a.2.2.2 :: (Eb b 114 [I a.2.2.1,v28]) :: (Eb u 165 [I 0,Y]) :: F)∧l= [(1,I a.1),(5,Q u),(6,B a.2.1),(7,Q b)]∧OA (RI .i32) c v28 i a.2.2.2) ?_ ?_))
 ·refine W.seq (bn g fun y0 q0 g=>W.join (Jn S fun c l=>Own c G ((Eb b 114 [I f.1.Kind,.slice N P R]) :: es true (RI .i32) (.slice N P R) 21 u9 f.1.Text :: (Eb u 165 [I 0,Y]) :: F)∧l= [(0,v1),(1,I j),(5,Q u),(6,B f.2),(7,Q b),(19,B y0)]) ?_ ?_)
  ·clear g;refine W.region (va (B f.2) ?_);rcases bo (f.2) with x | x
   ·have h1:=anT x q0;refine vb x (wa (Q b) (wn (vx (le1 0 u_3 (U.on 0 rfl)) (wa (B (f.1.Kind==3)) ?_))));obtain rfl:=si h1;exact va (B (f.1.Kind==3)) (wln (jn S ⟨U,rfl⟩))
   obtain rfl:=anF x q0;exact vb x (pz (ps (va (B false) (wln (jn S ⟨U,rfl⟩)))))
  rintro e_ w_ ⟨x1,h3,_,rfl,n3,rfl,h0,rfl⟩;refine nrm (cn g (fun e2 g=>?_) (fun e2 g=>?_))
  ·refine sr (va (I j) (vv (I (w64 (j - 1))) (wln (W.region (va (v1) (va (I (w64 (j - 1))) (bn g fun h f2 g=>cl (qi h0 R0.m p0 (w64 (j - 1)) h2.m f2) ?_)))))));rintro v49 f3 o3 ⟨v41,s2,n1,rfl,f0⟩;refine va (.tuple #[.agg #[I h.1.Kind,v41],B h.2]) (va (.agg #[I h.1.Kind,v41]) (va (B h.2) ?_));obtain ⟨l0,m0,o0,rfl⟩:=(f0).form;refine md (sA 114 [I h.1.Kind,.slice l0 m0 o0] 1 n1 ⟨rfl,(f0).one,trivial⟩) ?_;rintro z1 p3 q1;refine va (B h.2) (wln ?_);obtain rfl:=si g;have s1:=q1.sD 4 [0,1,3];exact jn z1 ⟨(.slice l0 m0 o0),s2,s1,rfl,f0.m⟩
  refine W.skip (nrm ?_);obtain rfl:=si g;have t1:=h0.sD 3 [1,0,2];exact jn x1 ⟨(.slice N P R),u9,t1,rfl,e0.m⟩
 rintro e_ w_ ⟨a0,i3,_,rfl,q3,rfl,v28,i,X,rfl,k⟩;refine W.seq (W.block (W.seq (bn d fun z0 s0 d=>W.join (Jn a0 fun c l=>Own c G (es true (RI .i32) v28 21 i a.2.2.2 :: (Eb b 114 [I a.2.2.1,v28]) :: (Eb u 165 [I 0,Y]) :: F)∧l= [(1,I a.1),(5,Q u),(6,B a.2.1),(7,Q b),(28,B z0)]) ?_ ?_)))
 ·clear d;refine W.region (va (B a.2.1) ?_);rcases bo (a.2.1) with y | y
  ·have i1:=anT y s0;refine vb y (wa (Q b) (wn (vx (le1 0 u_3 (X.on 1 rfl)) (wa (B (a.2.2.1==1)) ?_))));obtain rfl:=si i1;exact vv (B (a.2.2.1==1)) (wln (jn a0 ⟨X,rfl⟩))
  obtain rfl:=anF y s0;exact vb y (pz (ps (vv (B false) (wln (jn a0 ⟨X,rfl⟩)))))
 rintro e_ w_ ⟨b0,j3,_,rfl,u0,rfl,M,rfl⟩;refine nrm (cn d (fun g2 d=>?_) (fun g2 d=>?_))
 ·refine W.seq (rD [] (Kp G0 [(Eb b 114 [I a.2.2.1,v28])]) M ?_);intro b2 l2 i0;have o2:Kp G0 [(Eb b 114 [I a.2.2.1,v28])] b2:=(Kp.cons (i0.on 1 rfl) Kp.nil0);refine ta 0 (I a.1) (ta 1 (Qo b 1) (tkx 2 o2 (fun c' j2 hk=>le1 1 cS (hk.on 0 rfl)) ?_));obtain ⟨n,o,p,rfl⟩:=((k.mono (u0.trans l2))).form;refine ta 3 (.agg #[I 1,.slice n o p]) (ta 4 (I a.1) (o1 5 (gD 5 (sA 165 [I 1,.slice n o p] 2 i0 ⟨rfl,k.m.one,trivial⟩) ?_)));rintro d0 s3 Z;have p2:Kp G0 [(Eb b 114 [I a.2.2.1,(.slice n o p)])] d0:=(Kp.cons (Z.on 1 rfl) Kp.nil0);refine ⟨.inr p2,ta 6 (B true) (dn (nrm (W.ret (bkr (thr ?_)))))⟩;obtain rfl:=si d;have u1:=Z.sD 3 [0];exact zt (c:=d0) (vs:=[I 1,.slice n o p]) (v:=B true) (v':=I a.1) rfl (by kernel_rfl) (by kernel_rfl) (by kernel_rfl) (by kernel_rfl) (by kernel_rfl) (Z.on 2 rfl _ rfl).1 ⟨_,d0,rfl,rfl,pt,(.slice n o p),i,u1,rfl,k.m⟩
 refine W.seq (bn d fun a1 t0 d=>W.join (Jn b0 fun c l=>Own c G (es true (RI .i32) v28 21 i a.2.2.2 :: (Eb b 114 [I a.2.2.1,v28]) :: (Eb u 165 [I 0,Y]) :: F)∧l= [(1,I a.1),(5,Q u),(7,Q b),(39,B a1)]) ?_ ?_)
 ·clear d;refine W.region (va (B a.2.1) ?_);rcases bo (a.2.1) with z | z
  ·have j1:=anT z t0;refine vb z (wa (Q b) (wn (vx (le1 0 u_3 (M.on 1 rfl)) (wa (B (a.2.2.1==2)) ?_))));obtain rfl:=si j1;exact vv (B (a.2.2.1==2)) (wln (jn b0 ⟨M,rfl⟩))
  obtain rfl:=anF z t0;exact vb z (pz (ps (vv (B false) (wln (jn b0 ⟨M,rfl⟩)))))
 rintro e_ w_ ⟨g3,k3,_,rfl,m2,rfl,j0,rfl⟩;refine nrm (cn d (fun i2 d=>?_) (fun i2 d=>?_))
 ·refine W.seq (rD [] (Kp G0 [(Eb b 114 [I a.2.2.1,v28])]) j0 ?_);intro c2 n2 k0;have q2:Kp G0 [(Eb b 114 [I a.2.2.1,v28])] c2:=(Kp.cons (k0.on 1 rfl) Kp.nil0);refine ta 0 (I a.1) (ta 1 (Qo b 1) (tkx 2 q2 (fun c' j2 hk=>le1 1 cS (hk.on 0 rfl)) ?_));obtain ⟨q,s,t,rfl⟩:=((k.mono (u0.trans (m2.trans n2)))).form;refine ta 3 (.agg #[I 2,.slice q s t]) (ta 4 (I a.1) (o1 5 (gD 5 (sA 165 [I 2,.slice q s t] 2 k0 ⟨rfl,k.m.one,trivial⟩) ?_)));rintro D a3 A;have e1:Kp G0 [(Eb b 114 [I a.2.2.1,(.slice q s t)])] D:=(Kp.cons (A.on 1 rfl) Kp.nil0);refine ⟨.inr e1,ta 6 (B true) (dn (nrm (W.ret (bkr (thr ?_)))))⟩;obtain rfl:=si d;have v0:=A.sD 3 [0];exact zt (c:=D) (vs:=[I 2,.slice q s t]) (v:=B true) (v':=I a.1) rfl (by kernel_rfl) (by kernel_rfl) (by kernel_rfl) (by kernel_rfl) (by kernel_rfl) (A.on 2 rfl _ rfl).1 ⟨_,D,rfl,rfl,pt,(.slice q s t),i,v0,rfl,k.m⟩
 refine W.skip (bkn (nrm (sr (va (.agg #[I 0,Y]) (va (I 0) (md (sA 165 [I 0,Y] 2 j0 ⟨rfl,rfl,trivial⟩) ?_))))));rintro E c3 w0;refine va (B false) (wln (W.ret ?_));obtain rfl:=si d;have c1:OA (RI .i32) E (Y) [] []:=OA.nil (aX _);have T:=w0.addHole (e:=es true (RI .i32) (Y) 21 [] ([]:List Int)) rfl;have x0:=T.sD 4 [0];exact zt (c:=E) (vs:=[I 0,Y]) (v:=B false) (v':=I 0) rfl (by kernel_rfl) (by kernel_rfl) (by kernel_rfl) (by kernel_rfl) (by kernel_rfl) (T.on 3 rfl _ rfl).1 ⟨_,E,rfl,rfl,pt,(Y),[],x0,rfl,c1⟩
def nf (sg:Sto) (p0:Option Nat) (p1:Int) (p2:Int):Option (Sto×Bool):=
 (oo sg p0 p1).bind fun a=>
 (orE (!a.2.2) (some (decide ((a.2.1.Text.length:Int)≥16)))).bind fun c=>
 if c=true then
 some (sg,false)
 else
 (app a.2.1.Text ([p2]:List Int)).bind fun d=>
 (kY sg p0 a.1 a.2.1.Wide d).bind fun b=>
 some (b.1,b.2.isNil)
theorem zU (O0:Own c0 G F) (R:Rel c0 sg G) (hG:Gl [2,4] c0) (q:Option Nat) (s:Int) (h:Int) {r:Sto×Bool} (h2:Pt 0 c0 v1 q) (H:nf sg q s h=some r): Calls prog 308 #[v1,I s,J h] c0.w (aT c0 fun c v=>∃G_:Gm,Own c G_ (F)∧Rel c r.1 G_∧v=B r.2):=by
 unfold nf at H;refine en func308 rfl rfl (sr (va (B false) (wln (sr (va (v1) (va (I s) (bn H fun a h3 H=>cl (BW O0 R q s h2 h3) ?_)))))));rintro v12 q1 u1 ⟨v4,u5,O8,rfl,p⟩;refine va (.tuple #[I a.1,.agg #[I a.2.1.Wide,v4],B a.2.2]) (va (I a.1) (va (.agg #[I a.2.1.Wide,v4]) (va (B a.2.2) (me (al 165 [I 0,Y] O8) ?_))));rintro v16 s1 a1 ⟨b,rfl,a0⟩;refine va (I a.1) ?_;obtain ⟨d,e,f,rfl⟩:=((p.mono a1)).form;refine md (sA 165 [I a.2.1.Wide,.slice d e f] 0 a0 ⟨rfl,p.m.one,trivial⟩) ?_;rintro j w1 i;refine va (B a.2.2) (wln (W.seq (W.seq (bn H fun S M H=>W.join (Jn j fun c l=>Own c G ((Eb b 165 [I a.2.1.Wide,.slice d e f]) :: es true (RI .i32) (.slice d e f) 21 u5 a.2.1.Text :: F)∧l= [(0,v1),(2,J h),(7,I a.1),(8,Q b),(24,B S)]) ?_ ?_))))
 ·clear H;refine W.region (va (B a.2.2) (va (B (!a.2.2)) ?_));rcases bo (!a.2.2) with g | g
  ·obtain rfl:=orT g M;exact vb g (pz (pz (va (B true) (wln (jn j ⟨i,rfl⟩)))))
  have Z:=orF g M;refine vb g (wa (Qo b 1) (wn (vx (le1 1 cS (i.on 0 rfl)) (wn (vx (lnO 3 cS p.m) (wa (B (decide ((a.2.1.Text.length:Int)≥16))) ?_))))));obtain rfl:=si Z;exact va (B (decide ((a.2.1.Text.length:Int)≥16))) (wln (jn j ⟨i,rfl⟩))
 rintro e_ w_ ⟨g0,t1,_,rfl,x1,rfl,t,rfl⟩;refine nrm (cn H (fun o0 H=>?_) (fun o0 H=>?_))
 ·refine sr (va (B false) (wln (W.ret (thr ?_))));obtain rfl:=si H;have b0:=t.sD 2 [];exact r1 (qq g0 ⟨G,b0,R.m,rfl⟩)
 refine W.skip (nrm (W.seq (rD [] (Kp G0 [(Eb b 165 [I a.2.1.Wide,.slice d e f])]) t ?_)));intro h0 y1 u;have P:Kp G0 [(Eb b 165 [I a.2.1.Wide,.slice d e f])] h0:=(Kp.cons (u.on 0 rfl) Kp.nil0);refine ta 0 (v1) (ta 1 (I a.1) (ta 2 (Q b) (tkx 3 P (fun c' N T=>le1 0 u_3 (T.on 0 rfl)) (ta 4 (Qo b 1) (tkx 5 P (fun c' N T=>le1 1 cS (T.on 0 rfl)) (ta 6 (J h) (o1 7 (gm 7 (sl (RI .i32) 21 [[J h]] ([h]:List Int) u ⟨rfl,trivial⟩) ?_))))))));rintro v40 i0 z1 ⟨d2,x,q0⟩;have d1:Kp G0 [(Eb b 165 [I a.2.1.Wide,.slice d e f])] i0:=(Kp.cons (x.on 1 rfl) Kp.nil0);refine ⟨.inr d1,?_⟩;obtain ⟨j0,t0,b1,y,s0⟩:=x.frz 0 rfl q0;have e1:Kp G0 [(Eb b 165 [I a.2.1.Wide,.slice d e f])] j0:=(Kp.cons (y.on 1 rfl) Kp.nil0);refine AC.gh t0 b1 (fun _=>e1) (bn H fun U u0 H=>o1 8 (gm 8 (ap (RI .i32) (J 0) 4 32 2 y p.m s0 u0 cS) ?_));rintro v52 k0 b2 ⟨e2,z,v0⟩;have f1:Kp G0 [(Eb b 165 [I a.2.1.Wide,.slice d e f])] k0:=(Kp.cons (z.on 1 rfl) Kp.nil0);refine ⟨.inr f1,?_⟩;obtain ⟨l0,x0,c1,A,w0⟩:=z.frz 2 rfl v0;have g1:Kp G0 [(Eb b 165 [I a.2.1.Wide,.slice d e f])] l0:=(Kp.cons (A.on 1 rfl) Kp.nil0);refine AC.gh x0 c1 (fun _=>g1) (bn H fun o y0 H=>o1 9 (gc 9 (vy A R.m (hG.m.le (by decide)) q a.1 a.2.1.Wide U h2.m w0 y0) ?_));rintro v60 E c2 ⟨_,X,D,e0,rfl,z0⟩;have h1:Kp G0 [(Eb b 165 [I a.2.1.Wide,.slice d e f])] E:=(Kp.cons (D.on 1 rfl) Kp.nil0);refine ⟨.inr h1,AC.take 10 (B o.2.isNil) rfl (by kernel_rfl) (by kernel_rfl) (fun c' N=>(by rcases (z0).cs with ⟨k,n⟩ | ⟨b_,k,n⟩ | ⟨b_,k,n⟩ <;> (subst k; rw [n]; kernel_rfl))) (ta 11 (B o.2.isNil) (dn (nrm (W.ret ?_))))⟩;obtain rfl:=si H;have d0:=D.sD 3 [];exact r1 (qq E ⟨X,d0,e0,rfl⟩)
def mu (sg:Sto) (p0:Int) (p1:Int):Option (Sto×(Option Nat)):=
 (some (sg.add_grid_Grid (⟨([]:List (Option Nat))⟩:bS))).bind fun c=>
 (cJ (σ:=Int×Sto) (τ:=Sto) (((aV 1 (aL p1 1024)) - 0).toNat+1) (fun a=>
 if (decide (a.1 < (aV 1 (aL p1 1024))))=true then
 (a.2.grid_Grid[sg.grid_Grid.length]?).bind fun f=>
 (ku a.2 p0).bind fun d=>
 (app f.rows ([d.2]:List (Option Nat))).bind fun g=>
 (d.1.set_grid_Grid sg.grid_Grid.length (⟨g⟩:bS)).bind fun b=>
 some (.inl ((w64 (a.1+1)),b))
 else
 some (.inr (a.2))) (0,c)).bind fun e=>
 some (e,(some sg.grid_Grid.length))
theorem vA (O0:Own c0 G F) (R0:Rel c0 sg G) (y:Int) (n:Int) {r:Sto×(Option Nat)} (H:mu sg y n=some r): Calls prog 112 #[I y,I n] c0.w (aT c0 fun c v=>∃y1,∃G_:Gm,Own c G_ (F)∧Rel c r.1 G_∧dZ G G_∧v=y1∧Pt 1 c y1 r.2):=by
 unfold mu at H;refine en func112 rfl rfl (sr (va (.pointer none) (wln (sr (va (.agg #[Y]) ?_)))));have h2:OA (RP 0) c0 (Y) [] []:=OA.nil (aX _);have O1:=O0.addHole (e:=es true (RP 0) (Y) 168 [] ([]:List (Option Nat))) rfl;refine me (al 176 [(Y)] O1) ?_;rintro v6 c5 l5 ⟨a,rfl,O4⟩;have O7:=O4.sD 2 [0,1];refine bn H fun q2 h8 H=>?_;obtain ⟨z,l0,t1,l9,p,q0,U,l3,u1,a16⟩:=Rel.new_grid_Grid (E:=[(Eb a 176 [(Y)]),es true (RP 0) (Y) 168 [] ([]:List (Option Nat))]) (F:=F) (x:=(⟨([]:List (Option Nat))⟩:bS)) (b:=a) O7 (R0.mono l5) (fun c_ hle_=>⟨a,(Y),[],rfl,rfl,((h2.mono l5).mono hle_)⟩);rw [bb h8] at U;refine WL.gh t1.1 ?_;have v1:=dZ.nil (dZ.refl _) u1;have c1:=(dZ.refl _).trans a16;have w1:Pt 1 z (Q a) (some sg.grid_Grid.length):=⟨a,rfl,p⟩;refine va (Q a) (wln (W.seq (sr (va (I n) (va (I (aL n 1024)) (va (I (aV 1 (aL n 1024))) (va (I 0) (wln (W.block (bn H fun e3 a0 D=>lp a0 (fun d=>Jn z fun c l=>∃G_,Own c G_ (F)∧l= [(0,I y),(5,Q a),(10,I (aV 1 (aL n 1024))),(11,I d.1)]∧Rel c d.2 G_∧dZ G G_) (fun A ex e w=>ex= .exit 0∧(Jn z fun c l=>∃G_,Own c G_ (F)∧l= [(5,Q a)]∧Rel c A G_∧dZ G G_) e w) ?_ ?_ ?_))))))))))
 ·clear D a0;intro d t3 s1 s2 H;revert s1 s2;rintro e_ w_ ⟨h1,j3,_,rfl,j2,rfl,f,M,rfl,o,X⟩;refine sr (va (B (decide (d.1 < (aV 1 (aL n 1024))))) (wln (W.seq (cn H (fun x1 H=>?_) (fun x1 H=>?_)))))
  ·refine W.skip (nrm (W.seq (W.block (rD [8,11] (Kp f []) M ?_))));intro i1 e0 N;have m2:Kp f [] i1:=(Kp.nil N);refine ta 0 (Q a) (ta 1 (Q a) (ta 2 (Q a) (ta 3 (Q a) (bn H fun f3 z1 H=>?_))));obtain ⟨v35,p3,b0,b2⟩:=Rel.open_grid_Grid (o.mono e0) z1 (tm p);refine tkx 4 m2 (fun c' n3 hk=>le1 0 mi (hk.gon b0 0 rfl)) (ta 5 (I y) (bn H fun i0 c2 H=>o1 6 (gc 6 (tc N o.m y c2) ?_)));rintro v40 j1 k2 ⟨_,h3,P,z0,k,rfl,d0⟩;have d1:=X.trans k;have n2:Kp f [] j1:=(Kp.adds P k);refine ⟨.inr n2,?_⟩;obtain ⟨Z,rfl⟩:=(d0).form;refine o1 7 (gm 7 (sl (RP 0) 168 [[.pointer Z]] ([i0.2]:List (Option Nat)) P ⟨⟨(.pointer Z),rfl,d0⟩,trivial⟩) ?_);rintro v55 k1 f0 ⟨q3,R,d2⟩;have o2:Kp f [] k1:=(Kp.adds R k);refine ⟨.inr o2,?_⟩;obtain ⟨m1,f2,s,S,e2⟩:=R.frz 0 rfl d2;have p2:Kp f [] m1:=(Kp.adds S k);refine AC.gh f2 s (fun _=>p2) (bn H fun j0 g2 H=>?_);have s0:=S.borrow 1 (k.get b0) rfl;refine o1 8 (gm 8 (ap (RP 0) (.pointer none) 8 174 0 s0 b2.m e2 g2 mi) ?_);rintro s3 i3 g0 ⟨h0,t0,q⟩;have u0:=t0.giveB 1 rfl;refine ⟨.inl rfl,ta 9 (Q a) (ta 10 (Q a) ?_)⟩;obtain ⟨g,h,i,rfl⟩:=(q).form;refine o1 11 (gD 11 (Own.stGB (T:=174) (j:=0) (us:=[.slice g h i]) (nw:=[.slice g h i]) (v:= .slice g h i) 0 u0 (by kernel_rfl) rfl rfl rfl rfl (by kernel_rfl) ⟨(q).one,trivial⟩ (by kernel_rfl) rfl) ?_);rintro n1 u v0;refine bn H fun k0 i2 H=>?_;obtain ⟨m0,w0,a1,m3,e1⟩:=Rel.put_grid_Grid v0 (z0.mono (f0.trans (s.trans (g0.trans u)))) (E':=[(Eb a 176 [.slice g h i]),es true (RP 0) (.slice g h i) 168 h0 j0]) i2 ⟨a,(.slice g h i),h0,((j2.trans (e0.trans (k2.trans (f0.trans (s.trans (g0.trans u)))))).t _ _ _ p),rfl,(q.mono u)⟩;have f1:=e1 _ d1 v1;refine ⟨.inl rfl,dn (bkn (nrm (W.region (vv (I (w64 (d.1+1))) (WL.nil ?_)))))⟩;obtain rfl:=si H;refine ⟨_,rfl,?_⟩;have x0:=w0.sD 1 [];exact jn n1 ⟨m0,x0,rfl,a1,f1⟩
  refine W.exit (thx ?_);obtain rfl:=si H;exact ⟨_,rfl,rfl,jn h1 ⟨f,M,rfl,o,X⟩⟩
 ·exact jn z ⟨l0,q0,rfl,U,c1⟩
 rintro _ e_ w_ ⟨rfl,q1,k3,_,rfl,o3,rfl,o0,y0,rfl,b1,g1⟩;refine bke (nrm (sr (vv (Q a) (wln (W.ret ?_)))));obtain rfl:=si D;exact r1 (qq q1 ⟨(Q a),o0,y0,b1,g1,rfl,w1.m⟩)
def mG (sg:Sto) (p0:Int) (p1:Int):Option (Sto×(Option Nat)):=
 (mu sg p0 p1).bind fun b=>
 (some (b.1.add_place_Pen (⟨b.2,(⟨0,0,false⟩:ah),true⟩:bj))).bind fun a=>
 some (a,(some b.1.place_Pen.length))
theorem yT (N:Own c0 G F) (R:Rel c0 sg G) (e:Int) (f:Int) {r:Sto×(Option Nat)} (H:mG sg e f=some r): Calls prog 73 #[I e,I f] c0.w (aT c0 fun c v=>∃M,∃G_:Gm,Own c G_ (F)∧Rel c r.1 G_∧dZ G G_∧v=M∧Pt 2 c M r.2):=by
 unfold mG at H;refine en func73 rfl rfl (sr (va (.pointer none) (wln (sr (va (I e) (va (I f) (bn H fun k U H=>cl (vA N R e f U) ?_)))))));rintro v2 c8 l8 ⟨_,G4,P,S,T,rfl,z⟩;have h:=(dZ.refl _).trans T;obtain ⟨d,rfl⟩:=(z).form;refine va (.agg #[.pointer d,I 0,I 0,B false,B true]) (me (al 126 [.pointer d,I 0,I 0,B false,B true] P) ?_);rintro v15 X j ⟨a,rfl,m⟩;have n:=m.sD 1 [0];refine bn H fun D s H=>?_;obtain ⟨i,l,t,b0,u,o,g,Z,y,p⟩:=Rel.new_place_Pen (E:=[(Eb a 126 [.pointer d,I 0,I 0,B false,B true])]) (F:=F) (x:=(⟨k.2,(⟨0,0,false⟩:ah),true⟩:bj)) (b:=a) n (S.mono j) (fun c_ hle_=>⟨a,(.pointer d),rfl,rfl,(z.mono (j.trans hle_))⟩);rw [bb s] at g;refine WL.gh t.1 ?_;have a0:=dZ.nil h y;have q:=h.trans p;have A:Pt 2 i (Q a) (some k.1.place_Pen.length):=⟨a,rfl,u⟩;refine va (Q a) (wln (W.ret ?_));obtain rfl:=si H;exact r1 (qq i ⟨(Q a),l,o,g,q,rfl,A⟩)
def gF (p0:Int):Option (Int):=
 some (aV 1 (aL p0 1024))
theorem mD (b:Own c0 G F) (a:Int) {r:Int} (H:gF a=some r): Calls prog 183 #[I a] c0.w (aT c0 fun c v=>Own c G (F)∧v=I r):=by
 unfold gF at H;refine en func183 rfl rfl (sr (va (I 0) (wln (sr (va (I a) (va (I (aL a 1024)) (vv (I (aV 1 (aL a 1024))) (wln (W.ret ?_)))))))));obtain rfl:=si H;exact r1 (qq c0 ⟨b,rfl⟩)
def kN (p0:Int) (p1:Int):Option (Int):=
 some (aV 0 (aL p0 (w64 (p1 - 1))))
theorem qY (d:Own c0 G F) (b:Int) (a:Int) {r:Int} (H:kN b a=some r): Calls prog 184 #[I b,I a] c0.w (aT c0 fun c v=>Own c G (F)∧v=I r):=by
 unfold kN at H;refine en func184 rfl rfl (sr (va (I 0) (wln (sr (va (I b) (va (I a) (va (I (w64 (a - 1))) (va (I (aL b (w64 (a - 1)))) (vv (I (aV 0 (aL b (w64 (a - 1))))) (wln (W.ret ?_)))))))))));obtain rfl:=si H;exact r1 (qq c0 ⟨d,rfl⟩)
def fL (p0:ah) (p1:Int) (p2:Int):Option (ah):=
 (gF p1).bind fun a=>
 (gF p2).bind fun e=>
 (kN p0.Row e).bind fun c=>
 (kN p0.Col a).bind fun d=>
 (bT p0.Pending (some (p0.Col==(w64 (a - 1))))).bind fun b=>
 some (⟨c,d,b⟩:ah)
theorem eo (O0:Own c0 G F) (a:ah) (n:Int) (o:Int) {r:ah} (H:fL a n o=some r): Calls prog 117 #[.agg #[I a.Row,I a.Col,B a.Pending],I n,I o] c0.w (aT c0 fun c v=>Own c G (F)∧v= .agg #[I r.Row,I r.Col,B r.Pending]):=by
 unfold fL at H;refine en func117 rfl rfl (sr (me (bx 29 [I a.Row,I a.Col,B a.Pending] O0) ?_));rintro v5 c4 l4 ⟨k,rfl,O2,m⟩;refine me (al 29 [I 0,I 0,B false] O2) ?_;rintro v9 c8 l8 ⟨R,rfl,O7⟩;refine wln (sr (va (I n) (bn H fun b Z H=>cl (mD O7 n Z) ?_)));rintro v16 l0 o0 ⟨z,rfl⟩;refine va (I o) (bn H fun j a0 H=>cl (mD z o a0) ?_);rintro v23 S q0 ⟨A,rfl⟩;refine va (I b) (va (I j) (wln (W.seq (bn H fun d b0 H=>bn H fun e d0 H=>bn H fun i x H=>W.join (Jn S fun c l=>Own c G ((Eb R 29 [I d,I e,B i]) :: F)∧l= [(6,Q R)]) ?_ ?_))))
 ·clear H;refine rD [] (Kp G0 []) A ?_;intro T s0 D;have y0:Kp G0 [] T:=Kp.nil0;refine ta 0 (Q k) (tx 1 (fun h g=>l1 u_3 ((mm m) 0 _ rfl)) (ta 2 (I j) (ta 4 (Qo k (0+1)) (tx 5 (fun h g=>l1 u_3 ((mm m) 1 _ rfl)) (ta 6 (I b) (ta 8 (Qo k (0+2)) (tx 9 (fun h g=>l1 u_4 ((mm m) 2 _ rfl)) (o1 3 (gc 3 (qY D a.Row j b0) ?_)))))))));rintro v35 U t0 ⟨E,rfl⟩;have e0:Kp G0 [] U:=Kp.nil0;refine ⟨.inr e0,o1 7 (gc 7 (qY E a.Col b d0) ?_)⟩;rintro v42 X u0 ⟨p,rfl⟩;have f0:Kp G0 [] X:=Kp.nil0;refine ⟨.inr f0,?_⟩;rcases bo (a.Pending) with f | f
  ·have y:=anT f x;refine AC.takeb 10 f rfl (by kernel_rfl) (by kernel_rfl) (fun h g=>(by kernel_rfl)) (ta 11 (Qo k (0+1)) (tx 12 (fun h g=>l1 u_3 ((mm m) 1 _ rfl)) (ta 13 (I b) (ta 14 (I (w64 (b - 1))) (ta 15 (B (a.Col==(w64 (b - 1)))) ?_)))));obtain rfl:=si y;refine ta 16 (B (a.Col==(w64 (b - 1)))) (ta 17 (.agg #[I d,I e,B (a.Col==(w64 (b - 1)))]) (o1 18 (gD 18 (sA 29 [I d,I e,B (a.Col==(w64 (b - 1)))] 0 p ⟨rfl,rfl,rfl,trivial⟩) ?_)));rintro s v0 M;have g0:Kp G0 [] s:=Kp.nil0;exact ⟨.inr g0,dn (nrm (jn s ⟨M,rfl⟩))⟩
  obtain rfl:=anF f x;refine AC.takeb 10 f rfl (by kernel_rfl) (by kernel_rfl) (fun h g=>(by kernel_rfl)) (tp 11 (tp 12 (tp 13 (tp 14 (tp 15 (ta 16 (B false) (ta 17 (.agg #[I d,I e,B false]) (o1 18 (gD 18 (sA 29 [I d,I e,B false] 0 p ⟨rfl,rfl,rfl,trivial⟩) ?_)))))))));rintro t w0 N;have h0:Kp G0 [] t:=Kp.nil0;exact ⟨.inr h0,dn (nrm (jn t ⟨N,rfl⟩))⟩
 rintro e_ w_ ⟨u,m0,_,rfl,x0,rfl,q,rfl⟩;refine nrm (W.ret ?_);obtain rfl:=si H;have P:=q.sD 1 [];exact rV (c:=u) (vs:=[I d,I e,B i]) rfl (by kernel_rfl) (by kernel_rfl) (by kernel_rfl) (q.on 0 rfl _ rfl).1 ⟨_,u,rfl,rfl,pt,P,rfl⟩
def ge (sg:Sto) (p0:Option Nat):Option (Sto×Bool):=
 (orE p0.isNone ((p0).bind fun i=>
 (sg.place_Pen[i]?).bind fun d=>
 some d.G.isNone)).bind fun h=>
 if h=true then
 some (sg,false)
 else
 (p0).bind fun c=>
 (sg.place_Pen[c]?).bind fun a=>
 (bX sg a.G).bind fun e=>
 (bL sg a.G).bind fun f=>
 (fL a.At e f).bind fun g=>
 (sg.set_place_Pen c (⟨a.G,g,a.Auto⟩:bj)).bind fun b=>
 some (b,true)
theorem ny (S:Own c0 G F) (h:Rel c0 sg G) (t:Option Nat) {r:Sto×Bool} (T:Pt 2 c0 v1 t) (H:ge sg t=some r): Calls prog 176 #[v1] c0.w (aT c0 fun c v=>∃G_:Gm,Own c G_ (F)∧Rel c r.1 G_∧v=B r.2):=by
 unfold ge at H;refine en func176 rfl rfl (sr (va (B false) (wln (W.seq (W.seq (bn H fun o0 h3 H=>W.join (Jn c0 fun c l=>Own c G (F)∧l= [(0,v1),(11,B o0)]) ?_ ?_))))))
 ·clear H;refine W.region (va (v1) (vr (B t.isNone) (by rcases (T).cs with ⟨e,f⟩ | ⟨b_,e,f⟩ <;> (subst e; rw [f]; kernel_rfl)) ?_));rcases bo (t.isNone) with k | k
  ·obtain rfl:=orT k h3;exact vb k (pz (pz (ps (va (B true) (wln (jn c0 ⟨S,rfl⟩))))))
  have i:=orF k h3;refine vb k (wa (v1) (wn (bn i fun n1 h8 i=>?_)));obtain ⟨b6,rfl,h7⟩:=(T).get h8;refine va (Q b6) (wa (Q b6) (wn (bn i fun q h9 i=>?_)));obtain ⟨v10,s0,q0⟩:=Rel.open_place_Pen h h9 h7;refine vx (le1 0 eJ (S.gon s0 0 rfl)) (wn (vr (B q.G.isNone) (by rcases (q0).cs with ⟨e,f⟩ | ⟨b_,e,f⟩ <;> (subst e; rw [f]; kernel_rfl)) ?_));obtain rfl:=si i;exact va (B q.G.isNone) (wln (jn c0 ⟨S,rfl⟩))
 rintro e_ w_ ⟨h0,k1,_,rfl,o,rfl,u,rfl⟩;refine nrm (cn H (fun t0 H=>?_) (fun t0 H=>?_))
 ·refine sr (va (B false) (wln (W.ret (thr ?_))));obtain rfl:=si H;exact r1 (qq h0 ⟨G,u,h.m,rfl⟩)
 refine W.skip (nrm (W.seq (rD [18] (Kp G []) u ?_)));intro i0 p x;have s:Kp G [] i0:=(Kp.nil x);refine ta 0 (v1) (ta 1 (v1) (bn H fun i1 u0 H=>?_));obtain ⟨b,rfl,D⟩:=((T.mono (o.trans p))).get u0;refine ta 2 (Q b) (ta 3 (Qo b 1) (bn H fun d v0 H=>?_));obtain ⟨v27,g,j⟩:=Rel.open_place_Pen (h.mono (o.trans p)) v0 D;refine tkx 4 s (fun c' E n=>leN 29 1 [I d.At.Row,I d.At.Col,B d.At.Pending] (n.gon g 0 rfl)) (ta 5 (Q b) (ta 6 (Q b) (ta 7 (Q b) (tkx 8 s (fun c' E n=>le1 0 eJ (n.gon g 0 rfl)) (ta 10 (Q b) (ta 11 (Q b) (ta 12 (Q b) (tkx 13 s (fun c' E n=>le1 0 eJ (n.gon g 0 rfl)) (bn H fun U x0 H=>o1 9 (gc 9 (cC x h.m d.G j x0) ?_))))))))));rintro v36 j0 M ⟨y,rfl⟩;have b1:Kp G [] j0:=(Kp.nil y);refine ⟨.inr b1,bn H fun X y0 H=>o1 14 (gc 14 (bF y h.m d.G j.m y0) ?_)⟩;rintro v44 k0 N ⟨z,rfl⟩;have c1:Kp G [] k0:=(Kp.nil z);refine ⟨.inr c1,bn H fun a z0 H=>o1 15 (gc 15 (eo z d.At U X z0) ?_)⟩;rintro v52 l0 P ⟨A,rfl⟩;have d1:Kp G [] l0:=(Kp.nil A);refine ⟨.inr d1,ta 16 (Q b) (ta 17 (Qo b 1) (o1 18 (gD 18 (gB 29 1 [I a.Row,I a.Col,B a.Pending] [v27,I a.Row,I a.Col,B a.Pending,B d.Auto] 0 A g ⟨rfl,rfl,rfl,trivial⟩) ?_)))⟩;rintro m0 R b0;refine bn H fun Z a1 H=>?_;obtain ⟨a0,d0,e0,m1,j1⟩:=Rel.put_place_Pen b0 (h.mono (o.trans (p.trans (M.trans (N.trans (P.trans R)))))) (E':=[(Eb b 126 [v27,I a.Row,I a.Col,B a.Pending,B d.Auto])]) a1 ⟨b,v27,(tm D),rfl,(j.mono (M.trans (N.trans (P.trans R))))⟩;refine ⟨.inl rfl,dn (nrm (sr (va (B true) (wln (W.ret ?_)))))⟩;obtain rfl:=si H;exact r1 (qq m0 ⟨a0,d0,e0,rfl⟩)
def dk (p0:ah):Option (ah):=
 some (⟨p0.Row,0,false⟩:ah)
theorem jB (f:Own c0 G F) (a:ah) {r:ah} (H:dk a=some r): Calls prog 180 #[.agg #[I a.Row,I a.Col,B a.Pending]] c0.w (aT c0 fun c v=>Own c G (F)∧v= .agg #[I r.Row,I r.Col,B r.Pending]):=by
 unfold dk at H;refine en func180 rfl rfl (sr (me (bx 29 [I a.Row,I a.Col,B a.Pending] f) ?_));rintro v5 m o ⟨i,rfl,g,j⟩;refine me (al 29 [I 0,I 0,B false] g) ?_;rintro v9 n p ⟨l,rfl,h⟩;refine wln (sr (va (Q i) (vx (l1 u_3 ((mm j) 0 _ rfl)) (va (.agg #[I a.Row,I 0,B false]) (md (sA 29 [I a.Row,I 0,B false] 0 h ⟨rfl,rfl,rfl,trivial⟩) ?_)))));rintro d k b;refine wln (W.ret ?_);obtain rfl:=si H;have e:=b.sD 1 [];exact rV (c:=d) (vs:=[I a.Row,I 0,B false]) rfl (by kernel_rfl) (by kernel_rfl) (by kernel_rfl) (b.on 0 rfl _ rfl).1 ⟨_,d,rfl,rfl,pt,e,rfl⟩
def mB (p0:ah) (p1:Int):Option (ah×Bool):=
 (gF p1).bind fun a=>
 if (decide (p0.Row≥(w64 (a - 1))))=true then
 some ((⟨p0.Row,p0.Col,false⟩:ah),true)
 else
 some ((⟨(w64 (p0.Row+1)),p0.Col,false⟩:ah),false)
theorem nO (x:Own c0 G F) (a:ah) (f:Int) {r:ah×Bool} (H:mB a f=some r): Calls prog 236 #[.agg #[I a.Row,I a.Col,B a.Pending],I f] c0.w (aT c0 fun c v=>Own c G (F)∧v= .tuple #[.agg #[I r.1.Row,I r.1.Col,B r.1.Pending],B r.2]):=by
 unfold mB at H;refine en func236 rfl rfl (sr (me (al 29 [I a.Row,I a.Col,B a.Pending] x) ?_));rintro v4 c3 l3 ⟨d,rfl,y⟩;refine me (al 29 [I 0,I 0,B false] y) ?_;rintro v8 c7 l7 ⟨Z,rfl,z⟩;refine va (B false) (wln (sr (va (Qo d 2) (md (sC 4 2 (B false) [I a.Row,I a.Col,B false] 1 z ⟨rfl,trivial⟩) ?_))));rintro E P A;refine wln (W.seq (W.seq (rD [] (Kp G0 [(Eb d 29 [I a.Row,I a.Col,B false])]) A ?_)));intro o R g;have t:Kp G0 [(Eb d 29 [I a.Row,I a.Col,B false])] o:=(Kp.cons (g.on 1 rfl) Kp.nil0);refine ta 0 (Q d) (tkx 1 t (fun c' N D=>le1 0 u_3 (D.on 0 rfl)) (ta 2 (I f) (bn H fun e q H=>o1 3 (gc 3 (mD g f q) ?_))));rintro v20 p S ⟨b,rfl⟩;have u:Kp G0 [(Eb d 29 [I a.Row,I a.Col,B false])] p:=(Kp.cons (b.on 1 rfl) Kp.nil0);refine ⟨.inr u,ta 4 (I (w64 (e - 1))) (ta 5 (B (decide (a.Row≥(w64 (e - 1))))) (dn (nrm (cn H (fun s H=>?_) (fun s H=>?_)))))⟩
 ·refine sr (vx (leN 29 0 [I a.Row,I a.Col,B false] (b.on 1 rfl)) (md (sA 29 [I a.Row,I a.Col,B false] 0 b ⟨rfl,rfl,rfl,trivial⟩) ?_));rintro k T h;refine va (B true) (wln (W.ret (thr ?_)));obtain rfl:=si H;have m:=h.sD 2 [];exact uH (c:=k) (vs:=[I a.Row,I a.Col,B false]) (v:=B true) rfl (by kernel_rfl) (by kernel_rfl) (by kernel_rfl) (by kernel_rfl) (h.on 0 rfl _ rfl).1 ⟨_,k,rfl,rfl,pt,m,rfl⟩
 refine W.skip (nrm (sr (va (Q d) (vx (le1 0 u_3 (b.on 1 rfl)) (va (I (w64 (a.Row+1))) (va (Q d) (md (sC 3 0 (I (w64 (a.Row+1))) [I (w64 (a.Row+1)),I a.Col,B false] 1 b ⟨rfl,trivial⟩) ?_)))))));rintro M U i;refine wln (sr (vx (leN 29 0 [I (w64 (a.Row+1)),I a.Col,B false] (i.on 1 rfl)) (md (sA 29 [I (w64 (a.Row+1)),I a.Col,B false] 0 i ⟨rfl,rfl,rfl,trivial⟩) ?_)));rintro l X j;refine va (B false) (wln (W.ret ?_));obtain rfl:=si H;have n:=j.sD 2 [];exact uH (c:=l) (vs:=[I (w64 (a.Row+1)),I a.Col,B false]) (v:=B false) rfl (by kernel_rfl) (by kernel_rfl) (by kernel_rfl) (by kernel_rfl) (j.on 0 rfl _ rfl).1 ⟨_,l,rfl,rfl,pt,n,rfl⟩
def eZ (sg:Sto) (p0:Option Nat):Option (Sto):=
 (ge sg p0).bind fun b=>
 if (!b.2)=true then
 some b.1
 else
 (p0).bind fun j=>
 (b.1.place_Pen[j]?).bind fun f=>
 (bL b.1 f.G).bind fun g=>
 (mB f.At g).bind fun e=>
 (p0).bind fun d=>
 (b.1.place_Pen[d]?).bind fun c=>
 (b.1.set_place_Pen d (⟨c.G,e.1,c.Auto⟩:bj)).bind fun a=>
 if e.2=true then
 (bL a c.G).bind fun h=>
 (jX a c.G 0 h 1).bind fun i=>
 some i
 else
 some a
theorem mW (O0:Own c0 G F) (R0:Rel c0 sg G) (p0:Option Nat) {r:Sto} (h2:Pt 2 c0 v1 p0) (H:eZ sg p0=some r): Calls prog 181 #[v1] c0.w (aT c0 fun c v=>∃G_:Gm,Own c G_ (F)∧Rel c r G_∧v= .tuple #[]):=by
 unfold eZ at H;refine en func181 rfl rfl (W.seq (sr (va (v1) (bn H fun y2 h3 H=>cl (ny O0 R0 p0 h2 h3) ?_))));rintro v9 c8 l8 ⟨d,O5,n,rfl⟩;refine va (B (!y2.2)) (wln (cn H (fun d2 H=>?_) (fun d2 H=>?_)))
 ·refine W.ret (thr ?_);obtain rfl:=si H;exact r0 (qq c8 ⟨d,O5,n,rfl⟩)
 refine W.skip (nrm (W.seq (bn H fun n3 e2 H=>bn H fun e f2 H=>bn H fun j h0 H=>bn H fun a x H=>W.join (Jn c8 fun c l=>∃t,Own c d ((Eb t 29 [I a.1.Row,I a.1.Col,B a.1.Pending]) :: F)∧l= [(0,v1),(2,Q t),(3,B a.2)]) ?_ ?_)))
 ·clear H;refine rD [] (Kp d []) O5 ?_;intro p1 l16 q;have m0:Kp d [] p1:=(Kp.nil q);refine ta 0 (v1) ?_;obtain ⟨g,rfl,g2⟩:=((h2.mono (l8.trans l16))).get e2;refine ta 1 (Q g) (ta 2 (Qo g 1) ?_);obtain ⟨v21,j0,i0⟩:=Rel.open_place_Pen (n.mono l16) f2 g2;refine tkx 3 m0 (fun c' z i=>leN 29 1 [I e.At.Row,I e.At.Col,B e.At.Pending] (i.gon j0 0 rfl)) (ta 4 (Q g) (ta 5 (Q g) (ta 6 (Q g) (tkx 7 m0 (fun c' z i=>le1 0 eJ (i.gon j0 0 rfl)) (mn2 8 13 ?_ ?_)))))
  ·refine gc 8 (bF q n.m e.G i0 h0) ?_;rintro v29 q1 o3 ⟨s,rfl⟩;have m2:Kp d [] q1:=(Kp.nil s);refine ⟨.inr m2,mn2 9 13 ?_ ?_⟩
   ·refine gc 9 (nO s e.At j x) ?_;rintro v36 s1 p3 ⟨M,rfl⟩;have n2:Kp d [] s1:=(Kp.nil M);refine ⟨.inr n2,ta 10 (.tuple #[.agg #[I a.1.Row,I a.1.Col,B a.1.Pending],B a.2]) (ta 11 (.agg #[I a.1.Row,I a.1.Col,B a.1.Pending]) (ta 12 (B a.2) (o1 13 (gm 13 (al 29 [I 0,I 0,B false] M) ?_))))⟩;rintro v41 t1 q3 ⟨k1,rfl,N⟩;have o2:Kp d [] t1:=(Kp.nil N);refine ⟨.inr o2,o1 14 (gD 14 (sA 29 [I a.1.Row,I a.1.Col,B a.1.Pending] 0 N ⟨rfl,rfl,rfl,trivial⟩) ?_)⟩;rintro e0 s3 P;have p2:Kp d [] e0:=(Kp.nil P);exact ⟨.inr p2,ta 15 (B a.2) (dn (nrm (jn e0 ⟨k1,P,rfl⟩)))⟩
   refine gm 13 (al 29 [I 0,I 0,B false] s) ?_;rintro v49 u1 t3 ⟨m1,rfl,R⟩;have q2:Kp d [] u1:=(Kp.nil R);refine ⟨.inr q2,o1 9 (gc 9 (nO R e.At j x) ?_)⟩;rintro v56 w1 u3 ⟨S,rfl⟩;have s2:Kp d [] w1:=(Kp.nil S);refine ⟨.inr s2,ta 10 (.tuple #[.agg #[I a.1.Row,I a.1.Col,B a.1.Pending],B a.2]) (ta 11 (.agg #[I a.1.Row,I a.1.Col,B a.1.Pending]) (ta 12 (B a.2) (o1 14 (gD 14 (sA 29 [I a.1.Row,I a.1.Col,B a.1.Pending] 0 S ⟨rfl,rfl,rfl,trivial⟩) ?_))))⟩;rintro f0 v3 T;have t2:Kp d [] f0:=(Kp.nil T);exact ⟨.inr t2,ta 15 (B a.2) (dn (nrm (jn f0 ⟨m1,T,rfl⟩)))⟩
  refine gm 13 (al 29 [I 0,I 0,B false] q) ?_;rintro a4 x1 w3 ⟨n1,rfl,U⟩;have u2:Kp d [] x1:=(Kp.nil U);refine ⟨.inr u2,o1 8 (gc 8 (bF U n.m e.G i0.m h0) ?_)⟩;rintro b4 y1 x3 ⟨X,rfl⟩;have v2:Kp d [] y1:=(Kp.nil X);refine ⟨.inr v2,o1 9 (gc 9 (nO X e.At j x) ?_)⟩;rintro c4 z1 y3 ⟨Z,rfl⟩;have w2:Kp d [] z1:=(Kp.nil Z);refine ⟨.inr w2,ta 10 (.tuple #[.agg #[I a.1.Row,I a.1.Col,B a.1.Pending],B a.2]) (ta 11 (.agg #[I a.1.Row,I a.1.Col,B a.1.Pending]) (ta 12 (B a.2) (o1 14 (gD 14 (sA 29 [I a.1.Row,I a.1.Col,B a.1.Pending] 0 Z ⟨rfl,rfl,rfl,trivial⟩) ?_))))⟩;rintro g0 z3 a0;have x2:Kp d [] g0:=(Kp.nil a0);exact ⟨.inr x2,ta 15 (B a.2) (dn (nrm (jn g0 ⟨n1,a0,rfl⟩)))⟩
 rintro e_ w_ ⟨l3,m3,_,rfl,A,rfl,t,b0,rfl⟩;refine nrm (sr (va (v1) (vx (leN 29 0 [I a.1.Row,I a.1.Col,B a.1.Pending] (b0.on 0 rfl)) (bn H fun d3 i2 H=>?_))));obtain ⟨b,rfl,k0⟩:=((h2.mono (l8.trans A))).get i2;refine va (Q b) (va (Qo b 1) (bn H fun f j2 H=>?_));obtain ⟨E,k2,y⟩:=Rel.open_place_Pen (n.mono A) j2 k0;refine md (gB 29 1 [I a.1.Row,I a.1.Col,B a.1.Pending] [E,I a.1.Row,I a.1.Col,B a.1.Pending,B f.Auto] 0 b0 k2 ⟨rfl,rfl,rfl,trivial⟩) ?_;rintro c2 l0 j1;refine bn H fun h1 z0 H=>?_;obtain ⟨k,d0,h,u,b3⟩:=Rel.put_place_Pen j1 (n.mono (A.trans l0)) (E':=[(Eb b 126 [E,I a.1.Row,I a.1.Col,B a.1.Pending,B f.Auto])]) z0 ⟨b,E,(tm k0),rfl,(y.mono l0)⟩;refine wln (sr (va (B a.2) (wln (cn H (fun a1 H=>?_) (fun a1 H=>?_)))))
 ·refine rD [9] (Kp k []) d0 ?_;intro w0 e3 o;have D:Kp k [] w0:=(Kp.nil o);refine ta 0 (Q b) (ta 1 (Q b) (ta 2 (Q b) (tkx 3 D (fun c' z i=>le1 0 eJ (i.gon u 0 rfl)) (ta 4 (Q b) (ta 5 (Q b) (ta 6 (Q b) (tkx 7 D (fun c' z i=>le1 0 eJ (i.gon u 0 rfl)) (bn H fun g1 b1 H=>o1 8 (gc 8 (bF o h.m f.G y.m b1) ?_)))))))));rintro i3 x0 f3 ⟨p,rfl⟩;have f1:Kp k [] x0:=(Kp.nil p);refine ⟨.inr f1,bn H fun k3 c1 H=>o1 9 (gc 9 (qg p h.m f.G 0 g1 1 y.m c1) ?_)⟩;rintro j3 y0 g3 ⟨o0,q0,u0,rfl⟩;refine ⟨.inl rfl,dn ?_⟩;obtain rfl:=si H;have s0:=q0.sD 1 [];exact n0 (qq y0 ⟨o0,s0,u0,rfl⟩)
 refine W.skip ?_;obtain rfl:=si H;have t0:=d0.sD 1 [];exact n0 (qq c2 ⟨k,t0,h,rfl⟩)
def fw (sg:Sto) (p0:Option Nat):Option (Sto):=
 (p0).bind fun c=>
 (sg.place_Pen[c]?).bind fun e=>
 (bv sg e.G e.At.Row).bind fun f=>
 (eP sg f true).bind fun d=>
 (d.place_Pen[c]?).bind fun a=>
 (dk a.At).bind fun g=>
 (d.set_place_Pen c (⟨a.G,g,a.Auto⟩:bj)).bind fun b=>
 (eZ b p0).bind fun h=>
 some h
theorem oF (O0:Own c0 G F) (n:Rel c0 sg G) (q:Option Nat) {r:Sto} (U:Pt 2 c0 v1 q) (H:fw sg q=some r): Calls prog 233 #[v1] c0.w (aT c0 fun c v=>∃G_:Gm,Own c G_ (F)∧Rel c r G_∧v= .tuple #[]):=by
 unfold fw at H;refine en func233 rfl rfl (W.seq (rD [10] (Kp G []) O0 ?_));intro c3 l3 y;have p5:Kp G [] c3:=(Kp.nil y);refine ta 0 (v1) (bn H fun a1 h8 H=>?_);obtain ⟨b,rfl,o⟩:=((U.mono l3)).get h8;refine ta 1 (Q b) (ta 2 (Q b) (bn H fun l h9 H=>?_));obtain ⟨v10,h,R⟩:=Rel.open_place_Pen (n.mono l3) h9 o;refine tkx 3 p5 (fun c' f0 p=>le1 0 eJ (p.gon h 0 rfl)) (ta 4 (Q b) (ta 5 (Q b) (ta 6 (Qo b 1) (ta 7 (Qo b 1) (tkx 8 p5 (fun c' f0 p=>le1 1 u_3 (p.gon h 0 rfl)) (bn H fun s S H=>o1 9 (gc 9 (cM y n.m l.G l.At.Row R S) ?_)))))));rintro v14 N b1 ⟨_,e,rfl,T⟩;have h0:Kp G [] N:=(Kp.nil e);refine ⟨.inr h0,bn H fun q0 X H=>o1 10 (gc 10 (lT e n.m s true T X) ?_)⟩;rintro v29 w0 c1 ⟨t0,f,g,rfl⟩;refine ⟨.inl rfl,dn (nrm (sr (vv (Q b) (va (Q b) (va (Qo b 1) (bn H fun d Z H=>?_))))))⟩;obtain ⟨v31,i,a0⟩:=Rel.open_place_Pen g Z (tm o);refine vx (leN 29 1 [I d.At.Row,I d.At.Col,B d.At.Pending] (f.gon i 0 rfl)) (bn H fun a b0 H=>cl (jB f d.At b0) ?_);rintro v40 x0 j ⟨x,rfl⟩;refine va (Q b) (va (Qo b 1) (md (gB 29 1 [I a.Row,I a.Col,B a.Pending] [v31,I a.Row,I a.Col,B a.Pending,B d.Auto] 0 x i ⟨rfl,rfl,rfl,trivial⟩) ?_));rintro y0 k z;refine bn H fun t d0 H=>?_;obtain ⟨u0,A,E,z0,v0⟩:=Rel.put_place_Pen z (g.mono (j.trans k)) (E':=[(Eb b 126 [v31,I a.Row,I a.Col,B a.Pending,B d.Auto])]) d0 ⟨b,v31,(tm o),rfl,(a0.mono (j.trans k))⟩;refine wln (W.region (va (Q b) (bn H fun s0 e0 H=>cl (mW A E q U.m e0) ?_)));rintro v55 P d1 ⟨u,D,M,rfl⟩;refine WL.nil ?_;obtain rfl:=si H;exact n0 (qq P ⟨u,D,M,rfl⟩)
def jd (sg:Sto) (p0:Option Nat) (p1:Int):Option (Sto):=
 ((p0).bind fun k=>
 (sg.place_Pen[k]?).bind fun l=>
 if l.At.Pending=true then
 (fw sg p0).bind fun m=>
 some (m)
 else
 some (sg)).bind fun b=>
 (p0).bind fun d=>
 (b.place_Pen[d]?).bind fun a=>
 (bX b a.G).bind fun e=>
 (orE (p1==1) (some (decide (a.At.Col < (w64 (e - 1)))))).bind fun f=>
 if f=true then
 some b
 else
 if a.Auto=true then
 (bv b a.G a.At.Row).bind fun g=>
 (em 1).bind fun h=>
 (dK b g (w64 (e - 1)) h).bind fun i=>
 (fw i.1 p0).bind fun j=>
 some j
 else
 (b.set_place_Pen d (⟨a.G,(⟨a.At.Row,(w64 (a.At.Col - 1)),a.At.Pending⟩:ah),a.Auto⟩:bj)).bind fun c=>
 some c
theorem tg (T:Own c0 G F) (X:Rel c0 sg G) (hG:Gl [2,4] c0) (u:Option Nat) (n:Int) {r:Sto} (t:Pt 2 c0 v1 u) (H:jd sg u n=some r): Calls prog 177 #[v1,I n] c0.w (aT c0 fun c v=>∃G_:Gm,Own c G_ (F)∧Rel c r G_∧v= .tuple #[]):=by
 unfold jd at H;refine en func177 rfl rfl (bn H fun g2 g d=>W.seqJ (Jn c0 fun c l=>∃G_,Own c G_ (F)∧l= [(0,v1),(1,I n)]∧Rel c g2 G_) ?_ ?_)
 ·refine sr (va (v1) (bn g fun b3 h7 g=>?_));obtain ⟨s,rfl,h6⟩:=(t).get h7;refine va (Q s) (va (Qo s 1) (va (Qo s 3) (bn g fun i3 h8 g=>?_)));obtain ⟨v9,e1,z2⟩:=Rel.open_place_Pen X h8 h6;refine vx (le1 3 u_4 (T.gon e1 0 rfl)) (wln (cn g (fun f1 g=>?_) (fun f1 g=>?_)))
  ·refine W.region (va (Q s) (bn g fun n3 g1 g=>cl (oF T X u t g1) ?_));rintro v19 w0 c3 ⟨h0,l0,t0,rfl⟩;refine wln ?_;obtain rfl:=si g;exact jn w0 ⟨h0,l0,rfl,t0⟩
  refine W.skip (nrm ?_);obtain rfl:=si g;exact jn c0 ⟨G,T,rfl,X⟩
 rintro e_ w_ ⟨v2,x2,_,rfl,b2,rfl,f,x,rfl,i⟩;refine sr (va (v1) (bn d fun p2 h1 d=>?_));obtain ⟨a,rfl,E⟩:=((t.mono b2)).get h1;refine vv (Q a) (bn d fun b i1 d=>?_);obtain ⟨v30,h,q⟩:=Rel.open_place_Pen i i1 E;refine vx (le1 0 eJ (x.gon h 0 rfl)) (bn d fun e j1 d=>cl (cC x i b.G q j1) ?_);rintro v39 p N ⟨o,rfl⟩;refine vv (I (w64 (e - 1))) (wln (W.block (W.seq (bn d fun a0 M d=>W.join (Jn p fun c l=>Own c f (F)∧l= [(0,Q a),(4,I (w64 (e - 1))),(27,B a0)]) ?_ ?_))))
 ·clear d;refine W.region (va (I n) (va (B (n==1)) ?_));rcases bo (n==1) with k | k
  ·obtain rfl:=orT k M;exact vb k (pz (pz (pz (ps (vv (B true) (wln (jn p ⟨o,rfl⟩)))))))
  have k0:=orF k M;refine vb k (wa (Q a) (wa (Q a) (wa (Qo a 1) (wa (Qo a 2) (wn (vx (le1 2 u_3 (o.gon h 0 rfl)) (wa (I (w64 (e - 1))) (wa (B (decide (b.At.Col < (w64 (e - 1))))) ?_))))))));obtain rfl:=si k0;exact vv (B (decide (b.At.Col < (w64 (e - 1))))) (wln (jn p ⟨o,rfl⟩))
 rintro e_ w_ ⟨x0,y2,_,rfl,P,rfl,j,rfl⟩;refine nrm (cn d (fun k1 d=>?_) (fun k1 d=>?_))
 ·refine W.ret (bkr ?_);obtain rfl:=si d;exact r0 (qq x0 ⟨f,j,i.m,rfl⟩)
 refine sr (vv (Q a) (va (Qo a 4) (vx (le1 4 u_4 (j.gon h 0 rfl)) (va (B b.Auto) (wln (cn d (fun m1 d=>?_) (fun m1 d=>?_)))))))
 ·refine W.seq (rD [12] (Kp f []) j ?_);intro y0 d3 y;have S:Kp f [] y0:=(Kp.nil y);refine ta 0 (Q a) (ta 1 (Q a) (ta 2 (Q a) (tkx 3 S (fun c' z1 hk=>le1 0 eJ (hk.gon h 0 rfl)) (ta 4 (Q a) (ta 5 (Q a) (ta 6 (Qo a 1) (ta 7 (Qo a 1) (tkx 8 S (fun c' z1 hk=>le1 1 u_3 (hk.gon h 0 rfl)) (ta 10 (I (w64 (e - 1))) (bn d fun e0 n1 d=>o1 9 (gc 9 (cM y i.m b.G b.At.Row q.m n1) ?_)))))))))));rintro v55 z0 e3 ⟨_,z,rfl,q1⟩;have d2:Kp f [] z0:=(Kp.nil z);refine ⟨.inr d2,bn d fun f0 s1 d=>o1 11 (gc 11 (jJ z 1 s1) ?_)⟩;rintro k3 a1 f3 ⟨_,j3,A,rfl,t1⟩;have e2:Kp f [] a1:=(Kp.nil A);refine ⟨.inr e2,?_⟩;obtain ⟨b1,w1,c2,D,u1⟩:=A.frz 0 rfl t1;have f2:Kp f [] b1:=(Kp.nil D);refine AC.gh w1 c2 (fun _=>f2) (bn d fun s2 x1 d=>o1 12 (gc 12 (jA D i.m (hG.m.le (by decide)) e0 (w64 (e - 1)) f0 q1.m u1 x1) ?_));rintro l3 w2 g3 ⟨_,u2,m0,u0,rfl,a3⟩;refine ⟨.inl rfl,dn (nrm (W.region (va (Q a) (bn d fun t2 y1 d=>cl (oF m0 u0 u t.m y1) ?_))))⟩;rintro m3 c1 h3 ⟨i0,o0,v0,rfl⟩;refine WL.nil (bkn ?_);obtain rfl:=si d;have q0:=o0.sD 1 [];exact n0 (qq c1 ⟨i0,q0,v0,rfl⟩)
 refine W.region (vv (Q a) (va (Qo a 1) (va (Qo a 2) (vx (le1 2 u_3 (j.gon h 0 rfl)) (va (I (w64 (b.At.Col - 1))) (va (Q a) (va (Qo a 1) (va (Qo a 2) (md (gC 3 2 (I (w64 (b.At.Col - 1))) [v30,I b.At.Row,I (w64 (b.At.Col - 1)),B b.At.Pending,B b.Auto] 0 j h ⟨rfl,trivial⟩) ?_)))))))));rintro d1 R s0;refine bn d fun g0 b0 d=>?_;obtain ⟨j0,U,Z,l2,i2⟩:=Rel.put_place_Pen s0 (i.mono (N.trans (P.trans R))) (E':=[(Eb a 126 [v30,I b.At.Row,I (w64 (b.At.Col - 1)),B b.At.Pending,B b.Auto])]) b0 ⟨a,v30,(tm E),rfl,(q.mono (N.trans (P.trans R)))⟩;refine WL.nil (bkn ?_);obtain rfl:=si d;exact n0 (qq d1 ⟨j0,U,Z,rfl⟩)
def kf (p0:ah) (p1:Int) (p2:Int) (p3:Bool):Option (ah):=
 (gF p2).bind fun a=>
 if (decide (p0.Col < (w64 (a - (aV 1 (aL p1 2))))))=true then
 some (⟨p0.Row,(w64 (p0.Col+(aV 1 (aL p1 2)))),false⟩:ah)
 else
 some (⟨p0.Row,(w64 (a - 1)),p3⟩:ah)
theorem vB (s:Own c0 G F) (a:ah) (b:Int) (h:Int) (e:Bool) {r:ah} (H:kf a b h e=some r): Calls prog 179 #[.agg #[I a.Row,I a.Col,B a.Pending],I b,I h,B e] c0.w (aT c0 fun c v=>Own c G (F)∧v= .agg #[I r.Row,I r.Col,B r.Pending]):=by
 unfold kf at H;refine en func179 rfl rfl (sr (me (bx 29 [I a.Row,I a.Col,B a.Pending] s) ?_));rintro v5 E N ⟨f,rfl,t,g⟩;refine me (al 29 [I 0,I 0,B false] t) ?_;rintro v9 M P ⟨D,rfl,u⟩;refine wln (sr (va (I b) (va (I (aL b 2)) (va (I (aV 1 (aL b 2))) (va (I h) (bn H fun d p H=>cl (mD u h p) ?_))))));rintro v16 x y ⟨i,rfl⟩;refine va (I (aV 1 (aL b 2))) (va (I d) (wln (W.seq (sr (va (Qo f (0+1)) (vx (l1 u_3 ((mm g) 1 _ rfl)) (va (I d) (va (I (aV 1 (aL b 2))) (va (I (w64 (d - (aV 1 (aL b 2))))) (va (B (decide (a.Col < (w64 (d - (aV 1 (aL b 2))))))) (wln (cn H (fun q H=>?_) (fun q H=>?_)))))))))))))
 ·refine sr (va (Q f) (vx (l1 u_3 ((mm g) 0 _ rfl)) (va (Qo f (0+1)) (vx (l1 u_3 ((mm g) 1 _ rfl)) (va (I (aV 1 (aL b 2))) (va (I (w64 (a.Col+(aV 1 (aL b 2))))) (va (.agg #[I a.Row,I (w64 (a.Col+(aV 1 (aL b 2)))),B false]) (md (sA 29 [I a.Row,I (w64 (a.Col+(aV 1 (aL b 2)))),B false] 0 i ⟨rfl,rfl,rfl,trivial⟩) ?_))))))));rintro l z j;refine wln (W.ret (thr ?_));obtain rfl:=si H;have n:=j.sD 1 [];exact rV (c:=l) (vs:=[I a.Row,I (w64 (a.Col+(aV 1 (aL b 2)))),B false]) rfl (by kernel_rfl) (by kernel_rfl) (by kernel_rfl) (j.on 0 rfl _ rfl).1 ⟨_,l,rfl,rfl,pt,n,rfl⟩
 refine W.skip (nrm (sr (va (Q f) (vx (l1 u_3 ((mm g) 0 _ rfl)) (va (I d) (va (I (w64 (d - 1))) (va (B e) (va (.agg #[I a.Row,I (w64 (d - 1)),B e]) (md (sA 29 [I a.Row,I (w64 (d - 1)),B e] 0 i ⟨rfl,rfl,rfl,trivial⟩) ?_)))))))));rintro m A k;refine wln (W.ret ?_);obtain rfl:=si H;have o:=k.sD 1 [];exact rV (c:=m) (vs:=[I a.Row,I (w64 (d - 1)),B e]) rfl (by kernel_rfl) (by kernel_rfl) (by kernel_rfl) (k.on 0 rfl _ rfl).1 ⟨_,m,rfl,rfl,pt,o,rfl⟩
def iC (sg:Sto) (p0:Option Nat) (p1:Int) (p2:List Int):Option (Sto×ah):=
 (ge sg p0).bind fun d=>
 if (!d.2)=true then
 some (d.1,(⟨0,0,false⟩:ah))
 else
 ((p0).bind fun i=>
 (d.1.place_Pen[i]?).bind fun j=>
 (bX d.1 j.G).bind fun k=>
 if (decide ((aV 1 (aL p1 2)) > k))=true then
 some (1,([65533]:List Int))
 else
 some ((aV 1 (aL p1 2)),p2)).bind fun c=>
 (jd d.1 p0 c.1).bind fun f=>
 (p0).bind fun e=>
 (f.place_Pen[e]?).bind fun a=>
 (bv f a.G a.At.Row).bind fun l=>
 (kY f l a.At.Col c.1 c.2).bind fun g=>
 (g.1.place_Pen[e]?).bind fun b=>
 (bX g.1 b.G).bind fun m=>
 (kf (⟨a.At.Row,a.At.Col,false⟩:ah) c.1 m b.Auto).bind fun n=>
 (g.1.set_place_Pen e (⟨b.G,n,b.Auto⟩:bj)).bind fun h=>
 some (h,(⟨a.At.Row,a.At.Col,false⟩:ah))
theorem pb (O0:Own c0 G F) (R0:Rel c0 sg G) (hG:Gl [2,4] c0) (p0:Option Nat) (o:Int) (p2:List Int) {r:Sto×ah} (h2:Pt 2 c0 v1 p0) (h4:Sl (RI .i32) c0 v3 p2) (H:iC sg p0 o p2=some r): Calls prog 115 #[v1,I o,v3] c0.w (aT c0 fun c v=>∃G_:Gm,Own c G_ (F)∧Rel c r.1 G_∧v= .agg #[I r.2.Row,I r.2.Col,B r.2.Pending]):=by
 unfold iC at H;refine en func115 rfl rfl (sr (me (al 29 [I 0,I 0,B false] O0) ?_));rintro v8 c7 l7 ⟨b5,rfl,O6⟩;refine wln (W.seq (sr (va (v1) (bn H fun u3 h9 H=>cl (ny O6 R0.m p0 h2.m h9) ?_))));rintro v15 e2 u0 ⟨j0,R,P,rfl⟩;refine va (B (!u3.2)) (wln (cn H (fun n2 H=>?_) (fun n2 H=>?_)))
 ·refine sr (va (.agg #[I 0,I 0,B false]) (md (sA 29 [I 0,I 0,B false] 0 R ⟨rfl,rfl,rfl,trivial⟩) ?_));rintro t0 s4 k0;refine wln (W.ret (thr ?_));obtain rfl:=si H;have u1:=k0.sD 1 [];exact rV (c:=t0) (vs:=[I 0,I 0,B false]) rfl (by kernel_rfl) (by kernel_rfl) (by kernel_rfl) (k0.on 0 rfl _ rfl).1 ⟨_,t0,rfl,rfl,pt,j0,u1,P.m,rfl⟩
 refine W.skip (nrm (sr (va (I o) (va (I (aL o 2)) (vv (I (aV 1 (aL o 2))) (wln (bn H fun f g d=>W.seqJ (Jn e2 fun c l=>∃v22,Own c j0 ((Eb b5 29 [I 0,I 0,B false]) :: F)∧l= [(0,v1),(1,I f.1),(2,v22),(6,Q b5)]∧Sl (RI .i32) c v22 f.2) ?_ ?_)))))))
 ·refine sr (va (I (aV 1 (aL o 2))) (va (v1) (bn g fun f4 q2 g=>?_)));obtain ⟨s0,rfl,o2⟩:=((h2.mono (l7.trans u0))).get q2;refine vv (Q s0) (bn g fun j1 s2 g=>?_);obtain ⟨v27,u2,t2⟩:=Rel.open_place_Pen P s2 o2;refine vx (le1 0 eJ (R.gon u2 0 rfl)) (bn g fun n1 v2 g=>cl (cC R P j1.G t2 v2) ?_);rintro v36 f2 t4 ⟨l0,rfl⟩;refine va (B (decide ((aV 1 (aL o 2)) > n1))) (wln (cn g (fun w2 g=>?_) (fun w2 g=>?_)))
  ·refine W.region (me (sl (RI .i32) 21 [[J 65533]] ([65533]:List Int) l0 ⟨rfl,trivial⟩) ?_);rintro v42 n4 u4 ⟨w4,w1,x2⟩;refine va (I 1) (va (v42) (wln ?_));obtain rfl:=si g;obtain ⟨g2,z2,v4,x1,y2⟩:=w1.frz 0 rfl x2;have y1:=x1.sD 2 [1];exact ⟨g2,_,_,z2.symm,pt,us,v42,y1,rfl,y2⟩
  refine W.skip (nrm ?_);obtain rfl:=si g;exact jn f2 ⟨v3,l0,rfl,h4.m⟩
 rintro e_ w_ ⟨o4,q4,_,rfl,i3,rfl,v22,z1,rfl,a3⟩;refine sr (va (v1) (va (I f.1) (bn d fun l4 b3 d=>cl (tg z1 P.m (hG.m.le (by decide)) p0 f.1 h2.m b3) ?_)));rintro x4 p4 j3 ⟨j,b2,Z,rfl⟩;refine wln (W.seq (rD [] (Kp j []) b2 ?_));intro i2 v0 m0;have w0:Kp j [] i2:=(Kp.nil m0);refine ta 0 (v1) (bn d fun g4 c3 d=>?_);obtain ⟨b,rfl,e0⟩:=((h2.mono (l7.trans (u0.trans (i3.trans (j3.trans v0)))))).get c3;refine ta 1 (Q b) (ta 2 (Qo b 1) (ta 3 (Qo b 1) (bn d fun a d3 d=>?_)));obtain ⟨y4,f0,e3⟩:=Rel.open_place_Pen (Z.mono v0) d3 e0;refine tkx 4 w0 (fun u k h=>le1 1 u_3 (h.gon f0 0 rfl)) (ta 5 (Q b) (ta 6 (Q b) (ta 7 (Qo b 1) (ta 8 (Qo b 2) (tkx 9 w0 (fun u k h=>le1 2 u_3 (h.gon f0 0 rfl)) (ta 10 (.agg #[I a.At.Row,I a.At.Col,B false]) (o1 11 (gm 11 (al 29 [I 0,I 0,B false] m0) ?_))))))));rintro z4 j2 l3 ⟨i,rfl,o0⟩;have q3:Kp j [] j2:=(Kp.nil o0);refine ⟨.inr q3,o1 12 (gD 12 (sA 29 [I a.At.Row,I a.At.Col,B false] 0 o0 ⟨rfl,rfl,rfl,trivial⟩) ?_)⟩;rintro k2 m3 q0;have s3:Kp j [] k2:=(Kp.nil q0);refine ⟨.inr s3,dn (nrm (W.seq (rD [11] (Kp j [(Eb i 29 [I a.At.Row,I a.At.Col,B false])]) q0 ?_)))⟩;intro l2 n3 U;have g0:Kp j [(Eb i 29 [I a.At.Row,I a.At.Col,B false])] l2:=(Kp.cons (U.on 0 rfl) (Kp.nil U));refine ta 0 (Q b) (ta 1 (Q b) (ta 2 (Q b) (tkx 3 g0 (fun u k h=>le1 0 eJ (h.gon f0 0 rfl)) (ta 4 (Q i) (tkx 5 g0 (fun u k h=>le1 0 u_3 (h.on 0 rfl)) (ta 7 (Qo i 1) (tkx 8 g0 (fun u k h=>le1 1 u_3 (h.on 0 rfl)) (ta 9 (I f.1) (ta 10 (v22) (bn d fun q1 f3 d=>o1 6 (gc 6 (cM U Z.m a.G a.At.Row e3.m f3) ?_)))))))))));rintro a5 m2 o3 ⟨_,X,rfl,g3⟩;have t3:Kp j [(Eb i 29 [I a.At.Row,I a.At.Col,B false])] m2:=(Kp.cons (X.on 0 rfl) (Kp.nil X));refine ⟨.inr t3,bn d fun m4 h3 d=>o1 11 (gc 11 (vy X Z.m (hG.m.le (by decide)) q1 a.At.Col f.1 f.2 g3 a3.m h3) ?_)⟩;rintro c5 a4 i1 ⟨_,N,c2,a0,rfl,r4⟩;refine ⟨.inl rfl,dn (nrm (W.seq (rD [15] (Kp N [(Eb i 29 [I a.At.Row,I a.At.Col,B false])]) c2 ?_)))⟩;intro b1 y p;have E:Kp N [(Eb i 29 [I a.At.Row,I a.At.Col,B false])] b1:=(Kp.cons (p.on 0 rfl) (Kp.nil p));refine ta 0 (Q b) (tkx 1 E (fun u k h=>leN 29 0 [I a.At.Row,I a.At.Col,B false] (h.on 0 rfl)) (ta 2 (I f.1) (ta 3 (Q b) (ta 4 (Q b) (ta 5 (Q b) (bn d fun n e1 d=>?_))))));obtain ⟨M,x,d0⟩:=Rel.open_place_Pen (a0.mono y) e1 (tm e0);refine tkx 6 E (fun u k h=>le1 0 eJ (h.gon x 0 rfl)) (ta 8 (Q b) (ta 9 (Q b) (ta 10 (Qo b 4) (tkx 11 E (fun u k h=>le1 4 u_4 (h.gon x 0 rfl)) (bn d fun s1 f1 d=>o1 7 (gc 7 (cC p a0.m n.G d0 f1) ?_))))));rintro j4 c1 z ⟨q,rfl⟩;have k1:Kp N [(Eb i 29 [I a.At.Row,I a.At.Col,B false])] c1:=(Kp.cons (q.on 0 rfl) (Kp.nil q));refine ⟨.inr k1,bn d fun e g1 d=>o1 12 (gc 12 (vB q (⟨a.At.Row,a.At.Col,false⟩:ah) f.1 s1 n.Auto g1) ?_)⟩;rintro k4 d1 A ⟨s,rfl⟩;have m1:Kp N [(Eb i 29 [I a.At.Row,I a.At.Col,B false])] d1:=(Kp.cons (s.on 0 rfl) (Kp.nil s));refine ⟨.inr m1,ta 13 (Q b) (ta 14 (Qo b 1) (o1 15 (gD 15 (gB 29 1 [I e.Row,I e.Col,B e.Pending] [M,I e.Row,I e.Col,B e.Pending,B n.Auto] 0 s x ⟨rfl,rfl,rfl,trivial⟩) ?_)))⟩;rintro b4 D y0;refine bn d fun t1 h1 d=>?_;obtain ⟨x0,S,a1,c4,z3⟩:=Rel.put_place_Pen y0 (a0.mono (y.trans (z.trans (A.trans D)))) (E':=[(Eb b 126 [M,I e.Row,I e.Col,B e.Pending,B n.Auto])]) h1 ⟨b,M,((l3.trans (m3.trans (n3.trans (o3.trans (i1.trans (y.trans (z.trans (A.trans D)))))))).t _ _ _ e0),rfl,(d0.mono (z.trans (A.trans D)))⟩;refine ⟨.inl rfl,dn (nrm (sr (vx (leN 29 0 [I a.At.Row,I a.At.Col,B false] (S.on 0 rfl)) (md (sA 29 [I a.At.Row,I a.At.Col,B false] 1 S ⟨rfl,rfl,rfl,trivial⟩) ?_))))⟩;rintro b0 i4 T;refine wln (W.ret ?_);obtain rfl:=si d;have z0:=T.sD 2 [];exact rV (c:=b0) (vs:=[I a.At.Row,I a.At.Col,B false]) rfl (by kernel_rfl) (by kernel_rfl) (by kernel_rfl) (T.on 1 rfl _ rfl).1 ⟨_,b0,rfl,rfl,pt,x0,z0,a1.m,rfl⟩
def gx (p0:Int) (p1:Int):Option (Int):=
 if (decide (p0 < 0))=true then
 some 0
 else
 if (decide (p0≥p1))=true then
 some (w64 (p1 - 1))
 else
 some p0
def cm (p0:Int):Option (Int):=
 if (decide (p0 < 1))=true then
 some 1
 else
 if (decide (p0 > 1024))=true then
 some 1024
 else
 some p0
def iH (p0:ah) (p1:Int) (p2:Int):Option (ah):=
 (cm p2).bind fun b=>
 (gx p0.Row b).bind fun c=>
 (cm p1).bind fun d=>
 (gx p0.Col d).bind fun e=>
 (bT p0.Pending ((cm p1).bind fun f=>
 some (p0.Col==(w64 (f - 1))))).bind fun a=>
 some (⟨c,e,a⟩:ah)
def cU (p0:ag):Option (Int):=
 (idx p0.L 0).bind fun a=>
 some (a.Cells.length:Int)
def bW (p0:ag):Option (ag):=
 (cU p0).bind fun a=>
 (iH p0.At a (p0.L.length:Int)).bind fun b=>
 some (⟨p0.L,b,p0.Auto⟩:ag)
def dz (p0:ag):Option (ag):=
 (bW p0).bind fun a=>
 if (decide ((w64 (a.At.Row+1)) < (a.L.length:Int)))=true then
 some (⟨a.L,(⟨(w64 (a.At.Row+1)),a.At.Col,false⟩:ah),a.Auto⟩:ag)
 else
 (fP a.L 0 (a.L.length:Int) 1 true).bind fun b=>
 some (⟨b,(⟨a.At.Row,a.At.Col,false⟩:ah),a.Auto⟩:ag)
def bV (p0:ag) (p1:Int) (p2:am):Option (ag):=
 (app ([]:List am) p0.L).bind fun a=>
 (idx a p1).bind fun c=>
 (nF a p1 p2).bind fun b=>
 some (⟨b,p0.At,p0.Auto⟩:ag)
def ci (p0:ag):Option (ag):=
 (idx p0.L p0.At.Row).bind fun b=>
 (bV p0 p0.At.Row (⟨b.Cells,true⟩:am)).bind fun a=>
 (dz (⟨a.L,(⟨a.At.Row,0,false⟩:ah),a.Auto⟩:ag)).bind fun c=>
 some c
def bB (p0:ag) (p1:Int) (p2:Int) (p3:List aa):Option (ag):=
 (idx p0.L p1).bind fun d=>
 (idx p0.L p1).bind fun b=>
 (gV d.Cells b.Wrap p2 p3).bind fun a=>
 (bV p0 p1 (⟨a.1,a.2⟩:am)).bind fun c=>
 some c
def jM (p0:ah) (p1:Int) (p2:Int) (p3:Bool):Option (ah):=
 (if (decide (p1 > 1))=true then
 some (2)
 else
 some (1)).bind fun a=>
 (cm p2).bind fun b=>
 if (decide (p0.Col≥(w64 (b - a))))=true then
 (cm p2).bind fun c=>
 some (⟨p0.Row,(w64 (c - 1)),p3⟩:ah)
 else
 some (⟨p0.Row,(w64 (p0.Col+a)),false⟩:ah)
def aD (p0:ag) (p1:Int) (p2:List Int):Option (ag×ah):=
 (bW p0).bind fun c=>
 (cU c).bind fun d=>
 (if (decide ((aV 1 (aL p1 2)) > d))=true then
 some (1,([65533]:List Int))
 else
 some ((aV 1 (aL p1 2)),p2)).bind fun g=>
 (if c.At.Pending=true then
 (ci c).bind fun e=>
 some (e.L,e.At.Row,e.At.Col,e.At.Pending,e.Auto)
 else
 some (c.L,c.At.Row,c.At.Col,c.At.Pending,c.Auto)).bind fun a=>
 ((bT (g.1==2) (some (a.2.2.1==(w64 (d - 1))))).bind fun i=>
 if i=true then
 if a.2.2.2.2=true then
 (rep 1 (⟨0,([]:List Int)⟩:aa)).bind fun j=>
 (bB (⟨a.1,(⟨a.2.1,a.2.2.1,a.2.2.2.1⟩:ah),a.2.2.2.2⟩:ag) a.2.1 (w64 (d - 1)) j).bind fun k=>
 (ci k).bind fun f=>
 some (f.L,f.At.Row,f.At.Col,f.At.Pending,f.Auto)
 else
 some (a.1,a.2.1,(w64 (d - 2)),a.2.2.2.1,a.2.2.2.2)
 else
 some (a.1,a.2.1,a.2.2.1,a.2.2.2.1,a.2.2.2.2)).bind fun b=>
 (la g.1 g.2).bind fun l=>
 (bB (⟨b.1,(⟨b.2.1,b.2.2.1,b.2.2.2.1⟩:ah),b.2.2.2.2⟩:ag) b.2.1 b.2.2.1 l).bind fun h=>
 (jM (⟨b.2.1,b.2.2.1,false⟩:ah) g.1 d h.Auto).bind fun m=>
 some ((⟨h.L,m,h.Auto⟩:ag),(⟨b.2.1,b.2.2.1,false⟩:ah))
def eR (p0:Int):Option (Bool):=
 (bT (decide (p0≥0)) (some (decide (p0 < 32)))).bind fun b=>
 (orE b ((bT (decide (p0≥127)) (some (decide (p0≤159)))).bind fun a=>
 some a)).bind fun c=>
 some c
theorem lV (e:Own c0 G F) (a:Int) {r:Bool} (H:eR a=some r): Calls prog 134 #[J a] c0.w (aT c0 fun c v=>Own c G (F)∧v=B r):=by
 unfold eR at H;refine en func134 rfl rfl (sr (va (B false) (wln (W.seq (bn H fun z t H=>bn H fun s n H=>W.join (Jn c0 fun c l=>Own c G (F)∧l= [(2,B s)]) ?_ ?_)))))
 ·clear H;refine W.region (va (J a) (va (B (decide (a≥0))) ?_));rcases bo (decide (a≥0)) with f | f
  ·have x:=anT f t;refine vb f (wa (J a) (wa (B (decide (a < 32))) ?_));obtain rfl:=si x;refine va (B (decide (a < 32))) ?_;rcases bo (decide (a < 32)) with g | g
   ·obtain rfl:=orT g n;exact vb g (pz (pz (pz (vv (B true) (wln (jn c0 ⟨e,rfl⟩))))))
   have i:=orF g n;refine vb g (wa (J a) (wa (B (decide (a≥127))) (wn (bn i fun m u i=>?_))));rcases bo (decide (a≥127)) with h | h
   ·have y:=anT h u;refine vb h (wa (J a) (wa (B (decide (a≤159))) (wn ?_)));obtain rfl:=si y;refine va (B (decide (a≤159))) ?_;obtain rfl:=si i;exact vv (B (decide (a≤159))) (wln (jn c0 ⟨e,rfl⟩))
   obtain rfl:=anF h u;refine vb h (pz (wa (B false) ?_));obtain rfl:=si i;exact vv (B false) (wln (jn c0 ⟨e,rfl⟩))
  obtain rfl:=anF f t;refine vb f (pz (va (B false) ?_));have j:false=false:=rfl;have d:=orF j n;refine vb j (wa (J a) (wa (B (decide (a≥127))) (wn (bn d fun m k d=>?_))));rcases bo (decide (a≥127)) with b | b
  ·have o:=anT b k;refine vb b (wa (J a) (wa (B (decide (a≤159))) (wn ?_)));obtain rfl:=si o;refine va (B (decide (a≤159))) ?_;obtain rfl:=si d;exact vv (B (decide (a≤159))) (wln (jn c0 ⟨e,rfl⟩))
  obtain rfl:=anF b k;refine vb b (pz (wa (B false) ?_));obtain rfl:=si d;exact vv (B false) (wln (jn c0 ⟨e,rfl⟩))
 rintro E M ⟨q,A,_,rfl,D,rfl,p,rfl⟩;refine nrm (W.ret ?_);obtain rfl:=si H;exact r1 (qq q ⟨p,rfl⟩)
def kO (p0:ah):Option (ah):=
 (if (decide (p0.Col > 0))=true then
 some ((w64 (p0.Col - 1)))
 else
 some (p0.Col)).bind fun a=>
 some (⟨p0.Row,a,false⟩:ah)
theorem vW (s:Own c0 G F) (a:ah) {r:ah} (H:kO a=some r): Calls prog 182 #[.agg #[I a.Row,I a.Col,B a.Pending]] c0.w (aT c0 fun c v=>Own c G (F)∧v= .agg #[I r.Row,I r.Col,B r.Pending]):=by
 unfold kO at H;refine en func182 rfl rfl (sr (me (al 29 [I a.Row,I a.Col,B a.Pending] s) ?_));rintro v4 E P ⟨e,rfl,t⟩;refine me (al 29 [I 0,I 0,B false] t) ?_;rintro v8 M R ⟨o,rfl,u⟩;refine wln (sr (va (Qo e 2) (md (sC 4 2 (B false) [I a.Row,I a.Col,B false] 1 u ⟨rfl,trivial⟩) ?_)));rintro i z f;refine wln (bn H fun d b k=>W.seqJ (Jn i fun c l=>Own c G ((Eb o 29 [I 0,I 0,B false]) :: (Eb e 29 [I a.Row,I d,B false]) :: F)∧l= [(1,Q e),(2,Q o)]) ?_ ?_)
 ·refine sr (va (Qo e 1) (vx (le1 1 u_3 (f.on 1 rfl)) (va (B (decide (a.Col > 0))) (wln (cn b (fun q b=>?_) (fun q b=>?_))))))
  ·refine W.region (va (Qo e 1) (vx (le1 1 u_3 (f.on 1 rfl)) (va (I (w64 (a.Col - 1))) (va (Qo e 1) (md (sC 3 1 (I (w64 (a.Col - 1))) [I a.Row,I (w64 (a.Col - 1)),B false] 1 f ⟨rfl,trivial⟩) ?_)))));rintro p A m;refine wln ?_;obtain rfl:=si b;exact jn p ⟨m,rfl⟩
  refine W.skip (nrm ?_);obtain rfl:=si b;exact jn i ⟨f,rfl⟩
 rintro N S ⟨x,y,_,rfl,l16,rfl,g,rfl⟩;refine sr (vx (leN 29 0 [I a.Row,I d,B false] (g.on 1 rfl)) (md (sA 29 [I a.Row,I d,B false] 0 g ⟨rfl,rfl,rfl,trivial⟩) ?_));rintro j D h;refine wln (W.ret ?_);obtain rfl:=si k;have n:=h.sD 2 [];exact rV (c:=j) (vs:=[I a.Row,I d,B false]) rfl (by kernel_rfl) (by kernel_rfl) (by kernel_rfl) (h.on 0 rfl _ rfl).1 ⟨_,j,rfl,rfl,pt,n,rfl⟩
def ow (sg:Sto) (p0:Option Nat) (p1:Int):Option (Sto×Bool):=
 (eR p1).bind fun s=>
 if (!s)=true then
 some (sg,false)
 else
 (orE p0.isNone ((p0).bind fun j=>
 (sg.place_Pen[j]?).bind fun l=>
 some l.G.isNone)).bind fun i=>
 if i=true then
 some (sg,true)
 else
 (p0).bind fun k=>
 (sg.place_Pen[k]?).bind fun a=>
 (bX sg a.G).bind fun m=>
 (bL sg a.G).bind fun n=>
 (fL a.At m n).bind fun h=>
 (if (p1==13)=true then
 (dk h).bind fun o=>
 (p0).bind fun d=>
 (sg.place_Pen[d]?).bind fun f=>
 (sg.set_place_Pen d (⟨f.G,o,f.Auto⟩:bj)).bind fun b=>
 some (b)
 else
 if (p1==10)=true then
 (eZ sg p0).bind fun p=>
 some (p)
 else
 if (p1==8)=true then
 (kO h).bind fun q=>
 (p0).bind fun e=>
 (sg.place_Pen[e]?).bind fun g=>
 (sg.set_place_Pen e (⟨g.G,q,g.Auto⟩:bj)).bind fun c=>
 some (c)
 else
 some (sg)).bind fun r=>
 some (r,true)
theorem B1 (O0:Own c0 G F) (g:Rel c0 sg G) (p0:Option Nat) (j:Int) {r:Sto×Bool} (S:Pt 2 c0 v1 p0) (H:ow sg p0 j=some r): Calls prog 116 #[v1,J j] c0.w (aT c0 fun c v=>∃G_:Gm,Own c G_ (F)∧Rel c r.1 G_∧v=B r.2):=by
 unfold ow at H;refine en func116 rfl rfl (sr (va (B false) (wln (W.seq (sr (va (J j) (bn H fun o5 h3 H=>cl (lV O0 j h3) ?_)))))));rintro v9 c8 o ⟨O5,rfl⟩;refine va (B (!o5)) (wln (cn H (fun t4 H=>?_) (fun t4 H=>?_)))
 ·refine sr (va (B false) (wln (W.ret (thr ?_))));obtain rfl:=si H;exact r1 (qq c8 ⟨G,O5,g.m,rfl⟩)
 refine W.skip (nrm (W.seq (W.seq (bn H fun c3 s1 H=>W.join (Jn c8 fun c l=>Own c G (F)∧l= [(0,v1),(1,J j),(17,B c3)]) ?_ ?_))))
 ·clear H;refine W.region (va (v1) (vr (B p0.isNone) (by rcases S.m.cs with ⟨y,z⟩ | ⟨b_,y,z⟩ <;> (subst y; rw [z]; kernel_rfl)) ?_));rcases bo (p0.isNone) with x | x
  ·obtain rfl:=orT x s1;exact vb x (pz (pz (ps (va (B true) (wln (jn c8 ⟨O5,rfl⟩))))))
  have u:=orF x s1;refine vb x (wa (v1) (wn (bn u fun a6 v4 u=>?_)));obtain ⟨k1,rfl,u4⟩:=((S.mono o)).get v4;refine va (Q k1) (wa (Q k1) (wn (bn u fun t0 w4 u=>?_)));obtain ⟨v18,y4,x4⟩:=Rel.open_place_Pen (g.mono o) w4 u4;refine vx (le1 0 eJ (O5.gon y4 0 rfl)) (wn (vr (B t0.G.isNone) (by rcases (x4).cs with ⟨y,z⟩ | ⟨b_,y,z⟩ <;> (subst y; rw [z]; kernel_rfl)) ?_));obtain rfl:=si u;exact va (B t0.G.isNone) (wln (jn c8 ⟨O5,rfl⟩))
 rintro e_ w_ ⟨m1,w6,_,rfl,n,rfl,a1,rfl⟩;refine nrm (cn H (fun z4 H=>?_) (fun z4 H=>?_))
 ·refine sr (va (B true) (wln (W.ret (thr ?_))));obtain rfl:=si H;exact r1 (qq m1 ⟨G,a1,g.m,rfl⟩)
 refine W.skip (nrm (W.seq (bn H fun b6 a5 H=>bn H fun d b5 H=>bn H fun s t1 H=>bn H fun t l0 H=>bn H fun b R H=>W.join (Jn m1 fun c l=>∃P,Own c G ((Eb P 29 [I b.Row,I b.Col,B b.Pending]) :: F)∧l= [(0,v1),(1,J j),(5,Q P)]) ?_ ?_)))
 ·clear H;refine rD [] (Kp G []) a1 ?_;intro j4 w1 d0;have x0:Kp G [] j4:=(Kp.nil d0);refine ta 0 (v1) ?_;obtain ⟨k,rfl,c5⟩:=((S.mono (o.trans (n.trans w1)))).get a5;refine ta 1 (Q k) (ta 2 (Qo k 1) ?_);obtain ⟨v39,m0,A⟩:=Rel.open_place_Pen (g.mono (o.trans (n.trans w1))) b5 c5;refine tkx 3 x0 (fun c' u1 hk=>leN 29 1 [I d.At.Row,I d.At.Col,B d.At.Pending] (hk.gon m0 0 rfl)) (ta 4 (Q k) (ta 5 (Q k) (ta 6 (Q k) (tkx 7 x0 (fun c' u1 hk=>le1 0 eJ (hk.gon m0 0 rfl)) (ta 9 (Q k) (ta 10 (Q k) (ta 11 (Q k) (tkx 12 x0 (fun c' u1 hk=>le1 0 eJ (hk.gon m0 0 rfl)) (mn2 8 15 ?_ ?_)))))))))
  ·refine gc 8 (cC d0 g.m d.G A t1) ?_;rintro v47 k4 x6 ⟨e0,rfl⟩;have d5:Kp G [] k4:=(Kp.nil e0);refine ⟨.inr d5,mn2 13 15 ?_ ?_⟩
   ·refine gc 13 (bF e0 g.m d.G A.m l0) ?_;rintro v54 l4 y6 ⟨f0,rfl⟩;have e5:Kp G [] l4:=(Kp.nil f0);refine ⟨.inr e5,mn2 14 15 ?_ ?_⟩
    ·refine gc 14 (eo f0 d.At s t R) ?_;rintro h7 m4 z6 ⟨b1,rfl⟩;have f5:Kp G [] m4:=(Kp.nil b1);refine ⟨.inr f5,o1 15 (gm 15 (al 29 [I 0,I 0,B false] b1) ?_)⟩;rintro i7 n4 a7 ⟨f4,rfl,c1⟩;have g5:Kp G [] n4:=(Kp.nil c1);refine ⟨.inr g5,o1 16 (gD 16 (sA 29 [I b.Row,I b.Col,B b.Pending] 0 c1 ⟨rfl,rfl,rfl,trivial⟩) ?_)⟩;rintro n1 b7 d1;have h5:Kp G [] n1:=(Kp.nil d1);exact ⟨.inr h5,dn (nrm (jn n1 ⟨f4,d1,rfl⟩))⟩
    refine gm 15 (al 29 [I 0,I 0,B false] f0) ?_;rintro j7 o4 c7 ⟨g4,rfl,e1⟩;have i5:Kp G [] o4:=(Kp.nil e1);refine ⟨.inr i5,o1 14 (gc 14 (eo e1 d.At s t R) ?_)⟩;rintro k7 p4 d7 ⟨f1,rfl⟩;have j5:Kp G [] p4:=(Kp.nil f1);refine ⟨.inr j5,o1 16 (gD 16 (sA 29 [I b.Row,I b.Col,B b.Pending] 0 f1 ⟨rfl,rfl,rfl,trivial⟩) ?_)⟩;rintro q1 e7 g1;have k5:Kp G [] q1:=(Kp.nil g1);exact ⟨.inr k5,dn (nrm (jn q1 ⟨g4,g1,rfl⟩))⟩
   refine gm 15 (al 29 [I 0,I 0,B false] e0) ?_;rintro l7 q4 f7 ⟨h4,rfl,h1⟩;have l5:Kp G [] q4:=(Kp.nil h1);refine ⟨.inr l5,o1 13 (gc 13 (bF h1 g.m d.G A.m l0) ?_)⟩;rintro m7 r4 g7 ⟨i1,rfl⟩;have m5:Kp G [] r4:=(Kp.nil i1);refine ⟨.inr m5,o1 14 (gc 14 (eo i1 d.At s t R) ?_)⟩;rintro n6 t2 e6 ⟨j1,rfl⟩;have v3:Kp G [] t2:=(Kp.nil j1);refine ⟨.inr v3,o1 16 (gD 16 (sA 29 [I b.Row,I b.Col,B b.Pending] 0 j1 ⟨rfl,rfl,rfl,trivial⟩) ?_)⟩;rintro g0 f6 T;have w3:Kp G [] g0:=(Kp.nil T);exact ⟨.inr w3,dn (nrm (jn g0 ⟨h4,T,rfl⟩))⟩
  refine gm 15 (al 29 [I 0,I 0,B false] d0) ?_;rintro o6 u2 g6 ⟨s2,rfl,U⟩;have x3:Kp G [] u2:=(Kp.nil U);refine ⟨.inr x3,o1 8 (gc 8 (cC U g.m d.G A.m t1) ?_)⟩;rintro p6 v2 h6 ⟨X,rfl⟩;have y3:Kp G [] v2:=(Kp.nil X);refine ⟨.inr y3,o1 13 (gc 13 (bF X g.m d.G A.m l0) ?_)⟩;rintro q6 w2 i6 ⟨Z,rfl⟩;have z3:Kp G [] w2:=(Kp.nil Z);refine ⟨.inr z3,o1 14 (gc 14 (eo Z d.At s t R) ?_)⟩;rintro r6 x2 j6 ⟨a0,rfl⟩;have a4:Kp G [] x2:=(Kp.nil a0);refine ⟨.inr a4,o1 16 (gD 16 (sA 29 [I b.Row,I b.Col,B b.Pending] 0 a0 ⟨rfl,rfl,rfl,trivial⟩) ?_)⟩;rintro h0 k6 b0;have b4:Kp G [] h0:=(Kp.nil b0);exact ⟨.inr b4,dn (nrm (jn h0 ⟨s2,b0,rfl⟩))⟩
 rintro e_ w_ ⟨i0,v5,_,rfl,i,rfl,P,h,rfl⟩;refine nrm (bn H fun c4 a c2=>W.seqJ (Jn i0 fun c l=>∃G_,Own c G_ ((Eb P 29 [I b.Row,I b.Col,B b.Pending]) :: F)∧l= []∧Rel c c4 G_) ?_ ?_)
 ·refine sr (va (J j) (wln (W.block (sr (vv (B (j==13)) (wln (cn a (fun d3 a=>?_) (fun d3 a=>?_))))))))
  ·refine W.region (va (v1) (vx (leN 29 0 [I b.Row,I b.Col,B b.Pending] (h.on 0 rfl)) (bn a fun e e3 a=>cl (jB h b e3) ?_)));rintro s6 t5 D ⟨d2,rfl⟩;refine bn a fun c6 f3 a=>?_;obtain ⟨p,rfl,j0⟩:=((S.mono (o.trans (n.trans (i.trans D))))).get f3;refine va (Q p) (va (Qo p 1) (bn a fun u0 g3 a=>?_));obtain ⟨M,j3,i3⟩:=Rel.open_place_Pen (g.mono (o.trans (n.trans (i.trans D)))) g3 j0;refine md (gB 29 1 [I e.Row,I e.Col,B e.Pending] [M,I e.Row,I e.Col,B e.Pending,B u0.Auto] 0 d2 j3 ⟨rfl,rfl,rfl,trivial⟩) ?_;rintro y2 q0 e2;refine bn a fun d4 k3 a=>?_;obtain ⟨x1,f2,n2,x5,q5⟩:=Rel.put_place_Pen e2 (g.mono (o.trans (n.trans (i.trans (D.trans q0))))) (E':=[(Eb p 126 [M,I e.Row,I e.Col,B e.Pending,B u0.Auto])]) k3 ⟨p,M,(tm j0),rfl,(i3.mono q0)⟩;refine WL.nil (bkn (nrm ?_));obtain rfl:=si a;exact jn y2 ⟨x1,f2,rfl,n2⟩
  refine sr (vv (B (j==10)) (wln (cn a (fun l3 a=>?_) (fun l3 a=>?_))))
  ·refine W.region (va (v1) (bn a fun v6 m3 a=>cl (mW h g.m p0 S.m m3) ?_));rintro t6 z2 l6 ⟨y1,g2,o2,rfl⟩;refine WL.nil (bkn (nrm ?_));obtain rfl:=si a;exact jn z2 ⟨y1,g2,rfl,o2⟩
  refine sr (vv (B (j==8)) (wln (cn a (fun n3 a=>?_) (fun n3 a=>?_))))
  ·refine W.region (va (v1) (vx (leN 29 0 [I b.Row,I b.Col,B b.Pending] (h.on 0 rfl)) (bn a fun f o3 a=>cl (vW h b o3) ?_)));rintro u6 u5 E ⟨i2,rfl⟩;refine bn a fun d6 p3 a=>?_;obtain ⟨q,rfl,k0⟩:=((S.mono (o.trans (n.trans (i.trans E))))).get p3;refine va (Q q) (va (Qo q 1) (bn a fun v0 q3 a=>?_));obtain ⟨N,t3,s3⟩:=Rel.open_place_Pen (g.mono (o.trans (n.trans (i.trans E)))) q3 k0;refine md (gB 29 1 [I f.Row,I f.Col,B f.Pending] [N,I f.Row,I f.Col,B f.Pending,B v0.Auto] 0 i2 t3 ⟨rfl,rfl,rfl,trivial⟩) ?_;rintro a3 s0 j2;refine bn a fun e4 u3 a=>?_;obtain ⟨z1,k2,p2,y5,r5⟩:=Rel.put_place_Pen j2 (g.mono (o.trans (n.trans (i.trans (E.trans s0))))) (E':=[(Eb q 126 [N,I f.Row,I f.Col,B f.Pending,B v0.Auto])]) u3 ⟨q,N,(tm k0),rfl,(s3.mono s0)⟩;refine WL.nil (bkn (nrm ?_));obtain rfl:=si a;exact jn a3 ⟨z1,k2,rfl,p2⟩
  refine W.skip (bkn (nrm ?_));obtain rfl:=si a;exact jn i0 ⟨G,h,rfl,g.m⟩
 rintro e_ w_ ⟨b3,w5,_,rfl,m6,rfl,b2,l2,rfl,q2⟩;refine sr (va (B true) (wln (W.ret ?_)));obtain rfl:=si c2;have m2:=l2.sD 1 [];exact r1 (qq b3 ⟨b2,m2,q2,rfl⟩)
def dP (p0:Int):Option (Bool):=
 (bT (decide (p0≥0)) (some (decide (p0≤31)))).bind fun b=>
 (orE b ((bT (decide (p0≥127)) (some (decide (p0≤159)))).bind fun a=>
 some a)).bind fun c=>
 some c
theorem oQ (e:Own c0 G F) (a:Int) {r:Bool} (H:dP a=some r): Calls prog 39 #[J a] c0.w (aT c0 fun c v=>Own c G (F)∧v=B r):=by
 unfold dP at H;refine en func39 rfl rfl (sr (va (B false) (wln (W.seq (bn H fun z t H=>bn H fun s n H=>W.join (Jn c0 fun c l=>Own c G (F)∧l= [(2,B s)]) ?_ ?_)))))
 ·clear H;refine W.region (va (J a) (va (B (decide (a≥0))) ?_));rcases bo (decide (a≥0)) with f | f
  ·have x:=anT f t;refine vb f (wa (J a) (wa (B (decide (a≤31))) ?_));obtain rfl:=si x;refine va (B (decide (a≤31))) ?_;rcases bo (decide (a≤31)) with g | g
   ·obtain rfl:=orT g n;exact vb g (pz (pz (pz (vv (B true) (wln (jn c0 ⟨e,rfl⟩))))))
   have i:=orF g n;refine vb g (wa (J a) (wa (B (decide (a≥127))) (wn (bn i fun m u i=>?_))));rcases bo (decide (a≥127)) with h | h
   ·have y:=anT h u;refine vb h (wa (J a) (wa (B (decide (a≤159))) (wn ?_)));obtain rfl:=si y;refine va (B (decide (a≤159))) ?_;obtain rfl:=si i;exact vv (B (decide (a≤159))) (wln (jn c0 ⟨e,rfl⟩))
   obtain rfl:=anF h u;refine vb h (pz (wa (B false) ?_));obtain rfl:=si i;exact vv (B false) (wln (jn c0 ⟨e,rfl⟩))
  obtain rfl:=anF f t;refine vb f (pz (va (B false) ?_));have j:false=false:=rfl;have d:=orF j n;refine vb j (wa (J a) (wa (B (decide (a≥127))) (wn (bn d fun m k d=>?_))));rcases bo (decide (a≥127)) with b | b
  ·have o:=anT b k;refine vb b (wa (J a) (wa (B (decide (a≤159))) (wn ?_)));obtain rfl:=si o;refine va (B (decide (a≤159))) ?_;obtain rfl:=si d;exact vv (B (decide (a≤159))) (wln (jn c0 ⟨e,rfl⟩))
  obtain rfl:=anF b k;refine vb b (pz (wa (B false) ?_));obtain rfl:=si d;exact vv (B false) (wln (jn c0 ⟨e,rfl⟩))
 rintro E M ⟨q,A,_,rfl,D,rfl,p,rfl⟩;refine nrm (W.ret ?_);obtain rfl:=si H;exact r1 (qq q ⟨p,rfl⟩)
def dF (p0:ag) (p1:Int):Option (ag×Bool):=
 (if (p1==13)=true then
 (bW p0).bind fun f=>
 some (f.L,f.At.Row,0,false,f.Auto)
 else
 some (p0.L,p0.At.Row,p0.At.Col,p0.At.Pending,p0.Auto)).bind fun b=>
 (if (p1==10)=true then
 (dz (⟨b.1,(⟨b.2.1,b.2.2.1,b.2.2.2.1⟩:ah),b.2.2.2.2⟩:ag)).bind fun c=>
 some (c.L,c.At.Row,c.At.Col,c.At.Pending,c.Auto)
 else
 some (b.1,b.2.1,b.2.2.1,b.2.2.2.1,b.2.2.2.2)).bind fun a=>
 (if (p1==8)=true then
 (bW (⟨a.1,(⟨a.2.1,a.2.2.1,a.2.2.2.1⟩:ah),a.2.2.2.2⟩:ag)).bind fun e=>
 some (e.L,e.At.Row,(aV 0 (w64 (e.At.Col - 1))),false,e.Auto)
 else
 some (a.1,a.2.1,a.2.2.1,a.2.2.2.1,a.2.2.2.2)).bind fun d=>
 (dP p1).bind fun g=>
 some ((⟨d.1,(⟨d.2.1,d.2.2.1,d.2.2.2.1⟩:ah),d.2.2.2.2⟩:ag),g)
def lJ (p0:Int):Option (Bool):=
 (if (p0==1)=true then
 some (p0==1)
 else
 if (p0==2)=true then
 some (p0==2)
 else
 some (p0==3)).bind fun c=>
 if c=true then
 some true
 else
 (if (p0==4)=true then
 some (p0==4)
 else
 some (p0==5)).bind fun a=>
 if a=true then
 some true
 else
 (if (p0==10)=true then
 some (p0==10)
 else
 some (p0==11)).bind fun b=>
 if b=true then
 some true
 else
 some false
theorem xx (o:Own c0 G F) (a:Int) {r:Bool} (H:lJ a=some r): Calls prog 317 #[I a] c0.w (aT c0 fun c v=>Own c G (F)∧v=B r):=by
 unfold lJ at H;refine en func317 rfl rfl (sr (va (B false) (wln (W.seq (sr (va (I a) (wln (W.block (W.seq (W.block (W.block (W.block (W.seq (W.seq (bn H fun E b i=>W.seqJ (Jn c0 fun c l=>Own c G (F)∧l= [(3,I a),(4,B E)]) ?_ ?_)))))))))))))))
 ·refine sr (vv (B (a==1)) (wln (cn b (fun M b=>?_) (fun M b=>?_))))
  ·refine W.skip (nrm ?_);obtain rfl:=si b;exact jn c0 ⟨o,rfl⟩
  refine sr (vv (B (a==2)) (wln (cn b (fun N b=>?_) (fun N b=>?_))))
  ·refine W.skip (nrm ?_);obtain rfl:=si b;exact jn c0 ⟨o,rfl⟩
  refine W.region (vv (B (a==3)) (wln ?_));obtain rfl:=si b;exact jn c0 ⟨o,rfl⟩
 rintro t D ⟨k,U,_,rfl,X,rfl,p,rfl⟩;refine cn i (fun u i=>?_) (fun u i=>?_)
 ·refine W.exit (thx (thx (bke (bkn (bkn (nrm (W.seq (sr (va (B true) (wln (W.ret (thr (bkr (thr ?_))))))))))))));obtain rfl:=si i;exact r1 (qq k ⟨p,rfl⟩)
 refine W.skip (nrm (W.seq (bn i fun q d e=>W.seqJ (Jn k fun c l=>Own c G (F)∧l= [(3,I a),(8,B q)]) ?_ ?_)))
 ·refine sr (vv (B (a==4)) (wln (cn d (fun x d=>?_) (fun x d=>?_))))
  ·refine W.skip (nrm ?_);obtain rfl:=si d;exact jn k ⟨p,rfl⟩
  refine W.region (vv (B (a==5)) (wln ?_));obtain rfl:=si d;exact jn k ⟨p,rfl⟩
 rintro t D ⟨h,P,_,rfl,S,rfl,j,rfl⟩;refine cn e (fun y e=>?_) (fun y e=>?_)
 ·refine W.exit (thx (thx (bko rfl (bke (bkn (nrm (W.seq (sr (va (B true) (wln (W.ret (thr (bkr (thr ?_))))))))))))));obtain rfl:=si e;exact r1 (qq h ⟨j,rfl⟩)
 refine W.skip (nrm (bn e fun s f g=>W.seqJ (Jn h fun c l=>Own c G (F)∧l= [(11,B s)]) ?_ ?_))
 ·refine sr (vv (B (a==10)) (wln (cn f (fun z f=>?_) (fun z f=>?_))))
  ·refine W.skip (nrm ?_);obtain rfl:=si f;exact jn h ⟨j,rfl⟩
  refine W.region (vv (B (a==11)) (wln ?_));obtain rfl:=si f;exact jn h ⟨j,rfl⟩
 rintro t D ⟨n,R,_,rfl,T,rfl,m,rfl⟩;refine cn g (fun A g=>?_) (fun A g=>?_)
 ·refine W.exit (thx (bko rfl (bko rfl (bke (nrm (W.seq (sr (va (B true) (wln (W.ret (thr (bkr (thr ?_)))))))))))));obtain rfl:=si g;exact r1 (qq n ⟨m,rfl⟩)
 refine W.skip (nrm (W.exit (bko rfl (bko rfl (bko rfl (thx (bke (nrm (sr (va (B false) (wln (W.ret ?_))))))))))));obtain rfl:=si g;exact r1 (qq n ⟨m,rfl⟩)
def mw (p0:ao):Option (Int):=
 (lJ p0.Break).bind fun b=>
 if b=true then
 some 0
 else
 (orE (p0.East==1) (some (p0.East==2))).bind fun a=>
 if a=true then
 some 2
 else
 some 1
theorem vD (q:Own c0 G F) (a:ao) {r:Int} (H:mw a=some r): Calls prog 305 #[.agg #[I a.Break,B a.Pict,I a.Conj,I a.East]] c0.w (aT c0 fun c v=>Own c G (F)∧v=I r):=by
 unfold mw at H;refine en func305 rfl rfl (sr (me (bx 238 [I a.Break,B a.Pict,I a.Conj,I a.East] q) ?_));rintro v5 z D ⟨i,rfl,s,k⟩;refine va (I 0) (wln (W.seq (W.block (sr (va (Q i) (vx (l1 u_3 (k 0 _ rfl)) (bn H fun p t H=>cl (xx s a.Break t) ?_)))))));rintro v12 d x ⟨h,rfl⟩;refine va (B p) (wln (cn H (fun n H=>?_) (fun n H=>?_)))
 ·refine sr (va (I 0) (wln (W.ret (bkr (thr ?_)))));obtain rfl:=si H;exact r1 (qq d ⟨h,rfl⟩)
 refine W.seq (bn H fun j g H=>W.join (Jn d fun c l=>Own c G (F)∧l= [(7,B j)]) ?_ ?_)
 ·clear H;refine W.region (va (Qo i (0+3)) (vx (l1 u_3 ((mm k) 3 _ rfl)) (va (B (a.East==1)) ?_)));rcases bo (a.East==1) with b | b
  ·obtain rfl:=orT b g;exact vb b (pz (ps (vv (B true) (wln (jn d ⟨h,rfl⟩)))))
  have m:=orF b g;refine vb b (wa (Qo i (0+3)) (wn (vx (l1 u_3 ((mm k) 3 _ rfl)) (wa (B (a.East==2)) ?_))));obtain rfl:=si m;exact vv (B (a.East==2)) (wln (jn d ⟨h,rfl⟩))
 rintro A E ⟨f,u,_,rfl,y,rfl,e,rfl⟩;refine nrm (cn H (fun o H=>?_) (fun o H=>?_))
 ·refine sr (va (I 2) (wln (W.ret (bkr (thr ?_)))));obtain rfl:=si H;exact r1 (qq f ⟨e,rfl⟩)
 refine W.skip (bkn (nrm (sr (va (I 1) (wln (W.ret ?_))))));obtain rfl:=si H;exact r1 (qq f ⟨e,rfl⟩)
def cg (p0:aS) (p1:Int) (p2:ao):Option (Bool):=
 (mw p2).bind fun d=>
 if (d==2)=true then
 some true
 else
 if (!p0.some)=true then
 some false
 else
 (bT (p1==65039) (some p0.pict)).bind fun a=>
 (orE a (some p2.Pict)).bind fun b=>
 (orE b (some (p2.Break==6))).bind fun c=>
 some c
theorem jR {b:Nat} {r0_0:Value} {r0_1:Value} {r0_2:Value} {r0_3:Value} {r0_4:Value} {r0_5:Value} {r0_6:Value} {r0_7:Value} {r0_8:Value} {r0_9:Value} {r0_10:Value} {r0_11:Value} {r0_12:Value} {r0_13:Value} {r0_14:Value} {r0_15:Value} {r0_16:Value} {r0_17:Value} {r0_18:Value} {r0_19:Value} {r0_20:Value} (d:aS) (o:Int) (a:ao) (S:Own c0 G ((Eb b 338 [r0_0,r0_1,r0_2,r0_3,r0_4,r0_5,r0_6,r0_7,r0_8,r0_9,r0_10,r0_11,r0_12,r0_13,r0_14,r0_15,r0_16,r0_17,r0_18,r0_19,r0_20,B d.some,B d.pict,B d.wide]) :: F)) {r:Bool} (H:cg d o a=some r): Calls prog 265 #[.pointer (some ⟨b,21,none⟩),J o,.agg #[I a.Break,B a.Pict,I a.Conj,I a.East]] c0.w (aT c0 fun c v=>Own c G ((Eb b 338 [r0_0,r0_1,r0_2,r0_3,r0_4,r0_5,r0_6,r0_7,r0_8,r0_9,r0_10,r0_11,r0_12,r0_13,r0_14,r0_15,r0_16,r0_17,r0_18,r0_19,r0_20,B d.some,B d.pict,B d.wide]) :: F)∧v=B r):=by
 unfold cg at H;refine en func265 rfl rfl (sr (me (bx 238 [I a.Break,B a.Pict,I a.Conj,I a.East] S) ?_));rintro v5 c4 l4 ⟨p,rfl,T,n⟩;refine va (B false) (wln (W.seq (W.block (sr (vx (lN 238 n) (bn H fun u Z H=>cl (vD T a Z) ?_))))));rintro v12 e b0 ⟨f,rfl⟩;refine vv (B (u==2)) (wln (cn H (fun P H=>?_) (fun P H=>?_)))
 ·refine sr (va (B true) (wln (W.ret (bkr (thr ?_)))));obtain rfl:=si H;exact r1 (qq e ⟨f,rfl⟩)
 refine sr (vv (Qo b 21) (va (Qo b 21) (vx (le1 21 u_4 (f.on 0 rfl)) (vv (B (!d.some)) (wln (cn H (fun R H=>?_) (fun R H=>?_)))))))
 ·refine sr (va (B false) (wln (W.ret (bkr (thr ?_)))));obtain rfl:=si H;exact r1 (qq e ⟨f,rfl⟩)
 refine W.skip (bkn (nrm (W.seq (bn H fun U q H=>bn H fun X m H=>bn H fun x g H=>W.join (Jn e fun c l=>Own c G ((Eb b 338 [r0_0,r0_1,r0_2,r0_3,r0_4,r0_5,r0_6,r0_7,r0_8,r0_9,r0_10,r0_11,r0_12,r0_13,r0_14,r0_15,r0_16,r0_17,r0_18,r0_19,r0_20,B d.some,B d.pict,B d.wide]) :: F)∧l= [(6,B x)]) ?_ ?_))))
 ·clear H;refine W.region (va (J o) (va (B (o==65039)) ?_));rcases bo (o==65039) with h | h
  ·have y:=anT h q;refine vb h (wa (Qo b 21) (wa (Qo b 21) (wa (Qo b 22) (wn (vx (le1 22 u_4 (f.on 0 rfl)) ?_)))));obtain rfl:=si y;refine va (B d.pict) ?_;rcases bo (d.pict) with i | i
   ·obtain rfl:=orT i m;refine vb i (pz (va (B true) ?_));have s:true=true:=rfl;obtain rfl:=orT s g;exact vb s (pz (ps (vv (B true) (wln (jn e ⟨f,rfl⟩)))))
   have z:=orF i m;refine vb i (wa (Qo p (0+1)) (wn (vx (l1 u_4 ((mm n) 1 _ rfl)) ?_)));obtain rfl:=si z;refine va (B a.Pict) ?_;rcases bo (a.Pict) with j | j
   ·obtain rfl:=orT j g;exact vb j (pz (ps (vv (B true) (wln (jn e ⟨f,rfl⟩)))))
   have A:=orF j g;refine vb j (wa (Q p) (wn (vx (l1 u_3 ((mm n) 0 _ rfl)) (wa (B (a.Break==6)) ?_))));obtain rfl:=si A;exact vv (B (a.Break==6)) (wln (jn e ⟨f,rfl⟩))
  obtain rfl:=anF h q;refine vb h (pz (pz (va (B false) ?_)));have t:false=false:=rfl;have D:=orF t m;refine vb t (wa (Qo p (0+1)) (wn (vx (l1 u_4 ((mm n) 1 _ rfl)) ?_)));obtain rfl:=si D;refine va (B a.Pict) ?_;rcases bo (a.Pict) with k | k
  ·obtain rfl:=orT k g;exact vb k (pz (ps (vv (B true) (wln (jn e ⟨f,rfl⟩)))))
  have E:=orF k g;refine vb k (wa (Q p) (wn (vx (l1 u_3 ((mm n) 0 _ rfl)) (wa (B (a.Break==6)) ?_))));obtain rfl:=si E;exact vv (B (a.Break==6)) (wln (jn e ⟨f,rfl⟩))
 rintro e_ w_ ⟨N,a0,_,rfl,d0,rfl,M,rfl⟩;refine nrm (W.ret ?_);obtain rfl:=si H;exact r1 (qq N ⟨M,rfl⟩)
def bU (p0:aS) (p1:Int) (p2:ao):Option (aS×Int):=
 if false=true then
 some (p0,1)
 else
 (orE p0.wide ((cg p0 p1 p2).bind fun b=>
 some b)).bind fun a=>
 if a=true then
 some ((⟨true,p2.Pict,a⟩:aS),2)
 else
 some ((⟨true,p2.Pict,a⟩:aS),1)
theorem kz {a:Nat} {r0_0:Value} {r0_1:Value} {r0_2:Value} {r0_3:Value} {r0_4:Value} {r0_5:Value} {r0_6:Value} {r0_7:Value} {r0_8:Value} {r0_9:Value} {r0_10:Value} {r0_11:Value} {r0_12:Value} {r0_13:Value} {r0_14:Value} {r0_15:Value} {r0_16:Value} {r0_17:Value} {r0_18:Value} {r0_19:Value} {r0_20:Value} (b:aS) (k:Int) (d:ao) (T:Own c0 G ((Eb a 338 [r0_0,r0_1,r0_2,r0_3,r0_4,r0_5,r0_6,r0_7,r0_8,r0_9,r0_10,r0_11,r0_12,r0_13,r0_14,r0_15,r0_16,r0_17,r0_18,r0_19,r0_20,B b.some,B b.pict,B b.wide]) :: F)) {r:aS×Int} (H:bU b k d=some r): Calls prog 215 #[.pointer (some ⟨a,21,none⟩),J k,.agg #[I d.Break,B d.Pict,I d.Conj,I d.East]] c0.w (aT c0 fun c v=>Own c G ((Eb a 338 [r0_0,r0_1,r0_2,r0_3,r0_4,r0_5,r0_6,r0_7,r0_8,r0_9,r0_10,r0_11,r0_12,r0_13,r0_14,r0_15,r0_16,r0_17,r0_18,r0_19,r0_20,B r.1.some,B r.1.pict,B r.1.wide]) :: F)∧v=I r.2):=by
 unfold bU at H;refine en func215 rfl rfl (sr (me (bx 238 [I d.Break,B d.Pict,I d.Conj,I d.East] T) ?_));rintro v5 X l4 ⟨x,rfl,m,P⟩;refine va (I 0) (wln (W.seq (sr (va (Qo a 21) (va (B false) (wln (W.cond (t:=false) (by kernel_rfl) (fun n=>?_) (fun n=>?_))))))))
 ·cases n
 have H:=ie n H;refine W.skip (nrm (W.seq (bn H fun e N H=>W.join (Jn X fun c l=>Own c G ((Eb a 338 [r0_0,r0_1,r0_2,r0_3,r0_4,r0_5,r0_6,r0_7,r0_8,r0_9,r0_10,r0_11,r0_12,r0_13,r0_14,r0_15,r0_16,r0_17,r0_18,r0_19,r0_20,B b.some,B b.pict,B e]) :: F)∧l= [(0,.pointer (some ⟨a,21,none⟩)),(5,Q x)]) ?_ ?_)))
 ·clear H;refine W.region (vv (Qo a 21) (va (Qo a 21) (va (Qo a 23) (vx (le1 23 u_4 (m.on 0 rfl)) ?_))));rcases bo (b.wide) with j | j
  ·obtain rfl:=orT j N;refine vb j (pz (pz (va (B true) (va (Qo a 21) (va (Qo a 23) (md (sC 4 23 (B true) [r0_0,r0_1,r0_2,r0_3,r0_4,r0_5,r0_6,r0_7,r0_8,r0_9,r0_10,r0_11,r0_12,r0_13,r0_14,r0_15,r0_16,r0_17,r0_18,r0_19,r0_20,B b.some,B b.pict,B true] 0 m ⟨rfl,trivial⟩) ?_))))));rintro y e0 U;exact wln (jn y ⟨U,rfl⟩)
  have g:=orF j N;refine vb j (wa (Qo a 21) (wa (J k) (wn (vx (lN 238 P) (wn (bn g fun f E g=>cl (jR b k d m E) ?_))))));rintro v19 Z f0 ⟨o,rfl⟩;obtain rfl:=si g;refine va (B f) (va (Qo a 21) (va (Qo a 23) (md (sC 4 23 (B f) [r0_0,r0_1,r0_2,r0_3,r0_4,r0_5,r0_6,r0_7,r0_8,r0_9,r0_10,r0_11,r0_12,r0_13,r0_14,r0_15,r0_16,r0_17,r0_18,r0_19,r0_20,B b.some,B b.pict,B f] 0 o ⟨rfl,trivial⟩) ?_)));rintro z g0 p;exact wln (jn z ⟨p,rfl⟩)
 rintro e_ w_ ⟨a0,b0,_,rfl,h0,rfl,q,rfl⟩;refine nrm (W.seq (rD [] (Kp G0 []) q ?_));intro A i0 s;have l0:Kp G0 [] A:=Kp.nil0;refine ta 0 (.pointer (some ⟨a,21,none⟩)) (ta 1 (Qo a 21) (ta 2 (Qo x (0+1)) (tx 3 (fun c' d0=>l1 u_4 ((mm P) 1 _ rfl)) (ta 4 (Qo a 21) (ta 5 (Qo a 21) (o1 6 (gD 6 (sC 4 21 (B true) [r0_0,r0_1,r0_2,r0_3,r0_4,r0_5,r0_6,r0_7,r0_8,r0_9,r0_10,r0_11,r0_12,r0_13,r0_14,r0_15,r0_16,r0_17,r0_18,r0_19,r0_20,B true,B b.pict,B e] 0 s ⟨rfl,trivial⟩) ?_)))))));rintro D j0 u;have R:Kp G0 [] D:=Kp.nil0;refine ⟨.inr R,ta 7 (.pointer (some ⟨a,21,none⟩)) (ta 8 (Qo a 22) (o1 9 (gD 9 (sC 4 22 (B d.Pict) [r0_0,r0_1,r0_2,r0_3,r0_4,r0_5,r0_6,r0_7,r0_8,r0_9,r0_10,r0_11,r0_12,r0_13,r0_14,r0_15,r0_16,r0_17,r0_18,r0_19,r0_20,B true,B d.Pict,B e] 0 u ⟨rfl,trivial⟩) ?_)))⟩;rintro i k0 h;have S:Kp G0 [] i:=Kp.nil0;refine ⟨.inr S,dn (nrm (W.seq (sr (vv (Qo a 21) (va (Qo a 23) (vx (le1 23 u_4 (h.on 0 rfl)) (wln (cn H (fun M H=>?_) (fun M H=>?_)))))))))⟩
 ·refine sr (va (I 2) (wln (W.ret (thr ?_))));obtain rfl:=si H;exact r1 (qq i ⟨h,rfl⟩)
 refine W.skip (nrm (sr (va (I 1) (wln (W.ret ?_)))));obtain rfl:=si H;exact r1 (qq i ⟨h,rfl⟩)
def cQ (p0:aJ):Option (Int):=
 if false=true then
 some 0
 else
 some p0.n
theorem km {b:Nat} {r0_0:Value} {r0_1:Value} {r0_2:Value} {r0_3:Value} {r0_21:Value} {r0_22:Value} {r0_23:Value} (a:aJ) (e:Own c0 G ((Eb b 338 [r0_0,r0_1,r0_2,r0_3,J a.text.1,J a.text.2.1,J a.text.2.2.1,J a.text.2.2.2.1,J a.text.2.2.2.2.1,J a.text.2.2.2.2.2.1,J a.text.2.2.2.2.2.2.1,J a.text.2.2.2.2.2.2.2.1,J a.text.2.2.2.2.2.2.2.2.1,J a.text.2.2.2.2.2.2.2.2.2.1,J a.text.2.2.2.2.2.2.2.2.2.2.1,J a.text.2.2.2.2.2.2.2.2.2.2.2.1,J a.text.2.2.2.2.2.2.2.2.2.2.2.2.1,J a.text.2.2.2.2.2.2.2.2.2.2.2.2.2.1,J a.text.2.2.2.2.2.2.2.2.2.2.2.2.2.2.1,J a.text.2.2.2.2.2.2.2.2.2.2.2.2.2.2.2,I a.n,r0_21,r0_22,r0_23]) :: F)) {r:Int} (H:cQ a=some r): Calls prog 318 #[.pointer (some ⟨b,4,none⟩)] c0.w (aT c0 fun c v=>Own c G ((Eb b 338 [r0_0,r0_1,r0_2,r0_3,J a.text.1,J a.text.2.1,J a.text.2.2.1,J a.text.2.2.2.1,J a.text.2.2.2.2.1,J a.text.2.2.2.2.2.1,J a.text.2.2.2.2.2.2.1,J a.text.2.2.2.2.2.2.2.1,J a.text.2.2.2.2.2.2.2.2.1,J a.text.2.2.2.2.2.2.2.2.2.1,J a.text.2.2.2.2.2.2.2.2.2.2.1,J a.text.2.2.2.2.2.2.2.2.2.2.2.1,J a.text.2.2.2.2.2.2.2.2.2.2.2.2.1,J a.text.2.2.2.2.2.2.2.2.2.2.2.2.2.1,J a.text.2.2.2.2.2.2.2.2.2.2.2.2.2.2.1,J a.text.2.2.2.2.2.2.2.2.2.2.2.2.2.2.2,I a.n,r0_21,r0_22,r0_23]) :: F)∧v=I r):=by
 unfold cQ at H;refine en func318 rfl rfl (sr (va (I 0) (wln (W.seq (sr (va (Qo b 4) (va (B false) (wln (W.cond (t:=false) (by kernel_rfl) (fun d=>?_) (fun d=>?_))))))))))
 ·cases d
 have H:=ie d H;refine W.skip (nrm (sr (vv (Qo b 4) (va (Qo b 20) (vx (le1 20 u_3 (e.on 0 rfl)) (va (I a.n) (wln (W.ret ?_))))))));obtain rfl:=si H;exact r1 (qq c0 ⟨e,rfl⟩)
def bE (p0:aJ):Option (Bool):=
 (cQ p0).bind fun a=>
 some (a==16)
theorem fB {b:Nat} {r0_0:Value} {r0_1:Value} {r0_2:Value} {r0_3:Value} {r0_21:Value} {r0_22:Value} {r0_23:Value} (a:aJ) (e:Own c0 G ((Eb b 338 [r0_0,r0_1,r0_2,r0_3,J a.text.1,J a.text.2.1,J a.text.2.2.1,J a.text.2.2.2.1,J a.text.2.2.2.2.1,J a.text.2.2.2.2.2.1,J a.text.2.2.2.2.2.2.1,J a.text.2.2.2.2.2.2.2.1,J a.text.2.2.2.2.2.2.2.2.1,J a.text.2.2.2.2.2.2.2.2.2.1,J a.text.2.2.2.2.2.2.2.2.2.2.1,J a.text.2.2.2.2.2.2.2.2.2.2.2.1,J a.text.2.2.2.2.2.2.2.2.2.2.2.2.1,J a.text.2.2.2.2.2.2.2.2.2.2.2.2.2.1,J a.text.2.2.2.2.2.2.2.2.2.2.2.2.2.2.1,J a.text.2.2.2.2.2.2.2.2.2.2.2.2.2.2.2,I a.n,r0_21,r0_22,r0_23]) :: F)) {r:Bool} (H:bE a=some r): Calls prog 306 #[.pointer (some ⟨b,4,none⟩)] c0.w (aT c0 fun c v=>Own c G ((Eb b 338 [r0_0,r0_1,r0_2,r0_3,J a.text.1,J a.text.2.1,J a.text.2.2.1,J a.text.2.2.2.1,J a.text.2.2.2.2.1,J a.text.2.2.2.2.2.1,J a.text.2.2.2.2.2.2.1,J a.text.2.2.2.2.2.2.2.1,J a.text.2.2.2.2.2.2.2.2.1,J a.text.2.2.2.2.2.2.2.2.2.1,J a.text.2.2.2.2.2.2.2.2.2.2.1,J a.text.2.2.2.2.2.2.2.2.2.2.2.1,J a.text.2.2.2.2.2.2.2.2.2.2.2.2.1,J a.text.2.2.2.2.2.2.2.2.2.2.2.2.2.1,J a.text.2.2.2.2.2.2.2.2.2.2.2.2.2.2.1,J a.text.2.2.2.2.2.2.2.2.2.2.2.2.2.2.2,I a.n,r0_21,r0_22,r0_23]) :: F)∧v=B r):=by
 unfold bE at H;refine en func306 rfl rfl (sr (va (B false) (wln (sr (va (Qo b 4) (bn H fun d h H=>cl (km a e h) ?_))))));rintro v8 g i ⟨f,rfl⟩;refine vv (B (d==16)) (wln (W.ret ?_));obtain rfl:=si H;exact r1 (qq g ⟨f,rfl⟩)
def ba (p0:aJ) (p1:Int):Option (aJ×Bool):=
 (orE false ((bE p0).bind fun c=>
 some c)).bind fun b=>
 if b=true then
 some (p0,false)
 else
 (idx (a16 p0.text) p0.n).bind fun d=>
 (some (xz p0.text p0.n p1)).bind fun a=>
 some ((⟨a,(w64 (p0.n+1))⟩:aJ),true)
theorem kn {d:Nat} {r0_0:Value} {r0_1:Value} {r0_2:Value} {r0_3:Value} {r0_21:Value} {r0_22:Value} {r0_23:Value} (a:aJ) (f:Int) (M:Own c0 G ((Eb d 338 [r0_0,r0_1,r0_2,r0_3,J a.text.1,J a.text.2.1,J a.text.2.2.1,J a.text.2.2.2.1,J a.text.2.2.2.2.1,J a.text.2.2.2.2.2.1,J a.text.2.2.2.2.2.2.1,J a.text.2.2.2.2.2.2.2.1,J a.text.2.2.2.2.2.2.2.2.1,J a.text.2.2.2.2.2.2.2.2.2.1,J a.text.2.2.2.2.2.2.2.2.2.2.1,J a.text.2.2.2.2.2.2.2.2.2.2.2.1,J a.text.2.2.2.2.2.2.2.2.2.2.2.2.1,J a.text.2.2.2.2.2.2.2.2.2.2.2.2.2.1,J a.text.2.2.2.2.2.2.2.2.2.2.2.2.2.2.1,J a.text.2.2.2.2.2.2.2.2.2.2.2.2.2.2.2,I a.n,r0_21,r0_22,r0_23]) :: F)) {r:aJ×Bool} (H:ba a f=some r): Calls prog 280 #[.pointer (some ⟨d,4,none⟩),J f] c0.w (aT c0 fun c v=>Own c G ((Eb d 338 [r0_0,r0_1,r0_2,r0_3,J r.1.text.1,J r.1.text.2.1,J r.1.text.2.2.1,J r.1.text.2.2.2.1,J r.1.text.2.2.2.2.1,J r.1.text.2.2.2.2.2.1,J r.1.text.2.2.2.2.2.2.1,J r.1.text.2.2.2.2.2.2.2.1,J r.1.text.2.2.2.2.2.2.2.2.1,J r.1.text.2.2.2.2.2.2.2.2.2.1,J r.1.text.2.2.2.2.2.2.2.2.2.2.1,J r.1.text.2.2.2.2.2.2.2.2.2.2.2.1,J r.1.text.2.2.2.2.2.2.2.2.2.2.2.2.1,J r.1.text.2.2.2.2.2.2.2.2.2.2.2.2.2.1,J r.1.text.2.2.2.2.2.2.2.2.2.2.2.2.2.2.1,J r.1.text.2.2.2.2.2.2.2.2.2.2.2.2.2.2.2,I r.1.n,r0_21,r0_22,r0_23]) :: F)∧v=B r.2):=by
 unfold ba at H;refine en func280 rfl rfl (sr (va (B false) (wln (W.seq (W.seq (bn H fun u R H=>W.join (Jn c0 fun c l=>Own c G ((Eb d 338 [r0_0,r0_1,r0_2,r0_3,J a.text.1,J a.text.2.1,J a.text.2.2.1,J a.text.2.2.2.1,J a.text.2.2.2.2.1,J a.text.2.2.2.2.2.1,J a.text.2.2.2.2.2.2.1,J a.text.2.2.2.2.2.2.2.1,J a.text.2.2.2.2.2.2.2.2.1,J a.text.2.2.2.2.2.2.2.2.2.1,J a.text.2.2.2.2.2.2.2.2.2.2.1,J a.text.2.2.2.2.2.2.2.2.2.2.2.1,J a.text.2.2.2.2.2.2.2.2.2.2.2.2.1,J a.text.2.2.2.2.2.2.2.2.2.2.2.2.2.1,J a.text.2.2.2.2.2.2.2.2.2.2.2.2.2.2.1,J a.text.2.2.2.2.2.2.2.2.2.2.2.2.2.2.2,I a.n,r0_21,r0_22,r0_23]) :: F)∧l= [(0,.pointer (some ⟨d,4,none⟩)),(1,J f),(10,B u)]) ?_ ?_))))))
 ·clear H;refine W.region (va (Qo d 4) (va (B false) ?_));have y:false=false:=rfl;have m:=orF y R;refine vb y (wa (Qo d 4) (wn (bn m fun E S m=>cl (fB a M S) ?_)));rintro v11 p b0 ⟨N,rfl⟩;obtain rfl:=si m;exact va (B E) (wln (jn p ⟨N,rfl⟩))
 rintro e_ w_ ⟨q,a0,_,rfl,d0,rfl,g,rfl⟩;refine nrm (cn H (fun x H=>?_) (fun x H=>?_))
 ·refine sr (va (B false) (wln (W.ret (thr ?_))));obtain rfl:=si H;exact r1 (qq q ⟨g,rfl⟩)
 refine W.skip (nrm (W.seq (rD [9] (Kp G0 [(Eb d 338 [r0_0,r0_1,r0_2,r0_3,J a.text.1,J a.text.2.1,J a.text.2.2.1,J a.text.2.2.2.1,J a.text.2.2.2.2.1,J a.text.2.2.2.2.2.1,J a.text.2.2.2.2.2.2.1,J a.text.2.2.2.2.2.2.2.1,J a.text.2.2.2.2.2.2.2.2.1,J a.text.2.2.2.2.2.2.2.2.2.1,J a.text.2.2.2.2.2.2.2.2.2.2.1,J a.text.2.2.2.2.2.2.2.2.2.2.2.1,J a.text.2.2.2.2.2.2.2.2.2.2.2.2.1,J a.text.2.2.2.2.2.2.2.2.2.2.2.2.2.1,J a.text.2.2.2.2.2.2.2.2.2.2.2.2.2.2.1,J a.text.2.2.2.2.2.2.2.2.2.2.2.2.2.2.2,I a.n,r0_21,r0_22,r0_23])]) g ?_)));intro s e0 h;have D:Kp G0 [(Eb d 338 [r0_0,r0_1,r0_2,r0_3,J a.text.1,J a.text.2.1,J a.text.2.2.1,J a.text.2.2.2.1,J a.text.2.2.2.2.1,J a.text.2.2.2.2.2.1,J a.text.2.2.2.2.2.2.1,J a.text.2.2.2.2.2.2.2.1,J a.text.2.2.2.2.2.2.2.2.1,J a.text.2.2.2.2.2.2.2.2.2.1,J a.text.2.2.2.2.2.2.2.2.2.2.1,J a.text.2.2.2.2.2.2.2.2.2.2.2.1,J a.text.2.2.2.2.2.2.2.2.2.2.2.2.1,J a.text.2.2.2.2.2.2.2.2.2.2.2.2.2.1,J a.text.2.2.2.2.2.2.2.2.2.2.2.2.2.2.1,J a.text.2.2.2.2.2.2.2.2.2.2.2.2.2.2.2,I a.n,r0_21,r0_22,r0_23])] s:=(Kp.cons (h.on 0 rfl) Kp.nil0);refine ta 0 (.pointer (some ⟨d,4,none⟩)) (ta 1 (Qo d 4) (ta 2 (Qo d 4) (ta 3 (Qo d 20) (tkx 4 D (fun P A U=>le1 20 u_3 (U.on 0 rfl)) (ta 5 (J f) (ta 6 (Qo d 4) (ta 7 (Qo d 4) (bn H fun X e H=>AC.take 8 (.pointer (some ⟨d,4+a.n.toNat * 1,none⟩)) rfl (by kernel_rfl) (by kernel_rfl) (fun P A=>(rx (by kernel_rfl) (uE (k:= .i64) Ai (by kernel_rfl) (p9 e).1 (p9 e).2 _))) (bn H fun b z H=>o1 9 (gD 9 (Own.st (T:=21) (j:=4+a.n.toNat * 1) (us:=[J f]) (nw:=[r0_0,r0_1,r0_2,r0_3,J b.1,J b.2.1,J b.2.2.1,J b.2.2.2.1,J b.2.2.2.2.1,J b.2.2.2.2.2.1,J b.2.2.2.2.2.2.1,J b.2.2.2.2.2.2.2.1,J b.2.2.2.2.2.2.2.2.1,J b.2.2.2.2.2.2.2.2.2.1,J b.2.2.2.2.2.2.2.2.2.2.1,J b.2.2.2.2.2.2.2.2.2.2.2.1,J b.2.2.2.2.2.2.2.2.2.2.2.2.1,J b.2.2.2.2.2.2.2.2.2.2.2.2.2.1,J b.2.2.2.2.2.2.2.2.2.2.2.2.2.2.1,J b.2.2.2.2.2.2.2.2.2.2.2.2.2.2.2,I a.n,r0_21,r0_22,r0_23]) (v:=J f) 0 h (by kernel_rfl) rfl rfl rfl rfl (by kernel_rfl) ⟨rfl,trivial⟩ (FO e (bp rfl)) (FD (k:= .i32) e z [r0_0,r0_1,r0_2,r0_3] [I a.n,r0_21,r0_22,r0_23])) ?_))))))))));rintro Z f0 i;refine ⟨.inl rfl,dn (nrm (sr (vv (Qo d 4) (va (Qo d 20) (vx (le1 20 u_3 (i.on 0 rfl)) (va (I (w64 (a.n+1))) (va (Qo d 4) (va (Qo d 20) (md (sC 3 20 (I (w64 (a.n+1))) [r0_0,r0_1,r0_2,r0_3,J b.1,J b.2.1,J b.2.2.1,J b.2.2.2.1,J b.2.2.2.2.1,J b.2.2.2.2.2.1,J b.2.2.2.2.2.2.1,J b.2.2.2.2.2.2.2.1,J b.2.2.2.2.2.2.2.2.1,J b.2.2.2.2.2.2.2.2.2.1,J b.2.2.2.2.2.2.2.2.2.2.1,J b.2.2.2.2.2.2.2.2.2.2.2.1,J b.2.2.2.2.2.2.2.2.2.2.2.2.1,J b.2.2.2.2.2.2.2.2.2.2.2.2.2.1,J b.2.2.2.2.2.2.2.2.2.2.2.2.2.2.1,J b.2.2.2.2.2.2.2.2.2.2.2.2.2.2.2,I (w64 (a.n+1)),r0_21,r0_22,r0_23] 0 i ⟨rfl,trivial⟩) ?_)))))))))⟩;rintro t g0 o;refine wln (sr (va (B true) (wln (W.ret ?_))));obtain rfl:=si H;exact r1 (qq t ⟨o,rfl⟩)
def eY (sg:Sto) (p0:Option Nat) (p1:Int) (p2:ao):Option (Sto×Int):=
 ((dE p1).bind fun h=>
 if (!h)=true then
 some (65533)
 else
 some (p1)).bind fun g=>
 (p0).bind fun b=>
 (sg.widen_Cluster[b]?).bind fun a=>
 (ba a.text g).bind fun e=>
 (sg.set_widen_Cluster b (⟨a.at_,a.wide,e.1,a.gauge⟩:aY)).bind fun c=>
 (bU a.gauge g p2).bind fun f=>
 (c.set_widen_Cluster b (⟨a.at_,a.wide,e.1,f.1⟩:aY)).bind fun d=>
 some (d,f.2)
theorem mV (O0:Own c0 G F) (T:Rel c0 sg G) (p0:Option Nat) (m:Int) (f:ao) {r:Sto×Int} (h2:Pt 3 c0 v1 p0) (H:eY sg p0 m f=some r): Calls prog 307 #[v1,J m,.agg #[I f.Break,B f.Pict,I f.Conj,I f.East]] c0.w (aT c0 fun c v=>∃G_:Gm,Own c G_ (F)∧Rel c r.1 G_∧v=I r.2):=by
 unfold eY at H;refine en func307 rfl rfl (sr (me (bx 238 [I f.Break,B f.Pict,I f.Conj,I f.East] O0) ?_));rintro v7 c6 s ⟨b3,rfl,O4,m5⟩;refine va (I 0) (wln (bn H fun h i e=>W.seqJ (Jn c6 fun c l=>Own c G (F)∧l= [(0,v1),(1,J h),(5,Q b3)]) ?_ ?_))
 ·refine sr (va (J m) (bn i fun t0 a0 i=>cl (ki O4 m a0) ?_));rintro v16 p j1 ⟨o,rfl⟩;refine va (B (!t0)) (wln (cn i (fun b0 i=>?_) (fun b0 i=>?_)))
  ·refine W.region (va (J 65533) (wln ?_));obtain rfl:=si i;exact jn p ⟨o,rfl⟩
  refine W.skip (nrm ?_);obtain rfl:=si i;exact jn p ⟨o,rfl⟩
 rintro e_ w_ ⟨e1,g1,_,rfl,k,rfl,y,rfl⟩;refine sr (va (v1) (bn e fun z0 d0 e=>?_));obtain ⟨d,rfl,j⟩:=((h2.mono (s.trans k))).get d0;refine va (Q d) (va (Qo d 4) (va (J h) (bn e fun b e0 e=>?_)));have f0:=Rel.open_widen_Cluster (T.mono (s.trans k)) e0 j;have z:=y.borrow 0 f0 rfl;refine bn e fun a g0 e=>cl (kn b.text h z g0) ?_;rintro v37 f1 l0 ⟨A,rfl⟩;have D:=A.giveB 0 rfl;refine bn e fun t i0 e=>?_;obtain ⟨b1,E,U,h0,c1⟩:=Rel.put_widen_Cluster D (T.mono (s.trans (k.trans l0))) (E':=[(Eb d 338 [I b.at_.Row,I b.at_.Col,B b.at_.Pending,I b.wide,J a.1.text.1,J a.1.text.2.1,J a.1.text.2.2.1,J a.1.text.2.2.2.1,J a.1.text.2.2.2.2.1,J a.1.text.2.2.2.2.2.1,J a.1.text.2.2.2.2.2.2.1,J a.1.text.2.2.2.2.2.2.2.1,J a.1.text.2.2.2.2.2.2.2.2.1,J a.1.text.2.2.2.2.2.2.2.2.2.1,J a.1.text.2.2.2.2.2.2.2.2.2.2.1,J a.1.text.2.2.2.2.2.2.2.2.2.2.2.1,J a.1.text.2.2.2.2.2.2.2.2.2.2.2.2.1,J a.1.text.2.2.2.2.2.2.2.2.2.2.2.2.2.1,J a.1.text.2.2.2.2.2.2.2.2.2.2.2.2.2.2.1,J a.1.text.2.2.2.2.2.2.2.2.2.2.2.2.2.2.2,I a.1.n,B b.gauge.some,B b.gauge.pict,B b.gauge.wide])]) i0 ⟨d,(tm j),rfl⟩;refine wln (W.seq (rD [] (Kp G0 []) E ?_));intro Z m0 M;have k1:Kp G0 [] Z:=Kp.nil0;refine ta 0 (Q d) (ta 1 (Q d) (ta 2 (Qo d 21) (ta 3 (J h) (tx 4 (fun c' i1=>lN 238 (mm m5)) ?_))));have N:=M.borrow 0 h0 rfl;refine bn e fun g j0 e=>o1 5 (gc 5 (kz b.gauge h f N j0) ?_);rintro v56 q o0 ⟨P,rfl⟩;have R:=P.giveB 0 rfl;refine bn e fun u k0 e=>?_;obtain ⟨x,S,X,h1,d1⟩:=Rel.put_widen_Cluster R (U.mono (m0.trans o0)) (E':=[(Eb d 338 [I b.at_.Row,I b.at_.Col,B b.at_.Pending,I b.wide,J a.1.text.1,J a.1.text.2.1,J a.1.text.2.2.1,J a.1.text.2.2.2.1,J a.1.text.2.2.2.2.1,J a.1.text.2.2.2.2.2.1,J a.1.text.2.2.2.2.2.2.1,J a.1.text.2.2.2.2.2.2.2.1,J a.1.text.2.2.2.2.2.2.2.2.1,J a.1.text.2.2.2.2.2.2.2.2.2.1,J a.1.text.2.2.2.2.2.2.2.2.2.2.1,J a.1.text.2.2.2.2.2.2.2.2.2.2.2.1,J a.1.text.2.2.2.2.2.2.2.2.2.2.2.2.1,J a.1.text.2.2.2.2.2.2.2.2.2.2.2.2.2.1,J a.1.text.2.2.2.2.2.2.2.2.2.2.2.2.2.2.1,J a.1.text.2.2.2.2.2.2.2.2.2.2.2.2.2.2.2,I a.1.n,B g.1.some,B g.1.pict,B g.1.wide])]) k0 ⟨d,(tm j),rfl⟩;have s0:Kp G0 [] q:=Kp.nil0;refine ⟨.inr s0,ta 6 (I g.2) (dn (nrm (W.ret ?_)))⟩;obtain rfl:=si e;exact r1 (qq q ⟨x,S,X,rfl⟩)
def bD (p0:aJ):Option (List Int):=
 if false=true then
 some ([]:List Int)
 else
 (slc (a16 p0.text) 0 p0.n).bind fun a=>
 (eN a).bind fun b=>
 some b
theorem fA {b:Nat} {r0_0:Value} {r0_1:Value} {r0_2:Value} {r0_3:Value} {r0_21:Value} {r0_22:Value} {r0_23:Value} (a:aJ) (p:Own c0 G ((Eb b 338 [r0_0,r0_1,r0_2,r0_3,J a.text.1,J a.text.2.1,J a.text.2.2.1,J a.text.2.2.2.1,J a.text.2.2.2.2.1,J a.text.2.2.2.2.2.1,J a.text.2.2.2.2.2.2.1,J a.text.2.2.2.2.2.2.2.1,J a.text.2.2.2.2.2.2.2.2.1,J a.text.2.2.2.2.2.2.2.2.2.1,J a.text.2.2.2.2.2.2.2.2.2.2.1,J a.text.2.2.2.2.2.2.2.2.2.2.2.1,J a.text.2.2.2.2.2.2.2.2.2.2.2.2.1,J a.text.2.2.2.2.2.2.2.2.2.2.2.2.2.1,J a.text.2.2.2.2.2.2.2.2.2.2.2.2.2.2.1,J a.text.2.2.2.2.2.2.2.2.2.2.2.2.2.2.2,I a.n,r0_21,r0_22,r0_23]) :: F)) {r:List Int} (H:bD a=some r): Calls prog 232 #[.pointer (some ⟨b,4,none⟩)] c0.w (aT c0 fun c v=>∃h o,Own c G (es true (RI .i32) h 21 o r :: (Eb b 338 [r0_0,r0_1,r0_2,r0_3,J a.text.1,J a.text.2.1,J a.text.2.2.1,J a.text.2.2.2.1,J a.text.2.2.2.2.1,J a.text.2.2.2.2.2.1,J a.text.2.2.2.2.2.2.1,J a.text.2.2.2.2.2.2.2.1,J a.text.2.2.2.2.2.2.2.2.1,J a.text.2.2.2.2.2.2.2.2.2.1,J a.text.2.2.2.2.2.2.2.2.2.2.1,J a.text.2.2.2.2.2.2.2.2.2.2.2.1,J a.text.2.2.2.2.2.2.2.2.2.2.2.2.1,J a.text.2.2.2.2.2.2.2.2.2.2.2.2.2.1,J a.text.2.2.2.2.2.2.2.2.2.2.2.2.2.2.1,J a.text.2.2.2.2.2.2.2.2.2.2.2.2.2.2.2,I a.n,r0_21,r0_22,r0_23]) :: F)∧v=h∧OA (RI .i32) c h o r):=by
 unfold bD at H;refine en func232 rfl rfl (sr (va (Y) (wln (W.seq (sr (va (Qo b 4) (va (B false) (wln (W.cond (t:=false) (by kernel_rfl) (fun g=>?_) (fun g=>?_))))))))))
 ·cases g
 have H:=ie g H;refine W.skip (nrm (W.seq (rD [] (Kp G0 [(Eb b 338 [r0_0,r0_1,r0_2,r0_3,J a.text.1,J a.text.2.1,J a.text.2.2.1,J a.text.2.2.2.1,J a.text.2.2.2.2.1,J a.text.2.2.2.2.2.1,J a.text.2.2.2.2.2.2.1,J a.text.2.2.2.2.2.2.2.1,J a.text.2.2.2.2.2.2.2.2.1,J a.text.2.2.2.2.2.2.2.2.2.1,J a.text.2.2.2.2.2.2.2.2.2.2.1,J a.text.2.2.2.2.2.2.2.2.2.2.2.1,J a.text.2.2.2.2.2.2.2.2.2.2.2.2.1,J a.text.2.2.2.2.2.2.2.2.2.2.2.2.2.1,J a.text.2.2.2.2.2.2.2.2.2.2.2.2.2.2.1,J a.text.2.2.2.2.2.2.2.2.2.2.2.2.2.2.2,I a.n,r0_21,r0_22,r0_23])]) p ?_)));intro s M i;have y:Kp G0 [(Eb b 338 [r0_0,r0_1,r0_2,r0_3,J a.text.1,J a.text.2.1,J a.text.2.2.1,J a.text.2.2.2.1,J a.text.2.2.2.2.1,J a.text.2.2.2.2.2.1,J a.text.2.2.2.2.2.2.1,J a.text.2.2.2.2.2.2.2.1,J a.text.2.2.2.2.2.2.2.2.1,J a.text.2.2.2.2.2.2.2.2.2.1,J a.text.2.2.2.2.2.2.2.2.2.2.1,J a.text.2.2.2.2.2.2.2.2.2.2.2.1,J a.text.2.2.2.2.2.2.2.2.2.2.2.2.1,J a.text.2.2.2.2.2.2.2.2.2.2.2.2.2.1,J a.text.2.2.2.2.2.2.2.2.2.2.2.2.2.2.1,J a.text.2.2.2.2.2.2.2.2.2.2.2.2.2.2.2,I a.n,r0_21,r0_22,r0_23])] s:=(Kp.cons (i.on 0 rfl) Kp.nil0);refine ta 0 (.pointer (some ⟨b,4,none⟩)) (ta 1 (Qo b 4) (ta 2 (Qo b 4) (ta 3 (Qo b 4) (ta 4 (Qo b 4) (ta 5 (Qo b 20) (tkx 6 y (fun q l x=>le1 20 u_3 (x.on 0 rfl)) (bn H fun A d H=>AC.take 7 (.slice (some ⟨b,4,none⟩) a.n.toNat 16) rfl (by kernel_rfl) (by kernel_rfl) (fun q l=>(rx (by kernel_rfl) (xY (k:= .i64) Ai (by kernel_rfl) (mZ d).2.1 (mZ d).2.2.1 _))) (bn H fun D u H=>o1 8 (gc 8 (oX i rfl (xR d) (Cb (k:= .i32) d [r0_0,r0_1,r0_2,r0_3] [I a.n,r0_21,r0_22,r0_23]) u) ?_)))))))));rintro v8 f E ⟨_,z,e,rfl,j⟩;have m:Kp G0 [(Eb b 338 [r0_0,r0_1,r0_2,r0_3,J a.text.1,J a.text.2.1,J a.text.2.2.1,J a.text.2.2.2.1,J a.text.2.2.2.2.1,J a.text.2.2.2.2.2.1,J a.text.2.2.2.2.2.2.1,J a.text.2.2.2.2.2.2.2.1,J a.text.2.2.2.2.2.2.2.2.1,J a.text.2.2.2.2.2.2.2.2.2.1,J a.text.2.2.2.2.2.2.2.2.2.2.1,J a.text.2.2.2.2.2.2.2.2.2.2.2.1,J a.text.2.2.2.2.2.2.2.2.2.2.2.2.1,J a.text.2.2.2.2.2.2.2.2.2.2.2.2.2.1,J a.text.2.2.2.2.2.2.2.2.2.2.2.2.2.2.1,J a.text.2.2.2.2.2.2.2.2.2.2.2.2.2.2.2,I a.n,r0_21,r0_22,r0_23])] f:=(Kp.cons (e.on 1 rfl) Kp.nil0);refine ⟨.inr m,ta 9 (v8) (dn (nrm (W.ret ?_)))⟩;obtain rfl:=si H;exact r1 (qq f ⟨v8,z,e,rfl,j⟩)
def kI (sg:Sto) (p0:Option Nat) (p1:Int) (p2:ao):Option (Sto×(Option Nat)):=
 (orE p0.isNone ((p0).bind fun k=>
 (sg.place_Pen[k]?).bind fun h=>
 some h.G.isNone)).bind fun j=>
 if j=true then
 some (sg,(none:Option Nat))
 else
 (some (sg.add_widen_Cluster (⟨(⟨0,0,false⟩:ah),0,(⟨(0,0,0,0,0,0,0,0,0,0,0,0,0,0,0,0),0⟩:aJ),(⟨false,false,false⟩:aS)⟩:aY))).bind fun e=>
 (eY e (some sg.widen_Cluster.length) p1 p2).bind fun b=>
 (b.1.widen_Cluster[sg.widen_Cluster.length]?).bind fun a=>
 (b.1.set_widen_Cluster sg.widen_Cluster.length (⟨a.at_,b.2,a.text,a.gauge⟩:aY)).bind fun f=>
 (bD a.text).bind fun i=>
 (iC f p0 b.2 i).bind fun d=>
 (d.1.widen_Cluster[sg.widen_Cluster.length]?).bind fun c=>
 (d.1.set_widen_Cluster sg.widen_Cluster.length (⟨d.2,c.wide,c.text,c.gauge⟩:aY)).bind fun g=>
 some (g,(some sg.widen_Cluster.length))
theorem vO (O0:Own c0 G F) (R0:Rel c0 sg G) (hG:Gl [2,4] c0) (y:Option Nat) (z:Int) (g:ao) {r:Sto×(Option Nat)} (h2:Pt 2 c0 v1 y) (H:kI sg y z g=some r): Calls prog 268 #[v1,J z,.agg #[I g.Break,B g.Pict,I g.Conj,I g.East]] c0.w (aT c0 fun c v=>∃y1,∃G_:Gm,Own c G_ (F)∧Rel c r.1 G_∧v=y1∧Pt 3 c y1 r.2):=by
 unfold kI at H;refine en func268 rfl rfl (sr (me (bx 238 [I g.Break,B g.Pict,I g.Conj,I g.East] O0) ?_));rintro v7 c6 l6 ⟨b3,rfl,O4,m5⟩;refine va (.pointer none) (wln (W.seq (W.seq (bn H fun m1 h8 H=>W.join (Jn c6 fun c l=>Own c G (F)∧l= [(0,v1),(1,J z),(5,Q b3),(16,B m1)]) ?_ ?_))))
 ·clear H;refine W.region (va (v1) (vr (B y.isNone) (by rcases h2.m.cs with ⟨j,k⟩ | ⟨b_,j,k⟩ <;> (subst j; rw [k]; kernel_rfl)) ?_));rcases bo (y.isNone) with s | s
  ·obtain rfl:=orT s h8;exact vb s (pz (pz (ps (va (B true) (wln (jn c6 ⟨O4,rfl⟩))))))
  have i:=orF s h8;refine vb s (wa (v1) (wn (bn i fun x3 q1 i=>?_)));obtain ⟨T,rfl,n1⟩:=((h2.mono l6)).get q1;refine va (Q T) (wa (Q T) (wn (bn i fun u s1 i=>?_)));obtain ⟨v15,u1,t1⟩:=Rel.open_place_Pen (R0.mono l6) s1 n1;refine vx (le1 0 eJ (O4.gon u1 0 rfl)) (wn (vr (B u.G.isNone) (by rcases (t1).cs with ⟨j,k⟩ | ⟨b_,j,k⟩ <;> (subst j; rw [k]; kernel_rfl)) ?_));obtain rfl:=si i;exact va (B u.G.isNone) (wln (jn c6 ⟨O4,rfl⟩))
 rintro e_ w_ ⟨f1,s3,_,rfl,q2,rfl,A,rfl⟩;refine nrm (cn H (fun w1 H=>?_) (fun w1 H=>?_))
 ·refine sr (va (.pointer none) (wln (W.ret (thr ?_))));obtain rfl:=si H;exact r1 (qq f1 ⟨(.pointer none),G,A,R0.m,rfl,rfl⟩)
 refine W.skip (nrm (sr (va (.agg #[I 0,I 0,B false,I 0,J 0,J 0,J 0,J 0,J 0,J 0,J 0,J 0,J 0,J 0,J 0,J 0,J 0,J 0,J 0,J 0,I 0,B false,B false,B false]) (me (al 338 [I 0,I 0,B false,I 0,J 0,J 0,J 0,J 0,J 0,J 0,J 0,J 0,J 0,J 0,J 0,J 0,J 0,J 0,J 0,J 0,I 0,B false,B false,B false] A) ?_))));rintro v28 n3 s2 ⟨e,rfl,o0⟩;have q0:=o0.sD 1 [0];refine bn H fun j0 x1 H=>?_;obtain ⟨g1,h3,z1,y3,o,s0,P,t3,u3,k3⟩:=Rel.new_widen_Cluster (E:=[(Eb e 338 [I 0,I 0,B false,I 0,J 0,J 0,J 0,J 0,J 0,J 0,J 0,J 0,J 0,J 0,J 0,J 0,J 0,J 0,J 0,J 0,I 0,B false,B false,B false])]) (F:=F) (x:=(⟨(⟨0,0,false⟩:ah),0,(⟨(0,0,0,0,0,0,0,0,0,0,0,0,0,0,0,0),0⟩:aJ),(⟨false,false,false⟩:aS)⟩:aY)) (b:=e) q0 (R0.mono (l6.trans (q2.trans s2))) (fun c_ hle_=>⟨e,rfl,rfl⟩);rw [bb x1] at P;refine WL.gh z1.1 ?_;have U:Pt 3 g1 (Q e) (some sg.widen_Cluster.length):=⟨e,rfl,o⟩;refine va (Q e) (wln (sr (vv (Q e) (va (J z) (vx (lN 238 (mm m5)) (bn H fun h b2 H=>cl (mV s0 P (some sg.widen_Cluster.length) z g U b2) ?_))))));rintro v48 o3 t2 ⟨i3,t0,R,rfl⟩;refine va (Q e) (va (Qo e 3) (bn H fun a c2 H=>?_));have d2:=Rel.open_widen_Cluster R c2 (tm o);refine md (gC 3 3 (I h.2) [I a.at_.Row,I a.at_.Col,B a.at_.Pending,I h.2,J a.text.text.1,J a.text.text.2.1,J a.text.text.2.2.1,J a.text.text.2.2.2.1,J a.text.text.2.2.2.2.1,J a.text.text.2.2.2.2.2.1,J a.text.text.2.2.2.2.2.2.1,J a.text.text.2.2.2.2.2.2.2.1,J a.text.text.2.2.2.2.2.2.2.2.1,J a.text.text.2.2.2.2.2.2.2.2.2.1,J a.text.text.2.2.2.2.2.2.2.2.2.2.1,J a.text.text.2.2.2.2.2.2.2.2.2.2.2.1,J a.text.text.2.2.2.2.2.2.2.2.2.2.2.2.1,J a.text.text.2.2.2.2.2.2.2.2.2.2.2.2.2.1,J a.text.text.2.2.2.2.2.2.2.2.2.2.2.2.2.2.1,J a.text.text.2.2.2.2.2.2.2.2.2.2.2.2.2.2.2,I a.text.n,B a.gauge.some,B a.gauge.pict,B a.gauge.wide] 0 t0 d2 ⟨rfl,trivial⟩) ?_;rintro p3 X u0;refine bn H fun k0 e2 H=>?_;obtain ⟨p,v0,d1,q,l3⟩:=Rel.put_widen_Cluster u0 (R.mono X) (E':=[(Eb e 338 [I a.at_.Row,I a.at_.Col,B a.at_.Pending,I h.2,J a.text.text.1,J a.text.text.2.1,J a.text.text.2.2.1,J a.text.text.2.2.2.1,J a.text.text.2.2.2.2.1,J a.text.text.2.2.2.2.2.1,J a.text.text.2.2.2.2.2.2.1,J a.text.text.2.2.2.2.2.2.2.1,J a.text.text.2.2.2.2.2.2.2.2.1,J a.text.text.2.2.2.2.2.2.2.2.2.1,J a.text.text.2.2.2.2.2.2.2.2.2.2.1,J a.text.text.2.2.2.2.2.2.2.2.2.2.2.1,J a.text.text.2.2.2.2.2.2.2.2.2.2.2.2.1,J a.text.text.2.2.2.2.2.2.2.2.2.2.2.2.2.1,J a.text.text.2.2.2.2.2.2.2.2.2.2.2.2.2.2.1,J a.text.text.2.2.2.2.2.2.2.2.2.2.2.2.2.2.2,I a.text.n,B a.gauge.some,B a.gauge.pict,B a.gauge.wide])]) e2 ⟨e,(tm o),rfl⟩;refine wln (W.seq (rD [10,13] (Kp p []) v0 ?_));intro h1 u2 D;have x2:Kp p [] h1:=(Kp.nil D);refine ta 0 (Q e) (ta 1 (v1) (ta 2 (Q e) (ta 3 (Q e) (ta 4 (Qo e 3) (tkx 5 x2 (fun c' w3 hk=>le1 3 u_3 (hk.gon q 0 rfl)) (ta 6 (Q e) (ta 7 (Q e) (ta 8 (Qo e 4) ?_))))))));have w0:=D.borrow 0 q rfl;refine bn H fun i0 f2 H=>o1 9 (gc 9 (fA a.text w0 f2) ?_);rintro a4 i1 v2 ⟨_,z3,x0,rfl,g2⟩;have z0:=x0.sD 2 [1,0];have y0:=z0.giveB 0 rfl;have M:=Own.back y0 q rfl;have y2:Kp p [] i1:=(Kp.nil M);refine ⟨.inr y2,?_⟩;obtain ⟨j1,k2,Z,N,i2⟩:=M.frz 0 rfl g2;have z2:Kp p [] j1:=(Kp.nil N);refine AC.gh k2 Z (fun _=>z2) (bn H fun f l2 H=>o1 10 (gc 10 (pb N d1.m (hG.m.le (by decide)) y h.2 i0 h2.m i2 l2) ?_));rintro b4 q3 w2 ⟨j3,a1,S,rfl⟩;refine ⟨.inl rfl,ta 11 (Q e) (ta 12 (Q e) (bn H fun d m2 H=>?_))⟩;have n2:=Rel.open_widen_Cluster S m2 (tm o);refine o1 13 (gD 13 (gB 29 0 [I f.2.Row,I f.2.Col,B f.2.Pending] [I f.2.Row,I f.2.Col,B f.2.Pending,I d.wide,J d.text.text.1,J d.text.text.2.1,J d.text.text.2.2.1,J d.text.text.2.2.2.1,J d.text.text.2.2.2.2.1,J d.text.text.2.2.2.2.2.1,J d.text.text.2.2.2.2.2.2.1,J d.text.text.2.2.2.2.2.2.2.1,J d.text.text.2.2.2.2.2.2.2.2.1,J d.text.text.2.2.2.2.2.2.2.2.2.1,J d.text.text.2.2.2.2.2.2.2.2.2.2.1,J d.text.text.2.2.2.2.2.2.2.2.2.2.2.1,J d.text.text.2.2.2.2.2.2.2.2.2.2.2.2.1,J d.text.text.2.2.2.2.2.2.2.2.2.2.2.2.2.1,J d.text.text.2.2.2.2.2.2.2.2.2.2.2.2.2.2.1,J d.text.text.2.2.2.2.2.2.2.2.2.2.2.2.2.2.2,I d.text.n,B d.gauge.some,B d.gauge.pict,B d.gauge.wide] 0 a1 n2 ⟨rfl,rfl,rfl,trivial⟩) ?_);rintro k1 a0 b1;refine bn H fun l0 o2 H=>?_;obtain ⟨m0,c1,e1,v3,m3⟩:=Rel.put_widen_Cluster b1 (S.mono a0) (E':=[(Eb e 338 [I f.2.Row,I f.2.Col,B f.2.Pending,I d.wide,J d.text.text.1,J d.text.text.2.1,J d.text.text.2.2.1,J d.text.text.2.2.2.1,J d.text.text.2.2.2.2.1,J d.text.text.2.2.2.2.2.1,J d.text.text.2.2.2.2.2.2.1,J d.text.text.2.2.2.2.2.2.2.1,J d.text.text.2.2.2.2.2.2.2.2.1,J d.text.text.2.2.2.2.2.2.2.2.2.1,J d.text.text.2.2.2.2.2.2.2.2.2.2.1,J d.text.text.2.2.2.2.2.2.2.2.2.2.2.1,J d.text.text.2.2.2.2.2.2.2.2.2.2.2.2.1,J d.text.text.2.2.2.2.2.2.2.2.2.2.2.2.2.1,J d.text.text.2.2.2.2.2.2.2.2.2.2.2.2.2.2.1,J d.text.text.2.2.2.2.2.2.2.2.2.2.2.2.2.2.2,I d.text.n,B d.gauge.some,B d.gauge.pict,B d.gauge.wide])]) o2 ⟨e,((t2.trans (X.trans (u2.trans (v2.trans (Z.trans (w2.trans a0)))))).t _ _ _ o),rfl⟩;refine ⟨.inl rfl,dn (nrm (sr (vv (Q e) (wln (W.ret ?_)))))⟩;obtain rfl:=si H;have b0:=c1.sD 1 [];exact r1 (qq k1 ⟨(Q e),m0,b0,e1,rfl,U.m⟩)
def dD (sg:Sto) (p0:Option Nat) (p1:Option Nat) (p2:Int) (p3:ao):Option (Sto×Bool):=
 (orE p0.isNone (some p1.isNone)).bind fun A=>
 (orE A ((p1).bind fun r=>
 (sg.place_Pen[r]?).bind fun u=>
 some u.G.isNone)).bind fun p=>
 (orE p ((p0).bind fun s=>
 (sg.widen_Cluster[s]?).bind fun h=>
 (bE h.text).bind fun w=>
 some w)).bind fun q=>
 if q=true then
 some (sg,false)
 else
 (p0).bind fun b=>
 (sg.widen_Cluster[b]?).bind fun v=>
 (eY sg p0 p2 p3).bind fun d=>
 (d.1.widen_Cluster[b]?).bind fun c=>
 (d.1.set_widen_Cluster b (⟨c.at_,d.2,c.text,c.gauge⟩:aY)).bind fun a=>
 (if (d.2 != v.wide)=true then
 (p1).bind fun j=>
 (a.place_Pen[j]?).bind fun k=>
 (a.set_place_Pen j (⟨k.G,c.at_,k.Auto⟩:bj)).bind fun e=>
 (e.widen_Cluster[b]?).bind fun l=>
 (bD l.text).bind fun x=>
 (iC e p1 l.wide x).bind fun g=>
 (g.1.widen_Cluster[b]?).bind fun f=>
 (g.1.set_widen_Cluster b (⟨g.2,f.wide,f.text,f.gauge⟩:aY)).bind fun i=>
 some (i)
 else
 (p1).bind fun t=>
 (a.place_Pen[t]?).bind fun m=>
 (bX a m.G).bind fun y=>
 if (decide (d.2≤y))=true then
 (bv a m.G c.at_.Row).bind fun n=>
 (nf a n c.at_.Col p2).bind fun o=>
 some (o.1)
 else
 some (a)).bind fun z=>
 some (z,true)
theorem qf (O0:Own c0 G F) (R0:Rel c0 sg G) (hG:Gl [2,4] c0) (p0:Option Nat) (p1:Option Nat) (Z:Int) (s:ao) {r:Sto×Bool} (h2:Pt 3 c0 v1 p0) (h4:Pt 2 c0 v3 p1) (H:dD sg p0 p1 Z s=some r): Calls prog 267 #[v1,v3,J Z,.agg #[I s.Break,B s.Pict,I s.Conj,I s.East]] c0.w (aT c0 fun c v=>∃G_:Gm,Own c G_ (F)∧Rel c r.1 G_∧v=B r.2):=by
 unfold dD at H;refine en func267 rfl rfl (sr (me (bx 238 [I s.Break,B s.Pict,I s.Conj,I s.East] O0) ?_));rintro v9 c8 R ⟨b5,rfl,O6,m7⟩;refine va (B false) (wln (W.seq (W.seq (bn H fun l7 c2 H=>bn H fun j6 x0 H=>bn H fun i3 d0 H=>W.join (Jn c8 fun c l=>Own c G (F)∧l= [(0,v1),(1,v3),(2,J Z),(7,Q b5),(28,B i3)]) ?_ ?_))))
 ·clear H;refine W.region (va (v1) (vr (B p0.isNone) (by rcases h2.m.cs with ⟨h,i⟩ | ⟨b_,h,i⟩ <;> (subst h; rw [i]; kernel_rfl)) ?_));rcases bo (p0.isNone) with A | A
  ·obtain rfl:=orT A c2;refine vb A (pz (va (B true) ?_));have d2:true=true:=rfl;obtain rfl:=orT d2 x0;refine vb d2 (pz (pz (ps (va (B true) ?_))));have e2:true=true:=rfl;obtain rfl:=orT e2 d0;exact vb e2 (pz (pz (va (B true) (wln (jn c8 ⟨O6,rfl⟩)))))
  have m4:=orF A c2;refine vb A (wa (v3) (wn (vr (B p1.isNone) (by rcases h4.m.cs with ⟨h,i⟩ | ⟨b_,h,i⟩ <;> (subst h; rw [i]; kernel_rfl)) ?_)));obtain rfl:=si m4;refine va (B p1.isNone) ?_;rcases bo (p1.isNone) with D | D
  ·obtain rfl:=orT D x0;refine vb D (pz (pz (ps (va (B true) ?_))));have f2:true=true:=rfl;obtain rfl:=orT f2 d0;exact vb f2 (pz (pz (va (B true) (wln (jn c8 ⟨O6,rfl⟩)))))
  have y:=orF D x0;refine vb D (wa (v3) (wn (bn y fun n6 e5 y=>?_)));obtain ⟨z1,rfl,d5⟩:=((h4.mono R)).get e5;refine va (Q z1) (wa (Q z1) (wn (bn y fun U f5 y=>?_)));obtain ⟨v24,h5,g5⟩:=Rel.open_place_Pen (R0.mono R) f5 d5;refine vx (le1 0 eJ (O6.gon h5 0 rfl)) (wn (vr (B U.G.isNone) (by rcases (g5).cs with ⟨h,i⟩ | ⟨b_,h,i⟩ <;> (subst h; rw [i]; kernel_rfl)) ?_));obtain rfl:=si y;refine va (B U.G.isNone) ?_;rcases bo (U.G.isNone) with E | E
  ·obtain rfl:=orT E d0;exact vb E (pz (pz (va (B true) (wln (jn c8 ⟨O6,rfl⟩)))))
  have k:=orF E d0;refine vb E (wa (v1) (wn (bn k fun o6 j5 k=>?_)));obtain ⟨b2,rfl,i5⟩:=((h2.mono R)).get j5;refine va (Q b2) (wa (Qo b2 4) (wn (bn k fun h0 k5 k=>?_)));have g2:=Rel.open_widen_Cluster (R0.mono R) k5 i5;have o4:=O6.borrow 0 g2 rfl;refine bn k fun f4 l5 k=>cl (fB h0.text o4 l5) ?_;rintro v42 y4 p7 ⟨p4,rfl⟩;have q4:=p4.giveB 0 rfl;have r4:=Own.back q4 g2 rfl;obtain rfl:=si k;exact va (B f4) (wln (jn y4 ⟨r4,rfl⟩))
 rintro e_ w_ ⟨z4,n7,_,rfl,e0,rfl,q0,rfl⟩;refine nrm (cn H (fun m5 H=>?_) (fun m5 H=>?_))
 ·refine sr (va (B false) (wln (W.ret (thr ?_))));obtain rfl:=si H;exact r1 (qq z4 ⟨G,q0,R0.m,rfl⟩)
 refine W.skip (nrm (sr (va (v1) (bn H fun p6 n5 H=>?_))));obtain ⟨d,rfl,u⟩:=((h2.mono (R.trans e0))).get n5;refine va (Q d) (va (Qo d 3) (bn H fun x o5 H=>?_));have p5:=Rel.open_widen_Cluster (R0.mono (R.trans e0)) o5 u;refine vx (le1 3 u_3 (q0.gon p5 0 rfl)) (va (I x.wide) (wln (sr (vv (Q d) (va (J Z) (vx (lN 238 (mm m7)) (bn H fun g q5 H=>cl (mV q0 R0.m p0 Z s h2.m q5) ?_)))))));rintro q7 j7 f0 ⟨g7,s4,x1,rfl⟩;refine va (Q d) (va (Qo d 3) (bn H fun a r5 H=>?_));have s5:=Rel.open_widen_Cluster x1 r5 (tm u);refine md (gC 3 3 (I g.2) [I a.at_.Row,I a.at_.Col,B a.at_.Pending,I g.2,J a.text.text.1,J a.text.text.2.1,J a.text.text.2.2.1,J a.text.text.2.2.2.1,J a.text.text.2.2.2.2.1,J a.text.text.2.2.2.2.2.1,J a.text.text.2.2.2.2.2.2.1,J a.text.text.2.2.2.2.2.2.2.1,J a.text.text.2.2.2.2.2.2.2.2.1,J a.text.text.2.2.2.2.2.2.2.2.2.1,J a.text.text.2.2.2.2.2.2.2.2.2.2.1,J a.text.text.2.2.2.2.2.2.2.2.2.2.2.1,J a.text.text.2.2.2.2.2.2.2.2.2.2.2.2.1,J a.text.text.2.2.2.2.2.2.2.2.2.2.2.2.2.1,J a.text.text.2.2.2.2.2.2.2.2.2.2.2.2.2.2.1,J a.text.text.2.2.2.2.2.2.2.2.2.2.2.2.2.2.2,I a.text.n,B a.gauge.some,B a.gauge.pict,B a.gauge.wide] 0 s4 s5 ⟨rfl,trivial⟩) ?_;rintro a5 P t4;refine bn H fun j4 t5 H=>?_;obtain ⟨j,b0,o,M,h7⟩:=Rel.put_widen_Cluster t4 (x1.mono P) (E':=[(Eb d 338 [I a.at_.Row,I a.at_.Col,B a.at_.Pending,I g.2,J a.text.text.1,J a.text.text.2.1,J a.text.text.2.2.1,J a.text.text.2.2.2.1,J a.text.text.2.2.2.2.1,J a.text.text.2.2.2.2.2.1,J a.text.text.2.2.2.2.2.2.1,J a.text.text.2.2.2.2.2.2.2.1,J a.text.text.2.2.2.2.2.2.2.2.1,J a.text.text.2.2.2.2.2.2.2.2.2.1,J a.text.text.2.2.2.2.2.2.2.2.2.2.1,J a.text.text.2.2.2.2.2.2.2.2.2.2.2.1,J a.text.text.2.2.2.2.2.2.2.2.2.2.2.2.1,J a.text.text.2.2.2.2.2.2.2.2.2.2.2.2.2.1,J a.text.text.2.2.2.2.2.2.2.2.2.2.2.2.2.2.1,J a.text.text.2.2.2.2.2.2.2.2.2.2.2.2.2.2.2,I a.text.n,B a.gauge.some,B a.gauge.pict,B a.gauge.wide])]) t5 ⟨d,(tm u),rfl⟩;refine wln (bn H fun i4 e n4=>W.seqJ (Jn a5 fun c l=>∃G_,Own c G_ (F)∧l= []∧Rel c i4 G_) ?_ ?_)
 ·refine W.block (sr (vv (Q d) (va (Qo d 3) (vx (le1 3 u_3 (b0.gon M 0 rfl)) (va (I x.wide) (vv (B (g.2 != x.wide)) (wln (cn e (fun u5 e=>?_) (fun u5 e=>?_)))))))))
  ·refine sr (va (v3) (vv (Q d) (va (Q d) (vx (leN 29 0 [I a.at_.Row,I a.at_.Col,B a.at_.Pending] (b0.gon M 0 rfl)) (bn e fun q6 v5 e=>?_)))));obtain ⟨z,rfl,i2⟩:=((h4.mono (R.trans (e0.trans (f0.trans P))))).get v5;refine va (Q z) (va (Qo z 1) (bn e fun h1 w5 e=>?_));obtain ⟨n1,y5,x5⟩:=Rel.open_place_Pen o w5 i2;refine md (gB 29 1 [I a.at_.Row,I a.at_.Col,B a.at_.Pending] [n1,I a.at_.Row,I a.at_.Col,B a.at_.Pending,B h1.Auto] 0 b0 y5 ⟨rfl,rfl,rfl,trivial⟩) ?_;rintro k7 g0 u4;refine bn e fun k4 z5 e=>?_;obtain ⟨a0,v4,y1,o7,i7⟩:=Rel.put_place_Pen u4 (o.mono g0) (E':=[(Eb z 126 [n1,I a.at_.Row,I a.at_.Col,B a.at_.Pending,B h1.Auto])]) z5 ⟨z,n1,(tm i2),rfl,(x5.mono g0)⟩;refine wln (rD [10,13] (Kp a0 []) v4 ?_);intro c5 g1 w1;have c6:Kp a0 [] c5:=(Kp.nil w1);refine ta 0 (Q d) (ta 1 (Q z) (ta 2 (Q d) (ta 3 (Q d) (ta 4 (Qo d 3) (bn e fun i1 a6 e=>?_)))));have b1:=Rel.open_widen_Cluster (y1.mono g1) a6 (tm u);refine tkx 5 c6 (fun c' N q=>le1 3 u_3 (q.gon b1 0 rfl)) (ta 6 (Q d) (ta 7 (Q d) (ta 8 (Qo d 4) ?_)));have w4:=w1.borrow 0 b1 rfl;refine bn e fun g4 b6 e=>o1 9 (gc 9 (fA i1.text w4 b6) ?_);rintro z6 a3 c1 ⟨_,y6,m2,rfl,j3⟩;have o2:=m2.sD 2 [1,0];have n2:=o2.giveB 0 rfl;have j0:=Own.back n2 b1 rfl;have b4:Kp a0 [] a3:=(Kp.nil j0);refine ⟨.inr b4,?_⟩;obtain ⟨b3,l3,T,k0,k3⟩:=j0.frz 0 rfl j3;have c4:Kp a0 [] b3:=(Kp.nil k0);refine AC.gh l3 T (fun _=>c4) (bn e fun f m3 e=>o1 10 (gc 10 (pb k0 y1.m (hG.m.le (by decide)) p1 i1.wide g4 h4.m k3 m3) ?_));rintro a7 i6 d1 ⟨e6,q2,u0,rfl⟩;refine ⟨.inl rfl,ta 11 (Q d) (ta 12 (Q d) (bn e fun b n3 e=>?_))⟩;have o3:=Rel.open_widen_Cluster u0 n3 ((f0.trans (P.trans (g0.trans (g1.trans (c1.trans (T.trans d1)))))).t _ _ _ u);refine o1 13 (gD 13 (gB 29 0 [I f.2.Row,I f.2.Col,B f.2.Pending] [I f.2.Row,I f.2.Col,B f.2.Pending,I b.wide,J b.text.text.1,J b.text.text.2.1,J b.text.text.2.2.1,J b.text.text.2.2.2.1,J b.text.text.2.2.2.2.1,J b.text.text.2.2.2.2.2.1,J b.text.text.2.2.2.2.2.2.1,J b.text.text.2.2.2.2.2.2.2.1,J b.text.text.2.2.2.2.2.2.2.2.1,J b.text.text.2.2.2.2.2.2.2.2.2.1,J b.text.text.2.2.2.2.2.2.2.2.2.2.1,J b.text.text.2.2.2.2.2.2.2.2.2.2.2.1,J b.text.text.2.2.2.2.2.2.2.2.2.2.2.2.1,J b.text.text.2.2.2.2.2.2.2.2.2.2.2.2.2.1,J b.text.text.2.2.2.2.2.2.2.2.2.2.2.2.2.2.1,J b.text.text.2.2.2.2.2.2.2.2.2.2.2.2.2.2.2,I b.text.n,B b.gauge.some,B b.gauge.pict,B b.gauge.wide] 0 q2 o3 ⟨rfl,rfl,rfl,trivial⟩) ?_);rintro c3 e1 s2;refine bn e fun l4 q3 e=>?_;obtain ⟨j2,t2,x2,m6,g6⟩:=Rel.put_widen_Cluster s2 (u0.mono e1) (E':=[(Eb d 338 [I f.2.Row,I f.2.Col,B f.2.Pending,I b.wide,J b.text.text.1,J b.text.text.2.1,J b.text.text.2.2.1,J b.text.text.2.2.2.1,J b.text.text.2.2.2.2.1,J b.text.text.2.2.2.2.2.1,J b.text.text.2.2.2.2.2.2.1,J b.text.text.2.2.2.2.2.2.2.1,J b.text.text.2.2.2.2.2.2.2.2.1,J b.text.text.2.2.2.2.2.2.2.2.2.1,J b.text.text.2.2.2.2.2.2.2.2.2.2.1,J b.text.text.2.2.2.2.2.2.2.2.2.2.2.1,J b.text.text.2.2.2.2.2.2.2.2.2.2.2.2.1,J b.text.text.2.2.2.2.2.2.2.2.2.2.2.2.2.1,J b.text.text.2.2.2.2.2.2.2.2.2.2.2.2.2.2.1,J b.text.text.2.2.2.2.2.2.2.2.2.2.2.2.2.2.2,I b.text.n,B b.gauge.some,B b.gauge.pict,B b.gauge.wide])]) q3 ⟨d,((f0.trans (P.trans (g0.trans (g1.trans (c1.trans (T.trans (d1.trans e1))))))).t _ _ _ u),rfl⟩;refine ⟨.inl rfl,dn (bkn (nrm ?_))⟩;obtain rfl:=si e;have u2:=t2.sD 1 [];exact jn c3 ⟨j2,u2,rfl,x2⟩
  refine W.seq (rD [] (Kp j []) b0 ?_);intro d3 f1 l0;have m1:Kp j [] d3:=(Kp.nil l0);refine ta 0 (Q d) (ta 1 (Q d) (ta 2 (Qo d 3) (tkx 3 m1 (fun c' N q=>le1 3 u_3 (q.gon M 0 rfl)) (ta 4 (v3) (bn e fun r6 t3 e=>?_)))));obtain ⟨p,rfl,s3⟩:=((h4.mono (R.trans (e0.trans (f0.trans (P.trans f1)))))).get t3;refine ta 5 (Q p) (ta 6 (Q p) (bn e fun j1 u3 e=>?_));obtain ⟨b7,z0,y0⟩:=Rel.open_place_Pen (o.mono f1) u3 s3;refine tkx 7 m1 (fun c' N q=>le1 0 eJ (q.gon z0 0 rfl)) (bn e fun q1 w3 e=>o1 8 (gc 8 (cC l0 o.m j1.G y0 w3) ?_));rintro c7 w0 s6 ⟨S,rfl⟩;have d4:Kp j [] w0:=(Kp.nil S);refine ⟨.inr d4,ta 9 (B (decide (g.2≤q1))) (ta 10 (B (decide (g.2≤q1))) (dn (nrm (cn e (fun x3 e=>?_) (fun x3 e=>?_)))))⟩
  ·refine rD [16] (Kp j []) S ?_;intro e3 t6 m0;have X:Kp j [] e3:=(Kp.nil m0);refine ta 0 (Q p) (ta 1 (Q p) (ta 2 (Q p) (tkx 3 X (fun c' N q=>le1 0 eJ (q.gon z0 0 rfl)) (ta 4 (Q d) (ta 5 (Q d) (ta 6 (Q d) (ta 7 (Q d) (tkx 8 X (fun c' N q=>le1 0 u_3 (q.gon M 0 rfl)) (ta 10 (Q d) (ta 11 (Q d) (ta 12 (Q d) (ta 13 (Qo d 1) (tkx 14 X (fun c' N q=>le1 1 u_3 (q.gon M 0 rfl)) (ta 15 (J Z) (bn e fun u1 y3 e=>o1 9 (gc 9 (cM m0 o.m j1.G a.at_.Row y0.m y3) ?_))))))))))))))));rintro d7 f3 u6 ⟨_,o0,rfl,z3⟩;have e4:Kp j [] f3:=(Kp.nil o0);refine ⟨.inr e4,bn e fun d6 a4 e=>o1 16 (gc 16 (zU o0 o.m (hG.m.le (by decide)) u1 a.at_.Col Z z3 a4) ?_)⟩;rintro e7 g3 v6 ⟨k2,v2,y2,rfl⟩;refine ⟨.inl rfl,dn (bkn (nrm ?_))⟩;obtain rfl:=si e;exact jn g3 ⟨k2,v2,rfl,y2⟩
  refine W.skip (bkn (nrm ?_));obtain rfl:=si e;exact jn w0 ⟨j,S,rfl,o.m⟩
 rintro e_ w_ ⟨h3,l6,_,rfl,w6,rfl,l2,w2,rfl,z2⟩;refine sr (va (B true) (wln (W.ret ?_)));obtain rfl:=si n4;exact r1 (qq h3 ⟨l2,w2,z2,rfl⟩)
def ni (sg:Sto) (p0:Option Nat):Option (Sto×(Option Nat)):=
 (orE p0.isNone ((p0).bind fun d=>
 (sg.place_Pen[d]?).bind fun b=>
 some b.G.isNone)).bind fun c=>
 if c=true then
 some (sg,(none:Option Nat))
 else
 (some (sg.add_feed_Feeder (⟨p0,(⟨0,0,0,0,0⟩:bA),(⟨false,0,0,0,false⟩:br),(none:Option Nat)⟩:bC))).bind fun a=>
 some (a,(some sg.feed_Feeder.length))
theorem zW (t:Own c0 G F) (u:Rel c0 sg G) (k:Option Nat) {r:Sto×(Option Nat)} (n:Pt 2 c0 v1 k) (H:ni sg k=some r): Calls prog 80 #[v1] c0.w (aT c0 fun c v=>∃y1,∃G_:Gm,Own c G_ (F)∧Rel c r.1 G_∧dZ G G_∧v=y1∧Pt 4 c y1 r.2):=by
 unfold ni at H;refine en func80 rfl rfl (sr (va (.pointer none) (wln (W.seq (W.seq (bn H fun T h3 H=>W.join (Jn c0 fun c l=>Own c G (F)∧l= [(0,v1),(11,B T)]) ?_ ?_))))))
 ·clear H;refine W.region (va (v1) (vr (B k.isNone) (by rcases (n).cs with ⟨d,e⟩ | ⟨b_,d,e⟩ <;> (subst d; rw [e]; kernel_rfl)) ?_));rcases bo (k.isNone) with h | h
  ·obtain rfl:=orT h h3;exact vb h (pz (pz (ps (va (B true) (wln (jn c0 ⟨t,rfl⟩))))))
  have g:=orF h h3;refine vb h (wa (v1) (wn (bn g fun t0 h8 g=>?_)));obtain ⟨R,rfl,h7⟩:=(n).get h8;refine va (Q R) (wa (Q R) (wn (bn g fun j h9 g=>?_)));obtain ⟨v10,X,U⟩:=Rel.open_place_Pen u h9 h7;refine vx (le1 0 eJ (t.gon X 0 rfl)) (wn (vr (B j.G.isNone) (by rcases (U).cs with ⟨d,e⟩ | ⟨b_,d,e⟩ <;> (subst d; rw [e]; kernel_rfl)) ?_));obtain rfl:=si g;exact va (B j.G.isNone) (wln (jn c0 ⟨t,rfl⟩))
 rintro e_ w_ ⟨S,o0,_,rfl,i,rfl,o,rfl⟩;refine nrm (cn H (fun Z H=>?_) (fun Z H=>?_))
 ·refine sr (va (.pointer none) (wln (W.ret (thr ?_))));obtain rfl:=si H;exact r1 (qq S ⟨(.pointer none),G,o,u.m,(dZ.refl _),rfl,rfl⟩)
 refine W.skip (nrm (sr (va (v1) ?_)));obtain ⟨f,rfl⟩:=((n.mono i)).form;refine va (.agg #[.pointer f,I 0,I 0,.int .u8 0,.int .u8 0,I 0,B false,I 0,I 0,I 0,B false,.pointer none]) (me (al 184 [.pointer f,I 0,I 0,.int .u8 0,.int .u8 0,I 0,B false,I 0,I 0,I 0,B false,.pointer none] o) ?_);rintro v24 m0 s ⟨a,rfl,A⟩;have D:=A.sD 1 [0];refine bn H fun y a0 H=>?_;obtain ⟨q,z,b0,u0,d0,M,p,q0,f0,N⟩:=Rel.new_feed_Feeder (E:=[(Eb a 184 [.pointer f,I 0,I 0,.int .u8 0,.int .u8 0,I 0,B false,I 0,I 0,I 0,B false,.pointer none])]) (F:=F) (x:=(⟨k,(⟨0,0,0,0,0⟩:bA),(⟨false,0,0,0,false⟩:br),(none:Option Nat)⟩:bC)) (b:=a) D (u.mono (i.trans s)) (fun c_ hle_=>⟨a,(.pointer f),(.pointer none),rfl,rfl,(n.mono ((i.trans s).trans hle_)),rfl⟩);rw [bb a0] at p;refine WL.gh b0.1 ?_;have s0:=dZ.nil (dZ.refl _) f0;have P:=(dZ.refl _).trans N;have g0:Pt 4 q (Q a) (some sg.feed_Feeder.length):=⟨a,rfl,d0⟩;refine va (Q a) (wln (W.ret ?_));obtain rfl:=si H;exact r1 (qq q ⟨(Q a),z,M,p,P,rfl,g0⟩)
def iM (p0:Int):Option (Int):=
 (orE (decide (p0 < 0)) (some (decide (p0 > 13)))).bind fun a=>
 if a=true then
 some 0
 else
 some p0
theorem qX (d:Own c0 G F) (a:Int) {r:Int} (H:iM a=some r): Calls prog 309 #[I a] c0.w (aT c0 fun c v=>Own c G (F)∧v=I r):=by
 unfold iM at H;refine en func309 rfl rfl (sr (va (I 0) (wln (W.seq (W.seq (bn H fun g h H=>W.join (Jn c0 fun c l=>Own c G (F)∧l= [(0,I a),(8,B g)]) ?_ ?_))))))
 ·clear H;refine W.region (va (I a) (va (B (decide (a < 0))) ?_));rcases bo (decide (a < 0)) with b | b
  ·obtain rfl:=orT b h;exact vb b (pz (va (B true) (wln (jn c0 ⟨d,rfl⟩))))
  have j:=orF b h;refine vb b (wa (I a) (wa (B (decide (a > 13))) ?_));obtain rfl:=si j;exact va (B (decide (a > 13))) (wln (jn c0 ⟨d,rfl⟩))
 rintro k o ⟨f,m,_,rfl,n,rfl,e,rfl⟩;refine nrm (cn H (fun i H=>?_) (fun i H=>?_))
 ·refine sr (va (I 0) (wln (W.ret (thr ?_))));obtain rfl:=si H;exact r1 (qq f ⟨e,rfl⟩)
 refine W.skip (nrm (sr (vv (I a) (wln (W.ret ?_)))));obtain rfl:=si H;exact r1 (qq f ⟨e,rfl⟩)
def lD (p0:Int):Option (Bool):=
 if (p0==1)=true then
 some true
 else
 if (p0==2)=true then
 some true
 else
 if (p0==3)=true then
 some true
 else
 some false
theorem qj (b:Own c0 G F) (a:Int) {r:Bool} (H:lD a=some r): Calls prog 310 #[I a] c0.w (aT c0 fun c v=>Own c G (F)∧v=B r):=by
 unfold lD at H;refine en func310 rfl rfl (sr (va (B false) (wln (W.seq (sr (va (I a) (wln (W.block (W.seq (W.block (W.block (W.block (W.seq (W.seq (sr (vv (B (a==1)) (wln (cn H (fun d H=>?_) (fun d H=>?_)))))))))))))))))))
 ·refine W.exit (thx (thx (bke (bkn (bkn (nrm (W.seq (sr (va (B true) (wln (W.ret (thr (bkr (thr ?_))))))))))))));obtain rfl:=si H;exact r1 (qq c0 ⟨b,rfl⟩)
 refine W.skip (nrm (W.seq (sr (vv (B (a==2)) (wln (cn H (fun e H=>?_) (fun e H=>?_)))))))
 ·refine W.exit (thx (thx (bko rfl (bke (bkn (nrm (W.seq (sr (va (B true) (wln (W.ret (thr (bkr (thr ?_))))))))))))));obtain rfl:=si H;exact r1 (qq c0 ⟨b,rfl⟩)
 refine W.skip (nrm (sr (vv (B (a==3)) (wln (cn H (fun f H=>?_) (fun f H=>?_))))))
 ·refine W.exit (thx (bko rfl (bko rfl (bke (nrm (W.seq (sr (va (B true) (wln (W.ret (thr (bkr (thr ?_)))))))))))));obtain rfl:=si H;exact r1 (qq c0 ⟨b,rfl⟩)
 refine W.skip (nrm (W.exit (bko rfl (bko rfl (bko rfl (thx (bke (nrm (sr (va (B false) (wln (W.ret ?_))))))))))));obtain rfl:=si H;exact r1 (qq c0 ⟨b,rfl⟩)
def mt (p0:Int) (p1:Int):Option (Bool):=
 if (p0==9)=true then
 (orE (p1==9) (some (p1==10))).bind fun a=>
 (orE a (some (p1==12))).bind fun b=>
 (orE b (some (p1==13))).bind fun c=>
 some c
 else
 (if (p0==12)=true then
 some (p0==12)
 else
 some (p0==10)).bind fun e=>
 if e=true then
 (orE (p1==10) (some (p1==11))).bind fun d=>
 some d
 else
 (if (p0==13)=true then
 some (p0==13)
 else
 some (p0==11)).bind fun f=>
 if f=true then
 some (p1==11)
 else
 some false
theorem th (m:Own c0 G F) (b:Int) (a:Int) {r:Bool} (H:mt b a=some r): Calls prog 311 #[I b,I a] c0.w (aT c0 fun c v=>Own c G (F)∧v=B r):=by
 unfold mt at H;refine en func311 rfl rfl (sr (va (B false) (wln (W.seq (sr (va (I b) (wln (W.block (sr (vv (B (b==9)) (wln (cn H (fun h1 H=>?_) (fun h1 H=>?_)))))))))))))
 ·refine W.seq (bn H fun i0 Z H=>bn H fun j0 A H=>bn H fun x p H=>W.join (Jn c0 fun c l=>Own c G (F)∧l= [(4,B x)]) ?_ ?_)
  ·clear H;refine W.region (va (I a) (va (B (a==9)) ?_));rcases bo (a==9) with n | n
   ·obtain rfl:=orT n Z;refine vb n (pz (va (B true) ?_));have h6:true=true:=rfl;obtain rfl:=orT h6 A;refine vb h6 (pz (va (B true) ?_));have h7:true=true:=rfl;obtain rfl:=orT h7 p;exact vb h7 (pz (vv (B true) (wln (jn c0 ⟨m,rfl⟩))))
   have H8:=orF n Z;refine vb n (wa (I a) (wa (B (a==10)) ?_));obtain rfl:=si H8;refine va (B (a==10)) ?_;rcases bo (a==10) with o | o
   ·obtain rfl:=orT o A;refine vb o (pz (va (B true) ?_));have t:true=true:=rfl;obtain rfl:=orT t p;exact vb t (pz (vv (B true) (wln (jn c0 ⟨m,rfl⟩))))
   have N:=orF o A;refine vb o (wa (I a) (wa (B (a==12)) ?_));obtain rfl:=si N;refine va (B (a==12)) ?_;rcases bo (a==12) with i | i
   ·obtain rfl:=orT i p;exact vb i (pz (vv (B true) (wln (jn c0 ⟨m,rfl⟩))))
   have P:=orF i p;refine vb i (wa (I a) (wa (B (a==13)) ?_));obtain rfl:=si P;exact vv (B (a==13)) (wln (jn c0 ⟨m,rfl⟩))
  rintro z D ⟨U,l0,_,rfl,s0,rfl,S,rfl⟩;refine nrm (W.ret (bkr (thr ?_)));obtain rfl:=si H;exact r1 (qq U ⟨S,rfl⟩)
 refine bn H fun E f d=>W.seqJ (Jn c0 fun c l=>Own c G (F)∧l= [(1,I a),(5,I b),(22,B E)]) ?_ ?_
 ·refine sr (vv (B (b==12)) (wln (cn f (fun a0 f=>?_) (fun a0 f=>?_))))
  ·refine W.skip (nrm ?_);obtain rfl:=si f;exact jn c0 ⟨m,rfl⟩
  refine W.region (vv (B (b==10)) (wln ?_));obtain rfl:=si f;exact jn c0 ⟨m,rfl⟩
 rintro z D ⟨e,m0,_,rfl,t0,rfl,k,rfl⟩;refine cn d (fun b0 d=>?_) (fun b0 d=>?_)
 ·refine W.seq (bn d fun y u d=>W.join (Jn e fun c l=>Own c G (F)∧l= [(4,B y)]) ?_ ?_)
  ·clear d;refine W.region (va (I a) (va (B (a==10)) ?_));rcases bo (a==10) with j | j
   ·obtain rfl:=orT j u;exact vb j (pz (vv (B true) (wln (jn e ⟨k,rfl⟩))))
   have R:=orF j u;refine vb j (wa (I a) (wa (B (a==11)) ?_));obtain rfl:=si R;exact vv (B (a==11)) (wln (jn e ⟨k,rfl⟩))
  rintro z D ⟨X,o0,_,rfl,u0,rfl,T,rfl⟩;refine nrm (W.ret (bkr (thr ?_)));obtain rfl:=si d;exact r1 (qq X ⟨T,rfl⟩)
 refine bn d fun M g h=>W.seqJ (Jn e fun c l=>Own c G (F)∧l= [(1,I a),(31,B M)]) ?_ ?_
 ·refine sr (vv (B (b==13)) (wln (cn g (fun d0 g=>?_) (fun d0 g=>?_))))
  ·refine W.skip (nrm ?_);obtain rfl:=si g;exact jn e ⟨k,rfl⟩
  refine W.region (vv (B (b==11)) (wln ?_));obtain rfl:=si g;exact jn e ⟨k,rfl⟩
 rintro z D ⟨s,q0,_,rfl,v0,rfl,q,rfl⟩;refine cn h (fun e0 h=>?_) (fun e0 h=>?_)
 ·refine sr (va (I a) (vv (B (a==11)) (wln (W.ret (bkr (thr ?_))))));obtain rfl:=si h;exact r1 (qq s ⟨q,rfl⟩)
 refine W.skip (bkn (nrm (sr (va (B false) (wln (W.ret ?_))))));obtain rfl:=si h;exact r1 (qq s ⟨q,rfl⟩)
def dy (p0:Int) (p1:Int):Option (Int):=
 (iM p0).bind fun b=>
 (iM p1).bind fun a=>
 (bT (b==1) (some (a==2))).bind fun e=>
 if e=true then
 some 1
 else
 (lD b).bind fun i=>
 (orE i ((lD a).bind fun j=>
 some j)).bind fun f=>
 if f=true then
 some 0
 else
 ((mt b a).bind fun d=>
 if d=true then
 some (d)
 else
 if (a==4)=true then
 some (a==4)
 else
 if (a==5)=true then
 some (a==5)
 else
 if (a==8)=true then
 some (a==8)
 else
 some (b==7)).bind fun k=>
 if k=true then
 some 1
 else
 ((bT (a==0) ((orE (b==5) (some (b==4))).bind fun g=>
 some g)).bind fun c=>
 if c=true then
 some (c)
 else
 (bT (b==6) (some (a==6))).bind fun h=>
 some (h)).bind fun l=>
 if l=true then
 some 2
 else
 some 0
theorem sw (O0:Own c0 G F) (E:Int) (M:Int) {r:Int} (H:dy E M=some r): Calls prog 269 #[I E,I M] c0.w (aT c0 fun c v=>Own c G (F)∧v=I r):=by
 unfold dy at H;refine en func269 rfl rfl (sr (va (I 0) (wln (sr (va (I E) (bn H fun b h1 H=>cl (qX O0 E h1) ?_))))));rintro v7 c6 l6 ⟨O3,rfl⟩;refine va (I M) (bn H fun a h8 H=>cl (qX O3 M h8) ?_);rintro v14 y c2 ⟨N,rfl⟩;refine va (I b) (va (I a) (wln (W.seq (W.block (W.seq (bn H fun g0 a0 H=>W.join (Jn y fun c l=>Own c G (F)∧l= [(0,I b),(1,I a),(9,B g0)]) ?_ ?_))))))
 ·clear H;refine W.region (va (I b) (va (B (b==1)) ?_));rcases bo (b==1) with k | k
  ·have q0:=anT k a0;refine vb k (wa (I a) (wa (B (a==2)) ?_));obtain rfl:=si q0;exact vv (B (a==2)) (wln (jn y ⟨N,rfl⟩))
  obtain rfl:=anF k a0;exact vb k (pz (vv (B false) (wln (jn y ⟨N,rfl⟩))))
 rintro z A ⟨U,v1,_,rfl,d2,rfl,P,rfl⟩;refine nrm (cn H (fun z0 H=>?_) (fun z0 H=>?_))
 ·refine sr (va (I 1) (wln (W.ret (bkr (thr ?_)))));obtain rfl:=si H;exact r1 (qq U ⟨P,rfl⟩)
 refine W.seq (bn H fun k0 a1 H=>bn H fun h0 b0 H=>W.join (Jn U fun c l=>Own c G (F)∧l= [(0,I b),(1,I a),(16,B h0)]) ?_ ?_)
 ·clear H;refine W.region (va (I b) (cl (qj P b a1) ?_));rintro v32 w0 e2 ⟨R,rfl⟩;rcases bo (k0) with m | m
  ·obtain rfl:=orT m b0;exact vb m (pz (vv (B true) (wln (jn w0 ⟨R,rfl⟩))))
  have u:=orF m b0;refine vb m (wa (I a) (wn (bn u fun D b1 u=>cl (qj R a b1) ?_)));rintro v41 x0 f2 ⟨u0,rfl⟩;obtain rfl:=si u;exact vv (B D) (wln (jn x0 ⟨u0,rfl⟩))
 rintro z A ⟨X,w1,_,rfl,g2,rfl,S,rfl⟩;refine nrm (cn H (fun c1 H=>?_) (fun c1 H=>?_))
 ·refine sr (va (I 0) (wln (W.ret (bkr (thr ?_)))));obtain rfl:=si H;exact r1 (qq X ⟨S,rfl⟩)
 refine bn H fun m0 d g=>W.seqJ (Jn X fun c l=>Own c G (F)∧l= [(0,I b),(1,I a),(23,B m0)]) ?_ ?_
 ·refine sr (va (I b) (va (I a) (bn d fun l0 d1 d=>cl (th S b a d1) ?_)));rintro v57 j h2 ⟨i,rfl⟩;refine va (B l0) (wln (cn d (fun e1 d=>?_) (fun e1 d=>?_)))
  ·refine W.skip (nrm ?_);obtain rfl:=si d;exact jn j ⟨i,rfl⟩
  refine sr (va (I a) (vv (B (a==4)) (wln (cn d (fun f1 d=>?_) (fun f1 d=>?_)))))
  ·refine W.skip (nrm ?_);obtain rfl:=si d;exact jn j ⟨i,rfl⟩
  refine sr (va (I a) (vv (B (a==5)) (wln (cn d (fun g1 d=>?_) (fun g1 d=>?_)))))
  ·refine W.skip (nrm ?_);obtain rfl:=si d;exact jn j ⟨i,rfl⟩
  refine sr (va (I a) (vv (B (a==8)) (wln (cn d (fun i1 d=>?_) (fun i1 d=>?_)))))
  ·refine W.skip (nrm ?_);obtain rfl:=si d;exact jn j ⟨i,rfl⟩
  refine W.region (va (I b) (vv (B (b==7)) (wln ?_)));obtain rfl:=si d;exact jn j ⟨i,rfl⟩
 rintro z A ⟨f,x1,_,rfl,i2,rfl,s,rfl⟩;refine cn g (fun j1 g=>?_) (fun j1 g=>?_)
 ·refine sr (va (I 1) (wln (W.ret (bkr (thr ?_)))));obtain rfl:=si g;exact r1 (qq f ⟨s,rfl⟩)
 refine bn g fun o0 e h=>W.seqJ (Jn f fun c l=>Own c G (F)∧l= [(35,B o0)]) ?_ ?_
 ·refine W.seq (bn e fun i0 d0 e=>W.join (Jn f fun c l=>Own c G (F)∧l= [(0,I b),(1,I a),(35,B i0)]) ?_ ?_)
  ·clear e;refine W.region (va (I a) (va (B (a==0)) ?_));rcases bo (a==0) with n | n
   ·have q:=anT n d0;refine vb n (wa (I b) (wa (B (b==5)) (wn (bn q fun s1 e0 q=>?_))));rcases bo (b==5) with o | o
    ·obtain rfl:=orT o e0;refine vb o (pz (wa (B true) ?_));obtain rfl:=si q;exact vv (B true) (wln (jn f ⟨s,rfl⟩))
    have s0:=orF o e0;refine vb o (wa (I b) (wa (B (b==4)) (wn ?_)));obtain rfl:=si s0;refine va (B (b==4)) ?_;obtain rfl:=si q;exact vv (B (b==4)) (wln (jn f ⟨s,rfl⟩))
   obtain rfl:=anF n d0;exact vb n (pz (pz (pz (vv (B false) (wln (jn f ⟨s,rfl⟩))))))
  rintro z A ⟨t,y1,_,rfl,j2,rfl,x,rfl⟩;refine nrm (cn e (fun k1 e=>?_) (fun k1 e=>?_))
  ·refine W.skip (nrm ?_);obtain rfl:=si e;exact jn t ⟨x,rfl⟩
  refine bn e fun j0 f0 e=>W.join (Jn t fun c l=>Own c G (F)∧l= [(35,B j0)]) ?_ ?_
  ·clear e;refine W.region (va (I b) (va (B (b==6)) ?_));rcases bo (b==6) with p | p
   ·have t0:=anT p f0;refine vb p (wa (I a) (wa (B (a==6)) ?_));obtain rfl:=si t0;exact vv (B (a==6)) (wln (jn t ⟨x,rfl⟩))
   obtain rfl:=anF p f0;exact vb p (pz (vv (B false) (wln (jn t ⟨x,rfl⟩))))
  rintro z A ⟨y0,z1,_,rfl,k2,rfl,v0,rfl⟩;refine nrm ?_;obtain rfl:=si e;exact jn y0 ⟨v0,rfl⟩
 rintro z A ⟨Z,b2,_,rfl,l2,rfl,T,rfl⟩;refine cn h (fun m1 h=>?_) (fun m1 h=>?_)
 ·refine sr (va (I 2) (wln (W.ret (bkr (thr ?_)))));obtain rfl:=si h;exact r1 (qq Z ⟨T,rfl⟩)
 refine W.skip (bkn (nrm (sr (va (I 0) (wln (W.ret ?_))))));obtain rfl:=si h;exact r1 (qq Z ⟨T,rfl⟩)
def dx (p0:br):Option (br):=
 if true=true then
 some (⟨false,0,0,0,false⟩:br)
 else
 some p0
theorem lS {a:Nat} {r0_0:Value} {r0_1:Value} {r0_2:Value} {r0_3:Value} {r0_4:Value} {r0_5:Value} {r0_11:Value} (b:br) (e:Own c0 G ((Eb a 184 [r0_0,r0_1,r0_2,r0_3,r0_4,r0_5,B b.some,I b.last,I b.pict,I b.conj,B b.odd,r0_11]) :: F)) {r:br} (H:dx b=some r):
    Calls prog 168 #[.pointer (some ⟨a,6,none⟩)] c0.w (aT c0 fun c v=>Own c G ((Eb a 184 [r0_0,r0_1,r0_2,r0_3,r0_4,r0_5,B r.some,I r.last,I r.pict,I r.conj,B r.odd,r0_11]) :: F)∧v= .tuple #[]):=by
 unfold dx at H
 refine en func168 rfl rfl (sr (va (Qo a 6) (va (B true) (wln (W.cond (t:=true) (by kernel_rfl) (fun d=>?_) (fun d=>?_))))))
 ·have H:=it d H
  refine W.region (va (Qo a 6) (va (.agg #[B false,I 0,I 0,I 0,B false]) (va (Qo a 6) (md (sB 181 6 [B false,I 0,I 0,I 0,B false] [r0_0,r0_1,r0_2,r0_3,r0_4,r0_5,B false,I 0,I 0,I 0,B false,r0_11] 0 e ⟨rfl,rfl,rfl,rfl,rfl,trivial⟩) ?_))))
  rintro g h f
  refine WL.nil ?_
  obtain rfl:=si H
  exact n0 (qq g ⟨f,rfl⟩)
 cases d
def cX (sg:Sto) (p0:Option Nat):Option (Sto):=
 if (!p0.isNone)=true then
 (p0).bind fun c=>
 (sg.feed_Feeder[c]?).bind fun a=>
 (sg.set_feed_Feeder c (⟨a.pen,a.dec,a.seg,(none:Option Nat)⟩:bC)).bind fun d=>
 (dx a.seg).bind fun e=>
 (d.set_feed_Feeder c (⟨a.pen,a.dec,e,(none:Option Nat)⟩:bC)).bind fun b=>
 some b
 else
 some sg
theorem iS (n:Own c0 G F) (i:Rel c0 sg G) (k:Option Nat) {r:Sto} (M:Pt 4 c0 v1 k) (H:cX sg k=some r): Calls prog 109 #[v1] c0.w (aT c0 fun c v=>∃G_:Gm,Own c G_ (F)∧Rel c r G_∧v= .tuple #[]):=by
 unfold cX at H;refine en func109 rfl rfl (sr (va (v1) (vr (B (!k.isNone)) (by rcases (M).cs with ⟨f,g⟩ | ⟨b_,f,g⟩ <;> (subst f; rw [g]; kernel_rfl)) (wln (cn H (fun T H=>?_) (fun T H=>?_))))))
 ·refine sr (va (v1) (bn H fun g0 U H=>?_));obtain ⟨d,rfl,j⟩:=(M).get U;refine va (Q d) (va (Qo d 11) (bn H fun a X H=>?_));obtain ⟨v8,v10,A,R,e0⟩:=Rel.open_feed_Feeder i X j;refine md (gC 182 11 (.pointer none) [v8,I a.dec.held,I a.dec.needs,.int .u8 a.dec.lo,.int .u8 a.dec.hi,I a.dec.bits,B a.seg.some,I a.seg.last,I a.seg.pict,I a.seg.conj,B a.seg.odd,.pointer none] 0 n A ⟨rfl,trivial⟩) ?_;rintro d0 e o;refine bn H fun S E H=>?_;obtain ⟨Z,p,x,D,a0⟩:=Rel.put_feed_Feeder o (i.mono e) (E':=[(Eb d 184 [v8,I a.dec.held,I a.dec.needs,.int .u8 a.dec.lo,.int .u8 a.dec.hi,I a.dec.bits,B a.seg.some,I a.seg.last,I a.seg.pict,I a.seg.conj,B a.seg.odd,.pointer none])]) E ⟨d,v8,(.pointer none),(tm j),rfl,(R.mono e),rfl⟩;refine wln (W.region (vv (Q d) (va (Qo d 6) ?_)));have q:=p.borrow 0 D rfl;refine bn H fun b N H=>cl (lS a.seg q N) ?_;rintro v29 z h ⟨s,rfl⟩;have t:=s.giveB 0 rfl;refine bn H fun l P H=>?_;obtain ⟨m,u,y,f0,b0⟩:=Rel.put_feed_Feeder t (x.mono h) (E':=[(Eb d 184 [v8,I a.dec.held,I a.dec.needs,.int .u8 a.dec.lo,.int .u8 a.dec.hi,I a.dec.bits,B b.some,I b.last,I b.pict,I b.conj,B b.odd,.pointer none])]) P ⟨d,v8,(.pointer none),(tm j),rfl,(R.mono (e.trans h)),rfl⟩;refine WL.nil ?_;obtain rfl:=si H;exact n0 (qq z ⟨m,u,y,rfl⟩)
 refine W.skip ?_;obtain rfl:=si H;exact n0 (qq c0 ⟨G,n,i,rfl⟩)
def cO (p0:br) (p1:ao):Option (Bool):=
 if (!p0.some)=true then
 some false
 else
 ((bT (p1.Conj==1) (some (p0.conj==2))).bind fun a=>
 if a=true then
 some (a)
 else
 (bT p1.Pict (some (p0.pict==2))).bind fun c=>
 some (c)).bind fun e=>
 if e=true then
 some true
 else
 (dy p0.last p1.Break).bind fun b=>
 if (b==1)=true then
 some true
 else
 if (b==2)=true then
 (bT (p0.last==6) (some p0.odd)).bind fun d=>
 some d
 else
 some false
theorem lR {b:Nat} {r0_0:Value} {r0_1:Value} {r0_2:Value} {r0_3:Value} {r0_4:Value} {r0_5:Value} {r0_11:Value} (a:br) (e:ao) (O0:Own c0 G ((Eb b 184 [r0_0,r0_1,r0_2,r0_3,r0_4,r0_5,B a.some,I a.last,I a.pict,I a.conj,B a.odd,r0_11]) :: F)) {r:Bool} (H:cO a e=some r): Calls prog 224 #[.pointer (some ⟨b,6,none⟩),.agg #[I e.Break,B e.Pict,I e.Conj,I e.East]] c0.w (aT c0 fun c v=>Own c G ((Eb b 184 [r0_0,r0_1,r0_2,r0_3,r0_4,r0_5,B a.some,I a.last,I a.pict,I a.conj,B a.odd,r0_11]) :: F)∧v=B r):=by
 unfold cO at H;refine en func224 rfl rfl (sr (me (bx 238 [I e.Break,B e.Pict,I e.Conj,I e.East] O0) ?_));rintro v5 s l4 ⟨p,rfl,q,M⟩;refine va (B false) (wln (W.seq (sr (vv (Qo b 6) (va (Qo b 6) (vx (le1 6 u_4 (q.on 0 rfl)) (va (B (!a.some)) (wln (cn H (fun h6 H=>?_) (fun h6 H=>?_))))))))))
 ·refine sr (va (B false) (wln (W.ret (thr ?_))));obtain rfl:=si H;exact r1 (qq s ⟨q,rfl⟩)
 refine W.skip (nrm (W.seq (W.block (bn H fun P f d=>W.seqJ (Jn s fun c l=>Own c G ((Eb b 184 [r0_0,r0_1,r0_2,r0_3,r0_4,r0_5,B a.some,I a.last,I a.pict,I a.conj,B a.odd,r0_11]) :: F)∧l= [(0,.pointer (some ⟨b,6,none⟩)),(3,Q p),(10,B P)]) ?_ ?_))))
 ·refine W.seq (bn f fun z h9 f=>W.join (Jn s fun c l=>Own c G ((Eb b 184 [r0_0,r0_1,r0_2,r0_3,r0_4,r0_5,B a.some,I a.last,I a.pict,I a.conj,B a.odd,r0_11]) :: F)∧l= [(0,.pointer (some ⟨b,6,none⟩)),(3,Q p),(10,B z)]) ?_ ?_)
  ·clear f;refine W.region (va (Qo p (0+2)) (vx (l1 u_3 (M 2 _ rfl)) (va (B (e.Conj==1)) ?_)));rcases bo (e.Conj==1) with j | j
   ·have R:=anT j h9;refine vb j (wa (Qo b 6) (wa (Qo b 6) (wa (Qo b 9) (wn (vx (le1 9 u_3 (q.on 0 rfl)) (wa (B (a.conj==2)) ?_))))));obtain rfl:=si R;exact vv (B (a.conj==2)) (wln (jn s ⟨q,rfl⟩))
   obtain rfl:=anF j h9;exact vb j (pz (pz (ps (vv (B false) (wln (jn s ⟨q,rfl⟩))))))
  rintro E N ⟨o,u0,_,rfl,y0,rfl,n,rfl⟩;refine nrm (cn f (fun e0 f=>?_) (fun e0 f=>?_))
  ·refine W.skip (nrm ?_);obtain rfl:=si f;exact jn o ⟨n,rfl⟩
  refine bn f fun A x f=>W.join (Jn o fun c l=>Own c G ((Eb b 184 [r0_0,r0_1,r0_2,r0_3,r0_4,r0_5,B a.some,I a.last,I a.pict,I a.conj,B a.odd,r0_11]) :: F)∧l= [(0,.pointer (some ⟨b,6,none⟩)),(3,Q p),(10,B A)]) ?_ ?_
  ·clear f;refine W.region (va (Qo p (0+1)) (vx (l1 u_4 ((mm M) 1 _ rfl)) ?_));rcases bo (e.Pict) with k | k
   ·have S:=anT k x;refine vb k (wa (Qo b 6) (wa (Qo b 6) (wa (Qo b 8) (wn (vx (le1 8 u_3 (n.on 0 rfl)) (wa (B (a.pict==2)) ?_))))));obtain rfl:=si S;exact vv (B (a.pict==2)) (wln (jn o ⟨n,rfl⟩))
   obtain rfl:=anF k x;exact vb k (pz (pz (ps (vv (B false) (wln (jn o ⟨n,rfl⟩))))))
  rintro E N ⟨Z,v0,_,rfl,z0,rfl,U,rfl⟩;refine nrm ?_;obtain rfl:=si f;exact jn Z ⟨U,rfl⟩
 rintro E N ⟨a0,w0,_,rfl,a1,rfl,t,rfl⟩;refine cn d (fun f0 d=>?_) (fun f0 d=>?_)
 ·refine sr (va (B true) (wln (W.ret (bkr (thr ?_)))));obtain rfl:=si d;exact r1 (qq a0 ⟨t,rfl⟩)
 refine W.skip (bkn (nrm (W.seq (W.seq (rD [] (Kp G0 [(Eb b 184 [r0_0,r0_1,r0_2,r0_3,r0_4,r0_5,B a.some,I a.last,I a.pict,I a.conj,B a.odd,r0_11])]) t ?_)))));intro b0 c1 u;have l0:Kp G0 [(Eb b 184 [r0_0,r0_1,r0_2,r0_3,r0_4,r0_5,B a.some,I a.last,I a.pict,I a.conj,B a.odd,r0_11])] b0:=(Kp.cons (u.on 0 rfl) Kp.nil0);refine ta 0 (.pointer (some ⟨b,6,none⟩)) (ta 1 (Qo b 6) (ta 2 (Qo b 7) (tkx 3 l0 (fun c' k0 hk=>le1 7 u_3 (hk.on 0 rfl)) (ta 4 (Q p) (tx 5 (fun c' k0=>l1 u_3 ((mm M) 0 _ rfl)) (bn d fun i g0 d=>o1 6 (gc 6 (sw u a.last e.Break g0) ?_)))))));rintro v44 h d1 ⟨g,rfl⟩;have m0:Kp G0 [(Eb b 184 [r0_0,r0_1,r0_2,r0_3,r0_4,r0_5,B a.some,I a.last,I a.pict,I a.conj,B a.odd,r0_11])] h:=(Kp.cons (g.on 0 rfl) Kp.nil0);refine ⟨.inr m0,dn (nrm (W.block (sr (vv (B (i==1)) (wln (cn d (fun h0 d=>?_) (fun h0 d=>?_)))))))⟩
 ·refine sr (va (B true) (wln (W.ret (bkr (thr ?_)))));obtain rfl:=si d;exact r1 (qq h ⟨g,rfl⟩)
 refine sr (vv (B (i==2)) (wln (cn d (fun i0 d=>?_) (fun i0 d=>?_))))
 ·refine W.seq (bn d fun D y d=>W.join (Jn h fun c l=>Own c G ((Eb b 184 [r0_0,r0_1,r0_2,r0_3,r0_4,r0_5,B a.some,I a.last,I a.pict,I a.conj,B a.odd,r0_11]) :: F)∧l= [(4,B D)]) ?_ ?_)
  ·clear d;refine W.region (vv (Qo b 6) (va (Qo b 7) (vx (le1 7 u_3 (g.on 0 rfl)) (va (B (a.last==6)) ?_))));rcases bo (a.last==6) with m | m
   ·have T:=anT m y;refine vb m (wa (Qo b 6) (wa (Qo b 6) (wa (Qo b 10) (wn (vx (le1 10 u_4 (g.on 0 rfl)) ?_)))));obtain rfl:=si T;exact vv (B a.odd) (wln (jn h ⟨g,rfl⟩))
   obtain rfl:=anF m y;exact vb m (pz (pz (vv (B false) (wln (jn h ⟨g,rfl⟩)))))
  rintro E N ⟨d0,x0,_,rfl,e1,rfl,X,rfl⟩;refine nrm (W.ret (bkr (thr ?_)));obtain rfl:=si d;exact r1 (qq d0 ⟨X,rfl⟩)
 refine W.skip (bkn (nrm (sr (va (B false) (wln (W.ret ?_))))));obtain rfl:=si d;exact r1 (qq h ⟨g,rfl⟩)
def cF (p0:br) (p1:ao):Option (Int):=
 if p1.Pict=true then
 some 1
 else
 (bT (p0.pict==1) (some (p1.Break==4))).bind fun a=>
 if a=true then
 some 1
 else
 (bT (p0.pict==1) (some (p1.Break==5))).bind fun b=>
 if b=true then
 some 2
 else
 some 0
theorem lc {b:Nat} {r0_0:Value} {r0_1:Value} {r0_2:Value} {r0_3:Value} {r0_4:Value} {r0_5:Value} {r0_11:Value} (a:br) (d:ao) (A:Own c0 G ((Eb b 184 [r0_0,r0_1,r0_2,r0_3,r0_4,r0_5,B a.some,I a.last,I a.pict,I a.conj,B a.odd,r0_11]) :: F)) {r:Int} (H:cF a d=some r): Calls prog 225 #[.pointer (some ⟨b,6,none⟩),.agg #[I d.Break,B d.Pict,I d.Conj,I d.East]] c0.w (aT c0 fun c v=>Own c G ((Eb b 184 [r0_0,r0_1,r0_2,r0_3,r0_4,r0_5,B a.some,I a.last,I a.pict,I a.conj,B a.odd,r0_11]) :: F)∧v=I r):=by
 unfold cF at H;refine en func225 rfl rfl (sr (me (bx 238 [I d.Break,B d.Pict,I d.Conj,I d.East] A) ?_));rintro v5 k T ⟨j,rfl,i,s⟩;refine va (I 0) (wln (W.seq (W.block (sr (va (Qo j (0+1)) (vx (l1 u_4 (s 1 _ rfl)) (va (B d.Pict) (wln (cn H (fun E H=>?_) (fun E H=>?_))))))))))
 ·refine sr (va (I 1) (wln (W.ret (bkr (thr ?_)))));obtain rfl:=si H;exact r1 (qq k ⟨i,rfl⟩)
 refine W.seq (bn H fun p y H=>W.join (Jn k fun c l=>Own c G ((Eb b 184 [r0_0,r0_1,r0_2,r0_3,r0_4,r0_5,B a.some,I a.last,I a.pict,I a.conj,B a.odd,r0_11]) :: F)∧l= [(0,.pointer (some ⟨b,6,none⟩)),(3,Q j),(8,B p)]) ?_ ?_)
 ·clear H;refine W.region (vv (Qo b 6) (va (Qo b 8) (vx (le1 8 u_3 (i.on 0 rfl)) (va (B (a.pict==1)) ?_))));rcases bo (a.pict==1) with h | h
  ·have z:=anT h y;refine vb h (wa (Q j) (wn (vx (l1 u_3 (s 0 _ rfl)) (wa (B (d.Break==4)) ?_))));obtain rfl:=si z;exact vv (B (d.Break==4)) (wln (jn k ⟨i,rfl⟩))
  obtain rfl:=anF h y;exact vb h (pz (ps (vv (B false) (wln (jn k ⟨i,rfl⟩)))))
 rintro D M ⟨g,N,_,rfl,R,rfl,f,rfl⟩;refine nrm (cn H (fun u H=>?_) (fun u H=>?_))
 ·refine sr (va (I 1) (wln (W.ret (bkr (thr ?_)))));obtain rfl:=si H;exact r1 (qq g ⟨f,rfl⟩)
 refine W.seq (bn H fun q o H=>W.join (Jn g fun c l=>Own c G ((Eb b 184 [r0_0,r0_1,r0_2,r0_3,r0_4,r0_5,B a.some,I a.last,I a.pict,I a.conj,B a.odd,r0_11]) :: F)∧l= [(19,B q)]) ?_ ?_)
 ·clear H;refine W.region (vv (Qo b 6) (va (Qo b 8) (vx (le1 8 u_3 (f.on 0 rfl)) (va (B (a.pict==1)) ?_))));rcases bo (a.pict==1) with e | e
  ·have t:=anT e o;refine vb e (wa (Q j) (wn (vx (l1 u_3 ((mm s) 0 _ rfl)) (wa (B (d.Break==5)) ?_))));obtain rfl:=si t;exact vv (B (d.Break==5)) (wln (jn g ⟨f,rfl⟩))
  obtain rfl:=anF e o;exact vb e (pz (ps (vv (B false) (wln (jn g ⟨f,rfl⟩)))))
 rintro D M ⟨n,P,_,rfl,S,rfl,m,rfl⟩;refine nrm (cn H (fun x H=>?_) (fun x H=>?_))
 ·refine sr (va (I 2) (wln (W.ret (bkr (thr ?_)))));obtain rfl:=si H;exact r1 (qq n ⟨m,rfl⟩)
 refine W.skip (bkn (nrm (sr (va (I 0) (wln (W.ret ?_))))));obtain rfl:=si H;exact r1 (qq n ⟨m,rfl⟩)
def cw (p0:br) (p1:ao):Option (Int):=
 if (p1.Conj==1)=true then
 some 1
 else
 if (p0.conj==0)=true then
 some 0
 else
 if (p1.Conj==2)=true then
 some 2
 else
 if (p1.Conj==3)=true then
 some p0.conj
 else
 some 0
theorem kQ {b:Nat} {r0_0:Value} {r0_1:Value} {r0_2:Value} {r0_3:Value} {r0_4:Value} {r0_5:Value} {r0_11:Value} (d:br) (a:ao) (i:Own c0 G ((Eb b 184 [r0_0,r0_1,r0_2,r0_3,r0_4,r0_5,B d.some,I d.last,I d.pict,I d.conj,B d.odd,r0_11]) :: F)) {r:Int} (H:cw d a=some r): Calls prog 226 #[.pointer (some ⟨b,6,none⟩),.agg #[I a.Break,B a.Pict,I a.Conj,I a.East]] c0.w (aT c0 fun c v=>Own c G ((Eb b 184 [r0_0,r0_1,r0_2,r0_3,r0_4,r0_5,B d.some,I d.last,I d.pict,I d.conj,B d.odd,r0_11]) :: F)∧v=I r):=by
 unfold cw at H;refine en func226 rfl rfl (sr (me (bx 238 [I a.Break,B a.Pict,I a.Conj,I a.East] i) ?_));rintro v5 f n ⟨g,rfl,e,h⟩;refine va (I 0) (wln (W.seq (W.block (sr (va (Qo g (0+2)) (vx (l1 u_3 (h 2 _ rfl)) (vv (B (a.Conj==1)) (wln (cn H (fun j H=>?_) (fun j H=>?_))))))))))
 ·refine sr (va (I 1) (wln (W.ret (bkr (thr ?_)))));obtain rfl:=si H;exact r1 (qq f ⟨e,rfl⟩)
 refine sr (vv (Qo b 6) (va (Qo b 9) (vx (le1 9 u_3 (e.on 0 rfl)) (vv (B (d.conj==0)) (wln (cn H (fun k H=>?_) (fun k H=>?_)))))))
 ·refine sr (va (I 0) (wln (W.ret (bkr (thr ?_)))));obtain rfl:=si H;exact r1 (qq f ⟨e,rfl⟩)
 refine sr (va (Qo g (0+2)) (vx (l1 u_3 (h 2 _ rfl)) (vv (B (a.Conj==2)) (wln (cn H (fun l H=>?_) (fun l H=>?_))))))
 ·refine sr (va (I 2) (wln (W.ret (bkr (thr ?_)))));obtain rfl:=si H;exact r1 (qq f ⟨e,rfl⟩)
 refine sr (va (Qo g (0+2)) (vx (l1 u_3 (h 2 _ rfl)) (vv (B (a.Conj==3)) (wln (cn H (fun m H=>?_) (fun m H=>?_))))))
 ·refine sr (vv (Qo b 6) (va (Qo b 9) (vx (le1 9 u_3 (e.on 0 rfl)) (va (I d.conj) (wln (W.ret (bkr (thr ?_))))))));obtain rfl:=si H;exact r1 (qq f ⟨e,rfl⟩)
 refine W.skip (bkn (nrm (sr (va (I 0) (wln (W.ret ?_))))));obtain rfl:=si H;exact r1 (qq f ⟨e,rfl⟩)
def cu (p0:br) (p1:ao):Option (br×Bool):=
 if false=true then
 some (p0,false)
 else
 (cO p0 p1).bind fun d=>
 (cF p0 p1).bind fun e=>
 (cw p0 p1).bind fun f=>
 (bT (p1.Break==6) ((bT p0.some (some (p0.last==6))).bind fun b=>
 (bT b (some p0.odd)).bind fun c=>
 some (!c))).bind fun a=>
 some ((⟨true,p1.Break,e,f,a⟩:br),d)
theorem mg {a:Nat} {r0_0:Value} {r0_1:Value} {r0_2:Value} {r0_3:Value} {r0_4:Value} {r0_5:Value} {r0_11:Value} (b:br) (f:ao) (O0:Own c0 G ((Eb a 184 [r0_0,r0_1,r0_2,r0_3,r0_4,r0_5,B b.some,I b.last,I b.pict,I b.conj,B b.odd,r0_11]) :: F)) {r:br×Bool} (H:cu b f=some r): Calls prog 173 #[.pointer (some ⟨a,6,none⟩),.agg #[I f.Break,B f.Pict,I f.Conj,I f.East]] c0.w (aT c0 fun c v=>Own c G ((Eb a 184 [r0_0,r0_1,r0_2,r0_3,r0_4,r0_5,B r.1.some,I r.1.last,I r.1.pict,I r.1.conj,B r.1.odd,r0_11]) :: F)∧v=B r.2):=by
 unfold cu at H;refine en func173 rfl rfl (sr (me (bx 238 [I f.Break,B f.Pict,I f.Conj,I f.East] O0) ?_));rintro v5 c4 l4 ⟨A,rfl,O2,o⟩;refine va (B false) (wln (W.seq (sr (va (Qo a 6) (va (B false) (wln (W.cond (t:=false) (by kernel_rfl) (fun E=>?_) (fun E=>?_))))))))
 ·cases E
 have H:=ie E H;refine W.skip (nrm (sr (va (Qo a 6) (vx (lN 238 o) (bn H fun i h8 H=>cl (lR b f O2 h8) ?_)))));rintro v14 j1 n1 ⟨P,rfl⟩;refine va (B i) (wln (W.seq (rD [] (Kp G0 []) P ?_)));intro i0 q1 R;have f2:Kp G0 [] i0:=Kp.nil0;refine ta 0 (.pointer (some ⟨a,6,none⟩)) (ta 1 (Qo a 6) (ta 2 (Qo a 6) (tx 3 (fun c' z=>lN 238 (mm o)) (ta 5 (Qo a 6) (tx 6 (fun c' z=>lN 238 (mm o)) (bn H fun d v0 H=>o1 4 (gc 4 (lc b f R v0) ?_)))))));rintro v25 j0 s1 ⟨S,rfl⟩;have y0:Kp G0 [] j0:=Kp.nil0;refine ⟨.inr y0,bn H fun e w0 H=>o1 7 (gc 7 (kQ b f S w0) ?_)⟩;rintro v34 k0 t1 ⟨T,rfl⟩;have z0:Kp G0 [] k0:=Kp.nil0;refine ⟨.inr z0,ta 8 (.pointer (some ⟨a,6,none⟩)) (ta 9 (Qo a 8) (o1 10 (gD 10 (sC 3 8 (I d) [r0_0,r0_1,r0_2,r0_3,r0_4,r0_5,B b.some,I b.last,I d,I b.conj,B b.odd,r0_11] 0 T ⟨rfl,trivial⟩) ?_)))⟩;rintro l0 u1 U;have a1:Kp G0 [] l0:=Kp.nil0;refine ⟨.inr a1,ta 11 (.pointer (some ⟨a,6,none⟩)) (ta 12 (Qo a 9) (o1 13 (gD 13 (sC 3 9 (I e) [r0_0,r0_1,r0_2,r0_3,r0_4,r0_5,B b.some,I b.last,I d,I e,B b.odd,r0_11] 0 U ⟨rfl,trivial⟩) ?_)))⟩;rintro p v1 h;have c1:Kp G0 [] p:=Kp.nil0;refine ⟨.inr c1,dn (nrm (W.seq (bn H fun n s H=>W.join (Jn p fun c l=>Own c G ((Eb a 184 [r0_0,r0_1,r0_2,r0_3,r0_4,r0_5,B b.some,I b.last,I d,I e,B n,r0_11]) :: F)∧l= [(0,.pointer (some ⟨a,6,none⟩)),(3,Q A),(5,B i)]) ?_ ?_)))⟩
 ·clear H;refine W.region (va (Qo a 6) (va (Q A) (vx (l1 u_3 ((mm o) 0 _ rfl)) (va (B (f.Break==6)) ?_))));rcases bo (f.Break==6) with j | j
  ·have g:=anT j s;refine vb j (wa (Qo a 6) (wa (Qo a 6) (wa (Qo a 6) (wn (vx (le1 6 u_4 (h.on 0 rfl)) (wn (bn g fun h1 u g=>?_)))))));rcases bo (b.some) with k | k
   ·have M:=anT k u;refine vb k (wa (Qo a 6) (wa (Qo a 6) (wa (Qo a 7) (wn (vx (le1 7 u_3 (h.on 0 rfl)) (wa (B (b.last==6)) (wn ?_)))))));obtain rfl:=si M;refine va (B (b.last==6)) (wn (bn g fun D x g=>?_));rcases bo (b.last==6) with m | m
    ·have N:=anT m x;refine vb m (wa (Qo a 6) (wa (Qo a 6) (wa (Qo a 10) (wn (vx (le1 10 u_4 (h.on 0 rfl)) (wn ?_))))));obtain rfl:=si N;refine va (B b.odd) (wa (B (!b.odd)) ?_);obtain rfl:=si g;refine va (B (!b.odd)) (va (Qo a 6) (va (Qo a 10) (md (sC 4 10 (B (!b.odd)) [r0_0,r0_1,r0_2,r0_3,r0_4,r0_5,B b.some,I b.last,I d,I e,B (!b.odd),r0_11] 0 h ⟨rfl,trivial⟩) ?_)));rintro m0 w1 X;exact wln (jn m0 ⟨X,rfl⟩)
    obtain rfl:=anF m x;refine vb m (pz (pz (wa (B false) (wa (B (!false)) ?_))));obtain rfl:=si g;refine va (B (!false)) (va (Qo a 6) (va (Qo a 10) (md (sC 4 10 (B (!false)) [r0_0,r0_1,r0_2,r0_3,r0_4,r0_5,B b.some,I b.last,I d,I e,B (!false),r0_11] 0 h ⟨rfl,trivial⟩) ?_)));rintro o0 x1 Z;exact wln (jn o0 ⟨Z,rfl⟩)
   obtain rfl:=anF k u;refine vb k (pz (pz (ps (wa (B false) (wn (bn g fun D x0 g=>?_))))));have y:false=false:=rfl;obtain rfl:=anF y x0;refine vb y (pz (pz (wa (B false) (wa (B (!false)) ?_))));obtain rfl:=si g;refine va (B (!false)) (va (Qo a 6) (va (Qo a 10) (md (sC 4 10 (B (!false)) [r0_0,r0_1,r0_2,r0_3,r0_4,r0_5,B b.some,I b.last,I d,I e,B (!false),r0_11] 0 h ⟨rfl,trivial⟩) ?_)));rintro q0 y1 a0;exact wln (jn q0 ⟨a0,rfl⟩)
  obtain rfl:=anF j s;refine vb j (pz (pz (pz (pz (pz (pz (pz (pz (pz (va (B false) (va (Qo a 6) (va (Qo a 10) (md (sC 4 10 (B false) [r0_0,r0_1,r0_2,r0_3,r0_4,r0_5,B b.some,I b.last,I d,I e,B false,r0_11] 0 h ⟨rfl,trivial⟩) ?_)))))))))))));rintro s0 z1 b0;exact wln (jn s0 ⟨b0,rfl⟩)
 rintro e_ w_ ⟨k1,m1,_,rfl,b2,rfl,d0,rfl⟩;refine nrm (W.seq (rD [] (Kp G0 []) d0 ?_));intro t0 c2 e0;have g2:Kp G0 [] t0:=Kp.nil0;refine ta 0 (.pointer (some ⟨a,6,none⟩)) (ta 1 (Qo a 6) (ta 2 (Q A) (tx 3 (fun c' z=>l1 u_3 ((mm o) 0 _ rfl)) (ta 4 (Qo a 6) (ta 5 (Qo a 6) (o1 6 (gD 6 (sC 4 6 (B true) [r0_0,r0_1,r0_2,r0_3,r0_4,r0_5,B true,I b.last,I d,I e,B n,r0_11] 0 e0 ⟨rfl,trivial⟩) ?_)))))));rintro u0 d2 f0;have d1:Kp G0 [] u0:=Kp.nil0;refine ⟨.inr d1,ta 7 (.pointer (some ⟨a,6,none⟩)) (ta 8 (Qo a 7) (o1 9 (gD 9 (sC 3 7 (I f.Break) [r0_0,r0_1,r0_2,r0_3,r0_4,r0_5,B true,I f.Break,I d,I e,B n,r0_11] 0 f0 ⟨rfl,trivial⟩) ?_)))⟩;rintro q e2 g0;have e1:Kp G0 [] q:=Kp.nil0;refine ⟨.inr e1,dn (nrm (sr (vv (B i) (wln (W.ret ?_)))))⟩;obtain rfl:=si H;exact r1 (qq q ⟨g0,rfl⟩)
def gp (sg:Sto) (p0:Option Nat) (p1:Int):Option (Sto):=
 (eR p1).bind fun s=>
 if s=true then
 (cX sg p0).bind fun k=>
 (p0).bind fun r=>
 (k.feed_Feeder[r]?).bind fun n=>
 (ow k n.pen p1).bind fun p=>
 some p.1
 else
 (nc p1).bind fun e=>
 (p0).bind fun h=>
 (sg.feed_Feeder[h]?).bind fun a=>
 (cu a.seg e).bind fun j=>
 (sg.set_feed_Feeder h (⟨a.pen,a.dec,j.1,a.open_⟩:bC)).bind fun b=>
 (bT j.2 (some (!a.open_.isNone))).bind fun l=>
 if l=true then
 (p0).bind fun m=>
 (b.feed_Feeder[m]?).bind fun i=>
 (dD b i.open_ i.pen p1 e).bind fun q=>
 some q.1
 else
 (p0).bind fun c=>
 (b.feed_Feeder[c]?).bind fun o=>
 (kI b o.pen p1 e).bind fun f=>
 (f.1.feed_Feeder[c]?).bind fun d=>
 (f.1.set_feed_Feeder c (⟨d.pen,d.dec,d.seg,f.2⟩:bC)).bind fun g=>
 some g
theorem qN (O0:Own c0 G F) (R0:Rel c0 sg G) (hG:Gl [2,4] c0) (p0:Option Nat) (f:Int) {r:Sto} (U:Pt 4 c0 v1 p0) (H:gp sg p0 f=some r): Calls prog 221 #[v1,J f] c0.w (aT c0 fun c v=>∃G_:Gm,Own c G_ (F)∧Rel c r G_∧v= .tuple #[]):=by
 unfold gp at H;refine en func221 rfl rfl (W.seq (sr (va (J f) (bn H fun f5 h3 H=>cl (lV O0 f h3) ?_))));rintro v9 c8 N ⟨O5,rfl⟩;refine wln (cn H (fun x2 H=>?_) (fun x2 H=>?_))
 ·refine sr (va (v1) (bn H fun g5 y2 H=>cl (iS O5 R0.m p0 U.m y2) ?_));rintro v17 u4 l16 ⟨s4,g0,j0,rfl⟩;refine wln (sr (va (v1) (bn H fun a5 a3 H=>?_)));obtain ⟨l0,rfl,z2⟩:=((U.mono (N.trans l16))).get a3;refine vv (Q l0) (bn H fun z1 b3 H=>?_);obtain ⟨v22,v24,d3,c3,z4⟩:=Rel.open_feed_Feeder j0 b3 z2;refine vx (le1 0 tw (g0.gon d3 0 rfl)) (va (J f) (bn H fun p4 e3 H=>cl (B1 g0 j0 z1.pen f c3 e3) ?_));rintro v33 t2 b5 ⟨e2,i2,s2,rfl⟩;refine wln (W.ret (thr ?_));obtain rfl:=si H;exact r0 (qq t2 ⟨e2,i2,s2,rfl⟩)
 refine W.skip (nrm (sr (va (J f) (bn H fun a f3 H=>cl (vk O5 f f3) ?_))));rintro v40 v4 s ⟨j2,rfl⟩;refine me (al 238 [I 0,B false,I 0,I 0] j2) ?_;rintro v44 w4 t ⟨h,rfl,k2⟩;refine md (sA 238 [I a.Break,B a.Pict,I a.Conj,I a.East] 0 k2 ⟨rfl,rfl,rfl,rfl,trivial⟩) ?_;rintro u2 u l2;refine wln (W.seq (W.seq (bn H fun f4 g3 H=>bn H fun d i3 H=>bn H fun g j3 H=>bn H fun P k3 H=>bn H fun k1 s0 H=>W.join (Jn u2 fun c l=>∃G_,Own c G_ ((Eb h 238 [I a.Break,B a.Pict,I a.Conj,I a.East]) :: F)∧l= [(0,v1),(1,J f),(4,Q h),(28,B k1)]∧Rel c P G_) ?_ ?_)))
 ·clear H;refine rD [4,9] (Kp G0 [(Eb h 238 [I a.Break,B a.Pict,I a.Conj,I a.East])]) l2 ?_;intro v2 Z h0;have w3:Kp G0 [(Eb h 238 [I a.Break,B a.Pict,I a.Conj,I a.East])] v2:=(Kp.cons (h0.on 0 rfl) Kp.nil0);refine ta 0 (v1) ?_;obtain ⟨j,rfl,t0⟩:=((U.mono (N.trans (s.trans (t.trans (u.trans Z)))))).get g3;refine ta 1 (Q j) (ta 2 (Qo j 6) (tkx 3 w3 (fun p i k=>leN 238 0 [I a.Break,B a.Pict,I a.Conj,I a.East] (k.on 0 rfl)) ?_));obtain ⟨v57,v59,m3,l3,u0⟩:=Rel.open_feed_Feeder (R0.mono (N.trans (s.trans (t.trans (u.trans Z))))) i3 t0;have n2:=h0.borrow 0 m3 rfl;refine o1 4 (gc 4 (mg d.seg a n2 j3) ?_);rintro c5 m0 a0 ⟨o2,rfl⟩;have p2:=o2.giveB 0 rfl;obtain ⟨f0,R,k0,n3,t4⟩:=Rel.put_feed_Feeder p2 (R0.mono (N.trans (s.trans (t.trans (u.trans (Z.trans a0)))))) (E':=[(Eb j 184 [v57,I d.dec.held,I d.dec.needs,.int .u8 d.dec.lo,.int .u8 d.dec.hi,I d.dec.bits,B g.1.some,I g.1.last,I g.1.pict,I g.1.conj,B g.1.odd,v59])]) k3 ⟨j,v57,v59,(tm t0),rfl,(l3.mono a0),(u0.mono a0)⟩;refine ⟨.inl rfl,?_⟩;rcases bo (g.2) with q | q
  ·have g2:=anT q s0;refine AC.takeb 5 q rfl (by kernel_rfl) (by kernel_rfl) (fun p i=>(by kernel_rfl)) (ta 6 (Q j) (ta 7 (Q j) (ta 8 (Qo j 11) (o1 9 (gl 9 (le1 11 underlying182 (R.gon n3 0 rfl)) (AC.take 10 (B (!d.open_.isNone)) rfl (by kernel_rfl) (by kernel_rfl) (fun p i=>(by rcases u0.m.cs with ⟨o0,q0⟩ | ⟨b_,o0,q0⟩ <;> (subst o0; rw [q0]; kernel_rfl))) ?_))))));obtain rfl:=si g2;exact ta 11 (B (!d.open_.isNone)) (dn (nrm (jn m0 ⟨f0,R,rfl,k0⟩)))
  obtain rfl:=anF q s0;exact AC.takeb 5 q rfl (by kernel_rfl) (by kernel_rfl) (fun p i=>(by kernel_rfl)) (tp 6 (tp 7 (tp 8 (tp 9 (tp 10 (ta 11 (B false) (dn (nrm (jn m0 ⟨f0,R,rfl,k0⟩)))))))))
 rintro e_ w_ ⟨x4,y4,_,rfl,w0,rfl,E,i0,rfl,M⟩;refine nrm (cn H (fun o3 H=>?_) (fun o3 H=>?_))
 ·refine W.seq (rD [10] (Kp E [(Eb h 238 [I a.Break,B a.Pict,I a.Conj,I a.East])]) i0 ?_);intro w2 x0 S;have e0:Kp E [(Eb h 238 [I a.Break,B a.Pict,I a.Conj,I a.East])] w2:=(Kp.cons (S.on 0 rfl) (Kp.nil S));refine ta 0 (v1) (bn H fun g4 q3 H=>?_);obtain ⟨o,rfl,p3⟩:=((U.mono (N.trans (s.trans (t.trans (u.trans (w0.trans x0))))))).get q3;refine ta 1 (Q o) (ta 2 (Qo o 11) (bn H fun b0 s3 H=>?_));obtain ⟨d5,e5,v0,t3,u3⟩:=Rel.open_feed_Feeder (M.mono x0) s3 p3;refine tkx 3 e0 (fun p i k=>le1 11 underlying182 (k.gon v0 0 rfl)) (ta 4 (Q o) (ta 5 (Q o) (ta 6 (Q o) (tkx 7 e0 (fun p i k=>le1 0 tw (k.gon v0 0 rfl)) (ta 8 (J f) (tkx 9 e0 (fun p i k=>leN 238 0 [I a.Break,B a.Pict,I a.Conj,I a.East] (k.on 0 rfl)) (bn H fun q4 v3 H=>o1 10 (gc 10 (qf S M.m (hG.m.le (by decide)) b0.open_ b0.pen f a u3 t3 v3) ?_))))))));rintro k4 h1 i4 ⟨f2,q2,f1,rfl⟩;refine ⟨.inl rfl,dn (nrm (W.ret (thr ?_)))⟩;obtain rfl:=si H;have z0:=q2.sD 1 [];exact r0 (qq h1 ⟨f2,z0,f1,rfl⟩)
 refine W.skip (nrm (rD [7,10] (Kp E [(Eb h 238 [I a.Break,B a.Pict,I a.Conj,I a.East])]) i0 ?_));intro i1 X x;have d0:Kp E [(Eb h 238 [I a.Break,B a.Pict,I a.Conj,I a.East])] i1:=(Kp.cons (x.on 0 rfl) (Kp.nil x));refine ta 0 (v1) (ta 1 (v1) (bn H fun h4 m1 H=>?_));obtain ⟨e,rfl,y⟩:=((U.mono (N.trans (s.trans (t.trans (u.trans (w0.trans X))))))).get m1;refine ta 2 (Q e) (ta 3 (Q e) (bn H fun b2 n1 H=>?_));obtain ⟨l4,m4,s1,q1,b4⟩:=Rel.open_feed_Feeder (M.mono X) n1 y;refine tkx 4 d0 (fun p i k=>le1 0 tw (k.gon s1 0 rfl)) (ta 5 (J f) (tkx 6 d0 (fun p i k=>leN 238 0 [I a.Break,B a.Pict,I a.Conj,I a.East] (k.on 0 rfl)) (bn H fun r4 t1 H=>o1 7 (gc 7 (vO x M.m (hG.m.le (by decide)) b2.pen f a q1 t1) ?_))));rintro n4 a4 j4 ⟨_,x3,a1,T,rfl,z⟩;refine ⟨.inl rfl,ta 8 (Q e) (ta 9 (Qo e 11) ?_)⟩;obtain ⟨n,rfl⟩:=(z).form;refine bn H fun b u1 H=>?_;obtain ⟨D,o4,x1,w1,c4⟩:=Rel.open_feed_Feeder T u1 (tm y);refine o1 10 (gD 10 (gC 182 11 (.pointer n) [D,I b.dec.held,I b.dec.needs,.int .u8 b.dec.lo,.int .u8 b.dec.hi,I b.dec.bits,B b.seg.some,I b.seg.last,I b.seg.pict,I b.seg.conj,B b.seg.odd,.pointer n] 0 a1 x1 ⟨z.one,trivial⟩) ?_);rintro j1 A b1;refine bn H fun d2 y1 H=>?_;obtain ⟨y0,c1,g1,d4,z3⟩:=Rel.put_feed_Feeder b1 (T.mono A) (E':=[(Eb e 184 [D,I b.dec.held,I b.dec.needs,.int .u8 b.dec.lo,.int .u8 b.dec.hi,I b.dec.bits,B b.seg.some,I b.seg.last,I b.seg.pict,I b.seg.conj,B b.seg.odd,.pointer n])]) y1 ⟨e,D,(.pointer n),(tm y),rfl,(w1.mono A),(z.mono A)⟩;refine ⟨.inl rfl,dn ?_⟩;obtain rfl:=si H;have d1:=c1.sD 1 [];exact n0 (qq j1 ⟨y0,d1,g1,rfl⟩)
def gi (sg:Sto) (p0:Option Nat) (p1:List Int):Option (Sto):=
 (cJ (σ:=Int×Sto) (τ:=Sto) (((p1.length:Int) - 0).toNat+1) (fun a=>
 if (decide (a.1 < (p1.length:Int)))=true then
 (idx p1 a.1).bind fun d=>
 (gp a.2 p0 d).bind fun b=>
 some (.inl ((w64 (a.1+1)),b))
 else
 some (.inr (a.2))) (0,sg)).bind fun c=>
 some c
theorem nz (S:Own c0 G F) (T:Rel c0 sg G) (hG:Gl [2,4] c0) (j:Option Nat) (d:List Int) {r:Sto} (Z:Pt 4 c0 v1 j) (h:Sl (RI .i32) c0 v3 d) (H:gi sg j d=some r): Calls prog 165 #[v1,v3] c0.w (aT c0 fun c v=>∃G_:Gm,Own c G_ (F)∧Rel c r G_∧v= .tuple #[]):=by
 unfold gi at H;refine en func165 rfl rfl (sr (va (v3) (vx (ln 3 cS h) (va (I 0) (wln (W.block (bn H fun i0 N p=>lp N (fun a=>Jn c0 fun c l=>∃G_,Own c G_ (F)∧l= [(0,v1),(6,v3),(7,I (d.length:Int)),(8,I a.1)]∧Rel c a.2 G_) (fun i ex e w=>ex= .exit 0∧(Jn c0 fun c l=>∃G_,Own c G_ (F)∧l= []∧Rel c i G_) e w) ?_ ?_ ?_)))))))
 ·clear p N;intro a j0 A R H;revert A R;rintro X w_ ⟨U,g8,_,rfl,l7,rfl,k,t,rfl,f⟩;refine sr (va (B (decide (a.1 < (d.length:Int)))) (wln (W.seq (cn H (fun D H=>?_) (fun D H=>?_)))))
  ·refine W.skip (nrm (W.seq (W.block (sr (bn H fun b g H=>?_)))));obtain ⟨b0,E,P⟩:=Sl.at (h.mono l7) (bz g);obtain rfl:=E;refine vx (ix cS h.m g) (vx (l1 mf (P 0 _ rfl)) (va (J b) (wln (W.region (va (v1) (va (J b) (bn H fun e0 M H=>cl (qN t f (hG.m.le (by decide)) j b Z.m M) ?_)))))));rintro v24 y g0 ⟨n,q,u,rfl⟩;refine WL.nil (bkn (nrm (W.region (vv (I (w64 (a.1+1))) (WL.nil ?_)))));obtain rfl:=si H;exact ⟨_,rfl,jn y ⟨n,q,rfl,u⟩⟩
  refine W.exit (thx ?_);obtain rfl:=si H;exact ⟨_,rfl,rfl,jn U ⟨k,t,rfl,f⟩⟩
 ·exact jn c0 ⟨G,S,rfl,T⟩
 rintro _ X w_ ⟨rfl,z,f0,_,rfl,h0,rfl,o,s,rfl,x⟩;refine bke ?_;obtain rfl:=si p;exact n0 (qq z ⟨o,s,x,rfl⟩)
def jp (p0:Int):Option (Int):=
 ((bT (decide (p0≥240)) (some (decide (p0≤244)))).bind fun a=>
 if a=true then
 some ((w64 ((w64 ((w64 ((w64 (0+1))+1))+1))+1)))
 else
 (bT (decide (p0≥224)) (some (decide (p0 < 240)))).bind fun b=>
 if b=true then
 some ((w64 ((w64 ((w64 (0+1))+1))+1)))
 else
 (bT (decide (p0≥194)) (some (decide (p0 < 224)))).bind fun c=>
 if c=true then
 some ((w64 ((w64 (0+1))+1)))
 else
 if (decide (p0 < 128))=true then
 some ((w64 (0+1)))
 else
 some (0)).bind fun d=>
 some d
theorem oP (A:Own c0 G F) (a:Int) {r:Int} (H:jp a=some r): Calls prog 219 #[.int .u8 a] c0.w (aT c0 fun c v=>Own c G (F)∧v=I r):=by
 unfold jp at H;refine en func219 rfl rfl (sr (va (I 0) (wln (sr (va (I 0) (wln (bn H fun k b T=>W.seqJ (Jn c0 fun c l=>Own c G (F)∧l= [(3,I k)]) ?_ ?_)))))))
 ·refine W.block (W.seq (W.block (W.seq (W.block (W.seq (W.block (W.seq (W.block (W.seq (W.seq (W.seq (bn b fun q P b=>W.join (Jn c0 fun c l=>Own c G (F)∧l= [(0,.int .u8 a),(3,I 0),(4,B q)]) ?_ ?_))))))))))))
  ·clear b;refine W.region (va (.int .u8 a) (va (B (decide (a≥240))) ?_));rcases bo (decide (a≥240)) with j | j
   ·have U:=anT j P;refine vb j (wa (.int .u8 a) (wa (B (decide (a≤244))) ?_));obtain rfl:=si U;exact vv (B (decide (a≤244))) (wln (jn c0 ⟨A,rfl⟩))
   obtain rfl:=anF j P;exact vb j (pz (vv (B false) (wln (jn c0 ⟨A,rfl⟩))))
  rintro u x ⟨m,g7,_,rfl,l6,rfl,p,rfl⟩;refine nrm (cn b (fun M b=>?_) (fun M b=>?_))
  ·refine W.exit (thx (thx (bke (nrm (W.region (va (I 0) (vv (I (w64 (0+1))) (WL.nil (bkn (nrm (W.region (va (I (w64 (0+1))) (vv (I (w64 ((w64 (0+1))+1))) (WL.nil (bkn (nrm (W.region (va (I (w64 ((w64 (0+1))+1))) (vv (I (w64 ((w64 ((w64 (0+1))+1))+1))) (WL.nil (bkn (nrm (sr (va (I (w64 ((w64 ((w64 (0+1))+1))+1))) (vv (I (w64 ((w64 ((w64 ((w64 (0+1))+1))+1))+1))) (wln (W.exit (bke (nrm ?_)))))))))))))))))))))))))))));obtain rfl:=si b;exact jn m ⟨p,rfl⟩
  refine W.skip (nrm (W.seq (W.seq (bn b fun s n b=>W.join (Jn m fun c l=>Own c G (F)∧l= [(0,.int .u8 a),(3,I 0),(11,B s)]) ?_ ?_))))
  ·clear b;refine W.region (va (.int .u8 a) (va (B (decide (a≥224))) ?_));rcases bo (decide (a≥224)) with d | d
   ·have y:=anT d n;refine vb d (wa (.int .u8 a) (wa (B (decide (a < 240))) ?_));obtain rfl:=si y;exact vv (B (decide (a < 240))) (wln (jn m ⟨p,rfl⟩))
   obtain rfl:=anF d n;exact vb d (pz (vv (B false) (wln (jn m ⟨p,rfl⟩))))
  rintro u x ⟨f,X,_,rfl,l16,rfl,g,rfl⟩;refine nrm (cn b (fun N b=>?_) (fun N b=>?_))
  ·refine W.exit (thx (thx (bko rfl (thx (bke (nrm (W.region (va (I 0) (vv (I (w64 (0+1))) (WL.nil (bkn (nrm (W.region (va (I (w64 (0+1))) (vv (I (w64 ((w64 (0+1))+1))) (WL.nil (bkn (nrm (sr (va (I (w64 ((w64 (0+1))+1))) (vv (I (w64 ((w64 ((w64 (0+1))+1))+1))) (wln (W.exit (bke (nrm ?_)))))))))))))))))))))))));obtain rfl:=si b;exact jn f ⟨g,rfl⟩
  refine W.skip (nrm (W.seq (W.seq (bn b fun t o b=>W.join (Jn f fun c l=>Own c G (F)∧l= [(0,.int .u8 a),(3,I 0),(18,B t)]) ?_ ?_))))
  ·clear b;refine W.region (va (.int .u8 a) (va (B (decide (a≥194))) ?_));rcases bo (decide (a≥194)) with e | e
   ·have z:=anT e o;refine vb e (wa (.int .u8 a) (wa (B (decide (a < 224))) ?_));obtain rfl:=si z;exact vv (B (decide (a < 224))) (wln (jn f ⟨g,rfl⟩))
   obtain rfl:=anF e o;exact vb e (pz (vv (B false) (wln (jn f ⟨g,rfl⟩))))
  rintro u x ⟨i,Z,_,rfl,b0,rfl,h,rfl⟩;refine nrm (cn b (fun R b=>?_) (fun R b=>?_))
  ·refine W.exit (thx (thx (bko rfl (thx (bko rfl (thx (bke (nrm (W.region (va (I 0) (vv (I (w64 (0+1))) (WL.nil (bkn (nrm (sr (va (I (w64 (0+1))) (vv (I (w64 ((w64 (0+1))+1))) (wln (W.exit (bke (nrm ?_)))))))))))))))))))));obtain rfl:=si b;exact jn i ⟨h,rfl⟩
  refine W.skip (nrm (sr (va (.int .u8 a) (vv (B (decide (a < 128))) (wln (cn b (fun S b=>?_) (fun S b=>?_)))))))
  ·refine W.exit (thx (bko rfl (thx (bko rfl (thx (bko rfl (thx (bke (nrm (sr (va (I 0) (vv (I (w64 (0+1))) (wln (W.exit (bke (nrm ?_))))))))))))))));obtain rfl:=si b;exact jn i ⟨h,rfl⟩
  refine W.skip (nrm (W.exit (bko rfl (thx (bko rfl (thx (bko rfl (thx (bko rfl (thx (bke (nrm ?_))))))))))));obtain rfl:=si b;exact jn i ⟨h,rfl⟩
 rintro u x ⟨E,a0,_,rfl,d0,rfl,D,rfl⟩;refine sr (vv (I k) (wln (W.ret ?_)));obtain rfl:=si T;exact r1 (qq E ⟨D,rfl⟩)
def lE (p0:Int):Option (Int):=
 (jp p0).bind fun a=>
 if (a==0)=true then
 some 0
 else
 if (a==1)=true then
 some (w64 p0)
 else
 (shn (w64 (7 - a))).bind fun b=>
 some (fy .i64 (w64 p0) (w64 ((w64 (1 * 2 ^ (min b 64))) - 1)))
theorem xo (j:Own c0 G F) (e:Int) {r:Int} (H:lE e=some r): Calls prog 266 #[.int .u8 e] c0.w (aT c0 fun c v=>Own c G (F)∧v=I r):=by
 unfold lE at H;refine en func266 rfl rfl (sr (va (I 0) (wln (sr (va (.int .u8 e) (bn H fun d k H=>cl (oP j e k) ?_))))));rintro v7 h n ⟨g,rfl⟩;refine va (I d) (wln (sr (va (I d) (wln (W.block (sr (vv (B (d==0)) (wln (cn H (fun l H=>?_) (fun l H=>?_))))))))))
 ·refine sr (va (I 0) (wln (W.ret (bkr ?_))));obtain rfl:=si H;exact r1 (qq h ⟨g,rfl⟩)
 refine sr (vv (B (d==1)) (wln (cn H (fun m H=>?_) (fun m H=>?_))))
 ·refine sr (va (.int .u8 e) (vv (I (w64 e)) (wln (W.ret (bkr ?_)))));obtain rfl:=si H;exact r1 (qq h ⟨g,rfl⟩)
 refine sr (va (.int .u8 e) (va (I (w64 e)) (va (I d) (va (I (w64 (7 - d))) (bn H fun f i H=>vr (I (w64 (1 * 2 ^ (min f 64)))) (Eg (k':= .i64) (a:=1) (b:=(w64 (7 - d))) i (by kernel_rfl) _) (va (I (w64 ((w64 (1 * 2 ^ (min f 64))) - 1))) (vv (I (fy .i64 (w64 e) (w64 ((w64 (1 * 2 ^ (min f 64))) - 1)))) (wln (W.ret (bkr ?_))))))))));obtain rfl:=si H;exact r1 (qq h ⟨g,rfl⟩)
def jY (p0:Int):Option (Int×Int):=
 (jp p0).bind fun b=>
 if (decide (b < 2))=true then
 some (0,0)
 else
 (if (p0==224)=true then
 some (160,191)
 else
 if (p0==240)=true then
 some (144,191)
 else
 if (p0==244)=true then
 some (128,(IntKind.u8.wrap ((IntKind.u8.wrap (191 - 16)) - 32)))
 else
 if (p0==237)=true then
 some (128,(IntKind.u8.wrap (191 - 32)))
 else
 some (128,191)).bind fun a=>
 some (a.1,a.2)
theorem vu (p:Own c0 G F) (b:Int) {r:Int×Int} (H:jY b=some r): Calls prog 220 #[.int .u8 b] c0.w (aT c0 fun c v=>Own c G (F)∧v= .tuple #[.int .u8 r.1,.int .u8 r.2]):=by
 unfold jY at H;refine en func220 rfl rfl (sr (vv (.int .u8 0) (wln (W.seq (sr (va (.int .u8 b) (bn H fun o q H=>cl (oP p b q) ?_)))))));rintro v7 e y ⟨f,rfl⟩;refine va (B (decide (o < 2))) (wln (cn H (fun s H=>?_) (fun s H=>?_)))
 ·refine sr (vv (.int .u8 0) (wln (W.ret (thr ?_))));obtain rfl:=si H;exact r2 (qq e ⟨f,rfl⟩)
 refine W.skip (nrm (sr (va (.int .u8 128) (va (.int .u8 191) (wln (bn H fun d a g=>W.seqJ (Jn e fun c l=>Own c G (F)∧l= [(2,.int .u8 d.1),(3,.int .u8 d.2)]) ?_ ?_))))))
 ·refine sr (va (.int .u8 b) (wln (W.block (W.seq (W.block (W.seq (W.block (W.seq (W.block (W.seq (W.block (W.seq (W.seq (sr (vv (B (b==224)) (wln (cn a (fun j a=>?_) (fun j a=>?_))))))))))))))))))
  ·refine W.exit (thx (thx (bke (nrm (sr (va (.int .u8 160) (wln (W.exit (bko rfl (thx (bko rfl (thx (bko rfl (thx (bke (nrm ?_))))))))))))))));obtain rfl:=si a;exact jn e ⟨f,rfl⟩
  refine W.skip (nrm (W.seq (sr (vv (B (b==240)) (wln (cn a (fun k a=>?_) (fun k a=>?_)))))))
  ·refine W.exit (thx (thx (bko rfl (thx (bke (nrm (sr (va (.int .u8 144) (wln (W.exit (bko rfl (thx (bko rfl (thx (bke (nrm ?_))))))))))))))));obtain rfl:=si a;exact jn e ⟨f,rfl⟩
  refine W.skip (nrm (W.seq (sr (vv (B (b==244)) (wln (cn a (fun m a=>?_) (fun m a=>?_)))))))
  ·refine W.exit (thx (thx (bko rfl (thx (bko rfl (thx (bke (nrm (W.region (va (.int .u8 191) (vv (.int .u8 (IntKind.u8.wrap (191 - 16))) (WL.nil (bkn (nrm (sr (va (.int .u8 (IntKind.u8.wrap (191 - 16))) (vv (.int .u8 (IntKind.u8.wrap ((IntKind.u8.wrap (191 - 16)) - 32))) (wln (W.exit (bke (nrm ?_)))))))))))))))))))));obtain rfl:=si a;exact jn e ⟨f,rfl⟩
  refine W.skip (nrm (sr (vv (B (b==237)) (wln (cn a (fun n a=>?_) (fun n a=>?_))))))
  ·refine W.exit (thx (bko rfl (thx (bko rfl (thx (bko rfl (thx (bke (nrm (sr (va (.int .u8 191) (vv (.int .u8 (IntKind.u8.wrap (191 - 32))) (wln (W.exit (bke (nrm ?_))))))))))))))));obtain rfl:=si a;exact jn e ⟨f,rfl⟩
  refine W.skip (nrm (W.exit (bko rfl (thx (bko rfl (thx (bko rfl (thx (bko rfl (thx (bke (nrm ?_))))))))))));obtain rfl:=si a;exact jn e ⟨f,rfl⟩
 rintro x z ⟨i,t,_,rfl,u,rfl,h,rfl⟩;refine sr (va (.int .u8 d.1) (va (.int .u8 d.2) (va (.int .u8 d.1) (va (.int .u8 d.2) (wln (W.ret ?_))))));obtain rfl:=si g;exact r2 (qq i ⟨h,rfl⟩)
def cp (p0:bA):Option (Int):=
 if false=true then
 some 0
 else
 some p0.held
theorem lP {b:Nat} {r0_0:Value} {r0_6:Value} {r0_7:Value} {r0_8:Value} {r0_9:Value} {r0_10:Value} {r0_11:Value} (a:bA) (e:Own c0 G ((Eb b 184 [r0_0,I a.held,I a.needs,.int .u8 a.lo,.int .u8 a.hi,I a.bits,r0_6,r0_7,r0_8,r0_9,r0_10,r0_11]) :: F)) {r:Int} (H:cp a=some r): Calls prog 223 #[.pointer (some ⟨b,1,none⟩)] c0.w (aT c0 fun c v=>Own c G ((Eb b 184 [r0_0,I a.held,I a.needs,.int .u8 a.lo,.int .u8 a.hi,I a.bits,r0_6,r0_7,r0_8,r0_9,r0_10,r0_11]) :: F)∧v=I r):=by
 unfold cp at H;refine en func223 rfl rfl (sr (va (I 0) (wln (W.seq (sr (va (Qo b 1) (va (B false) (wln (W.cond (t:=false) (by kernel_rfl) (fun d=>?_) (fun d=>?_))))))))))
 ·cases d
 have H:=ie d H;refine W.skip (nrm (sr (vv (Qo b 1) (va (Qo b 1) (vx (le1 1 u_3 (e.on 0 rfl)) (va (I a.held) (wln (W.ret ?_))))))));obtain rfl:=si H;exact r1 (qq c0 ⟨e,rfl⟩)
def bG (p0:bA):Option (bA×(List Int)):=
 (cp p0).bind fun a=>
 if (a==0)=true then
 some (p0,([]:List Int))
 else
 some ((⟨0,0,0,0,0⟩:bA),([65533]:List Int))
theorem iy {a:Nat} {r0_0:Value} {r0_6:Value} {r0_7:Value} {r0_8:Value} {r0_9:Value} {r0_10:Value} {r0_11:Value} (b:bA) (q:Own c0 G ((Eb a 184 [r0_0,I b.held,I b.needs,.int .u8 b.lo,.int .u8 b.hi,I b.bits,r0_6,r0_7,r0_8,r0_9,r0_10,r0_11]) :: F)) {r:bA×(List Int)} (H:bG b=some r): Calls prog 167 #[.pointer (some ⟨a,1,none⟩)] c0.w (aT c0 fun c v=>∃d p,Own c G (es true (RI .i32) d 21 p r.2 :: (Eb a 184 [r0_0,I r.1.held,I r.1.needs,.int .u8 r.1.lo,.int .u8 r.1.hi,I r.1.bits,r0_6,r0_7,r0_8,r0_9,r0_10,r0_11]) :: F)∧v=d∧OA (RI .i32) c d p r.2):=by
 unfold bG at H;refine en func167 rfl rfl (sr (va (Y) (wln (W.seq (sr (va (Qo a 1) (bn H fun o s H=>cl (lP b q s) ?_)))))));rintro v8 k z ⟨i,rfl⟩;refine va (B (o==0)) (wln (cn H (fun t H=>?_) (fun t H=>?_)))
 ·refine sr (va (Y) (wln (W.ret (thr ?_))));obtain rfl:=si H;have l:OA (RI .i32) k (Y) [] []:=OA.nil (aX _);have f:=i.addHole (e:=es true (RI .i32) (Y) 21 [] ([]:List Int)) rfl;exact r1 (qq k ⟨(Y),[],f,rfl,l⟩)
 refine W.skip (nrm (sr (va (Qo a 1) (va (.agg #[I 0,I 0,.int .u8 0,.int .u8 0,I 0]) (va (Qo a 1) (md (sB 179 1 [I 0,I 0,.int .u8 0,.int .u8 0,I 0] [r0_0,I 0,I 0,.int .u8 0,.int .u8 0,I 0,r0_6,r0_7,r0_8,r0_9,r0_10,r0_11] 0 i ⟨rfl,rfl,rfl,rfl,rfl,trivial⟩) ?_))))));rintro u x g;refine wln (sr (me (sl (RI .i32) 21 [[J 65533]] ([65533]:List Int) g ⟨rfl,trivial⟩) ?_));rintro v18 j y ⟨n,h,m⟩;refine va (v18) (wln (W.ret ?_));obtain rfl:=si H;exact r1 (qq j ⟨v18,n,h,rfl,m⟩)
def ck (p0:bA) (p1:Int):Option (bA×(List Int)):=
 (jp p1).bind fun a=>
 if (a==0)=true then
 some (p0,([65533]:List Int))
 else
 if (a==1)=true then
 some (p0,([(w32 p1)]:List Int))
 else
 (lE p1).bind fun c=>
 (jY p1).bind fun b=>
 some ((⟨1,(w64 (a - 1)),b.1,b.2,c⟩:bA),([]:List Int))
theorem iw {a:Nat} {r0_0:Value} {r0_6:Value} {r0_7:Value} {r0_8:Value} {r0_9:Value} {r0_10:Value} {r0_11:Value} (f:bA) (g:Int) (T:Own c0 G ((Eb a 184 [r0_0,I f.held,I f.needs,.int .u8 f.lo,.int .u8 f.hi,I f.bits,r0_6,r0_7,r0_8,r0_9,r0_10,r0_11]) :: F)) {r:bA×(List Int)} (H:ck f g=some r): Calls prog 222 #[.pointer (some ⟨a,1,none⟩),.int .u8 g] c0.w (aT c0 fun c v=>∃k S,Own c G (es true (RI .i32) k 21 S r.2 :: (Eb a 184 [r0_0,I r.1.held,I r.1.needs,.int .u8 r.1.lo,.int .u8 r.1.hi,I r.1.bits,r0_6,r0_7,r0_8,r0_9,r0_10,r0_11]) :: F)∧v=k∧OA (RI .i32) c k S r.2):=by
 unfold ck at H;refine en func222 rfl rfl (sr (va (Y) (wln (W.seq (sr (va (.int .u8 g) (bn H fun b X H=>cl (oP T g X) ?_)))))));rintro v7 c6 l6 ⟨j,rfl⟩;refine va (I b) (wln (sr (va (I b) (wln (W.block (sr (vv (B (b==0)) (wln (cn H (fun Z H=>?_) (fun Z H=>?_))))))))))
 ·refine sr (me (sl (RI .i32) 21 [[J 65533]] ([65533]:List Int) j ⟨rfl,trivial⟩) ?_);rintro v13 x h0 ⟨P,U,z⟩;refine va (v13) (wln (W.ret (bkr (thr ?_))));obtain rfl:=si H;exact r1 (qq x ⟨v13,P,U,rfl,z⟩)
 refine sr (vv (B (b==1)) (wln (cn H (fun A H=>?_) (fun A H=>?_))))
 ·refine sr (va (.int .u8 g) (va (J (w32 g)) (me (sl (RI .i32) 21 [[J (w32 g)]] ([(w32 g)]:List Int) j ⟨rfl,trivial⟩) ?_)));rintro v19 y i0 ⟨R,l,D⟩;refine va (v19) (wln (W.ret (bkr (thr ?_))));obtain rfl:=si H;exact r1 (qq y ⟨v19,R,l,rfl,D⟩)
 refine sr (vv (Qo a 1) (va (Qo a 1) (va (I b) (va (I (w64 (b - 1))) (va (.int .u8 g) (bn H fun h E H=>cl (xo j g E) ?_))))));rintro v26 a0 j0 ⟨m,rfl⟩;refine va (.pointer (some ⟨a,1,none⟩)) (va (Qo a 1) (md (sC 3 1 (I 1) [r0_0,I 1,I f.needs,.int .u8 f.lo,.int .u8 f.hi,I f.bits,r0_6,r0_7,r0_8,r0_9,r0_10,r0_11] 0 m ⟨rfl,trivial⟩) ?_));rintro b0 k0 n;refine va (.pointer (some ⟨a,1,none⟩)) (va (Qo a 2) (md (sC 3 2 (I (w64 (b - 1))) [r0_0,I 1,I (w64 (b - 1)),.int .u8 f.lo,.int .u8 f.hi,I f.bits,r0_6,r0_7,r0_8,r0_9,r0_10,r0_11] 0 n ⟨rfl,trivial⟩) ?_));rintro d0 l0 o;refine va (.pointer (some ⟨a,1,none⟩)) (va (Qo a 5) (md (sC 3 5 (I h) [r0_0,I 1,I (w64 (b - 1)),.int .u8 f.lo,.int .u8 f.hi,I h,r0_6,r0_7,r0_8,r0_9,r0_10,r0_11] 0 o ⟨rfl,trivial⟩) ?_));rintro e0 m0 p;refine wln (W.region (vv (Qo a 1) (va (.int .u8 g) (bn H fun d M H=>cl (vu p g M) ?_))));rintro v39 f0 o0 ⟨q,rfl⟩;refine va (.tuple #[.int .u8 d.1,.int .u8 d.2]) (va (.int .u8 d.1) (va (.int .u8 d.2) (va (Qo a 1) (va (Qo a 3) (md (sC 5 3 (.int .u8 d.1) [r0_0,I 1,I (w64 (b - 1)),.int .u8 d.1,.int .u8 f.hi,I h,r0_6,r0_7,r0_8,r0_9,r0_10,r0_11] 0 q ⟨rfl,trivial⟩) ?_)))));rintro g0 q0 s;refine va (.pointer (some ⟨a,1,none⟩)) (va (Qo a 4) (md (sC 5 4 (.int .u8 d.2) [r0_0,I 1,I (w64 (b - 1)),.int .u8 d.1,.int .u8 d.2,I h,r0_6,r0_7,r0_8,r0_9,r0_10,r0_11] 0 s ⟨rfl,trivial⟩) ?_));rintro i s0 t;refine WL.nil (bkn (nrm (sr (va (Y) (wln (W.ret ?_))))));obtain rfl:=si H;have N:OA (RI .i32) i (Y) [] []:=OA.nil (aX _);have u:=t.addHole (e:=es true (RI .i32) (Y) 21 [] ([]:List Int)) rfl;exact r1 (qq i ⟨(Y),[],u,rfl,N⟩)
def cN (p0:bA) (p1:Int):Option (bA×(List Int)):=
 if false=true then
 some (p0,([]:List Int))
 else
 if (p0.held==0)=true then
 (ck p0 p1).bind fun a=>
 some (a.1,a.2)
 else
 (orE (decide (p1 < p0.lo)) (some (decide (p1 > p0.hi)))).bind fun d=>
 if d=true then
 (bG p0).bind fun b=>
 (ck b.1 p1).bind fun c=>
 (app b.2 c.2).bind fun e=>
 some (c.1,e)
 else
 if (decide ((w64 (p0.needs - 1)) > 0))=true then
 some ((⟨(w64 (p0.held+1)),(w64 (p0.needs - 1)),128,191,(iQ .i64 (w64 (p0.bits * 2 ^ 6)) (w64 (fy .u8 p1 63)))⟩:bA),([]:List Int))
 else
 some ((⟨0,0,0,0,0⟩:bA),([(w32 (iQ .i64 (w64 (p0.bits * 2 ^ 6)) (w64 (fy .u8 p1 63))))]:List Int))
theorem lO {a:Nat} {r0_0:Value} {r0_6:Value} {r0_7:Value} {r0_8:Value} {r0_9:Value} {r0_10:Value} {r0_11:Value} (b:bA) (d:Int) (h:Own c0 G ((Eb a 184 [r0_0,I b.held,I b.needs,.int .u8 b.lo,.int .u8 b.hi,I b.bits,r0_6,r0_7,r0_8,r0_9,r0_10,r0_11]) :: F)) {r:bA×(List Int)} (H:cN b d=some r): Calls prog 166 #[.pointer (some ⟨a,1,none⟩),.int .u8 d] c0.w (aT c0 fun c v=>∃x y2,Own c G (es true (RI .i32) x 21 y2 r.2 :: (Eb a 184 [r0_0,I r.1.held,I r.1.needs,.int .u8 r.1.lo,.int .u8 r.1.hi,I r.1.bits,r0_6,r0_7,r0_8,r0_9,r0_10,r0_11]) :: F)∧v=x∧OA (RI .i32) c x y2 r.2):=by
 unfold cN at H;refine en func166 rfl rfl (sr (va (Y) (wln (W.seq (W.block (sr (va (Qo a 1) (vv (B false) (wln (W.cond (t:=false) (by kernel_rfl) (fun s=>?_) (fun s=>?_)))))))))))
 ·cases s
 have H:=ie s H;refine sr (vv (Qo a 1) (va (Qo a 1) (vx (le1 1 u_3 (h.on 0 rfl)) (vv (B (b.held==0)) (wln (cn H (fun h2 H=>?_) (fun h2 H=>?_)))))))
 ·refine sr (va (Qo a 1) (va (.int .u8 d) (bn H fun z0 h4 H=>cl (iw b d h h4) ?_)));rintro v5 X q1 ⟨_,u6,O9,rfl,h7⟩;refine va (v5) (wln (W.ret (bkr (thr ?_))));obtain rfl:=si H;exact r1 (qq X ⟨v5,u6,O9,rfl,h7⟩)
 refine W.seq (bn H fun q o H=>W.join (Jn c0 fun c l=>Own c G ((Eb a 184 [r0_0,I b.held,I b.needs,.int .u8 b.lo,.int .u8 b.hi,I b.bits,r0_6,r0_7,r0_8,r0_9,r0_10,r0_11]) :: F)∧l= [(0,.pointer (some ⟨a,1,none⟩)),(1,.int .u8 d),(18,B q)]) ?_ ?_)
 ·clear H;refine W.region (va (.int .u8 d) (vv (Qo a 1) (va (Qo a 3) (vx (le1 3 u_5 (h.on 0 rfl)) (va (B (decide (d < b.lo))) ?_)))));rcases bo (decide (d < b.lo)) with f | f
  ·obtain rfl:=orT f o;exact vb f (pz (pz (pz (vv (B true) (wln (jn c0 ⟨h,rfl⟩))))))
  have y:=orF f o;refine vb f (wa (.int .u8 d) (wa (Qo a 1) (wa (Qo a 1) (wa (Qo a 4) (wn (vx (le1 4 u_5 (h.on 0 rfl)) (wa (B (decide (d > b.hi))) ?_)))))));obtain rfl:=si y;exact vv (B (decide (d > b.hi))) (wln (jn c0 ⟨h,rfl⟩))
 rintro e_ w_ ⟨c1,n1,_,rfl,s1,rfl,i,rfl⟩;refine nrm (cn H (fun b0 H=>?_) (fun b0 H=>?_))
 ·refine sr (va (Qo a 1) (bn H fun u d0 H=>cl (iy b i d0) ?_));rintro v26 d1 t1 ⟨_,g2,z,rfl,e0⟩;refine va (.pointer (some ⟨a,1,none⟩)) (va (.int .u8 d) ?_);have A:=z.sD 2 [1,0];refine bn H fun a1 f0 H=>cl (iw u.1 d A f0) ?_;rintro v37 e1 u1 ⟨_,i2,D,rfl,g0⟩;obtain ⟨f1,i0,v1,E,h0⟩:=D.frz 0 rfl g0;refine WL.gh i0 (bn H fun b1 j0 H=>me (ap (RI .i32) (J 0) 4 32 2 E e0.m h0 j0 cS) ?_);rintro v55 Z w1 ⟨q0,M,k0⟩;refine va (v55) (wln (W.ret (bkr (thr ?_))));obtain rfl:=si H;have N:=M.sD 3 [2,1];exact r1 (qq Z ⟨v55,q0,N,rfl,k0⟩)
 refine W.skip (bkn (nrm (sr (vv (Qo a 1) (va (Qo a 1) (va (Qo a 5) (vx (le1 5 u_3 (i.on 0 rfl)) (va (I (w64 (b.bits * 2 ^ 6))) (va (.int .u8 d) (va (.int .u8 (fy .u8 d 63)) (va (I (w64 (fy .u8 d 63))) (va (I (iQ .i64 (w64 (b.bits * 2 ^ 6)) (w64 (fy .u8 d 63)))) (va (Qo a 1) (va (Qo a 5) (md (sC 3 5 (I (iQ .i64 (w64 (b.bits * 2 ^ 6)) (w64 (fy .u8 d 63)))) [r0_0,I b.held,I b.needs,.int .u8 b.lo,.int .u8 b.hi,I (iQ .i64 (w64 (b.bits * 2 ^ 6)) (w64 (fy .u8 d 63))),r0_6,r0_7,r0_8,r0_9,r0_10,r0_11] 0 i ⟨rfl,trivial⟩) ?_)))))))))))))));rintro g1 x1 P;refine wln (sr (vv (Qo a 1) (va (Qo a 1) (va (Qo a 3) (md (sC 5 3 (.int .u8 128) [r0_0,I b.held,I b.needs,.int .u8 128,.int .u8 b.hi,I (iQ .i64 (w64 (b.bits * 2 ^ 6)) (w64 (fy .u8 d 63))),r0_6,r0_7,r0_8,r0_9,r0_10,r0_11] 0 P ⟨rfl,trivial⟩) ?_)))));rintro i1 z1 R;refine va (.pointer (some ⟨a,1,none⟩)) (va (Qo a 4) (md (sC 5 4 (.int .u8 191) [r0_0,I b.held,I b.needs,.int .u8 128,.int .u8 191,I (iQ .i64 (w64 (b.bits * 2 ^ 6)) (w64 (fy .u8 d 63))),r0_6,r0_7,r0_8,r0_9,r0_10,r0_11] 0 R ⟨rfl,trivial⟩) ?_));rintro j1 b2 j;refine wln (sr (vv (Qo a 1) (va (Qo a 1) (vx (le1 1 u_3 (j.on 0 rfl)) (va (I (w64 (b.held+1))) (vv (Qo a 1) (md (sC 3 1 (I (w64 (b.held+1))) [r0_0,I (w64 (b.held+1)),I b.needs,.int .u8 128,.int .u8 191,I (iQ .i64 (w64 (b.bits * 2 ^ 6)) (w64 (fy .u8 d 63))),r0_6,r0_7,r0_8,r0_9,r0_10,r0_11] 0 j ⟨rfl,trivial⟩) ?_)))))));rintro k1 c2 k;refine wln (sr (vv (Qo a 1) (va (Qo a 2) (vx (le1 2 u_3 (k.on 0 rfl)) (va (I (w64 (b.needs - 1))) (va (Qo a 1) (va (Qo a 2) (md (sC 3 2 (I (w64 (b.needs - 1))) [r0_0,I (w64 (b.held+1)),I (w64 (b.needs - 1)),.int .u8 128,.int .u8 191,I (iQ .i64 (w64 (b.bits * 2 ^ 6)) (w64 (fy .u8 d 63))),r0_6,r0_7,r0_8,r0_9,r0_10,r0_11] 0 k ⟨rfl,trivial⟩) ?_))))))));rintro n d2 g;refine wln (W.seq (sr (vv (Qo a 1) (va (Qo a 2) (vx (le1 2 u_3 (g.on 0 rfl)) (va (B (decide ((w64 (b.needs - 1)) > 0))) (wln (cn H (fun l0 H=>?_) (fun l0 H=>?_)))))))))
 ·refine sr (va (Y) (wln (W.ret (thr ?_))));obtain rfl:=si H;have m0:OA (RI .i32) n (Y) [] []:=OA.nil (aX _);have S:=g.addHole (e:=es true (RI .i32) (Y) 21 [] ([]:List Int)) rfl;exact r1 (qq n ⟨(Y),[],S,rfl,m0⟩)
 refine W.skip (nrm (sr (vv (Qo a 1) (va (Qo a 5) (vx (le1 5 u_3 (g.on 0 rfl)) (vv (J (w32 (iQ .i64 (w64 (b.bits * 2 ^ 6)) (w64 (fy .u8 d 63))))) (wln (sr (va (Qo a 1) (va (.agg #[I 0,I 0,.int .u8 0,.int .u8 0,I 0]) (va (Qo a 1) (md (sB 179 1 [I 0,I 0,.int .u8 0,.int .u8 0,I 0] [r0_0,I 0,I 0,.int .u8 0,.int .u8 0,I 0,r0_6,r0_7,r0_8,r0_9,r0_10,r0_11] 0 g ⟨rfl,rfl,rfl,rfl,rfl,trivial⟩) ?_))))))))))));rintro m1 e2 T;refine wln (sr (va (J (w32 (iQ .i64 (w64 (b.bits * 2 ^ 6)) (w64 (fy .u8 d 63))))) (me (sl (RI .i32) 21 [[J (w32 (iQ .i64 (w64 (b.bits * 2 ^ 6)) (w64 (fy .u8 d 63))))]] ([(w32 (iQ .i64 (w64 (b.bits * 2 ^ 6)) (w64 (fy .u8 d 63))))]:List Int) T ⟨rfl,trivial⟩) ?_)));rintro p a0 f2 ⟨s0,U,o0⟩;refine va (p) (wln (W.ret ?_));obtain rfl:=si H;exact r1 (qq a0 ⟨p,s0,U,rfl,o0⟩)
def gt (sg:Sto) (p0:Option Nat) (p1:List Int):Option (Sto):=
 if p0.isNone=true then
 some sg
 else
 (cJ (σ:=Int×Sto) (τ:=Sto) (((p1.length:Int) - 0).toNat+1) (fun b=>
 if (decide (b.1 < (p1.length:Int)))=true then
 (idx p1 b.1).bind fun f=>
 (p0).bind fun d=>
 (b.2.feed_Feeder[d]?).bind fun a=>
 (cN a.dec f).bind fun e=>
 (b.2.set_feed_Feeder d (⟨a.pen,e.1,a.seg,a.open_⟩:bC)).bind fun c=>
 (gi c p0 e.2).bind fun g=>
 some (.inl ((w64 (b.1+1)),g))
 else
 some (.inr (b.2))) (0,sg)).bind fun h=>
 some h
theorem qP (M:Own c0 G F) (R0:Rel c0 sg G) (hG:Gl [2,4] c0) (j:Option Nat) (k:List Int) {r:Sto} (t:Pt 4 c0 v1 j) (u:Sl (RI .u8) c0 v3 k) (H:gt sg j k=some r): Calls prog 107 #[v1,v3] c0.w (aT c0 fun c v=>∃G_:Gm,Own c G_ (F)∧Rel c r G_∧v= .tuple #[]):=by
 unfold gt at H;refine en func107 rfl rfl (W.seq (sr (va (v1) (vr (B j.isNone) (by rcases (t).cs with ⟨p,s⟩ | ⟨b_,p,s⟩ <;> (subst p; rw [s]; kernel_rfl)) (wln (cn H (fun h5 H=>?_) (fun h5 H=>?_)))))))
 ·refine W.ret (thr ?_);obtain rfl:=si H;exact r0 (qq c0 ⟨G,M,R0,rfl⟩)
 refine W.skip (nrm (sr (va (v3) (vx (ln 3 tM u) (va (I 0) (wln (W.block (bn H fun y1 h6 E=>lp h6 (fun d=>Jn c0 fun c l=>∃G_,Own c G_ (F)∧l= [(0,v1),(8,v3),(9,I (k.length:Int)),(10,I d.1)]∧Rel c d.2 G_) (fun x ex e w=>ex= .exit 0∧(Jn c0 fun c l=>∃G_,Own c G_ (F)∧l= []∧Rel c x G_) e w) ?_ ?_ ?_))))))))
 ·clear E h6;intro d b2 i0 c1 H;revert i0 c1;rintro e_ w_ ⟨c8,g9,_,rfl,l8,rfl,z,n,rfl,h⟩;refine sr (va (B (decide (d.1 < (k.length:Int)))) (wln (W.seq (cn H (fun j0 H=>?_) (fun j0 H=>?_)))))
  ·refine W.skip (nrm (W.seq (W.block (sr (bn H fun f o H=>?_)))));obtain ⟨h1,k0,b1⟩:=Sl.at (u.mono l8) (bz o);obtain rfl:=k0;refine vx (ix tM u.m o) (vx (l1 u_5 (b1 0 _ rfl)) (va (.int .u8 f) (wln (W.region (vv (v1) (bn H fun g1 l0 H=>?_))))));obtain ⟨g,rfl,q⟩:=((t.mono l8)).get l0;refine va (Q g) (va (Qo g 1) (va (.int .u8 f) (bn H fun a m0 H=>?_)));obtain ⟨v23,v25,s0,o0,q0⟩:=Rel.open_feed_Feeder h m0 q;have N:=n.borrow 0 s0 rfl;refine bn H fun b t0 H=>cl (lO a.dec f N t0) ?_;rintro v31 n1 i ⟨_,z1,P,rfl,u0⟩;have S:=P.sD 2 [1,0];have R:=S.giveB 0 rfl;refine bn H fun y v0 H=>?_;obtain ⟨k1,T,d0,t1,m1⟩:=Rel.put_feed_Feeder R (h.mono i) (E':=[(Eb g 184 [v23,I b.1.held,I b.1.needs,.int .u8 b.1.lo,.int .u8 b.1.hi,I b.1.bits,B a.seg.some,I a.seg.last,I a.seg.pict,I a.seg.conj,B a.seg.odd,v25])]) v0 ⟨g,v23,v25,(tm q),rfl,(o0.mono i),(q0.mono i)⟩;obtain ⟨q1,x0,u1,U,w0⟩:=T.frz 0 rfl u0;refine WL.gh x0 (bn H fun j1 y0 H=>cl (nz U d0.m (hG.m.le (by decide)) j b.2 t.m w0 y0) ?_);rintro v58 g0 w1 ⟨A,X,e0,rfl⟩;refine WL.nil (bkn (nrm (W.region (vv (I (w64 (d.1+1))) (WL.nil ?_)))));obtain rfl:=si H;refine ⟨_,rfl,?_⟩;have Z:=X.sD 1 [];exact jn g0 ⟨A,Z,rfl,e0⟩
  refine W.exit (thx ?_);obtain rfl:=si H;exact ⟨_,rfl,rfl,jn c8 ⟨z,n,rfl,h⟩⟩
 ·exact jn c0 ⟨G,M,rfl,R0⟩
 rintro _ e_ w_ ⟨rfl,h0,s1,_,rfl,x1,rfl,D,a0,rfl,f0⟩;refine bke ?_;obtain rfl:=si E;exact n0 (qq h0 ⟨D,a0,f0,rfl⟩)
def gq (sg:Sto) (p0:Option Nat):Option (Sto):=
 if p0.isNone=true then
 some sg
 else
 (p0).bind fun c=>
 (sg.feed_Feeder[c]?).bind fun a=>
 (bG a.dec).bind fun d=>
 (sg.set_feed_Feeder c (⟨a.pen,d.1,a.seg,a.open_⟩:bC)).bind fun b=>
 (gi b p0 d.2).bind fun f=>
 (cX f p0).bind fun e=>
 some e
theorem qO (l:Own c0 G F) (j:Rel c0 sg G) (hG:Gl [2,4] c0) (f:Option Nat) {r:Sto} (g:Pt 4 c0 v1 f) (H:gq sg f=some r): Calls prog 108 #[v1] c0.w (aT c0 fun c v=>∃G_:Gm,Own c G_ (F)∧Rel c r G_∧v= .tuple #[]):=by
 unfold gq at H;refine en func108 rfl rfl (W.seq (sr (va (v1) (vr (B f.isNone) (by rcases (g).cs with ⟨h,i⟩ | ⟨b_,h,i⟩ <;> (subst h; rw [i]; kernel_rfl)) (wln (cn H (fun h3 H=>?_) (fun h3 H=>?_)))))))
 ·refine W.ret (thr ?_);obtain rfl:=si H;exact r0 (qq c0 ⟨G,l,j,rfl⟩)
 refine W.skip (nrm (sr (vv (v1) (bn H fun s0 h6 H=>?_))));obtain ⟨d,rfl,h5⟩:=(g).get h6;refine va (Q d) (va (Qo d 1) (bn H fun a h7 H=>?_));obtain ⟨v8,v10,N,h9,M⟩:=Rel.open_feed_Feeder j h7 h5;have n:=l.borrow 0 N rfl;refine bn H fun b P H=>cl (iy a.dec n P) ?_;rintro v16 l0 e ⟨_,w0,o,rfl,R⟩;have q:=o.sD 2 [1,0];have p:=q.giveB 0 rfl;refine bn H fun b0 S H=>?_;obtain ⟨i0,s,z,q0,k0⟩:=Rel.put_feed_Feeder p (j.mono e) (E':=[(Eb d 184 [v8,I b.1.held,I b.1.needs,.int .u8 b.1.lo,.int .u8 b.1.hi,I b.1.bits,B a.seg.some,I a.seg.last,I a.seg.pict,I a.seg.conj,B a.seg.odd,v10])]) S ⟨d,v8,v10,(tm h5),rfl,(h9.mono e),(M.mono e)⟩;obtain ⟨m0,U,t0,t,T⟩:=s.frz 0 rfl R;refine WL.gh U (bn H fun x0 X H=>cl (nz t z.m (hG.m.le (by decide)) f b.2 g.m T X) ?_);rintro v43 o0 u0 ⟨j0,u,A,rfl⟩;refine wln (W.region (va (Q d) (bn H fun h0 Z H=>cl (iS u A f g.m Z) ?_)));rintro v50 E v0 ⟨k,x,D,rfl⟩;refine WL.nil ?_;obtain rfl:=si H;have y:=x.sD 1 [];exact n0 (qq E ⟨k,y,D,rfl⟩)
end Go.Proofs.YtclmdpamofdoiaaGreatDoor
